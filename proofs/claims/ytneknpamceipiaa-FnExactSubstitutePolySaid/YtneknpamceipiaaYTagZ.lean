/- Lists of polynomials among the arguments: opened, their sizes, copies told apart; no condition. -/
import Derived.Test.YtneknpamceipiaaYTagC
import Derived.Test.YtneknpamceipiaaYTagL
import Derived.Test.YtneknpamceipiaaYOpenA
import Derived.Test.YtneknpamceipiaaYAccK
set_option linter.unusedVariables false
set_option linter.unusedSimpArgs false
namespace Go.Proofs.Ytneknpamceipiaa
open Go.RowKit Go.Proofs.YtneknpamceipiaaW.PrintWords
attribute [local go_sem] Later.cell Later.frozen Later.lt Later.lt_add Later.le Later.le_add Later.ne Later.ne' add_at
open Go.ChangeShapes Go.WideShapes
theorem opens_P {P : Program} {t i s e : TypeId} {f0 f1 f2 : Field} (ht : P.underlying t = some (.struct #[f0, f1, f2])) (h0 : f0.type = i) (h1 : f1.type = i) (h2 : f2.type = s) (o0 : f0.offset = 0) (o1 : f1.offset = 1) (o2 : f2.offset = 2) (hi : P.underlying i = some (.int .i64)) (hs : P.underlying s = some (.slice e)) (hc : P.cellsOf e = 4) (ho : Opens P kT e)
    (ct : P.cellsOf t = 3) (ci : P.cellsOf i = 1) (cs0 : P.cellsOf s = 1) : Opens P kP t := by
  intro H enc w base spare held fuel cs x hx
  obtain ⟨xs, n, _, _, hl, hxl, hf⟩ := DataW.trod_struct ht hx
  rw [ct] at hl
  have g0 := hf 0 f0 rfl
  have g1 := hf 1 f1 rfl
  have g2 := hf 2 f2 rfl
  rw [h0, o0, ci] at g0
  rw [h1, o1, ci] at g1
  rw [h2, o2, cs0] at g2
  match xs, hxl with
  | [y0, y1, y2], _ =>
    match cs, hl with
    | [c0, c1, c2], _ =>
      obtain ⟨v0, e0, _, _⟩ := DataW.trod_int hi (x := y0) (by simpa using g0)
      obtain ⟨v1, e1, _, _⟩ := DataW.trod_int hi (x := y1) (by simpa using g1)
      obtain ⟨ts, A, c, e2, hl2, hcc⟩ := opens_slice hs hc ho z4 enc w base spare held n _ y2 (by simpa using g2)
      refine ⟨⟨v0, v1, ts⟩, A, c, ?_, hcc⟩
      simp at e0 e1 e2
      rw [e0, e1, e2]
theorem opensP : Opens Try.prog kP 39 := opens_P Try.underlying39 rfl rfl rfl rfl rfl rfl Try.underlying2 Try.underlying37 (by kernel_rfl) opensT (by kernel_rfl) (by kernel_rfl) (by kernel_rfl)
theorem kP_lens {w : World} {A : Option Addr} {n : Nat} {ps : List PV} (h : kP.C w A n ps) : ∀ x ∈ ps, x.ts.length ≤ 9223372036854775807 := by
  intro x hx
  obtain ⟨i, hi, rfl⟩ := List.getElem_of_mem hx
  have hn := Kd.C_len h
  obtain ⟨_, _, _, _, _, _, _, _, hC⟩ := kP_at h i (by omega)
  have e : ps.getD i zP = ps[i] := by simp [List.getD_eq_getElem?_getD, hi]
  rw [e] at hC
  exact hC.2.1
/-! ### sizes -/
def goP : List PV → Int → Int
  | [], k => k
  | x :: xs, k => if k < x.ts.length then -1 else goP xs (k - x.ts.length)
def szP (ps : List PV) (k : Int) : Int := if k - ps.length < 0 then -1 else goP ps (k - ps.length)
def sumP (ps : List PV) : Int := (ps.map fun x => (x.ts.length : Int)).sum
theorem sumP_cons (x : PV) (xs : List PV) : sumP (x :: xs) = x.ts.length + sumP xs := rfl
theorem sumP_pos : ∀ xs : List PV, 0 ≤ sumP xs
  | [] => Int.le_refl _
  | x :: xs => by have := sumP_pos xs; rw [sumP_cons]; omega
theorem goP_sum : ∀ (xs : List PV) (k : Int), 0 ≤ goP xs k → sumP xs ≤ k
  | [], k, h => h
  | x :: xs, k, h => by
    unfold goP at h
    split at h
    · omega
    · have := goP_sum xs _ h
      rw [sumP_cons]
      omega
theorem mem_sumP : ∀ (xs : List PV), ∀ x ∈ xs, (x.ts.length : Int) ≤ sumP xs
  | [], _, h => by cases h
  | y :: ys, x, h => by
    rw [sumP_cons]
    rcases List.mem_cons.1 h with rfl | h'
    · have := sumP_pos ys; omega
    · have := mem_sumP ys x h'; omega
theorem endP_sum : ∀ (xs : List PV) (k : Int), endP k xs = k + 2 * xs.length + 4 * sumP xs
  | [], k => by simp [endP, sumP]
  | x :: xs, k => by
    rw [endP, endP_sum xs, sumP_cons, List.length_cons]
    omega
theorem goP_drop (ps : List PV) (i : Nat) (hi : i < ps.length) (k : Int) : goP (ps.drop i) k = if k < (ps.getD i zP).ts.length then -1 else goP (ps.drop (i + 1)) (k - (ps.getD i zP).ts.length) := by
  rw [List.drop_eq_getElem_cons hi]
  rw [show ps.getD i zP = ps[i] by simp [List.getD_eq_getElem?_getD, hi]]
  rfl
set_option maxRecDepth 100000 in
theorem szPolyS_c (A : Option Addr) (n c : Nat) (ps : List PV) (k : Int) (w : World) (hC : kP.C w A n ps) (hk : 0 ≤ k) (hk' : k ≤ 1048576) (hn : n ≤ 9223372036854775807) :
    Calls Try.prog 21 #[.slice A n c, .int .i64 k] w (Gives (.int .i64 (szP ps k)) w) := by
  have hpl := Kd.C_len hC
  have hw : IntKind.i64.wrap (k - (n : Int)) = k - n := i64_small (by omega) (by omega)
  have HR := Lib.hid (kP_lens hC)
  have HPL := Lib.hid hpl
  by_cases h : k - (n : Int) < 0
  · have e : szP ps k = -1 := by unfold szP; rw [hpl]; exact if_pos h
    rw [e]
    clear hpl
    go_enter Try.func21, Try.ntmps21
    go_wp2
    go_ret
    exact .mk rfl (by repeat (first | (with_reducible assumption) | (with_reducible exact Below.refl _ _) | (with_reducible refine Below.drew ?_) | (with_reducible refine pw_below_drewN ?_ _) | ((first | (with_reducible refine Below.alloc ?_ ?_ _) | (with_reducible refine Below.setCell ?_ ?_ _) | (with_reducible refine below_hop (by assumption) ?_ ?_)); rotate_left; (focus (first | omega | (simp; first | done | omega) | (simp [Later.le, Later.le_add, Later.lt, Later.lt_add]; first | done | omega)))) | ((with_reducible refine bel_later _ ?_ ?_); rotate_left; (focus (first | omega | (simp; first | done | omega) | (simp [Later.le, Later.le_add, Later.lt, Later.lt_add]; first | done | omega))))))
  · have e : szP ps k = goP ps (k - n) := by unfold szP; rw [hpl]; exact if_neg h
    have E := Lib.hid e
    clear e hpl
    go_enter Try.func21, Try.ntmps21
    go_wp2
    go_loopg [5, 1] n (fun g v5 v1 w' => ∃ (i : Nat) (q : Int), i + g = n ∧ v5 = .int .i64 i ∧ v1 = .int .i64 q ∧ 0 ≤ q ∧ q ≤ 1048576 ∧ goP (ps.drop i) q = goP ps (k - n) ∧ Below w.heap.size w w')
    case atStart => exact ⟨0, _, by omega, rfl, rfl, by omega, by omega, rfl, (by repeat (first | (with_reducible assumption) | (with_reducible exact Below.refl _ _) | (with_reducible refine Below.drew ?_) | (with_reducible refine pw_below_drewN ?_ _) | ((first | (with_reducible refine Below.alloc ?_ ?_ _) | (with_reducible refine Below.setCell ?_ ?_ _) | (with_reducible refine below_hop (by assumption) ?_ ?_)); rotate_left; (focus (first | omega | (simp; first | done | omega) | (simp [Later.le, Later.le_add, Later.lt, Later.lt_add]; first | done | omega)))) | ((with_reducible refine bel_later _ ?_ ?_); rotate_left; (focus (first | omega | (simp; first | done | omega) | (simp [Later.le, Later.le_add, Later.lt, Later.lt_add]; first | done | omega))))))⟩
    case round =>
      obtain ⟨i, q, hik, rfl, rfl, hq0, hq1, hgo, hbel⟩ := hrel
      have HIK := Lib.hid hik
      have HGO := Lib.hid hgo
      clear hik hgo
      by_cases hlt : i < n
      · obtain ⟨b1, o1, A1, c1, hA, p0, p1, p2, hX⟩ := kP_at hC i hlt
        subst hA
        have p0 := pw_cell_below hbel p0
        have p1 := pw_cell_below hbel p1
        have p2 := pw_cell_below hbel p2
        have hi0 : (0 : Int) ≤ i := by omega
        have hi1 : (i : Int) < n := by omega
        have hin : ((i : Int)).toNat = i := by omega
        have hi2 : i < ps.length := by rw [HPL.out]; exact hlt
        have hst := goP_drop ps i hi2 q
        have hyl := HR.out _ (getD_memL hi2)
        have hS := fun W => szPoly_c (ps.getD i zP).p (ps.getD i zP).d A1 (ps.getD i zP).ts.length c1 q hq0 hq1 hyl W
        clear hi2
        by_cases hz : q < ((ps.getD i zP).ts.length : Int)
        · have HG := Lib.hid (show szP ps k = -1 by rw [E.out, ← HGO.out, hst, if_pos hz])
          rw [if_pos hz] at hS
          clear hst
          rw [HG.out]
          generalize ps.getD i zP = y at *
          go_wp2_with (go_at_call 20; (with_reducible refine to_gives (V := wr) (Below.refl _ _) (hS _) ?_); intro W9 hv9 _)
          go_ret
          exact .mk rfl (hbel.trans (hv9.mono hbel.size))
        · rw [if_neg hz] at hst hS
          have HST := Lib.hid (hst.symm.trans HGO.out)
          clear hst
          generalize ps.getD i zP = y at *
          have hnz : ¬ q - (y.ts.length : Int) < 0 := by omega
          go_wp2_with (go_at_call 20; (with_reducible refine to_gives (V := wr) (Below.refl _ _) (hS _) ?_); intro W9 hv9 _)
          go_roundg (n - i - 1)
          case measure => have := HIK.out; omega
          case rel => exact ⟨i + 1, _, by have := HIK.out; omega, by go_num, rfl, by omega, by omega, HST.out, hbel.trans (hv9.mono hbel.size)⟩
      · have hie : i = n := by have := HIK.out; omega
        subst hie
        have HG := Lib.hid (show szP ps k = q by rw [E.out, ← HGO.out, ← HPL.out, List.drop_length]; rfl)
        go_wp2
        go_ret
        exact .mk (by rw [HG.out]; rfl) (by repeat (first | (with_reducible assumption) | (with_reducible exact Below.refl _ _) | (with_reducible refine Below.drew ?_) | (with_reducible refine pw_below_drewN ?_ _) | ((first | (with_reducible refine Below.alloc ?_ ?_ _) | (with_reducible refine Below.setCell ?_ ?_ _) | (with_reducible refine below_hop (by assumption) ?_ ?_)); rotate_left; (focus (first | omega | (simp; first | done | omega) | (simp [Later.le, Later.le_add, Later.lt, Later.lt_add]; first | done | omega)))) | ((with_reducible refine bel_later _ ?_ ?_); rotate_left; (focus (first | omega | (simp; first | done | omega) | (simp [Later.le, Later.le_add, Later.lt, Later.lt_add]; first | done | omega))))))
/-! ### copies -/
theorem to_makesT {ps : List PV} {E : Nat} {P : Program} {f : FuncId} {args : Array Value} {V W : World} {R : Ending → World → Prop} (hW : Below V.heap.size V W)
    (h : Calls P f args W (MakesT E ps W)) (k : ∀ W' A c qs, Below V.heap.size V W' → Below W.heap.size W W' → qs.map Prod.fst = ps → Apart qs → (tagK kP).R E W' W.heap.size (fun _ => True) (.slice A ps.length c) qs → R (.returned (.slice A ps.length c)) W') : Calls P f args W R :=
  h.mono fun _ w' ⟨v, qs, he, hq, ha, hr, hb⟩ => by
    obtain ⟨A, c, hv, _, _⟩ := Kd.R_reads hr
    have hl : qs.length = ps.length := by rw [← hq, List.length_map]
    rw [hl] at hv
    subst hv
    subst he
    exact k w' A c qs (hW.trans (hb.mono hW.size)) hb hq ha hr
theorem tagCL {e base n c : Nat} {ok : Nat → Prop} {W : World} {A : Option Addr} {qs : List (PV × Option Nat)} {ps : List PV} (h : (tagK kP).R e W base ok (.slice A n c) qs) (hq : qs.map Prod.fst = ps) (hn : ps.length = n) : kP.C W A n ps := by
  have h1 := (Kd.R_reads' (tag_R h)).2.2
  rw [hq, hn] at h1
  exact h1
theorem fr_cell {w w' : World} {ok : Nat → Prop} (hf : ∀ a, a < w.heap.size → ¬ ok a → w'.heap[a]? = w.heap[a]?) {a : Addr} {v : Value} (h : w.cell? a = some v) (ha : ¬ ok a.block) : w'.cell? a = some v := by
  rw [World.cell?_of_block (hf a.block (World.block_lt_of_cell? _ _ h) ha)]
  exact h
theorem fr_row {α : Type} {d : Kd α} {E lo a b : Nat} {ok : Nat → Prop} {w w' : World} {v : Value} {xs : List α} (hf : ∀ a, a < w.heap.size → ¬ ok a → w'.heap[a]? = w.heap[a]?) (h : d.R E w lo (fun k => a ≤ k ∧ k < b) v xs) (hb : b ≤ w.heap.size) (hd : ∀ k, a ≤ k → k < b → ¬ ok k) : d.R E w' lo (fun k => a ≤ k ∧ k < b) v xs :=
  Kd.R_move h fun k hk => hf k (by omega) (hd k hk.1 hk.2)
end Go.Proofs.Ytneknpamceipiaa
