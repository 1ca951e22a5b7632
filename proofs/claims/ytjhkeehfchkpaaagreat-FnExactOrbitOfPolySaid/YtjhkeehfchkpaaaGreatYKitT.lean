/- Walks of the functions on polynomials, numbers and rows, of both sides; no condition. -/
import Derived.Test.YtjhkeehfchkpaaaGreatYE1
import Derived.Test.YtjhkeehfchkpaaaGreatYOrb3
import Derived.Test.YtjhkeehfchkpaaaGreatYKitC
import Derived.Test.YtjhkeehfchkpaaaGreatYKitP
import Derived.Test.YtjhkeehfchkpaaaGreatYWLast
/- Lists of polynomials whose rows lie in blocks of their own: kinds with tags; no condition. -/
set_option linter.unusedVariables false
set_option linter.unusedSimpArgs false
namespace Go.Proofs.YtjhkeehfchkpaaaGreat
open Go.RowKit Go.Proofs.YtjhkeehfchkpaaaGreatW.PrintWords
attribute [local go_sem] Later.cell Later.frozen Later.lt Later.lt_add Later.le Later.le_add Later.ne Later.ne' add_at
/-- A kind whose elements also tell in which block the row of their last cell lies. -/
def tagK {α : Type} (d : Kd α) : Kd (α × Option Nat) where
  sz := d.sz
  E := d.E
  K := fun w x cs => d.K w x.1 cs ∧ (cs.getLast?.bind Value.ownBlock) = x.2
  M := fun w base ok x cs => d.M w base ok x.1 cs ∧ (cs.getLast?.bind Value.ownBlock) = x.2
  K_len := fun h => d.K_len h.1
  K_one := fun h => d.K_one h.1
  K_below := fun hb h => ⟨d.K_below hb h.1, h.2⟩
  K_of_M := fun h => ⟨d.K_of_M h.1, h.2⟩
  M_mono := fun hok h => ⟨d.M_mono hok h.1, h.2⟩
  M_bound := fun h => ⟨d.M_bound h.1, h.2⟩
  M_move := fun hm h => ⟨d.M_move hm h.1, h.2⟩
  M_lower := fun hb h => ⟨d.M_lower hb h.1, h.2⟩
theorem tag_R {α : Type} {d : Kd α} {e base : Nat} {ok : Nat → Prop} {w : World} {v : Value} {qs : List (α × Option Nat)} (h : (tagK d).R e w base ok v qs) : d.R e w base ok v (qs.map Prod.fst) := by
  obtain ⟨h0, inner, ho, hr⟩ := h
  refine ⟨h0, inner, by rw [List.length_map]; exact ho, by rw [List.length_map]; exact hr.1, fun j p hj => ?_⟩
  rw [List.getElem?_map] at hj
  obtain ⟨q, hq, rfl⟩ := Option.map_eq_some_iff.1 hj
  exact (hr.2 j q hq).1
/-- No two of the rows lie in one block. -/
def Apart {α : Type} (qs : List (α × Option Nat)) : Prop := qs.Pairwise fun a b => a.2 = none ∨ a.2 ≠ b.2
theorem apart_snoc {α : Type} {qs : List (α × Option Nat)} {x : α × Option Nat} (h : Apart qs) (hx : ∀ q ∈ qs, q.2 = none ∨ q.2 ≠ x.2) : Apart (qs ++ [x]) :=
  List.pairwise_append.2 ⟨h, List.pairwise_singleton _ _, fun a ha b hb => by
    rw [List.mem_singleton] at hb
    subst hb
    exact hx a ha⟩
theorem tagP_own0 {e base g n c : Nat} {ok : Nat → Prop} {W : World} {qs : List (PV × Option Nat)} (h : (tagK kP).R e W base ok (.slice (some ⟨g, 0, none⟩) n c) qs) {i : Nat} (hi : i < n) {p d : Int} {xt : List T4} {t : Option Nat} (hx : qs.getD i (zP, none) = (⟨p, d, xt⟩, t)) :
    ∃ A' c', W.cell? ⟨g, i * 3, none⟩ = some (.int .i64 p) ∧ W.cell? ⟨g, i * 3 + 1, none⟩ = some (.int .i64 d) ∧ W.cell? ⟨g, i * 3 + 2, none⟩ = some (.slice A' xt.length c') ∧ kT.R 80 W base (fun k => ok k ∧ k ≠ g) (.slice A' xt.length c') xt ∧ (Value.slice A' xt.length c').ownBlock = t := by
  obtain ⟨hn, hnc, hC⟩ := Kd.R_reads' h
  subst hn
  obtain ⟨cs, hl, hM, hcell, _⟩ := Kd.R_elem h (zP, none) (i : Int) (by omega) (by omega)
  rw [Int.toNat_natCast] at hM
  rw [hx] at hM
  obtain ⟨⟨A', c', rfl, hR⟩, ht⟩ := hM
  have q0 := hcell 0 _ rfl
  have q1 := hcell 1 _ rfl
  have q2 := hcell 2 _ rfl
  rw [Int.toNat_natCast] at q0 q1 q2
  exact ⟨A', c', q0, q1, q2, hR, ht⟩
theorem tagP_form {e base n c : Nat} {ok : Nat → Prop} {W : World} {A : Option Addr} {qs : List (PV × Option Nat)} (h : (tagK kP).R e W base ok (.slice A n c) qs) (hn : 0 < n) : ∃ g, A = some ⟨g, 0, none⟩ ∧ base ≤ g ∧ g < W.heap.size := by
  obtain ⟨hl, _, _⟩ := Kd.R_reads' h
  obtain ⟨g, cap, hv, h1, h2, _⟩ := Kd.R_form h (by omega)
  injection hv with hA _ _
  exact ⟨g, hA, h1, h2⟩
/-- The blocks of the rows: within what is ok. -/
theorem tagP_mem {e base n c : Nat} {ok : Nat → Prop} {W : World} {A : Option Addr} {qs : List (PV × Option Nat)} (h : (tagK kP).R e W base ok (.slice A n c) qs) : ∀ q ∈ qs, ∀ k, q.2 = some k → ok k ∧ base ≤ k ∧ k < W.heap.size := by
  intro q hq k hk
  obtain ⟨i, hi, rfl⟩ := List.getElem_of_mem hq
  have hn := (Kd.R_reads' h).1
  obtain ⟨g, rfl, _⟩ := tagP_form h (by omega)
  have hx : qs.getD i (zP, none) = (⟨qs[i].1.p, qs[i].1.d, qs[i].1.ts⟩, qs[i].2) := by simp [List.getD_eq_getElem?_getD, hi]
  obtain ⟨A', c', _, _, _, hR, ht⟩ := tagP_own0 h (by omega) hx
  have := (Kd.R_bound hR).1 k (ht.trans hk)
  exact ⟨this.1.1, this.2.1, this.2.2.1⟩
theorem tagP_own {e base n c : Nat} {ok : Nat → Prop} {W : World} {A : Option Addr} {qs : List (PV × Option Nat)} (h : (tagK kP).R e W base ok (.slice A n c) qs) {i : Nat} (hi : i < n) {p d : Int} {xt : List T4} {t : Option Nat} (hx : qs.getD i (zP, none) = (⟨p, d, xt⟩, t)) :
    ∃ b o A' c', A = some ⟨b, o, none⟩ ∧ W.cell? ⟨b, o + i * 3, none⟩ = some (.int .i64 p) ∧ W.cell? ⟨b, o + i * 3 + 1, none⟩ = some (.int .i64 d) ∧ W.cell? ⟨b, o + i * 3 + 2, none⟩ = some (.slice A' xt.length c') ∧ kT.R 80 W base ok (.slice A' xt.length c') xt ∧ (Value.slice A' xt.length c').ownBlock = t := by
  obtain ⟨g, rfl, _⟩ := tagP_form h (by omega)
  obtain ⟨A', c', q0, q1, q2, hR, ht⟩ := tagP_own0 h hi hx
  refine ⟨g, 0, A', c', rfl, ?_, ?_, ?_, Kd.R_mono hR fun k hk => hk.1, ht⟩
  · rw [Nat.zero_add]; exact q0
  · rw [Nat.zero_add]; exact q1
  · rw [Nat.zero_add]; exact q2
/-- A list of polynomials, each in a row of its own, that a call makes. -/
def MakesT (E : Nat) (ps : List PV) (w : World) (e : Ending) (w' : World) : Prop := ∃ v qs, e = .returned v ∧ qs.map Prod.fst = ps ∧ Apart qs ∧ (tagK kP).R E w' w.heap.size (fun _ => True) v qs ∧ Below w.heap.size w w'
theorem R_zeroT {α : Type} (d : Kd α) {e g base : Nat} {W : World} (hg : W.heap[g]? = some (.cells #[] e (0, 0))) (hb : base ≤ g) : (tagK d).R e W base (fun _ => True) (.slice (some ⟨g, 0, none⟩) 0 0) [] := R_zero2 (tagK d) (fun _ => True) trivial hg hb
theorem map_getD {qs : List (PV × Option Nat)} {ps : List PV} (h : qs.map Prod.fst = ps) {j : Nat} (hj : j < ps.length) : ∃ t, qs.getD j (zP, none) = (ps.getD j zP, t) := by
  subst h
  rw [List.length_map] at hj
  exact ⟨qs[j].2, by simp [List.getD_eq_getElem?_getD, hj]⟩
theorem map_take_getD {qs : List (PV × Option Nat)} {j : Nat} {x : PV × Option Nat} (hj : j < qs.length) (hx : qs.getD j (zP, none) = x) : qs.take (j + 1) = qs.take j ++ [x] := by
  rw [List.take_succ_eq_append_getElem hj]
  congr 2
  rw [← hx]
  simp [List.getD_eq_getElem?_getD, hj]
end Go.Proofs.YtjhkeehfchkpaaaGreat
/- Marks on lists of polynomials: eqPolyS, markPolyS, heldPolyS; no condition. -/
set_option linter.unusedVariables false
set_option linter.unusedSimpArgs false
namespace Go.Proofs.YtjhkeehfchkpaaaGreat
open Go.RowKit Go.Proofs.YtjhkeehfchkpaaaGreatW.PrintWords
attribute [local go_sem] Later.cell Later.frozen Later.lt Later.lt_add Later.le Later.le_add Later.ne Later.ne' add_at
open Go.Proofs.YtjhkeehfchkpaaaGreatW.PrintLast
/-! ### one row of a list is written -/
theorem kT_tight {e base : Nat} {ok : Nat → Prop} {W : World} {v : Value} {xs : List T4} (h : kT.R e W base ok v xs) : kT.R e W base (fun k => v.ownBlock = some k) v xs := ⟨fun _ hk => hk, h.2.imp_ fun _ _ hp => hp⟩
theorem tagP_row {e base g n c : Nat} {ok : Nat → Prop} {W w1 : World} {qs : List (PV × Option Nat)} (h : (tagK kP).R e W base ok (.slice (some ⟨g, 0, none⟩) n c) qs) (hap : Apart qs) {i : Nat} (hi : i < n) {p d : Int} {xt xt' : List T4} {t : Option Nat} (hx : qs.getD i (zP, none) = (⟨p, d, xt⟩, t)) {A' : Option Addr} {c' : Nat}
    (hcell : W.cell? ⟨g, i * 3 + 2, none⟩ = some (.slice A' xt.length c')) (hlen : xt'.length = xt.length) (hgt : some g ≠ t) (hg : W.grownBy w1 t) {ok' : Nat → Prop} (hR : kT.R 80 w1 base ok' (.slice A' xt.length c') xt') :
    (tagK kP).R e w1 base ok (.slice (some ⟨g, 0, none⟩) n c) (qs.set i (⟨p, d, xt'⟩, t)) := by
  have hn := (Kd.R_reads' h).1
  have hgl := (Kd.R_bound h).1 g (by simp [Value.ownBlock])
  obtain ⟨h0, inner, ho, hr⟩ := h
  have hgb : w1.heap[g]? = W.heap[g]? := hg.block g hgl.2.2.1 hgt
  refine ⟨h0, inner, ?_, ?_, fun j q hj => ?_⟩
  · rw [List.length_set]
    exact own_move ho fun k hk => by
      have : g = k := by simpa [Value.ownBlock] using hk
      rw [← this]
      exact hgb
  · rw [List.length_set]; exact hr.1
  · rw [List.getElem?_set] at hj
    by_cases e1 : i = j
    · subst e1
      rw [if_pos rfl, if_pos (by omega)] at hj
      injection hj with hj
      subst hj
      have hget : qs[i]? = some (⟨p, d, xt⟩, t) := by
        rw [← hx, List.getD_eq_getElem?_getD]
        rw [List.getElem?_eq_getElem (by omega)]
        rfl
      obtain ⟨⟨A0, c0, hcs, hR0⟩, ht⟩ := hr.2 i _ hget
      have hc2 : W.cell? ⟨g, i * 3 + 2, none⟩ = some (.slice A0 xt.length c0) := by
        have hin : ((inner.drop (i * 3)).take 3)[2]? = some (.slice A0 xt.length c0) := by
          have h9 : (inner.drop (i * (tagK kP).sz)).take (tagK kP).sz = [.int .i64 p, .int .i64 d, .slice A0 xt.length c0] := hcs
          have h8 : (inner.drop (i * 3)).take 3 = [.int .i64 p, .int .i64 d, .slice A0 xt.length c0] := h9
          rw [h8]
          rfl
        rw [List.getElem?_take, if_pos (by omega), List.getElem?_drop] at hin
        have := ho.cells (g := g) (by simp [Value.ownBlock]) _ _ hin
        rwa [add_plain] at this
      rw [hc2] at hcell
      injection hcell with hcell
      injection hcell with hA _ hcc
      subst hA
      subst hcc
      refine ⟨⟨A0, c0, by rw [hlen]; exact hcs, ?_⟩, ht⟩
      have h7 := kT_tight hR
      rw [hlen]
      refine Kd.R_mono h7 fun k hk => ?_
      exact hR0.1 k hk
    · rw [if_neg e1] at hj
      obtain ⟨⟨A0, c0, hcs, hR0⟩, ht⟩ := hr.2 j _ hj
      have hjl : j < qs.length := by
        have := (List.getElem?_eq_some_iff.1 hj).1
        exact this
      have hdiff : ∀ k, (Value.slice A0 q.1.ts.length c0).ownBlock = some k → some k ≠ t := by
        intro k hk e2
        have htq : q.2 = some k := by
          have ht' : ((inner.drop (j * (tagK kP).sz)).take (tagK kP).sz).getLast?.bind Value.ownBlock = q.2 := ht
          rw [hcs] at ht'
          rw [← ht']
          exact hk
        have hqi : qs[i]? = some (⟨p, d, xt⟩, t) := by
          rw [← hx, List.getD_eq_getElem?_getD]
          rw [List.getElem?_eq_getElem (by omega)]
          rfl
        have hpi := List.pairwise_iff_getElem.1 hap
        have gi : qs[i]'(by omega) = (⟨p, d, xt⟩, t) := by
          have := hqi
          rw [List.getElem?_eq_getElem (by omega)] at this
          injection this
        have gj : qs[j] = q := by
          have := hj
          rw [List.getElem?_eq_getElem hjl] at this
          injection this
        rcases Nat.lt_or_gt_of_ne e1 with hlt | hgt'
        · have := hpi i j (by omega) hjl hlt
          rw [gi, gj, htq, e2] at this
          rcases this with h | h
          · rw [← e2] at h; cases h
          · exact h rfl
        · have := hpi j i hjl (by omega) hgt'
          rw [gi, gj, htq, e2] at this
          rcases this with h | h
          · rw [← e2] at h; cases h
          · exact h rfl
      refine ⟨⟨A0, c0, hcs, ?_⟩, ht⟩
      have h7 := Kd.R_grown (kT_tight hR0) hg hdiff
      exact Kd.R_mono h7 fun k hk => hR0.1 k hk
theorem tagP_apart_set {qs : List (PV × Option Nat)} (h : Apart qs) {i : Nat} {x y : PV} {t : Option Nat} (hx : qs.getD i (zP, none) = (x, t)) (hi : i < qs.length) : Apart (qs.set i (y, t)) := by
  have e : (qs.set i (y, t)).map Prod.snd = qs.map Prod.snd := by
    rw [List.map_set]
    have : qs[i].2 = t := by
      have : qs.getD i (zP, none) = qs[i] := by simp [List.getD_eq_getElem?_getD, hi]
      rw [← this, hx]
    apply List.ext_getElem?
    intro j
    rw [List.getElem?_set]
    by_cases e : i = j
    · subst e
      simp [hi, this]
    · simp [e]
  have k : ∀ (l : List (PV × Option Nat)), Apart l ↔ (l.map Prod.snd).Pairwise fun a b => a = none ∨ a ≠ b := fun l => by
    rw [Apart, List.pairwise_map]
  rw [k, e]
  exact (k qs).1 h
/-! ### marks -/
def marksP : Int → List PV → List PV
  | _, [] => []
  | k, x :: xs => ⟨k, k + 1, marksL (k + 1 + 1) x.ts.length⟩ :: marksP (k + 1 + 1 + 4 * (x.ts.length : Int)) xs
def endP : Int → List PV → Int
  | k, [] => k
  | k, x :: xs => endP (k + 1 + 1 + 4 * (x.ts.length : Int)) xs
theorem endP_snoc (x : PV) : ∀ (xs : List PV) (k : Int), endP k (xs ++ [x]) = endP k xs + 1 + 1 + 4 * (x.ts.length : Int)
  | [], _ => rfl
  | _ :: xs, _ => endP_snoc x xs _
theorem marksP_snoc (x : PV) : ∀ (xs : List PV) (k : Int), marksP k (xs ++ [x]) = marksP k xs ++ [⟨endP k xs, endP k xs + 1, marksL (endP k xs + 1 + 1) x.ts.length⟩]
  | [], _ => rfl
  | y :: xs, k => by
    show _ :: marksP _ (xs ++ [x]) = _ :: (marksP _ xs ++ _)
    rw [marksP_snoc x xs]
    rfl
theorem marksP_len : ∀ (xs : List PV) (k : Int), (marksP k xs).length = xs.length
  | [], _ => rfl
  | _ :: xs, k => by rw [marksP, List.length_cons, marksP_len xs, List.length_cons]
theorem endP_bd {B : Nat} : ∀ (xs : List PV) (k : Int), (∀ x ∈ xs, x.ts.length ≤ B) → k ≤ endP k xs ∧ endP k xs ≤ k + xs.length * (2 + 4 * (B : Int))
  | [], k, _ => by simp [endP]
  | x :: xs, k, h => by
    have h1 := h x (by simp)
    obtain ⟨h2, h3⟩ := endP_bd xs (k + 1 + 1 + 4 * (x.ts.length : Int)) fun y hy => h y (by simp [hy])
    have e : (((x :: xs).length : Nat) : Int) * (2 + 4 * (B : Int)) = (xs.length : Int) * (2 + 4 * (B : Int)) + (2 + 4 * (B : Int)) := by
      rw [List.length_cons, Int.natCast_add, Int.add_mul]
      simp
    rw [endP, e]
    constructor <;> omega
theorem take_snoc {ps : List PV} {i : Nat} (h : i < ps.length) : ps.take (i + 1) = ps.take i ++ [ps.getD i zP] := by
  have e : ps.getD i zP = ps[i] := by simp [List.getD_eq_getElem?_getD, h]
  rw [List.take_succ_eq_append_getElem h, e]
end Go.Proofs.YtjhkeehfchkpaaaGreat
/- Lists of polynomials compared, marked and read back: eqPolyS, markPolyS, heldPolyS; no condition. -/
set_option linter.unusedVariables false
set_option linter.unusedSimpArgs false
namespace Go.Proofs.YtjhkeehfchkpaaaGreat
open Go.RowKit Go.Proofs.YtjhkeehfchkpaaaGreatW.PrintWords
attribute [local go_sem] Later.cell Later.frozen Later.lt Later.lt_add Later.le Later.le_add Later.ne Later.ne' add_at
open Go.Proofs.YtjhkeehfchkpaaaGreatW.PrintLast
set_option maxRecDepth 100000 in
set_option maxHeartbeats 4000000 in
theorem eqPolyS_same (A B : Option Addr) (c b n : Nat) (ps : List PV) (w : World) (hC : kP.C w A n ps) (hD : kP.C w B n ps) (hn : n ≤ 1048576) (hl : ∀ x ∈ ps, x.ts.length ≤ 1048576) :
    Calls Tryz.prog 39 #[.slice A n c, .slice B n b] w (Gives (.bool true) w) := by
  have hpl := Kd.C_len hC
  have HPL := Lib.hid hpl
  clear hpl
  go_enter Tryz.func39, Tryz.ntmps39
  go_wp2
  go_loopg [5] n (fun g v w' => ∃ (i : Nat) (z : Later w), i + g = n ∧ v = .int .i64 i ∧ w' = z.W)
  case atStart => exact ⟨0, ⟨w, Below.refl _ _⟩, by omega, rfl, rfl⟩
  case round =>
    obtain ⟨i, z, hik, rfl, rfl⟩ := hrel
    have HIK := Lib.hid hik
    clear hik
    by_cases hi : i < n
    · obtain ⟨b1, o1, A1, c1, hA, p0, p1, p2, hX⟩ := kP_at hC i hi
      obtain ⟨b2, o2, A2, c2, hB, u0, u1, u2, hY⟩ := kP_at hD i hi
      subst hA
      subst hB
      have p0 := pw_cell_below z.ok p0
      have p1 := pw_cell_below z.ok p1
      have p2 := pw_cell_below z.ok p2
      have u0 := pw_cell_below z.ok u0
      have u1 := pw_cell_below z.ok u1
      have u2 := pw_cell_below z.ok u2
      have hX := Kd.C_below hX z.ok
      have hY := Kd.C_below hY z.ok
      have hi0 : (0 : Int) ≤ i := by omega
      have hi1 : (i : Int) < n := by omega
      have hin : ((i : Int)).toNat = i := by omega
      have hyl := hl _ (getD_memP (ps := ps) (i := i) (by rw [HPL.out]; exact hi))
      have hE := fun W h h' => eqPoly_same (ps.getD i zP).p (ps.getD i zP).d A1 A2 c1 c2 (ps.getD i zP).ts W h h' hyl
      generalize ps.getD i zP = y at *
      go_wp2
      refine start_ (n := 10) (S := fun w' => w'.cell? ⟨b1, o1 + i * 3, none⟩ = some (.int .i64 y.p) ∧ w'.cell? ⟨b1, o1 + i * 3 + 1, none⟩ = some (.int .i64 y.d) ∧ w'.cell? ⟨b1, o1 + i * 3 + 2, none⟩ = some (.slice A1 y.ts.length c1) ∧ w'.cell? ⟨b2, o2 + i * 3, none⟩ = some (.int .i64 y.p) ∧ w'.cell? ⟨b2, o2 + i * 3 + 1, none⟩ = some (.int .i64 y.d) ∧ w'.cell? ⟨b2, o2 + i * 3 + 2, none⟩ = some (.slice A2 y.ts.length c2)) (ds := []) #[false, false, false, false, false, false, false, false, false, false] (by kernel_rfl) rfl rfl ⟨p0, p1, p2, u0, u1, u2⟩ (fun hHeld => ?_)
      refine pure_ (i := 0) (N := some 17) (v := ?_) (a' := ?_) #[true, false, false, false, false, false, false, false, false, false] rfl rfl (by kernel_rfl) (fun _ _ _ h => h) (Or.inl ⟨by rfl, ?_⟩) ?_ ?_
      rotate_left
      · intro w'
        go_simp
        with_reducible rfl
      rotate_left
      · simp only [Act.put, List.setIfInBounds_toArray, List.set_cons_zero, List.set_cons_succ, i64_w, i32_w]
        rfl
      refine pure_ (i := 1) (N := some 18) (v := ?_) (a' := ?_) #[true, true, false, false, false, false, false, false, false, false] rfl rfl (by kernel_rfl) (fun _ _ _ h => h) (Or.inl ⟨by rfl, ?_⟩) ?_ ?_
      rotate_left
      · intro w'
        go_simp
        with_reducible rfl
      rotate_left
      · simp only [Act.put, List.setIfInBounds_toArray, List.set_cons_zero, List.set_cons_succ, i64_w, i32_w]
        rfl
      refine pure_ (i := 2) (N := some 19) (v := ?_) (a' := ?_) #[true, true, true, false, false, false, false, false, false, false] rfl rfl (by kernel_rfl) (fun _ _ _ h => h) (Or.inl ⟨by rfl, ?_⟩) ?_ ?_
      rotate_left
      · intro w'
        go_simp
        with_reducible rfl
      rotate_left
      · simp only [Act.put, List.setIfInBounds_toArray, List.set_cons_zero, List.set_cons_succ, i64_w, i32_w]
        rfl
      refine pure_ (i := 4) (N := some 21) (v := ?_) (a' := ?_) #[true, true, true, false, true, false, false, false, false, false] rfl rfl (by kernel_rfl) (fun _ _ _ h => h) (Or.inl ⟨by rfl, ?_⟩) ?_ ?_
      rotate_left
      · intro w'
        go_simp
        with_reducible rfl
      rotate_left
      · simp only [Act.put, List.setIfInBounds_toArray, List.set_cons_zero, List.set_cons_succ, i64_w, i32_w]
        rfl
      refine pure_ (i := 5) (N := some 22) (v := ?_) (a' := ?_) #[true, true, true, false, true, true, false, false, false, false] rfl rfl (by kernel_rfl) (fun _ _ _ h => h) (Or.inl ⟨by rfl, ?_⟩) ?_ ?_
      rotate_left
      · intro w'
        go_simp
        with_reducible rfl
      rotate_left
      · simp only [Act.put, List.setIfInBounds_toArray, List.set_cons_zero, List.set_cons_succ, i64_w, i32_w]
        rfl
      refine pure_ (i := 6) (N := some 23) (v := ?_) (a' := ?_) #[true, true, true, false, true, true, true, false, false, false] rfl rfl (by kernel_rfl) (fun _ _ _ h => h) (Or.inl ⟨by rfl, ?_⟩) ?_ ?_
      rotate_left
      · intro w'
        go_simp
        with_reducible rfl
      rotate_left
      · simp only [Act.put, List.setIfInBounds_toArray, List.set_cons_zero, List.set_cons_succ, i64_w, i32_w]
        rfl
      refine take_ (i := 3) (N := some 20) (v := ?_) (a' := ?_) #[true, true, true, true, true, true, true, false, false, false] rfl rfl (by kernel_rfl) (fun _ _ _ h => h) (Or.inl ⟨by rfl, ?_⟩) hHeld ?_ ?_
      rotate_left
      · rintro w' ⟨s0, s1, s2, s3, s4, s5⟩
        go_simp
        with_reducible rfl
      rotate_left
      · simp only [Act.put, List.setIfInBounds_toArray, List.set_cons_zero, List.set_cons_succ, i64_w, i32_w]
        rfl
      refine take_ (i := 7) (N := some 24) (v := ?_) (a' := ?_) #[true, true, true, true, true, true, true, true, false, false] rfl rfl (by kernel_rfl) (fun _ _ _ h => h) (Or.inl ⟨by rfl, ?_⟩) hHeld ?_ ?_
      rotate_left
      · rintro w' ⟨s0, s1, s2, s3, s4, s5⟩
        go_simp
        with_reducible rfl
      rotate_left
      · simp only [Act.put, List.setIfInBounds_toArray, List.set_cons_zero, List.set_cons_succ, i64_w, i32_w]
        rfl
      refine one_ (i := 8) (N := some 25) #[true, true, true, true, true, true, true, true, true, false] rfl rfl (by kernel_rfl) (by decide) (fun K hK => ?_)
      refine goes_ Tryz.func20 (by kernel_rfl) rfl #[.agg #[.int .i64 y.p, .int .i64 y.d, .slice A1 y.ts.length c1], .agg #[.int .i64 y.p, .int .i64 y.d, .slice A2 y.ts.length c2]] (by rfl) rfl rfl (by simp only [List.map_toArray, List.map_cons, List.map_nil]; rfl) ?_
      with_reducible refine (hE _ (Kd.C_below hX (Below.refl _ _).drew) (Kd.C_below hY (Below.refl _ _).drew)).mono ?_
      rintro e' yw ⟨rfl, hb9'⟩
      refine ⟨_, rfl, ?_⟩
      have hqx := below_undrewA hb9'
      refine hK.out _ _ ⟨pw_cell_below hqx p0, pw_cell_below hqx p1, pw_cell_below hqx p2, pw_cell_below hqx u0, pw_cell_below hqx u1, pw_cell_below hqx u2⟩ (fun hHeld => ?_)
      clear hK K
      refine norm_ (a' := ?_) ?_ ?_
      rotate_left
      · show Act.put _ (some 25) _ = _
        simp only [Act.put, List.setIfInBounds_toArray, List.set_cons_zero, List.set_cons_succ, i64_w, i32_w]
        rfl
      refine pure_ (i := 9) (N := some 26) (v := ?_) (a' := ?_) #[true, true, true, true, true, true, true, true, true, true] rfl rfl (by kernel_rfl) (fun _ _ _ h => h) (Or.inl ⟨by rfl, ?_⟩) ?_ ?_
      rotate_left
      · intro w'
        go_simp
        with_reducible rfl
      rotate_left
      · simp only [Act.put, List.setIfInBounds_toArray, List.set_cons_zero, List.set_cons_succ, i64_w, i32_w]
        rfl
      refine done_ (by kernel_rfl) ?_
      go_wp2
      go_roundg (gk - 1)
      case measure => have := HIK.out; omega
      case rel => exact ⟨i + 1, ⟨yw, z.ok.trans (hqx.mono z.ok.size)⟩, by have := HIK.out; omega, by go_num, rfl⟩
    · go_wp2
      go_ret
      exact .mk rfl z.ok
set_option maxRecDepth 100000 in
set_option maxHeartbeats 4000000 in
theorem heldPolyS_c (A : Option Addr) (c n : Nat) (ps : List PV) (k : Int) (w : World) (hC : kP.C w A n (marksP k ps)) (hn : ps.length = n) (hn2 : n ≤ 48) (hl : ∀ x ∈ ps, x.ts.length ≤ 1183) (hk : 0 ≤ k) (hk' : k ≤ 1000000) :
    Calls Tryz.prog 41 #[.slice A n c, .int .i64 k] w (Gives (.int .i64 (endP k ps)) w) := by
  have HLL := Lib.hid hl
  have HN := Lib.hid hn
  have hbd : ∀ i, k ≤ endP k (ps.take i) ∧ endP k (ps.take i) ≤ 2000000 := fun i => by
    have h1 := endP_bd (B := 1183) (ps.take i) k (fun x hx => hl x (List.mem_of_mem_take hx))
    have h2 : (ps.take i).length ≤ 48 := by rw [List.length_take]; omega
    have h3 : ((ps.take i).length : Int) * (2 + 4 * (1183 : Nat)) ≤ 48 * (2 + 4 * (1183 : Nat)) := Int.mul_le_mul_of_nonneg_right (by omega) (by decide)
    constructor
    · exact h1.1
    · have := h1.2
      simp at h3 this
      omega
  have HBD := Lib.hid hbd
  clear hl hn hbd
  go_enter Tryz.func41, Tryz.ntmps41
  go_wp2
  go_loopg [5, 1] n (fun g v kk w' => ∃ i : Nat, i + g = n ∧ v = .int .i64 i ∧ kk = .int .i64 (endP k (ps.take i)) ∧ w' = w)
  case atStart => exact ⟨0, by omega, rfl, rfl, rfl⟩
  case round =>
    obtain ⟨i, hik, rfl, rfl, rfl⟩ := hrel
    have HIK := Lib.hid hik
    clear hik
    by_cases hi : i < n
    · have hi2 : i < ps.length := by rw [HN.out]; exact hi
      have hmk : (marksP k ps).getD i zP = ⟨endP k (ps.take i), endP k (ps.take i) + 1, marksL (endP k (ps.take i) + 1 + 1) (ps.getD i zP).ts.length⟩ := by
        have h1 := marksP_snoc (ps.getD i zP) (ps.take i) k
        rw [← take_snoc hi2] at h1
        have h2 : marksP k ps = marksP k (ps.take (i + 1)) ++ marksP (endP k (ps.take (i + 1))) (ps.drop (i + 1)) := by
          have key : ∀ (a b : List PV) (k : Int), marksP k (a ++ b) = marksP k a ++ marksP (endP k a) b := by
            intro a
            induction a with
            | nil => intro b k; rfl
            | cons x a ih => intro b k; show _ :: marksP _ (a ++ b) = _ :: (marksP _ a ++ _); rw [ih]; rfl
          rw [← key, List.take_append_drop]
        have hl1 : (marksP k (ps.take i)).length = i := by rw [marksP_len, List.length_take]; omega
        rw [h2, h1, List.getD_eq_getElem?_getD, List.append_assoc, List.getElem?_append_right (by omega), hl1, Nat.sub_self]
        rfl
      obtain ⟨b, o, A1, c1, hA, p0, p1, p2, hX⟩ := kP_at hC i hi
      rw [hmk] at p0 p1 p2 hX
      simp only [marksL_len] at p0 p1 p2 hX
      subst hA
      have hbi := HBD.out i
      have hbj := HBD.out (i + 1)
      have hyl := HLL.out _ (getD_memP hi2)
      have hst : endP k (ps.take (i + 1)) = endP k (ps.take i) + 1 + 1 + 4 * ((ps.getD i zP).ts.length : Int) := by rw [take_snoc hi2, endP_snoc]
      have HST := Lib.hid hst
      have hi0 : (0 : Int) ≤ i := by omega
      have hi1 : (i : Int) < n := by omega
      have hin : ((i : Int)).toNat = i := by omega
      clear hmk hst
      generalize ps.getD i zP = y at *
      generalize endP k (ps.take i) = E at *
      have hH := heldTermS_c A1 c1 y.ts.length (E + 1 + 1) wr hX (by omega) (by omega) (by omega)
      go_wp2_with (go_at_call 63; (with_reducible refine call_same hH ?_))
      go_roundg (gk - 1)
      case measure => have := HIK.out; omega
      case rel => exact ⟨i + 1, by have := HIK.out; omega, by go_num, by rw [HST.out], rfl⟩
    · have e : i = n := by have := HIK.out; omega
      subst e
      have ep : ps.take i = ps := by rw [← HN.out, List.take_length]
      rw [ep]
      go_wp2
      go_ret
      exact .mk rfl (Below.refl _ _)
set_option maxRecDepth 100000 in
set_option maxHeartbeats 8000000 in
theorem markPolyS_c (A : Option Addr) (c n : Nat) (ps : List PV) (qs : List (PV × Option Nat)) (k : Int) (w : World) (base : Nat) (ok : Nat → Prop) (hR : (tagK kP).R 38 w base ok (.slice A n c) qs) (hq : qs.map Prod.fst = ps) (hap : Apart qs) (hn : ps.length = n) (hn2 : n ≤ 48) (hl : ∀ x ∈ ps, x.ts.length ≤ 1183) (hk : 0 ≤ k) (hk' : k ≤ 1000000) :
    Calls Tryz.prog 40 #[.slice A n c, .int .i64 k] w (fun e w' => e = .returned (.int .i64 (endP k ps)) ∧ (∃ qs', qs'.map Prod.fst = marksP k ps ∧ (tagK kP).R 38 w' base ok (.slice A n c) qs') ∧ Below base w w') := by
  have HLL := Lib.hid hl
  have HN := Lib.hid hn
  have hbd : ∀ i, k ≤ endP k (ps.take i) ∧ endP k (ps.take i) ≤ 2000000 := fun i => by
    have h1 := endP_bd (B := 1183) (ps.take i) k (fun x hx => hl x (List.mem_of_mem_take hx))
    have h2 : (ps.take i).length ≤ 48 := by rw [List.length_take]; omega
    have h3 : ((ps.take i).length : Int) * (2 + 4 * (1183 : Nat)) ≤ 48 * (2 + 4 * (1183 : Nat)) := Int.mul_le_mul_of_nonneg_right (by omega) (by decide)
    constructor
    · exact h1.1
    · have := h1.2
      simp at h3 this
      omega
  have HBD := Lib.hid hbd
  have hm0 : (qs.map Prod.fst) = marksP k (ps.take 0) ++ ps.drop 0 := by rw [hq]; rfl
  clear hl hn hbd hq
  go_enter Tryz.func40, Tryz.ntmps40
  go_wp2
  go_loopg [5, 1] n (fun g v kk w' => ∃ (i : Nat) (os : List (PV × Option Nat)), i + g = n ∧ v = .int .i64 i ∧ kk = .int .i64 (endP k (ps.take i)) ∧ (tagK kP).R 38 w' base ok (.slice A n c) os ∧ os.map Prod.fst = marksP k (ps.take i) ++ ps.drop i ∧ Apart os ∧ Below base w w')
  case atStart => exact ⟨0, qs, by omega, rfl, rfl, hR, hm0, hap, Below.refl _ _⟩
  case round =>
    clear hR hm0 hap
    obtain ⟨i, os, hik, rfl, rfl, hR, hm, hap, hb⟩ := hrel
    have HIK := Lib.hid hik
    have HM := Lib.hid hm
    have HAP := Lib.hid hap
    clear hik hm hap
    by_cases hi : i < n
    · have hi2 : i < ps.length := by rw [HN.out]; exact hi
      have hol : os.length = n := (Kd.R_reads' hR).1.symm
      have hl1 : (marksP k (ps.take i)).length = i := by rw [marksP_len, List.length_take]; omega
      obtain ⟨t, ht⟩ : ∃ t, os.getD i (zP, none) = (⟨(ps.getD i zP).p, (ps.getD i zP).d, (ps.getD i zP).ts⟩, t) := by
        have h1 : (os.map Prod.fst).getD i zP = ps.getD i zP := by
          rw [HM.out, List.getD_eq_getElem?_getD, List.getElem?_append_right (by omega), hl1, Nat.sub_self, List.getElem?_drop, List.getD_eq_getElem?_getD]
          rfl
        have h2 : (os.map Prod.fst).getD i zP = (os.getD i (zP, none)).1 := by
          rw [List.getD_eq_getElem?_getD, List.getElem?_map, List.getD_eq_getElem?_getD, List.getElem?_eq_getElem (by omega)]
          rfl
        rw [h2] at h1
        exact ⟨(os.getD i (zP, none)).2, by rw [← h1]⟩
      obtain ⟨g, hA, hg1, hg2⟩ := tagP_form hR (by omega)
      subst hA
      obtain ⟨A1, c1, p0, p1, p2, hRx, htx⟩ := tagP_own0 hR hi ht
      obtain ⟨cs, hcl, hMx, hcell, hfr⟩ := Kd.R_elem hR (zP, none) (i : Int) (by omega) (by omega)
      have i0 : wr.frozen? ⟨g, i * 3, none⟩ = false := by have := hfr 0; rw [Int.toNat_natCast] at this; exact this
      have i1 : wr.frozen? ⟨g, i * 3 + 1, none⟩ = false := by have := hfr 1; rw [Int.toNat_natCast] at this; exact this
      have hbi := HBD.out i
      have hbj := HBD.out (i + 1)
      have hyl := HLL.out _ (getD_memP hi2)
      have hst : endP k (ps.take (i + 1)) = endP k (ps.take i) + 1 + 1 + 4 * ((ps.getD i zP).ts.length : Int) := by rw [take_snoc hi2, endP_snoc]
      have HST := Lib.hid hst
      have hmn : marksP k (ps.take (i + 1)) = marksP k (ps.take i) ++ [⟨endP k (ps.take i), endP k (ps.take i) + 1, marksL (endP k (ps.take i) + 1 + 1) (ps.getD i zP).ts.length⟩] := by rw [take_snoc hi2, marksP_snoc]
      have hset : ∀ z : PV, (marksP k (ps.take i) ++ ps.drop i).set i z = marksP k (ps.take i) ++ [z] ++ ps.drop (i + 1) := fun z => by
        rw [List.set_append_right _ _ (by omega), hl1, Nat.sub_self, List.drop_eq_getElem_cons hi2, List.set_cons_zero, List.append_assoc]
        rfl
      have HSET := Lib.hid (And.intro hmn hset)
      have hi0 : (0 : Int) ≤ i := by omega
      have hi1 : (i : Int) < n := by omega
      have hin : ((i : Int)).toNat = i := by omega
      have hgt : some g ≠ t := fun e => by
        have h1 := (Kd.R_bound hRx).1 g (htx.trans e.symm)
        exact h1.1.2 rfl
      clear hst hmn hset hMx hcell hfr hcl
      generalize ps.getD i zP = y at *
      generalize endP k (ps.take i) = E at *
      have hS := Kd.R_seg (okp := fun a => ok a ∧ a ≠ g) hR (i : Int) (by omega) (by omega) (c := [.int .i64 y.p, .int .i64 y.d, .slice A1 y.ts.length c1]) (seg := [.int .i64 E, .int .i64 (E + 1)]) (j := 0) rfl (fun j u hu => by
        rw [Int.toNat_natCast]
        match j, hu with
        | 0, hu => simp at hu; rw [← hu]; exact p0
        | 1, hu => simp at hu; rw [← hu]; exact p1
        | 2, hu => simp at hu; rw [← hu]; exact p2
        | j + 3, hu => simp at hu) (show 0 + 2 ≤ 3 by omega) (x' := (⟨E, E + 1, y.ts⟩, t)) ⟨⟨A1, c1, rfl, hRx⟩, htx⟩ (fun a ha => ha)
      rw [Int.toNat_natCast] at hS
      change (tagK kP).R _ ((wr.setCell ⟨g, i * 3, none⟩ (.int .i64 E)).setCell ⟨g, i * 3 + 1, none⟩ (.int .i64 (E + 1))) _ _ _ _ ∧ wr.grownBy ((wr.setCell ⟨g, i * 3, none⟩ (.int .i64 E)).setCell ⟨g, i * 3 + 1, none⟩ (.int .i64 (E + 1))) _ at hS
      obtain ⟨hS1, hS2⟩ := hS
      have hX2 : kT.R 80 ((wr.setCell ⟨g, i * 3, none⟩ (.int .i64 E)).setCell ⟨g, i * 3 + 1, none⟩ (.int .i64 (E + 1))) base (fun a => ok a ∧ a ≠ g) (.slice A1 y.ts.length c1) y.ts := Kd.R_grown hRx hS2 (fun a ha e => ha.2 (by injection e))
      have q2 : ((wr.setCell ⟨g, i * 3, none⟩ (.int .i64 E)).setCell ⟨g, i * 3 + 1, none⟩ (.int .i64 (E + 1))).cell? ⟨g, i * 3 + 2, none⟩ = some (.slice A1 y.ts.length c1) := (World.cell?_setCell_other _ _ _ _ (by simp)).trans ((World.cell?_setCell_other _ _ _ _ (by simp)).trans p2)
      have hMk := markTermS_c A1 c1 y.ts (E + 1 + 1) _ base _ hX2 (by omega) (by omega) (by omega)
      have hbS : Below base w ((wr.setCell ⟨g, i * 3, none⟩ (.int .i64 E)).setCell ⟨g, i * 3 + 1, none⟩ (.int .i64 (E + 1))) := hb.grown hS2 (by have := hb.size; omega) (fun a e => by injection e with e; omega)
      have HS1 := Lib.hid (And.intro hS1 (And.intro q2 hbS))
      have hsz : wr.heap.size ≤ ((wr.setCell ⟨g, i * 3, none⟩ (.int .i64 E)).setCell ⟨g, i * 3 + 1, none⟩ (.int .i64 (E + 1))).heap.size := hS2.size
      have hbase : base ≤ wr.heap.size := by omega
      clear hS1 hS2 hX2 hbS hRx hR
      go_wp2_with (go_at_call 62; (with_reducible refine Calls.mono hMk ?_); rintro e' W9 ⟨rfl, hR9, hg9⟩)
      rw [htx] at hg9
      have hos2 : (os.set i (⟨E, E + 1, y.ts⟩, t)).getD i (zP, none) = (⟨E, E + 1, y.ts⟩, t) := by
        rw [List.getD_eq_getElem?_getD, List.getElem?_set_self (by omega)]
        rfl
      have hap2 : Apart (os.set i (⟨E, E + 1, y.ts⟩, t)) := tagP_apart_set HAP.out ht (by omega)
      have hF := tagP_row HS1.out.1 hap2 hi hos2 (A' := A1) (c' := c1) HS1.out.2.1 (marksL_len _ _) hgt hg9 hR9
      have hap3 := tagP_apart_set (y := ⟨E, E + 1, marksL (E + 1 + 1) y.ts.length⟩) hap2 hos2 (by rw [List.length_set]; omega)
      rw [List.set_set] at hF hap3
      have hb9 : Below base w W9 := HS1.out.2.2.grown hg9 (by omega) (fun a e => by
        have h1 := (Kd.R_bound hR9).1 a (htx.trans e)
        exact h1.2.1)
      go_roundg (gk - 1)
      case measure => have := HIK.out; omega
      case rel =>
        refine ⟨i + 1, _, ?_, ?_, ?_, hF, ?_, hap3, hb9⟩
        · have := HIK.out; omega
        · go_num
        · rw [HST.out]
        · rw [List.map_set, HM.out, HSET.out.2, HSET.out.1]
    · have e : i = n := by have := HIK.out; omega
      subst e
      have ep : ps.take i = ps := by rw [← HN.out, List.take_length]
      have em := HM.out
      rw [ep, show ps.drop i = [] by rw [← HN.out, List.drop_length], List.append_nil] at em
      rw [ep]
      go_wp2
      go_ret
      exact ⟨rfl, ⟨os, em, hR⟩, hb⟩
end Go.Proofs.YtjhkeehfchkpaaaGreat
/- Images and orbits, each row in a block of its own; OrbitOfPoly of both sides; no condition. -/
set_option linter.unusedVariables false
set_option linter.unusedSimpArgs false
namespace Go.Proofs.YtjhkeehfchkpaaaGreat
open Go.RowKit Go.Proofs.YtjhkeehfchkpaaaGreatW.PrintWords
attribute [local go_sem] Later.cell Later.frozen Later.lt Later.lt_add Later.le Later.le_add Later.ne Later.ne' add_at
open Go.Proofs.YtjhkeehfchkpaaaGreatW.PrintLast
attribute [local go_sem 2000] run_eqM guardM
set_option maxRecDepth 100000 in
set_option maxHeartbeats 4000000 in
theorem images_t (p : Int) (n : Nat) (A : Option Addr) (c : Nat) (ms : List M9) (B : Option Addr) (e : Nat) (ts : List T4) (w : World) (hC : kM.C w A ms.length ms) (hD : kT.C w B ts.length ts) (hN : ms.length ≤ 48) (hts : Canon p ts) (hd : ∀ t ∈ ts, degE t.e ≤ 12) (hp : 2 ≤ p) (hp' : p ≤ 13) (h1 : 1 ≤ n) (h3 : n ≤ 3) :
    Calls Tryz.prog 71 #[.agg #[.int .i64 p, .int .i64 n, .slice A ms.length c], .agg #[.int .i64 p, .int .i64 n, .slice B ts.length e]] w (MakesT 38 (imgV p n ms ts) w) := by
  have HQ := Lib.hid (And.intro hts hd)
  have hbW : Below w.heap.size w ((w.alloc (.cells #[.int .i64 p, .int .i64 n, .slice A ms.length c] 34)).alloc (.cells #[.int .i64 p, .int .i64 n, .slice B ts.length e] 38)) := (below_alloc2 w (.cells #[.int .i64 p, .int .i64 n, .slice A ms.length c] 34)).trans ((below_alloc2 (w.alloc (.cells #[.int .i64 p, .int .i64 n, .slice A ms.length c] 34)) (.cells #[.int .i64 p, .int .i64 n, .slice B ts.length e] 38)).mono (by simp))
  have hC2 := Kd.C_below hC hbW
  have hD2 := Kd.C_below hD hbW
  have g2 : ((w.alloc (.cells #[.int .i64 p, .int .i64 n, .slice A ms.length c] 34)).alloc (.cells #[.int .i64 p, .int .i64 n, .slice B ts.length e] 38)).cell? ⟨w.heap.size, 2, none⟩ = some (.slice A ms.length c) := bq5
  have f0 : ((w.alloc (.cells #[.int .i64 p, .int .i64 n, .slice A ms.length c] 34)).alloc (.cells #[.int .i64 p, .int .i64 n, .slice B ts.length e] 38)).cell? ⟨w.heap.size + 1, 0, none⟩ = some (.int .i64 p) := bq5
  have f1 : ((w.alloc (.cells #[.int .i64 p, .int .i64 n, .slice A ms.length c] 34)).alloc (.cells #[.int .i64 p, .int .i64 n, .slice B ts.length e] 38)).cell? ⟨w.heap.size + 1, 1, none⟩ = some (.int .i64 n) := bq5
  have f2 : ((w.alloc (.cells #[.int .i64 p, .int .i64 n, .slice A ms.length c] 34)).alloc (.cells #[.int .i64 p, .int .i64 n, .slice B ts.length e] 38)).cell? ⟨w.heap.size + 1, 2, none⟩ = some (.slice B ts.length e) := bq5
  have hz2 : ((w.alloc (.cells #[.int .i64 p, .int .i64 n, .slice A ms.length c] 34)).alloc (.cells #[.int .i64 p, .int .i64 n, .slice B ts.length e] 38)).heap.size = w.heap.size + 1 + 1 := by simp
  have hR0 := R_zeroT kP (e := 38) (heap_alloc_last ((w.alloc (.cells #[.int .i64 p, .int .i64 n, .slice A ms.length c] 34)).alloc (.cells #[.int .i64 p, .int .i64 n, .slice B ts.length e] 38)) (.cells #[] 38)) (Nat.le_refl _)
  have hb23 := below_alloc2 ((w.alloc (.cells #[.int .i64 p, .int .i64 n, .slice A ms.length c] 34)).alloc (.cells #[.int .i64 p, .int .i64 n, .slice B ts.length e] 38)) (.cells #[] 38)
  clear hts hd
  go_enter Tryz.func71, Tryz.ntmps71
  go_wp2
  generalize hW2 : ((w.alloc (.cells #[.int .i64 p, .int .i64 n, .slice A ms.length c] 34)).alloc (.cells #[.int .i64 p, .int .i64 n, .slice B ts.length e] 38)) = W2 at *
  generalize hV1 : W2.alloc (.cells #[] 38) = V1 at *
  generalize hfb : w.heap.size + 1 = fb at *
  clear hW2 hV1
  go_loopg [12, 5] ms.length (fun g v12 v5 w' => ∃ (j : Nat) (P : Option Addr) (cP : Nat) (qs : List (PV × Option Nat)), j + g = ms.length ∧ v12 = .int .i64 j ∧ v5 = .slice P j cP ∧ Below W2.heap.size W2 w' ∧ qs.map Prod.fst = (imgV p n ms ts).take j ∧ Apart qs ∧ (tagK kP).R 38 w' W2.heap.size (fun _ => True) (.slice P j cP) qs)
  case atStart => exact ⟨0, some ⟨fb + 1, 0, none⟩, 0, [], by omega, rfl, rfl, hb23, rfl, List.Pairwise.nil, by rw [hz2] at hR0 ⊢; exact hR0⟩
  case round =>
    clear hR0 hb23
    obtain ⟨j, P, cP, qs, hjk, rfl, rfl, hb, hqs, hap, hR⟩ := hrel
    have HAP := Lib.hid hap
    clear hap
    have HJK := Lib.hid hjk
    clear hjk
    by_cases hj : j < ms.length
    · obtain ⟨b, o, hA, q0, q1, q2, q3, q4, q5, q6, q7, q8⟩ := kM_at hC2 j hj
      subst hA
      have q0 := pw_cell_below hb q0
      have q1 := pw_cell_below hb q1
      have q2 := pw_cell_below hb q2
      have q3 := pw_cell_below hb q3
      have q4 := pw_cell_below hb q4
      have q5 := pw_cell_below hb q5
      have q6 := pw_cell_below hb q6
      have q7 := pw_cell_below hb q7
      have q8 := pw_cell_below hb q8
      have hj0 : (0 : Int) ≤ j := by omega
      have hj1 : (j : Int) < ms.length := by omega
      have hjn : ((j : Int)).toNat = j := by omega
      have HT := Lib.hid (imgV_take (p := p) (n := n) (ts := ts) hj)
      have hxl : qs.length = j := by rw [← List.length_map (f := Prod.fst), hqs, List.length_take, imgV_len]; omega
      have HQS := Lib.hid hqs
      clear hqs
      have htg := Lib.hid (tagP_mem hR)
      have HXL := Lib.hid hxl
      clear hxl
      generalize ms.getD j zM = m at *
      generalize (imgV p n ms ts).take j = xs at *
      generalize hqe : qs = ys at *
      have hbm := below_alloc2 wr (.cells #[.int .u8 (m.r0.a.toNat : Int), .int .u8 (m.r0.b.toNat : Int), .int .u8 (m.r0.c.toNat : Int), .int .u8 (m.r1.a.toNat : Int), .int .u8 (m.r1.b.toNat : Int), .int .u8 (m.r1.c.toNat : Int), .int .u8 (m.r2.a.toNat : Int), .int .u8 (m.r2.b.toNat : Int), .int .u8 (m.r2.c.toNat : Int)] 93)
      have hb2 : Below W2.heap.size W2 (wr.alloc (.cells #[.int .u8 (m.r0.a.toNat : Int), .int .u8 (m.r0.b.toNat : Int), .int .u8 (m.r0.c.toNat : Int), .int .u8 (m.r1.a.toNat : Int), .int .u8 (m.r1.b.toNat : Int), .int .u8 (m.r1.c.toNat : Int), .int .u8 (m.r2.a.toNat : Int), .int .u8 (m.r2.b.toNat : Int), .int .u8 (m.r2.c.toNat : Int)] 93)) := hb.trans (hbm.mono hb.size)
      have hL := fun W h => leadPoly_c p n B e ts m W h HQ.out.1 HQ.out.2 hp hp' h1 h3
      have f0' := pw_cell_below hb2 f0
      have f1' := pw_cell_below hb2 f1
      have f2' := pw_cell_below hb2 f2
      have hDm := Kd.C_below hD2 hb2
      have hown : ∀ k, (Value.slice P j cP).ownBlock = some k → k < wr.heap.size := fun k hk => ((Kd.R_bound hR).1 k hk).2.2.1
      have HR := Lib.hid (And.intro hR (And.intro hbm hb2))
      generalize ledL p n m ts = le at *
      clear hR hbm hb2
      go_wp2_with (first
        | (go_at_call 103; (with_reducible refine to_makesP (V := wr.alloc (.cells #[.int .u8 (m.r0.a.toNat : Int), .int .u8 (m.r0.b.toNat : Int), .int .u8 (m.r0.c.toNat : Int), .int .u8 (m.r1.a.toNat : Int), .int .u8 (m.r1.b.toNat : Int), .int .u8 (m.r1.c.toNat : Int), .int .u8 (m.r2.a.toNat : Int), .int .u8 (m.r2.b.toNat : Int), .int .u8 (m.r2.c.toNat : Int)] 93)) (Below.refl _ _) (hL _ hDm) ?_); intro w8 B8 c8 hb8 hb8' hl8 hR8; have hsm := HR.out.2.1.size; have hs2 := HR.out.2.2.size; have hs8 := hb8.size; have hbw8 : Below wr.heap.size wr w8 := HR.out.2.1.trans (hb8.mono hsm))
        | ((with_reducible refine gate_ (.call { callee := .builtin .append, args := #[.tmp 16, .tmp 20], argTypes := #[52, 52] }) rfl ?_); refine Kd.R_append (tagK kP) (w0 := w8) (W := w8) W2.heap.size rfl (.tmp 16) (.tmp 20) 52 38 (.agg #[.int .i64 0, .int .i64 0, .slice none 0 0]) 40 rfl Tryz.underlying52 infoPF rfl (by decide) (by decide) (.slice P j cP) ys (⟨p, n, le⟩, (Value.slice B8 le.length c8).ownBlock) [.int .i64 p, .int .i64 n, .slice B8 le.length c8] (fun _ => True) (fun k => wr.heap.size ≤ k) rfl rfl ⟨⟨B8, c8, rfl, Kd.R_lower (Kd.R_mono (Kd.R_bound hR8) (fun k hk => by have h9 := hk.2.1; omega)) (by omega)⟩, rfl⟩ (fun k hk => ⟨trivial, fun e => by have := hown k e.symm; omega⟩) (fun _ _ => trivial) (Kd.R_below HR.out.1 hbw8) (Below.refl _ _) (by omega) (by have := HXL.out; omega) ?_; intro v1 w1 hR1 hB1 hg1 hat1; obtain ⟨P1, c1, rfl, hl1, _⟩ := Kd.R_reads hR1))
      go_roundg (gk - 1)
      case measure => have := HJK.out; omega
      case rel =>
        have hlen : (ys ++ [((⟨p, n, le⟩ : PV), (Value.slice B8 le.length c8).ownBlock)]).length = j + 1 := by rw [List.length_append, HXL.out]; rfl
        rw [hlen] at hR1
        rw [HXL.out]
        refine ⟨j + 1, P1, c1, _, by have := HJK.out; omega, by go_num, rfl, (HR.out.2.2.trans (hb8.mono hs2)).trans hB1, ?_, ?_, hR1⟩
        · rw [HT.out, List.map_append, HQS.out]
          rfl
        · refine apart_snoc HAP.out fun q hq => ?_
          cases hk : q.2 with
          | none => exact .inl rfl
          | some k =>
            refine .inr fun e => ?_
            have h1 := (htg.out q hq k hk).2.2
            have h2 := ((Kd.R_bound hR8).1 k e.symm).2.1
            omega
    · have hje : ms.length = j := by have := HJK.out; omega
      subst hje
      rw [show (imgV p n ms ts).take ms.length = imgV p n ms ts by rw [← imgV_len p n ms ts, List.take_length]] at hqs
      go_wp2
      refine bodyPost_ret (v := .slice P ms.length cP) (by simp [results, Tryz.results71, go_sem]) rfl ⟨_, qs, rfl, hqs, HAP.out, ?_, ?_⟩
      · exact Kd.R_lower hR (by omega)
      · exact hbW.trans (hb.mono (by omega))
set_option maxRecDepth 100000 in
set_option maxHeartbeats 4000000 in
theorem orbit_t (p : Int) (n : Nat) (A : Option Addr) (c : Nat) (ms : List M9) (B : Option Addr) (e : Nat) (ts : List T4) (w : World) (hC : kM.C w A ms.length ms) (hD : kT.C w B ts.length ts) (hN : ms.length ≤ 48) (hts : Canon p ts) (hd : ∀ t ∈ ts, degE t.e ≤ 12) (hp : 2 ≤ p) (hp' : p ≤ 13) (h1 : 1 ≤ n) (h3 : n ≤ 3) :
    Calls Tryz.prog 75 #[.agg #[.int .i64 p, .int .i64 n, .slice A ms.length c], .agg #[.int .i64 p, .int .i64 n, .slice B ts.length e]] w (MakesT 38 (orbV (imgV p n ms ts)) w) := by
  have g0 : ((w.alloc (.cells #[.int .i64 p, .int .i64 n, .slice A ms.length c] 34)).alloc (.cells #[.int .i64 p, .int .i64 n, .slice B ts.length e] 38)).cell? ⟨w.heap.size, 0, none⟩ = some (.int .i64 p) := bq5
  have g1 : ((w.alloc (.cells #[.int .i64 p, .int .i64 n, .slice A ms.length c] 34)).alloc (.cells #[.int .i64 p, .int .i64 n, .slice B ts.length e] 38)).cell? ⟨w.heap.size, 1, none⟩ = some (.int .i64 n) := bq5
  have g2 : ((w.alloc (.cells #[.int .i64 p, .int .i64 n, .slice A ms.length c] 34)).alloc (.cells #[.int .i64 p, .int .i64 n, .slice B ts.length e] 38)).cell? ⟨w.heap.size, 2, none⟩ = some (.slice A ms.length c) := bq5
  have f0 : ((w.alloc (.cells #[.int .i64 p, .int .i64 n, .slice A ms.length c] 34)).alloc (.cells #[.int .i64 p, .int .i64 n, .slice B ts.length e] 38)).cell? ⟨w.heap.size + 1, 0, none⟩ = some (.int .i64 p) := bq5
  have f1 : ((w.alloc (.cells #[.int .i64 p, .int .i64 n, .slice A ms.length c] 34)).alloc (.cells #[.int .i64 p, .int .i64 n, .slice B ts.length e] 38)).cell? ⟨w.heap.size + 1, 1, none⟩ = some (.int .i64 n) := bq5
  have f2 : ((w.alloc (.cells #[.int .i64 p, .int .i64 n, .slice A ms.length c] 34)).alloc (.cells #[.int .i64 p, .int .i64 n, .slice B ts.length e] 38)).cell? ⟨w.heap.size + 1, 2, none⟩ = some (.slice B ts.length e) := bq5
  have hF := fun W h5 h6 => images_t p n A c ms B e ts W h5 h6 hN hts hd hp hp' h1 h3
  have HL := Lib.hid (img_likes hp h3 ms hd)
  have hp48 : (imgV p n ms ts).length ≤ 48 := by rw [imgV_len]; exact hN
  have hbW : Below w.heap.size w ((w.alloc (.cells #[.int .i64 p, .int .i64 n, .slice A ms.length c] 34)).alloc (.cells #[.int .i64 p, .int .i64 n, .slice B ts.length e] 38)) := bq2
  have hC3 := Kd.C_below hC hbW
  have hD3 := Kd.C_below hD hbW
  have hwU : w.heap.size ≤ ((w.alloc (.cells #[.int .i64 p, .int .i64 n, .slice A ms.length c] 34)).alloc (.cells #[.int .i64 p, .int .i64 n, .slice B ts.length e] 38)).heap.size := hbW.size
  clear hts hd
  generalize imgV p n ms ts = ps at *
  go_enter Tryz.func75, Tryz.ntmps75
  go_wp2_with (go_at_call 71; (with_reducible refine Calls.mono (hF _ (Kd.C_below hC3 bq2) (Kd.C_below hD3 bq2)) ?_); rintro e' V ⟨v9, is, rfl, his, hap, hR8, hb8⟩; obtain ⟨L8, c8, rfl, _, hC8⟩ := Kd.R_reads hR8; have hil : is.length = ps.length := (by rw [← his, List.length_map]); rw [hil] at hR8 ⊢)
  have hR0 := R_zero2 (tagK kP) (e := 38) (base := ((w.alloc (.cells #[.int .i64 p, .int .i64 n, .slice A ms.length c] 34)).alloc (.cells #[.int .i64 p, .int .i64 n, .slice B ts.length e] 38)).heap.size) (fun _ => True) trivial (heap_alloc_last ((w.alloc (.cells #[.int .i64 p, .int .i64 n, .slice A ms.length c] 34)).alloc (.cells #[.int .i64 p, .int .i64 n, .slice B ts.length e] 38)) (.cells #[] 38)) (Nat.le_refl _)
  replace hR0 := Kd.R_below hR0 hb8
  have hbU := (below_alloc2 ((w.alloc (.cells #[.int .i64 p, .int .i64 n, .slice A ms.length c] 34)).alloc (.cells #[.int .i64 p, .int .i64 n, .slice B ts.length e] 38)) (.cells #[] 38)).trans (hb8.mono (by simp))
  have hR9 := Kd.R_mono (Kd.R_bound hR8) (ok' := fun k => ((w.alloc (.cells #[.int .i64 p, .int .i64 n, .slice A ms.length c] 34)).alloc (.cells #[.int .i64 p, .int .i64 n, .slice B ts.length e] 38)).heap.size < k ∧ k < V.heap.size) (fun k hk => ⟨by have := hk.2.1; simp at this ⊢; omega, hk.2.2.1⟩)
  replace hR9 := Kd.R_lower hR9 (base' := ((w.alloc (.cells #[.int .i64 p, .int .i64 n, .slice A ms.length c] 34)).alloc (.cells #[.int .i64 p, .int .i64 n, .slice B ts.length e] 38)).heap.size) (by simp)
  have hzV : ((w.alloc (.cells #[.int .i64 p, .int .i64 n, .slice A ms.length c] 34)).alloc (.cells #[.int .i64 p, .int .i64 n, .slice B ts.length e] 38)).heap.size < V.heap.size := by have := hb8.size; simp at this ⊢; omega
  have hz2 : ((w.alloc (.cells #[.int .i64 p, .int .i64 n, .slice A ms.length c] 34)).alloc (.cells #[.int .i64 p, .int .i64 n, .slice B ts.length e] 38)).heap.size = w.heap.size + 1 + 1 := by simp
  clear hR8 hb8 hC8 hC3 hD3 hF
  generalize ((w.alloc (.cells #[.int .i64 p, .int .i64 n, .slice A ms.length c] 34)).alloc (.cells #[.int .i64 p, .int .i64 n, .slice B ts.length e] 38)) = U at *
  clear g0 g1 g2 f0 f1 f2
  generalize hfb : w.heap.size + 1 = fb at *
  have HIS := Lib.hid (And.intro his (And.intro hap hil))
  clear his hap hil
  go_loopg [16, 5] ps.length (fun g v16 v5 w' => ∃ (j : Nat) (Q : Option Addr) (cq : Nat) (os : List (PV × Option Nat)), j + g = ps.length ∧ v16 = .int .i64 j ∧ v5 = .slice Q (orbV (ps.take j)).length cq ∧ Below U.heap.size U w' ∧ V.heap.size ≤ w'.heap.size ∧ os.map Prod.fst = orbV (ps.take j) ∧ os.Sublist (is.take j) ∧ (tagK kP).R 38 w' U.heap.size (fun _ => True) (.slice Q (orbV (ps.take j)).length cq) os ∧ (∀ k, (Value.slice Q (orbV (ps.take j)).length cq).ownBlock = some k → k = U.heap.size ∨ V.heap.size ≤ k) ∧ (tagK kP).R 38 w' U.heap.size (fun k => U.heap.size < k ∧ k < V.heap.size) (.slice L8 ps.length c8) is)
  case atStart => exact ⟨0, some ⟨fb + 1, 0, none⟩, 0, [], by omega, rfl, rfl, hbU, Nat.le_refl _, rfl, List.nil_sublist _, by rw [← hz2]; exact hR0, fun k hk => by simp [Value.ownBlock] at hk; omega, hR9⟩
  case round =>
    clear hR0 hR9 hbU
    obtain ⟨j, Q, cq, os, hjk, rfl, rfl, hb, hvs, hos, hsl, hRq, hown, hRi⟩ := hrel
    have HSL := Lib.hid hsl
    clear hsl
    have HJK := Lib.hid hjk
    have hbs := hb.size
    clear hjk
    by_cases hj : j < ps.length
    · obtain ⟨xt, hx, hxc, hxd⟩ := likes_at HL.out hj
      obtain ⟨tg, htg⟩ := map_getD HIS.out.1 hj
      rw [hx] at htg
      obtain ⟨b2, o2, A2, c2, hB, p0, p1, p2, hRx, htx⟩ := tagP_own hRi hj htg
      have HTK := Lib.hid (map_take_getD (by rw [HIS.out.2.2]; exact hj) htg)
      have HTX := Lib.hid htx
      have HOS := Lib.hid hos
      have hol : os.length = (orbV (ps.take j)).length := by rw [← hos, List.length_map]
      have HOL := Lib.hid hol
      clear htg htx hos hol
      subst hB
      have hi0 : (0 : Int) ≤ j := by omega
      have hi1 : (j : Int) < ps.length := by omega
      have hin : ((j : Int)).toNat = j := by omega
      have hxl := deg_len hxc.1 hxd
      have hO := orbV_step hj
      rw [hx] at hO
      have HO := Lib.hid hO
      have hal := orbV_lenT ps j
      have HK := Lib.hid (likes_orbT HL.out j)
      clear hO hx hxc hxd
      generalize orbV (ps.take j) = acc at *
      obtain ⟨V4, hV4, hb4, y0, y1, y2⟩ := poly_one wr p n (.slice A2 xt.length c2) ⟨rfl, rfl⟩ 38
      have HR := Lib.hid (And.intro (Kd.R_below hRq hb4) (And.intro (Kd.R_below hRi hb4) (And.intro (Kd.R_below hRx hb4) hown)))
      have hCq := (Kd.R_reads' (tag_R HR.out.1)).2.2
      rw [HOS.out] at hCq
      have hCx := (Kd.R_reads' HR.out.2.2.1).2.2
      have hs4 := hb4.size
      have hb5 := hb.trans (hb4.mono hb.size)
      clear hRq hRi hRx hown
      go_wp2
      go_loopg [22, 8] acc.length (fun g v22 v8 w'' => ∃ (k : Nat) (z : Later V4), k + g = acc.length ∧ v22 = .int .i64 k ∧ v8 = .bool (anyP acc xt k) ∧ w'' = z.W)
      case atStart => exact ⟨0, ⟨V4, Below.refl _ _⟩, by omega, rfl, rfl, rfl⟩
      case round =>
        obtain ⟨k, z, hkk, rfl, rfl, rfl⟩ := hrel
        have HKK := Lib.hid hkk
        have hzs := z.ok.size
        clear hkk
        have y0' := pw_cell_below z.ok y0
        have y1' := pw_cell_below z.ok y1
        have y2' := pw_cell_below z.ok y2
        by_cases hk : k < acc.length
        · obtain ⟨zt, hz, hzc, hzd⟩ := likes_at HK.out hk
          obtain ⟨b3, o3, A3, c3, hB3, u0, u1, u2, hDz⟩ := kP_see hCq hk hz
          subst hB3
          have u0' := pw_cell_below z.ok u0
          have u1' := pw_cell_below z.ok u1
          have u2' := pw_cell_below z.ok u2
          have hDz' := Kd.C_below hDz z.ok
          have hDx' := Kd.C_below hCx z.ok
          have hk0 : (0 : Int) ≤ k := by omega
          have hk1 : (k : Int) < acc.length := by omega
          have hkn : ((k : Int)).toNat = k := by omega
          have hzl := deg_len hzc.1 hzd
          have hst := anyP_step (ts := xt) hk
          rw [hz] at hst
          clear hz hzc hzd
          have hS := fun W h h' => samePoly_c p n p n A2 A3 c2 c3 xt zt W h h' (by omega) (by omega)
          have e1 : ((p == p && (n : Int) == n) && xt == zt) = (xt == zt) := by simp
          rw [e1] at hS
          clear e1
          obtain ⟨V5, hV5, hb6, _, _, _⟩ := poly_one z.W p n (.slice A3 zt.length c3) ⟨rfl, rfl⟩ 38
          have y0'' := pw_cell_below hb6 y0'
          have y1'' := pw_cell_below hb6 y1'
          have y2'' := pw_cell_below hb6 y2'
          have hDz5 := Kd.C_below hDz' hb6
          have hDx5 := Kd.C_below hDx' hb6
          have hz5 := z.ok.trans (hb6.mono z.ok.size)
          cases hkn2 : anyP acc xt k with
          | true =>
            rw [hkn2, Bool.true_or] at hst
            have HST := Lib.hid hst
            clear hst hkn2
            go_wp2
            go_roundg (gk - 1)
            case measure => have := HKK.out; omega
            case rel => exact ⟨k + 1, ⟨V5, hz5⟩, by have := HKK.out; omega, by go_num, by rw [HST.out], rfl⟩
          | false =>
            rw [hkn2, Bool.false_or] at hst
            have HST := Lib.hid hst
            clear hst hkn2
            go_wp2_with (go_at_call 72; (with_reducible refine to_gives (V := V5) (Below.refl _ _) (hS _ hDx5 hDz5) ?_); intro w8 hb8 hb8')
            go_roundg (gk - 1)
            case measure => have := HKK.out; omega
            case rel => exact ⟨k + 1, ⟨w8, hz5.trans (hb8.mono hz5.size)⟩, by have := HKK.out; omega, by go_num, by rw [HST.out], rfl⟩
        · have hke : acc.length = k := by have := HKK.out; omega
          subst hke
          cases hz : anyP acc xt acc.length with
          | true =>
            have HT := Lib.hid (orbT_t (x := ⟨p, n, xt⟩) hz)
            clear hz
            go_wp2
            go_roundg (ps.length - j - 1)
            case measure => have := HJK.out; omega
            case rel =>
              refine ⟨j + 1, Q, cq, os, ?_, ?_, ?_, hb5.trans (z.ok.mono hb5.size), ?_, ?_, ?_, ?_, ?_, Kd.R_below HR.out.2.1 z.ok⟩
              · have := HJK.out; omega
              · go_num
              · rw [HO.out, HT.out]
              · omega
              · rw [HO.out, HT.out]; exact HOS.out
              · rw [HTK.out]; exact HSL.out.trans (List.sublist_append_left _ _)
              · rw [HO.out, HT.out]; exact Kd.R_below HR.out.1 z.ok
              · rw [HO.out, HT.out]; exact HR.out.2.2.2
          | false =>
            have HT := Lib.hid (orbT_f (x := ⟨p, n, xt⟩) hz)
            clear hz
            go_wp2_with ((with_reducible refine gate_ (.call { callee := .builtin .append, args := #[.tmp 35, .tmp 37], argTypes := #[52, 52] }) rfl ?_); refine Kd.R_append (tagK kP) (w0 := U) (W := z.W) U.heap.size rfl (.tmp 35) (.tmp 37) 52 38 (.agg #[.int .i64 0, .int .i64 0, .slice none 0 0]) 40 rfl Tryz.underlying52 infoPF rfl (by decide) (by decide) (.slice Q acc.length cq) os (⟨p, n, xt⟩, tg) [.int .i64 p, .int .i64 n, .slice A2 xt.length c2] (fun _ => True) (fun k => U.heap.size < k ∧ k < V.heap.size) rfl rfl ⟨⟨A2, c2, rfl, Kd.R_below HR.out.2.2.1 z.ok⟩, HTX.out⟩ (fun k hk => ⟨trivial, fun he => by have h9 := HR.out.2.2.2 k he.symm; omega⟩) (fun _ _ => trivial) (Kd.R_below HR.out.1 z.ok) (hb5.trans (z.ok.mono hb5.size)) (by omega) (by have := HOL.out; omega) ?_; intro v1 w1 hR6 hB6 hg6 hat6; obtain ⟨B6, c6, rfl, hl6, hC6⟩ := Kd.R_reads hR6)
            have hs6 := hg6.size
            have hI6 := Kd.R_grown (Kd.R_below HR.out.2.1 z.ok) hg6 (fun k hk he => by
              have h9 := HR.out.2.2.2 k he.symm
              omega)
            go_roundg (ps.length - j - 1)
            case measure => have := HJK.out; omega
            case rel =>
              have hl7 : (os ++ [((⟨p, n, xt⟩ : PV), tg)]).length = (acc ++ [(⟨p, n, xt⟩ : PV)]).length := by rw [List.length_append, List.length_append, HOL.out]; rfl
              rw [hl7] at hR6 hat6
              refine ⟨j + 1, B6, c6, os ++ [(⟨p, n, xt⟩, tg)], ?_, ?_, ?_, hB6, ?_, ?_, ?_, ?_, ?_, hI6⟩
              · have := HJK.out; omega
              · go_num
              · simp [HO.out, HT.out, HOL.out]
              · clear hR6 hI6; omega
              · rw [HO.out, HT.out, List.map_append, HOS.out]; rfl
              · rw [HTK.out]; exact HSL.out.append (List.Sublist.refl _)
              · rw [HO.out, HT.out]; exact hR6
              · rw [HO.out, HT.out]
                intro k hk
                rcases hat6 with h9 | ⟨b9, h9, h8⟩
                · exact HR.out.2.2.2 k (h9.symm.trans hk)
                · have h7 := h9.symm.trans hk
                  injection h7 with h7
                  omega
    · have hje : ps.length = j := by have := HJK.out; omega
      subst hje
      rw [List.take_length] at hRq hos ⊢
      go_wp2
      refine bodyPost_ret (v := .slice Q (orbV ps).length cq) (by simp [results, Tryz.results75, go_sem]) rfl ⟨_, os, rfl, hos, HIS.out.2.1.sublist (HSL.out.trans (List.take_sublist _ _)), ?_, ?_⟩
      · exact Kd.R_lower hRq hwU
      · exact hbW.trans (hb.mono hwU)
/-- A list of polynomials and a code. -/
structure LP where
  xs : List PV
  c : Int
def MakesLP (r : LP) (E : Nat) (w : World) (e : Ending) (w' : World) : Prop :=
  ∃ A c, e = .returned (.tuple #[.slice A r.xs.length c, .int .i64 r.c]) ∧ kP.R E w' w.heap.size (fun _ => True) (.slice A r.xs.length c) r.xs ∧ Below w.heap.size w w'
def MakesLT (r : LP) (E : Nat) (w : World) (e : Ending) (w' : World) : Prop :=
  ∃ A c qs, e = .returned (.tuple #[.slice A r.xs.length c, .int .i64 r.c]) ∧ qs.map Prod.fst = r.xs ∧ Apart qs ∧ (tagK kP).R E w' w.heap.size (fun _ => True) (.slice A r.xs.length c) qs ∧ Below w.heap.size w w'
theorem makesLT_LP {r : LP} {E : Nat} {w w' : World} {e : Ending} (h : MakesLT r E w e w') : MakesLP r E w e w' := by
  obtain ⟨A, c, qs, he, hq, _, hR, hb⟩ := h
  have := tag_R hR
  rw [hq] at this
  exact ⟨A, c, he, this, hb⟩
theorem to_makesLT {r : LP} {E : Nat} {P : Program} {f : FuncId} {args : Array Value} {V W : World} {R : Ending → World → Prop} (hW : Below V.heap.size V W)
    (h : Calls P f args W (MakesLT r E W)) (k : ∀ W' A c qs, Below V.heap.size V W' → Below W.heap.size W W' → qs.map Prod.fst = r.xs → Apart qs → (tagK kP).R E W' W.heap.size (fun _ => True) (.slice A r.xs.length c) qs → R (.returned (.tuple #[.slice A r.xs.length c, .int .i64 r.c])) W') : Calls P f args W R :=
  h.mono fun _ w' ⟨A, c, qs, he, hq, ha, hr, hb⟩ => by
    subst he
    exact k w' A c qs (hW.trans (hb.mono hW.size)) hb hq ha hr
theorem call_makesLP {r : LP} {E : Nat} {P : Program} {f : FuncId} {args : Array Value} {w : World} {R : Ending → World → Prop}
    (h : Calls P f args w (MakesLP r E w)) (k : ∀ (x : Later w) A c, Below w.heap.size w x.W → r.xs.length ≤ c → kP.R E x.W w.heap.size (fun _ => True) (.slice A r.xs.length c) r.xs → R (.returned (.tuple #[.slice A r.xs.length c, .int .i64 r.c])) x.W) : Calls P f args w R :=
  h.mono fun _ w' ⟨A, c, he, hr, hb⟩ => by
    subst he
    exact k ⟨w', hb⟩ A c hb (Kd.R_reads' hr).2.1 hr
theorem call_makesLP2 {r : LP} {E : Nat} {P : Program} {f : FuncId} {args : Array Value} {w : World} {y : Later w} {R : Ending → World → Prop}
    (h : Calls P f args y.W (MakesLP r E y.W)) (k : ∀ (x : Later w) A c, Below y.W.heap.size y.W x.W → r.xs.length ≤ c → kP.R E x.W y.W.heap.size (fun _ => True) (.slice A r.xs.length c) r.xs → R (.returned (.tuple #[.slice A r.xs.length c, .int .i64 r.c])) x.W) : Calls P f args y.W R :=
  h.mono fun _ w' ⟨A, c, he, hr, hb⟩ => by
    subst he
    exact k ⟨w', y.ok.trans (hb.mono y.ok.size)⟩ A c hb (Kd.R_reads' hr).2.1 hr
theorem MakesLP_nil (k : Int) (E : Nat) {w W : World} (h : Below w.heap.size w W) : MakesLP ⟨[], k⟩ E w (.returned (.tuple #[.slice none 0 0, .int .i64 k])) W := ⟨none, 0, rfl, Kd.R_nil _ _ _ _ _, h⟩
theorem MakesLT_nil (k : Int) (E : Nat) {w W : World} (h : Below w.heap.size w W) : MakesLT ⟨[], k⟩ E w (.returned (.tuple #[.slice none 0 0, .int .i64 k])) W := ⟨none, 0, [], rfl, rfl, List.Pairwise.nil, Kd.R_nil _ _ _ _ _, h⟩
theorem rowCut_same {α : Type} {d : Kd α} {E lo base : Nat} {X : World} {v : Value} {xs : List α} (h : d.R E X base (fun _ => True) v xs) (hb : lo ≤ base) : d.R E X lo (fun k => lo ≤ k ∧ k < X.heap.size) v xs :=
  Kd.R_mono (Kd.R_bound (Kd.R_lower h hb)) (fun _ hk => ⟨hk.2.1, hk.2.2.1⟩)
theorem tagC {e base n c : Nat} {ok : Nat → Prop} {W : World} {A : Option Addr} {qs : List (PV × Option Nat)} {ps : List PV} (h : (tagK kP).R e W base ok (.slice A n c) qs) (hq : qs.map Prod.fst = ps) (hn : ps.length = n) : kP.C W A n ps := by
  have h1 := (Kd.R_reads' (tag_R h)).2.2
  rw [hq, hn] at h1
  exact h1
theorem lo_cell {lo : Nat} {w w' : World} (hb : Below lo w w') {a : Addr} {v : Value} (h : w.cell? a = some v) (ha : a.block < lo) : w'.cell? a = some v := by
  rw [World.cell?_of_block (hb.block a.block ha)]
  exact h
def ooR (p n : Int) (ms : List M9) (q d : Int) (ts : List T4) : LP := if codeF p n ms q d ts = 0 then ⟨orbV (imgV p n.toNat ms ts), 0⟩ else ⟨[], codeF p n ms q d ts⟩
theorem ooR_0 {p n : Int} {ms : List M9} {q d : Int} {ts : List T4} (h : codeF p n ms q d ts = 0) : ooR p n ms q d ts = ⟨orbV (imgV p n.toNat ms ts), 0⟩ := by
  unfold ooR
  rw [if_pos h]
theorem ooR_1 {p n : Int} {ms : List M9} {q d : Int} {ts : List T4} {k : Int} (h : codeF p n ms q d ts = k) (hk : k ≠ 0) : ooR p n ms q d ts = ⟨[], k⟩ := by
  unfold ooR
  rw [h, if_neg hk]
theorem ooR_bd (p n : Int) (ms : List M9) (q d : Int) (ts : List T4) : (ooR p n ms q d ts).xs.length ≤ 48 ∧ ∀ x ∈ (ooR p n ms q d ts).xs, x.ts.length ≤ 1183 := by
  by_cases h : codeF p n ms q d ts = 0
  · rw [ooR_0 h]
    obtain ⟨_, _, hp, _, _, h3, hl, _, hd⟩ := codeF_nums h
    have hL := likes_orb (img_likes (p := p) hp (n := n.toNat) (by omega) ms hd)
    refine ⟨?_, fun x hx => deg_len (hL.can x hx).1 (hL.deg x hx)⟩
    have h8 := orbV_len (imgV p n.toNat ms ts)
    rw [imgV_len] at h8
    show (orbV (imgV p n.toNat ms ts)).length ≤ 48
    omega
  · rw [ooR_1 rfl h]
    exact ⟨by simp, fun x hx => by cases hx⟩
set_option maxRecDepth 100000 in
set_option maxHeartbeats 4000000 in
theorem implOrbitOfPoly_0 (p : Int) (n : Nat) (A : Option Addr) (c : Nat) (ms : List M9) (B : Option Addr) (e : Nat) (ts : List T4) (w : World) (hC : kM.C w A ms.length ms) (hD : kT.C w B ts.length ts) (hN : ms.length ≤ 48) (hts : Canon p ts) (hd : ∀ t ∈ ts, degE t.e ≤ 12) (hp : 2 ≤ p) (hp' : p ≤ 13) (h1 : 1 ≤ n) (h3 : n ≤ 3)
    (hK : ∀ W, kM.C W A ms.length ms → kT.C W B ts.length ts → Calls Tryz.prog 54 #[.agg #[.int .i64 p, .int .i64 n, .slice A ms.length c], .agg #[.int .i64 p, .int .i64 n, .slice B ts.length e]] W (Gives (.int .i64 0) W)) :
    Calls Tryz.prog 38 #[.agg #[.int .i64 p, .int .i64 n, .slice A ms.length c], .agg #[.int .i64 p, .int .i64 n, .slice B ts.length e]] w (MakesLT ⟨orbV (imgV p n ms ts), 0⟩ 38 w) := by
  have hL := fun W h5 h6 => orbit_t p n A c ms B e ts W h5 h6 hN hts hd hp hp' h1 h3
  have hbW : Below w.heap.size w ((w.alloc (.cells #[.int .i64 p, .int .i64 n, .slice A ms.length c] 34)).alloc (.cells #[.int .i64 p, .int .i64 n, .slice B ts.length e] 38)) := bq2
  have hC3 := Kd.C_below hC hbW
  have hD3 := Kd.C_below hD hbW
  clear hts hd
  generalize orbV (imgV p n ms ts) = os at *
  go_enter Tryz.func38, Tryz.ntmps38
  go_wp2_with (first | ((go_at_call 54; (first | (with_reducible refine call_later2 (hK _ hC3 hD3) ?_) | (with_reducible refine call_later (hK _ hC3 hD3) ?_)); intro x1); have hb2 : Below w.heap.size w x1.W := bq2) | (go_at_call 75; (with_reducible refine Calls.mono (hL _ (Kd.C_below hC hb2) (Kd.C_below hD hb2)) ?_); rintro e' V ⟨v9, qs, rfl, hq, hap, hR8, hb8⟩; obtain ⟨L8, c8, rfl, _, _⟩ := Kd.R_reads hR8; have hql : qs.length = os.length := (by rw [← hq, List.length_map]); rw [hql] at hR8 ⊢))
  refine bodyPost_ret (v := .tuple #[.slice L8 os.length c8, .int .i64 0]) (by simp [results, Tryz.results38, go_sem]) rfl ?_
  exact ⟨L8, c8, qs, rfl, hq, hap, Kd.R_lower hR8 hb2.size, hb2.trans (hb8.mono hb2.size)⟩
set_option maxRecDepth 100000 in
set_option maxHeartbeats 4000000 in
theorem implOrbitOfPoly_c (p n : Int) (A : Option Addr) (c : Nat) (ms : List M9) (q d : Int) (B : Option Addr) (e : Nat) (ts : List T4) (w : World) (hC : kM.C w A ms.length ms) (hD : kT.C w B ts.length ts) (hN : ms.length ≤ 9223372036854775807) (hM : ts.length ≤ 9223372036854775807) :
    Calls Tryz.prog 38 #[.agg #[.int .i64 p, .int .i64 n, .slice A ms.length c], .agg #[.int .i64 q, .int .i64 d, .slice B ts.length e]] w (MakesLT (ooR p n ms q d ts) 38 w) := by
  have hK := fun W h h' => actionCode_c p n A c ms q d B e ts W h h' hN hM
  rcases codeF_three p n ms q d ts with h0 | h0 | h0
  · rw [ooR_0 h0]
    rw [h0] at hK
    obtain ⟨hq, hdn, hp, hp', h1, h3, hl, hcan, hdg⟩ := codeF_nums h0
    clear h0
    obtain ⟨k, hk⟩ := Int.eq_ofNat_of_zero_le (show 0 ≤ n by omega)
    rw [hk] at hdn
    subst hq
    subst hdn
    subst hk
    exact implOrbitOfPoly_0 _ k A c ms B e ts w hC hD hl hcan hdg hp hp' (by omega) (by omega) hK
  · rw [ooR_1 h0 (by decide)]
    rw [h0] at hK
    clear h0
    have hbW : Below w.heap.size w ((w.alloc (.cells #[.int .i64 p, .int .i64 n, .slice A ms.length c] 34)).alloc (.cells #[.int .i64 q, .int .i64 d, .slice B ts.length e] 38)) := bq2
    have hC3 := Kd.C_below hC hbW
    have hD3 := Kd.C_below hD hbW
    go_enter Tryz.func38, Tryz.ntmps38
    go_wp2_with ((go_at_call 54; (first | (with_reducible refine call_later2 (hK _ hC3 hD3) ?_) | (with_reducible refine call_later (hK _ hC3 hD3) ?_)); intro x1))
    refine bodyPost_ret (v := .tuple #[.slice none 0 0, .int .i64 1]) (by simp [results, Tryz.results38, go_sem]) rfl ?_
    exact MakesLT_nil _ _ bq2
  · rw [ooR_1 h0 (by decide)]
    rw [h0] at hK
    clear h0
    have hbW : Below w.heap.size w ((w.alloc (.cells #[.int .i64 p, .int .i64 n, .slice A ms.length c] 34)).alloc (.cells #[.int .i64 q, .int .i64 d, .slice B ts.length e] 38)) := bq2
    have hC3 := Kd.C_below hC hbW
    have hD3 := Kd.C_below hD hbW
    go_enter Tryz.func38, Tryz.ntmps38
    go_wp2_with ((go_at_call 54; (first | (with_reducible refine call_later2 (hK _ hC3 hD3) ?_) | (with_reducible refine call_later (hK _ hC3 hD3) ?_)); intro x1))
    refine bodyPost_ret (v := .tuple #[.slice none 0 0, .int .i64 2]) (by simp [results, Tryz.results38, go_sem]) rfl ?_
    exact MakesLT_nil _ _ bq2
set_option maxRecDepth 100000 in
set_option maxHeartbeats 4000000 in
theorem specOrbitOfPoly_0 (p : Int) (n : Nat) (A : Option Addr) (c : Nat) (ms : List M9) (B : Option Addr) (e : Nat) (ts : List T4) (w : World) (hC : kM.C w A ms.length ms) (hD : kT.C w B ts.length ts) (hN : ms.length ≤ 48) (hts : Canon p ts) (hd : ∀ t ∈ ts, degE t.e ≤ 12) (hp : 2 ≤ p) (hp' : p ≤ 13) (h1 : 1 ≤ n) (h3 : n ≤ 3)
    (hK : ∀ W, kM.C W A ms.length ms → kT.C W B ts.length ts → Calls Tryz.prog 50 #[.agg #[.int .i64 p, .int .i64 n, .slice A ms.length c], .agg #[.int .i64 p, .int .i64 n, .slice B ts.length e]] W (Gives (.int .i64 0) W)) :
    Calls Tryz.prog 37 #[.agg #[.int .i64 p, .int .i64 n, .slice A ms.length c], .agg #[.int .i64 p, .int .i64 n, .slice B ts.length e]] w (MakesLP ⟨orbV (imgV p n ms ts), 0⟩ 38 w) := by
  have hL := fun W h5 h6 => l03Orbit_c p n A c ms B e ts W h5 h6 hN hts hd hp hp' h1 h3
  have hbW : Below w.heap.size w ((w.alloc (.cells #[.int .i64 p, .int .i64 n, .slice A ms.length c] 34)).alloc (.cells #[.int .i64 p, .int .i64 n, .slice B ts.length e] 38)) := bq2
  have hC3 := Kd.C_below hC hbW
  have hD3 := Kd.C_below hD hbW
  clear hts hd
  generalize orbV (imgV p n ms ts) = os at *
  go_enter Tryz.func37, Tryz.ntmps37
  go_wp2_with (first | ((go_at_call 50; (first | (with_reducible refine call_later2 (hK _ hC3 hD3) ?_) | (with_reducible refine call_later (hK _ hC3 hD3) ?_)); intro x1); have hb2 : Below w.heap.size w x1.W := bq2) | (go_at_call 73; (with_reducible refine Calls.mono (hL _ (Kd.C_below hC hb2) (Kd.C_below hD hb2)) ?_); rintro e' V ⟨v9, rfl, hR8, hb8⟩; obtain ⟨L8, c8, rfl, _, _⟩ := Kd.R_reads hR8))
  refine bodyPost_ret (v := .tuple #[.slice L8 os.length c8, .int .i64 0]) (by simp [results, Tryz.results37, go_sem]) rfl ?_
  exact ⟨L8, c8, rfl, Kd.R_lower hR8 hb2.size, hb2.trans (hb8.mono hb2.size)⟩
set_option maxRecDepth 100000 in
set_option maxHeartbeats 4000000 in
theorem specOrbitOfPoly_c (p n : Int) (A : Option Addr) (c : Nat) (ms : List M9) (q d : Int) (B : Option Addr) (e : Nat) (ts : List T4) (w : World) (hC : kM.C w A ms.length ms) (hD : kT.C w B ts.length ts) (hN : ms.length ≤ 9223372036854775807) (hM : ts.length ≤ 9223372036854775807) :
    Calls Tryz.prog 37 #[.agg #[.int .i64 p, .int .i64 n, .slice A ms.length c], .agg #[.int .i64 q, .int .i64 d, .slice B ts.length e]] w (MakesLP (ooR p n ms q d ts) 38 w) := by
  have hK := fun W h h' => l03Code_c p n A c ms q d B e ts W h h' hN hM
  rcases codeF_three p n ms q d ts with h0 | h0 | h0
  · rw [ooR_0 h0]
    rw [h0] at hK
    obtain ⟨hq, hdn, hp, hp', h1, h3, hl, hcan, hdg⟩ := codeF_nums h0
    clear h0
    obtain ⟨k, hk⟩ := Int.eq_ofNat_of_zero_le (show 0 ≤ n by omega)
    rw [hk] at hdn
    subst hq
    subst hdn
    subst hk
    exact specOrbitOfPoly_0 _ k A c ms B e ts w hC hD hl hcan hdg hp hp' (by omega) (by omega) hK
  · rw [ooR_1 h0 (by decide)]
    rw [h0] at hK
    clear h0
    have hbW : Below w.heap.size w ((w.alloc (.cells #[.int .i64 p, .int .i64 n, .slice A ms.length c] 34)).alloc (.cells #[.int .i64 q, .int .i64 d, .slice B ts.length e] 38)) := bq2
    have hC3 := Kd.C_below hC hbW
    have hD3 := Kd.C_below hD hbW
    go_enter Tryz.func37, Tryz.ntmps37
    go_wp2_with ((go_at_call 50; (first | (with_reducible refine call_later2 (hK _ hC3 hD3) ?_) | (with_reducible refine call_later (hK _ hC3 hD3) ?_)); intro x1))
    refine bodyPost_ret (v := .tuple #[.slice none 0 0, .int .i64 1]) (by simp [results, Tryz.results37, go_sem]) rfl ?_
    exact MakesLP_nil _ _ bq2
  · rw [ooR_1 h0 (by decide)]
    rw [h0] at hK
    clear h0
    have hbW : Below w.heap.size w ((w.alloc (.cells #[.int .i64 p, .int .i64 n, .slice A ms.length c] 34)).alloc (.cells #[.int .i64 q, .int .i64 d, .slice B ts.length e] 38)) := bq2
    have hC3 := Kd.C_below hC hbW
    have hD3 := Kd.C_below hD hbW
    go_enter Tryz.func37, Tryz.ntmps37
    go_wp2_with ((go_at_call 50; (first | (with_reducible refine call_later2 (hK _ hC3 hD3) ?_) | (with_reducible refine call_later (hK _ hC3 hD3) ?_)); intro x1))
    refine bodyPost_ret (v := .tuple #[.slice none 0 0, .int .i64 2]) (by simp [results, Tryz.results37, go_sem]) rfl ?_
    exact MakesLP_nil _ _ bq2
end Go.Proofs.YtjhkeehfchkpaaaGreat
