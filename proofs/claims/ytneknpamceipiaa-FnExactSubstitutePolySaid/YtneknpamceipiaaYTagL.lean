/- Lists of polynomials copied, each in a row of its own, and told by their sizes: toPolyS, szPolyS; no condition. -/
import Derived.Test.YtneknpamceipiaaYTagM
import Derived.Test.YtneknpamceipiaaYKitP
set_option linter.unusedVariables false
set_option linter.unusedSimpArgs false
namespace Go.Proofs.Ytneknpamceipiaa
open Go.RowKit Go.Proofs.YtneknpamceipiaaW.PrintWords
attribute [local go_sem] Later.cell Later.frozen Later.lt Later.lt_add Later.le Later.le_add Later.ne Later.ne' add_at
theorem getD_memL {ps : List PV} {i : Nat} (h : i < ps.length) : ps.getD i zP ∈ ps := by
  have e : ps.getD i zP = ps[i] := by simp [List.getD_eq_getElem?_getD, h]
  rw [e]
  exact List.getElem_mem h
theorem infoPL : (Try.prog.info? 45).map (fun i => (i.zero, i.size, i.bytes)) = some (some (.agg #[.int .i64 0, .int .i64 0, .slice none 0 0]), 3, 40) := by kernel_rfl
theorem tag_put {e base g n c : Nat} {ok okp : Nat → Prop} {W : World} {qs : List (PV × Option Nat)} (h : (tagK kP).R e W base ok (.slice (some ⟨g, 0, none⟩) n c) qs) {j : Nat} (hj : j < n) {p d : Int} {xt : List T4} {A' : Option Addr} {c' : Nat} (hR : kT.R 121 W base okp (.slice A' xt.length c') xt) (hokp : ∀ k, okp k → ok k ∧ k ≠ g) :
    (tagK kP).R e (((W.setCell ⟨g, j * 3, none⟩ (.int .i64 p)).setCell ⟨g, j * 3 + 1, none⟩ (.int .i64 d)).setCell ⟨g, j * 3 + 2, none⟩ (.slice A' xt.length c')) base ok (.slice (some ⟨g, 0, none⟩) n c) (qs.set j (⟨p, d, xt⟩, (Value.slice A' xt.length c').ownBlock)) ∧
      W.grownBy (((W.setCell ⟨g, j * 3, none⟩ (.int .i64 p)).setCell ⟨g, j * 3 + 1, none⟩ (.int .i64 d)).setCell ⟨g, j * 3 + 2, none⟩ (.slice A' xt.length c')) (some g) := by
  obtain ⟨cs, hl, hM, hcell, _⟩ := Kd.R_elem h (zP, none) (j : Int) (by omega) (by omega)
  obtain ⟨⟨A0, c0, rfl, _⟩, _⟩ := hM
  have H := Kd.R_seg (okp := okp) h (j : Int) (by omega) (by omega) (seg := [.int .i64 p, .int .i64 d, .slice A' xt.length c']) (j := 0) hl hcell (Nat.le_refl 3) (x' := (⟨p, d, xt⟩, (Value.slice A' xt.length c').ownBlock)) ⟨⟨A', c', rfl, hR⟩, rfl⟩ hokp
  rw [Int.toNat_natCast] at H
  exact H
theorem apart_put {qs : List (PV × Option Nat)} (h : Apart qs) {i : Nat} (hi : i < qs.length) {y : PV} {t : Option Nat} (h1 : ∀ j, j < i → ∀ k, (qs.getD j (zP, none)).2 = some k → t ≠ some k) (h2 : ∀ j, i < j → (qs.getD j (zP, none)).2 = none) : Apart (qs.set i (y, t)) := by
  refine List.pairwise_iff_getElem.2 fun a b ha hb hab => ?_
  rw [List.length_set] at ha hb
  have ga : qs.getD a (zP, none) = qs[a] := by simp [List.getD_eq_getElem?_getD, ha]
  have gb : qs.getD b (zP, none) = qs[b] := by simp [List.getD_eq_getElem?_getD, hb]
  rw [List.getElem_set, List.getElem_set]
  by_cases e1 : i = a
  · rw [if_pos e1, if_neg (by omega)]
    have := h2 b (by omega)
    rw [gb] at this
    rw [this]
    cases t with
    | none => exact .inl rfl
    | some k => exact .inr (by simp)
  · rw [if_neg e1]
    by_cases e2 : i = b
    · rw [if_pos e2]
      have := h1 a (by omega)
      rw [ga] at this
      cases hk : qs[a].2 with
      | none => exact .inl rfl
      | some k => exact .inr (fun e => this k hk e.symm)
    · rw [if_neg e2]
      exact List.pairwise_iff_getElem.1 h a b ha hb hab
set_option maxRecDepth 100000 in
set_option maxHeartbeats 4000000 in
theorem toPolyS_t (A : Option Addr) (c n : Nat) (ps : List PV) (w : World) (hC : kP.C w A n ps) (hn : n ≤ 1048576) (hl : ∀ x ∈ ps, x.ts.length ≤ 1048576) :
    Calls Try.prog 24 #[.slice A n c] w (MakesT 45 ps w) := by
  have hpl := Kd.C_len hC
  have HPL := Lib.hid hpl
  have HLL := Lib.hid hl
  clear hpl hl
  go_enter Try.func24, Try.ntmps24
  go_wp2_with (refine Kd.R_make (tagK kP) (w0 := w) w.heap.size 45 rfl (N := 7) rfl 49 (.tmp 6) (.tmp 6) rfl (n : Int) rfl rfl Try.underlying49 _ 40 infoPL rfl (by decide) (by decide) (zP, none) (ok := fun _ => True) (okp := fun _ => False) ⟨⟨none, 0, rfl, Kd.R_nil _ _ _ _ _⟩, rfl⟩ (fun _ h => h.elim) trivial (by omega) (by omega) (Below.refl _ _) (Nat.le_refl _) ?_; intro v1 w1 HR hb1 _ hob; rw [Int.toNat_natCast] at HR; obtain ⟨Bq, cap, hv, _, _⟩ := Kd.R_reads HR; rw [List.length_replicate] at hv; subst hv; clear hob)
  have hw1 := hb1.size
  go_loopg [4] n (fun gk v4 w' => ∃ (i : Nat) (qs : List (PV × Option Nat)), i + gk = n ∧ v4 = .int .i64 i ∧ Below w.heap.size w w' ∧ (tagK kP).R 45 w' w.heap.size (fun _ => True) (.slice Bq n cap) qs ∧ qs.map Prod.fst = ps.take i ++ List.replicate (n - i) zP ∧ Apart qs ∧ ∀ j, i ≤ j → (qs.getD j (zP, none)).2 = none)
  case atStart =>
    refine ⟨0, List.replicate n (zP, none), by omega, rfl, hb1, HR, by simp, ?_, fun j _ => ?_⟩
    · exact List.pairwise_replicate.2 (.inr (.inl rfl))
    · rw [List.getD_eq_getElem?_getD, List.getElem?_replicate]
      split <;> rfl
  case round =>
    clear HR hb1
    obtain ⟨i, qs, hik, rfl, hb, hR, hm, hap, hno⟩ := hrel
    have HIK := Lib.hid hik
    have HM := Lib.hid (And.intro hm (And.intro hap hno))
    clear hik hm hap hno
    by_cases hi : i < n
    · have hol : qs.length = n := (Kd.R_reads' hR).1.symm
      obtain ⟨b1, o1, A1, c1, hA, p0, p1, p2, hX⟩ := kP_at hC i hi
      subst hA
      have p0 := pw_cell_below hb p0
      have p1 := pw_cell_below hb p1
      have p2 := pw_cell_below hb p2
      have hX := Kd.C_below hX hb
      obtain ⟨g, hQ, hg1, hg2⟩ := tagP_form hR (by omega)
      subst hQ
      obtain ⟨t0, ht0⟩ : ∃ t, qs.getD i (zP, none) = (⟨0, 0, []⟩, t) := by
        have h1 : (qs.map Prod.fst).getD i zP = zP := by
          rw [HM.out.1, List.getD_eq_getElem?_getD, List.getElem?_append_right (by rw [List.length_take]; omega), List.getElem?_replicate]
          split <;> rfl
        have h2 : (qs.map Prod.fst).getD i zP = (qs.getD i (zP, none)).1 := by
          rw [List.getD_eq_getElem?_getD, List.getElem?_map, List.getD_eq_getElem?_getD, List.getElem?_eq_getElem (by omega)]
          rfl
        rw [h2] at h1
        exact ⟨(qs.getD i (zP, none)).2, Prod.ext h1 rfl⟩
      obtain ⟨A9, c9, q0, q1, q2, _, _⟩ := tagP_own0 hR hi ht0
      obtain ⟨_, _, _, _, hfr⟩ := Kd.R_elem hR (zP, none) (i : Int) (by omega) (by omega)
      have i0 : wr.frozen? ⟨g, i * 3, none⟩ = false := by have := hfr 0; rw [Int.toNat_natCast] at this; exact this
      have i1 : wr.frozen? ⟨g, i * 3 + 1, none⟩ = false := by have := hfr 1; rw [Int.toNat_natCast] at this; exact this
      have i2 : wr.frozen? ⟨g, i * 3 + 2, none⟩ = false := by have := hfr 2; rw [Int.toNat_natCast] at this; exact this
      have hi0 : (0 : Int) ≤ i := by omega
      have hi1 : (i : Int) < n := by omega
      have hin : ((i : Int)).toNat = i := by omega
      have hi2 : i < ps.length := by rw [HPL.out]; exact hi
      have hyl := HLL.out _ (getD_memL hi2)
      have HTS := Lib.hid (take_snoc hi2)
      have HTG := Lib.hid (tagP_mem hR)
      have HRR := Lib.hid hR
      have hbs := hb.size
      have hTo := fun W h => toPoly_c (ps.getD i zP).p (ps.getD i zP).d A1 c1 (ps.getD i zP).ts W h hyl
      clear hfr hR
      generalize ps.getD i zP = y at *
      go_wp2_with (go_at_call 23; (with_reducible refine to_makesP (V := wr) (Below.refl _ _) (hTo _ hX) ?_); intro w8 B8 c8 hb8 hb8' hl8 hR8; have j0 := (hb8.frozen (p := ⟨g, i * 3, none⟩) hg2).trans i0; have j1 := (hb8.frozen (p := ⟨g, i * 3 + 1, none⟩) hg2).trans i1; have j2 := (hb8.frozen (p := ⟨g, i * 3 + 2, none⟩) hg2).trans i2; have s0 := pw_cell_below hb8 q0; have s1 := pw_cell_below hb8 q1; have s2 := pw_cell_below hb8 q2)
      have hs8 := hb8.size
      have H := tag_put (okp := fun a => wr.heap.size ≤ a) (Kd.R_below HRR.out hb8) hi (p := y.p) (d := y.d) (Kd.R_lower (Kd.R_mono (Kd.R_bound hR8) (fun a ha => by have h9 : wr.heap.size ≤ a := ha.2.1; exact h9)) (by omega)) (fun a ha => ⟨trivial, by show a ≠ g; have h9 : wr.heap.size ≤ a := ha; omega⟩)
      have hbV := hb.trans (hb8.mono hb.size)
      go_roundg (gk - 1)
      case measure => have := HIK.out; omega
      case rel =>
        refine ⟨i + 1, _, ?_, ?_, ?_, H.1, ?_, ?_, ?_⟩
        · have := HIK.out; omega
        · go_num
        · exact hbV.grown H.2 (by have := hbV.size; omega) (fun a e => by injection e with e; omega)
        · rw [List.map_set, HM.out.1, HTS.out]
          have hl1 : (ps.take i).length = i := by rw [List.length_take]; omega
          rw [List.set_append_right _ _ (by omega), hl1, Nat.sub_self, show n - i = (n - (i + 1)) + 1 by omega, List.replicate_succ, List.set_cons_zero, List.append_assoc]
          rfl
        · refine apart_put HM.out.2.1 (by omega) (fun j hj k hk e => ?_) (fun j hj => HM.out.2.2 j (by omega))
          have h1 := (HTG.out (qs.getD j (zP, none)) (by
            have hj2 : j < qs.length := by omega
            have : qs.getD j (zP, none) = qs[j] := by simp [List.getD_eq_getElem?_getD, hj2]
            rw [this]
            exact List.getElem_mem hj2) k hk).2.2
          have h2 := ((Kd.R_bound hR8).1 k e).2.1
          omega
        · intro j hj
          have := HM.out.2.2 j (by omega)
          rw [List.getD_eq_getElem?_getD, List.getElem?_set_ne (by omega), ← List.getD_eq_getElem?_getD]
          exact this
    · have e : i = n := by have := HIK.out; omega
      subst e
      have em := HM.out.1
      rw [Nat.sub_self, show ps.take i = ps by rw [← HPL.out, List.take_length]] at em
      go_wp2
      go_ret
      exact ⟨_, qs, rfl, by simpa using em, HM.out.2.1, hR, hb⟩
end Go.Proofs.Ytneknpamceipiaa
