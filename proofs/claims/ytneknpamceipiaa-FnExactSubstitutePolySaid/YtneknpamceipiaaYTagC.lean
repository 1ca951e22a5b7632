/- Lists of polynomials compared, marked and read back: eqPolyS, markPolyS, heldPolyS; no condition. -/
import Derived.Test.YtneknpamceipiaaYTagM
import Derived.Test.YtneknpamceipiaaYKitP
import Derived.Test.YtneknpamceipiaaYWLast
set_option linter.unusedVariables false
set_option linter.unusedSimpArgs false
namespace Go.Proofs.Ytneknpamceipiaa
open Go.RowKit Go.Proofs.YtneknpamceipiaaW.PrintWords
attribute [local go_sem] Later.cell Later.frozen Later.lt Later.lt_add Later.le Later.le_add Later.ne Later.ne' add_at
open Go.Proofs.YtneknpamceipiaaW.PrintLast
theorem getD_memT {ps : List PV} {i : Nat} (h : i < ps.length) : ps.getD i zP ∈ ps := by
  have e : ps.getD i zP = ps[i] := by simp [List.getD_eq_getElem?_getD, h]
  rw [e]
  exact List.getElem_mem h
theorem below_undrewT {w W : World} (h : Below w.drew.heap.size w.drew W) : Below w.heap.size w W := ⟨h.os, h.tape, h.output, h.size, h.block⟩
set_option maxRecDepth 100000 in
set_option maxHeartbeats 4000000 in
theorem eqPolyS_same (A B : Option Addr) (c b n : Nat) (ps : List PV) (w : World) (hC : kP.C w A n ps) (hD : kP.C w B n ps) (hn : n ≤ 1048576) (hl : ∀ x ∈ ps, x.ts.length ≤ 1048576) :
    Calls Try.prog 27 #[.slice A n c, .slice B n b] w (Gives (.bool true) w) := by
  have hpl := Kd.C_len hC
  have HPL := Lib.hid hpl
  clear hpl
  go_enter Try.func27, Try.ntmps27
  go_wp2
  go_loopg [5] n (fun g v w' => ∃ (i : Nat) (z : Later w), i + g = n ∧ v = .int .i64 i ∧ w' = z.W)
  case atStart => exact ⟨0, ⟨w, Below.refl _ _⟩, by omega, rfl, rfl⟩
  case round =>
    obtain ⟨i, z, hik, rfl, rfl⟩ := hrel
    have HIK := Lib.hid hik
    clear hik
    by_cases hi : i < n
    · obtain ⟨b1, o1, A1, c1, hA, p0, p1, p2, hX⟩ := kP_at hC i hi
      obtain ⟨b2, o2, A2, c2, hB, u0, u1, u2, hY⟩ := kP_at hD i hi
      subst hA
      subst hB
      have p0 := pw_cell_below z.ok p0
      have p1 := pw_cell_below z.ok p1
      have p2 := pw_cell_below z.ok p2
      have u0 := pw_cell_below z.ok u0
      have u1 := pw_cell_below z.ok u1
      have u2 := pw_cell_below z.ok u2
      have hX := Kd.C_below hX z.ok
      have hY := Kd.C_below hY z.ok
      have hi0 : (0 : Int) ≤ i := by omega
      have hi1 : (i : Int) < n := by omega
      have hin : ((i : Int)).toNat = i := by omega
      have hyl := hl _ (getD_memT (ps := ps) (i := i) (by rw [HPL.out]; exact hi))
      have hE := fun W h h' => eqPoly_same (ps.getD i zP).p (ps.getD i zP).d A1 A2 c1 c2 (ps.getD i zP).ts W h h' hyl
      generalize ps.getD i zP = y at *
      go_wp2
      refine start_ (n := 10) (S := fun w' => w'.cell? ⟨b1, o1 + i * 3, none⟩ = some (.int .i64 y.p) ∧ w'.cell? ⟨b1, o1 + i * 3 + 1, none⟩ = some (.int .i64 y.d) ∧ w'.cell? ⟨b1, o1 + i * 3 + 2, none⟩ = some (.slice A1 y.ts.length c1) ∧ w'.cell? ⟨b2, o2 + i * 3, none⟩ = some (.int .i64 y.p) ∧ w'.cell? ⟨b2, o2 + i * 3 + 1, none⟩ = some (.int .i64 y.d) ∧ w'.cell? ⟨b2, o2 + i * 3 + 2, none⟩ = some (.slice A2 y.ts.length c2)) (ds := []) #[false, false, false, false, false, false, false, false, false, false] (by kernel_rfl) rfl rfl ⟨p0, p1, p2, u0, u1, u2⟩ (fun hHeld => ?_)
      refine pure_ (i := 0) (N := some 17) (v := ?_) (a' := ?_) #[true, false, false, false, false, false, false, false, false, false] rfl rfl (by kernel_rfl) (fun _ _ _ h => h) (Or.inl ⟨by rfl, ?_⟩) ?_ ?_
      rotate_left
      · intro w'
        go_simp
        with_reducible rfl
      rotate_left
      · simp only [Act.put, List.setIfInBounds_toArray, List.set_cons_zero, List.set_cons_succ, i64_w, i32_w]
        rfl
      refine pure_ (i := 1) (N := some 18) (v := ?_) (a' := ?_) #[true, true, false, false, false, false, false, false, false, false] rfl rfl (by kernel_rfl) (fun _ _ _ h => h) (Or.inl ⟨by rfl, ?_⟩) ?_ ?_
      rotate_left
      · intro w'
        go_simp
        with_reducible rfl
      rotate_left
      · simp only [Act.put, List.setIfInBounds_toArray, List.set_cons_zero, List.set_cons_succ, i64_w, i32_w]
        rfl
      refine pure_ (i := 2) (N := some 19) (v := ?_) (a' := ?_) #[true, true, true, false, false, false, false, false, false, false] rfl rfl (by kernel_rfl) (fun _ _ _ h => h) (Or.inl ⟨by rfl, ?_⟩) ?_ ?_
      rotate_left
      · intro w'
        go_simp
        with_reducible rfl
      rotate_left
      · simp only [Act.put, List.setIfInBounds_toArray, List.set_cons_zero, List.set_cons_succ, i64_w, i32_w]
        rfl
      refine pure_ (i := 4) (N := some 21) (v := ?_) (a' := ?_) #[true, true, true, false, true, false, false, false, false, false] rfl rfl (by kernel_rfl) (fun _ _ _ h => h) (Or.inl ⟨by rfl, ?_⟩) ?_ ?_
      rotate_left
      · intro w'
        go_simp
        with_reducible rfl
      rotate_left
      · simp only [Act.put, List.setIfInBounds_toArray, List.set_cons_zero, List.set_cons_succ, i64_w, i32_w]
        rfl
      refine pure_ (i := 5) (N := some 22) (v := ?_) (a' := ?_) #[true, true, true, false, true, true, false, false, false, false] rfl rfl (by kernel_rfl) (fun _ _ _ h => h) (Or.inl ⟨by rfl, ?_⟩) ?_ ?_
      rotate_left
      · intro w'
        go_simp
        with_reducible rfl
      rotate_left
      · simp only [Act.put, List.setIfInBounds_toArray, List.set_cons_zero, List.set_cons_succ, i64_w, i32_w]
        rfl
      refine pure_ (i := 6) (N := some 23) (v := ?_) (a' := ?_) #[true, true, true, false, true, true, true, false, false, false] rfl rfl (by kernel_rfl) (fun _ _ _ h => h) (Or.inl ⟨by rfl, ?_⟩) ?_ ?_
      rotate_left
      · intro w'
        go_simp
        with_reducible rfl
      rotate_left
      · simp only [Act.put, List.setIfInBounds_toArray, List.set_cons_zero, List.set_cons_succ, i64_w, i32_w]
        rfl
      refine take_ (i := 3) (N := some 20) (v := ?_) (a' := ?_) #[true, true, true, true, true, true, true, false, false, false] rfl rfl (by kernel_rfl) (fun _ _ _ h => h) (Or.inl ⟨by rfl, ?_⟩) hHeld ?_ ?_
      rotate_left
      · rintro w' ⟨s0, s1, s2, s3, s4, s5⟩
        go_simp
        with_reducible rfl
      rotate_left
      · simp only [Act.put, List.setIfInBounds_toArray, List.set_cons_zero, List.set_cons_succ, i64_w, i32_w]
        rfl
      refine take_ (i := 7) (N := some 24) (v := ?_) (a' := ?_) #[true, true, true, true, true, true, true, true, false, false] rfl rfl (by kernel_rfl) (fun _ _ _ h => h) (Or.inl ⟨by rfl, ?_⟩) hHeld ?_ ?_
      rotate_left
      · rintro w' ⟨s0, s1, s2, s3, s4, s5⟩
        go_simp
        with_reducible rfl
      rotate_left
      · simp only [Act.put, List.setIfInBounds_toArray, List.set_cons_zero, List.set_cons_succ, i64_w, i32_w]
        rfl
      refine one_ (i := 8) (N := some 25) #[true, true, true, true, true, true, true, true, true, false] rfl rfl (by kernel_rfl) (by decide) (fun K hK => ?_)
      refine goes_ Try.func26 (by kernel_rfl) rfl #[.agg #[.int .i64 y.p, .int .i64 y.d, .slice A1 y.ts.length c1], .agg #[.int .i64 y.p, .int .i64 y.d, .slice A2 y.ts.length c2]] (by rfl) rfl rfl (by simp only [List.map_toArray, List.map_cons, List.map_nil]; rfl) ?_
      with_reducible refine (hE _ (Kd.C_below hX (Below.refl _ _).drew) (Kd.C_below hY (Below.refl _ _).drew)).mono ?_
      rintro e' yw ⟨rfl, hb9'⟩
      refine ⟨_, rfl, ?_⟩
      have hqx := below_undrewT hb9'
      refine hK.out _ _ ⟨pw_cell_below hqx p0, pw_cell_below hqx p1, pw_cell_below hqx p2, pw_cell_below hqx u0, pw_cell_below hqx u1, pw_cell_below hqx u2⟩ (fun hHeld => ?_)
      clear hK K
      refine norm_ (a' := ?_) ?_ ?_
      rotate_left
      · show Act.put _ (some 25) _ = _
        simp only [Act.put, List.setIfInBounds_toArray, List.set_cons_zero, List.set_cons_succ, i64_w, i32_w]
        rfl
      refine pure_ (i := 9) (N := some 26) (v := ?_) (a' := ?_) #[true, true, true, true, true, true, true, true, true, true] rfl rfl (by kernel_rfl) (fun _ _ _ h => h) (Or.inl ⟨by rfl, ?_⟩) ?_ ?_
      rotate_left
      · intro w'
        go_simp
        with_reducible rfl
      rotate_left
      · simp only [Act.put, List.setIfInBounds_toArray, List.set_cons_zero, List.set_cons_succ, i64_w, i32_w]
        rfl
      refine done_ (by kernel_rfl) ?_
      go_wp2
      go_roundg (gk - 1)
      case measure => have := HIK.out; omega
      case rel => exact ⟨i + 1, ⟨yw, z.ok.trans (hqx.mono z.ok.size)⟩, by have := HIK.out; omega, by go_num, rfl⟩
    · go_wp2
      go_ret
      exact .mk rfl z.ok
theorem endP_ge : ∀ (xs : List PV) (k : Int), k ≤ endP k xs
  | [], _ => Int.le_refl _
  | x :: xs, k => by
    have := endP_ge xs (k + 1 + 1 + 4 * (x.ts.length : Int))
    show k ≤ endP _ xs
    omega
theorem endP_app (b : List PV) : ∀ (a : List PV) (k : Int), endP k (a ++ b) = endP (endP k a) b
  | [], _ => rfl
  | _ :: a, _ => endP_app b a _
set_option maxRecDepth 100000 in
set_option maxHeartbeats 8000000 in
theorem markPolyS_g (A : Option Addr) (c n : Nat) (ps : List PV) (qs : List (PV × Option Nat)) (k : Int) (w : World) (base : Nat) (ok : Nat → Prop) (hR : (tagK kP).R 45 w base ok (.slice A n c) qs) (hq : qs.map Prod.fst = ps) (hap : Apart qs) (hn : ps.length = n) (hn2 : n ≤ 1048576) (hl : ∀ x ∈ ps, x.ts.length ≤ 1048576) (hk : 0 ≤ k) (hE : endP k ps ≤ 1000000000) :
    Calls Try.prog 29 #[.slice A n c, .int .i64 k] w (fun e w' => e = .returned (.int .i64 (endP k ps)) ∧ (∃ qs', qs'.map Prod.fst = marksP k ps ∧ (tagK kP).R 45 w' base ok (.slice A n c) qs') ∧ Below base w w' ∧ ∀ a, a < w.heap.size → ¬ ok a → w'.heap[a]? = w.heap[a]?) := by
  have HLL := Lib.hid hl
  have HN := Lib.hid hn
  have hbd : ∀ i, k ≤ endP k (ps.take i) ∧ endP k (ps.take i) ≤ 1000000000 := fun i => by
    have h1 := endP_ge (ps.take i) k
    have h2 := endP_ge (ps.drop i) (endP k (ps.take i))
    rw [← endP_app, List.take_append_drop] at h2
    omega
  have HBD := Lib.hid hbd
  have hm0 : (qs.map Prod.fst) = marksP k (ps.take 0) ++ ps.drop 0 := by rw [hq]; rfl
  clear hl hn hbd hq hE
  go_enter Try.func29, Try.ntmps29
  go_wp2
  go_loopg [5, 1] n (fun g v kk w' => ∃ (i : Nat) (os : List (PV × Option Nat)), i + g = n ∧ v = .int .i64 i ∧ kk = .int .i64 (endP k (ps.take i)) ∧ (tagK kP).R 45 w' base ok (.slice A n c) os ∧ os.map Prod.fst = marksP k (ps.take i) ++ ps.drop i ∧ Apart os ∧ Below base w w' ∧ ∀ a, a < w.heap.size → ¬ ok a → w'.heap[a]? = w.heap[a]?)
  case atStart => exact ⟨0, qs, by omega, rfl, rfl, hR, hm0, hap, Below.refl _ _, fun _ _ _ => rfl⟩
  case round =>
    clear hR hm0 hap
    obtain ⟨i, os, hik, rfl, rfl, hR, hm, hap, hb, hfr0⟩ := hrel
    have hsw := hb.size
    have HFR := Lib.hid hfr0
    clear hfr0
    have HIK := Lib.hid hik
    have HM := Lib.hid hm
    have HAP := Lib.hid hap
    clear hik hm hap
    by_cases hi : i < n
    · have hi2 : i < ps.length := by rw [HN.out]; exact hi
      have hol : os.length = n := (Kd.R_reads' hR).1.symm
      have hl1 : (marksP k (ps.take i)).length = i := by rw [marksP_len, List.length_take]; omega
      obtain ⟨t, ht⟩ : ∃ t, os.getD i (zP, none) = (⟨(ps.getD i zP).p, (ps.getD i zP).d, (ps.getD i zP).ts⟩, t) := by
        have h1 : (os.map Prod.fst).getD i zP = ps.getD i zP := by
          rw [HM.out, List.getD_eq_getElem?_getD, List.getElem?_append_right (by omega), hl1, Nat.sub_self, List.getElem?_drop, List.getD_eq_getElem?_getD]
          rfl
        have h2 : (os.map Prod.fst).getD i zP = (os.getD i (zP, none)).1 := by
          rw [List.getD_eq_getElem?_getD, List.getElem?_map, List.getD_eq_getElem?_getD, List.getElem?_eq_getElem (by omega)]
          rfl
        rw [h2] at h1
        exact ⟨(os.getD i (zP, none)).2, by rw [← h1]⟩
      obtain ⟨g, hA, hg1, hg2⟩ := tagP_form hR (by omega)
      subst hA
      obtain ⟨A1, c1, p0, p1, p2, hRx, htx⟩ := tagP_own0 hR hi ht
      obtain ⟨cs, hcl, hMx, hcell, hfr⟩ := Kd.R_elem hR (zP, none) (i : Int) (by omega) (by omega)
      have i0 : wr.frozen? ⟨g, i * 3, none⟩ = false := by have := hfr 0; rw [Int.toNat_natCast] at this; exact this
      have i1 : wr.frozen? ⟨g, i * 3 + 1, none⟩ = false := by have := hfr 1; rw [Int.toNat_natCast] at this; exact this
      have hbi := HBD.out i
      have hbj := HBD.out (i + 1)
      have hyl := HLL.out _ (getD_memT hi2)
      have hst : endP k (ps.take (i + 1)) = endP k (ps.take i) + 1 + 1 + 4 * ((ps.getD i zP).ts.length : Int) := by rw [take_snoc hi2, endP_snoc]
      have HST := Lib.hid hst
      have hmn : marksP k (ps.take (i + 1)) = marksP k (ps.take i) ++ [⟨endP k (ps.take i), endP k (ps.take i) + 1, marksL (endP k (ps.take i) + 1 + 1) (ps.getD i zP).ts.length⟩] := by rw [take_snoc hi2, marksP_snoc]
      have hset : ∀ z : PV, (marksP k (ps.take i) ++ ps.drop i).set i z = marksP k (ps.take i) ++ [z] ++ ps.drop (i + 1) := fun z => by
        rw [List.set_append_right _ _ (by omega), hl1, Nat.sub_self, List.drop_eq_getElem_cons hi2, List.set_cons_zero, List.append_assoc]
        rfl
      have HSET := Lib.hid (And.intro hmn hset)
      have hi0 : (0 : Int) ≤ i := by omega
      have hi1 : (i : Int) < n := by omega
      have hin : ((i : Int)).toNat = i := by omega
      have hgt : some g ≠ t := fun e => by
        have h1 := (Kd.R_bound hRx).1 g (htx.trans e.symm)
        exact h1.1.2 rfl
      clear hst hmn hset hMx hcell hfr hcl
      generalize ps.getD i zP = y at *
      generalize endP k (ps.take i) = E at *
      have hS := Kd.R_seg (okp := fun a => ok a ∧ a ≠ g) hR (i : Int) (by omega) (by omega) (c := [.int .i64 y.p, .int .i64 y.d, .slice A1 y.ts.length c1]) (seg := [.int .i64 E, .int .i64 (E + 1)]) (j := 0) rfl (fun j u hu => by
        rw [Int.toNat_natCast]
        match j, hu with
        | 0, hu => simp at hu; rw [← hu]; exact p0
        | 1, hu => simp at hu; rw [← hu]; exact p1
        | 2, hu => simp at hu; rw [← hu]; exact p2
        | j + 3, hu => simp at hu) (show 0 + 2 ≤ 3 by omega) (x' := (⟨E, E + 1, y.ts⟩, t)) ⟨⟨A1, c1, rfl, hRx⟩, htx⟩ (fun a ha => ha)
      rw [Int.toNat_natCast] at hS
      change (tagK kP).R _ ((wr.setCell ⟨g, i * 3, none⟩ (.int .i64 E)).setCell ⟨g, i * 3 + 1, none⟩ (.int .i64 (E + 1))) _ _ _ _ ∧ wr.grownBy ((wr.setCell ⟨g, i * 3, none⟩ (.int .i64 E)).setCell ⟨g, i * 3 + 1, none⟩ (.int .i64 (E + 1))) _ at hS
      obtain ⟨hS1, hS2⟩ := hS
      have hX2 : kT.R 121 ((wr.setCell ⟨g, i * 3, none⟩ (.int .i64 E)).setCell ⟨g, i * 3 + 1, none⟩ (.int .i64 (E + 1))) base (fun a => ok a ∧ a ≠ g) (.slice A1 y.ts.length c1) y.ts := Kd.R_grown hRx hS2 (fun a ha e => ha.2 (by injection e))
      have q2 : ((wr.setCell ⟨g, i * 3, none⟩ (.int .i64 E)).setCell ⟨g, i * 3 + 1, none⟩ (.int .i64 (E + 1))).cell? ⟨g, i * 3 + 2, none⟩ = some (.slice A1 y.ts.length c1) := (World.cell?_setCell_other _ _ _ _ (by simp)).trans ((World.cell?_setCell_other _ _ _ _ (by simp)).trans p2)
      have hMk := markTermS_c A1 c1 y.ts (E + 1 + 1) _ base _ hX2 (by omega) (by omega) (by omega)
      have hbS : Below base w ((wr.setCell ⟨g, i * 3, none⟩ (.int .i64 E)).setCell ⟨g, i * 3 + 1, none⟩ (.int .i64 (E + 1))) := hb.grown hS2 (by have := hb.size; omega) (fun a e => by injection e with e; omega)
      have hokg := (Kd.R_bound hR).1 g (by simp [Value.ownBlock])
      have hfS : ∀ a, a < w.heap.size → ¬ ok a → ((wr.setCell ⟨g, i * 3, none⟩ (.int .i64 E)).setCell ⟨g, i * 3 + 1, none⟩ (.int .i64 (E + 1))).heap[a]? = w.heap[a]? := fun a ha hna => (hS2.block a (by omega) (fun e => by injection e with e; subst e; exact hna hokg.1)).trans (HFR.out a ha hna)
      have HFS := Lib.hid hfS
      clear hokg hfS
      have HS1 := Lib.hid (And.intro hS1 (And.intro q2 hbS))
      have hsz : wr.heap.size ≤ ((wr.setCell ⟨g, i * 3, none⟩ (.int .i64 E)).setCell ⟨g, i * 3 + 1, none⟩ (.int .i64 (E + 1))).heap.size := hS2.size
      have hbase : base ≤ wr.heap.size := by omega
      clear hS1 hS2 hX2 hbS hRx hR
      go_wp2_with (go_at_call 65; (with_reducible refine Calls.mono hMk ?_); rintro e' W9 ⟨rfl, hR9, hg9⟩)
      rw [htx] at hg9
      have hos2 : (os.set i (⟨E, E + 1, y.ts⟩, t)).getD i (zP, none) = (⟨E, E + 1, y.ts⟩, t) := by
        rw [List.getD_eq_getElem?_getD, List.getElem?_set_self (by omega)]
        rfl
      have hap2 : Apart (os.set i (⟨E, E + 1, y.ts⟩, t)) := tagP_apart_set HAP.out ht (by omega)
      have hF := tagP_row HS1.out.1 hap2 hi hos2 (A' := A1) (c' := c1) HS1.out.2.1 (marksL_len _ _) hgt hg9 hR9
      have hap3 := tagP_apart_set (y := ⟨E, E + 1, marksL (E + 1 + 1) y.ts.length⟩) hap2 hos2 (by rw [List.length_set]; omega)
      rw [List.set_set] at hF hap3
      have hb9 : Below base w W9 := HS1.out.2.2.grown hg9 (by omega) (fun a e => by
        have h1 := (Kd.R_bound hR9).1 a (htx.trans e)
        exact h1.2.1)
      have hf9 : ∀ a, a < w.heap.size → ¬ ok a → W9.heap[a]? = w.heap[a]? := fun a ha hna => (hg9.block a (by omega) (fun e => hna ((Kd.R_bound hR9).1 a (htx.trans e.symm)).1.1)).trans (HFS.out a ha hna)
      go_roundg (gk - 1)
      case measure => have := HIK.out; omega
      case rel =>
        refine ⟨i + 1, _, ?_, ?_, ?_, hF, ?_, hap3, hb9, hf9⟩
        · have := HIK.out; omega
        · go_num
        · rw [HST.out]
        · rw [List.map_set, HM.out, HSET.out.2, HSET.out.1]
    · have e : i = n := by have := HIK.out; omega
      subst e
      have ep : ps.take i = ps := by rw [← HN.out, List.take_length]
      have em := HM.out
      rw [ep, show ps.drop i = [] by rw [← HN.out, List.drop_length], List.append_nil] at em
      rw [ep]
      go_wp2
      go_ret
      exact ⟨rfl, ⟨os, em, hR⟩, hb, HFR.out⟩
end Go.Proofs.Ytneknpamceipiaa
