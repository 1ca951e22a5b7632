/- Inverses by a plain search, multiples of a polynomial, modular groups; no condition. -/
import Derived.Test.YtjhkeehfchkpaaaGreatYE4
import Derived.Test.YtjhkeehfchkpaaaGreatYAct4
import Derived.Test.YtjhkeehfchkpaaaGreatYKitS
set_option linter.unusedVariables false
set_option linter.unusedSimpArgs false
namespace Go.Proofs.YtjhkeehfchkpaaaGreat
open Go.RowKit Go.Proofs.YtjhkeehfchkpaaaGreatW.PrintWords
attribute [local go_sem] Later.cell Later.frozen Later.lt Later.lt_add Later.le Later.le_add Later.ne Later.ne' add_at
open Go.Proofs.YtjhkeehfchkpaaaGreatW.PrintLast
attribute [local go_sem 2000] run_eqM guardM
def invG (p x : Int) : Nat → Int → Int
  | 0, _ => 0
  | m + 1, k => if k * x % p = 1 then k else invG p x m (k + 1)
def invF (p x : Int) : Int := invG p x (p - 1).toNat 1
theorem invG_range (p x : Int) : ∀ (m : Nat) (k : Int), 0 ≤ k → 0 ≤ invG p x m k ∧ invG p x m k ≤ k + m
  | 0, k, h => ⟨by simp [invG], by simp [invG]; omega⟩
  | m + 1, k, h => by
    have ih := invG_range p x m (k + 1) (by omega)
    rw [invG]
    split <;> omega
theorem invF_range {p : Int} (x : Int) (hp : 2 ≤ p) : 0 ≤ invF p x ∧ invF p x ≤ p := by
  have h := invG_range p x (p - 1).toNat 1 (by omega)
  unfold invF
  omega
theorem invG_1 {p x j v : Int} {m : Nat} (h : invG p x (m + 1) j = v) (hj : j * x % p = 1) : j = v := by
  rw [invG, if_pos hj] at h
  exact h
theorem invG_2 {p x j v : Int} {m : Nat} (h : invG p x (m + 1) j = v) (hj : ¬ j * x % p = 1) : invG p x m (j + 1) = v := by
  rw [invG, if_neg hj] at h
  exact h
set_option maxRecDepth 100000 in
set_option maxHeartbeats 4000000 in
theorem inverse_r {p x : Int} (hp : 2 ≤ p) (hp' : p ≤ 13) (hx : 0 ≤ x) (hx' : x < p) (w : World) : Calls Tryz.prog 67 #[.int .i64 x, .int .i64 p] w (Gives (.int .i64 (invF p x)) w) := by
  go_enter Tryz.func67, Tryz.ntmps67
  go_wp2
  go_loopg [5] p.toNat (fun k v w' => ∃ (j : Int) (y : Later w), j + k = p + 1 ∧ v = .int .i64 j ∧ w' = y.W ∧ 1 ≤ j ∧ invG p x (k - 1) j = invF p x)
  case atStart => exact ⟨1, ⟨w, Below.refl _ _⟩, by omega, rfl, rfl, by omega, by unfold invF; rw [show p.toNat - 1 = (p - 1).toNat by omega]⟩
  case round =>
    obtain ⟨j, y, hjk, rfl, rfl, hj1, hI⟩ := hrel
    have HJK := Lib.hid hjk
    have HI := Lib.hid hI
    clear hI
    by_cases hjp : j < p
    · have HJ := Lib.hid (show invG p x ((gk - 2) + 1) j = invF p x by rw [show gk - 2 + 1 = gk - 1 by omega]; exact HI.out)
      have hb := mul_bd3S (x := x) (y := j) (by omega) (by omega) (by omega) (by omega)
      have hpz : p ≠ 0 := by omega
      have hxm := Int.mul_comm x j
      clear hjk
      by_cases hj : j * x % p = 1
      · have HE := Lib.hid (invG_1 HJ.out hj)
        rw [← Int.mul_comm x j] at hj
        clear hxm
        go_wp2
        rw [← HE.out]
        exact bodyPost_ret (v := .int .i64 j) (by simp [results, Tryz.results67, go_sem]) rfl (.mk rfl bq2)
      · have HN := Lib.hid (invG_2 HJ.out hj)
        rw [← Int.mul_comm x j] at hj
        clear hxm
        go_wp2
        go_roundg (gk - 1)
        case measure => have := HJK.out; omega
        case rel => exact ⟨j + 1, y, by have := HJK.out; omega, by go_num, rfl, by omega, by rw [show gk - 1 - 1 = gk - 2 by omega]; exact HN.out⟩
    · have HZ := Lib.hid (show invF p x = 0 by rw [← HI.out, show gk - 1 = 0 by omega]; rfl)
      clear hjk
      go_wp2
      rw [HZ.out]
      exact bodyPost_ret (v := .int .i64 0) (by simp [results, Tryz.results67, go_sem]) rfl (.mk rfl bq2)
set_option maxRecDepth 100000 in
set_option maxHeartbeats 4000000 in
theorem l01Inverse_r {p z : Int} (hp : 2 ≤ p) (hp' : p ≤ 13) (w : World) : Calls Tryz.prog 77 #[.int .i64 p, .int .i64 z] w (Gives (.int .i64 (invF p (z % p))) w) := by
  have hM := fun W => mod_gS (x := z) hp hp' W
  have hx := Int.emod_nonneg z (show p ≠ 0 by omega)
  have hx' := Int.emod_lt_of_pos z (show 0 < p by omega)
  generalize z % p = x at *
  go_enter Tryz.func77, Tryz.ntmps77
  go_wp2
  go_loopg [5] p.toNat (fun k v w' => ∃ (j : Int) (y : Later w), j + k = p + 1 ∧ v = .int .i64 j ∧ w' = y.W ∧ 1 ≤ j ∧ invG p x (k - 1) j = invF p x)
  case atStart => exact ⟨1, ⟨w, Below.refl _ _⟩, by omega, rfl, rfl, by omega, by unfold invF; rw [show p.toNat - 1 = (p - 1).toNat by omega]⟩
  case round =>
    obtain ⟨j, y, hjk, rfl, rfl, hj1, hI⟩ := hrel
    have HJK := Lib.hid hjk
    have HI := Lib.hid hI
    clear hI
    by_cases hjp : j < p
    · have HJ := Lib.hid (show invG p x ((gk - 2) + 1) j = invF p x by rw [show gk - 2 + 1 = gk - 1 by omega]; exact HI.out)
      have hb := mul_bd3S (x := j) (y := x) (by omega) (by omega) (by omega) (by omega)
      have hpz : p ≠ 0 := by omega
      clear hjk
      by_cases hj : j * x % p = 1
      · have HE := Lib.hid (invG_1 HJ.out hj)
        go_wp2_with ((go_at_call 106; (first | (with_reducible refine call_later2 (hM _) ?_) | (with_reducible refine call_later (hM _) ?_)); intro u))
        rw [← HE.out]
        exact bodyPost_ret (v := .int .i64 j) (by simp [results, Tryz.results77, go_sem]) rfl (.mk rfl bq2)
      · have HN := Lib.hid (invG_2 HJ.out hj)
        go_wp2_with ((go_at_call 106; (first | (with_reducible refine call_later2 (hM _) ?_) | (with_reducible refine call_later (hM _) ?_)); intro u))
        go_roundg (gk - 1)
        case measure => have := HJK.out; omega
        case rel => exact ⟨j + 1, u, by have := HJK.out; omega, by go_num, rfl, by omega, by rw [show gk - 1 - 1 = gk - 2 by omega]; exact HN.out⟩
    · have HZ := Lib.hid (show invF p x = 0 by rw [← HI.out, show gk - 1 = 0 by omega]; rfl)
      clear hjk
      go_wp2
      rw [HZ.out]
      exact bodyPost_ret (v := .int .i64 0) (by simp [results, Tryz.results77, go_sem]) rfl (.mk rfl bq2)
set_option maxRecDepth 100000 in
set_option maxHeartbeats 4000000 in
theorem l01Scale_c (p n k : Int) (B : Option Addr) (e : Nat) (ts : List T4) (w : World) (hD : kT.C w B ts.length ts) (hm : ts.length ≤ 2097152) (hp : 2 ≤ p) (hp' : p ≤ 13) (hv : ∀ t ∈ ts, -1000000 ≤ k * t.v ∧ k * t.v ≤ 1000000) :
    Calls Tryz.prog 78 #[.agg #[.int .i64 p, .int .i64 n, .slice B ts.length e], .int .i64 k] w (MakesP p n 80 (putsT p [] (pairsT k ts)) w) := by
  have f0 : ((w.alloc (.cells #[.int .i64 p, .int .i64 n, .slice B ts.length e] 38)).alloc (.cells #[.int .i64 0, .int .i64 0, .slice none 0 0] 38)).cell? ⟨w.heap.size, 0, none⟩ = some (.int .i64 p) := bq5
  have f1 : ((w.alloc (.cells #[.int .i64 p, .int .i64 n, .slice B ts.length e] 38)).alloc (.cells #[.int .i64 0, .int .i64 0, .slice none 0 0] 38)).cell? ⟨w.heap.size, 1, none⟩ = some (.int .i64 n) := bq5
  have f2 : ((w.alloc (.cells #[.int .i64 p, .int .i64 n, .slice B ts.length e] 38)).alloc (.cells #[.int .i64 0, .int .i64 0, .slice none 0 0] 38)).cell? ⟨w.heap.size, 2, none⟩ = some (.slice B ts.length e) := bq5
  have r0 : ((w.alloc (.cells #[.int .i64 p, .int .i64 n, .slice B ts.length e] 38)).alloc (.cells #[.int .i64 0, .int .i64 0, .slice none 0 0] 38)).cell? ⟨w.heap.size + 1, 0, none⟩ = some (.int .i64 0) := bq5
  have r1 : ((w.alloc (.cells #[.int .i64 p, .int .i64 n, .slice B ts.length e] 38)).alloc (.cells #[.int .i64 0, .int .i64 0, .slice none 0 0] 38)).cell? ⟨w.heap.size + 1, 1, none⟩ = some (.int .i64 0) := bq5
  have r2 : ((w.alloc (.cells #[.int .i64 p, .int .i64 n, .slice B ts.length e] 38)).alloc (.cells #[.int .i64 0, .int .i64 0, .slice none 0 0] 38)).cell? ⟨w.heap.size + 1, 2, none⟩ = some (.slice none 0 0) := bq5
  have r3 : ∀ j, ((w.alloc (.cells #[.int .i64 p, .int .i64 n, .slice B ts.length e] 38)).alloc (.cells #[.int .i64 0, .int .i64 0, .slice none 0 0] 38)).frozen? ⟨w.heap.size + 1, j, none⟩ = false := fun j => bq5
  obtain ⟨nl, hnl⟩ : ∃ nl : List T4, nl = [] := ⟨_, rfl⟩
  have hF := fun W => l01Empty_c p n W
  have hU := fun W L cl h5 h6 => l01Plus_c p n p n k L B cl e nl ts W h5 h6 (by rw [hnl]; simp) hm hp hp' hv (by rw [hnl]; exact canon_nil p)
  rw [← hnl] at hF ⊢
  clear hnl
  have hbW : Below w.heap.size w ((w.alloc (.cells #[.int .i64 p, .int .i64 n, .slice B ts.length e] 38)).alloc (.cells #[.int .i64 0, .int .i64 0, .slice none 0 0] 38)) := bq2
  have hD3 := Kd.C_below hD hbW
  have HZ := Lib.hid (show ((w.alloc (.cells #[.int .i64 p, .int .i64 n, .slice B ts.length e] 38)).alloc (.cells #[.int .i64 0, .int .i64 0, .slice none 0 0] 38)).heap.size = w.heap.size + 1 + 1 by simp)
  generalize putsT p nl (pairsT k ts) = ys at *
  go_enter Tryz.func78, Tryz.ntmps78
  go_wp2
  generalize hV : ((w.alloc (.cells #[.int .i64 p, .int .i64 n, .slice B ts.length e] 38)).alloc (.cells #[.int .i64 0, .int .i64 0, .slice none 0 0] 38)) = V at *
  generalize hrb : w.heap.size + 1 = rb at *
  generalize hfb : w.heap.size = fb at *
  clear hV
  refine start_ (n := 9) (S := fun w' => w'.cell? ⟨fb, 0, none⟩ = some (.int .i64 p) ∧ w'.cell? ⟨fb, 1, none⟩ = some (.int .i64 n) ∧ w'.cell? ⟨fb, 2, none⟩ = some (.slice B ts.length e)) (ds := [8]) #[false, false, false, false, false, false, false, false, false] (by kernel_rfl) rfl rfl ⟨f0, f1, f2⟩ (fun hHeld => ?_)
  refine pure_ (i := 0) (N := some 5) (v := ?_) (a' := ?_) #[true, false, false, false, false, false, false, false, false] rfl rfl (by kernel_rfl) (fun _ _ _ h => h) (Or.inl ⟨by rfl, ?_⟩) ?_ ?_
  rotate_left
  · intro w'
    go_simp
    with_reducible rfl
  rotate_left
  · simp only [Act.put, List.setIfInBounds_toArray, List.set_cons_zero, List.set_cons_succ, i64_w, i32_w]
    rfl
  refine pure_ (i := 2) (N := some 7) (v := ?_) (a' := ?_) #[true, false, true, false, false, false, false, false, false] rfl rfl (by kernel_rfl) (fun _ _ _ h => h) (Or.inl ⟨by rfl, ?_⟩) ?_ ?_
  rotate_left
  · intro w'
    go_simp
    with_reducible rfl
  rotate_left
  · simp only [Act.put, List.setIfInBounds_toArray, List.set_cons_zero, List.set_cons_succ, i64_w, i32_w]
    rfl
  refine pure_ (i := 6) (N := some 11) (v := ?_) (a' := ?_) #[true, false, true, false, false, false, true, false, false] rfl rfl (by kernel_rfl) (fun _ _ _ h => h) (Or.inl ⟨by rfl, ?_⟩) ?_ ?_
  rotate_left
  · intro w'
    go_simp
    with_reducible rfl
  rotate_left
  · simp only [Act.put, List.setIfInBounds_toArray, List.set_cons_zero, List.set_cons_succ, i64_w, i32_w]
    rfl
  refine take_ (i := 1) (N := some 6) (v := ?_) (a' := ?_) #[true, true, true, false, false, false, true, false, false] rfl rfl (by kernel_rfl) (fun _ _ _ h => h) (Or.inl ⟨by rfl, ?_⟩) hHeld ?_ ?_
  rotate_left
  · rintro w' ⟨s0, s1, s2⟩
    go_simp
    with_reducible rfl
  rotate_left
  · simp only [Act.put, List.setIfInBounds_toArray, List.set_cons_zero, List.set_cons_succ, i64_w, i32_w]
    rfl
  refine take_ (i := 3) (N := some 8) (v := ?_) (a' := ?_) #[true, true, true, true, false, false, true, false, false] rfl rfl (by kernel_rfl) (fun _ _ _ h => h) (Or.inl ⟨by rfl, ?_⟩) hHeld ?_ ?_
  rotate_left
  · rintro w' ⟨s0, s1, s2⟩
    go_simp
    with_reducible rfl
  rotate_left
  · simp only [Act.put, List.setIfInBounds_toArray, List.set_cons_zero, List.set_cons_succ, i64_w, i32_w]
    rfl
  refine take_ (i := 5) (N := some 10) (v := ?_) (a' := ?_) #[true, true, true, true, false, true, true, false, false] rfl rfl (by kernel_rfl) (fun _ _ _ h => h) (Or.inl ⟨by rfl, ?_⟩) hHeld ?_ ?_
  rotate_left
  · rintro w' ⟨s0, s1, s2⟩
    go_simp
    with_reducible rfl
  rotate_left
  · simp only [Act.put, List.setIfInBounds_toArray, List.set_cons_zero, List.set_cons_succ, i64_w, i32_w]
    rfl
  refine one_ (i := 4) (N := some 9) #[true, true, true, true, true, true, true, false, false] rfl rfl (by kernel_rfl) (by decide) (fun K hK => ?_)
  refine goes_ Tryz.func100 (by kernel_rfl) rfl #[.int .i64 p, .int .i64 n] (by rfl) rfl rfl (by simp only [List.map_toArray, List.map_cons, List.map_nil]; rfl) ?_
  with_reducible refine (hF _).mono ?_
  rintro e' xw ⟨L8, c8, rfl, hR8, hb8'⟩
  refine ⟨_, rfl, ?_⟩
  have hqx := below_undrewA hb8'
  refine hK.out _ _ ⟨pw_cell_below hqx f0, pw_cell_below hqx f1, pw_cell_below hqx f2⟩ (fun hHeld => ?_)
  clear hK K
  refine norm_ (a' := ?_) ?_ ?_
  rotate_left
  · show Act.put _ (some 9) _ = _
    simp only [Act.put, List.setIfInBounds_toArray, List.set_cons_zero, List.set_cons_succ, i64_w, i32_w]
    rfl
  refine one_ (i := 7) (N := some 12) #[true, true, true, true, true, true, true, true, false] rfl rfl (by kernel_rfl) (by decide) (fun K hK => ?_)
  refine goes_ Tryz.func101 (by kernel_rfl) rfl #[.agg #[.int .i64 p, .int .i64 n, .slice L8 nl.length c8], .agg #[.int .i64 p, .int .i64 n, .slice B ts.length e], .int .i64 k] (by rfl) rfl rfl (by simp only [List.map_toArray, List.map_cons, List.map_nil]; rfl) ?_
  with_reducible refine (hU _ L8 c8 (Kd.R_reads' hR8).2.2 (Kd.C_below hD3 hqx)).mono ?_
  rintro e' yw ⟨A9, c9, rfl, hR9, hb9'⟩
  refine ⟨_, rfl, ?_⟩
  have hqy := hqx.trans (hb9'.mono hqx.size)
  have z0 := pw_cell_below hqy r0
  have z1 := pw_cell_below hqy r1
  have z2 := pw_cell_below hqy r2
  have z3 := fun j => (hqy.frozen (p := ⟨rb, j, none⟩) (by show rb < _; have := HZ.out; omega)).trans (r3 j)
  refine hK.out _ _ ⟨pw_cell_below hqy f0, pw_cell_below hqy f1, pw_cell_below hqy f2⟩ (fun hHeld => ?_)
  clear hK K
  refine norm_ (a' := ?_) ?_ ?_
  rotate_left
  · show Act.put _ (some 12) _ = _
    simp only [Act.put, List.setIfInBounds_toArray, List.set_cons_zero, List.set_cons_succ, i64_w, i32_w]
    rfl
  refine last_ (i := 8) (N := none) #[true, true, true, true, true, true, true, true, true] rfl rfl (by kernel_rfl) (by decide) (fun K hK => ?_)
  refine skip_ (w1 := ?_) (by rfl) rfl ?_ ?_
  rotate_left
  · go_simp
    rfl
  refine hK.out _ _ ?_
  clear hK K
  refine done_ (by kernel_rfl) ?_
  go_wp2
  refine bodyPost_ret (v := .agg #[.int .i64 p, .int .i64 n, .slice A9 ys.length c9]) (by simp [results, Tryz.results78, go_sem, z0, z1, z2, z3]) rfl ⟨A9, c9, rfl, ?_, ?_⟩
  · exact Kd.R_lower (R_set3 (Kd.R_mono (Kd.R_bound hR9) (ok' := fun k => k ≠ rb) (fun k hk => by have h4 := hk.2.1; have h5 := hqx.size; have h6 := HZ.out; show k ≠ rb; have h7 : xw.heap.size ≤ k := h4; omega)) (fun k hk => hk) (Nat.le_refl _) _ _ _) (by have h5 := hqx.size; have h6 := HZ.out; show w.heap.size ≤ xw.heap.size; omega)
  · rw [hfb]
    exact below_set3 (hbW.trans (hqy.mono (by have h6 := HZ.out; omega))) (by omega) _ _ _
end Go.Proofs.YtjhkeehfchkpaaaGreat
