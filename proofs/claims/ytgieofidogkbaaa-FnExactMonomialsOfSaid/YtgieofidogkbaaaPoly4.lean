/- The walk of the reference's test on polynomials; no condition. -/
import Derived.Test.YtgieofidogkbaaaPoly3
set_option linter.unusedVariables false
set_option linter.unusedSimpArgs false
namespace Go.Proofs.Ytgieofidogkbaaa
open Go.RowKit Go.Proofs.YtgieofidogkbaaaW.PrintWords
attribute [local go_sem] Later.cell Later.frozen Later.lt Later.lt_add Later.le Later.le_add Later.ne Later.ne' add_at

theorem prime_bd {p : Int} (h : primeB p = true) : 2 ≤ p ∧ p ≤ 13 := by
  simp [primeB] at h
  omega
theorem befE_cmp (e f : E3) : befE e f = decide (cmpE e f < 0) := by
  unfold befE cmpE
  by_cases h : degE e = degE f
  · have h' : degE e - degE f = 0 := by omega
    simp only [ne_eq, h, h', not_true, if_false, Int.sub_self]
    by_cases g : (e.a.toNat : Int) = f.a.toNat
    · simp only [g, not_true, if_false]
      congr 1
      rw [eq_iff_iff]
      omega
    · simp only [g, not_false_iff, if_true]
      congr 1
      rw [eq_iff_iff]
      omega
  · have h' : ¬ degE e - degE f = 0 := by omega
    simp only [ne_eq, h, h', not_false_iff, if_true]
    congr 1
    rw [eq_iff_iff]
    omega
theorem okB_spec (p d : Int) (ts : List T4) (i : Nat) : okB p d ts i = (expsB d (ts.getD i z4).e && inB (ts.getD i z4).v 1 (p - 1) && (i == 0 || befE (ts.getD (i - 1) z4).e (ts.getD i z4).e)) := by
  unfold okB expsB inB
  rw [befE_cmp]
  have : decide ((ts.getD i z4).v < p) = decide ((ts.getD i z4).v ≤ p - 1) := by
    congr 1
    rw [eq_iff_iff]
    omega
  rw [this]
  generalize zerosB d (ts.getD i z4).e = a
  generalize decide (degE (ts.getD i z4).e ≤ 12) = b
  generalize decide (1 ≤ (ts.getD i z4).v) = c
  generalize decide ((ts.getD i z4).v ≤ p - 1) = e
  generalize (i == 0 || decide (cmpE (ts.getD (i - 1) z4).e (ts.getD i z4).e < 0)) = f
  cases a <;> cases b <;> cases c <;> cases e <;> cases f <;> rfl

set_option maxRecDepth 100000 in
set_option maxHeartbeats 1000000 in
theorem l01Is_c (p d : Int) (A : Option Addr) (c : Nat) (ts : List T4) (w : World) (hC : kT.C w A ts.length ts) (hn : ts.length ≤ 9223372036854775807) :
    Calls Try.prog 135 #[.agg #[.int .i64 p, .int .i64 d, .slice A ts.length c]] w (Gives (.bool (polyB p d ts)) w) := by
  cases hp : primeB p with
  | false =>
    have hr : polyB p d ts = false := by simp [polyB, hp]
    have HR := Lib.hid hr
    clear hr
    go_enter Try.func135, Try.ntmps135
    go_wp2_with ((go_at_call 177; (first | (with_reducible refine call_later2 (l01Prime_c _ _) ?_) | (with_reducible refine call_later (l01Prime_c _ _) ?_)); intro x))
    go_ret
    exact .mk (by rw [HR.out]; rfl) (bel_later x ((Below.refl _ _).alloc (Nat.le_refl _) _) (by simp))
  | true =>
    cases hv : inB d 1 3 with
    | false =>
      have hr : polyB p d ts = false := by simp [polyB, hp, hv]
      have HR := Lib.hid hr
      clear hr
      go_enter Try.func135, Try.ntmps135
      go_wp2_with (first | (go_at_call 177; (first | (with_reducible refine call_later2 (l01Prime_c _ _) ?_) | (with_reducible refine call_later (l01Prime_c _ _) ?_)); intro x) | (go_at_call 124; (first | (with_reducible refine call_later2 (l01In_c _ _ _ _) ?_) | (with_reducible refine call_later (l01In_c _ _ _ _) ?_)); intro x2))
      go_ret
      exact .mk (by rw [HR.out]; rfl) (bel_later x2 ((Below.refl _ _).alloc (Nat.le_refl _) _) (by simp))
    | true =>
      have hr : polyB p d ts = (List.range ts.length).all (okB p d ts) := by simp [polyB, hp, hv]
      have HR := Lib.hid hr
      clear hr
      obtain ⟨hd1, hd3⟩ : 1 ≤ d ∧ d ≤ 3 := by simpa [inB] using hv
      obtain ⟨hp2, hp13⟩ := prime_bd hp
      go_enter Try.func135, Try.ntmps135
      go_wp2_with (first | (go_at_call 177; (first | (with_reducible refine call_later2 (l01Prime_c _ _) ?_) | (with_reducible refine call_later (l01Prime_c _ _) ?_)); intro x) | (go_at_call 124; (first | (with_reducible refine call_later2 (l01In_c _ _ _ _) ?_) | (with_reducible refine call_later (l01In_c _ _ _ _) ?_)); intro x2))
      go_loopg [3] ts.length (fun k v w' => ∃ (i : Nat) (y : Later (w.alloc (.cells #[.int .i64 p, .int .i64 d, .slice A ts.length c] 41))), i + k = ts.length ∧ v = .int .i64 i ∧ (∀ j, j < i → okB p d ts j = true) ∧ w' = y.W)
      case atStart => exact ⟨0, x2, by omega, rfl, fun j hj => by omega, rfl⟩
      case round =>
        obtain ⟨i, y, hik, rfl, hok, rfl⟩ := hrel
        have HOK := Lib.hid hok
        have HIK := Lib.hid hik
        clear hok hik
        have hy : w.heap.size < y.W.heap.size := by have := y.ok.size; simp at this; omega
        have g0 : y.W.cell? ⟨w.heap.size, 0, none⟩ = some (.int .i64 p) := by rw [y.ok.cell (by simp)]; simp
        have g1 : y.W.cell? ⟨w.heap.size, 1, none⟩ = some (.int .i64 d) := by rw [y.ok.cell (by simp)]; simp
        have g2 : y.W.cell? ⟨w.heap.size, 2, none⟩ = some (.slice A ts.length c) := by rw [y.ok.cell (by simp)]; simp
        by_cases hlt : i < ts.length
        · obtain ⟨b, o, hA, q0, q1, q2, q3⟩ := kT_at hC i hlt z4
          have r := fun h : 0 < i => kT_at hC (i - 1) (by omega) z4
          subst hA
          have hb : b < w.heap.size := World.block_lt_of_cell? w _ q0
          have hi0 : (0 : Int) ≤ i := by omega
          have hi1 : (i : Int) < ts.length := by omega
          have hin : ((i : Int)).toNat = i := by omega
          have hok1 := okB_spec p d ts i
          generalize ts.getD i z4 = t at *
          generalize ts.getD (i - 1) z4 = s at *
          have HOK1 := Lib.hid hok1
          clear hok1
          cases c1 : expsB d t.e with
          | false =>
            go_wp2; (first | refine wp_region_later2 (by kernel_rfl) (by kernel_rfl) ?_ | refine wp_region_later (by kernel_rfl) (by kernel_rfl) ?_); (repeat (go_big_quiet_step (first | (go_at_call 218; with_reducible exact quiet_later (l01Exps_c d t.e hd1 hd3 _)) | (go_at_call 124; with_reducible exact quiet_later (l01In_c _ _ _ _)) | (go_at_call 220; with_reducible exact quiet_later (l01Before_c _ _ _))))); refine wpQuiet_nil ?_; intro x6; go_wp2
            go_ret; exact .mk (by rw [HR.out, all_not hlt (by rw [HOK1.out]; simp [c1]; try omega)]; rfl) (bel_later x6 ((bel_later y ((Below.refl _ _).alloc (Nat.le_refl _) _) (by simp)).alloc (by omega) _) (by simp; omega))
          | true =>
          cases c2 : inB t.v 1 (p - 1) with
          | false =>
            go_wp2; (first | refine wp_region_later2 (by kernel_rfl) (by kernel_rfl) ?_ | refine wp_region_later (by kernel_rfl) (by kernel_rfl) ?_); (repeat (go_big_quiet_step (first | (go_at_call 218; with_reducible exact quiet_later (l01Exps_c d t.e hd1 hd3 _)) | (go_at_call 124; with_reducible exact quiet_later (l01In_c _ _ _ _)) | (go_at_call 220; with_reducible exact quiet_later (l01Before_c _ _ _))))); refine wpQuiet_nil ?_; intro x6; go_wp2
            go_ret
            exact .mk (by rw [HR.out, all_not hlt (by rw [HOK1.out, c2]; simp)]; rfl) (bel_later x6 ((bel_later y ((Below.refl _ _).alloc (Nat.le_refl _) _) (by simp)).alloc (by omega) _) (by simp; omega))
          | true =>
          by_cases c4 : 0 < i
          · obtain ⟨b', o', hA', r0, r1, r2, r3⟩ := r c4
            injection hA' with hA'
            injection hA' with e1 e2
            subst e1
            subst e2
            have s0 := y.keep (cell_alloc r0 _)
            have s1 := y.keep (cell_alloc r1 _)
            have s2 := y.keep (cell_alloc r2 _)
            have hby : b < y.W.heap.size := by omega
            have b4 : decide ((0 : Int) < (i : Int)) = true := decide_eq_true (by omega)
            have hi2 : (0 : Int) ≤ (i : Int) - 1 := by omega
            have hi3 : (i : Int) - 1 < ts.length := by omega
            have hin2 : ((i : Int) - 1).toNat = i - 1 := by omega
            cases c5 : befE s.e t.e with
            | false =>
              go_wp2; (first | refine wp_region_later2 (by kernel_rfl) (by kernel_rfl) ?_ | refine wp_region_later (by kernel_rfl) (by kernel_rfl) ?_); (repeat (go_big_quiet_step (first | (go_at_call 218; with_reducible exact quiet_later (l01Exps_c d t.e hd1 hd3 _)) | (go_at_call 124; with_reducible exact quiet_later (l01In_c _ _ _ _)) | (go_at_call 220; with_reducible exact quiet_later (l01Before_c _ _ _))))); refine wpQuiet_nil ?_; intro x6; go_wp2
              go_ret
              exact .mk (by rw [HR.out, all_not hlt (by rw [HOK1.out, c5]; simp; omega)]; rfl) (bel_later x6 ((bel_later y ((Below.refl _ _).alloc (Nat.le_refl _) _) (by simp)).alloc (by omega) _) (by simp; omega))
            | true =>
              go_wp2; (first | refine wp_region_later2 (by kernel_rfl) (by kernel_rfl) ?_ | refine wp_region_later (by kernel_rfl) (by kernel_rfl) ?_); (repeat (go_big_quiet_step (first | (go_at_call 218; with_reducible exact quiet_later (l01Exps_c d t.e hd1 hd3 _)) | (go_at_call 124; with_reducible exact quiet_later (l01In_c _ _ _ _)) | (go_at_call 220; with_reducible exact quiet_later (l01Before_c _ _ _))))); refine wpQuiet_nil ?_; intro x6; go_wp2
              go_roundg (gk - 1)
              case measure => have := HIK.out; omega
              case rel => exact ⟨i + 1, ⟨x6.W, (y.ok.alloc (by simp; omega) _).trans (x6.ok.mono (by simp; omega))⟩, by have := HIK.out; omega, by go_num, all_step HOK.out (by rw [HOK1.out, c1, c2, c5]; simp), rfl⟩
          · have b4 : decide ((0 : Int) < (i : Int)) = false := decide_eq_false (by omega)
            go_wp2; (first | refine wp_region_later2 (by kernel_rfl) (by kernel_rfl) ?_ | refine wp_region_later (by kernel_rfl) (by kernel_rfl) ?_); (repeat (go_big_quiet_step (first | (go_at_call 218; with_reducible exact quiet_later (l01Exps_c d t.e hd1 hd3 _)) | (go_at_call 124; with_reducible exact quiet_later (l01In_c _ _ _ _)) | (go_at_call 220; with_reducible exact quiet_later (l01Before_c _ _ _))))); refine wpQuiet_nil ?_; intro x6; go_wp2
            go_roundg (gk - 1)
            case measure => have := HIK.out; omega
            case rel => exact ⟨i + 1, ⟨x6.W, (y.ok.alloc (by simp; omega) _).trans (x6.ok.mono (by simp; omega))⟩, by have := HIK.out; omega, by go_num, all_step HOK.out (by rw [HOK1.out, c1, c2]; simp; omega), rfl⟩
        · go_wp2
          go_ret
          refine .mk ?_ (bel_later y ((Below.refl _ _).alloc (Nat.le_refl _) _) (by simp))
          rw [HR.out, all_yes (fun j hj => HOK.out j (by omega))]
          rfl
end Go.Proofs.Ytgieofidogkbaaa
