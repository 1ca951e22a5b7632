/- The walk of IsPoly of the program; no condition. -/
import Derived.Test.YtgieofidogkbaaaPoly2
import Derived.Deep.LoopGhost
set_option linter.unusedVariables false
set_option linter.unusedSimpArgs false
namespace Go.Proofs.Ytgieofidogkbaaa
open Go.RowKit Go.Proofs.YtgieofidogkbaaaW.PrintWords
attribute [local go_sem] Later.cell Later.frozen Later.lt Later.lt_add Later.le Later.le_add Later.ne Later.ne' add_at

/-- Term i of a list of terms is fit, behind term i - 1. -/
def okB (p d : Int) (ts : List T4) (i : Nat) : Bool :=
  decide (degE (ts.getD i z4).e ≤ 12) && decide (1 ≤ (ts.getD i z4).v) && decide ((ts.getD i z4).v < p) && (i == 0 || decide (cmpE (ts.getD (i - 1) z4).e (ts.getD i z4).e < 0)) && zerosB d (ts.getD i z4).e
def polyB (p d : Int) (ts : List T4) : Bool := primeB p && inB d 1 3 && (List.range ts.length).all (okB p d ts)

theorem cmpE_bd (e f : E3) : -768 < cmpE e f ∧ cmpE e f < 768 := by
  have a1 := e.a.toNat_lt
  have b1 := e.b.toNat_lt
  have a2 := f.a.toNat_lt
  have b2 := f.b.toNat_lt
  have d1 := degE_bd e
  have d2 := degE_bd f
  unfold cmpE
  split
  · omega
  · split <;> omega

theorem all_not {n i : Nat} {f : Nat → Bool} (hi : i < n) (h : f i = false) : (List.range n).all f = false := by
  rw [List.all_eq_false]
  exact ⟨i, List.mem_range.2 hi, by simp [h]⟩
theorem all_step {i : Nat} {f : Nat → Bool} (h : ∀ j, j < i → f j = true) (h1 : f i = true) : ∀ j, j < i + 1 → f j = true := by
  intro j hj
  rcases Nat.lt_succ_iff_lt_or_eq.1 hj with g | g
  · exact h j g
  · rw [g]
    exact h1
theorem all_yes {n : Nat} {f : Nat → Bool} (h : ∀ j, j < n → f j = true) : (List.range n).all f = true := by
  rw [List.all_eq_true]
  exact fun j hj => h j (List.mem_range.1 hj)

theorem zeros_b {e : E3} (h : ((e.b.toNat : Int) != 0) = true) : zerosB 1 e = false := by
  rw [u8_zero] at h
  simp [zerosB] at h ⊢
  exact fun g => absurd g h
theorem zeros_c1 {e : E3} (h : ((e.c.toNat : Int) != 0) = true) : zerosB 1 e = false := by
  rw [u8_zero] at h
  simp [zerosB] at h ⊢
  exact fun _ => h
theorem zeros_c2 {e : E3} (h : ((e.c.toNat : Int) != 0) = true) : zerosB 2 e = false := by
  rw [u8_zero] at h
  simp [zerosB] at h ⊢
  exact h
theorem zeros_y1 {e : E3} (h : ((e.b.toNat : Int) != 0) = false) (g : ((e.c.toNat : Int) != 0) = false) : zerosB 1 e = true := by
  rw [u8_zero] at h g
  simp [zerosB] at h g ⊢
  exact ⟨h, g⟩
theorem zeros_y2 {e : E3} (g : ((e.c.toNat : Int) != 0) = false) : zerosB 2 e = true := by
  rw [u8_zero] at g
  simp [zerosB] at g ⊢
  exact g
theorem zeros_y3 (e : E3) : zerosB 3 e = true := by simp [zerosB]

set_option maxRecDepth 100000 in
set_option maxHeartbeats 1000000 in
theorem IsPoly_c (p d : Int) (A : Option Addr) (c : Nat) (ts : List T4) (w : World) (hC : kT.C w A ts.length ts) (hn : ts.length ≤ 9223372036854775807) :
    Calls Try.prog 44 #[.agg #[.int .i64 p, .int .i64 d, .slice A ts.length c]] w (Gives (.bool (polyB p d ts)) w) := by
  cases hp : primeB p with
  | false =>
    have hr : polyB p d ts = false := by simp [polyB, hp]
    have HR := Lib.hid hr
    clear hr
    go_enter Try.func44, Try.ntmps44
    go_wp2_with ((go_at_call 132; (first | (with_reducible refine call_later2 (isPrime_c _ _) ?_) | (with_reducible refine call_later (isPrime_c _ _) ?_)); intro x))
    go_ret
    exact .mk (by rw [HR.out]; rfl) (bel_later x ((Below.refl _ _).alloc (Nat.le_refl _) _) (by simp))
  | true =>
    cases hv : inB d 1 3 with
    | false =>
      have hr : polyB p d ts = false := by simp [polyB, hp, hv]
      have HR := Lib.hid hr
      clear hr
      go_enter Try.func44, Try.ntmps44
      go_wp2_with (first | (go_at_call 132; (first | (with_reducible refine call_later2 (isPrime_c _ _) ?_) | (with_reducible refine call_later (isPrime_c _ _) ?_)); intro x) | (go_at_call 126; (first | (with_reducible refine call_later2 (isVars_c _ _) ?_) | (with_reducible refine call_later (isVars_c _ _) ?_)); intro x2))
      go_ret
      exact .mk (by rw [HR.out]; rfl) (bel_later x2 ((Below.refl _ _).alloc (Nat.le_refl _) _) (by simp))
    | true =>
      have hr : polyB p d ts = (List.range ts.length).all (okB p d ts) := by simp [polyB, hp, hv]
      have HR := Lib.hid hr
      clear hr
      have hd : d = 1 ∨ d = 2 ∨ d = 3 := by simp [inB] at hv; omega
      go_enter Try.func44, Try.ntmps44
      go_wp2_with (first | (go_at_call 132; (first | (with_reducible refine call_later2 (isPrime_c _ _) ?_) | (with_reducible refine call_later (isPrime_c _ _) ?_)); intro x) | (go_at_call 126; (first | (with_reducible refine call_later2 (isVars_c _ _) ?_) | (with_reducible refine call_later (isVars_c _ _) ?_)); intro x2))
      go_loopg [19] ts.length (fun k v w' => ∃ (i : Nat) (y : Later (w.alloc (.cells #[.int .i64 p, .int .i64 d, .slice A ts.length c] 41))), i + k = ts.length ∧ v = .int .i64 i ∧ (∀ j, j < i → okB p d ts j = true) ∧ w' = y.W)
      case atStart => exact ⟨0, x2, by omega, rfl, fun j hj => by omega, rfl⟩
      case round =>
        obtain ⟨i, y, hik, rfl, hok, rfl⟩ := hrel
        have HOK := Lib.hid hok
        have HIK := Lib.hid hik
        clear hok hik
        by_cases hlt : i < ts.length
        · obtain ⟨b, o, hA, q0, q1, q2, q3⟩ := kT_at hC i hlt z4
          have r := fun h : 0 < i => kT_at hC (i - 1) (by omega) z4
          subst hA
          have hb : b < w.heap.size := World.block_lt_of_cell? w _ q0
          have hi0 : (0 : Int) ≤ i := by omega
          have hi1 : (i : Int) < ts.length := by omega
          have hin : ((i : Int)).toNat = i := by omega
          have hok1 : okB p d ts i = (decide (degE (ts.getD i z4).e ≤ 12) && decide (1 ≤ (ts.getD i z4).v) && decide ((ts.getD i z4).v < p) && (i == 0 || decide (cmpE (ts.getD (i - 1) z4).e (ts.getD i z4).e < 0)) && zerosB d (ts.getD i z4).e) := rfl
          generalize ts.getD i z4 = t at *
          generalize ts.getD (i - 1) z4 = s at *
          have HOK1 := Lib.hid hok1
          clear hok1
          obtain ⟨d1, d2⟩ := degE_bd t.e
          obtain ⟨d3, d4⟩ := cmpE_bd s.e t.e
          have u1 := t.e.b.toNat_lt
          have u2 := t.e.c.toNat_lt
          have hy : w.heap.size < y.W.heap.size := by have := y.ok.size; simp at this; omega
          have g0 : y.W.cell? ⟨w.heap.size, 0, none⟩ = some (.int .i64 p) := by rw [y.ok.cell (by simp)]; simp
          have g1 : y.W.cell? ⟨w.heap.size, 1, none⟩ = some (.int .i64 d) := by rw [y.ok.cell (by simp)]; simp
          have g2 : y.W.cell? ⟨w.heap.size, 2, none⟩ = some (.slice (some ⟨b, o, none⟩) ts.length c) := by rw [y.ok.cell (by simp)]; simp
          by_cases c1 : 12 < degE t.e
          · have b1 : decide (12 < degE t.e) = true := decide_eq_true c1
            go_wp2; (first | refine wp_region_later2 (by kernel_rfl) (by kernel_rfl) ?_ | refine wp_region_later (by kernel_rfl) (by kernel_rfl) ?_); (repeat (go_big_quiet_step (first | (go_at_call 137; with_reducible exact quiet_later (degree_c _ _)) | (go_at_call 138; with_reducible exact quiet_later (compareExps_c _ _ _))))); refine wpQuiet_nil ?_; intro x6; go_wp2
            go_ret; exact .mk (by rw [HR.out, all_not hlt (by rw [HOK1.out]; simp; omega)]; rfl) (bel_later x6 ((bel_later y ((Below.refl _ _).alloc (Nat.le_refl _) _) (by simp)).alloc (by omega) _) (by simp; omega))
          have b1 : decide (12 < degE t.e) = false := decide_eq_false c1
          by_cases c2 : t.v < 1
          · have b2 : decide (t.v < 1) = true := decide_eq_true c2
            go_wp2; (first | refine wp_region_later2 (by kernel_rfl) (by kernel_rfl) ?_ | refine wp_region_later (by kernel_rfl) (by kernel_rfl) ?_); (repeat (go_big_quiet_step (first | (go_at_call 137; with_reducible exact quiet_later (degree_c _ _)) | (go_at_call 138; with_reducible exact quiet_later (compareExps_c _ _ _))))); refine wpQuiet_nil ?_; intro x6; go_wp2
            go_ret; exact .mk (by rw [HR.out, all_not hlt (by rw [HOK1.out]; simp; omega)]; rfl) (bel_later x6 ((bel_later y ((Below.refl _ _).alloc (Nat.le_refl _) _) (by simp)).alloc (by omega) _) (by simp; omega))
          have b2 : decide (t.v < 1) = false := decide_eq_false c2
          by_cases c3 : p ≤ t.v
          · have b3 : decide (p ≤ t.v) = true := decide_eq_true c3
            go_wp2; (first | refine wp_region_later2 (by kernel_rfl) (by kernel_rfl) ?_ | refine wp_region_later (by kernel_rfl) (by kernel_rfl) ?_); (repeat (go_big_quiet_step (first | (go_at_call 137; with_reducible exact quiet_later (degree_c _ _)) | (go_at_call 138; with_reducible exact quiet_later (compareExps_c _ _ _))))); refine wpQuiet_nil ?_; intro x6; go_wp2
            go_ret; exact .mk (by rw [HR.out, all_not hlt (by rw [HOK1.out]; simp; omega)]; rfl) (bel_later x6 ((bel_later y ((Below.refl _ _).alloc (Nat.le_refl _) _) (by simp)).alloc (by omega) _) (by simp; omega))
          have b3 : decide (p ≤ t.v) = false := decide_eq_false c3
          by_cases c4 : 0 < i
          · obtain ⟨b', o', hA', r0, r1, r2, r3⟩ := r c4
            injection hA' with hA'
            injection hA' with e1 e2
            subst e1
            subst e2
            have s0 := y.keep (cell_alloc r0 _)
            have s1 := y.keep (cell_alloc r1 _)
            have s2 := y.keep (cell_alloc r2 _)
            have hby : b < y.W.heap.size := by omega
            have b4 : decide ((0 : Int) < (i : Int)) = true := decide_eq_true (by omega)
            have hi2 : (0 : Int) ≤ (i : Int) - 1 := by omega
            have hi3 : (i : Int) - 1 < ts.length := by omega
            have hin2 : ((i : Int) - 1).toNat = i - 1 := by omega
            by_cases c5 : 0 ≤ cmpE s.e t.e
            · have b5 : decide (0 ≤ cmpE s.e t.e) = true := decide_eq_true c5
              go_wp2; (first | refine wp_region_later2 (by kernel_rfl) (by kernel_rfl) ?_ | refine wp_region_later (by kernel_rfl) (by kernel_rfl) ?_); (repeat (go_big_quiet_step (first | (go_at_call 137; with_reducible exact quiet_later (degree_c _ _)) | (go_at_call 138; with_reducible exact quiet_later (compareExps_c _ _ _))))); refine wpQuiet_nil ?_; intro x6; go_wp2
              go_ret; exact .mk (by rw [HR.out, all_not hlt (by rw [HOK1.out]; simp; omega)]; rfl) (bel_later x6 ((bel_later y ((Below.refl _ _).alloc (Nat.le_refl _) _) (by simp)).alloc (by omega) _) (by simp; omega))
            · have b5 : decide (0 ≤ cmpE s.e t.e) = false := decide_eq_false c5
              go_wp2; (first | refine wp_region_later2 (by kernel_rfl) (by kernel_rfl) ?_ | refine wp_region_later (by kernel_rfl) (by kernel_rfl) ?_); (repeat (go_big_quiet_step (first | (go_at_call 137; with_reducible exact quiet_later (degree_c _ _)) | (go_at_call 138; with_reducible exact quiet_later (compareExps_c _ _ _))))); refine wpQuiet_nil ?_; intro x6; go_wp2
              rcases hd with rfl | rfl | rfl <;> (refine wp_loop_rounds 3 ?_; rw [rounds_succ]; go_wp2) <;> (try (rw [rounds_succ]; go_wp2)) <;> (try (rw [rounds_succ]; go_wp2)); all_goals first | (go_ret; exact .mk (by rw [HR.out, all_not hlt (by rw [HOK1.out, show zerosB _ t.e = false by first | exact zeros_b (by assumption) | exact zeros_c1 (by assumption) | exact zeros_c2 (by assumption), Bool.and_false])]; rfl) (bel_later x6 ((bel_later y ((Below.refl _ _).alloc (Nat.le_refl _) _) (by simp)).alloc (by omega) _) (by simp; omega))) | (go_roundg (gk - 1); (case measure => (have := HIK.out; omega)); (case rel => exact ⟨i + 1, ⟨x6.W, (y.ok.alloc (by simp; omega) _).trans (x6.ok.mono (by simp; omega))⟩, by have := HIK.out; omega, by go_num, all_step HOK.out (by rw [HOK1.out, show zerosB _ t.e = true by first | exact zeros_y3 _ | exact zeros_y2 (by assumption) | exact zeros_y1 (by assumption) (by assumption)]; simp; omega), rfl⟩))
          · have b4 : decide ((0 : Int) < (i : Int)) = false := decide_eq_false (by omega)
            go_wp2; (first | refine wp_region_later2 (by kernel_rfl) (by kernel_rfl) ?_ | refine wp_region_later (by kernel_rfl) (by kernel_rfl) ?_); (repeat (go_big_quiet_step (first | (go_at_call 137; with_reducible exact quiet_later (degree_c _ _)) | (go_at_call 138; with_reducible exact quiet_later (compareExps_c _ _ _))))); refine wpQuiet_nil ?_; intro x6; go_wp2
            rcases hd with rfl | rfl | rfl <;> (refine wp_loop_rounds 3 ?_; rw [rounds_succ]; go_wp2) <;> (try (rw [rounds_succ]; go_wp2)) <;> (try (rw [rounds_succ]; go_wp2)); all_goals first | (go_ret; exact .mk (by rw [HR.out, all_not hlt (by rw [HOK1.out, show zerosB _ t.e = false by first | exact zeros_b (by assumption) | exact zeros_c1 (by assumption) | exact zeros_c2 (by assumption), Bool.and_false])]; rfl) (bel_later x6 ((bel_later y ((Below.refl _ _).alloc (Nat.le_refl _) _) (by simp)).alloc (by omega) _) (by simp; omega))) | (go_roundg (gk - 1); (case measure => (have := HIK.out; omega)); (case rel => exact ⟨i + 1, ⟨x6.W, (y.ok.alloc (by simp; omega) _).trans (x6.ok.mono (by simp; omega))⟩, by have := HIK.out; omega, by go_num, all_step HOK.out (by rw [HOK1.out, show zerosB _ t.e = true by first | exact zeros_y3 _ | exact zeros_y2 (by assumption) | exact zeros_y1 (by assumption) (by assumption)]; simp; omega), rfl⟩))
        · go_wp2
          go_ret
          refine .mk ?_ (bel_later y ((Below.refl _ _).alloc (Nat.le_refl _) _) (by simp))
          rw [HR.out, all_yes (fun j hj => HOK.out j (by omega))]
          rfl
end Go.Proofs.Ytgieofidogkbaaa
