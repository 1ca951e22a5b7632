/- OrbitOfPoint of both sides; no condition. -/
import Derived.Test.YtimjhehagimcaaaYOrbV
set_option linter.unusedVariables false
set_option linter.unusedSimpArgs false
namespace Go.Proofs.Ytimjhehagimcaaa
open Go.RowKit Go.Proofs.YtimjhehagimcaaaW.PrintWords
attribute [local go_sem] Later.cell Later.frozen Later.lt Later.lt_add Later.le Later.le_add Later.ne Later.ne' add_at
attribute [local go_sem 2000] run_eqM guardM
def opR (p n : Int) (ms : List M9) (xs : List Int) : List (List Int) × Int := if codeG p n ms xs = 0 then (orbS (orbL p n.toNat xs ms), 0) else ([], codeG p n ms xs)
theorem opR_0 {p n : Int} {ms : List M9} {xs : List Int} (h : codeG p n ms xs = 0) : opR p n ms xs = (orbS (orbL p n.toNat xs ms), 0) := if_pos h
theorem opR_1 {p n : Int} {ms : List M9} {xs : List Int} {k : Int} (h : codeG p n ms xs = k) (hk : ¬ k = 0) : opR p n ms xs = ([], k) := by
  subst h
  exact if_neg hk
theorem opR_bd (p n : Int) (ms : List M9) (xs : List Int) : (opR p n ms xs).1.length ≤ 48 ∧ ∀ x ∈ (opR p n ms xs).1, x.length ≤ 3 := by
  by_cases h0 : codeG p n ms xs = 0
  · rw [opR_0 h0]
    obtain ⟨gp, pb⟩ := codeG_0 h0
    obtain ⟨hp, hp', hn1, hn3⟩ := grp_num gp
    have hl := gp.l2
    refine ⟨?_, fun x hx => ?_⟩
    · have := orbS_len (orbL p n.toNat xs ms)
      rw [orbL_len] at this
      show (orbS _).length ≤ 48
      omega
    · obtain ⟨m, _, rfl⟩ := List.mem_map.1 ((orbS_mem _ _).1 hx)
      rw [ledL_len]
      omega
  · rw [opR_1 rfl h0]
    exact ⟨by simp, fun x hx => by cases hx⟩
theorem opR_small (p n : Int) (ms : List M9) (xs : List Int) : ((opR p n ms xs).1.length ≤ 1048576 ∧ ∀ x ∈ (opR p n ms xs).1, x.length ≤ 1048576) ∧ endR 1 (opR p n ms xs).1 ≤ 1000000000 := rows_small (opR_bd p n ms xs) (by decide) (by decide) (by decide)
set_option maxRecDepth 100000 in
set_option maxHeartbeats 4000000 in
theorem implOrbitOfPoint_t (p n : Int) (A : Option Addr) (c : Nat) (ms : List M9) (B : Option Addr) (d : Nat) (xs : List Int) (w : World) (hC : kM.C w A ms.length ms) (hD : kI.C w B xs.length xs) (hN : ms.length ≤ 9223372036854775807) (hM : xs.length ≤ 1048576) :
    Calls Try.prog 37 #[.agg #[.int .i64 p, .int .i64 n, .slice A ms.length c], .slice B xs.length d] w (MakesLCT (opR p n ms xs).1 (opR p n ms xs).2 55 w) := by
  have hC1 := Kd.C_alloc (Kd.C_alloc hC (.cells #[.int .i64 p, .int .i64 n, .slice A ms.length c] 31)) (.cells #[.slice B xs.length d] 55)
  have hD1 := Kd.C_alloc (Kd.C_alloc hD (.cells #[.int .i64 p, .int .i64 n, .slice A ms.length c] 31)) (.cells #[.slice B xs.length d] 55)
  have hP := fun b W h1 h2 h3 => pointCode_c p n A c ms B d b xs W h1 h2 h3 hN hM
  by_cases h0 : codeG p n ms xs = 0
  · rw [opR_0 h0]
    rw [h0] at hP
    obtain ⟨gp, pb⟩ := codeG_0 h0
    obtain ⟨hp, hp', hn1, hn3⟩ := grp_num gp
    obtain ⟨hal, hxl⟩ := pointB_of pb
    have hl1 := gp.l1
    have hl2 := gp.l2
    have hnums := allB_nums hp hal
    have hms : ∀ i, i < ms.length → (ms.getD i zM).le p := fun i hi => (matB_le (gp.mat i hi)).1
    have HXL := Lib.hid hxl
    have hO := fun W h h' => orbitOfPoint_t p n.toNat A c ms B d xs W h h' hl2 (by omega) hms hp hp' (by omega) (by omega) (by have := HXL.out; omega) hnums
    have en : ((n.toNat : Nat) : Int) = n := by omega
    rw [en] at hO
    clear gp h0 pb hal hxl en hnums hms
    generalize orbS (orbL p n.toNat xs ms) = rs at *
    have HO := Lib.hid hO
    clear hO
    go_enter Try.func37, Try.ntmps37
    go_wp2_with (first | (go_at_call 76; (first | (with_reducible refine call_later2 (hP (w.heap.size + 1) _ hC1 hD1 bq5) ?_) | (with_reducible refine call_later (hP (w.heap.size + 1) _ hC1 hD1 bq5) ?_)); intro x) | (go_at_call 77; (with_reducible refine to_makesTL (V := x.W) (Below.refl _ _) (HO.out _ (Kd.C_below hC1 x.ok) (Kd.C_below hD1 x.ok)) ?_); intro W3 A3 c3 qs3 hb3 hb3' hq3 ha3 hR3))
    have zb : w.heap.size ≤ x.W.heap.size := by have := x.ok.size; simp at this; omega
    refine bodyPost_ret (v := .tuple #[.slice A3 rs.length c3, .int .i64 0]) (by simp [results, Try.results37, go_sem]) rfl ?_
    exact ⟨_, _, _, rfl, hq3, ha3, Kd.R_lower hR3 zb, bq1⟩
  · generalize hk : codeG p n ms xs = k at *
    rw [opR_1 hk h0]
    have hkb : (k != 0) = true := by simpa using h0
    clear hk h0
    go_enter Try.func37, Try.ntmps37
    go_wp2_with ((go_at_call 76; (first | (with_reducible refine call_later2 (hP (w.heap.size + 1) _ hC1 hD1 bq5) ?_) | (with_reducible refine call_later (hP (w.heap.size + 1) _ hC1 hD1 bq5) ?_)); intro x))
    refine bodyPost_ret (v := .tuple #[.slice none 0 0, .int .i64 k]) (by simp [results, Try.results37, go_sem]) rfl ?_
    exact MakesLCT_nil _ _ _ _ bq1
set_option maxRecDepth 100000 in
set_option maxHeartbeats 4000000 in
theorem specOrbitOfPoint_c (p n : Int) (A : Option Addr) (c : Nat) (ms : List M9) (B : Option Addr) (d : Nat) (xs : List Int) (w : World) (hC : kM.C w A ms.length ms) (hD : kI.C w B xs.length xs) (hN : ms.length ≤ 9223372036854775807) (hM : xs.length ≤ 1048576) :
    Calls Try.prog 34 #[.agg #[.int .i64 p, .int .i64 n, .slice A ms.length c], .slice B xs.length d] w (MakesLC (opR p n ms xs).1 (opR p n ms xs).2 55 w) := by
  have hC1 := Kd.C_alloc hC (.cells #[.int .i64 p, .int .i64 n, .slice A ms.length c] 31)
  have hD1 := Kd.C_alloc hD (.cells #[.int .i64 p, .int .i64 n, .slice A ms.length c] 31)
  have hP := fun W h1 h2 => l02Code_c p n A c ms B d xs W h1 h2 hN hM
  by_cases h0 : codeG p n ms xs = 0
  · rw [opR_0 h0]
    rw [h0] at hP
    obtain ⟨gp, pb⟩ := codeG_0 h0
    obtain ⟨hp, hp', hn1, hn3⟩ := grp_num gp
    obtain ⟨hal, hxl⟩ := pointB_of pb
    have hl2 := gp.l2
    have hnums := allB_nums hp hal
    have hms : ∀ i, i < ms.length → (ms.getD i zM).le p := fun i hi => (matB_le (gp.mat i hi)).1
    have HXL := Lib.hid hxl
    have hO := fun W h h' => l02Orbit_c p n.toNat A c ms B d xs W h h' hl2 hms hp hp' (by omega) (by omega) (by have := HXL.out; omega) hnums
    have en : ((n.toNat : Nat) : Int) = n := by omega
    rw [en] at hO
    clear gp h0 pb hal hxl en hnums hms
    generalize orbS (orbL p n.toNat xs ms) = rs at *
    have HO := Lib.hid hO
    clear hO
    go_enter Try.func34, Try.ntmps34
    go_wp2_with (first | (go_at_call 73; (first | (with_reducible refine call_later2 (hP _ hC1 hD1) ?_) | (with_reducible refine call_later (hP _ hC1 hD1) ?_)); intro x) | (go_at_call 74; (first | (with_reducible refine call_makes2 (HO.out _ (Kd.C_below hC1 x.ok) (Kd.C_below hD1 x.ok)) ?_) | (with_reducible refine call_makes (HO.out _ (Kd.C_below hC1 x.ok) (Kd.C_below hD1 x.ok)) ?_)); intro x3 A3 c3 hb3 hl3 hR3 hC3))
    have zb : w.heap.size ≤ x.W.heap.size := by have := x.ok.size; simp at this; omega
    refine bodyPost_ret (v := .tuple #[.slice A3 rs.length c3, .int .i64 0]) (by simp [results, Try.results34, go_sem]) rfl ?_
    exact ⟨_, _, rfl, Kd.R_lower hR3 zb, bq1⟩
  · generalize hk : codeG p n ms xs = k at *
    rw [opR_1 hk h0]
    have hkb : (k != 0) = true := by simpa using h0
    clear hk h0
    go_enter Try.func34, Try.ntmps34
    go_wp2_with ((go_at_call 73; (first | (with_reducible refine call_later2 (hP _ hC1 hD1) ?_) | (with_reducible refine call_later (hP _ hC1 hD1) ?_)); intro x))
    refine bodyPost_ret (v := .tuple #[.slice none 0 0, .int .i64 k]) (by simp [results, Try.results34, go_sem]) rfl ?_
    exact makesLCT_LC (MakesLCT_nil _ _ _ _ bq1)
end Go.Proofs.Ytimjhehagimcaaa
