/- GroupOf of both sides; no condition. -/
import Derived.Test.YtimjhehagimcaaaYE1
import Derived.Test.YtimjhehagimcaaaYClo3
set_option linter.unusedVariables false
set_option linter.unusedSimpArgs false
namespace Go.Proofs.Ytimjhehagimcaaa
open Go.RowKit Go.Proofs.YtimjhehagimcaaaW.PrintWords
attribute [local go_sem] Later.cell Later.frozen Later.lt Later.lt_add Later.le Later.le_add Later.ne Later.ne' add_at
attribute [local go_sem 2000] run_eqM guardM
def grpR (p n : Int) (ms : List M9) : GC := if areB p n ms = true then (match genO p n ms with | some l => ⟨p, n, sortM l, 0⟩ | none => ⟨0, 0, [], 3⟩) else ⟨0, 0, [], 2⟩
theorem grpR_2 {p n : Int} {ms : List M9} (h : areB p n ms = false) : grpR p n ms = ⟨0, 0, [], 2⟩ := by
  unfold grpR
  rw [h, if_neg (by decide)]
theorem grpR_3 {p n : Int} {ms : List M9} (h : areB p n ms = true) (h2 : genO p n ms = none) : grpR p n ms = ⟨0, 0, [], 3⟩ := by
  unfold grpR
  rw [h, if_pos rfl, h2]
theorem grpR_0 {p n : Int} {ms l : List M9} (h : areB p n ms = true) (h2 : genO p n ms = some l) : grpR p n ms = ⟨p, n, sortM l, 0⟩ := by
  unfold grpR
  rw [h, if_pos rfl, h2]
theorem grpR_len (p n : Int) (ms : List M9) : (grpR p n ms).ts.length ≤ 1048576 := by
  unfold grpR
  split
  · cases h : genO p n ms with
    | none => simp
    | some l =>
      have := genO_len h
      show (sortM l).length ≤ _
      rw [sortM_len]
      omega
  · simp
theorem areB_of {p n : Int} {ms : List M9} (h : areB p n ms = true) : 2 ≤ p ∧ p ≤ 13 ∧ 1 ≤ n ∧ n ≤ 3 ∧ ∀ i, i < ms.length → matB p n (ms.getD i zM) = true := by
  unfold areB at h
  simp only [Bool.and_eq_true, List.all_eq_true] at h
  obtain ⟨⟨h1, h2⟩, h3⟩ := h
  obtain ⟨k1, k2⟩ := inB_of h3
  obtain ⟨k3, k4⟩ := (primeZ_of h2).two
  exact ⟨k3, k4, k1, k2, fun i hi => h1 _ (getD_mem zM hi)⟩
set_option maxRecDepth 100000 in
set_option maxHeartbeats 2000000 in
theorem implGroupOf_c (p n : Int) (A : Option Addr) (c : Nat) (ms : List M9) (w : World) (hC : kM.C w A ms.length ms) (hN : ms.length ≤ 1048576) :
    Calls Try.prog 53 #[.int .i64 p, .int .i64 n, .slice A ms.length c] w (MakesGC (grpR p n ms) 41 w) := by
  have hC1 := Kd.C_alloc hC (.cells #[.int .i64 0, .int .i64 0, .slice none 0 0] 31)
  have hA := areMatrices_c p n A c ms _ hC1 (by omega)
  cases ha : areB p n ms with
  | false =>
    rw [grpR_2 ha]
    rw [ha] at hA
    clear ha
    go_enter Try.func53, Try.ntmps53
    go_wp2_with ((go_at_call 62; (first | (with_reducible refine call_later2 (hA) ?_) | (with_reducible refine call_later (hA) ?_)); intro x))
    have zz : w.heap.size < x.W.heap.size := by have := x.ok.size; simp at this; omega
    refine bodyPost_ret (v := .tuple #[.agg #[.int .i64 0, .int .i64 0, .slice none 0 0], .int .i64 2]) (by simp [results, Try.results53, go_sem]) rfl ?_
    exact MakesGC_nil _ _ _ _ bq2
  | true =>
    rw [ha] at hA
    obtain ⟨hp, hp', hn1, hn3, hm⟩ := areB_of ha
    have hX := fun W hC => closed_c p n A c ms W hC hN hp hp' hn1 hn3 hm
    clear hm
    cases hg : genO p n ms with
    | none =>
      rw [grpR_3 ha hg]
      obtain ⟨e1, e2, e3, e4⟩ := gen_none hg
      rw [e1, e2, e3, e4] at hX
      clear e1 e2 e3 e4 ha hg
      go_enter Try.func53, Try.ntmps53
      go_wp2_with (first | (go_at_call 62; (first | (with_reducible refine call_later2 (hA) ?_) | (with_reducible refine call_later (hA) ?_)); intro x) | (go_at_call 95; (with_reducible refine call_makesGB2 (hX _ (Kd.C_below hC1 x.ok)) ?_); intro x2 A2 c2 hb2 hl2 hR2))
      have zz : w.heap.size < x.W.heap.size := by have := x.ok.size; simp at this; omega
      have zz2 := hb2.size
      refine bodyPost_ret (v := .tuple #[.agg #[.int .i64 0, .int .i64 0, .slice none 0 0], .int .i64 3]) (by simp [results, Try.results53, go_sem]) rfl ?_
      exact MakesGC_nil _ _ _ _ bq2
    | some l =>
      rw [grpR_0 ha hg]
      obtain ⟨e1, e2, e3, e4⟩ := gen_some hg
      rw [e1, e2, e3, e4] at hX
      clear e1 e2 e3 e4 ha hg
      go_enter Try.func53, Try.ntmps53
      go_wp2_with (first | (go_at_call 62; (first | (with_reducible refine call_later2 (hA) ?_) | (with_reducible refine call_later (hA) ?_)); intro x) | (go_at_call 95; (with_reducible refine call_makesGB2 (hX _ (Kd.C_below hC1 x.ok)) ?_); intro x2 A2 c2 hb2 hl2 hR2))
      have zz : w.heap.size < x.W.heap.size := by have := x.ok.size; simp at this; omega
      have zz2 := hb2.size
      refine bodyPost_ret (v := .tuple #[.agg #[.int .i64 p, .int .i64 n, .slice A2 (sortM l).length c2], .int .i64 0]) (by simp [results, Try.results53, go_sem]) rfl ?_
      refine ⟨_, _, rfl, ?_, bq2⟩
      exact Kd.R_lower (Kd.R_alloc (R_old (R_old (R_old hR2 (p := ⟨w.heap.size, 0, none⟩) zz _) (p := ⟨w.heap.size, 1, none⟩) zz _) (p := ⟨w.heap.size, 2, none⟩) zz _) _) (by omega)
end Go.Proofs.Ytimjhehagimcaaa
