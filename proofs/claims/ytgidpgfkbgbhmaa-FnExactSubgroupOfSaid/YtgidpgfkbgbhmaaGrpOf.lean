/- GroupOf of both sides; no condition. -/
import Derived.Test.YtgidpgfkbgbhmaaClo3
set_option linter.unusedVariables false
set_option linter.unusedSimpArgs false
namespace Go.Proofs.Ytgidpgfkbgbhmaa
open Go.RowKit Go.Proofs.YtgidpgfkbgbhmaaW.PrintWords
attribute [local go_sem] Later.cell Later.frozen Later.lt Later.lt_add Later.le Later.le_add Later.ne Later.ne' add_at
attribute [local go_sem 2000] run_eqM guardM

def grpR (p n : Int) (ms : List M9) : GC := if areB p n ms = true then (match genO p n ms with | some l => ⟨p, n, sortM l, 0⟩ | none => ⟨0, 0, [], 3⟩) else ⟨0, 0, [], 2⟩
theorem grpR_2 {p n : Int} {ms : List M9} (h : areB p n ms = false) : grpR p n ms = ⟨0, 0, [], 2⟩ := by
  unfold grpR
  rw [h, if_neg (by decide)]
theorem grpR_3 {p n : Int} {ms : List M9} (h : areB p n ms = true) (h2 : genO p n ms = none) : grpR p n ms = ⟨0, 0, [], 3⟩ := by
  unfold grpR
  rw [h, if_pos rfl, h2]
theorem grpR_0 {p n : Int} {ms l : List M9} (h : areB p n ms = true) (h2 : genO p n ms = some l) : grpR p n ms = ⟨p, n, sortM l, 0⟩ := by
  unfold grpR
  rw [h, if_pos rfl, h2]
theorem grpR_len (p n : Int) (ms : List M9) : (grpR p n ms).ts.length ≤ 1048576 := by
  unfold grpR
  split
  · cases h : genO p n ms with
    | none => simp
    | some l =>
      have := genO_len h
      show (sortM l).length ≤ _
      rw [sortM_len]
      omega
  · simp
theorem areB_of {p n : Int} {ms : List M9} (h : areB p n ms = true) : 2 ≤ p ∧ p ≤ 13 ∧ 1 ≤ n ∧ n ≤ 3 ∧ ∀ i, i < ms.length → matB p n (ms.getD i zM) = true := by
  unfold areB at h
  simp only [Bool.and_eq_true, List.all_eq_true] at h
  obtain ⟨⟨h1, h2⟩, h3⟩ := h
  obtain ⟨k1, k2⟩ := inB_of h3
  obtain ⟨k3, k4⟩ := (primeZ_of h2).two
  exact ⟨k3, k4, k1, k2, fun i hi => h1 _ (getD_mem zM hi)⟩

set_option maxRecDepth 100000 in
set_option maxHeartbeats 2000000 in
theorem implGroupOf_c (p n : Int) (A : Option Addr) (c : Nat) (ms : List M9) (w : World) (hC : kM.C w A ms.length ms) (hN : ms.length ≤ 1048576) :
    Calls Try.prog 35 #[.int .i64 p, .int .i64 n, .slice A ms.length c] w (MakesGC (grpR p n ms) 76 w) := by
  have hC1 := Kd.C_alloc hC (.cells #[.int .i64 0, .int .i64 0, .slice none 0 0] 29)
  have hA := areMatrices_c p n A c ms _ hC1 (by omega)
  cases ha : areB p n ms with
  | false =>
    rw [grpR_2 ha]
    rw [ha] at hA
    clear ha
    go_enter Try.func35, Try.ntmps35
    go_wp2_with ((go_at_call 82; (first | (with_reducible refine call_later2 (hA) ?_) | (with_reducible refine call_later (hA) ?_)); intro x))
    have zz : w.heap.size < x.W.heap.size := by have := x.ok.size; simp at this; omega
    refine bodyPost_ret (v := .tuple #[.agg #[.int .i64 0, .int .i64 0, .slice none 0 0], .int .i64 2]) (by simp [results, Try.results35, go_sem]) rfl ?_
    exact MakesGC_nil _ _ _ _ (by repeat (first | (with_reducible assumption) | (with_reducible exact Below.refl _ _) | ((with_reducible refine Below.alloc ?_ ?_ _); rotate_left; (focus (first | omega | (simp; done) | (simp; omega)))) | (with_reducible refine Below.drew ?_) | ((with_reducible refine Below.setCell ?_ ?_ _); rotate_left; (focus (first | omega | (simp; done) | (simp; omega)))) | ((with_reducible refine below_hop (by assumption) ?_ ?_); rotate_left; (focus (first | omega | (simp; done) | (simp; omega)))) | ((with_reducible refine bel_later _ ?_ ?_); rotate_left; (focus (first | omega | (simp; done) | (simp; omega))))))
  | true =>
    rw [ha] at hA
    obtain ⟨hp, hp', hn1, hn3, hm⟩ := areB_of ha
    have hX := fun W hC => closed_c p n A c ms W hC hN hp hp' hn1 hn3 hm
    clear hm
    cases hg : genO p n ms with
    | none =>
      rw [grpR_3 ha hg]
      obtain ⟨e1, e2, e3, e4⟩ := gen_none hg
      rw [e1, e2, e3, e4] at hX
      clear e1 e2 e3 e4 ha hg
      go_enter Try.func35, Try.ntmps35
      go_wp2_with (first | (go_at_call 82; (first | (with_reducible refine call_later2 (hA) ?_) | (with_reducible refine call_later (hA) ?_)); intro x) | (go_at_call 83; (with_reducible refine call_makesGB2 (hX _ (Kd.C_below hC1 x.ok)) ?_); intro x2 A2 c2 hb2 hl2 hR2))
      have zz : w.heap.size < x.W.heap.size := by have := x.ok.size; simp at this; omega
      have zz2 := hb2.size
      refine bodyPost_ret (v := .tuple #[.agg #[.int .i64 0, .int .i64 0, .slice none 0 0], .int .i64 3]) (by simp [results, Try.results35, go_sem]) rfl ?_
      exact MakesGC_nil _ _ _ _ (by repeat (first | (with_reducible assumption) | (with_reducible exact Below.refl _ _) | ((with_reducible refine Below.alloc ?_ ?_ _); rotate_left; (focus (first | omega | (simp; done) | (simp; omega)))) | (with_reducible refine Below.drew ?_) | ((with_reducible refine Below.setCell ?_ ?_ _); rotate_left; (focus (first | omega | (simp; done) | (simp; omega)))) | ((with_reducible refine below_hop (by assumption) ?_ ?_); rotate_left; (focus (first | omega | (simp; done) | (simp; omega)))) | ((with_reducible refine bel_later _ ?_ ?_); rotate_left; (focus (first | omega | (simp; done) | (simp; omega))))))
    | some l =>
      rw [grpR_0 ha hg]
      obtain ⟨e1, e2, e3, e4⟩ := gen_some hg
      rw [e1, e2, e3, e4] at hX
      clear e1 e2 e3 e4 ha hg
      go_enter Try.func35, Try.ntmps35
      go_wp2_with (first | (go_at_call 82; (first | (with_reducible refine call_later2 (hA) ?_) | (with_reducible refine call_later (hA) ?_)); intro x) | (go_at_call 83; (with_reducible refine call_makesGB2 (hX _ (Kd.C_below hC1 x.ok)) ?_); intro x2 A2 c2 hb2 hl2 hR2))
      have zz : w.heap.size < x.W.heap.size := by have := x.ok.size; simp at this; omega
      have zz2 := hb2.size
      refine bodyPost_ret (v := .tuple #[.agg #[.int .i64 p, .int .i64 n, .slice A2 (sortM l).length c2], .int .i64 0]) (by simp [results, Try.results35, go_sem]) rfl ?_
      refine ⟨_, _, rfl, ?_, (by repeat (first | (with_reducible assumption) | (with_reducible exact Below.refl _ _) | ((with_reducible refine Below.alloc ?_ ?_ _); rotate_left; (focus (first | omega | (simp; done) | (simp; omega)))) | (with_reducible refine Below.drew ?_) | ((with_reducible refine Below.setCell ?_ ?_ _); rotate_left; (focus (first | omega | (simp; done) | (simp; omega)))) | ((with_reducible refine below_hop (by assumption) ?_ ?_); rotate_left; (focus (first | omega | (simp; done) | (simp; omega)))) | ((with_reducible refine bel_later _ ?_ ?_); rotate_left; (focus (first | omega | (simp; done) | (simp; omega))))))⟩
      exact Kd.R_lower (Kd.R_alloc (R_old (R_old (R_old hR2 (p := ⟨w.heap.size, 0, none⟩) zz _) (p := ⟨w.heap.size, 1, none⟩) zz _) (p := ⟨w.heap.size, 2, none⟩) zz _) _) (by omega)
set_option maxRecDepth 100000 in
set_option maxHeartbeats 2000000 in
theorem specGroupOf_c (p n : Int) (A : Option Addr) (c : Nat) (ms : List M9) (w : World) (hC : kM.C w A ms.length ms) (hN : ms.length ≤ 1048576) :
    Calls Try.prog 33 #[.int .i64 p, .int .i64 n, .slice A ms.length c] w (MakesGC (grpR p n ms) 76 w) := by
  have hC1 := Kd.C_alloc hC (.cells #[.int .i64 0, .int .i64 0, .slice none 0 0] 29)
  cases hp : primeB p with
  | false =>
    have ha : areB p n ms = false := by simp [areB, hp]
    rw [grpR_2 ha]
    have hP := fun W => hp ▸ l01Prime_c p W
    clear hp ha
    go_enter Try.func33, Try.ntmps33
    go_wp2_with ((go_at_call 70; (first | (with_reducible refine call_later2 (hP _) ?_) | (with_reducible refine call_later (hP _) ?_)); intro x))
    have zz : w.heap.size < x.W.heap.size := by have := x.ok.size; simp at this; omega
    refine bodyPost_ret (v := .tuple #[.agg #[.int .i64 0, .int .i64 0, .slice none 0 0], .int .i64 2]) (by simp [results, Try.results33, go_sem]) rfl ?_
    exact MakesGC_nil _ _ _ _ (by repeat (first | (with_reducible assumption) | (with_reducible exact Below.refl _ _) | ((with_reducible refine Below.alloc ?_ ?_ _); rotate_left; (focus (first | omega | (simp; done) | (simp; omega)))) | (with_reducible refine Below.drew ?_) | ((with_reducible refine Below.setCell ?_ ?_ _); rotate_left; (focus (first | omega | (simp; done) | (simp; omega)))) | ((with_reducible refine below_hop (by assumption) ?_ ?_); rotate_left; (focus (first | omega | (simp; done) | (simp; omega)))) | ((with_reducible refine bel_later _ ?_ ?_); rotate_left; (focus (first | omega | (simp; done) | (simp; omega))))))
  | true =>
  have hP := fun W => hp ▸ l01Prime_c p W
  cases hn : inB n 1 3 with
  | false =>
    have ha : areB p n ms = false := by simp [areB, hn]
    rw [grpR_2 ha]
    have hI := fun W => hn ▸ l01In_c n 1 3 W
    clear hp ha hn
    go_enter Try.func33, Try.ntmps33
    go_wp2_with (first | (go_at_call 70; (first | (with_reducible refine call_later2 (hP _) ?_) | (with_reducible refine call_later (hP _) ?_)); intro x) | (go_at_call 71; (first | (with_reducible refine call_later2 (hI _) ?_) | (with_reducible refine call_later (hI _) ?_)); intro x2))
    have zz : w.heap.size < x2.W.heap.size := by have := x2.ok.size; simp at this; omega
    refine bodyPost_ret (v := .tuple #[.agg #[.int .i64 0, .int .i64 0, .slice none 0 0], .int .i64 2]) (by simp [results, Try.results33, go_sem]) rfl ?_
    exact MakesGC_nil _ _ _ _ (by repeat (first | (with_reducible assumption) | (with_reducible exact Below.refl _ _) | ((with_reducible refine Below.alloc ?_ ?_ _); rotate_left; (focus (first | omega | (simp; done) | (simp; omega)))) | (with_reducible refine Below.drew ?_) | ((with_reducible refine Below.setCell ?_ ?_ _); rotate_left; (focus (first | omega | (simp; done) | (simp; omega)))) | ((with_reducible refine below_hop (by assumption) ?_ ?_); rotate_left; (focus (first | omega | (simp; done) | (simp; omega)))) | ((with_reducible refine bel_later _ ?_ ?_); rotate_left; (focus (first | omega | (simp; done) | (simp; omega))))))
  | true =>
  have hI := fun W => hn ▸ l01In_c n 1 3 W
  have HPN := Lib.hid (And.intro hp hn)
  clear hp hn
  go_enter Try.func33, Try.ntmps33
  go_wp2_with (first | (go_at_call 70; (first | (with_reducible refine call_later2 (hP _) ?_) | (with_reducible refine call_later (hP _) ?_)); intro x) | (go_at_call 71; (first | (with_reducible refine call_later2 (hI _) ?_) | (with_reducible refine call_later (hI _) ?_)); intro x2))
  go_loopg [8] ms.length (fun k v w' => ∃ (i : Nat) (y : Later (w.alloc (.cells #[.int .i64 0, .int .i64 0, .slice none 0 0] 29))), i + k = ms.length ∧ v = .int .i64 i ∧ w' = y.W ∧ ∀ j, j < i → matB p n (ms.getD j zM) = true)
  case atStart => exact ⟨0, x2, by omega, rfl, rfl, fun j hj => by omega⟩
  case round =>
    obtain ⟨i, y, hik, rfl, rfl, hs⟩ := hrel
    have HIK := Lib.hid hik
    have HS := Lib.hid hs
    clear hik hs
    have zz : w.heap.size < y.W.heap.size := by have := y.ok.size; simp at this; omega
    by_cases hlt : i < ms.length
    · obtain ⟨b, o, hA, q0, q1, q2, q3, q4, q5, q6, q7, q8⟩ := kM_at hC1 i hlt
      subst hA
      have q0 := y.keep q0
      have q1 := y.keep q1
      have q2 := y.keep q2
      have q3 := y.keep q3
      have q4 := y.keep q4
      have q5 := y.keep q5
      have q6 := y.keep q6
      have q7 := y.keep q7
      have q8 := y.keep q8
      have hi0 : (0 : Int) ≤ i := by omega
      have hi1 : (i : Int) < ms.length := by omega
      have hin : ((i : Int)).toNat = i := by omega
      have hno := areB_no (p := p) (n := n) hlt
      generalize hm : ms.getD i zM = m at *
      have HMM := Lib.hid hm
      have HNO := Lib.hid hno
      clear hm hno
      have hX := fun W => l02Matrix_c p n m W
      cases hb : matB p n m with
      | false =>
        have EE := Lib.hid (grpR_2 (HNO.out hb))
        rw [hb] at hX
        go_wp2_with ((go_at_call 80; (first | (with_reducible refine call_later2 (hX _) ?_) | (with_reducible refine call_later (hX _) ?_)); intro x3))
        have zz3 : w.heap.size < x3.W.heap.size := by have := x3.ok.size; simp at this; omega
        rw [EE.out]
        refine bodyPost_ret (v := .tuple #[.agg #[.int .i64 0, .int .i64 0, .slice none 0 0], .int .i64 2]) (by simp [results, Try.results33, go_sem]) rfl ?_
        exact MakesGC_nil _ _ _ _ (by repeat (first | (with_reducible assumption) | (with_reducible exact Below.refl _ _) | ((with_reducible refine Below.alloc ?_ ?_ _); rotate_left; (focus (first | omega | (simp; done) | (simp; omega)))) | (with_reducible refine Below.drew ?_) | ((with_reducible refine Below.setCell ?_ ?_ _); rotate_left; (focus (first | omega | (simp; done) | (simp; omega)))) | ((with_reducible refine below_hop (by assumption) ?_ ?_); rotate_left; (focus (first | omega | (simp; done) | (simp; omega)))) | ((with_reducible refine bel_later _ ?_ ?_); rotate_left; (focus (first | omega | (simp; done) | (simp; omega))))))
      | true =>
        rw [hb] at hX
        go_wp2_with ((go_at_call 80; (first | (with_reducible refine call_later2 (hX _) ?_) | (with_reducible refine call_later (hX _) ?_)); intro x3))
        go_roundg (gk - 1)
        case measure => have := HIK.out; omega
        case rel =>
          refine ⟨i + 1, x3, by have := HIK.out; omega, by go_num, rfl, fun j hj => ?_⟩
          by_cases h : j = i
          · rw [h, HMM.out]; exact hb
          · exact HS.out j (by omega)
    · have hie : i = ms.length := by have := HIK.out; omega
      have ha : areB p n ms = true := by rw [areB_yes (fun j hj => HS.out j (by omega)), HPN.out.1, HPN.out.2]; rfl
      obtain ⟨hp, hp', hn1, hn3, hm⟩ := areB_of ha
      have hX := fun W hC => l02Of_c p n A c ms W hC hN hp hp' hn1 hn3 hm
      have hi1 : ¬ (i : Int) < ms.length := by omega
      clear hm hie
      cases hg : genO p n ms with
      | none =>
        have EE := Lib.hid (grpR_3 ha hg)
        obtain ⟨e1, e2, e3, e4⟩ := gen_none hg
        rw [e1, e2, e3, e4] at hX
        clear e1 e2 e3 e4 ha hg
        go_wp2_with (go_at_call 81; (with_reducible refine call_makesGB2 (hX _ (Kd.C_below hC1 y.ok)) ?_); intro x3 A2 c2 hb2 hl2 hR2)
        have zz2 := hb2.size
        rw [EE.out]
        refine bodyPost_ret (v := .tuple #[.agg #[.int .i64 0, .int .i64 0, .slice none 0 0], .int .i64 3]) (by simp [results, Try.results33, go_sem]) rfl ?_
        exact MakesGC_nil _ _ _ _ (by repeat (first | (with_reducible assumption) | (with_reducible exact Below.refl _ _) | ((with_reducible refine Below.alloc ?_ ?_ _); rotate_left; (focus (first | omega | (simp; done) | (simp; omega)))) | (with_reducible refine Below.drew ?_) | ((with_reducible refine Below.setCell ?_ ?_ _); rotate_left; (focus (first | omega | (simp; done) | (simp; omega)))) | ((with_reducible refine below_hop (by assumption) ?_ ?_); rotate_left; (focus (first | omega | (simp; done) | (simp; omega)))) | ((with_reducible refine bel_later _ ?_ ?_); rotate_left; (focus (first | omega | (simp; done) | (simp; omega))))))
      | some l =>
        have EE := Lib.hid (grpR_0 ha hg)
        obtain ⟨e1, e2, e3, e4⟩ := gen_some hg
        rw [e1, e2, e3, e4] at hX
        clear e1 e2 e3 e4 ha hg
        go_wp2_with (go_at_call 81; (with_reducible refine call_makesGB2 (hX _ (Kd.C_below hC1 y.ok)) ?_); intro x3 A2 c2 hb2 hl2 hR2)
        have zz2 := hb2.size
        rw [EE.out]
        refine bodyPost_ret (v := .tuple #[.agg #[.int .i64 p, .int .i64 n, .slice A2 (sortM l).length c2], .int .i64 0]) (by simp [results, Try.results33, go_sem]) rfl ?_
        refine ⟨_, _, rfl, ?_, (by repeat (first | (with_reducible assumption) | (with_reducible exact Below.refl _ _) | ((with_reducible refine Below.alloc ?_ ?_ _); rotate_left; (focus (first | omega | (simp; done) | (simp; omega)))) | (with_reducible refine Below.drew ?_) | ((with_reducible refine Below.setCell ?_ ?_ _); rotate_left; (focus (first | omega | (simp; done) | (simp; omega)))) | ((with_reducible refine below_hop (by assumption) ?_ ?_); rotate_left; (focus (first | omega | (simp; done) | (simp; omega)))) | ((with_reducible refine bel_later _ ?_ ?_); rotate_left; (focus (first | omega | (simp; done) | (simp; omega))))))⟩
        exact Kd.R_lower (Kd.R_alloc (R_old (R_old (R_old hR2 (p := ⟨w.heap.size, 0, none⟩) zz _) (p := ⟨w.heap.size, 1, none⟩) zz _) (p := ⟨w.heap.size, 2, none⟩) zz _) _) (by omega)
end Go.Proofs.Ytgidpgfkbgbhmaa
