/- The walks of MultiplyMatrices of both sides; no condition. -/
import Derived.Test.YtafdakamibpjaaaDetOf
import Derived.Test.YtafdakamibpjaaaEqM
import Derived.Deep.RegionWith
set_option linter.unusedVariables false
set_option linter.unusedSimpArgs false
namespace Go.Proofs.Ytafdakamibpjaaa
open Go.RowKit Go.Proofs.YtafdakamibpjaaaW.PrintWords
attribute [local go_sem] Later.cell Later.frozen Later.lt Later.lt_add Later.le Later.le_add Later.ne Later.ne' add_at

/-- What MultiplyMatrices answers. -/
def mulR (p n : Int) (g h : M9) : M9 × Int := if (matB p n g && matB p n h) = true then (timesM p n.toNat g h, 0) else (zM, 2)
theorem matB_le {p n : Int} {m : M9} (h : matB p n m = true) : m.le p ∧ 2 ≤ p ∧ p ≤ 13 ∧ 1 ≤ n ∧ n ≤ 3 := by
  obtain ⟨h1, h2, h3, _⟩ := matB_of h
  have := (primeZ_of h1).two
  have := inB_of h2
  exact ⟨cellsB_le h3, by omega, by omega, by omega, by omega⟩
theorem l02Times_g {p n : Int} {g h : M9} (hg : matB p n g = true) (hh : matB p n h = true) (w : World) : Calls Try.prog 72 #[.int .i64 p, .int .i64 n, .agg #[.int .u8 (g.r0.a.toNat : Int), .int .u8 (g.r0.b.toNat : Int), .int .u8 (g.r0.c.toNat : Int), .int .u8 (g.r1.a.toNat : Int), .int .u8 (g.r1.b.toNat : Int), .int .u8 (g.r1.c.toNat : Int), .int .u8 (g.r2.a.toNat : Int), .int .u8 (g.r2.b.toNat : Int), .int .u8 (g.r2.c.toNat : Int)], .agg #[.int .u8 (h.r0.a.toNat : Int), .int .u8 (h.r0.b.toNat : Int), .int .u8 (h.r0.c.toNat : Int), .int .u8 (h.r1.a.toNat : Int), .int .u8 (h.r1.b.toNat : Int), .int .u8 (h.r1.c.toNat : Int), .int .u8 (h.r2.a.toNat : Int), .int .u8 (h.r2.b.toNat : Int), .int .u8 (h.r2.c.toNat : Int)]] w (Gives (.agg #[.int .u8 ((timesM p n.toNat g h).r0.a.toNat : Int), .int .u8 ((timesM p n.toNat g h).r0.b.toNat : Int), .int .u8 ((timesM p n.toNat g h).r0.c.toNat : Int), .int .u8 ((timesM p n.toNat g h).r1.a.toNat : Int), .int .u8 ((timesM p n.toNat g h).r1.b.toNat : Int), .int .u8 ((timesM p n.toNat g h).r1.c.toNat : Int), .int .u8 ((timesM p n.toNat g h).r2.a.toNat : Int), .int .u8 ((timesM p n.toNat g h).r2.b.toNat : Int), .int .u8 ((timesM p n.toNat g h).r2.c.toNat : Int)]) w) := by
  obtain ⟨h1, h2, h3, h4, h5⟩ := matB_le hg
  obtain ⟨k1, _⟩ := matB_le hh
  have := l02Times_c p n.toNat g h w h2 h3 (by omega) (by omega) h1 k1
  rwa [Int.toNat_of_nonneg (by omega)] at this
theorem times_g {p n : Int} {g h : M9} (hg : matB p n g = true) (hh : matB p n h = true) (w : World) : Calls Try.prog 73 #[.int .i64 p, .int .i64 n, .agg #[.int .u8 (g.r0.a.toNat : Int), .int .u8 (g.r0.b.toNat : Int), .int .u8 (g.r0.c.toNat : Int), .int .u8 (g.r1.a.toNat : Int), .int .u8 (g.r1.b.toNat : Int), .int .u8 (g.r1.c.toNat : Int), .int .u8 (g.r2.a.toNat : Int), .int .u8 (g.r2.b.toNat : Int), .int .u8 (g.r2.c.toNat : Int)], .agg #[.int .u8 (h.r0.a.toNat : Int), .int .u8 (h.r0.b.toNat : Int), .int .u8 (h.r0.c.toNat : Int), .int .u8 (h.r1.a.toNat : Int), .int .u8 (h.r1.b.toNat : Int), .int .u8 (h.r1.c.toNat : Int), .int .u8 (h.r2.a.toNat : Int), .int .u8 (h.r2.b.toNat : Int), .int .u8 (h.r2.c.toNat : Int)]] w (Gives (.agg #[.int .u8 ((timesM p n.toNat g h).r0.a.toNat : Int), .int .u8 ((timesM p n.toNat g h).r0.b.toNat : Int), .int .u8 ((timesM p n.toNat g h).r0.c.toNat : Int), .int .u8 ((timesM p n.toNat g h).r1.a.toNat : Int), .int .u8 ((timesM p n.toNat g h).r1.b.toNat : Int), .int .u8 ((timesM p n.toNat g h).r1.c.toNat : Int), .int .u8 ((timesM p n.toNat g h).r2.a.toNat : Int), .int .u8 ((timesM p n.toNat g h).r2.b.toNat : Int), .int .u8 ((timesM p n.toNat g h).r2.c.toNat : Int)]) w) := by
  obtain ⟨h1, h2, h3, h4, h5⟩ := matB_le hg
  obtain ⟨k1, _⟩ := matB_le hh
  have := times_c p n.toNat g h w h2 h3 (by omega) (by omega) h1 k1
  rwa [Int.toNat_of_nonneg (by omega)] at this

set_option maxRecDepth 100000 in
set_option maxHeartbeats 1000000 in
theorem specMultiply_c (p n : Int) (g h : M9) (w : World) : Calls Try.prog 22 #[.int .i64 p, .int .i64 n, .agg #[.int .u8 (g.r0.a.toNat : Int), .int .u8 (g.r0.b.toNat : Int), .int .u8 (g.r0.c.toNat : Int), .int .u8 (g.r1.a.toNat : Int), .int .u8 (g.r1.b.toNat : Int), .int .u8 (g.r1.c.toNat : Int), .int .u8 (g.r2.a.toNat : Int), .int .u8 (g.r2.b.toNat : Int), .int .u8 (g.r2.c.toNat : Int)], .agg #[.int .u8 (h.r0.a.toNat : Int), .int .u8 (h.r0.b.toNat : Int), .int .u8 (h.r0.c.toNat : Int), .int .u8 (h.r1.a.toNat : Int), .int .u8 (h.r1.b.toNat : Int), .int .u8 (h.r1.c.toNat : Int), .int .u8 (h.r2.a.toNat : Int), .int .u8 (h.r2.b.toNat : Int), .int .u8 (h.r2.c.toNat : Int)]] w (Gives (.tuple #[.agg #[.int .u8 ((mulR p n g h).1.r0.a.toNat : Int), .int .u8 ((mulR p n g h).1.r0.b.toNat : Int), .int .u8 ((mulR p n g h).1.r0.c.toNat : Int), .int .u8 ((mulR p n g h).1.r1.a.toNat : Int), .int .u8 ((mulR p n g h).1.r1.b.toNat : Int), .int .u8 ((mulR p n g h).1.r1.c.toNat : Int), .int .u8 ((mulR p n g h).1.r2.a.toNat : Int), .int .u8 ((mulR p n g h).1.r2.b.toNat : Int), .int .u8 ((mulR p n g h).1.r2.c.toNat : Int)], .int .i64 (mulR p n g h).2]) w) := by
  cases hg : matB p n g with
  | false =>
    have e : mulR p n g h = (zM, 2) := by simp [mulR, hg]
    rw [e]
    go_enter Try.func22, Try.ntmps22
    go_wp2_with ((go_at_call 65; (first | (with_reducible refine call_later2 (hg ▸ l02Matrix_c p n g _) ?_) | (with_reducible refine call_later (hg ▸ l02Matrix_c p n g _) ?_)); intro x1))
    exact bodyPost_ret (v := .tuple #[.agg #[.int .u8 0, .int .u8 0, .int .u8 0, .int .u8 0, .int .u8 0, .int .u8 0, .int .u8 0, .int .u8 0, .int .u8 0], .int .i64 2]) (by simp [results, Try.results22, go_sem]) rfl (.mk rfl (by repeat (first | (with_reducible assumption) | (with_reducible exact Below.refl _ _) | ((with_reducible refine Below.alloc ?_ ?_ _); rotate_left; (focus (first | omega | (simp; done) | (simp; omega) | (simp [Later.le, Later.le_add, Later.lt, Later.lt_add]; done) | (simp [Later.le, Later.le_add, Later.lt, Later.lt_add]; omega)))) | (with_reducible refine Below.drew ?_) | (with_reducible refine pw_below_drewN ?_ _) | ((with_reducible refine Below.setCell ?_ ?_ _); rotate_left; (focus (first | omega | (simp; done) | (simp; omega) | (simp [Later.le, Later.le_add, Later.lt, Later.lt_add]; done) | (simp [Later.le, Later.le_add, Later.lt, Later.lt_add]; omega)))) | ((with_reducible refine below_hop (by assumption) ?_ ?_); rotate_left; (focus (first | omega | (simp; done) | (simp; omega) | (simp [Later.le, Later.le_add, Later.lt, Later.lt_add]; done) | (simp [Later.le, Later.le_add, Later.lt, Later.lt_add]; omega)))) | ((with_reducible refine bel_later _ ?_ ?_); rotate_left; (focus (first | omega | (simp; done) | (simp; omega) | (simp [Later.le, Later.le_add, Later.lt, Later.lt_add]; done) | (simp [Later.le, Later.le_add, Later.lt, Later.lt_add]; omega)))))))
  | true =>
    cases hh : matB p n h with
    | false =>
      have e : mulR p n g h = (zM, 2) := by simp [mulR, hh]
      rw [e]
      have hG := fun W => hg ▸ l02Matrix_c p n g W
      have hH := fun W => hh ▸ l02Matrix_c p n h W
      clear e hg hh
      go_enter Try.func22, Try.ntmps22
      go_wp2_with (first | (go_at_call 65; (first | (with_reducible refine call_later2 (hG _) ?_) | (with_reducible refine call_later (hG _) ?_)); intro x1) | (go_at_call 65; (first | (with_reducible refine call_later2 (hH _) ?_) | (with_reducible refine call_later (hH _) ?_)); intro x2))
      exact bodyPost_ret (v := .tuple #[.agg #[.int .u8 0, .int .u8 0, .int .u8 0, .int .u8 0, .int .u8 0, .int .u8 0, .int .u8 0, .int .u8 0, .int .u8 0], .int .i64 2]) (by simp [results, Try.results22, go_sem]) rfl (.mk rfl (by repeat (first | (with_reducible assumption) | (with_reducible exact Below.refl _ _) | ((with_reducible refine Below.alloc ?_ ?_ _); rotate_left; (focus (first | omega | (simp; done) | (simp; omega) | (simp [Later.le, Later.le_add, Later.lt, Later.lt_add]; done) | (simp [Later.le, Later.le_add, Later.lt, Later.lt_add]; omega)))) | (with_reducible refine Below.drew ?_) | (with_reducible refine pw_below_drewN ?_ _) | ((with_reducible refine Below.setCell ?_ ?_ _); rotate_left; (focus (first | omega | (simp; done) | (simp; omega) | (simp [Later.le, Later.le_add, Later.lt, Later.lt_add]; done) | (simp [Later.le, Later.le_add, Later.lt, Later.lt_add]; omega)))) | ((with_reducible refine below_hop (by assumption) ?_ ?_); rotate_left; (focus (first | omega | (simp; done) | (simp; omega) | (simp [Later.le, Later.le_add, Later.lt, Later.lt_add]; done) | (simp [Later.le, Later.le_add, Later.lt, Later.lt_add]; omega)))) | ((with_reducible refine bel_later _ ?_ ?_); rotate_left; (focus (first | omega | (simp; done) | (simp; omega) | (simp [Later.le, Later.le_add, Later.lt, Later.lt_add]; done) | (simp [Later.le, Later.le_add, Later.lt, Later.lt_add]; omega)))))))
    | true =>
      have e : mulR p n g h = (timesM p n.toNat g h, 0) := by simp [mulR, hg, hh]
      rw [e]
      have htm := fun W => l02Times_g hg hh W
      generalize timesM p n.toNat g h = tm at *
      have hG := fun W => hg ▸ l02Matrix_c p n g W
      have hH := fun W => hh ▸ l02Matrix_c p n h W
      clear e hg hh
      go_enter Try.func22, Try.ntmps22
      go_wp2_with (first | (go_at_call 65; (first | (with_reducible refine call_later2 (hG _) ?_) | (with_reducible refine call_later (hG _) ?_)); intro x1) | (go_at_call 65; (first | (with_reducible refine call_later2 (hH _) ?_) | (with_reducible refine call_later (hH _) ?_)); intro x2) | (go_at_call 72; (first | (with_reducible refine call_later2 (htm _) ?_) | (with_reducible refine call_later (htm _) ?_)); intro x3))
      exact bodyPost_ret (v := .tuple #[.agg #[.int .u8 (tm.r0.a.toNat : Int), .int .u8 (tm.r0.b.toNat : Int), .int .u8 (tm.r0.c.toNat : Int), .int .u8 (tm.r1.a.toNat : Int), .int .u8 (tm.r1.b.toNat : Int), .int .u8 (tm.r1.c.toNat : Int), .int .u8 (tm.r2.a.toNat : Int), .int .u8 (tm.r2.b.toNat : Int), .int .u8 (tm.r2.c.toNat : Int)], .int .i64 0]) (by simp [results, Try.results22, go_sem]) rfl (.mk rfl (by repeat (first | (with_reducible assumption) | (with_reducible exact Below.refl _ _) | ((with_reducible refine Below.alloc ?_ ?_ _); rotate_left; (focus (first | omega | (simp; done) | (simp; omega) | (simp [Later.le, Later.le_add, Later.lt, Later.lt_add]; done) | (simp [Later.le, Later.le_add, Later.lt, Later.lt_add]; omega)))) | (with_reducible refine Below.drew ?_) | (with_reducible refine pw_below_drewN ?_ _) | ((with_reducible refine Below.setCell ?_ ?_ _); rotate_left; (focus (first | omega | (simp; done) | (simp; omega) | (simp [Later.le, Later.le_add, Later.lt, Later.lt_add]; done) | (simp [Later.le, Later.le_add, Later.lt, Later.lt_add]; omega)))) | ((with_reducible refine below_hop (by assumption) ?_ ?_); rotate_left; (focus (first | omega | (simp; done) | (simp; omega) | (simp [Later.le, Later.le_add, Later.lt, Later.lt_add]; done) | (simp [Later.le, Later.le_add, Later.lt, Later.lt_add]; omega)))) | ((with_reducible refine bel_later _ ?_ ?_); rotate_left; (focus (first | omega | (simp; done) | (simp; omega) | (simp [Later.le, Later.le_add, Later.lt, Later.lt_add]; done) | (simp [Later.le, Later.le_add, Later.lt, Later.lt_add]; omega)))))))

theorem kM_two (W : World) (g h : M9) (t : TypeId) (i : Nat) (hi : i = W.heap.size) : kM.C (W.alloc (.cells #[.int .u8 (g.r0.a.toNat : Int), .int .u8 (g.r0.b.toNat : Int), .int .u8 (g.r0.c.toNat : Int), .int .u8 (g.r1.a.toNat : Int), .int .u8 (g.r1.b.toNat : Int), .int .u8 (g.r1.c.toNat : Int), .int .u8 (g.r2.a.toNat : Int), .int .u8 (g.r2.b.toNat : Int), .int .u8 (g.r2.c.toNat : Int), .int .u8 (h.r0.a.toNat : Int), .int .u8 (h.r0.b.toNat : Int), .int .u8 (h.r0.c.toNat : Int), .int .u8 (h.r1.a.toNat : Int), .int .u8 (h.r1.b.toNat : Int), .int .u8 (h.r1.c.toNat : Int), .int .u8 (h.r2.a.toNat : Int), .int .u8 (h.r2.b.toNat : Int), .int .u8 (h.r2.c.toNat : Int)] t)) (some ⟨i, 0, none⟩) ([g, h] : List M9).length [g, h] := by
  subst hi
  refine ⟨rfl, by simp, fun _ => ⟨_, rfl, fun j p hp => ?_⟩⟩
  match j, hp with
  | 0, hp =>
    obtain rfl : g = p := by simpa using hp
    refine ⟨M9.cs g, rfl, rfl, fun k u hu => ?_⟩
    have hk : k < 9 := (List.getElem?_eq_some_iff.1 hu).1
    simp only [add_at]
    rw [blk_cell (heap_alloc_last W _)]
    have : k = 0 ∨ k = 1 ∨ k = 2 ∨ k = 3 ∨ k = 4 ∨ k = 5 ∨ k = 6 ∨ k = 7 ∨ k = 8 := by omega
    rcases this with rfl | rfl | rfl | rfl | rfl | rfl | rfl | rfl | rfl <;> exact hu
  | 1, hp =>
    obtain rfl : h = p := by simpa using hp
    refine ⟨M9.cs h, rfl, rfl, fun k u hu => ?_⟩
    have hk : k < 9 := (List.getElem?_eq_some_iff.1 hu).1
    simp only [add_at]
    rw [blk_cell (heap_alloc_last W _)]
    have : k = 0 ∨ k = 1 ∨ k = 2 ∨ k = 3 ∨ k = 4 ∨ k = 5 ∨ k = 6 ∨ k = 7 ∨ k = 8 := by omega
    rcases this with rfl | rfl | rfl | rfl | rfl | rfl | rfl | rfl | rfl <;> exact hu
  | j + 2, hp => simp at hp
theorem areB_two (p n : Int) (g h : M9) : areB p n [g, h] = (matB p n g && matB p n h) := by
  unfold areB
  cases hg : matB p n g with
  | false => simp [hg]
  | true =>
    obtain ⟨h1, h2, _⟩ := matB_of hg
    simp [hg, h1, h2]
theorem areMatrices_2 (p n : Int) (g h : M9) (W : World) (i c : Nat) (hi : i = W.heap.size) : Calls Try.prog 71 #[.int .i64 p, .int .i64 n, .slice (some ⟨i, 0, none⟩) 2 c] (W.alloc (.cells #[.int .u8 (g.r0.a.toNat : Int), .int .u8 (g.r0.b.toNat : Int), .int .u8 (g.r0.c.toNat : Int), .int .u8 (g.r1.a.toNat : Int), .int .u8 (g.r1.b.toNat : Int), .int .u8 (g.r1.c.toNat : Int), .int .u8 (g.r2.a.toNat : Int), .int .u8 (g.r2.b.toNat : Int), .int .u8 (g.r2.c.toNat : Int), .int .u8 (h.r0.a.toNat : Int), .int .u8 (h.r0.b.toNat : Int), .int .u8 (h.r0.c.toNat : Int), .int .u8 (h.r1.a.toNat : Int), .int .u8 (h.r1.b.toNat : Int), .int .u8 (h.r1.c.toNat : Int), .int .u8 (h.r2.a.toNat : Int), .int .u8 (h.r2.b.toNat : Int), .int .u8 (h.r2.c.toNat : Int)] 25)) (Gives (.bool (matB p n g && matB p n h)) (W.alloc (.cells #[.int .u8 (g.r0.a.toNat : Int), .int .u8 (g.r0.b.toNat : Int), .int .u8 (g.r0.c.toNat : Int), .int .u8 (g.r1.a.toNat : Int), .int .u8 (g.r1.b.toNat : Int), .int .u8 (g.r1.c.toNat : Int), .int .u8 (g.r2.a.toNat : Int), .int .u8 (g.r2.b.toNat : Int), .int .u8 (g.r2.c.toNat : Int), .int .u8 (h.r0.a.toNat : Int), .int .u8 (h.r0.b.toNat : Int), .int .u8 (h.r0.c.toNat : Int), .int .u8 (h.r1.a.toNat : Int), .int .u8 (h.r1.b.toNat : Int), .int .u8 (h.r1.c.toNat : Int), .int .u8 (h.r2.a.toNat : Int), .int .u8 (h.r2.b.toNat : Int), .int .u8 (h.r2.c.toNat : Int)] 25))) := by
  have k := areMatrices_c p n (some ⟨i, 0, none⟩) c [g, h] _ (kM_two W g h 25 i hi) (by simp)
  rwa [areB_two] at k
set_option maxRecDepth 100000 in
set_option maxHeartbeats 1000000 in
theorem implMultiply_c (p n : Int) (g h : M9) (w : World) : Calls Try.prog 23 #[.int .i64 p, .int .i64 n, .agg #[.int .u8 (g.r0.a.toNat : Int), .int .u8 (g.r0.b.toNat : Int), .int .u8 (g.r0.c.toNat : Int), .int .u8 (g.r1.a.toNat : Int), .int .u8 (g.r1.b.toNat : Int), .int .u8 (g.r1.c.toNat : Int), .int .u8 (g.r2.a.toNat : Int), .int .u8 (g.r2.b.toNat : Int), .int .u8 (g.r2.c.toNat : Int)], .agg #[.int .u8 (h.r0.a.toNat : Int), .int .u8 (h.r0.b.toNat : Int), .int .u8 (h.r0.c.toNat : Int), .int .u8 (h.r1.a.toNat : Int), .int .u8 (h.r1.b.toNat : Int), .int .u8 (h.r1.c.toNat : Int), .int .u8 (h.r2.a.toNat : Int), .int .u8 (h.r2.b.toNat : Int), .int .u8 (h.r2.c.toNat : Int)]] w (Gives (.tuple #[.agg #[.int .u8 ((mulR p n g h).1.r0.a.toNat : Int), .int .u8 ((mulR p n g h).1.r0.b.toNat : Int), .int .u8 ((mulR p n g h).1.r0.c.toNat : Int), .int .u8 ((mulR p n g h).1.r1.a.toNat : Int), .int .u8 ((mulR p n g h).1.r1.b.toNat : Int), .int .u8 ((mulR p n g h).1.r1.c.toNat : Int), .int .u8 ((mulR p n g h).1.r2.a.toNat : Int), .int .u8 ((mulR p n g h).1.r2.b.toNat : Int), .int .u8 ((mulR p n g h).1.r2.c.toNat : Int)], .int .i64 (mulR p n g h).2]) w) := by
  have ha := fun W i c hi => areMatrices_2 p n g h W i c hi
  cases hgh : (matB p n g && matB p n h) with
  | false =>
    have e : mulR p n g h = (zM, 2) := by simp [mulR, hgh]
    rw [e]
    rw [hgh] at ha
    go_enter Try.func23, Try.ntmps23
    go_wp2_with ((go_at_call 71; (first | (with_reducible refine call_later2 (ha _ _ _ (by simp)) ?_) | (with_reducible refine call_later (ha _ _ _ (by simp)) ?_)); intro x1))
    exact bodyPost_ret (v := .tuple #[.agg #[.int .u8 0, .int .u8 0, .int .u8 0, .int .u8 0, .int .u8 0, .int .u8 0, .int .u8 0, .int .u8 0, .int .u8 0], .int .i64 2]) (by simp [results, Try.results23, go_sem]) rfl (.mk rfl (by repeat (first | (with_reducible assumption) | (with_reducible exact Below.refl _ _) | ((with_reducible refine Below.alloc ?_ ?_ _); rotate_left; (focus (first | omega | (simp; done) | (simp; omega) | (simp [Later.le, Later.le_add, Later.lt, Later.lt_add]; done) | (simp [Later.le, Later.le_add, Later.lt, Later.lt_add]; omega)))) | (with_reducible refine Below.drew ?_) | (with_reducible refine pw_below_drewN ?_ _) | ((with_reducible refine Below.setCell ?_ ?_ _); rotate_left; (focus (first | omega | (simp; done) | (simp; omega) | (simp [Later.le, Later.le_add, Later.lt, Later.lt_add]; done) | (simp [Later.le, Later.le_add, Later.lt, Later.lt_add]; omega)))) | ((with_reducible refine below_hop (by assumption) ?_ ?_); rotate_left; (focus (first | omega | (simp; done) | (simp; omega) | (simp [Later.le, Later.le_add, Later.lt, Later.lt_add]; done) | (simp [Later.le, Later.le_add, Later.lt, Later.lt_add]; omega)))) | ((with_reducible refine bel_later _ ?_ ?_); rotate_left; (focus (first | omega | (simp; done) | (simp; omega) | (simp [Later.le, Later.le_add, Later.lt, Later.lt_add]; done) | (simp [Later.le, Later.le_add, Later.lt, Later.lt_add]; omega)))))))
  | true =>
    have e : mulR p n g h = (timesM p n.toNat g h, 0) := by simp [mulR, hgh]
    rw [e]
    rw [hgh] at ha
    rw [Bool.and_eq_true] at hgh
    have htm := fun W => times_g hgh.1 hgh.2 W
    generalize timesM p n.toNat g h = tm at *
    go_enter Try.func23, Try.ntmps23
    go_wp2_with (first | (go_at_call 71; (first | (with_reducible refine call_later2 (ha _ _ _ (by simp)) ?_) | (with_reducible refine call_later (ha _ _ _ (by simp)) ?_)); intro x1) | (go_at_call 73; (first | (with_reducible refine call_later2 (htm _) ?_) | (with_reducible refine call_later (htm _) ?_)); intro x3))
    exact bodyPost_ret (v := .tuple #[.agg #[.int .u8 (tm.r0.a.toNat : Int), .int .u8 (tm.r0.b.toNat : Int), .int .u8 (tm.r0.c.toNat : Int), .int .u8 (tm.r1.a.toNat : Int), .int .u8 (tm.r1.b.toNat : Int), .int .u8 (tm.r1.c.toNat : Int), .int .u8 (tm.r2.a.toNat : Int), .int .u8 (tm.r2.b.toNat : Int), .int .u8 (tm.r2.c.toNat : Int)], .int .i64 0]) (by simp [results, Try.results23, go_sem]) rfl (.mk rfl (by repeat (first | (with_reducible assumption) | (with_reducible exact Below.refl _ _) | ((with_reducible refine Below.alloc ?_ ?_ _); rotate_left; (focus (first | omega | (simp; done) | (simp; omega) | (simp [Later.le, Later.le_add, Later.lt, Later.lt_add]; done) | (simp [Later.le, Later.le_add, Later.lt, Later.lt_add]; omega)))) | (with_reducible refine Below.drew ?_) | (with_reducible refine pw_below_drewN ?_ _) | ((with_reducible refine Below.setCell ?_ ?_ _); rotate_left; (focus (first | omega | (simp; done) | (simp; omega) | (simp [Later.le, Later.le_add, Later.lt, Later.lt_add]; done) | (simp [Later.le, Later.le_add, Later.lt, Later.lt_add]; omega)))) | ((with_reducible refine below_hop (by assumption) ?_ ?_); rotate_left; (focus (first | omega | (simp; done) | (simp; omega) | (simp [Later.le, Later.le_add, Later.lt, Later.lt_add]; done) | (simp [Later.le, Later.le_add, Later.lt, Later.lt_add]; omega)))) | ((with_reducible refine bel_later _ ?_ ?_); rotate_left; (focus (first | omega | (simp; done) | (simp; omega) | (simp [Later.le, Later.le_add, Later.lt, Later.lt_add]; done) | (simp [Later.le, Later.le_add, Later.lt, Later.lt_add]; omega)))))))
end Go.Proofs.Ytafdakamibpjaaa
