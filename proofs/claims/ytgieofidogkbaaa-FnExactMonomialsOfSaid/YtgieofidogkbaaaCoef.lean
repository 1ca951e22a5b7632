/- The walks of the functions that read a list of exponents, and of coefficients; no condition. -/
import Derived.Test.YtgieofidogkbaaaValAt
set_option linter.unusedVariables false
set_option linter.unusedSimpArgs false
namespace Go.Proofs.Ytgieofidogkbaaa
open Go.RowKit Go.Proofs.YtgieofidogkbaaaW.PrintWords
attribute [local go_sem] Later.cell Later.frozen Later.lt Later.lt_add Later.le Later.le_add Later.ne Later.ne' add_at

def bE (n : Int) : UInt8 := UInt8.ofNat n.toNat
theorem bE_in {n : Int} (h : 0 ≤ n) (h' : n ≤ 12) : ((bE n).toNat : Int) = n := by
  unfold bE
  rw [UInt8.toNat_ofNat']
  omega
def expE (ps : List Int) : E3 := ⟨bE (ps.getD 0 0), bE (ps.getD 1 0), bE (ps.getD 2 0)⟩
def sumI (ps : List Int) : Int := ps.getD 0 0 + ps.getD 1 0 + ps.getD 2 0
def z3 : E3 := ⟨0, 0, 0⟩
def expR (d : Int) (ps : List Int) : E3 × Int :=
  if (ps.length : Int) ≠ d then (z3, 2) else if ps.any (fun n => decide (n < 0)) then (z3, 2) else if ps.any (fun n => decide (12 < n)) then (z3, 3) else if 12 < sumI ps then (z3, 3) else (expE ps, 0)
def listR (d : Int) (ps : List Int) : E3 × Bool :=
  if (ps.length : Int) ≠ d then (z3, false) else if ps.any (fun n => decide (n < 0) || decide (12 < n)) then (z3, false) else (expE ps, decide (sumI ps ≤ 12))
theorem expR1 (a : Int) : expR 1 [a] = if a < 0 then (z3, 2) else if 12 < a then (z3, 3) else (expE [a], 0) := by
  simp only [expR, sumI]
  by_cases h1 : a < 0 <;> by_cases h2 : 12 < a <;> simp [h1, h2]
theorem expR2 (a b : Int) : expR 2 [a, b] = if a < 0 ∨ b < 0 then (z3, 2) else if 12 < a ∨ 12 < b then (z3, 3) else if 12 < a + b then (z3, 3) else (expE [a, b], 0) := by
  simp [expR, sumI]
theorem expR3 (a b c : Int) : expR 3 [a, b, c] = if a < 0 ∨ b < 0 ∨ c < 0 then (z3, 2) else if 12 < a ∨ 12 < b ∨ 12 < c then (z3, 3) else if 12 < a + b + c then (z3, 3) else (expE [a, b, c], 0) := by
  simp [expR, sumI]
theorem listR1 (a : Int) : listR 1 [a] = if a < 0 ∨ 12 < a then (z3, false) else (expE [a], true) := by
  simp only [listR, sumI]
  by_cases h1 : a < 0 <;> by_cases h2 : 12 < a <;> simp [h1, h2]
  omega
theorem listR2 (a b : Int) : listR 2 [a, b] = if (a < 0 ∨ 12 < a) ∨ b < 0 ∨ 12 < b then (z3, false) else (expE [a, b], decide (a + b ≤ 12)) := by
  simp [listR, sumI]
theorem listR3 (a b c : Int) : listR 3 [a, b, c] = if (a < 0 ∨ 12 < a) ∨ (b < 0 ∨ 12 < b) ∨ c < 0 ∨ 12 < c then (z3, false) else (expE [a, b, c], decide (a + b + c ≤ 12)) := by
  simp [listR, sumI]
theorem kI_two {w : World} {A : Option Addr} {a b : Int} (h : kI.C w A 2 [a, b]) : ∃ g o, A = some ⟨g, o, none⟩ ∧ w.cell? ⟨g, o, none⟩ = some (.int .i64 a) ∧ w.cell? ⟨g, o + 1, none⟩ = some (.int .i64 b) := by
  obtain ⟨g, o, rfl, p0⟩ := kI_at h 0 (by omega)
  obtain ⟨g', o', e, p1⟩ := kI_at h 1 (by omega)
  injection e with e
  injection e with e1 e2
  subst e1 e2
  exact ⟨g, o, rfl, by simpa using p0, by simpa using p1⟩
theorem kI_three {w : World} {A : Option Addr} {a b c : Int} (h : kI.C w A 3 [a, b, c]) : ∃ g o, A = some ⟨g, o, none⟩ ∧ w.cell? ⟨g, o, none⟩ = some (.int .i64 a) ∧ w.cell? ⟨g, o + 1, none⟩ = some (.int .i64 b) ∧ w.cell? ⟨g, o + 2, none⟩ = some (.int .i64 c) := by
  obtain ⟨g, o, rfl, p0⟩ := kI_at h 0 (by omega)
  obtain ⟨g', o', e, p1⟩ := kI_at h 1 (by omega)
  obtain ⟨g2, o2, e', p2⟩ := kI_at h 2 (by omega)
  injection e with e
  injection e with e1 e2
  injection e' with e'
  injection e' with e3 e4
  subst e1 e2 e3 e4
  exact ⟨g, o, rfl, by simpa using p0, by simpa using p1, by simpa using p2⟩
theorem expR_len {d : Int} {ps : List Int} (h : ((ps.length : Int) != d) = true) : expR d ps = (z3, 2) := by
  rw [bne_iff_ne] at h
  rw [expR, if_pos h]
theorem listR_len {d : Int} {ps : List Int} (h : ((ps.length : Int) != d) = true) : listR d ps = (z3, false) := by
  rw [bne_iff_ne] at h
  rw [listR, if_pos h]


set_option maxRecDepth 100000 in
set_option maxHeartbeats 1000000 in
theorem expsOf_c (d : Int) (B : Option Addr) (c : Nat) (ps : List Int) (w : World) (hd1 : 1 ≤ d) (hd3 : d ≤ 3) (hD : kI.C w B ps.length ps) (hn : ps.length ≤ 9223372036854775807) :
    Calls Try.prog 161 #[.int .i64 d, .slice B ps.length c] w (Gives (.tuple #[.agg #[.int .u8 ((expR d ps).1.a.toNat : Int), .int .u8 ((expR d ps).1.b.toNat : Int), .int .u8 ((expR d ps).1.c.toNat : Int)], .int .i64 (expR d ps).2]) w) := by
  cases hq : ((ps.length : Int) != d) with
  | true =>
    rw [expR_len hq]
    go_enter Try.func161, Try.ntmps161
    go_wp2
    exact bodyPost_ret (v := .tuple #[.agg #[.int .u8 0, .int .u8 0, .int .u8 0], .int .i64 2]) (by simp [results, Try.results161, go_sem]) rfl (.mk rfl (by repeat (first | (with_reducible assumption) | (with_reducible exact Below.refl _ _) | ((with_reducible refine Below.alloc ?_ ?_ _); rotate_left; (focus (first | omega | (simp; done) | (simp; omega) | (simp [Later.le, Later.le_add, Later.lt, Later.lt_add]; done) | (simp [Later.le, Later.le_add, Later.lt, Later.lt_add]; omega)))) | (with_reducible refine Below.drew ?_) | (with_reducible refine pw_below_drewN ?_ _) | ((with_reducible refine Below.setCell ?_ ?_ _); rotate_left; (focus (first | omega | (simp; done) | (simp; omega) | (simp [Later.le, Later.le_add, Later.lt, Later.lt_add]; done) | (simp [Later.le, Later.le_add, Later.lt, Later.lt_add]; omega)))) | ((with_reducible refine below_hop (by assumption) ?_ ?_); rotate_left; (focus (first | omega | (simp; done) | (simp; omega) | (simp [Later.le, Later.le_add, Later.lt, Later.lt_add]; done) | (simp [Later.le, Later.le_add, Later.lt, Later.lt_add]; omega)))) | ((with_reducible refine bel_later _ ?_ ?_); rotate_left; (focus (first | omega | (simp; done) | (simp; omega) | (simp [Later.le, Later.le_add, Later.lt, Later.lt_add]; done) | (simp [Later.le, Later.le_add, Later.lt, Later.lt_add]; omega)))))))
  | false =>
    have hl : (ps.length : Int) = d := by simpa using hq
    match ps, hD with
    | [], _ => simp at hl; omega
    | [x], hD =>
      obtain ⟨b, o, rfl, p0⟩ := kI_at hD 0 (by simp)
      simp at p0 hl
      subst hl
      have hb := World.block_lt_of_cell? _ _ p0
      go_enter Try.func161, Try.ntmps161
      go_wp2
      all_goals try (refine wp_loop_rounds 4 ?_; rw [rounds_succ]; go_wp2)
      all_goals try (rw [rounds_succ]; go_wp2)
      all_goals try (rw [rounds_succ]; go_wp2)
      all_goals try (refine wp_loop_rounds 4 ?_; rw [rounds_succ]; go_wp2)
      all_goals try (rw [rounds_succ]; go_wp2)
      all_goals first | (rw [expR1, if_pos (by omega)]; exact bodyPost_ret (v := .tuple #[.agg #[.int .u8 0, .int .u8 0, .int .u8 0], .int .i64 2]) (by simp [results, Try.results161, go_sem]) rfl (.mk rfl (by repeat (first | (with_reducible assumption) | (with_reducible exact Below.refl _ _) | ((with_reducible refine Below.alloc ?_ ?_ _); rotate_left; (focus (first | omega | (simp; done) | (simp; omega) | (simp [Later.le, Later.le_add, Later.lt, Later.lt_add]; done) | (simp [Later.le, Later.le_add, Later.lt, Later.lt_add]; omega)))) | (with_reducible refine Below.drew ?_) | (with_reducible refine pw_below_drewN ?_ _) | ((with_reducible refine Below.setCell ?_ ?_ _); rotate_left; (focus (first | omega | (simp; done) | (simp; omega) | (simp [Later.le, Later.le_add, Later.lt, Later.lt_add]; done) | (simp [Later.le, Later.le_add, Later.lt, Later.lt_add]; omega)))) | ((with_reducible refine below_hop (by assumption) ?_ ?_); rotate_left; (focus (first | omega | (simp; done) | (simp; omega) | (simp [Later.le, Later.le_add, Later.lt, Later.lt_add]; done) | (simp [Later.le, Later.le_add, Later.lt, Later.lt_add]; omega)))) | ((with_reducible refine bel_later _ ?_ ?_); rotate_left; (focus (first | omega | (simp; done) | (simp; omega) | (simp [Later.le, Later.le_add, Later.lt, Later.lt_add]; done) | (simp [Later.le, Later.le_add, Later.lt, Later.lt_add]; omega)))))))) | (rw [expR1, if_neg (by omega), if_pos (by omega)]; exact bodyPost_ret (v := .tuple #[.agg #[.int .u8 0, .int .u8 0, .int .u8 0], .int .i64 3]) (by simp [results, Try.results161, go_sem]) rfl (.mk rfl (by repeat (first | (with_reducible assumption) | (with_reducible exact Below.refl _ _) | ((with_reducible refine Below.alloc ?_ ?_ _); rotate_left; (focus (first | omega | (simp; done) | (simp; omega) | (simp [Later.le, Later.le_add, Later.lt, Later.lt_add]; done) | (simp [Later.le, Later.le_add, Later.lt, Later.lt_add]; omega)))) | (with_reducible refine Below.drew ?_) | (with_reducible refine pw_below_drewN ?_ _) | ((with_reducible refine Below.setCell ?_ ?_ _); rotate_left; (focus (first | omega | (simp; done) | (simp; omega) | (simp [Later.le, Later.le_add, Later.lt, Later.lt_add]; done) | (simp [Later.le, Later.le_add, Later.lt, Later.lt_add]; omega)))) | ((with_reducible refine below_hop (by assumption) ?_ ?_); rotate_left; (focus (first | omega | (simp; done) | (simp; omega) | (simp [Later.le, Later.le_add, Later.lt, Later.lt_add]; done) | (simp [Later.le, Later.le_add, Later.lt, Later.lt_add]; omega)))) | ((with_reducible refine bel_later _ ?_ ?_); rotate_left; (focus (first | omega | (simp; done) | (simp; omega) | (simp [Later.le, Later.le_add, Later.lt, Later.lt_add]; done) | (simp [Later.le, Later.le_add, Later.lt, Later.lt_add]; omega)))))))) | (rw [expR1, if_neg (by omega), if_neg (by omega)]; simp only [expE, List.getD_cons_zero, List.getD_cons_succ, List.getD_nil]; rw [bE_in (by omega) (by omega)]; exact bodyPost_ret (v := .tuple #[.agg #[.int .u8 x, .int .u8 0, .int .u8 0], .int .i64 0]) (by simp [results, Try.results161, go_sem]) rfl (.mk rfl (by repeat (first | (with_reducible assumption) | (with_reducible exact Below.refl _ _) | ((with_reducible refine Below.alloc ?_ ?_ _); rotate_left; (focus (first | omega | (simp; done) | (simp; omega) | (simp [Later.le, Later.le_add, Later.lt, Later.lt_add]; done) | (simp [Later.le, Later.le_add, Later.lt, Later.lt_add]; omega)))) | (with_reducible refine Below.drew ?_) | (with_reducible refine pw_below_drewN ?_ _) | ((with_reducible refine Below.setCell ?_ ?_ _); rotate_left; (focus (first | omega | (simp; done) | (simp; omega) | (simp [Later.le, Later.le_add, Later.lt, Later.lt_add]; done) | (simp [Later.le, Later.le_add, Later.lt, Later.lt_add]; omega)))) | ((with_reducible refine below_hop (by assumption) ?_ ?_); rotate_left; (focus (first | omega | (simp; done) | (simp; omega) | (simp [Later.le, Later.le_add, Later.lt, Later.lt_add]; done) | (simp [Later.le, Later.le_add, Later.lt, Later.lt_add]; omega)))) | ((with_reducible refine bel_later _ ?_ ?_); rotate_left; (focus (first | omega | (simp; done) | (simp; omega) | (simp [Later.le, Later.le_add, Later.lt, Later.lt_add]; done) | (simp [Later.le, Later.le_add, Later.lt, Later.lt_add]; omega))))))))
    | [x, y], hD =>
      obtain ⟨b, o, rfl, p0, p1⟩ := kI_two hD
      simp at hl
      subst hl
      have hb := World.block_lt_of_cell? _ _ p0
      go_enter Try.func161, Try.ntmps161
      go_wp2
      all_goals try (refine wp_loop_rounds 4 ?_; rw [rounds_succ]; go_wp2)
      all_goals try (rw [rounds_succ]; go_wp2)
      all_goals try (rw [rounds_succ]; go_wp2)
      all_goals try (refine wp_loop_rounds 4 ?_; rw [rounds_succ]; go_wp2)
      all_goals try (rw [rounds_succ]; go_wp2)
      all_goals try (rw [rounds_succ]; go_wp2)
      all_goals first | (rw [expR2, if_pos (by omega)]; exact bodyPost_ret (v := .tuple #[.agg #[.int .u8 0, .int .u8 0, .int .u8 0], .int .i64 2]) (by simp [results, Try.results161, go_sem]) rfl (.mk rfl (by repeat (first | (with_reducible assumption) | (with_reducible exact Below.refl _ _) | ((with_reducible refine Below.alloc ?_ ?_ _); rotate_left; (focus (first | omega | (simp; done) | (simp; omega) | (simp [Later.le, Later.le_add, Later.lt, Later.lt_add]; done) | (simp [Later.le, Later.le_add, Later.lt, Later.lt_add]; omega)))) | (with_reducible refine Below.drew ?_) | (with_reducible refine pw_below_drewN ?_ _) | ((with_reducible refine Below.setCell ?_ ?_ _); rotate_left; (focus (first | omega | (simp; done) | (simp; omega) | (simp [Later.le, Later.le_add, Later.lt, Later.lt_add]; done) | (simp [Later.le, Later.le_add, Later.lt, Later.lt_add]; omega)))) | ((with_reducible refine below_hop (by assumption) ?_ ?_); rotate_left; (focus (first | omega | (simp; done) | (simp; omega) | (simp [Later.le, Later.le_add, Later.lt, Later.lt_add]; done) | (simp [Later.le, Later.le_add, Later.lt, Later.lt_add]; omega)))) | ((with_reducible refine bel_later _ ?_ ?_); rotate_left; (focus (first | omega | (simp; done) | (simp; omega) | (simp [Later.le, Later.le_add, Later.lt, Later.lt_add]; done) | (simp [Later.le, Later.le_add, Later.lt, Later.lt_add]; omega)))))))) | (rw [expR2, if_neg (by omega), if_pos (by omega)]; exact bodyPost_ret (v := .tuple #[.agg #[.int .u8 0, .int .u8 0, .int .u8 0], .int .i64 3]) (by simp [results, Try.results161, go_sem]) rfl (.mk rfl (by repeat (first | (with_reducible assumption) | (with_reducible exact Below.refl _ _) | ((with_reducible refine Below.alloc ?_ ?_ _); rotate_left; (focus (first | omega | (simp; done) | (simp; omega) | (simp [Later.le, Later.le_add, Later.lt, Later.lt_add]; done) | (simp [Later.le, Later.le_add, Later.lt, Later.lt_add]; omega)))) | (with_reducible refine Below.drew ?_) | (with_reducible refine pw_below_drewN ?_ _) | ((with_reducible refine Below.setCell ?_ ?_ _); rotate_left; (focus (first | omega | (simp; done) | (simp; omega) | (simp [Later.le, Later.le_add, Later.lt, Later.lt_add]; done) | (simp [Later.le, Later.le_add, Later.lt, Later.lt_add]; omega)))) | ((with_reducible refine below_hop (by assumption) ?_ ?_); rotate_left; (focus (first | omega | (simp; done) | (simp; omega) | (simp [Later.le, Later.le_add, Later.lt, Later.lt_add]; done) | (simp [Later.le, Later.le_add, Later.lt, Later.lt_add]; omega)))) | ((with_reducible refine bel_later _ ?_ ?_); rotate_left; (focus (first | omega | (simp; done) | (simp; omega) | (simp [Later.le, Later.le_add, Later.lt, Later.lt_add]; done) | (simp [Later.le, Later.le_add, Later.lt, Later.lt_add]; omega)))))))) | (rw [expR2, if_neg (by omega), if_neg (by omega), if_pos (by omega)]; exact bodyPost_ret (v := .tuple #[.agg #[.int .u8 0, .int .u8 0, .int .u8 0], .int .i64 3]) (by simp [results, Try.results161, go_sem]) rfl (.mk rfl (by repeat (first | (with_reducible assumption) | (with_reducible exact Below.refl _ _) | ((with_reducible refine Below.alloc ?_ ?_ _); rotate_left; (focus (first | omega | (simp; done) | (simp; omega) | (simp [Later.le, Later.le_add, Later.lt, Later.lt_add]; done) | (simp [Later.le, Later.le_add, Later.lt, Later.lt_add]; omega)))) | (with_reducible refine Below.drew ?_) | (with_reducible refine pw_below_drewN ?_ _) | ((with_reducible refine Below.setCell ?_ ?_ _); rotate_left; (focus (first | omega | (simp; done) | (simp; omega) | (simp [Later.le, Later.le_add, Later.lt, Later.lt_add]; done) | (simp [Later.le, Later.le_add, Later.lt, Later.lt_add]; omega)))) | ((with_reducible refine below_hop (by assumption) ?_ ?_); rotate_left; (focus (first | omega | (simp; done) | (simp; omega) | (simp [Later.le, Later.le_add, Later.lt, Later.lt_add]; done) | (simp [Later.le, Later.le_add, Later.lt, Later.lt_add]; omega)))) | ((with_reducible refine bel_later _ ?_ ?_); rotate_left; (focus (first | omega | (simp; done) | (simp; omega) | (simp [Later.le, Later.le_add, Later.lt, Later.lt_add]; done) | (simp [Later.le, Later.le_add, Later.lt, Later.lt_add]; omega)))))))) | (rw [expR2, if_neg (by omega), if_neg (by omega), if_neg (by omega)]; simp only [expE, List.getD_cons_zero, List.getD_cons_succ, List.getD_nil]; rw [bE_in (n := x) (by omega) (by omega), bE_in (n := y) (by omega) (by omega)]; exact bodyPost_ret (v := .tuple #[.agg #[.int .u8 x, .int .u8 y, .int .u8 0], .int .i64 0]) (by simp [results, Try.results161, go_sem]) rfl (.mk rfl (by repeat (first | (with_reducible assumption) | (with_reducible exact Below.refl _ _) | ((with_reducible refine Below.alloc ?_ ?_ _); rotate_left; (focus (first | omega | (simp; done) | (simp; omega) | (simp [Later.le, Later.le_add, Later.lt, Later.lt_add]; done) | (simp [Later.le, Later.le_add, Later.lt, Later.lt_add]; omega)))) | (with_reducible refine Below.drew ?_) | (with_reducible refine pw_below_drewN ?_ _) | ((with_reducible refine Below.setCell ?_ ?_ _); rotate_left; (focus (first | omega | (simp; done) | (simp; omega) | (simp [Later.le, Later.le_add, Later.lt, Later.lt_add]; done) | (simp [Later.le, Later.le_add, Later.lt, Later.lt_add]; omega)))) | ((with_reducible refine below_hop (by assumption) ?_ ?_); rotate_left; (focus (first | omega | (simp; done) | (simp; omega) | (simp [Later.le, Later.le_add, Later.lt, Later.lt_add]; done) | (simp [Later.le, Later.le_add, Later.lt, Later.lt_add]; omega)))) | ((with_reducible refine bel_later _ ?_ ?_); rotate_left; (focus (first | omega | (simp; done) | (simp; omega) | (simp [Later.le, Later.le_add, Later.lt, Later.lt_add]; done) | (simp [Later.le, Later.le_add, Later.lt, Later.lt_add]; omega))))))))
    | [x, y, z], hD =>
      obtain ⟨b, o, rfl, p0, p1, p2⟩ := kI_three hD
      simp at hl
      subst hl
      have hb := World.block_lt_of_cell? _ _ p0
      go_enter Try.func161, Try.ntmps161
      go_wp2
      all_goals try (refine wp_loop_rounds 4 ?_; rw [rounds_succ]; go_wp2)
      all_goals try (rw [rounds_succ]; go_wp2)
      all_goals try (rw [rounds_succ]; go_wp2)
      all_goals try (rw [rounds_succ]; go_wp2)
      all_goals try (refine wp_loop_rounds 4 ?_; rw [rounds_succ]; go_wp2)
      all_goals try (rw [rounds_succ]; go_wp2)
      all_goals try (rw [rounds_succ]; go_wp2)
      all_goals try (rw [rounds_succ]; go_wp2)
      all_goals first | (rw [expR3, if_pos (by omega)]; exact bodyPost_ret (v := .tuple #[.agg #[.int .u8 0, .int .u8 0, .int .u8 0], .int .i64 2]) (by simp [results, Try.results161, go_sem]) rfl (.mk rfl (by repeat (first | (with_reducible assumption) | (with_reducible exact Below.refl _ _) | ((with_reducible refine Below.alloc ?_ ?_ _); rotate_left; (focus (first | omega | (simp; done) | (simp; omega) | (simp [Later.le, Later.le_add, Later.lt, Later.lt_add]; done) | (simp [Later.le, Later.le_add, Later.lt, Later.lt_add]; omega)))) | (with_reducible refine Below.drew ?_) | (with_reducible refine pw_below_drewN ?_ _) | ((with_reducible refine Below.setCell ?_ ?_ _); rotate_left; (focus (first | omega | (simp; done) | (simp; omega) | (simp [Later.le, Later.le_add, Later.lt, Later.lt_add]; done) | (simp [Later.le, Later.le_add, Later.lt, Later.lt_add]; omega)))) | ((with_reducible refine below_hop (by assumption) ?_ ?_); rotate_left; (focus (first | omega | (simp; done) | (simp; omega) | (simp [Later.le, Later.le_add, Later.lt, Later.lt_add]; done) | (simp [Later.le, Later.le_add, Later.lt, Later.lt_add]; omega)))) | ((with_reducible refine bel_later _ ?_ ?_); rotate_left; (focus (first | omega | (simp; done) | (simp; omega) | (simp [Later.le, Later.le_add, Later.lt, Later.lt_add]; done) | (simp [Later.le, Later.le_add, Later.lt, Later.lt_add]; omega)))))))) | (rw [expR3, if_neg (by omega), if_pos (by omega)]; exact bodyPost_ret (v := .tuple #[.agg #[.int .u8 0, .int .u8 0, .int .u8 0], .int .i64 3]) (by simp [results, Try.results161, go_sem]) rfl (.mk rfl (by repeat (first | (with_reducible assumption) | (with_reducible exact Below.refl _ _) | ((with_reducible refine Below.alloc ?_ ?_ _); rotate_left; (focus (first | omega | (simp; done) | (simp; omega) | (simp [Later.le, Later.le_add, Later.lt, Later.lt_add]; done) | (simp [Later.le, Later.le_add, Later.lt, Later.lt_add]; omega)))) | (with_reducible refine Below.drew ?_) | (with_reducible refine pw_below_drewN ?_ _) | ((with_reducible refine Below.setCell ?_ ?_ _); rotate_left; (focus (first | omega | (simp; done) | (simp; omega) | (simp [Later.le, Later.le_add, Later.lt, Later.lt_add]; done) | (simp [Later.le, Later.le_add, Later.lt, Later.lt_add]; omega)))) | ((with_reducible refine below_hop (by assumption) ?_ ?_); rotate_left; (focus (first | omega | (simp; done) | (simp; omega) | (simp [Later.le, Later.le_add, Later.lt, Later.lt_add]; done) | (simp [Later.le, Later.le_add, Later.lt, Later.lt_add]; omega)))) | ((with_reducible refine bel_later _ ?_ ?_); rotate_left; (focus (first | omega | (simp; done) | (simp; omega) | (simp [Later.le, Later.le_add, Later.lt, Later.lt_add]; done) | (simp [Later.le, Later.le_add, Later.lt, Later.lt_add]; omega)))))))) | (rw [expR3, if_neg (by omega), if_neg (by omega), if_pos (by omega)]; exact bodyPost_ret (v := .tuple #[.agg #[.int .u8 0, .int .u8 0, .int .u8 0], .int .i64 3]) (by simp [results, Try.results161, go_sem]) rfl (.mk rfl (by repeat (first | (with_reducible assumption) | (with_reducible exact Below.refl _ _) | ((with_reducible refine Below.alloc ?_ ?_ _); rotate_left; (focus (first | omega | (simp; done) | (simp; omega) | (simp [Later.le, Later.le_add, Later.lt, Later.lt_add]; done) | (simp [Later.le, Later.le_add, Later.lt, Later.lt_add]; omega)))) | (with_reducible refine Below.drew ?_) | (with_reducible refine pw_below_drewN ?_ _) | ((with_reducible refine Below.setCell ?_ ?_ _); rotate_left; (focus (first | omega | (simp; done) | (simp; omega) | (simp [Later.le, Later.le_add, Later.lt, Later.lt_add]; done) | (simp [Later.le, Later.le_add, Later.lt, Later.lt_add]; omega)))) | ((with_reducible refine below_hop (by assumption) ?_ ?_); rotate_left; (focus (first | omega | (simp; done) | (simp; omega) | (simp [Later.le, Later.le_add, Later.lt, Later.lt_add]; done) | (simp [Later.le, Later.le_add, Later.lt, Later.lt_add]; omega)))) | ((with_reducible refine bel_later _ ?_ ?_); rotate_left; (focus (first | omega | (simp; done) | (simp; omega) | (simp [Later.le, Later.le_add, Later.lt, Later.lt_add]; done) | (simp [Later.le, Later.le_add, Later.lt, Later.lt_add]; omega)))))))) | (rw [expR3, if_neg (by omega), if_neg (by omega), if_neg (by omega)]; simp only [expE, List.getD_cons_zero, List.getD_cons_succ, List.getD_nil]; rw [bE_in (n := x) (by omega) (by omega), bE_in (n := y) (by omega) (by omega), bE_in (n := z) (by omega) (by omega)]; exact bodyPost_ret (v := .tuple #[.agg #[.int .u8 x, .int .u8 y, .int .u8 z], .int .i64 0]) (by simp [results, Try.results161, go_sem]) rfl (.mk rfl (by repeat (first | (with_reducible assumption) | (with_reducible exact Below.refl _ _) | ((with_reducible refine Below.alloc ?_ ?_ _); rotate_left; (focus (first | omega | (simp; done) | (simp; omega) | (simp [Later.le, Later.le_add, Later.lt, Later.lt_add]; done) | (simp [Later.le, Later.le_add, Later.lt, Later.lt_add]; omega)))) | (with_reducible refine Below.drew ?_) | (with_reducible refine pw_below_drewN ?_ _) | ((with_reducible refine Below.setCell ?_ ?_ _); rotate_left; (focus (first | omega | (simp; done) | (simp; omega) | (simp [Later.le, Later.le_add, Later.lt, Later.lt_add]; done) | (simp [Later.le, Later.le_add, Later.lt, Later.lt_add]; omega)))) | ((with_reducible refine below_hop (by assumption) ?_ ?_); rotate_left; (focus (first | omega | (simp; done) | (simp; omega) | (simp [Later.le, Later.le_add, Later.lt, Later.lt_add]; done) | (simp [Later.le, Later.le_add, Later.lt, Later.lt_add]; omega)))) | ((with_reducible refine bel_later _ ?_ ?_); rotate_left; (focus (first | omega | (simp; done) | (simp; omega) | (simp [Later.le, Later.le_add, Later.lt, Later.lt_add]; done) | (simp [Later.le, Later.le_add, Later.lt, Later.lt_add]; omega))))))))
    | _ :: _ :: _ :: _ :: _, _ => simp at hl; omega
end Go.Proofs.Ytgieofidogkbaaa
