/- The walks of the reference's list of exponents, and of coefficients of both sides; no condition. -/
import Derived.Test.YtgieofidogkbaaaCoef
set_option linter.unusedVariables false
set_option linter.unusedSimpArgs false
namespace Go.Proofs.Ytgieofidogkbaaa
open Go.RowKit Go.Proofs.YtgieofidogkbaaaW.PrintWords
attribute [local go_sem] Later.cell Later.frozen Later.lt Later.lt_add Later.le Later.le_add Later.ne Later.ne' add_at
/-- What a call that only computes and leaves the world as it was leaves. -/
def Same (v : Value) (w : World) (e : Ending) (w' : World) : Prop := e = .returned v ∧ w' = w
theorem Same.mk {v v' : Value} {w : World} (h : v = v') : Same v' w (.returned v) w := ⟨by rw [h], rfl⟩
theorem call_same {P : Program} {f : FuncId} {args : Array Value} {w : World} {v : Value} {R : Ending → World → Prop}
    (h : Calls P f args w (Same v w)) (k : R (.returned v) w) : Calls P f args w R :=
  h.mono fun _ w' ⟨he, hb⟩ => by subst he; subst hb; exact k
theorem l01In_s (n lo hi : Int) (w : World) : Calls Try.prog 124 #[.int .i64 n, .int .i64 lo, .int .i64 hi] w (Same (.bool (inB n lo hi)) w) := by
  by_cases h : lo ≤ n
  · have hd : decide (lo ≤ n) = true := decide_eq_true h
    go_enter Try.func124, Try.ntmps124
    go_wp2
    go_ret
    exact .mk (by simp [inB, *])
  · have hd : decide (lo ≤ n) = false := decide_eq_false h
    go_enter Try.func124, Try.ntmps124
    go_wp2
    go_ret
    exact .mk (by simp [inB, *])
theorem inB_t {n : Int} (h : inB n 0 12 = true) : 0 ≤ n ∧ n ≤ 12 := by simpa [inB] using h
theorem inB_f {n : Int} (h : inB n 0 12 = false) : n < 0 ∨ 12 < n := by
  simp only [inB, Bool.and_eq_false_iff, decide_eq_false_iff_not] at h
  omega

set_option maxRecDepth 100000 in
set_option maxHeartbeats 1000000 in
theorem l01List_c (d : Int) (B : Option Addr) (c : Nat) (ps : List Int) (w : World) (hd1 : 1 ≤ d) (hd3 : d ≤ 3) (hD : kI.C w B ps.length ps) (hn : ps.length ≤ 9223372036854775807) :
    Calls Try.prog 159 #[.int .i64 d, .slice B ps.length c] w (Gives (.tuple #[.agg #[.int .u8 ((listR d ps).1.a.toNat : Int), .int .u8 ((listR d ps).1.b.toNat : Int), .int .u8 ((listR d ps).1.c.toNat : Int)], .bool (listR d ps).2]) w) := by
  cases hq : ((ps.length : Int) != d) with
  | true =>
    rw [listR_len hq]
    go_enter Try.func159, Try.ntmps159
    go_wp2
    exact bodyPost_ret (v := .tuple #[.agg #[.int .u8 0, .int .u8 0, .int .u8 0], .bool false]) (by simp [results, Try.results159, go_sem]) rfl (.mk rfl (by repeat (first | (with_reducible assumption) | (with_reducible exact Below.refl _ _) | ((with_reducible refine Below.alloc ?_ ?_ _); rotate_left; (focus (first | omega | (simp; done) | (simp; omega) | (simp [Later.le, Later.le_add, Later.lt, Later.lt_add]; done) | (simp [Later.le, Later.le_add, Later.lt, Later.lt_add]; omega)))) | (with_reducible refine Below.drew ?_) | (with_reducible refine pw_below_drewN ?_ _) | ((with_reducible refine Below.setCell ?_ ?_ _); rotate_left; (focus (first | omega | (simp; done) | (simp; omega) | (simp [Later.le, Later.le_add, Later.lt, Later.lt_add]; done) | (simp [Later.le, Later.le_add, Later.lt, Later.lt_add]; omega)))) | ((with_reducible refine below_hop (by assumption) ?_ ?_); rotate_left; (focus (first | omega | (simp; done) | (simp; omega) | (simp [Later.le, Later.le_add, Later.lt, Later.lt_add]; done) | (simp [Later.le, Later.le_add, Later.lt, Later.lt_add]; omega)))) | ((with_reducible refine bel_later _ ?_ ?_); rotate_left; (focus (first | omega | (simp; done) | (simp; omega) | (simp [Later.le, Later.le_add, Later.lt, Later.lt_add]; done) | (simp [Later.le, Later.le_add, Later.lt, Later.lt_add]; omega)))))))
  | false =>
    have hl : (ps.length : Int) = d := by simpa using hq
    match ps, hD with
    | [], _ => simp at hl; omega
    | [x], hD =>
      obtain ⟨b, o, rfl, p0⟩ := kI_at hD 0 (by simp)
      simp at p0 hl
      subst hl
      have hb := World.block_lt_of_cell? _ _ p0
      cases h1 : inB x 0 12 with
      | false =>
        have i1 := inB_f h1
        rw [listR1, if_pos (by omega)]
        go_enter Try.func159, Try.ntmps159
        go_wp2
        all_goals try (refine wp_loop_rounds 4 ?_; rw [rounds_succ]; go_wp2_with ((go_at_call 124; (with_reducible refine call_same (l01In_s _ _ _ _) ?_))))
        exact bodyPost_ret (v := .tuple #[.agg #[.int .u8 0, .int .u8 0, .int .u8 0], .bool false]) (by simp [results, Try.results159, go_sem]) rfl (.mk rfl (by repeat (first | (with_reducible assumption) | (with_reducible exact Below.refl _ _) | ((with_reducible refine Below.alloc ?_ ?_ _); rotate_left; (focus (first | omega | (simp; done) | (simp; omega) | (simp [Later.le, Later.le_add, Later.lt, Later.lt_add]; done) | (simp [Later.le, Later.le_add, Later.lt, Later.lt_add]; omega)))) | (with_reducible refine Below.drew ?_) | (with_reducible refine pw_below_drewN ?_ _) | ((with_reducible refine Below.setCell ?_ ?_ _); rotate_left; (focus (first | omega | (simp; done) | (simp; omega) | (simp [Later.le, Later.le_add, Later.lt, Later.lt_add]; done) | (simp [Later.le, Later.le_add, Later.lt, Later.lt_add]; omega)))) | ((with_reducible refine below_hop (by assumption) ?_ ?_); rotate_left; (focus (first | omega | (simp; done) | (simp; omega) | (simp [Later.le, Later.le_add, Later.lt, Later.lt_add]; done) | (simp [Later.le, Later.le_add, Later.lt, Later.lt_add]; omega)))) | ((with_reducible refine bel_later _ ?_ ?_); rotate_left; (focus (first | omega | (simp; done) | (simp; omega) | (simp [Later.le, Later.le_add, Later.lt, Later.lt_add]; done) | (simp [Later.le, Later.le_add, Later.lt, Later.lt_add]; omega)))))))
      | true =>
        obtain ⟨i1, i1'⟩ := inB_t h1
        rw [listR1, if_neg (by omega)]
        simp only [expE, List.getD_cons_zero, List.getD_cons_succ, List.getD_nil]
        rw [bE_in (n := x) (by omega) (by omega)]
        go_enter Try.func159, Try.ntmps159
        go_wp2
        all_goals try (refine wp_loop_rounds 4 ?_; rw [rounds_succ]; go_wp2_with ((go_at_call 124; (with_reducible refine call_same (l01In_s _ _ _ _) ?_))))
        all_goals try (rw [rounds_succ]; go_wp2_with ((go_at_call 124; (with_reducible refine call_same (l01In_s _ _ _ _) ?_))))
        exact bodyPost_ret (v := .tuple #[.agg #[.int .u8 x, .int .u8 0, .int .u8 0], .bool true]) (by simp [results, Try.results159, go_sem]) rfl (.mk rfl (by repeat (first | (with_reducible assumption) | (with_reducible exact Below.refl _ _) | ((with_reducible refine Below.alloc ?_ ?_ _); rotate_left; (focus (first | omega | (simp; done) | (simp; omega) | (simp [Later.le, Later.le_add, Later.lt, Later.lt_add]; done) | (simp [Later.le, Later.le_add, Later.lt, Later.lt_add]; omega)))) | (with_reducible refine Below.drew ?_) | (with_reducible refine pw_below_drewN ?_ _) | ((with_reducible refine Below.setCell ?_ ?_ _); rotate_left; (focus (first | omega | (simp; done) | (simp; omega) | (simp [Later.le, Later.le_add, Later.lt, Later.lt_add]; done) | (simp [Later.le, Later.le_add, Later.lt, Later.lt_add]; omega)))) | ((with_reducible refine below_hop (by assumption) ?_ ?_); rotate_left; (focus (first | omega | (simp; done) | (simp; omega) | (simp [Later.le, Later.le_add, Later.lt, Later.lt_add]; done) | (simp [Later.le, Later.le_add, Later.lt, Later.lt_add]; omega)))) | ((with_reducible refine bel_later _ ?_ ?_); rotate_left; (focus (first | omega | (simp; done) | (simp; omega) | (simp [Later.le, Later.le_add, Later.lt, Later.lt_add]; done) | (simp [Later.le, Later.le_add, Later.lt, Later.lt_add]; omega)))))))
    | [x, y], hD =>
      obtain ⟨b, o, rfl, p0, p1⟩ := kI_two hD
      simp at hl
      subst hl
      have hb := World.block_lt_of_cell? _ _ p0
      cases h1 : inB x 0 12 with
      | false =>
        have i1 := inB_f h1
        rw [listR2, if_pos (by omega)]
        go_enter Try.func159, Try.ntmps159
        go_wp2
        all_goals try (refine wp_loop_rounds 4 ?_; rw [rounds_succ]; go_wp2_with ((go_at_call 124; (with_reducible refine call_same (l01In_s _ _ _ _) ?_))))
        exact bodyPost_ret (v := .tuple #[.agg #[.int .u8 0, .int .u8 0, .int .u8 0], .bool false]) (by simp [results, Try.results159, go_sem]) rfl (.mk rfl (by repeat (first | (with_reducible assumption) | (with_reducible exact Below.refl _ _) | ((with_reducible refine Below.alloc ?_ ?_ _); rotate_left; (focus (first | omega | (simp; done) | (simp; omega) | (simp [Later.le, Later.le_add, Later.lt, Later.lt_add]; done) | (simp [Later.le, Later.le_add, Later.lt, Later.lt_add]; omega)))) | (with_reducible refine Below.drew ?_) | (with_reducible refine pw_below_drewN ?_ _) | ((with_reducible refine Below.setCell ?_ ?_ _); rotate_left; (focus (first | omega | (simp; done) | (simp; omega) | (simp [Later.le, Later.le_add, Later.lt, Later.lt_add]; done) | (simp [Later.le, Later.le_add, Later.lt, Later.lt_add]; omega)))) | ((with_reducible refine below_hop (by assumption) ?_ ?_); rotate_left; (focus (first | omega | (simp; done) | (simp; omega) | (simp [Later.le, Later.le_add, Later.lt, Later.lt_add]; done) | (simp [Later.le, Later.le_add, Later.lt, Later.lt_add]; omega)))) | ((with_reducible refine bel_later _ ?_ ?_); rotate_left; (focus (first | omega | (simp; done) | (simp; omega) | (simp [Later.le, Later.le_add, Later.lt, Later.lt_add]; done) | (simp [Later.le, Later.le_add, Later.lt, Later.lt_add]; omega)))))))
      | true =>
        obtain ⟨i1, i1'⟩ := inB_t h1
        cases h2 : inB y 0 12 with
        | false =>
          have i2 := inB_f h2
          rw [listR2, if_pos (by omega)]
          go_enter Try.func159, Try.ntmps159
          go_wp2
          all_goals try (refine wp_loop_rounds 4 ?_; rw [rounds_succ]; go_wp2_with ((go_at_call 124; (with_reducible refine call_same (l01In_s _ _ _ _) ?_))))
          all_goals try (rw [rounds_succ]; go_wp2_with ((go_at_call 124; (with_reducible refine call_same (l01In_s _ _ _ _) ?_))))
          exact bodyPost_ret (v := .tuple #[.agg #[.int .u8 0, .int .u8 0, .int .u8 0], .bool false]) (by simp [results, Try.results159, go_sem]) rfl (.mk rfl (by repeat (first | (with_reducible assumption) | (with_reducible exact Below.refl _ _) | ((with_reducible refine Below.alloc ?_ ?_ _); rotate_left; (focus (first | omega | (simp; done) | (simp; omega) | (simp [Later.le, Later.le_add, Later.lt, Later.lt_add]; done) | (simp [Later.le, Later.le_add, Later.lt, Later.lt_add]; omega)))) | (with_reducible refine Below.drew ?_) | (with_reducible refine pw_below_drewN ?_ _) | ((with_reducible refine Below.setCell ?_ ?_ _); rotate_left; (focus (first | omega | (simp; done) | (simp; omega) | (simp [Later.le, Later.le_add, Later.lt, Later.lt_add]; done) | (simp [Later.le, Later.le_add, Later.lt, Later.lt_add]; omega)))) | ((with_reducible refine below_hop (by assumption) ?_ ?_); rotate_left; (focus (first | omega | (simp; done) | (simp; omega) | (simp [Later.le, Later.le_add, Later.lt, Later.lt_add]; done) | (simp [Later.le, Later.le_add, Later.lt, Later.lt_add]; omega)))) | ((with_reducible refine bel_later _ ?_ ?_); rotate_left; (focus (first | omega | (simp; done) | (simp; omega) | (simp [Later.le, Later.le_add, Later.lt, Later.lt_add]; done) | (simp [Later.le, Later.le_add, Later.lt, Later.lt_add]; omega)))))))
        | true =>
          obtain ⟨i2, i2'⟩ := inB_t h2
          rw [listR2, if_neg (by omega)]
          simp only [expE, List.getD_cons_zero, List.getD_cons_succ, List.getD_nil]
          rw [bE_in (n := x) (by omega) (by omega), bE_in (n := y) (by omega) (by omega)]
          go_enter Try.func159, Try.ntmps159
          go_wp2
          all_goals try (refine wp_loop_rounds 4 ?_; rw [rounds_succ]; go_wp2_with ((go_at_call 124; (with_reducible refine call_same (l01In_s _ _ _ _) ?_))))
          all_goals try (rw [rounds_succ]; go_wp2_with ((go_at_call 124; (with_reducible refine call_same (l01In_s _ _ _ _) ?_))))
          all_goals try (rw [rounds_succ]; go_wp2_with ((go_at_call 124; (with_reducible refine call_same (l01In_s _ _ _ _) ?_))))
          exact bodyPost_ret (v := .tuple #[.agg #[.int .u8 x, .int .u8 y, .int .u8 0], .bool (decide (x + y ≤ 12))]) (by simp [results, Try.results159, go_sem]) rfl (.mk rfl (by repeat (first | (with_reducible assumption) | (with_reducible exact Below.refl _ _) | ((with_reducible refine Below.alloc ?_ ?_ _); rotate_left; (focus (first | omega | (simp; done) | (simp; omega) | (simp [Later.le, Later.le_add, Later.lt, Later.lt_add]; done) | (simp [Later.le, Later.le_add, Later.lt, Later.lt_add]; omega)))) | (with_reducible refine Below.drew ?_) | (with_reducible refine pw_below_drewN ?_ _) | ((with_reducible refine Below.setCell ?_ ?_ _); rotate_left; (focus (first | omega | (simp; done) | (simp; omega) | (simp [Later.le, Later.le_add, Later.lt, Later.lt_add]; done) | (simp [Later.le, Later.le_add, Later.lt, Later.lt_add]; omega)))) | ((with_reducible refine below_hop (by assumption) ?_ ?_); rotate_left; (focus (first | omega | (simp; done) | (simp; omega) | (simp [Later.le, Later.le_add, Later.lt, Later.lt_add]; done) | (simp [Later.le, Later.le_add, Later.lt, Later.lt_add]; omega)))) | ((with_reducible refine bel_later _ ?_ ?_); rotate_left; (focus (first | omega | (simp; done) | (simp; omega) | (simp [Later.le, Later.le_add, Later.lt, Later.lt_add]; done) | (simp [Later.le, Later.le_add, Later.lt, Later.lt_add]; omega)))))))
    | [x, y, z], hD =>
      obtain ⟨b, o, rfl, p0, p1, p2⟩ := kI_three hD
      simp at hl
      subst hl
      have hb := World.block_lt_of_cell? _ _ p0
      cases h1 : inB x 0 12 with
      | false =>
        have i1 := inB_f h1
        rw [listR3, if_pos (by omega)]
        go_enter Try.func159, Try.ntmps159
        go_wp2
        all_goals try (refine wp_loop_rounds 4 ?_; rw [rounds_succ]; go_wp2_with ((go_at_call 124; (with_reducible refine call_same (l01In_s _ _ _ _) ?_))))
        exact bodyPost_ret (v := .tuple #[.agg #[.int .u8 0, .int .u8 0, .int .u8 0], .bool false]) (by simp [results, Try.results159, go_sem]) rfl (.mk rfl (by repeat (first | (with_reducible assumption) | (with_reducible exact Below.refl _ _) | ((with_reducible refine Below.alloc ?_ ?_ _); rotate_left; (focus (first | omega | (simp; done) | (simp; omega) | (simp [Later.le, Later.le_add, Later.lt, Later.lt_add]; done) | (simp [Later.le, Later.le_add, Later.lt, Later.lt_add]; omega)))) | (with_reducible refine Below.drew ?_) | (with_reducible refine pw_below_drewN ?_ _) | ((with_reducible refine Below.setCell ?_ ?_ _); rotate_left; (focus (first | omega | (simp; done) | (simp; omega) | (simp [Later.le, Later.le_add, Later.lt, Later.lt_add]; done) | (simp [Later.le, Later.le_add, Later.lt, Later.lt_add]; omega)))) | ((with_reducible refine below_hop (by assumption) ?_ ?_); rotate_left; (focus (first | omega | (simp; done) | (simp; omega) | (simp [Later.le, Later.le_add, Later.lt, Later.lt_add]; done) | (simp [Later.le, Later.le_add, Later.lt, Later.lt_add]; omega)))) | ((with_reducible refine bel_later _ ?_ ?_); rotate_left; (focus (first | omega | (simp; done) | (simp; omega) | (simp [Later.le, Later.le_add, Later.lt, Later.lt_add]; done) | (simp [Later.le, Later.le_add, Later.lt, Later.lt_add]; omega)))))))
      | true =>
        obtain ⟨i1, i1'⟩ := inB_t h1
        cases h2 : inB y 0 12 with
        | false =>
          have i2 := inB_f h2
          rw [listR3, if_pos (by omega)]
          go_enter Try.func159, Try.ntmps159
          go_wp2
          all_goals try (refine wp_loop_rounds 4 ?_; rw [rounds_succ]; go_wp2_with ((go_at_call 124; (with_reducible refine call_same (l01In_s _ _ _ _) ?_))))
          all_goals try (rw [rounds_succ]; go_wp2_with ((go_at_call 124; (with_reducible refine call_same (l01In_s _ _ _ _) ?_))))
          exact bodyPost_ret (v := .tuple #[.agg #[.int .u8 0, .int .u8 0, .int .u8 0], .bool false]) (by simp [results, Try.results159, go_sem]) rfl (.mk rfl (by repeat (first | (with_reducible assumption) | (with_reducible exact Below.refl _ _) | ((with_reducible refine Below.alloc ?_ ?_ _); rotate_left; (focus (first | omega | (simp; done) | (simp; omega) | (simp [Later.le, Later.le_add, Later.lt, Later.lt_add]; done) | (simp [Later.le, Later.le_add, Later.lt, Later.lt_add]; omega)))) | (with_reducible refine Below.drew ?_) | (with_reducible refine pw_below_drewN ?_ _) | ((with_reducible refine Below.setCell ?_ ?_ _); rotate_left; (focus (first | omega | (simp; done) | (simp; omega) | (simp [Later.le, Later.le_add, Later.lt, Later.lt_add]; done) | (simp [Later.le, Later.le_add, Later.lt, Later.lt_add]; omega)))) | ((with_reducible refine below_hop (by assumption) ?_ ?_); rotate_left; (focus (first | omega | (simp; done) | (simp; omega) | (simp [Later.le, Later.le_add, Later.lt, Later.lt_add]; done) | (simp [Later.le, Later.le_add, Later.lt, Later.lt_add]; omega)))) | ((with_reducible refine bel_later _ ?_ ?_); rotate_left; (focus (first | omega | (simp; done) | (simp; omega) | (simp [Later.le, Later.le_add, Later.lt, Later.lt_add]; done) | (simp [Later.le, Later.le_add, Later.lt, Later.lt_add]; omega)))))))
        | true =>
          obtain ⟨i2, i2'⟩ := inB_t h2
          cases h3 : inB z 0 12 with
          | false =>
            have i3 := inB_f h3
            rw [listR3, if_pos (by omega)]
            go_enter Try.func159, Try.ntmps159
            go_wp2
            all_goals try (refine wp_loop_rounds 4 ?_; rw [rounds_succ]; go_wp2_with ((go_at_call 124; (with_reducible refine call_same (l01In_s _ _ _ _) ?_))))
            all_goals try (rw [rounds_succ]; go_wp2_with ((go_at_call 124; (with_reducible refine call_same (l01In_s _ _ _ _) ?_))))
            all_goals try (rw [rounds_succ]; go_wp2_with ((go_at_call 124; (with_reducible refine call_same (l01In_s _ _ _ _) ?_))))
            exact bodyPost_ret (v := .tuple #[.agg #[.int .u8 0, .int .u8 0, .int .u8 0], .bool false]) (by simp [results, Try.results159, go_sem]) rfl (.mk rfl (by repeat (first | (with_reducible assumption) | (with_reducible exact Below.refl _ _) | ((with_reducible refine Below.alloc ?_ ?_ _); rotate_left; (focus (first | omega | (simp; done) | (simp; omega) | (simp [Later.le, Later.le_add, Later.lt, Later.lt_add]; done) | (simp [Later.le, Later.le_add, Later.lt, Later.lt_add]; omega)))) | (with_reducible refine Below.drew ?_) | (with_reducible refine pw_below_drewN ?_ _) | ((with_reducible refine Below.setCell ?_ ?_ _); rotate_left; (focus (first | omega | (simp; done) | (simp; omega) | (simp [Later.le, Later.le_add, Later.lt, Later.lt_add]; done) | (simp [Later.le, Later.le_add, Later.lt, Later.lt_add]; omega)))) | ((with_reducible refine below_hop (by assumption) ?_ ?_); rotate_left; (focus (first | omega | (simp; done) | (simp; omega) | (simp [Later.le, Later.le_add, Later.lt, Later.lt_add]; done) | (simp [Later.le, Later.le_add, Later.lt, Later.lt_add]; omega)))) | ((with_reducible refine bel_later _ ?_ ?_); rotate_left; (focus (first | omega | (simp; done) | (simp; omega) | (simp [Later.le, Later.le_add, Later.lt, Later.lt_add]; done) | (simp [Later.le, Later.le_add, Later.lt, Later.lt_add]; omega)))))))
          | true =>
            obtain ⟨i3, i3'⟩ := inB_t h3
            rw [listR3, if_neg (by omega)]
            simp only [expE, List.getD_cons_zero, List.getD_cons_succ, List.getD_nil]
            rw [bE_in (n := x) (by omega) (by omega), bE_in (n := y) (by omega) (by omega), bE_in (n := z) (by omega) (by omega)]
            go_enter Try.func159, Try.ntmps159
            go_wp2
            all_goals try (refine wp_loop_rounds 4 ?_; rw [rounds_succ]; go_wp2_with ((go_at_call 124; (with_reducible refine call_same (l01In_s _ _ _ _) ?_))))
            all_goals try (rw [rounds_succ]; go_wp2_with ((go_at_call 124; (with_reducible refine call_same (l01In_s _ _ _ _) ?_))))
            all_goals try (rw [rounds_succ]; go_wp2_with ((go_at_call 124; (with_reducible refine call_same (l01In_s _ _ _ _) ?_))))
            all_goals try (rw [rounds_succ]; go_wp2_with ((go_at_call 124; (with_reducible refine call_same (l01In_s _ _ _ _) ?_))))
            exact bodyPost_ret (v := .tuple #[.agg #[.int .u8 x, .int .u8 y, .int .u8 z], .bool (decide (x + y + z ≤ 12))]) (by simp [results, Try.results159, go_sem]) rfl (.mk rfl (by repeat (first | (with_reducible assumption) | (with_reducible exact Below.refl _ _) | ((with_reducible refine Below.alloc ?_ ?_ _); rotate_left; (focus (first | omega | (simp; done) | (simp; omega) | (simp [Later.le, Later.le_add, Later.lt, Later.lt_add]; done) | (simp [Later.le, Later.le_add, Later.lt, Later.lt_add]; omega)))) | (with_reducible refine Below.drew ?_) | (with_reducible refine pw_below_drewN ?_ _) | ((with_reducible refine Below.setCell ?_ ?_ _); rotate_left; (focus (first | omega | (simp; done) | (simp; omega) | (simp [Later.le, Later.le_add, Later.lt, Later.lt_add]; done) | (simp [Later.le, Later.le_add, Later.lt, Later.lt_add]; omega)))) | ((with_reducible refine below_hop (by assumption) ?_ ?_); rotate_left; (focus (first | omega | (simp; done) | (simp; omega) | (simp [Later.le, Later.le_add, Later.lt, Later.lt_add]; done) | (simp [Later.le, Later.le_add, Later.lt, Later.lt_add]; omega)))) | ((with_reducible refine bel_later _ ?_ ?_); rotate_left; (focus (first | omega | (simp; done) | (simp; omega) | (simp [Later.le, Later.le_add, Later.lt, Later.lt_add]; done) | (simp [Later.le, Later.le_add, Later.lt, Later.lt_add]; omega)))))))
    | _ :: _ :: _ :: _ :: _, _ => simp at hl; omega

/-- The coefficient of a monomial. -/
def coefL : List T4 → E3 → Int
  | [], _ => 0
  | t :: r, e => if t.e = e then t.v else coefL r e
theorem coefL_hit (e : E3) : ∀ (ts : List T4) (i : Nat), i < ts.length → (∀ j, j < i → (ts.getD j z4).e ≠ e) → (ts.getD i z4).e = e → coefL ts e = (ts.getD i z4).v
  | [], i, h, _, _ => by simp at h
  | t :: r, 0, _, _, h => by
    have h : t.e = e := h
    rw [coefL, if_pos h]
    rfl
  | t :: r, i + 1, hi, h, he => by
    have h0 : t.e ≠ e := h 0 (by omega)
    rw [coefL, if_neg h0]
    exact coefL_hit e r i (by simpa using hi) (fun j hj => h (j + 1) (by omega)) he
theorem coefL_miss (e : E3) : ∀ (ts : List T4), (∀ j, j < ts.length → (ts.getD j z4).e ≠ e) → coefL ts e = 0
  | [], _ => rfl
  | t :: r, h => by
    have h0 : t.e ≠ e := h 0 (by simp)
    rw [coefL, if_neg h0]
    exact coefL_miss e r (fun j hj => h (j + 1) (by simpa using hj))
theorem ne_step {ts : List T4} {e : E3} {i : Nat} (h : ∀ j, j < i → (ts.getD j z4).e ≠ e) (h1 : (ts.getD i z4).e ≠ e) : ∀ j, j < i + 1 → (ts.getD j z4).e ≠ e := by
  intro j hj
  rcases Nat.lt_succ_iff_lt_or_eq.1 hj with g | g
  · exact h j g
  · rw [g]
    exact h1
end Go.Proofs.Ytgieofidogkbaaa
