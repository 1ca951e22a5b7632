/- The walks of coefficients of both sides; no condition. -/
import Derived.Test.YtgieofidogkbaaaEqs
set_option linter.unusedVariables false
set_option linter.unusedSimpArgs false
namespace Go.Proofs.Ytgieofidogkbaaa
open Go.RowKit Go.Proofs.YtgieofidogkbaaaW.PrintWords
attribute [local go_sem] Later.cell Later.frozen Later.lt Later.lt_add Later.le Later.le_add Later.ne Later.ne' add_at
attribute [local go_sem 2000] run_eqE run_neE guardE

set_option maxRecDepth 100000 in
theorem coefficient_c (p d : Int) (A : Option Addr) (c : Nat) (ts : List T4) (e : E3) (w : World) (hC : kT.C w A ts.length ts) (hn : ts.length ≤ 9223372036854775807) :
    Calls Try.prog 162 #[.agg #[.int .i64 p, .int .i64 d, .slice A ts.length c], .agg #[.int .u8 (e.a.toNat : Int), .int .u8 (e.b.toNat : Int), .int .u8 (e.c.toNat : Int)]] w (Gives (.int .i64 (coefL ts e)) w) := by
  go_enter Try.func162, Try.ntmps162
  go_wp2
  go_loopg [10] ts.length (fun k v w' => ∃ (i : Nat) (y : Later ((w.alloc (.cells #[.int .i64 p, .int .i64 d, .slice A ts.length c] 41)).alloc (.cells #[.int .u8 (e.a.toNat : Int), .int .u8 (e.b.toNat : Int), .int .u8 (e.c.toNat : Int)] 121))), i + k = ts.length ∧ v = .int .i64 i ∧ (∀ j, j < i → (ts.getD j z4).e ≠ e) ∧ w' = y.W)
  case atStart => exact ⟨0, ⟨_, Below.refl _ _⟩, by omega, rfl, fun j hj => by omega, rfl⟩
  case round =>
    obtain ⟨i, y, hik, rfl, hs, rfl⟩ := hrel
    have HIK := Lib.hid hik
    have HS := Lib.hid hs
    clear hik hs
    have e0 : y.W.cell? ⟨w.heap.size + 1, 0, none⟩ = some (.int .u8 (e.a.toNat : Int)) := y.keep (by simp)
    have e1 : y.W.cell? ⟨w.heap.size + 1, 1, none⟩ = some (.int .u8 (e.b.toNat : Int)) := y.keep (by simp)
    have e2 : y.W.cell? ⟨w.heap.size + 1, 2, none⟩ = some (.int .u8 (e.c.toNat : Int)) := y.keep (by simp)
    have hz := World.block_lt_of_cell? _ _ e0
    by_cases hlt : i < ts.length
    · obtain ⟨b, o, hA, q0, q1, q2, q3⟩ := kT_at hC i hlt z4
      subst hA
      have q0 := y.keep (cell_alloc (cell_alloc q0 _) _)
      have q1 := y.keep (cell_alloc (cell_alloc q1 _) _)
      have q2 := y.keep (cell_alloc (cell_alloc q2 _) _)
      have q3 := y.keep (cell_alloc (cell_alloc q3 _) _)
      have hi0 : (0 : Int) ≤ i := by omega
      have hi1 : (i : Int) < ts.length := by omega
      have hin : ((i : Int)).toNat = i := by omega
      generalize ht : ts.getD i z4 = t at *
      have HT := Lib.hid ht
      clear ht
      cases he : (t.e == e) with
      | true =>
        have he' : t.e = e := eq_of_beq he
        have hr : coefL ts e = t.v := by
          rw [← HT.out]
          exact coefL_hit e ts i hlt HS.out (by rw [HT.out]; exact he')
        rw [hr]
        go_wp2
        go_ret
        exact .mk rfl (by repeat (first | (with_reducible assumption) | (with_reducible exact Below.refl _ _) | ((with_reducible refine Below.alloc ?_ ?_ _); rotate_left; (focus (first | omega | (simp; done) | (simp; omega) | (simp [Later.le, Later.le_add, Later.lt, Later.lt_add]; done) | (simp [Later.le, Later.le_add, Later.lt, Later.lt_add]; omega)))) | (with_reducible refine Below.drew ?_) | (with_reducible refine pw_below_drewN ?_ _) | ((with_reducible refine Below.setCell ?_ ?_ _); rotate_left; (focus (first | omega | (simp; done) | (simp; omega) | (simp [Later.le, Later.le_add, Later.lt, Later.lt_add]; done) | (simp [Later.le, Later.le_add, Later.lt, Later.lt_add]; omega)))) | ((with_reducible refine below_hop (by assumption) ?_ ?_); rotate_left; (focus (first | omega | (simp; done) | (simp; omega) | (simp [Later.le, Later.le_add, Later.lt, Later.lt_add]; done) | (simp [Later.le, Later.le_add, Later.lt, Later.lt_add]; omega)))) | ((with_reducible refine bel_later _ ?_ ?_); rotate_left; (focus (first | omega | (simp; done) | (simp; omega) | (simp [Later.le, Later.le_add, Later.lt, Later.lt_add]; done) | (simp [Later.le, Later.le_add, Later.lt, Later.lt_add]; omega))))))
      | false =>
        have he' : t.e ≠ e := by simpa using he
        have HE := Lib.hid he'
        clear he'
        go_wp2
        go_roundg (gk - 1)
        case measure => have := HIK.out; omega
        case rel =>
          refine ⟨i + 1, ⟨y.W.alloc (.cells #[.int .u8 (t.e.a.toNat : Int), .int .u8 (t.e.b.toNat : Int), .int .u8 (t.e.c.toNat : Int), .int .i64 t.v] 127), ?hb⟩, by have := HIK.out; omega, by go_num, ne_step HS.out (by rw [HT.out]; exact HE.out), rfl⟩
          case hb => exact (by repeat (first | (with_reducible assumption) | (with_reducible exact Below.refl _ _) | ((with_reducible refine Below.alloc ?_ ?_ _); rotate_left; (focus (first | omega | (simp; done) | (simp; omega) | (simp [Later.le, Later.le_add, Later.lt, Later.lt_add]; done) | (simp [Later.le, Later.le_add, Later.lt, Later.lt_add]; omega)))) | (with_reducible refine Below.drew ?_) | (with_reducible refine pw_below_drewN ?_ _) | ((with_reducible refine Below.setCell ?_ ?_ _); rotate_left; (focus (first | omega | (simp; done) | (simp; omega) | (simp [Later.le, Later.le_add, Later.lt, Later.lt_add]; done) | (simp [Later.le, Later.le_add, Later.lt, Later.lt_add]; omega)))) | ((with_reducible refine below_hop (by assumption) ?_ ?_); rotate_left; (focus (first | omega | (simp; done) | (simp; omega) | (simp [Later.le, Later.le_add, Later.lt, Later.lt_add]; done) | (simp [Later.le, Later.le_add, Later.lt, Later.lt_add]; omega)))) | ((with_reducible refine bel_later _ ?_ ?_); rotate_left; (focus (first | omega | (simp; done) | (simp; omega) | (simp [Later.le, Later.le_add, Later.lt, Later.lt_add]; done) | (simp [Later.le, Later.le_add, Later.lt, Later.lt_add]; omega))))))
    · have hr : coefL ts e = 0 := coefL_miss e ts (fun j hj => HS.out j (by have := HIK.out; omega))
      rw [hr]
      go_wp2
      go_ret
      exact .mk rfl (by repeat (first | (with_reducible assumption) | (with_reducible exact Below.refl _ _) | ((with_reducible refine Below.alloc ?_ ?_ _); rotate_left; (focus (first | omega | (simp; done) | (simp; omega) | (simp [Later.le, Later.le_add, Later.lt, Later.lt_add]; done) | (simp [Later.le, Later.le_add, Later.lt, Later.lt_add]; omega)))) | (with_reducible refine Below.drew ?_) | (with_reducible refine pw_below_drewN ?_ _) | ((with_reducible refine Below.setCell ?_ ?_ _); rotate_left; (focus (first | omega | (simp; done) | (simp; omega) | (simp [Later.le, Later.le_add, Later.lt, Later.lt_add]; done) | (simp [Later.le, Later.le_add, Later.lt, Later.lt_add]; omega)))) | ((with_reducible refine below_hop (by assumption) ?_ ?_); rotate_left; (focus (first | omega | (simp; done) | (simp; omega) | (simp [Later.le, Later.le_add, Later.lt, Later.lt_add]; done) | (simp [Later.le, Later.le_add, Later.lt, Later.lt_add]; omega)))) | ((with_reducible refine bel_later _ ?_ ?_); rotate_left; (focus (first | omega | (simp; done) | (simp; omega) | (simp [Later.le, Later.le_add, Later.lt, Later.lt_add]; done) | (simp [Later.le, Later.le_add, Later.lt, Later.lt_add]; omega))))))

set_option maxRecDepth 100000 in
theorem l01At_c (p d : Int) (A : Option Addr) (c : Nat) (ts : List T4) (e : E3) (w : World) (hC : kT.C w A ts.length ts) (hn : ts.length ≤ 9223372036854775807) :
    Calls Try.prog 160 #[.agg #[.int .i64 p, .int .i64 d, .slice A ts.length c], .agg #[.int .u8 (e.a.toNat : Int), .int .u8 (e.b.toNat : Int), .int .u8 (e.c.toNat : Int)]] w (Gives (.int .i64 (coefL ts e)) w) := by
  go_enter Try.func160, Try.ntmps160
  go_wp2
  go_loopg [5] ts.length (fun k v w' => ∃ (i : Nat) (y : Later ((w.alloc (.cells #[.int .i64 p, .int .i64 d, .slice A ts.length c] 41)).alloc (.cells #[.int .u8 (e.a.toNat : Int), .int .u8 (e.b.toNat : Int), .int .u8 (e.c.toNat : Int)] 121))), i + k = ts.length ∧ v = .int .i64 i ∧ (∀ j, j < i → (ts.getD j z4).e ≠ e) ∧ w' = y.W)
  case atStart => exact ⟨0, ⟨_, Below.refl _ _⟩, by omega, rfl, fun j hj => by omega, rfl⟩
  case round =>
    obtain ⟨i, y, hik, rfl, hs, rfl⟩ := hrel
    have HIK := Lib.hid hik
    have HS := Lib.hid hs
    clear hik hs
    have e0 : y.W.cell? ⟨w.heap.size + 1, 0, none⟩ = some (.int .u8 (e.a.toNat : Int)) := y.keep (by simp)
    have e1 : y.W.cell? ⟨w.heap.size + 1, 1, none⟩ = some (.int .u8 (e.b.toNat : Int)) := y.keep (by simp)
    have e2 : y.W.cell? ⟨w.heap.size + 1, 2, none⟩ = some (.int .u8 (e.c.toNat : Int)) := y.keep (by simp)
    have g2 : y.W.cell? ⟨w.heap.size, 2, none⟩ = some (.slice A ts.length c) := y.keep (by simp)
    have hz := World.block_lt_of_cell? _ _ e0
    by_cases hlt : i < ts.length
    · obtain ⟨b, o, hA, q0, q1, q2, q3⟩ := kT_at hC i hlt z4
      subst hA
      have hb := World.block_lt_of_cell? _ _ q0
      have q0 := cell_alloc (cell_alloc q0 (.cells #[.int .i64 p, .int .i64 d, .slice (some ⟨b, o, none⟩) ts.length c] 41)) (.cells #[.int .u8 (e.a.toNat : Int), .int .u8 (e.b.toNat : Int), .int .u8 (e.c.toNat : Int)] 121)
      have q1 := cell_alloc (cell_alloc q1 (.cells #[.int .i64 p, .int .i64 d, .slice (some ⟨b, o, none⟩) ts.length c] 41)) (.cells #[.int .u8 (e.a.toNat : Int), .int .u8 (e.b.toNat : Int), .int .u8 (e.c.toNat : Int)] 121)
      have q2 := cell_alloc (cell_alloc q2 (.cells #[.int .i64 p, .int .i64 d, .slice (some ⟨b, o, none⟩) ts.length c] 41)) (.cells #[.int .u8 (e.a.toNat : Int), .int .u8 (e.b.toNat : Int), .int .u8 (e.c.toNat : Int)] 121)
      have q3 := cell_alloc (cell_alloc q3 (.cells #[.int .i64 p, .int .i64 d, .slice (some ⟨b, o, none⟩) ts.length c] 41)) (.cells #[.int .u8 (e.a.toNat : Int), .int .u8 (e.b.toNat : Int), .int .u8 (e.c.toNat : Int)] 121)
      generalize hV : ((w.alloc (.cells #[.int .i64 p, .int .i64 d, .slice (some ⟨b, o, none⟩) ts.length c] 41)).alloc (.cells #[.int .u8 (e.a.toNat : Int), .int .u8 (e.b.toNat : Int), .int .u8 (e.c.toNat : Int)] 121)) = V at *
      have v0 : V.cell? ⟨w.heap.size + 1, 0, none⟩ = some (.int .u8 (e.a.toNat : Int)) := by rw [← hV]; simp
      have v1 : V.cell? ⟨w.heap.size + 1, 1, none⟩ = some (.int .u8 (e.b.toNat : Int)) := by rw [← hV]; simp
      have v2 : V.cell? ⟨w.heap.size + 1, 2, none⟩ = some (.int .u8 (e.c.toNat : Int)) := by rw [← hV]; simp
      have v3 : V.cell? ⟨w.heap.size, 2, none⟩ = some (.slice (some ⟨b, o, none⟩) ts.length c) := by rw [← hV]; simp
      have v4 : w.heap.size + 1 < V.heap.size := World.block_lt_of_cell? _ _ v0
      have v5 : w.heap.size < V.heap.size := World.block_lt_of_cell? _ _ v3
      have v6 : b < V.heap.size := World.block_lt_of_cell? _ _ q0
      have hVb : Below w.heap.size w V := by rw [← hV]; exact (by repeat (first | (with_reducible assumption) | (with_reducible exact Below.refl _ _) | ((with_reducible refine Below.alloc ?_ ?_ _); rotate_left; (focus (first | omega | (simp; done) | (simp; omega) | (simp [Later.le, Later.le_add, Later.lt, Later.lt_add]; done) | (simp [Later.le, Later.le_add, Later.lt, Later.lt_add]; omega)))) | (with_reducible refine Below.drew ?_) | (with_reducible refine pw_below_drewN ?_ _) | ((with_reducible refine Below.setCell ?_ ?_ _); rotate_left; (focus (first | omega | (simp; done) | (simp; omega) | (simp [Later.le, Later.le_add, Later.lt, Later.lt_add]; done) | (simp [Later.le, Later.le_add, Later.lt, Later.lt_add]; omega)))) | ((with_reducible refine below_hop (by assumption) ?_ ?_); rotate_left; (focus (first | omega | (simp; done) | (simp; omega) | (simp [Later.le, Later.le_add, Later.lt, Later.lt_add]; done) | (simp [Later.le, Later.le_add, Later.lt, Later.lt_add]; omega)))) | ((with_reducible refine bel_later _ ?_ ?_); rotate_left; (focus (first | omega | (simp; done) | (simp; omega) | (simp [Later.le, Later.le_add, Later.lt, Later.lt_add]; done) | (simp [Later.le, Later.le_add, Later.lt, Later.lt_add]; omega))))))
      clear hV
      have hi0 : (0 : Int) ≤ i := by omega
      have hi1 : (i : Int) < ts.length := by omega
      have hin : ((i : Int)).toNat = i := by omega
      generalize ht : ts.getD i z4 = t at *
      have HT := Lib.hid ht
      clear ht
      cases he : (t.e == e) with
      | true =>
        have he' : t.e = e := eq_of_beq he
        have hr : coefL ts e = t.v := by
          rw [← HT.out]
          exact coefL_hit e ts i hlt HS.out (by rw [HT.out]; exact he')
        rw [hr]
        go_wp2
        (first | refine wp_region_later2 (by kernel_rfl) (by kernel_rfl) ?_ | refine wp_region_later (by kernel_rfl) (by kernel_rfl) ?_); (repeat (go_big_quiet_step (fail))); refine wpQuiet_nil ?_; intro x
        go_wp2
        go_ret
        exact .mk rfl (by repeat (first | (with_reducible assumption) | (with_reducible exact Below.refl _ _) | ((with_reducible refine Below.alloc ?_ ?_ _); rotate_left; (focus (first | omega | (simp; done) | (simp; omega) | (simp [Later.le, Later.le_add, Later.lt, Later.lt_add]; done) | (simp [Later.le, Later.le_add, Later.lt, Later.lt_add]; omega)))) | (with_reducible refine Below.drew ?_) | (with_reducible refine pw_below_drewN ?_ _) | ((with_reducible refine Below.setCell ?_ ?_ _); rotate_left; (focus (first | omega | (simp; done) | (simp; omega) | (simp [Later.le, Later.le_add, Later.lt, Later.lt_add]; done) | (simp [Later.le, Later.le_add, Later.lt, Later.lt_add]; omega)))) | ((with_reducible refine below_hop (by assumption) ?_ ?_); rotate_left; (focus (first | omega | (simp; done) | (simp; omega) | (simp [Later.le, Later.le_add, Later.lt, Later.lt_add]; done) | (simp [Later.le, Later.le_add, Later.lt, Later.lt_add]; omega)))) | ((with_reducible refine bel_later _ ?_ ?_); rotate_left; (focus (first | omega | (simp; done) | (simp; omega) | (simp [Later.le, Later.le_add, Later.lt, Later.lt_add]; done) | (simp [Later.le, Later.le_add, Later.lt, Later.lt_add]; omega))))))
      | false =>
        have he' : t.e ≠ e := by simpa using he
        have HE := Lib.hid he'
        clear he'
        go_wp2
        (first | refine wp_region_later2 (by kernel_rfl) (by kernel_rfl) ?_ | refine wp_region_later (by kernel_rfl) (by kernel_rfl) ?_); (repeat (go_big_quiet_step (fail))); refine wpQuiet_nil ?_; intro x
        go_wp2
        go_roundg (gk - 1)
        case measure => have := HIK.out; omega
        case rel => exact ⟨i + 1, x, by have := HIK.out; omega, by go_num, ne_step HS.out (by rw [HT.out]; exact HE.out), rfl⟩
    · have hr : coefL ts e = 0 := coefL_miss e ts (fun j hj => HS.out j (by have := HIK.out; omega))
      rw [hr]
      go_wp2
      go_ret
      exact .mk rfl (by repeat (first | (with_reducible assumption) | (with_reducible exact Below.refl _ _) | ((with_reducible refine Below.alloc ?_ ?_ _); rotate_left; (focus (first | omega | (simp; done) | (simp; omega) | (simp [Later.le, Later.le_add, Later.lt, Later.lt_add]; done) | (simp [Later.le, Later.le_add, Later.lt, Later.lt_add]; omega)))) | (with_reducible refine Below.drew ?_) | (with_reducible refine pw_below_drewN ?_ _) | ((with_reducible refine Below.setCell ?_ ?_ _); rotate_left; (focus (first | omega | (simp; done) | (simp; omega) | (simp [Later.le, Later.le_add, Later.lt, Later.lt_add]; done) | (simp [Later.le, Later.le_add, Later.lt, Later.lt_add]; omega)))) | ((with_reducible refine below_hop (by assumption) ?_ ?_); rotate_left; (focus (first | omega | (simp; done) | (simp; omega) | (simp [Later.le, Later.le_add, Later.lt, Later.lt_add]; done) | (simp [Later.le, Later.le_add, Later.lt, Later.lt_add]; omega)))) | ((with_reducible refine bel_later _ ?_ ?_); rotate_left; (focus (first | omega | (simp; done) | (simp; omega) | (simp [Later.le, Later.le_add, Later.lt, Later.lt_add]; done) | (simp [Later.le, Later.le_add, Later.lt, Later.lt_add]; omega))))))

def coefR (p d : Int) (ts : List T4) (ps : List Int) : Int × Int := if polyB p d ts then (if (expR d ps).2 = 0 then (coefL ts (expR d ps).1, 0) else (0, 2)) else (0, 1)
theorem list_ok {d : Int} {ps : List Int} (h : (expR d ps).2 = 0) : listR d ps = ((expR d ps).1, true) := by
  revert h
  unfold expR listR
  split
  · simp
  · split
    · simp
    · rename_i h1
      split
      · simp
      · rename_i h2
        split
        · simp
        · rename_i h3
          intro _
          have : ps.any (fun n => decide (n < 0) || decide (12 < n)) = false := by
            rw [List.any_eq_false]
            intro n hn
            simp only [Bool.not_eq_true, List.any_eq_false, decide_eq_true_eq] at h1 h2
            have := h1 n hn
            have := h2 n hn
            simp
            omega
          simp [this]
          omega
theorem list_no {d : Int} {ps : List Int} (h : (expR d ps).2 ≠ 0) : (listR d ps).2 = false := by
  revert h
  unfold expR listR
  split
  · simp
  · split
    · rename_i h1
      have : ps.any (fun n => decide (n < 0) || decide (12 < n)) = true := by
        rw [List.any_eq_true] at h1 ⊢
        obtain ⟨n, hn, h⟩ := h1
        exact ⟨n, hn, by simp at h ⊢; omega⟩
      simp [this]
    · split
      · rename_i h1
        have : ps.any (fun n => decide (n < 0) || decide (12 < n)) = true := by
          rw [List.any_eq_true] at h1 ⊢
          obtain ⟨n, hn, h⟩ := h1
          exact ⟨n, hn, by simp at h ⊢; omega⟩
        simp [this]
      · split
        · intro _
          split
          · rfl
          · simp
            omega
        · simp

set_option maxRecDepth 100000 in
theorem implCoefficientAt_c (p d : Int) (A B : Option Addr) (c c2 : Nat) (ts : List T4) (ps : List Int) (w : World) (hC : kT.C w A ts.length ts) (hD : kI.C w B ps.length ps) (hn : ts.length ≤ 9223372036854775807) (hn2 : ps.length ≤ 9223372036854775807) :
    Calls Try.prog 66 #[.agg #[.int .i64 p, .int .i64 d, .slice A ts.length c], .slice B ps.length c2] w (Gives (.tuple #[.int .i64 (coefR p d ts ps).1, .int .i64 (coefR p d ts ps).2]) w) := by
  have HC := Lib.hid hC
  have HD := Lib.hid hD
  cases hp : polyB p d ts with
  | false =>
    have hr : coefR p d ts ps = (0, 1) := by simp [coefR, hp]
    rw [hr]
    go_enter Try.func66, Try.ntmps66
    go_wp2_with ((go_at_call 44; (first | (with_reducible refine call_later2 (IsPoly_c _ _ _ _ _ _ ?hcc hn) ?_) | (with_reducible refine call_later (IsPoly_c _ _ _ _ _ _ ?hcc hn) ?_)); (case hcc => exact Kd.C_below HC.out (by repeat (first | (with_reducible exact Below.refl _ _) | ((with_reducible refine Below.alloc ?_ ?_ _); rotate_left; (focus (first | omega | (simp; done) | (simp; omega) | (simp [Later.le, Later.le_add, Later.lt, Later.lt_add]; done) | (simp [Later.le, Later.le_add, Later.lt, Later.lt_add]; omega)))) | ((with_reducible refine bel_later _ ?_ ?_); rotate_left; (focus (first | omega | (simp; done) | (simp; omega) | (simp [Later.le, Later.le_add, Later.lt, Later.lt_add]; done) | (simp [Later.le, Later.le_add, Later.lt, Later.lt_add]; omega)))) | (with_reducible refine Below.drew ?_) | (with_reducible refine pw_below_drewN ?_ _) | ((with_reducible refine Below.setCell ?_ ?_ _); rotate_left; (focus (first | omega | (simp; done) | (simp; omega) | (simp [Later.le, Later.le_add, Later.lt, Later.lt_add]; done) | (simp [Later.le, Later.le_add, Later.lt, Later.lt_add]; omega))))))); intro x))
    go_ret2
    exact .mk rfl (by repeat (first | (with_reducible assumption) | (with_reducible exact Below.refl _ _) | ((with_reducible refine Below.alloc ?_ ?_ _); rotate_left; (focus (first | omega | (simp; done) | (simp; omega) | (simp [Later.le, Later.le_add, Later.lt, Later.lt_add]; done) | (simp [Later.le, Later.le_add, Later.lt, Later.lt_add]; omega)))) | (with_reducible refine Below.drew ?_) | (with_reducible refine pw_below_drewN ?_ _) | ((with_reducible refine Below.setCell ?_ ?_ _); rotate_left; (focus (first | omega | (simp; done) | (simp; omega) | (simp [Later.le, Later.le_add, Later.lt, Later.lt_add]; done) | (simp [Later.le, Later.le_add, Later.lt, Later.lt_add]; omega)))) | ((with_reducible refine below_hop (by assumption) ?_ ?_); rotate_left; (focus (first | omega | (simp; done) | (simp; omega) | (simp [Later.le, Later.le_add, Later.lt, Later.lt_add]; done) | (simp [Later.le, Later.le_add, Later.lt, Later.lt_add]; omega)))) | ((with_reducible refine bel_later _ ?_ ?_); rotate_left; (focus (first | omega | (simp; done) | (simp; omega) | (simp [Later.le, Later.le_add, Later.lt, Later.lt_add]; done) | (simp [Later.le, Later.le_add, Later.lt, Later.lt_add]; omega))))))
  | true =>
    obtain ⟨hd1, hd3⟩ := poly_vars hp
    by_cases hq : (expR d ps).2 = 0
    · have hr : coefR p d ts ps = (coefL ts (expR d ps).1, 0) := by simp [coefR, hp, hq]
      rw [hr]
      have H := expsOf_c d B c2 ps
      rw [hq] at H
      have HH := Lib.hid H
      clear H hr
      generalize (expR d ps).1 = e at *
      go_enter Try.func66, Try.ntmps66
      go_wp2_with (first | (go_at_call 44; (first | (with_reducible refine call_later2 (IsPoly_c _ _ _ _ _ _ ?hcc hn) ?_) | (with_reducible refine call_later (IsPoly_c _ _ _ _ _ _ ?hcc hn) ?_)); (case hcc => exact Kd.C_below HC.out (by repeat (first | (with_reducible exact Below.refl _ _) | ((with_reducible refine Below.alloc ?_ ?_ _); rotate_left; (focus (first | omega | (simp; done) | (simp; omega) | (simp [Later.le, Later.le_add, Later.lt, Later.lt_add]; done) | (simp [Later.le, Later.le_add, Later.lt, Later.lt_add]; omega)))) | ((with_reducible refine bel_later _ ?_ ?_); rotate_left; (focus (first | omega | (simp; done) | (simp; omega) | (simp [Later.le, Later.le_add, Later.lt, Later.lt_add]; done) | (simp [Later.le, Later.le_add, Later.lt, Later.lt_add]; omega)))) | (with_reducible refine Below.drew ?_) | (with_reducible refine pw_below_drewN ?_ _) | ((with_reducible refine Below.setCell ?_ ?_ _); rotate_left; (focus (first | omega | (simp; done) | (simp; omega) | (simp [Later.le, Later.le_add, Later.lt, Later.lt_add]; done) | (simp [Later.le, Later.le_add, Later.lt, Later.lt_add]; omega))))))); intro x) | (go_at_call 161; (first | (with_reducible refine call_later2 (HH.out _ hd1 hd3 ?hcc hn2) ?_) | (with_reducible refine call_later (HH.out _ hd1 hd3 ?hcc hn2) ?_)); (case hcc => exact Kd.C_below HD.out (by repeat (first | (with_reducible exact Below.refl _ _) | ((with_reducible refine Below.alloc ?_ ?_ _); rotate_left; (focus (first | omega | (simp; done) | (simp; omega) | (simp [Later.le, Later.le_add, Later.lt, Later.lt_add]; done) | (simp [Later.le, Later.le_add, Later.lt, Later.lt_add]; omega)))) | ((with_reducible refine bel_later _ ?_ ?_); rotate_left; (focus (first | omega | (simp; done) | (simp; omega) | (simp [Later.le, Later.le_add, Later.lt, Later.lt_add]; done) | (simp [Later.le, Later.le_add, Later.lt, Later.lt_add]; omega)))) | (with_reducible refine Below.drew ?_) | (with_reducible refine pw_below_drewN ?_ _) | ((with_reducible refine Below.setCell ?_ ?_ _); rotate_left; (focus (first | omega | (simp; done) | (simp; omega) | (simp [Later.le, Later.le_add, Later.lt, Later.lt_add]; done) | (simp [Later.le, Later.le_add, Later.lt, Later.lt_add]; omega))))))); intro x2) | (go_at_call 162; (first | (with_reducible refine call_later2 (coefficient_c _ _ _ _ _ _ _ ?hcc hn) ?_) | (with_reducible refine call_later (coefficient_c _ _ _ _ _ _ _ ?hcc hn) ?_)); (case hcc => exact Kd.C_below HC.out (by repeat (first | (with_reducible exact Below.refl _ _) | ((with_reducible refine Below.alloc ?_ ?_ _); rotate_left; (focus (first | omega | (simp; done) | (simp; omega) | (simp [Later.le, Later.le_add, Later.lt, Later.lt_add]; done) | (simp [Later.le, Later.le_add, Later.lt, Later.lt_add]; omega)))) | ((with_reducible refine bel_later _ ?_ ?_); rotate_left; (focus (first | omega | (simp; done) | (simp; omega) | (simp [Later.le, Later.le_add, Later.lt, Later.lt_add]; done) | (simp [Later.le, Later.le_add, Later.lt, Later.lt_add]; omega)))) | (with_reducible refine Below.drew ?_) | (with_reducible refine pw_below_drewN ?_ _) | ((with_reducible refine Below.setCell ?_ ?_ _); rotate_left; (focus (first | omega | (simp; done) | (simp; omega) | (simp [Later.le, Later.le_add, Later.lt, Later.lt_add]; done) | (simp [Later.le, Later.le_add, Later.lt, Later.lt_add]; omega))))))); intro x3))
      have zz := x2.ok.size
      simp at zz
      go_ret2
      exact .mk rfl (by repeat (first | (with_reducible assumption) | (with_reducible exact Below.refl _ _) | ((with_reducible refine Below.alloc ?_ ?_ _); rotate_left; (focus (first | omega | (simp; done) | (simp; omega) | (simp [Later.le, Later.le_add, Later.lt, Later.lt_add]; done) | (simp [Later.le, Later.le_add, Later.lt, Later.lt_add]; omega)))) | (with_reducible refine Below.drew ?_) | (with_reducible refine pw_below_drewN ?_ _) | ((with_reducible refine Below.setCell ?_ ?_ _); rotate_left; (focus (first | omega | (simp; done) | (simp; omega) | (simp [Later.le, Later.le_add, Later.lt, Later.lt_add]; done) | (simp [Later.le, Later.le_add, Later.lt, Later.lt_add]; omega)))) | ((with_reducible refine below_hop (by assumption) ?_ ?_); rotate_left; (focus (first | omega | (simp; done) | (simp; omega) | (simp [Later.le, Later.le_add, Later.lt, Later.lt_add]; done) | (simp [Later.le, Later.le_add, Later.lt, Later.lt_add]; omega)))) | ((with_reducible refine bel_later _ ?_ ?_); rotate_left; (focus (first | omega | (simp; done) | (simp; omega) | (simp [Later.le, Later.le_add, Later.lt, Later.lt_add]; done) | (simp [Later.le, Later.le_add, Later.lt, Later.lt_add]; omega))))))
    · have hr : coefR p d ts ps = (0, 2) := by simp [coefR, hp, hq]
      rw [hr]
      clear hr
      have H := expsOf_c d B c2 ps
      have HH := Lib.hid H
      clear H
      have hq0 : ((expR d ps).2 != 0) = true := by rw [bne_iff_ne]; exact hq
      clear hq
      generalize expR d ps = er at *
      go_enter Try.func66, Try.ntmps66
      go_wp2_with (first | (go_at_call 44; (first | (with_reducible refine call_later2 (IsPoly_c _ _ _ _ _ _ ?hcc hn) ?_) | (with_reducible refine call_later (IsPoly_c _ _ _ _ _ _ ?hcc hn) ?_)); (case hcc => exact Kd.C_below HC.out (by repeat (first | (with_reducible exact Below.refl _ _) | ((with_reducible refine Below.alloc ?_ ?_ _); rotate_left; (focus (first | omega | (simp; done) | (simp; omega) | (simp [Later.le, Later.le_add, Later.lt, Later.lt_add]; done) | (simp [Later.le, Later.le_add, Later.lt, Later.lt_add]; omega)))) | ((with_reducible refine bel_later _ ?_ ?_); rotate_left; (focus (first | omega | (simp; done) | (simp; omega) | (simp [Later.le, Later.le_add, Later.lt, Later.lt_add]; done) | (simp [Later.le, Later.le_add, Later.lt, Later.lt_add]; omega)))) | (with_reducible refine Below.drew ?_) | (with_reducible refine pw_below_drewN ?_ _) | ((with_reducible refine Below.setCell ?_ ?_ _); rotate_left; (focus (first | omega | (simp; done) | (simp; omega) | (simp [Later.le, Later.le_add, Later.lt, Later.lt_add]; done) | (simp [Later.le, Later.le_add, Later.lt, Later.lt_add]; omega))))))); intro x) | (go_at_call 161; (first | (with_reducible refine call_later2 (HH.out _ hd1 hd3 ?hcc hn2) ?_) | (with_reducible refine call_later (HH.out _ hd1 hd3 ?hcc hn2) ?_)); (case hcc => exact Kd.C_below HD.out (by repeat (first | (with_reducible exact Below.refl _ _) | ((with_reducible refine Below.alloc ?_ ?_ _); rotate_left; (focus (first | omega | (simp; done) | (simp; omega) | (simp [Later.le, Later.le_add, Later.lt, Later.lt_add]; done) | (simp [Later.le, Later.le_add, Later.lt, Later.lt_add]; omega)))) | ((with_reducible refine bel_later _ ?_ ?_); rotate_left; (focus (first | omega | (simp; done) | (simp; omega) | (simp [Later.le, Later.le_add, Later.lt, Later.lt_add]; done) | (simp [Later.le, Later.le_add, Later.lt, Later.lt_add]; omega)))) | (with_reducible refine Below.drew ?_) | (with_reducible refine pw_below_drewN ?_ _) | ((with_reducible refine Below.setCell ?_ ?_ _); rotate_left; (focus (first | omega | (simp; done) | (simp; omega) | (simp [Later.le, Later.le_add, Later.lt, Later.lt_add]; done) | (simp [Later.le, Later.le_add, Later.lt, Later.lt_add]; omega))))))); intro x2))
      go_ret2
      exact .mk rfl (by repeat (first | (with_reducible assumption) | (with_reducible exact Below.refl _ _) | ((with_reducible refine Below.alloc ?_ ?_ _); rotate_left; (focus (first | omega | (simp; done) | (simp; omega) | (simp [Later.le, Later.le_add, Later.lt, Later.lt_add]; done) | (simp [Later.le, Later.le_add, Later.lt, Later.lt_add]; omega)))) | (with_reducible refine Below.drew ?_) | (with_reducible refine pw_below_drewN ?_ _) | ((with_reducible refine Below.setCell ?_ ?_ _); rotate_left; (focus (first | omega | (simp; done) | (simp; omega) | (simp [Later.le, Later.le_add, Later.lt, Later.lt_add]; done) | (simp [Later.le, Later.le_add, Later.lt, Later.lt_add]; omega)))) | ((with_reducible refine below_hop (by assumption) ?_ ?_); rotate_left; (focus (first | omega | (simp; done) | (simp; omega) | (simp [Later.le, Later.le_add, Later.lt, Later.lt_add]; done) | (simp [Later.le, Later.le_add, Later.lt, Later.lt_add]; omega)))) | ((with_reducible refine bel_later _ ?_ ?_); rotate_left; (focus (first | omega | (simp; done) | (simp; omega) | (simp [Later.le, Later.le_add, Later.lt, Later.lt_add]; done) | (simp [Later.le, Later.le_add, Later.lt, Later.lt_add]; omega))))))

set_option maxRecDepth 100000 in
theorem specCoefficientAt_c (p d : Int) (A B : Option Addr) (c c2 : Nat) (ts : List T4) (ps : List Int) (w : World) (hC : kT.C w A ts.length ts) (hD : kI.C w B ps.length ps) (hn : ts.length ≤ 9223372036854775807) (hn2 : ps.length ≤ 9223372036854775807) :
    Calls Try.prog 65 #[.agg #[.int .i64 p, .int .i64 d, .slice A ts.length c], .slice B ps.length c2] w (Gives (.tuple #[.int .i64 (coefR p d ts ps).1, .int .i64 (coefR p d ts ps).2]) w) := by
  have HC := Lib.hid hC
  have HD := Lib.hid hD
  cases hp : polyB p d ts with
  | false =>
    have hr : coefR p d ts ps = (0, 1) := by simp [coefR, hp]
    rw [hr]
    go_enter Try.func65, Try.ntmps65
    go_wp2_with ((go_at_call 135; (first | (with_reducible refine call_later2 (l01Is_c _ _ _ _ _ _ ?hcc hn) ?_) | (with_reducible refine call_later (l01Is_c _ _ _ _ _ _ ?hcc hn) ?_)); (case hcc => exact Kd.C_below HC.out (by repeat (first | (with_reducible exact Below.refl _ _) | ((with_reducible refine Below.alloc ?_ ?_ _); rotate_left; (focus (first | omega | (simp; done) | (simp; omega) | (simp [Later.le, Later.le_add, Later.lt, Later.lt_add]; done) | (simp [Later.le, Later.le_add, Later.lt, Later.lt_add]; omega)))) | ((with_reducible refine bel_later _ ?_ ?_); rotate_left; (focus (first | omega | (simp; done) | (simp; omega) | (simp [Later.le, Later.le_add, Later.lt, Later.lt_add]; done) | (simp [Later.le, Later.le_add, Later.lt, Later.lt_add]; omega)))) | (with_reducible refine Below.drew ?_) | (with_reducible refine pw_below_drewN ?_ _) | ((with_reducible refine Below.setCell ?_ ?_ _); rotate_left; (focus (first | omega | (simp; done) | (simp; omega) | (simp [Later.le, Later.le_add, Later.lt, Later.lt_add]; done) | (simp [Later.le, Later.le_add, Later.lt, Later.lt_add]; omega))))))); intro x))
    go_ret2
    exact .mk rfl (by repeat (first | (with_reducible assumption) | (with_reducible exact Below.refl _ _) | ((with_reducible refine Below.alloc ?_ ?_ _); rotate_left; (focus (first | omega | (simp; done) | (simp; omega) | (simp [Later.le, Later.le_add, Later.lt, Later.lt_add]; done) | (simp [Later.le, Later.le_add, Later.lt, Later.lt_add]; omega)))) | (with_reducible refine Below.drew ?_) | (with_reducible refine pw_below_drewN ?_ _) | ((with_reducible refine Below.setCell ?_ ?_ _); rotate_left; (focus (first | omega | (simp; done) | (simp; omega) | (simp [Later.le, Later.le_add, Later.lt, Later.lt_add]; done) | (simp [Later.le, Later.le_add, Later.lt, Later.lt_add]; omega)))) | ((with_reducible refine below_hop (by assumption) ?_ ?_); rotate_left; (focus (first | omega | (simp; done) | (simp; omega) | (simp [Later.le, Later.le_add, Later.lt, Later.lt_add]; done) | (simp [Later.le, Later.le_add, Later.lt, Later.lt_add]; omega)))) | ((with_reducible refine bel_later _ ?_ ?_); rotate_left; (focus (first | omega | (simp; done) | (simp; omega) | (simp [Later.le, Later.le_add, Later.lt, Later.lt_add]; done) | (simp [Later.le, Later.le_add, Later.lt, Later.lt_add]; omega))))))
  | true =>
    obtain ⟨hd1, hd3⟩ := poly_vars hp
    by_cases hq : (expR d ps).2 = 0
    · have hr : coefR p d ts ps = (coefL ts (expR d ps).1, 0) := by simp [coefR, hp, hq]
      rw [hr]
      have H := l01List_c d B c2 ps
      rw [list_ok hq] at H
      have HH := Lib.hid H
      clear H hr
      generalize (expR d ps).1 = e at *
      go_enter Try.func65, Try.ntmps65
      go_wp2_with (first | (go_at_call 135; (first | (with_reducible refine call_later2 (l01Is_c _ _ _ _ _ _ ?hcc hn) ?_) | (with_reducible refine call_later (l01Is_c _ _ _ _ _ _ ?hcc hn) ?_)); (case hcc => exact Kd.C_below HC.out (by repeat (first | (with_reducible exact Below.refl _ _) | ((with_reducible refine Below.alloc ?_ ?_ _); rotate_left; (focus (first | omega | (simp; done) | (simp; omega) | (simp [Later.le, Later.le_add, Later.lt, Later.lt_add]; done) | (simp [Later.le, Later.le_add, Later.lt, Later.lt_add]; omega)))) | ((with_reducible refine bel_later _ ?_ ?_); rotate_left; (focus (first | omega | (simp; done) | (simp; omega) | (simp [Later.le, Later.le_add, Later.lt, Later.lt_add]; done) | (simp [Later.le, Later.le_add, Later.lt, Later.lt_add]; omega)))) | (with_reducible refine Below.drew ?_) | (with_reducible refine pw_below_drewN ?_ _) | ((with_reducible refine Below.setCell ?_ ?_ _); rotate_left; (focus (first | omega | (simp; done) | (simp; omega) | (simp [Later.le, Later.le_add, Later.lt, Later.lt_add]; done) | (simp [Later.le, Later.le_add, Later.lt, Later.lt_add]; omega))))))); intro x) | (go_at_call 159; (first | (with_reducible refine call_later2 (HH.out _ hd1 hd3 ?hcc hn2) ?_) | (with_reducible refine call_later (HH.out _ hd1 hd3 ?hcc hn2) ?_)); (case hcc => exact Kd.C_below HD.out (by repeat (first | (with_reducible exact Below.refl _ _) | ((with_reducible refine Below.alloc ?_ ?_ _); rotate_left; (focus (first | omega | (simp; done) | (simp; omega) | (simp [Later.le, Later.le_add, Later.lt, Later.lt_add]; done) | (simp [Later.le, Later.le_add, Later.lt, Later.lt_add]; omega)))) | ((with_reducible refine bel_later _ ?_ ?_); rotate_left; (focus (first | omega | (simp; done) | (simp; omega) | (simp [Later.le, Later.le_add, Later.lt, Later.lt_add]; done) | (simp [Later.le, Later.le_add, Later.lt, Later.lt_add]; omega)))) | (with_reducible refine Below.drew ?_) | (with_reducible refine pw_below_drewN ?_ _) | ((with_reducible refine Below.setCell ?_ ?_ _); rotate_left; (focus (first | omega | (simp; done) | (simp; omega) | (simp [Later.le, Later.le_add, Later.lt, Later.lt_add]; done) | (simp [Later.le, Later.le_add, Later.lt, Later.lt_add]; omega))))))); intro x2) | (go_at_call 160; (first | (with_reducible refine call_later2 (l01At_c _ _ _ _ _ _ _ ?hcc hn) ?_) | (with_reducible refine call_later (l01At_c _ _ _ _ _ _ _ ?hcc hn) ?_)); (case hcc => exact Kd.C_below HC.out (by repeat (first | (with_reducible exact Below.refl _ _) | ((with_reducible refine Below.alloc ?_ ?_ _); rotate_left; (focus (first | omega | (simp; done) | (simp; omega) | (simp [Later.le, Later.le_add, Later.lt, Later.lt_add]; done) | (simp [Later.le, Later.le_add, Later.lt, Later.lt_add]; omega)))) | ((with_reducible refine bel_later _ ?_ ?_); rotate_left; (focus (first | omega | (simp; done) | (simp; omega) | (simp [Later.le, Later.le_add, Later.lt, Later.lt_add]; done) | (simp [Later.le, Later.le_add, Later.lt, Later.lt_add]; omega)))) | (with_reducible refine Below.drew ?_) | (with_reducible refine pw_below_drewN ?_ _) | ((with_reducible refine Below.setCell ?_ ?_ _); rotate_left; (focus (first | omega | (simp; done) | (simp; omega) | (simp [Later.le, Later.le_add, Later.lt, Later.lt_add]; done) | (simp [Later.le, Later.le_add, Later.lt, Later.lt_add]; omega))))))); intro x3))
      have zz := x2.ok.size
      simp at zz
      go_ret2
      exact .mk rfl (by repeat (first | (with_reducible assumption) | (with_reducible exact Below.refl _ _) | ((with_reducible refine Below.alloc ?_ ?_ _); rotate_left; (focus (first | omega | (simp; done) | (simp; omega) | (simp [Later.le, Later.le_add, Later.lt, Later.lt_add]; done) | (simp [Later.le, Later.le_add, Later.lt, Later.lt_add]; omega)))) | (with_reducible refine Below.drew ?_) | (with_reducible refine pw_below_drewN ?_ _) | ((with_reducible refine Below.setCell ?_ ?_ _); rotate_left; (focus (first | omega | (simp; done) | (simp; omega) | (simp [Later.le, Later.le_add, Later.lt, Later.lt_add]; done) | (simp [Later.le, Later.le_add, Later.lt, Later.lt_add]; omega)))) | ((with_reducible refine below_hop (by assumption) ?_ ?_); rotate_left; (focus (first | omega | (simp; done) | (simp; omega) | (simp [Later.le, Later.le_add, Later.lt, Later.lt_add]; done) | (simp [Later.le, Later.le_add, Later.lt, Later.lt_add]; omega)))) | ((with_reducible refine bel_later _ ?_ ?_); rotate_left; (focus (first | omega | (simp; done) | (simp; omega) | (simp [Later.le, Later.le_add, Later.lt, Later.lt_add]; done) | (simp [Later.le, Later.le_add, Later.lt, Later.lt_add]; omega))))))
    · have hr : coefR p d ts ps = (0, 2) := by simp [coefR, hp, hq]
      rw [hr]
      clear hr
      have H := l01List_c d B c2 ps
      rw [list_no hq] at H
      have HH := Lib.hid H
      clear H hq
      generalize listR d ps = er at *
      go_enter Try.func65, Try.ntmps65
      go_wp2_with (first | (go_at_call 135; (first | (with_reducible refine call_later2 (l01Is_c _ _ _ _ _ _ ?hcc hn) ?_) | (with_reducible refine call_later (l01Is_c _ _ _ _ _ _ ?hcc hn) ?_)); (case hcc => exact Kd.C_below HC.out (by repeat (first | (with_reducible exact Below.refl _ _) | ((with_reducible refine Below.alloc ?_ ?_ _); rotate_left; (focus (first | omega | (simp; done) | (simp; omega) | (simp [Later.le, Later.le_add, Later.lt, Later.lt_add]; done) | (simp [Later.le, Later.le_add, Later.lt, Later.lt_add]; omega)))) | ((with_reducible refine bel_later _ ?_ ?_); rotate_left; (focus (first | omega | (simp; done) | (simp; omega) | (simp [Later.le, Later.le_add, Later.lt, Later.lt_add]; done) | (simp [Later.le, Later.le_add, Later.lt, Later.lt_add]; omega)))) | (with_reducible refine Below.drew ?_) | (with_reducible refine pw_below_drewN ?_ _) | ((with_reducible refine Below.setCell ?_ ?_ _); rotate_left; (focus (first | omega | (simp; done) | (simp; omega) | (simp [Later.le, Later.le_add, Later.lt, Later.lt_add]; done) | (simp [Later.le, Later.le_add, Later.lt, Later.lt_add]; omega))))))); intro x) | (go_at_call 159; (first | (with_reducible refine call_later2 (HH.out _ hd1 hd3 ?hcc hn2) ?_) | (with_reducible refine call_later (HH.out _ hd1 hd3 ?hcc hn2) ?_)); (case hcc => exact Kd.C_below HD.out (by repeat (first | (with_reducible exact Below.refl _ _) | ((with_reducible refine Below.alloc ?_ ?_ _); rotate_left; (focus (first | omega | (simp; done) | (simp; omega) | (simp [Later.le, Later.le_add, Later.lt, Later.lt_add]; done) | (simp [Later.le, Later.le_add, Later.lt, Later.lt_add]; omega)))) | ((with_reducible refine bel_later _ ?_ ?_); rotate_left; (focus (first | omega | (simp; done) | (simp; omega) | (simp [Later.le, Later.le_add, Later.lt, Later.lt_add]; done) | (simp [Later.le, Later.le_add, Later.lt, Later.lt_add]; omega)))) | (with_reducible refine Below.drew ?_) | (with_reducible refine pw_below_drewN ?_ _) | ((with_reducible refine Below.setCell ?_ ?_ _); rotate_left; (focus (first | omega | (simp; done) | (simp; omega) | (simp [Later.le, Later.le_add, Later.lt, Later.lt_add]; done) | (simp [Later.le, Later.le_add, Later.lt, Later.lt_add]; omega))))))); intro x2))
      go_ret2
      exact .mk rfl (by repeat (first | (with_reducible assumption) | (with_reducible exact Below.refl _ _) | ((with_reducible refine Below.alloc ?_ ?_ _); rotate_left; (focus (first | omega | (simp; done) | (simp; omega) | (simp [Later.le, Later.le_add, Later.lt, Later.lt_add]; done) | (simp [Later.le, Later.le_add, Later.lt, Later.lt_add]; omega)))) | (with_reducible refine Below.drew ?_) | (with_reducible refine pw_below_drewN ?_ _) | ((with_reducible refine Below.setCell ?_ ?_ _); rotate_left; (focus (first | omega | (simp; done) | (simp; omega) | (simp [Later.le, Later.le_add, Later.lt, Later.lt_add]; done) | (simp [Later.le, Later.le_add, Later.lt, Later.lt_add]; omega)))) | ((with_reducible refine below_hop (by assumption) ?_ ?_); rotate_left; (focus (first | omega | (simp; done) | (simp; omega) | (simp [Later.le, Later.le_add, Later.lt, Later.lt_add]; done) | (simp [Later.le, Later.le_add, Later.lt, Later.lt_add]; omega)))) | ((with_reducible refine bel_later _ ?_ ?_); rotate_left; (focus (first | omega | (simp; done) | (simp; omega) | (simp [Later.le, Later.le_add, Later.lt, Later.lt_add]; done) | (simp [Later.le, Later.le_add, Later.lt, Later.lt_add]; omega))))))
end Go.Proofs.Ytgieofidogkbaaa
