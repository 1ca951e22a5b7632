/- The walk of PartOfDegree of the program; no condition. -/
import Derived.Test.YtgieofidogkbaaaPart2
set_option linter.unusedVariables false
set_option linter.unusedSimpArgs false
namespace Go.Proofs.Ytgieofidogkbaaa
open Go.RowKit Go.Proofs.YtgieofidogkbaaaW.PrintWords
attribute [local go_sem] Later.cell Later.frozen Later.lt Later.lt_add Later.le Later.le_add Later.ne Later.ne' add_at

theorem isDegree_s (n : Int) (w : World) : Calls Try.prog 127 #[.int .i64 n] w (Same (.bool (inB n 0 12)) w) := by
  by_cases h : 0 ≤ n
  · have hd : decide (0 ≤ n) = true := decide_eq_true h
    go_enter Try.func127, Try.ntmps127
    go_wp2
    go_ret
    exact .mk (by simp [inB, *])
  · have hd : decide (0 ≤ n) = false := decide_eq_false h
    go_enter Try.func127, Try.ntmps127
    go_wp2
    go_ret
    exact .mk (by simp [inB, *])

set_option maxRecDepth 100000 in
set_option maxHeartbeats 1000000 in
theorem implPartOfDegree_c (p d n : Int) (A : Option Addr) (c : Nat) (ts : List T4) (w : World) (hC : kT.C w A ts.length ts) (hn : ts.length ≤ 1048576) :
    Calls Try.prog 56 #[.agg #[.int .i64 p, .int .i64 d, .slice A ts.length c], .int .i64 n] w (MakesPC (partR p d n ts) 127 w) := by
  have HC := Lib.hid hC
  have hn2 : ts.length ≤ 9223372036854775807 := by omega
  cases hp : polyB p d ts with
  | false =>
    rw [partR_1 hp]
    go_enter Try.func56, Try.ntmps56
    go_wp2_with ((go_at_call 44; (first | (with_reducible refine call_later2 (IsPoly_c _ _ _ _ _ _ ?hcc hn2) ?_) | (with_reducible refine call_later (IsPoly_c _ _ _ _ _ _ ?hcc hn2) ?_)); (case hcc => exact Kd.C_below HC.out (by repeat (first | (with_reducible exact Below.refl _ _) | ((with_reducible refine Below.alloc ?_ ?_ _); rotate_left; (focus (first | omega | (simp; done) | (simp; omega) | (simp [Later.le, Later.le_add, Later.lt, Later.lt_add]; done) | (simp [Later.le, Later.le_add, Later.lt, Later.lt_add]; omega)))) | ((with_reducible refine bel_later _ ?_ ?_); rotate_left; (focus (first | omega | (simp; done) | (simp; omega) | (simp [Later.le, Later.le_add, Later.lt, Later.lt_add]; done) | (simp [Later.le, Later.le_add, Later.lt, Later.lt_add]; omega)))) | (with_reducible refine Below.drew ?_) | (with_reducible refine pw_below_drewN ?_ _) | ((with_reducible refine Below.setCell ?_ ?_ _); rotate_left; (focus (first | omega | (simp; done) | (simp; omega) | (simp [Later.le, Later.le_add, Later.lt, Later.lt_add]; done) | (simp [Later.le, Later.le_add, Later.lt, Later.lt_add]; omega))))))); intro x))
    have zz : w.heap.size + 1 < x.W.heap.size := by have := x.ok.size; simp at this; omega
    refine bodyPost_ret (v := .tuple #[.agg #[.int .i64 0, .int .i64 0, .slice none 0 0], .int .i64 1]) (by simp [results, Try.results56, go_sem]) rfl ?_
    exact MakesPC_nil _ _ _ _ (by repeat (first | (with_reducible assumption) | (with_reducible exact Below.refl _ _) | ((with_reducible refine Below.alloc ?_ ?_ _); rotate_left; (focus (first | omega | (simp; done) | (simp; omega) | (simp [Later.le, Later.le_add, Later.lt, Later.lt_add]; done) | (simp [Later.le, Later.le_add, Later.lt, Later.lt_add]; omega)))) | (with_reducible refine Below.drew ?_) | (with_reducible refine pw_below_drewN ?_ _) | ((with_reducible refine Below.setCell ?_ ?_ _); rotate_left; (focus (first | omega | (simp; done) | (simp; omega) | (simp [Later.le, Later.le_add, Later.lt, Later.lt_add]; done) | (simp [Later.le, Later.le_add, Later.lt, Later.lt_add]; omega)))) | ((with_reducible refine below_hop (by assumption) ?_ ?_); rotate_left; (focus (first | omega | (simp; done) | (simp; omega) | (simp [Later.le, Later.le_add, Later.lt, Later.lt_add]; done) | (simp [Later.le, Later.le_add, Later.lt, Later.lt_add]; omega)))) | ((with_reducible refine bel_later _ ?_ ?_); rotate_left; (focus (first | omega | (simp; done) | (simp; omega) | (simp [Later.le, Later.le_add, Later.lt, Later.lt_add]; done) | (simp [Later.le, Later.le_add, Later.lt, Later.lt_add]; omega))))))
  | true =>
    cases hq : inB n 0 12 with
    | false =>
      rw [partR_2 hp hq]
      go_enter Try.func56, Try.ntmps56
      go_wp2_with (first | (go_at_call 44; (first | (with_reducible refine call_later2 (IsPoly_c _ _ _ _ _ _ ?hcc hn2) ?_) | (with_reducible refine call_later (IsPoly_c _ _ _ _ _ _ ?hcc hn2) ?_)); (case hcc => exact Kd.C_below HC.out (by repeat (first | (with_reducible exact Below.refl _ _) | ((with_reducible refine Below.alloc ?_ ?_ _); rotate_left; (focus (first | omega | (simp; done) | (simp; omega) | (simp [Later.le, Later.le_add, Later.lt, Later.lt_add]; done) | (simp [Later.le, Later.le_add, Later.lt, Later.lt_add]; omega)))) | ((with_reducible refine bel_later _ ?_ ?_); rotate_left; (focus (first | omega | (simp; done) | (simp; omega) | (simp [Later.le, Later.le_add, Later.lt, Later.lt_add]; done) | (simp [Later.le, Later.le_add, Later.lt, Later.lt_add]; omega)))) | (with_reducible refine Below.drew ?_) | (with_reducible refine pw_below_drewN ?_ _) | ((with_reducible refine Below.setCell ?_ ?_ _); rotate_left; (focus (first | omega | (simp; done) | (simp; omega) | (simp [Later.le, Later.le_add, Later.lt, Later.lt_add]; done) | (simp [Later.le, Later.le_add, Later.lt, Later.lt_add]; omega))))))); intro x) | (go_at_call 127; (with_reducible refine call_same (isDegree_s _ _) ?_)))
      have zz : w.heap.size + 1 < x.W.heap.size := by have := x.ok.size; simp at this; omega
      refine bodyPost_ret (v := .tuple #[.agg #[.int .i64 0, .int .i64 0, .slice none 0 0], .int .i64 2]) (by simp [results, Try.results56, go_sem]) rfl ?_
      exact MakesPC_nil _ _ _ _ (by repeat (first | (with_reducible assumption) | (with_reducible exact Below.refl _ _) | ((with_reducible refine Below.alloc ?_ ?_ _); rotate_left; (focus (first | omega | (simp; done) | (simp; omega) | (simp [Later.le, Later.le_add, Later.lt, Later.lt_add]; done) | (simp [Later.le, Later.le_add, Later.lt, Later.lt_add]; omega)))) | (with_reducible refine Below.drew ?_) | (with_reducible refine pw_below_drewN ?_ _) | ((with_reducible refine Below.setCell ?_ ?_ _); rotate_left; (focus (first | omega | (simp; done) | (simp; omega) | (simp [Later.le, Later.le_add, Later.lt, Later.lt_add]; done) | (simp [Later.le, Later.le_add, Later.lt, Later.lt_add]; omega)))) | ((with_reducible refine below_hop (by assumption) ?_ ?_); rotate_left; (focus (first | omega | (simp; done) | (simp; omega) | (simp [Later.le, Later.le_add, Later.lt, Later.lt_add]; done) | (simp [Later.le, Later.le_add, Later.lt, Later.lt_add]; omega)))) | ((with_reducible refine bel_later _ ?_ ?_); rotate_left; (focus (first | omega | (simp; done) | (simp; omega) | (simp [Later.le, Later.le_add, Later.lt, Later.lt_add]; done) | (simp [Later.le, Later.le_add, Later.lt, Later.lt_add]; omega))))))
    | true =>
      rw [partR_0 hp hq]
      go_enter Try.func56, Try.ntmps56
      go_wp2_with (first | (go_at_call 44; (first | (with_reducible refine call_later2 (IsPoly_c _ _ _ _ _ _ ?hcc hn2) ?_) | (with_reducible refine call_later (IsPoly_c _ _ _ _ _ _ ?hcc hn2) ?_)); (case hcc => exact Kd.C_below HC.out (by repeat (first | (with_reducible exact Below.refl _ _) | ((with_reducible refine Below.alloc ?_ ?_ _); rotate_left; (focus (first | omega | (simp; done) | (simp; omega) | (simp [Later.le, Later.le_add, Later.lt, Later.lt_add]; done) | (simp [Later.le, Later.le_add, Later.lt, Later.lt_add]; omega)))) | ((with_reducible refine bel_later _ ?_ ?_); rotate_left; (focus (first | omega | (simp; done) | (simp; omega) | (simp [Later.le, Later.le_add, Later.lt, Later.lt_add]; done) | (simp [Later.le, Later.le_add, Later.lt, Later.lt_add]; omega)))) | (with_reducible refine Below.drew ?_) | (with_reducible refine pw_below_drewN ?_ _) | ((with_reducible refine Below.setCell ?_ ?_ _); rotate_left; (focus (first | omega | (simp; done) | (simp; omega) | (simp [Later.le, Later.le_add, Later.lt, Later.lt_add]; done) | (simp [Later.le, Later.le_add, Later.lt, Later.lt_add]; omega))))))); intro x) | (go_at_call 127; (with_reducible refine call_same (isDegree_s _ _) ?_)) | (go_at_call 150; (with_reducible refine call_makesP2 (zeroPoly_c _ _ _) ?_); intro x2 A1 c1 hb1 hl1 hR1 hC1; have zx2 : w.heap.size < x2.W.heap.size := (by have := x2.ok.size; simp at this; omega); have gx2 : x2.W.cell? ⟨w.heap.size, 2, none⟩ = some (.slice A ts.length c) := x2.keep (by simp)))
      have hsz := x2.ok.size
      simp at hsz
      have hszx := x.ok.size
      simp at hszx
      have hR2 := Kd.R_mono (Kd.R_bound hR1) (ok' := fun k => k ≠ x2.W.heap.size) (fun k hk he => by have := hk.2.2.1; omega)
      have hR2 := Kd.R_lower hR2 (base' := w.heap.size + 2) (by omega)
      have hR2 := Kd.R_alloc hR2 (.cells #[.int .i64 p, .int .i64 d, .slice A1 ([] : List T4).length c1] 41)
      generalize hob : x2.W.heap.size = ob at *
      have HX : Below ((w.alloc (.cells #[.int .i64 p, .int .i64 d, .slice A ts.length c] 41)).alloc (.cells #[.int .i64 0, .int .i64 0, .slice none 0 0] 41)).heap.size ((w.alloc (.cells #[.int .i64 p, .int .i64 d, .slice A ts.length c] 41)).alloc (.cells #[.int .i64 0, .int .i64 0, .slice none 0 0] 41)) (x2.W.alloc (.cells #[.int .i64 p, .int .i64 d, .slice A1 ([] : List T4).length c1] 41)) := (by repeat (first | (with_reducible assumption) | (with_reducible exact Below.refl _ _) | ((with_reducible refine Below.alloc ?_ ?_ _); rotate_left; (focus (first | omega | (simp; done) | (simp; omega) | (simp [Later.le, Later.le_add, Later.lt, Later.lt_add]; done) | (simp [Later.le, Later.le_add, Later.lt, Later.lt_add]; omega)))) | (with_reducible refine Below.drew ?_) | (with_reducible refine pw_below_drewN ?_ _) | ((with_reducible refine Below.setCell ?_ ?_ _); rotate_left; (focus (first | omega | (simp; done) | (simp; omega) | (simp [Later.le, Later.le_add, Later.lt, Later.lt_add]; done) | (simp [Later.le, Later.le_add, Later.lt, Later.lt_add]; omega)))) | ((with_reducible refine below_hop (by assumption) ?_ ?_); rotate_left; (focus (first | omega | (simp; done) | (simp; omega) | (simp [Later.le, Later.le_add, Later.lt, Later.lt_add]; done) | (simp [Later.le, Later.le_add, Later.lt, Later.lt_add]; omega)))) | ((with_reducible refine bel_later _ ?_ ?_); rotate_left; (focus (first | omega | (simp; done) | (simp; omega) | (simp [Later.le, Later.le_add, Later.lt, Later.lt_add]; done) | (simp [Later.le, Later.le_add, Later.lt, Later.lt_add]; omega))))))
      have o0 : (x2.W.alloc (.cells #[.int .i64 p, .int .i64 d, .slice A1 ([] : List T4).length c1] 41)).cell? ⟨ob, 0, none⟩ = some (.int .i64 p) := by rw [← hob]; simp
      have o1 : (x2.W.alloc (.cells #[.int .i64 p, .int .i64 d, .slice A1 ([] : List T4).length c1] 41)).cell? ⟨ob, 1, none⟩ = some (.int .i64 d) := by rw [← hob]; simp
      have o2 : (x2.W.alloc (.cells #[.int .i64 p, .int .i64 d, .slice A1 ([] : List T4).length c1] 41)).cell? ⟨ob, 2, none⟩ = some (.slice A1 ([] : List T4).length c1) := by rw [← hob]; simp
      have o3 : (x2.W.alloc (.cells #[.int .i64 p, .int .i64 d, .slice A1 ([] : List T4).length c1] 41)).frozen? ⟨ob, 2, none⟩ = false := by rw [← hob]; simp
      clear hob gx2
      go_loopg [27] ts.length (fun k v w' => ∃ (i : Nat) (B : Option Addr) (cb : Nat) (y : Later ((w.alloc (.cells #[.int .i64 p, .int .i64 d, .slice A ts.length c] 41)).alloc (.cells #[.int .i64 0, .int .i64 0, .slice none 0 0] 41))), i + k = ts.length ∧ v = .int .i64 i ∧ w' = y.W ∧
        w'.cell? ⟨ob, 0, none⟩ = some (.int .i64 p) ∧ w'.cell? ⟨ob, 1, none⟩ = some (.int .i64 d) ∧ w'.cell? ⟨ob, 2, none⟩ = some (.slice B (partL n (ts.take i)).length cb) ∧
        w'.frozen? ⟨ob, 2, none⟩ = false ∧ kT.R 127 w' (w.heap.size + 2) (fun k => k ≠ ob) (.slice B (partL n (ts.take i)).length cb) (partL n (ts.take i)))
      case atStart => exact ⟨0, A1, c1, ⟨_, HX⟩, by omega, rfl, rfl, o0, o1, o2, o3, hR2⟩
      case round =>
        clear o0 o1 o2 o3 hR2 hR1 HX hC1 hb1
        obtain ⟨i, B, cb, y, hik, rfl, rfl, o0, o1, o2, o3, hR⟩ := hrel
        have HIK := Lib.hid hik
        clear hik
        have g2 : y.W.cell? ⟨w.heap.size, 2, none⟩ = some (.slice A ts.length c) := y.keep (by simp)
        have zob : ob < y.W.heap.size := World.block_lt_of_cell? _ _ o0
        have zw2 : w.heap.size + 2 ≤ y.W.heap.size := by omega
        by_cases hlt : i < ts.length
        · obtain ⟨b, o, hA, q0, q1, q2, q3⟩ := kT_at hC i hlt z4
          subst hA
          have hbw : b < w.heap.size := World.block_lt_of_cell? _ _ q0
          have q0 := y.keep (cell_alloc (cell_alloc q0 _) _)
          have q1 := y.keep (cell_alloc (cell_alloc q1 _) _)
          have q2 := y.keep (cell_alloc (cell_alloc q2 _) _)
          have q3 := y.keep (cell_alloc (cell_alloc q3 _) _)
          have hi0 : (0 : Int) ≤ i := by omega
          have hi1 : (i : Int) < ts.length := by omega
          have hin : ((i : Int)).toNat = i := by omega
          have hps := part_step n ts i hlt
          have hpl : (partL n (ts.take i)).length ≤ 1048576 := Nat.le_trans (part_len _ _) (Nat.le_trans (List.length_take_le' _ _) hn)
          generalize ht : ts.getD i z4 = t at *
          generalize hps0 : partL n (ts.take i) = ps at *
          have HPS := Lib.hid hps
          have HR := Lib.hid hR
          clear hps hps0 ht hR
          have O0 := Lib.hid (cell_alloc o0 (.cells #[.int .u8 (t.e.a.toNat : Int), .int .u8 (t.e.b.toNat : Int), .int .u8 (t.e.c.toNat : Int), .int .i64 t.v] 127))
          have O1 := Lib.hid (cell_alloc o1 (.cells #[.int .u8 (t.e.a.toNat : Int), .int .u8 (t.e.b.toNat : Int), .int .u8 (t.e.c.toNat : Int), .int .i64 t.v] 127))
          have O2 := Lib.hid (cell_alloc o2 (.cells #[.int .u8 (t.e.a.toNat : Int), .int .u8 (t.e.b.toNat : Int), .int .u8 (t.e.c.toNat : Int), .int .i64 t.v] 127))
          have O3 := Lib.hid ((((Below.refl y.W.heap.size y.W).alloc (Nat.le_refl _) (.cells #[.int .u8 (t.e.a.toNat : Int), .int .u8 (t.e.b.toNat : Int), .int .u8 (t.e.c.toNat : Int), .int .i64 t.v] 127)).frozen (p := ⟨ob, 2, none⟩) zob).trans o3)
          have hob' : some ob ≠ (Value.slice B ps.length cb).ownBlock := fun h => HR.out.1 ob h.symm rfl
          cases hd : (degE t.e == n) with
          | false =>
            go_wp2_with ((go_at_call 137; (first | (with_reducible refine call_later3 (degree_c _ _) ?_) | (with_reducible refine call_later4 (degree_c _ _) ?_)); intro x5 hb5))
            go_roundg (ts.length - i - 1)
            case measure => have := HIK.out; omega
            case rel =>
              have e := HPS.out
              rw [hd] at e
              simp only [Bool.false_eq_true, if_false] at e
              refine ⟨i + 1, B, cb, ⟨x5.W, ?_⟩, by have := HIK.out; omega, by go_num, rfl, pw_cell_below hb5 O0.out, pw_cell_below hb5 O1.out, by rw [e]; exact pw_cell_below hb5 O2.out, (hb5.frozen (World.block_lt_of_cell? _ _ O2.out)).trans O3.out, by rw [e]; exact Kd.R_below (Kd.R_alloc HR.out _) hb5⟩
              exact (by repeat (first | (with_reducible assumption) | (with_reducible exact Below.refl _ _) | ((with_reducible refine Below.alloc ?_ ?_ _); rotate_left; (focus (first | omega | (simp; done) | (simp; omega) | (simp [Later.le, Later.le_add, Later.lt, Later.lt_add]; done) | (simp [Later.le, Later.le_add, Later.lt, Later.lt_add]; omega)))) | (with_reducible refine Below.drew ?_) | (with_reducible refine pw_below_drewN ?_ _) | ((with_reducible refine Below.setCell ?_ ?_ _); rotate_left; (focus (first | omega | (simp; done) | (simp; omega) | (simp [Later.le, Later.le_add, Later.lt, Later.lt_add]; done) | (simp [Later.le, Later.le_add, Later.lt, Later.lt_add]; omega)))) | ((with_reducible refine below_hop (by assumption) ?_ ?_); rotate_left; (focus (first | omega | (simp; done) | (simp; omega) | (simp [Later.le, Later.le_add, Later.lt, Later.lt_add]; done) | (simp [Later.le, Later.le_add, Later.lt, Later.lt_add]; omega)))) | ((with_reducible refine bel_later _ ?_ ?_); rotate_left; (focus (first | omega | (simp; done) | (simp; omega) | (simp [Later.le, Later.le_add, Later.lt, Later.lt_add]; done) | (simp [Later.le, Later.le_add, Later.lt, Later.lt_add]; omega))))))
          | true =>
            go_wp2_with (first | ((go_at_call 137; (first | (with_reducible refine call_later3 (degree_c _ _) ?_) | (with_reducible refine call_later4 (degree_c _ _) ?_)); intro x5 hb5); have p2 := pw_cell_below hb5 O2.out; have p3 := (hb5.frozen (World.block_lt_of_cell? _ _ O2.out)).trans O3.out; have y0 := pw_cell_below hb5 (a := ⟨y.W.heap.size, 0, none⟩) (v := .int .u8 (t.e.a.toNat : Int)) (by simp); have y1 := pw_cell_below hb5 (a := ⟨y.W.heap.size, 1, none⟩) (v := .int .u8 (t.e.b.toNat : Int)) (by simp); have y2 := pw_cell_below hb5 (a := ⟨y.W.heap.size, 2, none⟩) (v := .int .u8 (t.e.c.toNat : Int)) (by simp); have y3 := pw_cell_below hb5 (a := ⟨y.W.heap.size, 3, none⟩) (v := .int .i64 t.v) (by simp); have hR5 := Kd.R_below (Kd.R_alloc HR.out _) hb5; have zx5 : y.W.heap.size + 1 ≤ x5.W.heap.size := (by have := hb5.size; simp at this; omega)) | ((with_reducible refine gate_ (.call { callee := .builtin .append, args := #[.tmp 37, .tmp 39], argTypes := #[39, 39] }) rfl ?_); refine Kd.R_append kT (w0 := x5.W) (W := x5.W) (w.heap.size + 2) rfl (.tmp 37) (.tmp 39) 39 127 (.agg #[.int .u8 0, .int .u8 0, .int .u8 0, .int .i64 0]) 16 rfl Try.underlying39 infoT rfl (by decide) (by decide) (.slice B ps.length cb) ps t t.cs (fun k => k ≠ ob) (fun _ => False) rfl rfl rfl (fun _ hk => hk.elim) (fun k hk => by show k ≠ ob; omega) hR5 (Below.refl _ _) (by omega) (by omega) ?_; intro v1 w1 hR6 hB6 hg6 hat6; obtain ⟨B6, c6, rfl, hl6, hC6⟩ := Kd.R_reads hR6; have p2 := far_cell hg6 p2 hob'; have p3 := far_frozen hg6 p3 (by show ob < _; omega) hob'))
            go_roundg (ts.length - i - 1)
            case measure => have := HIK.out; omega
            case rel =>
              have e := HPS.out
              rw [hd] at e
              simp only [if_true] at e
              refine ⟨i + 1, B6, c6, ⟨w1.setCell ⟨ob, 2, none⟩ (.slice B6 (ps.length + 1) c6), ?_⟩, by have := HIK.out; omega, by go_num, rfl, ?_, ?_, ?_, ?_, ?_⟩
              · exact (y.ok.trans ((below_alloc (Below.refl _ y.W) _).mono y.ok.size)).trans ((hb5.mono (by have := y.ok.size; simp at this ⊢; omega)).trans ((hB6.setCell (show w.heap.size + 2 ≤ ob by omega) _).mono (by simp)))
              · exact (World.cell?_setCell_other _ _ _ _ (by simp)).trans (far_cell hg6 (pw_cell_below hb5 O0.out) hob')
              · exact (World.cell?_setCell_other _ _ _ _ (by simp)).trans (far_cell hg6 (pw_cell_below hb5 O1.out) hob')
              · rw [e]
                simpa using World.cell?_setCell_same _ _ _ p2
              · exact (by simp [p3] : (w1.setCell ⟨ob, 2, none⟩ (.slice B6 (ps.length + 1) c6)).frozen? ⟨ob, 2, none⟩ = false)
              · rw [e]
                exact Kd.R_far hR6 (fun k hk => hk) _
        · have hie : i = ts.length := by have := HIK.out; omega
          subst hie
          rw [List.take_length] at o2 hR
          have hsz' : w.heap.size + 1 < y.W.heap.size := by omega
          go_wp2
          refine bodyPost_ret (v := .tuple #[.agg #[.int .i64 p, .int .i64 d, .slice B (partL n ts).length cb], .int .i64 0]) (by simp [results, Try.results56, go_sem]) rfl ?_
          refine ⟨_, _, rfl, ?_, (by repeat (first | (with_reducible assumption) | (with_reducible exact Below.refl _ _) | ((with_reducible refine Below.alloc ?_ ?_ _); rotate_left; (focus (first | omega | (simp; done) | (simp; omega) | (simp [Later.le, Later.le_add, Later.lt, Later.lt_add]; done) | (simp [Later.le, Later.le_add, Later.lt, Later.lt_add]; omega)))) | (with_reducible refine Below.drew ?_) | (with_reducible refine pw_below_drewN ?_ _) | ((with_reducible refine Below.setCell ?_ ?_ _); rotate_left; (focus (first | omega | (simp; done) | (simp; omega) | (simp [Later.le, Later.le_add, Later.lt, Later.lt_add]; done) | (simp [Later.le, Later.le_add, Later.lt, Later.lt_add]; omega)))) | ((with_reducible refine below_hop (by assumption) ?_ ?_); rotate_left; (focus (first | omega | (simp; done) | (simp; omega) | (simp [Later.le, Later.le_add, Later.lt, Later.lt_add]; done) | (simp [Later.le, Later.le_add, Later.lt, Later.lt_add]; omega)))) | ((with_reducible refine bel_later _ ?_ ?_); rotate_left; (focus (first | omega | (simp; done) | (simp; omega) | (simp [Later.le, Later.le_add, Later.lt, Later.lt_add]; done) | (simp [Later.le, Later.le_add, Later.lt, Later.lt_add]; omega))))))⟩
          exact Kd.R_mono (Kd.R_lower (R_old (R_old (R_old hR (p := ⟨w.heap.size + 1, 0, none⟩) (by simp) _) (p := ⟨w.heap.size + 1, 1, none⟩) (by simp) _) (p := ⟨w.heap.size + 1, 2, none⟩) (by simp) _) (by omega)) (fun _ _ => trivial)
end Go.Proofs.Ytgieofidogkbaaa
