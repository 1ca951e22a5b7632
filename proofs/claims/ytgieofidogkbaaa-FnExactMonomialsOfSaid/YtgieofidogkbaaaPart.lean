/- The walks of parts of polynomials; no condition. -/
import Derived.Test.YtgieofidogkbaaaMarks
import Derived.Deep.RegionLaw
set_option linter.unusedVariables false
set_option linter.unusedSimpArgs false
namespace Go.Proofs.Ytgieofidogkbaaa
open Go.RowKit Go.Proofs.YtgieofidogkbaaaW.PrintWords
attribute [local go_sem] Later.cell Later.frozen Later.lt Later.lt_add Later.le Later.le_add Later.ne Later.ne' add_at

theorem MakesP_nil (p d : Int) (E : Nat) (w w' : World) (h : Below w.heap.size w w') (c : Nat) : MakesP p d E [] w (.returned (.agg #[.int .i64 p, .int .i64 d, .slice none 0 0])) w' :=
  ⟨none, 0, rfl, Kd.R_nil _ _ _ _ _, h⟩

theorem R_zero {α : Type} (d : Kd α) {e g base : Nat} {W : World} (hg : W.heap[g]? = some (.cells #[] e (0, 0))) (hb : base ≤ g) : d.R e W base (fun _ => True) (.slice (some ⟨g, 0, none⟩) 0 0) [] :=
  ⟨fun _ _ => trivial, [], ⟨by simp, .inr ⟨g, 0, #[], rfl, hb, hg, Nat.le_refl _, Nat.zero_le _, by simp, by simp⟩⟩, Reps.none _ _⟩
theorem heap_alloc_last (W : World) (O : Obj) : (W.alloc O).heap[W.heap.size]? = some O := by
  show (W.heap.push O)[W.heap.size]? = some O
  simp

theorem l01Empty_c (p d : Int) (w : World) : Calls Try.prog 225 #[.int .i64 p, .int .i64 d] w (MakesP p d 127 [] w) := by
  go_enter Try.func225, Try.ntmps225
  go_wp2
  have hR := R_zero kT (heap_alloc_last (w.alloc (.cells #[.int .i64 p, .int .i64 d, .slice (some ⟨w.heap.size + 1, 0, none⟩) 0 0] 41)) (.cells #[] 127)) (base := w.heap.size) (by simp)
  rw [show (w.alloc (.cells #[.int .i64 p, .int .i64 d, .slice (some ⟨w.heap.size + 1, 0, none⟩) 0 0] 41)).heap.size = w.heap.size + 1 by simp] at hR
  exact bodyPost_ret (v := .agg #[.int .i64 p, .int .i64 d, .slice (some ⟨w.heap.size + 1, 0, none⟩) 0 0]) (by simp [results, Try.results225, go_sem]) rfl ⟨_, _, rfl, hR, (by repeat (first | (with_reducible assumption) | (with_reducible exact Below.refl _ _) | ((with_reducible refine Below.alloc ?_ ?_ _); rotate_left; (focus (first | omega | (simp; done) | (simp; omega) | (simp [Later.le, Later.le_add, Later.lt, Later.lt_add]; done) | (simp [Later.le, Later.le_add, Later.lt, Later.lt_add]; omega)))) | (with_reducible refine Below.drew ?_) | (with_reducible refine pw_below_drewN ?_ _) | ((with_reducible refine Below.setCell ?_ ?_ _); rotate_left; (focus (first | omega | (simp; done) | (simp; omega) | (simp [Later.le, Later.le_add, Later.lt, Later.lt_add]; done) | (simp [Later.le, Later.le_add, Later.lt, Later.lt_add]; omega)))) | ((with_reducible refine below_hop (by assumption) ?_ ?_); rotate_left; (focus (first | omega | (simp; done) | (simp; omega) | (simp [Later.le, Later.le_add, Later.lt, Later.lt_add]; done) | (simp [Later.le, Later.le_add, Later.lt, Later.lt_add]; omega)))) | ((with_reducible refine bel_later _ ?_ ?_); rotate_left; (focus (first | omega | (simp; done) | (simp; omega) | (simp [Later.le, Later.le_add, Later.lt, Later.lt_add]; done) | (simp [Later.le, Later.le_add, Later.lt, Later.lt_add]; omega))))))⟩
theorem zeroPoly_c (p d : Int) (w : World) : Calls Try.prog 150 #[.int .i64 p, .int .i64 d] w (MakesP p d 127 [] w) := by
  go_enter Try.func150, Try.ntmps150
  go_wp2
  exact bodyPost_ret (v := .agg #[.int .i64 p, .int .i64 d, .slice none 0 0]) (by simp [results, Try.results150, go_sem]) rfl (MakesP_nil p d _ _ _ (by repeat (first | (with_reducible assumption) | (with_reducible exact Below.refl _ _) | ((with_reducible refine Below.alloc ?_ ?_ _); rotate_left; (focus (first | omega | (simp; done) | (simp; omega) | (simp [Later.le, Later.le_add, Later.lt, Later.lt_add]; done) | (simp [Later.le, Later.le_add, Later.lt, Later.lt_add]; omega)))) | (with_reducible refine Below.drew ?_) | (with_reducible refine pw_below_drewN ?_ _) | ((with_reducible refine Below.setCell ?_ ?_ _); rotate_left; (focus (first | omega | (simp; done) | (simp; omega) | (simp [Later.le, Later.le_add, Later.lt, Later.lt_add]; done) | (simp [Later.le, Later.le_add, Later.lt, Later.lt_add]; omega)))) | ((with_reducible refine below_hop (by assumption) ?_ ?_); rotate_left; (focus (first | omega | (simp; done) | (simp; omega) | (simp [Later.le, Later.le_add, Later.lt, Later.lt_add]; done) | (simp [Later.le, Later.le_add, Later.lt, Later.lt_add]; omega)))) | ((with_reducible refine bel_later _ ?_ ?_); rotate_left; (focus (first | omega | (simp; done) | (simp; omega) | (simp [Later.le, Later.le_add, Later.lt, Later.lt_add]; done) | (simp [Later.le, Later.le_add, Later.lt, Later.lt_add]; omega)))))) 0)

theorem far_cell {w w' : World} {row : Option Nat} (hg : w.grownBy w' row) {a : Addr} {v : Value} (h : w.cell? a = some v) (hne : some a.block ≠ row) : w'.cell? a = some v :=
  (World.cell?_of_block (hg.block a.block (World.block_lt_of_cell? _ _ h) hne)).trans h
theorem far_frozen {w w' : World} {row : Option Nat} (hg : w.grownBy w' row) {a : Addr} {b : Bool} (h : w.frozen? a = b) (hlt : a.block < w.heap.size) (hne : some a.block ≠ row) : w'.frozen? a = b :=
  (World.frozen?_of_block (hg.block a.block hlt hne)).trans h
/-- The part of degree n of the first i terms. -/
def partL (n : Int) (ts : List T4) : List T4 := ts.filter (fun t => degE t.e == n)
theorem part_step (n : Int) (ts : List T4) (i : Nat) (hi : i < ts.length) : partL n (ts.take (i + 1)) = if degE (ts.getD i z4).e == n then partL n (ts.take i) ++ [ts.getD i z4] else partL n (ts.take i) := by
  rw [List.take_succ_eq_append_getElem hi, partL, List.filter_append]
  have : ts.getD i z4 = ts[i] := by simp [List.getD_eq_getElem?_getD, hi]
  rw [this]
  cases h : (degE ts[i].e == n) <;> simp [partL, h]
theorem part_len (n : Int) (ts : List T4) : (partL n ts).length ≤ ts.length := List.length_filter_le _ _

set_option maxRecDepth 100000 in
set_option maxHeartbeats 1000000 in
theorem l01Part_c (p d n : Int) (A : Option Addr) (c : Nat) (ts : List T4) (w : World) (hC : kT.C w A ts.length ts) (hn : ts.length ≤ 1048576) :
    Calls Try.prog 149 #[.agg #[.int .i64 p, .int .i64 d, .slice A ts.length c], .int .i64 n] w (MakesP p d 127 (partL n ts) w) := by
  go_enter Try.func149, Try.ntmps149
  go_wp2_with (go_at_call 225; (with_reducible refine call_makesP (l01Empty_c _ _ _) ?_); intro x A1 c1 hb1 hl1 hR1 hC1)
  have hsz := x.ok.size
  simp at hsz
  have hR2 := Kd.R_mono (Kd.R_bound hR1) (ok' := fun k => k ≠ x.W.heap.size) (fun k hk he => by have := hk.2.2.1; omega)
  have hR2 := Kd.R_lower hR2 (base' := w.heap.size + 2) (by simp)
  have hR2 := Kd.R_alloc hR2 (.cells #[.int .i64 p, .int .i64 d, .slice A1 ([] : List T4).length c1] 41)
  generalize hob : x.W.heap.size = ob at *
  have HX : Below ((w.alloc (.cells #[.int .i64 p, .int .i64 d, .slice A ts.length c] 41)).alloc (.cells #[.int .i64 0, .int .i64 0, .slice none 0 0] 41)).heap.size ((w.alloc (.cells #[.int .i64 p, .int .i64 d, .slice A ts.length c] 41)).alloc (.cells #[.int .i64 0, .int .i64 0, .slice none 0 0] 41)) (x.W.alloc (.cells #[.int .i64 p, .int .i64 d, .slice A1 ([] : List T4).length c1] 41)) := (by repeat (first | (with_reducible assumption) | (with_reducible exact Below.refl _ _) | ((with_reducible refine Below.alloc ?_ ?_ _); rotate_left; (focus (first | omega | (simp; done) | (simp; omega) | (simp [Later.le, Later.le_add, Later.lt, Later.lt_add]; done) | (simp [Later.le, Later.le_add, Later.lt, Later.lt_add]; omega)))) | (with_reducible refine Below.drew ?_) | (with_reducible refine pw_below_drewN ?_ _) | ((with_reducible refine Below.setCell ?_ ?_ _); rotate_left; (focus (first | omega | (simp; done) | (simp; omega) | (simp [Later.le, Later.le_add, Later.lt, Later.lt_add]; done) | (simp [Later.le, Later.le_add, Later.lt, Later.lt_add]; omega)))) | ((with_reducible refine below_hop (by assumption) ?_ ?_); rotate_left; (focus (first | omega | (simp; done) | (simp; omega) | (simp [Later.le, Later.le_add, Later.lt, Later.lt_add]; done) | (simp [Later.le, Later.le_add, Later.lt, Later.lt_add]; omega)))) | ((with_reducible refine bel_later _ ?_ ?_); rotate_left; (focus (first | omega | (simp; done) | (simp; omega) | (simp [Later.le, Later.le_add, Later.lt, Later.lt_add]; done) | (simp [Later.le, Later.le_add, Later.lt, Later.lt_add]; omega))))))
  have o0 : (x.W.alloc (.cells #[.int .i64 p, .int .i64 d, .slice A1 ([] : List T4).length c1] 41)).cell? ⟨ob, 0, none⟩ = some (.int .i64 p) := by rw [← hob]; simp
  have o1 : (x.W.alloc (.cells #[.int .i64 p, .int .i64 d, .slice A1 ([] : List T4).length c1] 41)).cell? ⟨ob, 1, none⟩ = some (.int .i64 d) := by rw [← hob]; simp
  have o2 : (x.W.alloc (.cells #[.int .i64 p, .int .i64 d, .slice A1 ([] : List T4).length c1] 41)).cell? ⟨ob, 2, none⟩ = some (.slice A1 ([] : List T4).length c1) := by rw [← hob]; simp
  have o3 : (x.W.alloc (.cells #[.int .i64 p, .int .i64 d, .slice A1 ([] : List T4).length c1] 41)).frozen? ⟨ob, 2, none⟩ = false := by rw [← hob]; simp
  clear hob
  go_loopg [6] ts.length (fun k v w' => ∃ (i : Nat) (B : Option Addr) (cb : Nat) (y : Later ((w.alloc (.cells #[.int .i64 p, .int .i64 d, .slice A ts.length c] 41)).alloc (.cells #[.int .i64 0, .int .i64 0, .slice none 0 0] 41))), i + k = ts.length ∧ v = .int .i64 i ∧ w' = y.W ∧
    w'.cell? ⟨ob, 0, none⟩ = some (.int .i64 p) ∧ w'.cell? ⟨ob, 1, none⟩ = some (.int .i64 d) ∧ w'.cell? ⟨ob, 2, none⟩ = some (.slice B (partL n (ts.take i)).length cb) ∧
    w'.frozen? ⟨ob, 2, none⟩ = false ∧ kT.R 127 w' (w.heap.size + 2) (fun k => k ≠ ob) (.slice B (partL n (ts.take i)).length cb) (partL n (ts.take i)))
  case atStart => exact ⟨0, A1, c1, ⟨_, HX⟩, by omega, rfl, rfl, o0, o1, o2, o3, hR2⟩
  case round =>
    clear o0 o1 o2 o3 hR2 hR1 HX hC1 hb1
    obtain ⟨i, B, cb, y, hik, rfl, rfl, o0, o1, o2, o3, hR⟩ := hrel
    have HIK := Lib.hid hik
    have hb : Below w.heap.size w y.W := (by repeat (first | (with_reducible assumption) | (with_reducible exact Below.refl _ _) | ((with_reducible refine Below.alloc ?_ ?_ _); rotate_left; (focus (first | omega | (simp; done) | (simp; omega) | (simp [Later.le, Later.le_add, Later.lt, Later.lt_add]; done) | (simp [Later.le, Later.le_add, Later.lt, Later.lt_add]; omega)))) | (with_reducible refine Below.drew ?_) | (with_reducible refine pw_below_drewN ?_ _) | ((with_reducible refine Below.setCell ?_ ?_ _); rotate_left; (focus (first | omega | (simp; done) | (simp; omega) | (simp [Later.le, Later.le_add, Later.lt, Later.lt_add]; done) | (simp [Later.le, Later.le_add, Later.lt, Later.lt_add]; omega)))) | ((with_reducible refine below_hop (by assumption) ?_ ?_); rotate_left; (focus (first | omega | (simp; done) | (simp; omega) | (simp [Later.le, Later.le_add, Later.lt, Later.lt_add]; done) | (simp [Later.le, Later.le_add, Later.lt, Later.lt_add]; omega)))) | ((with_reducible refine bel_later _ ?_ ?_); rotate_left; (focus (first | omega | (simp; done) | (simp; omega) | (simp [Later.le, Later.le_add, Later.lt, Later.lt_add]; done) | (simp [Later.le, Later.le_add, Later.lt, Later.lt_add]; omega))))))
    have HB := Lib.hid hb
    clear hik hb
    have g2 : y.W.cell? ⟨w.heap.size, 2, none⟩ = some (.slice A ts.length c) := y.keep (by simp)
    have zob : ob < y.W.heap.size := World.block_lt_of_cell? _ _ o0
    by_cases hlt : i < ts.length
    · obtain ⟨b, o, hA, q0, q1, q2, q3⟩ := kT_at hC i hlt z4
      subst hA
      have hbw := World.block_lt_of_cell? _ _ q0
      have q0 := (HB.out.cell (World.block_lt_of_cell? _ _ q0)).trans q0
      have q1 := (HB.out.cell (World.block_lt_of_cell? _ _ q1)).trans q1
      have q2 := (HB.out.cell (World.block_lt_of_cell? _ _ q2)).trans q2
      have q3 := (HB.out.cell (World.block_lt_of_cell? _ _ q3)).trans q3
      have hi0 : (0 : Int) ≤ i := by omega
      have hi1 : (i : Int) < ts.length := by omega
      have hin : ((i : Int)).toNat = i := by omega
      have hps := part_step n ts i hlt
      have hpl : (partL n (ts.take i)).length ≤ 1048576 := Nat.le_trans (part_len _ _) (Nat.le_trans (List.length_take_le' _ _) hn)
      generalize ht : ts.getD i z4 = t at *
      generalize hps0 : partL n (ts.take i) = ps at *
      have HPS := Lib.hid hps
      have HR := Lib.hid hR
      clear hps hps0 ht hR
      cases hd : (degE t.e == n) with
      | false =>
        go_wp2_with ((go_at_call 223; (first | (with_reducible refine call_later3 (l01Sum_c _ _) ?_) | (with_reducible refine call_later4 (l01Sum_c _ _) ?_)); intro x5 hb5))
        go_roundg (ts.length - i - 1)
        case measure => have := HIK.out; omega
        case rel =>
          have e := HPS.out
          rw [hd] at e
          simp only [Bool.false_eq_true, if_false] at e
          refine ⟨i + 1, B, cb, ⟨x5.W, y.ok.trans (hb5.mono y.ok.size)⟩, by have := HIK.out; omega, by go_num, rfl, pw_cell_below hb5 o0, pw_cell_below hb5 o1, by rw [e]; exact pw_cell_below hb5 o2, (hb5.frozen (World.block_lt_of_cell? _ _ o2)).trans o3, by rw [e]; exact Kd.R_below HR.out hb5⟩
      | true =>
        go_wp2_with ((go_at_call 223; (first | (with_reducible refine call_later3 (l01Sum_c _ _) ?_) | (with_reducible refine call_later4 (l01Sum_c _ _) ?_)); intro x5 hb5))
        have hgw := Lib.hid (World.block_lt_of_cell? _ _ g2)
        have hbx := y.ok.trans (hb5.mono y.ok.size)
        have HB5 := Lib.hid hbx
        have hR5 := Kd.R_below HR.out hb5
        have g2 := pw_cell_below hb5 g2
        have o0 := pw_cell_below hb5 o0
        have o1 := pw_cell_below hb5 o1
        have o3 := (hb5.frozen (World.block_lt_of_cell? _ _ o2)).trans o3
        have o2 := pw_cell_below hb5 o2
        have q0 := pw_cell_below hb5 q0
        have q1 := pw_cell_below hb5 q1
        have q2 := pw_cell_below hb5 q2
        have q3 := pw_cell_below hb5 q3
        have zob : ob < x5.W.heap.size := World.block_lt_of_cell? _ _ o0
        have zw : w.heap.size < x5.W.heap.size := World.block_lt_of_cell? _ _ g2
        have hbw' : b < w.heap.size := hbw
        have hobw : ob ≠ w.heap.size := by omega
        have hbob : b ≠ ob := by omega
        have hbw5 : b < x5.W.heap.size := by omega
        have hw2 : w.heap.size + 2 ≤ x5.W.heap.size := by omega
        have hne5 : some ob ≠ (Value.slice B ps.length cb).ownBlock := fun h => hR5.1 ob h.symm rfl
        have hnw5 : some w.heap.size ≠ (Value.slice B ps.length cb).ownBlock := fun h => by have := Kd.R_base hR5 _ h.symm; omega
        clear hbx hb5 HR HB
        generalize x5.W = W5 at *
        go_region_law? (refine Kd.R_append_step kT (w0 := W5) (W := W5.drew) (w.heap.size + 2) (by rfl) (.tmp 29) (.tmp 35) 39 127 (.agg #[.int .u8 0, .int .u8 0, .int .u8 0, .int .i64 0]) 16 rfl Try.underlying39 infoT rfl (by decide) (by decide) (.slice B ps.length cb) ps t t.cs (fun k => k ≠ ob) (fun _ => False) rfl rfl rfl (fun _ hk => hk.elim) (fun k hk => by show k ≠ ob; simp at hk; omega) (Kd.R_below hR5 (by repeat (first | (with_reducible assumption) | (with_reducible exact Below.refl _ _) | ((with_reducible refine Below.alloc ?_ ?_ _); rotate_left; (focus (first | omega | (simp; done) | (simp; omega) | (simp [Later.le, Later.le_add, Later.lt, Later.lt_add]; done) | (simp [Later.le, Later.le_add, Later.lt, Later.lt_add]; omega)))) | (with_reducible refine Below.drew ?_) | (with_reducible refine pw_below_drewN ?_ _) | ((with_reducible refine Below.setCell ?_ ?_ _); rotate_left; (focus (first | omega | (simp; done) | (simp; omega) | (simp [Later.le, Later.le_add, Later.lt, Later.lt_add]; done) | (simp [Later.le, Later.le_add, Later.lt, Later.lt_add]; omega)))) | ((with_reducible refine below_hop (by assumption) ?_ ?_); rotate_left; (focus (first | omega | (simp; done) | (simp; omega) | (simp [Later.le, Later.le_add, Later.lt, Later.lt_add]; done) | (simp [Later.le, Later.le_add, Later.lt, Later.lt_add]; omega)))) | ((with_reducible refine bel_later _ ?_ ?_); rotate_left; (focus (first | omega | (simp; done) | (simp; omega) | (simp [Later.le, Later.le_add, Later.lt, Later.lt_add]; done) | (simp [Later.le, Later.le_add, Later.lt, Later.lt_add]; omega))))))) (by repeat (first | (with_reducible assumption) | (with_reducible exact Below.refl _ _) | ((with_reducible refine Below.alloc ?_ ?_ _); rotate_left; (focus (first | omega | (simp; done) | (simp; omega) | (simp [Later.le, Later.le_add, Later.lt, Later.lt_add]; done) | (simp [Later.le, Later.le_add, Later.lt, Later.lt_add]; omega)))) | (with_reducible refine Below.drew ?_) | (with_reducible refine pw_below_drewN ?_ _) | ((with_reducible refine Below.setCell ?_ ?_ _); rotate_left; (focus (first | omega | (simp; done) | (simp; omega) | (simp [Later.le, Later.le_add, Later.lt, Later.lt_add]; done) | (simp [Later.le, Later.le_add, Later.lt, Later.lt_add]; omega)))) | ((with_reducible refine below_hop (by assumption) ?_ ?_); rotate_left; (focus (first | omega | (simp; done) | (simp; omega) | (simp [Later.le, Later.le_add, Later.lt, Later.lt_add]; done) | (simp [Later.le, Later.le_add, Later.lt, Later.lt_add]; omega)))) | ((with_reducible refine bel_later _ ?_ ?_); rotate_left; (focus (first | omega | (simp; done) | (simp; omega) | (simp [Later.le, Later.le_add, Later.lt, Later.lt_add]; done) | (simp [Later.le, Later.le_add, Later.lt, Later.lt_add]; omega)))))) (by simp; omega) (by omega) ?_; intro v1 w1 hR6 hB6 hg6 hat6; obtain ⟨B6, c6, rfl, hl6, hC6⟩ := Kd.R_reads hR6; have o2 := far_cell hg6 (show W5.drew.cell? ⟨ob, 2, none⟩ = _ from o2) hne5; have o3 := far_frozen hg6 (show W5.drew.frozen? ⟨ob, 2, none⟩ = _ from o3) zob hne5)
        all_goals
          go_wp2
          go_roundg (ts.length - i - 1)
          case measure => have := HIK.out; omega
          case rel =>
            have e := HPS.out
            rw [hd] at e
            simp only [if_true] at e
            refine ⟨i + 1, B6, c6, ⟨w1.setCell ⟨ob, 2, none⟩ (.slice B6 (ps.length + 1) c6), ?_⟩, by have := HIK.out; omega, by go_num, rfl, ?_, ?_, ?_, ?_, ?_⟩
            · exact HB5.out.trans ((hB6.setCell (show w.heap.size + 2 ≤ ob by omega) _).mono (by simp))
            · exact (World.cell?_setCell_other _ _ _ _ (by simp)).trans (far_cell hg6 (show W5.drew.cell? ⟨ob, 0, none⟩ = _ from o0) hne5)
            · exact (World.cell?_setCell_other _ _ _ _ (by simp)).trans (far_cell hg6 (show W5.drew.cell? ⟨ob, 1, none⟩ = _ from o1) hne5)
            · rw [e]
              simpa using World.cell?_setCell_same _ _ _ o2
            · exact (by simp [o3] : (w1.setCell ⟨ob, 2, none⟩ (.slice B6 (ps.length + 1) c6)).frozen? ⟨ob, 2, none⟩ = false)
            · rw [e]
              exact Kd.R_far hR6 (fun k hk => hk) _
    · have hie : i = ts.length := by have := HIK.out; omega
      subst hie
      rw [List.take_length] at o2 hR
      have hsz' : w.heap.size + 1 < y.W.heap.size := by omega
      go_wp2
      refine bodyPost_ret (v := .agg #[.int .i64 p, .int .i64 d, .slice B (partL n ts).length cb]) (by simp [results, Try.results149, go_sem]) rfl ⟨_, _, rfl, ?_, (by repeat (first | (with_reducible assumption) | (with_reducible exact Below.refl _ _) | ((with_reducible refine Below.alloc ?_ ?_ _); rotate_left; (focus (first | omega | (simp; done) | (simp; omega) | (simp [Later.le, Later.le_add, Later.lt, Later.lt_add]; done) | (simp [Later.le, Later.le_add, Later.lt, Later.lt_add]; omega)))) | (with_reducible refine Below.drew ?_) | (with_reducible refine pw_below_drewN ?_ _) | ((with_reducible refine Below.setCell ?_ ?_ _); rotate_left; (focus (first | omega | (simp; done) | (simp; omega) | (simp [Later.le, Later.le_add, Later.lt, Later.lt_add]; done) | (simp [Later.le, Later.le_add, Later.lt, Later.lt_add]; omega)))) | ((with_reducible refine below_hop (by assumption) ?_ ?_); rotate_left; (focus (first | omega | (simp; done) | (simp; omega) | (simp [Later.le, Later.le_add, Later.lt, Later.lt_add]; done) | (simp [Later.le, Later.le_add, Later.lt, Later.lt_add]; omega)))) | ((with_reducible refine bel_later _ ?_ ?_); rotate_left; (focus (first | omega | (simp; done) | (simp; omega) | (simp [Later.le, Later.le_add, Later.lt, Later.lt_add]; done) | (simp [Later.le, Later.le_add, Later.lt, Later.lt_add]; omega))))))⟩
      exact Kd.R_mono (Kd.R_lower (R_old (R_old (R_old hR (p := ⟨w.heap.size + 1, 0, none⟩) (by simp) _) (p := ⟨w.heap.size + 1, 1, none⟩) (by simp) _) (p := ⟨w.heap.size + 1, 2, none⟩) (by simp) _) (by omega)) (fun _ _ => trivial)
end Go.Proofs.Ytgieofidogkbaaa
