/- The walk of the law FnExactCharacterOf; no condition. -/
import Derived.Test.YtjhkeehfchkpaaaGreatYE4
import Derived.Test.YtjhkeehfchkpaaaGreatYKitCh
import Derived.Test.YtjhkeehfchkpaaaGreatYKitK
import Derived.Deep.RegionWith
import Derived.Deep.RegionHeld3
import Derived.Deep.CutRange
set_option linter.unusedVariables false
set_option linter.unusedSimpArgs false
namespace Go.Proofs.YtjhkeehfchkpaaaGreat
open Go.RowKit Go.Proofs.YtjhkeehfchkpaaaGreatW.PrintWords
attribute [local go_sem] Later.cell Later.frozen Later.lt Later.lt_add Later.le Later.le_add Later.ne Later.ne' add_at
attribute [local go_sem] later_drew2 later_drewf2
set_option maxRecDepth 100000 in
set_option maxRecDepth 100000 in
set_option maxHeartbeats 40000000 in
theorem lawCharacterOf_c (p0 d0 : Int) (A0 : Option Addr) (c0 : Nat) (ts0 : List M9) (p1 d1 : Int) (A1 : Option Addr) (c1 : Nat) (ts1 : List T4) (w : World) (hC0 : kM.C w A0 ts0.length ts0) (hn0 : ts0.length ≤ 9223372036854775807) (hC1 : kT.C w A1 ts1.length ts1) (hn1 : ts1.length ≤ 9223372036854775807) :
    Calls Tryz.prog 8 #[.agg #[.int .i64 p0, .int .i64 d0, .slice A0 ts0.length c0], .agg #[.int .i64 p1, .int .i64 d1, .slice A1 ts1.length c1]] w (Gives (.bool true) w) := by
  by_cases hs0 : (1048576 : Int) < ts0.length
  · have H := szGroup_c p0 d0 A0 ts0.length c0 (1048576) (by omega) (by omega) hn0
    rw [if_pos hs0] at H
    have HH0 := Lib.hid H
    clear H
    go_enter Tryz.func8, Tryz.ntmps8
    go_wp2_with (first | (go_at_call 13; (first | (with_reducible refine call_later2 (HH0.out _) ?_) | (with_reducible refine call_later (HH0.out _) ?_)); intro x))
    go_ret
    exact .mk rfl bq3
  have H := szGroup_c p0 d0 A0 ts0.length c0 (1048576) (by omega) (by omega) hn0
  rw [if_neg hs0] at H
  have HH0 := Lib.hid H
  clear H
  have hm0 : ts0.length ≤ 1048576 := by omega
  have hneg0 : ¬ (1048576 - (ts0.length : Int)) < 0 := by omega
  by_cases hs1 : (1048576 - (ts0.length : Int) : Int) < ts1.length
  · have H := szPoly_c p1 d1 A1 ts1.length c1 (1048576 - (ts0.length : Int)) (by omega) (by omega) hn1
    rw [if_pos hs1] at H
    have HH1 := Lib.hid H
    clear H
    go_enter Tryz.func8, Tryz.ntmps8
    go_wp2_with (first | (go_at_call 13; (first | (with_reducible refine call_later2 (HH0.out _) ?_) | (with_reducible refine call_later (HH0.out _) ?_)); intro x) | (go_at_call 14; (first | (with_reducible refine call_later2 (HH1.out _) ?_) | (with_reducible refine call_later (HH1.out _) ?_)); intro x))
    go_ret
    exact .mk rfl bq3
  have H := szPoly_c p1 d1 A1 ts1.length c1 (1048576 - (ts0.length : Int)) (by omega) (by omega) hn1
  rw [if_neg hs1] at H
  have HH1 := Lib.hid H
  clear H
  have hm1 : ts1.length ≤ 1048576 := by omega
  have hneg1 : ¬ (1048576 - (ts0.length : Int) - (ts1.length : Int)) < 0 := by omega
  have HC0 := Lib.hid hC0
  have HC1 := Lib.hid hC1
  have HL := Lib.hid (chR_len _ _ _ _ _ _ : (chR p0 d0 ts0 p1 d1 ts1).xs.length ≤ 1048576)
  have HS := Lib.hid (fun B0 f0 B1 f1 W h0 h1 => specCharacterOf_c p0 d0 B0 f0 ts0 p1 d1 B1 f1 ts1 W h0 h1 hn0 hn1)
  have HI := Lib.hid (fun B0 f0 B1 f1 W h0 h1 => implCharacterOf_c p0 d0 B0 f0 ts0 p1 d1 B1 f1 ts1 W h0 h1 hn0 hn1)
  generalize hres : chR p0 d0 ts0 p1 d1 ts1 = r at *
  clear hres
  go_enter Tryz.func8, Tryz.ntmps8
  go_wp2_with (go_at_call 13; (with_reducible refine to_gives (V := ((w.alloc (.cells #[.int .i64 p0, .int .i64 d0, .slice A0 ts0.length c0] 24)).alloc (.cells #[.int .i64 p1, .int .i64 d1, .slice A1 ts1.length c1] 27))) bq3 (HH0.out _) ?_); intro V1 hv hvw; have a0_0 : V1.cell? ⟨w.heap.size, 0, none⟩ = some (.int .i64 p0) := pw_cell_below hv (by first | (simp; done) | (simp [go_sem]; done)); have a0_1 : V1.cell? ⟨w.heap.size, 1, none⟩ = some (.int .i64 d0) := pw_cell_below hv (by first | (simp; done) | (simp [go_sem]; done)); have a0_2 : V1.cell? ⟨w.heap.size, 2, none⟩ = some (.slice A0 ts0.length c0) := pw_cell_below hv (by first | (simp; done) | (simp [go_sem]; done)); have a1_0 : V1.cell? ⟨w.heap.size + 1, 0, none⟩ = some (.int .i64 p1) := pw_cell_below hv (by first | (simp; done) | (simp [go_sem]; done)); have a1_1 : V1.cell? ⟨w.heap.size + 1, 1, none⟩ = some (.int .i64 d1) := pw_cell_below hv (by first | (simp; done) | (simp [go_sem]; done)); have a1_2 : V1.cell? ⟨w.heap.size + 1, 2, none⟩ = some (.slice A1 ts1.length c1) := pw_cell_below hv (by first | (simp; done) | (simp [go_sem]; done)); have hw : Below w.heap.size w V1 := Below.trans (by exact bq3) (hv.mono (by first | (simp; done) | (simp; omega))); have hz := hv.size; (try simp at hz); have zba0 : w.heap.size < V1.heap.size := World.block_lt_of_cell? _ _ a0_0; have zta0 := zba0; have zba1 : w.heap.size + 1 < V1.heap.size := World.block_lt_of_cell? _ _ a1_0; have zta1 := zba1; clear hv hvw)
  go_wp2_with (go_at_call 14; (with_reducible refine to_gives (V := V1) bq3 (HH1.out _) ?_); intro V2 hv hvw; replace a0_0 := pw_cell_below hv a0_0; replace a0_1 := pw_cell_below hv a0_1; replace a0_2 := pw_cell_below hv a0_2; replace a1_0 := pw_cell_below hv a1_0; replace a1_1 := pw_cell_below hv a1_1; replace a1_2 := pw_cell_below hv a1_2; replace hw := hw.trans (Below.mono hv hw.size); have hz := Below.size hv; replace zba0 : w.heap.size < V2.heap.size := World.block_lt_of_cell? _ _ a0_0; replace zba1 : w.heap.size + 1 < V2.heap.size := World.block_lt_of_cell? _ _ a1_0; clear hv hvw)
  go_wp2_with fail
  go_cut [6, 7] from 27 to 34 (fun v1 v2 wx => ∃ (Bw : Option Addr) (fw : Nat), v1 = .slice Bw r.xs.length fw ∧ v2 = .int .i64 r.c ∧ Below V2.heap.size V2 wx ∧ kI.R 2 wx V2.heap.size (fun k => V2.heap.size ≤ k ∧ k < wx.heap.size) (.slice Bw r.xs.length fw) r.xs)
  case first =>
    go_region_held3 (fun w' => w'.cell? ⟨w.heap.size, 0, none⟩ = some (.int .i64 p0) ∧ w'.cell? ⟨w.heap.size, 1, none⟩ = some (.int .i64 d0) ∧ w'.cell? ⟨w.heap.size, 2, none⟩ = some (.slice A0 ts0.length c0) ∧ w'.cell? ⟨w.heap.size + 1, 0, none⟩ = some (.int .i64 p1) ∧ w'.cell? ⟨w.heap.size + 1, 1, none⟩ = some (.int .i64 d1) ∧ w'.cell? ⟨w.heap.size + 1, 2, none⟩ = some (.slice A1 ts1.length c1)) ((refine ⟨?_, ?_, ?_, ?_, ?_, ?_⟩ <;> ((repeat (refine cell_far2 ?_ (by dsimp only; omega))); (first | assumption | (exact cell_alloc (by assumption) _))))) (first
      | (go_at_call 16; (first | (with_reducible refine call_makesG2 (toGroup_c _ _ _ _ _ _ ?hcc hm0) ?_) | (with_reducible refine call_makesG (toGroup_c _ _ _ _ _ _ ?hcc hm0) ?_)); (case hcc => exact Kd.C_below HC0.out bq4); intro x0 Bt0 ft0 hb0 hl0 hR0 hK0; have z0 := hb0.size; (try simp at z0); have y0 := x0.ok.size; (try simp at y0); have hqx0 : Below V2.heap.size V2 x0.W := bq4; have kx0a0_0 := pw_cell_below hqx0 a0_0; have kx0a0_1 := pw_cell_below hqx0 a0_1; have kx0a0_2 := pw_cell_below hqx0 a0_2; have kx0a1_0 := pw_cell_below hqx0 a1_0; have kx0a1_1 := pw_cell_below hqx0 a1_1; have kx0a1_2 := pw_cell_below hqx0 a1_2)
      | (go_at_call 17; (first | (with_reducible refine call_makesP2 (toPoly_c _ _ _ _ _ _ ?hcc hm1) ?_) | (with_reducible refine call_makesP (toPoly_c _ _ _ _ _ _ ?hcc hm1) ?_)); (case hcc => exact Kd.C_below HC1.out bq4); intro x1 Bt1 ft1 hb1 hl1 hR1 hK1; have z1 := hb1.size; (try simp at z1); have y1 := x1.ok.size; (try simp at y1); have hqx1 : Below V2.heap.size V2 x1.W := bq4; have kx1a0_0 := pw_cell_below hqx1 a0_0; have kx1a0_1 := pw_cell_below hqx1 a0_1; have kx1a0_2 := pw_cell_below hqx1 a0_2; have kx1a1_0 := pw_cell_below hqx1 a1_0; have kx1a1_1 := pw_cell_below hqx1 a1_1; have kx1a1_2 := pw_cell_below hqx1 a1_2)
      | (go_at_call 35; (first | (with_reducible refine call_makesIC2 (HS.out Bt0 ft0 Bt1 ft1 _ ?hk0 ?hk1) ?_) | (with_reducible refine call_makesIC (HS.out Bt0 ft0 Bt1 ft1 _ ?hk0 ?hk1) ?_)); (case hk0 => exact Kd.C_below hK0 bq4); (case hk1 => exact Kd.C_below hK1 bq4); intro xx Bw fw hb hl hR; have zz := hb.size; (try simp at zz); have yy := xx.ok.size; (try simp at yy); have hqxx : Below V2.heap.size V2 xx.W := bq4; have kxxa0_0 := pw_cell_below hqxx a0_0; have kxxa0_1 := pw_cell_below hqxx a0_1; have kxxa0_2 := pw_cell_below hqxx a0_2; have kxxa1_0 := pw_cell_below hqxx a1_0; have kxxa1_1 := pw_cell_below hqxx a1_1; have kxxa1_2 := pw_cell_below hqxx a1_2))
    all_goals (go_wp2_with fail; go_meet)
    all_goals refine ⟨Bw, fw, rfl, rfl, hqxx, ?_⟩
    all_goals first | (exact rowCut_same hR (by omega)) | (rw [World.size_alloc] at hR; exact rowCut_same hR (by omega))
  case rest =>
    obtain ⟨Bw, fw, rfl, rfl, hv, Rw⟩ := hcut
    generalize wc = V3 at *
    replace a0_0 := pw_cell_below hv a0_0
    replace a0_1 := pw_cell_below hv a0_1
    replace a0_2 := pw_cell_below hv a0_2
    replace a1_0 := pw_cell_below hv a1_0
    replace a1_1 := pw_cell_below hv a1_1
    replace a1_2 := pw_cell_below hv a1_2
    replace hw := hw.trans (Below.mono hv hw.size)
    have hz := Below.size hv
    replace zba0 : w.heap.size < V3.heap.size := World.block_lt_of_cell? _ _ a0_0
    replace zba1 : w.heap.size + 1 < V3.heap.size := World.block_lt_of_cell? _ _ a1_0
    clear hv
    go_wp2_with (go_at_call 16; (with_reducible refine to_makesG (V := V3) bq3 (toGroup_c _ _ _ _ _ _ (Kd.C_below HC0.out (below_later hw bq3)) hm0) ?_); intro V4 Bx0 fx0 hv hvw hl hR; replace a0_0 := pw_cell_below hv a0_0; replace a0_1 := pw_cell_below hv a0_1; replace a0_2 := pw_cell_below hv a0_2; replace a1_0 := pw_cell_below hv a1_0; replace a1_1 := pw_cell_below hv a1_1; replace a1_2 := pw_cell_below hv a1_2; replace Rw := Kd.R_below Rw hv; replace hw := hw.trans (Below.mono hv hw.size); have hz := Below.size hv; replace zba0 : w.heap.size < V4.heap.size := World.block_lt_of_cell? _ _ a0_0; replace zba1 : w.heap.size + 1 < V4.heap.size := World.block_lt_of_cell? _ _ a1_0; have Rx0 := rowIv hR (lo := V3.heap.size) (by simp); clear hR hl hvw hv)
    go_wp2_with (go_at_call 17; (with_reducible refine to_makesP (V := V4) bq3 (toPoly_c _ _ _ _ _ _ (Kd.C_below HC1.out (below_later hw bq3)) hm1) ?_); intro V5 Bx1 fx1 hv hvw hl hR; have bx0_0 := pw_cell_below hvw (a := ⟨V4.heap.size, 0, none⟩) (v := .int .i64 p0) (by simp); have bx0_1 := pw_cell_below hvw (a := ⟨V4.heap.size, 1, none⟩) (v := .int .i64 d0) (by simp); have bx0_2 := pw_cell_below hvw (a := ⟨V4.heap.size, 2, none⟩) (v := .slice Bx0 ts0.length fx0) (by simp); have zbbx0 : V4.heap.size < V5.heap.size := World.block_lt_of_cell? _ _ bx0_0; have ztbx0 := zbbx0; replace a0_0 := pw_cell_below hv a0_0; replace a0_1 := pw_cell_below hv a0_1; replace a0_2 := pw_cell_below hv a0_2; replace a1_0 := pw_cell_below hv a1_0; replace a1_1 := pw_cell_below hv a1_1; replace a1_2 := pw_cell_below hv a1_2; replace Rw := Kd.R_below Rw hv; replace Rx0 := Kd.R_below Rx0 hv; replace hw := hw.trans (Below.mono hv hw.size); have hz := Below.size hv; replace zba0 : w.heap.size < V5.heap.size := World.block_lt_of_cell? _ _ a0_0; replace zba1 : w.heap.size + 1 < V5.heap.size := World.block_lt_of_cell? _ _ a1_0; have Rx1 := rowIv hR (lo := V4.heap.size + 1) (by simp); clear hR hl hvw hv)
    go_wp2_with (go_at_call 36; (with_reducible refine to_makesIC (V := V5) bq3 (HI.out _ _ _ _ _ (Kd.C_below (Kd.R_reads' Rx0).2.2 bq3) (Kd.C_below (Kd.R_reads' Rx1).2.2 bq3)) ?_); intro V6 Bg fg hv hvw hl hR; have bx1_0 := pw_cell_below hvw (a := ⟨V5.heap.size, 0, none⟩) (v := .int .i64 p1) (by simp); have bx1_1 := pw_cell_below hvw (a := ⟨V5.heap.size, 1, none⟩) (v := .int .i64 d1) (by simp); have bx1_2 := pw_cell_below hvw (a := ⟨V5.heap.size, 2, none⟩) (v := .slice Bx1 ts1.length fx1) (by simp); have zbbx1 : V5.heap.size < V6.heap.size := World.block_lt_of_cell? _ _ bx1_0; have ztbx1 := zbbx1; replace a0_0 := pw_cell_below hv a0_0; replace a0_1 := pw_cell_below hv a0_1; replace a0_2 := pw_cell_below hv a0_2; replace a1_0 := pw_cell_below hv a1_0; replace a1_1 := pw_cell_below hv a1_1; replace a1_2 := pw_cell_below hv a1_2; replace bx0_0 := pw_cell_below hv bx0_0; replace bx0_1 := pw_cell_below hv bx0_1; replace bx0_2 := pw_cell_below hv bx0_2; replace Rw := Kd.R_below Rw hv; replace Rx0 := Kd.R_below Rx0 hv; replace Rx1 := Kd.R_below Rx1 hv; replace hw := hw.trans (Below.mono hv hw.size); have hz := Below.size hv; replace zba0 : w.heap.size < V6.heap.size := World.block_lt_of_cell? _ _ a0_0; replace zba1 : w.heap.size + 1 < V6.heap.size := World.block_lt_of_cell? _ _ a1_0; replace zbbx0 : V4.heap.size < V6.heap.size := World.block_lt_of_cell? _ _ bx0_0; have Rg := rowIv hR (lo := V5.heap.size + 1) (by simp); clear hR hl hvw hv)
    go_wp2_with (go_at_call 30; (with_reducible refine to_gives (V := V6) bq3 (eqI_same _ _ _ _ _ _ (Kd.C_below (Kd.R_reads' Rg).2.2 bq3) (Kd.C_below (Kd.R_reads' Rw).2.2 bq3) HL.out) ?_); intro V7 hv hvw; replace a0_0 := pw_cell_below hv a0_0; replace a0_1 := pw_cell_below hv a0_1; replace a0_2 := pw_cell_below hv a0_2; replace a1_0 := pw_cell_below hv a1_0; replace a1_1 := pw_cell_below hv a1_1; replace a1_2 := pw_cell_below hv a1_2; replace bx0_0 := pw_cell_below hv bx0_0; replace bx0_1 := pw_cell_below hv bx0_1; replace bx0_2 := pw_cell_below hv bx0_2; replace bx1_0 := pw_cell_below hv bx1_0; replace bx1_1 := pw_cell_below hv bx1_1; replace bx1_2 := pw_cell_below hv bx1_2; replace Rw := Kd.R_below Rw hv; replace Rx0 := Kd.R_below Rx0 hv; replace Rx1 := Kd.R_below Rx1 hv; replace Rg := Kd.R_below Rg hv; replace hw := hw.trans (Below.mono hv hw.size); have hz := Below.size hv; replace zba0 : w.heap.size < V7.heap.size := World.block_lt_of_cell? _ _ a0_0; replace zba1 : w.heap.size + 1 < V7.heap.size := World.block_lt_of_cell? _ _ a1_0; replace zbbx0 : V4.heap.size < V7.heap.size := World.block_lt_of_cell? _ _ bx0_0; replace zbbx1 : V5.heap.size < V7.heap.size := World.block_lt_of_cell? _ _ bx1_0; clear hv hvw)
    go_wp2_with fail
    have KK := Lib.hid (And.intro a1_0 (And.intro a1_1 (And.intro a1_2 (And.intro bx1_0 (And.intro bx1_1 (And.intro bx1_2 (And.intro Rw (And.intro Rx1 (Rg)))))))))
    clear a1_0 a1_1 a1_2 bx1_0 bx1_1 bx1_2 Rw Rx1 Rg
    go_region_held3 (fun w' => w'.cell? ⟨V4.heap.size, 0, none⟩ = some (.int .i64 p0) ∧ w'.cell? ⟨V4.heap.size, 1, none⟩ = some (.int .i64 d0) ∧ w'.cell? ⟨V4.heap.size, 2, none⟩ = some (.slice Bx0 ts0.length fx0) ∧ w'.cell? ⟨w.heap.size, 0, none⟩ = some (.int .i64 p0) ∧ w'.cell? ⟨w.heap.size, 1, none⟩ = some (.int .i64 d0) ∧ w'.cell? ⟨w.heap.size, 2, none⟩ = some (.slice A0 ts0.length c0)) ((refine ⟨?_, ?_, ?_, ?_, ?_, ?_⟩ <;> ((repeat (refine cell_far2 ?_ (by dsimp only; omega))); (first | assumption | (exact cell_alloc (by assumption) _))))) (first
      | (go_at_call 16; (with_reducible refine to_makesG (V := V7) ?hww (toGroup_c _ _ _ _ _ _ ?hcc hm0) ?_); (case hww => exact bq4); (case hcc => exact Kd.C_below HC0.out (below_later hw bq4)); intro V8 Bq fq hv hvw hl hR; have Rq := (Kd.R_reads' hR).2.2; clear hR hl; have mbx0_0 := pw_cell_below hv bx0_0; have mbx0_1 := pw_cell_below hv bx0_1; have mbx0_2 := pw_cell_below hv bx0_2; have ma0_0 := pw_cell_below hv a0_0; have ma0_1 := pw_cell_below hv a0_1; have ma0_2 := pw_cell_below hv a0_2)
      | (go_at_call 19; (with_reducible refine to_gives (V := V7) ?hww (eqGroup_same _ _ _ _ _ _ _ _ ?hcc ?hcd hm0) ?_); (case hww => exact bq4); (case hcc => exact Kd.C_below (Kd.R_reads' Rx0).2.2 bq4); (case hcd => exact Kd.C_below Rq bq4); intro V9 hv2 hvw2; have qbx0_0 := pw_cell_below hv2 bx0_0; have qbx0_1 := pw_cell_below hv2 bx0_1; have qbx0_2 := pw_cell_below hv2 bx0_2; have qa0_0 := pw_cell_below hv2 a0_0; have qa0_1 := pw_cell_below hv2 a0_1; have qa0_2 := pw_cell_below hv2 a0_2))
    obtain ⟨a1_0, a1_1, a1_2, bx1_0, bx1_1, bx1_2, Rw, Rx1, Rg⟩ := KK.out
    clear KK
    clear Rq hvw2 hvw hv mbx0_0 qbx0_0 mbx0_1 qbx0_1 mbx0_2 qbx0_2 ma0_0 qa0_0 ma0_1 qa0_1 ma0_2 qa0_2
    replace a0_0 := pw_cell_below hv2 a0_0
    replace a0_1 := pw_cell_below hv2 a0_1
    replace a0_2 := pw_cell_below hv2 a0_2
    replace a1_0 := pw_cell_below hv2 a1_0
    replace a1_1 := pw_cell_below hv2 a1_1
    replace a1_2 := pw_cell_below hv2 a1_2
    replace bx0_0 := pw_cell_below hv2 bx0_0
    replace bx0_1 := pw_cell_below hv2 bx0_1
    replace bx0_2 := pw_cell_below hv2 bx0_2
    replace bx1_0 := pw_cell_below hv2 bx1_0
    replace bx1_1 := pw_cell_below hv2 bx1_1
    replace bx1_2 := pw_cell_below hv2 bx1_2
    replace Rw := Kd.R_below Rw hv2
    replace Rx0 := Kd.R_below Rx0 hv2
    replace Rx1 := Kd.R_below Rx1 hv2
    replace Rg := Kd.R_below Rg hv2
    replace hw := hw.trans (Below.mono hv2 hw.size)
    have hz := Below.size hv2
    replace zba0 : w.heap.size < V9.heap.size := World.block_lt_of_cell? _ _ a0_0
    replace zba1 : w.heap.size + 1 < V9.heap.size := World.block_lt_of_cell? _ _ a1_0
    replace zbbx0 : V4.heap.size < V9.heap.size := World.block_lt_of_cell? _ _ bx0_0
    replace zbbx1 : V5.heap.size < V9.heap.size := World.block_lt_of_cell? _ _ bx1_0
    clear hv2
    go_wp2_with fail
    have KK := Lib.hid (And.intro a0_0 (And.intro a0_1 (And.intro a0_2 (And.intro bx0_0 (And.intro bx0_1 (And.intro bx0_2 (And.intro Rw (And.intro Rx0 (Rg)))))))))
    clear a0_0 a0_1 a0_2 bx0_0 bx0_1 bx0_2 Rw Rx0 Rg
    go_region_held3 (fun w' => w'.cell? ⟨V5.heap.size, 0, none⟩ = some (.int .i64 p1) ∧ w'.cell? ⟨V5.heap.size, 1, none⟩ = some (.int .i64 d1) ∧ w'.cell? ⟨V5.heap.size, 2, none⟩ = some (.slice Bx1 ts1.length fx1) ∧ w'.cell? ⟨w.heap.size + 1, 0, none⟩ = some (.int .i64 p1) ∧ w'.cell? ⟨w.heap.size + 1, 1, none⟩ = some (.int .i64 d1) ∧ w'.cell? ⟨w.heap.size + 1, 2, none⟩ = some (.slice A1 ts1.length c1)) ((refine ⟨?_, ?_, ?_, ?_, ?_, ?_⟩ <;> ((repeat (refine cell_far2 ?_ (by dsimp only; omega))); (first | assumption | (exact cell_alloc (by assumption) _))))) (first
      | (go_at_call 17; (with_reducible refine to_makesP (V := V9) ?hww (toPoly_c _ _ _ _ _ _ ?hcc hm1) ?_); (case hww => exact bq4); (case hcc => exact Kd.C_below HC1.out (below_later hw bq4)); intro V10 Bq fq hv hvw hl hR; have Rq := (Kd.R_reads' hR).2.2; clear hR hl; have mbx1_0 := pw_cell_below hv bx1_0; have mbx1_1 := pw_cell_below hv bx1_1; have mbx1_2 := pw_cell_below hv bx1_2; have ma1_0 := pw_cell_below hv a1_0; have ma1_1 := pw_cell_below hv a1_1; have ma1_2 := pw_cell_below hv a1_2)
      | (go_at_call 20; (with_reducible refine to_gives (V := V9) ?hww (eqPoly_same _ _ _ _ _ _ _ _ ?hcc ?hcd hm1) ?_); (case hww => exact bq4); (case hcc => exact Kd.C_below (Kd.R_reads' Rx1).2.2 bq4); (case hcd => exact Kd.C_below Rq bq4); intro V11 hv2 hvw2; have qbx1_0 := pw_cell_below hv2 bx1_0; have qbx1_1 := pw_cell_below hv2 bx1_1; have qbx1_2 := pw_cell_below hv2 bx1_2; have qa1_0 := pw_cell_below hv2 a1_0; have qa1_1 := pw_cell_below hv2 a1_1; have qa1_2 := pw_cell_below hv2 a1_2))
    obtain ⟨a0_0, a0_1, a0_2, bx0_0, bx0_1, bx0_2, Rw, Rx0, Rg⟩ := KK.out
    clear KK
    clear Rq hvw2 hvw hv mbx1_0 qbx1_0 mbx1_1 qbx1_1 mbx1_2 qbx1_2 ma1_0 qa1_0 ma1_1 qa1_1 ma1_2 qa1_2
    replace a0_0 := pw_cell_below hv2 a0_0
    replace a0_1 := pw_cell_below hv2 a0_1
    replace a0_2 := pw_cell_below hv2 a0_2
    replace a1_0 := pw_cell_below hv2 a1_0
    replace a1_1 := pw_cell_below hv2 a1_1
    replace a1_2 := pw_cell_below hv2 a1_2
    replace bx0_0 := pw_cell_below hv2 bx0_0
    replace bx0_1 := pw_cell_below hv2 bx0_1
    replace bx0_2 := pw_cell_below hv2 bx0_2
    replace bx1_0 := pw_cell_below hv2 bx1_0
    replace bx1_1 := pw_cell_below hv2 bx1_1
    replace bx1_2 := pw_cell_below hv2 bx1_2
    replace Rw := Kd.R_below Rw hv2
    replace Rx0 := Kd.R_below Rx0 hv2
    replace Rx1 := Kd.R_below Rx1 hv2
    replace Rg := Kd.R_below Rg hv2
    replace hw := hw.trans (Below.mono hv2 hw.size)
    have hz := Below.size hv2
    replace zba0 : w.heap.size < V11.heap.size := World.block_lt_of_cell? _ _ a0_0
    replace zba1 : w.heap.size + 1 < V11.heap.size := World.block_lt_of_cell? _ _ a1_0
    replace zbbx0 : V4.heap.size < V11.heap.size := World.block_lt_of_cell? _ _ bx0_0
    replace zbbx1 : V5.heap.size < V11.heap.size := World.block_lt_of_cell? _ _ bx1_0
    clear hv2
    go_wp2_with (go_at_call 23; (with_reducible refine to_gives (V := V11) bq3 (markGroup_c _ _ _ _ _ (1) _ hm0) ?_); intro V12 hv hvw; replace a0_0 := pw_cell_below hv a0_0; replace a0_1 := pw_cell_below hv a0_1; replace a0_2 := pw_cell_below hv a0_2; replace a1_0 := pw_cell_below hv a1_0; replace a1_1 := pw_cell_below hv a1_1; replace a1_2 := pw_cell_below hv a1_2; replace bx0_0 := pw_cell_below hv bx0_0; replace bx0_1 := pw_cell_below hv bx0_1; replace bx0_2 := pw_cell_below hv bx0_2; replace bx1_0 := pw_cell_below hv bx1_0; replace bx1_1 := pw_cell_below hv bx1_1; replace bx1_2 := pw_cell_below hv bx1_2; replace Rw := Kd.R_below Rw hv; replace Rx0 := Kd.R_below Rx0 hv; replace Rx1 := Kd.R_below Rx1 hv; replace Rg := Kd.R_below Rg hv; replace hw := hw.trans (Below.mono hv hw.size); have hz := Below.size hv; replace zba0 : w.heap.size < V12.heap.size := World.block_lt_of_cell? _ _ a0_0; replace zba1 : w.heap.size + 1 < V12.heap.size := World.block_lt_of_cell? _ _ a1_0; replace zbbx0 : V4.heap.size < V12.heap.size := World.block_lt_of_cell? _ _ bx0_0; replace zbbx1 : V5.heap.size < V12.heap.size := World.block_lt_of_cell? _ _ bx1_0; clear hv hvw)
    have HMK := markPoly_c p1 d1 _ _ _ (1) _ _ _ Rx1 hm1 (by omega) (by omega)
    go_wp2_with (go_at_call 24; (with_reducible refine Calls.mono HMK ?_); clear HMK; intro e V13 h; obtain ⟨rfl, hR, hg⟩ := h; replace a0_0 := far_cell hg a0_0 (notin Rx1 (by dsimp only; omega)); replace a0_1 := far_cell hg a0_1 (notin Rx1 (by dsimp only; omega)); replace a0_2 := far_cell hg a0_2 (notin Rx1 (by dsimp only; omega)); replace a1_0 := far_cell hg a1_0 (notin Rx1 (by dsimp only; omega)); replace a1_1 := far_cell hg a1_1 (notin Rx1 (by dsimp only; omega)); replace a1_2 := far_cell hg a1_2 (notin Rx1 (by dsimp only; omega)); replace bx0_0 := far_cell hg bx0_0 (notin Rx1 (by dsimp only; omega)); replace bx0_1 := far_cell hg bx0_1 (notin Rx1 (by dsimp only; omega)); replace bx0_2 := far_cell hg bx0_2 (notin Rx1 (by dsimp only; omega)); replace bx1_0 := far_cell hg bx1_0 (notin Rx1 (by dsimp only; omega)); replace bx1_1 := far_cell hg bx1_1 (notin Rx1 (by dsimp only; omega)); replace bx1_2 := far_cell hg bx1_2 (notin Rx1 (by dsimp only; omega)); replace Rw := Kd.R_grown Rw hg (apart Rx1 (by omega)); replace Rx0 := Kd.R_grown Rx0 hg (apart Rx1 (by omega)); replace Rg := Kd.R_grown Rg hg (apart Rx1 (by omega)); replace hw := hw.grown hg hw.size (belowRow Rx1 (by omega)); have hz := hg.size; replace Rx1 := hR; clear hR hg; replace zba0 : w.heap.size < V13.heap.size := World.block_lt_of_cell? _ _ a0_0; replace zba1 : w.heap.size + 1 < V13.heap.size := World.block_lt_of_cell? _ _ a1_0; replace zbbx0 : V4.heap.size < V13.heap.size := World.block_lt_of_cell? _ _ bx0_0; replace zbbx1 : V5.heap.size < V13.heap.size := World.block_lt_of_cell? _ _ bx1_0)
    have hkv : ¬ (1 + 4 * (ts1.length : Int) : Int) < 0 := by omega
    clear Rx0
    clear Rx1
    clear bx0_0 bx0_1 bx0_2 zbbx0 ztbx0
    clear bx1_0 bx1_1 bx1_2 zbbx1 ztbx1
    go_wp2_with (go_at_call 30; (with_reducible refine to_gives (V := V13) bq3 (eqI_same _ _ _ _ _ _ (Kd.C_below (Kd.R_reads' Rg).2.2 bq3) (Kd.C_below (Kd.R_reads' Rw).2.2 bq3) HL.out) ?_); intro V14 hv hvw; replace a0_0 := pw_cell_below hv a0_0; replace a0_1 := pw_cell_below hv a0_1; replace a0_2 := pw_cell_below hv a0_2; replace a1_0 := pw_cell_below hv a1_0; replace a1_1 := pw_cell_below hv a1_1; replace a1_2 := pw_cell_below hv a1_2; replace Rw := Kd.R_below Rw hv; replace Rg := Kd.R_below Rg hv; replace hw := hw.trans (Below.mono hv hw.size); have hz := Below.size hv; replace zba0 : w.heap.size < V14.heap.size := World.block_lt_of_cell? _ _ a0_0; replace zba1 : w.heap.size + 1 < V14.heap.size := World.block_lt_of_cell? _ _ a1_0; clear hv hvw)
    have HMK := markInt64S_c _ _ _ (1) _ _ _ Rg HL.out (by omega) (by omega)
    go_wp2_with (go_at_call 31; (with_reducible refine Calls.mono HMK ?_); clear HMK; intro e V15 h; obtain ⟨rfl, hR, hg⟩ := h; replace a0_0 := far_cell hg a0_0 (notin Rg (by dsimp only; omega)); replace a0_1 := far_cell hg a0_1 (notin Rg (by dsimp only; omega)); replace a0_2 := far_cell hg a0_2 (notin Rg (by dsimp only; omega)); replace a1_0 := far_cell hg a1_0 (notin Rg (by dsimp only; omega)); replace a1_1 := far_cell hg a1_1 (notin Rg (by dsimp only; omega)); replace a1_2 := far_cell hg a1_2 (notin Rg (by dsimp only; omega)); replace Rw := Kd.R_grown Rw hg (apart Rg (by omega)); replace hw := hw.grown hg hw.size (belowRow Rg (by omega)); have hz := hg.size; replace Rg := hR; clear hR hg; replace zba0 : w.heap.size < V15.heap.size := World.block_lt_of_cell? _ _ a0_0; replace zba1 : w.heap.size + 1 < V15.heap.size := World.block_lt_of_cell? _ _ a1_0)
    go_wp2_with (go_at_call 32; (with_reducible refine to_gives (V := V15) bq3 (heldInt64S_c _ _ _ (1) _ (Kd.C_below (marksI_read Rg) bq3) HL.out (by omega) (by omega)) ?_); intro V16 hv hvw; replace a0_0 := pw_cell_below hv a0_0; replace a0_1 := pw_cell_below hv a0_1; replace a0_2 := pw_cell_below hv a0_2; replace a1_0 := pw_cell_below hv a1_0; replace a1_1 := pw_cell_below hv a1_1; replace a1_2 := pw_cell_below hv a1_2; replace Rw := Kd.R_below Rw hv; replace Rg := Kd.R_below Rg hv; replace hw := hw.trans (Below.mono hv hw.size); have hz := Below.size hv; replace zba0 : w.heap.size < V16.heap.size := World.block_lt_of_cell? _ _ a0_0; replace zba1 : w.heap.size + 1 < V16.heap.size := World.block_lt_of_cell? _ _ a1_0; clear hv hvw)
    go_wp2_with fail
    go_cut [15, 16] from 94 to 101 (fun v1 v2 wx => ∃ (Bh : Option Addr) (fh : Nat), v1 = .slice Bh r.xs.length fh ∧ v2 = .int .i64 r.c ∧ Below V16.heap.size V16 wx ∧ kI.R 2 wx V16.heap.size (fun k => V16.heap.size ≤ k ∧ k < wx.heap.size) (.slice Bh r.xs.length fh) r.xs)
    case first =>
      clear Rw Rg
      go_region_held3 (fun w' => w'.cell? ⟨w.heap.size, 0, none⟩ = some (.int .i64 p0) ∧ w'.cell? ⟨w.heap.size, 1, none⟩ = some (.int .i64 d0) ∧ w'.cell? ⟨w.heap.size, 2, none⟩ = some (.slice A0 ts0.length c0) ∧ w'.cell? ⟨w.heap.size + 1, 0, none⟩ = some (.int .i64 p1) ∧ w'.cell? ⟨w.heap.size + 1, 1, none⟩ = some (.int .i64 d1) ∧ w'.cell? ⟨w.heap.size + 1, 2, none⟩ = some (.slice A1 ts1.length c1)) ((refine ⟨?_, ?_, ?_, ?_, ?_, ?_⟩ <;> ((repeat (refine cell_far2 ?_ (by dsimp only; omega))); (first | assumption | (exact cell_alloc (by assumption) _))))) (first
        | (go_at_call 16; (first | (with_reducible refine call_makesG2 (toGroup_c _ _ _ _ _ _ ?hcc hm0) ?_) | (with_reducible refine call_makesG (toGroup_c _ _ _ _ _ _ ?hcc hm0) ?_)); (case hcc => exact Kd.C_below HC0.out bq4); intro x0 Bt0 ft0 hb0 hl0 hR0 hK0; have z0 := hb0.size; (try simp at z0); have y0 := x0.ok.size; (try simp at y0); have hqx0 : Below V16.heap.size V16 x0.W := bq4; have kx0a0_0 := pw_cell_below hqx0 a0_0; have kx0a0_1 := pw_cell_below hqx0 a0_1; have kx0a0_2 := pw_cell_below hqx0 a0_2; have kx0a1_0 := pw_cell_below hqx0 a1_0; have kx0a1_1 := pw_cell_below hqx0 a1_1; have kx0a1_2 := pw_cell_below hqx0 a1_2)
        | (go_at_call 17; (first | (with_reducible refine call_makesP2 (toPoly_c _ _ _ _ _ _ ?hcc hm1) ?_) | (with_reducible refine call_makesP (toPoly_c _ _ _ _ _ _ ?hcc hm1) ?_)); (case hcc => exact Kd.C_below HC1.out bq4); intro x1 Bt1 ft1 hb1 hl1 hR1 hK1; have z1 := hb1.size; (try simp at z1); have y1 := x1.ok.size; (try simp at y1); have hqx1 : Below V16.heap.size V16 x1.W := bq4; have kx1a0_0 := pw_cell_below hqx1 a0_0; have kx1a0_1 := pw_cell_below hqx1 a0_1; have kx1a0_2 := pw_cell_below hqx1 a0_2; have kx1a1_0 := pw_cell_below hqx1 a1_0; have kx1a1_1 := pw_cell_below hqx1 a1_1; have kx1a1_2 := pw_cell_below hqx1 a1_2)
        | (go_at_call 36; (first | (with_reducible refine call_makesIC2 (HI.out Bt0 ft0 Bt1 ft1 _ ?hk0 ?hk1) ?_) | (with_reducible refine call_makesIC (HI.out Bt0 ft0 Bt1 ft1 _ ?hk0 ?hk1) ?_)); (case hk0 => exact Kd.C_below hK0 bq4); (case hk1 => exact Kd.C_below hK1 bq4); intro xx Bh fh hb hl hR; have zz := hb.size; (try simp at zz); have yy := xx.ok.size; (try simp at yy); have hqxx : Below V16.heap.size V16 xx.W := bq4; have kxxa0_0 := pw_cell_below hqxx a0_0; have kxxa0_1 := pw_cell_below hqxx a0_1; have kxxa0_2 := pw_cell_below hqxx a0_2; have kxxa1_0 := pw_cell_below hqxx a1_0; have kxxa1_1 := pw_cell_below hqxx a1_1; have kxxa1_2 := pw_cell_below hqxx a1_2))
      all_goals (go_wp2_with fail; go_meet)
      all_goals refine ⟨Bh, fh, rfl, rfl, hqxx, ?_⟩
      all_goals first | (exact rowCut_same hR (by omega)) | (rw [World.size_alloc] at hR; exact rowCut_same hR (by omega))
    case rest =>
      obtain ⟨Bh, fh, rfl, rfl, hv, Rh⟩ := hcut
      generalize wc = V17 at *
      replace a0_0 := pw_cell_below hv a0_0
      replace a0_1 := pw_cell_below hv a0_1
      replace a0_2 := pw_cell_below hv a0_2
      replace a1_0 := pw_cell_below hv a1_0
      replace a1_1 := pw_cell_below hv a1_1
      replace a1_2 := pw_cell_below hv a1_2
      replace Rw := Kd.R_below Rw hv
      replace Rg := Kd.R_below Rg hv
      replace hw := hw.trans (Below.mono hv hw.size)
      have hz := Below.size hv
      replace zba0 : w.heap.size < V17.heap.size := World.block_lt_of_cell? _ _ a0_0
      replace zba1 : w.heap.size + 1 < V17.heap.size := World.block_lt_of_cell? _ _ a1_0
      clear hv
      go_wp2_with (go_at_call 30; (with_reducible refine to_gives (V := V17) bq3 (eqI_same _ _ _ _ _ _ (Kd.C_below (Kd.R_reads' Rh).2.2 bq3) (Kd.C_below (Kd.R_reads' Rw).2.2 bq3) HL.out) ?_); intro V18 hv hvw; replace a0_0 := pw_cell_below hv a0_0; replace a0_1 := pw_cell_below hv a0_1; replace a0_2 := pw_cell_below hv a0_2; replace a1_0 := pw_cell_below hv a1_0; replace a1_1 := pw_cell_below hv a1_1; replace a1_2 := pw_cell_below hv a1_2; replace Rw := Kd.R_below Rw hv; replace Rg := Kd.R_below Rg hv; replace Rh := Kd.R_below Rh hv; replace hw := hw.trans (Below.mono hv hw.size); have hz := Below.size hv; replace zba0 : w.heap.size < V18.heap.size := World.block_lt_of_cell? _ _ a0_0; replace zba1 : w.heap.size + 1 < V18.heap.size := World.block_lt_of_cell? _ _ a1_0; clear hv hvw)
      go_wp2_with (go_at_call 32; (with_reducible refine to_gives (V := V18) bq3 (heldInt64S_c _ _ _ (1) _ (Kd.C_below (marksI_read Rg) bq3) HL.out (by omega) (by omega)) ?_); intro V19 hv hvw; replace a0_0 := pw_cell_below hv a0_0; replace a0_1 := pw_cell_below hv a0_1; replace a0_2 := pw_cell_below hv a0_2; replace a1_0 := pw_cell_below hv a1_0; replace a1_1 := pw_cell_below hv a1_1; replace a1_2 := pw_cell_below hv a1_2; replace Rw := Kd.R_below Rw hv; replace Rg := Kd.R_below Rg hv; replace Rh := Kd.R_below Rh hv; replace hw := hw.trans (Below.mono hv hw.size); have hz := Below.size hv; replace zba0 : w.heap.size < V19.heap.size := World.block_lt_of_cell? _ _ a0_0; replace zba1 : w.heap.size + 1 < V19.heap.size := World.block_lt_of_cell? _ _ a1_0; clear hv hvw)
      go_ret
      exact .mk rfl (below_later hw bq3)
end Go.Proofs.YtjhkeehfchkpaaaGreat
