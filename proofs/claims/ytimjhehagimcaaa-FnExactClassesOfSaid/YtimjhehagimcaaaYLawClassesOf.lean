/- The walk of the law FnExactClassesOf; no condition. -/
import Derived.Test.YtimjhehagimcaaaYE2
import Derived.Test.YtimjhehagimcaaaYE1
import Derived.Test.YtimjhehagimcaaaYKitCv
import Derived.Test.YtimjhehagimcaaaYKitK
import Derived.Test.YtimjhehagimcaaaYRedS
import Derived.Test.YtimjhehagimcaaaYSST
import Derived.Deep.RegionWith
import Derived.Deep.RegionHeld3
import Derived.Deep.CutRange
set_option linter.unusedVariables false
set_option linter.unusedSimpArgs false
namespace Go.Proofs.Ytimjhehagimcaaa
open Go.RowKit Go.Proofs.YtimjhehagimcaaaW.PrintWords
attribute [local go_sem] Later.cell Later.frozen Later.lt Later.lt_add Later.le Later.le_add Later.ne Later.ne' add_at
attribute [local go_sem] later_drew2 later_drewf2
set_option maxRecDepth 100000 in
set_option maxRecDepth 100000 in
set_option maxHeartbeats 40000000 in
theorem lawClassesOf_c (p0 d0 : Int) (A0 : Option Addr) (c0 : Nat) (ts0 : List M9) (w : World) (hC0 : kM.C w A0 ts0.length ts0) (hn0 : ts0.length ≤ 9223372036854775807) :
    Calls Try.prog 7 #[.agg #[.int .i64 p0, .int .i64 d0, .slice A0 ts0.length c0]] w (Gives (.bool true) w) := by
  by_cases hs0 : (1048576 : Int) < ts0.length
  · have H := szGroup_c p0 d0 A0 ts0.length c0 (1048576) (by omega) (by omega) hn0
    rw [if_pos hs0] at H
    have HH0 := Lib.hid H
    clear H
    go_enter Try.func7, Try.ntmps7
    go_wp2_with (first | (go_at_call 33; (first | (with_reducible refine call_later2 (HH0.out _) ?_) | (with_reducible refine call_later (HH0.out _) ?_)); intro x))
    go_ret
    exact .mk rfl bq3
  have H := szGroup_c p0 d0 A0 ts0.length c0 (1048576) (by omega) (by omega) hn0
  rw [if_neg hs0] at H
  have HH0 := Lib.hid H
  clear H
  have hm0 : ts0.length ≤ 1048576 := by omega
  have hneg0 : ¬ (1048576 - (ts0.length : Int)) < 0 := by omega
  have HC0 := Lib.hid hC0
  have HL := Lib.hid (clsR_small _ _ _ : ((clsR p0 d0 ts0).1.length ≤ 1048576 ∧ ∀ x ∈ (clsR p0 d0 ts0).1, x.length ≤ 1048576) ∧ endR 1 (clsR p0 d0 ts0).1 ≤ 1000000000)
  have HS := Lib.hid (fun B0 f0 W h0 => specClassesOf_c p0 d0 B0 f0 ts0 W h0 hn0)
  have HI := Lib.hid (fun B0 f0 W h0 => implClassesOf_t p0 d0 B0 f0 ts0 W h0 hn0)
  have HJ := Lib.hid (fun B0 f0 W h0 => (implClassesOf_t p0 d0 B0 f0 ts0 W h0 hn0).mono fun _ _ h => makesLCT_LC h)
  generalize hres : clsR p0 d0 ts0 = r at *
  clear hres
  go_enter Try.func7, Try.ntmps7
  go_wp2_with (go_at_call 33; (with_reducible refine to_gives (V := (w.alloc (.cells #[.int .i64 p0, .int .i64 d0, .slice A0 ts0.length c0] 54))) bq3 (HH0.out _) ?_); intro V1 hv hvw; have a0_0 : V1.cell? ⟨w.heap.size, 0, none⟩ = some (.int .i64 p0) := pw_cell_below hv (by first | (simp; done) | (simp [go_sem]; done)); have a0_1 : V1.cell? ⟨w.heap.size, 1, none⟩ = some (.int .i64 d0) := pw_cell_below hv (by first | (simp; done) | (simp [go_sem]; done)); have a0_2 : V1.cell? ⟨w.heap.size, 2, none⟩ = some (.slice A0 ts0.length c0) := pw_cell_below hv (by first | (simp; done) | (simp [go_sem]; done)); have hw : Below w.heap.size w V1 := Below.trans (by exact bq3) (hv.mono (by first | (simp; done) | (simp; omega))); have hz := hv.size; (try simp at hz); have zba0 : w.heap.size < V1.heap.size := World.block_lt_of_cell? _ _ a0_0; have zta0 := zba0; clear hv hvw)
  go_wp2_with (go_at_call 35; (with_reducible refine to_makesG (V := V1) bq3 (toGroup_c _ _ _ _ _ _ (Kd.C_below HC0.out (below_later hw bq3)) hm0) ?_); intro V2 Bt0 ft0 hv hvw hl hR; replace a0_0 := pw_cell_below hv a0_0; replace a0_1 := pw_cell_below hv a0_1; replace a0_2 := pw_cell_below hv a0_2; replace hw := hw.trans (Below.mono hv hw.size); have hz := Below.size hv; replace zba0 : w.heap.size < V2.heap.size := World.block_lt_of_cell? _ _ a0_0; have Rt0 := rowIv hR (lo := V1.heap.size) (by simp); clear hR hl hvw hv)
  go_wp2_with (go_at_call 40; (with_reducible refine to_makesLC (V := V2) bq3 (HS.out _ _ _ (Kd.C_below (Kd.R_reads' Rt0).2.2 bq3)) ?_); intro V3 Bw fw hv hvw hl hR; replace a0_0 := pw_cell_below hv a0_0; replace a0_1 := pw_cell_below hv a0_1; replace a0_2 := pw_cell_below hv a0_2; replace Rt0 := Kd.R_below Rt0 hv; replace hw := hw.trans (Below.mono hv hw.size); have hz := Below.size hv; replace zba0 : w.heap.size < V3.heap.size := World.block_lt_of_cell? _ _ a0_0; have Rw := rowIv hR (lo := V2.heap.size) (by simp); clear hR hl hvw hv)
  clear Rt0
  go_wp2_with (go_at_call 35; (with_reducible refine to_makesG (V := V3) bq3 (toGroup_c _ _ _ _ _ _ (Kd.C_below HC0.out (below_later hw bq3)) hm0) ?_); intro V4 Bx0 fx0 hv hvw hl hR; replace a0_0 := pw_cell_below hv a0_0; replace a0_1 := pw_cell_below hv a0_1; replace a0_2 := pw_cell_below hv a0_2; replace Rw := Kd.R_below Rw hv; replace hw := hw.trans (Below.mono hv hw.size); have hz := Below.size hv; replace zba0 : w.heap.size < V4.heap.size := World.block_lt_of_cell? _ _ a0_0; have Rx0 := rowIv hR (lo := V3.heap.size) (by simp); clear hR hl hvw hv)
  go_wp2_with (go_at_call 41; (with_reducible refine to_makesLCT (V := V4) bq3 (HI.out _ _ _ (Kd.C_below (Kd.R_reads' Rx0).2.2 bq3)) ?_); intro V5 Bg fg qs hv hvw hq hap hR; have bx0_0 := pw_cell_below hvw (a := ⟨V4.heap.size, 0, none⟩) (v := .int .i64 p0) (by simp); have bx0_1 := pw_cell_below hvw (a := ⟨V4.heap.size, 1, none⟩) (v := .int .i64 d0) (by simp); have bx0_2 := pw_cell_below hvw (a := ⟨V4.heap.size, 2, none⟩) (v := .slice Bx0 ts0.length fx0) (by simp); have zbbx0 : V4.heap.size < V5.heap.size := World.block_lt_of_cell? _ _ bx0_0; have ztbx0 := zbbx0; replace a0_0 := pw_cell_below hv a0_0; replace a0_1 := pw_cell_below hv a0_1; replace a0_2 := pw_cell_below hv a0_2; replace Rw := Kd.R_below Rw hv; replace Rx0 := Kd.R_below Rx0 hv; replace hw := hw.trans (Below.mono hv hw.size); have hz := Below.size hv; replace zba0 : w.heap.size < V5.heap.size := World.block_lt_of_cell? _ _ a0_0; have HQRg := Lib.hid (And.intro hq hap); have Rg := rowIv hR (lo := V4.heap.size + 1) (by simp); clear hR hq hap hvw hv)
  go_wp2_with (go_at_call 12; (with_reducible refine to_gives (V := V5) bq3 (eqSS_same _ _ _ _ _ _ (Kd.C_below (tagCR Rg HQRg.out.1 rfl) bq3) (Kd.C_below (Kd.R_reads' Rw).2.2 bq3) HL.out.1.1 (getD_leR HL.out.1.2)) ?_); intro V6 hv hvw; replace a0_0 := pw_cell_below hv a0_0; replace a0_1 := pw_cell_below hv a0_1; replace a0_2 := pw_cell_below hv a0_2; replace bx0_0 := pw_cell_below hv bx0_0; replace bx0_1 := pw_cell_below hv bx0_1; replace bx0_2 := pw_cell_below hv bx0_2; replace Rw := Kd.R_below Rw hv; replace Rx0 := Kd.R_below Rx0 hv; replace Rg := Kd.R_below Rg hv; replace hw := hw.trans (Below.mono hv hw.size); have hz := Below.size hv; replace zba0 : w.heap.size < V6.heap.size := World.block_lt_of_cell? _ _ a0_0; replace zbbx0 : V4.heap.size < V6.heap.size := World.block_lt_of_cell? _ _ bx0_0; clear hv hvw)
  go_wp2_with fail
  have KK := Lib.hid (And.intro Rw (Rg))
  clear Rw Rg
  go_region_held3 (fun w' => w'.cell? ⟨V4.heap.size, 0, none⟩ = some (.int .i64 p0) ∧ w'.cell? ⟨V4.heap.size, 1, none⟩ = some (.int .i64 d0) ∧ w'.cell? ⟨V4.heap.size, 2, none⟩ = some (.slice Bx0 ts0.length fx0) ∧ w'.cell? ⟨w.heap.size, 0, none⟩ = some (.int .i64 p0) ∧ w'.cell? ⟨w.heap.size, 1, none⟩ = some (.int .i64 d0) ∧ w'.cell? ⟨w.heap.size, 2, none⟩ = some (.slice A0 ts0.length c0)) ((refine ⟨?_, ?_, ?_, ?_, ?_, ?_⟩ <;> ((repeat (refine cell_far2 ?_ (by dsimp only; omega))); (first | assumption | (exact cell_alloc (by assumption) _))))) (first
    | (go_at_call 35; (with_reducible refine to_makesG (V := V6) ?hww (toGroup_c _ _ _ _ _ _ ?hcc hm0) ?_); (case hww => exact bq4); (case hcc => exact Kd.C_below HC0.out (below_later hw bq4)); intro V7 Bq fq hv hvw hl hR; have Rq := (Kd.R_reads' hR).2.2; clear hR hl; have mbx0_0 := pw_cell_below hv bx0_0; have mbx0_1 := pw_cell_below hv bx0_1; have mbx0_2 := pw_cell_below hv bx0_2; have ma0_0 := pw_cell_below hv a0_0; have ma0_1 := pw_cell_below hv a0_1; have ma0_2 := pw_cell_below hv a0_2)
    | (go_at_call 17; (with_reducible refine to_gives (V := V6) ?hww (eqGroup_same _ _ _ _ _ _ _ _ ?hcc ?hcd hm0) ?_); (case hww => exact bq4); (case hcc => exact Kd.C_below (Kd.R_reads' Rx0).2.2 bq4); (case hcd => exact Kd.C_below Rq bq4); intro V8 hv2 hvw2; have qbx0_0 := pw_cell_below hv2 bx0_0; have qbx0_1 := pw_cell_below hv2 bx0_1; have qbx0_2 := pw_cell_below hv2 bx0_2; have qa0_0 := pw_cell_below hv2 a0_0; have qa0_1 := pw_cell_below hv2 a0_1; have qa0_2 := pw_cell_below hv2 a0_2))
  obtain ⟨Rw, Rg⟩ := KK.out
  clear KK
  clear Rq hvw2 hvw hv mbx0_0 qbx0_0 mbx0_1 qbx0_1 mbx0_2 qbx0_2 ma0_0 qa0_0 ma0_1 qa0_1 ma0_2 qa0_2
  replace a0_0 := pw_cell_below hv2 a0_0
  replace a0_1 := pw_cell_below hv2 a0_1
  replace a0_2 := pw_cell_below hv2 a0_2
  replace bx0_0 := pw_cell_below hv2 bx0_0
  replace bx0_1 := pw_cell_below hv2 bx0_1
  replace bx0_2 := pw_cell_below hv2 bx0_2
  replace Rw := Kd.R_below Rw hv2
  replace Rx0 := Kd.R_below Rx0 hv2
  replace Rg := Kd.R_below Rg hv2
  replace hw := hw.trans (Below.mono hv2 hw.size)
  have hz := Below.size hv2
  replace zba0 : w.heap.size < V8.heap.size := World.block_lt_of_cell? _ _ a0_0
  replace zbbx0 : V4.heap.size < V8.heap.size := World.block_lt_of_cell? _ _ bx0_0
  clear hv2
  go_wp2_with (go_at_call 18; (with_reducible refine to_gives (V := V8) bq3 (markGroup_c _ _ _ _ _ (1) _ hm0) ?_); intro V9 hv hvw; replace a0_0 := pw_cell_below hv a0_0; replace a0_1 := pw_cell_below hv a0_1; replace a0_2 := pw_cell_below hv a0_2; replace bx0_0 := pw_cell_below hv bx0_0; replace bx0_1 := pw_cell_below hv bx0_1; replace bx0_2 := pw_cell_below hv bx0_2; replace Rw := Kd.R_below Rw hv; replace Rx0 := Kd.R_below Rx0 hv; replace Rg := Kd.R_below Rg hv; replace hw := hw.trans (Below.mono hv hw.size); have hz := Below.size hv; replace zba0 : w.heap.size < V9.heap.size := World.block_lt_of_cell? _ _ a0_0; replace zbbx0 : V4.heap.size < V9.heap.size := World.block_lt_of_cell? _ _ bx0_0; clear hv hvw)
  clear Rx0
  clear bx0_0 bx0_1 bx0_2 zbbx0 ztbx0
  go_wp2_with (go_at_call 12; (with_reducible refine to_gives (V := V9) bq3 (eqSS_same _ _ _ _ _ _ (Kd.C_below (tagCR Rg HQRg.out.1 rfl) bq3) (Kd.C_below (Kd.R_reads' Rw).2.2 bq3) HL.out.1.1 (getD_leR HL.out.1.2)) ?_); intro V10 hv hvw; replace a0_0 := pw_cell_below hv a0_0; replace a0_1 := pw_cell_below hv a0_1; replace a0_2 := pw_cell_below hv a0_2; replace Rw := Kd.R_below Rw hv; replace Rg := Kd.R_below Rg hv; replace hw := hw.trans (Below.mono hv hw.size); have hz := Below.size hv; replace zba0 : w.heap.size < V10.heap.size := World.block_lt_of_cell? _ _ a0_0; clear hv hvw)
  have hend : ¬ (endR 1 r.1) < 0 := by have := endR_ge r.1 1; omega
  have HMK := markInt64SS_c _ _ _ _ _ (1) _ _ _ Rg HQRg.out.1 HQRg.out.2 rfl HL.out.1.1 HL.out.1.2 (by decide) HL.out.2
  go_wp2_with (go_at_call 13; (with_reducible refine Calls.mono HMK ?_); clear HMK; intro e V11 h; obtain ⟨rfl, ⟨qs2, hq2, hR⟩, hg, hfr⟩ := h; have HQ2 := Lib.hid hq2; clear hq2; replace a0_0 := fr_cell hfr a0_0 (by (try dsimp only); omega); replace a0_1 := fr_cell hfr a0_1 (by (try dsimp only); omega); replace a0_2 := fr_cell hfr a0_2 (by (try dsimp only); omega); replace Rw := fr_row hfr Rw (by omega) (fun k h1 h2 h3 => by (try dsimp only at h3); omega); replace hw := hw.trans (Below.mono hg (by omega)); have hz := hg.size; replace Rg := hR; clear hR hg hfr; replace zba0 : w.heap.size < V11.heap.size := World.block_lt_of_cell? _ _ a0_0)
  go_wp2_with (go_at_call 14; (with_reducible refine to_gives (V := V11) bq3 (heldInt64SS_c _ _ _ _ (1) _ (Kd.C_below (tagCR Rg HQ2.out (marksR_len _ _)) bq3) rfl HL.out.1.1 HL.out.1.2 (by decide) HL.out.2) ?_); intro V12 hv hvw; replace a0_0 := pw_cell_below hv a0_0; replace a0_1 := pw_cell_below hv a0_1; replace a0_2 := pw_cell_below hv a0_2; replace Rw := Kd.R_below Rw hv; replace Rg := Kd.R_below Rg hv; replace hw := hw.trans (Below.mono hv hw.size); have hz := Below.size hv; replace zba0 : w.heap.size < V12.heap.size := World.block_lt_of_cell? _ _ a0_0; clear hv hvw)
  go_wp2_with (go_at_call 35; (with_reducible refine to_makesG (V := V12) bq3 (toGroup_c _ _ _ _ _ _ (Kd.C_below HC0.out (below_later hw bq3)) hm0) ?_); intro V13 By0 fy0 hv hvw hl hR; replace a0_0 := pw_cell_below hv a0_0; replace a0_1 := pw_cell_below hv a0_1; replace a0_2 := pw_cell_below hv a0_2; replace Rw := Kd.R_below Rw hv; replace Rg := Kd.R_below Rg hv; replace hw := hw.trans (Below.mono hv hw.size); have hz := Below.size hv; replace zba0 : w.heap.size < V13.heap.size := World.block_lt_of_cell? _ _ a0_0; have Ry0 := rowIv hR (lo := V12.heap.size) (by simp); clear hR hl hvw hv)
  go_wp2_with (go_at_call 41; (with_reducible refine to_makesLC (V := V13) bq3 (HJ.out _ _ _ (Kd.C_below (Kd.R_reads' Ry0).2.2 bq3)) ?_); intro V14 Bh fh hv hvw hl hR; replace a0_0 := pw_cell_below hv a0_0; replace a0_1 := pw_cell_below hv a0_1; replace a0_2 := pw_cell_below hv a0_2; replace Rw := Kd.R_below Rw hv; replace Rg := Kd.R_below Rg hv; replace Ry0 := Kd.R_below Ry0 hv; replace hw := hw.trans (Below.mono hv hw.size); have hz := Below.size hv; replace zba0 : w.heap.size < V14.heap.size := World.block_lt_of_cell? _ _ a0_0; have Rh := rowIv hR (lo := V13.heap.size) (by simp); clear hR hl hvw hv)
  clear Ry0
  go_wp2_with (go_at_call 12; (with_reducible refine to_gives (V := V14) bq3 (eqSS_same _ _ _ _ _ _ (Kd.C_below (Kd.R_reads' Rh).2.2 bq3) (Kd.C_below (Kd.R_reads' Rw).2.2 bq3) HL.out.1.1 (getD_leR HL.out.1.2)) ?_); intro V15 hv hvw; replace a0_0 := pw_cell_below hv a0_0; replace a0_1 := pw_cell_below hv a0_1; replace a0_2 := pw_cell_below hv a0_2; replace Rw := Kd.R_below Rw hv; replace Rg := Kd.R_below Rg hv; replace Rh := Kd.R_below Rh hv; replace hw := hw.trans (Below.mono hv hw.size); have hz := Below.size hv; replace zba0 : w.heap.size < V15.heap.size := World.block_lt_of_cell? _ _ a0_0; clear hv hvw)
  go_wp2_with (go_at_call 14; (with_reducible refine to_gives (V := V15) bq3 (heldInt64SS_c _ _ _ _ (1) _ (Kd.C_below (tagCR Rg HQ2.out (marksR_len _ _)) bq3) rfl HL.out.1.1 HL.out.1.2 (by decide) HL.out.2) ?_); intro V16 hv hvw; replace a0_0 := pw_cell_below hv a0_0; replace a0_1 := pw_cell_below hv a0_1; replace a0_2 := pw_cell_below hv a0_2; replace Rw := Kd.R_below Rw hv; replace Rg := Kd.R_below Rg hv; replace Rh := Kd.R_below Rh hv; replace hw := hw.trans (Below.mono hv hw.size); have hz := Below.size hv; replace zba0 : w.heap.size < V16.heap.size := World.block_lt_of_cell? _ _ a0_0; clear hv hvw)
  go_ret
  exact .mk rfl (below_later hw bq3)
end Go.Proofs.Ytimjhehagimcaaa
