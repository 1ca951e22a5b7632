/- The walk of the law FnExactReduceRows; no condition. -/
import Derived.Test.YtimjhehagimcaaaYRedU
import Derived.Test.YtimjhehagimcaaaYKitK
import Derived.Test.YtimjhehagimcaaaYRedS
import Derived.Test.YtimjhehagimcaaaYSST
import Derived.Deep.RegionWith
import Derived.Deep.RegionHeld3
import Derived.Deep.CutRange
set_option linter.unusedVariables false
set_option linter.unusedSimpArgs false
namespace Go.Proofs.Ytimjhehagimcaaa
open Go.RowKit Go.Proofs.YtimjhehagimcaaaW.PrintWords
attribute [local go_sem] Later.cell Later.frozen Later.lt Later.lt_add Later.le Later.le_add Later.ne Later.ne' add_at
attribute [local go_sem] later_drew2 later_drewf2
set_option maxRecDepth 100000 in
set_option maxRecDepth 100000 in
set_option maxHeartbeats 40000000 in
theorem lawReduceRows_c (n0 : Int) (n1 : Int) (A2 : Option Addr) (c2 : Nat) (rs2 : List (List Int)) (w : World) (hi0 : -9223372036854775808 ≤ n0 ∧ n0 ≤ 9223372036854775807) (hi1 : -9223372036854775808 ≤ n1 ∧ n1 ≤ 9223372036854775807) (hC2 : kL.C w A2 rs2.length rs2) (hn2 : rs2.length ≤ 9223372036854775807) :
    Calls Try.prog 3 #[.int .i64 n0, .int .i64 n1, .slice A2 rs2.length c2] w (Gives (.bool true) w) := by
  have HH2 := Lib.hid (fun W h => szSS_c A2 c2 rs2 (1048576) W h (by omega) (by omega) hn2 (kL_lens hC2))
  by_cases hs2 : szSS rs2 (1048576) < 0
  · go_enter Try.func3, Try.ntmps3
    go_wp2_with (first | (go_at_call 8; (first | (with_reducible refine call_later2 (HH2.out _ ?hcc) ?_) | (with_reducible refine call_later (HH2.out _ ?hcc) ?_)); (case hcc => exact Kd.C_below hC2 bq8); intro x))
    go_ret
    exact .mk rfl bq3
  have hsum2 : (rs2.map fun x => (x.length : Int)).sum + (rs2.length : Int) ≤ 1048576 := by
    unfold szSS at hs2
    split at hs2
    · exact absurd (by decide : (-1 : Int) < 0) hs2
    · have := goSS_sum rs2 (1048576 - rs2.length) (by omega)
      omega
  have hps2 := sumR_pos rs2
  have hm2 : rs2.length ≤ 1048576 := by omega
  have hx2 : ∀ x ∈ rs2, x.length ≤ 1048576 := fun x hx => by have := mem_sumR rs2 x hx; omega
  have HX2 := Lib.hid hx2
  clear hx2
  have HC2 := Lib.hid hC2
  have HL := Lib.hid (redR_small _ _ _ : ((redR n0 n1 rs2).1.length ≤ 1048576 ∧ ∀ x ∈ (redR n0 n1 rs2).1, x.length ≤ 1048576) ∧ endR 1 (redR n0 n1 rs2).1 ≤ 1000000000)
  have HS := Lib.hid (fun B0 f0 W h0 hc => specReduceRows_c n0 n1 B0 f0 rs2 W h0 hm2 (getD_leR HX2.out) hc)
  have HI := Lib.hid (fun B0 f0 W h0 => implReduceRows_t n0 n1 B0 f0 rs2 W h0 hm2 (getD_leR HX2.out))
  have HJ := Lib.hid (fun B0 f0 W h0 => (implReduceRows_t n0 n1 B0 f0 rs2 W h0 hm2 (getD_leR HX2.out)).mono fun _ _ h => makesLCT_LC h)
  generalize hres : redR n0 n1 rs2 = r at *
  clear hres
  go_enter Try.func3, Try.ntmps3
  go_wp2_with (go_at_call 8; (with_reducible refine to_gives (V := w) bq3 (HH2.out _ (Kd.C_below HC2.out bq3)) ?_); intro V1 hv hvw; have hw : Below w.heap.size w V1 := Below.trans (by exact bq3) (hv.mono (by first | (simp; done) | (simp; omega))); have hz := hv.size; (try simp at hz); clear hv hvw)
  go_wp2_with (go_at_call 10; (with_reducible refine to_makesTL (V := V1) bq3 (toInt64SS_t _ _ _ _ _ (Kd.C_below HC2.out (below_later hw bq3)) hm2 HX2.out) ?_); intro V2 Bt2 ft2 qs hv hvw hq hap hR; have HQRt2 := Lib.hid (And.intro hq hap); have hl := hq; clear hq hap; replace hw := hw.trans (Below.mono hv hw.size); have hz := Below.size hv; have Rt2 := rowIv hR (lo := V1.heap.size) (by simp); clear hR hl hvw hv)
  go_wp2_with (go_at_call 9; (with_reducible refine to_makesLC (V := V2) bq3 (HS.out _ _ _ (Kd.C_below (tagCR Rt2 HQRt2.out.1 rfl) bq3) (by have := (Kd.R_reads' Rt2).1; have := (Kd.R_reads' Rt2).2.1; omega)) ?_); intro V3 Bw fw hv hvw hl hR; replace Rt2 := Kd.R_below Rt2 hv; replace hw := hw.trans (Below.mono hv hw.size); have hz := Below.size hv; have Rw := rowIv hR (lo := V2.heap.size) (by simp); clear hR hl hvw hv)
  clear Rt2
  go_wp2_with (go_at_call 10; (with_reducible refine to_makesTL (V := V3) bq3 (toInt64SS_t _ _ _ _ _ (Kd.C_below HC2.out (below_later hw bq3)) hm2 HX2.out) ?_); intro V4 Bx2 fx2 qs hv hvw hq hap hR; have HQRx2 := Lib.hid (And.intro hq hap); have hl := hq; clear hq hap; replace Rw := Kd.R_below Rw hv; replace hw := hw.trans (Below.mono hv hw.size); have hz := Below.size hv; have Rx2 := rowIv hR (lo := V3.heap.size) (by simp); clear hR hl hvw hv)
  go_wp2_with (go_at_call 11; (with_reducible refine to_makesLCT (V := V4) bq3 (HI.out _ _ _ (Kd.C_below (tagCR Rx2 HQRx2.out.1 rfl) bq3)) ?_); intro V5 Bg fg qs hv hvw hq hap hR; replace Rw := Kd.R_below Rw hv; replace Rx2 := Kd.R_below Rx2 hv; replace hw := hw.trans (Below.mono hv hw.size); have hz := Below.size hv; have HQRg := Lib.hid (And.intro hq hap); have Rg := rowIv hR (lo := V4.heap.size) (by simp); clear hR hq hap hvw hv)
  go_wp2_with (go_at_call 12; (with_reducible refine to_gives (V := V5) bq3 (eqSS_same _ _ _ _ _ _ (Kd.C_below (tagCR Rg HQRg.out.1 rfl) bq3) (Kd.C_below (Kd.R_reads' Rw).2.2 bq3) HL.out.1.1 (getD_leR HL.out.1.2)) ?_); intro V6 hv hvw; replace Rw := Kd.R_below Rw hv; replace Rx2 := Kd.R_below Rx2 hv; replace Rg := Kd.R_below Rg hv; replace hw := hw.trans (Below.mono hv hw.size); have hz := Below.size hv; clear hv hvw)
  go_wp2_with (go_at_call 10; (with_reducible refine to_makesTL (V := V6) bq3 (toInt64SS_t _ _ _ _ _ (Kd.C_below HC2.out (below_later hw bq3)) hm2 HX2.out) ?_); intro V7 Bq fq qs hv hvw hq hap hR; have HQRq := Lib.hid (And.intro hq hap); have hl := hq; clear hq hap; replace Rw := Kd.R_below Rw hv; replace Rx2 := Kd.R_below Rx2 hv; replace Rg := Kd.R_below Rg hv; replace hw := hw.trans (Below.mono hv hw.size); have hz := Below.size hv; have Rq := rowIv hR (lo := V6.heap.size) (by simp); clear hR hl hvw hv)
  go_wp2_with (go_at_call 12; (with_reducible refine to_gives (V := V7) bq3 (eqSS_same _ _ _ _ _ _ (Kd.C_below (tagCR Rx2 HQRx2.out.1 rfl) bq3) (Kd.C_below (tagCR Rq HQRq.out.1 rfl) bq3) hm2 (getD_leR HX2.out)) ?_); intro V8 hv hvw; replace Rw := Kd.R_below Rw hv; replace Rx2 := Kd.R_below Rx2 hv; replace Rg := Kd.R_below Rg hv; replace Rq := Kd.R_below Rq hv; replace hw := hw.trans (Below.mono hv hw.size); have hz := Below.size hv; clear hv hvw)
  clear Rq
  have hE2 : endR (1) rs2 ≤ 1000000000 := by rw [endR_sum]; omega
  have HMK := markInt64SS_c _ _ _ _ _ (1) _ _ _ Rx2 HQRx2.out.1 HQRx2.out.2 rfl hm2 HX2.out (by omega) hE2
  have hge2 := endR_ge rs2 (1)
  have hgk2 : ¬ (endR (1) rs2) < 0 := by omega
  go_wp2_with (go_at_call 13; (with_reducible refine Calls.mono HMK ?_); clear HMK; intro e V9 h; obtain ⟨rfl, ⟨qs2, hq2, hR⟩, hg, hfr⟩ := h; clear hq2; replace Rw := fr_row hfr Rw (by omega) (fun k h1 h2 h3 => by (try dsimp only at h3); omega); replace Rg := fr_row hfr Rg (by omega) (fun k h1 h2 h3 => by (try dsimp only at h3); omega); replace hw := hw.trans (Below.mono hg (by omega)); have hz := hg.size; replace Rx2 := hR; clear hR hg hfr)
  have hkv : ¬ (endR (1) rs2 : Int) < 0 := by omega
  clear Rx2
  go_wp2_with (go_at_call 12; (with_reducible refine to_gives (V := V9) bq3 (eqSS_same _ _ _ _ _ _ (Kd.C_below (tagCR Rg HQRg.out.1 rfl) bq3) (Kd.C_below (Kd.R_reads' Rw).2.2 bq3) HL.out.1.1 (getD_leR HL.out.1.2)) ?_); intro V10 hv hvw; replace Rw := Kd.R_below Rw hv; replace Rg := Kd.R_below Rg hv; replace hw := hw.trans (Below.mono hv hw.size); have hz := Below.size hv; clear hv hvw)
  have hend : ¬ (endR 1 r.1) < 0 := by have := endR_ge r.1 1; omega
  have HMK := markInt64SS_c _ _ _ _ _ (1) _ _ _ Rg HQRg.out.1 HQRg.out.2 rfl HL.out.1.1 HL.out.1.2 (by decide) HL.out.2
  go_wp2_with (go_at_call 13; (with_reducible refine Calls.mono HMK ?_); clear HMK; intro e V11 h; obtain ⟨rfl, ⟨qs2, hq2, hR⟩, hg, hfr⟩ := h; have HQ2 := Lib.hid hq2; clear hq2; replace Rw := fr_row hfr Rw (by omega) (fun k h1 h2 h3 => by (try dsimp only at h3); omega); replace hw := hw.trans (Below.mono hg (by omega)); have hz := hg.size; replace Rg := hR; clear hR hg hfr)
  go_wp2_with (go_at_call 14; (with_reducible refine to_gives (V := V11) bq3 (heldInt64SS_c _ _ _ _ (1) _ (Kd.C_below (tagCR Rg HQ2.out (marksR_len _ _)) bq3) rfl HL.out.1.1 HL.out.1.2 (by decide) HL.out.2) ?_); intro V12 hv hvw; replace Rw := Kd.R_below Rw hv; replace Rg := Kd.R_below Rg hv; replace hw := hw.trans (Below.mono hv hw.size); have hz := Below.size hv; clear hv hvw)
  go_wp2_with (go_at_call 10; (with_reducible refine to_makesTL (V := V12) bq3 (toInt64SS_t _ _ _ _ _ (Kd.C_below HC2.out (below_later hw bq3)) hm2 HX2.out) ?_); intro V13 By2 fy2 qs hv hvw hq hap hR; have HQRy2 := Lib.hid (And.intro hq hap); have hl := hq; clear hq hap; replace Rw := Kd.R_below Rw hv; replace Rg := Kd.R_below Rg hv; replace hw := hw.trans (Below.mono hv hw.size); have hz := Below.size hv; have Ry2 := rowIv hR (lo := V12.heap.size) (by simp); clear hR hl hvw hv)
  go_wp2_with (go_at_call 11; (with_reducible refine to_makesLC (V := V13) bq3 (HJ.out _ _ _ (Kd.C_below (tagCR Ry2 HQRy2.out.1 rfl) bq3)) ?_); intro V14 Bh fh hv hvw hl hR; replace Rw := Kd.R_below Rw hv; replace Rg := Kd.R_below Rg hv; replace Ry2 := Kd.R_below Ry2 hv; replace hw := hw.trans (Below.mono hv hw.size); have hz := Below.size hv; have Rh := rowIv hR (lo := V13.heap.size) (by simp); clear hR hl hvw hv)
  clear Ry2
  go_wp2_with (go_at_call 12; (with_reducible refine to_gives (V := V14) bq3 (eqSS_same _ _ _ _ _ _ (Kd.C_below (Kd.R_reads' Rh).2.2 bq3) (Kd.C_below (Kd.R_reads' Rw).2.2 bq3) HL.out.1.1 (getD_leR HL.out.1.2)) ?_); intro V15 hv hvw; replace Rw := Kd.R_below Rw hv; replace Rg := Kd.R_below Rg hv; replace Rh := Kd.R_below Rh hv; replace hw := hw.trans (Below.mono hv hw.size); have hz := Below.size hv; clear hv hvw)
  go_wp2_with (go_at_call 14; (with_reducible refine to_gives (V := V15) bq3 (heldInt64SS_c _ _ _ _ (1) _ (Kd.C_below (tagCR Rg HQ2.out (marksR_len _ _)) bq3) rfl HL.out.1.1 HL.out.1.2 (by decide) HL.out.2) ?_); intro V16 hv hvw; replace Rw := Kd.R_below Rw hv; replace Rg := Kd.R_below Rg hv; replace Rh := Kd.R_below Rh hv; replace hw := hw.trans (Below.mono hv hw.size); have hz := Below.size hv; clear hv hvw)
  go_ret
  exact .mk rfl (below_later hw bq3)
end Go.Proofs.Ytimjhehagimcaaa
