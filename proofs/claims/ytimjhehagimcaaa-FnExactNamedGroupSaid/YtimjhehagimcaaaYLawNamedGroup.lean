/- The walk of the law FnExactNamedGroup; no condition. -/
import Derived.Test.YtimjhehagimcaaaYE1
import Derived.Test.YtimjhehagimcaaaYNamZ
import Derived.Test.YtimjhehagimcaaaYKitK
import Derived.Deep.RegionWith
import Derived.Deep.RegionHeld3
import Derived.Deep.CutRange
set_option linter.unusedVariables false
set_option linter.unusedSimpArgs false
namespace Go.Proofs.Ytimjhehagimcaaa
open Go.RowKit Go.Proofs.YtimjhehagimcaaaW.PrintWords
attribute [local go_sem] Later.cell Later.frozen Later.lt Later.lt_add Later.le Later.le_add Later.ne Later.ne' add_at
attribute [local go_sem] later_drew2 later_drewf2
set_option maxRecDepth 100000 in
set_option maxRecDepth 100000 in
set_option maxHeartbeats 40000000 in
theorem lawNamedGroup_c (n0 : ByteArray) (n1 : Int) (w : World) (hi1 : -9223372036854775808 ≤ n1 ∧ n1 ≤ 9223372036854775807) :
    Calls Try.prog 4 #[.string n0, .int .i64 n1] w (Gives (.bool true) w) := by
  by_cases hs0 : (1048576 : Int) < n0.size
  · go_enter Try.func4, Try.ntmps4
    go_wp2
    go_ret
    exact .mk rfl bq3
  have HL := Lib.hid (ngR_len _ _ : (ngR n0 n1).ts.length ≤ 1048576)
  have HS := Lib.hid (fun W => specNamedGroup_c n0 n1 W)
  have HI := Lib.hid (fun W => implNamedGroup_c n0 n1 W)
  generalize hres : ngR n0 n1 = r at *
  clear hres
  go_enter Try.func4, Try.ntmps4
  have hw : Below w.heap.size w w := Below.refl _ _
  go_wp2_with (go_at_call 15; (with_reducible refine to_makesGC (V := w) bq3 (HS.out _) ?_); intro V1 Bw fw hv hvw hl hR; replace hw := hw.trans (Below.mono hv hw.size); have hz := Below.size hv; have Rw := rowIv hR (lo := w.heap.size) (by simp); clear hR hl hvw hv)
  go_wp2_with (go_at_call 16; (with_reducible refine to_makesGC (V := V1) bq3 (HI.out _) ?_); intro V2 Bg fg hv hvw hl hR; have bw_0 := pw_cell_below hvw (a := ⟨V1.heap.size, 0, none⟩) (v := .int .i64 r.p) (by simp); have bw_1 := pw_cell_below hvw (a := ⟨V1.heap.size, 1, none⟩) (v := .int .i64 r.d) (by simp); have bw_2 := pw_cell_below hvw (a := ⟨V1.heap.size, 2, none⟩) (v := .slice Bw r.ts.length fw) (by simp); have zbbw : V1.heap.size < V2.heap.size := World.block_lt_of_cell? _ _ bw_0; have ztbw := zbbw; replace Rw := Kd.R_below Rw hv; replace hw := hw.trans (Below.mono hv hw.size); have hz := Below.size hv; have Rg := rowIv hR (lo := V1.heap.size + 1) (by simp); clear hR hl hvw hv)
  go_wp2_with (go_at_call 17; (with_reducible refine to_gives (V := V2) bq3 (eqGroup_same _ _ _ _ _ _ _ _ (Kd.C_below (Kd.R_reads' Rg).2.2 bq3) (Kd.C_below (Kd.R_reads' Rw).2.2 bq3) HL.out) ?_); intro V3 hv hvw; have bg_0 := pw_cell_below hvw (a := ⟨V2.heap.size, 0, none⟩) (v := .int .i64 r.p) (by simp); have bg_1 := pw_cell_below hvw (a := ⟨V2.heap.size, 1, none⟩) (v := .int .i64 r.d) (by simp); have bg_2 := pw_cell_below hvw (a := ⟨V2.heap.size, 2, none⟩) (v := .slice Bg r.ts.length fg) (by simp); have zbbg : V2.heap.size < V3.heap.size := World.block_lt_of_cell? _ _ bg_0; have ztbg := zbbg; replace bw_0 := pw_cell_below hv bw_0; replace bw_1 := pw_cell_below hv bw_1; replace bw_2 := pw_cell_below hv bw_2; replace Rw := Kd.R_below Rw hv; replace Rg := Kd.R_below Rg hv; replace hw := hw.trans (Below.mono hv hw.size); have hz := Below.size hv; replace zbbw : V1.heap.size < V3.heap.size := World.block_lt_of_cell? _ _ bw_0; clear hv hvw)
  go_wp2_with (go_at_call 18; (with_reducible refine to_gives (V := V3) bq3 (markGroup_c _ _ _ _ _ (1) _ HL.out) ?_); intro V4 hv hvw; replace bw_0 := pw_cell_below hv bw_0; replace bw_1 := pw_cell_below hv bw_1; replace bw_2 := pw_cell_below hv bw_2; replace bg_0 := pw_cell_below hv bg_0; replace bg_1 := pw_cell_below hv bg_1; replace bg_2 := pw_cell_below hv bg_2; replace Rw := Kd.R_below Rw hv; replace Rg := Kd.R_below Rg hv; replace hw := hw.trans (Below.mono hv hw.size); have hz := Below.size hv; replace zbbw : V1.heap.size < V4.heap.size := World.block_lt_of_cell? _ _ bw_0; replace zbbg : V2.heap.size < V4.heap.size := World.block_lt_of_cell? _ _ bg_0; clear hv hvw)
  go_wp2_with (go_at_call 19; (with_reducible refine to_gives (V := V4) bq3 (heldGroup_c _ _ _ _ _ (1) _ HL.out (by omega) (by omega)) ?_); intro V5 hv hvw; replace bw_0 := pw_cell_below hv bw_0; replace bw_1 := pw_cell_below hv bw_1; replace bw_2 := pw_cell_below hv bw_2; replace bg_0 := pw_cell_below hv bg_0; replace bg_1 := pw_cell_below hv bg_1; replace bg_2 := pw_cell_below hv bg_2; replace Rw := Kd.R_below Rw hv; replace Rg := Kd.R_below Rg hv; replace hw := hw.trans (Below.mono hv hw.size); have hz := Below.size hv; replace zbbw : V1.heap.size < V5.heap.size := World.block_lt_of_cell? _ _ bw_0; replace zbbg : V2.heap.size < V5.heap.size := World.block_lt_of_cell? _ _ bg_0; clear hv hvw)
  go_wp2_with (go_at_call 16; (with_reducible refine to_makesGC (V := V5) bq3 (HI.out _) ?_); intro V6 Bh fh hv hvw hl hR; replace bw_0 := pw_cell_below hv bw_0; replace bw_1 := pw_cell_below hv bw_1; replace bw_2 := pw_cell_below hv bw_2; replace bg_0 := pw_cell_below hv bg_0; replace bg_1 := pw_cell_below hv bg_1; replace bg_2 := pw_cell_below hv bg_2; replace Rw := Kd.R_below Rw hv; replace Rg := Kd.R_below Rg hv; replace hw := hw.trans (Below.mono hv hw.size); have hz := Below.size hv; replace zbbw : V1.heap.size < V6.heap.size := World.block_lt_of_cell? _ _ bw_0; replace zbbg : V2.heap.size < V6.heap.size := World.block_lt_of_cell? _ _ bg_0; have Rh := rowIv hR (lo := V5.heap.size) (by simp); clear hR hl hvw hv)
  go_wp2_with (go_at_call 17; (with_reducible refine to_gives (V := V6) bq3 (eqGroup_same _ _ _ _ _ _ _ _ (Kd.C_below (Kd.R_reads' Rh).2.2 bq3) (Kd.C_below (Kd.R_reads' Rw).2.2 bq3) HL.out) ?_); intro V7 hv hvw; have bh_0 := pw_cell_below hvw (a := ⟨V6.heap.size, 0, none⟩) (v := .int .i64 r.p) (by simp); have bh_1 := pw_cell_below hvw (a := ⟨V6.heap.size, 1, none⟩) (v := .int .i64 r.d) (by simp); have bh_2 := pw_cell_below hvw (a := ⟨V6.heap.size, 2, none⟩) (v := .slice Bh r.ts.length fh) (by simp); have zbbh : V6.heap.size < V7.heap.size := World.block_lt_of_cell? _ _ bh_0; have ztbh := zbbh; replace bw_0 := pw_cell_below hv bw_0; replace bw_1 := pw_cell_below hv bw_1; replace bw_2 := pw_cell_below hv bw_2; replace bg_0 := pw_cell_below hv bg_0; replace bg_1 := pw_cell_below hv bg_1; replace bg_2 := pw_cell_below hv bg_2; replace Rw := Kd.R_below Rw hv; replace Rg := Kd.R_below Rg hv; replace Rh := Kd.R_below Rh hv; replace hw := hw.trans (Below.mono hv hw.size); have hz := Below.size hv; replace zbbw : V1.heap.size < V7.heap.size := World.block_lt_of_cell? _ _ bw_0; replace zbbg : V2.heap.size < V7.heap.size := World.block_lt_of_cell? _ _ bg_0; clear hv hvw)
  go_wp2_with (go_at_call 19; (with_reducible refine to_gives (V := V7) bq3 (heldGroup_c _ _ _ _ _ (1) _ HL.out (by omega) (by omega)) ?_); intro V8 hv hvw; replace bw_0 := pw_cell_below hv bw_0; replace bw_1 := pw_cell_below hv bw_1; replace bw_2 := pw_cell_below hv bw_2; replace bg_0 := pw_cell_below hv bg_0; replace bg_1 := pw_cell_below hv bg_1; replace bg_2 := pw_cell_below hv bg_2; replace bh_0 := pw_cell_below hv bh_0; replace bh_1 := pw_cell_below hv bh_1; replace bh_2 := pw_cell_below hv bh_2; replace Rw := Kd.R_below Rw hv; replace Rg := Kd.R_below Rg hv; replace Rh := Kd.R_below Rh hv; replace hw := hw.trans (Below.mono hv hw.size); have hz := Below.size hv; replace zbbw : V1.heap.size < V8.heap.size := World.block_lt_of_cell? _ _ bw_0; replace zbbg : V2.heap.size < V8.heap.size := World.block_lt_of_cell? _ _ bg_0; replace zbbh : V6.heap.size < V8.heap.size := World.block_lt_of_cell? _ _ bh_0; clear hv hvw)
  go_ret
  exact .mk rfl (below_later hw bq3)
end Go.Proofs.Ytimjhehagimcaaa
