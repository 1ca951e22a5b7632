/- The walk of l01Derive; no condition. -/
import Derived.Test.YtafdakamibpjaaaDerW
import Derived.StillTailTactics
set_option linter.unusedVariables false
set_option linter.unusedSimpArgs false
namespace Go.Proofs.Ytafdakamibpjaaa
open Go.RowKit Go.Proofs.YtafdakamibpjaaaW.PrintWords
attribute [local go_sem] Later.cell Later.frozen Later.lt Later.lt_add Later.le Later.le_add Later.ne Later.ne' add_at

set_option maxRecDepth 100000 in
set_option maxHeartbeats 4000000 in
theorem l01Derive0_c (p d : Int) (A : Option Addr) (c : Nat) (ts : List T4) (w : World) (hC : kT.C w A ts.length ts) (hn : ts.length ≤ 2097152) (hp : 2 ≤ p) (hp' : p ≤ 13) (hcan : Canon p ts) :
    Calls Try.prog 117 #[.agg #[.int .i64 p, .int .i64 d, .slice A ts.length c], .int .i64 0] w (MakesP p d 139 (derL p 0 ts) w) := by
  have HV := Lib.hid (fun t (ht : t ∈ ts) => der_vals hp' hcan ht t.e.a)
  have hC1 := Kd.C_alloc hC (.cells #[.int .i64 p, .int .i64 d, .slice A ts.length c] 64)
  have s2 : (w.alloc (.cells #[.int .i64 p, .int .i64 d, .slice A ts.length c] 64)).cell? ⟨w.heap.size, 2, none⟩ = some (.slice A ts.length c) := by first | (simp; done) | (simp [go_sem]; done) | go_simp
  have hbw : Below w.heap.size w (w.alloc (.cells #[.int .i64 p, .int .i64 d, .slice A ts.length c] 64)) := (by repeat (first | (with_reducible assumption) | (with_reducible exact Below.refl _ _) | ((with_reducible refine Below.alloc ?_ ?_ _); rotate_left; (focus (first | omega | (simp; done) | (simp; omega) | (simp [Later.le, Later.le_add, Later.lt, Later.lt_add]; done) | (simp [Later.le, Later.le_add, Later.lt, Later.lt_add]; omega)))) | (with_reducible refine Below.drew ?_) | (with_reducible refine pw_below_drewN ?_ _) | ((with_reducible refine Below.setCell ?_ ?_ _); rotate_left; (focus (first | omega | (simp; done) | (simp; omega) | (simp [Later.le, Later.le_add, Later.lt, Later.lt_add]; done) | (simp [Later.le, Later.le_add, Later.lt, Later.lt_add]; omega)))) | ((with_reducible refine below_hop (by assumption) ?_ ?_); rotate_left; (focus (first | omega | (simp; done) | (simp; omega) | (simp [Later.le, Later.le_add, Later.lt, Later.lt_add]; done) | (simp [Later.le, Later.le_add, Later.lt, Later.lt_add]; omega)))) | ((with_reducible refine bel_later _ ?_ ?_); rotate_left; (focus (first | omega | (simp; done) | (simp; omega) | (simp [Later.le, Later.le_add, Later.lt, Later.lt_add]; done) | (simp [Later.le, Later.le_add, Later.lt, Later.lt_add]; omega))))))
  have hz0 : (w.alloc (.cells #[.int .i64 p, .int .i64 d, .slice A ts.length c] 64)).heap.size = w.heap.size + 1 := by simp
  clear hcan
  go_enter Try.func117, Try.ntmps117
  go_wp2_with (go_at_call 138; (with_reducible refine call_makesP (l01Empty_c _ _ _) ?_); intro x A1 c1 hb1 hl1 hR1 hC1'; have hsz := x.ok.size; simp at hsz; have zx : w.heap.size < x.W.heap.size := (by omega); have z0 : x.W.cell? ⟨w.heap.size + 1, 0, none⟩ = some (.int .i64 0) := x.keep (by first | (simp; done) | (simp [go_sem]; done) | go_simp); have z1 : x.W.cell? ⟨w.heap.size + 1, 1, none⟩ = some (.int .i64 0) := x.keep (by first | (simp; done) | (simp [go_sem]; done) | go_simp); have z2 : x.W.cell? ⟨w.heap.size + 1, 2, none⟩ = some (.slice none 0 0) := x.keep (by first | (simp; done) | (simp [go_sem]; done) | go_simp); have z3 : ∀ j, x.W.frozen? ⟨w.heap.size + 1, j, none⟩ = false := (fun j => (x.ok.frozen (p := ⟨w.heap.size + 1, j, none⟩) (by simp)).trans (by first | (simp; done) | (simp [go_sem]; done) | go_simp)); have hx0 : Below (w.alloc (.cells #[.int .i64 p, .int .i64 d, .slice A ts.length c] 64)).heap.size (w.alloc (.cells #[.int .i64 p, .int .i64 d, .slice A ts.length c] 64)) x.W := (below_alloc2 _ (.cells #[.int .i64 0, .int .i64 0, .slice none 0 0] 64)).trans (x.ok.mono (by simp)); have ACC0 := Lib.hid (AccK.start (d := kT) (rb := w.heap.size + 1) (p := p) (n := d) (E := 139) (T := 64) hx0 (Kd.R_lower hR1 (by simp)) (by simp) (by simp; omega) z0 z1 z2 z3); clear z0 z1 z2 z3 hx0 hR1 hC1' hb1 hl1)
  have acc0 := ACC0.out
  clear ACC0
  generalize (x.W.alloc (.cells #[.int .i64 p, .int .i64 d, .slice A1 ([] : List T4).length c1] 64)) = V at *
  generalize x.W.heap.size = ob at *
  generalize hrb : w.heap.size + 1 = rb at *
  generalize hxb : w.heap.size = xb at *
  generalize (w.alloc (.cells #[.int .i64 p, .int .i64 d, .slice A ts.length c] 64)) = W0 at *
  go_loopg [6] ts.length (fun g v6 w' => ∃ (k : Nat) (B : Option Addr) (cb : Nat), k + g = ts.length ∧ v6 = .int .i64 k ∧ AccK kT W0 ob rb p d 139 w' B cb (putsT p [] (derP 0 (ts.take k))))
  case atStart => exact ⟨0, A1, c1, by omega, rfl, acc0⟩
  case round =>
    clear acc0
    obtain ⟨k, B, cb, hik, rfl, acc⟩ := hrel
    have HIK := Lib.hid hik
    clear hik
    have a2 := pw_cell_below acc.bel s2
    have ze := World.block_lt_of_cell? _ _ a2
    simp only [] at ze
    by_cases hlt : k < ts.length
    · obtain ⟨bb, oo, hA, q0, q1, q2, q3⟩ := kT_at hC1 k hlt z4
      subst hA
      have q0 := pw_cell_below acc.bel q0
      have q1 := pw_cell_below acc.bel q1
      have q2 := pw_cell_below acc.bel q2
      have q3 := pw_cell_below acc.bel q3
      have zb := World.block_lt_of_cell? _ _ q0
      simp only [] at zb
      have hi0 : (0 : Int) ≤ k := by omega
      have hi1 : (k : Int) < ts.length := by omega
      have hin : ((k : Int)).toNat = k := by omega
      have hcx : Canon p (putsT p [] (derP 0 (ts.take k))) := putsT_canon hp _ (canon_nil p)
      have hlx : (putsT p [] (derP 0 (ts.take k))).length ≤ 4194304 := by
        have h1 := putsT_len p (derP 0 (ts.take k)) []
        have h2 := derP_len 0 (ts.take k)
        rw [List.length_take] at h2
        simp only [List.length_nil] at h1
        omega
      have hst := derP_step (i := 0) hlt
      have hsn := fun q => putsT_snoc p [] (derP 0 (ts.take k)) q
      obtain ⟨hv0, hv1⟩ := HV.out _ (getD_mem4 hlt)
      generalize ts.getD k z4 = t at *
      generalize derP 0 (ts.take k) = l at *
      generalize hxs : putsT p [] l = xs at *
      have HXS := Lib.hid hxs.symm
      clear hxs
      have hat : t.e.at 0 = t.e.a := rfl
      rw [hat] at hst
      have HST := Lib.hid hst
      have HSN := Lib.hid hsn
      clear hst hat hsn
      obtain ⟨U, hU, hb8, e0, e1, e2, hzU, fz⟩ := three_two wr t.e 118
      have f0 := fz 0
      have f1 := fz 1
      have f2 := fz 2
      by_cases hz : (t.e.a.toNat : Int) = 0
      · have HZ := Lib.hid hz
        have hz' : ((t.e.a.toNat : Int) == 0) = true := by simpa using hz
        clear hz
        have ACC := Lib.hid (acc.below hb8)
        clear acc hb8 f0 f1 f2 fz
        go_wp2
        go_roundg (ts.length - k - 1)
        case measure => have := HIK.out; omega
        case rel => exact ⟨k + 1, B, cb, by have := HIK.out; omega, by go_num, by rw [HST.out, if_pos HZ.out]; exact HXS.out ▸ ACC.out⟩
      · have hz' : ((t.e.a.toNat : Int) == 0) = false := by simpa using hz
        have hdc := u8_dec (x := t.e.a) (by omega)
        obtain ⟨U2, hU2, hb7, g0, g1, g2, hz2, hfar⟩ := three_set (k := 0) hb8 (Nat.le_refl _) e0 e1 e2 (.int .u8 ((t.e.a - 1).toNat : Int)) (by omega)
        replace g0 : U2.cell? ⟨wr.heap.size, 0, none⟩ = some (.int .u8 ((t.e.a - 1).toNat : Int)) := g0
        replace g1 : U2.cell? ⟨wr.heap.size, 1, none⟩ = some (.int .u8 (t.e.b.toNat : Int)) := g1
        replace g2 : U2.cell? ⟨wr.heap.size, 2, none⟩ = some (.int .u8 (t.e.c.toNat : Int)) := g2
        have hfz := HV
        have hcv : IntKind.i64.wrap (t.e.a.toNat : Int) = (t.e.a.toNat : Int) := i64_small (by omega) (by have : t.e.a.toNat < 256 := t.e.a.toNat_lt; omega)
        have hwk : IntKind.i64.wrap ((t.e.a.toNat : Int) * t.v) = t.v * (t.e.a.toNat : Int) := by
          rw [Int.mul_comm]
          exact i64_small (by omega) (by omega)
        have hbd := canon_bd hp hcx (decE t.e 0)
        have hput : ∀ W, kT.C W B xs.length xs → Calls Try.prog 139 #[.agg #[.int .i64 p, .int .i64 d, .slice B xs.length cb], .agg #[.int .u8 ((t.e.a - 1).toNat : Int), .int .u8 (t.e.b.toNat : Int), .int .u8 (t.e.c.toNat : Int)], .int .i64 (t.v * (t.e.a.toNat : Int))] W (MakesP p d 139 (putT p xs (decE t.e 0) (t.v * (t.e.a.toNat : Int))) W) := fun W hC => l01Put_c p d B cb xs (decE t.e 0) (t.v * (t.e.a.toNat : Int)) W hC hlx hp hp' (by omega) (by omega) hbd
        have HPUT := Lib.hid hput
        clear hput hcx hbd hlx
        have acc2 := acc.below hb7.drew
        have acc1 := acc.below hb7
        have o0 := acc1.o0
        have o1 := acc1.o1
        have o2 := acc1.o2
        have c0 := pw_cell_below hb7 q0
        have c1 := pw_cell_below hb7 q1
        have c2 := pw_cell_below hb7 q2
        have c3 := pw_cell_below hb7 q3
        have d2 := pw_cell_below hb7 a2
        have ACC := Lib.hid acc2
        have zlo := acc1.lo
        have HFZ := Lib.hid fz
        clear acc acc1 acc2 hfar hb8 fz
        go_wp2
        go_still_tail 10, (by kernel_rfl)
        change wpList _ _ _ _ _ U2.drew
        go_wp2_with (go_at_call 139; (with_reducible refine to_makesP (V := U2.drew) (Below.refl _ _) (HPUT.out _ (Kd.R_reads' ACC.out.R).2.2) ?_); intro w3 B3 c3 hb3 hb3' hl3 hR3; have acc3 := ACC.out.below hb3; have p0 := acc3.o0; have p1 := acc3.o1; have p2 := acc3.o2; have f0 := acc3.o3 0; have f1 := acc3.o3 1; have f2 := acc3.o3 2; clear acc3)
        go_roundg (ts.length - k - 1)
        case measure => have := HIK.out; omega
        case rel => exact ⟨k + 1, B3, c3, by have := HIK.out; omega, by go_num, by rw [HST.out, if_neg hz, HSN.out]; exact ACC.out.set hb3 hR3⟩
    · have hie : k = ts.length := by have := HIK.out; omega
      subst hie
      rw [List.take_length] at acc
      change AccK _ _ _ _ _ _ _ _ _ _ (derL p 0 ts) at acc
      generalize derL p 0 ts = xs at *
      have r0 := acc.r0
      have r1 := acc.r1
      have r2 := acc.r2
      have r3 := acc.r3 0
      have r4 := acc.r3 1
      have r5 := acc.r3 2
      have o0 := acc.o0
      have o1 := acc.o1
      have o2 := acc.o2
      have zlo := acc.lo
      have zlr := acc.lr
      have hne' := acc.hne
      have hrb' := acc.hrb
      have bel := acc.bel
      have hR := acc.R
      clear acc
      go_wp2
      refine bodyPost_ret (v := .agg #[.int .i64 p, .int .i64 d, .slice B xs.length cb]) (by simp [results, Try.results117, go_sem, r0, r1, r2]) rfl ⟨B, cb, rfl, ?_, ?_⟩
      · exact R_set3 hR (fun k hk => hk.2) (by omega) _ _ _
      · rw [hxb]
        exact hbw.trans ((below_set3 bel hrb' _ _ _).mono (by omega))

set_option maxRecDepth 100000 in
set_option maxHeartbeats 4000000 in
theorem l01Derive1_c (p d : Int) (A : Option Addr) (c : Nat) (ts : List T4) (w : World) (hC : kT.C w A ts.length ts) (hn : ts.length ≤ 2097152) (hp : 2 ≤ p) (hp' : p ≤ 13) (hcan : Canon p ts) :
    Calls Try.prog 117 #[.agg #[.int .i64 p, .int .i64 d, .slice A ts.length c], .int .i64 1] w (MakesP p d 139 (derL p 1 ts) w) := by
  have HV := Lib.hid (fun t (ht : t ∈ ts) => der_vals hp' hcan ht t.e.b)
  have hC1 := Kd.C_alloc hC (.cells #[.int .i64 p, .int .i64 d, .slice A ts.length c] 64)
  have s2 : (w.alloc (.cells #[.int .i64 p, .int .i64 d, .slice A ts.length c] 64)).cell? ⟨w.heap.size, 2, none⟩ = some (.slice A ts.length c) := by first | (simp; done) | (simp [go_sem]; done) | go_simp
  have hbw : Below w.heap.size w (w.alloc (.cells #[.int .i64 p, .int .i64 d, .slice A ts.length c] 64)) := (by repeat (first | (with_reducible assumption) | (with_reducible exact Below.refl _ _) | ((with_reducible refine Below.alloc ?_ ?_ _); rotate_left; (focus (first | omega | (simp; done) | (simp; omega) | (simp [Later.le, Later.le_add, Later.lt, Later.lt_add]; done) | (simp [Later.le, Later.le_add, Later.lt, Later.lt_add]; omega)))) | (with_reducible refine Below.drew ?_) | (with_reducible refine pw_below_drewN ?_ _) | ((with_reducible refine Below.setCell ?_ ?_ _); rotate_left; (focus (first | omega | (simp; done) | (simp; omega) | (simp [Later.le, Later.le_add, Later.lt, Later.lt_add]; done) | (simp [Later.le, Later.le_add, Later.lt, Later.lt_add]; omega)))) | ((with_reducible refine below_hop (by assumption) ?_ ?_); rotate_left; (focus (first | omega | (simp; done) | (simp; omega) | (simp [Later.le, Later.le_add, Later.lt, Later.lt_add]; done) | (simp [Later.le, Later.le_add, Later.lt, Later.lt_add]; omega)))) | ((with_reducible refine bel_later _ ?_ ?_); rotate_left; (focus (first | omega | (simp; done) | (simp; omega) | (simp [Later.le, Later.le_add, Later.lt, Later.lt_add]; done) | (simp [Later.le, Later.le_add, Later.lt, Later.lt_add]; omega))))))
  have hz0 : (w.alloc (.cells #[.int .i64 p, .int .i64 d, .slice A ts.length c] 64)).heap.size = w.heap.size + 1 := by simp
  clear hcan
  go_enter Try.func117, Try.ntmps117
  go_wp2_with (go_at_call 138; (with_reducible refine call_makesP (l01Empty_c _ _ _) ?_); intro x A1 c1 hb1 hl1 hR1 hC1'; have hsz := x.ok.size; simp at hsz; have zx : w.heap.size < x.W.heap.size := (by omega); have z0 : x.W.cell? ⟨w.heap.size + 1, 0, none⟩ = some (.int .i64 0) := x.keep (by first | (simp; done) | (simp [go_sem]; done) | go_simp); have z1 : x.W.cell? ⟨w.heap.size + 1, 1, none⟩ = some (.int .i64 0) := x.keep (by first | (simp; done) | (simp [go_sem]; done) | go_simp); have z2 : x.W.cell? ⟨w.heap.size + 1, 2, none⟩ = some (.slice none 0 0) := x.keep (by first | (simp; done) | (simp [go_sem]; done) | go_simp); have z3 : ∀ j, x.W.frozen? ⟨w.heap.size + 1, j, none⟩ = false := (fun j => (x.ok.frozen (p := ⟨w.heap.size + 1, j, none⟩) (by simp)).trans (by first | (simp; done) | (simp [go_sem]; done) | go_simp)); have hx0 : Below (w.alloc (.cells #[.int .i64 p, .int .i64 d, .slice A ts.length c] 64)).heap.size (w.alloc (.cells #[.int .i64 p, .int .i64 d, .slice A ts.length c] 64)) x.W := (below_alloc2 _ (.cells #[.int .i64 0, .int .i64 0, .slice none 0 0] 64)).trans (x.ok.mono (by simp)); have ACC0 := Lib.hid (AccK.start (d := kT) (rb := w.heap.size + 1) (p := p) (n := d) (E := 139) (T := 64) hx0 (Kd.R_lower hR1 (by simp)) (by simp) (by simp; omega) z0 z1 z2 z3); clear z0 z1 z2 z3 hx0 hR1 hC1' hb1 hl1)
  have acc0 := ACC0.out
  clear ACC0
  generalize (x.W.alloc (.cells #[.int .i64 p, .int .i64 d, .slice A1 ([] : List T4).length c1] 64)) = V at *
  generalize x.W.heap.size = ob at *
  generalize hrb : w.heap.size + 1 = rb at *
  generalize hxb : w.heap.size = xb at *
  generalize (w.alloc (.cells #[.int .i64 p, .int .i64 d, .slice A ts.length c] 64)) = W0 at *
  go_loopg [6] ts.length (fun g v6 w' => ∃ (k : Nat) (B : Option Addr) (cb : Nat), k + g = ts.length ∧ v6 = .int .i64 k ∧ AccK kT W0 ob rb p d 139 w' B cb (putsT p [] (derP 1 (ts.take k))))
  case atStart => exact ⟨0, A1, c1, by omega, rfl, acc0⟩
  case round =>
    clear acc0
    obtain ⟨k, B, cb, hik, rfl, acc⟩ := hrel
    have HIK := Lib.hid hik
    clear hik
    have a2 := pw_cell_below acc.bel s2
    have ze := World.block_lt_of_cell? _ _ a2
    simp only [] at ze
    by_cases hlt : k < ts.length
    · obtain ⟨bb, oo, hA, q0, q1, q2, q3⟩ := kT_at hC1 k hlt z4
      subst hA
      have q0 := pw_cell_below acc.bel q0
      have q1 := pw_cell_below acc.bel q1
      have q2 := pw_cell_below acc.bel q2
      have q3 := pw_cell_below acc.bel q3
      have zb := World.block_lt_of_cell? _ _ q0
      simp only [] at zb
      have hi0 : (0 : Int) ≤ k := by omega
      have hi1 : (k : Int) < ts.length := by omega
      have hin : ((k : Int)).toNat = k := by omega
      have hcx : Canon p (putsT p [] (derP 1 (ts.take k))) := putsT_canon hp _ (canon_nil p)
      have hlx : (putsT p [] (derP 1 (ts.take k))).length ≤ 4194304 := by
        have h1 := putsT_len p (derP 1 (ts.take k)) []
        have h2 := derP_len 1 (ts.take k)
        rw [List.length_take] at h2
        simp only [List.length_nil] at h1
        omega
      have hst := derP_step (i := 1) hlt
      have hsn := fun q => putsT_snoc p [] (derP 1 (ts.take k)) q
      obtain ⟨hv0, hv1⟩ := HV.out _ (getD_mem4 hlt)
      generalize ts.getD k z4 = t at *
      generalize derP 1 (ts.take k) = l at *
      generalize hxs : putsT p [] l = xs at *
      have HXS := Lib.hid hxs.symm
      clear hxs
      have hat : t.e.at 1 = t.e.b := rfl
      rw [hat] at hst
      have HST := Lib.hid hst
      have HSN := Lib.hid hsn
      clear hst hat hsn
      obtain ⟨U, hU, hb8, e0, e1, e2, hzU, fz⟩ := three_two wr t.e 118
      have f0 := fz 0
      have f1 := fz 1
      have f2 := fz 2
      by_cases hz : (t.e.b.toNat : Int) = 0
      · have HZ := Lib.hid hz
        have hz' : ((t.e.b.toNat : Int) == 0) = true := by simpa using hz
        clear hz
        have ACC := Lib.hid (acc.below hb8)
        clear acc hb8 f0 f1 f2 fz
        go_wp2
        go_roundg (ts.length - k - 1)
        case measure => have := HIK.out; omega
        case rel => exact ⟨k + 1, B, cb, by have := HIK.out; omega, by go_num, by rw [HST.out, if_pos HZ.out]; exact HXS.out ▸ ACC.out⟩
      · have hz' : ((t.e.b.toNat : Int) == 0) = false := by simpa using hz
        have hdc := u8_dec (x := t.e.b) (by omega)
        obtain ⟨U2, hU2, hb7, g0, g1, g2, hz2, hfar⟩ := three_set (k := 1) hb8 (Nat.le_refl _) e0 e1 e2 (.int .u8 ((t.e.b - 1).toNat : Int)) (by omega)
        replace g0 : U2.cell? ⟨wr.heap.size, 0, none⟩ = some (.int .u8 (t.e.a.toNat : Int)) := g0
        replace g1 : U2.cell? ⟨wr.heap.size, 1, none⟩ = some (.int .u8 ((t.e.b - 1).toNat : Int)) := g1
        replace g2 : U2.cell? ⟨wr.heap.size, 2, none⟩ = some (.int .u8 (t.e.c.toNat : Int)) := g2
        have hfz := HV
        have hcv : IntKind.i64.wrap (t.e.b.toNat : Int) = (t.e.b.toNat : Int) := i64_small (by omega) (by have : t.e.b.toNat < 256 := t.e.b.toNat_lt; omega)
        have hwk : IntKind.i64.wrap ((t.e.b.toNat : Int) * t.v) = t.v * (t.e.b.toNat : Int) := by
          rw [Int.mul_comm]
          exact i64_small (by omega) (by omega)
        have hbd := canon_bd hp hcx (decE t.e 1)
        have hput : ∀ W, kT.C W B xs.length xs → Calls Try.prog 139 #[.agg #[.int .i64 p, .int .i64 d, .slice B xs.length cb], .agg #[.int .u8 (t.e.a.toNat : Int), .int .u8 ((t.e.b - 1).toNat : Int), .int .u8 (t.e.c.toNat : Int)], .int .i64 (t.v * (t.e.b.toNat : Int))] W (MakesP p d 139 (putT p xs (decE t.e 1) (t.v * (t.e.b.toNat : Int))) W) := fun W hC => l01Put_c p d B cb xs (decE t.e 1) (t.v * (t.e.b.toNat : Int)) W hC hlx hp hp' (by omega) (by omega) hbd
        have HPUT := Lib.hid hput
        clear hput hcx hbd hlx
        have acc2 := acc.below hb7.drew
        have acc1 := acc.below hb7
        have o0 := acc1.o0
        have o1 := acc1.o1
        have o2 := acc1.o2
        have c0 := pw_cell_below hb7 q0
        have c1 := pw_cell_below hb7 q1
        have c2 := pw_cell_below hb7 q2
        have c3 := pw_cell_below hb7 q3
        have d2 := pw_cell_below hb7 a2
        have ACC := Lib.hid acc2
        have zlo := acc1.lo
        have HFZ := Lib.hid fz
        clear acc acc1 acc2 hfar hb8 fz
        go_wp2
        go_still_tail 10, (by kernel_rfl)
        change wpList _ _ _ _ _ U2.drew
        go_wp2_with (go_at_call 139; (with_reducible refine to_makesP (V := U2.drew) (Below.refl _ _) (HPUT.out _ (Kd.R_reads' ACC.out.R).2.2) ?_); intro w3 B3 c3 hb3 hb3' hl3 hR3; have acc3 := ACC.out.below hb3; have p0 := acc3.o0; have p1 := acc3.o1; have p2 := acc3.o2; have f0 := acc3.o3 0; have f1 := acc3.o3 1; have f2 := acc3.o3 2; clear acc3)
        go_roundg (ts.length - k - 1)
        case measure => have := HIK.out; omega
        case rel => exact ⟨k + 1, B3, c3, by have := HIK.out; omega, by go_num, by rw [HST.out, if_neg hz, HSN.out]; exact ACC.out.set hb3 hR3⟩
    · have hie : k = ts.length := by have := HIK.out; omega
      subst hie
      rw [List.take_length] at acc
      change AccK _ _ _ _ _ _ _ _ _ _ (derL p 1 ts) at acc
      generalize derL p 1 ts = xs at *
      have r0 := acc.r0
      have r1 := acc.r1
      have r2 := acc.r2
      have r3 := acc.r3 0
      have r4 := acc.r3 1
      have r5 := acc.r3 2
      have o0 := acc.o0
      have o1 := acc.o1
      have o2 := acc.o2
      have zlo := acc.lo
      have zlr := acc.lr
      have hne' := acc.hne
      have hrb' := acc.hrb
      have bel := acc.bel
      have hR := acc.R
      clear acc
      go_wp2
      refine bodyPost_ret (v := .agg #[.int .i64 p, .int .i64 d, .slice B xs.length cb]) (by simp [results, Try.results117, go_sem, r0, r1, r2]) rfl ⟨B, cb, rfl, ?_, ?_⟩
      · exact R_set3 hR (fun k hk => hk.2) (by omega) _ _ _
      · rw [hxb]
        exact hbw.trans ((below_set3 bel hrb' _ _ _).mono (by omega))

set_option maxRecDepth 100000 in
set_option maxHeartbeats 4000000 in
theorem l01Derive2_c (p d : Int) (A : Option Addr) (c : Nat) (ts : List T4) (w : World) (hC : kT.C w A ts.length ts) (hn : ts.length ≤ 2097152) (hp : 2 ≤ p) (hp' : p ≤ 13) (hcan : Canon p ts) :
    Calls Try.prog 117 #[.agg #[.int .i64 p, .int .i64 d, .slice A ts.length c], .int .i64 2] w (MakesP p d 139 (derL p 2 ts) w) := by
  have HV := Lib.hid (fun t (ht : t ∈ ts) => der_vals hp' hcan ht t.e.c)
  have hC1 := Kd.C_alloc hC (.cells #[.int .i64 p, .int .i64 d, .slice A ts.length c] 64)
  have s2 : (w.alloc (.cells #[.int .i64 p, .int .i64 d, .slice A ts.length c] 64)).cell? ⟨w.heap.size, 2, none⟩ = some (.slice A ts.length c) := by first | (simp; done) | (simp [go_sem]; done) | go_simp
  have hbw : Below w.heap.size w (w.alloc (.cells #[.int .i64 p, .int .i64 d, .slice A ts.length c] 64)) := (by repeat (first | (with_reducible assumption) | (with_reducible exact Below.refl _ _) | ((with_reducible refine Below.alloc ?_ ?_ _); rotate_left; (focus (first | omega | (simp; done) | (simp; omega) | (simp [Later.le, Later.le_add, Later.lt, Later.lt_add]; done) | (simp [Later.le, Later.le_add, Later.lt, Later.lt_add]; omega)))) | (with_reducible refine Below.drew ?_) | (with_reducible refine pw_below_drewN ?_ _) | ((with_reducible refine Below.setCell ?_ ?_ _); rotate_left; (focus (first | omega | (simp; done) | (simp; omega) | (simp [Later.le, Later.le_add, Later.lt, Later.lt_add]; done) | (simp [Later.le, Later.le_add, Later.lt, Later.lt_add]; omega)))) | ((with_reducible refine below_hop (by assumption) ?_ ?_); rotate_left; (focus (first | omega | (simp; done) | (simp; omega) | (simp [Later.le, Later.le_add, Later.lt, Later.lt_add]; done) | (simp [Later.le, Later.le_add, Later.lt, Later.lt_add]; omega)))) | ((with_reducible refine bel_later _ ?_ ?_); rotate_left; (focus (first | omega | (simp; done) | (simp; omega) | (simp [Later.le, Later.le_add, Later.lt, Later.lt_add]; done) | (simp [Later.le, Later.le_add, Later.lt, Later.lt_add]; omega))))))
  have hz0 : (w.alloc (.cells #[.int .i64 p, .int .i64 d, .slice A ts.length c] 64)).heap.size = w.heap.size + 1 := by simp
  clear hcan
  go_enter Try.func117, Try.ntmps117
  go_wp2_with (go_at_call 138; (with_reducible refine call_makesP (l01Empty_c _ _ _) ?_); intro x A1 c1 hb1 hl1 hR1 hC1'; have hsz := x.ok.size; simp at hsz; have zx : w.heap.size < x.W.heap.size := (by omega); have z0 : x.W.cell? ⟨w.heap.size + 1, 0, none⟩ = some (.int .i64 0) := x.keep (by first | (simp; done) | (simp [go_sem]; done) | go_simp); have z1 : x.W.cell? ⟨w.heap.size + 1, 1, none⟩ = some (.int .i64 0) := x.keep (by first | (simp; done) | (simp [go_sem]; done) | go_simp); have z2 : x.W.cell? ⟨w.heap.size + 1, 2, none⟩ = some (.slice none 0 0) := x.keep (by first | (simp; done) | (simp [go_sem]; done) | go_simp); have z3 : ∀ j, x.W.frozen? ⟨w.heap.size + 1, j, none⟩ = false := (fun j => (x.ok.frozen (p := ⟨w.heap.size + 1, j, none⟩) (by simp)).trans (by first | (simp; done) | (simp [go_sem]; done) | go_simp)); have hx0 : Below (w.alloc (.cells #[.int .i64 p, .int .i64 d, .slice A ts.length c] 64)).heap.size (w.alloc (.cells #[.int .i64 p, .int .i64 d, .slice A ts.length c] 64)) x.W := (below_alloc2 _ (.cells #[.int .i64 0, .int .i64 0, .slice none 0 0] 64)).trans (x.ok.mono (by simp)); have ACC0 := Lib.hid (AccK.start (d := kT) (rb := w.heap.size + 1) (p := p) (n := d) (E := 139) (T := 64) hx0 (Kd.R_lower hR1 (by simp)) (by simp) (by simp; omega) z0 z1 z2 z3); clear z0 z1 z2 z3 hx0 hR1 hC1' hb1 hl1)
  have acc0 := ACC0.out
  clear ACC0
  generalize (x.W.alloc (.cells #[.int .i64 p, .int .i64 d, .slice A1 ([] : List T4).length c1] 64)) = V at *
  generalize x.W.heap.size = ob at *
  generalize hrb : w.heap.size + 1 = rb at *
  generalize hxb : w.heap.size = xb at *
  generalize (w.alloc (.cells #[.int .i64 p, .int .i64 d, .slice A ts.length c] 64)) = W0 at *
  go_loopg [6] ts.length (fun g v6 w' => ∃ (k : Nat) (B : Option Addr) (cb : Nat), k + g = ts.length ∧ v6 = .int .i64 k ∧ AccK kT W0 ob rb p d 139 w' B cb (putsT p [] (derP 2 (ts.take k))))
  case atStart => exact ⟨0, A1, c1, by omega, rfl, acc0⟩
  case round =>
    clear acc0
    obtain ⟨k, B, cb, hik, rfl, acc⟩ := hrel
    have HIK := Lib.hid hik
    clear hik
    have a2 := pw_cell_below acc.bel s2
    have ze := World.block_lt_of_cell? _ _ a2
    simp only [] at ze
    by_cases hlt : k < ts.length
    · obtain ⟨bb, oo, hA, q0, q1, q2, q3⟩ := kT_at hC1 k hlt z4
      subst hA
      have q0 := pw_cell_below acc.bel q0
      have q1 := pw_cell_below acc.bel q1
      have q2 := pw_cell_below acc.bel q2
      have q3 := pw_cell_below acc.bel q3
      have zb := World.block_lt_of_cell? _ _ q0
      simp only [] at zb
      have hi0 : (0 : Int) ≤ k := by omega
      have hi1 : (k : Int) < ts.length := by omega
      have hin : ((k : Int)).toNat = k := by omega
      have hcx : Canon p (putsT p [] (derP 2 (ts.take k))) := putsT_canon hp _ (canon_nil p)
      have hlx : (putsT p [] (derP 2 (ts.take k))).length ≤ 4194304 := by
        have h1 := putsT_len p (derP 2 (ts.take k)) []
        have h2 := derP_len 2 (ts.take k)
        rw [List.length_take] at h2
        simp only [List.length_nil] at h1
        omega
      have hst := derP_step (i := 2) hlt
      have hsn := fun q => putsT_snoc p [] (derP 2 (ts.take k)) q
      obtain ⟨hv0, hv1⟩ := HV.out _ (getD_mem4 hlt)
      generalize ts.getD k z4 = t at *
      generalize derP 2 (ts.take k) = l at *
      generalize hxs : putsT p [] l = xs at *
      have HXS := Lib.hid hxs.symm
      clear hxs
      have hat : t.e.at 2 = t.e.c := rfl
      rw [hat] at hst
      have HST := Lib.hid hst
      have HSN := Lib.hid hsn
      clear hst hat hsn
      obtain ⟨U, hU, hb8, e0, e1, e2, hzU, fz⟩ := three_two wr t.e 118
      have f0 := fz 0
      have f1 := fz 1
      have f2 := fz 2
      by_cases hz : (t.e.c.toNat : Int) = 0
      · have HZ := Lib.hid hz
        have hz' : ((t.e.c.toNat : Int) == 0) = true := by simpa using hz
        clear hz
        have ACC := Lib.hid (acc.below hb8)
        clear acc hb8 f0 f1 f2 fz
        go_wp2
        go_roundg (ts.length - k - 1)
        case measure => have := HIK.out; omega
        case rel => exact ⟨k + 1, B, cb, by have := HIK.out; omega, by go_num, by rw [HST.out, if_pos HZ.out]; exact HXS.out ▸ ACC.out⟩
      · have hz' : ((t.e.c.toNat : Int) == 0) = false := by simpa using hz
        have hdc := u8_dec (x := t.e.c) (by omega)
        obtain ⟨U2, hU2, hb7, g0, g1, g2, hz2, hfar⟩ := three_set (k := 2) hb8 (Nat.le_refl _) e0 e1 e2 (.int .u8 ((t.e.c - 1).toNat : Int)) (by omega)
        replace g0 : U2.cell? ⟨wr.heap.size, 0, none⟩ = some (.int .u8 (t.e.a.toNat : Int)) := g0
        replace g1 : U2.cell? ⟨wr.heap.size, 1, none⟩ = some (.int .u8 (t.e.b.toNat : Int)) := g1
        replace g2 : U2.cell? ⟨wr.heap.size, 2, none⟩ = some (.int .u8 ((t.e.c - 1).toNat : Int)) := g2
        have hfz := HV
        have hcv : IntKind.i64.wrap (t.e.c.toNat : Int) = (t.e.c.toNat : Int) := i64_small (by omega) (by have : t.e.c.toNat < 256 := t.e.c.toNat_lt; omega)
        have hwk : IntKind.i64.wrap ((t.e.c.toNat : Int) * t.v) = t.v * (t.e.c.toNat : Int) := by
          rw [Int.mul_comm]
          exact i64_small (by omega) (by omega)
        have hbd := canon_bd hp hcx (decE t.e 2)
        have hput : ∀ W, kT.C W B xs.length xs → Calls Try.prog 139 #[.agg #[.int .i64 p, .int .i64 d, .slice B xs.length cb], .agg #[.int .u8 (t.e.a.toNat : Int), .int .u8 (t.e.b.toNat : Int), .int .u8 ((t.e.c - 1).toNat : Int)], .int .i64 (t.v * (t.e.c.toNat : Int))] W (MakesP p d 139 (putT p xs (decE t.e 2) (t.v * (t.e.c.toNat : Int))) W) := fun W hC => l01Put_c p d B cb xs (decE t.e 2) (t.v * (t.e.c.toNat : Int)) W hC hlx hp hp' (by omega) (by omega) hbd
        have HPUT := Lib.hid hput
        clear hput hcx hbd hlx
        have acc2 := acc.below hb7.drew
        have acc1 := acc.below hb7
        have o0 := acc1.o0
        have o1 := acc1.o1
        have o2 := acc1.o2
        have c0 := pw_cell_below hb7 q0
        have c1 := pw_cell_below hb7 q1
        have c2 := pw_cell_below hb7 q2
        have c3 := pw_cell_below hb7 q3
        have d2 := pw_cell_below hb7 a2
        have ACC := Lib.hid acc2
        have zlo := acc1.lo
        have HFZ := Lib.hid fz
        clear acc acc1 acc2 hfar hb8 fz
        go_wp2
        go_still_tail 10, (by kernel_rfl)
        change wpList _ _ _ _ _ U2.drew
        go_wp2_with (go_at_call 139; (with_reducible refine to_makesP (V := U2.drew) (Below.refl _ _) (HPUT.out _ (Kd.R_reads' ACC.out.R).2.2) ?_); intro w3 B3 c3 hb3 hb3' hl3 hR3; have acc3 := ACC.out.below hb3; have p0 := acc3.o0; have p1 := acc3.o1; have p2 := acc3.o2; have f0 := acc3.o3 0; have f1 := acc3.o3 1; have f2 := acc3.o3 2; clear acc3)
        go_roundg (ts.length - k - 1)
        case measure => have := HIK.out; omega
        case rel => exact ⟨k + 1, B3, c3, by have := HIK.out; omega, by go_num, by rw [HST.out, if_neg hz, HSN.out]; exact ACC.out.set hb3 hR3⟩
    · have hie : k = ts.length := by have := HIK.out; omega
      subst hie
      rw [List.take_length] at acc
      change AccK _ _ _ _ _ _ _ _ _ _ (derL p 2 ts) at acc
      generalize derL p 2 ts = xs at *
      have r0 := acc.r0
      have r1 := acc.r1
      have r2 := acc.r2
      have r3 := acc.r3 0
      have r4 := acc.r3 1
      have r5 := acc.r3 2
      have o0 := acc.o0
      have o1 := acc.o1
      have o2 := acc.o2
      have zlo := acc.lo
      have zlr := acc.lr
      have hne' := acc.hne
      have hrb' := acc.hrb
      have bel := acc.bel
      have hR := acc.R
      clear acc
      go_wp2
      refine bodyPost_ret (v := .agg #[.int .i64 p, .int .i64 d, .slice B xs.length cb]) (by simp [results, Try.results117, go_sem, r0, r1, r2]) rfl ⟨B, cb, rfl, ?_, ?_⟩
      · exact R_set3 hR (fun k hk => hk.2) (by omega) _ _ _
      · rw [hxb]
        exact hbw.trans ((below_set3 bel hrb' _ _ _).mono (by omega))
end Go.Proofs.Ytafdakamibpjaaa
