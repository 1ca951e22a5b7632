/- What later laws need beside the texts of the earlier ones; no condition. -/
import Derived.Test.YtjhkeehfchkpaaaGreatYKitA
import Derived.Test.YtjhkeehfchkpaaaGreatYOpenA
import Derived.Test.YtjhkeehfchkpaaaGreatYPowW
set_option linter.unusedVariables false
set_option linter.unusedSimpArgs false
namespace Go.Proofs.YtjhkeehfchkpaaaGreat
open Go.RowKit Go.Proofs.YtjhkeehfchkpaaaGreatW.PrintWords
end Go.Proofs.YtjhkeehfchkpaaaGreat
namespace Go.Proofs.YtjhkeehfchkpaaaGreat
open Go.RowKit Go.Proofs.YtjhkeehfchkpaaaGreatW.PrintWords
attribute [local go_sem] Later.cell Later.frozen Later.lt Later.lt_add Later.le Later.le_add Later.ne Later.ne' add_at
end Go.Proofs.YtjhkeehfchkpaaaGreat
namespace Go.Proofs.YtjhkeehfchkpaaaGreat
open Go.RowKit Go.Proofs.YtjhkeehfchkpaaaGreatW.PrintWords
attribute [local go_sem] Later.cell Later.frozen Later.lt Later.lt_add Later.le Later.le_add Later.ne Later.ne' add_at
end Go.Proofs.YtjhkeehfchkpaaaGreat
namespace Go.Proofs.YtjhkeehfchkpaaaGreat
open Go.RowKit Go.Proofs.YtjhkeehfchkpaaaGreatW.PrintWords
attribute [local go_sem] Later.cell Later.frozen Later.lt Later.lt_add Later.le Later.le_add Later.ne Later.ne' add_at
end Go.Proofs.YtjhkeehfchkpaaaGreat
namespace Go.Proofs.YtjhkeehfchkpaaaGreat
open Go.RowKit Go.Proofs.YtjhkeehfchkpaaaGreatW.PrintWords
attribute [local go_sem] Later.cell Later.frozen Later.lt Later.lt_add Later.le Later.le_add Later.ne Later.ne' add_at
end Go.Proofs.YtjhkeehfchkpaaaGreat
namespace Go.Proofs.YtjhkeehfchkpaaaGreat
open Go.RowKit Go.Proofs.YtjhkeehfchkpaaaGreatW.PrintWords
attribute [local go_sem] Later.cell Later.frozen Later.lt Later.lt_add Later.le Later.le_add Later.ne Later.ne' add_at
end Go.Proofs.YtjhkeehfchkpaaaGreat
namespace Go.Proofs.YtjhkeehfchkpaaaGreat
open Go.RowKit Go.Proofs.YtjhkeehfchkpaaaGreatW.PrintWords
attribute [local go_sem] Later.cell Later.frozen Later.lt Later.lt_add Later.le Later.le_add Later.ne Later.ne' add_at
end Go.Proofs.YtjhkeehfchkpaaaGreat
namespace Go.Proofs.YtjhkeehfchkpaaaGreat
open Go.RowKit Go.Proofs.YtjhkeehfchkpaaaGreatW.PrintWords
attribute [local go_sem] Later.cell Later.frozen Later.lt Later.lt_add Later.le Later.le_add Later.ne Later.ne' add_at
end Go.Proofs.YtjhkeehfchkpaaaGreat
namespace Go.Proofs.YtjhkeehfchkpaaaGreat
open Go.RowKit Go.Proofs.YtjhkeehfchkpaaaGreatW.PrintWords
attribute [local go_sem] Later.cell Later.frozen Later.lt Later.lt_add Later.le Later.le_add Later.ne Later.ne' add_at
set_option maxRecDepth 100000 in
theorem degreeP_c (p d : Int) (A : Option Addr) (c : Nat) (ts : List T4) (w : World) (hC : kT.C w A ts.length ts) (hn : ts.length ≤ 9223372036854775807) :
    Calls Tryz.prog 82 #[.agg #[.int .i64 p, .int .i64 d, .slice A ts.length c]] w (Gives (.int .i64 (degP ts)) w) := by
  by_cases h : ts.length = 0
  · have h0 : ((ts.length : Int) == 0) = true := by simpa using h
    have hr : degP ts = -1 := by simp [degP, h]
    rw [hr]
    clear h hr
    go_enter Tryz.func82, Tryz.ntmps82
    go_wp2
    go_ret
    exact .mk rfl bq8
  · have h0 : ((ts.length : Int) == 0) = false := by simpa using h
    obtain ⟨b, o, hA, q0, q1, q2, q3⟩ := kT_at hC (ts.length - 1) (by omega) z4
    have hr : degP ts = degE (ts.getD (ts.length - 1) z4).e := by simp [degP, h]
    rw [hr]
    subst hA
    have hb : b < w.heap.size := World.block_lt_of_cell? w _ q0
    have hi0 : (0 : Int) ≤ (ts.length : Int) - 1 := by omega
    have hi1 : (ts.length : Int) - 1 < ts.length := by omega
    have hin : ((ts.length : Int) - 1).toNat = ts.length - 1 := by omega
    generalize ts.getD (ts.length - 1) z4 = t at *
    clear h hr
    go_enter Tryz.func82, Tryz.ntmps82
    go_wp2_with ((go_at_call 108; (first | (with_reducible refine call_later2 (degree_c _ _) ?_) | (with_reducible refine call_later (degree_c _ _) ?_)); intro x))
    go_ret
    exact .mk rfl bq8
end Go.Proofs.YtjhkeehfchkpaaaGreat
namespace Go.Proofs.YtjhkeehfchkpaaaGreat
open Go.RowKit Go.Proofs.YtjhkeehfchkpaaaGreatW.PrintWords
attribute [local go_sem] Later.cell Later.frozen Later.lt Later.lt_add Later.le Later.le_add Later.ne Later.ne' add_at
end Go.Proofs.YtjhkeehfchkpaaaGreat
namespace Go.Proofs.YtjhkeehfchkpaaaGreat
open Go.RowKit Go.Proofs.YtjhkeehfchkpaaaGreatW.PrintWords
attribute [local go_sem] Later.cell Later.frozen Later.lt Later.lt_add Later.le Later.le_add Later.ne Later.ne' add_at
end Go.Proofs.YtjhkeehfchkpaaaGreat
namespace Go.Proofs.YtjhkeehfchkpaaaGreat
open Go.RowKit Go.Proofs.YtjhkeehfchkpaaaGreatW.PrintWords
attribute [local go_sem] Later.cell Later.frozen Later.lt Later.lt_add Later.le Later.le_add Later.ne Later.ne' add_at
end Go.Proofs.YtjhkeehfchkpaaaGreat
namespace Go.Proofs.YtjhkeehfchkpaaaGreat
open Go.RowKit Go.Proofs.YtjhkeehfchkpaaaGreatW.PrintWords
attribute [local go_sem] Later.cell Later.frozen Later.lt Later.lt_add Later.le Later.le_add Later.ne Later.ne' add_at
end Go.Proofs.YtjhkeehfchkpaaaGreat
namespace Go.Proofs.YtjhkeehfchkpaaaGreat
open Go.RowKit Go.Proofs.YtjhkeehfchkpaaaGreatW.PrintWords
attribute [local go_sem] Later.cell Later.frozen Later.lt Later.lt_add Later.le Later.le_add Later.ne Later.ne' add_at
end Go.Proofs.YtjhkeehfchkpaaaGreat
namespace Go.Proofs.YtjhkeehfchkpaaaGreat
open Go.RowKit Go.Proofs.YtjhkeehfchkpaaaGreatW.PrintWords
attribute [local go_sem] Later.cell Later.frozen Later.lt Later.lt_add Later.le Later.le_add Later.ne Later.ne' add_at
end Go.Proofs.YtjhkeehfchkpaaaGreat
namespace Go.Proofs.YtjhkeehfchkpaaaGreat
open Go.RowKit Go.Proofs.YtjhkeehfchkpaaaGreatW.PrintWords
attribute [local go_sem] Later.cell Later.frozen Later.lt Later.lt_add Later.le Later.le_add Later.ne Later.ne' add_at
attribute [local go_sem 2000] run_eqE run_neE guardE
end Go.Proofs.YtjhkeehfchkpaaaGreat
namespace Go.Proofs.YtjhkeehfchkpaaaGreat
open Go.RowKit Go.Proofs.YtjhkeehfchkpaaaGreatW.PrintWords
attribute [local go_sem] Later.cell Later.frozen Later.lt Later.lt_add Later.le Later.le_add Later.ne Later.ne' add_at
end Go.Proofs.YtjhkeehfchkpaaaGreat
namespace Go.Proofs.YtjhkeehfchkpaaaGreat
open Go.RowKit Go.Proofs.YtjhkeehfchkpaaaGreatW.PrintWords
attribute [local go_sem] Later.cell Later.frozen Later.lt Later.lt_add Later.le Later.le_add Later.ne Later.ne' add_at
end Go.Proofs.YtjhkeehfchkpaaaGreat

namespace Go.Proofs.YtjhkeehfchkpaaaGreat
open Go.RowKit Go.Proofs.YtjhkeehfchkpaaaGreatW.PrintWords Go.Deep Go.ChangeShapes Go.WideShapes
end Go.Proofs.YtjhkeehfchkpaaaGreat
namespace Go.Proofs.YtjhkeehfchkpaaaGreat
open Go.RowKit Go.Proofs.YtjhkeehfchkpaaaGreatW.PrintWords Go.Deep Go.ChangeShapes Go.WideShapes
section
variable {P : Program} {H : Type} {enc : TypeId × Value → H} {w : World} {r : Reach} {b0 base : Nat} {spare : Nat → Bool} {held : Bool} {t e : TypeId} {v : Value} {d : DataW H} {ps : List MemPlace}
theorem open_i64 (ht : P.underlying t = some (.int .i64)) (hv : Value.okWide P w r b0 t v) (h : DataW.Trod enc P w base spare held t v d ps) :
    ∃ n : Int, v = .int .i64 n ∧ (-9223372036854775808 ≤ n ∧ n ≤ 9223372036854775807) := by
  obtain ⟨n, hv, _, _, hw⟩ := open_int ht hv h
  have := bounds_i64 hw
  exact ⟨n, hv, by omega⟩
end
end Go.Proofs.YtjhkeehfchkpaaaGreat

namespace Go.Proofs.YtjhkeehfchkpaaaGreat
open Go.RowKit Go.Proofs.YtjhkeehfchkpaaaGreatW.PrintWords
attribute [local go_sem] Later.cell Later.frozen Later.lt Later.lt_add Later.le Later.le_add Later.ne Later.ne' add_at
theorem AccK.start2 {α : Type} {d : Kd α} {w0 X : World} {rb : Nat} {p n : Int} {E : TypeId} {B : Option Addr} {cb : Nat} {xs : List α} {T : TypeId} (hX : Below w0.heap.size w0 X) (hR : d.R E X (w0.heap.size + 1) (fun _ => True) (.slice B xs.length cb) xs) (hb1 : w0.heap.size = rb) (hz : w0.heap.size + 1 ≤ X.heap.size)
    (r0 : X.cell? ⟨rb, 0, none⟩ = some (.int .i64 0)) (r1 : X.cell? ⟨rb, 1, none⟩ = some (.int .i64 0)) (r2 : X.cell? ⟨rb, 2, none⟩ = some (.slice none 0 0)) (r3 : ∀ j, X.frozen? ⟨rb, j, none⟩ = false) :
    AccK d w0 X.heap.size rb p n E (X.alloc (.cells #[.int .i64 p, .int .i64 n, .slice B xs.length cb] T)) B cb xs := by
  have hR2 := Kd.R_mono (Kd.R_bound hR) (ok' := fun k => k ≠ X.heap.size ∧ k ≠ rb) (fun k hk => ⟨by have := hk.2.2.1; omega, by have := hk.2.1; omega⟩)
  have hlr : rb < X.heap.size := World.block_lt_of_cell? _ _ r0
  exact ⟨hX.alloc (by omega) _, by omega, by omega, by simp, by simp, by simp, fun j => by simp, Kd.R_alloc (Kd.R_lower hR2 (by omega)) _, cell_alloc r0 _, cell_alloc r1 _, cell_alloc r2 _, fun j => ((below_alloc2 X _).frozen (p := ⟨rb, j, none⟩) hlr).trans (r3 j), by omega⟩
theorem pow_no {p : Int} (hp : 2 ≤ p) {ts : List T4} (hc : Canon p ts) {k i : Nat} (hk : (k : Int) * max (degP ts) 0 ≤ 12) (hi : i < k) : tooB (powL p ts i) ts = false := by
  have h1 := powL_deg hp hc.1 i
  have h2 : ((i + 1 : Nat) : Int) * max (degP ts) 0 ≤ (k : Int) * max (degP ts) 0 := Int.mul_le_mul_of_nonneg_right (by omega) (by omega)
  rw [Int.natCast_succ, Int.add_mul] at h2
  unfold tooB
  have : decide (12 < degP (powL p ts i) + degP ts) = false := by
    rw [decide_eq_false_iff_not]
    omega
  rw [this, Bool.and_false]
set_option maxRecDepth 100000 in
set_option maxHeartbeats 2000000 in
theorem power_c (p d : Int) (A : Option Addr) (c : Nat) (ts : List T4) (k : Nat) (w : World) (hC : kT.C w A ts.length ts) (hn : ts.length ≤ 1183) (hp : 2 ≤ p) (hp' : p ≤ 13) (hc : Canon p ts) (hk : k ≤ 12) (hd : (k : Int) * max (degP ts) 0 ≤ 12) :
    Calls Tryz.prog 89 #[.agg #[.int .i64 p, .int .i64 d, .slice A ts.length c], .int .i64 k] w (MakesP p d 80 (powL p ts k) w) := by
  have hC1 := Kd.C_alloc hC (.cells #[.int .i64 p, .int .i64 d, .slice A ts.length c] 38)
  have s0 : (w.alloc (.cells #[.int .i64 p, .int .i64 d, .slice A ts.length c] 38)).cell? ⟨w.heap.size, 0, none⟩ = some (.int .i64 p) := by first | (simp; done) | (simp [go_sem]; done) | go_simp
  have s1 : (w.alloc (.cells #[.int .i64 p, .int .i64 d, .slice A ts.length c] 38)).cell? ⟨w.heap.size, 1, none⟩ = some (.int .i64 d) := by first | (simp; done) | (simp [go_sem]; done) | go_simp
  have s2 : (w.alloc (.cells #[.int .i64 p, .int .i64 d, .slice A ts.length c] 38)).cell? ⟨w.heap.size, 2, none⟩ = some (.slice A ts.length c) := by first | (simp; done) | (simp [go_sem]; done) | go_simp
  have r0 : ((w.alloc (.cells #[.int .i64 p, .int .i64 d, .slice A ts.length c] 38)).alloc (.cells #[.int .i64 0, .int .i64 0, .slice none 0 0] 38)).cell? ⟨w.heap.size + 1, 0, none⟩ = some (.int .i64 0) := by first | (simp; done) | (simp [go_sem]; done) | go_simp
  have r1 : ((w.alloc (.cells #[.int .i64 p, .int .i64 d, .slice A ts.length c] 38)).alloc (.cells #[.int .i64 0, .int .i64 0, .slice none 0 0] 38)).cell? ⟨w.heap.size + 1, 1, none⟩ = some (.int .i64 0) := by first | (simp; done) | (simp [go_sem]; done) | go_simp
  have r2 : ((w.alloc (.cells #[.int .i64 p, .int .i64 d, .slice A ts.length c] 38)).alloc (.cells #[.int .i64 0, .int .i64 0, .slice none 0 0] 38)).cell? ⟨w.heap.size + 1, 2, none⟩ = some (.slice none 0 0) := by first | (simp; done) | (simp [go_sem]; done) | go_simp
  have r3 : ∀ j, ((w.alloc (.cells #[.int .i64 p, .int .i64 d, .slice A ts.length c] 38)).alloc (.cells #[.int .i64 0, .int .i64 0, .slice none 0 0] 38)).frozen? ⟨w.heap.size + 1, j, none⟩ = false := fun j => by first | (simp; done) | (simp [go_sem]; done) | go_simp
  have hbw : Below w.heap.size w (w.alloc (.cells #[.int .i64 p, .int .i64 d, .slice A ts.length c] 38)) := bq1
  have hb0 : Below (w.alloc (.cells #[.int .i64 p, .int .i64 d, .slice A ts.length c] 38)).heap.size (w.alloc (.cells #[.int .i64 p, .int .i64 d, .slice A ts.length c] 38)) ((w.alloc (.cells #[.int .i64 p, .int .i64 d, .slice A ts.length c] 38)).alloc (.cells #[.int .i64 0, .int .i64 0, .slice none 0 0] 38)) := below_alloc2 _ _
  have hz0 : (w.alloc (.cells #[.int .i64 p, .int .i64 d, .slice A ts.length c] 38)).heap.size = w.heap.size + 1 := by simp
  have hz1 : ((w.alloc (.cells #[.int .i64 p, .int .i64 d, .slice A ts.length c] 38)).alloc (.cells #[.int .i64 0, .int .i64 0, .slice none 0 0] 38)).heap.size = w.heap.size + 1 + 1 := by simp
  have R3 := Lib.hid r3
  have HN := Lib.hid (fun i (hi : i < k) => pow_len hp hc hd (Nat.le_of_lt hi))
  have hK := fun W => constant_c p d 1 W hp hp' (by omega) (by omega)
  have HM := Lib.hid (fun (i : Nat) (hi : i < k) (W : World) B cb hC hD => mul_c p d p d B A cb c (powL p ts i) ts W hC hD (Nat.le_trans (Nat.mul_le_mul (pow_len hp hc hd (Nat.le_of_lt hi)) hn) (by omega)) (by have := pow_len hp hc hd (Nat.le_of_lt hi); omega) (by omega) hp hp' (prod_bd hp' (powL_canon hp ts i) hc))
  clear r3
  go_enter Tryz.func89, Tryz.ntmps89
  go_wp2_with (go_at_call 83; (with_reducible refine to_makesP (V := (w.alloc (.cells #[.int .i64 p, .int .i64 d, .slice A ts.length c] 38)).alloc (.cells #[.int .i64 0, .int .i64 0, .slice none 0 0] 38)) (Below.refl _ _) (hK _) ?_); intro w1 B1 c1 hb1 hb1' hl1 hR1)
  have hX := hb0.trans (hb1.mono hb0.size)
  have hS := AccK.start2 (T := 38) (p := p) (n := d) (rb := w.heap.size + 1) hX (by rw [hz0, ← hz1]; exact hR1) hz0 (by have := hb1.size; omega) (pw_cell_below hb1 r0) (pw_cell_below hb1 r1) (pw_cell_below hb1 r2) (fun j => (hb1.frozen (p := ⟨w.heap.size + 1, j, none⟩) (by show w.heap.size + 1 < _; omega)).trans (R3.out j))
  have hlo1 := hb1.size
  change AccK kT _ _ _ p d _ (w1.alloc (.cells #[.int .i64 p, .int .i64 d, .slice B1 (putT p [] z3 1).length c1] 38)) B1 c1 (powL p ts 0) at hS
  have S0 := Lib.hid s0
  generalize (w1.alloc (.cells #[.int .i64 p, .int .i64 d, .slice B1 (putT p [] z3 1).length c1] 38)) = V0 at *
  generalize hob : w1.heap.size = ob at *
  clear hX hb0 r0 r1 r2 hR1 hb1 hb1'
  generalize hrb : w.heap.size + 1 = rb at *
  generalize hxb : w.heap.size = xb at *
  have hbase : (w.alloc (.cells #[.int .i64 p, .int .i64 d, .slice A ts.length c] 38)).heap.size = rb := hz0
  generalize (w.alloc (.cells #[.int .i64 p, .int .i64 d, .slice A ts.length c] 38)) = W0 at *
  go_loopg [12] k (fun g v12 w' => ∃ (i : Nat) (B : Option Addr) (cb : Nat), i + g = k ∧ v12 = .int .i64 i ∧ AccK kT W0 ob rb p d 80 w' B cb (powL p ts i))
  case atStart => exact ⟨0, B1, c1, by omega, rfl, hS⟩
  case round =>
    clear hS
    obtain ⟨i, B, cb, hik, rfl, hS⟩ := hrel
    have HIK := Lib.hid hik
    clear hik
    have o0 := hS.o0
    have o1 := hS.o1
    have o2 := hS.o2
    by_cases hlt : i < k
    · have u0 := pw_cell_below hS.bel s0
      have u1 := pw_cell_below hS.bel s1
      have u2 := pw_cell_below hS.bel s2
      have hi1 : (i : Int) < k := by omega
      have hM := HM.out i hlt wr B cb (Kd.R_reads' hS.R).2.2 (Kd.C_below hC1 hS.bel)
      have e : powL p ts (i + 1) = mulL p (powL p ts i) ts := rfl
      have HE := Lib.hid e
      clear e
      generalize mulL p (powL p ts i) ts = ys at *
      generalize powL p ts i = xs at *
      go_wp2_with (go_at_call 84; (with_reducible refine to_makesP (V := wr) (Below.refl _ _) hM ?_); intro w8 B8 c8 hb8 hb8' hl8 hR8; have y0 := (hS.below hb8).o0; have y1 := (hS.below hb8).o1; have y2 := (hS.below hb8).o2; have y3 := (hS.below hb8).o3; have HT := Lib.hid (hS.set hb8 hR8))
      go_roundg (gk - 1)
      case measure => have := HIK.out; omega
      case rel => exact ⟨i + 1, B8, c8, by have := HIK.out; omega, by go_num, by rw [HE.out]; exact HT.out⟩
    · have hie : i = k := by have := HIK.out; omega
      subst hie
      have x0 := hS.r0
      have x1 := hS.r1
      have x2 := hS.r2
      have x3 := hS.r3
      go_wp2
      generalize powL p ts i = xs at *
      refine bodyPost_ret (v := .agg #[.int .i64 p, .int .i64 d, .slice B xs.length cb]) (by simp [results, Tryz.results89, go_sem, x0, x1, x2]) rfl ⟨B, cb, rfl, ?_, ?_⟩
      · exact R_set3 hS.R (fun k hk => hk.2) (by omega) _ _ _
      · rw [hxb]
        exact below_set3 (hbw.trans (hS.bel.mono (by omega))) (by omega) _ _ _
end Go.Proofs.YtjhkeehfchkpaaaGreat

