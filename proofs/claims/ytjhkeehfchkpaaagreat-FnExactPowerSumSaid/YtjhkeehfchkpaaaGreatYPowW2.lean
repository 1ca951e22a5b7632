/- The walk of the l01Power; no condition. -/
import Derived.Test.YtjhkeehfchkpaaaGreatYE1
import Derived.Test.YtjhkeehfchkpaaaGreatYPowW
import Derived.Test.YtjhkeehfchkpaaaGreatYKitW
set_option linter.unusedVariables false
set_option linter.unusedSimpArgs false
namespace Go.Proofs.YtjhkeehfchkpaaaGreat
open Go.RowKit Go.Proofs.YtjhkeehfchkpaaaGreatW.PrintWords
attribute [local go_sem] Later.cell Later.frozen Later.lt Later.lt_add Later.le Later.le_add Later.ne Later.ne' add_at
set_option maxRecDepth 100000 in
set_option maxHeartbeats 2000000 in
theorem l01Power_c (p d : Int) (A : Option Addr) (c : Nat) (ts : List T4) (k : Nat) (w : World) (hC : kT.C w A ts.length ts) (hn : ts.length ≤ 1183) (hp : 2 ≤ p) (hp' : p ≤ 13) (hc : Canon p ts) (hk : k ≤ 12) (hd : (k : Int) * max (degP ts) 0 ≤ 12) :
    Calls Tryz.prog 88 #[.agg #[.int .i64 p, .int .i64 d, .slice A ts.length c], .int .i64 k] w (MakesPB p d (powL p ts k) true 80 w) := by
  have hC1 := Kd.C_alloc hC (.cells #[.int .i64 p, .int .i64 d, .slice A ts.length c] 38)
  have s0 : (w.alloc (.cells #[.int .i64 p, .int .i64 d, .slice A ts.length c] 38)).cell? ⟨w.heap.size, 0, none⟩ = some (.int .i64 p) := by first | (simp; done) | (simp [go_sem]; done) | go_simp
  have s1 : (w.alloc (.cells #[.int .i64 p, .int .i64 d, .slice A ts.length c] 38)).cell? ⟨w.heap.size, 1, none⟩ = some (.int .i64 d) := by first | (simp; done) | (simp [go_sem]; done) | go_simp
  have s2 : (w.alloc (.cells #[.int .i64 p, .int .i64 d, .slice A ts.length c] 38)).cell? ⟨w.heap.size, 2, none⟩ = some (.slice A ts.length c) := by first | (simp; done) | (simp [go_sem]; done) | go_simp
  have r0 : ((w.alloc (.cells #[.int .i64 p, .int .i64 d, .slice A ts.length c] 38)).alloc (.cells #[.int .i64 0, .int .i64 0, .slice none 0 0] 38)).cell? ⟨w.heap.size + 1, 0, none⟩ = some (.int .i64 0) := by first | (simp; done) | (simp [go_sem]; done) | go_simp
  have r1 : ((w.alloc (.cells #[.int .i64 p, .int .i64 d, .slice A ts.length c] 38)).alloc (.cells #[.int .i64 0, .int .i64 0, .slice none 0 0] 38)).cell? ⟨w.heap.size + 1, 1, none⟩ = some (.int .i64 0) := by first | (simp; done) | (simp [go_sem]; done) | go_simp
  have r2 : ((w.alloc (.cells #[.int .i64 p, .int .i64 d, .slice A ts.length c] 38)).alloc (.cells #[.int .i64 0, .int .i64 0, .slice none 0 0] 38)).cell? ⟨w.heap.size + 1, 2, none⟩ = some (.slice none 0 0) := by first | (simp; done) | (simp [go_sem]; done) | go_simp
  have r3 : ∀ j, ((w.alloc (.cells #[.int .i64 p, .int .i64 d, .slice A ts.length c] 38)).alloc (.cells #[.int .i64 0, .int .i64 0, .slice none 0 0] 38)).frozen? ⟨w.heap.size + 1, j, none⟩ = false := fun j => by first | (simp; done) | (simp [go_sem]; done) | go_simp
  have hbw : Below w.heap.size w (w.alloc (.cells #[.int .i64 p, .int .i64 d, .slice A ts.length c] 38)) := bq1
  have hb0 : Below (w.alloc (.cells #[.int .i64 p, .int .i64 d, .slice A ts.length c] 38)).heap.size (w.alloc (.cells #[.int .i64 p, .int .i64 d, .slice A ts.length c] 38)) ((w.alloc (.cells #[.int .i64 p, .int .i64 d, .slice A ts.length c] 38)).alloc (.cells #[.int .i64 0, .int .i64 0, .slice none 0 0] 38)) := below_alloc2 _ _
  have hz0 : (w.alloc (.cells #[.int .i64 p, .int .i64 d, .slice A ts.length c] 38)).heap.size = w.heap.size + 1 := by simp
  have hz1 : ((w.alloc (.cells #[.int .i64 p, .int .i64 d, .slice A ts.length c] 38)).alloc (.cells #[.int .i64 0, .int .i64 0, .slice none 0 0] 38)).heap.size = w.heap.size + 1 + 1 := by simp
  have R3 := Lib.hid r3
  have HN := Lib.hid (fun i (hi : i < k) => pow_len hp hc hd (Nat.le_of_lt hi))
  have hK : ∀ W, Calls Tryz.prog 111 #[.int .i64 p, .int .i64 d, .agg #[.int .u8 0, .int .u8 0, .int .u8 0], .int .i64 1] W (MakesP p d 80 (putT p [] z3 1) W) := fun W => l01One_c p d z3 1 W hp hp' (by omega) (by omega)
  have hD := fun W hC => l01Degree_c p d A c ts W hC (by omega)
  obtain ⟨b1, b2⟩ := degP_bd ts
  have hwm : IntKind.i64.wrap ((k : Int) * max (degP ts) 0) = (k : Int) * max (degP ts) 0 := i64_small (by have : 0 ≤ (k : Int) * max (degP ts) 0 := Int.mul_nonneg (by omega) (by omega); omega) (by omega)
  have hgt : decide (12 < (k : Int) * max (degP ts) 0) = false := by simpa using hd
  have HM := Lib.hid (fun (i : Nat) (hi : i < k) (W : World) B cb hC hD => l01Times_c p d p d B A cb c (powL p ts i) ts W hC hD (pow_len hp hc hd (Nat.le_of_lt hi)) hn hp hp' (powL_canon hp ts i) hc)
  have HO := Lib.hid (fun i (hi : i < k) => pow_no hp hc hd hi)
  clear r3
  go_enter Tryz.func88, Tryz.ntmps88
  go_wp2_with (first | (go_at_call 111; (with_reducible refine to_makesP (V := (w.alloc (.cells #[.int .i64 p, .int .i64 d, .slice A ts.length c] 38)).alloc (.cells #[.int .i64 0, .int .i64 0, .slice none 0 0] 38)) (Below.refl _ _) (hK _) ?_); intro w1 B1 c1 hb1 hb1' hl1 hR1; have t0 := cell_alloc (pw_cell_below hb1 (cell_alloc s0 _)) (.cells #[.int .i64 p, .int .i64 d, .slice B1 (putT p [] z3 1).length c1] 38); have t1 := cell_alloc (pw_cell_below hb1 (cell_alloc s1 _)) (.cells #[.int .i64 p, .int .i64 d, .slice B1 (putT p [] z3 1).length c1] 38); have t2 := cell_alloc (pw_cell_below hb1 (cell_alloc s2 _)) (.cells #[.int .i64 p, .int .i64 d, .slice B1 (putT p [] z3 1).length c1] 38); have zz : w.heap.size + 1 < w1.heap.size := by have := hb1.size; omega) | (go_at_call 87; (first | (with_reducible refine call_later2 (hD _ (Kd.C_below hC bq1)) ?_) | (with_reducible refine call_later (hD _ (Kd.C_below hC bq1)) ?_)); intro x))
  have hX := hb0.trans (hb1.mono hb0.size)
  have hS := AccK.start2 (T := 38) (p := p) (n := d) (rb := w.heap.size + 1) hX (by rw [hz0, ← hz1]; exact hR1) hz0 (by have := hb1.size; omega) (pw_cell_below hb1 r0) (pw_cell_below hb1 r1) (pw_cell_below hb1 r2) (fun j => (hb1.frozen (p := ⟨w.heap.size + 1, j, none⟩) (by show w.heap.size + 1 < _; omega)).trans (R3.out j))
  have hlo1 := hb1.size
  change AccK kT _ _ _ p d _ (w1.alloc (.cells #[.int .i64 p, .int .i64 d, .slice B1 (putT p [] z3 1).length c1] 38)) B1 c1 (powL p ts 0) at hS
  have S0 := Lib.hid s0
  replace hS := hS.below x.ok
  clear t0 t1 t2 zz hgt hwm
  generalize x.W = V0 at *
  clear x
  generalize hob : w1.heap.size = ob at *
  clear hX hb0 r0 r1 r2 hR1 hb1 hb1'
  generalize hrb : w.heap.size + 1 = rb at *
  generalize hxb : w.heap.size = xb at *
  have hbase : (w.alloc (.cells #[.int .i64 p, .int .i64 d, .slice A ts.length c] 38)).heap.size = rb := hz0
  generalize (w.alloc (.cells #[.int .i64 p, .int .i64 d, .slice A ts.length c] 38)) = W0 at *
  go_loopg [1] k (fun g v1 w' => ∃ (i : Nat) (B : Option Addr) (cb : Nat), i + g = k ∧ v1 = .int .i64 ((k : Int) - i) ∧ AccK kT W0 ob rb p d 80 w' B cb (powL p ts i))
  case atStart => exact ⟨0, B1, c1, by omega, by simp, hS⟩
  case round =>
    clear hS
    obtain ⟨i, B, cb, hik, rfl, hS⟩ := hrel
    have HIK := Lib.hid hik
    clear hik
    have o0 := hS.o0
    have o1 := hS.o1
    have o2 := hS.o2
    by_cases hlt : i < k
    · have u0 := pw_cell_below hS.bel s0
      have u1 := pw_cell_below hS.bel s1
      have u2 := pw_cell_below hS.bel s2
      have hi1 : (0 : Int) < (k : Int) - i := by omega
      have hwr : IntKind.i64.wrap ((k : Int) - i - 1) = (k : Int) - i - 1 := i64_small (by omega) (by omega)
      have hM := HM.out i hlt wr B cb (Kd.R_reads' hS.R).2.2 (Kd.C_below hC1 hS.bel)
      rw [HO.out i hlt] at hM
      simp only [Bool.false_eq_true, if_false, Bool.not_false] at hM
      have e : powL p ts (i + 1) = mulL p (powL p ts i) ts := rfl
      have HE := Lib.hid e
      clear e
      generalize mulL p (powL p ts i) ts = ys at *
      generalize powL p ts i = xs at *
      go_wp2_with (go_at_call 112; (with_reducible refine to_makesPB (V := wr) (Below.refl _ _) hM ?_); intro w8 B8 c8 hb8 hb8' hl8 hR8; have y0 := (hS.below hb8).o0; have y1 := (hS.below hb8).o1; have y2 := (hS.below hb8).o2; have y3 := (hS.below hb8).o3; have HT := Lib.hid (hS.set hb8 hR8))
      go_roundg (gk - 1)
      case measure => have := HIK.out; omega
      case rel => exact ⟨i + 1, B8, c8, by have := HIK.out; omega, by go_num, by rw [HE.out]; exact HT.out⟩
    · have hie : i = k := by have := HIK.out; omega
      subst hie
      have x0 := hS.r0
      have x1 := hS.r1
      have x2 := hS.r2
      have x3 := hS.r3
      go_wp2
      generalize powL p ts i = xs at *
      refine bodyPost_ret (v := .tuple #[.agg #[.int .i64 p, .int .i64 d, .slice B xs.length cb], .bool true]) (by simp [results, Tryz.results88, go_sem, x0, x1, x2]) rfl ⟨B, cb, rfl, ?_, ?_⟩
      · exact R_set3 hS.R (fun k hk => hk.2) (by omega) _ _ _
      · rw [hxb]
        exact below_set3 (hbw.trans (hS.bel.mono (by omega))) (by omega) _ _ _
end Go.Proofs.YtjhkeehfchkpaaaGreat
