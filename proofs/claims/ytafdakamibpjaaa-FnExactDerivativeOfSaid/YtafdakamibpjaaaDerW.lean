/- The walk of the program's derivative; no condition. -/
import Derived.Test.YtafdakamibpjaaaKitW
set_option linter.unusedVariables false
set_option linter.unusedSimpArgs false
namespace Go.Proofs.Ytafdakamibpjaaa
open Go.RowKit Go.Proofs.YtafdakamibpjaaaW.PrintWords
attribute [local go_sem] Later.cell Later.frozen Later.lt Later.lt_add Later.le Later.le_add Later.ne Later.ne' add_at
open Go.Maps

theorem u8_dec {x : UInt8} (h : x.toNat ≠ 0) : IntKind.u8.wrap ((x.toNat : Int) - 1) = ((x - 1).toNat : Int) := by
  have h1 : x.toNat < 256 := x.toNat_lt
  have h2 : (x - 1).toNat = x.toNat - 1 := by
    rw [UInt8.toNat_sub]
    show (256 - 1 + x.toNat) % 256 = _
    omega
  rw [h2]
  have h3 : IntKind.u8.wrap ((x.toNat : Int) - 1) = (x.toNat : Int) - 1 := by
    simp [IntKind.wrap, IntKind.bits, IntKind.signed]
    omega
  rw [h3]
  omega
theorem der_vals {p : Int} {ts : List T4} (hp' : p ≤ 13) (hc : Canon p ts) {t : T4} (ht : t ∈ ts) (x : UInt8) : 0 ≤ t.v * (x.toNat : Int) ∧ t.v * (x.toNat : Int) ≤ 4000 := by
  have h1 := hc.2 t ht
  have h2 : x.toNat < 256 := x.toNat_lt
  refine ⟨Int.mul_nonneg (by omega) (by omega), ?_⟩
  have := Int.mul_le_mul (a := t.v) (b := (x.toNat : Int)) (c := 12) (d := 255) (by omega) (by omega) (by omega) (by omega)
  omega
theorem der_bd {p : Int} {ts : List T4} (hp' : p ≤ 13) (hc : Canon p ts) (i k : Nat) : ∀ q ∈ derP i (ts.take k), -4000 ≤ q.2 ∧ q.2 ≤ 4000 := by
  intro q hq
  obtain ⟨t, ht, rfl⟩ := List.mem_map.1 hq
  have := der_vals hp' hc (List.mem_of_mem_take (List.mem_filter.1 ht).1) (t.e.at i)
  show -4000 ≤ t.v * _ ∧ t.v * _ ≤ 4000
  omega
theorem three_two (V : World) (e : E3) (E : TypeId) : ∃ U : World, (V.alloc (.cells #[.int .u8 (e.a.toNat : Int), .int .u8 (e.b.toNat : Int), .int .u8 (e.c.toNat : Int)] E)) = U ∧ Below V.heap.size V U ∧
    U.cell? ⟨V.heap.size, 0, none⟩ = some (.int .u8 (e.a.toNat : Int)) ∧ U.cell? ⟨V.heap.size, 1, none⟩ = some (.int .u8 (e.b.toNat : Int)) ∧ U.cell? ⟨V.heap.size, 2, none⟩ = some (.int .u8 (e.c.toNat : Int)) ∧ U.heap.size = V.heap.size + 1 ∧ (∀ j, U.frozen? ⟨V.heap.size, j, none⟩ = false) := by
  refine ⟨_, rfl, (Below.refl _ V).alloc (Nat.le_refl _) _, ?_, ?_, ?_, ?_, fun j => ?_⟩
  all_goals first | (simp; done) | (simp [go_sem]; done) | go_simp
theorem decE_0 (e : E3) : decE e 0 = ⟨e.a - 1, e.b, e.c⟩ := rfl
theorem decE_1 (e : E3) : decE e 1 = ⟨e.a, e.b - 1, e.c⟩ := rfl
theorem decE_2 (e : E3) : decE e 2 = ⟨e.a, e.b, e.c - 1⟩ := rfl
/-- One of the three cells of a fresh box is written. -/
theorem three_set {B k : Nat} {w U : World} {eb : Nat} {a b c : Value} (h : Below B w U) (hb : B ≤ eb) (h0 : U.cell? ⟨eb, 0, none⟩ = some a) (h1 : U.cell? ⟨eb, 1, none⟩ = some b) (h2 : U.cell? ⟨eb, 2, none⟩ = some c) (v : Value) (hk : k < 3) :
    ∃ U2 : World, U.setCell ⟨eb, k, none⟩ v = U2 ∧ Below B w U2 ∧ U2.cell? ⟨eb, 0, none⟩ = some (if k = 0 then v else a) ∧ U2.cell? ⟨eb, 1, none⟩ = some (if k = 1 then v else b) ∧ U2.cell? ⟨eb, 2, none⟩ = some (if k = 2 then v else c) ∧ U2.heap.size = U.heap.size ∧
      ∀ (x : Addr) (u : Value), x.block ≠ eb → U.cell? x = some u → U2.cell? x = some u := by
  refine ⟨_, rfl, h.setCell hb _, ?_, ?_, ?_, by simp, fun x u hx hu => cell_far2 hu hx⟩
  · by_cases hk0 : k = 0
    · subst hk0
      exact World.cell?_setCell_same _ _ _ h0
    · rw [if_neg hk0, World.cell?_setCell_other _ _ _ _ (by first | (simp; done) | (simp; omega))]
      exact h0
  · by_cases hk0 : k = 1
    · subst hk0
      exact World.cell?_setCell_same _ _ _ h1
    · rw [if_neg hk0, World.cell?_setCell_other _ _ _ _ (by first | (simp; done) | (simp; omega))]
      exact h1
  · by_cases hk0 : k = 2
    · subst hk0
      exact World.cell?_setCell_same _ _ _ h2
    · rw [if_neg hk0, World.cell?_setCell_other _ _ _ _ (by first | (simp; done) | (simp; omega))]
      exact h2

set_option maxRecDepth 100000 in
set_option maxHeartbeats 4000000 in
theorem derivative0_c (p d : Int) (A : Option Addr) (c : Nat) (ts : List T4) (w : World) (hC : kT.C w A ts.length ts) (hn : ts.length ≤ 2097152) (hp : 2 ≤ p) (hp' : p ≤ 13) (hcan : Canon p ts) :
    Calls Try.prog 118 #[.agg #[.int .i64 p, .int .i64 d, .slice A ts.length c], .int .i64 0] w (MakesP p d 139 (derL p 0 ts) w) := by
  have HV := Lib.hid (fun t (ht : t ∈ ts) => der_vals hp' hcan ht t.e.a)
  have HB := Lib.hid (fun k => der_bd hp' hcan 0 k)
  have hC1 := Kd.C_alloc (Kd.C_alloc hC (.cells #[.int .i64 p, .int .i64 d, .slice A ts.length c] 64)) (.cells #[.int .i64 0, .int .i64 0, .slice none 0 0] 64)
  have s0 : ((w.alloc (.cells #[.int .i64 p, .int .i64 d, .slice A ts.length c] 64)).alloc (.cells #[.int .i64 0, .int .i64 0, .slice none 0 0] 64)).cell? ⟨w.heap.size, 2, none⟩ = some (.slice A ts.length c) := by first | (simp; done) | (simp [go_sem]; done) | go_simp
  have s1 : ((w.alloc (.cells #[.int .i64 p, .int .i64 d, .slice A ts.length c] 64)).alloc (.cells #[.int .i64 0, .int .i64 0, .slice none 0 0] 64)).cell? ⟨w.heap.size, 0, none⟩ = some (.int .i64 p) := by first | (simp; done) | (simp [go_sem]; done) | go_simp
  have s2 : ((w.alloc (.cells #[.int .i64 p, .int .i64 d, .slice A ts.length c] 64)).alloc (.cells #[.int .i64 0, .int .i64 0, .slice none 0 0] 64)).cell? ⟨w.heap.size, 1, none⟩ = some (.int .i64 d) := by first | (simp; done) | (simp [go_sem]; done) | go_simp
  have r0 : ((w.alloc (.cells #[.int .i64 p, .int .i64 d, .slice A ts.length c] 64)).alloc (.cells #[.int .i64 0, .int .i64 0, .slice none 0 0] 64)).cell? ⟨w.heap.size + 1, 0, none⟩ = some (.int .i64 0) := by first | (simp; done) | (simp [go_sem]; done) | go_simp
  have r1 : ((w.alloc (.cells #[.int .i64 p, .int .i64 d, .slice A ts.length c] 64)).alloc (.cells #[.int .i64 0, .int .i64 0, .slice none 0 0] 64)).cell? ⟨w.heap.size + 1, 1, none⟩ = some (.int .i64 0) := by first | (simp; done) | (simp [go_sem]; done) | go_simp
  have r2 : ((w.alloc (.cells #[.int .i64 p, .int .i64 d, .slice A ts.length c] 64)).alloc (.cells #[.int .i64 0, .int .i64 0, .slice none 0 0] 64)).cell? ⟨w.heap.size + 1, 2, none⟩ = some (.slice none 0 0) := by first | (simp; done) | (simp [go_sem]; done) | go_simp
  have r3 : ∀ j, ((w.alloc (.cells #[.int .i64 p, .int .i64 d, .slice A ts.length c] 64)).alloc (.cells #[.int .i64 0, .int .i64 0, .slice none 0 0] 64)).frozen? ⟨w.heap.size + 1, j, none⟩ = false := fun j => by first | (simp; done) | (simp [go_sem]; done) | go_simp
  have hbw : Below w.heap.size w ((w.alloc (.cells #[.int .i64 p, .int .i64 d, .slice A ts.length c] 64)).alloc (.cells #[.int .i64 0, .int .i64 0, .slice none 0 0] 64)) := (by repeat (first | (with_reducible assumption) | (with_reducible exact Below.refl _ _) | ((with_reducible refine Below.alloc ?_ ?_ _); rotate_left; (focus (first | omega | (simp; done) | (simp; omega) | (simp [Later.le, Later.le_add, Later.lt, Later.lt_add]; done) | (simp [Later.le, Later.le_add, Later.lt, Later.lt_add]; omega)))) | (with_reducible refine Below.drew ?_) | (with_reducible refine pw_below_drewN ?_ _) | ((with_reducible refine Below.setCell ?_ ?_ _); rotate_left; (focus (first | omega | (simp; done) | (simp; omega) | (simp [Later.le, Later.le_add, Later.lt, Later.lt_add]; done) | (simp [Later.le, Later.le_add, Later.lt, Later.lt_add]; omega)))) | ((with_reducible refine below_hop (by assumption) ?_ ?_); rotate_left; (focus (first | omega | (simp; done) | (simp; omega) | (simp [Later.le, Later.le_add, Later.lt, Later.lt_add]; done) | (simp [Later.le, Later.le_add, Later.lt, Later.lt_add]; omega)))) | ((with_reducible refine bel_later _ ?_ ?_); rotate_left; (focus (first | omega | (simp; done) | (simp; omega) | (simp [Later.le, Later.le_add, Later.lt, Later.lt_add]; done) | (simp [Later.le, Later.le_add, Later.lt, Later.lt_add]; omega))))))
  have hz0 : ((w.alloc (.cells #[.int .i64 p, .int .i64 d, .slice A ts.length c] 64)).alloc (.cells #[.int .i64 0, .int .i64 0, .slice none 0 0] 64)).heap.size = w.heap.size + 1 + 1 := by simp
  have R3 := Lib.hid r3
  clear hcan r3
  go_enter Try.func118, Try.ntmps118
  have hmm := @run_makeMap Try.prog
  go_wp2_with fail
  have hS0 : SumAt (((w.alloc (.cells #[.int .i64 p, .int .i64 d, .slice A ts.length c] 64)).alloc (.cells #[.int .i64 0, .int .i64 0, .slice none 0 0] 64)).alloc (.map #[] 0)) (w.heap.size + 1 + 1) 0 (fun e => sumAt (derP 0 (ts.take 0)) e) := by
    have h := SumAt.made ((w.alloc (.cells #[.int .i64 p, .int .i64 d, .slice A ts.length c] 64)).alloc (.cells #[.int .i64 0, .int .i64 0, .slice none 0 0] 64))
    rw [hz0] at h
    exact h
  have hV0 : Below ((w.alloc (.cells #[.int .i64 p, .int .i64 d, .slice A ts.length c] 64)).alloc (.cells #[.int .i64 0, .int .i64 0, .slice none 0 0] 64)).heap.size ((w.alloc (.cells #[.int .i64 p, .int .i64 d, .slice A ts.length c] 64)).alloc (.cells #[.int .i64 0, .int .i64 0, .slice none 0 0] 64)) (((w.alloc (.cells #[.int .i64 p, .int .i64 d, .slice A ts.length c] 64)).alloc (.cells #[.int .i64 0, .int .i64 0, .slice none 0 0] 64)).alloc (.map #[] 0)) := below_alloc2 _ _
  generalize (((w.alloc (.cells #[.int .i64 p, .int .i64 d, .slice A ts.length c] 64)).alloc (.cells #[.int .i64 0, .int .i64 0, .slice none 0 0] 64)).alloc (.map #[] 0)) = V0 at *
  generalize hmb : w.heap.size + 1 + 1 = mb at *
  generalize hrb : w.heap.size + 1 = rb at *
  generalize hxb : w.heap.size = xb at *
  generalize ((w.alloc (.cells #[.int .i64 p, .int .i64 d, .slice A ts.length c] 64)).alloc (.cells #[.int .i64 0, .int .i64 0, .slice none 0 0] 64)) = W0 at *
  clear hmm
  go_loopg [13] ts.length (fun g v13 w' => ∃ (k n : Nat), k + g = ts.length ∧ v13 = .int .i64 k ∧ n ≤ k ∧ Below W0.heap.size W0 w' ∧ SumAt w' mb n (fun e => sumAt (derP 0 (ts.take k)) e))
  case atStart => exact ⟨0, 0, by omega, rfl, Nat.le_refl _, hV0, hS0⟩
  case round =>
    clear hS0 hV0
    obtain ⟨k, n, hik, rfl, hnk, hbel, hS⟩ := hrel
    have HIK := Lib.hid hik
    clear hik
    by_cases hlt : k < ts.length
    · obtain ⟨bb, oo, hA, q0, q1, q2, q3⟩ := kT_at hC1 k hlt z4
      subst hA
      have q0 := pw_cell_below hbel q0
      have q1 := pw_cell_below hbel q1
      have q2 := pw_cell_below hbel q2
      have q3 := pw_cell_below hbel q3
      have hi0 : (0 : Int) ≤ k := by omega
      have hi1 : (k : Int) < ts.length := by omega
      have hin : ((k : Int)).toNat = k := by omega
      have hst := derP_step (i := 0) hlt
      obtain ⟨hv0, hv1⟩ := HV.out _ (getD_mem4 hlt)
      obtain ⟨hs0, hs1⟩ := sumAt_bd (M := 4000) (by omega) (decE (ts.getD k z4).e 0) (derP 0 (ts.take k)) (HB.out k)
      have hlen : (derP 0 (ts.take k)).length ≤ 2097152 := by have := derP_len 0 (ts.take k); rw [List.length_take] at this; omega
      generalize ts.getD k z4 = t at *
      generalize derP 0 (ts.take k) = l at *
      have hat : t.e.at 0 = t.e.a := rfl
      rw [hat] at hst
      have HST := Lib.hid hst
      clear hst hat
      obtain ⟨V, hV, hb9, n0, n1, n2, n3⟩ := four_one wr t 139
      have hzV : V.heap.size = wr.heap.size + 1 := by rw [← hV]; simp
      obtain ⟨U, hU, hb8, e0, e1, e2, hzU, fz⟩ := three_two V t.e 118
      rw [hzV] at e0 e1 e2 fz
      have f0 := fz 0
      have f1 := fz 1
      have f2 := fz 2
      have n0 := pw_cell_below hb8 n0
      have n1 := pw_cell_below hb8 n1
      have n2 := pw_cell_below hb8 n2
      have n3 := pw_cell_below hb8 n3
      have hbU := hb9.trans (hb8.mono hb9.size)
      by_cases hz : (t.e.a.toNat : Int) = 0
      · have hz' : ¬ 0 < (t.e.a.toNat : Int) := by omega
        have HZ := Lib.hid hz
        clear hz
        have HBU := Lib.hid (hbel.trans (hbU.mono hbel.size))
        have HS := Lib.hid (hS.below hbU)
        clear hS hbU hbel hb8 hb9 f0 f1 f2 fz
        go_wp2
        go_roundg (gk - 1)
        case measure => have := HIK.out; omega
        case rel => exact ⟨k + 1, n, by have := HIK.out; omega, by go_num, by omega, HBU.out, HS.out.congr (by rw [HST.out, if_pos HZ.out])⟩
      · have hz' : 0 < (t.e.a.toNat : Int) := by omega
        have hdc := u8_dec (x := t.e.a) (by omega)
        obtain ⟨U2, hU2, hb7, g0, g1, g2, hz2, hfar⟩ := three_set (k := 0) hbU (by omega) e0 e1 e2 (.int .u8 ((t.e.a - 1).toNat : Int)) (by omega)
        replace g0 : U2.cell? ⟨wr.heap.size + 1, 0, none⟩ = some (.int .u8 ((t.e.a - 1).toNat : Int)) := g0
        replace g1 : U2.cell? ⟨wr.heap.size + 1, 1, none⟩ = some (.int .u8 ((t.e.b).toNat : Int)) := g1
        replace g2 : U2.cell? ⟨wr.heap.size + 1, 2, none⟩ = some (.int .u8 ((t.e.c).toNat : Int)) := g2
        have n0 := hfar _ _ (by simp) n0
        have n1 := hfar _ _ (by simp) n1
        have n2 := hfar _ _ (by simp) n2
        have n3 := hfar _ _ (by simp) n3
        rw [decE_0] at hs0 hs1
        obtain ⟨st, W1, hl, hm1, hl1, hg1, hz1, hW2⟩ := SumAt.region (hS.below (hb7.drew)) (by unfold maxLen; omega) (decE t.e 0)
        rw [decE_0] at hl hm1 hl1
        obtain ⟨W2, he2, hS2, hg2, hz2'⟩ := hW2 (sumAt l (decE t.e 0) + t.v * (t.e.a.toNat : Int)) (by rw [decE_0]; omega) (by rw [decE_0]; omega)
        rw [decE_0] at he2
        simp only [] at hl hm1 hl1
        have hwk : IntKind.i64.wrap (t.v * (t.e.a.toNat : Int)) = t.v * (t.e.a.toNat : Int) := i64_small (by omega) (by omega)
        have hwr := i64_small (show -9223372036854775808 ≤ sumAt l ⟨t.e.a - 1, t.e.b, t.e.c⟩ + t.v * (t.e.a.toNat : Int) by omega) (by omega)
        have hcv : IntKind.i64.wrap (t.e.a.toNat : Int) = (t.e.a.toNat : Int) := i64_small (by omega) (by have : t.e.a.toNat < 256 := t.e.a.toNat_lt; omega)
        have hmt : mb < wr.heap.size := hS.lt
        have m0 := far_cell hg1 (show U2.drew.cell? ⟨wr.heap.size, 0, none⟩ = _ from n0) (fun e => by injection e with e; simp at e; omega)
        have m1 := far_cell hg1 (show U2.drew.cell? ⟨wr.heap.size, 1, none⟩ = _ from n1) (fun e => by injection e with e; simp at e; omega)
        have m2 := far_cell hg1 (show U2.drew.cell? ⟨wr.heap.size, 2, none⟩ = _ from n2) (fun e => by injection e with e; simp at e; omega)
        have m3 := far_cell hg1 (show U2.drew.cell? ⟨wr.heap.size, 3, none⟩ = _ from n3) (fun e => by injection e with e; simp at e; omega)
        have HBV := Lib.hid (hbel.trans (hb7.drew.mono hbel.size))
        have HS2 := Lib.hid hS2
        have HG2 := Lib.hid hg2
        have HFZ := Lib.hid fz
        clear hS hW2 hS2 hg2 hg1 hb9 hb8 hb7 hbU hz1 hz2' hfar hbel fz
        go_wp2
        go_region
        go_wp2
        go_roundg (gk - 1)
        case measure => have := HIK.out; omega
        case rel => exact ⟨k + 1, n + 1, by have := HIK.out; omega, by go_num, by omega, below_grown HBV.out HG2.out (by omega) HBV.out.size, HS2.out.congr (by rw [sumAt_upd, HST.out, if_neg hz])⟩
    · have hie : k = ts.length := by have := HIK.out; omega
      subst hie
      rw [List.take_length] at hS
      have hT : Canon p (derL p 0 ts) := putsT_canon hp _ (canon_nil p)
      have hTc : ∀ e, coefL (derL p 0 ts) e = sumAt (derP 0 ts) e % p := fun e => by
        rw [derL, putsT_coef hp e _ (canon_nil p)]
        show (0 + sumAt (derP 0 ts) e) % p = _
        rw [Int.zero_add]
      have hP := poly_c p d mb n _ _ wr hS (by omega) hp hp' hT hTc
      have HP := Lib.hid hP
      clear hP hT hTc hS
      have u1 := pw_cell_below hbel s1
      have u2 := pw_cell_below hbel s2
      have x0 := pw_cell_below hbel r0
      have x1 := pw_cell_below hbel r1
      have x2 := pw_cell_below hbel r2
      have zr := World.block_lt_of_cell? _ _ x0
      simp only [] at zr
      have x3 := fun j => (hbel.frozen (p := ⟨rb, j, none⟩) (by show rb < _; omega)).trans (R3.out j)
      have X3 := Lib.hid x3
      clear x3
      go_wp2_with (go_at_call 141; (with_reducible refine to_makesP (V := wr) (Below.refl _ _) HP.out ?_); intro w8 B8 c8 hb8 hb8' hl8 hR8; have y0 := pw_cell_below hb8 x0; have y1 := pw_cell_below hb8 x1; have y2 := pw_cell_below hb8 x2; have f0 := (hb8.frozen (p := ⟨rb, 0, none⟩) zr).trans (X3.out 0); have f1 := (hb8.frozen (p := ⟨rb, 1, none⟩) zr).trans (X3.out 1); have f2 := (hb8.frozen (p := ⟨rb, 2, none⟩) zr).trans (X3.out 2))
      generalize derL p 0 ts = xs at *
      refine bodyPost_ret (v := .agg #[.int .i64 p, .int .i64 d, .slice B8 xs.length c8]) (by simp [results, Try.results118, go_sem, y0, y1, y2]) rfl ⟨B8, c8, rfl, ?_, ?_⟩
      · exact R_set3 (Kd.R_mono (Kd.R_bound hR8) (ok' := fun k => k ≠ rb) (fun k hk => by have := hk.2.1; omega)) (fun k hk => hk) (by have := hbel.size; have := hbw.size; omega) _ _ _
      · have h1 := hbw.trans ((hbel.trans (hb8.mono hbel.size)).mono (by omega))
        rw [hxb]
        exact below_set3 h1 (by omega) _ _ _

set_option maxRecDepth 100000 in
set_option maxHeartbeats 4000000 in
theorem derivative1_c (p d : Int) (A : Option Addr) (c : Nat) (ts : List T4) (w : World) (hC : kT.C w A ts.length ts) (hn : ts.length ≤ 2097152) (hp : 2 ≤ p) (hp' : p ≤ 13) (hcan : Canon p ts) :
    Calls Try.prog 118 #[.agg #[.int .i64 p, .int .i64 d, .slice A ts.length c], .int .i64 1] w (MakesP p d 139 (derL p 1 ts) w) := by
  have HV := Lib.hid (fun t (ht : t ∈ ts) => der_vals hp' hcan ht t.e.b)
  have HB := Lib.hid (fun k => der_bd hp' hcan 1 k)
  have hC1 := Kd.C_alloc (Kd.C_alloc hC (.cells #[.int .i64 p, .int .i64 d, .slice A ts.length c] 64)) (.cells #[.int .i64 0, .int .i64 0, .slice none 0 0] 64)
  have s0 : ((w.alloc (.cells #[.int .i64 p, .int .i64 d, .slice A ts.length c] 64)).alloc (.cells #[.int .i64 0, .int .i64 0, .slice none 0 0] 64)).cell? ⟨w.heap.size, 2, none⟩ = some (.slice A ts.length c) := by first | (simp; done) | (simp [go_sem]; done) | go_simp
  have s1 : ((w.alloc (.cells #[.int .i64 p, .int .i64 d, .slice A ts.length c] 64)).alloc (.cells #[.int .i64 0, .int .i64 0, .slice none 0 0] 64)).cell? ⟨w.heap.size, 0, none⟩ = some (.int .i64 p) := by first | (simp; done) | (simp [go_sem]; done) | go_simp
  have s2 : ((w.alloc (.cells #[.int .i64 p, .int .i64 d, .slice A ts.length c] 64)).alloc (.cells #[.int .i64 0, .int .i64 0, .slice none 0 0] 64)).cell? ⟨w.heap.size, 1, none⟩ = some (.int .i64 d) := by first | (simp; done) | (simp [go_sem]; done) | go_simp
  have r0 : ((w.alloc (.cells #[.int .i64 p, .int .i64 d, .slice A ts.length c] 64)).alloc (.cells #[.int .i64 0, .int .i64 0, .slice none 0 0] 64)).cell? ⟨w.heap.size + 1, 0, none⟩ = some (.int .i64 0) := by first | (simp; done) | (simp [go_sem]; done) | go_simp
  have r1 : ((w.alloc (.cells #[.int .i64 p, .int .i64 d, .slice A ts.length c] 64)).alloc (.cells #[.int .i64 0, .int .i64 0, .slice none 0 0] 64)).cell? ⟨w.heap.size + 1, 1, none⟩ = some (.int .i64 0) := by first | (simp; done) | (simp [go_sem]; done) | go_simp
  have r2 : ((w.alloc (.cells #[.int .i64 p, .int .i64 d, .slice A ts.length c] 64)).alloc (.cells #[.int .i64 0, .int .i64 0, .slice none 0 0] 64)).cell? ⟨w.heap.size + 1, 2, none⟩ = some (.slice none 0 0) := by first | (simp; done) | (simp [go_sem]; done) | go_simp
  have r3 : ∀ j, ((w.alloc (.cells #[.int .i64 p, .int .i64 d, .slice A ts.length c] 64)).alloc (.cells #[.int .i64 0, .int .i64 0, .slice none 0 0] 64)).frozen? ⟨w.heap.size + 1, j, none⟩ = false := fun j => by first | (simp; done) | (simp [go_sem]; done) | go_simp
  have hbw : Below w.heap.size w ((w.alloc (.cells #[.int .i64 p, .int .i64 d, .slice A ts.length c] 64)).alloc (.cells #[.int .i64 0, .int .i64 0, .slice none 0 0] 64)) := (by repeat (first | (with_reducible assumption) | (with_reducible exact Below.refl _ _) | ((with_reducible refine Below.alloc ?_ ?_ _); rotate_left; (focus (first | omega | (simp; done) | (simp; omega) | (simp [Later.le, Later.le_add, Later.lt, Later.lt_add]; done) | (simp [Later.le, Later.le_add, Later.lt, Later.lt_add]; omega)))) | (with_reducible refine Below.drew ?_) | (with_reducible refine pw_below_drewN ?_ _) | ((with_reducible refine Below.setCell ?_ ?_ _); rotate_left; (focus (first | omega | (simp; done) | (simp; omega) | (simp [Later.le, Later.le_add, Later.lt, Later.lt_add]; done) | (simp [Later.le, Later.le_add, Later.lt, Later.lt_add]; omega)))) | ((with_reducible refine below_hop (by assumption) ?_ ?_); rotate_left; (focus (first | omega | (simp; done) | (simp; omega) | (simp [Later.le, Later.le_add, Later.lt, Later.lt_add]; done) | (simp [Later.le, Later.le_add, Later.lt, Later.lt_add]; omega)))) | ((with_reducible refine bel_later _ ?_ ?_); rotate_left; (focus (first | omega | (simp; done) | (simp; omega) | (simp [Later.le, Later.le_add, Later.lt, Later.lt_add]; done) | (simp [Later.le, Later.le_add, Later.lt, Later.lt_add]; omega))))))
  have hz0 : ((w.alloc (.cells #[.int .i64 p, .int .i64 d, .slice A ts.length c] 64)).alloc (.cells #[.int .i64 0, .int .i64 0, .slice none 0 0] 64)).heap.size = w.heap.size + 1 + 1 := by simp
  have R3 := Lib.hid r3
  clear hcan r3
  go_enter Try.func118, Try.ntmps118
  have hmm := @run_makeMap Try.prog
  go_wp2_with fail
  have hS0 : SumAt (((w.alloc (.cells #[.int .i64 p, .int .i64 d, .slice A ts.length c] 64)).alloc (.cells #[.int .i64 0, .int .i64 0, .slice none 0 0] 64)).alloc (.map #[] 0)) (w.heap.size + 1 + 1) 0 (fun e => sumAt (derP 1 (ts.take 0)) e) := by
    have h := SumAt.made ((w.alloc (.cells #[.int .i64 p, .int .i64 d, .slice A ts.length c] 64)).alloc (.cells #[.int .i64 0, .int .i64 0, .slice none 0 0] 64))
    rw [hz0] at h
    exact h
  have hV0 : Below ((w.alloc (.cells #[.int .i64 p, .int .i64 d, .slice A ts.length c] 64)).alloc (.cells #[.int .i64 0, .int .i64 0, .slice none 0 0] 64)).heap.size ((w.alloc (.cells #[.int .i64 p, .int .i64 d, .slice A ts.length c] 64)).alloc (.cells #[.int .i64 0, .int .i64 0, .slice none 0 0] 64)) (((w.alloc (.cells #[.int .i64 p, .int .i64 d, .slice A ts.length c] 64)).alloc (.cells #[.int .i64 0, .int .i64 0, .slice none 0 0] 64)).alloc (.map #[] 0)) := below_alloc2 _ _
  generalize (((w.alloc (.cells #[.int .i64 p, .int .i64 d, .slice A ts.length c] 64)).alloc (.cells #[.int .i64 0, .int .i64 0, .slice none 0 0] 64)).alloc (.map #[] 0)) = V0 at *
  generalize hmb : w.heap.size + 1 + 1 = mb at *
  generalize hrb : w.heap.size + 1 = rb at *
  generalize hxb : w.heap.size = xb at *
  generalize ((w.alloc (.cells #[.int .i64 p, .int .i64 d, .slice A ts.length c] 64)).alloc (.cells #[.int .i64 0, .int .i64 0, .slice none 0 0] 64)) = W0 at *
  clear hmm
  go_loopg [13] ts.length (fun g v13 w' => ∃ (k n : Nat), k + g = ts.length ∧ v13 = .int .i64 k ∧ n ≤ k ∧ Below W0.heap.size W0 w' ∧ SumAt w' mb n (fun e => sumAt (derP 1 (ts.take k)) e))
  case atStart => exact ⟨0, 0, by omega, rfl, Nat.le_refl _, hV0, hS0⟩
  case round =>
    clear hS0 hV0
    obtain ⟨k, n, hik, rfl, hnk, hbel, hS⟩ := hrel
    have HIK := Lib.hid hik
    clear hik
    by_cases hlt : k < ts.length
    · obtain ⟨bb, oo, hA, q0, q1, q2, q3⟩ := kT_at hC1 k hlt z4
      subst hA
      have q0 := pw_cell_below hbel q0
      have q1 := pw_cell_below hbel q1
      have q2 := pw_cell_below hbel q2
      have q3 := pw_cell_below hbel q3
      have hi0 : (0 : Int) ≤ k := by omega
      have hi1 : (k : Int) < ts.length := by omega
      have hin : ((k : Int)).toNat = k := by omega
      have hst := derP_step (i := 1) hlt
      obtain ⟨hv0, hv1⟩ := HV.out _ (getD_mem4 hlt)
      obtain ⟨hs0, hs1⟩ := sumAt_bd (M := 4000) (by omega) (decE (ts.getD k z4).e 1) (derP 1 (ts.take k)) (HB.out k)
      have hlen : (derP 1 (ts.take k)).length ≤ 2097152 := by have := derP_len 1 (ts.take k); rw [List.length_take] at this; omega
      generalize ts.getD k z4 = t at *
      generalize derP 1 (ts.take k) = l at *
      have hat : t.e.at 1 = t.e.b := rfl
      rw [hat] at hst
      have HST := Lib.hid hst
      clear hst hat
      obtain ⟨V, hV, hb9, n0, n1, n2, n3⟩ := four_one wr t 139
      have hzV : V.heap.size = wr.heap.size + 1 := by rw [← hV]; simp
      obtain ⟨U, hU, hb8, e0, e1, e2, hzU, fz⟩ := three_two V t.e 118
      rw [hzV] at e0 e1 e2 fz
      have f0 := fz 0
      have f1 := fz 1
      have f2 := fz 2
      have n0 := pw_cell_below hb8 n0
      have n1 := pw_cell_below hb8 n1
      have n2 := pw_cell_below hb8 n2
      have n3 := pw_cell_below hb8 n3
      have hbU := hb9.trans (hb8.mono hb9.size)
      by_cases hz : (t.e.b.toNat : Int) = 0
      · have hz' : ¬ 0 < (t.e.b.toNat : Int) := by omega
        have HZ := Lib.hid hz
        clear hz
        have HBU := Lib.hid (hbel.trans (hbU.mono hbel.size))
        have HS := Lib.hid (hS.below hbU)
        clear hS hbU hbel hb8 hb9 f0 f1 f2 fz
        go_wp2
        go_roundg (gk - 1)
        case measure => have := HIK.out; omega
        case rel => exact ⟨k + 1, n, by have := HIK.out; omega, by go_num, by omega, HBU.out, HS.out.congr (by rw [HST.out, if_pos HZ.out])⟩
      · have hz' : 0 < (t.e.b.toNat : Int) := by omega
        have hdc := u8_dec (x := t.e.b) (by omega)
        obtain ⟨U2, hU2, hb7, g0, g1, g2, hz2, hfar⟩ := three_set (k := 1) hbU (by omega) e0 e1 e2 (.int .u8 ((t.e.b - 1).toNat : Int)) (by omega)
        replace g0 : U2.cell? ⟨wr.heap.size + 1, 0, none⟩ = some (.int .u8 ((t.e.a).toNat : Int)) := g0
        replace g1 : U2.cell? ⟨wr.heap.size + 1, 1, none⟩ = some (.int .u8 ((t.e.b - 1).toNat : Int)) := g1
        replace g2 : U2.cell? ⟨wr.heap.size + 1, 2, none⟩ = some (.int .u8 ((t.e.c).toNat : Int)) := g2
        have n0 := hfar _ _ (by simp) n0
        have n1 := hfar _ _ (by simp) n1
        have n2 := hfar _ _ (by simp) n2
        have n3 := hfar _ _ (by simp) n3
        rw [decE_1] at hs0 hs1
        obtain ⟨st, W1, hl, hm1, hl1, hg1, hz1, hW2⟩ := SumAt.region (hS.below (hb7.drew)) (by unfold maxLen; omega) (decE t.e 1)
        rw [decE_1] at hl hm1 hl1
        obtain ⟨W2, he2, hS2, hg2, hz2'⟩ := hW2 (sumAt l (decE t.e 1) + t.v * (t.e.b.toNat : Int)) (by rw [decE_1]; omega) (by rw [decE_1]; omega)
        rw [decE_1] at he2
        simp only [] at hl hm1 hl1
        have hwk : IntKind.i64.wrap (t.v * (t.e.b.toNat : Int)) = t.v * (t.e.b.toNat : Int) := i64_small (by omega) (by omega)
        have hwr := i64_small (show -9223372036854775808 ≤ sumAt l ⟨t.e.a, t.e.b - 1, t.e.c⟩ + t.v * (t.e.b.toNat : Int) by omega) (by omega)
        have hcv : IntKind.i64.wrap (t.e.b.toNat : Int) = (t.e.b.toNat : Int) := i64_small (by omega) (by have : t.e.b.toNat < 256 := t.e.b.toNat_lt; omega)
        have hmt : mb < wr.heap.size := hS.lt
        have m0 := far_cell hg1 (show U2.drew.cell? ⟨wr.heap.size, 0, none⟩ = _ from n0) (fun e => by injection e with e; simp at e; omega)
        have m1 := far_cell hg1 (show U2.drew.cell? ⟨wr.heap.size, 1, none⟩ = _ from n1) (fun e => by injection e with e; simp at e; omega)
        have m2 := far_cell hg1 (show U2.drew.cell? ⟨wr.heap.size, 2, none⟩ = _ from n2) (fun e => by injection e with e; simp at e; omega)
        have m3 := far_cell hg1 (show U2.drew.cell? ⟨wr.heap.size, 3, none⟩ = _ from n3) (fun e => by injection e with e; simp at e; omega)
        have HBV := Lib.hid (hbel.trans (hb7.drew.mono hbel.size))
        have HS2 := Lib.hid hS2
        have HG2 := Lib.hid hg2
        have HFZ := Lib.hid fz
        clear hS hW2 hS2 hg2 hg1 hb9 hb8 hb7 hbU hz1 hz2' hfar hbel fz
        go_wp2
        go_region
        go_wp2
        go_roundg (gk - 1)
        case measure => have := HIK.out; omega
        case rel => exact ⟨k + 1, n + 1, by have := HIK.out; omega, by go_num, by omega, below_grown HBV.out HG2.out (by omega) HBV.out.size, HS2.out.congr (by rw [sumAt_upd, HST.out, if_neg hz])⟩
    · have hie : k = ts.length := by have := HIK.out; omega
      subst hie
      rw [List.take_length] at hS
      have hT : Canon p (derL p 1 ts) := putsT_canon hp _ (canon_nil p)
      have hTc : ∀ e, coefL (derL p 1 ts) e = sumAt (derP 1 ts) e % p := fun e => by
        rw [derL, putsT_coef hp e _ (canon_nil p)]
        show (0 + sumAt (derP 1 ts) e) % p = _
        rw [Int.zero_add]
      have hP := poly_c p d mb n _ _ wr hS (by omega) hp hp' hT hTc
      have HP := Lib.hid hP
      clear hP hT hTc hS
      have u1 := pw_cell_below hbel s1
      have u2 := pw_cell_below hbel s2
      have x0 := pw_cell_below hbel r0
      have x1 := pw_cell_below hbel r1
      have x2 := pw_cell_below hbel r2
      have zr := World.block_lt_of_cell? _ _ x0
      simp only [] at zr
      have x3 := fun j => (hbel.frozen (p := ⟨rb, j, none⟩) (by show rb < _; omega)).trans (R3.out j)
      have X3 := Lib.hid x3
      clear x3
      go_wp2_with (go_at_call 141; (with_reducible refine to_makesP (V := wr) (Below.refl _ _) HP.out ?_); intro w8 B8 c8 hb8 hb8' hl8 hR8; have y0 := pw_cell_below hb8 x0; have y1 := pw_cell_below hb8 x1; have y2 := pw_cell_below hb8 x2; have f0 := (hb8.frozen (p := ⟨rb, 0, none⟩) zr).trans (X3.out 0); have f1 := (hb8.frozen (p := ⟨rb, 1, none⟩) zr).trans (X3.out 1); have f2 := (hb8.frozen (p := ⟨rb, 2, none⟩) zr).trans (X3.out 2))
      generalize derL p 1 ts = xs at *
      refine bodyPost_ret (v := .agg #[.int .i64 p, .int .i64 d, .slice B8 xs.length c8]) (by simp [results, Try.results118, go_sem, y0, y1, y2]) rfl ⟨B8, c8, rfl, ?_, ?_⟩
      · exact R_set3 (Kd.R_mono (Kd.R_bound hR8) (ok' := fun k => k ≠ rb) (fun k hk => by have := hk.2.1; omega)) (fun k hk => hk) (by have := hbel.size; have := hbw.size; omega) _ _ _
      · have h1 := hbw.trans ((hbel.trans (hb8.mono hbel.size)).mono (by omega))
        rw [hxb]
        exact below_set3 h1 (by omega) _ _ _

set_option maxRecDepth 100000 in
set_option maxHeartbeats 4000000 in
theorem derivative2_c (p d : Int) (A : Option Addr) (c : Nat) (ts : List T4) (w : World) (hC : kT.C w A ts.length ts) (hn : ts.length ≤ 2097152) (hp : 2 ≤ p) (hp' : p ≤ 13) (hcan : Canon p ts) :
    Calls Try.prog 118 #[.agg #[.int .i64 p, .int .i64 d, .slice A ts.length c], .int .i64 2] w (MakesP p d 139 (derL p 2 ts) w) := by
  have HV := Lib.hid (fun t (ht : t ∈ ts) => der_vals hp' hcan ht t.e.c)
  have HB := Lib.hid (fun k => der_bd hp' hcan 2 k)
  have hC1 := Kd.C_alloc (Kd.C_alloc hC (.cells #[.int .i64 p, .int .i64 d, .slice A ts.length c] 64)) (.cells #[.int .i64 0, .int .i64 0, .slice none 0 0] 64)
  have s0 : ((w.alloc (.cells #[.int .i64 p, .int .i64 d, .slice A ts.length c] 64)).alloc (.cells #[.int .i64 0, .int .i64 0, .slice none 0 0] 64)).cell? ⟨w.heap.size, 2, none⟩ = some (.slice A ts.length c) := by first | (simp; done) | (simp [go_sem]; done) | go_simp
  have s1 : ((w.alloc (.cells #[.int .i64 p, .int .i64 d, .slice A ts.length c] 64)).alloc (.cells #[.int .i64 0, .int .i64 0, .slice none 0 0] 64)).cell? ⟨w.heap.size, 0, none⟩ = some (.int .i64 p) := by first | (simp; done) | (simp [go_sem]; done) | go_simp
  have s2 : ((w.alloc (.cells #[.int .i64 p, .int .i64 d, .slice A ts.length c] 64)).alloc (.cells #[.int .i64 0, .int .i64 0, .slice none 0 0] 64)).cell? ⟨w.heap.size, 1, none⟩ = some (.int .i64 d) := by first | (simp; done) | (simp [go_sem]; done) | go_simp
  have r0 : ((w.alloc (.cells #[.int .i64 p, .int .i64 d, .slice A ts.length c] 64)).alloc (.cells #[.int .i64 0, .int .i64 0, .slice none 0 0] 64)).cell? ⟨w.heap.size + 1, 0, none⟩ = some (.int .i64 0) := by first | (simp; done) | (simp [go_sem]; done) | go_simp
  have r1 : ((w.alloc (.cells #[.int .i64 p, .int .i64 d, .slice A ts.length c] 64)).alloc (.cells #[.int .i64 0, .int .i64 0, .slice none 0 0] 64)).cell? ⟨w.heap.size + 1, 1, none⟩ = some (.int .i64 0) := by first | (simp; done) | (simp [go_sem]; done) | go_simp
  have r2 : ((w.alloc (.cells #[.int .i64 p, .int .i64 d, .slice A ts.length c] 64)).alloc (.cells #[.int .i64 0, .int .i64 0, .slice none 0 0] 64)).cell? ⟨w.heap.size + 1, 2, none⟩ = some (.slice none 0 0) := by first | (simp; done) | (simp [go_sem]; done) | go_simp
  have r3 : ∀ j, ((w.alloc (.cells #[.int .i64 p, .int .i64 d, .slice A ts.length c] 64)).alloc (.cells #[.int .i64 0, .int .i64 0, .slice none 0 0] 64)).frozen? ⟨w.heap.size + 1, j, none⟩ = false := fun j => by first | (simp; done) | (simp [go_sem]; done) | go_simp
  have hbw : Below w.heap.size w ((w.alloc (.cells #[.int .i64 p, .int .i64 d, .slice A ts.length c] 64)).alloc (.cells #[.int .i64 0, .int .i64 0, .slice none 0 0] 64)) := (by repeat (first | (with_reducible assumption) | (with_reducible exact Below.refl _ _) | ((with_reducible refine Below.alloc ?_ ?_ _); rotate_left; (focus (first | omega | (simp; done) | (simp; omega) | (simp [Later.le, Later.le_add, Later.lt, Later.lt_add]; done) | (simp [Later.le, Later.le_add, Later.lt, Later.lt_add]; omega)))) | (with_reducible refine Below.drew ?_) | (with_reducible refine pw_below_drewN ?_ _) | ((with_reducible refine Below.setCell ?_ ?_ _); rotate_left; (focus (first | omega | (simp; done) | (simp; omega) | (simp [Later.le, Later.le_add, Later.lt, Later.lt_add]; done) | (simp [Later.le, Later.le_add, Later.lt, Later.lt_add]; omega)))) | ((with_reducible refine below_hop (by assumption) ?_ ?_); rotate_left; (focus (first | omega | (simp; done) | (simp; omega) | (simp [Later.le, Later.le_add, Later.lt, Later.lt_add]; done) | (simp [Later.le, Later.le_add, Later.lt, Later.lt_add]; omega)))) | ((with_reducible refine bel_later _ ?_ ?_); rotate_left; (focus (first | omega | (simp; done) | (simp; omega) | (simp [Later.le, Later.le_add, Later.lt, Later.lt_add]; done) | (simp [Later.le, Later.le_add, Later.lt, Later.lt_add]; omega))))))
  have hz0 : ((w.alloc (.cells #[.int .i64 p, .int .i64 d, .slice A ts.length c] 64)).alloc (.cells #[.int .i64 0, .int .i64 0, .slice none 0 0] 64)).heap.size = w.heap.size + 1 + 1 := by simp
  have R3 := Lib.hid r3
  clear hcan r3
  go_enter Try.func118, Try.ntmps118
  have hmm := @run_makeMap Try.prog
  go_wp2_with fail
  have hS0 : SumAt (((w.alloc (.cells #[.int .i64 p, .int .i64 d, .slice A ts.length c] 64)).alloc (.cells #[.int .i64 0, .int .i64 0, .slice none 0 0] 64)).alloc (.map #[] 0)) (w.heap.size + 1 + 1) 0 (fun e => sumAt (derP 2 (ts.take 0)) e) := by
    have h := SumAt.made ((w.alloc (.cells #[.int .i64 p, .int .i64 d, .slice A ts.length c] 64)).alloc (.cells #[.int .i64 0, .int .i64 0, .slice none 0 0] 64))
    rw [hz0] at h
    exact h
  have hV0 : Below ((w.alloc (.cells #[.int .i64 p, .int .i64 d, .slice A ts.length c] 64)).alloc (.cells #[.int .i64 0, .int .i64 0, .slice none 0 0] 64)).heap.size ((w.alloc (.cells #[.int .i64 p, .int .i64 d, .slice A ts.length c] 64)).alloc (.cells #[.int .i64 0, .int .i64 0, .slice none 0 0] 64)) (((w.alloc (.cells #[.int .i64 p, .int .i64 d, .slice A ts.length c] 64)).alloc (.cells #[.int .i64 0, .int .i64 0, .slice none 0 0] 64)).alloc (.map #[] 0)) := below_alloc2 _ _
  generalize (((w.alloc (.cells #[.int .i64 p, .int .i64 d, .slice A ts.length c] 64)).alloc (.cells #[.int .i64 0, .int .i64 0, .slice none 0 0] 64)).alloc (.map #[] 0)) = V0 at *
  generalize hmb : w.heap.size + 1 + 1 = mb at *
  generalize hrb : w.heap.size + 1 = rb at *
  generalize hxb : w.heap.size = xb at *
  generalize ((w.alloc (.cells #[.int .i64 p, .int .i64 d, .slice A ts.length c] 64)).alloc (.cells #[.int .i64 0, .int .i64 0, .slice none 0 0] 64)) = W0 at *
  clear hmm
  go_loopg [13] ts.length (fun g v13 w' => ∃ (k n : Nat), k + g = ts.length ∧ v13 = .int .i64 k ∧ n ≤ k ∧ Below W0.heap.size W0 w' ∧ SumAt w' mb n (fun e => sumAt (derP 2 (ts.take k)) e))
  case atStart => exact ⟨0, 0, by omega, rfl, Nat.le_refl _, hV0, hS0⟩
  case round =>
    clear hS0 hV0
    obtain ⟨k, n, hik, rfl, hnk, hbel, hS⟩ := hrel
    have HIK := Lib.hid hik
    clear hik
    by_cases hlt : k < ts.length
    · obtain ⟨bb, oo, hA, q0, q1, q2, q3⟩ := kT_at hC1 k hlt z4
      subst hA
      have q0 := pw_cell_below hbel q0
      have q1 := pw_cell_below hbel q1
      have q2 := pw_cell_below hbel q2
      have q3 := pw_cell_below hbel q3
      have hi0 : (0 : Int) ≤ k := by omega
      have hi1 : (k : Int) < ts.length := by omega
      have hin : ((k : Int)).toNat = k := by omega
      have hst := derP_step (i := 2) hlt
      obtain ⟨hv0, hv1⟩ := HV.out _ (getD_mem4 hlt)
      obtain ⟨hs0, hs1⟩ := sumAt_bd (M := 4000) (by omega) (decE (ts.getD k z4).e 2) (derP 2 (ts.take k)) (HB.out k)
      have hlen : (derP 2 (ts.take k)).length ≤ 2097152 := by have := derP_len 2 (ts.take k); rw [List.length_take] at this; omega
      generalize ts.getD k z4 = t at *
      generalize derP 2 (ts.take k) = l at *
      have hat : t.e.at 2 = t.e.c := rfl
      rw [hat] at hst
      have HST := Lib.hid hst
      clear hst hat
      obtain ⟨V, hV, hb9, n0, n1, n2, n3⟩ := four_one wr t 139
      have hzV : V.heap.size = wr.heap.size + 1 := by rw [← hV]; simp
      obtain ⟨U, hU, hb8, e0, e1, e2, hzU, fz⟩ := three_two V t.e 118
      rw [hzV] at e0 e1 e2 fz
      have f0 := fz 0
      have f1 := fz 1
      have f2 := fz 2
      have n0 := pw_cell_below hb8 n0
      have n1 := pw_cell_below hb8 n1
      have n2 := pw_cell_below hb8 n2
      have n3 := pw_cell_below hb8 n3
      have hbU := hb9.trans (hb8.mono hb9.size)
      by_cases hz : (t.e.c.toNat : Int) = 0
      · have hz' : ¬ 0 < (t.e.c.toNat : Int) := by omega
        have HZ := Lib.hid hz
        clear hz
        have HBU := Lib.hid (hbel.trans (hbU.mono hbel.size))
        have HS := Lib.hid (hS.below hbU)
        clear hS hbU hbel hb8 hb9 f0 f1 f2 fz
        go_wp2
        go_roundg (gk - 1)
        case measure => have := HIK.out; omega
        case rel => exact ⟨k + 1, n, by have := HIK.out; omega, by go_num, by omega, HBU.out, HS.out.congr (by rw [HST.out, if_pos HZ.out])⟩
      · have hz' : 0 < (t.e.c.toNat : Int) := by omega
        have hdc := u8_dec (x := t.e.c) (by omega)
        obtain ⟨U2, hU2, hb7, g0, g1, g2, hz2, hfar⟩ := three_set (k := 2) hbU (by omega) e0 e1 e2 (.int .u8 ((t.e.c - 1).toNat : Int)) (by omega)
        replace g0 : U2.cell? ⟨wr.heap.size + 1, 0, none⟩ = some (.int .u8 ((t.e.a).toNat : Int)) := g0
        replace g1 : U2.cell? ⟨wr.heap.size + 1, 1, none⟩ = some (.int .u8 ((t.e.b).toNat : Int)) := g1
        replace g2 : U2.cell? ⟨wr.heap.size + 1, 2, none⟩ = some (.int .u8 ((t.e.c - 1).toNat : Int)) := g2
        have n0 := hfar _ _ (by simp) n0
        have n1 := hfar _ _ (by simp) n1
        have n2 := hfar _ _ (by simp) n2
        have n3 := hfar _ _ (by simp) n3
        rw [decE_2] at hs0 hs1
        obtain ⟨st, W1, hl, hm1, hl1, hg1, hz1, hW2⟩ := SumAt.region (hS.below (hb7.drew)) (by unfold maxLen; omega) (decE t.e 2)
        rw [decE_2] at hl hm1 hl1
        obtain ⟨W2, he2, hS2, hg2, hz2'⟩ := hW2 (sumAt l (decE t.e 2) + t.v * (t.e.c.toNat : Int)) (by rw [decE_2]; omega) (by rw [decE_2]; omega)
        rw [decE_2] at he2
        simp only [] at hl hm1 hl1
        have hwk : IntKind.i64.wrap (t.v * (t.e.c.toNat : Int)) = t.v * (t.e.c.toNat : Int) := i64_small (by omega) (by omega)
        have hwr := i64_small (show -9223372036854775808 ≤ sumAt l ⟨t.e.a, t.e.b, t.e.c - 1⟩ + t.v * (t.e.c.toNat : Int) by omega) (by omega)
        have hcv : IntKind.i64.wrap (t.e.c.toNat : Int) = (t.e.c.toNat : Int) := i64_small (by omega) (by have : t.e.c.toNat < 256 := t.e.c.toNat_lt; omega)
        have hmt : mb < wr.heap.size := hS.lt
        have m0 := far_cell hg1 (show U2.drew.cell? ⟨wr.heap.size, 0, none⟩ = _ from n0) (fun e => by injection e with e; simp at e; omega)
        have m1 := far_cell hg1 (show U2.drew.cell? ⟨wr.heap.size, 1, none⟩ = _ from n1) (fun e => by injection e with e; simp at e; omega)
        have m2 := far_cell hg1 (show U2.drew.cell? ⟨wr.heap.size, 2, none⟩ = _ from n2) (fun e => by injection e with e; simp at e; omega)
        have m3 := far_cell hg1 (show U2.drew.cell? ⟨wr.heap.size, 3, none⟩ = _ from n3) (fun e => by injection e with e; simp at e; omega)
        have HBV := Lib.hid (hbel.trans (hb7.drew.mono hbel.size))
        have HS2 := Lib.hid hS2
        have HG2 := Lib.hid hg2
        have HFZ := Lib.hid fz
        clear hS hW2 hS2 hg2 hg1 hb9 hb8 hb7 hbU hz1 hz2' hfar hbel fz
        go_wp2
        go_region
        go_wp2
        go_roundg (gk - 1)
        case measure => have := HIK.out; omega
        case rel => exact ⟨k + 1, n + 1, by have := HIK.out; omega, by go_num, by omega, below_grown HBV.out HG2.out (by omega) HBV.out.size, HS2.out.congr (by rw [sumAt_upd, HST.out, if_neg hz])⟩
    · have hie : k = ts.length := by have := HIK.out; omega
      subst hie
      rw [List.take_length] at hS
      have hT : Canon p (derL p 2 ts) := putsT_canon hp _ (canon_nil p)
      have hTc : ∀ e, coefL (derL p 2 ts) e = sumAt (derP 2 ts) e % p := fun e => by
        rw [derL, putsT_coef hp e _ (canon_nil p)]
        show (0 + sumAt (derP 2 ts) e) % p = _
        rw [Int.zero_add]
      have hP := poly_c p d mb n _ _ wr hS (by omega) hp hp' hT hTc
      have HP := Lib.hid hP
      clear hP hT hTc hS
      have u1 := pw_cell_below hbel s1
      have u2 := pw_cell_below hbel s2
      have x0 := pw_cell_below hbel r0
      have x1 := pw_cell_below hbel r1
      have x2 := pw_cell_below hbel r2
      have zr := World.block_lt_of_cell? _ _ x0
      simp only [] at zr
      have x3 := fun j => (hbel.frozen (p := ⟨rb, j, none⟩) (by show rb < _; omega)).trans (R3.out j)
      have X3 := Lib.hid x3
      clear x3
      go_wp2_with (go_at_call 141; (with_reducible refine to_makesP (V := wr) (Below.refl _ _) HP.out ?_); intro w8 B8 c8 hb8 hb8' hl8 hR8; have y0 := pw_cell_below hb8 x0; have y1 := pw_cell_below hb8 x1; have y2 := pw_cell_below hb8 x2; have f0 := (hb8.frozen (p := ⟨rb, 0, none⟩) zr).trans (X3.out 0); have f1 := (hb8.frozen (p := ⟨rb, 1, none⟩) zr).trans (X3.out 1); have f2 := (hb8.frozen (p := ⟨rb, 2, none⟩) zr).trans (X3.out 2))
      generalize derL p 2 ts = xs at *
      refine bodyPost_ret (v := .agg #[.int .i64 p, .int .i64 d, .slice B8 xs.length c8]) (by simp [results, Try.results118, go_sem, y0, y1, y2]) rfl ⟨B8, c8, rfl, ?_, ?_⟩
      · exact R_set3 (Kd.R_mono (Kd.R_bound hR8) (ok' := fun k => k ≠ rb) (fun k hk => by have := hk.2.1; omega)) (fun k hk => hk) (by have := hbel.size; have := hbw.size; omega) _ _ _
      · have h1 := hbw.trans ((hbel.trans (hb8.mono hbel.size)).mono (by omega))
        rw [hxb]
        exact below_set3 h1 (by omega) _ _ _
end Go.Proofs.Ytafdakamibpjaaa
