/- SymmetricFunction of both sides; no condition. -/
import Derived.Test.YtjhkeehfchkpaaaGreatYE1
import Derived.Test.YtjhkeehfchkpaaaGreatYKitO
set_option linter.unusedVariables false
set_option linter.unusedSimpArgs false
namespace Go.Proofs.YtjhkeehfchkpaaaGreat
open Go.RowKit Go.Proofs.YtjhkeehfchkpaaaGreatW.PrintWords
attribute [local go_sem] Later.cell Later.frozen Later.lt Later.lt_add Later.le Later.le_add Later.ne Later.ne' add_at
open Go.Proofs.YtjhkeehfchkpaaaGreatW.PrintLast
attribute [local go_sem 2000] run_eqM guardM
set_option maxRecDepth 100000 in
set_option maxHeartbeats 4000000 in
theorem specSymmetricFunction_0 (p : Int) (n : Nat) (A : Option Addr) (c : Nat) (ms : List M9) (B : Option Addr) (e : Nat) (ts : List T4) (k : Nat) (w : World) (hC : kM.C w A ms.length ms) (hD : kT.C w B ts.length ts) (hN : ms.length ≤ 48) (hts : Canon p ts) (hd : ∀ t ∈ ts, degE t.e ≤ 12) (hp : 2 ≤ p) (hp' : p ≤ 13) (h1 : 1 ≤ n) (h3 : n ≤ 3) (hk : k ≤ (orbV (imgV p n ms ts)).length)
    (hK : ∀ W, kM.C W A ms.length ms → kT.C W B ts.length ts → Calls Tryz.prog 50 #[.agg #[.int .i64 p, .int .i64 n, .slice A ms.length c], .agg #[.int .i64 p, .int .i64 n, .slice B ts.length e]] W (Gives (.int .i64 0) W)) :
    Calls Tryz.prog 44 #[.agg #[.int .i64 p, .int .i64 n, .slice A ms.length c], .agg #[.int .i64 p, .int .i64 n, .slice B ts.length e], .int .i64 (k : Int)] w (MakesPC (toldR p n k ts (orbV (imgV p n ms ts))) 80 w) := by
  have hF := fun W h5 h6 => l03Orbit_c p n A c ms B e ts W h5 h6 hN hts hd hp hp' h1 h3
  have htl := deg_len hts.1 hd
  have hOL := likes_orb (img_likes (p := p) hp (n := n) h3 ms hd)
  have hOD := orb_degP (p := p) hp (n := n) h3 (ms := ms) hts.1
  have hLen : (orbV (imgV p n ms ts)).length ≤ 48 := by have h8 := orbV_len (imgV p n ms ts); rw [imgV_len] at h8; omega
  have hdT : degP ts ≤ 12 := degP_le (by omega) hd
  have hT := fun W L cl h5 h6 => l03Told_c p n B e ts L cl (orbV (imgV p n ms ts)) (orbV (imgV p n ms ts)).length rfl k W h5 h6 hLen (by omega) hp hp' hOL hts.1 hd hOD
  have hIn := fun W => l01In_c (k : Int) 0 ((orbV (imgV p n ms ts)).length : Int) W
  rw [show inB (k : Int) 0 ((orbV (imgV p n ms ts)).length : Int) = true by simp [inB]; omega] at hIn
  have hbW : Below w.heap.size w (((w.alloc (.cells #[.int .i64 p, .int .i64 n, .slice A ms.length c] 34)).alloc (.cells #[.int .i64 p, .int .i64 n, .slice B ts.length e] 38)).alloc (.cells #[.int .i64 0, .int .i64 0, .slice none 0 0] 38)) := bq2
  have hC3 := Kd.C_below hC hbW
  have hD3 := Kd.C_below hD hbW
  clear hts hd hOL hOD hdT
  generalize toldR p n k ts (orbV (imgV p n ms ts)) = r at *
  generalize orbV (imgV p n ms ts) = os at *
  go_enter Tryz.func44, Tryz.ntmps44
  go_wp2_with (first | (go_at_call 50; (first | (with_reducible refine call_later2 (hK _ hC3 hD3) ?_) | (with_reducible refine call_later (hK _ hC3 hD3) ?_)); intro x1); have hX : Below (((w.alloc (.cells #[.int .i64 p, .int .i64 n, .slice A ms.length c] 34)).alloc (.cells #[.int .i64 p, .int .i64 n, .slice B ts.length e] 38)).alloc (.cells #[.int .i64 0, .int .i64 0, .slice none 0 0] 38)).heap.size (((w.alloc (.cells #[.int .i64 p, .int .i64 n, .slice A ms.length c] 34)).alloc (.cells #[.int .i64 p, .int .i64 n, .slice B ts.length e] 38)).alloc (.cells #[.int .i64 0, .int .i64 0, .slice none 0 0] 38)) x1.W := bq2; obtain ⟨g0, g1, g2, f0, f1, f2, r0, r1, r2, r3⟩ := w3_cells hX; have hb2 : Below w.heap.size w x1.W := bq2; have zz2 : w.heap.size + 1 + 1 < x1.W.heap.size := (by have := x1.ok.size; simp at this; omega) | (go_at_call 73; (with_reducible refine Calls.mono (hF _ (Kd.C_below hC hb2) (Kd.C_below hD hb2)) ?_); rintro e' V ⟨v9, rfl, hR8, hb8⟩; obtain ⟨L8, c8, rfl, _, hC8⟩ := Kd.R_reads hR8; replace g0 := pw_cell_below hb8 g0; replace g1 := pw_cell_below hb8 g1; replace g2 := pw_cell_below hb8 g2; replace f0 := pw_cell_below hb8 f0; replace f1 := pw_cell_below hb8 f1; replace f2 := pw_cell_below hb8 f2; replace r0 := pw_cell_below hb8 r0; replace r1 := pw_cell_below hb8 r1; replace r2 := pw_cell_below hb8 r2; have r4 : ∀ j, V.frozen? ⟨w.heap.size + 1 + 1, j, none⟩ = false := (fun j => (hb8.frozen (p := ⟨w.heap.size + 1 + 1, j, none⟩) zz2).trans (r3 j)); have hbV : Below w.heap.size w V := hb2.trans (hb8.mono hb2.size); have zz3 : w.heap.size + 1 + 1 < V.heap.size := Nat.lt_of_lt_of_le zz2 hb8.size; have hwV := hbV.size; have hDV := Kd.C_below hD hbV) | (go_at_call 85; (with_reducible refine to_gives (V := V) (Below.refl _ _) (hIn _) ?_); intro V2 hb7 hb7'; replace g0 := pw_cell_below hb7 g0; replace g1 := pw_cell_below hb7 g1; replace g2 := pw_cell_below hb7 g2; replace f0 := pw_cell_below hb7 f0; replace f1 := pw_cell_below hb7 f1; replace f2 := pw_cell_below hb7 f2; replace r0 := pw_cell_below hb7 r0; replace r1 := pw_cell_below hb7 r1; replace r2 := pw_cell_below hb7 r2; replace hC8 := Kd.C_below hC8 hb7; replace hDV := Kd.C_below hDV hb7; have hs7 := hb7.size; have r5 : ∀ j, V2.frozen? ⟨w.heap.size + 1 + 1, j, none⟩ = false := (fun j => (hb7.frozen (p := ⟨w.heap.size + 1 + 1, j, none⟩) zz3).trans (r4 j))) | (go_at_call 81; (with_reducible refine to_makesPC (V := V2) (Below.refl _ _) (hT _ L8 c8 hDV hC8) ?_); intro w9 B9 c9 hb9 hb9' hl9 hR9; have hs9 := hb9.size; have z0 := pw_cell_below hb9 r0; have z1 := pw_cell_below hb9 r1; have z2 := pw_cell_below hb9 r2; have z3 := fun j => (hb9.frozen (p := ⟨w.heap.size + 1 + 1, j, none⟩) (by show w.heap.size + 1 + 1 < _; omega)).trans (r5 j); obtain ⟨V5, hV5, hb5, y0, y1, y2⟩ := poly_one w9 r.p r.d (.slice B9 r.ts.length c9) ⟨rfl, rfl⟩ 38; replace z0 := pw_cell_below hb5 z0; replace z1 := pw_cell_below hb5 z1; replace z2 := pw_cell_below hb5 z2; have z4 := fun j => (hb5.frozen (p := ⟨w.heap.size + 1 + 1, j, none⟩) (by show w.heap.size + 1 + 1 < _; omega)).trans (z3 j); have hs5 := hb5.size))
  refine bodyPost_ret (v := .tuple #[.agg #[.int .i64 r.p, .int .i64 r.d, .slice B9 r.ts.length c9], .int .i64 r.c]) (by simp [results, Tryz.results44, go_sem, z0, z1, z2, z4]) rfl ⟨B9, c9, rfl, ?_, ?_⟩
  · exact Kd.R_lower (R_set3 (Kd.R_mono (Kd.R_bound (Kd.R_below hR9 hb5)) (ok' := fun k => k ≠ w.heap.size + 1 + 1) (fun k hk => by have h7 : V2.heap.size ≤ k := hk.2.1; show k ≠ w.heap.size + 1 + 1; omega)) (fun k hk => hk) (Nat.le_refl _) _ _ _) (by omega)
  · exact below_set3 (hbV.trans (((hb7.trans (hb9.mono hb7.size)).trans (hb5.mono (Nat.le_trans hb7.size hb9.size))).mono hbV.size)) (by omega) _ _ _
set_option maxRecDepth 100000 in
set_option maxHeartbeats 4000000 in
theorem specSymmetricFunction_R (p : Int) (n : Nat) (A : Option Addr) (c : Nat) (ms : List M9) (B : Option Addr) (e : Nat) (ts : List T4) (k : Int) (w : World) (hC : kM.C w A ms.length ms) (hD : kT.C w B ts.length ts) (hN : ms.length ≤ 48) (hts : Canon p ts) (hd : ∀ t ∈ ts, degE t.e ≤ 12) (hp : 2 ≤ p) (hp' : p ≤ 13) (h1 : 1 ≤ n) (h3 : n ≤ 3) (hk : inB k 0 ((orbV (imgV p n ms ts)).length : Int) = false)
    (hK : ∀ W, kM.C W A ms.length ms → kT.C W B ts.length ts → Calls Tryz.prog 50 #[.agg #[.int .i64 p, .int .i64 n, .slice A ms.length c], .agg #[.int .i64 p, .int .i64 n, .slice B ts.length e]] W (Gives (.int .i64 0) W)) :
    Calls Tryz.prog 44 #[.agg #[.int .i64 p, .int .i64 n, .slice A ms.length c], .agg #[.int .i64 p, .int .i64 n, .slice B ts.length e], .int .i64 k] w (MakesPC ⟨0, 0, [], 2⟩ 80 w) := by
  have hF := fun W h5 h6 => l03Orbit_c p n A c ms B e ts W h5 h6 hN hts hd hp hp' h1 h3
  have htl := deg_len hts.1 hd
  have hOL := likes_orb (img_likes (p := p) hp (n := n) h3 ms hd)
  have hOD := orb_degP (p := p) hp (n := n) h3 (ms := ms) hts.1
  have hLen : (orbV (imgV p n ms ts)).length ≤ 48 := by have h8 := orbV_len (imgV p n ms ts); rw [imgV_len] at h8; omega
  have hdT : degP ts ≤ 12 := degP_le (by omega) hd
  have hIn := fun W => l01In_c k 0 ((orbV (imgV p n ms ts)).length : Int) W
  rw [hk] at hIn
  have hbW : Below w.heap.size w (((w.alloc (.cells #[.int .i64 p, .int .i64 n, .slice A ms.length c] 34)).alloc (.cells #[.int .i64 p, .int .i64 n, .slice B ts.length e] 38)).alloc (.cells #[.int .i64 0, .int .i64 0, .slice none 0 0] 38)) := bq2
  have hC3 := Kd.C_below hC hbW
  have hD3 := Kd.C_below hD hbW
  clear hts hd hOL hOD hdT hk
  generalize orbV (imgV p n ms ts) = os at *
  go_enter Tryz.func44, Tryz.ntmps44
  go_wp2_with (first | (go_at_call 50; (first | (with_reducible refine call_later2 (hK _ hC3 hD3) ?_) | (with_reducible refine call_later (hK _ hC3 hD3) ?_)); intro x1); have hX : Below (((w.alloc (.cells #[.int .i64 p, .int .i64 n, .slice A ms.length c] 34)).alloc (.cells #[.int .i64 p, .int .i64 n, .slice B ts.length e] 38)).alloc (.cells #[.int .i64 0, .int .i64 0, .slice none 0 0] 38)).heap.size (((w.alloc (.cells #[.int .i64 p, .int .i64 n, .slice A ms.length c] 34)).alloc (.cells #[.int .i64 p, .int .i64 n, .slice B ts.length e] 38)).alloc (.cells #[.int .i64 0, .int .i64 0, .slice none 0 0] 38)) x1.W := bq2; obtain ⟨g0, g1, g2, f0, f1, f2, r0, r1, r2, r3⟩ := w3_cells hX; have hb2 : Below w.heap.size w x1.W := bq2; have zz2 : w.heap.size + 1 + 1 < x1.W.heap.size := (by have := x1.ok.size; simp at this; omega) | (go_at_call 73; (with_reducible refine Calls.mono (hF _ (Kd.C_below hC hb2) (Kd.C_below hD hb2)) ?_); rintro e' V ⟨v9, rfl, hR8, hb8⟩; obtain ⟨L8, c8, rfl, _, hC8⟩ := Kd.R_reads hR8; replace g0 := pw_cell_below hb8 g0; replace g1 := pw_cell_below hb8 g1; replace g2 := pw_cell_below hb8 g2; replace f0 := pw_cell_below hb8 f0; replace f1 := pw_cell_below hb8 f1; replace f2 := pw_cell_below hb8 f2; replace r0 := pw_cell_below hb8 r0; replace r1 := pw_cell_below hb8 r1; replace r2 := pw_cell_below hb8 r2; have r4 : ∀ j, V.frozen? ⟨w.heap.size + 1 + 1, j, none⟩ = false := (fun j => (hb8.frozen (p := ⟨w.heap.size + 1 + 1, j, none⟩) zz2).trans (r3 j)); have hbV : Below w.heap.size w V := hb2.trans (hb8.mono hb2.size); have zz3 : w.heap.size + 1 + 1 < V.heap.size := Nat.lt_of_lt_of_le zz2 hb8.size; have hwV := hbV.size; have hDV := Kd.C_below hD hbV) | (go_at_call 85; (with_reducible refine to_gives (V := V) (Below.refl _ _) (hIn _) ?_); intro V2 hb7 hb7'; replace r0 := pw_cell_below hb7 r0; replace r1 := pw_cell_below hb7 r1; replace r2 := pw_cell_below hb7 r2; have hs7 := hb7.size; have r5 : ∀ j, V2.frozen? ⟨w.heap.size + 1 + 1, j, none⟩ = false := (fun j => (hb7.frozen (p := ⟨w.heap.size + 1 + 1, j, none⟩) zz3).trans (r4 j)); have hbV2 : Below w.heap.size w V2 := hbV.trans (hb7.mono hbV.size)))
  refine bodyPost_ret (v := .tuple #[.agg #[.int .i64 0, .int .i64 0, .slice none 0 0], .int .i64 2]) (by simp [results, Tryz.results44, go_sem, r0, r1, r2, r5]) rfl ?_
  exact MakesPC_nil _ _ _ _ bq2
set_option maxRecDepth 100000 in
set_option maxHeartbeats 4000000 in
theorem implSymmetricFunction_L (p : Int) (n : Nat) (A : Option Addr) (c : Nat) (ms : List M9) (B : Option Addr) (e : Nat) (ts : List T4) (k : Nat) (w : World) (hC : kM.C w A ms.length ms) (hD : kT.C w B ts.length ts) (hN : ms.length ≤ 48) (hts : Canon p ts) (hd : ∀ t ∈ ts, degE t.e ≤ 12) (hp : 2 ≤ p) (hp' : p ≤ 13) (h1 : 1 ≤ n) (h3 : n ≤ 3) (hk : k ≤ (orbV (imgV p n ms ts)).length) (hx : 12 < (k : Int) * max (degP ts) 0)
    (hK : ∀ W, kM.C W A ms.length ms → kT.C W B ts.length ts → Calls Tryz.prog 54 #[.agg #[.int .i64 p, .int .i64 n, .slice A ms.length c], .agg #[.int .i64 p, .int .i64 n, .slice B ts.length e]] W (Gives (.int .i64 0) W)) :
    Calls Tryz.prog 45 #[.agg #[.int .i64 p, .int .i64 n, .slice A ms.length c], .agg #[.int .i64 p, .int .i64 n, .slice B ts.length e], .int .i64 (k : Int)] w (MakesPC ⟨0, 0, [], 3⟩ 80 w) := by
  have hF := fun W h5 h6 => orbit_c p n A c ms B e ts W h5 h6 hN hts hd hp hp' h1 h3
  have htl := deg_len hts.1 hd
  have hOL := likes_orb (img_likes (p := p) hp (n := n) h3 ms hd)
  have hOD := orb_degP (p := p) hp (n := n) h3 (ms := ms) hts.1
  have hLen : (orbV (imgV p n ms ts)).length ≤ 48 := by have h8 := orbV_len (imgV p n ms ts); rw [imgV_len] at h8; omega
  have hdT : degP ts ≤ 12 := degP_le (by omega) hd
  have hk48 : k ≤ 48 := by omega
  have hk0 : ¬ (k : Int) < 0 := by omega
  have hkl : ¬ ((orbV (imgV p n ms ts)).length : Int) < (k : Int) := by omega
  have hmx : max (degP ts) 0 = degP ts := by
    rcases Int.le_total (degP ts) 0 with h8 | h8
    · rw [Int.max_eq_right h8] at hx
      omega
    · exact Int.max_eq_left h8
  rw [hmx] at hx
  have hkm : (k : Int) * degP ts ≤ 48 * 12 := Int.mul_le_mul (by omega) (by omega) (by omega) (by omega)
  have hw64 := i64_small (n := (k : Int) * degP ts) (by omega) (by omega)
  have hDg := fun W h => degreeP_c p n B e ts W h (by omega)
  have hbW : Below w.heap.size w (((w.alloc (.cells #[.int .i64 p, .int .i64 n, .slice A ms.length c] 34)).alloc (.cells #[.int .i64 p, .int .i64 n, .slice B ts.length e] 38)).alloc (.cells #[.int .i64 0, .int .i64 0, .slice none 0 0] 38)) := bq2
  have hC3 := Kd.C_below hC hbW
  have hD3 := Kd.C_below hD hbW
  clear hts hd hOL hOD hdT hmx
  generalize orbV (imgV p n ms ts) = os at *
  generalize degP ts = D at *
  go_enter Tryz.func45, Tryz.ntmps45
  go_wp2_with (first | (go_at_call 54; (first | (with_reducible refine call_later2 (hK _ hC3 hD3) ?_) | (with_reducible refine call_later (hK _ hC3 hD3) ?_)); intro x1); have hX : Below (((w.alloc (.cells #[.int .i64 p, .int .i64 n, .slice A ms.length c] 34)).alloc (.cells #[.int .i64 p, .int .i64 n, .slice B ts.length e] 38)).alloc (.cells #[.int .i64 0, .int .i64 0, .slice none 0 0] 38)).heap.size (((w.alloc (.cells #[.int .i64 p, .int .i64 n, .slice A ms.length c] 34)).alloc (.cells #[.int .i64 p, .int .i64 n, .slice B ts.length e] 38)).alloc (.cells #[.int .i64 0, .int .i64 0, .slice none 0 0] 38)) x1.W := bq2; obtain ⟨g0, g1, g2, f0, f1, f2, r0, r1, r2, r3⟩ := w3_cells hX; have hb2 : Below w.heap.size w x1.W := bq2; have zz2 : w.heap.size + 1 + 1 < x1.W.heap.size := (by have := x1.ok.size; simp at this; omega) | (go_at_call 75; (with_reducible refine Calls.mono (hF _ (Kd.C_below hC hb2) (Kd.C_below hD hb2)) ?_); rintro e' V ⟨v9, rfl, hR8, hb8⟩; obtain ⟨L8, c8, rfl, _, hC8⟩ := Kd.R_reads hR8; replace g0 := pw_cell_below hb8 g0; replace g1 := pw_cell_below hb8 g1; replace g2 := pw_cell_below hb8 g2; replace f0 := pw_cell_below hb8 f0; replace f1 := pw_cell_below hb8 f1; replace f2 := pw_cell_below hb8 f2; replace r0 := pw_cell_below hb8 r0; replace r1 := pw_cell_below hb8 r1; replace r2 := pw_cell_below hb8 r2; have r4 : ∀ j, V.frozen? ⟨w.heap.size + 1 + 1, j, none⟩ = false := (fun j => (hb8.frozen (p := ⟨w.heap.size + 1 + 1, j, none⟩) zz2).trans (r3 j)); have hbV : Below w.heap.size w V := hb2.trans (hb8.mono hb2.size); have zz3 : w.heap.size + 1 + 1 < V.heap.size := Nat.lt_of_lt_of_le zz2 hb8.size; have hwV := hbV.size; have hDV := Kd.C_below hD hbV) | (go_at_call 82; (with_reducible refine to_gives (V := V) (Below.refl _ _) (hDg _ hDV) ?_); intro V2 hb7 hb7'; replace g0 := pw_cell_below hb7 g0; replace g1 := pw_cell_below hb7 g1; replace g2 := pw_cell_below hb7 g2; replace f0 := pw_cell_below hb7 f0; replace f1 := pw_cell_below hb7 f1; replace f2 := pw_cell_below hb7 f2; replace r0 := pw_cell_below hb7 r0; replace r1 := pw_cell_below hb7 r1; replace r2 := pw_cell_below hb7 r2; replace hC8 := Kd.C_below hC8 hb7; replace hDV := Kd.C_below hDV hb7; have hs7 := hb7.size; have r5 : ∀ j, V2.frozen? ⟨w.heap.size + 1 + 1, j, none⟩ = false := (fun j => (hb7.frozen (p := ⟨w.heap.size + 1 + 1, j, none⟩) zz3).trans (r4 j)); have hbV2 : Below w.heap.size w V2 := hbV.trans (hb7.mono hbV.size); have zz4 : w.heap.size + 1 + 1 < V2.heap.size := Nat.lt_of_lt_of_le zz3 hs7))
  refine bodyPost_ret (v := .tuple #[.agg #[.int .i64 0, .int .i64 0, .slice none 0 0], .int .i64 3]) (by simp [results, Tryz.results45, go_sem, r0, r1, r2, r5]) rfl ?_
  exact MakesPC_nil _ _ _ _ bq2
set_option maxRecDepth 100000 in
set_option maxHeartbeats 4000000 in
theorem implSymmetricFunction_0 (p : Int) (n : Nat) (A : Option Addr) (c : Nat) (ms : List M9) (B : Option Addr) (e : Nat) (ts : List T4) (k : Nat) (w : World) (hC : kM.C w A ms.length ms) (hD : kT.C w B ts.length ts) (hN : ms.length ≤ 48) (hts : Canon p ts) (hd : ∀ t ∈ ts, degE t.e ≤ 12) (hp : 2 ≤ p) (hp' : p ≤ 13) (h1 : 1 ≤ n) (h3 : n ≤ 3) (hk : k ≤ (orbV (imgV p n ms ts)).length) (hx : ¬ 12 < (k : Int) * max (degP ts) 0)
    (hK : ∀ W, kM.C W A ms.length ms → kT.C W B ts.length ts → Calls Tryz.prog 54 #[.agg #[.int .i64 p, .int .i64 n, .slice A ms.length c], .agg #[.int .i64 p, .int .i64 n, .slice B ts.length e]] W (Gives (.int .i64 0) W)) :
    Calls Tryz.prog 45 #[.agg #[.int .i64 p, .int .i64 n, .slice A ms.length c], .agg #[.int .i64 p, .int .i64 n, .slice B ts.length e], .int .i64 (k : Int)] w (MakesPC ⟨p, n, symL p n k (orbV (imgV p n ms ts)), 0⟩ 80 w) := by
  have hF := fun W h5 h6 => orbit_c p n A c ms B e ts W h5 h6 hN hts hd hp hp' h1 h3
  have htl := deg_len hts.1 hd
  have hOL := likes_orb (img_likes (p := p) hp (n := n) h3 ms hd)
  have hOD := orb_degP (p := p) hp (n := n) h3 (ms := ms) hts.1
  have hLen : (orbV (imgV p n ms ts)).length ≤ 48 := by have h8 := orbV_len (imgV p n ms ts); rw [imgV_len] at h8; omega
  have hdT : degP ts ≤ 12 := degP_le (by omega) hd
  have hk48 : k ≤ 48 := by omega
  have hk0 : ¬ (k : Int) < 0 := by omega
  have hkl : ¬ ((orbV (imgV p n ms ts)).length : Int) < (k : Int) := by omega
  have hdn : -1 ≤ degP ts := by
    by_cases h : ts = []
    · subst h
      decide
    · have := degP_pos h
      omega
  have hkm1 : (k : Int) * degP ts ≤ (k : Int) * max (degP ts) 0 := Int.mul_le_mul_of_nonneg_left (by omega) (by omega)
  have hkm2 : (k : Int) * (-1) ≤ (k : Int) * degP ts := Int.mul_le_mul_of_nonneg_left hdn (by omega)
  have hnx : ¬ 12 < (k : Int) * degP ts := by omega
  have hw64 := i64_small (n := (k : Int) * degP ts) (by omega) (by omega)
  have hDg := fun W h => degreeP_c p n B e ts W h (by omega)
  have hDD := told_D (k := k) hOL hOD hx
  have hbW : Below w.heap.size w (((w.alloc (.cells #[.int .i64 p, .int .i64 n, .slice A ms.length c] 34)).alloc (.cells #[.int .i64 p, .int .i64 n, .slice B ts.length e] 38)).alloc (.cells #[.int .i64 0, .int .i64 0, .slice none 0 0] 38)) := bq2
  have hC3 := Kd.C_below hC hbW
  have hD3 := Kd.C_below hD hbW
  have hSy := fun W L cl h => symmetric_c p n B e ts L cl (orbV (imgV p n ms ts)) (orbV (imgV p n ms ts)).length rfl k W h hLen hk48 hp hp' hOL _ hDD.1 hDD.2
  clear hts hd hOL hOD hdT hdn hkm1 hkm2 hx hDD
  generalize symL p n k (orbV (imgV p n ms ts)) = sl at *
  generalize orbV (imgV p n ms ts) = os at *
  generalize degP ts = D at *
  go_enter Tryz.func45, Tryz.ntmps45
  go_wp2_with (first | (go_at_call 54; (first | (with_reducible refine call_later2 (hK _ hC3 hD3) ?_) | (with_reducible refine call_later (hK _ hC3 hD3) ?_)); intro x1); have hX : Below (((w.alloc (.cells #[.int .i64 p, .int .i64 n, .slice A ms.length c] 34)).alloc (.cells #[.int .i64 p, .int .i64 n, .slice B ts.length e] 38)).alloc (.cells #[.int .i64 0, .int .i64 0, .slice none 0 0] 38)).heap.size (((w.alloc (.cells #[.int .i64 p, .int .i64 n, .slice A ms.length c] 34)).alloc (.cells #[.int .i64 p, .int .i64 n, .slice B ts.length e] 38)).alloc (.cells #[.int .i64 0, .int .i64 0, .slice none 0 0] 38)) x1.W := bq2; obtain ⟨g0, g1, g2, f0, f1, f2, r0, r1, r2, r3⟩ := w3_cells hX; have hb2 : Below w.heap.size w x1.W := bq2; have zz2 : w.heap.size + 1 + 1 < x1.W.heap.size := (by have := x1.ok.size; simp at this; omega) | (go_at_call 75; (with_reducible refine Calls.mono (hF _ (Kd.C_below hC hb2) (Kd.C_below hD hb2)) ?_); rintro e' V ⟨v9, rfl, hR8, hb8⟩; obtain ⟨L8, c8, rfl, _, hC8⟩ := Kd.R_reads hR8; replace g0 := pw_cell_below hb8 g0; replace g1 := pw_cell_below hb8 g1; replace g2 := pw_cell_below hb8 g2; replace f0 := pw_cell_below hb8 f0; replace f1 := pw_cell_below hb8 f1; replace f2 := pw_cell_below hb8 f2; replace r0 := pw_cell_below hb8 r0; replace r1 := pw_cell_below hb8 r1; replace r2 := pw_cell_below hb8 r2; have r4 : ∀ j, V.frozen? ⟨w.heap.size + 1 + 1, j, none⟩ = false := (fun j => (hb8.frozen (p := ⟨w.heap.size + 1 + 1, j, none⟩) zz2).trans (r3 j)); have hbV : Below w.heap.size w V := hb2.trans (hb8.mono hb2.size); have zz3 : w.heap.size + 1 + 1 < V.heap.size := Nat.lt_of_lt_of_le zz2 hb8.size; have hwV := hbV.size; have hDV := Kd.C_below hD hbV) | (go_at_call 82; (with_reducible refine to_gives (V := V) (Below.refl _ _) (hDg _ hDV) ?_); intro V2 hb7 hb7'; replace g0 := pw_cell_below hb7 g0; replace g1 := pw_cell_below hb7 g1; replace g2 := pw_cell_below hb7 g2; replace f0 := pw_cell_below hb7 f0; replace f1 := pw_cell_below hb7 f1; replace f2 := pw_cell_below hb7 f2; replace r0 := pw_cell_below hb7 r0; replace r1 := pw_cell_below hb7 r1; replace r2 := pw_cell_below hb7 r2; replace hC8 := Kd.C_below hC8 hb7; replace hDV := Kd.C_below hDV hb7; have hs7 := hb7.size; have r5 : ∀ j, V2.frozen? ⟨w.heap.size + 1 + 1, j, none⟩ = false := (fun j => (hb7.frozen (p := ⟨w.heap.size + 1 + 1, j, none⟩) zz3).trans (r4 j)); have hbV2 : Below w.heap.size w V2 := hbV.trans (hb7.mono hbV.size); have zz4 : w.heap.size + 1 + 1 < V2.heap.size := Nat.lt_of_lt_of_le zz3 hs7) | (go_at_call 86; (with_reducible refine to_makesP (V := V2) (Below.refl _ _) (hSy _ L8 c8 hC8) ?_); intro w9 A9 c9 hb9 hb9' hl9 hR9; have z0 := pw_cell_below hb9 r0; have z1 := pw_cell_below hb9 r1; have z2 := pw_cell_below hb9 r2; have z3 := fun j => (hb9.frozen (p := ⟨w.heap.size + 1 + 1, j, none⟩) zz4).trans (r5 j)))
  have hs9 := hb9.size
  have hw2 := hbV2.size
  refine bodyPost_ret (v := .tuple #[.agg #[.int .i64 p, .int .i64 n, .slice A9 sl.length c9], .int .i64 0]) (by simp [results, Tryz.results45, go_sem, z0, z1, z2, z3]) rfl ⟨A9, c9, rfl, ?_, ?_⟩
  · exact Kd.R_lower (R_set3 (Kd.R_mono (Kd.R_bound hR9) (ok' := fun k => k ≠ w.heap.size + 1 + 1) (fun k hk => by have h7 : V2.heap.size ≤ k := hk.2.1; show k ≠ w.heap.size + 1 + 1; omega)) (fun k hk => hk) (Nat.le_refl _) _ _ _) (by omega)
  · exact below_set3 (hbV2.trans (hb9.mono hw2)) (by omega) _ _ _
set_option maxRecDepth 100000 in
set_option maxHeartbeats 4000000 in
theorem implSymmetricFunction_R (p : Int) (n : Nat) (A : Option Addr) (c : Nat) (ms : List M9) (B : Option Addr) (e : Nat) (ts : List T4) (k : Int) (w : World) (hC : kM.C w A ms.length ms) (hD : kT.C w B ts.length ts) (hN : ms.length ≤ 48) (hts : Canon p ts) (hd : ∀ t ∈ ts, degE t.e ≤ 12) (hp : 2 ≤ p) (hp' : p ≤ 13) (h1 : 1 ≤ n) (h3 : n ≤ 3) (hk : inB k 0 ((orbV (imgV p n ms ts)).length : Int) = false)
    (hK : ∀ W, kM.C W A ms.length ms → kT.C W B ts.length ts → Calls Tryz.prog 54 #[.agg #[.int .i64 p, .int .i64 n, .slice A ms.length c], .agg #[.int .i64 p, .int .i64 n, .slice B ts.length e]] W (Gives (.int .i64 0) W)) :
    Calls Tryz.prog 45 #[.agg #[.int .i64 p, .int .i64 n, .slice A ms.length c], .agg #[.int .i64 p, .int .i64 n, .slice B ts.length e], .int .i64 k] w (MakesPC ⟨0, 0, [], 2⟩ 80 w) := by
  have hF := fun W h5 h6 => orbit_c p n A c ms B e ts W h5 h6 hN hts hd hp hp' h1 h3
  have htl := deg_len hts.1 hd
  have hOL := likes_orb (img_likes (p := p) hp (n := n) h3 ms hd)
  have hOD := orb_degP (p := p) hp (n := n) h3 (ms := ms) hts.1
  have hLen : (orbV (imgV p n ms ts)).length ≤ 48 := by have h8 := orbV_len (imgV p n ms ts); rw [imgV_len] at h8; omega
  have hdT : degP ts ≤ 12 := degP_le (by omega) hd
  have hbW : Below w.heap.size w (((w.alloc (.cells #[.int .i64 p, .int .i64 n, .slice A ms.length c] 34)).alloc (.cells #[.int .i64 p, .int .i64 n, .slice B ts.length e] 38)).alloc (.cells #[.int .i64 0, .int .i64 0, .slice none 0 0] 38)) := bq2
  have hC3 := Kd.C_below hC hbW
  have hD3 := Kd.C_below hD hbW
  clear hts hd hOL hOD hdT
  generalize orbV (imgV p n ms ts) = os at *
  by_cases hk1 : k < 0
  · clear hk
    go_enter Tryz.func45, Tryz.ntmps45
    go_wp2_with (first | (go_at_call 54; (first | (with_reducible refine call_later2 (hK _ hC3 hD3) ?_) | (with_reducible refine call_later (hK _ hC3 hD3) ?_)); intro x1); have hX : Below (((w.alloc (.cells #[.int .i64 p, .int .i64 n, .slice A ms.length c] 34)).alloc (.cells #[.int .i64 p, .int .i64 n, .slice B ts.length e] 38)).alloc (.cells #[.int .i64 0, .int .i64 0, .slice none 0 0] 38)).heap.size (((w.alloc (.cells #[.int .i64 p, .int .i64 n, .slice A ms.length c] 34)).alloc (.cells #[.int .i64 p, .int .i64 n, .slice B ts.length e] 38)).alloc (.cells #[.int .i64 0, .int .i64 0, .slice none 0 0] 38)) x1.W := bq2; obtain ⟨g0, g1, g2, f0, f1, f2, r0, r1, r2, r3⟩ := w3_cells hX; have hb2 : Below w.heap.size w x1.W := bq2; have zz2 : w.heap.size + 1 + 1 < x1.W.heap.size := (by have := x1.ok.size; simp at this; omega) | (go_at_call 75; (with_reducible refine Calls.mono (hF _ (Kd.C_below hC hb2) (Kd.C_below hD hb2)) ?_); rintro e' V ⟨v9, rfl, hR8, hb8⟩; obtain ⟨L8, c8, rfl, _, hC8⟩ := Kd.R_reads hR8; replace g0 := pw_cell_below hb8 g0; replace g1 := pw_cell_below hb8 g1; replace g2 := pw_cell_below hb8 g2; replace f0 := pw_cell_below hb8 f0; replace f1 := pw_cell_below hb8 f1; replace f2 := pw_cell_below hb8 f2; replace r0 := pw_cell_below hb8 r0; replace r1 := pw_cell_below hb8 r1; replace r2 := pw_cell_below hb8 r2; have r4 : ∀ j, V.frozen? ⟨w.heap.size + 1 + 1, j, none⟩ = false := (fun j => (hb8.frozen (p := ⟨w.heap.size + 1 + 1, j, none⟩) zz2).trans (r3 j)); have hbV : Below w.heap.size w V := hb2.trans (hb8.mono hb2.size); have zz3 : w.heap.size + 1 + 1 < V.heap.size := Nat.lt_of_lt_of_le zz2 hb8.size; have hwV := hbV.size; have hDV := Kd.C_below hD hbV))
    refine bodyPost_ret (v := .tuple #[.agg #[.int .i64 0, .int .i64 0, .slice none 0 0], .int .i64 2]) (by simp [results, Tryz.results45, go_sem, r0, r1, r2, r4]) rfl ?_
    exact MakesPC_nil _ _ _ _ bq2
  · have hk2 : (os.length : Int) < k := by simp [inB] at hk; omega
    clear hk
    go_enter Tryz.func45, Tryz.ntmps45
    go_wp2_with (first | (go_at_call 54; (first | (with_reducible refine call_later2 (hK _ hC3 hD3) ?_) | (with_reducible refine call_later (hK _ hC3 hD3) ?_)); intro x1); have hX : Below (((w.alloc (.cells #[.int .i64 p, .int .i64 n, .slice A ms.length c] 34)).alloc (.cells #[.int .i64 p, .int .i64 n, .slice B ts.length e] 38)).alloc (.cells #[.int .i64 0, .int .i64 0, .slice none 0 0] 38)).heap.size (((w.alloc (.cells #[.int .i64 p, .int .i64 n, .slice A ms.length c] 34)).alloc (.cells #[.int .i64 p, .int .i64 n, .slice B ts.length e] 38)).alloc (.cells #[.int .i64 0, .int .i64 0, .slice none 0 0] 38)) x1.W := bq2; obtain ⟨g0, g1, g2, f0, f1, f2, r0, r1, r2, r3⟩ := w3_cells hX; have hb2 : Below w.heap.size w x1.W := bq2; have zz2 : w.heap.size + 1 + 1 < x1.W.heap.size := (by have := x1.ok.size; simp at this; omega) | (go_at_call 75; (with_reducible refine Calls.mono (hF _ (Kd.C_below hC hb2) (Kd.C_below hD hb2)) ?_); rintro e' V ⟨v9, rfl, hR8, hb8⟩; obtain ⟨L8, c8, rfl, _, hC8⟩ := Kd.R_reads hR8; replace g0 := pw_cell_below hb8 g0; replace g1 := pw_cell_below hb8 g1; replace g2 := pw_cell_below hb8 g2; replace f0 := pw_cell_below hb8 f0; replace f1 := pw_cell_below hb8 f1; replace f2 := pw_cell_below hb8 f2; replace r0 := pw_cell_below hb8 r0; replace r1 := pw_cell_below hb8 r1; replace r2 := pw_cell_below hb8 r2; have r4 : ∀ j, V.frozen? ⟨w.heap.size + 1 + 1, j, none⟩ = false := (fun j => (hb8.frozen (p := ⟨w.heap.size + 1 + 1, j, none⟩) zz2).trans (r3 j)); have hbV : Below w.heap.size w V := hb2.trans (hb8.mono hb2.size); have zz3 : w.heap.size + 1 + 1 < V.heap.size := Nat.lt_of_lt_of_le zz2 hb8.size; have hwV := hbV.size; have hDV := Kd.C_below hD hbV))
    refine bodyPost_ret (v := .tuple #[.agg #[.int .i64 0, .int .i64 0, .slice none 0 0], .int .i64 2]) (by simp [results, Tryz.results45, go_sem, r0, r1, r2, r4]) rfl ?_
    exact MakesPC_nil _ _ _ _ bq2
def syR (p n : Int) (ms : List M9) (q d : Int) (ts : List T4) (k : Int) : PC := if codeF p n ms q d ts = 0 then (if inB k 0 ((orbV (imgV p n.toNat ms ts)).length : Int) then toldR p n.toNat k.toNat ts (orbV (imgV p n.toNat ms ts)) else ⟨0, 0, [], 2⟩) else ⟨0, 0, [], codeF p n ms q d ts⟩
theorem syR_0 {p n : Int} {ms : List M9} {q d : Int} {ts : List T4} {k : Int} (h : codeF p n ms q d ts = 0) (hk : inB k 0 ((orbV (imgV p n.toNat ms ts)).length : Int) = true) : syR p n ms q d ts k = toldR p n.toNat k.toNat ts (orbV (imgV p n.toNat ms ts)) := by
  unfold syR
  rw [if_pos h, if_pos hk]
theorem syR_2 {p n : Int} {ms : List M9} {q d : Int} {ts : List T4} {k : Int} (h : codeF p n ms q d ts = 0) (hk : inB k 0 ((orbV (imgV p n.toNat ms ts)).length : Int) = false) : syR p n ms q d ts k = ⟨0, 0, [], 2⟩ := by
  unfold syR
  rw [if_pos h, hk]
  rfl
theorem syR_1 {p n : Int} {ms : List M9} {q d : Int} {ts : List T4} {k c : Int} (h : codeF p n ms q d ts = c) (hk : c ≠ 0) : syR p n ms q d ts k = ⟨0, 0, [], c⟩ := by
  unfold syR
  rw [h, if_neg hk]
theorem syR_len (p n : Int) (ms : List M9) (q d : Int) (ts : List T4) (k : Int) : (syR p n ms q d ts k).ts.length ≤ 1048576 := by
  by_cases h : codeF p n ms q d ts = 0
  · cases hk : inB k 0 ((orbV (imgV p n.toNat ms ts)).length : Int) with
    | false => rw [syR_2 h hk]; simp
    | true =>
      rw [syR_0 h hk]
      obtain ⟨_, _, hp, _, _, h3, _, hcan, hd⟩ := codeF_nums h
      exact told_len hp (likes_orb (img_likes (p := p) hp (n := n.toNat) (by omega) ms hd)) (orb_degP (p := p) hp (by omega) hcan.1)
  · rw [syR_1 rfl h]; simp
set_option maxRecDepth 100000 in
set_option maxHeartbeats 4000000 in
theorem implSymmetricFunction_c (p n : Int) (A : Option Addr) (c : Nat) (ms : List M9) (q d : Int) (B : Option Addr) (e : Nat) (ts : List T4) (k : Int) (w : World) (hC : kM.C w A ms.length ms) (hD : kT.C w B ts.length ts) (hN : ms.length ≤ 9223372036854775807) (hM : ts.length ≤ 9223372036854775807) :
    Calls Tryz.prog 45 #[.agg #[.int .i64 p, .int .i64 n, .slice A ms.length c], .agg #[.int .i64 q, .int .i64 d, .slice B ts.length e], .int .i64 k] w (MakesPC (syR p n ms q d ts k) 80 w) := by
  have hK := fun W h h' => actionCode_c p n A c ms q d B e ts W h h' hN hM
  rcases codeF_three p n ms q d ts with h0 | h0 | h0
  · rw [h0] at hK
    obtain ⟨hq, hdn, hp, hp', h1, h3, hl, hcan, hdg⟩ := codeF_nums h0
    obtain ⟨m, hm⟩ := Int.eq_ofNat_of_zero_le (show 0 ≤ n by omega)
    rw [hm] at hdn
    subst hq
    subst hdn
    subst hm
    cases hk : inB k 0 ((orbV (imgV q m ms ts)).length : Int) with
    | false =>
      rw [syR_2 h0 hk]
      exact implSymmetricFunction_R _ m A c ms B e ts k w hC hD hl hcan hdg hp hp' (by omega) (by omega) hk hK
    | true =>
      rw [syR_0 h0 hk]
      have hk1 : 0 ≤ k ∧ k ≤ ((orbV (imgV q m ms ts)).length : Int) := by simp [inB] at hk; omega
      obtain ⟨i, hi⟩ := Int.eq_ofNat_of_zero_le hk1.1
      subst hi
      show Calls _ _ _ _ (MakesPC (toldR _ m i ts (orbV (imgV _ m ms ts))) _ _)
      by_cases hx : 12 < (i : Int) * max (degP ts) 0
      · rw [told_pos hx]
        exact implSymmetricFunction_L _ m A c ms B e ts i w hC hD hl hcan hdg hp hp' (by omega) (by omega) (by omega) hx hK
      · rw [told_neg hx]
        exact implSymmetricFunction_0 _ m A c ms B e ts i w hC hD hl hcan hdg hp hp' (by omega) (by omega) (by omega) hx hK
  · rw [syR_1 h0 (by decide)]
    rw [h0] at hK
    clear h0
    have hbW : Below w.heap.size w (((w.alloc (.cells #[.int .i64 p, .int .i64 n, .slice A ms.length c] 34)).alloc (.cells #[.int .i64 q, .int .i64 d, .slice B ts.length e] 38)).alloc (.cells #[.int .i64 0, .int .i64 0, .slice none 0 0] 38)) := bq2
    have hC3 := Kd.C_below hC hbW
    have hD3 := Kd.C_below hD hbW
    go_enter Tryz.func45, Tryz.ntmps45
    go_wp2_with ((go_at_call 54; (first | (with_reducible refine call_later2 (hK _ hC3 hD3) ?_) | (with_reducible refine call_later (hK _ hC3 hD3) ?_)); intro x1))
    have zz : w.heap.size + 1 + 1 < x1.W.heap.size := by have := x1.ok.size; simp at this; omega
    refine bodyPost_ret (v := .tuple #[.agg #[.int .i64 0, .int .i64 0, .slice none 0 0], .int .i64 1]) (by simp [results, Tryz.results45, go_sem]) rfl ?_
    exact MakesPC_nil _ _ _ _ bq2
  · rw [syR_1 h0 (by decide)]
    rw [h0] at hK
    clear h0
    have hbW : Below w.heap.size w (((w.alloc (.cells #[.int .i64 p, .int .i64 n, .slice A ms.length c] 34)).alloc (.cells #[.int .i64 q, .int .i64 d, .slice B ts.length e] 38)).alloc (.cells #[.int .i64 0, .int .i64 0, .slice none 0 0] 38)) := bq2
    have hC3 := Kd.C_below hC hbW
    have hD3 := Kd.C_below hD hbW
    go_enter Tryz.func45, Tryz.ntmps45
    go_wp2_with ((go_at_call 54; (first | (with_reducible refine call_later2 (hK _ hC3 hD3) ?_) | (with_reducible refine call_later (hK _ hC3 hD3) ?_)); intro x1))
    have zz : w.heap.size + 1 + 1 < x1.W.heap.size := by have := x1.ok.size; simp at this; omega
    refine bodyPost_ret (v := .tuple #[.agg #[.int .i64 0, .int .i64 0, .slice none 0 0], .int .i64 2]) (by simp [results, Tryz.results45, go_sem]) rfl ?_
    exact MakesPC_nil _ _ _ _ bq2
set_option maxRecDepth 100000 in
set_option maxHeartbeats 4000000 in
theorem specSymmetricFunction_c (p n : Int) (A : Option Addr) (c : Nat) (ms : List M9) (q d : Int) (B : Option Addr) (e : Nat) (ts : List T4) (k : Int) (w : World) (hC : kM.C w A ms.length ms) (hD : kT.C w B ts.length ts) (hN : ms.length ≤ 9223372036854775807) (hM : ts.length ≤ 9223372036854775807) :
    Calls Tryz.prog 44 #[.agg #[.int .i64 p, .int .i64 n, .slice A ms.length c], .agg #[.int .i64 q, .int .i64 d, .slice B ts.length e], .int .i64 k] w (MakesPC (syR p n ms q d ts k) 80 w) := by
  have hK := fun W h h' => l03Code_c p n A c ms q d B e ts W h h' hN hM
  rcases codeF_three p n ms q d ts with h0 | h0 | h0
  · rw [h0] at hK
    obtain ⟨hq, hdn, hp, hp', h1, h3, hl, hcan, hdg⟩ := codeF_nums h0
    obtain ⟨m, hm⟩ := Int.eq_ofNat_of_zero_le (show 0 ≤ n by omega)
    rw [hm] at hdn
    subst hq
    subst hdn
    subst hm
    cases hk : inB k 0 ((orbV (imgV q m ms ts)).length : Int) with
    | false =>
      rw [syR_2 h0 hk]
      exact specSymmetricFunction_R _ m A c ms B e ts k w hC hD hl hcan hdg hp hp' (by omega) (by omega) hk hK
    | true =>
      rw [syR_0 h0 hk]
      have hk1 : 0 ≤ k ∧ k ≤ ((orbV (imgV q m ms ts)).length : Int) := by simp [inB] at hk; omega
      obtain ⟨i, hi⟩ := Int.eq_ofNat_of_zero_le hk1.1
      subst hi
      show Calls _ _ _ _ (MakesPC (toldR _ m i ts (orbV (imgV _ m ms ts))) _ _)
      exact specSymmetricFunction_0 _ m A c ms B e ts i w hC hD hl hcan hdg hp hp' (by omega) (by omega) (by omega) hK
  · rw [syR_1 h0 (by decide)]
    rw [h0] at hK
    clear h0
    have hbW : Below w.heap.size w (((w.alloc (.cells #[.int .i64 p, .int .i64 n, .slice A ms.length c] 34)).alloc (.cells #[.int .i64 q, .int .i64 d, .slice B ts.length e] 38)).alloc (.cells #[.int .i64 0, .int .i64 0, .slice none 0 0] 38)) := bq2
    have hC3 := Kd.C_below hC hbW
    have hD3 := Kd.C_below hD hbW
    go_enter Tryz.func44, Tryz.ntmps44
    go_wp2_with ((go_at_call 50; (first | (with_reducible refine call_later2 (hK _ hC3 hD3) ?_) | (with_reducible refine call_later (hK _ hC3 hD3) ?_)); intro x1))
    have zz : w.heap.size + 1 + 1 < x1.W.heap.size := by have := x1.ok.size; simp at this; omega
    refine bodyPost_ret (v := .tuple #[.agg #[.int .i64 0, .int .i64 0, .slice none 0 0], .int .i64 1]) (by simp [results, Tryz.results44, go_sem]) rfl ?_
    exact MakesPC_nil _ _ _ _ bq2
  · rw [syR_1 h0 (by decide)]
    rw [h0] at hK
    clear h0
    have hbW : Below w.heap.size w (((w.alloc (.cells #[.int .i64 p, .int .i64 n, .slice A ms.length c] 34)).alloc (.cells #[.int .i64 q, .int .i64 d, .slice B ts.length e] 38)).alloc (.cells #[.int .i64 0, .int .i64 0, .slice none 0 0] 38)) := bq2
    have hC3 := Kd.C_below hC hbW
    have hD3 := Kd.C_below hD hbW
    go_enter Tryz.func44, Tryz.ntmps44
    go_wp2_with ((go_at_call 50; (first | (with_reducible refine call_later2 (hK _ hC3 hD3) ?_) | (with_reducible refine call_later (hK _ hC3 hD3) ?_)); intro x1))
    have zz : w.heap.size + 1 + 1 < x1.W.heap.size := by have := x1.ok.size; simp at this; omega
    refine bodyPost_ret (v := .tuple #[.agg #[.int .i64 0, .int .i64 0, .slice none 0 0], .int .i64 2]) (by simp [results, Tryz.results44, go_sem]) rfl ?_
    exact MakesPC_nil _ _ _ _ bq2
end Go.Proofs.YtjhkeehfchkpaaaGreat
