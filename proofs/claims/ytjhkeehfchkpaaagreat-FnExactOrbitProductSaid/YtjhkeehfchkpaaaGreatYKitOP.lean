/- Walks of the functions on polynomials, numbers and rows, of both sides; no condition. -/
import Derived.Test.YtjhkeehfchkpaaaGreatYE1
import Derived.Test.YtjhkeehfchkpaaaGreatYKitO
/- PLAIN LAW: the last symmetric function of a list is the product of its polynomials; no condition. -/
set_option linter.unusedVariables false
set_option linter.unusedSimpArgs false
namespace Go.Proofs.YtjhkeehfchkpaaaGreat
open Go.RowKit Go.Proofs.YtjhkeehfchkpaaaGreatW.PrintWords
attribute [local go_sem] Later.cell Later.frozen Later.lt Later.lt_add Later.le Later.le_add Later.ne Later.ne' add_at
def prodL (p : Int) (ps : List PV) : List T4 := ps.foldl (fun acc x => mulL p acc x.ts) (oneL p)
theorem prodL_canon {p : Int} (hp : 2 ≤ p) (ps : List PV) : Canon p (prodL p ps) := by
  have key : ∀ (ps : List PV) (acc : List T4), Canon p acc → Canon p (ps.foldl (fun acc x => mulL p acc x.ts) acc) := by
    intro ps
    induction ps with
    | nil => exact fun acc h => h
    | cons t ps ih => exact fun acc _ => ih _ (mulL_canon hp _ _)
  exact key ps _ (oneL_canon hp)
theorem prodL_step {p : Int} {ps : List PV} {j : Nat} {a b : Int} {xt : List T4} (h : j < ps.length) (hx : ps.getD j zP = ⟨a, b, xt⟩) : prodL p (ps.take (j + 1)) = mulL p (prodL p (ps.take j)) xt := by
  have e : ps.getD j zP = ps[j] := by simp [List.getD_eq_getElem?_getD, h]
  rw [prodL, List.take_succ_eq_append_getElem h, List.foldl_append, ← e, hx]
  rfl
theorem prodL_degD {p : Int} {D : Nat} {ps : List PV} (hD : ∀ x ∈ ps, ∀ u ∈ x.ts, degE u.e ≤ (D : Int)) : ∀ u ∈ prodL p ps, degE u.e ≤ ((ps.length * D : Nat) : Int) := by
  have key : ∀ (ps : List PV), (∀ x ∈ ps, ∀ u ∈ x.ts, degE u.e ≤ (D : Int)) → ∀ (acc : List T4) (a : Nat), (∀ u ∈ acc, degE u.e ≤ (a : Int)) → ∀ u ∈ ps.foldl (fun acc x => mulL p acc x.ts) acc, degE u.e ≤ ((a + ps.length * D : Nat) : Int) := by
    intro ps
    induction ps with
    | nil => intro _ acc a h; simpa using h
    | cons x ps ih =>
      intro hD acc a h
      have h1 := mul_degD (p := p) h (hD x (by simp))
      have h2 := ih (fun y hy => hD y (by simp [hy])) _ _ h1
      have e : a + D + ps.length * D = a + (x :: ps).length * D := by rw [List.length_cons, Nat.succ_mul]; omega
      rw [e] at h2
      exact h2
  have h0 : ∀ u ∈ oneL p, degE u.e ≤ ((0 : Nat) : Int) := by
    intro u hu
    rcases putT_mem hu with h | h
    · rw [h]; decide
    · cases h
  have := key ps hD _ 0 h0
  simpa [prodL] using this
theorem puts_self {p : Int} (hp : 2 ≤ p) {ts : List T4} (h : Canon p ts) : putsT p [] (pairsT 1 ts) = ts := by
  refine canon_ext (putsT_canon hp _ (canon_nil p)) h fun e => ?_
  rw [putsT_coef hp e _ (canon_nil p), sumAt_sort h.1]
  have := canon_bd hp h e
  show (0 + coefL ts e) % p = _
  rw [Int.zero_add, Int.emod_eq_of_lt this.1 this.2]
theorem rowS_ne {p : Int} {n : Nat} {xt : List T4} {t : List PV} {j l : Nat} (h : l ≠ j) : (rowS p n xt t j).getD l zP = t.getD l zP := by
  rw [rowS, List.getD_eq_getElem?_getD, List.getElem?_set_ne (Ne.symm h), List.getD_eq_getElem?_getD]
theorem rowS_eq {p : Int} {n : Nat} {xt : List T4} {t : List PV} {j : Nat} (h : j < t.length) : (rowS p n xt t j).getD j zP = ⟨p, n, putsT p (t.getD j zP).ts (pairsT 1 (mulL p (t.getD (j - 1) zP).ts xt))⟩ := by
  rw [rowS, List.getD_eq_getElem?_getD, List.getElem?_set_self h]
  rfl
theorem rowS_len (p : Int) (n : Nat) (xt : List T4) (t : List PV) (j : Nat) : (rowS p n xt t j).length = t.length := by rw [rowS, List.length_set]
theorem symI_len (p : Int) (n : Nat) (xt : List T4) : ∀ (j : Nat) (t : List PV), (symI p n xt j t).length = t.length
  | 0, _ => rfl
  | j + 1, t => (symI_len p n xt j _).trans (rowS_len p n xt t (j + 1))
theorem symI_keep (p : Int) (n : Nat) (xt : List T4) {l : Nat} : ∀ (j : Nat) (t : List PV), j < l → (symI p n xt j t).getD l zP = t.getD l zP
  | 0, _, _ => rfl
  | j + 1, t, h => (symI_keep p n xt j _ (by omega)).trans (rowS_ne (by omega))
theorem symI_top {p : Int} (hp : 2 ≤ p) {n : Nat} {xt P : List T4} {i : Nat} : ∀ (j : Nat) (t : List PV), i < j → j < t.length → t.getD i zP = ⟨p, n, P⟩ → (∀ l, i < l → l ≤ j → t.getD l zP = ⟨p, n, []⟩) →
    (symI p n xt j t).getD (i + 1) zP = ⟨p, n, mulL p P xt⟩ ∧ ∀ l, i + 1 < l → l ≤ j → (symI p n xt j t).getD l zP = ⟨p, n, []⟩
  | 0, _, h, _, _, _ => absurd h (Nat.not_lt_zero _)
  | j + 1, t, h, hl, h1, h0 => by
    by_cases e : j = i
    · subst e
      refine ⟨?_, fun l hl1 hl2 => by omega⟩
      show (symI p n xt j (rowS p n xt t (j + 1))).getD (j + 1) zP = _
      rw [symI_keep p n xt j _ (Nat.lt_succ_self j), rowS_eq hl, h0 (j + 1) (by omega) (by omega), Nat.add_sub_cancel, h1]
      show (⟨p, n, putsT p [] (pairsT 1 (mulL p P xt))⟩ : PV) = _
      rw [puts_self hp (mulL_canon hp _ _)]
    · have hj : i < j := by omega
      have h2 := symI_top hp (xt := xt) (P := P) j (rowS p n xt t (j + 1)) hj (by rw [rowS_len]; omega) (by rw [rowS_ne (by omega)]; exact h1) (fun l hl1 hl2 => by rw [rowS_ne (by omega)]; exact h0 l hl1 (by omega))
      refine ⟨h2.1, fun l hl1 hl2 => ?_⟩
      by_cases e2 : l = j + 1
      · subst e2
        show (symI p n xt j (rowS p n xt t (j + 1))).getD (j + 1) zP = _
        rw [symI_keep p n xt j _ (Nat.lt_succ_self j), rowS_eq hl, h0 (j + 1) (by omega) (by omega), Nat.add_sub_cancel, h0 j hj (by omega)]
        rfl
      · exact h2.2 l hl1 (by omega)
theorem symF_len (p : Int) (n k : Nat) : ∀ (ps t : List PV), (symF p n k ps t).length = t.length
  | [], _ => rfl
  | x :: ps, t => (symF_len p n k ps _).trans (symI_len p n x.ts k t)
theorem symF_prod {p : Int} (hp : 2 ≤ p) {n : Nat} {os : List PV} : ∀ m, m ≤ os.length → (symF p n os.length (os.take m) (sym0 p n os.length)).getD m zP = ⟨p, n, prodL p (os.take m)⟩ ∧ ∀ l, m < l → l ≤ os.length → (symF p n os.length (os.take m) (sym0 p n os.length)).getD l zP = ⟨p, n, []⟩
  | 0, _ => by
    refine ⟨rfl, fun l h1 h2 => ?_⟩
    obtain ⟨i, rfl⟩ : ∃ i, l = i + 1 := ⟨l - 1, by omega⟩
    simp [symF, sym0, List.getD_eq_getElem?_getD, List.getElem?_replicate, show i < os.length by omega]
  | m + 1, h => by
    obtain ⟨h1, h0⟩ := symF_prod hp (n := n) (os := os) m (by omega)
    have hm : m < os.length := by omega
    have e : os.getD m zP = os[m] := by simp [List.getD_eq_getElem?_getD, hm]
    have es : symF p n os.length (os.take (m + 1)) (sym0 p n os.length) = symI p n (os.getD m zP).ts os.length (symF p n os.length (os.take m) (sym0 p n os.length)) := by
      rw [List.take_succ_eq_append_getElem hm, symF, List.foldl_append, ← e]
      rfl
    have ep : prodL p (os.take (m + 1)) = mulL p (prodL p (os.take m)) (os.getD m zP).ts := prodL_step hm rfl
    rw [es, ep]
    have hl : (symF p n os.length (os.take m) (sym0 p n os.length)).length = os.length + 1 := by rw [symF_len]; simp [sym0]
    exact symI_top hp os.length (symF p n os.length (os.take m) (sym0 p n os.length)) hm (by rw [hl]; omega) h1 h0
theorem sym_prod {p : Int} (hp : 2 ≤ p) (n : Nat) (os : List PV) : symL p n os.length os = prodL p os := by
  have h := (symF_prod hp (n := n) (os := os) os.length (Nat.le_refl _)).1
  rw [List.take_length] at h
  rw [symL, h]
end Go.Proofs.YtjhkeehfchkpaaaGreat
/- OrbitProduct of both sides; no condition. -/
set_option linter.unusedVariables false
set_option linter.unusedSimpArgs false
namespace Go.Proofs.YtjhkeehfchkpaaaGreat
open Go.RowKit Go.Proofs.YtjhkeehfchkpaaaGreatW.PrintWords
attribute [local go_sem] Later.cell Later.frozen Later.lt Later.lt_add Later.le Later.le_add Later.ne Later.ne' add_at
open Go.Proofs.YtjhkeehfchkpaaaGreatW.PrintLast
attribute [local go_sem 2000] run_eqM guardM
set_option maxRecDepth 100000 in
set_option maxHeartbeats 4000000 in
theorem specOrbitProduct_0 (p : Int) (n : Nat) (A : Option Addr) (c : Nat) (ms : List M9) (B : Option Addr) (e : Nat) (ts : List T4) (w : World) (hC : kM.C w A ms.length ms) (hD : kT.C w B ts.length ts) (hN : ms.length ≤ 48) (hts : Canon p ts) (hd : ∀ t ∈ ts, degE t.e ≤ 12) (hp : 2 ≤ p) (hp' : p ≤ 13) (h1 : 1 ≤ n) (h3 : n ≤ 3)
    (hK : ∀ W, kM.C W A ms.length ms → kT.C W B ts.length ts → Calls Tryz.prog 50 #[.agg #[.int .i64 p, .int .i64 n, .slice A ms.length c], .agg #[.int .i64 p, .int .i64 n, .slice B ts.length e]] W (Gives (.int .i64 0) W)) :
    Calls Tryz.prog 42 #[.agg #[.int .i64 p, .int .i64 n, .slice A ms.length c], .agg #[.int .i64 p, .int .i64 n, .slice B ts.length e]] w (MakesPC (toldR p n (orbV (imgV p n ms ts)).length ts (orbV (imgV p n ms ts))) 80 w) := by
  have hF := fun W h5 h6 => l03Orbit_c p n A c ms B e ts W h5 h6 hN hts hd hp hp' h1 h3
  have htl := deg_len hts.1 hd
  have hOL := likes_orb (img_likes (p := p) hp (n := n) h3 ms hd)
  have hOD := orb_degP (p := p) hp (n := n) h3 (ms := ms) hts.1
  have hLen : (orbV (imgV p n ms ts)).length ≤ 48 := by have h8 := orbV_len (imgV p n ms ts); rw [imgV_len] at h8; omega
  have hdT : degP ts ≤ 12 := degP_le (by omega) hd
  have hT := fun W L cl h5 h6 => l03Told_c p n B e ts L cl (orbV (imgV p n ms ts)) (orbV (imgV p n ms ts)).length rfl (orbV (imgV p n ms ts)).length W h5 h6 hLen hLen hp hp' hOL hts.1 hd hOD
  have hbW : Below w.heap.size w (((w.alloc (.cells #[.int .i64 p, .int .i64 n, .slice A ms.length c] 34)).alloc (.cells #[.int .i64 p, .int .i64 n, .slice B ts.length e] 38)).alloc (.cells #[.int .i64 0, .int .i64 0, .slice none 0 0] 38)) := bq2
  have hC3 := Kd.C_below hC hbW
  have hD3 := Kd.C_below hD hbW
  clear hts hd hOL hOD hdT
  generalize toldR p n (orbV (imgV p n ms ts)).length ts (orbV (imgV p n ms ts)) = r at *
  generalize orbV (imgV p n ms ts) = os at *
  go_enter Tryz.func42, Tryz.ntmps42
  go_wp2_with (first | (go_at_call 50; (first | (with_reducible refine call_later2 (hK _ hC3 hD3) ?_) | (with_reducible refine call_later (hK _ hC3 hD3) ?_)); intro x1); have hX : Below (((w.alloc (.cells #[.int .i64 p, .int .i64 n, .slice A ms.length c] 34)).alloc (.cells #[.int .i64 p, .int .i64 n, .slice B ts.length e] 38)).alloc (.cells #[.int .i64 0, .int .i64 0, .slice none 0 0] 38)).heap.size (((w.alloc (.cells #[.int .i64 p, .int .i64 n, .slice A ms.length c] 34)).alloc (.cells #[.int .i64 p, .int .i64 n, .slice B ts.length e] 38)).alloc (.cells #[.int .i64 0, .int .i64 0, .slice none 0 0] 38)) x1.W := bq2; obtain ⟨g0, g1, g2, f0, f1, f2, r0, r1, r2, r3⟩ := w3_cells hX; have hb2 : Below w.heap.size w x1.W := bq2; have zz2 : w.heap.size + 1 + 1 < x1.W.heap.size := (by have := x1.ok.size; simp at this; omega) | (go_at_call 73; (with_reducible refine Calls.mono (hF _ (Kd.C_below hC hb2) (Kd.C_below hD hb2)) ?_); rintro e' V ⟨v9, rfl, hR8, hb8⟩; obtain ⟨L8, c8, rfl, _, hC8⟩ := Kd.R_reads hR8; replace g0 := pw_cell_below hb8 g0; replace g1 := pw_cell_below hb8 g1; replace g2 := pw_cell_below hb8 g2; replace f0 := pw_cell_below hb8 f0; replace f1 := pw_cell_below hb8 f1; replace f2 := pw_cell_below hb8 f2; replace r0 := pw_cell_below hb8 r0; replace r1 := pw_cell_below hb8 r1; replace r2 := pw_cell_below hb8 r2; have r4 : ∀ j, V.frozen? ⟨w.heap.size + 1 + 1, j, none⟩ = false := (fun j => (hb8.frozen (p := ⟨w.heap.size + 1 + 1, j, none⟩) zz2).trans (r3 j)); have hbV : Below w.heap.size w V := hb2.trans (hb8.mono hb2.size); have zz3 : w.heap.size + 1 + 1 < V.heap.size := Nat.lt_of_lt_of_le zz2 hb8.size; have hwV := hbV.size; have hDV := Kd.C_below hD hbV) | (go_at_call 81; (with_reducible refine to_makesPC (V := V) (Below.refl _ _) (hT _ L8 c8 hDV hC8) ?_); intro w9 B9 c9 hb9 hb9' hl9 hR9; have hs9 := hb9.size; have z0 := pw_cell_below hb9 r0; have z1 := pw_cell_below hb9 r1; have z2 := pw_cell_below hb9 r2; have z3 := fun j => (hb9.frozen (p := ⟨w.heap.size + 1 + 1, j, none⟩) (by show w.heap.size + 1 + 1 < _; omega)).trans (r4 j); obtain ⟨V5, hV5, hb5, y0, y1, y2⟩ := poly_one w9 r.p r.d (.slice B9 r.ts.length c9) ⟨rfl, rfl⟩ 38; replace z0 := pw_cell_below hb5 z0; replace z1 := pw_cell_below hb5 z1; replace z2 := pw_cell_below hb5 z2; have z4 := fun j => (hb5.frozen (p := ⟨w.heap.size + 1 + 1, j, none⟩) (by show w.heap.size + 1 + 1 < _; omega)).trans (z3 j); have hs5 := hb5.size))
  refine bodyPost_ret (v := .tuple #[.agg #[.int .i64 r.p, .int .i64 r.d, .slice B9 r.ts.length c9], .int .i64 r.c]) (by simp [results, Tryz.results42, go_sem, z0, z1, z2, z4]) rfl ⟨B9, c9, rfl, ?_, ?_⟩
  · exact Kd.R_lower (R_set3 (Kd.R_mono (Kd.R_bound (Kd.R_below hR9 hb5)) (ok' := fun k => k ≠ w.heap.size + 1 + 1) (fun k hk => by have h7 : V.heap.size ≤ k := hk.2.1; show k ≠ w.heap.size + 1 + 1; omega)) (fun k hk => hk) (Nat.le_refl _) _ _ _) (by omega)
  · exact below_set3 (hbV.trans ((hb9.trans (hb5.mono hb9.size)).mono hbV.size)) (by omega) _ _ _
set_option maxRecDepth 100000 in
set_option maxHeartbeats 4000000 in
theorem implOrbitProduct_L (p : Int) (n : Nat) (A : Option Addr) (c : Nat) (ms : List M9) (B : Option Addr) (e : Nat) (ts : List T4) (w : World) (hC : kM.C w A ms.length ms) (hD : kT.C w B ts.length ts) (hN : ms.length ≤ 48) (hts : Canon p ts) (hd : ∀ t ∈ ts, degE t.e ≤ 12) (hp : 2 ≤ p) (hp' : p ≤ 13) (h1 : 1 ≤ n) (h3 : n ≤ 3) (hx : 12 < ((orbV (imgV p n ms ts)).length : Int) * max (degP ts) 0)
    (hK : ∀ W, kM.C W A ms.length ms → kT.C W B ts.length ts → Calls Tryz.prog 54 #[.agg #[.int .i64 p, .int .i64 n, .slice A ms.length c], .agg #[.int .i64 p, .int .i64 n, .slice B ts.length e]] W (Gives (.int .i64 0) W)) :
    Calls Tryz.prog 43 #[.agg #[.int .i64 p, .int .i64 n, .slice A ms.length c], .agg #[.int .i64 p, .int .i64 n, .slice B ts.length e]] w (MakesPC ⟨0, 0, [], 3⟩ 80 w) := by
  have hF := fun W h5 h6 => orbit_c p n A c ms B e ts W h5 h6 hN hts hd hp hp' h1 h3
  have htl := deg_len hts.1 hd
  have hOL := likes_orb (img_likes (p := p) hp (n := n) h3 ms hd)
  have hOD := orb_degP (p := p) hp (n := n) h3 (ms := ms) hts.1
  have hLen : (orbV (imgV p n ms ts)).length ≤ 48 := by have h8 := orbV_len (imgV p n ms ts); rw [imgV_len] at h8; omega
  have hdT : degP ts ≤ 12 := degP_le (by omega) hd
  have hmx : max (degP ts) 0 = degP ts := by
    rcases Int.le_total (degP ts) 0 with h8 | h8
    · rw [Int.max_eq_right h8] at hx
      omega
    · exact Int.max_eq_left h8
  rw [hmx] at hx
  have hkm : ((orbV (imgV p n ms ts)).length : Int) * degP ts ≤ 48 * 12 := Int.mul_le_mul (by omega) (by omega) (by omega) (by omega)
  have hw64 := i64_small (n := ((orbV (imgV p n ms ts)).length : Int) * degP ts) (by omega) (by omega)
  have hDg := fun W h => degreeP_c p n B e ts W h (by omega)
  have hbW : Below w.heap.size w (((w.alloc (.cells #[.int .i64 p, .int .i64 n, .slice A ms.length c] 34)).alloc (.cells #[.int .i64 p, .int .i64 n, .slice B ts.length e] 38)).alloc (.cells #[.int .i64 0, .int .i64 0, .slice none 0 0] 38)) := bq2
  have hC3 := Kd.C_below hC hbW
  have hD3 := Kd.C_below hD hbW
  clear hts hd hOL hOD hdT hmx
  generalize orbV (imgV p n ms ts) = os at *
  generalize degP ts = D at *
  go_enter Tryz.func43, Tryz.ntmps43
  go_wp2_with (first | (go_at_call 54; (first | (with_reducible refine call_later2 (hK _ hC3 hD3) ?_) | (with_reducible refine call_later (hK _ hC3 hD3) ?_)); intro x1); have hX : Below (((w.alloc (.cells #[.int .i64 p, .int .i64 n, .slice A ms.length c] 34)).alloc (.cells #[.int .i64 p, .int .i64 n, .slice B ts.length e] 38)).alloc (.cells #[.int .i64 0, .int .i64 0, .slice none 0 0] 38)).heap.size (((w.alloc (.cells #[.int .i64 p, .int .i64 n, .slice A ms.length c] 34)).alloc (.cells #[.int .i64 p, .int .i64 n, .slice B ts.length e] 38)).alloc (.cells #[.int .i64 0, .int .i64 0, .slice none 0 0] 38)) x1.W := bq2; obtain ⟨g0, g1, g2, f0, f1, f2, r0, r1, r2, r3⟩ := w3_cells hX; have hb2 : Below w.heap.size w x1.W := bq2; have zz2 : w.heap.size + 1 + 1 < x1.W.heap.size := (by have := x1.ok.size; simp at this; omega) | (go_at_call 75; (with_reducible refine Calls.mono (hF _ (Kd.C_below hC hb2) (Kd.C_below hD hb2)) ?_); rintro e' V ⟨v9, rfl, hR8, hb8⟩; obtain ⟨L8, c8, rfl, _, hC8⟩ := Kd.R_reads hR8; replace g0 := pw_cell_below hb8 g0; replace g1 := pw_cell_below hb8 g1; replace g2 := pw_cell_below hb8 g2; replace f0 := pw_cell_below hb8 f0; replace f1 := pw_cell_below hb8 f1; replace f2 := pw_cell_below hb8 f2; replace r0 := pw_cell_below hb8 r0; replace r1 := pw_cell_below hb8 r1; replace r2 := pw_cell_below hb8 r2; have r4 : ∀ j, V.frozen? ⟨w.heap.size + 1 + 1, j, none⟩ = false := (fun j => (hb8.frozen (p := ⟨w.heap.size + 1 + 1, j, none⟩) zz2).trans (r3 j)); have hbV : Below w.heap.size w V := hb2.trans (hb8.mono hb2.size); have zz3 : w.heap.size + 1 + 1 < V.heap.size := Nat.lt_of_lt_of_le zz2 hb8.size; have hwV := hbV.size; have hDV := Kd.C_below hD hbV) | (go_at_call 82; (with_reducible refine to_gives (V := V) (Below.refl _ _) (hDg _ hDV) ?_); intro V2 hb7 hb7'; replace g0 := pw_cell_below hb7 g0; replace g1 := pw_cell_below hb7 g1; replace g2 := pw_cell_below hb7 g2; replace f0 := pw_cell_below hb7 f0; replace f1 := pw_cell_below hb7 f1; replace f2 := pw_cell_below hb7 f2; replace r0 := pw_cell_below hb7 r0; replace r1 := pw_cell_below hb7 r1; replace r2 := pw_cell_below hb7 r2; replace hC8 := Kd.C_below hC8 hb7; replace hDV := Kd.C_below hDV hb7; have hs7 := hb7.size; have r5 : ∀ j, V2.frozen? ⟨w.heap.size + 1 + 1, j, none⟩ = false := (fun j => (hb7.frozen (p := ⟨w.heap.size + 1 + 1, j, none⟩) zz3).trans (r4 j)); have hbV2 : Below w.heap.size w V2 := hbV.trans (hb7.mono hbV.size); have zz4 : w.heap.size + 1 + 1 < V2.heap.size := Nat.lt_of_lt_of_le zz3 hs7))
  refine bodyPost_ret (v := .tuple #[.agg #[.int .i64 0, .int .i64 0, .slice none 0 0], .int .i64 3]) (by simp [results, Tryz.results43, go_sem, r0, r1, r2, r5]) rfl ?_
  exact MakesPC_nil _ _ _ _ bq2
set_option maxRecDepth 100000 in
set_option maxHeartbeats 4000000 in
theorem implOrbitProduct_0 (p : Int) (n : Nat) (A : Option Addr) (c : Nat) (ms : List M9) (B : Option Addr) (e : Nat) (ts : List T4) (w : World) (hC : kM.C w A ms.length ms) (hD : kT.C w B ts.length ts) (hN : ms.length ≤ 48) (hts : Canon p ts) (hd : ∀ t ∈ ts, degE t.e ≤ 12) (hp : 2 ≤ p) (hp' : p ≤ 13) (h1 : 1 ≤ n) (h3 : n ≤ 3) (hx : ¬ 12 < ((orbV (imgV p n ms ts)).length : Int) * max (degP ts) 0)
    (hK : ∀ W, kM.C W A ms.length ms → kT.C W B ts.length ts → Calls Tryz.prog 54 #[.agg #[.int .i64 p, .int .i64 n, .slice A ms.length c], .agg #[.int .i64 p, .int .i64 n, .slice B ts.length e]] W (Gives (.int .i64 0) W)) :
    Calls Tryz.prog 43 #[.agg #[.int .i64 p, .int .i64 n, .slice A ms.length c], .agg #[.int .i64 p, .int .i64 n, .slice B ts.length e]] w (MakesPC ⟨p, n, prodL p (orbV (imgV p n ms ts)), 0⟩ 80 w) := by
  have hF := fun W h5 h6 => orbit_c p n A c ms B e ts W h5 h6 hN hts hd hp hp' h1 h3
  have htl := deg_len hts.1 hd
  have hOL := likes_orb (img_likes (p := p) hp (n := n) h3 ms hd)
  have hOD := orb_degP (p := p) hp (n := n) h3 (ms := ms) hts.1
  have hLen : (orbV (imgV p n ms ts)).length ≤ 48 := by have h8 := orbV_len (imgV p n ms ts); rw [imgV_len] at h8; omega
  have hdT : degP ts ≤ 12 := degP_le (by omega) hd
  have hdn : -1 ≤ degP ts := by
    by_cases h : ts = []
    · subst h
      decide
    · have := degP_pos h
      omega
  have hkm1 : ((orbV (imgV p n ms ts)).length : Int) * degP ts ≤ ((orbV (imgV p n ms ts)).length : Int) * max (degP ts) 0 := Int.mul_le_mul_of_nonneg_left (by omega) (by omega)
  have hkm2 : ((orbV (imgV p n ms ts)).length : Int) * (-1) ≤ ((orbV (imgV p n ms ts)).length : Int) * degP ts := Int.mul_le_mul_of_nonneg_left hdn (by omega)
  have hnx : ¬ 12 < ((orbV (imgV p n ms ts)).length : Int) * degP ts := by omega
  have hw64 := i64_small (n := ((orbV (imgV p n ms ts)).length : Int) * degP ts) (by omega) (by omega)
  have hDg := fun W h => degreeP_c p n B e ts W h (by omega)
  have hDD := told_D (k := (orbV (imgV p n ms ts)).length) hOL hOD hx
  have hbW : Below w.heap.size w (((w.alloc (.cells #[.int .i64 p, .int .i64 n, .slice A ms.length c] 34)).alloc (.cells #[.int .i64 p, .int .i64 n, .slice B ts.length e] 38)).alloc (.cells #[.int .i64 0, .int .i64 0, .slice none 0 0] 38)) := bq2
  have hC3 := Kd.C_below hC hbW
  have hD3 := Kd.C_below hD hbW
  have hO : ∀ W, Calls Tryz.prog 83 #[.int .i64 p, .int .i64 n, .int .i64 1] W (MakesP p n 80 (oneL p) W) := fun W => constant_c p n 1 W hp hp' (by decide) (by decide)
  have HDD := Lib.hid hDD
  have HOL := Lib.hid hOL
  clear hts hd hOL hOD hdT hdn hkm1 hkm2 hx hDD
  generalize hDE : (max (degP ts) 0).toNat = E at *
  clear hDE
  generalize orbV (imgV p n ms ts) = os at *
  generalize degP ts = D at *
  go_enter Tryz.func43, Tryz.ntmps43
  go_wp2_with (first | (go_at_call 54; (first | (with_reducible refine call_later2 (hK _ hC3 hD3) ?_) | (with_reducible refine call_later (hK _ hC3 hD3) ?_)); intro x1); have hX : Below (((w.alloc (.cells #[.int .i64 p, .int .i64 n, .slice A ms.length c] 34)).alloc (.cells #[.int .i64 p, .int .i64 n, .slice B ts.length e] 38)).alloc (.cells #[.int .i64 0, .int .i64 0, .slice none 0 0] 38)).heap.size (((w.alloc (.cells #[.int .i64 p, .int .i64 n, .slice A ms.length c] 34)).alloc (.cells #[.int .i64 p, .int .i64 n, .slice B ts.length e] 38)).alloc (.cells #[.int .i64 0, .int .i64 0, .slice none 0 0] 38)) x1.W := bq2; obtain ⟨g0, g1, g2, f0, f1, f2, r0, r1, r2, r3⟩ := w3_cells hX; have hb2 : Below w.heap.size w x1.W := bq2; have zz2 : w.heap.size + 1 + 1 < x1.W.heap.size := (by have := x1.ok.size; simp at this; omega) | (go_at_call 75; (with_reducible refine Calls.mono (hF _ (Kd.C_below hC hb2) (Kd.C_below hD hb2)) ?_); rintro e' V ⟨v9, rfl, hR8, hb8⟩; obtain ⟨L8, c8, rfl, _, hC8⟩ := Kd.R_reads hR8; replace g0 := pw_cell_below hb8 g0; replace g1 := pw_cell_below hb8 g1; replace g2 := pw_cell_below hb8 g2; replace f0 := pw_cell_below hb8 f0; replace f1 := pw_cell_below hb8 f1; replace f2 := pw_cell_below hb8 f2; replace r0 := pw_cell_below hb8 r0; replace r1 := pw_cell_below hb8 r1; replace r2 := pw_cell_below hb8 r2; have r4 : ∀ j, V.frozen? ⟨w.heap.size + 1 + 1, j, none⟩ = false := (fun j => (hb8.frozen (p := ⟨w.heap.size + 1 + 1, j, none⟩) zz2).trans (r3 j)); have hbV : Below w.heap.size w V := hb2.trans (hb8.mono hb2.size); have zz3 : w.heap.size + 1 + 1 < V.heap.size := Nat.lt_of_lt_of_le zz2 hb8.size; have hwV := hbV.size; have hDV := Kd.C_below hD hbV) | (go_at_call 82; (with_reducible refine to_gives (V := V) (Below.refl _ _) (hDg _ hDV) ?_); intro V2 hb7 hb7'; replace g0 := pw_cell_below hb7 g0; replace g1 := pw_cell_below hb7 g1; replace g2 := pw_cell_below hb7 g2; replace f0 := pw_cell_below hb7 f0; replace f1 := pw_cell_below hb7 f1; replace f2 := pw_cell_below hb7 f2; replace r0 := pw_cell_below hb7 r0; replace r1 := pw_cell_below hb7 r1; replace r2 := pw_cell_below hb7 r2; replace hC8 := Kd.C_below hC8 hb7; replace hDV := Kd.C_below hDV hb7; have hs7 := hb7.size; have r5 : ∀ j, V2.frozen? ⟨w.heap.size + 1 + 1, j, none⟩ = false := (fun j => (hb7.frozen (p := ⟨w.heap.size + 1 + 1, j, none⟩) zz3).trans (r4 j)); have hbV2 : Below w.heap.size w V2 := hbV.trans (hb7.mono hbV.size); have zz4 : w.heap.size + 1 + 1 < V2.heap.size := Nat.lt_of_lt_of_le zz3 hs7) | (go_at_call 83; (with_reducible refine to_makesP (V := V2) (Below.refl _ _) (hO _) ?_); intro w8 B8 c9 hb9 hb9' hl9 hR9))
  have hs9 := hb9.size
  have hS0 := Box3.behind (T := 38) (p := p) (n := n) (Nat.le_refl _) hs9 hR9
  have hbS := hb9.alloc hs9 (.cells #[.int .i64 p, .int .i64 n, .slice B8 (oneL p).length c9] 38)
  have hw2 := hbV2.size
  change Box3 _ _ _ p n B8 c9 (prodL p (os.take 0)) at hS0
  clear hb9 hb9' hR9 hR8 hb8 hb7 hb7' hC3 hD3 hX hF hDg hO g0 g1 g2 f2 r3 r4 hbW hb2 zz2
  clear x1
  generalize w8.alloc (.cells #[.int .i64 p, .int .i64 n, .slice B8 (oneL p).length c9] 38) = V3 at *
  generalize hob : w8.heap.size = ob at *
  generalize hrb : w.heap.size + 1 + 1 = rb at *
  generalize hfb : w.heap.size + 1 = fb at *
  have hobV : V2.heap.size ≤ ob := hs9
  go_loopg [35] os.length (fun gk v35 w' => ∃ (j : Nat) (C : Option Addr) (cc : Nat), j + gk = os.length ∧ v35 = .int .i64 j ∧ Below V2.heap.size V2 w' ∧ Box3 w' V2.heap.size ob p n C cc (prodL p (os.take j)))
  case atStart => exact ⟨0, B8, c9, by omega, rfl, hbS, hS0⟩
  case round =>
    clear hS0 hbS
    obtain ⟨j, C, cc, hjk, rfl, hb, hS⟩ := hrel
    have HJK := Lib.hid hjk
    clear hjk
    by_cases hj : j < os.length
    · obtain ⟨xt, hx, hxc, hxd⟩ := likes_at HOL.out hj
      obtain ⟨b2, o2, A2, c2, hB, p0, p1, p2, hDx⟩ := kP_see hC8 hj hx
      subst hB
      have p0 := pw_cell_below hb p0
      have p1 := pw_cell_below hb p1
      have p2 := pw_cell_below hb p2
      have hDx := Kd.C_below hDx hb
      have hi0 : (0 : Int) ≤ j := by omega
      have hi1 : (j : Int) < os.length := by omega
      have hin : ((j : Int)).toNat = j := by omega
      have hxl := deg_len hxc.1 hxd
      have hpc := prodL_canon (p := p) hp (os.take j)
      have hpd := prodL_degD (p := p) (ps := os.take j) (fun x hx u hu => HDD.out.1 x (List.mem_of_mem_take hx) u hu)
      have hlt : (os.take j).length * E ≤ 12 := Nat.le_trans (Nat.mul_le_mul_right E (by rw [List.length_take]; omega)) HDD.out.2
      have hpl := deg_len hpc.1 (fun u hu => by have := hpd u hu; omega)
      have hM := fun W h h' => mul_c p n p n C A2 cc c2 (prodL p (os.take j)) xt W h h' (Nat.le_trans (Nat.mul_le_mul hpl hxl) (by omega)) (by omega) (by omega) hp hp' (prod_bd hp' hpc hxc)
      have HT := Lib.hid (prodL_step (p := p) hj hx)
      clear hx hxc hxd hpc hpd hlt
      generalize prodL p (os.take j) = acc at *
      obtain ⟨V4, hV4, hb4, y0, y1, y2⟩ := poly_one wr p n (.slice A2 xt.length c2) ⟨rfl, rfl⟩ 38
      have hS4 := hS.below hb4
      have o0 := hS4.o0
      have o1 := hS4.o1
      have o2 := hS4.o2
      have hCa := (Kd.R_reads' hS4.R).2.2
      have hDx4 := Kd.C_below hDx hb4
      have hs4 := hb4.size
      have hbs := hb.size
      have hb5 := hb.trans (hb4.mono hb.size)
      have HS4 := Lib.hid hS4
      clear hS hS4
      go_wp2_with (go_at_call 84; (with_reducible refine to_makesP (V := V4) (Below.refl _ _) (hM _ hCa hDx4) ?_); intro w9 B9 c10 hb9 hb9' hl9 hR9; have z0 := (HS4.out.below hb9).o0; have z1 := (HS4.out.below hb9).o1; have z2 := (HS4.out.below hb9).o2; have z3 := (HS4.out.below hb9).o3)
      have hT := HS4.out.setN (p' := p) (n' := n) hb9 (by omega) hR9
      go_roundg (gk - 1)
      case measure => have := HJK.out; omega
      case rel =>
        refine ⟨j + 1, B9, c10, ?_, ?_, ?_, ?_⟩
        · have := HJK.out; omega
        · go_num
        · exact below_set3 (hb5.trans (hb9.mono hb5.size)) hobV _ _ _
        · rw [HT.out]; exact hT
    · have hje : os.length = j := by have := HJK.out; omega
      subst hje
      rw [List.take_length] at hS
      have o0 := hS.o0
      have o1 := hS.o1
      have o2 := hS.o2
      have z0 := pw_cell_below hb r0
      have z1 := pw_cell_below hb r1
      have z2 := pw_cell_below hb r2
      have z3 := fun j => (hb.frozen (p := ⟨rb, j, none⟩) zz4).trans (r5 j)
      have hSR := hS.R
      clear hS
      generalize prodL p os = pr at *
      go_wp2
      refine bodyPost_ret (v := .tuple #[.agg #[.int .i64 p, .int .i64 n, .slice C pr.length cc], .int .i64 0]) (by simp [results, Tryz.results43, go_sem, z0, z1, z2, z3]) rfl ⟨C, cc, rfl, ?_, ?_⟩
      · exact Kd.R_lower (R_set3 (Kd.R_mono (Kd.R_bound hSR) (ok' := fun k => k ≠ rb) (fun k hk => by have h7 : V2.heap.size ≤ k := hk.2.1; show k ≠ rb; omega)) (fun k hk => hk) (Nat.le_refl _) _ _ _) (by omega)
      · exact below_set3 (hbV2.trans (hb.mono hw2)) (by omega) _ _ _
def opR (p n : Int) (ms : List M9) (q d : Int) (ts : List T4) : PC := if codeF p n ms q d ts = 0 then toldR p n.toNat (orbV (imgV p n.toNat ms ts)).length ts (orbV (imgV p n.toNat ms ts)) else ⟨0, 0, [], codeF p n ms q d ts⟩
theorem opR_0 {p n : Int} {ms : List M9} {q d : Int} {ts : List T4} (h : codeF p n ms q d ts = 0) : opR p n ms q d ts = toldR p n.toNat (orbV (imgV p n.toNat ms ts)).length ts (orbV (imgV p n.toNat ms ts)) := by
  unfold opR
  rw [if_pos h]
theorem opR_1 {p n : Int} {ms : List M9} {q d : Int} {ts : List T4} {k : Int} (h : codeF p n ms q d ts = k) (hk : k ≠ 0) : opR p n ms q d ts = ⟨0, 0, [], k⟩ := by
  unfold opR
  rw [h, if_neg hk]
theorem opR_len (p n : Int) (ms : List M9) (q d : Int) (ts : List T4) : (opR p n ms q d ts).ts.length ≤ 1048576 := by
  by_cases h : codeF p n ms q d ts = 0
  · rw [opR_0 h]
    obtain ⟨_, _, hp, _, _, h3, _, hcan, hd⟩ := codeF_nums h
    exact told_len hp (likes_orb (img_likes (p := p) hp (n := n.toNat) (by omega) ms hd)) (orb_degP (p := p) hp (by omega) hcan.1)
  · rw [opR_1 rfl h]; simp
set_option maxRecDepth 100000 in
set_option maxHeartbeats 4000000 in
theorem implOrbitProduct_c (p n : Int) (A : Option Addr) (c : Nat) (ms : List M9) (q d : Int) (B : Option Addr) (e : Nat) (ts : List T4) (w : World) (hC : kM.C w A ms.length ms) (hD : kT.C w B ts.length ts) (hN : ms.length ≤ 9223372036854775807) (hM : ts.length ≤ 9223372036854775807) :
    Calls Tryz.prog 43 #[.agg #[.int .i64 p, .int .i64 n, .slice A ms.length c], .agg #[.int .i64 q, .int .i64 d, .slice B ts.length e]] w (MakesPC (opR p n ms q d ts) 80 w) := by
  have hK := fun W h h' => actionCode_c p n A c ms q d B e ts W h h' hN hM
  rcases codeF_three p n ms q d ts with h0 | h0 | h0
  · rw [h0] at hK
    obtain ⟨hq, hdn, hp, hp', h1, h3, hl, hcan, hdg⟩ := codeF_nums h0
    obtain ⟨m, hm⟩ := Int.eq_ofNat_of_zero_le (show 0 ≤ n by omega)
    rw [hm] at hdn
    subst hq
    subst hdn
    subst hm
    rw [opR_0 h0]
    show Calls _ _ _ _ (MakesPC (toldR _ m (orbV (imgV _ m ms ts)).length ts (orbV (imgV _ m ms ts))) _ _)
    by_cases hx : 12 < ((orbV (imgV q m ms ts)).length : Int) * max (degP ts) 0
    · rw [told_pos hx]
      exact implOrbitProduct_L _ m A c ms B e ts w hC hD hl hcan hdg hp hp' (by omega) (by omega) hx hK
    · rw [told_neg hx, sym_prod hp]
      exact implOrbitProduct_0 _ m A c ms B e ts w hC hD hl hcan hdg hp hp' (by omega) (by omega) hx hK
  · rw [opR_1 h0 (by decide)]
    rw [h0] at hK
    clear h0
    have hbW : Below w.heap.size w (((w.alloc (.cells #[.int .i64 p, .int .i64 n, .slice A ms.length c] 34)).alloc (.cells #[.int .i64 q, .int .i64 d, .slice B ts.length e] 38)).alloc (.cells #[.int .i64 0, .int .i64 0, .slice none 0 0] 38)) := bq2
    have hC3 := Kd.C_below hC hbW
    have hD3 := Kd.C_below hD hbW
    go_enter Tryz.func43, Tryz.ntmps43
    go_wp2_with ((go_at_call 54; (first | (with_reducible refine call_later2 (hK _ hC3 hD3) ?_) | (with_reducible refine call_later (hK _ hC3 hD3) ?_)); intro x1))
    have zz : w.heap.size + 1 + 1 < x1.W.heap.size := by have := x1.ok.size; simp at this; omega
    refine bodyPost_ret (v := .tuple #[.agg #[.int .i64 0, .int .i64 0, .slice none 0 0], .int .i64 1]) (by simp [results, Tryz.results43, go_sem]) rfl ?_
    exact MakesPC_nil _ _ _ _ bq2
  · rw [opR_1 h0 (by decide)]
    rw [h0] at hK
    clear h0
    have hbW : Below w.heap.size w (((w.alloc (.cells #[.int .i64 p, .int .i64 n, .slice A ms.length c] 34)).alloc (.cells #[.int .i64 q, .int .i64 d, .slice B ts.length e] 38)).alloc (.cells #[.int .i64 0, .int .i64 0, .slice none 0 0] 38)) := bq2
    have hC3 := Kd.C_below hC hbW
    have hD3 := Kd.C_below hD hbW
    go_enter Tryz.func43, Tryz.ntmps43
    go_wp2_with ((go_at_call 54; (first | (with_reducible refine call_later2 (hK _ hC3 hD3) ?_) | (with_reducible refine call_later (hK _ hC3 hD3) ?_)); intro x1))
    have zz : w.heap.size + 1 + 1 < x1.W.heap.size := by have := x1.ok.size; simp at this; omega
    refine bodyPost_ret (v := .tuple #[.agg #[.int .i64 0, .int .i64 0, .slice none 0 0], .int .i64 2]) (by simp [results, Tryz.results43, go_sem]) rfl ?_
    exact MakesPC_nil _ _ _ _ bq2
set_option maxRecDepth 100000 in
set_option maxHeartbeats 4000000 in
theorem specOrbitProduct_c (p n : Int) (A : Option Addr) (c : Nat) (ms : List M9) (q d : Int) (B : Option Addr) (e : Nat) (ts : List T4) (w : World) (hC : kM.C w A ms.length ms) (hD : kT.C w B ts.length ts) (hN : ms.length ≤ 9223372036854775807) (hM : ts.length ≤ 9223372036854775807) :
    Calls Tryz.prog 42 #[.agg #[.int .i64 p, .int .i64 n, .slice A ms.length c], .agg #[.int .i64 q, .int .i64 d, .slice B ts.length e]] w (MakesPC (opR p n ms q d ts) 80 w) := by
  have hK := fun W h h' => l03Code_c p n A c ms q d B e ts W h h' hN hM
  rcases codeF_three p n ms q d ts with h0 | h0 | h0
  · rw [h0] at hK
    obtain ⟨hq, hdn, hp, hp', h1, h3, hl, hcan, hdg⟩ := codeF_nums h0
    obtain ⟨m, hm⟩ := Int.eq_ofNat_of_zero_le (show 0 ≤ n by omega)
    rw [hm] at hdn
    subst hq
    subst hdn
    subst hm
    rw [opR_0 h0]
    exact specOrbitProduct_0 _ m A c ms B e ts w hC hD hl hcan hdg hp hp' (by omega) (by omega) hK
  · rw [opR_1 h0 (by decide)]
    rw [h0] at hK
    clear h0
    have hbW : Below w.heap.size w (((w.alloc (.cells #[.int .i64 p, .int .i64 n, .slice A ms.length c] 34)).alloc (.cells #[.int .i64 q, .int .i64 d, .slice B ts.length e] 38)).alloc (.cells #[.int .i64 0, .int .i64 0, .slice none 0 0] 38)) := bq2
    have hC3 := Kd.C_below hC hbW
    have hD3 := Kd.C_below hD hbW
    go_enter Tryz.func42, Tryz.ntmps42
    go_wp2_with ((go_at_call 50; (first | (with_reducible refine call_later2 (hK _ hC3 hD3) ?_) | (with_reducible refine call_later (hK _ hC3 hD3) ?_)); intro x1))
    have zz : w.heap.size + 1 + 1 < x1.W.heap.size := by have := x1.ok.size; simp at this; omega
    refine bodyPost_ret (v := .tuple #[.agg #[.int .i64 0, .int .i64 0, .slice none 0 0], .int .i64 1]) (by simp [results, Tryz.results42, go_sem]) rfl ?_
    exact MakesPC_nil _ _ _ _ bq2
  · rw [opR_1 h0 (by decide)]
    rw [h0] at hK
    clear h0
    have hbW : Below w.heap.size w (((w.alloc (.cells #[.int .i64 p, .int .i64 n, .slice A ms.length c] 34)).alloc (.cells #[.int .i64 q, .int .i64 d, .slice B ts.length e] 38)).alloc (.cells #[.int .i64 0, .int .i64 0, .slice none 0 0] 38)) := bq2
    have hC3 := Kd.C_below hC hbW
    have hD3 := Kd.C_below hD hbW
    go_enter Tryz.func42, Tryz.ntmps42
    go_wp2_with ((go_at_call 50; (first | (with_reducible refine call_later2 (hK _ hC3 hD3) ?_) | (with_reducible refine call_later (hK _ hC3 hD3) ?_)); intro x1))
    have zz : w.heap.size + 1 + 1 < x1.W.heap.size := by have := x1.ok.size; simp at this; omega
    refine bodyPost_ret (v := .tuple #[.agg #[.int .i64 0, .int .i64 0, .slice none 0 0], .int .i64 2]) (by simp [results, Tryz.results42, go_sem]) rfl ?_
    exact MakesPC_nil _ _ _ _ bq2
end Go.Proofs.YtjhkeehfchkpaaaGreat
