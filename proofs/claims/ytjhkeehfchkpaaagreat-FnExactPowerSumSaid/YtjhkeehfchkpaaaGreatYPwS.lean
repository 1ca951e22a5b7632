/- PowerSum of both sides; no condition. -/
import Derived.Test.YtjhkeehfchkpaaaGreatYE1
import Derived.Test.YtjhkeehfchkpaaaGreatYOrb3
import Derived.Test.YtjhkeehfchkpaaaGreatYLawKit2
import Derived.Test.YtjhkeehfchkpaaaGreatYPowW2
set_option linter.unusedVariables false
set_option linter.unusedSimpArgs false
namespace Go.Proofs.YtjhkeehfchkpaaaGreat
open Go.RowKit Go.Proofs.YtjhkeehfchkpaaaGreatW.PrintWords
attribute [local go_sem] Later.cell Later.frozen Later.lt Later.lt_add Later.le Later.le_add Later.ne Later.ne' add_at
open Go.Proofs.YtjhkeehfchkpaaaGreatW.PrintLast
attribute [local go_sem 2000] run_eqM guardM
def pwV (p : Int) (n : Nat) (k : Nat) (os : List PV) : List PV := os.map fun x => ⟨p, n, powL p x.ts k⟩
theorem pwV_len (p : Int) (n k : Nat) (os : List PV) : (pwV p n k os).length = os.length := by simp [pwV]
theorem pwV_take {p : Int} {n k : Nat} {os : List PV} {j : Nat} {xt : List T4} (h : j < os.length) (hx : os.getD j zP = ⟨p, n, xt⟩) : (pwV p n k os).take (j + 1) = (pwV p n k os).take j ++ [⟨p, n, powL p xt k⟩] := by
  have e : os.getD j zP = os[j] := by simp [List.getD_eq_getElem?_getD, h]
  rw [List.take_succ_eq_append_getElem (by rw [pwV_len]; exact h)]
  rw [hx] at e
  simp [pwV, ← e]
theorem pwV_mix {p : Int} {n k : Nat} {os : List PV} {j : Nat} {xt : List T4} (h : j < os.length) (hx : os.getD j zP = ⟨p, n, xt⟩) : ((pwV p n k os).take j ++ os.drop j).set j ⟨p, n, powL p xt k⟩ = (pwV p n k os).take (j + 1) ++ os.drop (j + 1) := by
  have hl : ((pwV p n k os).take j).length = j := by rw [List.length_take, pwV_len]; omega
  rw [List.set_append_right _ _ (by omega), hl, Nat.sub_self, List.drop_eq_getElem_cons h, List.set_cons_zero, pwV_take h hx, List.append_assoc]
  rfl
theorem pwV_get {p : Int} {n k : Nat} {os : List PV} {j : Nat} (h : j < os.length) : ((pwV p n k os).take j ++ os.drop j).getD j zP = os.getD j zP := by
  have hl : ((pwV p n k os).take j).length = j := by rw [List.length_take, pwV_len]; omega
  rw [List.getD_eq_getElem?_getD, List.getElem?_append_right (by omega), hl, Nat.sub_self, List.getElem?_drop, List.getD_eq_getElem?_getD]
  rfl
theorem pow_le {k : Nat} {a b : Int} (h : a ≤ b) (hk : (k : Int) * max b 0 ≤ 12) : (k : Int) * max a 0 ≤ 12 := by
  have h1 : (k : Int) * max a 0 ≤ (k : Int) * max b 0 := Int.mul_le_mul_of_nonneg_left (by omega) (by omega)
  omega
theorem pwV_likes {p : Int} (hp : 2 ≤ p) {n k : Nat} {os : List PV} (h : Likes p n os) {D : Int} (hD : ∀ x ∈ os, degP x.ts ≤ D) (hk : (k : Int) * max D 0 ≤ 12) : Likes p n (pwV p n k os) := by
  refine ⟨?_, ?_, ?_, ?_⟩
  · intro x hx
    obtain ⟨m, _, rfl⟩ := List.mem_map.1 hx
    rfl
  · intro x hx
    obtain ⟨m, _, rfl⟩ := List.mem_map.1 hx
    rfl
  · intro x hx
    obtain ⟨m, _, rfl⟩ := List.mem_map.1 hx
    exact powL_canon hp m.ts k
  · intro x hx t ht
    obtain ⟨m, hm, rfl⟩ := List.mem_map.1 hx
    have h1 := degP_mem (powL_canon hp m.ts k).1 ht
    have h2 := pow_degs hp (h.can m hm) (pow_le (hD m hm) hk) (Nat.le_refl k)
    omega
def psL (p : Int) (n k : Nat) (ms : List M9) (ts : List T4) : List T4 := addL p (pwV p n k (orbV (imgV p n ms ts)))
set_option maxRecDepth 100000 in
set_option maxHeartbeats 4000000 in
theorem implPowerSum_0 (p : Int) (n : Nat) (A : Option Addr) (c : Nat) (ms : List M9) (B : Option Addr) (e : Nat) (ts : List T4) (k : Nat) (w : World) (hC : kM.C w A ms.length ms) (hD : kT.C w B ts.length ts) (hN : ms.length ≤ 48) (hts : Canon p ts) (hd : ∀ t ∈ ts, degE t.e ≤ 12) (hp : 2 ≤ p) (hp' : p ≤ 13) (h1 : 1 ≤ n) (h3 : n ≤ 3) (hk1 : 1 ≤ k) (hk2 : k ≤ 12) (hkd : (k : Int) * max (degP ts) 0 ≤ 12)
    (hK : ∀ W, kM.C W A ms.length ms → kT.C W B ts.length ts → Calls Tryz.prog 54 #[.agg #[.int .i64 p, .int .i64 n, .slice A ms.length c], .agg #[.int .i64 p, .int .i64 n, .slice B ts.length e]] W (Gives (.int .i64 0) W)) :
    Calls Tryz.prog 47 #[.agg #[.int .i64 p, .int .i64 n, .slice A ms.length c], .agg #[.int .i64 p, .int .i64 n, .slice B ts.length e], .int .i64 (k : Int)] w (MakesPC ⟨p, n, psL p n k ms ts, 0⟩ 80 w) := by
  have hF := fun W h5 h6 => orbit_c p n A c ms B e ts W h5 h6 hN hts hd hp hp' h1 h3
  have htl := deg_len hts.1 hd
  have hDg := fun W h => degreeP_c p n B e ts W h (by omega)
  have hOL := likes_orb (img_likes (p := p) hp (n := n) h3 ms hd)
  have hOD := orb_degP (p := p) hp (n := n) h3 (ms := ms) hts.1
  have hLen : (orbV (imgV p n ms ts)).length ≤ 48 := by have h8 := orbV_len (imgV p n ms ts); rw [imgV_len] at h8; omega
  have hPL := pwV_likes hp (k := k) hOL hOD hkd
  have hU := fun W L cl m h4 h5 h6 => addUp_c p n B e ts L cl (pwV p n k (orbV (imgV p n ms ts))) m h4 W h5 h6 hp hp' hPL
  have hdm : (k : Int) * degP ts ≤ 12 := by
    have : (k : Int) * degP ts ≤ (k : Int) * max (degP ts) 0 := Int.mul_le_mul_of_nonneg_left (by omega) (by omega)
    omega
  have hdn : -12 ≤ (k : Int) * degP ts := by
    have h0 : -1 ≤ degP ts := by
      by_cases h : ts = []
      · subst h
        decide
      · have := degP_pos h
        omega
    have : (k : Int) * (-1) ≤ (k : Int) * degP ts := Int.mul_le_mul_of_nonneg_left h0 (by omega)
    omega
  have hw64 := i64_small (n := (k : Int) * degP ts) (by omega) (by omega)
  unfold psL
  have hbW : Below w.heap.size w (((w.alloc (.cells #[.int .i64 p, .int .i64 n, .slice A ms.length c] 34)).alloc (.cells #[.int .i64 p, .int .i64 n, .slice B ts.length e] 38)).alloc (.cells #[.int .i64 0, .int .i64 0, .slice none 0 0] 38)) := bq2
  have hC3 := Kd.C_below hC hbW
  have hD3 := Kd.C_below hD hbW
  have HPW := Lib.hid (fun (x : PV) (hx : x ∈ orbV (imgV p n ms ts)) => pow_le (k := k) (hOD x hx) hkd)
  have HOL := Lib.hid hOL
  clear hts hd hOD hkd hPL hOL
  generalize orbV (imgV p n ms ts) = os at *
  have hk0 : ¬ (k : Int) < 1 := by omega
  have hk12 : ¬ (12 : Int) < k := by omega
  have hd12 : ¬ (12 : Int) < (k : Int) * degP ts := by omega
  generalize degP ts = D at *
  go_enter Tryz.func47, Tryz.ntmps47
  go_wp2_with (first | ((go_at_call 54; (first | (with_reducible refine call_later2 (hK _ hC3 hD3) ?_) | (with_reducible refine call_later (hK _ hC3 hD3) ?_)); intro x1); have hX : Below (((w.alloc (.cells #[.int .i64 p, .int .i64 n, .slice A ms.length c] 34)).alloc (.cells #[.int .i64 p, .int .i64 n, .slice B ts.length e] 38)).alloc (.cells #[.int .i64 0, .int .i64 0, .slice none 0 0] 38)).heap.size (((w.alloc (.cells #[.int .i64 p, .int .i64 n, .slice A ms.length c] 34)).alloc (.cells #[.int .i64 p, .int .i64 n, .slice B ts.length e] 38)).alloc (.cells #[.int .i64 0, .int .i64 0, .slice none 0 0] 38)) x1.W := bq2; have g0 := pw_cell_below hX (show (((w.alloc (.cells #[.int .i64 p, .int .i64 n, .slice A ms.length c] 34)).alloc (.cells #[.int .i64 p, .int .i64 n, .slice B ts.length e] 38)).alloc (.cells #[.int .i64 0, .int .i64 0, .slice none 0 0] 38)).cell? ⟨w.heap.size, 0, none⟩ = some (.int .i64 p) from bq5); have g1 := pw_cell_below hX (show (((w.alloc (.cells #[.int .i64 p, .int .i64 n, .slice A ms.length c] 34)).alloc (.cells #[.int .i64 p, .int .i64 n, .slice B ts.length e] 38)).alloc (.cells #[.int .i64 0, .int .i64 0, .slice none 0 0] 38)).cell? ⟨w.heap.size, 1, none⟩ = some (.int .i64 n) from bq5); have g2 := pw_cell_below hX (show (((w.alloc (.cells #[.int .i64 p, .int .i64 n, .slice A ms.length c] 34)).alloc (.cells #[.int .i64 p, .int .i64 n, .slice B ts.length e] 38)).alloc (.cells #[.int .i64 0, .int .i64 0, .slice none 0 0] 38)).cell? ⟨w.heap.size, 2, none⟩ = some (.slice A ms.length c) from bq5); have f0 := pw_cell_below hX (show (((w.alloc (.cells #[.int .i64 p, .int .i64 n, .slice A ms.length c] 34)).alloc (.cells #[.int .i64 p, .int .i64 n, .slice B ts.length e] 38)).alloc (.cells #[.int .i64 0, .int .i64 0, .slice none 0 0] 38)).cell? ⟨w.heap.size + 1, 0, none⟩ = some (.int .i64 p) from bq5); have f1 := pw_cell_below hX (show (((w.alloc (.cells #[.int .i64 p, .int .i64 n, .slice A ms.length c] 34)).alloc (.cells #[.int .i64 p, .int .i64 n, .slice B ts.length e] 38)).alloc (.cells #[.int .i64 0, .int .i64 0, .slice none 0 0] 38)).cell? ⟨w.heap.size + 1, 1, none⟩ = some (.int .i64 n) from bq5); have f2 := pw_cell_below hX (show (((w.alloc (.cells #[.int .i64 p, .int .i64 n, .slice A ms.length c] 34)).alloc (.cells #[.int .i64 p, .int .i64 n, .slice B ts.length e] 38)).alloc (.cells #[.int .i64 0, .int .i64 0, .slice none 0 0] 38)).cell? ⟨w.heap.size + 1, 2, none⟩ = some (.slice B ts.length e) from bq5); have r0 := pw_cell_below hX (show (((w.alloc (.cells #[.int .i64 p, .int .i64 n, .slice A ms.length c] 34)).alloc (.cells #[.int .i64 p, .int .i64 n, .slice B ts.length e] 38)).alloc (.cells #[.int .i64 0, .int .i64 0, .slice none 0 0] 38)).cell? ⟨w.heap.size + 1 + 1, 0, none⟩ = some (.int .i64 0) from bq5); have r1 := pw_cell_below hX (show (((w.alloc (.cells #[.int .i64 p, .int .i64 n, .slice A ms.length c] 34)).alloc (.cells #[.int .i64 p, .int .i64 n, .slice B ts.length e] 38)).alloc (.cells #[.int .i64 0, .int .i64 0, .slice none 0 0] 38)).cell? ⟨w.heap.size + 1 + 1, 1, none⟩ = some (.int .i64 0) from bq5); have r2 := pw_cell_below hX (show (((w.alloc (.cells #[.int .i64 p, .int .i64 n, .slice A ms.length c] 34)).alloc (.cells #[.int .i64 p, .int .i64 n, .slice B ts.length e] 38)).alloc (.cells #[.int .i64 0, .int .i64 0, .slice none 0 0] 38)).cell? ⟨w.heap.size + 1 + 1, 2, none⟩ = some (.slice none 0 0) from bq5); have r3 : ∀ j, x1.W.frozen? ⟨w.heap.size + 1 + 1, j, none⟩ = false := (fun j => (hX.frozen (p := ⟨w.heap.size + 1 + 1, j, none⟩) (by show w.heap.size + 1 + 1 < (((w.alloc (.cells #[.int .i64 p, .int .i64 n, .slice A ms.length c] 34)).alloc (.cells #[.int .i64 p, .int .i64 n, .slice B ts.length e] 38)).alloc (.cells #[.int .i64 0, .int .i64 0, .slice none 0 0] 38)).heap.size; simp)).trans (show (((w.alloc (.cells #[.int .i64 p, .int .i64 n, .slice A ms.length c] 34)).alloc (.cells #[.int .i64 p, .int .i64 n, .slice B ts.length e] 38)).alloc (.cells #[.int .i64 0, .int .i64 0, .slice none 0 0] 38)).frozen? ⟨w.heap.size + 1 + 1, j, none⟩ = false from bq5)); have hb2 : Below w.heap.size w x1.W := bq2; have zz2 : w.heap.size + 1 + 1 < x1.W.heap.size := (by have := x1.ok.size; simp at this; omega)) | (go_at_call 82; (with_reducible refine to_gives (V := x1.W) (Below.refl _ _) (hDg _ (Kd.C_below hD hb2)) ?_); intro U hb4 hb4'; replace g0 := pw_cell_below hb4 g0; replace g1 := pw_cell_below hb4 g1; replace g2 := pw_cell_below hb4 g2; replace f0 := pw_cell_below hb4 f0; replace f1 := pw_cell_below hb4 f1; replace f2 := pw_cell_below hb4 f2; replace r0 := pw_cell_below hb4 r0; replace r1 := pw_cell_below hb4 r1; replace r2 := pw_cell_below hb4 r2; have r4 : ∀ j, U.frozen? ⟨w.heap.size + 1 + 1, j, none⟩ = false := (fun j => (hb4.frozen (p := ⟨w.heap.size + 1 + 1, j, none⟩) zz2).trans (r3 j)); have hb5 : Below w.heap.size w U := hb2.trans (hb4.mono hb2.size); have zz3 : w.heap.size + 1 + 1 < U.heap.size := Nat.lt_of_lt_of_le zz2 hb4.size; have n0 : w.heap.size < U.heap.size := (by omega); have n1 : ¬ w.heap.size = U.heap.size := (by omega); have n2 : ¬ w.heap.size + 1 = U.heap.size := (by omega); have n3 : w.heap.size ≠ U.heap.size := n1; have n4 : w.heap.size + 1 ≠ U.heap.size := n2; have n5 : w.heap.size + 1 < U.heap.size := (by omega)) | (go_at_call 75; (with_reducible refine Calls.mono (hF _ (Kd.C_below hC bq2) (Kd.C_below hD bq2)) ?_); rintro e' V ⟨v9, rfl, hR8, hb8⟩; obtain ⟨L8, c8, rfl, _, hC8⟩ := Kd.R_reads hR8))
  have hR0 := R_zero2 kP (e := 38) (base := U.heap.size) (fun _ => True) trivial (heap_alloc_last U (.cells #[] 38)) (Nat.le_refl _)
  replace hR0 := Kd.R_below hR0 hb8
  have hbU := (below_alloc2 U (.cells #[] 38)).trans (hb8.mono (by simp))
  have hR9 := Kd.R_mono (Kd.R_bound hR8) (ok' := fun k => U.heap.size < k ∧ k < V.heap.size) (fun k hk => ⟨by have := hk.2.1; simp at this ⊢; omega, hk.2.2.1⟩)
  replace hR9 := Kd.R_lower hR9 (base' := U.heap.size) (by simp)
  have hzV : U.heap.size < V.heap.size := by have := hb8.size; simp at this ⊢; omega
  have hDU := Kd.C_below hD hb5
  have hwU := hb5.size
  clear hR8 hb8 hC8 hC3 hD3 hF hb4 hb4' hX hbW g0 g1 g2 hDg zz2 r3 hb2
  clear x1
  generalize hrb : w.heap.size + 1 + 1 = rb at *
  generalize hfb : w.heap.size + 1 = fb at *
  go_loopg [39, 9] os.length (fun g v39 v9 w' => ∃ (j : Nat) (Q : Option Addr) (cq : Nat), j + g = os.length ∧ v39 = .int .i64 j ∧ v9 = .slice Q j cq ∧ Below U.heap.size U w' ∧ V.heap.size ≤ w'.heap.size ∧ kP.R 38 w' U.heap.size (fun _ => True) (.slice Q j cq) ((pwV p n k os).take j) ∧ (∀ i, (Value.slice Q j cq).ownBlock = some i → i = U.heap.size ∨ V.heap.size ≤ i) ∧ kP.R 38 w' U.heap.size (fun i => U.heap.size < i ∧ i < V.heap.size) (.slice L8 os.length c8) os)
  case atStart => exact ⟨0, some ⟨U.heap.size, 0, none⟩, 0, by omega, rfl, rfl, hbU, Nat.le_refl _, hR0, fun i hi => by simp [Value.ownBlock] at hi; omega, hR9⟩
  case round =>
    clear hR0 hR9 hbU
    obtain ⟨j, Q, cq, hjk, rfl, rfl, hb, hvs, hRq, hown, hRi⟩ := hrel
    have HJK := Lib.hid hjk
    have hbs := hb.size
    clear hjk
    by_cases hj : j < os.length
    · obtain ⟨xt, hx, hxc, hxd⟩ := likes_at HOL.out hj
      have hxk := HPW.out _ (getD_memP hj)
      rw [hx] at hxk
      obtain ⟨b2, o2, A2, c2, hB, p0, p1, p2, hRx⟩ := kP_own hRi hj hx
      subst hB
      have hi0 : (0 : Int) ≤ j := by omega
      have hi1 : (j : Int) < os.length := by omega
      have hin : ((j : Int)).toNat = j := by omega
      have hxl := deg_len hxc.1 hxd
      have HT := Lib.hid (pwV_take (k := k) hj hx)
      have hPw := fun W h => power_c p n A2 c2 xt k W h hxl hp hp' hxc hk2 hxk
      have hyl : ((pwV p n k os).take j).length = j := by rw [List.length_take, pwV_len]; omega
      have HYL := Lib.hid hyl
      clear hx hxc hxd hxk hyl
      generalize (pwV p n k os).take j = ys at *
      generalize powL p xt k = pt at *
      obtain ⟨V4, hV4, hb4, y0, y1, y2⟩ := poly_one wr p n (.slice A2 xt.length c2) ⟨rfl, rfl⟩ 38
      have HR := Lib.hid (And.intro (Kd.R_below hRq hb4) (And.intro (Kd.R_below hRi hb4) (And.intro hown (fun i hi => (Kd.R_lt hRq) i hi))))
      have hDx := (Kd.R_reads' (Kd.R_below hRx hb4)).2.2
      have hs4 := hb4.size
      have hb5' := hb.trans (hb4.mono hb.size)
      clear hRq hRi hRx hown
      go_wp2_with (first
        | (go_at_call 89; (with_reducible refine to_makesP (V := V4) (Below.refl _ _) (hPw _ hDx) ?_); intro w8 B8 c9 hb8 hb8' hl8 hR8; have hs8 := hb8.size)
        | ((with_reducible refine gate_ (.call { callee := .builtin .append, args := #[.tmp 43, .tmp 47], argTypes := #[52, 52] }) rfl ?_); refine Kd.R_append kP (w0 := U) (W := w8) U.heap.size rfl (.tmp 43) (.tmp 47) 52 38 (.agg #[.int .i64 0, .int .i64 0, .slice none 0 0]) 40 rfl Tryz.underlying52 infoPF rfl (by decide) (by decide) (.slice Q j cq) ys ⟨p, n, pt⟩ [.int .i64 p, .int .i64 n, .slice B8 pt.length c9] (fun _ => True) (fun i => wr.heap.size ≤ i) rfl rfl ⟨B8, c9, rfl, Kd.R_lower (Kd.R_mono (Kd.R_bound hR8) (fun i hi => by have h9 := hi.2.1; omega)) (by omega)⟩ (fun i hi => ⟨trivial, fun he => by have h9 := HR.out.2.2.2 i he.symm; omega⟩) (fun _ _ => trivial) (Kd.R_below HR.out.1 hb8) (hb5'.trans (hb8.mono hb5'.size)) (by omega) (by have := HYL.out; omega) ?_; intro v1 w1 hR6 hB6 hg6 hat6; obtain ⟨B6, c6, rfl, hl6, hC6⟩ := Kd.R_reads hR6))
      have hs6 := hg6.size
      have hI6 := Kd.R_grown (Kd.R_below HR.out.2.1 hb8) hg6 (fun i hi he => by
        have h9 := HR.out.2.2.1 i he.symm
        omega)
      go_roundg (gk - 1)
      case measure => have := HJK.out; omega
      case rel =>
        have hlen : (ys ++ [(⟨p, n, pt⟩ : PV)]).length = j + 1 := by rw [List.length_append, HYL.out]; rfl
        rw [hlen] at hR6 hat6
        rw [HYL.out]
        refine ⟨j + 1, B6, c6, ?_, ?_, rfl, hB6, ?_, ?_, ?_, hI6⟩
        · have := HJK.out; omega
        · go_num
        · clear hR6 hI6 hlen; omega
        · rw [HT.out]; exact hR6
        · intro i hi
          rcases hat6 with h9 | ⟨b9, h9, h8⟩
          · exact HR.out.2.2.1 i (h9.symm.trans hi)
          · have h7 := h9.symm.trans hi
            injection h7 with h7
            clear hR6 hI6 hlen
            omega
    · have hje : os.length = j := by have := HJK.out; omega
      subst hje
      rw [show (pwV p n k os).take os.length = pwV p n k os by rw [← pwV_len p n k os, List.take_length]] at hRq
      have hCq := (Kd.R_reads' hRq).2.2
      rw [pwV_len] at hCq
      replace f0 := pw_cell_below hb f0
      replace f1 := pw_cell_below hb f1
      replace f2 := pw_cell_below hb f2
      replace r0 := pw_cell_below hb r0
      replace r1 := pw_cell_below hb r1
      replace r2 := pw_cell_below hb r2
      have r3 := fun j => (hb.frozen (p := ⟨rb, j, none⟩) zz3).trans (r4 j)
      have HUU := Lib.hid hU
      clear hRi hvs hown hRq r4
      have hUc := fun W h => HUU.out W Q cq os.length (pwV_len p n k os) h (by omega)
      clear hU
      generalize pwV p n k os = qs at *
      go_wp2_with (go_at_call 74; (with_reducible refine to_makesP (V := wr) (Below.refl _ _) (hUc _ hCq) ?_); intro w9 A9 c9 hb9 hb9' hl9 hR9; have z0 := pw_cell_below hb9 r0; have z1 := pw_cell_below hb9 r1; have z2 := pw_cell_below hb9 r2; have z3 := fun j => (hb9.frozen (p := ⟨rb, j, none⟩) (by show rb < _; omega)).trans (r3 j))
      have hs9 := hb9.size
      refine bodyPost_ret (v := .tuple #[.agg #[.int .i64 p, .int .i64 n, .slice A9 (addL p qs).length c9], .int .i64 0]) (by simp [results, Tryz.results47, go_sem, z0, z1, z2, z3]) rfl ⟨A9, c9, rfl, ?_, ?_⟩
      · exact Kd.R_lower (R_set3 (Kd.R_mono (Kd.R_bound hR9) (ok' := fun k => k ≠ rb) (fun k hk => by have h7 : wr.heap.size ≤ k := hk.2.1; show k ≠ rb; omega)) (fun k hk => hk) (Nat.le_refl _) _ _ _) (by omega)
      · exact below_set3 (hb5.trans ((hb.trans (hb9.mono hb.size)).mono hwU)) (by omega) _ _ _
set_option maxRecDepth 100000 in
set_option maxHeartbeats 4000000 in
theorem specPowerSum_0 (p : Int) (n : Nat) (A : Option Addr) (c : Nat) (ms : List M9) (B : Option Addr) (e : Nat) (ts : List T4) (k : Nat) (w : World) (hC : kM.C w A ms.length ms) (hD : kT.C w B ts.length ts) (hN : ms.length ≤ 48) (hts : Canon p ts) (hd : ∀ t ∈ ts, degE t.e ≤ 12) (hp : 2 ≤ p) (hp' : p ≤ 13) (h1 : 1 ≤ n) (h3 : n ≤ 3) (hk1 : 1 ≤ k) (hk2 : k ≤ 12) (hkd : (k : Int) * max (degP ts) 0 ≤ 12)
    (hK : ∀ W, kM.C W A ms.length ms → kT.C W B ts.length ts → Calls Tryz.prog 50 #[.agg #[.int .i64 p, .int .i64 n, .slice A ms.length c], .agg #[.int .i64 p, .int .i64 n, .slice B ts.length e]] W (Gives (.int .i64 0) W)) :
    Calls Tryz.prog 46 #[.agg #[.int .i64 p, .int .i64 n, .slice A ms.length c], .agg #[.int .i64 p, .int .i64 n, .slice B ts.length e], .int .i64 (k : Int)] w (MakesPC ⟨p, n, psL p n k ms ts, 0⟩ 80 w) := by
  have hF := fun W h5 h6 => l03Orbit_c p n A c ms B e ts W h5 h6 hN hts hd hp hp' h1 h3
  have htl := deg_len hts.1 hd
  have hDg := fun W h => l01Degree_c p n B e ts W h (by omega)
  have hIn := fun W => l01In_c (k : Int) 1 12 W
  rw [show inB (k : Int) 1 12 = true by simp [inB]; omega] at hIn
  have hOL := likes_orb (img_likes (p := p) hp (n := n) h3 ms hd)
  have hOD := orb_degP (p := p) hp (n := n) h3 (ms := ms) hts.1
  have hLen : (orbV (imgV p n ms ts)).length ≤ 48 := by have h8 := orbV_len (imgV p n ms ts); rw [imgV_len] at h8; omega
  have hPL := pwV_likes hp (k := k) hOL hOD hkd
  have hU := fun W L cl m h4 h5 h6 => l03Add_c p n B e ts L cl (pwV p n k (orbV (imgV p n ms ts))) m h4 W h5 h6 hp hp' hPL
  have hd12 : ¬ (12 : Int) < (k : Int) * max (degP ts) 0 := by omega
  have hw64 := i64_small (n := (k : Int) * max (degP ts) 0) (by have : 0 ≤ (k : Int) * max (degP ts) 0 := Int.mul_nonneg (by omega) (by omega); omega) (by omega)
  unfold psL
  have hbW : Below w.heap.size w (((w.alloc (.cells #[.int .i64 p, .int .i64 n, .slice A ms.length c] 34)).alloc (.cells #[.int .i64 p, .int .i64 n, .slice B ts.length e] 38)).alloc (.cells #[.int .i64 0, .int .i64 0, .slice none 0 0] 38)) := bq2
  have hC3 := Kd.C_below hC hbW
  have hD3 := Kd.C_below hD hbW
  have HPW := Lib.hid (fun (x : PV) (hx : x ∈ orbV (imgV p n ms ts)) => pow_le (k := k) (hOD x hx) hkd)
  have HOL := Lib.hid hOL
  clear hts hd hOD hkd hPL hOL
  generalize orbV (imgV p n ms ts) = os at *
  generalize degP ts = D at *
  go_enter Tryz.func46, Tryz.ntmps46
  go_wp2_with (first | ((go_at_call 50; (first | (with_reducible refine call_later2 (hK _ hC3 hD3) ?_) | (with_reducible refine call_later (hK _ hC3 hD3) ?_)); intro x1); have hX : Below (((w.alloc (.cells #[.int .i64 p, .int .i64 n, .slice A ms.length c] 34)).alloc (.cells #[.int .i64 p, .int .i64 n, .slice B ts.length e] 38)).alloc (.cells #[.int .i64 0, .int .i64 0, .slice none 0 0] 38)).heap.size (((w.alloc (.cells #[.int .i64 p, .int .i64 n, .slice A ms.length c] 34)).alloc (.cells #[.int .i64 p, .int .i64 n, .slice B ts.length e] 38)).alloc (.cells #[.int .i64 0, .int .i64 0, .slice none 0 0] 38)) x1.W := bq2; have g0 := pw_cell_below hX (show (((w.alloc (.cells #[.int .i64 p, .int .i64 n, .slice A ms.length c] 34)).alloc (.cells #[.int .i64 p, .int .i64 n, .slice B ts.length e] 38)).alloc (.cells #[.int .i64 0, .int .i64 0, .slice none 0 0] 38)).cell? ⟨w.heap.size, 0, none⟩ = some (.int .i64 p) from bq5); have g1 := pw_cell_below hX (show (((w.alloc (.cells #[.int .i64 p, .int .i64 n, .slice A ms.length c] 34)).alloc (.cells #[.int .i64 p, .int .i64 n, .slice B ts.length e] 38)).alloc (.cells #[.int .i64 0, .int .i64 0, .slice none 0 0] 38)).cell? ⟨w.heap.size, 1, none⟩ = some (.int .i64 n) from bq5); have g2 := pw_cell_below hX (show (((w.alloc (.cells #[.int .i64 p, .int .i64 n, .slice A ms.length c] 34)).alloc (.cells #[.int .i64 p, .int .i64 n, .slice B ts.length e] 38)).alloc (.cells #[.int .i64 0, .int .i64 0, .slice none 0 0] 38)).cell? ⟨w.heap.size, 2, none⟩ = some (.slice A ms.length c) from bq5); have f0 := pw_cell_below hX (show (((w.alloc (.cells #[.int .i64 p, .int .i64 n, .slice A ms.length c] 34)).alloc (.cells #[.int .i64 p, .int .i64 n, .slice B ts.length e] 38)).alloc (.cells #[.int .i64 0, .int .i64 0, .slice none 0 0] 38)).cell? ⟨w.heap.size + 1, 0, none⟩ = some (.int .i64 p) from bq5); have f1 := pw_cell_below hX (show (((w.alloc (.cells #[.int .i64 p, .int .i64 n, .slice A ms.length c] 34)).alloc (.cells #[.int .i64 p, .int .i64 n, .slice B ts.length e] 38)).alloc (.cells #[.int .i64 0, .int .i64 0, .slice none 0 0] 38)).cell? ⟨w.heap.size + 1, 1, none⟩ = some (.int .i64 n) from bq5); have f2 := pw_cell_below hX (show (((w.alloc (.cells #[.int .i64 p, .int .i64 n, .slice A ms.length c] 34)).alloc (.cells #[.int .i64 p, .int .i64 n, .slice B ts.length e] 38)).alloc (.cells #[.int .i64 0, .int .i64 0, .slice none 0 0] 38)).cell? ⟨w.heap.size + 1, 2, none⟩ = some (.slice B ts.length e) from bq5); have r0 := pw_cell_below hX (show (((w.alloc (.cells #[.int .i64 p, .int .i64 n, .slice A ms.length c] 34)).alloc (.cells #[.int .i64 p, .int .i64 n, .slice B ts.length e] 38)).alloc (.cells #[.int .i64 0, .int .i64 0, .slice none 0 0] 38)).cell? ⟨w.heap.size + 1 + 1, 0, none⟩ = some (.int .i64 0) from bq5); have r1 := pw_cell_below hX (show (((w.alloc (.cells #[.int .i64 p, .int .i64 n, .slice A ms.length c] 34)).alloc (.cells #[.int .i64 p, .int .i64 n, .slice B ts.length e] 38)).alloc (.cells #[.int .i64 0, .int .i64 0, .slice none 0 0] 38)).cell? ⟨w.heap.size + 1 + 1, 1, none⟩ = some (.int .i64 0) from bq5); have r2 := pw_cell_below hX (show (((w.alloc (.cells #[.int .i64 p, .int .i64 n, .slice A ms.length c] 34)).alloc (.cells #[.int .i64 p, .int .i64 n, .slice B ts.length e] 38)).alloc (.cells #[.int .i64 0, .int .i64 0, .slice none 0 0] 38)).cell? ⟨w.heap.size + 1 + 1, 2, none⟩ = some (.slice none 0 0) from bq5); have r3 : ∀ j, x1.W.frozen? ⟨w.heap.size + 1 + 1, j, none⟩ = false := (fun j => (hX.frozen (p := ⟨w.heap.size + 1 + 1, j, none⟩) (by show w.heap.size + 1 + 1 < (((w.alloc (.cells #[.int .i64 p, .int .i64 n, .slice A ms.length c] 34)).alloc (.cells #[.int .i64 p, .int .i64 n, .slice B ts.length e] 38)).alloc (.cells #[.int .i64 0, .int .i64 0, .slice none 0 0] 38)).heap.size; simp)).trans (show (((w.alloc (.cells #[.int .i64 p, .int .i64 n, .slice A ms.length c] 34)).alloc (.cells #[.int .i64 p, .int .i64 n, .slice B ts.length e] 38)).alloc (.cells #[.int .i64 0, .int .i64 0, .slice none 0 0] 38)).frozen? ⟨w.heap.size + 1 + 1, j, none⟩ = false from bq5)); have hb2 : Below w.heap.size w x1.W := bq2; have zz2 : w.heap.size + 1 + 1 < x1.W.heap.size := (by have := x1.ok.size; simp at this; omega)) | (go_at_call 85; (with_reducible refine to_gives (V := x1.W) (Below.refl _ _) (hIn _) ?_); intro U1 hb3 hb3'; replace g0 := pw_cell_below hb3 g0; replace g1 := pw_cell_below hb3 g1; replace g2 := pw_cell_below hb3 g2; replace f0 := pw_cell_below hb3 f0; replace f1 := pw_cell_below hb3 f1; replace f2 := pw_cell_below hb3 f2; replace r0 := pw_cell_below hb3 r0; replace r1 := pw_cell_below hb3 r1; replace r2 := pw_cell_below hb3 r2;) | (go_at_call 87; (with_reducible refine to_gives (V := U1) (Below.refl _ _) (hDg _ (Kd.C_below hD (hb2.trans (hb3.mono hb2.size)))) ?_); intro U hb4 hb4'; replace g0 := pw_cell_below hb4 g0; replace g1 := pw_cell_below hb4 g1; replace g2 := pw_cell_below hb4 g2; replace f0 := pw_cell_below hb4 f0; replace f1 := pw_cell_below hb4 f1; replace f2 := pw_cell_below hb4 f2; replace r0 := pw_cell_below hb4 r0; replace r1 := pw_cell_below hb4 r1; replace r2 := pw_cell_below hb4 r2; have hb34 := hb3.trans (hb4.mono hb3.size); have r4 : ∀ j, U.frozen? ⟨w.heap.size + 1 + 1, j, none⟩ = false := (fun j => (hb34.frozen (p := ⟨w.heap.size + 1 + 1, j, none⟩) zz2).trans (r3 j)); have hb5 : Below w.heap.size w U := hb2.trans (hb34.mono hb2.size); have zz3 : w.heap.size + 1 + 1 < U.heap.size := Nat.lt_of_lt_of_le zz2 hb34.size) | (go_at_call 73; (with_reducible refine Calls.mono (hF _ (Kd.C_below hC hb5) (Kd.C_below hD hb5)) ?_); rintro e' V ⟨v9, rfl, hR8, hb8⟩; obtain ⟨L8, c8, rfl, _, hC8⟩ := Kd.R_reads hR8))
  have hDU := Kd.C_below hD hb5
  have hwU := hb5.size
  clear hC8 hC3 hD3 hF hb4 hb4' hX hbW g0 g1 g2 hDg zz2 r3 hb2 hb34 hb3 hb3' hIn
  clear x1
  generalize hrb : w.heap.size + 1 + 1 = rb at *
  generalize hfb : w.heap.size + 1 = fb at *
  go_loopg [10] os.length (fun g v10 w' => ∃ (j : Nat), j + g = os.length ∧ v10 = .int .i64 j ∧ Below U.heap.size U w' ∧ kP.R 38 w' U.heap.size (fun _ => True) (.slice L8 os.length c8) ((pwV p n k os).take j ++ os.drop j))
  case atStart => exact ⟨0, by omega, rfl, hb8, by simpa using hR8⟩
  case round =>
    clear hR8 hb8
    obtain ⟨j, hjk, rfl, hb, hRq⟩ := hrel
    have HJK := Lib.hid hjk
    have hbs := hb.size
    clear hjk
    by_cases hj : j < os.length
    · obtain ⟨xt, hx, hxc, hxd⟩ := likes_at HOL.out hj
      have hxk := HPW.out _ (getD_memP hj)
      rw [hx] at hxk
      obtain ⟨g, hB, hg1, hg2⟩ := kP_form hRq (by omega)
      subst hB
      obtain ⟨A2, c2, p0, p1, p2, hRx⟩ := kP_own0 hRq hj ((pwV_get hj).trans hx)
      have i0 : wr.frozen? ⟨g, j * 3, none⟩ = false := kP_ice hRq hj 0
      have i1 : wr.frozen? ⟨g, j * 3 + 1, none⟩ = false := kP_ice hRq hj 1
      have i2 : wr.frozen? ⟨g, j * 3 + 2, none⟩ = false := kP_ice hRq hj 2
      have hi0 : (0 : Int) ≤ j := by omega
      have hi1 : (j : Int) < os.length := by omega
      have hin : ((j : Int)).toNat = j := by omega
      have hxl := deg_len hxc.1 hxd
      have HT := Lib.hid (pwV_mix (k := k) hj hx)
      have hPw := fun W h => l01Power_c p n A2 c2 xt k W h hxl hp hp' hxc hk2 hxk
      have hDx := (Kd.R_reads' hRx).2.2
      have HR := Lib.hid hRq
      clear hx hxc hxd hxk hRq hRx
      generalize (pwV p n k os).take j ++ os.drop j = ys at *
      generalize powL p xt k = pt at *
      go_wp2_with (go_at_call 88; (with_reducible refine to_makesPB (V := wr) (Below.refl _ _) (hPw _ hDx) ?_); intro w8 B8 c9 hb8 hb8' hl8 hR8; obtain ⟨V5, hV5, hb9, y0, y1, y2⟩ := poly_one w8 p n (.slice B8 pt.length c9) ⟨rfl, rfl⟩ 38; have hs8 := hb8.size; have hs9 := hb9.size; have hb10 := hb8.trans (hb9.mono hb8.size); have j0 := (hb10.frozen (p := ⟨g, j * 3, none⟩) hg2).trans i0; have j1 := (hb10.frozen (p := ⟨g, j * 3 + 1, none⟩) hg2).trans i1; have j2 := (hb10.frozen (p := ⟨g, j * 3 + 2, none⟩) hg2).trans i2; have q0 := pw_cell_below hb10 p0; have q1 := pw_cell_below hb10 p1; have q2 := pw_cell_below hb10 p2)
      have H := kP_put (okp := fun i => wr.heap.size ≤ i) (Kd.R_below HR.out hb10) hj (p := p) (d := n) (Kd.R_below (Kd.R_lower (Kd.R_mono (Kd.R_bound hR8) (fun i hi => by have h9 : wr.heap.size ≤ i := hi.2.1; exact h9)) (by omega)) hb9) (fun i hi => ⟨trivial, by show i ≠ g; have h9 : wr.heap.size ≤ i := hi; omega⟩)
      have hbV5 := hb.trans (hb10.mono hb.size)
      go_roundg (gk - 1)
      case measure => have := HJK.out; omega
      case rel =>
        refine ⟨j + 1, ?_, ?_, ?_, ?_⟩
        · have := HJK.out; omega
        · go_num
        · clear H
          exact bq2
        · rw [← HT.out]; exact H.1
    · have hje : os.length = j := by have := HJK.out; omega
      subst hje
      rw [show (pwV p n k os).take os.length ++ os.drop os.length = pwV p n k os by rw [List.drop_length, List.append_nil, ← pwV_len p n k os, List.take_length]] at hRq
      have hCq := (Kd.R_reads' hRq).2.2
      rw [pwV_len] at hCq
      replace f0 := pw_cell_below hb f0
      replace f1 := pw_cell_below hb f1
      replace f2 := pw_cell_below hb f2
      replace r0 := pw_cell_below hb r0
      replace r1 := pw_cell_below hb r1
      replace r2 := pw_cell_below hb r2
      have r3 := fun j => (hb.frozen (p := ⟨rb, j, none⟩) zz3).trans (r4 j)
      have HUU := Lib.hid hU
      clear hRq r4
      have hUc := fun W h => HUU.out W L8 c8 os.length (pwV_len p n k os) h (by omega)
      clear hU
      generalize pwV p n k os = qs at *
      go_wp2_with (go_at_call 58; (with_reducible refine to_makesP (V := wr) (Below.refl _ _) (hUc _ hCq) ?_); intro w9 A9 c9 hb9 hb9' hl9 hR9; have z0 := pw_cell_below hb9 r0; have z1 := pw_cell_below hb9 r1; have z2 := pw_cell_below hb9 r2; have z3 := fun j => (hb9.frozen (p := ⟨rb, j, none⟩) (by show rb < _; omega)).trans (r3 j))
      have hs9 := hb9.size
      refine bodyPost_ret (v := .tuple #[.agg #[.int .i64 p, .int .i64 n, .slice A9 (addL p qs).length c9], .int .i64 0]) (by simp [results, Tryz.results46, go_sem, z0, z1, z2, z3]) rfl ⟨A9, c9, rfl, ?_, ?_⟩
      · exact Kd.R_lower (R_set3 (Kd.R_mono (Kd.R_bound hR9) (ok' := fun k => k ≠ rb) (fun k hk => by have h7 : wr.heap.size ≤ k := hk.2.1; show k ≠ rb; omega)) (fun k hk => hk) (Nat.le_refl _) _ _ _) (by omega)
      · exact below_set3 (hb5.trans ((hb.trans (hb9.mono hb.size)).mono hwU)) (by omega) _ _ _
set_option maxRecDepth 100000 in
set_option maxHeartbeats 4000000 in
theorem implPowerSum_R (p : Int) (n : Nat) (A : Option Addr) (c : Nat) (ms : List M9) (B : Option Addr) (e : Nat) (ts : List T4) (k : Int) (w : World) (hC : kM.C w A ms.length ms) (hD : kT.C w B ts.length ts) (hN : ms.length ≤ 48) (hts : Canon p ts) (hd : ∀ t ∈ ts, degE t.e ≤ 12) (hp : 2 ≤ p) (hp' : p ≤ 13) (h1 : 1 ≤ n) (h3 : n ≤ 3) (hk : inB k 1 12 = false)
    (hK : ∀ W, kM.C W A ms.length ms → kT.C W B ts.length ts → Calls Tryz.prog 54 #[.agg #[.int .i64 p, .int .i64 n, .slice A ms.length c], .agg #[.int .i64 p, .int .i64 n, .slice B ts.length e]] W (Gives (.int .i64 0) W)) :
    Calls Tryz.prog 47 #[.agg #[.int .i64 p, .int .i64 n, .slice A ms.length c], .agg #[.int .i64 p, .int .i64 n, .slice B ts.length e], .int .i64 k] w (MakesPC ⟨0, 0, [], 2⟩ 80 w) := by
  have hbW : Below w.heap.size w (((w.alloc (.cells #[.int .i64 p, .int .i64 n, .slice A ms.length c] 34)).alloc (.cells #[.int .i64 p, .int .i64 n, .slice B ts.length e] 38)).alloc (.cells #[.int .i64 0, .int .i64 0, .slice none 0 0] 38)) := bq2
  have hC3 := Kd.C_below hC hbW
  have hD3 := Kd.C_below hD hbW
  by_cases hk1 : k < 1
  · clear hk
    go_enter Tryz.func47, Tryz.ntmps47
    go_wp2_with ((go_at_call 54; (first | (with_reducible refine call_later2 (hK _ hC3 hD3) ?_) | (with_reducible refine call_later (hK _ hC3 hD3) ?_)); intro x1))
    have zz : w.heap.size + 1 + 1 < x1.W.heap.size := by have := x1.ok.size; simp at this; omega
    refine bodyPost_ret (v := .tuple #[.agg #[.int .i64 0, .int .i64 0, .slice none 0 0], .int .i64 2]) (by simp [results, Tryz.results47, go_sem]) rfl ?_
    exact MakesPC_nil _ _ _ _ bq2
  · have hk2 : (12 : Int) < k := by
      simp [inB] at hk
      omega
    clear hk
    go_enter Tryz.func47, Tryz.ntmps47
    go_wp2_with ((go_at_call 54; (first | (with_reducible refine call_later2 (hK _ hC3 hD3) ?_) | (with_reducible refine call_later (hK _ hC3 hD3) ?_)); intro x1))
    have zz : w.heap.size + 1 + 1 < x1.W.heap.size := by have := x1.ok.size; simp at this; omega
    refine bodyPost_ret (v := .tuple #[.agg #[.int .i64 0, .int .i64 0, .slice none 0 0], .int .i64 2]) (by simp [results, Tryz.results47, go_sem]) rfl ?_
    exact MakesPC_nil _ _ _ _ bq2
set_option maxRecDepth 100000 in
set_option maxHeartbeats 4000000 in
theorem implPowerSum_L (p : Int) (n : Nat) (A : Option Addr) (c : Nat) (ms : List M9) (B : Option Addr) (e : Nat) (ts : List T4) (k : Nat) (w : World) (hC : kM.C w A ms.length ms) (hD : kT.C w B ts.length ts) (hN : ms.length ≤ 48) (hts : Canon p ts) (hd : ∀ t ∈ ts, degE t.e ≤ 12) (hp : 2 ≤ p) (hp' : p ≤ 13) (h1 : 1 ≤ n) (h3 : n ≤ 3) (hk1 : 1 ≤ k) (hk2 : k ≤ 12) (hkd : 12 < (k : Int) * max (degP ts) 0)
    (hK : ∀ W, kM.C W A ms.length ms → kT.C W B ts.length ts → Calls Tryz.prog 54 #[.agg #[.int .i64 p, .int .i64 n, .slice A ms.length c], .agg #[.int .i64 p, .int .i64 n, .slice B ts.length e]] W (Gives (.int .i64 0) W)) :
    Calls Tryz.prog 47 #[.agg #[.int .i64 p, .int .i64 n, .slice A ms.length c], .agg #[.int .i64 p, .int .i64 n, .slice B ts.length e], .int .i64 (k : Int)] w (MakesPC ⟨0, 0, [], 3⟩ 80 w) := by
  have hbW : Below w.heap.size w (((w.alloc (.cells #[.int .i64 p, .int .i64 n, .slice A ms.length c] 34)).alloc (.cells #[.int .i64 p, .int .i64 n, .slice B ts.length e] 38)).alloc (.cells #[.int .i64 0, .int .i64 0, .slice none 0 0] 38)) := bq2
  have hC3 := Kd.C_below hC hbW
  have hD3 := Kd.C_below hD hbW
  have hdT : degP ts ≤ 12 := degP_le (by omega) hd
  have hmx : max (degP ts) 0 = degP ts := by
    rcases Int.le_total (degP ts) 0 with h8 | h8
    · rw [Int.max_eq_right h8] at hkd
      omega
    · exact Int.max_eq_left h8
  have hkl : (k : Int) * max (degP ts) 0 ≤ 12 * 12 := Int.mul_le_mul (by omega) (by omega) (by omega) (by omega)
  have htl := deg_len hts.1 hd
  rw [hmx] at hkd hkl
  have hDg := fun W h => degreeP_c p n B e ts W h (by omega)
  have hw64 := i64_small (n := (k : Int) * degP ts) (by omega) (by omega)
  have hk0 : ¬ (k : Int) < 1 := by omega
  have hk12 : ¬ (12 : Int) < k := by omega
  clear hts hd hmx
  generalize degP ts = D at *
  go_enter Tryz.func47, Tryz.ntmps47
  go_wp2_with (first | ((go_at_call 54; (first | (with_reducible refine call_later2 (hK _ hC3 hD3) ?_) | (with_reducible refine call_later (hK _ hC3 hD3) ?_)); intro x1); have hX : Below (((w.alloc (.cells #[.int .i64 p, .int .i64 n, .slice A ms.length c] 34)).alloc (.cells #[.int .i64 p, .int .i64 n, .slice B ts.length e] 38)).alloc (.cells #[.int .i64 0, .int .i64 0, .slice none 0 0] 38)).heap.size (((w.alloc (.cells #[.int .i64 p, .int .i64 n, .slice A ms.length c] 34)).alloc (.cells #[.int .i64 p, .int .i64 n, .slice B ts.length e] 38)).alloc (.cells #[.int .i64 0, .int .i64 0, .slice none 0 0] 38)) x1.W := bq2; have g0 := pw_cell_below hX (show (((w.alloc (.cells #[.int .i64 p, .int .i64 n, .slice A ms.length c] 34)).alloc (.cells #[.int .i64 p, .int .i64 n, .slice B ts.length e] 38)).alloc (.cells #[.int .i64 0, .int .i64 0, .slice none 0 0] 38)).cell? ⟨w.heap.size, 0, none⟩ = some (.int .i64 p) from bq5); have g1 := pw_cell_below hX (show (((w.alloc (.cells #[.int .i64 p, .int .i64 n, .slice A ms.length c] 34)).alloc (.cells #[.int .i64 p, .int .i64 n, .slice B ts.length e] 38)).alloc (.cells #[.int .i64 0, .int .i64 0, .slice none 0 0] 38)).cell? ⟨w.heap.size, 1, none⟩ = some (.int .i64 n) from bq5); have g2 := pw_cell_below hX (show (((w.alloc (.cells #[.int .i64 p, .int .i64 n, .slice A ms.length c] 34)).alloc (.cells #[.int .i64 p, .int .i64 n, .slice B ts.length e] 38)).alloc (.cells #[.int .i64 0, .int .i64 0, .slice none 0 0] 38)).cell? ⟨w.heap.size, 2, none⟩ = some (.slice A ms.length c) from bq5); have f0 := pw_cell_below hX (show (((w.alloc (.cells #[.int .i64 p, .int .i64 n, .slice A ms.length c] 34)).alloc (.cells #[.int .i64 p, .int .i64 n, .slice B ts.length e] 38)).alloc (.cells #[.int .i64 0, .int .i64 0, .slice none 0 0] 38)).cell? ⟨w.heap.size + 1, 0, none⟩ = some (.int .i64 p) from bq5); have f1 := pw_cell_below hX (show (((w.alloc (.cells #[.int .i64 p, .int .i64 n, .slice A ms.length c] 34)).alloc (.cells #[.int .i64 p, .int .i64 n, .slice B ts.length e] 38)).alloc (.cells #[.int .i64 0, .int .i64 0, .slice none 0 0] 38)).cell? ⟨w.heap.size + 1, 1, none⟩ = some (.int .i64 n) from bq5); have f2 := pw_cell_below hX (show (((w.alloc (.cells #[.int .i64 p, .int .i64 n, .slice A ms.length c] 34)).alloc (.cells #[.int .i64 p, .int .i64 n, .slice B ts.length e] 38)).alloc (.cells #[.int .i64 0, .int .i64 0, .slice none 0 0] 38)).cell? ⟨w.heap.size + 1, 2, none⟩ = some (.slice B ts.length e) from bq5); have r0 := pw_cell_below hX (show (((w.alloc (.cells #[.int .i64 p, .int .i64 n, .slice A ms.length c] 34)).alloc (.cells #[.int .i64 p, .int .i64 n, .slice B ts.length e] 38)).alloc (.cells #[.int .i64 0, .int .i64 0, .slice none 0 0] 38)).cell? ⟨w.heap.size + 1 + 1, 0, none⟩ = some (.int .i64 0) from bq5); have r1 := pw_cell_below hX (show (((w.alloc (.cells #[.int .i64 p, .int .i64 n, .slice A ms.length c] 34)).alloc (.cells #[.int .i64 p, .int .i64 n, .slice B ts.length e] 38)).alloc (.cells #[.int .i64 0, .int .i64 0, .slice none 0 0] 38)).cell? ⟨w.heap.size + 1 + 1, 1, none⟩ = some (.int .i64 0) from bq5); have r2 := pw_cell_below hX (show (((w.alloc (.cells #[.int .i64 p, .int .i64 n, .slice A ms.length c] 34)).alloc (.cells #[.int .i64 p, .int .i64 n, .slice B ts.length e] 38)).alloc (.cells #[.int .i64 0, .int .i64 0, .slice none 0 0] 38)).cell? ⟨w.heap.size + 1 + 1, 2, none⟩ = some (.slice none 0 0) from bq5); have r3 : ∀ j, x1.W.frozen? ⟨w.heap.size + 1 + 1, j, none⟩ = false := (fun j => (hX.frozen (p := ⟨w.heap.size + 1 + 1, j, none⟩) (by show w.heap.size + 1 + 1 < (((w.alloc (.cells #[.int .i64 p, .int .i64 n, .slice A ms.length c] 34)).alloc (.cells #[.int .i64 p, .int .i64 n, .slice B ts.length e] 38)).alloc (.cells #[.int .i64 0, .int .i64 0, .slice none 0 0] 38)).heap.size; simp)).trans (show (((w.alloc (.cells #[.int .i64 p, .int .i64 n, .slice A ms.length c] 34)).alloc (.cells #[.int .i64 p, .int .i64 n, .slice B ts.length e] 38)).alloc (.cells #[.int .i64 0, .int .i64 0, .slice none 0 0] 38)).frozen? ⟨w.heap.size + 1 + 1, j, none⟩ = false from bq5)); have hb2 : Below w.heap.size w x1.W := bq2; have zz2 : w.heap.size + 1 + 1 < x1.W.heap.size := (by have := x1.ok.size; simp at this; omega)) | (go_at_call 82; (with_reducible refine to_gives (V := x1.W) (Below.refl _ _) (hDg _ (Kd.C_below hD hb2)) ?_); intro U hb4 hb4'; replace g0 := pw_cell_below hb4 g0; replace g1 := pw_cell_below hb4 g1; replace g2 := pw_cell_below hb4 g2; replace f0 := pw_cell_below hb4 f0; replace f1 := pw_cell_below hb4 f1; replace f2 := pw_cell_below hb4 f2; replace r0 := pw_cell_below hb4 r0; replace r1 := pw_cell_below hb4 r1; replace r2 := pw_cell_below hb4 r2; have hb5 : Below w.heap.size w U := hb2.trans (hb4.mono hb2.size); have zz3 : w.heap.size + 1 + 1 < U.heap.size := Nat.lt_of_lt_of_le zz2 hb4.size; have r4 : ∀ j, U.frozen? ⟨w.heap.size + 1 + 1, j, none⟩ = false := (fun j => (hb4.frozen (p := ⟨w.heap.size + 1 + 1, j, none⟩) zz2).trans (r3 j))))
  refine bodyPost_ret (v := .tuple #[.agg #[.int .i64 0, .int .i64 0, .slice none 0 0], .int .i64 3]) (by simp [results, Tryz.results47, go_sem, r0, r1, r2, r4]) rfl ?_
  exact MakesPC_nil _ _ _ _ bq2
set_option maxRecDepth 100000 in
set_option maxHeartbeats 4000000 in
theorem specPowerSum_R (p : Int) (n : Nat) (A : Option Addr) (c : Nat) (ms : List M9) (B : Option Addr) (e : Nat) (ts : List T4) (k : Int) (w : World) (hC : kM.C w A ms.length ms) (hD : kT.C w B ts.length ts) (hN : ms.length ≤ 48) (hts : Canon p ts) (hd : ∀ t ∈ ts, degE t.e ≤ 12) (hp : 2 ≤ p) (hp' : p ≤ 13) (h1 : 1 ≤ n) (h3 : n ≤ 3) (hk : inB k 1 12 = false)
    (hK : ∀ W, kM.C W A ms.length ms → kT.C W B ts.length ts → Calls Tryz.prog 50 #[.agg #[.int .i64 p, .int .i64 n, .slice A ms.length c], .agg #[.int .i64 p, .int .i64 n, .slice B ts.length e]] W (Gives (.int .i64 0) W)) :
    Calls Tryz.prog 46 #[.agg #[.int .i64 p, .int .i64 n, .slice A ms.length c], .agg #[.int .i64 p, .int .i64 n, .slice B ts.length e], .int .i64 k] w (MakesPC ⟨0, 0, [], 2⟩ 80 w) := by
  have hbW : Below w.heap.size w (((w.alloc (.cells #[.int .i64 p, .int .i64 n, .slice A ms.length c] 34)).alloc (.cells #[.int .i64 p, .int .i64 n, .slice B ts.length e] 38)).alloc (.cells #[.int .i64 0, .int .i64 0, .slice none 0 0] 38)) := bq2
  have hC3 := Kd.C_below hC hbW
  have hD3 := Kd.C_below hD hbW
  have hIn := fun W => l01In_c k 1 12 W
  rw [hk] at hIn
  clear hk
  go_enter Tryz.func46, Tryz.ntmps46
  go_wp2_with (first | ((go_at_call 50; (first | (with_reducible refine call_later2 (hK _ hC3 hD3) ?_) | (with_reducible refine call_later (hK _ hC3 hD3) ?_)); intro x1); have zz : w.heap.size + 1 + 1 < x1.W.heap.size := (by have := x1.ok.size; simp at this; omega)) | (go_at_call 85; (first | (with_reducible refine call_later2 (hIn _) ?_) | (with_reducible refine call_later (hIn _) ?_)); intro x2))
  have zz2 : w.heap.size + 1 + 1 < x2.W.heap.size := by have := x2.ok.size; simp at this; omega
  refine bodyPost_ret (v := .tuple #[.agg #[.int .i64 0, .int .i64 0, .slice none 0 0], .int .i64 2]) (by simp [results, Tryz.results46, go_sem]) rfl ?_
  exact MakesPC_nil _ _ _ _ bq2
set_option maxRecDepth 100000 in
set_option maxHeartbeats 4000000 in
theorem specPowerSum_L (p : Int) (n : Nat) (A : Option Addr) (c : Nat) (ms : List M9) (B : Option Addr) (e : Nat) (ts : List T4) (k : Nat) (w : World) (hC : kM.C w A ms.length ms) (hD : kT.C w B ts.length ts) (hN : ms.length ≤ 48) (hts : Canon p ts) (hd : ∀ t ∈ ts, degE t.e ≤ 12) (hp : 2 ≤ p) (hp' : p ≤ 13) (h1 : 1 ≤ n) (h3 : n ≤ 3) (hk1 : 1 ≤ k) (hk2 : k ≤ 12) (hkd : 12 < (k : Int) * max (degP ts) 0)
    (hK : ∀ W, kM.C W A ms.length ms → kT.C W B ts.length ts → Calls Tryz.prog 50 #[.agg #[.int .i64 p, .int .i64 n, .slice A ms.length c], .agg #[.int .i64 p, .int .i64 n, .slice B ts.length e]] W (Gives (.int .i64 0) W)) :
    Calls Tryz.prog 46 #[.agg #[.int .i64 p, .int .i64 n, .slice A ms.length c], .agg #[.int .i64 p, .int .i64 n, .slice B ts.length e], .int .i64 (k : Int)] w (MakesPC ⟨0, 0, [], 3⟩ 80 w) := by
  have hbW : Below w.heap.size w (((w.alloc (.cells #[.int .i64 p, .int .i64 n, .slice A ms.length c] 34)).alloc (.cells #[.int .i64 p, .int .i64 n, .slice B ts.length e] 38)).alloc (.cells #[.int .i64 0, .int .i64 0, .slice none 0 0] 38)) := bq2
  have hC3 := Kd.C_below hC hbW
  have hD3 := Kd.C_below hD hbW
  have hdT : degP ts ≤ 12 := degP_le (by omega) hd
  have hmx : max (degP ts) 0 = degP ts := by
    rcases Int.le_total (degP ts) 0 with h8 | h8
    · rw [Int.max_eq_right h8] at hkd
      omega
    · exact Int.max_eq_left h8
  have hkl : (k : Int) * max (degP ts) 0 ≤ 12 * 12 := Int.mul_le_mul (by omega) (by omega) (by omega) (by omega)
  have htl := deg_len hts.1 hd
  have hDg := fun W h => l01Degree_c p n B e ts W h (by omega)
  have hIn := fun W => l01In_c (k : Int) 1 12 W
  rw [show inB (k : Int) 1 12 = true by simp [inB]; omega] at hIn
  have hw64 := i64_small (n := (k : Int) * max (degP ts) 0) (by omega) (by omega)
  clear hts hd hmx
  generalize degP ts = D at *
  go_enter Tryz.func46, Tryz.ntmps46
  go_wp2_with (first | ((go_at_call 50; (first | (with_reducible refine call_later2 (hK _ hC3 hD3) ?_) | (with_reducible refine call_later (hK _ hC3 hD3) ?_)); intro x1); have hX : Below (((w.alloc (.cells #[.int .i64 p, .int .i64 n, .slice A ms.length c] 34)).alloc (.cells #[.int .i64 p, .int .i64 n, .slice B ts.length e] 38)).alloc (.cells #[.int .i64 0, .int .i64 0, .slice none 0 0] 38)).heap.size (((w.alloc (.cells #[.int .i64 p, .int .i64 n, .slice A ms.length c] 34)).alloc (.cells #[.int .i64 p, .int .i64 n, .slice B ts.length e] 38)).alloc (.cells #[.int .i64 0, .int .i64 0, .slice none 0 0] 38)) x1.W := bq2; have g0 := pw_cell_below hX (show (((w.alloc (.cells #[.int .i64 p, .int .i64 n, .slice A ms.length c] 34)).alloc (.cells #[.int .i64 p, .int .i64 n, .slice B ts.length e] 38)).alloc (.cells #[.int .i64 0, .int .i64 0, .slice none 0 0] 38)).cell? ⟨w.heap.size, 0, none⟩ = some (.int .i64 p) from bq5); have g1 := pw_cell_below hX (show (((w.alloc (.cells #[.int .i64 p, .int .i64 n, .slice A ms.length c] 34)).alloc (.cells #[.int .i64 p, .int .i64 n, .slice B ts.length e] 38)).alloc (.cells #[.int .i64 0, .int .i64 0, .slice none 0 0] 38)).cell? ⟨w.heap.size, 1, none⟩ = some (.int .i64 n) from bq5); have g2 := pw_cell_below hX (show (((w.alloc (.cells #[.int .i64 p, .int .i64 n, .slice A ms.length c] 34)).alloc (.cells #[.int .i64 p, .int .i64 n, .slice B ts.length e] 38)).alloc (.cells #[.int .i64 0, .int .i64 0, .slice none 0 0] 38)).cell? ⟨w.heap.size, 2, none⟩ = some (.slice A ms.length c) from bq5); have f0 := pw_cell_below hX (show (((w.alloc (.cells #[.int .i64 p, .int .i64 n, .slice A ms.length c] 34)).alloc (.cells #[.int .i64 p, .int .i64 n, .slice B ts.length e] 38)).alloc (.cells #[.int .i64 0, .int .i64 0, .slice none 0 0] 38)).cell? ⟨w.heap.size + 1, 0, none⟩ = some (.int .i64 p) from bq5); have f1 := pw_cell_below hX (show (((w.alloc (.cells #[.int .i64 p, .int .i64 n, .slice A ms.length c] 34)).alloc (.cells #[.int .i64 p, .int .i64 n, .slice B ts.length e] 38)).alloc (.cells #[.int .i64 0, .int .i64 0, .slice none 0 0] 38)).cell? ⟨w.heap.size + 1, 1, none⟩ = some (.int .i64 n) from bq5); have f2 := pw_cell_below hX (show (((w.alloc (.cells #[.int .i64 p, .int .i64 n, .slice A ms.length c] 34)).alloc (.cells #[.int .i64 p, .int .i64 n, .slice B ts.length e] 38)).alloc (.cells #[.int .i64 0, .int .i64 0, .slice none 0 0] 38)).cell? ⟨w.heap.size + 1, 2, none⟩ = some (.slice B ts.length e) from bq5); have r0 := pw_cell_below hX (show (((w.alloc (.cells #[.int .i64 p, .int .i64 n, .slice A ms.length c] 34)).alloc (.cells #[.int .i64 p, .int .i64 n, .slice B ts.length e] 38)).alloc (.cells #[.int .i64 0, .int .i64 0, .slice none 0 0] 38)).cell? ⟨w.heap.size + 1 + 1, 0, none⟩ = some (.int .i64 0) from bq5); have r1 := pw_cell_below hX (show (((w.alloc (.cells #[.int .i64 p, .int .i64 n, .slice A ms.length c] 34)).alloc (.cells #[.int .i64 p, .int .i64 n, .slice B ts.length e] 38)).alloc (.cells #[.int .i64 0, .int .i64 0, .slice none 0 0] 38)).cell? ⟨w.heap.size + 1 + 1, 1, none⟩ = some (.int .i64 0) from bq5); have r2 := pw_cell_below hX (show (((w.alloc (.cells #[.int .i64 p, .int .i64 n, .slice A ms.length c] 34)).alloc (.cells #[.int .i64 p, .int .i64 n, .slice B ts.length e] 38)).alloc (.cells #[.int .i64 0, .int .i64 0, .slice none 0 0] 38)).cell? ⟨w.heap.size + 1 + 1, 2, none⟩ = some (.slice none 0 0) from bq5); have r3 : ∀ j, x1.W.frozen? ⟨w.heap.size + 1 + 1, j, none⟩ = false := (fun j => (hX.frozen (p := ⟨w.heap.size + 1 + 1, j, none⟩) (by show w.heap.size + 1 + 1 < (((w.alloc (.cells #[.int .i64 p, .int .i64 n, .slice A ms.length c] 34)).alloc (.cells #[.int .i64 p, .int .i64 n, .slice B ts.length e] 38)).alloc (.cells #[.int .i64 0, .int .i64 0, .slice none 0 0] 38)).heap.size; simp)).trans (show (((w.alloc (.cells #[.int .i64 p, .int .i64 n, .slice A ms.length c] 34)).alloc (.cells #[.int .i64 p, .int .i64 n, .slice B ts.length e] 38)).alloc (.cells #[.int .i64 0, .int .i64 0, .slice none 0 0] 38)).frozen? ⟨w.heap.size + 1 + 1, j, none⟩ = false from bq5)); have hb2 : Below w.heap.size w x1.W := bq2; have zz2 : w.heap.size + 1 + 1 < x1.W.heap.size := (by have := x1.ok.size; simp at this; omega)) | (go_at_call 85; (with_reducible refine to_gives (V := x1.W) (Below.refl _ _) (hIn _) ?_); intro U1 hb3 hb3'; replace g0 := pw_cell_below hb3 g0; replace g1 := pw_cell_below hb3 g1; replace g2 := pw_cell_below hb3 g2; replace f0 := pw_cell_below hb3 f0; replace f1 := pw_cell_below hb3 f1; replace f2 := pw_cell_below hb3 f2; replace r0 := pw_cell_below hb3 r0; replace r1 := pw_cell_below hb3 r1; replace r2 := pw_cell_below hb3 r2;) | (go_at_call 87; (with_reducible refine to_gives (V := U1) (Below.refl _ _) (hDg _ (Kd.C_below hD (hb2.trans (hb3.mono hb2.size)))) ?_); intro U hb4 hb4'; replace r0 := pw_cell_below hb4 r0; replace r1 := pw_cell_below hb4 r1; replace r2 := pw_cell_below hb4 r2; have hb34 := hb3.trans (hb4.mono hb3.size); have hb5 : Below w.heap.size w U := hb2.trans (hb34.mono hb2.size); have zz3 : w.heap.size + 1 + 1 < U.heap.size := Nat.lt_of_lt_of_le zz2 hb34.size; have r4 : ∀ j, U.frozen? ⟨w.heap.size + 1 + 1, j, none⟩ = false := (fun j => (hb34.frozen (p := ⟨w.heap.size + 1 + 1, j, none⟩) zz2).trans (r3 j))))
  refine bodyPost_ret (v := .tuple #[.agg #[.int .i64 0, .int .i64 0, .slice none 0 0], .int .i64 3]) (by simp [results, Tryz.results46, go_sem, r0, r1, r2, r4]) rfl ?_
  exact MakesPC_nil _ _ _ _ bq2
def psR (p n : Int) (ms : List M9) (q d : Int) (ts : List T4) (k : Int) : PC := if codeF p n ms q d ts = 0 then (if inB k 1 12 then (if 12 < k * max (degP ts) 0 then ⟨0, 0, [], 3⟩ else ⟨p, n, psL p n.toNat k.toNat ms ts, 0⟩) else ⟨0, 0, [], 2⟩) else ⟨0, 0, [], codeF p n ms q d ts⟩
theorem psR_1 {p n : Int} {ms : List M9} {q d : Int} {ts : List T4} {k c : Int} (h : codeF p n ms q d ts = c) (hk : c ≠ 0) : psR p n ms q d ts k = ⟨0, 0, [], c⟩ := by
  unfold psR
  rw [h, if_neg hk]
theorem psR_2 {p n : Int} {ms : List M9} {q d : Int} {ts : List T4} {k : Int} (h : codeF p n ms q d ts = 0) (hk : inB k 1 12 = false) : psR p n ms q d ts k = ⟨0, 0, [], 2⟩ := by
  unfold psR
  rw [if_pos h, hk]
  rfl
theorem psR_3 {p n : Int} {ms : List M9} {q d : Int} {ts : List T4} {k : Int} (h : codeF p n ms q d ts = 0) (hk : inB k 1 12 = true) (hm : 12 < k * max (degP ts) 0) : psR p n ms q d ts k = ⟨0, 0, [], 3⟩ := by
  unfold psR
  rw [if_pos h, if_pos hk, if_pos hm]
theorem psR_0 {p n : Int} {ms : List M9} {q d : Int} {ts : List T4} {k : Int} (h : codeF p n ms q d ts = 0) (hk : inB k 1 12 = true) (hm : ¬ 12 < k * max (degP ts) 0) : psR p n ms q d ts k = ⟨p, n, psL p n.toNat k.toNat ms ts, 0⟩ := by
  unfold psR
  rw [if_pos h, if_pos hk, if_neg hm]
theorem psR_len (p n : Int) (ms : List M9) (q d : Int) (ts : List T4) (k : Int) : (psR p n ms q d ts k).ts.length ≤ 1048576 := by
  by_cases h : codeF p n ms q d ts = 0
  · cases hk : inB k 1 12 with
    | false => rw [psR_2 h hk]; simp
    | true =>
      by_cases hm : 12 < k * max (degP ts) 0
      · rw [psR_3 h hk hm]; simp
      · rw [psR_0 h hk hm]
        obtain ⟨_, _, hp, _, _, h3, _, hcan, hd⟩ := codeF_nums h
        have hk1 : 1 ≤ k := by simp [inB] at hk; omega
        have hkt : ((k.toNat : Nat) : Int) = k := by omega
        have hl := addL_len (p := p) hp (pwV_likes (k := k.toNat) hp (likes_orb (img_likes (p := p) hp (n := n.toNat) (by omega) ms hd)) (orb_degP (p := p) hp (by omega) hcan.1) (by rw [hkt]; omega)).deg
        show (addL p (pwV p n.toNat k.toNat (orbV (imgV p n.toNat ms ts)))).length ≤ _
        omega
  · rw [psR_1 rfl h]; simp
set_option maxRecDepth 100000 in
set_option maxHeartbeats 4000000 in
theorem implPowerSum_c (p n : Int) (A : Option Addr) (c : Nat) (ms : List M9) (q d : Int) (B : Option Addr) (e : Nat) (ts : List T4) (k : Int) (w : World) (hC : kM.C w A ms.length ms) (hD : kT.C w B ts.length ts) (hN : ms.length ≤ 9223372036854775807) (hM : ts.length ≤ 9223372036854775807) :
    Calls Tryz.prog 47 #[.agg #[.int .i64 p, .int .i64 n, .slice A ms.length c], .agg #[.int .i64 q, .int .i64 d, .slice B ts.length e], .int .i64 k] w (MakesPC (psR p n ms q d ts k) 80 w) := by
  have hK := fun W h h' => actionCode_c p n A c ms q d B e ts W h h' hN hM
  rcases codeF_three p n ms q d ts with h0 | h0 | h0
  · rw [h0] at hK
    obtain ⟨hq, hdn, hp, hp', h1, h3, hl, hcan, hdg⟩ := codeF_nums h0
    obtain ⟨m, hm⟩ := Int.eq_ofNat_of_zero_le (show 0 ≤ n by omega)
    rw [hm] at hdn
    subst hq
    subst hdn
    subst hm
    cases hk : inB k 1 12 with
    | false =>
      rw [psR_2 h0 hk]
      exact implPowerSum_R _ m A c ms B e ts k w hC hD hl hcan hdg hp hp' (by omega) (by omega) hk hK
    | true =>
      have hk1 : 1 ≤ k ∧ k ≤ 12 := by simp [inB] at hk; omega
      by_cases hx : 12 < k * max (degP ts) 0
      · rw [psR_3 h0 hk hx]
        obtain ⟨i, hi⟩ := Int.eq_ofNat_of_zero_le (show 0 ≤ k by omega)
        subst hi
        exact implPowerSum_L _ m A c ms B e ts i w hC hD hl hcan hdg hp hp' (by omega) (by omega) (by omega) (by omega) hx hK
      · rw [psR_0 h0 hk hx]
        obtain ⟨i, hi⟩ := Int.eq_ofNat_of_zero_le (show 0 ≤ k by omega)
        subst hi
        exact implPowerSum_0 _ m A c ms B e ts i w hC hD hl hcan hdg hp hp' (by omega) (by omega) (by omega) (by omega) (by omega) hK
  · rw [psR_1 h0 (by decide)]
    rw [h0] at hK
    clear h0
    have hbW : Below w.heap.size w (((w.alloc (.cells #[.int .i64 p, .int .i64 n, .slice A ms.length c] 34)).alloc (.cells #[.int .i64 q, .int .i64 d, .slice B ts.length e] 38)).alloc (.cells #[.int .i64 0, .int .i64 0, .slice none 0 0] 38)) := bq2
    have hC3 := Kd.C_below hC hbW
    have hD3 := Kd.C_below hD hbW
    go_enter Tryz.func47, Tryz.ntmps47
    go_wp2_with ((go_at_call 54; (first | (with_reducible refine call_later2 (hK _ hC3 hD3) ?_) | (with_reducible refine call_later (hK _ hC3 hD3) ?_)); intro x1))
    have zz : w.heap.size + 1 + 1 < x1.W.heap.size := by have := x1.ok.size; simp at this; omega
    refine bodyPost_ret (v := .tuple #[.agg #[.int .i64 0, .int .i64 0, .slice none 0 0], .int .i64 1]) (by simp [results, Tryz.results47, go_sem]) rfl ?_
    exact MakesPC_nil _ _ _ _ bq2
  · rw [psR_1 h0 (by decide)]
    rw [h0] at hK
    clear h0
    have hbW : Below w.heap.size w (((w.alloc (.cells #[.int .i64 p, .int .i64 n, .slice A ms.length c] 34)).alloc (.cells #[.int .i64 q, .int .i64 d, .slice B ts.length e] 38)).alloc (.cells #[.int .i64 0, .int .i64 0, .slice none 0 0] 38)) := bq2
    have hC3 := Kd.C_below hC hbW
    have hD3 := Kd.C_below hD hbW
    go_enter Tryz.func47, Tryz.ntmps47
    go_wp2_with ((go_at_call 54; (first | (with_reducible refine call_later2 (hK _ hC3 hD3) ?_) | (with_reducible refine call_later (hK _ hC3 hD3) ?_)); intro x1))
    have zz : w.heap.size + 1 + 1 < x1.W.heap.size := by have := x1.ok.size; simp at this; omega
    refine bodyPost_ret (v := .tuple #[.agg #[.int .i64 0, .int .i64 0, .slice none 0 0], .int .i64 2]) (by simp [results, Tryz.results47, go_sem]) rfl ?_
    exact MakesPC_nil _ _ _ _ bq2
set_option maxRecDepth 100000 in
set_option maxHeartbeats 4000000 in
theorem specPowerSum_c (p n : Int) (A : Option Addr) (c : Nat) (ms : List M9) (q d : Int) (B : Option Addr) (e : Nat) (ts : List T4) (k : Int) (w : World) (hC : kM.C w A ms.length ms) (hD : kT.C w B ts.length ts) (hN : ms.length ≤ 9223372036854775807) (hM : ts.length ≤ 9223372036854775807) :
    Calls Tryz.prog 46 #[.agg #[.int .i64 p, .int .i64 n, .slice A ms.length c], .agg #[.int .i64 q, .int .i64 d, .slice B ts.length e], .int .i64 k] w (MakesPC (psR p n ms q d ts k) 80 w) := by
  have hK := fun W h h' => l03Code_c p n A c ms q d B e ts W h h' hN hM
  rcases codeF_three p n ms q d ts with h0 | h0 | h0
  · rw [h0] at hK
    obtain ⟨hq, hdn, hp, hp', h1, h3, hl, hcan, hdg⟩ := codeF_nums h0
    obtain ⟨m, hm⟩ := Int.eq_ofNat_of_zero_le (show 0 ≤ n by omega)
    rw [hm] at hdn
    subst hq
    subst hdn
    subst hm
    cases hk : inB k 1 12 with
    | false =>
      rw [psR_2 h0 hk]
      exact specPowerSum_R _ m A c ms B e ts k w hC hD hl hcan hdg hp hp' (by omega) (by omega) hk hK
    | true =>
      have hk1 : 1 ≤ k ∧ k ≤ 12 := by simp [inB] at hk; omega
      by_cases hx : 12 < k * max (degP ts) 0
      · rw [psR_3 h0 hk hx]
        obtain ⟨i, hi⟩ := Int.eq_ofNat_of_zero_le (show 0 ≤ k by omega)
        subst hi
        exact specPowerSum_L _ m A c ms B e ts i w hC hD hl hcan hdg hp hp' (by omega) (by omega) (by omega) (by omega) hx hK
      · rw [psR_0 h0 hk hx]
        obtain ⟨i, hi⟩ := Int.eq_ofNat_of_zero_le (show 0 ≤ k by omega)
        subst hi
        exact specPowerSum_0 _ m A c ms B e ts i w hC hD hl hcan hdg hp hp' (by omega) (by omega) (by omega) (by omega) (by omega) hK
  · rw [psR_1 h0 (by decide)]
    rw [h0] at hK
    clear h0
    have hbW : Below w.heap.size w (((w.alloc (.cells #[.int .i64 p, .int .i64 n, .slice A ms.length c] 34)).alloc (.cells #[.int .i64 q, .int .i64 d, .slice B ts.length e] 38)).alloc (.cells #[.int .i64 0, .int .i64 0, .slice none 0 0] 38)) := bq2
    have hC3 := Kd.C_below hC hbW
    have hD3 := Kd.C_below hD hbW
    go_enter Tryz.func46, Tryz.ntmps46
    go_wp2_with ((go_at_call 50; (first | (with_reducible refine call_later2 (hK _ hC3 hD3) ?_) | (with_reducible refine call_later (hK _ hC3 hD3) ?_)); intro x1))
    have zz : w.heap.size + 1 + 1 < x1.W.heap.size := by have := x1.ok.size; simp at this; omega
    refine bodyPost_ret (v := .tuple #[.agg #[.int .i64 0, .int .i64 0, .slice none 0 0], .int .i64 1]) (by simp [results, Tryz.results46, go_sem]) rfl ?_
    exact MakesPC_nil _ _ _ _ bq2
  · rw [psR_1 h0 (by decide)]
    rw [h0] at hK
    clear h0
    have hbW : Below w.heap.size w (((w.alloc (.cells #[.int .i64 p, .int .i64 n, .slice A ms.length c] 34)).alloc (.cells #[.int .i64 q, .int .i64 d, .slice B ts.length e] 38)).alloc (.cells #[.int .i64 0, .int .i64 0, .slice none 0 0] 38)) := bq2
    have hC3 := Kd.C_below hC hbW
    have hD3 := Kd.C_below hD hbW
    go_enter Tryz.func46, Tryz.ntmps46
    go_wp2_with ((go_at_call 50; (first | (with_reducible refine call_later2 (hK _ hC3 hD3) ?_) | (with_reducible refine call_later (hK _ hC3 hD3) ?_)); intro x1))
    have zz : w.heap.size + 1 + 1 < x1.W.heap.size := by have := x1.ok.size; simp at this; omega
    refine bodyPost_ret (v := .tuple #[.agg #[.int .i64 0, .int .i64 0, .slice none 0 0], .int .i64 2]) (by simp [results, Tryz.results46, go_sem]) rfl ?_
    exact MakesPC_nil _ _ _ _ bq2
end Go.Proofs.YtjhkeehfchkpaaaGreat
