/- StabiliserOfPoly; no condition. -/
import Derived.Test.YtjhkeehfchkpaaaGreatYAct4
import Derived.Test.YtjhkeehfchkpaaaGreatYSame1
import Derived.Test.YtjhkeehfchkpaaaGreatYLawKit2
import Derived.Test.YtjhkeehfchkpaaaGreatYKitK
import Derived.Test.YtjhkeehfchkpaaaGreatYHeldI
set_option linter.unusedVariables false
set_option linter.unusedSimpArgs false
namespace Go.Proofs.YtjhkeehfchkpaaaGreat
open Go.RowKit Go.Proofs.YtjhkeehfchkpaaaGreatW.PrintWords
attribute [local go_sem] Later.cell Later.frozen Later.lt Later.lt_add Later.le Later.le_add Later.ne Later.ne' add_at
open Go.Proofs.YtjhkeehfchkpaaaGreatW.PrintLast
attribute [local go_sem 2000] run_eqM guardM
def stabI (ps : List PV) (ts : List T4) : Nat → List Int
  | 0 => []
  | j + 1 => if (ps.getD j zP).ts == ts then stabI ps ts j ++ [(j : Int)] else stabI ps ts j
theorem stabI_t {ps : List PV} {ts : List T4} {j : Nat} (h : ((ps.getD j zP).ts == ts) = true) : stabI ps ts (j + 1) = stabI ps ts j ++ [(j : Int)] := by
  rw [stabI, if_pos h]
theorem stabI_f {ps : List PV} {ts : List T4} {j : Nat} (h : ((ps.getD j zP).ts == ts) = false) : stabI ps ts (j + 1) = stabI ps ts j := by
  rw [stabI, h]
  rfl
theorem stabI_len (ps : List PV) (ts : List T4) : ∀ j, (stabI ps ts j).length ≤ j
  | 0 => Nat.le_refl _
  | j + 1 => by
    have := stabI_len ps ts j
    rw [stabI]
    split
    · simp; omega
    · omega
set_option maxRecDepth 100000 in
set_option maxHeartbeats 4000000 in
theorem implStabP_0 (p : Int) (n : Nat) (A : Option Addr) (c : Nat) (ms : List M9) (B : Option Addr) (e : Nat) (ts : List T4) (w : World) (hC : kM.C w A ms.length ms) (hD : kT.C w B ts.length ts) (hN : ms.length ≤ 48) (hts : Canon p ts) (hd : ∀ t ∈ ts, degE t.e ≤ 12) (hp : 2 ≤ p) (hp' : p ≤ 13) (h1 : 1 ≤ n) (h3 : n ≤ 3)
    (hK : ∀ W, kM.C W A ms.length ms → kT.C W B ts.length ts → Calls Tryz.prog 54 #[.agg #[.int .i64 p, .int .i64 n, .slice A ms.length c], .agg #[.int .i64 p, .int .i64 n, .slice B ts.length e]] W (Gives (.int .i64 0) W)) :
    Calls Tryz.prog 29 #[.agg #[.int .i64 p, .int .i64 n, .slice A ms.length c], .agg #[.int .i64 p, .int .i64 n, .slice B ts.length e]] w (MakesIC ⟨stabI (imgV p n ms ts) ts ms.length, 0⟩ 2 w) := by
  have g0 : ((w.alloc (.cells #[.int .i64 p, .int .i64 n, .slice A ms.length c] 34)).alloc (.cells #[.int .i64 p, .int .i64 n, .slice B ts.length e] 38)).cell? ⟨w.heap.size, 0, none⟩ = some (.int .i64 p) := bq5
  have g1 : ((w.alloc (.cells #[.int .i64 p, .int .i64 n, .slice A ms.length c] 34)).alloc (.cells #[.int .i64 p, .int .i64 n, .slice B ts.length e] 38)).cell? ⟨w.heap.size, 1, none⟩ = some (.int .i64 n) := bq5
  have g2 : ((w.alloc (.cells #[.int .i64 p, .int .i64 n, .slice A ms.length c] 34)).alloc (.cells #[.int .i64 p, .int .i64 n, .slice B ts.length e] 38)).cell? ⟨w.heap.size, 2, none⟩ = some (.slice A ms.length c) := bq5
  have f0 : ((w.alloc (.cells #[.int .i64 p, .int .i64 n, .slice A ms.length c] 34)).alloc (.cells #[.int .i64 p, .int .i64 n, .slice B ts.length e] 38)).cell? ⟨w.heap.size + 1, 0, none⟩ = some (.int .i64 p) := bq5
  have f1 : ((w.alloc (.cells #[.int .i64 p, .int .i64 n, .slice A ms.length c] 34)).alloc (.cells #[.int .i64 p, .int .i64 n, .slice B ts.length e] 38)).cell? ⟨w.heap.size + 1, 1, none⟩ = some (.int .i64 n) := bq5
  have f2 : ((w.alloc (.cells #[.int .i64 p, .int .i64 n, .slice A ms.length c] 34)).alloc (.cells #[.int .i64 p, .int .i64 n, .slice B ts.length e] 38)).cell? ⟨w.heap.size + 1, 2, none⟩ = some (.slice B ts.length e) := bq5
  have hF := fun W h5 h6 => images_c p n A c ms B e ts W h5 h6 hN hts hd hp hp' h1 h3
  have HL := Lib.hid (img_likes hp h3 ms hd)
  have htl := deg_len hts.1 hd
  have hbW : Below w.heap.size w ((w.alloc (.cells #[.int .i64 p, .int .i64 n, .slice A ms.length c] 34)).alloc (.cells #[.int .i64 p, .int .i64 n, .slice B ts.length e] 38)) := bq2
  have hC3 := Kd.C_below hC hbW
  have hD3 := Kd.C_below hD hbW
  rw [show stabI (imgV p n ms ts) ts ms.length = stabI (imgV p n ms ts) ts (imgV p n ms ts).length by rw [imgV_len]]
  have hp48 : (imgV p n ms ts).length ≤ 48 := by rw [imgV_len]; exact hN
  clear hts hd
  generalize imgV p n ms ts = ps at *
  go_enter Tryz.func29, Tryz.ntmps29
  go_wp2_with (first | ((go_at_call 54; (first | (with_reducible refine call_later2 (hK _ hC3 hD3) ?_) | (with_reducible refine call_later (hK _ hC3 hD3) ?_)); intro x1); have hX : Below ((w.alloc (.cells #[.int .i64 p, .int .i64 n, .slice A ms.length c] 34)).alloc (.cells #[.int .i64 p, .int .i64 n, .slice B ts.length e] 38)).heap.size ((w.alloc (.cells #[.int .i64 p, .int .i64 n, .slice A ms.length c] 34)).alloc (.cells #[.int .i64 p, .int .i64 n, .slice B ts.length e] 38)) x1.W := bq2; replace g0 := pw_cell_below hX g0; replace g1 := pw_cell_below hX g1; replace g2 := pw_cell_below hX g2; replace f0 := pw_cell_below hX f0; replace f1 := pw_cell_below hX f1; replace f2 := pw_cell_below hX f2; have hb2 : Below w.heap.size w x1.W := bq2; have zz2 : w.heap.size + 1 < x1.W.heap.size := (by have := x1.ok.size; simp at this; omega); have n0 : w.heap.size < x1.W.heap.size := (by omega); have n1 : ¬ w.heap.size = x1.W.heap.size := (by omega); have n2 : ¬ w.heap.size + 1 = x1.W.heap.size := (by omega); have n3 : w.heap.size ≠ x1.W.heap.size := n1; have n4 : w.heap.size + 1 ≠ x1.W.heap.size := n2) | (go_at_call 71; (with_reducible refine Calls.mono (hF _ (Kd.C_below hC bq2) (Kd.C_below hD bq2)) ?_); rintro e' V ⟨v9, rfl, hR8, hb8⟩; obtain ⟨L8, c8, rfl, _, hC8⟩ := Kd.R_reads hR8))
  have hR0 := R_zero2 kI (e := 2) (base := x1.W.heap.size) (fun k => k = x1.W.heap.size ∨ V.heap.size ≤ k) (Or.inl rfl) (heap_alloc_last x1.W (.cells #[] 2)) (Nat.le_refl _)
  replace hR0 := Kd.R_below hR0 hb8
  have hbU := (below_alloc2 x1.W (.cells #[] 2)).trans (hb8.mono (by simp))
  have hR9 := Kd.R_mono (Kd.R_bound hR8) (ok' := fun k => x1.W.heap.size + 1 ≤ k ∧ k < V.heap.size) (fun k hk => ⟨by have := hk.2.1; simp at this; omega, hk.2.2.1⟩)
  have hzV : x1.W.heap.size + 1 ≤ V.heap.size := by have := hb8.size; simp at this; omega
  clear hR8 hb8 hC8
  generalize x1.W = U at *
  have f0v := pw_cell_below hbU f0
  have f1v := pw_cell_below hbU f1
  have f2v := pw_cell_below hbU f2
  have hDU := Kd.C_below hD hb2
  clear g0 g1 g2 hF hC3 hD3 hX f0v f1v f2v
  have hwU : w.heap.size ≤ U.heap.size := hb2.size
  generalize hfb : w.heap.size + 1 = fb at *
  go_loopg [7, 21] ps.length (fun g v7 v21 w' => ∃ (j : Nat) (Q : Option Addr) (cq : Nat), j + g = ps.length ∧ v21 = .int .i64 j ∧ v7 = .slice Q (stabI ps ts j).length cq ∧ Below U.heap.size U w' ∧ V.heap.size ≤ w'.heap.size ∧ kI.R 2 w' U.heap.size (fun k => k = U.heap.size ∨ V.heap.size ≤ k) (.slice Q (stabI ps ts j).length cq) (stabI ps ts j) ∧ kP.R 38 w' (U.alloc (.cells #[] 2)).heap.size (fun k => U.heap.size + 1 ≤ k ∧ k < V.heap.size) (.slice L8 ps.length c8) ps)
  case atStart => exact ⟨0, some ⟨U.heap.size, 0, none⟩, 0, by omega, rfl, rfl, hbU, Nat.le_refl _, hR0, hR9⟩
  case round =>
    clear hR0 hR9 hbU
    obtain ⟨j, Q, cq, hjk, rfl, rfl, hb, hvs, hRq, hRi⟩ := hrel
    have HJK := Lib.hid hjk
    clear hjk
    have hlj := stabI_len ps ts j
    by_cases hj : j < ps.length
    · obtain ⟨b2, o2, A2, c2, hB, p0, p1, p2, hDy⟩ := kP_at (Kd.R_reads' hRi).2.2 j hj
      subst hB
      have hmem := getD_memP hj
      rw [HL.out.pp _ hmem] at p0
      rw [HL.out.dd _ hmem] at p1
      have hi0 : (0 : Int) ≤ j := by omega
      have hi1 : (j : Int) < ps.length := by omega
      have hin : ((j : Int)).toNat = j := by omega
      have hyl := deg_len (HL.out.can _ hmem).1 (HL.out.deg _ hmem)
      have HT := Lib.hid (fun h => stabI_t (ps := ps) (ts := ts) (j := j) h)
      have HF := Lib.hid (fun h => stabI_f (ps := ps) (ts := ts) (j := j) h)
      clear hmem
      generalize ps.getD j zP = y at *
      have hS := fun W h h' => samePoly_c p n p n A2 B c2 e y.ts ts W h h' (by omega) (by omega)
      have e1 : ((p == p && (n : Int) == n) && y.ts == ts) = (y.ts == ts) := by simp
      rw [e1] at hS
      clear e1
      obtain ⟨V4, hV4, hb4, y0, y1, y2⟩ := poly_one wr p n (.slice A2 y.ts.length c2) ⟨rfl, rfl⟩ 38
      have hb5 := hb.trans (hb4.mono hb.size)
      have f0' := pw_cell_below hb5 f0
      have f1' := pw_cell_below hb5 f1
      have f2' := pw_cell_below hb5 f2
      have hDy4 := Kd.C_below hDy hb4
      have hDf4 := Kd.C_below hDU hb5
      have HR := Lib.hid (And.intro (Kd.R_below hRq hb4) (Kd.R_below hRi hb4))
      have hs4 := hb4.size
      clear hRq hRi
      cases hz : (y.ts == ts) with
      | false =>
        rw [hz] at hS
        have HZ := Lib.hid (HF.out hz)
        clear hz
        go_wp2_with (go_at_call 72; (with_reducible refine to_gives (V := V4) (Below.refl _ _) (hS _ hDy4 hDf4) ?_); intro w8 hb8 hb8')
        go_roundg (gk - 1)
        case measure => have := HJK.out; omega
        case rel =>
          have hs8 := hb8.size
          refine ⟨j + 1, Q, cq, ?_, ?_, ?_, hb5.trans (hb8.mono hb5.size), ?_, ?_, Kd.R_below HR.out.2 hb8⟩
          · have := HJK.out; omega
          · go_num
          · rw [HZ.out]
          · omega
          · rw [HZ.out]; exact Kd.R_below HR.out.1 hb8
      | true =>
        rw [hz] at hS
        have HZ := Lib.hid (HT.out hz)
        clear hz
        generalize stabI ps ts j = rs at *
        go_wp2_with (first
          | (go_at_call 72; (with_reducible refine to_gives (V := V4) (Below.refl _ _) (hS _ hDy4 hDf4) ?_); intro w8 hb8 hb8'; have hs8 := hb8.size)
          | ((with_reducible refine gate_ (.call { callee := .builtin .append, args := #[.tmp 29, .tmp 31], argTypes := #[47, 47] }) rfl ?_); refine Kd.R_append kI (w0 := U) (W := w8) U.heap.size rfl (.tmp 29) (.tmp 31) 47 2 (.int .i64 0) 8 rfl Tryz.underlying47 infoI rfl (by decide) (by decide) (.slice Q rs.length cq) rs (j : Int) [.int .i64 j] (fun k => k = U.heap.size ∨ V.heap.size ≤ k) (fun _ => False) rfl rfl rfl (fun _ hk => hk.elim) (fun k hk => Or.inr (by have h9 : w8.heap.size ≤ k := hk; omega)) (Kd.R_below HR.out.1 hb8) (hb5.trans (hb8.mono hb5.size)) (by have := hb5.size; omega) (by omega) ?_; intro v1 w1 hR6 hB6 hg6 hat6; obtain ⟨B6, c6, rfl, hl6, hC6⟩ := Kd.R_reads hR6))
        have hs6 := hg6.size
        have hI6 := Kd.R_grown (Kd.R_below HR.out.2 hb8) hg6 (fun k hk he => by
          have h9 := HR.out.1.1 k he.symm
          omega)
        go_roundg (gk - 1)
        case measure => have := HJK.out; omega
        case rel =>
          refine ⟨j + 1, B6, c6, ?_, ?_, ?_, hB6, ?_, ?_, hI6⟩
          · have := HJK.out; omega
          · go_num
          · simp [HZ.out]
          · clear hR6 hI6; omega
          · rw [HZ.out]; exact hR6
    · have hje : ps.length = j := by have := HJK.out; omega
      subst hje
      go_wp2
      refine bodyPost_ret (v := .tuple #[.slice Q (stabI ps ts ps.length).length cq, .int .i64 0]) (by simp [results, Tryz.results29, go_sem]) rfl ⟨Q, cq, rfl, ?_, ?_⟩
      · exact Kd.R_lower (Kd.R_mono hRq (fun _ _ => trivial)) hwU
      · exact hb2.trans (hb.mono hwU)
set_option maxRecDepth 100000 in
set_option maxHeartbeats 4000000 in
theorem specStabP_0 (p : Int) (n : Nat) (A : Option Addr) (c : Nat) (ms : List M9) (B : Option Addr) (e : Nat) (ts : List T4) (w : World) (hC : kM.C w A ms.length ms) (hD : kT.C w B ts.length ts) (hN : ms.length ≤ 48) (hts : Canon p ts) (hd : ∀ t ∈ ts, degE t.e ≤ 12) (hp : 2 ≤ p) (hp' : p ≤ 13) (h1 : 1 ≤ n) (h3 : n ≤ 3)
    (hK : ∀ W, kM.C W A ms.length ms → kT.C W B ts.length ts → Calls Tryz.prog 50 #[.agg #[.int .i64 p, .int .i64 n, .slice A ms.length c], .agg #[.int .i64 p, .int .i64 n, .slice B ts.length e]] W (Gives (.int .i64 0) W)) :
    Calls Tryz.prog 28 #[.agg #[.int .i64 p, .int .i64 n, .slice A ms.length c], .agg #[.int .i64 p, .int .i64 n, .slice B ts.length e]] w (MakesIC ⟨stabI (imgV p n ms ts) ts ms.length, 0⟩ 2 w) := by
  have g0 : ((w.alloc (.cells #[.int .i64 p, .int .i64 n, .slice A ms.length c] 34)).alloc (.cells #[.int .i64 p, .int .i64 n, .slice B ts.length e] 38)).cell? ⟨w.heap.size, 0, none⟩ = some (.int .i64 p) := bq5
  have g1 : ((w.alloc (.cells #[.int .i64 p, .int .i64 n, .slice A ms.length c] 34)).alloc (.cells #[.int .i64 p, .int .i64 n, .slice B ts.length e] 38)).cell? ⟨w.heap.size, 1, none⟩ = some (.int .i64 n) := bq5
  have g2 : ((w.alloc (.cells #[.int .i64 p, .int .i64 n, .slice A ms.length c] 34)).alloc (.cells #[.int .i64 p, .int .i64 n, .slice B ts.length e] 38)).cell? ⟨w.heap.size, 2, none⟩ = some (.slice A ms.length c) := bq5
  have f0 : ((w.alloc (.cells #[.int .i64 p, .int .i64 n, .slice A ms.length c] 34)).alloc (.cells #[.int .i64 p, .int .i64 n, .slice B ts.length e] 38)).cell? ⟨w.heap.size + 1, 0, none⟩ = some (.int .i64 p) := bq5
  have f1 : ((w.alloc (.cells #[.int .i64 p, .int .i64 n, .slice A ms.length c] 34)).alloc (.cells #[.int .i64 p, .int .i64 n, .slice B ts.length e] 38)).cell? ⟨w.heap.size + 1, 1, none⟩ = some (.int .i64 n) := bq5
  have f2 : ((w.alloc (.cells #[.int .i64 p, .int .i64 n, .slice A ms.length c] 34)).alloc (.cells #[.int .i64 p, .int .i64 n, .slice B ts.length e] 38)).cell? ⟨w.heap.size + 1, 2, none⟩ = some (.slice B ts.length e) := bq5
  have hF := fun W h5 h6 => l03All_c p n A c ms B e ts W h5 h6 hN hts hd hp hp' h1 h3
  have HL := Lib.hid (img_likes hp h3 ms hd)
  have htl := deg_len hts.1 hd
  have hbW : Below w.heap.size w ((w.alloc (.cells #[.int .i64 p, .int .i64 n, .slice A ms.length c] 34)).alloc (.cells #[.int .i64 p, .int .i64 n, .slice B ts.length e] 38)) := bq2
  have hC3 := Kd.C_below hC hbW
  have hD3 := Kd.C_below hD hbW
  rw [show stabI (imgV p n ms ts) ts ms.length = stabI (imgV p n ms ts) ts (imgV p n ms ts).length by rw [imgV_len]]
  have hp48 : (imgV p n ms ts).length ≤ 48 := by rw [imgV_len]; exact hN
  clear hts hd
  generalize imgV p n ms ts = ps at *
  go_enter Tryz.func28, Tryz.ntmps28
  go_wp2_with (first | ((go_at_call 50; (first | (with_reducible refine call_later2 (hK _ hC3 hD3) ?_) | (with_reducible refine call_later (hK _ hC3 hD3) ?_)); intro x1); have hX : Below ((w.alloc (.cells #[.int .i64 p, .int .i64 n, .slice A ms.length c] 34)).alloc (.cells #[.int .i64 p, .int .i64 n, .slice B ts.length e] 38)).heap.size ((w.alloc (.cells #[.int .i64 p, .int .i64 n, .slice A ms.length c] 34)).alloc (.cells #[.int .i64 p, .int .i64 n, .slice B ts.length e] 38)) x1.W := bq2; replace g0 := pw_cell_below hX g0; replace g1 := pw_cell_below hX g1; replace g2 := pw_cell_below hX g2; replace f0 := pw_cell_below hX f0; replace f1 := pw_cell_below hX f1; replace f2 := pw_cell_below hX f2; have hb2 : Below w.heap.size w x1.W := bq2; have zz2 : w.heap.size + 1 < x1.W.heap.size := (by have := x1.ok.size; simp at this; omega)) | (go_at_call 59; (with_reducible refine Calls.mono (hF _ (Kd.C_below hC bq2) (Kd.C_below hD bq2)) ?_); rintro e' V ⟨v9, rfl, hR8, hb8⟩; obtain ⟨L8, c8, rfl, _, hC8⟩ := Kd.R_reads hR8; replace f0 := pw_cell_below hb8 f0; replace f1 := pw_cell_below hb8 f1; replace f2 := pw_cell_below hb8 f2))
  have hbV : Below w.heap.size w V := hb2.trans (hb8.mono hb2.size)
  have hDV := Kd.C_below hD hbV
  have hwV := hbV.size
  have hR0 := R_zero2 kI (e := 2) (base := V.heap.size) (fun _ => True) trivial (heap_alloc_last V (.cells #[] 2)) (Nat.le_refl _)
  have hbU := below_alloc2 V (.cells #[] 2)
  clear g0 g1 g2 hF hC3 hD3 hX hR8 hb8 hb2 zz2
  generalize V.alloc (.cells #[] 2) = V1 at *
  generalize hfb : w.heap.size + 1 = fb at *
  go_loopg [9, 8] ps.length (fun g v9 v8 w' => ∃ (j : Nat) (Q : Option Addr) (cq : Nat), j + g = ps.length ∧ v9 = .int .i64 j ∧ v8 = .slice Q (stabI ps ts j).length cq ∧ Below V.heap.size V w' ∧ kI.R 2 w' V.heap.size (fun _ => True) (.slice Q (stabI ps ts j).length cq) (stabI ps ts j))
  case atStart => exact ⟨0, some ⟨V.heap.size, 0, none⟩, 0, by omega, rfl, rfl, hbU, hR0⟩
  case round =>
    clear hR0 hbU
    obtain ⟨j, Q, cq, hjk, rfl, rfl, hb, hRq⟩ := hrel
    have HJK := Lib.hid hjk
    clear hjk
    have hlj := stabI_len ps ts j
    by_cases hj : j < ps.length
    · obtain ⟨b2, o2, A2, c2, hB, p0, p1, p2, hDy⟩ := kP_at hC8 j hj
      subst hB
      have hmem := getD_memP hj
      rw [HL.out.pp _ hmem] at p0
      rw [HL.out.dd _ hmem] at p1
      have p0 := pw_cell_below hb p0
      have p1 := pw_cell_below hb p1
      have p2 := pw_cell_below hb p2
      have f0' := pw_cell_below hb f0
      have f1' := pw_cell_below hb f1
      have f2' := pw_cell_below hb f2
      have hDy := Kd.C_below hDy hb
      have hDf := Kd.C_below hDV hb
      have hi0 : (0 : Int) ≤ j := by omega
      have hi1 : (j : Int) < ps.length := by omega
      have hin : ((j : Int)).toNat = j := by omega
      have hyl := deg_len (HL.out.can _ hmem).1 (HL.out.deg _ hmem)
      have HT := Lib.hid (fun h => stabI_t (ps := ps) (ts := ts) (j := j) h)
      have HF := Lib.hid (fun h => stabI_f (ps := ps) (ts := ts) (j := j) h)
      have HR := Lib.hid hRq
      have hbs := hb.size
      clear hmem hRq
      generalize ps.getD j zP = y at *
      have hS := fun W h h' => l01Same_c p n p n A2 B c2 e y.ts ts W h h' (by omega) (by omega)
      cases hz : (y.ts == ts) with
      | false =>
        rw [hz] at hS
        have HZ := Lib.hid (HF.out hz)
        clear hz
        go_wp2
        refine start_ (n := 6) (S := fun w' => w'.cell? ⟨b2, o2 + j * 3, none⟩ = some (.int .i64 p) ∧ w'.cell? ⟨b2, o2 + j * 3 + 1, none⟩ = some (.int .i64 n) ∧ w'.cell? ⟨b2, o2 + j * 3 + 2, none⟩ = some (.slice A2 y.ts.length c2) ∧ w'.cell? ⟨fb, 0, none⟩ = some (.int .i64 p) ∧ w'.cell? ⟨fb, 1, none⟩ = some (.int .i64 n) ∧ w'.cell? ⟨fb, 2, none⟩ = some (.slice B ts.length e)) (ds := []) #[false, false, false, false, false, false] (by kernel_rfl) rfl rfl ⟨p0, p1, p2, f0', f1', f2'⟩ (fun hHeld => ?_)
        refine pure_ (i := 0) (N := some 26) (v := ?_) (a' := ?_) #[true, false, false, false, false, false] rfl rfl (by kernel_rfl) (fun _ _ _ h => h) (Or.inl ⟨by rfl, ?_⟩) ?_ ?_
        rotate_left
        · intro w'
          go_simp
          with_reducible rfl
        rotate_left
        · simp only [Act.put, List.setIfInBounds_toArray, List.set_cons_zero, List.set_cons_succ, i64_w, i32_w]
          rfl
        refine pure_ (i := 1) (N := some 27) (v := ?_) (a' := ?_) #[true, true, false, false, false, false] rfl rfl (by kernel_rfl) (fun _ _ _ h => h) (Or.inl ⟨by rfl, ?_⟩) ?_ ?_
        rotate_left
        · intro w'
          go_simp
          with_reducible rfl
        rotate_left
        · simp only [Act.put, List.setIfInBounds_toArray, List.set_cons_zero, List.set_cons_succ, i64_w, i32_w]
          rfl
        refine pure_ (i := 2) (N := some 28) (v := ?_) (a' := ?_) #[true, true, true, false, false, false] rfl rfl (by kernel_rfl) (fun _ _ _ h => h) (Or.inl ⟨by rfl, ?_⟩) ?_ ?_
        rotate_left
        · intro w'
          go_simp
          with_reducible rfl
        rotate_left
        · simp only [Act.put, List.setIfInBounds_toArray, List.set_cons_zero, List.set_cons_succ, i64_w, i32_w]
          rfl
        refine take_ (i := 3) (N := some 29) (v := ?_) (a' := ?_) #[true, true, true, true, false, false] rfl rfl (by kernel_rfl) (fun _ _ _ h => h) (Or.inl ⟨by rfl, ?_⟩) hHeld ?_ ?_
        rotate_left
        · rintro w' ⟨s0, s1, s2, s3, s4, s5⟩
          go_simp
          with_reducible rfl
        rotate_left
        · simp only [Act.put, List.setIfInBounds_toArray, List.set_cons_zero, List.set_cons_succ, i64_w, i32_w]
          rfl
        refine take_ (i := 4) (N := some 30) (v := ?_) (a' := ?_) #[true, true, true, true, true, false] rfl rfl (by kernel_rfl) (fun _ _ _ h => h) (Or.inl ⟨by rfl, ?_⟩) hHeld ?_ ?_
        rotate_left
        · rintro w' ⟨s0, s1, s2, s3, s4, s5⟩
          go_simp
          with_reducible rfl
        rotate_left
        · simp only [Act.put, List.setIfInBounds_toArray, List.set_cons_zero, List.set_cons_succ, i64_w, i32_w]
          rfl
        refine one_ (i := 5) (N := some 31) #[true, true, true, true, true, true] rfl rfl (by kernel_rfl) (by decide) (fun K hK => ?_)
        refine goes_ Tryz.func70 (by kernel_rfl) rfl #[.agg #[.int .i64 p, .int .i64 n, .slice A2 y.ts.length c2], .agg #[.int .i64 p, .int .i64 n, .slice B ts.length e]] (by rfl) rfl rfl (by simp only [List.map_toArray, List.map_cons, List.map_nil]; rfl) ?_
        with_reducible refine (hS _ (Kd.C_below hDy (Below.refl _ _).drew) (Kd.C_below hDf (Below.refl _ _).drew)).mono ?_
        rintro e' yw ⟨rfl, hb9'⟩
        refine ⟨_, rfl, ?_⟩
        have hqx := below_undrewA hb9'
        refine hK.out _ _ ⟨pw_cell_below hqx p0, pw_cell_below hqx p1, pw_cell_below hqx p2, pw_cell_below hqx f0', pw_cell_below hqx f1', pw_cell_below hqx f2'⟩ (fun hHeld => ?_)
        clear hK K
        refine norm_ (a' := ?_) ?_ ?_
        rotate_left
        · show Act.put _ (some 31) _ = _
          simp only [Act.put, List.setIfInBounds_toArray, List.set_cons_zero, List.set_cons_succ, i64_w, i32_w]
          rfl
        refine done_ (by kernel_rfl) ?_
        go_wp2
        go_roundg (gk - 1)
        case measure => have := HJK.out; omega
        case rel =>
          refine ⟨j + 1, Q, cq, ?_, ?_, ?_, hb.trans (hqx.mono hb.size), ?_⟩
          · have := HJK.out; omega
          · go_num
          · rw [HZ.out]
          · rw [HZ.out]; exact Kd.R_below HR.out hqx
      | true =>
        rw [hz] at hS
        have HZ := Lib.hid (HT.out hz)
        clear hz
        generalize stabI ps ts j = rs at *
        go_wp2
        refine start_ (n := 6) (S := fun w' => w'.cell? ⟨b2, o2 + j * 3, none⟩ = some (.int .i64 p) ∧ w'.cell? ⟨b2, o2 + j * 3 + 1, none⟩ = some (.int .i64 n) ∧ w'.cell? ⟨b2, o2 + j * 3 + 2, none⟩ = some (.slice A2 y.ts.length c2) ∧ w'.cell? ⟨fb, 0, none⟩ = some (.int .i64 p) ∧ w'.cell? ⟨fb, 1, none⟩ = some (.int .i64 n) ∧ w'.cell? ⟨fb, 2, none⟩ = some (.slice B ts.length e)) (ds := []) #[false, false, false, false, false, false] (by kernel_rfl) rfl rfl ⟨p0, p1, p2, f0', f1', f2'⟩ (fun hHeld => ?_)
        refine pure_ (i := 0) (N := some 26) (v := ?_) (a' := ?_) #[true, false, false, false, false, false] rfl rfl (by kernel_rfl) (fun _ _ _ h => h) (Or.inl ⟨by rfl, ?_⟩) ?_ ?_
        rotate_left
        · intro w'
          go_simp
          with_reducible rfl
        rotate_left
        · simp only [Act.put, List.setIfInBounds_toArray, List.set_cons_zero, List.set_cons_succ, i64_w, i32_w]
          rfl
        refine pure_ (i := 1) (N := some 27) (v := ?_) (a' := ?_) #[true, true, false, false, false, false] rfl rfl (by kernel_rfl) (fun _ _ _ h => h) (Or.inl ⟨by rfl, ?_⟩) ?_ ?_
        rotate_left
        · intro w'
          go_simp
          with_reducible rfl
        rotate_left
        · simp only [Act.put, List.setIfInBounds_toArray, List.set_cons_zero, List.set_cons_succ, i64_w, i32_w]
          rfl
        refine pure_ (i := 2) (N := some 28) (v := ?_) (a' := ?_) #[true, true, true, false, false, false] rfl rfl (by kernel_rfl) (fun _ _ _ h => h) (Or.inl ⟨by rfl, ?_⟩) ?_ ?_
        rotate_left
        · intro w'
          go_simp
          with_reducible rfl
        rotate_left
        · simp only [Act.put, List.setIfInBounds_toArray, List.set_cons_zero, List.set_cons_succ, i64_w, i32_w]
          rfl
        refine take_ (i := 3) (N := some 29) (v := ?_) (a' := ?_) #[true, true, true, true, false, false] rfl rfl (by kernel_rfl) (fun _ _ _ h => h) (Or.inl ⟨by rfl, ?_⟩) hHeld ?_ ?_
        rotate_left
        · rintro w' ⟨s0, s1, s2, s3, s4, s5⟩
          go_simp
          with_reducible rfl
        rotate_left
        · simp only [Act.put, List.setIfInBounds_toArray, List.set_cons_zero, List.set_cons_succ, i64_w, i32_w]
          rfl
        refine take_ (i := 4) (N := some 30) (v := ?_) (a' := ?_) #[true, true, true, true, true, false] rfl rfl (by kernel_rfl) (fun _ _ _ h => h) (Or.inl ⟨by rfl, ?_⟩) hHeld ?_ ?_
        rotate_left
        · rintro w' ⟨s0, s1, s2, s3, s4, s5⟩
          go_simp
          with_reducible rfl
        rotate_left
        · simp only [Act.put, List.setIfInBounds_toArray, List.set_cons_zero, List.set_cons_succ, i64_w, i32_w]
          rfl
        refine one_ (i := 5) (N := some 31) #[true, true, true, true, true, true] rfl rfl (by kernel_rfl) (by decide) (fun K hK => ?_)
        refine goes_ Tryz.func70 (by kernel_rfl) rfl #[.agg #[.int .i64 p, .int .i64 n, .slice A2 y.ts.length c2], .agg #[.int .i64 p, .int .i64 n, .slice B ts.length e]] (by rfl) rfl rfl (by simp only [List.map_toArray, List.map_cons, List.map_nil]; rfl) ?_
        with_reducible refine (hS _ (Kd.C_below hDy (Below.refl _ _).drew) (Kd.C_below hDf (Below.refl _ _).drew)).mono ?_
        rintro e' yw ⟨rfl, hb9'⟩
        refine ⟨_, rfl, ?_⟩
        have hqx := below_undrewA hb9'
        refine hK.out _ _ ⟨pw_cell_below hqx p0, pw_cell_below hqx p1, pw_cell_below hqx p2, pw_cell_below hqx f0', pw_cell_below hqx f1', pw_cell_below hqx f2'⟩ (fun hHeld => ?_)
        clear hK K
        refine norm_ (a' := ?_) ?_ ?_
        rotate_left
        · show Act.put _ (some 31) _ = _
          simp only [Act.put, List.setIfInBounds_toArray, List.set_cons_zero, List.set_cons_succ, i64_w, i32_w]
          rfl
        refine done_ (by kernel_rfl) ?_
        go_wp2_with ((with_reducible refine gate_ (.call { callee := .builtin .append, args := #[.tmp 32, .tmp 34], argTypes := #[47, 47] }) rfl ?_); refine Kd.R_append kI (w0 := V) (W := yw) V.heap.size rfl (.tmp 32) (.tmp 34) 47 2 (.int .i64 0) 8 rfl Tryz.underlying47 infoI rfl (by decide) (by decide) (.slice Q rs.length cq) rs (j : Int) [.int .i64 j] (fun _ => True) (fun _ => False) rfl rfl rfl (fun _ hk => hk.elim) (fun _ _ => trivial) (Kd.R_below HR.out hqx) (hb.trans (hqx.mono hb.size)) (by have := hqx.size; omega) (by omega) ?_; intro v1 w1 hR6 hB6 hg6 hat6; obtain ⟨B6, c6, rfl, hl6, hC6⟩ := Kd.R_reads hR6)
        go_roundg (gk - 1)
        case measure => have := HJK.out; omega
        case rel =>
          refine ⟨j + 1, B6, c6, ?_, ?_, ?_, hB6, ?_⟩
          · have := HJK.out; omega
          · go_num
          · simp [HZ.out]
          · rw [HZ.out]; exact hR6
    · have hje : ps.length = j := by have := HJK.out; omega
      subst hje
      go_wp2
      refine bodyPost_ret (v := .tuple #[.slice Q (stabI ps ts ps.length).length cq, .int .i64 0]) (by simp [results, Tryz.results28, go_sem]) rfl ⟨Q, cq, rfl, ?_, ?_⟩
      · exact Kd.R_lower hRq hwV
      · exact hbV.trans (hb.mono hwV)
def stpR (p n : Int) (ms : List M9) (q d : Int) (ts : List T4) : IC := if codeF p n ms q d ts = 0 then ⟨stabI (imgV p n.toNat ms ts) ts ms.length, 0⟩ else ⟨[], codeF p n ms q d ts⟩
theorem stpR_0 {p n : Int} {ms : List M9} {q d : Int} {ts : List T4} (h : codeF p n ms q d ts = 0) : stpR p n ms q d ts = ⟨stabI (imgV p n.toNat ms ts) ts ms.length, 0⟩ := by
  unfold stpR
  rw [if_pos h]
theorem stpR_1 {p n : Int} {ms : List M9} {q d : Int} {ts : List T4} {k : Int} (h : codeF p n ms q d ts = k) (hk : k ≠ 0) : stpR p n ms q d ts = ⟨[], k⟩ := by
  unfold stpR
  rw [h, if_neg hk]
theorem stpR_len (p n : Int) (ms : List M9) (q d : Int) (ts : List T4) : (stpR p n ms q d ts).xs.length ≤ 1048576 := by
  unfold stpR
  split
  · rename_i h
    have hl := (codeF_nums h).2.2.2.2.2.2.1
    have h8 := stabI_len (imgV p n.toNat ms ts) ts ms.length
    show (stabI (imgV p n.toNat ms ts) ts ms.length).length ≤ _
    omega
  · simp
theorem call_makesIC {r : IC} {E : Nat} {P : Program} {f : FuncId} {args : Array Value} {w : World} {R : Ending → World → Prop}
    (h : Calls P f args w (MakesIC r E w)) (k : ∀ (x : Later w) A c, Below w.heap.size w x.W → r.xs.length ≤ c → kI.R E x.W w.heap.size (fun _ => True) (.slice A r.xs.length c) r.xs → R (.returned (.tuple #[.slice A r.xs.length c, .int .i64 r.c])) x.W) : Calls P f args w R :=
  h.mono fun _ w' ⟨A, c, he, hr, hb⟩ => by
    subst he
    exact k ⟨w', hb⟩ A c hb (Kd.R_reads' hr).2.1 hr
theorem call_makesIC2 {r : IC} {E : Nat} {P : Program} {f : FuncId} {args : Array Value} {w : World} {y : Later w} {R : Ending → World → Prop}
    (h : Calls P f args y.W (MakesIC r E y.W)) (k : ∀ (x : Later w) A c, Below y.W.heap.size y.W x.W → r.xs.length ≤ c → kI.R E x.W y.W.heap.size (fun _ => True) (.slice A r.xs.length c) r.xs → R (.returned (.tuple #[.slice A r.xs.length c, .int .i64 r.c])) x.W) : Calls P f args y.W R :=
  h.mono fun _ w' ⟨A, c, he, hr, hb⟩ => by
    subst he
    exact k ⟨w', y.ok.trans (hb.mono y.ok.size)⟩ A c hb (Kd.R_reads' hr).2.1 hr
theorem rowCut_same {α : Type} {d : Kd α} {E lo base : Nat} {X : World} {v : Value} {xs : List α} (h : d.R E X base (fun _ => True) v xs) (hb : lo ≤ base) : d.R E X lo (fun k => lo ≤ k ∧ k < X.heap.size) v xs :=
  Kd.R_mono (Kd.R_bound (Kd.R_lower h hb)) (fun _ hk => ⟨hk.2.1, hk.2.2.1⟩)
theorem MakesIC_nil (k : Int) (E : Nat) {w W : World} (h : Below w.heap.size w W) : MakesIC ⟨[], k⟩ E w (.returned (.tuple #[.slice none 0 0, .int .i64 k])) W := ⟨none, 0, rfl, Kd.R_nil _ _ _ _ _, h⟩
set_option maxRecDepth 100000 in
set_option maxHeartbeats 4000000 in
theorem implStabiliserOfPoly_c (p n : Int) (A : Option Addr) (c : Nat) (ms : List M9) (q d : Int) (B : Option Addr) (e : Nat) (ts : List T4) (w : World) (hC : kM.C w A ms.length ms) (hD : kT.C w B ts.length ts) (hN : ms.length ≤ 9223372036854775807) (hM : ts.length ≤ 9223372036854775807) :
    Calls Tryz.prog 29 #[.agg #[.int .i64 p, .int .i64 n, .slice A ms.length c], .agg #[.int .i64 q, .int .i64 d, .slice B ts.length e]] w (MakesIC (stpR p n ms q d ts) 2 w) := by
  have hK := fun W h h' => actionCode_c p n A c ms q d B e ts W h h' hN hM
  rcases codeF_three p n ms q d ts with h0 | h0 | h0
  · rw [stpR_0 h0]
    rw [h0] at hK
    obtain ⟨hq, hdn, hp, hp', h1, h3, hl, hcan, hdg⟩ := codeF_nums h0
    clear h0
    obtain ⟨k, hk⟩ := Int.eq_ofNat_of_zero_le (show 0 ≤ n by omega)
    rw [hk] at hdn
    subst hq
    subst hdn
    subst hk
    exact implStabP_0 _ k A c ms B e ts w hC hD hl hcan hdg hp hp' (by omega) (by omega) hK
  · rw [stpR_1 h0 (by decide)]
    rw [h0] at hK
    clear h0
    have hbW : Below w.heap.size w ((w.alloc (.cells #[.int .i64 p, .int .i64 n, .slice A ms.length c] 34)).alloc (.cells #[.int .i64 q, .int .i64 d, .slice B ts.length e] 38)) := bq2
    have hC3 := Kd.C_below hC hbW
    have hD3 := Kd.C_below hD hbW
    go_enter Tryz.func29, Tryz.ntmps29
    go_wp2_with ((go_at_call 54; (first | (with_reducible refine call_later2 (hK _ hC3 hD3) ?_) | (with_reducible refine call_later (hK _ hC3 hD3) ?_)); intro x1))
    refine bodyPost_ret (v := .tuple #[.slice none 0 0, .int .i64 1]) (by simp [results, Tryz.results29, go_sem]) rfl ?_
    exact MakesIC_nil _ _ bq2
  · rw [stpR_1 h0 (by decide)]
    rw [h0] at hK
    clear h0
    have hbW : Below w.heap.size w ((w.alloc (.cells #[.int .i64 p, .int .i64 n, .slice A ms.length c] 34)).alloc (.cells #[.int .i64 q, .int .i64 d, .slice B ts.length e] 38)) := bq2
    have hC3 := Kd.C_below hC hbW
    have hD3 := Kd.C_below hD hbW
    go_enter Tryz.func29, Tryz.ntmps29
    go_wp2_with ((go_at_call 54; (first | (with_reducible refine call_later2 (hK _ hC3 hD3) ?_) | (with_reducible refine call_later (hK _ hC3 hD3) ?_)); intro x1))
    refine bodyPost_ret (v := .tuple #[.slice none 0 0, .int .i64 2]) (by simp [results, Tryz.results29, go_sem]) rfl ?_
    exact MakesIC_nil _ _ bq2
set_option maxRecDepth 100000 in
set_option maxHeartbeats 4000000 in
theorem specStabiliserOfPoly_c (p n : Int) (A : Option Addr) (c : Nat) (ms : List M9) (q d : Int) (B : Option Addr) (e : Nat) (ts : List T4) (w : World) (hC : kM.C w A ms.length ms) (hD : kT.C w B ts.length ts) (hN : ms.length ≤ 9223372036854775807) (hM : ts.length ≤ 9223372036854775807) :
    Calls Tryz.prog 28 #[.agg #[.int .i64 p, .int .i64 n, .slice A ms.length c], .agg #[.int .i64 q, .int .i64 d, .slice B ts.length e]] w (MakesIC (stpR p n ms q d ts) 2 w) := by
  have hK := fun W h h' => l03Code_c p n A c ms q d B e ts W h h' hN hM
  rcases codeF_three p n ms q d ts with h0 | h0 | h0
  · rw [stpR_0 h0]
    rw [h0] at hK
    obtain ⟨hq, hdn, hp, hp', h1, h3, hl, hcan, hdg⟩ := codeF_nums h0
    clear h0
    obtain ⟨k, hk⟩ := Int.eq_ofNat_of_zero_le (show 0 ≤ n by omega)
    rw [hk] at hdn
    subst hq
    subst hdn
    subst hk
    exact specStabP_0 _ k A c ms B e ts w hC hD hl hcan hdg hp hp' (by omega) (by omega) hK
  · rw [stpR_1 h0 (by decide)]
    rw [h0] at hK
    clear h0
    have hbW : Below w.heap.size w ((w.alloc (.cells #[.int .i64 p, .int .i64 n, .slice A ms.length c] 34)).alloc (.cells #[.int .i64 q, .int .i64 d, .slice B ts.length e] 38)) := bq2
    have hC3 := Kd.C_below hC hbW
    have hD3 := Kd.C_below hD hbW
    go_enter Tryz.func28, Tryz.ntmps28
    go_wp2_with ((go_at_call 50; (first | (with_reducible refine call_later2 (hK _ hC3 hD3) ?_) | (with_reducible refine call_later (hK _ hC3 hD3) ?_)); intro x1))
    refine bodyPost_ret (v := .tuple #[.slice none 0 0, .int .i64 1]) (by simp [results, Tryz.results28, go_sem]) rfl ?_
    exact MakesIC_nil _ _ bq2
  · rw [stpR_1 h0 (by decide)]
    rw [h0] at hK
    clear h0
    have hbW : Below w.heap.size w ((w.alloc (.cells #[.int .i64 p, .int .i64 n, .slice A ms.length c] 34)).alloc (.cells #[.int .i64 q, .int .i64 d, .slice B ts.length e] 38)) := bq2
    have hC3 := Kd.C_below hC hbW
    have hD3 := Kd.C_below hD hbW
    go_enter Tryz.func28, Tryz.ntmps28
    go_wp2_with ((go_at_call 50; (first | (with_reducible refine call_later2 (hK _ hC3 hD3) ?_) | (with_reducible refine call_later (hK _ hC3 hD3) ?_)); intro x1))
    refine bodyPost_ret (v := .tuple #[.slice none 0 0, .int .i64 2]) (by simp [results, Tryz.results28, go_sem]) rfl ?_
    exact MakesIC_nil _ _ bq2
end Go.Proofs.YtjhkeehfchkpaaaGreat
