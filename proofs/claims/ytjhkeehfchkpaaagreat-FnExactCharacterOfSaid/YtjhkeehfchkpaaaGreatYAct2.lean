/- What all elements of a group make of a polynomial: images, l03All; no condition. -/
import Derived.Test.YtjhkeehfchkpaaaGreatYAct1
import Derived.Test.YtjhkeehfchkpaaaGreatYWLast
set_option linter.unusedVariables false
set_option linter.unusedSimpArgs false
namespace Go.Proofs.YtjhkeehfchkpaaaGreat
open Go.RowKit Go.Proofs.YtjhkeehfchkpaaaGreatW.PrintWords
attribute [local go_sem] Later.cell Later.frozen Later.lt Later.lt_add Later.le Later.le_add Later.ne Later.ne' add_at
open Go.Proofs.YtjhkeehfchkpaaaGreatW.PrintLast
def imgV (p : Int) (n : Nat) (ms : List M9) (ts : List T4) : List PV := ms.map fun m => ⟨p, n, ledL p n m ts⟩
theorem imgV_len (p : Int) (n : Nat) (ms : List M9) (ts : List T4) : (imgV p n ms ts).length = ms.length := by simp [imgV]
theorem imgV_take {p : Int} {n : Nat} {ms : List M9} {ts : List T4} {j : Nat} (h : j < ms.length) : (imgV p n ms ts).take (j + 1) = (imgV p n ms ts).take j ++ [⟨p, n, ledL p n (ms.getD j zM) ts⟩] := by
  rw [List.take_succ_eq_append_getElem (by rw [imgV_len]; exact h)]
  simp [imgV, List.getD_eq_getElem?_getD, h]
theorem below_undrewA {w W : World} (h : Below w.drew.heap.size w.drew W) : Below w.heap.size w W := ⟨h.os, h.tape, h.output, h.size, h.block⟩
set_option maxRecDepth 100000 in
set_option maxHeartbeats 4000000 in
theorem images_c (p : Int) (n : Nat) (A : Option Addr) (c : Nat) (ms : List M9) (B : Option Addr) (e : Nat) (ts : List T4) (w : World) (hC : kM.C w A ms.length ms) (hD : kT.C w B ts.length ts) (hN : ms.length ≤ 48) (hts : Canon p ts) (hd : ∀ t ∈ ts, degE t.e ≤ 12) (hp : 2 ≤ p) (hp' : p ≤ 13) (h1 : 1 ≤ n) (h3 : n ≤ 3) :
    Calls Tryz.prog 71 #[.agg #[.int .i64 p, .int .i64 n, .slice A ms.length c], .agg #[.int .i64 p, .int .i64 n, .slice B ts.length e]] w (Makes kP 38 (imgV p n ms ts) w) := by
  have HQ := Lib.hid (And.intro hts hd)
  have hbW : Below w.heap.size w ((w.alloc (.cells #[.int .i64 p, .int .i64 n, .slice A ms.length c] 34)).alloc (.cells #[.int .i64 p, .int .i64 n, .slice B ts.length e] 38)) := (below_alloc2 w (.cells #[.int .i64 p, .int .i64 n, .slice A ms.length c] 34)).trans ((below_alloc2 (w.alloc (.cells #[.int .i64 p, .int .i64 n, .slice A ms.length c] 34)) (.cells #[.int .i64 p, .int .i64 n, .slice B ts.length e] 38)).mono (by simp))
  have hC2 := Kd.C_below hC hbW
  have hD2 := Kd.C_below hD hbW
  have g2 : ((w.alloc (.cells #[.int .i64 p, .int .i64 n, .slice A ms.length c] 34)).alloc (.cells #[.int .i64 p, .int .i64 n, .slice B ts.length e] 38)).cell? ⟨w.heap.size, 2, none⟩ = some (.slice A ms.length c) := bq5
  have f0 : ((w.alloc (.cells #[.int .i64 p, .int .i64 n, .slice A ms.length c] 34)).alloc (.cells #[.int .i64 p, .int .i64 n, .slice B ts.length e] 38)).cell? ⟨w.heap.size + 1, 0, none⟩ = some (.int .i64 p) := bq5
  have f1 : ((w.alloc (.cells #[.int .i64 p, .int .i64 n, .slice A ms.length c] 34)).alloc (.cells #[.int .i64 p, .int .i64 n, .slice B ts.length e] 38)).cell? ⟨w.heap.size + 1, 1, none⟩ = some (.int .i64 n) := bq5
  have f2 : ((w.alloc (.cells #[.int .i64 p, .int .i64 n, .slice A ms.length c] 34)).alloc (.cells #[.int .i64 p, .int .i64 n, .slice B ts.length e] 38)).cell? ⟨w.heap.size + 1, 2, none⟩ = some (.slice B ts.length e) := bq5
  have hz2 : ((w.alloc (.cells #[.int .i64 p, .int .i64 n, .slice A ms.length c] 34)).alloc (.cells #[.int .i64 p, .int .i64 n, .slice B ts.length e] 38)).heap.size = w.heap.size + 1 + 1 := by simp
  have hR0 := R_zeroF (heap_alloc_last ((w.alloc (.cells #[.int .i64 p, .int .i64 n, .slice A ms.length c] 34)).alloc (.cells #[.int .i64 p, .int .i64 n, .slice B ts.length e] 38)) (.cells #[] 38)) (Nat.le_refl _)
  have hb23 := below_alloc2 ((w.alloc (.cells #[.int .i64 p, .int .i64 n, .slice A ms.length c] 34)).alloc (.cells #[.int .i64 p, .int .i64 n, .slice B ts.length e] 38)) (.cells #[] 38)
  clear hts hd
  go_enter Tryz.func71, Tryz.ntmps71
  go_wp2
  generalize hW2 : ((w.alloc (.cells #[.int .i64 p, .int .i64 n, .slice A ms.length c] 34)).alloc (.cells #[.int .i64 p, .int .i64 n, .slice B ts.length e] 38)) = W2 at *
  generalize hV1 : W2.alloc (.cells #[] 38) = V1 at *
  generalize hfb : w.heap.size + 1 = fb at *
  clear hW2 hV1
  go_loopg [12, 5] ms.length (fun g v12 v5 w' => ∃ (j : Nat) (P : Option Addr) (cP : Nat), j + g = ms.length ∧ v12 = .int .i64 j ∧ v5 = .slice P j cP ∧ Below W2.heap.size W2 w' ∧ kP.R 38 w' W2.heap.size (fun _ => True) (.slice P j cP) ((imgV p n ms ts).take j))
  case atStart => exact ⟨0, some ⟨fb + 1, 0, none⟩, 0, by omega, rfl, rfl, hb23, by rw [hz2] at hR0 ⊢; exact hR0⟩
  case round =>
    clear hR0 hb23
    obtain ⟨j, P, cP, hjk, rfl, rfl, hb, hR⟩ := hrel
    have HJK := Lib.hid hjk
    clear hjk
    by_cases hj : j < ms.length
    · obtain ⟨b, o, hA, q0, q1, q2, q3, q4, q5, q6, q7, q8⟩ := kM_at hC2 j hj
      subst hA
      have q0 := pw_cell_below hb q0
      have q1 := pw_cell_below hb q1
      have q2 := pw_cell_below hb q2
      have q3 := pw_cell_below hb q3
      have q4 := pw_cell_below hb q4
      have q5 := pw_cell_below hb q5
      have q6 := pw_cell_below hb q6
      have q7 := pw_cell_below hb q7
      have q8 := pw_cell_below hb q8
      have hj0 : (0 : Int) ≤ j := by omega
      have hj1 : (j : Int) < ms.length := by omega
      have hjn : ((j : Int)).toNat = j := by omega
      have HT := Lib.hid (imgV_take (p := p) (n := n) (ts := ts) hj)
      have hxl : ((imgV p n ms ts).take j).length = j := by rw [List.length_take, imgV_len]; omega
      have HXL := Lib.hid hxl
      clear hxl
      generalize ms.getD j zM = m at *
      generalize (imgV p n ms ts).take j = xs at *
      have hbm := below_alloc2 wr (.cells #[.int .u8 (m.r0.a.toNat : Int), .int .u8 (m.r0.b.toNat : Int), .int .u8 (m.r0.c.toNat : Int), .int .u8 (m.r1.a.toNat : Int), .int .u8 (m.r1.b.toNat : Int), .int .u8 (m.r1.c.toNat : Int), .int .u8 (m.r2.a.toNat : Int), .int .u8 (m.r2.b.toNat : Int), .int .u8 (m.r2.c.toNat : Int)] 93)
      have hb2 : Below W2.heap.size W2 (wr.alloc (.cells #[.int .u8 (m.r0.a.toNat : Int), .int .u8 (m.r0.b.toNat : Int), .int .u8 (m.r0.c.toNat : Int), .int .u8 (m.r1.a.toNat : Int), .int .u8 (m.r1.b.toNat : Int), .int .u8 (m.r1.c.toNat : Int), .int .u8 (m.r2.a.toNat : Int), .int .u8 (m.r2.b.toNat : Int), .int .u8 (m.r2.c.toNat : Int)] 93)) := hb.trans (hbm.mono hb.size)
      have hL := fun W h => leadPoly_c p n B e ts m W h HQ.out.1 HQ.out.2 hp hp' h1 h3
      have f0' := pw_cell_below hb2 f0
      have f1' := pw_cell_below hb2 f1
      have f2' := pw_cell_below hb2 f2
      have hDm := Kd.C_below hD2 hb2
      have hown : ∀ k, (Value.slice P j cP).ownBlock = some k → k < wr.heap.size := fun k hk => ((Kd.R_bound hR).1 k hk).2.2.1
      have HR := Lib.hid (And.intro hR (And.intro hbm hb2))
      generalize ledL p n m ts = le at *
      clear hR hbm hb2
      go_wp2_with (first
        | (go_at_call 103; (with_reducible refine to_makesP (V := wr.alloc (.cells #[.int .u8 (m.r0.a.toNat : Int), .int .u8 (m.r0.b.toNat : Int), .int .u8 (m.r0.c.toNat : Int), .int .u8 (m.r1.a.toNat : Int), .int .u8 (m.r1.b.toNat : Int), .int .u8 (m.r1.c.toNat : Int), .int .u8 (m.r2.a.toNat : Int), .int .u8 (m.r2.b.toNat : Int), .int .u8 (m.r2.c.toNat : Int)] 93)) (Below.refl _ _) (hL _ hDm) ?_); intro w8 B8 c8 hb8 hb8' hl8 hR8; have hsm := HR.out.2.1.size; have hs2 := HR.out.2.2.size; have hs8 := hb8.size; have hbw8 : Below wr.heap.size wr w8 := HR.out.2.1.trans (hb8.mono hsm))
        | ((with_reducible refine gate_ (.call { callee := .builtin .append, args := #[.tmp 16, .tmp 20], argTypes := #[52, 52] }) rfl ?_); refine Kd.R_append kP (w0 := w8) (W := w8) W2.heap.size rfl (.tmp 16) (.tmp 20) 52 38 (.agg #[.int .i64 0, .int .i64 0, .slice none 0 0]) 40 rfl Tryz.underlying52 infoPF rfl (by decide) (by decide) (.slice P j cP) xs ⟨p, n, le⟩ [.int .i64 p, .int .i64 n, .slice B8 le.length c8] (fun _ => True) (fun k => wr.heap.size ≤ k) rfl rfl ⟨B8, c8, rfl, Kd.R_lower (Kd.R_mono (Kd.R_bound hR8) (fun k hk => by have h9 := hk.2.1; omega)) (by omega)⟩ (fun k hk => ⟨trivial, fun e => by have := hown k e.symm; omega⟩) (fun _ _ => trivial) (Kd.R_below HR.out.1 hbw8) (Below.refl _ _) (by omega) (by have := HXL.out; omega) ?_; intro v1 w1 hR1 hB1 hg1 hat1; obtain ⟨P1, c1, rfl, hl1, _⟩ := Kd.R_reads hR1))
      go_roundg (gk - 1)
      case measure => have := HJK.out; omega
      case rel =>
        have hlen : (xs ++ [(⟨p, n, le⟩ : PV)]).length = j + 1 := by rw [List.length_append, HXL.out]; rfl
        rw [hlen] at hR1
        rw [HXL.out]
        exact ⟨j + 1, P1, c1, by have := HJK.out; omega, by go_num, rfl, (HR.out.2.2.trans (hb8.mono hs2)).trans hB1, by rw [HT.out]; exact hR1⟩
    · have hje : ms.length = j := by have := HJK.out; omega
      subst hje
      rw [show (imgV p n ms ts).take ms.length = imgV p n ms ts by rw [← imgV_len p n ms ts, List.take_length]] at hR
      go_wp2
      refine bodyPost_ret (v := .slice P ms.length cP) (by simp [results, Tryz.results71, go_sem]) rfl ⟨_, rfl, ?_, ?_⟩
      · exact Kd.R_lower hR (by omega)
      · exact hbW.trans (hb.mono (by omega))
set_option maxRecDepth 100000 in
set_option maxHeartbeats 4000000 in
theorem l03All_c (p : Int) (n : Nat) (A : Option Addr) (c : Nat) (ms : List M9) (B : Option Addr) (e : Nat) (ts : List T4) (w : World) (hC : kM.C w A ms.length ms) (hD : kT.C w B ts.length ts) (hN : ms.length ≤ 48) (hts : Canon p ts) (hd : ∀ t ∈ ts, degE t.e ≤ 12) (hp : 2 ≤ p) (hp' : p ≤ 13) (h1 : 1 ≤ n) (h3 : n ≤ 3) :
    Calls Tryz.prog 59 #[.agg #[.int .i64 p, .int .i64 n, .slice A ms.length c], .agg #[.int .i64 p, .int .i64 n, .slice B ts.length e]] w (Makes kP 38 (imgV p n ms ts) w) := by
  have HQ := Lib.hid (And.intro hts hd)
  have hbW : Below w.heap.size w ((w.alloc (.cells #[.int .i64 p, .int .i64 n, .slice A ms.length c] 34)).alloc (.cells #[.int .i64 p, .int .i64 n, .slice B ts.length e] 38)) := (below_alloc2 w (.cells #[.int .i64 p, .int .i64 n, .slice A ms.length c] 34)).trans ((below_alloc2 (w.alloc (.cells #[.int .i64 p, .int .i64 n, .slice A ms.length c] 34)) (.cells #[.int .i64 p, .int .i64 n, .slice B ts.length e] 38)).mono (by simp))
  have hC2 := Kd.C_below hC hbW
  have hD2 := Kd.C_below hD hbW
  have g2 : ((w.alloc (.cells #[.int .i64 p, .int .i64 n, .slice A ms.length c] 34)).alloc (.cells #[.int .i64 p, .int .i64 n, .slice B ts.length e] 38)).cell? ⟨w.heap.size, 2, none⟩ = some (.slice A ms.length c) := bq5
  have f0 : ((w.alloc (.cells #[.int .i64 p, .int .i64 n, .slice A ms.length c] 34)).alloc (.cells #[.int .i64 p, .int .i64 n, .slice B ts.length e] 38)).cell? ⟨w.heap.size + 1, 0, none⟩ = some (.int .i64 p) := bq5
  have f1 : ((w.alloc (.cells #[.int .i64 p, .int .i64 n, .slice A ms.length c] 34)).alloc (.cells #[.int .i64 p, .int .i64 n, .slice B ts.length e] 38)).cell? ⟨w.heap.size + 1, 1, none⟩ = some (.int .i64 n) := bq5
  have f2 : ((w.alloc (.cells #[.int .i64 p, .int .i64 n, .slice A ms.length c] 34)).alloc (.cells #[.int .i64 p, .int .i64 n, .slice B ts.length e] 38)).cell? ⟨w.heap.size + 1, 2, none⟩ = some (.slice B ts.length e) := bq5
  have hz2 : ((w.alloc (.cells #[.int .i64 p, .int .i64 n, .slice A ms.length c] 34)).alloc (.cells #[.int .i64 p, .int .i64 n, .slice B ts.length e] 38)).heap.size = w.heap.size + 1 + 1 := by simp
  have hR0 := R_zeroF (heap_alloc_last ((w.alloc (.cells #[.int .i64 p, .int .i64 n, .slice A ms.length c] 34)).alloc (.cells #[.int .i64 p, .int .i64 n, .slice B ts.length e] 38)) (.cells #[] 38)) (Nat.le_refl _)
  have hb23 := below_alloc2 ((w.alloc (.cells #[.int .i64 p, .int .i64 n, .slice A ms.length c] 34)).alloc (.cells #[.int .i64 p, .int .i64 n, .slice B ts.length e] 38)) (.cells #[] 38)
  clear hts hd
  go_enter Tryz.func59, Tryz.ntmps59
  go_wp2
  generalize hW2 : ((w.alloc (.cells #[.int .i64 p, .int .i64 n, .slice A ms.length c] 34)).alloc (.cells #[.int .i64 p, .int .i64 n, .slice B ts.length e] 38)) = W2 at *
  generalize hV1 : W2.alloc (.cells #[] 38) = V1 at *
  generalize hfb : w.heap.size + 1 = fb at *
  generalize hgb : w.heap.size = gb at *
  clear hW2 hV1
  go_loopg [6, 5] ms.length (fun g v6 v5 w' => ∃ (j : Nat) (P : Option Addr) (cP : Nat), j + g = ms.length ∧ v6 = .int .i64 j ∧ v5 = .slice P j cP ∧ Below W2.heap.size W2 w' ∧ kP.R 38 w' W2.heap.size (fun _ => True) (.slice P j cP) ((imgV p n ms ts).take j))
  case atStart => exact ⟨0, some ⟨fb + 1, 0, none⟩, 0, by omega, rfl, rfl, hb23, by rw [hz2] at hR0 ⊢; exact hR0⟩
  case round =>
    clear hR0 hb23
    obtain ⟨j, P, cP, hjk, rfl, rfl, hb, hR⟩ := hrel
    have HJK := Lib.hid hjk
    clear hjk
    have u2 := pw_cell_below hb g2
    by_cases hj : j < ms.length
    · obtain ⟨b, o, hA, q0, q1, q2, q3, q4, q5, q6, q7, q8⟩ := kM_at hC2 j hj
      subst hA
      have q0 := pw_cell_below hb q0
      have q1 := pw_cell_below hb q1
      have q2 := pw_cell_below hb q2
      have q3 := pw_cell_below hb q3
      have q4 := pw_cell_below hb q4
      have q5 := pw_cell_below hb q5
      have q6 := pw_cell_below hb q6
      have q7 := pw_cell_below hb q7
      have q8 := pw_cell_below hb q8
      have hj0 : (0 : Int) ≤ j := by omega
      have hj1 : (j : Int) < ms.length := by omega
      have hjn : ((j : Int)).toNat = j := by omega
      have HT := Lib.hid (imgV_take (p := p) (n := n) (ts := ts) hj)
      have hxl : ((imgV p n ms ts).take j).length = j := by rw [List.length_take, imgV_len]; omega
      have HXL := Lib.hid hxl
      clear hxl
      generalize ms.getD j zM = m at *
      generalize (imgV p n ms ts).take j = xs at *
      have hL := fun W h => l03Lead_c p n B e ts m W h HQ.out.1 HQ.out.2 hp hp' h1 h3
      have f0' := pw_cell_below hb f0
      have f1' := pw_cell_below hb f1
      have f2' := pw_cell_below hb f2
      have hDm := Kd.C_below hD2 hb
      have hown : ∀ k, (Value.slice P j cP).ownBlock = some k → k < wr.heap.size := fun k hk => ((Kd.R_bound hR).1 k hk).2.2.1
      have hs0 := hb.size
      generalize ledL p n m ts = le at *
      go_wp2
      refine start_ (n := 11) (S := fun w' => w'.cell? ⟨gb, 2, none⟩ = some (.slice (some ⟨b, o, none⟩) ms.length c) ∧ w'.cell? ⟨b, o + j * 9, none⟩ = some (.int .u8 (m.r0.a.toNat : Int)) ∧ w'.cell? ⟨b, o + j * 9 + 1, none⟩ = some (.int .u8 (m.r0.b.toNat : Int)) ∧ w'.cell? ⟨b, o + j * 9 + 2, none⟩ = some (.int .u8 (m.r0.c.toNat : Int)) ∧ w'.cell? ⟨b, o + j * 9 + 3, none⟩ = some (.int .u8 (m.r1.a.toNat : Int)) ∧ w'.cell? ⟨b, o + j * 9 + 4, none⟩ = some (.int .u8 (m.r1.b.toNat : Int)) ∧ w'.cell? ⟨b, o + j * 9 + 5, none⟩ = some (.int .u8 (m.r1.c.toNat : Int)) ∧ w'.cell? ⟨b, o + j * 9 + 6, none⟩ = some (.int .u8 (m.r2.a.toNat : Int)) ∧ w'.cell? ⟨b, o + j * 9 + 7, none⟩ = some (.int .u8 (m.r2.b.toNat : Int)) ∧ w'.cell? ⟨b, o + j * 9 + 8, none⟩ = some (.int .u8 (m.r2.c.toNat : Int)) ∧ w'.cell? ⟨fb, 0, none⟩ = some (.int .i64 p) ∧ w'.cell? ⟨fb, 1, none⟩ = some (.int .i64 n) ∧ w'.cell? ⟨fb, 2, none⟩ = some (.slice B ts.length e)) (ds := [9]) #[false, false, false, false, false, false, false, false, false, false, false] (by kernel_rfl) rfl rfl ⟨u2, q0, q1, q2, q3, q4, q5, q6, q7, q8, f0', f1', f2'⟩ (fun hHeld => ?_)
      refine pure_ (i := 0) (N := some 15) (v := ?_) (a' := ?_) #[true, false, false, false, false, false, false, false, false, false, false] rfl rfl (by kernel_rfl) (fun _ _ _ h => h) (Or.inl ⟨by rfl, ?_⟩) ?_ ?_
      rotate_left
      · intro w'
        go_simp
        with_reducible rfl
      rotate_left
      · simp only [Act.put, List.setIfInBounds_toArray, List.set_cons_zero, List.set_cons_succ, i64_w, i32_w]
        rfl
      refine pure_ (i := 1) (N := some 16) (v := ?_) (a' := ?_) #[true, true, false, false, false, false, false, false, false, false, false] rfl rfl (by kernel_rfl) (fun _ _ _ h => h) (Or.inl ⟨by rfl, ?_⟩) ?_ ?_
      rotate_left
      · intro w'
        go_simp
        with_reducible rfl
      rotate_left
      · simp only [Act.put, List.setIfInBounds_toArray, List.set_cons_zero, List.set_cons_succ, i64_w, i32_w]
        rfl
      refine pure_ (i := 3) (N := some 18) (v := ?_) (a' := ?_) #[true, true, false, true, false, false, false, false, false, false, false] rfl rfl (by kernel_rfl) (fun _ _ _ h => h) (Or.inl ⟨by rfl, ?_⟩) ?_ ?_
      rotate_left
      · intro w'
        go_simp
        with_reducible rfl
      rotate_left
      · simp only [Act.put, List.setIfInBounds_toArray, List.set_cons_zero, List.set_cons_succ, i64_w, i32_w]
        rfl
      refine take_ (i := 2) (N := some 17) (v := ?_) (a' := ?_) #[true, true, true, true, false, false, false, false, false, false, false] rfl rfl (by kernel_rfl) (fun _ _ _ h => h) (Or.inl ⟨by rfl, ?_⟩) hHeld ?_ ?_
      rotate_left
      · rintro w' ⟨s0, s1, s2, s3, s4, s5, s6, s7, s8, s9, s10, s11, s12⟩
        go_simp
        with_reducible rfl
      rotate_left
      · simp only [Act.put, List.setIfInBounds_toArray, List.set_cons_zero, List.set_cons_succ, i64_w, i32_w]
        rfl
      refine pure_ (i := 4) (N := some 19) (v := ?_) (a' := ?_) #[true, true, true, true, true, false, false, false, false, false, false] rfl rfl (by kernel_rfl) (fun _ _ _ h => h) (Or.inl ⟨by rfl, ?_⟩) ?_ ?_
      rotate_left
      · intro w'
        go_simp
        with_reducible rfl
      rotate_left
      · simp only [Act.put, List.setIfInBounds_toArray, List.set_cons_zero, List.set_cons_succ, i64_w, i32_w]
        rfl
      refine take_ (i := 5) (N := some 20) (v := ?_) (a' := ?_) #[true, true, true, true, true, true, false, false, false, false, false] rfl rfl (by kernel_rfl) (fun _ _ _ h => h) (Or.inl ⟨by rfl, ?_⟩) hHeld ?_ ?_
      rotate_left
      · rintro w' ⟨s0, s1, s2, s3, s4, s5, s6, s7, s8, s9, s10, s11, s12⟩
        go_simp
        with_reducible rfl
      rotate_left
      · simp only [Act.put, List.setIfInBounds_toArray, List.set_cons_zero, List.set_cons_succ, i64_w, i32_w]
        rfl
      refine take_ (i := 6) (N := some 21) (v := ?_) (a' := ?_) #[true, true, true, true, true, true, true, false, false, false, false] rfl rfl (by kernel_rfl) (fun _ _ _ h => h) (Or.inl ⟨by rfl, ?_⟩) hHeld ?_ ?_
      rotate_left
      · rintro w' ⟨s0, s1, s2, s3, s4, s5, s6, s7, s8, s9, s10, s11, s12⟩
        go_simp
        with_reducible rfl
      rotate_left
      · simp only [Act.put, List.setIfInBounds_toArray, List.set_cons_zero, List.set_cons_succ, i64_w, i32_w]
        rfl
      refine one_ (i := 7) (N := some 22) #[true, true, true, true, true, true, true, true, false, false, false] rfl rfl (by kernel_rfl) (by decide) (fun K hK => ?_)
      refine goes_ Tryz.func92 (by kernel_rfl) rfl #[.agg #[.int .u8 (m.r0.a.toNat : Int), .int .u8 (m.r0.b.toNat : Int), .int .u8 (m.r0.c.toNat : Int), .int .u8 (m.r1.a.toNat : Int), .int .u8 (m.r1.b.toNat : Int), .int .u8 (m.r1.c.toNat : Int), .int .u8 (m.r2.a.toNat : Int), .int .u8 (m.r2.b.toNat : Int), .int .u8 (m.r2.c.toNat : Int)], .agg #[.int .i64 p, .int .i64 n, .slice B ts.length e]] (by rfl) rfl rfl (by simp only [List.map_toArray, List.map_cons, List.map_nil]; rfl) ?_
      with_reducible refine (hL _ (Kd.C_below hDm (Below.refl _ _).drew)).mono ?_
      rintro e' xw ⟨B8, c8, rfl, hR8, hb8'⟩
      refine ⟨_, rfl, ?_⟩
      have hqx := below_undrewA hb8'
      have hsx := hqx.size
      refine hK.out _ _ ⟨pw_cell_below hqx u2, pw_cell_below hqx q0, pw_cell_below hqx q1, pw_cell_below hqx q2, pw_cell_below hqx q3, pw_cell_below hqx q4, pw_cell_below hqx q5, pw_cell_below hqx q6, pw_cell_below hqx q7, pw_cell_below hqx q8, pw_cell_below hqx f0', pw_cell_below hqx f1', pw_cell_below hqx f2'⟩ (fun hHeld => ?_)
      clear hK K
      refine norm_ (a' := ?_) ?_ ?_
      rotate_left
      · show Act.put _ (some 22) _ = _
        simp only [Act.put, List.setIfInBounds_toArray, List.set_cons_zero, List.set_cons_succ, i64_w, i32_w]
        rfl
      refine one_ (i := 8) (N := some 23) #[true, true, true, true, true, true, true, true, true, false, false] rfl rfl (by kernel_rfl) (by decide) (fun K hK => ?_)
      refine value_ (w1 := ?_) (v := ?_) (by rfl) rfl ?_ ?_
      rotate_left 2
      · go_simp
        constructor
        · rfl
        · rfl
      refine hK.out _ _ ⟨cell_alloc (pw_cell_below hqx u2) _, cell_alloc (pw_cell_below hqx q0) _, cell_alloc (pw_cell_below hqx q1) _, cell_alloc (pw_cell_below hqx q2) _, cell_alloc (pw_cell_below hqx q3) _, cell_alloc (pw_cell_below hqx q4) _, cell_alloc (pw_cell_below hqx q5) _, cell_alloc (pw_cell_below hqx q6) _, cell_alloc (pw_cell_below hqx q7) _, cell_alloc (pw_cell_below hqx q8) _, cell_alloc (pw_cell_below hqx f0') _, cell_alloc (pw_cell_below hqx f1') _, cell_alloc (pw_cell_below hqx f2') _⟩ (fun hHeld => ?_)
      clear hK K
      refine norm_ (a' := ?_) ?_ ?_
      rotate_left
      · show Act.put _ (some 23) _ = _
        simp only [Act.put, List.setIfInBounds_toArray, List.set_cons_zero, List.set_cons_succ, i64_w, i32_w]
        rfl
      refine last_ (i := 9) (N := some 24) #[true, true, true, true, true, true, true, true, true, true, false] rfl rfl (by kernel_rfl) (by decide) (fun K hK => ?_)
      refine Kd.R_append_step kP (w0 := xw) (W := xw) W2.heap.size (by rfl) (.tmp 15) (.tmp 23) 52 38 (.agg #[.int .i64 0, .int .i64 0, .slice none 0 0]) 40 rfl Tryz.underlying52 infoPF rfl (by decide) (by decide) (.slice P j cP) xs ⟨p, n, le⟩ [.int .i64 p, .int .i64 n, .slice B8 le.length c8] (fun _ => True) (fun k => wr.heap.size ≤ k) (by rfl) rfl ⟨B8, c8, rfl, Kd.R_lower (Kd.R_mono (Kd.R_bound hR8) (fun k hk => hk.2.1)) (by show W2.heap.size ≤ wr.heap.size; omega)⟩ (fun k hk => ⟨trivial, fun e => by have := hown k e.symm; omega⟩) (fun _ _ => trivial) (Kd.R_below hR hqx) (Below.refl _ _) (by omega) (by have := HXL.out; omega) ?_
      intro v1 w1 hR1 hB1 hg1 hat1
      obtain ⟨P1, c1, rfl, hl1, _⟩ := Kd.R_reads hR1
      refine hK.out _ _ ?_
      clear hK K
      refine norm_ (a' := ?_) ?_ ?_
      rotate_left
      · show Act.put _ (some 24) _ = _
        simp only [Act.put, List.setIfInBounds_toArray, List.set_cons_zero, List.set_cons_succ, i64_w, i32_w]
        rfl
      refine pure_ (i := 10) (N := some 5) (v := ?_) (a' := ?_) #[true, true, true, true, true, true, true, true, true, true, true] rfl rfl (by kernel_rfl) (fun _ _ _ h => h) (Or.inl ⟨by rfl, ?_⟩) ?_ ?_
      rotate_left
      · intro w'
        go_simp
        with_reducible rfl
      rotate_left
      · simp only [Act.put, List.setIfInBounds_toArray, List.set_cons_zero, List.set_cons_succ, i64_w, i32_w]
        rfl
      refine done_ (by kernel_rfl) ?_
      go_wp2
      go_roundg (gk - 1)
      case measure => have := HJK.out; omega
      case rel =>
        have hlen : (xs ++ [(⟨p, n, le⟩ : PV)]).length = j + 1 := by rw [List.length_append, HXL.out]; rfl
        rw [hlen] at hR1
        rw [HXL.out]
        exact ⟨j + 1, P1, c1, by have := HJK.out; omega, by go_num, rfl, (hb.trans (hqx.mono hb.size)).trans hB1, by rw [HT.out]; exact hR1⟩
    · have hje : ms.length = j := by have := HJK.out; omega
      subst hje
      rw [show (imgV p n ms ts).take ms.length = imgV p n ms ts by rw [← imgV_len p n ms ts, List.take_length]] at hR
      go_wp2
      refine bodyPost_ret (v := .slice P ms.length cP) (by simp [results, Tryz.results59, go_sem]) rfl ⟨_, rfl, ?_, ?_⟩
      · exact Kd.R_lower hR (by omega)
      · rw [hgb]
        exact hbW.trans (hb.mono (by omega))
end Go.Proofs.YtjhkeehfchkpaaaGreat
