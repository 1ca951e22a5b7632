/- OrbitSum of both sides; no condition. -/
import Derived.Test.YtjhkeehfchkpaaaGreatYOrb1
import Derived.Test.YtjhkeehfchkpaaaGreatYLawKit2
set_option linter.unusedVariables false
set_option linter.unusedSimpArgs false
namespace Go.Proofs.YtjhkeehfchkpaaaGreat
open Go.RowKit Go.Proofs.YtjhkeehfchkpaaaGreatW.PrintWords
attribute [local go_sem] Later.cell Later.frozen Later.lt Later.lt_add Later.le Later.le_add Later.ne Later.ne' add_at
open Go.Proofs.YtjhkeehfchkpaaaGreatW.PrintLast
attribute [local go_sem 2000] run_eqM guardM
def osR (p n : Int) (ms : List M9) (q d : Int) (ts : List T4) : PC := if codeF p n ms q d ts = 0 then ⟨p, n, addL p (orbV (imgV p n.toNat ms ts)), 0⟩ else ⟨0, 0, [], codeF p n ms q d ts⟩
theorem osR_0 {p n : Int} {ms : List M9} {q d : Int} {ts : List T4} (h : codeF p n ms q d ts = 0) : osR p n ms q d ts = ⟨p, n, addL p (orbV (imgV p n.toNat ms ts)), 0⟩ := by
  unfold osR
  rw [if_pos h]
theorem osR_1 {p n : Int} {ms : List M9} {q d : Int} {ts : List T4} {k : Int} (h : codeF p n ms q d ts = k) (hk : k ≠ 0) : osR p n ms q d ts = ⟨0, 0, [], k⟩ := by
  unfold osR
  rw [h, if_neg hk]
theorem osR_len (p n : Int) (ms : List M9) (q d : Int) (ts : List T4) : (osR p n ms q d ts).ts.length ≤ 1048576 := by
  unfold osR
  split
  · rename_i h
    obtain ⟨_, _, hp, _, _, h3, _, _, hd⟩ := codeF_nums h
    have hl := addL_len (p := p) hp (likes_orb (img_likes (p := p) hp (n := n.toNat) (by omega) ms hd)).deg
    show (addL p (orbV (imgV p n.toNat ms ts))).length ≤ _
    omega
  · simp
set_option maxRecDepth 100000 in
set_option maxHeartbeats 4000000 in
theorem implOrbitSum_0 (p : Int) (n : Nat) (A : Option Addr) (c : Nat) (ms : List M9) (B : Option Addr) (e : Nat) (ts : List T4) (w : World) (hC : kM.C w A ms.length ms) (hD : kT.C w B ts.length ts) (hN : ms.length ≤ 48) (hts : Canon p ts) (hd : ∀ t ∈ ts, degE t.e ≤ 12) (hp : 2 ≤ p) (hp' : p ≤ 13) (h1 : 1 ≤ n) (h3 : n ≤ 3)
    (hK : ∀ W, kM.C W A ms.length ms → kT.C W B ts.length ts → Calls Tryz.prog 54 #[.agg #[.int .i64 p, .int .i64 n, .slice A ms.length c], .agg #[.int .i64 p, .int .i64 n, .slice B ts.length e]] W (Gives (.int .i64 0) W)) :
    Calls Tryz.prog 34 #[.agg #[.int .i64 p, .int .i64 n, .slice A ms.length c], .agg #[.int .i64 p, .int .i64 n, .slice B ts.length e]] w (MakesPC ⟨p, n, addL p (orbV (imgV p n ms ts)), 0⟩ 80 w) := by
  have hF := fun W h5 h6 => orbit_c p n A c ms B e ts W h5 h6 hN hts hd hp hp' h1 h3
  have hU := fun W L cl h5 => addUp_c p n B e ts L cl (orbV (imgV p n ms ts)) (orbV (imgV p n ms ts)).length rfl W h5 (by have h8 := orbV_len (imgV p n ms ts); rw [imgV_len] at h8; omega) hp hp' (likes_orb (img_likes hp h3 ms hd))
  have hbW : Below w.heap.size w (((w.alloc (.cells #[.int .i64 p, .int .i64 n, .slice A ms.length c] 34)).alloc (.cells #[.int .i64 p, .int .i64 n, .slice B ts.length e] 38)).alloc (.cells #[.int .i64 0, .int .i64 0, .slice none 0 0] 38)) := bq2
  have hC3 := Kd.C_below hC hbW
  have hD3 := Kd.C_below hD hbW
  clear hts hd
  generalize orbV (imgV p n ms ts) = os at *
  go_enter Tryz.func34, Tryz.ntmps34
  go_wp2_with ((go_at_call 54; (first | (with_reducible refine call_later2 (hK _ hC3 hD3) ?_) | (with_reducible refine call_later (hK _ hC3 hD3) ?_)); intro x1); have hX : Below (((w.alloc (.cells #[.int .i64 p, .int .i64 n, .slice A ms.length c] 34)).alloc (.cells #[.int .i64 p, .int .i64 n, .slice B ts.length e] 38)).alloc (.cells #[.int .i64 0, .int .i64 0, .slice none 0 0] 38)).heap.size (((w.alloc (.cells #[.int .i64 p, .int .i64 n, .slice A ms.length c] 34)).alloc (.cells #[.int .i64 p, .int .i64 n, .slice B ts.length e] 38)).alloc (.cells #[.int .i64 0, .int .i64 0, .slice none 0 0] 38)) x1.W := bq2; have g0 := pw_cell_below hX (show (((w.alloc (.cells #[.int .i64 p, .int .i64 n, .slice A ms.length c] 34)).alloc (.cells #[.int .i64 p, .int .i64 n, .slice B ts.length e] 38)).alloc (.cells #[.int .i64 0, .int .i64 0, .slice none 0 0] 38)).cell? ⟨w.heap.size, 0, none⟩ = some (.int .i64 p) from bq5); have g1 := pw_cell_below hX (show (((w.alloc (.cells #[.int .i64 p, .int .i64 n, .slice A ms.length c] 34)).alloc (.cells #[.int .i64 p, .int .i64 n, .slice B ts.length e] 38)).alloc (.cells #[.int .i64 0, .int .i64 0, .slice none 0 0] 38)).cell? ⟨w.heap.size, 1, none⟩ = some (.int .i64 n) from bq5); have g2 := pw_cell_below hX (show (((w.alloc (.cells #[.int .i64 p, .int .i64 n, .slice A ms.length c] 34)).alloc (.cells #[.int .i64 p, .int .i64 n, .slice B ts.length e] 38)).alloc (.cells #[.int .i64 0, .int .i64 0, .slice none 0 0] 38)).cell? ⟨w.heap.size, 2, none⟩ = some (.slice A ms.length c) from bq5); have f0 := pw_cell_below hX (show (((w.alloc (.cells #[.int .i64 p, .int .i64 n, .slice A ms.length c] 34)).alloc (.cells #[.int .i64 p, .int .i64 n, .slice B ts.length e] 38)).alloc (.cells #[.int .i64 0, .int .i64 0, .slice none 0 0] 38)).cell? ⟨w.heap.size + 1, 0, none⟩ = some (.int .i64 p) from bq5); have f1 := pw_cell_below hX (show (((w.alloc (.cells #[.int .i64 p, .int .i64 n, .slice A ms.length c] 34)).alloc (.cells #[.int .i64 p, .int .i64 n, .slice B ts.length e] 38)).alloc (.cells #[.int .i64 0, .int .i64 0, .slice none 0 0] 38)).cell? ⟨w.heap.size + 1, 1, none⟩ = some (.int .i64 n) from bq5); have f2 := pw_cell_below hX (show (((w.alloc (.cells #[.int .i64 p, .int .i64 n, .slice A ms.length c] 34)).alloc (.cells #[.int .i64 p, .int .i64 n, .slice B ts.length e] 38)).alloc (.cells #[.int .i64 0, .int .i64 0, .slice none 0 0] 38)).cell? ⟨w.heap.size + 1, 2, none⟩ = some (.slice B ts.length e) from bq5); have r0 := pw_cell_below hX (show (((w.alloc (.cells #[.int .i64 p, .int .i64 n, .slice A ms.length c] 34)).alloc (.cells #[.int .i64 p, .int .i64 n, .slice B ts.length e] 38)).alloc (.cells #[.int .i64 0, .int .i64 0, .slice none 0 0] 38)).cell? ⟨w.heap.size + 1 + 1, 0, none⟩ = some (.int .i64 0) from bq5); have r1 := pw_cell_below hX (show (((w.alloc (.cells #[.int .i64 p, .int .i64 n, .slice A ms.length c] 34)).alloc (.cells #[.int .i64 p, .int .i64 n, .slice B ts.length e] 38)).alloc (.cells #[.int .i64 0, .int .i64 0, .slice none 0 0] 38)).cell? ⟨w.heap.size + 1 + 1, 1, none⟩ = some (.int .i64 0) from bq5); have r2 := pw_cell_below hX (show (((w.alloc (.cells #[.int .i64 p, .int .i64 n, .slice A ms.length c] 34)).alloc (.cells #[.int .i64 p, .int .i64 n, .slice B ts.length e] 38)).alloc (.cells #[.int .i64 0, .int .i64 0, .slice none 0 0] 38)).cell? ⟨w.heap.size + 1 + 1, 2, none⟩ = some (.slice none 0 0) from bq5); have r3 : ∀ j, x1.W.frozen? ⟨w.heap.size + 1 + 1, j, none⟩ = false := (fun j => (hX.frozen (p := ⟨w.heap.size + 1 + 1, j, none⟩) (by show w.heap.size + 1 + 1 < (((w.alloc (.cells #[.int .i64 p, .int .i64 n, .slice A ms.length c] 34)).alloc (.cells #[.int .i64 p, .int .i64 n, .slice B ts.length e] 38)).alloc (.cells #[.int .i64 0, .int .i64 0, .slice none 0 0] 38)).heap.size; simp)).trans (show (((w.alloc (.cells #[.int .i64 p, .int .i64 n, .slice A ms.length c] 34)).alloc (.cells #[.int .i64 p, .int .i64 n, .slice B ts.length e] 38)).alloc (.cells #[.int .i64 0, .int .i64 0, .slice none 0 0] 38)).frozen? ⟨w.heap.size + 1 + 1, j, none⟩ = false from bq5)); have hb2 : Below w.heap.size w x1.W := bq2; have zz2 : w.heap.size + 1 + 1 < x1.W.heap.size := (by have := x1.ok.size; simp at this; omega))
  clear hC3 hD3 hX hbW
  have hC3 := Kd.C_below hC hb2
  have hD3 := Kd.C_below hD hb2
  generalize x1.W = V at *
  clear x1
  have HZ := Lib.hid zz2
  generalize hrb : w.heap.size + 1 + 1 = rb at *
  generalize hfb : w.heap.size + 1 = fb at *
  generalize hgb : w.heap.size = gb at *
  refine start_ (n := 7) (S := fun w' => w'.cell? ⟨gb, 0, none⟩ = some (.int .i64 p) ∧ w'.cell? ⟨gb, 1, none⟩ = some (.int .i64 n) ∧ w'.cell? ⟨gb, 2, none⟩ = some (.slice A ms.length c) ∧ w'.cell? ⟨fb, 0, none⟩ = some (.int .i64 p) ∧ w'.cell? ⟨fb, 1, none⟩ = some (.int .i64 n) ∧ w'.cell? ⟨fb, 2, none⟩ = some (.slice B ts.length e)) (ds := [5]) #[false, false, false, false, false, false, false] (by kernel_rfl) rfl rfl ⟨g0, g1, g2, f0, f1, f2⟩ (fun hHeld => ?_)
  refine take_ (i := 0) (N := some 14) (v := ?_) (a' := ?_) #[true, false, false, false, false, false, false] rfl rfl (by kernel_rfl) (fun _ _ _ h => h) (Or.inl ⟨by rfl, ?_⟩) hHeld ?_ ?_
  rotate_left
  · rintro w' ⟨s0, s1, s2, s3, s4, s5⟩
    go_simp
    with_reducible rfl
  rotate_left
  · simp only [Act.put, List.setIfInBounds_toArray, List.set_cons_zero, List.set_cons_succ, i64_w, i32_w]
    rfl
  refine take_ (i := 1) (N := some 15) (v := ?_) (a' := ?_) #[true, true, false, false, false, false, false] rfl rfl (by kernel_rfl) (fun _ _ _ h => h) (Or.inl ⟨by rfl, ?_⟩) hHeld ?_ ?_
  rotate_left
  · rintro w' ⟨s0, s1, s2, s3, s4, s5⟩
    go_simp
    with_reducible rfl
  rotate_left
  · simp only [Act.put, List.setIfInBounds_toArray, List.set_cons_zero, List.set_cons_succ, i64_w, i32_w]
    rfl
  refine take_ (i := 2) (N := some 16) (v := ?_) (a' := ?_) #[true, true, true, false, false, false, false] rfl rfl (by kernel_rfl) (fun _ _ _ h => h) (Or.inl ⟨by rfl, ?_⟩) hHeld ?_ ?_
  rotate_left
  · rintro w' ⟨s0, s1, s2, s3, s4, s5⟩
    go_simp
    with_reducible rfl
  rotate_left
  · simp only [Act.put, List.setIfInBounds_toArray, List.set_cons_zero, List.set_cons_succ, i64_w, i32_w]
    rfl
  refine one_ (i := 3) (N := some 17) #[true, true, true, true, false, false, false] rfl rfl (by kernel_rfl) (by decide) (fun K hK => ?_)
  refine goes_ Tryz.func75 (by kernel_rfl) rfl #[.agg #[.int .i64 p, .int .i64 n, .slice A ms.length c], .agg #[.int .i64 p, .int .i64 n, .slice B ts.length e]] (by rfl) rfl rfl (by simp only [List.map_toArray, List.map_cons, List.map_nil]; rfl) ?_
  with_reducible refine (hF _ (Kd.C_below hC3 (Below.refl _ _).drew) (Kd.C_below hD3 (Below.refl _ _).drew)).mono ?_
  rintro e' xw ⟨v9, rfl, hR8, hb8'⟩
  refine ⟨_, rfl, ?_⟩
  have hqx := below_undrewA hb8'
  obtain ⟨L8, c8, rfl, _, hC8⟩ := Kd.R_reads hR8
  refine hK.out _ _ ⟨pw_cell_below hqx g0, pw_cell_below hqx g1, pw_cell_below hqx g2, pw_cell_below hqx f0, pw_cell_below hqx f1, pw_cell_below hqx f2⟩ (fun hHeld => ?_)
  clear hK K
  refine norm_ (a' := ?_) ?_ ?_
  rotate_left
  · show Act.put _ (some 17) _ = _
    simp only [Act.put, List.setIfInBounds_toArray, List.set_cons_zero, List.set_cons_succ, i64_w, i32_w]
    rfl
  refine one_ (i := 4) (N := some 18) #[true, true, true, true, true, false, false] rfl rfl (by kernel_rfl) (by decide) (fun K hK => ?_)
  refine goes_ Tryz.func74 (by kernel_rfl) rfl #[.agg #[.int .i64 p, .int .i64 n, .slice B ts.length e], .slice L8 os.length c8] (by rfl) rfl rfl (by simp only [List.map_toArray, List.map_cons, List.map_nil]; rfl) ?_
  with_reducible refine (hU _ L8 c8 hC8).mono ?_
  rintro e' yw ⟨A9, c9, rfl, hR9, hb9'⟩
  refine ⟨_, rfl, ?_⟩
  have hqy := hqx.trans (hb9'.mono hqx.size)
  have z0 := pw_cell_below hqy r0
  have z1 := pw_cell_below hqy r1
  have z2 := pw_cell_below hqy r2
  have z3 := fun j => (hqy.frozen (p := ⟨rb, j, none⟩) (by show rb < _; have := HZ.out; omega)).trans (r3 j)
  refine hK.out _ _ ⟨pw_cell_below hqy g0, pw_cell_below hqy g1, pw_cell_below hqy g2, pw_cell_below hqy f0, pw_cell_below hqy f1, pw_cell_below hqy f2⟩ (fun hHeld => ?_)
  clear hK K
  refine norm_ (a' := ?_) ?_ ?_
  rotate_left
  · show Act.put _ (some 18) _ = _
    simp only [Act.put, List.setIfInBounds_toArray, List.set_cons_zero, List.set_cons_succ, i64_w, i32_w]
    rfl
  refine last_ (i := 5) (N := none) #[true, true, true, true, true, true, false] rfl rfl (by kernel_rfl) (by decide) (fun K hK => ?_)
  refine skip_ (w1 := ?_) (by rfl) rfl ?_ ?_
  rotate_left
  · go_simp
    rfl
  refine hK.out _ _ ?_
  clear hK K
  refine pure_ (i := 6) (N := some 5) (v := ?_) (a' := ?_) #[true, true, true, true, true, true, true] rfl rfl (by kernel_rfl) (fun _ _ _ h => h) (Or.inl ⟨by rfl, ?_⟩) ?_ ?_
  rotate_left
  · intro w'
    go_simp
    with_reducible rfl
  rotate_left
  · simp only [Act.put, List.setIfInBounds_toArray, List.set_cons_zero, List.set_cons_succ, i64_w, i32_w]
    rfl
  refine done_ (by kernel_rfl) ?_
  go_wp2
  refine bodyPost_ret (v := .tuple #[.agg #[.int .i64 p, .int .i64 n, .slice A9 (addL p os).length c9], .int .i64 0]) (by simp [results, Tryz.results34, go_sem, z0, z1, z2, z3]) rfl ⟨A9, c9, rfl, ?_, ?_⟩
  · exact Kd.R_lower (R_set3 (Kd.R_mono (Kd.R_bound hR9) (ok' := fun k => k ≠ rb) (fun k hk => by have h4 := hk.2.1; have h5 := hqx.size; have h6 := HZ.out; show k ≠ rb; have h7 : xw.heap.size ≤ k := h4; omega)) (fun k hk => hk) (Nat.le_refl _) _ _ _) (by have h5 := hqx.size; have h6 := HZ.out; show w.heap.size ≤ xw.heap.size; omega)
  · rw [hgb]
    exact below_set3 (hb2.trans (hqy.mono (by have h6 := HZ.out; omega))) (by omega) _ _ _
set_option maxRecDepth 100000 in
set_option maxHeartbeats 4000000 in
theorem specOrbitSum_0 (p : Int) (n : Nat) (A : Option Addr) (c : Nat) (ms : List M9) (B : Option Addr) (e : Nat) (ts : List T4) (w : World) (hC : kM.C w A ms.length ms) (hD : kT.C w B ts.length ts) (hN : ms.length ≤ 48) (hts : Canon p ts) (hd : ∀ t ∈ ts, degE t.e ≤ 12) (hp : 2 ≤ p) (hp' : p ≤ 13) (h1 : 1 ≤ n) (h3 : n ≤ 3)
    (hK : ∀ W, kM.C W A ms.length ms → kT.C W B ts.length ts → Calls Tryz.prog 50 #[.agg #[.int .i64 p, .int .i64 n, .slice A ms.length c], .agg #[.int .i64 p, .int .i64 n, .slice B ts.length e]] W (Gives (.int .i64 0) W)) :
    Calls Tryz.prog 33 #[.agg #[.int .i64 p, .int .i64 n, .slice A ms.length c], .agg #[.int .i64 p, .int .i64 n, .slice B ts.length e]] w (MakesPC ⟨p, n, addL p (orbV (imgV p n ms ts)), 0⟩ 80 w) := by
  have hF := fun W h5 h6 => l03Orbit_c p n A c ms B e ts W h5 h6 hN hts hd hp hp' h1 h3
  have hU := fun W L cl h5 => l03Add_c p n B e ts L cl (orbV (imgV p n ms ts)) (orbV (imgV p n ms ts)).length rfl W h5 (by have h8 := orbV_len (imgV p n ms ts); rw [imgV_len] at h8; omega) hp hp' (likes_orb (img_likes hp h3 ms hd))
  have hbW : Below w.heap.size w (((w.alloc (.cells #[.int .i64 p, .int .i64 n, .slice A ms.length c] 34)).alloc (.cells #[.int .i64 p, .int .i64 n, .slice B ts.length e] 38)).alloc (.cells #[.int .i64 0, .int .i64 0, .slice none 0 0] 38)) := bq2
  have hC3 := Kd.C_below hC hbW
  have hD3 := Kd.C_below hD hbW
  clear hts hd
  generalize orbV (imgV p n ms ts) = os at *
  go_enter Tryz.func33, Tryz.ntmps33
  go_wp2_with ((go_at_call 50; (first | (with_reducible refine call_later2 (hK _ hC3 hD3) ?_) | (with_reducible refine call_later (hK _ hC3 hD3) ?_)); intro x1); have hX : Below (((w.alloc (.cells #[.int .i64 p, .int .i64 n, .slice A ms.length c] 34)).alloc (.cells #[.int .i64 p, .int .i64 n, .slice B ts.length e] 38)).alloc (.cells #[.int .i64 0, .int .i64 0, .slice none 0 0] 38)).heap.size (((w.alloc (.cells #[.int .i64 p, .int .i64 n, .slice A ms.length c] 34)).alloc (.cells #[.int .i64 p, .int .i64 n, .slice B ts.length e] 38)).alloc (.cells #[.int .i64 0, .int .i64 0, .slice none 0 0] 38)) x1.W := bq2; have g0 := pw_cell_below hX (show (((w.alloc (.cells #[.int .i64 p, .int .i64 n, .slice A ms.length c] 34)).alloc (.cells #[.int .i64 p, .int .i64 n, .slice B ts.length e] 38)).alloc (.cells #[.int .i64 0, .int .i64 0, .slice none 0 0] 38)).cell? ⟨w.heap.size, 0, none⟩ = some (.int .i64 p) from bq5); have g1 := pw_cell_below hX (show (((w.alloc (.cells #[.int .i64 p, .int .i64 n, .slice A ms.length c] 34)).alloc (.cells #[.int .i64 p, .int .i64 n, .slice B ts.length e] 38)).alloc (.cells #[.int .i64 0, .int .i64 0, .slice none 0 0] 38)).cell? ⟨w.heap.size, 1, none⟩ = some (.int .i64 n) from bq5); have g2 := pw_cell_below hX (show (((w.alloc (.cells #[.int .i64 p, .int .i64 n, .slice A ms.length c] 34)).alloc (.cells #[.int .i64 p, .int .i64 n, .slice B ts.length e] 38)).alloc (.cells #[.int .i64 0, .int .i64 0, .slice none 0 0] 38)).cell? ⟨w.heap.size, 2, none⟩ = some (.slice A ms.length c) from bq5); have f0 := pw_cell_below hX (show (((w.alloc (.cells #[.int .i64 p, .int .i64 n, .slice A ms.length c] 34)).alloc (.cells #[.int .i64 p, .int .i64 n, .slice B ts.length e] 38)).alloc (.cells #[.int .i64 0, .int .i64 0, .slice none 0 0] 38)).cell? ⟨w.heap.size + 1, 0, none⟩ = some (.int .i64 p) from bq5); have f1 := pw_cell_below hX (show (((w.alloc (.cells #[.int .i64 p, .int .i64 n, .slice A ms.length c] 34)).alloc (.cells #[.int .i64 p, .int .i64 n, .slice B ts.length e] 38)).alloc (.cells #[.int .i64 0, .int .i64 0, .slice none 0 0] 38)).cell? ⟨w.heap.size + 1, 1, none⟩ = some (.int .i64 n) from bq5); have f2 := pw_cell_below hX (show (((w.alloc (.cells #[.int .i64 p, .int .i64 n, .slice A ms.length c] 34)).alloc (.cells #[.int .i64 p, .int .i64 n, .slice B ts.length e] 38)).alloc (.cells #[.int .i64 0, .int .i64 0, .slice none 0 0] 38)).cell? ⟨w.heap.size + 1, 2, none⟩ = some (.slice B ts.length e) from bq5); have r0 := pw_cell_below hX (show (((w.alloc (.cells #[.int .i64 p, .int .i64 n, .slice A ms.length c] 34)).alloc (.cells #[.int .i64 p, .int .i64 n, .slice B ts.length e] 38)).alloc (.cells #[.int .i64 0, .int .i64 0, .slice none 0 0] 38)).cell? ⟨w.heap.size + 1 + 1, 0, none⟩ = some (.int .i64 0) from bq5); have r1 := pw_cell_below hX (show (((w.alloc (.cells #[.int .i64 p, .int .i64 n, .slice A ms.length c] 34)).alloc (.cells #[.int .i64 p, .int .i64 n, .slice B ts.length e] 38)).alloc (.cells #[.int .i64 0, .int .i64 0, .slice none 0 0] 38)).cell? ⟨w.heap.size + 1 + 1, 1, none⟩ = some (.int .i64 0) from bq5); have r2 := pw_cell_below hX (show (((w.alloc (.cells #[.int .i64 p, .int .i64 n, .slice A ms.length c] 34)).alloc (.cells #[.int .i64 p, .int .i64 n, .slice B ts.length e] 38)).alloc (.cells #[.int .i64 0, .int .i64 0, .slice none 0 0] 38)).cell? ⟨w.heap.size + 1 + 1, 2, none⟩ = some (.slice none 0 0) from bq5); have r3 : ∀ j, x1.W.frozen? ⟨w.heap.size + 1 + 1, j, none⟩ = false := (fun j => (hX.frozen (p := ⟨w.heap.size + 1 + 1, j, none⟩) (by show w.heap.size + 1 + 1 < (((w.alloc (.cells #[.int .i64 p, .int .i64 n, .slice A ms.length c] 34)).alloc (.cells #[.int .i64 p, .int .i64 n, .slice B ts.length e] 38)).alloc (.cells #[.int .i64 0, .int .i64 0, .slice none 0 0] 38)).heap.size; simp)).trans (show (((w.alloc (.cells #[.int .i64 p, .int .i64 n, .slice A ms.length c] 34)).alloc (.cells #[.int .i64 p, .int .i64 n, .slice B ts.length e] 38)).alloc (.cells #[.int .i64 0, .int .i64 0, .slice none 0 0] 38)).frozen? ⟨w.heap.size + 1 + 1, j, none⟩ = false from bq5)); have hb2 : Below w.heap.size w x1.W := bq2; have zz2 : w.heap.size + 1 + 1 < x1.W.heap.size := (by have := x1.ok.size; simp at this; omega))
  clear hC3 hD3 hX hbW
  have hC3 := Kd.C_below hC hb2
  have hD3 := Kd.C_below hD hb2
  generalize x1.W = V at *
  clear x1
  have HZ := Lib.hid zz2
  generalize hrb : w.heap.size + 1 + 1 = rb at *
  generalize hfb : w.heap.size + 1 = fb at *
  generalize hgb : w.heap.size = gb at *
  refine start_ (n := 7) (S := fun w' => w'.cell? ⟨gb, 0, none⟩ = some (.int .i64 p) ∧ w'.cell? ⟨gb, 1, none⟩ = some (.int .i64 n) ∧ w'.cell? ⟨gb, 2, none⟩ = some (.slice A ms.length c) ∧ w'.cell? ⟨fb, 0, none⟩ = some (.int .i64 p) ∧ w'.cell? ⟨fb, 1, none⟩ = some (.int .i64 n) ∧ w'.cell? ⟨fb, 2, none⟩ = some (.slice B ts.length e)) (ds := [5]) #[false, false, false, false, false, false, false] (by kernel_rfl) rfl rfl ⟨g0, g1, g2, f0, f1, f2⟩ (fun hHeld => ?_)
  refine take_ (i := 0) (N := some 14) (v := ?_) (a' := ?_) #[true, false, false, false, false, false, false] rfl rfl (by kernel_rfl) (fun _ _ _ h => h) (Or.inl ⟨by rfl, ?_⟩) hHeld ?_ ?_
  rotate_left
  · rintro w' ⟨s0, s1, s2, s3, s4, s5⟩
    go_simp
    with_reducible rfl
  rotate_left
  · simp only [Act.put, List.setIfInBounds_toArray, List.set_cons_zero, List.set_cons_succ, i64_w, i32_w]
    rfl
  refine take_ (i := 1) (N := some 15) (v := ?_) (a' := ?_) #[true, true, false, false, false, false, false] rfl rfl (by kernel_rfl) (fun _ _ _ h => h) (Or.inl ⟨by rfl, ?_⟩) hHeld ?_ ?_
  rotate_left
  · rintro w' ⟨s0, s1, s2, s3, s4, s5⟩
    go_simp
    with_reducible rfl
  rotate_left
  · simp only [Act.put, List.setIfInBounds_toArray, List.set_cons_zero, List.set_cons_succ, i64_w, i32_w]
    rfl
  refine take_ (i := 2) (N := some 16) (v := ?_) (a' := ?_) #[true, true, true, false, false, false, false] rfl rfl (by kernel_rfl) (fun _ _ _ h => h) (Or.inl ⟨by rfl, ?_⟩) hHeld ?_ ?_
  rotate_left
  · rintro w' ⟨s0, s1, s2, s3, s4, s5⟩
    go_simp
    with_reducible rfl
  rotate_left
  · simp only [Act.put, List.setIfInBounds_toArray, List.set_cons_zero, List.set_cons_succ, i64_w, i32_w]
    rfl
  refine one_ (i := 3) (N := some 17) #[true, true, true, true, false, false, false] rfl rfl (by kernel_rfl) (by decide) (fun K hK => ?_)
  refine goes_ Tryz.func73 (by kernel_rfl) rfl #[.agg #[.int .i64 p, .int .i64 n, .slice A ms.length c], .agg #[.int .i64 p, .int .i64 n, .slice B ts.length e]] (by rfl) rfl rfl (by simp only [List.map_toArray, List.map_cons, List.map_nil]; rfl) ?_
  with_reducible refine (hF _ (Kd.C_below hC3 (Below.refl _ _).drew) (Kd.C_below hD3 (Below.refl _ _).drew)).mono ?_
  rintro e' xw ⟨v9, rfl, hR8, hb8'⟩
  refine ⟨_, rfl, ?_⟩
  have hqx := below_undrewA hb8'
  obtain ⟨L8, c8, rfl, _, hC8⟩ := Kd.R_reads hR8
  refine hK.out _ _ ⟨pw_cell_below hqx g0, pw_cell_below hqx g1, pw_cell_below hqx g2, pw_cell_below hqx f0, pw_cell_below hqx f1, pw_cell_below hqx f2⟩ (fun hHeld => ?_)
  clear hK K
  refine norm_ (a' := ?_) ?_ ?_
  rotate_left
  · show Act.put _ (some 17) _ = _
    simp only [Act.put, List.setIfInBounds_toArray, List.set_cons_zero, List.set_cons_succ, i64_w, i32_w]
    rfl
  refine one_ (i := 4) (N := some 18) #[true, true, true, true, true, false, false] rfl rfl (by kernel_rfl) (by decide) (fun K hK => ?_)
  refine goes_ Tryz.func58 (by kernel_rfl) rfl #[.agg #[.int .i64 p, .int .i64 n, .slice B ts.length e], .slice L8 os.length c8] (by rfl) rfl rfl (by simp only [List.map_toArray, List.map_cons, List.map_nil]; rfl) ?_
  with_reducible refine (hU _ L8 c8 hC8).mono ?_
  rintro e' yw ⟨A9, c9, rfl, hR9, hb9'⟩
  refine ⟨_, rfl, ?_⟩
  have hqy := hqx.trans (hb9'.mono hqx.size)
  have z0 := pw_cell_below hqy r0
  have z1 := pw_cell_below hqy r1
  have z2 := pw_cell_below hqy r2
  have z3 := fun j => (hqy.frozen (p := ⟨rb, j, none⟩) (by show rb < _; have := HZ.out; omega)).trans (r3 j)
  refine hK.out _ _ ⟨pw_cell_below hqy g0, pw_cell_below hqy g1, pw_cell_below hqy g2, pw_cell_below hqy f0, pw_cell_below hqy f1, pw_cell_below hqy f2⟩ (fun hHeld => ?_)
  clear hK K
  refine norm_ (a' := ?_) ?_ ?_
  rotate_left
  · show Act.put _ (some 18) _ = _
    simp only [Act.put, List.setIfInBounds_toArray, List.set_cons_zero, List.set_cons_succ, i64_w, i32_w]
    rfl
  refine last_ (i := 5) (N := none) #[true, true, true, true, true, true, false] rfl rfl (by kernel_rfl) (by decide) (fun K hK => ?_)
  refine skip_ (w1 := ?_) (by rfl) rfl ?_ ?_
  rotate_left
  · go_simp
    rfl
  refine hK.out _ _ ?_
  clear hK K
  refine pure_ (i := 6) (N := some 5) (v := ?_) (a' := ?_) #[true, true, true, true, true, true, true] rfl rfl (by kernel_rfl) (fun _ _ _ h => h) (Or.inl ⟨by rfl, ?_⟩) ?_ ?_
  rotate_left
  · intro w'
    go_simp
    with_reducible rfl
  rotate_left
  · simp only [Act.put, List.setIfInBounds_toArray, List.set_cons_zero, List.set_cons_succ, i64_w, i32_w]
    rfl
  refine done_ (by kernel_rfl) ?_
  go_wp2
  refine bodyPost_ret (v := .tuple #[.agg #[.int .i64 p, .int .i64 n, .slice A9 (addL p os).length c9], .int .i64 0]) (by simp [results, Tryz.results33, go_sem, z0, z1, z2, z3]) rfl ⟨A9, c9, rfl, ?_, ?_⟩
  · exact Kd.R_lower (R_set3 (Kd.R_mono (Kd.R_bound hR9) (ok' := fun k => k ≠ rb) (fun k hk => by have h4 := hk.2.1; have h5 := hqx.size; have h6 := HZ.out; show k ≠ rb; have h7 : xw.heap.size ≤ k := h4; omega)) (fun k hk => hk) (Nat.le_refl _) _ _ _) (by have h5 := hqx.size; have h6 := HZ.out; show w.heap.size ≤ xw.heap.size; omega)
  · rw [hgb]
    exact below_set3 (hb2.trans (hqy.mono (by have h6 := HZ.out; omega))) (by omega) _ _ _
set_option maxRecDepth 100000 in
set_option maxHeartbeats 4000000 in
theorem implOrbitSum_c (p n : Int) (A : Option Addr) (c : Nat) (ms : List M9) (q d : Int) (B : Option Addr) (e : Nat) (ts : List T4) (w : World) (hC : kM.C w A ms.length ms) (hD : kT.C w B ts.length ts) (hN : ms.length ≤ 9223372036854775807) (hM : ts.length ≤ 9223372036854775807) :
    Calls Tryz.prog 34 #[.agg #[.int .i64 p, .int .i64 n, .slice A ms.length c], .agg #[.int .i64 q, .int .i64 d, .slice B ts.length e]] w (MakesPC (osR p n ms q d ts) 80 w) := by
  have hK := fun W h h' => actionCode_c p n A c ms q d B e ts W h h' hN hM
  rcases codeF_three p n ms q d ts with h0 | h0 | h0
  · rw [osR_0 h0]
    rw [h0] at hK
    obtain ⟨hq, hdn, hp, hp', h1, h3, hl, hcan, hdg⟩ := codeF_nums h0
    clear h0
    obtain ⟨k, hk⟩ := Int.eq_ofNat_of_zero_le (show 0 ≤ n by omega)
    rw [hk] at hdn
    subst hq
    subst hdn
    subst hk
    exact implOrbitSum_0 _ k A c ms B e ts w hC hD hl hcan hdg hp hp' (by omega) (by omega) hK
  · rw [osR_1 h0 (by decide)]
    rw [h0] at hK
    clear h0
    have hbW : Below w.heap.size w (((w.alloc (.cells #[.int .i64 p, .int .i64 n, .slice A ms.length c] 34)).alloc (.cells #[.int .i64 q, .int .i64 d, .slice B ts.length e] 38)).alloc (.cells #[.int .i64 0, .int .i64 0, .slice none 0 0] 38)) := bq2
    have hC3 := Kd.C_below hC hbW
    have hD3 := Kd.C_below hD hbW
    go_enter Tryz.func34, Tryz.ntmps34
    go_wp2_with ((go_at_call 54; (first | (with_reducible refine call_later2 (hK _ hC3 hD3) ?_) | (with_reducible refine call_later (hK _ hC3 hD3) ?_)); intro x1))
    have zz : w.heap.size + 1 + 1 < x1.W.heap.size := by have := x1.ok.size; simp at this; omega
    refine bodyPost_ret (v := .tuple #[.agg #[.int .i64 0, .int .i64 0, .slice none 0 0], .int .i64 1]) (by simp [results, Tryz.results34, go_sem]) rfl ?_
    exact MakesPC_nil _ _ _ _ bq2
  · rw [osR_1 h0 (by decide)]
    rw [h0] at hK
    clear h0
    have hbW : Below w.heap.size w (((w.alloc (.cells #[.int .i64 p, .int .i64 n, .slice A ms.length c] 34)).alloc (.cells #[.int .i64 q, .int .i64 d, .slice B ts.length e] 38)).alloc (.cells #[.int .i64 0, .int .i64 0, .slice none 0 0] 38)) := bq2
    have hC3 := Kd.C_below hC hbW
    have hD3 := Kd.C_below hD hbW
    go_enter Tryz.func34, Tryz.ntmps34
    go_wp2_with ((go_at_call 54; (first | (with_reducible refine call_later2 (hK _ hC3 hD3) ?_) | (with_reducible refine call_later (hK _ hC3 hD3) ?_)); intro x1))
    have zz : w.heap.size + 1 + 1 < x1.W.heap.size := by have := x1.ok.size; simp at this; omega
    refine bodyPost_ret (v := .tuple #[.agg #[.int .i64 0, .int .i64 0, .slice none 0 0], .int .i64 2]) (by simp [results, Tryz.results34, go_sem]) rfl ?_
    exact MakesPC_nil _ _ _ _ bq2
set_option maxRecDepth 100000 in
set_option maxHeartbeats 4000000 in
theorem specOrbitSum_c (p n : Int) (A : Option Addr) (c : Nat) (ms : List M9) (q d : Int) (B : Option Addr) (e : Nat) (ts : List T4) (w : World) (hC : kM.C w A ms.length ms) (hD : kT.C w B ts.length ts) (hN : ms.length ≤ 9223372036854775807) (hM : ts.length ≤ 9223372036854775807) :
    Calls Tryz.prog 33 #[.agg #[.int .i64 p, .int .i64 n, .slice A ms.length c], .agg #[.int .i64 q, .int .i64 d, .slice B ts.length e]] w (MakesPC (osR p n ms q d ts) 80 w) := by
  have hK := fun W h h' => l03Code_c p n A c ms q d B e ts W h h' hN hM
  rcases codeF_three p n ms q d ts with h0 | h0 | h0
  · rw [osR_0 h0]
    rw [h0] at hK
    obtain ⟨hq, hdn, hp, hp', h1, h3, hl, hcan, hdg⟩ := codeF_nums h0
    clear h0
    obtain ⟨k, hk⟩ := Int.eq_ofNat_of_zero_le (show 0 ≤ n by omega)
    rw [hk] at hdn
    subst hq
    subst hdn
    subst hk
    exact specOrbitSum_0 _ k A c ms B e ts w hC hD hl hcan hdg hp hp' (by omega) (by omega) hK
  · rw [osR_1 h0 (by decide)]
    rw [h0] at hK
    clear h0
    have hbW : Below w.heap.size w (((w.alloc (.cells #[.int .i64 p, .int .i64 n, .slice A ms.length c] 34)).alloc (.cells #[.int .i64 q, .int .i64 d, .slice B ts.length e] 38)).alloc (.cells #[.int .i64 0, .int .i64 0, .slice none 0 0] 38)) := bq2
    have hC3 := Kd.C_below hC hbW
    have hD3 := Kd.C_below hD hbW
    go_enter Tryz.func33, Tryz.ntmps33
    go_wp2_with ((go_at_call 50; (first | (with_reducible refine call_later2 (hK _ hC3 hD3) ?_) | (with_reducible refine call_later (hK _ hC3 hD3) ?_)); intro x1))
    have zz : w.heap.size + 1 + 1 < x1.W.heap.size := by have := x1.ok.size; simp at this; omega
    refine bodyPost_ret (v := .tuple #[.agg #[.int .i64 0, .int .i64 0, .slice none 0 0], .int .i64 1]) (by simp [results, Tryz.results33, go_sem]) rfl ?_
    exact MakesPC_nil _ _ _ _ bq2
  · rw [osR_1 h0 (by decide)]
    rw [h0] at hK
    clear h0
    have hbW : Below w.heap.size w (((w.alloc (.cells #[.int .i64 p, .int .i64 n, .slice A ms.length c] 34)).alloc (.cells #[.int .i64 q, .int .i64 d, .slice B ts.length e] 38)).alloc (.cells #[.int .i64 0, .int .i64 0, .slice none 0 0] 38)) := bq2
    have hC3 := Kd.C_below hC hbW
    have hD3 := Kd.C_below hD hbW
    go_enter Tryz.func33, Tryz.ntmps33
    go_wp2_with ((go_at_call 50; (first | (with_reducible refine call_later2 (hK _ hC3 hD3) ?_) | (with_reducible refine call_later (hK _ hC3 hD3) ?_)); intro x1))
    have zz : w.heap.size + 1 + 1 < x1.W.heap.size := by have := x1.ok.size; simp at this; omega
    refine bodyPost_ret (v := .tuple #[.agg #[.int .i64 0, .int .i64 0, .slice none 0 0], .int .i64 2]) (by simp [results, Tryz.results33, go_sem]) rfl ?_
    exact MakesPC_nil _ _ _ _ bq2
end Go.Proofs.YtjhkeehfchkpaaaGreat
