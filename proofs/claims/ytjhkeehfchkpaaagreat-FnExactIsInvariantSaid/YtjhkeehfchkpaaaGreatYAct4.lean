/- TransferOf of both sides; no condition. -/
import Derived.Test.YtjhkeehfchkpaaaGreatYAct3
import Derived.Test.YtjhkeehfchkpaaaGreatYLawKit2
set_option linter.unusedVariables false
set_option linter.unusedSimpArgs false
namespace Go.Proofs.YtjhkeehfchkpaaaGreat
open Go.RowKit Go.Proofs.YtjhkeehfchkpaaaGreatW.PrintWords
attribute [local go_sem] Later.cell Later.frozen Later.lt Later.lt_add Later.le Later.le_add Later.ne Later.ne' add_at
open Go.Proofs.YtjhkeehfchkpaaaGreatW.PrintLast
attribute [local go_sem 2000] run_eqM guardM
theorem img_likes {p : Int} (hp : 2 ≤ p) {n : Nat} (h3 : n ≤ 3) (ms : List M9) {ts : List T4} (hd : ∀ t ∈ ts, degE t.e ≤ 12) : Likes p n (imgV p n ms ts) := by
  refine ⟨?_, ?_, ?_, ?_⟩
  · intro x hx
    obtain ⟨m, _, rfl⟩ := List.mem_map.1 hx
    rfl
  · intro x hx
    obtain ⟨m, _, rfl⟩ := List.mem_map.1 hx
    rfl
  · intro x hx
    obtain ⟨m, _, rfl⟩ := List.mem_map.1 hx
    exact ledL_canon hp n m ts
  · intro x hx
    obtain ⟨m, _, rfl⟩ := List.mem_map.1 hx
    exact ledL_deg hp h3 m hd
theorem img_read {p : Int} {n : Nat} {ms : List M9} {ts : List T4} {W : World} {b : Nat} {v : Value} (h : kP.R 38 W b (fun _ => True) v (imgV p n ms ts)) : ∃ L c, v = .slice L ms.length c ∧ kP.C W L ms.length (imgV p n ms ts) := by
  obtain ⟨L, c, rfl, _, hC⟩ := Kd.R_reads h
  rw [imgV_len] at hC ⊢
  exact ⟨L, c, rfl, hC⟩
def trL (p : Int) (n : Nat) (ms : List M9) (ts : List T4) : List T4 := addL p (imgV p n ms ts)
theorem codeF_nums {p n : Int} {ms : List M9} {q d : Int} {ts : List T4} (h : codeF p n ms q d ts = 0) : q = p ∧ d = n ∧ 2 ≤ p ∧ p ≤ 13 ∧ 1 ≤ n ∧ n ≤ 3 ∧ ms.length ≤ 48 ∧ Canon p ts ∧ (∀ t ∈ ts, degE t.e ≤ 12) := by
  obtain ⟨hg, hb, hq, hd⟩ := codeF_0 h
  have gp := (grpB_iff p n ms).1 hg
  obtain ⟨h1, h2, h3, h4⟩ := grp_n3 gp
  have hc := polyB_canon hb
  rw [hq] at hc
  exact ⟨hq, hd, h1, h2, h3, h4, gp.l2, hc, polyB_deg hb⟩
set_option maxRecDepth 100000 in
set_option maxHeartbeats 4000000 in
theorem transfer_c (p : Int) (n : Nat) (A : Option Addr) (c : Nat) (ms : List M9) (B : Option Addr) (e : Nat) (ts : List T4) (w : World) (hC : kM.C w A ms.length ms) (hD : kT.C w B ts.length ts) (hN : ms.length ≤ 48) (hts : Canon p ts) (hd : ∀ t ∈ ts, degE t.e ≤ 12) (hp : 2 ≤ p) (hp' : p ≤ 13) (h1 : 1 ≤ n) (h3 : n ≤ 3) :
    Calls Tryz.prog 60 #[.agg #[.int .i64 p, .int .i64 n, .slice A ms.length c], .agg #[.int .i64 p, .int .i64 n, .slice B ts.length e]] w (MakesP p n 80 (trL p n ms ts) w) := by
  have g0 : (((w.alloc (.cells #[.int .i64 p, .int .i64 n, .slice A ms.length c] 34)).alloc (.cells #[.int .i64 p, .int .i64 n, .slice B ts.length e] 38)).alloc (.cells #[.int .i64 0, .int .i64 0, .slice none 0 0] 38)).cell? ⟨w.heap.size, 0, none⟩ = some (.int .i64 p) := (by first | (simp; done) | (simp [go_sem]; done) | go_simp)
  have g1 : (((w.alloc (.cells #[.int .i64 p, .int .i64 n, .slice A ms.length c] 34)).alloc (.cells #[.int .i64 p, .int .i64 n, .slice B ts.length e] 38)).alloc (.cells #[.int .i64 0, .int .i64 0, .slice none 0 0] 38)).cell? ⟨w.heap.size, 1, none⟩ = some (.int .i64 n) := (by first | (simp; done) | (simp [go_sem]; done) | go_simp)
  have g2 : (((w.alloc (.cells #[.int .i64 p, .int .i64 n, .slice A ms.length c] 34)).alloc (.cells #[.int .i64 p, .int .i64 n, .slice B ts.length e] 38)).alloc (.cells #[.int .i64 0, .int .i64 0, .slice none 0 0] 38)).cell? ⟨w.heap.size, 2, none⟩ = some (.slice A ms.length c) := (by first | (simp; done) | (simp [go_sem]; done) | go_simp)
  have f0 : (((w.alloc (.cells #[.int .i64 p, .int .i64 n, .slice A ms.length c] 34)).alloc (.cells #[.int .i64 p, .int .i64 n, .slice B ts.length e] 38)).alloc (.cells #[.int .i64 0, .int .i64 0, .slice none 0 0] 38)).cell? ⟨w.heap.size + 1, 0, none⟩ = some (.int .i64 p) := (by first | (simp; done) | (simp [go_sem]; done) | go_simp)
  have f1 : (((w.alloc (.cells #[.int .i64 p, .int .i64 n, .slice A ms.length c] 34)).alloc (.cells #[.int .i64 p, .int .i64 n, .slice B ts.length e] 38)).alloc (.cells #[.int .i64 0, .int .i64 0, .slice none 0 0] 38)).cell? ⟨w.heap.size + 1, 1, none⟩ = some (.int .i64 n) := (by first | (simp; done) | (simp [go_sem]; done) | go_simp)
  have f2 : (((w.alloc (.cells #[.int .i64 p, .int .i64 n, .slice A ms.length c] 34)).alloc (.cells #[.int .i64 p, .int .i64 n, .slice B ts.length e] 38)).alloc (.cells #[.int .i64 0, .int .i64 0, .slice none 0 0] 38)).cell? ⟨w.heap.size + 1, 2, none⟩ = some (.slice B ts.length e) := (by first | (simp; done) | (simp [go_sem]; done) | go_simp)
  have r0 : (((w.alloc (.cells #[.int .i64 p, .int .i64 n, .slice A ms.length c] 34)).alloc (.cells #[.int .i64 p, .int .i64 n, .slice B ts.length e] 38)).alloc (.cells #[.int .i64 0, .int .i64 0, .slice none 0 0] 38)).cell? ⟨w.heap.size + 1 + 1, 0, none⟩ = some (.int .i64 0) := (by first | (simp; done) | (simp [go_sem]; done) | go_simp)
  have r1 : (((w.alloc (.cells #[.int .i64 p, .int .i64 n, .slice A ms.length c] 34)).alloc (.cells #[.int .i64 p, .int .i64 n, .slice B ts.length e] 38)).alloc (.cells #[.int .i64 0, .int .i64 0, .slice none 0 0] 38)).cell? ⟨w.heap.size + 1 + 1, 1, none⟩ = some (.int .i64 0) := (by first | (simp; done) | (simp [go_sem]; done) | go_simp)
  have r2 : (((w.alloc (.cells #[.int .i64 p, .int .i64 n, .slice A ms.length c] 34)).alloc (.cells #[.int .i64 p, .int .i64 n, .slice B ts.length e] 38)).alloc (.cells #[.int .i64 0, .int .i64 0, .slice none 0 0] 38)).cell? ⟨w.heap.size + 1 + 1, 2, none⟩ = some (.slice none 0 0) := (by first | (simp; done) | (simp [go_sem]; done) | go_simp)
  have r3 : ∀ j, (((w.alloc (.cells #[.int .i64 p, .int .i64 n, .slice A ms.length c] 34)).alloc (.cells #[.int .i64 p, .int .i64 n, .slice B ts.length e] 38)).alloc (.cells #[.int .i64 0, .int .i64 0, .slice none 0 0] 38)).frozen? ⟨w.heap.size + 1 + 1, j, none⟩ = false := fun j => (by first | (simp; done) | (simp [go_sem]; done) | go_simp)
  have hF := fun W h5 h6 => images_c p n A c ms B e ts W h5 h6 hN hts hd hp hp' h1 h3
  have hU := fun W L cl h5 => addUp_c p n B e ts L cl (imgV p n ms ts) ms.length (imgV_len _ _ _ _) W h5 hN hp hp' (img_likes hp h3 ms hd)
  have hbW : Below w.heap.size w (((w.alloc (.cells #[.int .i64 p, .int .i64 n, .slice A ms.length c] 34)).alloc (.cells #[.int .i64 p, .int .i64 n, .slice B ts.length e] 38)).alloc (.cells #[.int .i64 0, .int .i64 0, .slice none 0 0] 38)) := (by repeat (first | (with_reducible assumption) | (with_reducible exact Below.refl _ _) | ((with_reducible refine Below.alloc ?_ ?_ _); rotate_left; (focus (first | omega | (simp; done) | (simp; omega)))) | (with_reducible refine Below.drew ?_) | ((with_reducible refine Below.setCell ?_ ?_ _); rotate_left; (focus (first | omega | (simp; done) | (simp; omega)))) | ((with_reducible refine below_hop (by assumption) ?_ ?_); rotate_left; (focus (first | omega | (simp; done) | (simp; omega)))) | ((with_reducible refine bel_later _ ?_ ?_); rotate_left; (focus (first | omega | (simp; done) | (simp; omega))))))
  have hC3 := Kd.C_below hC hbW
  have hD3 := Kd.C_below hD hbW
  have HZ := Lib.hid (show (((w.alloc (.cells #[.int .i64 p, .int .i64 n, .slice A ms.length c] 34)).alloc (.cells #[.int .i64 p, .int .i64 n, .slice B ts.length e] 38)).alloc (.cells #[.int .i64 0, .int .i64 0, .slice none 0 0] 38)).heap.size = w.heap.size + 1 + 1 + 1 by simp)
  go_enter Tryz.func60, Tryz.ntmps60
  go_wp2
  generalize hV : (((w.alloc (.cells #[.int .i64 p, .int .i64 n, .slice A ms.length c] 34)).alloc (.cells #[.int .i64 p, .int .i64 n, .slice B ts.length e] 38)).alloc (.cells #[.int .i64 0, .int .i64 0, .slice none 0 0] 38)) = V at *
  generalize hrb : w.heap.size + 1 + 1 = rb at *
  generalize hfb : w.heap.size + 1 = fb at *
  generalize hgb : w.heap.size = gb at *
  clear hV
  refine start_ (n := 6) (S := fun w' => w'.cell? ⟨gb, 0, none⟩ = some (.int .i64 p) ∧ w'.cell? ⟨gb, 1, none⟩ = some (.int .i64 n) ∧ w'.cell? ⟨gb, 2, none⟩ = some (.slice A ms.length c) ∧ w'.cell? ⟨fb, 0, none⟩ = some (.int .i64 p) ∧ w'.cell? ⟨fb, 1, none⟩ = some (.int .i64 n) ∧ w'.cell? ⟨fb, 2, none⟩ = some (.slice B ts.length e)) (ds := [5]) #[false, false, false, false, false, false] (by kernel_rfl) rfl rfl ⟨g0, g1, g2, f0, f1, f2⟩ (fun hHeld => ?_)
  refine take_ (i := 0) (N := some 5) (v := ?_) (a' := ?_) #[true, false, false, false, false, false] rfl rfl (by kernel_rfl) (fun _ _ _ h => h) (Or.inl ⟨by rfl, ?_⟩) hHeld ?_ ?_
  rotate_left
  · rintro w' ⟨s0, s1, s2, s3, s4, s5⟩
    go_simp
    with_reducible rfl
  rotate_left
  · simp only [Act.put, List.setIfInBounds_toArray, List.set_cons_zero, List.set_cons_succ, i64_w, i32_w]
    rfl
  refine take_ (i := 1) (N := some 6) (v := ?_) (a' := ?_) #[true, true, false, false, false, false] rfl rfl (by kernel_rfl) (fun _ _ _ h => h) (Or.inl ⟨by rfl, ?_⟩) hHeld ?_ ?_
  rotate_left
  · rintro w' ⟨s0, s1, s2, s3, s4, s5⟩
    go_simp
    with_reducible rfl
  rotate_left
  · simp only [Act.put, List.setIfInBounds_toArray, List.set_cons_zero, List.set_cons_succ, i64_w, i32_w]
    rfl
  refine take_ (i := 2) (N := some 7) (v := ?_) (a' := ?_) #[true, true, true, false, false, false] rfl rfl (by kernel_rfl) (fun _ _ _ h => h) (Or.inl ⟨by rfl, ?_⟩) hHeld ?_ ?_
  rotate_left
  · rintro w' ⟨s0, s1, s2, s3, s4, s5⟩
    go_simp
    with_reducible rfl
  rotate_left
  · simp only [Act.put, List.setIfInBounds_toArray, List.set_cons_zero, List.set_cons_succ, i64_w, i32_w]
    rfl
  refine one_ (i := 3) (N := some 8) #[true, true, true, true, false, false] rfl rfl (by kernel_rfl) (by decide) (fun K hK => ?_)
  refine goes_ Tryz.func71 (by kernel_rfl) rfl #[.agg #[.int .i64 p, .int .i64 n, .slice A ms.length c], .agg #[.int .i64 p, .int .i64 n, .slice B ts.length e]] (by rfl) rfl rfl (by simp only [List.map_toArray, List.map_cons, List.map_nil]; rfl) ?_
  with_reducible refine (hF _ (Kd.C_below hC3 (Below.refl _ _).drew) (Kd.C_below hD3 (Below.refl _ _).drew)).mono ?_
  rintro e' xw ⟨v9, rfl, hR8, hb8'⟩
  refine ⟨_, rfl, ?_⟩
  have hqx := below_undrewA hb8'
  obtain ⟨L8, c8, rfl, hC8⟩ := img_read hR8
  refine hK.out _ _ ⟨pw_cell_below hqx g0, pw_cell_below hqx g1, pw_cell_below hqx g2, pw_cell_below hqx f0, pw_cell_below hqx f1, pw_cell_below hqx f2⟩ (fun hHeld => ?_)
  clear hK K
  refine norm_ (a' := ?_) ?_ ?_
  rotate_left
  · show Act.put _ (some 8) _ = _
    simp only [Act.put, List.setIfInBounds_toArray, List.set_cons_zero, List.set_cons_succ, i64_w, i32_w]
    rfl
  refine one_ (i := 4) (N := some 9) #[true, true, true, true, true, false] rfl rfl (by kernel_rfl) (by decide) (fun K hK => ?_)
  refine goes_ Tryz.func74 (by kernel_rfl) rfl #[.agg #[.int .i64 p, .int .i64 n, .slice B ts.length e], .slice L8 ms.length c8] (by rfl) rfl rfl (by simp only [List.map_toArray, List.map_cons, List.map_nil]; rfl) ?_
  with_reducible refine (hU _ L8 c8 hC8).mono ?_
  rintro e' yw ⟨A9, c9, rfl, hR9, hb9'⟩
  refine ⟨_, rfl, ?_⟩
  have hqy := hqx.trans (hb9'.mono hqx.size)
  have z0 := pw_cell_below hqy r0
  have z1 := pw_cell_below hqy r1
  have z2 := pw_cell_below hqy r2
  have z3 := fun j => (hqy.frozen (p := ⟨rb, j, none⟩) (by show rb < _; have := HZ.out; omega)).trans (r3 j)
  refine hK.out _ _ ⟨pw_cell_below hqy g0, pw_cell_below hqy g1, pw_cell_below hqy g2, pw_cell_below hqy f0, pw_cell_below hqy f1, pw_cell_below hqy f2⟩ (fun hHeld => ?_)
  clear hK K
  refine norm_ (a' := ?_) ?_ ?_
  rotate_left
  · show Act.put _ (some 9) _ = _
    simp only [Act.put, List.setIfInBounds_toArray, List.set_cons_zero, List.set_cons_succ, i64_w, i32_w]
    rfl
  refine last_ (i := 5) (N := none) #[true, true, true, true, true, true] rfl rfl (by kernel_rfl) (by decide) (fun K hK => ?_)
  refine skip_ (w1 := ?_) (by rfl) rfl ?_ ?_
  rotate_left
  · go_simp
    rfl
  refine hK.out _ _ ?_
  clear hK K
  refine done_ (by kernel_rfl) ?_
  go_wp2
  refine bodyPost_ret (v := .agg #[.int .i64 p, .int .i64 n, .slice A9 (trL p n ms ts).length c9]) (by simp [results, Tryz.results60, go_sem, z0, z1, z2, z3, trL]) rfl ⟨A9, c9, rfl, ?_, ?_⟩
  · exact Kd.R_lower (R_set3 (Kd.R_mono (Kd.R_bound hR9) (ok' := fun k => k ≠ rb) (fun k hk => by have h4 := hk.2.1; have h5 := hqx.size; have h6 := HZ.out; show k ≠ rb; have h7 : xw.heap.size ≤ k := h4; omega)) (fun k hk => hk) (Nat.le_refl _) _ _ _) (by have h5 := hqx.size; have h6 := HZ.out; show w.heap.size ≤ xw.heap.size; omega)
  · rw [hgb]
    exact below_set3 (hbW.trans (hqy.mono (by have h6 := HZ.out; omega))) (by omega) _ _ _
theorem codeF_three (p n : Int) (ms : List M9) (q d : Int) (ts : List T4) : codeF p n ms q d ts = 0 ∨ codeF p n ms q d ts = 1 ∨ codeF p n ms q d ts = 2 := by
  unfold codeF
  split
  · split
    · exact Or.inl rfl
    · exact Or.inr (Or.inr rfl)
  · exact Or.inr (Or.inl rfl)
end Go.Proofs.YtjhkeehfchkpaaaGreat
