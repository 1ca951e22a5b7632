/- ReynoldsOf of both sides; no condition. -/
import Derived.Test.YtjhkeehfchkpaaaGreatYRey1
import Derived.Test.YtjhkeehfchkpaaaGreatYLawKit2
set_option linter.unusedVariables false
set_option linter.unusedSimpArgs false
namespace Go.Proofs.YtjhkeehfchkpaaaGreat
open Go.RowKit Go.Proofs.YtjhkeehfchkpaaaGreatW.PrintWords
attribute [local go_sem] Later.cell Later.frozen Later.lt Later.lt_add Later.le Later.le_add Later.ne Later.ne' add_at
open Go.Proofs.YtjhkeehfchkpaaaGreatW.PrintLast
attribute [local go_sem 2000] run_eqM guardM
theorem trL_canon {p : Int} (hp : 2 ≤ p) (n : Nat) (ms : List M9) (ts : List T4) : Canon p (trL p n ms ts) := addL_canon hp _
theorem trL_deg {p : Int} (hp : 2 ≤ p) {n : Nat} (h3 : n ≤ 3) (ms : List M9) {ts : List T4} (hd : ∀ t ∈ ts, degE t.e ≤ 12) : ∀ t ∈ trL p n ms ts, degE t.e ≤ 12 := addL_deg (img_likes hp h3 ms hd).deg
theorem trL_len {p : Int} (hp : 2 ≤ p) {n : Nat} (h3 : n ≤ 3) (ms : List M9) {ts : List T4} (hd : ∀ t ∈ ts, degE t.e ≤ 12) : (trL p n ms ts).length ≤ 1183 := addL_len hp (img_likes hp h3 ms hd).deg
theorem rey_bd {p k : Int} (hp' : p ≤ 13) (hk : 0 ≤ k) (hk' : k ≤ p) {ts : List T4} (h : Canon p ts) : ∀ t ∈ ts, -1000000 ≤ k * t.v ∧ k * t.v ≤ 1000000 := fun t ht => by
  have h1 := h.2 t ht
  have h2 := Int.mul_nonneg hk (show 0 ≤ t.v by omega)
  have h3 := Int.mul_le_mul (a := k) (b := t.v) (c := 13) (d := 13) (by omega) (by omega) (by omega) (by omega)
  omega
def reyK (p : Int) (ms : List M9) : Int := invF p ((ms.length : Int) % p)
def reyL (p : Int) (n : Nat) (ms : List M9) (ts : List T4) : List T4 := putsT p [] (pairsT (reyK p ms) (trL p n ms ts))
theorem reyL_deg {p : Int} (hp : 2 ≤ p) {n : Nat} (h3 : n ≤ 3) (ms : List M9) {ts : List T4} (hd : ∀ t ∈ ts, degE t.e ≤ 12) : ∀ t ∈ reyL p n ms ts, degE t.e ≤ 12 := fun u hu => by
  rcases putsT_mem _ hu with ⟨q, hq, e⟩ | h'
  · obtain ⟨t', ht', rfl⟩ := List.mem_map.1 hq
    rw [e]
    exact trL_deg hp h3 ms hd t' ht'
  · cases h'
theorem reyL_len {p : Int} (hp : 2 ≤ p) {n : Nat} (h3 : n ≤ 3) (ms : List M9) {ts : List T4} (hd : ∀ t ∈ ts, degE t.e ≤ 12) : (reyL p n ms ts).length ≤ 1183 := deg_len (putsT_canon hp _ (canon_nil p)).1 (reyL_deg hp h3 ms hd)
def reyR (p n : Int) (ms : List M9) (q d : Int) (ts : List T4) : PC := if codeF p n ms q d ts = 0 then (if ((ms.length : Int) % p == 0) = true then ⟨0, 0, [], 5⟩ else ⟨p, n, reyL p n.toNat ms ts, 0⟩) else ⟨0, 0, [], codeF p n ms q d ts⟩
theorem reyR_0 {p n : Int} {ms : List M9} {q d : Int} {ts : List T4} (h : codeF p n ms q d ts = 0) (h2 : ((ms.length : Int) % p == 0) = false) : reyR p n ms q d ts = ⟨p, n, reyL p n.toNat ms ts, 0⟩ := by
  unfold reyR
  rw [if_pos h, h2]
  rfl
theorem reyR_5 {p n : Int} {ms : List M9} {q d : Int} {ts : List T4} (h : codeF p n ms q d ts = 0) (h2 : ((ms.length : Int) % p == 0) = true) : reyR p n ms q d ts = ⟨0, 0, [], 5⟩ := by
  unfold reyR
  rw [if_pos h, if_pos h2]
theorem reyR_1 {p n : Int} {ms : List M9} {q d : Int} {ts : List T4} {k : Int} (h : codeF p n ms q d ts = k) (hk : k ≠ 0) : reyR p n ms q d ts = ⟨0, 0, [], k⟩ := by
  unfold reyR
  rw [h, if_neg hk]
theorem reyR_len (p n : Int) (ms : List M9) (q d : Int) (ts : List T4) : (reyR p n ms q d ts).ts.length ≤ 1048576 := by
  unfold reyR
  split
  · rename_i h
    obtain ⟨_, _, hp, _, _, h3, _, _, hd⟩ := codeF_nums h
    have hl := reyL_len (p := p) hp (n := n.toNat) (by omega) ms hd
    split
    · simp
    · show (reyL p n.toNat ms ts).length ≤ _
      omega
  · simp
set_option maxRecDepth 100000 in
theorem w3_facts (p : Int) (n : Nat) (A : Option Addr) (c : Nat) (ms : List M9) (B : Option Addr) (e : Nat) (ts : List T4) (w : World) {X : World} (hX : Below (((w.alloc (.cells #[.int .i64 p, .int .i64 n, .slice A ms.length c] 34)).alloc (.cells #[.int .i64 p, .int .i64 n, .slice B ts.length e] 38)).alloc (.cells #[.int .i64 0, .int .i64 0, .slice none 0 0] 38)).heap.size (((w.alloc (.cells #[.int .i64 p, .int .i64 n, .slice A ms.length c] 34)).alloc (.cells #[.int .i64 p, .int .i64 n, .slice B ts.length e] 38)).alloc (.cells #[.int .i64 0, .int .i64 0, .slice none 0 0] 38)) X) :
    X.cell? ⟨w.heap.size, 0, none⟩ = some (.int .i64 p) ∧ X.cell? ⟨w.heap.size, 1, none⟩ = some (.int .i64 n) ∧ X.cell? ⟨w.heap.size, 2, none⟩ = some (.slice A ms.length c) ∧ X.cell? ⟨w.heap.size + 1, 0, none⟩ = some (.int .i64 p) ∧ X.cell? ⟨w.heap.size + 1, 1, none⟩ = some (.int .i64 n) ∧ X.cell? ⟨w.heap.size + 1, 2, none⟩ = some (.slice B ts.length e) ∧ X.cell? ⟨w.heap.size + 1 + 1, 0, none⟩ = some (.int .i64 0) ∧ X.cell? ⟨w.heap.size + 1 + 1, 1, none⟩ = some (.int .i64 0) ∧ X.cell? ⟨w.heap.size + 1 + 1, 2, none⟩ = some (.slice none 0 0) ∧ (∀ j, X.frozen? ⟨w.heap.size + 1 + 1, j, none⟩ = false) ∧ Below w.heap.size w X ∧ w.heap.size + 1 + 1 < X.heap.size := by
  have hbW : Below w.heap.size w (((w.alloc (.cells #[.int .i64 p, .int .i64 n, .slice A ms.length c] 34)).alloc (.cells #[.int .i64 p, .int .i64 n, .slice B ts.length e] 38)).alloc (.cells #[.int .i64 0, .int .i64 0, .slice none 0 0] 38)) := (by repeat (first | (with_reducible assumption) | (with_reducible exact Below.refl _ _) | ((with_reducible refine Below.alloc ?_ ?_ _); rotate_left; (focus (first | omega | (simp; done) | (simp; omega)))) | (with_reducible refine Below.drew ?_) | ((with_reducible refine Below.setCell ?_ ?_ _); rotate_left; (focus (first | omega | (simp; done) | (simp; omega)))) | ((with_reducible refine below_hop (by assumption) ?_ ?_); rotate_left; (focus (first | omega | (simp; done) | (simp; omega)))) | ((with_reducible refine bel_later _ ?_ ?_); rotate_left; (focus (first | omega | (simp; done) | (simp; omega))))))
  refine ⟨pw_cell_below hX (by first | (simp; done) | (simp [go_sem]; done) | go_simp), pw_cell_below hX (by first | (simp; done) | (simp [go_sem]; done) | go_simp), pw_cell_below hX (by first | (simp; done) | (simp [go_sem]; done) | go_simp), pw_cell_below hX (by first | (simp; done) | (simp [go_sem]; done) | go_simp), pw_cell_below hX (by first | (simp; done) | (simp [go_sem]; done) | go_simp), pw_cell_below hX (by first | (simp; done) | (simp [go_sem]; done) | go_simp), pw_cell_below hX (by first | (simp; done) | (simp [go_sem]; done) | go_simp), pw_cell_below hX (by first | (simp; done) | (simp [go_sem]; done) | go_simp), pw_cell_below hX (by first | (simp; done) | (simp [go_sem]; done) | go_simp), fun j => ?_, hbW.trans (hX.mono hbW.size), ?_⟩
  · refine (hX.frozen (p := ⟨w.heap.size + 1 + 1, j, none⟩) ?_).trans (by first | (simp; done) | (simp [go_sem]; done) | go_simp)
    show w.heap.size + 1 + 1 < (((w.alloc (.cells #[.int .i64 p, .int .i64 n, .slice A ms.length c] 34)).alloc (.cells #[.int .i64 p, .int .i64 n, .slice B ts.length e] 38)).alloc (.cells #[.int .i64 0, .int .i64 0, .slice none 0 0] 38)).heap.size
    simp
  · have := hX.size
    simp at this
    omega
set_option maxRecDepth 100000 in
set_option maxHeartbeats 4000000 in
theorem l03Reynolds_c (p : Int) (n : Nat) (A : Option Addr) (c : Nat) (ms : List M9) (B : Option Addr) (e : Nat) (ts : List T4) (w : World) (hC : kM.C w A ms.length ms) (hD : kT.C w B ts.length ts) (hN : ms.length ≤ 48) (hts : Canon p ts) (hd : ∀ t ∈ ts, degE t.e ≤ 12) (hp : 2 ≤ p) (hp' : p ≤ 13) (h1 : 1 ≤ n) (h3 : n ≤ 3) :
    Calls Tryz.prog 65 #[.agg #[.int .i64 p, .int .i64 n, .slice A ms.length c], .agg #[.int .i64 p, .int .i64 n, .slice B ts.length e]] w (MakesP p n 80 (reyL p n ms ts) w) := by
  obtain ⟨g0, g1, g2, f0, f1, f2, r0, r1, r2, r3, _, _⟩ := w3_facts p n A c ms B e ts w (Below.refl _ _)
  have hF := fun W h5 h6 => l03All_c p n A c ms B e ts W h5 h6 hN hts hd hp hp' h1 h3
  have hU : ∀ W L cl, kP.C W L ms.length (imgV p n ms ts) → Calls Tryz.prog 58 #[.agg #[.int .i64 p, .int .i64 n, .slice B ts.length e], .slice L ms.length cl] W (MakesP p n 80 (trL p n ms ts) W) := fun W L cl h5 => l03Add_c p n B e ts L cl (imgV p n ms ts) ms.length (imgV_len _ _ _ _) W h5 hN hp hp' (img_likes hp h3 ms hd)
  have hv := rey_bd hp' (invF_range ((ms.length : Int) % p) hp).1 (invF_range ((ms.length : Int) % p) hp).2 (trL_canon hp n ms ts)
  have hS := fun W L cl h5 => l01Scale_c p n (reyK p ms) L cl (trL p n ms ts) W h5 (by have := trL_len hp h3 ms hd; omega) hp hp' hv
  have hI : ∀ W, Calls Tryz.prog 77 #[.int .i64 p, .int .i64 ms.length] W (Gives (.int .i64 (reyK p ms)) W) := fun W => l01Inverse_r (z := ms.length) hp hp' W
  have hbW : Below w.heap.size w (((w.alloc (.cells #[.int .i64 p, .int .i64 n, .slice A ms.length c] 34)).alloc (.cells #[.int .i64 p, .int .i64 n, .slice B ts.length e] 38)).alloc (.cells #[.int .i64 0, .int .i64 0, .slice none 0 0] 38)) := (by repeat (first | (with_reducible assumption) | (with_reducible exact Below.refl _ _) | ((with_reducible refine Below.alloc ?_ ?_ _); rotate_left; (focus (first | omega | (simp; done) | (simp; omega)))) | (with_reducible refine Below.drew ?_) | ((with_reducible refine Below.setCell ?_ ?_ _); rotate_left; (focus (first | omega | (simp; done) | (simp; omega)))) | ((with_reducible refine below_hop (by assumption) ?_ ?_); rotate_left; (focus (first | omega | (simp; done) | (simp; omega)))) | ((with_reducible refine bel_later _ ?_ ?_); rotate_left; (focus (first | omega | (simp; done) | (simp; omega))))))
  have hC3 := Kd.C_below hC hbW
  have hD3 := Kd.C_below hD hbW
  have HZ := Lib.hid (show (((w.alloc (.cells #[.int .i64 p, .int .i64 n, .slice A ms.length c] 34)).alloc (.cells #[.int .i64 p, .int .i64 n, .slice B ts.length e] 38)).alloc (.cells #[.int .i64 0, .int .i64 0, .slice none 0 0] 38)).heap.size = w.heap.size + 1 + 1 + 1 by simp)
  have e9 : putsT p [] (pairsT (reyK p ms) (trL p n ms ts)) = reyL p n ms ts := rfl
  rw [e9] at hS
  clear e9 hv
  generalize trL p n ms ts = us at *
  generalize reyK p ms = k0 at *
  generalize reyL p n ms ts = ys at *
  go_enter Tryz.func65, Tryz.ntmps65
  go_wp2
  generalize hV : (((w.alloc (.cells #[.int .i64 p, .int .i64 n, .slice A ms.length c] 34)).alloc (.cells #[.int .i64 p, .int .i64 n, .slice B ts.length e] 38)).alloc (.cells #[.int .i64 0, .int .i64 0, .slice none 0 0] 38)) = V at *
  generalize hrb : w.heap.size + 1 + 1 = rb at *
  generalize hfb : w.heap.size + 1 = fb at *
  generalize hgb : w.heap.size = gb at *
  clear hV
  refine start_ (n := 13) (S := fun w' => w'.cell? ⟨gb, 0, none⟩ = some (.int .i64 p) ∧ w'.cell? ⟨gb, 1, none⟩ = some (.int .i64 n) ∧ w'.cell? ⟨gb, 2, none⟩ = some (.slice A ms.length c) ∧ w'.cell? ⟨fb, 0, none⟩ = some (.int .i64 p) ∧ w'.cell? ⟨fb, 1, none⟩ = some (.int .i64 n) ∧ w'.cell? ⟨fb, 2, none⟩ = some (.slice B ts.length e)) (ds := [12]) #[false, false, false, false, false, false, false, false, false, false, false, false, false] (by kernel_rfl) rfl rfl ⟨g0, g1, g2, f0, f1, f2⟩ (fun hHeld => ?_)
  refine pure_ (i := 5) (N := some 10) (v := ?_) (a' := ?_) #[false, false, false, false, false, true, false, false, false, false, false, false, false] rfl rfl (by kernel_rfl) (fun _ _ _ h => h) (Or.inl ⟨by rfl, ?_⟩) ?_ ?_
  rotate_left
  · intro w'
    go_simp
    with_reducible rfl
  rotate_left
  · simp only [Act.put, List.setIfInBounds_toArray, List.set_cons_zero, List.set_cons_succ, i64_w, i32_w]
    rfl
  refine pure_ (i := 7) (N := some 12) (v := ?_) (a' := ?_) #[false, false, false, false, false, true, false, true, false, false, false, false, false] rfl rfl (by kernel_rfl) (fun _ _ _ h => h) (Or.inl ⟨by rfl, ?_⟩) ?_ ?_
  rotate_left
  · intro w'
    go_simp
    with_reducible rfl
  rotate_left
  · simp only [Act.put, List.setIfInBounds_toArray, List.set_cons_zero, List.set_cons_succ, i64_w, i32_w]
    rfl
  refine take_ (i := 0) (N := some 5) (v := ?_) (a' := ?_) #[true, false, false, false, false, true, false, true, false, false, false, false, false] rfl rfl (by kernel_rfl) (fun _ _ _ h => h) (Or.inl ⟨by rfl, ?_⟩) hHeld ?_ ?_
  rotate_left
  · rintro w' ⟨s0, s1, s2, s3, s4, s5⟩
    go_simp
    with_reducible rfl
  rotate_left
  · simp only [Act.put, List.setIfInBounds_toArray, List.set_cons_zero, List.set_cons_succ, i64_w, i32_w]
    rfl
  refine take_ (i := 1) (N := some 6) (v := ?_) (a' := ?_) #[true, true, false, false, false, true, false, true, false, false, false, false, false] rfl rfl (by kernel_rfl) (fun _ _ _ h => h) (Or.inl ⟨by rfl, ?_⟩) hHeld ?_ ?_
  rotate_left
  · rintro w' ⟨s0, s1, s2, s3, s4, s5⟩
    go_simp
    with_reducible rfl
  rotate_left
  · simp only [Act.put, List.setIfInBounds_toArray, List.set_cons_zero, List.set_cons_succ, i64_w, i32_w]
    rfl
  refine take_ (i := 2) (N := some 7) (v := ?_) (a' := ?_) #[true, true, true, false, false, true, false, true, false, false, false, false, false] rfl rfl (by kernel_rfl) (fun _ _ _ h => h) (Or.inl ⟨by rfl, ?_⟩) hHeld ?_ ?_
  rotate_left
  · rintro w' ⟨s0, s1, s2, s3, s4, s5⟩
    go_simp
    with_reducible rfl
  rotate_left
  · simp only [Act.put, List.setIfInBounds_toArray, List.set_cons_zero, List.set_cons_succ, i64_w, i32_w]
    rfl
  refine take_ (i := 6) (N := some 11) (v := ?_) (a' := ?_) #[true, true, true, false, false, true, true, true, false, false, false, false, false] rfl rfl (by kernel_rfl) (fun _ _ _ h => h) (Or.inl ⟨by rfl, ?_⟩) hHeld ?_ ?_
  rotate_left
  · rintro w' ⟨s0, s1, s2, s3, s4, s5⟩
    go_simp
    with_reducible rfl
  rotate_left
  · simp only [Act.put, List.setIfInBounds_toArray, List.set_cons_zero, List.set_cons_succ, i64_w, i32_w]
    rfl
  refine take_ (i := 8) (N := some 13) (v := ?_) (a' := ?_) #[true, true, true, false, false, true, true, true, true, false, false, false, false] rfl rfl (by kernel_rfl) (fun _ _ _ h => h) (Or.inl ⟨by rfl, ?_⟩) hHeld ?_ ?_
  rotate_left
  · rintro w' ⟨s0, s1, s2, s3, s4, s5⟩
    go_simp
    with_reducible rfl
  rotate_left
  · simp only [Act.put, List.setIfInBounds_toArray, List.set_cons_zero, List.set_cons_succ, i64_w, i32_w]
    rfl
  refine pure_ (i := 9) (N := some 14) (v := ?_) (a' := ?_) #[true, true, true, false, false, true, true, true, true, true, false, false, false] rfl rfl (by kernel_rfl) (fun _ _ _ h => h) (Or.inl ⟨by rfl, ?_⟩) ?_ ?_
  rotate_left
  · intro w'
    go_simp
    with_reducible rfl
  rotate_left
  · simp only [Act.put, List.setIfInBounds_toArray, List.set_cons_zero, List.set_cons_succ, i64_w, i32_w]
    rfl
  refine one_ (i := 3) (N := some 8) #[true, true, true, true, false, true, true, true, true, true, false, false, false] rfl rfl (by kernel_rfl) (by decide) (fun K hK => ?_)
  refine goes_ Tryz.func59 (by kernel_rfl) rfl #[.agg #[.int .i64 p, .int .i64 n, .slice A ms.length c], .agg #[.int .i64 p, .int .i64 n, .slice B ts.length e]] (by rfl) rfl rfl (by simp only [List.map_toArray, List.map_cons, List.map_nil]; rfl) ?_
  with_reducible refine (hF _ (Kd.C_below hC3 (Below.refl _ _).drew) (Kd.C_below hD3 (Below.refl _ _).drew)).mono ?_
  rintro e' xw ⟨v9, rfl, hR8, hb8'⟩
  refine ⟨_, rfl, ?_⟩
  have hqx := below_undrewA hb8'
  obtain ⟨L8, c8, rfl, hC8⟩ := img_read hR8
  refine hK.out _ _ ⟨pw_cell_below hqx g0, pw_cell_below hqx g1, pw_cell_below hqx g2, pw_cell_below hqx f0, pw_cell_below hqx f1, pw_cell_below hqx f2⟩ (fun hHeld => ?_)
  clear hK K
  refine norm_ (a' := ?_) ?_ ?_
  rotate_left
  · show Act.put _ (some 8) _ = _
    simp only [Act.put, List.setIfInBounds_toArray, List.set_cons_zero, List.set_cons_succ, i64_w, i32_w]
    rfl
  refine one_ (i := 4) (N := some 9) #[true, true, true, true, true, true, true, true, true, true, false, false, false] rfl rfl (by kernel_rfl) (by decide) (fun K hK => ?_)
  refine goes_ Tryz.func58 (by kernel_rfl) rfl #[.agg #[.int .i64 p, .int .i64 n, .slice B ts.length e], .slice L8 ms.length c8] (by rfl) rfl rfl (by simp only [List.map_toArray, List.map_cons, List.map_nil]; rfl) ?_
  with_reducible refine (hU _ L8 c8 hC8).mono ?_
  rintro e' yw ⟨A7, c7, rfl, hR7, hb7'⟩
  refine ⟨_, rfl, ?_⟩
  have hqy := hqx.trans (hb7'.mono hqx.size)
  have hC7 := (Kd.R_reads' hR7).2.2
  refine hK.out _ _ ⟨pw_cell_below hqy g0, pw_cell_below hqy g1, pw_cell_below hqy g2, pw_cell_below hqy f0, pw_cell_below hqy f1, pw_cell_below hqy f2⟩ (fun hHeld => ?_)
  clear hK K
  refine norm_ (a' := ?_) ?_ ?_
  rotate_left
  · show Act.put _ (some 9) _ = _
    simp only [Act.put, List.setIfInBounds_toArray, List.set_cons_zero, List.set_cons_succ, i64_w, i32_w]
    rfl
  refine one_ (i := 10) (N := some 15) #[true, true, true, true, true, true, true, true, true, true, true, false, false] rfl rfl (by kernel_rfl) (by decide) (fun K hK => ?_)
  refine goes_ Tryz.func77 (by kernel_rfl) rfl #[.int .i64 p, .int .i64 ms.length] (by rfl) rfl rfl (by simp only [List.map_toArray, List.map_cons, List.map_nil]; rfl) ?_
  with_reducible refine (hI _).mono ?_
  rintro e' uw ⟨rfl, hb6'⟩
  refine ⟨_, rfl, ?_⟩
  have hqu := hqy.trans (hb6'.mono hqy.size)
  have hC6 := Kd.C_below hC7 hb6'
  refine hK.out _ _ ⟨pw_cell_below hqu g0, pw_cell_below hqu g1, pw_cell_below hqu g2, pw_cell_below hqu f0, pw_cell_below hqu f1, pw_cell_below hqu f2⟩ (fun hHeld => ?_)
  clear hK K
  refine norm_ (a' := ?_) ?_ ?_
  rotate_left
  · show Act.put _ (some 15) _ = _
    simp only [Act.put, List.setIfInBounds_toArray, List.set_cons_zero, List.set_cons_succ, i64_w, i32_w]
    rfl
  refine one_ (i := 11) (N := some 16) #[true, true, true, true, true, true, true, true, true, true, true, true, false] rfl rfl (by kernel_rfl) (by decide) (fun K hK => ?_)
  refine goes_ Tryz.func78 (by kernel_rfl) rfl #[.agg #[.int .i64 p, .int .i64 n, .slice A7 us.length c7], .int .i64 k0] (by rfl) rfl rfl (by simp only [List.map_toArray, List.map_cons, List.map_nil]; rfl) ?_
  with_reducible refine (hS _ A7 c7 hC6).mono ?_
  rintro e' zw ⟨A9, c9, rfl, hR9, hb9'⟩
  refine ⟨_, rfl, ?_⟩
  have hqz := hqu.trans (hb9'.mono hqu.size)
  have z0 := pw_cell_below hqz r0
  have z1 := pw_cell_below hqz r1
  have z2 := pw_cell_below hqz r2
  have z3 := fun j => (hqz.frozen (p := ⟨rb, j, none⟩) (by show rb < _; have := HZ.out; omega)).trans (r3 j)
  refine hK.out _ _ ⟨pw_cell_below hqz g0, pw_cell_below hqz g1, pw_cell_below hqz g2, pw_cell_below hqz f0, pw_cell_below hqz f1, pw_cell_below hqz f2⟩ (fun hHeld => ?_)
  clear hK K
  refine norm_ (a' := ?_) ?_ ?_
  rotate_left
  · show Act.put _ (some 16) _ = _
    simp only [Act.put, List.setIfInBounds_toArray, List.set_cons_zero, List.set_cons_succ, i64_w, i32_w]
    rfl
  refine last_ (i := 12) (N := none) #[true, true, true, true, true, true, true, true, true, true, true, true, true] rfl rfl (by kernel_rfl) (by decide) (fun K hK => ?_)
  refine skip_ (w1 := ?_) (by rfl) rfl ?_ ?_
  rotate_left
  · go_simp
    rfl
  refine hK.out _ _ ?_
  clear hK K
  refine done_ (by kernel_rfl) ?_
  go_wp2
  refine bodyPost_ret (v := .agg #[.int .i64 p, .int .i64 n, .slice A9 ys.length c9]) (by simp [results, Tryz.results65, go_sem, z0, z1, z2, z3]) rfl ⟨A9, c9, rfl, ?_, ?_⟩
  · exact Kd.R_lower (R_set3 (Kd.R_mono (Kd.R_bound hR9) (ok' := fun k => k ≠ rb) (fun k hk => by have h4 := hk.2.1; have h5 := hqu.size; have h6 := HZ.out; show k ≠ rb; have h7 : uw.heap.size ≤ k := h4; omega)) (fun k hk => hk) (Nat.le_refl _) _ _ _) (by have h5 := hqu.size; have h6 := HZ.out; show w.heap.size ≤ uw.heap.size; omega)
  · rw [hgb]
    exact below_set3 (hbW.trans (hqz.mono (by have h6 := HZ.out; omega))) (by omega) _ _ _
set_option maxRecDepth 100000 in
set_option maxHeartbeats 4000000 in
theorem specReynoldsOf_5 (p : Int) (n : Nat) (A : Option Addr) (c : Nat) (ms : List M9) (B : Option Addr) (e : Nat) (ts : List T4) (w : World) (hC : kM.C w A ms.length ms) (hD : kT.C w B ts.length ts) (hN : ms.length ≤ 48) (hts : Canon p ts) (hd : ∀ t ∈ ts, degE t.e ≤ 12) (hp : 2 ≤ p) (hp' : p ≤ 13) (h1 : 1 ≤ n) (h3 : n ≤ 3)
    (hK : ∀ W, kM.C W A ms.length ms → kT.C W B ts.length ts → Calls Tryz.prog 50 #[.agg #[.int .i64 p, .int .i64 n, .slice A ms.length c], .agg #[.int .i64 p, .int .i64 n, .slice B ts.length e]] W (Gives (.int .i64 0) W)) (hmod : ((ms.length : Int) % p == 0) = true) :
    Calls Tryz.prog 26 #[.agg #[.int .i64 p, .int .i64 n, .slice A ms.length c], .agg #[.int .i64 p, .int .i64 n, .slice B ts.length e]] w (MakesPC ⟨0, 0, [], 5⟩ 80 w) := by
  have hMo := fun W => l03Modular_c p n A ms.length c W hp hp' hN
  rw [hmod] at hMo
  have hbW : Below w.heap.size w (((w.alloc (.cells #[.int .i64 p, .int .i64 n, .slice A ms.length c] 34)).alloc (.cells #[.int .i64 p, .int .i64 n, .slice B ts.length e] 38)).alloc (.cells #[.int .i64 0, .int .i64 0, .slice none 0 0] 38)) := (by repeat (first | (with_reducible assumption) | (with_reducible exact Below.refl _ _) | ((with_reducible refine Below.alloc ?_ ?_ _); rotate_left; (focus (first | omega | (simp; done) | (simp; omega)))) | (with_reducible refine Below.drew ?_) | ((with_reducible refine Below.setCell ?_ ?_ _); rotate_left; (focus (first | omega | (simp; done) | (simp; omega)))) | ((with_reducible refine below_hop (by assumption) ?_ ?_); rotate_left; (focus (first | omega | (simp; done) | (simp; omega)))) | ((with_reducible refine bel_later _ ?_ ?_); rotate_left; (focus (first | omega | (simp; done) | (simp; omega))))))
  have hC3 := Kd.C_below hC hbW
  have hD3 := Kd.C_below hD hbW
  clear hts hd hmod
  go_enter Tryz.func26, Tryz.ntmps26
  go_wp2_with (first | ((go_at_call 50; (first | (with_reducible refine call_later2 (hK _ hC3 hD3) ?_) | (with_reducible refine call_later (hK _ hC3 hD3) ?_)); intro x1); have hX : Below (((w.alloc (.cells #[.int .i64 p, .int .i64 n, .slice A ms.length c] 34)).alloc (.cells #[.int .i64 p, .int .i64 n, .slice B ts.length e] 38)).alloc (.cells #[.int .i64 0, .int .i64 0, .slice none 0 0] 38)).heap.size (((w.alloc (.cells #[.int .i64 p, .int .i64 n, .slice A ms.length c] 34)).alloc (.cells #[.int .i64 p, .int .i64 n, .slice B ts.length e] 38)).alloc (.cells #[.int .i64 0, .int .i64 0, .slice none 0 0] 38)) x1.W := (by repeat (first | (with_reducible assumption) | (with_reducible exact Below.refl _ _) | ((with_reducible refine Below.alloc ?_ ?_ _); rotate_left; (focus (first | omega | (simp; done) | (simp; omega)))) | (with_reducible refine Below.drew ?_) | ((with_reducible refine Below.setCell ?_ ?_ _); rotate_left; (focus (first | omega | (simp; done) | (simp; omega)))) | ((with_reducible refine below_hop (by assumption) ?_ ?_); rotate_left; (focus (first | omega | (simp; done) | (simp; omega)))) | ((with_reducible refine bel_later _ ?_ ?_); rotate_left; (focus (first | omega | (simp; done) | (simp; omega)))))); obtain ⟨g0, g1, g2, f0, f1, f2, r0, r1, r2, r3, hb2, zz2⟩ := w3_facts p n A c ms B e ts w hX) | (go_at_call 64; (first | (with_reducible refine call_later2 (hMo _) ?_) | (with_reducible refine call_later (hMo _) ?_)); intro x2))
  have zz : w.heap.size + 1 + 1 < x2.W.heap.size := by have := x2.ok.size; simp at this; omega
  refine bodyPost_ret (v := .tuple #[.agg #[.int .i64 0, .int .i64 0, .slice none 0 0], .int .i64 5]) (by simp [results, Tryz.results26, go_sem]) rfl ?_
  exact MakesPC_nil _ _ _ _ (by repeat (first | (with_reducible assumption) | (with_reducible exact Below.refl _ _) | ((with_reducible refine Below.alloc ?_ ?_ _); rotate_left; (focus (first | omega | (simp; done) | (simp; omega)))) | (with_reducible refine Below.drew ?_) | ((with_reducible refine Below.setCell ?_ ?_ _); rotate_left; (focus (first | omega | (simp; done) | (simp; omega)))) | ((with_reducible refine below_hop (by assumption) ?_ ?_); rotate_left; (focus (first | omega | (simp; done) | (simp; omega)))) | ((with_reducible refine bel_later _ ?_ ?_); rotate_left; (focus (first | omega | (simp; done) | (simp; omega))))))
set_option maxRecDepth 100000 in
set_option maxHeartbeats 4000000 in
theorem implReynoldsOf_5 (p : Int) (n : Nat) (A : Option Addr) (c : Nat) (ms : List M9) (B : Option Addr) (e : Nat) (ts : List T4) (w : World) (hC : kM.C w A ms.length ms) (hD : kT.C w B ts.length ts) (hN : ms.length ≤ 48) (hts : Canon p ts) (hd : ∀ t ∈ ts, degE t.e ≤ 12) (hp : 2 ≤ p) (hp' : p ≤ 13) (h1 : 1 ≤ n) (h3 : n ≤ 3)
    (hK : ∀ W, kM.C W A ms.length ms → kT.C W B ts.length ts → Calls Tryz.prog 54 #[.agg #[.int .i64 p, .int .i64 n, .slice A ms.length c], .agg #[.int .i64 p, .int .i64 n, .slice B ts.length e]] W (Gives (.int .i64 0) W)) (hmod : ((ms.length : Int) % p == 0) = true) :
    Calls Tryz.prog 27 #[.agg #[.int .i64 p, .int .i64 n, .slice A ms.length c], .agg #[.int .i64 p, .int .i64 n, .slice B ts.length e]] w (MakesPC ⟨0, 0, [], 5⟩ 80 w) := by
  have hMo := fun W => modular_c p n A ms.length c W hp hp' hN
  rw [hmod] at hMo
  have hbW : Below w.heap.size w (((w.alloc (.cells #[.int .i64 p, .int .i64 n, .slice A ms.length c] 34)).alloc (.cells #[.int .i64 p, .int .i64 n, .slice B ts.length e] 38)).alloc (.cells #[.int .i64 0, .int .i64 0, .slice none 0 0] 38)) := (by repeat (first | (with_reducible assumption) | (with_reducible exact Below.refl _ _) | ((with_reducible refine Below.alloc ?_ ?_ _); rotate_left; (focus (first | omega | (simp; done) | (simp; omega)))) | (with_reducible refine Below.drew ?_) | ((with_reducible refine Below.setCell ?_ ?_ _); rotate_left; (focus (first | omega | (simp; done) | (simp; omega)))) | ((with_reducible refine below_hop (by assumption) ?_ ?_); rotate_left; (focus (first | omega | (simp; done) | (simp; omega)))) | ((with_reducible refine bel_later _ ?_ ?_); rotate_left; (focus (first | omega | (simp; done) | (simp; omega))))))
  have hC3 := Kd.C_below hC hbW
  have hD3 := Kd.C_below hD hbW
  clear hts hd hmod
  go_enter Tryz.func27, Tryz.ntmps27
  go_wp2_with (first | ((go_at_call 54; (first | (with_reducible refine call_later2 (hK _ hC3 hD3) ?_) | (with_reducible refine call_later (hK _ hC3 hD3) ?_)); intro x1); have hX : Below (((w.alloc (.cells #[.int .i64 p, .int .i64 n, .slice A ms.length c] 34)).alloc (.cells #[.int .i64 p, .int .i64 n, .slice B ts.length e] 38)).alloc (.cells #[.int .i64 0, .int .i64 0, .slice none 0 0] 38)).heap.size (((w.alloc (.cells #[.int .i64 p, .int .i64 n, .slice A ms.length c] 34)).alloc (.cells #[.int .i64 p, .int .i64 n, .slice B ts.length e] 38)).alloc (.cells #[.int .i64 0, .int .i64 0, .slice none 0 0] 38)) x1.W := (by repeat (first | (with_reducible assumption) | (with_reducible exact Below.refl _ _) | ((with_reducible refine Below.alloc ?_ ?_ _); rotate_left; (focus (first | omega | (simp; done) | (simp; omega)))) | (with_reducible refine Below.drew ?_) | ((with_reducible refine Below.setCell ?_ ?_ _); rotate_left; (focus (first | omega | (simp; done) | (simp; omega)))) | ((with_reducible refine below_hop (by assumption) ?_ ?_); rotate_left; (focus (first | omega | (simp; done) | (simp; omega)))) | ((with_reducible refine bel_later _ ?_ ?_); rotate_left; (focus (first | omega | (simp; done) | (simp; omega)))))); obtain ⟨g0, g1, g2, f0, f1, f2, r0, r1, r2, r3, hb2, zz2⟩ := w3_facts p n A c ms B e ts w hX) | (go_at_call 66; (first | (with_reducible refine call_later2 (hMo _) ?_) | (with_reducible refine call_later (hMo _) ?_)); intro x2))
  have zz : w.heap.size + 1 + 1 < x2.W.heap.size := by have := x2.ok.size; simp at this; omega
  refine bodyPost_ret (v := .tuple #[.agg #[.int .i64 0, .int .i64 0, .slice none 0 0], .int .i64 5]) (by simp [results, Tryz.results27, go_sem]) rfl ?_
  exact MakesPC_nil _ _ _ _ (by repeat (first | (with_reducible assumption) | (with_reducible exact Below.refl _ _) | ((with_reducible refine Below.alloc ?_ ?_ _); rotate_left; (focus (first | omega | (simp; done) | (simp; omega)))) | (with_reducible refine Below.drew ?_) | ((with_reducible refine Below.setCell ?_ ?_ _); rotate_left; (focus (first | omega | (simp; done) | (simp; omega)))) | ((with_reducible refine below_hop (by assumption) ?_ ?_); rotate_left; (focus (first | omega | (simp; done) | (simp; omega)))) | ((with_reducible refine bel_later _ ?_ ?_); rotate_left; (focus (first | omega | (simp; done) | (simp; omega))))))
set_option maxRecDepth 100000 in
set_option maxHeartbeats 4000000 in
theorem specReynoldsOf_0 (p : Int) (n : Nat) (A : Option Addr) (c : Nat) (ms : List M9) (B : Option Addr) (e : Nat) (ts : List T4) (w : World) (hC : kM.C w A ms.length ms) (hD : kT.C w B ts.length ts) (hN : ms.length ≤ 48) (hts : Canon p ts) (hd : ∀ t ∈ ts, degE t.e ≤ 12) (hp : 2 ≤ p) (hp' : p ≤ 13) (h1 : 1 ≤ n) (h3 : n ≤ 3)
    (hK : ∀ W, kM.C W A ms.length ms → kT.C W B ts.length ts → Calls Tryz.prog 50 #[.agg #[.int .i64 p, .int .i64 n, .slice A ms.length c], .agg #[.int .i64 p, .int .i64 n, .slice B ts.length e]] W (Gives (.int .i64 0) W)) (hmod : ((ms.length : Int) % p == 0) = false) :
    Calls Tryz.prog 26 #[.agg #[.int .i64 p, .int .i64 n, .slice A ms.length c], .agg #[.int .i64 p, .int .i64 n, .slice B ts.length e]] w (MakesPC ⟨p, n, reyL p n ms ts, 0⟩ 80 w) := by
  have hMo := fun W => l03Modular_c p n A ms.length c W hp hp' hN
  rw [hmod] at hMo
  have hL := fun W h5 h6 => l03Reynolds_c p n A c ms B e ts W h5 h6 hN hts hd hp hp' h1 h3
  have hbW : Below w.heap.size w (((w.alloc (.cells #[.int .i64 p, .int .i64 n, .slice A ms.length c] 34)).alloc (.cells #[.int .i64 p, .int .i64 n, .slice B ts.length e] 38)).alloc (.cells #[.int .i64 0, .int .i64 0, .slice none 0 0] 38)) := (by repeat (first | (with_reducible assumption) | (with_reducible exact Below.refl _ _) | ((with_reducible refine Below.alloc ?_ ?_ _); rotate_left; (focus (first | omega | (simp; done) | (simp; omega)))) | (with_reducible refine Below.drew ?_) | ((with_reducible refine Below.setCell ?_ ?_ _); rotate_left; (focus (first | omega | (simp; done) | (simp; omega)))) | ((with_reducible refine below_hop (by assumption) ?_ ?_); rotate_left; (focus (first | omega | (simp; done) | (simp; omega)))) | ((with_reducible refine bel_later _ ?_ ?_); rotate_left; (focus (first | omega | (simp; done) | (simp; omega))))))
  have hC3 := Kd.C_below hC hbW
  have hD3 := Kd.C_below hD hbW
  clear hts hd hmod
  generalize reyL p n ms ts = le at *
  go_enter Tryz.func26, Tryz.ntmps26
  go_wp2_with (first | ((go_at_call 50; (first | (with_reducible refine call_later2 (hK _ hC3 hD3) ?_) | (with_reducible refine call_later (hK _ hC3 hD3) ?_)); intro x1); have hX : Below (((w.alloc (.cells #[.int .i64 p, .int .i64 n, .slice A ms.length c] 34)).alloc (.cells #[.int .i64 p, .int .i64 n, .slice B ts.length e] 38)).alloc (.cells #[.int .i64 0, .int .i64 0, .slice none 0 0] 38)).heap.size (((w.alloc (.cells #[.int .i64 p, .int .i64 n, .slice A ms.length c] 34)).alloc (.cells #[.int .i64 p, .int .i64 n, .slice B ts.length e] 38)).alloc (.cells #[.int .i64 0, .int .i64 0, .slice none 0 0] 38)) x1.W := (by repeat (first | (with_reducible assumption) | (with_reducible exact Below.refl _ _) | ((with_reducible refine Below.alloc ?_ ?_ _); rotate_left; (focus (first | omega | (simp; done) | (simp; omega)))) | (with_reducible refine Below.drew ?_) | ((with_reducible refine Below.setCell ?_ ?_ _); rotate_left; (focus (first | omega | (simp; done) | (simp; omega)))) | ((with_reducible refine below_hop (by assumption) ?_ ?_); rotate_left; (focus (first | omega | (simp; done) | (simp; omega)))) | ((with_reducible refine bel_later _ ?_ ?_); rotate_left; (focus (first | omega | (simp; done) | (simp; omega)))))); obtain ⟨g0, g1, g2, f0, f1, f2, r0, r1, r2, r3, hb2, zz2⟩ := w3_facts p n A c ms B e ts w hX) | ((go_at_call 64; (first | (with_reducible refine call_later2 (hMo _) ?_) | (with_reducible refine call_later (hMo _) ?_)); intro x2); have hX : Below (((w.alloc (.cells #[.int .i64 p, .int .i64 n, .slice A ms.length c] 34)).alloc (.cells #[.int .i64 p, .int .i64 n, .slice B ts.length e] 38)).alloc (.cells #[.int .i64 0, .int .i64 0, .slice none 0 0] 38)).heap.size (((w.alloc (.cells #[.int .i64 p, .int .i64 n, .slice A ms.length c] 34)).alloc (.cells #[.int .i64 p, .int .i64 n, .slice B ts.length e] 38)).alloc (.cells #[.int .i64 0, .int .i64 0, .slice none 0 0] 38)) x2.W := (by repeat (first | (with_reducible assumption) | (with_reducible exact Below.refl _ _) | ((with_reducible refine Below.alloc ?_ ?_ _); rotate_left; (focus (first | omega | (simp; done) | (simp; omega)))) | (with_reducible refine Below.drew ?_) | ((with_reducible refine Below.setCell ?_ ?_ _); rotate_left; (focus (first | omega | (simp; done) | (simp; omega)))) | ((with_reducible refine below_hop (by assumption) ?_ ?_); rotate_left; (focus (first | omega | (simp; done) | (simp; omega)))) | ((with_reducible refine bel_later _ ?_ ?_); rotate_left; (focus (first | omega | (simp; done) | (simp; omega)))))); obtain ⟨g0, g1, g2, f0, f1, f2, r0, r1, r2, r3, hb2, zz2⟩ := w3_facts p n A c ms B e ts w hX) | (go_at_call 65; (with_reducible refine call_makesP2 (hL _ (Kd.C_below hC hb2) (Kd.C_below hD hb2)) ?_); intro x3 A3 c3 hb3 hl3 hR3 hC4))
  have zz3 := hb3.size
  refine bodyPost_ret (v := .tuple #[.agg #[.int .i64 p, .int .i64 n, .slice A3 le.length c3], .int .i64 0]) (by simp [results, Tryz.results26, go_sem]) rfl ?_
  refine ⟨_, _, rfl, ?_, (by repeat (first | (with_reducible assumption) | (with_reducible exact Below.refl _ _) | ((with_reducible refine Below.alloc ?_ ?_ _); rotate_left; (focus (first | omega | (simp; done) | (simp; omega)))) | (with_reducible refine Below.drew ?_) | ((with_reducible refine Below.setCell ?_ ?_ _); rotate_left; (focus (first | omega | (simp; done) | (simp; omega)))) | ((with_reducible refine below_hop (by assumption) ?_ ?_); rotate_left; (focus (first | omega | (simp; done) | (simp; omega)))) | ((with_reducible refine bel_later _ ?_ ?_); rotate_left; (focus (first | omega | (simp; done) | (simp; omega))))))⟩
  exact Kd.R_lower (R_old (R_old (R_old hR3 (p := ⟨w.heap.size + 1 + 1, 0, none⟩) zz2 _) (p := ⟨w.heap.size + 1 + 1, 1, none⟩) zz2 _) (p := ⟨w.heap.size + 1 + 1, 2, none⟩) zz2 _) (by omega)
set_option maxRecDepth 100000 in
set_option maxHeartbeats 4000000 in
theorem implReynoldsOf_0 (p : Int) (n : Nat) (A : Option Addr) (c : Nat) (ms : List M9) (B : Option Addr) (e : Nat) (ts : List T4) (w : World) (hC : kM.C w A ms.length ms) (hD : kT.C w B ts.length ts) (hN : ms.length ≤ 48) (hts : Canon p ts) (hd : ∀ t ∈ ts, degE t.e ≤ 12) (hp : 2 ≤ p) (hp' : p ≤ 13) (h1 : 1 ≤ n) (h3 : n ≤ 3)
    (hK : ∀ W, kM.C W A ms.length ms → kT.C W B ts.length ts → Calls Tryz.prog 54 #[.agg #[.int .i64 p, .int .i64 n, .slice A ms.length c], .agg #[.int .i64 p, .int .i64 n, .slice B ts.length e]] W (Gives (.int .i64 0) W)) (hmod : ((ms.length : Int) % p == 0) = false) :
    Calls Tryz.prog 27 #[.agg #[.int .i64 p, .int .i64 n, .slice A ms.length c], .agg #[.int .i64 p, .int .i64 n, .slice B ts.length e]] w (MakesPC ⟨p, n, reyL p n ms ts, 0⟩ 80 w) := by
  have hMo := fun W => modular_c p n A ms.length c W hp hp' hN
  rw [hmod] at hMo
  obtain ⟨nl, hnl⟩ : ∃ nl : List T4, nl = [] := ⟨_, rfl⟩
  have hE := fun W => zeroPoly_c p n W
  have hT := fun W h5 h6 => transfer_c p n A c ms B e ts W h5 h6 hN hts hd hp hp' h1 h3
  have hv := rey_bd hp' (invF_range ((ms.length : Int) % p) hp).1 (invF_range ((ms.length : Int) % p) hp).2 (trL_canon hp n ms ts)
  have hA := fun W L A' c' cl h5 h6 => add_c p n p n (reyK p ms) L A' c' cl nl (trL p n ms ts) W h5 h6 (by rw [hnl]; simp) (by have := trL_len hp h3 ms hd; omega) hp hp' hv (by rw [hnl]; exact canon_nil p)
  have hI : ∀ W, Calls Tryz.prog 67 #[.int .i64 ((ms.length : Int).tmod p), .int .i64 p] W (Gives (.int .i64 (reyK p ms)) W) := fun W => by
    rw [Int.tmod_eq_emod_of_nonneg (by omega)]
    exact inverse_r hp hp' (Int.emod_nonneg _ (by omega)) (Int.emod_lt_of_pos _ (by omega)) W
  have hp0 : p ≠ 0 := by omega
  have hp1 : p ≠ -1 := by omega
  have e9 : putsT p nl (pairsT (reyK p ms) (trL p n ms ts)) = reyL p n ms ts := by rw [hnl]; rfl
  rw [e9] at hA
  rw [← hnl] at hE
  have hbW : Below w.heap.size w (((w.alloc (.cells #[.int .i64 p, .int .i64 n, .slice A ms.length c] 34)).alloc (.cells #[.int .i64 p, .int .i64 n, .slice B ts.length e] 38)).alloc (.cells #[.int .i64 0, .int .i64 0, .slice none 0 0] 38)) := (by repeat (first | (with_reducible assumption) | (with_reducible exact Below.refl _ _) | ((with_reducible refine Below.alloc ?_ ?_ _); rotate_left; (focus (first | omega | (simp; done) | (simp; omega)))) | (with_reducible refine Below.drew ?_) | ((with_reducible refine Below.setCell ?_ ?_ _); rotate_left; (focus (first | omega | (simp; done) | (simp; omega)))) | ((with_reducible refine below_hop (by assumption) ?_ ?_); rotate_left; (focus (first | omega | (simp; done) | (simp; omega)))) | ((with_reducible refine bel_later _ ?_ ?_); rotate_left; (focus (first | omega | (simp; done) | (simp; omega))))))
  have hC3 := Kd.C_below hC hbW
  have hD3 := Kd.C_below hD hbW
  clear e9 hv hts hd hmod hnl
  generalize trL p n ms ts = us at *
  generalize reyK p ms = k0 at *
  generalize reyL p n ms ts = ys at *
  go_enter Tryz.func27, Tryz.ntmps27
  go_wp2_with (first | ((go_at_call 54; (first | (with_reducible refine call_later2 (hK _ hC3 hD3) ?_) | (with_reducible refine call_later (hK _ hC3 hD3) ?_)); intro x1); have hX : Below (((w.alloc (.cells #[.int .i64 p, .int .i64 n, .slice A ms.length c] 34)).alloc (.cells #[.int .i64 p, .int .i64 n, .slice B ts.length e] 38)).alloc (.cells #[.int .i64 0, .int .i64 0, .slice none 0 0] 38)).heap.size (((w.alloc (.cells #[.int .i64 p, .int .i64 n, .slice A ms.length c] 34)).alloc (.cells #[.int .i64 p, .int .i64 n, .slice B ts.length e] 38)).alloc (.cells #[.int .i64 0, .int .i64 0, .slice none 0 0] 38)) x1.W := (by repeat (first | (with_reducible assumption) | (with_reducible exact Below.refl _ _) | ((with_reducible refine Below.alloc ?_ ?_ _); rotate_left; (focus (first | omega | (simp; done) | (simp; omega)))) | (with_reducible refine Below.drew ?_) | ((with_reducible refine Below.setCell ?_ ?_ _); rotate_left; (focus (first | omega | (simp; done) | (simp; omega)))) | ((with_reducible refine below_hop (by assumption) ?_ ?_); rotate_left; (focus (first | omega | (simp; done) | (simp; omega)))) | ((with_reducible refine bel_later _ ?_ ?_); rotate_left; (focus (first | omega | (simp; done) | (simp; omega)))))); obtain ⟨g0, g1, g2, f0, f1, f2, r0, r1, r2, r3, hb2, zz2⟩ := w3_facts p n A c ms B e ts w hX) | ((go_at_call 66; (first | (with_reducible refine call_later2 (hMo _) ?_) | (with_reducible refine call_later (hMo _) ?_)); intro x2); have hX : Below (((w.alloc (.cells #[.int .i64 p, .int .i64 n, .slice A ms.length c] 34)).alloc (.cells #[.int .i64 p, .int .i64 n, .slice B ts.length e] 38)).alloc (.cells #[.int .i64 0, .int .i64 0, .slice none 0 0] 38)).heap.size (((w.alloc (.cells #[.int .i64 p, .int .i64 n, .slice A ms.length c] 34)).alloc (.cells #[.int .i64 p, .int .i64 n, .slice B ts.length e] 38)).alloc (.cells #[.int .i64 0, .int .i64 0, .slice none 0 0] 38)) x2.W := (by repeat (first | (with_reducible assumption) | (with_reducible exact Below.refl _ _) | ((with_reducible refine Below.alloc ?_ ?_ _); rotate_left; (focus (first | omega | (simp; done) | (simp; omega)))) | (with_reducible refine Below.drew ?_) | ((with_reducible refine Below.setCell ?_ ?_ _); rotate_left; (focus (first | omega | (simp; done) | (simp; omega)))) | ((with_reducible refine below_hop (by assumption) ?_ ?_); rotate_left; (focus (first | omega | (simp; done) | (simp; omega)))) | ((with_reducible refine bel_later _ ?_ ?_); rotate_left; (focus (first | omega | (simp; done) | (simp; omega)))))); obtain ⟨g0, g1, g2, f0, f1, f2, r0, r1, r2, r3, hb2, zz2⟩ := w3_facts p n A c ms B e ts w hX))
  clear hC3 hD3 hX hbW
  have hC3 := Kd.C_below hC hb2
  have hD3 := Kd.C_below hD hb2
  generalize x2.W = V at *
  have HZ := Lib.hid zz2
  generalize hrb : w.heap.size + 1 + 1 = rb at *
  generalize hfb : w.heap.size + 1 = fb at *
  generalize hgb : w.heap.size = gb at *
  refine start_ (n := 10) (S := fun w' => w'.cell? ⟨gb, 0, none⟩ = some (.int .i64 p) ∧ w'.cell? ⟨gb, 1, none⟩ = some (.int .i64 n) ∧ w'.cell? ⟨gb, 2, none⟩ = some (.slice A ms.length c) ∧ w'.cell? ⟨fb, 0, none⟩ = some (.int .i64 p) ∧ w'.cell? ⟨fb, 1, none⟩ = some (.int .i64 n) ∧ w'.cell? ⟨fb, 2, none⟩ = some (.slice B ts.length e)) (ds := []) #[false, false, false, false, false, false, false, false, false, false] (by kernel_rfl) rfl rfl ⟨g0, g1, g2, f0, f1, f2⟩ (fun hHeld => ?_)
  refine pure_ (i := 0) (N := some 18) (v := ?_) (a' := ?_) #[true, false, false, false, false, false, false, false, false, false] rfl rfl (by kernel_rfl) (fun _ _ _ h => h) (Or.inl ⟨by rfl, ?_⟩) ?_ ?_
  rotate_left
  · intro w'
    go_simp
    with_reducible rfl
  rotate_left
  · simp only [Act.put, List.setIfInBounds_toArray, List.set_cons_zero, List.set_cons_succ, i64_w, i32_w]
    rfl
  refine pure_ (i := 3) (N := some 21) (v := ?_) (a' := ?_) #[true, false, false, true, false, false, false, false, false, false] rfl rfl (by kernel_rfl) (fun _ _ _ h => h) (Or.inl ⟨by rfl, ?_⟩) ?_ ?_
  rotate_left
  · intro w'
    go_simp
    with_reducible rfl
  rotate_left
  · simp only [Act.put, List.setIfInBounds_toArray, List.set_cons_zero, List.set_cons_succ, i64_w, i32_w]
    rfl
  refine pure_ (i := 6) (N := some 24) (v := ?_) (a' := ?_) #[true, false, false, true, false, false, true, false, false, false] rfl rfl (by kernel_rfl) (fun _ _ _ h => h) (Or.inl ⟨by rfl, ?_⟩) ?_ ?_
  rotate_left
  · intro w'
    go_simp
    with_reducible rfl
  rotate_left
  · simp only [Act.put, List.setIfInBounds_toArray, List.set_cons_zero, List.set_cons_succ, i64_w, i32_w]
    rfl
  refine take_ (i := 1) (N := some 19) (v := ?_) (a' := ?_) #[true, true, false, true, false, false, true, false, false, false] rfl rfl (by kernel_rfl) (fun _ _ _ h => h) (Or.inl ⟨by rfl, ?_⟩) hHeld ?_ ?_
  rotate_left
  · rintro w' ⟨s0, s1, s2, s3, s4, s5⟩
    go_simp
    with_reducible rfl
  rotate_left
  · simp only [Act.put, List.setIfInBounds_toArray, List.set_cons_zero, List.set_cons_succ, i64_w, i32_w]
    rfl
  refine pure_ (i := 2) (N := some 20) (v := ?_) (a' := ?_) #[true, true, true, true, false, false, true, false, false, false] rfl rfl (by kernel_rfl) (fun _ _ _ h => h) (Or.inl ⟨by rfl, ?_⟩) ?_ ?_
  rotate_left
  · intro w'
    go_simp
    with_reducible rfl
  rotate_left
  · simp only [Act.put, List.setIfInBounds_toArray, List.set_cons_zero, List.set_cons_succ, i64_w, i32_w]
    rfl
  refine take_ (i := 4) (N := some 22) (v := ?_) (a' := ?_) #[true, true, true, true, true, false, true, false, false, false] rfl rfl (by kernel_rfl) (fun _ _ _ h => h) (Or.inl ⟨by rfl, ?_⟩) hHeld ?_ ?_
  rotate_left
  · rintro w' ⟨s0, s1, s2, s3, s4, s5⟩
    go_simp
    with_reducible rfl
  rotate_left
  · simp only [Act.put, List.setIfInBounds_toArray, List.set_cons_zero, List.set_cons_succ, i64_w, i32_w]
    rfl
  refine pure_ (i := 5) (N := some 23) (v := ?_) (a' := ?_) #[true, true, true, true, true, true, true, false, false, false] rfl rfl (by kernel_rfl) (fun _ _ _ h => h) (Or.inl ⟨by rfl, ?_⟩) ?_ ?_
  rotate_left
  · intro w'
    go_simp
    with_reducible rfl
  rotate_left
  · simp only [Act.put, List.setIfInBounds_toArray, List.set_cons_zero, List.set_cons_succ, i64_w, i32_w]
    rfl
  refine take_ (i := 7) (N := some 25) (v := ?_) (a' := ?_) #[true, true, true, true, true, true, true, true, false, false] rfl rfl (by kernel_rfl) (fun _ _ _ h => h) (Or.inl ⟨by rfl, ?_⟩) hHeld ?_ ?_
  rotate_left
  · rintro w' ⟨s0, s1, s2, s3, s4, s5⟩
    go_simp
    with_reducible rfl
  rotate_left
  · simp only [Act.put, List.setIfInBounds_toArray, List.set_cons_zero, List.set_cons_succ, i64_w, i32_w]
    rfl
  refine one_ (i := 8) (N := some 26) #[true, true, true, true, true, true, true, true, true, false] rfl rfl (by kernel_rfl) (by decide) (fun K hK => ?_)
  refine goes_ Tryz.func67 (by kernel_rfl) rfl #[.int .i64 ((ms.length : Int).tmod p), .int .i64 p] (by rfl) rfl rfl (by simp only [List.map_toArray, List.map_cons, List.map_nil]; rfl) ?_
  with_reducible refine (hI _).mono ?_
  rintro e' vw ⟨rfl, hb5'⟩
  refine ⟨_, rfl, ?_⟩
  have hqv := below_undrewA hb5'
  refine hK.out _ _ ⟨pw_cell_below hqv g0, pw_cell_below hqv g1, pw_cell_below hqv g2, pw_cell_below hqv f0, pw_cell_below hqv f1, pw_cell_below hqv f2⟩ (fun hHeld => ?_)
  clear hK K
  refine norm_ (a' := ?_) ?_ ?_
  rotate_left
  · show Act.put _ (some 26) _ = _
    simp only [Act.put, List.setIfInBounds_toArray, List.set_cons_zero, List.set_cons_succ, i64_w, i32_w]
    rfl
  refine pure_ (i := 9) (N := some 7) (v := ?_) (a' := ?_) #[true, true, true, true, true, true, true, true, true, true] rfl rfl (by kernel_rfl) (fun _ _ _ h => h) (Or.inl ⟨by rfl, ?_⟩) ?_ ?_
  rotate_left
  · intro w'
    go_simp
    with_reducible rfl
  rotate_left
  · simp only [Act.put, List.setIfInBounds_toArray, List.set_cons_zero, List.set_cons_succ, i64_w, i32_w]
    rfl
  refine done_ (by kernel_rfl) ?_
  go_wp2
  replace r3 := fun j => (hqv.frozen (p := ⟨rb, j, none⟩) (by show rb < _; have := HZ.out; omega)).trans (r3 j)
  replace g0 := pw_cell_below hqv g0
  replace g1 := pw_cell_below hqv g1
  replace g2 := pw_cell_below hqv g2
  replace f0 := pw_cell_below hqv f0
  replace f1 := pw_cell_below hqv f1
  replace f2 := pw_cell_below hqv f2
  replace r0 := pw_cell_below hqv r0
  replace r1 := pw_cell_below hqv r1
  replace r2 := pw_cell_below hqv r2
  replace HZ := Lib.hid (show rb < vw.heap.size by have := hqv.size; have := HZ.out; omega)
  replace hC3 := Kd.C_below hC3 hqv
  replace hD3 := Kd.C_below hD3 hqv
  replace hb2 := hb2.trans (hqv.mono (by have := hb2.size; omega))
  refine start_ (n := 12) (S := fun w' => w'.cell? ⟨gb, 0, none⟩ = some (.int .i64 p) ∧ w'.cell? ⟨gb, 1, none⟩ = some (.int .i64 n) ∧ w'.cell? ⟨gb, 2, none⟩ = some (.slice A ms.length c) ∧ w'.cell? ⟨fb, 0, none⟩ = some (.int .i64 p) ∧ w'.cell? ⟨fb, 1, none⟩ = some (.int .i64 n) ∧ w'.cell? ⟨fb, 2, none⟩ = some (.slice B ts.length e)) (ds := [10]) #[false, false, false, false, false, false, false, false, false, false, false, false] (by kernel_rfl) rfl rfl ⟨g0, g1, g2, f0, f1, f2⟩ (fun hHeld => ?_)
  refine pure_ (i := 0) (N := some 27) (v := ?_) (a' := ?_) #[true, false, false, false, false, false, false, false, false, false, false, false] rfl rfl (by kernel_rfl) (fun _ _ _ h => h) (Or.inl ⟨by rfl, ?_⟩) ?_ ?_
  rotate_left
  · intro w'
    go_simp
    with_reducible rfl
  rotate_left
  · simp only [Act.put, List.setIfInBounds_toArray, List.set_cons_zero, List.set_cons_succ, i64_w, i32_w]
    rfl
  refine pure_ (i := 2) (N := some 29) (v := ?_) (a' := ?_) #[true, false, true, false, false, false, false, false, false, false, false, false] rfl rfl (by kernel_rfl) (fun _ _ _ h => h) (Or.inl ⟨by rfl, ?_⟩) ?_ ?_
  rotate_left
  · intro w'
    go_simp
    with_reducible rfl
  rotate_left
  · simp only [Act.put, List.setIfInBounds_toArray, List.set_cons_zero, List.set_cons_succ, i64_w, i32_w]
    rfl
  refine pure_ (i := 8) (N := some 35) (v := ?_) (a' := ?_) #[true, false, true, false, false, false, false, false, true, false, false, false] rfl rfl (by kernel_rfl) (fun _ _ _ h => h) (Or.inl ⟨by rfl, ?_⟩) ?_ ?_
  rotate_left
  · intro w'
    go_simp
    with_reducible rfl
  rotate_left
  · simp only [Act.put, List.setIfInBounds_toArray, List.set_cons_zero, List.set_cons_succ, i64_w, i32_w]
    rfl
  refine take_ (i := 1) (N := some 28) (v := ?_) (a' := ?_) #[true, true, true, false, false, false, false, false, true, false, false, false] rfl rfl (by kernel_rfl) (fun _ _ _ h => h) (Or.inl ⟨by rfl, ?_⟩) hHeld ?_ ?_
  rotate_left
  · rintro w' ⟨s0, s1, s2, s3, s4, s5⟩
    go_simp
    with_reducible rfl
  rotate_left
  · simp only [Act.put, List.setIfInBounds_toArray, List.set_cons_zero, List.set_cons_succ, i64_w, i32_w]
    rfl
  refine take_ (i := 3) (N := some 30) (v := ?_) (a' := ?_) #[true, true, true, true, false, false, false, false, true, false, false, false] rfl rfl (by kernel_rfl) (fun _ _ _ h => h) (Or.inl ⟨by rfl, ?_⟩) hHeld ?_ ?_
  rotate_left
  · rintro w' ⟨s0, s1, s2, s3, s4, s5⟩
    go_simp
    with_reducible rfl
  rotate_left
  · simp only [Act.put, List.setIfInBounds_toArray, List.set_cons_zero, List.set_cons_succ, i64_w, i32_w]
    rfl
  refine take_ (i := 5) (N := some 32) (v := ?_) (a' := ?_) #[true, true, true, true, false, true, false, false, true, false, false, false] rfl rfl (by kernel_rfl) (fun _ _ _ h => h) (Or.inl ⟨by rfl, ?_⟩) hHeld ?_ ?_
  rotate_left
  · rintro w' ⟨s0, s1, s2, s3, s4, s5⟩
    go_simp
    with_reducible rfl
  rotate_left
  · simp only [Act.put, List.setIfInBounds_toArray, List.set_cons_zero, List.set_cons_succ, i64_w, i32_w]
    rfl
  refine take_ (i := 6) (N := some 33) (v := ?_) (a' := ?_) #[true, true, true, true, false, true, true, false, true, false, false, false] rfl rfl (by kernel_rfl) (fun _ _ _ h => h) (Or.inl ⟨by rfl, ?_⟩) hHeld ?_ ?_
  rotate_left
  · rintro w' ⟨s0, s1, s2, s3, s4, s5⟩
    go_simp
    with_reducible rfl
  rotate_left
  · simp only [Act.put, List.setIfInBounds_toArray, List.set_cons_zero, List.set_cons_succ, i64_w, i32_w]
    rfl
  refine one_ (i := 4) (N := some 31) #[true, true, true, true, true, true, true, false, true, false, false, false] rfl rfl (by kernel_rfl) (by decide) (fun K hK => ?_)
  refine goes_ Tryz.func69 (by kernel_rfl) rfl #[.int .i64 p, .int .i64 n] (by rfl) rfl rfl (by simp only [List.map_toArray, List.map_cons, List.map_nil]; rfl) ?_
  with_reducible refine (hE _).mono ?_
  rintro e' xw ⟨L8, c8, rfl, hR8, hb8'⟩
  refine ⟨_, rfl, ?_⟩
  have hqx := below_undrewA hb8'
  refine hK.out _ _ ⟨pw_cell_below hqx g0, pw_cell_below hqx g1, pw_cell_below hqx g2, pw_cell_below hqx f0, pw_cell_below hqx f1, pw_cell_below hqx f2⟩ (fun hHeld => ?_)
  clear hK K
  refine norm_ (a' := ?_) ?_ ?_
  rotate_left
  · show Act.put _ (some 31) _ = _
    simp only [Act.put, List.setIfInBounds_toArray, List.set_cons_zero, List.set_cons_succ, i64_w, i32_w]
    rfl
  refine one_ (i := 7) (N := some 34) #[true, true, true, true, true, true, true, true, true, false, false, false] rfl rfl (by kernel_rfl) (by decide) (fun K hK => ?_)
  refine goes_ Tryz.func60 (by kernel_rfl) rfl #[.agg #[.int .i64 p, .int .i64 n, .slice A ms.length c], .agg #[.int .i64 p, .int .i64 n, .slice B ts.length e]] (by rfl) rfl rfl (by simp only [List.map_toArray, List.map_cons, List.map_nil]; rfl) ?_
  with_reducible refine (hT _ (Kd.C_below hC3 hqx) (Kd.C_below hD3 hqx)).mono ?_
  rintro e' yw ⟨A7, c7, rfl, hR7, hb7'⟩
  refine ⟨_, rfl, ?_⟩
  have hqy := hqx.trans (hb7'.mono hqx.size)
  have hC8 := Kd.C_below (Kd.R_reads' hR8).2.2 hb7'
  have hC7 := (Kd.R_reads' hR7).2.2
  refine hK.out _ _ ⟨pw_cell_below hqy g0, pw_cell_below hqy g1, pw_cell_below hqy g2, pw_cell_below hqy f0, pw_cell_below hqy f1, pw_cell_below hqy f2⟩ (fun hHeld => ?_)
  clear hK K
  refine norm_ (a' := ?_) ?_ ?_
  rotate_left
  · show Act.put _ (some 34) _ = _
    simp only [Act.put, List.setIfInBounds_toArray, List.set_cons_zero, List.set_cons_succ, i64_w, i32_w]
    rfl
  refine one_ (i := 9) (N := some 36) #[true, true, true, true, true, true, true, true, true, true, false, false] rfl rfl (by kernel_rfl) (by decide) (fun K hK => ?_)
  refine goes_ Tryz.func68 (by kernel_rfl) rfl #[.agg #[.int .i64 p, .int .i64 n, .slice L8 nl.length c8], .agg #[.int .i64 p, .int .i64 n, .slice A7 us.length c7], .int .i64 k0] (by rfl) rfl rfl (by simp only [List.map_toArray, List.map_cons, List.map_nil]; rfl) ?_
  with_reducible refine (hA _ L8 A7 c8 c7 hC8 hC7).mono ?_
  rintro e' zw ⟨A9, c9, rfl, hR9, hb9'⟩
  refine ⟨_, rfl, ?_⟩
  have hqz := hqy.trans (hb9'.mono hqy.size)
  have z0 := pw_cell_below hqz r0
  have z1 := pw_cell_below hqz r1
  have z2 := pw_cell_below hqz r2
  have z3 := fun j => (hqz.frozen (p := ⟨rb, j, none⟩) (by show rb < _; have := HZ.out; omega)).trans (r3 j)
  refine hK.out _ _ ⟨pw_cell_below hqz g0, pw_cell_below hqz g1, pw_cell_below hqz g2, pw_cell_below hqz f0, pw_cell_below hqz f1, pw_cell_below hqz f2⟩ (fun hHeld => ?_)
  clear hK K
  refine norm_ (a' := ?_) ?_ ?_
  rotate_left
  · show Act.put _ (some 36) _ = _
    simp only [Act.put, List.setIfInBounds_toArray, List.set_cons_zero, List.set_cons_succ, i64_w, i32_w]
    rfl
  refine last_ (i := 10) (N := none) #[true, true, true, true, true, true, true, true, true, true, true, false] rfl rfl (by kernel_rfl) (by decide) (fun K hK => ?_)
  refine skip_ (w1 := ?_) (by rfl) rfl ?_ ?_
  rotate_left
  · go_simp
    rfl
  refine hK.out _ _ ?_
  clear hK K
  refine pure_ (i := 11) (N := some 5) (v := ?_) (a' := ?_) #[true, true, true, true, true, true, true, true, true, true, true, true] rfl rfl (by kernel_rfl) (fun _ _ _ h => h) (Or.inl ⟨by rfl, ?_⟩) ?_ ?_
  rotate_left
  · intro w'
    go_simp
    with_reducible rfl
  rotate_left
  · simp only [Act.put, List.setIfInBounds_toArray, List.set_cons_zero, List.set_cons_succ, i64_w, i32_w]
    rfl
  refine done_ (by kernel_rfl) ?_
  go_wp2
  refine bodyPost_ret (v := .tuple #[.agg #[.int .i64 p, .int .i64 n, .slice A9 ys.length c9], .int .i64 0]) (by simp [results, Tryz.results27, go_sem, z0, z1, z2, z3]) rfl ⟨A9, c9, rfl, ?_, ?_⟩
  · exact Kd.R_lower (R_set3 (Kd.R_mono (Kd.R_bound hR9) (ok' := fun k => k ≠ rb) (fun k hk => by have h4 := hk.2.1; have h5 := hqy.size; have h6 := HZ.out; show k ≠ rb; have h7 : yw.heap.size ≤ k := h4; omega)) (fun k hk => hk) (Nat.le_refl _) _ _ _) (by have h5 := hqy.size; have h6 := HZ.out; show w.heap.size ≤ yw.heap.size; omega)
  · rw [hgb]
    exact below_set3 (hb2.trans (hqz.mono (by have h6 := HZ.out; omega))) (by omega) _ _ _
set_option maxRecDepth 100000 in
set_option maxHeartbeats 4000000 in
theorem implReynoldsOf_c (p n : Int) (A : Option Addr) (c : Nat) (ms : List M9) (q d : Int) (B : Option Addr) (e : Nat) (ts : List T4) (w : World) (hC : kM.C w A ms.length ms) (hD : kT.C w B ts.length ts) (hN : ms.length ≤ 9223372036854775807) (hM : ts.length ≤ 9223372036854775807) :
    Calls Tryz.prog 27 #[.agg #[.int .i64 p, .int .i64 n, .slice A ms.length c], .agg #[.int .i64 q, .int .i64 d, .slice B ts.length e]] w (MakesPC (reyR p n ms q d ts) 80 w) := by
  have hK := fun W h h' => actionCode_c p n A c ms q d B e ts W h h' hN hM
  rcases codeF_three p n ms q d ts with h0 | h0 | h0
  · cases hmod : ((ms.length : Int) % p == 0) with
    | true =>
      rw [reyR_5 h0 hmod]
      rw [h0] at hK
      obtain ⟨hq, hdn, hp, hp', h1, h3, hl, hcan, hdg⟩ := codeF_nums h0
      clear h0
      obtain ⟨k, hk⟩ := Int.eq_ofNat_of_zero_le (show 0 ≤ n by omega)
      rw [hk] at hdn
      subst hq
      subst hdn
      subst hk
      exact implReynoldsOf_5 _ k A c ms B e ts w hC hD hl hcan hdg hp hp' (by omega) (by omega) hK hmod
    | false =>
      rw [reyR_0 h0 hmod]
      rw [h0] at hK
      obtain ⟨hq, hdn, hp, hp', h1, h3, hl, hcan, hdg⟩ := codeF_nums h0
      clear h0
      obtain ⟨k, hk⟩ := Int.eq_ofNat_of_zero_le (show 0 ≤ n by omega)
      rw [hk] at hdn
      subst hq
      subst hdn
      subst hk
      exact implReynoldsOf_0 _ k A c ms B e ts w hC hD hl hcan hdg hp hp' (by omega) (by omega) hK hmod
  · rw [reyR_1 h0 (by decide)]
    rw [h0] at hK
    clear h0
    have hbW : Below w.heap.size w (((w.alloc (.cells #[.int .i64 p, .int .i64 n, .slice A ms.length c] 34)).alloc (.cells #[.int .i64 q, .int .i64 d, .slice B ts.length e] 38)).alloc (.cells #[.int .i64 0, .int .i64 0, .slice none 0 0] 38)) := (by repeat (first | (with_reducible assumption) | (with_reducible exact Below.refl _ _) | ((with_reducible refine Below.alloc ?_ ?_ _); rotate_left; (focus (first | omega | (simp; done) | (simp; omega)))) | (with_reducible refine Below.drew ?_) | ((with_reducible refine Below.setCell ?_ ?_ _); rotate_left; (focus (first | omega | (simp; done) | (simp; omega)))) | ((with_reducible refine below_hop (by assumption) ?_ ?_); rotate_left; (focus (first | omega | (simp; done) | (simp; omega)))) | ((with_reducible refine bel_later _ ?_ ?_); rotate_left; (focus (first | omega | (simp; done) | (simp; omega))))))
    have hC3 := Kd.C_below hC hbW
    have hD3 := Kd.C_below hD hbW
    go_enter Tryz.func27, Tryz.ntmps27
    go_wp2_with ((go_at_call 54; (first | (with_reducible refine call_later2 (hK _ hC3 hD3) ?_) | (with_reducible refine call_later (hK _ hC3 hD3) ?_)); intro x1))
    have zz : w.heap.size + 1 + 1 < x1.W.heap.size := by have := x1.ok.size; simp at this; omega
    refine bodyPost_ret (v := .tuple #[.agg #[.int .i64 0, .int .i64 0, .slice none 0 0], .int .i64 1]) (by simp [results, Tryz.results27, go_sem]) rfl ?_
    exact MakesPC_nil _ _ _ _ (by repeat (first | (with_reducible assumption) | (with_reducible exact Below.refl _ _) | ((with_reducible refine Below.alloc ?_ ?_ _); rotate_left; (focus (first | omega | (simp; done) | (simp; omega)))) | (with_reducible refine Below.drew ?_) | ((with_reducible refine Below.setCell ?_ ?_ _); rotate_left; (focus (first | omega | (simp; done) | (simp; omega)))) | ((with_reducible refine below_hop (by assumption) ?_ ?_); rotate_left; (focus (first | omega | (simp; done) | (simp; omega)))) | ((with_reducible refine bel_later _ ?_ ?_); rotate_left; (focus (first | omega | (simp; done) | (simp; omega))))))
  · rw [reyR_1 h0 (by decide)]
    rw [h0] at hK
    clear h0
    have hbW : Below w.heap.size w (((w.alloc (.cells #[.int .i64 p, .int .i64 n, .slice A ms.length c] 34)).alloc (.cells #[.int .i64 q, .int .i64 d, .slice B ts.length e] 38)).alloc (.cells #[.int .i64 0, .int .i64 0, .slice none 0 0] 38)) := (by repeat (first | (with_reducible assumption) | (with_reducible exact Below.refl _ _) | ((with_reducible refine Below.alloc ?_ ?_ _); rotate_left; (focus (first | omega | (simp; done) | (simp; omega)))) | (with_reducible refine Below.drew ?_) | ((with_reducible refine Below.setCell ?_ ?_ _); rotate_left; (focus (first | omega | (simp; done) | (simp; omega)))) | ((with_reducible refine below_hop (by assumption) ?_ ?_); rotate_left; (focus (first | omega | (simp; done) | (simp; omega)))) | ((with_reducible refine bel_later _ ?_ ?_); rotate_left; (focus (first | omega | (simp; done) | (simp; omega))))))
    have hC3 := Kd.C_below hC hbW
    have hD3 := Kd.C_below hD hbW
    go_enter Tryz.func27, Tryz.ntmps27
    go_wp2_with ((go_at_call 54; (first | (with_reducible refine call_later2 (hK _ hC3 hD3) ?_) | (with_reducible refine call_later (hK _ hC3 hD3) ?_)); intro x1))
    have zz : w.heap.size + 1 + 1 < x1.W.heap.size := by have := x1.ok.size; simp at this; omega
    refine bodyPost_ret (v := .tuple #[.agg #[.int .i64 0, .int .i64 0, .slice none 0 0], .int .i64 2]) (by simp [results, Tryz.results27, go_sem]) rfl ?_
    exact MakesPC_nil _ _ _ _ (by repeat (first | (with_reducible assumption) | (with_reducible exact Below.refl _ _) | ((with_reducible refine Below.alloc ?_ ?_ _); rotate_left; (focus (first | omega | (simp; done) | (simp; omega)))) | (with_reducible refine Below.drew ?_) | ((with_reducible refine Below.setCell ?_ ?_ _); rotate_left; (focus (first | omega | (simp; done) | (simp; omega)))) | ((with_reducible refine below_hop (by assumption) ?_ ?_); rotate_left; (focus (first | omega | (simp; done) | (simp; omega)))) | ((with_reducible refine bel_later _ ?_ ?_); rotate_left; (focus (first | omega | (simp; done) | (simp; omega))))))
set_option maxRecDepth 100000 in
set_option maxHeartbeats 4000000 in
theorem specReynoldsOf_c (p n : Int) (A : Option Addr) (c : Nat) (ms : List M9) (q d : Int) (B : Option Addr) (e : Nat) (ts : List T4) (w : World) (hC : kM.C w A ms.length ms) (hD : kT.C w B ts.length ts) (hN : ms.length ≤ 9223372036854775807) (hM : ts.length ≤ 9223372036854775807) :
    Calls Tryz.prog 26 #[.agg #[.int .i64 p, .int .i64 n, .slice A ms.length c], .agg #[.int .i64 q, .int .i64 d, .slice B ts.length e]] w (MakesPC (reyR p n ms q d ts) 80 w) := by
  have hK := fun W h h' => l03Code_c p n A c ms q d B e ts W h h' hN hM
  rcases codeF_three p n ms q d ts with h0 | h0 | h0
  · cases hmod : ((ms.length : Int) % p == 0) with
    | true =>
      rw [reyR_5 h0 hmod]
      rw [h0] at hK
      obtain ⟨hq, hdn, hp, hp', h1, h3, hl, hcan, hdg⟩ := codeF_nums h0
      clear h0
      obtain ⟨k, hk⟩ := Int.eq_ofNat_of_zero_le (show 0 ≤ n by omega)
      rw [hk] at hdn
      subst hq
      subst hdn
      subst hk
      exact specReynoldsOf_5 _ k A c ms B e ts w hC hD hl hcan hdg hp hp' (by omega) (by omega) hK hmod
    | false =>
      rw [reyR_0 h0 hmod]
      rw [h0] at hK
      obtain ⟨hq, hdn, hp, hp', h1, h3, hl, hcan, hdg⟩ := codeF_nums h0
      clear h0
      obtain ⟨k, hk⟩ := Int.eq_ofNat_of_zero_le (show 0 ≤ n by omega)
      rw [hk] at hdn
      subst hq
      subst hdn
      subst hk
      exact specReynoldsOf_0 _ k A c ms B e ts w hC hD hl hcan hdg hp hp' (by omega) (by omega) hK hmod
  · rw [reyR_1 h0 (by decide)]
    rw [h0] at hK
    clear h0
    have hbW : Below w.heap.size w (((w.alloc (.cells #[.int .i64 p, .int .i64 n, .slice A ms.length c] 34)).alloc (.cells #[.int .i64 q, .int .i64 d, .slice B ts.length e] 38)).alloc (.cells #[.int .i64 0, .int .i64 0, .slice none 0 0] 38)) := (by repeat (first | (with_reducible assumption) | (with_reducible exact Below.refl _ _) | ((with_reducible refine Below.alloc ?_ ?_ _); rotate_left; (focus (first | omega | (simp; done) | (simp; omega)))) | (with_reducible refine Below.drew ?_) | ((with_reducible refine Below.setCell ?_ ?_ _); rotate_left; (focus (first | omega | (simp; done) | (simp; omega)))) | ((with_reducible refine below_hop (by assumption) ?_ ?_); rotate_left; (focus (first | omega | (simp; done) | (simp; omega)))) | ((with_reducible refine bel_later _ ?_ ?_); rotate_left; (focus (first | omega | (simp; done) | (simp; omega))))))
    have hC3 := Kd.C_below hC hbW
    have hD3 := Kd.C_below hD hbW
    go_enter Tryz.func26, Tryz.ntmps26
    go_wp2_with ((go_at_call 50; (first | (with_reducible refine call_later2 (hK _ hC3 hD3) ?_) | (with_reducible refine call_later (hK _ hC3 hD3) ?_)); intro x1))
    have zz : w.heap.size + 1 + 1 < x1.W.heap.size := by have := x1.ok.size; simp at this; omega
    refine bodyPost_ret (v := .tuple #[.agg #[.int .i64 0, .int .i64 0, .slice none 0 0], .int .i64 1]) (by simp [results, Tryz.results26, go_sem]) rfl ?_
    exact MakesPC_nil _ _ _ _ (by repeat (first | (with_reducible assumption) | (with_reducible exact Below.refl _ _) | ((with_reducible refine Below.alloc ?_ ?_ _); rotate_left; (focus (first | omega | (simp; done) | (simp; omega)))) | (with_reducible refine Below.drew ?_) | ((with_reducible refine Below.setCell ?_ ?_ _); rotate_left; (focus (first | omega | (simp; done) | (simp; omega)))) | ((with_reducible refine below_hop (by assumption) ?_ ?_); rotate_left; (focus (first | omega | (simp; done) | (simp; omega)))) | ((with_reducible refine bel_later _ ?_ ?_); rotate_left; (focus (first | omega | (simp; done) | (simp; omega))))))
  · rw [reyR_1 h0 (by decide)]
    rw [h0] at hK
    clear h0
    have hbW : Below w.heap.size w (((w.alloc (.cells #[.int .i64 p, .int .i64 n, .slice A ms.length c] 34)).alloc (.cells #[.int .i64 q, .int .i64 d, .slice B ts.length e] 38)).alloc (.cells #[.int .i64 0, .int .i64 0, .slice none 0 0] 38)) := (by repeat (first | (with_reducible assumption) | (with_reducible exact Below.refl _ _) | ((with_reducible refine Below.alloc ?_ ?_ _); rotate_left; (focus (first | omega | (simp; done) | (simp; omega)))) | (with_reducible refine Below.drew ?_) | ((with_reducible refine Below.setCell ?_ ?_ _); rotate_left; (focus (first | omega | (simp; done) | (simp; omega)))) | ((with_reducible refine below_hop (by assumption) ?_ ?_); rotate_left; (focus (first | omega | (simp; done) | (simp; omega)))) | ((with_reducible refine bel_later _ ?_ ?_); rotate_left; (focus (first | omega | (simp; done) | (simp; omega))))))
    have hC3 := Kd.C_below hC hbW
    have hD3 := Kd.C_below hD hbW
    go_enter Tryz.func26, Tryz.ntmps26
    go_wp2_with ((go_at_call 50; (first | (with_reducible refine call_later2 (hK _ hC3 hD3) ?_) | (with_reducible refine call_later (hK _ hC3 hD3) ?_)); intro x1))
    have zz : w.heap.size + 1 + 1 < x1.W.heap.size := by have := x1.ok.size; simp at this; omega
    refine bodyPost_ret (v := .tuple #[.agg #[.int .i64 0, .int .i64 0, .slice none 0 0], .int .i64 2]) (by simp [results, Tryz.results26, go_sem]) rfl ?_
    exact MakesPC_nil _ _ _ _ (by repeat (first | (with_reducible assumption) | (with_reducible exact Below.refl _ _) | ((with_reducible refine Below.alloc ?_ ?_ _); rotate_left; (focus (first | omega | (simp; done) | (simp; omega)))) | (with_reducible refine Below.drew ?_) | ((with_reducible refine Below.setCell ?_ ?_ _); rotate_left; (focus (first | omega | (simp; done) | (simp; omega)))) | ((with_reducible refine below_hop (by assumption) ?_ ?_); rotate_left; (focus (first | omega | (simp; done) | (simp; omega)))) | ((with_reducible refine bel_later _ ?_ ?_); rotate_left; (focus (first | omega | (simp; done) | (simp; omega))))))
end Go.Proofs.YtjhkeehfchkpaaaGreat
