/- IsInvariant of both sides; no condition. -/
import Derived.Test.YtjhkeehfchkpaaaGreatYAct4
import Derived.Test.YtjhkeehfchkpaaaGreatYSame1
import Derived.Test.YtjhkeehfchkpaaaGreatYLawKit2
set_option linter.unusedVariables false
set_option linter.unusedSimpArgs false
namespace Go.Proofs.YtjhkeehfchkpaaaGreat
open Go.RowKit Go.Proofs.YtjhkeehfchkpaaaGreatW.PrintWords
attribute [local go_sem] Later.cell Later.frozen Later.lt Later.lt_add Later.le Later.le_add Later.ne Later.ne' add_at
open Go.Proofs.YtjhkeehfchkpaaaGreatW.PrintLast
attribute [local go_sem 2000] run_eqM guardM
def samePV (ts : List T4) (x : PV) : Bool := x.ts == ts
def invB (p : Int) (n : Nat) (ms : List M9) (ts : List T4) : Bool := (imgV p n ms ts).all (samePV ts)
theorem allPV_step {ps : List PV} {ts : List T4} {j : Nat} (h : j < ps.length) (ha : (ps.take j).all (samePV ts) = true) (hz : ((ps.getD j zP).ts == ts) = true) : (ps.take (j + 1)).all (samePV ts) = true := by
  have e : ps.getD j zP = ps[j] := by simp [List.getD_eq_getElem?_getD, h]
  rw [List.take_succ_eq_append_getElem h, List.all_append, ha, ← e, Bool.true_and, List.all_cons, List.all_nil, Bool.and_true]
  exact hz
theorem allPV_no {ps : List PV} {ts : List T4} {j : Nat} (h : j < ps.length) (hz : ((ps.getD j zP).ts == ts) = false) : ps.all (samePV ts) = false := by
  rw [List.all_eq_false]
  exact ⟨_, getD_memP h, by unfold samePV; rw [hz]; decide⟩
theorem imgV_getD {p : Int} {n : Nat} {ms : List M9} {ts : List T4} {j : Nat} (h : j < ms.length) : (imgV p n ms ts).getD j zP = ⟨p, n, ledL p n (ms.getD j zM) ts⟩ := by
  simp [imgV, List.getD_eq_getElem?_getD, h]
set_option maxRecDepth 100000 in
set_option maxHeartbeats 4000000 in
theorem invariant_c (p : Int) (n : Nat) (A : Option Addr) (c : Nat) (ms : List M9) (B : Option Addr) (e : Nat) (ts : List T4) (w : World) (hC : kM.C w A ms.length ms) (hD : kT.C w B ts.length ts) (hN : ms.length ≤ 48) (hts : Canon p ts) (hd : ∀ t ∈ ts, degE t.e ≤ 12) (hp : 2 ≤ p) (hp' : p ≤ 13) (h1 : 1 ≤ n) (h3 : n ≤ 3) :
    Calls Tryz.prog 55 #[.agg #[.int .i64 p, .int .i64 n, .slice A ms.length c], .agg #[.int .i64 p, .int .i64 n, .slice B ts.length e]] w (Gives (.bool (invB p n ms ts)) w) := by
  have g0 : ((w.alloc (.cells #[.int .i64 p, .int .i64 n, .slice A ms.length c] 34)).alloc (.cells #[.int .i64 p, .int .i64 n, .slice B ts.length e] 38)).cell? ⟨w.heap.size, 0, none⟩ = some (.int .i64 p) := (by first | (simp; done) | (simp [go_sem]; done) | go_simp)
  have g1 : ((w.alloc (.cells #[.int .i64 p, .int .i64 n, .slice A ms.length c] 34)).alloc (.cells #[.int .i64 p, .int .i64 n, .slice B ts.length e] 38)).cell? ⟨w.heap.size, 1, none⟩ = some (.int .i64 n) := (by first | (simp; done) | (simp [go_sem]; done) | go_simp)
  have g2 : ((w.alloc (.cells #[.int .i64 p, .int .i64 n, .slice A ms.length c] 34)).alloc (.cells #[.int .i64 p, .int .i64 n, .slice B ts.length e] 38)).cell? ⟨w.heap.size, 2, none⟩ = some (.slice A ms.length c) := (by first | (simp; done) | (simp [go_sem]; done) | go_simp)
  have f0 : ((w.alloc (.cells #[.int .i64 p, .int .i64 n, .slice A ms.length c] 34)).alloc (.cells #[.int .i64 p, .int .i64 n, .slice B ts.length e] 38)).cell? ⟨w.heap.size + 1, 0, none⟩ = some (.int .i64 p) := (by first | (simp; done) | (simp [go_sem]; done) | go_simp)
  have f1 : ((w.alloc (.cells #[.int .i64 p, .int .i64 n, .slice A ms.length c] 34)).alloc (.cells #[.int .i64 p, .int .i64 n, .slice B ts.length e] 38)).cell? ⟨w.heap.size + 1, 1, none⟩ = some (.int .i64 n) := (by first | (simp; done) | (simp [go_sem]; done) | go_simp)
  have f2 : ((w.alloc (.cells #[.int .i64 p, .int .i64 n, .slice A ms.length c] 34)).alloc (.cells #[.int .i64 p, .int .i64 n, .slice B ts.length e] 38)).cell? ⟨w.heap.size + 1, 2, none⟩ = some (.slice B ts.length e) := (by first | (simp; done) | (simp [go_sem]; done) | go_simp)
  have hF := fun W h5 h6 => images_c p n A c ms B e ts W h5 h6 hN hts hd hp hp' h1 h3
  have HL := Lib.hid (img_likes hp h3 ms hd)
  have htl := deg_len hts.1 hd
  have hbW : Below w.heap.size w ((w.alloc (.cells #[.int .i64 p, .int .i64 n, .slice A ms.length c] 34)).alloc (.cells #[.int .i64 p, .int .i64 n, .slice B ts.length e] 38)) := (by repeat (first | (with_reducible assumption) | (with_reducible exact Below.refl _ _) | ((with_reducible refine Below.alloc ?_ ?_ _); rotate_left; (focus (first | omega | (simp; done) | (simp; omega)))) | (with_reducible refine Below.drew ?_) | ((with_reducible refine Below.setCell ?_ ?_ _); rotate_left; (focus (first | omega | (simp; done) | (simp; omega)))) | ((with_reducible refine below_hop (by assumption) ?_ ?_); rotate_left; (focus (first | omega | (simp; done) | (simp; omega)))) | ((with_reducible refine bel_later _ ?_ ?_); rotate_left; (focus (first | omega | (simp; done) | (simp; omega))))))
  have hC3 := Kd.C_below hC hbW
  have hD3 := Kd.C_below hD hbW
  have hz2 : w.heap.size ≤ ((w.alloc (.cells #[.int .i64 p, .int .i64 n, .slice A ms.length c] 34)).alloc (.cells #[.int .i64 p, .int .i64 n, .slice B ts.length e] 38)).heap.size := by simp; omega
  clear hts hd
  unfold invB
  go_enter Tryz.func55, Tryz.ntmps55
  go_wp2_with (go_at_call 71; (with_reducible refine Calls.mono (hF _ hC3 hD3) ?_); rintro e' V ⟨v9, rfl, hR8, hb8⟩; obtain ⟨L8, c8, rfl, hC8⟩ := img_read hR8; replace f0 := pw_cell_below hb8 f0; replace f1 := pw_cell_below hb8 f1; replace f2 := pw_cell_below hb8 f2)
  replace hD3 := Kd.C_below hD3 hb8
  replace hbW := hbW.trans (hb8.mono hz2)
  replace hz2 := Nat.le_trans hz2 hb8.size
  have hwf : w.heap.size + 1 < V.heap.size := World.block_lt_of_cell? _ _ f0
  clear hR8 hb8 hC3 g0 g1 g2 hF
  generalize hfb : w.heap.size + 1 = fb at *
  generalize hps : imgV p n ms ts = ps at *
  have HPL := Lib.hid (show ps.length = ms.length by rw [← hps, imgV_len])
  clear hps
  go_loopg [11] ms.length (fun g v w' => ∃ (j : Nat), j + g = ms.length ∧ v = .int .i64 j ∧ Below V.heap.size V w' ∧ (ps.take j).all (samePV ts) = true)
  case atStart => exact ⟨0, by omega, rfl, Below.refl _ _, rfl⟩
  case round =>
    obtain ⟨j, hjk, rfl, hb, hall⟩ := hrel
    have HJK := Lib.hid hjk
    have HA := Lib.hid hall
    clear hjk hall
    by_cases hj : j < ms.length
    · obtain ⟨b2, o2, A2, c2, hB, p0, p1, p2, hDy⟩ := kP_at hC8 j hj
      subst hB
      have hjp : j < ps.length := by rw [HPL.out]; exact hj
      have hmem := getD_memP hjp
      rw [HL.out.pp _ hmem] at p0
      rw [HL.out.dd _ hmem] at p1
      have p0 := pw_cell_below hb p0
      have p1 := pw_cell_below hb p1
      have p2 := pw_cell_below hb p2
      have hDy := Kd.C_below hDy hb
      have hi0 : (0 : Int) ≤ j := by omega
      have hi1 : (j : Int) < ms.length := by omega
      have hin : ((j : Int)).toNat = j := by omega
      have hyl := deg_len (HL.out.can _ hmem).1 (HL.out.deg _ hmem)
      have HN := Lib.hid (fun h => allPV_no (ts := ts) hjp h)
      have HY := Lib.hid (fun h => allPV_step (ts := ts) hjp HA.out h)
      clear hmem
      generalize ps.getD j zP = y at *
      have hS := fun W h h' => samePoly_c p n p n A2 B c2 e y.ts ts W h h' (by omega) (by omega)
      have e1 : ((p == p && (n : Int) == n) && y.ts == ts) = (y.ts == ts) := by simp
      rw [e1] at hS
      clear e1
      obtain ⟨V4, hV4, hb4, y0, y1, y2⟩ := poly_one wr p n (.slice A2 y.ts.length c2) ⟨rfl, rfl⟩ 38
      have hb5 := hb.trans (hb4.mono hb.size)
      have f0' := pw_cell_below hb5 f0
      have f1' := pw_cell_below hb5 f1
      have f2' := pw_cell_below hb5 f2
      have hDy4 := Kd.C_below hDy hb4
      have hDf4 := Kd.C_below hD3 hb5
      cases hz : (y.ts == ts) with
      | false =>
        rw [hz] at hS
        have HZ := Lib.hid (HN.out hz)
        clear hz
        go_wp2_with (go_at_call 72; (with_reducible refine to_gives (V := V4) (Below.refl _ _) (hS _ hDy4 hDf4) ?_); intro w8 hb8 hb8')
        rw [HZ.out]
        exact bodyPost_ret (v := .bool false) (by simp [results, Tryz.results55, go_sem]) rfl (.mk rfl (hbW.trans ((hb5.trans (hb8.mono hb5.size)).mono hz2)))
      | true =>
        rw [hz] at hS
        have HZ := Lib.hid (HY.out hz)
        clear hz
        go_wp2_with (go_at_call 72; (with_reducible refine to_gives (V := V4) (Below.refl _ _) (hS _ hDy4 hDf4) ?_); intro w8 hb8 hb8')
        go_roundg (gk - 1)
        case measure => have := HJK.out; omega
        case rel => exact ⟨j + 1, by have := HJK.out; omega, by go_num, hb5.trans (hb8.mono hb5.size), HZ.out⟩
    · have hje : ps.take j = ps := by rw [List.take_of_length_le]; rw [HPL.out]; omega
      have HE := HA.out
      rw [hje] at HE
      go_wp2
      exact bodyPost_ret (v := .bool true) (by simp [results, Tryz.results55, go_sem]) rfl (.mk (by rw [HE]) (hbW.trans (hb.mono hz2)))
set_option maxRecDepth 100000 in
set_option maxHeartbeats 4000000 in
theorem l03Invariant_c (p : Int) (n : Nat) (A : Option Addr) (c : Nat) (ms : List M9) (B : Option Addr) (e : Nat) (ts : List T4) (w : World) (hC : kM.C w A ms.length ms) (hD : kT.C w B ts.length ts) (hN : ms.length ≤ 48) (hts : Canon p ts) (hd : ∀ t ∈ ts, degE t.e ≤ 12) (hp : 2 ≤ p) (hp' : p ≤ 13) (h1 : 1 ≤ n) (h3 : n ≤ 3) :
    Calls Tryz.prog 51 #[.agg #[.int .i64 p, .int .i64 n, .slice A ms.length c], .agg #[.int .i64 p, .int .i64 n, .slice B ts.length e]] w (Gives (.bool (invB p n ms ts)) w) := by
  have g0 : ((w.alloc (.cells #[.int .i64 p, .int .i64 n, .slice A ms.length c] 34)).alloc (.cells #[.int .i64 p, .int .i64 n, .slice B ts.length e] 38)).cell? ⟨w.heap.size, 0, none⟩ = some (.int .i64 p) := (by first | (simp; done) | (simp [go_sem]; done) | go_simp)
  have g1 : ((w.alloc (.cells #[.int .i64 p, .int .i64 n, .slice A ms.length c] 34)).alloc (.cells #[.int .i64 p, .int .i64 n, .slice B ts.length e] 38)).cell? ⟨w.heap.size, 1, none⟩ = some (.int .i64 n) := (by first | (simp; done) | (simp [go_sem]; done) | go_simp)
  have g2 : ((w.alloc (.cells #[.int .i64 p, .int .i64 n, .slice A ms.length c] 34)).alloc (.cells #[.int .i64 p, .int .i64 n, .slice B ts.length e] 38)).cell? ⟨w.heap.size, 2, none⟩ = some (.slice A ms.length c) := (by first | (simp; done) | (simp [go_sem]; done) | go_simp)
  have f0 : ((w.alloc (.cells #[.int .i64 p, .int .i64 n, .slice A ms.length c] 34)).alloc (.cells #[.int .i64 p, .int .i64 n, .slice B ts.length e] 38)).cell? ⟨w.heap.size + 1, 0, none⟩ = some (.int .i64 p) := (by first | (simp; done) | (simp [go_sem]; done) | go_simp)
  have f1 : ((w.alloc (.cells #[.int .i64 p, .int .i64 n, .slice A ms.length c] 34)).alloc (.cells #[.int .i64 p, .int .i64 n, .slice B ts.length e] 38)).cell? ⟨w.heap.size + 1, 1, none⟩ = some (.int .i64 n) := (by first | (simp; done) | (simp [go_sem]; done) | go_simp)
  have f2 : ((w.alloc (.cells #[.int .i64 p, .int .i64 n, .slice A ms.length c] 34)).alloc (.cells #[.int .i64 p, .int .i64 n, .slice B ts.length e] 38)).cell? ⟨w.heap.size + 1, 2, none⟩ = some (.slice B ts.length e) := (by first | (simp; done) | (simp [go_sem]; done) | go_simp)
  have HQ := Lib.hid (And.intro hts hd)
  have HL := Lib.hid (img_likes hp h3 ms hd)
  have htl := deg_len hts.1 hd
  have hbW : Below w.heap.size w ((w.alloc (.cells #[.int .i64 p, .int .i64 n, .slice A ms.length c] 34)).alloc (.cells #[.int .i64 p, .int .i64 n, .slice B ts.length e] 38)) := (by repeat (first | (with_reducible assumption) | (with_reducible exact Below.refl _ _) | ((with_reducible refine Below.alloc ?_ ?_ _); rotate_left; (focus (first | omega | (simp; done) | (simp; omega)))) | (with_reducible refine Below.drew ?_) | ((with_reducible refine Below.setCell ?_ ?_ _); rotate_left; (focus (first | omega | (simp; done) | (simp; omega)))) | ((with_reducible refine below_hop (by assumption) ?_ ?_); rotate_left; (focus (first | omega | (simp; done) | (simp; omega)))) | ((with_reducible refine bel_later _ ?_ ?_); rotate_left; (focus (first | omega | (simp; done) | (simp; omega))))))
  have hC3 := Kd.C_below hC hbW
  have hD3 := Kd.C_below hD hbW
  have hz2 : w.heap.size ≤ ((w.alloc (.cells #[.int .i64 p, .int .i64 n, .slice A ms.length c] 34)).alloc (.cells #[.int .i64 p, .int .i64 n, .slice B ts.length e] 38)).heap.size := by simp; omega
  clear hts hd
  unfold invB
  go_enter Tryz.func51, Tryz.ntmps51
  go_wp2
  generalize ((w.alloc (.cells #[.int .i64 p, .int .i64 n, .slice A ms.length c] 34)).alloc (.cells #[.int .i64 p, .int .i64 n, .slice B ts.length e] 38)) = V at *
  generalize hfb : w.heap.size + 1 = fb at *
  generalize hgb : w.heap.size = gb at *
  go_loopg [5] ms.length (fun g v w' => ∃ (j : Nat), j + g = ms.length ∧ v = .int .i64 j ∧ Below V.heap.size V w' ∧ ((imgV p n ms ts).take j).all (samePV ts) = true)
  case atStart => exact ⟨0, by omega, rfl, Below.refl _ _, rfl⟩
  case round =>
    obtain ⟨j, hjk, rfl, hb, hall⟩ := hrel
    have HJK := Lib.hid hjk
    have HA := Lib.hid hall
    clear hjk hall
    have u2 := pw_cell_below hb g2
    by_cases hj : j < ms.length
    · obtain ⟨b, o, hA, q0, q1, q2, q3, q4, q5, q6, q7, q8⟩ := kM_at hC3 j hj
      subst hA
      have q0 := pw_cell_below hb q0
      have q1 := pw_cell_below hb q1
      have q2 := pw_cell_below hb q2
      have q3 := pw_cell_below hb q3
      have q4 := pw_cell_below hb q4
      have q5 := pw_cell_below hb q5
      have q6 := pw_cell_below hb q6
      have q7 := pw_cell_below hb q7
      have q8 := pw_cell_below hb q8
      have hj0 : (0 : Int) ≤ j := by omega
      have hj1 : (j : Int) < ms.length := by omega
      have hjn : ((j : Int)).toNat = j := by omega
      have hjp : j < (imgV p n ms ts).length := by rw [imgV_len]; exact hj
      have hmem := getD_memP hjp
      have hyl := deg_len (HL.out.can _ hmem).1 (HL.out.deg _ hmem)
      have HN := Lib.hid (fun h => allPV_no (ts := ts) hjp h)
      have HY := Lib.hid (fun h => allPV_step (ts := ts) hjp HA.out h)
      rw [imgV_getD hj] at hyl HN HY
      clear hmem hjp
      generalize ms.getD j zM = m at *
      have hL := fun W h => l03Lead_c p n B e ts m W h HQ.out.1 HQ.out.2 hp hp' h1 h3
      have f0' := pw_cell_below hb f0
      have f1' := pw_cell_below hb f1
      have f2' := pw_cell_below hb f2
      have hDm := Kd.C_below hD3 hb
      change (ledL p n m ts).length ≤ 1183 at hyl
      generalize hle : ledL p n m ts = le at *
      have hS := fun W L cl h h' => l01Same_c p n p n L B cl e le ts W h h' (by omega) (by omega)
      cases hz : (le == ts) with
      | false =>
        rw [hz] at hS
        have HZ := Lib.hid (HN.out hz)
        clear hz
        go_wp2
        refine start_ (n := 10) (S := fun w' => w'.cell? ⟨gb, 2, none⟩ = some (.slice (some ⟨b, o, none⟩) ms.length c) ∧ w'.cell? ⟨b, o + j * 9, none⟩ = some (.int .u8 (m.r0.a.toNat : Int)) ∧ w'.cell? ⟨b, o + j * 9 + 1, none⟩ = some (.int .u8 (m.r0.b.toNat : Int)) ∧ w'.cell? ⟨b, o + j * 9 + 2, none⟩ = some (.int .u8 (m.r0.c.toNat : Int)) ∧ w'.cell? ⟨b, o + j * 9 + 3, none⟩ = some (.int .u8 (m.r1.a.toNat : Int)) ∧ w'.cell? ⟨b, o + j * 9 + 4, none⟩ = some (.int .u8 (m.r1.b.toNat : Int)) ∧ w'.cell? ⟨b, o + j * 9 + 5, none⟩ = some (.int .u8 (m.r1.c.toNat : Int)) ∧ w'.cell? ⟨b, o + j * 9 + 6, none⟩ = some (.int .u8 (m.r2.a.toNat : Int)) ∧ w'.cell? ⟨b, o + j * 9 + 7, none⟩ = some (.int .u8 (m.r2.b.toNat : Int)) ∧ w'.cell? ⟨b, o + j * 9 + 8, none⟩ = some (.int .u8 (m.r2.c.toNat : Int)) ∧ w'.cell? ⟨fb, 0, none⟩ = some (.int .i64 p) ∧ w'.cell? ⟨fb, 1, none⟩ = some (.int .i64 n) ∧ w'.cell? ⟨fb, 2, none⟩ = some (.slice B ts.length e)) (ds := []) #[false, false, false, false, false, false, false, false, false, false] (by kernel_rfl) rfl rfl ⟨u2, q0, q1, q2, q3, q4, q5, q6, q7, q8, f0', f1', f2'⟩ (fun hHeld => ?_)
        refine pure_ (i := 0) (N := some 13) (v := ?_) (a' := ?_) #[true, false, false, false, false, false, false, false, false, false] rfl rfl (by kernel_rfl) (fun _ _ _ h => h) (Or.inl ⟨by rfl, ?_⟩) ?_ ?_
        rotate_left
        · intro w'
          go_simp
          with_reducible rfl
        rotate_left
        · simp only [Act.put, List.setIfInBounds_toArray, List.set_cons_zero, List.set_cons_succ, i64_w, i32_w]
          rfl
        refine pure_ (i := 2) (N := some 15) (v := ?_) (a' := ?_) #[true, false, true, false, false, false, false, false, false, false] rfl rfl (by kernel_rfl) (fun _ _ _ h => h) (Or.inl ⟨by rfl, ?_⟩) ?_ ?_
        rotate_left
        · intro w'
          go_simp
          with_reducible rfl
        rotate_left
        · simp only [Act.put, List.setIfInBounds_toArray, List.set_cons_zero, List.set_cons_succ, i64_w, i32_w]
          rfl
        refine take_ (i := 1) (N := some 14) (v := ?_) (a' := ?_) #[true, true, true, false, false, false, false, false, false, false] rfl rfl (by kernel_rfl) (fun _ _ _ h => h) (Or.inl ⟨by rfl, ?_⟩) hHeld ?_ ?_
        rotate_left
        · rintro w' ⟨s0, s1, s2, s3, s4, s5, s6, s7, s8, s9, s10, s11, s12⟩
          go_simp
          with_reducible rfl
        rotate_left
        · simp only [Act.put, List.setIfInBounds_toArray, List.set_cons_zero, List.set_cons_succ, i64_w, i32_w]
          rfl
        refine pure_ (i := 3) (N := some 16) (v := ?_) (a' := ?_) #[true, true, true, true, false, false, false, false, false, false] rfl rfl (by kernel_rfl) (fun _ _ _ h => h) (Or.inl ⟨by rfl, ?_⟩) ?_ ?_
        rotate_left
        · intro w'
          go_simp
          with_reducible rfl
        rotate_left
        · simp only [Act.put, List.setIfInBounds_toArray, List.set_cons_zero, List.set_cons_succ, i64_w, i32_w]
          rfl
        refine take_ (i := 4) (N := some 17) (v := ?_) (a' := ?_) #[true, true, true, true, true, false, false, false, false, false] rfl rfl (by kernel_rfl) (fun _ _ _ h => h) (Or.inl ⟨by rfl, ?_⟩) hHeld ?_ ?_
        rotate_left
        · rintro w' ⟨s0, s1, s2, s3, s4, s5, s6, s7, s8, s9, s10, s11, s12⟩
          go_simp
          with_reducible rfl
        rotate_left
        · simp only [Act.put, List.setIfInBounds_toArray, List.set_cons_zero, List.set_cons_succ, i64_w, i32_w]
          rfl
        refine take_ (i := 5) (N := some 18) (v := ?_) (a' := ?_) #[true, true, true, true, true, true, false, false, false, false] rfl rfl (by kernel_rfl) (fun _ _ _ h => h) (Or.inl ⟨by rfl, ?_⟩) hHeld ?_ ?_
        rotate_left
        · rintro w' ⟨s0, s1, s2, s3, s4, s5, s6, s7, s8, s9, s10, s11, s12⟩
          go_simp
          with_reducible rfl
        rotate_left
        · simp only [Act.put, List.setIfInBounds_toArray, List.set_cons_zero, List.set_cons_succ, i64_w, i32_w]
          rfl
        refine take_ (i := 7) (N := some 20) (v := ?_) (a' := ?_) #[true, true, true, true, true, true, false, true, false, false] rfl rfl (by kernel_rfl) (fun _ _ _ h => h) (Or.inl ⟨by rfl, ?_⟩) hHeld ?_ ?_
        rotate_left
        · rintro w' ⟨s0, s1, s2, s3, s4, s5, s6, s7, s8, s9, s10, s11, s12⟩
          go_simp
          with_reducible rfl
        rotate_left
        · simp only [Act.put, List.setIfInBounds_toArray, List.set_cons_zero, List.set_cons_succ, i64_w, i32_w]
          rfl
        refine one_ (i := 6) (N := some 19) #[true, true, true, true, true, true, true, true, false, false] rfl rfl (by kernel_rfl) (by decide) (fun K hK => ?_)
        refine goes_ Tryz.func92 (by kernel_rfl) rfl #[.agg #[.int .u8 (m.r0.a.toNat : Int), .int .u8 (m.r0.b.toNat : Int), .int .u8 (m.r0.c.toNat : Int), .int .u8 (m.r1.a.toNat : Int), .int .u8 (m.r1.b.toNat : Int), .int .u8 (m.r1.c.toNat : Int), .int .u8 (m.r2.a.toNat : Int), .int .u8 (m.r2.b.toNat : Int), .int .u8 (m.r2.c.toNat : Int)], .agg #[.int .i64 p, .int .i64 n, .slice B ts.length e]] (by rfl) rfl rfl (by simp only [List.map_toArray, List.map_cons, List.map_nil]; rfl) ?_
        with_reducible refine (hL _ (Kd.C_below hDm (Below.refl _ _).drew)).mono ?_
        rintro e' xw ⟨B8, c8, rfl, hR8, hb8'⟩
        refine ⟨_, rfl, ?_⟩
        have hqx := below_undrewA hb8'
        have hsx := hqx.size
        refine hK.out _ _ ⟨pw_cell_below hqx u2, pw_cell_below hqx q0, pw_cell_below hqx q1, pw_cell_below hqx q2, pw_cell_below hqx q3, pw_cell_below hqx q4, pw_cell_below hqx q5, pw_cell_below hqx q6, pw_cell_below hqx q7, pw_cell_below hqx q8, pw_cell_below hqx f0', pw_cell_below hqx f1', pw_cell_below hqx f2'⟩ (fun hHeld => ?_)
        clear hK K
        refine norm_ (a' := ?_) ?_ ?_
        rotate_left
        · show Act.put _ (some 19) _ = _
          simp only [Act.put, List.setIfInBounds_toArray, List.set_cons_zero, List.set_cons_succ, i64_w, i32_w]
          rfl
        refine one_ (i := 8) (N := some 21) #[true, true, true, true, true, true, true, true, true, false] rfl rfl (by kernel_rfl) (by decide) (fun K hK => ?_)
        refine goes_ Tryz.func70 (by kernel_rfl) rfl #[.agg #[.int .i64 p, .int .i64 n, .slice B8 le.length c8], .agg #[.int .i64 p, .int .i64 n, .slice B ts.length e]] (by rfl) rfl rfl (by simp only [List.map_toArray, List.map_cons, List.map_nil]; rfl) ?_
        with_reducible refine (hS _ B8 c8 (Kd.R_reads' hR8).2.2 (Kd.C_below hDm hqx)).mono ?_
        rintro e' yw ⟨rfl, hb9'⟩
        refine ⟨_, rfl, ?_⟩
        have hqy := hqx.trans (hb9'.mono hqx.size)
        refine hK.out _ _ ⟨pw_cell_below hqy u2, pw_cell_below hqy q0, pw_cell_below hqy q1, pw_cell_below hqy q2, pw_cell_below hqy q3, pw_cell_below hqy q4, pw_cell_below hqy q5, pw_cell_below hqy q6, pw_cell_below hqy q7, pw_cell_below hqy q8, pw_cell_below hqy f0', pw_cell_below hqy f1', pw_cell_below hqy f2'⟩ (fun hHeld => ?_)
        clear hK K
        refine norm_ (a' := ?_) ?_ ?_
        rotate_left
        · show Act.put _ (some 21) _ = _
          simp only [Act.put, List.setIfInBounds_toArray, List.set_cons_zero, List.set_cons_succ, i64_w, i32_w]
          rfl
        refine pure_ (i := 9) (N := some 22) (v := ?_) (a' := ?_) #[true, true, true, true, true, true, true, true, true, true] rfl rfl (by kernel_rfl) (fun _ _ _ h => h) (Or.inl ⟨by rfl, ?_⟩) ?_ ?_
        rotate_left
        · intro w'
          go_simp
          with_reducible rfl
        rotate_left
        · simp only [Act.put, List.setIfInBounds_toArray, List.set_cons_zero, List.set_cons_succ, i64_w, i32_w]
          rfl
        refine done_ (by kernel_rfl) ?_
        go_wp2
        rw [HZ.out]
        refine bodyPost_ret (v := .bool false) (by simp [results, Tryz.results51, go_sem]) rfl (.mk rfl ?_)
        rw [hgb]
        exact hbW.trans ((hb.trans (hqy.mono hb.size)).mono hz2)
      | true =>
        rw [hz] at hS
        have HZ := Lib.hid (HY.out hz)
        clear hz
        go_wp2
        refine start_ (n := 10) (S := fun w' => w'.cell? ⟨gb, 2, none⟩ = some (.slice (some ⟨b, o, none⟩) ms.length c) ∧ w'.cell? ⟨b, o + j * 9, none⟩ = some (.int .u8 (m.r0.a.toNat : Int)) ∧ w'.cell? ⟨b, o + j * 9 + 1, none⟩ = some (.int .u8 (m.r0.b.toNat : Int)) ∧ w'.cell? ⟨b, o + j * 9 + 2, none⟩ = some (.int .u8 (m.r0.c.toNat : Int)) ∧ w'.cell? ⟨b, o + j * 9 + 3, none⟩ = some (.int .u8 (m.r1.a.toNat : Int)) ∧ w'.cell? ⟨b, o + j * 9 + 4, none⟩ = some (.int .u8 (m.r1.b.toNat : Int)) ∧ w'.cell? ⟨b, o + j * 9 + 5, none⟩ = some (.int .u8 (m.r1.c.toNat : Int)) ∧ w'.cell? ⟨b, o + j * 9 + 6, none⟩ = some (.int .u8 (m.r2.a.toNat : Int)) ∧ w'.cell? ⟨b, o + j * 9 + 7, none⟩ = some (.int .u8 (m.r2.b.toNat : Int)) ∧ w'.cell? ⟨b, o + j * 9 + 8, none⟩ = some (.int .u8 (m.r2.c.toNat : Int)) ∧ w'.cell? ⟨fb, 0, none⟩ = some (.int .i64 p) ∧ w'.cell? ⟨fb, 1, none⟩ = some (.int .i64 n) ∧ w'.cell? ⟨fb, 2, none⟩ = some (.slice B ts.length e)) (ds := []) #[false, false, false, false, false, false, false, false, false, false] (by kernel_rfl) rfl rfl ⟨u2, q0, q1, q2, q3, q4, q5, q6, q7, q8, f0', f1', f2'⟩ (fun hHeld => ?_)
        refine pure_ (i := 0) (N := some 13) (v := ?_) (a' := ?_) #[true, false, false, false, false, false, false, false, false, false] rfl rfl (by kernel_rfl) (fun _ _ _ h => h) (Or.inl ⟨by rfl, ?_⟩) ?_ ?_
        rotate_left
        · intro w'
          go_simp
          with_reducible rfl
        rotate_left
        · simp only [Act.put, List.setIfInBounds_toArray, List.set_cons_zero, List.set_cons_succ, i64_w, i32_w]
          rfl
        refine pure_ (i := 2) (N := some 15) (v := ?_) (a' := ?_) #[true, false, true, false, false, false, false, false, false, false] rfl rfl (by kernel_rfl) (fun _ _ _ h => h) (Or.inl ⟨by rfl, ?_⟩) ?_ ?_
        rotate_left
        · intro w'
          go_simp
          with_reducible rfl
        rotate_left
        · simp only [Act.put, List.setIfInBounds_toArray, List.set_cons_zero, List.set_cons_succ, i64_w, i32_w]
          rfl
        refine take_ (i := 1) (N := some 14) (v := ?_) (a' := ?_) #[true, true, true, false, false, false, false, false, false, false] rfl rfl (by kernel_rfl) (fun _ _ _ h => h) (Or.inl ⟨by rfl, ?_⟩) hHeld ?_ ?_
        rotate_left
        · rintro w' ⟨s0, s1, s2, s3, s4, s5, s6, s7, s8, s9, s10, s11, s12⟩
          go_simp
          with_reducible rfl
        rotate_left
        · simp only [Act.put, List.setIfInBounds_toArray, List.set_cons_zero, List.set_cons_succ, i64_w, i32_w]
          rfl
        refine pure_ (i := 3) (N := some 16) (v := ?_) (a' := ?_) #[true, true, true, true, false, false, false, false, false, false] rfl rfl (by kernel_rfl) (fun _ _ _ h => h) (Or.inl ⟨by rfl, ?_⟩) ?_ ?_
        rotate_left
        · intro w'
          go_simp
          with_reducible rfl
        rotate_left
        · simp only [Act.put, List.setIfInBounds_toArray, List.set_cons_zero, List.set_cons_succ, i64_w, i32_w]
          rfl
        refine take_ (i := 4) (N := some 17) (v := ?_) (a' := ?_) #[true, true, true, true, true, false, false, false, false, false] rfl rfl (by kernel_rfl) (fun _ _ _ h => h) (Or.inl ⟨by rfl, ?_⟩) hHeld ?_ ?_
        rotate_left
        · rintro w' ⟨s0, s1, s2, s3, s4, s5, s6, s7, s8, s9, s10, s11, s12⟩
          go_simp
          with_reducible rfl
        rotate_left
        · simp only [Act.put, List.setIfInBounds_toArray, List.set_cons_zero, List.set_cons_succ, i64_w, i32_w]
          rfl
        refine take_ (i := 5) (N := some 18) (v := ?_) (a' := ?_) #[true, true, true, true, true, true, false, false, false, false] rfl rfl (by kernel_rfl) (fun _ _ _ h => h) (Or.inl ⟨by rfl, ?_⟩) hHeld ?_ ?_
        rotate_left
        · rintro w' ⟨s0, s1, s2, s3, s4, s5, s6, s7, s8, s9, s10, s11, s12⟩
          go_simp
          with_reducible rfl
        rotate_left
        · simp only [Act.put, List.setIfInBounds_toArray, List.set_cons_zero, List.set_cons_succ, i64_w, i32_w]
          rfl
        refine take_ (i := 7) (N := some 20) (v := ?_) (a' := ?_) #[true, true, true, true, true, true, false, true, false, false] rfl rfl (by kernel_rfl) (fun _ _ _ h => h) (Or.inl ⟨by rfl, ?_⟩) hHeld ?_ ?_
        rotate_left
        · rintro w' ⟨s0, s1, s2, s3, s4, s5, s6, s7, s8, s9, s10, s11, s12⟩
          go_simp
          with_reducible rfl
        rotate_left
        · simp only [Act.put, List.setIfInBounds_toArray, List.set_cons_zero, List.set_cons_succ, i64_w, i32_w]
          rfl
        refine one_ (i := 6) (N := some 19) #[true, true, true, true, true, true, true, true, false, false] rfl rfl (by kernel_rfl) (by decide) (fun K hK => ?_)
        refine goes_ Tryz.func92 (by kernel_rfl) rfl #[.agg #[.int .u8 (m.r0.a.toNat : Int), .int .u8 (m.r0.b.toNat : Int), .int .u8 (m.r0.c.toNat : Int), .int .u8 (m.r1.a.toNat : Int), .int .u8 (m.r1.b.toNat : Int), .int .u8 (m.r1.c.toNat : Int), .int .u8 (m.r2.a.toNat : Int), .int .u8 (m.r2.b.toNat : Int), .int .u8 (m.r2.c.toNat : Int)], .agg #[.int .i64 p, .int .i64 n, .slice B ts.length e]] (by rfl) rfl rfl (by simp only [List.map_toArray, List.map_cons, List.map_nil]; rfl) ?_
        with_reducible refine (hL _ (Kd.C_below hDm (Below.refl _ _).drew)).mono ?_
        rintro e' xw ⟨B8, c8, rfl, hR8, hb8'⟩
        refine ⟨_, rfl, ?_⟩
        have hqx := below_undrewA hb8'
        have hsx := hqx.size
        refine hK.out _ _ ⟨pw_cell_below hqx u2, pw_cell_below hqx q0, pw_cell_below hqx q1, pw_cell_below hqx q2, pw_cell_below hqx q3, pw_cell_below hqx q4, pw_cell_below hqx q5, pw_cell_below hqx q6, pw_cell_below hqx q7, pw_cell_below hqx q8, pw_cell_below hqx f0', pw_cell_below hqx f1', pw_cell_below hqx f2'⟩ (fun hHeld => ?_)
        clear hK K
        refine norm_ (a' := ?_) ?_ ?_
        rotate_left
        · show Act.put _ (some 19) _ = _
          simp only [Act.put, List.setIfInBounds_toArray, List.set_cons_zero, List.set_cons_succ, i64_w, i32_w]
          rfl
        refine one_ (i := 8) (N := some 21) #[true, true, true, true, true, true, true, true, true, false] rfl rfl (by kernel_rfl) (by decide) (fun K hK => ?_)
        refine goes_ Tryz.func70 (by kernel_rfl) rfl #[.agg #[.int .i64 p, .int .i64 n, .slice B8 le.length c8], .agg #[.int .i64 p, .int .i64 n, .slice B ts.length e]] (by rfl) rfl rfl (by simp only [List.map_toArray, List.map_cons, List.map_nil]; rfl) ?_
        with_reducible refine (hS _ B8 c8 (Kd.R_reads' hR8).2.2 (Kd.C_below hDm hqx)).mono ?_
        rintro e' yw ⟨rfl, hb9'⟩
        refine ⟨_, rfl, ?_⟩
        have hqy := hqx.trans (hb9'.mono hqx.size)
        refine hK.out _ _ ⟨pw_cell_below hqy u2, pw_cell_below hqy q0, pw_cell_below hqy q1, pw_cell_below hqy q2, pw_cell_below hqy q3, pw_cell_below hqy q4, pw_cell_below hqy q5, pw_cell_below hqy q6, pw_cell_below hqy q7, pw_cell_below hqy q8, pw_cell_below hqy f0', pw_cell_below hqy f1', pw_cell_below hqy f2'⟩ (fun hHeld => ?_)
        clear hK K
        refine norm_ (a' := ?_) ?_ ?_
        rotate_left
        · show Act.put _ (some 21) _ = _
          simp only [Act.put, List.setIfInBounds_toArray, List.set_cons_zero, List.set_cons_succ, i64_w, i32_w]
          rfl
        refine pure_ (i := 9) (N := some 22) (v := ?_) (a' := ?_) #[true, true, true, true, true, true, true, true, true, true] rfl rfl (by kernel_rfl) (fun _ _ _ h => h) (Or.inl ⟨by rfl, ?_⟩) ?_ ?_
        rotate_left
        · intro w'
          go_simp
          with_reducible rfl
        rotate_left
        · simp only [Act.put, List.setIfInBounds_toArray, List.set_cons_zero, List.set_cons_succ, i64_w, i32_w]
          rfl
        refine done_ (by kernel_rfl) ?_
        go_wp2
        go_roundg (gk - 1)
        case measure => have := HJK.out; omega
        case rel => exact ⟨j + 1, by have := HJK.out; omega, by go_num, hb.trans (hqy.mono hb.size), HZ.out⟩
    · have hje : (imgV p n ms ts).take j = imgV p n ms ts := by rw [List.take_of_length_le]; rw [imgV_len]; omega
      have HE := HA.out
      rw [hje] at HE
      go_wp2
      refine bodyPost_ret (v := .bool true) (by simp [results, Tryz.results51, go_sem]) rfl (.mk (by rw [HE]) ?_)
      rw [hgb]
      exact hbW.trans (hb.mono hz2)
def isInvR (p n : Int) (ms : List M9) (q d : Int) (ts : List T4) : Bool × Int := if codeF p n ms q d ts = 0 then (invB p n.toNat ms ts, 0) else (false, codeF p n ms q d ts)
theorem isInvR_0 {p n : Int} {ms : List M9} {q d : Int} {ts : List T4} (h : codeF p n ms q d ts = 0) : isInvR p n ms q d ts = (invB p n.toNat ms ts, 0) := by
  unfold isInvR
  rw [if_pos h]
theorem isInvR_1 {p n : Int} {ms : List M9} {q d : Int} {ts : List T4} {k : Int} (h : codeF p n ms q d ts = k) (hk : k ≠ 0) : isInvR p n ms q d ts = (false, k) := by
  unfold isInvR
  rw [h, if_neg hk]
set_option maxRecDepth 100000 in
set_option maxHeartbeats 4000000 in
theorem implIsInvariant_0 (p : Int) (n : Nat) (A : Option Addr) (c : Nat) (ms : List M9) (B : Option Addr) (e : Nat) (ts : List T4) (w : World) (hC : kM.C w A ms.length ms) (hD : kT.C w B ts.length ts) (hN : ms.length ≤ 48) (hts : Canon p ts) (hd : ∀ t ∈ ts, degE t.e ≤ 12) (hp : 2 ≤ p) (hp' : p ≤ 13) (h1 : 1 ≤ n) (h3 : n ≤ 3)
    (hK : ∀ W, kM.C W A ms.length ms → kT.C W B ts.length ts → Calls Tryz.prog 54 #[.agg #[.int .i64 p, .int .i64 n, .slice A ms.length c], .agg #[.int .i64 p, .int .i64 n, .slice B ts.length e]] W (Gives (.int .i64 0) W)) :
    Calls Tryz.prog 18 #[.agg #[.int .i64 p, .int .i64 n, .slice A ms.length c], .agg #[.int .i64 p, .int .i64 n, .slice B ts.length e]] w (Gives (.tuple #[.bool (invB p n ms ts), .int .i64 0]) w) := by
  have hL := fun W h5 h6 => invariant_c p n A c ms B e ts W h5 h6 hN hts hd hp hp' h1 h3
  have hbW : Below w.heap.size w ((w.alloc (.cells #[.int .i64 p, .int .i64 n, .slice A ms.length c] 34)).alloc (.cells #[.int .i64 p, .int .i64 n, .slice B ts.length e] 38)) := (by repeat (first | (with_reducible assumption) | (with_reducible exact Below.refl _ _) | ((with_reducible refine Below.alloc ?_ ?_ _); rotate_left; (focus (first | omega | (simp; done) | (simp; omega)))) | (with_reducible refine Below.drew ?_) | ((with_reducible refine Below.setCell ?_ ?_ _); rotate_left; (focus (first | omega | (simp; done) | (simp; omega)))) | ((with_reducible refine below_hop (by assumption) ?_ ?_); rotate_left; (focus (first | omega | (simp; done) | (simp; omega)))) | ((with_reducible refine bel_later _ ?_ ?_); rotate_left; (focus (first | omega | (simp; done) | (simp; omega))))))
  have hC3 := Kd.C_below hC hbW
  have hD3 := Kd.C_below hD hbW
  clear hts hd
  generalize invB p n ms ts = v at *
  go_enter Tryz.func18, Tryz.ntmps18
  go_wp2_with (first | ((go_at_call 54; (first | (with_reducible refine call_later2 (hK _ hC3 hD3) ?_) | (with_reducible refine call_later (hK _ hC3 hD3) ?_)); intro x1); have hb2 : Below w.heap.size w x1.W := (by repeat (first | (with_reducible assumption) | (with_reducible exact Below.refl _ _) | ((with_reducible refine Below.alloc ?_ ?_ _); rotate_left; (focus (first | omega | (simp; done) | (simp; omega)))) | (with_reducible refine Below.drew ?_) | ((with_reducible refine Below.setCell ?_ ?_ _); rotate_left; (focus (first | omega | (simp; done) | (simp; omega)))) | ((with_reducible refine below_hop (by assumption) ?_ ?_); rotate_left; (focus (first | omega | (simp; done) | (simp; omega)))) | ((with_reducible refine bel_later _ ?_ ?_); rotate_left; (focus (first | omega | (simp; done) | (simp; omega))))))) | (go_at_call 55; (first | (with_reducible refine call_later2 (hL _ (Kd.C_below hC hb2) (Kd.C_below hD hb2)) ?_) | (with_reducible refine call_later (hL _ (Kd.C_below hC hb2) (Kd.C_below hD hb2)) ?_)); intro x2))
  refine bodyPost_ret (v := .tuple #[.bool v, .int .i64 0]) (by simp [results, Tryz.results18, go_sem]) rfl ?_
  exact .mk rfl (by repeat (first | (with_reducible assumption) | (with_reducible exact Below.refl _ _) | ((with_reducible refine Below.alloc ?_ ?_ _); rotate_left; (focus (first | omega | (simp; done) | (simp; omega)))) | (with_reducible refine Below.drew ?_) | ((with_reducible refine Below.setCell ?_ ?_ _); rotate_left; (focus (first | omega | (simp; done) | (simp; omega)))) | ((with_reducible refine below_hop (by assumption) ?_ ?_); rotate_left; (focus (first | omega | (simp; done) | (simp; omega)))) | ((with_reducible refine bel_later _ ?_ ?_); rotate_left; (focus (first | omega | (simp; done) | (simp; omega))))))
set_option maxRecDepth 100000 in
set_option maxHeartbeats 4000000 in
theorem implIsInvariant_c (p n : Int) (A : Option Addr) (c : Nat) (ms : List M9) (q d : Int) (B : Option Addr) (e : Nat) (ts : List T4) (w : World) (hC : kM.C w A ms.length ms) (hD : kT.C w B ts.length ts) (hN : ms.length ≤ 9223372036854775807) (hM : ts.length ≤ 9223372036854775807) :
    Calls Tryz.prog 18 #[.agg #[.int .i64 p, .int .i64 n, .slice A ms.length c], .agg #[.int .i64 q, .int .i64 d, .slice B ts.length e]] w (Gives (.tuple #[.bool (isInvR p n ms q d ts).1, .int .i64 (isInvR p n ms q d ts).2]) w) := by
  have hK := fun W h h' => actionCode_c p n A c ms q d B e ts W h h' hN hM
  rcases codeF_three p n ms q d ts with h0 | h0 | h0
  · rw [isInvR_0 h0]
    rw [h0] at hK
    obtain ⟨hq, hdn, hp, hp', h1, h3, hl, hcan, hdg⟩ := codeF_nums h0
    clear h0
    obtain ⟨k, hk⟩ := Int.eq_ofNat_of_zero_le (show 0 ≤ n by omega)
    rw [hk] at hdn
    subst hq
    subst hdn
    subst hk
    exact implIsInvariant_0 _ k A c ms B e ts w hC hD hl hcan hdg hp hp' (by omega) (by omega) hK
  · rw [isInvR_1 h0 (by decide)]
    rw [h0] at hK
    clear h0
    have hbW : Below w.heap.size w ((w.alloc (.cells #[.int .i64 p, .int .i64 n, .slice A ms.length c] 34)).alloc (.cells #[.int .i64 q, .int .i64 d, .slice B ts.length e] 38)) := (by repeat (first | (with_reducible assumption) | (with_reducible exact Below.refl _ _) | ((with_reducible refine Below.alloc ?_ ?_ _); rotate_left; (focus (first | omega | (simp; done) | (simp; omega)))) | (with_reducible refine Below.drew ?_) | ((with_reducible refine Below.setCell ?_ ?_ _); rotate_left; (focus (first | omega | (simp; done) | (simp; omega)))) | ((with_reducible refine below_hop (by assumption) ?_ ?_); rotate_left; (focus (first | omega | (simp; done) | (simp; omega)))) | ((with_reducible refine bel_later _ ?_ ?_); rotate_left; (focus (first | omega | (simp; done) | (simp; omega))))))
    have hC3 := Kd.C_below hC hbW
    have hD3 := Kd.C_below hD hbW
    go_enter Tryz.func18, Tryz.ntmps18
    go_wp2_with ((go_at_call 54; (first | (with_reducible refine call_later2 (hK _ hC3 hD3) ?_) | (with_reducible refine call_later (hK _ hC3 hD3) ?_)); intro x1))
    refine bodyPost_ret (v := .tuple #[.bool false, .int .i64 1]) (by simp [results, Tryz.results18, go_sem]) rfl ?_
    exact .mk rfl (by repeat (first | (with_reducible assumption) | (with_reducible exact Below.refl _ _) | ((with_reducible refine Below.alloc ?_ ?_ _); rotate_left; (focus (first | omega | (simp; done) | (simp; omega)))) | (with_reducible refine Below.drew ?_) | ((with_reducible refine Below.setCell ?_ ?_ _); rotate_left; (focus (first | omega | (simp; done) | (simp; omega)))) | ((with_reducible refine below_hop (by assumption) ?_ ?_); rotate_left; (focus (first | omega | (simp; done) | (simp; omega)))) | ((with_reducible refine bel_later _ ?_ ?_); rotate_left; (focus (first | omega | (simp; done) | (simp; omega))))))
  · rw [isInvR_1 h0 (by decide)]
    rw [h0] at hK
    clear h0
    have hbW : Below w.heap.size w ((w.alloc (.cells #[.int .i64 p, .int .i64 n, .slice A ms.length c] 34)).alloc (.cells #[.int .i64 q, .int .i64 d, .slice B ts.length e] 38)) := (by repeat (first | (with_reducible assumption) | (with_reducible exact Below.refl _ _) | ((with_reducible refine Below.alloc ?_ ?_ _); rotate_left; (focus (first | omega | (simp; done) | (simp; omega)))) | (with_reducible refine Below.drew ?_) | ((with_reducible refine Below.setCell ?_ ?_ _); rotate_left; (focus (first | omega | (simp; done) | (simp; omega)))) | ((with_reducible refine below_hop (by assumption) ?_ ?_); rotate_left; (focus (first | omega | (simp; done) | (simp; omega)))) | ((with_reducible refine bel_later _ ?_ ?_); rotate_left; (focus (first | omega | (simp; done) | (simp; omega))))))
    have hC3 := Kd.C_below hC hbW
    have hD3 := Kd.C_below hD hbW
    go_enter Tryz.func18, Tryz.ntmps18
    go_wp2_with ((go_at_call 54; (first | (with_reducible refine call_later2 (hK _ hC3 hD3) ?_) | (with_reducible refine call_later (hK _ hC3 hD3) ?_)); intro x1))
    refine bodyPost_ret (v := .tuple #[.bool false, .int .i64 2]) (by simp [results, Tryz.results18, go_sem]) rfl ?_
    exact .mk rfl (by repeat (first | (with_reducible assumption) | (with_reducible exact Below.refl _ _) | ((with_reducible refine Below.alloc ?_ ?_ _); rotate_left; (focus (first | omega | (simp; done) | (simp; omega)))) | (with_reducible refine Below.drew ?_) | ((with_reducible refine Below.setCell ?_ ?_ _); rotate_left; (focus (first | omega | (simp; done) | (simp; omega)))) | ((with_reducible refine below_hop (by assumption) ?_ ?_); rotate_left; (focus (first | omega | (simp; done) | (simp; omega)))) | ((with_reducible refine bel_later _ ?_ ?_); rotate_left; (focus (first | omega | (simp; done) | (simp; omega))))))
set_option maxRecDepth 100000 in
set_option maxHeartbeats 4000000 in
theorem specIsInvariant_0 (p : Int) (n : Nat) (A : Option Addr) (c : Nat) (ms : List M9) (B : Option Addr) (e : Nat) (ts : List T4) (w : World) (hC : kM.C w A ms.length ms) (hD : kT.C w B ts.length ts) (hN : ms.length ≤ 48) (hts : Canon p ts) (hd : ∀ t ∈ ts, degE t.e ≤ 12) (hp : 2 ≤ p) (hp' : p ≤ 13) (h1 : 1 ≤ n) (h3 : n ≤ 3)
    (hK : ∀ W, kM.C W A ms.length ms → kT.C W B ts.length ts → Calls Tryz.prog 50 #[.agg #[.int .i64 p, .int .i64 n, .slice A ms.length c], .agg #[.int .i64 p, .int .i64 n, .slice B ts.length e]] W (Gives (.int .i64 0) W)) :
    Calls Tryz.prog 15 #[.agg #[.int .i64 p, .int .i64 n, .slice A ms.length c], .agg #[.int .i64 p, .int .i64 n, .slice B ts.length e]] w (Gives (.tuple #[.bool (invB p n ms ts), .int .i64 0]) w) := by
  have hL := fun W h5 h6 => l03Invariant_c p n A c ms B e ts W h5 h6 hN hts hd hp hp' h1 h3
  have hbW : Below w.heap.size w ((w.alloc (.cells #[.int .i64 p, .int .i64 n, .slice A ms.length c] 34)).alloc (.cells #[.int .i64 p, .int .i64 n, .slice B ts.length e] 38)) := (by repeat (first | (with_reducible assumption) | (with_reducible exact Below.refl _ _) | ((with_reducible refine Below.alloc ?_ ?_ _); rotate_left; (focus (first | omega | (simp; done) | (simp; omega)))) | (with_reducible refine Below.drew ?_) | ((with_reducible refine Below.setCell ?_ ?_ _); rotate_left; (focus (first | omega | (simp; done) | (simp; omega)))) | ((with_reducible refine below_hop (by assumption) ?_ ?_); rotate_left; (focus (first | omega | (simp; done) | (simp; omega)))) | ((with_reducible refine bel_later _ ?_ ?_); rotate_left; (focus (first | omega | (simp; done) | (simp; omega))))))
  have hC3 := Kd.C_below hC hbW
  have hD3 := Kd.C_below hD hbW
  clear hts hd
  generalize invB p n ms ts = v at *
  go_enter Tryz.func15, Tryz.ntmps15
  go_wp2_with (first | ((go_at_call 50; (first | (with_reducible refine call_later2 (hK _ hC3 hD3) ?_) | (with_reducible refine call_later (hK _ hC3 hD3) ?_)); intro x1); have hb2 : Below w.heap.size w x1.W := (by repeat (first | (with_reducible assumption) | (with_reducible exact Below.refl _ _) | ((with_reducible refine Below.alloc ?_ ?_ _); rotate_left; (focus (first | omega | (simp; done) | (simp; omega)))) | (with_reducible refine Below.drew ?_) | ((with_reducible refine Below.setCell ?_ ?_ _); rotate_left; (focus (first | omega | (simp; done) | (simp; omega)))) | ((with_reducible refine below_hop (by assumption) ?_ ?_); rotate_left; (focus (first | omega | (simp; done) | (simp; omega)))) | ((with_reducible refine bel_later _ ?_ ?_); rotate_left; (focus (first | omega | (simp; done) | (simp; omega))))))) | (go_at_call 51; (first | (with_reducible refine call_later2 (hL _ (Kd.C_below hC hb2) (Kd.C_below hD hb2)) ?_) | (with_reducible refine call_later (hL _ (Kd.C_below hC hb2) (Kd.C_below hD hb2)) ?_)); intro x2))
  refine bodyPost_ret (v := .tuple #[.bool v, .int .i64 0]) (by simp [results, Tryz.results15, go_sem]) rfl ?_
  exact .mk rfl (by repeat (first | (with_reducible assumption) | (with_reducible exact Below.refl _ _) | ((with_reducible refine Below.alloc ?_ ?_ _); rotate_left; (focus (first | omega | (simp; done) | (simp; omega)))) | (with_reducible refine Below.drew ?_) | ((with_reducible refine Below.setCell ?_ ?_ _); rotate_left; (focus (first | omega | (simp; done) | (simp; omega)))) | ((with_reducible refine below_hop (by assumption) ?_ ?_); rotate_left; (focus (first | omega | (simp; done) | (simp; omega)))) | ((with_reducible refine bel_later _ ?_ ?_); rotate_left; (focus (first | omega | (simp; done) | (simp; omega))))))
set_option maxRecDepth 100000 in
set_option maxHeartbeats 4000000 in
theorem specIsInvariant_c (p n : Int) (A : Option Addr) (c : Nat) (ms : List M9) (q d : Int) (B : Option Addr) (e : Nat) (ts : List T4) (w : World) (hC : kM.C w A ms.length ms) (hD : kT.C w B ts.length ts) (hN : ms.length ≤ 9223372036854775807) (hM : ts.length ≤ 9223372036854775807) :
    Calls Tryz.prog 15 #[.agg #[.int .i64 p, .int .i64 n, .slice A ms.length c], .agg #[.int .i64 q, .int .i64 d, .slice B ts.length e]] w (Gives (.tuple #[.bool (isInvR p n ms q d ts).1, .int .i64 (isInvR p n ms q d ts).2]) w) := by
  have hK := fun W h h' => l03Code_c p n A c ms q d B e ts W h h' hN hM
  rcases codeF_three p n ms q d ts with h0 | h0 | h0
  · rw [isInvR_0 h0]
    rw [h0] at hK
    obtain ⟨hq, hdn, hp, hp', h1, h3, hl, hcan, hdg⟩ := codeF_nums h0
    clear h0
    obtain ⟨k, hk⟩ := Int.eq_ofNat_of_zero_le (show 0 ≤ n by omega)
    rw [hk] at hdn
    subst hq
    subst hdn
    subst hk
    exact specIsInvariant_0 _ k A c ms B e ts w hC hD hl hcan hdg hp hp' (by omega) (by omega) hK
  · rw [isInvR_1 h0 (by decide)]
    rw [h0] at hK
    clear h0
    have hbW : Below w.heap.size w ((w.alloc (.cells #[.int .i64 p, .int .i64 n, .slice A ms.length c] 34)).alloc (.cells #[.int .i64 q, .int .i64 d, .slice B ts.length e] 38)) := (by repeat (first | (with_reducible assumption) | (with_reducible exact Below.refl _ _) | ((with_reducible refine Below.alloc ?_ ?_ _); rotate_left; (focus (first | omega | (simp; done) | (simp; omega)))) | (with_reducible refine Below.drew ?_) | ((with_reducible refine Below.setCell ?_ ?_ _); rotate_left; (focus (first | omega | (simp; done) | (simp; omega)))) | ((with_reducible refine below_hop (by assumption) ?_ ?_); rotate_left; (focus (first | omega | (simp; done) | (simp; omega)))) | ((with_reducible refine bel_later _ ?_ ?_); rotate_left; (focus (first | omega | (simp; done) | (simp; omega))))))
    have hC3 := Kd.C_below hC hbW
    have hD3 := Kd.C_below hD hbW
    go_enter Tryz.func15, Tryz.ntmps15
    go_wp2_with ((go_at_call 50; (first | (with_reducible refine call_later2 (hK _ hC3 hD3) ?_) | (with_reducible refine call_later (hK _ hC3 hD3) ?_)); intro x1))
    refine bodyPost_ret (v := .tuple #[.bool false, .int .i64 1]) (by simp [results, Tryz.results15, go_sem]) rfl ?_
    exact .mk rfl (by repeat (first | (with_reducible assumption) | (with_reducible exact Below.refl _ _) | ((with_reducible refine Below.alloc ?_ ?_ _); rotate_left; (focus (first | omega | (simp; done) | (simp; omega)))) | (with_reducible refine Below.drew ?_) | ((with_reducible refine Below.setCell ?_ ?_ _); rotate_left; (focus (first | omega | (simp; done) | (simp; omega)))) | ((with_reducible refine below_hop (by assumption) ?_ ?_); rotate_left; (focus (first | omega | (simp; done) | (simp; omega)))) | ((with_reducible refine bel_later _ ?_ ?_); rotate_left; (focus (first | omega | (simp; done) | (simp; omega))))))
  · rw [isInvR_1 h0 (by decide)]
    rw [h0] at hK
    clear h0
    have hbW : Below w.heap.size w ((w.alloc (.cells #[.int .i64 p, .int .i64 n, .slice A ms.length c] 34)).alloc (.cells #[.int .i64 q, .int .i64 d, .slice B ts.length e] 38)) := (by repeat (first | (with_reducible assumption) | (with_reducible exact Below.refl _ _) | ((with_reducible refine Below.alloc ?_ ?_ _); rotate_left; (focus (first | omega | (simp; done) | (simp; omega)))) | (with_reducible refine Below.drew ?_) | ((with_reducible refine Below.setCell ?_ ?_ _); rotate_left; (focus (first | omega | (simp; done) | (simp; omega)))) | ((with_reducible refine below_hop (by assumption) ?_ ?_); rotate_left; (focus (first | omega | (simp; done) | (simp; omega)))) | ((with_reducible refine bel_later _ ?_ ?_); rotate_left; (focus (first | omega | (simp; done) | (simp; omega))))))
    have hC3 := Kd.C_below hC hbW
    have hD3 := Kd.C_below hD hbW
    go_enter Tryz.func15, Tryz.ntmps15
    go_wp2_with ((go_at_call 50; (first | (with_reducible refine call_later2 (hK _ hC3 hD3) ?_) | (with_reducible refine call_later (hK _ hC3 hD3) ?_)); intro x1))
    refine bodyPost_ret (v := .tuple #[.bool false, .int .i64 2]) (by simp [results, Tryz.results15, go_sem]) rfl ?_
    exact .mk rfl (by repeat (first | (with_reducible assumption) | (with_reducible exact Below.refl _ _) | ((with_reducible refine Below.alloc ?_ ?_ _); rotate_left; (focus (first | omega | (simp; done) | (simp; omega)))) | (with_reducible refine Below.drew ?_) | ((with_reducible refine Below.setCell ?_ ?_ _); rotate_left; (focus (first | omega | (simp; done) | (simp; omega)))) | ((with_reducible refine below_hop (by assumption) ?_ ?_); rotate_left; (focus (first | omega | (simp; done) | (simp; omega)))) | ((with_reducible refine bel_later _ ?_ ?_); rotate_left; (focus (first | omega | (simp; done) | (simp; omega))))))
end Go.Proofs.YtjhkeehfchkpaaaGreat
