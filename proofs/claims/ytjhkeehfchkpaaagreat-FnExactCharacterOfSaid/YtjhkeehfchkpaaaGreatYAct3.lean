/- Sums of polynomials: addUp, l03Add; no condition. -/
import Derived.Test.YtjhkeehfchkpaaaGreatYAct2
set_option linter.unusedVariables false
set_option linter.unusedSimpArgs false
namespace Go.Proofs.YtjhkeehfchkpaaaGreat
open Go.RowKit Go.Proofs.YtjhkeehfchkpaaaGreatW.PrintWords
attribute [local go_sem] Later.cell Later.frozen Later.lt Later.lt_add Later.le Later.le_add Later.ne Later.ne' add_at
open Go.Proofs.YtjhkeehfchkpaaaGreatW.PrintLast
def addL (p : Int) (ps : List PV) : List T4 := ps.foldl (fun acc x => putsT p acc (pairsT 1 x.ts)) []
theorem addL_snoc (p : Int) (ps : List PV) (x : PV) : addL p (ps ++ [x]) = putsT p (addL p ps) (pairsT 1 x.ts) := by simp [addL]
theorem addL_step {p : Int} {ps : List PV} {i : Nat} (h : i < ps.length) : addL p (ps.take (i + 1)) = putsT p (addL p (ps.take i)) (pairsT 1 (ps.getD i zP).ts) := by
  rw [List.take_succ_eq_append_getElem h, addL_snoc]
  have e : ps.getD i zP = ps[i] := by simp [List.getD_eq_getElem?_getD, h]
  rw [e]
theorem addL_canon {p : Int} (hp : 2 ≤ p) (ps : List PV) : Canon p (addL p ps) := by
  have key : ∀ (ps : List PV) (acc : List T4), Canon p acc → Canon p (ps.foldl (fun acc x => putsT p acc (pairsT 1 x.ts)) acc) := by
    intro ps
    induction ps with
    | nil => exact fun acc h => h
    | cons t ps ih => exact fun acc h => ih _ (putsT_canon hp _ h)
  exact key ps [] (canon_nil p)
theorem addL_deg {p : Int} {ps : List PV} (h : ∀ x ∈ ps, ∀ t ∈ x.ts, degE t.e ≤ 12) : ∀ u ∈ addL p ps, degE u.e ≤ 12 := by
  have key : ∀ (ps : List PV), (∀ x ∈ ps, ∀ t ∈ x.ts, degE t.e ≤ 12) → ∀ (acc : List T4), (∀ u ∈ acc, degE u.e ≤ 12) → ∀ u ∈ ps.foldl (fun acc x => putsT p acc (pairsT 1 x.ts)) acc, degE u.e ≤ 12 := by
    intro ps
    induction ps with
    | nil => exact fun _ acc h => h
    | cons x ps ih =>
      intro hb acc h
      refine ih (fun y hy => hb y (by simp [hy])) _ fun u hu => ?_
      rcases putsT_mem _ hu with ⟨q, hq, e⟩ | h'
      · obtain ⟨t', ht', rfl⟩ := List.mem_map.1 hq
        rw [e]
        exact hb x (by simp) t' ht'
      · exact h u h'
  exact key ps h [] (fun u hu => by cases hu)
theorem addL_len {p : Int} (hp : 2 ≤ p) {ps : List PV} (h : ∀ x ∈ ps, ∀ t ∈ x.ts, degE t.e ≤ 12) : (addL p ps).length ≤ 1183 := deg_len (addL_canon hp ps).1 (addL_deg h)
theorem addL_lenT {p : Int} (hp : 2 ≤ p) {ps : List PV} (h : ∀ x ∈ ps, ∀ t ∈ x.ts, degE t.e ≤ 12) (i : Nat) : (addL p (ps.take i)).length ≤ 1183 := addL_len hp fun x hx => h x (List.mem_of_mem_take hx)
theorem getD_memP {ps : List PV} {i : Nat} (h : i < ps.length) : ps.getD i zP ∈ ps := by
  have e : ps.getD i zP = ps[i] := by simp [List.getD_eq_getElem?_getD, h]
  rw [e]
  exact List.getElem_mem h
/-- Polynomials of degree 12 or less, alike. -/
structure Likes (p : Int) (n : Nat) (ps : List PV) : Prop where
  pp : ∀ x ∈ ps, x.p = p
  dd : ∀ x ∈ ps, x.d = n
  can : ∀ x ∈ ps, Canon p x.ts
  deg : ∀ x ∈ ps, ∀ t ∈ x.ts, degE t.e ≤ 12
set_option maxRecDepth 100000 in
set_option maxHeartbeats 4000000 in
theorem addUp_c (p : Int) (n : Nat) (B : Option Addr) (e : Nat) (ts : List T4) (L : Option Addr) (cl : Nat) (ps : List PV) (m : Nat) (hpl : ps.length = m) (w : World) (hL : kP.C w L m ps) (hm : m ≤ 48) (hp : 2 ≤ p) (hp' : p ≤ 13) (hps : Likes p n ps) :
    Calls Tryz.prog 74 #[.agg #[.int .i64 p, .int .i64 n, .slice B ts.length e], .slice L m cl] w (MakesP p n 80 (addL p ps) w) := by
  have HPS := Lib.hid hps
  have HP := Lib.hid (And.intro hp hp')
  have s0 : (w.alloc (.cells #[.int .i64 p, .int .i64 n, .slice B ts.length e] 38)).cell? ⟨w.heap.size, 0, none⟩ = some (.int .i64 p) := bq5
  have s1 : (w.alloc (.cells #[.int .i64 p, .int .i64 n, .slice B ts.length e] 38)).cell? ⟨w.heap.size, 1, none⟩ = some (.int .i64 n) := bq5
  have r0 : ((w.alloc (.cells #[.int .i64 p, .int .i64 n, .slice B ts.length e] 38)).alloc (.cells #[.int .i64 0, .int .i64 0, .slice none 0 0] 38)).cell? ⟨w.heap.size + 1, 0, none⟩ = some (.int .i64 0) := bq5
  have r1 : ((w.alloc (.cells #[.int .i64 p, .int .i64 n, .slice B ts.length e] 38)).alloc (.cells #[.int .i64 0, .int .i64 0, .slice none 0 0] 38)).cell? ⟨w.heap.size + 1, 1, none⟩ = some (.int .i64 0) := bq5
  have r2 : ((w.alloc (.cells #[.int .i64 p, .int .i64 n, .slice B ts.length e] 38)).alloc (.cells #[.int .i64 0, .int .i64 0, .slice none 0 0] 38)).cell? ⟨w.heap.size + 1, 2, none⟩ = some (.slice none 0 0) := bq5
  have r3 : ∀ j, ((w.alloc (.cells #[.int .i64 p, .int .i64 n, .slice B ts.length e] 38)).alloc (.cells #[.int .i64 0, .int .i64 0, .slice none 0 0] 38)).frozen? ⟨w.heap.size + 1, j, none⟩ = false := fun j => bq5
  have hbw : Below w.heap.size w (w.alloc (.cells #[.int .i64 p, .int .i64 n, .slice B ts.length e] 38)) := below_alloc2 _ _
  have hb0 : Below (w.alloc (.cells #[.int .i64 p, .int .i64 n, .slice B ts.length e] 38)).heap.size (w.alloc (.cells #[.int .i64 p, .int .i64 n, .slice B ts.length e] 38)) ((w.alloc (.cells #[.int .i64 p, .int .i64 n, .slice B ts.length e] 38)).alloc (.cells #[.int .i64 0, .int .i64 0, .slice none 0 0] 38)) := below_alloc2 _ _
  have hz0 : (w.alloc (.cells #[.int .i64 p, .int .i64 n, .slice B ts.length e] 38)).heap.size = w.heap.size + 1 := by simp
  have hz1 : ((w.alloc (.cells #[.int .i64 p, .int .i64 n, .slice B ts.length e] 38)).alloc (.cells #[.int .i64 0, .int .i64 0, .slice none 0 0] 38)).heap.size = w.heap.size + 1 + 1 := by simp
  have hL1 := Kd.C_below hL hbw
  have R3 := Lib.hid r3
  have hK := fun W => zeroPoly_c p n W
  clear r3 hps
  go_enter Tryz.func74, Tryz.ntmps74
  go_wp2_with (go_at_call 69; (with_reducible refine to_makesP (V := (w.alloc (.cells #[.int .i64 p, .int .i64 n, .slice B ts.length e] 38)).alloc (.cells #[.int .i64 0, .int .i64 0, .slice none 0 0] 38)) (Below.refl _ _) (hK _) ?_); intro w1 B1 c1 hb1 hb1' hl1 hR1)
  have hX := hb0.trans (hb1.mono hb0.size)
  have hS := AccK.behind (T := 38) (p := p) (n := n) (E := 80) (w0 := w.alloc (.cells #[.int .i64 p, .int .i64 n, .slice B ts.length e] 38)) (rb := w.heap.size + 1) hX (by omega) hb0.size (by show w.heap.size + 1 < ((w.alloc (.cells #[.int .i64 p, .int .i64 n, .slice B ts.length e] 38)).alloc (.cells #[.int .i64 0, .int .i64 0, .slice none 0 0] 38)).heap.size; omega) hR1 (pw_cell_below hb1 r0) (pw_cell_below hb1 r1) (pw_cell_below hb1 r2) (fun j => (hb1.frozen (p := ⟨w.heap.size + 1, j, none⟩) (by show w.heap.size + 1 < _; omega)).trans (R3.out j))
  have hlo1 := hb1.size
  change AccK kT _ _ _ p n _ (w1.alloc (.cells #[.int .i64 p, .int .i64 n, .slice B1 0 c1] 38)) B1 c1 (addL p (ps.take 0)) at hS
  generalize (w1.alloc (.cells #[.int .i64 p, .int .i64 n, .slice B1 0 c1] 38)) = V0 at *
  generalize hob : w1.heap.size = ob at *
  clear hX hb0 r0 r1 r2 hR1 hb1 hb1'
  generalize hrb : w.heap.size + 1 = rb at *
  generalize hxb : w.heap.size = xb at *
  have hbase : (w.alloc (.cells #[.int .i64 p, .int .i64 n, .slice B ts.length e] 38)).heap.size = rb := hz0
  generalize (w.alloc (.cells #[.int .i64 p, .int .i64 n, .slice B ts.length e] 38)) = W0 at *
  go_loopg [15] m (fun g v w' => ∃ (i : Nat) (A : Option Addr) (ca : Nat), i + g = m ∧ v = .int .i64 i ∧ AccK kT W0 ob rb p n 80 w' A ca (addL p (ps.take i)))
  case atStart => exact ⟨0, B1, c1, by omega, rfl, hS⟩
  case round =>
    clear hS
    obtain ⟨i, A, ca, hik, rfl, hS⟩ := hrel
    have HIK := Lib.hid hik
    clear hik
    have o0 := hS.o0
    have o1 := hS.o1
    have o2 := hS.o2
    by_cases hlt : i < m
    · obtain ⟨b2, o2', A2, c2, hB, p0, p1, p2, hD⟩ := kP_at hL1 i hlt
      subst hB
      have hmem := getD_memP (ps := ps) (i := i) (by omega)
      rw [HPS.out.pp _ hmem] at p0
      rw [HPS.out.dd _ hmem] at p1
      have p0 := pw_cell_below hS.bel p0
      have p1 := pw_cell_below hS.bel p1
      have p2 := pw_cell_below hS.bel p2
      have hD := Kd.C_below hD hS.bel
      have hi0 : (0 : Int) ≤ i := by omega
      have hi1 : (i : Int) < m := by omega
      have hin : ((i : Int)).toNat = i := by omega
      have hst := addL_step (p := p) (ps := ps) (i := i) (by omega)
      have hcan := HPS.out.can _ hmem
      have hdg := HPS.out.deg _ hmem
      have hl2 := deg_len hcan.1 hdg
      have hac := addL_canon HP.out.1 (ps.take i)
      have hal := addL_lenT (p := p) HP.out.1 HPS.out.deg i
      have hA := fun W h1 h2 => add_c p n p n 1 A A2 ca c2 (addL p (ps.take i)) (ps.getD i zP).ts W h1 h2 (by omega) (by omega) HP.out.1 HP.out.2 (fun u hu => by have := hcan.2 u hu; have := HP.out; omega) hac
      rw [← hst] at hA
      have hRA := (Kd.R_reads' hS.R).2.2
      clear hst hcan hdg hl2 hac hal hmem
      generalize hgl : addL p (ps.take (i + 1)) = ys at *
      have HGL := Lib.hid hgl
      clear hgl
      generalize addL p (ps.take i) = xs at *
      generalize ps.getD i zP = y at *
      obtain ⟨V4, hV4, hb4, y0, y1, y2⟩ := poly_one wr p n (.slice A2 y.ts.length c2) ⟨rfl, rfl⟩ 38
      have hS4 := hS.below hb4
      have HS4 := Lib.hid hS4
      have o0 := hS4.o0
      have o1 := hS4.o1
      have o2 := hS4.o2
      have hRA4 := Kd.C_below hRA hb4
      have hD4 := Kd.C_below hD hb4
      clear hS hS4
      go_wp2_with (go_at_call 68; (with_reducible refine to_makesP (V := V4) (Below.refl _ _) (hA _ hRA4 hD4) ?_); intro w8 B8 c8 hb8 hb8' hl8 hR8; have z0 := (HS4.out.below hb8).o0; have z1 := (HS4.out.below hb8).o1; have z2 := (HS4.out.below hb8).o2; have z3 := (HS4.out.below hb8).o3; have HT := Lib.hid (HS4.out.set hb8 hR8))
      go_roundg (gk - 1)
      case measure => have := HIK.out; omega
      case rel => exact ⟨i + 1, B8, c8, by have := HIK.out; omega, by go_num, by rw [HGL.out]; exact HT.out⟩
    · have hie : m = i := by have := HIK.out; omega
      subst hie
      rw [show ps.take m = ps by rw [← hpl, List.take_length]] at hS
      clear o0 o1 o2
      have o0 := hS.o0
      have o1 := hS.o1
      have o2 := hS.o2
      have x0 := hS.r0
      have x1 := hS.r1
      have x2 := hS.r2
      have x3 := hS.r3
      go_wp2
      generalize addL p ps = xs at *
      refine bodyPost_ret (v := .agg #[.int .i64 p, .int .i64 n, .slice A xs.length ca]) (by simp [results, Tryz.results74, go_sem, x0, x1, x2, x3]) rfl ⟨A, ca, rfl, ?_, ?_⟩
      · exact R_set3 hS.R (fun k hk => hk.2) (by omega) _ _ _
      · rw [hxb]
        exact below_set3 (hbw.trans (hS.bel.mono (by omega))) (by omega) _ _ _
set_option maxRecDepth 100000 in
set_option maxHeartbeats 4000000 in
theorem l03Add_c (p : Int) (n : Nat) (B : Option Addr) (e : Nat) (ts : List T4) (L : Option Addr) (cl : Nat) (ps : List PV) (m : Nat) (hpl : ps.length = m) (w : World) (hL : kP.C w L m ps) (hm : m ≤ 48) (hp : 2 ≤ p) (hp' : p ≤ 13) (hps : Likes p n ps) :
    Calls Tryz.prog 58 #[.agg #[.int .i64 p, .int .i64 n, .slice B ts.length e], .slice L m cl] w (MakesP p n 80 (addL p ps) w) := by
  have HPS := Lib.hid hps
  have HP := Lib.hid (And.intro hp hp')
  have s0 : (w.alloc (.cells #[.int .i64 p, .int .i64 n, .slice B ts.length e] 38)).cell? ⟨w.heap.size, 0, none⟩ = some (.int .i64 p) := bq5
  have s1 : (w.alloc (.cells #[.int .i64 p, .int .i64 n, .slice B ts.length e] 38)).cell? ⟨w.heap.size, 1, none⟩ = some (.int .i64 n) := bq5
  have r0 : ((w.alloc (.cells #[.int .i64 p, .int .i64 n, .slice B ts.length e] 38)).alloc (.cells #[.int .i64 0, .int .i64 0, .slice none 0 0] 38)).cell? ⟨w.heap.size + 1, 0, none⟩ = some (.int .i64 0) := bq5
  have r1 : ((w.alloc (.cells #[.int .i64 p, .int .i64 n, .slice B ts.length e] 38)).alloc (.cells #[.int .i64 0, .int .i64 0, .slice none 0 0] 38)).cell? ⟨w.heap.size + 1, 1, none⟩ = some (.int .i64 0) := bq5
  have r2 : ((w.alloc (.cells #[.int .i64 p, .int .i64 n, .slice B ts.length e] 38)).alloc (.cells #[.int .i64 0, .int .i64 0, .slice none 0 0] 38)).cell? ⟨w.heap.size + 1, 2, none⟩ = some (.slice none 0 0) := bq5
  have r3 : ∀ j, ((w.alloc (.cells #[.int .i64 p, .int .i64 n, .slice B ts.length e] 38)).alloc (.cells #[.int .i64 0, .int .i64 0, .slice none 0 0] 38)).frozen? ⟨w.heap.size + 1, j, none⟩ = false := fun j => bq5
  have hbw : Below w.heap.size w (w.alloc (.cells #[.int .i64 p, .int .i64 n, .slice B ts.length e] 38)) := below_alloc2 _ _
  have hb0 : Below (w.alloc (.cells #[.int .i64 p, .int .i64 n, .slice B ts.length e] 38)).heap.size (w.alloc (.cells #[.int .i64 p, .int .i64 n, .slice B ts.length e] 38)) ((w.alloc (.cells #[.int .i64 p, .int .i64 n, .slice B ts.length e] 38)).alloc (.cells #[.int .i64 0, .int .i64 0, .slice none 0 0] 38)) := below_alloc2 _ _
  have hz0 : (w.alloc (.cells #[.int .i64 p, .int .i64 n, .slice B ts.length e] 38)).heap.size = w.heap.size + 1 := by simp
  have hz1 : ((w.alloc (.cells #[.int .i64 p, .int .i64 n, .slice B ts.length e] 38)).alloc (.cells #[.int .i64 0, .int .i64 0, .slice none 0 0] 38)).heap.size = w.heap.size + 1 + 1 := by simp
  have hL1 := Kd.C_below hL hbw
  have R3 := Lib.hid r3
  have hK := fun W => l01Empty_c p n W
  clear r3 hps
  go_enter Tryz.func58, Tryz.ntmps58
  go_wp2_with (go_at_call 100; (with_reducible refine to_makesP (V := (w.alloc (.cells #[.int .i64 p, .int .i64 n, .slice B ts.length e] 38)).alloc (.cells #[.int .i64 0, .int .i64 0, .slice none 0 0] 38)) (Below.refl _ _) (hK _) ?_); intro w1 B1 c1 hb1 hb1' hl1 hR1)
  have hX := hb0.trans (hb1.mono hb0.size)
  have hS := AccK.behind (T := 38) (p := p) (n := n) (E := 80) (w0 := w.alloc (.cells #[.int .i64 p, .int .i64 n, .slice B ts.length e] 38)) (rb := w.heap.size + 1) hX (by omega) hb0.size (by show w.heap.size + 1 < ((w.alloc (.cells #[.int .i64 p, .int .i64 n, .slice B ts.length e] 38)).alloc (.cells #[.int .i64 0, .int .i64 0, .slice none 0 0] 38)).heap.size; omega) hR1 (pw_cell_below hb1 r0) (pw_cell_below hb1 r1) (pw_cell_below hb1 r2) (fun j => (hb1.frozen (p := ⟨w.heap.size + 1, j, none⟩) (by show w.heap.size + 1 < _; omega)).trans (R3.out j))
  have hlo1 := hb1.size
  change AccK kT _ _ _ p n _ (w1.alloc (.cells #[.int .i64 p, .int .i64 n, .slice B1 0 c1] 38)) B1 c1 (addL p (ps.take 0)) at hS
  generalize (w1.alloc (.cells #[.int .i64 p, .int .i64 n, .slice B1 0 c1] 38)) = V0 at *
  generalize hob : w1.heap.size = ob at *
  clear hX hb0 r0 r1 r2 hR1 hb1 hb1'
  generalize hrb : w.heap.size + 1 = rb at *
  generalize hxb : w.heap.size = xb at *
  have hbase : (w.alloc (.cells #[.int .i64 p, .int .i64 n, .slice B ts.length e] 38)).heap.size = rb := hz0
  generalize (w.alloc (.cells #[.int .i64 p, .int .i64 n, .slice B ts.length e] 38)) = W0 at *
  go_loopg [6] m (fun g v w' => ∃ (i : Nat) (A : Option Addr) (ca : Nat), i + g = m ∧ v = .int .i64 i ∧ AccK kT W0 ob rb p n 80 w' A ca (addL p (ps.take i)))
  case atStart => exact ⟨0, B1, c1, by omega, rfl, hS⟩
  case round =>
    clear hS
    obtain ⟨i, A, ca, hik, rfl, hS⟩ := hrel
    have HIK := Lib.hid hik
    clear hik
    have o0 := hS.o0
    have o1 := hS.o1
    have o2 := hS.o2
    by_cases hlt : i < m
    · obtain ⟨b2, o2', A2, c2, hB, p0, p1, p2, hD⟩ := kP_at hL1 i hlt
      subst hB
      have hmem := getD_memP (ps := ps) (i := i) (by omega)
      rw [HPS.out.pp _ hmem] at p0
      rw [HPS.out.dd _ hmem] at p1
      have p0 := pw_cell_below hS.bel p0
      have p1 := pw_cell_below hS.bel p1
      have p2 := pw_cell_below hS.bel p2
      have hD := Kd.C_below hD hS.bel
      have hi0 : (0 : Int) ≤ i := by omega
      have hi1 : (i : Int) < m := by omega
      have hin : ((i : Int)).toNat = i := by omega
      have hst := addL_step (p := p) (ps := ps) (i := i) (by omega)
      have hcan := HPS.out.can _ hmem
      have hdg := HPS.out.deg _ hmem
      have hl2 := deg_len hcan.1 hdg
      have hac := addL_canon HP.out.1 (ps.take i)
      have hal := addL_lenT (p := p) HP.out.1 HPS.out.deg i
      have hA := fun W h1 h2 => l01Plus_c p n p n 1 A A2 ca c2 (addL p (ps.take i)) (ps.getD i zP).ts W h1 h2 (by omega) (by omega) HP.out.1 HP.out.2 (fun u hu => by have := hcan.2 u hu; have := HP.out; omega) hac
      rw [← hst] at hA
      have hRA := (Kd.R_reads' hS.R).2.2
      clear hst hcan hdg hl2 hac hal hmem
      generalize hgl : addL p (ps.take (i + 1)) = ys at *
      have HGL := Lib.hid hgl
      clear hgl
      generalize addL p (ps.take i) = xs at *
      generalize ps.getD i zP = y at *
      have HS := Lib.hid hS
      clear hS
      go_wp2
      refine start_ (n := 7) (S := fun w' => w'.cell? ⟨ob, 0, none⟩ = some (.int .i64 p) ∧ w'.cell? ⟨ob, 1, none⟩ = some (.int .i64 n) ∧ w'.cell? ⟨ob, 2, none⟩ = some (.slice A xs.length ca) ∧ w'.cell? ⟨b2, o2' + i * 3, none⟩ = some (.int .i64 p) ∧ w'.cell? ⟨b2, o2' + i * 3 + 1, none⟩ = some (.int .i64 n) ∧ w'.cell? ⟨b2, o2' + i * 3 + 2, none⟩ = some (.slice A2 y.ts.length c2)) (ds := [6]) #[false, false, false, false, false, false, false] (by kernel_rfl) rfl rfl ⟨o0, o1, o2, p0, p1, p2⟩ (fun hHeld => ?_)
      refine pure_ (i := 1) (N := some 19) (v := ?_) (a' := ?_) #[false, true, false, false, false, false, false] rfl rfl (by kernel_rfl) (fun _ _ _ h => h) (Or.inl ⟨by rfl, ?_⟩) ?_ ?_
      rotate_left
      · intro w'
        go_simp
        with_reducible rfl
      rotate_left
      · simp only [Act.put, List.setIfInBounds_toArray, List.set_cons_zero, List.set_cons_succ, i64_w, i32_w]
        rfl
      refine pure_ (i := 2) (N := some 20) (v := ?_) (a' := ?_) #[false, true, true, false, false, false, false] rfl rfl (by kernel_rfl) (fun _ _ _ h => h) (Or.inl ⟨by rfl, ?_⟩) ?_ ?_
      rotate_left
      · intro w'
        go_simp
        with_reducible rfl
      rotate_left
      · simp only [Act.put, List.setIfInBounds_toArray, List.set_cons_zero, List.set_cons_succ, i64_w, i32_w]
        rfl
      refine pure_ (i := 3) (N := some 21) (v := ?_) (a' := ?_) #[false, true, true, true, false, false, false] rfl rfl (by kernel_rfl) (fun _ _ _ h => h) (Or.inl ⟨by rfl, ?_⟩) ?_ ?_
      rotate_left
      · intro w'
        go_simp
        with_reducible rfl
      rotate_left
      · simp only [Act.put, List.setIfInBounds_toArray, List.set_cons_zero, List.set_cons_succ, i64_w, i32_w]
        rfl
      refine take_ (i := 0) (N := some 18) (v := ?_) (a' := ?_) #[true, true, true, true, false, false, false] rfl rfl (by kernel_rfl) (fun _ _ _ h => h) (Or.inl ⟨by rfl, ?_⟩) hHeld ?_ ?_
      rotate_left
      · rintro w' ⟨s0, s1, s2, s3, s4, s5⟩
        go_simp
        with_reducible rfl
      rotate_left
      · simp only [Act.put, List.setIfInBounds_toArray, List.set_cons_zero, List.set_cons_succ, i64_w, i32_w]
        rfl
      refine take_ (i := 4) (N := some 22) (v := ?_) (a' := ?_) #[true, true, true, true, true, false, false] rfl rfl (by kernel_rfl) (fun _ _ _ h => h) (Or.inl ⟨by rfl, ?_⟩) hHeld ?_ ?_
      rotate_left
      · rintro w' ⟨s0, s1, s2, s3, s4, s5⟩
        go_simp
        with_reducible rfl
      rotate_left
      · simp only [Act.put, List.setIfInBounds_toArray, List.set_cons_zero, List.set_cons_succ, i64_w, i32_w]
        rfl
      refine one_ (i := 5) (N := some 23) #[true, true, true, true, true, true, false] rfl rfl (by kernel_rfl) (by decide) (fun K hK => ?_)
      refine goes_ Tryz.func101 (by kernel_rfl) rfl #[.agg #[.int .i64 p, .int .i64 n, .slice A xs.length ca], .agg #[.int .i64 p, .int .i64 n, .slice A2 y.ts.length c2], .int .i64 1] (by rfl) rfl rfl (by simp only [List.map_toArray, List.map_cons, List.map_nil]; rfl) ?_
      with_reducible refine (hA _ (Kd.C_below hRA (Below.refl _ _).drew) (Kd.C_below hD (Below.refl _ _).drew)).mono ?_
      rintro e' xw ⟨B8, c8, rfl, hR8, hb8'⟩
      refine ⟨_, rfl, ?_⟩
      have hqx := below_undrewA hb8'
      have z0 := (HS.out.below hqx).o0
      have z1 := (HS.out.below hqx).o1
      have z2 := (HS.out.below hqx).o2
      have z3 := (HS.out.below hqx).o3
      refine hK.out _ _ ⟨pw_cell_below hqx o0, pw_cell_below hqx o1, pw_cell_below hqx o2, pw_cell_below hqx p0, pw_cell_below hqx p1, pw_cell_below hqx p2⟩ (fun hHeld => ?_)
      clear hK K
      refine norm_ (a' := ?_) ?_ ?_
      rotate_left
      · show Act.put _ (some 23) _ = _
        simp only [Act.put, List.setIfInBounds_toArray, List.set_cons_zero, List.set_cons_succ, i64_w, i32_w]
        rfl
      refine last_ (i := 6) (N := none) #[true, true, true, true, true, true, true] rfl rfl (by kernel_rfl) (by decide) (fun K hK => ?_)
      refine skip_ (w1 := ?_) (by rfl) rfl ?_ ?_
      rotate_left
      · go_simp
        rfl
      refine hK.out _ _ ?_
      clear hK K
      refine done_ (by kernel_rfl) ?_
      go_wp2
      go_roundg (gk - 1)
      case measure => have := HIK.out; omega
      case rel => exact ⟨i + 1, B8, c8, by have := HIK.out; omega, by go_num, by rw [HGL.out]; exact HS.out.set hqx hR8⟩
    · have hie : m = i := by have := HIK.out; omega
      subst hie
      rw [show ps.take m = ps by rw [← hpl, List.take_length]] at hS
      clear o0 o1 o2
      have o0 := hS.o0
      have o1 := hS.o1
      have o2 := hS.o2
      have x0 := hS.r0
      have x1 := hS.r1
      have x2 := hS.r2
      have x3 := hS.r3
      go_wp2
      generalize addL p ps = xs at *
      refine bodyPost_ret (v := .agg #[.int .i64 p, .int .i64 n, .slice A xs.length ca]) (by simp [results, Tryz.results58, go_sem, x0, x1, x2, x3]) rfl ⟨A, ca, rfl, ?_, ?_⟩
      · exact R_set3 hS.R (fun k hk => hk.2) (by omega) _ _ _
      · rw [hxb]
        exact below_set3 (hbw.trans (hS.bel.mono (by omega))) (by omega) _ _ _
end Go.Proofs.YtjhkeehfchkpaaaGreat
