/- The walk of the reference's substitution (l01Replace); no condition. -/
import Derived.Test.YtneknpamceipiaaYSub2
import Derived.Deep.RegionHeld3
import Derived.Deep.CutRange
import Derived.Deep.RegionWith
set_option linter.unusedVariables false
set_option linter.unusedSimpArgs false
namespace Go.Proofs.Ytneknpamceipiaa
open Go.RowKit Go.Proofs.YtneknpamceipiaaW.PrintWords
attribute [local go_sem] Later.cell Later.frozen Later.lt Later.lt_add Later.le Later.le_add Later.ne Later.ne' add_at
attribute [local go_sem] later_drew2 later_drewf2
theorem below_undrew {w W : World} (h : Below w.drew.heap.size w.drew W) : Below w.heap.size w W := ⟨h.os, h.tape, h.output, h.size, h.block⟩
set_option maxRecDepth 100000 in
set_option maxHeartbeats 4000000 in
theorem l01Replace_c (p d D : Int) (A : Option Addr) (c : Nat) (ts : List T4) (L : Option Addr) (cl : Nat) (ps : List PV) (m : Nat) (hpl : ps.length = m) (w : World) (hC : kT.C w A ts.length ts) (hL : kP.C w L m ps) (hn : ts.length ≤ 1183) (hm1 : 1 ≤ m) (hm3 : m ≤ 3) (hp : 2 ≤ p) (hp' : p ≤ 13)
    (hcan : ∀ y ∈ tss ps, Canon p y) (hts : Canon p ts) (hpd : ∀ i, i < m → (ps.getD i zP).p = p ∧ (ps.getD i zP).d = D) (hlen : ∀ i, i < m → (ps.getD i zP).ts.length ≤ 1183) :
    Calls Try.prog 57 #[.agg #[.int .i64 p, .int .i64 d, .slice A ts.length c], .slice L m cl] w (MakesPB p D (if bndB (tss ps) ts = true then subL p (tss ps) ts else []) (bndB (tss ps) ts) 121 w) := by
  obtain ⟨res, hres⟩ : ∃ r, r = (if bndB (tss ps) ts = true then subL p (tss ps) ts else []) := ⟨_, rfl⟩
  obtain ⟨bb, hbb⟩ : ∃ b, b = bndB (tss ps) ts := ⟨_, rfl⟩
  rw [← hres, ← hbb]
  have HRES := Lib.hid hres
  have HBB := Lib.hid hbb
  clear hres hbb
  have hC0 := Kd.C_alloc hC (.cells #[.int .i64 p, .int .i64 d, .slice A ts.length c] 45)
  have hL0 := Kd.C_alloc hL (.cells #[.int .i64 p, .int .i64 d, .slice A ts.length c] 45)
  have s0 : (w.alloc (.cells #[.int .i64 p, .int .i64 d, .slice A ts.length c] 45)).cell? ⟨w.heap.size, 2, none⟩ = some (.slice A ts.length c) := (by first | (simp; done) | (simp [go_sem]; done) | go_simp)
  have r0 : ((w.alloc (.cells #[.int .i64 p, .int .i64 d, .slice A ts.length c] 45)).alloc (.cells #[.int .i64 0, .int .i64 0, .slice none 0 0] 45)).cell? ⟨w.heap.size + 1, 0, none⟩ = some (.int .i64 0) := (by first | (simp; done) | (simp [go_sem]; done) | go_simp)
  have r1 : ((w.alloc (.cells #[.int .i64 p, .int .i64 d, .slice A ts.length c] 45)).alloc (.cells #[.int .i64 0, .int .i64 0, .slice none 0 0] 45)).cell? ⟨w.heap.size + 1, 1, none⟩ = some (.int .i64 0) := (by first | (simp; done) | (simp [go_sem]; done) | go_simp)
  have r2 : ((w.alloc (.cells #[.int .i64 p, .int .i64 d, .slice A ts.length c] 45)).alloc (.cells #[.int .i64 0, .int .i64 0, .slice none 0 0] 45)).cell? ⟨w.heap.size + 1, 2, none⟩ = some (.slice none 0 0) := (by first | (simp; done) | (simp [go_sem]; done) | go_simp)
  have r3 : ∀ j, ((w.alloc (.cells #[.int .i64 p, .int .i64 d, .slice A ts.length c] 45)).alloc (.cells #[.int .i64 0, .int .i64 0, .slice none 0 0] 45)).frozen? ⟨w.heap.size + 1, j, none⟩ = false := fun j => (by first | (simp; done) | (simp [go_sem]; done) | go_simp)
  have hb01 : Below (w.alloc (.cells #[.int .i64 p, .int .i64 d, .slice A ts.length c] 45)).heap.size (w.alloc (.cells #[.int .i64 p, .int .i64 d, .slice A ts.length c] 45)) ((w.alloc (.cells #[.int .i64 p, .int .i64 d, .slice A ts.length c] 45)).alloc (.cells #[.int .i64 0, .int .i64 0, .slice none 0 0] 45)) := below_alloc2 _ _
  have hz0 : (w.alloc (.cells #[.int .i64 p, .int .i64 d, .slice A ts.length c] 45)).heap.size = w.heap.size + 1 := by simp
  have hz1 : ((w.alloc (.cells #[.int .i64 p, .int .i64 d, .slice A ts.length c] 45)).alloc (.cells #[.int .i64 0, .int .i64 0, .slice none 0 0] 45)).heap.size = w.heap.size + 1 + 1 := by simp
  obtain ⟨b0, oo0, A0, c0, hA0, l0, l1, _, _⟩ := kP_at hL0 0 (by omega)
  rw [(hpd 0 (by omega)).1] at l0
  rw [(hpd 0 (by omega)).2] at l1
  simp only [Nat.zero_mul, Nat.add_zero] at l0 l1
  have l0 := pw_cell_below hb01 l0
  have l1 := pw_cell_below hb01 l1
  have zb0 := World.block_lt_of_cell? _ _ l0
  simp only [] at zb0
  have hbw0 : Below w.heap.size w (w.alloc (.cells #[.int .i64 p, .int .i64 d, .slice A ts.length c] 45)) := below_alloc2 _ _
  have R3 := Lib.hid r3
  have HE := fun W => l01Empty_c p D W
  have hml : (0 : Int) < m := by omega
  have hml2 : 0 < m := by omega
  clear r3
  subst hA0
  go_enter Try.func57, Try.ntmps57
  go_upto_region 1 with fail
  generalize hW0 : (w.alloc (.cells #[.int .i64 p, .int .i64 d, .slice A ts.length c] 45)) = W0 at *
  generalize hW1 : (W0.alloc (.cells #[.int .i64 0, .int .i64 0, .slice none 0 0] 45)) = W1 at *
  generalize hrb : w.heap.size + 1 = rb at *
  go_cut [6] from 14 to 22 (fun v6 wx => ∃ (ob : Nat) (B : Option Addr) (cb : Nat), v6 = .pointer (some ⟨ob, 0, none⟩) ∧ AccK kT W0 ob rb p D 121 wx B cb [])
  case first =>
    go_region_held3 (fun w' => w'.cell? ⟨b0, oo0, none⟩ = some (.int .i64 p) ∧ w'.cell? ⟨b0, oo0 + 1, none⟩ = some (.int .i64 D)) ((refine ⟨?_, ?_⟩ <;> ((repeat (refine cell_far2 ?_ (by dsimp only; omega))); (first | assumption | (exact cell_alloc (by assumption) _))))) (first | (go_at_call 96; (with_reducible refine call_makesP (HE _) ?_); intro x B c hb hl hR hC'; have hv : Below W1.heap.size W1 x.W := (by repeat (first | (with_reducible assumption) | (with_reducible exact Below.refl _ _) | ((with_reducible refine Below.alloc ?_ ?_ _); rotate_left; (focus (first | omega | (simp; done) | (simp; omega)))) | (with_reducible refine Below.drew ?_) | ((with_reducible refine Below.setCell ?_ ?_ _); rotate_left; (focus (first | omega | (simp; done) | (simp; omega)))) | ((with_reducible refine below_hop (by assumption) ?_ ?_); rotate_left; (focus (first | omega | (simp; done) | (simp; omega)))) | ((with_reducible refine bel_later _ ?_ ?_); rotate_left; (focus (first | omega | (simp; done) | (simp; omega)))))); have zz := hb.size; (try simp at zz); have y0 := pw_cell_below hv l0; have y1 := pw_cell_below hv l1))
    all_goals (go_wp2_with fail; go_meet)
    all_goals refine ⟨_, B, c, rfl, ?_⟩
    all_goals first | exact AccK.behind (hb01.trans (hv.mono hb01.size)) (by omega) hb01.size (by show rb < W1.heap.size; omega) hR (pw_cell_below hv r0) (pw_cell_below hv r1) (pw_cell_below hv r2) (fun j => (hv.frozen (p := ⟨rb, j, none⟩) (by show rb < W1.heap.size; omega)).trans (R3.out j)) | (have hq := AccK.setN (p' := p) (n' := D) (AccK.zero (T := 45) hb01 (by omega) r0 r1 r2 R3.out) (below_undrew hb) hR; rw [hz1] at hq; exact hq)
  case rest =>
    obtain ⟨ob, B0, k0, rfl, hS⟩ := hcut
    have HLEN := Lib.hid hlen
    have HPD := Lib.hid hpd
    have HCAN := Lib.hid hcan
    have HTS := Lib.hid hts
    clear hlen hpd hcan hts l0 l1 r0 r1 r2 hb01 HE
    generalize wc = V at *
    have hbV := hS.bel
    go_wp2
    go_loopg [7] ts.length (fun g v7 w' => ∃ (i : Nat), i + g = ts.length ∧ v7 = .int .i64 i ∧ Below V.heap.size V w' ∧ ∀ j, j < i → bndT (tss ps) (ts.getD j z4) m ≤ 12)
    case atStart => exact ⟨0, by omega, rfl, Below.refl _ _, fun j hj => by omega⟩
    case round =>
      obtain ⟨i, hik, rfl, hb, hall⟩ := hrel
      have HIK := Lib.hid hik
      have HALL := Lib.hid hall
      clear hik hall
      have hbr := hbV.trans (hb.mono hbV.size)
      have u0 := pw_cell_below hbr s0
      by_cases hlt : i < ts.length
      · obtain ⟨bt, ot, hA, q0, q1, q2, q3⟩ := kT_at hC0 i hlt z4
        subst hA
        have hi0 : (0 : Int) ≤ i := by omega
        have hi1 : (i : Int) < ts.length := by omega
        have hin : ((i : Int)).toNat = i := by omega
        have hno := bndB_no (ys := tss ps) hlt
        rw [tss_len, hpl] at hno
        have HNO := Lib.hid hno
        clear hno
        generalize ht : ts.getD i z4 = t at *
        have HT := Lib.hid ht
        clear ht
        have ce : ∀ k, k < 3 → wr.cell? ⟨bt, ot + i * 4 + k, none⟩ = some (.int .u8 ((t.e.at k).toNat : Int)) := by
          intro k hk
          rcases lt3 hk with rfl | rfl | rfl
          · exact pw_cell_below hbr q0
          · exact pw_cell_below hbr q1
          · exact pw_cell_below hbr q2
        clear q0 q1 q2 q3
        go_wp2
        generalize hV2 : wr = V2 at *
        go_loopg [8, 9] m (fun g v8 v9 w' => ∃ (k : Nat), k + g = m ∧ v9 = .int .i64 k ∧ v8 = .int .i64 (bndT (tss ps) t k) ∧ Below V2.heap.size V2 w' ∧ 0 ≤ bndT (tss ps) t k ∧ bndT (tss ps) t k ≤ 200000 * k)
        case atStart => exact ⟨0, by omega, rfl, rfl, Below.refl _ _, by show (0 : Int) ≤ 0; omega, by show (0 : Int) ≤ _; omega⟩
        case round =>
          obtain ⟨k, hkk, rfl, rfl, hb2, hn0, hn1⟩ := hrel
          have HKK := Lib.hid hkk
          clear hkk
          have hbr2 := hbr.trans (hb2.mono hbr.size)
          have u1 := pw_cell_below hb2 u0
          by_cases hk : k < m
          · obtain ⟨b2, o2, A2, c2, hB, p0, p1, p2, hD⟩ := kP_at hL0 k hk
            obtain ⟨rfl, rfl⟩ : b0 = b2 ∧ oo0 = o2 := by
              injection hB with hB
              injection hB with h1 h2
              exact ⟨h1, h2⟩
            have p0 := pw_cell_below hbr2 p0
            have p1 := pw_cell_below hbr2 p1
            have p2 := pw_cell_below hbr2 p2
            have hD := Kd.C_below hD hbr2
            have c1 := pw_cell_below hb2 (ce k (by omega))
            have hk0 : (0 : Int) ≤ k := by omega
            have hk1 : (k : Int) < m := by omega
            have hk3 : (k : Int) < 3 := by omega
            have hkn : ((k : Int)).toNat = k := by omega
            have hst : bndT (tss ps) t (k + 1) = bndT (tss ps) t k + ((t.e.at k).toNat : Int) * max (degP (ps.getD k zP).ts) 0 := by rw [← tss_get]; rfl
            have hl3 := HLEN.out k hk
            have hdc := fun W hE => l01Degree_c (ps.getD k zP).p (ps.getD k zP).d A2 c2 (ps.getD k zP).ts W hE (by omega)
            obtain ⟨d0, d1⟩ := degP_bd (ps.getD k zP).ts
            have he := (t.e.at k).toNat_lt
            generalize degP (ps.getD k zP).ts = dg at *
            generalize (t.e.at k).toNat = ek at *
            generalize bndT (tss ps) t k = bd at *
            have hm0 : 0 ≤ (ek : Int) * max dg 0 := Int.mul_nonneg (by omega) (by omega)
            have hm1 : (ek : Int) * max dg 0 ≤ 255 * 767 := Int.mul_le_mul (by omega) (by omega) (by omega) (by omega)
            have hw1 : IntKind.i64.wrap ((ek : Int) * max dg 0) = (ek : Int) * max dg 0 := i64_small (by omega) (by omega)
            have hw2 : IntKind.i64.wrap (bd + (ek : Int) * max dg 0) = bd + (ek : Int) * max dg 0 := i64_small (by omega) (by omega)
            have HST := Lib.hid hst
            have HW := Lib.hid (And.intro (show IntKind.i64.wrap (ek : Int) = ek from i64_small (by omega) (by omega)) (And.intro hw1 hw2))
            clear hst hw1 hw2
            generalize ps.getD k zP = y at *
            generalize wr = V3 at *
            go_wp2
            go_region_held3 (fun w' => w'.cell? ⟨w.heap.size, 2, none⟩ = some (.slice (some ⟨bt, ot, none⟩) ts.length c) ∧ w'.cell? ⟨bt, ot + i * 4 + k, none⟩ = some (.int .u8 ek) ∧ w'.cell? ⟨b0, oo0 + k * 3, none⟩ = some (.int .i64 y.p) ∧ w'.cell? ⟨b0, oo0 + k * 3 + 1, none⟩ = some (.int .i64 y.d) ∧ w'.cell? ⟨b0, oo0 + k * 3 + 2, none⟩ = some (.slice A2 y.ts.length c2)) ((refine ⟨?_, ?_, ?_, ?_, ?_⟩ <;> ((repeat (refine cell_far2 ?_ (by dsimp only; omega))); (first | assumption | (exact cell_alloc (by assumption) _))))) (first | (go_at_call 97; (with_reducible refine to_gives (V := V3) ?hww (hdc _ ?hcc) ?_); (case hww => exact (by repeat (first | (with_reducible assumption) | (with_reducible exact Below.refl _ _) | ((with_reducible refine Below.alloc ?_ ?_ _); rotate_left; (focus (first | omega | (simp; done) | (simp; omega)))) | (with_reducible refine Below.drew ?_) | ((with_reducible refine Below.setCell ?_ ?_ _); rotate_left; (focus (first | omega | (simp; done) | (simp; omega)))) | ((with_reducible refine below_hop (by assumption) ?_ ?_); rotate_left; (focus (first | omega | (simp; done) | (simp; omega)))) | ((with_reducible refine bel_later _ ?_ ?_); rotate_left; (focus (first | omega | (simp; done) | (simp; omega))))))); (case hcc => exact Kd.C_below hD (by repeat (first | (with_reducible assumption) | (with_reducible exact Below.refl _ _) | ((with_reducible refine Below.alloc ?_ ?_ _); rotate_left; (focus (first | omega | (simp; done) | (simp; omega)))) | (with_reducible refine Below.drew ?_) | ((with_reducible refine Below.setCell ?_ ?_ _); rotate_left; (focus (first | omega | (simp; done) | (simp; omega)))) | ((with_reducible refine below_hop (by assumption) ?_ ?_); rotate_left; (focus (first | omega | (simp; done) | (simp; omega)))) | ((with_reducible refine bel_later _ ?_ ?_); rotate_left; (focus (first | omega | (simp; done) | (simp; omega))))))); intro wy hv hvw; have y0 := pw_cell_below hv u1; have y1 := pw_cell_below hv c1; have y2 := pw_cell_below hv p0; have y3 := pw_cell_below hv p1; have y4 := pw_cell_below hv p2))
            all_goals
              go_wp2
              go_roundg (gk - 1)
              case measure => have := HKK.out; omega
              case rel => exact ⟨k + 1, by have := HKK.out; omega, by go_num, by rw [HST.out, HW.out.1, HW.out.2.1, HW.out.2.2], hb2.trans (hv.mono hb2.size), by rw [HST.out]; omega, by rw [HST.out]; omega⟩
          · have hke : m = k := by have := HKK.out; omega
            subst hke
            by_cases hgt : 12 < bndT (tss ps) t m
            · have E := Lib.hid (HNO.out hgt)
              have hS3 := hS.below (hb.trans (hb2.mono hb.size))
              have z0 := hS3.o0
              have z1 := hS3.o1
              have z2 := hS3.o2
              have x0 := hS3.r0
              have x1 := hS3.r1
              have x2 := hS3.r2
              have x3 := hS3.r3
              have hrob := hS3.hne
              generalize bndT (tss ps) t m = bd at *
              go_wp2
              rw [HRES.out, HBB.out, E.out, if_neg (by decide)]
              refine bodyPost_ret (v := .tuple #[.agg #[.int .i64 p, .int .i64 D, .slice B0 ([] : List T4).length k0], .bool false]) (by simp [results, Try.results57, go_sem, x0, x1, x2]) rfl ⟨B0, k0, rfl, ?_, ?_⟩
              · exact R_set3 hS3.R (fun k hk => hk.2) (by omega) _ _ _
              · exact below_set3 (hbw0.trans (hS3.bel.mono (by omega))) (by omega) _ _ _
            · have hle : bndT (tss ps) t m ≤ 12 := by omega
              have HLE := Lib.hid hle
              generalize hbd : bndT (tss ps) t m = bd at *
              have HBD := Lib.hid hbd
              clear hbd
              go_wp2
              go_roundg (ts.length - i - 1)
              case measure => have := HIK.out; omega
              case rel =>
                refine ⟨i + 1, by have := HIK.out; omega, by go_num, hb.trans (hb2.mono hb.size), fun j hj => ?_⟩
                by_cases h : j = i
                · rw [h, HT.out]
                  rw [HBD.out]
                  exact HLE.out
                · exact HALL.out j (by omega)
      · have hie : i = ts.length := by have := HIK.out; omega
        subst hie
        have hbt : ∀ t ∈ ts, bndT (tss ps) t (tss ps).length ≤ 12 := fun t ht => by
          obtain ⟨j, hj, rfl⟩ := List.getElem_of_mem ht
          have h := HALL.out j hj
          rw [List.getD_eq_getElem?_getD, List.getElem?_eq_getElem hj] at h
          rw [tss_len, hpl]
          exact h
        have hBB := bndB_iff.2 hbt
        have HBT := Lib.hid hbt
        clear hbt
        have hS1 := hS.below hb
        have HB1 := Lib.hid hBB
        clear hBB hS hbV
        go_wp2
        clear hbr u0 hb HALL
        have HHP := Lib.hid (And.intro hp hp')
        go_loopg [10] ts.length (fun g v10 w' => ∃ (i : Nat) (B : Option Addr) (cb : Nat), i + g = ts.length ∧ v10 = .int .i64 i ∧ AccK kT W0 ob rb p D 121 w' B cb (subL p (tss ps) (ts.take i)))
        case atStart => exact ⟨0, B0, k0, by omega, rfl, by rw [List.take_zero]; exact hS1⟩
        case round =>
          clear hS1
          obtain ⟨i, B, cb, hik, rfl, hS⟩ := hrel
          have HIK := Lib.hid hik
          clear hik
          have o0 := hS.o0
          have o1 := hS.o1
          have o2 := hS.o2
          by_cases hlt : i < ts.length
          · obtain ⟨bt, ot, hA, q0, q1, q2, q3⟩ := kT_at hC0 i hlt z4
            subst hA
            have hi0 : (0 : Int) ≤ i := by omega
            have hi1 : (i : Int) < ts.length := by omega
            have hin : ((i : Int)).toNat = i := by omega
            have hbt := HBT.out _ (getD_mem4 hlt)
            have hsl := subL_lenT hp HCAN.out HBT.out i
            have hst := subL_step p (tss ps) hlt
            have hcs := subL_canon hp (tss ps) (ts.take i)
            have hv := HTS.out.2 _ (getD_mem4 hlt)
            generalize ts.getD i z4 = t at *
            generalize subL p (tss ps) (ts.take i) = acc at *
            have HST := Lib.hid hst
            have HCS := Lib.hid hcs
            have HBO := Lib.hid hbt
            clear hst hcs hbt
            have ce : ∀ k, k < 3 → W0.cell? ⟨bt, ot + i * 4 + k, none⟩ = some (.int .u8 ((t.e.at k).toNat : Int)) := by
              intro k hk
              rcases lt3 hk with rfl | rfl | rfl
              · exact q0
              · exact q1
              · exact q2
            have u0 := pw_cell_below hS.bel s0
            have u3 := pw_cell_below hS.bel q3
            have hO : ∀ W, Calls Try.prog 98 #[.int .i64 p, .int .i64 D, .agg #[.int .u8 0, .int .u8 0, .int .u8 0], .int .i64 t.v] W (MakesP p D 121 (putT p [] z3 t.v) W) := fun W => l01One_c p D z3 t.v W hp hp' (by omega) (by omega)
            have zob := hS.lo
            have zxb := World.block_lt_of_cell? _ _ u0
            have zbt := World.block_lt_of_cell? _ _ u3
            simp only [] at zxb zbt
            generalize wr = V at *
            clear q0 q1 q2 q3
            have e0 : oneTerm p (tss ps) t 0 = putT p [] z3 t.v := rfl
            rw [← e0] at hO
            clear e0
            go_upto_region 15 with fail
            go_cut [11] from 64 to 75 (fun v11 wx => ∃ (nb : Nat) (B' : Option Addr) (c' : Nat), v11 = .pointer (some ⟨nb, 0, none⟩) ∧ Below V.heap.size V wx ∧ Box3 wx V.heap.size nb p D B' c' (oneTerm p (tss ps) t 0))
            case first =>
              go_region_held3 (fun w' => w'.cell? ⟨ob, 0, none⟩ = some (.int .i64 p) ∧ w'.cell? ⟨ob, 1, none⟩ = some (.int .i64 D) ∧ w'.cell? ⟨w.heap.size, 2, none⟩ = some (.slice (some ⟨bt, ot, none⟩) ts.length c) ∧ w'.cell? ⟨bt, ot + i * 4 + 3, none⟩ = some (.int .i64 t.v)) ((refine ⟨?_, ?_, ?_, ?_⟩ <;> ((repeat (refine cell_far2 ?_ (by dsimp only; omega))); (first | assumption | (exact cell_alloc (by assumption) _))))) (first | (go_at_call 98; (with_reducible refine call_makesP (hO _) ?_); intro x B' c' hb hl hR hC'; have hv2 : Below V.heap.size V x.W := (by repeat (first | (with_reducible assumption) | (with_reducible exact Below.refl _ _) | ((with_reducible refine Below.alloc ?_ ?_ _); rotate_left; (focus (first | omega | (simp; done) | (simp; omega)))) | (with_reducible refine Below.drew ?_) | ((with_reducible refine Below.setCell ?_ ?_ _); rotate_left; (focus (first | omega | (simp; done) | (simp; omega)))) | ((with_reducible refine below_hop (by assumption) ?_ ?_); rotate_left; (focus (first | omega | (simp; done) | (simp; omega)))) | ((with_reducible refine bel_later _ ?_ ?_); rotate_left; (focus (first | omega | (simp; done) | (simp; omega)))))); have zz := hb.size; (try simp at zz); have y0 := pw_cell_below hv2 o0; have y1 := pw_cell_below hv2 o1; have y2 := pw_cell_below hv2 u0; have y3 := pw_cell_below hv2 u3))
              all_goals (go_wp2_with fail; go_meet)
              all_goals refine ⟨_, B', c', rfl, ?_, ?_⟩
              all_goals first | exact hv2.alloc hv2.size _ | exact below_set3 hv2 (Nat.le_refl _) _ _ _ | exact Box3.behind (Nat.le_refl _) hb.size hR | exact Box3.setN (Box3.zero V) (below_undrew hb) (by simp) hR
            case rest =>
              obtain ⟨nb, Bn, cn, rfl, hbx, hX⟩ := hcut
              generalize wc = V1 at *
              clear hO hv u3 zxb zbt
              go_wp2
              go_loopg [12] m (fun g v12 w' => ∃ (k : Nat) (B' : Option Addr) (c' : Nat), k + g = m ∧ v12 = .int .i64 k ∧ Below V.heap.size V w' ∧ Box3 w' V.heap.size nb p D B' c' (oneTerm p (tss ps) t k))
              case atStart => exact ⟨0, Bn, cn, by omega, rfl, hbx, hX⟩
              case round =>
                clear hX hbx
                obtain ⟨k, Bn, cn, hkk, rfl, hbk, hX⟩ := hrel
                have HKK := Lib.hid hkk
                clear hkk
                have hbel := hS.bel.trans (hbk.mono hS.bel.size)
                have v0 := pw_cell_below hbk u0
                by_cases hk : k < m
                · obtain ⟨b2, o2', A2, c2, hB, p0, p1, p2, hD⟩ := kP_at hL0 k hk
                  obtain ⟨rfl, rfl⟩ : b0 = b2 ∧ oo0 = o2' := by
                    injection hB with hB
                    injection hB with h1 h2
                    exact ⟨h1, h2⟩
                  have c1 := pw_cell_below hbel (ce k (by omega))
                  have hk0 : (0 : Int) ≤ k := by omega
                  have hk1 : (k : Int) < m := by omega
                  have hk3 : (k : Int) < 3 := by omega
                  have hkn : ((k : Int)).toNat = k := by omega
                  have ey := tss_get ps k
                  have hkl : k < (tss ps).length := by rw [tss_len, hpl]; exact hk
                  rw [(HPD.out k hk).1] at p0
                  rw [(HPD.out k hk).2] at p1
                  have hT : ∀ n, n < (t.e.at k).toNat → ∀ (W : World) B' c', kT.C W B' (timL p (oneTerm p (tss ps) t k) (ps.getD k zP).ts n).length (timL p (oneTerm p (tss ps) t k) (ps.getD k zP).ts n) → kT.C W A2 (ps.getD k zP).ts.length (ps.getD k zP).ts →
                      Calls Try.prog 99 #[.agg #[.int .i64 p, .int .i64 D, .slice B' (timL p (oneTerm p (tss ps) t k) (ps.getD k zP).ts n).length c'], .agg #[.int .i64 p, .int .i64 D, .slice A2 (ps.getD k zP).ts.length c2]] W (MakesPB p D (timL p (oneTerm p (tss ps) t k) (ps.getD k zP).ts (n + 1)) true 121 W) := fun n hn W B' c' h1 h2 => by
                    have h3 := tim_len HHP.out.1 HCAN.out HBO.out hkl (Nat.le_of_lt hn)
                    have h4 := tim_no HHP.out.1 HCAN.out HBO.out hkl hn
                    have h5 := timL_canon HHP.out.1 (oneTerm_canon HHP.out.1 (tss ps) t k) ((tss ps).getD k []) n
                    have h6 := ys_canon HCAN.out k
                    rw [ey] at h3 h4 h5 h6
                    have h := l01Times_c p D p D B' A2 c' c2 _ _ W h1 h2 h3 (HLEN.out k hk) HHP.out.1 HHP.out.2 h5 h6
                    rw [h4] at h
                    simp only [Bool.false_eq_true, if_false, Bool.not_false] at h
                    exact h
                  have hone : oneTerm p (tss ps) t (k + 1) = timL p (oneTerm p (tss ps) t k) (ps.getD k zP).ts (t.e.at k).toNat := by rw [← ey]; rfl
                  have HT := Lib.hid hT
                  have HONE := Lib.hid hone
                  have he := (t.e.at k).toNat_lt
                  clear hT hone ey
                  generalize (t.e.at k).toNat = ek at *
                  generalize oneTerm p (tss ps) t k = a0 at *
                  generalize ps.getD k zP = y at *
                  generalize hV2 : wr = V2 at *
                  go_wp2
                  go_loopg [13] ek (fun g v13 w' => ∃ (n : Nat) (B' : Option Addr) (c' : Nat), n + g = ek ∧ v13 = .int .u8 ((ek : Int) - n) ∧ Below V.heap.size V w' ∧ Box3 w' V.heap.size nb p D B' c' (timL p a0 y.ts n))
                  case atStart => exact ⟨0, Bn, cn, by omega, by simp, hbk, hX⟩
                  case round =>
                    clear hX hbk v0 c1 hbel hV2
                    obtain ⟨n, Bn, cn, hnk, rfl, hbk, hX⟩ := hrel
                    have HNK := Lib.hid hnk
                    clear hnk
                    have hbel := hS.bel.trans (hbk.mono hS.bel.size)
                    by_cases hlt2 : n < ek
                    · have p0 := pw_cell_below hbel p0
                      have p1 := pw_cell_below hbel p1
                      have p2 := pw_cell_below hbel p2
                      have hD := Kd.C_below hD hbel
                      have x0 := hX.o0
                      have x1 := hX.o1
                      have x2 := hX.o2
                      have x3 := hX.o3
                      have zlo := hX.lo
                      have hX0 := hX.hnb
                      have hn0 : (0 : Int) < (ek : Int) - n := by omega
                      have hwr : IntKind.u8.wrap ((ek : Int) - n - 1) = (ek : Int) - n - 1 := by
                        simp [IntKind.wrap, IntKind.bits, IntKind.signed]
                        omega
                      have hTT := fun W h1 h2 => HT.out n hlt2 W Bn cn h1 h2
                      have hRD := (Kd.R_reads' hX.R).2.2
                      have hbz := hbk.size
                      generalize ht1 : timL p a0 y.ts (n + 1) = t1 at *
                      have HT1 := Lib.hid ht1
                      clear ht1
                      generalize timL p a0 y.ts n = t0 at *
                      generalize hV3 : wr = V3 at *
                      have HX := Lib.hid hX
                      clear hX
                      go_wp2
                      go_region_with (go_at_call 99; (with_reducible refine to_makesPB (V := V3.drew) (Below.refl _ _) (hTT _ (Kd.C_below hRD ((Below.refl _ _).drew)) (Kd.C_below hD ((Below.refl _ _).drew))) ?_); intro wy B8 c8 hvd hv' hl8 hR8; have hv := below_undrew hvd; have y0 := pw_cell_below hv x0; have y1 := pw_cell_below hv x1; have y2 := pw_cell_below hv x2; have yf := fun j => (hv.frozen (p := ⟨nb, j, none⟩) zlo).trans (x3 j))
                      all_goals
                        go_wp2
                        go_roundg (gk - 1)
                        case measure => have := HNK.out; omega
                        case rel => exact ⟨n + 1, B8, c8, by have := HNK.out; omega, by go_num, below_set3 (hbk.trans (Below.mono hv hbz)) hX0 _ _ _, by rw [HT1.out]; exact HX.out.setN hv hbz hR8⟩
                    · have hne : ek = n := by have := HNK.out; omega
                      subst hne
                      go_wp2
                      go_roundg (m - k - 1)
                      case measure => have := HKK.out; omega
                      case rel => exact ⟨k + 1, Bn, cn, by have := HKK.out; omega, by go_num, hbk, by rw [HONE.out]; exact hX⟩
                · have hke : m = k := by have := HKK.out; omega
                  subst hke
                  have hS2 := hS.below hbk
                  have z0 := hS2.o0
                  have z1 := hS2.o1
                  have z2 := hS2.o2
                  have x0 := hX.o0
                  have x1 := hX.o1
                  have x2 := hX.o2
                  have htl : (tss ps).length = m := by rw [tss_len, hpl]
                  have h7 := one_len HHP.out.1 HCAN.out HBO.out (Nat.le_of_eq htl.symm)
                  have h8 := oneTerm_canon HHP.out.1 (tss ps) t m
                  have hPl := fun W h1 h2 => l01Plus_c p D p D 1 B Bn cb cn acc (oneTerm p (tss ps) t m) W h1 h2 (by omega) (by omega) HHP.out.1 HHP.out.2 (fun u hu => by have := h8.2 u hu; omega) HCS.out
                  have hst2 := HST.out
                  rw [htl] at hst2
                  have HST2 := Lib.hid hst2
                  have HS2 := Lib.hid hS2
                  have hRX := (Kd.R_reads' hX.R).2.2
                  have hRA := (Kd.R_reads' hS2.R).2.2
                  clear h7 h8 hst2 htl hS hX hS2
                  generalize oneTerm p (tss ps) t m = one at *
                  generalize putsT p acc (pairsT 1 one) = acc1 at *
                  generalize wr = V3 at *
                  go_wp2_with (go_at_call 100; (with_reducible refine to_makesP (V := V3) (Below.refl _ _) (hPl _ hRA hRX) ?_); intro w8 B8 c8 hb8 hb8' hl8 hR8; have y0 := (HS2.out.below hb8).o0; have y1 := (HS2.out.below hb8).o1; have y2 := (HS2.out.below hb8).o2; have y3 := (HS2.out.below hb8).o3; have HT := Lib.hid (HS2.out.set hb8 hR8))
                  go_roundg (ts.length - i - 1)
                  case measure => have := HIK.out; omega
                  case rel => exact ⟨i + 1, B8, c8, by have := HIK.out; omega, by go_num, by rw [HST2.out]; exact HT.out⟩
          · have hie : ts.length = i := by have := HIK.out; omega
            subst hie
            rw [List.take_length] at hS
            have u0 := pw_cell_below hS.bel s0
            have x0 := hS.r0
            have x1 := hS.r1
            have x2 := hS.r2
            have x3 := hS.r3
            go_wp2
            rw [HRES.out, HBB.out, HB1.out, if_pos rfl]
            generalize subL p (tss ps) ts = xs at *
            refine bodyPost_ret (v := .tuple #[.agg #[.int .i64 p, .int .i64 D, .slice B xs.length cb], .bool true]) (by simp [results, Try.results57, go_sem, x0, x1, x2]) rfl ⟨B, cb, rfl, ?_, ?_⟩
            · exact R_set3 hS.R (fun k hk => hk.2) (by omega) _ _ _
            · exact below_set3 (hbw0.trans (hS.bel.mono (by omega))) (by omega) _ _ _
end Go.Proofs.Ytneknpamceipiaa
