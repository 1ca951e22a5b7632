/- The program's boundOf; no condition. -/
import Derived.Test.YtneknpamceipiaaYSub2
import Derived.Test.YtneknpamceipiaaYKitA
import Derived.Deep.RegionHeld3
import Derived.Deep.CutRange
set_option linter.unusedVariables false
set_option linter.unusedSimpArgs false
namespace Go.Proofs.Ytneknpamceipiaa
open Go.RowKit Go.Proofs.YtneknpamceipiaaW.PrintWords
attribute [local go_sem] Later.cell Later.frozen Later.lt Later.lt_add Later.le Later.le_add Later.ne Later.ne' add_at
attribute [local go_sem] later_drew2 later_drewf2
theorem poly_oneP (W : World) (p n : Int) (v : Value) (hv : v.cells.toList = [v] ∧ v.oneCell' = true) (E : TypeId) : ∃ V : World, (W.alloc (.cells #[.int .i64 p, .int .i64 n, v] E)) = V ∧ Below W.heap.size W V ∧
    V.cell? ⟨W.heap.size, 0, none⟩ = some (.int .i64 p) ∧ V.cell? ⟨W.heap.size, 1, none⟩ = some (.int .i64 n) ∧ V.cell? ⟨W.heap.size, 2, none⟩ = some v := by
  refine ⟨_, rfl, (Below.refl _ W).alloc (Nat.le_refl _) _, ?_, ?_, ?_⟩
  all_goals first | (simp; done) | (simp [go_sem]; done) | go_simp
theorem bndT_big (ys : List (List T4)) (t : T4) : ∀ k : Nat, bndT ys t k ≤ 200000 * k
  | 0 => by show (0 : Int) ≤ _; omega
  | k + 1 => by
    have h1 := bndT_big ys t k
    obtain ⟨d0, d1⟩ := degP_bd (ys.getD k [])
    have he := (t.e.at k).toNat_lt
    have h2 : ((t.e.at k).toNat : Int) * max (degP (ys.getD k [])) 0 ≤ 255 * 767 := Int.mul_le_mul (by omega) (by omega) (by omega) (by omega)
    show bndT ys t k + _ ≤ _
    omega
set_option maxRecDepth 100000 in
set_option maxHeartbeats 4000000 in
theorem boundOf_c (p d : Int) (A : Option Addr) (c : Nat) (ts : List T4) (L : Option Addr) (cl : Nat) (ps : List PV) (m : Nat) (hpl : ps.length = m) (w : World) (hC : kT.C w A ts.length ts) (hL : kP.C w L m ps) (hn : ts.length ≤ 1183) (hm3 : m ≤ 3) (hlen : ∀ i, i < m → (ps.getD i zP).ts.length ≤ 1183) :
    Calls Try.prog 62 #[.agg #[.int .i64 p, .int .i64 d, .slice A ts.length c], .slice L m cl] w (Gives (.int .i64 (mostT (tss ps) ts)) w) := by
  have hC0 := Kd.C_alloc hC (.cells #[.int .i64 p, .int .i64 d, .slice A ts.length c] 45)
  have hL0 := Kd.C_alloc hL (.cells #[.int .i64 p, .int .i64 d, .slice A ts.length c] 45)
  have s0 : (w.alloc (.cells #[.int .i64 p, .int .i64 d, .slice A ts.length c] 45)).cell? ⟨w.heap.size, 2, none⟩ = some (.slice A ts.length c) := (by first | (simp; done) | (simp [go_sem]; done) | go_simp)
  have hbw0 : Below w.heap.size w (w.alloc (.cells #[.int .i64 p, .int .i64 d, .slice A ts.length c] 45)) := below_alloc2 _ _
  have HLEN := Lib.hid hlen
  clear hlen
  go_enter Try.func62, Try.ntmps62
  go_wp2
  generalize hW0 : (w.alloc (.cells #[.int .i64 p, .int .i64 d, .slice A ts.length c] 45)) = W0 at *
  go_loopg [14, 5] ts.length (fun g v14 v5 w' => ∃ (i : Nat), i + g = ts.length ∧ v14 = .int .i64 i ∧ v5 = .int .i64 (mostT (tss ps) (ts.take i)) ∧ Below W0.heap.size W0 w')
  case atStart => exact ⟨0, by omega, rfl, rfl, Below.refl _ _⟩
  case round =>
    obtain ⟨i, hik, rfl, rfl, hb⟩ := hrel
    have HIK := Lib.hid hik
    clear hik
    by_cases hlt : i < ts.length
    · obtain ⟨bt, ot, hA, q0, q1, q2, q3⟩ := kT_at hC0 i hlt z4
      subst hA
      have q0 := pw_cell_below hb q0
      have q1 := pw_cell_below hb q1
      have q2 := pw_cell_below hb q2
      have q3 := pw_cell_below hb q3
      have hi0 : (0 : Int) ≤ i := by omega
      have hi1 : (i : Int) < ts.length := by omega
      have hin : ((i : Int)).toNat = i := by omega
      have hst : mostT (tss ps) (ts.take (i + 1)) = max (mostT (tss ps) (ts.take i)) (bndT (tss ps) (ts.getD i z4) (tss ps).length) := by rw [take_getD hlt, mostT_snoc]
      rw [tss_len, hpl] at hst
      generalize ts.getD i z4 = t at *
      generalize mostT (tss ps) (ts.take i) = mo at *
      have HST := Lib.hid hst
      clear hst
      obtain ⟨V2, hV2, hb9, n0, n1, n2, n3⟩ := four_one wr t 121
      have ce : ∀ k, k < 3 → V2.cell? ⟨wr.heap.size, k, none⟩ = some (.int .u8 ((t.e.at k).toNat : Int)) := by
        intro k hk
        rcases lt3 hk with rfl | rfl | rfl
        · exact n0
        · exact n1
        · exact n2
      have hb2 := hb.trans (hb9.mono hb.size)
      go_wp2
      clear hV2 q0 q1 q2 q3 n0 n1 n2 n3
      generalize wr.heap.size = tb at *
      go_loopg [20, 8] m (fun g v20 v8 w' => ∃ (k : Nat), k + g = m ∧ v20 = .int .i64 k ∧ v8 = .int .i64 (bndT (tss ps) t k) ∧ Below V2.heap.size V2 w')
      case atStart => exact ⟨0, by omega, rfl, rfl, Below.refl _ _⟩
      case round =>
        obtain ⟨k, hkk, rfl, rfl, hb3⟩ := hrel
        have HKK := Lib.hid hkk
        clear hkk
        have hbr := hb2.trans (hb3.mono hb2.size)
        by_cases hk : k < m
        · obtain ⟨b2, o2, A2, c2, hB, p0, p1, p2, hD⟩ := kP_at hL0 k hk
          subst hB
          have p0 := pw_cell_below hbr p0
          have p1 := pw_cell_below hbr p1
          have p2 := pw_cell_below hbr p2
          have hD := Kd.C_below hD hbr
          have c1 := pw_cell_below hb3 (ce k (by omega))
          have hk0 : (0 : Int) ≤ k := by omega
          have hk1 : (k : Int) < m := by omega
          have hk3 : (k : Int) < 3 := by omega
          have hkn : ((k : Int)).toNat = k := by omega
          have hst : bndT (tss ps) t (k + 1) = bndT (tss ps) t k + ((t.e.at k).toNat : Int) * max (degP (ps.getD k zP).ts) 0 := by rw [← tss_get]; rfl
          have hl3 := HLEN.out k hk
          have hdc := fun W hE => degreeP_c (ps.getD k zP).p (ps.getD k zP).d A2 c2 (ps.getD k zP).ts W hE (by omega)
          obtain ⟨d0, d1⟩ := degP_bd (ps.getD k zP).ts
          have he := (t.e.at k).toNat_lt
          have hn0 := bndT_nonneg (tss ps) t k
          have hn1 := bndT_big (tss ps) t k
          generalize degP (ps.getD k zP).ts = dg at *
          generalize (t.e.at k).toNat = ek at *
          generalize bndT (tss ps) t k = bd at *
          have hm0 : 0 ≤ (ek : Int) * max dg 0 := Int.mul_nonneg (by omega) (by omega)
          have hm1 : (ek : Int) * max dg 0 ≤ 255 * 767 := Int.mul_le_mul (by omega) (by omega) (by omega) (by omega)
          have hw1 : IntKind.i64.wrap ((ek : Int) * max dg 0) = (ek : Int) * max dg 0 := i64_small (by omega) (by omega)
          have hw2 : IntKind.i64.wrap (bd + (ek : Int) * max dg 0) = bd + (ek : Int) * max dg 0 := i64_small (by omega) (by omega)
          have HST2 := Lib.hid hst
          have HW := Lib.hid (And.intro (show IntKind.i64.wrap (ek : Int) = ek from i64_small (by omega) (by omega)) (And.intro hw1 hw2))
          clear hst hw1 hw2 hm0 hm1 hn0 hn1
          generalize ps.getD k zP = y at *
          obtain ⟨V4, hV4, hb4, y0, y1, y2⟩ := poly_oneP wr y.p y.d (.slice A2 y.ts.length c2) ⟨rfl, rfl⟩ 45
          have c1 := pw_cell_below hb4 c1
          have hD := Kd.C_below hD hb4
          have hb34 := hb3.trans (hb4.mono hb3.size)
          go_wp2
          clear hV4 p0 p1 p2
          generalize wr.heap.size = yb at *
          go_region_held3 (fun w' => w'.cell? ⟨tb, k, none⟩ = some (.int .u8 ek) ∧ w'.cell? ⟨yb, 0, none⟩ = some (.int .i64 y.p) ∧ w'.cell? ⟨yb, 1, none⟩ = some (.int .i64 y.d) ∧ w'.cell? ⟨yb, 2, none⟩ = some (.slice A2 y.ts.length c2)) ((refine ⟨?_, ?_, ?_, ?_⟩ <;> ((repeat (refine cell_far2 ?_ (by dsimp only; omega))); (first | assumption | (exact cell_alloc (by assumption) _))))) (first | (go_at_call 105; (with_reducible refine to_gives (V := V4) ?hww (hdc _ ?hcc) ?_); (case hww => exact (by repeat (first | (with_reducible assumption) | (with_reducible exact Below.refl _ _) | ((with_reducible refine Below.alloc ?_ ?_ _); rotate_left; (focus (first | omega | (simp; done) | (simp; omega)))) | (with_reducible refine Below.drew ?_) | ((with_reducible refine Below.setCell ?_ ?_ _); rotate_left; (focus (first | omega | (simp; done) | (simp; omega)))) | ((with_reducible refine below_hop (by assumption) ?_ ?_); rotate_left; (focus (first | omega | (simp; done) | (simp; omega)))) | ((with_reducible refine bel_later _ ?_ ?_); rotate_left; (focus (first | omega | (simp; done) | (simp; omega))))))); (case hcc => exact Kd.C_below hD (by repeat (first | (with_reducible assumption) | (with_reducible exact Below.refl _ _) | ((with_reducible refine Below.alloc ?_ ?_ _); rotate_left; (focus (first | omega | (simp; done) | (simp; omega)))) | (with_reducible refine Below.drew ?_) | ((with_reducible refine Below.setCell ?_ ?_ _); rotate_left; (focus (first | omega | (simp; done) | (simp; omega)))) | ((with_reducible refine below_hop (by assumption) ?_ ?_); rotate_left; (focus (first | omega | (simp; done) | (simp; omega)))) | ((with_reducible refine bel_later _ ?_ ?_); rotate_left; (focus (first | omega | (simp; done) | (simp; omega))))))); intro wy hv hvw; have z1 := pw_cell_below hv c1; have z2 := pw_cell_below hv y0; have z3 := pw_cell_below hv y1; have z4 := pw_cell_below hv y2))
          all_goals
            go_wp2
            go_roundg (gk - 1)
            case measure => have := HKK.out; omega
            case rel => exact ⟨k + 1, by have := HKK.out; omega, by go_num, by rw [HST2.out, HW.out.1, HW.out.2.1, HW.out.2.2], hb34.trans (hv.mono hb34.size)⟩
        · have hke : m = k := by have := HKK.out; omega
          subst hke
          generalize bndT (tss ps) t m = bd at *
          go_wp2
          go_roundg (ts.length - i - 1)
          case measure => have := HIK.out; omega
          case rel => exact ⟨i + 1, by have := HIK.out; omega, by go_num, by rw [HST.out], hbr⟩
    · have hie : ts.length = i := by have := HIK.out; omega
      subst hie
      rw [List.take_length]
      generalize mostT (tss ps) ts = mo at *
      go_wp2
      refine bodyPost_ret (v := .int .i64 mo) (by simp [results, Try.results62, go_sem]) rfl (.mk rfl (hbw0.trans (hb.mono hbw0.size)))
end Go.Proofs.Ytneknpamceipiaa
