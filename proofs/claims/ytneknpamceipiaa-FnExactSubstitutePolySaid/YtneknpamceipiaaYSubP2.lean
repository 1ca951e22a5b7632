/- SubstitutePoly of the program; no condition. -/
import Derived.Test.YtneknpamceipiaaYSubP
import Derived.Test.YtneknpamceipiaaYSub3
import Derived.Test.YtneknpamceipiaaYKitW
import Derived.Test.YtneknpamceipiaaYLawKit2
import Derived.Deep.RegionHeld3
import Derived.Test.YtneknpamceipiaaYWLast
set_option linter.unusedVariables false
set_option linter.unusedSimpArgs false
namespace Go.Proofs.Ytneknpamceipiaa
open Go.RowKit Go.Proofs.YtneknpamceipiaaW.PrintWords
attribute [local go_sem] Later.cell Later.frozen Later.lt Later.lt_add Later.le Later.le_add Later.ne Later.ne' add_at
open Go.Proofs.YtneknpamceipiaaW.PrintLast
attribute [local go_sem] later_drew2 later_drewf2
theorem below_undrewP {w W : World} (h : Below w.drew.heap.size w.drew W) : Below w.heap.size w W := ⟨h.os, h.tape, h.output, h.size, h.block⟩
theorem sub_vars {p d : Int} {ts : List T4} (h : polyB p d ts = true) : 1 ≤ d ∧ d ≤ 3 := by
  unfold polyB inB at h
  simp only [Bool.and_eq_true, decide_eq_true_eq] at h
  exact h.1.2
theorem sameB_yes {p : Int} {ps : List PV} {m : Nat} (hl : ps.length = m) (h : ∀ i, i < m → (ps.getD i zP).p = p ∧ (ps.getD i zP).d = (ps.getD 0 zP).d) : sameB p ps = true := by
  rw [sameB, List.all_eq_true]
  intro x hx
  obtain ⟨i, hi, rfl⟩ := List.getElem_of_mem hx
  have := h i (by omega)
  rw [List.getD_eq_getElem?_getD, List.getElem?_eq_getElem hi] at this
  simp only [Option.getD_some] at this
  rw [this.1, this.2]
  simp
theorem sameB_no {p : Int} {ps : List PV} {i : Nat} (hi : i < ps.length) (h : ¬ ((ps.getD i zP).p = p ∧ (ps.getD i zP).d = (ps.getD 0 zP).d)) : sameB p ps = false := by
  rw [← Bool.not_eq_true, sameB, List.all_eq_true]
  intro hc
  have := hc _ (List.getElem_mem hi)
  rw [List.getD_eq_getElem?_getD, List.getElem?_eq_getElem hi] at h
  simp only [Option.getD_some] at h
  simp only [Bool.and_eq_true, beq_iff_eq] at this
  exact h this
theorem sameB_all {p : Int} {ps : List PV} {i : Nat} (hi : i < ps.length) (h : sameB p ps = true) : (ps.getD i zP).p = p ∧ (ps.getD i zP).d = (ps.getD 0 zP).d := by
  by_cases hc : (ps.getD i zP).p = p ∧ (ps.getD i zP).d = (ps.getD 0 zP).d
  · exact hc
  · rw [sameB_no hi hc] at h
    cases h
theorem polys_len {ps : List PV} {i : Nat} (hi : i < ps.length) (h : polysB ps = true) : (ps.getD i zP).ts.length ≤ 1183 := by
  rw [polysB, List.all_eq_true] at h
  have e : ps.getD i zP = ps[i] := by simp [List.getD_eq_getElem?_getD, hi]
  rw [e]
  exact polyB_len (h _ (List.getElem_mem hi))
set_option maxRecDepth 100000 in
set_option maxHeartbeats 4000000 in
theorem implSubstitutePoly_c (p d : Int) (A : Option Addr) (c : Nat) (ts : List T4) (L : Option Addr) (cl : Nat) (ps : List PV) (m : Nat) (hpl : ps.length = m) (w : World) (hC : kT.C w A ts.length ts) (hL : kP.C w L m ps) (hN : ts.length ≤ 9223372036854775807) (hM : m ≤ 9223372036854775807) (hls : ∀ x ∈ ps, x.ts.length ≤ 9223372036854775807) :
    Calls Try.prog 25 #[.agg #[.int .i64 p, .int .i64 d, .slice A ts.length c], .slice L m cl] w (MakesPC (substR p d ts ps) 121 w) := by
  have hbW : Below w.heap.size w ((w.alloc (.cells #[.int .i64 p, .int .i64 d, .slice A ts.length c] 45)).alloc (.cells #[.int .i64 0, .int .i64 0, .slice none 0 0] 45)) := (by repeat (first | (with_reducible assumption) | (with_reducible exact Below.refl _ _) | ((with_reducible refine Below.alloc ?_ ?_ _); rotate_left; (focus (first | omega | (simp; done) | (simp; omega)))) | (with_reducible refine Below.drew ?_) | ((with_reducible refine Below.setCell ?_ ?_ _); rotate_left; (focus (first | omega | (simp; done) | (simp; omega)))) | ((with_reducible refine below_hop (by assumption) ?_ ?_); rotate_left; (focus (first | omega | (simp; done) | (simp; omega)))) | ((with_reducible refine bel_later _ ?_ ?_); rotate_left; (focus (first | omega | (simp; done) | (simp; omega))))))
  have hC2 := Kd.C_below hC hbW
  have hI := fun W h => IsPoly_c p d A c ts W h hN
  have hA : ∀ W, kP.C W L m ps → Calls Try.prog 60 #[.slice L m cl] W (Gives (.bool (polysB ps)) W) := fun W h => by
    subst hpl
    exact arePolys_c L cl ps W h hM hls
  cases hb : polyB p d ts with
  | false =>
    rw [substR_1 (by rw [hb]; rfl)]
    rw [hb] at hI
    clear hb hA
    go_enter Try.func25, Try.ntmps25
    go_wp2_with ((go_at_call 59; (first | (with_reducible refine call_later2 (hI _ hC2) ?_) | (with_reducible refine call_later (hI _ hC2) ?_)); intro x1))
    have zz : w.heap.size + 1 < x1.W.heap.size := by have := x1.ok.size; simp at this; omega
    refine bodyPost_ret (v := .tuple #[.agg #[.int .i64 0, .int .i64 0, .slice none 0 0], .int .i64 1]) (by simp [results, Try.results25, go_sem]) rfl ?_
    exact MakesPC_nil _ _ _ _ (by repeat (first | (with_reducible assumption) | (with_reducible exact Below.refl _ _) | ((with_reducible refine Below.alloc ?_ ?_ _); rotate_left; (focus (first | omega | (simp; done) | (simp; omega)))) | (with_reducible refine Below.drew ?_) | ((with_reducible refine Below.setCell ?_ ?_ _); rotate_left; (focus (first | omega | (simp; done) | (simp; omega)))) | ((with_reducible refine below_hop (by assumption) ?_ ?_); rotate_left; (focus (first | omega | (simp; done) | (simp; omega)))) | ((with_reducible refine bel_later _ ?_ ?_); rotate_left; (focus (first | omega | (simp; done) | (simp; omega))))))
  | true =>
    rw [hb] at hI
    cases hq : polysB ps with
    | false =>
      rw [substR_1 (by rw [hb, hq]; rfl)]
      rw [hq] at hA
      clear hb hq
      go_enter Try.func25, Try.ntmps25
      go_wp2_with (first | (go_at_call 59; (first | (with_reducible refine call_later2 (hI _ hC2) ?_) | (with_reducible refine call_later (hI _ hC2) ?_)); intro x1) | (go_at_call 60; (first | (with_reducible refine call_later2 (hA _ (Kd.C_below hL (by repeat (first | (with_reducible assumption) | (with_reducible exact Below.refl _ _) | ((with_reducible refine Below.alloc ?_ ?_ _); rotate_left; (focus (first | omega | (simp; done) | (simp; omega)))) | (with_reducible refine Below.drew ?_) | ((with_reducible refine Below.setCell ?_ ?_ _); rotate_left; (focus (first | omega | (simp; done) | (simp; omega)))) | ((with_reducible refine below_hop (by assumption) ?_ ?_); rotate_left; (focus (first | omega | (simp; done) | (simp; omega)))) | ((with_reducible refine bel_later _ ?_ ?_); rotate_left; (focus (first | omega | (simp; done) | (simp; omega)))))))) ?_) | (with_reducible refine call_later (hA _ (Kd.C_below hL (by repeat (first | (with_reducible assumption) | (with_reducible exact Below.refl _ _) | ((with_reducible refine Below.alloc ?_ ?_ _); rotate_left; (focus (first | omega | (simp; done) | (simp; omega)))) | (with_reducible refine Below.drew ?_) | ((with_reducible refine Below.setCell ?_ ?_ _); rotate_left; (focus (first | omega | (simp; done) | (simp; omega)))) | ((with_reducible refine below_hop (by assumption) ?_ ?_); rotate_left; (focus (first | omega | (simp; done) | (simp; omega)))) | ((with_reducible refine bel_later _ ?_ ?_); rotate_left; (focus (first | omega | (simp; done) | (simp; omega)))))))) ?_)); intro x2))
      have zz : w.heap.size + 1 < x2.W.heap.size := by have := x2.ok.size; simp at this; omega
      refine bodyPost_ret (v := .tuple #[.agg #[.int .i64 0, .int .i64 0, .slice none 0 0], .int .i64 1]) (by simp [results, Try.results25, go_sem]) rfl ?_
      exact MakesPC_nil _ _ _ _ (by repeat (first | (with_reducible assumption) | (with_reducible exact Below.refl _ _) | ((with_reducible refine Below.alloc ?_ ?_ _); rotate_left; (focus (first | omega | (simp; done) | (simp; omega)))) | (with_reducible refine Below.drew ?_) | ((with_reducible refine Below.setCell ?_ ?_ _); rotate_left; (focus (first | omega | (simp; done) | (simp; omega)))) | ((with_reducible refine below_hop (by assumption) ?_ ?_); rotate_left; (focus (first | omega | (simp; done) | (simp; omega)))) | ((with_reducible refine bel_later _ ?_ ?_); rotate_left; (focus (first | omega | (simp; done) | (simp; omega))))))
    | true =>
      rw [hq] at hA
      have hbq : (polyB p d ts && polysB ps) = true := by rw [hb, hq]; rfl
      by_cases hml : (m : Int) = d
      · have hv := sub_vars hb
        have hm1 : 1 ≤ m := by omega
        have hm3 : m ≤ 3 := by omega
        have hne : ((m : Int) != d) = false := by simp [hml]
        obtain ⟨res, hres⟩ : ∃ r, r = substR p d ts ps := ⟨_, rfl⟩
        rw [← hres]
        have HRES := Lib.hid (show sameB p ps = false → res = ⟨0, 0, [], 2⟩ from fun h => by rw [hres, substR_2 hbq (by rw [h]; simp)])
        have HRES3 := Lib.hid (show sameB p ps = true → bndB (tss ps) ts = false → res = ⟨0, 0, [], 3⟩ from fun h h2 => by rw [hres, substR_3 hbq ⟨by rw [hpl]; exact hml, h⟩ h2])
        have HRES0 := Lib.hid (show sameB p ps = true → bndB (tss ps) ts = true → res = ⟨p, (ps.getD 0 zP).d, subL p (tss ps) ts, 0⟩ from fun h h2 => by rw [hres, substR_0 hbq ⟨by rw [hpl]; exact hml, h⟩ h2])
        have hlen := polyB_len hb
        have HLE := Lib.hid (fun i (hi : i < m) => polys_len (i := i) (by omega) hq)
        have HCN := Lib.hid (polyB_canon hb)
        have HPP := Lib.hid (polyB_prime hb)
        have HTC := Lib.hid (fun h => tss_canon (p := p) hq h)
        have e0 : ((w.alloc (.cells #[.int .i64 p, .int .i64 d, .slice A ts.length c] 45)).alloc (.cells #[.int .i64 0, .int .i64 0, .slice none 0 0] 45)).cell? ⟨w.heap.size, 0, none⟩ = some (.int .i64 p) := (by first | (simp; done) | (simp [go_sem]; done) | go_simp)
        have e1 : ((w.alloc (.cells #[.int .i64 p, .int .i64 d, .slice A ts.length c] 45)).alloc (.cells #[.int .i64 0, .int .i64 0, .slice none 0 0] 45)).cell? ⟨w.heap.size, 1, none⟩ = some (.int .i64 d) := (by first | (simp; done) | (simp [go_sem]; done) | go_simp)
        have e2 : ((w.alloc (.cells #[.int .i64 p, .int .i64 d, .slice A ts.length c] 45)).alloc (.cells #[.int .i64 0, .int .i64 0, .slice none 0 0] 45)).cell? ⟨w.heap.size, 2, none⟩ = some (.slice A ts.length c) := (by first | (simp; done) | (simp [go_sem]; done) | go_simp)
        have r0 : ((w.alloc (.cells #[.int .i64 p, .int .i64 d, .slice A ts.length c] 45)).alloc (.cells #[.int .i64 0, .int .i64 0, .slice none 0 0] 45)).cell? ⟨w.heap.size + 1, 0, none⟩ = some (.int .i64 0) := (by first | (simp; done) | (simp [go_sem]; done) | go_simp)
        have r1 : ((w.alloc (.cells #[.int .i64 p, .int .i64 d, .slice A ts.length c] 45)).alloc (.cells #[.int .i64 0, .int .i64 0, .slice none 0 0] 45)).cell? ⟨w.heap.size + 1, 1, none⟩ = some (.int .i64 0) := (by first | (simp; done) | (simp [go_sem]; done) | go_simp)
        have r2 : ((w.alloc (.cells #[.int .i64 p, .int .i64 d, .slice A ts.length c] 45)).alloc (.cells #[.int .i64 0, .int .i64 0, .slice none 0 0] 45)).cell? ⟨w.heap.size + 1, 2, none⟩ = some (.slice none 0 0) := (by first | (simp; done) | (simp [go_sem]; done) | go_simp)
        have r3 : ∀ j, ((w.alloc (.cells #[.int .i64 p, .int .i64 d, .slice A ts.length c] 45)).alloc (.cells #[.int .i64 0, .int .i64 0, .slice none 0 0] 45)).frozen? ⟨w.heap.size + 1, j, none⟩ = false := fun j => (by first | (simp; done) | (simp [go_sem]; done) | go_simp)
        have hzz : ((w.alloc (.cells #[.int .i64 p, .int .i64 d, .slice A ts.length c] 45)).alloc (.cells #[.int .i64 0, .int .i64 0, .slice none 0 0] 45)).heap.size = w.heap.size + 1 + 1 := by simp
        have HZZ := Lib.hid hzz
        clear hb hq hbq hres hzz hml hv
        go_enter Try.func25, Try.ntmps25
        go_wp2_with (first | (go_at_call 59; (first | (with_reducible refine call_later2 (hI _ hC2) ?_) | (with_reducible refine call_later (hI _ hC2) ?_)); intro x1) | ((go_at_call 60; (first | (with_reducible refine call_later2 (hA _ (Kd.C_below hL (by repeat (first | (with_reducible assumption) | (with_reducible exact Below.refl _ _) | ((with_reducible refine Below.alloc ?_ ?_ _); rotate_left; (focus (first | omega | (simp; done) | (simp; omega)))) | (with_reducible refine Below.drew ?_) | ((with_reducible refine Below.setCell ?_ ?_ _); rotate_left; (focus (first | omega | (simp; done) | (simp; omega)))) | ((with_reducible refine below_hop (by assumption) ?_ ?_); rotate_left; (focus (first | omega | (simp; done) | (simp; omega)))) | ((with_reducible refine bel_later _ ?_ ?_); rotate_left; (focus (first | omega | (simp; done) | (simp; omega)))))))) ?_) | (with_reducible refine call_later (hA _ (Kd.C_below hL (by repeat (first | (with_reducible assumption) | (with_reducible exact Below.refl _ _) | ((with_reducible refine Below.alloc ?_ ?_ _); rotate_left; (focus (first | omega | (simp; done) | (simp; omega)))) | (with_reducible refine Below.drew ?_) | ((with_reducible refine Below.setCell ?_ ?_ _); rotate_left; (focus (first | omega | (simp; done) | (simp; omega)))) | ((with_reducible refine below_hop (by assumption) ?_ ?_); rotate_left; (focus (first | omega | (simp; done) | (simp; omega)))) | ((with_reducible refine bel_later _ ?_ ?_); rotate_left; (focus (first | omega | (simp; done) | (simp; omega)))))))) ?_)); intro x2); have hb2 : Below ((w.alloc (.cells #[.int .i64 p, .int .i64 d, .slice A ts.length c] 45)).alloc (.cells #[.int .i64 0, .int .i64 0, .slice none 0 0] 45)).heap.size ((w.alloc (.cells #[.int .i64 p, .int .i64 d, .slice A ts.length c] 45)).alloc (.cells #[.int .i64 0, .int .i64 0, .slice none 0 0] 45)) x2.W := x2.ok; have k0 := pw_cell_below hb2 e0; have k1 := pw_cell_below hb2 e1; have k2 := pw_cell_below hb2 e2))
        have q0 := pw_cell_below hb2 r0
        have q1 := pw_cell_below hb2 r1
        have q2 := pw_cell_below hb2 r2
        have q3 := fun j => (hb2.frozen (p := ⟨w.heap.size + 1, j, none⟩) (by have := HZZ.out; show w.heap.size + 1 < _; omega)).trans (r3 j)
        have hbw := hbW.trans (hb2.mono (by have := HZZ.out; omega))
        have hLV := Kd.C_below hL hbw
        have hCV := Kd.C_below hC hbw
        obtain ⟨b0, oo0, A0, c0, hA0, l0, l1, l2, hD0⟩ := kP_at hLV 0 (by omega)
        simp only [Nat.zero_mul, Nat.add_zero] at l0 l1 l2
        subst hA0
        clear hb2 r0 r1 r2 r3 e0 e1 e2 hC2 hI hA
        generalize x2.W = V at *
        generalize hrb : w.heap.size + 1 = rb at *
        have zrb := World.block_lt_of_cell? _ _ q0
        simp only [] at zrb
        go_loopg [25] m (fun g v25 w' => ∃ (i : Nat), i + g = m ∧ v25 = .int .i64 i ∧ Below V.heap.size V w' ∧ ∀ j, j < i → (ps.getD j zP).p = p ∧ (ps.getD j zP).d = (ps.getD 0 zP).d)
        case atStart => exact ⟨0, by omega, rfl, Below.refl _ _, fun j hj => by omega⟩
        case round =>
          obtain ⟨i, hik, rfl, hb, hall⟩ := hrel
          have HIK := Lib.hid hik
          have HALL := Lib.hid hall
          clear hik hall
          have u0 := pw_cell_below hb k0
          have u1 := pw_cell_below hb k1
          have u2 := pw_cell_below hb k2
          have l0 := pw_cell_below hb l0
          have l1 := pw_cell_below hb l1
          have l2 := pw_cell_below hb l2
          have x0 := pw_cell_below hb q0
          have x1 := pw_cell_below hb q1
          have x2 := pw_cell_below hb q2
          have x3 := fun j => (hb.frozen (p := ⟨rb, j, none⟩) zrb).trans (q3 j)
          have zr := World.block_lt_of_cell? _ _ x0
          simp only [] at zr
          by_cases hi : i < m
          · obtain ⟨b2, o2', A2, c2, hB, p0, p1, p2, hD⟩ := kP_at hLV i hi
            obtain ⟨rfl, rfl⟩ : b0 = b2 ∧ oo0 = o2' := by
              injection hB with hB
              injection hB with h1 h2
              exact ⟨h1, h2⟩
            have p0 := pw_cell_below hb p0
            have p1 := pw_cell_below hb p1
            have p2 := pw_cell_below hb p2
            have hi0 : (0 : Int) ≤ i := by omega
            have hi1 : (i : Int) < m := by omega
            have hin : ((i : Int)).toNat = i := by omega
            have hml2 : 0 < m := by omega
            have hml3 : (0 : Int) < m := by omega
            have h0 : (ps.getD i zP).p = p → (ps.getD 0 zP).p = p := fun h => by
              by_cases e : i = 0
              · rw [e] at h
                exact h
              · exact (HALL.out 0 (by omega)).1
            have HNO := Lib.hid (fun h => HRES.out (sameB_no (p := p) (ps := ps) (i := i) (by omega) h))
            have hyes : (ps.getD i zP).p = p ∧ (ps.getD i zP).d = (ps.getD 0 zP).d → ∀ j, j < i + 1 → (ps.getD j zP).p = p ∧ (ps.getD j zP).d = (ps.getD 0 zP).d := by
              intro h j hj
              by_cases e : j = i
              · rw [e]
                exact h
              · exact HALL.out j (by omega)
            have HYES := Lib.hid hyes
            clear hyes
            have hal0 := fun W => alike_s (ps.getD i zP).p (ps.getD i zP).d (ps.getD 0 zP).p (ps.getD 0 zP).d A2 A0 (ps.getD i zP).ts.length c2 (ps.getD 0 zP).ts.length c0 W
            generalize hy : ps.getD i zP = y at *
            generalize hy0 : ps.getD 0 zP = y0 at *
            obtain ⟨V4, hV4, hb4, a0, a1, a2⟩ := poly_oneP wr y.p y.d (.slice A2 y.ts.length c2) ⟨rfl, rfl⟩ 45
            have u0 := pw_cell_below hb4 u0
            have l0 := pw_cell_below hb4 l0
            have l1 := pw_cell_below hb4 l1
            have l2 := pw_cell_below hb4 l2
            have x0 := pw_cell_below hb4 x0
            have x1 := pw_cell_below hb4 x1
            have x2 := pw_cell_below hb4 x2
            have x3 := fun j => (hb4.frozen (p := ⟨rb, j, none⟩) zr).trans (x3 j)
            have zr4 := World.block_lt_of_cell? _ _ x0
            simp only [] at zr4
            have hb5 := hb.trans (hb4.mono hb.size)
            clear hy hy0
            by_cases hyp : y.p = p
            · have h0p := h0 hyp
              rw [hyp, h0p] at hal0
              rw [hyp] at a0 hV4 p0
              rw [h0p] at l0
              by_cases hyd : y.d = y0.d
              · rw [hyd] at a1 hV4 p1
                have hY := Lib.hid (HYES.out ⟨hyp, hyd⟩)
                have hal : ∀ W, Calls Try.prog 61 #[.agg #[.int .i64 p, .int .i64 y0.d, .slice A2 y.ts.length c2], .agg #[.int .i64 p, .int .i64 y0.d, .slice A0 y0.ts.length c0]] W (Gives (.bool true) W) := fun W => by
                  have h := hal0 W
                  rw [hyd] at h
                  simpa using h
                have hnp : (p != p) = false := by simp
                clear hal0 hyp hyd h0 h0p
                go_wp2
                clear hV4 p0 p1 p2
                generalize wr.heap.size = yb at *
                refine start_ (n := 13) (S := fun w' => w'.cell? ⟨yb, 0, none⟩ = some (.int .i64 p) ∧ w'.cell? ⟨yb, 1, none⟩ = some (.int .i64 y0.d) ∧ w'.cell? ⟨yb, 2, none⟩ = some (.slice A2 y.ts.length c2) ∧ w'.cell? ⟨w.heap.size, 0, none⟩ = some (.int .i64 p) ∧ w'.cell? ⟨b0, oo0, none⟩ = some (.int .i64 p) ∧ w'.cell? ⟨b0, oo0 + 1, none⟩ = some (.int .i64 y0.d) ∧ w'.cell? ⟨b0, oo0 + 2, none⟩ = some (.slice A0 y0.ts.length c0)) (ds := []) #[false, false, false, false, false, false, false, false, false, false, false, false, false] (by kernel_rfl) rfl rfl ⟨a0, a1, a2, u0, l0, l1, l2⟩ (fun hHeld => ?_)
                refine pure_ (i := 0) (N := some 29) (v := ?_) (a' := ?_) #[true, false, false, false, false, false, false, false, false, false, false, false, false] rfl rfl (by kernel_rfl) (fun _ _ _ h => h) (Or.inl ⟨by rfl, ?_⟩) ?_ ?_
                rotate_left
                · intro w'
                  go_simp
                  with_reducible rfl
                rotate_left
                · simp only [Act.put, List.setIfInBounds_toArray, List.set_cons_zero, List.set_cons_succ, i64_w, i32_w]
                  rfl
                refine pure_ (i := 2) (N := some 31) (v := ?_) (a' := ?_) #[true, false, true, false, false, false, false, false, false, false, false, false, false] rfl rfl (by kernel_rfl) (fun _ _ _ h => h) (Or.inl ⟨by rfl, ?_⟩) ?_ ?_
                rotate_left
                · intro w'
                  go_simp
                  with_reducible rfl
                rotate_left
                · simp only [Act.put, List.setIfInBounds_toArray, List.set_cons_zero, List.set_cons_succ, i64_w, i32_w]
                  rfl
                refine take_ (i := 1) (N := some 30) (v := ?_) (a' := ?_) #[true, true, true, false, false, false, false, false, false, false, false, false, false] rfl rfl (by kernel_rfl) (fun _ _ _ h => h) (Or.inl ⟨by rfl, ?_⟩) hHeld ?_ ?_
                rotate_left
                · rintro w' ⟨s0, s1, s2, s3, s4, s5, s6⟩
                  go_simp
                  with_reducible rfl
                rotate_left
                · simp only [Act.put, List.setIfInBounds_toArray, List.set_cons_zero, List.set_cons_succ, i64_w, i32_w]
                  rfl
                refine take_ (i := 3) (N := some 32) (v := ?_) (a' := ?_) #[true, true, true, true, false, false, false, false, false, false, false, false, false] rfl rfl (by kernel_rfl) (fun _ _ _ h => h) (Or.inl ⟨by rfl, ?_⟩) hHeld ?_ ?_
                rotate_left
                · rintro w' ⟨s0, s1, s2, s3, s4, s5, s6⟩
                  go_simp
                  with_reducible rfl
                rotate_left
                · simp only [Act.put, List.setIfInBounds_toArray, List.set_cons_zero, List.set_cons_succ, i64_w, i32_w]
                  rfl
                refine pure_ (i := 4) (N := some 33) (v := ?_) (a' := ?_) #[true, true, true, true, true, false, false, false, false, false, false, false, false] rfl rfl (by kernel_rfl) (fun _ _ _ h => h) (Or.inl ⟨by rfl, ?_⟩) ?_ ?_
                rotate_left
                · intro w'
                  go_simp
                  with_reducible rfl
                rotate_left
                · simp only [Act.put, List.setIfInBounds_toArray, List.set_cons_zero, List.set_cons_succ, i64_w, i32_w]
                  rfl
                refine pure_ (i := 5) (N := some 34) (v := ?_) (a' := ?_) #[true, true, true, true, true, true, false, false, false, false, false, false, false] rfl rfl (by kernel_rfl) (fun _ _ _ h => h) (Or.inl ⟨by rfl, ?_⟩) ?_ ?_
                rotate_left
                · intro w'
                  go_simp
                  with_reducible rfl
                rotate_left
                · simp only [Act.put, List.setIfInBounds_toArray, List.set_cons_zero, List.set_cons_succ, i64_w, i32_w]
                  rfl
                refine pure_ (i := 7) (N := some 36) (v := ?_) (a' := ?_) #[true, true, true, true, true, true, false, true, false, false, false, false, false] rfl rfl (by kernel_rfl) (fun _ _ _ h => h) (Or.inl ⟨by rfl, ?_⟩) ?_ ?_
                rotate_left
                · intro w'
                  go_simp
                  with_reducible rfl
                rotate_left
                · simp only [Act.put, List.setIfInBounds_toArray, List.set_cons_zero, List.set_cons_succ, i64_w, i32_w]
                  rfl
                refine pure_ (i := 8) (N := some 37) (v := ?_) (a' := ?_) #[true, true, true, true, true, true, false, true, true, false, false, false, false] rfl rfl (by kernel_rfl) (fun _ _ _ h => h) (Or.inl ⟨by rfl, ?_⟩) ?_ ?_
                rotate_left
                · intro w'
                  go_simp
                  with_reducible rfl
                rotate_left
                · simp only [Act.put, List.setIfInBounds_toArray, List.set_cons_zero, List.set_cons_succ, i64_w, i32_w]
                  rfl
                refine take_ (i := 6) (N := some 35) (v := ?_) (a' := ?_) #[true, true, true, true, true, true, true, true, true, false, false, false, false] rfl rfl (by kernel_rfl) (fun _ _ _ h => h) (Or.inl ⟨by rfl, ?_⟩) hHeld ?_ ?_
                rotate_left
                · rintro w' ⟨s0, s1, s2, s3, s4, s5, s6⟩
                  go_simp
                  with_reducible rfl
                rotate_left
                · simp only [Act.put, List.setIfInBounds_toArray, List.set_cons_zero, List.set_cons_succ, i64_w, i32_w]
                  rfl
                refine take_ (i := 9) (N := some 38) (v := ?_) (a' := ?_) #[true, true, true, true, true, true, true, true, true, true, false, false, false] rfl rfl (by kernel_rfl) (fun _ _ _ h => h) (Or.inl ⟨by rfl, ?_⟩) hHeld ?_ ?_
                rotate_left
                · rintro w' ⟨s0, s1, s2, s3, s4, s5, s6⟩
                  go_simp
                  with_reducible rfl
                rotate_left
                · simp only [Act.put, List.setIfInBounds_toArray, List.set_cons_zero, List.set_cons_succ, i64_w, i32_w]
                  rfl
                refine one_ (i := 10) (N := some 39) #[true, true, true, true, true, true, true, true, true, true, true, false, false] rfl rfl (by kernel_rfl) (by decide) (fun K hK => ?_)
                refine goes_ Try.func61 (by kernel_rfl) rfl #[.agg #[.int .i64 p, .int .i64 y0.d, .slice A2 y.ts.length c2], .agg #[.int .i64 p, .int .i64 y0.d, .slice A0 y0.ts.length c0]] (by rfl) rfl rfl (by simp only [List.map_toArray, List.map_cons, List.map_nil]; rfl) ?_
                with_reducible refine (hal _).mono ?_
                rintro e' wy ⟨rfl, hvd⟩
                refine ⟨_, rfl, ?_⟩
                have hv := below_undrewP hvd
                refine hK.out _ _ ⟨pw_cell_below hv a0, pw_cell_below hv a1, pw_cell_below hv a2, pw_cell_below hv u0, pw_cell_below hv l0, pw_cell_below hv l1, pw_cell_below hv l2⟩ (fun hHeld => ?_)
                clear hK K
                refine norm_ (a' := ?_) ?_ ?_
                rotate_left
                · show Act.put _ (some 39) _ = _
                  simp only [Act.put, List.setIfInBounds_toArray, List.set_cons_zero, List.set_cons_succ, i64_w, i32_w]
                  rfl
                refine pure_ (i := 11) (N := some 40) (v := ?_) (a' := ?_) #[true, true, true, true, true, true, true, true, true, true, true, true, false] rfl rfl (by kernel_rfl) (fun _ _ _ h => h) (Or.inl ⟨by rfl, ?_⟩) ?_ ?_
                rotate_left
                · intro w'
                  go_simp
                  with_reducible rfl
                rotate_left
                · simp only [Act.put, List.setIfInBounds_toArray, List.set_cons_zero, List.set_cons_succ, i64_w, i32_w]
                  rfl
                refine pure_ (i := 12) (N := some 41) (v := ?_) (a' := ?_) #[true, true, true, true, true, true, true, true, true, true, true, true, true] rfl rfl (by kernel_rfl) (fun _ _ _ h => h) (Or.inl ⟨by rfl, ?_⟩) ?_ ?_
                rotate_left
                · intro w'
                  go_simp
                  with_reducible rfl
                rotate_left
                · simp only [Act.put, List.setIfInBounds_toArray, List.set_cons_zero, List.set_cons_succ, i64_w, i32_w]
                  rfl
                refine done_ (by kernel_rfl) ?_
                go_wp2
                go_roundg (gk - 1)
                case measure => have := HIK.out; omega
                case rel => exact ⟨i + 1, by have := HIK.out; omega, by go_num, hb5.trans (hv.mono hb5.size), hY.out⟩
              · have hN := Lib.hid (HNO.out (fun h => hyd h.2))
                have hal : ∀ W, Calls Try.prog 61 #[.agg #[.int .i64 p, .int .i64 y.d, .slice A2 y.ts.length c2], .agg #[.int .i64 p, .int .i64 y0.d, .slice A0 y0.ts.length c0]] W (Gives (.bool false) W) := fun W => by
                  have h := hal0 W
                  have e : (p == p && y.d == y0.d) = false := by simpa using hyd
                  rwa [e] at h
                have hnp : (p != p) = false := by simp
                clear hal0 hyp hyd h0 h0p
                go_wp2
                clear hV4 p0 p1 p2
                generalize wr.heap.size = yb at *
                refine start_ (n := 13) (S := fun w' => w'.cell? ⟨yb, 0, none⟩ = some (.int .i64 p) ∧ w'.cell? ⟨yb, 1, none⟩ = some (.int .i64 y.d) ∧ w'.cell? ⟨yb, 2, none⟩ = some (.slice A2 y.ts.length c2) ∧ w'.cell? ⟨w.heap.size, 0, none⟩ = some (.int .i64 p) ∧ w'.cell? ⟨b0, oo0, none⟩ = some (.int .i64 p) ∧ w'.cell? ⟨b0, oo0 + 1, none⟩ = some (.int .i64 y0.d) ∧ w'.cell? ⟨b0, oo0 + 2, none⟩ = some (.slice A0 y0.ts.length c0)) (ds := []) #[false, false, false, false, false, false, false, false, false, false, false, false, false] (by kernel_rfl) rfl rfl ⟨a0, a1, a2, u0, l0, l1, l2⟩ (fun hHeld => ?_)
                refine pure_ (i := 0) (N := some 29) (v := ?_) (a' := ?_) #[true, false, false, false, false, false, false, false, false, false, false, false, false] rfl rfl (by kernel_rfl) (fun _ _ _ h => h) (Or.inl ⟨by rfl, ?_⟩) ?_ ?_
                rotate_left
                · intro w'
                  go_simp
                  with_reducible rfl
                rotate_left
                · simp only [Act.put, List.setIfInBounds_toArray, List.set_cons_zero, List.set_cons_succ, i64_w, i32_w]
                  rfl
                refine pure_ (i := 2) (N := some 31) (v := ?_) (a' := ?_) #[true, false, true, false, false, false, false, false, false, false, false, false, false] rfl rfl (by kernel_rfl) (fun _ _ _ h => h) (Or.inl ⟨by rfl, ?_⟩) ?_ ?_
                rotate_left
                · intro w'
                  go_simp
                  with_reducible rfl
                rotate_left
                · simp only [Act.put, List.setIfInBounds_toArray, List.set_cons_zero, List.set_cons_succ, i64_w, i32_w]
                  rfl
                refine take_ (i := 1) (N := some 30) (v := ?_) (a' := ?_) #[true, true, true, false, false, false, false, false, false, false, false, false, false] rfl rfl (by kernel_rfl) (fun _ _ _ h => h) (Or.inl ⟨by rfl, ?_⟩) hHeld ?_ ?_
                rotate_left
                · rintro w' ⟨s0, s1, s2, s3, s4, s5, s6⟩
                  go_simp
                  with_reducible rfl
                rotate_left
                · simp only [Act.put, List.setIfInBounds_toArray, List.set_cons_zero, List.set_cons_succ, i64_w, i32_w]
                  rfl
                refine take_ (i := 3) (N := some 32) (v := ?_) (a' := ?_) #[true, true, true, true, false, false, false, false, false, false, false, false, false] rfl rfl (by kernel_rfl) (fun _ _ _ h => h) (Or.inl ⟨by rfl, ?_⟩) hHeld ?_ ?_
                rotate_left
                · rintro w' ⟨s0, s1, s2, s3, s4, s5, s6⟩
                  go_simp
                  with_reducible rfl
                rotate_left
                · simp only [Act.put, List.setIfInBounds_toArray, List.set_cons_zero, List.set_cons_succ, i64_w, i32_w]
                  rfl
                refine pure_ (i := 4) (N := some 33) (v := ?_) (a' := ?_) #[true, true, true, true, true, false, false, false, false, false, false, false, false] rfl rfl (by kernel_rfl) (fun _ _ _ h => h) (Or.inl ⟨by rfl, ?_⟩) ?_ ?_
                rotate_left
                · intro w'
                  go_simp
                  with_reducible rfl
                rotate_left
                · simp only [Act.put, List.setIfInBounds_toArray, List.set_cons_zero, List.set_cons_succ, i64_w, i32_w]
                  rfl
                refine pure_ (i := 5) (N := some 34) (v := ?_) (a' := ?_) #[true, true, true, true, true, true, false, false, false, false, false, false, false] rfl rfl (by kernel_rfl) (fun _ _ _ h => h) (Or.inl ⟨by rfl, ?_⟩) ?_ ?_
                rotate_left
                · intro w'
                  go_simp
                  with_reducible rfl
                rotate_left
                · simp only [Act.put, List.setIfInBounds_toArray, List.set_cons_zero, List.set_cons_succ, i64_w, i32_w]
                  rfl
                refine pure_ (i := 7) (N := some 36) (v := ?_) (a' := ?_) #[true, true, true, true, true, true, false, true, false, false, false, false, false] rfl rfl (by kernel_rfl) (fun _ _ _ h => h) (Or.inl ⟨by rfl, ?_⟩) ?_ ?_
                rotate_left
                · intro w'
                  go_simp
                  with_reducible rfl
                rotate_left
                · simp only [Act.put, List.setIfInBounds_toArray, List.set_cons_zero, List.set_cons_succ, i64_w, i32_w]
                  rfl
                refine pure_ (i := 8) (N := some 37) (v := ?_) (a' := ?_) #[true, true, true, true, true, true, false, true, true, false, false, false, false] rfl rfl (by kernel_rfl) (fun _ _ _ h => h) (Or.inl ⟨by rfl, ?_⟩) ?_ ?_
                rotate_left
                · intro w'
                  go_simp
                  with_reducible rfl
                rotate_left
                · simp only [Act.put, List.setIfInBounds_toArray, List.set_cons_zero, List.set_cons_succ, i64_w, i32_w]
                  rfl
                refine take_ (i := 6) (N := some 35) (v := ?_) (a' := ?_) #[true, true, true, true, true, true, true, true, true, false, false, false, false] rfl rfl (by kernel_rfl) (fun _ _ _ h => h) (Or.inl ⟨by rfl, ?_⟩) hHeld ?_ ?_
                rotate_left
                · rintro w' ⟨s0, s1, s2, s3, s4, s5, s6⟩
                  go_simp
                  with_reducible rfl
                rotate_left
                · simp only [Act.put, List.setIfInBounds_toArray, List.set_cons_zero, List.set_cons_succ, i64_w, i32_w]
                  rfl
                refine take_ (i := 9) (N := some 38) (v := ?_) (a' := ?_) #[true, true, true, true, true, true, true, true, true, true, false, false, false] rfl rfl (by kernel_rfl) (fun _ _ _ h => h) (Or.inl ⟨by rfl, ?_⟩) hHeld ?_ ?_
                rotate_left
                · rintro w' ⟨s0, s1, s2, s3, s4, s5, s6⟩
                  go_simp
                  with_reducible rfl
                rotate_left
                · simp only [Act.put, List.setIfInBounds_toArray, List.set_cons_zero, List.set_cons_succ, i64_w, i32_w]
                  rfl
                refine one_ (i := 10) (N := some 39) #[true, true, true, true, true, true, true, true, true, true, true, false, false] rfl rfl (by kernel_rfl) (by decide) (fun K hK => ?_)
                refine goes_ Try.func61 (by kernel_rfl) rfl #[.agg #[.int .i64 p, .int .i64 y.d, .slice A2 y.ts.length c2], .agg #[.int .i64 p, .int .i64 y0.d, .slice A0 y0.ts.length c0]] (by rfl) rfl rfl (by simp only [List.map_toArray, List.map_cons, List.map_nil]; rfl) ?_
                with_reducible refine (hal _).mono ?_
                rintro e' wy ⟨rfl, hvd⟩
                refine ⟨_, rfl, ?_⟩
                have hv := below_undrewP hvd
                refine hK.out _ _ ⟨pw_cell_below hv a0, pw_cell_below hv a1, pw_cell_below hv a2, pw_cell_below hv u0, pw_cell_below hv l0, pw_cell_below hv l1, pw_cell_below hv l2⟩ (fun hHeld => ?_)
                clear hK K
                refine norm_ (a' := ?_) ?_ ?_
                rotate_left
                · show Act.put _ (some 39) _ = _
                  simp only [Act.put, List.setIfInBounds_toArray, List.set_cons_zero, List.set_cons_succ, i64_w, i32_w]
                  rfl
                refine pure_ (i := 11) (N := some 40) (v := ?_) (a' := ?_) #[true, true, true, true, true, true, true, true, true, true, true, true, false] rfl rfl (by kernel_rfl) (fun _ _ _ h => h) (Or.inl ⟨by rfl, ?_⟩) ?_ ?_
                rotate_left
                · intro w'
                  go_simp
                  with_reducible rfl
                rotate_left
                · simp only [Act.put, List.setIfInBounds_toArray, List.set_cons_zero, List.set_cons_succ, i64_w, i32_w]
                  rfl
                refine pure_ (i := 12) (N := some 41) (v := ?_) (a' := ?_) #[true, true, true, true, true, true, true, true, true, true, true, true, true] rfl rfl (by kernel_rfl) (fun _ _ _ h => h) (Or.inl ⟨by rfl, ?_⟩) ?_ ?_
                rotate_left
                · intro w'
                  go_simp
                  with_reducible rfl
                rotate_left
                · simp only [Act.put, List.setIfInBounds_toArray, List.set_cons_zero, List.set_cons_succ, i64_w, i32_w]
                  rfl
                refine done_ (by kernel_rfl) ?_
                have w0 := pw_cell_below hv x0
                have w1 := pw_cell_below hv x1
                have w2 := pw_cell_below hv x2
                have w3 := fun j => (hv.frozen (p := ⟨rb, j, none⟩) zr4).trans (x3 j)
                have zz := World.block_lt_of_cell? _ _ w0
                simp only [] at zz
                go_wp2
                rw [hN.out]
                refine bodyPost_ret (v := .tuple #[.agg #[.int .i64 0, .int .i64 0, .slice none 0 0], .int .i64 2]) (by simp [results, Try.results25, go_sem, w0, w1, w2, w3]) rfl ?_
                exact MakesPC_nil _ _ _ _ (below_set3 (hbw.trans ((hb5.trans (hv.mono hb5.size)).mono hbw.size)) (by omega) _ _ _)
            · have hN := Lib.hid (HNO.out (fun h => hyp h.1))
              have hnp : (y.p != p) = true := by simpa using hyp
              have hnp2 : (y.p == p) = false := by simpa using hyp
              have hnp3 : decide (y.p = p) = false := by simpa using hyp
              clear hal0 h0
              go_wp2
              clear hV4 p0 p1 p2
              generalize wr.heap.size = yb at *
              refine start_ (n := 13) (S := fun w' => w'.cell? ⟨yb, 0, none⟩ = some (.int .i64 y.p) ∧ w'.cell? ⟨yb, 1, none⟩ = some (.int .i64 y.d) ∧ w'.cell? ⟨yb, 2, none⟩ = some (.slice A2 y.ts.length c2) ∧ w'.cell? ⟨w.heap.size, 0, none⟩ = some (.int .i64 p)) (ds := []) #[false, false, false, false, false, false, false, false, false, false, false, false, false] (by kernel_rfl) rfl rfl ⟨a0, a1, a2, u0⟩ (fun hHeld => ?_)
              refine pure_ (i := 0) (N := some 29) (v := ?_) (a' := ?_) #[true, false, false, false, false, false, false, false, false, false, false, false, false] rfl rfl (by kernel_rfl) (fun _ _ _ h => h) (Or.inl ⟨by rfl, ?_⟩) ?_ ?_
              rotate_left
              · intro w'
                go_simp
                with_reducible rfl
              rotate_left
              · simp only [Act.put, List.setIfInBounds_toArray, List.set_cons_zero, List.set_cons_succ, i64_w, i32_w]
                rfl
              refine pure_ (i := 2) (N := some 31) (v := ?_) (a' := ?_) #[true, false, true, false, false, false, false, false, false, false, false, false, false] rfl rfl (by kernel_rfl) (fun _ _ _ h => h) (Or.inl ⟨by rfl, ?_⟩) ?_ ?_
              rotate_left
              · intro w'
                go_simp
                with_reducible rfl
              rotate_left
              · simp only [Act.put, List.setIfInBounds_toArray, List.set_cons_zero, List.set_cons_succ, i64_w, i32_w]
                rfl
              refine take_ (i := 1) (N := some 30) (v := ?_) (a' := ?_) #[true, true, true, false, false, false, false, false, false, false, false, false, false] rfl rfl (by kernel_rfl) (fun _ _ _ h => h) (Or.inl ⟨by rfl, ?_⟩) hHeld ?_ ?_
              rotate_left
              · rintro w' ⟨s0, s1, s2, s3⟩
                go_simp
                with_reducible rfl
              rotate_left
              · simp only [Act.put, List.setIfInBounds_toArray, List.set_cons_zero, List.set_cons_succ, i64_w, i32_w]
                rfl
              refine take_ (i := 3) (N := some 32) (v := ?_) (a' := ?_) #[true, true, true, true, false, false, false, false, false, false, false, false, false] rfl rfl (by kernel_rfl) (fun _ _ _ h => h) (Or.inl ⟨by rfl, ?_⟩) hHeld ?_ ?_
              rotate_left
              · rintro w' ⟨s0, s1, s2, s3⟩
                go_simp
                with_reducible rfl
              rotate_left
              · simp only [Act.put, List.setIfInBounds_toArray, List.set_cons_zero, List.set_cons_succ, i64_w, i32_w]
                rfl
              refine pure_ (i := 4) (N := some 33) (v := ?_) (a' := ?_) #[true, true, true, true, true, false, false, false, false, false, false, false, false] rfl rfl (by kernel_rfl) (fun _ _ _ h => h) (Or.inl ⟨by rfl, ?_⟩) ?_ ?_
              rotate_left
              · intro w'
                go_simp
                with_reducible rfl
              rotate_left
              · simp only [Act.put, List.setIfInBounds_toArray, List.set_cons_zero, List.set_cons_succ, i64_w, i32_w]
                rfl
              refine pure_ (i := 5) (N := some 34) (v := ?_) (a' := ?_) #[true, true, true, true, true, true, false, false, false, false, false, false, false] rfl rfl (by kernel_rfl) (fun _ _ _ h => h) (Or.inl ⟨by rfl, ?_⟩) ?_ ?_
              rotate_left
              · intro w'
                go_simp
                with_reducible rfl
              rotate_left
              · simp only [Act.put, List.setIfInBounds_toArray, List.set_cons_zero, List.set_cons_succ, i64_w, i32_w]
                rfl
              refine pure_ (i := 6) (N := some 35) (v := undef) (a' := ?_) #[true, true, true, true, true, true, true, false, false, false, false, false, false] rfl rfl (by kernel_rfl) (fun _ _ _ h => h) (Or.inr ⟨by rfl, rfl⟩) ?_ ?_
              rotate_left
              · simp only [Act.put, List.setIfInBounds_toArray, List.set_cons_zero, List.set_cons_succ, i64_w, i32_w]
                rfl
              refine pure_ (i := 7) (N := some 36) (v := undef) (a' := ?_) #[true, true, true, true, true, true, true, true, false, false, false, false, false] rfl rfl (by kernel_rfl) (fun _ _ _ h => h) (Or.inr ⟨by rfl, rfl⟩) ?_ ?_
              rotate_left
              · simp only [Act.put, List.setIfInBounds_toArray, List.set_cons_zero, List.set_cons_succ, i64_w, i32_w]
                rfl
              refine pure_ (i := 8) (N := some 37) (v := undef) (a' := ?_) #[true, true, true, true, true, true, true, true, true, false, false, false, false] rfl rfl (by kernel_rfl) (fun _ _ _ h => h) (Or.inr ⟨by rfl, rfl⟩) ?_ ?_
              rotate_left
              · simp only [Act.put, List.setIfInBounds_toArray, List.set_cons_zero, List.set_cons_succ, i64_w, i32_w]
                rfl
              refine pure_ (i := 9) (N := some 38) (v := undef) (a' := ?_) #[true, true, true, true, true, true, true, true, true, true, false, false, false] rfl rfl (by kernel_rfl) (fun _ _ _ h => h) (Or.inr ⟨by rfl, rfl⟩) ?_ ?_
              rotate_left
              · simp only [Act.put, List.setIfInBounds_toArray, List.set_cons_zero, List.set_cons_succ, i64_w, i32_w]
                rfl
              refine pure_ (i := 10) (N := some 39) (v := undef) (a' := ?_) #[true, true, true, true, true, true, true, true, true, true, true, false, false] rfl rfl (by kernel_rfl) (fun _ _ _ h => h) (Or.inr ⟨by rfl, rfl⟩) ?_ ?_
              rotate_left
              · simp only [Act.put, List.setIfInBounds_toArray, List.set_cons_zero, List.set_cons_succ, i64_w, i32_w]
                rfl
              refine pure_ (i := 11) (N := some 40) (v := undef) (a' := ?_) #[true, true, true, true, true, true, true, true, true, true, true, true, false] rfl rfl (by kernel_rfl) (fun _ _ _ h => h) (Or.inr ⟨by rfl, rfl⟩) ?_ ?_
              rotate_left
              · simp only [Act.put, List.setIfInBounds_toArray, List.set_cons_zero, List.set_cons_succ, i64_w, i32_w]
                rfl
              refine pure_ (i := 12) (N := some 41) (v := ?_) (a' := ?_) #[true, true, true, true, true, true, true, true, true, true, true, true, true] rfl rfl (by kernel_rfl) (fun _ _ _ h => h) (Or.inl ⟨by rfl, ?_⟩) ?_ ?_
              rotate_left
              · intro w'
                go_simp
                with_reducible rfl
              rotate_left
              · simp only [Act.put, List.setIfInBounds_toArray, List.set_cons_zero, List.set_cons_succ, i64_w, i32_w]
                rfl
              refine done_ (by kernel_rfl) ?_
              go_wp2
              rw [hN.out]
              refine bodyPost_ret (v := .tuple #[.agg #[.int .i64 0, .int .i64 0, .slice none 0 0], .int .i64 2]) (by simp [results, Try.results25, go_sem, x0, x1, x2, x3]) rfl ?_
              exact MakesPC_nil _ _ _ _ (Below.drew (below_set3 (rb := rb) (hbw.trans (hb5.mono hbw.size)) (by omega) _ _ _))
          · have hie : i = m := by have := HIK.out; omega
            rw [hie] at HALL
            have hs := sameB_yes hpl HALL.out
            have hCw := Kd.C_below hCV hb
            have hLw := Kd.C_below hLV hb
            have hBO := fun W h1 h2 => boundOf_c p d A c ts (some ⟨b0, oo0, none⟩) cl ps m hpl W h1 h2 hlen hm3 HLE.out
            have hmo := bndB_most (tss ps) ts
            have hi1 : ¬ (i : Int) < m := by omega
            by_cases hbd : mostT (tss ps) ts ≤ 12
            · have hbt : bndB (tss ps) ts = true := by rw [hmo]; simpa using hbd
              have HR := Lib.hid (HRES0.out hs hbt)
              have hSB := fun W h1 h2 => substitute_c p d (ps.getD 0 zP).d A c ts (some ⟨b0, oo0, none⟩) cl ps m hpl W h1 h2 hlen hm1 hm3 HPP.out.1 HPP.out.2 (HTC.out hs) HCN.out (fun j hj => HALL.out j hj) HLE.out hbt
              have hgt : ¬ 12 < mostT (tss ps) ts := by omega
              clear hmo hbd hs
              generalize (ps.getD 0 zP).d = D at *
              generalize subL p (tss ps) ts = sl at *
              generalize mostT (tss ps) ts = mo at *
              go_wp2_with (first | (go_at_call 62; (with_reducible refine to_gives (V := wr) (Below.refl _ _) (hBO _ hCw hLw) ?_); intro wy hv hvw; have v0 := pw_cell_below hv u0; have v1 := pw_cell_below hv u1; have v2 := pw_cell_below hv u2) | (go_at_call 63; (with_reducible refine to_makesP (V := wy) (Below.refl _ _) (hSB _ (Kd.C_below hCw hv) (Kd.C_below hLw hv)) ?_); intro w8 B8 c8 hb8 hb8' hl8 hR8; have hv8 := hv.trans (hb8.mono hv.size); have t0 := pw_cell_below hv8 x0; have t1 := pw_cell_below hv8 x1; have t2 := pw_cell_below hv8 x2; have t3 := fun j => (hv8.frozen (p := ⟨rb, j, none⟩) zr).trans (x3 j); have zz := World.block_lt_of_cell? _ _ t0; simp only [] at zz))
              rw [HR.out]
              refine bodyPost_ret (v := .tuple #[.agg #[.int .i64 p, .int .i64 D, .slice B8 sl.length c8], .int .i64 0]) (by simp [results, Try.results25, go_sem, t0, t1, t2, t3]) rfl ?_
              have hvs := hv.size
              refine ⟨_, _, rfl, ?_, below_set3 (hbw.trans ((hb.trans (hv8.mono hb.size)).mono hbw.size)) (by omega) _ _ _⟩
              exact Kd.R_lower (R_set3 (Kd.R_mono (Kd.R_bound hR8) (ok' := fun k => k ≠ rb) (fun k hk => by have h1 := hk.2.1; show k ≠ rb; omega)) (fun k hk => hk) (Nat.le_refl _) _ _ _) (by have := hbw.size; have := hb.size; omega)
            · have hbt : bndB (tss ps) ts = false := by rw [hmo]; simpa using hbd
              have HR := Lib.hid (HRES3.out hs hbt)
              have hgt : 12 < mostT (tss ps) ts := by omega
              clear hmo hbd hs
              generalize mostT (tss ps) ts = mo at *
              go_wp2_with (go_at_call 62; (with_reducible refine to_gives (V := wr) (Below.refl _ _) (hBO _ hCw hLw) ?_); intro wy hv hvw; have t0 := pw_cell_below hv x0; have t1 := pw_cell_below hv x1; have t2 := pw_cell_below hv x2; have t3 := fun j => (hv.frozen (p := ⟨rb, j, none⟩) zr).trans (x3 j); have zz := World.block_lt_of_cell? _ _ t0; simp only [] at zz)
              rw [HR.out]
              refine bodyPost_ret (v := .tuple #[.agg #[.int .i64 0, .int .i64 0, .slice none 0 0], .int .i64 3]) (by simp [results, Try.results25, go_sem, t0, t1, t2, t3]) rfl ?_
              exact MakesPC_nil _ _ _ _ (below_set3 (hbw.trans ((hb.trans (hv.mono hb.size)).mono hbw.size)) (by omega) _ _ _)
      · have hne : ((m : Int) != d) = true := by simpa using hml
        rw [substR_2 hbq (by rw [hpl]; exact fun h => hml h.1)]
        clear hb hq hbq hml
        have e1 : ((w.alloc (.cells #[.int .i64 p, .int .i64 d, .slice A ts.length c] 45)).alloc (.cells #[.int .i64 0, .int .i64 0, .slice none 0 0] 45)).cell? ⟨w.heap.size, 1, none⟩ = some (.int .i64 d) := (by first | (simp; done) | (simp [go_sem]; done) | go_simp)
        go_enter Try.func25, Try.ntmps25
        go_wp2_with (first | (go_at_call 59; (first | (with_reducible refine call_later2 (hI _ hC2) ?_) | (with_reducible refine call_later (hI _ hC2) ?_)); intro x1) | ((go_at_call 60; (first | (with_reducible refine call_later2 (hA _ (Kd.C_below hL (by repeat (first | (with_reducible assumption) | (with_reducible exact Below.refl _ _) | ((with_reducible refine Below.alloc ?_ ?_ _); rotate_left; (focus (first | omega | (simp; done) | (simp; omega)))) | (with_reducible refine Below.drew ?_) | ((with_reducible refine Below.setCell ?_ ?_ _); rotate_left; (focus (first | omega | (simp; done) | (simp; omega)))) | ((with_reducible refine below_hop (by assumption) ?_ ?_); rotate_left; (focus (first | omega | (simp; done) | (simp; omega)))) | ((with_reducible refine bel_later _ ?_ ?_); rotate_left; (focus (first | omega | (simp; done) | (simp; omega)))))))) ?_) | (with_reducible refine call_later (hA _ (Kd.C_below hL (by repeat (first | (with_reducible assumption) | (with_reducible exact Below.refl _ _) | ((with_reducible refine Below.alloc ?_ ?_ _); rotate_left; (focus (first | omega | (simp; done) | (simp; omega)))) | (with_reducible refine Below.drew ?_) | ((with_reducible refine Below.setCell ?_ ?_ _); rotate_left; (focus (first | omega | (simp; done) | (simp; omega)))) | ((with_reducible refine below_hop (by assumption) ?_ ?_); rotate_left; (focus (first | omega | (simp; done) | (simp; omega)))) | ((with_reducible refine bel_later _ ?_ ?_); rotate_left; (focus (first | omega | (simp; done) | (simp; omega)))))))) ?_)); intro x2); have k1 := x2.keep e1))
        have zz : w.heap.size + 1 < x2.W.heap.size := by have := x2.ok.size; simp at this; omega
        refine bodyPost_ret (v := .tuple #[.agg #[.int .i64 0, .int .i64 0, .slice none 0 0], .int .i64 2]) (by simp [results, Try.results25, go_sem]) rfl ?_
        exact MakesPC_nil _ _ _ _ (by repeat (first | (with_reducible assumption) | (with_reducible exact Below.refl _ _) | ((with_reducible refine Below.alloc ?_ ?_ _); rotate_left; (focus (first | omega | (simp; done) | (simp; omega)))) | (with_reducible refine Below.drew ?_) | ((with_reducible refine Below.setCell ?_ ?_ _); rotate_left; (focus (first | omega | (simp; done) | (simp; omega)))) | ((with_reducible refine below_hop (by assumption) ?_ ?_); rotate_left; (focus (first | omega | (simp; done) | (simp; omega)))) | ((with_reducible refine bel_later _ ?_ ?_); rotate_left; (focus (first | omega | (simp; done) | (simp; omega))))))
end Go.Proofs.Ytneknpamceipiaa
