/- SubstitutePoly of the reference; no condition. -/
import Derived.Test.YtneknpamceipiaaYSubP2
import Derived.Test.YtneknpamceipiaaYSubS
import Derived.Test.YtneknpamceipiaaYKitA
import Derived.Deep.RegionHeld3
import Derived.Deep.CutRange
set_option linter.unusedVariables false
set_option linter.unusedSimpArgs false
namespace Go.Proofs.Ytneknpamceipiaa
open Go.RowKit Go.Proofs.YtneknpamceipiaaW.PrintWords
attribute [local go_sem] Later.cell Later.frozen Later.lt Later.lt_add Later.le Later.le_add Later.ne Later.ne' add_at
open Go.Proofs.YtneknpamceipiaaW.PrintLast
attribute [local go_sem] later_drew2 later_drewf2
set_option maxRecDepth 100000 in
set_option maxHeartbeats 4000000 in
theorem specSubstitutePoly_c (p d : Int) (A : Option Addr) (c : Nat) (ts : List T4) (L : Option Addr) (cl : Nat) (ps : List PV) (m : Nat) (hpl : ps.length = m) (w : World) (hC : kT.C w A ts.length ts) (hL : kP.C w L m ps) (hN : ts.length ≤ 9223372036854775807) (hM : m ≤ 9223372036854775807) (hls : ∀ x ∈ ps, x.ts.length ≤ 9223372036854775807) :
    Calls Try.prog 22 #[.agg #[.int .i64 p, .int .i64 d, .slice A ts.length c], .slice L m cl] w (MakesPC (substR p d ts ps) 121 w) := by
  have hbW : Below w.heap.size w ((w.alloc (.cells #[.int .i64 p, .int .i64 d, .slice A ts.length c] 45)).alloc (.cells #[.int .i64 0, .int .i64 0, .slice none 0 0] 45)) := (by repeat (first | (with_reducible assumption) | (with_reducible exact Below.refl _ _) | ((with_reducible refine Below.alloc ?_ ?_ _); rotate_left; (focus (first | omega | (simp; done) | (simp; omega)))) | (with_reducible refine Below.drew ?_) | ((with_reducible refine Below.setCell ?_ ?_ _); rotate_left; (focus (first | omega | (simp; done) | (simp; omega)))) | ((with_reducible refine below_hop (by assumption) ?_ ?_); rotate_left; (focus (first | omega | (simp; done) | (simp; omega)))) | ((with_reducible refine bel_later _ ?_ ?_); rotate_left; (focus (first | omega | (simp; done) | (simp; omega))))))
  have hC2 := Kd.C_below hC hbW
  have hI := fun W h => l01Is_c p d A c ts W h hN
  cases hb : polyB p d ts with
  | false =>
    rw [substR_1 (by rw [hb]; rfl)]
    rw [hb] at hI
    clear hb
    go_enter Try.func22, Try.ntmps22
    go_wp2_with ((go_at_call 56; (first | (with_reducible refine call_later2 (hI _ hC2) ?_) | (with_reducible refine call_later (hI _ hC2) ?_)); intro x1))
    have zz : w.heap.size + 1 < x1.W.heap.size := by have := x1.ok.size; simp at this; omega
    refine bodyPost_ret (v := .tuple #[.agg #[.int .i64 0, .int .i64 0, .slice none 0 0], .int .i64 1]) (by simp [results, Try.results22, go_sem]) rfl ?_
    exact MakesPC_nil _ _ _ _ (by repeat (first | (with_reducible assumption) | (with_reducible exact Below.refl _ _) | ((with_reducible refine Below.alloc ?_ ?_ _); rotate_left; (focus (first | omega | (simp; done) | (simp; omega)))) | (with_reducible refine Below.drew ?_) | ((with_reducible refine Below.setCell ?_ ?_ _); rotate_left; (focus (first | omega | (simp; done) | (simp; omega)))) | ((with_reducible refine below_hop (by assumption) ?_ ?_); rotate_left; (focus (first | omega | (simp; done) | (simp; omega)))) | ((with_reducible refine bel_later _ ?_ ?_); rotate_left; (focus (first | omega | (simp; done) | (simp; omega))))))
  | true =>
    rw [hb] at hI
    obtain ⟨res, hres⟩ : ∃ r, r = substR p d ts ps := ⟨_, rfl⟩
    rw [← hres]
    have hl1 := polyB_len hb
    have HR1 := Lib.hid (show polysB ps = false → res = ⟨0, 0, [], 1⟩ from fun h => by rw [hres, substR_1 (by rw [hb, h]; rfl)])
    have HR2 := Lib.hid (show polysB ps = true → ¬ ((ps.length : Int) = d ∧ sameB p ps = true) → res = ⟨0, 0, [], 2⟩ from fun h h2 => by rw [hres, substR_2 (by rw [hb, h]; rfl) h2])
    have HR3 := Lib.hid (show polysB ps = true → ((ps.length : Int) = d ∧ sameB p ps = true) → bndB (tss ps) ts = false → res = ⟨0, 0, [], 3⟩ from fun h h2 h3 => by rw [hres, substR_3 (by rw [hb, h]; rfl) h2 h3])
    have HR0 := Lib.hid (show polysB ps = true → ((ps.length : Int) = d ∧ sameB p ps = true) → bndB (tss ps) ts = true → res = ⟨p, (ps.getD 0 zP).d, subL p (tss ps) ts, 0⟩ from fun h h2 h3 => by rw [hres, substR_0 (by rw [hb, h]; rfl) h2 h3])
    have HV := Lib.hid (sub_vars hb)
    have HCN := Lib.hid (polyB_canon hb)
    have HPP := Lib.hid (polyB_prime hb)
    have HLS := Lib.hid hls
    have e0 : ((w.alloc (.cells #[.int .i64 p, .int .i64 d, .slice A ts.length c] 45)).alloc (.cells #[.int .i64 0, .int .i64 0, .slice none 0 0] 45)).cell? ⟨w.heap.size, 0, none⟩ = some (.int .i64 p) := (by first | (simp; done) | (simp [go_sem]; done) | go_simp)
    have e1 : ((w.alloc (.cells #[.int .i64 p, .int .i64 d, .slice A ts.length c] 45)).alloc (.cells #[.int .i64 0, .int .i64 0, .slice none 0 0] 45)).cell? ⟨w.heap.size, 1, none⟩ = some (.int .i64 d) := (by first | (simp; done) | (simp [go_sem]; done) | go_simp)
    have e2 : ((w.alloc (.cells #[.int .i64 p, .int .i64 d, .slice A ts.length c] 45)).alloc (.cells #[.int .i64 0, .int .i64 0, .slice none 0 0] 45)).cell? ⟨w.heap.size, 2, none⟩ = some (.slice A ts.length c) := (by first | (simp; done) | (simp [go_sem]; done) | go_simp)
    have r0 : ((w.alloc (.cells #[.int .i64 p, .int .i64 d, .slice A ts.length c] 45)).alloc (.cells #[.int .i64 0, .int .i64 0, .slice none 0 0] 45)).cell? ⟨w.heap.size + 1, 0, none⟩ = some (.int .i64 0) := (by first | (simp; done) | (simp [go_sem]; done) | go_simp)
    have r1 : ((w.alloc (.cells #[.int .i64 p, .int .i64 d, .slice A ts.length c] 45)).alloc (.cells #[.int .i64 0, .int .i64 0, .slice none 0 0] 45)).cell? ⟨w.heap.size + 1, 1, none⟩ = some (.int .i64 0) := (by first | (simp; done) | (simp [go_sem]; done) | go_simp)
    have r2 : ((w.alloc (.cells #[.int .i64 p, .int .i64 d, .slice A ts.length c] 45)).alloc (.cells #[.int .i64 0, .int .i64 0, .slice none 0 0] 45)).cell? ⟨w.heap.size + 1, 2, none⟩ = some (.slice none 0 0) := (by first | (simp; done) | (simp [go_sem]; done) | go_simp)
    have r3 : ∀ j, ((w.alloc (.cells #[.int .i64 p, .int .i64 d, .slice A ts.length c] 45)).alloc (.cells #[.int .i64 0, .int .i64 0, .slice none 0 0] 45)).frozen? ⟨w.heap.size + 1, j, none⟩ = false := fun j => (by first | (simp; done) | (simp [go_sem]; done) | go_simp)
    have HZZ := Lib.hid (show ((w.alloc (.cells #[.int .i64 p, .int .i64 d, .slice A ts.length c] 45)).alloc (.cells #[.int .i64 0, .int .i64 0, .slice none 0 0] 45)).heap.size = w.heap.size + 1 + 1 by simp)
    clear hb hres hls
    go_enter Try.func22, Try.ntmps22
    go_wp2_with ((go_at_call 56; (first | (with_reducible refine call_later2 (hI _ hC2) ?_) | (with_reducible refine call_later (hI _ hC2) ?_)); intro x2); have hb2 : Below ((w.alloc (.cells #[.int .i64 p, .int .i64 d, .slice A ts.length c] 45)).alloc (.cells #[.int .i64 0, .int .i64 0, .slice none 0 0] 45)).heap.size ((w.alloc (.cells #[.int .i64 p, .int .i64 d, .slice A ts.length c] 45)).alloc (.cells #[.int .i64 0, .int .i64 0, .slice none 0 0] 45)) x2.W := x2.ok)
    have k0 := pw_cell_below hb2 e0
    have k1 := pw_cell_below hb2 e1
    have k2 := pw_cell_below hb2 e2
    have q0 := pw_cell_below hb2 r0
    have q1 := pw_cell_below hb2 r1
    have q2 := pw_cell_below hb2 r2
    have q3 := fun j => (hb2.frozen (p := ⟨w.heap.size + 1, j, none⟩) (by have := HZZ.out; show w.heap.size + 1 < _; omega)).trans (r3 j)
    have hbw := hbW.trans (hb2.mono (by have := HZZ.out; omega))
    have hLV := Kd.C_below hL hbw
    have hCV := Kd.C_below hC hbw
    clear hb2 r0 r1 r2 r3 e0 e1 e2 hC2 hI
    generalize x2.W = V at *
    generalize hrb : w.heap.size + 1 = rb at *
    have zrb := World.block_lt_of_cell? _ _ q0
    simp only [] at zrb
    go_loopg [6] m (fun g v6 w' => ∃ (i : Nat), i + g = m ∧ v6 = .int .i64 i ∧ Below V.heap.size V w' ∧ ∀ j, j < i → polyB (ps.getD j zP).p (ps.getD j zP).d (ps.getD j zP).ts = true)
    case atStart => exact ⟨0, by omega, rfl, Below.refl _ _, fun j hj => by omega⟩
    case round =>
      obtain ⟨i, hik, rfl, hb, hall⟩ := hrel
      have HIK := Lib.hid hik
      have HALL := Lib.hid hall
      clear hik hall
      have u0 := pw_cell_below hb k0
      have u1 := pw_cell_below hb k1
      have u2 := pw_cell_below hb k2
      have x0 := pw_cell_below hb q0
      have x1 := pw_cell_below hb q1
      have x2 := pw_cell_below hb q2
      have x3 := fun j => (hb.frozen (p := ⟨rb, j, none⟩) zrb).trans (q3 j)
      have zr := World.block_lt_of_cell? _ _ x0
      simp only [] at zr
      by_cases hi : i < m
      · obtain ⟨b2, o2', A2, c2, hB, p0, p1, p2, hD⟩ := kP_at hLV i hi
        subst hB
        have p0 := pw_cell_below hb p0
        have p1 := pw_cell_below hb p1
        have p2 := pw_cell_below hb p2
        have hD := Kd.C_below hD hb
        have hi0 : (0 : Int) ≤ i := by omega
        have hi1 : (i : Int) < m := by omega
        have hin : ((i : Int)).toNat = i := by omega
        have hly : (ps.getD i zP).ts.length ≤ 9223372036854775807 := HLS.out _ (by
          have e : ps.getD i zP = ps[i] := by simp [List.getD_eq_getElem?_getD, hpl, hi]
          rw [e]
          exact List.getElem_mem _)
        have hJ := fun W h => l01Is_c (ps.getD i zP).p (ps.getD i zP).d A2 c2 (ps.getD i zP).ts W h hly
        have hno := fun h => HR1.out (polysB_no (ps := ps) (i := i) (by omega) h)
        have HNO := Lib.hid hno
        clear hno
        generalize hy : ps.getD i zP = y at *
        have HY := Lib.hid hy
        clear hy
        cases hq : polyB y.p y.d y.ts with
        | false =>
          rw [hq] at hJ
          go_wp2_with (go_at_call 56; (with_reducible refine to_gives (V := wr) (Below.refl _ _) (hJ _ hD) ?_); intro wy hv hvw; have w0 := pw_cell_below hv x0; have w1 := pw_cell_below hv x1; have w2 := pw_cell_below hv x2; have w3 := fun j => (hv.frozen (p := ⟨rb, j, none⟩) zr).trans (x3 j); have zz := World.block_lt_of_cell? _ _ w0; simp only [] at zz)
          rw [HNO.out hq]
          refine bodyPost_ret (v := .tuple #[.agg #[.int .i64 0, .int .i64 0, .slice none 0 0], .int .i64 1]) (by simp [results, Try.results22, go_sem, w0, w1, w2, w3]) rfl ?_
          exact MakesPC_nil _ _ _ _ (below_set3 (rb := rb) (hbw.trans ((hb.trans (hv.mono hb.size)).mono hbw.size)) (by omega) _ _ _)
        | true =>
          rw [hq] at hJ
          go_wp2_with (go_at_call 56; (with_reducible refine to_gives (V := wr) (Below.refl _ _) (hJ _ hD) ?_); intro wy hv hvw)
          go_roundg (gk - 1)
          case measure => have := HIK.out; omega
          case rel =>
            refine ⟨i + 1, by have := HIK.out; omega, by go_num, hb.trans (hv.mono hb.size), fun j hj => ?_⟩
            by_cases h : j = i
            · rw [h, HY.out]
              exact hq
            · exact HALL.out j (by omega)
      · have hie : i = m := by have := HIK.out; omega
        rw [hie] at HALL
        have HQ := Lib.hid (show polysB ps = true from polysB_yes fun j hj => HALL.out j (by omega))
        have hni : ¬ (i : Int) < m := by omega
        by_cases hml : (m : Int) = d
        · have hne : ((m : Int) != d) = false := by simp [hml]
          have hm1 : 1 ≤ m := by have := HV.out; omega
          have hm3 : m ≤ 3 := by have := HV.out; omega
          have hls := Kd.C_below hLV hb
          have hcs := Kd.C_below hCV hb
          have hbq := hbw.trans (hb.mono hbw.size)
          have HML := Lib.hid hml
          obtain ⟨b0, oo0, A0, c0, hA0, l0, l1, l2, hD0⟩ := kP_at hls 0 (by omega)
          simp only [Nat.zero_mul, Nat.add_zero] at l0 l1 l2
          subst hA0
          clear hml k0 k1 k2 q0 q1 q2 q3 zrb hLV hCV hbw hb
          go_wp2
          generalize wr = V5 at *
          go_loopg [7] m (fun g v7 w' => ∃ (i : Nat), i + g = m ∧ v7 = .int .i64 i ∧ Below V5.heap.size V5 w' ∧ ∀ j, j < i → (ps.getD j zP).p = p ∧ (ps.getD j zP).d = (ps.getD 0 zP).d)
          case atStart => exact ⟨0, by omega, rfl, Below.refl _ _, fun j hj => by omega⟩
          case round =>
            obtain ⟨i2, hik2, rfl, hb3, hall2⟩ := hrel
            have HIK2 := Lib.hid hik2
            have HALL2 := Lib.hid hall2
            clear hik2 hall2
            have hm0 : (0 : Int) < m := by omega
            have hm0n : 0 < m := by omega
            have u0w := pw_cell_below hb3 u0
            have u1w := pw_cell_below hb3 u1
            have u2w := pw_cell_below hb3 u2
            have x0w := pw_cell_below hb3 x0
            have x1w := pw_cell_below hb3 x1
            have x2w := pw_cell_below hb3 x2
            have l1w := pw_cell_below hb3 l1
            have x3w := fun j => (hb3.frozen (p := ⟨rb, j, none⟩) zr).trans (x3 j)
            have zrw := World.block_lt_of_cell? _ _ x0w
            simp only [] at zrw
            by_cases hi2 : i2 < m
            · obtain ⟨b2, o2', A2, c2, hB, p0, p1, p2, hD⟩ := kP_at hls i2 hi2
              injection hB with hB
              injection hB with hb1 hb2 _
              subst hb1
              subst hb2
              have p0 := pw_cell_below hb3 p0
              have p1 := pw_cell_below hb3 p1
              have hi0 : (0 : Int) ≤ i2 := by omega
              have hi1 : (i2 : Int) < m := by omega
              have hin : ((i2 : Int)).toNat = i2 := by omega
              have HNO := Lib.hid (fun h => HR2.out HQ.out (fun h2 => by have h3 := sameB_no (p := p) (ps := ps) (i := i2) (by omega) h; rw [h3] at h2; cases h2.2))
              have hyes : ((ps.getD i2 zP).p = p ∧ (ps.getD i2 zP).d = (ps.getD 0 zP).d) → ∀ j, j < i2 + 1 → (ps.getD j zP).p = p ∧ (ps.getD j zP).d = (ps.getD 0 zP).d := fun h j hj => by
                by_cases e : j = i2
                · subst e; exact h
                · exact HALL2.out j (by omega)
              have HYES := Lib.hid hyes
              clear hyes
              clear hD p2
              generalize (ps.getD i2 zP).p = yp at *
              generalize (ps.getD i2 zP).d = yd at *
              generalize (ps.getD 0 zP).d = d0 at *
              cases hq1 : (yp != p) with
              | true =>
                have hq1' : (yp == p) = false := by simpa using hq1
                go_wp2
                refine start_ (n := 20) (S := fun w' => w'.cell? ⟨b0, oo0 + i2 * 3, none⟩ = some (.int .i64 yp) ∧ w'.cell? ⟨w.heap.size, 0, none⟩ = some (.int .i64 p)) (ds := []) #[false, false, false, false, false, false, false, false, false, false, false, false, false, false, false, false, false, false, false, false] (by kernel_rfl) rfl rfl ⟨p0, u0w⟩ (fun hHeld => ?_)
                refine pure_ (i := 0) (N := some 39) (v := ?_) (a' := ?_) #[true, false, false, false, false, false, false, false, false, false, false, false, false, false, false, false, false, false, false, false] rfl rfl (by kernel_rfl) (fun _ _ _ h => h) (Or.inl ⟨by rfl, ?_⟩) ?_ ?_
                rotate_left
                · intro w'
                  go_simp
                  with_reducible rfl
                rotate_left
                · simp only [Act.put, List.setIfInBounds_toArray, List.set_cons_zero, List.set_cons_succ, i64_w, i32_w]
                  rfl
                refine pure_ (i := 1) (N := some 40) (v := ?_) (a' := ?_) #[true, true, false, false, false, false, false, false, false, false, false, false, false, false, false, false, false, false, false, false] rfl rfl (by kernel_rfl) (fun _ _ _ h => h) (Or.inl ⟨by rfl, ?_⟩) ?_ ?_
                rotate_left
                · intro w'
                  go_simp
                  with_reducible rfl
                rotate_left
                · simp only [Act.put, List.setIfInBounds_toArray, List.set_cons_zero, List.set_cons_succ, i64_w, i32_w]
                  rfl
                refine pure_ (i := 2) (N := some 41) (v := ?_) (a' := ?_) #[true, true, true, false, false, false, false, false, false, false, false, false, false, false, false, false, false, false, false, false] rfl rfl (by kernel_rfl) (fun _ _ _ h => h) (Or.inl ⟨by rfl, ?_⟩) ?_ ?_
                rotate_left
                · intro w'
                  go_simp
                  with_reducible rfl
                rotate_left
                · simp only [Act.put, List.setIfInBounds_toArray, List.set_cons_zero, List.set_cons_succ, i64_w, i32_w]
                  rfl
                refine pure_ (i := 3) (N := some 42) (v := ?_) (a' := ?_) #[true, true, true, true, false, false, false, false, false, false, false, false, false, false, false, false, false, false, false, false] rfl rfl (by kernel_rfl) (fun _ _ _ h => h) (Or.inl ⟨by rfl, ?_⟩) ?_ ?_
                rotate_left
                · intro w'
                  go_simp
                  with_reducible rfl
                rotate_left
                · simp only [Act.put, List.setIfInBounds_toArray, List.set_cons_zero, List.set_cons_succ, i64_w, i32_w]
                  rfl
                refine pure_ (i := 5) (N := some 44) (v := ?_) (a' := ?_) #[true, true, true, true, false, true, false, false, false, false, false, false, false, false, false, false, false, false, false, false] rfl rfl (by kernel_rfl) (fun _ _ _ h => h) (Or.inl ⟨by rfl, ?_⟩) ?_ ?_
                rotate_left
                · intro w'
                  go_simp
                  with_reducible rfl
                rotate_left
                · simp only [Act.put, List.setIfInBounds_toArray, List.set_cons_zero, List.set_cons_succ, i64_w, i32_w]
                  rfl
                refine take_ (i := 4) (N := some 43) (v := ?_) (a' := ?_) #[true, true, true, true, true, true, false, false, false, false, false, false, false, false, false, false, false, false, false, false] rfl rfl (by kernel_rfl) (fun _ _ _ h => h) (Or.inl ⟨by rfl, ?_⟩) hHeld ?_ ?_
                rotate_left
                · rintro w' ⟨s0, s1⟩
                  go_simp
                  with_reducible rfl
                rotate_left
                · simp only [Act.put, List.setIfInBounds_toArray, List.set_cons_zero, List.set_cons_succ, i64_w, i32_w]
                  rfl
                refine take_ (i := 6) (N := some 45) (v := ?_) (a' := ?_) #[true, true, true, true, true, true, true, false, false, false, false, false, false, false, false, false, false, false, false, false] rfl rfl (by kernel_rfl) (fun _ _ _ h => h) (Or.inl ⟨by rfl, ?_⟩) hHeld ?_ ?_
                rotate_left
                · rintro w' ⟨s0, s1⟩
                  go_simp
                  with_reducible rfl
                rotate_left
                · simp only [Act.put, List.setIfInBounds_toArray, List.set_cons_zero, List.set_cons_succ, i64_w, i32_w]
                  rfl
                refine pure_ (i := 7) (N := some 46) (v := ?_) (a' := ?_) #[true, true, true, true, true, true, true, true, false, false, false, false, false, false, false, false, false, false, false, false] rfl rfl (by kernel_rfl) (fun _ _ _ h => h) (Or.inl ⟨by rfl, ?_⟩) ?_ ?_
                rotate_left
                · intro w'
                  go_simp
                  with_reducible rfl
                rotate_left
                · simp only [Act.put, List.setIfInBounds_toArray, List.set_cons_zero, List.set_cons_succ, i64_w, i32_w]
                  rfl
                refine pure_ (i := 8) (N := some 47) (v := ?_) (a' := ?_) #[true, true, true, true, true, true, true, true, true, false, false, false, false, false, false, false, false, false, false, false] rfl rfl (by kernel_rfl) (fun _ _ _ h => h) (Or.inl ⟨by rfl, ?_⟩) ?_ ?_
                rotate_left
                · intro w'
                  go_simp
                  with_reducible rfl
                rotate_left
                · simp only [Act.put, List.setIfInBounds_toArray, List.set_cons_zero, List.set_cons_succ, i64_w, i32_w]
                  rfl
                refine pure_ (i := 9) (N := some 48) (v := undef) (a' := ?_) #[true, true, true, true, true, true, true, true, true, true, false, false, false, false, false, false, false, false, false, false] rfl rfl (by kernel_rfl) (fun _ _ _ h => h) (Or.inr ⟨by rfl, rfl⟩) ?_ ?_
                rotate_left
                · simp only [Act.put, List.setIfInBounds_toArray, List.set_cons_zero, List.set_cons_succ, i64_w, i32_w]
                  rfl
                refine pure_ (i := 10) (N := some 49) (v := undef) (a' := ?_) #[true, true, true, true, true, true, true, true, true, true, true, false, false, false, false, false, false, false, false, false] rfl rfl (by kernel_rfl) (fun _ _ _ h => h) (Or.inr ⟨by rfl, rfl⟩) ?_ ?_
                rotate_left
                · simp only [Act.put, List.setIfInBounds_toArray, List.set_cons_zero, List.set_cons_succ, i64_w, i32_w]
                  rfl
                refine pure_ (i := 11) (N := some 50) (v := undef) (a' := ?_) #[true, true, true, true, true, true, true, true, true, true, true, true, false, false, false, false, false, false, false, false] rfl rfl (by kernel_rfl) (fun _ _ _ h => h) (Or.inr ⟨by rfl, rfl⟩) ?_ ?_
                rotate_left
                · simp only [Act.put, List.setIfInBounds_toArray, List.set_cons_zero, List.set_cons_succ, i64_w, i32_w]
                  rfl
                refine pure_ (i := 12) (N := some 51) (v := undef) (a' := ?_) #[true, true, true, true, true, true, true, true, true, true, true, true, true, false, false, false, false, false, false, false] rfl rfl (by kernel_rfl) (fun _ _ _ h => h) (Or.inr ⟨by rfl, rfl⟩) ?_ ?_
                rotate_left
                · simp only [Act.put, List.setIfInBounds_toArray, List.set_cons_zero, List.set_cons_succ, i64_w, i32_w]
                  rfl
                refine pure_ (i := 13) (N := some 52) (v := undef) (a' := ?_) #[true, true, true, true, true, true, true, true, true, true, true, true, true, true, false, false, false, false, false, false] rfl rfl (by kernel_rfl) (fun _ _ _ h => h) (Or.inr ⟨by rfl, rfl⟩) ?_ ?_
                rotate_left
                · simp only [Act.put, List.setIfInBounds_toArray, List.set_cons_zero, List.set_cons_succ, i64_w, i32_w]
                  rfl
                refine pure_ (i := 14) (N := some 53) (v := undef) (a' := ?_) #[true, true, true, true, true, true, true, true, true, true, true, true, true, true, true, false, false, false, false, false] rfl rfl (by kernel_rfl) (fun _ _ _ h => h) (Or.inr ⟨by rfl, rfl⟩) ?_ ?_
                rotate_left
                · simp only [Act.put, List.setIfInBounds_toArray, List.set_cons_zero, List.set_cons_succ, i64_w, i32_w]
                  rfl
                refine pure_ (i := 15) (N := some 54) (v := undef) (a' := ?_) #[true, true, true, true, true, true, true, true, true, true, true, true, true, true, true, true, false, false, false, false] rfl rfl (by kernel_rfl) (fun _ _ _ h => h) (Or.inr ⟨by rfl, rfl⟩) ?_ ?_
                rotate_left
                · simp only [Act.put, List.setIfInBounds_toArray, List.set_cons_zero, List.set_cons_succ, i64_w, i32_w]
                  rfl
                refine pure_ (i := 16) (N := some 55) (v := undef) (a' := ?_) #[true, true, true, true, true, true, true, true, true, true, true, true, true, true, true, true, true, false, false, false] rfl rfl (by kernel_rfl) (fun _ _ _ h => h) (Or.inr ⟨by rfl, rfl⟩) ?_ ?_
                rotate_left
                · simp only [Act.put, List.setIfInBounds_toArray, List.set_cons_zero, List.set_cons_succ, i64_w, i32_w]
                  rfl
                refine pure_ (i := 17) (N := some 56) (v := undef) (a' := ?_) #[true, true, true, true, true, true, true, true, true, true, true, true, true, true, true, true, true, true, false, false] rfl rfl (by kernel_rfl) (fun _ _ _ h => h) (Or.inr ⟨by rfl, rfl⟩) ?_ ?_
                rotate_left
                · simp only [Act.put, List.setIfInBounds_toArray, List.set_cons_zero, List.set_cons_succ, i64_w, i32_w]
                  rfl
                refine pure_ (i := 18) (N := some 57) (v := undef) (a' := ?_) #[true, true, true, true, true, true, true, true, true, true, true, true, true, true, true, true, true, true, true, false] rfl rfl (by kernel_rfl) (fun _ _ _ h => h) (Or.inr ⟨by rfl, rfl⟩) ?_ ?_
                rotate_left
                · simp only [Act.put, List.setIfInBounds_toArray, List.set_cons_zero, List.set_cons_succ, i64_w, i32_w]
                  rfl
                refine pure_ (i := 19) (N := some 58) (v := ?_) (a' := ?_) #[true, true, true, true, true, true, true, true, true, true, true, true, true, true, true, true, true, true, true, true] rfl rfl (by kernel_rfl) (fun _ _ _ h => h) (Or.inl ⟨by rfl, ?_⟩) ?_ ?_
                rotate_left
                · intro w'
                  go_simp
                  with_reducible rfl
                rotate_left
                · simp only [Act.put, List.setIfInBounds_toArray, List.set_cons_zero, List.set_cons_succ, i64_w, i32_w]
                  rfl
                refine done_ (by kernel_rfl) ?_
                go_wp2
                rw [HNO.out (fun h => by rw [h.1] at hq1; simp at hq1)]
                refine bodyPost_ret (v := .tuple #[.agg #[.int .i64 0, .int .i64 0, .slice none 0 0], .int .i64 2]) (by simp [results, Try.results22, go_sem, x0w, x1w, x2w, x3w]) rfl ?_
                exact MakesPC_nil _ _ _ _ (below_set3 (rb := rb) (hbq.trans (Below.mono (hb3.trans (Below.mono (Below.drew (Below.refl _ _)) hb3.size)) hbq.size)) (by omega) _ _ _)
              | false =>
                cases hq2 : (yd != d0) with
                | true =>
                  go_wp2
                  refine start_ (n := 20) (S := fun w' => w'.cell? ⟨b0, oo0 + i2 * 3, none⟩ = some (.int .i64 yp) ∧ w'.cell? ⟨w.heap.size, 0, none⟩ = some (.int .i64 p) ∧ w'.cell? ⟨b0, oo0 + i2 * 3 + 1, none⟩ = some (.int .i64 yd) ∧ w'.cell? ⟨b0, oo0 + 1, none⟩ = some (.int .i64 d0)) (ds := []) #[false, false, false, false, false, false, false, false, false, false, false, false, false, false, false, false, false, false, false, false] (by kernel_rfl) rfl rfl ⟨p0, u0w, p1, l1w⟩ (fun hHeld => ?_)
                  refine pure_ (i := 0) (N := some 39) (v := ?_) (a' := ?_) #[true, false, false, false, false, false, false, false, false, false, false, false, false, false, false, false, false, false, false, false] rfl rfl (by kernel_rfl) (fun _ _ _ h => h) (Or.inl ⟨by rfl, ?_⟩) ?_ ?_
                  rotate_left
                  · intro w'
                    go_simp
                    with_reducible rfl
                  rotate_left
                  · simp only [Act.put, List.setIfInBounds_toArray, List.set_cons_zero, List.set_cons_succ, i64_w, i32_w]
                    rfl
                  refine pure_ (i := 1) (N := some 40) (v := ?_) (a' := ?_) #[true, true, false, false, false, false, false, false, false, false, false, false, false, false, false, false, false, false, false, false] rfl rfl (by kernel_rfl) (fun _ _ _ h => h) (Or.inl ⟨by rfl, ?_⟩) ?_ ?_
                  rotate_left
                  · intro w'
                    go_simp
                    with_reducible rfl
                  rotate_left
                  · simp only [Act.put, List.setIfInBounds_toArray, List.set_cons_zero, List.set_cons_succ, i64_w, i32_w]
                    rfl
                  refine pure_ (i := 2) (N := some 41) (v := ?_) (a' := ?_) #[true, true, true, false, false, false, false, false, false, false, false, false, false, false, false, false, false, false, false, false] rfl rfl (by kernel_rfl) (fun _ _ _ h => h) (Or.inl ⟨by rfl, ?_⟩) ?_ ?_
                  rotate_left
                  · intro w'
                    go_simp
                    with_reducible rfl
                  rotate_left
                  · simp only [Act.put, List.setIfInBounds_toArray, List.set_cons_zero, List.set_cons_succ, i64_w, i32_w]
                    rfl
                  refine pure_ (i := 3) (N := some 42) (v := ?_) (a' := ?_) #[true, true, true, true, false, false, false, false, false, false, false, false, false, false, false, false, false, false, false, false] rfl rfl (by kernel_rfl) (fun _ _ _ h => h) (Or.inl ⟨by rfl, ?_⟩) ?_ ?_
                  rotate_left
                  · intro w'
                    go_simp
                    with_reducible rfl
                  rotate_left
                  · simp only [Act.put, List.setIfInBounds_toArray, List.set_cons_zero, List.set_cons_succ, i64_w, i32_w]
                    rfl
                  refine pure_ (i := 5) (N := some 44) (v := ?_) (a' := ?_) #[true, true, true, true, false, true, false, false, false, false, false, false, false, false, false, false, false, false, false, false] rfl rfl (by kernel_rfl) (fun _ _ _ h => h) (Or.inl ⟨by rfl, ?_⟩) ?_ ?_
                  rotate_left
                  · intro w'
                    go_simp
                    with_reducible rfl
                  rotate_left
                  · simp only [Act.put, List.setIfInBounds_toArray, List.set_cons_zero, List.set_cons_succ, i64_w, i32_w]
                    rfl
                  refine take_ (i := 4) (N := some 43) (v := ?_) (a' := ?_) #[true, true, true, true, true, true, false, false, false, false, false, false, false, false, false, false, false, false, false, false] rfl rfl (by kernel_rfl) (fun _ _ _ h => h) (Or.inl ⟨by rfl, ?_⟩) hHeld ?_ ?_
                  rotate_left
                  · rintro w' ⟨s0, s1, s2, s3⟩
                    go_simp
                    with_reducible rfl
                  rotate_left
                  · simp only [Act.put, List.setIfInBounds_toArray, List.set_cons_zero, List.set_cons_succ, i64_w, i32_w]
                    rfl
                  refine take_ (i := 6) (N := some 45) (v := ?_) (a' := ?_) #[true, true, true, true, true, true, true, false, false, false, false, false, false, false, false, false, false, false, false, false] rfl rfl (by kernel_rfl) (fun _ _ _ h => h) (Or.inl ⟨by rfl, ?_⟩) hHeld ?_ ?_
                  rotate_left
                  · rintro w' ⟨s0, s1, s2, s3⟩
                    go_simp
                    with_reducible rfl
                  rotate_left
                  · simp only [Act.put, List.setIfInBounds_toArray, List.set_cons_zero, List.set_cons_succ, i64_w, i32_w]
                    rfl
                  refine pure_ (i := 7) (N := some 46) (v := ?_) (a' := ?_) #[true, true, true, true, true, true, true, true, false, false, false, false, false, false, false, false, false, false, false, false] rfl rfl (by kernel_rfl) (fun _ _ _ h => h) (Or.inl ⟨by rfl, ?_⟩) ?_ ?_
                  rotate_left
                  · intro w'
                    go_simp
                    with_reducible rfl
                  rotate_left
                  · simp only [Act.put, List.setIfInBounds_toArray, List.set_cons_zero, List.set_cons_succ, i64_w, i32_w]
                    rfl
                  refine pure_ (i := 8) (N := some 47) (v := ?_) (a' := ?_) #[true, true, true, true, true, true, true, true, true, false, false, false, false, false, false, false, false, false, false, false] rfl rfl (by kernel_rfl) (fun _ _ _ h => h) (Or.inl ⟨by rfl, ?_⟩) ?_ ?_
                  rotate_left
                  · intro w'
                    go_simp
                    with_reducible rfl
                  rotate_left
                  · simp only [Act.put, List.setIfInBounds_toArray, List.set_cons_zero, List.set_cons_succ, i64_w, i32_w]
                    rfl
                  refine pure_ (i := 9) (N := some 48) (v := ?_) (a' := ?_) #[true, true, true, true, true, true, true, true, true, true, false, false, false, false, false, false, false, false, false, false] rfl rfl (by kernel_rfl) (fun _ _ _ h => h) (Or.inl ⟨by rfl, ?_⟩) ?_ ?_
                  rotate_left
                  · intro w'
                    go_simp
                    with_reducible rfl
                  rotate_left
                  · simp only [Act.put, List.setIfInBounds_toArray, List.set_cons_zero, List.set_cons_succ, i64_w, i32_w]
                    rfl
                  refine pure_ (i := 10) (N := some 49) (v := ?_) (a' := ?_) #[true, true, true, true, true, true, true, true, true, true, true, false, false, false, false, false, false, false, false, false] rfl rfl (by kernel_rfl) (fun _ _ _ h => h) (Or.inl ⟨by rfl, ?_⟩) ?_ ?_
                  rotate_left
                  · intro w'
                    go_simp
                    with_reducible rfl
                  rotate_left
                  · simp only [Act.put, List.setIfInBounds_toArray, List.set_cons_zero, List.set_cons_succ, i64_w, i32_w]
                    rfl
                  refine pure_ (i := 11) (N := some 50) (v := ?_) (a' := ?_) #[true, true, true, true, true, true, true, true, true, true, true, true, false, false, false, false, false, false, false, false] rfl rfl (by kernel_rfl) (fun _ _ _ h => h) (Or.inl ⟨by rfl, ?_⟩) ?_ ?_
                  rotate_left
                  · intro w'
                    go_simp
                    with_reducible rfl
                  rotate_left
                  · simp only [Act.put, List.setIfInBounds_toArray, List.set_cons_zero, List.set_cons_succ, i64_w, i32_w]
                    rfl
                  refine pure_ (i := 12) (N := some 51) (v := ?_) (a' := ?_) #[true, true, true, true, true, true, true, true, true, true, true, true, true, false, false, false, false, false, false, false] rfl rfl (by kernel_rfl) (fun _ _ _ h => h) (Or.inl ⟨by rfl, ?_⟩) ?_ ?_
                  rotate_left
                  · intro w'
                    go_simp
                    with_reducible rfl
                  rotate_left
                  · simp only [Act.put, List.setIfInBounds_toArray, List.set_cons_zero, List.set_cons_succ, i64_w, i32_w]
                    rfl
                  refine pure_ (i := 14) (N := some 53) (v := ?_) (a' := ?_) #[true, true, true, true, true, true, true, true, true, true, true, true, true, false, true, false, false, false, false, false] rfl rfl (by kernel_rfl) (fun _ _ _ h => h) (Or.inl ⟨by rfl, ?_⟩) ?_ ?_
                  rotate_left
                  · intro w'
                    go_simp
                    with_reducible rfl
                  rotate_left
                  · simp only [Act.put, List.setIfInBounds_toArray, List.set_cons_zero, List.set_cons_succ, i64_w, i32_w]
                    rfl
                  refine pure_ (i := 15) (N := some 54) (v := ?_) (a' := ?_) #[true, true, true, true, true, true, true, true, true, true, true, true, true, false, true, true, false, false, false, false] rfl rfl (by kernel_rfl) (fun _ _ _ h => h) (Or.inl ⟨by rfl, ?_⟩) ?_ ?_
                  rotate_left
                  · intro w'
                    go_simp
                    with_reducible rfl
                  rotate_left
                  · simp only [Act.put, List.setIfInBounds_toArray, List.set_cons_zero, List.set_cons_succ, i64_w, i32_w]
                    rfl
                  refine pure_ (i := 16) (N := some 55) (v := ?_) (a' := ?_) #[true, true, true, true, true, true, true, true, true, true, true, true, true, false, true, true, true, false, false, false] rfl rfl (by kernel_rfl) (fun _ _ _ h => h) (Or.inl ⟨by rfl, ?_⟩) ?_ ?_
                  rotate_left
                  · intro w'
                    go_simp
                    with_reducible rfl
                  rotate_left
                  · simp only [Act.put, List.setIfInBounds_toArray, List.set_cons_zero, List.set_cons_succ, i64_w, i32_w]
                    rfl
                  refine take_ (i := 13) (N := some 52) (v := ?_) (a' := ?_) #[true, true, true, true, true, true, true, true, true, true, true, true, true, true, true, true, true, false, false, false] rfl rfl (by kernel_rfl) (fun _ _ _ h => h) (Or.inl ⟨by rfl, ?_⟩) hHeld ?_ ?_
                  rotate_left
                  · rintro w' ⟨s0, s1, s2, s3⟩
                    go_simp
                    with_reducible rfl
                  rotate_left
                  · simp only [Act.put, List.setIfInBounds_toArray, List.set_cons_zero, List.set_cons_succ, i64_w, i32_w]
                    rfl
                  refine take_ (i := 17) (N := some 56) (v := ?_) (a' := ?_) #[true, true, true, true, true, true, true, true, true, true, true, true, true, true, true, true, true, true, false, false] rfl rfl (by kernel_rfl) (fun _ _ _ h => h) (Or.inl ⟨by rfl, ?_⟩) hHeld ?_ ?_
                  rotate_left
                  · rintro w' ⟨s0, s1, s2, s3⟩
                    go_simp
                    with_reducible rfl
                  rotate_left
                  · simp only [Act.put, List.setIfInBounds_toArray, List.set_cons_zero, List.set_cons_succ, i64_w, i32_w]
                    rfl
                  refine pure_ (i := 18) (N := some 57) (v := ?_) (a' := ?_) #[true, true, true, true, true, true, true, true, true, true, true, true, true, true, true, true, true, true, true, false] rfl rfl (by kernel_rfl) (fun _ _ _ h => h) (Or.inl ⟨by rfl, ?_⟩) ?_ ?_
                  rotate_left
                  · intro w'
                    go_simp
                    with_reducible rfl
                  rotate_left
                  · simp only [Act.put, List.setIfInBounds_toArray, List.set_cons_zero, List.set_cons_succ, i64_w, i32_w]
                    rfl
                  refine pure_ (i := 19) (N := some 58) (v := ?_) (a' := ?_) #[true, true, true, true, true, true, true, true, true, true, true, true, true, true, true, true, true, true, true, true] rfl rfl (by kernel_rfl) (fun _ _ _ h => h) (Or.inl ⟨by rfl, ?_⟩) ?_ ?_
                  rotate_left
                  · intro w'
                    go_simp
                    with_reducible rfl
                  rotate_left
                  · simp only [Act.put, List.setIfInBounds_toArray, List.set_cons_zero, List.set_cons_succ, i64_w, i32_w]
                    rfl
                  refine done_ (by kernel_rfl) ?_
                  go_wp2
                  rw [HNO.out (fun h => by rw [h.2] at hq2; simp at hq2)]
                  refine bodyPost_ret (v := .tuple #[.agg #[.int .i64 0, .int .i64 0, .slice none 0 0], .int .i64 2]) (by simp [results, Try.results22, go_sem, x0w, x1w, x2w, x3w]) rfl ?_
                  exact MakesPC_nil _ _ _ _ (below_set3 (rb := rb) (hbq.trans (Below.mono (hb3.trans (Below.mono (Below.drew (Below.refl _ _)) hb3.size)) hbq.size)) (by omega) _ _ _)
                | false =>
                  go_wp2
                  refine start_ (n := 20) (S := fun w' => w'.cell? ⟨b0, oo0 + i2 * 3, none⟩ = some (.int .i64 yp) ∧ w'.cell? ⟨w.heap.size, 0, none⟩ = some (.int .i64 p) ∧ w'.cell? ⟨b0, oo0 + i2 * 3 + 1, none⟩ = some (.int .i64 yd) ∧ w'.cell? ⟨b0, oo0 + 1, none⟩ = some (.int .i64 d0)) (ds := []) #[false, false, false, false, false, false, false, false, false, false, false, false, false, false, false, false, false, false, false, false] (by kernel_rfl) rfl rfl ⟨p0, u0w, p1, l1w⟩ (fun hHeld => ?_)
                  refine pure_ (i := 0) (N := some 39) (v := ?_) (a' := ?_) #[true, false, false, false, false, false, false, false, false, false, false, false, false, false, false, false, false, false, false, false] rfl rfl (by kernel_rfl) (fun _ _ _ h => h) (Or.inl ⟨by rfl, ?_⟩) ?_ ?_
                  rotate_left
                  · intro w'
                    go_simp
                    with_reducible rfl
                  rotate_left
                  · simp only [Act.put, List.setIfInBounds_toArray, List.set_cons_zero, List.set_cons_succ, i64_w, i32_w]
                    rfl
                  refine pure_ (i := 1) (N := some 40) (v := ?_) (a' := ?_) #[true, true, false, false, false, false, false, false, false, false, false, false, false, false, false, false, false, false, false, false] rfl rfl (by kernel_rfl) (fun _ _ _ h => h) (Or.inl ⟨by rfl, ?_⟩) ?_ ?_
                  rotate_left
                  · intro w'
                    go_simp
                    with_reducible rfl
                  rotate_left
                  · simp only [Act.put, List.setIfInBounds_toArray, List.set_cons_zero, List.set_cons_succ, i64_w, i32_w]
                    rfl
                  refine pure_ (i := 2) (N := some 41) (v := ?_) (a' := ?_) #[true, true, true, false, false, false, false, false, false, false, false, false, false, false, false, false, false, false, false, false] rfl rfl (by kernel_rfl) (fun _ _ _ h => h) (Or.inl ⟨by rfl, ?_⟩) ?_ ?_
                  rotate_left
                  · intro w'
                    go_simp
                    with_reducible rfl
                  rotate_left
                  · simp only [Act.put, List.setIfInBounds_toArray, List.set_cons_zero, List.set_cons_succ, i64_w, i32_w]
                    rfl
                  refine pure_ (i := 3) (N := some 42) (v := ?_) (a' := ?_) #[true, true, true, true, false, false, false, false, false, false, false, false, false, false, false, false, false, false, false, false] rfl rfl (by kernel_rfl) (fun _ _ _ h => h) (Or.inl ⟨by rfl, ?_⟩) ?_ ?_
                  rotate_left
                  · intro w'
                    go_simp
                    with_reducible rfl
                  rotate_left
                  · simp only [Act.put, List.setIfInBounds_toArray, List.set_cons_zero, List.set_cons_succ, i64_w, i32_w]
                    rfl
                  refine pure_ (i := 5) (N := some 44) (v := ?_) (a' := ?_) #[true, true, true, true, false, true, false, false, false, false, false, false, false, false, false, false, false, false, false, false] rfl rfl (by kernel_rfl) (fun _ _ _ h => h) (Or.inl ⟨by rfl, ?_⟩) ?_ ?_
                  rotate_left
                  · intro w'
                    go_simp
                    with_reducible rfl
                  rotate_left
                  · simp only [Act.put, List.setIfInBounds_toArray, List.set_cons_zero, List.set_cons_succ, i64_w, i32_w]
                    rfl
                  refine take_ (i := 4) (N := some 43) (v := ?_) (a' := ?_) #[true, true, true, true, true, true, false, false, false, false, false, false, false, false, false, false, false, false, false, false] rfl rfl (by kernel_rfl) (fun _ _ _ h => h) (Or.inl ⟨by rfl, ?_⟩) hHeld ?_ ?_
                  rotate_left
                  · rintro w' ⟨s0, s1, s2, s3⟩
                    go_simp
                    with_reducible rfl
                  rotate_left
                  · simp only [Act.put, List.setIfInBounds_toArray, List.set_cons_zero, List.set_cons_succ, i64_w, i32_w]
                    rfl
                  refine take_ (i := 6) (N := some 45) (v := ?_) (a' := ?_) #[true, true, true, true, true, true, true, false, false, false, false, false, false, false, false, false, false, false, false, false] rfl rfl (by kernel_rfl) (fun _ _ _ h => h) (Or.inl ⟨by rfl, ?_⟩) hHeld ?_ ?_
                  rotate_left
                  · rintro w' ⟨s0, s1, s2, s3⟩
                    go_simp
                    with_reducible rfl
                  rotate_left
                  · simp only [Act.put, List.setIfInBounds_toArray, List.set_cons_zero, List.set_cons_succ, i64_w, i32_w]
                    rfl
                  refine pure_ (i := 7) (N := some 46) (v := ?_) (a' := ?_) #[true, true, true, true, true, true, true, true, false, false, false, false, false, false, false, false, false, false, false, false] rfl rfl (by kernel_rfl) (fun _ _ _ h => h) (Or.inl ⟨by rfl, ?_⟩) ?_ ?_
                  rotate_left
                  · intro w'
                    go_simp
                    with_reducible rfl
                  rotate_left
                  · simp only [Act.put, List.setIfInBounds_toArray, List.set_cons_zero, List.set_cons_succ, i64_w, i32_w]
                    rfl
                  refine pure_ (i := 8) (N := some 47) (v := ?_) (a' := ?_) #[true, true, true, true, true, true, true, true, true, false, false, false, false, false, false, false, false, false, false, false] rfl rfl (by kernel_rfl) (fun _ _ _ h => h) (Or.inl ⟨by rfl, ?_⟩) ?_ ?_
                  rotate_left
                  · intro w'
                    go_simp
                    with_reducible rfl
                  rotate_left
                  · simp only [Act.put, List.setIfInBounds_toArray, List.set_cons_zero, List.set_cons_succ, i64_w, i32_w]
                    rfl
                  refine pure_ (i := 9) (N := some 48) (v := ?_) (a' := ?_) #[true, true, true, true, true, true, true, true, true, true, false, false, false, false, false, false, false, false, false, false] rfl rfl (by kernel_rfl) (fun _ _ _ h => h) (Or.inl ⟨by rfl, ?_⟩) ?_ ?_
                  rotate_left
                  · intro w'
                    go_simp
                    with_reducible rfl
                  rotate_left
                  · simp only [Act.put, List.setIfInBounds_toArray, List.set_cons_zero, List.set_cons_succ, i64_w, i32_w]
                    rfl
                  refine pure_ (i := 10) (N := some 49) (v := ?_) (a' := ?_) #[true, true, true, true, true, true, true, true, true, true, true, false, false, false, false, false, false, false, false, false] rfl rfl (by kernel_rfl) (fun _ _ _ h => h) (Or.inl ⟨by rfl, ?_⟩) ?_ ?_
                  rotate_left
                  · intro w'
                    go_simp
                    with_reducible rfl
                  rotate_left
                  · simp only [Act.put, List.setIfInBounds_toArray, List.set_cons_zero, List.set_cons_succ, i64_w, i32_w]
                    rfl
                  refine pure_ (i := 11) (N := some 50) (v := ?_) (a' := ?_) #[true, true, true, true, true, true, true, true, true, true, true, true, false, false, false, false, false, false, false, false] rfl rfl (by kernel_rfl) (fun _ _ _ h => h) (Or.inl ⟨by rfl, ?_⟩) ?_ ?_
                  rotate_left
                  · intro w'
                    go_simp
                    with_reducible rfl
                  rotate_left
                  · simp only [Act.put, List.setIfInBounds_toArray, List.set_cons_zero, List.set_cons_succ, i64_w, i32_w]
                    rfl
                  refine pure_ (i := 12) (N := some 51) (v := ?_) (a' := ?_) #[true, true, true, true, true, true, true, true, true, true, true, true, true, false, false, false, false, false, false, false] rfl rfl (by kernel_rfl) (fun _ _ _ h => h) (Or.inl ⟨by rfl, ?_⟩) ?_ ?_
                  rotate_left
                  · intro w'
                    go_simp
                    with_reducible rfl
                  rotate_left
                  · simp only [Act.put, List.setIfInBounds_toArray, List.set_cons_zero, List.set_cons_succ, i64_w, i32_w]
                    rfl
                  refine pure_ (i := 14) (N := some 53) (v := ?_) (a' := ?_) #[true, true, true, true, true, true, true, true, true, true, true, true, true, false, true, false, false, false, false, false] rfl rfl (by kernel_rfl) (fun _ _ _ h => h) (Or.inl ⟨by rfl, ?_⟩) ?_ ?_
                  rotate_left
                  · intro w'
                    go_simp
                    with_reducible rfl
                  rotate_left
                  · simp only [Act.put, List.setIfInBounds_toArray, List.set_cons_zero, List.set_cons_succ, i64_w, i32_w]
                    rfl
                  refine pure_ (i := 15) (N := some 54) (v := ?_) (a' := ?_) #[true, true, true, true, true, true, true, true, true, true, true, true, true, false, true, true, false, false, false, false] rfl rfl (by kernel_rfl) (fun _ _ _ h => h) (Or.inl ⟨by rfl, ?_⟩) ?_ ?_
                  rotate_left
                  · intro w'
                    go_simp
                    with_reducible rfl
                  rotate_left
                  · simp only [Act.put, List.setIfInBounds_toArray, List.set_cons_zero, List.set_cons_succ, i64_w, i32_w]
                    rfl
                  refine pure_ (i := 16) (N := some 55) (v := ?_) (a' := ?_) #[true, true, true, true, true, true, true, true, true, true, true, true, true, false, true, true, true, false, false, false] rfl rfl (by kernel_rfl) (fun _ _ _ h => h) (Or.inl ⟨by rfl, ?_⟩) ?_ ?_
                  rotate_left
                  · intro w'
                    go_simp
                    with_reducible rfl
                  rotate_left
                  · simp only [Act.put, List.setIfInBounds_toArray, List.set_cons_zero, List.set_cons_succ, i64_w, i32_w]
                    rfl
                  refine take_ (i := 13) (N := some 52) (v := ?_) (a' := ?_) #[true, true, true, true, true, true, true, true, true, true, true, true, true, true, true, true, true, false, false, false] rfl rfl (by kernel_rfl) (fun _ _ _ h => h) (Or.inl ⟨by rfl, ?_⟩) hHeld ?_ ?_
                  rotate_left
                  · rintro w' ⟨s0, s1, s2, s3⟩
                    go_simp
                    with_reducible rfl
                  rotate_left
                  · simp only [Act.put, List.setIfInBounds_toArray, List.set_cons_zero, List.set_cons_succ, i64_w, i32_w]
                    rfl
                  refine take_ (i := 17) (N := some 56) (v := ?_) (a' := ?_) #[true, true, true, true, true, true, true, true, true, true, true, true, true, true, true, true, true, true, false, false] rfl rfl (by kernel_rfl) (fun _ _ _ h => h) (Or.inl ⟨by rfl, ?_⟩) hHeld ?_ ?_
                  rotate_left
                  · rintro w' ⟨s0, s1, s2, s3⟩
                    go_simp
                    with_reducible rfl
                  rotate_left
                  · simp only [Act.put, List.setIfInBounds_toArray, List.set_cons_zero, List.set_cons_succ, i64_w, i32_w]
                    rfl
                  refine pure_ (i := 18) (N := some 57) (v := ?_) (a' := ?_) #[true, true, true, true, true, true, true, true, true, true, true, true, true, true, true, true, true, true, true, false] rfl rfl (by kernel_rfl) (fun _ _ _ h => h) (Or.inl ⟨by rfl, ?_⟩) ?_ ?_
                  rotate_left
                  · intro w'
                    go_simp
                    with_reducible rfl
                  rotate_left
                  · simp only [Act.put, List.setIfInBounds_toArray, List.set_cons_zero, List.set_cons_succ, i64_w, i32_w]
                    rfl
                  refine pure_ (i := 19) (N := some 58) (v := ?_) (a' := ?_) #[true, true, true, true, true, true, true, true, true, true, true, true, true, true, true, true, true, true, true, true] rfl rfl (by kernel_rfl) (fun _ _ _ h => h) (Or.inl ⟨by rfl, ?_⟩) ?_ ?_
                  rotate_left
                  · intro w'
                    go_simp
                    with_reducible rfl
                  rotate_left
                  · simp only [Act.put, List.setIfInBounds_toArray, List.set_cons_zero, List.set_cons_succ, i64_w, i32_w]
                    rfl
                  refine done_ (by kernel_rfl) ?_
                  go_wp2
                  go_roundg (gk - 1)
                  case measure => have := HIK2.out; omega
                  case rel => exact ⟨i2 + 1, by have := HIK2.out; omega, by go_num, hb3.drew, HYES.out ⟨by simpa using hq1, by simpa using hq2⟩⟩
            · have hie2 : i2 = m := by have := HIK2.out; omega
              have hsame : sameB p ps = true := sameB_yes hpl (fun j hj => HALL2.out j (by omega))
              have hcan := tss_canon (p := p) HQ.out hsame
              have hni2 : ¬ (i2 : Int) < m := by omega
              have hlsw := Kd.C_below hls hb3
              have hcsw := Kd.C_below hcs hb3
              have hT := fun W h h' => l01Replace_c p d (ps.getD 0 zP).d A c ts (some ⟨b0, oo0, none⟩) cl ps m hpl W h h' hl1 hm1 hm3 HPP.out.1 HPP.out.2 hcan HCN.out (fun j hj => sameB_all (by omega) hsame) (fun j hj => polys_len (i := j) (by omega) HQ.out)
              have HE := And.intro HQ.out (And.intro (show (ps.length : Int) = d ∧ sameB p ps = true from ⟨by rw [hpl]; exact HML.out, hsame⟩) True.intro)
              cases hbd : bndB (tss ps) ts with
              | false =>
                rw [hbd] at hT
                simp only [Bool.false_eq_true, if_false] at hT
                have hr := HR3.out HE.1 HE.2.1 hbd
                clear HE
                generalize (ps.getD 0 zP).d = d0 at *
                go_wp2_with (go_at_call 57; (with_reducible refine to_makesPB (V := wr) (Below.refl _ _) (hT _ hcsw hlsw) ?_); intro w8 B8 c8 hb8 hb8' hl8 hR8; obtain ⟨V6, hV6, hb9, y0, y1, y2⟩ := poly_oneP w8 p d0 (.slice B8 0 c8) ⟨rfl, rfl⟩ 45; have hb10 := hb8.trans (hb9.mono hb8.size); have z0 := pw_cell_below hb10 x0w; have z1 := pw_cell_below hb10 x1w; have z2 := pw_cell_below hb10 x2w; have z3 := fun j => (hb10.frozen (p := ⟨rb, j, none⟩) zrw).trans (x3w j))
                subst hr
                refine bodyPost_ret (v := .tuple #[.agg #[.int .i64 0, .int .i64 0, .slice none 0 0], .int .i64 3]) (by simp [results, Try.results22, go_sem, z0, z1, z2, z3]) rfl ?_
                exact MakesPC_nil _ _ _ _ (below_set3 (rb := rb) (hbq.trans (Below.mono (hb3.trans (hb10.mono hb3.size)) hbq.size)) (by omega) _ _ _)
              | true =>
                rw [hbd] at hT
                simp only [if_true] at hT
                have hr := HR0.out HE.1 HE.2.1 hbd
                clear HE
                generalize subL p (tss ps) ts = out at *
                generalize (ps.getD 0 zP).d = d0 at *
                go_wp2_with (go_at_call 57; (with_reducible refine to_makesPB (V := wr) (Below.refl _ _) (hT _ hcsw hlsw) ?_); intro w8 B8 c8 hb8 hb8' hl8 hR8; obtain ⟨V6, hV6, hb9, y0, y1, y2⟩ := poly_oneP w8 p d0 (.slice B8 out.length c8) ⟨rfl, rfl⟩ 45; have hb10 := hb8.trans (hb9.mono hb8.size); have z0 := pw_cell_below hb10 x0w; have z1 := pw_cell_below hb10 x1w; have z2 := pw_cell_below hb10 x2w; have z3 := fun j => (hb10.frozen (p := ⟨rb, j, none⟩) zrw).trans (x3w j))
                subst hr
                have hs8 := hb8.size
                have hs3 := hb3.size
                have hsq := hbq.size
                refine bodyPost_ret (v := .tuple #[.agg #[.int .i64 p, .int .i64 d0, .slice B8 out.length c8], .int .i64 0]) (by simp [results, Try.results22, go_sem, z0, z1, z2, z3]) rfl ⟨B8, c8, rfl, ?_, ?_⟩
                · exact Kd.R_lower (R_set3 (Kd.R_mono (Kd.R_bound (Kd.R_below hR8 hb9)) (ok' := fun k => k ≠ rb) (fun k hk => by have h7 : wr.heap.size ≤ k := hk.2.1; show k ≠ rb; omega)) (fun k hk => hk) (Nat.le_refl _) _ _ _) (by omega)
                · exact below_set3 (hbq.trans (Below.mono (hb3.trans (hb10.mono hb3.size)) hbq.size)) (by omega) _ _ _
        · have hne : ((m : Int) != d) = true := by simpa using hml
          have HN := Lib.hid (HR2.out HQ.out (by rw [hpl]; exact fun h => hml h.1))
          go_wp2
          rw [HN.out]
          refine bodyPost_ret (v := .tuple #[.agg #[.int .i64 0, .int .i64 0, .slice none 0 0], .int .i64 2]) (by simp [results, Try.results22, go_sem, x0, x1, x2, x3]) rfl ?_
          exact MakesPC_nil _ _ _ _ (below_set3 (rb := rb) (hbw.trans (hb.mono hbw.size)) (by omega) _ _ _)
end Go.Proofs.Ytneknpamceipiaa
