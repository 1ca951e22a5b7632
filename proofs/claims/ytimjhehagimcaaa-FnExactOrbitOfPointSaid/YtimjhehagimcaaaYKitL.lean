/- Walks of the functions on polynomials, numbers and rows, of both sides; no condition. -/
import Derived.Test.YtimjhehagimcaaaYKitG
import Derived.Test.YtimjhehagimcaaaYKitE
import Derived.Test.YtimjhehagimcaaaYKitC
import Derived.Test.YtimjhehagimcaaaYAccK
import Derived.Deep.RegionWith
import Derived.Deep.RegionHeld3
import Derived.Deep.RegionLaw
import Derived.Deep.CutRange
/- The points to which matrices lead points, of both sides; equal lists of numbers; no condition. -/
set_option linter.unusedVariables false
set_option linter.unusedSimpArgs false
namespace Go.Proofs.Ytimjhehagimcaaa
open Go.RowKit Go.Proofs.YtimjhehagimcaaaW.PrintWords
attribute [local go_sem] Later.cell Later.frozen Later.lt Later.lt_add Later.le Later.le_add Later.ne Later.ne' add_at
/-! ### plain -/
def ledS (x : List Int) (g : M9) (j : Nat) : Nat → Int
  | 0 => 0
  | i + 1 => ledS x g j i + x.getD i 0 * g.num i j
def ledL (p : Int) (n : Nat) (x : List Int) (g : M9) : List Int := (List.range n).map fun j => ledS x g j n % p
def ledD (p : Int) (n : Nat) (x : List Int) (g : M9) (i j : Nat) : List Int := (List.range n).map fun t => ledS x g t (if t < j then i + 1 else i) % p
theorem ledL_len (p : Int) (n : Nat) (x : List Int) (g : M9) : (ledL p n x g).length = n := by simp [ledL]
theorem ledD_len (p : Int) (n : Nat) (x : List Int) (g : M9) (i j : Nat) : (ledD p n x g i j).length = n := by simp [ledD]
theorem ledD_zero (p : Int) (n : Nat) (x : List Int) (g : M9) : List.replicate n 0 = ledD p n x g 0 0 := by
  refine List.ext_getElem (by simp [ledD]) fun i h1 h2 => ?_
  simp [ledD, ledS]
theorem ledD_get {p : Int} {n : Nat} {x : List Int} {g : M9} {i j : Nat} (hj : j < n) : (ledD p n x g i j).getD j 0 = ledS x g j i % p := by
  simp [ledD, List.getD_eq_getElem?_getD, hj]
theorem ledD_step {p : Int} {n : Nat} {x : List Int} {g : M9} {i j : Nat} (hj : j < n) : (ledD p n x g i j).set j ((ledS x g j i % p + x.getD i 0 * g.num i j) % p) = ledD p n x g i (j + 1) := by
  refine List.ext_getElem (by simp [ledD]) fun t h1 h2 => ?_
  simp [ledD] at h1
  rw [List.getElem_set]
  by_cases h : j = t
  · subst h
    simp [ledD, ledS]
  · rw [if_neg h]
    have e : (t < j + 1) = (t < j) := by simp; omega
    simp [ledD, e]
theorem ledD_next (p : Int) (n : Nat) (x : List Int) (g : M9) (i : Nat) : ledD p n x g i n = ledD p n x g (i + 1) 0 := by
  refine List.ext_getElem (by simp [ledD]) fun t h1 h2 => ?_
  simp [ledD] at h1
  simp [ledD, h1]
theorem ledD_end (p : Int) (n : Nat) (x : List Int) (g : M9) : ledD p n x g n 0 = ledL p n x g := by simp [ledD, ledL]
theorem ledL_take {p : Int} {n : Nat} {x : List Int} {g : M9} {j : Nat} (h : j < n) : (ledL p n x g).take (j + 1) = (ledL p n x g).take j ++ [ledS x g j n % p] := by
  rw [List.take_succ_eq_append_getElem (by rw [ledL_len]; exact h)]
  simp [ledL]
theorem led_bd {x : List Int} {g : M9} {p : Int} (hp : p ≤ 13) (hg : g.le p) (hx : ∀ i, 0 ≤ x.getD i 0 ∧ x.getD i 0 < p) (j : Nat) : ∀ i, 0 ≤ ledS x g j i ∧ ledS x g j i ≤ 144 * i
  | 0 => ⟨Int.le_refl 0, by simp [ledS]⟩
  | i + 1 => by
    obtain ⟨h1, h2⟩ := led_bd hp hg hx j i
    have h3 := hx i
    have h4 := num_ok hg i j
    have h5 := mul_bd3 (x := x.getD i 0) (y := g.num i j) (by omega) (by omega) (by omega) (by omega)
    show 0 ≤ ledS x g j i + _ ∧ ledS x g j i + _ ≤ 144 * ((i + 1 : Nat) : Int)
    omega
theorem allB_nums {p : Int} {x : List Int} (hp : 2 ≤ p) (h : allB p x = true) : ∀ i, 0 ≤ x.getD i 0 ∧ x.getD i 0 < p := fun i => by
  by_cases hi : i < x.length
  · unfold allB at h
    rw [List.all_eq_true] at h
    have := h i (List.mem_range.2 hi)
    generalize x.getD i 0 = a at *
    unfold inB at this
    simp at this
    omega
  · rw [List.getD_eq_getElem?_getD, List.getElem?_eq_none (by omega)]
    simp
    omega
/-! ### the program's -/
set_option maxRecDepth 100000 in
set_option maxHeartbeats 2000000 in
theorem led_c {p : Int} {n : Nat} {xs : List Int} {m c : Nat} {A : Option Addr} (g : M9) {w : World} (hC : kI.C w A m xs) (hm : m = n) (hp : 2 ≤ p) (hp' : p ≤ 13) (hn1 : 1 ≤ n) (hn3 : n ≤ 3) (hg : g.le p) (hx : ∀ i, 0 ≤ xs.getD i 0 ∧ xs.getD i 0 < p) :
    Calls Try.prog 107 #[.int .i64 p, .int .i64 n, .slice A m c, .agg #[.int .u8 (g.r0.a.toNat : Int), .int .u8 (g.r0.b.toNat : Int), .int .u8 (g.r0.c.toNat : Int), .int .u8 (g.r1.a.toNat : Int), .int .u8 (g.r1.b.toNat : Int), .int .u8 (g.r1.c.toNat : Int), .int .u8 (g.r2.a.toNat : Int), .int .u8 (g.r2.b.toNat : Int), .int .u8 (g.r2.c.toNat : Int)]] w (Makes kI 2 (ledL p n xs g) w) := by
  have hlen := Kd.C_len hC
  have hm : xs.length = n := by rw [← hm, ← hlen]
  obtain rfl : m = n := by omega
  have HX := Lib.hid hx
  have HG := Lib.hid hg
  clear hx hg hlen
  go_enter Try.func107, Try.ntmps107
  go_wp2_with (refine Kd.R_make kI (w0 := w.alloc (.cells #[.int .u8 (g.r0.a.toNat : Int), .int .u8 (g.r0.b.toNat : Int), .int .u8 (g.r0.c.toNat : Int), .int .u8 (g.r1.a.toNat : Int), .int .u8 (g.r1.b.toNat : Int), .int .u8 (g.r1.c.toNat : Int), .int .u8 (g.r2.a.toNat : Int), .int .u8 (g.r2.b.toNat : Int), .int .u8 (g.r2.c.toNat : Int)] 41)) (w.heap.size + 1) 2 rfl (N := 14) rfl 55 (.tmp 13) (.tmp 13) rfl (m : Int) rfl rfl Try.underlying55 _ 8 infoI rfl (by decide) (by decide) 0 (ok := fun _ => True) (okp := fun _ => False) rfl (fun _ h => h.elim) trivial (by omega) (by omega) (Below.refl _ _) (by simp) ?_; intro v1 w1 HR hb1 _ _)
  rw [Int.toNat_natCast, ledD_zero p m xs g] at HR
  obtain ⟨gb, cap, hv, hgb, hgs, _⟩ := Kd.R_form HR (by rw [ledD_len]; omega)
  rw [ledD_len] at hv
  subst hv
  have c1 : ∀ i j, i < 3 → j < 3 → w1.cell? ⟨w.heap.size, i * 3 + j, none⟩ = some (.int .u8 (g.num i j)) := fun i j hi hj => pw_cell_below (hb1.mono (by simp)) (box_at w g _ i j hi hj)
  have hbw : Below w.heap.size w w1 := (below_alloc (Below.refl _ _) _).trans (hb1.mono (by simp))
  have hz0 := World.block_lt_of_cell? _ _ (c1 0 0 (by omega) (by omega))
  simp only [] at hz0
  have C1 := Lib.hid c1
  have HBW := Lib.hid hbw
  clear c1 hbw hb1
  go_loopg [17] m (fun k v w' => ∃ (i : Nat), i + k = m ∧ v = .int .i64 i ∧ Below (w.heap.size + 1) w1 w' ∧ kI.R 2 w' (w.heap.size + 1) (fun _ => True) (.slice (some ⟨gb, 0, none⟩) m cap) (ledD p m xs g i 0))
  case atStart => exact ⟨0, by omega, rfl, Below.refl _ _, HR⟩
  case round =>
    clear HR
    obtain ⟨i, hik, rfl, hb, hR⟩ := hrel
    have HIK := Lib.hid hik
    clear hik
    by_cases hi : i < m
    · obtain ⟨b, o, hA, q0⟩ := kI_at hC i (by omega)
      subst hA
      have kq0 := World.block_lt_of_cell? _ _ q0
      have q0 := (hb.cell (show b < w.heap.size + 1 by simp only [] at kq0; omega)).trans (pw_cell_below HBW.out q0)
      have hi0 : (0 : Int) ≤ i := by omega
      have hi1 : (i : Int) < m := by omega
      have hi3 : (i : Int) < 3 := by omega
      have hin : ((i : Int)).toNat = i := by omega
      have hxi := HX.out i
      have hstep : ∀ j, j < m → (ledD p m xs g i j).set j ((ledS xs g j i % p + xs.getD i 0 * g.num i j) % p) = ledD p m xs g i (j + 1) := fun j hj => ledD_step hj
      have HSTEP := Lib.hid hstep
      clear hstep
      generalize xs.getD i 0 = x at *
      go_wp2
      go_loopg [23] m (fun k v w' => ∃ (j : Nat), j + k = m ∧ v = .int .i64 j ∧ Below (w.heap.size + 1) w1 w' ∧ kI.R 2 w' (w.heap.size + 1) (fun _ => True) (.slice (some ⟨gb, 0, none⟩) m cap) (ledD p m xs g i j))
      case atStart => exact ⟨0, by omega, rfl, hb, hR⟩
      case round =>
        clear hb hR q0
        obtain ⟨j, hjk, rfl, hb, hR⟩ := hrel
        have HJK := Lib.hid hjk
        clear hjk
        by_cases hj : j < m
        · have q := (hb.cell (show w.heap.size < w.heap.size + 1 by omega)).trans (C1.out i j (by omega) (by omega))
          obtain ⟨f0, f1⟩ := kI_cell hR j (by omega)
          rw [ledD_get hj] at f0
          have HST := Lib.hid (HSTEP.out j hj)
          have hnum := num_ok HG.out i j
          have hm1 := Int.emod_nonneg (ledS xs g j i) (show p ≠ 0 by omega)
          have hm2 := Int.emod_lt_of_pos (ledS xs g j i) (show 0 < p by omega)
          generalize ledS xs g j i % p = s at *
          generalize g.num i j = u at *
          have hmul := mul_bd3 (x := x) (y := u) (by omega) (by omega) (by omega) (by omega)
          have hpz : p ≠ 0 := by omega
          have hj1 : (j : Int) < m := by omega
          have hj3 : (j : Int) < 3 := by omega
          have hj0 : (0 : Int) ≤ j := by omega
          have hjn : ((j : Int)).toNat = j := by omega
          go_wp2
          go_region
          all_goals go_wp2
          go_roundg (gk - 1)
          case measure => have := HJK.out; omega
          case rel =>
            have hv : (wrap64 (s + wrap64 (x * u))).tmod p = (s + x * u) % p := by
              rw [wrap64_fix (show -1000000000000 ≤ x * u by omega) (by omega), wrap64_fix (show -1000000000000 ≤ s + x * u by omega) (by omega)]
              exact Int.tmod_eq_emod_of_nonneg (by omega)
            refine ⟨j + 1, by have := HJK.out; omega, by go_num, (hb.setCell (p := ⟨gb, j, none⟩) (show w.heap.size + 1 ≤ gb from hgb) _).drew, ?_⟩
            rw [← HST.out]
            first | (rw [hv]; exact Kd.R_drew (kI_set hR j _)) | exact Kd.R_drew (kI_set hR j _)
        · have hje : j = m := by have := HJK.out; omega
          subst hje
          rw [ledD_next] at hR
          go_wp2
          go_roundg (j - i - 1)
          case measure => have := HIK.out; omega
          case rel => exact ⟨i + 1, by have := HIK.out; omega, by go_num, hb, hR⟩
    · have hie : i = m := by have := HIK.out; omega
      subst hie
      rw [ledD_end] at hR
      go_wp2
      have hl := ledL_len p i xs g
      exact bodyPost_ret (v := .slice (some ⟨gb, 0, none⟩) (ledL p i xs g).length cap) (by simp [results, Try.results107, go_sem, hl]) rfl ⟨_, rfl, by rw [hl]; exact Kd.R_lower hR (by omega), HBW.out.trans (hb.mono (by omega))⟩
/-! ### the reference's -/
theorem ledS_step (x : List Int) (g : M9) (j i : Nat) : ledS x g j (i + 1) = ledS x g j i + x.getD i 0 * g.num i j := rfl
set_option maxRecDepth 100000 in
set_option maxHeartbeats 2000000 in
theorem l02Lead_c {p : Int} {n : Nat} {xs : List Int} {m c : Nat} {A : Option Addr} (g : M9) {w : World} (hC : kI.C w A m xs) (hm : m = n) (hp : 2 ≤ p) (hp' : p ≤ 13) (hn1 : 1 ≤ n) (hn3 : n ≤ 3) (hg : g.le p) (hx : ∀ i, 0 ≤ xs.getD i 0 ∧ xs.getD i 0 < p) :
    Calls Try.prog 103 #[.int .i64 p, .int .i64 n, .agg #[.int .u8 (g.r0.a.toNat : Int), .int .u8 (g.r0.b.toNat : Int), .int .u8 (g.r0.c.toNat : Int), .int .u8 (g.r1.a.toNat : Int), .int .u8 (g.r1.b.toNat : Int), .int .u8 (g.r1.c.toNat : Int), .int .u8 (g.r2.a.toNat : Int), .int .u8 (g.r2.b.toNat : Int), .int .u8 (g.r2.c.toNat : Int)], .slice A m c] w (Makes kI 2 (ledL p n xs g) w) := by
  have hlen := Kd.C_len hC
  have hm : xs.length = n := by rw [← hm, ← hlen]
  obtain rfl : m = n := by omega
  have HX := Lib.hid hx
  have HG := Lib.hid hg
  have hC1 := Kd.C_alloc hC (.cells #[.int .u8 (g.r0.a.toNat : Int), .int .u8 (g.r0.b.toNat : Int), .int .u8 (g.r0.c.toNat : Int), .int .u8 (g.r1.a.toNat : Int), .int .u8 (g.r1.b.toNat : Int), .int .u8 (g.r1.c.toNat : Int), .int .u8 (g.r2.a.toNat : Int), .int .u8 (g.r2.b.toNat : Int), .int .u8 (g.r2.c.toNat : Int)] 41)
  have hbd := led_bd hp' hg hx
  have HBD := Lib.hid hbd
  clear hx hg hlen hbd
  go_enter Try.func103, Try.ntmps103
  go_wp2
  have hR0 := R_zero kI (heap_alloc_last (w.alloc (.cells #[.int .u8 (g.r0.a.toNat : Int), .int .u8 (g.r0.b.toNat : Int), .int .u8 (g.r0.c.toNat : Int), .int .u8 (g.r1.a.toNat : Int), .int .u8 (g.r1.b.toNat : Int), .int .u8 (g.r1.c.toNat : Int), .int .u8 (g.r2.a.toNat : Int), .int .u8 (g.r2.b.toNat : Int), .int .u8 (g.r2.c.toNat : Int)] 41)) (.cells #[] 2)) (Nat.le_refl _)
  have hb0 : Below (w.alloc (.cells #[.int .u8 (g.r0.a.toNat : Int), .int .u8 (g.r0.b.toNat : Int), .int .u8 (g.r0.c.toNat : Int), .int .u8 (g.r1.a.toNat : Int), .int .u8 (g.r1.b.toNat : Int), .int .u8 (g.r1.c.toNat : Int), .int .u8 (g.r2.a.toNat : Int), .int .u8 (g.r2.b.toNat : Int), .int .u8 (g.r2.c.toNat : Int)] 41)).heap.size (w.alloc (.cells #[.int .u8 (g.r0.a.toNat : Int), .int .u8 (g.r0.b.toNat : Int), .int .u8 (g.r0.c.toNat : Int), .int .u8 (g.r1.a.toNat : Int), .int .u8 (g.r1.b.toNat : Int), .int .u8 (g.r1.c.toNat : Int), .int .u8 (g.r2.a.toNat : Int), .int .u8 (g.r2.b.toNat : Int), .int .u8 (g.r2.c.toNat : Int)] 41)) ((w.alloc (.cells #[.int .u8 (g.r0.a.toNat : Int), .int .u8 (g.r0.b.toNat : Int), .int .u8 (g.r0.c.toNat : Int), .int .u8 (g.r1.a.toNat : Int), .int .u8 (g.r1.b.toNat : Int), .int .u8 (g.r1.c.toNat : Int), .int .u8 (g.r2.a.toNat : Int), .int .u8 (g.r2.b.toNat : Int), .int .u8 (g.r2.c.toNat : Int)] 41)).alloc (.cells #[] 2)) := below_alloc (Below.refl _ _) _
  have hwV : Below w.heap.size w (w.alloc (.cells #[.int .u8 (g.r0.a.toNat : Int), .int .u8 (g.r0.b.toNat : Int), .int .u8 (g.r0.c.toNat : Int), .int .u8 (g.r1.a.toNat : Int), .int .u8 (g.r1.b.toNat : Int), .int .u8 (g.r1.c.toNat : Int), .int .u8 (g.r2.a.toNat : Int), .int .u8 (g.r2.b.toNat : Int), .int .u8 (g.r2.c.toNat : Int)] 41)) := below_alloc (Below.refl _ _) _
  have hzV : (w.alloc (.cells #[.int .u8 (g.r0.a.toNat : Int), .int .u8 (g.r0.b.toNat : Int), .int .u8 (g.r0.c.toNat : Int), .int .u8 (g.r1.a.toNat : Int), .int .u8 (g.r1.b.toNat : Int), .int .u8 (g.r1.c.toNat : Int), .int .u8 (g.r2.a.toNat : Int), .int .u8 (g.r2.b.toNat : Int), .int .u8 (g.r2.c.toNat : Int)] 41)).heap.size = w.heap.size + 1 := by simp
  have c1 : ∀ i j, i < 3 → j < 3 → (w.alloc (.cells #[.int .u8 (g.r0.a.toNat : Int), .int .u8 (g.r0.b.toNat : Int), .int .u8 (g.r0.c.toNat : Int), .int .u8 (g.r1.a.toNat : Int), .int .u8 (g.r1.b.toNat : Int), .int .u8 (g.r1.c.toNat : Int), .int .u8 (g.r2.a.toNat : Int), .int .u8 (g.r2.b.toNat : Int), .int .u8 (g.r2.c.toNat : Int)] 41)).cell? ⟨w.heap.size, i * 3 + j, none⟩ = some (.int .u8 (g.num i j)) := fun i j hi hj => box_at w g _ i j hi hj
  have C1 := Lib.hid c1
  clear c1
  clear hC
  generalize w.alloc (.cells #[.int .u8 (g.r0.a.toNat : Int), .int .u8 (g.r0.b.toNat : Int), .int .u8 (g.r0.c.toNat : Int), .int .u8 (g.r1.a.toNat : Int), .int .u8 (g.r1.b.toNat : Int), .int .u8 (g.r1.c.toNat : Int), .int .u8 (g.r2.a.toNat : Int), .int .u8 (g.r2.b.toNat : Int), .int .u8 (g.r2.c.toNat : Int)] 41) = V at *
  rw [hzV] at hR0
  go_loopg [10, 9] m (fun k v s w' => ∃ (j : Nat) (B : Option Addr) (cb : Nat), j + k = m ∧ v = .int .i64 j ∧ s = .slice B j cb ∧ kI.R 2 w' V.heap.size (fun _ => True) (.slice B j cb) ((ledL p m xs g).take j) ∧ Below V.heap.size V w')
  case atStart => exact ⟨0, _, 0, by omega, rfl, rfl, by rw [hzV]; exact hR0, hb0⟩
  case round =>
    clear hR0 hb0
    obtain ⟨j, B, cb, hjk, rfl, rfl, hR, hb⟩ := hrel
    have HJK := Lib.hid hjk
    clear hjk
    by_cases hj : j < m
    · have hj0 : (0 : Int) ≤ j := by omega
      have hj1 : (j : Int) < m := by omega
      have hj3 : (j : Int) < 3 := by omega
      have hjn : ((j : Int)).toNat = j := by omega
      have HR := Lib.hid hR
      have HB := Lib.hid hb
      clear hR hb
      go_wp2
      go_loopg [12, 11] m (fun k v s w'' => ∃ (i : Nat) (y : Later wr), i + k = m ∧ v = .int .i64 i ∧ s = .int .i64 (ledS xs g j i) ∧ w'' = y.W)
      case atStart => exact ⟨0, ⟨wr, Below.refl _ _⟩, by omega, rfl, rfl, rfl⟩
      case round =>
        obtain ⟨i, y, hik, rfl, rfl, rfl⟩ := hrel
        have HIK := Lib.hid hik
        clear hik
        by_cases hi : i < m
        · obtain ⟨b, o, hA, q0⟩ := kI_at hC1 i (by omega)
          subst hA
          have q0 := pw_cell_below HB.out q0
          have q := pw_cell_below HB.out (C1.out i j (by omega) (by omega))
          have kb := World.block_lt_of_cell? _ _ q0
          have kg := World.block_lt_of_cell? _ _ q
          simp only [] at kb kg
          have hi0 : (0 : Int) ≤ i := by omega
          have hi1 : (i : Int) < m := by omega
          have hi3 : (i : Int) < 3 := by omega
          have hin : ((i : Int)).toNat = i := by omega
          have hnum := num_ok HG.out i j
          have hxi := HX.out i
          have hsb := HBD.out j i
          have HST := Lib.hid (ledS_step xs g j i)
          generalize ledS xs g j i = s at *
          generalize g.num i j = u at *
          generalize xs.getD i 0 = x at *
          have hmul := mul_bd3 (x := x) (y := u) (by omega) (by omega) (by omega) (by omega)
          have w1' := i64_small (n := x * u) (by omega) (by omega)
          have w2' := i64_small (n := s + x * u) (by omega) (by omega)
          go_wp2
          (first | refine wp_region_later2 (by kernel_rfl) (by kernel_rfl) ?_ | refine wp_region_later (by kernel_rfl) (by kernel_rfl) ?_); (repeat (go_big_quiet_step (fail))); refine wpQuiet_nil ?_; intro x2
          go_wp2
          go_roundg (gk - 1)
          case measure => have := HIK.out; omega
          case rel => exact ⟨i + 1, x2, by have := HIK.out; omega, by go_num, by rw [HST.out], rfl⟩
        · have hie : i = m := by have := HIK.out; omega
          subst hie
          have hsb := HBD.out j i
          have HT := Lib.hid (ledL_take (p := p) (x := xs) (g := g) hj)
          have hR2 := Kd.R_below HR.out y.ok
          have hB2 := HB.out.trans (y.ok.mono HB.out.size)
          have hll : ((ledL p i xs g).take j).length = j := by rw [List.length_take, ledL_len]; omega
          have hpz : p ≠ 0 := by omega
          have HSB := Lib.hid hsb
          generalize ledS xs g j i = s at *
          generalize (ledL p i xs g).take j = rs at *
          have hm0 := Int.emod_nonneg s hpz
          have hm1 := Int.emod_lt_of_pos s (show 0 < p by omega)
          subst hll
          go_wp2_with ((with_reducible refine gate_ (.call { callee := .builtin .append, args := #[.tmp 37, .tmp 41], argTypes := #[55, 55] }) rfl ?_); refine Kd.R_append kI (w0 := V) V.heap.size rfl (.tmp 37) (.tmp 41) 55 2 (.int .i64 0) 8 rfl Try.underlying55 infoI rfl (by decide) (by decide) (.slice B rs.length cb) rs (s % p) [.int .i64 (s % p)] (fun _ => True) (fun _ => False) rfl rfl rfl (fun _ hk => hk.elim) (fun _ _ => trivial) hR2 hB2 hB2.size (by omega) ?_; intro v1 w1 hR6 hB6 hg6 hat6; obtain ⟨B6, c6, rfl, hl6, hC6⟩ := Kd.R_reads hR6)
          go_roundg (i - rs.length - 1)
          case measure => have := HJK.out; omega
          case rel =>
            have e : (rs ++ [s % p]).length = rs.length + 1 := by simp
            rw [e] at hR6
            exact ⟨rs.length + 1, B6, c6, by have := HJK.out; omega, by go_num, rfl, by rw [HT.out]; exact hR6, hB6⟩
    · have hje : j = m := by have := HJK.out; omega
      subst hje
      rw [List.take_of_length_le (by rw [ledL_len]; exact Nat.le_refl _)] at hR
      go_wp2
      have hl := ledL_len p j xs g
      exact bodyPost_ret (v := .slice B (ledL p j xs g).length cb) (by simp [results, Try.results103, go_sem, hl]) rfl ⟨_, rfl, by rw [hl]; exact Kd.R_lower hR (by omega), hwV.trans (hb.mono (by omega))⟩
set_option maxRecDepth 100000 in
set_option maxHeartbeats 1000000 in
theorem equalI_c (A B : Option Addr) (c b : Nat) (ts us : List Int) (w : World) (hC : kI.C w A ts.length ts) (hD : kI.C w B us.length us) (hn : ts.length ≤ 9223372036854775807) (hm : us.length ≤ 9223372036854775807) :
    Calls Try.prog 110 #[.slice A ts.length c, .slice B us.length b] w (Gives (.bool (ts == us)) w) := by
  by_cases hl : ts.length = us.length
  · have HL := Lib.hid hl
    have hq : ((ts.length : Int) != us.length) = false := by simp [hl]
    clear hl
    go_enter Try.func110, Try.ntmps110
    go_wp2
    go_loopg [13] ts.length (fun k v w' => ∃ (i : Nat) (y : Later w), i + k = ts.length ∧ v = .int .i64 i ∧ (∀ j, j < i → ts.getD j 0 = us.getD j 0) ∧ w' = y.W)
    case atStart => exact ⟨0, ⟨w, Below.refl _ _⟩, by omega, rfl, fun j hj => by omega, rfl⟩
    case round =>
      obtain ⟨i, y, hik, rfl, hs, rfl⟩ := hrel
      have HIK := Lib.hid hik
      have HS := Lib.hid hs
      clear hik hs
      by_cases hlt : i < ts.length
      · obtain ⟨b1, o1, hA, p0⟩ := kI_at hC i hlt
        obtain ⟨b2, o2, hB, q0⟩ := kI_at hD i (by have := HL.out; omega)
        subst hA
        subst hB
        have k1 : b1 < w.heap.size := World.block_lt_of_cell? w _ p0
        have k2 : b2 < w.heap.size := World.block_lt_of_cell? w _ q0
        have hi0 : (0 : Int) ≤ i := by omega
        have hi1 : (i : Int) < ts.length := by omega
        have hi2 : (i : Int) < us.length := by have := HL.out; omega
        have hin : ((i : Int)).toNat = i := by omega
        generalize ht : ts.getD i 0 = t at *
        generalize hu : us.getD i 0 = u at *
        have HT := Lib.hid ht
        have HU := Lib.hid hu
        clear ht hu
        cases he : (t != u) with
        | true =>
          go_wp2
          (first | refine wp_region_later2 (by kernel_rfl) (by kernel_rfl) ?_ | refine wp_region_later (by kernel_rfl) (by kernel_rfl) ?_); (repeat (go_big_quiet_step (fail))); refine wpQuiet_nil ?_; intro x
          go_wp2
          go_ret
          refine .mk ?_ bq8
          have hne : (ts == us) = false := by
            rw [beq_eq_false_iff_ne]
            intro hh
            rw [bne_iff_ne] at he
            exact he (by rw [← HT.out, ← HU.out, hh])
          rw [hne]
          rfl
        | false =>
          go_wp2
          (first | refine wp_region_later2 (by kernel_rfl) (by kernel_rfl) ?_ | refine wp_region_later (by kernel_rfl) (by kernel_rfl) ?_); (repeat (go_big_quiet_step (fail))); refine wpQuiet_nil ?_; intro x
          go_wp2
          go_roundg (gk - 1)
          case measure => have := HIK.out; omega
          case rel =>
            refine ⟨i + 1, x, by have := HIK.out; omega, by go_num, fun j hj => ?_, rfl⟩
            rcases Nat.lt_succ_iff_lt_or_eq.1 hj with g | g
            · exact HS.out j g
            · rw [g, HT.out, HU.out]
              simpa using he
      · go_wp2
        go_ret
        refine .mk ?_ bq8
        have heq : ts = us := by
          apply List.ext_getElem HL.out
          intro j h1 h2
          have := HS.out j (by omega)
          simpa [List.getD_eq_getElem?_getD, h1, h2] using this
        rw [heq, beq_self_eq_true]
        rfl
  · have hq : ((ts.length : Int) != us.length) = true := by rw [bne_iff_ne]; omega
    have he : (ts == us) = false := by
      rw [beq_eq_false_iff_ne]
      intro hh
      exact hl (by rw [hh])
    have HE := Lib.hid he
    clear he hl
    go_enter Try.func110, Try.ntmps110
    go_wp2
    go_ret
    exact .mk (by rw [HE.out]; rfl) bq8
/-! ### the order of lists of numbers -/
def cmpI : List Int → List Int → Int
  | a :: l, b :: m => if a < b then -1 else if b < a then 1 else cmpI l m
  | [], [] => 0
  | [], _ :: _ => -1
  | _ :: _, [] => 1
theorem cmpI_at : ∀ {a b : List Int} {i : Nat}, i < a.length → i < b.length → (∀ j, j < i → a.getD j 0 = b.getD j 0) → a.getD i 0 ≠ b.getD i 0 → cmpI a b = if a.getD i 0 < b.getD i 0 then -1 else 1
  | [], _, i, h, _, _, _ => by simp at h
  | _ :: _, [], i, _, h, _, _ => by simp at h
  | x :: a, y :: b, 0, _, _, _, hne => by
    have hne : x ≠ y := hne
    show (if x < y then -1 else if y < x then 1 else cmpI a b) = if x < y then -1 else 1
    by_cases h : x < y
    · rw [if_pos h, if_pos h]
    · rw [if_neg h, if_neg h, if_pos (by omega)]
  | x :: a, y :: b, i + 1, h1, h2, hs, hne => by
    have h0 : x = y := hs 0 (by omega)
    have ih := cmpI_at (a := a) (b := b) (i := i) (by simpa using h1) (by simpa using h2) (fun j hj => hs (j + 1) (by omega)) hne
    show (if x < y then -1 else if y < x then 1 else cmpI a b) = _
    rw [if_neg (by omega), if_neg (by omega), ih]
    rfl
theorem cmpI_self : ∀ a : List Int, cmpI a a = 0
  | [] => rfl
  | x :: a => by
    show (if x < x then -1 else if x < x then 1 else cmpI a a) = 0
    rw [if_neg (by omega), if_neg (by omega), cmpI_self a]
theorem cmpI_zero : ∀ {a b : List Int}, cmpI a b = 0 → a = b
  | [], [], _ => rfl
  | [], _ :: _, h => by simp [cmpI] at h
  | _ :: _, [], h => by simp [cmpI] at h
  | x :: a, y :: b, h => by
    have h : (if x < y then -1 else if y < x then 1 else cmpI a b) = 0 := h
    split at h
    · simp at h
    · split at h
      · simp at h
      · rw [cmpI_zero h, show x = y by omega]
set_option maxRecDepth 100000 in
set_option maxHeartbeats 1000000 in
theorem l02Compare_c (A B : Option Addr) (c b : Nat) (ts us : List Int) (w : World) (hC : kI.C w A ts.length ts) (hD : kI.C w B us.length us) (hn : ts.length ≤ 9223372036854775807) (hl : ts.length = us.length) :
    Calls Try.prog 104 #[.slice A ts.length c, .slice B us.length b] w (Gives (.int .i64 (cmpI ts us)) w) := by
  have HL := Lib.hid hl
  clear hl
  go_enter Try.func104, Try.ntmps104
  go_wp2
  go_loopg [5] ts.length (fun k v w' => ∃ (i : Nat) (y : Later w), i + k = ts.length ∧ v = .int .i64 i ∧ (∀ j, j < i → ts.getD j 0 = us.getD j 0) ∧ w' = y.W)
  case atStart => exact ⟨0, ⟨w, Below.refl _ _⟩, by omega, rfl, fun j hj => by omega, rfl⟩
  case round =>
    obtain ⟨i, y, hik, rfl, hs, rfl⟩ := hrel
    have HIK := Lib.hid hik
    have HS := Lib.hid hs
    clear hik hs
    by_cases hlt : i < ts.length
    · obtain ⟨b1, o1, hA, p0⟩ := kI_at hC i hlt
      obtain ⟨b2, o2, hB, q0⟩ := kI_at hD i (by have := HL.out; omega)
      subst hA
      subst hB
      have k1 : b1 < w.heap.size := World.block_lt_of_cell? w _ p0
      have k2 : b2 < w.heap.size := World.block_lt_of_cell? w _ q0
      have hi0 : (0 : Int) ≤ i := by omega
      have hi1 : (i : Int) < ts.length := by omega
      have hi2 : (i : Int) < us.length := by have := HL.out; omega
      have hin : ((i : Int)).toNat = i := by omega
      have hat := cmpI_at hlt (by have := HL.out; omega) HS.out
      have HAT := Lib.hid hat
      clear hat
      generalize ht : ts.getD i 0 = t at *
      generalize hu : us.getD i 0 = u at *
      have HT := Lib.hid ht
      have HU := Lib.hid hu
      clear ht hu
      by_cases h1 : t < u
      · have h1' : decide (t < u) = true := decide_eq_true h1
        have E := Lib.hid (show cmpI ts us = -1 by rw [HAT.out (by omega), if_pos h1])
        go_wp2
        (first | refine wp_region_later2 (by kernel_rfl) (by kernel_rfl) ?_ | refine wp_region_later (by kernel_rfl) (by kernel_rfl) ?_); (repeat (go_big_quiet_step (fail))); refine wpQuiet_nil ?_; intro x
        go_wp2
        go_ret
        exact .mk (by rw [E.out]; rfl) bq8
      · have h1' : decide (t < u) = false := decide_eq_false h1
        by_cases h2 : u < t
        · have h2' : decide (u < t) = true := decide_eq_true h2
          have E := Lib.hid (show cmpI ts us = 1 by rw [HAT.out (by omega), if_neg h1])
          go_wp2
          (first | refine wp_region_later2 (by kernel_rfl) (by kernel_rfl) ?_ | refine wp_region_later (by kernel_rfl) (by kernel_rfl) ?_); (repeat (go_big_quiet_step (fail))); refine wpQuiet_nil ?_; intro x
          go_wp2
          (first | refine wp_region_later2 (by kernel_rfl) (by kernel_rfl) ?_ | refine wp_region_later (by kernel_rfl) (by kernel_rfl) ?_); (repeat (go_big_quiet_step (fail))); refine wpQuiet_nil ?_; intro x2
          go_wp2
          go_ret
          exact .mk (by rw [E.out]; rfl) bq8
        · have h2' : decide (u < t) = false := decide_eq_false h2
          go_wp2
          (first | refine wp_region_later2 (by kernel_rfl) (by kernel_rfl) ?_ | refine wp_region_later (by kernel_rfl) (by kernel_rfl) ?_); (repeat (go_big_quiet_step (fail))); refine wpQuiet_nil ?_; intro x
          go_wp2
          (first | refine wp_region_later2 (by kernel_rfl) (by kernel_rfl) ?_ | refine wp_region_later (by kernel_rfl) (by kernel_rfl) ?_); (repeat (go_big_quiet_step (fail))); refine wpQuiet_nil ?_; intro x2
          go_wp2
          go_roundg (gk - 1)
          case measure => have := HIK.out; omega
          case rel =>
            refine ⟨i + 1, x2, by have := HIK.out; omega, by go_num, fun j hj => ?_, rfl⟩
            rcases Nat.lt_succ_iff_lt_or_eq.1 hj with g | g
            · exact HS.out j g
            · rw [g, HT.out, HU.out]
              omega
    · have heq : ts = us := by
        apply List.ext_getElem HL.out
        intro j h1 h2
        have := HS.out j (by omega)
        simpa [List.getD_eq_getElem?_getD, h1, h2] using this
      have E := Lib.hid (show cmpI ts us = 0 by rw [heq, cmpI_self])
      clear heq
      go_wp2
      go_ret
      exact .mk (by rw [E.out]; rfl) bq8
end Go.Proofs.Ytimjhehagimcaaa
/- The walks of the program's StabiliserOf; no condition. -/
set_option linter.unusedVariables false
set_option linter.unusedSimpArgs false
namespace Go.Proofs.Ytimjhehagimcaaa
open Go.RowKit Go.Proofs.YtimjhehagimcaaaW.PrintWords
attribute [local go_sem] Later.cell Later.frozen Later.lt Later.lt_add Later.le Later.le_add Later.ne Later.ne' add_at
attribute [local go_sem 2000] run_eqM guardM
def codeG (p n : Int) (ms : List M9) (xs : List Int) : Int := if grpB p n ms = true then (if pointB p n xs = true then 0 else 2) else 1
theorem codeG_0 {p n : Int} {ms : List M9} {xs : List Int} (h : codeG p n ms xs = 0) : GrpP p n ms ∧ pointB p n xs = true := by
  unfold codeG at h
  split at h
  · rename_i hg
    split at h
    · rename_i hp
      exact ⟨(grpB_iff p n ms).1 hg, hp⟩
    · simp at h
  · simp at h
theorem pointB_of {p n : Int} {xs : List Int} (h : pointB p n xs = true) : allB p xs = true ∧ (xs.length : Int) = n := by
  unfold pointB at h
  simpa using h
theorem grp_num {p n : Int} {ms : List M9} (g : GrpP p n ms) : 2 ≤ p ∧ p ≤ 13 ∧ 1 ≤ n ∧ n ≤ 3 := by
  have h0 := g.mat 0 (by have := g.l1; omega)
  obtain ⟨_, h1, h2, h3, h4⟩ := matB_le h0
  exact ⟨h1, h2, h3, h4⟩
end Go.Proofs.Ytimjhehagimcaaa
/- StabiliserOf of both sides; no condition. -/
set_option linter.unusedVariables false
set_option linter.unusedSimpArgs false
namespace Go.Proofs.Ytimjhehagimcaaa
open Go.RowKit Go.Proofs.YtimjhehagimcaaaW.PrintWords
attribute [local go_sem] Later.cell Later.frozen Later.lt Later.lt_add Later.le Later.le_add Later.ne Later.ne' add_at
attribute [local go_sem 2000] run_eqM guardM
set_option maxRecDepth 100000 in
set_option maxHeartbeats 2000000 in
theorem pointCode_c (p n : Int) (A : Option Addr) (c : Nat) (ms : List M9) (B : Option Addr) (d b : Nat) (xs : List Int) (w : World) (hC : kM.C w A ms.length ms) (hD : kI.C w B xs.length xs) (hq : w.cell? ⟨b, 0, none⟩ = some (.slice B xs.length d)) (hN : ms.length ≤ 9223372036854775807) (hM : xs.length ≤ 1048576) :
    Calls Try.prog 76 #[.agg #[.int .i64 p, .int .i64 n, .slice A ms.length c], .slice (some ⟨b, 0, none⟩) 1 1] w (Gives (.int .i64 (codeG p n ms xs)) w) := by
  have hC1 := Kd.C_alloc hC (.cells #[.int .i64 p, .int .i64 n, .slice A ms.length c] 31)
  have hD1 := Kd.C_alloc hD (.cells #[.int .i64 p, .int .i64 n, .slice A ms.length c] 31)
  have hG := implIsGroup_c p n A c ms _ hC1 hN
  have hzb := World.block_lt_of_cell? _ _ hq
  simp only [] at hzb
  cases hg : grpB p n ms with
  | false =>
    have E := Lib.hid (show codeG p n ms xs = 1 by rw [codeG, hg]; rfl)
    rw [hg] at hG
    go_enter Try.func76, Try.ntmps76
    go_wp2_with ((go_at_call 80; (first | (with_reducible refine call_later2 (hG) ?_) | (with_reducible refine call_later (hG) ?_)); intro x))
    rw [E.out]
    exact bodyPost_ret (v := .int .i64 1) (by simp [results, Try.results76, go_sem]) rfl (.mk rfl bq1)
  | true =>
    rw [hg] at hG
    have gp := (grpB_iff p n ms).1 hg
    obtain ⟨hp, hp', hn1, hn3⟩ := grp_num gp
    have hP := fun W hE => isPoint_c p n B d xs W hp hp' hE (show xs.length ≤ 9223372036854775807 by omega)
    cases hb : pointB p n xs with
    | false =>
      have E := Lib.hid (show codeG p n ms xs = 2 by rw [codeG, hg, hb]; rfl)
      rw [hb] at hP
      clear gp hg hb
      go_enter Try.func76, Try.ntmps76
      go_wp2_with ((go_at_call 80; (first | (with_reducible refine call_later2 (hG) ?_) | (with_reducible refine call_later (hG) ?_)); intro x); have hq1 := x.keep (cell_alloc hq (.cells #[.int .i64 p, .int .i64 n, .slice A ms.length c] 31)))
      refine wp_loop_rounds 3 ?_
      rw [rounds_succ]
      go_wp2_with ((go_at_call 106; (first | (with_reducible refine call_later2 (hP _ (Kd.C_below hD1 x.ok)) ?_) | (with_reducible refine call_later (hP _ (Kd.C_below hD1 x.ok)) ?_)); intro x2))
      rw [E.out]
      exact bodyPost_ret (v := .int .i64 2) (by simp [results, Try.results76, go_sem]) rfl (.mk rfl bq1)
    | true =>
      have E := Lib.hid (show codeG p n ms xs = 0 by rw [codeG, hg, hb]; rfl)
      rw [hb] at hP
      clear gp hg hb
      go_enter Try.func76, Try.ntmps76
      go_wp2_with ((go_at_call 80; (first | (with_reducible refine call_later2 (hG) ?_) | (with_reducible refine call_later (hG) ?_)); intro x); have hq1 := x.keep (cell_alloc hq (.cells #[.int .i64 p, .int .i64 n, .slice A ms.length c] 31)))
      refine wp_loop_rounds 3 ?_
      rw [rounds_succ]
      go_wp2_with ((go_at_call 106; (first | (with_reducible refine call_later2 (hP _ (Kd.C_below hD1 x.ok)) ?_) | (with_reducible refine call_later (hP _ (Kd.C_below hD1 x.ok)) ?_)); intro x2))
      rw [rounds_succ]
      go_wp2
      rw [E.out]
      exact bodyPost_ret (v := .int .i64 0) (by simp [results, Try.results76, go_sem]) rfl (.mk rfl bq1)
set_option maxRecDepth 100000 in
set_option maxHeartbeats 2000000 in
theorem l02Code_c (p n : Int) (A : Option Addr) (c : Nat) (ms : List M9) (B : Option Addr) (d : Nat) (xs : List Int) (w : World) (hC : kM.C w A ms.length ms) (hD : kI.C w B xs.length xs) (hN : ms.length ≤ 9223372036854775807) (hM : xs.length ≤ 1048576) :
    Calls Try.prog 73 #[.agg #[.int .i64 p, .int .i64 n, .slice A ms.length c], .slice B xs.length d] w (Gives (.int .i64 (codeG p n ms xs)) w) := by
  have hC1 := Kd.C_alloc hC (.cells #[.int .i64 p, .int .i64 n, .slice A ms.length c] 31)
  have hD1 := Kd.C_alloc hD (.cells #[.int .i64 p, .int .i64 n, .slice A ms.length c] 31)
  have hG := l02Is_c p n A c ms _ hC1 hN
  cases hg : grpB p n ms with
  | false =>
    have E := Lib.hid (show codeG p n ms xs = 1 by rw [codeG, hg]; rfl)
    rw [hg] at hG
    go_enter Try.func73, Try.ntmps73
    go_wp2_with ((go_at_call 78; (first | (with_reducible refine call_later2 (hG) ?_) | (with_reducible refine call_later (hG) ?_)); intro x))
    rw [E.out]
    exact bodyPost_ret (v := .int .i64 1) (by simp [results, Try.results73, go_sem]) rfl (.mk rfl bq1)
  | true =>
    rw [hg] at hG
    have gp := (grpB_iff p n ms).1 hg
    obtain ⟨hp, hp', hn1, hn3⟩ := grp_num gp
    have hP := fun W hE => l01Point_c p n B d xs W hp hp' hE (show xs.length ≤ 9223372036854775807 by omega)
    cases hb : pointB p n xs with
    | false =>
      have E := Lib.hid (show codeG p n ms xs = 2 by rw [codeG, hg, hb]; rfl)
      rw [hb] at hP
      clear gp hg hb
      go_enter Try.func73, Try.ntmps73
      go_wp2_with (first | (go_at_call 78; (first | (with_reducible refine call_later2 (hG) ?_) | (with_reducible refine call_later (hG) ?_)); intro x) | (go_at_call 45; (first | (with_reducible refine call_later2 (hP _ (Kd.C_below hD1 x.ok)) ?_) | (with_reducible refine call_later (hP _ (Kd.C_below hD1 x.ok)) ?_)); intro x2))
      rw [E.out]
      exact bodyPost_ret (v := .int .i64 2) (by simp [results, Try.results73, go_sem]) rfl (.mk rfl bq1)
    | true =>
      have E := Lib.hid (show codeG p n ms xs = 0 by rw [codeG, hg, hb]; rfl)
      rw [hb] at hP
      clear gp hg hb
      go_enter Try.func73, Try.ntmps73
      go_wp2_with (first | (go_at_call 78; (first | (with_reducible refine call_later2 (hG) ?_) | (with_reducible refine call_later (hG) ?_)); intro x) | (go_at_call 45; (first | (with_reducible refine call_later2 (hP _ (Kd.C_below hD1 x.ok)) ?_) | (with_reducible refine call_later (hP _ (Kd.C_below hD1 x.ok)) ?_)); intro x2))
      rw [E.out]
      exact bodyPost_ret (v := .int .i64 0) (by simp [results, Try.results73, go_sem]) rfl (.mk rfl bq1)
end Go.Proofs.Ytimjhehagimcaaa
