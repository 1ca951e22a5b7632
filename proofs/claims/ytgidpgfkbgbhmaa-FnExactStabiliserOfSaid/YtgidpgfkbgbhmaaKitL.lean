/- Walks of the functions on polynomials, numbers and rows, of both sides; no condition. -/
import Derived.Test.YtgidpgfkbgbhmaaKitG
import Derived.Test.YtgidpgfkbgbhmaaKitE
import Derived.Test.YtgidpgfkbgbhmaaKitC
import Derived.Test.YtgidpgfkbgbhmaaAccK
import Derived.Deep.RegionWith
import Derived.Deep.RegionHeld3
import Derived.Deep.RegionLaw
import Derived.Deep.CutRange
/- The points to which matrices lead points, of both sides; equal lists of numbers; no condition. -/
set_option linter.unusedVariables false
set_option linter.unusedSimpArgs false
namespace Go.Proofs.Ytgidpgfkbgbhmaa
open Go.RowKit Go.Proofs.YtgidpgfkbgbhmaaW.PrintWords
attribute [local go_sem] Later.cell Later.frozen Later.lt Later.lt_add Later.le Later.le_add Later.ne Later.ne' add_at

/-! ### plain -/
def ledS (x : List Int) (g : M9) (j : Nat) : Nat → Int
  | 0 => 0
  | i + 1 => ledS x g j i + x.getD i 0 * g.num i j
def ledL (p : Int) (n : Nat) (x : List Int) (g : M9) : List Int := (List.range n).map fun j => ledS x g j n % p
def ledD (p : Int) (n : Nat) (x : List Int) (g : M9) (i j : Nat) : List Int := (List.range n).map fun t => ledS x g t (if t < j then i + 1 else i) % p
theorem ledL_len (p : Int) (n : Nat) (x : List Int) (g : M9) : (ledL p n x g).length = n := by simp [ledL]
theorem ledD_len (p : Int) (n : Nat) (x : List Int) (g : M9) (i j : Nat) : (ledD p n x g i j).length = n := by simp [ledD]
theorem ledD_zero (p : Int) (n : Nat) (x : List Int) (g : M9) : List.replicate n 0 = ledD p n x g 0 0 := by
  refine List.ext_getElem (by simp [ledD]) fun i h1 h2 => ?_
  simp [ledD, ledS]
theorem ledD_get {p : Int} {n : Nat} {x : List Int} {g : M9} {i j : Nat} (hj : j < n) : (ledD p n x g i j).getD j 0 = ledS x g j i % p := by
  simp [ledD, List.getD_eq_getElem?_getD, hj]
theorem ledD_step {p : Int} {n : Nat} {x : List Int} {g : M9} {i j : Nat} (hj : j < n) : (ledD p n x g i j).set j ((ledS x g j i % p + x.getD i 0 * g.num i j) % p) = ledD p n x g i (j + 1) := by
  refine List.ext_getElem (by simp [ledD]) fun t h1 h2 => ?_
  simp [ledD] at h1
  rw [List.getElem_set]
  by_cases h : j = t
  · subst h
    simp [ledD, ledS]
  · rw [if_neg h]
    have e : (t < j + 1) = (t < j) := by simp; omega
    simp [ledD, e]
theorem ledD_next (p : Int) (n : Nat) (x : List Int) (g : M9) (i : Nat) : ledD p n x g i n = ledD p n x g (i + 1) 0 := by
  refine List.ext_getElem (by simp [ledD]) fun t h1 h2 => ?_
  simp [ledD] at h1
  simp [ledD, h1]
theorem ledD_end (p : Int) (n : Nat) (x : List Int) (g : M9) : ledD p n x g n 0 = ledL p n x g := by simp [ledD, ledL]
theorem ledL_take {p : Int} {n : Nat} {x : List Int} {g : M9} {j : Nat} (h : j < n) : (ledL p n x g).take (j + 1) = (ledL p n x g).take j ++ [ledS x g j n % p] := by
  rw [List.take_succ_eq_append_getElem (by rw [ledL_len]; exact h)]
  simp [ledL]
theorem led_bd {x : List Int} {g : M9} {p : Int} (hp : p ≤ 13) (hg : g.le p) (hx : ∀ i, 0 ≤ x.getD i 0 ∧ x.getD i 0 < p) (j : Nat) : ∀ i, 0 ≤ ledS x g j i ∧ ledS x g j i ≤ 144 * i
  | 0 => ⟨Int.le_refl 0, by simp [ledS]⟩
  | i + 1 => by
    obtain ⟨h1, h2⟩ := led_bd hp hg hx j i
    have h3 := hx i
    have h4 := num_ok hg i j
    have h5 := mul_bd3 (x := x.getD i 0) (y := g.num i j) (by omega) (by omega) (by omega) (by omega)
    show 0 ≤ ledS x g j i + _ ∧ ledS x g j i + _ ≤ 144 * ((i + 1 : Nat) : Int)
    omega
theorem ledL_nums {p : Int} {n : Nat} {x : List Int} {g : M9} (hp : 2 ≤ p) : ∀ a ∈ ledL p n x g, 0 ≤ a ∧ a < p := fun a ha => by
  obtain ⟨j, _, rfl⟩ := List.mem_map.1 ha
  exact ⟨Int.emod_nonneg _ (by omega), Int.emod_lt_of_pos _ (by omega)⟩
theorem allB_nums {p : Int} {x : List Int} (hp : 2 ≤ p) (h : allB p x = true) : ∀ i, 0 ≤ x.getD i 0 ∧ x.getD i 0 < p := fun i => by
  by_cases hi : i < x.length
  · unfold allB at h
    rw [List.all_eq_true] at h
    have := h i (List.mem_range.2 hi)
    generalize x.getD i 0 = a at *
    unfold inB at this
    simp at this
    omega
  · rw [List.getD_eq_getElem?_getD, List.getElem?_eq_none (by omega)]
    simp
    omega

/-! ### the program's -/
set_option maxRecDepth 100000 in
set_option maxHeartbeats 2000000 in
theorem led_c {p : Int} {n : Nat} {xs : List Int} {m c : Nat} {A : Option Addr} (g : M9) {w : World} (hC : kI.C w A m xs) (hm : m = n) (hp : 2 ≤ p) (hp' : p ≤ 13) (hn1 : 1 ≤ n) (hn3 : n ≤ 3) (hg : g.le p) (hx : ∀ i, 0 ≤ xs.getD i 0 ∧ xs.getD i 0 < p) :
    Calls Try.prog 67 #[.int .i64 p, .int .i64 n, .slice A m c, .agg #[.int .u8 (g.r0.a.toNat : Int), .int .u8 (g.r0.b.toNat : Int), .int .u8 (g.r0.c.toNat : Int), .int .u8 (g.r1.a.toNat : Int), .int .u8 (g.r1.b.toNat : Int), .int .u8 (g.r1.c.toNat : Int), .int .u8 (g.r2.a.toNat : Int), .int .u8 (g.r2.b.toNat : Int), .int .u8 (g.r2.c.toNat : Int)]] w (Makes kI 2 (ledL p n xs g) w) := by
  have hlen := Kd.C_len hC
  have hm : xs.length = n := by rw [← hm, ← hlen]
  obtain rfl : m = n := by omega
  have HX := Lib.hid hx
  have HG := Lib.hid hg
  clear hx hg hlen
  go_enter Try.func67, Try.ntmps67
  go_wp2_with (refine Kd.R_make kI (w0 := w.alloc (.cells #[.int .u8 (g.r0.a.toNat : Int), .int .u8 (g.r0.b.toNat : Int), .int .u8 (g.r0.c.toNat : Int), .int .u8 (g.r1.a.toNat : Int), .int .u8 (g.r1.b.toNat : Int), .int .u8 (g.r1.c.toNat : Int), .int .u8 (g.r2.a.toNat : Int), .int .u8 (g.r2.b.toNat : Int), .int .u8 (g.r2.c.toNat : Int)] 76)) (w.heap.size + 1) 2 rfl (N := 14) rfl 25 (.tmp 13) (.tmp 13) rfl (m : Int) rfl rfl Try.underlying25 _ 8 infoI rfl (by decide) (by decide) 0 (ok := fun _ => True) (okp := fun _ => False) rfl (fun _ h => h.elim) trivial (by omega) (by omega) (Below.refl _ _) (by simp) ?_; intro v1 w1 HR hb1 _ _)
  rw [Int.toNat_natCast, ledD_zero p m xs g] at HR
  obtain ⟨gb, cap, hv, hgb, hgs, _⟩ := Kd.R_form HR (by rw [ledD_len]; omega)
  rw [ledD_len] at hv
  subst hv
  have c1 : ∀ i j, i < 3 → j < 3 → w1.cell? ⟨w.heap.size, i * 3 + j, none⟩ = some (.int .u8 (g.num i j)) := fun i j hi hj => pw_cell_below (hb1.mono (by simp)) (box_at w g _ i j hi hj)
  have hbw : Below w.heap.size w w1 := (below_alloc (Below.refl _ _) _).trans (hb1.mono (by simp))
  have hz0 := World.block_lt_of_cell? _ _ (c1 0 0 (by omega) (by omega))
  simp only [] at hz0
  have C1 := Lib.hid c1
  have HBW := Lib.hid hbw
  clear c1 hbw hb1
  go_loopg [17] m (fun k v w' => ∃ (i : Nat), i + k = m ∧ v = .int .i64 i ∧ Below (w.heap.size + 1) w1 w' ∧ kI.R 2 w' (w.heap.size + 1) (fun _ => True) (.slice (some ⟨gb, 0, none⟩) m cap) (ledD p m xs g i 0))
  case atStart => exact ⟨0, by omega, rfl, Below.refl _ _, HR⟩
  case round =>
    clear HR
    obtain ⟨i, hik, rfl, hb, hR⟩ := hrel
    have HIK := Lib.hid hik
    clear hik
    by_cases hi : i < m
    · obtain ⟨b, o, hA, q0⟩ := kI_at hC i (by omega)
      subst hA
      have kq0 := World.block_lt_of_cell? _ _ q0
      have q0 := (hb.cell (show b < w.heap.size + 1 by simp only [] at kq0; omega)).trans (pw_cell_below HBW.out q0)
      have hi0 : (0 : Int) ≤ i := by omega
      have hi1 : (i : Int) < m := by omega
      have hi3 : (i : Int) < 3 := by omega
      have hin : ((i : Int)).toNat = i := by omega
      have hxi := HX.out i
      have hstep : ∀ j, j < m → (ledD p m xs g i j).set j ((ledS xs g j i % p + xs.getD i 0 * g.num i j) % p) = ledD p m xs g i (j + 1) := fun j hj => ledD_step hj
      have HSTEP := Lib.hid hstep
      clear hstep
      generalize xs.getD i 0 = x at *
      go_wp2
      go_loopg [23] m (fun k v w' => ∃ (j : Nat), j + k = m ∧ v = .int .i64 j ∧ Below (w.heap.size + 1) w1 w' ∧ kI.R 2 w' (w.heap.size + 1) (fun _ => True) (.slice (some ⟨gb, 0, none⟩) m cap) (ledD p m xs g i j))
      case atStart => exact ⟨0, by omega, rfl, hb, hR⟩
      case round =>
        clear hb hR q0
        obtain ⟨j, hjk, rfl, hb, hR⟩ := hrel
        have HJK := Lib.hid hjk
        clear hjk
        by_cases hj : j < m
        · have q := (hb.cell (show w.heap.size < w.heap.size + 1 by omega)).trans (C1.out i j (by omega) (by omega))
          obtain ⟨f0, f1⟩ := kI_cell hR j (by omega)
          rw [ledD_get hj] at f0
          have HST := Lib.hid (HSTEP.out j hj)
          have hnum := num_ok HG.out i j
          have hm1 := Int.emod_nonneg (ledS xs g j i) (show p ≠ 0 by omega)
          have hm2 := Int.emod_lt_of_pos (ledS xs g j i) (show 0 < p by omega)
          generalize ledS xs g j i % p = s at *
          generalize g.num i j = u at *
          have hmul := mul_bd3 (x := x) (y := u) (by omega) (by omega) (by omega) (by omega)
          have hpz : p ≠ 0 := by omega
          have hj1 : (j : Int) < m := by omega
          have hj3 : (j : Int) < 3 := by omega
          have hj0 : (0 : Int) ≤ j := by omega
          have hjn : ((j : Int)).toNat = j := by omega
          go_wp2
          go_region
          all_goals go_wp2
          go_roundg (gk - 1)
          case measure => have := HJK.out; omega
          case rel =>
            have hv : (wrap64 (s + wrap64 (x * u))).tmod p = (s + x * u) % p := by
              rw [wrap64_fix (show -1000000000000 ≤ x * u by omega) (by omega), wrap64_fix (show -1000000000000 ≤ s + x * u by omega) (by omega)]
              exact Int.tmod_eq_emod_of_nonneg (by omega)
            refine ⟨j + 1, by have := HJK.out; omega, by go_num, (hb.setCell (p := ⟨gb, j, none⟩) (show w.heap.size + 1 ≤ gb from hgb) _).drew, ?_⟩
            rw [← HST.out]
            first | (rw [hv]; exact Kd.R_drew (kI_set hR j _)) | exact Kd.R_drew (kI_set hR j _)
        · have hje : j = m := by have := HJK.out; omega
          subst hje
          rw [ledD_next] at hR
          go_wp2
          go_roundg (j - i - 1)
          case measure => have := HIK.out; omega
          case rel => exact ⟨i + 1, by have := HIK.out; omega, by go_num, hb, hR⟩
    · have hie : i = m := by have := HIK.out; omega
      subst hie
      rw [ledD_end] at hR
      go_wp2
      have hl := ledL_len p i xs g
      exact bodyPost_ret (v := .slice (some ⟨gb, 0, none⟩) (ledL p i xs g).length cap) (by simp [results, Try.results67, go_sem, hl]) rfl ⟨_, rfl, by rw [hl]; exact Kd.R_lower hR (by omega), HBW.out.trans (hb.mono (by omega))⟩

/-! ### the reference's -/
theorem ledS_step (x : List Int) (g : M9) (j i : Nat) : ledS x g j (i + 1) = ledS x g j i + x.getD i 0 * g.num i j := rfl
set_option maxRecDepth 100000 in
set_option maxHeartbeats 2000000 in
theorem l02Lead_c {p : Int} {n : Nat} {xs : List Int} {m c : Nat} {A : Option Addr} (g : M9) {w : World} (hC : kI.C w A m xs) (hm : m = n) (hp : 2 ≤ p) (hp' : p ≤ 13) (hn1 : 1 ≤ n) (hn3 : n ≤ 3) (hg : g.le p) (hx : ∀ i, 0 ≤ xs.getD i 0 ∧ xs.getD i 0 < p) :
    Calls Try.prog 62 #[.int .i64 p, .int .i64 n, .agg #[.int .u8 (g.r0.a.toNat : Int), .int .u8 (g.r0.b.toNat : Int), .int .u8 (g.r0.c.toNat : Int), .int .u8 (g.r1.a.toNat : Int), .int .u8 (g.r1.b.toNat : Int), .int .u8 (g.r1.c.toNat : Int), .int .u8 (g.r2.a.toNat : Int), .int .u8 (g.r2.b.toNat : Int), .int .u8 (g.r2.c.toNat : Int)], .slice A m c] w (Makes kI 2 (ledL p n xs g) w) := by
  have hlen := Kd.C_len hC
  have hm : xs.length = n := by rw [← hm, ← hlen]
  obtain rfl : m = n := by omega
  have HX := Lib.hid hx
  have HG := Lib.hid hg
  have hC1 := Kd.C_alloc hC (.cells #[.int .u8 (g.r0.a.toNat : Int), .int .u8 (g.r0.b.toNat : Int), .int .u8 (g.r0.c.toNat : Int), .int .u8 (g.r1.a.toNat : Int), .int .u8 (g.r1.b.toNat : Int), .int .u8 (g.r1.c.toNat : Int), .int .u8 (g.r2.a.toNat : Int), .int .u8 (g.r2.b.toNat : Int), .int .u8 (g.r2.c.toNat : Int)] 76)
  have hbd := led_bd hp' hg hx
  have HBD := Lib.hid hbd
  clear hx hg hlen hbd
  go_enter Try.func62, Try.ntmps62
  go_wp2
  have hR0 := R_zero kI (heap_alloc_last (w.alloc (.cells #[.int .u8 (g.r0.a.toNat : Int), .int .u8 (g.r0.b.toNat : Int), .int .u8 (g.r0.c.toNat : Int), .int .u8 (g.r1.a.toNat : Int), .int .u8 (g.r1.b.toNat : Int), .int .u8 (g.r1.c.toNat : Int), .int .u8 (g.r2.a.toNat : Int), .int .u8 (g.r2.b.toNat : Int), .int .u8 (g.r2.c.toNat : Int)] 76)) (.cells #[] 2)) (Nat.le_refl _)
  have hb0 : Below (w.alloc (.cells #[.int .u8 (g.r0.a.toNat : Int), .int .u8 (g.r0.b.toNat : Int), .int .u8 (g.r0.c.toNat : Int), .int .u8 (g.r1.a.toNat : Int), .int .u8 (g.r1.b.toNat : Int), .int .u8 (g.r1.c.toNat : Int), .int .u8 (g.r2.a.toNat : Int), .int .u8 (g.r2.b.toNat : Int), .int .u8 (g.r2.c.toNat : Int)] 76)).heap.size (w.alloc (.cells #[.int .u8 (g.r0.a.toNat : Int), .int .u8 (g.r0.b.toNat : Int), .int .u8 (g.r0.c.toNat : Int), .int .u8 (g.r1.a.toNat : Int), .int .u8 (g.r1.b.toNat : Int), .int .u8 (g.r1.c.toNat : Int), .int .u8 (g.r2.a.toNat : Int), .int .u8 (g.r2.b.toNat : Int), .int .u8 (g.r2.c.toNat : Int)] 76)) ((w.alloc (.cells #[.int .u8 (g.r0.a.toNat : Int), .int .u8 (g.r0.b.toNat : Int), .int .u8 (g.r0.c.toNat : Int), .int .u8 (g.r1.a.toNat : Int), .int .u8 (g.r1.b.toNat : Int), .int .u8 (g.r1.c.toNat : Int), .int .u8 (g.r2.a.toNat : Int), .int .u8 (g.r2.b.toNat : Int), .int .u8 (g.r2.c.toNat : Int)] 76)).alloc (.cells #[] 2)) := below_alloc (Below.refl _ _) _
  have hwV : Below w.heap.size w (w.alloc (.cells #[.int .u8 (g.r0.a.toNat : Int), .int .u8 (g.r0.b.toNat : Int), .int .u8 (g.r0.c.toNat : Int), .int .u8 (g.r1.a.toNat : Int), .int .u8 (g.r1.b.toNat : Int), .int .u8 (g.r1.c.toNat : Int), .int .u8 (g.r2.a.toNat : Int), .int .u8 (g.r2.b.toNat : Int), .int .u8 (g.r2.c.toNat : Int)] 76)) := below_alloc (Below.refl _ _) _
  have hzV : (w.alloc (.cells #[.int .u8 (g.r0.a.toNat : Int), .int .u8 (g.r0.b.toNat : Int), .int .u8 (g.r0.c.toNat : Int), .int .u8 (g.r1.a.toNat : Int), .int .u8 (g.r1.b.toNat : Int), .int .u8 (g.r1.c.toNat : Int), .int .u8 (g.r2.a.toNat : Int), .int .u8 (g.r2.b.toNat : Int), .int .u8 (g.r2.c.toNat : Int)] 76)).heap.size = w.heap.size + 1 := by simp
  have c1 : ∀ i j, i < 3 → j < 3 → (w.alloc (.cells #[.int .u8 (g.r0.a.toNat : Int), .int .u8 (g.r0.b.toNat : Int), .int .u8 (g.r0.c.toNat : Int), .int .u8 (g.r1.a.toNat : Int), .int .u8 (g.r1.b.toNat : Int), .int .u8 (g.r1.c.toNat : Int), .int .u8 (g.r2.a.toNat : Int), .int .u8 (g.r2.b.toNat : Int), .int .u8 (g.r2.c.toNat : Int)] 76)).cell? ⟨w.heap.size, i * 3 + j, none⟩ = some (.int .u8 (g.num i j)) := fun i j hi hj => box_at w g _ i j hi hj
  have C1 := Lib.hid c1
  clear c1
  clear hC
  generalize w.alloc (.cells #[.int .u8 (g.r0.a.toNat : Int), .int .u8 (g.r0.b.toNat : Int), .int .u8 (g.r0.c.toNat : Int), .int .u8 (g.r1.a.toNat : Int), .int .u8 (g.r1.b.toNat : Int), .int .u8 (g.r1.c.toNat : Int), .int .u8 (g.r2.a.toNat : Int), .int .u8 (g.r2.b.toNat : Int), .int .u8 (g.r2.c.toNat : Int)] 76) = V at *
  rw [hzV] at hR0
  go_loopg [10, 9] m (fun k v s w' => ∃ (j : Nat) (B : Option Addr) (cb : Nat), j + k = m ∧ v = .int .i64 j ∧ s = .slice B j cb ∧ kI.R 2 w' V.heap.size (fun _ => True) (.slice B j cb) ((ledL p m xs g).take j) ∧ Below V.heap.size V w')
  case atStart => exact ⟨0, _, 0, by omega, rfl, rfl, by rw [hzV]; exact hR0, hb0⟩
  case round =>
    clear hR0 hb0
    obtain ⟨j, B, cb, hjk, rfl, rfl, hR, hb⟩ := hrel
    have HJK := Lib.hid hjk
    clear hjk
    by_cases hj : j < m
    · have hj0 : (0 : Int) ≤ j := by omega
      have hj1 : (j : Int) < m := by omega
      have hj3 : (j : Int) < 3 := by omega
      have hjn : ((j : Int)).toNat = j := by omega
      have HR := Lib.hid hR
      have HB := Lib.hid hb
      clear hR hb
      go_wp2
      go_loopg [12, 11] m (fun k v s w'' => ∃ (i : Nat) (y : Later wr), i + k = m ∧ v = .int .i64 i ∧ s = .int .i64 (ledS xs g j i) ∧ w'' = y.W)
      case atStart => exact ⟨0, ⟨wr, Below.refl _ _⟩, by omega, rfl, rfl, rfl⟩
      case round =>
        obtain ⟨i, y, hik, rfl, rfl, rfl⟩ := hrel
        have HIK := Lib.hid hik
        clear hik
        by_cases hi : i < m
        · obtain ⟨b, o, hA, q0⟩ := kI_at hC1 i (by omega)
          subst hA
          have q0 := pw_cell_below HB.out q0
          have q := pw_cell_below HB.out (C1.out i j (by omega) (by omega))
          have kb := World.block_lt_of_cell? _ _ q0
          have kg := World.block_lt_of_cell? _ _ q
          simp only [] at kb kg
          have hi0 : (0 : Int) ≤ i := by omega
          have hi1 : (i : Int) < m := by omega
          have hi3 : (i : Int) < 3 := by omega
          have hin : ((i : Int)).toNat = i := by omega
          have hnum := num_ok HG.out i j
          have hxi := HX.out i
          have hsb := HBD.out j i
          have HST := Lib.hid (ledS_step xs g j i)
          generalize ledS xs g j i = s at *
          generalize g.num i j = u at *
          generalize xs.getD i 0 = x at *
          have hmul := mul_bd3 (x := x) (y := u) (by omega) (by omega) (by omega) (by omega)
          have w1' := i64_small (n := x * u) (by omega) (by omega)
          have w2' := i64_small (n := s + x * u) (by omega) (by omega)
          go_wp2
          (first | refine wp_region_later2 (by kernel_rfl) (by kernel_rfl) ?_ | refine wp_region_later (by kernel_rfl) (by kernel_rfl) ?_); (repeat (go_big_quiet_step (fail))); refine wpQuiet_nil ?_; intro x2
          go_wp2
          go_roundg (gk - 1)
          case measure => have := HIK.out; omega
          case rel => exact ⟨i + 1, x2, by have := HIK.out; omega, by go_num, by rw [HST.out], rfl⟩
        · have hie : i = m := by have := HIK.out; omega
          subst hie
          have hsb := HBD.out j i
          have HT := Lib.hid (ledL_take (p := p) (x := xs) (g := g) hj)
          have hR2 := Kd.R_below HR.out y.ok
          have hB2 := HB.out.trans (y.ok.mono HB.out.size)
          have hll : ((ledL p i xs g).take j).length = j := by rw [List.length_take, ledL_len]; omega
          have hpz : p ≠ 0 := by omega
          have HSB := Lib.hid hsb
          generalize ledS xs g j i = s at *
          generalize (ledL p i xs g).take j = rs at *
          have hm0 := Int.emod_nonneg s hpz
          have hm1 := Int.emod_lt_of_pos s (show 0 < p by omega)
          subst hll
          go_wp2_with ((with_reducible refine gate_ (.call { callee := .builtin .append, args := #[.tmp 37, .tmp 41], argTypes := #[25, 25] }) rfl ?_); refine Kd.R_append kI (w0 := V) V.heap.size rfl (.tmp 37) (.tmp 41) 25 2 (.int .i64 0) 8 rfl Try.underlying25 infoI rfl (by decide) (by decide) (.slice B rs.length cb) rs (s % p) [.int .i64 (s % p)] (fun _ => True) (fun _ => False) rfl rfl rfl (fun _ hk => hk.elim) (fun _ _ => trivial) hR2 hB2 hB2.size (by omega) ?_; intro v1 w1 hR6 hB6 hg6 hat6; obtain ⟨B6, c6, rfl, hl6, hC6⟩ := Kd.R_reads hR6)
          go_roundg (i - rs.length - 1)
          case measure => have := HJK.out; omega
          case rel =>
            have e : (rs ++ [s % p]).length = rs.length + 1 := by simp
            rw [e] at hR6
            exact ⟨rs.length + 1, B6, c6, by have := HJK.out; omega, by go_num, rfl, by rw [HT.out]; exact hR6, hB6⟩
    · have hje : j = m := by have := HJK.out; omega
      subst hje
      rw [List.take_of_length_le (by rw [ledL_len]; exact Nat.le_refl _)] at hR
      go_wp2
      have hl := ledL_len p j xs g
      exact bodyPost_ret (v := .slice B (ledL p j xs g).length cb) (by simp [results, Try.results62, go_sem, hl]) rfl ⟨_, rfl, by rw [hl]; exact Kd.R_lower hR (by omega), hwV.trans (hb.mono (by omega))⟩

set_option maxRecDepth 100000 in
set_option maxHeartbeats 1000000 in
theorem equalI_c (A B : Option Addr) (c b : Nat) (ts us : List Int) (w : World) (hC : kI.C w A ts.length ts) (hD : kI.C w B us.length us) (hn : ts.length ≤ 9223372036854775807) (hm : us.length ≤ 9223372036854775807) :
    Calls Try.prog 66 #[.slice A ts.length c, .slice B us.length b] w (Gives (.bool (ts == us)) w) := by
  by_cases hl : ts.length = us.length
  · have HL := Lib.hid hl
    have hq : ((ts.length : Int) != us.length) = false := by simp [hl]
    clear hl
    go_enter Try.func66, Try.ntmps66
    go_wp2
    go_loopg [13] ts.length (fun k v w' => ∃ (i : Nat) (y : Later w), i + k = ts.length ∧ v = .int .i64 i ∧ (∀ j, j < i → ts.getD j 0 = us.getD j 0) ∧ w' = y.W)
    case atStart => exact ⟨0, ⟨w, Below.refl _ _⟩, by omega, rfl, fun j hj => by omega, rfl⟩
    case round =>
      obtain ⟨i, y, hik, rfl, hs, rfl⟩ := hrel
      have HIK := Lib.hid hik
      have HS := Lib.hid hs
      clear hik hs
      by_cases hlt : i < ts.length
      · obtain ⟨b1, o1, hA, p0⟩ := kI_at hC i hlt
        obtain ⟨b2, o2, hB, q0⟩ := kI_at hD i (by have := HL.out; omega)
        subst hA
        subst hB
        have k1 : b1 < w.heap.size := World.block_lt_of_cell? w _ p0
        have k2 : b2 < w.heap.size := World.block_lt_of_cell? w _ q0
        have hi0 : (0 : Int) ≤ i := by omega
        have hi1 : (i : Int) < ts.length := by omega
        have hi2 : (i : Int) < us.length := by have := HL.out; omega
        have hin : ((i : Int)).toNat = i := by omega
        generalize ht : ts.getD i 0 = t at *
        generalize hu : us.getD i 0 = u at *
        have HT := Lib.hid ht
        have HU := Lib.hid hu
        clear ht hu
        cases he : (t != u) with
        | true =>
          go_wp2
          (first | refine wp_region_later2 (by kernel_rfl) (by kernel_rfl) ?_ | refine wp_region_later (by kernel_rfl) (by kernel_rfl) ?_); (repeat (go_big_quiet_step (fail))); refine wpQuiet_nil ?_; intro x
          go_wp2
          go_ret
          refine .mk ?_ (by repeat (first | (with_reducible exact Below.refl _ _) | ((with_reducible refine Below.alloc ?_ ?_ _); rotate_left; (focus (first | omega | (simp; done) | (simp; omega) | (simp [Later.le, Later.le_add, Later.lt, Later.lt_add]; done) | (simp [Later.le, Later.le_add, Later.lt, Later.lt_add]; omega)))) | ((with_reducible refine bel_later _ ?_ ?_); rotate_left; (focus (first | omega | (simp; done) | (simp; omega) | (simp [Later.le, Later.le_add, Later.lt, Later.lt_add]; done) | (simp [Later.le, Later.le_add, Later.lt, Later.lt_add]; omega)))) | (with_reducible refine Below.drew ?_) | (with_reducible refine pw_below_drewN ?_ _) | ((with_reducible refine Below.setCell ?_ ?_ _); rotate_left; (focus (first | omega | (simp; done) | (simp; omega) | (simp [Later.le, Later.le_add, Later.lt, Later.lt_add]; done) | (simp [Later.le, Later.le_add, Later.lt, Later.lt_add]; omega))))))
          have hne : (ts == us) = false := by
            rw [beq_eq_false_iff_ne]
            intro hh
            rw [bne_iff_ne] at he
            exact he (by rw [← HT.out, ← HU.out, hh])
          rw [hne]
          rfl
        | false =>
          go_wp2
          (first | refine wp_region_later2 (by kernel_rfl) (by kernel_rfl) ?_ | refine wp_region_later (by kernel_rfl) (by kernel_rfl) ?_); (repeat (go_big_quiet_step (fail))); refine wpQuiet_nil ?_; intro x
          go_wp2
          go_roundg (gk - 1)
          case measure => have := HIK.out; omega
          case rel =>
            refine ⟨i + 1, x, by have := HIK.out; omega, by go_num, fun j hj => ?_, rfl⟩
            rcases Nat.lt_succ_iff_lt_or_eq.1 hj with g | g
            · exact HS.out j g
            · rw [g, HT.out, HU.out]
              simpa using he
      · go_wp2
        go_ret
        refine .mk ?_ (by repeat (first | (with_reducible exact Below.refl _ _) | ((with_reducible refine Below.alloc ?_ ?_ _); rotate_left; (focus (first | omega | (simp; done) | (simp; omega) | (simp [Later.le, Later.le_add, Later.lt, Later.lt_add]; done) | (simp [Later.le, Later.le_add, Later.lt, Later.lt_add]; omega)))) | ((with_reducible refine bel_later _ ?_ ?_); rotate_left; (focus (first | omega | (simp; done) | (simp; omega) | (simp [Later.le, Later.le_add, Later.lt, Later.lt_add]; done) | (simp [Later.le, Later.le_add, Later.lt, Later.lt_add]; omega)))) | (with_reducible refine Below.drew ?_) | (with_reducible refine pw_below_drewN ?_ _) | ((with_reducible refine Below.setCell ?_ ?_ _); rotate_left; (focus (first | omega | (simp; done) | (simp; omega) | (simp [Later.le, Later.le_add, Later.lt, Later.lt_add]; done) | (simp [Later.le, Later.le_add, Later.lt, Later.lt_add]; omega))))))
        have heq : ts = us := by
          apply List.ext_getElem HL.out
          intro j h1 h2
          have := HS.out j (by omega)
          simpa [List.getD_eq_getElem?_getD, h1, h2] using this
        rw [heq, beq_self_eq_true]
        rfl
  · have hq : ((ts.length : Int) != us.length) = true := by rw [bne_iff_ne]; omega
    have he : (ts == us) = false := by
      rw [beq_eq_false_iff_ne]
      intro hh
      exact hl (by rw [hh])
    have HE := Lib.hid he
    clear he hl
    go_enter Try.func66, Try.ntmps66
    go_wp2
    go_ret
    exact .mk (by rw [HE.out]; rfl) (by repeat (first | (with_reducible exact Below.refl _ _) | ((with_reducible refine Below.alloc ?_ ?_ _); rotate_left; (focus (first | omega | (simp; done) | (simp; omega) | (simp [Later.le, Later.le_add, Later.lt, Later.lt_add]; done) | (simp [Later.le, Later.le_add, Later.lt, Later.lt_add]; omega)))) | ((with_reducible refine bel_later _ ?_ ?_); rotate_left; (focus (first | omega | (simp; done) | (simp; omega) | (simp [Later.le, Later.le_add, Later.lt, Later.lt_add]; done) | (simp [Later.le, Later.le_add, Later.lt, Later.lt_add]; omega)))) | (with_reducible refine Below.drew ?_) | (with_reducible refine pw_below_drewN ?_ _) | ((with_reducible refine Below.setCell ?_ ?_ _); rotate_left; (focus (first | omega | (simp; done) | (simp; omega) | (simp [Later.le, Later.le_add, Later.lt, Later.lt_add]; done) | (simp [Later.le, Later.le_add, Later.lt, Later.lt_add]; omega))))))


/-! ### the order of lists of numbers -/
def cmpI : List Int → List Int → Int
  | a :: l, b :: m => if a < b then -1 else if b < a then 1 else cmpI l m
  | [], [] => 0
  | [], _ :: _ => -1
  | _ :: _, [] => 1
theorem cmpI_at : ∀ {a b : List Int} {i : Nat}, i < a.length → i < b.length → (∀ j, j < i → a.getD j 0 = b.getD j 0) → a.getD i 0 ≠ b.getD i 0 → cmpI a b = if a.getD i 0 < b.getD i 0 then -1 else 1
  | [], _, i, h, _, _, _ => by simp at h
  | _ :: _, [], i, _, h, _, _ => by simp at h
  | x :: a, y :: b, 0, _, _, _, hne => by
    have hne : x ≠ y := hne
    show (if x < y then -1 else if y < x then 1 else cmpI a b) = if x < y then -1 else 1
    by_cases h : x < y
    · rw [if_pos h, if_pos h]
    · rw [if_neg h, if_neg h, if_pos (by omega)]
  | x :: a, y :: b, i + 1, h1, h2, hs, hne => by
    have h0 : x = y := hs 0 (by omega)
    have ih := cmpI_at (a := a) (b := b) (i := i) (by simpa using h1) (by simpa using h2) (fun j hj => hs (j + 1) (by omega)) hne
    show (if x < y then -1 else if y < x then 1 else cmpI a b) = _
    rw [if_neg (by omega), if_neg (by omega), ih]
    rfl
theorem cmpI_self : ∀ a : List Int, cmpI a a = 0
  | [] => rfl
  | x :: a => by
    show (if x < x then -1 else if x < x then 1 else cmpI a a) = 0
    rw [if_neg (by omega), if_neg (by omega), cmpI_self a]
theorem cmpI_zero : ∀ {a b : List Int}, cmpI a b = 0 → a = b
  | [], [], _ => rfl
  | [], _ :: _, h => by simp [cmpI] at h
  | _ :: _, [], h => by simp [cmpI] at h
  | x :: a, y :: b, h => by
    have h : (if x < y then -1 else if y < x then 1 else cmpI a b) = 0 := h
    split at h
    · simp at h
    · split at h
      · simp at h
      · rw [cmpI_zero h, show x = y by omega]
theorem cmpI_beq (a b : List Int) : (cmpI a b == 0) = (a == b) := by
  by_cases h : a = b
  · rw [h, cmpI_self]
    exact (beq_self_eq_true b).symm
  · have : cmpI a b ≠ 0 := fun e => h (cmpI_zero e)
    rw [show (cmpI a b == 0) = false from beq_eq_false_iff_ne.2 this, show (a == b) = false from beq_eq_false_iff_ne.2 h]

set_option maxRecDepth 100000 in
set_option maxHeartbeats 1000000 in
theorem l02Compare_c (A B : Option Addr) (c b : Nat) (ts us : List Int) (w : World) (hC : kI.C w A ts.length ts) (hD : kI.C w B us.length us) (hn : ts.length ≤ 9223372036854775807) (hl : ts.length = us.length) :
    Calls Try.prog 61 #[.slice A ts.length c, .slice B us.length b] w (Gives (.int .i64 (cmpI ts us)) w) := by
  have HL := Lib.hid hl
  clear hl
  go_enter Try.func61, Try.ntmps61
  go_wp2
  go_loopg [5] ts.length (fun k v w' => ∃ (i : Nat) (y : Later w), i + k = ts.length ∧ v = .int .i64 i ∧ (∀ j, j < i → ts.getD j 0 = us.getD j 0) ∧ w' = y.W)
  case atStart => exact ⟨0, ⟨w, Below.refl _ _⟩, by omega, rfl, fun j hj => by omega, rfl⟩
  case round =>
    obtain ⟨i, y, hik, rfl, hs, rfl⟩ := hrel
    have HIK := Lib.hid hik
    have HS := Lib.hid hs
    clear hik hs
    by_cases hlt : i < ts.length
    · obtain ⟨b1, o1, hA, p0⟩ := kI_at hC i hlt
      obtain ⟨b2, o2, hB, q0⟩ := kI_at hD i (by have := HL.out; omega)
      subst hA
      subst hB
      have k1 : b1 < w.heap.size := World.block_lt_of_cell? w _ p0
      have k2 : b2 < w.heap.size := World.block_lt_of_cell? w _ q0
      have hi0 : (0 : Int) ≤ i := by omega
      have hi1 : (i : Int) < ts.length := by omega
      have hi2 : (i : Int) < us.length := by have := HL.out; omega
      have hin : ((i : Int)).toNat = i := by omega
      have hat := cmpI_at hlt (by have := HL.out; omega) HS.out
      have HAT := Lib.hid hat
      clear hat
      generalize ht : ts.getD i 0 = t at *
      generalize hu : us.getD i 0 = u at *
      have HT := Lib.hid ht
      have HU := Lib.hid hu
      clear ht hu
      by_cases h1 : t < u
      · have h1' : decide (t < u) = true := decide_eq_true h1
        have E := Lib.hid (show cmpI ts us = -1 by rw [HAT.out (by omega), if_pos h1])
        go_wp2
        (first | refine wp_region_later2 (by kernel_rfl) (by kernel_rfl) ?_ | refine wp_region_later (by kernel_rfl) (by kernel_rfl) ?_); (repeat (go_big_quiet_step (fail))); refine wpQuiet_nil ?_; intro x
        go_wp2
        go_ret
        exact .mk (by rw [E.out]; rfl) (by repeat (first | (with_reducible exact Below.refl _ _) | ((with_reducible refine Below.alloc ?_ ?_ _); rotate_left; (focus (first | omega | (simp; done) | (simp; omega) | (simp [Later.le, Later.le_add, Later.lt, Later.lt_add]; done) | (simp [Later.le, Later.le_add, Later.lt, Later.lt_add]; omega)))) | ((with_reducible refine bel_later _ ?_ ?_); rotate_left; (focus (first | omega | (simp; done) | (simp; omega) | (simp [Later.le, Later.le_add, Later.lt, Later.lt_add]; done) | (simp [Later.le, Later.le_add, Later.lt, Later.lt_add]; omega)))) | (with_reducible refine Below.drew ?_) | (with_reducible refine pw_below_drewN ?_ _) | ((with_reducible refine Below.setCell ?_ ?_ _); rotate_left; (focus (first | omega | (simp; done) | (simp; omega) | (simp [Later.le, Later.le_add, Later.lt, Later.lt_add]; done) | (simp [Later.le, Later.le_add, Later.lt, Later.lt_add]; omega))))))
      · have h1' : decide (t < u) = false := decide_eq_false h1
        by_cases h2 : u < t
        · have h2' : decide (u < t) = true := decide_eq_true h2
          have E := Lib.hid (show cmpI ts us = 1 by rw [HAT.out (by omega), if_neg h1])
          go_wp2
          (first | refine wp_region_later2 (by kernel_rfl) (by kernel_rfl) ?_ | refine wp_region_later (by kernel_rfl) (by kernel_rfl) ?_); (repeat (go_big_quiet_step (fail))); refine wpQuiet_nil ?_; intro x
          go_wp2
          (first | refine wp_region_later2 (by kernel_rfl) (by kernel_rfl) ?_ | refine wp_region_later (by kernel_rfl) (by kernel_rfl) ?_); (repeat (go_big_quiet_step (fail))); refine wpQuiet_nil ?_; intro x2
          go_wp2
          go_ret
          exact .mk (by rw [E.out]; rfl) (by repeat (first | (with_reducible exact Below.refl _ _) | ((with_reducible refine Below.alloc ?_ ?_ _); rotate_left; (focus (first | omega | (simp; done) | (simp; omega) | (simp [Later.le, Later.le_add, Later.lt, Later.lt_add]; done) | (simp [Later.le, Later.le_add, Later.lt, Later.lt_add]; omega)))) | ((with_reducible refine bel_later _ ?_ ?_); rotate_left; (focus (first | omega | (simp; done) | (simp; omega) | (simp [Later.le, Later.le_add, Later.lt, Later.lt_add]; done) | (simp [Later.le, Later.le_add, Later.lt, Later.lt_add]; omega)))) | (with_reducible refine Below.drew ?_) | (with_reducible refine pw_below_drewN ?_ _) | ((with_reducible refine Below.setCell ?_ ?_ _); rotate_left; (focus (first | omega | (simp; done) | (simp; omega) | (simp [Later.le, Later.le_add, Later.lt, Later.lt_add]; done) | (simp [Later.le, Later.le_add, Later.lt, Later.lt_add]; omega))))))
        · have h2' : decide (u < t) = false := decide_eq_false h2
          go_wp2
          (first | refine wp_region_later2 (by kernel_rfl) (by kernel_rfl) ?_ | refine wp_region_later (by kernel_rfl) (by kernel_rfl) ?_); (repeat (go_big_quiet_step (fail))); refine wpQuiet_nil ?_; intro x
          go_wp2
          (first | refine wp_region_later2 (by kernel_rfl) (by kernel_rfl) ?_ | refine wp_region_later (by kernel_rfl) (by kernel_rfl) ?_); (repeat (go_big_quiet_step (fail))); refine wpQuiet_nil ?_; intro x2
          go_wp2
          go_roundg (gk - 1)
          case measure => have := HIK.out; omega
          case rel =>
            refine ⟨i + 1, x2, by have := HIK.out; omega, by go_num, fun j hj => ?_, rfl⟩
            rcases Nat.lt_succ_iff_lt_or_eq.1 hj with g | g
            · exact HS.out j g
            · rw [g, HT.out, HU.out]
              omega
    · have heq : ts = us := by
        apply List.ext_getElem HL.out
        intro j h1 h2
        have := HS.out j (by omega)
        simpa [List.getD_eq_getElem?_getD, h1, h2] using this
      have E := Lib.hid (show cmpI ts us = 0 by rw [heq, cmpI_self])
      clear heq
      go_wp2
      go_ret
      exact .mk (by rw [E.out]; rfl) (by repeat (first | (with_reducible exact Below.refl _ _) | ((with_reducible refine Below.alloc ?_ ?_ _); rotate_left; (focus (first | omega | (simp; done) | (simp; omega) | (simp [Later.le, Later.le_add, Later.lt, Later.lt_add]; done) | (simp [Later.le, Later.le_add, Later.lt, Later.lt_add]; omega)))) | ((with_reducible refine bel_later _ ?_ ?_); rotate_left; (focus (first | omega | (simp; done) | (simp; omega) | (simp [Later.le, Later.le_add, Later.lt, Later.lt_add]; done) | (simp [Later.le, Later.le_add, Later.lt, Later.lt_add]; omega)))) | (with_reducible refine Below.drew ?_) | (with_reducible refine pw_below_drewN ?_ _) | ((with_reducible refine Below.setCell ?_ ?_ _); rotate_left; (focus (first | omega | (simp; done) | (simp; omega) | (simp [Later.le, Later.le_add, Later.lt, Later.lt_add]; done) | (simp [Later.le, Later.le_add, Later.lt, Later.lt_add]; omega))))))
end Go.Proofs.Ytgidpgfkbgbhmaa

/- The walks of the program's StabiliserOf; no condition. -/
set_option linter.unusedVariables false
set_option linter.unusedSimpArgs false
namespace Go.Proofs.Ytgidpgfkbgbhmaa
open Go.RowKit Go.Proofs.YtgidpgfkbgbhmaaW.PrintWords
attribute [local go_sem] Later.cell Later.frozen Later.lt Later.lt_add Later.le Later.le_add Later.ne Later.ne' add_at
attribute [local go_sem 2000] run_eqM guardM


/-- The matrices that leave a point. -/
def stabB (p n : Int) (xs : List Int) (a : M9) : Bool := ledL p n.toNat xs a == xs
def codeG (p n : Int) (ms : List M9) (xs : List Int) : Int := if grpB p n ms = true then (if pointB p n xs = true then 0 else 2) else 1
def stabR (p n : Int) (ms : List M9) (xs : List Int) : GC := if codeG p n ms xs = 0 then ⟨p, n, ms.filter (stabB p n xs), 0⟩ else ⟨0, 0, [], codeG p n ms xs⟩
theorem codeG_0 {p n : Int} {ms : List M9} {xs : List Int} (h : codeG p n ms xs = 0) : GrpP p n ms ∧ pointB p n xs = true := by
  unfold codeG at h
  split at h
  · rename_i hg
    split at h
    · rename_i hp
      exact ⟨(grpB_iff p n ms).1 hg, hp⟩
    · simp at h
  · simp at h
theorem pointB_of {p n : Int} {xs : List Int} (h : pointB p n xs = true) : allB p xs = true ∧ (xs.length : Int) = n := by
  unfold pointB at h
  simpa using h
theorem grp_num {p n : Int} {ms : List M9} (g : GrpP p n ms) : 2 ≤ p ∧ p ≤ 13 ∧ 1 ≤ n ∧ n ≤ 3 := by
  have h0 := g.mat 0 (by have := g.l1; omega)
  obtain ⟨_, h1, h2, h3, h4⟩ := matB_le h0
  exact ⟨h1, h2, h3, h4⟩

set_option maxRecDepth 100000 in
set_option maxHeartbeats 2000000 in
theorem stable_c {p n : Int} {A B : Option Addr} {c d gb pb : Nat} {ms : List M9} {xs : List Int} {w : World} (a : M9) (hB : kI.C w B xs.length xs) (v0 : w.cell? ⟨gb, 0, none⟩ = some (.int .i64 p)) (v1 : w.cell? ⟨gb, 1, none⟩ = some (.int .i64 n)) (v2 : w.cell? ⟨gb, 2, none⟩ = some (.slice A ms.length c)) (u0 : w.cell? ⟨pb, 0, none⟩ = some (.slice B xs.length d))
    (hp : 2 ≤ p) (hp' : p ≤ 13) (hn1 : 1 ≤ n) (hn3 : n ≤ 3) (ha : a.le p) (hx : ∀ i, 0 ≤ xs.getD i 0 ∧ xs.getD i 0 < p) (hl : (xs.length : Int) = n) :
    Calls Try.prog 65 #[.agg #[.int .u8 (a.r0.a.toNat : Int), .int .u8 (a.r0.b.toNat : Int), .int .u8 (a.r0.c.toNat : Int), .int .u8 (a.r1.a.toNat : Int), .int .u8 (a.r1.b.toNat : Int), .int .u8 (a.r1.c.toNat : Int), .int .u8 (a.r2.a.toNat : Int), .int .u8 (a.r2.b.toNat : Int), .int .u8 (a.r2.c.toNat : Int)], .pointer (some ⟨gb, 0, none⟩), .pointer (some ⟨pb, 0, none⟩)] w (Gives (.bool (stabB p n xs a)) w) := by
  obtain ⟨m, rfl⟩ : ∃ m : Nat, n = m := ⟨n.toNat, by omega⟩
  have hT := fun W (hC : kI.C W B xs.length xs) => led_c (c := d) a hC (show xs.length = m by omega) hp hp' (by omega) (by omega) ha hx
  have hE := fun W A' c' (hC : kI.C W A' (ledL p m xs a).length (ledL p m xs a)) (hD : kI.C W B xs.length xs) => equalI_c A' B c' d (ledL p m xs a) xs W hC hD (by rw [ledL_len]; omega) (by omega)
  have e : stabB p (m : Int) xs a = (ledL p m xs a == xs) := by rw [stabB, Int.toNat_natCast]
  rw [e]
  clear e hx
  have hzg := World.block_lt_of_cell? _ _ v0
  have hzp := World.block_lt_of_cell? _ _ u0
  simp only [] at hzg hzp
  generalize ledL p m xs a = ls at *
  go_enter Try.func65, Try.ntmps65
  go_wp2
  have v0 := cell_alloc v0 (.cells #[.int .u8 (a.r0.a.toNat : Int), .int .u8 (a.r0.b.toNat : Int), .int .u8 (a.r0.c.toNat : Int), .int .u8 (a.r1.a.toNat : Int), .int .u8 (a.r1.b.toNat : Int), .int .u8 (a.r1.c.toNat : Int), .int .u8 (a.r2.a.toNat : Int), .int .u8 (a.r2.b.toNat : Int), .int .u8 (a.r2.c.toNat : Int)] 76)
  have v1 := cell_alloc v1 (.cells #[.int .u8 (a.r0.a.toNat : Int), .int .u8 (a.r0.b.toNat : Int), .int .u8 (a.r0.c.toNat : Int), .int .u8 (a.r1.a.toNat : Int), .int .u8 (a.r1.b.toNat : Int), .int .u8 (a.r1.c.toNat : Int), .int .u8 (a.r2.a.toNat : Int), .int .u8 (a.r2.b.toNat : Int), .int .u8 (a.r2.c.toNat : Int)] 76)
  have v2 := cell_alloc v2 (.cells #[.int .u8 (a.r0.a.toNat : Int), .int .u8 (a.r0.b.toNat : Int), .int .u8 (a.r0.c.toNat : Int), .int .u8 (a.r1.a.toNat : Int), .int .u8 (a.r1.b.toNat : Int), .int .u8 (a.r1.c.toNat : Int), .int .u8 (a.r2.a.toNat : Int), .int .u8 (a.r2.b.toNat : Int), .int .u8 (a.r2.c.toNat : Int)] 76)
  have u0 := cell_alloc u0 (.cells #[.int .u8 (a.r0.a.toNat : Int), .int .u8 (a.r0.b.toNat : Int), .int .u8 (a.r0.c.toNat : Int), .int .u8 (a.r1.a.toNat : Int), .int .u8 (a.r1.b.toNat : Int), .int .u8 (a.r1.c.toNat : Int), .int .u8 (a.r2.a.toNat : Int), .int .u8 (a.r2.b.toNat : Int), .int .u8 (a.r2.c.toNat : Int)] 76)
  have hB1 := Kd.C_alloc hB (.cells #[.int .u8 (a.r0.a.toNat : Int), .int .u8 (a.r0.b.toNat : Int), .int .u8 (a.r0.c.toNat : Int), .int .u8 (a.r1.a.toNat : Int), .int .u8 (a.r1.b.toNat : Int), .int .u8 (a.r1.c.toNat : Int), .int .u8 (a.r2.a.toNat : Int), .int .u8 (a.r2.b.toNat : Int), .int .u8 (a.r2.c.toNat : Int)] 76)
  obtain ⟨n0, n1, n2, n3, n4, n5, n6, n7, n8, _⟩ := nine_alloc w a 76
  have hbV : Below w.heap.size w (w.alloc (.cells #[.int .u8 (a.r0.a.toNat : Int), .int .u8 (a.r0.b.toNat : Int), .int .u8 (a.r0.c.toNat : Int), .int .u8 (a.r1.a.toNat : Int), .int .u8 (a.r1.b.toNat : Int), .int .u8 (a.r1.c.toNat : Int), .int .u8 (a.r2.a.toNat : Int), .int .u8 (a.r2.b.toNat : Int), .int .u8 (a.r2.c.toNat : Int)] 76)) := (by repeat (first | (with_reducible assumption) | (with_reducible exact Below.refl _ _) | ((with_reducible refine Below.alloc ?_ ?_ _); rotate_left; (focus (first | omega | (simp; done) | (simp; omega) | (simp [Later.le, Later.le_add, Later.lt, Later.lt_add]; done) | (simp [Later.le, Later.le_add, Later.lt, Later.lt_add]; omega)))) | (with_reducible refine Below.drew ?_) | (with_reducible refine pw_below_drewN ?_ _) | ((with_reducible refine Below.setCell ?_ ?_ _); rotate_left; (focus (first | omega | (simp; done) | (simp; omega) | (simp [Later.le, Later.le_add, Later.lt, Later.lt_add]; done) | (simp [Later.le, Later.le_add, Later.lt, Later.lt_add]; omega)))) | ((with_reducible refine below_hop (by assumption) ?_ ?_); rotate_left; (focus (first | omega | (simp; done) | (simp; omega) | (simp [Later.le, Later.le_add, Later.lt, Later.lt_add]; done) | (simp [Later.le, Later.le_add, Later.lt, Later.lt_add]; omega)))) | ((with_reducible refine bel_later _ ?_ ?_); rotate_left; (focus (first | omega | (simp; done) | (simp; omega) | (simp [Later.le, Later.le_add, Later.lt, Later.lt_add]; done) | (simp [Later.le, Later.le_add, Later.lt, Later.lt_add]; omega))))))
  generalize w.alloc (.cells #[.int .u8 (a.r0.a.toNat : Int), .int .u8 (a.r0.b.toNat : Int), .int .u8 (a.r0.c.toNat : Int), .int .u8 (a.r1.a.toNat : Int), .int .u8 (a.r1.b.toNat : Int), .int .u8 (a.r1.c.toNat : Int), .int .u8 (a.r2.a.toNat : Int), .int .u8 (a.r2.b.toNat : Int), .int .u8 (a.r2.c.toNat : Int)] 76) = V at *
  generalize hbx : w.heap.size = bx at *
  have hz1 := World.block_lt_of_cell? _ _ v0
  have hz2 := World.block_lt_of_cell? _ _ u0
  have hz3 := World.block_lt_of_cell? _ _ n0
  simp only [] at hz1 hz2 hz3
  clear hB
  go_region_held3 (fun w' => w'.cell? ⟨gb, 0, none⟩ = some (.int .i64 p) ∧ w'.cell? ⟨gb, 1, none⟩ = some (.int .i64 (m : Int)) ∧ w'.cell? ⟨pb, 0, none⟩ = some (.slice B xs.length d) ∧ w'.cell? ⟨bx, 0, none⟩ = some (.int .u8 (a.r0.a.toNat : Int)) ∧ w'.cell? ⟨bx, 1, none⟩ = some (.int .u8 (a.r0.b.toNat : Int)) ∧ w'.cell? ⟨bx, 2, none⟩ = some (.int .u8 (a.r0.c.toNat : Int)) ∧ w'.cell? ⟨bx, 3, none⟩ = some (.int .u8 (a.r1.a.toNat : Int)) ∧ w'.cell? ⟨bx, 4, none⟩ = some (.int .u8 (a.r1.b.toNat : Int)) ∧ w'.cell? ⟨bx, 5, none⟩ = some (.int .u8 (a.r1.c.toNat : Int)) ∧ w'.cell? ⟨bx, 6, none⟩ = some (.int .u8 (a.r2.a.toNat : Int)) ∧ w'.cell? ⟨bx, 7, none⟩ = some (.int .u8 (a.r2.b.toNat : Int)) ∧ w'.cell? ⟨bx, 8, none⟩ = some (.int .u8 (a.r2.c.toNat : Int))) ((refine ⟨?_, ?_, ?_, ?_, ?_, ?_, ?_, ?_, ?_, ?_, ?_, ?_⟩ <;> ((repeat (refine cell_far2 ?_ (by dsimp only; omega))); (first | assumption | (exact cell_alloc (by assumption) _))))) (first
    | (go_at_call 67; (first | (with_reducible refine call_makes2 (hT _ ?hcc) ?_) | (with_reducible refine call_makes (hT _ ?hcc) ?_)); (case hcc => exact Kd.C_below hB1 (by repeat (first | (with_reducible assumption) | (with_reducible exact Below.refl _ _) | ((with_reducible refine Below.alloc ?_ ?_ _); rotate_left; (focus (first | omega | (simp; done) | (simp; omega) | (simp [Later.le, Later.le_add, Later.lt, Later.lt_add]; done) | (simp [Later.le, Later.le_add, Later.lt, Later.lt_add]; omega)))) | (with_reducible refine Below.drew ?_) | (with_reducible refine pw_below_drewN ?_ _) | ((with_reducible refine Below.setCell ?_ ?_ _); rotate_left; (focus (first | omega | (simp; done) | (simp; omega) | (simp [Later.le, Later.le_add, Later.lt, Later.lt_add]; done) | (simp [Later.le, Later.le_add, Later.lt, Later.lt_add]; omega)))) | ((with_reducible refine below_hop (by assumption) ?_ ?_); rotate_left; (focus (first | omega | (simp; done) | (simp; omega) | (simp [Later.le, Later.le_add, Later.lt, Later.lt_add]; done) | (simp [Later.le, Later.le_add, Later.lt, Later.lt_add]; omega)))) | ((with_reducible refine bel_later _ ?_ ?_); rotate_left; (focus (first | omega | (simp; done) | (simp; omega) | (simp [Later.le, Later.le_add, Later.lt, Later.lt_add]; done) | (simp [Later.le, Later.le_add, Later.lt, Later.lt_add]; omega))))))); intro x1 A1 c1 hb1 hl1 hR1 hC1; have hxx := hb1.size; (try simp at hxx); have v0x := pw_cell_below hb1 v0; have v1x := pw_cell_below hb1 v1; have u0x := pw_cell_below hb1 u0; have n0x := pw_cell_below hb1 n0; have n1x := pw_cell_below hb1 n1; have n2x := pw_cell_below hb1 n2; have n3x := pw_cell_below hb1 n3; have n4x := pw_cell_below hb1 n4; have n5x := pw_cell_below hb1 n5; have n6x := pw_cell_below hb1 n6; have n7x := pw_cell_below hb1 n7; have n8x := pw_cell_below hb1 n8)
    | (go_at_call 66; (first | (with_reducible refine call_later3 (hE _ _ _ ?hcc ?hcd) ?_) | (with_reducible refine call_later4 (hE _ _ _ ?hcc ?hcd) ?_)); (case hcc => exact Kd.C_below hC1 (by repeat (first | (with_reducible assumption) | (with_reducible exact Below.refl _ _) | ((with_reducible refine Below.alloc ?_ ?_ _); rotate_left; (focus (first | omega | (simp; done) | (simp; omega) | (simp [Later.le, Later.le_add, Later.lt, Later.lt_add]; done) | (simp [Later.le, Later.le_add, Later.lt, Later.lt_add]; omega)))) | (with_reducible refine Below.drew ?_) | (with_reducible refine pw_below_drewN ?_ _) | ((with_reducible refine Below.setCell ?_ ?_ _); rotate_left; (focus (first | omega | (simp; done) | (simp; omega) | (simp [Later.le, Later.le_add, Later.lt, Later.lt_add]; done) | (simp [Later.le, Later.le_add, Later.lt, Later.lt_add]; omega)))) | ((with_reducible refine below_hop (by assumption) ?_ ?_); rotate_left; (focus (first | omega | (simp; done) | (simp; omega) | (simp [Later.le, Later.le_add, Later.lt, Later.lt_add]; done) | (simp [Later.le, Later.le_add, Later.lt, Later.lt_add]; omega)))) | ((with_reducible refine bel_later _ ?_ ?_); rotate_left; (focus (first | omega | (simp; done) | (simp; omega) | (simp [Later.le, Later.le_add, Later.lt, Later.lt_add]; done) | (simp [Later.le, Later.le_add, Later.lt, Later.lt_add]; omega))))))); (case hcd => exact Kd.C_below hB1 (by repeat (first | (with_reducible assumption) | (with_reducible exact Below.refl _ _) | ((with_reducible refine Below.alloc ?_ ?_ _); rotate_left; (focus (first | omega | (simp; done) | (simp; omega) | (simp [Later.le, Later.le_add, Later.lt, Later.lt_add]; done) | (simp [Later.le, Later.le_add, Later.lt, Later.lt_add]; omega)))) | (with_reducible refine Below.drew ?_) | (with_reducible refine pw_below_drewN ?_ _) | ((with_reducible refine Below.setCell ?_ ?_ _); rotate_left; (focus (first | omega | (simp; done) | (simp; omega) | (simp [Later.le, Later.le_add, Later.lt, Later.lt_add]; done) | (simp [Later.le, Later.le_add, Later.lt, Later.lt_add]; omega)))) | ((with_reducible refine below_hop (by assumption) ?_ ?_); rotate_left; (focus (first | omega | (simp; done) | (simp; omega) | (simp [Later.le, Later.le_add, Later.lt, Later.lt_add]; done) | (simp [Later.le, Later.le_add, Later.lt, Later.lt_add]; omega)))) | ((with_reducible refine bel_later _ ?_ ?_); rotate_left; (focus (first | omega | (simp; done) | (simp; omega) | (simp [Later.le, Later.le_add, Later.lt, Later.lt_add]; done) | (simp [Later.le, Later.le_add, Later.lt, Later.lt_add]; omega))))))); intro x2 hb2; have v0y := pw_cell_below hb2 v0x; have v1y := pw_cell_below hb2 v1x; have u0y := pw_cell_below hb2 u0x; have n0y := pw_cell_below hb2 n0x; have n1y := pw_cell_below hb2 n1x; have n2y := pw_cell_below hb2 n2x; have n3y := pw_cell_below hb2 n3x; have n4y := pw_cell_below hb2 n4x; have n5y := pw_cell_below hb2 n5x; have n6y := pw_cell_below hb2 n6x; have n7y := pw_cell_below hb2 n7x; have n8y := pw_cell_below hb2 n8x))
  all_goals go_wp2
  all_goals have hbw : Below bx w x2.W := hbx ▸ hbV.trans ((show Below V.heap.size V x2.W from (by repeat (first | (with_reducible assumption) | (with_reducible exact Below.refl _ _) | ((with_reducible refine Below.alloc ?_ ?_ _); rotate_left; (focus (first | omega | (simp; done) | (simp; omega) | (simp [Later.le, Later.le_add, Later.lt, Later.lt_add]; done) | (simp [Later.le, Later.le_add, Later.lt, Later.lt_add]; omega)))) | (with_reducible refine Below.drew ?_) | (with_reducible refine pw_below_drewN ?_ _) | ((with_reducible refine Below.setCell ?_ ?_ _); rotate_left; (focus (first | omega | (simp; done) | (simp; omega) | (simp [Later.le, Later.le_add, Later.lt, Later.lt_add]; done) | (simp [Later.le, Later.le_add, Later.lt, Later.lt_add]; omega)))) | ((with_reducible refine below_hop (by assumption) ?_ ?_); rotate_left; (focus (first | omega | (simp; done) | (simp; omega) | (simp [Later.le, Later.le_add, Later.lt, Later.lt_add]; done) | (simp [Later.le, Later.le_add, Later.lt, Later.lt_add]; omega)))) | ((with_reducible refine bel_later _ ?_ ?_); rotate_left; (focus (first | omega | (simp; done) | (simp; omega) | (simp [Later.le, Later.le_add, Later.lt, Later.lt_add]; done) | (simp [Later.le, Later.le_add, Later.lt, Later.lt_add]; omega))))))).mono (by omega))
  all_goals exact bodyPost_ret (v := .bool (ls == xs)) (by simp [results, Try.results65, go_sem]) rfl (.mk rfl (hbx ▸ hbw))

set_option maxRecDepth 100000 in
set_option maxHeartbeats 4000000 in
/-- those, with whatever closure tells for each matrix whether q holds of it. -/
theorem thoseS_c {p n : Int} {A : Option Addr} {c : Nat} {ms : List M9} {w : World} (gb pb : Nat) (q : M9 → Bool) (hC : kM.C w A ms.length ms) (hN : ms.length ≤ 48)
    (hcl : ∀ (x : Later w) i, i < ms.length → Calls Try.prog 65 #[.agg #[.int .u8 ((ms.getD i zM).r0.a.toNat : Int), .int .u8 ((ms.getD i zM).r0.b.toNat : Int), .int .u8 ((ms.getD i zM).r0.c.toNat : Int), .int .u8 ((ms.getD i zM).r1.a.toNat : Int), .int .u8 ((ms.getD i zM).r1.b.toNat : Int), .int .u8 ((ms.getD i zM).r1.c.toNat : Int), .int .u8 ((ms.getD i zM).r2.a.toNat : Int), .int .u8 ((ms.getD i zM).r2.b.toNat : Int), .int .u8 ((ms.getD i zM).r2.c.toNat : Int)], .pointer (some ⟨gb, 0, none⟩), .pointer (some ⟨pb, 0, none⟩)] x.W (Gives (.bool (q (ms.getD i zM))) x.W)) :
    Calls Try.prog 64 #[.agg #[.int .i64 p, .int .i64 n, .slice A ms.length c], .func (.func 65) #[] #[.pointer (some ⟨gb, 0, none⟩), .pointer (some ⟨pb, 0, none⟩)]] w (MakesG p n 76 (ms.filter q) w) := by
  have HCL := Lib.hid hcl
  clear hcl
  go_enter Try.func64, Try.ntmps64
  go_wp2
  have hC1 := Kd.C_alloc (Kd.C_alloc (Kd.C_alloc hC (.cells #[.int .i64 p, .int .i64 n, .slice A ms.length c] 29)) (.cells #[.int .i64 0, .int .i64 0, .slice none 0 0] 29)) (.cells #[.int .i64 p, .int .i64 n, .slice none 0 0] 29)
  have hbV : Below w.heap.size w (((w.alloc (.cells #[.int .i64 p, .int .i64 n, .slice A ms.length c] 29)).alloc (.cells #[.int .i64 0, .int .i64 0, .slice none 0 0] 29)).alloc (.cells #[.int .i64 p, .int .i64 n, .slice none 0 0] 29)) := (by repeat (first | (with_reducible assumption) | (with_reducible exact Below.refl _ _) | ((with_reducible refine Below.alloc ?_ ?_ _); rotate_left; (focus (first | omega | (simp; done) | (simp; omega) | (simp [Later.le, Later.le_add, Later.lt, Later.lt_add]; done) | (simp [Later.le, Later.le_add, Later.lt, Later.lt_add]; omega)))) | (with_reducible refine Below.drew ?_) | (with_reducible refine pw_below_drewN ?_ _) | ((with_reducible refine Below.setCell ?_ ?_ _); rotate_left; (focus (first | omega | (simp; done) | (simp; omega) | (simp [Later.le, Later.le_add, Later.lt, Later.lt_add]; done) | (simp [Later.le, Later.le_add, Later.lt, Later.lt_add]; omega)))) | ((with_reducible refine below_hop (by assumption) ?_ ?_); rotate_left; (focus (first | omega | (simp; done) | (simp; omega) | (simp [Later.le, Later.le_add, Later.lt, Later.lt_add]; done) | (simp [Later.le, Later.le_add, Later.lt, Later.lt_add]; omega)))) | ((with_reducible refine bel_later _ ?_ ?_); rotate_left; (focus (first | omega | (simp; done) | (simp; omega) | (simp [Later.le, Later.le_add, Later.lt, Later.lt_add]; done) | (simp [Later.le, Later.le_add, Later.lt, Later.lt_add]; omega))))))
  have o0 : (((w.alloc (.cells #[.int .i64 p, .int .i64 n, .slice A ms.length c] 29)).alloc (.cells #[.int .i64 0, .int .i64 0, .slice none 0 0] 29)).alloc (.cells #[.int .i64 p, .int .i64 n, .slice none 0 0] 29)).cell? ⟨w.heap.size + 1 + 1, 0, none⟩ = some (.int .i64 p) := by first | (simp; done) | (simp [go_sem]; done) | go_simp
  have o1 : (((w.alloc (.cells #[.int .i64 p, .int .i64 n, .slice A ms.length c] 29)).alloc (.cells #[.int .i64 0, .int .i64 0, .slice none 0 0] 29)).alloc (.cells #[.int .i64 p, .int .i64 n, .slice none 0 0] 29)).cell? ⟨w.heap.size + 1 + 1, 1, none⟩ = some (.int .i64 n) := by first | (simp; done) | (simp [go_sem]; done) | go_simp
  have o2 : (((w.alloc (.cells #[.int .i64 p, .int .i64 n, .slice A ms.length c] 29)).alloc (.cells #[.int .i64 0, .int .i64 0, .slice none 0 0] 29)).alloc (.cells #[.int .i64 p, .int .i64 n, .slice none 0 0] 29)).cell? ⟨w.heap.size + 1 + 1, 2, none⟩ = some (.slice none 0 0) := by first | (simp; done) | (simp [go_sem]; done) | go_simp
  have r0 : (((w.alloc (.cells #[.int .i64 p, .int .i64 n, .slice A ms.length c] 29)).alloc (.cells #[.int .i64 0, .int .i64 0, .slice none 0 0] 29)).alloc (.cells #[.int .i64 p, .int .i64 n, .slice none 0 0] 29)).cell? ⟨w.heap.size + 1, 0, none⟩ = some (.int .i64 0) := by first | (simp; done) | (simp [go_sem]; done) | go_simp
  have r1 : (((w.alloc (.cells #[.int .i64 p, .int .i64 n, .slice A ms.length c] 29)).alloc (.cells #[.int .i64 0, .int .i64 0, .slice none 0 0] 29)).alloc (.cells #[.int .i64 p, .int .i64 n, .slice none 0 0] 29)).cell? ⟨w.heap.size + 1, 1, none⟩ = some (.int .i64 0) := by first | (simp; done) | (simp [go_sem]; done) | go_simp
  have r2 : (((w.alloc (.cells #[.int .i64 p, .int .i64 n, .slice A ms.length c] 29)).alloc (.cells #[.int .i64 0, .int .i64 0, .slice none 0 0] 29)).alloc (.cells #[.int .i64 p, .int .i64 n, .slice none 0 0] 29)).cell? ⟨w.heap.size + 1, 2, none⟩ = some (.slice none 0 0) := by first | (simp; done) | (simp [go_sem]; done) | go_simp
  have g2 : (((w.alloc (.cells #[.int .i64 p, .int .i64 n, .slice A ms.length c] 29)).alloc (.cells #[.int .i64 0, .int .i64 0, .slice none 0 0] 29)).alloc (.cells #[.int .i64 p, .int .i64 n, .slice none 0 0] 29)).cell? ⟨w.heap.size, 2, none⟩ = some (.slice A ms.length c) := by first | (simp; done) | (simp [go_sem]; done) | go_simp
  have o3 : (((w.alloc (.cells #[.int .i64 p, .int .i64 n, .slice A ms.length c] 29)).alloc (.cells #[.int .i64 0, .int .i64 0, .slice none 0 0] 29)).alloc (.cells #[.int .i64 p, .int .i64 n, .slice none 0 0] 29)).frozen? ⟨w.heap.size + 1 + 1, 2, none⟩ = false := by first | (simp; done) | (simp [go_sem]; done) | go_simp
  have r3 : (((w.alloc (.cells #[.int .i64 p, .int .i64 n, .slice A ms.length c] 29)).alloc (.cells #[.int .i64 0, .int .i64 0, .slice none 0 0] 29)).alloc (.cells #[.int .i64 p, .int .i64 n, .slice none 0 0] 29)).frozen? ⟨w.heap.size + 1, 0, none⟩ = false := by first | (simp; done) | (simp [go_sem]; done) | go_simp
  have r4 : (((w.alloc (.cells #[.int .i64 p, .int .i64 n, .slice A ms.length c] 29)).alloc (.cells #[.int .i64 0, .int .i64 0, .slice none 0 0] 29)).alloc (.cells #[.int .i64 p, .int .i64 n, .slice none 0 0] 29)).frozen? ⟨w.heap.size + 1, 1, none⟩ = false := by first | (simp; done) | (simp [go_sem]; done) | go_simp
  have r5 : (((w.alloc (.cells #[.int .i64 p, .int .i64 n, .slice A ms.length c] 29)).alloc (.cells #[.int .i64 0, .int .i64 0, .slice none 0 0] 29)).alloc (.cells #[.int .i64 p, .int .i64 n, .slice none 0 0] 29)).frozen? ⟨w.heap.size + 1, 2, none⟩ = false := by first | (simp; done) | (simp [go_sem]; done) | go_simp
  have hzV : (((w.alloc (.cells #[.int .i64 p, .int .i64 n, .slice A ms.length c] 29)).alloc (.cells #[.int .i64 0, .int .i64 0, .slice none 0 0] 29)).alloc (.cells #[.int .i64 p, .int .i64 n, .slice none 0 0] 29)).heap.size = w.heap.size + 3 := by simp
  have acc0 : Acc w (w.heap.size + 1 + 1) (w.heap.size + 1) p n 76 (((w.alloc (.cells #[.int .i64 p, .int .i64 n, .slice A ms.length c] 29)).alloc (.cells #[.int .i64 0, .int .i64 0, .slice none 0 0] 29)).alloc (.cells #[.int .i64 p, .int .i64 n, .slice none 0 0] 29)) none 0 [] := ⟨hbV, by omega, by omega, o0, o1, o2, o3, Kd.R_nil _ _ _ _ _, r0, r1, r2, r3, r4, r5, by omega⟩
  clear o0 o1 o2 o3 r0 r1 r2 r3 r4 r5 hzV g2 hC1 hbV
  generalize (((w.alloc (.cells #[.int .i64 p, .int .i64 n, .slice A ms.length c] 29)).alloc (.cells #[.int .i64 0, .int .i64 0, .slice none 0 0] 29)).alloc (.cells #[.int .i64 p, .int .i64 n, .slice none 0 0] 29)) = V at *
  generalize w.heap.size + 1 + 1 = ob at *
  generalize w.heap.size + 1 = rb at *
  go_loopg [16] ms.length (fun k v w' => ∃ (i : Nat) (B : Option Addr) (cb : Nat), i + k = ms.length ∧ v = .int .i64 i ∧ Acc w ob rb p n 76 w' B cb ((ms.take i).filter q))
  case atStart => exact ⟨0, none, 0, by omega, rfl, acc0⟩
  case round =>
    clear acc0
    obtain ⟨i, B, cb, hik, rfl, acc⟩ := hrel
    have HIK := Lib.hid hik
    clear hik
    by_cases hlt : i < ms.length
    · obtain ⟨b, o, hA, q0, q1, q2, q3, q4, q5, q6, q7, q8⟩ := kM_at hC i hlt
      subst hA
      have q0 := pw_cell_below acc.bel q0
      have q1 := pw_cell_below acc.bel q1
      have q2 := pw_cell_below acc.bel q2
      have q3 := pw_cell_below acc.bel q3
      have q4 := pw_cell_below acc.bel q4
      have q5 := pw_cell_below acc.bel q5
      have q6 := pw_cell_below acc.bel q6
      have q7 := pw_cell_below acc.bel q7
      have q8 := pw_cell_below acc.bel q8
      have hi0 : (0 : Int) ≤ i := by omega
      have hi1 : (i : Int) < ms.length := by omega
      have hin : ((i : Int)).toNat = i := by omega
      have hps := filt_step q ms i hlt
      have hpl : ((ms.take i).filter q).length ≤ 48 := Nat.le_trans (List.length_filter_le _ _) (Nat.le_trans (List.length_take_le' _ _) hN)
      have hcl := fun x => HCL.out x i hlt
      generalize ms.getD i zM = m at *
      generalize (ms.take i).filter q = xs at *
      have HPS := Lib.hid hps
      clear hps
      have acc2 := acc.below (below_alloc (Below.refl _ wr) (.cells #[.int .u8 (m.r0.a.toNat : Int), .int .u8 (m.r0.b.toNat : Int), .int .u8 (m.r0.c.toNat : Int), .int .u8 (m.r1.a.toNat : Int), .int .u8 (m.r1.b.toNat : Int), .int .u8 (m.r1.c.toNat : Int), .int .u8 (m.r2.a.toNat : Int), .int .u8 (m.r2.b.toNat : Int), .int .u8 (m.r2.c.toNat : Int)] 76))
      obtain ⟨n0, n1, n2, n3, n4, n5, n6, n7, n8, _⟩ := nine_alloc wr m 76
      have ACC := Lib.hid acc2
      clear acc acc2
      go_wp2_with fail
      generalize wr.alloc (.cells #[.int .u8 (m.r0.a.toNat : Int), .int .u8 (m.r0.b.toNat : Int), .int .u8 (m.r0.c.toNat : Int), .int .u8 (m.r1.a.toNat : Int), .int .u8 (m.r1.b.toNat : Int), .int .u8 (m.r1.c.toNat : Int), .int .u8 (m.r2.a.toNat : Int), .int .u8 (m.r2.b.toNat : Int), .int .u8 (m.r2.c.toNat : Int)] 76) = V2 at *
      generalize wr.heap.size = bx at *
      have hcl2 := hcl ⟨V2, ACC.out.bel⟩
      clear hcl
      cases hq : q m with
      | false =>
        rw [hq] at hcl2
        go_wp2_with (go_at_call 65; (with_reducible refine call_later4 hcl2 ?_); intro x5 hb5)
        go_roundg (ms.length - i - 1)
        case measure => have := HIK.out; omega
        case rel =>
          have e := HPS.out
          rw [hq] at e
          simp only [Bool.false_eq_true, if_false] at e
          exact ⟨i + 1, B, cb, by have := HIK.out; omega, by go_num, by rw [e]; exact ACC.out.below hb5⟩
      | true =>
        rw [hq] at hcl2
        go_wp2_with (first | (go_at_call 65; (with_reducible refine call_later4 hcl2 ?_); intro x5 hb5; have acc5 := ACC.out.below hb5; have p2 := acc5.o2; have p3 := acc5.o3; replace n0 := pw_cell_below hb5 n0; replace n1 := pw_cell_below hb5 n1; replace n2 := pw_cell_below hb5 n2; replace n3 := pw_cell_below hb5 n3; replace n4 := pw_cell_below hb5 n4; replace n5 := pw_cell_below hb5 n5; replace n6 := pw_cell_below hb5 n6; replace n7 := pw_cell_below hb5 n7; replace n8 := pw_cell_below hb5 n8; have zlo := acc5.lo; have zb := World.block_lt_of_cell? _ _ n0; have zw := acc5.bel.size; have ACC5 := Lib.hid acc5; clear acc5) | ((with_reducible refine gate_ (.call { callee := .builtin .append, args := #[.tmp 24, .tmp 26], argTypes := #[27, 27] }) rfl ?_); refine Kd.R_append kM (w0 := x5.W) (W := x5.W) w.heap.size rfl (.tmp 24) (.tmp 26) 27 76 (.agg #[.int .u8 0, .int .u8 0, .int .u8 0, .int .u8 0, .int .u8 0, .int .u8 0, .int .u8 0, .int .u8 0, .int .u8 0]) 9 rfl Try.underlying27 infoM rfl (by decide) (by decide) (.slice B xs.length cb) xs m m.cs (fun k => k ≠ ob ∧ k ≠ rb) (fun _ => False) rfl rfl rfl (fun _ hk => hk.elim) (fun k hk => ⟨by have := ACC5.out.lo; omega, by have := ACC5.out.lr; omega⟩) ACC5.out.R (Below.refl _ _) zw (by omega) ?_; intro v1 w1 hR6 hB6 hg6 hat6; obtain ⟨B6, c6, rfl, hl6, hC6⟩ := Kd.R_reads hR6; have p2 := far_cell hg6 p2 ACC5.out.own; have p3 := far_frozen hg6 p3 ACC5.out.lo ACC5.out.own))
        go_roundg (ms.length - i - 1)
        case measure => have := HIK.out; omega
        case rel =>
          have e := HPS.out
          rw [hq] at e
          simp only [if_true] at e
          rw [List.length_append] at hR6
          exact ⟨i + 1, B6, c6, by have := HIK.out; omega, by go_num, by rw [e]; exact ACC5.out.put hR6 hB6 hg6⟩
    · have hie : i = ms.length := by have := HIK.out; omega
      subst hie
      rw [List.take_length] at acc
      obtain ⟨bel, hrb, hob, o0, o1, o2, o3, hR, r0, r1, r2, r3, r4, r5, hne⟩ := acc
      have zlo := World.block_lt_of_cell? _ _ o0
      have zlr := World.block_lt_of_cell? _ _ r0
      simp only [] at zlo zlr
      go_wp2
      refine bodyPost_ret (v := .agg #[.int .i64 p, .int .i64 n, .slice B (ms.filter q).length cb]) (by simp [results, Try.results64, go_sem, r0, r1, r2]) rfl ⟨B, cb, rfl, ?_, ((bel.setCell hrb _).setCell hrb _).setCell hrb _⟩
      exact Kd.R_mono (Kd.R_far (Kd.R_far (Kd.R_far hR (fun k hk => hk.2) _) (fun k hk => hk.2) _) (fun k hk => hk.2) _) (fun _ _ => trivial)


end Go.Proofs.Ytgidpgfkbgbhmaa

/- StabiliserOf of both sides; no condition. -/
set_option linter.unusedVariables false
set_option linter.unusedSimpArgs false
namespace Go.Proofs.Ytgidpgfkbgbhmaa
open Go.RowKit Go.Proofs.YtgidpgfkbgbhmaaW.PrintWords
attribute [local go_sem] Later.cell Later.frozen Later.lt Later.lt_add Later.le Later.le_add Later.ne Later.ne' add_at
attribute [local go_sem 2000] run_eqM guardM

theorem stabR_len (p n : Int) (ms : List M9) (xs : List Int) : (stabR p n ms xs).ts.length ≤ 1048576 := by
  unfold stabR
  split
  · rename_i h
    have := (codeG_0 h).1.l2
    exact Nat.le_trans (List.length_filter_le _ _) (by omega)
  · simp
theorem stabR_0 {p n : Int} {ms : List M9} {xs : List Int} (h : codeG p n ms xs = 0) : stabR p n ms xs = ⟨p, n, ms.filter (stabB p n xs), 0⟩ := by
  unfold stabR
  rw [if_pos h]
theorem stabR_1 {p n : Int} {ms : List M9} {xs : List Int} {k : Int} (h : codeG p n ms xs = k) (hk : k ≠ 0) : stabR p n ms xs = ⟨0, 0, [], k⟩ := by
  unfold stabR
  rw [h, if_neg hk]

set_option maxRecDepth 100000 in
set_option maxHeartbeats 2000000 in
theorem pointCode_c (p n : Int) (A : Option Addr) (c : Nat) (ms : List M9) (B : Option Addr) (d b : Nat) (xs : List Int) (w : World) (hC : kM.C w A ms.length ms) (hD : kI.C w B xs.length xs) (hq : w.cell? ⟨b, 0, none⟩ = some (.slice B xs.length d)) (hN : ms.length ≤ 9223372036854775807) (hM : xs.length ≤ 1048576) :
    Calls Try.prog 63 #[.agg #[.int .i64 p, .int .i64 n, .slice A ms.length c], .slice (some ⟨b, 0, none⟩) 1 1] w (Gives (.int .i64 (codeG p n ms xs)) w) := by
  have hC1 := Kd.C_alloc hC (.cells #[.int .i64 p, .int .i64 n, .slice A ms.length c] 29)
  have hD1 := Kd.C_alloc hD (.cells #[.int .i64 p, .int .i64 n, .slice A ms.length c] 29)
  have hG := implIsGroup_c p n A c ms _ hC1 hN
  have hzb := World.block_lt_of_cell? _ _ hq
  simp only [] at hzb
  cases hg : grpB p n ms with
  | false =>
    have E := Lib.hid (show codeG p n ms xs = 1 by rw [codeG, hg]; rfl)
    rw [hg] at hG
    go_enter Try.func63, Try.ntmps63
    go_wp2_with ((go_at_call 98; (first | (with_reducible refine call_later2 (hG) ?_) | (with_reducible refine call_later (hG) ?_)); intro x))
    rw [E.out]
    exact bodyPost_ret (v := .int .i64 1) (by simp [results, Try.results63, go_sem]) rfl (.mk rfl (by repeat (first | (with_reducible assumption) | (with_reducible exact Below.refl _ _) | ((with_reducible refine Below.alloc ?_ ?_ _); rotate_left; (focus (first | omega | (simp; done) | (simp; omega) | (simp [Later.le, Later.le_add, Later.lt, Later.lt_add]; done) | (simp [Later.le, Later.le_add, Later.lt, Later.lt_add]; omega)))) | (with_reducible refine Below.drew ?_) | (with_reducible refine pw_below_drewN ?_ _) | ((with_reducible refine Below.setCell ?_ ?_ _); rotate_left; (focus (first | omega | (simp; done) | (simp; omega) | (simp [Later.le, Later.le_add, Later.lt, Later.lt_add]; done) | (simp [Later.le, Later.le_add, Later.lt, Later.lt_add]; omega)))) | ((with_reducible refine below_hop (by assumption) ?_ ?_); rotate_left; (focus (first | omega | (simp; done) | (simp; omega) | (simp [Later.le, Later.le_add, Later.lt, Later.lt_add]; done) | (simp [Later.le, Later.le_add, Later.lt, Later.lt_add]; omega)))) | ((with_reducible refine bel_later _ ?_ ?_); rotate_left; (focus (first | omega | (simp; done) | (simp; omega) | (simp [Later.le, Later.le_add, Later.lt, Later.lt_add]; done) | (simp [Later.le, Later.le_add, Later.lt, Later.lt_add]; omega)))))))
  | true =>
    rw [hg] at hG
    have gp := (grpB_iff p n ms).1 hg
    obtain ⟨hp, hp', hn1, hn3⟩ := grp_num gp
    have hP := fun W hE => isPoint_c p n B d xs W hp hp' hE (show xs.length ≤ 9223372036854775807 by omega)
    cases hb : pointB p n xs with
    | false =>
      have E := Lib.hid (show codeG p n ms xs = 2 by rw [codeG, hg, hb]; rfl)
      rw [hb] at hP
      clear gp hg hb
      go_enter Try.func63, Try.ntmps63
      go_wp2_with ((go_at_call 98; (first | (with_reducible refine call_later2 (hG) ?_) | (with_reducible refine call_later (hG) ?_)); intro x); have hq1 := x.keep (cell_alloc hq (.cells #[.int .i64 p, .int .i64 n, .slice A ms.length c] 29)))
      refine wp_loop_rounds 3 ?_
      rw [rounds_succ]
      go_wp2_with ((go_at_call 117; (first | (with_reducible refine call_later2 (hP _ (Kd.C_below hD1 x.ok)) ?_) | (with_reducible refine call_later (hP _ (Kd.C_below hD1 x.ok)) ?_)); intro x2))
      rw [E.out]
      exact bodyPost_ret (v := .int .i64 2) (by simp [results, Try.results63, go_sem]) rfl (.mk rfl (by repeat (first | (with_reducible assumption) | (with_reducible exact Below.refl _ _) | ((with_reducible refine Below.alloc ?_ ?_ _); rotate_left; (focus (first | omega | (simp; done) | (simp; omega) | (simp [Later.le, Later.le_add, Later.lt, Later.lt_add]; done) | (simp [Later.le, Later.le_add, Later.lt, Later.lt_add]; omega)))) | (with_reducible refine Below.drew ?_) | (with_reducible refine pw_below_drewN ?_ _) | ((with_reducible refine Below.setCell ?_ ?_ _); rotate_left; (focus (first | omega | (simp; done) | (simp; omega) | (simp [Later.le, Later.le_add, Later.lt, Later.lt_add]; done) | (simp [Later.le, Later.le_add, Later.lt, Later.lt_add]; omega)))) | ((with_reducible refine below_hop (by assumption) ?_ ?_); rotate_left; (focus (first | omega | (simp; done) | (simp; omega) | (simp [Later.le, Later.le_add, Later.lt, Later.lt_add]; done) | (simp [Later.le, Later.le_add, Later.lt, Later.lt_add]; omega)))) | ((with_reducible refine bel_later _ ?_ ?_); rotate_left; (focus (first | omega | (simp; done) | (simp; omega) | (simp [Later.le, Later.le_add, Later.lt, Later.lt_add]; done) | (simp [Later.le, Later.le_add, Later.lt, Later.lt_add]; omega)))))))
    | true =>
      have E := Lib.hid (show codeG p n ms xs = 0 by rw [codeG, hg, hb]; rfl)
      rw [hb] at hP
      clear gp hg hb
      go_enter Try.func63, Try.ntmps63
      go_wp2_with ((go_at_call 98; (first | (with_reducible refine call_later2 (hG) ?_) | (with_reducible refine call_later (hG) ?_)); intro x); have hq1 := x.keep (cell_alloc hq (.cells #[.int .i64 p, .int .i64 n, .slice A ms.length c] 29)))
      refine wp_loop_rounds 3 ?_
      rw [rounds_succ]
      go_wp2_with ((go_at_call 117; (first | (with_reducible refine call_later2 (hP _ (Kd.C_below hD1 x.ok)) ?_) | (with_reducible refine call_later (hP _ (Kd.C_below hD1 x.ok)) ?_)); intro x2))
      rw [rounds_succ]
      go_wp2
      rw [E.out]
      exact bodyPost_ret (v := .int .i64 0) (by simp [results, Try.results63, go_sem]) rfl (.mk rfl (by repeat (first | (with_reducible assumption) | (with_reducible exact Below.refl _ _) | ((with_reducible refine Below.alloc ?_ ?_ _); rotate_left; (focus (first | omega | (simp; done) | (simp; omega) | (simp [Later.le, Later.le_add, Later.lt, Later.lt_add]; done) | (simp [Later.le, Later.le_add, Later.lt, Later.lt_add]; omega)))) | (with_reducible refine Below.drew ?_) | (with_reducible refine pw_below_drewN ?_ _) | ((with_reducible refine Below.setCell ?_ ?_ _); rotate_left; (focus (first | omega | (simp; done) | (simp; omega) | (simp [Later.le, Later.le_add, Later.lt, Later.lt_add]; done) | (simp [Later.le, Later.le_add, Later.lt, Later.lt_add]; omega)))) | ((with_reducible refine below_hop (by assumption) ?_ ?_); rotate_left; (focus (first | omega | (simp; done) | (simp; omega) | (simp [Later.le, Later.le_add, Later.lt, Later.lt_add]; done) | (simp [Later.le, Later.le_add, Later.lt, Later.lt_add]; omega)))) | ((with_reducible refine bel_later _ ?_ ?_); rotate_left; (focus (first | omega | (simp; done) | (simp; omega) | (simp [Later.le, Later.le_add, Later.lt, Later.lt_add]; done) | (simp [Later.le, Later.le_add, Later.lt, Later.lt_add]; omega)))))))
set_option maxRecDepth 100000 in
set_option maxHeartbeats 2000000 in
theorem l02Code_c (p n : Int) (A : Option Addr) (c : Nat) (ms : List M9) (B : Option Addr) (d : Nat) (xs : List Int) (w : World) (hC : kM.C w A ms.length ms) (hD : kI.C w B xs.length xs) (hN : ms.length ≤ 9223372036854775807) (hM : xs.length ≤ 1048576) :
    Calls Try.prog 60 #[.agg #[.int .i64 p, .int .i64 n, .slice A ms.length c], .slice B xs.length d] w (Gives (.int .i64 (codeG p n ms xs)) w) := by
  have hC1 := Kd.C_alloc hC (.cells #[.int .i64 p, .int .i64 n, .slice A ms.length c] 29)
  have hD1 := Kd.C_alloc hD (.cells #[.int .i64 p, .int .i64 n, .slice A ms.length c] 29)
  have hG := l02Is_c p n A c ms _ hC1 hN
  cases hg : grpB p n ms with
  | false =>
    have E := Lib.hid (show codeG p n ms xs = 1 by rw [codeG, hg]; rfl)
    rw [hg] at hG
    go_enter Try.func60, Try.ntmps60
    go_wp2_with ((go_at_call 97; (first | (with_reducible refine call_later2 (hG) ?_) | (with_reducible refine call_later (hG) ?_)); intro x))
    rw [E.out]
    exact bodyPost_ret (v := .int .i64 1) (by simp [results, Try.results60, go_sem]) rfl (.mk rfl (by repeat (first | (with_reducible assumption) | (with_reducible exact Below.refl _ _) | ((with_reducible refine Below.alloc ?_ ?_ _); rotate_left; (focus (first | omega | (simp; done) | (simp; omega) | (simp [Later.le, Later.le_add, Later.lt, Later.lt_add]; done) | (simp [Later.le, Later.le_add, Later.lt, Later.lt_add]; omega)))) | (with_reducible refine Below.drew ?_) | (with_reducible refine pw_below_drewN ?_ _) | ((with_reducible refine Below.setCell ?_ ?_ _); rotate_left; (focus (first | omega | (simp; done) | (simp; omega) | (simp [Later.le, Later.le_add, Later.lt, Later.lt_add]; done) | (simp [Later.le, Later.le_add, Later.lt, Later.lt_add]; omega)))) | ((with_reducible refine below_hop (by assumption) ?_ ?_); rotate_left; (focus (first | omega | (simp; done) | (simp; omega) | (simp [Later.le, Later.le_add, Later.lt, Later.lt_add]; done) | (simp [Later.le, Later.le_add, Later.lt, Later.lt_add]; omega)))) | ((with_reducible refine bel_later _ ?_ ?_); rotate_left; (focus (first | omega | (simp; done) | (simp; omega) | (simp [Later.le, Later.le_add, Later.lt, Later.lt_add]; done) | (simp [Later.le, Later.le_add, Later.lt, Later.lt_add]; omega)))))))
  | true =>
    rw [hg] at hG
    have gp := (grpB_iff p n ms).1 hg
    obtain ⟨hp, hp', hn1, hn3⟩ := grp_num gp
    have hP := fun W hE => l01Point_c p n B d xs W hp hp' hE (show xs.length ≤ 9223372036854775807 by omega)
    cases hb : pointB p n xs with
    | false =>
      have E := Lib.hid (show codeG p n ms xs = 2 by rw [codeG, hg, hb]; rfl)
      rw [hb] at hP
      clear gp hg hb
      go_enter Try.func60, Try.ntmps60
      go_wp2_with (first | (go_at_call 97; (first | (with_reducible refine call_later2 (hG) ?_) | (with_reducible refine call_later (hG) ?_)); intro x) | (go_at_call 72; (first | (with_reducible refine call_later2 (hP _ (Kd.C_below hD1 x.ok)) ?_) | (with_reducible refine call_later (hP _ (Kd.C_below hD1 x.ok)) ?_)); intro x2))
      rw [E.out]
      exact bodyPost_ret (v := .int .i64 2) (by simp [results, Try.results60, go_sem]) rfl (.mk rfl (by repeat (first | (with_reducible assumption) | (with_reducible exact Below.refl _ _) | ((with_reducible refine Below.alloc ?_ ?_ _); rotate_left; (focus (first | omega | (simp; done) | (simp; omega) | (simp [Later.le, Later.le_add, Later.lt, Later.lt_add]; done) | (simp [Later.le, Later.le_add, Later.lt, Later.lt_add]; omega)))) | (with_reducible refine Below.drew ?_) | (with_reducible refine pw_below_drewN ?_ _) | ((with_reducible refine Below.setCell ?_ ?_ _); rotate_left; (focus (first | omega | (simp; done) | (simp; omega) | (simp [Later.le, Later.le_add, Later.lt, Later.lt_add]; done) | (simp [Later.le, Later.le_add, Later.lt, Later.lt_add]; omega)))) | ((with_reducible refine below_hop (by assumption) ?_ ?_); rotate_left; (focus (first | omega | (simp; done) | (simp; omega) | (simp [Later.le, Later.le_add, Later.lt, Later.lt_add]; done) | (simp [Later.le, Later.le_add, Later.lt, Later.lt_add]; omega)))) | ((with_reducible refine bel_later _ ?_ ?_); rotate_left; (focus (first | omega | (simp; done) | (simp; omega) | (simp [Later.le, Later.le_add, Later.lt, Later.lt_add]; done) | (simp [Later.le, Later.le_add, Later.lt, Later.lt_add]; omega)))))))
    | true =>
      have E := Lib.hid (show codeG p n ms xs = 0 by rw [codeG, hg, hb]; rfl)
      rw [hb] at hP
      clear gp hg hb
      go_enter Try.func60, Try.ntmps60
      go_wp2_with (first | (go_at_call 97; (first | (with_reducible refine call_later2 (hG) ?_) | (with_reducible refine call_later (hG) ?_)); intro x) | (go_at_call 72; (first | (with_reducible refine call_later2 (hP _ (Kd.C_below hD1 x.ok)) ?_) | (with_reducible refine call_later (hP _ (Kd.C_below hD1 x.ok)) ?_)); intro x2))
      rw [E.out]
      exact bodyPost_ret (v := .int .i64 0) (by simp [results, Try.results60, go_sem]) rfl (.mk rfl (by repeat (first | (with_reducible assumption) | (with_reducible exact Below.refl _ _) | ((with_reducible refine Below.alloc ?_ ?_ _); rotate_left; (focus (first | omega | (simp; done) | (simp; omega) | (simp [Later.le, Later.le_add, Later.lt, Later.lt_add]; done) | (simp [Later.le, Later.le_add, Later.lt, Later.lt_add]; omega)))) | (with_reducible refine Below.drew ?_) | (with_reducible refine pw_below_drewN ?_ _) | ((with_reducible refine Below.setCell ?_ ?_ _); rotate_left; (focus (first | omega | (simp; done) | (simp; omega) | (simp [Later.le, Later.le_add, Later.lt, Later.lt_add]; done) | (simp [Later.le, Later.le_add, Later.lt, Later.lt_add]; omega)))) | ((with_reducible refine below_hop (by assumption) ?_ ?_); rotate_left; (focus (first | omega | (simp; done) | (simp; omega) | (simp [Later.le, Later.le_add, Later.lt, Later.lt_add]; done) | (simp [Later.le, Later.le_add, Later.lt, Later.lt_add]; omega)))) | ((with_reducible refine bel_later _ ?_ ?_); rotate_left; (focus (first | omega | (simp; done) | (simp; omega) | (simp [Later.le, Later.le_add, Later.lt, Later.lt_add]; done) | (simp [Later.le, Later.le_add, Later.lt, Later.lt_add]; omega)))))))

set_option maxRecDepth 100000 in
set_option maxHeartbeats 2000000 in
theorem implStabiliserOf_c (p n : Int) (A : Option Addr) (c : Nat) (ms : List M9) (B : Option Addr) (d : Nat) (xs : List Int) (w : World) (hC : kM.C w A ms.length ms) (hD : kI.C w B xs.length xs) (hN : ms.length ≤ 9223372036854775807) (hM : xs.length ≤ 1048576) :
    Calls Try.prog 17 #[.agg #[.int .i64 p, .int .i64 n, .slice A ms.length c], .slice B xs.length d] w (MakesGC (stabR p n ms xs) 76 w) := by
  have hC1 := Kd.C_alloc (Kd.C_alloc (Kd.C_alloc hC (.cells #[.int .i64 p, .int .i64 n, .slice A ms.length c] 29)) (.cells #[.slice B xs.length d] 25)) (.cells #[.int .i64 0, .int .i64 0, .slice none 0 0] 29)
  have hD1 := Kd.C_alloc (Kd.C_alloc (Kd.C_alloc hD (.cells #[.int .i64 p, .int .i64 n, .slice A ms.length c] 29)) (.cells #[.slice B xs.length d] 25)) (.cells #[.int .i64 0, .int .i64 0, .slice none 0 0] 29)
  have hP := fun b W h1 h2 h3 => pointCode_c p n A c ms B d b xs W h1 h2 h3 hN hM
  by_cases h0 : codeG p n ms xs = 0
  · rw [stabR_0 h0]
    rw [h0] at hP
    obtain ⟨gp, pb⟩ := codeG_0 h0
    obtain ⟨hp, hp', hn1, hn3⟩ := grp_num gp
    obtain ⟨hal, hxl⟩ := pointB_of pb
    have hl2 := gp.l2
    have hmat := Lib.hid gp.mat
    have hnums := allB_nums hp hal
    clear gp h0 pb hal
    go_enter Try.func17, Try.ntmps17
    go_wp2_with (first | ((go_at_call 63; (first | (with_reducible refine call_later2 (hP (w.heap.size + 1 + 1 + 1) _ (Kd.C_alloc hC1 _) (Kd.C_alloc hD1 _) (by first | (simp; done) | (simp [go_sem]; done) | go_simp)) ?_) | (with_reducible refine call_later (hP (w.heap.size + 1 + 1 + 1) _ (Kd.C_alloc hC1 _) (Kd.C_alloc hD1 _) (by first | (simp; done) | (simp [go_sem]; done) | go_simp)) ?_)); intro x); have hCx := Kd.C_below (Kd.C_alloc hC1 (.cells #[.slice B xs.length d] 25)) x.ok; have hDx := Kd.C_below (Kd.C_alloc hD1 (.cells #[.slice B xs.length d] 25)) x.ok; have hcl := (fun (x' : Later x.W) i (hi : i < ms.length) => stable_c (A := A) (gb := w.heap.size) (pb := w.heap.size + 1) (c := c) (d := d) (ms := ms) (ms.getD i zM) (Kd.C_below hDx x'.ok) (x'.keep (x.keep (by first | (simp; done) | (simp [go_sem]; done) | go_simp))) (x'.keep (x.keep (by first | (simp; done) | (simp [go_sem]; done) | go_simp))) (x'.keep (x.keep (by first | (simp; done) | (simp [go_sem]; done) | go_simp))) (x'.keep (x.keep (by first | (simp; done) | (simp [go_sem]; done) | go_simp))) hp hp' hn1 hn3 (matB_le (hmat.out i hi)).1 hnums hxl)) | (go_at_call 64; (with_reducible refine call_makesG2 (thoseS_c w.heap.size (w.heap.size + 1) (stabB p n xs) hCx hl2 hcl) ?_); intro x2 A2 c2 hb2 hl2 hR2 hC2))
    have zz : w.heap.size + 2 < x.W.heap.size := by have := x.ok.size; simp at this; omega
    have zz2 := hb2.size
    refine bodyPost_ret (v := .tuple #[.agg #[.int .i64 p, .int .i64 n, .slice A2 (ms.filter (stabB p n xs)).length c2], .int .i64 0]) (by simp [results, Try.results17, go_sem]) rfl ?_
    refine ⟨_, _, rfl, ?_, (by repeat (first | (with_reducible assumption) | (with_reducible exact Below.refl _ _) | ((with_reducible refine Below.alloc ?_ ?_ _); rotate_left; (focus (first | omega | (simp; done) | (simp; omega) | (simp [Later.le, Later.le_add, Later.lt, Later.lt_add]; done) | (simp [Later.le, Later.le_add, Later.lt, Later.lt_add]; omega)))) | (with_reducible refine Below.drew ?_) | (with_reducible refine pw_below_drewN ?_ _) | ((with_reducible refine Below.setCell ?_ ?_ _); rotate_left; (focus (first | omega | (simp; done) | (simp; omega) | (simp [Later.le, Later.le_add, Later.lt, Later.lt_add]; done) | (simp [Later.le, Later.le_add, Later.lt, Later.lt_add]; omega)))) | ((with_reducible refine below_hop (by assumption) ?_ ?_); rotate_left; (focus (first | omega | (simp; done) | (simp; omega) | (simp [Later.le, Later.le_add, Later.lt, Later.lt_add]; done) | (simp [Later.le, Later.le_add, Later.lt, Later.lt_add]; omega)))) | ((with_reducible refine bel_later _ ?_ ?_); rotate_left; (focus (first | omega | (simp; done) | (simp; omega) | (simp [Later.le, Later.le_add, Later.lt, Later.lt_add]; done) | (simp [Later.le, Later.le_add, Later.lt, Later.lt_add]; omega))))))⟩
    exact Kd.R_lower (R_old (R_old (R_old hR2 (p := ⟨w.heap.size + 1 + 1, 0, none⟩) zz _) (p := ⟨w.heap.size + 1 + 1, 1, none⟩) zz _) (p := ⟨w.heap.size + 1 + 1, 2, none⟩) zz _) (by omega)
  · generalize hk : codeG p n ms xs = k at *
    rw [stabR_1 hk h0]
    have hkb : (k != 0) = true := by simpa using h0
    clear hk h0
    go_enter Try.func17, Try.ntmps17
    go_wp2_with ((go_at_call 63; (first | (with_reducible refine call_later2 (hP (w.heap.size + 1 + 1 + 1) _ (Kd.C_alloc hC1 _) (Kd.C_alloc hD1 _) (by first | (simp; done) | (simp [go_sem]; done) | go_simp)) ?_) | (with_reducible refine call_later (hP (w.heap.size + 1 + 1 + 1) _ (Kd.C_alloc hC1 _) (Kd.C_alloc hD1 _) (by first | (simp; done) | (simp [go_sem]; done) | go_simp)) ?_)); intro x))
    have zz : w.heap.size + 2 < x.W.heap.size := by have := x.ok.size; simp at this; omega
    refine bodyPost_ret (v := .tuple #[.agg #[.int .i64 0, .int .i64 0, .slice none 0 0], .int .i64 k]) (by simp [results, Try.results17, go_sem]) rfl ?_
    exact MakesGC_nil _ _ _ _ (by repeat (first | (with_reducible assumption) | (with_reducible exact Below.refl _ _) | ((with_reducible refine Below.alloc ?_ ?_ _); rotate_left; (focus (first | omega | (simp; done) | (simp; omega) | (simp [Later.le, Later.le_add, Later.lt, Later.lt_add]; done) | (simp [Later.le, Later.le_add, Later.lt, Later.lt_add]; omega)))) | (with_reducible refine Below.drew ?_) | (with_reducible refine pw_below_drewN ?_ _) | ((with_reducible refine Below.setCell ?_ ?_ _); rotate_left; (focus (first | omega | (simp; done) | (simp; omega) | (simp [Later.le, Later.le_add, Later.lt, Later.lt_add]; done) | (simp [Later.le, Later.le_add, Later.lt, Later.lt_add]; omega)))) | ((with_reducible refine below_hop (by assumption) ?_ ?_); rotate_left; (focus (first | omega | (simp; done) | (simp; omega) | (simp [Later.le, Later.le_add, Later.lt, Later.lt_add]; done) | (simp [Later.le, Later.le_add, Later.lt, Later.lt_add]; omega)))) | ((with_reducible refine bel_later _ ?_ ?_); rotate_left; (focus (first | omega | (simp; done) | (simp; omega) | (simp [Later.le, Later.le_add, Later.lt, Later.lt_add]; done) | (simp [Later.le, Later.le_add, Later.lt, Later.lt_add]; omega))))))
set_option maxRecDepth 100000 in
set_option maxHeartbeats 4000000 in
theorem specStabiliserOf_c (p n : Int) (A : Option Addr) (c : Nat) (ms : List M9) (B0 : Option Addr) (d : Nat) (xs : List Int) (w : World) (hC : kM.C w A ms.length ms) (hD : kI.C w B0 xs.length xs) (hN : ms.length ≤ 9223372036854775807) (hM : xs.length ≤ 1048576) :
    Calls Try.prog 14 #[.agg #[.int .i64 p, .int .i64 n, .slice A ms.length c], .slice B0 xs.length d] w (MakesGC (stabR p n ms xs) 76 w) := by
  have hC1 := Kd.C_alloc (Kd.C_alloc hC (.cells #[.int .i64 p, .int .i64 n, .slice A ms.length c] 29)) (.cells #[.int .i64 0, .int .i64 0, .slice none 0 0] 29)
  have hD1 := Kd.C_alloc (Kd.C_alloc hD (.cells #[.int .i64 p, .int .i64 n, .slice A ms.length c] 29)) (.cells #[.int .i64 0, .int .i64 0, .slice none 0 0] 29)
  have hP := l02Code_c p n A c ms B0 d xs _ hC1 hD1 hN hM
  by_cases h0 : codeG p n ms xs = 0
  · rw [stabR_0 h0]
    rw [h0] at hP
    obtain ⟨gp, pb⟩ := codeG_0 h0
    obtain ⟨hp, hp', hn1, hn3⟩ := grp_num gp
    obtain ⟨hal, hxl⟩ := pointB_of pb
    have hl2 := gp.l2
    have HMAT := Lib.hid gp.mat
    have hnums := allB_nums hp hal
    clear gp h0 pb hal
    go_enter Try.func14, Try.ntmps14
    go_wp2_with ((go_at_call 60; (first | (with_reducible refine call_later2 (hP) ?_) | (with_reducible refine call_later (hP) ?_)); intro x))
    have zz : w.heap.size + 1 < x.W.heap.size := by have := x.ok.size; simp at this; omega
    have hD0 := Kd.C_alloc hD (.cells #[.int .i64 p, .int .i64 n, .slice A ms.length c] 29)
    have hw0 : Below (w.alloc (.cells #[.int .i64 p, .int .i64 n, .slice A ms.length c] 29)).heap.size (w.alloc (.cells #[.int .i64 p, .int .i64 n, .slice A ms.length c] 29)) x.W := (below_alloc (Below.refl _ _) (.cells #[.int .i64 0, .int .i64 0, .slice none 0 0] 29)).trans (x.ok.mono (by simp))
    have hz0 : (w.alloc (.cells #[.int .i64 p, .int .i64 n, .slice A ms.length c] 29)).heap.size = w.heap.size + 1 := by simp
    have hbw : Below w.heap.size w (w.alloc (.cells #[.int .i64 p, .int .i64 n, .slice A ms.length c] 29)) := below_alloc (Below.refl _ _) _
    have t0 : (w.alloc (.cells #[.int .i64 p, .int .i64 n, .slice A ms.length c] 29)).cell? ⟨w.heap.size, 0, none⟩ = some (.int .i64 p) := by simp
    have t1 : (w.alloc (.cells #[.int .i64 p, .int .i64 n, .slice A ms.length c] 29)).cell? ⟨w.heap.size, 1, none⟩ = some (.int .i64 n) := by simp
    have t2 : (w.alloc (.cells #[.int .i64 p, .int .i64 n, .slice A ms.length c] 29)).cell? ⟨w.heap.size, 2, none⟩ = some (.slice A ms.length c) := by simp
    have hC0 := Kd.C_alloc hC (.cells #[.int .i64 p, .int .i64 n, .slice A ms.length c] 29)
    have hzx := hw0.size
    have hx2 := x.ok.size
    simp at hx2
    have k0 := cell_alloc (cell_alloc (x.keep (a := ⟨w.heap.size + 1, 0, none⟩) (v := .int .i64 0) (by first | (simp; done) | (simp [go_sem]; done) | go_simp)) (.cells #[] 76)) (.cells #[.int .i64 p, .int .i64 n, .slice (some ⟨x.W.heap.size, 0, none⟩) 0 0] 29)
    have k1 := cell_alloc (cell_alloc (x.keep (a := ⟨w.heap.size + 1, 1, none⟩) (v := .int .i64 0) (by first | (simp; done) | (simp [go_sem]; done) | go_simp)) (.cells #[] 76)) (.cells #[.int .i64 p, .int .i64 n, .slice (some ⟨x.W.heap.size, 0, none⟩) 0 0] 29)
    have k2 := cell_alloc (cell_alloc (x.keep (a := ⟨w.heap.size + 1, 2, none⟩) (v := .slice none 0 0) (by first | (simp; done) | (simp [go_sem]; done) | go_simp)) (.cells #[] 76)) (.cells #[.int .i64 p, .int .i64 n, .slice (some ⟨x.W.heap.size, 0, none⟩) 0 0] 29)
    have k3 : ∀ j, ((x.W.alloc (.cells #[] 76)).alloc (.cells #[.int .i64 p, .int .i64 n, .slice (some ⟨x.W.heap.size, 0, none⟩) 0 0] 29)).frozen? ⟨w.heap.size + 1, j, none⟩ = false := fun j =>
      (((below_alloc (below_alloc (Below.refl x.W.heap.size x.W) (.cells #[] 76)) (.cells #[.int .i64 p, .int .i64 n, .slice (some ⟨x.W.heap.size, 0, none⟩) 0 0] 29)).frozen (p := ⟨w.heap.size + 1, j, none⟩) (by show w.heap.size + 1 < _; omega)).trans ((x.ok.frozen (p := ⟨w.heap.size + 1, j, none⟩) (by simp)).trans (by first | (simp; done) | (simp [go_sem]; done) | go_simp)))
    have hrow : ((x.W.alloc (.cells #[] 76)).alloc (.cells #[.int .i64 p, .int .i64 n, .slice (some ⟨x.W.heap.size, 0, none⟩) 0 0] 29)).heap[x.W.heap.size]? = some (.cells #[] 76) := by
      rw [Below.heap_alloc _ _ _ (by simp)]
      exact heap_alloc_last _ _
    have acc0 : Acc (w.alloc (.cells #[.int .i64 p, .int .i64 n, .slice A ms.length c] 29)) (x.W.heap.size + 1) (w.heap.size + 1) p n 76 ((x.W.alloc (.cells #[] 76)).alloc (.cells #[.int .i64 p, .int .i64 n, .slice (some ⟨x.W.heap.size, 0, none⟩) 0 0] 29)) (some ⟨x.W.heap.size, 0, none⟩) 0 [] :=
      ⟨below_alloc (below_alloc hw0 _) _, by omega, by omega, by simp, by simp, by simp, by simp, R_zero2 kM _ ⟨by omega, by omega⟩ hrow hzx, k0, k1, k2, k3 0, k3 1, k3 2, by omega⟩
    clear k0 k1 k2 k3 hrow hw0 hzx hx2 zz
    generalize ((x.W.alloc (.cells #[] 76)).alloc (.cells #[.int .i64 p, .int .i64 n, .slice (some ⟨x.W.heap.size, 0, none⟩) 0 0] 29)) = V at *
    generalize x.W.heap.size + 1 = ob at *
    generalize hrb : w.heap.size + 1 = rb at *
    generalize w.alloc (.cells #[.int .i64 p, .int .i64 n, .slice A ms.length c] 29) = W0 at *
    go_loopg [8] ms.length (fun k v w' => ∃ (i : Nat) (B : Option Addr) (cb : Nat), i + k = ms.length ∧ v = .int .i64 i ∧ Acc W0 ob rb p n 76 w' B cb ((ms.take i).filter (stabB p n xs)))
    case atStart => exact ⟨0, _, 0, by omega, rfl, acc0⟩
    case round =>
      clear acc0
      obtain ⟨i, B, cb, hik, rfl, acc⟩ := hrel
      have HIK := Lib.hid hik
      clear hik
      have u0 := pw_cell_below acc.bel t0
      have u1 := pw_cell_below acc.bel t1
      have u2 := pw_cell_below acc.bel t2
      have zu := World.block_lt_of_cell? _ _ u0
      simp only [] at zu
      by_cases hlt : i < ms.length
      · have hCr := Kd.C_below hC0 acc.bel
        have hDr := Kd.C_below hD0 acc.bel
        obtain ⟨b, o, hA, q0, q1, q2, q3, q4, q5, q6, q7, q8⟩ := kM_at hCr i hlt
        subst hA
        have hb := World.block_lt_of_cell? _ _ q0
        simp only [] at hb
        have hi0 : (0 : Int) ≤ i := by omega
        have hi1 : (i : Int) < ms.length := by omega
        have hin : ((i : Int)).toNat = i := by omega
        have hps := filt_step (stabB p n xs) ms i hlt
        have hpl : ((ms.take i).filter (stabB p n xs)).length ≤ 48 := Nat.le_trans (List.length_filter_le _ _) (Nat.le_trans (List.length_take_le' _ _) hl2)
        have hmi := (matB_le (HMAT.out i hlt)).1
        generalize ms.getD i zM = m at *
        generalize (ms.take i).filter (stabB p n xs) = fs at *
        have HPS := Lib.hid hps
        have ACC := Lib.hid acc
        clear hps acc
        have hT := fun W (hC : kI.C W B0 xs.length xs) => l02Lead_c (c := d) m hC (show xs.length = n.toNat by omega) hp hp' (by omega) (by omega) hmi hnums
        have en : ((n.toNat : Nat) : Int) = n := by omega
        rw [en] at hT
        have hll := ledL_len p n.toNat xs m
        have hE := fun W A' c' (hC : kI.C W A' (ledL p n.toNat xs m).length (ledL p n.toNat xs m)) (hD : kI.C W B0 xs.length xs) => l02Compare_c A' B0 c' d (ledL p n.toNat xs m) xs W hC hD (by omega) (by omega)
        have hq0 : stabB p n xs m = (ledL p n.toNat xs m == xs) := rfl
        rw [← cmpI_beq] at hq0
        generalize cmpI (ledL p n.toNat xs m) xs = kc at *
        generalize ledL p n.toNat xs m = ls at *
        have HQ0 := Lib.hid hq0
        clear hq0 hll en
        go_wp2
        go_region_held3 (fun w' => w'.cell? ⟨w.heap.size, 0, none⟩ = some (.int .i64 p) ∧ w'.cell? ⟨w.heap.size, 1, none⟩ = some (.int .i64 n) ∧ w'.cell? ⟨w.heap.size, 2, none⟩ = some (.slice (some ⟨b, o, none⟩) ms.length c) ∧ w'.cell? ⟨b, o + i * 9, none⟩ = some (.int .u8 (m.r0.a.toNat : Int)) ∧ w'.cell? ⟨b, o + i * 9 + 1, none⟩ = some (.int .u8 (m.r0.b.toNat : Int)) ∧ w'.cell? ⟨b, o + i * 9 + 2, none⟩ = some (.int .u8 (m.r0.c.toNat : Int)) ∧ w'.cell? ⟨b, o + i * 9 + 3, none⟩ = some (.int .u8 (m.r1.a.toNat : Int)) ∧ w'.cell? ⟨b, o + i * 9 + 4, none⟩ = some (.int .u8 (m.r1.b.toNat : Int)) ∧ w'.cell? ⟨b, o + i * 9 + 5, none⟩ = some (.int .u8 (m.r1.c.toNat : Int)) ∧ w'.cell? ⟨b, o + i * 9 + 6, none⟩ = some (.int .u8 (m.r2.a.toNat : Int)) ∧ w'.cell? ⟨b, o + i * 9 + 7, none⟩ = some (.int .u8 (m.r2.b.toNat : Int)) ∧ w'.cell? ⟨b, o + i * 9 + 8, none⟩ = some (.int .u8 (m.r2.c.toNat : Int))) ((refine ⟨?_, ?_, ?_, ?_, ?_, ?_, ?_, ?_, ?_, ?_, ?_, ?_⟩ <;> ((repeat (refine cell_far2 ?_ (by dsimp only; omega))); (first | assumption | (exact cell_alloc (by assumption) _))))) (first | (go_at_call 62; (first | (with_reducible refine call_makes2 (hT _ ?hcc) ?_) | (with_reducible refine call_makes (hT _ ?hcc) ?_)); (case hcc => exact Kd.C_below hDr (by repeat (first | (with_reducible assumption) | (with_reducible exact Below.refl _ _) | ((with_reducible refine Below.alloc ?_ ?_ _); rotate_left; (focus (first | omega | (simp; done) | (simp; omega) | (simp [Later.le, Later.le_add, Later.lt, Later.lt_add]; done) | (simp [Later.le, Later.le_add, Later.lt, Later.lt_add]; omega)))) | (with_reducible refine Below.drew ?_) | (with_reducible refine pw_below_drewN ?_ _) | ((with_reducible refine Below.setCell ?_ ?_ _); rotate_left; (focus (first | omega | (simp; done) | (simp; omega) | (simp [Later.le, Later.le_add, Later.lt, Later.lt_add]; done) | (simp [Later.le, Later.le_add, Later.lt, Later.lt_add]; omega)))) | ((with_reducible refine below_hop (by assumption) ?_ ?_); rotate_left; (focus (first | omega | (simp; done) | (simp; omega) | (simp [Later.le, Later.le_add, Later.lt, Later.lt_add]; done) | (simp [Later.le, Later.le_add, Later.lt, Later.lt_add]; omega)))) | ((with_reducible refine bel_later _ ?_ ?_); rotate_left; (focus (first | omega | (simp; done) | (simp; omega) | (simp [Later.le, Later.le_add, Later.lt, Later.lt_add]; done) | (simp [Later.le, Later.le_add, Later.lt, Later.lt_add]; omega))))))); intro x1 A1 c1 hb1 hl1 hR1 hC1; have hxx := hb1.size; (try simp at hxx); have u0x := pw_cell_below hb1 u0; have u1x := pw_cell_below hb1 u1; have u2x := pw_cell_below hb1 u2; have q0x := pw_cell_below hb1 q0; have q1x := pw_cell_below hb1 q1; have q2x := pw_cell_below hb1 q2; have q3x := pw_cell_below hb1 q3; have q4x := pw_cell_below hb1 q4; have q5x := pw_cell_below hb1 q5; have q6x := pw_cell_below hb1 q6; have q7x := pw_cell_below hb1 q7; have q8x := pw_cell_below hb1 q8) | (go_at_call 61; (first | (with_reducible refine call_later3 (hE _ _ _ ?hcc ?hcd) ?_) | (with_reducible refine call_later4 (hE _ _ _ ?hcc ?hcd) ?_)); (case hcc => exact Kd.C_below hC1 (by repeat (first | (with_reducible assumption) | (with_reducible exact Below.refl _ _) | ((with_reducible refine Below.alloc ?_ ?_ _); rotate_left; (focus (first | omega | (simp; done) | (simp; omega) | (simp [Later.le, Later.le_add, Later.lt, Later.lt_add]; done) | (simp [Later.le, Later.le_add, Later.lt, Later.lt_add]; omega)))) | (with_reducible refine Below.drew ?_) | (with_reducible refine pw_below_drewN ?_ _) | ((with_reducible refine Below.setCell ?_ ?_ _); rotate_left; (focus (first | omega | (simp; done) | (simp; omega) | (simp [Later.le, Later.le_add, Later.lt, Later.lt_add]; done) | (simp [Later.le, Later.le_add, Later.lt, Later.lt_add]; omega)))) | ((with_reducible refine below_hop (by assumption) ?_ ?_); rotate_left; (focus (first | omega | (simp; done) | (simp; omega) | (simp [Later.le, Later.le_add, Later.lt, Later.lt_add]; done) | (simp [Later.le, Later.le_add, Later.lt, Later.lt_add]; omega)))) | ((with_reducible refine bel_later _ ?_ ?_); rotate_left; (focus (first | omega | (simp; done) | (simp; omega) | (simp [Later.le, Later.le_add, Later.lt, Later.lt_add]; done) | (simp [Later.le, Later.le_add, Later.lt, Later.lt_add]; omega))))))); (case hcd => exact Kd.C_below hDr (by repeat (first | (with_reducible assumption) | (with_reducible exact Below.refl _ _) | ((with_reducible refine Below.alloc ?_ ?_ _); rotate_left; (focus (first | omega | (simp; done) | (simp; omega) | (simp [Later.le, Later.le_add, Later.lt, Later.lt_add]; done) | (simp [Later.le, Later.le_add, Later.lt, Later.lt_add]; omega)))) | (with_reducible refine Below.drew ?_) | (with_reducible refine pw_below_drewN ?_ _) | ((with_reducible refine Below.setCell ?_ ?_ _); rotate_left; (focus (first | omega | (simp; done) | (simp; omega) | (simp [Later.le, Later.le_add, Later.lt, Later.lt_add]; done) | (simp [Later.le, Later.le_add, Later.lt, Later.lt_add]; omega)))) | ((with_reducible refine below_hop (by assumption) ?_ ?_); rotate_left; (focus (first | omega | (simp; done) | (simp; omega) | (simp [Later.le, Later.le_add, Later.lt, Later.lt_add]; done) | (simp [Later.le, Later.le_add, Later.lt, Later.lt_add]; omega)))) | ((with_reducible refine bel_later _ ?_ ?_); rotate_left; (focus (first | omega | (simp; done) | (simp; omega) | (simp [Later.le, Later.le_add, Later.lt, Later.lt_add]; done) | (simp [Later.le, Later.le_add, Later.lt, Later.lt_add]; omega))))))); intro x2 hb2; have u0y := pw_cell_below hb2 u0x; have u1y := pw_cell_below hb2 u1x; have u2y := pw_cell_below hb2 u2x; have q0y := pw_cell_below hb2 q0x; have q1y := pw_cell_below hb2 q1x; have q2y := pw_cell_below hb2 q2x; have q3y := pw_cell_below hb2 q3x; have q4y := pw_cell_below hb2 q4x; have q5y := pw_cell_below hb2 q5x; have q6y := pw_cell_below hb2 q6x; have q7y := pw_cell_below hb2 q7x; have q8y := pw_cell_below hb2 q8x))
        cases hq : stabB p n xs m with
        | false =>
          have hkc : (kc == 0) = false := by rw [← HQ0.out]; exact hq
          go_wp2
          go_roundg (ms.length - i - 1)
          case measure => have := HIK.out; omega
          case rel =>
            have e := HPS.out
            rw [hq] at e
            simp only [Bool.false_eq_true, if_false] at e
            exact ⟨i + 1, B, cb, by have := HIK.out; omega, by go_num, by rw [e]; exact ACC.out.below (show Below wr.heap.size wr x2.W from (by repeat (first | (with_reducible assumption) | (with_reducible exact Below.refl _ _) | ((with_reducible refine Below.alloc ?_ ?_ _); rotate_left; (focus (first | omega | (simp; done) | (simp; omega) | (simp [Later.le, Later.le_add, Later.lt, Later.lt_add]; done) | (simp [Later.le, Later.le_add, Later.lt, Later.lt_add]; omega)))) | (with_reducible refine Below.drew ?_) | (with_reducible refine pw_below_drewN ?_ _) | ((with_reducible refine Below.setCell ?_ ?_ _); rotate_left; (focus (first | omega | (simp; done) | (simp; omega) | (simp [Later.le, Later.le_add, Later.lt, Later.lt_add]; done) | (simp [Later.le, Later.le_add, Later.lt, Later.lt_add]; omega)))) | ((with_reducible refine below_hop (by assumption) ?_ ?_); rotate_left; (focus (first | omega | (simp; done) | (simp; omega) | (simp [Later.le, Later.le_add, Later.lt, Later.lt_add]; done) | (simp [Later.le, Later.le_add, Later.lt, Later.lt_add]; omega)))) | ((with_reducible refine bel_later _ ?_ ?_); rotate_left; (focus (first | omega | (simp; done) | (simp; omega) | (simp [Later.le, Later.le_add, Later.lt, Later.lt_add]; done) | (simp [Later.le, Later.le_add, Later.lt, Later.lt_add]; omega)))))))⟩
        | true =>
          have hkc : (kc == 0) = true := by rw [← HQ0.out]; exact hq
          have y2b : Below wr.heap.size wr x2.W := (by repeat (first | (with_reducible assumption) | (with_reducible exact Below.refl _ _) | ((with_reducible refine Below.alloc ?_ ?_ _); rotate_left; (focus (first | omega | (simp; done) | (simp; omega) | (simp [Later.le, Later.le_add, Later.lt, Later.lt_add]; done) | (simp [Later.le, Later.le_add, Later.lt, Later.lt_add]; omega)))) | (with_reducible refine Below.drew ?_) | (with_reducible refine pw_below_drewN ?_ _) | ((with_reducible refine Below.setCell ?_ ?_ _); rotate_left; (focus (first | omega | (simp; done) | (simp; omega) | (simp [Later.le, Later.le_add, Later.lt, Later.lt_add]; done) | (simp [Later.le, Later.le_add, Later.lt, Later.lt_add]; omega)))) | ((with_reducible refine below_hop (by assumption) ?_ ?_); rotate_left; (focus (first | omega | (simp; done) | (simp; omega) | (simp [Later.le, Later.le_add, Later.lt, Later.lt_add]; done) | (simp [Later.le, Later.le_add, Later.lt, Later.lt_add]; omega)))) | ((with_reducible refine bel_later _ ?_ ?_); rotate_left; (focus (first | omega | (simp; done) | (simp; omega) | (simp [Later.le, Later.le_add, Later.lt, Later.lt_add]; done) | (simp [Later.le, Later.le_add, Later.lt, Later.lt_add]; omega))))))
          have acc5 := ACC.out.below y2b
          replace q0 := pw_cell_below y2b q0
          replace q1 := pw_cell_below y2b q1
          replace q2 := pw_cell_below y2b q2
          replace q3 := pw_cell_below y2b q3
          replace q4 := pw_cell_below y2b q4
          replace q5 := pw_cell_below y2b q5
          replace q6 := pw_cell_below y2b q6
          replace q7 := pw_cell_below y2b q7
          replace q8 := pw_cell_below y2b q8
          have g2 := pw_cell_below y2b u2
          have zb5 := World.block_lt_of_cell? _ _ q0
          have zg5 := World.block_lt_of_cell? _ _ g2
          simp only [] at zb5 zg5
          go_wp2
          generalize x2.W = W5 at *
          have o2 := acc5.o2
          have o3 := acc5.o3
          have zob := acc5.lo
          have zrb := acc5.lr
          have zbase := acc5.bel.size
          have hne5 := acc5.own
          have hnr5 := acc5.ownr
          have hnw5 : some w.heap.size ≠ (Value.slice B fs.length cb).ownBlock := fun h => by have := Kd.R_base acc5.R _ h.symm; omega
          have ACC5 := Lib.hid acc5
          clear acc5
          go_region_law (refine Kd.R_append_step kM (w0 := W5.drew) (W := W5.drew) W0.heap.size (by rfl) (.tmp 44) (.tmp 50) 27 76 (.agg #[.int .u8 0, .int .u8 0, .int .u8 0, .int .u8 0, .int .u8 0, .int .u8 0, .int .u8 0, .int .u8 0, .int .u8 0]) 9 rfl Try.underlying27 infoM rfl (by decide) (by decide) (.slice B fs.length cb) fs m m.cs (fun k => k ≠ ob ∧ k ≠ rb) (fun _ => False) rfl rfl rfl (fun _ hk => hk.elim) (fun k hk => by simp at hk; exact ⟨by omega, by omega⟩) ACC5.out.drew.R (Below.refl _ _) (by simp; omega) (by omega) ?_; intro v1 w1 hR6 hB6 hg6 hat6; obtain ⟨B6, c6, rfl, hl6, hC6⟩ := Kd.R_reads hR6; have o2 := far_cell hg6 (show W5.drew.cell? ⟨ob, 2, none⟩ = _ from o2) hne5; have o3 := far_frozen hg6 (show W5.drew.frozen? ⟨ob, 2, none⟩ = _ from o3) zob hne5)
          all_goals
            go_wp2
            go_roundg (ms.length - i - 1)
            case measure => have := HIK.out; omega
            case rel =>
              have e := HPS.out
              rw [hq] at e
              simp only [if_true] at e
              rw [List.length_append] at hR6
              exact ⟨i + 1, B6, c6, by have := HIK.out; omega, by go_num, by rw [e]; exact ACC5.out.drew.put hR6 hB6 hg6⟩
      · have hie : i = ms.length := by have := HIK.out; omega
        subst hie
        rw [List.take_length] at acc
        obtain ⟨bel, hrb', hob, o0, o1, o2, o3, hR, r0, r1, r2, r3, r4, r5, hne⟩ := acc
        have zlo := World.block_lt_of_cell? _ _ o0
        have zlr := World.block_lt_of_cell? _ _ r0
        simp only [] at zlo zlr
        go_wp2
        refine bodyPost_ret (v := .tuple #[.agg #[.int .i64 p, .int .i64 n, .slice B (ms.filter (stabB p n xs)).length cb], .int .i64 0]) (by simp [results, Try.results14, go_sem, r0, r1, r2]) rfl ?_
        refine ⟨B, cb, rfl, ?_, (((hbw.trans (bel.mono hbw.size)).setCell (by show w.heap.size ≤ rb; omega) _).setCell (by show w.heap.size ≤ rb; omega) _).setCell (by show w.heap.size ≤ rb; omega) _⟩
        exact Kd.R_mono (Kd.R_lower (Kd.R_far (Kd.R_far (Kd.R_far hR (fun k hk => hk.2) _) (fun k hk => hk.2) _) (fun k hk => hk.2) _) hbw.size) (fun _ _ => trivial)
  · generalize hk : codeG p n ms xs = k at *
    rw [stabR_1 hk h0]
    have hkb : (k != 0) = true := by simpa using h0
    clear hk h0
    go_enter Try.func14, Try.ntmps14
    go_wp2_with ((go_at_call 60; (first | (with_reducible refine call_later2 (hP) ?_) | (with_reducible refine call_later (hP) ?_)); intro x))
    have zz : w.heap.size + 1 < x.W.heap.size := by have := x.ok.size; simp at this; omega
    refine bodyPost_ret (v := .tuple #[.agg #[.int .i64 0, .int .i64 0, .slice none 0 0], .int .i64 k]) (by simp [results, Try.results14, go_sem]) rfl ?_
    exact MakesGC_nil _ _ _ _ (by repeat (first | (with_reducible assumption) | (with_reducible exact Below.refl _ _) | ((with_reducible refine Below.alloc ?_ ?_ _); rotate_left; (focus (first | omega | (simp; done) | (simp; omega) | (simp [Later.le, Later.le_add, Later.lt, Later.lt_add]; done) | (simp [Later.le, Later.le_add, Later.lt, Later.lt_add]; omega)))) | (with_reducible refine Below.drew ?_) | (with_reducible refine pw_below_drewN ?_ _) | ((with_reducible refine Below.setCell ?_ ?_ _); rotate_left; (focus (first | omega | (simp; done) | (simp; omega) | (simp [Later.le, Later.le_add, Later.lt, Later.lt_add]; done) | (simp [Later.le, Later.le_add, Later.lt, Later.lt_add]; omega)))) | ((with_reducible refine below_hop (by assumption) ?_ ?_); rotate_left; (focus (first | omega | (simp; done) | (simp; omega) | (simp [Later.le, Later.le_add, Later.lt, Later.lt_add]; done) | (simp [Later.le, Later.le_add, Later.lt, Later.lt_add]; omega)))) | ((with_reducible refine bel_later _ ?_ ?_); rotate_left; (focus (first | omega | (simp; done) | (simp; omega) | (simp [Later.le, Later.le_add, Later.lt, Later.lt_add]; done) | (simp [Later.le, Later.le_add, Later.lt, Later.lt_add]; omega))))))
end Go.Proofs.Ytgidpgfkbgbhmaa
