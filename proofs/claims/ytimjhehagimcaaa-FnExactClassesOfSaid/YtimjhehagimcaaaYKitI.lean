/- Walks of the functions on polynomials, numbers and rows, of both sides; no condition. -/
import Derived.Test.YtimjhehagimcaaaYKitE
import Derived.Test.YtimjhehagimcaaaYKitM
import Derived.BigQuiet
import Derived.Deep.RegionWith
import Derived.Deep.CutRange
/- The walk of the reference's inverse of a matrix; no condition. -/
set_option linter.unusedVariables false
set_option linter.unusedSimpArgs false
namespace Go.Proofs.Ytimjhehagimcaaa
open Go.RowKit Go.Proofs.YtimjhehagimcaaaW.PrintWords
attribute [local go_sem] Later.cell Later.frozen Later.lt Later.lt_add Later.le Later.le_add Later.ne Later.ne' add_at
def M9.num (m : M9) (i j : Nat) : Int := ((m.at i j).toNat : Int)
theorem num_ok {m : M9} {p : Int} (h : m.le p) (i j : Nat) : 0 ≤ m.num i j ∧ m.num i j < p := ⟨by unfold M9.num; omega, at_le h i j⟩
def fillRow (n : Nat) (A : Nat → Nat → Int) (i j : Nat) : List Int := (List.range (2 * n)).map fun t => if t < j then A i t else 0
theorem fillRow_len (n : Nat) (A : Nat → Nat → Int) (i j : Nat) : (fillRow n A i j).length = 2 * n := by simp [fillRow]
theorem fillRow_zero (n : Nat) (A : Nat → Nat → Int) (i : Nat) : List.replicate (2 * n) 0 = fillRow n A i 0 := by
  refine List.ext_getElem (by simp [fillRow]) fun k h1 h2 => ?_
  simp [fillRow]
theorem fillRow_step (n : Nat) (A : Nat → Nat → Int) (i j : Nat) (hj : j < n) : (fillRow n A i j).set j (A i j) = fillRow n A i (j + 1) := by
  refine List.ext_getElem (by simp [fillRow]) fun k h1 h2 => ?_
  rw [List.getElem_set]
  split
  · rename_i h
    subst h
    simp [fillRow]
  · rename_i h
    simp only [fillRow, List.getElem_map, List.getElem_range]
    have : k < j ↔ k < j + 1 := by omega
    simp only [this]
theorem fillRow_one (n : Nat) (A : Nat → Nat → Int) (i : Nat) (hi : i < n) : (fillRow n A i n).set (n + i) 1 = augRow n A i := by
  refine List.ext_getElem (by simp [fillRow, augRow]) fun k h1 h2 => ?_
  rw [List.getElem_set]
  split
  · rename_i h
    subst h
    simp [augRow]
    intro h3
    omega
  · rename_i h
    simp only [fillRow, augRow, List.getElem_map, List.getElem_range]
    have : ¬ k = n + i := fun h' => h h'.symm
    simp [this]
theorem echelon_g {p : Int} {L : Nat} (hp : primeZ p) (hL : L ≤ 100000) {rows : List (List Int)} (hn : rows.length ≤ 100000) (hr : ∀ r ∈ rows, RowOk p L r) {A : Option Addr} {m c : Nat} {w : World} (hC : kL.C w A m rows) (hc : m ≤ c) :
    Calls Try.prog 46 #[.int .i64 p, .slice A m c] w (Makes kL 55 (echL p rows) w) := by
  obtain rfl := Kd.C_len hC
  exact l01Echelon_c hp hL hn hr A c w hC hc
theorem augRows_len (n : Nat) (A : Nat → Nat → Int) (i : Nat) : (augRows n A i).length = i := by simp [augRows]
/-- The right half of the reduced rows. -/
def invM (p : Int) (n : Nat) (A : Nat → Nat → Int) : M9 := mkM fun i j => if i < n ∧ j < n then uB (((invRows p n A).getD i []).getD (n + j) 0) else 0
def doneI (p : Int) (n : Nat) (A : Nat → Nat → Int) (i j i' j' : Nat) : UInt8 := if j' < n ∧ (i' < i ∨ (i' = i ∧ j' < j)) then uB (((invRows p n A).getD i' []).getD (n + j') 0) else 0
theorem doneI_end (p : Int) (n : Nat) (A : Nat → Nat → Int) : mkM (doneI p n A n 0) = invM p n A := by
  unfold invM
  congr 1
  funext i j
  unfold doneI
  by_cases h : i < n ∧ j < n
  · rw [if_pos ⟨h.2, .inl h.1⟩, if_pos h]
  · rw [if_neg (by omega), if_neg h]
set_option maxRecDepth 100000 in
set_option maxHeartbeats 4000000 in
theorem l02Inverse_c (p : Int) (n : Nat) (g : M9) (w : World) (hp : primeZ p) (hn1 : 1 ≤ n) (hn3 : n ≤ 3) (hg : g.le p) :
    Calls Try.prog 68 #[.int .i64 p, .int .i64 n, .agg #[.int .u8 (g.r0.a.toNat : Int), .int .u8 (g.r0.b.toNat : Int), .int .u8 (g.r0.c.toNat : Int), .int .u8 (g.r1.a.toNat : Int), .int .u8 (g.r1.b.toNat : Int), .int .u8 (g.r1.c.toNat : Int), .int .u8 (g.r2.a.toNat : Int), .int .u8 (g.r2.b.toNat : Int), .int .u8 (g.r2.c.toNat : Int)]] w (fun e w' => ∃ m : M9, e = .returned (.tuple #[.agg #[.int .u8 (m.r0.a.toNat : Int), .int .u8 (m.r0.b.toNat : Int), .int .u8 (m.r0.c.toNat : Int), .int .u8 (m.r1.a.toNat : Int), .int .u8 (m.r1.b.toNat : Int), .int .u8 (m.r1.c.toNat : Int), .int .u8 (m.r2.a.toNat : Int), .int .u8 (m.r2.b.toNat : Int), .int .u8 (m.r2.c.toNat : Int)], .bool (decide (detZ n g.num % p ≠ 0))]) ∧ (detZ n g.num % p ≠ 0 → m = invM p n g.num) ∧ Below w.heap.size w w') := by
  obtain ⟨hp2, hp13⟩ := hp.two
  have hA := num_ok hg
  have hnc : n = 1 ∨ n = 2 ∨ n = 3 := by omega
  have HG := Lib.hid hg
  clear hg
  go_enter Try.func68, Try.ntmps68
  go_wp2
  have c1 : ∀ i j, i < 3 → j < 3 → ((w.alloc (.cells #[.int .u8 (g.r0.a.toNat : Int), .int .u8 (g.r0.b.toNat : Int), .int .u8 (g.r0.c.toNat : Int), .int .u8 (g.r1.a.toNat : Int), .int .u8 (g.r1.b.toNat : Int), .int .u8 (g.r1.c.toNat : Int), .int .u8 (g.r2.a.toNat : Int), .int .u8 (g.r2.b.toNat : Int), .int .u8 (g.r2.c.toNat : Int)] 41)).alloc (.cells #[.int .u8 0, .int .u8 0, .int .u8 0, .int .u8 0, .int .u8 0, .int .u8 0, .int .u8 0, .int .u8 0, .int .u8 0] 41)).cell? ⟨w.heap.size, i * 3 + j, none⟩ = some (.int .u8 (g.num i j)) := fun i j hi hj => cell_alloc (box_at w g _ i j hi hj) _
  have r1 : ∀ k, k < 9 → ((w.alloc (.cells #[.int .u8 (g.r0.a.toNat : Int), .int .u8 (g.r0.b.toNat : Int), .int .u8 (g.r0.c.toNat : Int), .int .u8 (g.r1.a.toNat : Int), .int .u8 (g.r1.b.toNat : Int), .int .u8 (g.r1.c.toNat : Int), .int .u8 (g.r2.a.toNat : Int), .int .u8 (g.r2.b.toNat : Int), .int .u8 (g.r2.c.toNat : Int)] 41)).alloc (.cells #[.int .u8 0, .int .u8 0, .int .u8 0, .int .u8 0, .int .u8 0, .int .u8 0, .int .u8 0, .int .u8 0, .int .u8 0] 41)).cell? ⟨w.heap.size + 1, k, none⟩ = some (.int .u8 0) := fun k hk => by
    have h2 := z_at (w.alloc (.cells #[.int .u8 (g.r0.a.toNat : Int), .int .u8 (g.r0.b.toNat : Int), .int .u8 (g.r0.c.toNat : Int), .int .u8 (g.r1.a.toNat : Int), .int .u8 (g.r1.b.toNat : Int), .int .u8 (g.r1.c.toNat : Int), .int .u8 (g.r2.a.toNat : Int), .int .u8 (g.r2.b.toNat : Int), .int .u8 (g.r2.c.toNat : Int)] 41)) 41 (k / 3) (k % 3) (by omega) (by omega)
    rw [show (w.alloc (.cells #[.int .u8 (g.r0.a.toNat : Int), .int .u8 (g.r0.b.toNat : Int), .int .u8 (g.r0.c.toNat : Int), .int .u8 (g.r1.a.toNat : Int), .int .u8 (g.r1.b.toNat : Int), .int .u8 (g.r1.c.toNat : Int), .int .u8 (g.r2.a.toNat : Int), .int .u8 (g.r2.b.toNat : Int), .int .u8 (g.r2.c.toNat : Int)] 41)).heap.size = w.heap.size + 1 by simp, show k / 3 * 3 + k % 3 = k by omega] at h2
    exact h2
  have rf : ∀ k, ((w.alloc (.cells #[.int .u8 (g.r0.a.toNat : Int), .int .u8 (g.r0.b.toNat : Int), .int .u8 (g.r0.c.toNat : Int), .int .u8 (g.r1.a.toNat : Int), .int .u8 (g.r1.b.toNat : Int), .int .u8 (g.r1.c.toNat : Int), .int .u8 (g.r2.a.toNat : Int), .int .u8 (g.r2.b.toNat : Int), .int .u8 (g.r2.c.toNat : Int)] 41)).alloc (.cells #[.int .u8 0, .int .u8 0, .int .u8 0, .int .u8 0, .int .u8 0, .int .u8 0, .int .u8 0, .int .u8 0, .int .u8 0] 41)).frozen? ⟨w.heap.size + 1, k, none⟩ = false := fun k => by
    have := z_fr (w.alloc (.cells #[.int .u8 (g.r0.a.toNat : Int), .int .u8 (g.r0.b.toNat : Int), .int .u8 (g.r0.c.toNat : Int), .int .u8 (g.r1.a.toNat : Int), .int .u8 (g.r1.b.toNat : Int), .int .u8 (g.r1.c.toNat : Int), .int .u8 (g.r2.a.toNat : Int), .int .u8 (g.r2.b.toNat : Int), .int .u8 (g.r2.c.toNat : Int)] 41)) (.cells #[.int .u8 0, .int .u8 0, .int .u8 0, .int .u8 0, .int .u8 0, .int .u8 0, .int .u8 0, .int .u8 0, .int .u8 0] 41) k _ _ rfl
    rwa [show (w.alloc (.cells #[.int .u8 (g.r0.a.toNat : Int), .int .u8 (g.r0.b.toNat : Int), .int .u8 (g.r0.c.toNat : Int), .int .u8 (g.r1.a.toNat : Int), .int .u8 (g.r1.b.toNat : Int), .int .u8 (g.r1.c.toNat : Int), .int .u8 (g.r2.a.toNat : Int), .int .u8 (g.r2.b.toNat : Int), .int .u8 (g.r2.c.toNat : Int)] 41)).heap.size = w.heap.size + 1 by simp] at this
  have hs0 : ((w.alloc (.cells #[.int .u8 (g.r0.a.toNat : Int), .int .u8 (g.r0.b.toNat : Int), .int .u8 (g.r0.c.toNat : Int), .int .u8 (g.r1.a.toNat : Int), .int .u8 (g.r1.b.toNat : Int), .int .u8 (g.r1.c.toNat : Int), .int .u8 (g.r2.a.toNat : Int), .int .u8 (g.r2.b.toNat : Int), .int .u8 (g.r2.c.toNat : Int)] 41)).alloc (.cells #[.int .u8 0, .int .u8 0, .int .u8 0, .int .u8 0, .int .u8 0, .int .u8 0, .int .u8 0, .int .u8 0, .int .u8 0] 41)).heap.size = w.heap.size + 2 := by simp
  have hb0 : Below w.heap.size w ((w.alloc (.cells #[.int .u8 (g.r0.a.toNat : Int), .int .u8 (g.r0.b.toNat : Int), .int .u8 (g.r0.c.toNat : Int), .int .u8 (g.r1.a.toNat : Int), .int .u8 (g.r1.b.toNat : Int), .int .u8 (g.r1.c.toNat : Int), .int .u8 (g.r2.a.toNat : Int), .int .u8 (g.r2.b.toNat : Int), .int .u8 (g.r2.c.toNat : Int)] 41)).alloc (.cells #[.int .u8 0, .int .u8 0, .int .u8 0, .int .u8 0, .int .u8 0, .int .u8 0, .int .u8 0, .int .u8 0, .int .u8 0] 41)) := bq1
  generalize (w.alloc (.cells #[.int .u8 (g.r0.a.toNat : Int), .int .u8 (g.r0.b.toNat : Int), .int .u8 (g.r0.c.toNat : Int), .int .u8 (g.r1.a.toNat : Int), .int .u8 (g.r1.b.toNat : Int), .int .u8 (g.r1.c.toNat : Int), .int .u8 (g.r2.a.toNat : Int), .int .u8 (g.r2.b.toNat : Int), .int .u8 (g.r2.c.toNat : Int)] 41)).alloc (.cells #[.int .u8 0, .int .u8 0, .int .u8 0, .int .u8 0, .int .u8 0, .int .u8 0, .int .u8 0, .int .u8 0, .int .u8 0] 41) = W0 at *
  have hR0 := R_zero kL (heap_alloc_last W0 (.cells #[] 55)) (base := W0.heap.size) (by simp)
  have hB0 : Below W0.heap.size W0 (W0.alloc (.cells #[] 55)) := bq1
  have C1 := Lib.hid c1
  have R1 := Lib.hid r1
  have RF := Lib.hid rf
  have HB0 := Lib.hid hb0
  have HS0 := Lib.hid hs0
  clear c1 r1 rf hb0 hs0
  go_loopg [9, 8] n (fun k vi vr w' => ∃ (i : Nat) (y : Later W0), i + k = n ∧ vi = .int .i64 i ∧ w' = y.W ∧ kL.R 55 y.W W0.heap.size (fun _ => True) vr (augRows n g.num i))
  case atStart => exact ⟨0, ⟨_, hB0⟩, by omega, rfl, rfl, by
    have h := hR0
    rw [HS0.out] at h
    show kL.R _ _ W0.heap.size _ _ _
    rw [HS0.out]
    exact h⟩
  case round =>
    clear hR0 hB0
    obtain ⟨i, y, hik, rfl, rfl, hR⟩ := hrel
    have HIK := Lib.hid hik
    clear hik
    by_cases hlt : i < n
    · have hi1 : (i : Int) < n := by omega
      have hi3 : (i : Int) < 3 := by omega
      have hi0 : (0 : Int) ≤ i := by omega
      have hin : ((i : Int)).toNat = i := by omega
      have w2 := i64_small (n := 2 * (n : Int)) (by omega) (by omega)
      go_wp2_with (refine Kd.R_make kI (w0 := y.W) y.W.heap.size 2 rfl (N := 24) rfl 55 (.tmp 23) (.tmp 23) rfl (2 * (n : Int)) rfl rfl Try.underlying55 _ 8 infoI rfl (by decide) (by decide) 0 (ok := fun _ => True) (okp := fun _ => False) rfl (fun _ h => h.elim) trivial (by omega) (by omega) (Below.refl _ _) (Nat.le_refl _) ?_; intro v1 w1 HR hb1 _ _)
      rw [show (2 * (n : Int)).toNat = 2 * n by omega, fillRow_zero n g.num i] at HR
      obtain ⟨gb, cap, hv, hgb, hgs, _⟩ := Kd.R_form HR (by rw [fillRow_len]; omega)
      rw [fillRow_len] at hv
      subst hv
      have hL2 : 2 * n ≤ n + n := by omega
      have hL3 : n + n ≤ 2 * n := by omega
      generalize 2 * n = L at *
      go_loopg [11] n (fun k v w' => ∃ (j : Nat) (z : Later W0), j + k = n ∧ v = .int .i64 j ∧ w' = z.W ∧ Below y.W.heap.size y.W z.W ∧ kI.R 2 z.W y.W.heap.size (fun _ => True) (.slice (some ⟨gb, 0, none⟩) L cap) (fillRow n g.num i j))
      case atStart => exact ⟨0, ⟨w1, y.ok.trans (hb1.mono y.ok.size)⟩, by omega, rfl, rfl, hb1, HR⟩
      case round =>
        clear HR hb1 hgs
        obtain ⟨j, z, hjk, rfl, rfl, hbz, hRz⟩ := hrel
        have HJK := Lib.hid hjk
        clear hjk
        by_cases hj : j < n
        · have q := pw_cell_below hbz (y.keep (C1.out i j (by omega) (by omega)))
          obtain ⟨f0, f1⟩ := kI_cell hRz j (by omega)
          have HST := Lib.hid (fillRow_step n g.num i j hj)
          have hnum := hA i j
          generalize g.num i j = x at *
          generalize (fillRow n g.num i j).getD j 0 = xo at *
          have hj1 : (j : Int) < n := by omega
          have hj3 : (j : Int) < 3 := by omega
          have hjL : (j : Int) < L := by omega
          have hj0 : (0 : Int) ≤ j := by omega
          have hjn : ((j : Int)).toNat = j := by omega
          go_wp2
          go_roundg (gk - 1)
          case measure => have := HJK.out; omega
          case rel =>
            refine ⟨j + 1, ⟨z.W.setCell ⟨gb, j, none⟩ (.int .i64 x), z.ok.setCell (by have := y.ok.size; show W0.heap.size ≤ gb; omega) _⟩, by have := HJK.out; omega, by go_num, rfl, hbz.setCell (show y.W.heap.size ≤ gb from hgb) _, ?_⟩
            rw [← HST.out]
            exact kI_set hRz j _
        · have hje : j = n := by have := HJK.out; omega
          subst hje
          have e4 : ((j : Int) + (i : Int)).toNat = j + i := by omega
          have w3 := i64_small (n := (j : Int) + i) (by omega) (by omega)
          have hjL : (j : Int) + i < L := by omega
          have hj0 : (0 : Int) ≤ (j : Int) + i := by omega
          obtain ⟨f0, f1⟩ := kI_cell hRz (j + i) (by omega)
          have hRs := Kd.R_below hR (hbz.setCell (show y.W.heap.size ≤ gb from hgb) (p := ⟨gb, j + i, none⟩) (.int .i64 1))
          have hRo := Kd.R_lower (kI_set hRz (j + i) 1) y.ok.size
          rw [fillRow_one j g.num i hlt] at hRo
          have hBs := z.ok.setCell (by have := y.ok.size; show W0.heap.size ≤ gb; omega) (p := ⟨gb, j + i, none⟩) (.int .i64 1)
          obtain ⟨Ar, cr, hvr, hlr, hCr⟩ := Kd.R_reads hR
          rw [augRows_len] at hvr
          subst hvr
          generalize (fillRow j g.num i j).getD (j + i) 0 = xo at *
          go_wp2_with (((with_reducible refine gate_ (.call { callee := .builtin .append, args := #[.tmp 44, .tmp 46], argTypes := #[22, 22] }) rfl ?_); have hM := Kd.M_row (num_apart hRs hRo); have hMk := (fun (k : Nat) (hk : some k ≠ (Value.slice Ar i cr).ownBlock) => (⟨trivial, hk⟩ : True ∧ some k ≠ (Value.slice Ar i cr).ownBlock)); refine Kd.R_append kL (w0 := W0) (W := z.W.setCell ⟨gb, j + i, none⟩ (.int .i64 1)) (W0).heap.size rfl (.tmp 44) (.tmp 46) 22 55 (.slice none 0 0) 24 rfl Try.underlying22 infoL rfl (by decide) (by decide) (Value.slice Ar i cr) (augRows j g.num i) (augRow j g.num i) [.slice (some ⟨gb, 0, none⟩) L cap] (fun _ => True) (fun k => some k ≠ (Value.slice Ar i cr).ownBlock) rfl (by first | rfl | (simp [go_sem]; done)) hM hMk (fun _ _ => trivial) hRs hBs (hBs).size (by rw [augRows_len]; omega) ?_; intro v6 w6 hR6 hB6 hg6 _))
          go_roundg (j - i - 1)
          case measure => have := HIK.out; omega
          case rel =>
            refine ⟨i + 1, ⟨w6, hB6⟩, by have := HIK.out; omega, by go_num, rfl, ?_⟩
            rw [augRows_succ]
            exact hR6
    · have hie : i = n := by have := HIK.out; omega
      subst hie
      obtain ⟨Ar, cr, hvr, hlr, hCr⟩ := Kd.R_reads hR
      rw [augRows_len] at hvr hCr hlr
      subst hvr
      have hech := echelon_g hp (L := 2 * i) (by omega) (rows := augRows i g.num i) (by rw [augRows_len]; omega) (fun r hr => by
        obtain ⟨t, ht, rfl⟩ := List.mem_map.1 hr
        exact (augRow_ok hp2 hA t (List.mem_range.1 ht)).ok) hCr hlr
      have hlen := inv_length (n := i) hp hA
      have hredd := inv_red (n := i) hp hA
      have hdet := inv_det hp hnc hA
      have HDE := Lib.hid (doneI_end p i g.num)
      have HDN := Lib.hid (fun i' j' => (rfl : doneI p i g.num 0 0 i' j' = _))
      change Calls _ _ _ _ (Makes kL _ (invRows p i g.num) _) at hech
      go_wp2_with (go_at_call 46; (with_reducible refine call_makes2 hech ?_); intro x A1 c1 hb1 hl1 hR1 hC1)
      rw [hlen] at hl1 hC1
      have R1X := Lib.hid (fun k (hk : k < 9) => x.keep (R1.out k hk))
      have RFX := Lib.hid (fun k => (x.ok.frozen (p := ⟨w.heap.size + 1, k, none⟩) (by show w.heap.size + 1 < _; rw [HS0.out]; omega)).trans (RF.out k))
      have hsx : w.heap.size + 2 ≤ x.W.heap.size := by rw [← HS0.out]; exact x.ok.size
      have HBX := Lib.hid (HB0.out.trans (x.ok.mono HB0.out.size))
      have c3 : ∀ i' j', i' < 3 → j' < 3 → (x.W.alloc (.cells #[.int .u8 0, .int .u8 0, .int .u8 0, .int .u8 0, .int .u8 0, .int .u8 0, .int .u8 0, .int .u8 0, .int .u8 0] 41)).cell? ⟨x.W.heap.size, i' * 3 + j', none⟩ = some (.int .u8 0) := fun i' j' hi hj => z_at x.W 41 i' j' hi hj
      have c4 : ∀ k, (x.W.alloc (.cells #[.int .u8 0, .int .u8 0, .int .u8 0, .int .u8 0, .int .u8 0, .int .u8 0, .int .u8 0, .int .u8 0, .int .u8 0] 41)).frozen? ⟨x.W.heap.size, k, none⟩ = false := fun k => z_fr x.W (.cells #[.int .u8 0, .int .u8 0, .int .u8 0, .int .u8 0, .int .u8 0, .int .u8 0, .int .u8 0, .int .u8 0, .int .u8 0] 41) k _ _ rfl
      have hb9 : Below x.W.heap.size x.W (x.W.alloc (.cells #[.int .u8 0, .int .u8 0, .int .u8 0, .int .u8 0, .int .u8 0, .int .u8 0, .int .u8 0, .int .u8 0, .int .u8 0] 41)) := bq1
      generalize x.W.alloc (.cells #[.int .u8 0, .int .u8 0, .int .u8 0, .int .u8 0, .int .u8 0, .int .u8 0, .int .u8 0, .int .u8 0, .int .u8 0] 41) = W9 at *
      generalize hob : x.W.heap.size = ob at *
      clear hech hR1 hb1 hR hCr hlr
      have HXO := Lib.hid hob
      clear hob
      have C3 := Lib.hid c3
      have C4 := Lib.hid c4
      clear c3 c4
      have hrows := inv_ok (n := i) hp hA
      have HROW := Lib.hid (fun i' (hi : i' < i) => hrows _ (getD_mem [] (show i' < (invRows p i g.num).length by omega)))
      have HLED := Lib.hid (fun i' (hi : i' < i) => hredd.led _ (getD_mem [] (show i' < (invRows p i g.num).length by omega)))
      have HDET := Lib.hid hdet
      clear hdet hrows hredd hlen
      go_loopg [14] i (fun k v w' => ∃ (r : Nat) (y2 : Later x.W), r + k = i ∧ v = .int .i64 r ∧ w' = y2.W ∧ (∀ i', i' < r → leadN ((invRows p i g.num).getD i' []) = i') ∧ (∀ i' j', i' < 3 → j' < 3 → w'.cell? ⟨ob, i' * 3 + j', none⟩ = some (.int .u8 ((doneI p i g.num r 0 i' j').toNat : Int))) ∧ ∀ k, w'.frozen? ⟨ob, k, none⟩ = false)
      case atStart => exact ⟨0, ⟨W9, by rw [HXO.out]; exact hb9⟩, by omega, rfl, rfl, fun i' h => by omega, fun i' j' h1 h2 => by rw [C3.out i' j' h1 h2]; simp [doneI], C4.out⟩
      case round =>
        clear hb9
        obtain ⟨r, y2, hrk, rfl, rfl, hld, hc, hf⟩ := hrel
        have HRK := Lib.hid hrk
        have HC := Lib.hid hc
        have HF := Lib.hid hf
        clear hrk hc hf
        by_cases hr : r < i
        · obtain ⟨b, o, Br, cr2, hA1, qx, hcr2, hCx⟩ := kL_at hC1 r hr
          subst hA1
          have hrow := HROW.out r hr
          have hled := HLED.out r hr
          have q0 := y2.keep qx
          have hCr2 := Kd.C_below hCx y2.ok
          have hlr : leadI ((invRows p i g.num).getD r []) = (leadN ((invRows p i g.num).getD r []) : Int) := by unfold leadI; rw [if_pos (by rw [hrow.ok.len]; exact hled.lt)]
          have hdr := fun (hd : detZ i g.num % p ≠ 0) => HDET.out.2 hd r hr
          generalize hrw : (invRows p i g.num).getD r [] = row at *
          have HRW := Lib.hid hrw
          clear hrw
          have hr0 : (0 : Int) ≤ r := by omega
          have hr1 : (r : Int) < i := by omega
          have hrn : ((r : Int)).toNat = r := by omega
          have hln6 : row.length ≤ 1000000 := by rw [hrow.ok.len]; omega
          by_cases hlead : leadN row = r
          · rw [hlead] at hlr
            go_wp2_with (go_at_call 85; (with_reducible refine call_later3 (lead_g (r : Int) hCr2 hcr2 hln6 hlr) ?_); intro x3 hb3)
            have hobl : ob < y2.W.heap.size := World.block_lt_of_cell? _ _ (HC.out 0 0 (by omega) (by omega))
            have hcc : ∀ i' j', i' < 3 → j' < 3 → x3.W.cell? ⟨ob, i' * 3 + j', none⟩ = some (.int .u8 ((doneI p i g.num r 0 i' j').toNat : Int)) := fun i' j' h1 h2 => pw_cell_below hb3 (HC.out i' j' h1 h2)
            have hff : ∀ k, x3.W.frozen? ⟨ob, k, none⟩ = false := fun k => (hb3.frozen (p := ⟨ob, k, none⟩) hobl).trans (HF.out k)
            have q0 := pw_cell_below hb3 q0
            have hbx3 := x3.ok
            clear HC HF
            go_loopg [15] i (fun k v w' => ∃ (j : Nat) (y3 : Later x.W), j + k = i ∧ v = .int .i64 j ∧ w' = y3.W ∧ (∀ i' j', i' < 3 → j' < 3 → w'.cell? ⟨ob, i' * 3 + j', none⟩ = some (.int .u8 ((doneI p i g.num r j i' j').toNat : Int))) ∧ ∀ k, w'.frozen? ⟨ob, k, none⟩ = false)
            case atStart => exact ⟨0, x3, by omega, rfl, rfl, hcc, hff⟩
            case round =>
              clear hcc hff
              obtain ⟨j, y3, hjk, rfl, rfl, hc3, hf3⟩ := hrel
              have HJK := Lib.hid hjk
              have HC3 := Lib.hid hc3
              have HF3 := Lib.hid hf3
              clear hjk hc3 hf3
              by_cases hj : j < i
              · have qy := y3.keep qx
                obtain ⟨b3, o3, hB, sx⟩ := kI_at hCx (i + j) (by rw [hrow.ok.len]; omega)
                subst hB
                have sy := y3.keep sx
                have hv := hrow.ok.nums (i + j)
                have hvl : (i : Int) + j < row.length := by rw [hrow.ok.len]; omega
                have hvd : doneI p i g.num r (j + 1) r j = uB (row.getD (i + j) 0) := by rw [doneI, if_pos ⟨hj, .inr ⟨rfl, by omega⟩⟩, HRW.out]
                have HVD := Lib.hid hvd
                clear hvd
                generalize row.getD (i + j) 0 = v at *
                have g3 := HC3.out r j (by omega) (by omega)
                have g4 := HF3.out (r * 3 + j)
                have G3 := Lib.hid g3
                generalize ((doneI p i g.num r j r j).toNat : Int) = old at *
                have w3 := i64_small (n := (i : Int) + j) (by omega) (by omega)
                have e3 : ((i : Int) + (j : Int)).toNat = i + j := by omega
                have e1 : ((j : Int)).toNat = j := by omega
                have i1 : (r : Int) < 3 := by omega
                have i3 : (j : Int) < 3 := by omega
                have hj0 : (0 : Int) ≤ (i : Int) + j := by omega
                have hj1 : (j : Int) < i := by omega
                go_wp2
                go_region
                go_wp2
                go_roundg (i - j - 1)
                case measure => have := HJK.out; omega
                case rel =>
                  refine ⟨j + 1, ⟨(y3.W.setCell ⟨ob, r * 3 + j, none⟩ (.int .u8 v)).drew, (y3.ok.setCell (show x.W.heap.size ≤ ob by rw [HXO.out]; exact Nat.le_refl _) _).drew⟩, by have := HJK.out; omega, by go_num, rfl, fun i' j' hi' hj' => ?_, fun k => ?_⟩
                  · show (y3.W.setCell _ _).cell? _ = _
                    by_cases hij : i' = r ∧ j' = j
                    · obtain ⟨rfl, rfl⟩ := hij
                      rw [World.cell?_setCell_same _ _ _ G3.out, HVD.out, uB_nat, Int.emod_eq_of_lt hv.1 (by omega)]
                    · rw [World.cell?_setCell_other _ _ _ _ (by first | (simp; done) | (simp; omega)), HC3.out i' j' hi' hj']
                      have : (j' < i ∧ (i' < r ∨ (i' = r ∧ j' < j))) ↔ (j' < i ∧ (i' < r ∨ (i' = r ∧ j' < j + 1))) := by omega
                      simp only [doneI, this]
                  · show (y3.W.setCell _ _).frozen? _ = _
                    have := HF3.out k
                    simp [this]
              · have hje : j = i := by have := HJK.out; omega
                subst hje
                go_wp2
                go_roundg (j - r - 1)
                case measure => have := HRK.out; omega
                case rel =>
                  refine ⟨r + 1, y3, by have := HRK.out; omega, by go_num, rfl, fun i' hi' => ?_, fun i' j' hi' hj' => ?_, HF3.out⟩
                  · by_cases h : i' = r
                    · subst h
                      rw [HRW.out]
                      exact hlead
                    · exact hld i' (by omega)
                  · rw [HC3.out i' j' hi' hj']
                    have : (j' < j ∧ (i' < r ∨ (i' = r ∧ j' < j))) ↔ (j' < j ∧ (i' < r + 1 ∨ (i' = r + 1 ∧ j' < 0))) := by omega
                    simp only [doneI, this]
          · have hd0 : detZ i g.num % p = 0 := by
              apply Decidable.byContradiction
              intro hd
              exact hlead (hdr hd)
            have o0 : y2.W.cell? ⟨ob, 0, none⟩ = some (.int .u8 ((mkM (doneI p i g.num r 0)).r0.a.toNat : Int)) := HC.out 0 0 (by omega) (by omega)
            have o1 : y2.W.cell? ⟨ob, 1, none⟩ = some (.int .u8 ((mkM (doneI p i g.num r 0)).r0.b.toNat : Int)) := HC.out 0 1 (by omega) (by omega)
            have o2 : y2.W.cell? ⟨ob, 2, none⟩ = some (.int .u8 ((mkM (doneI p i g.num r 0)).r0.c.toNat : Int)) := HC.out 0 2 (by omega) (by omega)
            have o3 : y2.W.cell? ⟨ob, 3, none⟩ = some (.int .u8 ((mkM (doneI p i g.num r 0)).r1.a.toNat : Int)) := HC.out 1 0 (by omega) (by omega)
            have o4 : y2.W.cell? ⟨ob, 4, none⟩ = some (.int .u8 ((mkM (doneI p i g.num r 0)).r1.b.toNat : Int)) := HC.out 1 1 (by omega) (by omega)
            have o5 : y2.W.cell? ⟨ob, 5, none⟩ = some (.int .u8 ((mkM (doneI p i g.num r 0)).r1.c.toNat : Int)) := HC.out 1 2 (by omega) (by omega)
            have o6 : y2.W.cell? ⟨ob, 6, none⟩ = some (.int .u8 ((mkM (doneI p i g.num r 0)).r2.a.toNat : Int)) := HC.out 2 0 (by omega) (by omega)
            have o7 : y2.W.cell? ⟨ob, 7, none⟩ = some (.int .u8 ((mkM (doneI p i g.num r 0)).r2.b.toNat : Int)) := HC.out 2 1 (by omega) (by omega)
            have o8 : y2.W.cell? ⟨ob, 8, none⟩ = some (.int .u8 ((mkM (doneI p i g.num r 0)).r2.c.toNat : Int)) := HC.out 2 2 (by omega) (by omega)
            have s0 := y2.keep (R1X.out 0 (by omega))
            have f0 : y2.W.frozen? ⟨w.heap.size + 1, 0, none⟩ = false := (y2.ok.frozen (World.block_lt_of_cell? _ _ (R1X.out 0 (by omega)))).trans (RFX.out 0)
            have s1 := y2.keep (R1X.out 1 (by omega))
            have f1 : y2.W.frozen? ⟨w.heap.size + 1, 1, none⟩ = false := (y2.ok.frozen (World.block_lt_of_cell? _ _ (R1X.out 1 (by omega)))).trans (RFX.out 1)
            have s2 := y2.keep (R1X.out 2 (by omega))
            have f2 : y2.W.frozen? ⟨w.heap.size + 1, 2, none⟩ = false := (y2.ok.frozen (World.block_lt_of_cell? _ _ (R1X.out 2 (by omega)))).trans (RFX.out 2)
            have s3 := y2.keep (R1X.out 3 (by omega))
            have f3 : y2.W.frozen? ⟨w.heap.size + 1, 3, none⟩ = false := (y2.ok.frozen (World.block_lt_of_cell? _ _ (R1X.out 3 (by omega)))).trans (RFX.out 3)
            have s4 := y2.keep (R1X.out 4 (by omega))
            have f4 : y2.W.frozen? ⟨w.heap.size + 1, 4, none⟩ = false := (y2.ok.frozen (World.block_lt_of_cell? _ _ (R1X.out 4 (by omega)))).trans (RFX.out 4)
            have s5 := y2.keep (R1X.out 5 (by omega))
            have f5 : y2.W.frozen? ⟨w.heap.size + 1, 5, none⟩ = false := (y2.ok.frozen (World.block_lt_of_cell? _ _ (R1X.out 5 (by omega)))).trans (RFX.out 5)
            have s6 := y2.keep (R1X.out 6 (by omega))
            have f6 : y2.W.frozen? ⟨w.heap.size + 1, 6, none⟩ = false := (y2.ok.frozen (World.block_lt_of_cell? _ _ (R1X.out 6 (by omega)))).trans (RFX.out 6)
            have s7 := y2.keep (R1X.out 7 (by omega))
            have f7 : y2.W.frozen? ⟨w.heap.size + 1, 7, none⟩ = false := (y2.ok.frozen (World.block_lt_of_cell? _ _ (R1X.out 7 (by omega)))).trans (RFX.out 7)
            have s8 := y2.keep (R1X.out 8 (by omega))
            have f8 : y2.W.frozen? ⟨w.heap.size + 1, 8, none⟩ = false := (y2.ok.frozen (World.block_lt_of_cell? _ _ (R1X.out 8 (by omega)))).trans (RFX.out 8)
            generalize mkM (doneI p i g.num r 0) = tm at *
            have hrs : w.heap.size + 1 < y2.W.heap.size := World.block_lt_of_cell? _ _ s0
            have hlz : (leadN row : Int) ≠ r := by omega
            generalize leadN row = lr at *
            go_wp2_with (go_at_call 85; (with_reducible refine call_later3 (lead_g (lr : Int) hCr2 hcr2 hln6 hlr) ?_); intro x3 hb3; have o0 := pw_cell_below hb3 o0; have s0 := pw_cell_below hb3 s0; have f0 := (hb3.frozen (p := ⟨w.heap.size + 1, 0, none⟩) hrs).trans f0; have o1 := pw_cell_below hb3 o1; have s1 := pw_cell_below hb3 s1; have f1 := (hb3.frozen (p := ⟨w.heap.size + 1, 1, none⟩) hrs).trans f1; have o2 := pw_cell_below hb3 o2; have s2 := pw_cell_below hb3 s2; have f2 := (hb3.frozen (p := ⟨w.heap.size + 1, 2, none⟩) hrs).trans f2; have o3 := pw_cell_below hb3 o3; have s3 := pw_cell_below hb3 s3; have f3 := (hb3.frozen (p := ⟨w.heap.size + 1, 3, none⟩) hrs).trans f3; have o4 := pw_cell_below hb3 o4; have s4 := pw_cell_below hb3 s4; have f4 := (hb3.frozen (p := ⟨w.heap.size + 1, 4, none⟩) hrs).trans f4; have o5 := pw_cell_below hb3 o5; have s5 := pw_cell_below hb3 s5; have f5 := (hb3.frozen (p := ⟨w.heap.size + 1, 5, none⟩) hrs).trans f5; have o6 := pw_cell_below hb3 o6; have s6 := pw_cell_below hb3 s6; have f6 := (hb3.frozen (p := ⟨w.heap.size + 1, 6, none⟩) hrs).trans f6; have o7 := pw_cell_below hb3 o7; have s7 := pw_cell_below hb3 s7; have f7 := (hb3.frozen (p := ⟨w.heap.size + 1, 7, none⟩) hrs).trans f7; have o8 := pw_cell_below hb3 o8; have s8 := pw_cell_below hb3 s8; have f8 := (hb3.frozen (p := ⟨w.heap.size + 1, 8, none⟩) hrs).trans f8)
            have hbq := HBX.out
            have hbz := hbq.size
            refine bodyPost_ret (v := .tuple #[.agg #[.int .u8 (tm.r0.a.toNat : Int), .int .u8 (tm.r0.b.toNat : Int), .int .u8 (tm.r0.c.toNat : Int), .int .u8 (tm.r1.a.toNat : Int), .int .u8 (tm.r1.b.toNat : Int), .int .u8 (tm.r1.c.toNat : Int), .int .u8 (tm.r2.a.toNat : Int), .int .u8 (tm.r2.b.toNat : Int), .int .u8 (tm.r2.c.toNat : Int)], .bool false]) (by simp [results, Try.results68, go_sem, o0, o1, o2, o3, o4, o5, o6, o7, o8, s0, s1, s2, s3, s4, s5, s6, s7, s8]) rfl ⟨tm, ?_, fun h => absurd hd0 h, ?_⟩
            · rw [decide_eq_false (fun h => h hd0)]
            · have hx3 := x3.ok
              have hsz := x3.ok.size
              exact bq1
        · have hre : r = i := by have := HRK.out; omega
          subst hre
          have hdt := HDET.out.1 hld
          have o0 : y2.W.cell? ⟨ob, 0, none⟩ = some (.int .u8 ((mkM (doneI p r g.num r 0)).r0.a.toNat : Int)) := HC.out 0 0 (by omega) (by omega)
          have o1 : y2.W.cell? ⟨ob, 1, none⟩ = some (.int .u8 ((mkM (doneI p r g.num r 0)).r0.b.toNat : Int)) := HC.out 0 1 (by omega) (by omega)
          have o2 : y2.W.cell? ⟨ob, 2, none⟩ = some (.int .u8 ((mkM (doneI p r g.num r 0)).r0.c.toNat : Int)) := HC.out 0 2 (by omega) (by omega)
          have o3 : y2.W.cell? ⟨ob, 3, none⟩ = some (.int .u8 ((mkM (doneI p r g.num r 0)).r1.a.toNat : Int)) := HC.out 1 0 (by omega) (by omega)
          have o4 : y2.W.cell? ⟨ob, 4, none⟩ = some (.int .u8 ((mkM (doneI p r g.num r 0)).r1.b.toNat : Int)) := HC.out 1 1 (by omega) (by omega)
          have o5 : y2.W.cell? ⟨ob, 5, none⟩ = some (.int .u8 ((mkM (doneI p r g.num r 0)).r1.c.toNat : Int)) := HC.out 1 2 (by omega) (by omega)
          have o6 : y2.W.cell? ⟨ob, 6, none⟩ = some (.int .u8 ((mkM (doneI p r g.num r 0)).r2.a.toNat : Int)) := HC.out 2 0 (by omega) (by omega)
          have o7 : y2.W.cell? ⟨ob, 7, none⟩ = some (.int .u8 ((mkM (doneI p r g.num r 0)).r2.b.toNat : Int)) := HC.out 2 1 (by omega) (by omega)
          have o8 : y2.W.cell? ⟨ob, 8, none⟩ = some (.int .u8 ((mkM (doneI p r g.num r 0)).r2.c.toNat : Int)) := HC.out 2 2 (by omega) (by omega)
          have s0 := y2.keep (R1X.out 0 (by omega))
          have f0 : y2.W.frozen? ⟨w.heap.size + 1, 0, none⟩ = false := (y2.ok.frozen (World.block_lt_of_cell? _ _ (R1X.out 0 (by omega)))).trans (RFX.out 0)
          have s1 := y2.keep (R1X.out 1 (by omega))
          have f1 : y2.W.frozen? ⟨w.heap.size + 1, 1, none⟩ = false := (y2.ok.frozen (World.block_lt_of_cell? _ _ (R1X.out 1 (by omega)))).trans (RFX.out 1)
          have s2 := y2.keep (R1X.out 2 (by omega))
          have f2 : y2.W.frozen? ⟨w.heap.size + 1, 2, none⟩ = false := (y2.ok.frozen (World.block_lt_of_cell? _ _ (R1X.out 2 (by omega)))).trans (RFX.out 2)
          have s3 := y2.keep (R1X.out 3 (by omega))
          have f3 : y2.W.frozen? ⟨w.heap.size + 1, 3, none⟩ = false := (y2.ok.frozen (World.block_lt_of_cell? _ _ (R1X.out 3 (by omega)))).trans (RFX.out 3)
          have s4 := y2.keep (R1X.out 4 (by omega))
          have f4 : y2.W.frozen? ⟨w.heap.size + 1, 4, none⟩ = false := (y2.ok.frozen (World.block_lt_of_cell? _ _ (R1X.out 4 (by omega)))).trans (RFX.out 4)
          have s5 := y2.keep (R1X.out 5 (by omega))
          have f5 : y2.W.frozen? ⟨w.heap.size + 1, 5, none⟩ = false := (y2.ok.frozen (World.block_lt_of_cell? _ _ (R1X.out 5 (by omega)))).trans (RFX.out 5)
          have s6 := y2.keep (R1X.out 6 (by omega))
          have f6 : y2.W.frozen? ⟨w.heap.size + 1, 6, none⟩ = false := (y2.ok.frozen (World.block_lt_of_cell? _ _ (R1X.out 6 (by omega)))).trans (RFX.out 6)
          have s7 := y2.keep (R1X.out 7 (by omega))
          have f7 : y2.W.frozen? ⟨w.heap.size + 1, 7, none⟩ = false := (y2.ok.frozen (World.block_lt_of_cell? _ _ (R1X.out 7 (by omega)))).trans (RFX.out 7)
          have s8 := y2.keep (R1X.out 8 (by omega))
          have f8 : y2.W.frozen? ⟨w.heap.size + 1, 8, none⟩ = false := (y2.ok.frozen (World.block_lt_of_cell? _ _ (R1X.out 8 (by omega)))).trans (RFX.out 8)
          rw [HDE.out] at o0 o1 o2 o3 o4 o5 o6 o7 o8
          generalize hinv : invM p r g.num = tm at *
          have HINV := Lib.hid hinv
          clear hinv
          have hrs : w.heap.size + 1 < y2.W.heap.size := World.block_lt_of_cell? _ _ s0
          go_wp2
          refine bodyPost_ret (v := .tuple #[.agg #[.int .u8 (tm.r0.a.toNat : Int), .int .u8 (tm.r0.b.toNat : Int), .int .u8 (tm.r0.c.toNat : Int), .int .u8 (tm.r1.a.toNat : Int), .int .u8 (tm.r1.b.toNat : Int), .int .u8 (tm.r1.c.toNat : Int), .int .u8 (tm.r2.a.toNat : Int), .int .u8 (tm.r2.b.toNat : Int), .int .u8 (tm.r2.c.toNat : Int)], .bool true]) (by simp [results, Try.results68, go_sem, o0, o1, o2, o3, o4, o5, o6, o7, o8, s0, s1, s2, s3, s4, s5, s6, s7, s8]) rfl ⟨tm, ?_, fun _ => HINV.out.symm, ?_⟩
          · rw [decide_eq_true hdt]
          · have hx2 := y2.ok
            have hsz := y2.ok.size
            have hbq := HBX.out
            have hbz := hbq.size
            exact bq1
end Go.Proofs.Ytimjhehagimcaaa
/- The walks of IsMatrix of both sides; no condition. -/
set_option linter.unusedVariables false
set_option linter.unusedSimpArgs false
namespace Go.Proofs.Ytimjhehagimcaaa
open Go.RowKit Go.Proofs.YtimjhehagimcaaaW.PrintWords
attribute [local go_sem] Later.cell Later.frozen Later.lt Later.lt_add Later.le Later.le_add Later.ne Later.ne' add_at
theorem primeZ_of {p : Int} (h : primeB p = true) : primeZ p := by
  simp [primeB] at h
  unfold primeZ
  omega
theorem inB_of {n : Int} (h : inB n 1 3 = true) : 1 ≤ n ∧ n ≤ 3 := by
  simp [inB] at h
  exact h
def cellB (p n : Int) (m : M9) (i j : Nat) : Bool := decide (m.num i j < p) && ((decide ((i : Int) < n) && decide ((j : Int) < n)) || m.num i j == 0)
def cellsB (p n : Int) (m : M9) : Bool := (List.range 3).all fun i => (List.range 3).all fun j => cellB p n m i j
theorem cellsB_iff (p n : Int) (m : M9) : cellsB p n m = true ↔ ∀ i, i < 3 → ∀ j, j < 3 → cellB p n m i j = true := by
  simp [cellsB, List.all_eq_true]
/-- What IsMatrix answers. -/
def matB (p n : Int) (m : M9) : Bool := primeB p && inB n 1 3 && cellsB p n m && decide (detZ n.toNat m.num % p ≠ 0)
theorem matB_1 {p n : Int} {m : M9} (h : primeB p = false) : matB p n m = false := by simp [matB, h]
theorem matB_2 {p n : Int} {m : M9} (h : inB n 1 3 = false) : matB p n m = false := by simp [matB, h]
theorem matB_3 {p n : Int} {m : M9} {i j : Nat} (hi : i < 3) (hj : j < 3) (h : cellB p n m i j = false) : matB p n m = false := by
  have : cellsB p n m = false := by
    rw [← Bool.not_eq_true, cellsB_iff]
    intro hc
    have := hc i hi j hj
    rw [h] at this
    exact absurd this (by decide)
  simp [matB, this]
theorem cellsB_of {p n : Int} {m : M9} (h : ∀ i, i < 3 → ∀ j, j < 3 → cellB p n m i j = true) : cellsB p n m = true := (cellsB_iff p n m).2 h
theorem cellsB_le {p n : Int} {m : M9} (h : ∀ i, i < 3 → ∀ j, j < 3 → cellB p n m i j = true) : m.le p := by
  have g : ∀ i, i < 3 → ∀ j, j < 3 → ((m.at i j).toNat : Int) < p := fun i hi j hj => by
    have := h i hi j hj
    unfold cellB at this
    rw [Bool.and_eq_true] at this
    exact of_decide_eq_true this.1
  exact ⟨⟨g 0 (by omega) 0 (by omega), g 0 (by omega) 1 (by omega), g 0 (by omega) 2 (by omega)⟩, ⟨g 1 (by omega) 0 (by omega), g 1 (by omega) 1 (by omega), g 1 (by omega) 2 (by omega)⟩, ⟨g 2 (by omega) 0 (by omega), g 2 (by omega) 1 (by omega), g 2 (by omega) 2 (by omega)⟩⟩
theorem det_same {n : Nat} (hn : n = 1 ∨ n = 2 ∨ n = 3) (m : M9) : detI (n : Int) m = detZ n m.num := by
  rcases hn with rfl | rfl | rfl <;> rfl
theorem matB_4 {p : Int} {n : Nat} {m : M9} (hp : primeB p = true) (hn : inB (n : Int) 1 3 = true) (h : cellsB p n m = true) : matB p n m = decide (detZ n m.num % p ≠ 0) := by
  simp [matB, hp, hn, h]
theorem num_bd (m : M9) (i j : Nat) : 0 ≤ m.num i j ∧ m.num i j ≤ 255 := by
  unfold M9.num
  have := (m.at i j).toNat_lt
  omega
theorem cellB_false1 {p n : Int} {m : M9} {i j : Nat} (h : p ≤ m.num i j) : cellB p n m i j = false := by
  unfold cellB
  rw [decide_eq_false (by omega)]
  rfl
theorem cellB_false2 {p n : Int} {m : M9} {i j : Nat} (h : n ≤ i ∨ n ≤ j) (h2 : m.num i j ≠ 0) : cellB p n m i j = false := by
  unfold cellB
  rcases h with h | h
  · rw [decide_eq_false (p := (i : Int) < n) (by omega), beq_eq_false_iff_ne.2 h2]; simp
  · rw [decide_eq_false (p := (j : Int) < n) (by omega), beq_eq_false_iff_ne.2 h2]; simp
theorem cellB_true1 {p n : Int} {m : M9} {i j : Nat} (h : ¬ p ≤ m.num i j) (h2 : m.num i j = 0) : cellB p n m i j = true := by
  unfold cellB
  rw [decide_eq_true (by omega), h2]
  simp
theorem cellB_true2 {p n : Int} {m : M9} {i j : Nat} (h : ¬ p ≤ m.num i j) (h1 : ¬ n ≤ i) (h2 : ¬ n ≤ j) : cellB p n m i j = true := by
  unfold cellB
  rw [decide_eq_true (by omega), decide_eq_true (p := (i : Int) < n) (by omega), decide_eq_true (p := (j : Int) < n) (by omega)]
  simp
set_option maxRecDepth 100000 in
set_option maxHeartbeats 4000000 in
theorem implIsMatrix_c (p n : Int) (m : M9) (w : World) : Calls Try.prog 24 #[.int .i64 p, .int .i64 n, .agg #[.int .u8 (m.r0.a.toNat : Int), .int .u8 (m.r0.b.toNat : Int), .int .u8 (m.r0.c.toNat : Int), .int .u8 (m.r1.a.toNat : Int), .int .u8 (m.r1.b.toNat : Int), .int .u8 (m.r1.c.toNat : Int), .int .u8 (m.r2.a.toNat : Int), .int .u8 (m.r2.b.toNat : Int), .int .u8 (m.r2.c.toNat : Int)]] w (Gives (.bool (matB p n m)) w) := by
  cases hp : primeB p with
  | false =>
    rw [matB_1 hp]
    go_enter Try.func24, Try.ntmps24
    go_wp2_with ((go_at_call 47; (first | (with_reducible refine call_later2 (hp ▸ isPrime_c p _) ?_) | (with_reducible refine call_later (hp ▸ isPrime_c p _) ?_)); intro x))
    exact bodyPost_ret (v := .bool false) (by simp [results, Try.results24, go_sem]) rfl (.mk rfl bq1)
  | true =>
    cases hn : inB n 1 3 with
    | false =>
      rw [matB_2 hn]
      go_enter Try.func24, Try.ntmps24
      go_wp2_with (first | (go_at_call 47; (first | (with_reducible refine call_later2 (hp ▸ isPrime_c p _) ?_) | (with_reducible refine call_later (hp ▸ isPrime_c p _) ?_)); intro x) | (go_at_call 65; (first | (with_reducible refine call_later2 (hn ▸ isVars_c n _) ?_) | (with_reducible refine call_later (hn ▸ isVars_c n _) ?_)); intro x2))
      exact bodyPost_ret (v := .bool false) (by simp [results, Try.results24, go_sem]) rfl (.mk rfl bq1)
    | true =>
      have hpz := primeZ_of hp
      obtain ⟨hp2, hp13⟩ := hpz.two
      obtain ⟨hn1, hn3⟩ := inB_of hn
      go_enter Try.func24, Try.ntmps24
      have hb0 : Below w.heap.size w (w.alloc (.cells #[.int .u8 (m.r0.a.toNat : Int), .int .u8 (m.r0.b.toNat : Int), .int .u8 (m.r0.c.toNat : Int), .int .u8 (m.r1.a.toNat : Int), .int .u8 (m.r1.b.toNat : Int), .int .u8 (m.r1.c.toNat : Int), .int .u8 (m.r2.a.toNat : Int), .int .u8 (m.r2.b.toNat : Int), .int .u8 (m.r2.c.toNat : Int)] 41)) := bq1
      have c1 : ∀ i j, i < 3 → j < 3 → (w.alloc (.cells #[.int .u8 (m.r0.a.toNat : Int), .int .u8 (m.r0.b.toNat : Int), .int .u8 (m.r0.c.toNat : Int), .int .u8 (m.r1.a.toNat : Int), .int .u8 (m.r1.b.toNat : Int), .int .u8 (m.r1.c.toNat : Int), .int .u8 (m.r2.a.toNat : Int), .int .u8 (m.r2.b.toNat : Int), .int .u8 (m.r2.c.toNat : Int)] 41)).cell? ⟨w.heap.size, i * 3 + j, none⟩ = some (.int .u8 (m.num i j)) := fun i j hi hj => box_at w m _ i j hi hj
      go_wp2_with (first | (go_at_call 47; (first | (with_reducible refine call_later2 (hp ▸ isPrime_c p _) ?_) | (with_reducible refine call_later (hp ▸ isPrime_c p _) ?_)); intro x) | (go_at_call 65; (first | (with_reducible refine call_later2 (hn ▸ isVars_c n _) ?_) | (with_reducible refine call_later (hn ▸ isVars_c n _) ?_)); intro x2))
      generalize w.alloc (.cells #[.int .u8 (m.r0.a.toNat : Int), .int .u8 (m.r0.b.toNat : Int), .int .u8 (m.r0.c.toNat : Int), .int .u8 (m.r1.a.toNat : Int), .int .u8 (m.r1.b.toNat : Int), .int .u8 (m.r1.c.toNat : Int), .int .u8 (m.r2.a.toNat : Int), .int .u8 (m.r2.b.toNat : Int), .int .u8 (m.r2.c.toNat : Int)] 41) = W0 at *
      have C1 := Lib.hid c1
      have HB0 := Lib.hid hb0
      clear c1 hb0
      go_loopg [17] 3 (fun k v w' => ∃ (i : Nat) (y : Later W0), i + k = 3 ∧ v = .int .i64 i ∧ w' = y.W ∧ ∀ i', i' < i → ∀ j, j < 3 → cellB p n m i' j = true)
      case atStart => exact ⟨0, x2, by omega, rfl, rfl, fun i' h => by omega⟩
      case round =>
        obtain ⟨i, y, hik, rfl, rfl, hok⟩ := hrel
        have HIK := Lib.hid hik
        have HOK := Lib.hid hok
        clear hik hok
        by_cases hi : i < 3
        · have hi1 : (i : Int) < 3 := by omega
          have hin : ((i : Int)).toNat = i := by omega
          go_wp2
          go_loopg [20] 3 (fun k v w' => ∃ (j : Nat) (y2 : Later W0), j + k = 3 ∧ v = .int .i64 j ∧ w' = y2.W ∧ ∀ j', j' < j → cellB p n m i j' = true)
          case atStart => exact ⟨0, y, by omega, rfl, rfl, fun j' h => by omega⟩
          case round =>
            obtain ⟨j, y2, hjk, rfl, rfl, hok2⟩ := hrel
            have HJK := Lib.hid hjk
            have HOK2 := Lib.hid hok2
            clear hjk hok2
            by_cases hj : j < 3
            · have hj1 : (j : Int) < 3 := by omega
              have hjn : ((j : Int)).toNat = j := by omega
              have q := y2.keep (C1.out i j hi hj)
              have hxb := num_bd m i j
              have hbw := HB0.out
              have hbs := hbw.size
              by_cases h1 : p ≤ m.num i j
              · have HB := Lib.hid (matB_3 hi hj (cellB_false1 (n := n) h1))
                generalize m.num i j = x at *
                go_wp2
                rw [HB.out]
                exact bodyPost_ret (v := .bool false) (by simp [results, Try.results24, go_sem]) rfl (.mk rfl bq1)
              · by_cases h4 : m.num i j = 0
                · have HT := Lib.hid (cellB_true1 (n := n) h1 h4)
                  rw [h4] at q h1
                  by_cases h2 : (n : Int) ≤ i
                  · go_wp2
                    go_roundg (gk - 1)
                    case measure => have := HJK.out; omega
                    case rel =>
                      refine ⟨j + 1, y2, by have := HJK.out; omega, by go_num, rfl, fun j' hj' => ?_⟩
                      by_cases h : j' = j
                      · rw [h]; exact HT.out
                      · exact HOK2.out j' (by omega)
                  · by_cases h3 : (n : Int) ≤ j
                    · go_wp2
                      go_roundg (gk - 1)
                      case measure => have := HJK.out; omega
                      case rel =>
                        refine ⟨j + 1, y2, by have := HJK.out; omega, by go_num, rfl, fun j' hj' => ?_⟩
                        by_cases h : j' = j
                        · rw [h]; exact HT.out
                        · exact HOK2.out j' (by omega)
                    · go_wp2
                      go_roundg (gk - 1)
                      case measure => have := HJK.out; omega
                      case rel =>
                        refine ⟨j + 1, y2, by have := HJK.out; omega, by go_num, rfl, fun j' hj' => ?_⟩
                        by_cases h : j' = j
                        · rw [h]; exact HT.out
                        · exact HOK2.out j' (by omega)
                · by_cases h2 : (n : Int) ≤ i
                  · have HB := Lib.hid (matB_3 hi hj (cellB_false2 (p := p) (.inl h2) h4))
                    generalize m.num i j = x at *
                    go_wp2
                    rw [HB.out]
                    exact bodyPost_ret (v := .bool false) (by simp [results, Try.results24, go_sem]) rfl (.mk rfl bq1)
                  · by_cases h3 : (n : Int) ≤ j
                    · have HB := Lib.hid (matB_3 hi hj (cellB_false2 (p := p) (.inr h3) h4))
                      generalize m.num i j = x at *
                      go_wp2
                      rw [HB.out]
                      exact bodyPost_ret (v := .bool false) (by simp [results, Try.results24, go_sem]) rfl (.mk rfl bq1)
                    · have HT := Lib.hid (cellB_true2 h1 h2 h3)
                      generalize m.num i j = x at *
                      go_wp2
                      go_roundg (gk - 1)
                      case measure => have := HJK.out; omega
                      case rel =>
                        refine ⟨j + 1, y2, by have := HJK.out; omega, by go_num, rfl, fun j' hj' => ?_⟩
                        by_cases h : j' = j
                        · rw [h]; exact HT.out
                        · exact HOK2.out j' (by omega)
            · have hje : j = 3 := by have := HJK.out; omega
              subst hje
              go_wp2
              go_roundg (2 - i)
              case measure => have := HIK.out; omega
              case rel =>
                refine ⟨i + 1, y2, by have := HIK.out; omega, by go_num, rfl, fun i' hi' => ?_⟩
                by_cases h : i' = i
                · rw [h]; exact HOK2.out
                · exact HOK.out i' (by omega)
        · have hie : i = 3 := by have := HIK.out; omega
          subst hie
          have hcs := cellsB_of HOK.out
          have hle := cellsB_le HOK.out
          obtain ⟨nn, rfl⟩ := Int.eq_ofNat_of_zero_le (show 0 ≤ n by omega)
          have hr := matB_4 hp hn hcs
          have hdi := det_same (n := nn) (by omega) m
          have hdc := fun W => determinant_c p nn m W hp2 hp13 hn1 hn3 hle
          simp only [hdi] at hdc
          generalize detZ nn m.num % p = dd at *
          have HR := Lib.hid hr
          clear hr hcs hle hdi
          have q0 : y.W.cell? ⟨w.heap.size, 0, none⟩ = some (.int .u8 (m.r0.a.toNat : Int)) := y.keep (C1.out 0 0 (by omega) (by omega))
          have q1 : y.W.cell? ⟨w.heap.size, 1, none⟩ = some (.int .u8 (m.r0.b.toNat : Int)) := y.keep (C1.out 0 1 (by omega) (by omega))
          have q2 : y.W.cell? ⟨w.heap.size, 2, none⟩ = some (.int .u8 (m.r0.c.toNat : Int)) := y.keep (C1.out 0 2 (by omega) (by omega))
          have q3 : y.W.cell? ⟨w.heap.size, 3, none⟩ = some (.int .u8 (m.r1.a.toNat : Int)) := y.keep (C1.out 1 0 (by omega) (by omega))
          have q4 : y.W.cell? ⟨w.heap.size, 4, none⟩ = some (.int .u8 (m.r1.b.toNat : Int)) := y.keep (C1.out 1 1 (by omega) (by omega))
          have q5 : y.W.cell? ⟨w.heap.size, 5, none⟩ = some (.int .u8 (m.r1.c.toNat : Int)) := y.keep (C1.out 1 2 (by omega) (by omega))
          have q6 : y.W.cell? ⟨w.heap.size, 6, none⟩ = some (.int .u8 (m.r2.a.toNat : Int)) := y.keep (C1.out 2 0 (by omega) (by omega))
          have q7 : y.W.cell? ⟨w.heap.size, 7, none⟩ = some (.int .u8 (m.r2.b.toNat : Int)) := y.keep (C1.out 2 1 (by omega) (by omega))
          have q8 : y.W.cell? ⟨w.heap.size, 8, none⟩ = some (.int .u8 (m.r2.c.toNat : Int)) := y.keep (C1.out 2 2 (by omega) (by omega))
          have hbw := HB0.out
          have hbs := hbw.size
          have hzy : w.heap.size < y.W.heap.size := World.block_lt_of_cell? _ _ q0
          go_wp2_with ((go_at_call 66; (first | (with_reducible refine call_later2 (hdc _) ?_) | (with_reducible refine call_later (hdc _) ?_)); intro x9))
          refine bodyPost_ret (v := .bool (dd != 0)) (by simp [results, Try.results24, go_sem]) rfl (.mk ?_ bq1)
          rw [HR.out]
          simp [bne, BEq.beq]
end Go.Proofs.Ytimjhehagimcaaa
/- The walks of the reference's IsMatrix; no condition. -/
set_option linter.unusedVariables false
set_option linter.unusedSimpArgs false
namespace Go.Proofs.Ytimjhehagimcaaa
open Go.RowKit Go.Proofs.YtimjhehagimcaaaW.PrintWords
attribute [local go_sem] Later.cell Later.frozen Later.lt Later.lt_add Later.le Later.le_add Later.ne Later.ne' add_at
/-- A matrix and whether there is one, that a call makes. -/
theorem call_inv2 {P : Program} {f : FuncId} {args : Array Value} {w : World} {y : Later w} {b : Bool} {Q : M9 → Prop} {R : Ending → World → Prop}
    (h : Calls P f args y.W (fun e w' => ∃ m : M9, e = .returned (.tuple #[.agg #[.int .u8 (m.r0.a.toNat : Int), .int .u8 (m.r0.b.toNat : Int), .int .u8 (m.r0.c.toNat : Int), .int .u8 (m.r1.a.toNat : Int), .int .u8 (m.r1.b.toNat : Int), .int .u8 (m.r1.c.toNat : Int), .int .u8 (m.r2.a.toNat : Int), .int .u8 (m.r2.b.toNat : Int), .int .u8 (m.r2.c.toNat : Int)], .bool b]) ∧ Q m ∧ Below y.W.heap.size y.W w')) (k : ∀ (x : Later w) (m : M9), Q m → R (.returned (.tuple #[.agg #[.int .u8 (m.r0.a.toNat : Int), .int .u8 (m.r0.b.toNat : Int), .int .u8 (m.r0.c.toNat : Int), .int .u8 (m.r1.a.toNat : Int), .int .u8 (m.r1.b.toNat : Int), .int .u8 (m.r1.c.toNat : Int), .int .u8 (m.r2.a.toNat : Int), .int .u8 (m.r2.b.toNat : Int), .int .u8 (m.r2.c.toNat : Int)], .bool b])) x.W) : Calls P f args y.W R :=
  h.mono fun _ w' ⟨m, he, hq, hb⟩ => by subst he; exact k ⟨w', y.ok.trans (hb.mono y.ok.size)⟩ m hq
set_option maxRecDepth 100000 in
set_option maxHeartbeats 4000000 in
theorem l02Matrix_c (p n : Int) (m : M9) (w : World) : Calls Try.prog 59 #[.int .i64 p, .int .i64 n, .agg #[.int .u8 (m.r0.a.toNat : Int), .int .u8 (m.r0.b.toNat : Int), .int .u8 (m.r0.c.toNat : Int), .int .u8 (m.r1.a.toNat : Int), .int .u8 (m.r1.b.toNat : Int), .int .u8 (m.r1.c.toNat : Int), .int .u8 (m.r2.a.toNat : Int), .int .u8 (m.r2.b.toNat : Int), .int .u8 (m.r2.c.toNat : Int)]] w (Gives (.bool (matB p n m)) w) := by
  cases hp : primeB p with
  | false =>
    rw [matB_1 hp]
    go_enter Try.func59, Try.ntmps59
    go_wp2_with ((go_at_call 43; (first | (with_reducible refine call_later2 (hp ▸ l01Prime_c p _) ?_) | (with_reducible refine call_later (hp ▸ l01Prime_c p _) ?_)); intro x))
    exact bodyPost_ret (v := .bool false) (by simp [results, Try.results59, go_sem]) rfl (.mk rfl bq1)
  | true =>
    cases hn : inB n 1 3 with
    | false =>
      rw [matB_2 hn]
      go_enter Try.func59, Try.ntmps59
      go_wp2_with (first | (go_at_call 43; (first | (with_reducible refine call_later2 (hp ▸ l01Prime_c p _) ?_) | (with_reducible refine call_later (hp ▸ l01Prime_c p _) ?_)); intro x) | (go_at_call 44; (first | (with_reducible refine call_later2 (hn ▸ l01In_c n 1 3 _) ?_) | (with_reducible refine call_later (hn ▸ l01In_c n 1 3 _) ?_)); intro x2))
      exact bodyPost_ret (v := .bool false) (by simp [results, Try.results59, go_sem]) rfl (.mk rfl bq1)
    | true =>
      have hpz := primeZ_of hp
      obtain ⟨hp2, hp13⟩ := hpz.two
      obtain ⟨hn1, hn3⟩ := inB_of hn
      go_enter Try.func59, Try.ntmps59
      have hb0 : Below w.heap.size w (w.alloc (.cells #[.int .u8 (m.r0.a.toNat : Int), .int .u8 (m.r0.b.toNat : Int), .int .u8 (m.r0.c.toNat : Int), .int .u8 (m.r1.a.toNat : Int), .int .u8 (m.r1.b.toNat : Int), .int .u8 (m.r1.c.toNat : Int), .int .u8 (m.r2.a.toNat : Int), .int .u8 (m.r2.b.toNat : Int), .int .u8 (m.r2.c.toNat : Int)] 41)) := bq1
      have c1 : ∀ i j, i < 3 → j < 3 → (w.alloc (.cells #[.int .u8 (m.r0.a.toNat : Int), .int .u8 (m.r0.b.toNat : Int), .int .u8 (m.r0.c.toNat : Int), .int .u8 (m.r1.a.toNat : Int), .int .u8 (m.r1.b.toNat : Int), .int .u8 (m.r1.c.toNat : Int), .int .u8 (m.r2.a.toNat : Int), .int .u8 (m.r2.b.toNat : Int), .int .u8 (m.r2.c.toNat : Int)] 41)).cell? ⟨w.heap.size, i * 3 + j, none⟩ = some (.int .u8 (m.num i j)) := fun i j hi hj => box_at w m _ i j hi hj
      go_wp2_with (first | (go_at_call 43; (first | (with_reducible refine call_later2 (hp ▸ l01Prime_c p _) ?_) | (with_reducible refine call_later (hp ▸ l01Prime_c p _) ?_)); intro x) | (go_at_call 44; (first | (with_reducible refine call_later2 (hn ▸ l01In_c n 1 3 _) ?_) | (with_reducible refine call_later (hn ▸ l01In_c n 1 3 _) ?_)); intro x2))
      generalize w.alloc (.cells #[.int .u8 (m.r0.a.toNat : Int), .int .u8 (m.r0.b.toNat : Int), .int .u8 (m.r0.c.toNat : Int), .int .u8 (m.r1.a.toNat : Int), .int .u8 (m.r1.b.toNat : Int), .int .u8 (m.r1.c.toNat : Int), .int .u8 (m.r2.a.toNat : Int), .int .u8 (m.r2.b.toNat : Int), .int .u8 (m.r2.c.toNat : Int)] 41) = W0 at *
      have C1 := Lib.hid c1
      have HB0 := Lib.hid hb0
      clear c1 hb0
      go_loopg [7] 3 (fun k v w' => ∃ (i : Nat) (y : Later W0), i + k = 3 ∧ v = .int .i64 i ∧ w' = y.W ∧ ∀ i', i' < i → ∀ j, j < 3 → cellB p n m i' j = true)
      case atStart => exact ⟨0, x2, by omega, rfl, rfl, fun i' h => by omega⟩
      case round =>
        obtain ⟨i, y, hik, rfl, rfl, hok⟩ := hrel
        have HIK := Lib.hid hik
        have HOK := Lib.hid hok
        clear hik hok
        by_cases hi : i < 3
        · have hi1 : (i : Int) < 3 := by omega
          have hin : ((i : Int)).toNat = i := by omega
          go_wp2
          go_loopg [8] 3 (fun k v w' => ∃ (j : Nat) (y2 : Later W0), j + k = 3 ∧ v = .int .i64 j ∧ w' = y2.W ∧ ∀ j', j' < j → cellB p n m i j' = true)
          case atStart => exact ⟨0, y, by omega, rfl, rfl, fun j' h => by omega⟩
          case round =>
            obtain ⟨j, y2, hjk, rfl, rfl, hok2⟩ := hrel
            have HJK := Lib.hid hjk
            have HOK2 := Lib.hid hok2
            clear hjk hok2
            by_cases hj : j < 3
            · have hj1 : (j : Int) < 3 := by omega
              have hjn : ((j : Int)).toNat = j := by omega
              have q := y2.keep (C1.out i j hi hj)
              have hxb := num_bd m i j
              have hbw := HB0.out
              have hbs := hbw.size
              by_cases h1 : p ≤ m.num i j
              · have HB := Lib.hid (matB_3 hi hj (cellB_false1 (n := n) h1))
                generalize m.num i j = x at *
                go_wp2
                rw [HB.out]
                exact bodyPost_ret (v := .bool false) (by simp [results, Try.results59, go_sem]) rfl (.mk rfl bq1)
              · by_cases h4 : m.num i j = 0
                · have HT := Lib.hid (cellB_true1 (n := n) h1 h4)
                  rw [h4] at q h1
                  by_cases h2 : (n : Int) ≤ i
                  · go_wp2
                    go_roundg (gk - 1)
                    case measure => have := HJK.out; omega
                    case rel =>
                      refine ⟨j + 1, y2, by have := HJK.out; omega, by go_num, rfl, fun j' hj' => ?_⟩
                      by_cases h : j' = j
                      · rw [h]; exact HT.out
                      · exact HOK2.out j' (by omega)
                  · by_cases h3 : (n : Int) ≤ j
                    · go_wp2
                      go_roundg (gk - 1)
                      case measure => have := HJK.out; omega
                      case rel =>
                        refine ⟨j + 1, y2, by have := HJK.out; omega, by go_num, rfl, fun j' hj' => ?_⟩
                        by_cases h : j' = j
                        · rw [h]; exact HT.out
                        · exact HOK2.out j' (by omega)
                    · go_wp2
                      go_roundg (gk - 1)
                      case measure => have := HJK.out; omega
                      case rel =>
                        refine ⟨j + 1, y2, by have := HJK.out; omega, by go_num, rfl, fun j' hj' => ?_⟩
                        by_cases h : j' = j
                        · rw [h]; exact HT.out
                        · exact HOK2.out j' (by omega)
                · by_cases h2 : (n : Int) ≤ i
                  · have HB := Lib.hid (matB_3 hi hj (cellB_false2 (p := p) (.inl h2) h4))
                    generalize m.num i j = x at *
                    go_wp2
                    rw [HB.out]
                    exact bodyPost_ret (v := .bool false) (by simp [results, Try.results59, go_sem]) rfl (.mk rfl bq1)
                  · by_cases h3 : (n : Int) ≤ j
                    · have HB := Lib.hid (matB_3 hi hj (cellB_false2 (p := p) (.inr h3) h4))
                      generalize m.num i j = x at *
                      go_wp2
                      rw [HB.out]
                      exact bodyPost_ret (v := .bool false) (by simp [results, Try.results59, go_sem]) rfl (.mk rfl bq1)
                    · have HT := Lib.hid (cellB_true2 h1 h2 h3)
                      generalize m.num i j = x at *
                      go_wp2
                      go_roundg (gk - 1)
                      case measure => have := HJK.out; omega
                      case rel =>
                        refine ⟨j + 1, y2, by have := HJK.out; omega, by go_num, rfl, fun j' hj' => ?_⟩
                        by_cases h : j' = j
                        · rw [h]; exact HT.out
                        · exact HOK2.out j' (by omega)
            · have hje : j = 3 := by have := HJK.out; omega
              subst hje
              go_wp2
              go_roundg (2 - i)
              case measure => have := HIK.out; omega
              case rel =>
                refine ⟨i + 1, y2, by have := HIK.out; omega, by go_num, rfl, fun i' hi' => ?_⟩
                by_cases h : i' = i
                · rw [h]; exact HOK2.out
                · exact HOK.out i' (by omega)
        · have hie : i = 3 := by have := HIK.out; omega
          subst hie
          have hcs := cellsB_of HOK.out
          have hle := cellsB_le HOK.out
          obtain ⟨nn, rfl⟩ := Int.eq_ofNat_of_zero_le (show 0 ≤ n by omega)
          have hr := matB_4 hp hn hcs
          have hdc := fun W => l02Inverse_c p nn m W hpz (by omega) (by omega) hle
          generalize detZ nn m.num % p = dd at *
          have HR := Lib.hid hr
          clear hr hcs hle
          have q0 : y.W.cell? ⟨w.heap.size, 0, none⟩ = some (.int .u8 (m.r0.a.toNat : Int)) := y.keep (C1.out 0 0 (by omega) (by omega))
          have q1 : y.W.cell? ⟨w.heap.size, 1, none⟩ = some (.int .u8 (m.r0.b.toNat : Int)) := y.keep (C1.out 0 1 (by omega) (by omega))
          have q2 : y.W.cell? ⟨w.heap.size, 2, none⟩ = some (.int .u8 (m.r0.c.toNat : Int)) := y.keep (C1.out 0 2 (by omega) (by omega))
          have q3 : y.W.cell? ⟨w.heap.size, 3, none⟩ = some (.int .u8 (m.r1.a.toNat : Int)) := y.keep (C1.out 1 0 (by omega) (by omega))
          have q4 : y.W.cell? ⟨w.heap.size, 4, none⟩ = some (.int .u8 (m.r1.b.toNat : Int)) := y.keep (C1.out 1 1 (by omega) (by omega))
          have q5 : y.W.cell? ⟨w.heap.size, 5, none⟩ = some (.int .u8 (m.r1.c.toNat : Int)) := y.keep (C1.out 1 2 (by omega) (by omega))
          have q6 : y.W.cell? ⟨w.heap.size, 6, none⟩ = some (.int .u8 (m.r2.a.toNat : Int)) := y.keep (C1.out 2 0 (by omega) (by omega))
          have q7 : y.W.cell? ⟨w.heap.size, 7, none⟩ = some (.int .u8 (m.r2.b.toNat : Int)) := y.keep (C1.out 2 1 (by omega) (by omega))
          have q8 : y.W.cell? ⟨w.heap.size, 8, none⟩ = some (.int .u8 (m.r2.c.toNat : Int)) := y.keep (C1.out 2 2 (by omega) (by omega))
          have hbw := HB0.out
          have hbs := hbw.size
          have hzy : w.heap.size < y.W.heap.size := World.block_lt_of_cell? _ _ q0
          go_wp2_with ((go_at_call 68; (with_reducible refine call_inv2 (hdc _) ?_); intro x9 mi _; have hx9 := x9.ok.size))
          refine bodyPost_ret (v := .bool (decide (dd ≠ 0))) (by simp [results, Try.results59, go_sem]) rfl (.mk ?_ bq1)
          rw [HR.out]
end Go.Proofs.Ytimjhehagimcaaa
/- The walk of areMatrices; no condition. -/
set_option linter.unusedVariables false
set_option linter.unusedSimpArgs false
namespace Go.Proofs.Ytimjhehagimcaaa
open Go.RowKit Go.Proofs.YtimjhehagimcaaaW.PrintWords
attribute [local go_sem] Later.cell Later.frozen Later.lt Later.lt_add Later.le Later.le_add Later.ne Later.ne' add_at
def zM : M9 := ⟨⟨0, 0, 0⟩, ⟨0, 0, 0⟩, ⟨0, 0, 0⟩⟩
theorem kM_at {w : World} {A : Option Addr} {n : Nat} {ms : List M9} (h : kM.C w A n ms) (i : Nat) (hi : i < n) :
    ∃ b o, A = some ⟨b, o, none⟩ ∧ w.cell? ⟨b, o + i * 9, none⟩ = some (.int .u8 ((ms.getD i zM).r0.a.toNat : Int)) ∧ w.cell? ⟨b, o + i * 9 + 1, none⟩ = some (.int .u8 ((ms.getD i zM).r0.b.toNat : Int)) ∧ w.cell? ⟨b, o + i * 9 + 2, none⟩ = some (.int .u8 ((ms.getD i zM).r0.c.toNat : Int)) ∧
      w.cell? ⟨b, o + i * 9 + 3, none⟩ = some (.int .u8 ((ms.getD i zM).r1.a.toNat : Int)) ∧ w.cell? ⟨b, o + i * 9 + 4, none⟩ = some (.int .u8 ((ms.getD i zM).r1.b.toNat : Int)) ∧ w.cell? ⟨b, o + i * 9 + 5, none⟩ = some (.int .u8 ((ms.getD i zM).r1.c.toNat : Int)) ∧
      w.cell? ⟨b, o + i * 9 + 6, none⟩ = some (.int .u8 ((ms.getD i zM).r2.a.toNat : Int)) ∧ w.cell? ⟨b, o + i * 9 + 7, none⟩ = some (.int .u8 ((ms.getD i zM).r2.b.toNat : Int)) ∧ w.cell? ⟨b, o + i * 9 + 8, none⟩ = some (.int .u8 ((ms.getD i zM).r2.c.toNat : Int)) := by
  obtain ⟨b, o, c, hA, hK, hc⟩ := C_at h (by decide) i hi zM
  have hK' : c = M9.cs (ms.getD i zM) := hK
  subst hK'
  exact ⟨b, o, hA, hc 0 _ rfl, hc 1 _ rfl, hc 2 _ rfl, hc 3 _ rfl, hc 4 _ rfl, hc 5 _ rfl, hc 6 _ rfl, hc 7 _ rfl, hc 8 _ rfl⟩
def areB (p n : Int) (ms : List M9) : Bool := ms.all (matB p n) && primeB p && inB n 1 3
theorem areB_no {p n : Int} {ms : List M9} {i : Nat} (hi : i < ms.length) (h : matB p n (ms.getD i zM) = false) : areB p n ms = false := by
  have : ms.all (matB p n) = false := by
    rw [← Bool.not_eq_true, List.all_eq_true]
    intro hc
    have := hc _ (getD_mem zM hi)
    rw [h] at this
    exact absurd this (by decide)
  simp [areB, this]
theorem areB_yes {p n : Int} {ms : List M9} (h : ∀ i, i < ms.length → matB p n (ms.getD i zM) = true) : areB p n ms = (primeB p && inB n 1 3) := by
  have : ms.all (matB p n) = true := by
    rw [List.all_eq_true]
    intro x hx
    obtain ⟨i, hi, rfl⟩ := List.getElem_of_mem hx
    have := h i hi
    rwa [List.getD_eq_getElem?_getD, List.getElem?_eq_getElem hi] at this
  simp [areB, this]
set_option maxRecDepth 100000 in
set_option maxHeartbeats 1000000 in
theorem areMatrices_c (p n : Int) (A : Option Addr) (c : Nat) (ms : List M9) (w : World) (hC : kM.C w A ms.length ms) (hn : ms.length ≤ 9223372036854775807) :
    Calls Try.prog 62 #[.int .i64 p, .int .i64 n, .slice A ms.length c] w (Gives (.bool (areB p n ms)) w) := by
  go_enter Try.func62, Try.ntmps62
  go_wp2
  go_loopg [11] ms.length (fun k v w' => ∃ (i : Nat) (y : Later w), i + k = ms.length ∧ v = .int .i64 i ∧ w' = y.W ∧ ∀ j, j < i → matB p n (ms.getD j zM) = true)
  case atStart => exact ⟨0, ⟨w, Below.refl _ _⟩, by omega, rfl, rfl, fun j hj => by omega⟩
  case round =>
    obtain ⟨i, y, hik, rfl, rfl, hs⟩ := hrel
    have HIK := Lib.hid hik
    have HS := Lib.hid hs
    clear hik hs
    by_cases hlt : i < ms.length
    · obtain ⟨b, o, hA, q0, q1, q2, q3, q4, q5, q6, q7, q8⟩ := kM_at hC i hlt
      subst hA
      have q0 := y.keep q0
      have q1 := y.keep q1
      have q2 := y.keep q2
      have q3 := y.keep q3
      have q4 := y.keep q4
      have q5 := y.keep q5
      have q6 := y.keep q6
      have q7 := y.keep q7
      have q8 := y.keep q8
      have hi0 : (0 : Int) ≤ i := by omega
      have hi1 : (i : Int) < ms.length := by omega
      have hin : ((i : Int)).toNat = i := by omega
      generalize hm : ms.getD i zM = m at *
      have HM := Lib.hid hm
      clear hm
      cases hb : matB p n m with
      | false =>
        go_wp2_with ((go_at_call 24; (first | (with_reducible refine call_later2 (hb ▸ implIsMatrix_c p n m _) ?_) | (with_reducible refine call_later (hb ▸ implIsMatrix_c p n m _) ?_)); intro x2))
        have e := areB_no (p := p) (n := n) hlt (by rw [HM.out]; exact hb)
        rw [e]
        have hx2 := x2.ok
        have hxs := x2.ok.size
        exact bodyPost_ret (v := .bool false) (by simp [results, Try.results62, go_sem]) rfl (.mk rfl bq1)
      | true =>
        go_wp2_with ((go_at_call 24; (first | (with_reducible refine call_later2 (hb ▸ implIsMatrix_c p n m _) ?_) | (with_reducible refine call_later (hb ▸ implIsMatrix_c p n m _) ?_)); intro x2))
        go_roundg (gk - 1)
        case measure => have := HIK.out; omega
        case rel =>
          refine ⟨i + 1, ⟨x2.W, bq1⟩, by have := HIK.out; omega, by go_num, rfl, fun j hj => ?_⟩
          by_cases h : j = i
          · rw [h, HM.out]; exact hb
          · exact HS.out j (by omega)
    · have hie : i = ms.length := by have := HIK.out; omega
      have e : areB p n ms = (primeB p && inB n 1 3) := areB_yes fun j hj => HS.out j (by omega)
      subst hie
      cases hp : primeB p with
      | false =>
        have e' : areB p n ms = false := by rw [e, hp]; rfl
        go_wp2_with ((go_at_call 47; (first | (with_reducible refine call_later2 (hp ▸ isPrime_c p _) ?_) | (with_reducible refine call_later (hp ▸ isPrime_c p _) ?_)); intro x2))
        rw [e']
        exact bodyPost_ret (v := .bool false) (by simp [results, Try.results62, go_sem]) rfl (.mk rfl bq1)
      | true =>
        have e' : areB p n ms = inB n 1 3 := by rw [e, hp]; rfl
        go_wp2_with (first | (go_at_call 47; (first | (with_reducible refine call_later2 (hp ▸ isPrime_c p _) ?_) | (with_reducible refine call_later (hp ▸ isPrime_c p _) ?_)); intro x2) | (go_at_call 65; (first | (with_reducible refine call_later2 (isVars_c n _) ?_) | (with_reducible refine call_later (isVars_c n _) ?_)); intro x3))
        rw [e']
        exact bodyPost_ret (v := .bool (inB n 1 3)) (by simp [results, Try.results62, go_sem]) rfl (.mk rfl bq1)
end Go.Proofs.Ytimjhehagimcaaa
/- The walks of DeterminantOf of both sides; no condition. -/
set_option linter.unusedVariables false
set_option linter.unusedSimpArgs false
namespace Go.Proofs.Ytimjhehagimcaaa
open Go.RowKit Go.Proofs.YtimjhehagimcaaaW.PrintWords
attribute [local go_sem] Later.cell Later.frozen Later.lt Later.lt_add Later.le Later.le_add Later.ne Later.ne' add_at
theorem matB_of {p n : Int} {m : M9} (h : matB p n m = true) : primeB p = true ∧ inB n 1 3 = true ∧ (∀ i, i < 3 → ∀ j, j < 3 → cellB p n m i j = true) ∧ detZ n.toNat m.num % p ≠ 0 := by
  unfold matB at h
  simp only [Bool.and_eq_true] at h
  obtain ⟨⟨⟨h1, h2⟩, h3⟩, h4⟩ := h
  exact ⟨h1, h2, (cellsB_iff p n m).1 h3, of_decide_eq_true h4⟩
end Go.Proofs.Ytimjhehagimcaaa
/- The walks of MultiplyMatrices of both sides; no condition. -/
set_option linter.unusedVariables false
set_option linter.unusedSimpArgs false
namespace Go.Proofs.Ytimjhehagimcaaa
open Go.RowKit Go.Proofs.YtimjhehagimcaaaW.PrintWords
attribute [local go_sem] Later.cell Later.frozen Later.lt Later.lt_add Later.le Later.le_add Later.ne Later.ne' add_at
theorem matB_le {p n : Int} {m : M9} (h : matB p n m = true) : m.le p ∧ 2 ≤ p ∧ p ≤ 13 ∧ 1 ≤ n ∧ n ≤ 3 := by
  obtain ⟨h1, h2, h3, _⟩ := matB_of h
  have := (primeZ_of h1).two
  have := inB_of h2
  exact ⟨cellsB_le h3, by omega, by omega, by omega, by omega⟩
theorem l02Times_g {p n : Int} {g h : M9} (hg : matB p n g = true) (hh : matB p n h = true) (w : World) : Calls Try.prog 64 #[.int .i64 p, .int .i64 n, .agg #[.int .u8 (g.r0.a.toNat : Int), .int .u8 (g.r0.b.toNat : Int), .int .u8 (g.r0.c.toNat : Int), .int .u8 (g.r1.a.toNat : Int), .int .u8 (g.r1.b.toNat : Int), .int .u8 (g.r1.c.toNat : Int), .int .u8 (g.r2.a.toNat : Int), .int .u8 (g.r2.b.toNat : Int), .int .u8 (g.r2.c.toNat : Int)], .agg #[.int .u8 (h.r0.a.toNat : Int), .int .u8 (h.r0.b.toNat : Int), .int .u8 (h.r0.c.toNat : Int), .int .u8 (h.r1.a.toNat : Int), .int .u8 (h.r1.b.toNat : Int), .int .u8 (h.r1.c.toNat : Int), .int .u8 (h.r2.a.toNat : Int), .int .u8 (h.r2.b.toNat : Int), .int .u8 (h.r2.c.toNat : Int)]] w (Gives (.agg #[.int .u8 ((timesM p n.toNat g h).r0.a.toNat : Int), .int .u8 ((timesM p n.toNat g h).r0.b.toNat : Int), .int .u8 ((timesM p n.toNat g h).r0.c.toNat : Int), .int .u8 ((timesM p n.toNat g h).r1.a.toNat : Int), .int .u8 ((timesM p n.toNat g h).r1.b.toNat : Int), .int .u8 ((timesM p n.toNat g h).r1.c.toNat : Int), .int .u8 ((timesM p n.toNat g h).r2.a.toNat : Int), .int .u8 ((timesM p n.toNat g h).r2.b.toNat : Int), .int .u8 ((timesM p n.toNat g h).r2.c.toNat : Int)]) w) := by
  obtain ⟨h1, h2, h3, h4, h5⟩ := matB_le hg
  obtain ⟨k1, _⟩ := matB_le hh
  have := l02Times_c p n.toNat g h w h2 h3 (by omega) (by omega) h1 k1
  rwa [Int.toNat_of_nonneg (by omega)] at this
theorem times_g {p n : Int} {g h : M9} (hg : matB p n g = true) (hh : matB p n h = true) (w : World) : Calls Try.prog 63 #[.int .i64 p, .int .i64 n, .agg #[.int .u8 (g.r0.a.toNat : Int), .int .u8 (g.r0.b.toNat : Int), .int .u8 (g.r0.c.toNat : Int), .int .u8 (g.r1.a.toNat : Int), .int .u8 (g.r1.b.toNat : Int), .int .u8 (g.r1.c.toNat : Int), .int .u8 (g.r2.a.toNat : Int), .int .u8 (g.r2.b.toNat : Int), .int .u8 (g.r2.c.toNat : Int)], .agg #[.int .u8 (h.r0.a.toNat : Int), .int .u8 (h.r0.b.toNat : Int), .int .u8 (h.r0.c.toNat : Int), .int .u8 (h.r1.a.toNat : Int), .int .u8 (h.r1.b.toNat : Int), .int .u8 (h.r1.c.toNat : Int), .int .u8 (h.r2.a.toNat : Int), .int .u8 (h.r2.b.toNat : Int), .int .u8 (h.r2.c.toNat : Int)]] w (Gives (.agg #[.int .u8 ((timesM p n.toNat g h).r0.a.toNat : Int), .int .u8 ((timesM p n.toNat g h).r0.b.toNat : Int), .int .u8 ((timesM p n.toNat g h).r0.c.toNat : Int), .int .u8 ((timesM p n.toNat g h).r1.a.toNat : Int), .int .u8 ((timesM p n.toNat g h).r1.b.toNat : Int), .int .u8 ((timesM p n.toNat g h).r1.c.toNat : Int), .int .u8 ((timesM p n.toNat g h).r2.a.toNat : Int), .int .u8 ((timesM p n.toNat g h).r2.b.toNat : Int), .int .u8 ((timesM p n.toNat g h).r2.c.toNat : Int)]) w) := by
  obtain ⟨h1, h2, h3, h4, h5⟩ := matB_le hg
  obtain ⟨k1, _⟩ := matB_le hh
  have := times_c p n.toNat g h w h2 h3 (by omega) (by omega) h1 k1
  rwa [Int.toNat_of_nonneg (by omega)] at this
end Go.Proofs.Ytimjhehagimcaaa
/- The walks of OrderOfMatrix of both sides; no condition. -/
set_option linter.unusedVariables false
set_option linter.unusedSimpArgs false
namespace Go.Proofs.Ytimjhehagimcaaa
open Go.RowKit Go.Proofs.YtimjhehagimcaaaW.PrintWords
attribute [local go_sem] Later.cell Later.frozen Later.lt Later.lt_add Later.le Later.le_add Later.ne Later.ne' add_at
attribute [local go_sem 2000] run_eqM guardM
/-- Nine cells hold a matrix. -/
def Nine (w : World) (b : Nat) (m : M9) : Prop :=
  w.cell? ⟨b, 0, none⟩ = some (.int .u8 (m.r0.a.toNat : Int)) ∧ w.cell? ⟨b, 1, none⟩ = some (.int .u8 (m.r0.b.toNat : Int)) ∧ w.cell? ⟨b, 2, none⟩ = some (.int .u8 (m.r0.c.toNat : Int)) ∧
  w.cell? ⟨b, 3, none⟩ = some (.int .u8 (m.r1.a.toNat : Int)) ∧ w.cell? ⟨b, 4, none⟩ = some (.int .u8 (m.r1.b.toNat : Int)) ∧ w.cell? ⟨b, 5, none⟩ = some (.int .u8 (m.r1.c.toNat : Int)) ∧
  w.cell? ⟨b, 6, none⟩ = some (.int .u8 (m.r2.a.toNat : Int)) ∧ w.cell? ⟨b, 7, none⟩ = some (.int .u8 (m.r2.b.toNat : Int)) ∧ w.cell? ⟨b, 8, none⟩ = some (.int .u8 (m.r2.c.toNat : Int)) ∧ ∀ k, w.frozen? ⟨b, k, none⟩ = false
theorem Nine.keep {w w1 : World} {b : Nat} {m : M9} (h : Nine w b m) (hb : Below w.heap.size w w1) : Nine w1 b m := by
  obtain ⟨h0, h1, h2, h3, h4, h5, h6, h7, h8, hf⟩ := h
  have hlt : b < w.heap.size := World.block_lt_of_cell? _ _ h0
  exact ⟨pw_cell_below hb h0, pw_cell_below hb h1, pw_cell_below hb h2, pw_cell_below hb h3, pw_cell_below hb h4, pw_cell_below hb h5, pw_cell_below hb h6, pw_cell_below hb h7, pw_cell_below hb h8, fun k => (hb.frozen (p := ⟨b, k, none⟩) hlt).trans (hf k)⟩
theorem Nine.lt {w : World} {b : Nat} {m : M9} (h : Nine w b m) : b < w.heap.size := World.block_lt_of_cell? _ _ h.1
def put9 (w : World) (b : Nat) (m : M9) : World := ((((((((w.setCell ⟨b, 0, none⟩ (.int .u8 (m.r0.a.toNat : Int))).setCell ⟨b, 1, none⟩ (.int .u8 (m.r0.b.toNat : Int))).setCell ⟨b, 2, none⟩ (.int .u8 (m.r0.c.toNat : Int))).setCell ⟨b, 3, none⟩ (.int .u8 (m.r1.a.toNat : Int))).setCell ⟨b, 4, none⟩ (.int .u8 (m.r1.b.toNat : Int))).setCell ⟨b, 5, none⟩ (.int .u8 (m.r1.c.toNat : Int))).setCell ⟨b, 6, none⟩ (.int .u8 (m.r2.a.toNat : Int))).setCell ⟨b, 7, none⟩ (.int .u8 (m.r2.b.toNat : Int))).setCell ⟨b, 8, none⟩ (.int .u8 (m.r2.c.toNat : Int))
theorem Nine.put {w : World} {b : Nat} {m : M9} (h : Nine w b m) (m' : M9) : Nine (put9 w b m') b m' := by
  obtain ⟨h0, h1, h2, h3, h4, h5, h6, h7, h8, hf⟩ := h
  unfold put9
  refine ⟨?_, ?_, ?_, ?_, ?_, ?_, ?_, ?_, ?_, fun k => by simp [hf]⟩
  all_goals simp [go_sem, h0, h1, h2, h3, h4, h5, h6, h7, h8]
theorem Nine.far {w : World} {b b' : Nat} {m : M9} (h : Nine w b m) (hne : b ≠ b') (m' : M9) : Nine (put9 w b' m') b m := by
  obtain ⟨h0, h1, h2, h3, h4, h5, h6, h7, h8, hf⟩ := h
  unfold put9
  refine ⟨?_, ?_, ?_, ?_, ?_, ?_, ?_, ?_, ?_, fun k => by simp [hf]⟩
  all_goals simp [go_sem, h0, h1, h2, h3, h4, h5, h6, h7, h8, hne]
theorem nine_alloc (w : World) (m : M9) (t : TypeId) : Nine (w.alloc (.cells #[.int .u8 (m.r0.a.toNat : Int), .int .u8 (m.r0.b.toNat : Int), .int .u8 (m.r0.c.toNat : Int), .int .u8 (m.r1.a.toNat : Int), .int .u8 (m.r1.b.toNat : Int), .int .u8 (m.r1.c.toNat : Int), .int .u8 (m.r2.a.toNat : Int), .int .u8 (m.r2.b.toNat : Int), .int .u8 (m.r2.c.toNat : Int)] t)) w.heap.size m := by
  refine ⟨?_, ?_, ?_, ?_, ?_, ?_, ?_, ?_, ?_, fun k => ?_⟩
  all_goals simp [go_sem]
end Go.Proofs.Ytimjhehagimcaaa
