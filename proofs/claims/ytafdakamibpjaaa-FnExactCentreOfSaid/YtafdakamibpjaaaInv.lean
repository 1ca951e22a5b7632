/- The walk of the reference's inverse of a matrix; no condition. -/
import Derived.Test.YtafdakamibpjaaaEch5
import Derived.Test.YtafdakamibpjaaaTimes3
set_option linter.unusedVariables false
set_option linter.unusedSimpArgs false
namespace Go.Proofs.Ytafdakamibpjaaa
open Go.RowKit Go.Proofs.YtafdakamibpjaaaW.PrintWords
attribute [local go_sem] Later.cell Later.frozen Later.lt Later.lt_add Later.le Later.le_add Later.ne Later.ne' add_at


def M9.num (m : M9) (i j : Nat) : Int := ((m.at i j).toNat : Int)
theorem num_ok {m : M9} {p : Int} (h : m.le p) (i j : Nat) : 0 ≤ m.num i j ∧ m.num i j < p := ⟨by unfold M9.num; omega, at_le h i j⟩
def fillRow (n : Nat) (A : Nat → Nat → Int) (i j : Nat) : List Int := (List.range (2 * n)).map fun t => if t < j then A i t else 0
theorem fillRow_len (n : Nat) (A : Nat → Nat → Int) (i j : Nat) : (fillRow n A i j).length = 2 * n := by simp [fillRow]
theorem fillRow_zero (n : Nat) (A : Nat → Nat → Int) (i : Nat) : List.replicate (2 * n) 0 = fillRow n A i 0 := by
  refine List.ext_getElem (by simp [fillRow]) fun k h1 h2 => ?_
  simp [fillRow]
theorem fillRow_step (n : Nat) (A : Nat → Nat → Int) (i j : Nat) (hj : j < n) : (fillRow n A i j).set j (A i j) = fillRow n A i (j + 1) := by
  refine List.ext_getElem (by simp [fillRow]) fun k h1 h2 => ?_
  rw [List.getElem_set]
  split
  · rename_i h
    subst h
    simp [fillRow]
  · rename_i h
    simp only [fillRow, List.getElem_map, List.getElem_range]
    have : k < j ↔ k < j + 1 := by omega
    simp only [this]
theorem fillRow_one (n : Nat) (A : Nat → Nat → Int) (i : Nat) (hi : i < n) : (fillRow n A i n).set (n + i) 1 = augRow n A i := by
  refine List.ext_getElem (by simp [fillRow, augRow]) fun k h1 h2 => ?_
  rw [List.getElem_set]
  split
  · rename_i h
    subst h
    simp [augRow]
    intro h3
    omega
  · rename_i h
    simp only [fillRow, augRow, List.getElem_map, List.getElem_range]
    have : ¬ k = n + i := fun h' => h h'.symm
    simp [this]
theorem echelon_g {p : Int} {L : Nat} (hp : primeZ p) (hL : L ≤ 100000) {rows : List (List Int)} (hn : rows.length ≤ 100000) (hr : ∀ r ∈ rows, RowOk p L r) {A : Option Addr} {m c : Nat} {w : World} (hC : kL.C w A m rows) (hc : m ≤ c) :
    Calls Try.prog 94 #[.int .i64 p, .slice A m c] w (Makes kL 75 (echL p rows) w) := by
  obtain rfl := Kd.C_len hC
  exact l01Echelon_c hp hL hn hr A c w hC hc
theorem augRows_len (n : Nat) (A : Nat → Nat → Int) (i : Nat) : (augRows n A i).length = i := by simp [augRows]
/-- The right half of the reduced rows. -/
def invM (p : Int) (n : Nat) (A : Nat → Nat → Int) : M9 := mkM fun i j => if i < n ∧ j < n then uB (((invRows p n A).getD i []).getD (n + j) 0) else 0
def doneI (p : Int) (n : Nat) (A : Nat → Nat → Int) (i j i' j' : Nat) : UInt8 := if j' < n ∧ (i' < i ∨ (i' = i ∧ j' < j)) then uB (((invRows p n A).getD i' []).getD (n + j') 0) else 0
theorem doneI_end (p : Int) (n : Nat) (A : Nat → Nat → Int) : mkM (doneI p n A n 0) = invM p n A := by
  unfold invM
  congr 1
  funext i j
  unfold doneI
  by_cases h : i < n ∧ j < n
  · rw [if_pos ⟨h.2, .inl h.1⟩, if_pos h]
  · rw [if_neg (by omega), if_neg h]

set_option maxRecDepth 100000 in
set_option maxHeartbeats 4000000 in
theorem l02Inverse_c (p : Int) (n : Nat) (g : M9) (w : World) (hp : primeZ p) (hn1 : 1 ≤ n) (hn3 : n ≤ 3) (hg : g.le p) :
    Calls Try.prog 88 #[.int .i64 p, .int .i64 n, .agg #[.int .u8 (g.r0.a.toNat : Int), .int .u8 (g.r0.b.toNat : Int), .int .u8 (g.r0.c.toNat : Int), .int .u8 (g.r1.a.toNat : Int), .int .u8 (g.r1.b.toNat : Int), .int .u8 (g.r1.c.toNat : Int), .int .u8 (g.r2.a.toNat : Int), .int .u8 (g.r2.b.toNat : Int), .int .u8 (g.r2.c.toNat : Int)]] w (fun e w' => ∃ m : M9, e = .returned (.tuple #[.agg #[.int .u8 (m.r0.a.toNat : Int), .int .u8 (m.r0.b.toNat : Int), .int .u8 (m.r0.c.toNat : Int), .int .u8 (m.r1.a.toNat : Int), .int .u8 (m.r1.b.toNat : Int), .int .u8 (m.r1.c.toNat : Int), .int .u8 (m.r2.a.toNat : Int), .int .u8 (m.r2.b.toNat : Int), .int .u8 (m.r2.c.toNat : Int)], .bool (decide (detZ n g.num % p ≠ 0))]) ∧ (detZ n g.num % p ≠ 0 → m = invM p n g.num) ∧ Below w.heap.size w w') := by
  obtain ⟨hp2, hp13⟩ := hp.two
  have hA := num_ok hg
  have hnc : n = 1 ∨ n = 2 ∨ n = 3 := by omega
  have HG := Lib.hid hg
  clear hg
  go_enter Try.func88, Try.ntmps88
  go_wp2
  have c1 : ∀ i j, i < 3 → j < 3 → ((w.alloc (.cells #[.int .u8 (g.r0.a.toNat : Int), .int .u8 (g.r0.b.toNat : Int), .int .u8 (g.r0.c.toNat : Int), .int .u8 (g.r1.a.toNat : Int), .int .u8 (g.r1.b.toNat : Int), .int .u8 (g.r1.c.toNat : Int), .int .u8 (g.r2.a.toNat : Int), .int .u8 (g.r2.b.toNat : Int), .int .u8 (g.r2.c.toNat : Int)] 25)).alloc (.cells #[.int .u8 0, .int .u8 0, .int .u8 0, .int .u8 0, .int .u8 0, .int .u8 0, .int .u8 0, .int .u8 0, .int .u8 0] 25)).cell? ⟨w.heap.size, i * 3 + j, none⟩ = some (.int .u8 (g.num i j)) := fun i j hi hj => cell_alloc (box_at w g _ i j hi hj) _
  have r1 : ∀ k, k < 9 → ((w.alloc (.cells #[.int .u8 (g.r0.a.toNat : Int), .int .u8 (g.r0.b.toNat : Int), .int .u8 (g.r0.c.toNat : Int), .int .u8 (g.r1.a.toNat : Int), .int .u8 (g.r1.b.toNat : Int), .int .u8 (g.r1.c.toNat : Int), .int .u8 (g.r2.a.toNat : Int), .int .u8 (g.r2.b.toNat : Int), .int .u8 (g.r2.c.toNat : Int)] 25)).alloc (.cells #[.int .u8 0, .int .u8 0, .int .u8 0, .int .u8 0, .int .u8 0, .int .u8 0, .int .u8 0, .int .u8 0, .int .u8 0] 25)).cell? ⟨w.heap.size + 1, k, none⟩ = some (.int .u8 0) := fun k hk => by
    have h2 := z_at (w.alloc (.cells #[.int .u8 (g.r0.a.toNat : Int), .int .u8 (g.r0.b.toNat : Int), .int .u8 (g.r0.c.toNat : Int), .int .u8 (g.r1.a.toNat : Int), .int .u8 (g.r1.b.toNat : Int), .int .u8 (g.r1.c.toNat : Int), .int .u8 (g.r2.a.toNat : Int), .int .u8 (g.r2.b.toNat : Int), .int .u8 (g.r2.c.toNat : Int)] 25)) 25 (k / 3) (k % 3) (by omega) (by omega)
    rw [show (w.alloc (.cells #[.int .u8 (g.r0.a.toNat : Int), .int .u8 (g.r0.b.toNat : Int), .int .u8 (g.r0.c.toNat : Int), .int .u8 (g.r1.a.toNat : Int), .int .u8 (g.r1.b.toNat : Int), .int .u8 (g.r1.c.toNat : Int), .int .u8 (g.r2.a.toNat : Int), .int .u8 (g.r2.b.toNat : Int), .int .u8 (g.r2.c.toNat : Int)] 25)).heap.size = w.heap.size + 1 by simp, show k / 3 * 3 + k % 3 = k by omega] at h2
    exact h2
  have rf : ∀ k, ((w.alloc (.cells #[.int .u8 (g.r0.a.toNat : Int), .int .u8 (g.r0.b.toNat : Int), .int .u8 (g.r0.c.toNat : Int), .int .u8 (g.r1.a.toNat : Int), .int .u8 (g.r1.b.toNat : Int), .int .u8 (g.r1.c.toNat : Int), .int .u8 (g.r2.a.toNat : Int), .int .u8 (g.r2.b.toNat : Int), .int .u8 (g.r2.c.toNat : Int)] 25)).alloc (.cells #[.int .u8 0, .int .u8 0, .int .u8 0, .int .u8 0, .int .u8 0, .int .u8 0, .int .u8 0, .int .u8 0, .int .u8 0] 25)).frozen? ⟨w.heap.size + 1, k, none⟩ = false := fun k => by
    have := z_fr (w.alloc (.cells #[.int .u8 (g.r0.a.toNat : Int), .int .u8 (g.r0.b.toNat : Int), .int .u8 (g.r0.c.toNat : Int), .int .u8 (g.r1.a.toNat : Int), .int .u8 (g.r1.b.toNat : Int), .int .u8 (g.r1.c.toNat : Int), .int .u8 (g.r2.a.toNat : Int), .int .u8 (g.r2.b.toNat : Int), .int .u8 (g.r2.c.toNat : Int)] 25)) (.cells #[.int .u8 0, .int .u8 0, .int .u8 0, .int .u8 0, .int .u8 0, .int .u8 0, .int .u8 0, .int .u8 0, .int .u8 0] 25) k _ _ rfl
    rwa [show (w.alloc (.cells #[.int .u8 (g.r0.a.toNat : Int), .int .u8 (g.r0.b.toNat : Int), .int .u8 (g.r0.c.toNat : Int), .int .u8 (g.r1.a.toNat : Int), .int .u8 (g.r1.b.toNat : Int), .int .u8 (g.r1.c.toNat : Int), .int .u8 (g.r2.a.toNat : Int), .int .u8 (g.r2.b.toNat : Int), .int .u8 (g.r2.c.toNat : Int)] 25)).heap.size = w.heap.size + 1 by simp] at this
  have hs0 : ((w.alloc (.cells #[.int .u8 (g.r0.a.toNat : Int), .int .u8 (g.r0.b.toNat : Int), .int .u8 (g.r0.c.toNat : Int), .int .u8 (g.r1.a.toNat : Int), .int .u8 (g.r1.b.toNat : Int), .int .u8 (g.r1.c.toNat : Int), .int .u8 (g.r2.a.toNat : Int), .int .u8 (g.r2.b.toNat : Int), .int .u8 (g.r2.c.toNat : Int)] 25)).alloc (.cells #[.int .u8 0, .int .u8 0, .int .u8 0, .int .u8 0, .int .u8 0, .int .u8 0, .int .u8 0, .int .u8 0, .int .u8 0] 25)).heap.size = w.heap.size + 2 := by simp
  have hb0 : Below w.heap.size w ((w.alloc (.cells #[.int .u8 (g.r0.a.toNat : Int), .int .u8 (g.r0.b.toNat : Int), .int .u8 (g.r0.c.toNat : Int), .int .u8 (g.r1.a.toNat : Int), .int .u8 (g.r1.b.toNat : Int), .int .u8 (g.r1.c.toNat : Int), .int .u8 (g.r2.a.toNat : Int), .int .u8 (g.r2.b.toNat : Int), .int .u8 (g.r2.c.toNat : Int)] 25)).alloc (.cells #[.int .u8 0, .int .u8 0, .int .u8 0, .int .u8 0, .int .u8 0, .int .u8 0, .int .u8 0, .int .u8 0, .int .u8 0] 25)) := (by repeat (first | (with_reducible assumption) | (with_reducible exact Below.refl _ _) | ((with_reducible refine Below.alloc ?_ ?_ _); rotate_left; (focus (first | omega | (simp; done) | (simp; omega) | (simp [Later.le, Later.le_add, Later.lt, Later.lt_add]; done) | (simp [Later.le, Later.le_add, Later.lt, Later.lt_add]; omega)))) | (with_reducible refine Below.drew ?_) | (with_reducible refine pw_below_drewN ?_ _) | ((with_reducible refine Below.setCell ?_ ?_ _); rotate_left; (focus (first | omega | (simp; done) | (simp; omega) | (simp [Later.le, Later.le_add, Later.lt, Later.lt_add]; done) | (simp [Later.le, Later.le_add, Later.lt, Later.lt_add]; omega)))) | ((with_reducible refine below_hop (by assumption) ?_ ?_); rotate_left; (focus (first | omega | (simp; done) | (simp; omega) | (simp [Later.le, Later.le_add, Later.lt, Later.lt_add]; done) | (simp [Later.le, Later.le_add, Later.lt, Later.lt_add]; omega)))) | ((with_reducible refine bel_later _ ?_ ?_); rotate_left; (focus (first | omega | (simp; done) | (simp; omega) | (simp [Later.le, Later.le_add, Later.lt, Later.lt_add]; done) | (simp [Later.le, Later.le_add, Later.lt, Later.lt_add]; omega))))))
  generalize (w.alloc (.cells #[.int .u8 (g.r0.a.toNat : Int), .int .u8 (g.r0.b.toNat : Int), .int .u8 (g.r0.c.toNat : Int), .int .u8 (g.r1.a.toNat : Int), .int .u8 (g.r1.b.toNat : Int), .int .u8 (g.r1.c.toNat : Int), .int .u8 (g.r2.a.toNat : Int), .int .u8 (g.r2.b.toNat : Int), .int .u8 (g.r2.c.toNat : Int)] 25)).alloc (.cells #[.int .u8 0, .int .u8 0, .int .u8 0, .int .u8 0, .int .u8 0, .int .u8 0, .int .u8 0, .int .u8 0, .int .u8 0] 25) = W0 at *
  have hR0 := R_zero kL (heap_alloc_last W0 (.cells #[] 75)) (base := W0.heap.size) (by simp)
  have hB0 : Below W0.heap.size W0 (W0.alloc (.cells #[] 75)) := (by repeat (first | (with_reducible assumption) | (with_reducible exact Below.refl _ _) | ((with_reducible refine Below.alloc ?_ ?_ _); rotate_left; (focus (first | omega | (simp; done) | (simp; omega) | (simp [Later.le, Later.le_add, Later.lt, Later.lt_add]; done) | (simp [Later.le, Later.le_add, Later.lt, Later.lt_add]; omega)))) | (with_reducible refine Below.drew ?_) | (with_reducible refine pw_below_drewN ?_ _) | ((with_reducible refine Below.setCell ?_ ?_ _); rotate_left; (focus (first | omega | (simp; done) | (simp; omega) | (simp [Later.le, Later.le_add, Later.lt, Later.lt_add]; done) | (simp [Later.le, Later.le_add, Later.lt, Later.lt_add]; omega)))) | ((with_reducible refine below_hop (by assumption) ?_ ?_); rotate_left; (focus (first | omega | (simp; done) | (simp; omega) | (simp [Later.le, Later.le_add, Later.lt, Later.lt_add]; done) | (simp [Later.le, Later.le_add, Later.lt, Later.lt_add]; omega)))) | ((with_reducible refine bel_later _ ?_ ?_); rotate_left; (focus (first | omega | (simp; done) | (simp; omega) | (simp [Later.le, Later.le_add, Later.lt, Later.lt_add]; done) | (simp [Later.le, Later.le_add, Later.lt, Later.lt_add]; omega))))))
  have C1 := Lib.hid c1
  have R1 := Lib.hid r1
  have RF := Lib.hid rf
  have HB0 := Lib.hid hb0
  have HS0 := Lib.hid hs0
  clear c1 r1 rf hb0 hs0
  go_loopg [9, 8] n (fun k vi vr w' => ∃ (i : Nat) (y : Later W0), i + k = n ∧ vi = .int .i64 i ∧ w' = y.W ∧ kL.R 75 y.W W0.heap.size (fun _ => True) vr (augRows n g.num i))
  case atStart => exact ⟨0, ⟨_, hB0⟩, by omega, rfl, rfl, by
    have h := hR0
    rw [HS0.out] at h
    show kL.R _ _ W0.heap.size _ _ _
    rw [HS0.out]
    exact h⟩
  case round =>
    clear hR0 hB0
    obtain ⟨i, y, hik, rfl, rfl, hR⟩ := hrel
    have HIK := Lib.hid hik
    clear hik
    by_cases hlt : i < n
    · have hi1 : (i : Int) < n := by omega
      have hi3 : (i : Int) < 3 := by omega
      have hi0 : (0 : Int) ≤ i := by omega
      have hin : ((i : Int)).toNat = i := by omega
      have w2 := i64_small (n := 2 * (n : Int)) (by omega) (by omega)
      go_wp2_with (refine Kd.R_make kI (w0 := y.W) y.W.heap.size 2 rfl (N := 24) rfl 75 (.tmp 23) (.tmp 23) rfl (2 * (n : Int)) rfl rfl Try.underlying75 _ 8 infoI rfl (by decide) (by decide) 0 (ok := fun _ => True) (okp := fun _ => False) rfl (fun _ h => h.elim) trivial (by omega) (by omega) (Below.refl _ _) (Nat.le_refl _) ?_; intro v1 w1 HR hb1 _ _)
      rw [show (2 * (n : Int)).toNat = 2 * n by omega, fillRow_zero n g.num i] at HR
      obtain ⟨gb, cap, hv, hgb, hgs, _⟩ := Kd.R_form HR (by rw [fillRow_len]; omega)
      rw [fillRow_len] at hv
      subst hv
      have hL2 : 2 * n ≤ n + n := by omega
      have hL3 : n + n ≤ 2 * n := by omega
      generalize 2 * n = L at *
      go_loopg [11] n (fun k v w' => ∃ (j : Nat) (z : Later W0), j + k = n ∧ v = .int .i64 j ∧ w' = z.W ∧ Below y.W.heap.size y.W z.W ∧ kI.R 2 z.W y.W.heap.size (fun _ => True) (.slice (some ⟨gb, 0, none⟩) L cap) (fillRow n g.num i j))
      case atStart => exact ⟨0, ⟨w1, y.ok.trans (hb1.mono y.ok.size)⟩, by omega, rfl, rfl, hb1, HR⟩
      case round =>
        clear HR hb1 hgs
        obtain ⟨j, z, hjk, rfl, rfl, hbz, hRz⟩ := hrel
        have HJK := Lib.hid hjk
        clear hjk
        by_cases hj : j < n
        · have q := pw_cell_below hbz (y.keep (C1.out i j (by omega) (by omega)))
          obtain ⟨f0, f1⟩ := kI_cell hRz j (by omega)
          have HST := Lib.hid (fillRow_step n g.num i j hj)
          have hnum := hA i j
          generalize g.num i j = x at *
          generalize (fillRow n g.num i j).getD j 0 = xo at *
          have hj1 : (j : Int) < n := by omega
          have hj3 : (j : Int) < 3 := by omega
          have hjL : (j : Int) < L := by omega
          have hj0 : (0 : Int) ≤ j := by omega
          have hjn : ((j : Int)).toNat = j := by omega
          go_wp2
          go_roundg (gk - 1)
          case measure => have := HJK.out; omega
          case rel =>
            refine ⟨j + 1, ⟨z.W.setCell ⟨gb, j, none⟩ (.int .i64 x), z.ok.setCell (by have := y.ok.size; show W0.heap.size ≤ gb; omega) _⟩, by have := HJK.out; omega, by go_num, rfl, hbz.setCell (show y.W.heap.size ≤ gb from hgb) _, ?_⟩
            rw [← HST.out]
            exact kI_set hRz j _
        · have hje : j = n := by have := HJK.out; omega
          subst hje
          have e4 : ((j : Int) + (i : Int)).toNat = j + i := by omega
          have w3 := i64_small (n := (j : Int) + i) (by omega) (by omega)
          have hjL : (j : Int) + i < L := by omega
          have hj0 : (0 : Int) ≤ (j : Int) + i := by omega
          obtain ⟨f0, f1⟩ := kI_cell hRz (j + i) (by omega)
          have hRs := Kd.R_below hR (hbz.setCell (show y.W.heap.size ≤ gb from hgb) (p := ⟨gb, j + i, none⟩) (.int .i64 1))
          have hRo := Kd.R_lower (kI_set hRz (j + i) 1) y.ok.size
          rw [fillRow_one j g.num i hlt] at hRo
          have hBs := z.ok.setCell (by have := y.ok.size; show W0.heap.size ≤ gb; omega) (p := ⟨gb, j + i, none⟩) (.int .i64 1)
          obtain ⟨Ar, cr, hvr, hlr, hCr⟩ := Kd.R_reads hR
          rw [augRows_len] at hvr
          subst hvr
          generalize (fillRow j g.num i j).getD (j + i) 0 = xo at *
          go_wp2_with (((with_reducible refine gate_ (.call { callee := .builtin .append, args := #[.tmp 44, .tmp 46], argTypes := #[51, 51] }) rfl ?_); have hM := Kd.M_row (num_apart hRs hRo); have hMk := (fun (k : Nat) (hk : some k ≠ (Value.slice Ar i cr).ownBlock) => (⟨trivial, hk⟩ : True ∧ some k ≠ (Value.slice Ar i cr).ownBlock)); refine Kd.R_append kL (w0 := W0) (W := z.W.setCell ⟨gb, j + i, none⟩ (.int .i64 1)) (W0).heap.size rfl (.tmp 44) (.tmp 46) 51 75 (.slice none 0 0) 24 rfl Try.underlying51 infoL rfl (by decide) (by decide) (Value.slice Ar i cr) (augRows j g.num i) (augRow j g.num i) [.slice (some ⟨gb, 0, none⟩) L cap] (fun _ => True) (fun k => some k ≠ (Value.slice Ar i cr).ownBlock) rfl (by first | rfl | (simp [go_sem]; done)) hM hMk (fun _ _ => trivial) hRs hBs (hBs).size (by rw [augRows_len]; omega) ?_; intro v6 w6 hR6 hB6 hg6 _))
          go_roundg (j - i - 1)
          case measure => have := HIK.out; omega
          case rel =>
            refine ⟨i + 1, ⟨w6, hB6⟩, by have := HIK.out; omega, by go_num, rfl, ?_⟩
            rw [augRows_succ]
            exact hR6
    · have hie : i = n := by have := HIK.out; omega
      subst hie
      obtain ⟨Ar, cr, hvr, hlr, hCr⟩ := Kd.R_reads hR
      rw [augRows_len] at hvr hCr hlr
      subst hvr
      have hech := echelon_g hp (L := 2 * i) (by omega) (rows := augRows i g.num i) (by rw [augRows_len]; omega) (fun r hr => by
        obtain ⟨t, ht, rfl⟩ := List.mem_map.1 hr
        exact (augRow_ok hp2 hA t (List.mem_range.1 ht)).ok) hCr hlr
      have hlen := inv_length (n := i) hp hA
      have hredd := inv_red (n := i) hp hA
      have hdet := inv_det hp hnc hA
      have HDE := Lib.hid (doneI_end p i g.num)
      have HDN := Lib.hid (fun i' j' => (rfl : doneI p i g.num 0 0 i' j' = _))
      change Calls _ _ _ _ (Makes kL _ (invRows p i g.num) _) at hech
      go_wp2_with (go_at_call 94; (with_reducible refine call_makes2 hech ?_); intro x A1 c1 hb1 hl1 hR1 hC1)
      rw [hlen] at hl1 hC1
      have R1X := Lib.hid (fun k (hk : k < 9) => x.keep (R1.out k hk))
      have RFX := Lib.hid (fun k => (x.ok.frozen (p := ⟨w.heap.size + 1, k, none⟩) (by show w.heap.size + 1 < _; rw [HS0.out]; omega)).trans (RF.out k))
      have hsx : w.heap.size + 2 ≤ x.W.heap.size := by rw [← HS0.out]; exact x.ok.size
      have HBX := Lib.hid (HB0.out.trans (x.ok.mono HB0.out.size))
      have c3 : ∀ i' j', i' < 3 → j' < 3 → (x.W.alloc (.cells #[.int .u8 0, .int .u8 0, .int .u8 0, .int .u8 0, .int .u8 0, .int .u8 0, .int .u8 0, .int .u8 0, .int .u8 0] 25)).cell? ⟨x.W.heap.size, i' * 3 + j', none⟩ = some (.int .u8 0) := fun i' j' hi hj => z_at x.W 25 i' j' hi hj
      have c4 : ∀ k, (x.W.alloc (.cells #[.int .u8 0, .int .u8 0, .int .u8 0, .int .u8 0, .int .u8 0, .int .u8 0, .int .u8 0, .int .u8 0, .int .u8 0] 25)).frozen? ⟨x.W.heap.size, k, none⟩ = false := fun k => z_fr x.W (.cells #[.int .u8 0, .int .u8 0, .int .u8 0, .int .u8 0, .int .u8 0, .int .u8 0, .int .u8 0, .int .u8 0, .int .u8 0] 25) k _ _ rfl
      have hb9 : Below x.W.heap.size x.W (x.W.alloc (.cells #[.int .u8 0, .int .u8 0, .int .u8 0, .int .u8 0, .int .u8 0, .int .u8 0, .int .u8 0, .int .u8 0, .int .u8 0] 25)) := (by repeat (first | (with_reducible assumption) | (with_reducible exact Below.refl _ _) | ((with_reducible refine Below.alloc ?_ ?_ _); rotate_left; (focus (first | omega | (simp; done) | (simp; omega) | (simp [Later.le, Later.le_add, Later.lt, Later.lt_add]; done) | (simp [Later.le, Later.le_add, Later.lt, Later.lt_add]; omega)))) | (with_reducible refine Below.drew ?_) | (with_reducible refine pw_below_drewN ?_ _) | ((with_reducible refine Below.setCell ?_ ?_ _); rotate_left; (focus (first | omega | (simp; done) | (simp; omega) | (simp [Later.le, Later.le_add, Later.lt, Later.lt_add]; done) | (simp [Later.le, Later.le_add, Later.lt, Later.lt_add]; omega)))) | ((with_reducible refine below_hop (by assumption) ?_ ?_); rotate_left; (focus (first | omega | (simp; done) | (simp; omega) | (simp [Later.le, Later.le_add, Later.lt, Later.lt_add]; done) | (simp [Later.le, Later.le_add, Later.lt, Later.lt_add]; omega)))) | ((with_reducible refine bel_later _ ?_ ?_); rotate_left; (focus (first | omega | (simp; done) | (simp; omega) | (simp [Later.le, Later.le_add, Later.lt, Later.lt_add]; done) | (simp [Later.le, Later.le_add, Later.lt, Later.lt_add]; omega))))))
      generalize x.W.alloc (.cells #[.int .u8 0, .int .u8 0, .int .u8 0, .int .u8 0, .int .u8 0, .int .u8 0, .int .u8 0, .int .u8 0, .int .u8 0] 25) = W9 at *
      generalize hob : x.W.heap.size = ob at *
      clear hech hR1 hb1 hR hCr hlr
      have HXO := Lib.hid hob
      clear hob
      have C3 := Lib.hid c3
      have C4 := Lib.hid c4
      clear c3 c4
      have hrows := inv_ok (n := i) hp hA
      have HROW := Lib.hid (fun i' (hi : i' < i) => hrows _ (getD_mem [] (show i' < (invRows p i g.num).length by omega)))
      have HLED := Lib.hid (fun i' (hi : i' < i) => hredd.led _ (getD_mem [] (show i' < (invRows p i g.num).length by omega)))
      have HDET := Lib.hid hdet
      clear hdet hrows hredd hlen
      go_loopg [14] i (fun k v w' => ∃ (r : Nat) (y2 : Later x.W), r + k = i ∧ v = .int .i64 r ∧ w' = y2.W ∧ (∀ i', i' < r → leadN ((invRows p i g.num).getD i' []) = i') ∧ (∀ i' j', i' < 3 → j' < 3 → w'.cell? ⟨ob, i' * 3 + j', none⟩ = some (.int .u8 ((doneI p i g.num r 0 i' j').toNat : Int))) ∧ ∀ k, w'.frozen? ⟨ob, k, none⟩ = false)
      case atStart => exact ⟨0, ⟨W9, by rw [HXO.out]; exact hb9⟩, by omega, rfl, rfl, fun i' h => by omega, fun i' j' h1 h2 => by rw [C3.out i' j' h1 h2]; simp [doneI], C4.out⟩
      case round =>
        clear hb9
        obtain ⟨r, y2, hrk, rfl, rfl, hld, hc, hf⟩ := hrel
        have HRK := Lib.hid hrk
        have HC := Lib.hid hc
        have HF := Lib.hid hf
        clear hrk hc hf
        by_cases hr : r < i
        · obtain ⟨b, o, Br, cr2, hA1, qx, hcr2, hCx⟩ := kL_at hC1 r hr
          subst hA1
          have hrow := HROW.out r hr
          have hled := HLED.out r hr
          have q0 := y2.keep qx
          have hCr2 := Kd.C_below hCx y2.ok
          have hlr : leadI ((invRows p i g.num).getD r []) = (leadN ((invRows p i g.num).getD r []) : Int) := by unfold leadI; rw [if_pos (by rw [hrow.ok.len]; exact hled.lt)]
          have hdr := fun (hd : detZ i g.num % p ≠ 0) => HDET.out.2 hd r hr
          generalize hrw : (invRows p i g.num).getD r [] = row at *
          have HRW := Lib.hid hrw
          clear hrw
          have hr0 : (0 : Int) ≤ r := by omega
          have hr1 : (r : Int) < i := by omega
          have hrn : ((r : Int)).toNat = r := by omega
          have hln6 : row.length ≤ 1000000 := by rw [hrow.ok.len]; omega
          by_cases hlead : leadN row = r
          · rw [hlead] at hlr
            go_wp2_with (go_at_call 130; (with_reducible refine call_later3 (lead_g (r : Int) hCr2 hcr2 hln6 hlr) ?_); intro x3 hb3)
            have hobl : ob < y2.W.heap.size := World.block_lt_of_cell? _ _ (HC.out 0 0 (by omega) (by omega))
            have hcc : ∀ i' j', i' < 3 → j' < 3 → x3.W.cell? ⟨ob, i' * 3 + j', none⟩ = some (.int .u8 ((doneI p i g.num r 0 i' j').toNat : Int)) := fun i' j' h1 h2 => pw_cell_below hb3 (HC.out i' j' h1 h2)
            have hff : ∀ k, x3.W.frozen? ⟨ob, k, none⟩ = false := fun k => (hb3.frozen (p := ⟨ob, k, none⟩) hobl).trans (HF.out k)
            have q0 := pw_cell_below hb3 q0
            have hbx3 := x3.ok
            clear HC HF
            go_loopg [15] i (fun k v w' => ∃ (j : Nat) (y3 : Later x.W), j + k = i ∧ v = .int .i64 j ∧ w' = y3.W ∧ (∀ i' j', i' < 3 → j' < 3 → w'.cell? ⟨ob, i' * 3 + j', none⟩ = some (.int .u8 ((doneI p i g.num r j i' j').toNat : Int))) ∧ ∀ k, w'.frozen? ⟨ob, k, none⟩ = false)
            case atStart => exact ⟨0, x3, by omega, rfl, rfl, hcc, hff⟩
            case round =>
              clear hcc hff
              obtain ⟨j, y3, hjk, rfl, rfl, hc3, hf3⟩ := hrel
              have HJK := Lib.hid hjk
              have HC3 := Lib.hid hc3
              have HF3 := Lib.hid hf3
              clear hjk hc3 hf3
              by_cases hj : j < i
              · have qy := y3.keep qx
                obtain ⟨b3, o3, hB, sx⟩ := kI_at hCx (i + j) (by rw [hrow.ok.len]; omega)
                subst hB
                have sy := y3.keep sx
                have hv := hrow.ok.nums (i + j)
                have hvl : (i : Int) + j < row.length := by rw [hrow.ok.len]; omega
                have hvd : doneI p i g.num r (j + 1) r j = uB (row.getD (i + j) 0) := by rw [doneI, if_pos ⟨hj, .inr ⟨rfl, by omega⟩⟩, HRW.out]
                have HVD := Lib.hid hvd
                clear hvd
                generalize row.getD (i + j) 0 = v at *
                have g3 := HC3.out r j (by omega) (by omega)
                have g4 := HF3.out (r * 3 + j)
                have G3 := Lib.hid g3
                generalize ((doneI p i g.num r j r j).toNat : Int) = old at *
                have w3 := i64_small (n := (i : Int) + j) (by omega) (by omega)
                have e3 : ((i : Int) + (j : Int)).toNat = i + j := by omega
                have e1 : ((j : Int)).toNat = j := by omega
                have i1 : (r : Int) < 3 := by omega
                have i3 : (j : Int) < 3 := by omega
                have hj0 : (0 : Int) ≤ (i : Int) + j := by omega
                have hj1 : (j : Int) < i := by omega
                go_wp2
                go_region
                go_wp2
                go_roundg (i - j - 1)
                case measure => have := HJK.out; omega
                case rel =>
                  refine ⟨j + 1, ⟨(y3.W.setCell ⟨ob, r * 3 + j, none⟩ (.int .u8 v)).drew, (y3.ok.setCell (show x.W.heap.size ≤ ob by rw [HXO.out]; exact Nat.le_refl _) _).drew⟩, by have := HJK.out; omega, by go_num, rfl, fun i' j' hi' hj' => ?_, fun k => ?_⟩
                  · show (y3.W.setCell _ _).cell? _ = _
                    by_cases hij : i' = r ∧ j' = j
                    · obtain ⟨rfl, rfl⟩ := hij
                      rw [World.cell?_setCell_same _ _ _ G3.out, HVD.out, uB_nat, Int.emod_eq_of_lt hv.1 (by omega)]
                    · rw [World.cell?_setCell_other _ _ _ _ (by first | (simp; done) | (simp; omega)), HC3.out i' j' hi' hj']
                      have : (j' < i ∧ (i' < r ∨ (i' = r ∧ j' < j))) ↔ (j' < i ∧ (i' < r ∨ (i' = r ∧ j' < j + 1))) := by omega
                      simp only [doneI, this]
                  · show (y3.W.setCell _ _).frozen? _ = _
                    have := HF3.out k
                    simp [this]
              · have hje : j = i := by have := HJK.out; omega
                subst hje
                go_wp2
                go_roundg (j - r - 1)
                case measure => have := HRK.out; omega
                case rel =>
                  refine ⟨r + 1, y3, by have := HRK.out; omega, by go_num, rfl, fun i' hi' => ?_, fun i' j' hi' hj' => ?_, HF3.out⟩
                  · by_cases h : i' = r
                    · subst h
                      rw [HRW.out]
                      exact hlead
                    · exact hld i' (by omega)
                  · rw [HC3.out i' j' hi' hj']
                    have : (j' < j ∧ (i' < r ∨ (i' = r ∧ j' < j))) ↔ (j' < j ∧ (i' < r + 1 ∨ (i' = r + 1 ∧ j' < 0))) := by omega
                    simp only [doneI, this]
          · have hd0 : detZ i g.num % p = 0 := by
              apply Decidable.byContradiction
              intro hd
              exact hlead (hdr hd)
            have o0 : y2.W.cell? ⟨ob, 0, none⟩ = some (.int .u8 ((mkM (doneI p i g.num r 0)).r0.a.toNat : Int)) := HC.out 0 0 (by omega) (by omega)
            have o1 : y2.W.cell? ⟨ob, 1, none⟩ = some (.int .u8 ((mkM (doneI p i g.num r 0)).r0.b.toNat : Int)) := HC.out 0 1 (by omega) (by omega)
            have o2 : y2.W.cell? ⟨ob, 2, none⟩ = some (.int .u8 ((mkM (doneI p i g.num r 0)).r0.c.toNat : Int)) := HC.out 0 2 (by omega) (by omega)
            have o3 : y2.W.cell? ⟨ob, 3, none⟩ = some (.int .u8 ((mkM (doneI p i g.num r 0)).r1.a.toNat : Int)) := HC.out 1 0 (by omega) (by omega)
            have o4 : y2.W.cell? ⟨ob, 4, none⟩ = some (.int .u8 ((mkM (doneI p i g.num r 0)).r1.b.toNat : Int)) := HC.out 1 1 (by omega) (by omega)
            have o5 : y2.W.cell? ⟨ob, 5, none⟩ = some (.int .u8 ((mkM (doneI p i g.num r 0)).r1.c.toNat : Int)) := HC.out 1 2 (by omega) (by omega)
            have o6 : y2.W.cell? ⟨ob, 6, none⟩ = some (.int .u8 ((mkM (doneI p i g.num r 0)).r2.a.toNat : Int)) := HC.out 2 0 (by omega) (by omega)
            have o7 : y2.W.cell? ⟨ob, 7, none⟩ = some (.int .u8 ((mkM (doneI p i g.num r 0)).r2.b.toNat : Int)) := HC.out 2 1 (by omega) (by omega)
            have o8 : y2.W.cell? ⟨ob, 8, none⟩ = some (.int .u8 ((mkM (doneI p i g.num r 0)).r2.c.toNat : Int)) := HC.out 2 2 (by omega) (by omega)
            have s0 := y2.keep (R1X.out 0 (by omega))
            have f0 : y2.W.frozen? ⟨w.heap.size + 1, 0, none⟩ = false := (y2.ok.frozen (World.block_lt_of_cell? _ _ (R1X.out 0 (by omega)))).trans (RFX.out 0)
            have s1 := y2.keep (R1X.out 1 (by omega))
            have f1 : y2.W.frozen? ⟨w.heap.size + 1, 1, none⟩ = false := (y2.ok.frozen (World.block_lt_of_cell? _ _ (R1X.out 1 (by omega)))).trans (RFX.out 1)
            have s2 := y2.keep (R1X.out 2 (by omega))
            have f2 : y2.W.frozen? ⟨w.heap.size + 1, 2, none⟩ = false := (y2.ok.frozen (World.block_lt_of_cell? _ _ (R1X.out 2 (by omega)))).trans (RFX.out 2)
            have s3 := y2.keep (R1X.out 3 (by omega))
            have f3 : y2.W.frozen? ⟨w.heap.size + 1, 3, none⟩ = false := (y2.ok.frozen (World.block_lt_of_cell? _ _ (R1X.out 3 (by omega)))).trans (RFX.out 3)
            have s4 := y2.keep (R1X.out 4 (by omega))
            have f4 : y2.W.frozen? ⟨w.heap.size + 1, 4, none⟩ = false := (y2.ok.frozen (World.block_lt_of_cell? _ _ (R1X.out 4 (by omega)))).trans (RFX.out 4)
            have s5 := y2.keep (R1X.out 5 (by omega))
            have f5 : y2.W.frozen? ⟨w.heap.size + 1, 5, none⟩ = false := (y2.ok.frozen (World.block_lt_of_cell? _ _ (R1X.out 5 (by omega)))).trans (RFX.out 5)
            have s6 := y2.keep (R1X.out 6 (by omega))
            have f6 : y2.W.frozen? ⟨w.heap.size + 1, 6, none⟩ = false := (y2.ok.frozen (World.block_lt_of_cell? _ _ (R1X.out 6 (by omega)))).trans (RFX.out 6)
            have s7 := y2.keep (R1X.out 7 (by omega))
            have f7 : y2.W.frozen? ⟨w.heap.size + 1, 7, none⟩ = false := (y2.ok.frozen (World.block_lt_of_cell? _ _ (R1X.out 7 (by omega)))).trans (RFX.out 7)
            have s8 := y2.keep (R1X.out 8 (by omega))
            have f8 : y2.W.frozen? ⟨w.heap.size + 1, 8, none⟩ = false := (y2.ok.frozen (World.block_lt_of_cell? _ _ (R1X.out 8 (by omega)))).trans (RFX.out 8)
            generalize mkM (doneI p i g.num r 0) = tm at *
            have hrs : w.heap.size + 1 < y2.W.heap.size := World.block_lt_of_cell? _ _ s0
            have hlz : (leadN row : Int) ≠ r := by omega
            generalize leadN row = lr at *
            go_wp2_with (go_at_call 130; (with_reducible refine call_later3 (lead_g (lr : Int) hCr2 hcr2 hln6 hlr) ?_); intro x3 hb3; have o0 := pw_cell_below hb3 o0; have s0 := pw_cell_below hb3 s0; have f0 := (hb3.frozen (p := ⟨w.heap.size + 1, 0, none⟩) hrs).trans f0; have o1 := pw_cell_below hb3 o1; have s1 := pw_cell_below hb3 s1; have f1 := (hb3.frozen (p := ⟨w.heap.size + 1, 1, none⟩) hrs).trans f1; have o2 := pw_cell_below hb3 o2; have s2 := pw_cell_below hb3 s2; have f2 := (hb3.frozen (p := ⟨w.heap.size + 1, 2, none⟩) hrs).trans f2; have o3 := pw_cell_below hb3 o3; have s3 := pw_cell_below hb3 s3; have f3 := (hb3.frozen (p := ⟨w.heap.size + 1, 3, none⟩) hrs).trans f3; have o4 := pw_cell_below hb3 o4; have s4 := pw_cell_below hb3 s4; have f4 := (hb3.frozen (p := ⟨w.heap.size + 1, 4, none⟩) hrs).trans f4; have o5 := pw_cell_below hb3 o5; have s5 := pw_cell_below hb3 s5; have f5 := (hb3.frozen (p := ⟨w.heap.size + 1, 5, none⟩) hrs).trans f5; have o6 := pw_cell_below hb3 o6; have s6 := pw_cell_below hb3 s6; have f6 := (hb3.frozen (p := ⟨w.heap.size + 1, 6, none⟩) hrs).trans f6; have o7 := pw_cell_below hb3 o7; have s7 := pw_cell_below hb3 s7; have f7 := (hb3.frozen (p := ⟨w.heap.size + 1, 7, none⟩) hrs).trans f7; have o8 := pw_cell_below hb3 o8; have s8 := pw_cell_below hb3 s8; have f8 := (hb3.frozen (p := ⟨w.heap.size + 1, 8, none⟩) hrs).trans f8)
            have hbq := HBX.out
            have hbz := hbq.size
            refine bodyPost_ret (v := .tuple #[.agg #[.int .u8 (tm.r0.a.toNat : Int), .int .u8 (tm.r0.b.toNat : Int), .int .u8 (tm.r0.c.toNat : Int), .int .u8 (tm.r1.a.toNat : Int), .int .u8 (tm.r1.b.toNat : Int), .int .u8 (tm.r1.c.toNat : Int), .int .u8 (tm.r2.a.toNat : Int), .int .u8 (tm.r2.b.toNat : Int), .int .u8 (tm.r2.c.toNat : Int)], .bool false]) (by simp [results, Try.results88, go_sem, o0, o1, o2, o3, o4, o5, o6, o7, o8, s0, s1, s2, s3, s4, s5, s6, s7, s8]) rfl ⟨tm, ?_, fun h => absurd hd0 h, ?_⟩
            · rw [decide_eq_false (fun h => h hd0)]
            · have hx3 := x3.ok
              have hsz := x3.ok.size
              exact (by repeat (first | (with_reducible assumption) | (with_reducible exact Below.refl _ _) | ((with_reducible refine Below.alloc ?_ ?_ _); rotate_left; (focus (first | omega | (simp; done) | (simp; omega) | (simp [Later.le, Later.le_add, Later.lt, Later.lt_add]; done) | (simp [Later.le, Later.le_add, Later.lt, Later.lt_add]; omega)))) | (with_reducible refine Below.drew ?_) | (with_reducible refine pw_below_drewN ?_ _) | ((with_reducible refine Below.setCell ?_ ?_ _); rotate_left; (focus (first | omega | (simp; done) | (simp; omega) | (simp [Later.le, Later.le_add, Later.lt, Later.lt_add]; done) | (simp [Later.le, Later.le_add, Later.lt, Later.lt_add]; omega)))) | ((with_reducible refine below_hop (by assumption) ?_ ?_); rotate_left; (focus (first | omega | (simp; done) | (simp; omega) | (simp [Later.le, Later.le_add, Later.lt, Later.lt_add]; done) | (simp [Later.le, Later.le_add, Later.lt, Later.lt_add]; omega)))) | ((with_reducible refine bel_later _ ?_ ?_); rotate_left; (focus (first | omega | (simp; done) | (simp; omega) | (simp [Later.le, Later.le_add, Later.lt, Later.lt_add]; done) | (simp [Later.le, Later.le_add, Later.lt, Later.lt_add]; omega))))))
        · have hre : r = i := by have := HRK.out; omega
          subst hre
          have hdt := HDET.out.1 hld
          have o0 : y2.W.cell? ⟨ob, 0, none⟩ = some (.int .u8 ((mkM (doneI p r g.num r 0)).r0.a.toNat : Int)) := HC.out 0 0 (by omega) (by omega)
          have o1 : y2.W.cell? ⟨ob, 1, none⟩ = some (.int .u8 ((mkM (doneI p r g.num r 0)).r0.b.toNat : Int)) := HC.out 0 1 (by omega) (by omega)
          have o2 : y2.W.cell? ⟨ob, 2, none⟩ = some (.int .u8 ((mkM (doneI p r g.num r 0)).r0.c.toNat : Int)) := HC.out 0 2 (by omega) (by omega)
          have o3 : y2.W.cell? ⟨ob, 3, none⟩ = some (.int .u8 ((mkM (doneI p r g.num r 0)).r1.a.toNat : Int)) := HC.out 1 0 (by omega) (by omega)
          have o4 : y2.W.cell? ⟨ob, 4, none⟩ = some (.int .u8 ((mkM (doneI p r g.num r 0)).r1.b.toNat : Int)) := HC.out 1 1 (by omega) (by omega)
          have o5 : y2.W.cell? ⟨ob, 5, none⟩ = some (.int .u8 ((mkM (doneI p r g.num r 0)).r1.c.toNat : Int)) := HC.out 1 2 (by omega) (by omega)
          have o6 : y2.W.cell? ⟨ob, 6, none⟩ = some (.int .u8 ((mkM (doneI p r g.num r 0)).r2.a.toNat : Int)) := HC.out 2 0 (by omega) (by omega)
          have o7 : y2.W.cell? ⟨ob, 7, none⟩ = some (.int .u8 ((mkM (doneI p r g.num r 0)).r2.b.toNat : Int)) := HC.out 2 1 (by omega) (by omega)
          have o8 : y2.W.cell? ⟨ob, 8, none⟩ = some (.int .u8 ((mkM (doneI p r g.num r 0)).r2.c.toNat : Int)) := HC.out 2 2 (by omega) (by omega)
          have s0 := y2.keep (R1X.out 0 (by omega))
          have f0 : y2.W.frozen? ⟨w.heap.size + 1, 0, none⟩ = false := (y2.ok.frozen (World.block_lt_of_cell? _ _ (R1X.out 0 (by omega)))).trans (RFX.out 0)
          have s1 := y2.keep (R1X.out 1 (by omega))
          have f1 : y2.W.frozen? ⟨w.heap.size + 1, 1, none⟩ = false := (y2.ok.frozen (World.block_lt_of_cell? _ _ (R1X.out 1 (by omega)))).trans (RFX.out 1)
          have s2 := y2.keep (R1X.out 2 (by omega))
          have f2 : y2.W.frozen? ⟨w.heap.size + 1, 2, none⟩ = false := (y2.ok.frozen (World.block_lt_of_cell? _ _ (R1X.out 2 (by omega)))).trans (RFX.out 2)
          have s3 := y2.keep (R1X.out 3 (by omega))
          have f3 : y2.W.frozen? ⟨w.heap.size + 1, 3, none⟩ = false := (y2.ok.frozen (World.block_lt_of_cell? _ _ (R1X.out 3 (by omega)))).trans (RFX.out 3)
          have s4 := y2.keep (R1X.out 4 (by omega))
          have f4 : y2.W.frozen? ⟨w.heap.size + 1, 4, none⟩ = false := (y2.ok.frozen (World.block_lt_of_cell? _ _ (R1X.out 4 (by omega)))).trans (RFX.out 4)
          have s5 := y2.keep (R1X.out 5 (by omega))
          have f5 : y2.W.frozen? ⟨w.heap.size + 1, 5, none⟩ = false := (y2.ok.frozen (World.block_lt_of_cell? _ _ (R1X.out 5 (by omega)))).trans (RFX.out 5)
          have s6 := y2.keep (R1X.out 6 (by omega))
          have f6 : y2.W.frozen? ⟨w.heap.size + 1, 6, none⟩ = false := (y2.ok.frozen (World.block_lt_of_cell? _ _ (R1X.out 6 (by omega)))).trans (RFX.out 6)
          have s7 := y2.keep (R1X.out 7 (by omega))
          have f7 : y2.W.frozen? ⟨w.heap.size + 1, 7, none⟩ = false := (y2.ok.frozen (World.block_lt_of_cell? _ _ (R1X.out 7 (by omega)))).trans (RFX.out 7)
          have s8 := y2.keep (R1X.out 8 (by omega))
          have f8 : y2.W.frozen? ⟨w.heap.size + 1, 8, none⟩ = false := (y2.ok.frozen (World.block_lt_of_cell? _ _ (R1X.out 8 (by omega)))).trans (RFX.out 8)
          rw [HDE.out] at o0 o1 o2 o3 o4 o5 o6 o7 o8
          generalize hinv : invM p r g.num = tm at *
          have HINV := Lib.hid hinv
          clear hinv
          have hrs : w.heap.size + 1 < y2.W.heap.size := World.block_lt_of_cell? _ _ s0
          go_wp2
          refine bodyPost_ret (v := .tuple #[.agg #[.int .u8 (tm.r0.a.toNat : Int), .int .u8 (tm.r0.b.toNat : Int), .int .u8 (tm.r0.c.toNat : Int), .int .u8 (tm.r1.a.toNat : Int), .int .u8 (tm.r1.b.toNat : Int), .int .u8 (tm.r1.c.toNat : Int), .int .u8 (tm.r2.a.toNat : Int), .int .u8 (tm.r2.b.toNat : Int), .int .u8 (tm.r2.c.toNat : Int)], .bool true]) (by simp [results, Try.results88, go_sem, o0, o1, o2, o3, o4, o5, o6, o7, o8, s0, s1, s2, s3, s4, s5, s6, s7, s8]) rfl ⟨tm, ?_, fun _ => HINV.out.symm, ?_⟩
          · rw [decide_eq_true hdt]
          · have hx2 := y2.ok
            have hsz := y2.ok.size
            have hbq := HBX.out
            have hbz := hbq.size
            exact (by repeat (first | (with_reducible assumption) | (with_reducible exact Below.refl _ _) | ((with_reducible refine Below.alloc ?_ ?_ _); rotate_left; (focus (first | omega | (simp; done) | (simp; omega) | (simp [Later.le, Later.le_add, Later.lt, Later.lt_add]; done) | (simp [Later.le, Later.le_add, Later.lt, Later.lt_add]; omega)))) | (with_reducible refine Below.drew ?_) | (with_reducible refine pw_below_drewN ?_ _) | ((with_reducible refine Below.setCell ?_ ?_ _); rotate_left; (focus (first | omega | (simp; done) | (simp; omega) | (simp [Later.le, Later.le_add, Later.lt, Later.lt_add]; done) | (simp [Later.le, Later.le_add, Later.lt, Later.lt_add]; omega)))) | ((with_reducible refine below_hop (by assumption) ?_ ?_); rotate_left; (focus (first | omega | (simp; done) | (simp; omega) | (simp [Later.le, Later.le_add, Later.lt, Later.lt_add]; done) | (simp [Later.le, Later.le_add, Later.lt, Later.lt_add]; omega)))) | ((with_reducible refine bel_later _ ?_ ?_); rotate_left; (focus (first | omega | (simp; done) | (simp; omega) | (simp [Later.le, Later.le_add, Later.lt, Later.lt_add]; done) | (simp [Later.le, Later.le_add, Later.lt, Later.lt_add]; omega))))))
end Go.Proofs.Ytafdakamibpjaaa
