/- The walk of the program's inverse of a matrix; no condition. -/
import Derived.Test.YtafdakamibpjaaaIsMat2
import Derived.Test.YtafdakamibpjaaaRed4
set_option linter.unusedVariables false
set_option linter.unusedSimpArgs false
namespace Go.Proofs.Ytafdakamibpjaaa
open Go.RowKit Go.Proofs.YtafdakamibpjaaaW.PrintWords
attribute [local go_sem] Later.cell Later.frozen Later.lt Later.lt_add Later.le Later.le_add Later.ne Later.ne' add_at

theorem grown_refl (w : World) (row : Option Nat) : w.grownBy w row := ⟨rfl, rfl, rfl, Nat.le_refl _, fun _ _ _ => rfl⟩
theorem grown_set {w w' : World} {b : Nat} (h : w.grownBy w' (some b)) (k : Nat) (v : Value) : w.grownBy (w'.setCell ⟨b, k, none⟩ v) (some b) :=
  ⟨h.os, h.tape, h.output, by simpa using h.size, fun i hi hne => (Below.heap_setCell w' ⟨b, k, none⟩ v i (fun e => hne (by rw [e]))).trans (h.block i hi hne)⟩
theorem grown_drew {w w' : World} {row : Option Nat} (h : w.grownBy w' row) : w.grownBy w'.drew row := ⟨h.os, h.tape, h.output, h.size, h.block⟩

set_option maxRecDepth 100000 in
set_option maxHeartbeats 4000000 in
theorem inverted_c (p : Int) (n : Nat) (g : M9) (w : World) (hp : primeZ p) (hn1 : 1 ≤ n) (hn3 : n ≤ 3) (hg : g.le p) :
    Calls Try.prog 89 #[.int .i64 p, .int .i64 n, .agg #[.int .u8 (g.r0.a.toNat : Int), .int .u8 (g.r0.b.toNat : Int), .int .u8 (g.r0.c.toNat : Int), .int .u8 (g.r1.a.toNat : Int), .int .u8 (g.r1.b.toNat : Int), .int .u8 (g.r1.c.toNat : Int), .int .u8 (g.r2.a.toNat : Int), .int .u8 (g.r2.b.toNat : Int), .int .u8 (g.r2.c.toNat : Int)]] w (Gives (.agg #[.int .u8 ((invM p n g.num).r0.a.toNat : Int), .int .u8 ((invM p n g.num).r0.b.toNat : Int), .int .u8 ((invM p n g.num).r0.c.toNat : Int), .int .u8 ((invM p n g.num).r1.a.toNat : Int), .int .u8 ((invM p n g.num).r1.b.toNat : Int), .int .u8 ((invM p n g.num).r1.c.toNat : Int), .int .u8 ((invM p n g.num).r2.a.toNat : Int), .int .u8 ((invM p n g.num).r2.b.toNat : Int), .int .u8 ((invM p n g.num).r2.c.toNat : Int)]) w) := by
  obtain ⟨hp2, hp13⟩ := hp.two
  have hA := num_ok hg
  have hnc : n = 1 ∨ n = 2 ∨ n = 3 := by omega
  have HG := Lib.hid hg
  clear hg
  go_enter Try.func89, Try.ntmps89
  go_wp2
  have c1 : ∀ i j, i < 3 → j < 3 → ((w.alloc (.cells #[.int .u8 (g.r0.a.toNat : Int), .int .u8 (g.r0.b.toNat : Int), .int .u8 (g.r0.c.toNat : Int), .int .u8 (g.r1.a.toNat : Int), .int .u8 (g.r1.b.toNat : Int), .int .u8 (g.r1.c.toNat : Int), .int .u8 (g.r2.a.toNat : Int), .int .u8 (g.r2.b.toNat : Int), .int .u8 (g.r2.c.toNat : Int)] 25)).alloc (.cells #[.int .u8 0, .int .u8 0, .int .u8 0, .int .u8 0, .int .u8 0, .int .u8 0, .int .u8 0, .int .u8 0, .int .u8 0] 25)).cell? ⟨w.heap.size, i * 3 + j, none⟩ = some (.int .u8 (g.num i j)) := fun i j hi hj => cell_alloc (box_at w g _ i j hi hj) _
  have r1 : ∀ k, k < 9 → ((w.alloc (.cells #[.int .u8 (g.r0.a.toNat : Int), .int .u8 (g.r0.b.toNat : Int), .int .u8 (g.r0.c.toNat : Int), .int .u8 (g.r1.a.toNat : Int), .int .u8 (g.r1.b.toNat : Int), .int .u8 (g.r1.c.toNat : Int), .int .u8 (g.r2.a.toNat : Int), .int .u8 (g.r2.b.toNat : Int), .int .u8 (g.r2.c.toNat : Int)] 25)).alloc (.cells #[.int .u8 0, .int .u8 0, .int .u8 0, .int .u8 0, .int .u8 0, .int .u8 0, .int .u8 0, .int .u8 0, .int .u8 0] 25)).cell? ⟨w.heap.size + 1, k, none⟩ = some (.int .u8 0) := fun k hk => by
    have h2 := z_at (w.alloc (.cells #[.int .u8 (g.r0.a.toNat : Int), .int .u8 (g.r0.b.toNat : Int), .int .u8 (g.r0.c.toNat : Int), .int .u8 (g.r1.a.toNat : Int), .int .u8 (g.r1.b.toNat : Int), .int .u8 (g.r1.c.toNat : Int), .int .u8 (g.r2.a.toNat : Int), .int .u8 (g.r2.b.toNat : Int), .int .u8 (g.r2.c.toNat : Int)] 25)) 25 (k / 3) (k % 3) (by omega) (by omega)
    rw [show (w.alloc (.cells #[.int .u8 (g.r0.a.toNat : Int), .int .u8 (g.r0.b.toNat : Int), .int .u8 (g.r0.c.toNat : Int), .int .u8 (g.r1.a.toNat : Int), .int .u8 (g.r1.b.toNat : Int), .int .u8 (g.r1.c.toNat : Int), .int .u8 (g.r2.a.toNat : Int), .int .u8 (g.r2.b.toNat : Int), .int .u8 (g.r2.c.toNat : Int)] 25)).heap.size = w.heap.size + 1 by simp, show k / 3 * 3 + k % 3 = k by omega] at h2
    exact h2
  have rf : ∀ k, ((w.alloc (.cells #[.int .u8 (g.r0.a.toNat : Int), .int .u8 (g.r0.b.toNat : Int), .int .u8 (g.r0.c.toNat : Int), .int .u8 (g.r1.a.toNat : Int), .int .u8 (g.r1.b.toNat : Int), .int .u8 (g.r1.c.toNat : Int), .int .u8 (g.r2.a.toNat : Int), .int .u8 (g.r2.b.toNat : Int), .int .u8 (g.r2.c.toNat : Int)] 25)).alloc (.cells #[.int .u8 0, .int .u8 0, .int .u8 0, .int .u8 0, .int .u8 0, .int .u8 0, .int .u8 0, .int .u8 0, .int .u8 0] 25)).frozen? ⟨w.heap.size + 1, k, none⟩ = false := fun k => by
    have := z_fr (w.alloc (.cells #[.int .u8 (g.r0.a.toNat : Int), .int .u8 (g.r0.b.toNat : Int), .int .u8 (g.r0.c.toNat : Int), .int .u8 (g.r1.a.toNat : Int), .int .u8 (g.r1.b.toNat : Int), .int .u8 (g.r1.c.toNat : Int), .int .u8 (g.r2.a.toNat : Int), .int .u8 (g.r2.b.toNat : Int), .int .u8 (g.r2.c.toNat : Int)] 25)) (.cells #[.int .u8 0, .int .u8 0, .int .u8 0, .int .u8 0, .int .u8 0, .int .u8 0, .int .u8 0, .int .u8 0, .int .u8 0] 25) k _ _ rfl
    rwa [show (w.alloc (.cells #[.int .u8 (g.r0.a.toNat : Int), .int .u8 (g.r0.b.toNat : Int), .int .u8 (g.r0.c.toNat : Int), .int .u8 (g.r1.a.toNat : Int), .int .u8 (g.r1.b.toNat : Int), .int .u8 (g.r1.c.toNat : Int), .int .u8 (g.r2.a.toNat : Int), .int .u8 (g.r2.b.toNat : Int), .int .u8 (g.r2.c.toNat : Int)] 25)).heap.size = w.heap.size + 1 by simp] at this
  have hs0 : ((w.alloc (.cells #[.int .u8 (g.r0.a.toNat : Int), .int .u8 (g.r0.b.toNat : Int), .int .u8 (g.r0.c.toNat : Int), .int .u8 (g.r1.a.toNat : Int), .int .u8 (g.r1.b.toNat : Int), .int .u8 (g.r1.c.toNat : Int), .int .u8 (g.r2.a.toNat : Int), .int .u8 (g.r2.b.toNat : Int), .int .u8 (g.r2.c.toNat : Int)] 25)).alloc (.cells #[.int .u8 0, .int .u8 0, .int .u8 0, .int .u8 0, .int .u8 0, .int .u8 0, .int .u8 0, .int .u8 0, .int .u8 0] 25)).heap.size = w.heap.size + 2 := by simp
  have hb0 : Below w.heap.size w ((w.alloc (.cells #[.int .u8 (g.r0.a.toNat : Int), .int .u8 (g.r0.b.toNat : Int), .int .u8 (g.r0.c.toNat : Int), .int .u8 (g.r1.a.toNat : Int), .int .u8 (g.r1.b.toNat : Int), .int .u8 (g.r1.c.toNat : Int), .int .u8 (g.r2.a.toNat : Int), .int .u8 (g.r2.b.toNat : Int), .int .u8 (g.r2.c.toNat : Int)] 25)).alloc (.cells #[.int .u8 0, .int .u8 0, .int .u8 0, .int .u8 0, .int .u8 0, .int .u8 0, .int .u8 0, .int .u8 0, .int .u8 0] 25)) := (by repeat (first | (with_reducible assumption) | (with_reducible exact Below.refl _ _) | ((with_reducible refine Below.alloc ?_ ?_ _); rotate_left; (focus (first | omega | (simp; done) | (simp; omega) | (simp [Later.le, Later.le_add, Later.lt, Later.lt_add]; done) | (simp [Later.le, Later.le_add, Later.lt, Later.lt_add]; omega)))) | (with_reducible refine Below.drew ?_) | (with_reducible refine pw_below_drewN ?_ _) | ((with_reducible refine Below.setCell ?_ ?_ _); rotate_left; (focus (first | omega | (simp; done) | (simp; omega) | (simp [Later.le, Later.le_add, Later.lt, Later.lt_add]; done) | (simp [Later.le, Later.le_add, Later.lt, Later.lt_add]; omega)))) | ((with_reducible refine below_hop (by assumption) ?_ ?_); rotate_left; (focus (first | omega | (simp; done) | (simp; omega) | (simp [Later.le, Later.le_add, Later.lt, Later.lt_add]; done) | (simp [Later.le, Later.le_add, Later.lt, Later.lt_add]; omega)))) | ((with_reducible refine bel_later _ ?_ ?_); rotate_left; (focus (first | omega | (simp; done) | (simp; omega) | (simp [Later.le, Later.le_add, Later.lt, Later.lt_add]; done) | (simp [Later.le, Later.le_add, Later.lt, Later.lt_add]; omega))))))
  generalize (w.alloc (.cells #[.int .u8 (g.r0.a.toNat : Int), .int .u8 (g.r0.b.toNat : Int), .int .u8 (g.r0.c.toNat : Int), .int .u8 (g.r1.a.toNat : Int), .int .u8 (g.r1.b.toNat : Int), .int .u8 (g.r1.c.toNat : Int), .int .u8 (g.r2.a.toNat : Int), .int .u8 (g.r2.b.toNat : Int), .int .u8 (g.r2.c.toNat : Int)] 25)).alloc (.cells #[.int .u8 0, .int .u8 0, .int .u8 0, .int .u8 0, .int .u8 0, .int .u8 0, .int .u8 0, .int .u8 0, .int .u8 0] 25) = W0 at *
  have hR0 := R_zero kL (heap_alloc_last W0 (.cells #[] 75)) (base := W0.heap.size) (by simp)
  have hB0 : Below W0.heap.size W0 (W0.alloc (.cells #[] 75)) := (by repeat (first | (with_reducible assumption) | (with_reducible exact Below.refl _ _) | ((with_reducible refine Below.alloc ?_ ?_ _); rotate_left; (focus (first | omega | (simp; done) | (simp; omega) | (simp [Later.le, Later.le_add, Later.lt, Later.lt_add]; done) | (simp [Later.le, Later.le_add, Later.lt, Later.lt_add]; omega)))) | (with_reducible refine Below.drew ?_) | (with_reducible refine pw_below_drewN ?_ _) | ((with_reducible refine Below.setCell ?_ ?_ _); rotate_left; (focus (first | omega | (simp; done) | (simp; omega) | (simp [Later.le, Later.le_add, Later.lt, Later.lt_add]; done) | (simp [Later.le, Later.le_add, Later.lt, Later.lt_add]; omega)))) | ((with_reducible refine below_hop (by assumption) ?_ ?_); rotate_left; (focus (first | omega | (simp; done) | (simp; omega) | (simp [Later.le, Later.le_add, Later.lt, Later.lt_add]; done) | (simp [Later.le, Later.le_add, Later.lt, Later.lt_add]; omega)))) | ((with_reducible refine bel_later _ ?_ ?_); rotate_left; (focus (first | omega | (simp; done) | (simp; omega) | (simp [Later.le, Later.le_add, Later.lt, Later.lt_add]; done) | (simp [Later.le, Later.le_add, Later.lt, Later.lt_add]; omega))))))
  have C1 := Lib.hid c1
  have R1 := Lib.hid r1
  have RF := Lib.hid rf
  have HB0 := Lib.hid hb0
  have HS0 := Lib.hid hs0
  clear c1 r1 rf hb0 hs0
  go_loopg [17, 7] n (fun k vi vr w' => ∃ (i : Nat) (y : Later W0), i + k = n ∧ vi = .int .i64 i ∧ w' = y.W ∧ kL.R 75 y.W W0.heap.size (fun _ => True) vr (augRows n g.num i))
  case atStart => exact ⟨0, ⟨_, hB0⟩, by omega, rfl, rfl, by
    have h := hR0
    rw [HS0.out] at h
    show kL.R _ _ W0.heap.size _ _ _
    rw [HS0.out]
    exact h⟩
  case round =>
    clear hR0 hB0
    obtain ⟨i, y, hik, rfl, rfl, hR⟩ := hrel
    have HIK := Lib.hid hik
    clear hik
    by_cases hlt : i < n
    · have hi1 : (i : Int) < n := by omega
      have hi3 : (i : Int) < 3 := by omega
      have hi0 : (0 : Int) ≤ i := by omega
      have hin : ((i : Int)).toNat = i := by omega
      have w2 := i64_small (n := 2 * (n : Int)) (by omega) (by omega)
      go_wp2_with (refine Kd.R_make kI (w0 := y.W) y.W.heap.size 2 rfl (N := 22) rfl 75 (.tmp 21) (.tmp 21) rfl (2 * (n : Int)) rfl rfl Try.underlying75 _ 8 infoI rfl (by decide) (by decide) 0 (ok := fun _ => True) (okp := fun _ => False) rfl (fun _ h => h.elim) trivial (by omega) (by omega) (Below.refl _ _) (Nat.le_refl _) ?_; intro v1 w1 HR hb1 _ _)
      rw [show (2 * (n : Int)).toNat = 2 * n by omega, fillRow_zero n g.num i] at HR
      obtain ⟨gb, cap, hv, hgb, hgs, _⟩ := Kd.R_form HR (by rw [fillRow_len]; omega)
      rw [fillRow_len] at hv
      subst hv
      have hL2 : 2 * n ≤ n + n := by omega
      have hL3 : n + n ≤ 2 * n := by omega
      generalize 2 * n = L at *
      go_loopg [24] n (fun k v w' => ∃ (j : Nat) (z : Later W0), j + k = n ∧ v = .int .i64 j ∧ w' = z.W ∧ Below y.W.heap.size y.W z.W ∧ kI.R 2 z.W y.W.heap.size (fun _ => True) (.slice (some ⟨gb, 0, none⟩) L cap) (fillRow n g.num i j))
      case atStart => exact ⟨0, ⟨w1, y.ok.trans (hb1.mono y.ok.size)⟩, by omega, rfl, rfl, hb1, HR⟩
      case round =>
        clear HR hb1 hgs
        obtain ⟨j, z, hjk, rfl, rfl, hbz, hRz⟩ := hrel
        have HJK := Lib.hid hjk
        clear hjk
        by_cases hj : j < n
        · have q := pw_cell_below hbz (y.keep (C1.out i j (by omega) (by omega)))
          obtain ⟨f0, f1⟩ := kI_cell hRz j (by omega)
          have HST := Lib.hid (fillRow_step n g.num i j hj)
          have hnum := hA i j
          generalize g.num i j = x at *
          generalize (fillRow n g.num i j).getD j 0 = xo at *
          have hj1 : (j : Int) < n := by omega
          have hj3 : (j : Int) < 3 := by omega
          have hjL : (j : Int) < L := by omega
          have hj0 : (0 : Int) ≤ j := by omega
          have hjn : ((j : Int)).toNat = j := by omega
          go_wp2
          go_roundg (gk - 1)
          case measure => have := HJK.out; omega
          case rel =>
            refine ⟨j + 1, ⟨z.W.setCell ⟨gb, j, none⟩ (.int .i64 x), z.ok.setCell (by have := y.ok.size; show W0.heap.size ≤ gb; omega) _⟩, by have := HJK.out; omega, by go_num, rfl, hbz.setCell (show y.W.heap.size ≤ gb from hgb) _, ?_⟩
            rw [← HST.out]
            exact kI_set hRz j _
        · have hje : j = n := by have := HJK.out; omega
          subst hje
          have e4 : ((j : Int) + (i : Int)).toNat = j + i := by omega
          have w3 := i64_small (n := (j : Int) + i) (by omega) (by omega)
          have hjL : (j : Int) + i < L := by omega
          have hj0 : (0 : Int) ≤ (j : Int) + i := by omega
          obtain ⟨f0, f1⟩ := kI_cell hRz (j + i) (by omega)
          have hRs := Kd.R_below hR (hbz.setCell (show y.W.heap.size ≤ gb from hgb) (p := ⟨gb, j + i, none⟩) (.int .i64 1))
          have hRo := Kd.R_lower (kI_set hRz (j + i) 1) y.ok.size
          rw [fillRow_one j g.num i hlt] at hRo
          have hBs := z.ok.setCell (by have := y.ok.size; show W0.heap.size ≤ gb; omega) (p := ⟨gb, j + i, none⟩) (.int .i64 1)
          obtain ⟨Ar, cr, hvr, hlr, hCr⟩ := Kd.R_reads hR
          rw [augRows_len] at hvr
          subst hvr
          generalize (fillRow j g.num i j).getD (j + i) 0 = xo at *
          go_wp2_with (((with_reducible refine gate_ (.call { callee := .builtin .append, args := #[.tmp 42, .tmp 44], argTypes := #[51, 51] }) rfl ?_); have hM := Kd.M_row (num_apart hRs hRo); have hMk := (fun (k : Nat) (hk : some k ≠ (Value.slice Ar i cr).ownBlock) => (⟨trivial, hk⟩ : True ∧ some k ≠ (Value.slice Ar i cr).ownBlock)); refine Kd.R_append kL (w0 := W0) (W := z.W.setCell ⟨gb, j + i, none⟩ (.int .i64 1)) (W0).heap.size rfl (.tmp 42) (.tmp 44) 51 75 (.slice none 0 0) 24 rfl Try.underlying51 infoL rfl (by decide) (by decide) (Value.slice Ar i cr) (augRows j g.num i) (augRow j g.num i) [.slice (some ⟨gb, 0, none⟩) L cap] (fun _ => True) (fun k => some k ≠ (Value.slice Ar i cr).ownBlock) rfl (by first | rfl | (simp [go_sem]; done)) hM hMk (fun _ _ => trivial) hRs hBs (hBs).size (by rw [augRows_len]; omega) ?_; intro v6 w6 hR6 hB6 hg6 _))
          go_roundg (j - i - 1)
          case measure => have := HIK.out; omega
          case rel =>
            refine ⟨i + 1, ⟨w6, hB6⟩, by have := HIK.out; omega, by go_num, rfl, ?_⟩
            rw [augRows_succ]
            exact hR6
    · have hie : i = n := by have := HIK.out; omega
      subst hie
      obtain ⟨Ar, cr, hvr, hlr, hCr⟩ := Kd.R_reads hR
      rw [augRows_len] at hvr hCr hlr
      subst hvr
      have hbo : Below y.W.heap.size y.W (y.W.alloc (.cells #[.int .u8 0, .int .u8 0, .int .u8 0, .int .u8 0, .int .u8 0, .int .u8 0, .int .u8 0, .int .u8 0, .int .u8 0] 25)) := (by repeat (first | (with_reducible assumption) | (with_reducible exact Below.refl _ _) | ((with_reducible refine Below.alloc ?_ ?_ _); rotate_left; (focus (first | omega | (simp; done) | (simp; omega) | (simp [Later.le, Later.le_add, Later.lt, Later.lt_add]; done) | (simp [Later.le, Later.le_add, Later.lt, Later.lt_add]; omega)))) | (with_reducible refine Below.drew ?_) | (with_reducible refine pw_below_drewN ?_ _) | ((with_reducible refine Below.setCell ?_ ?_ _); rotate_left; (focus (first | omega | (simp; done) | (simp; omega) | (simp [Later.le, Later.le_add, Later.lt, Later.lt_add]; done) | (simp [Later.le, Later.le_add, Later.lt, Later.lt_add]; omega)))) | ((with_reducible refine below_hop (by assumption) ?_ ?_); rotate_left; (focus (first | omega | (simp; done) | (simp; omega) | (simp [Later.le, Later.le_add, Later.lt, Later.lt_add]; done) | (simp [Later.le, Later.le_add, Later.lt, Later.lt_add]; omega)))) | ((with_reducible refine bel_later _ ?_ ?_); rotate_left; (focus (first | omega | (simp; done) | (simp; omega) | (simp [Later.le, Later.le_add, Later.lt, Later.lt_add]; done) | (simp [Later.le, Later.le_add, Later.lt, Later.lt_add]; omega))))))
      have hyo := y.ok
      have c3 : ∀ i' j', i' < 3 → j' < 3 → (y.W.alloc (.cells #[.int .u8 0, .int .u8 0, .int .u8 0, .int .u8 0, .int .u8 0, .int .u8 0, .int .u8 0, .int .u8 0, .int .u8 0] 25)).cell? ⟨y.W.heap.size, i' * 3 + j', none⟩ = some (.int .u8 0) := fun i' j' hi hj => z_at y.W 25 i' j' hi hj
      have c4 : ∀ k, (y.W.alloc (.cells #[.int .u8 0, .int .u8 0, .int .u8 0, .int .u8 0, .int .u8 0, .int .u8 0, .int .u8 0, .int .u8 0, .int .u8 0] 25)).frozen? ⟨y.W.heap.size, k, none⟩ = false := fun k => z_fr y.W (.cells #[.int .u8 0, .int .u8 0, .int .u8 0, .int .u8 0, .int .u8 0, .int .u8 0, .int .u8 0, .int .u8 0, .int .u8 0] 25) k _ _ rfl
      have hred := reduce_c hp (L := 2 * i) (by omega) (rows := augRows i g.num i) (c := cr) (by rw [augRows_len]; omega) (fun r hr => by
        obtain ⟨t, ht, rfl⟩ := List.mem_map.1 hr
        exact (augRow_ok hp2 hA t (List.mem_range.1 ht)).ok) (Kd.C_below hCr hbo)
      change Calls _ _ _ _ (Makes kL _ (invRows p i g.num) _) at hred
      have hlen := inv_length (n := i) hp hA
      have hrows := inv_ok (n := i) hp hA
      have HROW := Lib.hid (fun i' (hi : i' < i) => hrows _ (getD_mem [] (show i' < (invRows p i g.num).length by omega)))
      have HDE := Lib.hid (doneI_end p i g.num)
      have R1Y := Lib.hid (fun k (hk : k < 9) => cell_alloc (y.keep (R1.out k hk)) (.cells #[.int .u8 0, .int .u8 0, .int .u8 0, .int .u8 0, .int .u8 0, .int .u8 0, .int .u8 0, .int .u8 0, .int .u8 0] 25))
      have hs2 : w.heap.size + 2 ≤ y.W.heap.size := by rw [← HS0.out]; exact hyo.size
      have RFY := Lib.hid (fun k => ((hbo.frozen (p := ⟨w.heap.size + 1, k, none⟩) (by show w.heap.size + 1 < _; omega)).trans ((hyo.frozen (p := ⟨w.heap.size + 1, k, none⟩) (by show w.heap.size + 1 < _; rw [HS0.out]; omega)).trans (RF.out k))))
      have hsy : (y.W.alloc (.cells #[.int .u8 0, .int .u8 0, .int .u8 0, .int .u8 0, .int .u8 0, .int .u8 0, .int .u8 0, .int .u8 0, .int .u8 0] 25)).heap.size = y.W.heap.size + 1 := by simp
      have HBY := Lib.hid ((HB0.out.trans (hyo.mono HB0.out.size)).trans (hbo.mono (by omega)))
      clear hrows hR
      go_wp2_with (go_at_call 96; (with_reducible refine call_makes hred ?_); intro x A1 c1 hb1 hl1 hR1 hC1)
      generalize hwy : y.W.alloc (.cells #[.int .u8 0, .int .u8 0, .int .u8 0, .int .u8 0, .int .u8 0, .int .u8 0, .int .u8 0, .int .u8 0, .int .u8 0] 25) = Wy at *
      generalize hob : y.W.heap.size = ob at *
      clear hwy hob hbo hyo
      rw [hlen] at hl1 hC1 hR1
      have C3 := Lib.hid (fun i' j' (h1 : i' < 3) (h2 : j' < 3) => x.keep (c3 i' j' h1 h2))
      have C4 := Lib.hid (fun k => (x.ok.frozen (p := ⟨ob, k, none⟩) (by show ob < _; omega)).trans (c4 k))
      have R1X := Lib.hid (fun k (hk : k < 9) => x.keep (R1Y.out k hk))
      have RFX := Lib.hid (fun k => (x.ok.frozen (p := ⟨w.heap.size + 1, k, none⟩) (by show w.heap.size + 1 < _; omega)).trans (RFY.out k))
      have HBX := Lib.hid (HBY.out.trans (x.ok.mono HBY.out.size))
      have hRo := Kd.R_mono (Kd.R_bound hR1) (ok' := fun k => some k ≠ some ob) (fun k hk he => by
        have h1 := hk.2.1
        injection he with he
        omega)
      have hobx : ob < x.W.heap.size := by have := x.ok.size; omega
      clear c3 c4 hred hR1 hC1 hb1 hCr hlr hlen
      generalize x.W = X at *
      obtain ⟨g5, cap5, hv5, _, hg5s, _⟩ := Kd.R_form hRo (by rw [inv_length (n := i) hp hA]; omega)
      injection hv5 with hv5 hv6 hv7
      clear hv6
      subst hv5
      subst hv7
      have hne5 : some g5 ≠ some ob := hRo.1 g5 rfl
      go_loopg [52] i (fun k v w' => ∃ (r : Nat), r + k = i ∧ v = .int .i64 r ∧ X.grownBy w' (some ob) ∧ (∀ i' j', i' < 3 → j' < 3 → w'.cell? ⟨ob, i' * 3 + j', none⟩ = some (.int .u8 ((doneI p i g.num r 0 i' j').toNat : Int))) ∧ ∀ k, w'.frozen? ⟨ob, k, none⟩ = false)
      case atStart => exact ⟨0, by omega, rfl, grown_refl X _, fun i' j' h1 h2 => by rw [C3.out i' j' h1 h2]; simp [doneI], C4.out⟩
      case round =>
        obtain ⟨r, hrk, rfl, hgx, hc, hf⟩ := hrel
        have HRK := Lib.hid hrk
        have HC := Lib.hid hc
        have HF := Lib.hid hf
        clear hrk hc hf
        by_cases hr : r < i
        · have hrow := HROW.out r hr
          have hr0 : (0 : Int) ≤ r := by omega
          have hr1 : (r : Int) < i := by omega
          have hrn : ((r : Int)).toNat = r := by omega
          obtain ⟨ce, hcl, ⟨ve, hve, hRrow⟩, hcc, _⟩ := Kd.R_elem hRo [] (r : Int) hr0 (by omega)
          subst hve
          rw [hrn] at hRrow hcc
          have qX : X.cell? ⟨g5, r, none⟩ = some ve := by
            have := hcc 0 ve rfl
            have e : r * kL.sz + 0 = r := by show r * 1 + 0 = r; omega
            rwa [e] at this
          obtain ⟨Br, cr2, hvs⟩ := Kd.R_slice hRrow
          subst hvs
          have qx := far_cell hgx qX hne5
          clear hcc hcl
          generalize hrw : (invRows p i g.num).getD r [] = row at *
          have HRW := Lib.hid hrw
          clear hrw
          go_wp2
          have hgx0 := hgx
          go_loopg [58] i (fun k v w' => ∃ (j : Nat), j + k = i ∧ v = .int .i64 j ∧ X.grownBy w' (some ob) ∧ (∀ i' j', i' < 3 → j' < 3 → w'.cell? ⟨ob, i' * 3 + j', none⟩ = some (.int .u8 ((doneI p i g.num r j i' j').toNat : Int))) ∧ ∀ k, w'.frozen? ⟨ob, k, none⟩ = false)
          case atStart => exact ⟨0, by omega, rfl, hgx0, HC.out, HF.out⟩
          case round =>
            clear qx hgx hgx0 HC HF
            obtain ⟨j, hjk, rfl, hgy, hc3, hf3⟩ := hrel
            have HJK := Lib.hid hjk
            have HC3 := Lib.hid hc3
            have HF3 := Lib.hid hf3
            clear hjk hc3 hf3
            by_cases hj : j < i
            · have hCrow := R_C (Kd.R_grown hRrow hgy (fun k hk => hk.1))
              obtain ⟨b3, o3, hB, sx⟩ := kI_at hCrow (i + j) (by rw [hrow.ok.len]; omega)
              subst hB
              have hv := hrow.ok.nums (i + j)
              have hvl : (i : Int) + j < row.length := by rw [hrow.ok.len]; omega
              have HVD := Lib.hid (show doneI p i g.num r (j + 1) r j = uB (row.getD (i + j) 0) by rw [doneI, if_pos ⟨hj, .inr ⟨rfl, by omega⟩⟩, HRW.out])
              generalize row.getD (i + j) 0 = v at *
              have g3 := HC3.out r j (by omega) (by omega)
              have g4 := HF3.out (r * 3 + j)
              have G3 := Lib.hid g3
              generalize ((doneI p i g.num r j r j).toNat : Int) = old at *
              have w3 := i64_small (n := (i : Int) + j) (by omega) (by omega)
              have e3 : ((i : Int) + (j : Int)).toNat = i + j := by omega
              have e1 : ((j : Int)).toNat = j := by omega
              have i1 : (r : Int) < 3 := by omega
              have i3 : (j : Int) < 3 := by omega
              have hj0 : (0 : Int) ≤ (i : Int) + j := by omega
              have hj1 : (j : Int) < i := by omega
              clear hCrow
              go_wp2
              go_region
              go_wp2
              go_roundg (i - j - 1)
              case measure => have := HJK.out; omega
              case rel =>
                refine ⟨j + 1, by have := HJK.out; omega, by go_num, grown_drew (grown_set hgy (r * 3 + j) (.int .u8 v)), fun i' j' hi' hj' => ?_, fun k => ?_⟩
                · show (World.setCell _ _ _).cell? _ = _
                  by_cases hij : i' = r ∧ j' = j
                  · obtain ⟨rfl, rfl⟩ := hij
                    rw [World.cell?_setCell_same _ _ _ G3.out, HVD.out, uB_nat, Int.emod_eq_of_lt hv.1 (by omega)]
                  · rw [World.cell?_setCell_other _ _ _ _ (by first | (simp; done) | (simp; omega)), HC3.out i' j' hi' hj']
                    have : (j' < i ∧ (i' < r ∨ (i' = r ∧ j' < j))) ↔ (j' < i ∧ (i' < r ∨ (i' = r ∧ j' < j + 1))) := by omega
                    simp only [doneI, this]
                · show (World.setCell _ _ _).frozen? _ = _
                  have := HF3.out k
                  simp [this]
            · have hje : j = i := by have := HJK.out; omega
              subst hje
              go_wp2
              go_roundg (j - r - 1)
              case measure => have := HRK.out; omega
              case rel =>
                refine ⟨r + 1, by have := HRK.out; omega, by go_num, hgy, fun i' j' hi' hj' => ?_, HF3.out⟩
                rw [HC3.out i' j' hi' hj']
                have : (j' < j ∧ (i' < r ∨ (i' = r ∧ j' < j))) ↔ (j' < j ∧ (i' < r + 1 ∨ (i' = r + 1 ∧ j' < 0))) := by omega
                simp only [doneI, this]
        · have hre : r = i := by have := HRK.out; omega
          subst hre
          have hbw : Below w.heap.size w _ := pw_below_grown HBX.out (some ob) HBX.out.size hgx (fun k hk => by injection hk with hk; omega)
          have s0 := far_cell hgx (R1X.out 0 (by omega)) (show some (w.heap.size + 1) ≠ some ob from fun h => by injection h with h; omega)
          have f0 := far_frozen hgx (RFX.out 0) (World.block_lt_of_cell? _ _ (R1X.out 0 (by omega))) (show some (w.heap.size + 1) ≠ some ob from fun h => by injection h with h; omega)
          have s1 := far_cell hgx (R1X.out 1 (by omega)) (show some (w.heap.size + 1) ≠ some ob from fun h => by injection h with h; omega)
          have f1 := far_frozen hgx (RFX.out 1) (World.block_lt_of_cell? _ _ (R1X.out 1 (by omega))) (show some (w.heap.size + 1) ≠ some ob from fun h => by injection h with h; omega)
          have s2 := far_cell hgx (R1X.out 2 (by omega)) (show some (w.heap.size + 1) ≠ some ob from fun h => by injection h with h; omega)
          have f2 := far_frozen hgx (RFX.out 2) (World.block_lt_of_cell? _ _ (R1X.out 2 (by omega))) (show some (w.heap.size + 1) ≠ some ob from fun h => by injection h with h; omega)
          have s3 := far_cell hgx (R1X.out 3 (by omega)) (show some (w.heap.size + 1) ≠ some ob from fun h => by injection h with h; omega)
          have f3 := far_frozen hgx (RFX.out 3) (World.block_lt_of_cell? _ _ (R1X.out 3 (by omega))) (show some (w.heap.size + 1) ≠ some ob from fun h => by injection h with h; omega)
          have s4 := far_cell hgx (R1X.out 4 (by omega)) (show some (w.heap.size + 1) ≠ some ob from fun h => by injection h with h; omega)
          have f4 := far_frozen hgx (RFX.out 4) (World.block_lt_of_cell? _ _ (R1X.out 4 (by omega))) (show some (w.heap.size + 1) ≠ some ob from fun h => by injection h with h; omega)
          have s5 := far_cell hgx (R1X.out 5 (by omega)) (show some (w.heap.size + 1) ≠ some ob from fun h => by injection h with h; omega)
          have f5 := far_frozen hgx (RFX.out 5) (World.block_lt_of_cell? _ _ (R1X.out 5 (by omega))) (show some (w.heap.size + 1) ≠ some ob from fun h => by injection h with h; omega)
          have s6 := far_cell hgx (R1X.out 6 (by omega)) (show some (w.heap.size + 1) ≠ some ob from fun h => by injection h with h; omega)
          have f6 := far_frozen hgx (RFX.out 6) (World.block_lt_of_cell? _ _ (R1X.out 6 (by omega))) (show some (w.heap.size + 1) ≠ some ob from fun h => by injection h with h; omega)
          have s7 := far_cell hgx (R1X.out 7 (by omega)) (show some (w.heap.size + 1) ≠ some ob from fun h => by injection h with h; omega)
          have f7 := far_frozen hgx (RFX.out 7) (World.block_lt_of_cell? _ _ (R1X.out 7 (by omega))) (show some (w.heap.size + 1) ≠ some ob from fun h => by injection h with h; omega)
          have s8 := far_cell hgx (R1X.out 8 (by omega)) (show some (w.heap.size + 1) ≠ some ob from fun h => by injection h with h; omega)
          have f8 := far_frozen hgx (RFX.out 8) (World.block_lt_of_cell? _ _ (R1X.out 8 (by omega))) (show some (w.heap.size + 1) ≠ some ob from fun h => by injection h with h; omega)
          have o0 := HC.out 0 0 (by omega) (by omega)
          change _ = some (Value.int .u8 ((mkM (doneI p r g.num r 0)).r0.a.toNat : Int)) at o0
          have o1 := HC.out 0 1 (by omega) (by omega)
          change _ = some (Value.int .u8 ((mkM (doneI p r g.num r 0)).r0.b.toNat : Int)) at o1
          have o2 := HC.out 0 2 (by omega) (by omega)
          change _ = some (Value.int .u8 ((mkM (doneI p r g.num r 0)).r0.c.toNat : Int)) at o2
          have o3 := HC.out 1 0 (by omega) (by omega)
          change _ = some (Value.int .u8 ((mkM (doneI p r g.num r 0)).r1.a.toNat : Int)) at o3
          have o4 := HC.out 1 1 (by omega) (by omega)
          change _ = some (Value.int .u8 ((mkM (doneI p r g.num r 0)).r1.b.toNat : Int)) at o4
          have o5 := HC.out 1 2 (by omega) (by omega)
          change _ = some (Value.int .u8 ((mkM (doneI p r g.num r 0)).r1.c.toNat : Int)) at o5
          have o6 := HC.out 2 0 (by omega) (by omega)
          change _ = some (Value.int .u8 ((mkM (doneI p r g.num r 0)).r2.a.toNat : Int)) at o6
          have o7 := HC.out 2 1 (by omega) (by omega)
          change _ = some (Value.int .u8 ((mkM (doneI p r g.num r 0)).r2.b.toNat : Int)) at o7
          have o8 := HC.out 2 2 (by omega) (by omega)
          change _ = some (Value.int .u8 ((mkM (doneI p r g.num r 0)).r2.c.toNat : Int)) at o8
          rw [HDE.out] at o0 o1 o2 o3 o4 o5 o6 o7 o8
          generalize invM p r g.num = tm at *
          simp only [Nat.zero_mul, Nat.zero_add, Nat.one_mul, Nat.add_zero, Nat.reduceMul, Nat.reduceAdd] at o0 o1 o2 o3 o4 o5 o6 o7 o8
          go_wp2
          exact bodyPost_ret (v := .agg #[.int .u8 (tm.r0.a.toNat : Int), .int .u8 (tm.r0.b.toNat : Int), .int .u8 (tm.r0.c.toNat : Int), .int .u8 (tm.r1.a.toNat : Int), .int .u8 (tm.r1.b.toNat : Int), .int .u8 (tm.r1.c.toNat : Int), .int .u8 (tm.r2.a.toNat : Int), .int .u8 (tm.r2.b.toNat : Int), .int .u8 (tm.r2.c.toNat : Int)]) (by simp [results, Try.results89, go_sem, o0, o1, o2, o3, o4, o5, o6, o7, o8, s0, s1, s2, s3, s4, s5, s6, s7, s8]) rfl (.mk rfl (by repeat (first | (with_reducible assumption) | (with_reducible exact Below.refl _ _) | ((with_reducible refine Below.alloc ?_ ?_ _); rotate_left; (focus (first | omega | (simp; done) | (simp; omega) | (simp [Later.le, Later.le_add, Later.lt, Later.lt_add]; done) | (simp [Later.le, Later.le_add, Later.lt, Later.lt_add]; omega)))) | (with_reducible refine Below.drew ?_) | (with_reducible refine pw_below_drewN ?_ _) | ((with_reducible refine Below.setCell ?_ ?_ _); rotate_left; (focus (first | omega | (simp; done) | (simp; omega) | (simp [Later.le, Later.le_add, Later.lt, Later.lt_add]; done) | (simp [Later.le, Later.le_add, Later.lt, Later.lt_add]; omega)))) | ((with_reducible refine below_hop (by assumption) ?_ ?_); rotate_left; (focus (first | omega | (simp; done) | (simp; omega) | (simp [Later.le, Later.le_add, Later.lt, Later.lt_add]; done) | (simp [Later.le, Later.le_add, Later.lt, Later.lt_add]; omega)))) | ((with_reducible refine bel_later _ ?_ ?_); rotate_left; (focus (first | omega | (simp; done) | (simp; omega) | (simp [Later.le, Later.le_add, Later.lt, Later.lt_add]; done) | (simp [Later.le, Later.le_add, Later.lt, Later.lt_add]; omega)))))))
end Go.Proofs.Ytafdakamibpjaaa
