/- The walk of the program's product of matrices; no condition. -/
import Derived.Test.YtafdakamibpjaaaTimes2
set_option linter.unusedVariables false
set_option linter.unusedSimpArgs false
namespace Go.Proofs.Ytafdakamibpjaaa
open Go.RowKit Go.Proofs.YtafdakamibpjaaaW.PrintWords
attribute [local go_sem] Later.cell Later.frozen Later.lt Later.lt_add Later.le Later.le_add Later.ne Later.ne' add_at

set_option maxRecDepth 100000 in
set_option maxHeartbeats 2000000 in
theorem times_c (p : Int) (n : Nat) (g h : M9) (w : World) (hp : 2 ≤ p) (hp' : p ≤ 13) (hn1 : 1 ≤ n) (hn3 : n ≤ 3) (hg : g.le p) (hh : h.le p) :
    Calls Try.prog 73 #[.int .i64 p, .int .i64 n, .agg #[.int .u8 (g.r0.a.toNat : Int), .int .u8 (g.r0.b.toNat : Int), .int .u8 (g.r0.c.toNat : Int), .int .u8 (g.r1.a.toNat : Int), .int .u8 (g.r1.b.toNat : Int), .int .u8 (g.r1.c.toNat : Int), .int .u8 (g.r2.a.toNat : Int), .int .u8 (g.r2.b.toNat : Int), .int .u8 (g.r2.c.toNat : Int)], .agg #[.int .u8 (h.r0.a.toNat : Int), .int .u8 (h.r0.b.toNat : Int), .int .u8 (h.r0.c.toNat : Int), .int .u8 (h.r1.a.toNat : Int), .int .u8 (h.r1.b.toNat : Int), .int .u8 (h.r1.c.toNat : Int), .int .u8 (h.r2.a.toNat : Int), .int .u8 (h.r2.b.toNat : Int), .int .u8 (h.r2.c.toNat : Int)]] w (Gives (.agg #[.int .u8 ((timesM p n g h).r0.a.toNat : Int), .int .u8 ((timesM p n g h).r0.b.toNat : Int), .int .u8 ((timesM p n g h).r0.c.toNat : Int), .int .u8 ((timesM p n g h).r1.a.toNat : Int), .int .u8 ((timesM p n g h).r1.b.toNat : Int), .int .u8 ((timesM p n g h).r1.c.toNat : Int), .int .u8 ((timesM p n g h).r2.a.toNat : Int), .int .u8 ((timesM p n g h).r2.b.toNat : Int), .int .u8 ((timesM p n g h).r2.c.toNat : Int)]) w) := by
  have HG := Lib.hid hg
  have HH := Lib.hid hh
  clear hg hh
  go_enter Try.func73, Try.ntmps73
  go_wp2
  have c1 : ∀ i j, i < 3 → j < 3 → (((w.alloc (.cells #[.int .u8 (g.r0.a.toNat : Int), .int .u8 (g.r0.b.toNat : Int), .int .u8 (g.r0.c.toNat : Int), .int .u8 (g.r1.a.toNat : Int), .int .u8 (g.r1.b.toNat : Int), .int .u8 (g.r1.c.toNat : Int), .int .u8 (g.r2.a.toNat : Int), .int .u8 (g.r2.b.toNat : Int), .int .u8 (g.r2.c.toNat : Int)] 25)).alloc (.cells #[.int .u8 (h.r0.a.toNat : Int), .int .u8 (h.r0.b.toNat : Int), .int .u8 (h.r0.c.toNat : Int), .int .u8 (h.r1.a.toNat : Int), .int .u8 (h.r1.b.toNat : Int), .int .u8 (h.r1.c.toNat : Int), .int .u8 (h.r2.a.toNat : Int), .int .u8 (h.r2.b.toNat : Int), .int .u8 (h.r2.c.toNat : Int)] 25)).alloc (.cells #[.int .u8 0, .int .u8 0, .int .u8 0, .int .u8 0, .int .u8 0, .int .u8 0, .int .u8 0, .int .u8 0, .int .u8 0] 25)).cell? ⟨w.heap.size, i * 3 + j, none⟩ = some (.int .u8 ((g.at i j).toNat : Int)) := fun i j hi hj => cell_alloc (cell_alloc (box_at w g _ i j hi hj) _) _
  have c2 : ∀ i j, i < 3 → j < 3 → (((w.alloc (.cells #[.int .u8 (g.r0.a.toNat : Int), .int .u8 (g.r0.b.toNat : Int), .int .u8 (g.r0.c.toNat : Int), .int .u8 (g.r1.a.toNat : Int), .int .u8 (g.r1.b.toNat : Int), .int .u8 (g.r1.c.toNat : Int), .int .u8 (g.r2.a.toNat : Int), .int .u8 (g.r2.b.toNat : Int), .int .u8 (g.r2.c.toNat : Int)] 25)).alloc (.cells #[.int .u8 (h.r0.a.toNat : Int), .int .u8 (h.r0.b.toNat : Int), .int .u8 (h.r0.c.toNat : Int), .int .u8 (h.r1.a.toNat : Int), .int .u8 (h.r1.b.toNat : Int), .int .u8 (h.r1.c.toNat : Int), .int .u8 (h.r2.a.toNat : Int), .int .u8 (h.r2.b.toNat : Int), .int .u8 (h.r2.c.toNat : Int)] 25)).alloc (.cells #[.int .u8 0, .int .u8 0, .int .u8 0, .int .u8 0, .int .u8 0, .int .u8 0, .int .u8 0, .int .u8 0, .int .u8 0] 25)).cell? ⟨w.heap.size + 1, i * 3 + j, none⟩ = some (.int .u8 ((h.at i j).toNat : Int)) := fun i j hi hj => by
    have := cell_alloc (box_at (w.alloc (.cells #[.int .u8 (g.r0.a.toNat : Int), .int .u8 (g.r0.b.toNat : Int), .int .u8 (g.r0.c.toNat : Int), .int .u8 (g.r1.a.toNat : Int), .int .u8 (g.r1.b.toNat : Int), .int .u8 (g.r1.c.toNat : Int), .int .u8 (g.r2.a.toNat : Int), .int .u8 (g.r2.b.toNat : Int), .int .u8 (g.r2.c.toNat : Int)] 25)) h 25 i j hi hj) (.cells #[.int .u8 0, .int .u8 0, .int .u8 0, .int .u8 0, .int .u8 0, .int .u8 0, .int .u8 0, .int .u8 0, .int .u8 0] 25)
    rwa [show (w.alloc (.cells #[.int .u8 (g.r0.a.toNat : Int), .int .u8 (g.r0.b.toNat : Int), .int .u8 (g.r0.c.toNat : Int), .int .u8 (g.r1.a.toNat : Int), .int .u8 (g.r1.b.toNat : Int), .int .u8 (g.r1.c.toNat : Int), .int .u8 (g.r2.a.toNat : Int), .int .u8 (g.r2.b.toNat : Int), .int .u8 (g.r2.c.toNat : Int)] 25)).heap.size = w.heap.size + 1 by simp] at this
  have c3 : ∀ i j, i < 3 → j < 3 → ((((w.alloc (.cells #[.int .u8 (g.r0.a.toNat : Int), .int .u8 (g.r0.b.toNat : Int), .int .u8 (g.r0.c.toNat : Int), .int .u8 (g.r1.a.toNat : Int), .int .u8 (g.r1.b.toNat : Int), .int .u8 (g.r1.c.toNat : Int), .int .u8 (g.r2.a.toNat : Int), .int .u8 (g.r2.b.toNat : Int), .int .u8 (g.r2.c.toNat : Int)] 25)).alloc (.cells #[.int .u8 (h.r0.a.toNat : Int), .int .u8 (h.r0.b.toNat : Int), .int .u8 (h.r0.c.toNat : Int), .int .u8 (h.r1.a.toNat : Int), .int .u8 (h.r1.b.toNat : Int), .int .u8 (h.r1.c.toNat : Int), .int .u8 (h.r2.a.toNat : Int), .int .u8 (h.r2.b.toNat : Int), .int .u8 (h.r2.c.toNat : Int)] 25)).alloc (.cells #[.int .u8 0, .int .u8 0, .int .u8 0, .int .u8 0, .int .u8 0, .int .u8 0, .int .u8 0, .int .u8 0, .int .u8 0] 25)).alloc (.cells #[.int .u8 0, .int .u8 0, .int .u8 0, .int .u8 0, .int .u8 0, .int .u8 0, .int .u8 0, .int .u8 0, .int .u8 0] 25)).cell? ⟨w.heap.size + 1 + 1 + 1, i * 3 + j, none⟩ = some (.int .u8 0) := fun i j hi hj => by
    have := z_at (((w.alloc (.cells #[.int .u8 (g.r0.a.toNat : Int), .int .u8 (g.r0.b.toNat : Int), .int .u8 (g.r0.c.toNat : Int), .int .u8 (g.r1.a.toNat : Int), .int .u8 (g.r1.b.toNat : Int), .int .u8 (g.r1.c.toNat : Int), .int .u8 (g.r2.a.toNat : Int), .int .u8 (g.r2.b.toNat : Int), .int .u8 (g.r2.c.toNat : Int)] 25)).alloc (.cells #[.int .u8 (h.r0.a.toNat : Int), .int .u8 (h.r0.b.toNat : Int), .int .u8 (h.r0.c.toNat : Int), .int .u8 (h.r1.a.toNat : Int), .int .u8 (h.r1.b.toNat : Int), .int .u8 (h.r1.c.toNat : Int), .int .u8 (h.r2.a.toNat : Int), .int .u8 (h.r2.b.toNat : Int), .int .u8 (h.r2.c.toNat : Int)] 25)).alloc (.cells #[.int .u8 0, .int .u8 0, .int .u8 0, .int .u8 0, .int .u8 0, .int .u8 0, .int .u8 0, .int .u8 0, .int .u8 0] 25)) 25 i j hi hj
    rwa [show (((w.alloc (.cells #[.int .u8 (g.r0.a.toNat : Int), .int .u8 (g.r0.b.toNat : Int), .int .u8 (g.r0.c.toNat : Int), .int .u8 (g.r1.a.toNat : Int), .int .u8 (g.r1.b.toNat : Int), .int .u8 (g.r1.c.toNat : Int), .int .u8 (g.r2.a.toNat : Int), .int .u8 (g.r2.b.toNat : Int), .int .u8 (g.r2.c.toNat : Int)] 25)).alloc (.cells #[.int .u8 (h.r0.a.toNat : Int), .int .u8 (h.r0.b.toNat : Int), .int .u8 (h.r0.c.toNat : Int), .int .u8 (h.r1.a.toNat : Int), .int .u8 (h.r1.b.toNat : Int), .int .u8 (h.r1.c.toNat : Int), .int .u8 (h.r2.a.toNat : Int), .int .u8 (h.r2.b.toNat : Int), .int .u8 (h.r2.c.toNat : Int)] 25)).alloc (.cells #[.int .u8 0, .int .u8 0, .int .u8 0, .int .u8 0, .int .u8 0, .int .u8 0, .int .u8 0, .int .u8 0, .int .u8 0] 25)).heap.size = w.heap.size + 1 + 1 + 1 by simp] at this
  have c4 : ∀ k, ((((w.alloc (.cells #[.int .u8 (g.r0.a.toNat : Int), .int .u8 (g.r0.b.toNat : Int), .int .u8 (g.r0.c.toNat : Int), .int .u8 (g.r1.a.toNat : Int), .int .u8 (g.r1.b.toNat : Int), .int .u8 (g.r1.c.toNat : Int), .int .u8 (g.r2.a.toNat : Int), .int .u8 (g.r2.b.toNat : Int), .int .u8 (g.r2.c.toNat : Int)] 25)).alloc (.cells #[.int .u8 (h.r0.a.toNat : Int), .int .u8 (h.r0.b.toNat : Int), .int .u8 (h.r0.c.toNat : Int), .int .u8 (h.r1.a.toNat : Int), .int .u8 (h.r1.b.toNat : Int), .int .u8 (h.r1.c.toNat : Int), .int .u8 (h.r2.a.toNat : Int), .int .u8 (h.r2.b.toNat : Int), .int .u8 (h.r2.c.toNat : Int)] 25)).alloc (.cells #[.int .u8 0, .int .u8 0, .int .u8 0, .int .u8 0, .int .u8 0, .int .u8 0, .int .u8 0, .int .u8 0, .int .u8 0] 25)).alloc (.cells #[.int .u8 0, .int .u8 0, .int .u8 0, .int .u8 0, .int .u8 0, .int .u8 0, .int .u8 0, .int .u8 0, .int .u8 0] 25)).frozen? ⟨w.heap.size + 1 + 1 + 1, k, none⟩ = false := fun k => by
    have := z_fr (((w.alloc (.cells #[.int .u8 (g.r0.a.toNat : Int), .int .u8 (g.r0.b.toNat : Int), .int .u8 (g.r0.c.toNat : Int), .int .u8 (g.r1.a.toNat : Int), .int .u8 (g.r1.b.toNat : Int), .int .u8 (g.r1.c.toNat : Int), .int .u8 (g.r2.a.toNat : Int), .int .u8 (g.r2.b.toNat : Int), .int .u8 (g.r2.c.toNat : Int)] 25)).alloc (.cells #[.int .u8 (h.r0.a.toNat : Int), .int .u8 (h.r0.b.toNat : Int), .int .u8 (h.r0.c.toNat : Int), .int .u8 (h.r1.a.toNat : Int), .int .u8 (h.r1.b.toNat : Int), .int .u8 (h.r1.c.toNat : Int), .int .u8 (h.r2.a.toNat : Int), .int .u8 (h.r2.b.toNat : Int), .int .u8 (h.r2.c.toNat : Int)] 25)).alloc (.cells #[.int .u8 0, .int .u8 0, .int .u8 0, .int .u8 0, .int .u8 0, .int .u8 0, .int .u8 0, .int .u8 0, .int .u8 0] 25)) (.cells #[.int .u8 0, .int .u8 0, .int .u8 0, .int .u8 0, .int .u8 0, .int .u8 0, .int .u8 0, .int .u8 0, .int .u8 0] 25) k _ _ rfl
    rwa [show (((w.alloc (.cells #[.int .u8 (g.r0.a.toNat : Int), .int .u8 (g.r0.b.toNat : Int), .int .u8 (g.r0.c.toNat : Int), .int .u8 (g.r1.a.toNat : Int), .int .u8 (g.r1.b.toNat : Int), .int .u8 (g.r1.c.toNat : Int), .int .u8 (g.r2.a.toNat : Int), .int .u8 (g.r2.b.toNat : Int), .int .u8 (g.r2.c.toNat : Int)] 25)).alloc (.cells #[.int .u8 (h.r0.a.toNat : Int), .int .u8 (h.r0.b.toNat : Int), .int .u8 (h.r0.c.toNat : Int), .int .u8 (h.r1.a.toNat : Int), .int .u8 (h.r1.b.toNat : Int), .int .u8 (h.r1.c.toNat : Int), .int .u8 (h.r2.a.toNat : Int), .int .u8 (h.r2.b.toNat : Int), .int .u8 (h.r2.c.toNat : Int)] 25)).alloc (.cells #[.int .u8 0, .int .u8 0, .int .u8 0, .int .u8 0, .int .u8 0, .int .u8 0, .int .u8 0, .int .u8 0, .int .u8 0] 25)).heap.size = w.heap.size + 1 + 1 + 1 by simp] at this
  have hb0 : Below w.heap.size w (((w.alloc (.cells #[.int .u8 (g.r0.a.toNat : Int), .int .u8 (g.r0.b.toNat : Int), .int .u8 (g.r0.c.toNat : Int), .int .u8 (g.r1.a.toNat : Int), .int .u8 (g.r1.b.toNat : Int), .int .u8 (g.r1.c.toNat : Int), .int .u8 (g.r2.a.toNat : Int), .int .u8 (g.r2.b.toNat : Int), .int .u8 (g.r2.c.toNat : Int)] 25)).alloc (.cells #[.int .u8 (h.r0.a.toNat : Int), .int .u8 (h.r0.b.toNat : Int), .int .u8 (h.r0.c.toNat : Int), .int .u8 (h.r1.a.toNat : Int), .int .u8 (h.r1.b.toNat : Int), .int .u8 (h.r1.c.toNat : Int), .int .u8 (h.r2.a.toNat : Int), .int .u8 (h.r2.b.toNat : Int), .int .u8 (h.r2.c.toNat : Int)] 25)).alloc (.cells #[.int .u8 0, .int .u8 0, .int .u8 0, .int .u8 0, .int .u8 0, .int .u8 0, .int .u8 0, .int .u8 0, .int .u8 0] 25)) := (by repeat (first | (with_reducible assumption) | (with_reducible exact Below.refl _ _) | ((with_reducible refine Below.alloc ?_ ?_ _); rotate_left; (focus (first | omega | (simp; done) | (simp; omega) | (simp [Later.le, Later.le_add, Later.lt, Later.lt_add]; done) | (simp [Later.le, Later.le_add, Later.lt, Later.lt_add]; omega)))) | (with_reducible refine Below.drew ?_) | (with_reducible refine pw_below_drewN ?_ _) | ((with_reducible refine Below.setCell ?_ ?_ _); rotate_left; (focus (first | omega | (simp; done) | (simp; omega) | (simp [Later.le, Later.le_add, Later.lt, Later.lt_add]; done) | (simp [Later.le, Later.le_add, Later.lt, Later.lt_add]; omega)))) | ((with_reducible refine below_hop (by assumption) ?_ ?_); rotate_left; (focus (first | omega | (simp; done) | (simp; omega) | (simp [Later.le, Later.le_add, Later.lt, Later.lt_add]; done) | (simp [Later.le, Later.le_add, Later.lt, Later.lt_add]; omega)))) | ((with_reducible refine bel_later _ ?_ ?_); rotate_left; (focus (first | omega | (simp; done) | (simp; omega) | (simp [Later.le, Later.le_add, Later.lt, Later.lt_add]; done) | (simp [Later.le, Later.le_add, Later.lt, Later.lt_add]; omega))))))
  have hs0 : (((w.alloc (.cells #[.int .u8 (g.r0.a.toNat : Int), .int .u8 (g.r0.b.toNat : Int), .int .u8 (g.r0.c.toNat : Int), .int .u8 (g.r1.a.toNat : Int), .int .u8 (g.r1.b.toNat : Int), .int .u8 (g.r1.c.toNat : Int), .int .u8 (g.r2.a.toNat : Int), .int .u8 (g.r2.b.toNat : Int), .int .u8 (g.r2.c.toNat : Int)] 25)).alloc (.cells #[.int .u8 (h.r0.a.toNat : Int), .int .u8 (h.r0.b.toNat : Int), .int .u8 (h.r0.c.toNat : Int), .int .u8 (h.r1.a.toNat : Int), .int .u8 (h.r1.b.toNat : Int), .int .u8 (h.r1.c.toNat : Int), .int .u8 (h.r2.a.toNat : Int), .int .u8 (h.r2.b.toNat : Int), .int .u8 (h.r2.c.toNat : Int)] 25)).alloc (.cells #[.int .u8 0, .int .u8 0, .int .u8 0, .int .u8 0, .int .u8 0, .int .u8 0, .int .u8 0, .int .u8 0, .int .u8 0] 25)).heap.size = w.heap.size + 3 := by simp
  have hy0 : Below (((w.alloc (.cells #[.int .u8 (g.r0.a.toNat : Int), .int .u8 (g.r0.b.toNat : Int), .int .u8 (g.r0.c.toNat : Int), .int .u8 (g.r1.a.toNat : Int), .int .u8 (g.r1.b.toNat : Int), .int .u8 (g.r1.c.toNat : Int), .int .u8 (g.r2.a.toNat : Int), .int .u8 (g.r2.b.toNat : Int), .int .u8 (g.r2.c.toNat : Int)] 25)).alloc (.cells #[.int .u8 (h.r0.a.toNat : Int), .int .u8 (h.r0.b.toNat : Int), .int .u8 (h.r0.c.toNat : Int), .int .u8 (h.r1.a.toNat : Int), .int .u8 (h.r1.b.toNat : Int), .int .u8 (h.r1.c.toNat : Int), .int .u8 (h.r2.a.toNat : Int), .int .u8 (h.r2.b.toNat : Int), .int .u8 (h.r2.c.toNat : Int)] 25)).alloc (.cells #[.int .u8 0, .int .u8 0, .int .u8 0, .int .u8 0, .int .u8 0, .int .u8 0, .int .u8 0, .int .u8 0, .int .u8 0] 25)).heap.size (((w.alloc (.cells #[.int .u8 (g.r0.a.toNat : Int), .int .u8 (g.r0.b.toNat : Int), .int .u8 (g.r0.c.toNat : Int), .int .u8 (g.r1.a.toNat : Int), .int .u8 (g.r1.b.toNat : Int), .int .u8 (g.r1.c.toNat : Int), .int .u8 (g.r2.a.toNat : Int), .int .u8 (g.r2.b.toNat : Int), .int .u8 (g.r2.c.toNat : Int)] 25)).alloc (.cells #[.int .u8 (h.r0.a.toNat : Int), .int .u8 (h.r0.b.toNat : Int), .int .u8 (h.r0.c.toNat : Int), .int .u8 (h.r1.a.toNat : Int), .int .u8 (h.r1.b.toNat : Int), .int .u8 (h.r1.c.toNat : Int), .int .u8 (h.r2.a.toNat : Int), .int .u8 (h.r2.b.toNat : Int), .int .u8 (h.r2.c.toNat : Int)] 25)).alloc (.cells #[.int .u8 0, .int .u8 0, .int .u8 0, .int .u8 0, .int .u8 0, .int .u8 0, .int .u8 0, .int .u8 0, .int .u8 0] 25)) ((((w.alloc (.cells #[.int .u8 (g.r0.a.toNat : Int), .int .u8 (g.r0.b.toNat : Int), .int .u8 (g.r0.c.toNat : Int), .int .u8 (g.r1.a.toNat : Int), .int .u8 (g.r1.b.toNat : Int), .int .u8 (g.r1.c.toNat : Int), .int .u8 (g.r2.a.toNat : Int), .int .u8 (g.r2.b.toNat : Int), .int .u8 (g.r2.c.toNat : Int)] 25)).alloc (.cells #[.int .u8 (h.r0.a.toNat : Int), .int .u8 (h.r0.b.toNat : Int), .int .u8 (h.r0.c.toNat : Int), .int .u8 (h.r1.a.toNat : Int), .int .u8 (h.r1.b.toNat : Int), .int .u8 (h.r1.c.toNat : Int), .int .u8 (h.r2.a.toNat : Int), .int .u8 (h.r2.b.toNat : Int), .int .u8 (h.r2.c.toNat : Int)] 25)).alloc (.cells #[.int .u8 0, .int .u8 0, .int .u8 0, .int .u8 0, .int .u8 0, .int .u8 0, .int .u8 0, .int .u8 0, .int .u8 0] 25)).alloc (.cells #[.int .u8 0, .int .u8 0, .int .u8 0, .int .u8 0, .int .u8 0, .int .u8 0, .int .u8 0, .int .u8 0, .int .u8 0] 25)) := (by repeat (first | (with_reducible assumption) | (with_reducible exact Below.refl _ _) | ((with_reducible refine Below.alloc ?_ ?_ _); rotate_left; (focus (first | omega | (simp; done) | (simp; omega) | (simp [Later.le, Later.le_add, Later.lt, Later.lt_add]; done) | (simp [Later.le, Later.le_add, Later.lt, Later.lt_add]; omega)))) | (with_reducible refine Below.drew ?_) | (with_reducible refine pw_below_drewN ?_ _) | ((with_reducible refine Below.setCell ?_ ?_ _); rotate_left; (focus (first | omega | (simp; done) | (simp; omega) | (simp [Later.le, Later.le_add, Later.lt, Later.lt_add]; done) | (simp [Later.le, Later.le_add, Later.lt, Later.lt_add]; omega)))) | ((with_reducible refine below_hop (by assumption) ?_ ?_); rotate_left; (focus (first | omega | (simp; done) | (simp; omega) | (simp [Later.le, Later.le_add, Later.lt, Later.lt_add]; done) | (simp [Later.le, Later.le_add, Later.lt, Later.lt_add]; omega)))) | ((with_reducible refine bel_later _ ?_ ?_); rotate_left; (focus (first | omega | (simp; done) | (simp; omega) | (simp [Later.le, Later.le_add, Later.lt, Later.lt_add]; done) | (simp [Later.le, Later.le_add, Later.lt, Later.lt_add]; omega))))))
  have r1 : ∀ k, k < 9 → (((w.alloc (.cells #[.int .u8 (g.r0.a.toNat : Int), .int .u8 (g.r0.b.toNat : Int), .int .u8 (g.r0.c.toNat : Int), .int .u8 (g.r1.a.toNat : Int), .int .u8 (g.r1.b.toNat : Int), .int .u8 (g.r1.c.toNat : Int), .int .u8 (g.r2.a.toNat : Int), .int .u8 (g.r2.b.toNat : Int), .int .u8 (g.r2.c.toNat : Int)] 25)).alloc (.cells #[.int .u8 (h.r0.a.toNat : Int), .int .u8 (h.r0.b.toNat : Int), .int .u8 (h.r0.c.toNat : Int), .int .u8 (h.r1.a.toNat : Int), .int .u8 (h.r1.b.toNat : Int), .int .u8 (h.r1.c.toNat : Int), .int .u8 (h.r2.a.toNat : Int), .int .u8 (h.r2.b.toNat : Int), .int .u8 (h.r2.c.toNat : Int)] 25)).alloc (.cells #[.int .u8 0, .int .u8 0, .int .u8 0, .int .u8 0, .int .u8 0, .int .u8 0, .int .u8 0, .int .u8 0, .int .u8 0] 25)).cell? ⟨w.heap.size + 1 + 1, k, none⟩ = some (.int .u8 0) := fun k hk => by
    have h2 := z_at ((w.alloc (.cells #[.int .u8 (g.r0.a.toNat : Int), .int .u8 (g.r0.b.toNat : Int), .int .u8 (g.r0.c.toNat : Int), .int .u8 (g.r1.a.toNat : Int), .int .u8 (g.r1.b.toNat : Int), .int .u8 (g.r1.c.toNat : Int), .int .u8 (g.r2.a.toNat : Int), .int .u8 (g.r2.b.toNat : Int), .int .u8 (g.r2.c.toNat : Int)] 25)).alloc (.cells #[.int .u8 (h.r0.a.toNat : Int), .int .u8 (h.r0.b.toNat : Int), .int .u8 (h.r0.c.toNat : Int), .int .u8 (h.r1.a.toNat : Int), .int .u8 (h.r1.b.toNat : Int), .int .u8 (h.r1.c.toNat : Int), .int .u8 (h.r2.a.toNat : Int), .int .u8 (h.r2.b.toNat : Int), .int .u8 (h.r2.c.toNat : Int)] 25)) 25 (k / 3) (k % 3) (by omega) (by omega)
    rw [show ((w.alloc (.cells #[.int .u8 (g.r0.a.toNat : Int), .int .u8 (g.r0.b.toNat : Int), .int .u8 (g.r0.c.toNat : Int), .int .u8 (g.r1.a.toNat : Int), .int .u8 (g.r1.b.toNat : Int), .int .u8 (g.r1.c.toNat : Int), .int .u8 (g.r2.a.toNat : Int), .int .u8 (g.r2.b.toNat : Int), .int .u8 (g.r2.c.toNat : Int)] 25)).alloc (.cells #[.int .u8 (h.r0.a.toNat : Int), .int .u8 (h.r0.b.toNat : Int), .int .u8 (h.r0.c.toNat : Int), .int .u8 (h.r1.a.toNat : Int), .int .u8 (h.r1.b.toNat : Int), .int .u8 (h.r1.c.toNat : Int), .int .u8 (h.r2.a.toNat : Int), .int .u8 (h.r2.b.toNat : Int), .int .u8 (h.r2.c.toNat : Int)] 25)).heap.size = w.heap.size + 1 + 1 by simp, show k / 3 * 3 + k % 3 = k by omega] at h2
    exact h2
  have rf : ∀ k, (((w.alloc (.cells #[.int .u8 (g.r0.a.toNat : Int), .int .u8 (g.r0.b.toNat : Int), .int .u8 (g.r0.c.toNat : Int), .int .u8 (g.r1.a.toNat : Int), .int .u8 (g.r1.b.toNat : Int), .int .u8 (g.r1.c.toNat : Int), .int .u8 (g.r2.a.toNat : Int), .int .u8 (g.r2.b.toNat : Int), .int .u8 (g.r2.c.toNat : Int)] 25)).alloc (.cells #[.int .u8 (h.r0.a.toNat : Int), .int .u8 (h.r0.b.toNat : Int), .int .u8 (h.r0.c.toNat : Int), .int .u8 (h.r1.a.toNat : Int), .int .u8 (h.r1.b.toNat : Int), .int .u8 (h.r1.c.toNat : Int), .int .u8 (h.r2.a.toNat : Int), .int .u8 (h.r2.b.toNat : Int), .int .u8 (h.r2.c.toNat : Int)] 25)).alloc (.cells #[.int .u8 0, .int .u8 0, .int .u8 0, .int .u8 0, .int .u8 0, .int .u8 0, .int .u8 0, .int .u8 0, .int .u8 0] 25)).frozen? ⟨w.heap.size + 1 + 1, k, none⟩ = false := fun k => by
    have := z_fr ((w.alloc (.cells #[.int .u8 (g.r0.a.toNat : Int), .int .u8 (g.r0.b.toNat : Int), .int .u8 (g.r0.c.toNat : Int), .int .u8 (g.r1.a.toNat : Int), .int .u8 (g.r1.b.toNat : Int), .int .u8 (g.r1.c.toNat : Int), .int .u8 (g.r2.a.toNat : Int), .int .u8 (g.r2.b.toNat : Int), .int .u8 (g.r2.c.toNat : Int)] 25)).alloc (.cells #[.int .u8 (h.r0.a.toNat : Int), .int .u8 (h.r0.b.toNat : Int), .int .u8 (h.r0.c.toNat : Int), .int .u8 (h.r1.a.toNat : Int), .int .u8 (h.r1.b.toNat : Int), .int .u8 (h.r1.c.toNat : Int), .int .u8 (h.r2.a.toNat : Int), .int .u8 (h.r2.b.toNat : Int), .int .u8 (h.r2.c.toNat : Int)] 25)) (.cells #[.int .u8 0, .int .u8 0, .int .u8 0, .int .u8 0, .int .u8 0, .int .u8 0, .int .u8 0, .int .u8 0, .int .u8 0] 25) k _ _ rfl
    rwa [show ((w.alloc (.cells #[.int .u8 (g.r0.a.toNat : Int), .int .u8 (g.r0.b.toNat : Int), .int .u8 (g.r0.c.toNat : Int), .int .u8 (g.r1.a.toNat : Int), .int .u8 (g.r1.b.toNat : Int), .int .u8 (g.r1.c.toNat : Int), .int .u8 (g.r2.a.toNat : Int), .int .u8 (g.r2.b.toNat : Int), .int .u8 (g.r2.c.toNat : Int)] 25)).alloc (.cells #[.int .u8 (h.r0.a.toNat : Int), .int .u8 (h.r0.b.toNat : Int), .int .u8 (h.r0.c.toNat : Int), .int .u8 (h.r1.a.toNat : Int), .int .u8 (h.r1.b.toNat : Int), .int .u8 (h.r1.c.toNat : Int), .int .u8 (h.r2.a.toNat : Int), .int .u8 (h.r2.b.toNat : Int), .int .u8 (h.r2.c.toNat : Int)] 25)).heap.size = w.heap.size + 1 + 1 by simp] at this
  generalize (((w.alloc (.cells #[.int .u8 (g.r0.a.toNat : Int), .int .u8 (g.r0.b.toNat : Int), .int .u8 (g.r0.c.toNat : Int), .int .u8 (g.r1.a.toNat : Int), .int .u8 (g.r1.b.toNat : Int), .int .u8 (g.r1.c.toNat : Int), .int .u8 (g.r2.a.toNat : Int), .int .u8 (g.r2.b.toNat : Int), .int .u8 (g.r2.c.toNat : Int)] 25)).alloc (.cells #[.int .u8 (h.r0.a.toNat : Int), .int .u8 (h.r0.b.toNat : Int), .int .u8 (h.r0.c.toNat : Int), .int .u8 (h.r1.a.toNat : Int), .int .u8 (h.r1.b.toNat : Int), .int .u8 (h.r1.c.toNat : Int), .int .u8 (h.r2.a.toNat : Int), .int .u8 (h.r2.b.toNat : Int), .int .u8 (h.r2.c.toNat : Int)] 25)).alloc (.cells #[.int .u8 0, .int .u8 0, .int .u8 0, .int .u8 0, .int .u8 0, .int .u8 0, .int .u8 0, .int .u8 0, .int .u8 0] 25)) = W0 at *
  generalize hW1 : W0.alloc (.cells #[.int .u8 0, .int .u8 0, .int .u8 0, .int .u8 0, .int .u8 0, .int .u8 0, .int .u8 0, .int .u8 0, .int .u8 0] 25) = W1 at *
  clear hW1
  have C1 := Lib.hid c1
  have C2 := Lib.hid c2
  have C3 := Lib.hid c3
  have C4 := Lib.hid c4
  have HB0 := Lib.hid hb0
  have HY0 := Lib.hid hy0
  have R1 := Lib.hid r1
  have RF := Lib.hid rf
  clear rf
  clear c1 c2 c3 c4 hb0 hy0 r1
  go_loopg [16] n (fun k v w' => ∃ (i : Nat) (y : Later W0), i + k = n ∧ v = .int .i64 i ∧ w' = y.W ∧ (∀ i' j', i' < 3 → j' < 3 → w'.cell? ⟨w.heap.size + 1 + 1 + 1, i' * 3 + j', none⟩ = some (.int .u8 (doneT p n g h i 0 i' j'))) ∧ ∀ k, w'.frozen? ⟨w.heap.size + 1 + 1 + 1, k, none⟩ = false)
  case atStart => exact ⟨0, ⟨W1, HY0.out⟩, by omega, rfl, rfl, fun i' j' h1 h2 => by rw [C3.out i' j' h1 h2]; simp [doneT], C4.out⟩
  case round =>
    obtain ⟨i, y, hik, rfl, rfl, hc, hf⟩ := hrel
    have HIK := Lib.hid hik
    have HC := Lib.hid hc
    have HF := Lib.hid hf
    clear hik hc hf
    by_cases hlt : i < n
    · have hi1 : (i : Int) < n := by omega
      go_wp2
      go_loopg [20] n (fun k v w' => ∃ (j : Nat) (y2 : Later W0), j + k = n ∧ v = .int .i64 j ∧ w' = y2.W ∧ (∀ i' j', i' < 3 → j' < 3 → w'.cell? ⟨w.heap.size + 1 + 1 + 1, i' * 3 + j', none⟩ = some (.int .u8 (doneT p n g h i j i' j'))) ∧ ∀ k, w'.frozen? ⟨w.heap.size + 1 + 1 + 1, k, none⟩ = false)
      case atStart => exact ⟨0, y, by omega, rfl, rfl, HC.out, HF.out⟩
      case round =>
        obtain ⟨j, y2, hjk, rfl, rfl, hc, hf⟩ := hrel
        have HJK := Lib.hid hjk
        have HC2 := Lib.hid hc
        have HF2 := Lib.hid hf
        clear hjk hc hf
        by_cases hlj : j < n
        · have hj1 : (j : Int) < n := by omega
          have zy : W0.heap.size ≤ y2.W.heap.size := y2.ok.size
          have zg : w.heap.size < y2.W.heap.size := by omega
          have zh : w.heap.size + 1 < y2.W.heap.size := by omega
          go_wp2
          go_loopg [24, 12] n (fun k v s w' => ∃ (q : Nat) (y3 : Later y2.W), q + k = n ∧ v = .int .i64 q ∧ s = .int .i64 (sumT g h i j q) ∧ w' = y3.W)
          case atStart => exact ⟨0, ⟨y2.W, Below.refl _ _⟩, by omega, rfl, rfl, rfl⟩
          case round =>
            obtain ⟨q, y3, hqk, rfl, rfl, rfl⟩ := hrel
            have HQK := Lib.hid hqk
            clear hqk
            by_cases hlq : q < n
            · have hq1 : (q : Int) < n := by omega
              have g1 := y2.keep (C1.out i q (by omega) (by omega))
              have g2 := y2.keep (C2.out q j (by omega) (by omega))
              have b1 := at_le HG.out i q
              have b2 := at_le HH.out q j
              have b3 := sumT_bd hp' HG.out HH.out i j q (by omega)
              have hst : sumT g h i j (q + 1) = sumT g h i j q + ((g.at i q).toNat : Int) * ((h.at q j).toNat : Int) := rfl
              have HST := Lib.hid hst
              clear hst
              have b4 : 0 ≤ ((g.at i q).toNat : Int) := by omega
              have b5 : 0 ≤ ((h.at q j).toNat : Int) := by omega
              generalize ((g.at i q).toNat : Int) = gg at *
              generalize ((h.at q j).toNat : Int) = hh at *
              generalize sumT g h i j q = ss at *
              have b6 := mul_bd3 (x := gg) (y := hh) b4 (by omega) b5 (by omega)
              have w1 := i64_small (n := gg * hh) (by omega) (by omega)
              have w2 := i64_small (n := ss + gg * hh) (by omega) (by omega)
              have i1 : (i : Int) < 3 := by omega
              have i2 : (q : Int) < 3 := by omega
              have i3 : (j : Int) < 3 := by omega
              have e1 : ((i : Int)).toNat = i := by omega
              have e2 : ((q : Int)).toNat = q := by omega
              have e3 : ((j : Int)).toNat = j := by omega
              go_wp2
              (first | refine wp_region_later2 (by kernel_rfl) (by kernel_rfl) ?_ | refine wp_region_later (by kernel_rfl) (by kernel_rfl) ?_); (repeat (go_big_quiet_step (fail))); refine wpQuiet_nil ?_; intro x
              go_wp2
              go_roundg (n - q - 1)
              case measure => have := HQK.out; omega
              case rel => exact ⟨q + 1, x, by have := HQK.out; omega, by go_num, by (rw [HST.out] <;> first | rfl | simp [w2]), rfl⟩
            · have hqe : q = n := by have := HQK.out; omega
              subst hqe
              have g3 := y3.keep (HC2.out i j (by omega) (by omega))
              have g4 := (y3.ok.frozen (World.block_lt_of_cell? _ _ (HC2.out i j (by omega) (by omega)))).trans (HF2.out (i * 3 + j))
              have b3 := sumT_bd hp' HG.out HH.out i j q (by omega)
              have b7 := mod_bd (sumT g h i j q) hp
              have hte : (sumT g h i j q).tmod p = sumT g h i j q % p := Int.tmod_eq_emod_of_nonneg b3.1
              have hpz : p ≠ 0 := by omega
              have i1 : (i : Int) < 3 := by omega
              have i3 : (j : Int) < 3 := by omega
              have e1 : ((i : Int)).toNat = i := by omega
              have e3 : ((j : Int)).toNat = j := by omega
              go_wp2
              go_region
              go_wp2
              go_roundg (q - j - 1)
              case measure => have := HJK.out; omega
              case rel =>
                have hb3 : Below W0.heap.size W0 y3.W := y2.ok.trans (y3.ok.mono y2.ok.size)
                refine ⟨j + 1, ⟨(y3.W.setCell ⟨w.heap.size + 1 + 1 + 1, i * 3 + j, none⟩ (.int .u8 (sumT g h i j q % p))).drew, (hb3.setCell (by first | (simp; done) | (simp; omega) | omega) _).drew⟩, by have := HJK.out; omega, by go_num, rfl, fun i' j' hi' hj' => ?_, fun k => ?_⟩
                · show (y3.W.setCell _ _).cell? _ = _
                  by_cases hij : i' = i ∧ j' = j
                  · obtain ⟨rfl, rfl⟩ := hij
                    rw [World.cell?_setCell_same _ _ _ g3, doneT, if_pos ⟨hlj, .inr ⟨rfl, by omega⟩⟩]
                  · rw [World.cell?_setCell_other _ _ _ _ (by first | (simp; done) | (simp; omega)), y3.keep (HC2.out i' j' hi' hj')]
                    have : (j' < q ∧ (i' < i ∨ (i' = i ∧ j' < j))) ↔ (j' < q ∧ (i' < i ∨ (i' = i ∧ j' < j + 1))) := by omega
                    simp only [doneT, this]
                · show (y3.W.setCell _ _).frozen? _ = _
                  have := (y3.ok.frozen (p := ⟨w.heap.size + 1 + 1 + 1, k, none⟩) (by show w.heap.size + 1 + 1 + 1 < _; have := World.block_lt_of_cell? _ _ (HC2.out i j (by omega) (by omega)); exact this)).trans (HF2.out k)
                  simp [this]
        · have hje : j = n := by have := HJK.out; omega
          subst hje
          go_wp2
          go_roundg (j - i - 1)
          case measure => have := HIK.out; omega
          case rel =>
            refine ⟨i + 1, y2, by have := HIK.out; omega, by go_num, rfl, fun i' j' hi' hj' => ?_, HF2.out⟩
            rw [HC2.out i' j' hi' hj']
            have : (j' < j ∧ (i' < i ∨ (i' = i ∧ j' < j))) ↔ (j' < j ∧ (i' < i + 1 ∨ (i' = i + 1 ∧ j' < 0))) := by omega
            simp only [doneT, this]
    · have hie : i = n := by have := HIK.out; omega
      subst hie
      have o0 : y.W.cell? ⟨w.heap.size + 1 + 1 + 1, 0, none⟩ = some (.int .u8 ((timesM p i g h).r0.a.toNat : Int)) := by
        have := HC.out 0 0 (by omega) (by omega)
        rw [done_end hp hp'] at this
        exact this
      have r0 := y.keep (R1.out 0 (by omega))
      have f0 : y.W.frozen? ⟨w.heap.size + 1 + 1, 0, none⟩ = false := (y.ok.frozen (World.block_lt_of_cell? _ _ (R1.out 0 (by omega)))).trans (RF.out 0)
      have o1 : y.W.cell? ⟨w.heap.size + 1 + 1 + 1, 1, none⟩ = some (.int .u8 ((timesM p i g h).r0.b.toNat : Int)) := by
        have := HC.out 0 1 (by omega) (by omega)
        rw [done_end hp hp'] at this
        exact this
      have r1 := y.keep (R1.out 1 (by omega))
      have f1 : y.W.frozen? ⟨w.heap.size + 1 + 1, 1, none⟩ = false := (y.ok.frozen (World.block_lt_of_cell? _ _ (R1.out 1 (by omega)))).trans (RF.out 1)
      have o2 : y.W.cell? ⟨w.heap.size + 1 + 1 + 1, 2, none⟩ = some (.int .u8 ((timesM p i g h).r0.c.toNat : Int)) := by
        have := HC.out 0 2 (by omega) (by omega)
        rw [done_end hp hp'] at this
        exact this
      have r2 := y.keep (R1.out 2 (by omega))
      have f2 : y.W.frozen? ⟨w.heap.size + 1 + 1, 2, none⟩ = false := (y.ok.frozen (World.block_lt_of_cell? _ _ (R1.out 2 (by omega)))).trans (RF.out 2)
      have o3 : y.W.cell? ⟨w.heap.size + 1 + 1 + 1, 3, none⟩ = some (.int .u8 ((timesM p i g h).r1.a.toNat : Int)) := by
        have := HC.out 1 0 (by omega) (by omega)
        rw [done_end hp hp'] at this
        exact this
      have r3 := y.keep (R1.out 3 (by omega))
      have f3 : y.W.frozen? ⟨w.heap.size + 1 + 1, 3, none⟩ = false := (y.ok.frozen (World.block_lt_of_cell? _ _ (R1.out 3 (by omega)))).trans (RF.out 3)
      have o4 : y.W.cell? ⟨w.heap.size + 1 + 1 + 1, 4, none⟩ = some (.int .u8 ((timesM p i g h).r1.b.toNat : Int)) := by
        have := HC.out 1 1 (by omega) (by omega)
        rw [done_end hp hp'] at this
        exact this
      have r4 := y.keep (R1.out 4 (by omega))
      have f4 : y.W.frozen? ⟨w.heap.size + 1 + 1, 4, none⟩ = false := (y.ok.frozen (World.block_lt_of_cell? _ _ (R1.out 4 (by omega)))).trans (RF.out 4)
      have o5 : y.W.cell? ⟨w.heap.size + 1 + 1 + 1, 5, none⟩ = some (.int .u8 ((timesM p i g h).r1.c.toNat : Int)) := by
        have := HC.out 1 2 (by omega) (by omega)
        rw [done_end hp hp'] at this
        exact this
      have r5 := y.keep (R1.out 5 (by omega))
      have f5 : y.W.frozen? ⟨w.heap.size + 1 + 1, 5, none⟩ = false := (y.ok.frozen (World.block_lt_of_cell? _ _ (R1.out 5 (by omega)))).trans (RF.out 5)
      have o6 : y.W.cell? ⟨w.heap.size + 1 + 1 + 1, 6, none⟩ = some (.int .u8 ((timesM p i g h).r2.a.toNat : Int)) := by
        have := HC.out 2 0 (by omega) (by omega)
        rw [done_end hp hp'] at this
        exact this
      have r6 := y.keep (R1.out 6 (by omega))
      have f6 : y.W.frozen? ⟨w.heap.size + 1 + 1, 6, none⟩ = false := (y.ok.frozen (World.block_lt_of_cell? _ _ (R1.out 6 (by omega)))).trans (RF.out 6)
      have o7 : y.W.cell? ⟨w.heap.size + 1 + 1 + 1, 7, none⟩ = some (.int .u8 ((timesM p i g h).r2.b.toNat : Int)) := by
        have := HC.out 2 1 (by omega) (by omega)
        rw [done_end hp hp'] at this
        exact this
      have r7 := y.keep (R1.out 7 (by omega))
      have f7 : y.W.frozen? ⟨w.heap.size + 1 + 1, 7, none⟩ = false := (y.ok.frozen (World.block_lt_of_cell? _ _ (R1.out 7 (by omega)))).trans (RF.out 7)
      have o8 : y.W.cell? ⟨w.heap.size + 1 + 1 + 1, 8, none⟩ = some (.int .u8 ((timesM p i g h).r2.c.toNat : Int)) := by
        have := HC.out 2 2 (by omega) (by omega)
        rw [done_end hp hp'] at this
        exact this
      have r8 := y.keep (R1.out 8 (by omega))
      have f8 : y.W.frozen? ⟨w.heap.size + 1 + 1, 8, none⟩ = false := (y.ok.frozen (World.block_lt_of_cell? _ _ (R1.out 8 (by omega)))).trans (RF.out 8)
      generalize timesM p i g h = tm at *
      have hb0 := HB0.out
      have hzy : w.heap.size + 3 ≤ y.W.heap.size := by have := y.ok.size; omega
      go_wp2
      exact bodyPost_ret (v := .agg #[.int .u8 (tm.r0.a.toNat : Int), .int .u8 (tm.r0.b.toNat : Int), .int .u8 (tm.r0.c.toNat : Int), .int .u8 (tm.r1.a.toNat : Int), .int .u8 (tm.r1.b.toNat : Int), .int .u8 (tm.r1.c.toNat : Int), .int .u8 (tm.r2.a.toNat : Int), .int .u8 (tm.r2.b.toNat : Int), .int .u8 (tm.r2.c.toNat : Int)]) (by simp [results, Try.results73, go_sem, r0, r1, r2, r3, r4, r5, r6, r7, r8]) rfl (.mk rfl (by repeat (first | (with_reducible assumption) | (with_reducible exact Below.refl _ _) | ((with_reducible refine Below.alloc ?_ ?_ _); rotate_left; (focus (first | omega | (simp; done) | (simp; omega) | (simp [Later.le, Later.le_add, Later.lt, Later.lt_add]; done) | (simp [Later.le, Later.le_add, Later.lt, Later.lt_add]; omega)))) | (with_reducible refine Below.drew ?_) | (with_reducible refine pw_below_drewN ?_ _) | ((with_reducible refine Below.setCell ?_ ?_ _); rotate_left; (focus (first | omega | (simp; done) | (simp; omega) | (simp [Later.le, Later.le_add, Later.lt, Later.lt_add]; done) | (simp [Later.le, Later.le_add, Later.lt, Later.lt_add]; omega)))) | ((with_reducible refine below_hop (by assumption) ?_ ?_); rotate_left; (focus (first | omega | (simp; done) | (simp; omega) | (simp [Later.le, Later.le_add, Later.lt, Later.lt_add]; done) | (simp [Later.le, Later.le_add, Later.lt, Later.lt_add]; omega)))) | ((with_reducible refine bel_later _ ?_ ?_); rotate_left; (focus (first | omega | (simp; done) | (simp; omega) | (simp [Later.le, Later.le_add, Later.lt, Later.lt_add]; done) | (simp [Later.le, Later.le_add, Later.lt, Later.lt_add]; omega)))))))
end Go.Proofs.Ytafdakamibpjaaa
