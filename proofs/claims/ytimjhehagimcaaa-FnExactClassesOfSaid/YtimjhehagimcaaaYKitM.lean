/- Walks of the functions on polynomials, numbers and rows, of both sides; no condition. -/
import Derived.Test.YtimjhehagimcaaaYKitA
import Derived.Stop.BytesEq
import Derived.BigQuiet
/- The walks of the functions on matrices; no condition. -/
set_option linter.unusedVariables false
set_option linter.unusedSimpArgs false
namespace Go.Proofs.Ytimjhehagimcaaa
open Go.RowKit Go.Proofs.YtimjhehagimcaaaW.PrintWords
attribute [local go_sem] Later.cell Later.frozen Later.lt Later.lt_add Later.le Later.le_add Later.ne Later.ne' add_at
/-- A matrix. -/
structure M9 where
  r0 : E3
  r1 : E3
  r2 : E3
  deriving DecidableEq
def M9.cs (m : M9) : List Value := m.r0.cs ++ m.r1.cs ++ m.r2.cs
def kM : Kd M9 := flat 9 M9.cs (fun _ => rfl) (fun x u hu => by simp [M9.cs, E3.cs] at hu; rcases hu with rfl | rfl | rfl | rfl | rfl | rfl | rfl | rfl | rfl <;> rfl)
set_option maxRecDepth 100000 in
theorem toByteA3_c (e : E3) (w : World) : Calls Try.prog 129 #[.agg #[.int .u8 (e.a.toNat : Int), .int .u8 (e.b.toNat : Int), .int .u8 (e.c.toNat : Int)]] w (Gives (.agg #[.int .u8 (e.a.toNat : Int), .int .u8 (e.b.toNat : Int), .int .u8 (e.c.toNat : Int)]) w) := by
  go_enter Try.func129, Try.ntmps129
  go_wp2
  refine wp_loop_rounds 4 ?_
  rw [rounds_succ]
  go_wp2
  rw [rounds_succ]
  go_wp2
  rw [rounds_succ]
  go_wp2
  rw [rounds_succ]
  go_wp2
  exact bodyPost_ret (v := .agg #[.int .u8 (e.a.toNat : Int), .int .u8 (e.b.toNat : Int), .int .u8 (e.c.toNat : Int)]) (by simp [results, Try.results129, go_sem]) rfl (.mk rfl bq1)
theorem toByteA3_v (a b c : UInt8) (w : World) : Calls Try.prog 129 #[.agg #[.int .u8 (a.toNat : Int), .int .u8 (b.toNat : Int), .int .u8 (c.toNat : Int)]] w (Gives (.agg #[.int .u8 (a.toNat : Int), .int .u8 (b.toNat : Int), .int .u8 (c.toNat : Int)]) w) := toByteA3_c ⟨a, b, c⟩ w
set_option maxRecDepth 100000 in
set_option maxHeartbeats 1000000 in
theorem toMatrix_c (m : M9) (w : World) : Calls Try.prog 105 #[.agg #[.int .u8 (m.r0.a.toNat : Int), .int .u8 (m.r0.b.toNat : Int), .int .u8 (m.r0.c.toNat : Int), .int .u8 (m.r1.a.toNat : Int), .int .u8 (m.r1.b.toNat : Int), .int .u8 (m.r1.c.toNat : Int), .int .u8 (m.r2.a.toNat : Int), .int .u8 (m.r2.b.toNat : Int), .int .u8 (m.r2.c.toNat : Int)]] w (Gives (.agg #[.int .u8 (m.r0.a.toNat : Int), .int .u8 (m.r0.b.toNat : Int), .int .u8 (m.r0.c.toNat : Int), .int .u8 (m.r1.a.toNat : Int), .int .u8 (m.r1.b.toNat : Int), .int .u8 (m.r1.c.toNat : Int), .int .u8 (m.r2.a.toNat : Int), .int .u8 (m.r2.b.toNat : Int), .int .u8 (m.r2.c.toNat : Int)]) w) := by
  go_enter Try.func105, Try.ntmps105
  go_wp2
  refine wp_loop_rounds 4 ?_
  rw [rounds_succ]
  go_wp2_with ((go_at_call 129; (first | (with_reducible refine call_later2 (toByteA3_v _ _ _ _) ?_) | (with_reducible refine call_later (toByteA3_v _ _ _ _) ?_)); intro x1; have gb : Below (w.alloc (.cells #[.int .u8 (m.r0.a.toNat : Int), .int .u8 (m.r0.b.toNat : Int), .int .u8 (m.r0.c.toNat : Int), .int .u8 (m.r1.a.toNat : Int), .int .u8 (m.r1.b.toNat : Int), .int .u8 (m.r1.c.toNat : Int), .int .u8 (m.r2.a.toNat : Int), .int .u8 (m.r2.b.toNat : Int), .int .u8 (m.r2.c.toNat : Int)] 40)).heap.size (w.alloc (.cells #[.int .u8 (m.r0.a.toNat : Int), .int .u8 (m.r0.b.toNat : Int), .int .u8 (m.r0.c.toNat : Int), .int .u8 (m.r1.a.toNat : Int), .int .u8 (m.r1.b.toNat : Int), .int .u8 (m.r1.c.toNat : Int), .int .u8 (m.r2.a.toNat : Int), .int .u8 (m.r2.b.toNat : Int), .int .u8 (m.r2.c.toNat : Int)] 40)) x1.W := bq1; have b0 : x1.W.cell? ⟨w.heap.size, 0, none⟩ = some (.int .u8 (m.r0.a.toNat : Int)) := (gb.cell (by simp)).trans (by simp); have b1 : x1.W.cell? ⟨w.heap.size, 1, none⟩ = some (.int .u8 (m.r0.b.toNat : Int)) := (gb.cell (by simp)).trans (by simp); have b2 : x1.W.cell? ⟨w.heap.size, 2, none⟩ = some (.int .u8 (m.r0.c.toNat : Int)) := (gb.cell (by simp)).trans (by simp); have b3 : x1.W.cell? ⟨w.heap.size, 3, none⟩ = some (.int .u8 (m.r1.a.toNat : Int)) := (gb.cell (by simp)).trans (by simp); have b4 : x1.W.cell? ⟨w.heap.size, 4, none⟩ = some (.int .u8 (m.r1.b.toNat : Int)) := (gb.cell (by simp)).trans (by simp); have b5 : x1.W.cell? ⟨w.heap.size, 5, none⟩ = some (.int .u8 (m.r1.c.toNat : Int)) := (gb.cell (by simp)).trans (by simp); have b6 : x1.W.cell? ⟨w.heap.size, 6, none⟩ = some (.int .u8 (m.r2.a.toNat : Int)) := (gb.cell (by simp)).trans (by simp); have b7 : x1.W.cell? ⟨w.heap.size, 7, none⟩ = some (.int .u8 (m.r2.b.toNat : Int)) := (gb.cell (by simp)).trans (by simp); have b8 : x1.W.cell? ⟨w.heap.size, 8, none⟩ = some (.int .u8 (m.r2.c.toNat : Int)) := (gb.cell (by simp)).trans (by simp); clear gb; have hzx1 : w.heap.size + 2 < x1.W.heap.size := (by have := x1.ok.size; simp at this; omega); have o0 : x1.W.cell? ⟨w.heap.size + 1 + 1, 0, none⟩ = some (.int .u8 0) := x1.keep bq5; have o1 : x1.W.cell? ⟨w.heap.size + 1 + 1, 1, none⟩ = some (.int .u8 0) := x1.keep bq5; have o2 : x1.W.cell? ⟨w.heap.size + 1 + 1, 2, none⟩ = some (.int .u8 0) := x1.keep bq5; have o3 : x1.W.cell? ⟨w.heap.size + 1 + 1, 3, none⟩ = some (.int .u8 0) := x1.keep bq5; have o4 : x1.W.cell? ⟨w.heap.size + 1 + 1, 4, none⟩ = some (.int .u8 0) := x1.keep bq5; have o5 : x1.W.cell? ⟨w.heap.size + 1 + 1, 5, none⟩ = some (.int .u8 0) := x1.keep bq5; have o6 : x1.W.cell? ⟨w.heap.size + 1 + 1, 6, none⟩ = some (.int .u8 0) := x1.keep bq5; have o7 : x1.W.cell? ⟨w.heap.size + 1 + 1, 7, none⟩ = some (.int .u8 0) := x1.keep bq5; have o8 : x1.W.cell? ⟨w.heap.size + 1 + 1, 8, none⟩ = some (.int .u8 0) := x1.keep bq5))
  rw [rounds_succ]
  go_wp2_with (go_at_call 129; (first | (with_reducible refine call_later2 (toByteA3_v _ _ _ _) ?_) | (with_reducible refine call_later (toByteA3_v _ _ _ _) ?_)); intro x2; have gb : Below (w.alloc (.cells #[.int .u8 (m.r0.a.toNat : Int), .int .u8 (m.r0.b.toNat : Int), .int .u8 (m.r0.c.toNat : Int), .int .u8 (m.r1.a.toNat : Int), .int .u8 (m.r1.b.toNat : Int), .int .u8 (m.r1.c.toNat : Int), .int .u8 (m.r2.a.toNat : Int), .int .u8 (m.r2.b.toNat : Int), .int .u8 (m.r2.c.toNat : Int)] 40)).heap.size (w.alloc (.cells #[.int .u8 (m.r0.a.toNat : Int), .int .u8 (m.r0.b.toNat : Int), .int .u8 (m.r0.c.toNat : Int), .int .u8 (m.r1.a.toNat : Int), .int .u8 (m.r1.b.toNat : Int), .int .u8 (m.r1.c.toNat : Int), .int .u8 (m.r2.a.toNat : Int), .int .u8 (m.r2.b.toNat : Int), .int .u8 (m.r2.c.toNat : Int)] 40)) x2.W := bq1; have b0 : x2.W.cell? ⟨w.heap.size, 0, none⟩ = some (.int .u8 (m.r0.a.toNat : Int)) := (gb.cell (by simp)).trans (by simp); have b1 : x2.W.cell? ⟨w.heap.size, 1, none⟩ = some (.int .u8 (m.r0.b.toNat : Int)) := (gb.cell (by simp)).trans (by simp); have b2 : x2.W.cell? ⟨w.heap.size, 2, none⟩ = some (.int .u8 (m.r0.c.toNat : Int)) := (gb.cell (by simp)).trans (by simp); have b3 : x2.W.cell? ⟨w.heap.size, 3, none⟩ = some (.int .u8 (m.r1.a.toNat : Int)) := (gb.cell (by simp)).trans (by simp); have b4 : x2.W.cell? ⟨w.heap.size, 4, none⟩ = some (.int .u8 (m.r1.b.toNat : Int)) := (gb.cell (by simp)).trans (by simp); have b5 : x2.W.cell? ⟨w.heap.size, 5, none⟩ = some (.int .u8 (m.r1.c.toNat : Int)) := (gb.cell (by simp)).trans (by simp); have b6 : x2.W.cell? ⟨w.heap.size, 6, none⟩ = some (.int .u8 (m.r2.a.toNat : Int)) := (gb.cell (by simp)).trans (by simp); have b7 : x2.W.cell? ⟨w.heap.size, 7, none⟩ = some (.int .u8 (m.r2.b.toNat : Int)) := (gb.cell (by simp)).trans (by simp); have b8 : x2.W.cell? ⟨w.heap.size, 8, none⟩ = some (.int .u8 (m.r2.c.toNat : Int)) := (gb.cell (by simp)).trans (by simp); clear gb; have hzx2 : w.heap.size + 2 < x2.W.heap.size := (by have := x2.ok.size; simp at this; omega); have o0 : x2.W.cell? ⟨w.heap.size + 1 + 1, 0, none⟩ = some (.int .u8 (m.r0.a.toNat : Int)) := x2.keep bq5; have o1 : x2.W.cell? ⟨w.heap.size + 1 + 1, 1, none⟩ = some (.int .u8 (m.r0.b.toNat : Int)) := x2.keep bq5; have o2 : x2.W.cell? ⟨w.heap.size + 1 + 1, 2, none⟩ = some (.int .u8 (m.r0.c.toNat : Int)) := x2.keep bq5; have o3 : x2.W.cell? ⟨w.heap.size + 1 + 1, 3, none⟩ = some (.int .u8 0) := x2.keep bq5; have o4 : x2.W.cell? ⟨w.heap.size + 1 + 1, 4, none⟩ = some (.int .u8 0) := x2.keep bq5; have o5 : x2.W.cell? ⟨w.heap.size + 1 + 1, 5, none⟩ = some (.int .u8 0) := x2.keep bq5; have o6 : x2.W.cell? ⟨w.heap.size + 1 + 1, 6, none⟩ = some (.int .u8 0) := x2.keep bq5; have o7 : x2.W.cell? ⟨w.heap.size + 1 + 1, 7, none⟩ = some (.int .u8 0) := x2.keep bq5; have o8 : x2.W.cell? ⟨w.heap.size + 1 + 1, 8, none⟩ = some (.int .u8 0) := x2.keep bq5)
  rw [rounds_succ]
  go_wp2_with (go_at_call 129; (first | (with_reducible refine call_later2 (toByteA3_v _ _ _ _) ?_) | (with_reducible refine call_later (toByteA3_v _ _ _ _) ?_)); intro x3; have gr : Below ((w.alloc (.cells #[.int .u8 (m.r0.a.toNat : Int), .int .u8 (m.r0.b.toNat : Int), .int .u8 (m.r0.c.toNat : Int), .int .u8 (m.r1.a.toNat : Int), .int .u8 (m.r1.b.toNat : Int), .int .u8 (m.r1.c.toNat : Int), .int .u8 (m.r2.a.toNat : Int), .int .u8 (m.r2.b.toNat : Int), .int .u8 (m.r2.c.toNat : Int)] 40)).alloc (.cells #[.int .u8 0, .int .u8 0, .int .u8 0, .int .u8 0, .int .u8 0, .int .u8 0, .int .u8 0, .int .u8 0, .int .u8 0] 41)).heap.size ((w.alloc (.cells #[.int .u8 (m.r0.a.toNat : Int), .int .u8 (m.r0.b.toNat : Int), .int .u8 (m.r0.c.toNat : Int), .int .u8 (m.r1.a.toNat : Int), .int .u8 (m.r1.b.toNat : Int), .int .u8 (m.r1.c.toNat : Int), .int .u8 (m.r2.a.toNat : Int), .int .u8 (m.r2.b.toNat : Int), .int .u8 (m.r2.c.toNat : Int)] 40)).alloc (.cells #[.int .u8 0, .int .u8 0, .int .u8 0, .int .u8 0, .int .u8 0, .int .u8 0, .int .u8 0, .int .u8 0, .int .u8 0] 41)) x3.W := bq1; have fr0 : x3.W.frozen? ⟨w.heap.size + 1, 0, none⟩ = false := (gr.frozen (p := ⟨w.heap.size + 1, 0, none⟩) (by simp)).trans (by first | (simp; done) | go_simp); have fr1 : x3.W.frozen? ⟨w.heap.size + 1, 1, none⟩ = false := (gr.frozen (p := ⟨w.heap.size + 1, 1, none⟩) (by simp)).trans (by first | (simp; done) | go_simp); have fr2 : x3.W.frozen? ⟨w.heap.size + 1, 2, none⟩ = false := (gr.frozen (p := ⟨w.heap.size + 1, 2, none⟩) (by simp)).trans (by first | (simp; done) | go_simp); have fr3 : x3.W.frozen? ⟨w.heap.size + 1, 3, none⟩ = false := (gr.frozen (p := ⟨w.heap.size + 1, 3, none⟩) (by simp)).trans (by first | (simp; done) | go_simp); have fr4 : x3.W.frozen? ⟨w.heap.size + 1, 4, none⟩ = false := (gr.frozen (p := ⟨w.heap.size + 1, 4, none⟩) (by simp)).trans (by first | (simp; done) | go_simp); have fr5 : x3.W.frozen? ⟨w.heap.size + 1, 5, none⟩ = false := (gr.frozen (p := ⟨w.heap.size + 1, 5, none⟩) (by simp)).trans (by first | (simp; done) | go_simp); have fr6 : x3.W.frozen? ⟨w.heap.size + 1, 6, none⟩ = false := (gr.frozen (p := ⟨w.heap.size + 1, 6, none⟩) (by simp)).trans (by first | (simp; done) | go_simp); have fr7 : x3.W.frozen? ⟨w.heap.size + 1, 7, none⟩ = false := (gr.frozen (p := ⟨w.heap.size + 1, 7, none⟩) (by simp)).trans (by first | (simp; done) | go_simp); have fr8 : x3.W.frozen? ⟨w.heap.size + 1, 8, none⟩ = false := (gr.frozen (p := ⟨w.heap.size + 1, 8, none⟩) (by simp)).trans (by first | (simp; done) | go_simp); clear gr; have r0 : x3.W.cell? ⟨w.heap.size + 1, 0, none⟩ = some (.int .u8 0) := x3.keep bq5; have r1 : x3.W.cell? ⟨w.heap.size + 1, 1, none⟩ = some (.int .u8 0) := x3.keep bq5; have r2 : x3.W.cell? ⟨w.heap.size + 1, 2, none⟩ = some (.int .u8 0) := x3.keep bq5; have r3 : x3.W.cell? ⟨w.heap.size + 1, 3, none⟩ = some (.int .u8 0) := x3.keep bq5; have r4 : x3.W.cell? ⟨w.heap.size + 1, 4, none⟩ = some (.int .u8 0) := x3.keep bq5; have r5 : x3.W.cell? ⟨w.heap.size + 1, 5, none⟩ = some (.int .u8 0) := x3.keep bq5; have r6 : x3.W.cell? ⟨w.heap.size + 1, 6, none⟩ = some (.int .u8 0) := x3.keep bq5; have r7 : x3.W.cell? ⟨w.heap.size + 1, 7, none⟩ = some (.int .u8 0) := x3.keep bq5; have r8 : x3.W.cell? ⟨w.heap.size + 1, 8, none⟩ = some (.int .u8 0) := x3.keep bq5; have gb : Below (w.alloc (.cells #[.int .u8 (m.r0.a.toNat : Int), .int .u8 (m.r0.b.toNat : Int), .int .u8 (m.r0.c.toNat : Int), .int .u8 (m.r1.a.toNat : Int), .int .u8 (m.r1.b.toNat : Int), .int .u8 (m.r1.c.toNat : Int), .int .u8 (m.r2.a.toNat : Int), .int .u8 (m.r2.b.toNat : Int), .int .u8 (m.r2.c.toNat : Int)] 40)).heap.size (w.alloc (.cells #[.int .u8 (m.r0.a.toNat : Int), .int .u8 (m.r0.b.toNat : Int), .int .u8 (m.r0.c.toNat : Int), .int .u8 (m.r1.a.toNat : Int), .int .u8 (m.r1.b.toNat : Int), .int .u8 (m.r1.c.toNat : Int), .int .u8 (m.r2.a.toNat : Int), .int .u8 (m.r2.b.toNat : Int), .int .u8 (m.r2.c.toNat : Int)] 40)) x3.W := bq1; have b0 : x3.W.cell? ⟨w.heap.size, 0, none⟩ = some (.int .u8 (m.r0.a.toNat : Int)) := (gb.cell (by simp)).trans (by simp); have b1 : x3.W.cell? ⟨w.heap.size, 1, none⟩ = some (.int .u8 (m.r0.b.toNat : Int)) := (gb.cell (by simp)).trans (by simp); have b2 : x3.W.cell? ⟨w.heap.size, 2, none⟩ = some (.int .u8 (m.r0.c.toNat : Int)) := (gb.cell (by simp)).trans (by simp); have b3 : x3.W.cell? ⟨w.heap.size, 3, none⟩ = some (.int .u8 (m.r1.a.toNat : Int)) := (gb.cell (by simp)).trans (by simp); have b4 : x3.W.cell? ⟨w.heap.size, 4, none⟩ = some (.int .u8 (m.r1.b.toNat : Int)) := (gb.cell (by simp)).trans (by simp); have b5 : x3.W.cell? ⟨w.heap.size, 5, none⟩ = some (.int .u8 (m.r1.c.toNat : Int)) := (gb.cell (by simp)).trans (by simp); have b6 : x3.W.cell? ⟨w.heap.size, 6, none⟩ = some (.int .u8 (m.r2.a.toNat : Int)) := (gb.cell (by simp)).trans (by simp); have b7 : x3.W.cell? ⟨w.heap.size, 7, none⟩ = some (.int .u8 (m.r2.b.toNat : Int)) := (gb.cell (by simp)).trans (by simp); have b8 : x3.W.cell? ⟨w.heap.size, 8, none⟩ = some (.int .u8 (m.r2.c.toNat : Int)) := (gb.cell (by simp)).trans (by simp); clear gb; have hzx3 : w.heap.size + 2 < x3.W.heap.size := (by have := x3.ok.size; simp at this; omega); have o0 : x3.W.cell? ⟨w.heap.size + 1 + 1, 0, none⟩ = some (.int .u8 (m.r0.a.toNat : Int)) := x3.keep bq5; have o1 : x3.W.cell? ⟨w.heap.size + 1 + 1, 1, none⟩ = some (.int .u8 (m.r0.b.toNat : Int)) := x3.keep bq5; have o2 : x3.W.cell? ⟨w.heap.size + 1 + 1, 2, none⟩ = some (.int .u8 (m.r0.c.toNat : Int)) := x3.keep bq5; have o3 : x3.W.cell? ⟨w.heap.size + 1 + 1, 3, none⟩ = some (.int .u8 (m.r1.a.toNat : Int)) := x3.keep bq5; have o4 : x3.W.cell? ⟨w.heap.size + 1 + 1, 4, none⟩ = some (.int .u8 (m.r1.b.toNat : Int)) := x3.keep bq5; have o5 : x3.W.cell? ⟨w.heap.size + 1 + 1, 5, none⟩ = some (.int .u8 (m.r1.c.toNat : Int)) := x3.keep bq5; have o6 : x3.W.cell? ⟨w.heap.size + 1 + 1, 6, none⟩ = some (.int .u8 0) := x3.keep bq5; have o7 : x3.W.cell? ⟨w.heap.size + 1 + 1, 7, none⟩ = some (.int .u8 0) := x3.keep bq5; have o8 : x3.W.cell? ⟨w.heap.size + 1 + 1, 8, none⟩ = some (.int .u8 0) := x3.keep bq5)
  rw [rounds_succ]
  go_wp2
  exact bodyPost_ret (v := .agg #[.int .u8 (m.r0.a.toNat : Int), .int .u8 (m.r0.b.toNat : Int), .int .u8 (m.r0.c.toNat : Int), .int .u8 (m.r1.a.toNat : Int), .int .u8 (m.r1.b.toNat : Int), .int .u8 (m.r1.c.toNat : Int), .int .u8 (m.r2.a.toNat : Int), .int .u8 (m.r2.b.toNat : Int), .int .u8 (m.r2.c.toNat : Int)]) (by simp [results, Try.results105, go_sem, r0, r1, r2, r3, r4, r5, r6, r7, r8]) rfl (.mk rfl bq1)
end Go.Proofs.Ytimjhehagimcaaa
/- The walk of the program's determinant; no condition. -/
set_option linter.unusedVariables false
set_option linter.unusedSimpArgs false
namespace Go.Proofs.Ytimjhehagimcaaa
open Go.RowKit Go.Proofs.YtimjhehagimcaaaW.PrintWords
attribute [local go_sem] Later.cell Later.frozen Later.lt Later.lt_add Later.le Later.le_add Later.ne Later.ne' add_at
/-- Numbers modulo p in the nine places. -/
def M9.le (m : M9) (p : Int) : Prop := ((m.r0.a.toNat : Int) < p ∧ (m.r0.b.toNat : Int) < p ∧ (m.r0.c.toNat : Int) < p) ∧ ((m.r1.a.toNat : Int) < p ∧ (m.r1.b.toNat : Int) < p ∧ (m.r1.c.toNat : Int) < p) ∧ ((m.r2.a.toNat : Int) < p ∧ (m.r2.b.toNat : Int) < p ∧ (m.r2.c.toNat : Int) < p)
def detI (n : Int) (m : M9) : Int :=
  if n = 2 then (m.r0.a.toNat : Int) * m.r1.b.toNat - (m.r0.b.toNat : Int) * m.r1.a.toNat
  else if n = 3 then (m.r0.a.toNat : Int) * ((m.r1.b.toNat : Int) * m.r2.c.toNat - (m.r1.c.toNat : Int) * m.r2.b.toNat) - (m.r0.b.toNat : Int) * ((m.r1.a.toNat : Int) * m.r2.c.toNat - (m.r1.c.toNat : Int) * m.r2.a.toNat) + (m.r0.c.toNat : Int) * ((m.r1.a.toNat : Int) * m.r2.b.toNat - (m.r1.b.toNat : Int) * m.r2.a.toNat)
  else (m.r0.a.toNat : Int)
theorem mul_bd3 {x y : Int} (hx : 0 ≤ x) (hx' : x ≤ 12) (hy : 0 ≤ y) (hy' : y ≤ 12) : 0 ≤ x * y ∧ x * y ≤ 144 := by
  refine ⟨Int.mul_nonneg hx hy, ?_⟩
  have h1 := Int.mul_le_mul (a := x) (b := y) (c := 12) (d := 12) (by omega) (by omega) hy (by omega)
  omega
theorem mul_bd4 {x y : Int} (hx : 0 ≤ x) (hx' : x ≤ 12) (hy : -144 ≤ y) (hy' : y ≤ 144) : -1728 ≤ x * y ∧ x * y ≤ 1728 := by
  have h1 := Int.mul_le_mul (a := x) (b := y + 144) (c := 12) (d := 288) (by omega) (by omega) (by omega) (by omega)
  have h2 := Int.mul_nonneg hx (show 0 ≤ y + 144 by omega)
  have h3 := Int.mul_le_mul (a := x) (b := 144 - y) (c := 12) (d := 288) (by omega) (by omega) (by omega) (by omega)
  have h4 := Int.mul_nonneg hx (show 0 ≤ 144 - y by omega)
  rw [Int.mul_add] at h1 h2
  rw [Int.mul_sub] at h3 h4
  omega
theorem tmod_fix {x p : Int} (hp : 2 ≤ p) (hp' : p ≤ 13) : (wrap64 (x.tmod p + p)).tmod p = x % p := by
  have h1 : x.tmod p < p := Int.tmod_lt_of_pos _ (by omega)
  have h2 : -p < x.tmod p := by
    have := Int.tmod_lt_of_pos (-x) (show 0 < p by omega)
    rw [Int.neg_tmod] at this
    omega
  have h3 : wrap64 (x.tmod p + p) = x.tmod p + p := by unfold wrap64; omega
  rw [h3, Int.tmod_eq_emod_of_nonneg (by omega), Int.add_emod_right, Int.tmod_def, Int.sub_mul_emod_self_left]
theorem mod_fix {x p : Int} (hx : 0 ≤ x) (hp : 2 ≤ p) (hp' : p ≤ 13) : (wrap64 (x % p + p)).tmod p = x % p := by
  have h := tmod_fix (x := x) hp hp'
  rwa [Int.tmod_eq_emod_of_nonneg hx] at h
set_option maxRecDepth 100000 in
set_option maxHeartbeats 2000000 in
theorem determinant_c (p n : Int) (m : M9) (w : World) (hp : 2 ≤ p) (hp' : p ≤ 13) (hn1 : 1 ≤ n) (hn3 : n ≤ 3) (hm : m.le p) :
    Calls Try.prog 66 #[.int .i64 p, .int .i64 n, .agg #[.int .u8 (m.r0.a.toNat : Int), .int .u8 (m.r0.b.toNat : Int), .int .u8 (m.r0.c.toNat : Int), .int .u8 (m.r1.a.toNat : Int), .int .u8 (m.r1.b.toNat : Int), .int .u8 (m.r1.c.toNat : Int), .int .u8 (m.r2.a.toNat : Int), .int .u8 (m.r2.b.toNat : Int), .int .u8 (m.r2.c.toNat : Int)]] w (Gives (.int .i64 (detI n m % p)) w) := by
  obtain ⟨⟨ha, hb, hc⟩, ⟨hd, he, hf⟩, hg, hh, hi⟩ := hm
  have hn : n = 1 ∨ n = 2 ∨ n = 3 := by omega
  unfold detI
  have a0 : 0 ≤ (m.r0.a.toNat : Int) := by omega
  generalize (m.r0.a.toNat : Int) = a at *
  have b0 : 0 ≤ (m.r0.b.toNat : Int) := by omega
  generalize (m.r0.b.toNat : Int) = b at *
  have c0 : 0 ≤ (m.r0.c.toNat : Int) := by omega
  generalize (m.r0.c.toNat : Int) = c at *
  have d0 : 0 ≤ (m.r1.a.toNat : Int) := by omega
  generalize (m.r1.a.toNat : Int) = d at *
  have e0 : 0 ≤ (m.r1.b.toNat : Int) := by omega
  generalize (m.r1.b.toNat : Int) = e at *
  have f0 : 0 ≤ (m.r1.c.toNat : Int) := by omega
  generalize (m.r1.c.toNat : Int) = f at *
  have g0 : 0 ≤ (m.r2.a.toNat : Int) := by omega
  generalize (m.r2.a.toNat : Int) = g at *
  have h0 : 0 ≤ (m.r2.b.toNat : Int) := by omega
  generalize (m.r2.b.toNat : Int) = h at *
  have i0 : 0 ≤ (m.r2.c.toNat : Int) := by omega
  generalize (m.r2.c.toNat : Int) = i at *
  have hpz : p ≠ 0 := by omega
  rcases hn with rfl | rfl | rfl
  · go_enter Try.func66, Try.ntmps66
    go_wp2
    go_ret
    refine .mk ?_ bq1
    exact congrArg (Value.int .i64) (mod_fix a0 hp hp')
  · have m1 := mul_bd3 (x := a) (y := e) a0 (by omega) e0 (by omega)
    have m2 := mul_bd3 (x := b) (y := d) b0 (by omega) d0 (by omega)
    go_enter Try.func66, Try.ntmps66
    go_wp2
    go_ret
    refine .mk ?_ bq1
    exact congrArg (Value.int .i64) (tmod_fix hp hp')
  · have m1 := mul_bd3 (x := e) (y := i) e0 (by omega) i0 (by omega)
    have m2 := mul_bd3 (x := f) (y := h) f0 (by omega) h0 (by omega)
    have m3 := mul_bd3 (x := d) (y := i) d0 (by omega) i0 (by omega)
    have m4 := mul_bd3 (x := f) (y := g) f0 (by omega) g0 (by omega)
    have m5 := mul_bd3 (x := d) (y := h) d0 (by omega) h0 (by omega)
    have m6 := mul_bd3 (x := e) (y := g) e0 (by omega) g0 (by omega)
    have m7 := mul_bd4 (x := a) (y := e * i - f * h) a0 (by omega) (by omega) (by omega)
    have m8 := mul_bd4 (x := b) (y := d * i - f * g) b0 (by omega) (by omega) (by omega)
    have m9 := mul_bd4 (x := c) (y := d * h - e * g) c0 (by omega) (by omega) (by omega)
    go_enter Try.func66, Try.ntmps66
    go_wp2
    go_ret
    refine .mk ?_ bq1
    exact congrArg (Value.int .i64) (tmod_fix hp hp')
end Go.Proofs.Ytimjhehagimcaaa
/- The walks of the unit matrices; no condition. -/
set_option linter.unusedVariables false
set_option linter.unusedSimpArgs false
namespace Go.Proofs.Ytimjhehagimcaaa
open Go.RowKit Go.Proofs.YtimjhehagimcaaaW.PrintWords
attribute [local go_sem] Later.cell Later.frozen Later.lt Later.lt_add Later.le Later.le_add Later.ne Later.ne' add_at
def unitM (n : Int) : M9 := ⟨⟨if 0 < n then 1 else 0, 0, 0⟩, ⟨0, if 1 < n then 1 else 0, 0⟩, ⟨0, 0, if 2 < n then 1 else 0⟩⟩
set_option maxRecDepth 100000 in
theorem unit_c (n : Int) (w : World) (h1 : 1 ≤ n) (h3 : n ≤ 3) : Calls Try.prog 70 #[.int .i64 n] w (Gives (.agg #[.int .u8 ((unitM n).r0.a.toNat : Int), .int .u8 ((unitM n).r0.b.toNat : Int), .int .u8 ((unitM n).r0.c.toNat : Int), .int .u8 ((unitM n).r1.a.toNat : Int), .int .u8 ((unitM n).r1.b.toNat : Int), .int .u8 ((unitM n).r1.c.toNat : Int), .int .u8 ((unitM n).r2.a.toNat : Int), .int .u8 ((unitM n).r2.b.toNat : Int), .int .u8 ((unitM n).r2.c.toNat : Int)]) w) := by
  have hn : n = 1 ∨ n = 2 ∨ n = 3 := by omega
  rcases hn with rfl | rfl | rfl
  · go_enter Try.func70, Try.ntmps70
    go_wp2
    refine wp_loop_rounds 4 ?_
    rw [rounds_succ]
    go_wp2
    rw [rounds_succ]
    go_wp2
    exact bodyPost_ret (v := .agg #[.int .u8 1, .int .u8 0, .int .u8 0, .int .u8 0, .int .u8 0, .int .u8 0, .int .u8 0, .int .u8 0, .int .u8 0]) (by simp [results, Try.results70, go_sem]) rfl (.mk rfl bq1)
  · go_enter Try.func70, Try.ntmps70
    go_wp2
    refine wp_loop_rounds 4 ?_
    rw [rounds_succ]
    go_wp2
    rw [rounds_succ]
    go_wp2
    rw [rounds_succ]
    go_wp2
    exact bodyPost_ret (v := .agg #[.int .u8 1, .int .u8 0, .int .u8 0, .int .u8 0, .int .u8 1, .int .u8 0, .int .u8 0, .int .u8 0, .int .u8 0]) (by simp [results, Try.results70, go_sem]) rfl (.mk rfl bq1)
  · go_enter Try.func70, Try.ntmps70
    go_wp2
    refine wp_loop_rounds 4 ?_
    rw [rounds_succ]
    go_wp2
    rw [rounds_succ]
    go_wp2
    rw [rounds_succ]
    go_wp2
    rw [rounds_succ]
    go_wp2
    exact bodyPost_ret (v := .agg #[.int .u8 1, .int .u8 0, .int .u8 0, .int .u8 0, .int .u8 1, .int .u8 0, .int .u8 0, .int .u8 0, .int .u8 1]) (by simp [results, Try.results70, go_sem]) rfl (.mk rfl bq1)
set_option maxRecDepth 100000 in
theorem l02Unit_c (n : Int) (w : World) (h1 : 1 ≤ n) (h3 : n ≤ 3) : Calls Try.prog 60 #[.int .i64 n] w (Gives (.agg #[.int .u8 ((unitM n).r0.a.toNat : Int), .int .u8 ((unitM n).r0.b.toNat : Int), .int .u8 ((unitM n).r0.c.toNat : Int), .int .u8 ((unitM n).r1.a.toNat : Int), .int .u8 ((unitM n).r1.b.toNat : Int), .int .u8 ((unitM n).r1.c.toNat : Int), .int .u8 ((unitM n).r2.a.toNat : Int), .int .u8 ((unitM n).r2.b.toNat : Int), .int .u8 ((unitM n).r2.c.toNat : Int)]) w) := by
  have hn : n = 1 ∨ n = 2 ∨ n = 3 := by omega
  rcases hn with rfl | rfl | rfl
  · go_enter Try.func60, Try.ntmps60
    go_wp2
    refine wp_loop_rounds 4 ?_
    rw [rounds_succ]
    go_wp2
    rw [rounds_succ]
    go_wp2
    exact bodyPost_ret (v := .agg #[.int .u8 1, .int .u8 0, .int .u8 0, .int .u8 0, .int .u8 0, .int .u8 0, .int .u8 0, .int .u8 0, .int .u8 0]) (by simp [results, Try.results60, go_sem]) rfl (.mk rfl bq1)
  · go_enter Try.func60, Try.ntmps60
    go_wp2
    refine wp_loop_rounds 4 ?_
    rw [rounds_succ]
    go_wp2
    rw [rounds_succ]
    go_wp2
    rw [rounds_succ]
    go_wp2
    exact bodyPost_ret (v := .agg #[.int .u8 1, .int .u8 0, .int .u8 0, .int .u8 0, .int .u8 1, .int .u8 0, .int .u8 0, .int .u8 0, .int .u8 0]) (by simp [results, Try.results60, go_sem]) rfl (.mk rfl bq1)
  · go_enter Try.func60, Try.ntmps60
    go_wp2
    refine wp_loop_rounds 4 ?_
    rw [rounds_succ]
    go_wp2
    rw [rounds_succ]
    go_wp2
    rw [rounds_succ]
    go_wp2
    rw [rounds_succ]
    go_wp2
    exact bodyPost_ret (v := .agg #[.int .u8 1, .int .u8 0, .int .u8 0, .int .u8 0, .int .u8 1, .int .u8 0, .int .u8 0, .int .u8 0, .int .u8 1]) (by simp [results, Try.results60, go_sem]) rfl (.mk rfl bq1)
end Go.Proofs.Ytimjhehagimcaaa
/- The walks of the products of matrices; no condition. -/
set_option linter.unusedVariables false
set_option linter.unusedSimpArgs false
namespace Go.Proofs.Ytimjhehagimcaaa
open Go.RowKit Go.Proofs.YtimjhehagimcaaaW.PrintWords
attribute [local go_sem] Later.cell Later.frozen Later.lt Later.lt_add Later.le Later.le_add Later.ne Later.ne' add_at
def M9.row (m : M9) (i : Nat) : E3 := if i = 0 then m.r0 else if i = 1 then m.r1 else m.r2
def M9.at (m : M9) (i j : Nat) : UInt8 := (m.row i).at j
def mkM (f : Nat → Nat → UInt8) : M9 := ⟨⟨f 0 0, f 0 1, f 0 2⟩, ⟨f 1 0, f 1 1, f 1 2⟩, ⟨f 2 0, f 2 1, f 2 2⟩⟩
/-- The first k products of row i and column j. -/
def sumT (g h : M9) (i j : Nat) : Nat → Int
  | 0 => 0
  | k + 1 => sumT g h i j k + ((g.at i k).toNat : Int) * ((h.at k j).toNat : Int)
def timesM (p : Int) (n : Nat) (g h : M9) : M9 := mkM (fun i j => if i < n ∧ j < n then uB (sumT g h i j n % p) else 0)
theorem at_le {m : M9} {p : Int} (h : m.le p) (i j : Nat) : ((m.at i j).toNat : Int) < p := by
  obtain ⟨⟨h1, h2, h3⟩, ⟨h4, h5, h6⟩, h7, h8, h9⟩ := h
  unfold M9.at M9.row E3.at
  by_cases i0 : i = 0 <;> by_cases i1 : i = 1 <;> by_cases j0 : j = 0 <;> by_cases j1 : j = 1 <;> simp [*]
theorem sumT_bd {g h : M9} {p : Int} (hp : p ≤ 13) (hg : g.le p) (hh : h.le p) (i j : Nat) : ∀ k, k ≤ 3 → 0 ≤ sumT g h i j k ∧ sumT g h i j k ≤ 144 * k
  | 0, _ => by simp [sumT]
  | k + 1, hk => by
    have h1 := sumT_bd hp hg hh i j k (by omega)
    have a1 := at_le hg i k
    have a2 := at_le hh k j
    have h2 := mul_bd3 (x := ((g.at i k).toNat : Int)) (y := ((h.at k j).toNat : Int)) (by omega) (by omega) (by omega) (by omega)
    rw [sumT]
    omega
theorem box_at (w : World) (m : M9) (t : TypeId) (i j : Nat) (hi : i < 3) (hj : j < 3) : (w.alloc (.cells #[.int .u8 (m.r0.a.toNat : Int), .int .u8 (m.r0.b.toNat : Int), .int .u8 (m.r0.c.toNat : Int), .int .u8 (m.r1.a.toNat : Int), .int .u8 (m.r1.b.toNat : Int), .int .u8 (m.r1.c.toNat : Int), .int .u8 (m.r2.a.toNat : Int), .int .u8 (m.r2.b.toNat : Int), .int .u8 (m.r2.c.toNat : Int)] t)).cell? ⟨w.heap.size, i * 3 + j, none⟩ = some (.int .u8 ((m.at i j).toNat : Int)) := by
  rcases lt3 hi with rfl | rfl | rfl <;> rcases lt3 hj with rfl | rfl | rfl <;> simp [M9.at, M9.row, E3.at]
end Go.Proofs.Ytimjhehagimcaaa
/- The walk of the reference's product of matrices; no condition. -/
set_option linter.unusedVariables false
set_option linter.unusedSimpArgs false
namespace Go.Proofs.Ytimjhehagimcaaa
open Go.RowKit Go.Proofs.YtimjhehagimcaaaW.PrintWords
attribute [local go_sem] Later.cell Later.frozen Later.lt Later.lt_add Later.le Later.le_add Later.ne Later.ne' add_at
/-- What has been laid into the product before place i, j. -/
def doneT (p : Int) (n : Nat) (g h : M9) (i j : Nat) (i' j' : Nat) : Int := if j' < n ∧ (i' < i ∨ (i' = i ∧ j' < j)) then sumT g h i' j' n % p else 0
theorem z_at (W : World) (t : TypeId) (i j : Nat) (hi : i < 3) (hj : j < 3) : (W.alloc (.cells #[.int .u8 0, .int .u8 0, .int .u8 0, .int .u8 0, .int .u8 0, .int .u8 0, .int .u8 0, .int .u8 0, .int .u8 0] t)).cell? ⟨W.heap.size, i * 3 + j, none⟩ = some (.int .u8 0) := by
  rcases lt3 hi with rfl | rfl | rfl <;> rcases lt3 hj with rfl | rfl | rfl <;> simp
theorem z_fr (W : World) (O : Obj) (k : Nat) (cs : Array Value) (t : TypeId) (h : O = .cells cs t) : (W.alloc O).frozen? ⟨W.heap.size, k, none⟩ = false := by
  subst h
  simp
theorem done_end {p : Int} (hp : 2 ≤ p) (hp' : p ≤ 13) (n : Nat) (g h : M9) (i j : Nat) : doneT p n g h n 0 i j = (((if i < n ∧ j < n then uB (sumT g h i j n % p) else 0 : UInt8)).toNat : Int) := by
  have := mod_bd (sumT g h i j n) hp
  unfold doneT
  by_cases h1 : i < n ∧ j < n
  · rw [if_pos ⟨h1.2, .inl h1.1⟩, if_pos h1, uB_nat, Int.emod_eq_of_lt this.1 (by omega)]
  · rw [if_neg (by omega), if_neg h1]
    rfl
set_option maxRecDepth 100000 in
set_option maxHeartbeats 2000000 in
theorem l02Times_c (p : Int) (n : Nat) (g h : M9) (w : World) (hp : 2 ≤ p) (hp' : p ≤ 13) (hn1 : 1 ≤ n) (hn3 : n ≤ 3) (hg : g.le p) (hh : h.le p) :
    Calls Try.prog 64 #[.int .i64 p, .int .i64 n, .agg #[.int .u8 (g.r0.a.toNat : Int), .int .u8 (g.r0.b.toNat : Int), .int .u8 (g.r0.c.toNat : Int), .int .u8 (g.r1.a.toNat : Int), .int .u8 (g.r1.b.toNat : Int), .int .u8 (g.r1.c.toNat : Int), .int .u8 (g.r2.a.toNat : Int), .int .u8 (g.r2.b.toNat : Int), .int .u8 (g.r2.c.toNat : Int)], .agg #[.int .u8 (h.r0.a.toNat : Int), .int .u8 (h.r0.b.toNat : Int), .int .u8 (h.r0.c.toNat : Int), .int .u8 (h.r1.a.toNat : Int), .int .u8 (h.r1.b.toNat : Int), .int .u8 (h.r1.c.toNat : Int), .int .u8 (h.r2.a.toNat : Int), .int .u8 (h.r2.b.toNat : Int), .int .u8 (h.r2.c.toNat : Int)]] w (Gives (.agg #[.int .u8 ((timesM p n g h).r0.a.toNat : Int), .int .u8 ((timesM p n g h).r0.b.toNat : Int), .int .u8 ((timesM p n g h).r0.c.toNat : Int), .int .u8 ((timesM p n g h).r1.a.toNat : Int), .int .u8 ((timesM p n g h).r1.b.toNat : Int), .int .u8 ((timesM p n g h).r1.c.toNat : Int), .int .u8 ((timesM p n g h).r2.a.toNat : Int), .int .u8 ((timesM p n g h).r2.b.toNat : Int), .int .u8 ((timesM p n g h).r2.c.toNat : Int)]) w) := by
  have HG := Lib.hid hg
  have HH := Lib.hid hh
  clear hg hh
  go_enter Try.func64, Try.ntmps64
  go_wp2
  have c1 : ∀ i j, i < 3 → j < 3 → (((w.alloc (.cells #[.int .u8 (g.r0.a.toNat : Int), .int .u8 (g.r0.b.toNat : Int), .int .u8 (g.r0.c.toNat : Int), .int .u8 (g.r1.a.toNat : Int), .int .u8 (g.r1.b.toNat : Int), .int .u8 (g.r1.c.toNat : Int), .int .u8 (g.r2.a.toNat : Int), .int .u8 (g.r2.b.toNat : Int), .int .u8 (g.r2.c.toNat : Int)] 41)).alloc (.cells #[.int .u8 (h.r0.a.toNat : Int), .int .u8 (h.r0.b.toNat : Int), .int .u8 (h.r0.c.toNat : Int), .int .u8 (h.r1.a.toNat : Int), .int .u8 (h.r1.b.toNat : Int), .int .u8 (h.r1.c.toNat : Int), .int .u8 (h.r2.a.toNat : Int), .int .u8 (h.r2.b.toNat : Int), .int .u8 (h.r2.c.toNat : Int)] 41)).alloc (.cells #[.int .u8 0, .int .u8 0, .int .u8 0, .int .u8 0, .int .u8 0, .int .u8 0, .int .u8 0, .int .u8 0, .int .u8 0] 41)).cell? ⟨w.heap.size, i * 3 + j, none⟩ = some (.int .u8 ((g.at i j).toNat : Int)) := fun i j hi hj => cell_alloc (cell_alloc (box_at w g _ i j hi hj) _) _
  have c2 : ∀ i j, i < 3 → j < 3 → (((w.alloc (.cells #[.int .u8 (g.r0.a.toNat : Int), .int .u8 (g.r0.b.toNat : Int), .int .u8 (g.r0.c.toNat : Int), .int .u8 (g.r1.a.toNat : Int), .int .u8 (g.r1.b.toNat : Int), .int .u8 (g.r1.c.toNat : Int), .int .u8 (g.r2.a.toNat : Int), .int .u8 (g.r2.b.toNat : Int), .int .u8 (g.r2.c.toNat : Int)] 41)).alloc (.cells #[.int .u8 (h.r0.a.toNat : Int), .int .u8 (h.r0.b.toNat : Int), .int .u8 (h.r0.c.toNat : Int), .int .u8 (h.r1.a.toNat : Int), .int .u8 (h.r1.b.toNat : Int), .int .u8 (h.r1.c.toNat : Int), .int .u8 (h.r2.a.toNat : Int), .int .u8 (h.r2.b.toNat : Int), .int .u8 (h.r2.c.toNat : Int)] 41)).alloc (.cells #[.int .u8 0, .int .u8 0, .int .u8 0, .int .u8 0, .int .u8 0, .int .u8 0, .int .u8 0, .int .u8 0, .int .u8 0] 41)).cell? ⟨w.heap.size + 1, i * 3 + j, none⟩ = some (.int .u8 ((h.at i j).toNat : Int)) := fun i j hi hj => by
    have := cell_alloc (box_at (w.alloc (.cells #[.int .u8 (g.r0.a.toNat : Int), .int .u8 (g.r0.b.toNat : Int), .int .u8 (g.r0.c.toNat : Int), .int .u8 (g.r1.a.toNat : Int), .int .u8 (g.r1.b.toNat : Int), .int .u8 (g.r1.c.toNat : Int), .int .u8 (g.r2.a.toNat : Int), .int .u8 (g.r2.b.toNat : Int), .int .u8 (g.r2.c.toNat : Int)] 41)) h 41 i j hi hj) (.cells #[.int .u8 0, .int .u8 0, .int .u8 0, .int .u8 0, .int .u8 0, .int .u8 0, .int .u8 0, .int .u8 0, .int .u8 0] 41)
    rwa [show (w.alloc (.cells #[.int .u8 (g.r0.a.toNat : Int), .int .u8 (g.r0.b.toNat : Int), .int .u8 (g.r0.c.toNat : Int), .int .u8 (g.r1.a.toNat : Int), .int .u8 (g.r1.b.toNat : Int), .int .u8 (g.r1.c.toNat : Int), .int .u8 (g.r2.a.toNat : Int), .int .u8 (g.r2.b.toNat : Int), .int .u8 (g.r2.c.toNat : Int)] 41)).heap.size = w.heap.size + 1 by simp] at this
  have c3 : ∀ i j, i < 3 → j < 3 → ((((w.alloc (.cells #[.int .u8 (g.r0.a.toNat : Int), .int .u8 (g.r0.b.toNat : Int), .int .u8 (g.r0.c.toNat : Int), .int .u8 (g.r1.a.toNat : Int), .int .u8 (g.r1.b.toNat : Int), .int .u8 (g.r1.c.toNat : Int), .int .u8 (g.r2.a.toNat : Int), .int .u8 (g.r2.b.toNat : Int), .int .u8 (g.r2.c.toNat : Int)] 41)).alloc (.cells #[.int .u8 (h.r0.a.toNat : Int), .int .u8 (h.r0.b.toNat : Int), .int .u8 (h.r0.c.toNat : Int), .int .u8 (h.r1.a.toNat : Int), .int .u8 (h.r1.b.toNat : Int), .int .u8 (h.r1.c.toNat : Int), .int .u8 (h.r2.a.toNat : Int), .int .u8 (h.r2.b.toNat : Int), .int .u8 (h.r2.c.toNat : Int)] 41)).alloc (.cells #[.int .u8 0, .int .u8 0, .int .u8 0, .int .u8 0, .int .u8 0, .int .u8 0, .int .u8 0, .int .u8 0, .int .u8 0] 41)).alloc (.cells #[.int .u8 0, .int .u8 0, .int .u8 0, .int .u8 0, .int .u8 0, .int .u8 0, .int .u8 0, .int .u8 0, .int .u8 0] 41)).cell? ⟨w.heap.size + 1 + 1 + 1, i * 3 + j, none⟩ = some (.int .u8 0) := fun i j hi hj => by
    have := z_at (((w.alloc (.cells #[.int .u8 (g.r0.a.toNat : Int), .int .u8 (g.r0.b.toNat : Int), .int .u8 (g.r0.c.toNat : Int), .int .u8 (g.r1.a.toNat : Int), .int .u8 (g.r1.b.toNat : Int), .int .u8 (g.r1.c.toNat : Int), .int .u8 (g.r2.a.toNat : Int), .int .u8 (g.r2.b.toNat : Int), .int .u8 (g.r2.c.toNat : Int)] 41)).alloc (.cells #[.int .u8 (h.r0.a.toNat : Int), .int .u8 (h.r0.b.toNat : Int), .int .u8 (h.r0.c.toNat : Int), .int .u8 (h.r1.a.toNat : Int), .int .u8 (h.r1.b.toNat : Int), .int .u8 (h.r1.c.toNat : Int), .int .u8 (h.r2.a.toNat : Int), .int .u8 (h.r2.b.toNat : Int), .int .u8 (h.r2.c.toNat : Int)] 41)).alloc (.cells #[.int .u8 0, .int .u8 0, .int .u8 0, .int .u8 0, .int .u8 0, .int .u8 0, .int .u8 0, .int .u8 0, .int .u8 0] 41)) 41 i j hi hj
    rwa [show (((w.alloc (.cells #[.int .u8 (g.r0.a.toNat : Int), .int .u8 (g.r0.b.toNat : Int), .int .u8 (g.r0.c.toNat : Int), .int .u8 (g.r1.a.toNat : Int), .int .u8 (g.r1.b.toNat : Int), .int .u8 (g.r1.c.toNat : Int), .int .u8 (g.r2.a.toNat : Int), .int .u8 (g.r2.b.toNat : Int), .int .u8 (g.r2.c.toNat : Int)] 41)).alloc (.cells #[.int .u8 (h.r0.a.toNat : Int), .int .u8 (h.r0.b.toNat : Int), .int .u8 (h.r0.c.toNat : Int), .int .u8 (h.r1.a.toNat : Int), .int .u8 (h.r1.b.toNat : Int), .int .u8 (h.r1.c.toNat : Int), .int .u8 (h.r2.a.toNat : Int), .int .u8 (h.r2.b.toNat : Int), .int .u8 (h.r2.c.toNat : Int)] 41)).alloc (.cells #[.int .u8 0, .int .u8 0, .int .u8 0, .int .u8 0, .int .u8 0, .int .u8 0, .int .u8 0, .int .u8 0, .int .u8 0] 41)).heap.size = w.heap.size + 1 + 1 + 1 by simp] at this
  have c4 : ∀ k, ((((w.alloc (.cells #[.int .u8 (g.r0.a.toNat : Int), .int .u8 (g.r0.b.toNat : Int), .int .u8 (g.r0.c.toNat : Int), .int .u8 (g.r1.a.toNat : Int), .int .u8 (g.r1.b.toNat : Int), .int .u8 (g.r1.c.toNat : Int), .int .u8 (g.r2.a.toNat : Int), .int .u8 (g.r2.b.toNat : Int), .int .u8 (g.r2.c.toNat : Int)] 41)).alloc (.cells #[.int .u8 (h.r0.a.toNat : Int), .int .u8 (h.r0.b.toNat : Int), .int .u8 (h.r0.c.toNat : Int), .int .u8 (h.r1.a.toNat : Int), .int .u8 (h.r1.b.toNat : Int), .int .u8 (h.r1.c.toNat : Int), .int .u8 (h.r2.a.toNat : Int), .int .u8 (h.r2.b.toNat : Int), .int .u8 (h.r2.c.toNat : Int)] 41)).alloc (.cells #[.int .u8 0, .int .u8 0, .int .u8 0, .int .u8 0, .int .u8 0, .int .u8 0, .int .u8 0, .int .u8 0, .int .u8 0] 41)).alloc (.cells #[.int .u8 0, .int .u8 0, .int .u8 0, .int .u8 0, .int .u8 0, .int .u8 0, .int .u8 0, .int .u8 0, .int .u8 0] 41)).frozen? ⟨w.heap.size + 1 + 1 + 1, k, none⟩ = false := fun k => by
    have := z_fr (((w.alloc (.cells #[.int .u8 (g.r0.a.toNat : Int), .int .u8 (g.r0.b.toNat : Int), .int .u8 (g.r0.c.toNat : Int), .int .u8 (g.r1.a.toNat : Int), .int .u8 (g.r1.b.toNat : Int), .int .u8 (g.r1.c.toNat : Int), .int .u8 (g.r2.a.toNat : Int), .int .u8 (g.r2.b.toNat : Int), .int .u8 (g.r2.c.toNat : Int)] 41)).alloc (.cells #[.int .u8 (h.r0.a.toNat : Int), .int .u8 (h.r0.b.toNat : Int), .int .u8 (h.r0.c.toNat : Int), .int .u8 (h.r1.a.toNat : Int), .int .u8 (h.r1.b.toNat : Int), .int .u8 (h.r1.c.toNat : Int), .int .u8 (h.r2.a.toNat : Int), .int .u8 (h.r2.b.toNat : Int), .int .u8 (h.r2.c.toNat : Int)] 41)).alloc (.cells #[.int .u8 0, .int .u8 0, .int .u8 0, .int .u8 0, .int .u8 0, .int .u8 0, .int .u8 0, .int .u8 0, .int .u8 0] 41)) (.cells #[.int .u8 0, .int .u8 0, .int .u8 0, .int .u8 0, .int .u8 0, .int .u8 0, .int .u8 0, .int .u8 0, .int .u8 0] 41) k _ _ rfl
    rwa [show (((w.alloc (.cells #[.int .u8 (g.r0.a.toNat : Int), .int .u8 (g.r0.b.toNat : Int), .int .u8 (g.r0.c.toNat : Int), .int .u8 (g.r1.a.toNat : Int), .int .u8 (g.r1.b.toNat : Int), .int .u8 (g.r1.c.toNat : Int), .int .u8 (g.r2.a.toNat : Int), .int .u8 (g.r2.b.toNat : Int), .int .u8 (g.r2.c.toNat : Int)] 41)).alloc (.cells #[.int .u8 (h.r0.a.toNat : Int), .int .u8 (h.r0.b.toNat : Int), .int .u8 (h.r0.c.toNat : Int), .int .u8 (h.r1.a.toNat : Int), .int .u8 (h.r1.b.toNat : Int), .int .u8 (h.r1.c.toNat : Int), .int .u8 (h.r2.a.toNat : Int), .int .u8 (h.r2.b.toNat : Int), .int .u8 (h.r2.c.toNat : Int)] 41)).alloc (.cells #[.int .u8 0, .int .u8 0, .int .u8 0, .int .u8 0, .int .u8 0, .int .u8 0, .int .u8 0, .int .u8 0, .int .u8 0] 41)).heap.size = w.heap.size + 1 + 1 + 1 by simp] at this
  have hb0 : Below w.heap.size w (((w.alloc (.cells #[.int .u8 (g.r0.a.toNat : Int), .int .u8 (g.r0.b.toNat : Int), .int .u8 (g.r0.c.toNat : Int), .int .u8 (g.r1.a.toNat : Int), .int .u8 (g.r1.b.toNat : Int), .int .u8 (g.r1.c.toNat : Int), .int .u8 (g.r2.a.toNat : Int), .int .u8 (g.r2.b.toNat : Int), .int .u8 (g.r2.c.toNat : Int)] 41)).alloc (.cells #[.int .u8 (h.r0.a.toNat : Int), .int .u8 (h.r0.b.toNat : Int), .int .u8 (h.r0.c.toNat : Int), .int .u8 (h.r1.a.toNat : Int), .int .u8 (h.r1.b.toNat : Int), .int .u8 (h.r1.c.toNat : Int), .int .u8 (h.r2.a.toNat : Int), .int .u8 (h.r2.b.toNat : Int), .int .u8 (h.r2.c.toNat : Int)] 41)).alloc (.cells #[.int .u8 0, .int .u8 0, .int .u8 0, .int .u8 0, .int .u8 0, .int .u8 0, .int .u8 0, .int .u8 0, .int .u8 0] 41)) := bq1
  have hs0 : (((w.alloc (.cells #[.int .u8 (g.r0.a.toNat : Int), .int .u8 (g.r0.b.toNat : Int), .int .u8 (g.r0.c.toNat : Int), .int .u8 (g.r1.a.toNat : Int), .int .u8 (g.r1.b.toNat : Int), .int .u8 (g.r1.c.toNat : Int), .int .u8 (g.r2.a.toNat : Int), .int .u8 (g.r2.b.toNat : Int), .int .u8 (g.r2.c.toNat : Int)] 41)).alloc (.cells #[.int .u8 (h.r0.a.toNat : Int), .int .u8 (h.r0.b.toNat : Int), .int .u8 (h.r0.c.toNat : Int), .int .u8 (h.r1.a.toNat : Int), .int .u8 (h.r1.b.toNat : Int), .int .u8 (h.r1.c.toNat : Int), .int .u8 (h.r2.a.toNat : Int), .int .u8 (h.r2.b.toNat : Int), .int .u8 (h.r2.c.toNat : Int)] 41)).alloc (.cells #[.int .u8 0, .int .u8 0, .int .u8 0, .int .u8 0, .int .u8 0, .int .u8 0, .int .u8 0, .int .u8 0, .int .u8 0] 41)).heap.size = w.heap.size + 3 := by simp
  have hy0 : Below (((w.alloc (.cells #[.int .u8 (g.r0.a.toNat : Int), .int .u8 (g.r0.b.toNat : Int), .int .u8 (g.r0.c.toNat : Int), .int .u8 (g.r1.a.toNat : Int), .int .u8 (g.r1.b.toNat : Int), .int .u8 (g.r1.c.toNat : Int), .int .u8 (g.r2.a.toNat : Int), .int .u8 (g.r2.b.toNat : Int), .int .u8 (g.r2.c.toNat : Int)] 41)).alloc (.cells #[.int .u8 (h.r0.a.toNat : Int), .int .u8 (h.r0.b.toNat : Int), .int .u8 (h.r0.c.toNat : Int), .int .u8 (h.r1.a.toNat : Int), .int .u8 (h.r1.b.toNat : Int), .int .u8 (h.r1.c.toNat : Int), .int .u8 (h.r2.a.toNat : Int), .int .u8 (h.r2.b.toNat : Int), .int .u8 (h.r2.c.toNat : Int)] 41)).alloc (.cells #[.int .u8 0, .int .u8 0, .int .u8 0, .int .u8 0, .int .u8 0, .int .u8 0, .int .u8 0, .int .u8 0, .int .u8 0] 41)).heap.size (((w.alloc (.cells #[.int .u8 (g.r0.a.toNat : Int), .int .u8 (g.r0.b.toNat : Int), .int .u8 (g.r0.c.toNat : Int), .int .u8 (g.r1.a.toNat : Int), .int .u8 (g.r1.b.toNat : Int), .int .u8 (g.r1.c.toNat : Int), .int .u8 (g.r2.a.toNat : Int), .int .u8 (g.r2.b.toNat : Int), .int .u8 (g.r2.c.toNat : Int)] 41)).alloc (.cells #[.int .u8 (h.r0.a.toNat : Int), .int .u8 (h.r0.b.toNat : Int), .int .u8 (h.r0.c.toNat : Int), .int .u8 (h.r1.a.toNat : Int), .int .u8 (h.r1.b.toNat : Int), .int .u8 (h.r1.c.toNat : Int), .int .u8 (h.r2.a.toNat : Int), .int .u8 (h.r2.b.toNat : Int), .int .u8 (h.r2.c.toNat : Int)] 41)).alloc (.cells #[.int .u8 0, .int .u8 0, .int .u8 0, .int .u8 0, .int .u8 0, .int .u8 0, .int .u8 0, .int .u8 0, .int .u8 0] 41)) ((((w.alloc (.cells #[.int .u8 (g.r0.a.toNat : Int), .int .u8 (g.r0.b.toNat : Int), .int .u8 (g.r0.c.toNat : Int), .int .u8 (g.r1.a.toNat : Int), .int .u8 (g.r1.b.toNat : Int), .int .u8 (g.r1.c.toNat : Int), .int .u8 (g.r2.a.toNat : Int), .int .u8 (g.r2.b.toNat : Int), .int .u8 (g.r2.c.toNat : Int)] 41)).alloc (.cells #[.int .u8 (h.r0.a.toNat : Int), .int .u8 (h.r0.b.toNat : Int), .int .u8 (h.r0.c.toNat : Int), .int .u8 (h.r1.a.toNat : Int), .int .u8 (h.r1.b.toNat : Int), .int .u8 (h.r1.c.toNat : Int), .int .u8 (h.r2.a.toNat : Int), .int .u8 (h.r2.b.toNat : Int), .int .u8 (h.r2.c.toNat : Int)] 41)).alloc (.cells #[.int .u8 0, .int .u8 0, .int .u8 0, .int .u8 0, .int .u8 0, .int .u8 0, .int .u8 0, .int .u8 0, .int .u8 0] 41)).alloc (.cells #[.int .u8 0, .int .u8 0, .int .u8 0, .int .u8 0, .int .u8 0, .int .u8 0, .int .u8 0, .int .u8 0, .int .u8 0] 41)) := bq1
  have r1 : ∀ k, k < 9 → (((w.alloc (.cells #[.int .u8 (g.r0.a.toNat : Int), .int .u8 (g.r0.b.toNat : Int), .int .u8 (g.r0.c.toNat : Int), .int .u8 (g.r1.a.toNat : Int), .int .u8 (g.r1.b.toNat : Int), .int .u8 (g.r1.c.toNat : Int), .int .u8 (g.r2.a.toNat : Int), .int .u8 (g.r2.b.toNat : Int), .int .u8 (g.r2.c.toNat : Int)] 41)).alloc (.cells #[.int .u8 (h.r0.a.toNat : Int), .int .u8 (h.r0.b.toNat : Int), .int .u8 (h.r0.c.toNat : Int), .int .u8 (h.r1.a.toNat : Int), .int .u8 (h.r1.b.toNat : Int), .int .u8 (h.r1.c.toNat : Int), .int .u8 (h.r2.a.toNat : Int), .int .u8 (h.r2.b.toNat : Int), .int .u8 (h.r2.c.toNat : Int)] 41)).alloc (.cells #[.int .u8 0, .int .u8 0, .int .u8 0, .int .u8 0, .int .u8 0, .int .u8 0, .int .u8 0, .int .u8 0, .int .u8 0] 41)).cell? ⟨w.heap.size + 1 + 1, k, none⟩ = some (.int .u8 0) := fun k hk => by
    have h2 := z_at ((w.alloc (.cells #[.int .u8 (g.r0.a.toNat : Int), .int .u8 (g.r0.b.toNat : Int), .int .u8 (g.r0.c.toNat : Int), .int .u8 (g.r1.a.toNat : Int), .int .u8 (g.r1.b.toNat : Int), .int .u8 (g.r1.c.toNat : Int), .int .u8 (g.r2.a.toNat : Int), .int .u8 (g.r2.b.toNat : Int), .int .u8 (g.r2.c.toNat : Int)] 41)).alloc (.cells #[.int .u8 (h.r0.a.toNat : Int), .int .u8 (h.r0.b.toNat : Int), .int .u8 (h.r0.c.toNat : Int), .int .u8 (h.r1.a.toNat : Int), .int .u8 (h.r1.b.toNat : Int), .int .u8 (h.r1.c.toNat : Int), .int .u8 (h.r2.a.toNat : Int), .int .u8 (h.r2.b.toNat : Int), .int .u8 (h.r2.c.toNat : Int)] 41)) 41 (k / 3) (k % 3) (by omega) (by omega)
    rw [show ((w.alloc (.cells #[.int .u8 (g.r0.a.toNat : Int), .int .u8 (g.r0.b.toNat : Int), .int .u8 (g.r0.c.toNat : Int), .int .u8 (g.r1.a.toNat : Int), .int .u8 (g.r1.b.toNat : Int), .int .u8 (g.r1.c.toNat : Int), .int .u8 (g.r2.a.toNat : Int), .int .u8 (g.r2.b.toNat : Int), .int .u8 (g.r2.c.toNat : Int)] 41)).alloc (.cells #[.int .u8 (h.r0.a.toNat : Int), .int .u8 (h.r0.b.toNat : Int), .int .u8 (h.r0.c.toNat : Int), .int .u8 (h.r1.a.toNat : Int), .int .u8 (h.r1.b.toNat : Int), .int .u8 (h.r1.c.toNat : Int), .int .u8 (h.r2.a.toNat : Int), .int .u8 (h.r2.b.toNat : Int), .int .u8 (h.r2.c.toNat : Int)] 41)).heap.size = w.heap.size + 1 + 1 by simp, show k / 3 * 3 + k % 3 = k by omega] at h2
    exact h2
  have rf : ∀ k, (((w.alloc (.cells #[.int .u8 (g.r0.a.toNat : Int), .int .u8 (g.r0.b.toNat : Int), .int .u8 (g.r0.c.toNat : Int), .int .u8 (g.r1.a.toNat : Int), .int .u8 (g.r1.b.toNat : Int), .int .u8 (g.r1.c.toNat : Int), .int .u8 (g.r2.a.toNat : Int), .int .u8 (g.r2.b.toNat : Int), .int .u8 (g.r2.c.toNat : Int)] 41)).alloc (.cells #[.int .u8 (h.r0.a.toNat : Int), .int .u8 (h.r0.b.toNat : Int), .int .u8 (h.r0.c.toNat : Int), .int .u8 (h.r1.a.toNat : Int), .int .u8 (h.r1.b.toNat : Int), .int .u8 (h.r1.c.toNat : Int), .int .u8 (h.r2.a.toNat : Int), .int .u8 (h.r2.b.toNat : Int), .int .u8 (h.r2.c.toNat : Int)] 41)).alloc (.cells #[.int .u8 0, .int .u8 0, .int .u8 0, .int .u8 0, .int .u8 0, .int .u8 0, .int .u8 0, .int .u8 0, .int .u8 0] 41)).frozen? ⟨w.heap.size + 1 + 1, k, none⟩ = false := fun k => by
    have := z_fr ((w.alloc (.cells #[.int .u8 (g.r0.a.toNat : Int), .int .u8 (g.r0.b.toNat : Int), .int .u8 (g.r0.c.toNat : Int), .int .u8 (g.r1.a.toNat : Int), .int .u8 (g.r1.b.toNat : Int), .int .u8 (g.r1.c.toNat : Int), .int .u8 (g.r2.a.toNat : Int), .int .u8 (g.r2.b.toNat : Int), .int .u8 (g.r2.c.toNat : Int)] 41)).alloc (.cells #[.int .u8 (h.r0.a.toNat : Int), .int .u8 (h.r0.b.toNat : Int), .int .u8 (h.r0.c.toNat : Int), .int .u8 (h.r1.a.toNat : Int), .int .u8 (h.r1.b.toNat : Int), .int .u8 (h.r1.c.toNat : Int), .int .u8 (h.r2.a.toNat : Int), .int .u8 (h.r2.b.toNat : Int), .int .u8 (h.r2.c.toNat : Int)] 41)) (.cells #[.int .u8 0, .int .u8 0, .int .u8 0, .int .u8 0, .int .u8 0, .int .u8 0, .int .u8 0, .int .u8 0, .int .u8 0] 41) k _ _ rfl
    rwa [show ((w.alloc (.cells #[.int .u8 (g.r0.a.toNat : Int), .int .u8 (g.r0.b.toNat : Int), .int .u8 (g.r0.c.toNat : Int), .int .u8 (g.r1.a.toNat : Int), .int .u8 (g.r1.b.toNat : Int), .int .u8 (g.r1.c.toNat : Int), .int .u8 (g.r2.a.toNat : Int), .int .u8 (g.r2.b.toNat : Int), .int .u8 (g.r2.c.toNat : Int)] 41)).alloc (.cells #[.int .u8 (h.r0.a.toNat : Int), .int .u8 (h.r0.b.toNat : Int), .int .u8 (h.r0.c.toNat : Int), .int .u8 (h.r1.a.toNat : Int), .int .u8 (h.r1.b.toNat : Int), .int .u8 (h.r1.c.toNat : Int), .int .u8 (h.r2.a.toNat : Int), .int .u8 (h.r2.b.toNat : Int), .int .u8 (h.r2.c.toNat : Int)] 41)).heap.size = w.heap.size + 1 + 1 by simp] at this
  generalize (((w.alloc (.cells #[.int .u8 (g.r0.a.toNat : Int), .int .u8 (g.r0.b.toNat : Int), .int .u8 (g.r0.c.toNat : Int), .int .u8 (g.r1.a.toNat : Int), .int .u8 (g.r1.b.toNat : Int), .int .u8 (g.r1.c.toNat : Int), .int .u8 (g.r2.a.toNat : Int), .int .u8 (g.r2.b.toNat : Int), .int .u8 (g.r2.c.toNat : Int)] 41)).alloc (.cells #[.int .u8 (h.r0.a.toNat : Int), .int .u8 (h.r0.b.toNat : Int), .int .u8 (h.r0.c.toNat : Int), .int .u8 (h.r1.a.toNat : Int), .int .u8 (h.r1.b.toNat : Int), .int .u8 (h.r1.c.toNat : Int), .int .u8 (h.r2.a.toNat : Int), .int .u8 (h.r2.b.toNat : Int), .int .u8 (h.r2.c.toNat : Int)] 41)).alloc (.cells #[.int .u8 0, .int .u8 0, .int .u8 0, .int .u8 0, .int .u8 0, .int .u8 0, .int .u8 0, .int .u8 0, .int .u8 0] 41)) = W0 at *
  generalize hW1 : W0.alloc (.cells #[.int .u8 0, .int .u8 0, .int .u8 0, .int .u8 0, .int .u8 0, .int .u8 0, .int .u8 0, .int .u8 0, .int .u8 0] 41) = W1 at *
  clear hW1
  have C1 := Lib.hid c1
  have C2 := Lib.hid c2
  have C3 := Lib.hid c3
  have C4 := Lib.hid c4
  have HB0 := Lib.hid hb0
  have HY0 := Lib.hid hy0
  have R1 := Lib.hid r1
  have RF := Lib.hid rf
  clear rf
  clear c1 c2 c3 c4 hb0 hy0 r1
  go_loopg [10] n (fun k v w' => ∃ (i : Nat) (y : Later W0), i + k = n ∧ v = .int .i64 i ∧ w' = y.W ∧ (∀ i' j', i' < 3 → j' < 3 → w'.cell? ⟨w.heap.size + 1 + 1 + 1, i' * 3 + j', none⟩ = some (.int .u8 (doneT p n g h i 0 i' j'))) ∧ ∀ k, w'.frozen? ⟨w.heap.size + 1 + 1 + 1, k, none⟩ = false)
  case atStart => exact ⟨0, ⟨W1, HY0.out⟩, by omega, rfl, rfl, fun i' j' h1 h2 => by rw [C3.out i' j' h1 h2]; simp [doneT], C4.out⟩
  case round =>
    obtain ⟨i, y, hik, rfl, rfl, hc, hf⟩ := hrel
    have HIK := Lib.hid hik
    have HC := Lib.hid hc
    have HF := Lib.hid hf
    clear hik hc hf
    by_cases hlt : i < n
    · have hi1 : (i : Int) < n := by omega
      go_wp2
      go_loopg [11] n (fun k v w' => ∃ (j : Nat) (y2 : Later W0), j + k = n ∧ v = .int .i64 j ∧ w' = y2.W ∧ (∀ i' j', i' < 3 → j' < 3 → w'.cell? ⟨w.heap.size + 1 + 1 + 1, i' * 3 + j', none⟩ = some (.int .u8 (doneT p n g h i j i' j'))) ∧ ∀ k, w'.frozen? ⟨w.heap.size + 1 + 1 + 1, k, none⟩ = false)
      case atStart => exact ⟨0, y, by omega, rfl, rfl, HC.out, HF.out⟩
      case round =>
        obtain ⟨j, y2, hjk, rfl, rfl, hc, hf⟩ := hrel
        have HJK := Lib.hid hjk
        have HC2 := Lib.hid hc
        have HF2 := Lib.hid hf
        clear hjk hc hf
        by_cases hlj : j < n
        · have hj1 : (j : Int) < n := by omega
          have zy : W0.heap.size ≤ y2.W.heap.size := y2.ok.size
          have zg : w.heap.size < y2.W.heap.size := by omega
          have zh : w.heap.size + 1 < y2.W.heap.size := by omega
          go_wp2
          go_loopg [13, 12] n (fun k v s w' => ∃ (q : Nat) (y3 : Later y2.W), q + k = n ∧ v = .int .i64 q ∧ s = .int .i64 (sumT g h i j q) ∧ w' = y3.W)
          case atStart => exact ⟨0, ⟨y2.W, Below.refl _ _⟩, by omega, rfl, rfl, rfl⟩
          case round =>
            obtain ⟨q, y3, hqk, rfl, rfl, rfl⟩ := hrel
            have HQK := Lib.hid hqk
            clear hqk
            by_cases hlq : q < n
            · have hq1 : (q : Int) < n := by omega
              have g1 := y2.keep (C1.out i q (by omega) (by omega))
              have g2 := y2.keep (C2.out q j (by omega) (by omega))
              have b1 := at_le HG.out i q
              have b2 := at_le HH.out q j
              have b3 := sumT_bd hp' HG.out HH.out i j q (by omega)
              have hst : sumT g h i j (q + 1) = sumT g h i j q + ((g.at i q).toNat : Int) * ((h.at q j).toNat : Int) := rfl
              have HST := Lib.hid hst
              clear hst
              have b4 : 0 ≤ ((g.at i q).toNat : Int) := by omega
              have b5 : 0 ≤ ((h.at q j).toNat : Int) := by omega
              generalize ((g.at i q).toNat : Int) = gg at *
              generalize ((h.at q j).toNat : Int) = hh at *
              generalize sumT g h i j q = ss at *
              have b6 := mul_bd3 (x := gg) (y := hh) b4 (by omega) b5 (by omega)
              have w1 := i64_small (n := gg * hh) (by omega) (by omega)
              have w2 := i64_small (n := ss + gg * hh) (by omega) (by omega)
              have i1 : (i : Int) < 3 := by omega
              have i2 : (q : Int) < 3 := by omega
              have i3 : (j : Int) < 3 := by omega
              have e1 : ((i : Int)).toNat = i := by omega
              have e2 : ((q : Int)).toNat = q := by omega
              have e3 : ((j : Int)).toNat = j := by omega
              go_wp2
              (first | refine wp_region_later2 (by kernel_rfl) (by kernel_rfl) ?_ | refine wp_region_later (by kernel_rfl) (by kernel_rfl) ?_); (repeat (go_big_quiet_step (fail))); refine wpQuiet_nil ?_; intro x
              go_wp2
              go_roundg (n - q - 1)
              case measure => have := HQK.out; omega
              case rel => exact ⟨q + 1, x, by have := HQK.out; omega, by go_num, by (rw [HST.out] <;> first | rfl | simp [w2]), rfl⟩
            · have hqe : q = n := by have := HQK.out; omega
              subst hqe
              have g3 := y3.keep (HC2.out i j (by omega) (by omega))
              have g4 := (y3.ok.frozen (World.block_lt_of_cell? _ _ (HC2.out i j (by omega) (by omega)))).trans (HF2.out (i * 3 + j))
              have b3 := sumT_bd hp' HG.out HH.out i j q (by omega)
              have b7 := mod_bd (sumT g h i j q) hp
              have hte : (sumT g h i j q).tmod p = sumT g h i j q % p := Int.tmod_eq_emod_of_nonneg b3.1
              have hpz : p ≠ 0 := by omega
              have i1 : (i : Int) < 3 := by omega
              have i3 : (j : Int) < 3 := by omega
              have e1 : ((i : Int)).toNat = i := by omega
              have e3 : ((j : Int)).toNat = j := by omega
              go_wp2
              go_region
              go_wp2
              go_roundg (q - j - 1)
              case measure => have := HJK.out; omega
              case rel =>
                have hb3 : Below W0.heap.size W0 y3.W := y2.ok.trans (y3.ok.mono y2.ok.size)
                refine ⟨j + 1, ⟨(y3.W.setCell ⟨w.heap.size + 1 + 1 + 1, i * 3 + j, none⟩ (.int .u8 (sumT g h i j q % p))).drew, (hb3.setCell (by first | (simp; done) | (simp; omega) | omega) _).drew⟩, by have := HJK.out; omega, by go_num, rfl, fun i' j' hi' hj' => ?_, fun k => ?_⟩
                · show (y3.W.setCell _ _).cell? _ = _
                  by_cases hij : i' = i ∧ j' = j
                  · obtain ⟨rfl, rfl⟩ := hij
                    rw [World.cell?_setCell_same _ _ _ g3, doneT, if_pos ⟨hlj, .inr ⟨rfl, by omega⟩⟩]
                  · rw [World.cell?_setCell_other _ _ _ _ (by first | (simp; done) | (simp; omega)), y3.keep (HC2.out i' j' hi' hj')]
                    have : (j' < q ∧ (i' < i ∨ (i' = i ∧ j' < j))) ↔ (j' < q ∧ (i' < i ∨ (i' = i ∧ j' < j + 1))) := by omega
                    simp only [doneT, this]
                · show (y3.W.setCell _ _).frozen? _ = _
                  have := (y3.ok.frozen (p := ⟨w.heap.size + 1 + 1 + 1, k, none⟩) (by show w.heap.size + 1 + 1 + 1 < _; have := World.block_lt_of_cell? _ _ (HC2.out i j (by omega) (by omega)); exact this)).trans (HF2.out k)
                  simp [this]
        · have hje : j = n := by have := HJK.out; omega
          subst hje
          go_wp2
          go_roundg (j - i - 1)
          case measure => have := HIK.out; omega
          case rel =>
            refine ⟨i + 1, y2, by have := HIK.out; omega, by go_num, rfl, fun i' j' hi' hj' => ?_, HF2.out⟩
            rw [HC2.out i' j' hi' hj']
            have : (j' < j ∧ (i' < i ∨ (i' = i ∧ j' < j))) ↔ (j' < j ∧ (i' < i + 1 ∨ (i' = i + 1 ∧ j' < 0))) := by omega
            simp only [doneT, this]
    · have hie : i = n := by have := HIK.out; omega
      subst hie
      have o0 : y.W.cell? ⟨w.heap.size + 1 + 1 + 1, 0, none⟩ = some (.int .u8 ((timesM p i g h).r0.a.toNat : Int)) := by
        have := HC.out 0 0 (by omega) (by omega)
        rw [done_end hp hp'] at this
        exact this
      have r0 := y.keep (R1.out 0 (by omega))
      have f0 : y.W.frozen? ⟨w.heap.size + 1 + 1, 0, none⟩ = false := (y.ok.frozen (World.block_lt_of_cell? _ _ (R1.out 0 (by omega)))).trans (RF.out 0)
      have o1 : y.W.cell? ⟨w.heap.size + 1 + 1 + 1, 1, none⟩ = some (.int .u8 ((timesM p i g h).r0.b.toNat : Int)) := by
        have := HC.out 0 1 (by omega) (by omega)
        rw [done_end hp hp'] at this
        exact this
      have r1 := y.keep (R1.out 1 (by omega))
      have f1 : y.W.frozen? ⟨w.heap.size + 1 + 1, 1, none⟩ = false := (y.ok.frozen (World.block_lt_of_cell? _ _ (R1.out 1 (by omega)))).trans (RF.out 1)
      have o2 : y.W.cell? ⟨w.heap.size + 1 + 1 + 1, 2, none⟩ = some (.int .u8 ((timesM p i g h).r0.c.toNat : Int)) := by
        have := HC.out 0 2 (by omega) (by omega)
        rw [done_end hp hp'] at this
        exact this
      have r2 := y.keep (R1.out 2 (by omega))
      have f2 : y.W.frozen? ⟨w.heap.size + 1 + 1, 2, none⟩ = false := (y.ok.frozen (World.block_lt_of_cell? _ _ (R1.out 2 (by omega)))).trans (RF.out 2)
      have o3 : y.W.cell? ⟨w.heap.size + 1 + 1 + 1, 3, none⟩ = some (.int .u8 ((timesM p i g h).r1.a.toNat : Int)) := by
        have := HC.out 1 0 (by omega) (by omega)
        rw [done_end hp hp'] at this
        exact this
      have r3 := y.keep (R1.out 3 (by omega))
      have f3 : y.W.frozen? ⟨w.heap.size + 1 + 1, 3, none⟩ = false := (y.ok.frozen (World.block_lt_of_cell? _ _ (R1.out 3 (by omega)))).trans (RF.out 3)
      have o4 : y.W.cell? ⟨w.heap.size + 1 + 1 + 1, 4, none⟩ = some (.int .u8 ((timesM p i g h).r1.b.toNat : Int)) := by
        have := HC.out 1 1 (by omega) (by omega)
        rw [done_end hp hp'] at this
        exact this
      have r4 := y.keep (R1.out 4 (by omega))
      have f4 : y.W.frozen? ⟨w.heap.size + 1 + 1, 4, none⟩ = false := (y.ok.frozen (World.block_lt_of_cell? _ _ (R1.out 4 (by omega)))).trans (RF.out 4)
      have o5 : y.W.cell? ⟨w.heap.size + 1 + 1 + 1, 5, none⟩ = some (.int .u8 ((timesM p i g h).r1.c.toNat : Int)) := by
        have := HC.out 1 2 (by omega) (by omega)
        rw [done_end hp hp'] at this
        exact this
      have r5 := y.keep (R1.out 5 (by omega))
      have f5 : y.W.frozen? ⟨w.heap.size + 1 + 1, 5, none⟩ = false := (y.ok.frozen (World.block_lt_of_cell? _ _ (R1.out 5 (by omega)))).trans (RF.out 5)
      have o6 : y.W.cell? ⟨w.heap.size + 1 + 1 + 1, 6, none⟩ = some (.int .u8 ((timesM p i g h).r2.a.toNat : Int)) := by
        have := HC.out 2 0 (by omega) (by omega)
        rw [done_end hp hp'] at this
        exact this
      have r6 := y.keep (R1.out 6 (by omega))
      have f6 : y.W.frozen? ⟨w.heap.size + 1 + 1, 6, none⟩ = false := (y.ok.frozen (World.block_lt_of_cell? _ _ (R1.out 6 (by omega)))).trans (RF.out 6)
      have o7 : y.W.cell? ⟨w.heap.size + 1 + 1 + 1, 7, none⟩ = some (.int .u8 ((timesM p i g h).r2.b.toNat : Int)) := by
        have := HC.out 2 1 (by omega) (by omega)
        rw [done_end hp hp'] at this
        exact this
      have r7 := y.keep (R1.out 7 (by omega))
      have f7 : y.W.frozen? ⟨w.heap.size + 1 + 1, 7, none⟩ = false := (y.ok.frozen (World.block_lt_of_cell? _ _ (R1.out 7 (by omega)))).trans (RF.out 7)
      have o8 : y.W.cell? ⟨w.heap.size + 1 + 1 + 1, 8, none⟩ = some (.int .u8 ((timesM p i g h).r2.c.toNat : Int)) := by
        have := HC.out 2 2 (by omega) (by omega)
        rw [done_end hp hp'] at this
        exact this
      have r8 := y.keep (R1.out 8 (by omega))
      have f8 : y.W.frozen? ⟨w.heap.size + 1 + 1, 8, none⟩ = false := (y.ok.frozen (World.block_lt_of_cell? _ _ (R1.out 8 (by omega)))).trans (RF.out 8)
      generalize timesM p i g h = tm at *
      have hb0 := HB0.out
      have hzy : w.heap.size + 3 ≤ y.W.heap.size := by have := y.ok.size; omega
      go_wp2
      exact bodyPost_ret (v := .agg #[.int .u8 (tm.r0.a.toNat : Int), .int .u8 (tm.r0.b.toNat : Int), .int .u8 (tm.r0.c.toNat : Int), .int .u8 (tm.r1.a.toNat : Int), .int .u8 (tm.r1.b.toNat : Int), .int .u8 (tm.r1.c.toNat : Int), .int .u8 (tm.r2.a.toNat : Int), .int .u8 (tm.r2.b.toNat : Int), .int .u8 (tm.r2.c.toNat : Int)]) (by simp [results, Try.results64, go_sem, r0, r1, r2, r3, r4, r5, r6, r7, r8]) rfl (.mk rfl bq1)
end Go.Proofs.Ytimjhehagimcaaa
/- The walk of the program's product of matrices; no condition. -/
set_option linter.unusedVariables false
set_option linter.unusedSimpArgs false
namespace Go.Proofs.Ytimjhehagimcaaa
open Go.RowKit Go.Proofs.YtimjhehagimcaaaW.PrintWords
attribute [local go_sem] Later.cell Later.frozen Later.lt Later.lt_add Later.le Later.le_add Later.ne Later.ne' add_at
set_option maxRecDepth 100000 in
set_option maxHeartbeats 2000000 in
theorem times_c (p : Int) (n : Nat) (g h : M9) (w : World) (hp : 2 ≤ p) (hp' : p ≤ 13) (hn1 : 1 ≤ n) (hn3 : n ≤ 3) (hg : g.le p) (hh : h.le p) :
    Calls Try.prog 63 #[.int .i64 p, .int .i64 n, .agg #[.int .u8 (g.r0.a.toNat : Int), .int .u8 (g.r0.b.toNat : Int), .int .u8 (g.r0.c.toNat : Int), .int .u8 (g.r1.a.toNat : Int), .int .u8 (g.r1.b.toNat : Int), .int .u8 (g.r1.c.toNat : Int), .int .u8 (g.r2.a.toNat : Int), .int .u8 (g.r2.b.toNat : Int), .int .u8 (g.r2.c.toNat : Int)], .agg #[.int .u8 (h.r0.a.toNat : Int), .int .u8 (h.r0.b.toNat : Int), .int .u8 (h.r0.c.toNat : Int), .int .u8 (h.r1.a.toNat : Int), .int .u8 (h.r1.b.toNat : Int), .int .u8 (h.r1.c.toNat : Int), .int .u8 (h.r2.a.toNat : Int), .int .u8 (h.r2.b.toNat : Int), .int .u8 (h.r2.c.toNat : Int)]] w (Gives (.agg #[.int .u8 ((timesM p n g h).r0.a.toNat : Int), .int .u8 ((timesM p n g h).r0.b.toNat : Int), .int .u8 ((timesM p n g h).r0.c.toNat : Int), .int .u8 ((timesM p n g h).r1.a.toNat : Int), .int .u8 ((timesM p n g h).r1.b.toNat : Int), .int .u8 ((timesM p n g h).r1.c.toNat : Int), .int .u8 ((timesM p n g h).r2.a.toNat : Int), .int .u8 ((timesM p n g h).r2.b.toNat : Int), .int .u8 ((timesM p n g h).r2.c.toNat : Int)]) w) := by
  have HG := Lib.hid hg
  have HH := Lib.hid hh
  clear hg hh
  go_enter Try.func63, Try.ntmps63
  go_wp2
  have c1 : ∀ i j, i < 3 → j < 3 → (((w.alloc (.cells #[.int .u8 (g.r0.a.toNat : Int), .int .u8 (g.r0.b.toNat : Int), .int .u8 (g.r0.c.toNat : Int), .int .u8 (g.r1.a.toNat : Int), .int .u8 (g.r1.b.toNat : Int), .int .u8 (g.r1.c.toNat : Int), .int .u8 (g.r2.a.toNat : Int), .int .u8 (g.r2.b.toNat : Int), .int .u8 (g.r2.c.toNat : Int)] 41)).alloc (.cells #[.int .u8 (h.r0.a.toNat : Int), .int .u8 (h.r0.b.toNat : Int), .int .u8 (h.r0.c.toNat : Int), .int .u8 (h.r1.a.toNat : Int), .int .u8 (h.r1.b.toNat : Int), .int .u8 (h.r1.c.toNat : Int), .int .u8 (h.r2.a.toNat : Int), .int .u8 (h.r2.b.toNat : Int), .int .u8 (h.r2.c.toNat : Int)] 41)).alloc (.cells #[.int .u8 0, .int .u8 0, .int .u8 0, .int .u8 0, .int .u8 0, .int .u8 0, .int .u8 0, .int .u8 0, .int .u8 0] 41)).cell? ⟨w.heap.size, i * 3 + j, none⟩ = some (.int .u8 ((g.at i j).toNat : Int)) := fun i j hi hj => cell_alloc (cell_alloc (box_at w g _ i j hi hj) _) _
  have c2 : ∀ i j, i < 3 → j < 3 → (((w.alloc (.cells #[.int .u8 (g.r0.a.toNat : Int), .int .u8 (g.r0.b.toNat : Int), .int .u8 (g.r0.c.toNat : Int), .int .u8 (g.r1.a.toNat : Int), .int .u8 (g.r1.b.toNat : Int), .int .u8 (g.r1.c.toNat : Int), .int .u8 (g.r2.a.toNat : Int), .int .u8 (g.r2.b.toNat : Int), .int .u8 (g.r2.c.toNat : Int)] 41)).alloc (.cells #[.int .u8 (h.r0.a.toNat : Int), .int .u8 (h.r0.b.toNat : Int), .int .u8 (h.r0.c.toNat : Int), .int .u8 (h.r1.a.toNat : Int), .int .u8 (h.r1.b.toNat : Int), .int .u8 (h.r1.c.toNat : Int), .int .u8 (h.r2.a.toNat : Int), .int .u8 (h.r2.b.toNat : Int), .int .u8 (h.r2.c.toNat : Int)] 41)).alloc (.cells #[.int .u8 0, .int .u8 0, .int .u8 0, .int .u8 0, .int .u8 0, .int .u8 0, .int .u8 0, .int .u8 0, .int .u8 0] 41)).cell? ⟨w.heap.size + 1, i * 3 + j, none⟩ = some (.int .u8 ((h.at i j).toNat : Int)) := fun i j hi hj => by
    have := cell_alloc (box_at (w.alloc (.cells #[.int .u8 (g.r0.a.toNat : Int), .int .u8 (g.r0.b.toNat : Int), .int .u8 (g.r0.c.toNat : Int), .int .u8 (g.r1.a.toNat : Int), .int .u8 (g.r1.b.toNat : Int), .int .u8 (g.r1.c.toNat : Int), .int .u8 (g.r2.a.toNat : Int), .int .u8 (g.r2.b.toNat : Int), .int .u8 (g.r2.c.toNat : Int)] 41)) h 41 i j hi hj) (.cells #[.int .u8 0, .int .u8 0, .int .u8 0, .int .u8 0, .int .u8 0, .int .u8 0, .int .u8 0, .int .u8 0, .int .u8 0] 41)
    rwa [show (w.alloc (.cells #[.int .u8 (g.r0.a.toNat : Int), .int .u8 (g.r0.b.toNat : Int), .int .u8 (g.r0.c.toNat : Int), .int .u8 (g.r1.a.toNat : Int), .int .u8 (g.r1.b.toNat : Int), .int .u8 (g.r1.c.toNat : Int), .int .u8 (g.r2.a.toNat : Int), .int .u8 (g.r2.b.toNat : Int), .int .u8 (g.r2.c.toNat : Int)] 41)).heap.size = w.heap.size + 1 by simp] at this
  have c3 : ∀ i j, i < 3 → j < 3 → ((((w.alloc (.cells #[.int .u8 (g.r0.a.toNat : Int), .int .u8 (g.r0.b.toNat : Int), .int .u8 (g.r0.c.toNat : Int), .int .u8 (g.r1.a.toNat : Int), .int .u8 (g.r1.b.toNat : Int), .int .u8 (g.r1.c.toNat : Int), .int .u8 (g.r2.a.toNat : Int), .int .u8 (g.r2.b.toNat : Int), .int .u8 (g.r2.c.toNat : Int)] 41)).alloc (.cells #[.int .u8 (h.r0.a.toNat : Int), .int .u8 (h.r0.b.toNat : Int), .int .u8 (h.r0.c.toNat : Int), .int .u8 (h.r1.a.toNat : Int), .int .u8 (h.r1.b.toNat : Int), .int .u8 (h.r1.c.toNat : Int), .int .u8 (h.r2.a.toNat : Int), .int .u8 (h.r2.b.toNat : Int), .int .u8 (h.r2.c.toNat : Int)] 41)).alloc (.cells #[.int .u8 0, .int .u8 0, .int .u8 0, .int .u8 0, .int .u8 0, .int .u8 0, .int .u8 0, .int .u8 0, .int .u8 0] 41)).alloc (.cells #[.int .u8 0, .int .u8 0, .int .u8 0, .int .u8 0, .int .u8 0, .int .u8 0, .int .u8 0, .int .u8 0, .int .u8 0] 41)).cell? ⟨w.heap.size + 1 + 1 + 1, i * 3 + j, none⟩ = some (.int .u8 0) := fun i j hi hj => by
    have := z_at (((w.alloc (.cells #[.int .u8 (g.r0.a.toNat : Int), .int .u8 (g.r0.b.toNat : Int), .int .u8 (g.r0.c.toNat : Int), .int .u8 (g.r1.a.toNat : Int), .int .u8 (g.r1.b.toNat : Int), .int .u8 (g.r1.c.toNat : Int), .int .u8 (g.r2.a.toNat : Int), .int .u8 (g.r2.b.toNat : Int), .int .u8 (g.r2.c.toNat : Int)] 41)).alloc (.cells #[.int .u8 (h.r0.a.toNat : Int), .int .u8 (h.r0.b.toNat : Int), .int .u8 (h.r0.c.toNat : Int), .int .u8 (h.r1.a.toNat : Int), .int .u8 (h.r1.b.toNat : Int), .int .u8 (h.r1.c.toNat : Int), .int .u8 (h.r2.a.toNat : Int), .int .u8 (h.r2.b.toNat : Int), .int .u8 (h.r2.c.toNat : Int)] 41)).alloc (.cells #[.int .u8 0, .int .u8 0, .int .u8 0, .int .u8 0, .int .u8 0, .int .u8 0, .int .u8 0, .int .u8 0, .int .u8 0] 41)) 41 i j hi hj
    rwa [show (((w.alloc (.cells #[.int .u8 (g.r0.a.toNat : Int), .int .u8 (g.r0.b.toNat : Int), .int .u8 (g.r0.c.toNat : Int), .int .u8 (g.r1.a.toNat : Int), .int .u8 (g.r1.b.toNat : Int), .int .u8 (g.r1.c.toNat : Int), .int .u8 (g.r2.a.toNat : Int), .int .u8 (g.r2.b.toNat : Int), .int .u8 (g.r2.c.toNat : Int)] 41)).alloc (.cells #[.int .u8 (h.r0.a.toNat : Int), .int .u8 (h.r0.b.toNat : Int), .int .u8 (h.r0.c.toNat : Int), .int .u8 (h.r1.a.toNat : Int), .int .u8 (h.r1.b.toNat : Int), .int .u8 (h.r1.c.toNat : Int), .int .u8 (h.r2.a.toNat : Int), .int .u8 (h.r2.b.toNat : Int), .int .u8 (h.r2.c.toNat : Int)] 41)).alloc (.cells #[.int .u8 0, .int .u8 0, .int .u8 0, .int .u8 0, .int .u8 0, .int .u8 0, .int .u8 0, .int .u8 0, .int .u8 0] 41)).heap.size = w.heap.size + 1 + 1 + 1 by simp] at this
  have c4 : ∀ k, ((((w.alloc (.cells #[.int .u8 (g.r0.a.toNat : Int), .int .u8 (g.r0.b.toNat : Int), .int .u8 (g.r0.c.toNat : Int), .int .u8 (g.r1.a.toNat : Int), .int .u8 (g.r1.b.toNat : Int), .int .u8 (g.r1.c.toNat : Int), .int .u8 (g.r2.a.toNat : Int), .int .u8 (g.r2.b.toNat : Int), .int .u8 (g.r2.c.toNat : Int)] 41)).alloc (.cells #[.int .u8 (h.r0.a.toNat : Int), .int .u8 (h.r0.b.toNat : Int), .int .u8 (h.r0.c.toNat : Int), .int .u8 (h.r1.a.toNat : Int), .int .u8 (h.r1.b.toNat : Int), .int .u8 (h.r1.c.toNat : Int), .int .u8 (h.r2.a.toNat : Int), .int .u8 (h.r2.b.toNat : Int), .int .u8 (h.r2.c.toNat : Int)] 41)).alloc (.cells #[.int .u8 0, .int .u8 0, .int .u8 0, .int .u8 0, .int .u8 0, .int .u8 0, .int .u8 0, .int .u8 0, .int .u8 0] 41)).alloc (.cells #[.int .u8 0, .int .u8 0, .int .u8 0, .int .u8 0, .int .u8 0, .int .u8 0, .int .u8 0, .int .u8 0, .int .u8 0] 41)).frozen? ⟨w.heap.size + 1 + 1 + 1, k, none⟩ = false := fun k => by
    have := z_fr (((w.alloc (.cells #[.int .u8 (g.r0.a.toNat : Int), .int .u8 (g.r0.b.toNat : Int), .int .u8 (g.r0.c.toNat : Int), .int .u8 (g.r1.a.toNat : Int), .int .u8 (g.r1.b.toNat : Int), .int .u8 (g.r1.c.toNat : Int), .int .u8 (g.r2.a.toNat : Int), .int .u8 (g.r2.b.toNat : Int), .int .u8 (g.r2.c.toNat : Int)] 41)).alloc (.cells #[.int .u8 (h.r0.a.toNat : Int), .int .u8 (h.r0.b.toNat : Int), .int .u8 (h.r0.c.toNat : Int), .int .u8 (h.r1.a.toNat : Int), .int .u8 (h.r1.b.toNat : Int), .int .u8 (h.r1.c.toNat : Int), .int .u8 (h.r2.a.toNat : Int), .int .u8 (h.r2.b.toNat : Int), .int .u8 (h.r2.c.toNat : Int)] 41)).alloc (.cells #[.int .u8 0, .int .u8 0, .int .u8 0, .int .u8 0, .int .u8 0, .int .u8 0, .int .u8 0, .int .u8 0, .int .u8 0] 41)) (.cells #[.int .u8 0, .int .u8 0, .int .u8 0, .int .u8 0, .int .u8 0, .int .u8 0, .int .u8 0, .int .u8 0, .int .u8 0] 41) k _ _ rfl
    rwa [show (((w.alloc (.cells #[.int .u8 (g.r0.a.toNat : Int), .int .u8 (g.r0.b.toNat : Int), .int .u8 (g.r0.c.toNat : Int), .int .u8 (g.r1.a.toNat : Int), .int .u8 (g.r1.b.toNat : Int), .int .u8 (g.r1.c.toNat : Int), .int .u8 (g.r2.a.toNat : Int), .int .u8 (g.r2.b.toNat : Int), .int .u8 (g.r2.c.toNat : Int)] 41)).alloc (.cells #[.int .u8 (h.r0.a.toNat : Int), .int .u8 (h.r0.b.toNat : Int), .int .u8 (h.r0.c.toNat : Int), .int .u8 (h.r1.a.toNat : Int), .int .u8 (h.r1.b.toNat : Int), .int .u8 (h.r1.c.toNat : Int), .int .u8 (h.r2.a.toNat : Int), .int .u8 (h.r2.b.toNat : Int), .int .u8 (h.r2.c.toNat : Int)] 41)).alloc (.cells #[.int .u8 0, .int .u8 0, .int .u8 0, .int .u8 0, .int .u8 0, .int .u8 0, .int .u8 0, .int .u8 0, .int .u8 0] 41)).heap.size = w.heap.size + 1 + 1 + 1 by simp] at this
  have hb0 : Below w.heap.size w (((w.alloc (.cells #[.int .u8 (g.r0.a.toNat : Int), .int .u8 (g.r0.b.toNat : Int), .int .u8 (g.r0.c.toNat : Int), .int .u8 (g.r1.a.toNat : Int), .int .u8 (g.r1.b.toNat : Int), .int .u8 (g.r1.c.toNat : Int), .int .u8 (g.r2.a.toNat : Int), .int .u8 (g.r2.b.toNat : Int), .int .u8 (g.r2.c.toNat : Int)] 41)).alloc (.cells #[.int .u8 (h.r0.a.toNat : Int), .int .u8 (h.r0.b.toNat : Int), .int .u8 (h.r0.c.toNat : Int), .int .u8 (h.r1.a.toNat : Int), .int .u8 (h.r1.b.toNat : Int), .int .u8 (h.r1.c.toNat : Int), .int .u8 (h.r2.a.toNat : Int), .int .u8 (h.r2.b.toNat : Int), .int .u8 (h.r2.c.toNat : Int)] 41)).alloc (.cells #[.int .u8 0, .int .u8 0, .int .u8 0, .int .u8 0, .int .u8 0, .int .u8 0, .int .u8 0, .int .u8 0, .int .u8 0] 41)) := bq1
  have hs0 : (((w.alloc (.cells #[.int .u8 (g.r0.a.toNat : Int), .int .u8 (g.r0.b.toNat : Int), .int .u8 (g.r0.c.toNat : Int), .int .u8 (g.r1.a.toNat : Int), .int .u8 (g.r1.b.toNat : Int), .int .u8 (g.r1.c.toNat : Int), .int .u8 (g.r2.a.toNat : Int), .int .u8 (g.r2.b.toNat : Int), .int .u8 (g.r2.c.toNat : Int)] 41)).alloc (.cells #[.int .u8 (h.r0.a.toNat : Int), .int .u8 (h.r0.b.toNat : Int), .int .u8 (h.r0.c.toNat : Int), .int .u8 (h.r1.a.toNat : Int), .int .u8 (h.r1.b.toNat : Int), .int .u8 (h.r1.c.toNat : Int), .int .u8 (h.r2.a.toNat : Int), .int .u8 (h.r2.b.toNat : Int), .int .u8 (h.r2.c.toNat : Int)] 41)).alloc (.cells #[.int .u8 0, .int .u8 0, .int .u8 0, .int .u8 0, .int .u8 0, .int .u8 0, .int .u8 0, .int .u8 0, .int .u8 0] 41)).heap.size = w.heap.size + 3 := by simp
  have hy0 : Below (((w.alloc (.cells #[.int .u8 (g.r0.a.toNat : Int), .int .u8 (g.r0.b.toNat : Int), .int .u8 (g.r0.c.toNat : Int), .int .u8 (g.r1.a.toNat : Int), .int .u8 (g.r1.b.toNat : Int), .int .u8 (g.r1.c.toNat : Int), .int .u8 (g.r2.a.toNat : Int), .int .u8 (g.r2.b.toNat : Int), .int .u8 (g.r2.c.toNat : Int)] 41)).alloc (.cells #[.int .u8 (h.r0.a.toNat : Int), .int .u8 (h.r0.b.toNat : Int), .int .u8 (h.r0.c.toNat : Int), .int .u8 (h.r1.a.toNat : Int), .int .u8 (h.r1.b.toNat : Int), .int .u8 (h.r1.c.toNat : Int), .int .u8 (h.r2.a.toNat : Int), .int .u8 (h.r2.b.toNat : Int), .int .u8 (h.r2.c.toNat : Int)] 41)).alloc (.cells #[.int .u8 0, .int .u8 0, .int .u8 0, .int .u8 0, .int .u8 0, .int .u8 0, .int .u8 0, .int .u8 0, .int .u8 0] 41)).heap.size (((w.alloc (.cells #[.int .u8 (g.r0.a.toNat : Int), .int .u8 (g.r0.b.toNat : Int), .int .u8 (g.r0.c.toNat : Int), .int .u8 (g.r1.a.toNat : Int), .int .u8 (g.r1.b.toNat : Int), .int .u8 (g.r1.c.toNat : Int), .int .u8 (g.r2.a.toNat : Int), .int .u8 (g.r2.b.toNat : Int), .int .u8 (g.r2.c.toNat : Int)] 41)).alloc (.cells #[.int .u8 (h.r0.a.toNat : Int), .int .u8 (h.r0.b.toNat : Int), .int .u8 (h.r0.c.toNat : Int), .int .u8 (h.r1.a.toNat : Int), .int .u8 (h.r1.b.toNat : Int), .int .u8 (h.r1.c.toNat : Int), .int .u8 (h.r2.a.toNat : Int), .int .u8 (h.r2.b.toNat : Int), .int .u8 (h.r2.c.toNat : Int)] 41)).alloc (.cells #[.int .u8 0, .int .u8 0, .int .u8 0, .int .u8 0, .int .u8 0, .int .u8 0, .int .u8 0, .int .u8 0, .int .u8 0] 41)) ((((w.alloc (.cells #[.int .u8 (g.r0.a.toNat : Int), .int .u8 (g.r0.b.toNat : Int), .int .u8 (g.r0.c.toNat : Int), .int .u8 (g.r1.a.toNat : Int), .int .u8 (g.r1.b.toNat : Int), .int .u8 (g.r1.c.toNat : Int), .int .u8 (g.r2.a.toNat : Int), .int .u8 (g.r2.b.toNat : Int), .int .u8 (g.r2.c.toNat : Int)] 41)).alloc (.cells #[.int .u8 (h.r0.a.toNat : Int), .int .u8 (h.r0.b.toNat : Int), .int .u8 (h.r0.c.toNat : Int), .int .u8 (h.r1.a.toNat : Int), .int .u8 (h.r1.b.toNat : Int), .int .u8 (h.r1.c.toNat : Int), .int .u8 (h.r2.a.toNat : Int), .int .u8 (h.r2.b.toNat : Int), .int .u8 (h.r2.c.toNat : Int)] 41)).alloc (.cells #[.int .u8 0, .int .u8 0, .int .u8 0, .int .u8 0, .int .u8 0, .int .u8 0, .int .u8 0, .int .u8 0, .int .u8 0] 41)).alloc (.cells #[.int .u8 0, .int .u8 0, .int .u8 0, .int .u8 0, .int .u8 0, .int .u8 0, .int .u8 0, .int .u8 0, .int .u8 0] 41)) := bq1
  have r1 : ∀ k, k < 9 → (((w.alloc (.cells #[.int .u8 (g.r0.a.toNat : Int), .int .u8 (g.r0.b.toNat : Int), .int .u8 (g.r0.c.toNat : Int), .int .u8 (g.r1.a.toNat : Int), .int .u8 (g.r1.b.toNat : Int), .int .u8 (g.r1.c.toNat : Int), .int .u8 (g.r2.a.toNat : Int), .int .u8 (g.r2.b.toNat : Int), .int .u8 (g.r2.c.toNat : Int)] 41)).alloc (.cells #[.int .u8 (h.r0.a.toNat : Int), .int .u8 (h.r0.b.toNat : Int), .int .u8 (h.r0.c.toNat : Int), .int .u8 (h.r1.a.toNat : Int), .int .u8 (h.r1.b.toNat : Int), .int .u8 (h.r1.c.toNat : Int), .int .u8 (h.r2.a.toNat : Int), .int .u8 (h.r2.b.toNat : Int), .int .u8 (h.r2.c.toNat : Int)] 41)).alloc (.cells #[.int .u8 0, .int .u8 0, .int .u8 0, .int .u8 0, .int .u8 0, .int .u8 0, .int .u8 0, .int .u8 0, .int .u8 0] 41)).cell? ⟨w.heap.size + 1 + 1, k, none⟩ = some (.int .u8 0) := fun k hk => by
    have h2 := z_at ((w.alloc (.cells #[.int .u8 (g.r0.a.toNat : Int), .int .u8 (g.r0.b.toNat : Int), .int .u8 (g.r0.c.toNat : Int), .int .u8 (g.r1.a.toNat : Int), .int .u8 (g.r1.b.toNat : Int), .int .u8 (g.r1.c.toNat : Int), .int .u8 (g.r2.a.toNat : Int), .int .u8 (g.r2.b.toNat : Int), .int .u8 (g.r2.c.toNat : Int)] 41)).alloc (.cells #[.int .u8 (h.r0.a.toNat : Int), .int .u8 (h.r0.b.toNat : Int), .int .u8 (h.r0.c.toNat : Int), .int .u8 (h.r1.a.toNat : Int), .int .u8 (h.r1.b.toNat : Int), .int .u8 (h.r1.c.toNat : Int), .int .u8 (h.r2.a.toNat : Int), .int .u8 (h.r2.b.toNat : Int), .int .u8 (h.r2.c.toNat : Int)] 41)) 41 (k / 3) (k % 3) (by omega) (by omega)
    rw [show ((w.alloc (.cells #[.int .u8 (g.r0.a.toNat : Int), .int .u8 (g.r0.b.toNat : Int), .int .u8 (g.r0.c.toNat : Int), .int .u8 (g.r1.a.toNat : Int), .int .u8 (g.r1.b.toNat : Int), .int .u8 (g.r1.c.toNat : Int), .int .u8 (g.r2.a.toNat : Int), .int .u8 (g.r2.b.toNat : Int), .int .u8 (g.r2.c.toNat : Int)] 41)).alloc (.cells #[.int .u8 (h.r0.a.toNat : Int), .int .u8 (h.r0.b.toNat : Int), .int .u8 (h.r0.c.toNat : Int), .int .u8 (h.r1.a.toNat : Int), .int .u8 (h.r1.b.toNat : Int), .int .u8 (h.r1.c.toNat : Int), .int .u8 (h.r2.a.toNat : Int), .int .u8 (h.r2.b.toNat : Int), .int .u8 (h.r2.c.toNat : Int)] 41)).heap.size = w.heap.size + 1 + 1 by simp, show k / 3 * 3 + k % 3 = k by omega] at h2
    exact h2
  have rf : ∀ k, (((w.alloc (.cells #[.int .u8 (g.r0.a.toNat : Int), .int .u8 (g.r0.b.toNat : Int), .int .u8 (g.r0.c.toNat : Int), .int .u8 (g.r1.a.toNat : Int), .int .u8 (g.r1.b.toNat : Int), .int .u8 (g.r1.c.toNat : Int), .int .u8 (g.r2.a.toNat : Int), .int .u8 (g.r2.b.toNat : Int), .int .u8 (g.r2.c.toNat : Int)] 41)).alloc (.cells #[.int .u8 (h.r0.a.toNat : Int), .int .u8 (h.r0.b.toNat : Int), .int .u8 (h.r0.c.toNat : Int), .int .u8 (h.r1.a.toNat : Int), .int .u8 (h.r1.b.toNat : Int), .int .u8 (h.r1.c.toNat : Int), .int .u8 (h.r2.a.toNat : Int), .int .u8 (h.r2.b.toNat : Int), .int .u8 (h.r2.c.toNat : Int)] 41)).alloc (.cells #[.int .u8 0, .int .u8 0, .int .u8 0, .int .u8 0, .int .u8 0, .int .u8 0, .int .u8 0, .int .u8 0, .int .u8 0] 41)).frozen? ⟨w.heap.size + 1 + 1, k, none⟩ = false := fun k => by
    have := z_fr ((w.alloc (.cells #[.int .u8 (g.r0.a.toNat : Int), .int .u8 (g.r0.b.toNat : Int), .int .u8 (g.r0.c.toNat : Int), .int .u8 (g.r1.a.toNat : Int), .int .u8 (g.r1.b.toNat : Int), .int .u8 (g.r1.c.toNat : Int), .int .u8 (g.r2.a.toNat : Int), .int .u8 (g.r2.b.toNat : Int), .int .u8 (g.r2.c.toNat : Int)] 41)).alloc (.cells #[.int .u8 (h.r0.a.toNat : Int), .int .u8 (h.r0.b.toNat : Int), .int .u8 (h.r0.c.toNat : Int), .int .u8 (h.r1.a.toNat : Int), .int .u8 (h.r1.b.toNat : Int), .int .u8 (h.r1.c.toNat : Int), .int .u8 (h.r2.a.toNat : Int), .int .u8 (h.r2.b.toNat : Int), .int .u8 (h.r2.c.toNat : Int)] 41)) (.cells #[.int .u8 0, .int .u8 0, .int .u8 0, .int .u8 0, .int .u8 0, .int .u8 0, .int .u8 0, .int .u8 0, .int .u8 0] 41) k _ _ rfl
    rwa [show ((w.alloc (.cells #[.int .u8 (g.r0.a.toNat : Int), .int .u8 (g.r0.b.toNat : Int), .int .u8 (g.r0.c.toNat : Int), .int .u8 (g.r1.a.toNat : Int), .int .u8 (g.r1.b.toNat : Int), .int .u8 (g.r1.c.toNat : Int), .int .u8 (g.r2.a.toNat : Int), .int .u8 (g.r2.b.toNat : Int), .int .u8 (g.r2.c.toNat : Int)] 41)).alloc (.cells #[.int .u8 (h.r0.a.toNat : Int), .int .u8 (h.r0.b.toNat : Int), .int .u8 (h.r0.c.toNat : Int), .int .u8 (h.r1.a.toNat : Int), .int .u8 (h.r1.b.toNat : Int), .int .u8 (h.r1.c.toNat : Int), .int .u8 (h.r2.a.toNat : Int), .int .u8 (h.r2.b.toNat : Int), .int .u8 (h.r2.c.toNat : Int)] 41)).heap.size = w.heap.size + 1 + 1 by simp] at this
  generalize (((w.alloc (.cells #[.int .u8 (g.r0.a.toNat : Int), .int .u8 (g.r0.b.toNat : Int), .int .u8 (g.r0.c.toNat : Int), .int .u8 (g.r1.a.toNat : Int), .int .u8 (g.r1.b.toNat : Int), .int .u8 (g.r1.c.toNat : Int), .int .u8 (g.r2.a.toNat : Int), .int .u8 (g.r2.b.toNat : Int), .int .u8 (g.r2.c.toNat : Int)] 41)).alloc (.cells #[.int .u8 (h.r0.a.toNat : Int), .int .u8 (h.r0.b.toNat : Int), .int .u8 (h.r0.c.toNat : Int), .int .u8 (h.r1.a.toNat : Int), .int .u8 (h.r1.b.toNat : Int), .int .u8 (h.r1.c.toNat : Int), .int .u8 (h.r2.a.toNat : Int), .int .u8 (h.r2.b.toNat : Int), .int .u8 (h.r2.c.toNat : Int)] 41)).alloc (.cells #[.int .u8 0, .int .u8 0, .int .u8 0, .int .u8 0, .int .u8 0, .int .u8 0, .int .u8 0, .int .u8 0, .int .u8 0] 41)) = W0 at *
  generalize hW1 : W0.alloc (.cells #[.int .u8 0, .int .u8 0, .int .u8 0, .int .u8 0, .int .u8 0, .int .u8 0, .int .u8 0, .int .u8 0, .int .u8 0] 41) = W1 at *
  clear hW1
  have C1 := Lib.hid c1
  have C2 := Lib.hid c2
  have C3 := Lib.hid c3
  have C4 := Lib.hid c4
  have HB0 := Lib.hid hb0
  have HY0 := Lib.hid hy0
  have R1 := Lib.hid r1
  have RF := Lib.hid rf
  clear rf
  clear c1 c2 c3 c4 hb0 hy0 r1
  go_loopg [16] n (fun k v w' => ∃ (i : Nat) (y : Later W0), i + k = n ∧ v = .int .i64 i ∧ w' = y.W ∧ (∀ i' j', i' < 3 → j' < 3 → w'.cell? ⟨w.heap.size + 1 + 1 + 1, i' * 3 + j', none⟩ = some (.int .u8 (doneT p n g h i 0 i' j'))) ∧ ∀ k, w'.frozen? ⟨w.heap.size + 1 + 1 + 1, k, none⟩ = false)
  case atStart => exact ⟨0, ⟨W1, HY0.out⟩, by omega, rfl, rfl, fun i' j' h1 h2 => by rw [C3.out i' j' h1 h2]; simp [doneT], C4.out⟩
  case round =>
    obtain ⟨i, y, hik, rfl, rfl, hc, hf⟩ := hrel
    have HIK := Lib.hid hik
    have HC := Lib.hid hc
    have HF := Lib.hid hf
    clear hik hc hf
    by_cases hlt : i < n
    · have hi1 : (i : Int) < n := by omega
      go_wp2
      go_loopg [20] n (fun k v w' => ∃ (j : Nat) (y2 : Later W0), j + k = n ∧ v = .int .i64 j ∧ w' = y2.W ∧ (∀ i' j', i' < 3 → j' < 3 → w'.cell? ⟨w.heap.size + 1 + 1 + 1, i' * 3 + j', none⟩ = some (.int .u8 (doneT p n g h i j i' j'))) ∧ ∀ k, w'.frozen? ⟨w.heap.size + 1 + 1 + 1, k, none⟩ = false)
      case atStart => exact ⟨0, y, by omega, rfl, rfl, HC.out, HF.out⟩
      case round =>
        obtain ⟨j, y2, hjk, rfl, rfl, hc, hf⟩ := hrel
        have HJK := Lib.hid hjk
        have HC2 := Lib.hid hc
        have HF2 := Lib.hid hf
        clear hjk hc hf
        by_cases hlj : j < n
        · have hj1 : (j : Int) < n := by omega
          have zy : W0.heap.size ≤ y2.W.heap.size := y2.ok.size
          have zg : w.heap.size < y2.W.heap.size := by omega
          have zh : w.heap.size + 1 < y2.W.heap.size := by omega
          go_wp2
          go_loopg [24, 12] n (fun k v s w' => ∃ (q : Nat) (y3 : Later y2.W), q + k = n ∧ v = .int .i64 q ∧ s = .int .i64 (sumT g h i j q) ∧ w' = y3.W)
          case atStart => exact ⟨0, ⟨y2.W, Below.refl _ _⟩, by omega, rfl, rfl, rfl⟩
          case round =>
            obtain ⟨q, y3, hqk, rfl, rfl, rfl⟩ := hrel
            have HQK := Lib.hid hqk
            clear hqk
            by_cases hlq : q < n
            · have hq1 : (q : Int) < n := by omega
              have g1 := y2.keep (C1.out i q (by omega) (by omega))
              have g2 := y2.keep (C2.out q j (by omega) (by omega))
              have b1 := at_le HG.out i q
              have b2 := at_le HH.out q j
              have b3 := sumT_bd hp' HG.out HH.out i j q (by omega)
              have hst : sumT g h i j (q + 1) = sumT g h i j q + ((g.at i q).toNat : Int) * ((h.at q j).toNat : Int) := rfl
              have HST := Lib.hid hst
              clear hst
              have b4 : 0 ≤ ((g.at i q).toNat : Int) := by omega
              have b5 : 0 ≤ ((h.at q j).toNat : Int) := by omega
              generalize ((g.at i q).toNat : Int) = gg at *
              generalize ((h.at q j).toNat : Int) = hh at *
              generalize sumT g h i j q = ss at *
              have b6 := mul_bd3 (x := gg) (y := hh) b4 (by omega) b5 (by omega)
              have w1 := i64_small (n := gg * hh) (by omega) (by omega)
              have w2 := i64_small (n := ss + gg * hh) (by omega) (by omega)
              have i1 : (i : Int) < 3 := by omega
              have i2 : (q : Int) < 3 := by omega
              have i3 : (j : Int) < 3 := by omega
              have e1 : ((i : Int)).toNat = i := by omega
              have e2 : ((q : Int)).toNat = q := by omega
              have e3 : ((j : Int)).toNat = j := by omega
              go_wp2
              (first | refine wp_region_later2 (by kernel_rfl) (by kernel_rfl) ?_ | refine wp_region_later (by kernel_rfl) (by kernel_rfl) ?_); (repeat (go_big_quiet_step (fail))); refine wpQuiet_nil ?_; intro x
              go_wp2
              go_roundg (n - q - 1)
              case measure => have := HQK.out; omega
              case rel => exact ⟨q + 1, x, by have := HQK.out; omega, by go_num, by (rw [HST.out] <;> first | rfl | simp [w2]), rfl⟩
            · have hqe : q = n := by have := HQK.out; omega
              subst hqe
              have g3 := y3.keep (HC2.out i j (by omega) (by omega))
              have g4 := (y3.ok.frozen (World.block_lt_of_cell? _ _ (HC2.out i j (by omega) (by omega)))).trans (HF2.out (i * 3 + j))
              have b3 := sumT_bd hp' HG.out HH.out i j q (by omega)
              have b7 := mod_bd (sumT g h i j q) hp
              have hte : (sumT g h i j q).tmod p = sumT g h i j q % p := Int.tmod_eq_emod_of_nonneg b3.1
              have hpz : p ≠ 0 := by omega
              have i1 : (i : Int) < 3 := by omega
              have i3 : (j : Int) < 3 := by omega
              have e1 : ((i : Int)).toNat = i := by omega
              have e3 : ((j : Int)).toNat = j := by omega
              go_wp2
              go_region
              go_wp2
              go_roundg (q - j - 1)
              case measure => have := HJK.out; omega
              case rel =>
                have hb3 : Below W0.heap.size W0 y3.W := y2.ok.trans (y3.ok.mono y2.ok.size)
                refine ⟨j + 1, ⟨(y3.W.setCell ⟨w.heap.size + 1 + 1 + 1, i * 3 + j, none⟩ (.int .u8 (sumT g h i j q % p))).drew, (hb3.setCell (by first | (simp; done) | (simp; omega) | omega) _).drew⟩, by have := HJK.out; omega, by go_num, rfl, fun i' j' hi' hj' => ?_, fun k => ?_⟩
                · show (y3.W.setCell _ _).cell? _ = _
                  by_cases hij : i' = i ∧ j' = j
                  · obtain ⟨rfl, rfl⟩ := hij
                    rw [World.cell?_setCell_same _ _ _ g3, doneT, if_pos ⟨hlj, .inr ⟨rfl, by omega⟩⟩]
                  · rw [World.cell?_setCell_other _ _ _ _ (by first | (simp; done) | (simp; omega)), y3.keep (HC2.out i' j' hi' hj')]
                    have : (j' < q ∧ (i' < i ∨ (i' = i ∧ j' < j))) ↔ (j' < q ∧ (i' < i ∨ (i' = i ∧ j' < j + 1))) := by omega
                    simp only [doneT, this]
                · show (y3.W.setCell _ _).frozen? _ = _
                  have := (y3.ok.frozen (p := ⟨w.heap.size + 1 + 1 + 1, k, none⟩) (by show w.heap.size + 1 + 1 + 1 < _; have := World.block_lt_of_cell? _ _ (HC2.out i j (by omega) (by omega)); exact this)).trans (HF2.out k)
                  simp [this]
        · have hje : j = n := by have := HJK.out; omega
          subst hje
          go_wp2
          go_roundg (j - i - 1)
          case measure => have := HIK.out; omega
          case rel =>
            refine ⟨i + 1, y2, by have := HIK.out; omega, by go_num, rfl, fun i' j' hi' hj' => ?_, HF2.out⟩
            rw [HC2.out i' j' hi' hj']
            have : (j' < j ∧ (i' < i ∨ (i' = i ∧ j' < j))) ↔ (j' < j ∧ (i' < i + 1 ∨ (i' = i + 1 ∧ j' < 0))) := by omega
            simp only [doneT, this]
    · have hie : i = n := by have := HIK.out; omega
      subst hie
      have o0 : y.W.cell? ⟨w.heap.size + 1 + 1 + 1, 0, none⟩ = some (.int .u8 ((timesM p i g h).r0.a.toNat : Int)) := by
        have := HC.out 0 0 (by omega) (by omega)
        rw [done_end hp hp'] at this
        exact this
      have r0 := y.keep (R1.out 0 (by omega))
      have f0 : y.W.frozen? ⟨w.heap.size + 1 + 1, 0, none⟩ = false := (y.ok.frozen (World.block_lt_of_cell? _ _ (R1.out 0 (by omega)))).trans (RF.out 0)
      have o1 : y.W.cell? ⟨w.heap.size + 1 + 1 + 1, 1, none⟩ = some (.int .u8 ((timesM p i g h).r0.b.toNat : Int)) := by
        have := HC.out 0 1 (by omega) (by omega)
        rw [done_end hp hp'] at this
        exact this
      have r1 := y.keep (R1.out 1 (by omega))
      have f1 : y.W.frozen? ⟨w.heap.size + 1 + 1, 1, none⟩ = false := (y.ok.frozen (World.block_lt_of_cell? _ _ (R1.out 1 (by omega)))).trans (RF.out 1)
      have o2 : y.W.cell? ⟨w.heap.size + 1 + 1 + 1, 2, none⟩ = some (.int .u8 ((timesM p i g h).r0.c.toNat : Int)) := by
        have := HC.out 0 2 (by omega) (by omega)
        rw [done_end hp hp'] at this
        exact this
      have r2 := y.keep (R1.out 2 (by omega))
      have f2 : y.W.frozen? ⟨w.heap.size + 1 + 1, 2, none⟩ = false := (y.ok.frozen (World.block_lt_of_cell? _ _ (R1.out 2 (by omega)))).trans (RF.out 2)
      have o3 : y.W.cell? ⟨w.heap.size + 1 + 1 + 1, 3, none⟩ = some (.int .u8 ((timesM p i g h).r1.a.toNat : Int)) := by
        have := HC.out 1 0 (by omega) (by omega)
        rw [done_end hp hp'] at this
        exact this
      have r3 := y.keep (R1.out 3 (by omega))
      have f3 : y.W.frozen? ⟨w.heap.size + 1 + 1, 3, none⟩ = false := (y.ok.frozen (World.block_lt_of_cell? _ _ (R1.out 3 (by omega)))).trans (RF.out 3)
      have o4 : y.W.cell? ⟨w.heap.size + 1 + 1 + 1, 4, none⟩ = some (.int .u8 ((timesM p i g h).r1.b.toNat : Int)) := by
        have := HC.out 1 1 (by omega) (by omega)
        rw [done_end hp hp'] at this
        exact this
      have r4 := y.keep (R1.out 4 (by omega))
      have f4 : y.W.frozen? ⟨w.heap.size + 1 + 1, 4, none⟩ = false := (y.ok.frozen (World.block_lt_of_cell? _ _ (R1.out 4 (by omega)))).trans (RF.out 4)
      have o5 : y.W.cell? ⟨w.heap.size + 1 + 1 + 1, 5, none⟩ = some (.int .u8 ((timesM p i g h).r1.c.toNat : Int)) := by
        have := HC.out 1 2 (by omega) (by omega)
        rw [done_end hp hp'] at this
        exact this
      have r5 := y.keep (R1.out 5 (by omega))
      have f5 : y.W.frozen? ⟨w.heap.size + 1 + 1, 5, none⟩ = false := (y.ok.frozen (World.block_lt_of_cell? _ _ (R1.out 5 (by omega)))).trans (RF.out 5)
      have o6 : y.W.cell? ⟨w.heap.size + 1 + 1 + 1, 6, none⟩ = some (.int .u8 ((timesM p i g h).r2.a.toNat : Int)) := by
        have := HC.out 2 0 (by omega) (by omega)
        rw [done_end hp hp'] at this
        exact this
      have r6 := y.keep (R1.out 6 (by omega))
      have f6 : y.W.frozen? ⟨w.heap.size + 1 + 1, 6, none⟩ = false := (y.ok.frozen (World.block_lt_of_cell? _ _ (R1.out 6 (by omega)))).trans (RF.out 6)
      have o7 : y.W.cell? ⟨w.heap.size + 1 + 1 + 1, 7, none⟩ = some (.int .u8 ((timesM p i g h).r2.b.toNat : Int)) := by
        have := HC.out 2 1 (by omega) (by omega)
        rw [done_end hp hp'] at this
        exact this
      have r7 := y.keep (R1.out 7 (by omega))
      have f7 : y.W.frozen? ⟨w.heap.size + 1 + 1, 7, none⟩ = false := (y.ok.frozen (World.block_lt_of_cell? _ _ (R1.out 7 (by omega)))).trans (RF.out 7)
      have o8 : y.W.cell? ⟨w.heap.size + 1 + 1 + 1, 8, none⟩ = some (.int .u8 ((timesM p i g h).r2.c.toNat : Int)) := by
        have := HC.out 2 2 (by omega) (by omega)
        rw [done_end hp hp'] at this
        exact this
      have r8 := y.keep (R1.out 8 (by omega))
      have f8 : y.W.frozen? ⟨w.heap.size + 1 + 1, 8, none⟩ = false := (y.ok.frozen (World.block_lt_of_cell? _ _ (R1.out 8 (by omega)))).trans (RF.out 8)
      generalize timesM p i g h = tm at *
      have hb0 := HB0.out
      have hzy : w.heap.size + 3 ≤ y.W.heap.size := by have := y.ok.size; omega
      go_wp2
      exact bodyPost_ret (v := .agg #[.int .u8 (tm.r0.a.toNat : Int), .int .u8 (tm.r0.b.toNat : Int), .int .u8 (tm.r0.c.toNat : Int), .int .u8 (tm.r1.a.toNat : Int), .int .u8 (tm.r1.b.toNat : Int), .int .u8 (tm.r1.c.toNat : Int), .int .u8 (tm.r2.a.toNat : Int), .int .u8 (tm.r2.b.toNat : Int), .int .u8 (tm.r2.c.toNat : Int)]) (by simp [results, Try.results63, go_sem, r0, r1, r2, r3, r4, r5, r6, r7, r8]) rfl (.mk rfl bq1)
end Go.Proofs.Ytimjhehagimcaaa
/- Equality of matrices; no condition. -/
set_option linter.unusedVariables false
set_option linter.unusedSimpArgs false
namespace Go.Proofs.Ytimjhehagimcaaa
open Go.RowKit Go.Proofs.YtimjhehagimcaaaW.PrintWords
attribute [local go_sem] Later.cell Later.frozen Later.lt Later.lt_add Later.le Later.le_add Later.ne Later.ne' add_at
theorem guardM : Try.prog.eqGuardType Try.prog.depth 41 = false := by kernel_rfl
theorem eqRow (a b : E3) (w : World) : (Op.equalIn 9999 39 (.agg #[.int .u8 (a.a.toNat : Int), .int .u8 (a.b.toNat : Int), .int .u8 (a.c.toNat : Int)]) (.agg #[.int .u8 (b.a.toNat : Int), .int .u8 (b.b.toNat : Int), .int .u8 (b.c.toNat : Int)])).run Try.prog w = .ok (a == b) w := by
  have h := run_equalIn_bytes (P := Try.prog) w 9997 39 5 3 Try.underlying39 Try.underlying5 Try.sizeOf5 [a.a, a.b, a.c] [b.a, b.b, b.c] rfl rfl
  have e0 : ([a.a, a.b, a.c] == [b.a, b.b, b.c]) = (a == b) := by
    obtain ⟨a, a1, a2⟩ := a
    obtain ⟨b, b1, b2⟩ := b
    rw [Bool.eq_iff_iff]
    simp
  rw [e0] at h
  exact h
theorem rowsOf (cs : Array Value) (n : Nat) (w : World) : (part 39 cs n).run Try.prog w = .ok (.agg (cs.extract n (n + 3))) w := by
  simp [part, isAgg, run_underlying Try.underlying39, Try.sizeOf39]
theorem eqMat (a b : M9) (w : World) : (Op.equalIn 10000 41 (.agg #[.int .u8 (a.r0.a.toNat : Int), .int .u8 (a.r0.b.toNat : Int), .int .u8 (a.r0.c.toNat : Int), .int .u8 (a.r1.a.toNat : Int), .int .u8 (a.r1.b.toNat : Int), .int .u8 (a.r1.c.toNat : Int), .int .u8 (a.r2.a.toNat : Int), .int .u8 (a.r2.b.toNat : Int), .int .u8 (a.r2.c.toNat : Int)]) (.agg #[.int .u8 (b.r0.a.toNat : Int), .int .u8 (b.r0.b.toNat : Int), .int .u8 (b.r0.c.toNat : Int), .int .u8 (b.r1.a.toNat : Int), .int .u8 (b.r1.b.toNat : Int), .int .u8 (b.r1.c.toNat : Int), .int .u8 (b.r2.a.toNat : Int), .int .u8 (b.r2.b.toNat : Int), .int .u8 (b.r2.c.toNat : Int)])).run Try.prog w = .ok (a == b) w := by
  have e0 : (a == b) = (a.r0 == b.r0 && (a.r1 == b.r1 && a.r2 == b.r2)) := by
    obtain ⟨a, a1, a2⟩ := a
    obtain ⟨b, b1, b2⟩ := b
    rw [Bool.eq_iff_iff]
    simp
  have h0 := eqRow a.r0 b.r0 w
  have h1 := eqRow a.r1 b.r1 w
  have h2 := eqRow a.r2 b.r2 w
  rw [e0, Op.equalIn]
  simp only [Sem.run_bind, run_underlying Try.underlying41, Result.andThen_ok, Try.sizeOf39, Std.Legacy.Range.forIn_eq_forIn_range', Std.Legacy.Range.size, Nat.sub_zero, Nat.add_sub_cancel, Nat.div_one]
  rw [show List.range' 0 3 = [0, 1, 2] by rfl]
  simp only [List.forIn_cons, List.forIn_nil, Sem.run_bind, rowsOf, Result.andThen_ok]
  have h0' : (Op.equalIn 9999 39 (.agg ((#[Value.int .u8 (a.r0.a.toNat : Int), .int .u8 (a.r0.b.toNat : Int), .int .u8 (a.r0.c.toNat : Int), .int .u8 (a.r1.a.toNat : Int), .int .u8 (a.r1.b.toNat : Int), .int .u8 (a.r1.c.toNat : Int), .int .u8 (a.r2.a.toNat : Int), .int .u8 (a.r2.b.toNat : Int), .int .u8 (a.r2.c.toNat : Int)] : Array Value).extract (0 * 3) (0 * 3 + 3))) (.agg ((#[Value.int .u8 (b.r0.a.toNat : Int), .int .u8 (b.r0.b.toNat : Int), .int .u8 (b.r0.c.toNat : Int), .int .u8 (b.r1.a.toNat : Int), .int .u8 (b.r1.b.toNat : Int), .int .u8 (b.r1.c.toNat : Int), .int .u8 (b.r2.a.toNat : Int), .int .u8 (b.r2.b.toNat : Int), .int .u8 (b.r2.c.toNat : Int)] : Array Value).extract (0 * 3) (0 * 3 + 3)))).run Try.prog w = .ok (a.r0 == b.r0) w := h0
  have h1' : (Op.equalIn 9999 39 (.agg ((#[Value.int .u8 (a.r0.a.toNat : Int), .int .u8 (a.r0.b.toNat : Int), .int .u8 (a.r0.c.toNat : Int), .int .u8 (a.r1.a.toNat : Int), .int .u8 (a.r1.b.toNat : Int), .int .u8 (a.r1.c.toNat : Int), .int .u8 (a.r2.a.toNat : Int), .int .u8 (a.r2.b.toNat : Int), .int .u8 (a.r2.c.toNat : Int)] : Array Value).extract (1 * 3) (1 * 3 + 3))) (.agg ((#[Value.int .u8 (b.r0.a.toNat : Int), .int .u8 (b.r0.b.toNat : Int), .int .u8 (b.r0.c.toNat : Int), .int .u8 (b.r1.a.toNat : Int), .int .u8 (b.r1.b.toNat : Int), .int .u8 (b.r1.c.toNat : Int), .int .u8 (b.r2.a.toNat : Int), .int .u8 (b.r2.b.toNat : Int), .int .u8 (b.r2.c.toNat : Int)] : Array Value).extract (1 * 3) (1 * 3 + 3)))).run Try.prog w = .ok (a.r1 == b.r1) w := h1
  have h2' : (Op.equalIn 9999 39 (.agg ((#[Value.int .u8 (a.r0.a.toNat : Int), .int .u8 (a.r0.b.toNat : Int), .int .u8 (a.r0.c.toNat : Int), .int .u8 (a.r1.a.toNat : Int), .int .u8 (a.r1.b.toNat : Int), .int .u8 (a.r1.c.toNat : Int), .int .u8 (a.r2.a.toNat : Int), .int .u8 (a.r2.b.toNat : Int), .int .u8 (a.r2.c.toNat : Int)] : Array Value).extract (2 * 3) (2 * 3 + 3))) (.agg ((#[Value.int .u8 (b.r0.a.toNat : Int), .int .u8 (b.r0.b.toNat : Int), .int .u8 (b.r0.c.toNat : Int), .int .u8 (b.r1.a.toNat : Int), .int .u8 (b.r1.b.toNat : Int), .int .u8 (b.r1.c.toNat : Int), .int .u8 (b.r2.a.toNat : Int), .int .u8 (b.r2.b.toNat : Int), .int .u8 (b.r2.c.toNat : Int)] : Array Value).extract (2 * 3) (2 * 3 + 3)))).run Try.prog w = .ok (a.r2 == b.r2) w := h2
  simp only [h0', h1', h2', Result.andThen_ok]
  cases hb0 : (a.r0 == b.r0)
  · simp
  · cases hb1 : (a.r1 == b.r1)
    · simp [rowsOf, h1, h2, hb1]
    · cases hb2 : (a.r2 == b.r2)
      · simp [rowsOf, h1, h2, hb1, hb2]
      · simp [rowsOf, h1, h2, hb1, hb2]
theorem run_eqM (a b : M9) (w : World) : (binOp .eql 41 (.agg #[.int .u8 (a.r0.a.toNat : Int), .int .u8 (a.r0.b.toNat : Int), .int .u8 (a.r0.c.toNat : Int), .int .u8 (a.r1.a.toNat : Int), .int .u8 (a.r1.b.toNat : Int), .int .u8 (a.r1.c.toNat : Int), .int .u8 (a.r2.a.toNat : Int), .int .u8 (a.r2.b.toNat : Int), .int .u8 (a.r2.c.toNat : Int)]) (.agg #[.int .u8 (b.r0.a.toNat : Int), .int .u8 (b.r0.b.toNat : Int), .int .u8 (b.r0.c.toNat : Int), .int .u8 (b.r1.a.toNat : Int), .int .u8 (b.r1.b.toNat : Int), .int .u8 (b.r1.c.toNat : Int), .int .u8 (b.r2.a.toNat : Int), .int .u8 (b.r2.b.toNat : Int), .int .u8 (b.r2.c.toNat : Int)])).run Try.prog w = .ok (.bool (a == b)) w := by
  rw [run_eql_struct, eqMat]
  rfl
set_option maxRecDepth 100000 in
theorem eqByteA3_same (a b c : UInt8) (w : World) : Calls Try.prog 125 #[.agg #[.int .u8 (a.toNat : Int), .int .u8 (b.toNat : Int), .int .u8 (c.toNat : Int)], .agg #[.int .u8 (a.toNat : Int), .int .u8 (b.toNat : Int), .int .u8 (c.toNat : Int)]] w (Gives (.bool true) w) := by
  go_enter Try.func125, Try.ntmps125
  go_wp2
  refine wp_loop_rounds 4 ?_
  rw [rounds_succ]; go_wp2; ((first | refine wp_region_later2 (by kernel_rfl) (by kernel_rfl) ?_ | refine wp_region_later (by kernel_rfl) (by kernel_rfl) ?_); (repeat (go_big_quiet_step (fail))); refine wpQuiet_nil ?_; intro x); go_wp2
  rw [rounds_succ]; go_wp2; ((first | refine wp_region_later2 (by kernel_rfl) (by kernel_rfl) ?_ | refine wp_region_later (by kernel_rfl) (by kernel_rfl) ?_); (repeat (go_big_quiet_step (fail))); refine wpQuiet_nil ?_; intro x); go_wp2
  rw [rounds_succ]; go_wp2; ((first | refine wp_region_later2 (by kernel_rfl) (by kernel_rfl) ?_ | refine wp_region_later (by kernel_rfl) (by kernel_rfl) ?_); (repeat (go_big_quiet_step (fail))); refine wpQuiet_nil ?_; intro x); go_wp2
  rw [rounds_succ]
  go_wp2
  exact bodyPost_ret (v := .bool true) (by simp [results, Try.results125, go_sem]) rfl (.mk rfl bq1)
set_option maxRecDepth 100000 in
set_option maxHeartbeats 1000000 in
theorem eqMatrix_same (m : M9) (w : World) : Calls Try.prog 96 #[.agg #[.int .u8 (m.r0.a.toNat : Int), .int .u8 (m.r0.b.toNat : Int), .int .u8 (m.r0.c.toNat : Int), .int .u8 (m.r1.a.toNat : Int), .int .u8 (m.r1.b.toNat : Int), .int .u8 (m.r1.c.toNat : Int), .int .u8 (m.r2.a.toNat : Int), .int .u8 (m.r2.b.toNat : Int), .int .u8 (m.r2.c.toNat : Int)], .agg #[.int .u8 (m.r0.a.toNat : Int), .int .u8 (m.r0.b.toNat : Int), .int .u8 (m.r0.c.toNat : Int), .int .u8 (m.r1.a.toNat : Int), .int .u8 (m.r1.b.toNat : Int), .int .u8 (m.r1.c.toNat : Int), .int .u8 (m.r2.a.toNat : Int), .int .u8 (m.r2.b.toNat : Int), .int .u8 (m.r2.c.toNat : Int)]] w (Gives (.bool true) w) := by
  go_enter Try.func96, Try.ntmps96
  go_wp2
  refine wp_loop_rounds 4 ?_
  rw [rounds_succ]; go_wp2; ((first | refine wp_region_later2 (by kernel_rfl) (by kernel_rfl) ?_ | refine wp_region_later (by kernel_rfl) (by kernel_rfl) ?_); (repeat (go_big_quiet_step ((go_at_call 125; exact quiet_later (eqByteA3_same _ _ _ _))))); refine wpQuiet_nil ?_; intro x); go_wp2
  rw [rounds_succ]; go_wp2; ((first | refine wp_region_later2 (by kernel_rfl) (by kernel_rfl) ?_ | refine wp_region_later (by kernel_rfl) (by kernel_rfl) ?_); (repeat (go_big_quiet_step ((go_at_call 125; exact quiet_later (eqByteA3_same _ _ _ _))))); refine wpQuiet_nil ?_; intro x); go_wp2
  rw [rounds_succ]; go_wp2; ((first | refine wp_region_later2 (by kernel_rfl) (by kernel_rfl) ?_ | refine wp_region_later (by kernel_rfl) (by kernel_rfl) ?_); (repeat (go_big_quiet_step ((go_at_call 125; exact quiet_later (eqByteA3_same _ _ _ _))))); refine wpQuiet_nil ?_; intro x); go_wp2
  rw [rounds_succ]
  go_wp2
  exact bodyPost_ret (v := .bool true) (by simp [results, Try.results96, go_sem]) rfl (.mk rfl bq1)
end Go.Proofs.Ytimjhehagimcaaa
