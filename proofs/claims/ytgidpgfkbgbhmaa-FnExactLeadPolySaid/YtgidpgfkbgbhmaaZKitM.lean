/- Walks of the functions on polynomials, numbers and rows, of both sides; no condition. -/
import Derived.Test.YtgidpgfkbgbhmaaZKitA
import Derived.Stop.BytesEq
import Derived.BigQuiet
/- The walks of the functions on matrices; no condition. -/
set_option linter.unusedVariables false
set_option linter.unusedSimpArgs false
namespace Go.Proofs.Ytgidpgfkbgbhmaa
open Go.RowKit Go.Proofs.YtgidpgfkbgbhmaaW.PrintWords
attribute [local go_sem] Later.cell Later.frozen Later.lt Later.lt_add Later.le Later.le_add Later.ne Later.ne' add_at
/-- A matrix. -/
structure M9 where
  r0 : E3
  r1 : E3
  r2 : E3
  deriving DecidableEq
def M9.cs (m : M9) : List Value := m.r0.cs ++ m.r1.cs ++ m.r2.cs
def kM : Kd M9 := flat 9 M9.cs (fun _ => rfl) (fun x u hu => by simp [M9.cs, E3.cs] at hu; rcases hu with rfl | rfl | rfl | rfl | rfl | rfl | rfl | rfl | rfl <;> rfl)
set_option maxRecDepth 100000 in
theorem toByteA3_c (e : E3) (w : World) : Calls Try.prog 104 #[.agg #[.int .u8 (e.a.toNat : Int), .int .u8 (e.b.toNat : Int), .int .u8 (e.c.toNat : Int)]] w (Gives (.agg #[.int .u8 (e.a.toNat : Int), .int .u8 (e.b.toNat : Int), .int .u8 (e.c.toNat : Int)]) w) := by
  go_enter Try.func104, Try.ntmps104
  go_wp2
  refine wp_loop_rounds 4 ?_
  rw [rounds_succ]
  go_wp2
  rw [rounds_succ]
  go_wp2
  rw [rounds_succ]
  go_wp2
  rw [rounds_succ]
  go_wp2
  exact bodyPost_ret (v := .agg #[.int .u8 (e.a.toNat : Int), .int .u8 (e.b.toNat : Int), .int .u8 (e.c.toNat : Int)]) (by simp [results, Try.results104, go_sem]) rfl (.mk rfl (by repeat (first | (with_reducible assumption) | (with_reducible exact Below.refl _ _) | (with_reducible refine Below.drew ?_) | (with_reducible refine pw_below_drewN ?_ _) | ((first | (with_reducible refine Below.alloc ?_ ?_ _) | (with_reducible refine Below.setCell ?_ ?_ _) | (with_reducible refine below_hop (by assumption) ?_ ?_)); rotate_left; (focus (first | omega | (simp; first | done | omega) | (simp [Later.le, Later.le_add, Later.lt, Later.lt_add]; first | done | omega)))) | ((with_reducible refine bel_later _ ?_ ?_); rotate_left; (focus (first | omega | (simp; first | done | omega) | (simp [Later.le, Later.le_add, Later.lt, Later.lt_add]; first | done | omega)))))))
theorem toByteA3_v (a b c : UInt8) (w : World) : Calls Try.prog 104 #[.agg #[.int .u8 (a.toNat : Int), .int .u8 (b.toNat : Int), .int .u8 (c.toNat : Int)]] w (Gives (.agg #[.int .u8 (a.toNat : Int), .int .u8 (b.toNat : Int), .int .u8 (c.toNat : Int)]) w) := toByteA3_c ⟨a, b, c⟩ w
set_option maxRecDepth 100000 in
set_option maxHeartbeats 1000000 in
theorem toMatrix_c (m : M9) (w : World) : Calls Try.prog 52 #[.agg #[.int .u8 (m.r0.a.toNat : Int), .int .u8 (m.r0.b.toNat : Int), .int .u8 (m.r0.c.toNat : Int), .int .u8 (m.r1.a.toNat : Int), .int .u8 (m.r1.b.toNat : Int), .int .u8 (m.r1.c.toNat : Int), .int .u8 (m.r2.a.toNat : Int), .int .u8 (m.r2.b.toNat : Int), .int .u8 (m.r2.c.toNat : Int)]] w (Gives (.agg #[.int .u8 (m.r0.a.toNat : Int), .int .u8 (m.r0.b.toNat : Int), .int .u8 (m.r0.c.toNat : Int), .int .u8 (m.r1.a.toNat : Int), .int .u8 (m.r1.b.toNat : Int), .int .u8 (m.r1.c.toNat : Int), .int .u8 (m.r2.a.toNat : Int), .int .u8 (m.r2.b.toNat : Int), .int .u8 (m.r2.c.toNat : Int)]) w) := by
  go_enter Try.func52, Try.ntmps52
  go_wp2
  refine wp_loop_rounds 4 ?_
  rw [rounds_succ]
  go_wp2_with ((go_at_call 104; (first | (with_reducible refine call_later2 (toByteA3_v _ _ _ _) ?_) | (with_reducible refine call_later (toByteA3_v _ _ _ _) ?_)); intro x1; have gb : Below (w.alloc (.cells #[.int .u8 (m.r0.a.toNat : Int), .int .u8 (m.r0.b.toNat : Int), .int .u8 (m.r0.c.toNat : Int), .int .u8 (m.r1.a.toNat : Int), .int .u8 (m.r1.b.toNat : Int), .int .u8 (m.r1.c.toNat : Int), .int .u8 (m.r2.a.toNat : Int), .int .u8 (m.r2.b.toNat : Int), .int .u8 (m.r2.c.toNat : Int)] 74)).heap.size (w.alloc (.cells #[.int .u8 (m.r0.a.toNat : Int), .int .u8 (m.r0.b.toNat : Int), .int .u8 (m.r0.c.toNat : Int), .int .u8 (m.r1.a.toNat : Int), .int .u8 (m.r1.b.toNat : Int), .int .u8 (m.r1.c.toNat : Int), .int .u8 (m.r2.a.toNat : Int), .int .u8 (m.r2.b.toNat : Int), .int .u8 (m.r2.c.toNat : Int)] 74)) x1.W := (by repeat (first | (with_reducible assumption) | (with_reducible exact Below.refl _ _) | (with_reducible refine Below.drew ?_) | (with_reducible refine pw_below_drewN ?_ _) | ((first | (with_reducible refine Below.alloc ?_ ?_ _) | (with_reducible refine Below.setCell ?_ ?_ _) | (with_reducible refine below_hop (by assumption) ?_ ?_)); rotate_left; (focus (first | omega | (simp; first | done | omega) | (simp [Later.le, Later.le_add, Later.lt, Later.lt_add]; first | done | omega)))) | ((with_reducible refine bel_later _ ?_ ?_); rotate_left; (focus (first | omega | (simp; first | done | omega) | (simp [Later.le, Later.le_add, Later.lt, Later.lt_add]; first | done | omega)))))); have b0 : x1.W.cell? ⟨w.heap.size, 0, none⟩ = some (.int .u8 (m.r0.a.toNat : Int)) := (gb.cell (by simp)).trans (by simp); have b1 : x1.W.cell? ⟨w.heap.size, 1, none⟩ = some (.int .u8 (m.r0.b.toNat : Int)) := (gb.cell (by simp)).trans (by simp); have b2 : x1.W.cell? ⟨w.heap.size, 2, none⟩ = some (.int .u8 (m.r0.c.toNat : Int)) := (gb.cell (by simp)).trans (by simp); have b3 : x1.W.cell? ⟨w.heap.size, 3, none⟩ = some (.int .u8 (m.r1.a.toNat : Int)) := (gb.cell (by simp)).trans (by simp); have b4 : x1.W.cell? ⟨w.heap.size, 4, none⟩ = some (.int .u8 (m.r1.b.toNat : Int)) := (gb.cell (by simp)).trans (by simp); have b5 : x1.W.cell? ⟨w.heap.size, 5, none⟩ = some (.int .u8 (m.r1.c.toNat : Int)) := (gb.cell (by simp)).trans (by simp); have b6 : x1.W.cell? ⟨w.heap.size, 6, none⟩ = some (.int .u8 (m.r2.a.toNat : Int)) := (gb.cell (by simp)).trans (by simp); have b7 : x1.W.cell? ⟨w.heap.size, 7, none⟩ = some (.int .u8 (m.r2.b.toNat : Int)) := (gb.cell (by simp)).trans (by simp); have b8 : x1.W.cell? ⟨w.heap.size, 8, none⟩ = some (.int .u8 (m.r2.c.toNat : Int)) := (gb.cell (by simp)).trans (by simp); clear gb; have hzx1 : w.heap.size + 2 < x1.W.heap.size := (by have := x1.ok.size; simp at this; omega); have o0 : x1.W.cell? ⟨w.heap.size + 1 + 1, 0, none⟩ = some (.int .u8 0) := x1.keep (by first | (simp; done) | (simp [go_sem]; done) | go_simp); have o1 : x1.W.cell? ⟨w.heap.size + 1 + 1, 1, none⟩ = some (.int .u8 0) := x1.keep (by first | (simp; done) | (simp [go_sem]; done) | go_simp); have o2 : x1.W.cell? ⟨w.heap.size + 1 + 1, 2, none⟩ = some (.int .u8 0) := x1.keep (by first | (simp; done) | (simp [go_sem]; done) | go_simp); have o3 : x1.W.cell? ⟨w.heap.size + 1 + 1, 3, none⟩ = some (.int .u8 0) := x1.keep (by first | (simp; done) | (simp [go_sem]; done) | go_simp); have o4 : x1.W.cell? ⟨w.heap.size + 1 + 1, 4, none⟩ = some (.int .u8 0) := x1.keep (by first | (simp; done) | (simp [go_sem]; done) | go_simp); have o5 : x1.W.cell? ⟨w.heap.size + 1 + 1, 5, none⟩ = some (.int .u8 0) := x1.keep (by first | (simp; done) | (simp [go_sem]; done) | go_simp); have o6 : x1.W.cell? ⟨w.heap.size + 1 + 1, 6, none⟩ = some (.int .u8 0) := x1.keep (by first | (simp; done) | (simp [go_sem]; done) | go_simp); have o7 : x1.W.cell? ⟨w.heap.size + 1 + 1, 7, none⟩ = some (.int .u8 0) := x1.keep (by first | (simp; done) | (simp [go_sem]; done) | go_simp); have o8 : x1.W.cell? ⟨w.heap.size + 1 + 1, 8, none⟩ = some (.int .u8 0) := x1.keep (by first | (simp; done) | (simp [go_sem]; done) | go_simp)))
  rw [rounds_succ]
  go_wp2_with (go_at_call 104; (first | (with_reducible refine call_later2 (toByteA3_v _ _ _ _) ?_) | (with_reducible refine call_later (toByteA3_v _ _ _ _) ?_)); intro x2; have gb : Below (w.alloc (.cells #[.int .u8 (m.r0.a.toNat : Int), .int .u8 (m.r0.b.toNat : Int), .int .u8 (m.r0.c.toNat : Int), .int .u8 (m.r1.a.toNat : Int), .int .u8 (m.r1.b.toNat : Int), .int .u8 (m.r1.c.toNat : Int), .int .u8 (m.r2.a.toNat : Int), .int .u8 (m.r2.b.toNat : Int), .int .u8 (m.r2.c.toNat : Int)] 74)).heap.size (w.alloc (.cells #[.int .u8 (m.r0.a.toNat : Int), .int .u8 (m.r0.b.toNat : Int), .int .u8 (m.r0.c.toNat : Int), .int .u8 (m.r1.a.toNat : Int), .int .u8 (m.r1.b.toNat : Int), .int .u8 (m.r1.c.toNat : Int), .int .u8 (m.r2.a.toNat : Int), .int .u8 (m.r2.b.toNat : Int), .int .u8 (m.r2.c.toNat : Int)] 74)) x2.W := (by repeat (first | (with_reducible assumption) | (with_reducible exact Below.refl _ _) | (with_reducible refine Below.drew ?_) | (with_reducible refine pw_below_drewN ?_ _) | ((first | (with_reducible refine Below.alloc ?_ ?_ _) | (with_reducible refine Below.setCell ?_ ?_ _) | (with_reducible refine below_hop (by assumption) ?_ ?_)); rotate_left; (focus (first | omega | (simp; first | done | omega) | (simp [Later.le, Later.le_add, Later.lt, Later.lt_add]; first | done | omega)))) | ((with_reducible refine bel_later _ ?_ ?_); rotate_left; (focus (first | omega | (simp; first | done | omega) | (simp [Later.le, Later.le_add, Later.lt, Later.lt_add]; first | done | omega)))))); have b0 : x2.W.cell? ⟨w.heap.size, 0, none⟩ = some (.int .u8 (m.r0.a.toNat : Int)) := (gb.cell (by simp)).trans (by simp); have b1 : x2.W.cell? ⟨w.heap.size, 1, none⟩ = some (.int .u8 (m.r0.b.toNat : Int)) := (gb.cell (by simp)).trans (by simp); have b2 : x2.W.cell? ⟨w.heap.size, 2, none⟩ = some (.int .u8 (m.r0.c.toNat : Int)) := (gb.cell (by simp)).trans (by simp); have b3 : x2.W.cell? ⟨w.heap.size, 3, none⟩ = some (.int .u8 (m.r1.a.toNat : Int)) := (gb.cell (by simp)).trans (by simp); have b4 : x2.W.cell? ⟨w.heap.size, 4, none⟩ = some (.int .u8 (m.r1.b.toNat : Int)) := (gb.cell (by simp)).trans (by simp); have b5 : x2.W.cell? ⟨w.heap.size, 5, none⟩ = some (.int .u8 (m.r1.c.toNat : Int)) := (gb.cell (by simp)).trans (by simp); have b6 : x2.W.cell? ⟨w.heap.size, 6, none⟩ = some (.int .u8 (m.r2.a.toNat : Int)) := (gb.cell (by simp)).trans (by simp); have b7 : x2.W.cell? ⟨w.heap.size, 7, none⟩ = some (.int .u8 (m.r2.b.toNat : Int)) := (gb.cell (by simp)).trans (by simp); have b8 : x2.W.cell? ⟨w.heap.size, 8, none⟩ = some (.int .u8 (m.r2.c.toNat : Int)) := (gb.cell (by simp)).trans (by simp); clear gb; have hzx2 : w.heap.size + 2 < x2.W.heap.size := (by have := x2.ok.size; simp at this; omega); have o0 : x2.W.cell? ⟨w.heap.size + 1 + 1, 0, none⟩ = some (.int .u8 (m.r0.a.toNat : Int)) := x2.keep (by first | (simp; done) | (simp [go_sem]; done) | go_simp); have o1 : x2.W.cell? ⟨w.heap.size + 1 + 1, 1, none⟩ = some (.int .u8 (m.r0.b.toNat : Int)) := x2.keep (by first | (simp; done) | (simp [go_sem]; done) | go_simp); have o2 : x2.W.cell? ⟨w.heap.size + 1 + 1, 2, none⟩ = some (.int .u8 (m.r0.c.toNat : Int)) := x2.keep (by first | (simp; done) | (simp [go_sem]; done) | go_simp); have o3 : x2.W.cell? ⟨w.heap.size + 1 + 1, 3, none⟩ = some (.int .u8 0) := x2.keep (by first | (simp; done) | (simp [go_sem]; done) | go_simp); have o4 : x2.W.cell? ⟨w.heap.size + 1 + 1, 4, none⟩ = some (.int .u8 0) := x2.keep (by first | (simp; done) | (simp [go_sem]; done) | go_simp); have o5 : x2.W.cell? ⟨w.heap.size + 1 + 1, 5, none⟩ = some (.int .u8 0) := x2.keep (by first | (simp; done) | (simp [go_sem]; done) | go_simp); have o6 : x2.W.cell? ⟨w.heap.size + 1 + 1, 6, none⟩ = some (.int .u8 0) := x2.keep (by first | (simp; done) | (simp [go_sem]; done) | go_simp); have o7 : x2.W.cell? ⟨w.heap.size + 1 + 1, 7, none⟩ = some (.int .u8 0) := x2.keep (by first | (simp; done) | (simp [go_sem]; done) | go_simp); have o8 : x2.W.cell? ⟨w.heap.size + 1 + 1, 8, none⟩ = some (.int .u8 0) := x2.keep (by first | (simp; done) | (simp [go_sem]; done) | go_simp))
  rw [rounds_succ]
  go_wp2_with (go_at_call 104; (first | (with_reducible refine call_later2 (toByteA3_v _ _ _ _) ?_) | (with_reducible refine call_later (toByteA3_v _ _ _ _) ?_)); intro x3; have gr : Below ((w.alloc (.cells #[.int .u8 (m.r0.a.toNat : Int), .int .u8 (m.r0.b.toNat : Int), .int .u8 (m.r0.c.toNat : Int), .int .u8 (m.r1.a.toNat : Int), .int .u8 (m.r1.b.toNat : Int), .int .u8 (m.r1.c.toNat : Int), .int .u8 (m.r2.a.toNat : Int), .int .u8 (m.r2.b.toNat : Int), .int .u8 (m.r2.c.toNat : Int)] 74)).alloc (.cells #[.int .u8 0, .int .u8 0, .int .u8 0, .int .u8 0, .int .u8 0, .int .u8 0, .int .u8 0, .int .u8 0, .int .u8 0] 76)).heap.size ((w.alloc (.cells #[.int .u8 (m.r0.a.toNat : Int), .int .u8 (m.r0.b.toNat : Int), .int .u8 (m.r0.c.toNat : Int), .int .u8 (m.r1.a.toNat : Int), .int .u8 (m.r1.b.toNat : Int), .int .u8 (m.r1.c.toNat : Int), .int .u8 (m.r2.a.toNat : Int), .int .u8 (m.r2.b.toNat : Int), .int .u8 (m.r2.c.toNat : Int)] 74)).alloc (.cells #[.int .u8 0, .int .u8 0, .int .u8 0, .int .u8 0, .int .u8 0, .int .u8 0, .int .u8 0, .int .u8 0, .int .u8 0] 76)) x3.W := (by repeat (first | (with_reducible assumption) | (with_reducible exact Below.refl _ _) | (with_reducible refine Below.drew ?_) | (with_reducible refine pw_below_drewN ?_ _) | ((first | (with_reducible refine Below.alloc ?_ ?_ _) | (with_reducible refine Below.setCell ?_ ?_ _) | (with_reducible refine below_hop (by assumption) ?_ ?_)); rotate_left; (focus (first | omega | (simp; first | done | omega) | (simp [Later.le, Later.le_add, Later.lt, Later.lt_add]; first | done | omega)))) | ((with_reducible refine bel_later _ ?_ ?_); rotate_left; (focus (first | omega | (simp; first | done | omega) | (simp [Later.le, Later.le_add, Later.lt, Later.lt_add]; first | done | omega)))))); have fr0 : x3.W.frozen? ⟨w.heap.size + 1, 0, none⟩ = false := (gr.frozen (p := ⟨w.heap.size + 1, 0, none⟩) (by simp)).trans (by first | (simp; done) | go_simp); have fr1 : x3.W.frozen? ⟨w.heap.size + 1, 1, none⟩ = false := (gr.frozen (p := ⟨w.heap.size + 1, 1, none⟩) (by simp)).trans (by first | (simp; done) | go_simp); have fr2 : x3.W.frozen? ⟨w.heap.size + 1, 2, none⟩ = false := (gr.frozen (p := ⟨w.heap.size + 1, 2, none⟩) (by simp)).trans (by first | (simp; done) | go_simp); have fr3 : x3.W.frozen? ⟨w.heap.size + 1, 3, none⟩ = false := (gr.frozen (p := ⟨w.heap.size + 1, 3, none⟩) (by simp)).trans (by first | (simp; done) | go_simp); have fr4 : x3.W.frozen? ⟨w.heap.size + 1, 4, none⟩ = false := (gr.frozen (p := ⟨w.heap.size + 1, 4, none⟩) (by simp)).trans (by first | (simp; done) | go_simp); have fr5 : x3.W.frozen? ⟨w.heap.size + 1, 5, none⟩ = false := (gr.frozen (p := ⟨w.heap.size + 1, 5, none⟩) (by simp)).trans (by first | (simp; done) | go_simp); have fr6 : x3.W.frozen? ⟨w.heap.size + 1, 6, none⟩ = false := (gr.frozen (p := ⟨w.heap.size + 1, 6, none⟩) (by simp)).trans (by first | (simp; done) | go_simp); have fr7 : x3.W.frozen? ⟨w.heap.size + 1, 7, none⟩ = false := (gr.frozen (p := ⟨w.heap.size + 1, 7, none⟩) (by simp)).trans (by first | (simp; done) | go_simp); have fr8 : x3.W.frozen? ⟨w.heap.size + 1, 8, none⟩ = false := (gr.frozen (p := ⟨w.heap.size + 1, 8, none⟩) (by simp)).trans (by first | (simp; done) | go_simp); clear gr; have r0 : x3.W.cell? ⟨w.heap.size + 1, 0, none⟩ = some (.int .u8 0) := x3.keep (by first | (simp; done) | (simp [go_sem]; done) | go_simp); have r1 : x3.W.cell? ⟨w.heap.size + 1, 1, none⟩ = some (.int .u8 0) := x3.keep (by first | (simp; done) | (simp [go_sem]; done) | go_simp); have r2 : x3.W.cell? ⟨w.heap.size + 1, 2, none⟩ = some (.int .u8 0) := x3.keep (by first | (simp; done) | (simp [go_sem]; done) | go_simp); have r3 : x3.W.cell? ⟨w.heap.size + 1, 3, none⟩ = some (.int .u8 0) := x3.keep (by first | (simp; done) | (simp [go_sem]; done) | go_simp); have r4 : x3.W.cell? ⟨w.heap.size + 1, 4, none⟩ = some (.int .u8 0) := x3.keep (by first | (simp; done) | (simp [go_sem]; done) | go_simp); have r5 : x3.W.cell? ⟨w.heap.size + 1, 5, none⟩ = some (.int .u8 0) := x3.keep (by first | (simp; done) | (simp [go_sem]; done) | go_simp); have r6 : x3.W.cell? ⟨w.heap.size + 1, 6, none⟩ = some (.int .u8 0) := x3.keep (by first | (simp; done) | (simp [go_sem]; done) | go_simp); have r7 : x3.W.cell? ⟨w.heap.size + 1, 7, none⟩ = some (.int .u8 0) := x3.keep (by first | (simp; done) | (simp [go_sem]; done) | go_simp); have r8 : x3.W.cell? ⟨w.heap.size + 1, 8, none⟩ = some (.int .u8 0) := x3.keep (by first | (simp; done) | (simp [go_sem]; done) | go_simp); have gb : Below (w.alloc (.cells #[.int .u8 (m.r0.a.toNat : Int), .int .u8 (m.r0.b.toNat : Int), .int .u8 (m.r0.c.toNat : Int), .int .u8 (m.r1.a.toNat : Int), .int .u8 (m.r1.b.toNat : Int), .int .u8 (m.r1.c.toNat : Int), .int .u8 (m.r2.a.toNat : Int), .int .u8 (m.r2.b.toNat : Int), .int .u8 (m.r2.c.toNat : Int)] 74)).heap.size (w.alloc (.cells #[.int .u8 (m.r0.a.toNat : Int), .int .u8 (m.r0.b.toNat : Int), .int .u8 (m.r0.c.toNat : Int), .int .u8 (m.r1.a.toNat : Int), .int .u8 (m.r1.b.toNat : Int), .int .u8 (m.r1.c.toNat : Int), .int .u8 (m.r2.a.toNat : Int), .int .u8 (m.r2.b.toNat : Int), .int .u8 (m.r2.c.toNat : Int)] 74)) x3.W := (by repeat (first | (with_reducible assumption) | (with_reducible exact Below.refl _ _) | (with_reducible refine Below.drew ?_) | (with_reducible refine pw_below_drewN ?_ _) | ((first | (with_reducible refine Below.alloc ?_ ?_ _) | (with_reducible refine Below.setCell ?_ ?_ _) | (with_reducible refine below_hop (by assumption) ?_ ?_)); rotate_left; (focus (first | omega | (simp; first | done | omega) | (simp [Later.le, Later.le_add, Later.lt, Later.lt_add]; first | done | omega)))) | ((with_reducible refine bel_later _ ?_ ?_); rotate_left; (focus (first | omega | (simp; first | done | omega) | (simp [Later.le, Later.le_add, Later.lt, Later.lt_add]; first | done | omega)))))); have b0 : x3.W.cell? ⟨w.heap.size, 0, none⟩ = some (.int .u8 (m.r0.a.toNat : Int)) := (gb.cell (by simp)).trans (by simp); have b1 : x3.W.cell? ⟨w.heap.size, 1, none⟩ = some (.int .u8 (m.r0.b.toNat : Int)) := (gb.cell (by simp)).trans (by simp); have b2 : x3.W.cell? ⟨w.heap.size, 2, none⟩ = some (.int .u8 (m.r0.c.toNat : Int)) := (gb.cell (by simp)).trans (by simp); have b3 : x3.W.cell? ⟨w.heap.size, 3, none⟩ = some (.int .u8 (m.r1.a.toNat : Int)) := (gb.cell (by simp)).trans (by simp); have b4 : x3.W.cell? ⟨w.heap.size, 4, none⟩ = some (.int .u8 (m.r1.b.toNat : Int)) := (gb.cell (by simp)).trans (by simp); have b5 : x3.W.cell? ⟨w.heap.size, 5, none⟩ = some (.int .u8 (m.r1.c.toNat : Int)) := (gb.cell (by simp)).trans (by simp); have b6 : x3.W.cell? ⟨w.heap.size, 6, none⟩ = some (.int .u8 (m.r2.a.toNat : Int)) := (gb.cell (by simp)).trans (by simp); have b7 : x3.W.cell? ⟨w.heap.size, 7, none⟩ = some (.int .u8 (m.r2.b.toNat : Int)) := (gb.cell (by simp)).trans (by simp); have b8 : x3.W.cell? ⟨w.heap.size, 8, none⟩ = some (.int .u8 (m.r2.c.toNat : Int)) := (gb.cell (by simp)).trans (by simp); clear gb; have hzx3 : w.heap.size + 2 < x3.W.heap.size := (by have := x3.ok.size; simp at this; omega); have o0 : x3.W.cell? ⟨w.heap.size + 1 + 1, 0, none⟩ = some (.int .u8 (m.r0.a.toNat : Int)) := x3.keep (by first | (simp; done) | (simp [go_sem]; done) | go_simp); have o1 : x3.W.cell? ⟨w.heap.size + 1 + 1, 1, none⟩ = some (.int .u8 (m.r0.b.toNat : Int)) := x3.keep (by first | (simp; done) | (simp [go_sem]; done) | go_simp); have o2 : x3.W.cell? ⟨w.heap.size + 1 + 1, 2, none⟩ = some (.int .u8 (m.r0.c.toNat : Int)) := x3.keep (by first | (simp; done) | (simp [go_sem]; done) | go_simp); have o3 : x3.W.cell? ⟨w.heap.size + 1 + 1, 3, none⟩ = some (.int .u8 (m.r1.a.toNat : Int)) := x3.keep (by first | (simp; done) | (simp [go_sem]; done) | go_simp); have o4 : x3.W.cell? ⟨w.heap.size + 1 + 1, 4, none⟩ = some (.int .u8 (m.r1.b.toNat : Int)) := x3.keep (by first | (simp; done) | (simp [go_sem]; done) | go_simp); have o5 : x3.W.cell? ⟨w.heap.size + 1 + 1, 5, none⟩ = some (.int .u8 (m.r1.c.toNat : Int)) := x3.keep (by first | (simp; done) | (simp [go_sem]; done) | go_simp); have o6 : x3.W.cell? ⟨w.heap.size + 1 + 1, 6, none⟩ = some (.int .u8 0) := x3.keep (by first | (simp; done) | (simp [go_sem]; done) | go_simp); have o7 : x3.W.cell? ⟨w.heap.size + 1 + 1, 7, none⟩ = some (.int .u8 0) := x3.keep (by first | (simp; done) | (simp [go_sem]; done) | go_simp); have o8 : x3.W.cell? ⟨w.heap.size + 1 + 1, 8, none⟩ = some (.int .u8 0) := x3.keep (by first | (simp; done) | (simp [go_sem]; done) | go_simp))
  rw [rounds_succ]
  go_wp2
  exact bodyPost_ret (v := .agg #[.int .u8 (m.r0.a.toNat : Int), .int .u8 (m.r0.b.toNat : Int), .int .u8 (m.r0.c.toNat : Int), .int .u8 (m.r1.a.toNat : Int), .int .u8 (m.r1.b.toNat : Int), .int .u8 (m.r1.c.toNat : Int), .int .u8 (m.r2.a.toNat : Int), .int .u8 (m.r2.b.toNat : Int), .int .u8 (m.r2.c.toNat : Int)]) (by simp [results, Try.results52, go_sem, r0, r1, r2, r3, r4, r5, r6, r7, r8]) rfl (.mk rfl (by repeat (first | (with_reducible assumption) | (with_reducible exact Below.refl _ _) | (with_reducible refine Below.drew ?_) | (with_reducible refine pw_below_drewN ?_ _) | ((first | (with_reducible refine Below.alloc ?_ ?_ _) | (with_reducible refine Below.setCell ?_ ?_ _) | (with_reducible refine below_hop (by assumption) ?_ ?_)); rotate_left; (focus (first | omega | (simp; first | done | omega) | (simp [Later.le, Later.le_add, Later.lt, Later.lt_add]; first | done | omega)))) | ((with_reducible refine bel_later _ ?_ ?_); rotate_left; (focus (first | omega | (simp; first | done | omega) | (simp [Later.le, Later.le_add, Later.lt, Later.lt_add]; first | done | omega)))))))
end Go.Proofs.Ytgidpgfkbgbhmaa
/- The walk of the program's determinant; no condition. -/
set_option linter.unusedVariables false
set_option linter.unusedSimpArgs false
namespace Go.Proofs.Ytgidpgfkbgbhmaa
open Go.RowKit Go.Proofs.YtgidpgfkbgbhmaaW.PrintWords
attribute [local go_sem] Later.cell Later.frozen Later.lt Later.lt_add Later.le Later.le_add Later.ne Later.ne' add_at
/-- Numbers modulo p in the nine places. -/
def M9.le (m : M9) (p : Int) : Prop := ((m.r0.a.toNat : Int) < p ∧ (m.r0.b.toNat : Int) < p ∧ (m.r0.c.toNat : Int) < p) ∧ ((m.r1.a.toNat : Int) < p ∧ (m.r1.b.toNat : Int) < p ∧ (m.r1.c.toNat : Int) < p) ∧ ((m.r2.a.toNat : Int) < p ∧ (m.r2.b.toNat : Int) < p ∧ (m.r2.c.toNat : Int) < p)
def detI (n : Int) (m : M9) : Int :=
  if n = 2 then (m.r0.a.toNat : Int) * m.r1.b.toNat - (m.r0.b.toNat : Int) * m.r1.a.toNat
  else if n = 3 then (m.r0.a.toNat : Int) * ((m.r1.b.toNat : Int) * m.r2.c.toNat - (m.r1.c.toNat : Int) * m.r2.b.toNat) - (m.r0.b.toNat : Int) * ((m.r1.a.toNat : Int) * m.r2.c.toNat - (m.r1.c.toNat : Int) * m.r2.a.toNat) + (m.r0.c.toNat : Int) * ((m.r1.a.toNat : Int) * m.r2.b.toNat - (m.r1.b.toNat : Int) * m.r2.a.toNat)
  else (m.r0.a.toNat : Int)
theorem mul_bd3 {x y : Int} (hx : 0 ≤ x) (hx' : x ≤ 12) (hy : 0 ≤ y) (hy' : y ≤ 12) : 0 ≤ x * y ∧ x * y ≤ 144 := by
  refine ⟨Int.mul_nonneg hx hy, ?_⟩
  have h1 := Int.mul_le_mul (a := x) (b := y) (c := 12) (d := 12) (by omega) (by omega) hy (by omega)
  omega
theorem mul_bd4 {x y : Int} (hx : 0 ≤ x) (hx' : x ≤ 12) (hy : -144 ≤ y) (hy' : y ≤ 144) : -1728 ≤ x * y ∧ x * y ≤ 1728 := by
  have h1 := Int.mul_le_mul (a := x) (b := y + 144) (c := 12) (d := 288) (by omega) (by omega) (by omega) (by omega)
  have h2 := Int.mul_nonneg hx (show 0 ≤ y + 144 by omega)
  have h3 := Int.mul_le_mul (a := x) (b := 144 - y) (c := 12) (d := 288) (by omega) (by omega) (by omega) (by omega)
  have h4 := Int.mul_nonneg hx (show 0 ≤ 144 - y by omega)
  rw [Int.mul_add] at h1 h2
  rw [Int.mul_sub] at h3 h4
  omega
theorem tmod_fix {x p : Int} (hp : 2 ≤ p) (hp' : p ≤ 13) : (wrap64 (x.tmod p + p)).tmod p = x % p := by
  have h1 : x.tmod p < p := Int.tmod_lt_of_pos _ (by omega)
  have h2 : -p < x.tmod p := by
    have := Int.tmod_lt_of_pos (-x) (show 0 < p by omega)
    rw [Int.neg_tmod] at this
    omega
  have h3 : wrap64 (x.tmod p + p) = x.tmod p + p := by unfold wrap64; omega
  rw [h3, Int.tmod_eq_emod_of_nonneg (by omega), Int.add_emod_right, Int.tmod_def, Int.sub_mul_emod_self_left]
theorem mod_fix {x p : Int} (hx : 0 ≤ x) (hp : 2 ≤ p) (hp' : p ≤ 13) : (wrap64 (x % p + p)).tmod p = x % p := by
  have h := tmod_fix (x := x) hp hp'
  rwa [Int.tmod_eq_emod_of_nonneg hx] at h
set_option maxRecDepth 100000 in
set_option maxHeartbeats 2000000 in
theorem determinant_c (p n : Int) (m : M9) (w : World) (hp : 2 ≤ p) (hp' : p ≤ 13) (hn1 : 1 ≤ n) (hn3 : n ≤ 3) (hm : m.le p) :
    Calls Try.prog 151 #[.int .i64 p, .int .i64 n, .agg #[.int .u8 (m.r0.a.toNat : Int), .int .u8 (m.r0.b.toNat : Int), .int .u8 (m.r0.c.toNat : Int), .int .u8 (m.r1.a.toNat : Int), .int .u8 (m.r1.b.toNat : Int), .int .u8 (m.r1.c.toNat : Int), .int .u8 (m.r2.a.toNat : Int), .int .u8 (m.r2.b.toNat : Int), .int .u8 (m.r2.c.toNat : Int)]] w (Gives (.int .i64 (detI n m % p)) w) := by
  obtain ⟨⟨ha, hb, hc⟩, ⟨hd, he, hf⟩, hg, hh, hi⟩ := hm
  have hn : n = 1 ∨ n = 2 ∨ n = 3 := by omega
  unfold detI
  have a0 : 0 ≤ (m.r0.a.toNat : Int) := by omega
  generalize (m.r0.a.toNat : Int) = a at *
  have b0 : 0 ≤ (m.r0.b.toNat : Int) := by omega
  generalize (m.r0.b.toNat : Int) = b at *
  have c0 : 0 ≤ (m.r0.c.toNat : Int) := by omega
  generalize (m.r0.c.toNat : Int) = c at *
  have d0 : 0 ≤ (m.r1.a.toNat : Int) := by omega
  generalize (m.r1.a.toNat : Int) = d at *
  have e0 : 0 ≤ (m.r1.b.toNat : Int) := by omega
  generalize (m.r1.b.toNat : Int) = e at *
  have f0 : 0 ≤ (m.r1.c.toNat : Int) := by omega
  generalize (m.r1.c.toNat : Int) = f at *
  have g0 : 0 ≤ (m.r2.a.toNat : Int) := by omega
  generalize (m.r2.a.toNat : Int) = g at *
  have h0 : 0 ≤ (m.r2.b.toNat : Int) := by omega
  generalize (m.r2.b.toNat : Int) = h at *
  have i0 : 0 ≤ (m.r2.c.toNat : Int) := by omega
  generalize (m.r2.c.toNat : Int) = i at *
  have hpz : p ≠ 0 := by omega
  rcases hn with rfl | rfl | rfl
  · go_enter Try.func151, Try.ntmps151
    go_wp2
    go_ret
    refine .mk ?_ (by repeat (first | (with_reducible assumption) | (with_reducible exact Below.refl _ _) | (with_reducible refine Below.drew ?_) | (with_reducible refine pw_below_drewN ?_ _) | ((first | (with_reducible refine Below.alloc ?_ ?_ _) | (with_reducible refine Below.setCell ?_ ?_ _) | (with_reducible refine below_hop (by assumption) ?_ ?_)); rotate_left; (focus (first | omega | (simp; first | done | omega) | (simp [Later.le, Later.le_add, Later.lt, Later.lt_add]; first | done | omega)))) | ((with_reducible refine bel_later _ ?_ ?_); rotate_left; (focus (first | omega | (simp; first | done | omega) | (simp [Later.le, Later.le_add, Later.lt, Later.lt_add]; first | done | omega))))))
    exact congrArg (Value.int .i64) (mod_fix a0 hp hp')
  · have m1 := mul_bd3 (x := a) (y := e) a0 (by omega) e0 (by omega)
    have m2 := mul_bd3 (x := b) (y := d) b0 (by omega) d0 (by omega)
    go_enter Try.func151, Try.ntmps151
    go_wp2
    go_ret
    refine .mk ?_ (by repeat (first | (with_reducible assumption) | (with_reducible exact Below.refl _ _) | (with_reducible refine Below.drew ?_) | (with_reducible refine pw_below_drewN ?_ _) | ((first | (with_reducible refine Below.alloc ?_ ?_ _) | (with_reducible refine Below.setCell ?_ ?_ _) | (with_reducible refine below_hop (by assumption) ?_ ?_)); rotate_left; (focus (first | omega | (simp; first | done | omega) | (simp [Later.le, Later.le_add, Later.lt, Later.lt_add]; first | done | omega)))) | ((with_reducible refine bel_later _ ?_ ?_); rotate_left; (focus (first | omega | (simp; first | done | omega) | (simp [Later.le, Later.le_add, Later.lt, Later.lt_add]; first | done | omega))))))
    exact congrArg (Value.int .i64) (tmod_fix hp hp')
  · have m1 := mul_bd3 (x := e) (y := i) e0 (by omega) i0 (by omega)
    have m2 := mul_bd3 (x := f) (y := h) f0 (by omega) h0 (by omega)
    have m3 := mul_bd3 (x := d) (y := i) d0 (by omega) i0 (by omega)
    have m4 := mul_bd3 (x := f) (y := g) f0 (by omega) g0 (by omega)
    have m5 := mul_bd3 (x := d) (y := h) d0 (by omega) h0 (by omega)
    have m6 := mul_bd3 (x := e) (y := g) e0 (by omega) g0 (by omega)
    have m7 := mul_bd4 (x := a) (y := e * i - f * h) a0 (by omega) (by omega) (by omega)
    have m8 := mul_bd4 (x := b) (y := d * i - f * g) b0 (by omega) (by omega) (by omega)
    have m9 := mul_bd4 (x := c) (y := d * h - e * g) c0 (by omega) (by omega) (by omega)
    go_enter Try.func151, Try.ntmps151
    go_wp2
    go_ret
    refine .mk ?_ (by repeat (first | (with_reducible assumption) | (with_reducible exact Below.refl _ _) | (with_reducible refine Below.drew ?_) | (with_reducible refine pw_below_drewN ?_ _) | ((first | (with_reducible refine Below.alloc ?_ ?_ _) | (with_reducible refine Below.setCell ?_ ?_ _) | (with_reducible refine below_hop (by assumption) ?_ ?_)); rotate_left; (focus (first | omega | (simp; first | done | omega) | (simp [Later.le, Later.le_add, Later.lt, Later.lt_add]; first | done | omega)))) | ((with_reducible refine bel_later _ ?_ ?_); rotate_left; (focus (first | omega | (simp; first | done | omega) | (simp [Later.le, Later.le_add, Later.lt, Later.lt_add]; first | done | omega))))))
    exact congrArg (Value.int .i64) (tmod_fix hp hp')
end Go.Proofs.Ytgidpgfkbgbhmaa
/- The walks of the unit matrices; no condition. -/
set_option linter.unusedVariables false
set_option linter.unusedSimpArgs false
namespace Go.Proofs.Ytgidpgfkbgbhmaa
open Go.RowKit Go.Proofs.YtgidpgfkbgbhmaaW.PrintWords
attribute [local go_sem] Later.cell Later.frozen Later.lt Later.lt_add Later.le Later.le_add Later.ne Later.ne' add_at
end Go.Proofs.Ytgidpgfkbgbhmaa
/- The walks of the products of matrices; no condition. -/
set_option linter.unusedVariables false
set_option linter.unusedSimpArgs false
namespace Go.Proofs.Ytgidpgfkbgbhmaa
open Go.RowKit Go.Proofs.YtgidpgfkbgbhmaaW.PrintWords
attribute [local go_sem] Later.cell Later.frozen Later.lt Later.lt_add Later.le Later.le_add Later.ne Later.ne' add_at
def M9.row (m : M9) (i : Nat) : E3 := if i = 0 then m.r0 else if i = 1 then m.r1 else m.r2
def M9.at (m : M9) (i j : Nat) : UInt8 := (m.row i).at j
def mkM (f : Nat → Nat → UInt8) : M9 := ⟨⟨f 0 0, f 0 1, f 0 2⟩, ⟨f 1 0, f 1 1, f 1 2⟩, ⟨f 2 0, f 2 1, f 2 2⟩⟩
theorem at_le {m : M9} {p : Int} (h : m.le p) (i j : Nat) : ((m.at i j).toNat : Int) < p := by
  obtain ⟨⟨h1, h2, h3⟩, ⟨h4, h5, h6⟩, h7, h8, h9⟩ := h
  unfold M9.at M9.row E3.at
  by_cases i0 : i = 0 <;> by_cases i1 : i = 1 <;> by_cases j0 : j = 0 <;> by_cases j1 : j = 1 <;> simp [*]
theorem box_at (w : World) (m : M9) (t : TypeId) (i j : Nat) (hi : i < 3) (hj : j < 3) : (w.alloc (.cells #[.int .u8 (m.r0.a.toNat : Int), .int .u8 (m.r0.b.toNat : Int), .int .u8 (m.r0.c.toNat : Int), .int .u8 (m.r1.a.toNat : Int), .int .u8 (m.r1.b.toNat : Int), .int .u8 (m.r1.c.toNat : Int), .int .u8 (m.r2.a.toNat : Int), .int .u8 (m.r2.b.toNat : Int), .int .u8 (m.r2.c.toNat : Int)] t)).cell? ⟨w.heap.size, i * 3 + j, none⟩ = some (.int .u8 ((m.at i j).toNat : Int)) := by
  rcases lt3 hi with rfl | rfl | rfl <;> rcases lt3 hj with rfl | rfl | rfl <;> simp [M9.at, M9.row, E3.at]
end Go.Proofs.Ytgidpgfkbgbhmaa
/- The walk of the reference's product of matrices; no condition. -/
set_option linter.unusedVariables false
set_option linter.unusedSimpArgs false
namespace Go.Proofs.Ytgidpgfkbgbhmaa
open Go.RowKit Go.Proofs.YtgidpgfkbgbhmaaW.PrintWords
attribute [local go_sem] Later.cell Later.frozen Later.lt Later.lt_add Later.le Later.le_add Later.ne Later.ne' add_at
theorem z_at (W : World) (t : TypeId) (i j : Nat) (hi : i < 3) (hj : j < 3) : (W.alloc (.cells #[.int .u8 0, .int .u8 0, .int .u8 0, .int .u8 0, .int .u8 0, .int .u8 0, .int .u8 0, .int .u8 0, .int .u8 0] t)).cell? ⟨W.heap.size, i * 3 + j, none⟩ = some (.int .u8 0) := by
  rcases lt3 hi with rfl | rfl | rfl <;> rcases lt3 hj with rfl | rfl | rfl <;> simp
theorem z_fr (W : World) (O : Obj) (k : Nat) (cs : Array Value) (t : TypeId) (h : O = .cells cs t) : (W.alloc O).frozen? ⟨W.heap.size, k, none⟩ = false := by
  subst h
  simp
end Go.Proofs.Ytgidpgfkbgbhmaa
/- The walk of the program's product of matrices; no condition. -/
set_option linter.unusedVariables false
set_option linter.unusedSimpArgs false
namespace Go.Proofs.Ytgidpgfkbgbhmaa
open Go.RowKit Go.Proofs.YtgidpgfkbgbhmaaW.PrintWords
attribute [local go_sem] Later.cell Later.frozen Later.lt Later.lt_add Later.le Later.le_add Later.ne Later.ne' add_at
end Go.Proofs.Ytgidpgfkbgbhmaa
/- Equality of matrices; no condition. -/
set_option linter.unusedVariables false
set_option linter.unusedSimpArgs false
namespace Go.Proofs.Ytgidpgfkbgbhmaa
open Go.RowKit Go.Proofs.YtgidpgfkbgbhmaaW.PrintWords
attribute [local go_sem] Later.cell Later.frozen Later.lt Later.lt_add Later.le Later.le_add Later.ne Later.ne' add_at
theorem guardM : Try.prog.eqGuardType Try.prog.depth 76 = false := by kernel_rfl
theorem eqRow (a b : E3) (w : World) : (Op.equalIn 9999 73 (.agg #[.int .u8 (a.a.toNat : Int), .int .u8 (a.b.toNat : Int), .int .u8 (a.c.toNat : Int)]) (.agg #[.int .u8 (b.a.toNat : Int), .int .u8 (b.b.toNat : Int), .int .u8 (b.c.toNat : Int)])).run Try.prog w = .ok (a == b) w := by
  have h := run_equalIn_bytes (P := Try.prog) w 9997 73 5 3 Try.underlying73 Try.underlying5 Try.sizeOf5 [a.a, a.b, a.c] [b.a, b.b, b.c] rfl rfl
  have e0 : ([a.a, a.b, a.c] == [b.a, b.b, b.c]) = (a == b) := by
    obtain ⟨a, a1, a2⟩ := a
    obtain ⟨b, b1, b2⟩ := b
    rw [Bool.eq_iff_iff]
    simp
  rw [e0] at h
  exact h
theorem rowsOf (cs : Array Value) (n : Nat) (w : World) : (part 73 cs n).run Try.prog w = .ok (.agg (cs.extract n (n + 3))) w := by
  simp [part, isAgg, run_underlying Try.underlying73, Try.sizeOf73]
theorem eqMat (a b : M9) (w : World) : (Op.equalIn 10000 76 (.agg #[.int .u8 (a.r0.a.toNat : Int), .int .u8 (a.r0.b.toNat : Int), .int .u8 (a.r0.c.toNat : Int), .int .u8 (a.r1.a.toNat : Int), .int .u8 (a.r1.b.toNat : Int), .int .u8 (a.r1.c.toNat : Int), .int .u8 (a.r2.a.toNat : Int), .int .u8 (a.r2.b.toNat : Int), .int .u8 (a.r2.c.toNat : Int)]) (.agg #[.int .u8 (b.r0.a.toNat : Int), .int .u8 (b.r0.b.toNat : Int), .int .u8 (b.r0.c.toNat : Int), .int .u8 (b.r1.a.toNat : Int), .int .u8 (b.r1.b.toNat : Int), .int .u8 (b.r1.c.toNat : Int), .int .u8 (b.r2.a.toNat : Int), .int .u8 (b.r2.b.toNat : Int), .int .u8 (b.r2.c.toNat : Int)])).run Try.prog w = .ok (a == b) w := by
  have e0 : (a == b) = (a.r0 == b.r0 && (a.r1 == b.r1 && a.r2 == b.r2)) := by
    obtain ⟨a, a1, a2⟩ := a
    obtain ⟨b, b1, b2⟩ := b
    rw [Bool.eq_iff_iff]
    simp
  have h0 := eqRow a.r0 b.r0 w
  have h1 := eqRow a.r1 b.r1 w
  have h2 := eqRow a.r2 b.r2 w
  rw [e0, Op.equalIn]
  simp only [Sem.run_bind, run_underlying Try.underlying76, Result.andThen_ok, Try.sizeOf73, Std.Legacy.Range.forIn_eq_forIn_range', Std.Legacy.Range.size, Nat.sub_zero, Nat.add_sub_cancel, Nat.div_one]
  rw [show List.range' 0 3 = [0, 1, 2] by rfl]
  simp only [List.forIn_cons, List.forIn_nil, Sem.run_bind, rowsOf, Result.andThen_ok]
  have h0' : (Op.equalIn 9999 73 (.agg ((#[Value.int .u8 (a.r0.a.toNat : Int), .int .u8 (a.r0.b.toNat : Int), .int .u8 (a.r0.c.toNat : Int), .int .u8 (a.r1.a.toNat : Int), .int .u8 (a.r1.b.toNat : Int), .int .u8 (a.r1.c.toNat : Int), .int .u8 (a.r2.a.toNat : Int), .int .u8 (a.r2.b.toNat : Int), .int .u8 (a.r2.c.toNat : Int)] : Array Value).extract (0 * 3) (0 * 3 + 3))) (.agg ((#[Value.int .u8 (b.r0.a.toNat : Int), .int .u8 (b.r0.b.toNat : Int), .int .u8 (b.r0.c.toNat : Int), .int .u8 (b.r1.a.toNat : Int), .int .u8 (b.r1.b.toNat : Int), .int .u8 (b.r1.c.toNat : Int), .int .u8 (b.r2.a.toNat : Int), .int .u8 (b.r2.b.toNat : Int), .int .u8 (b.r2.c.toNat : Int)] : Array Value).extract (0 * 3) (0 * 3 + 3)))).run Try.prog w = .ok (a.r0 == b.r0) w := h0
  have h1' : (Op.equalIn 9999 73 (.agg ((#[Value.int .u8 (a.r0.a.toNat : Int), .int .u8 (a.r0.b.toNat : Int), .int .u8 (a.r0.c.toNat : Int), .int .u8 (a.r1.a.toNat : Int), .int .u8 (a.r1.b.toNat : Int), .int .u8 (a.r1.c.toNat : Int), .int .u8 (a.r2.a.toNat : Int), .int .u8 (a.r2.b.toNat : Int), .int .u8 (a.r2.c.toNat : Int)] : Array Value).extract (1 * 3) (1 * 3 + 3))) (.agg ((#[Value.int .u8 (b.r0.a.toNat : Int), .int .u8 (b.r0.b.toNat : Int), .int .u8 (b.r0.c.toNat : Int), .int .u8 (b.r1.a.toNat : Int), .int .u8 (b.r1.b.toNat : Int), .int .u8 (b.r1.c.toNat : Int), .int .u8 (b.r2.a.toNat : Int), .int .u8 (b.r2.b.toNat : Int), .int .u8 (b.r2.c.toNat : Int)] : Array Value).extract (1 * 3) (1 * 3 + 3)))).run Try.prog w = .ok (a.r1 == b.r1) w := h1
  have h2' : (Op.equalIn 9999 73 (.agg ((#[Value.int .u8 (a.r0.a.toNat : Int), .int .u8 (a.r0.b.toNat : Int), .int .u8 (a.r0.c.toNat : Int), .int .u8 (a.r1.a.toNat : Int), .int .u8 (a.r1.b.toNat : Int), .int .u8 (a.r1.c.toNat : Int), .int .u8 (a.r2.a.toNat : Int), .int .u8 (a.r2.b.toNat : Int), .int .u8 (a.r2.c.toNat : Int)] : Array Value).extract (2 * 3) (2 * 3 + 3))) (.agg ((#[Value.int .u8 (b.r0.a.toNat : Int), .int .u8 (b.r0.b.toNat : Int), .int .u8 (b.r0.c.toNat : Int), .int .u8 (b.r1.a.toNat : Int), .int .u8 (b.r1.b.toNat : Int), .int .u8 (b.r1.c.toNat : Int), .int .u8 (b.r2.a.toNat : Int), .int .u8 (b.r2.b.toNat : Int), .int .u8 (b.r2.c.toNat : Int)] : Array Value).extract (2 * 3) (2 * 3 + 3)))).run Try.prog w = .ok (a.r2 == b.r2) w := h2
  simp only [h0', h1', h2', Result.andThen_ok]
  cases hb0 : (a.r0 == b.r0)
  · simp
  · cases hb1 : (a.r1 == b.r1)
    · simp [rowsOf, h1, h2, hb1]
    · cases hb2 : (a.r2 == b.r2)
      · simp [rowsOf, h1, h2, hb1, hb2]
      · simp [rowsOf, h1, h2, hb1, hb2]
theorem run_eqM (a b : M9) (w : World) : (binOp .eql 76 (.agg #[.int .u8 (a.r0.a.toNat : Int), .int .u8 (a.r0.b.toNat : Int), .int .u8 (a.r0.c.toNat : Int), .int .u8 (a.r1.a.toNat : Int), .int .u8 (a.r1.b.toNat : Int), .int .u8 (a.r1.c.toNat : Int), .int .u8 (a.r2.a.toNat : Int), .int .u8 (a.r2.b.toNat : Int), .int .u8 (a.r2.c.toNat : Int)]) (.agg #[.int .u8 (b.r0.a.toNat : Int), .int .u8 (b.r0.b.toNat : Int), .int .u8 (b.r0.c.toNat : Int), .int .u8 (b.r1.a.toNat : Int), .int .u8 (b.r1.b.toNat : Int), .int .u8 (b.r1.c.toNat : Int), .int .u8 (b.r2.a.toNat : Int), .int .u8 (b.r2.b.toNat : Int), .int .u8 (b.r2.c.toNat : Int)])).run Try.prog w = .ok (.bool (a == b)) w := by
  rw [run_eql_struct, eqMat]
  rfl
end Go.Proofs.Ytgidpgfkbgbhmaa
