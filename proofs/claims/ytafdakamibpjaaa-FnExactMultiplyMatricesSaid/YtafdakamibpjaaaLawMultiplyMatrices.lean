/- The walk of the law FnExactMultiplyMatrices; no condition. -/
import Derived.Test.YtafdakamibpjaaaMulM
import Derived.Deep.CutRange
set_option linter.unusedVariables false
set_option linter.unusedSimpArgs false
namespace Go.Proofs.Ytafdakamibpjaaa
open Go.RowKit Go.Proofs.YtafdakamibpjaaaW.PrintWords
attribute [local go_sem] Later.cell Later.frozen Later.lt Later.lt_add Later.le Later.le_add Later.ne Later.ne' add_at

theorem later_drew (w : World) (x : Later w.drew) (a : Addr) (h : a.block < w.heap.size) : x.W.cell? a = w.cell? a := x.ok.cell h
theorem later_drewf (w : World) (x : Later w.drew) (a : Addr) (h : a.block < w.heap.size) : x.W.frozen? a = w.frozen? a := x.ok.frozen h
attribute [local go_sem] later_drew later_drewf
set_option maxRecDepth 100000 in
set_option maxHeartbeats 8000000 in
theorem lawMultiplyMatrices_c (p n : Int) (g h : M9) (w : World) (hp : -9223372036854775808 ≤ p ∧ p ≤ 9223372036854775807) (hn : -9223372036854775808 ≤ n ∧ n ≤ 9223372036854775807) : Calls Try.prog 5 #[.int .i64 p, .int .i64 n, .agg #[.int .u8 (g.r0.a.toNat : Int), .int .u8 (g.r0.b.toNat : Int), .int .u8 (g.r0.c.toNat : Int), .int .u8 (g.r1.a.toNat : Int), .int .u8 (g.r1.b.toNat : Int), .int .u8 (g.r1.c.toNat : Int), .int .u8 (g.r2.a.toNat : Int), .int .u8 (g.r2.b.toNat : Int), .int .u8 (g.r2.c.toNat : Int)], .agg #[.int .u8 (h.r0.a.toNat : Int), .int .u8 (h.r0.b.toNat : Int), .int .u8 (h.r0.c.toNat : Int), .int .u8 (h.r1.a.toNat : Int), .int .u8 (h.r1.b.toNat : Int), .int .u8 (h.r1.c.toNat : Int), .int .u8 (h.r2.a.toNat : Int), .int .u8 (h.r2.b.toNat : Int), .int .u8 (h.r2.c.toNat : Int)]] w (Gives (.bool true) w) := by
  have hS := fun W => specMultiply_c p n g h W
  have hI := fun W => implMultiply_c p n g h W
  generalize (mulR p n g h).1 = r1 at *
  generalize (mulR p n g h).2 = r2 at *
  have hE := fun W => eqMatrix_same r1 W
  have hTg := fun W => toMatrix_c g W
  have hTh := fun W => toMatrix_c h W
  clear hp hn
  generalize (g.r0.a.toNat : Int) = g0 at *
  generalize (g.r0.b.toNat : Int) = g1 at *
  generalize (g.r0.c.toNat : Int) = g2 at *
  generalize (g.r1.a.toNat : Int) = g3 at *
  generalize (g.r1.b.toNat : Int) = g4 at *
  generalize (g.r1.c.toNat : Int) = g5 at *
  generalize (g.r2.a.toNat : Int) = g6 at *
  generalize (g.r2.b.toNat : Int) = g7 at *
  generalize (g.r2.c.toNat : Int) = g8 at *
  generalize (h.r0.a.toNat : Int) = h0 at *
  generalize (h.r0.b.toNat : Int) = h1 at *
  generalize (h.r0.c.toNat : Int) = h2 at *
  generalize (h.r1.a.toNat : Int) = h3 at *
  generalize (h.r1.b.toNat : Int) = h4 at *
  generalize (h.r1.c.toNat : Int) = h5 at *
  generalize (h.r2.a.toNat : Int) = h6 at *
  generalize (h.r2.b.toNat : Int) = h7 at *
  generalize (h.r2.c.toNat : Int) = h8 at *
  generalize (r1.r0.a.toNat : Int) = z0 at *
  generalize (r1.r0.b.toNat : Int) = z1 at *
  generalize (r1.r0.c.toNat : Int) = z2 at *
  generalize (r1.r1.a.toNat : Int) = z3 at *
  generalize (r1.r1.b.toNat : Int) = z4 at *
  generalize (r1.r1.c.toNat : Int) = z5 at *
  generalize (r1.r2.a.toNat : Int) = z6 at *
  generalize (r1.r2.b.toNat : Int) = z7 at *
  generalize (r1.r2.c.toNat : Int) = z8 at *
  go_enter Try.func5, Try.ntmps5
  go_upto_region 1 with fail
  go_cut [9, 10] from 14 to 22 (fun v9 v10 wx => ∃ (b : Nat), v9 = .pointer (some ⟨b, 0, none⟩) ∧ v10 = .int .i64 r2 ∧ Below (((w.alloc (.cells #[.int .u8 g0, .int .u8 g1, .int .u8 g2, .int .u8 g3, .int .u8 g4, .int .u8 g5, .int .u8 g6, .int .u8 g7, .int .u8 g8] 23)).alloc (.cells #[.int .u8 h0, .int .u8 h1, .int .u8 h2, .int .u8 h3, .int .u8 h4, .int .u8 h5, .int .u8 h6, .int .u8 h7, .int .u8 h8] 23))).heap.size (((w.alloc (.cells #[.int .u8 g0, .int .u8 g1, .int .u8 g2, .int .u8 g3, .int .u8 g4, .int .u8 g5, .int .u8 g6, .int .u8 g7, .int .u8 g8] 23)).alloc (.cells #[.int .u8 h0, .int .u8 h1, .int .u8 h2, .int .u8 h3, .int .u8 h4, .int .u8 h5, .int .u8 h6, .int .u8 h7, .int .u8 h8] 23))) wx ∧ w.heap.size + 2 ≤ b ∧ wx.cell? ⟨b, 0, none⟩ = some (.int .u8 z0) ∧ wx.cell? ⟨b, 1, none⟩ = some (.int .u8 z1) ∧ wx.cell? ⟨b, 2, none⟩ = some (.int .u8 z2) ∧ wx.cell? ⟨b, 3, none⟩ = some (.int .u8 z3) ∧ wx.cell? ⟨b, 4, none⟩ = some (.int .u8 z4) ∧ wx.cell? ⟨b, 5, none⟩ = some (.int .u8 z5) ∧ wx.cell? ⟨b, 6, none⟩ = some (.int .u8 z6) ∧ wx.cell? ⟨b, 7, none⟩ = some (.int .u8 z7) ∧ wx.cell? ⟨b, 8, none⟩ = some (.int .u8 z8))
  case first =>
    go_region_with (first | (go_at_call_of 18 (g0); (first | (with_reducible refine call_later2 (hTg _) ?_) | (with_reducible refine call_later (hTg _) ?_)); intro x1) | (go_at_call_of 18 (h0); (first | (with_reducible refine call_later2 (hTh _) ?_) | (with_reducible refine call_later (hTh _) ?_)); intro x2) | (go_at_call 22; (first | (with_reducible refine call_later2 (hS _) ?_) | (with_reducible refine call_later (hS _) ?_)); intro x3))
    all_goals (go_wp2_with fail; go_meet)
    all_goals
      have q1 := x1.ok.size
      have q2 := x2.ok.size
      have q3 := x3.ok.size
      simp at q1 q2 q3
      refine ⟨_, rfl, rfl, ?_, ?_, ?_, ?_, ?_, ?_, ?_, ?_, ?_, ?_, ?_⟩
      · exact (by repeat (first | (with_reducible assumption) | (with_reducible exact Below.refl _ _) | ((with_reducible refine Below.alloc ?_ ?_ _); rotate_left; (focus (first | omega | (simp; done) | (simp; omega) | (simp [Later.le, Later.le_add, Later.lt, Later.lt_add]; done) | (simp [Later.le, Later.le_add, Later.lt, Later.lt_add]; omega)))) | (with_reducible refine Below.drew ?_) | (with_reducible refine pw_below_drewN ?_ _) | ((with_reducible refine Below.setCell ?_ ?_ _); rotate_left; (focus (first | omega | (simp; done) | (simp; omega) | (simp [Later.le, Later.le_add, Later.lt, Later.lt_add]; done) | (simp [Later.le, Later.le_add, Later.lt, Later.lt_add]; omega)))) | ((with_reducible refine below_hop (by assumption) ?_ ?_); rotate_left; (focus (first | omega | (simp; done) | (simp; omega) | (simp [Later.le, Later.le_add, Later.lt, Later.lt_add]; done) | (simp [Later.le, Later.le_add, Later.lt, Later.lt_add]; omega)))) | ((with_reducible refine bel_later _ ?_ ?_); rotate_left; (focus (first | omega | (simp; done) | (simp; omega) | (simp [Later.le, Later.le_add, Later.lt, Later.lt_add]; done) | (simp [Later.le, Later.le_add, Later.lt, Later.lt_add]; omega))))))
      · first | omega | (simp; done) | (simp; omega)
      all_goals simp [go_sem]
  case rest =>
    obtain ⟨b, rfl, rfl, hbe, hb, k0, k1, k2, k3, k4, k5, k6, k7, k8⟩ := hcut
    have a0 : wc.cell? ⟨w.heap.size, 0, none⟩ = some (.int .u8 g0) := (hbe.cell (by first | (simp; done) | (simp; omega))).trans (by simp [go_sem])
    have c0 : wc.cell? ⟨w.heap.size + 1, 0, none⟩ = some (.int .u8 h0) := (hbe.cell (by first | (simp; done) | (simp; omega))).trans (by simp [go_sem])
    have a1 : wc.cell? ⟨w.heap.size, 1, none⟩ = some (.int .u8 g1) := (hbe.cell (by first | (simp; done) | (simp; omega))).trans (by simp [go_sem])
    have c1 : wc.cell? ⟨w.heap.size + 1, 1, none⟩ = some (.int .u8 h1) := (hbe.cell (by first | (simp; done) | (simp; omega))).trans (by simp [go_sem])
    have a2 : wc.cell? ⟨w.heap.size, 2, none⟩ = some (.int .u8 g2) := (hbe.cell (by first | (simp; done) | (simp; omega))).trans (by simp [go_sem])
    have c2 : wc.cell? ⟨w.heap.size + 1, 2, none⟩ = some (.int .u8 h2) := (hbe.cell (by first | (simp; done) | (simp; omega))).trans (by simp [go_sem])
    have a3 : wc.cell? ⟨w.heap.size, 3, none⟩ = some (.int .u8 g3) := (hbe.cell (by first | (simp; done) | (simp; omega))).trans (by simp [go_sem])
    have c3 : wc.cell? ⟨w.heap.size + 1, 3, none⟩ = some (.int .u8 h3) := (hbe.cell (by first | (simp; done) | (simp; omega))).trans (by simp [go_sem])
    have a4 : wc.cell? ⟨w.heap.size, 4, none⟩ = some (.int .u8 g4) := (hbe.cell (by first | (simp; done) | (simp; omega))).trans (by simp [go_sem])
    have c4 : wc.cell? ⟨w.heap.size + 1, 4, none⟩ = some (.int .u8 h4) := (hbe.cell (by first | (simp; done) | (simp; omega))).trans (by simp [go_sem])
    have a5 : wc.cell? ⟨w.heap.size, 5, none⟩ = some (.int .u8 g5) := (hbe.cell (by first | (simp; done) | (simp; omega))).trans (by simp [go_sem])
    have c5 : wc.cell? ⟨w.heap.size + 1, 5, none⟩ = some (.int .u8 h5) := (hbe.cell (by first | (simp; done) | (simp; omega))).trans (by simp [go_sem])
    have a6 : wc.cell? ⟨w.heap.size, 6, none⟩ = some (.int .u8 g6) := (hbe.cell (by first | (simp; done) | (simp; omega))).trans (by simp [go_sem])
    have c6 : wc.cell? ⟨w.heap.size + 1, 6, none⟩ = some (.int .u8 h6) := (hbe.cell (by first | (simp; done) | (simp; omega))).trans (by simp [go_sem])
    have a7 : wc.cell? ⟨w.heap.size, 7, none⟩ = some (.int .u8 g7) := (hbe.cell (by first | (simp; done) | (simp; omega))).trans (by simp [go_sem])
    have c7 : wc.cell? ⟨w.heap.size + 1, 7, none⟩ = some (.int .u8 h7) := (hbe.cell (by first | (simp; done) | (simp; omega))).trans (by simp [go_sem])
    have a8 : wc.cell? ⟨w.heap.size, 8, none⟩ = some (.int .u8 g8) := (hbe.cell (by first | (simp; done) | (simp; omega))).trans (by simp [go_sem])
    have c8 : wc.cell? ⟨w.heap.size + 1, 8, none⟩ = some (.int .u8 h8) := (hbe.cell (by first | (simp; done) | (simp; omega))).trans (by simp [go_sem])
    have hby : Below w.heap.size w wc := (show Below w.heap.size w (((w.alloc (.cells #[.int .u8 g0, .int .u8 g1, .int .u8 g2, .int .u8 g3, .int .u8 g4, .int .u8 g5, .int .u8 g6, .int .u8 g7, .int .u8 g8] 23)).alloc (.cells #[.int .u8 h0, .int .u8 h1, .int .u8 h2, .int .u8 h3, .int .u8 h4, .int .u8 h5, .int .u8 h6, .int .u8 h7, .int .u8 h8] 23))) from (by repeat (first | (with_reducible assumption) | (with_reducible exact Below.refl _ _) | ((with_reducible refine Below.alloc ?_ ?_ _); rotate_left; (focus (first | omega | (simp; done) | (simp; omega) | (simp [Later.le, Later.le_add, Later.lt, Later.lt_add]; done) | (simp [Later.le, Later.le_add, Later.lt, Later.lt_add]; omega)))) | (with_reducible refine Below.drew ?_) | (with_reducible refine pw_below_drewN ?_ _) | ((with_reducible refine Below.setCell ?_ ?_ _); rotate_left; (focus (first | omega | (simp; done) | (simp; omega) | (simp [Later.le, Later.le_add, Later.lt, Later.lt_add]; done) | (simp [Later.le, Later.le_add, Later.lt, Later.lt_add]; omega)))) | ((with_reducible refine below_hop (by assumption) ?_ ?_); rotate_left; (focus (first | omega | (simp; done) | (simp; omega) | (simp [Later.le, Later.le_add, Later.lt, Later.lt_add]; done) | (simp [Later.le, Later.le_add, Later.lt, Later.lt_add]; omega)))) | ((with_reducible refine bel_later _ ?_ ?_); rotate_left; (focus (first | omega | (simp; done) | (simp; omega) | (simp [Later.le, Later.le_add, Later.lt, Later.lt_add]; done) | (simp [Later.le, Later.le_add, Later.lt, Later.lt_add]; omega))))))).trans (hbe.mono (by first | (simp; done) | (simp; omega)))
    clear hbe
    generalize wc = Wy at *
    have zb := World.block_lt_of_cell? _ _ k0
    have za : w.heap.size < Wy.heap.size := World.block_lt_of_cell? _ _ a0
    have zc : w.heap.size + 1 < Wy.heap.size := World.block_lt_of_cell? _ _ c0
    have znn : w.heap.size + 1 ≠ w.heap.size := by omega
    generalize w.heap.size + 1 = bh at *
    have zaa : w.heap.size < Wy.heap.size + 1 := by omega
    have zcc : bh < Wy.heap.size + 1 := by omega
    go_upto_region 2 with fail
    go_cut [11, 12] from 24 to 32 (fun v9 v10 wx => ∃ (b : Nat), v9 = .pointer (some ⟨b, 0, none⟩) ∧ v10 = .int .i64 r2 ∧ Below Wy.heap.size Wy wx ∧ Wy.heap.size ≤ b ∧ wx.cell? ⟨b, 0, none⟩ = some (.int .u8 z0) ∧ wx.cell? ⟨b, 1, none⟩ = some (.int .u8 z1) ∧ wx.cell? ⟨b, 2, none⟩ = some (.int .u8 z2) ∧ wx.cell? ⟨b, 3, none⟩ = some (.int .u8 z3) ∧ wx.cell? ⟨b, 4, none⟩ = some (.int .u8 z4) ∧ wx.cell? ⟨b, 5, none⟩ = some (.int .u8 z5) ∧ wx.cell? ⟨b, 6, none⟩ = some (.int .u8 z6) ∧ wx.cell? ⟨b, 7, none⟩ = some (.int .u8 z7) ∧ wx.cell? ⟨b, 8, none⟩ = some (.int .u8 z8))
    case first =>
      go_region_with (first | ((go_at_call_of 18 (g0); (first | (with_reducible refine call_later2 (hTg _) ?_) | (with_reducible refine call_later (hTg _) ?_)); intro x1); have m1 : bh < x1.W.heap.size := (by have h := x1.ok.size; simp at h; omega); have m2 : w.heap.size < x1.W.heap.size := (by have h := x1.ok.size; simp at h; omega); have m3 : x1.W.heap.size ≠ bh := (by omega); have m4 : x1.W.heap.size ≠ w.heap.size := (by omega); have m5 : bh < x1.W.heap.size + 1 := (by omega); have m6 : w.heap.size < x1.W.heap.size + 1 := (by omega)) | ((go_at_call_of 18 (h0); (first | (with_reducible refine call_later2 (hTh _) ?_) | (with_reducible refine call_later (hTh _) ?_)); intro x2); have m1 : bh < x2.W.heap.size := (by have h := x2.ok.size; simp at h; omega); have m2 : w.heap.size < x2.W.heap.size := (by have h := x2.ok.size; simp at h; omega); have m3 : x2.W.heap.size ≠ bh := (by omega); have m4 : x2.W.heap.size ≠ w.heap.size := (by omega); have m5 : bh < x2.W.heap.size + 1 := (by omega); have m6 : w.heap.size < x2.W.heap.size + 1 := (by omega)) | (go_at_call 23; (first | (with_reducible refine call_later2 (hI _) ?_) | (with_reducible refine call_later (hI _) ?_)); intro x3))
      all_goals (go_wp2_with fail; go_meet)
      all_goals
        have y1 := x1.ok.size
        have y2 := x2.ok.size
        have y3 := x3.ok.size
        simp at y1 y2 y3
        refine ⟨_, rfl, rfl, ?_, ?_, ?_, ?_, ?_, ?_, ?_, ?_, ?_, ?_, ?_⟩
        · exact (by repeat (first | (with_reducible assumption) | (with_reducible exact Below.refl _ _) | ((with_reducible refine Below.alloc ?_ ?_ _); rotate_left; (focus (first | omega | (simp; done) | (simp; omega) | (simp [Later.le, Later.le_add, Later.lt, Later.lt_add]; done) | (simp [Later.le, Later.le_add, Later.lt, Later.lt_add]; omega)))) | (with_reducible refine Below.drew ?_) | (with_reducible refine pw_below_drewN ?_ _) | ((with_reducible refine Below.setCell ?_ ?_ _); rotate_left; (focus (first | omega | (simp; done) | (simp; omega) | (simp [Later.le, Later.le_add, Later.lt, Later.lt_add]; done) | (simp [Later.le, Later.le_add, Later.lt, Later.lt_add]; omega)))) | ((with_reducible refine below_hop (by assumption) ?_ ?_); rotate_left; (focus (first | omega | (simp; done) | (simp; omega) | (simp [Later.le, Later.le_add, Later.lt, Later.lt_add]; done) | (simp [Later.le, Later.le_add, Later.lt, Later.lt_add]; omega)))) | ((with_reducible refine bel_later _ ?_ ?_); rotate_left; (focus (first | omega | (simp; done) | (simp; omega) | (simp [Later.le, Later.le_add, Later.lt, Later.lt_add]; done) | (simp [Later.le, Later.le_add, Later.lt, Later.lt_add]; omega))))))
        · first | omega | (simp; done) | (simp; omega)
        all_goals simp [go_sem]
    case rest =>
      obtain ⟨b2, rfl, rfl, hyk, hb2, j0, j1, j2, j3, j4, j5, j6, j7, j8⟩ := hcut
      have k0 := pw_cell_below hyk k0
      have k1 := pw_cell_below hyk k1
      have k2 := pw_cell_below hyk k2
      have k3 := pw_cell_below hyk k3
      have k4 := pw_cell_below hyk k4
      have k5 := pw_cell_below hyk k5
      have k6 := pw_cell_below hyk k6
      have k7 := pw_cell_below hyk k7
      have k8 := pw_cell_below hyk k8
      have hyz := hyk.size
      have hbz := hby.size
      have hb3 := World.block_lt_of_cell? _ _ j0
      have hbW : Below w.heap.size w wc := hby.trans (hyk.mono hbz)
      generalize wc = Wz at *
      go_wp2_with ((go_at_call 24; (first | (with_reducible refine call_later2 (hE _) ?_) | (with_reducible refine call_later (hE _) ?_)); intro x9))
      go_ret
      exact .mk (by first | rfl | simp) (by repeat (first | (with_reducible assumption) | (with_reducible exact Below.refl _ _) | ((with_reducible refine Below.alloc ?_ ?_ _); rotate_left; (focus (first | omega | (simp; done) | (simp; omega) | (simp [Later.le, Later.le_add, Later.lt, Later.lt_add]; done) | (simp [Later.le, Later.le_add, Later.lt, Later.lt_add]; omega)))) | (with_reducible refine Below.drew ?_) | (with_reducible refine pw_below_drewN ?_ _) | ((with_reducible refine Below.setCell ?_ ?_ _); rotate_left; (focus (first | omega | (simp; done) | (simp; omega) | (simp [Later.le, Later.le_add, Later.lt, Later.lt_add]; done) | (simp [Later.le, Later.le_add, Later.lt, Later.lt_add]; omega)))) | ((with_reducible refine below_hop (by assumption) ?_ ?_); rotate_left; (focus (first | omega | (simp; done) | (simp; omega) | (simp [Later.le, Later.le_add, Later.lt, Later.lt_add]; done) | (simp [Later.le, Later.le_add, Later.lt, Later.lt_add]; omega)))) | ((with_reducible refine bel_later _ ?_ ?_); rotate_left; (focus (first | omega | (simp; done) | (simp; omega) | (simp [Later.le, Later.le_add, Later.lt, Later.lt_add]; done) | (simp [Later.le, Later.le_add, Later.lt, Later.lt_add]; omega))))))
end Go.Proofs.Ytafdakamibpjaaa
