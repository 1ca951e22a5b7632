/- The walk of the reference's OrderOfMatrix; no condition. -/
import Derived.Test.YtafdakamibpjaaaOrdM
set_option linter.unusedVariables false
set_option linter.unusedSimpArgs false
namespace Go.Proofs.Ytafdakamibpjaaa
open Go.RowKit Go.Proofs.YtafdakamibpjaaaW.PrintWords
attribute [local go_sem] Later.cell Later.frozen Later.lt Later.lt_add Later.le Later.le_add Later.ne Later.ne' add_at
attribute [local go_sem 2000] run_eqM guardM

set_option maxRecDepth 100000 in
set_option maxHeartbeats 4000000 in
theorem l02Order_c (p n : Int) (g : M9) (w : World) (hg : matB p n g = true) : Calls Try.prog 75 #[.int .i64 p, .int .i64 n, .agg #[.int .u8 (g.r0.a.toNat : Int), .int .u8 (g.r0.b.toNat : Int), .int .u8 (g.r0.c.toNat : Int), .int .u8 (g.r1.a.toNat : Int), .int .u8 (g.r1.b.toNat : Int), .int .u8 (g.r1.c.toNat : Int), .int .u8 (g.r2.a.toNat : Int), .int .u8 (g.r2.b.toNat : Int), .int .u8 (g.r2.c.toNat : Int)]] w (Gives (.tuple #[.int .i64 ((ordL p n g 3000 1 g).getD 0), .bool (ordL p n g 3000 1 g).isSome]) w) := by
  obtain ⟨k1, h2, h3, h4, h5⟩ := matB_le hg
  have hun := fun W => l02Unit_c n W h4 h5
  generalize hu : unitM n = u at *
  go_enter Try.func75, Try.ntmps75
  go_upto_region 1 with fail
  go_cut [8, 9] from 11 to 13 (fun v8 v9 wx => ∃ (b1 b2 : Nat), v8 = .pointer (some ⟨b1, 0, none⟩) ∧ v9 = .pointer (some ⟨b2, 0, none⟩) ∧ Below w.heap.size w wx ∧ b1 ≠ b2 ∧ w.heap.size < b1 ∧ w.heap.size < b2 ∧ Nine wx b1 g ∧ Nine wx b2 u ∧ Nine wx w.heap.size g)
  case first =>
    go_region_with (((go_at_call 125; (first | (with_reducible refine call_later2 (hun _) ?_) | (with_reducible refine call_later (hun _) ?_)); intro x1); have q1 := x1.ok.size; (try simp at q1); have n1 : x1.W.heap.size ≠ w.heap.size := (by omega); have n2 : w.heap.size ≠ x1.W.heap.size := (by omega); have n3 : w.heap.size < x1.W.heap.size := (by omega)))
    all_goals (go_wp2_with fail; go_meet)
    all_goals
      have hsz := x1.ok.size
      simp at hsz
      refine ⟨_, _, rfl, rfl, ?_, ?_, ?_, ?_, ?_, ?_, ?_⟩
      · exact (by repeat (first | (with_reducible assumption) | (with_reducible exact Below.refl _ _) | ((with_reducible refine Below.alloc ?_ ?_ _); rotate_left; (focus (first | omega | (simp; done) | (simp; omega) | (simp [Later.le, Later.le_add, Later.lt, Later.lt_add]; done) | (simp [Later.le, Later.le_add, Later.lt, Later.lt_add]; omega)))) | (with_reducible refine Below.drew ?_) | (with_reducible refine pw_below_drewN ?_ _) | ((with_reducible refine Below.setCell ?_ ?_ _); rotate_left; (focus (first | omega | (simp; done) | (simp; omega) | (simp [Later.le, Later.le_add, Later.lt, Later.lt_add]; done) | (simp [Later.le, Later.le_add, Later.lt, Later.lt_add]; omega)))) | ((with_reducible refine below_hop (by assumption) ?_ ?_); rotate_left; (focus (first | omega | (simp; done) | (simp; omega) | (simp [Later.le, Later.le_add, Later.lt, Later.lt_add]; done) | (simp [Later.le, Later.le_add, Later.lt, Later.lt_add]; omega)))) | ((with_reducible refine bel_later _ ?_ ?_); rotate_left; (focus (first | omega | (simp; done) | (simp; omega) | (simp [Later.le, Later.le_add, Later.lt, Later.lt_add]; done) | (simp [Later.le, Later.le_add, Later.lt, Later.lt_add]; omega))))))
      · first | omega | (simp; done) | (simp; omega)
      · first | omega | (simp; done) | (simp; omega)
      · first | omega | (simp; done) | (simp; omega)
      · exact (by refine ⟨?_, ?_, ?_, ?_, ?_, ?_, ?_, ?_, ?_, fun k => ?_⟩ <;> simp [go_sem])
      · exact (by refine ⟨?_, ?_, ?_, ?_, ?_, ?_, ?_, ?_, ?_, fun k => ?_⟩ <;> simp [go_sem])
      · exact Nine.keep (nine_alloc w g 25) (by repeat (first | (with_reducible assumption) | (with_reducible exact Below.refl _ _) | ((with_reducible refine Below.alloc ?_ ?_ _); rotate_left; (focus (first | omega | (simp; done) | (simp; omega) | (simp [Later.le, Later.le_add, Later.lt, Later.lt_add]; done) | (simp [Later.le, Later.le_add, Later.lt, Later.lt_add]; omega)))) | (with_reducible refine Below.drew ?_) | (with_reducible refine pw_below_drewN ?_ _) | ((with_reducible refine Below.setCell ?_ ?_ _); rotate_left; (focus (first | omega | (simp; done) | (simp; omega) | (simp [Later.le, Later.le_add, Later.lt, Later.lt_add]; done) | (simp [Later.le, Later.le_add, Later.lt, Later.lt_add]; omega)))) | ((with_reducible refine below_hop (by assumption) ?_ ?_); rotate_left; (focus (first | omega | (simp; done) | (simp; omega) | (simp [Later.le, Later.le_add, Later.lt, Later.lt_add]; done) | (simp [Later.le, Later.le_add, Later.lt, Later.lt_add]; omega)))) | ((with_reducible refine bel_later _ ?_ ?_); rotate_left; (focus (first | omega | (simp; done) | (simp; omega) | (simp [Later.le, Later.le_add, Later.lt, Later.lt_add]; done) | (simp [Later.le, Later.le_add, Later.lt, Later.lt_add]; omega))))))
  case rest =>
    obtain ⟨b1, b2, rfl, rfl, hby, hne, hb1, hb2, N1, N2, N0⟩ := hcut
    go_wp2
    go_loopg [10] 3000 (fun k v w' => ∃ (kk : Int) (now : M9) (y : Later w), v = .int .i64 kk ∧ kk + k = 3001 ∧ 1 ≤ kk ∧ w' = y.W ∧ now.le p ∧ Nine y.W b1 now ∧ Nine y.W b2 u ∧ Nine y.W w.heap.size g ∧ ordL p n g k kk now = ordL p n g 3000 1 g)
    case atStart => exact ⟨1, g, ⟨_, hby⟩, rfl, by omega, by omega, rfl, k1, N1, N2, N0, rfl⟩
    case round =>
      clear N0 N1 N2 hby
      obtain ⟨kk, now, y, rfl, hkk, hk1, rfl, hle, Nn, Nu, Ng, hord⟩ := hrel
      have hby := y.ok
      generalize y.W = Wy at *
      have NN := Lib.hid Nn
      have NU := Lib.hid Nu
      have NG := Lib.hid Ng
      obtain ⟨n0, n1, n2, n3, n4, n5, n6, n7, n8, nf⟩ := Nn
      obtain ⟨u0, u1, u2, u3, u4, u5, u6, u7, u8, uf⟩ := Nu
      have zob := World.block_lt_of_cell? _ _ n0
      have zou := World.block_lt_of_cell? _ _ u0
      have HKK := Lib.hid hkk
      cases gk with
      | zero =>
        have e : ordL p n g 3000 1 g = none := hord.symm
        have hk3 : ¬ kk ≤ 3000 := by omega
        clear Ng
        go_wp2
        try rw [e]
        exact bodyPost_ret (v := .tuple #[.int .i64 0, .bool false]) (by simp [results, Try.results75, go_sem]) rfl (.mk rfl (by repeat (first | (with_reducible assumption) | (with_reducible exact Below.refl _ _) | ((with_reducible refine Below.alloc ?_ ?_ _); rotate_left; (focus (first | omega | (simp; done) | (simp; omega) | (simp [Later.le, Later.le_add, Later.lt, Later.lt_add]; done) | (simp [Later.le, Later.le_add, Later.lt, Later.lt_add]; omega)))) | (with_reducible refine Below.drew ?_) | (with_reducible refine pw_below_drewN ?_ _) | ((with_reducible refine Below.setCell ?_ ?_ _); rotate_left; (focus (first | omega | (simp; done) | (simp; omega) | (simp [Later.le, Later.le_add, Later.lt, Later.lt_add]; done) | (simp [Later.le, Later.le_add, Later.lt, Later.lt_add]; omega)))) | ((with_reducible refine below_hop (by assumption) ?_ ?_); rotate_left; (focus (first | omega | (simp; done) | (simp; omega) | (simp [Later.le, Later.le_add, Later.lt, Later.lt_add]; done) | (simp [Later.le, Later.le_add, Later.lt, Later.lt_add]; omega)))) | ((with_reducible refine bel_later _ ?_ ?_); rotate_left; (focus (first | omega | (simp; done) | (simp; omega) | (simp [Later.le, Later.le_add, Later.lt, Later.lt_add]; done) | (simp [Later.le, Later.le_add, Later.lt, Later.lt_add]; omega)))))))
      | succ f =>
        have hk3 : kk ≤ 3000 := by omega
        clear hkk
        by_cases hu2 : now = u
        · have e : ordL p n g 3000 1 g = some kk := by
            rw [← hord, ordL, if_pos (by rw [hu]; exact hu2)]
          subst hu2
          clear Ng
          go_wp2
          try rw [e]
          have hys := hby.size
          exact bodyPost_ret (v := .tuple #[.int .i64 kk, .bool true]) (by simp [results, Try.results75, go_sem]) rfl (.mk rfl (by repeat (first | (with_reducible assumption) | (with_reducible exact Below.refl _ _) | ((with_reducible refine Below.alloc ?_ ?_ _); rotate_left; (focus (first | omega | (simp; done) | (simp; omega) | (simp [Later.le, Later.le_add, Later.lt, Later.lt_add]; done) | (simp [Later.le, Later.le_add, Later.lt, Later.lt_add]; omega)))) | (with_reducible refine Below.drew ?_) | (with_reducible refine pw_below_drewN ?_ _) | ((with_reducible refine Below.setCell ?_ ?_ _); rotate_left; (focus (first | omega | (simp; done) | (simp; omega) | (simp [Later.le, Later.le_add, Later.lt, Later.lt_add]; done) | (simp [Later.le, Later.le_add, Later.lt, Later.lt_add]; omega)))) | ((with_reducible refine below_hop (by assumption) ?_ ?_); rotate_left; (focus (first | omega | (simp; done) | (simp; omega) | (simp [Later.le, Later.le_add, Later.lt, Later.lt_add]; done) | (simp [Later.le, Later.le_add, Later.lt, Later.lt_add]; omega)))) | ((with_reducible refine bel_later _ ?_ ?_); rotate_left; (focus (first | omega | (simp; done) | (simp; omega) | (simp [Later.le, Later.le_add, Later.lt, Later.lt_add]; done) | (simp [Later.le, Later.le_add, Later.lt, Later.lt_add]; omega)))))))
        · have hub : (now == u) = false := by rw [beq_eq_false_iff_ne]; exact hu2
          rw [ordL, if_neg (by rw [hu]; exact hu2)] at hord
          obtain ⟨g0, g1, g2, g3, g4, g5, g6, g7, g8, gf⟩ := Ng
          have zog := World.block_lt_of_cell? _ _ g0
          have htm := fun W => l02Times_h hle hg W
          have HTM := Lib.hid (timesM_le (p := p) (n := n.toNat) (g := now) (h := g) h2 h3)
          generalize timesM p n.toNat now g = tm at *
          go_wp2_with ((go_at_call 72; (first | (with_reducible refine call_later2 (htm _) ?_) | (with_reducible refine call_later (htm _) ?_)); intro x3))
          go_roundg f
          case measure => exact Nat.lt_succ_self f
          case rel =>
            refine ⟨kk + 1, tm, ⟨put9 x3.W b1 tm, below_put9 (hby.trans (x3.ok.mono hby.size)) (by omega) _⟩, by go_num, by have := HKK.out; omega, by omega, rfl, HTM.out, (NN.out.keep x3.ok).put tm, (NU.out.keep x3.ok).far (by omega) tm, (NG.out.keep x3.ok).far (by omega) tm, hord⟩
set_option maxRecDepth 100000 in
set_option maxHeartbeats 1000000 in
theorem specOrder_c (p n : Int) (g : M9) (w : World) : Calls Try.prog 25 #[.int .i64 p, .int .i64 n, .agg #[.int .u8 (g.r0.a.toNat : Int), .int .u8 (g.r0.b.toNat : Int), .int .u8 (g.r0.c.toNat : Int), .int .u8 (g.r1.a.toNat : Int), .int .u8 (g.r1.b.toNat : Int), .int .u8 (g.r1.c.toNat : Int), .int .u8 (g.r2.a.toNat : Int), .int .u8 (g.r2.b.toNat : Int), .int .u8 (g.r2.c.toNat : Int)]] w (Gives (.tuple #[.int .i64 (ordR p n g).1, .int .i64 (ordR p n g).2]) w) := by
  have hm := fun W => l02Matrix_c p n g W
  cases hg : matB p n g with
  | false =>
    have e : ordR p n g = (0, 2) := by simp [ordR, hg]
    rw [e]
    rw [hg] at hm
    go_enter Try.func25, Try.ntmps25
    go_wp2_with ((go_at_call 65; (first | (with_reducible refine call_later2 (hm _) ?_) | (with_reducible refine call_later (hm _) ?_)); intro x1))
    exact bodyPost_ret (v := .tuple #[.int .i64 0, .int .i64 2]) (by simp [results, Try.results25, go_sem]) rfl (.mk rfl (by repeat (first | (with_reducible assumption) | (with_reducible exact Below.refl _ _) | ((with_reducible refine Below.alloc ?_ ?_ _); rotate_left; (focus (first | omega | (simp; done) | (simp; omega) | (simp [Later.le, Later.le_add, Later.lt, Later.lt_add]; done) | (simp [Later.le, Later.le_add, Later.lt, Later.lt_add]; omega)))) | (with_reducible refine Below.drew ?_) | (with_reducible refine pw_below_drewN ?_ _) | ((with_reducible refine Below.setCell ?_ ?_ _); rotate_left; (focus (first | omega | (simp; done) | (simp; omega) | (simp [Later.le, Later.le_add, Later.lt, Later.lt_add]; done) | (simp [Later.le, Later.le_add, Later.lt, Later.lt_add]; omega)))) | ((with_reducible refine below_hop (by assumption) ?_ ?_); rotate_left; (focus (first | omega | (simp; done) | (simp; omega) | (simp [Later.le, Later.le_add, Later.lt, Later.lt_add]; done) | (simp [Later.le, Later.le_add, Later.lt, Later.lt_add]; omega)))) | ((with_reducible refine bel_later _ ?_ ?_); rotate_left; (focus (first | omega | (simp; done) | (simp; omega) | (simp [Later.le, Later.le_add, Later.lt, Later.lt_add]; done) | (simp [Later.le, Later.le_add, Later.lt, Later.lt_add]; omega)))))))
  | true =>
    rw [hg] at hm
    have ho := fun W => l02Order_c p n g W hg
    cases hv : ordL p n g 3000 1 g with
    | none =>
      have e : ordR p n g = (0, 3) := by rw [ordR, if_pos hg, hv]
      rw [e]
      rw [hv] at ho
      go_enter Try.func25, Try.ntmps25
      go_wp2_with (first | (go_at_call 65; (first | (with_reducible refine call_later2 (hm _) ?_) | (with_reducible refine call_later (hm _) ?_)); intro x1) | (go_at_call 75; (first | (with_reducible refine call_later2 (ho _) ?_) | (with_reducible refine call_later (ho _) ?_)); intro x2))
      exact bodyPost_ret (v := .tuple #[.int .i64 0, .int .i64 3]) (by simp [results, Try.results25, go_sem]) rfl (.mk rfl (by repeat (first | (with_reducible assumption) | (with_reducible exact Below.refl _ _) | ((with_reducible refine Below.alloc ?_ ?_ _); rotate_left; (focus (first | omega | (simp; done) | (simp; omega) | (simp [Later.le, Later.le_add, Later.lt, Later.lt_add]; done) | (simp [Later.le, Later.le_add, Later.lt, Later.lt_add]; omega)))) | (with_reducible refine Below.drew ?_) | (with_reducible refine pw_below_drewN ?_ _) | ((with_reducible refine Below.setCell ?_ ?_ _); rotate_left; (focus (first | omega | (simp; done) | (simp; omega) | (simp [Later.le, Later.le_add, Later.lt, Later.lt_add]; done) | (simp [Later.le, Later.le_add, Later.lt, Later.lt_add]; omega)))) | ((with_reducible refine below_hop (by assumption) ?_ ?_); rotate_left; (focus (first | omega | (simp; done) | (simp; omega) | (simp [Later.le, Later.le_add, Later.lt, Later.lt_add]; done) | (simp [Later.le, Later.le_add, Later.lt, Later.lt_add]; omega)))) | ((with_reducible refine bel_later _ ?_ ?_); rotate_left; (focus (first | omega | (simp; done) | (simp; omega) | (simp [Later.le, Later.le_add, Later.lt, Later.lt_add]; done) | (simp [Later.le, Later.le_add, Later.lt, Later.lt_add]; omega)))))))
    | some k =>
      have e : ordR p n g = (k, 0) := by rw [ordR, if_pos hg, hv]
      rw [e]
      rw [hv] at ho
      go_enter Try.func25, Try.ntmps25
      go_wp2_with (first | (go_at_call 65; (first | (with_reducible refine call_later2 (hm _) ?_) | (with_reducible refine call_later (hm _) ?_)); intro x1) | (go_at_call 75; (first | (with_reducible refine call_later2 (ho _) ?_) | (with_reducible refine call_later (ho _) ?_)); intro x2))
      exact bodyPost_ret (v := .tuple #[.int .i64 k, .int .i64 0]) (by simp [results, Try.results25, go_sem]) rfl (.mk rfl (by repeat (first | (with_reducible assumption) | (with_reducible exact Below.refl _ _) | ((with_reducible refine Below.alloc ?_ ?_ _); rotate_left; (focus (first | omega | (simp; done) | (simp; omega) | (simp [Later.le, Later.le_add, Later.lt, Later.lt_add]; done) | (simp [Later.le, Later.le_add, Later.lt, Later.lt_add]; omega)))) | (with_reducible refine Below.drew ?_) | (with_reducible refine pw_below_drewN ?_ _) | ((with_reducible refine Below.setCell ?_ ?_ _); rotate_left; (focus (first | omega | (simp; done) | (simp; omega) | (simp [Later.le, Later.le_add, Later.lt, Later.lt_add]; done) | (simp [Later.le, Later.le_add, Later.lt, Later.lt_add]; omega)))) | ((with_reducible refine below_hop (by assumption) ?_ ?_); rotate_left; (focus (first | omega | (simp; done) | (simp; omega) | (simp [Later.le, Later.le_add, Later.lt, Later.lt_add]; done) | (simp [Later.le, Later.le_add, Later.lt, Later.lt_add]; omega)))) | ((with_reducible refine bel_later _ ?_ ?_); rotate_left; (focus (first | omega | (simp; done) | (simp; omega) | (simp [Later.le, Later.le_add, Later.lt, Later.lt_add]; done) | (simp [Later.le, Later.le_add, Later.lt, Later.lt_add]; omega)))))))
end Go.Proofs.Ytafdakamibpjaaa
