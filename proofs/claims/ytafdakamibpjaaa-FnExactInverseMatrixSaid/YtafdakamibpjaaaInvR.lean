/- The walks of InverseMatrix of both sides; no condition. -/
import Derived.Test.YtafdakamibpjaaaInv2
import Derived.Test.YtafdakamibpjaaaMulM
set_option linter.unusedVariables false
set_option linter.unusedSimpArgs false
namespace Go.Proofs.Ytafdakamibpjaaa
open Go.RowKit Go.Proofs.YtafdakamibpjaaaW.PrintWords
attribute [local go_sem] Later.cell Later.frozen Later.lt Later.lt_add Later.le Later.le_add Later.ne Later.ne' add_at

/-- What InverseMatrix answers. -/
def invR (p n : Int) (g : M9) : M9 × Int := if matB p n g = true then (invM p n.toNat g.num, 0) else (zM, 2)
theorem call_inv3 {P : Program} {f : FuncId} {args : Array Value} {w : World} {y : Later w} {b : Bool} {tm : M9} {R : Ending → World → Prop}
    (h : Calls P f args y.W (fun e w' => ∃ m : M9, e = .returned (.tuple #[.agg #[.int .u8 (m.r0.a.toNat : Int), .int .u8 (m.r0.b.toNat : Int), .int .u8 (m.r0.c.toNat : Int), .int .u8 (m.r1.a.toNat : Int), .int .u8 (m.r1.b.toNat : Int), .int .u8 (m.r1.c.toNat : Int), .int .u8 (m.r2.a.toNat : Int), .int .u8 (m.r2.b.toNat : Int), .int .u8 (m.r2.c.toNat : Int)], .bool b]) ∧ (m = tm) ∧ Below y.W.heap.size y.W w')) (k : ∀ (x : Later w), R (.returned (.tuple #[.agg #[.int .u8 (tm.r0.a.toNat : Int), .int .u8 (tm.r0.b.toNat : Int), .int .u8 (tm.r0.c.toNat : Int), .int .u8 (tm.r1.a.toNat : Int), .int .u8 (tm.r1.b.toNat : Int), .int .u8 (tm.r1.c.toNat : Int), .int .u8 (tm.r2.a.toNat : Int), .int .u8 (tm.r2.b.toNat : Int), .int .u8 (tm.r2.c.toNat : Int)], .bool b])) x.W) : Calls P f args y.W R :=
  h.mono fun _ w' ⟨m, he, hq, hb⟩ => by subst he; subst hq; exact k ⟨w', y.ok.trans (hb.mono y.ok.size)⟩
theorem l02Inverse_g {p n : Int} {g : M9} (hg : matB p n g = true) (w : World) : Calls Try.prog 88 #[.int .i64 p, .int .i64 n, .agg #[.int .u8 (g.r0.a.toNat : Int), .int .u8 (g.r0.b.toNat : Int), .int .u8 (g.r0.c.toNat : Int), .int .u8 (g.r1.a.toNat : Int), .int .u8 (g.r1.b.toNat : Int), .int .u8 (g.r1.c.toNat : Int), .int .u8 (g.r2.a.toNat : Int), .int .u8 (g.r2.b.toNat : Int), .int .u8 (g.r2.c.toNat : Int)]] w (fun e w' => ∃ m : M9, e = .returned (.tuple #[.agg #[.int .u8 (m.r0.a.toNat : Int), .int .u8 (m.r0.b.toNat : Int), .int .u8 (m.r0.c.toNat : Int), .int .u8 (m.r1.a.toNat : Int), .int .u8 (m.r1.b.toNat : Int), .int .u8 (m.r1.c.toNat : Int), .int .u8 (m.r2.a.toNat : Int), .int .u8 (m.r2.b.toNat : Int), .int .u8 (m.r2.c.toNat : Int)], .bool true]) ∧ m = invM p n.toNat g.num ∧ Below w.heap.size w w') := by
  obtain ⟨h1, h2, h3, h4, h5⟩ := matB_le hg
  obtain ⟨k1, k2, k3, k4⟩ := matB_of hg
  have := l02Inverse_c p n.toNat g w (primeZ_of k1) (by omega) (by omega) h1
  rw [Int.toNat_of_nonneg (by omega)] at this
  rw [decide_eq_true k4] at this
  exact this.mono fun e w' ⟨m, he, hm, hb⟩ => ⟨m, he, hm k4, hb⟩
theorem inverted_g {p n : Int} {g : M9} (hg : matB p n g = true) (w : World) : Calls Try.prog 89 #[.int .i64 p, .int .i64 n, .agg #[.int .u8 (g.r0.a.toNat : Int), .int .u8 (g.r0.b.toNat : Int), .int .u8 (g.r0.c.toNat : Int), .int .u8 (g.r1.a.toNat : Int), .int .u8 (g.r1.b.toNat : Int), .int .u8 (g.r1.c.toNat : Int), .int .u8 (g.r2.a.toNat : Int), .int .u8 (g.r2.b.toNat : Int), .int .u8 (g.r2.c.toNat : Int)]] w (Gives (.agg #[.int .u8 ((invM p n.toNat g.num).r0.a.toNat : Int), .int .u8 ((invM p n.toNat g.num).r0.b.toNat : Int), .int .u8 ((invM p n.toNat g.num).r0.c.toNat : Int), .int .u8 ((invM p n.toNat g.num).r1.a.toNat : Int), .int .u8 ((invM p n.toNat g.num).r1.b.toNat : Int), .int .u8 ((invM p n.toNat g.num).r1.c.toNat : Int), .int .u8 ((invM p n.toNat g.num).r2.a.toNat : Int), .int .u8 ((invM p n.toNat g.num).r2.b.toNat : Int), .int .u8 ((invM p n.toNat g.num).r2.c.toNat : Int)]) w) := by
  obtain ⟨h1, h2, h3, h4, h5⟩ := matB_le hg
  obtain ⟨k1, k2, k3, k4⟩ := matB_of hg
  have := inverted_c p n.toNat g w (primeZ_of k1) (by omega) (by omega) h1
  rwa [Int.toNat_of_nonneg (by omega)] at this

set_option maxRecDepth 100000 in
set_option maxHeartbeats 1000000 in
theorem specInverse_c (p n : Int) (g : M9) (w : World) : Calls Try.prog 38 #[.int .i64 p, .int .i64 n, .agg #[.int .u8 (g.r0.a.toNat : Int), .int .u8 (g.r0.b.toNat : Int), .int .u8 (g.r0.c.toNat : Int), .int .u8 (g.r1.a.toNat : Int), .int .u8 (g.r1.b.toNat : Int), .int .u8 (g.r1.c.toNat : Int), .int .u8 (g.r2.a.toNat : Int), .int .u8 (g.r2.b.toNat : Int), .int .u8 (g.r2.c.toNat : Int)]] w (Gives (.tuple #[.agg #[.int .u8 ((invR p n g).1.r0.a.toNat : Int), .int .u8 ((invR p n g).1.r0.b.toNat : Int), .int .u8 ((invR p n g).1.r0.c.toNat : Int), .int .u8 ((invR p n g).1.r1.a.toNat : Int), .int .u8 ((invR p n g).1.r1.b.toNat : Int), .int .u8 ((invR p n g).1.r1.c.toNat : Int), .int .u8 ((invR p n g).1.r2.a.toNat : Int), .int .u8 ((invR p n g).1.r2.b.toNat : Int), .int .u8 ((invR p n g).1.r2.c.toNat : Int)], .int .i64 (invR p n g).2]) w) := by
  have hG := fun W => l02Matrix_c p n g W
  cases hg : matB p n g with
  | false =>
    have e : invR p n g = (zM, 2) := by simp [invR, hg]
    rw [e]
    rw [hg] at hG
    go_enter Try.func38, Try.ntmps38
    go_wp2_with ((go_at_call 65; (first | (with_reducible refine call_later2 (hG _) ?_) | (with_reducible refine call_later (hG _) ?_)); intro x1))
    exact bodyPost_ret (v := .tuple #[.agg #[.int .u8 0, .int .u8 0, .int .u8 0, .int .u8 0, .int .u8 0, .int .u8 0, .int .u8 0, .int .u8 0, .int .u8 0], .int .i64 2]) (by simp [results, Try.results38, go_sem]) rfl (.mk rfl (by repeat (first | (with_reducible assumption) | (with_reducible exact Below.refl _ _) | ((with_reducible refine Below.alloc ?_ ?_ _); rotate_left; (focus (first | omega | (simp; done) | (simp; omega) | (simp [Later.le, Later.le_add, Later.lt, Later.lt_add]; done) | (simp [Later.le, Later.le_add, Later.lt, Later.lt_add]; omega)))) | (with_reducible refine Below.drew ?_) | (with_reducible refine pw_below_drewN ?_ _) | ((with_reducible refine Below.setCell ?_ ?_ _); rotate_left; (focus (first | omega | (simp; done) | (simp; omega) | (simp [Later.le, Later.le_add, Later.lt, Later.lt_add]; done) | (simp [Later.le, Later.le_add, Later.lt, Later.lt_add]; omega)))) | ((with_reducible refine below_hop (by assumption) ?_ ?_); rotate_left; (focus (first | omega | (simp; done) | (simp; omega) | (simp [Later.le, Later.le_add, Later.lt, Later.lt_add]; done) | (simp [Later.le, Later.le_add, Later.lt, Later.lt_add]; omega)))) | ((with_reducible refine bel_later _ ?_ ?_); rotate_left; (focus (first | omega | (simp; done) | (simp; omega) | (simp [Later.le, Later.le_add, Later.lt, Later.lt_add]; done) | (simp [Later.le, Later.le_add, Later.lt, Later.lt_add]; omega)))))))
  | true =>
    have e : invR p n g = (invM p n.toNat g.num, 0) := by simp [invR, hg]
    rw [e]
    have hi := fun W => l02Inverse_g hg W
    rw [hg] at hG
    generalize invM p n.toNat g.num = tm at *
    go_enter Try.func38, Try.ntmps38
    go_wp2_with (first | (go_at_call 65; (first | (with_reducible refine call_later2 (hG _) ?_) | (with_reducible refine call_later (hG _) ?_)); intro x1) | (go_at_call 88; (with_reducible refine call_inv3 (hi _) ?_); intro x2; have hx2 := x2.ok.size; (try simp at hx2)))
    exact bodyPost_ret (v := .tuple #[.agg #[.int .u8 (tm.r0.a.toNat : Int), .int .u8 (tm.r0.b.toNat : Int), .int .u8 (tm.r0.c.toNat : Int), .int .u8 (tm.r1.a.toNat : Int), .int .u8 (tm.r1.b.toNat : Int), .int .u8 (tm.r1.c.toNat : Int), .int .u8 (tm.r2.a.toNat : Int), .int .u8 (tm.r2.b.toNat : Int), .int .u8 (tm.r2.c.toNat : Int)], .int .i64 0]) (by simp [results, Try.results38, go_sem]) rfl (.mk rfl (by repeat (first | (with_reducible assumption) | (with_reducible exact Below.refl _ _) | ((with_reducible refine Below.alloc ?_ ?_ _); rotate_left; (focus (first | omega | (simp; done) | (simp; omega) | (simp [Later.le, Later.le_add, Later.lt, Later.lt_add]; done) | (simp [Later.le, Later.le_add, Later.lt, Later.lt_add]; omega)))) | (with_reducible refine Below.drew ?_) | (with_reducible refine pw_below_drewN ?_ _) | ((with_reducible refine Below.setCell ?_ ?_ _); rotate_left; (focus (first | omega | (simp; done) | (simp; omega) | (simp [Later.le, Later.le_add, Later.lt, Later.lt_add]; done) | (simp [Later.le, Later.le_add, Later.lt, Later.lt_add]; omega)))) | ((with_reducible refine below_hop (by assumption) ?_ ?_); rotate_left; (focus (first | omega | (simp; done) | (simp; omega) | (simp [Later.le, Later.le_add, Later.lt, Later.lt_add]; done) | (simp [Later.le, Later.le_add, Later.lt, Later.lt_add]; omega)))) | ((with_reducible refine bel_later _ ?_ ?_); rotate_left; (focus (first | omega | (simp; done) | (simp; omega) | (simp [Later.le, Later.le_add, Later.lt, Later.lt_add]; done) | (simp [Later.le, Later.le_add, Later.lt, Later.lt_add]; omega)))))))
set_option maxRecDepth 100000 in
set_option maxHeartbeats 1000000 in
theorem implInverse_c (p n : Int) (g : M9) (w : World) : Calls Try.prog 39 #[.int .i64 p, .int .i64 n, .agg #[.int .u8 (g.r0.a.toNat : Int), .int .u8 (g.r0.b.toNat : Int), .int .u8 (g.r0.c.toNat : Int), .int .u8 (g.r1.a.toNat : Int), .int .u8 (g.r1.b.toNat : Int), .int .u8 (g.r1.c.toNat : Int), .int .u8 (g.r2.a.toNat : Int), .int .u8 (g.r2.b.toNat : Int), .int .u8 (g.r2.c.toNat : Int)]] w (Gives (.tuple #[.agg #[.int .u8 ((invR p n g).1.r0.a.toNat : Int), .int .u8 ((invR p n g).1.r0.b.toNat : Int), .int .u8 ((invR p n g).1.r0.c.toNat : Int), .int .u8 ((invR p n g).1.r1.a.toNat : Int), .int .u8 ((invR p n g).1.r1.b.toNat : Int), .int .u8 ((invR p n g).1.r1.c.toNat : Int), .int .u8 ((invR p n g).1.r2.a.toNat : Int), .int .u8 ((invR p n g).1.r2.b.toNat : Int), .int .u8 ((invR p n g).1.r2.c.toNat : Int)], .int .i64 (invR p n g).2]) w) := by
  have ha := fun W i c hi => areMatrices_1 p n g W i c hi
  cases hg : matB p n g with
  | false =>
    have e : invR p n g = (zM, 2) := by simp [invR, hg]
    rw [e]
    rw [hg] at ha
    go_enter Try.func39, Try.ntmps39
    go_wp2_with ((go_at_call 71; (first | (with_reducible refine call_later2 (ha _ _ _ (by simp)) ?_) | (with_reducible refine call_later (ha _ _ _ (by simp)) ?_)); intro x1))
    exact bodyPost_ret (v := .tuple #[.agg #[.int .u8 0, .int .u8 0, .int .u8 0, .int .u8 0, .int .u8 0, .int .u8 0, .int .u8 0, .int .u8 0, .int .u8 0], .int .i64 2]) (by simp [results, Try.results39, go_sem]) rfl (.mk rfl (by repeat (first | (with_reducible assumption) | (with_reducible exact Below.refl _ _) | ((with_reducible refine Below.alloc ?_ ?_ _); rotate_left; (focus (first | omega | (simp; done) | (simp; omega) | (simp [Later.le, Later.le_add, Later.lt, Later.lt_add]; done) | (simp [Later.le, Later.le_add, Later.lt, Later.lt_add]; omega)))) | (with_reducible refine Below.drew ?_) | (with_reducible refine pw_below_drewN ?_ _) | ((with_reducible refine Below.setCell ?_ ?_ _); rotate_left; (focus (first | omega | (simp; done) | (simp; omega) | (simp [Later.le, Later.le_add, Later.lt, Later.lt_add]; done) | (simp [Later.le, Later.le_add, Later.lt, Later.lt_add]; omega)))) | ((with_reducible refine below_hop (by assumption) ?_ ?_); rotate_left; (focus (first | omega | (simp; done) | (simp; omega) | (simp [Later.le, Later.le_add, Later.lt, Later.lt_add]; done) | (simp [Later.le, Later.le_add, Later.lt, Later.lt_add]; omega)))) | ((with_reducible refine bel_later _ ?_ ?_); rotate_left; (focus (first | omega | (simp; done) | (simp; omega) | (simp [Later.le, Later.le_add, Later.lt, Later.lt_add]; done) | (simp [Later.le, Later.le_add, Later.lt, Later.lt_add]; omega)))))))
  | true =>
    have e : invR p n g = (invM p n.toNat g.num, 0) := by simp [invR, hg]
    rw [e]
    have hi := fun W => inverted_g hg W
    rw [hg] at ha
    generalize invM p n.toNat g.num = tm at *
    go_enter Try.func39, Try.ntmps39
    go_wp2_with (first | (go_at_call 71; (first | (with_reducible refine call_later2 (ha _ _ _ (by simp)) ?_) | (with_reducible refine call_later (ha _ _ _ (by simp)) ?_)); intro x1) | (go_at_call 89; (first | (with_reducible refine call_later2 (hi _) ?_) | (with_reducible refine call_later (hi _) ?_)); intro x2))
    exact bodyPost_ret (v := .tuple #[.agg #[.int .u8 (tm.r0.a.toNat : Int), .int .u8 (tm.r0.b.toNat : Int), .int .u8 (tm.r0.c.toNat : Int), .int .u8 (tm.r1.a.toNat : Int), .int .u8 (tm.r1.b.toNat : Int), .int .u8 (tm.r1.c.toNat : Int), .int .u8 (tm.r2.a.toNat : Int), .int .u8 (tm.r2.b.toNat : Int), .int .u8 (tm.r2.c.toNat : Int)], .int .i64 0]) (by simp [results, Try.results39, go_sem]) rfl (.mk rfl (by repeat (first | (with_reducible assumption) | (with_reducible exact Below.refl _ _) | ((with_reducible refine Below.alloc ?_ ?_ _); rotate_left; (focus (first | omega | (simp; done) | (simp; omega) | (simp [Later.le, Later.le_add, Later.lt, Later.lt_add]; done) | (simp [Later.le, Later.le_add, Later.lt, Later.lt_add]; omega)))) | (with_reducible refine Below.drew ?_) | (with_reducible refine pw_below_drewN ?_ _) | ((with_reducible refine Below.setCell ?_ ?_ _); rotate_left; (focus (first | omega | (simp; done) | (simp; omega) | (simp [Later.le, Later.le_add, Later.lt, Later.lt_add]; done) | (simp [Later.le, Later.le_add, Later.lt, Later.lt_add]; omega)))) | ((with_reducible refine below_hop (by assumption) ?_ ?_); rotate_left; (focus (first | omega | (simp; done) | (simp; omega) | (simp [Later.le, Later.le_add, Later.lt, Later.lt_add]; done) | (simp [Later.le, Later.le_add, Later.lt, Later.lt_add]; omega)))) | ((with_reducible refine bel_later _ ?_ ?_); rotate_left; (focus (first | omega | (simp; done) | (simp; omega) | (simp [Later.le, Later.le_add, Later.lt, Later.lt_add]; done) | (simp [Later.le, Later.le_add, Later.lt, Later.lt_add]; omega)))))))
end Go.Proofs.Ytafdakamibpjaaa
