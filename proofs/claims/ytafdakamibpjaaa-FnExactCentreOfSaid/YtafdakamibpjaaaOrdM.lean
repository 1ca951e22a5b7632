/- The walks of OrderOfMatrix of both sides; no condition. -/
import Derived.Test.YtafdakamibpjaaaMulM
import Derived.Deep.RegionWith
import Derived.Deep.CutRange
set_option linter.unusedVariables false
set_option linter.unusedSimpArgs false
namespace Go.Proofs.Ytafdakamibpjaaa
open Go.RowKit Go.Proofs.YtafdakamibpjaaaW.PrintWords
attribute [local go_sem] Later.cell Later.frozen Later.lt Later.lt_add Later.le Later.le_add Later.ne Later.ne' add_at
attribute [local go_sem 2000] run_eqM guardM

/-- The order, looked for from the k-th power on. -/
def ordL (p n : Int) (g : M9) : Nat → Int → M9 → Option Int
  | 0, _, _ => none
  | f + 1, k, now => if now = unitM n then some k else ordL p n g f (k + 1) (timesM p n.toNat now g)
/-- What OrderOfMatrix answers. -/
def ordR (p n : Int) (g : M9) : Int × Int := if matB p n g = true then (match ordL p n g 3000 1 g with | some k => (k, 0) | none => (0, 3)) else (0, 2)
/-- Nine cells hold a matrix. -/
def Nine (w : World) (b : Nat) (m : M9) : Prop :=
  w.cell? ⟨b, 0, none⟩ = some (.int .u8 (m.r0.a.toNat : Int)) ∧ w.cell? ⟨b, 1, none⟩ = some (.int .u8 (m.r0.b.toNat : Int)) ∧ w.cell? ⟨b, 2, none⟩ = some (.int .u8 (m.r0.c.toNat : Int)) ∧
  w.cell? ⟨b, 3, none⟩ = some (.int .u8 (m.r1.a.toNat : Int)) ∧ w.cell? ⟨b, 4, none⟩ = some (.int .u8 (m.r1.b.toNat : Int)) ∧ w.cell? ⟨b, 5, none⟩ = some (.int .u8 (m.r1.c.toNat : Int)) ∧
  w.cell? ⟨b, 6, none⟩ = some (.int .u8 (m.r2.a.toNat : Int)) ∧ w.cell? ⟨b, 7, none⟩ = some (.int .u8 (m.r2.b.toNat : Int)) ∧ w.cell? ⟨b, 8, none⟩ = some (.int .u8 (m.r2.c.toNat : Int)) ∧ ∀ k, w.frozen? ⟨b, k, none⟩ = false
theorem Nine.keep {w w1 : World} {b : Nat} {m : M9} (h : Nine w b m) (hb : Below w.heap.size w w1) : Nine w1 b m := by
  obtain ⟨h0, h1, h2, h3, h4, h5, h6, h7, h8, hf⟩ := h
  have hlt : b < w.heap.size := World.block_lt_of_cell? _ _ h0
  exact ⟨pw_cell_below hb h0, pw_cell_below hb h1, pw_cell_below hb h2, pw_cell_below hb h3, pw_cell_below hb h4, pw_cell_below hb h5, pw_cell_below hb h6, pw_cell_below hb h7, pw_cell_below hb h8, fun k => (hb.frozen (p := ⟨b, k, none⟩) hlt).trans (hf k)⟩
theorem Nine.lt {w : World} {b : Nat} {m : M9} (h : Nine w b m) : b < w.heap.size := World.block_lt_of_cell? _ _ h.1
def put9 (w : World) (b : Nat) (m : M9) : World := ((((((((w.setCell ⟨b, 0, none⟩ (.int .u8 (m.r0.a.toNat : Int))).setCell ⟨b, 1, none⟩ (.int .u8 (m.r0.b.toNat : Int))).setCell ⟨b, 2, none⟩ (.int .u8 (m.r0.c.toNat : Int))).setCell ⟨b, 3, none⟩ (.int .u8 (m.r1.a.toNat : Int))).setCell ⟨b, 4, none⟩ (.int .u8 (m.r1.b.toNat : Int))).setCell ⟨b, 5, none⟩ (.int .u8 (m.r1.c.toNat : Int))).setCell ⟨b, 6, none⟩ (.int .u8 (m.r2.a.toNat : Int))).setCell ⟨b, 7, none⟩ (.int .u8 (m.r2.b.toNat : Int))).setCell ⟨b, 8, none⟩ (.int .u8 (m.r2.c.toNat : Int))
theorem Nine.put {w : World} {b : Nat} {m : M9} (h : Nine w b m) (m' : M9) : Nine (put9 w b m') b m' := by
  obtain ⟨h0, h1, h2, h3, h4, h5, h6, h7, h8, hf⟩ := h
  unfold put9
  refine ⟨?_, ?_, ?_, ?_, ?_, ?_, ?_, ?_, ?_, fun k => by simp [hf]⟩
  all_goals simp [go_sem, h0, h1, h2, h3, h4, h5, h6, h7, h8]
theorem below_put9 {B : Nat} {w0 w : World} (h : Below B w0 w) {b : Nat} (hb : B ≤ b) (m : M9) : Below B w0 (put9 w b m) := by
  unfold put9
  exact ((((((((h.setCell (p := ⟨b, 0, none⟩) hb _).setCell (p := ⟨b, 1, none⟩) hb _).setCell (p := ⟨b, 2, none⟩) hb _).setCell (p := ⟨b, 3, none⟩) hb _).setCell (p := ⟨b, 4, none⟩) hb _).setCell (p := ⟨b, 5, none⟩) hb _).setCell (p := ⟨b, 6, none⟩) hb _).setCell (p := ⟨b, 7, none⟩) hb _).setCell (p := ⟨b, 8, none⟩) hb _
theorem Nine.far {w : World} {b b' : Nat} {m : M9} (h : Nine w b m) (hne : b ≠ b') (m' : M9) : Nine (put9 w b' m') b m := by
  obtain ⟨h0, h1, h2, h3, h4, h5, h6, h7, h8, hf⟩ := h
  unfold put9
  refine ⟨?_, ?_, ?_, ?_, ?_, ?_, ?_, ?_, ?_, fun k => by simp [hf]⟩
  all_goals simp [go_sem, h0, h1, h2, h3, h4, h5, h6, h7, h8, hne]
theorem nine_alloc (w : World) (m : M9) (t : TypeId) : Nine (w.alloc (.cells #[.int .u8 (m.r0.a.toNat : Int), .int .u8 (m.r0.b.toNat : Int), .int .u8 (m.r0.c.toNat : Int), .int .u8 (m.r1.a.toNat : Int), .int .u8 (m.r1.b.toNat : Int), .int .u8 (m.r1.c.toNat : Int), .int .u8 (m.r2.a.toNat : Int), .int .u8 (m.r2.b.toNat : Int), .int .u8 (m.r2.c.toNat : Int)] t)) w.heap.size m := by
  refine ⟨?_, ?_, ?_, ?_, ?_, ?_, ?_, ?_, ?_, fun k => ?_⟩
  all_goals simp [go_sem]
theorem timesM_le {p : Int} {n : Nat} {g h : M9} (hp : 2 ≤ p) (hp' : p ≤ 13) : (timesM p n g h).le p := by
  have key : ∀ i j, (((if i < n ∧ j < n then uB (sumT g h i j n % p) else 0 : UInt8)).toNat : Int) < p := fun i j => by
    split
    · have := mod_bd (sumT g h i j n) hp
      rw [uB_nat, Int.emod_eq_of_lt this.1 (by omega)]
      exact this.2
    · show (0 : Int) < p
      omega
  exact ⟨⟨key 0 0, key 0 1, key 0 2⟩, ⟨key 1 0, key 1 1, key 1 2⟩, ⟨key 2 0, key 2 1, key 2 2⟩⟩
theorem times_h {p n : Int} {g h : M9} (hg : g.le p) (hh : matB p n h = true) (w : World) : Calls Try.prog 73 #[.int .i64 p, .int .i64 n, .agg #[.int .u8 (g.r0.a.toNat : Int), .int .u8 (g.r0.b.toNat : Int), .int .u8 (g.r0.c.toNat : Int), .int .u8 (g.r1.a.toNat : Int), .int .u8 (g.r1.b.toNat : Int), .int .u8 (g.r1.c.toNat : Int), .int .u8 (g.r2.a.toNat : Int), .int .u8 (g.r2.b.toNat : Int), .int .u8 (g.r2.c.toNat : Int)], .agg #[.int .u8 (h.r0.a.toNat : Int), .int .u8 (h.r0.b.toNat : Int), .int .u8 (h.r0.c.toNat : Int), .int .u8 (h.r1.a.toNat : Int), .int .u8 (h.r1.b.toNat : Int), .int .u8 (h.r1.c.toNat : Int), .int .u8 (h.r2.a.toNat : Int), .int .u8 (h.r2.b.toNat : Int), .int .u8 (h.r2.c.toNat : Int)]] w (Gives (.agg #[.int .u8 ((timesM p n.toNat g h).r0.a.toNat : Int), .int .u8 ((timesM p n.toNat g h).r0.b.toNat : Int), .int .u8 ((timesM p n.toNat g h).r0.c.toNat : Int), .int .u8 ((timesM p n.toNat g h).r1.a.toNat : Int), .int .u8 ((timesM p n.toNat g h).r1.b.toNat : Int), .int .u8 ((timesM p n.toNat g h).r1.c.toNat : Int), .int .u8 ((timesM p n.toNat g h).r2.a.toNat : Int), .int .u8 ((timesM p n.toNat g h).r2.b.toNat : Int), .int .u8 ((timesM p n.toNat g h).r2.c.toNat : Int)]) w) := by
  obtain ⟨k1, h2, h3, h4, h5⟩ := matB_le hh
  have := times_c p n.toNat g h w h2 h3 (by omega) (by omega) hg k1
  rwa [Int.toNat_of_nonneg (by omega)] at this
theorem l02Times_h {p n : Int} {g h : M9} (hg : g.le p) (hh : matB p n h = true) (w : World) : Calls Try.prog 72 #[.int .i64 p, .int .i64 n, .agg #[.int .u8 (g.r0.a.toNat : Int), .int .u8 (g.r0.b.toNat : Int), .int .u8 (g.r0.c.toNat : Int), .int .u8 (g.r1.a.toNat : Int), .int .u8 (g.r1.b.toNat : Int), .int .u8 (g.r1.c.toNat : Int), .int .u8 (g.r2.a.toNat : Int), .int .u8 (g.r2.b.toNat : Int), .int .u8 (g.r2.c.toNat : Int)], .agg #[.int .u8 (h.r0.a.toNat : Int), .int .u8 (h.r0.b.toNat : Int), .int .u8 (h.r0.c.toNat : Int), .int .u8 (h.r1.a.toNat : Int), .int .u8 (h.r1.b.toNat : Int), .int .u8 (h.r1.c.toNat : Int), .int .u8 (h.r2.a.toNat : Int), .int .u8 (h.r2.b.toNat : Int), .int .u8 (h.r2.c.toNat : Int)]] w (Gives (.agg #[.int .u8 ((timesM p n.toNat g h).r0.a.toNat : Int), .int .u8 ((timesM p n.toNat g h).r0.b.toNat : Int), .int .u8 ((timesM p n.toNat g h).r0.c.toNat : Int), .int .u8 ((timesM p n.toNat g h).r1.a.toNat : Int), .int .u8 ((timesM p n.toNat g h).r1.b.toNat : Int), .int .u8 ((timesM p n.toNat g h).r1.c.toNat : Int), .int .u8 ((timesM p n.toNat g h).r2.a.toNat : Int), .int .u8 ((timesM p n.toNat g h).r2.b.toNat : Int), .int .u8 ((timesM p n.toNat g h).r2.c.toNat : Int)]) w) := by
  obtain ⟨k1, h2, h3, h4, h5⟩ := matB_le hh
  have := l02Times_c p n.toNat g h w h2 h3 (by omega) (by omega) hg k1
  rwa [Int.toNat_of_nonneg (by omega)] at this

set_option maxRecDepth 100000 in
set_option maxHeartbeats 2000000 in
theorem implOrder_c (p n : Int) (g : M9) (w : World) : Calls Try.prog 26 #[.int .i64 p, .int .i64 n, .agg #[.int .u8 (g.r0.a.toNat : Int), .int .u8 (g.r0.b.toNat : Int), .int .u8 (g.r0.c.toNat : Int), .int .u8 (g.r1.a.toNat : Int), .int .u8 (g.r1.b.toNat : Int), .int .u8 (g.r1.c.toNat : Int), .int .u8 (g.r2.a.toNat : Int), .int .u8 (g.r2.b.toNat : Int), .int .u8 (g.r2.c.toNat : Int)]] w (Gives (.tuple #[.int .i64 (ordR p n g).1, .int .i64 (ordR p n g).2]) w) := by
  have ha := fun W i c hi => areMatrices_1 p n g W i c hi
  cases hg : matB p n g with
  | false =>
    have e : ordR p n g = (0, 2) := by simp [ordR, hg]
    rw [e]
    rw [hg] at ha
    go_enter Try.func26, Try.ntmps26
    go_wp2_with ((go_at_call 71; (first | (with_reducible refine call_later2 (ha _ _ _ (by simp)) ?_) | (with_reducible refine call_later (ha _ _ _ (by simp)) ?_)); intro x1))
    exact bodyPost_ret (v := .tuple #[.int .i64 0, .int .i64 2]) (by simp [results, Try.results26, go_sem]) rfl (.mk rfl (by repeat (first | (with_reducible assumption) | (with_reducible exact Below.refl _ _) | ((with_reducible refine Below.alloc ?_ ?_ _); rotate_left; (focus (first | omega | (simp; done) | (simp; omega) | (simp [Later.le, Later.le_add, Later.lt, Later.lt_add]; done) | (simp [Later.le, Later.le_add, Later.lt, Later.lt_add]; omega)))) | (with_reducible refine Below.drew ?_) | (with_reducible refine pw_below_drewN ?_ _) | ((with_reducible refine Below.setCell ?_ ?_ _); rotate_left; (focus (first | omega | (simp; done) | (simp; omega) | (simp [Later.le, Later.le_add, Later.lt, Later.lt_add]; done) | (simp [Later.le, Later.le_add, Later.lt, Later.lt_add]; omega)))) | ((with_reducible refine below_hop (by assumption) ?_ ?_); rotate_left; (focus (first | omega | (simp; done) | (simp; omega) | (simp [Later.le, Later.le_add, Later.lt, Later.lt_add]; done) | (simp [Later.le, Later.le_add, Later.lt, Later.lt_add]; omega)))) | ((with_reducible refine bel_later _ ?_ ?_); rotate_left; (focus (first | omega | (simp; done) | (simp; omega) | (simp [Later.le, Later.le_add, Later.lt, Later.lt_add]; done) | (simp [Later.le, Later.le_add, Later.lt, Later.lt_add]; omega)))))))
  | true =>
    obtain ⟨k1, h2, h3, h4, h5⟩ := matB_le hg
    rw [hg] at ha
    go_enter Try.func26, Try.ntmps26
    go_wp2_with ((go_at_call 71; (first | (with_reducible refine call_later2 (ha _ _ _ (by simp)) ?_) | (with_reducible refine call_later (ha _ _ _ (by simp)) ?_)); intro x1))
    have Ng : Nine (x1.W.alloc (.cells #[.int .u8 (g.r0.a.toNat : Int), .int .u8 (g.r0.b.toNat : Int), .int .u8 (g.r0.c.toNat : Int), .int .u8 (g.r1.a.toNat : Int), .int .u8 (g.r1.b.toNat : Int), .int .u8 (g.r1.c.toNat : Int), .int .u8 (g.r2.a.toNat : Int), .int .u8 (g.r2.b.toNat : Int), .int .u8 (g.r2.c.toNat : Int)] 25)) w.heap.size g := (((nine_alloc w g 25).keep (below_alloc (Below.refl _ _) _)).keep x1.ok).keep (below_alloc (Below.refl _ _) _)
    have Nn : Nine (x1.W.alloc (.cells #[.int .u8 (g.r0.a.toNat : Int), .int .u8 (g.r0.b.toNat : Int), .int .u8 (g.r0.c.toNat : Int), .int .u8 (g.r1.a.toNat : Int), .int .u8 (g.r1.b.toNat : Int), .int .u8 (g.r1.c.toNat : Int), .int .u8 (g.r2.a.toNat : Int), .int .u8 (g.r2.b.toNat : Int), .int .u8 (g.r2.c.toNat : Int)] 25)) x1.W.heap.size g := nine_alloc x1.W g 25
    have hob : w.heap.size < x1.W.heap.size := by have := x1.ok.size; simp at this; omega
    have hb1 : Below w.heap.size w (x1.W.alloc (.cells #[.int .u8 (g.r0.a.toNat : Int), .int .u8 (g.r0.b.toNat : Int), .int .u8 (g.r0.c.toNat : Int), .int .u8 (g.r1.a.toNat : Int), .int .u8 (g.r1.b.toNat : Int), .int .u8 (g.r1.c.toNat : Int), .int .u8 (g.r2.a.toNat : Int), .int .u8 (g.r2.b.toNat : Int), .int .u8 (g.r2.c.toNat : Int)] 25)) := (by repeat (first | (with_reducible assumption) | (with_reducible exact Below.refl _ _) | ((with_reducible refine Below.alloc ?_ ?_ _); rotate_left; (focus (first | omega | (simp; done) | (simp; omega) | (simp [Later.le, Later.le_add, Later.lt, Later.lt_add]; done) | (simp [Later.le, Later.le_add, Later.lt, Later.lt_add]; omega)))) | (with_reducible refine Below.drew ?_) | (with_reducible refine pw_below_drewN ?_ _) | ((with_reducible refine Below.setCell ?_ ?_ _); rotate_left; (focus (first | omega | (simp; done) | (simp; omega) | (simp [Later.le, Later.le_add, Later.lt, Later.lt_add]; done) | (simp [Later.le, Later.le_add, Later.lt, Later.lt_add]; omega)))) | ((with_reducible refine below_hop (by assumption) ?_ ?_); rotate_left; (focus (first | omega | (simp; done) | (simp; omega) | (simp [Later.le, Later.le_add, Later.lt, Later.lt_add]; done) | (simp [Later.le, Later.le_add, Later.lt, Later.lt_add]; omega)))) | ((with_reducible refine bel_later _ ?_ ?_); rotate_left; (focus (first | omega | (simp; done) | (simp; omega) | (simp [Later.le, Later.le_add, Later.lt, Later.lt_add]; done) | (simp [Later.le, Later.le_add, Later.lt, Later.lt_add]; omega))))))
    generalize x1.W.alloc (.cells #[.int .u8 (g.r0.a.toNat : Int), .int .u8 (g.r0.b.toNat : Int), .int .u8 (g.r0.c.toNat : Int), .int .u8 (g.r1.a.toNat : Int), .int .u8 (g.r1.b.toNat : Int), .int .u8 (g.r1.c.toNat : Int), .int .u8 (g.r2.a.toNat : Int), .int .u8 (g.r2.b.toNat : Int), .int .u8 (g.r2.c.toNat : Int)] 25) = W1 at *
    generalize x1.W.heap.size = ob at *
    go_loopg [9] 3000 (fun k v w' => ∃ (kk : Int) (now : M9) (y : Later w), v = .int .i64 kk ∧ kk + k = 3001 ∧ 1 ≤ kk ∧ w' = y.W ∧ now.le p ∧ Nine y.W ob now ∧ Nine y.W w.heap.size g ∧ ordL p n g k kk now = ordL p n g 3000 1 g)
    case atStart => exact ⟨1, g, ⟨W1, hb1⟩, rfl, by omega, by omega, rfl, k1, Nn, Ng, rfl⟩
    case round =>
      clear Ng Nn hb1
      obtain ⟨kk, now, y, rfl, hkk, hk1, rfl, hle, Nn, Ng, hord⟩ := hrel
      have hby := y.ok
      generalize y.W = Wy at *
      have NN := Lib.hid Nn
      have NG := Lib.hid Ng
      obtain ⟨n0, n1, n2, n3, n4, n5, n6, n7, n8, nf⟩ := Nn
      have zob := World.block_lt_of_cell? _ _ n0
      have HKK := Lib.hid hkk
      cases gk with
      | zero =>
        have e : ordR p n g = (0, 3) := by
          rw [ordR, if_pos hg, ← hord]
          rfl
        have hk3 : ¬ kk ≤ 3000 := by omega
        clear Ng
        go_wp2
        try rw [e]
        exact bodyPost_ret (v := .tuple #[.int .i64 0, .int .i64 3]) (by simp [results, Try.results26, go_sem]) rfl (.mk rfl (by repeat (first | (with_reducible assumption) | (with_reducible exact Below.refl _ _) | ((with_reducible refine Below.alloc ?_ ?_ _); rotate_left; (focus (first | omega | (simp; done) | (simp; omega) | (simp [Later.le, Later.le_add, Later.lt, Later.lt_add]; done) | (simp [Later.le, Later.le_add, Later.lt, Later.lt_add]; omega)))) | (with_reducible refine Below.drew ?_) | (with_reducible refine pw_below_drewN ?_ _) | ((with_reducible refine Below.setCell ?_ ?_ _); rotate_left; (focus (first | omega | (simp; done) | (simp; omega) | (simp [Later.le, Later.le_add, Later.lt, Later.lt_add]; done) | (simp [Later.le, Later.le_add, Later.lt, Later.lt_add]; omega)))) | ((with_reducible refine below_hop (by assumption) ?_ ?_); rotate_left; (focus (first | omega | (simp; done) | (simp; omega) | (simp [Later.le, Later.le_add, Later.lt, Later.lt_add]; done) | (simp [Later.le, Later.le_add, Later.lt, Later.lt_add]; omega)))) | ((with_reducible refine bel_later _ ?_ ?_); rotate_left; (focus (first | omega | (simp; done) | (simp; omega) | (simp [Later.le, Later.le_add, Later.lt, Later.lt_add]; done) | (simp [Later.le, Later.le_add, Later.lt, Later.lt_add]; omega)))))))
      | succ f =>
        have hk3 : kk ≤ 3000 := by omega
        clear hkk
        by_cases hu : now = unitM n
        · have e : ordR p n g = (kk, 0) := by
            rw [ordR, if_pos hg, ← hord, ordL, if_pos hu]
          subst hu
          clear Ng
          go_wp2
          (first | refine wp_region_later2 (by kernel_rfl) (by kernel_rfl) ?_ | refine wp_region_later (by kernel_rfl) (by kernel_rfl) ?_); (repeat (go_big_quiet_step ((go_at_call 76; with_reducible exact quiet_later (unit_c n _ h4 h5))))); refine wpQuiet_nil ?_; intro x2
          go_wp2
          try rw [e]
          have hx2 := x2.ok
          have hxs := x2.ok.size
          have hys := hby.size
          exact bodyPost_ret (v := .tuple #[.int .i64 kk, .int .i64 0]) (by simp [results, Try.results26, go_sem]) rfl (.mk rfl (by repeat (first | (with_reducible assumption) | (with_reducible exact Below.refl _ _) | ((with_reducible refine Below.alloc ?_ ?_ _); rotate_left; (focus (first | omega | (simp; done) | (simp; omega) | (simp [Later.le, Later.le_add, Later.lt, Later.lt_add]; done) | (simp [Later.le, Later.le_add, Later.lt, Later.lt_add]; omega)))) | (with_reducible refine Below.drew ?_) | (with_reducible refine pw_below_drewN ?_ _) | ((with_reducible refine Below.setCell ?_ ?_ _); rotate_left; (focus (first | omega | (simp; done) | (simp; omega) | (simp [Later.le, Later.le_add, Later.lt, Later.lt_add]; done) | (simp [Later.le, Later.le_add, Later.lt, Later.lt_add]; omega)))) | ((with_reducible refine below_hop (by assumption) ?_ ?_); rotate_left; (focus (first | omega | (simp; done) | (simp; omega) | (simp [Later.le, Later.le_add, Later.lt, Later.lt_add]; done) | (simp [Later.le, Later.le_add, Later.lt, Later.lt_add]; omega)))) | ((with_reducible refine bel_later _ ?_ ?_); rotate_left; (focus (first | omega | (simp; done) | (simp; omega) | (simp [Later.le, Later.le_add, Later.lt, Later.lt_add]; done) | (simp [Later.le, Later.le_add, Later.lt, Later.lt_add]; omega)))))))
        · have hub : (now == unitM n) = false := by rw [beq_eq_false_iff_ne]; exact hu
          rw [ordL, if_neg hu] at hord
          obtain ⟨g0, g1, g2, g3, g4, g5, g6, g7, g8, gf⟩ := Ng
          have zog := World.block_lt_of_cell? _ _ g0
          have htm := fun W => times_h hle hg W
          have HTM := Lib.hid (timesM_le (p := p) (n := n.toNat) (g := now) (h := g) h2 h3)
          generalize timesM p n.toNat now g = tm at *
          go_wp2
          (first | refine wp_region_later2 (by kernel_rfl) (by kernel_rfl) ?_ | refine wp_region_later (by kernel_rfl) (by kernel_rfl) ?_); (repeat (go_big_quiet_step ((go_at_call 76; with_reducible exact quiet_later (unit_c n _ h4 h5))))); refine wpQuiet_nil ?_; intro x2
          go_wp2_with ((go_at_call 73; (first | (with_reducible refine call_later2 (htm _) ?_) | (with_reducible refine call_later (htm _) ?_)); intro x3))
          go_roundg f
          case measure => exact Nat.lt_succ_self f
          case rel =>
            refine ⟨kk + 1, tm, ⟨put9 x3.W ob tm, below_put9 (hby.trans (x3.ok.mono hby.size)) (by omega) _⟩, by go_num, by have := HKK.out; omega, by omega, rfl, HTM.out, (NN.out.keep x3.ok).put tm, (NG.out.keep x3.ok).far (by omega) tm, hord⟩
end Go.Proofs.Ytafdakamibpjaaa
