/- The walk of the program's determinant; no condition. -/
import Derived.Test.YtafdakamibpjaaaMat
import Derived.Test.YtafdakamibpjaaaKitA
set_option linter.unusedVariables false
set_option linter.unusedSimpArgs false
namespace Go.Proofs.Ytafdakamibpjaaa
open Go.RowKit Go.Proofs.YtafdakamibpjaaaW.PrintWords
attribute [local go_sem] Later.cell Later.frozen Later.lt Later.lt_add Later.le Later.le_add Later.ne Later.ne' add_at

/-- Numbers modulo p in the nine places. -/
def M9.le (m : M9) (p : Int) : Prop := ((m.r0.a.toNat : Int) < p ∧ (m.r0.b.toNat : Int) < p ∧ (m.r0.c.toNat : Int) < p) ∧ ((m.r1.a.toNat : Int) < p ∧ (m.r1.b.toNat : Int) < p ∧ (m.r1.c.toNat : Int) < p) ∧ ((m.r2.a.toNat : Int) < p ∧ (m.r2.b.toNat : Int) < p ∧ (m.r2.c.toNat : Int) < p)
def detI (n : Int) (m : M9) : Int :=
  if n = 2 then (m.r0.a.toNat : Int) * m.r1.b.toNat - (m.r0.b.toNat : Int) * m.r1.a.toNat
  else if n = 3 then (m.r0.a.toNat : Int) * ((m.r1.b.toNat : Int) * m.r2.c.toNat - (m.r1.c.toNat : Int) * m.r2.b.toNat) - (m.r0.b.toNat : Int) * ((m.r1.a.toNat : Int) * m.r2.c.toNat - (m.r1.c.toNat : Int) * m.r2.a.toNat) + (m.r0.c.toNat : Int) * ((m.r1.a.toNat : Int) * m.r2.b.toNat - (m.r1.b.toNat : Int) * m.r2.a.toNat)
  else (m.r0.a.toNat : Int)
theorem mul_bd3 {x y : Int} (hx : 0 ≤ x) (hx' : x ≤ 12) (hy : 0 ≤ y) (hy' : y ≤ 12) : 0 ≤ x * y ∧ x * y ≤ 144 := by
  refine ⟨Int.mul_nonneg hx hy, ?_⟩
  have h1 := Int.mul_le_mul (a := x) (b := y) (c := 12) (d := 12) (by omega) (by omega) hy (by omega)
  omega
theorem mul_bd4 {x y : Int} (hx : 0 ≤ x) (hx' : x ≤ 12) (hy : -144 ≤ y) (hy' : y ≤ 144) : -1728 ≤ x * y ∧ x * y ≤ 1728 := by
  have h1 := Int.mul_le_mul (a := x) (b := y + 144) (c := 12) (d := 288) (by omega) (by omega) (by omega) (by omega)
  have h2 := Int.mul_nonneg hx (show 0 ≤ y + 144 by omega)
  have h3 := Int.mul_le_mul (a := x) (b := 144 - y) (c := 12) (d := 288) (by omega) (by omega) (by omega) (by omega)
  have h4 := Int.mul_nonneg hx (show 0 ≤ 144 - y by omega)
  rw [Int.mul_add] at h1 h2
  rw [Int.mul_sub] at h3 h4
  omega

theorem tmod_fix {x p : Int} (hp : 2 ≤ p) (hp' : p ≤ 13) : (wrap64 (x.tmod p + p)).tmod p = x % p := by
  have h1 : x.tmod p < p := Int.tmod_lt_of_pos _ (by omega)
  have h2 : -p < x.tmod p := by
    have := Int.tmod_lt_of_pos (-x) (show 0 < p by omega)
    rw [Int.neg_tmod] at this
    omega
  have h3 : wrap64 (x.tmod p + p) = x.tmod p + p := by unfold wrap64; omega
  rw [h3, Int.tmod_eq_emod_of_nonneg (by omega), Int.add_emod_right, Int.tmod_def, Int.sub_mul_emod_self_left]
theorem mod_fix {x p : Int} (hx : 0 ≤ x) (hp : 2 ≤ p) (hp' : p ≤ 13) : (wrap64 (x % p + p)).tmod p = x % p := by
  have h := tmod_fix (x := x) hp hp'
  rwa [Int.tmod_eq_emod_of_nonneg hx] at h

set_option maxRecDepth 100000 in
set_option maxHeartbeats 2000000 in
theorem determinant_c (p n : Int) (m : M9) (w : World) (hp : 2 ≤ p) (hp' : p ≤ 13) (hn1 : 1 ≤ n) (hn3 : n ≤ 3) (hm : m.le p) :
    Calls Try.prog 69 #[.int .i64 p, .int .i64 n, .agg #[.int .u8 (m.r0.a.toNat : Int), .int .u8 (m.r0.b.toNat : Int), .int .u8 (m.r0.c.toNat : Int), .int .u8 (m.r1.a.toNat : Int), .int .u8 (m.r1.b.toNat : Int), .int .u8 (m.r1.c.toNat : Int), .int .u8 (m.r2.a.toNat : Int), .int .u8 (m.r2.b.toNat : Int), .int .u8 (m.r2.c.toNat : Int)]] w (Gives (.int .i64 (detI n m % p)) w) := by
  obtain ⟨⟨ha, hb, hc⟩, ⟨hd, he, hf⟩, hg, hh, hi⟩ := hm
  have hn : n = 1 ∨ n = 2 ∨ n = 3 := by omega
  unfold detI
  have a0 : 0 ≤ (m.r0.a.toNat : Int) := by omega
  generalize (m.r0.a.toNat : Int) = a at *
  have b0 : 0 ≤ (m.r0.b.toNat : Int) := by omega
  generalize (m.r0.b.toNat : Int) = b at *
  have c0 : 0 ≤ (m.r0.c.toNat : Int) := by omega
  generalize (m.r0.c.toNat : Int) = c at *
  have d0 : 0 ≤ (m.r1.a.toNat : Int) := by omega
  generalize (m.r1.a.toNat : Int) = d at *
  have e0 : 0 ≤ (m.r1.b.toNat : Int) := by omega
  generalize (m.r1.b.toNat : Int) = e at *
  have f0 : 0 ≤ (m.r1.c.toNat : Int) := by omega
  generalize (m.r1.c.toNat : Int) = f at *
  have g0 : 0 ≤ (m.r2.a.toNat : Int) := by omega
  generalize (m.r2.a.toNat : Int) = g at *
  have h0 : 0 ≤ (m.r2.b.toNat : Int) := by omega
  generalize (m.r2.b.toNat : Int) = h at *
  have i0 : 0 ≤ (m.r2.c.toNat : Int) := by omega
  generalize (m.r2.c.toNat : Int) = i at *
  have hpz : p ≠ 0 := by omega
  rcases hn with rfl | rfl | rfl
  · go_enter Try.func69, Try.ntmps69
    go_wp2
    go_ret
    refine .mk ?_ (by repeat (first | (with_reducible assumption) | (with_reducible exact Below.refl _ _) | ((with_reducible refine Below.alloc ?_ ?_ _); rotate_left; (focus (first | omega | (simp; done) | (simp; omega) | (simp [Later.le, Later.le_add, Later.lt, Later.lt_add]; done) | (simp [Later.le, Later.le_add, Later.lt, Later.lt_add]; omega)))) | (with_reducible refine Below.drew ?_) | (with_reducible refine pw_below_drewN ?_ _) | ((with_reducible refine Below.setCell ?_ ?_ _); rotate_left; (focus (first | omega | (simp; done) | (simp; omega) | (simp [Later.le, Later.le_add, Later.lt, Later.lt_add]; done) | (simp [Later.le, Later.le_add, Later.lt, Later.lt_add]; omega)))) | ((with_reducible refine below_hop (by assumption) ?_ ?_); rotate_left; (focus (first | omega | (simp; done) | (simp; omega) | (simp [Later.le, Later.le_add, Later.lt, Later.lt_add]; done) | (simp [Later.le, Later.le_add, Later.lt, Later.lt_add]; omega)))) | ((with_reducible refine bel_later _ ?_ ?_); rotate_left; (focus (first | omega | (simp; done) | (simp; omega) | (simp [Later.le, Later.le_add, Later.lt, Later.lt_add]; done) | (simp [Later.le, Later.le_add, Later.lt, Later.lt_add]; omega))))))
    exact congrArg (Value.int .i64) (mod_fix a0 hp hp')
  · have m1 := mul_bd3 (x := a) (y := e) a0 (by omega) e0 (by omega)
    have m2 := mul_bd3 (x := b) (y := d) b0 (by omega) d0 (by omega)
    go_enter Try.func69, Try.ntmps69
    go_wp2
    go_ret
    refine .mk ?_ (by repeat (first | (with_reducible assumption) | (with_reducible exact Below.refl _ _) | ((with_reducible refine Below.alloc ?_ ?_ _); rotate_left; (focus (first | omega | (simp; done) | (simp; omega) | (simp [Later.le, Later.le_add, Later.lt, Later.lt_add]; done) | (simp [Later.le, Later.le_add, Later.lt, Later.lt_add]; omega)))) | (with_reducible refine Below.drew ?_) | (with_reducible refine pw_below_drewN ?_ _) | ((with_reducible refine Below.setCell ?_ ?_ _); rotate_left; (focus (first | omega | (simp; done) | (simp; omega) | (simp [Later.le, Later.le_add, Later.lt, Later.lt_add]; done) | (simp [Later.le, Later.le_add, Later.lt, Later.lt_add]; omega)))) | ((with_reducible refine below_hop (by assumption) ?_ ?_); rotate_left; (focus (first | omega | (simp; done) | (simp; omega) | (simp [Later.le, Later.le_add, Later.lt, Later.lt_add]; done) | (simp [Later.le, Later.le_add, Later.lt, Later.lt_add]; omega)))) | ((with_reducible refine bel_later _ ?_ ?_); rotate_left; (focus (first | omega | (simp; done) | (simp; omega) | (simp [Later.le, Later.le_add, Later.lt, Later.lt_add]; done) | (simp [Later.le, Later.le_add, Later.lt, Later.lt_add]; omega))))))
    exact congrArg (Value.int .i64) (tmod_fix hp hp')
  · have m1 := mul_bd3 (x := e) (y := i) e0 (by omega) i0 (by omega)
    have m2 := mul_bd3 (x := f) (y := h) f0 (by omega) h0 (by omega)
    have m3 := mul_bd3 (x := d) (y := i) d0 (by omega) i0 (by omega)
    have m4 := mul_bd3 (x := f) (y := g) f0 (by omega) g0 (by omega)
    have m5 := mul_bd3 (x := d) (y := h) d0 (by omega) h0 (by omega)
    have m6 := mul_bd3 (x := e) (y := g) e0 (by omega) g0 (by omega)
    have m7 := mul_bd4 (x := a) (y := e * i - f * h) a0 (by omega) (by omega) (by omega)
    have m8 := mul_bd4 (x := b) (y := d * i - f * g) b0 (by omega) (by omega) (by omega)
    have m9 := mul_bd4 (x := c) (y := d * h - e * g) c0 (by omega) (by omega) (by omega)
    go_enter Try.func69, Try.ntmps69
    go_wp2
    go_ret
    refine .mk ?_ (by repeat (first | (with_reducible assumption) | (with_reducible exact Below.refl _ _) | ((with_reducible refine Below.alloc ?_ ?_ _); rotate_left; (focus (first | omega | (simp; done) | (simp; omega) | (simp [Later.le, Later.le_add, Later.lt, Later.lt_add]; done) | (simp [Later.le, Later.le_add, Later.lt, Later.lt_add]; omega)))) | (with_reducible refine Below.drew ?_) | (with_reducible refine pw_below_drewN ?_ _) | ((with_reducible refine Below.setCell ?_ ?_ _); rotate_left; (focus (first | omega | (simp; done) | (simp; omega) | (simp [Later.le, Later.le_add, Later.lt, Later.lt_add]; done) | (simp [Later.le, Later.le_add, Later.lt, Later.lt_add]; omega)))) | ((with_reducible refine below_hop (by assumption) ?_ ?_); rotate_left; (focus (first | omega | (simp; done) | (simp; omega) | (simp [Later.le, Later.le_add, Later.lt, Later.lt_add]; done) | (simp [Later.le, Later.le_add, Later.lt, Later.lt_add]; omega)))) | ((with_reducible refine bel_later _ ?_ ?_); rotate_left; (focus (first | omega | (simp; done) | (simp; omega) | (simp [Later.le, Later.le_add, Later.lt, Later.lt_add]; done) | (simp [Later.le, Later.le_add, Later.lt, Later.lt_add]; omega))))))
    exact congrArg (Value.int .i64) (tmod_fix hp hp')
end Go.Proofs.Ytafdakamibpjaaa
