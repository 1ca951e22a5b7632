/- The walks of DeterminantOf of both sides; no condition. -/
import Derived.Test.YtafdakamibpjaaaAreM
import Derived.BigQuiet
set_option linter.unusedVariables false
set_option linter.unusedSimpArgs false
namespace Go.Proofs.Ytafdakamibpjaaa
open Go.RowKit Go.Proofs.YtafdakamibpjaaaW.PrintWords
attribute [local go_sem] Later.cell Later.frozen Later.lt Later.lt_add Later.le Later.le_add Later.ne Later.ne' add_at

theorem mod_g {p x : Int} (hp : 2 ≤ p) (hp' : p ≤ 13) (w : World) : Calls Try.prog 124 #[.int .i64 p, .int .i64 x] w (Gives (.int .i64 (x % p)) w) := by
  refine (PFnExactIsMatrix.spec_l01Mod.calls p x (x % p) w ?_).mono fun e w' ⟨h1, h2⟩ => ⟨h1, h2.below⟩
  unfold PFnExactIsMatrix.spec_l01Mod.f
  rw [if_neg (by omega)]
  exact congrArg some (tmod_fix hp hp')
theorem matB_of {p n : Int} {m : M9} (h : matB p n m = true) : primeB p = true ∧ inB n 1 3 = true ∧ (∀ i, i < 3 → ∀ j, j < 3 → cellB p n m i j = true) ∧ detZ n.toNat m.num % p ≠ 0 := by
  unfold matB at h
  simp only [Bool.and_eq_true] at h
  obtain ⟨⟨⟨h1, h2⟩, h3⟩, h4⟩ := h
  exact ⟨h1, h2, (cellsB_iff p n m).1 h3, of_decide_eq_true h4⟩
theorem matB_zero {p n : Int} {m : M9} (h : matB p n m = true) : ∀ (i j : Nat), i < 3 → j < 3 → (n ≤ i ∨ n ≤ j) → m.num i j = 0 := by
  intro i j hi hj hn
  have := (matB_of h).2.2.1 i hi j hj
  unfold cellB at this
  simp only [Bool.and_eq_true, Bool.or_eq_true, decide_eq_true_eq, beq_iff_eq] at this
  rcases this.2 with h1 | h1
  · omega
  · exact h1

theorem det3_sum (a b c d e f g h i : Int) : a * (e * i - f * h) + b * (f * g - d * i) + c * (d * h - e * g) = a * (e * i - f * h) - b * (d * i - f * g) + c * (d * h - e * g) := by grind
theorem det2_sum (a b d e : Int) : a * e + b * -d = a * e - b * d := by grind
set_option maxRecDepth 100000 in
set_option maxHeartbeats 4000000 in
theorem l02Det_c (p n : Int) (m : M9) (w : World) (h : matB p n m = true) : Calls Try.prog 70 #[.int .i64 p, .int .i64 n, .agg #[.int .u8 (m.r0.a.toNat : Int), .int .u8 (m.r0.b.toNat : Int), .int .u8 (m.r0.c.toNat : Int), .int .u8 (m.r1.a.toNat : Int), .int .u8 (m.r1.b.toNat : Int), .int .u8 (m.r1.c.toNat : Int), .int .u8 (m.r2.a.toNat : Int), .int .u8 (m.r2.b.toNat : Int), .int .u8 (m.r2.c.toNat : Int)]] w (Gives (.int .i64 (detI n m % p)) w) := by
  obtain ⟨h1, h2, h3, _⟩ := matB_of h
  have hz := matB_zero h
  obtain ⟨hp, hp'⟩ := (primeZ_of h1).two
  obtain ⟨hn1, hn3⟩ := inB_of h2
  obtain ⟨⟨ha, hb, hc⟩, ⟨hd, he, hf⟩, hg, hh, hi⟩ := cellsB_le h3
  have hmod := fun x W => mod_g (x := x) hp hp' W
  have hn : n = 1 ∨ n = 2 ∨ n = 3 := by omega
  unfold detI
  have zb : n ≤ 1 → (m.r0.b.toNat : Int) = 0 := fun h => hz 0 1 (by omega) (by omega) (.inr (by omega))
  have zc : n ≤ 2 → (m.r0.c.toNat : Int) = 0 := fun h => hz 0 2 (by omega) (by omega) (.inr (by omega))
  have zd : n ≤ 1 → (m.r1.a.toNat : Int) = 0 := fun h => hz 1 0 (by omega) (by omega) (.inl (by omega))
  have ze : n ≤ 1 → (m.r1.b.toNat : Int) = 0 := fun h => hz 1 1 (by omega) (by omega) (.inl (by omega))
  have zf : n ≤ 2 → (m.r1.c.toNat : Int) = 0 := fun h => hz 1 2 (by omega) (by omega) (.inr (by omega))
  have zg : n ≤ 2 → (m.r2.a.toNat : Int) = 0 := fun h => hz 2 0 (by omega) (by omega) (.inl (by omega))
  have zh : n ≤ 2 → (m.r2.b.toNat : Int) = 0 := fun h => hz 2 1 (by omega) (by omega) (.inl (by omega))
  have zi : n ≤ 2 → (m.r2.c.toNat : Int) = 0 := fun h => hz 2 2 (by omega) (by omega) (.inl (by omega))
  clear hz h h3
  have a0 : 0 ≤ (m.r0.a.toNat : Int) := by omega
  generalize (m.r0.a.toNat : Int) = a at *
  have b0 : 0 ≤ (m.r0.b.toNat : Int) := by omega
  generalize (m.r0.b.toNat : Int) = b at *
  have c0 : 0 ≤ (m.r0.c.toNat : Int) := by omega
  generalize (m.r0.c.toNat : Int) = c at *
  have d0 : 0 ≤ (m.r1.a.toNat : Int) := by omega
  generalize (m.r1.a.toNat : Int) = d at *
  have e0 : 0 ≤ (m.r1.b.toNat : Int) := by omega
  generalize (m.r1.b.toNat : Int) = e at *
  have f0 : 0 ≤ (m.r1.c.toNat : Int) := by omega
  generalize (m.r1.c.toNat : Int) = f at *
  have g0 : 0 ≤ (m.r2.a.toNat : Int) := by omega
  generalize (m.r2.a.toNat : Int) = g at *
  have h0 : 0 ≤ (m.r2.b.toNat : Int) := by omega
  generalize (m.r2.b.toNat : Int) = h at *
  have i0 : 0 ≤ (m.r2.c.toNat : Int) := by omega
  generalize (m.r2.c.toNat : Int) = i at *
  rcases hn with rfl | rfl | rfl
  · obtain rfl := zb (by omega)
    obtain rfl := zc (by omega)
    obtain rfl := zd (by omega)
    obtain rfl := ze (by omega)
    obtain rfl := zf (by omega)
    obtain rfl := zg (by omega)
    obtain rfl := zh (by omega)
    obtain rfl := zi (by omega)
    clear zb zc zd ze zf zg zh zi
    go_enter Try.func70, Try.ntmps70
    go_wp2
    refine wp_loop_rounds 4 ?_
    rw [rounds_succ]; go_wp2
    rw [rounds_succ]; go_wp2
    rw [rounds_succ]; go_wp2
    refine wp_loop_rounds 4 ?_
    rw [rounds_succ]; go_wp2; ((first | refine wp_region_later2 (by kernel_rfl) (by kernel_rfl) ?_ | refine wp_region_later (by kernel_rfl) (by kernel_rfl) ?_); (repeat (go_big_quiet_step (fail))); refine wpQuiet_nil ?_; intro x); go_wp2
    rw [rounds_succ]; go_wp2; ((first | refine wp_region_later2 (by kernel_rfl) (by kernel_rfl) ?_ | refine wp_region_later (by kernel_rfl) (by kernel_rfl) ?_); (repeat (go_big_quiet_step (fail))); refine wpQuiet_nil ?_; intro x); go_wp2
    rw [rounds_succ]; go_wp2; ((first | refine wp_region_later2 (by kernel_rfl) (by kernel_rfl) ?_ | refine wp_region_later (by kernel_rfl) (by kernel_rfl) ?_); (repeat (go_big_quiet_step (fail))); refine wpQuiet_nil ?_; intro x); go_wp2
    rw [rounds_succ]
    go_wp2_with ((go_at_call 124; (first | (with_reducible refine call_later2 (hmod _ _) ?_) | (with_reducible refine call_later (hmod _ _) ?_)); intro x9))
    exact bodyPost_ret (v := .int .i64 (a % p)) (by simp [results, Try.results70, go_sem]) rfl (.mk rfl (by repeat (first | (with_reducible assumption) | (with_reducible exact Below.refl _ _) | ((with_reducible refine Below.alloc ?_ ?_ _); rotate_left; (focus (first | omega | (simp; done) | (simp; omega) | (simp [Later.le, Later.le_add, Later.lt, Later.lt_add]; done) | (simp [Later.le, Later.le_add, Later.lt, Later.lt_add]; omega)))) | (with_reducible refine Below.drew ?_) | (with_reducible refine pw_below_drewN ?_ _) | ((with_reducible refine Below.setCell ?_ ?_ _); rotate_left; (focus (first | omega | (simp; done) | (simp; omega) | (simp [Later.le, Later.le_add, Later.lt, Later.lt_add]; done) | (simp [Later.le, Later.le_add, Later.lt, Later.lt_add]; omega)))) | ((with_reducible refine below_hop (by assumption) ?_ ?_); rotate_left; (focus (first | omega | (simp; done) | (simp; omega) | (simp [Later.le, Later.le_add, Later.lt, Later.lt_add]; done) | (simp [Later.le, Later.le_add, Later.lt, Later.lt_add]; omega)))) | ((with_reducible refine bel_later _ ?_ ?_); rotate_left; (focus (first | omega | (simp; done) | (simp; omega) | (simp [Later.le, Later.le_add, Later.lt, Later.lt_add]; done) | (simp [Later.le, Later.le_add, Later.lt, Later.lt_add]; omega)))))))
  · obtain rfl := zc (by omega)
    obtain rfl := zf (by omega)
    obtain rfl := zg (by omega)
    obtain rfl := zh (by omega)
    obtain rfl := zi (by omega)
    clear zb zc zd ze zf zg zh zi
    have m1 := mul_bd3 (x := a) (y := e) a0 (by omega) e0 (by omega)
    have m2 := mul_bd4 (x := b) (y := -d) b0 (by omega) (by omega) (by omega)
    go_enter Try.func70, Try.ntmps70
    go_wp2
    refine wp_loop_rounds 4 ?_
    rw [rounds_succ]; go_wp2
    rw [rounds_succ]; go_wp2
    refine wp_loop_rounds 4 ?_
    rw [rounds_succ]; go_wp2; ((first | refine wp_region_later2 (by kernel_rfl) (by kernel_rfl) ?_ | refine wp_region_later (by kernel_rfl) (by kernel_rfl) ?_); (repeat (go_big_quiet_step (fail))); refine wpQuiet_nil ?_; intro x); go_wp2
    rw [rounds_succ]; go_wp2; ((first | refine wp_region_later2 (by kernel_rfl) (by kernel_rfl) ?_ | refine wp_region_later (by kernel_rfl) (by kernel_rfl) ?_); (repeat (go_big_quiet_step (fail))); refine wpQuiet_nil ?_; intro x); go_wp2
    rw [rounds_succ]; go_wp2; ((first | refine wp_region_later2 (by kernel_rfl) (by kernel_rfl) ?_ | refine wp_region_later (by kernel_rfl) (by kernel_rfl) ?_); (repeat (go_big_quiet_step (fail))); refine wpQuiet_nil ?_; intro x); go_wp2
    rw [rounds_succ]
    go_wp2_with ((go_at_call 124; (first | (with_reducible refine call_later2 (hmod _ _) ?_) | (with_reducible refine call_later (hmod _ _) ?_)); intro x9))
    go_ret
    refine .mk ?_ (by repeat (first | (with_reducible assumption) | (with_reducible exact Below.refl _ _) | ((with_reducible refine Below.alloc ?_ ?_ _); rotate_left; (focus (first | omega | (simp; done) | (simp; omega) | (simp [Later.le, Later.le_add, Later.lt, Later.lt_add]; done) | (simp [Later.le, Later.le_add, Later.lt, Later.lt_add]; omega)))) | (with_reducible refine Below.drew ?_) | (with_reducible refine pw_below_drewN ?_ _) | ((with_reducible refine Below.setCell ?_ ?_ _); rotate_left; (focus (first | omega | (simp; done) | (simp; omega) | (simp [Later.le, Later.le_add, Later.lt, Later.lt_add]; done) | (simp [Later.le, Later.le_add, Later.lt, Later.lt_add]; omega)))) | ((with_reducible refine below_hop (by assumption) ?_ ?_); rotate_left; (focus (first | omega | (simp; done) | (simp; omega) | (simp [Later.le, Later.le_add, Later.lt, Later.lt_add]; done) | (simp [Later.le, Later.le_add, Later.lt, Later.lt_add]; omega)))) | ((with_reducible refine bel_later _ ?_ ?_); rotate_left; (focus (first | omega | (simp; done) | (simp; omega) | (simp [Later.le, Later.le_add, Later.lt, Later.lt_add]; done) | (simp [Later.le, Later.le_add, Later.lt, Later.lt_add]; omega))))))
    exact congrArg (fun z => Value.int .i64 (z % p)) (det2_sum _ _ _ _)
  · clear zb zc zd ze zf zg zh zi
    have m1 := mul_bd3 (x := e) (y := i) e0 (by omega) i0 (by omega)
    have m2 := mul_bd3 (x := f) (y := h) f0 (by omega) h0 (by omega)
    have m3 := mul_bd3 (x := d) (y := i) d0 (by omega) i0 (by omega)
    have m4 := mul_bd3 (x := f) (y := g) f0 (by omega) g0 (by omega)
    have m5 := mul_bd3 (x := d) (y := h) d0 (by omega) h0 (by omega)
    have m6 := mul_bd3 (x := e) (y := g) e0 (by omega) g0 (by omega)
    have m7 := mul_bd4 (x := a) (y := e * i - f * h) a0 (by omega) (by omega) (by omega)
    have m8 := mul_bd4 (x := b) (y := f * g - d * i) b0 (by omega) (by omega) (by omega)
    have m9 := mul_bd4 (x := c) (y := d * h - e * g) c0 (by omega) (by omega) (by omega)
    go_enter Try.func70, Try.ntmps70
    go_wp2
    refine wp_loop_rounds 4 ?_
    rw [rounds_succ]; go_wp2
    refine wp_loop_rounds 4 ?_
    rw [rounds_succ]; go_wp2; ((first | refine wp_region_later2 (by kernel_rfl) (by kernel_rfl) ?_ | refine wp_region_later (by kernel_rfl) (by kernel_rfl) ?_); (repeat (go_big_quiet_step (fail))); refine wpQuiet_nil ?_; intro x); go_wp2
    rw [rounds_succ]; go_wp2; ((first | refine wp_region_later2 (by kernel_rfl) (by kernel_rfl) ?_ | refine wp_region_later (by kernel_rfl) (by kernel_rfl) ?_); (repeat (go_big_quiet_step (fail))); refine wpQuiet_nil ?_; intro x); go_wp2
    rw [rounds_succ]; go_wp2; ((first | refine wp_region_later2 (by kernel_rfl) (by kernel_rfl) ?_ | refine wp_region_later (by kernel_rfl) (by kernel_rfl) ?_); (repeat (go_big_quiet_step (fail))); refine wpQuiet_nil ?_; intro x); go_wp2
    rw [rounds_succ]
    go_wp2_with ((go_at_call 124; (first | (with_reducible refine call_later2 (hmod _ _) ?_) | (with_reducible refine call_later (hmod _ _) ?_)); intro x9))
    go_ret
    refine .mk ?_ (by repeat (first | (with_reducible assumption) | (with_reducible exact Below.refl _ _) | ((with_reducible refine Below.alloc ?_ ?_ _); rotate_left; (focus (first | omega | (simp; done) | (simp; omega) | (simp [Later.le, Later.le_add, Later.lt, Later.lt_add]; done) | (simp [Later.le, Later.le_add, Later.lt, Later.lt_add]; omega)))) | (with_reducible refine Below.drew ?_) | (with_reducible refine pw_below_drewN ?_ _) | ((with_reducible refine Below.setCell ?_ ?_ _); rotate_left; (focus (first | omega | (simp; done) | (simp; omega) | (simp [Later.le, Later.le_add, Later.lt, Later.lt_add]; done) | (simp [Later.le, Later.le_add, Later.lt, Later.lt_add]; omega)))) | ((with_reducible refine below_hop (by assumption) ?_ ?_); rotate_left; (focus (first | omega | (simp; done) | (simp; omega) | (simp [Later.le, Later.le_add, Later.lt, Later.lt_add]; done) | (simp [Later.le, Later.le_add, Later.lt, Later.lt_add]; omega)))) | ((with_reducible refine bel_later _ ?_ ?_); rotate_left; (focus (first | omega | (simp; done) | (simp; omega) | (simp [Later.le, Later.le_add, Later.lt, Later.lt_add]; done) | (simp [Later.le, Later.le_add, Later.lt, Later.lt_add]; omega))))))
    exact congrArg (fun z => Value.int .i64 (z % p)) (det3_sum _ _ _ _ _ _ _ _ _)

/-- What DeterminantOf answers. -/
def detR (p n : Int) (m : M9) : Int × Int := if matB p n m = true then (detI n m % p, 0) else (0, 2)
theorem determinant_g {p n : Int} {m : M9} (h : matB p n m = true) (w : World) : Calls Try.prog 69 #[.int .i64 p, .int .i64 n, .agg #[.int .u8 (m.r0.a.toNat : Int), .int .u8 (m.r0.b.toNat : Int), .int .u8 (m.r0.c.toNat : Int), .int .u8 (m.r1.a.toNat : Int), .int .u8 (m.r1.b.toNat : Int), .int .u8 (m.r1.c.toNat : Int), .int .u8 (m.r2.a.toNat : Int), .int .u8 (m.r2.b.toNat : Int), .int .u8 (m.r2.c.toNat : Int)]] w (Gives (.int .i64 (detI n m % p)) w) := by
  obtain ⟨h1, h2, h3, _⟩ := matB_of h
  obtain ⟨hp, hp'⟩ := (primeZ_of h1).two
  obtain ⟨hn1, hn3⟩ := inB_of h2
  exact determinant_c p n m w hp hp' hn1 hn3 (cellsB_le h3)
theorem areB_one (p n : Int) (m : M9) : areB p n [m] = matB p n m := by
  unfold areB
  cases hm : matB p n m with
  | false => simp [hm]
  | true =>
    obtain ⟨h1, h2, _⟩ := matB_of hm
    simp [hm, h1, h2]
theorem kM_one (W : World) (m : M9) (t : TypeId) (i : Nat) (hi : i = W.heap.size) : kM.C (W.alloc (.cells #[.int .u8 (m.r0.a.toNat : Int), .int .u8 (m.r0.b.toNat : Int), .int .u8 (m.r0.c.toNat : Int), .int .u8 (m.r1.a.toNat : Int), .int .u8 (m.r1.b.toNat : Int), .int .u8 (m.r1.c.toNat : Int), .int .u8 (m.r2.a.toNat : Int), .int .u8 (m.r2.b.toNat : Int), .int .u8 (m.r2.c.toNat : Int)] t)) (some ⟨i, 0, none⟩) ([m] : List M9).length [m] := by
  subst hi
  refine ⟨rfl, by simp, fun _ => ⟨_, rfl, fun j p hp => ?_⟩⟩
  match j, hp with
  | 0, hp =>
    obtain rfl : m = p := by simpa using hp
    refine ⟨M9.cs m, rfl, rfl, fun k u hu => ?_⟩
    simp only [add_at]
    rw [blk_cell (heap_alloc_last W _)]
    simpa [M9.cs, E3.cs] using hu
  | j + 1, hp => simp at hp
theorem areMatrices_1 (p n : Int) (m : M9) (W : World) (i c : Nat) (hi : i = W.heap.size) : Calls Try.prog 71 #[.int .i64 p, .int .i64 n, .slice (some ⟨i, 0, none⟩) 1 c] (W.alloc (.cells #[.int .u8 (m.r0.a.toNat : Int), .int .u8 (m.r0.b.toNat : Int), .int .u8 (m.r0.c.toNat : Int), .int .u8 (m.r1.a.toNat : Int), .int .u8 (m.r1.b.toNat : Int), .int .u8 (m.r1.c.toNat : Int), .int .u8 (m.r2.a.toNat : Int), .int .u8 (m.r2.b.toNat : Int), .int .u8 (m.r2.c.toNat : Int)] 25)) (Gives (.bool (matB p n m)) (W.alloc (.cells #[.int .u8 (m.r0.a.toNat : Int), .int .u8 (m.r0.b.toNat : Int), .int .u8 (m.r0.c.toNat : Int), .int .u8 (m.r1.a.toNat : Int), .int .u8 (m.r1.b.toNat : Int), .int .u8 (m.r1.c.toNat : Int), .int .u8 (m.r2.a.toNat : Int), .int .u8 (m.r2.b.toNat : Int), .int .u8 (m.r2.c.toNat : Int)] 25))) := by
  have h := areMatrices_c p n (some ⟨i, 0, none⟩) c [m] _ (kM_one W m 25 i hi) (by simp)
  rwa [areB_one] at h

set_option maxRecDepth 100000 in
set_option maxHeartbeats 1000000 in
theorem specDeterminantOf_c (p n : Int) (m : M9) (w : World) : Calls Try.prog 20 #[.int .i64 p, .int .i64 n, .agg #[.int .u8 (m.r0.a.toNat : Int), .int .u8 (m.r0.b.toNat : Int), .int .u8 (m.r0.c.toNat : Int), .int .u8 (m.r1.a.toNat : Int), .int .u8 (m.r1.b.toNat : Int), .int .u8 (m.r1.c.toNat : Int), .int .u8 (m.r2.a.toNat : Int), .int .u8 (m.r2.b.toNat : Int), .int .u8 (m.r2.c.toNat : Int)]] w (Gives (.tuple #[.int .i64 (detR p n m).1, .int .i64 (detR p n m).2]) w) := by
  cases hm : matB p n m with
  | false =>
    have e : detR p n m = (0, 2) := by simp [detR, hm]
    rw [e]
    go_enter Try.func20, Try.ntmps20
    go_wp2_with ((go_at_call 65; (first | (with_reducible refine call_later2 (hm ▸ l02Matrix_c p n m _) ?_) | (with_reducible refine call_later (hm ▸ l02Matrix_c p n m _) ?_)); intro x1))
    exact bodyPost_ret (v := .tuple #[.int .i64 0, .int .i64 2]) (by simp [results, Try.results20, go_sem]) rfl (.mk rfl (by repeat (first | (with_reducible assumption) | (with_reducible exact Below.refl _ _) | ((with_reducible refine Below.alloc ?_ ?_ _); rotate_left; (focus (first | omega | (simp; done) | (simp; omega) | (simp [Later.le, Later.le_add, Later.lt, Later.lt_add]; done) | (simp [Later.le, Later.le_add, Later.lt, Later.lt_add]; omega)))) | (with_reducible refine Below.drew ?_) | (with_reducible refine pw_below_drewN ?_ _) | ((with_reducible refine Below.setCell ?_ ?_ _); rotate_left; (focus (first | omega | (simp; done) | (simp; omega) | (simp [Later.le, Later.le_add, Later.lt, Later.lt_add]; done) | (simp [Later.le, Later.le_add, Later.lt, Later.lt_add]; omega)))) | ((with_reducible refine below_hop (by assumption) ?_ ?_); rotate_left; (focus (first | omega | (simp; done) | (simp; omega) | (simp [Later.le, Later.le_add, Later.lt, Later.lt_add]; done) | (simp [Later.le, Later.le_add, Later.lt, Later.lt_add]; omega)))) | ((with_reducible refine bel_later _ ?_ ?_); rotate_left; (focus (first | omega | (simp; done) | (simp; omega) | (simp [Later.le, Later.le_add, Later.lt, Later.lt_add]; done) | (simp [Later.le, Later.le_add, Later.lt, Later.lt_add]; omega)))))))
  | true =>
    have e : detR p n m = (detI n m % p, 0) := by simp [detR, hm]
    rw [e]
    have hd := fun W => l02Det_c p n m W hm
    generalize detI n m % p = dd at *
    go_enter Try.func20, Try.ntmps20
    go_wp2_with (first | (go_at_call 65; (first | (with_reducible refine call_later2 (hm ▸ l02Matrix_c p n m _) ?_) | (with_reducible refine call_later (hm ▸ l02Matrix_c p n m _) ?_)); intro x1) | (go_at_call 70; (first | (with_reducible refine call_later2 (hd _) ?_) | (with_reducible refine call_later (hd _) ?_)); intro x2))
    exact bodyPost_ret (v := .tuple #[.int .i64 dd, .int .i64 0]) (by simp [results, Try.results20, go_sem]) rfl (.mk rfl (by repeat (first | (with_reducible assumption) | (with_reducible exact Below.refl _ _) | ((with_reducible refine Below.alloc ?_ ?_ _); rotate_left; (focus (first | omega | (simp; done) | (simp; omega) | (simp [Later.le, Later.le_add, Later.lt, Later.lt_add]; done) | (simp [Later.le, Later.le_add, Later.lt, Later.lt_add]; omega)))) | (with_reducible refine Below.drew ?_) | (with_reducible refine pw_below_drewN ?_ _) | ((with_reducible refine Below.setCell ?_ ?_ _); rotate_left; (focus (first | omega | (simp; done) | (simp; omega) | (simp [Later.le, Later.le_add, Later.lt, Later.lt_add]; done) | (simp [Later.le, Later.le_add, Later.lt, Later.lt_add]; omega)))) | ((with_reducible refine below_hop (by assumption) ?_ ?_); rotate_left; (focus (first | omega | (simp; done) | (simp; omega) | (simp [Later.le, Later.le_add, Later.lt, Later.lt_add]; done) | (simp [Later.le, Later.le_add, Later.lt, Later.lt_add]; omega)))) | ((with_reducible refine bel_later _ ?_ ?_); rotate_left; (focus (first | omega | (simp; done) | (simp; omega) | (simp [Later.le, Later.le_add, Later.lt, Later.lt_add]; done) | (simp [Later.le, Later.le_add, Later.lt, Later.lt_add]; omega)))))))
set_option maxRecDepth 100000 in
set_option maxHeartbeats 1000000 in
theorem implDeterminantOf_c (p n : Int) (m : M9) (w : World) : Calls Try.prog 21 #[.int .i64 p, .int .i64 n, .agg #[.int .u8 (m.r0.a.toNat : Int), .int .u8 (m.r0.b.toNat : Int), .int .u8 (m.r0.c.toNat : Int), .int .u8 (m.r1.a.toNat : Int), .int .u8 (m.r1.b.toNat : Int), .int .u8 (m.r1.c.toNat : Int), .int .u8 (m.r2.a.toNat : Int), .int .u8 (m.r2.b.toNat : Int), .int .u8 (m.r2.c.toNat : Int)]] w (Gives (.tuple #[.int .i64 (detR p n m).1, .int .i64 (detR p n m).2]) w) := by
  cases hm : matB p n m with
  | false =>
    have e : detR p n m = (0, 2) := by simp [detR, hm]
    rw [e]
    have ha := fun W i c hi => hm ▸ areMatrices_1 p n m W i c hi
    go_enter Try.func21, Try.ntmps21
    go_wp2_with ((go_at_call 71; (first | (with_reducible refine call_later2 (ha _ _ _ (by simp)) ?_) | (with_reducible refine call_later (ha _ _ _ (by simp)) ?_)); intro x1))
    exact bodyPost_ret (v := .tuple #[.int .i64 0, .int .i64 2]) (by simp [results, Try.results21, go_sem]) rfl (.mk rfl (by repeat (first | (with_reducible assumption) | (with_reducible exact Below.refl _ _) | ((with_reducible refine Below.alloc ?_ ?_ _); rotate_left; (focus (first | omega | (simp; done) | (simp; omega) | (simp [Later.le, Later.le_add, Later.lt, Later.lt_add]; done) | (simp [Later.le, Later.le_add, Later.lt, Later.lt_add]; omega)))) | (with_reducible refine Below.drew ?_) | (with_reducible refine pw_below_drewN ?_ _) | ((with_reducible refine Below.setCell ?_ ?_ _); rotate_left; (focus (first | omega | (simp; done) | (simp; omega) | (simp [Later.le, Later.le_add, Later.lt, Later.lt_add]; done) | (simp [Later.le, Later.le_add, Later.lt, Later.lt_add]; omega)))) | ((with_reducible refine below_hop (by assumption) ?_ ?_); rotate_left; (focus (first | omega | (simp; done) | (simp; omega) | (simp [Later.le, Later.le_add, Later.lt, Later.lt_add]; done) | (simp [Later.le, Later.le_add, Later.lt, Later.lt_add]; omega)))) | ((with_reducible refine bel_later _ ?_ ?_); rotate_left; (focus (first | omega | (simp; done) | (simp; omega) | (simp [Later.le, Later.le_add, Later.lt, Later.lt_add]; done) | (simp [Later.le, Later.le_add, Later.lt, Later.lt_add]; omega)))))))
  | true =>
    have e : detR p n m = (detI n m % p, 0) := by simp [detR, hm]
    rw [e]
    have ha := fun W i c hi => hm ▸ areMatrices_1 p n m W i c hi
    have hd := fun W => determinant_g hm W
    generalize detI n m % p = dd at *
    go_enter Try.func21, Try.ntmps21
    go_wp2_with (first | (go_at_call 71; (first | (with_reducible refine call_later2 (ha _ _ _ (by simp)) ?_) | (with_reducible refine call_later (ha _ _ _ (by simp)) ?_)); intro x1) | (go_at_call 69; (first | (with_reducible refine call_later2 (hd _) ?_) | (with_reducible refine call_later (hd _) ?_)); intro x2))
    exact bodyPost_ret (v := .tuple #[.int .i64 dd, .int .i64 0]) (by simp [results, Try.results21, go_sem]) rfl (.mk rfl (by repeat (first | (with_reducible assumption) | (with_reducible exact Below.refl _ _) | ((with_reducible refine Below.alloc ?_ ?_ _); rotate_left; (focus (first | omega | (simp; done) | (simp; omega) | (simp [Later.le, Later.le_add, Later.lt, Later.lt_add]; done) | (simp [Later.le, Later.le_add, Later.lt, Later.lt_add]; omega)))) | (with_reducible refine Below.drew ?_) | (with_reducible refine pw_below_drewN ?_ _) | ((with_reducible refine Below.setCell ?_ ?_ _); rotate_left; (focus (first | omega | (simp; done) | (simp; omega) | (simp [Later.le, Later.le_add, Later.lt, Later.lt_add]; done) | (simp [Later.le, Later.le_add, Later.lt, Later.lt_add]; omega)))) | ((with_reducible refine below_hop (by assumption) ?_ ?_); rotate_left; (focus (first | omega | (simp; done) | (simp; omega) | (simp [Later.le, Later.le_add, Later.lt, Later.lt_add]; done) | (simp [Later.le, Later.le_add, Later.lt, Later.lt_add]; omega)))) | ((with_reducible refine bel_later _ ?_ ?_); rotate_left; (focus (first | omega | (simp; done) | (simp; omega) | (simp [Later.le, Later.le_add, Later.lt, Later.lt_add]; done) | (simp [Later.le, Later.le_add, Later.lt, Later.lt_add]; omega)))))))
end Go.Proofs.Ytafdakamibpjaaa
