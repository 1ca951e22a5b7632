/- PLAIN LAW: the algebra of matrices modulo a prime: products, determinants, inverses; no condition. -/
import Derived.Test.YtimjhehagimcaaaYE1
import Derived.Test.YtimjhehagimcaaaYGenL
set_option linter.unusedVariables false
namespace Go.Proofs.Ytimjhehagimcaaa
/-! ### sums -/
theorem qsum_cong {p : Int} {F G : Nat → Int} : ∀ n, (∀ k, k < n → F k % p = G k % p) → sumZ F n % p = sumZ G n % p
  | 0, _ => rfl
  | n + 1, h => by
    show (sumZ F n + F n) % p = (sumZ G n + G n) % p
    rw [Int.add_emod, qsum_cong n (fun k hk => h k (by omega)), h n (by omega), ← Int.add_emod]
theorem emod_mulL (x c p : Int) : x % p * c % p = x * c % p := by rw [Int.mul_emod, Int.emod_emod, ← Int.mul_emod]
theorem emod_mulR (x c p : Int) : c * (x % p) % p = c * x % p := by rw [Int.mul_emod, Int.emod_emod, ← Int.mul_emod]
/-! ### the cells -/
theorem lt3q {i : Nat} (h : i < 3) : i = 0 ∨ i = 1 ∨ i = 2 := by omega
theorem mkM_num (f : Nat → Nat → UInt8) {i j : Nat} (hi : i < 3) (hj : j < 3) : (mkM f).num i j = ((f i j).toNat : Int) := by
  rcases lt3q hi with rfl | rfl | rfl <;> rcases lt3q hj with rfl | rfl | rfl <;> rfl
theorem M9_ext {g h : M9} (hh : ∀ i j, i < 3 → j < 3 → g.num i j = h.num i j) : g = h := by
  obtain ⟨⟨a, b, c⟩, ⟨d, e, f⟩, ⟨x, y, z⟩⟩ := g
  obtain ⟨⟨a', b', c'⟩, ⟨d', e', f'⟩, ⟨x', y', z'⟩⟩ := h
  have k : ∀ i j, i < 3 → j < 3 → _ := hh
  have h00 := u8_int (k 0 0 (by omega) (by omega))
  have h01 := u8_int (k 0 1 (by omega) (by omega))
  have h02 := u8_int (k 0 2 (by omega) (by omega))
  have h10 := u8_int (k 1 0 (by omega) (by omega))
  have h11 := u8_int (k 1 1 (by omega) (by omega))
  have h12 := u8_int (k 1 2 (by omega) (by omega))
  have h20 := u8_int (k 2 0 (by omega) (by omega))
  have h21 := u8_int (k 2 1 (by omega) (by omega))
  have h22 := u8_int (k 2 2 (by omega) (by omega))
  simp only [M9.at, M9.row, E3.at] at h00 h01 h02 h10 h11 h12 h20 h21 h22
  simp at h00 h01 h02 h10 h11 h12 h20 h21 h22
  rw [h00, h01, h02, h10, h11, h12, h20, h21, h22]
theorem sumT_Z (g h : M9) (i j : Nat) : ∀ n, sumT g h i j n = sumZ (fun k => g.num i k * h.num k j) n
  | 0 => rfl
  | n + 1 => by show sumT g h i j n + _ = sumZ _ n + _; rw [sumT_Z g h i j n]; rfl
theorem num_times {p : Int} (hp : 2 ≤ p) (hp' : p ≤ 13) (n : Nat) (g h : M9) {i j : Nat} (hi : i < 3) (hj : j < 3) : (timesM p n g h).num i j = if i < n ∧ j < n then sumZ (fun k => g.num i k * h.num k j) n % p else 0 := by
  unfold timesM
  rw [mkM_num _ hi hj, ← sumT_Z]
  split
  · rw [uB_nat]
    have h1 := Int.emod_nonneg (sumT g h i j n) (show p ≠ 0 by omega)
    have h2 := Int.emod_lt_of_pos (sumT g h i j n) (show 0 < p by omega)
    omega
  · rfl
theorem unit_num {n : Int} {i j : Nat} (hi : i < 3) (hj : j < 3) : (unitM n).num i j = if i = j ∧ (i : Int) < n then 1 else 0 := by
  rcases lt3q hi with rfl | rfl | rfl <;> rcases lt3q hj with rfl | rfl | rfl <;> simp [unitM, M9.num, M9.at, M9.row, E3.at] <;> split <;> rfl
/-! ### determinants -/
theorem cg_mul {p a b c d : Int} (h : a % p = b % p) (k : c % p = d % p) : a * c % p = b * d % p := by rw [Int.mul_emod, h, k, ← Int.mul_emod]
theorem cg_add {p a b c d : Int} (h : a % p = b % p) (k : c % p = d % p) : (a + c) % p = (b + d) % p := by rw [Int.add_emod, h, k, ← Int.add_emod]
theorem cg_sub {p a b c d : Int} (h : a % p = b % p) (k : c % p = d % p) : (a - c) % p = (b - d) % p := by rw [Int.sub_emod, h, k, ← Int.sub_emod]
theorem detZ_cong {p : Int} {n : Nat} (hn : n = 1 ∨ n = 2 ∨ n = 3) {A B : Nat → Nat → Int} (h : ∀ i j, i < n → j < n → A i j % p = B i j % p) : detZ n A % p = detZ n B % p := by
  rcases hn with rfl | rfl | rfl
  · exact h 0 0 (by omega) (by omega)
  · exact cg_sub (cg_mul (h 0 0 (by omega) (by omega)) (h 1 1 (by omega) (by omega))) (cg_mul (h 0 1 (by omega) (by omega)) (h 1 0 (by omega) (by omega)))
  · exact cg_add (cg_sub (cg_mul (h 0 0 (by omega) (by omega)) (cg_sub (cg_mul (h 1 1 (by omega) (by omega)) (h 2 2 (by omega) (by omega))) (cg_mul (h 1 2 (by omega) (by omega)) (h 2 1 (by omega) (by omega)))))
      (cg_mul (h 0 1 (by omega) (by omega)) (cg_sub (cg_mul (h 1 0 (by omega) (by omega)) (h 2 2 (by omega) (by omega))) (cg_mul (h 1 2 (by omega) (by omega)) (h 2 0 (by omega) (by omega))))))
      (cg_mul (h 0 2 (by omega) (by omega)) (cg_sub (cg_mul (h 1 0 (by omega) (by omega)) (h 2 1 (by omega) (by omega))) (cg_mul (h 1 1 (by omega) (by omega)) (h 2 0 (by omega) (by omega)))))
theorem detZ_unit {n : Int} (h1 : 1 ≤ n) (h3 : n ≤ 3) : detZ n.toNat (unitM n).num = 1 := by
  have hn : n = 1 ∨ n = 2 ∨ n = 3 := by omega
  rcases hn with rfl | rfl | rfl <;> decide
theorem nat3 {n : Int} (h1 : 1 ≤ n) (h3 : n ≤ 3) : n.toNat = 1 ∨ n.toNat = 2 ∨ n.toNat = 3 := by omega
theorem matB_mk {p n : Int} {m : M9} (h1 : primeB p = true) (h2 : inB n 1 3 = true) (h3 : ∀ i j, i < 3 → j < 3 → m.num i j < p ∧ ((n.toNat ≤ i ∨ n.toNat ≤ j) → m.num i j = 0)) (h4 : detZ n.toNat m.num % p ≠ 0) : matB p n m = true := by
  unfold matB
  rw [h1, h2]
  have h5 : cellsB p n m = true := (cellsB_iff p n m).2 fun i hi j hj => by
    obtain ⟨k1, k2⟩ := h3 i j hi hj
    unfold cellB
    rw [decide_eq_true k1, Bool.true_and]
    by_cases e : (i : Int) < n ∧ (j : Int) < n
    · simp [e.1, e.2]
    · rw [k2 (by omega)]
      simp
  rw [h5, decide_eq_true h4]
  rfl
/-! ### inverses -/
theorem unit_mat {p n : Int} (h1 : primeB p = true) (h2 : inB n 1 3 = true) : matB p n (unitM n) = true := by
  have h4 := inB_of h2
  have hp := (primeZ_of h1).two
  refine matB_mk h1 h2 (fun i j hi hj => ?_) ?_
  · rw [unit_num hi hj]
    split
    · exact ⟨by omega, fun hk => by omega⟩
    · exact ⟨by omega, fun _ => rfl⟩
  · rw [detZ_unit h4.1 h4.2, Int.emod_eq_of_lt (by decide) (by omega)]
    decide
end Go.Proofs.Ytimjhehagimcaaa
