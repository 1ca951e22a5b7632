/- The linear forms of a matrix: what its rows and columns put in for the letters; no condition. -/
import Derived.Test.YtjhkeehfchkpaaaGreatYSub1
import Derived.Test.YtjhkeehfchkpaaaGreatYKitM
set_option linter.unusedVariables false
set_option linter.unusedSimpArgs false
namespace Go.Proofs.YtjhkeehfchkpaaaGreat
open Go.RowKit Go.Proofs.YtjhkeehfchkpaaaGreatW.PrintWords
attribute [local go_sem] Later.cell Later.frozen Later.lt Later.lt_add Later.le Later.le_add Later.ne Later.ne' add_at
def unitE (i : Nat) : E3 := if i = 0 then ⟨1, 0, 0⟩ else if i = 1 then ⟨0, 1, 0⟩ else ⟨0, 0, 1⟩
def linP (m : M9) (j k : Nat) : List (E3 × Int) := (List.range k).map fun i => (unitE i, ((m.at i j).toNat : Int))
theorem linP_len (m : M9) (j k : Nat) : (linP m j k).length = k := by simp [linP]
theorem linP_step (m : M9) (j k : Nat) : linP m j (k + 1) = linP m j k ++ [(unitE k, ((m.at k j).toNat : Int))] := by simp [linP, List.range_succ]
theorem linP_new (m : M9) (j : Nat) {k : Nat} (hk : k < 3) : sumAt (linP m j k) (unitE k) = 0 := by
  rcases lt3 hk with rfl | rfl | rfl <;> simp [linP, List.range_succ, sumAt, unitE]
theorem lin_upd (m : M9) (j : Nat) {k : Nat} (hk : k < 3) : updF (fun e => sumAt (linP m j k) e) (unitE k) ((m.at k j).toNat : Int) = fun e => sumAt (linP m j (k + 1)) e := by
  funext x
  rw [linP_step, sumAt_snoc]
  unfold updF
  by_cases h : x = unitE k
  · rw [if_pos h, h, linP_new m j hk, if_pos rfl, Int.zero_add]
  · rw [if_neg h, if_neg (fun g : unitE k = x => h g.symm), Int.add_zero]
def formL (p : Int) (m : M9) (j n : Nat) : List T4 := putsT p [] (linP m j n)
theorem formL_canon {p : Int} (hp : 2 ≤ p) (m : M9) (j n : Nat) : Canon p (formL p m j n) := putsT_canon hp _ (canon_nil p)
theorem formL_step (p : Int) (m : M9) (j k : Nat) : formL p m j (k + 1) = putT p (formL p m j k) (unitE k) ((m.at k j).toNat : Int) := by rw [formL, linP_step, putsT_snoc]; rfl
theorem formL_len (p : Int) (m : M9) (j n : Nat) : (formL p m j n).length ≤ n := by
  have h := putsT_len p (linP m j n) []
  rw [linP_len] at h
  simpa [formL] using h
theorem formL_coef {p : Int} (hp : 2 ≤ p) (m : M9) (j n : Nat) (e : E3) : coefL (formL p m j n) e = sumAt (linP m j n) e % p := by
  rw [formL, putsT_coef hp e _ (canon_nil p)]
  show (0 + _) % p = _
  rw [Int.zero_add]
theorem unitE_deg (i : Nat) : degE (unitE i) = 1 := by
  unfold unitE
  split
  · rfl
  · split <;> rfl
theorem formL_deg {p : Int} (m : M9) (j n : Nat) : degP (formL p m j n) ≤ 1 := by
  refine degP_le (by omega) fun t ht => ?_
  rcases putsT_mem _ ht with ⟨q, hq, e⟩ | h
  · obtain ⟨i, _, rfl⟩ := List.mem_map.1 hq
    rw [e]
    have := unitE_deg i
    show degE (unitE i) ≤ 1
    omega
  · cases h
def formsL (p : Int) (m : M9) (n : Nat) : List (List T4) := (List.range n).map fun j => formL p m j n
def formsV (p : Int) (D : Int) (m : M9) (n : Nat) : List PV := (List.range n).map fun j => ⟨p, D, formL p m j n⟩
theorem formsV_tss (p D : Int) (m : M9) (n : Nat) : tss (formsV p D m n) = formsL p m n := by simp [tss, formsV, formsL]
theorem formsL_len (p : Int) (m : M9) (n : Nat) : (formsL p m n).length = n := by simp [formsL]
theorem formsV_len (p D : Int) (m : M9) (n : Nat) : (formsV p D m n).length = n := by simp [formsV]
theorem formsV_get (p D : Int) (m : M9) {n j : Nat} (h : j < n) : (formsV p D m n).getD j zP = ⟨p, D, formL p m j n⟩ := by simp [formsV, List.getD_eq_getElem?_getD, h]
theorem formsL_canon {p : Int} (hp : 2 ≤ p) (m : M9) (n : Nat) : ∀ y ∈ formsL p m n, Canon p y := by
  intro y hy
  obtain ⟨j, _, rfl⟩ := List.mem_map.1 hy
  exact formL_canon hp m j n
def sumE (e : E3) : Nat → Int
  | 0 => 0
  | k + 1 => sumE e k + ((e.at k).toNat : Int)
theorem sumE_deg (e : E3) {n : Nat} (hn : n ≤ 3) : sumE e n ≤ degE e := by
  have h : n = 0 ∨ n = 1 ∨ n = 2 ∨ n = 3 := by omega
  rcases h with rfl | rfl | rfl | rfl <;> simp [sumE, E3.at, degE] <;> omega
theorem forms_bnd (p : Int) (m : M9) (n : Nat) (t : T4) : ∀ k, bndT (formsL p m n) t k ≤ sumE t.e k
  | 0 => Int.le_refl _
  | k + 1 => by
    have h1 := forms_bnd p m n t k
    have h2 : max (degP ((formsL p m n).getD k [])) 0 ≤ 1 := by
      by_cases hk : k < n
      · have e : (formsL p m n).getD k [] = formL p m k n := by simp [formsL, List.getD_eq_getElem?_getD, hk]
        rw [e]
        have := formL_deg (p := p) m k n
        omega
      · have e : (formsL p m n).getD k [] = [] := by simp [formsL, List.getD_eq_getElem?_getD, hk]
        rw [e]
        decide
    have h3 : ((t.e.at k).toNat : Int) * max (degP ((formsL p m n).getD k [])) 0 ≤ ((t.e.at k).toNat : Int) * 1 := Int.mul_le_mul_of_nonneg_left h2 (by omega)
    show bndT (formsL p m n) t k + _ ≤ sumE t.e k + _
    omega
theorem forms_ok {p : Int} {m : M9} {n : Nat} (hn : n ≤ 3) {ts : List T4} (h : ∀ t ∈ ts, degE t.e ≤ 12) : bndB (formsL p m n) ts = true :=
  bndB_iff.2 fun t ht => by
    rw [formsL_len]
    have h1 := forms_bnd p m n t n
    have h2 := sumE_deg t.e hn
    have h3 := h t ht
    omega
/-- The polynomial to which a matrix leads another one. -/
def ledL (p : Int) (n : Nat) (m : M9) (ts : List T4) : List T4 := subL p (formsL p m n) ts
theorem ledL_canon {p : Int} (hp : 2 ≤ p) (n : Nat) (m : M9) (ts : List T4) : Canon p (ledL p n m ts) := subL_canon hp _ _
theorem ledL_deg {p : Int} (hp : 2 ≤ p) {n : Nat} (hn : n ≤ 3) (m : M9) {ts : List T4} (h : ∀ t ∈ ts, degE t.e ≤ 12) : ∀ u ∈ ledL p n m ts, degE u.e ≤ 12 :=
  subL_deg hp (formsL_canon hp m n) ts (bndB_iff.1 (forms_ok hn h))
/-- A matrix in a box. -/
theorem mat_box (w : World) (m : M9) (E : TypeId) : ∀ i j, i < 3 → j < 3 → (w.alloc (.cells #[.int .u8 (m.r0.a.toNat : Int), .int .u8 (m.r0.b.toNat : Int), .int .u8 (m.r0.c.toNat : Int), .int .u8 (m.r1.a.toNat : Int), .int .u8 (m.r1.b.toNat : Int), .int .u8 (m.r1.c.toNat : Int), .int .u8 (m.r2.a.toNat : Int), .int .u8 (m.r2.b.toNat : Int), .int .u8 (m.r2.c.toNat : Int)] E)).cell? ⟨w.heap.size, i * 3 + j, none⟩ = some (.int .u8 ((m.at i j).toNat : Int)) := by
  intro i j hi hj
  rcases lt3 hi with rfl | rfl | rfl <;> rcases lt3 hj with rfl | rfl | rfl <;> simp [M9.at, M9.row, E3.at]
/-- A monomial of one letter, in a box. -/
theorem unit_box (W : World) {i : Nat} (hi : i < 3) (E : TypeId) : ∃ U : World, ((W.alloc (.cells #[.int .u8 0, .int .u8 0, .int .u8 0] E)).setCell ⟨W.heap.size, i, none⟩ (.int .u8 1)) = U ∧ Below W.heap.size W U ∧
    U.cell? ⟨W.heap.size, 0, none⟩ = some (.int .u8 ((unitE i).a.toNat : Int)) ∧ U.cell? ⟨W.heap.size, 1, none⟩ = some (.int .u8 ((unitE i).b.toNat : Int)) ∧ U.cell? ⟨W.heap.size, 2, none⟩ = some (.int .u8 ((unitE i).c.toNat : Int)) ∧ U.heap.size = W.heap.size + 1 := by
  refine ⟨_, rfl, ((Below.refl _ W).alloc (Nat.le_refl _) _).setCell (Nat.le_refl _) _, ?_, ?_, ?_, by simp⟩
  all_goals rcases lt3 hi with rfl | rfl | rfl <;> first | (simp [unitE]; done) | (simp [unitE, go_sem]; done) | (simp [unitE]; go_simp)
theorem zero_box (W : World) {i : Nat} (hi : i < 3) (E : TypeId) : (W.alloc (.cells #[.int .u8 0, .int .u8 0, .int .u8 0] E)).cell? ⟨W.heap.size, i, none⟩ = some (.int .u8 0) ∧ (W.alloc (.cells #[.int .u8 0, .int .u8 0, .int .u8 0] E)).frozen? ⟨W.heap.size, i, none⟩ = false := by
  rcases lt3 hi with rfl | rfl | rfl <;> simp
end Go.Proofs.YtjhkeehfchkpaaaGreat
