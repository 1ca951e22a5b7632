/- Substitution: lists of polynomials, rows of powers, what SubstitutePoly answers; no condition. -/
import Derived.Test.YtneknpamceipiaaYSubL
import Derived.Test.YtneknpamceipiaaYKitW
import Derived.Test.YtneknpamceipiaaYPowW
set_option linter.unusedVariables false
set_option linter.unusedSimpArgs false
namespace Go.Proofs.Ytneknpamceipiaa
open Go.RowKit Go.Proofs.YtneknpamceipiaaW.PrintWords
attribute [local go_sem] Later.cell Later.frozen Later.lt Later.lt_add Later.le Later.le_add Later.ne Later.ne' add_at
/-! ### bounds -/
theorem subL_deg {p : Int} (hp : 2 ≤ p) {ys : List (List T4)} (hy : ∀ y ∈ ys, Canon p y) (xs : List T4) (hb : ∀ t ∈ xs, bndT ys t ys.length ≤ 12) : ∀ u ∈ subL p ys xs, degE u.e ≤ 12 := by
  have key : ∀ (xs : List T4), (∀ t ∈ xs, bndT ys t ys.length ≤ 12) → ∀ (acc : List T4), (∀ u ∈ acc, degE u.e ≤ 12) → ∀ u ∈ xs.foldl (fun acc t => putsT p acc (pairsT 1 (oneTerm p ys t ys.length))) acc, degE u.e ≤ 12 := by
    intro xs
    induction xs with
    | nil => exact fun _ acc h => h
    | cons t xs ih =>
      intro hb acc h
      refine ih (fun t ht => hb t (by simp [ht])) _ fun u hu => ?_
      rcases putsT_mem _ hu with ⟨q, hq, e⟩ | h'
      · obtain ⟨t', ht', rfl⟩ := List.mem_map.1 hq
        rw [e]
        have h1 := degP_mem (oneTerm_canon hp ys t ys.length).1 ht'
        have h2 := oneTerm_deg hp hy t ys.length
        have h3 := hb t (by simp)
        show degE t'.e ≤ 12
        omega
      · exact h u h'
  exact key xs hb [] (fun u hu => by cases hu)
theorem subL_len {p : Int} (hp : 2 ≤ p) {ys : List (List T4)} (hy : ∀ y ∈ ys, Canon p y) {xs : List T4} (hb : ∀ t ∈ xs, bndT ys t ys.length ≤ 12) : (subL p ys xs).length ≤ 1183 :=
  deg_len (subL_canon hp ys xs).1 (subL_deg hp hy xs hb)
theorem subL_lenT {p : Int} (hp : 2 ≤ p) {ys : List (List T4)} (hy : ∀ y ∈ ys, Canon p y) {xs : List T4} (hb : ∀ t ∈ xs, bndT ys t ys.length ≤ 12) (i : Nat) : (subL p ys (xs.take i)).length ≤ 1183 :=
  subL_len hp hy fun t ht => hb t (List.mem_of_mem_take ht)
theorem bndT_le {ys : List (List T4)} {t : T4} (hb : bndT ys t ys.length ≤ 12) {k : Nat} (hk : k ≤ ys.length) : bndT ys t k ≤ 12 := by
  obtain ⟨m, hm⟩ := Nat.exists_eq_add_of_le hk
  have h := bndT_mono ys t k m
  rw [← hm] at h
  omega
theorem one_deg {p : Int} (hp : 2 ≤ p) {ys : List (List T4)} (hy : ∀ y ∈ ys, Canon p y) {t : T4} (hb : bndT ys t ys.length ≤ 12) {k : Nat} (hk : k ≤ ys.length) : degP (oneTerm p ys t k) ≤ 12 := by
  have h1 := bndT_le hb hk
  have h2 := oneTerm_deg hp hy t k
  omega
theorem one_len {p : Int} (hp : 2 ≤ p) {ys : List (List T4)} (hy : ∀ y ∈ ys, Canon p y) {t : T4} (hb : bndT ys t ys.length ≤ 12) {k : Nat} (hk : k ≤ ys.length) : (oneTerm p ys t k).length ≤ 1183 :=
  deg_len (oneTerm_canon hp ys t k).1 fun u hu => by
    have h1 := degP_mem (oneTerm_canon hp ys t k).1 hu
    have h2 := one_deg hp hy hb hk
    omega
theorem bnd_step {ys : List (List T4)} {t : T4} (hb : bndT ys t ys.length ≤ 12) {k : Nat} (hk : k < ys.length) : bndT ys t k + ((t.e.at k).toNat : Int) * max (degP (ys.getD k [])) 0 ≤ 12 := bndT_le hb (show k + 1 ≤ ys.length from hk)
theorem bnd_one {ys : List (List T4)} {t : T4} (hb : bndT ys t ys.length ≤ 12) {k : Nat} (hk : k < ys.length) : ((t.e.at k).toNat : Int) * max (degP (ys.getD k [])) 0 ≤ 12 := by
  have h1 := bnd_step hb hk
  have h2 := bndT_nonneg ys t k
  omega
theorem ys_canon {p : Int} {ys : List (List T4)} (hy : ∀ y ∈ ys, Canon p y) (k : Nat) : Canon p (ys.getD k []) := by
  rw [List.getD_eq_getElem?_getD]
  cases h : ys[k]? with
  | none => exact canon_nil p
  | some y => exact hy y (List.mem_of_getElem? h)
theorem tim_deg {p : Int} (hp : 2 ≤ p) {ys : List (List T4)} (hy : ∀ y ∈ ys, Canon p y) {t : T4} (hb : bndT ys t ys.length ≤ 12) {k n : Nat} (hk : k < ys.length) (hn : n ≤ (t.e.at k).toNat) : degP (timL p (oneTerm p ys t k) (ys.getD k []) n) ≤ 12 := by
  have h1 := timL_deg hp (oneTerm_canon hp ys t k) (ys_canon hy k).1 _ (bndT_nonneg ys t k) (oneTerm_deg hp hy t k) n
  have h2 := bnd_step hb hk
  have h3 : (n : Int) * max (degP (ys.getD k [])) 0 ≤ ((t.e.at k).toNat : Int) * max (degP (ys.getD k [])) 0 := Int.mul_le_mul_of_nonneg_right (by omega) (by omega)
  omega
theorem tim_len {p : Int} (hp : 2 ≤ p) {ys : List (List T4)} (hy : ∀ y ∈ ys, Canon p y) {t : T4} (hb : bndT ys t ys.length ≤ 12) {k n : Nat} (hk : k < ys.length) (hn : n ≤ (t.e.at k).toNat) : (timL p (oneTerm p ys t k) (ys.getD k []) n).length ≤ 1183 :=
  deg_len (timL_canon hp (oneTerm_canon hp ys t k) _ n).1 fun u hu => by
    have h1 := degP_mem (timL_canon hp (oneTerm_canon hp ys t k) _ n).1 hu
    have h2 := tim_deg hp hy hb hk hn
    omega
theorem tim_no {p : Int} (hp : 2 ≤ p) {ys : List (List T4)} (hy : ∀ y ∈ ys, Canon p y) {t : T4} (hb : bndT ys t ys.length ≤ 12) {k n : Nat} (hk : k < ys.length) (hn : n < (t.e.at k).toNat) : tooB (timL p (oneTerm p ys t k) (ys.getD k []) n) (ys.getD k []) = false := by
  have h1 := timL_deg hp (oneTerm_canon hp ys t k) (ys_canon hy k).1 _ (bndT_nonneg ys t k) (oneTerm_deg hp hy t k) n
  have h2 := bnd_step hb hk
  have h3 : ((n + 1 : Nat) : Int) * max (degP (ys.getD k [])) 0 ≤ ((t.e.at k).toNat : Int) * max (degP (ys.getD k [])) 0 := Int.mul_le_mul_of_nonneg_right (by omega) (by omega)
  rw [Int.natCast_succ, Int.add_mul] at h3
  unfold tooB
  have : decide (12 < degP (timL p (oneTerm p ys t k) (ys.getD k []) n) + degP (ys.getD k [])) = false := by
    rw [decide_eq_false_iff_not]
    omega
  rw [this, Bool.and_false]
/-! ### rows of powers -/
def powsR (p D : Int) (y : List T4) (n : Nat) : List PV := (List.range n).map fun j => ⟨p, D, powL p y j⟩
theorem powsR_len (p D : Int) (y : List T4) (n : Nat) : (powsR p D y n).length = n := by simp [powsR]
theorem powsR_get (p D : Int) (y : List T4) {n j : Nat} (h : j < n) : (powsR p D y n).getD j zP = ⟨p, D, powL p y j⟩ := by simp [powsR, List.getD_eq_getElem?_getD, h]
theorem powsR_step (p D : Int) (y : List T4) (n : Nat) : powsR p D y (n + 1) = powsR p D y n ++ [⟨p, D, powL p y n⟩] := by simp [powsR, List.range_succ]
/-! ### what SubstitutePoly answers -/
def mostT (ys : List (List T4)) (ts : List T4) : Int := ts.foldl (fun m t => max m (bndT ys t ys.length)) 0
theorem mostT_snoc (ys : List (List T4)) (ts : List T4) (t : T4) : mostT ys (ts ++ [t]) = max (mostT ys ts) (bndT ys t ys.length) := by simp [mostT]
theorem mostT_le (ys : List (List T4)) : ∀ (ts : List T4) (m : Int), ts.foldl (fun m t => max m (bndT ys t ys.length)) m ≤ 12 ↔ m ≤ 12 ∧ ∀ t ∈ ts, bndT ys t ys.length ≤ 12
  | [], m => by simp
  | t :: ts, m => by
    rw [List.foldl_cons, mostT_le ys ts]
    simp only [List.mem_cons, forall_eq_or_imp]
    constructor
    · rintro ⟨h1, h2⟩
      exact ⟨by omega, by omega, h2⟩
    · rintro ⟨h1, h2, h3⟩
      exact ⟨by omega, h3⟩
def bndB (ys : List (List T4)) (ts : List T4) : Bool := ts.all fun t => decide (bndT ys t ys.length ≤ 12)
theorem bndB_iff {ys : List (List T4)} {ts : List T4} : bndB ys ts = true ↔ ∀ t ∈ ts, bndT ys t ys.length ≤ 12 := by simp [bndB]
theorem bndB_most (ys : List (List T4)) (ts : List T4) : bndB ys ts = decide (mostT ys ts ≤ 12) := by
  rw [Bool.eq_iff_iff, bndB_iff, decide_eq_true_eq, mostT, mostT_le]
  exact ⟨fun h => ⟨by omega, h⟩, fun h => h.2⟩
theorem bndB_no {ys : List (List T4)} {ts : List T4} {i : Nat} (hi : i < ts.length) (h : 12 < bndT ys (ts.getD i z4) ys.length) : bndB ys ts = false := by
  rw [← Bool.not_eq_true, bndB_iff]
  intro hc
  have e : ts.getD i z4 = ts[i] := by simp [List.getD_eq_getElem?_getD, hi]
  have := hc _ (List.getElem_mem hi)
  rw [← e] at this
  omega
def sameB (p : Int) (ps : List PV) : Bool := ps.all fun y => y.p == p && y.d == (ps.getD 0 zP).d
def tss (ps : List PV) : List (List T4) := ps.map (·.ts)
def substR (p d : Int) (ts : List T4) (ps : List PV) : PC :=
  if polyB p d ts && polysB ps then
    (if (ps.length : Int) = d ∧ sameB p ps = true then (if bndB (tss ps) ts = true then ⟨p, (ps.getD 0 zP).d, subL p (tss ps) ts, 0⟩ else ⟨0, 0, [], 3⟩) else ⟨0, 0, [], 2⟩)
  else ⟨0, 0, [], 1⟩
theorem substR_1 {p d : Int} {ts : List T4} {ps : List PV} (h : (polyB p d ts && polysB ps) = false) : substR p d ts ps = ⟨0, 0, [], 1⟩ := by
  unfold substR
  rw [h, if_neg (by decide)]
theorem substR_2 {p d : Int} {ts : List T4} {ps : List PV} (h : (polyB p d ts && polysB ps) = true) (h2 : ¬ ((ps.length : Int) = d ∧ sameB p ps = true)) : substR p d ts ps = ⟨0, 0, [], 2⟩ := by
  unfold substR
  rw [h, if_pos rfl, if_neg h2]
theorem substR_3 {p d : Int} {ts : List T4} {ps : List PV} (h : (polyB p d ts && polysB ps) = true) (h2 : (ps.length : Int) = d ∧ sameB p ps = true) (h3 : bndB (tss ps) ts = false) : substR p d ts ps = ⟨0, 0, [], 3⟩ := by
  unfold substR
  rw [h, if_pos rfl, if_pos h2, h3, if_neg (by decide)]
theorem substR_0 {p d : Int} {ts : List T4} {ps : List PV} (h : (polyB p d ts && polysB ps) = true) (h2 : (ps.length : Int) = d ∧ sameB p ps = true) (h3 : bndB (tss ps) ts = true) : substR p d ts ps = ⟨p, (ps.getD 0 zP).d, subL p (tss ps) ts, 0⟩ := by
  unfold substR
  rw [h, if_pos rfl, if_pos h2, h3, if_pos rfl]
theorem tss_len (ps : List PV) : (tss ps).length = ps.length := by simp [tss]
theorem tss_get (ps : List PV) (i : Nat) : (tss ps).getD i [] = (ps.getD i zP).ts := by
  simp only [tss, List.getD_eq_getElem?_getD, List.getElem?_map]
  cases ps[i]? <;> rfl
theorem tss_canon {p : Int} {ps : List PV} (h : polysB ps = true) (hs : sameB p ps = true) : ∀ y ∈ tss ps, Canon p y := by
  intro y hy
  obtain ⟨x, hx, rfl⟩ := List.mem_map.1 hy
  rw [polysB, List.all_eq_true] at h
  rw [sameB, List.all_eq_true] at hs
  have h1 := polyB_canon (h x hx)
  have h2 := hs x hx
  simp only [Bool.and_eq_true, beq_iff_eq] at h2
  rw [h2.1] at h1
  exact h1
theorem substR_len (p d : Int) (ts : List T4) (ps : List PV) : (substR p d ts ps).ts.length ≤ 1048576 := by
  unfold substR
  split
  · rename_i h
    simp only [Bool.and_eq_true] at h
    split
    · rename_i h2
      split
      · rename_i h3
        exact Nat.le_trans (subL_len (polyB_prime h.1).1 (tss_canon h.2 h2.2) (bndB_iff.1 h3)) (by omega)
      · simp
    · simp
  · simp
end Go.Proofs.Ytneknpamceipiaa
