/- Walks of the functions on polynomials, numbers and rows, of both sides; no condition. -/
import Derived.Test.YtimjhehagimcaaaYE2
import Derived.Test.YtimjhehagimcaaaYE1
import Derived.Test.YtimjhehagimcaaaYAlgM
import Derived.Test.YtimjhehagimcaaaYKitG
import Derived.Test.YtimjhehagimcaaaYKitV
import Derived.Test.YtimjhehagimcaaaYKitC
import Derived.Test.YtimjhehagimcaaaYShelfS
/- PLAIN LAW: the classes of a group, both ways; no condition. -/
set_option linter.unusedVariables false
namespace Go.Proofs.Ytimjhehagimcaaa
/-! ### groups -/
theorem grp_mem {p n : Int} {ms : List M9} (g : GrpP p n ms) {x : M9} (h : x ∈ ms) : matB p n x = true := by
  obtain ⟨i, hi, rfl⟩ := List.getElem_of_mem h
  have := g.mat i hi
  rwa [show ms.getD i zM = ms[i] by simp [List.getD_eq_getElem?_getD, hi]] at this
theorem getD_memM {ms : List M9} {i : Nat} (h : i < ms.length) : ms.getD i zM ∈ ms := by
  rw [show ms.getD i zM = ms[i] by simp [List.getD_eq_getElem?_getD, h]]
  exact List.getElem_mem h
theorem idx_mem {ms : List M9} {x : M9} (h : 0 ≤ idxM ms x) : x ∈ ms := Decidable.byContradiction fun hh => by
  have := (idxM_neg ms x).2 hh
  omega
theorem mem_idx {ms : List M9} {x : M9} (h : x ∈ ms) : 0 ≤ idxM ms x := Int.not_lt.1 fun hh => (idxM_neg ms x).1 hh h
theorem grp_cl {p n : Int} {ms : List M9} (g : GrpP p n ms) {x y : M9} (hx : x ∈ ms) (hy : y ∈ ms) : timesM p n.toNat x y ∈ ms := by
  obtain ⟨i, hi, rfl⟩ := List.getElem_of_mem hx
  obtain ⟨k, hk, rfl⟩ := List.getElem_of_mem hy
  have := g.cl i hi k hk
  rw [show ms.getD i zM = ms[i] by simp [List.getD_eq_getElem?_getD, hi], show ms.getD k zM = ms[k] by simp [List.getD_eq_getElem?_getD, hk]] at this
  exact idx_mem this
theorem grp_un {p n : Int} {ms : List M9} (g : GrpP p n ms) : unitM n ∈ ms := idx_mem g.un
theorem rise_at {ms : List M9} (h : ∀ i, 0 < i → i < ms.length → befM (ms.getD (i - 1) zM) (ms.getD i zM) = true) : ∀ d i, i + d + 1 < ms.length → cmpM (ms.getD i zM) (ms.getD (i + d + 1) zM) < 0
  | 0, i, hl => by
    have := h (i + 1) (by omega) hl
    rw [Nat.add_sub_cancel] at this
    exact of_decide_eq_true this
  | d + 1, i, hl => by
    have h1 := rise_at h d i (by omega)
    have h2 := h (i + (d + 1) + 1) (by omega) hl
    rw [Nat.add_sub_cancel] at h2
    exact cmpM_trans h1 (of_decide_eq_true h2)
theorem grp_nodup {p n : Int} {ms : List M9} (g : GrpP p n ms) : ms.Nodup := by
  refine List.pairwise_iff_getElem.2 fun i j hi hj hij e => ?_
  have := rise_at g.ord (j - i - 1) i (by omega)
  rw [show i + (j - i - 1) + 1 = j by omega, show ms.getD i zM = ms[i] by simp [List.getD_eq_getElem?_getD, hi], show ms.getD j zM = ms[j] by simp [List.getD_eq_getElem?_getD, hj], e] at this
  exact cmpM_irr _ this
theorem nd_inj {ms : List M9} (h : ms.Nodup) {i j : Nat} (hi : i < ms.length) (hj : j < ms.length) (e : ms.getD i zM = ms.getD j zM) : i = j := by
  rw [show ms.getD i zM = ms[i] by simp [List.getD_eq_getElem?_getD, hi], show ms.getD j zM = ms[j] by simp [List.getD_eq_getElem?_getD, hj]] at e
  exact (List.getElem_inj h).1 e
/-- As many different members as there are: all of them. -/
theorem pigeon {α : Type} [DecidableEq α] : ∀ (l m : List α), l.Nodup → (∀ x ∈ l, x ∈ m) → m.length ≤ l.length → ∀ x ∈ m, x ∈ l
  | [], m, _, _, hl, x, hx => by
    obtain rfl : m = [] := List.eq_nil_of_length_eq_zero (by simpa using hl)
    exact hx
  | a :: l, m, hn, hs, hl, x, hx => by
    obtain ⟨ha, hn⟩ := List.nodup_cons.1 hn
    by_cases e : x = a
    · rw [e]; simp
    · have ham := hs a (by simp)
      have := pigeon l (m.erase a) hn (fun y hy => (List.mem_erase_of_ne (fun e => ha (by rw [← e]; exact hy))).2 (hs y (by simp [hy]))) (by rw [List.length_erase_of_mem ham]; simp at hl; omega) x ((List.mem_erase_of_ne e).2 hx)
      simp [this]
theorem times_cancel {p n : Int} {m x y : M9} (hm : matB p n m = true) (hx : matB p n x = true) (hy : matB p n y = true) (h : timesM p n.toNat m x = timesM p n.toNat m y) : x = y := by
  obtain ⟨h1, h2, h3, h4, h5⟩ := matB_le hm
  have a := timesM_assoc h2 h3 (n := n.toNat) (by omega) (invM p n.toNat m.num) m x
  have b := timesM_assoc h2 h3 (n := n.toNat) (by omega) (invM p n.toNat m.num) m y
  rw [inv_times hm, unit_times hx] at a
  rw [inv_times hm, unit_times hy] at b
  rw [a, b, h]
theorem grp_inv {p n : Int} {ms : List M9} (g : GrpP p n ms) {x : M9} (h : x ∈ ms) : invM p n.toNat x.num ∈ ms := by
  have hx := grp_mem g h
  have hn : (ms.map fun y => timesM p n.toNat x y).Nodup := by
    rw [List.Nodup, List.pairwise_map]
    refine (List.pairwise_iff_getElem.2 fun i j hi hj hij e => ?_)
    have hne := List.pairwise_iff_getElem.1 (grp_nodup g) i j hi hj hij
    exact hne (times_cancel hx (grp_mem g (List.getElem_mem hi)) (grp_mem g (List.getElem_mem hj)) e)
  have := pigeon _ ms hn (fun y hy => by
    obtain ⟨z, hz, rfl⟩ := List.mem_map.1 hy
    exact grp_cl g h hz) (by rw [List.length_map]; omega) _ (grp_un g)
  obtain ⟨y, hy, e⟩ := List.mem_map.1 this
  rw [← inv_uniq hx (grp_mem g hy) e]
  exact hy
/-! ### conjugates -/
def conM (p n : Int) (k i : M9) : M9 := timesM p n.toNat (timesM p n.toNat k i) (invM p n.toNat k.num)
theorem con_mem {p n : Int} {ms : List M9} (g : GrpP p n ms) {k i : M9} (hk : k ∈ ms) (hi : i ∈ ms) : conM p n k i ∈ ms := grp_cl g (grp_cl g hk hi) (grp_inv g hk)
/-- Who has a conjugate in common with another is one of the other's conjugates. -/
theorem con_back {p n : Int} {ms : List M9} (g : GrpP p n ms) {k i k' i' : M9} (hk : k ∈ ms) (hi : i ∈ ms) (hk' : k' ∈ ms) (hi' : i' ∈ ms) (h : conM p n k i = conM p n k' i') : ∃ h ∈ ms, conM p n h i' = i := by
  have bk := grp_mem g hk
  have bi := grp_mem g hi
  have bk' := grp_mem g hk'
  have bi' := grp_mem g hi'
  obtain ⟨_, h2, h3, h4, h5⟩ := matB_le bk
  have asc : ∀ a b c, timesM p n.toNat (timesM p n.toNat a b) c = timesM p n.toNat a (timesM p n.toNat b c) := timesM_assoc h2 h3 (by omega)
  have ik := inv_mat bk
  have ik' := inv_mat bk'
  have hh := matB_times ik bk'
  refine ⟨timesM p n.toNat (invM p n.toNat k.num) k', grp_cl g (grp_inv g hk) hk', ?_⟩
  have e : invM p n.toNat (timesM p n.toNat (invM p n.toNat k.num) k').num = timesM p n.toNat (invM p n.toNat k'.num) k := by
    refine (inv_uniq hh (matB_times ik' bk) ?_).symm
    rw [asc, ← asc k', times_inv bk', unit_times bk, inv_times bk]
  unfold conM at h ⊢
  rw [e]
  have h1 : timesM p n.toNat (timesM p n.toNat (invM p n.toNat k.num) (timesM p n.toNat (timesM p n.toNat k' i') (invM p n.toNat k'.num))) k = i := by
    rw [← h, asc k i, ← asc (invM p n.toNat k.num) k, inv_times bk, unit_times (matB_times bi ik), asc, inv_times bk, times_unit bi]
  rw [← h1]
  simp only [asc]
/-! ### the classes, as numbers -/
def clsI (p n : Int) (ms : List M9) (i k : Nat) : Nat := (idxM ms (conM p n (ms.getD k zM) (ms.getD i zM))).toNat
theorem idx_at {ms : List M9} {x : M9} (h : x ∈ ms) : (idxM ms x).toNat < ms.length ∧ ms.getD (idxM ms x).toNat zM = x := by
  unfold idxM
  rw [if_pos h, Int.toNat_natCast]
  have hl := List.idxOf_lt_length_iff.2 h
  refine ⟨hl, ?_⟩
  rw [show ms.getD (ms.idxOf x) zM = ms[ms.idxOf x] by simp [List.getD_eq_getElem?_getD, hl]]
  exact List.getElem_idxOf hl
theorem idx_int {ms : List M9} {x : M9} (h : x ∈ ms) : idxM ms x = ((idxM ms x).toNat : Int) := by
  have := mem_idx h
  omega
theorem clsI_at {p n : Int} {ms : List M9} (g : GrpP p n ms) {i k : Nat} (hi : i < ms.length) (hk : k < ms.length) : clsI p n ms i k < ms.length ∧ ms.getD (clsI p n ms i k) zM = conM p n (ms.getD k zM) (ms.getD i zM) := idx_at (con_mem g (getD_memM hk) (getD_memM hi))
def clsB (p n : Int) (ms : List M9) (i j : Nat) (k : Nat) : Bool := (List.range k).any fun t => clsI p n ms i t == j
theorem clsB_iff {p n : Int} {ms : List M9} {i j k : Nat} : clsB p n ms i j k = true ↔ ∃ t, t < k ∧ clsI p n ms i t = j := by
  unfold clsB
  rw [List.any_eq_true]
  constructor
  · rintro ⟨t, ht, e⟩
    exact ⟨t, List.mem_range.1 ht, by simpa using e⟩
  · rintro ⟨t, ht, e⟩
    exact ⟨t, List.mem_range.2 ht, by simpa using e⟩
theorem clsB_back {p n : Int} {ms : List M9} (g : GrpP p n ms) {i i' j : Nat} (hi : i < ms.length) (hi' : i' < ms.length) (h : clsB p n ms i j ms.length = true) (h' : clsB p n ms i' j ms.length = true) : clsB p n ms i' i ms.length = true := by
  obtain ⟨k, hk, rfl⟩ := clsB_iff.1 h
  obtain ⟨k', hk', e⟩ := clsB_iff.1 h'
  have a := clsI_at g hi hk
  have b := clsI_at g hi' hk'
  rw [e, a.2] at b
  obtain ⟨x, hx, ex⟩ := con_back g (getD_memM hk) (getD_memM hi) (getD_memM hk') (getD_memM hi') b.2
  obtain ⟨t, ht, rfl⟩ := List.getElem_of_mem hx
  refine clsB_iff.2 ⟨t, ht, ?_⟩
  have et : ms.getD t zM = ms[t] := by simp [List.getD_eq_getElem?_getD, ht]
  unfold clsI
  rw [et, ex]
  exact nd_inj (grp_nodup g) (idx_at (getD_memM hi)).1 hi (idx_at (getD_memM hi)).2
/-- Which are met, and the classes, when the first i have been looked at. -/
def metL (p n : Int) (ms : List M9) : Nat → List Bool × List (List Int)
  | 0 => (List.replicate ms.length false, [])
  | i + 1 => if (metL p n ms i).1.getD i false = true then metL p n ms i else
    ((List.range ms.length).map fun j => (metL p n ms i).1.getD j false || clsB p n ms i j ms.length, (metL p n ms i).2 ++ [((List.range ms.length).filter fun j => clsB p n ms i j ms.length).map fun (j : Nat) => (j : Int)])
theorem metL_len (p n : Int) (ms : List M9) : ∀ i, (metL p n ms i).1.length = ms.length
  | 0 => by simp [metL]
  | i + 1 => by
    rw [metL]
    split
    · exact metL_len p n ms i
    · simp
theorem metL_out (p n : Int) (ms : List M9) : ∀ i, (metL p n ms i).2.length ≤ i ∧ ∀ x ∈ (metL p n ms i).2, x.length ≤ ms.length
  | 0 => by simp [metL]
  | i + 1 => by
    obtain ⟨h1, h2⟩ := metL_out p n ms i
    rw [metL]
    split
    · exact ⟨by omega, h2⟩
    · refine ⟨by simp; omega, fun x hx => ?_⟩
      rcases List.mem_append.1 hx with h | h
      · exact h2 x h
      · rw [List.mem_singleton.1 h, List.length_map]
        have := List.length_filter_le (fun j => clsB p n ms i j ms.length) (List.range ms.length)
        simpa using this
theorem metL_mono (p n : Int) (ms : List M9) (i j : Nat) (hj : j < ms.length) (h : (metL p n ms i).1.getD j false = true) : (metL p n ms (i + 1)).1.getD j false = true := by
  rw [metL]
  split
  · exact h
  · rw [List.getD_eq_getElem?_getD] at h
    simp [List.getD_eq_getElem?_getD, hj, h]
theorem metL_get (p n : Int) (ms : List M9) : ∀ (i j : Nat), i ≤ ms.length → (metL p n ms i).1.getD j false = true → ∃ i', i' < i ∧ clsB p n ms i' j ms.length = true ∧ ∀ j', j' < ms.length → clsB p n ms i' j' ms.length = true → (metL p n ms i).1.getD j' false = true
  | 0, j, _, h => by
    rw [metL] at h
    simp [List.getD_eq_getElem?_getD, List.getElem?_replicate] at h
    split at h <;> simp at h
  | i + 1, j, hl, h => by
    by_cases e : (metL p n ms i).1.getD i false = true
    · have em : metL p n ms (i + 1) = metL p n ms i := by rw [metL, if_pos e]
      rw [em] at h ⊢
      obtain ⟨i', h1, h2, h3⟩ := metL_get p n ms i j (by omega) h
      exact ⟨i', by omega, h2, h3⟩
    · have em : (metL p n ms (i + 1)).1 = (List.range ms.length).map fun j => (metL p n ms i).1.getD j false || clsB p n ms i j ms.length := by rw [metL, if_neg e]
      rw [em] at h
      have hj : j < ms.length := Decidable.byContradiction fun hj => by
        rw [List.getD_eq_getElem?_getD, List.getElem?_eq_none (by simp; omega)] at h
        simp at h
      simp only [List.getD_eq_getElem?_getD, List.getElem?_map, List.getElem?_range hj, Option.map_some, Option.getD_some, Bool.or_eq_true] at h
      rcases h with h | h
      · obtain ⟨i', h1, h2, h3⟩ := metL_get p n ms i j (by omega) (by rw [List.getD_eq_getElem?_getD]; exact h)
        exact ⟨i', by omega, h2, fun j' hj' hc => metL_mono p n ms i j' hj' (h3 j' hj' hc)⟩
      · refine ⟨i, by omega, h, fun j' hj' hc => ?_⟩
        rw [em]
        simp [List.getD_eq_getElem?_getD, hj', hc]
/-- Who is not yet met has no conjugate that is. -/
theorem metL_new {p n : Int} {ms : List M9} (g : GrpP p n ms) {i : Nat} (hi : i < ms.length) (h : (metL p n ms i).1.getD i false = false) {k : Nat} (hk : k < ms.length) : (metL p n ms i).1.getD (clsI p n ms i k) false = false := by
  cases e : (metL p n ms i).1.getD (clsI p n ms i k) false with
  | false => rfl
  | true =>
    obtain ⟨i', h1, h2, h3⟩ := metL_get p n ms i _ (by omega) e
    have := h3 i hi (clsB_back g hi (by omega) (clsB_iff.2 ⟨k, hk, rfl⟩) h2)
    rw [h] at this
    cases this
end Go.Proofs.Ytimjhehagimcaaa
/- PLAIN LAW: the program's way to a class: numbers as they come, each once, then sorted; no condition. -/
set_option linter.unusedVariables false
namespace Go.Proofs.Ytimjhehagimcaaa
theorem asc_ext : ∀ {l m : List Int}, l.Pairwise (· < ·) → m.Pairwise (· < ·) → (∀ x, x ∈ l ↔ x ∈ m) → l = m
  | [], [], _, _, _ => rfl
  | [], b :: m, _, _, h => absurd ((h b).2 (by simp)) (by simp)
  | a :: l, [], _, _, h => absurd ((h a).1 (by simp)) (by simp)
  | a :: l, b :: m, h1, h2, h => by
    obtain ⟨ha, hl⟩ := List.pairwise_cons.1 h1
    obtain ⟨hb, hm⟩ := List.pairwise_cons.1 h2
    have hab : a = b := by
      rcases List.mem_cons.1 ((h a).1 (by simp)) with e | e
      · exact e
      · rcases List.mem_cons.1 ((h b).2 (by simp)) with e2 | e2
        · exact e2.symm
        · have := hb a e
          have := ha b e2
          omega
    subst hab
    congr 1
    refine asc_ext hl hm fun x => ⟨fun hx => ?_, fun hx => ?_⟩
    · rcases List.mem_cons.1 ((h x).1 (by simp [hx])) with e | e
      · have := ha x hx; omega
      · exact e
    · rcases List.mem_cons.1 ((h x).2 (by simp [hx])) with e | e
      · have := hb x hx; omega
      · exact e
theorem clsB_succ (p n : Int) (ms : List M9) (i j k : Nat) : clsB p n ms i j (k + 1) = (clsB p n ms i j k || clsI p n ms i k == j) := by
  unfold clsB
  rw [List.range_succ, List.any_append]
  simp
theorem clsB_zero (p n : Int) (ms : List M9) (i j : Nat) : clsB p n ms i j 0 = false := rfl
def seenL (p n : Int) (ms : List M9) (met : List Bool) (i k : Nat) : List Bool := (List.range ms.length).map fun j => met.getD j false || clsB p n ms i j k
def clsA (p n : Int) (ms : List M9) (i : Nat) : Nat → List Int
  | 0 => []
  | k + 1 => if clsB p n ms i (clsI p n ms i k) k = true then clsA p n ms i k else clsA p n ms i k ++ [(clsI p n ms i k : Int)]
theorem seenL_len (p n : Int) (ms : List M9) (met : List Bool) (i k : Nat) : (seenL p n ms met i k).length = ms.length := by simp [seenL]
theorem seenL_zero {p n : Int} {ms : List M9} {met : List Bool} (i : Nat) (h : met.length = ms.length) : seenL p n ms met i 0 = met := by
  refine List.ext_getElem (by rw [seenL_len, h]) fun j h1 h2 => ?_
  simp [seenL, clsB_zero, List.getD_eq_getElem?_getD, h2]
theorem seenL_get {p n : Int} {ms : List M9} {met : List Bool} {i k j : Nat} (hj : j < ms.length) (hm : met.getD j false = false) : (seenL p n ms met i k).getD j false = clsB p n ms i j k := by
  rw [List.getD_eq_getElem?_getD] at hm
  simp [seenL, List.getD_eq_getElem?_getD, hj, hm]
theorem seenL_same {p n : Int} {ms : List M9} {met : List Bool} {i k : Nat} (h : clsB p n ms i (clsI p n ms i k) k = true) : seenL p n ms met i (k + 1) = seenL p n ms met i k := by
  unfold seenL
  refine List.map_congr_left fun j _ => ?_
  rw [clsB_succ]
  by_cases e : clsI p n ms i k = j
  · subst e
    rw [h, Bool.true_or]
  · rw [show (clsI p n ms i k == j) = false from by simpa using e, Bool.or_false]
theorem seenL_set {p n : Int} {ms : List M9} {met : List Bool} {i k : Nat} : seenL p n ms met i (k + 1) = (seenL p n ms met i k).set (clsI p n ms i k) true := by
  refine List.ext_getElem (by simp [seenL]) fun j h1 h2 => ?_
  rw [List.getElem_set]
  simp only [seenL, List.getElem_map, List.getElem_range, clsB_succ]
  by_cases e : clsI p n ms i k = j
  · rw [if_pos e]; simp [e]
  · rw [if_neg e, show (clsI p n ms i k == j) = false from by simpa using e, Bool.or_false]
theorem clsA_mem {p n : Int} {ms : List M9} {i : Nat} : ∀ {k : Nat} {x : Int}, x ∈ clsA p n ms i k ↔ ∃ t, t < k ∧ x = (clsI p n ms i t : Int)
  | 0, x => by simp [clsA]
  | k + 1, x => by
    rw [clsA]
    split
    · next h =>
      rw [clsA_mem]
      constructor
      · rintro ⟨t, h1, h2⟩
        exact ⟨t, by omega, h2⟩
      · rintro ⟨t, h1, h2⟩
        by_cases e : t = k
        · subst e
          obtain ⟨t', h3, h4⟩ := clsB_iff.1 h
          exact ⟨t', h3, by rw [h4]; exact h2⟩
        · exact ⟨t, by omega, h2⟩
    · rw [List.mem_append, clsA_mem, List.mem_singleton]
      constructor
      · rintro (⟨t, h1, h2⟩ | h)
        · exact ⟨t, by omega, h2⟩
        · exact ⟨k, by omega, h⟩
      · rintro ⟨t, h1, h2⟩
        by_cases e : t = k
        · subst e; exact .inr h2
        · exact .inl ⟨t, by omega, h2⟩
theorem clsA_nodup {p n : Int} {ms : List M9} {i : Nat} : ∀ k, (clsA p n ms i k).Nodup
  | 0 => List.nodup_nil
  | k + 1 => by
    rw [clsA]
    split
    · exact clsA_nodup k
    · next h =>
      refine List.nodup_append.2 ⟨clsA_nodup k, by simp, fun a ha b hb e => ?_⟩
      rw [List.mem_singleton.1 hb] at e
      obtain ⟨t, h1, h2⟩ := clsA_mem.1 ha
      exact h (clsB_iff.2 ⟨t, h1, by omega⟩)
theorem clsA_len {p n : Int} {ms : List M9} {i : Nat} : ∀ k, (clsA p n ms i k).length ≤ k
  | 0 => Nat.le_refl _
  | k + 1 => by
    have := clsA_len (p := p) (n := n) (ms := ms) (i := i) k
    rw [clsA]
    split
    · omega
    · simp; omega
/-- The class, its numbers rising. -/
def clsZ (p n : Int) (ms : List M9) (i : Nat) : List Int := ((List.range ms.length).filter fun j => clsB p n ms i j ms.length).map fun (j : Nat) => (j : Int)
theorem clsZ_asc (p n : Int) (ms : List M9) (i : Nat) : (clsZ p n ms i).Pairwise (· < ·) := by
  rw [clsZ, List.pairwise_map]
  exact (List.pairwise_lt_range.filter _).imp fun h => by omega
theorem clsA_sort {p n : Int} {ms : List M9} (g : GrpP p n ms) {i : Nat} (hi : i < ms.length) : (clsA p n ms i ms.length).mergeSort (fun x y => decide (x ≤ y)) = clsZ p n ms i := by
  have hp := List.mergeSort_perm (clsA p n ms i ms.length) fun x y => decide (x ≤ y)
  have hs := List.pairwise_mergeSort (le := fun (x y : Int) => decide (x ≤ y)) (fun a b c h1 h2 => by simp at *; omega) (fun a b => by simp; omega) (clsA p n ms i ms.length)
  have hn : ((clsA p n ms i ms.length).mergeSort fun x y => decide (x ≤ y)).Nodup := hp.nodup_iff.2 (clsA_nodup _)
  refine asc_ext ?_ (clsZ_asc p n ms i) fun x => ?_
  · refine (List.pairwise_iff_getElem.2 fun a b ha hb hab => ?_)
    have h1 := List.pairwise_iff_getElem.1 hs a b ha hb hab
    have h2 := List.pairwise_iff_getElem.1 hn a b ha hb hab
    simp at h1
    omega
  · rw [hp.mem_iff, clsA_mem, clsZ, List.mem_map]
    constructor
    · rintro ⟨t, h1, h2⟩
      refine ⟨clsI p n ms i t, List.mem_filter.2 ⟨List.mem_range.2 (clsI_at g hi h1).1, clsB_iff.2 ⟨t, h1, rfl⟩⟩, h2.symm⟩
    · rintro ⟨j, h1, h2⟩
      obtain ⟨_, h3⟩ := List.mem_filter.1 h1
      obtain ⟨t, h4, h5⟩ := clsB_iff.1 h3
      exact ⟨t, h4, by rw [h5, h2]⟩
theorem metL_yes {p n : Int} {ms : List M9} {i : Nat} (h : (metL p n ms i).1.getD i false = true) : metL p n ms (i + 1) = metL p n ms i := by rw [metL, if_pos h]
theorem metL_no {p n : Int} {ms : List M9} {i : Nat} (h : (metL p n ms i).1.getD i false = false) : metL p n ms (i + 1) = (seenL p n ms (metL p n ms i).1 i ms.length, (metL p n ms i).2 ++ [clsZ p n ms i]) := by
  rw [metL, if_neg (by rw [h]; decide)]
  rfl
/-- What the classes are. -/
def clsR (p n : Int) (ms : List M9) : List (List Int) × Int := if grpB p n ms = true then ((metL p n ms ms.length).2, 0) else ([], 1)
theorem clsR_bd (p n : Int) (ms : List M9) : (clsR p n ms).1.length ≤ 48 ∧ ∀ x ∈ (clsR p n ms).1, x.length ≤ 48 := by
  unfold clsR
  split
  · next h =>
    have hl := ((grpB_iff p n ms).1 h).l2
    obtain ⟨h1, h2⟩ := metL_out p n ms ms.length
    exact ⟨by show (metL p n ms ms.length).2.length ≤ 48; omega, fun x hx => by have := h2 x hx; omega⟩
  · exact ⟨by simp, fun x hx => by cases hx⟩
end Go.Proofs.Ytimjhehagimcaaa
/- PLAIN LAW: the reference's way to the classes: the class marked, then read off; no condition. -/
set_option linter.unusedVariables false
namespace Go.Proofs.Ytimjhehagimcaaa
def metK (met own : List Bool) (m k : Nat) : List Bool := (List.range m).map fun j => met.getD j false || (decide (j < k) && own.getD j false)
theorem metK_len (met own : List Bool) (m k : Nat) : (metK met own m k).length = m := by simp [metK]
theorem metK_zero {met own : List Bool} {m : Nat} (h : met.length = m) : metK met own m 0 = met := by
  refine List.ext_getElem (by rw [metK_len, h]) fun j h1 h2 => ?_
  simp [metK, List.getD_eq_getElem?_getD, h2]
theorem metK_set {met own : List Bool} {m k : Nat} (h : own.getD k false = true) : metK met own m (k + 1) = (metK met own m k).set k true := by
  refine List.ext_getElem (by simp [metK]) fun j h1 h2 => ?_
  rw [List.getElem_set]
  simp only [metK, List.getElem_map, List.getElem_range]
  by_cases e : k = j
  · subst e
    rw [if_pos rfl, h, show decide (k < k + 1) = true from by simp]
    simp
  · rw [if_neg e, show decide (j < k + 1) = decide (j < k) from decide_eq_decide.2 (by omega)]
theorem metK_same {met own : List Bool} {m k : Nat} (h : own.getD k false = false) : metK met own m (k + 1) = metK met own m k := by
  refine List.ext_getElem (by simp [metK]) fun j h1 h2 => ?_
  simp only [metK, List.getElem_map, List.getElem_range]
  by_cases e : k = j
  · subst e
    rw [h]
    simp
  · rw [show decide (j < k + 1) = decide (j < k) from decide_eq_decide.2 (by omega)]
def lstK (own : List Bool) (k : Nat) : List Int := ((List.range k).filter fun j => own.getD j false).map fun (j : Nat) => (j : Int)
theorem lstK_add {own : List Bool} {k : Nat} (h : own.getD k false = true) : lstK own (k + 1) = lstK own k ++ [(k : Int)] := by
  unfold lstK
  rw [List.range_succ, List.filter_append, List.filter_cons, if_pos h, List.filter_nil, List.map_append]
  rfl
theorem lstK_same {own : List Bool} {k : Nat} (h : own.getD k false = false) : lstK own (k + 1) = lstK own k := by
  unfold lstK
  rw [List.range_succ, List.filter_append, List.filter_cons, if_neg (by rw [h]; decide), List.filter_nil, List.append_nil]
theorem lstK_len (own : List Bool) (k : Nat) : (lstK own k).length ≤ k := by
  unfold lstK
  rw [List.length_map]
  have := List.length_filter_le (fun j => own.getD j false) (List.range k)
  simpa using this
/-- The marks of the class alone. -/
def ownK (p n : Int) (ms : List M9) (i k : Nat) : List Bool := seenL p n ms (List.replicate ms.length false) i k
theorem ownK_zero (p n : Int) (ms : List M9) (i : Nat) : ownK p n ms i 0 = List.replicate ms.length false := seenL_zero i (by simp)
theorem ownK_get {p n : Int} {ms : List M9} {i k j : Nat} (hj : j < ms.length) : (ownK p n ms i k).getD j false = clsB p n ms i j k := seenL_get hj (by simp [List.getD_eq_getElem?_getD, hj])
theorem ownK_set {p n : Int} {ms : List M9} {i k : Nat} : ownK p n ms i (k + 1) = (ownK p n ms i k).set (clsI p n ms i k) true := seenL_set
theorem metK_end (p n : Int) (ms : List M9) (met : List Bool) (i : Nat) : metK met (ownK p n ms i ms.length) ms.length ms.length = seenL p n ms met i ms.length := by
  refine List.map_congr_left fun j hj => ?_
  have hj := List.mem_range.1 hj
  rw [ownK_get hj, decide_eq_true hj, Bool.true_and]
theorem lstK_end (p n : Int) (ms : List M9) (i : Nat) : lstK (ownK p n ms i ms.length) ms.length = clsZ p n ms i := by
  unfold lstK clsZ
  refine congrArg _ (List.filter_congr fun j hj => ?_)
  rw [ownK_get (List.mem_range.1 hj)]
end Go.Proofs.Ytimjhehagimcaaa
/- Rows of marks (bools); a list of numbers sorted by the library; no condition. -/
set_option linter.unusedVariables false
set_option linter.unusedSimpArgs false
namespace Go.Proofs.Ytimjhehagimcaaa
open Go.RowKit Go.Proofs.YtimjhehagimcaaaW.PrintWords
attribute [local go_sem] Later.cell Later.frozen Later.lt Later.lt_add Later.le Later.le_add Later.ne Later.ne' add_at
abbrev kB : Kd Bool := Kd.bool
theorem infoB : (Try.prog.info? 4).map (fun i => (i.zero, i.size, i.bytes)) = some (some (.bool false), 1, 1) := by kernel_rfl
theorem kB_cell {W : World} {e base g n cap : Nat} {ok : Nat → Prop} {xs : List Bool} (h : kB.R e W base ok (.slice (some ⟨g, 0, none⟩) n cap) xs) (i : Nat) (hi : i < n) : W.cell? ⟨g, i, none⟩ = some (.bool (xs.getD i false)) ∧ W.frozen? ⟨g, i, none⟩ = false :=
  Kd.R_celln false h (i : Int) (by omega) (by omega)
theorem kB_set {W : World} {e base g n cap : Nat} {ok : Nat → Prop} {xs : List Bool} (h : kB.R e W base ok (.slice (some ⟨g, 0, none⟩) n cap) xs) (i : Nat) (x : Bool) : kB.R e (W.setCell ⟨g, i, none⟩ (.bool x)) base ok (.slice (some ⟨g, 0, none⟩) n cap) (xs.set i x) :=
  Kd.R_putn h (i : Int) x
theorem sortI_c {w : World} {base g n c : Nat} {ok : Nat → Prop} {zs : List Int} (hR : kI.R 2 w base ok (.slice (some ⟨g, 0, none⟩) n c) zs) (hn : n ≤ 1000000) :
    Calls Try.prog 83 #[.slice (some ⟨g, 0, none⟩) n c] w (fun e w' => e = .returned (.tuple #[]) ∧ kI.R 2 w' base ok (.slice (some ⟨g, 0, none⟩) n c) (zs.mergeSort fun x y => decide (x ≤ y)) ∧ Below base w w') := by
  have hok := hR.1
  have hcell := fun j (hj : j < n) => kI_cell hR j hj
  obtain ⟨_, inner, hown, hreps⟩ := hR
  obtain ⟨hil, hbody⟩ := hown
  rcases hbody with ⟨hv, _⟩ | ⟨g', cap, cur, hv, hgb, hheap, hnc, hcm, hcs, htake⟩
  · cases hv
  injection hv with hv1 hvn hv2
  simp only [Option.some.injEq, Addr.mk.injEq, and_true] at hv1
  obtain rfl := hv1
  subst hv2
  subst hvn
  have hgs : g < w.heap.size := (Array.getElem?_eq_some_iff.1 hheap).1
  have hH : Go.Sort.Holds (Value.int .i64) w g 0 zs.toArray := fun j hj => by
    have hj' : j < zs.length := by simpa using hj
    obtain ⟨h1, h2⟩ := hcell j hj'
    rw [Nat.zero_add]
    refine ⟨?_, h2⟩
    rw [h1]
    simp [List.getD_eq_getElem?_getD, hj']
  have hl : (zs.mergeSort fun x y => decide (x ≤ y)).length = zs.length := List.length_mergeSort _
  refine (Try.slices_SortI g 0 c zs w hH hgs (by omega)).mono fun e w' ⟨he, m, os, hw⟩ => ⟨he, ?_, ?_⟩
  · have hw : w' = Go.Proofs.sortWorld (Value.int .i64) w g 0 m (zs.mergeSort fun x y => decide (x ≤ y)).toArray os := hw
    subst hw
    have hsz : kI.sz = 1 := rfl
    have hds : (zs.mergeSort fun x y => decide (x ≤ y)).toArray.size = zs.length := by simp
    rw [hsz, Nat.mul_one] at hcs htake
    have ho : (Go.Proofs.sortWorld (Value.int .i64) w g 0 m (zs.mergeSort fun x y => decide (x ≤ y)).toArray os).ownsRow base 2 1 (.slice (some ⟨g, 0, none⟩) zs.length c) (zs.mergeSort fun x y => decide (x ≤ y)).length (encs (Value.int .i64) (zs.mergeSort fun x y => decide (x ≤ y))) := by
      refine ⟨by rw [encs_length]; omega, .inr ⟨g, c, _, by rw [hl], hgb, sort_self _ _ _ _ _ _ hheap, by rw [hl]; exact hnc, hcm, by simpa [Go.Sort.putCells] using hcs, ?_⟩⟩
      have := put_take (Value.int .i64) (zs.mergeSort fun x y => decide (x ≤ y)).toArray cur (by rw [hds]; omega)
      rw [hds] at this
      rw [hl, Nat.mul_one, this]
      rfl
    exact Kd.R_of_own ho hok
  · have hw : w' = Go.Proofs.sortWorld (Value.int .i64) w g 0 m (zs.mergeSort fun x y => decide (x ≤ y)).toArray os := hw
    subst hw
    refine ⟨rfl, rfl, rfl, ?_, fun k hk => sort_other _ _ _ _ _ _ k (by omega) (by omega)⟩
    simp [Go.Proofs.sortWorld, Go.Sort.grow, Go.Sort.putRow, Go.Sort.mapBlock, Go.Sort.ahead]
end Go.Proofs.Ytimjhehagimcaaa
