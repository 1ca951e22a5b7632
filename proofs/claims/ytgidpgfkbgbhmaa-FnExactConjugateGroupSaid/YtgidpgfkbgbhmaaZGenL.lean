/- PLAIN LAW: the group of matrices (closure and order) of both sides; no condition. -/
import Derived.Test.YtgidpgfkbgbhmaaZKitI
import Derived.Test.YtgidpgfkbgbhmaaZKitG
import Derived.Test.YtgidpgfkbgbhmaaZKitM
set_option linter.unusedVariables false
namespace Go.Proofs.Ytgidpgfkbgbhmaa
/-! ### lists without repetition, built one by one -/
/-! ### the closure -/
/-! ### the order of matrices -/
theorem cmp3_lt {x y : E3} : cmp3 x y < 0 ↔ (x.a.toNat : Int) < y.a.toNat ∨ ((x.a.toNat : Int) = y.a.toNat ∧ ((x.b.toNat : Int) < y.b.toNat ∨ ((x.b.toNat : Int) = y.b.toNat ∧ (x.c.toNat : Int) < y.c.toNat))) := by
  rw [cmp3_eq]
  repeat' split
  all_goals omega
theorem cmp3_z {x y : E3} : cmp3 x y = 0 ↔ (x.a.toNat : Int) = y.a.toNat ∧ (x.b.toNat : Int) = y.b.toNat ∧ (x.c.toNat : Int) = y.c.toNat := by
  rw [cmp3_eq]
  repeat' split
  all_goals omega
theorem u8_int {a b : UInt8} (h : (a.toNat : Int) = b.toNat) : a = b := (u8_eq a b).2 h
theorem cmp3_zero_eq {x y : E3} (h : cmp3 x y = 0) : x = y := by
  obtain ⟨h1, h2, h3⟩ := cmp3_z.1 h
  cases x
  cases y
  have := u8_int h1
  have := u8_int h2
  have := u8_int h3
  simp_all
theorem cmp3_self (x : E3) : cmp3 x x = 0 := cmp3_z.2 ⟨rfl, rfl, rfl⟩
theorem cmpM_lt {g h : M9} : cmpM g h < 0 ↔ cmp3 g.r0 h.r0 < 0 ∨ (g.r0 = h.r0 ∧ (cmp3 g.r1 h.r1 < 0 ∨ (g.r1 = h.r1 ∧ cmp3 g.r2 h.r2 < 0))) := by
  unfold cmpM
  by_cases h0 : cmp3 g.r0 h.r0 = 0
  · have e0 := cmp3_zero_eq h0
    rw [if_pos h0]
    by_cases h1 : cmp3 g.r1 h.r1 = 0
    · have e1 := cmp3_zero_eq h1
      rw [if_pos h1]
      simp [e0, e1, cmp3_self]
    · rw [if_neg h1]
      have n1 : g.r1 ≠ h.r1 := fun e => h1 (by rw [e]; exact cmp3_self _)
      simp [e0, n1, cmp3_self]
  · rw [if_neg h0]
    have n0 : g.r0 ≠ h.r0 := fun e => h0 (by rw [e]; exact cmp3_self _)
    simp [n0]
theorem cmp3_irr (x : E3) : ¬ cmp3 x x < 0 := by rw [cmp3_self]; omega
theorem cmp3_trans {x y z : E3} (h : cmp3 x y < 0) (k : cmp3 y z < 0) : cmp3 x z < 0 := by
  rw [cmp3_lt] at *
  omega
theorem cmp3_tri (x y : E3) : cmp3 x y < 0 ∨ x = y ∨ cmp3 y x < 0 := by
  by_cases h : x = y
  · exact .inr (.inl h)
  · have : cmp3 x y ≠ 0 := fun e => h (cmp3_zero_eq e)
    rw [Ne, cmp3_z] at this
    rw [cmp3_lt, cmp3_lt]
    omega
theorem cmpM_irr (g : M9) : ¬ cmpM g g < 0 := by
  rw [cmpM_lt]
  simp [cmp3_irr]
theorem cmpM_trans {a b c : M9} (h : cmpM a b < 0) (k : cmpM b c < 0) : cmpM a c < 0 := by
  rw [cmpM_lt] at *
  rcases h with h | ⟨h0, h⟩
  · rcases k with k | ⟨k0, k⟩
    · exact .inl (cmp3_trans h k)
    · exact .inl (k0 ▸ h)
  · rcases k with k | ⟨k0, k⟩
    · exact .inl (h0 ▸ k)
    · refine .inr ⟨h0.trans k0, ?_⟩
      rcases h with h | ⟨h1, h⟩
      · rcases k with k | ⟨k1, k⟩
        · exact .inl (cmp3_trans h k)
        · exact .inl (k1 ▸ h)
      · rcases k with k | ⟨k1, k⟩
        · exact .inl (h1 ▸ k)
        · exact .inr ⟨h1.trans k1, cmp3_trans h k⟩
theorem cmpM_tri (a b : M9) : cmpM a b < 0 ∨ a = b ∨ cmpM b a < 0 := by
  rw [cmpM_lt, cmpM_lt]
  rcases cmp3_tri a.r0 b.r0 with h | h | h
  · exact .inl (.inl h)
  · rcases cmp3_tri a.r1 b.r1 with k | k | k
    · exact .inl (.inr ⟨h, .inl k⟩)
    · rcases cmp3_tri a.r2 b.r2 with l | l | l
      · exact .inl (.inr ⟨h, .inr ⟨k, l⟩⟩)
      · exact .inr (.inl (by cases a; cases b; simp_all))
      · exact .inr (.inr (.inr ⟨h.symm, .inr ⟨k.symm, l⟩⟩))
    · exact .inr (.inr (.inr ⟨h.symm, .inl k⟩))
  · exact .inr (.inr (.inl h))
/-- Sorted: no element comes ahead of an earlier one. -/
def SrtM (l : List M9) : Prop := l.Pairwise fun a b => ¬ cmpM b a < 0
theorem srt_anti {a b : M9} (h : ¬ cmpM b a < 0) (k : ¬ cmpM a b < 0) : a = b := by
  rcases cmpM_tri a b with g | g | g
  · exact (k g).elim
  · exact g
  · exact (h g).elim
theorem srt_perm_eq : ∀ {l m : List M9}, l.Perm m → SrtM l → SrtM m → l = m
  | [], m, h, _, _ => (List.Perm.nil_eq h)
  | a :: l, [], h, _, _ => by
    have := h.length_eq
    simp at this
  | a :: l, b :: m, h, hl, hm => by
    obtain ⟨h1, h2⟩ := List.pairwise_cons.1 hl
    obtain ⟨k1, k2⟩ := List.pairwise_cons.1 hm
    have hab : a = b := by
      have ha : a ∈ b :: m := h.mem_iff.1 (by simp)
      have hb : b ∈ a :: l := h.mem_iff.2 (by simp)
      rcases List.mem_cons.1 ha with e | ha
      · exact e
      · rcases List.mem_cons.1 hb with e | hb
        · exact e.symm
        · exact srt_anti (h1 b hb) (k1 a ha)
    subst hab
    rw [srt_perm_eq h.cons_inv h2 k2]
/-- The place at which the reference puts a matrix. -/
def placeM (x : M9) (out : List M9) : Nat → Nat
  | 0 => 0
  | k + 1 => if befM x (out.getD k zM) then placeM x out k else k + 1
theorem placeM_le (x : M9) (out : List M9) : ∀ k, placeM x out k ≤ k
  | 0 => Nat.le_refl 0
  | k + 1 => by
    have h := placeM_le x out k
    show (if befM x (out.getD k zM) then placeM x out k else k + 1) ≤ k + 1
    split
    · omega
    · exact Nat.le_refl _
def insM (out : List M9) (x : M9) : List M9 := out.take (placeM x out out.length) ++ x :: out.drop (placeM x out out.length)
def sortM (l : List M9) : List M9 := l.foldl insM []
theorem insM_perm (out : List M9) (x : M9) : (insM out x).Perm (x :: out) := by
  unfold insM
  refine List.perm_middle.trans ?_
  rw [List.take_append_drop]
theorem insM_len (out : List M9) (x : M9) : (insM out x).length = out.length + 1 := by
  have := (insM_perm out x).length_eq
  simpa using this
theorem sortM_snoc (l : List M9) (x : M9) : sortM (l ++ [x]) = insM (sortM l) x := by simp [sortM]
theorem sortM_perm (l : List M9) : (sortM l).Perm l := by
  have : ∀ (l acc : List M9), (l.foldl insM acc).Perm (acc ++ l) := by
    intro l
    induction l with
    | nil => intro acc; simp
    | cons x l ih =>
      intro acc
      rw [List.foldl_cons]
      refine (ih _).trans ?_
      refine ((insM_perm acc x).append_right l).trans ?_
      exact List.perm_middle.symm
  simpa [sortM] using this l []
theorem placeM_before (x : M9) {out : List M9} (hs : SrtM out) : ∀ k, k ≤ out.length → (∀ i, i < placeM x out k → ¬ cmpM x (out.getD i zM) < 0) ∧ (∀ i, placeM x out k ≤ i → i < k → cmpM x (out.getD i zM) < 0)
  | 0, _ => ⟨fun i h => by simp [placeM] at h, fun i _ h => by omega⟩
  | k + 1, hk => by
    obtain ⟨h1, h2⟩ := placeM_before x hs k (by omega)
    cases hb : befM x (out.getD k zM) with
    | true =>
      have e : placeM x out (k + 1) = placeM x out k := by show (if _ then _ else _) = _; rw [if_pos hb]
      rw [e]
      refine ⟨h1, fun i hi hik => ?_⟩
      by_cases h : i = k
      · rw [h]
        exact of_decide_eq_true hb
      · exact h2 i hi (by omega)
    | false =>
      have e : placeM x out (k + 1) = k + 1 := by show (if _ then _ else _) = _; rw [if_neg (by rw [hb]; decide)]
      rw [e]
      have hb : ¬ cmpM x (out.getD k zM) < 0 := of_decide_eq_false hb
      refine ⟨fun i hi hc => ?_, fun i a b => by omega⟩
      by_cases h : i = k
      · rw [h] at hc
        exact hb hc
      · have hik : i < k := by omega
        have e1 : out.getD i zM = out[i] := by simp [List.getD_eq_getElem?_getD, show i < out.length by omega]
        have e2 : out.getD k zM = out[k] := by simp [List.getD_eq_getElem?_getD, show k < out.length by omega]
        have hp := List.pairwise_iff_getElem.1 hs i k (by omega) (by omega) hik
        rw [e1] at hc
        rw [e2] at hb
        rcases cmpM_tri out[i] out[k] with g | g | g
        · exact hb (cmpM_trans hc g)
        · rw [g] at hc
          exact hb hc
        · exact hp g
theorem insM_srt {out : List M9} (x : M9) (hs : SrtM out) : SrtM (insM out x) := by
  obtain ⟨h1, h2⟩ := placeM_before x hs out.length (Nat.le_refl _)
  have hle := placeM_le x out out.length
  unfold insM
  generalize placeM x out out.length = k at *
  have hs' := hs
  rw [← List.take_append_drop k out] at hs'
  obtain ⟨s1, s2, s3⟩ := List.pairwise_append.1 hs'
  refine List.pairwise_append.2 ⟨s1, List.pairwise_cons.2 ⟨fun b hb => ?_, s2⟩, fun a ha b hb => ?_⟩
  · obtain ⟨i, hi, rfl⟩ := List.getElem_of_mem hb
    simp at hi
    have := h2 (k + i) (by omega) (by omega)
    have e : out.getD (k + i) zM = out[k + i] := by simp [List.getD_eq_getElem?_getD, show k + i < out.length by omega]
    rw [e] at this
    rw [List.getElem_drop]
    exact fun hc => cmpM_irr _ (cmpM_trans this hc)
  · rcases List.mem_cons.1 hb with rfl | hb
    · obtain ⟨i, hi, rfl⟩ := List.getElem_of_mem ha
      simp at hi
      have := h1 i (by omega)
      have e : out.getD i zM = out[i] := by simp [List.getD_eq_getElem?_getD, show i < out.length by omega]
      rw [e] at this
      rw [List.getElem_take]
      exact this
    · exact s3 a ha b hb
theorem sortM_srt (l : List M9) : SrtM (sortM l) := by
  have : ∀ (l acc : List M9), SrtM acc → SrtM (l.foldl insM acc) := by
    intro l
    induction l with
    | nil => exact fun acc h => h
    | cons x l ih => exact fun acc h => ih _ (insM_srt x h)
  exact this l [] List.Pairwise.nil
theorem sortM_of {l m : List M9} (h : m.Perm l) (hs : SrtM m) : m = sortM l := srt_perm_eq (h.trans (sortM_perm l).symm) hs (sortM_srt l)
theorem srt_of_getD {m : List M9} (h : ∀ i j, i < j → j < m.length → ¬ cmpM (m.getD j zM) (m.getD i zM) < 0) : SrtM m := by
  refine List.pairwise_iff_getElem.2 fun i j hi hj hij => ?_
  have := h i j hij hj
  simpa [List.getD_eq_getElem?_getD, hi, hj] using this
theorem sortM_len (l : List M9) : (sortM l).length = l.length := (sortM_perm l).length_eq
end Go.Proofs.Ytgidpgfkbgbhmaa
