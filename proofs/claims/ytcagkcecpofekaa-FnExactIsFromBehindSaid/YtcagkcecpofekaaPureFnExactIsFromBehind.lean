/- Proves that the law FnExactIsFromBehind answers true for every list of whole numbers that fits a machine. -/
import Derived.Test.YtcagkcecpofekaaPFnExactIsFromBehindx2
import Derived.Test.YtcagkcecpofekaaWSized
namespace Go.Proofs.Ytcagkcecpofekaa.Pure
open Go.RowKit Go.Proofs.Ytcagkcecpofekaa.PFnExactIsFromBehind Go.Proofs.YtcagkcecpofekaaW.PrintWords Go.Proofs.YtcagkcecpofekaaW.PrintLast

theorem ifb_wrap {i : Int} (h0 : 0 ≤ i) (h : i < 140737488351233) : wrap64 (i + 1) = i + 1 := by
  unfold wrap64
  omega
theorem ifb_wrap' {i : Int} (h0 : -140737488351233 ≤ i) (h : i < 140737488351233) : wrap64 i = i := by
  unfold wrap64
  omega

theorem ifb_count (a : Int) : impl_isCount.f a = spec_l01In.f a (-1000000000) 1000000000 := rfl

theorem ifb_in_some (a b c : Int) : ∃ r, spec_l01In.f a b c = some r := by
  unfold spec_l01In.f
  split <;> exact ⟨_, rfl⟩

theorem ifb_series_same (l : List Int) : ∀ (k : Nat) (i : Int), impl_isSeries.l0 k l l (l.length : Int) i = spec_l04Is.l0 k l i := by
  intro k
  induction k with
  | zero => intro i; simp only [impl_isSeries.l0, spec_l04Is.l0]
  | succ k ih =>
    intro i
    simp only [impl_isSeries.l0, spec_l04Is.l0, ifb_count, ih]
    by_cases h1 : i < (l.length : Int)
    · simp only [if_pos h1]
    · simp only [if_neg h1]

theorem ifb_series_ends (l : List Int) (hl : l.length ≤ 1048576) (d : Nat) : ∀ (k : Nat) (i : Int), 0 ≤ i → i ≤ l.length → (l.length : Int) - i = d → d < k →
    ∃ r, spec_l04Is.l0 k l i = some r := by
  induction d with
  | zero =>
    intro k i h0 h1 hd hk
    obtain ⟨k, rfl⟩ : ∃ m, k = m + 1 := ⟨k - 1, by omega⟩
    simp only [spec_l04Is.l0]
    rw [if_neg (by omega)]
    split <;> exact ⟨_, rfl⟩
  | succ d ih =>
    intro k i h0 h1 hd hk
    obtain ⟨k, rfl⟩ : ∃ m, k = m + 1 := ⟨k - 1, by omega⟩
    simp only [spec_l04Is.l0]
    rw [if_pos (by omega), if_pos h0]
    obtain ⟨b, hb⟩ := ifb_in_some (rd l i) (-1000000000) 1000000000
    rw [hb]
    simp only [Option.bind_some]
    cases b with
    | true =>
      rw [if_pos rfl, ifb_wrap h0 (by omega)]
      exact ih k (i + 1) (by omega) (by omega) (by omega) (by omega)
    | false => exact ⟨false, by simp⟩

def ifb_sym (l : List Int) (e i : Int) : Bool := (List.range e.toNat).all fun j => decide ((j : Int) < i) || decide (rd l j = rd l (e - 1 - j))

theorem ifb_sym_iff (l : List Int) (e i : Int) : ifb_sym l e i = true ↔ ∀ j : Nat, i ≤ (j : Int) → (j : Int) < e → rd l j = rd l (e - 1 - j) := by
  unfold ifb_sym
  rw [List.all_eq_true]
  constructor
  · intro H j h1 h2
    have := H j (List.mem_range.2 (by omega))
    rw [Bool.or_eq_true, decide_eq_true_iff, decide_eq_true_iff] at this
    rcases this with h | h
    · omega
    · exact h
  · intro H j hj
    have := List.mem_range.1 hj
    rw [Bool.or_eq_true, decide_eq_true_iff, decide_eq_true_iff]
    by_cases h : (j : Int) < i
    · exact .inl h
    · exact .inr (H j (by omega) (by omega))

theorem ifb_sym_end (l : List Int) (e i : Int) (h : e ≤ i) : ifb_sym l e i = true :=
  (ifb_sym_iff l e i).2 (fun j h1 h2 => by omega)

theorem ifb_sym_step (l : List Int) (e i : Int) (h0 : 0 ≤ i) (h : i < e) : ifb_sym l e i = (decide (rd l i = rd l (e - 1 - i)) && ifb_sym l e (i + 1)) := by
  rw [Bool.eq_iff_iff, Bool.and_eq_true, decide_eq_true_iff, ifb_sym_iff, ifb_sym_iff]
  constructor
  · intro H
    refine ⟨?_, fun j h1 h2 => H j (by omega) h2⟩
    have := H i.toNat (by omega) (by omega)
    rwa [Int.toNat_of_nonneg h0] at this
  · rintro ⟨H1, H2⟩ j h1 h2
    by_cases hj : (j : Int) = i
    · rw [hj]
      exact H1
    · exact H2 j (by omega) h2

theorem ifb_spec_l1 (l : List Int) (e : Int) (he0 : 0 ≤ e) (hel : e ≤ l.length) (hl : l.length ≤ 1048576) (d : Nat) : ∀ (k : Nat) (s : Bool) (i : Int), 0 ≤ i → i ≤ e → e - i = d → d < k →
    spec_IsFromBehind.l1 k l e s i = some (s && ifb_sym l e i, 0) := by
  induction d with
  | zero =>
    intro k s i h0 h1 hd hk
    obtain ⟨k, rfl⟩ : ∃ m, k = m + 1 := ⟨k - 1, by omega⟩
    simp only [spec_IsFromBehind.l1]
    rw [if_neg (by omega), ifb_sym_end l e i (by omega), Bool.and_true]
  | succ d ih =>
    intro k s i h0 h1 hd hk
    obtain ⟨k, rfl⟩ : ∃ m, k = m + 1 := ⟨k - 1, by omega⟩
    simp only [spec_IsFromBehind.l1]
    rw [if_pos (by omega), ifb_wrap h0 (by omega), ifb_sym_step l e i h0 (by omega)]
    cases s with
    | true =>
      rw [if_pos rfl, if_pos h0, if_pos (by omega), ifb_wrap' (i := e - 1) (by omega) (by omega), ifb_wrap' (i := e - 1 - i) (by omega) (by omega), if_pos (by omega), if_pos (by omega),
        ih k _ (i + 1) (by omega) (by omega) (by omega) (by omega)]
      congr 1
    | false =>
      rw [if_neg (by decide), ih k _ (i + 1) (by omega) (by omega) (by omega) (by omega)]
      simp

theorem ifb_impl_l1 (l : List Int) (e : Int) (he0 : 0 ≤ e) (hel : e ≤ l.length) (hl : l.length ≤ 1048576) (d : Nat) : ∀ (k : Nat) (i : Int), 0 ≤ i → i ≤ e → e - i = d → d < k →
    impl_IsFromBehind.l1 k l e e i = some (decide (e > 0) && ifb_sym l e i, 0) := by
  induction d with
  | zero =>
    intro k i h0 h1 hd hk
    obtain ⟨k, rfl⟩ : ∃ m, k = m + 1 := ⟨k - 1, by omega⟩
    simp only [impl_IsFromBehind.l1]
    rw [if_neg (by omega), ifb_sym_end l e i (by omega), Bool.and_true]
  | succ d ih =>
    intro k i h0 h1 hd hk
    obtain ⟨k, rfl⟩ : ∃ m, k = m + 1 := ⟨k - 1, by omega⟩
    simp only [impl_IsFromBehind.l1]
    rw [if_pos (by omega), ifb_wrap h0 (by omega), ifb_sym_step l e i h0 (by omega), if_pos h0, if_pos (by omega), ifb_wrap' (i := e - 1) (by omega) (by omega), ifb_wrap' (i := e - 1 - i) (by omega) (by omega), if_pos (by omega), if_pos (by omega)]
    by_cases hq : rd l i = rd l (e - 1 - i)
    · rw [if_pos hq, ih k (i + 1) (by omega) (by omega) (by omega) (by omega), decide_eq_true hq, Bool.true_and]
    · rw [if_neg hq, decide_eq_false hq, Bool.false_and, Bool.and_false]

theorem ifb_l0 (l : List Int) (hl : l.length ≤ 1048576) (n : Nat) : ∀ (k : Nat) (e : Int), 0 ≤ e → e ≤ l.length → e = n → n + 3 ≤ k →
    ∃ r, spec_IsFromBehind.l0 k l e = some r ∧ impl_IsFromBehind.l0 k l e = some r := by
  induction n with
  | zero =>
    intro k e h0 h1 hn hk
    obtain ⟨k, rfl⟩ : ∃ m, k = m + 1 + 1 := ⟨k - 2, by omega⟩
    refine ⟨(decide (e > 0) && ifb_sym l e 0, 0), ?_, ?_⟩
    · simp only [spec_IsFromBehind.l0, spec_IsFromBehind.j1]
      rw [if_neg (by omega), ifb_spec_l1 l e h0 h1 hl 0 k _ 0 (by omega) (by omega) (by omega) (by omega)]
    · simp only [impl_IsFromBehind.l0, impl_IsFromBehind.j1]
      rw [if_neg (by omega), ifb_impl_l1 l e h0 h1 hl 0 k 0 (by omega) (by omega) (by omega) (by omega)]
  | succ n ih =>
    intro k e h0 h1 hn hk
    obtain ⟨k, rfl⟩ : ∃ m, k = m + 1 + 1 := ⟨k - 2, by omega⟩
    by_cases hz : rd l (e - 1) = 0
    · obtain ⟨r, h3, h4⟩ := ih (k + 1) (e - 1) (by omega) (by omega) (by omega) (by omega)
      refine ⟨r, ?_, ?_⟩
      · rw [spec_IsFromBehind.l0, if_pos (by omega), ifb_wrap' (i := e - 1) (by omega) (by omega), if_pos (by omega), if_pos (by omega), if_pos hz]
        exact h3
      · rw [impl_IsFromBehind.l0, if_pos (by omega), ifb_wrap' (i := e - 1) (by omega) (by omega), if_pos (by omega), if_pos (by omega), if_pos hz]
        exact h4
    · refine ⟨(decide (e > 0) && ifb_sym l e 0, 0), ?_, ?_⟩
      · rw [spec_IsFromBehind.l0, if_pos (by omega), ifb_wrap' (i := e - 1) (by omega) (by omega), if_pos (by omega), if_pos (by omega), if_neg hz, spec_IsFromBehind.j1,
          ifb_spec_l1 l e h0 h1 hl (n + 1) k _ 0 (by omega) (by omega) (by omega) (by omega)]
      · rw [impl_IsFromBehind.l0, if_pos (by omega), ifb_wrap' (i := e - 1) (by omega) (by omega), if_pos (by omega), if_pos (by omega), if_neg hz, impl_IsFromBehind.j1,
          ifb_impl_l1 l e h0 h1 hl (n + 1) k 0 (by omega) (by omega) (by omega) (by omega)]

theorem ifb_copy (l : List Int) (hl : l.length ≤ 1048576) (d : Nat) : ∀ (k : Nat) (i : Nat) (m : List Int), i ≤ l.length → l.length - i = d → m.length = l.length → d < k → m.take i = l.take i →
    laws_toInt64S.l0 k l m i = some l := by
  induction d with
  | zero =>
    intro k i m h1 hd hm hk ht
    obtain ⟨k, rfl⟩ : ∃ m, k = m + 1 := ⟨k - 1, by omega⟩
    simp only [laws_toInt64S.l0]
    rw [if_neg (by omega)]
    rw [List.take_of_length_le (by omega), List.take_of_length_le (by omega)] at ht
    rw [ht]
  | succ d ih =>
    intro k i m h1 hd hm hk ht
    obtain ⟨k, rfl⟩ : ∃ m, k = m + 1 := ⟨k - 1, by omega⟩
    simp only [laws_toInt64S.l0]
    rw [if_pos (by omega), if_pos (by omega), if_pos (by omega), ifb_wrap (by omega) (by omega)]
    have := ih k (i + 1) (m.set i (rd l i)) (by omega) (by omega) (by simpa using hm) (by omega) (by
      rw [List.take_set, List.take_succ_eq_append_getElem (by omega), List.take_succ_eq_append_getElem (l := l) (by omega), ht, List.set_append_right _ _ (by simp; omega)]
      simp [rd, List.getD]
      rw [List.getElem?_eq_getElem (by omega)]
      have : min i l.length = i := by omega
      simp [this])
    simpa using this

theorem ifb_copies (l : List Int) (hl : l.length ≤ 1048576) (k : Nat) (hk : l.length < k) : laws_toInt64S.f k l = some l := by
  unfold laws_toInt64S.f
  rw [if_pos (by omega), if_pos (by omega)]
  exact ifb_copy l hl l.length k 0 _ (by omega) (by omega) (by simp) hk (by simp)

theorem ifb_eq (l : List Int) (hl : l.length ≤ 1048576) (d : Nat) : ∀ (k : Nat) (i : Int), 0 ≤ i → i ≤ l.length → (l.length : Int) - i = d → d < k → laws_eqInt64S.l0 k l l i = some true := by
  induction d with
  | zero =>
    intro k i h0 h1 hd hk
    obtain ⟨k, rfl⟩ : ∃ m, k = m + 1 := ⟨k - 1, by omega⟩
    simp only [laws_eqInt64S.l0]
    rw [if_neg (by omega)]
  | succ d ih =>
    intro k i h0 h1 hd hk
    obtain ⟨k, rfl⟩ : ∃ m, k = m + 1 := ⟨k - 1, by omega⟩
    simp only [laws_eqInt64S.l0]
    rw [if_pos (by omega), if_pos h0, if_pos (by omega), if_pos trivial, ifb_wrap h0 (by omega)]
    exact ih k (i + 1) (by omega) (by omega) (by omega) (by omega)

theorem FnExactIsFromBehind : laws_FnExactIsFromBehind.Pure := by
  intro l _ _ _
  by_cases hl : l.length ≤ 1048576
  · refine ⟨l.length + 4, ?_⟩
    have hc := ifb_copies l hl (l.length + 4) (by omega)
    obtain ⟨b, hb⟩ := ifb_series_ends l hl l.length (l.length + 4) 0 (by omega) (by omega) (by omega) (by omega)
    have hb' := (ifb_series_same l (l.length + 4) 0).trans hb
    have hsame : ∃ r, spec_IsFromBehind.f (l.length + 4) l = some r ∧ impl_IsFromBehind.f (l.length + 4) l = some r := by
      unfold spec_IsFromBehind.f impl_IsFromBehind.f spec_l04Is.f impl_isSeries.f
      rw [hb, hb']
      simp only [Option.bind_some]
      cases b with
      | true =>
        simp only [if_true]
        exact ifb_l0 l hl l.length (l.length + 4) l.length (by omega) (by omega) (by omega) (by omega)
      | false => exact ⟨(false, 2), by simp, by simp⟩
    obtain ⟨r, h1, h2⟩ := hsame
    unfold laws_FnExactIsFromBehind.f
    rw [if_neg (by omega), hc]
    simp only [Option.bind_some]
    rw [h1]
    simp only [Option.bind_some]
    rw [h2]
    simp only [Option.bind_some, bne_self_eq_false]
    rw [if_neg (by decide)]
    simp only [laws_FnExactIsFromBehind.j0]
    rw [if_neg (by decide), ifb_copies l hl (l.length + 3) (by omega)]
    simp only [Option.bind_some]
    unfold laws_eqInt64S.f
    rw [if_pos rfl, ifb_eq l hl l.length (l.length + 3) 0 (by omega) (by omega) (by omega) (by omega)]
    simp
  · refine ⟨1, ?_⟩
    unfold laws_FnExactIsFromBehind.f
    rw [if_pos (by omega)]

end Go.Proofs.Ytcagkcecpofekaa.Pure

namespace Go.Proofs.Ytcagkcecpofekaa
open Go.ChangeShapes Go.WideShapes
/-- The word of the sizes under the name by which the row calls it. -/
theorem PrintWords.sized_ints {H : Type} {enc : TypeId × Value → H} {P : Program} {W : World} {base : Nat} {spare : Nat → Bool} {held : Bool} {t e : TypeId} {k : IntKind} {a : Option Addr} {len cap : Nat} {d : DataW H} {ps : List MemPlace} {ts : List TypeId} {ds : List (DataW H)} {j : Nat}
    (hsz : (DataW.weightsEach P ts ds).all (· ≤ reachBytes) = true) (ht : ts[j]? = some t) (hd : ds[j]? = some d) (hu : P.underlying t = some (.slice e)) (he : P.underlying e = some (.int k)) (hc : P.cellsOf e = 1) {B : Nat} (hB : P.bytesOf e = B)
    (h : DataW.Trod enc P W base spare held t (.slice a len cap) d ps) : len * B ≤ 140737488351232 :=
  Go.Proofs.YtcagkcecpofekaaW.PrintWords.sized_ints hsz ht hd hu he hc hB h
end Go.Proofs.Ytcagkcecpofekaa
