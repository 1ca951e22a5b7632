/- PLAIN LAW: rows sorted and compacted are rows put in one after the other; no condition. -/
import Derived.Test.YtimjhehagimcaaaYKitL
import Derived.Test.YtimjhehagimcaaaYTag0
set_option linter.unusedVariables false
set_option linter.unusedSimpArgs false
namespace Go.Proofs.Ytimjhehagimcaaa
open Go.RowKit Go.Proofs.YtimjhehagimcaaaW.PrintWords
attribute [local go_sem] Later.cell Later.frozen Later.lt Later.lt_add Later.le Later.le_add Later.ne Later.ne' add_at
theorem cmpI_cons (x y : Int) (a b : List Int) : cmpI (x :: a) (y :: b) = if x < y then -1 else if y < x then 1 else cmpI a b := rfl
theorem cmpI_swap : ∀ a b : List Int, cmpI a b = - cmpI b a
  | [], [] => rfl
  | [], _ :: _ => rfl
  | _ :: _, [] => rfl
  | x :: a, y :: b => by
    rw [cmpI_cons, cmpI_cons, cmpI_swap a b]
    by_cases h1 : x < y
    · rw [if_pos h1, if_neg (by omega), if_pos h1]
    · by_cases h2 : y < x
      · rw [if_neg h1, if_pos h2, if_pos h2]; rfl
      · rw [if_neg h1, if_neg h2, if_neg h2, if_neg h1]
theorem cmpI_trans : ∀ a b c : List Int, cmpI a b < 0 → cmpI b c < 0 → cmpI a c < 0
  | [], [], _, h, _ => by simp [cmpI] at h
  | [], _ :: _, [], _, h => by simp [cmpI] at h
  | [], _ :: _, _ :: _, _, _ => by simp [cmpI]
  | _ :: _, [], _, h, _ => by simp [cmpI] at h
  | _ :: _, _ :: _, [], _, h => by simp [cmpI] at h
  | x :: a, y :: b, z :: c, h1, h2 => by
    rw [cmpI_cons] at h1 h2 ⊢
    by_cases e1 : x < y
    · by_cases e2 : y < z
      · rw [if_pos (by omega)]; decide
      · rw [if_neg e2] at h2
        by_cases e3 : z < y
        · rw [if_pos e3] at h2; exact absurd h2 (by decide)
        · rw [if_pos (by omega)]; decide
    · rw [if_neg e1] at h1
      by_cases e1' : y < x
      · rw [if_pos e1'] at h1; exact absurd h1 (by decide)
      · rw [if_neg e1'] at h1
        by_cases e2 : y < z
        · rw [if_pos (by omega)]; decide
        · rw [if_neg e2] at h2
          by_cases e3 : z < y
          · rw [if_pos e3] at h2; exact absurd h2 (by decide)
          · rw [if_neg e3] at h2
            rw [if_neg (by omega), if_neg (by omega)]
            exact cmpI_trans a b c h1 h2
theorem cmpI_lt_self (a : List Int) : ¬ cmpI a a < 0 := by rw [cmpI_self]; decide
theorem cmpI_le {a b : List Int} (h : ¬ cmpI b a < 0) : a = b ∨ cmpI a b < 0 := by
  have := cmpI_swap a b
  by_cases e : cmpI a b = 0
  · exact .inl (cmpI_zero e)
  · exact .inr (by omega)
theorem cmpI_ntrans (a b c : List Int) (h : ¬ cmpI a b < 0) (k : ¬ cmpI b c < 0) : ¬ cmpI a c < 0 := by
  intro hh
  rcases cmpI_le h with e | e
  · rw [e] at k; exact k hh
  · exact k (cmpI_trans _ _ _ e hh)
/-- Two lists that rise strictly and have the same members are the same. -/
theorem rise_ext : ∀ {l m : List (List Int)}, l.Pairwise (fun a b => cmpI a b < 0) → m.Pairwise (fun a b => cmpI a b < 0) → (∀ x, x ∈ l ↔ x ∈ m) → l = m
  | [], [], _, _, _ => rfl
  | [], b :: m, _, _, h => absurd ((h b).2 (by simp)) (by simp)
  | a :: l, [], _, _, h => absurd ((h a).1 (by simp)) (by simp)
  | a :: l, b :: m, h1, h2, h => by
    obtain ⟨ha, hl⟩ := List.pairwise_cons.1 h1
    obtain ⟨hb, hm⟩ := List.pairwise_cons.1 h2
    have hab : a = b := by
      rcases List.mem_cons.1 ((h a).1 (by simp)) with e | e
      · exact e
      · rcases List.mem_cons.1 ((h b).2 (by simp)) with e2 | e2
        · exact e2.symm
        · exact absurd (cmpI_trans _ _ _ (hb a e) (ha b e2)) (cmpI_lt_self b)
    subst hab
    congr 1
    refine rise_ext hl hm fun x => ⟨fun hx => ?_, fun hx => ?_⟩
    · rcases List.mem_cons.1 ((h x).1 (by simp [hx])) with e | e
      · exact absurd (by have := ha x hx; rwa [e] at this) (cmpI_lt_self a)
      · exact e
    · rcases List.mem_cons.1 ((h x).2 (by simp [hx])) with e | e
      · exact absurd (by have := hb x hx; rwa [e] at this) (cmpI_lt_self a)
      · exact e
/-! ### the reference's: a row is put in -/
def atI (own : List Int) : List (List Int) → Nat
  | [] => 0
  | x :: l => if cmpI x own < 0 then atI own l + 1 else 0
def insI (own : List Int) (l : List (List Int)) : List (List Int) :=
  if atI own l < l.length ∧ cmpI (l.getD (atI own l) []) own = 0 then l else l.take (atI own l) ++ (own :: l.drop (atI own l))
theorem atI_le (own : List Int) : ∀ l : List (List Int), atI own l ≤ l.length
  | [] => Nat.le_refl _
  | x :: l => by
    unfold atI
    split
    · have := atI_le own l; simp; omega
    · simp
theorem atI_step (own : List Int) : ∀ (l : List (List Int)) (i : Nat), i ≤ atI own l → i < l.length → (cmpI (l.getD i []) own < 0 ↔ i < atI own l)
  | [], i, _, h => by simp at h
  | x :: l, 0, _, _ => by
    unfold atI
    show cmpI x own < 0 ↔ _
    split
    · next h => simp [h]
    · next h => simp [h]
  | x :: l, i + 1, h1, h2 => by
    unfold atI at h1 ⊢
    split at h1
    · next h =>
      rw [if_pos h]
      have := atI_step own l i (by omega) (by simpa using h2)
      show cmpI (l.getD i []) own < 0 ↔ _
      rw [this]
      omega
    · omega
theorem insI_cons (own x : List Int) (l : List (List Int)) : insI own (x :: l) = if cmpI x own < 0 then x :: insI own l else if cmpI x own = 0 then x :: l else own :: x :: l := by
  unfold insI
  by_cases h : cmpI x own < 0
  · have e : atI own (x :: l) = atI own l + 1 := by show (if _ then _ else _) = _; rw [if_pos h]
    rw [e, if_pos h]
    have e2 : (x :: l).getD (atI own l + 1) [] = l.getD (atI own l) [] := rfl
    rw [e2]
    by_cases h2 : atI own l < l.length ∧ cmpI (l.getD (atI own l) []) own = 0
    · rw [if_pos ⟨by simpa using h2.1, h2.2⟩, if_pos h2]
    · rw [if_neg (fun hh => h2 ⟨by simpa using hh.1, hh.2⟩), if_neg h2]
      rfl
  · have e : atI own (x :: l) = 0 := by show (if _ then _ else _) = _; rw [if_neg h]
    rw [e, if_neg h]
    by_cases h2 : cmpI x own = 0
    · rw [if_pos ⟨by simp, h2⟩, if_pos h2]
    · rw [if_neg (fun hh => h2 hh.2), if_neg h2]
      rfl
theorem insI_mem (own : List Int) : ∀ (l : List (List Int)) (x : List Int), x ∈ insI own l ↔ x = own ∨ x ∈ l
  | [], x => by simp [insI]
  | y :: l, x => by
    rw [insI_cons]
    split
    · rw [List.mem_cons, insI_mem own l, List.mem_cons]
      constructor
      · rintro (h | h | h)
        · exact .inr (.inl h)
        · exact .inl h
        · exact .inr (.inr h)
      · rintro (h | h | h)
        · exact .inr (.inl h)
        · exact .inl h
        · exact .inr (.inr h)
    · split
      · next h =>
        have := cmpI_zero h
        subst this
        simp
      · simp
theorem insI_rise (own : List Int) : ∀ {l : List (List Int)}, l.Pairwise (fun a b => cmpI a b < 0) → (insI own l).Pairwise (fun a b => cmpI a b < 0)
  | [], _ => by simp [insI]
  | y :: l, h => by
    obtain ⟨hy, hl⟩ := List.pairwise_cons.1 h
    rw [insI_cons]
    split
    · next h1 =>
      refine List.pairwise_cons.2 ⟨fun x hx => ?_, insI_rise own hl⟩
      rcases (insI_mem own l x).1 hx with e | e
      · rw [e]; exact h1
      · exact hy x e
    · split
      · exact h
      · next h1 h2 =>
        have h3 : cmpI own y < 0 := by have := cmpI_swap own y; omega
        refine List.pairwise_cons.2 ⟨fun x hx => ?_, h⟩
        rcases List.mem_cons.1 hx with e | e
        · rw [e]; exact h3
        · exact cmpI_trans _ _ _ h3 (hy x e)
theorem insI_len (own : List Int) (l : List (List Int)) : (insI own l).length ≤ l.length + 1 := by
  unfold insI
  split
  · omega
  · have := atI_le own l
    simp
    omega
def orbS (l : List (List Int)) : List (List Int) := l.foldl (fun out own => insI own out) []
theorem orbS_snoc (l : List (List Int)) (x : List Int) : orbS (l ++ [x]) = insI x (orbS l) := by simp [orbS]
theorem foldI_mem : ∀ (l acc : List (List Int)) (x : List Int), x ∈ l.foldl (fun out own => insI own out) acc ↔ x ∈ acc ∨ x ∈ l
  | [], acc, x => by simp
  | y :: l, acc, x => by
    rw [List.foldl_cons, foldI_mem l, insI_mem, List.mem_cons]
    constructor
    · rintro ((h | h) | h)
      · exact .inr (.inl h)
      · exact .inl h
      · exact .inr (.inr h)
    · rintro (h | h | h)
      · exact .inl (.inr h)
      · exact .inl (.inl h)
      · exact .inr h
theorem foldI_rise : ∀ (l : List (List Int)) {acc : List (List Int)}, acc.Pairwise (fun a b => cmpI a b < 0) → (l.foldl (fun out own => insI own out) acc).Pairwise (fun a b => cmpI a b < 0)
  | [], _, h => h
  | y :: l, acc, h => foldI_rise l (insI_rise y h)
theorem orbS_mem (l : List (List Int)) (x : List Int) : x ∈ orbS l ↔ x ∈ l := by rw [orbS, foldI_mem]; simp
theorem orbS_rise (l : List (List Int)) : (orbS l).Pairwise (fun a b => cmpI a b < 0) := foldI_rise l .nil
theorem foldI_len : ∀ (l acc : List (List Int)), (l.foldl (fun out own => insI own out) acc).length ≤ acc.length + l.length
  | [], _ => Nat.le_refl _
  | y :: l, acc => by
    have h1 := foldI_len l (insI y acc)
    have h2 := insI_len y acc
    rw [List.foldl_cons, List.length_cons]
    omega
theorem orbS_len (l : List (List Int)) : (orbS l).length ≤ l.length := by have := foldI_len l []; simpa [orbS] using this
/-! ### the program's: sorted rows, each kept once -/
def compF : List Int → List (List Int × Option Nat) → List (List Int × Option Nat)
  | _, [] => []
  | p, q :: l => if q.1 = p then compF q.1 l else q :: compF q.1 l
def compT : List (List Int × Option Nat) → List (List Int × Option Nat)
  | [] => []
  | q :: l => q :: compF q.1 l
theorem compF_snoc : ∀ (l : List (List Int × Option Nat)) (p : List Int) (a q : List Int × Option Nat), compF p (l ++ [a, q]) = compF p (l ++ [a]) ++ (if q.1 = a.1 then [] else [q])
  | [], p, a, q => by
    show (if a.1 = p then compF a.1 [q] else a :: compF a.1 [q]) = (if a.1 = p then [] else [a]) ++ _
    have : compF a.1 [q] = if q.1 = a.1 then [] else [q] := rfl
    rw [this]
    split <;> rfl
  | x :: l, p, a, q => by
    show (if x.1 = p then compF x.1 (l ++ [a, q]) else x :: compF x.1 (l ++ [a, q])) = (if x.1 = p then compF x.1 (l ++ [a]) else x :: compF x.1 (l ++ [a])) ++ _
    rw [compF_snoc l]
    split
    · rfl
    · rfl
theorem compT_snoc (l : List (List Int × Option Nat)) (a q : List Int × Option Nat) : compT (l ++ [a, q]) = compT (l ++ [a]) ++ (if q.1 = a.1 then [] else [q]) := by
  cases l with
  | nil => rfl
  | cons x l => show x :: compF x.1 (l ++ [a, q]) = x :: compF x.1 (l ++ [a]) ++ _; rw [compF_snoc]; rfl
theorem take_two {α : Type} {qs : List α} {i : Nat} (z : α) (h0 : 0 < i) (h : i < qs.length) : qs.take (i + 1) = qs.take (i - 1) ++ [qs.getD (i - 1) z, qs.getD i z] := by
  obtain ⟨j, rfl⟩ : ∃ j, i = j + 1 := ⟨i - 1, by omega⟩
  have hj : j < qs.length := by omega
  have e1 : qs.getD j z = qs[j] := by simp [List.getD_eq_getElem?_getD, hj]
  have e2 : qs.getD (j + 1) z = qs[j + 1] := by simp [List.getD_eq_getElem?_getD, h]
  rw [Nat.add_sub_cancel, e1, e2, List.take_succ_eq_append_getElem h, List.take_succ_eq_append_getElem hj, List.append_assoc]
  rfl
theorem compT_take {qs : List (List Int × Option Nat)} {i : Nat} (h0 : 0 < i) (h : i < qs.length) :
    compT (qs.take (i + 1)) = compT (qs.take i) ++ (if (qs.getD i ([], none)).1 = (qs.getD (i - 1) ([], none)).1 then [] else [qs.getD i ([], none)]) := by
  rw [take_two ([], none) h0 h, compT_snoc]
  have e : qs.take i = qs.take (i - 1) ++ [qs.getD (i - 1) ([], none)] := by
    obtain ⟨j, rfl⟩ : ∃ j, i = j + 1 := ⟨i - 1, by omega⟩
    have hj : j < qs.length := by omega
    have e1 : qs.getD j ([], none) = qs[j] := by simp [List.getD_eq_getElem?_getD, hj]
    rw [Nat.add_sub_cancel, e1, List.take_succ_eq_append_getElem hj]
  rw [e]
theorem compF_sub : ∀ (l : List (List Int × Option Nat)) (p : List Int), (compF p l).Sublist l
  | [], _ => .slnil
  | q :: l, p => by
    show (if q.1 = p then compF q.1 l else q :: compF q.1 l).Sublist _
    split
    · exact (compF_sub l _).cons _
    · exact (compF_sub l _).cons_cons _
theorem compT_sub : ∀ l : List (List Int × Option Nat), (compT l).Sublist l
  | [] => .slnil
  | q :: l => (compF_sub l _).cons_cons _
theorem compF_mem : ∀ (l : List (List Int × Option Nat)) (p : List Int), ∀ q ∈ l, q.1 = p ∨ ∃ r ∈ compF p l, r.1 = q.1
  | [], _, q, h => by cases h
  | x :: l, p, q, h => by
    show q.1 = p ∨ ∃ r ∈ (if x.1 = p then compF x.1 l else x :: compF x.1 l), r.1 = q.1
    rcases List.mem_cons.1 h with rfl | h
    · by_cases e : q.1 = p
      · exact .inl e
      · rw [if_neg e]; exact .inr ⟨q, by simp, rfl⟩
    · rcases compF_mem l x.1 q h with e | ⟨r, hr, e⟩
      · by_cases e2 : x.1 = p
        · exact .inl (e.trans e2)
        · rw [if_neg e2]; exact .inr ⟨x, by simp, e.symm⟩
      · by_cases e2 : x.1 = p
        · rw [if_pos e2]; exact .inr ⟨r, hr, e⟩
        · rw [if_neg e2]; exact .inr ⟨r, by simp [hr], e⟩
theorem compT_mem (l : List (List Int × Option Nat)) : ∀ q ∈ l, ∃ r ∈ compT l, r.1 = q.1 := fun q h => by
  cases l with
  | nil => cases h
  | cons x l =>
    rcases List.mem_cons.1 h with rfl | h
    · exact ⟨q, by simp [compT], rfl⟩
    · rcases compF_mem l x.1 q h with e | ⟨r, hr, e⟩
      · exact ⟨x, by simp [compT], e.symm⟩
      · exact ⟨r, by simp [compT, hr], e⟩
theorem compF_rise : ∀ (l : List (List Int × Option Nat)) (p : List Int), l.Pairwise (fun a b => ¬ cmpI b.1 a.1 < 0) → (∀ q ∈ l, ¬ cmpI q.1 p < 0) → (compF p l).Pairwise (fun a b => cmpI a.1 b.1 < 0) ∧ ∀ q ∈ compF p l, cmpI p q.1 < 0
  | [], _, _, _ => ⟨.nil, fun q h => by cases h⟩
  | x :: l, p, h1, h2 => by
    obtain ⟨hx, hl⟩ := List.pairwise_cons.1 h1
    obtain ⟨i1, i2⟩ := compF_rise l x.1 hl hx
    show (if x.1 = p then compF x.1 l else x :: compF x.1 l).Pairwise _ ∧ ∀ q ∈ (if x.1 = p then compF x.1 l else x :: compF x.1 l), _
    by_cases e : x.1 = p
    · rw [if_pos e]
      exact ⟨i1, fun q hq => by rw [← e]; exact i2 q hq⟩
    · rw [if_neg e]
      have h3 : cmpI p x.1 < 0 := by
        rcases cmpI_le (h2 x (by simp)) with e2 | e2
        · exact absurd e2.symm e
        · exact e2
      refine ⟨List.pairwise_cons.2 ⟨i2, i1⟩, fun q hq => ?_⟩
      rcases List.mem_cons.1 hq with e2 | e2
      · rw [e2]; exact h3
      · exact cmpI_trans _ _ _ h3 (i2 q e2)
theorem compT_rise (l : List (List Int × Option Nat)) (h : l.Pairwise (fun a b => ¬ cmpI b.1 a.1 < 0)) : ((compT l).map Prod.fst).Pairwise (fun a b => cmpI a b < 0) := by
  rw [List.pairwise_map]
  cases l with
  | nil => exact .nil
  | cons x l =>
    obtain ⟨hx, hl⟩ := List.pairwise_cons.1 h
    obtain ⟨i1, i2⟩ := compF_rise l x.1 hl hx
    exact List.pairwise_cons.2 ⟨i2, i1⟩
/-- Sorted and compacted: what the reference has. -/
theorem compT_orbS {qs rs : List (List Int × Option Nat)} {xs : List (List Int)} (hp : rs.Perm qs) (hq : qs.map Prod.fst = xs) (hs : rs.Pairwise (fun a b => ¬ cmpI b.1 a.1 < 0)) : (compT rs).map Prod.fst = orbS xs := by
  refine rise_ext (compT_rise rs hs) (orbS_rise xs) fun x => ?_
  rw [orbS_mem, ← hq]
  constructor
  · intro h
    obtain ⟨q, h1, rfl⟩ := List.mem_map.1 h
    exact List.mem_map_of_mem (hp.mem_iff.1 ((compT_sub rs).subset h1))
  · intro h
    obtain ⟨q, h1, rfl⟩ := List.mem_map.1 h
    obtain ⟨r, h2, e⟩ := compT_mem rs q (hp.mem_iff.2 h1)
    exact List.mem_map.2 ⟨r, h2, e⟩
theorem apart_sub {α : Type} {qs rs : List (α × Option Nat)} (h : Apart qs) (hs : rs.Sublist qs) : Apart rs := h.sublist hs
end Go.Proofs.Ytimjhehagimcaaa
