/- PLAIN LAW: the group of matrices (closure and order) of both sides; no condition. -/
import Derived.Test.YtimjhehagimcaaaYE1
import Derived.Test.YtimjhehagimcaaaYKitI
import Derived.Test.YtimjhehagimcaaaYKitG
import Derived.Test.YtimjhehagimcaaaYKitM
set_option linter.unusedVariables false
namespace Go.Proofs.Ytimjhehagimcaaa
/-! ### lists without repetition, built one by one -/
def addM (all : List M9) (x : M9) : List M9 := if x ∈ all then all else all ++ [x]
theorem addM_in {all : List M9} {x : M9} (h : x ∈ all) : addM all x = all := if_pos h
theorem addM_out {all : List M9} {x : M9} (h : x ∉ all) : addM all x = all ++ [x] := if_neg h
theorem addM_mem (all : List M9) (x : M9) : x ∈ addM all x := by
  unfold addM
  split
  · assumption
  · simp
theorem addM_sub {all : List M9} {x y : M9} (h : y ∈ all) : y ∈ addM all x := by
  unfold addM
  split
  · exact h
  · simp [h]
theorem addM_cases {all : List M9} {x y : M9} (h : y ∈ addM all x) : y ∈ all ∨ y = x := by
  unfold addM at h
  split at h
  · exact .inl h
  · simpa using h
theorem addM_nodup {all : List M9} {x : M9} (h : all.Nodup) : (addM all x).Nodup := by
  unfold addM
  split
  · exact h
  · rename_i hx
    rw [List.nodup_append]
    exact ⟨h, by simp, fun a ha b hb => by
      have : b = x := by simpa using hb
      rw [this]
      exact fun e => hx (e ▸ ha)⟩
theorem addM_len (all : List M9) (x : M9) : all.length ≤ (addM all x).length ∧ (addM all x).length ≤ all.length + 1 := by
  unfold addM
  split
  · omega
  · simp
/-- The first occurrences. -/
def firsts (l : List M9) : List M9 := l.foldl addM []
theorem firsts_snoc (l : List M9) (x : M9) : firsts (l ++ [x]) = addM (firsts l) x := by simp [firsts]
theorem foldl_addM_mem {x : M9} : ∀ (l : List M9) {ds : List M9}, x ∈ l.foldl addM ds ↔ x ∈ ds ∨ x ∈ l
  | [], ds => by simp
  | y :: l, ds => by
    rw [List.foldl_cons, foldl_addM_mem l]
    constructor
    · rintro (h | h)
      · rcases addM_cases h with h | h
        · exact .inl h
        · exact .inr (by simp [h])
      · exact .inr (by simp [h])
    · rintro (h | h)
      · exact .inl (addM_sub h)
      · rcases List.mem_cons.1 h with h | h
        · exact .inl (h ▸ addM_mem _ _)
        · exact .inr h
theorem firsts_mem {l : List M9} {x : M9} : x ∈ firsts l ↔ x ∈ l := by simp [firsts, foldl_addM_mem]
theorem foldl_addM_nodup : ∀ (l : List M9) {ds : List M9}, ds.Nodup → (l.foldl addM ds).Nodup
  | [], _, h => h
  | y :: l, ds, h => foldl_addM_nodup l (addM_nodup h)
theorem firsts_nodup (l : List M9) : (firsts l).Nodup := foldl_addM_nodup l List.nodup_nil
theorem foldl_addM_len : ∀ (l : List M9) {ds : List M9}, (l.foldl addM ds).length ≤ ds.length + l.length
  | [], _ => by simp
  | y :: l, ds => by
    have h1 := foldl_addM_len l (ds := addM ds y)
    have h2 := (addM_len ds y).2
    rw [List.foldl_cons, List.length_cons]
    omega
theorem firsts_len (l : List M9) : (firsts l).length ≤ l.length := by
  have := foldl_addM_len l (ds := [])
  simpa [firsts] using this
/-! ### the closure -/
/-- One element, multiplied with all matrices of a list: none if there are too many. -/
def innO (p : Int) (n : Nat) (a : M9) : List M9 → List M9 → Option (List M9)
  | all, [] => some all
  | all, g :: gs => if 48 < (addM all (timesM p n a g)).length then none else innO p n a (addM all (timesM p n a g)) gs
theorem innO_append (p : Int) (n : Nat) (a : M9) : ∀ (xs ys all : List M9), innO p n a all (xs ++ ys) = (innO p n a all xs).bind fun all' => innO p n a all' ys
  | [], ys, all => rfl
  | x :: xs, ys, all => by
    show (if _ then none else innO p n a _ (xs ++ ys)) = (if _ then none else innO p n a _ xs).bind _
    split
    · rfl
    · exact innO_append p n a xs ys _
theorem innO_le {p : Int} {n : Nat} {a : M9} : ∀ {gs all out : List M9}, all.length ≤ 48 → innO p n a all gs = some out → out.length ≤ 48 ∧ all.length ≤ out.length ∧ (∀ x ∈ all, x ∈ out) ∧ (∀ g ∈ gs, timesM p n a g ∈ out) ∧ (all.Nodup → out.Nodup)
  | [], all, out, h, e => by
    injection e with e
    subst e
    exact ⟨h, Nat.le_refl _, fun _ hx => hx, fun g hg => (by cases hg), fun h => h⟩
  | g :: gs, all, out, h, e => by
    have e : (if 48 < (addM all (timesM p n a g)).length then none else innO p n a (addM all (timesM p n a g)) gs) = some out := e
    split at e
    · cases e
    · obtain ⟨h1, h2, h3, h4, h5⟩ := innO_le (by omega) e
      have := addM_len all (timesM p n a g)
      refine ⟨h1, by omega, fun x hx => h3 _ (addM_sub hx), fun g' hg' => ?_, fun hn => h5 (addM_nodup hn)⟩
      rcases List.mem_cons.1 hg' with rfl | hg'
      · exact h3 _ (addM_mem _ _)
      · exact h4 _ hg'
theorem innO_skip {p : Int} {n : Nat} {a : M9} {all : List M9} {g : M9} {gs : List M9} (hl : all.length ≤ 48) (h : timesM p n a g ∈ all) : innO p n a all (g :: gs) = innO p n a all gs := by
  show (if 48 < (addM all (timesM p n a g)).length then none else innO p n a (addM all (timesM p n a g)) gs) = _
  rw [addM_in h, if_neg (by omega)]
theorem innO_firsts {p : Int} {n : Nat} {a : M9} {all : List M9} (hl : all.length ≤ 48) : ∀ (r ds : List M9), innO p n a all (r.foldl addM ds) = innO p n a all (ds ++ r)
  | [], ds => by simp
  | x :: r, ds => by
    rw [List.foldl_cons, innO_firsts hl r]
    by_cases hx : x ∈ ds
    · rw [addM_in hx, innO_append, innO_append]
      cases h : innO p n a all ds with
      | none => rfl
      | some all' =>
        obtain ⟨h1, h2, h3, h4, h5⟩ := innO_le hl h
        exact (innO_skip h1 (h4 x hx)).symm
    · rw [addM_out hx, List.append_assoc]
      rfl
/-- All elements from number i on, multiplied with all of a list; f says for how long. -/
def cloO (p : Int) (n : Nat) (gs : List M9) : Nat → Nat → List M9 → Option (List M9)
  | 0, _, all => some all
  | f + 1, i, all => if i < all.length then (innO p n (all.getD i zM) all gs).bind fun all' => cloO p n gs f (i + 1) all' else some all
theorem cloO_firsts {p : Int} {n : Nat} (gs : List M9) : ∀ (f i : Nat) (all : List M9), all.length ≤ 48 → cloO p n (firsts gs) f i all = cloO p n gs f i all
  | 0, _, _, _ => rfl
  | f + 1, i, all, hl => by
    show (if i < all.length then _ else _) = (if i < all.length then _ else _)
    split
    · have e := innO_firsts (p := p) (n := n) (a := all.getD i zM) hl gs []
      have e : innO p n (all.getD i zM) all (firsts gs) = innO p n (all.getD i zM) all gs := e
      rw [e]
      cases h : innO p n (all.getD i zM) all gs with
      | none => rfl
      | some all' => exact cloO_firsts gs f (i + 1) all' (innO_le hl h).1
    · rfl
/-- The elements, in the order in which they are found. -/
def genO (p n : Int) (gs : List M9) : Option (List M9) := cloO p n.toNat gs 49 0 [unitM n]
theorem cloO_le {p : Int} {n : Nat} {gs : List M9} : ∀ {f i : Nat} {all out : List M9}, all.length ≤ 48 → cloO p n gs f i all = some out → out.length ≤ 48 ∧ all.length ≤ out.length ∧ (all.Nodup → out.Nodup) ∧ (∀ x ∈ all, x ∈ out)
  | 0, i, all, out, h, e => by
    injection e with e
    subst e
    exact ⟨h, Nat.le_refl _, fun h => h, fun _ h => h⟩
  | f + 1, i, all, out, h, e => by
    have e : (if i < all.length then (innO p n (all.getD i zM) all gs).bind fun all' => cloO p n gs f (i + 1) all' else some all) = some out := e
    split at e
    · cases h1 : innO p n (all.getD i zM) all gs with
      | none => rw [h1] at e; cases e
      | some all' =>
        rw [h1] at e
        obtain ⟨a1, a2, a3, a4, a5⟩ := innO_le h h1
        obtain ⟨b1, b2, b3, b4⟩ := cloO_le a1 (show cloO p n gs f (i + 1) all' = some out from e)
        exact ⟨b1, by omega, fun hn => b3 (a5 hn), fun x hx => b4 x (a3 x hx)⟩
    · injection e with e
      subst e
      exact ⟨h, Nat.le_refl _, fun h => h, fun _ h => h⟩
theorem genO_firsts (p n : Int) (gs : List M9) : genO p n (firsts gs) = genO p n gs := cloO_firsts gs 49 0 _ (by simp)
theorem genO_len {p n : Int} {gs out : List M9} (h : genO p n gs = some out) : out.length ≤ 48 := (cloO_le (by simp) h).1
/-- Too many different matrices make no group that is small enough. -/
theorem genO_many {p n : Int} {gs : List M9} (h1 : ∀ g ∈ gs, timesM p n.toNat (unitM n) g = g) (h2 : 48 < (firsts gs).length) : genO p n gs = none := by
  rw [← genO_firsts]
  show (if 0 < 1 then (innO p n.toNat ([unitM n].getD 0 zM) [unitM n] (firsts gs)).bind fun all' => cloO p n.toNat (firsts gs) 48 1 all' else some [unitM n]) = none
  rw [if_pos (by omega)]
  cases h : innO p n.toNat ([unitM n].getD 0 zM) [unitM n] (firsts gs) with
  | none => rfl
  | some all' =>
    obtain ⟨a1, a2, a3, a4, a5⟩ := innO_le (by simp) h
    have hsub : ∀ x ∈ firsts gs, x ∈ all' := fun x hx => by
      have := a4 x hx
      have e : ([unitM n].getD 0 zM) = unitM n := rfl
      rw [e, h1 x (firsts_mem.1 hx)] at this
      exact this
    have := (firsts_nodup gs).length_le_of_subset hsub
    omega
/-! ### the order of matrices -/
theorem cmp3_lt {x y : E3} : cmp3 x y < 0 ↔ (x.a.toNat : Int) < y.a.toNat ∨ ((x.a.toNat : Int) = y.a.toNat ∧ ((x.b.toNat : Int) < y.b.toNat ∨ ((x.b.toNat : Int) = y.b.toNat ∧ (x.c.toNat : Int) < y.c.toNat))) := by
  rw [cmp3_eq]
  repeat' split
  all_goals omega
theorem cmp3_z {x y : E3} : cmp3 x y = 0 ↔ (x.a.toNat : Int) = y.a.toNat ∧ (x.b.toNat : Int) = y.b.toNat ∧ (x.c.toNat : Int) = y.c.toNat := by
  rw [cmp3_eq]
  repeat' split
  all_goals omega
theorem u8_int {a b : UInt8} (h : (a.toNat : Int) = b.toNat) : a = b := (u8_eq a b).2 h
theorem cmp3_zero_eq {x y : E3} (h : cmp3 x y = 0) : x = y := by
  obtain ⟨h1, h2, h3⟩ := cmp3_z.1 h
  cases x
  cases y
  have := u8_int h1
  have := u8_int h2
  have := u8_int h3
  simp_all
theorem cmp3_self (x : E3) : cmp3 x x = 0 := cmp3_z.2 ⟨rfl, rfl, rfl⟩
theorem cmpM_lt {g h : M9} : cmpM g h < 0 ↔ cmp3 g.r0 h.r0 < 0 ∨ (g.r0 = h.r0 ∧ (cmp3 g.r1 h.r1 < 0 ∨ (g.r1 = h.r1 ∧ cmp3 g.r2 h.r2 < 0))) := by
  unfold cmpM
  by_cases h0 : cmp3 g.r0 h.r0 = 0
  · have e0 := cmp3_zero_eq h0
    rw [if_pos h0]
    by_cases h1 : cmp3 g.r1 h.r1 = 0
    · have e1 := cmp3_zero_eq h1
      rw [if_pos h1]
      simp [e0, e1, cmp3_self]
    · rw [if_neg h1]
      have n1 : g.r1 ≠ h.r1 := fun e => h1 (by rw [e]; exact cmp3_self _)
      simp [e0, n1, cmp3_self]
  · rw [if_neg h0]
    have n0 : g.r0 ≠ h.r0 := fun e => h0 (by rw [e]; exact cmp3_self _)
    simp [n0]
theorem cmp3_irr (x : E3) : ¬ cmp3 x x < 0 := by rw [cmp3_self]; omega
theorem cmp3_trans {x y z : E3} (h : cmp3 x y < 0) (k : cmp3 y z < 0) : cmp3 x z < 0 := by
  rw [cmp3_lt] at *
  omega
theorem cmp3_tri (x y : E3) : cmp3 x y < 0 ∨ x = y ∨ cmp3 y x < 0 := by
  by_cases h : x = y
  · exact .inr (.inl h)
  · have : cmp3 x y ≠ 0 := fun e => h (cmp3_zero_eq e)
    rw [Ne, cmp3_z] at this
    rw [cmp3_lt, cmp3_lt]
    omega
theorem cmpM_irr (g : M9) : ¬ cmpM g g < 0 := by
  rw [cmpM_lt]
  simp [cmp3_irr]
theorem cmpM_trans {a b c : M9} (h : cmpM a b < 0) (k : cmpM b c < 0) : cmpM a c < 0 := by
  rw [cmpM_lt] at *
  rcases h with h | ⟨h0, h⟩
  · rcases k with k | ⟨k0, k⟩
    · exact .inl (cmp3_trans h k)
    · exact .inl (k0 ▸ h)
  · rcases k with k | ⟨k0, k⟩
    · exact .inl (h0 ▸ k)
    · refine .inr ⟨h0.trans k0, ?_⟩
      rcases h with h | ⟨h1, h⟩
      · rcases k with k | ⟨k1, k⟩
        · exact .inl (cmp3_trans h k)
        · exact .inl (k1 ▸ h)
      · rcases k with k | ⟨k1, k⟩
        · exact .inl (h1 ▸ k)
        · exact .inr ⟨h1.trans k1, cmp3_trans h k⟩
theorem cmpM_tri (a b : M9) : cmpM a b < 0 ∨ a = b ∨ cmpM b a < 0 := by
  rw [cmpM_lt, cmpM_lt]
  rcases cmp3_tri a.r0 b.r0 with h | h | h
  · exact .inl (.inl h)
  · rcases cmp3_tri a.r1 b.r1 with k | k | k
    · exact .inl (.inr ⟨h, .inl k⟩)
    · rcases cmp3_tri a.r2 b.r2 with l | l | l
      · exact .inl (.inr ⟨h, .inr ⟨k, l⟩⟩)
      · exact .inr (.inl (by cases a; cases b; simp_all))
      · exact .inr (.inr (.inr ⟨h.symm, .inr ⟨k.symm, l⟩⟩))
    · exact .inr (.inr (.inr ⟨h.symm, .inl k⟩))
  · exact .inr (.inr (.inl h))
/-- Sorted: no element comes ahead of an earlier one. -/
def SrtM (l : List M9) : Prop := l.Pairwise fun a b => ¬ cmpM b a < 0
theorem srt_anti {a b : M9} (h : ¬ cmpM b a < 0) (k : ¬ cmpM a b < 0) : a = b := by
  rcases cmpM_tri a b with g | g | g
  · exact (k g).elim
  · exact g
  · exact (h g).elim
theorem srt_perm_eq : ∀ {l m : List M9}, l.Perm m → SrtM l → SrtM m → l = m
  | [], m, h, _, _ => (List.Perm.nil_eq h)
  | a :: l, [], h, _, _ => by
    have := h.length_eq
    simp at this
  | a :: l, b :: m, h, hl, hm => by
    obtain ⟨h1, h2⟩ := List.pairwise_cons.1 hl
    obtain ⟨k1, k2⟩ := List.pairwise_cons.1 hm
    have hab : a = b := by
      have ha : a ∈ b :: m := h.mem_iff.1 (by simp)
      have hb : b ∈ a :: l := h.mem_iff.2 (by simp)
      rcases List.mem_cons.1 ha with e | ha
      · exact e
      · rcases List.mem_cons.1 hb with e | hb
        · exact e.symm
        · exact srt_anti (h1 b hb) (k1 a ha)
    subst hab
    rw [srt_perm_eq h.cons_inv h2 k2]
/-- The place at which the reference puts a matrix. -/
def placeM (x : M9) (out : List M9) : Nat → Nat
  | 0 => 0
  | k + 1 => if befM x (out.getD k zM) then placeM x out k else k + 1
theorem placeM_le (x : M9) (out : List M9) : ∀ k, placeM x out k ≤ k
  | 0 => Nat.le_refl 0
  | k + 1 => by
    have h := placeM_le x out k
    show (if befM x (out.getD k zM) then placeM x out k else k + 1) ≤ k + 1
    split
    · omega
    · exact Nat.le_refl _
def insM (out : List M9) (x : M9) : List M9 := out.take (placeM x out out.length) ++ x :: out.drop (placeM x out out.length)
def sortM (l : List M9) : List M9 := l.foldl insM []
theorem insM_perm (out : List M9) (x : M9) : (insM out x).Perm (x :: out) := by
  unfold insM
  refine List.perm_middle.trans ?_
  rw [List.take_append_drop]
theorem insM_len (out : List M9) (x : M9) : (insM out x).length = out.length + 1 := by
  have := (insM_perm out x).length_eq
  simpa using this
theorem sortM_snoc (l : List M9) (x : M9) : sortM (l ++ [x]) = insM (sortM l) x := by simp [sortM]
theorem sortM_perm (l : List M9) : (sortM l).Perm l := by
  have : ∀ (l acc : List M9), (l.foldl insM acc).Perm (acc ++ l) := by
    intro l
    induction l with
    | nil => intro acc; simp
    | cons x l ih =>
      intro acc
      rw [List.foldl_cons]
      refine (ih _).trans ?_
      refine ((insM_perm acc x).append_right l).trans ?_
      exact List.perm_middle.symm
  simpa [sortM] using this l []
theorem placeM_before (x : M9) {out : List M9} (hs : SrtM out) : ∀ k, k ≤ out.length → (∀ i, i < placeM x out k → ¬ cmpM x (out.getD i zM) < 0) ∧ (∀ i, placeM x out k ≤ i → i < k → cmpM x (out.getD i zM) < 0)
  | 0, _ => ⟨fun i h => by simp [placeM] at h, fun i _ h => by omega⟩
  | k + 1, hk => by
    obtain ⟨h1, h2⟩ := placeM_before x hs k (by omega)
    cases hb : befM x (out.getD k zM) with
    | true =>
      have e : placeM x out (k + 1) = placeM x out k := by show (if _ then _ else _) = _; rw [if_pos hb]
      rw [e]
      refine ⟨h1, fun i hi hik => ?_⟩
      by_cases h : i = k
      · rw [h]
        exact of_decide_eq_true hb
      · exact h2 i hi (by omega)
    | false =>
      have e : placeM x out (k + 1) = k + 1 := by show (if _ then _ else _) = _; rw [if_neg (by rw [hb]; decide)]
      rw [e]
      have hb : ¬ cmpM x (out.getD k zM) < 0 := of_decide_eq_false hb
      refine ⟨fun i hi hc => ?_, fun i a b => by omega⟩
      by_cases h : i = k
      · rw [h] at hc
        exact hb hc
      · have hik : i < k := by omega
        have e1 : out.getD i zM = out[i] := by simp [List.getD_eq_getElem?_getD, show i < out.length by omega]
        have e2 : out.getD k zM = out[k] := by simp [List.getD_eq_getElem?_getD, show k < out.length by omega]
        have hp := List.pairwise_iff_getElem.1 hs i k (by omega) (by omega) hik
        rw [e1] at hc
        rw [e2] at hb
        rcases cmpM_tri out[i] out[k] with g | g | g
        · exact hb (cmpM_trans hc g)
        · rw [g] at hc
          exact hb hc
        · exact hp g
theorem insM_srt {out : List M9} (x : M9) (hs : SrtM out) : SrtM (insM out x) := by
  obtain ⟨h1, h2⟩ := placeM_before x hs out.length (Nat.le_refl _)
  have hle := placeM_le x out out.length
  unfold insM
  generalize placeM x out out.length = k at *
  have hs' := hs
  rw [← List.take_append_drop k out] at hs'
  obtain ⟨s1, s2, s3⟩ := List.pairwise_append.1 hs'
  refine List.pairwise_append.2 ⟨s1, List.pairwise_cons.2 ⟨fun b hb => ?_, s2⟩, fun a ha b hb => ?_⟩
  · obtain ⟨i, hi, rfl⟩ := List.getElem_of_mem hb
    simp at hi
    have := h2 (k + i) (by omega) (by omega)
    have e : out.getD (k + i) zM = out[k + i] := by simp [List.getD_eq_getElem?_getD, show k + i < out.length by omega]
    rw [e] at this
    rw [List.getElem_drop]
    exact fun hc => cmpM_irr _ (cmpM_trans this hc)
  · rcases List.mem_cons.1 hb with rfl | hb
    · obtain ⟨i, hi, rfl⟩ := List.getElem_of_mem ha
      simp at hi
      have := h1 i (by omega)
      have e : out.getD i zM = out[i] := by simp [List.getD_eq_getElem?_getD, show i < out.length by omega]
      rw [e] at this
      rw [List.getElem_take]
      exact this
    · exact s3 a ha b hb
theorem sortM_srt (l : List M9) : SrtM (sortM l) := by
  have : ∀ (l acc : List M9), SrtM acc → SrtM (l.foldl insM acc) := by
    intro l
    induction l with
    | nil => exact fun acc h => h
    | cons x l ih => exact fun acc h => ih _ (insM_srt x h)
  exact this l [] List.Pairwise.nil
theorem sortM_of {l m : List M9} (h : m.Perm l) (hs : SrtM m) : m = sortM l := srt_perm_eq (h.trans (sortM_perm l).symm) hs (sortM_srt l)
theorem srt_of_getD {m : List M9} (h : ∀ i j, i < j → j < m.length → ¬ cmpM (m.getD j zM) (m.getD i zM) < 0) : SrtM m := by
  refine List.pairwise_iff_getElem.2 fun i j hi hj hij => ?_
  have := h i j hij hj
  simpa [List.getD_eq_getElem?_getD, hi, hj] using this
theorem sortM_len (l : List M9) : (sortM l).length = l.length := (sortM_perm l).length_eq
theorem uB_self {x : UInt8} {p : Int} (h : (x.toNat : Int) < p) : uB ((x.toNat : Int) % p) = x := by
  rw [Int.emod_eq_of_lt (by omega) h]
  refine u8_int ?_
  rw [uB_nat]
  have := x.toNat_lt
  omega
theorem unit_times {p n : Int} {g : M9} (hg : matB p n g = true) : timesM p n.toNat (unitM n) g = g := by
  obtain ⟨hle, hp, hp', hn1, hn3⟩ := matB_le hg
  have hz := matB_zero hg
  obtain ⟨⟨h00, h01, h02⟩, ⟨h10, h11, h12⟩, h20, h21, h22⟩ := hle
  have z : ∀ x : UInt8, (x.toNat : Int) = 0 → x = 0 := fun x h => u8_int (by simpa using h)
  have z01 : n ≤ 1 → g.r0.b = 0 := fun h => z _ (by have := hz 0 1 (by omega) (by omega) (by omega); simpa [M9.num, M9.at, M9.row, E3.at] using this)
  have z02 : n ≤ 2 → g.r0.c = 0 := fun h => z _ (by have := hz 0 2 (by omega) (by omega) (by omega); simpa [M9.num, M9.at, M9.row, E3.at] using this)
  have z10 : n ≤ 1 → g.r1.a = 0 := fun h => z _ (by have := hz 1 0 (by omega) (by omega) (by omega); simpa [M9.num, M9.at, M9.row, E3.at] using this)
  have z11 : n ≤ 1 → g.r1.b = 0 := fun h => z _ (by have := hz 1 1 (by omega) (by omega) (by omega); simpa [M9.num, M9.at, M9.row, E3.at] using this)
  have z12 : n ≤ 2 → g.r1.c = 0 := fun h => z _ (by have := hz 1 2 (by omega) (by omega) (by omega); simpa [M9.num, M9.at, M9.row, E3.at] using this)
  have z20 : n ≤ 2 → g.r2.a = 0 := fun h => z _ (by have := hz 2 0 (by omega) (by omega) (by omega); simpa [M9.num, M9.at, M9.row, E3.at] using this)
  have z21 : n ≤ 2 → g.r2.b = 0 := fun h => z _ (by have := hz 2 1 (by omega) (by omega) (by omega); simpa [M9.num, M9.at, M9.row, E3.at] using this)
  have z22 : n ≤ 2 → g.r2.c = 0 := fun h => z _ (by have := hz 2 2 (by omega) (by omega) (by omega); simpa [M9.num, M9.at, M9.row, E3.at] using this)
  have hn : n = 1 ∨ n = 2 ∨ n = 3 := by omega
  obtain ⟨⟨a, b, c⟩, ⟨d, e, f⟩, ⟨i, j, k⟩⟩ := g
  simp only [] at *
  rcases hn with rfl | rfl | rfl
  · have := z01 (by omega); have := z02 (by omega); have := z10 (by omega); have := z11 (by omega); have := z12 (by omega); have := z20 (by omega); have := z21 (by omega); have := z22 (by omega)
    subst_vars
    simp [timesM, mkM, sumT, unitM, M9.at, M9.row, E3.at, uB_self, h00]
  · have := z02 (by omega); have := z12 (by omega); have := z20 (by omega); have := z21 (by omega); have := z22 (by omega)
    subst_vars
    simp [timesM, mkM, sumT, unitM, M9.at, M9.row, E3.at, uB_self, h00, h01, h10, h11]
  · simp [timesM, mkM, sumT, unitM, M9.at, M9.row, E3.at, uB_self, h00, h01, h02, h10, h11, h12, h20, h21, h22]
end Go.Proofs.Ytimjhehagimcaaa
