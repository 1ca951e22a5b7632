/- Walks of the functions on polynomials, numbers and rows, of both sides; no condition. -/
import Derived.Test.YtimjhehagimcaaaYKitA
import Derived.Test.YtimjhehagimcaaaYKitM
import Derived.Test.YtimjhehagimcaaaYPFnExactOrbitOfPointx2
/- The reduced list of rows, and the reduced rows of a matrix beside the unit matrix: a plain law with no program in sight; no condition. -/
set_option linter.unusedVariables false
namespace Go.Proofs.Ytimjhehagimcaaa
/-! ### rows of numbers modulo p -/
def primeZ (p : Int) : Prop := p = 2 ∨ p = 3 ∨ p = 5 ∨ p = 7 ∨ p = 11 ∨ p = 13
theorem primeZ.two {p : Int} (h : primeZ p) : 2 ≤ p ∧ p ≤ 13 := by
  unfold primeZ at h
  omega
theorem small_prod {p : Int} (h : primeZ p) {x y : Int} (hx0 : 0 ≤ x) (hx : x < p) (hy0 : 0 ≤ y) (hy : y < p) (hxy : x * y % p = 0) : x = 0 ∨ y = 0 := by
  have key : ∀ p ∈ [2, 3, 5, 7, 11, 13], ∀ x < p, ∀ y < p, x * y % p = 0 → x = 0 ∨ y = 0 := by decide
  have h2 := h.two
  have hx' : ((x.toNat : Nat) : Int) = x := Int.toNat_of_nonneg hx0
  have hy' : ((y.toNat : Nat) : Int) = y := Int.toNat_of_nonneg hy0
  have hp' : ((p.toNat : Nat) : Int) = p := Int.toNat_of_nonneg (by omega)
  have := key p.toNat (by unfold primeZ at h; simp; omega) x.toNat (by omega) y.toNat (by omega) (by
    have : ((x.toNat * y.toNat % p.toNat : Nat) : Int) = 0 := by rw [Int.natCast_emod, Int.natCast_mul, hx', hy', hp']; exact hxy
    omega)
  omega
theorem prime_mul {p : Int} (h : primeZ p) {x y : Int} (hxy : x * y % p = 0) : x % p = 0 ∨ y % p = 0 := by
  have h2 := h.two
  have hp : p ≠ 0 := by omega
  refine small_prod h (Int.emod_nonneg _ hp) (Int.emod_lt_of_pos _ (by omega)) (Int.emod_nonneg _ hp) (Int.emod_lt_of_pos _ (by omega)) ?_
  rw [← Int.mul_emod]
  exact hxy
theorem inv_any {p : Int} (h : primeZ p) {x : Int} (hx0 : 0 < x) (hx : x < p) : ∃ k : Nat, 1 ≤ k ∧ (k : Int) < p ∧ (k : Int) * x % p = 1 := by
  have key : ∀ p ∈ [2, 3, 5, 7, 11, 13], ∀ x < p, 0 < x → ∃ k < p, 1 ≤ k ∧ k * x % p = 1 := by decide
  have h2 := h.two
  have hx' : ((x.toNat : Nat) : Int) = x := Int.toNat_of_nonneg (by omega)
  have hp' : ((p.toNat : Nat) : Int) = p := Int.toNat_of_nonneg (by omega)
  obtain ⟨k, hk, hk1, hk2⟩ := key p.toNat (by unfold primeZ at h; simp; omega) x.toNat (by omega) (by omega)
  refine ⟨k, hk1, by omega, ?_⟩
  have : ((k * x.toNat % p.toNat : Nat) : Int) = 1 := by rw [hk2]; rfl
  rwa [Int.natCast_emod, Int.natCast_mul, hx', hp'] at this
/-- The place of the first number other than 0: the length if there is none. -/
def leadN (r : List Int) : Nat := r.findIdx (fun x => x != 0)
theorem leadN_le (r : List Int) : leadN r ≤ r.length := List.findIdx_le_length
theorem leadN_zero {r : List Int} {i : Nat} (h : i < leadN r) : r.getD i 0 = 0 := by
  have := List.not_of_lt_findIdx h
  have hl := leadN_le r
  simp at this
  rw [List.getD_eq_getElem?_getD, List.getElem?_eq_getElem (by omega)]
  simpa using this
theorem leadN_ne {r : List Int} (h : leadN r < r.length) : r.getD (leadN r) 0 ≠ 0 := by
  have := List.findIdx_getElem (w := h)
  simp only [bne_iff_ne] at this
  rw [List.getD_eq_getElem?_getD, List.getElem?_eq_getElem h]
  exact this
theorem leadN_le_of {r : List Int} {i : Nat} (h : r.getD i 0 ≠ 0) : leadN r ≤ i := by
  apply Decidable.byContradiction
  intro hc
  exact h (leadN_zero (by omega))
theorem leadN_eq {r : List Int} {i : Nat} (h : r.getD i 0 ≠ 0) (h0 : ∀ j, j < i → r.getD j 0 = 0) : leadN r = i := by
  have h1 := leadN_le_of h
  apply Decidable.byContradiction
  intro hc
  have hl : leadN r < r.length := by
    have : i < r.length := by
      apply Decidable.byContradiction
      intro hi
      exact h (by rw [List.getD_eq_getElem?_getD, List.getElem?_eq_none (by omega)]; rfl)
    omega
  exact leadN_ne hl (h0 _ (by omega))
/-- A row less q times another one. -/
def lessL (p : Int) (row other : List Int) (q : Int) : List Int := (List.range row.length).map fun i => (row.getD i 0 - q * other.getD i 0) % p
def scaleL (p : Int) (row : List Int) (c : Int) : List Int := row.map fun x => x * c % p
/-- A row of L numbers modulo p. -/
structure RowOk (p : Int) (L : Nat) (r : List Int) : Prop where
  len : r.length = L
  nums : ∀ i, 0 ≤ r.getD i 0 ∧ r.getD i 0 < p
theorem lessL_length (p : Int) (row other : List Int) (q : Int) : (lessL p row other q).length = row.length := by simp [lessL]
theorem getD_out (r : List Int) {i : Nat} (h : r.length ≤ i) : r.getD i 0 = 0 := by rw [List.getD_eq_getElem?_getD, List.getElem?_eq_none h]; rfl
theorem lessL_get {p : Int} {L : Nat} {row other : List Int} (hr : row.length = L) (ho : other.length = L) (q : Int) (i : Nat) : (lessL p row other q).getD i 0 = (row.getD i 0 - q * other.getD i 0) % p := by
  by_cases h : i < row.length
  · simp [lessL, List.getD_eq_getElem?_getD, h]
  · rw [getD_out _ (by rw [lessL_length]; omega), getD_out row (by omega), getD_out other (by omega)]
    simp
theorem scaleL_get (p : Int) (row : List Int) (c : Int) (i : Nat) : (scaleL p row c).getD i 0 = row.getD i 0 * c % p := by
  by_cases h : i < row.length
  · simp [scaleL, List.getD_eq_getElem?_getD, h]
  · rw [getD_out _ (by simp [scaleL]; omega), getD_out row (by omega)]
    simp
theorem RowOk.less {p : Int} {L : Nat} {row other : List Int} (hp : 0 < p) (hr : RowOk p L row) (ho : RowOk p L other) (q : Int) : RowOk p L (lessL p row other q) :=
  ⟨by rw [lessL_length, hr.len], fun i => by rw [lessL_get hr.len ho.len]; exact ⟨Int.emod_nonneg _ (by omega), Int.emod_lt_of_pos _ hp⟩⟩
theorem RowOk.scale {p : Int} {L : Nat} {row : List Int} (hp : 0 < p) (hr : RowOk p L row) (c : Int) : RowOk p L (scaleL p row c) :=
  ⟨by simp [scaleL, hr.len], fun i => by rw [scaleL_get]; exact ⟨Int.emod_nonneg _ (by omega), Int.emod_lt_of_pos _ hp⟩⟩
theorem RowOk.fix {p : Int} {L : Nat} {row : List Int} (hr : RowOk p L row) (i : Nat) : row.getD i 0 % p = row.getD i 0 := Int.emod_eq_of_lt (hr.nums i).1 (hr.nums i).2
/-! ### what is left of a row -/
def restStep (p : Int) (cur r : List Int) : List Int := if cur.getD (leadN r) 0 = 0 then cur else lessL p cur r (cur.getD (leadN r) 0)
def restL (p : Int) (list : List (List Int)) (row : List Int) : List Int := list.foldl (restStep p) row
/-- A reduced row. -/
structure Led (p : Int) (L : Nat) (r : List Int) : Prop where
  ok : RowOk p L r
  lt : leadN r < L
  one : r.getD (leadN r) 0 = 1
def Apart0 (a b : List Int) : Prop := a.getD (leadN b) 0 = 0 ∧ b.getD (leadN a) 0 = 0
theorem restStep_get {p : Int} {L : Nat} {cur r : List Int} (hc : RowOk p L cur) (hr : RowOk p L r) (i : Nat) : (restStep p cur r).getD i 0 = (cur.getD i 0 - cur.getD (leadN r) 0 * r.getD i 0) % p := by
  unfold restStep
  split
  · rename_i h
    rw [h, Int.zero_mul, Int.sub_zero, hc.fix]
  · exact lessL_get hc.len hr.len _ _
theorem restStep_ok {p : Int} {L : Nat} {cur r : List Int} (hp : 0 < p) (hc : RowOk p L cur) (hr : RowOk p L r) : RowOk p L (restStep p cur r) := by
  unfold restStep
  split
  · exact hc
  · exact hc.less hp hr _
theorem restL_keep {p : Int} {Q : List Int → Prop} (hQ : ∀ r o q, Q r → Q o → Q (lessL p r o q)) : ∀ (list : List (List Int)) (cur : List Int), Q cur → (∀ r ∈ list, Q r) → Q (restL p list cur)
  | [], cur, hc, _ => hc
  | r :: list, cur, hc, hl => by
    refine restL_keep hQ list (restStep p cur r) ?_ fun x hx => hl x (List.mem_cons_of_mem _ hx)
    unfold restStep
    split
    · exact hc
    · exact hQ _ _ _ hc (hl r (by simp))
theorem restL_ok {p : Int} {L : Nat} (hp : 0 < p) (list : List (List Int)) (cur : List Int) (hc : RowOk p L cur) (hl : ∀ r ∈ list, RowOk p L r) : RowOk p L (restL p list cur) :=
  restL_keep (Q := RowOk p L) (fun _ _ q h1 h2 => h1.less hp h2 q) list cur hc hl
/-- A place where the rows of the list have 0 is not touched. -/
theorem restL_same {p : Int} {L : Nat} (hp : 0 < p) (j : Nat) : ∀ (list : List (List Int)) (cur : List Int), RowOk p L cur → (∀ r ∈ list, RowOk p L r ∧ r.getD j 0 = 0) → (restL p list cur).getD j 0 = cur.getD j 0
  | [], cur, _, _ => rfl
  | r :: list, cur, hc, hl => by
    have h1 := restL_same hp j list (restStep p cur r) (restStep_ok hp hc (hl r (by simp)).1) fun x hx => hl x (List.mem_cons_of_mem _ hx)
    have h2 : restL p (r :: list) cur = restL p list (restStep p cur r) := rfl
    rw [h2, h1, restStep_get hc (hl r (by simp)).1, (hl r (by simp)).2, Int.mul_zero, Int.sub_zero, hc.fix]
theorem restL_zero {p : Int} {L : Nat} (hp : 2 ≤ p) : ∀ (list : List (List Int)) (cur : List Int), RowOk p L cur → (∀ r ∈ list, Led p L r) → list.Pairwise Apart0 → ∀ r ∈ list, (restL p list cur).getD (leadN r) 0 = 0
  | [], cur, _, _, _, r, hr => by simp at hr
  | s :: list, cur, hc, hl, hpw, r, hr => by
    have hs := hl s (by simp)
    rw [List.pairwise_cons] at hpw
    have h1 := restL_zero hp list (restStep p cur s) (restStep_ok (by omega) hc hs.ok) (fun x hx => hl x (List.mem_cons_of_mem _ hx)) hpw.2
    have h2 : restL p (s :: list) cur = restL p list (restStep p cur s) := rfl
    rw [h2]
    rcases List.mem_cons.1 hr with rfl | hr
    · rw [restL_same (L := L) (by omega) _ list _ (restStep_ok (by omega) hc hs.ok) (fun x hx => ⟨(hl x (List.mem_cons_of_mem _ hx)).ok, (hpw.1 x hx).2⟩), restStep_get hc hs.ok, hs.one]
      simp
    · exact h1 r hr
/-! ### a row is put in its place -/
def invZ (p x : Int) : Int := (((((List.range p.toNat).drop 1).find? (fun k : Nat => (k : Int) * (x % p) % p == 1)).getD 0 : Nat) : Int)
theorem invZ_ok {p : Int} (h : primeZ p) {x : Int} (hx0 : 0 < x) (hx : x < p) : invZ p x * x % p = 1 := by
  obtain ⟨k, h1, h2, h3⟩ := inv_any h hx0 hx
  have hxp : x % p = x := Int.emod_eq_of_lt (by omega) hx
  unfold invZ
  rw [hxp]
  have hmem : k ∈ (List.range p.toNat).drop 1 := by
    rw [List.mem_drop_iff_getElem]
    exact ⟨k - 1, by simp; omega, by simp; omega⟩
  cases hf : ((List.range p.toNat).drop 1).find? (fun k : Nat => (k : Int) * x % p == 1) with
  | none =>
    have := (List.find?_eq_none.1 hf) k hmem
    simp [h3] at this
  | some m =>
    have := List.find?_some hf
    simpa using this
def ownL (p : Int) (own : List Int) : List Int := scaleL p own (invZ p (own.getD (leadN own) 0))
/-- One row of the list that is read while the next list is made. -/
def putStep (p : Int) (own : List Int) (s : List (List Int) × Bool) (r : List Int) : List (List Int) × Bool :=
  if (!s.2 && decide (leadN own < leadN r)) = true then (s.1 ++ [own] ++ [lessL p r own (r.getD (leadN own) 0)], true) else (s.1 ++ [lessL p r own (r.getD (leadN own) 0)], s.2)
def putL (p : Int) (own : List Int) (out : List (List Int)) : List (List Int) :=
  let s := out.foldl (putStep p own) ([], false)
  if s.2 = true then s.1 else s.1 ++ [own]
def echStep (p : Int) (out : List (List Int)) (row : List Int) : List (List Int) :=
  let own := restL p out row
  if leadN own < own.length then putL p (ownL p own) out else out
def echL (p : Int) (rows : List (List Int)) : List (List Int) := rows.foldl (echStep p) []
def cutRow (p : Int) (own r : List Int) : List Int := lessL p r own (r.getD (leadN own) 0)
theorem put_true (p : Int) (own : List Int) : ∀ (out pre : List (List Int)), out.foldl (putStep p own) (pre, true) = (pre ++ out.map (cutRow p own), true)
  | [], pre => by simp
  | r :: out, pre => by
    rw [List.foldl_cons]
    show out.foldl (putStep p own) (putStep p own (pre, true) r) = _
    have : putStep p own (pre, true) r = (pre ++ [cutRow p own r], true) := by simp [putStep, cutRow]
    rw [this, put_true p own out]
    simp
theorem put_false (p : Int) (own : List Int) : ∀ (out pre : List (List Int)), (if (out.foldl (putStep p own) (pre, false)).2 = true then (out.foldl (putStep p own) (pre, false)).1 else (out.foldl (putStep p own) (pre, false)).1 ++ [own]) =
    pre ++ (out.takeWhile (fun r => !decide (leadN own < leadN r))).map (cutRow p own) ++ [own] ++ (out.dropWhile (fun r => !decide (leadN own < leadN r))).map (cutRow p own)
  | [], pre => by simp
  | r :: out, pre => by
    rw [List.foldl_cons]
    by_cases h : leadN own < leadN r
    · have : putStep p own (pre, false) r = (pre ++ [own] ++ [cutRow p own r], true) := by simp [putStep, cutRow, h]
      rw [this, put_true]
      simp [h]
    · have : putStep p own (pre, false) r = (pre ++ [cutRow p own r], false) := by simp [putStep, cutRow, h]
      rw [this, put_false p own out]
      simp [h]
theorem putL_eq (p : Int) (own : List Int) (out : List (List Int)) : putL p own out = (out.takeWhile (fun r => !decide (leadN own < leadN r))).map (cutRow p own) ++ own :: (out.dropWhile (fun r => !decide (leadN own < leadN r))).map (cutRow p own) := by
  have := put_false p own out []
  unfold putL
  simp only [List.nil_append] at this
  rw [show (if (List.foldl (putStep p own) ([], false) out).2 = true then (List.foldl (putStep p own) ([], false) out).1 else (List.foldl (putStep p own) ([], false) out).1 ++ [own]) = _ from this]
  simp
theorem mem_putL {p : Int} {own : List Int} {out : List (List Int)} {x : List Int} (h : x ∈ putL p own out) : x = own ∨ ∃ r ∈ out, x = cutRow p own r := by
  rw [putL_eq, List.mem_append, List.mem_cons, List.mem_map, List.mem_map] at h
  rcases h with ⟨r, hr, rfl⟩ | rfl | ⟨r, hr, rfl⟩
  · exact .inr ⟨r, List.takeWhile_subset _ hr, rfl⟩
  · exact .inl rfl
  · exact .inr ⟨r, List.dropWhile_subset _ hr, rfl⟩
theorem putL_length (p : Int) (own : List Int) (out : List (List Int)) : (putL p own out).length = out.length + 1 := by
  rw [putL_eq]
  have := congrArg List.length (List.takeWhile_append_dropWhile (p := fun r => !decide (leadN own < leadN r)) (l := out))
  rw [List.length_append] at this
  rw [List.length_append, List.length_cons, List.length_map, List.length_map]
  omega
/-- A reduced list. -/
structure Red (p : Int) (L : Nat) (out : List (List Int)) : Prop where
  led : ∀ r ∈ out, Led p L r
  up : out.Pairwise fun a b => leadN a < leadN b ∧ a.getD (leadN b) 0 = 0
theorem Red.apart {p : Int} {L : Nat} {out : List (List Int)} (h : Red p L out) : out.Pairwise Apart0 := h.up.imp fun ⟨h1, h2⟩ => ⟨h2, leadN_zero h1⟩
theorem ownL_led {p : Int} {L : Nat} (hp : primeZ p) {own : List Int} (h : RowOk p L own) (hl : leadN own < L) : Led p L (ownL p own) ∧ leadN (ownL p own) = leadN own := by
  have h2 := hp.two
  have hx := h.nums (leadN own)
  have hne := leadN_ne (by rw [h.len]; exact hl)
  have hi := invZ_ok hp (x := own.getD (leadN own) 0) (by omega) hx.2
  have e : (ownL p own).getD (leadN own) 0 = 1 := by
    unfold ownL
    rw [scaleL_get, Int.mul_comm]
    exact hi
  have el : leadN (ownL p own) = leadN own := leadN_eq (by rw [e]; decide) fun j hj => by
    unfold ownL
    rw [scaleL_get, leadN_zero hj]
    simp
  exact ⟨⟨h.scale (by omega) _, by omega, by rw [el]; exact e⟩, el⟩
theorem cutRow_led {p : Int} {L : Nat} (hp : 2 ≤ p) {own r : List Int} (ho : Led p L own) (hr : Led p L r) (hz : own.getD (leadN r) 0 = 0) : Led p L (cutRow p own r) ∧ leadN (cutRow p own r) = leadN r := by
  have e : ∀ i, (cutRow p own r).getD i 0 = (r.getD i 0 - r.getD (leadN own) 0 * own.getD i 0) % p := lessL_get hr.ok.len ho.ok.len _
  have e1 : (cutRow p own r).getD (leadN r) 0 = 1 := by
    rw [e, hz, hr.one, Int.mul_zero, Int.sub_zero]
    exact Int.emod_eq_of_lt (by decide) (by omega)
  have el : leadN (cutRow p own r) = leadN r := leadN_eq (by rw [e1]; decide) fun j hj => by
    rw [e, leadN_zero hj]
    by_cases h : leadN own < leadN r
    · rw [leadN_zero h]; simp
    · have : leadN own ≠ leadN r := fun hh => by
        have := ho.one
        rw [hh, hz] at this
        exact absurd this (by decide)
      rw [leadN_zero (r := own) (i := j) (by omega)]
      simp
  exact ⟨⟨hr.ok.less (by omega) ho.ok _, by rw [el]; exact hr.lt, by rw [el]; exact e1⟩, el⟩
theorem putL_red {p : Int} {L : Nat} (hp : 2 ≤ p) {own : List Int} {out : List (List Int)} (h : Red p L out) (ho : Led p L own) (hz : ∀ r ∈ out, own.getD (leadN r) 0 = 0) : Red p L (putL p own out) := by
  have hc : ∀ r ∈ out, Led p L (cutRow p own r) ∧ leadN (cutRow p own r) = leadN r := fun r hr => cutRow_led hp ho (h.led r hr) (hz r hr)
  have hown : ∀ r ∈ out, (cutRow p own r).getD (leadN own) 0 = 0 := fun r hr => by
    show (lessL p r own _).getD _ 0 = 0
    rw [lessL_get (h.led r hr).ok.len ho.ok.len, ho.one]
    simp
  have hpair : ∀ a ∈ out, ∀ b ∈ out, a.getD (leadN b) 0 = 0 → (cutRow p own a).getD (leadN (cutRow p own b)) 0 = 0 := fun a ha b hb hab => by
    rw [(hc b hb).2]
    show (lessL p a own _).getD _ 0 = 0
    rw [lessL_get (h.led a ha).ok.len ho.ok.len, hz b hb, hab]
    simp
  refine ⟨fun x hx => ?_, ?_⟩
  · rcases mem_putL hx with rfl | ⟨r, hr, rfl⟩
    · exact ho
    · exact (hc r hr).1
  · rw [putL_eq]
    have hpw := h.up
    have hdec := (List.takeWhile_append_dropWhile (p := fun r => !decide (leadN own < leadN r)) (l := out))
    have hpw2 := hpw
    rw [← hdec, List.pairwise_append] at hpw2
    have hmapped : ∀ l : List (List Int), (∀ x ∈ l, x ∈ out) → l.Pairwise (fun a b => leadN a < leadN b ∧ a.getD (leadN b) 0 = 0) → (l.map (cutRow p own)).Pairwise (fun a b => leadN a < leadN b ∧ a.getD (leadN b) 0 = 0) := fun l hl hw => by
      rw [List.pairwise_map]
      refine hw.imp_of_mem fun {a b} ha hb ⟨h1, h2⟩ => ⟨?_, hpair a (hl a ha) b (hl b hb) h2⟩
      rw [(hc a (hl a ha)).2, (hc b (hl b hb)).2]
      exact h1
    have ht : ∀ x ∈ out.takeWhile (fun r => !decide (leadN own < leadN r)), x ∈ out := fun x hx => List.takeWhile_subset _ hx
    have hd : ∀ x ∈ out.dropWhile (fun r => !decide (leadN own < leadN r)), x ∈ out := fun x hx => List.dropWhile_subset _ hx
    have ht2 : ∀ x ∈ out.takeWhile (fun r => !decide (leadN own < leadN r)), leadN x < leadN own := fun x hx => by
      have h1 := List.all_takeWhile (p := fun r => !decide (leadN own < leadN r)) (l := out)
      rw [List.all_eq_true] at h1
      have h2 := h1 x hx
      simp at h2
      have : leadN own ≠ leadN x := fun hh => by
        have := ho.one
        rw [hh, hz x (ht x hx)] at this
        exact absurd this (by decide)
      omega
    have hd2 : ∀ x ∈ out.dropWhile (fun r => !decide (leadN own < leadN r)), leadN own < leadN x := by
      cases hdw : out.dropWhile (fun r => !decide (leadN own < leadN r)) with
      | nil => intro x hx; simp at hx
      | cons y ys =>
        have hy : leadN own < leadN y := by
          have := List.head?_dropWhile_not (fun r => !decide (leadN own < leadN r)) out
          rw [hdw] at this
          simpa using this
        intro x hx
        rcases List.mem_cons.1 hx with rfl | hx
        · exact hy
        · have := hpw2.2.1
          rw [hdw, List.pairwise_cons] at this
          have := (this.1 x hx).1
          omega
    rw [List.pairwise_append]
    refine ⟨hmapped _ ht hpw2.1, ?_, ?_⟩
    · rw [List.pairwise_cons]
      refine ⟨fun x hx => ?_, hmapped _ hd hpw2.2.1⟩
      obtain ⟨r, hr, rfl⟩ := List.mem_map.1 hx
      rw [(hc r (hd r hr)).2]
      exact ⟨hd2 r hr, hz r (hd r hr)⟩
    · intro a ha b hb
      obtain ⟨ra, hra, rfl⟩ := List.mem_map.1 ha
      rw [(hc ra (ht ra hra)).2]
      rcases List.mem_cons.1 hb with rfl | hb
      · exact ⟨ht2 ra hra, hown ra (ht ra hra)⟩
      · obtain ⟨rb, hrb, rfl⟩ := List.mem_map.1 hb
        have h3 := hpw2.2.2 ra hra rb hrb
        refine ⟨?_, hpair ra (ht ra hra) rb (hd rb hrb) h3.2⟩
        rw [(hc rb (hd rb hrb)).2]
        exact h3.1
theorem ownL_zero {p : Int} {own : List Int} {j : Nat} (h : own.getD j 0 = 0) : (ownL p own).getD j 0 = 0 := by
  unfold ownL
  rw [scaleL_get, h]
  simp
theorem echStep_red {p : Int} {L : Nat} (hp : primeZ p) {out : List (List Int)} {row : List Int} (h : Red p L out) (hr : RowOk p L row) : Red p L (echStep p out row) := by
  have h2 := hp.two
  have hok := restL_ok (L := L) (by omega) out row hr fun r hr => (h.led r hr).ok
  unfold echStep
  dsimp only
  split
  · rename_i hlt
    rw [hok.len] at hlt
    refine putL_red (by omega) h (ownL_led hp hok hlt).1 fun r hrr => ownL_zero ?_
    exact restL_zero (by omega) out row hr (fun r hr => h.led r hr) h.apart r hrr
  · exact h
theorem echStep_keep {p : Int} {Q : List Int → Prop} (hQ : ∀ r o q, Q r → Q o → Q (lessL p r o q)) (hS : ∀ r c, Q r → Q (scaleL p r c)) {out : List (List Int)} {row : List Int} (ho : ∀ r ∈ out, Q r) (hr : Q row) : ∀ r ∈ echStep p out row, Q r := by
  have h1 := restL_keep hQ out row hr ho
  unfold echStep
  dsimp only
  split
  · intro x hx
    rcases mem_putL hx with rfl | ⟨r, hr, rfl⟩
    · exact hS _ _ h1
    · exact hQ _ _ _ (ho r hr) (hS _ _ h1)
  · exact ho
/-! ### the reduced rows of a matrix beside the unit matrix -/
def sumZ (f : Nat → Int) : Nat → Int
  | 0 => 0
  | k + 1 => sumZ f k + f k
theorem sumZ_lin {p q : Int} {F G H : Nat → Int} : ∀ n, (∀ k, k < n → p ∣ F k - (G k - q * H k)) → p ∣ sumZ F n - (sumZ G n - q * sumZ H n)
  | 0, _ => by simp [sumZ]
  | n + 1, h => by
    obtain ⟨a, ha⟩ := sumZ_lin n fun k hk => h k (by omega)
    obtain ⟨b, hb⟩ := h n (by omega)
    refine ⟨a + b, ?_⟩
    simp only [sumZ]
    grind
theorem sumZ_mul {p c : Int} {F G : Nat → Int} : ∀ n, (∀ k, k < n → p ∣ F k - G k * c) → p ∣ sumZ F n - sumZ G n * c
  | 0, _ => by simp [sumZ]
  | n + 1, h => by
    obtain ⟨a, ha⟩ := sumZ_mul n fun k hk => h k (by omega)
    obtain ⟨b, hb⟩ := h n (by omega)
    refine ⟨a + b, ?_⟩
    simp only [sumZ]
    grind
def detZ (n : Nat) (A : Nat → Nat → Int) : Int :=
  if n = 2 then A 0 0 * A 1 1 - A 0 1 * A 1 0
  else if n = 3 then A 0 0 * (A 1 1 * A 2 2 - A 1 2 * A 2 1) - A 0 1 * (A 1 0 * A 2 2 - A 1 2 * A 2 0) + A 0 2 * (A 1 0 * A 2 1 - A 1 1 * A 2 0)
  else A 0 0
theorem dvd_prime {p : Int} (hp : primeZ p) {x d : Int} (h : p ∣ x * d) (hd : d % p ≠ 0) : p ∣ x := by
  rcases prime_mul hp (Int.emod_eq_zero_of_dvd h) with h | h
  · exact Int.dvd_of_emod_eq_zero h
  · exact absurd h hd
/-- A row that the matrix takes to 0 is 0. -/
theorem kernel_zero {p : Int} (hp : primeZ p) {n : Nat} (hn : n = 1 ∨ n = 2 ∨ n = 3) {A : Nat → Nat → Int} (hd : detZ n A % p ≠ 0) {v : Nat → Int} (h : ∀ j, j < n → p ∣ sumZ (fun k => v k * A k j) n) : ∀ k, k < n → p ∣ v k := by
  intro k hk
  refine dvd_prime hp ?_ hd
  rcases hn with rfl | rfl | rfl
  · obtain ⟨a, ha⟩ := h 0 (by omega)
    simp only [sumZ] at ha
    have : k = 0 := by omega
    subst this
    exact ⟨a, by simp [detZ]; grind⟩
  · obtain ⟨a, ha⟩ := h 0 (by omega)
    obtain ⟨b, hb⟩ := h 1 (by omega)
    simp only [sumZ] at ha hb
    have : k = 0 ∨ k = 1 := by omega
    rcases this with rfl | rfl
    · exact ⟨a * A 1 1 - b * A 1 0, by simp [detZ]; grind⟩
    · exact ⟨b * A 0 0 - a * A 0 1, by simp [detZ]; grind⟩
  · obtain ⟨a, ha⟩ := h 0 (by omega)
    obtain ⟨b, hb⟩ := h 1 (by omega)
    obtain ⟨c, hc⟩ := h 2 (by omega)
    simp only [sumZ] at ha hb hc
    have : k = 0 ∨ k = 1 ∨ k = 2 := by omega
    rcases this with rfl | rfl | rfl
    · exact ⟨a * (A 1 1 * A 2 2 - A 1 2 * A 2 1) - b * (A 1 0 * A 2 2 - A 1 2 * A 2 0) + c * (A 1 0 * A 2 1 - A 1 1 * A 2 0), by simp [detZ]; grind⟩
    · exact ⟨- a * (A 0 1 * A 2 2 - A 0 2 * A 2 1) + b * (A 0 0 * A 2 2 - A 0 2 * A 2 0) - c * (A 0 0 * A 2 1 - A 0 1 * A 2 0), by simp [detZ]; grind⟩
    · exact ⟨a * (A 0 1 * A 1 2 - A 0 2 * A 1 1) - b * (A 0 0 * A 1 2 - A 0 2 * A 1 0) + c * (A 0 0 * A 1 1 - A 0 1 * A 1 0), by simp [detZ]; grind⟩
theorem det3_mul (a b c d e f g h i A B C D E F G H I : Int) : (a * (e * i - f * h) - b * (d * i - f * g) + c * (d * h - e * g)) * (A * (E * I - F * H) - B * (D * I - F * G) + C * (D * H - E * G)) =
    (a*A+b*D+c*G) * ((d*B+e*E+f*H) * (g*C+h*F+i*I) - (d*C+e*F+f*I) * (g*B+h*E+i*H)) - (a*B+b*E+c*H) * ((d*A+e*D+f*G) * (g*C+h*F+i*I) - (d*C+e*F+f*I) * (g*A+h*D+i*G)) + (a*C+b*F+c*I) * ((d*A+e*D+f*G) * (g*B+h*E+i*H) - (d*B+e*E+f*H) * (g*A+h*D+i*G)) := by grind
theorem one_dvd3 {p x d a b c e f g h i j : Int} (he : x * (p * d) = (1 - p * a) * ((1 - p * f) * (1 - p * j) - (-(p * g)) * (-(p * i))) - (-(p * b)) * ((-(p * e)) * (1 - p * j) - (-(p * g)) * (-(p * h))) + (-(p * c)) * ((-(p * e)) * (-(p * i)) - (1 - p * f) * (-(p * h)))) : p ∣ 1 := by
  refine ⟨x * d + a + f + j - p * (a * f + a * j + f * j - g * i - b * e - c * h) + p * p * (a * (f * j - g * i) - b * (e * j - g * h) + c * (e * i - f * h)), ?_⟩
  grind
/-- A matrix with an inverse has no determinant 0. -/
theorem det_of_inverse {p : Int} (hp : 2 ≤ p) {n : Nat} (hn : n = 1 ∨ n = 2 ∨ n = 3) {A R : Nat → Nat → Int} (h : ∀ i j, i < n → j < n → p ∣ (if i = j then 1 else 0) - sumZ (fun k => R i k * A k j) n) : detZ n A % p ≠ 0 := by
  intro hd
  obtain ⟨d, hd⟩ := Int.dvd_of_emod_eq_zero hd
  have fin : ¬ p ∣ 1 := fun hc => by
    have := Int.le_of_dvd (by decide) hc
    omega
  apply fin
  rcases hn with rfl | rfl | rfl
  · obtain ⟨a, ha⟩ := h 0 0 (by omega) (by omega)
    simp [sumZ] at ha
    simp [detZ] at hd
    exact ⟨a + R 0 0 * d, by grind⟩
  · obtain ⟨t00, h00⟩ := h 0 0 (by omega) (by omega)
    obtain ⟨t01, h01⟩ := h 0 1 (by omega) (by omega)
    obtain ⟨t10, h10⟩ := h 1 0 (by omega) (by omega)
    obtain ⟨t11, h11⟩ := h 1 1 (by omega) (by omega)
    simp [sumZ] at h00 h01 h10 h11
    simp [detZ] at hd
    have e : (R 0 0 * R 1 1 - R 0 1 * R 1 0) * (A 0 0 * A 1 1 - A 0 1 * A 1 0) = (R 0 0 * A 0 0 + R 0 1 * A 1 0) * (R 1 0 * A 0 1 + R 1 1 * A 1 1) - (R 0 0 * A 0 1 + R 0 1 * A 1 1) * (R 1 0 * A 0 0 + R 1 1 * A 1 0) := by grind
    rw [hd, show R 0 0 * A 0 0 + R 0 1 * A 1 0 = 1 - p * t00 by omega, show R 1 0 * A 0 1 + R 1 1 * A 1 1 = 1 - p * t11 by omega, show R 0 0 * A 0 1 + R 0 1 * A 1 1 = - (p * t01) by omega, show R 1 0 * A 0 0 + R 1 1 * A 1 0 = - (p * t10) by omega] at e
    exact ⟨(R 0 0 * R 1 1 - R 0 1 * R 1 0) * d + t00 + t11 - p * t00 * t11 + p * t01 * t10, by grind⟩
  · obtain ⟨t00, h00⟩ := h 0 0 (by omega) (by omega)
    obtain ⟨t01, h01⟩ := h 0 1 (by omega) (by omega)
    obtain ⟨t02, h02⟩ := h 0 2 (by omega) (by omega)
    obtain ⟨t10, h10⟩ := h 1 0 (by omega) (by omega)
    obtain ⟨t11, h11⟩ := h 1 1 (by omega) (by omega)
    obtain ⟨t12, h12⟩ := h 1 2 (by omega) (by omega)
    obtain ⟨t20, h20⟩ := h 2 0 (by omega) (by omega)
    obtain ⟨t21, h21⟩ := h 2 1 (by omega) (by omega)
    obtain ⟨t22, h22⟩ := h 2 2 (by omega) (by omega)
    simp [sumZ] at h00 h01 h02 h10 h11 h12 h20 h21 h22
    simp [detZ] at hd
    have e := det3_mul (R 0 0) (R 0 1) (R 0 2) (R 1 0) (R 1 1) (R 1 2) (R 2 0) (R 2 1) (R 2 2) (A 0 0) (A 0 1) (A 0 2) (A 1 0) (A 1 1) (A 1 2) (A 2 0) (A 2 1) (A 2 2)
    rw [hd, show R 0 0 * A 0 0 + R 0 1 * A 1 0 + R 0 2 * A 2 0 = 1 - p * t00 by omega, show R 0 0 * A 0 1 + R 0 1 * A 1 1 + R 0 2 * A 2 1 = - (p * t01) by omega, show R 0 0 * A 0 2 + R 0 1 * A 1 2 + R 0 2 * A 2 2 = - (p * t02) by omega,
      show R 1 0 * A 0 0 + R 1 1 * A 1 0 + R 1 2 * A 2 0 = - (p * t10) by omega, show R 1 0 * A 0 1 + R 1 1 * A 1 1 + R 1 2 * A 2 1 = 1 - p * t11 by omega, show R 1 0 * A 0 2 + R 1 1 * A 1 2 + R 1 2 * A 2 2 = - (p * t12) by omega,
      show R 2 0 * A 0 0 + R 2 1 * A 1 0 + R 2 2 * A 2 0 = - (p * t20) by omega, show R 2 0 * A 0 1 + R 2 1 * A 1 1 + R 2 2 * A 2 1 = - (p * t21) by omega, show R 2 0 * A 0 2 + R 2 1 * A 1 2 + R 2 2 * A 2 2 = 1 - p * t22 by omega] at e
    exact one_dvd3 e
/-- The row i of the matrix, and the row i of the unit matrix behind it. -/
def augRow (n : Nat) (A : Nat → Nat → Int) (i : Nat) : List Int := (List.range (2 * n)).map fun t => if t < n then A i t else if t = n + i then 1 else 0
theorem augRow_get (n : Nat) (A : Nat → Nat → Int) (i t : Nat) : (augRow n A i).getD t 0 = if t < 2 * n then (if t < n then A i t else if t = n + i then 1 else 0) else 0 := by
  by_cases h : t < 2 * n <;> simp [augRow, List.getD_eq_getElem?_getD, h]
/-- What all rows of the list have, when i rows are taken. -/
structure AugOk (p : Int) (n : Nat) (A : Nat → Nat → Int) (i : Nat) (r : List Int) : Prop where
  ok : RowOk p (2 * n) r
  lin : ∀ j, j < n → p ∣ r.getD j 0 - sumZ (fun k => r.getD (n + k) 0 * A k j) n
  far : ∀ k, i ≤ k → k < n → r.getD (n + k) 0 = 0
theorem AugOk.more {p : Int} {n : Nat} {A : Nat → Nat → Int} {i : Nat} {r : List Int} (h : AugOk p n A i r) : AugOk p n A (i + 1) r := ⟨h.ok, h.lin, fun k hk => h.far k (by omega)⟩
theorem AugOk.less {p : Int} (hp : 0 < p) {n : Nat} {A : Nat → Nat → Int} {i : Nat} {r o : List Int} (q : Int) (h : AugOk p n A i r) (k : AugOk p n A i o) : AugOk p n A i (lessL p r o q) := by
  refine ⟨h.ok.less hp k.ok q, fun j hj => ?_, fun t ht htn => ?_⟩
  · obtain ⟨a, ha⟩ := h.lin j hj
    obtain ⟨b, hb⟩ := k.lin j hj
    have hs : p ∣ sumZ (fun k => (lessL p r o q).getD (n + k) 0 * A k j) n - (sumZ (fun k => r.getD (n + k) 0 * A k j) n - q * sumZ (fun k => o.getD (n + k) 0 * A k j) n) := sumZ_lin n fun t _ => by
      rw [lessL_get h.ok.len k.ok.len, Int.emod_def]
      refine ⟨- ((r.getD (n + t) 0 - q * o.getD (n + t) 0) / p) * A t j, ?_⟩
      grind
    obtain ⟨c, hc⟩ := hs
    rw [lessL_get h.ok.len k.ok.len, Int.emod_def]
    refine ⟨a - q * b - (r.getD j 0 - q * o.getD j 0) / p - c, ?_⟩
    grind
  · rw [lessL_get h.ok.len k.ok.len, h.far t ht htn, k.far t ht htn]
    simp
theorem AugOk.scale {p : Int} (hp : 0 < p) {n : Nat} {A : Nat → Nat → Int} {i : Nat} {r : List Int} (c : Int) (h : AugOk p n A i r) : AugOk p n A i (scaleL p r c) := by
  refine ⟨h.ok.scale hp c, fun j hj => ?_, fun t ht htn => ?_⟩
  · obtain ⟨a, ha⟩ := h.lin j hj
    have hs : p ∣ sumZ (fun k => (scaleL p r c).getD (n + k) 0 * A k j) n - sumZ (fun k => r.getD (n + k) 0 * A k j) n * c := sumZ_mul n fun t _ => by
      rw [scaleL_get, Int.emod_def]
      refine ⟨- ((r.getD (n + t) 0 * c) / p) * A t j, ?_⟩
      grind
    obtain ⟨b, hb⟩ := hs
    rw [scaleL_get, Int.emod_def]
    refine ⟨a * c - (r.getD j 0 * c) / p - b, ?_⟩
    grind
  · rw [scaleL_get, h.far t ht htn]
    simp
theorem sumZ_unit (f : Nat → Int) (i : Nat) : ∀ n, sumZ (fun k => (if k = i then 1 else 0) * f k) n = if i < n then f i else 0
  | 0 => by simp [sumZ]
  | n + 1 => by
    rw [sumZ, sumZ_unit f i n]
    by_cases h : i < n
    · have : n ≠ i := by omega
      simp [h, this]
      omega
    · by_cases h2 : n = i
      · subst h2
        simp
      · have : ¬ i < n + 1 := by omega
        simp [h, h2, this]
theorem sumZ_congr {f g : Nat → Int} : ∀ n, (∀ k, k < n → f k = g k) → sumZ f n = sumZ g n
  | 0, _ => rfl
  | n + 1, h => by rw [sumZ, sumZ, sumZ_congr n fun k hk => h k (by omega), h n (by omega)]
theorem augRow_ok {p : Int} (hp : 2 ≤ p) {n : Nat} {A : Nat → Nat → Int} (hA : ∀ i j, 0 ≤ A i j ∧ A i j < p) (i : Nat) (hi : i < n) : AugOk p n A (i + 1) (augRow n A i) := by
  refine ⟨⟨by simp [augRow], fun t => ?_⟩, fun j hj => ?_, fun t ht htn => ?_⟩
  · rw [augRow_get]
    have := hA i t
    split
    · split
      · exact this
      · split <;> omega
    · omega
  · have e : sumZ (fun k => (augRow n A i).getD (n + k) 0 * A k j) n = A i j := by
      rw [sumZ_congr n (g := fun k => (if k = i then 1 else 0) * A k j) fun k hk => ?_, sumZ_unit, if_pos hi]
      rw [augRow_get, if_pos (by omega), if_neg (by omega)]
      by_cases h : k = i
      · simp [h]
      · rw [if_neg (by omega), if_neg h]
    rw [e, augRow_get, if_pos (by omega), if_pos hj, Int.sub_self]
    exact Int.dvd_zero _
  · rw [augRow_get, if_pos (by omega), if_neg (by omega), if_neg (by omega)]
def augRows (n : Nat) (A : Nat → Nat → Int) (i : Nat) : List (List Int) := (List.range i).map (augRow n A)
theorem augRows_succ (n : Nat) (A : Nat → Nat → Int) (i : Nat) : augRows n A (i + 1) = augRows n A i ++ [augRow n A i] := by simp [augRows, List.range_succ]
theorem aug_inv {p : Int} (hp : primeZ p) {n : Nat} {A : Nat → Nat → Int} (hA : ∀ i j, 0 ≤ A i j ∧ A i j < p) : ∀ i, i ≤ n → Red p (2 * n) (echL p (augRows n A i)) ∧ (echL p (augRows n A i)).length = i ∧ ∀ r ∈ echL p (augRows n A i), AugOk p n A i r
  | 0, _ => by
    refine ⟨⟨fun r hr => ?_, ?_⟩, rfl, fun r hr => ?_⟩
    · simp [augRows, echL] at hr
    · exact List.Pairwise.nil
    · simp [augRows, echL] at hr
  | i + 1, hi => by
    obtain ⟨h1, h2, h3⟩ := aug_inv (n := n) hp hA i (by omega)
    have h2p := hp.two
    have hrow := augRow_ok (by omega) hA i (show i < n by omega)
    have e : echL p (augRows n A (i + 1)) = echStep p (echL p (augRows n A i)) (augRow n A i) := by
      rw [augRows_succ]
      simp [echL, List.foldl_append]
    rw [e]
    refine ⟨echStep_red hp h1 hrow.ok, ?_, ?_⟩
    · have hok := restL_ok (L := 2 * n) (by omega) (echL p (augRows n A i)) (augRow n A i) hrow.ok fun r hr => (h1.led r hr).ok
      have hone : (restL p (echL p (augRows n A i)) (augRow n A i)).getD (n + i) 0 = 1 := by
        rw [restL_same (L := 2 * n) (by omega) (n + i) _ _ hrow.ok fun r hr => ⟨(h1.led r hr).ok, (h3 r hr).far i (Nat.le_refl _) (by omega)⟩, augRow_get, if_pos (show n + i < 2 * n by omega), if_neg (show ¬ n + i < n by omega), if_pos rfl]
      have hlt : leadN (restL p (echL p (augRows n A i)) (augRow n A i)) < 2 * n := by
        have := leadN_le_of (r := restL p (echL p (augRows n A i)) (augRow n A i)) (i := n + i) (by rw [hone]; decide)
        omega
      unfold echStep
      rw [if_pos (by rw [hok.len]; exact hlt), putL_length, h2]
    · exact echStep_keep (Q := AugOk p n A (i + 1)) (fun r o q hr ho => hr.less (by omega) q ho) (fun r c hr => hr.scale (by omega) c) (fun r hr => (h3 r hr).more) hrow
theorem aug_lead {p : Int} (hp : primeZ p) {n : Nat} (hn : n = 1 ∨ n = 2 ∨ n = 3) {A : Nat → Nat → Int} (hd : detZ n A % p ≠ 0) {r : List Int} (h : AugOk p n A n r) (hl : Led p (2 * n) r) : leadN r < n := by
  apply Decidable.byContradiction
  intro hc
  have h1 : ∀ j, j < n → p ∣ sumZ (fun k => r.getD (n + k) 0 * A k j) n := fun j hj => by
    have := h.lin j hj
    rw [leadN_zero (r := r) (i := j) (by omega), Int.zero_sub] at this
    exact Int.dvd_neg.1 this
  have h2 := kernel_zero hp hn hd (v := fun k => r.getD (n + k) 0) h1 (leadN r - n) (by have := hl.lt; omega)
  have h3 : n + (leadN r - n) = leadN r := by omega
  simp only [h3, hl.one] at h2
  have := Int.le_of_dvd (by decide) h2
  have := hp.two
  omega
/-- The reduced rows of the matrix beside the unit matrix. -/
def invRows (p : Int) (n : Nat) (A : Nat → Nat → Int) : List (List Int) := echL p (augRows n A n)
theorem getD_mem {α : Type} {l : List α} {i : Nat} (z : α) (h : i < l.length) : l.getD i z ∈ l := by
  rw [List.getD_eq_getElem?_getD, List.getElem?_eq_getElem h]
  exact List.getElem_mem h
theorem pair_getD {α : Type} {R : α → α → Prop} {l : List α} (h : l.Pairwise R) (z : α) {i j : Nat} (hij : i < j) (hj : j < l.length) : R (l.getD i z) (l.getD j z) := by
  have := List.pairwise_iff_getElem.1 h i j (by omega) hj hij
  rw [List.getD_eq_getElem?_getD, List.getElem?_eq_getElem (by omega), List.getD_eq_getElem?_getD, List.getElem?_eq_getElem hj]
  exact this
theorem inv_length {p : Int} (hp : primeZ p) {n : Nat} {A : Nat → Nat → Int} (hA : ∀ i j, 0 ≤ A i j ∧ A i j < p) : (invRows p n A).length = n := (aug_inv hp hA n (Nat.le_refl _)).2.1
theorem inv_ok {p : Int} (hp : primeZ p) {n : Nat} {A : Nat → Nat → Int} (hA : ∀ i j, 0 ≤ A i j ∧ A i j < p) : ∀ r ∈ invRows p n A, AugOk p n A n r := (aug_inv hp hA n (Nat.le_refl _)).2.2
theorem inv_red {p : Int} (hp : primeZ p) {n : Nat} {A : Nat → Nat → Int} (hA : ∀ i j, 0 ≤ A i j ∧ A i j < p) : Red p (2 * n) (invRows p n A) := (aug_inv hp hA n (Nat.le_refl _)).1
theorem inv_leads {p : Int} (hp : primeZ p) {n : Nat} (hn : n = 1 ∨ n = 2 ∨ n = 3) {A : Nat → Nat → Int} (hA : ∀ i j, 0 ≤ A i j ∧ A i j < p) (hd : detZ n A % p ≠ 0) : ∀ i, i < n → leadN ((invRows p n A).getD i []) = i := by
  have hl := inv_length (n := n) hp hA
  have h1 : ∀ i, i < n → leadN ((invRows p n A).getD i []) < n := fun i hi => aug_lead hp hn hd (inv_ok hp hA _ (getD_mem _ (by omega))) ((inv_red hp hA).led _ (getD_mem _ (by omega)))
  have h2 : ∀ i j, i < j → j < n → leadN ((invRows p n A).getD i []) < leadN ((invRows p n A).getD j []) := fun i j hij hj => (pair_getD (inv_red hp hA).up [] hij (by omega)).1
  intro i hi
  rcases hn with rfl | rfl | rfl
  · have := h1 i hi
    omega
  · have a := h2 0 1 (by omega) (by omega)
    have b := h1 1 (by omega)
    have : i = 0 ∨ i = 1 := by omega
    rcases this with rfl | rfl <;> omega
  · have a := h2 0 1 (by omega) (by omega)
    have b := h2 1 2 (by omega) (by omega)
    have c := h1 2 (by omega)
    have : i = 0 ∨ i = 1 ∨ i = 2 := by omega
    rcases this with rfl | rfl | rfl <;> omega
/-- What the right half is, where the leads are in their places. -/
theorem inv_unit {p : Int} (hp : primeZ p) {n : Nat} {A : Nat → Nat → Int} (hA : ∀ i j, 0 ≤ A i j ∧ A i j < p) (hl : ∀ i, i < n → leadN ((invRows p n A).getD i []) = i) : ∀ i j, i < n → j < n → p ∣ (if i = j then 1 else 0) - sumZ (fun k => ((invRows p n A).getD i []).getD (n + k) 0 * A k j) n := by
  intro i j hi hj
  have hlen := inv_length (n := n) hp hA
  have hr := inv_ok hp hA _ (getD_mem [] (show i < (invRows p n A).length by omega))
  have hd := (inv_red hp hA).led _ (getD_mem [] (show i < (invRows p n A).length by omega))
  have h1 := hr.lin j hj
  have e : ((invRows p n A).getD i []).getD j 0 = if i = j then 1 else 0 := by
    split
    · rename_i h
      subst h
      have := hd.one
      rwa [hl i hi] at this
    · rename_i h
      by_cases hij : i < j
      · have := (pair_getD (inv_red (n := n) hp hA).up [] hij (by omega)).2
        rwa [hl j hj] at this
      · exact leadN_zero (by rw [hl i hi]; omega)
  rw [← e]
  exact h1
theorem inv_det {p : Int} (hp : primeZ p) {n : Nat} (hn : n = 1 ∨ n = 2 ∨ n = 3) {A : Nat → Nat → Int} (hA : ∀ i j, 0 ≤ A i j ∧ A i j < p) : (∀ i, i < n → leadN ((invRows p n A).getD i []) = i) ↔ detZ n A % p ≠ 0 :=
  ⟨fun hl => det_of_inverse (by have := hp.two; omega) hn (R := fun i k => ((invRows p n A).getD i []).getD (n + k) 0) (inv_unit hp hA hl), inv_leads hp hn hA⟩
end Go.Proofs.Ytimjhehagimcaaa
/- The functions on rows of numbers that a program has printed, by the plain words of the reduced list; no condition. -/
set_option linter.unusedVariables false
set_option linter.unusedSimpArgs false
namespace Go.Proofs.Ytimjhehagimcaaa
open Go.RowKit Go.Proofs.YtimjhehagimcaaaW.PrintWords
attribute [local go_sem] Later.cell Later.frozen Later.lt Later.lt_add Later.le Later.le_add Later.ne Later.ne' add_at
open PFnExactOrbitOfPoint
def leadI (r : List Int) : Int := if leadN r < r.length then (leadN r : Int) else -1
theorem rd_nat (r : List Int) (i : Nat) : rd r (i : Int) = r.getD i 0 := by simp [rd]
theorem wrap64_fix {x : Int} (h : -1000000000000 ≤ x) (h' : x ≤ 1000000000000) : wrap64 x = x := by unfold wrap64; omega
theorem lead_f (r : List Int) (hn : r.length ≤ 1000000) : ∀ m i, i + m = r.length → (∀ j, j < i → r.getD j 0 = 0) → spec_l01Lead.l0 (m + 1) r (i : Int) = some (leadI r)
  | 0, i, h, hz => by
    have hl : leadN r = r.length := by
      apply Decidable.byContradiction
      intro hc
      have := leadN_le r
      exact leadN_ne (show leadN r < r.length by omega) (hz _ (by omega))
    simp only [spec_l01Lead.l0]
    rw [if_neg (by omega)]
    simp [leadI, hl]
  | m + 1, i, h, hz => by
    rw [spec_l01Lead.l0]
    rw [if_pos (by omega), if_pos (by omega), rd_nat]
    split
    · rename_i h0
      rw [wrap64_fix (by omega) (by omega)]
      have := lead_f r hn m (i + 1) (by omega) (fun j hj => by
        by_cases hji : j = i
        · subst hji; exact h0
        · exact hz j (by omega))
      exact this
    · rename_i h0
      have hl := leadN_eq h0 hz
      simp only [leadI, hl]
      rw [if_pos (by omega)]
theorem lead_c (r : List Int) (A : Option Addr) (c : Nat) (w : World) (hC : kI.C w A r.length r) (hc : r.length ≤ c) (hn : r.length ≤ 1000000) : Calls Try.prog 85 #[.slice A r.length c] w (fun e w' => e = .returned (.int .i64 (leadI r)) ∧ Drawn0 w w') :=
  spec_l01Lead.calls (r.length + 1) A c r _ w hC hc (lead_f r hn r.length 0 (by omega) (fun j hj => by omega))
theorem lead_any (r : List Int) (hn : r.length ≤ 1000000) (k : Nat) (hk : r.length + 1 ≤ k) : spec_l01Lead.f k r = some (leadI r) :=
  at_rounds (g := fun k => spec_l01Lead.f k r) (spec_l01Lead.mono r) hk (lead_f r hn r.length 0 (by omega) (fun j hj => by omega))
theorem less_f {p : Int} {L : Nat} (hp : 2 ≤ p) (hp' : p ≤ 13) {row other : List Int} (hr : RowOk p L row) (ho : RowOk p L other) {q : Int} (hq : 0 ≤ q) (hq' : q < p) (hL : L ≤ 1000000) : ∀ m i, i + m = L → spec_l01Less.l0 (m + 1) p row other q ((lessL p row other q).take i) (i : Int) = some (lessL p row other q)
  | 0, i, h => by
    rw [spec_l01Less.l0, if_neg (by rw [hr.len]; omega), List.take_of_length_le (by rw [lessL_length, hr.len]; omega)]
  | m + 1, i, h => by
    have h1 := hr.nums i
    have h2 := ho.nums i
    have h3 := mul_bd3 (x := q) (y := other.getD i 0) hq (by omega) h2.1 (by omega)
    rw [spec_l01Less.l0, if_pos (by rw [hr.len]; omega), if_pos (by omega), if_pos (by rw [ho.len]; omega), rd_nat, rd_nat, wrap64_fix (x := q * _) (by omega) (by omega), wrap64_fix (x := _ - _) (by omega) (by omega)]
    have hm : spec_l01Mod.f p (row.getD i 0 - q * other.getD i 0) = some ((row.getD i 0 - q * other.getD i 0) % p) := by
      unfold spec_l01Mod.f
      rw [if_neg (by omega)]
      exact congrArg some (tmod_fix hp hp')
    rw [hm, Option.bind_some, if_pos (by simp [lessL_length, hr.len]; omega), wrap64_fix (by omega) (by omega)]
    have ht : (lessL p row other q).take i ++ [(row.getD i 0 - q * other.getD i 0) % p] = (lessL p row other q).take (i + 1) := by
      rw [List.take_succ_eq_append_getElem (by rw [lessL_length, hr.len]; omega)]
      have := lessL_get (p := p) hr.len ho.len q i
      rw [List.getD_eq_getElem?_getD, List.getElem?_eq_getElem (by rw [lessL_length, hr.len]; omega)] at this
      rw [← this]
      rfl
    rw [ht]
    exact less_f hp hp' hr ho hq hq' hL m (i + 1) (by omega)
theorem less_any {p : Int} {L : Nat} (hp : 2 ≤ p) (hp' : p ≤ 13) {row other : List Int} (hr : RowOk p L row) (ho : RowOk p L other) {q : Int} (hq : 0 ≤ q) (hq' : q < p) (hL : L ≤ 1000000) (k : Nat) (hk : L + 1 ≤ k) : spec_l01Less.f k p row other q = some (lessL p row other q) :=
  at_rounds (g := fun k => spec_l01Less.f k p row other q) (spec_l01Less.mono p row other q) hk (less_f hp hp' hr ho hq hq' hL L 0 (by omega))
theorem less_c {p : Int} {L : Nat} (hp : 2 ≤ p) (hp' : p ≤ 13) {row other : List Int} (hr : RowOk p L row) (ho : RowOk p L other) {q : Int} (hq : 0 ≤ q) (hq' : q < p) (hL : L ≤ 1000000) (A B : Option Addr) (c d : Nat) (w : World) (hC : kI.C w A row.length row) (hc : row.length ≤ c) (hD : kI.C w B other.length other) (hd : other.length ≤ d) :
    Calls Try.prog 87 #[.int .i64 p, .slice A row.length c, .slice B other.length d, .int .i64 q] w (Makes kI 2 (lessL p row other q) w) :=
  spec_l01Less.calls (L + 1) p A c row B d other q _ w hC hc hD hd (less_any hp hp' hr ho hq hq' hL _ (Nat.le_refl _))
theorem own_f (r : List Int) (hn : r.length ≤ 1000000) : spec_l01Own.f r = some r := by
  unfold spec_l01Own.f
  rw [Option.bind_some, if_pos (by simp; omega)]
  rfl
theorem rest_f {p : Int} {L : Nat} (hp : 2 ≤ p) (hp' : p ≤ 13) (hL : L ≤ 1000000) {list : List (List Int)} (hn : list.length ≤ 1000000) (hl : ∀ r ∈ list, Led p L r) : ∀ m j cur, j + m = list.length → RowOk p L cur → spec_l01Rest.l0 (m + 1 + (L + 1)) p list cur (j : Int) = some (restL p (list.drop j) cur)
  | 0, j, cur, h, hc => by
    rw [show 0 + 1 + (L + 1) = (L + 1) + 1 by omega, spec_l01Rest.l0, if_neg (by omega), List.drop_of_length_le (by omega)]
    rfl
  | m + 1, j, cur, h, hc => by
    have hjl : j < list.length := by omega
    have hr : rd_L1 list (j : Int) = list[j] := by
      unfold rd_L1
      rw [Int.toNat_natCast, List.getD_eq_getElem?_getD, List.getElem?_eq_getElem hjl]
      rfl
    have hj := hl _ (List.getElem_mem hjl)
    have hn2 := hc.nums (leadN list[j])
    rw [show m + 1 + 1 + (L + 1) = (m + 1 + (L + 1)) + 1 by omega, spec_l01Rest.l0, if_pos (by omega), if_pos (by omega), hr, lead_any _ (by rw [hj.ok.len]; exact hL) _ (by rw [hj.ok.len]; omega), Option.bind_some]
    have hli : leadI list[j] = (leadN list[j] : Int) := by
      unfold leadI
      rw [if_pos (by rw [hj.ok.len]; exact hj.lt)]
    rw [hli, if_pos (by omega), if_pos (by rw [hc.len]; have := hj.lt; omega), rd_nat, List.drop_eq_getElem_cons hjl, wrap64_fix (by omega) (by omega)]
    have e : restL p (list[j] :: list.drop (j + 1)) cur = restL p (list.drop (j + 1)) (restStep p cur list[j]) := rfl
    rw [e]
    have ih := rest_f hp hp' hL hn hl m (j + 1) (restStep p cur list[j]) (by omega) (restStep_ok (by omega) hc hj.ok)
    by_cases h0 : cur.getD (leadN list[j]) 0 = 0
    · rw [if_pos h0]
      have e2 : restStep p cur list[j] = cur := by unfold restStep; rw [if_pos h0]
      rw [e2] at ih ⊢
      exact ih
    · rw [if_neg h0, less_any hp hp' hc hj.ok hn2.1 hn2.2 hL _ (by omega), Option.bind_some]
      have e2 : restStep p cur list[j] = lessL p cur list[j] (cur.getD (leadN list[j]) 0) := by unfold restStep; rw [if_neg h0]
      rw [e2] at ih ⊢
      exact ih
theorem rest_c {p : Int} {L : Nat} (hp : 2 ≤ p) (hp' : p ≤ 13) (hL : L ≤ 1000000) {list : List (List Int)} (hn : list.length ≤ 1000000) (hl : ∀ r ∈ list, Led p L r) {row : List Int} (hr : RowOk p L row) (A B : Option Addr) (c d : Nat) (w : World) (hC : (Kd.slice 2 kI).C w A list.length list) (hc : list.length ≤ c) (hD : kI.C w B row.length row) (hd : row.length ≤ d) :
    Calls Try.prog 84 #[.int .i64 p, .slice A list.length c, .slice B row.length d] w (Makes kI 2 (restL p list row) w) := by
  refine spec_l01Rest.calls (list.length + 1 + (L + 1)) p A c list B d row _ w hC hc hD hd ?_
  unfold spec_l01Rest.f
  rw [own_f _ (by rw [hr.len]; exact hL), Option.bind_some]
  have := rest_f hp hp' hL hn hl list.length 0 row (by omega) hr
  rwa [List.drop_zero] at this
theorem inv_unique {p : Int} (hp : primeZ p) {x a b : Int} (hx : 0 < x) (hx' : x < p) (ha : 0 ≤ a) (ha' : a < p) (hb : 0 ≤ b) (hb' : b < p) (h1 : a * x % p = 1) (h2 : b * x % p = 1) : a = b := by
  have h3 : (a - b) * x % p = 0 := by
    rw [Int.sub_mul, Int.sub_emod, h1, h2]
    simp
  rcases prime_mul hp h3 with h | h
  · obtain ⟨t, ht⟩ := Int.dvd_of_emod_eq_zero h
    have : t = 0 := by
      apply Decidable.byContradiction
      intro hc
      have h5 : 1 ≤ t ∨ t ≤ -1 := by omega
      rcases h5 with h5 | h5
      · have := Int.mul_le_mul_of_nonneg_left h5 (show 0 ≤ p by omega)
        omega
      · have := Int.mul_le_mul_of_nonneg_left h5 (show 0 ≤ p by omega)
        omega
    subst this
    omega
  · rw [Int.emod_eq_of_lt (by omega) hx'] at h
    omega
theorem invZ_range {p x : Int} (hp : primeZ p) (hx : 0 < x) (hx' : x < p) : 1 ≤ invZ p x ∧ invZ p x < p := by
  have h := invZ_ok hp hx hx'
  have h2 := hp.two
  have h0 : 0 ≤ invZ p x ∧ invZ p x < p := by
    unfold invZ
    cases hf : ((List.range p.toNat).drop 1).find? (fun k : Nat => (k : Int) * (x % p) % p == 1) with
    | none => simp; omega
    | some m =>
      have := List.mem_of_mem_drop (List.mem_of_find?_eq_some hf)
      rw [List.mem_range] at this
      simp
      omega
  refine ⟨?_, h0.2⟩
  apply Decidable.byContradiction
  intro hc
  have : invZ p x = 0 := by omega
  rw [this] at h
  simp at h
theorem inverse_f {p x : Int} (hp : primeZ p) (hx : 0 < x) (hx' : x < p) : ∀ (m : Nat) (j : Int), j + m = p → 1 ≤ j → j ≤ invZ p x → spec_l01Inverse.l0 (m + 1) p x j = some (invZ p x)
  | 0, j, h, h1, h2 => by
    have := invZ_range hp hx hx'
    omega
  | m + 1, j, h, h1, h2 => by
    have h2p := hp.two
    have hr := invZ_range hp hx hx'
    have hm : spec_l01Mod.f p x = some x := by
      unfold spec_l01Mod.f
      rw [if_neg (by omega)]
      exact congrArg some ((tmod_fix (by omega) (by omega)).trans (Int.emod_eq_of_lt (by omega) hx'))
    have hb := mul_bd3 (x := j) (y := x) (by omega) (by omega) (by omega) (by omega)
    rw [spec_l01Inverse.l0, if_pos (by omega), hm, Option.bind_some, if_neg (by omega), wrap64_fix (by omega) (by omega), Int.tmod_eq_emod_of_nonneg (by omega)]
    by_cases hj : j * x % p = 1
    · rw [if_pos hj]
      exact congrArg some (inv_unique hp hx hx' (by omega) (by omega) (by omega) (by omega) hj (invZ_ok hp hx hx'))
    · rw [if_neg hj, wrap64_fix (by omega) (by omega)]
      refine inverse_f hp hx hx' m (j + 1) (by omega) (by omega) ?_
      have : j ≠ invZ p x := fun hh => hj (by rw [hh]; exact invZ_ok hp hx hx')
      omega
theorem inverse_c {p x : Int} (hp : primeZ p) (hx : 0 < x) (hx' : x < p) (w : World) : Calls Try.prog 86 #[.int .i64 p, .int .i64 x] w (fun e w' => e = .returned (.int .i64 (invZ p x)) ∧ Drawn0 w w') :=
  spec_l01Inverse.calls ((p - 1).toNat + 1) p x _ w (inverse_f hp hx hx' _ 1 (by have := hp.two; omega) (by omega) (invZ_range hp hx hx').1)
end Go.Proofs.Ytimjhehagimcaaa
/- The walk of the reduced list of rows; no condition. -/
set_option linter.unusedVariables false
set_option linter.unusedSimpArgs false
namespace Go.Proofs.Ytimjhehagimcaaa
open Go.RowKit Go.Proofs.YtimjhehagimcaaaW.PrintWords
attribute [local go_sem] Later.cell Later.frozen Later.lt Later.lt_add Later.le Later.le_add Later.ne Later.ne' add_at
open PFnExactOrbitOfPoint
abbrev kL : Kd (List Int) := Kd.slice 2 kI
theorem infoL : (Try.prog.info? 55).map (fun i => (i.zero, i.size, i.bytes)) = some (some (.slice none 0 0), 1, 24) := by kernel_rfl
/-- A row of rows that is read. -/
theorem kL_at {w : World} {A : Option Addr} {n : Nat} {xs : List (List Int)} (h : kL.C w A n xs) (i : Nat) (hi : i < n) :
    ∃ b o B c, A = some ⟨b, o, none⟩ ∧ w.cell? ⟨b, o + i, none⟩ = some (.slice B (xs.getD i []).length c) ∧ (xs.getD i []).length ≤ c ∧ kI.C w B (xs.getD i []).length (xs.getD i []) := by
  obtain ⟨b, o, c, hA, hK, hc⟩ := C_at h (by decide) i hi []
  obtain ⟨B, cc, rfl, hl, hC⟩ := hK
  refine ⟨b, o, B, cc, hA, ?_, hl, hC⟩
  have := hc 0 _ rfl
  have e : o + i * kL.sz + 0 = o + i := by show o + i * 1 + 0 = _; omega
  rwa [e] at this
theorem lead_g {w : World} {A : Option Addr} {n c : Nat} {r : List Int} (v : Int) (hC : kI.C w A n r) (hc : n ≤ c) (hn : n ≤ 1000000) (hv : leadI r = v) : Calls Try.prog 85 #[.slice A n c] w (Gives (.int .i64 v) w) := by
  obtain rfl := Kd.C_len hC
  subst hv
  exact (lead_c r A c w hC hc hn).mono fun e w' ⟨h1, h2⟩ => ⟨h1, h2.below⟩
theorem inverse_g {p x : Int} (hp : primeZ p) (hx : 0 < x) (hx' : x < p) (w : World) : Calls Try.prog 86 #[.int .i64 p, .int .i64 x] w (Gives (.int .i64 (invZ p x)) w) :=
  (inverse_c hp hx hx' w).mono fun e w' ⟨h1, h2⟩ => ⟨h1, h2.below⟩
theorem less_g {p : Int} {L : Nat} (hp : 2 ≤ p) (hp' : p ≤ 13) {row other : List Int} (hr : RowOk p L row) (ho : RowOk p L other) {q : Int} (hq : 0 ≤ q) (hq' : q < p) (hL : L ≤ 1000000) {A B : Option Addr} {n m c d : Nat} {w : World} (hC : kI.C w A n row) (hc : n ≤ c) (hD : kI.C w B m other) (hd : m ≤ d) :
    Calls Try.prog 87 #[.int .i64 p, .slice A n c, .slice B m d, .int .i64 q] w (Makes kI 2 (lessL p row other q) w) := by
  obtain rfl := Kd.C_len hC
  obtain rfl := Kd.C_len hD
  exact less_c hp hp' hr ho hq hq' hL A B c d w hC hc hD hd
theorem rest_g {p : Int} {L : Nat} (hp : 2 ≤ p) (hp' : p ≤ 13) (hL : L ≤ 1000000) {list : List (List Int)} (hn : list.length ≤ 1000000) (hl : ∀ r ∈ list, Led p L r) {row : List Int} (hr : RowOk p L row) {A B : Option Addr} {n m c d : Nat} {w : World} (hC : kL.C w A n list) (hc : n ≤ c) (hD : kI.C w B m row) (hd : m ≤ d) :
    Calls Try.prog 84 #[.int .i64 p, .slice A n c, .slice B m d] w (Makes kI 2 (restL p list row) w) := by
  obtain rfl := Kd.C_len hC
  obtain rfl := Kd.C_len hD
  exact rest_c hp hp' hL hn hl hr A B c d w hC hc hD hd
theorem echL_take {p : Int} {L : Nat} (hp : primeZ p) {rows : List (List Int)} (hr : ∀ r ∈ rows, RowOk p L r) : ∀ i, Red p L (echL p (rows.take i)) ∧ (echL p (rows.take i)).length ≤ i
  | 0 => ⟨⟨fun r hr => by simp [echL] at hr, List.Pairwise.nil⟩, by simp [echL]⟩
  | i + 1 => by
    obtain ⟨h1, h2⟩ := echL_take hp hr i
    by_cases hi : i < rows.length
    · have e : echL p (rows.take (i + 1)) = echStep p (echL p (rows.take i)) rows[i] := by
        rw [echL, List.take_succ_eq_append_getElem hi, List.foldl_append]
        rfl
      rw [e]
      refine ⟨echStep_red hp h1 (hr _ (List.getElem_mem hi)), ?_⟩
      unfold echStep
      dsimp only
      split
      · rw [putL_length]; omega
      · omega
    · rw [List.take_of_length_le (by omega)] at h1 h2 ⊢
      exact ⟨h1, by omega⟩
theorem echL_step {p : Int} {rows : List (List Int)} {i : Nat} (hi : i < rows.length) : echL p (rows.take (i + 1)) = echStep p (echL p (rows.take i)) (rows.getD i []) := by
  rw [echL, List.take_succ_eq_append_getElem hi, List.foldl_append, List.getD_eq_getElem?_getD, List.getElem?_eq_getElem hi]
  rfl
theorem put_len (p : Int) (own : List Int) : ∀ (l : List (List Int)) (s : List (List Int) × Bool), (l.foldl (putStep p own) s).1.length ≤ s.1.length + 2 * l.length
  | [], s => by simp
  | r :: l, s => by
    rw [List.foldl_cons]
    have h1 := put_len p own l (putStep p own s r)
    have h2 : (putStep p own s r).1.length ≤ s.1.length + 2 := by
      unfold putStep
      split <;> simp
    rw [List.length_cons]
    omega
def putAt (p : Int) (own : List Int) (out : List (List Int)) (j : Nat) : List (List Int) × Bool := (out.take j).foldl (putStep p own) ([], false)
theorem putAt_step (p : Int) (own : List Int) (out : List (List Int)) {j : Nat} (hj : j < out.length) : putAt p own out (j + 1) = putStep p own (putAt p own out j) (out.getD j []) := by
  unfold putAt
  rw [List.take_succ_eq_append_getElem hj, List.foldl_append, List.getD_eq_getElem?_getD, List.getElem?_eq_getElem hj]
  rfl
theorem putAt_len (p : Int) (own : List Int) (out : List (List Int)) (j : Nat) : (putAt p own out j).1.length ≤ 2 * out.length := by
  have h1 := put_len p own (out.take j) ([], false)
  have h2 := List.length_take_le' j out
  unfold putAt
  simp only [List.length_nil] at h1
  omega
theorem putL_at (p : Int) (own : List Int) (out : List (List Int)) : putL p own out = if (putAt p own out out.length).2 = true then (putAt p own out out.length).1 else (putAt p own out out.length).1 ++ [own] := by
  unfold putL putAt
  rw [List.take_length]
/-- Rows of numbers are not the row of rows. -/
theorem num_apart {W : World} {b b' : Nat} {ok ok' : Nat → Prop} {v u : Value} {xs : List (List Int)} {ys : List Int} (hv : kL.R 55 W b ok v xs) (hu : kI.R 2 W b' ok' u ys) : kI.R 2 W b' (fun k => some k ≠ v.ownBlock) u ys := by
  obtain ⟨_, inner, ho, _⟩ := hv
  refine Kd.R_mono (Kd.R_bound hu) fun k ⟨_, _, _, q, hq, cells, hc⟩ he => ?_
  obtain ⟨cells', hc'⟩ := own_typed ho k he.symm
  rw [hc] at hc'
  injection hc' with hc'
  injection hc' with _ h3 _
  have h2 : q = 2 := by simpa [Kd.int, Kd.scalar] using hq
  exact absurd (h3.symm.trans h2) (by decide)
theorem num_after {W w1 : World} {b b' : Nat} {ok ok' : Nat → Prop} {v u : Value} {xs : List (List Int)} {ys : List Int} (hv : kL.R 55 W b ok v xs) (hu : kI.R 2 W b' ok' u ys) (hg : W.grownBy w1 v.ownBlock) : kI.R 2 w1 b' (fun _ => True) u ys :=
  Kd.R_mono (Kd.R_grown (num_apart hv hu) hg fun k hk => hk) fun _ _ => trivial
theorem kI_cell {W : World} {e base g n cap : Nat} {ok : Nat → Prop} {xs : List Int} (h : kI.R e W base ok (.slice (some ⟨g, 0, none⟩) n cap) xs) (i : Nat) (hi : i < n) : W.cell? ⟨g, i, none⟩ = some (.int .i64 (xs.getD i 0)) ∧ W.frozen? ⟨g, i, none⟩ = false :=
  Kd.R_celln 0 h (i : Int) (by omega) (by omega)
theorem kI_set {W : World} {e base g n cap : Nat} {ok : Nat → Prop} {xs : List Int} (h : kI.R e W base ok (.slice (some ⟨g, 0, none⟩) n cap) xs) (i : Nat) (x : Int) : kI.R e (W.setCell ⟨g, i, none⟩ (.int .i64 x)) base ok (.slice (some ⟨g, 0, none⟩) n cap) (xs.set i x) :=
  Kd.R_putn h (i : Int) x
theorem R_C {α : Type} {d : Kd α} {w : World} {e base n c : Nat} {ok : Nat → Prop} {A : Option Addr} {xs : List α} (h : d.R e w base ok (.slice A n c) xs) : d.C w A n xs := by
  obtain ⟨rfl, _, hC⟩ := Kd.R_reads' h
  exact hC
theorem mix_get (p : Int) (own : List Int) (iv : Int) (j : Nat) (hj : j < own.length) : ((scaleL p own iv).take j ++ own.drop j).getD j 0 = own.getD j 0 := by
  rw [List.getD_eq_getElem?_getD, List.getD_eq_getElem?_getD, List.getElem?_append_right (by simp [scaleL]; exact Nat.min_le_left _ _)]
  rw [show ((scaleL p own iv).take j).length = j by simp [scaleL]; omega, Nat.sub_self]
  simp
theorem mix_set (p : Int) (own : List Int) (iv : Int) (j : Nat) (hj : j < own.length) : ((scaleL p own iv).take j ++ own.drop j).set j (own.getD j 0 * iv % p) = (scaleL p own iv).take (j + 1) ++ own.drop (j + 1) := by
  have hl : j < (scaleL p own iv).length := by simp [scaleL]; omega
  rw [List.set_append_right _ _ (by simp [scaleL]; exact Nat.min_le_left _ _), List.take_succ_eq_append_getElem hl, List.drop_eq_getElem_cons hj]
  rw [show ((scaleL p own iv).take j).length = j by simp [scaleL]; omega, Nat.sub_self, List.set_cons_zero]
  simp [scaleL, List.getD_eq_getElem?_getD, hj]
end Go.Proofs.Ytimjhehagimcaaa
/- The walk of the reduced list of rows, whole; no condition. -/
set_option linter.unusedVariables false
set_option linter.unusedSimpArgs false
namespace Go.Proofs.Ytimjhehagimcaaa
open Go.RowKit Go.Proofs.YtimjhehagimcaaaW.PrintWords
attribute [local go_sem] Later.cell Later.frozen Later.lt Later.lt_add Later.le Later.le_add Later.ne Later.ne' add_at
set_option maxRecDepth 100000 in
set_option maxHeartbeats 4000000 in
theorem l01Echelon_c {p : Int} {L : Nat} (hp : primeZ p) (hL : L ≤ 100000) {rows : List (List Int)} (hn : rows.length ≤ 100000) (hr : ∀ r ∈ rows, RowOk p L r) (A : Option Addr) (c : Nat) (w : World) (hC : kL.C w A rows.length rows) (hc : rows.length ≤ c) :
    Calls Try.prog 46 #[.int .i64 p, .slice A rows.length c] w (Makes kL 55 (echL p rows) w) := by
  obtain ⟨hp2, hp13⟩ := hp.two
  go_enter Try.func46, Try.ntmps46
  go_wp2
  have hR0 := R_zero kL (heap_alloc_last w (.cells #[] 55)) (base := w.heap.size) (by simp)
  have hB0 : Below w.heap.size w (w.alloc (.cells #[] 55)) := bq1
  go_loopg [6, 5] rows.length (fun k vi vo w' => ∃ (i : Nat) (y : Later w), i + k = rows.length ∧ vi = .int .i64 i ∧ w' = y.W ∧ kL.R 55 y.W w.heap.size (fun _ => True) vo (echL p (rows.take i)))
  case atStart => exact ⟨0, ⟨_, hB0⟩, by omega, rfl, rfl, hR0⟩
  case round =>
    clear hR0 hB0
    obtain ⟨i, y, hik, rfl, rfl, hR⟩ := hrel
    have HIK := Lib.hid hik
    obtain ⟨hred, holen⟩ := echL_take hp hr i
    by_cases hlt : i < rows.length
    · have hstep := echL_step (p := p) hlt
      have hrow : RowOk p L (rows.getD i []) := hr _ (getD_mem _ hlt)
      obtain ⟨b, o, Ar, cr, hA, q0, hcr, hCr⟩ := kL_at hC i hlt
      subst hA
      have hbw : b < w.heap.size := World.block_lt_of_cell? _ _ q0
      have q0 := y.keep q0
      have hCr := Kd.C_below hCr y.ok
      obtain ⟨Ao, co, hvo, hco, hCo⟩ := Kd.R_reads hR
      subst hvo
      have hi0 : (0 : Int) ≤ i := by omega
      have hi1 : (i : Int) < rows.length := by omega
      have hin : ((i : Int)).toNat = i := by omega
      generalize rows.getD i [] = row at *
      generalize echL p (rows.take i) = out at *
      have hokr := restL_ok (L := L) (by omega) out row hrow (fun r hr => (hred.led r hr).ok)
      have hout1 : out.length ≤ 100000 := by omega
      clear hik holen
      by_cases hlead : leadN (restL p out row) < L
      · have hld : leadI (restL p out row) = (leadN (restL p out row) : Int) := by unfold leadI; rw [if_pos (by rw [hokr.len]; exact hlead)]
        have hst : echStep p out row = putL p (ownL p (restL p out row)) out := by
          unfold echStep
          dsimp only
          rw [if_pos (by rw [hokr.len]; exact hlead)]
        obtain ⟨hled, hlw⟩ := ownL_led hp hokr hlead
        have hv := hokr.nums (leadN (restL p out row))
        have hv1 := leadN_ne (r := restL p out row) (by rw [hokr.len]; exact hlead)
        have hir := invZ_range hp (x := (restL p out row).getD (leadN (restL p out row)) 0) (by omega) hv.2
        have hrg := rest_g hp2 hp13 (by omega) (by omega) hred.led hrow hCo hco hCr hcr
        rw [hst] at hstep
        unfold ownL at hled hlw hstep
        generalize restL p out row = own at *
        generalize ha : leadN own = a at *
        have HOWN := Lib.hid (show own.length = L from hokr.len)
        have hown1 : own.length ≤ 100000 := by rw [HOWN.out]; exact hL
        have ha0 : (0 : Int) ≤ a := by omega
        have ha1 : (a : Int) < own.length := by have := HOWN.out; omega
        have ha2 : ((a : Int)).toNat = a := by omega
        have hlt0 : decide ((a : Int) < 0) = false := by simp
        have hig := fun W => inverse_g hp (x := own.getD a 0) (by omega) hv.2 W
        generalize hx0 : own.getD a 0 = x0 at *
        have HX0 := Lib.hid hx0
        clear hx0
        generalize invZ p x0 = iv at *
        go_wp2_with (first | (go_at_call 84; (with_reducible refine call_makes2 hrg ?_); intro x1 A1 c1 hb1 hl1 hR1 hC1; obtain ⟨g, cap, hg, hgb, hgs, _⟩ := Kd.R_form hR1 (by have := HOWN.out; omega); injection hg with hg1 _ hg2; subst hg1; subst hg2; obtain ⟨e0, e1⟩ := kI_cell hR1 a (by omega); rw [HX0.out] at e0) | (go_at_call 85; (with_reducible refine call_later3 (lead_g (a : Int) hC1 hl1 (by rw [hokr.len]; omega) hld) ?_); intro x2 hb2; have e0 := pw_cell_below hb2 e0) | (go_at_call 86; (with_reducible refine call_later3 (hig _) ?_); intro x3 hb3))
        have hbx := below_then hb1 hb1.size hb2
        have hbx := below_then hbx hbx.size hb3
        have hR3 := Kd.R_below (Kd.R_below hR1 hb2) hb3
        clear hb1 hb2 hb3 e0 e1 hR1 hC1 hrg hig hld hlt0 hv hv1
        go_loopg [10] own.length (fun k v w' => ∃ (j : Nat) (z : Later w), j + k = own.length ∧ v = .int .i64 j ∧ w' = z.W ∧ Below y.W.heap.size y.W z.W ∧ kI.R 2 z.W y.W.heap.size (fun _ => True) (.slice (some ⟨g, 0, none⟩) own.length c1) ((scaleL p own iv).take j ++ own.drop j))
        case atStart => exact ⟨0, x3, by omega, rfl, rfl, hbx, by simpa using hR3⟩
        case round =>
          clear hbx hR3
          obtain ⟨j, z, hjk, rfl, rfl, hbz, hRz⟩ := hrel
          have HJK := Lib.hid hjk
          clear hjk
          by_cases hj : j < own.length
          · obtain ⟨f0, f1⟩ := kI_cell hRz j hj
            rw [mix_get p own iv j hj] at f0
            have hnj := hokr.nums j
            have hset := mix_set p own iv j hj
            have HST := Lib.hid hset
            clear hset
            generalize own.getD j 0 = y1 at *
            have m1 := mul_bd3 (x := y1) (y := iv) hnj.1 (by omega) (by omega) (by omega)
            have hpz : p ≠ 0 := by omega
            have hj0 : (0 : Int) ≤ j := by omega
            have hj1 : (j : Int) < own.length := by omega
            go_wp2
            go_roundg (gk - 1)
            case measure => have := HJK.out; omega
            case rel =>
              refine ⟨j + 1, ⟨z.W.setCell ⟨g, j, none⟩ (.int .i64 (y1 * iv % p)), ?_⟩, by have := HJK.out; omega, by go_num, ?_, ?_, ?_⟩
              · exact z.ok.setCell (by have := y.ok.size; show w.heap.size ≤ g; omega) _
              · simp [Int.tmod_eq_emod_of_nonneg m1.1]
              · exact hbz.setCell (show y.W.heap.size ≤ g from hgb) _
              · rw [← HST.out]
                exact kI_set hRz j _
          · have hje : j = own.length := by have := HJK.out; omega
            subst hje
            have e : (scaleL p own iv).take own.length ++ own.drop own.length = scaleL p own iv := by
              rw [List.drop_length, List.append_nil, List.take_of_length_le (by simp [scaleL])]
            rw [e] at hRz
            go_wp2
            have hR4 := R_zero kL (heap_alloc_last z.W (.cells #[] 55)) (base := y.W.heap.size) hbz.size
            have hb4 : Below w.heap.size w (z.W.alloc (.cells #[] 55)) := z.ok.alloc z.ok.size _
            have hb5 : Below y.W.heap.size y.W (z.W.alloc (.cells #[] 55)) := hbz.alloc hbz.size _
            have hR5 := Kd.R_alloc hRz (.cells #[] 55)
            generalize scaleL p own iv = own2 at *
            go_loopg [13, 11, 12] out.length (fun k vk vn vp w' => ∃ (j : Nat) (q : Later w), j + k = out.length ∧ vk = .int .i64 j ∧ vp = .bool (putAt p own2 out j).2 ∧ w' = q.W ∧ Below y.W.heap.size y.W q.W ∧ kL.R 55 q.W y.W.heap.size (fun _ => True) vn (putAt p own2 out j).1 ∧ kI.R 2 q.W y.W.heap.size (fun _ => True) (.slice (some ⟨g, 0, none⟩) own.length c1) own2)
            case atStart => exact ⟨0, ⟨_, hb4⟩, by omega, rfl, rfl, rfl, hb5, hR4, hR5⟩
            case round =>
              clear hb4 hb5 hR4 hR5 hRz hbz e
              obtain ⟨j, q, hjk, rfl, rfl, rfl, hbq, hRn, hRo⟩ := hrel
              have HJK := Lib.hid hjk
              clear hjk
              have HPL0 := Lib.hid (putAt_len p own2 out j)
              by_cases hj : j < out.length
              · have HP := Lib.hid (putAt_step p own2 out hj)
                obtain ⟨br, ob, Br, cr2, hAo, p0, hcr2, hCr2⟩ := kL_at hCo j hj
                subst hAo
                have hr2 := hred.led _ (getD_mem [] hj)
                generalize out.getD j [] = r at *
                have hrl := Lib.hid hr2.ok.len
                obtain ⟨b3, o3, hB3, s0⟩ := kI_at hCr2 a (by have := HOWN.out; have := hrl.out; omega)
                subst hB3
                have hxa := hr2.ok.nums a
                generalize hxa0 : r.getD a 0 = xa at *
                have HXA := Lib.hid hxa0
                clear hxa0
                generalize putAt p own2 out j = st at *
                obtain ⟨nx, pt⟩ := st
                have hpl2 : nx.length ≤ 2 * out.length := HPL0.out
                have HPL := Lib.hid hpl2
                clear hpl2 HPL0
                obtain ⟨An, cn, hvn, hln, hCn⟩ := Kd.R_reads hRn
                have hvn : _ = Value.slice An nx.length cn := hvn
                subst hvn
                have hj0 : (0 : Int) ≤ j := by omega
                have hj1 : (j : Int) < out.length := by omega
                have hj2 : ((j : Int)).toNat = j := by omega
                have ha3 : (a : Int) < r.length := by have := HOWN.out; have := hrl.out; omega
                cases pt with
                | true =>
                  have h0 := pw_cell_below hbq p0
                  have h1 := pw_cell_below hbq s0
                  go_wp2
                  have hRd := Kd.R_drew hRn; have hRod := Kd.R_drew hRo; have hBd := Below.drew hbq; go_region_law (first | (go_simp; go_at_call 87; (with_reducible refine call_makes (less_g hp2 hp13 hr2.ok hled.ok hxa.1 hxa.2 (by omega) (Kd.C_below hCr2 hBd) hcr2 (R_C hRod) hl1) ?_); intro x5 A5 c5 hb5 hl5 hR5 hC5; have hRe := Kd.R_below hRd hb5; have hRoe := Kd.R_below hRod hb5; have hR5 := Kd.R_lower hR5 hBd.size; have hBe := below_then hBd hBd.size hb5) | (have hM := Kd.M_row (num_apart hRe hR5); have hMk := (fun (k : Nat) (hk : some k ≠ (Value.slice An nx.length cn).ownBlock) => (⟨trivial, hk⟩ : True ∧ some k ≠ (Value.slice An nx.length cn).ownBlock)); refine Kd.R_append_step kL (w0 := y.W) (W := x5.W) (y.W).heap.size (by rfl) (.tmp 77) (.tmp 92) 22 55 (.slice none 0 0) 24 rfl Try.underlying22 infoL rfl (by decide) (by decide) (Value.slice An nx.length cn) nx (lessL p r own2 xa) [.slice A5 (lessL p r own2 xa).length c5] (fun _ => True) (fun k => some k ≠ (Value.slice An nx.length cn).ownBlock) rfl rfl hM hMk (fun _ _ => trivial) hRe hBe (hBe).size (by have := HPL.out; (first | omega | (simp; omega))) ?_; intro v7 w7 hR7 hB7 hg7 _))
                  all_goals
                    go_wp2
                    go_roundg (gk - 1)
                    case measure => have := HJK.out; omega
                    case rel =>
                      have e := HP.out
                      rw [putStep, hlw, HXA.out] at e
                      simp only [Bool.not_true, Bool.false_and, Bool.false_eq_true, if_false] at e
                      refine ⟨j + 1, ⟨w7, y.ok.trans (hB7.mono y.ok.size)⟩, by have := HJK.out; omega, by go_num, ?_, rfl, hB7, ?_, num_after hRe hRoe hg7⟩
                      · rw [e]
                      · rw [e]; exact hR7
                | false =>
                  have hlr : leadI r = (leadN r : Int) := by unfold leadI; rw [if_pos (by rw [hr2.ok.len]; exact hr2.lt)]
                  have hCq := Kd.C_below hCr2 hbq
                  have h0 := pw_cell_below hbq p0
                  by_cases hgt : a < leadN r
                  · have e := HP.out
                    rw [putStep, hlw, HXA.out] at e
                    rw [if_pos (by simpa using hgt)] at e
                    have HE := Lib.hid e
                    clear e HP HXA
                    generalize leadN r = lr at *
                    have hgt2 : (a : Int) < lr := by omega
                    go_wp2_with (first | (go_at_call 85; (with_reducible refine call_later3 (lead_g (lr : Int) hCq hcr2 (by rw [hr2.ok.len]; omega) hlr) ?_); intro x4 hb4; have hb6 := below_then hbq hbq.size hb4; have hRn4 := Kd.R_below hRn hb4; have hRo4 := Kd.R_below hRo hb4) | (((with_reducible refine gate_ (.call { callee := .builtin .append, args := #[.tmp 73, .tmp 75], argTypes := #[22, 22] }) rfl ?_); have hM := Kd.M_row (num_apart hRn4 hRo4); have hMk := (fun (k : Nat) (hk : some k ≠ (Value.slice An nx.length cn).ownBlock) => (⟨trivial, hk⟩ : True ∧ some k ≠ (Value.slice An nx.length cn).ownBlock)); refine Kd.R_append kL (w0 := y.W) (W := x4.W) (y.W).heap.size rfl (.tmp 73) (.tmp 75) 22 55 (.slice none 0 0) 24 rfl Try.underlying22 infoL rfl (by decide) (by decide) (Value.slice An nx.length cn) nx (own2) [.slice (some ⟨g, 0, none⟩) own.length c1] (fun _ => True) (fun k => some k ≠ (Value.slice An nx.length cn).ownBlock) rfl rfl hM hMk (fun _ _ => trivial) hRn4 hb6 (hb6).size (by have := HPL.out; (first | omega | (simp; omega))) ?_; intro v6 w6 hR6 hB6 hg6 _); obtain ⟨A6, c6, hv6, hl6, _⟩ := Kd.R_reads hR6; rw [show (nx ++ [own2]).length = nx.length + 1 by simp] at hv6; subst hv6; have h0 := pw_cell_below hB6 p0; have h1 := pw_cell_below hB6 s0; have hRo6 := num_after hRn4 hRo4 hg6))
                    have hRd := Kd.R_drew hR6; have hRod := Kd.R_drew hRo6; have hBd := Below.drew hB6; go_region_law (first | (go_simp; go_at_call 87; (with_reducible refine call_makes (less_g hp2 hp13 hr2.ok hled.ok hxa.1 hxa.2 (by omega) (Kd.C_below hCr2 hBd) hcr2 (R_C hRod) hl1) ?_); intro x5 A5 c5 hb5 hl5 hR5 hC5; have hRe := Kd.R_below hRd hb5; have hRoe := Kd.R_below hRod hb5; have hR5 := Kd.R_lower hR5 hBd.size; have hBe := below_then hBd hBd.size hb5) | (have hM := Kd.M_row (num_apart hRe hR5); have hMk := (fun (k : Nat) (hk : some k ≠ (Value.slice A6 (nx.length + 1) c6).ownBlock) => (⟨trivial, hk⟩ : True ∧ some k ≠ (Value.slice A6 (nx.length + 1) c6).ownBlock)); refine Kd.R_append_step kL (w0 := y.W) (W := x5.W) (y.W).heap.size (by rfl) (.tmp 77) (.tmp 92) 22 55 (.slice none 0 0) 24 rfl Try.underlying22 infoL rfl (by decide) (by decide) (Value.slice A6 (nx.length + 1) c6) (nx ++ [own2]) (lessL p r own2 xa) [.slice A5 (lessL p r own2 xa).length c5] (fun _ => True) (fun k => some k ≠ (Value.slice A6 (nx.length + 1) c6).ownBlock) rfl rfl hM hMk (fun _ _ => trivial) hRe hBe (hBe).size (by have := HPL.out; (first | omega | (simp; omega))) ?_; intro v7 w7 hR7 hB7 hg7 _))
                    all_goals
                      go_wp2
                      go_roundg (gk - 1)
                      case measure => have := HJK.out; omega
                      case rel =>
                        refine ⟨j + 1, ⟨w7, y.ok.trans (hB7.mono y.ok.size)⟩, by have := HJK.out; omega, by go_num, ?_, rfl, hB7, ?_, num_after hRe hRoe hg7⟩
                        · rw [HE.out]
                        · rw [HE.out]; exact hR7
                  · have e := HP.out
                    rw [putStep, hlw, HXA.out] at e
                    rw [if_neg (by simpa using hgt)] at e
                    have HE := Lib.hid e
                    clear e HP HXA
                    generalize leadN r = lr at *
                    have hgt2 : ¬ (a : Int) < lr := by omega
                    go_wp2_with ((go_at_call 85; (with_reducible refine call_later3 (lead_g (lr : Int) hCq hcr2 (by rw [hr2.ok.len]; omega) hlr) ?_); intro x4 hb4; have hb6 := below_then hbq hbq.size hb4; have hRn4 := Kd.R_below hRn hb4; have hRo4 := Kd.R_below hRo hb4; have h0 := pw_cell_below hb6 p0; have h1 := pw_cell_below hb6 s0))
                    have hRd := Kd.R_drew hRn4; have hRod := Kd.R_drew hRo4; have hBd := Below.drew hb6; go_region_law (first | (go_simp; go_at_call 87; (with_reducible refine call_makes (less_g hp2 hp13 hr2.ok hled.ok hxa.1 hxa.2 (by omega) (Kd.C_below hCr2 hBd) hcr2 (R_C hRod) hl1) ?_); intro x5 A5 c5 hb5 hl5 hR5 hC5; have hRe := Kd.R_below hRd hb5; have hRoe := Kd.R_below hRod hb5; have hR5 := Kd.R_lower hR5 hBd.size; have hBe := below_then hBd hBd.size hb5) | (have hM := Kd.M_row (num_apart hRe hR5); have hMk := (fun (k : Nat) (hk : some k ≠ (Value.slice An nx.length cn).ownBlock) => (⟨trivial, hk⟩ : True ∧ some k ≠ (Value.slice An nx.length cn).ownBlock)); refine Kd.R_append_step kL (w0 := y.W) (W := x5.W) (y.W).heap.size (by rfl) (.tmp 77) (.tmp 92) 22 55 (.slice none 0 0) 24 rfl Try.underlying22 infoL rfl (by decide) (by decide) (Value.slice An nx.length cn) nx (lessL p r own2 xa) [.slice A5 (lessL p r own2 xa).length c5] (fun _ => True) (fun k => some k ≠ (Value.slice An nx.length cn).ownBlock) rfl rfl hM hMk (fun _ _ => trivial) hRe hBe (hBe).size (by have := HPL.out; (first | omega | (simp; omega))) ?_; intro v7 w7 hR7 hB7 hg7 _))
                    all_goals
                      go_wp2
                      go_roundg (gk - 1)
                      case measure => have := HJK.out; omega
                      case rel =>
                        refine ⟨j + 1, ⟨w7, y.ok.trans (hB7.mono y.ok.size)⟩, by have := HJK.out; omega, by go_num, ?_, rfl, hB7, ?_, num_after hRe hRoe hg7⟩
                        · rw [HE.out]
                        · rw [HE.out]; exact hR7
              · have hje : j = out.length := by have := HJK.out; omega
                subst hje
                rw [putL_at] at hstep
                generalize putAt p own2 out out.length = st at *
                obtain ⟨nx, pt⟩ := st
                have hpl2 : nx.length ≤ 2 * out.length := HPL0.out
                have HPL := Lib.hid hpl2
                clear hpl2 HPL0
                obtain ⟨An, cn, hvn, hln, hCn⟩ := Kd.R_reads hRn
                have hvn : _ = Value.slice An nx.length cn := hvn
                subst hvn
                cases pt with
                | true =>
                  go_wp2
                  go_roundg (rows.length - i - 1)
                  case measure => have := HIK.out; omega
                  case rel =>
                    refine ⟨i + 1, q, by have := HIK.out; omega, by go_num, rfl, ?_⟩
                    simpa [hstep] using Kd.R_lower hRn y.ok.size
                | false =>
                  go_wp2_with (((with_reducible refine gate_ (.call { callee := .builtin .append, args := #[.tmp 96, .tmp 98], argTypes := #[22, 22] }) rfl ?_); have hM := Kd.M_row (num_apart hRn hRo); have hMk := (fun (k : Nat) (hk : some k ≠ (Value.slice An nx.length cn).ownBlock) => (⟨trivial, hk⟩ : True ∧ some k ≠ (Value.slice An nx.length cn).ownBlock)); refine Kd.R_append kL (w0 := y.W) (W := q.W) (y.W).heap.size rfl (.tmp 96) (.tmp 98) 22 55 (.slice none 0 0) 24 rfl Try.underlying22 infoL rfl (by decide) (by decide) (Value.slice An nx.length cn) nx (own2) [.slice (some ⟨g, 0, none⟩) own.length c1] (fun _ => True) (fun k => some k ≠ (Value.slice An nx.length cn).ownBlock) rfl rfl hM hMk (fun _ _ => trivial) hRn hbq (hbq).size (by have := HPL.out; (first | omega | (simp; omega))) ?_; intro v6 w6 hR6 hB6 hg6 _))
                  go_roundg (rows.length - i - 1)
                  case measure => have := HIK.out; omega
                  case rel =>
                    refine ⟨i + 1, ⟨w6, y.ok.trans (hB6.mono y.ok.size)⟩, by have := HIK.out; omega, by go_num, rfl, ?_⟩
                    simpa [hstep] using Kd.R_lower hR6 y.ok.size
      · have hld : leadI (restL p out row) = -1 := by unfold leadI; rw [if_neg (by rw [hokr.len]; exact hlead)]
        have hst : echStep p out row = out := by
          unfold echStep
          dsimp only
          rw [if_neg (by rw [hokr.len]; exact hlead)]
        go_wp2_with (first | (go_at_call 84; (with_reducible refine call_makes2 (rest_g hp2 hp13 (by omega) (by omega) hred.led hrow hCo hco hCr hcr) ?_); intro x1 A1 c1 hb1 hl1 hR1 hC1) | (go_at_call 85; (with_reducible refine call_later3 (lead_g (-1) hC1 hl1 (by rw [hokr.len]; omega) hld) ?_); intro x2 hb2))
        go_roundg (rows.length - i - 1)
        case measure => have := HIK.out; omega
        case rel =>
          refine ⟨i + 1, x2, by have := HIK.out; omega, by go_num, rfl, ?_⟩
          rw [hstep, hst]
          exact Kd.R_below (Kd.R_below hR hb1) hb2
    · have hie : i = rows.length := by have := HIK.out; omega
      subst hie
      rw [List.take_length] at hR
      go_wp2
      go_ret
      exact ⟨_, rfl, hR, y.ok⟩
end Go.Proofs.Ytimjhehagimcaaa
