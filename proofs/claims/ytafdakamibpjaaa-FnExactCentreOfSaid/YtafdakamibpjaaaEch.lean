/- The reduced list of rows, and the reduced rows of a matrix beside the unit matrix: a plain law with no program in sight; no condition. -/
set_option linter.unusedVariables false
namespace Go.Proofs.Ytafdakamibpjaaa

/-! ### rows of numbers modulo p -/
def primeZ (p : Int) : Prop := p = 2 ∨ p = 3 ∨ p = 5 ∨ p = 7 ∨ p = 11 ∨ p = 13
theorem primeZ.two {p : Int} (h : primeZ p) : 2 ≤ p ∧ p ≤ 13 := by
  unfold primeZ at h
  omega
theorem small_prod {p : Int} (h : primeZ p) {x y : Int} (hx0 : 0 ≤ x) (hx : x < p) (hy0 : 0 ≤ y) (hy : y < p) (hxy : x * y % p = 0) : x = 0 ∨ y = 0 := by
  have key : ∀ p ∈ [2, 3, 5, 7, 11, 13], ∀ x < p, ∀ y < p, x * y % p = 0 → x = 0 ∨ y = 0 := by decide
  have h2 := h.two
  have hx' : ((x.toNat : Nat) : Int) = x := Int.toNat_of_nonneg hx0
  have hy' : ((y.toNat : Nat) : Int) = y := Int.toNat_of_nonneg hy0
  have hp' : ((p.toNat : Nat) : Int) = p := Int.toNat_of_nonneg (by omega)
  have := key p.toNat (by unfold primeZ at h; simp; omega) x.toNat (by omega) y.toNat (by omega) (by
    have : ((x.toNat * y.toNat % p.toNat : Nat) : Int) = 0 := by rw [Int.natCast_emod, Int.natCast_mul, hx', hy', hp']; exact hxy
    omega)
  omega
theorem prime_mul {p : Int} (h : primeZ p) {x y : Int} (hxy : x * y % p = 0) : x % p = 0 ∨ y % p = 0 := by
  have h2 := h.two
  have hp : p ≠ 0 := by omega
  refine small_prod h (Int.emod_nonneg _ hp) (Int.emod_lt_of_pos _ (by omega)) (Int.emod_nonneg _ hp) (Int.emod_lt_of_pos _ (by omega)) ?_
  rw [← Int.mul_emod]
  exact hxy
theorem inv_any {p : Int} (h : primeZ p) {x : Int} (hx0 : 0 < x) (hx : x < p) : ∃ k : Nat, 1 ≤ k ∧ (k : Int) < p ∧ (k : Int) * x % p = 1 := by
  have key : ∀ p ∈ [2, 3, 5, 7, 11, 13], ∀ x < p, 0 < x → ∃ k < p, 1 ≤ k ∧ k * x % p = 1 := by decide
  have h2 := h.two
  have hx' : ((x.toNat : Nat) : Int) = x := Int.toNat_of_nonneg (by omega)
  have hp' : ((p.toNat : Nat) : Int) = p := Int.toNat_of_nonneg (by omega)
  obtain ⟨k, hk, hk1, hk2⟩ := key p.toNat (by unfold primeZ at h; simp; omega) x.toNat (by omega) (by omega)
  refine ⟨k, hk1, by omega, ?_⟩
  have : ((k * x.toNat % p.toNat : Nat) : Int) = 1 := by rw [hk2]; rfl
  rwa [Int.natCast_emod, Int.natCast_mul, hx', hp'] at this

/-- The place of the first number other than 0: the length if there is none. -/
def leadN (r : List Int) : Nat := r.findIdx (fun x => x != 0)
theorem leadN_le (r : List Int) : leadN r ≤ r.length := List.findIdx_le_length
theorem leadN_zero {r : List Int} {i : Nat} (h : i < leadN r) : r.getD i 0 = 0 := by
  have := List.not_of_lt_findIdx h
  have hl := leadN_le r
  simp at this
  rw [List.getD_eq_getElem?_getD, List.getElem?_eq_getElem (by omega)]
  simpa using this
theorem leadN_ne {r : List Int} (h : leadN r < r.length) : r.getD (leadN r) 0 ≠ 0 := by
  have := List.findIdx_getElem (w := h)
  simp only [bne_iff_ne] at this
  rw [List.getD_eq_getElem?_getD, List.getElem?_eq_getElem h]
  exact this
theorem leadN_le_of {r : List Int} {i : Nat} (h : r.getD i 0 ≠ 0) : leadN r ≤ i := by
  apply Decidable.byContradiction
  intro hc
  exact h (leadN_zero (by omega))
theorem leadN_eq {r : List Int} {i : Nat} (h : r.getD i 0 ≠ 0) (h0 : ∀ j, j < i → r.getD j 0 = 0) : leadN r = i := by
  have h1 := leadN_le_of h
  apply Decidable.byContradiction
  intro hc
  have hl : leadN r < r.length := by
    have : i < r.length := by
      apply Decidable.byContradiction
      intro hi
      exact h (by rw [List.getD_eq_getElem?_getD, List.getElem?_eq_none (by omega)]; rfl)
    omega
  exact leadN_ne hl (h0 _ (by omega))

/-- A row less q times another one. -/
def lessL (p : Int) (row other : List Int) (q : Int) : List Int := (List.range row.length).map fun i => (row.getD i 0 - q * other.getD i 0) % p
def scaleL (p : Int) (row : List Int) (c : Int) : List Int := row.map fun x => x * c % p
/-- A row of L numbers modulo p. -/
structure RowOk (p : Int) (L : Nat) (r : List Int) : Prop where
  len : r.length = L
  nums : ∀ i, 0 ≤ r.getD i 0 ∧ r.getD i 0 < p
theorem lessL_length (p : Int) (row other : List Int) (q : Int) : (lessL p row other q).length = row.length := by simp [lessL]
theorem getD_out (r : List Int) {i : Nat} (h : r.length ≤ i) : r.getD i 0 = 0 := by rw [List.getD_eq_getElem?_getD, List.getElem?_eq_none h]; rfl
theorem lessL_get {p : Int} {L : Nat} {row other : List Int} (hr : row.length = L) (ho : other.length = L) (q : Int) (i : Nat) : (lessL p row other q).getD i 0 = (row.getD i 0 - q * other.getD i 0) % p := by
  by_cases h : i < row.length
  · simp [lessL, List.getD_eq_getElem?_getD, h]
  · rw [getD_out _ (by rw [lessL_length]; omega), getD_out row (by omega), getD_out other (by omega)]
    simp
theorem scaleL_get (p : Int) (row : List Int) (c : Int) (i : Nat) : (scaleL p row c).getD i 0 = row.getD i 0 * c % p := by
  by_cases h : i < row.length
  · simp [scaleL, List.getD_eq_getElem?_getD, h]
  · rw [getD_out _ (by simp [scaleL]; omega), getD_out row (by omega)]
    simp
theorem RowOk.less {p : Int} {L : Nat} {row other : List Int} (hp : 0 < p) (hr : RowOk p L row) (ho : RowOk p L other) (q : Int) : RowOk p L (lessL p row other q) :=
  ⟨by rw [lessL_length, hr.len], fun i => by rw [lessL_get hr.len ho.len]; exact ⟨Int.emod_nonneg _ (by omega), Int.emod_lt_of_pos _ hp⟩⟩
theorem RowOk.scale {p : Int} {L : Nat} {row : List Int} (hp : 0 < p) (hr : RowOk p L row) (c : Int) : RowOk p L (scaleL p row c) :=
  ⟨by simp [scaleL, hr.len], fun i => by rw [scaleL_get]; exact ⟨Int.emod_nonneg _ (by omega), Int.emod_lt_of_pos _ hp⟩⟩
theorem RowOk.fix {p : Int} {L : Nat} {row : List Int} (hr : RowOk p L row) (i : Nat) : row.getD i 0 % p = row.getD i 0 := Int.emod_eq_of_lt (hr.nums i).1 (hr.nums i).2

/-! ### what is left of a row -/
def restStep (p : Int) (cur r : List Int) : List Int := if cur.getD (leadN r) 0 = 0 then cur else lessL p cur r (cur.getD (leadN r) 0)
def restL (p : Int) (list : List (List Int)) (row : List Int) : List Int := list.foldl (restStep p) row

/-- A reduced row. -/
structure Led (p : Int) (L : Nat) (r : List Int) : Prop where
  ok : RowOk p L r
  lt : leadN r < L
  one : r.getD (leadN r) 0 = 1
def Apart0 (a b : List Int) : Prop := a.getD (leadN b) 0 = 0 ∧ b.getD (leadN a) 0 = 0

theorem restStep_get {p : Int} {L : Nat} {cur r : List Int} (hc : RowOk p L cur) (hr : RowOk p L r) (i : Nat) : (restStep p cur r).getD i 0 = (cur.getD i 0 - cur.getD (leadN r) 0 * r.getD i 0) % p := by
  unfold restStep
  split
  · rename_i h
    rw [h, Int.zero_mul, Int.sub_zero, hc.fix]
  · exact lessL_get hc.len hr.len _ _
theorem restStep_ok {p : Int} {L : Nat} {cur r : List Int} (hp : 0 < p) (hc : RowOk p L cur) (hr : RowOk p L r) : RowOk p L (restStep p cur r) := by
  unfold restStep
  split
  · exact hc
  · exact hc.less hp hr _
theorem restL_keep {p : Int} {Q : List Int → Prop} (hQ : ∀ r o q, Q r → Q o → Q (lessL p r o q)) : ∀ (list : List (List Int)) (cur : List Int), Q cur → (∀ r ∈ list, Q r) → Q (restL p list cur)
  | [], cur, hc, _ => hc
  | r :: list, cur, hc, hl => by
    refine restL_keep hQ list (restStep p cur r) ?_ fun x hx => hl x (List.mem_cons_of_mem _ hx)
    unfold restStep
    split
    · exact hc
    · exact hQ _ _ _ hc (hl r (by simp))
theorem restL_ok {p : Int} {L : Nat} (hp : 0 < p) (list : List (List Int)) (cur : List Int) (hc : RowOk p L cur) (hl : ∀ r ∈ list, RowOk p L r) : RowOk p L (restL p list cur) :=
  restL_keep (Q := RowOk p L) (fun _ _ q h1 h2 => h1.less hp h2 q) list cur hc hl
/-- A place where the rows of the list have 0 is not touched. -/
theorem restL_same {p : Int} {L : Nat} (hp : 0 < p) (j : Nat) : ∀ (list : List (List Int)) (cur : List Int), RowOk p L cur → (∀ r ∈ list, RowOk p L r ∧ r.getD j 0 = 0) → (restL p list cur).getD j 0 = cur.getD j 0
  | [], cur, _, _ => rfl
  | r :: list, cur, hc, hl => by
    have h1 := restL_same hp j list (restStep p cur r) (restStep_ok hp hc (hl r (by simp)).1) fun x hx => hl x (List.mem_cons_of_mem _ hx)
    have h2 : restL p (r :: list) cur = restL p list (restStep p cur r) := rfl
    rw [h2, h1, restStep_get hc (hl r (by simp)).1, (hl r (by simp)).2, Int.mul_zero, Int.sub_zero, hc.fix]
theorem restL_zero {p : Int} {L : Nat} (hp : 2 ≤ p) : ∀ (list : List (List Int)) (cur : List Int), RowOk p L cur → (∀ r ∈ list, Led p L r) → list.Pairwise Apart0 → ∀ r ∈ list, (restL p list cur).getD (leadN r) 0 = 0
  | [], cur, _, _, _, r, hr => by simp at hr
  | s :: list, cur, hc, hl, hpw, r, hr => by
    have hs := hl s (by simp)
    rw [List.pairwise_cons] at hpw
    have h1 := restL_zero hp list (restStep p cur s) (restStep_ok (by omega) hc hs.ok) (fun x hx => hl x (List.mem_cons_of_mem _ hx)) hpw.2
    have h2 : restL p (s :: list) cur = restL p list (restStep p cur s) := rfl
    rw [h2]
    rcases List.mem_cons.1 hr with rfl | hr
    · rw [restL_same (L := L) (by omega) _ list _ (restStep_ok (by omega) hc hs.ok) (fun x hx => ⟨(hl x (List.mem_cons_of_mem _ hx)).ok, (hpw.1 x hx).2⟩), restStep_get hc hs.ok, hs.one]
      simp
    · exact h1 r hr

/-! ### a row is put in its place -/
def invZ (p x : Int) : Int := (((((List.range p.toNat).drop 1).find? (fun k : Nat => (k : Int) * (x % p) % p == 1)).getD 0 : Nat) : Int)
theorem invZ_ok {p : Int} (h : primeZ p) {x : Int} (hx0 : 0 < x) (hx : x < p) : invZ p x * x % p = 1 := by
  obtain ⟨k, h1, h2, h3⟩ := inv_any h hx0 hx
  have hxp : x % p = x := Int.emod_eq_of_lt (by omega) hx
  unfold invZ
  rw [hxp]
  have hmem : k ∈ (List.range p.toNat).drop 1 := by
    rw [List.mem_drop_iff_getElem]
    exact ⟨k - 1, by simp; omega, by simp; omega⟩
  cases hf : ((List.range p.toNat).drop 1).find? (fun k : Nat => (k : Int) * x % p == 1) with
  | none =>
    have := (List.find?_eq_none.1 hf) k hmem
    simp [h3] at this
  | some m =>
    have := List.find?_some hf
    simpa using this

def ownL (p : Int) (own : List Int) : List Int := scaleL p own (invZ p (own.getD (leadN own) 0))
/-- One row of the list that is read while the next list is made. -/
def putStep (p : Int) (own : List Int) (s : List (List Int) × Bool) (r : List Int) : List (List Int) × Bool :=
  if (!s.2 && decide (leadN own < leadN r)) = true then (s.1 ++ [own] ++ [lessL p r own (r.getD (leadN own) 0)], true) else (s.1 ++ [lessL p r own (r.getD (leadN own) 0)], s.2)
def putL (p : Int) (own : List Int) (out : List (List Int)) : List (List Int) :=
  let s := out.foldl (putStep p own) ([], false)
  if s.2 = true then s.1 else s.1 ++ [own]
def echStep (p : Int) (out : List (List Int)) (row : List Int) : List (List Int) :=
  let own := restL p out row
  if leadN own < own.length then putL p (ownL p own) out else out
def echL (p : Int) (rows : List (List Int)) : List (List Int) := rows.foldl (echStep p) []

def cutRow (p : Int) (own r : List Int) : List Int := lessL p r own (r.getD (leadN own) 0)
theorem put_true (p : Int) (own : List Int) : ∀ (out pre : List (List Int)), out.foldl (putStep p own) (pre, true) = (pre ++ out.map (cutRow p own), true)
  | [], pre => by simp
  | r :: out, pre => by
    rw [List.foldl_cons]
    show out.foldl (putStep p own) (putStep p own (pre, true) r) = _
    have : putStep p own (pre, true) r = (pre ++ [cutRow p own r], true) := by simp [putStep, cutRow]
    rw [this, put_true p own out]
    simp
theorem put_false (p : Int) (own : List Int) : ∀ (out pre : List (List Int)), (if (out.foldl (putStep p own) (pre, false)).2 = true then (out.foldl (putStep p own) (pre, false)).1 else (out.foldl (putStep p own) (pre, false)).1 ++ [own]) =
    pre ++ (out.takeWhile (fun r => !decide (leadN own < leadN r))).map (cutRow p own) ++ [own] ++ (out.dropWhile (fun r => !decide (leadN own < leadN r))).map (cutRow p own)
  | [], pre => by simp
  | r :: out, pre => by
    rw [List.foldl_cons]
    by_cases h : leadN own < leadN r
    · have : putStep p own (pre, false) r = (pre ++ [own] ++ [cutRow p own r], true) := by simp [putStep, cutRow, h]
      rw [this, put_true]
      simp [h]
    · have : putStep p own (pre, false) r = (pre ++ [cutRow p own r], false) := by simp [putStep, cutRow, h]
      rw [this, put_false p own out]
      simp [h]
theorem putL_eq (p : Int) (own : List Int) (out : List (List Int)) : putL p own out = (out.takeWhile (fun r => !decide (leadN own < leadN r))).map (cutRow p own) ++ own :: (out.dropWhile (fun r => !decide (leadN own < leadN r))).map (cutRow p own) := by
  have := put_false p own out []
  unfold putL
  simp only [List.nil_append] at this
  rw [show (if (List.foldl (putStep p own) ([], false) out).2 = true then (List.foldl (putStep p own) ([], false) out).1 else (List.foldl (putStep p own) ([], false) out).1 ++ [own]) = _ from this]
  simp
theorem mem_putL {p : Int} {own : List Int} {out : List (List Int)} {x : List Int} (h : x ∈ putL p own out) : x = own ∨ ∃ r ∈ out, x = cutRow p own r := by
  rw [putL_eq, List.mem_append, List.mem_cons, List.mem_map, List.mem_map] at h
  rcases h with ⟨r, hr, rfl⟩ | rfl | ⟨r, hr, rfl⟩
  · exact .inr ⟨r, List.takeWhile_subset _ hr, rfl⟩
  · exact .inl rfl
  · exact .inr ⟨r, List.dropWhile_subset _ hr, rfl⟩
theorem putL_length (p : Int) (own : List Int) (out : List (List Int)) : (putL p own out).length = out.length + 1 := by
  rw [putL_eq]
  have := congrArg List.length (List.takeWhile_append_dropWhile (p := fun r => !decide (leadN own < leadN r)) (l := out))
  rw [List.length_append] at this
  rw [List.length_append, List.length_cons, List.length_map, List.length_map]
  omega

/-- A reduced list. -/
structure Red (p : Int) (L : Nat) (out : List (List Int)) : Prop where
  led : ∀ r ∈ out, Led p L r
  up : out.Pairwise fun a b => leadN a < leadN b ∧ a.getD (leadN b) 0 = 0
theorem Red.apart {p : Int} {L : Nat} {out : List (List Int)} (h : Red p L out) : out.Pairwise Apart0 := h.up.imp fun ⟨h1, h2⟩ => ⟨h2, leadN_zero h1⟩

theorem ownL_led {p : Int} {L : Nat} (hp : primeZ p) {own : List Int} (h : RowOk p L own) (hl : leadN own < L) : Led p L (ownL p own) ∧ leadN (ownL p own) = leadN own := by
  have h2 := hp.two
  have hx := h.nums (leadN own)
  have hne := leadN_ne (by rw [h.len]; exact hl)
  have hi := invZ_ok hp (x := own.getD (leadN own) 0) (by omega) hx.2
  have e : (ownL p own).getD (leadN own) 0 = 1 := by
    unfold ownL
    rw [scaleL_get, Int.mul_comm]
    exact hi
  have el : leadN (ownL p own) = leadN own := leadN_eq (by rw [e]; decide) fun j hj => by
    unfold ownL
    rw [scaleL_get, leadN_zero hj]
    simp
  exact ⟨⟨h.scale (by omega) _, by omega, by rw [el]; exact e⟩, el⟩
theorem cutRow_led {p : Int} {L : Nat} (hp : 2 ≤ p) {own r : List Int} (ho : Led p L own) (hr : Led p L r) (hz : own.getD (leadN r) 0 = 0) : Led p L (cutRow p own r) ∧ leadN (cutRow p own r) = leadN r := by
  have e : ∀ i, (cutRow p own r).getD i 0 = (r.getD i 0 - r.getD (leadN own) 0 * own.getD i 0) % p := lessL_get hr.ok.len ho.ok.len _
  have e1 : (cutRow p own r).getD (leadN r) 0 = 1 := by
    rw [e, hz, hr.one, Int.mul_zero, Int.sub_zero]
    exact Int.emod_eq_of_lt (by decide) (by omega)
  have el : leadN (cutRow p own r) = leadN r := leadN_eq (by rw [e1]; decide) fun j hj => by
    rw [e, leadN_zero hj]
    by_cases h : leadN own < leadN r
    · rw [leadN_zero h]; simp
    · have : leadN own ≠ leadN r := fun hh => by
        have := ho.one
        rw [hh, hz] at this
        exact absurd this (by decide)
      rw [leadN_zero (r := own) (i := j) (by omega)]
      simp
  exact ⟨⟨hr.ok.less (by omega) ho.ok _, by rw [el]; exact hr.lt, by rw [el]; exact e1⟩, el⟩
theorem putL_red {p : Int} {L : Nat} (hp : 2 ≤ p) {own : List Int} {out : List (List Int)} (h : Red p L out) (ho : Led p L own) (hz : ∀ r ∈ out, own.getD (leadN r) 0 = 0) : Red p L (putL p own out) := by
  have hc : ∀ r ∈ out, Led p L (cutRow p own r) ∧ leadN (cutRow p own r) = leadN r := fun r hr => cutRow_led hp ho (h.led r hr) (hz r hr)
  have hown : ∀ r ∈ out, (cutRow p own r).getD (leadN own) 0 = 0 := fun r hr => by
    show (lessL p r own _).getD _ 0 = 0
    rw [lessL_get (h.led r hr).ok.len ho.ok.len, ho.one]
    simp
  have hpair : ∀ a ∈ out, ∀ b ∈ out, a.getD (leadN b) 0 = 0 → (cutRow p own a).getD (leadN (cutRow p own b)) 0 = 0 := fun a ha b hb hab => by
    rw [(hc b hb).2]
    show (lessL p a own _).getD _ 0 = 0
    rw [lessL_get (h.led a ha).ok.len ho.ok.len, hz b hb, hab]
    simp
  refine ⟨fun x hx => ?_, ?_⟩
  · rcases mem_putL hx with rfl | ⟨r, hr, rfl⟩
    · exact ho
    · exact (hc r hr).1
  · rw [putL_eq]
    have hpw := h.up
    have hdec := (List.takeWhile_append_dropWhile (p := fun r => !decide (leadN own < leadN r)) (l := out))
    have hpw2 := hpw
    rw [← hdec, List.pairwise_append] at hpw2
    have hmapped : ∀ l : List (List Int), (∀ x ∈ l, x ∈ out) → l.Pairwise (fun a b => leadN a < leadN b ∧ a.getD (leadN b) 0 = 0) → (l.map (cutRow p own)).Pairwise (fun a b => leadN a < leadN b ∧ a.getD (leadN b) 0 = 0) := fun l hl hw => by
      rw [List.pairwise_map]
      refine hw.imp_of_mem fun {a b} ha hb ⟨h1, h2⟩ => ⟨?_, hpair a (hl a ha) b (hl b hb) h2⟩
      rw [(hc a (hl a ha)).2, (hc b (hl b hb)).2]
      exact h1
    have ht : ∀ x ∈ out.takeWhile (fun r => !decide (leadN own < leadN r)), x ∈ out := fun x hx => List.takeWhile_subset _ hx
    have hd : ∀ x ∈ out.dropWhile (fun r => !decide (leadN own < leadN r)), x ∈ out := fun x hx => List.dropWhile_subset _ hx
    have ht2 : ∀ x ∈ out.takeWhile (fun r => !decide (leadN own < leadN r)), leadN x < leadN own := fun x hx => by
      have h1 := List.all_takeWhile (p := fun r => !decide (leadN own < leadN r)) (l := out)
      rw [List.all_eq_true] at h1
      have h2 := h1 x hx
      simp at h2
      have : leadN own ≠ leadN x := fun hh => by
        have := ho.one
        rw [hh, hz x (ht x hx)] at this
        exact absurd this (by decide)
      omega
    have hd2 : ∀ x ∈ out.dropWhile (fun r => !decide (leadN own < leadN r)), leadN own < leadN x := by
      cases hdw : out.dropWhile (fun r => !decide (leadN own < leadN r)) with
      | nil => intro x hx; simp at hx
      | cons y ys =>
        have hy : leadN own < leadN y := by
          have := List.head?_dropWhile_not (fun r => !decide (leadN own < leadN r)) out
          rw [hdw] at this
          simpa using this
        intro x hx
        rcases List.mem_cons.1 hx with rfl | hx
        · exact hy
        · have := hpw2.2.1
          rw [hdw, List.pairwise_cons] at this
          have := (this.1 x hx).1
          omega
    rw [List.pairwise_append]
    refine ⟨hmapped _ ht hpw2.1, ?_, ?_⟩
    · rw [List.pairwise_cons]
      refine ⟨fun x hx => ?_, hmapped _ hd hpw2.2.1⟩
      obtain ⟨r, hr, rfl⟩ := List.mem_map.1 hx
      rw [(hc r (hd r hr)).2]
      exact ⟨hd2 r hr, hz r (hd r hr)⟩
    · intro a ha b hb
      obtain ⟨ra, hra, rfl⟩ := List.mem_map.1 ha
      rw [(hc ra (ht ra hra)).2]
      rcases List.mem_cons.1 hb with rfl | hb
      · exact ⟨ht2 ra hra, hown ra (ht ra hra)⟩
      · obtain ⟨rb, hrb, rfl⟩ := List.mem_map.1 hb
        have h3 := hpw2.2.2 ra hra rb hrb
        refine ⟨?_, hpair ra (ht ra hra) rb (hd rb hrb) h3.2⟩
        rw [(hc rb (hd rb hrb)).2]
        exact h3.1
theorem ownL_zero {p : Int} {own : List Int} {j : Nat} (h : own.getD j 0 = 0) : (ownL p own).getD j 0 = 0 := by
  unfold ownL
  rw [scaleL_get, h]
  simp
theorem echStep_red {p : Int} {L : Nat} (hp : primeZ p) {out : List (List Int)} {row : List Int} (h : Red p L out) (hr : RowOk p L row) : Red p L (echStep p out row) := by
  have h2 := hp.two
  have hok := restL_ok (L := L) (by omega) out row hr fun r hr => (h.led r hr).ok
  unfold echStep
  dsimp only
  split
  · rename_i hlt
    rw [hok.len] at hlt
    refine putL_red (by omega) h (ownL_led hp hok hlt).1 fun r hrr => ownL_zero ?_
    exact restL_zero (by omega) out row hr (fun r hr => h.led r hr) h.apart r hrr
  · exact h
theorem echStep_keep {p : Int} {Q : List Int → Prop} (hQ : ∀ r o q, Q r → Q o → Q (lessL p r o q)) (hS : ∀ r c, Q r → Q (scaleL p r c)) {out : List (List Int)} {row : List Int} (ho : ∀ r ∈ out, Q r) (hr : Q row) : ∀ r ∈ echStep p out row, Q r := by
  have h1 := restL_keep hQ out row hr ho
  unfold echStep
  dsimp only
  split
  · intro x hx
    rcases mem_putL hx with rfl | ⟨r, hr, rfl⟩
    · exact hS _ _ h1
    · exact hQ _ _ _ (ho r hr) (hS _ _ h1)
  · exact ho

/-! ### the reduced rows of a matrix beside the unit matrix -/
def sumZ (f : Nat → Int) : Nat → Int
  | 0 => 0
  | k + 1 => sumZ f k + f k
theorem sumZ_lin {p q : Int} {F G H : Nat → Int} : ∀ n, (∀ k, k < n → p ∣ F k - (G k - q * H k)) → p ∣ sumZ F n - (sumZ G n - q * sumZ H n)
  | 0, _ => by simp [sumZ]
  | n + 1, h => by
    obtain ⟨a, ha⟩ := sumZ_lin n fun k hk => h k (by omega)
    obtain ⟨b, hb⟩ := h n (by omega)
    refine ⟨a + b, ?_⟩
    simp only [sumZ]
    grind
theorem sumZ_mul {p c : Int} {F G : Nat → Int} : ∀ n, (∀ k, k < n → p ∣ F k - G k * c) → p ∣ sumZ F n - sumZ G n * c
  | 0, _ => by simp [sumZ]
  | n + 1, h => by
    obtain ⟨a, ha⟩ := sumZ_mul n fun k hk => h k (by omega)
    obtain ⟨b, hb⟩ := h n (by omega)
    refine ⟨a + b, ?_⟩
    simp only [sumZ]
    grind
def detZ (n : Nat) (A : Nat → Nat → Int) : Int :=
  if n = 2 then A 0 0 * A 1 1 - A 0 1 * A 1 0
  else if n = 3 then A 0 0 * (A 1 1 * A 2 2 - A 1 2 * A 2 1) - A 0 1 * (A 1 0 * A 2 2 - A 1 2 * A 2 0) + A 0 2 * (A 1 0 * A 2 1 - A 1 1 * A 2 0)
  else A 0 0
theorem dvd_prime {p : Int} (hp : primeZ p) {x d : Int} (h : p ∣ x * d) (hd : d % p ≠ 0) : p ∣ x := by
  rcases prime_mul hp (Int.emod_eq_zero_of_dvd h) with h | h
  · exact Int.dvd_of_emod_eq_zero h
  · exact absurd h hd
/-- A row that the matrix takes to 0 is 0. -/
theorem kernel_zero {p : Int} (hp : primeZ p) {n : Nat} (hn : n = 1 ∨ n = 2 ∨ n = 3) {A : Nat → Nat → Int} (hd : detZ n A % p ≠ 0) {v : Nat → Int} (h : ∀ j, j < n → p ∣ sumZ (fun k => v k * A k j) n) : ∀ k, k < n → p ∣ v k := by
  intro k hk
  refine dvd_prime hp ?_ hd
  rcases hn with rfl | rfl | rfl
  · obtain ⟨a, ha⟩ := h 0 (by omega)
    simp only [sumZ] at ha
    have : k = 0 := by omega
    subst this
    exact ⟨a, by simp [detZ]; grind⟩
  · obtain ⟨a, ha⟩ := h 0 (by omega)
    obtain ⟨b, hb⟩ := h 1 (by omega)
    simp only [sumZ] at ha hb
    have : k = 0 ∨ k = 1 := by omega
    rcases this with rfl | rfl
    · exact ⟨a * A 1 1 - b * A 1 0, by simp [detZ]; grind⟩
    · exact ⟨b * A 0 0 - a * A 0 1, by simp [detZ]; grind⟩
  · obtain ⟨a, ha⟩ := h 0 (by omega)
    obtain ⟨b, hb⟩ := h 1 (by omega)
    obtain ⟨c, hc⟩ := h 2 (by omega)
    simp only [sumZ] at ha hb hc
    have : k = 0 ∨ k = 1 ∨ k = 2 := by omega
    rcases this with rfl | rfl | rfl
    · exact ⟨a * (A 1 1 * A 2 2 - A 1 2 * A 2 1) - b * (A 1 0 * A 2 2 - A 1 2 * A 2 0) + c * (A 1 0 * A 2 1 - A 1 1 * A 2 0), by simp [detZ]; grind⟩
    · exact ⟨- a * (A 0 1 * A 2 2 - A 0 2 * A 2 1) + b * (A 0 0 * A 2 2 - A 0 2 * A 2 0) - c * (A 0 0 * A 2 1 - A 0 1 * A 2 0), by simp [detZ]; grind⟩
    · exact ⟨a * (A 0 1 * A 1 2 - A 0 2 * A 1 1) - b * (A 0 0 * A 1 2 - A 0 2 * A 1 0) + c * (A 0 0 * A 1 1 - A 0 1 * A 1 0), by simp [detZ]; grind⟩
theorem det3_mul (a b c d e f g h i A B C D E F G H I : Int) : (a * (e * i - f * h) - b * (d * i - f * g) + c * (d * h - e * g)) * (A * (E * I - F * H) - B * (D * I - F * G) + C * (D * H - E * G)) =
    (a*A+b*D+c*G) * ((d*B+e*E+f*H) * (g*C+h*F+i*I) - (d*C+e*F+f*I) * (g*B+h*E+i*H)) - (a*B+b*E+c*H) * ((d*A+e*D+f*G) * (g*C+h*F+i*I) - (d*C+e*F+f*I) * (g*A+h*D+i*G)) + (a*C+b*F+c*I) * ((d*A+e*D+f*G) * (g*B+h*E+i*H) - (d*B+e*E+f*H) * (g*A+h*D+i*G)) := by grind
theorem one_dvd3 {p x d a b c e f g h i j : Int} (he : x * (p * d) = (1 - p * a) * ((1 - p * f) * (1 - p * j) - (-(p * g)) * (-(p * i))) - (-(p * b)) * ((-(p * e)) * (1 - p * j) - (-(p * g)) * (-(p * h))) + (-(p * c)) * ((-(p * e)) * (-(p * i)) - (1 - p * f) * (-(p * h)))) : p ∣ 1 := by
  refine ⟨x * d + a + f + j - p * (a * f + a * j + f * j - g * i - b * e - c * h) + p * p * (a * (f * j - g * i) - b * (e * j - g * h) + c * (e * i - f * h)), ?_⟩
  grind
/-- A matrix with an inverse has no determinant 0. -/
theorem det_of_inverse {p : Int} (hp : 2 ≤ p) {n : Nat} (hn : n = 1 ∨ n = 2 ∨ n = 3) {A R : Nat → Nat → Int} (h : ∀ i j, i < n → j < n → p ∣ (if i = j then 1 else 0) - sumZ (fun k => R i k * A k j) n) : detZ n A % p ≠ 0 := by
  intro hd
  obtain ⟨d, hd⟩ := Int.dvd_of_emod_eq_zero hd
  have fin : ¬ p ∣ 1 := fun hc => by
    have := Int.le_of_dvd (by decide) hc
    omega
  apply fin
  rcases hn with rfl | rfl | rfl
  · obtain ⟨a, ha⟩ := h 0 0 (by omega) (by omega)
    simp [sumZ] at ha
    simp [detZ] at hd
    exact ⟨a + R 0 0 * d, by grind⟩
  · obtain ⟨t00, h00⟩ := h 0 0 (by omega) (by omega)
    obtain ⟨t01, h01⟩ := h 0 1 (by omega) (by omega)
    obtain ⟨t10, h10⟩ := h 1 0 (by omega) (by omega)
    obtain ⟨t11, h11⟩ := h 1 1 (by omega) (by omega)
    simp [sumZ] at h00 h01 h10 h11
    simp [detZ] at hd
    have e : (R 0 0 * R 1 1 - R 0 1 * R 1 0) * (A 0 0 * A 1 1 - A 0 1 * A 1 0) = (R 0 0 * A 0 0 + R 0 1 * A 1 0) * (R 1 0 * A 0 1 + R 1 1 * A 1 1) - (R 0 0 * A 0 1 + R 0 1 * A 1 1) * (R 1 0 * A 0 0 + R 1 1 * A 1 0) := by grind
    rw [hd, show R 0 0 * A 0 0 + R 0 1 * A 1 0 = 1 - p * t00 by omega, show R 1 0 * A 0 1 + R 1 1 * A 1 1 = 1 - p * t11 by omega, show R 0 0 * A 0 1 + R 0 1 * A 1 1 = - (p * t01) by omega, show R 1 0 * A 0 0 + R 1 1 * A 1 0 = - (p * t10) by omega] at e
    exact ⟨(R 0 0 * R 1 1 - R 0 1 * R 1 0) * d + t00 + t11 - p * t00 * t11 + p * t01 * t10, by grind⟩
  · obtain ⟨t00, h00⟩ := h 0 0 (by omega) (by omega)
    obtain ⟨t01, h01⟩ := h 0 1 (by omega) (by omega)
    obtain ⟨t02, h02⟩ := h 0 2 (by omega) (by omega)
    obtain ⟨t10, h10⟩ := h 1 0 (by omega) (by omega)
    obtain ⟨t11, h11⟩ := h 1 1 (by omega) (by omega)
    obtain ⟨t12, h12⟩ := h 1 2 (by omega) (by omega)
    obtain ⟨t20, h20⟩ := h 2 0 (by omega) (by omega)
    obtain ⟨t21, h21⟩ := h 2 1 (by omega) (by omega)
    obtain ⟨t22, h22⟩ := h 2 2 (by omega) (by omega)
    simp [sumZ] at h00 h01 h02 h10 h11 h12 h20 h21 h22
    simp [detZ] at hd
    have e := det3_mul (R 0 0) (R 0 1) (R 0 2) (R 1 0) (R 1 1) (R 1 2) (R 2 0) (R 2 1) (R 2 2) (A 0 0) (A 0 1) (A 0 2) (A 1 0) (A 1 1) (A 1 2) (A 2 0) (A 2 1) (A 2 2)
    rw [hd, show R 0 0 * A 0 0 + R 0 1 * A 1 0 + R 0 2 * A 2 0 = 1 - p * t00 by omega, show R 0 0 * A 0 1 + R 0 1 * A 1 1 + R 0 2 * A 2 1 = - (p * t01) by omega, show R 0 0 * A 0 2 + R 0 1 * A 1 2 + R 0 2 * A 2 2 = - (p * t02) by omega,
      show R 1 0 * A 0 0 + R 1 1 * A 1 0 + R 1 2 * A 2 0 = - (p * t10) by omega, show R 1 0 * A 0 1 + R 1 1 * A 1 1 + R 1 2 * A 2 1 = 1 - p * t11 by omega, show R 1 0 * A 0 2 + R 1 1 * A 1 2 + R 1 2 * A 2 2 = - (p * t12) by omega,
      show R 2 0 * A 0 0 + R 2 1 * A 1 0 + R 2 2 * A 2 0 = - (p * t20) by omega, show R 2 0 * A 0 1 + R 2 1 * A 1 1 + R 2 2 * A 2 1 = - (p * t21) by omega, show R 2 0 * A 0 2 + R 2 1 * A 1 2 + R 2 2 * A 2 2 = 1 - p * t22 by omega] at e
    exact one_dvd3 e
/-- The row i of the matrix, and the row i of the unit matrix behind it. -/
def augRow (n : Nat) (A : Nat → Nat → Int) (i : Nat) : List Int := (List.range (2 * n)).map fun t => if t < n then A i t else if t = n + i then 1 else 0
theorem augRow_get (n : Nat) (A : Nat → Nat → Int) (i t : Nat) : (augRow n A i).getD t 0 = if t < 2 * n then (if t < n then A i t else if t = n + i then 1 else 0) else 0 := by
  by_cases h : t < 2 * n <;> simp [augRow, List.getD_eq_getElem?_getD, h]
/-- What all rows of the list have, when i rows are taken. -/
structure AugOk (p : Int) (n : Nat) (A : Nat → Nat → Int) (i : Nat) (r : List Int) : Prop where
  ok : RowOk p (2 * n) r
  lin : ∀ j, j < n → p ∣ r.getD j 0 - sumZ (fun k => r.getD (n + k) 0 * A k j) n
  far : ∀ k, i ≤ k → k < n → r.getD (n + k) 0 = 0
theorem AugOk.more {p : Int} {n : Nat} {A : Nat → Nat → Int} {i : Nat} {r : List Int} (h : AugOk p n A i r) : AugOk p n A (i + 1) r := ⟨h.ok, h.lin, fun k hk => h.far k (by omega)⟩
theorem AugOk.less {p : Int} (hp : 0 < p) {n : Nat} {A : Nat → Nat → Int} {i : Nat} {r o : List Int} (q : Int) (h : AugOk p n A i r) (k : AugOk p n A i o) : AugOk p n A i (lessL p r o q) := by
  refine ⟨h.ok.less hp k.ok q, fun j hj => ?_, fun t ht htn => ?_⟩
  · obtain ⟨a, ha⟩ := h.lin j hj
    obtain ⟨b, hb⟩ := k.lin j hj
    have hs : p ∣ sumZ (fun k => (lessL p r o q).getD (n + k) 0 * A k j) n - (sumZ (fun k => r.getD (n + k) 0 * A k j) n - q * sumZ (fun k => o.getD (n + k) 0 * A k j) n) := sumZ_lin n fun t _ => by
      rw [lessL_get h.ok.len k.ok.len, Int.emod_def]
      refine ⟨- ((r.getD (n + t) 0 - q * o.getD (n + t) 0) / p) * A t j, ?_⟩
      grind
    obtain ⟨c, hc⟩ := hs
    rw [lessL_get h.ok.len k.ok.len, Int.emod_def]
    refine ⟨a - q * b - (r.getD j 0 - q * o.getD j 0) / p - c, ?_⟩
    grind
  · rw [lessL_get h.ok.len k.ok.len, h.far t ht htn, k.far t ht htn]
    simp
theorem AugOk.scale {p : Int} (hp : 0 < p) {n : Nat} {A : Nat → Nat → Int} {i : Nat} {r : List Int} (c : Int) (h : AugOk p n A i r) : AugOk p n A i (scaleL p r c) := by
  refine ⟨h.ok.scale hp c, fun j hj => ?_, fun t ht htn => ?_⟩
  · obtain ⟨a, ha⟩ := h.lin j hj
    have hs : p ∣ sumZ (fun k => (scaleL p r c).getD (n + k) 0 * A k j) n - sumZ (fun k => r.getD (n + k) 0 * A k j) n * c := sumZ_mul n fun t _ => by
      rw [scaleL_get, Int.emod_def]
      refine ⟨- ((r.getD (n + t) 0 * c) / p) * A t j, ?_⟩
      grind
    obtain ⟨b, hb⟩ := hs
    rw [scaleL_get, Int.emod_def]
    refine ⟨a * c - (r.getD j 0 * c) / p - b, ?_⟩
    grind
  · rw [scaleL_get, h.far t ht htn]
    simp
theorem sumZ_unit (f : Nat → Int) (i : Nat) : ∀ n, sumZ (fun k => (if k = i then 1 else 0) * f k) n = if i < n then f i else 0
  | 0 => by simp [sumZ]
  | n + 1 => by
    rw [sumZ, sumZ_unit f i n]
    by_cases h : i < n
    · have : n ≠ i := by omega
      simp [h, this]
      omega
    · by_cases h2 : n = i
      · subst h2
        simp
      · have : ¬ i < n + 1 := by omega
        simp [h, h2, this]
theorem sumZ_congr {f g : Nat → Int} : ∀ n, (∀ k, k < n → f k = g k) → sumZ f n = sumZ g n
  | 0, _ => rfl
  | n + 1, h => by rw [sumZ, sumZ, sumZ_congr n fun k hk => h k (by omega), h n (by omega)]
theorem augRow_ok {p : Int} (hp : 2 ≤ p) {n : Nat} {A : Nat → Nat → Int} (hA : ∀ i j, 0 ≤ A i j ∧ A i j < p) (i : Nat) (hi : i < n) : AugOk p n A (i + 1) (augRow n A i) := by
  refine ⟨⟨by simp [augRow], fun t => ?_⟩, fun j hj => ?_, fun t ht htn => ?_⟩
  · rw [augRow_get]
    have := hA i t
    split
    · split
      · exact this
      · split <;> omega
    · omega
  · have e : sumZ (fun k => (augRow n A i).getD (n + k) 0 * A k j) n = A i j := by
      rw [sumZ_congr n (g := fun k => (if k = i then 1 else 0) * A k j) fun k hk => ?_, sumZ_unit, if_pos hi]
      rw [augRow_get, if_pos (by omega), if_neg (by omega)]
      by_cases h : k = i
      · simp [h]
      · rw [if_neg (by omega), if_neg h]
    rw [e, augRow_get, if_pos (by omega), if_pos hj, Int.sub_self]
    exact Int.dvd_zero _
  · rw [augRow_get, if_pos (by omega), if_neg (by omega), if_neg (by omega)]
def augRows (n : Nat) (A : Nat → Nat → Int) (i : Nat) : List (List Int) := (List.range i).map (augRow n A)
theorem augRows_succ (n : Nat) (A : Nat → Nat → Int) (i : Nat) : augRows n A (i + 1) = augRows n A i ++ [augRow n A i] := by simp [augRows, List.range_succ]
theorem aug_inv {p : Int} (hp : primeZ p) {n : Nat} {A : Nat → Nat → Int} (hA : ∀ i j, 0 ≤ A i j ∧ A i j < p) : ∀ i, i ≤ n → Red p (2 * n) (echL p (augRows n A i)) ∧ (echL p (augRows n A i)).length = i ∧ ∀ r ∈ echL p (augRows n A i), AugOk p n A i r
  | 0, _ => by
    refine ⟨⟨fun r hr => ?_, ?_⟩, rfl, fun r hr => ?_⟩
    · simp [augRows, echL] at hr
    · exact List.Pairwise.nil
    · simp [augRows, echL] at hr
  | i + 1, hi => by
    obtain ⟨h1, h2, h3⟩ := aug_inv (n := n) hp hA i (by omega)
    have h2p := hp.two
    have hrow := augRow_ok (by omega) hA i (show i < n by omega)
    have e : echL p (augRows n A (i + 1)) = echStep p (echL p (augRows n A i)) (augRow n A i) := by
      rw [augRows_succ]
      simp [echL, List.foldl_append]
    rw [e]
    refine ⟨echStep_red hp h1 hrow.ok, ?_, ?_⟩
    · have hok := restL_ok (L := 2 * n) (by omega) (echL p (augRows n A i)) (augRow n A i) hrow.ok fun r hr => (h1.led r hr).ok
      have hone : (restL p (echL p (augRows n A i)) (augRow n A i)).getD (n + i) 0 = 1 := by
        rw [restL_same (L := 2 * n) (by omega) (n + i) _ _ hrow.ok fun r hr => ⟨(h1.led r hr).ok, (h3 r hr).far i (Nat.le_refl _) (by omega)⟩, augRow_get, if_pos (show n + i < 2 * n by omega), if_neg (show ¬ n + i < n by omega), if_pos rfl]
      have hlt : leadN (restL p (echL p (augRows n A i)) (augRow n A i)) < 2 * n := by
        have := leadN_le_of (r := restL p (echL p (augRows n A i)) (augRow n A i)) (i := n + i) (by rw [hone]; decide)
        omega
      unfold echStep
      rw [if_pos (by rw [hok.len]; exact hlt), putL_length, h2]
    · exact echStep_keep (Q := AugOk p n A (i + 1)) (fun r o q hr ho => hr.less (by omega) q ho) (fun r c hr => hr.scale (by omega) c) (fun r hr => (h3 r hr).more) hrow
theorem aug_lead {p : Int} (hp : primeZ p) {n : Nat} (hn : n = 1 ∨ n = 2 ∨ n = 3) {A : Nat → Nat → Int} (hd : detZ n A % p ≠ 0) {r : List Int} (h : AugOk p n A n r) (hl : Led p (2 * n) r) : leadN r < n := by
  apply Decidable.byContradiction
  intro hc
  have h1 : ∀ j, j < n → p ∣ sumZ (fun k => r.getD (n + k) 0 * A k j) n := fun j hj => by
    have := h.lin j hj
    rw [leadN_zero (r := r) (i := j) (by omega), Int.zero_sub] at this
    exact Int.dvd_neg.1 this
  have h2 := kernel_zero hp hn hd (v := fun k => r.getD (n + k) 0) h1 (leadN r - n) (by have := hl.lt; omega)
  have h3 : n + (leadN r - n) = leadN r := by omega
  simp only [h3, hl.one] at h2
  have := Int.le_of_dvd (by decide) h2
  have := hp.two
  omega
/-- The reduced rows of the matrix beside the unit matrix. -/
def invRows (p : Int) (n : Nat) (A : Nat → Nat → Int) : List (List Int) := echL p (augRows n A n)
theorem getD_mem {α : Type} {l : List α} {i : Nat} (z : α) (h : i < l.length) : l.getD i z ∈ l := by
  rw [List.getD_eq_getElem?_getD, List.getElem?_eq_getElem h]
  exact List.getElem_mem h
theorem pair_getD {α : Type} {R : α → α → Prop} {l : List α} (h : l.Pairwise R) (z : α) {i j : Nat} (hij : i < j) (hj : j < l.length) : R (l.getD i z) (l.getD j z) := by
  have := List.pairwise_iff_getElem.1 h i j (by omega) hj hij
  rw [List.getD_eq_getElem?_getD, List.getElem?_eq_getElem (by omega), List.getD_eq_getElem?_getD, List.getElem?_eq_getElem hj]
  exact this
theorem inv_length {p : Int} (hp : primeZ p) {n : Nat} {A : Nat → Nat → Int} (hA : ∀ i j, 0 ≤ A i j ∧ A i j < p) : (invRows p n A).length = n := (aug_inv hp hA n (Nat.le_refl _)).2.1
theorem inv_ok {p : Int} (hp : primeZ p) {n : Nat} {A : Nat → Nat → Int} (hA : ∀ i j, 0 ≤ A i j ∧ A i j < p) : ∀ r ∈ invRows p n A, AugOk p n A n r := (aug_inv hp hA n (Nat.le_refl _)).2.2
theorem inv_red {p : Int} (hp : primeZ p) {n : Nat} {A : Nat → Nat → Int} (hA : ∀ i j, 0 ≤ A i j ∧ A i j < p) : Red p (2 * n) (invRows p n A) := (aug_inv hp hA n (Nat.le_refl _)).1
theorem inv_leads {p : Int} (hp : primeZ p) {n : Nat} (hn : n = 1 ∨ n = 2 ∨ n = 3) {A : Nat → Nat → Int} (hA : ∀ i j, 0 ≤ A i j ∧ A i j < p) (hd : detZ n A % p ≠ 0) : ∀ i, i < n → leadN ((invRows p n A).getD i []) = i := by
  have hl := inv_length (n := n) hp hA
  have h1 : ∀ i, i < n → leadN ((invRows p n A).getD i []) < n := fun i hi => aug_lead hp hn hd (inv_ok hp hA _ (getD_mem _ (by omega))) ((inv_red hp hA).led _ (getD_mem _ (by omega)))
  have h2 : ∀ i j, i < j → j < n → leadN ((invRows p n A).getD i []) < leadN ((invRows p n A).getD j []) := fun i j hij hj => (pair_getD (inv_red hp hA).up [] hij (by omega)).1
  intro i hi
  rcases hn with rfl | rfl | rfl
  · have := h1 i hi
    omega
  · have a := h2 0 1 (by omega) (by omega)
    have b := h1 1 (by omega)
    have : i = 0 ∨ i = 1 := by omega
    rcases this with rfl | rfl <;> omega
  · have a := h2 0 1 (by omega) (by omega)
    have b := h2 1 2 (by omega) (by omega)
    have c := h1 2 (by omega)
    have : i = 0 ∨ i = 1 ∨ i = 2 := by omega
    rcases this with rfl | rfl | rfl <;> omega
/-- What the right half is, where the leads are in their places. -/
theorem inv_unit {p : Int} (hp : primeZ p) {n : Nat} {A : Nat → Nat → Int} (hA : ∀ i j, 0 ≤ A i j ∧ A i j < p) (hl : ∀ i, i < n → leadN ((invRows p n A).getD i []) = i) : ∀ i j, i < n → j < n → p ∣ (if i = j then 1 else 0) - sumZ (fun k => ((invRows p n A).getD i []).getD (n + k) 0 * A k j) n := by
  intro i j hi hj
  have hlen := inv_length (n := n) hp hA
  have hr := inv_ok hp hA _ (getD_mem [] (show i < (invRows p n A).length by omega))
  have hd := (inv_red hp hA).led _ (getD_mem [] (show i < (invRows p n A).length by omega))
  have h1 := hr.lin j hj
  have e : ((invRows p n A).getD i []).getD j 0 = if i = j then 1 else 0 := by
    split
    · rename_i h
      subst h
      have := hd.one
      rwa [hl i hi] at this
    · rename_i h
      by_cases hij : i < j
      · have := (pair_getD (inv_red (n := n) hp hA).up [] hij (by omega)).2
        rwa [hl j hj] at this
      · exact leadN_zero (by rw [hl i hi]; omega)
  rw [← e]
  exact h1
theorem inv_det {p : Int} (hp : primeZ p) {n : Nat} (hn : n = 1 ∨ n = 2 ∨ n = 3) {A : Nat → Nat → Int} (hA : ∀ i j, 0 ≤ A i j ∧ A i j < p) : (∀ i, i < n → leadN ((invRows p n A).getD i []) = i) ↔ detZ n A % p ≠ 0 :=
  ⟨fun hl => det_of_inverse (by have := hp.two; omega) hn (R := fun i k => ((invRows p n A).getD i []).getD (n + k) 0) (inv_unit hp hA hl), inv_leads hp hn hA⟩
end Go.Proofs.Ytafdakamibpjaaa
