/- The functions on rows of numbers that a program has printed, by the plain words of the reduced list; no condition. -/
import Derived.Test.YtafdakamibpjaaaEch
import Derived.Test.YtafdakamibpjaaaKitA
import Derived.Test.YtafdakamibpjaaaDet
import Derived.Test.YtafdakamibpjaaaPFnExactIsMatrixx1
set_option linter.unusedVariables false
set_option linter.unusedSimpArgs false
namespace Go.Proofs.Ytafdakamibpjaaa
open Go.RowKit Go.Proofs.YtafdakamibpjaaaW.PrintWords
attribute [local go_sem] Later.cell Later.frozen Later.lt Later.lt_add Later.le Later.le_add Later.ne Later.ne' add_at
open PFnExactIsMatrix

def leadI (r : List Int) : Int := if leadN r < r.length then (leadN r : Int) else -1
theorem rd_nat (r : List Int) (i : Nat) : rd r (i : Int) = r.getD i 0 := by simp [rd]
theorem wrap64_fix {x : Int} (h : -1000000000000 ≤ x) (h' : x ≤ 1000000000000) : wrap64 x = x := by unfold wrap64; omega
theorem lead_f (r : List Int) (hn : r.length ≤ 1000000) : ∀ m i, i + m = r.length → (∀ j, j < i → r.getD j 0 = 0) → spec_l01Lead.l0 (m + 1) r (i : Int) = some (leadI r)
  | 0, i, h, hz => by
    have hl : leadN r = r.length := by
      apply Decidable.byContradiction
      intro hc
      have := leadN_le r
      exact leadN_ne (show leadN r < r.length by omega) (hz _ (by omega))
    simp only [spec_l01Lead.l0]
    rw [if_neg (by omega)]
    simp [leadI, hl]
  | m + 1, i, h, hz => by
    rw [spec_l01Lead.l0]
    rw [if_pos (by omega), if_pos (by omega), rd_nat]
    split
    · rename_i h0
      rw [wrap64_fix (by omega) (by omega)]
      have := lead_f r hn m (i + 1) (by omega) (fun j hj => by
        by_cases hji : j = i
        · subst hji; exact h0
        · exact hz j (by omega))
      exact this
    · rename_i h0
      have hl := leadN_eq h0 hz
      simp only [leadI, hl]
      rw [if_pos (by omega)]
theorem lead_c (r : List Int) (A : Option Addr) (c : Nat) (w : World) (hC : kI.C w A r.length r) (hc : r.length ≤ c) (hn : r.length ≤ 1000000) : Calls Try.prog 130 #[.slice A r.length c] w (fun e w' => e = .returned (.int .i64 (leadI r)) ∧ Drawn0 w w') :=
  spec_l01Lead.calls (r.length + 1) A c r _ w hC hc (lead_f r hn r.length 0 (by omega) (fun j hj => by omega))
theorem lead_any (r : List Int) (hn : r.length ≤ 1000000) (k : Nat) (hk : r.length + 1 ≤ k) : spec_l01Lead.f k r = some (leadI r) :=
  at_rounds (g := fun k => spec_l01Lead.f k r) (spec_l01Lead.mono r) hk (lead_f r hn r.length 0 (by omega) (fun j hj => by omega))

theorem less_f {p : Int} {L : Nat} (hp : 2 ≤ p) (hp' : p ≤ 13) {row other : List Int} (hr : RowOk p L row) (ho : RowOk p L other) {q : Int} (hq : 0 ≤ q) (hq' : q < p) (hL : L ≤ 1000000) : ∀ m i, i + m = L → spec_l01Less.l0 (m + 1) p row other q ((lessL p row other q).take i) (i : Int) = some (lessL p row other q)
  | 0, i, h => by
    rw [spec_l01Less.l0, if_neg (by rw [hr.len]; omega), List.take_of_length_le (by rw [lessL_length, hr.len]; omega)]
  | m + 1, i, h => by
    have h1 := hr.nums i
    have h2 := ho.nums i
    have h3 := mul_bd3 (x := q) (y := other.getD i 0) hq (by omega) h2.1 (by omega)
    rw [spec_l01Less.l0, if_pos (by rw [hr.len]; omega), if_pos (by omega), if_pos (by rw [ho.len]; omega), rd_nat, rd_nat, wrap64_fix (x := q * _) (by omega) (by omega), wrap64_fix (x := _ - _) (by omega) (by omega)]
    have hm : spec_l01Mod.f p (row.getD i 0 - q * other.getD i 0) = some ((row.getD i 0 - q * other.getD i 0) % p) := by
      unfold spec_l01Mod.f
      rw [if_neg (by omega)]
      exact congrArg some (tmod_fix hp hp')
    rw [hm, Option.bind_some, if_pos (by simp [lessL_length, hr.len]; omega), wrap64_fix (by omega) (by omega)]
    have ht : (lessL p row other q).take i ++ [(row.getD i 0 - q * other.getD i 0) % p] = (lessL p row other q).take (i + 1) := by
      rw [List.take_succ_eq_append_getElem (by rw [lessL_length, hr.len]; omega)]
      have := lessL_get (p := p) hr.len ho.len q i
      rw [List.getD_eq_getElem?_getD, List.getElem?_eq_getElem (by rw [lessL_length, hr.len]; omega)] at this
      rw [← this]
      rfl
    rw [ht]
    exact less_f hp hp' hr ho hq hq' hL m (i + 1) (by omega)
theorem less_any {p : Int} {L : Nat} (hp : 2 ≤ p) (hp' : p ≤ 13) {row other : List Int} (hr : RowOk p L row) (ho : RowOk p L other) {q : Int} (hq : 0 ≤ q) (hq' : q < p) (hL : L ≤ 1000000) (k : Nat) (hk : L + 1 ≤ k) : spec_l01Less.f k p row other q = some (lessL p row other q) :=
  at_rounds (g := fun k => spec_l01Less.f k p row other q) (spec_l01Less.mono p row other q) hk (less_f hp hp' hr ho hq hq' hL L 0 (by omega))
theorem less_c {p : Int} {L : Nat} (hp : 2 ≤ p) (hp' : p ≤ 13) {row other : List Int} (hr : RowOk p L row) (ho : RowOk p L other) {q : Int} (hq : 0 ≤ q) (hq' : q < p) (hL : L ≤ 1000000) (A B : Option Addr) (c d : Nat) (w : World) (hC : kI.C w A row.length row) (hc : row.length ≤ c) (hD : kI.C w B other.length other) (hd : other.length ≤ d) :
    Calls Try.prog 133 #[.int .i64 p, .slice A row.length c, .slice B other.length d, .int .i64 q] w (Makes kI 2 (lessL p row other q) w) :=
  spec_l01Less.calls (L + 1) p A c row B d other q _ w hC hc hD hd (less_any hp hp' hr ho hq hq' hL _ (Nat.le_refl _))

theorem own_f (r : List Int) (hn : r.length ≤ 1000000) : spec_l01Own.f r = some r := by
  unfold spec_l01Own.f
  rw [Option.bind_some, if_pos (by simp; omega)]
  rfl
theorem rest_f {p : Int} {L : Nat} (hp : 2 ≤ p) (hp' : p ≤ 13) (hL : L ≤ 1000000) {list : List (List Int)} (hn : list.length ≤ 1000000) (hl : ∀ r ∈ list, Led p L r) : ∀ m j cur, j + m = list.length → RowOk p L cur → spec_l01Rest.l0 (m + 1 + (L + 1)) p list cur (j : Int) = some (restL p (list.drop j) cur)
  | 0, j, cur, h, hc => by
    rw [show 0 + 1 + (L + 1) = (L + 1) + 1 by omega, spec_l01Rest.l0, if_neg (by omega), List.drop_of_length_le (by omega)]
    rfl
  | m + 1, j, cur, h, hc => by
    have hjl : j < list.length := by omega
    have hr : rd_L1 list (j : Int) = list[j] := by
      unfold rd_L1
      rw [Int.toNat_natCast, List.getD_eq_getElem?_getD, List.getElem?_eq_getElem hjl]
      rfl
    have hj := hl _ (List.getElem_mem hjl)
    have hn2 := hc.nums (leadN list[j])
    rw [show m + 1 + 1 + (L + 1) = (m + 1 + (L + 1)) + 1 by omega, spec_l01Rest.l0, if_pos (by omega), if_pos (by omega), hr, lead_any _ (by rw [hj.ok.len]; exact hL) _ (by rw [hj.ok.len]; omega), Option.bind_some]
    have hli : leadI list[j] = (leadN list[j] : Int) := by
      unfold leadI
      rw [if_pos (by rw [hj.ok.len]; exact hj.lt)]
    rw [hli, if_pos (by omega), if_pos (by rw [hc.len]; have := hj.lt; omega), rd_nat, List.drop_eq_getElem_cons hjl, wrap64_fix (by omega) (by omega)]
    have e : restL p (list[j] :: list.drop (j + 1)) cur = restL p (list.drop (j + 1)) (restStep p cur list[j]) := rfl
    rw [e]
    have ih := rest_f hp hp' hL hn hl m (j + 1) (restStep p cur list[j]) (by omega) (restStep_ok (by omega) hc hj.ok)
    by_cases h0 : cur.getD (leadN list[j]) 0 = 0
    · rw [if_pos h0]
      have e2 : restStep p cur list[j] = cur := by unfold restStep; rw [if_pos h0]
      rw [e2] at ih ⊢
      exact ih
    · rw [if_neg h0, less_any hp hp' hc hj.ok hn2.1 hn2.2 hL _ (by omega), Option.bind_some]
      have e2 : restStep p cur list[j] = lessL p cur list[j] (cur.getD (leadN list[j]) 0) := by unfold restStep; rw [if_neg h0]
      rw [e2] at ih ⊢
      exact ih
theorem rest_c {p : Int} {L : Nat} (hp : 2 ≤ p) (hp' : p ≤ 13) (hL : L ≤ 1000000) {list : List (List Int)} (hn : list.length ≤ 1000000) (hl : ∀ r ∈ list, Led p L r) {row : List Int} (hr : RowOk p L row) (A B : Option Addr) (c d : Nat) (w : World) (hC : (Kd.slice 2 kI).C w A list.length list) (hc : list.length ≤ c) (hD : kI.C w B row.length row) (hd : row.length ≤ d) :
    Calls Try.prog 131 #[.int .i64 p, .slice A list.length c, .slice B row.length d] w (Makes kI 2 (restL p list row) w) := by
  refine spec_l01Rest.calls (list.length + 1 + (L + 1)) p A c list B d row _ w hC hc hD hd ?_
  unfold spec_l01Rest.f
  rw [own_f _ (by rw [hr.len]; exact hL), Option.bind_some]
  have := rest_f hp hp' hL hn hl list.length 0 row (by omega) hr
  rwa [List.drop_zero] at this

theorem inv_unique {p : Int} (hp : primeZ p) {x a b : Int} (hx : 0 < x) (hx' : x < p) (ha : 0 ≤ a) (ha' : a < p) (hb : 0 ≤ b) (hb' : b < p) (h1 : a * x % p = 1) (h2 : b * x % p = 1) : a = b := by
  have h3 : (a - b) * x % p = 0 := by
    rw [Int.sub_mul, Int.sub_emod, h1, h2]
    simp
  rcases prime_mul hp h3 with h | h
  · obtain ⟨t, ht⟩ := Int.dvd_of_emod_eq_zero h
    have : t = 0 := by
      apply Decidable.byContradiction
      intro hc
      have h5 : 1 ≤ t ∨ t ≤ -1 := by omega
      rcases h5 with h5 | h5
      · have := Int.mul_le_mul_of_nonneg_left h5 (show 0 ≤ p by omega)
        omega
      · have := Int.mul_le_mul_of_nonneg_left h5 (show 0 ≤ p by omega)
        omega
    subst this
    omega
  · rw [Int.emod_eq_of_lt (by omega) hx'] at h
    omega
theorem invZ_range {p x : Int} (hp : primeZ p) (hx : 0 < x) (hx' : x < p) : 1 ≤ invZ p x ∧ invZ p x < p := by
  have h := invZ_ok hp hx hx'
  have h2 := hp.two
  have h0 : 0 ≤ invZ p x ∧ invZ p x < p := by
    unfold invZ
    cases hf : ((List.range p.toNat).drop 1).find? (fun k : Nat => (k : Int) * (x % p) % p == 1) with
    | none => simp; omega
    | some m =>
      have := List.mem_of_mem_drop (List.mem_of_find?_eq_some hf)
      rw [List.mem_range] at this
      simp
      omega
  refine ⟨?_, h0.2⟩
  apply Decidable.byContradiction
  intro hc
  have : invZ p x = 0 := by omega
  rw [this] at h
  simp at h
theorem inverse_f {p x : Int} (hp : primeZ p) (hx : 0 < x) (hx' : x < p) : ∀ (m : Nat) (j : Int), j + m = p → 1 ≤ j → j ≤ invZ p x → spec_l01Inverse.l0 (m + 1) p x j = some (invZ p x)
  | 0, j, h, h1, h2 => by
    have := invZ_range hp hx hx'
    omega
  | m + 1, j, h, h1, h2 => by
    have h2p := hp.two
    have hr := invZ_range hp hx hx'
    have hm : spec_l01Mod.f p x = some x := by
      unfold spec_l01Mod.f
      rw [if_neg (by omega)]
      exact congrArg some ((tmod_fix (by omega) (by omega)).trans (Int.emod_eq_of_lt (by omega) hx'))
    have hb := mul_bd3 (x := j) (y := x) (by omega) (by omega) (by omega) (by omega)
    rw [spec_l01Inverse.l0, if_pos (by omega), hm, Option.bind_some, if_neg (by omega), wrap64_fix (by omega) (by omega), Int.tmod_eq_emod_of_nonneg (by omega)]
    by_cases hj : j * x % p = 1
    · rw [if_pos hj]
      exact congrArg some (inv_unique hp hx hx' (by omega) (by omega) (by omega) (by omega) hj (invZ_ok hp hx hx'))
    · rw [if_neg hj, wrap64_fix (by omega) (by omega)]
      refine inverse_f hp hx hx' m (j + 1) (by omega) (by omega) ?_
      have : j ≠ invZ p x := fun hh => hj (by rw [hh]; exact invZ_ok hp hx hx')
      omega
theorem inverse_c {p x : Int} (hp : primeZ p) (hx : 0 < x) (hx' : x < p) (w : World) : Calls Try.prog 132 #[.int .i64 p, .int .i64 x] w (fun e w' => e = .returned (.int .i64 (invZ p x)) ∧ Drawn0 w w') :=
  spec_l01Inverse.calls ((p - 1).toNat + 1) p x _ w (inverse_f hp hx hx' _ 1 (by have := hp.two; omega) (by omega) (invZ_range hp hx hx').1)
end Go.Proofs.Ytafdakamibpjaaa
