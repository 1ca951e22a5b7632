/- PLAIN LAW: the named groups: matrices of whole numbers, and lists of them that products do not leave; no condition. -/
import Derived.Test.YtimjhehagimcaaaYE1
import Derived.Test.YtimjhehagimcaaaYAlgM
import Derived.KernelRfl
set_option linter.unusedVariables false
namespace Go.Proofs.Ytimjhehagimcaaa
def nc (p e : Int) : UInt8 := uB ((e + p) % p)
def at9 (l : List Int) (i j : Nat) : Int := l.getD (3 * i + j) 0
/-- A matrix modulo p out of nine whole numbers. -/
def nmL (p : Int) (l : List Int) : M9 := mkM fun i j => nc p (at9 l i j)
def mulZ (n : Nat) (a b : List Int) : List Int := (List.range 9).map fun t => if t / 3 < n ∧ t % 3 < n then sumZ (fun k => at9 a (t / 3) k * at9 b k (t % 3)) n else 0
def unZ (n : Nat) : List Int := (List.range 9).map fun t => if t / 3 = t % 3 ∧ t / 3 < n then 1 else 0
theorem at9_map (f : Nat → Int) {i j : Nat} (hi : i < 3) (hj : j < 3) : at9 ((List.range 9).map f) i j = f (3 * i + j) := by
  unfold at9
  rw [List.getD_eq_getElem?_getD, List.getElem?_map, List.getElem?_range (by omega)]
  rfl
theorem div9 {i j : Nat} (hj : j < 3) : (3 * i + j) / 3 = i ∧ (3 * i + j) % 3 = j := by omega
theorem nc_num {p : Int} (hp : 2 ≤ p) (hp' : p ≤ 13) (e : Int) : ((nc p e).toNat : Int) = e % p := by
  unfold nc
  rw [uB_nat, Int.add_emod_right]
  have h1 := Int.emod_nonneg e (show p ≠ 0 by omega)
  have h2 := Int.emod_lt_of_pos e (show 0 < p by omega)
  omega
theorem nmL_num {p : Int} (hp : 2 ≤ p) (hp' : p ≤ 13) (l : List Int) {i j : Nat} (hi : i < 3) (hj : j < 3) : (nmL p l).num i j = at9 l i j % p := by
  unfold nmL
  rw [mkM_num _ hi hj, nc_num hp hp']
theorem times_nm {p : Int} (hp : 2 ≤ p) (hp' : p ≤ 13) {n : Nat} (hn : n ≤ 3) (a b : List Int) : timesM p n (nmL p a) (nmL p b) = nmL p (mulZ n a b) := by
  refine M9_ext fun i j hi hj => ?_
  obtain ⟨d1, d2⟩ := div9 (i := i) hj
  rw [num_times hp hp' n _ _ hi hj, nmL_num hp hp' _ hi hj, mulZ, at9_map _ hi hj, d1, d2]
  by_cases h : i < n ∧ j < n
  · rw [if_pos h, if_pos h]
    exact qsum_cong n fun k hk => by rw [nmL_num hp hp' _ hi (by omega), nmL_num hp hp' _ (by omega) hj, emod_mulL, emod_mulR]
  · rw [if_neg h, if_neg h, Int.zero_emod]
theorem unit_nm {p : Int} (hp : 2 ≤ p) (hp' : p ≤ 13) {n : Int} (h1 : 1 ≤ n) : unitM n = nmL p (unZ n.toNat) := by
  refine M9_ext fun i j hi hj => ?_
  obtain ⟨d1, d2⟩ := div9 (i := i) hj
  rw [unit_num hi hj, nmL_num hp hp' _ hi hj, unZ, at9_map _ hi hj, d1, d2]
  by_cases h : i = j ∧ (i : Int) < n
  · rw [if_pos h, if_pos ⟨h.1, by omega⟩, Int.emod_eq_of_lt (by decide) (by omega)]
  · rw [if_neg h, if_neg (fun hh => h ⟨hh.1, by omega⟩), Int.zero_emod]
theorem mat_nm {p n : Int} (h1 : primeB p = true) (h2 : inB n 1 3 = true) {l : List Int} (hz : ∀ i j, i < 3 → j < 3 → (n.toNat ≤ i ∨ n.toNat ≤ j) → at9 l i j = 0) (hd : detZ n.toNat (at9 l) = 1 ∨ detZ n.toNat (at9 l) = -1) : matB p n (nmL p l) = true := by
  have hb := (primeZ_of h1).two
  have hn := inB_of h2
  refine matB_mk h1 h2 (fun i j hi hj => ?_) ?_
  · rw [nmL_num hb.1 hb.2 _ hi hj]
    exact ⟨Int.emod_lt_of_pos _ (by omega), fun hk => by rw [hz i j hi hj hk, Int.zero_emod]⟩
  · rw [detZ_cong (nat3 hn.1 hn.2) (B := at9 l) fun i j hi hj => by rw [nmL_num hb.1 hb.2 _ (by omega) (by omega), Int.emod_emod]]
    rcases hd with e | e
    · rw [e, Int.emod_eq_of_lt (by decide) (by omega)]; decide
    · rw [e]; rcases primeZ_of h1 with rfl | rfl | rfl | rfl | rfl | rfl <;> decide
/-! ### lists that products do not leave -/
theorem nd_len {α : Type} [DecidableEq α] : ∀ (l m : List α), l.Nodup → (∀ x ∈ l, x ∈ m) → l.length ≤ m.length
  | [], _, _, _ => Nat.zero_le _
  | a :: l, m, hn, hs => by
    obtain ⟨ha, hn⟩ := List.nodup_cons.1 hn
    have ham := hs a (by simp)
    have := nd_len l (m.erase a) hn (fun y hy => (List.mem_erase_of_ne (fun e => ha (by rw [← e]; exact hy))).2 (hs y (by simp [hy])))
    rw [List.length_erase_of_mem ham] at this
    have h0 := List.length_pos_of_mem ham
    simp
    omega
theorem innO_in {p : Int} {n : Nat} {a : M9} {L : List M9} (hL : L.length ≤ 48) : ∀ (gs all : List M9), (∀ g ∈ gs, timesM p n a g ∈ L) → (∀ x ∈ all, x ∈ L) → all.Nodup → ∃ out, innO p n a all gs = some out ∧ (∀ x ∈ out, x ∈ L) ∧ out.Nodup
  | [], all, _, hs, hn => ⟨all, rfl, hs, hn⟩
  | g :: gs, all, hc, hs, hn => by
    have hs' : ∀ x ∈ addM all (timesM p n a g), x ∈ L := fun x hx => by
      rcases addM_cases hx with h | h
      · exact hs x h
      · rw [h]; exact hc g (by simp)
    have hn' : (addM all (timesM p n a g)).Nodup := addM_nodup hn
    have hl := nd_len _ _ hn' hs'
    obtain ⟨out, h1, h2, h3⟩ := innO_in hL gs _ (fun g' h => hc g' (by simp [h])) hs' hn'
    refine ⟨out, ?_, h2, h3⟩
    show (if 48 < (addM all (timesM p n a g)).length then none else innO p n a (addM all (timesM p n a g)) gs) = _
    rw [if_neg (by omega)]
    exact h1
theorem cloO_in {p : Int} {n : Nat} {gs L : List M9} (hL : L.length ≤ 48) (hc : ∀ a ∈ L, ∀ g ∈ gs, timesM p n a g ∈ L) : ∀ (f i : Nat) (all : List M9), (∀ x ∈ all, x ∈ L) → all.Nodup → ∃ out, cloO p n gs f i all = some out
  | 0, _, all, _, _ => ⟨all, rfl⟩
  | f + 1, i, all, hs, hn => by
    show ∃ out, (if i < all.length then (innO p n (all.getD i zM) all gs).bind fun all' => cloO p n gs f (i + 1) all' else some all) = some out
    by_cases h : i < all.length
    · rw [if_pos h]
      obtain ⟨out, h1, h2, h3⟩ := innO_in hL gs all (hc _ (hs _ (getD_mem zM h))) hs hn
      rw [h1]
      exact cloO_in hL hc f (i + 1) out h2 h3
    · rw [if_neg h]
      exact ⟨all, rfl⟩
def okZ (n : Nat) (G L : List (List Int)) : Bool :=
  decide (L.length ≤ 48) && (L.contains (unZ n) && (L.all (fun a => G.all fun g => L.contains (mulZ n a g)) && G.all fun g => ((detZ n (at9 g) == 1 || detZ n (at9 g) == -1) && (List.range 3).all fun i => (List.range 3).all fun j => ((decide (i < n) && decide (j < n)) || at9 g i j == 0))))
theorem ok_gen {p n : Int} (h1 : primeB p = true) (h2 : inB n 1 3 = true) {G L : List (List Int)} (h : okZ n.toNat G L = true) : (∀ i, i < (G.map (nmL p)).length → matB p n ((G.map (nmL p)).getD i zM) = true) ∧ ∃ out, genO p n (G.map (nmL p)) = some out := by
  have hb := (primeZ_of h1).two
  have hn := inB_of h2
  unfold okZ at h
  simp only [Bool.and_eq_true, decide_eq_true_eq, List.contains_iff_mem, List.all_eq_true, Bool.or_eq_true, beq_iff_eq, List.mem_range] at h
  obtain ⟨k1, k2, k3, k4⟩ := h
  refine ⟨fun i hi => ?_, ?_⟩
  · have := getD_mem zM hi
    obtain ⟨g, hg, e⟩ := List.mem_map.1 this
    rw [← e]
    obtain ⟨d, z⟩ := k4 g hg
    refine mat_nm h1 h2 (fun i j hi hj hk => ?_) d
    rcases z i hi j hj with a | a
    · omega
    · exact a
  · refine cloO_in (L := L.map (nmL p)) (by rw [List.length_map]; exact k1) (fun a ha g hg => ?_) _ _ _ (fun x hx => ?_) (List.nodup_cons.2 ⟨by simp, .nil⟩)
    · obtain ⟨a', ha', rfl⟩ := List.mem_map.1 ha
      obtain ⟨g', hg', rfl⟩ := List.mem_map.1 hg
      rw [times_nm hb.1 hb.2 (by omega)]
      exact List.mem_map_of_mem (k3 a' ha' g' hg')
    · rw [List.mem_singleton.1 hx, unit_nm hb.1 hb.2 hn.1]
      exact List.mem_map_of_mem k2
def pointG : List (List Int) := [[1, 0, 0, 0, 0, 0, 0, 0, 0]]
def pointL : List (List Int) := [[1, 0, 0, 0, 0, 0, 0, 0, 0]]
theorem point_ok : okZ 1 pointG pointL = true := by kernel_rfl
def signG : List (List Int) := [[(-1), 0, 0, 0, 0, 0, 0, 0, 0]]
def signL : List (List Int) := [[1, 0, 0, 0, 0, 0, 0, 0, 0], [(-1), 0, 0, 0, 0, 0, 0, 0, 0]]
theorem sign_ok : okZ 1 signG signL = true := by kernel_rfl
def minusG : List (List Int) := [[(-1), 0, 0, 0, (-1), 0, 0, 0, 0]]
def minusL : List (List Int) := [[1, 0, 0, 0, 1, 0, 0, 0, 0], [(-1), 0, 0, 0, (-1), 0, 0, 0, 0]]
theorem minus_ok : okZ 2 minusG minusL = true := by kernel_rfl
def swapG : List (List Int) := [[0, 1, 0, 1, 0, 0, 0, 0, 0]]
def swapL : List (List Int) := [[1, 0, 0, 0, 1, 0, 0, 0, 0], [0, 1, 0, 1, 0, 0, 0, 0, 0]]
theorem swap_ok : okZ 2 swapG swapL = true := by kernel_rfl
def signsG : List (List Int) := [[(-1), 0, 0, 0, 1, 0, 0, 0, 0], [1, 0, 0, 0, (-1), 0, 0, 0, 0]]
def signsL : List (List Int) := [[1, 0, 0, 0, 1, 0, 0, 0, 0], [(-1), 0, 0, 0, 1, 0, 0, 0, 0], [1, 0, 0, 0, (-1), 0, 0, 0, 0], [(-1), 0, 0, 0, (-1), 0, 0, 0, 0]]
theorem signs_ok : okZ 2 signsG signsL = true := by kernel_rfl
def squareG : List (List Int) := [[0, 1, 0, 1, 0, 0, 0, 0, 0], [(-1), 0, 0, 0, 1, 0, 0, 0, 0]]
def squareL : List (List Int) := [[1, 0, 0, 0, 1, 0, 0, 0, 0], [0, 1, 0, 1, 0, 0, 0, 0, 0], [(-1), 0, 0, 0, 1, 0, 0, 0, 0], [0, 1, 0, (-1), 0, 0, 0, 0, 0], [0, (-1), 0, 1, 0, 0, 0, 0, 0], [1, 0, 0, 0, (-1), 0, 0, 0, 0], [0, (-1), 0, (-1), 0, 0, 0, 0, 0], [(-1), 0, 0, 0, (-1), 0, 0, 0, 0]]
theorem square_ok : okZ 2 squareG squareL = true := by kernel_rfl
def triangleG : List (List Int) := [[0, 1, 0, 1, 0, 0, 0, 0, 0], [0, (-1), 0, 1, (-1), 0, 0, 0, 0]]
def triangleL : List (List Int) := [[1, 0, 0, 0, 1, 0, 0, 0, 0], [0, 1, 0, 1, 0, 0, 0, 0, 0], [0, (-1), 0, 1, (-1), 0, 0, 0, 0], [1, (-1), 0, 0, (-1), 0, 0, 0, 0], [(-1), 0, 0, (-1), 1, 0, 0, 0, 0], [(-1), 1, 0, (-1), 0, 0, 0, 0, 0]]
theorem triangle_ok : okZ 2 triangleG triangleL = true := by kernel_rfl
def turnG : List (List Int) := [[0, 1, 0, 0, 0, 1, 1, 0, 0]]
def turnL : List (List Int) := [[1, 0, 0, 0, 1, 0, 0, 0, 1], [0, 1, 0, 0, 0, 1, 1, 0, 0], [0, 0, 1, 1, 0, 0, 0, 1, 0]]
theorem turn_ok : okZ 3 turnG turnL = true := by kernel_rfl
def symmetricG : List (List Int) := [[0, 1, 0, 0, 0, 1, 1, 0, 0], [0, 1, 0, 1, 0, 0, 0, 0, 1]]
def symmetricL : List (List Int) := [[1, 0, 0, 0, 1, 0, 0, 0, 1], [0, 1, 0, 0, 0, 1, 1, 0, 0], [0, 1, 0, 1, 0, 0, 0, 0, 1], [0, 0, 1, 1, 0, 0, 0, 1, 0], [1, 0, 0, 0, 0, 1, 0, 1, 0], [0, 0, 1, 0, 1, 0, 1, 0, 0]]
theorem symmetric_ok : okZ 3 symmetricG symmetricL = true := by kernel_rfl
def cubeG : List (List Int) := [[0, 1, 0, 0, 0, 1, 1, 0, 0], [0, 1, 0, 1, 0, 0, 0, 0, 1], [(-1), 0, 0, 0, 1, 0, 0, 0, 1]]
def cubeL : List (List Int) := [[1, 0, 0, 0, 1, 0, 0, 0, 1], [0, 1, 0, 0, 0, 1, 1, 0, 0], [0, 1, 0, 1, 0, 0, 0, 0, 1], [(-1), 0, 0, 0, 1, 0, 0, 0, 1], [0, 0, 1, 1, 0, 0, 0, 1, 0], [1, 0, 0, 0, 0, 1, 0, 1, 0], [0, 1, 0, 0, 0, 1, (-1), 0, 0], [0, 0, 1, 0, 1, 0, 1, 0, 0], [0, 1, 0, (-1), 0, 0, 0, 0, 1], [0, (-1), 0, 0, 0, 1, 1, 0, 0], [0, (-1), 0, 1, 0, 0, 0, 0, 1], [0, 0, 1, (-1), 0, 0, 0, 1, 0], [(-1), 0, 0, 0, 0, 1, 0, 1, 0], [0, 0, 1, 1, 0, 0, 0, (-1), 0], [1, 0, 0, 0, 0, 1, 0, (-1), 0], [0, 0, 1, 0, 1, 0, (-1), 0, 0], [0, 0, 1, 0, (-1), 0, 1, 0, 0], [1, 0, 0, 0, (-1), 0, 0, 0, 1], [0, 0, (-1), 1, 0, 0, 0, 1, 0], [0, (-1), 0, 0, 0, 1, (-1), 0, 0], [0, 0, (-1), 0, 1, 0, 1, 0, 0], [0, (-1), 0, (-1), 0, 0, 0, 0, 1], [1, 0, 0, 0, 1, 0, 0, 0, (-1)], [0, 0, 1, (-1), 0, 0, 0, (-1), 0], [0, 1, 0, 1, 0, 0, 0, 0, (-1)], [(-1), 0, 0, 0, 0, 1, 0, (-1), 0], [1, 0, 0, 0, 0, (-1), 0, 1, 0], [0, 0, 1, 0, (-1), 0, (-1), 0, 0], [0, 1, 0, 0, 0, (-1), 1, 0, 0], [(-1), 0, 0, 0, (-1), 0, 0, 0, 1], [0, 0, (-1), (-1), 0, 0, 0, 1, 0], [0, 0, (-1), 1, 0, 0, 0, (-1), 0], [0, 0, (-1), 0, 1, 0, (-1), 0, 0], [0, 0, (-1), 0, (-1), 0, 1, 0, 0], [(-1), 0, 0, 0, 1, 0, 0, 0, (-1)], [1, 0, 0, 0, (-1), 0, 0, 0, (-1)], [0, 1, 0, (-1), 0, 0, 0, 0, (-1)], [0, (-1), 0, 1, 0, 0, 0, 0, (-1)], [(-1), 0, 0, 0, 0, (-1), 0, 1, 0], [1, 0, 0, 0, 0, (-1), 0, (-1), 0], [0, 1, 0, 0, 0, (-1), (-1), 0, 0], [0, (-1), 0, 0, 0, (-1), 1, 0, 0], [0, 0, (-1), (-1), 0, 0, 0, (-1), 0], [0, 0, (-1), 0, (-1), 0, (-1), 0, 0], [(-1), 0, 0, 0, (-1), 0, 0, 0, (-1)], [0, (-1), 0, (-1), 0, 0, 0, 0, (-1)], [(-1), 0, 0, 0, 0, (-1), 0, (-1), 0], [0, (-1), 0, 0, 0, (-1), (-1), 0, 0]]
theorem cube_ok : okZ 3 cubeG cubeL = true := by kernel_rfl
end Go.Proofs.Ytimjhehagimcaaa
