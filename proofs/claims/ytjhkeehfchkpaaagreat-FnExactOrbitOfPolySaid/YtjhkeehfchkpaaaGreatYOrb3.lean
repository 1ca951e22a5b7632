/- Degrees of images; a polynomial stored in a list of polynomials; no condition. -/
import Derived.Test.YtjhkeehfchkpaaaGreatYE1
import Derived.Test.YtjhkeehfchkpaaaGreatYOrb1
set_option linter.unusedVariables false
set_option linter.unusedSimpArgs false
namespace Go.Proofs.YtjhkeehfchkpaaaGreat
open Go.RowKit Go.Proofs.YtjhkeehfchkpaaaGreatW.PrintWords
attribute [local go_sem] Later.cell Later.frozen Later.lt Later.lt_add Later.le Later.le_add Later.ne Later.ne' add_at
theorem subL_degD {p : Int} (hp : 2 ≤ p) {ys : List (List T4)} (hy : ∀ y ∈ ys, Canon p y) (xs : List T4) (D : Int) (hb : ∀ t ∈ xs, bndT ys t ys.length ≤ D) : ∀ u ∈ subL p ys xs, degE u.e ≤ D := by
  have key : ∀ (xs : List T4), (∀ t ∈ xs, bndT ys t ys.length ≤ D) → ∀ (acc : List T4), (∀ u ∈ acc, degE u.e ≤ D) → ∀ u ∈ xs.foldl (fun acc t => putsT p acc (pairsT 1 (oneTerm p ys t ys.length))) acc, degE u.e ≤ D := by
    intro xs
    induction xs with
    | nil => exact fun _ acc h => h
    | cons t xs ih =>
      intro hb acc h
      refine ih (fun t ht => hb t (by simp [ht])) _ fun u hu => ?_
      rcases putsT_mem _ hu with ⟨q, hq, e⟩ | h'
      · obtain ⟨t', ht', rfl⟩ := List.mem_map.1 hq
        rw [e]
        have h1 := degP_mem (oneTerm_canon hp ys t ys.length).1 ht'
        have h2 := oneTerm_deg hp hy t ys.length
        have h3 := hb t (by simp)
        show degE t'.e ≤ D
        omega
      · exact h u h'
  exact key xs hb [] (fun u hu => by cases hu)
theorem ledL_degP {p : Int} (hp : 2 ≤ p) {n : Nat} (hn : n ≤ 3) (m : M9) {ts : List T4} (hs : SortT ts) : degP (ledL p n m ts) ≤ degP ts := by
  have hm : -1 ≤ degP ts := by
    by_cases h : ts = []
    · subst h
      decide
    · have := degP_pos h
      omega
  refine degP_le hm (subL_degD hp (formsL_canon hp m n) ts (degP ts) fun t ht => ?_)
  have h1 := forms_bnd p m n t n
  have h2 := sumE_deg t.e hn
  have h3 := degP_mem hs ht
  rw [formsL_len]
  omega
theorem img_degP {p : Int} (hp : 2 ≤ p) {n : Nat} (hn : n ≤ 3) {ms : List M9} {ts : List T4} (hs : SortT ts) : ∀ x ∈ imgV p n ms ts, degP x.ts ≤ degP ts := by
  intro x hx
  obtain ⟨m, _, rfl⟩ := List.mem_map.1 hx
  exact ledL_degP hp hn m hs
theorem orb_degP {p : Int} (hp : 2 ≤ p) {n : Nat} (hn : n ≤ 3) {ms : List M9} {ts : List T4} (hs : SortT ts) : ∀ x ∈ orbV (imgV p n ms ts), degP x.ts ≤ degP ts := fun x hx => img_degP hp hn hs x (orbV_mem hx)
theorem kP_put {e base g n c : Nat} {ok okp : Nat → Prop} {W : World} {ps : List PV} (h : kP.R e W base ok (.slice (some ⟨g, 0, none⟩) n c) ps) {j : Nat} (hj : j < n) {p d : Int} {xt : List T4} {A' : Option Addr} {c' : Nat} (hR : kT.R 80 W base okp (.slice A' xt.length c') xt) (hokp : ∀ k, okp k → ok k ∧ k ≠ g) :
    kP.R e (((W.setCell ⟨g, j * 3, none⟩ (.int .i64 p)).setCell ⟨g, j * 3 + 1, none⟩ (.int .i64 d)).setCell ⟨g, j * 3 + 2, none⟩ (.slice A' xt.length c')) base ok (.slice (some ⟨g, 0, none⟩) n c) (ps.set j ⟨p, d, xt⟩) ∧
      W.grownBy (((W.setCell ⟨g, j * 3, none⟩ (.int .i64 p)).setCell ⟨g, j * 3 + 1, none⟩ (.int .i64 d)).setCell ⟨g, j * 3 + 2, none⟩ (.slice A' xt.length c')) (some g) := by
  obtain ⟨cs, hl, hM, hcell, _⟩ := Kd.R_elem h zP (j : Int) (by omega) (by omega)
  obtain ⟨A0, c0, rfl, _⟩ := hM
  have H := Kd.R_seg (okp := okp) h (j : Int) (by omega) (by omega) (seg := [.int .i64 p, .int .i64 d, .slice A' xt.length c']) (j := 0) hl hcell (Nat.le_refl 3) (x' := ⟨p, d, xt⟩) ⟨A', c', rfl, hR⟩ hokp
  rw [Int.toNat_natCast] at H
  exact H
theorem kP_ice {e base g n c : Nat} {ok : Nat → Prop} {W : World} {ps : List PV} (h : kP.R e W base ok (.slice (some ⟨g, 0, none⟩) n c) ps) {j : Nat} (hj : j < n) (i : Nat) : W.frozen? ⟨g, j * 3 + i, none⟩ = false := by
  obtain ⟨_, _, _, _, hf⟩ := Kd.R_elem h zP (j : Int) (by omega) (by omega)
  have := hf i
  rw [Int.toNat_natCast] at this
  exact this
/-- As kP_own, at a row that begins its block. -/
theorem kP_own0 {e base g n c : Nat} {ok : Nat → Prop} {W : World} {ps : List PV} (h : kP.R e W base ok (.slice (some ⟨g, 0, none⟩) n c) ps) {i : Nat} (hi : i < n) {p d : Int} {xt : List T4} (hx : ps.getD i zP = ⟨p, d, xt⟩) :
    ∃ A' c', W.cell? ⟨g, i * 3, none⟩ = some (.int .i64 p) ∧ W.cell? ⟨g, i * 3 + 1, none⟩ = some (.int .i64 d) ∧ W.cell? ⟨g, i * 3 + 2, none⟩ = some (.slice A' xt.length c') ∧ kT.R 80 W base (fun k => ok k ∧ k ≠ g) (.slice A' xt.length c') xt := by
  obtain ⟨hn, hnc, hC⟩ := Kd.R_reads' h
  subst hn
  obtain ⟨cs, hl, hM, hcell, _⟩ := Kd.R_elem h zP (i : Int) (by omega) (by omega)
  rw [Int.toNat_natCast] at hM
  rw [hx] at hM
  obtain ⟨A', c', rfl, hR⟩ := hM
  have q0 := hcell 0 _ rfl
  have q1 := hcell 1 _ rfl
  have q2 := hcell 2 _ rfl
  rw [Int.toNat_natCast] at q0 q1 q2
  exact ⟨A', c', q0, q1, q2, hR⟩
theorem kP_form {e base n c : Nat} {ok : Nat → Prop} {W : World} {A : Option Addr} {ps : List PV} (h : kP.R e W base ok (.slice A n c) ps) (hn : 0 < n) : ∃ g, A = some ⟨g, 0, none⟩ ∧ base ≤ g ∧ g < W.heap.size := by
  obtain ⟨hl, _, _⟩ := Kd.R_reads' h
  obtain ⟨g, cap, hv, h1, h2, _⟩ := Kd.R_form h (by omega)
  injection hv with hA _ _
  exact ⟨g, hA, h1, h2⟩
end Go.Proofs.YtjhkeehfchkpaaaGreat
