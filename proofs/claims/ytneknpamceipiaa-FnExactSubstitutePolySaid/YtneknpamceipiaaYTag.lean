/- Lists of polynomials whose rows lie in blocks of their own: kinds with tags; no condition. -/
import Derived.Test.YtneknpamceipiaaYKitW
import Derived.Test.YtneknpamceipiaaYKitC
set_option linter.unusedVariables false
set_option linter.unusedSimpArgs false
namespace Go.Proofs.Ytneknpamceipiaa
open Go.RowKit Go.Proofs.YtneknpamceipiaaW.PrintWords
attribute [local go_sem] Later.cell Later.frozen Later.lt Later.lt_add Later.le Later.le_add Later.ne Later.ne' add_at
/-- A kind whose elements also tell in which block the row of their last cell lies. -/
def tagK {α : Type} (d : Kd α) : Kd (α × Option Nat) where
  sz := d.sz
  E := d.E
  K := fun w x cs => d.K w x.1 cs ∧ (cs.getLast?.bind Value.ownBlock) = x.2
  M := fun w base ok x cs => d.M w base ok x.1 cs ∧ (cs.getLast?.bind Value.ownBlock) = x.2
  K_len := fun h => d.K_len h.1
  K_one := fun h => d.K_one h.1
  K_below := fun hb h => ⟨d.K_below hb h.1, h.2⟩
  K_of_M := fun h => ⟨d.K_of_M h.1, h.2⟩
  M_mono := fun hok h => ⟨d.M_mono hok h.1, h.2⟩
  M_bound := fun h => ⟨d.M_bound h.1, h.2⟩
  M_move := fun hm h => ⟨d.M_move hm h.1, h.2⟩
  M_lower := fun hb h => ⟨d.M_lower hb h.1, h.2⟩
theorem tag_R {α : Type} {d : Kd α} {e base : Nat} {ok : Nat → Prop} {w : World} {v : Value} {qs : List (α × Option Nat)} (h : (tagK d).R e w base ok v qs) : d.R e w base ok v (qs.map Prod.fst) := by
  obtain ⟨h0, inner, ho, hr⟩ := h
  refine ⟨h0, inner, by rw [List.length_map]; exact ho, by rw [List.length_map]; exact hr.1, fun j p hj => ?_⟩
  rw [List.getElem?_map] at hj
  obtain ⟨q, hq, rfl⟩ := Option.map_eq_some_iff.1 hj
  exact (hr.2 j q hq).1
/-- No two of the rows lie in one block. -/
def Apart {α : Type} (qs : List (α × Option Nat)) : Prop := qs.Pairwise fun a b => a.2 = none ∨ a.2 ≠ b.2
theorem tagP_own0 {e base g n c : Nat} {ok : Nat → Prop} {W : World} {qs : List (PV × Option Nat)} (h : (tagK kP).R e W base ok (.slice (some ⟨g, 0, none⟩) n c) qs) {i : Nat} (hi : i < n) {p d : Int} {xt : List T4} {t : Option Nat} (hx : qs.getD i (zP, none) = (⟨p, d, xt⟩, t)) :
    ∃ A' c', W.cell? ⟨g, i * 3, none⟩ = some (.int .i64 p) ∧ W.cell? ⟨g, i * 3 + 1, none⟩ = some (.int .i64 d) ∧ W.cell? ⟨g, i * 3 + 2, none⟩ = some (.slice A' xt.length c') ∧ kT.R 121 W base (fun k => ok k ∧ k ≠ g) (.slice A' xt.length c') xt ∧ (Value.slice A' xt.length c').ownBlock = t := by
  obtain ⟨hn, hnc, hC⟩ := Kd.R_reads' h
  subst hn
  obtain ⟨cs, hl, hM, hcell, _⟩ := Kd.R_elem h (zP, none) (i : Int) (by omega) (by omega)
  rw [Int.toNat_natCast] at hM
  rw [hx] at hM
  obtain ⟨⟨A', c', rfl, hR⟩, ht⟩ := hM
  have q0 := hcell 0 _ rfl
  have q1 := hcell 1 _ rfl
  have q2 := hcell 2 _ rfl
  rw [Int.toNat_natCast] at q0 q1 q2
  exact ⟨A', c', q0, q1, q2, hR, ht⟩
theorem tagP_form {e base n c : Nat} {ok : Nat → Prop} {W : World} {A : Option Addr} {qs : List (PV × Option Nat)} (h : (tagK kP).R e W base ok (.slice A n c) qs) (hn : 0 < n) : ∃ g, A = some ⟨g, 0, none⟩ ∧ base ≤ g ∧ g < W.heap.size := by
  obtain ⟨hl, _, _⟩ := Kd.R_reads' h
  obtain ⟨g, cap, hv, h1, h2, _⟩ := Kd.R_form h (by omega)
  injection hv with hA _ _
  exact ⟨g, hA, h1, h2⟩
/-- The blocks of the rows: within what is ok. -/
theorem tagP_mem {e base n c : Nat} {ok : Nat → Prop} {W : World} {A : Option Addr} {qs : List (PV × Option Nat)} (h : (tagK kP).R e W base ok (.slice A n c) qs) : ∀ q ∈ qs, ∀ k, q.2 = some k → ok k ∧ base ≤ k ∧ k < W.heap.size := by
  intro q hq k hk
  obtain ⟨i, hi, rfl⟩ := List.getElem_of_mem hq
  have hn := (Kd.R_reads' h).1
  obtain ⟨g, rfl, _⟩ := tagP_form h (by omega)
  have hx : qs.getD i (zP, none) = (⟨qs[i].1.p, qs[i].1.d, qs[i].1.ts⟩, qs[i].2) := by simp [List.getD_eq_getElem?_getD, hi]
  obtain ⟨A', c', _, _, _, hR, ht⟩ := tagP_own0 h (by omega) hx
  have := (Kd.R_bound hR).1 k (ht.trans hk)
  exact ⟨this.1.1, this.2.1, this.2.2.1⟩
/-- A list of polynomials, each in a row of its own, that a call makes. -/
def MakesT (E : Nat) (ps : List PV) (w : World) (e : Ending) (w' : World) : Prop := ∃ v qs, e = .returned v ∧ qs.map Prod.fst = ps ∧ Apart qs ∧ (tagK kP).R E w' w.heap.size (fun _ => True) v qs ∧ Below w.heap.size w w'
end Go.Proofs.Ytneknpamceipiaa
