/- Lists whose rows lie in blocks of their own: kinds with tags; no condition. -/
import Derived.Test.YtimjhehagimcaaaYKitC
set_option linter.unusedVariables false
set_option linter.unusedSimpArgs false
namespace Go.Proofs.Ytimjhehagimcaaa
open Go.RowKit Go.Proofs.YtimjhehagimcaaaW.PrintWords
attribute [local go_sem] Later.cell Later.frozen Later.lt Later.lt_add Later.le Later.le_add Later.ne Later.ne' add_at
/-- A kind whose elements also tell in which block the row of their last cell lies. -/
def tagK {α : Type} (d : Kd α) : Kd (α × Option Nat) where
  sz := d.sz
  E := d.E
  K := fun w x cs => d.K w x.1 cs ∧ (cs.getLast?.bind Value.ownBlock) = x.2
  M := fun w base ok x cs => d.M w base ok x.1 cs ∧ (cs.getLast?.bind Value.ownBlock) = x.2
  K_len := fun h => d.K_len h.1
  K_one := fun h => d.K_one h.1
  K_below := fun hb h => ⟨d.K_below hb h.1, h.2⟩
  K_of_M := fun h => ⟨d.K_of_M h.1, h.2⟩
  M_mono := fun hok h => ⟨d.M_mono hok h.1, h.2⟩
  M_bound := fun h => ⟨d.M_bound h.1, h.2⟩
  M_move := fun hm h => ⟨d.M_move hm h.1, h.2⟩
  M_lower := fun hb h => ⟨d.M_lower hb h.1, h.2⟩
theorem tag_R {α : Type} {d : Kd α} {e base : Nat} {ok : Nat → Prop} {w : World} {v : Value} {qs : List (α × Option Nat)} (h : (tagK d).R e w base ok v qs) : d.R e w base ok v (qs.map Prod.fst) := by
  obtain ⟨h0, inner, ho, hr⟩ := h
  refine ⟨h0, inner, by rw [List.length_map]; exact ho, by rw [List.length_map]; exact hr.1, fun j p hj => ?_⟩
  rw [List.getElem?_map] at hj
  obtain ⟨q, hq, rfl⟩ := Option.map_eq_some_iff.1 hj
  exact (hr.2 j q hq).1
/-- No two of the rows lie in one block. -/
def Apart {α : Type} (qs : List (α × Option Nat)) : Prop := qs.Pairwise fun a b => a.2 = none ∨ a.2 ≠ b.2
theorem apart_snoc {α : Type} {qs : List (α × Option Nat)} {x : α × Option Nat} (h : Apart qs) (hx : ∀ q ∈ qs, q.2 = none ∨ q.2 ≠ x.2) : Apart (qs ++ [x]) :=
  List.pairwise_append.2 ⟨h, List.pairwise_singleton _ _, fun a ha b hb => by
    rw [List.mem_singleton] at hb
    subst hb
    exact hx a ha⟩
theorem R_zeroT {α : Type} (d : Kd α) {e g base : Nat} {W : World} (hg : W.heap[g]? = some (.cells #[] e (0, 0))) (hb : base ≤ g) : (tagK d).R e W base (fun _ => True) (.slice (some ⟨g, 0, none⟩) 0 0) [] := R_zero2 (tagK d) (fun _ => True) trivial hg hb
end Go.Proofs.Ytimjhehagimcaaa
