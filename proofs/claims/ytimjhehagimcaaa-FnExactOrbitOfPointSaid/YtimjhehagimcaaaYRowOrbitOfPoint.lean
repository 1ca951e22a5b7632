/- Proves that the law FnExactOrbitOfPoint answers true for every argument that fits a machine; the arguments read afterwards as before. -/
import Derived.Test.YtimjhehagimcaaaRows
import Derived.Test.YtimjhehagimcaaaYLawOrbitOfPoint
import Derived.Test.YtimjhehagimcaaaYOpenA
import Derived.Test.YtimjhehagimcaaaYOpenB
import Derived.Test.YtimjhehagimcaaaYRowOrbitOfPointf
import Derived.WalkKit
import Derived.ProofKit
import Derived.OpenShut
import Derived.ChangeOld
import Derived.Below
namespace Go.Proofs.Ytimjhehagimcaaa
open Go.ChangeShapes Go.WideShapes Go.ChangeAt Go.RowKit
set_option linter.unusedVariables false
set_option maxRecDepth 100000 in
theorem orbitOfPoint_lifted (os : Os) (started : os.Started) (H : Type) (enc : TypeId × Value → H) :
    ReturnsInHanded {} Try.checked os 6 .any (Rows.fnExactOrbitOfPointSpec.pre6 enc Try.prog Try.f6 Rows.fnExactOrbitOfPointRow.domain false) (Rows.fnExactOrbitOfPointSpec.post enc Try.prog Try.f6 false true false false) := by
  refine returnsInHanded_of_change_sized (C := Try.checked) own started (by as_aux_lemma => kernel_rfl) Try.func6
    (ChangeSpec.witness6 (enc := enc) (C := Try.checked) false ⟨#[], #[.agg #[.int .i64 0, .int .i64 0, .slice none 0 0], .slice none 0 0], []⟩ 8 (by kernel_rfl) (by kernel_rfl) (by kernel_rfl) (by kernel_rfl)) ?_
  intro W base args ds gs before hval0 hW hcnd hsz0 _
  have hval : ∀ (j : Nat) t v, Try.f6.params[j]? = some t → args[j]? = some v → Value.okWide Try.prog W .any base t v := hval0
  have hW' := hW
  obtain ⟨p, q, hA0, hV, rfl, hfz, hnd⟩ := hW
  have hA : DataW.TrodAll enc Try.prog W 0 (fun _ => true) true Try.f6.params.toList args.toList ds p := hA0
  rw [Try.params6] at hA hval
  obtain ⟨v0, vs0, d0, ds0, p0, q0, hargs, rfl, rfl, h0, r0⟩ := trodAll_cons hA
  obtain ⟨v1, vs1, d1, ds1, p1, q1, rfl, rfl, rfl, h1, r1⟩ := trodAll_cons r0
  obtain ⟨rfl, rfl, rfl⟩ := trodAll_nil r1
  obtain rfl : args = #[v0, v1] := by cases args; simp_all
  obtain ⟨rfl, rfl⟩ := trodVars_none hV
  have k0 := h0
  have lt0 : ∀ x ∈ p0, x.block < W.heap.size := by obtain ⟨m, hm⟩ := k0; exact DataW.trod_lt m _ _ _ hm
  have k1 := h1
  have lt1 : ∀ x ∈ p1, x.block < W.heap.size := by obtain ⟨m, hm⟩ := k1; exact DataW.trod_lt m _ _ _ hm
  obtain ⟨pr0, nv0, A0, c0, ts0, rfl, wp0, wn0, hl0, hC0, hn0⟩ := open_group Try.underlying54 (by kernel_rfl) (by kernel_rfl) rfl rfl rfl Try.underlying2 Try.underlying52 (by kernel_rfl) opensM (hval 0 54 v0 rfl rfl) h0
  obtain ⟨A1, c1, xs1, rfl, hl1, hC1, hn1⟩ := open_row (d0 := kI) 0 Try.underlying55 (by kernel_rfl) opensI (hval 1 55 v1 rfl rfl) h1
  clear hA0 hval0 hsz0
  refine (lawOrbitOfPoint_c pr0 nv0 A0 c0 ts0 A1 c1 xs1 W hC0 hn0 hC1 hn1).mono fun e W' ⟨he, bel⟩ => ?_
  subst he
  exact ⟨_, rfl, _, _, _, [], _, [], hW', trodAll_mk1 (shut_bool Try.underlying4 _), (trodAll_cons_mk (Below.trod laidOut (by as_aux_lemma => kernel_rfl) (of_decide_eq_true (by as_aux_lemma => kernel_rfl)) k0 bel lt0) (trodAll_cons_mk (Below.trod laidOut (by as_aux_lemma => kernel_rfl) (of_decide_eq_true (by as_aux_lemma => kernel_rfl)) k1 bel lt1) trodAll_mk0)), rfl, bel.frame _, fun h => by cases h⟩
set_option maxRecDepth 100000 in
theorem orbitOfPoint_closed : joinedFacts Try.pinned.checked.prog 6 Try.f6 Rows.fnExactOrbitOfPointSpec Rows.fnExactOrbitOfPointRow = true := by
  unfold joinedFacts
  exact and_mk (and_mk (and_mk (and_mk (and_mk (and_mk (and_mk (and_mk (and_mk (and_mk (and_mk (and_mk (and_mk (and_mk (and_mk (and_mk (and_mk (and_mk (and_mk (and_mk (and_mk (and_mk (and_mk (and_mk (and_mk (and_mk (and_mk (and_mk (and_mk (and_mk (and_mk (by as_aux_lemma => kernel_rfl) laidOut) pf_mapsRowed) (by as_aux_lemma => kernel_rfl)) (by as_aux_lemma => kernel_rfl)) (by as_aux_lemma => kernel_rfl)) pf_stops) (by as_aux_lemma => kernel_rfl)) pf_stopKnobs) orbitOfPoint_inPlace) orbitOfPoint_unfollowed) orbitOfPoint_recurses) orbitOfPoint_named) (by as_aux_lemma => kernel_rfl)) (by as_aux_lemma => kernel_rfl)) (by as_aux_lemma => kernel_rfl)) (by as_aux_lemma => kernel_rfl)) (by as_aux_lemma => kernel_rfl)) (by as_aux_lemma => kernel_rfl)) (by as_aux_lemma => kernel_rfl)) (by as_aux_lemma => kernel_rfl)) (by as_aux_lemma => kernel_rfl)) (by as_aux_lemma => kernel_rfl)) (by as_aux_lemma => kernel_rfl)) pf_stopsHeard) head_mayEnter) (by rw [show Try.pinned.checked.prog = Try.prog from rfl, head_liftsFinal]; rfl)) (by rw [show Try.pinned.checked.prog = Try.prog from rfl, head_make]; rfl)) (by as_aux_lemma => kernel_rfl)) (by as_aux_lemma => kernel_rfl)) (by as_aux_lemma => kernel_rfl)) (by as_aux_lemma => kernel_rfl)
theorem orbitOfPoint_over : Rows.fnExactOrbitOfPointRow.holds Try.pinned (OpenSpec.ofChange Rows.fnExactOrbitOfPointSpec) :=
  OpenClaim.holds_of_wide 6 Try.f6 rfl rfl rfl rfl rfl rfl rfl ⟨rfl, rfl, rfl, rfl, rfl⟩ rfl rfl rfl rfl rfl (by as_aux_lemma => kernel_rfl) Try.func6 orbitOfPoint_closed
    (of_decide_eq_true (by as_aux_lemma => kernel_rfl)) (by unfold Func.isWrapper; first | (rw [if_pos (by decide +kernel)]; kernel_rfl) | (rw [if_neg (by decide +kernel)]; exact ⟨rfl, rfl⟩))
    (fun os started H enc _ => orbitOfPoint_lifted os started H enc)
theorem fnExactOrbitOfPoint_holds : Rows.FnExactOrbitOfPointSaid := orbitOfPoint_over
#print axioms fnExactOrbitOfPoint_holds
end Go.Proofs.Ytimjhehagimcaaa
