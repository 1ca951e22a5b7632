/- Two closed facts on the translation's head (mayEnter, liftsFinal), by its first words; no condition. -/
import Derived.Test.YtimjhehagimcaaaRows
import Derived.KernelRfl
import Derived.ProofKit
namespace Go.Proofs.Ytimjhehagimcaaa
def headA : List Char := [Char.ofNat 104, Char.ofNat 97, Char.ofNat 114, Char.ofNat 110, Char.ofNat 101, Char.ofNat 115, Char.ofNat 115]
def headB : List Char := [Char.ofNat 57, Char.ofNat 100, Char.ofNat 97, Char.ofNat 97, Char.ofNat 54, Char.ofNat 49, Char.ofNat 48, Char.ofNat 56, Char.ofNat 49, Char.ofNat 100, Char.ofNat 50, Char.ofNat 100, Char.ofNat 48, Char.ofNat 55, Char.ofNat 98, Char.ofNat 52, Char.ofNat 55, Char.ofNat 54, Char.ofNat 57, Char.ofNat 54, Char.ofNat 52, Char.ofNat 50, Char.ofNat 56, Char.ofNat 102, Char.ofNat 57, Char.ofNat 98, Char.ofNat 101, Char.ofNat 99, Char.ofNat 48, Char.ofNat 102, Char.ofNat 99, Char.ofNat 54, Char.ofNat 56, Char.ofNat 57, Char.ofNat 100, Char.ofNat 56, Char.ofNat 98, Char.ofNat 48, Char.ofNat 57, Char.ofNat 55, Char.ofNat 56, Char.ofNat 101, Char.ofNat 49, Char.ofNat 101, Char.ofNat 101, Char.ofNat 57, Char.ofNat 101, Char.ofNat 48, Char.ofNat 98, Char.ofNat 53, Char.ofNat 101, Char.ofNat 99, Char.ofNat 55, Char.ofNat 49, Char.ofNat 97, Char.ofNat 51, Char.ofNat 102, Char.ofNat 48, Char.ofNat 54, Char.ofNat 57, Char.ofNat 99, Char.ofNat 54, Char.ofNat 52, Char.ofNat 52]
def headC : List Char := [Char.ofNat 99, Char.ofNat 117, Char.ofNat 116]
def headR : List Char := [Char.ofNat 97, Char.ofNat 116, Char.ofNat 32, Char.ofNat 108, Char.ofNat 111, Char.ofNat 111, Char.ofNat 112, Char.ofNat 46, Char.ofNat 101, Char.ofNat 120, Char.ofNat 97, Char.ofNat 109, Char.ofNat 112, Char.ofNat 108, Char.ofNat 101, Char.ofNat 47, Char.ofNat 103, Char.ofNat 48, Char.ofNat 49, Char.ofNat 50, Char.ofNat 56, Char.ofNat 53, Char.ofNat 47, Char.ofNat 108, Char.ofNat 97, Char.ofNat 119, Char.ofNat 115, Char.ofNat 46, Char.ofNat 70, Char.ofNat 110, Char.ofNat 69, Char.ofNat 120, Char.ofNat 97, Char.ofNat 99, Char.ofNat 116, Char.ofNat 82, Char.ofNat 101, Char.ofNat 100, Char.ofNat 117, Char.ofNat 99,
  Char.ofNat 101, Char.ofNat 82, Char.ofNat 111, Char.ofNat 119, Char.ofNat 115, Char.ofNat 32, Char.ofNat 108, Char.ofNat 111, Char.ofNat 111, Char.ofNat 112, Char.ofNat 46, Char.ofNat 101, Char.ofNat 120, Char.ofNat 97, Char.ofNat 109, Char.ofNat 112, Char.ofNat 108, Char.ofNat 101, Char.ofNat 47, Char.ofNat 103, Char.ofNat 48, Char.ofNat 49, Char.ofNat 50, Char.ofNat 56, Char.ofNat 53, Char.ofNat 47, Char.ofNat 108, Char.ofNat 97, Char.ofNat 119, Char.ofNat 115, Char.ofNat 46, Char.ofNat 70, Char.ofNat 110, Char.ofNat 69, Char.ofNat 120, Char.ofNat 97, Char.ofNat 99, Char.ofNat 116, Char.ofNat 78, Char.ofNat 97,
  Char.ofNat 109, Char.ofNat 101, Char.ofNat 100, Char.ofNat 71, Char.ofNat 114, Char.ofNat 111, Char.ofNat 117, Char.ofNat 112, Char.ofNat 32, Char.ofNat 108, Char.ofNat 111, Char.ofNat 111, Char.ofNat 112, Char.ofNat 46, Char.ofNat 101, Char.ofNat 120, Char.ofNat 97, Char.ofNat 109, Char.ofNat 112, Char.ofNat 108, Char.ofNat 101, Char.ofNat 47, Char.ofNat 103, Char.ofNat 48, Char.ofNat 49, Char.ofNat 50, Char.ofNat 56, Char.ofNat 53, Char.ofNat 47, Char.ofNat 108, Char.ofNat 97, Char.ofNat 119, Char.ofNat 115, Char.ofNat 46, Char.ofNat 70, Char.ofNat 110, Char.ofNat 77, Char.ofNat 97, Char.ofNat 116, Char.ofNat 114,
  Char.ofNat 105, Char.ofNat 99, Char.ofNat 101, Char.ofNat 115, Char.ofNat 32, Char.ofNat 108, Char.ofNat 111, Char.ofNat 111, Char.ofNat 112, Char.ofNat 46, Char.ofNat 101, Char.ofNat 120, Char.ofNat 97, Char.ofNat 109, Char.ofNat 112, Char.ofNat 108, Char.ofNat 101, Char.ofNat 47, Char.ofNat 103, Char.ofNat 48, Char.ofNat 49, Char.ofNat 50, Char.ofNat 56, Char.ofNat 53, Char.ofNat 47, Char.ofNat 108, Char.ofNat 97, Char.ofNat 119, Char.ofNat 115, Char.ofNat 46, Char.ofNat 70, Char.ofNat 110, Char.ofNat 69, Char.ofNat 120, Char.ofNat 97, Char.ofNat 99, Char.ofNat 116, Char.ofNat 79, Char.ofNat 114, Char.ofNat 98,
  Char.ofNat 105, Char.ofNat 116, Char.ofNat 79, Char.ofNat 102, Char.ofNat 80, Char.ofNat 111, Char.ofNat 105, Char.ofNat 110, Char.ofNat 116, Char.ofNat 32, Char.ofNat 108, Char.ofNat 111, Char.ofNat 111, Char.ofNat 112, Char.ofNat 46, Char.ofNat 101, Char.ofNat 120, Char.ofNat 97, Char.ofNat 109, Char.ofNat 112, Char.ofNat 108, Char.ofNat 101, Char.ofNat 47, Char.ofNat 103, Char.ofNat 48, Char.ofNat 49, Char.ofNat 50, Char.ofNat 56, Char.ofNat 53, Char.ofNat 47, Char.ofNat 108, Char.ofNat 97, Char.ofNat 119, Char.ofNat 115, Char.ofNat 46, Char.ofNat 70, Char.ofNat 110, Char.ofNat 69, Char.ofNat 120, Char.ofNat 97,
  Char.ofNat 99, Char.ofNat 116, Char.ofNat 67, Char.ofNat 108, Char.ofNat 97, Char.ofNat 115, Char.ofNat 115, Char.ofNat 101, Char.ofNat 115, Char.ofNat 79, Char.ofNat 102]
theorem wordsSigns_word : ∀ (w r : List Char), w.all (fun c => !(c == Char.ofNat 32)) = true → wordsSigns (w ++ Char.ofNat 32 :: r) = w :: wordsSigns r
  | [], r, _ => rfl
  | c :: w, r, h => by
    simp only [List.all_cons, Bool.and_eq_true] at h
    have ih := wordsSigns_word w r h.2
    have hc : c ≠ Char.ofNat 32 := by
      have h1 := h.1
      intro e
      rw [e] at h1
      simp at h1
    have step : wordsSigns (c :: (w ++ Char.ofNat 32 :: r)) = match wordsSigns (w ++ Char.ofNat 32 :: r) with | w :: ws => (c :: w) :: ws | [] => [[c]] := by
      rw [wordsSigns]
      · rfl
      · exact fun h => hc h
    rw [List.cons_append, step, ih]
theorem head_is : Try.prog.initOrder = String.ofList (headA ++ Char.ofNat 32 :: (headB ++ Char.ofNat 32 :: (headC ++ Char.ofNat 32 :: headR))) := by kernel_rfl
theorem head_words : wordsSigns Try.prog.initOrder.toList = headA :: headB :: headC :: wordsSigns headR := by
  rw [head_is, String.toList_ofList, wordsSigns_word headA _ (by decide +kernel), wordsSigns_word headB _ (by decide +kernel), wordsSigns_word headC _ (by decide +kernel)]
theorem head_behind : behindMainWord (wordsSigns Try.prog.initOrder.toList) = headC :: wordsSigns headR := by
  rw [head_words]
  show (if ((headA == "harness".toList || headA == "ownmain".toList) && isSumSigns headB) = true then headC :: wordsSigns headR else headA :: headB :: headC :: wordsSigns headR) = _
  rw [if_pos (by decide +kernel)]
theorem head_strip : stripLifts liftWords (headC :: wordsSigns headR) = ([], headC :: wordsSigns headR) := by
  have key : ∀ os : List String, os.all (fun o => !(headC == o.toList)) = true → stripLifts os (headC :: wordsSigns headR) = ([], headC :: wordsSigns headR) := by
    intro os
    induction os with
    | nil => intro _; rfl
    | cons o os ih =>
      intro h
      simp only [List.all_cons, Bool.and_eq_true] at h
      have h1 : (headC == o.toList) = false := by simpa using h.1
      rw [stripLifts, h1]
      exact ih h.2
  exact key liftWords (by decide +kernel)
theorem head_laysLater : Try.prog.laysLater = false := by kernel_rfl
theorem head_bearsReflect : Try.prog.bearsReflect = false := by kernel_rfl
theorem head_doorFits : Try.prog.doorFits [] = true := by kernel_rfl
theorem mayEnter_of {P : Program} {C : List Char} {W : List (List Char)} (h : behindMainWord (wordsSigns P.initOrder.toList) = C :: W) (hs : stripLifts liftWords (C :: W) = ([], C :: W)) (hc : (C == "cut".toList) = true)
    (h2 : P.laysLater = false) (h3 : P.bearsReflect = false) (h4 : P.doorFits [] = true) : P.mayEnter = true := by
  unfold Program.mayEnter
  rw [h]
  have e2 : (some C == some "cut".toList) = true := by simpa using hc
  simp only [hs, h2, h3, h4, List.head?_cons, e2]
  simp
theorem liftsFinal_of {P : Program} {C : List Char} {W : List (List Char)} (h : behindMainWord (wordsSigns P.initOrder.toList) = C :: W) (hs : stripLifts liftWords (C :: W) = ([], C :: W)) (hc : (C == "carried".toList) = false) : P.liftsFinal = false := by
  unfold Program.liftsFinal Program.headLifts
  rw [h]
  have e2 : (some C == some "carried".toList) = false := by
    rw [← Bool.not_eq_true]
    intro g
    rw [← Bool.not_eq_true] at hc
    exact hc (by simpa using g)
  simp only [hs, List.head?_cons, e2]
  simp
theorem make_of {P : Program} {C : List Char} {W : List (List Char)} (h : behindMainWord (wordsSigns P.initOrder.toList) = C :: W) (hg : (C == "gc".toList || C == "spec".toList) = false) (hc : (C == "cut".toList) = true) : P.make = some .cut := by
  unfold Program.make
  rw [h]
  simp only [hg, hc, Bool.true_or, if_true, Bool.false_eq_true, if_false]
theorem head_mayEnter : Try.prog.mayEnter = true := mayEnter_of head_behind head_strip (by decide +kernel) head_laysLater head_bearsReflect head_doorFits
theorem head_liftsFinal : Try.prog.liftsFinal = false := liftsFinal_of head_behind head_strip (by decide +kernel)
theorem head_make : Try.prog.make = some .cut := make_of head_behind (by decide +kernel) (by decide +kernel)
end Go.Proofs.Ytimjhehagimcaaa
