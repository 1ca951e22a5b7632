/- Lists of numbers compared by the library: slices.Compare leaves the world as it is; no condition. -/
import Derived.Test.YtimjhehagimcaaaYOrbX
set_option linter.unusedVariables false
set_option linter.unusedSimpArgs false
namespace Go.Proofs.Ytimjhehagimcaaa
open Go.RowKit Go.Proofs.YtimjhehagimcaaaW.PrintWords
attribute [local go_sem] Later.cell Later.frozen Later.lt Later.lt_add Later.le Later.le_add Later.ne Later.ne' add_at
theorem cmpI_more : ∀ {a b : List Int}, b.length < a.length → (∀ j, j < b.length → a.getD j 0 = b.getD j 0) → cmpI a b = 1
  | [], _, h, _ => by simp at h
  | _ :: _, [], _, _ => rfl
  | x :: a, y :: b, h, hs => by
    have h0 : x = y := hs 0 (by simp)
    rw [cmpI_cons, if_neg (by omega), if_neg (by omega)]
    exact cmpI_more (by simpa using h) fun j hj => hs (j + 1) (by simpa using hj)
theorem cmpI_fewer : ∀ {a b : List Int}, a.length < b.length → (∀ j, j < a.length → a.getD j 0 = b.getD j 0) → cmpI a b = -1
  | _, [], h, _ => by simp at h
  | [], _ :: _, _, _ => rfl
  | x :: a, y :: b, h, hs => by
    have h0 : x = y := hs 0 (by simp)
    rw [cmpI_cons, if_neg (by omega), if_neg (by omega)]
    exact cmpI_fewer (by simpa using h) fun j hj => hs (j + 1) (by simpa using hj)
set_option maxRecDepth 100000 in
theorem isNaN_s (x : Int) (w : World) : Calls Try.prog 154 #[.int .i64 x] w (Same (.bool false) w) := by
  go_enter Try.func154, Try.ntmps154
  go_wp2
  exact bodyPost_ret (v := .bool false) (by simp [results, Try.results154, go_sem]) rfl (.mk rfl)
def cmpZ (x y : Int) : Int := if x < y then -1 else if y < x then 1 else 0
set_option maxRecDepth 100000 in
theorem compare_s (x y : Int) (w : World) : Calls Try.prog 130 #[.int .i64 x, .int .i64 y] w (Same (.int .i64 (cmpZ x y)) w) := by
  by_cases h1 : x < y
  · have e : cmpZ x y = -1 := if_pos h1
    rw [e]
    have h1' : decide (x < y) = true := decide_eq_true h1
    go_enter Try.func130, Try.ntmps130
    go_wp2_with (go_at_call 154; (with_reducible refine call_same (isNaN_s _ _) ?_))
    exact bodyPost_ret (v := .int .i64 (-1)) (by simp [results, Try.results130, go_sem]) rfl (.mk rfl)
  · have h1' : decide (x < y) = false := decide_eq_false h1
    by_cases h2 : y < x
    · have e : cmpZ x y = 1 := (if_neg h1).trans (if_pos h2)
      rw [e]
      have h2' : decide (y < x) = true := decide_eq_true h2
      go_enter Try.func130, Try.ntmps130
      go_wp2_with (go_at_call 154; (with_reducible refine call_same (isNaN_s _ _) ?_))
      exact bodyPost_ret (v := .int .i64 1) (by simp [results, Try.results130, go_sem]) rfl (.mk rfl)
    · have e : cmpZ x y = 0 := (if_neg h1).trans (if_neg h2)
      rw [e]
      have h2' : decide (y < x) = false := decide_eq_false h2
      go_enter Try.func130, Try.ntmps130
      go_wp2_with (go_at_call 154; (with_reducible refine call_same (isNaN_s _ _) ?_))
      exact bodyPost_ret (v := .int .i64 0) (by simp [results, Try.results130, go_sem]) rfl (.mk rfl)
set_option maxRecDepth 100000 in
set_option maxHeartbeats 2000000 in
theorem sCompare_s {w : World} {A B : Option Addr} {n m c d : Nat} {xs ys : List Int} (hC : kI.C w A n xs) (hD : kI.C w B m ys) : Calls Try.prog 108 #[.slice A n c, .slice B m d] w (Same (.int .i64 (cmpI xs ys)) w) := by
  obtain rfl := Kd.C_len hC
  obtain rfl := Kd.C_len hD
  have hn : xs.length ≤ 9223372036854775807 := hC.2.1
  have hm : ys.length ≤ 9223372036854775807 := hD.2.1
  go_enter Try.func108, Try.ntmps108
  go_wp2
  go_loopg [11] xs.length (fun k v w' => ∃ (i : Nat), i + k = xs.length ∧ v = .int .i64 i ∧ w' = w ∧ i ≤ ys.length ∧ ∀ j, j < i → xs.getD j 0 = ys.getD j 0)
  case atStart => exact ⟨0, by omega, rfl, rfl, by omega, fun j hj => by omega⟩
  case round =>
    obtain ⟨i, hik, rfl, rfl, hiy, hs⟩ := hrel
    have HIK := Lib.hid hik
    have HS := Lib.hid hs
    clear hik hs
    by_cases hlt : i < xs.length
    · obtain ⟨b1, o1, hA, p0⟩ := kI_at hC i hlt
      subst hA
      have hi0 : (0 : Int) ≤ i := by omega
      have hi1 : (i : Int) < xs.length := by omega
      have hin : ((i : Int)).toNat = i := by omega
      by_cases hl2 : i < ys.length
      · obtain ⟨b2, o2, hB, q0⟩ := kI_at hD i hl2
        subst hB
        have hi2 : (i : Int) < ys.length := by omega
        have hi3 : ¬ (ys.length : Int) ≤ i := by omega
        have HAT := Lib.hid (cmpI_at hlt hl2 HS.out)
        generalize ht : xs.getD i 0 = x at *
        generalize hu : ys.getD i 0 = y at *
        have HT := Lib.hid ht
        have HU := Lib.hid hu
        clear ht hu
        by_cases h1 : x < y
        · have E := Lib.hid (show cmpI xs ys = -1 by rw [HAT.out (by omega), if_pos h1])
          have hc := compare_s x y
          rw [show cmpZ x y = -1 from if_pos h1] at hc
          go_wp2_with (go_at_call 130; (with_reducible refine call_same (hc _) ?_))
          rw [E.out]
          exact bodyPost_ret (v := .int .i64 (-1)) (by simp [results, Try.results108, go_sem]) rfl (.mk rfl)
        · by_cases h2 : y < x
          · have E := Lib.hid (show cmpI xs ys = 1 by rw [HAT.out (by omega), if_neg h1])
            have hc := compare_s x y
            rw [show cmpZ x y = 1 from (if_neg h1).trans (if_pos h2)] at hc
            go_wp2_with (go_at_call 130; (with_reducible refine call_same (hc _) ?_))
            rw [E.out]
            exact bodyPost_ret (v := .int .i64 1) (by simp [results, Try.results108, go_sem]) rfl (.mk rfl)
          · have hc := compare_s x y
            rw [show cmpZ x y = 0 from (if_neg h1).trans (if_neg h2)] at hc
            go_wp2_with (go_at_call 130; (with_reducible refine call_same (hc _) ?_))
            go_roundg (gk - 1)
            case measure => have := HIK.out; omega
            case rel =>
              refine ⟨i + 1, by have := HIK.out; omega, by go_num, rfl, hl2, fun j hj => ?_⟩
              by_cases g : j = i
              · rw [g, HT.out, HU.out]; omega
              · exact HS.out j (by omega)
      · have hi3 : (ys.length : Int) ≤ i := by omega
        have E := Lib.hid (cmpI_more (a := xs) (b := ys) (by omega) fun j hj => HS.out j (by omega))
        go_wp2
        rw [E.out]
        exact bodyPost_ret (v := .int .i64 1) (by simp [results, Try.results108, go_sem]) rfl (.mk rfl)
    · have hie : i = xs.length := by have := HIK.out; omega
      subst hie
      by_cases hl : xs.length < ys.length
      · have E := Lib.hid (cmpI_fewer hl HS.out)
        go_wp2
        rw [E.out]
        exact bodyPost_ret (v := .int .i64 (-1)) (by simp [results, Try.results108, go_sem]) rfl (.mk rfl)
      · have E := Lib.hid (show cmpI xs ys = 0 by
          have : xs = ys := by
            apply List.ext_getElem (by omega)
            intro j h1 h2
            have := HS.out j h1
            simpa [List.getD_eq_getElem?_getD, h1, h2] using this
          rw [this, cmpI_self])
        go_wp2
        rw [E.out]
        exact bodyPost_ret (v := .int .i64 0) (by simp [results, Try.results108, go_sem]) rfl (.mk rfl)
end Go.Proofs.Ytimjhehagimcaaa
