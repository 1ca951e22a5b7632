/- Walks of the functions on polynomials, numbers and rows, of both sides; no condition. -/
import Derived.Test.YtimjhehagimcaaaYShelf
import Derived.Test.YtimjhehagimcaaaYKitR
import Derived.Test.YtimjhehagimcaaaYKitI
/- Rows of rows are sorted by their leads; no condition. -/
set_option linter.unusedVariables false
set_option linter.unusedSimpArgs false
namespace Go.Proofs.Ytimjhehagimcaaa
open Go.RowKit Go.Proofs.YtimjhehagimcaaaW.PrintWords
attribute [local go_sem] Later.cell Later.frozen Later.lt Later.lt_add Later.le Later.le_add Later.ne Later.ne' add_at
set_option maxRecDepth 100000 in
set_option maxHeartbeats 1000000 in
theorem indexFunc_s {w : World} {A : Option Addr} {n c : Nat} {r : List Int} (hC : kI.C w A n r) (hn : n ≤ 1000000) : Calls Try.prog 121 #[.slice A n c, .func (.func 122) #[] #[]] w (Same (.int .i64 (leadI r)) w) := by
  go_enter Try.func121, Try.ntmps121
  go_wp2
  go_loopg [8] n (fun k v w' => ∃ (i : Nat), i + k = n ∧ v = .int .i64 i ∧ w' = w ∧ ∀ j, j < i → r.getD j 0 = 0)
  case atStart => exact ⟨0, by omega, rfl, rfl, fun j hj => by omega⟩
  case round =>
    obtain ⟨i, hik, rfl, rfl, hs⟩ := hrel
    have HIK := Lib.hid hik
    have HS := Lib.hid hs
    clear hik hs
    by_cases hlt : i < n
    · obtain ⟨b, o, hA, q0⟩ := kI_at hC i hlt
      subst hA
      have hi0 : (0 : Int) ≤ i := by omega
      have hi1 : (i : Int) < n := by omega
      have hin : ((i : Int)).toNat = i := by omega
      have hlen := Lib.hid (Kd.C_len hC)
      by_cases hx : r.getD i 0 = 0
      · rw [hx] at q0
        have hlc := lead1_c 0
        have HX := Lib.hid hx
        clear hx
        go_wp2_with (go_at_call 122; (with_reducible refine call_same (hlc _) ?_))
        go_roundg (gk - 1)
        case measure => have := HIK.out; omega
        case rel =>
          refine ⟨i + 1, by have := HIK.out; omega, by go_num, rfl, fun j hj => ?_⟩
          by_cases h : j = i
          · rw [h]; exact HX.out
          · exact HS.out j (by omega)
      · have hl : leadI r = (i : Int) := by
          have := leadN_eq hx HS.out
          unfold leadI
          rw [this, if_pos (by rw [hlen.out]; exact hlt)]
        have hlc := lead1_c (r.getD i 0)
        have hne : (r.getD i 0 != 0) = true := by simpa using hx
        rw [hne] at hlc
        generalize r.getD i 0 = x at *
        go_wp2_with (go_at_call 122; (with_reducible refine call_same (hlc _) ?_))
        try rw [hl]
        exact bodyPost_ret (v := .int .i64 i) (by simp [results, Try.results121, go_sem]) rfl (.mk rfl)
    · have hie : i = n := by have := HIK.out; omega
      subst hie
      have hl : leadI r = -1 := by
        have hlen := Kd.C_len hC
        unfold leadI
        rw [if_neg]
        intro hc
        exact leadN_ne hc (HS.out _ (by omega))
      go_wp2
      try rw [hl]
      exact bodyPost_ret (v := .int .i64 (-1)) (by simp [results, Try.results121, go_sem]) rfl (.mk rfl)
theorem lead_s {w : World} {A : Option Addr} {n c : Nat} {r : List Int} (v : Int) (hC : kI.C w A n r) (hn : n ≤ 1000000) (hv : leadI r = v) : Calls Try.prog 92 #[.slice A n c] w (Same (.int .i64 v) w) := by
  subst hv
  go_enter Try.func92, Try.ntmps92
  go_wp2_with (go_at_call 121; (with_reducible refine call_same (indexFunc_s hC hn) ?_))
  exact bodyPost_ret (v := .int .i64 (leadI r)) (by simp [results, Try.results92, go_sem]) rfl (.mk rfl)
theorem leadI_bd (r : List Int) (h : r.length ≤ 1000000) : -1 ≤ leadI r ∧ leadI r ≤ 1000000 := by
  unfold leadI
  have := leadN_le r
  split <;> omega
set_option maxRecDepth 100000 in
theorem cmp_s {w : World} {A B : Option Addr} {n c m d : Nat} {r s : List Int} (hC : kI.C w A n r) (hn : n ≤ 1000000) (hD : kI.C w B m s) (hm : m ≤ 1000000) : Calls Try.prog 91 #[.slice A n c, .slice B m d] w (Same (.int .i64 (leadI r - leadI s)) w) := by
  have h1 := leadI_bd r (by rw [Kd.C_len hC]; exact hn)
  have h2 := leadI_bd s (by rw [Kd.C_len hD]; exact hm)
  have l1 := lead_s (c := c) (leadI r) hC hn rfl
  have l2 := lead_s (c := d) (leadI s) hD hm rfl
  generalize leadI r = x at *
  generalize leadI s = y at *
  go_enter Try.func91, Try.ntmps91
  go_wp2_with (first | (go_at_call 92; (with_reducible refine call_same l1 ?_)) | (go_at_call 92; (with_reducible refine call_same l2 ?_)))
  exact bodyPost_ret (v := .int .i64 (x - y)) (by simp [results, Try.results91, go_sem]) rfl (.mk rfl)
/-! ### the worlds of the sort -/
section
variable {α : Type} [Inhabited α] (enc : α → Value) (w : World) (g m : Nat) (d : Array α) (os : Array Obj)
theorem sort_other (k : Nat) (hk : k < w.heap.size) (hne : k ≠ g) : (Go.Proofs.sortWorld enc w g 0 m d os).heap[k]? = w.heap[k]? := by
  have hne' : ¬ g = k := fun h => hne h.symm
  show ((w.heap.modify g (Go.Sort.onCells (Go.Sort.putCells enc 0 d))) ++ os)[k]? = w.heap[k]?
  rw [Array.getElem?_append_left (by simpa using hk), Array.getElem?_modify, if_neg hne']
theorem sort_self {cur : Array Value} {e : TypeId} {fr : Nat × Nat} (h : w.heap[g]? = some (.cells cur e fr)) : (Go.Proofs.sortWorld enc w g 0 m d os).heap[g]? = some (.cells (Go.Sort.putCells enc 0 d cur) e fr) := by
  have hk : g < w.heap.size := (Array.getElem?_eq_some_iff.1 h).1
  show ((w.heap.modify g (Go.Sort.onCells (Go.Sort.putCells enc 0 d))) ++ os)[g]? = _
  rw [Array.getElem?_append_left (by simpa using hk), Array.getElem?_modify, if_pos rfl, h]
  rfl
end
/-! ### the elements: a header and the row that it reads -/
def Elt (w : World) (base g : Nat) : Type := { y : Value × List Int // kI.R 2 w base (fun k => k ≠ g) y.1 y.2 ∧ y.2.length ≤ 1000000 }
instance Elt.inst (w : World) (base g : Nat) : Inhabited (Elt w base g) := ⟨⟨(.slice none 0 0, []), Kd.R_nil _ _ _ _ _, by simp⟩⟩
def Elt.enc {w : World} {base g : Nat} (y : Elt w base g) : Value := y.1.1
def Elt.row {w : World} {base g : Nat} (y : Elt w base g) : List Int := y.1.2
def Elt.cf {w : World} {base g : Nat} (x y : Elt w base g) : Int := leadI x.row - leadI y.row
theorem elts_of {P : Value → List Int → Prop} : ∀ (inner : List Value) (out : List (List Int)), inner.length = out.length → (∀ (j : Nat) (p : List Int), out[j]? = some p → ∃ v, inner[j]? = some v ∧ P v p) → ∃ ds : List { y : Value × List Int // P y.1 y.2 }, ds.map (fun y => y.1.1) = inner ∧ ds.map (fun y => y.1.2) = out
  | [], [], _, _ => ⟨[], rfl, rfl⟩
  | v :: inner, r :: out, hl, h => by
    obtain ⟨ds, h1, h2⟩ := elts_of inner out (by simpa using hl) (fun j p hp => by simpa using h (j + 1) p (by simpa using hp))
    obtain ⟨v', hv, hP⟩ := h 0 r rfl
    obtain rfl : v = v' := by simpa using hv
    exact ⟨⟨(v, r), hP⟩ :: ds, by simp [h1], by simp [h2]⟩
  | [], _ :: _, hl, _ => by simp at hl
  | _ :: _, [], hl, _ => by simp at hl
theorem elt_cmp {w : World} {base g n : Nat} : Go.Proofs.CmpLays1 Try.prog 91 #[] (Elt.enc (w := w) (base := base) (g := g)) Elt.cf g 0 n w := by
  intro m os dk hs x y
  obtain ⟨⟨vx, rx⟩, hx, lx⟩ := x
  obtain ⟨⟨vy, ry⟩, hy, ly⟩ := y
  have hm : ∀ k, k ≠ g → k < w.heap.size → (Go.Proofs.sortWorld Elt.enc w g 0 m dk os).heap[k]? = w.heap[k]? := fun k hk hlt => sort_other _ _ _ _ _ _ k hlt hk
  have hx' := Kd.R_step hx hm
  have hy' := Kd.R_step hy hm
  obtain ⟨A, c, e1⟩ := Kd.R_slice hx'
  obtain ⟨B, d, e2⟩ := Kd.R_slice hy'
  have e1 : vx = .slice A rx.length c := e1
  have e2 : vy = .slice B ry.length d := e2
  subst e1
  subst e2
  refine (cmp_s (R_C hx') lx (R_C hy') ly).mono fun e w' ⟨h1, h2⟩ => ⟨h1, 0, #[], ?_⟩
  rw [h2]
  simp [World.drewN]
theorem elt_swo {w : World} {base g : Nat} : Go.Sort.SWO (Go.Proofs.ltOf (Elt.cf (w := w) (base := base) (g := g))) where
  irrefl x := decide_eq_false (by unfold Elt.cf; omega)
  trans x y z h1 h2 := by
    have h1 := of_decide_eq_true h1
    have h2 := of_decide_eq_true h2
    exact decide_eq_true (by unfold Elt.cf at *; omega)
  ntrans x y z h1 h2 := by
    have h1 := of_decide_eq_false h1
    have h2 := of_decide_eq_false h2
    exact decide_eq_false (by unfold Elt.cf at *; omega)
theorem put_take {α : Type} [Inhabited α] (enc : α → Value) (d : Array α) (cur : Array Value) (h : d.size ≤ cur.size) : (Go.Sort.putCells enc 0 d cur).toList.take d.size = d.toList.map enc := by
  refine List.ext_getElem (by simp [Go.Sort.putCells]; omega) fun i h1 h2 => ?_
  have hi : i < d.size := by simpa using h2
  simp [Go.Sort.putCells, hi]
end Go.Proofs.Ytimjhehagimcaaa
/- The walk of the program's reduce; no condition. -/
set_option linter.unusedVariables false
set_option linter.unusedSimpArgs false
namespace Go.Proofs.Ytimjhehagimcaaa
open Go.RowKit Go.Proofs.YtimjhehagimcaaaW.PrintWords
attribute [local go_sem] Later.cell Later.frozen Later.lt Later.lt_add Later.le Later.le_add Later.ne Later.ne' add_at
theorem call_made {P : Program} {f : FuncId} {args : Array Value} {W : World} {base : Nat} {Rr : Value → World → Prop} {R : Ending → World → Prop}
    (h : Calls P f args W (fun e w' => ∃ v, e = .returned v ∧ Rr v w' ∧ Below base W w')) (k : ∀ w' v, Rr v w' → Below base W w' → R (.returned v) w') : Calls P f args W R :=
  h.mono fun _ w' ⟨v, he, hr, hb⟩ => by subst he; exact k w' v hr hb
theorem take_fold_step {p : Int} {rows : List (List Int)} {i : Nat} (hi : i < rows.length) : (rows.take (i + 1)).foldl (takeL p) [] = takeL p ((rows.take i).foldl (takeL p) []) (rows.getD i []) := by
  rw [List.take_succ_eq_append_getElem hi, List.foldl_append, List.getD_eq_getElem?_getD, List.getElem?_eq_getElem hi]
  rfl
end Go.Proofs.Ytimjhehagimcaaa
/- The walk of the program's inverse of a matrix; no condition. -/
set_option linter.unusedVariables false
set_option linter.unusedSimpArgs false
namespace Go.Proofs.Ytimjhehagimcaaa
open Go.RowKit Go.Proofs.YtimjhehagimcaaaW.PrintWords
attribute [local go_sem] Later.cell Later.frozen Later.lt Later.lt_add Later.le Later.le_add Later.ne Later.ne' add_at
end Go.Proofs.Ytimjhehagimcaaa
/- The walks of InverseMatrix of both sides; no condition. -/
set_option linter.unusedVariables false
set_option linter.unusedSimpArgs false
namespace Go.Proofs.Ytimjhehagimcaaa
open Go.RowKit Go.Proofs.YtimjhehagimcaaaW.PrintWords
attribute [local go_sem] Later.cell Later.frozen Later.lt Later.lt_add Later.le Later.le_add Later.ne Later.ne' add_at
end Go.Proofs.Ytimjhehagimcaaa
