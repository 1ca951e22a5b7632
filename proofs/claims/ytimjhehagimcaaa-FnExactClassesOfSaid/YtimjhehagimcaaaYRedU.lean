/- The program's ReduceRows: rows in blocks of their own; no condition. -/
import Derived.Test.YtimjhehagimcaaaYRedT
set_option linter.unusedVariables false
set_option linter.unusedSimpArgs false
namespace Go.Proofs.Ytimjhehagimcaaa
open Go.RowKit Go.Proofs.YtimjhehagimcaaaW.PrintWords
attribute [local go_sem] Later.cell Later.frozen Later.lt Later.lt_add Later.le Later.le_add Later.ne Later.ne' add_at
def MakesLCT (rs : List (List Int)) (k : Int) (E : Nat) (w : World) (e : Ending) (w' : World) : Prop :=
  ∃ A c qs, e = .returned (.tuple #[.slice A rs.length c, .int .i64 k]) ∧ qs.map Prod.fst = rs ∧ Apart qs ∧ (tagK kL).R E w' w.heap.size (fun _ => True) (.slice A rs.length c) qs ∧ Below w.heap.size w w'
theorem MakesLCT_nil (k : Int) (E : Nat) (w w' : World) (h : Below w.heap.size w w') : MakesLCT [] k E w (.returned (.tuple #[.slice none 0 0, .int .i64 k])) w' := ⟨none, 0, [], rfl, rfl, .nil, Kd.R_nil _ _ _ _ _, h⟩
theorem makesLCT_LC {rs : List (List Int)} {k : Int} {E : Nat} {w w' : World} {e : Ending} (h : MakesLCT rs k E w e w') : MakesLC rs k E w e w' := by
  obtain ⟨A, c, qs, he, hq, _, hR, hb⟩ := h
  have := tag_R hR
  rw [hq] at this
  exact ⟨A, c, he, this, hb⟩
theorem to_makesLCT {rs : List (List Int)} {k0 : Int} {E : Nat} {P : Program} {f : FuncId} {args : Array Value} {V W : World} {R : Ending → World → Prop} (hW : Below V.heap.size V W)
    (h : Calls P f args W (MakesLCT rs k0 E W)) (k : ∀ W' A c qs, Below V.heap.size V W' → Below W.heap.size W W' → qs.map Prod.fst = rs → Apart qs → (tagK kL).R E W' W.heap.size (fun _ => True) (.slice A rs.length c) qs → R (.returned (.tuple #[.slice A rs.length c, .int .i64 k0])) W') : Calls P f args W R :=
  h.mono fun _ w' ⟨A, c, qs, he, hq, ha, hr, hb⟩ => by
    subst he
    exact k w' A c qs (hW.trans (hb.mono hW.size)) hb hq ha hr
theorem to_makesLC {rs : List (List Int)} {k0 : Int} {E : Nat} {P : Program} {f : FuncId} {args : Array Value} {V W : World} {R : Ending → World → Prop} (hW : Below V.heap.size V W)
    (h : Calls P f args W (MakesLC rs k0 E W)) (k : ∀ W' A c, Below V.heap.size V W' → Below W.heap.size W W' → rs.length ≤ c → kL.R E W' W.heap.size (fun _ => True) (.slice A rs.length c) rs → R (.returned (.tuple #[.slice A rs.length c, .int .i64 k0])) W') : Calls P f args W R :=
  h.mono fun _ w' ⟨A, c, he, hr, hb⟩ => by
    subst he
    exact k w' A c (hW.trans (hb.mono hW.size)) hb (Kd.R_reads' hr).2.1 hr
theorem getD_leR {rows : List (List Int)} {B : Nat} (h : ∀ x ∈ rows, x.length ≤ B) (i : Nat) : (rows.getD i []).length ≤ B := by
  by_cases hi : i < rows.length
  · rw [show rows.getD i [] = rows[i] by simp [List.getD_eq_getElem?_getD, hi]]
    exact h _ (List.getElem_mem hi)
  · rw [List.getD_eq_getElem?_getD, List.getElem?_eq_none (by omega)]
    simp
theorem redR_bd (p d : Int) (rows : List (List Int)) : (redR p d rows).1.length ≤ 100 ∧ ∀ x ∈ (redR p d rows).1, x.length ≤ 100 := by
  unfold redR
  cases h1 : primeB p with
  | false => simp
  | true =>
    cases h2 : inB d 0 100 with
    | false => simp
    | true =>
      cases h5 : (decide (rows.length ≤ 100) && rowsB p d rows) with
      | false => simp
      | true =>
        simp only [Bool.and_eq_true, decide_eq_true_eq] at h5
        have hok := rows_ok (prime_bd h1).1 h5.2
        have hd : 0 ≤ d ∧ d ≤ 100 := by simpa [inB] using h2
        obtain ⟨hred, hlen⟩ := echL_take (primeB_Z h1) hok rows.length
        rw [List.take_length] at hred hlen
        show (echL p rows).length ≤ 100 ∧ ∀ x ∈ echL p rows, x.length ≤ 100
        refine ⟨by omega, fun x hx => ?_⟩
        rw [(hred.led x hx).ok.len]
        omega
set_option maxRecDepth 100000 in
theorem implReduceRows_t (p d : Int) (A : Option Addr) (c : Nat) (rows : List (List Int)) (w : World) (hC : kL.C w A rows.length rows) (hn : rows.length ≤ 1048576) (hr : ∀ i, (rows.getD i []).length ≤ 1048576) :
    Calls Try.prog 11 #[.int .i64 p, .int .i64 d, .slice A rows.length c] w (MakesLCT (redR p d rows).1 (redR p d rows).2 55 w) := by
  have HC := Lib.hid hC
  have HR := Lib.hid hr
  have hP := fun W => isPrime_c p W
  clear hr
  cases h1 : primeB p with
  | false =>
    have e : redR p d rows = ([], 2) := by simp [redR, h1]
    rw [e]
    rw [h1] at hP
    clear h1 e
    go_enter Try.func11, Try.ntmps11
    go_wp2_with (first | (go_at_call 47; (first | (with_reducible refine call_later2 (hP _) ?_) | (with_reducible refine call_later (hP _) ?_)); intro x))
    refine bodyPost_ret (v := .tuple #[.slice none 0 0, .int .i64 2]) (by simp [results, Try.results11, go_sem]) rfl ?_
    exact MakesLCT_nil _ _ _ _ bq1
  | true =>
    rw [h1] at hP
    obtain ⟨hp, hp'⟩ := prime_bd h1
    cases h2 : inB d 0 100 with
    | false =>
      have e : redR p d rows = ([], 2) := by simp [redR, h2]
      rw [e]
      clear h1 e
      by_cases h3 : d < 0
      · clear h2
        go_enter Try.func11, Try.ntmps11
        go_wp2_with (first | (go_at_call 47; (first | (with_reducible refine call_later2 (hP _) ?_) | (with_reducible refine call_later (hP _) ?_)); intro x))
        refine bodyPost_ret (v := .tuple #[.slice none 0 0, .int .i64 2]) (by simp [results, Try.results11, go_sem]) rfl ?_
        exact MakesLCT_nil _ _ _ _ bq1
      · have h4 : 100 < d := by
          unfold inB at h2
          simp only [Bool.and_eq_false_iff, decide_eq_false_iff_not] at h2
          omega
        clear h2
        go_enter Try.func11, Try.ntmps11
        go_wp2_with (first | (go_at_call 47; (first | (with_reducible refine call_later2 (hP _) ?_) | (with_reducible refine call_later (hP _) ?_)); intro x))
        refine bodyPost_ret (v := .tuple #[.slice none 0 0, .int .i64 2]) (by simp [results, Try.results11, go_sem]) rfl ?_
        exact MakesLCT_nil _ _ _ _ bq1
    | true =>
      have hd : 0 ≤ d ∧ d ≤ 100 := by simpa [inB] using h2
      have h3 : ¬ d < 0 := by omega
      have h4 : ¬ 100 < d := by omega
      have hA := fun W hC => areRows_c p d A c rows W hp hp' hC hn HR.out
      cases h5 : (decide (rows.length ≤ 100) && rowsB p d rows) with
      | false =>
        have e : redR p d rows = ([], 2) := by unfold redR; rw [h5, Bool.and_false]; rfl
        rw [e]
        rw [h5] at hA
        clear h1 h2 e h5
        go_enter Try.func11, Try.ntmps11
        go_wp2_with (first | (go_at_call 47; (first | (with_reducible refine call_later2 (hP _) ?_) | (with_reducible refine call_later (hP _) ?_)); intro x) | (go_at_call 48; (first | (with_reducible refine call_later2 (hA _ (Kd.C_below HC.out bq1)) ?_) | (with_reducible refine call_later (hA _ (Kd.C_below HC.out bq1)) ?_)); intro x2))
        refine bodyPost_ret (v := .tuple #[.slice none 0 0, .int .i64 2]) (by simp [results, Try.results11, go_sem]) rfl ?_
        exact MakesLCT_nil _ _ _ _ bq1
      | true =>
        have e : redR p d rows = (echL p rows, 0) := by unfold redR; rw [h1, h2, h5]; rfl
        rw [e]
        rw [h5] at hA
        simp only [Bool.and_eq_true, decide_eq_true_eq] at h5
        have hE := Lib.hid (fun W hC => reduce_t (L := d.toNat) (c := c) (A := A) (n := rows.length) (w := W) (primeB_Z h1) (by omega) (by omega) (rows_ok hp h5.2) hC)
        clear h1 h2 e h5
        generalize echL p rows = rs at *
        go_enter Try.func11, Try.ntmps11
        go_wp2_with (first | (go_at_call 47; (first | (with_reducible refine call_later2 (hP _) ?_) | (with_reducible refine call_later (hP _) ?_)); intro x) | (go_at_call 48; (first | (with_reducible refine call_later2 (hA _ (Kd.C_below HC.out bq1)) ?_) | (with_reducible refine call_later (hA _ (Kd.C_below HC.out bq1)) ?_)); intro x2) | (go_at_call 49; (with_reducible refine to_makesTL (V := x2.W) (Below.refl _ _) (hE.out _ (Kd.C_below HC.out bq1)) ?_); intro W3 A3 c3 qs3 hb3 hb3' hq3 ha3 hR3))
        have zb : w.heap.size ≤ x2.W.heap.size := by have := x2.ok.size; omega
        refine bodyPost_ret (v := .tuple #[.slice A3 rs.length c3, .int .i64 0]) (by simp [results, Try.results11, go_sem]) rfl ?_
        exact ⟨_, _, _, rfl, hq3, ha3, Kd.R_lower hR3 zb, x2.ok.trans (hb3.mono zb)⟩
end Go.Proofs.Ytimjhehagimcaaa
