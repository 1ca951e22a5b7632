/- The walk of the reduced list of rows; no condition. -/
import Derived.Test.YtafdakamibpjaaaEch3
import Derived.Test.YtafdakamibpjaaaKitA
set_option linter.unusedVariables false
set_option linter.unusedSimpArgs false
namespace Go.Proofs.Ytafdakamibpjaaa
open Go.RowKit Go.Proofs.YtafdakamibpjaaaW.PrintWords
attribute [local go_sem] Later.cell Later.frozen Later.lt Later.lt_add Later.le Later.le_add Later.ne Later.ne' add_at
open PFnExactIsMatrix

abbrev kL : Kd (List Int) := Kd.slice 2 kI
theorem infoL : (Try.prog.info? 75).map (fun i => (i.zero, i.size, i.bytes)) = some (some (.slice none 0 0), 1, 24) := by kernel_rfl
/-- A row of rows that is read. -/
theorem kL_at {w : World} {A : Option Addr} {n : Nat} {xs : List (List Int)} (h : kL.C w A n xs) (i : Nat) (hi : i < n) :
    ∃ b o B c, A = some ⟨b, o, none⟩ ∧ w.cell? ⟨b, o + i, none⟩ = some (.slice B (xs.getD i []).length c) ∧ (xs.getD i []).length ≤ c ∧ kI.C w B (xs.getD i []).length (xs.getD i []) := by
  obtain ⟨b, o, c, hA, hK, hc⟩ := C_at h (by decide) i hi []
  obtain ⟨B, cc, rfl, hl, hC⟩ := hK
  refine ⟨b, o, B, cc, hA, ?_, hl, hC⟩
  have := hc 0 _ rfl
  have e : o + i * kL.sz + 0 = o + i := by show o + i * 1 + 0 = _; omega
  rwa [e] at this

theorem lead_g {w : World} {A : Option Addr} {n c : Nat} {r : List Int} (v : Int) (hC : kI.C w A n r) (hc : n ≤ c) (hn : n ≤ 1000000) (hv : leadI r = v) : Calls Try.prog 130 #[.slice A n c] w (Gives (.int .i64 v) w) := by
  obtain rfl := Kd.C_len hC
  subst hv
  exact (lead_c r A c w hC hc hn).mono fun e w' ⟨h1, h2⟩ => ⟨h1, h2.below⟩
theorem inverse_g {p x : Int} (hp : primeZ p) (hx : 0 < x) (hx' : x < p) (w : World) : Calls Try.prog 132 #[.int .i64 p, .int .i64 x] w (Gives (.int .i64 (invZ p x)) w) :=
  (inverse_c hp hx hx' w).mono fun e w' ⟨h1, h2⟩ => ⟨h1, h2.below⟩
theorem less_g {p : Int} {L : Nat} (hp : 2 ≤ p) (hp' : p ≤ 13) {row other : List Int} (hr : RowOk p L row) (ho : RowOk p L other) {q : Int} (hq : 0 ≤ q) (hq' : q < p) (hL : L ≤ 1000000) {A B : Option Addr} {n m c d : Nat} {w : World} (hC : kI.C w A n row) (hc : n ≤ c) (hD : kI.C w B m other) (hd : m ≤ d) :
    Calls Try.prog 133 #[.int .i64 p, .slice A n c, .slice B m d, .int .i64 q] w (Makes kI 2 (lessL p row other q) w) := by
  obtain rfl := Kd.C_len hC
  obtain rfl := Kd.C_len hD
  exact less_c hp hp' hr ho hq hq' hL A B c d w hC hc hD hd
theorem rest_g {p : Int} {L : Nat} (hp : 2 ≤ p) (hp' : p ≤ 13) (hL : L ≤ 1000000) {list : List (List Int)} (hn : list.length ≤ 1000000) (hl : ∀ r ∈ list, Led p L r) {row : List Int} (hr : RowOk p L row) {A B : Option Addr} {n m c d : Nat} {w : World} (hC : kL.C w A n list) (hc : n ≤ c) (hD : kI.C w B m row) (hd : m ≤ d) :
    Calls Try.prog 131 #[.int .i64 p, .slice A n c, .slice B m d] w (Makes kI 2 (restL p list row) w) := by
  obtain rfl := Kd.C_len hC
  obtain rfl := Kd.C_len hD
  exact rest_c hp hp' hL hn hl hr A B c d w hC hc hD hd

theorem echL_take {p : Int} {L : Nat} (hp : primeZ p) {rows : List (List Int)} (hr : ∀ r ∈ rows, RowOk p L r) : ∀ i, Red p L (echL p (rows.take i)) ∧ (echL p (rows.take i)).length ≤ i
  | 0 => ⟨⟨fun r hr => by simp [echL] at hr, List.Pairwise.nil⟩, by simp [echL]⟩
  | i + 1 => by
    obtain ⟨h1, h2⟩ := echL_take hp hr i
    by_cases hi : i < rows.length
    · have e : echL p (rows.take (i + 1)) = echStep p (echL p (rows.take i)) rows[i] := by
        rw [echL, List.take_succ_eq_append_getElem hi, List.foldl_append]
        rfl
      rw [e]
      refine ⟨echStep_red hp h1 (hr _ (List.getElem_mem hi)), ?_⟩
      unfold echStep
      dsimp only
      split
      · rw [putL_length]; omega
      · omega
    · rw [List.take_of_length_le (by omega)] at h1 h2 ⊢
      exact ⟨h1, by omega⟩
theorem echL_step {p : Int} {rows : List (List Int)} {i : Nat} (hi : i < rows.length) : echL p (rows.take (i + 1)) = echStep p (echL p (rows.take i)) (rows.getD i []) := by
  rw [echL, List.take_succ_eq_append_getElem hi, List.foldl_append, List.getD_eq_getElem?_getD, List.getElem?_eq_getElem hi]
  rfl
theorem put_len (p : Int) (own : List Int) : ∀ (l : List (List Int)) (s : List (List Int) × Bool), (l.foldl (putStep p own) s).1.length ≤ s.1.length + 2 * l.length
  | [], s => by simp
  | r :: l, s => by
    rw [List.foldl_cons]
    have h1 := put_len p own l (putStep p own s r)
    have h2 : (putStep p own s r).1.length ≤ s.1.length + 2 := by
      unfold putStep
      split <;> simp
    rw [List.length_cons]
    omega
def putAt (p : Int) (own : List Int) (out : List (List Int)) (j : Nat) : List (List Int) × Bool := (out.take j).foldl (putStep p own) ([], false)
theorem putAt_step (p : Int) (own : List Int) (out : List (List Int)) {j : Nat} (hj : j < out.length) : putAt p own out (j + 1) = putStep p own (putAt p own out j) (out.getD j []) := by
  unfold putAt
  rw [List.take_succ_eq_append_getElem hj, List.foldl_append, List.getD_eq_getElem?_getD, List.getElem?_eq_getElem hj]
  rfl
theorem putAt_len (p : Int) (own : List Int) (out : List (List Int)) (j : Nat) : (putAt p own out j).1.length ≤ 2 * out.length := by
  have h1 := put_len p own (out.take j) ([], false)
  have h2 := List.length_take_le' j out
  unfold putAt
  simp only [List.length_nil] at h1
  omega
theorem putL_at (p : Int) (own : List Int) (out : List (List Int)) : putL p own out = if (putAt p own out out.length).2 = true then (putAt p own out out.length).1 else (putAt p own out out.length).1 ++ [own] := by
  unfold putL putAt
  rw [List.take_length]

/-- Rows of numbers are not the row of rows. -/
theorem num_apart {W : World} {b b' : Nat} {ok ok' : Nat → Prop} {v u : Value} {xs : List (List Int)} {ys : List Int} (hv : kL.R 75 W b ok v xs) (hu : kI.R 2 W b' ok' u ys) : kI.R 2 W b' (fun k => some k ≠ v.ownBlock) u ys := by
  obtain ⟨_, inner, ho, _⟩ := hv
  refine Kd.R_mono (Kd.R_bound hu) fun k ⟨_, _, _, q, hq, cells, hc⟩ he => ?_
  obtain ⟨cells', hc'⟩ := own_typed ho k he.symm
  rw [hc] at hc'
  injection hc' with hc'
  injection hc' with _ h3 _
  have h2 : q = 2 := by simpa [Kd.int, Kd.scalar] using hq
  exact absurd (h3.symm.trans h2) (by decide)
theorem num_after {W w1 : World} {b b' : Nat} {ok ok' : Nat → Prop} {v u : Value} {xs : List (List Int)} {ys : List Int} (hv : kL.R 75 W b ok v xs) (hu : kI.R 2 W b' ok' u ys) (hg : W.grownBy w1 v.ownBlock) : kI.R 2 w1 b' (fun _ => True) u ys :=
  Kd.R_mono (Kd.R_grown (num_apart hv hu) hg fun k hk => hk) fun _ _ => trivial

theorem kI_cell {W : World} {e base g n cap : Nat} {ok : Nat → Prop} {xs : List Int} (h : kI.R e W base ok (.slice (some ⟨g, 0, none⟩) n cap) xs) (i : Nat) (hi : i < n) : W.cell? ⟨g, i, none⟩ = some (.int .i64 (xs.getD i 0)) ∧ W.frozen? ⟨g, i, none⟩ = false :=
  Kd.R_celln 0 h (i : Int) (by omega) (by omega)
theorem kI_set {W : World} {e base g n cap : Nat} {ok : Nat → Prop} {xs : List Int} (h : kI.R e W base ok (.slice (some ⟨g, 0, none⟩) n cap) xs) (i : Nat) (x : Int) : kI.R e (W.setCell ⟨g, i, none⟩ (.int .i64 x)) base ok (.slice (some ⟨g, 0, none⟩) n cap) (xs.set i x) :=
  Kd.R_putn h (i : Int) x
theorem R_C {α : Type} {d : Kd α} {w : World} {e base n c : Nat} {ok : Nat → Prop} {A : Option Addr} {xs : List α} (h : d.R e w base ok (.slice A n c) xs) : d.C w A n xs := by
  obtain ⟨rfl, _, hC⟩ := Kd.R_reads' h
  exact hC
theorem mix_len (p : Int) (own : List Int) (iv : Int) (j : Nat) (hj : j ≤ own.length) : ((scaleL p own iv).take j ++ own.drop j).length = own.length := by
  simp [scaleL]
  omega
theorem mix_get (p : Int) (own : List Int) (iv : Int) (j : Nat) (hj : j < own.length) : ((scaleL p own iv).take j ++ own.drop j).getD j 0 = own.getD j 0 := by
  rw [List.getD_eq_getElem?_getD, List.getD_eq_getElem?_getD, List.getElem?_append_right (by simp [scaleL]; exact Nat.min_le_left _ _)]
  rw [show ((scaleL p own iv).take j).length = j by simp [scaleL]; omega, Nat.sub_self]
  simp
theorem mix_set (p : Int) (own : List Int) (iv : Int) (j : Nat) (hj : j < own.length) : ((scaleL p own iv).take j ++ own.drop j).set j (own.getD j 0 * iv % p) = (scaleL p own iv).take (j + 1) ++ own.drop (j + 1) := by
  have hl : j < (scaleL p own iv).length := by simp [scaleL]; omega
  rw [List.set_append_right _ _ (by simp [scaleL]; exact Nat.min_le_left _ _), List.take_succ_eq_append_getElem hl, List.drop_eq_getElem_cons hj]
  rw [show ((scaleL p own iv).take j).length = j by simp [scaleL]; omega, Nat.sub_self, List.set_cons_zero]
  simp [scaleL, List.getD_eq_getElem?_getD, hj]
end Go.Proofs.Ytafdakamibpjaaa
