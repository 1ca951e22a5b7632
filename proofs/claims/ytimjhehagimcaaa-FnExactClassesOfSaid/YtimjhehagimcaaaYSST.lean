/- Lists of rows of numbers: copied, marked and read back, each row in a block of its own; no condition. -/
import Derived.Test.YtimjhehagimcaaaYRedU
import Derived.Test.YtimjhehagimcaaaYKitK
import Derived.Test.YtimjhehagimcaaaYHeldI
import Derived.Test.YtimjhehagimcaaaYRedE
import Derived.Test.YtimjhehagimcaaaYRedZ
import Derived.Test.YtimjhehagimcaaaYOpenA
set_option linter.unusedVariables false
set_option linter.unusedSimpArgs false
namespace Go.Proofs.Ytimjhehagimcaaa
open Go.RowKit Go.Proofs.YtimjhehagimcaaaW.PrintWords
attribute [local go_sem] Later.cell Later.frozen Later.lt Later.lt_add Later.le Later.le_add Later.ne Later.ne' add_at
theorem opensL : Opens Try.prog kL 55 := opens_slice Try.underlying55 (by kernel_rfl) opensI 0
theorem getD_memR {rows : List (List Int)} {i : Nat} (h : i < rows.length) : rows.getD i [] ∈ rows := by
  have e : rows.getD i [] = rows[i] := by simp [List.getD_eq_getElem?_getD, h]
  rw [e]
  exact List.getElem_mem h
theorem take_snocR {ps : List (List Int)} {i : Nat} (h : i < ps.length) : ps.take (i + 1) = ps.take i ++ [ps.getD i []] := by
  have e : ps.getD i [] = ps[i] := by simp [List.getD_eq_getElem?_getD, h]
  rw [List.take_succ_eq_append_getElem h, e]
theorem tagL_form {e base n c : Nat} {ok : Nat → Prop} {W : World} {A : Option Addr} {qs : List (List Int × Option Nat)} (h : (tagK kL).R e W base ok (.slice A n c) qs) (hn : 0 < n) : ∃ g, A = some ⟨g, 0, none⟩ ∧ base ≤ g ∧ g < W.heap.size := by
  obtain ⟨hl, _, _⟩ := Kd.R_reads' h
  obtain ⟨g, cap, hv, h1, h2, _⟩ := Kd.R_form h (by omega)
  injection hv with hA _ _
  exact ⟨g, hA, h1, h2⟩
theorem tagL_own0 {e base g n c : Nat} {ok : Nat → Prop} {W : World} {qs : List (List Int × Option Nat)} (h : (tagK kL).R e W base ok (.slice (some ⟨g, 0, none⟩) n c) qs) {i : Nat} (hi : i < n) {xt : List Int} {t : Option Nat} (hx : qs.getD i (([] : List Int), (none : Option Nat)) = (xt, t)) :
    ∃ A' c', W.cell? ⟨g, i, none⟩ = some (.slice A' xt.length c') ∧ kI.R 2 W base (fun k => ok k ∧ k ≠ g) (.slice A' xt.length c') xt ∧ (Value.slice A' xt.length c').ownBlock = t := by
  obtain ⟨hn, hnc, hC⟩ := Kd.R_reads' h
  subst hn
  obtain ⟨cs, hl, hM, hcell, _⟩ := Kd.R_elem h (([] : List Int), (none : Option Nat)) (i : Int) (by omega) (by omega)
  rw [Int.toNat_natCast] at hM
  rw [hx] at hM
  obtain ⟨⟨v, rfl, hR⟩, ht⟩ := hM
  obtain ⟨A', c', rfl⟩ := Kd.R_slice hR
  have q0 := hcell 0 _ rfl
  rw [Int.toNat_natCast] at q0
  have e1 : i * (tagK kL).sz + 0 = i := by show i * 1 + 0 = i; omega
  rw [e1] at q0
  exact ⟨A', c', q0, hR, ht⟩
theorem kI_tight {e base : Nat} {ok : Nat → Prop} {W : World} {v : Value} {xs : List Int} (h : kI.R e W base ok v xs) : kI.R e W base (fun k => v.ownBlock = some k) v xs := ⟨fun _ hk => hk, h.2.imp_ fun _ _ hp => hp⟩
theorem tagL_row {e base g n c : Nat} {ok : Nat → Prop} {W w1 : World} {qs : List (List Int × Option Nat)} (h : (tagK kL).R e W base ok (.slice (some ⟨g, 0, none⟩) n c) qs) (hap : Apart qs) {i : Nat} (hi : i < n) {xt xt' : List Int} {t : Option Nat} (hx : qs.getD i (([] : List Int), (none : Option Nat)) = (xt, t)) {A' : Option Addr} {c' : Nat}
    (hcell : W.cell? ⟨g, i, none⟩ = some (.slice A' xt.length c')) (hlen : xt'.length = xt.length) (hgt : some g ≠ t) (hg : W.grownBy w1 t) {ok' : Nat → Prop} (hR : kI.R 2 w1 base ok' (.slice A' xt.length c') xt') :
    (tagK kL).R e w1 base ok (.slice (some ⟨g, 0, none⟩) n c) (qs.set i (xt', t)) := by
  have hn := (Kd.R_reads' h).1
  have hgl := (Kd.R_bound h).1 g (by simp [Value.ownBlock])
  obtain ⟨h0, inner, ho, hr⟩ := h
  have hgb : w1.heap[g]? = W.heap[g]? := hg.block g hgl.2.2.1 hgt
  refine ⟨h0, inner, ?_, ?_, fun j q hj => ?_⟩
  · rw [List.length_set]
    exact own_move ho fun k hk => by
      have : g = k := by simpa [Value.ownBlock] using hk
      rw [← this]
      exact hgb
  · rw [List.length_set]; exact hr.1
  · rw [List.getElem?_set] at hj
    by_cases e1 : i = j
    · subst e1
      rw [if_pos rfl, if_pos (by omega)] at hj
      injection hj with hj
      subst hj
      have hget : qs[i]? = some (xt, t) := by
        rw [← hx, List.getD_eq_getElem?_getD]
        rw [List.getElem?_eq_getElem (by omega)]
        rfl
      obtain ⟨⟨v0, hcs, hR0⟩, ht⟩ := hr.2 i _ hget
      have hc2 : W.cell? ⟨g, i, none⟩ = some v0 := by
        have hin : ((inner.drop (i * 1)).take 1)[0]? = some v0 := by
          have h8 : (inner.drop (i * 1)).take 1 = [v0] := hcs
          rw [h8]
          rfl
        rw [List.getElem?_take, if_pos (by omega), List.getElem?_drop] at hin
        have := ho.cells (g := g) (by simp [Value.ownBlock]) _ _ hin
        rw [add_plain, Nat.mul_one, Nat.add_zero] at this
        exact this
      rw [hc2] at hcell
      injection hcell with hcell
      subst hcell
      refine ⟨⟨.slice A' xt.length c', hcs, ?_⟩, ht⟩
      have h7 := kI_tight hR
      refine Kd.R_mono h7 fun k hk => ?_
      exact hR0.1 k hk
    · rw [if_neg e1] at hj
      obtain ⟨⟨v0, hcs, hR0⟩, ht⟩ := hr.2 j _ hj
      have hjl : j < qs.length := by
        have := (List.getElem?_eq_some_iff.1 hj).1
        exact this
      have hdiff : ∀ k, v0.ownBlock = some k → some k ≠ t := by
        intro k hk e2
        have htq : q.2 = some k := by
          have ht' : ((inner.drop (j * (tagK kL).sz)).take (tagK kL).sz).getLast?.bind Value.ownBlock = q.2 := ht
          rw [hcs] at ht'
          rw [← ht']
          exact hk
        have hqi : qs[i]? = some (xt, t) := by
          rw [← hx, List.getD_eq_getElem?_getD]
          rw [List.getElem?_eq_getElem (by omega)]
          rfl
        have hpi := List.pairwise_iff_getElem.1 hap
        have gi : qs[i]'(by omega) = (xt, t) := by
          have := hqi
          rw [List.getElem?_eq_getElem (by omega)] at this
          injection this
        have gj : qs[j] = q := by
          have := hj
          rw [List.getElem?_eq_getElem hjl] at this
          injection this
        rcases Nat.lt_or_gt_of_ne e1 with hlt | hgt'
        · have := hpi i j (by omega) hjl hlt
          rw [gi, gj, htq, e2] at this
          rcases this with h | h
          · rw [← e2] at h; cases h
          · exact h rfl
        · have := hpi j i hjl (by omega) hgt'
          rw [gi, gj, htq, e2] at this
          rcases this with h | h
          · rw [← e2] at h; cases h
          · exact h rfl
      refine ⟨⟨v0, hcs, ?_⟩, ht⟩
      have h7 := Kd.R_grown (kI_tight hR0) hg hdiff
      exact Kd.R_mono h7 fun k hk => hR0.1 k hk
theorem tagL_apart_set {qs : List (List Int × Option Nat)} (h : Apart qs) {i : Nat} {x y : List Int} {t : Option Nat} (hx : qs.getD i (([] : List Int), (none : Option Nat)) = (x, t)) (hi : i < qs.length) : Apart (qs.set i (y, t)) := by
  have e : (qs.set i (y, t)).map Prod.snd = qs.map Prod.snd := by
    rw [List.map_set]
    have : qs[i].2 = t := by
      have : qs.getD i (([] : List Int), (none : Option Nat)) = qs[i] := by simp [List.getD_eq_getElem?_getD, hi]
      rw [← this, hx]
    apply List.ext_getElem?
    intro j
    rw [List.getElem?_set]
    by_cases e : i = j
    · subst e
      simp [hi, this]
    · simp [e]
  have k : ∀ (l : List (List Int × Option Nat)), Apart l ↔ (l.map Prod.snd).Pairwise fun a b => a = none ∨ a ≠ b := fun l => by
    rw [Apart, List.pairwise_map]
  rw [k, e]
  exact (k qs).1 h
theorem tagCR {e base n c : Nat} {ok : Nat → Prop} {W : World} {A : Option Addr} {qs : List (List Int × Option Nat)} {ps : List (List Int)} (h : (tagK kL).R e W base ok (.slice A n c) qs) (hq : qs.map Prod.fst = ps) (hn : ps.length = n) : kL.C W A n ps := by
  have h1 := (Kd.R_reads' (tag_R h)).2.2
  rw [hq, hn] at h1
  exact h1
/-! ### marks -/
def marksR : Int → List (List Int) → List (List Int)
  | _, [] => []
  | k, x :: xs => marksI k x.length :: marksR (k + x.length) xs
def endR : Int → List (List Int) → Int
  | k, [] => k
  | k, x :: xs => endR (k + x.length) xs
theorem endR_app (b : List (List Int)) : ∀ (a : List (List Int)) (k : Int), endR k (a ++ b) = endR (endR k a) b
  | [], _ => rfl
  | _ :: a, _ => endR_app b a _
theorem endR_ge : ∀ (xs : List (List Int)) (k : Int), k ≤ endR k xs
  | [], _ => Int.le_refl _
  | x :: xs, k => by
    have := endR_ge xs (k + x.length)
    show k ≤ endR _ xs
    omega
theorem marksR_app (b : List (List Int)) : ∀ (a : List (List Int)) (k : Int), marksR k (a ++ b) = marksR k a ++ marksR (endR k a) b
  | [], _ => rfl
  | x :: a, k => by show _ :: marksR _ (a ++ b) = _ :: (marksR _ a ++ _); rw [marksR_app b a]; rfl
theorem marksR_len : ∀ (xs : List (List Int)) (k : Int), (marksR k xs).length = xs.length
  | [], _ => rfl
  | _ :: xs, k => by rw [marksR, List.length_cons, marksR_len xs, List.length_cons]
theorem endR_snoc (x : List Int) (xs : List (List Int)) (k : Int) : endR k (xs ++ [x]) = endR k xs + x.length := endR_app _ _ _
theorem endR_sum : ∀ (xs : List (List Int)) (k : Int), endR k xs = k + (xs.map fun x => (x.length : Int)).sum
  | [], k => by simp [endR]
  | x :: xs, k => by
    rw [endR, endR_sum xs, List.map_cons, List.sum_cons]
    omega
theorem goSS_sum : ∀ (xs : List (List Int)) (k : Int), 0 ≤ goSS xs k → (xs.map fun x => (x.length : Int)).sum ≤ k
  | [], k, h => h
  | x :: xs, k, h => by
    unfold goSS at h
    split at h
    · omega
    · have := goSS_sum xs _ h
      rw [List.map_cons, List.sum_cons]
      omega
theorem sumR_pos : ∀ xs : List (List Int), 0 ≤ (xs.map fun x => (x.length : Int)).sum
  | [] => Int.le_refl _
  | x :: xs => by have := sumR_pos xs; rw [List.map_cons, List.sum_cons]; omega
theorem mem_sumR : ∀ (xs : List (List Int)), ∀ x ∈ xs, (x.length : Int) ≤ (xs.map fun x => (x.length : Int)).sum
  | [], _, h => by cases h
  | y :: ys, x, h => by
    rw [List.map_cons, List.sum_cons]
    rcases List.mem_cons.1 h with rfl | h'
    · have := sumR_pos ys; omega
    · have := mem_sumR ys x h'; omega
theorem sumR_bd {B : Nat} : ∀ (xs : List (List Int)), (∀ x ∈ xs, x.length ≤ B) → (xs.map fun x => (x.length : Int)).sum ≤ (xs.length : Int) * (B : Int)
  | [], _ => by simp
  | x :: xs, h => by
    have h1 := h x (by simp)
    have h2 := sumR_bd xs fun y hy => h y (by simp [hy])
    have e : (((x :: xs).length : Nat) : Int) * (B : Int) = (xs.length : Int) * (B : Int) + (B : Int) := by
      rw [List.length_cons, Int.natCast_add, Int.add_mul]
      simp
    rw [List.map_cons, List.sum_cons, e]
    omega
theorem rows_small {rs : List (List Int)} {N B : Nat} (h : rs.length ≤ N ∧ ∀ x ∈ rs, x.length ≤ B) (hN : N ≤ 1048576) (hB : B ≤ 1048576) (hNB : (N : Int) * B ≤ 999999999) : (rs.length ≤ 1048576 ∧ ∀ x ∈ rs, x.length ≤ 1048576) ∧ endR 1 rs ≤ 1000000000 := by
  refine ⟨⟨by omega, fun x hx => by have := h.2 x hx; omega⟩, ?_⟩
  rw [endR_sum]
  have h1 := sumR_bd rs h.2
  have h3 : (rs.length : Int) * (B : Int) ≤ (N : Int) * (B : Int) := Int.mul_le_mul_of_nonneg_right (by omega) (by omega)
  omega
theorem kL_lens {w : World} {A : Option Addr} {n : Nat} {rs : List (List Int)} (h : kL.C w A n rs) (i : Nat) : (rs.getD i []).length ≤ 9223372036854775807 := by
  by_cases hi : i < rs.length
  · obtain ⟨_, _, _, _, _, _, _, hC⟩ := kL_at h i (by rw [← Kd.C_len h]; exact hi)
    exact hC.2.1
  · rw [List.getD_eq_getElem?_getD, List.getElem?_eq_none (by omega)]
    simp
theorem fr_cell {w w' : World} {ok : Nat → Prop} (hf : ∀ a, a < w.heap.size → ¬ ok a → w'.heap[a]? = w.heap[a]?) {a : Addr} {v : Value} (h : w.cell? a = some v) (ha : ¬ ok a.block) : w'.cell? a = some v := by
  rw [World.cell?_of_block (hf a.block (World.block_lt_of_cell? _ _ h) ha)]
  exact h
theorem fr_row {α : Type} {d : Kd α} {E lo a b : Nat} {ok : Nat → Prop} {w w' : World} {v : Value} {xs : List α} (hf : ∀ a, a < w.heap.size → ¬ ok a → w'.heap[a]? = w.heap[a]?) (h : d.R E w lo (fun k => a ≤ k ∧ k < b) v xs) (hb : b ≤ w.heap.size) (hd : ∀ k, a ≤ k → k < b → ¬ ok k) : d.R E w' lo (fun k => a ≤ k ∧ k < b) v xs :=
  Kd.R_move h fun k hk => hf k (by omega) (hd k hk.1 hk.2)
theorem redR_small (p d : Int) (rows : List (List Int)) : ((redR p d rows).1.length ≤ 1048576 ∧ ∀ x ∈ (redR p d rows).1, x.length ≤ 1048576) ∧ endR 1 (redR p d rows).1 ≤ 1000000000 := rows_small (redR_bd p d rows) (by decide) (by decide) (by decide)
set_option maxRecDepth 100000 in
set_option maxHeartbeats 8000000 in
theorem markInt64SS_c (A : Option Addr) (c n : Nat) (ps : List (List Int)) (qs : List (List Int × Option Nat)) (k : Int) (w : World) (base : Nat) (ok : Nat → Prop) (hR : (tagK kL).R 55 w base ok (.slice A n c) qs) (hq : qs.map Prod.fst = ps) (hap : Apart qs) (hn : ps.length = n) (hn2 : n ≤ 1048576) (hl : ∀ x ∈ ps, x.length ≤ 1048576) (hk : 0 ≤ k) (hE : endR k ps ≤ 1000000000) :
    Calls Try.prog 13 #[.slice A n c, .int .i64 k] w (fun e w' => e = .returned (.int .i64 (endR k ps)) ∧ (∃ qs', qs'.map Prod.fst = marksR k ps ∧ (tagK kL).R 55 w' base ok (.slice A n c) qs') ∧ Below base w w' ∧ ∀ a, a < w.heap.size → ¬ ok a → w'.heap[a]? = w.heap[a]?) := by
  have HLL := Lib.hid hl
  have HN := Lib.hid hn
  have hbd : ∀ i, k ≤ endR k (ps.take i) ∧ endR k (ps.take i) ≤ 1000000000 := fun i => by
    have h1 := endR_ge (ps.take i) k
    have h2 := endR_ge (ps.drop i) (endR k (ps.take i))
    rw [← endR_app, List.take_append_drop] at h2
    omega
  have HBD := Lib.hid hbd
  have hm0 : (qs.map Prod.fst) = marksR k (ps.take 0) ++ ps.drop 0 := by rw [hq]; rfl
  clear hl hn hbd hq hE
  go_enter Try.func13, Try.ntmps13
  go_wp2
  go_loopg [5, 1] n (fun g v kk w' => ∃ (i : Nat) (os : List (List Int × Option Nat)), i + g = n ∧ v = .int .i64 i ∧ kk = .int .i64 (endR k (ps.take i)) ∧ (tagK kL).R 55 w' base ok (.slice A n c) os ∧ os.map Prod.fst = marksR k (ps.take i) ++ ps.drop i ∧ Apart os ∧ Below base w w' ∧ ∀ a, a < w.heap.size → ¬ ok a → w'.heap[a]? = w.heap[a]?)
  case atStart => exact ⟨0, qs, by omega, rfl, rfl, hR, hm0, hap, Below.refl _ _, fun _ _ _ => rfl⟩
  case round =>
    clear hR hm0 hap
    obtain ⟨i, os, hik, rfl, rfl, hR, hm, hap, hb, hfr0⟩ := hrel
    have hsw := hb.size
    have HFR := Lib.hid hfr0
    clear hfr0
    have HIK := Lib.hid hik
    have HM := Lib.hid hm
    have HAP := Lib.hid hap
    clear hik hm hap
    by_cases hi : i < n
    · have hi2 : i < ps.length := by rw [HN.out]; exact hi
      have hol : os.length = n := (Kd.R_reads' hR).1.symm
      have hl1 : (marksR k (ps.take i)).length = i := by rw [marksR_len, List.length_take]; omega
      obtain ⟨t, ht⟩ : ∃ t, os.getD i (([] : List Int), (none : Option Nat)) = (ps.getD i [], t) := by
        have h1 : (os.map Prod.fst).getD i [] = ps.getD i [] := by
          rw [HM.out, List.getD_eq_getElem?_getD, List.getElem?_append_right (by omega), hl1, Nat.sub_self, List.getElem?_drop, List.getD_eq_getElem?_getD]
          rfl
        have h2 : (os.map Prod.fst).getD i [] = (os.getD i (([] : List Int), (none : Option Nat))).1 := by
          rw [List.getD_eq_getElem?_getD, List.getElem?_map, List.getD_eq_getElem?_getD, List.getElem?_eq_getElem (by omega)]
          rfl
        rw [h2] at h1
        exact ⟨(os.getD i (([] : List Int), (none : Option Nat))).2, by rw [← h1]⟩
      obtain ⟨g, hA, hg1, hg2⟩ := tagL_form hR (by omega)
      subst hA
      obtain ⟨A1, c1, p0, hRx, htx⟩ := tagL_own0 hR hi ht
      have hbi := HBD.out i
      have hbj := HBD.out (i + 1)
      have hyl := HLL.out _ (getD_memR hi2)
      have hst : endR k (ps.take (i + 1)) = endR k (ps.take i) + ((ps.getD i []).length : Int) := by rw [take_snocR hi2, endR_snoc]
      have HST := Lib.hid hst
      have hmn : marksR k (ps.take (i + 1)) = marksR k (ps.take i) ++ [marksI (endR k (ps.take i)) (ps.getD i []).length] := by rw [take_snocR hi2, marksR_app]; rfl
      have hset : ∀ z : List Int, (marksR k (ps.take i) ++ ps.drop i).set i z = marksR k (ps.take i) ++ [z] ++ ps.drop (i + 1) := fun z => by
        rw [List.set_append_right _ _ (by omega), hl1, Nat.sub_self, List.drop_eq_getElem_cons hi2, List.set_cons_zero, List.append_assoc]
        rfl
      have HSET := Lib.hid (And.intro hmn hset)
      have hi0 : (0 : Int) ≤ i := by omega
      have hi1 : (i : Int) < n := by omega
      have hin : ((i : Int)).toNat = i := by omega
      have hgt : some g ≠ t := fun e => by
        have h1 := (Kd.R_bound hRx).1 g (htx.trans e.symm)
        exact h1.1.2 rfl
      clear hst hmn hset
      generalize ps.getD i [] = y at *
      generalize endR k (ps.take i) = E at *
      have hMk := markInt64S_c A1 c1 y E _ base _ hRx (by omega) (by omega) (by omega)
      have hbase : base ≤ wr.heap.size := by omega
      go_wp2_with (go_at_call 39; (with_reducible refine Calls.mono hMk ?_); rintro e' W9 ⟨rfl, hR9, hg9⟩)
      rw [htx] at hg9
      have hF := tagL_row hR HAP.out hi ht (A' := A1) (c' := c1) p0 (marksI_len _ _) hgt hg9 hR9
      have hap3 := tagL_apart_set (y := marksI E y.length) HAP.out ht (by omega)
      have hb9 : Below base w W9 := hb.grown hg9 (by omega) (fun a e => by
        have h1 := (Kd.R_bound hR9).1 a (htx.trans e)
        exact h1.2.1)
      have hf9 : ∀ a, a < w.heap.size → ¬ ok a → W9.heap[a]? = w.heap[a]? := fun a ha hna => (hg9.block a (by omega) (fun e => hna ((Kd.R_bound hR9).1 a (htx.trans e.symm)).1.1)).trans (HFR.out a ha hna)
      go_roundg (gk - 1)
      case measure => have := HIK.out; omega
      case rel =>
        refine ⟨i + 1, _, ?_, ?_, ?_, hF, ?_, hap3, hb9, hf9⟩
        · have := HIK.out; omega
        · go_num
        · rw [HST.out]
        · rw [List.map_set, HM.out, HSET.out.2, HSET.out.1]
    · have e : i = n := by have := HIK.out; omega
      subst e
      have ep : ps.take i = ps := by rw [← HN.out, List.take_length]
      have em := HM.out
      rw [ep, show ps.drop i = [] by rw [← HN.out, List.drop_length], List.append_nil] at em
      rw [ep]
      go_wp2
      go_ret
      exact ⟨rfl, ⟨os, em, hR⟩, hb, HFR.out⟩
set_option maxRecDepth 100000 in
set_option maxHeartbeats 4000000 in
theorem heldInt64SS_c (A : Option Addr) (c n : Nat) (ps : List (List Int)) (k : Int) (w : World) (hC : kL.C w A n (marksR k ps)) (hn : ps.length = n) (hn2 : n ≤ 1048576) (hl : ∀ x ∈ ps, x.length ≤ 1048576) (hk : 0 ≤ k) (hE : endR k ps ≤ 1000000000) :
    Calls Try.prog 14 #[.slice A n c, .int .i64 k] w (Gives (.int .i64 (endR k ps)) w) := by
  have HLL := Lib.hid hl
  have HN := Lib.hid hn
  have hbd : ∀ i, k ≤ endR k (ps.take i) ∧ endR k (ps.take i) ≤ 1000000000 := fun i => by
    have h1 := endR_ge (ps.take i) k
    have h2 := endR_ge (ps.drop i) (endR k (ps.take i))
    rw [← endR_app, List.take_append_drop] at h2
    omega
  have HBD := Lib.hid hbd
  clear hl hn hbd hE
  go_enter Try.func14, Try.ntmps14
  go_wp2
  go_loopg [5, 1] n (fun g v kk w' => ∃ (i : Nat), i + g = n ∧ v = .int .i64 i ∧ kk = .int .i64 (endR k (ps.take i)) ∧ Below w.heap.size w w')
  case atStart => exact ⟨0, by omega, rfl, rfl, Below.refl _ _⟩
  case round =>
    obtain ⟨i, hik, rfl, rfl, hbw⟩ := hrel
    have HIK := Lib.hid hik
    clear hik
    by_cases hi : i < n
    · have hi2 : i < ps.length := by rw [HN.out]; exact hi
      have hmk : (marksR k ps).getD i [] = marksI (endR k (ps.take i)) (ps.getD i []).length := by
        have h1 : marksR k ps = marksR k (ps.take i) ++ marksR (endR k (ps.take i)) (ps.drop i) := by rw [← marksR_app, List.take_append_drop]
        have hl1 : (marksR k (ps.take i)).length = i := by rw [marksR_len, List.length_take]; omega
        rw [h1, List.getD_eq_getElem?_getD, List.getElem?_append_right (by omega), hl1, Nat.sub_self, List.drop_eq_getElem_cons hi2]
        rw [show ps.getD i [] = ps[i] by simp [List.getD_eq_getElem?_getD, hi2]]
        rfl
      obtain ⟨b, o, B1, c1, hA, p0, hcc, hX⟩ := kL_at hC i hi
      rw [hmk] at p0 hcc hX
      simp only [marksI_len] at p0 hcc hX
      subst hA
      have p0 := pw_cell_below hbw p0
      have hX := Kd.C_below hX hbw
      have hbi := HBD.out i
      have hbj := HBD.out (i + 1)
      have hyl := HLL.out _ (getD_memR hi2)
      have hst : endR k (ps.take (i + 1)) = endR k (ps.take i) + ((ps.getD i []).length : Int) := by rw [take_snocR hi2, endR_snoc]
      have HST := Lib.hid hst
      have hi0 : (0 : Int) ≤ i := by omega
      have hi1 : (i : Int) < n := by omega
      have hin : ((i : Int)).toNat = i := by omega
      clear hmk hst
      generalize ps.getD i [] = y at *
      generalize endR k (ps.take i) = E at *
      have hH := heldInt64S_c B1 c1 y.length E wr hX (by omega) (by omega) (by omega)
      have hnz : ¬ E + (y.length : Int) < 0 := by omega
      go_wp2_with (go_at_call 50; (first | (with_reducible refine call_same hH ?_) | ((with_reducible refine to_gives (V := wr) (Below.refl _ _) hH ?_); intro W9 hv9 _)))
      go_roundg (gk - 1)
      case measure => have := HIK.out; omega
      case rel => exact ⟨i + 1, by have := HIK.out; omega, by go_num, by rw [HST.out], by first | exact hbw | exact hbw.trans (hv9.mono hbw.size)⟩
    · have e : i = n := by have := HIK.out; omega
      subst e
      have ep : ps.take i = ps := by rw [← HN.out, List.take_length]
      rw [ep]
      go_wp2
      go_ret
      exact .mk rfl hbw
/-! ### copies -/
theorem infoSS : (Try.prog.info? 55).map (fun i => (i.zero, i.size, i.bytes)) = some (some (.slice none 0 0), 1, 24) := by kernel_rfl
theorem tagL_put {e base g n c : Nat} {ok okp : Nat → Prop} {W : World} {qs : List (List Int × Option Nat)} (h : (tagK kL).R e W base ok (.slice (some ⟨g, 0, none⟩) n c) qs) {j : Nat} (hj : j < n) {xt : List Int} {A' : Option Addr} {c' : Nat} (hR : kI.R 2 W base okp (.slice A' xt.length c') xt) (hokp : ∀ k, okp k → ok k ∧ k ≠ g) :
    (tagK kL).R e (W.setCell ⟨g, j, none⟩ (.slice A' xt.length c')) base ok (.slice (some ⟨g, 0, none⟩) n c) (qs.set j (xt, (Value.slice A' xt.length c').ownBlock)) ∧
      W.grownBy (W.setCell ⟨g, j, none⟩ (.slice A' xt.length c')) (some g) := by
  obtain ⟨cs, hl, hM, hcell, _⟩ := Kd.R_elem h (([] : List Int), (none : Option Nat)) (j : Int) (by omega) (by omega)
  obtain ⟨⟨v0, rfl, _⟩, _⟩ := hM
  have H := Kd.R_seg (okp := okp) h (j : Int) (by omega) (by omega) (seg := [.slice A' xt.length c']) (j := 0) hl hcell (Nat.le_refl 1) (x' := (xt, (Value.slice A' xt.length c').ownBlock)) ⟨⟨_, rfl, hR⟩, rfl⟩ hokp
  rw [Int.toNat_natCast] at H
  have e1 : W.setCells g (j * (tagK kL).sz + 0) [.slice A' xt.length c'] = W.setCell ⟨g, j, none⟩ (.slice A' xt.length c') := by
    show (W.setCell ⟨g, j * 1 + 0, none⟩ _) = _
    rw [Nat.mul_one, Nat.add_zero]
  rw [e1] at H
  exact H
set_option maxRecDepth 100000 in
set_option maxHeartbeats 4000000 in
theorem toInt64SS_t (A : Option Addr) (c n : Nat) (ps : List (List Int)) (w : World) (hC : kL.C w A n ps) (hn : n ≤ 1048576) (hl : ∀ x ∈ ps, x.length ≤ 1048576) :
    Calls Try.prog 10 #[.slice A n c] w (MakesTL 55 ps w) := by
  have hpl := Kd.C_len hC
  have HPL := Lib.hid hpl
  have HLL := Lib.hid hl
  clear hpl hl
  go_enter Try.func10, Try.ntmps10
  go_wp2_with (refine Kd.R_make (tagK kL) (w0 := w) w.heap.size 55 rfl (N := 7) rfl 22 (.tmp 6) (.tmp 6) rfl (n : Int) rfl rfl Try.underlying22 _ 24 infoSS rfl (by decide) (by decide) (([] : List Int), (none : Option Nat)) (ok := fun _ => True) (okp := fun _ => False) ⟨⟨_, rfl, Kd.R_nil _ _ _ _ _⟩, rfl⟩ (fun _ h => h.elim) trivial (by omega) (by omega) (Below.refl _ _) (Nat.le_refl _) ?_; intro v1 w1 HR hb1 _ hob; rw [Int.toNat_natCast] at HR; obtain ⟨Bq, cap, hv, _, _⟩ := Kd.R_reads HR; rw [List.length_replicate] at hv; subst hv; clear hob)
  have hw1 := hb1.size
  go_loopg [4] n (fun gk v4 w' => ∃ (i : Nat) (qs : List (List Int × Option Nat)), i + gk = n ∧ v4 = .int .i64 i ∧ Below w.heap.size w w' ∧ (tagK kL).R 55 w' w.heap.size (fun _ => True) (.slice Bq n cap) qs ∧ qs.map Prod.fst = ps.take i ++ List.replicate (n - i) [] ∧ Apart qs)
  case atStart =>
    refine ⟨0, List.replicate n (([] : List Int), (none : Option Nat)), by omega, rfl, hb1, HR, by simp, ?_⟩
    exact List.pairwise_replicate.2 (.inr (.inl rfl))
  case round =>
    clear HR hb1
    obtain ⟨i, qs, hik, rfl, hb, hR, hm, hap⟩ := hrel
    have HIK := Lib.hid hik
    have HM := Lib.hid (And.intro hm hap)
    clear hik hm hap
    by_cases hi : i < n
    · have hol : qs.length = n := (Kd.R_reads' hR).1.symm
      obtain ⟨b1, o1, A1, c1, hA, p0, hcc, hX⟩ := kL_at hC i hi
      subst hA
      have p0 := pw_cell_below hb p0
      have hX := Kd.C_below hX hb
      obtain ⟨g, hQ, hg1, hg2⟩ := tagL_form hR (by omega)
      subst hQ
      obtain ⟨A9, c9, q0, _, _⟩ := tagL_own0 hR hi (xt := (qs.getD i (([] : List Int), (none : Option Nat))).1) (t := (qs.getD i (([] : List Int), (none : Option Nat))).2) rfl
      obtain ⟨_, _, _, _, hfr⟩ := Kd.R_elem hR (([] : List Int), (none : Option Nat)) (i : Int) (by omega) (by omega)
      have i0 : wr.frozen? ⟨g, i, none⟩ = false := by
        have := hfr 0
        rw [Int.toNat_natCast] at this
        have e1 : i * (tagK kL).sz + 0 = i := by show i * 1 + 0 = i; omega
        rw [e1] at this
        exact this
      have hi0 : (0 : Int) ≤ i := by omega
      have hi1 : (i : Int) < n := by omega
      have hin : ((i : Int)).toNat = i := by omega
      have hi2 : i < ps.length := by rw [HPL.out]; exact hi
      have hyl := HLL.out _ (getD_memR hi2)
      have HTS := Lib.hid (take_snocR hi2)
      have HTG := Lib.hid (tagL_mem hR)
      have HRR := Lib.hid hR
      have hbs := hb.size
      have hTo := fun W h => toInt64S_c A1 c1 (ps.getD i []) W h hyl
      clear hfr hR
      generalize ps.getD i [] = y at *
      generalize (qs.getD i (([] : List Int), (none : Option Nat))).1.length = y9 at *
      go_wp2_with (go_at_call 36; (with_reducible refine to_makesI (V := wr) (Below.refl _ _) (hTo _ hX) ?_); intro w8 B8 c8 hb8 hb8' hl8 hR8; have j0 := (hb8.frozen (p := ⟨g, i, none⟩) hg2).trans i0; have s0 := pw_cell_below hb8 q0)
      have hs8 := hb8.size
      have H := tagL_put (okp := fun a => wr.heap.size ≤ a) (Kd.R_below HRR.out hb8) hi (xt := y) (Kd.R_lower (Kd.R_mono (Kd.R_bound hR8) (fun a ha => by have h9 : wr.heap.size ≤ a := ha.2.1; exact h9)) (by omega)) (fun a ha => ⟨trivial, by show a ≠ g; have h9 : wr.heap.size ≤ a := ha; omega⟩)
      have hbV := hb.trans (hb8.mono hb.size)
      go_roundg (gk - 1)
      case measure => have := HIK.out; omega
      case rel =>
        refine ⟨i + 1, _, ?_, ?_, ?_, H.1, ?_, ?_⟩
        · have := HIK.out; omega
        · go_num
        · exact hbV.grown H.2 (by have := hbV.size; omega) (fun a e => by injection e with e; omega)
        · rw [List.map_set, HM.out.1, HTS.out]
          have hl1 : (ps.take i).length = i := by rw [List.length_take]; omega
          rw [List.set_append_right _ _ (by omega), hl1, Nat.sub_self, show n - i = (n - (i + 1)) + 1 by omega, List.replicate_succ, List.set_cons_zero, List.append_assoc]
          rfl
        · refine apart_new HM.out.2 fun q hq k hk e => ?_
          have h1 := (HTG.out q hq k hk).2.2
          have h2 := ((Kd.R_bound hR8).1 k e).2.1
          omega
    · have e : i = n := by have := HIK.out; omega
      subst e
      have em := HM.out.1
      rw [Nat.sub_self, show ps.take i = ps by rw [← HPL.out, List.take_length]] at em
      go_wp2
      go_ret
      exact ⟨_, qs, rfl, by simpa using em, HM.out.2, hR, hb⟩
end Go.Proofs.Ytimjhehagimcaaa
