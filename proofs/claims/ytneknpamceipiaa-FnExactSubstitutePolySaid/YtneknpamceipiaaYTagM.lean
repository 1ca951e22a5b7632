/- Marks on lists of polynomials: eqPolyS, markPolyS, heldPolyS; no condition. -/
import Derived.Test.YtneknpamceipiaaYTag
import Derived.Test.YtneknpamceipiaaYKitC
set_option linter.unusedVariables false
set_option linter.unusedSimpArgs false
namespace Go.Proofs.Ytneknpamceipiaa
open Go.RowKit Go.Proofs.YtneknpamceipiaaW.PrintWords
attribute [local go_sem] Later.cell Later.frozen Later.lt Later.lt_add Later.le Later.le_add Later.ne Later.ne' add_at
open Go.Proofs.YtneknpamceipiaaW.PrintLast
/-! ### one row of a list is written -/
theorem kT_tight {e base : Nat} {ok : Nat → Prop} {W : World} {v : Value} {xs : List T4} (h : kT.R e W base ok v xs) : kT.R e W base (fun k => v.ownBlock = some k) v xs := ⟨fun _ hk => hk, h.2.imp_ fun _ _ hp => hp⟩
theorem tagP_row {e base g n c : Nat} {ok : Nat → Prop} {W w1 : World} {qs : List (PV × Option Nat)} (h : (tagK kP).R e W base ok (.slice (some ⟨g, 0, none⟩) n c) qs) (hap : Apart qs) {i : Nat} (hi : i < n) {p d : Int} {xt xt' : List T4} {t : Option Nat} (hx : qs.getD i (zP, none) = (⟨p, d, xt⟩, t)) {A' : Option Addr} {c' : Nat}
    (hcell : W.cell? ⟨g, i * 3 + 2, none⟩ = some (.slice A' xt.length c')) (hlen : xt'.length = xt.length) (hgt : some g ≠ t) (hg : W.grownBy w1 t) {ok' : Nat → Prop} (hR : kT.R 121 w1 base ok' (.slice A' xt.length c') xt') :
    (tagK kP).R e w1 base ok (.slice (some ⟨g, 0, none⟩) n c) (qs.set i (⟨p, d, xt'⟩, t)) := by
  have hn := (Kd.R_reads' h).1
  have hgl := (Kd.R_bound h).1 g (by simp [Value.ownBlock])
  obtain ⟨h0, inner, ho, hr⟩ := h
  have hgb : w1.heap[g]? = W.heap[g]? := hg.block g hgl.2.2.1 hgt
  refine ⟨h0, inner, ?_, ?_, fun j q hj => ?_⟩
  · rw [List.length_set]
    exact own_move ho fun k hk => by
      have : g = k := by simpa [Value.ownBlock] using hk
      rw [← this]
      exact hgb
  · rw [List.length_set]; exact hr.1
  · rw [List.getElem?_set] at hj
    by_cases e1 : i = j
    · subst e1
      rw [if_pos rfl, if_pos (by omega)] at hj
      injection hj with hj
      subst hj
      have hget : qs[i]? = some (⟨p, d, xt⟩, t) := by
        rw [← hx, List.getD_eq_getElem?_getD]
        rw [List.getElem?_eq_getElem (by omega)]
        rfl
      obtain ⟨⟨A0, c0, hcs, hR0⟩, ht⟩ := hr.2 i _ hget
      have hc2 : W.cell? ⟨g, i * 3 + 2, none⟩ = some (.slice A0 xt.length c0) := by
        have hin : ((inner.drop (i * 3)).take 3)[2]? = some (.slice A0 xt.length c0) := by
          have h9 : (inner.drop (i * (tagK kP).sz)).take (tagK kP).sz = [.int .i64 p, .int .i64 d, .slice A0 xt.length c0] := hcs
          have h8 : (inner.drop (i * 3)).take 3 = [.int .i64 p, .int .i64 d, .slice A0 xt.length c0] := h9
          rw [h8]
          rfl
        rw [List.getElem?_take, if_pos (by omega), List.getElem?_drop] at hin
        have := ho.cells (g := g) (by simp [Value.ownBlock]) _ _ hin
        rwa [add_plain] at this
      rw [hc2] at hcell
      injection hcell with hcell
      injection hcell with hA _ hcc
      subst hA
      subst hcc
      refine ⟨⟨A0, c0, by rw [hlen]; exact hcs, ?_⟩, ht⟩
      have h7 := kT_tight hR
      rw [hlen]
      refine Kd.R_mono h7 fun k hk => ?_
      exact hR0.1 k hk
    · rw [if_neg e1] at hj
      obtain ⟨⟨A0, c0, hcs, hR0⟩, ht⟩ := hr.2 j _ hj
      have hjl : j < qs.length := by
        have := (List.getElem?_eq_some_iff.1 hj).1
        exact this
      have hdiff : ∀ k, (Value.slice A0 q.1.ts.length c0).ownBlock = some k → some k ≠ t := by
        intro k hk e2
        have htq : q.2 = some k := by
          have ht' : ((inner.drop (j * (tagK kP).sz)).take (tagK kP).sz).getLast?.bind Value.ownBlock = q.2 := ht
          rw [hcs] at ht'
          rw [← ht']
          exact hk
        have hqi : qs[i]? = some (⟨p, d, xt⟩, t) := by
          rw [← hx, List.getD_eq_getElem?_getD]
          rw [List.getElem?_eq_getElem (by omega)]
          rfl
        have hpi := List.pairwise_iff_getElem.1 hap
        have gi : qs[i]'(by omega) = (⟨p, d, xt⟩, t) := by
          have := hqi
          rw [List.getElem?_eq_getElem (by omega)] at this
          injection this
        have gj : qs[j] = q := by
          have := hj
          rw [List.getElem?_eq_getElem hjl] at this
          injection this
        rcases Nat.lt_or_gt_of_ne e1 with hlt | hgt'
        · have := hpi i j (by omega) hjl hlt
          rw [gi, gj, htq, e2] at this
          rcases this with h | h
          · rw [← e2] at h; cases h
          · exact h rfl
        · have := hpi j i hjl (by omega) hgt'
          rw [gi, gj, htq, e2] at this
          rcases this with h | h
          · rw [← e2] at h; cases h
          · exact h rfl
      refine ⟨⟨A0, c0, hcs, ?_⟩, ht⟩
      have h7 := Kd.R_grown (kT_tight hR0) hg hdiff
      exact Kd.R_mono h7 fun k hk => hR0.1 k hk
theorem tagP_apart_set {qs : List (PV × Option Nat)} (h : Apart qs) {i : Nat} {x y : PV} {t : Option Nat} (hx : qs.getD i (zP, none) = (x, t)) (hi : i < qs.length) : Apart (qs.set i (y, t)) := by
  have e : (qs.set i (y, t)).map Prod.snd = qs.map Prod.snd := by
    rw [List.map_set]
    have : qs[i].2 = t := by
      have : qs.getD i (zP, none) = qs[i] := by simp [List.getD_eq_getElem?_getD, hi]
      rw [← this, hx]
    apply List.ext_getElem?
    intro j
    rw [List.getElem?_set]
    by_cases e : i = j
    · subst e
      simp [hi, this]
    · simp [e]
  have k : ∀ (l : List (PV × Option Nat)), Apart l ↔ (l.map Prod.snd).Pairwise fun a b => a = none ∨ a ≠ b := fun l => by
    rw [Apart, List.pairwise_map]
  rw [k, e]
  exact (k qs).1 h
/-! ### marks -/
def marksP : Int → List PV → List PV
  | _, [] => []
  | k, x :: xs => ⟨k, k + 1, marksL (k + 1 + 1) x.ts.length⟩ :: marksP (k + 1 + 1 + 4 * (x.ts.length : Int)) xs
def endP : Int → List PV → Int
  | k, [] => k
  | k, x :: xs => endP (k + 1 + 1 + 4 * (x.ts.length : Int)) xs
theorem endP_snoc (x : PV) : ∀ (xs : List PV) (k : Int), endP k (xs ++ [x]) = endP k xs + 1 + 1 + 4 * (x.ts.length : Int)
  | [], _ => rfl
  | _ :: xs, _ => endP_snoc x xs _
theorem marksP_snoc (x : PV) : ∀ (xs : List PV) (k : Int), marksP k (xs ++ [x]) = marksP k xs ++ [⟨endP k xs, endP k xs + 1, marksL (endP k xs + 1 + 1) x.ts.length⟩]
  | [], _ => rfl
  | y :: xs, k => by
    show _ :: marksP _ (xs ++ [x]) = _ :: (marksP _ xs ++ _)
    rw [marksP_snoc x xs]
    rfl
theorem marksP_len : ∀ (xs : List PV) (k : Int), (marksP k xs).length = xs.length
  | [], _ => rfl
  | _ :: xs, k => by rw [marksP, List.length_cons, marksP_len xs, List.length_cons]
theorem take_snoc {ps : List PV} {i : Nat} (h : i < ps.length) : ps.take (i + 1) = ps.take i ++ [ps.getD i zP] := by
  have e : ps.getD i zP = ps[i] := by simp [List.getD_eq_getElem?_getD, h]
  rw [List.take_succ_eq_append_getElem h, e]
end Go.Proofs.Ytneknpamceipiaa
