/- The program's orbit of a point: rows sorted by the library, then compacted; no condition. -/
import Derived.Test.YtimjhehagimcaaaYOrbY
import Derived.Test.YtimjhehagimcaaaYSST
import Derived.Lib.SliceRun
set_option linter.unusedVariables false
set_option linter.unusedSimpArgs false
namespace Go.Proofs.Ytimjhehagimcaaa
open Go.RowKit Go.Proofs.YtimjhehagimcaaaW.PrintWords
attribute [local go_sem] Later.cell Later.frozen Later.lt Later.lt_add Later.le Later.le_add Later.ne Later.ne' add_at
theorem R_cleared {α : Type} {d : Kd α} {e base g n m c : Nat} {ok : Nat → Prop} {W : World} {xs : List α} (h : d.R e W base ok (.slice (some ⟨g, 0, none⟩) n c) xs) (hm : m ≤ n) (vs : List Value) (hv : m * d.sz + vs.length ≤ n * d.sz) :
    d.R e (W.setCells g (m * d.sz) vs) base ok (.slice (some ⟨g, 0, none⟩) m c) (xs.take m) := by
  obtain ⟨hn, hnc, _⟩ := Kd.R_reads' h
  have h1 := Kd.R_take h (m := m) (by omega)
  obtain ⟨h0, inner, ho, hr⟩ := h1
  obtain ⟨hl, hb⟩ := ho
  rcases hb with ⟨hv0, _⟩ | ⟨g', cap, cur, hv0, hg, hh, r1, r2, r3, r4⟩
  · cases hv0
  injection hv0 with a1 a2 a3
  simp only [Option.some.injEq, Addr.mk.injEq, and_true] at a1
  obtain rfl := a1
  subst a3
  have hcs : n * d.sz ≤ c * d.sz := Nat.mul_le_mul_right _ hnc
  obtain ⟨cur', k1, k2, k3⟩ := setCells_row vs (m * d.sz) W cur hh (by rw [r3]; omega)
  have hml : (xs.take m).length = m := by rw [List.length_take]; omega
  have hms : m * d.sz ≤ cur.toList.length := by rw [Array.length_toList, r3]; omega
  refine ⟨h0, inner, ⟨hl, .inr ⟨g, c, cur', by rw [hml], hg, k1, r1, r2, by rw [k2]; exact r3, ?_⟩⟩, ⟨hr.1, fun j p hj => ?_⟩⟩
  · rw [← r4, k3, hml, List.append_assoc, List.take_append_of_le_length (by rw [List.length_take]; omega), List.take_take, Nat.min_self]
  · exact d.M_move (fun k hk => setCells_far vs _ k (fun e => hk.2 (by rw [e]; rfl))) (hr.2 j p hj)
theorem below_setCells {B b : Nat} {w0 : World} (hb : B ≤ b) : ∀ (vs : List Value) (o : Nat) {w : World}, Below B w0 w → Below B w0 (w.setCells b o vs)
  | [], _, _, h => h
  | v :: vs, o, w, h => below_setCells hb vs (o + 1) (h.setCell (show B ≤ b from hb) v)
set_option maxRecDepth 100000 in
set_option maxHeartbeats 8000000 in
theorem compact_t {w : World} {base g n c : Nat} {qs : List (List Int × Option Nat)} (hR : (tagK kL).R 55 w base (fun _ => True) (.slice (some ⟨g, 0, none⟩) n c) qs) (hl : ∀ r ∈ qs, r.1.length ≤ 1000000) (hn : n ≤ 1000) (h0 : 0 < n) :
    Calls Try.prog 109 #[.slice (some ⟨g, 0, none⟩) n c, .func (.func 110) #[] #[]] w (fun e w' => e = .returned (.slice (some ⟨g, 0, none⟩) (compT qs).length c) ∧ (tagK kL).R 55 w' base (fun _ => True) (.slice (some ⟨g, 0, none⟩) (compT qs).length c) (compT qs) ∧ Below base w w') := by
  obtain ⟨hqn, hnc, _⟩ := Kd.R_reads' hR
  subst hqn
  obtain ⟨_, hgb, hgs, _⟩ := (Kd.R_bound hR).1 g rfl
  have HL := Lib.hid hl
  have hlg : ∀ i, ((qs.getD i ([], none)).1).length ≤ 9223372036854775807 := fun i => by
    by_cases hi : i < qs.length
    · have := hl (qs.getD i ([], none)) (by rw [show qs.getD i ([], none) = qs[i] by simp [List.getD_eq_getElem?_getD, hi]]; exact List.getElem_mem hi)
      omega
    · rw [List.getD_eq_getElem?_getD, List.getElem?_eq_none (by omega)]
      simp
  have HLG := Lib.hid hlg
  clear hl hlg
  by_cases h2 : qs.length < 2
  · have h1 : compT qs = qs := by
      match qs, h2 with
      | [], _ => rfl
      | [q], _ => rfl
      | _ :: _ :: _, h => exact absurd h (by simp)
    have H1 := Lib.hid h1
    clear h1
    go_enter Try.func109, Try.ntmps109
    go_wp2
    rw [H1.out]
    exact bodyPost_ret (v := .slice (some ⟨g, 0, none⟩) qs.length c) (by simp [results, Try.results109, go_sem]) rfl ⟨rfl, hR, Below.refl _ _⟩
  · go_enter Try.func109, Try.ntmps109
    go_wp2
    go_loopg [5] (qs.length - 1) (fun k v w' => ∃ (i : Nat) (y : Later w), i + k = qs.length ∧ v = .int .i64 i ∧ w' = y.W ∧ 1 ≤ i ∧ compT (qs.take i) = qs.take i)
    case atStart =>
      refine ⟨1, ⟨w, Below.refl _ _⟩, by omega, rfl, rfl, Nat.le_refl _, ?_⟩
      have h5 : ∀ l : List (List Int × Option Nat), compT (l.take 1) = l.take 1 := fun l => by cases l <;> rfl
      exact h5 qs
    case round =>
      obtain ⟨i, y, hik, rfl, rfl, hi1, hct⟩ := hrel
      have HIK := Lib.hid hik
      have HCT := Lib.hid hct
      clear hik hct
      by_cases hi : i < qs.length
      · obtain ⟨A1, c1, p1, hK1, ht1⟩ := tagL_own0 hR hi (show qs.getD i ([], none) = ((qs.getD i ([], none)).1, (qs.getD i ([], none)).2) from rfl)
        obtain ⟨A0, c0, p0, hK0, ht0⟩ := tagL_own0 hR (show i - 1 < qs.length by omega) (show qs.getD (i - 1) ([], none) = ((qs.getD (i - 1) ([], none)).1, (qs.getD (i - 1) ([], none)).2) from rfl)
        have hD1 := R_C hK1
        have hD0 := R_C hK0
        have hEq := fun W h h' => equalI_c A1 A0 c1 c0 (qs.getD i ([], none)).1 (qs.getD (i - 1) ([], none)).1 W h h' (HLG.out i) (HLG.out (i - 1))
        have HT := Lib.hid (compT_take (qs := qs) (i := i) (by omega) hi)
        have hi0 : (0 : Int) ≤ i := by omega
        have hi2 : (i : Int) < qs.length := by omega
        have hin : ((i : Int)).toNat = i := by omega
        have hj0 : (0 : Int) ≤ (i : Int) - 1 := by omega
        have hj1 : (i : Int) - 1 < qs.length := by omega
        have hjn : ((i : Int) - 1).toNat = i - 1 := by omega
        clear hK1 hK0 ht1 ht0
        generalize (qs.getD i ([], none)).1 = r1 at *
        generalize (qs.getD (i - 1) ([], none)).1 = r0 at *
        have hDD := hD0
        cases he : (r1 == r0) with
        | false =>
          rw [he] at hEq
          go_wp2_with fail
          (first | refine wp_region_later2 (by kernel_rfl) (by kernel_rfl) ?_ | refine wp_region_later (by kernel_rfl) (by kernel_rfl) ?_); (repeat (go_big_quiet_step ((go_at_call 110; with_reducible exact quiet_later (hEq _ (Kd.C_below hD1 (Later.ok _)) (Kd.C_below hD0 (Later.ok _))))))); refine wpQuiet_nil ?_; intro z
          go_wp2
          go_roundg (gk - 1)
          case measure => have := HIK.out; omega
          case rel =>
            refine ⟨i + 1, z, by have := HIK.out; omega, by go_num, rfl, by omega, ?_⟩
            rw [HT.out, if_neg (by simpa using he), HCT.out, List.take_succ_eq_append_getElem hi]
            simp [List.getD_eq_getElem?_getD, hi]
        | true =>
          rw [he] at hEq
          have hst : qs.take i = compT (qs.take (i + 1)) := by
            have h5 := HT.out
            rw [if_pos (by simpa using he), List.append_nil, HCT.out] at h5
            exact h5.symm
          have HST := Lib.hid hst
          clear hst HT hD0
          have hcn : ¬ c = i := by omega
          go_wp2_with fail
          (first | refine wp_region_later2 (by kernel_rfl) (by kernel_rfl) ?_ | refine wp_region_later (by kernel_rfl) (by kernel_rfl) ?_); (repeat (go_big_quiet_step ((go_at_call 110; with_reducible exact quiet_later (hEq _ (Kd.C_below hD1 (Later.ok _)) (Kd.C_below hDD (Later.ok _))))))); refine wpQuiet_nil ?_; intro z
          have hRz := Kd.R_below hR z.ok
          have hbz := z.ok.mono (show base ≤ w.heap.size by omega)
          have hsz := z.ok.size
          clear hEq hD1 hDD p1 p0 hR
          generalize z.W = W3 at *
          go_wp2
          go_loopg [5, 7] (qs.length - i - 1) (fun k v5 v7 w' => ∃ (j t : Nat) (os : List (List Int × Option Nat)), j + k = qs.length - i ∧ 1 ≤ j ∧ v7 = .int .i64 j ∧ v5 = .int .i64 t ∧ 1 ≤ t ∧ t + 1 ≤ i + j ∧ os.length = qs.length ∧ Below base w w' ∧ w.heap.size ≤ w'.heap.size ∧ (tagK kL).R 55 w' base (fun _ => True) (.slice (some ⟨g, 0, none⟩) qs.length c) os ∧ os.take t = compT (qs.take (i + j)) ∧ ∀ u, i + j - 1 ≤ u → u < qs.length → os.getD u ([], none) = qs.getD u ([], none))
          case atStart => exact ⟨1, i, qs, by omega, Nat.le_refl _, rfl, rfl, hi1, by omega, rfl, hbz, hsz, hRz, HST.out, fun _ _ _ => rfl⟩
          case round =>
            clear hRz hbz hsz
            obtain ⟨j, t, os, hjk, hj1, rfl, rfl, ht1, htj, hol, hb, hs, hRo, htk, hos⟩ := hrel
            have HJK := Lib.hid hjk
            have HOL := Lib.hid hol
            have HTK := Lib.hid htk
            have HOS := Lib.hid hos
            have HRO := Lib.hid hRo
            clear hjk hol htk hos
            by_cases hj : i + j < qs.length
            · have e1 := HOS.out (i + j) (by omega) hj
              have e0 := HOS.out (i + j - 1) (by omega) (by omega)
              obtain ⟨A1, c1, p1, hK1, hg1⟩ := tagL_own0 HRO.out hj (show os.getD (i + j) ([], none) = ((qs.getD (i + j) ([], none)).1, (qs.getD (i + j) ([], none)).2) from e1)
              obtain ⟨A0, c0, p0, hK0, hg0⟩ := tagL_own0 HRO.out (show i + j - 1 < qs.length by omega) (show os.getD (i + j - 1) ([], none) = ((qs.getD (i + j - 1) ([], none)).1, (qs.getD (i + j - 1) ([], none)).2) from e0)
              obtain ⟨At, ct, pt, hKt, hgt⟩ := tagL_own0 HRO.out (show t < qs.length by omega) (show os.getD t ([], none) = ((os.getD t ([], none)).1, (os.getD t ([], none)).2) from rfl)
              have hD1 := R_C hK1
              have hD0 := R_C hK0
              have hEq := fun W h h' => equalI_c A1 A0 c1 c0 (qs.getD (i + j) ([], none)).1 (qs.getD (i + j - 1) ([], none)).1 W h h' (HLG.out (i + j)) (HLG.out (i + j - 1))
              have HT := Lib.hid (compT_take (qs := qs) (i := i + j) (by omega) hj)
              have HK1 := Lib.hid (And.intro hK1 hg1)
              have hgw : g < wr.heap.size := World.block_lt_of_cell? _ _ p1
              have hgw' : ¬ g = wr.heap.size := by omega
              have HQ : Hid (qs.getD (i + j) ([], none) = ((qs.getD (i + j) ([], none)).1, (qs.getD (i + j) ([], none)).2)) := Lib.hid rfl
              clear hK1 hK0 hKt hg1 hg0 hgt e1 e0
              generalize (qs.getD (i + j) ([], none)).1 = r1 at *
              generalize (qs.getD (i + j) ([], none)).2 = t1 at *
              generalize (qs.getD (i + j - 1) ([], none)).1 = r0 at *
              rw [show i + j - 1 = i + (j - 1) by omega] at p0
              have hj0 : (0 : Int) ≤ j := by omega
              have hj2 : (j : Int) < ((qs.length - i : Nat) : Int) := by omega
              have hjn : ((j : Int)).toNat = j := by omega
              have hj3 : (0 : Int) ≤ (j : Int) - 1 := by omega
              have hj4 : (j : Int) - 1 < ((qs.length - i : Nat) : Int) := by omega
              have hjm : ((j : Int) - 1).toNat = j - 1 := by omega
              cases he : (r1 == r0) with
              | true =>
                rw [he] at hEq
                clear pt
                go_wp2_with fail
                (first | refine wp_region_later2 (by kernel_rfl) (by kernel_rfl) ?_ | refine wp_region_later (by kernel_rfl) (by kernel_rfl) ?_); (repeat (go_big_quiet_step ((go_at_call 110; with_reducible exact quiet_later (hEq _ (Kd.C_below hD1 (Later.ok _)) (Kd.C_below hD0 (Later.ok _))))))); refine wpQuiet_nil ?_; intro z
                go_wp2
                go_roundg (gk - 1)
                case measure => have := HJK.out; omega
                case rel =>
                  refine ⟨j + 1, t, os, by have := HJK.out; omega, by omega, by go_num, rfl, ht1, by omega, HOL.out, hb.trans (z.ok.mono (by omega)), by have := z.ok.size; omega, Kd.R_below HRO.out z.ok, ?_, fun u h1 h2 => HOS.out u (by omega) h2⟩
                  rw [HTK.out, ← Nat.add_assoc, HT.out, if_pos (by simpa using he), List.append_nil]
              | false =>
                rw [he] at hEq
                obtain ⟨gl, capl, hvl, hgl, hgls, cellsl, hcells⟩ := Kd.R_form HRO.out (by rw [HOL.out]; omega)
                injection hvl with hvl1 hvl3 hvl2
                simp only [Option.some.injEq, Addr.mk.injEq, and_true] at hvl1
                subst hvl1
                clear hvl3 hvl2
                have hfr := blk_frozen hcells t
                have ht0 : (0 : Int) ≤ t := by omega
                have ht2 : (t : Int) < qs.length := by omega
                have htn : ((t : Int)).toNat = t := by omega
                clear hcells
                go_wp2_with fail
                (first | refine wp_region_later2 (by kernel_rfl) (by kernel_rfl) ?_ | refine wp_region_later (by kernel_rfl) (by kernel_rfl) ?_); (repeat (go_big_quiet_step ((go_at_call 110; with_reducible exact quiet_later (hEq _ (Kd.C_below hD1 (Later.ok _)) (Kd.C_below hD0 (Later.ok _))))))); refine wpQuiet_nil ?_; intro z
                have hRz := Kd.R_below HRO.out z.ok
                have hzz := z.ok.size
                have hK1 := Kd.R_below HK1.out.1 z.ok
                have ptz := z.keep pt
                go_wp2
                have hseg := Kd.R_seg hRz (t : Int) ht0 (by omega) (c := [.slice At (os.getD t ([], none)).1.length ct]) (seg := [.slice A1 r1.length c1]) (j := 0) rfl (fun v u hu => by
                  have hv : v < 1 := (List.getElem?_eq_some_iff.1 hu).1
                  obtain rfl : v = 0 := by omega
                  rw [htn]
                  show z.W.cell? ⟨g, t * 1 + 0, none⟩ = _
                  rw [Nat.mul_one, Nat.add_zero, ptz]
                  simpa using hu) (show 0 + 1 ≤ 1 by omega) (x' := (r1, t1)) (okp := fun k => k ≠ g) ⟨⟨_, rfl, Kd.R_mono hK1 fun k hk => hk.2⟩, HK1.out.2⟩ (fun k hk => ⟨trivial, fun e => hk (by simpa [Value.ownBlock] using e)⟩)
                rw [htn] at hseg
                have hse : z.W.setCells g (t * (tagK kL).sz + 0) [.slice A1 r1.length c1] = z.W.setCell ⟨g, t, none⟩ (.slice A1 r1.length c1) := by
                  show (z.W.setCell ⟨g, t * 1 + 0, none⟩ _) = _
                  rw [Nat.mul_one, Nat.add_zero]
                rw [hse] at hseg
                go_roundg (gk - 1)
                case measure => have := HJK.out; omega
                case rel =>
                  refine ⟨j + 1, t + 1, os.set t (r1, t1), by have := HJK.out; omega, by omega, by go_num, by go_num, by omega, by omega, by rw [List.length_set]; exact HOL.out, (hb.trans (z.ok.mono (by omega))).setCell (show base ≤ g from hgb) _, by simp; omega, hseg.1, ?_, fun u h1 h2 => ?_⟩
                  · have hto : t < os.length := by rw [HOL.out]; omega
                    rw [← Nat.add_assoc, HT.out, if_neg (by simpa using he), ← HTK.out, HQ.out, List.take_succ_eq_append_getElem (by rw [List.length_set]; exact hto), List.take_set_of_le (Nat.le_refl _), List.getElem_set_self]
                  · rw [← HOS.out u (by omega) h2, List.getD_eq_getElem?_getD, List.getElem?_set, if_neg (by omega), ← List.getD_eq_getElem?_getD]
            · have hje : i + j = qs.length := by have := HJK.out; omega
              obtain ⟨gl, capl, hvl, hgl, hgls, cellsl, hcells⟩ := Kd.R_form HRO.out (by rw [HOL.out]; omega)
              injection hvl with hvl1 hvl3 hvl2
              simp only [Option.some.injEq, Addr.mk.injEq, and_true] at hvl1
              subst hvl1
              clear hvl3 hvl2
              have hcl : ∀ ty, (Builtin.clear_ #[22] ty #[.slice (some ⟨g, t, none⟩) (qs.length - t) (c - t)]).run Try.prog wr = .ok (.tuple #[]) (wr.setCells g t (List.replicate (qs.length - t) (.slice none 0 0))) := fun ty =>
                Lib.run_clear_slice wr _ _ ty _ Try.underlying22 Try.zeroValue55 rfl rfl g t _ _ (by omega) (fun j' hj' => by
                  obtain ⟨At, ct, pt, _⟩ := tagL_own0 HRO.out (show t + j' < qs.length by omega) (show os.getD (t + j') ([], none) = ((os.getD (t + j') ([], none)).1, (os.getD (t + j') ([], none)).2) from rfl)
                  rw [pt]; rfl) (fun j' hj' => blk_frozen hcells _)
              have hE : compT qs = os.take t := by
                have := HTK.out
                rw [hje, List.take_length] at this
                exact this.symm
              have hEl : (compT qs).length = t := by rw [hE, List.length_take, HOL.out]; omega
              have HE := Lib.hid (And.intro hE hEl)
              have ht2 : (t : Int) ≤ qs.length := by omega
              have ht3 : (t : Int) ≤ c := by omega
              have ht0 : (0 : Int) ≤ t := by omega
              have htn : ((t : Int)).toNat = t := by omega
              have hct : ¬ c = t := by omega
              clear hE hEl hcells
              go_wp2
              have hfin := R_cleared HRO.out (m := t) (by omega) (List.replicate (qs.length - t) (.slice none 0 0)) (by show t * 1 + _ ≤ qs.length * 1; rw [List.length_replicate]; omega)
              rw [show t * (tagK kL).sz = t from Nat.mul_one t] at hfin
              rw [HE.out.2, HE.out.1]
              refine bodyPost_ret (v := .slice (some ⟨g, 0, none⟩) t c) (by simp [results, Try.results109, go_sem]) rfl ⟨rfl, hfin, below_setCells hgb _ _ hb⟩
      · have hie : i = qs.length := by have := HIK.out; omega
        subst hie
        have E := Lib.hid (show compT qs = qs by have := HCT.out; rwa [List.take_length] at this)
        have hRy := Kd.R_below hR y.ok
        go_wp2
        rw [E.out]
        exact bodyPost_ret (v := .slice (some ⟨g, 0, none⟩) qs.length c) (by simp [results, Try.results109, go_sem]) rfl ⟨rfl, hRy, y.ok.mono (by omega)⟩
end Go.Proofs.Ytimjhehagimcaaa
