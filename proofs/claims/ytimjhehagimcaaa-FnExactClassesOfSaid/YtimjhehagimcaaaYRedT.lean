/- The program's take, sort and reduce: the rows that they make lie in blocks of their own; no condition. -/
import Derived.Test.YtimjhehagimcaaaYTag0
import Derived.Test.YtimjhehagimcaaaYKitV
import Derived.Test.YtimjhehagimcaaaYRedQ
set_option linter.unusedVariables false
set_option linter.unusedSimpArgs false
namespace Go.Proofs.Ytimjhehagimcaaa
open Go.RowKit Go.Proofs.YtimjhehagimcaaaW.PrintWords
attribute [local go_sem] Later.cell Later.frozen Later.lt Later.lt_add Later.le Later.le_add Later.ne Later.ne' add_at
theorem tagL_mem {e base n c : Nat} {ok : Nat → Prop} {W : World} {A : Option Addr} {qs : List (List Int × Option Nat)} (h : (tagK kL).R e W base ok (.slice A n c) qs) : ∀ q ∈ qs, ∀ k, q.2 = some k → ok k ∧ base ≤ k ∧ k < W.heap.size := by
  intro q hq k hk
  obtain ⟨i, hi, rfl⟩ := List.getElem_of_mem hq
  obtain ⟨hn, _, _⟩ := Kd.R_reads' h
  subst hn
  obtain ⟨g, cap, hv, _, _, _⟩ := Kd.R_form h (by omega)
  injection hv with hA _ _
  subst hA
  have hi0 : (0 : Int) ≤ i := by omega
  have hi1 : (i : Int) < qs.length := by omega
  obtain ⟨cs, hl, hM, hcell, _⟩ := Kd.R_elem h (([] : List Int), (none : Option Nat)) (i : Int) hi0 hi1
  rw [Int.toNat_natCast] at hM
  have e : qs.getD i (([] : List Int), (none : Option Nat)) = qs[i] := by simp [List.getD_eq_getElem?_getD, hi]
  rw [e] at hM
  obtain ⟨⟨v, rfl, hR⟩, ht⟩ := hM
  have := (Kd.R_bound hR).1 k (ht.trans hk)
  exact ⟨this.1.1, this.2.1, this.2.2.1⟩
theorem apart_new {α : Type} {qs : List (α × Option Nat)} (h : Apart qs) {i : Nat} {y : α} {t : Option Nat} (h1 : ∀ q ∈ qs, ∀ k, q.2 = some k → t ≠ some k) : Apart (qs.set i (y, t)) := by
  refine List.pairwise_iff_getElem.2 fun a b ha hb hab => ?_
  rw [List.length_set] at ha hb
  have hp := List.pairwise_iff_getElem.1 h a b ha hb hab
  rw [List.getElem_set, List.getElem_set]
  by_cases e1 : i = a
  · rw [if_pos e1, if_neg (by omega)]
    cases hk : qs[b].2 with
    | none =>
      cases t with
      | none => exact .inl rfl
      | some k => exact .inr (by simp)
    | some k => exact .inr (h1 _ (List.getElem_mem hb) k hk)
  · rw [if_neg e1]
    by_cases e2 : i = b
    · rw [if_pos e2]
      cases hk : qs[a].2 with
      | none => exact .inl rfl
      | some k => exact .inr (fun e => h1 _ (List.getElem_mem ha) k hk e.symm)
    · rw [if_neg e2]
      exact hp
theorem apart_perm {α : Type} {qs rs : List (α × Option Nat)} (h : Apart qs) (hp : rs.Perm qs) : Apart rs :=
  (hp.symm.pairwise_iff (fun {x y} hxy => by
    rcases hxy with h1 | h1
    · cases h2 : y.2 with
      | none => exact .inl rfl
      | some k => exact .inr (by rw [h1]; simp)
    · exact .inr (fun e => h1 e.symm))).1 h
/-- Rows, each in a block of its own, that a call makes. -/
def MakesTL (E : Nat) (rs : List (List Int)) (w : World) (e : Ending) (w' : World) : Prop := ∃ v qs, e = .returned v ∧ qs.map Prod.fst = rs ∧ Apart qs ∧ (tagK kL).R E w' w.heap.size (fun _ => True) v qs ∧ Below w.heap.size w w'
theorem to_makesTL {rs : List (List Int)} {E : Nat} {P : Program} {f : FuncId} {args : Array Value} {V W : World} {R : Ending → World → Prop} (hW : Below V.heap.size V W)
    (h : Calls P f args W (MakesTL E rs W)) (k : ∀ W' A c qs, Below V.heap.size V W' → Below W.heap.size W W' → qs.map Prod.fst = rs → Apart qs → (tagK kL).R E W' W.heap.size (fun _ => True) (.slice A rs.length c) qs → R (.returned (.slice A rs.length c)) W') : Calls P f args W R :=
  h.mono fun _ w' ⟨v, qs, he, hq, ha, hr, hb⟩ => by
    obtain ⟨A, c, hv, _, _⟩ := Kd.R_reads hr
    have hl : qs.length = rs.length := by rw [← hq, List.length_map]
    rw [hl] at hv
    subst hv
    subst he
    exact k w' A c qs (hW.trans (hb.mono hW.size)) hb hq ha hr
set_option maxRecDepth 100000 in
set_option maxHeartbeats 4000000 in
theorem take_t {p : Int} {L : Nat} (hp : primeZ p) (hL : L ≤ 100000) {out : List (List Int)} {qs : List (List Int × Option Nat)} (hq : qs.map Prod.fst = out) (hap : Apart qs) (hn : out.length ≤ 100000) (hl : ∀ r ∈ out, Led p L r) {row : List Int} (hr : RowOk p L row) {A B : Option Addr} {n m c d base : Nat} {w : World} (hbase : base ≤ w.heap.size) (hR : (tagK kL).R 55 w base (fun _ => True) (.slice A n c) qs) (hD : kI.C w B m row) :
    Calls Try.prog 89 #[.int .i64 p, .slice A n c, .slice B m d] w (fun e w' => ∃ v, e = .returned v ∧ (∃ qs' : List (List Int × Option Nat), qs'.map Prod.fst = takeL p out row ∧ Apart qs' ∧ (tagK kL).R 55 w' base (fun _ => True) v qs') ∧ Below base w w') := by
  obtain ⟨hp2, hp13⟩ := hp.two
  have HQA := Lib.hid (And.intro hq (And.intro hap (tagL_mem hR)))
  have hC : kL.C w A n out := by
    have h1 := R_C (tag_R hR)
    rw [hq] at h1
    exact h1
  clear hq hap
  obtain rfl := Kd.C_len hC
  have hle := less_i (c := c) (d := d) hp2 hp13 hL hn hl hr hC hD
  have hokr := restL_ok (L := L) (p := p) (by omega) out row hr (fun r hr => (hl r hr).ok)
  have hTK0 : Hid (takeL p out row = if leadN (restL p out row) < (restL p out row).length then out.map (cutRow p (ownL p (restL p out row))) ++ [ownL p (restL p out row)] else out) := Lib.hid rfl
  by_cases hlead : leadN (restL p out row) < L
  · have hld : leadI (restL p out row) = (leadN (restL p out row) : Int) := by unfold leadI; rw [if_pos (by rw [hokr.len]; exact hlead)]
    have hTK := Lib.hid (hTK0.out.trans (if_pos (by rw [hokr.len]; exact hlead)))
    clear hTK0
    obtain ⟨hled, hlw⟩ := ownL_led hp hokr hlead
    have hv := hokr.nums (leadN (restL p out row))
    have hv1 := leadN_ne (r := restL p out row) (by rw [hokr.len]; exact hlead)
    have hir := invZ_range hp (x := (restL p out row).getD (leadN (restL p out row)) 0) (by omega) hv.2
    unfold ownL at hled hlw hTK
    generalize restL p out row = own at *
    generalize ha : leadN own = a at *
    have HOWN := Lib.hid (show own.length = L from hokr.len)
    have hown1 : own.length ≤ 100000 := by rw [HOWN.out]; exact hL
    have ha0 : (0 : Int) ≤ a := by omega
    have ha1 : (a : Int) < own.length := by have := HOWN.out; omega
    have ha2 : ((a : Int)).toNat = a := by omega
    have hlt0 : decide ((a : Int) < 0) = false := by simp
    have hig := fun W => inverse_i hp (x := own.getD a 0) (by omega) hv.2 W
    generalize hx0 : own.getD a 0 = x0 at *
    have HX0 := Lib.hid hx0
    clear hx0
    generalize invZ p x0 = iv at *
    go_enter Try.func89, Try.ntmps89
    go_wp2_with (first | (go_at_call 118; (with_reducible refine call_makes hle ?_); intro x1 A1 c1 hb1 hl1 hR1 hC1; obtain ⟨g, cap, hg, hgb, hgs, _⟩ := Kd.R_form hR1 (by have := HOWN.out; omega); injection hg with hg1 _ hg2; subst hg1; subst hg2; obtain ⟨e0, e1⟩ := kI_cell hR1 a (by omega); rw [HX0.out] at e0) | (go_at_call 92; (with_reducible refine call_later3 (lead_i (a : Int) hC1 (by omega) hld) ?_); intro x2 hb2; have e0 := pw_cell_below hb2 e0) | (go_at_call 119; (with_reducible refine call_later3 (hig _) ?_); intro x3 hb3))
    have hR3 := Kd.R_below (Kd.R_below hR1 hb2) hb3
    clear hb1 hb2 hb3 e0 e1 hR1 hC1 hle hig hld hlt0 hv hv1
    go_loopg [29] own.length (fun k v w' => ∃ (j : Nat) (z : Later w), j + k = own.length ∧ v = .int .i64 j ∧ w' = z.W ∧ kI.R 2 z.W w.heap.size (fun _ => True) (.slice (some ⟨g, 0, none⟩) own.length c1) ((scaleL p own iv).take j ++ own.drop j))
    case atStart => exact ⟨0, x3, by omega, rfl, rfl, by simpa using hR3⟩
    case round =>
      clear hR3
      obtain ⟨j, z, hjk, rfl, rfl, hRz⟩ := hrel
      have HJK := Lib.hid hjk
      clear hjk
      by_cases hj : j < own.length
      · obtain ⟨f0, f1⟩ := kI_cell hRz j hj
        rw [mix_get p own iv j hj] at f0
        have hnj := hokr.nums j
        have HST := Lib.hid (mix_set p own iv j hj)
        generalize own.getD j 0 = y1 at *
        have m1 := mul_bd3 (x := y1) (y := iv) hnj.1 (by omega) (by omega) (by omega)
        have hpz : p ≠ 0 := by omega
        have hj0 : (0 : Int) ≤ j := by omega
        have hj1 : (j : Int) < own.length := by omega
        go_wp2
        go_roundg (gk - 1)
        case measure => have := HJK.out; omega
        case rel =>
          refine ⟨j + 1, ⟨z.W.setCell ⟨g, j, none⟩ (.int .i64 (y1 * iv % p)), z.ok.setCell (show w.heap.size ≤ g from hgb) _⟩, by have := HJK.out; omega, by go_num, ?_, ?_⟩
          · simp [Int.tmod_eq_emod_of_nonneg m1.1]
          · rw [← HST.out]
            exact kI_set hRz j _
      · have hje : j = own.length := by have := HJK.out; omega
        subst hje
        have e : (scaleL p own iv).take own.length ++ own.drop own.length = scaleL p own iv := by
          rw [List.drop_length, List.append_nil, List.take_of_length_le (by simp [scaleL])]
        rw [e] at hRz
        have hRl := Kd.R_below hR z.ok
        have hbz := z.ok.mono hbase
        generalize scaleL p own iv = own2 at *
        go_wp2
        go_loopg [46] out.length (fun k v w' => ∃ (j : Nat) (os : List (List Int × Option Nat)), j + k = out.length ∧ v = .int .i64 j ∧ Below base w w' ∧ w.heap.size ≤ w'.heap.size ∧ (tagK kL).R 55 w' base (fun _ => True) (.slice A out.length c) os ∧ os.map Prod.fst = (out.take j).map (cutRow p own2) ++ out.drop j ∧ Apart os ∧ (∀ q ∈ os, q.2 ≠ some g) ∧ kI.R 2 w' w.heap.size (fun _ => True) (.slice (some ⟨g, 0, none⟩) own.length c1) own2)
        case atStart => exact ⟨0, qs, by omega, rfl, hbz, z.ok.size, hRl, by simpa using HQA.out.1, HQA.out.2.1, fun q hq e => by have := (HQA.out.2.2 q hq g e).2.2; omega, hRz⟩
        case round =>
          clear hRl hRz hbz e
          obtain ⟨j, os, hjk, rfl, hbw, hsz, hRn, hmp, hap, hgq, hRo⟩ := hrel
          have hosl : os.length = out.length := (Kd.R_reads' hRn).1.symm
          have HMP := Lib.hid (And.intro hmp (And.intro hap (And.intro hgq (tagL_mem hRn))))
          have HJK := Lib.hid hjk
          clear hjk
          by_cases hj : j < out.length
          · have hrj := hl _ (getD_mem [] hj)
            have HSET := Lib.hid (mixm_set (f := cutRow p own2) hj)
            have hCn := R_C (tag_R hRn)
            rw [hmp] at hCn
            obtain ⟨bb, ob, Br, cr, hA, q0, hcr, hCr⟩ := kL_at hCn j hj
            rw [mixm_get hj] at q0 hcr hCr
            have HCUT := Lib.hid (cut_rest hled.ok hrj.ok)
            generalize out.getD j [] = r at *
            obtain ⟨gl, capl, hvl, hgl, hgls, cellsl, hcells⟩ := Kd.R_form hRn (by rw [hosl]; omega)
            injection hvl with hvl1 hvl3 hvl2
            subst hvl1
            subst hvl2
            clear hvl3
            simp only [Option.some.injEq, Addr.mk.injEq] at hA
            obtain ⟨rfl, rfl, _⟩ := hA
            rw [Nat.zero_add] at q0
            have hj0 : (0 : Int) ≤ j := by omega
            have hj1 : (j : Int) < out.length := by omega
            have hjn : ((j : Int)).toNat = j := by omega
            have hCo := R_C hRo
            have hown2 := fun W i (hi : i = W.heap.size) (hC : kI.C W (some ⟨g, 0, none⟩) own.length own2) => kL_one W hC hl1 55 i hi
            have hfr := blk_frozen hcells j
            have hgg : gl < wr.heap.size := hgls
            have hgne : gl ≠ g := fun h => by
              have hh := (num_apart (tag_R hRn) hRo).1 g rfl
              exact hh (by rw [h]; rfl)
            clear hcells
            clear hCn HX0 hTK hmp hap hgq hosl
            go_wp2_with (first | (go_at_call 118; (with_reducible refine call_makes (less_i (c := 1) (d := cr) hp2 hp13 hL (list := [own2]) (by simp) (fun r hr => by obtain rfl := List.mem_singleton.1 hr; exact hled) hrj.ok (hown2 _ _ rfl hCo) (Kd.C_alloc hCr _)) ?_); intro x5 A5 c5 hb5 hl5 hR5 hC5))
            have hRn5 := Kd.R_below (Kd.R_alloc hRn _) hb5
            have hRo5 := Kd.R_below (Kd.R_alloc hRo _) hb5
            have hb6 : Below base w x5.W := below_then (hbw.alloc (by omega) _) (by simp; omega) hb5
            have hs6 : w.heap.size ≤ x5.W.heap.size := by have := hb5.size; simp at this; omega
            rw [HCUT.out] at hR5 hl5
            have hq5 : x5.W.cell? ⟨gl, j, none⟩ = some (.slice Br r.length cr) := x5.keep (cell_alloc q0 _)
            have hRa := Kd.R_mono (num_apart (tag_R hRn5) (Kd.R_lower hR5 (show base ≤ _ by simp; omega))) (ok' := fun k => k ≠ gl) (fun k hk he => hk (by rw [he]; rfl))
            have hseg := Kd.R_seg hRn5 (j : Int) hj0 (by omega) (c := [.slice Br r.length cr]) (seg := [.slice A5 (cutRow p own2 r).length c5]) (j := 0) rfl (fun t u hu => by
              have ht : t < 1 := (List.getElem?_eq_some_iff.1 hu).1
              obtain rfl : t = 0 := by omega
              rw [hjn]
              show x5.W.cell? ⟨gl, j * 1 + 0, none⟩ = _
              rw [Nat.mul_one, Nat.add_zero, hq5]
              simpa using hu) (show 0 + 1 ≤ 1 by omega) (x' := (cutRow p own2 r, (Value.slice A5 (cutRow p own2 r).length c5).ownBlock)) (okp := fun k => k ≠ gl) ⟨⟨_, rfl, hRa⟩, rfl⟩ (fun k hk => ⟨trivial, hk⟩)
            rw [hjn] at hseg
            have hse : x5.W.setCells gl (j * (tagK kL).sz + 0) [.slice A5 (cutRow p own2 r).length c5] = x5.W.setCell ⟨gl, j, none⟩ (.slice A5 (cutRow p own2 r).length c5) := by
              show (x5.W.setCell ⟨gl, j * 1 + 0, none⟩ _) = _
              rw [Nat.mul_one, Nat.add_zero]
            rw [hse] at hseg
            have hgl9 := (Kd.R_bound hRo).1 g rfl
            have hnew := fun k (hk : (Value.slice A5 (cutRow p own2 r).length c5).ownBlock = some k) => ((Kd.R_bound hR5).1 k hk).2.1
            simp only [World.size_alloc] at hnew
            go_roundg (out.length - j - 1)
            case measure => have := HJK.out; omega
            case rel =>
              rw [HCUT.out]
              refine ⟨j + 1, _, by have := HJK.out; omega, by go_num, hb6.setCell (show base ≤ gl from hgl) _, by simpa using hs6, hseg.1, ?_, ?_, ?_, ?_⟩
              · rw [List.map_set, HMP.out.1, HSET.out]
              · exact apart_new HMP.out.2.1 fun q hq k hk e => by
                  have h1 := (HMP.out.2.2.2 q hq k hk).2.2
                  have h2 := hnew k e
                  omega
              · intro q hq e
                rcases List.mem_or_eq_of_mem_set hq with h1 | h1
                · exact HMP.out.2.2.1 q h1 e
                · rw [h1] at e
                  have h2 := hnew g e
                  have h3 := hgl9.2.2.1
                  omega
              exact Kd.R_mono (Kd.R_far (Kd.R_mono (num_apart (tag_R hRn5) hRo5) (ok' := fun k => k ≠ gl) (fun k hk he => hk (by rw [he]; rfl))) (p := ⟨gl, j, none⟩) (fun k hk => hk) _) (fun _ _ => trivial)
          · have hje : j = out.length := by have := HJK.out; omega
            subst hje
            have hlen : os.length = out.length := hosl
            clear hmp hap hgq hosl
            go_wp2_with (((with_reducible refine gate_ (.call { callee := .builtin .append, args := #[.tmp 60, .tmp 62], argTypes := #[22, 22] }) rfl ?_); have hM := Kd.M_row (num_apart (tag_R hRn) (Kd.R_lower hRo hbase)); have hMk := (fun (k : Nat) (hk : some k ≠ (Value.slice A out.length c).ownBlock) => (⟨trivial, hk⟩ : True ∧ some k ≠ (Value.slice A out.length c).ownBlock)); refine Kd.R_append (tagK kL) (w0 := w) (W := wr) base rfl (.tmp 60) (.tmp 62) 22 55 (.slice none 0 0) 24 rfl Try.underlying22 infoL rfl (by decide) (by decide) (Value.slice A out.length c) os ((own2, some g)) [.slice (some ⟨g, 0, none⟩) own.length c1] (fun _ => True) (fun k => some k ≠ (Value.slice A out.length c).ownBlock) rfl rfl ⟨hM, rfl⟩ hMk (fun _ _ => trivial) hRn hbw (by omega) (by (first | omega | (simp; omega))) ?_; intro v6 w6 hR6 hB6 hg6 _))
            refine bodyPost_ret (v := v6) (by simp [results, Try.results89, go_sem]) rfl ⟨_, rfl, ⟨_, ?_, ?_, hR6⟩, hB6⟩
            · rw [hTK.out, List.map_append, HMP.out.1, List.take_length, List.drop_length, List.append_nil]
              rfl
            · exact apart_snoc HMP.out.2.1 fun q hq => .inr (HMP.out.2.2.1 q hq)
  · have hld : leadI (restL p out row) = -1 := by unfold leadI; rw [if_neg (by rw [hokr.len]; exact hlead)]
    have hTK := Lib.hid (hTK0.out.trans (if_neg (by rw [hokr.len]; exact hlead)))
    clear hTK0
    have hlen : (restL p out row).length ≤ 1000000 := by rw [hokr.len]; omega
    generalize restL p out row = own at *
    go_enter Try.func89, Try.ntmps89
    go_wp2_with (first | (go_at_call 118; (with_reducible refine call_makes hle ?_); intro x1 A1 c1 hb1 hl1 hR1 hC1) | (go_at_call 92; (with_reducible refine call_later3 (lead_i (-1) hC1 hlen hld) ?_); intro x2 hb2))
    refine bodyPost_ret (v := .slice A out.length c) (by simp [results, Try.results89, go_sem]) rfl ⟨_, rfl, ⟨qs, ?_, HQA.out.2.1, Kd.R_below hR x2.ok⟩, x2.ok.mono hbase⟩
    rw [hTK.out]
    exact HQA.out.1
def Elt.tag {w : World} {base g : Nat} (y : Elt w base g) : List Int × Option Nat := (y.row, y.enc.ownBlock)
set_option maxHeartbeats 1000000 in
theorem sort_t {w : World} {base g n c : Nat} {qs : List (List Int × Option Nat)} (hR : (tagK kL).R 55 w base (fun _ => True) (.slice (some ⟨g, 0, none⟩) n c) qs) (hl : ∀ r ∈ qs, r.1.length ≤ 1000000) (hn : n ≤ 1000000) :
    Calls Try.prog 90 #[.slice (some ⟨g, 0, none⟩) n c, .func (.func 91) #[] #[]] w (fun e w' => e = .returned (.tuple #[]) ∧ ∃ qs' : List (List Int × Option Nat), qs'.Perm qs ∧ (∀ i j, i < j → j < (qs'.map Prod.fst).length → leadI ((qs'.map Prod.fst).getD i []) ≤ leadI ((qs'.map Prod.fst).getD j [])) ∧
      (tagK kL).R 55 w' base (fun _ => True) (.slice (some ⟨g, 0, none⟩) n c) qs' ∧ Below base w w') := by
  obtain ⟨_, inner, hown, hreps⟩ := hR
  obtain ⟨hil, hbody⟩ := hown
  rcases hbody with ⟨hv, _⟩ | ⟨g', cap, cur, hv, hgb, hheap, hnc, hcm, hcs, htake⟩
  · cases hv
  injection hv with hv1 _ hv2
  simp only [Option.some.injEq, Addr.mk.injEq, and_true] at hv1
  obtain rfl := hv1
  subst hv2
  have hsz : (tagK kL).sz = 1 := rfl
  rw [hsz, Nat.mul_one] at hil hcs htake
  have hol : qs.length = n := by
    have := hreps.1
    rw [hsz, Nat.mul_one] at this
    omega
  obtain ⟨ds, hd1, hd2⟩ : ∃ ds : List (Elt w base g), ds.map Elt.enc = inner ∧ ds.map Elt.row = qs.map Prod.fst := elts_of (P := fun v r => kI.R 2 w base (fun k => k ≠ g) v r ∧ r.length ≤ 1000000) inner (qs.map Prod.fst) (by rw [List.length_map]; omega) (fun j p hp => by
    rw [List.getElem?_map] at hp
    obtain ⟨q, hq9, rfl⟩ := Option.map_eq_some_iff.1 hp
    clear hp
    have hp := hq9
    have h1 := hreps.2 j q hp
    rw [hsz, Nat.mul_one] at h1
    obtain ⟨⟨v, hv, hM⟩, _⟩ := h1
    have hp' := List.getElem?_eq_some_iff.1 hp
    refine ⟨v, ?_, Kd.R_mono hM (fun k hk he => hk.2 (by rw [he]; rfl)), hl q (by rw [← hp'.2]; exact List.getElem_mem hp'.1)⟩
    have h2 : ((inner.drop j).take 1)[0]? = some v := by rw [hv]; rfl
    rw [List.getElem?_take_of_lt (by omega), List.getElem?_drop] at h2
    simpa using h2)
  have hdl : ds.length = n := by
    have := congrArg List.length hd2
    simp at this
    omega
  have hd3 : ds.map Elt.tag = qs := by
    refine List.ext_getElem (by rw [List.length_map]; omega) fun j h1 h2 => ?_
    have h3 : j < ds.length := by simpa using h1
    rw [List.getElem_map]
    have e1 : (ds.map Elt.row)[j]'(by simpa using h3) = (qs.map Prod.fst)[j]'(by simpa using h2) := by simp only [hd2]
    rw [List.getElem_map, List.getElem_map] at e1
    have e2 : (ds.map Elt.enc)[j]'(by simpa using h3) = inner[j]'(by omega) := by simp only [hd1]
    rw [List.getElem_map] at e2
    have h4 := hreps.2 j qs[j] (List.getElem?_eq_getElem h2)
    rw [hsz, Nat.mul_one] at h4
    have h5 : ((inner.drop j).take 1).getLast?.bind Value.ownBlock = qs[j].2 := h4.2
    have e5 : (inner.drop j).take 1 = [inner[j]] := by
      rw [List.drop_eq_getElem_cons (by omega)]
      rfl
    rw [e5] at h5
    have h6 : inner[j].ownBlock = qs[j].2 := h5
    exact Prod.ext e1 (by show (Elt.enc ds[j]).ownBlock = _; rw [e2]; exact h6)
  have hgs : g < w.heap.size := (Array.getElem?_eq_some_iff.1 hheap).1
  have hds : ds.toArray.size = n := by simpa using hdl
  have hH : Go.Sort.Holds (Elt.enc (w := w) (base := base) (g := g)) w g 0 ds.toArray := fun j hj => by
    have hj' : j < n := by rw [← hds]; exact hj
    refine ⟨?_, blk_frozen hheap _⟩
    rw [Nat.zero_add, blk_cell hheap]
    have h3 : inner[j]? = some (Elt.enc (ds.toArray[j]!)) := by
      rw [← hd1, List.getElem?_map]
      have : j < ds.length := by omega
      simp [this, Elt.enc]
    rw [← htake, List.getElem?_take_of_lt (by omega)] at h3
    simpa using h3
  have hcon := Try.slices_SortFunc (Elt.enc (w := w) (base := base) (g := g)) (fun x => by
    obtain ⟨⟨v, r⟩, hx, _⟩ := x
    obtain ⟨A, c, e⟩ := Kd.R_slice hx
    show Value.oneCell' v = true
    rw [show v = _ from e]
    rfl) Elt.cf elt_swo 91 #[] g 0 c ds.toArray w (enters_of Try.func91 (by kernel_rfl) rfl) elt_cmp hH hgs (by rw [hds]; omega)
  rw [hds] at hcon
  refine hcon.mono fun e w' ⟨he, d', m, os, hp, hs, hw⟩ => ⟨he, d'.toList.map Elt.tag, ?_, ?_, ?_, ?_⟩
  · have h1 := hp.2.2
    have h2 := hp.1
    rw [hds] at h2
    have e1 : d'.extract 0 n = d' := by rw [← h2]; exact Array.extract_size
    have e2 : ds.toArray.extract 0 n = ds.toArray := by rw [← hds]; exact Array.extract_size
    rw [e1, e2] at h1
    have := h1.map Elt.tag
    have e3 : ds.toArray.toList.map Elt.tag = qs := hd3
    rwa [e3] at this
  · have e9 : (d'.toList.map Elt.tag).map Prod.fst = d'.toList.map Elt.row := by rw [List.map_map]; rfl
    rw [e9]
    intro i j hij hj
    have hj' : j < d'.size := by simpa using hj
    have h2 := hp.1
    rw [hds] at h2
    have := hs i j (Nat.zero_le _) hij (by omega)
    simp [Go.Proofs.ltOf, Elt.cf] at this
    have hi' : i < d'.size := by omega
    simp [List.getD_eq_getElem?_getD, hi', hj'] at this ⊢
    omega
  · subst hw
    have h2 := hp.1
    rw [hds] at h2
    have hm : ∀ k, k ≠ g → k < w.heap.size → (Go.Proofs.sortWorld Elt.enc w g 0 m d' os).heap[k]? = w.heap[k]? := fun k hk hlt => sort_other _ _ _ _ _ _ k hlt hk
    have hdl' : (d'.toList.map Elt.tag).length = n := by simpa using h2
    rw [show Value.slice (some ⟨g, 0, none⟩) n c = Value.slice (some ⟨g, 0, none⟩) (d'.toList.map Elt.tag).length c by rw [hdl']]
    refine ⟨fun _ _ => trivial, d'.toList.map Elt.enc, ⟨by simp [hsz], .inr ⟨g, c, _, rfl, hgb, sort_self _ _ _ _ _ _ hheap, by rw [hdl']; omega, hcm, by rw [hsz, Nat.mul_one]; simpa [Go.Sort.putCells] using hcs, ?_⟩⟩, ⟨by simp [hsz], fun j p hjp => ?_⟩⟩
    · rw [hsz, Nat.mul_one, hdl']
      have := put_take (Elt.enc (w := w) (base := base) (g := g)) d' cur (by omega)
      rwa [h2] at this
    · rw [hsz, Nat.mul_one]
      obtain ⟨hjl, hjp'⟩ := List.getElem?_eq_some_iff.1 hjp
      have hj' : j < d'.size := by simpa using hjl
      have he : ((d'.toList.map Elt.enc).drop j).take 1 = [Elt.enc d'[j]] := by
        rw [List.drop_eq_getElem_cons (by simpa using hj')]
        simp
      rw [he]
      have hr : p = Elt.tag d'[j] := by rw [← hjp']; simp
      rw [hr]
      refine ⟨⟨_, rfl, ?_⟩, rfl⟩
      exact Kd.R_mono (Kd.R_step d'[j].2.1 hm) (fun k hk => ⟨trivial, fun h => hk (by simpa [Value.ownBlock] using h)⟩)
  · subst hw
    refine ⟨rfl, rfl, rfl, ?_, fun k hk => sort_other _ _ _ _ _ _ k (by omega) (by omega)⟩
    simp [Go.Proofs.sortWorld, Go.Sort.grow, Go.Sort.putRow, Go.Sort.mapBlock, Go.Sort.ahead]
set_option maxRecDepth 100000 in
set_option maxHeartbeats 2000000 in
theorem reduce_t {p : Int} {L : Nat} (hp : primeZ p) (hL : L ≤ 100000) {rows : List (List Int)} (hn : rows.length ≤ 100000) (hr : ∀ r ∈ rows, RowOk p L r) {A : Option Addr} {n c : Nat} {w : World} (hC : kL.C w A n rows) :
    Calls Try.prog 49 #[.int .i64 p, .slice A n c] w (MakesTL 55 (echL p rows) w) := by
  obtain rfl := Kd.C_len hC
  have hR0 := R_zero (tagK kL) (heap_alloc_last w (.cells #[] 55)) (base := w.heap.size) (by simp)
  have hB0 : Below w.heap.size w (w.alloc (.cells #[] 55)) := bq1
  go_enter Try.func49, Try.ntmps49
  go_wp2
  go_loopg [11, 5] rows.length (fun k vi vo w' => ∃ (i : Nat) (y : Later w) (qs : List (List Int × Option Nat)), i + k = rows.length ∧ vi = .int .i64 i ∧ w' = y.W ∧ (tagK kL).R 55 y.W w.heap.size (fun _ => True) vo qs ∧ qs.map Prod.fst = (rows.take i).foldl (takeL p) [] ∧ Apart qs)
  case atStart => exact ⟨0, ⟨_, hB0⟩, [], by omega, rfl, rfl, hR0, rfl, .nil⟩
  case round =>
    clear hR0 hB0
    obtain ⟨i, y, qs, hik, rfl, rfl, hR, hmp, hap⟩ := hrel
    have HIK := Lib.hid hik
    clear hik
    obtain ⟨hred, holen⟩ := echL_take hp hr i
    have hperm := take_fold hp hr i
    by_cases hi : i < rows.length
    · obtain ⟨b, o, Br, cr, hA, q0, hcr, hCr⟩ := kL_at hC i hi
      subst hA
      have q0 := y.keep q0
      have hCy := Kd.C_below hCr y.ok
      have hrow : RowOk p L (rows.getD i []) := hr _ (getD_mem _ hi)
      have HST := Lib.hid (take_fold_step (p := p) hi)
      obtain ⟨Ao, co, hvo⟩ := Kd.R_slice hR
      subst hvo
      have hol : ((rows.take i).foldl (takeL p) []).length ≤ 100000 := by rw [hperm.length_eq]; omega
      have hled : ∀ r ∈ (rows.take i).foldl (takeL p) [], Led p L r := fun r hr => hred.led r (hperm.mem_iff.1 hr)
      have hi0 : (0 : Int) ≤ i := by omega
      have hi1 : (i : Int) < rows.length := by omega
      have hin : ((i : Int)).toNat = i := by omega
      have htk := take_t (d := cr) hp hL hmp hap hol hled hrow y.ok.size hR hCy
      clear hmp hap
      clear hperm
      generalize rows.getD i [] = row at *
      generalize (rows.take i).foldl (takeL p) [] = out at *
      go_wp2_with ((go_at_call 89; (with_reducible refine call_made htk ?_); intro w6 v6 hR6 hB6; obtain ⟨qs6, hm6, ha6, hR6⟩ := hR6))
      go_roundg (gk - 1)
      case measure => have := HIK.out; omega
      case rel =>
        refine ⟨i + 1, ⟨w6, y.ok.trans hB6⟩, qs6, by have := HIK.out; omega, by go_num, rfl, hR6, ?_, ha6⟩
        rw [HST.out]
        exact hm6
    · have hie : i = rows.length := by have := HIK.out; omega
      subst hie
      rw [List.take_length] at hmp hred hperm holen
      have HAP := Lib.hid hap
      clear hap
      obtain ⟨Ao, co, hvo⟩ := Kd.R_slice hR
      subst hvo
      have hledo : ∀ r ∈ rows.foldl (takeL p) [], r.length ≤ 1000000 := fun r hr => by
        rw [(hred.led r (hperm.mem_iff.1 hr)).ok.len]
        omega
      have hol : (rows.foldl (takeL p) []).length ≤ 1000000 := by rw [hperm.length_eq]; omega
      by_cases h0 : 0 < (rows.foldl (takeL p) []).length
      · have hql : qs.length = (rows.foldl (takeL p) []).length := by rw [← hmp, List.length_map]
        obtain ⟨g, cap, hv, hgb, hgs, _⟩ := Kd.R_form hR (by omega)
        injection hv with hv1 hv3 hv2
        subst hv1
        subst hv2
        have hsort := sort_t hR (fun r hr => hledo r.1 (by rw [← hmp]; exact List.mem_map_of_mem hr)) (by omega)
        have HMP := Lib.hid hmp
        clear hmp hql
        have HRD := Lib.hid hred
        have HPM := Lib.hid hperm
        clear hred hperm hledo
        generalize rows.foldl (takeL p) [] = out at *
        go_wp2_with ((go_at_call 90; refine hsort.mono ?_; rintro e w7 ⟨rfl, qs', hp1, hs1, hR7, hB7⟩))
        have hp2 := hp1.map Prod.fst
        rw [HMP.out] at hp2
        have heq := sorted_eq (hp2.trans HPM.out) HRD.out hs1
        refine bodyPost_ret (v := .slice (some ⟨g, 0, none⟩) qs.length co) (by simp [results, Try.results49, go_sem]) rfl ⟨_, qs', rfl, heq, apart_perm HAP.out hp1, hR7, y.ok.trans hB7⟩
      · have hnil : rows.foldl (takeL p) [] = [] := List.eq_nil_of_length_eq_zero (by omega)
        have he : echL p rows = [] := by
          rw [hnil] at hperm
          exact hperm.nil_eq.symm
        rw [hnil] at hmp
        obtain rfl : qs = [] := List.map_eq_nil_iff.1 hmp
        clear hmp
        have hsort := fun fv W => Try.slices_SortFunc_none (α := Int) Ao co fv W
        clear hperm hred hledo hol h0
        go_wp2_with ((go_at_call 90; refine (hsort _ _).mono ?_; rintro e w7 ⟨rfl, rfl⟩))
        refine bodyPost_ret (v := .slice Ao 0 co) (by simp [results, Try.results49, go_sem]) rfl ⟨_, [], rfl, he.symm, .nil, hR, y.ok⟩
end Go.Proofs.Ytimjhehagimcaaa
