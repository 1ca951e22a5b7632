/- The reference's orbit of a point: points put in one after the other; no condition. -/
import Derived.Test.YtimjhehagimcaaaYOrbW
import Derived.Deep.RegionHeld3
import Derived.Deep.CutRange
set_option linter.unusedVariables false
set_option linter.unusedSimpArgs false
namespace Go.Proofs.Ytimjhehagimcaaa
open Go.RowKit Go.Proofs.YtimjhehagimcaaaW.PrintWords
attribute [local go_sem] Later.cell Later.frozen Later.lt Later.lt_add Later.le Later.le_add Later.ne Later.ne' add_at
attribute [local go_sem 2000] run_eqM guardM
theorem tagQ_reads {α : Type} {d : Kd α} {e base n c : Nat} {ok : Nat → Prop} {w : World} {A : Option Addr} {xs : List α} (h : d.R e w base ok (.slice A n c) xs) : ReadsRow (d.M w base (fun k => ok k ∧ some k ≠ (Value.slice A n c).ownBlock)) d.sz w A xs.length xs := by
  obtain ⟨A', c', hv, _, hr⟩ := OwnRow.reads h.2
  injection hv with e1 e2 e3
  subst e1
  exact hr
theorem rr_take {α : Type} {R : α → List Value → Prop} {sz m : Nat} {w : World} {A : Option Addr} {xs : List α} (h : ReadsRow R sz w A xs.length xs) (hm : m ≤ xs.length) : ReadsRow R sz w A (xs.take m).length (xs.take m) := by
  have hl : (xs.take m).length = m := by rw [List.length_take]; omega
  refine ⟨rfl, by rw [hl]; have := h.2.1; omega, fun hp => ?_⟩
  obtain ⟨ad, e, hc⟩ := h.2.2 (by omega)
  refine ⟨ad, e, fun j p hj => hc j p ?_⟩
  rw [List.getElem?_take] at hj
  split at hj
  · exact hj
  · cases hj
theorem rr_drop {α : Type} {R : α → List Value → Prop} {sz m c : Nat} {w : World} {A : Option Addr} {xs : List α} (h : ReadsRow R sz w A xs.length xs) (hm : m ≤ xs.length) (hc : xs.length ≤ c) : ReadsRow R sz w (if c = m then A else A.map (·.add (m * sz))) (xs.drop m).length (xs.drop m) := by
  have hl : (xs.drop m).length = xs.length - m := List.length_drop
  refine ⟨rfl, by rw [hl]; have := h.2.1; omega, fun hp => ?_⟩
  rw [hl] at hp
  obtain ⟨ad, rfl, hcell⟩ := h.2.2 (by omega)
  rw [if_neg (by omega)]
  refine ⟨ad.add (m * sz), rfl, fun j p hj => ?_⟩
  rw [List.getElem?_drop] at hj
  obtain ⟨cs, h1, h2, h3⟩ := hcell (m + j) p hj
  refine ⟨cs, h1, h2, fun i u hu => ?_⟩
  rw [add_add, show m * sz + (j * sz + i) = (m + j) * sz + i by rw [Nat.add_mul]; omega]
  exact h3 i u hu
/-- Rows read with what they own, in a later world. -/
theorem rr_later {α : Type} {d : Kd α} {base n : Nat} {ok : Nat → Prop} {w w1 : World} {A : Option Addr} {xs : List α} (h : ReadsRow (d.M w base ok) d.sz w A n xs) (hb : Below w.heap.size w w1) : ReadsRow (d.M w1 base (fun k => k < w.heap.size)) d.sz w1 A n xs :=
  h.imp_ hb fun _ _ hM => d.M_mono (fun k hk => hk.2.2.1) (d.M_move (fun k hk => hb.block k hk.2.2.1) (d.M_bound hM))
/-- One row laid alone in a new block. -/
theorem R_oneL {own : List Int} {Bo : Option Addr} {lo co base e : Nat} {ok : Nat → Prop} {W : World} (hR : kI.R 2 W base ok (.slice Bo lo co) own) (hb : base ≤ W.heap.size) : kL.R 55 (W.alloc (.cells #[.slice Bo lo co] 55)) base (fun _ => True) (.slice (some ⟨W.heap.size, 0, none⟩) 1 1) [own] := by
  have h2 := World.ownsRow_lit (base := base) (e := 55) (size := 1) W #[.slice Bo lo co] 1 hb (by simp [maxLen]) (by simp)
  refine ⟨fun _ _ => trivial, [.slice Bo lo co], h2, rfl, fun j p hj => ?_⟩
  have hj0 : j = 0 := by
    rcases Nat.eq_zero_or_pos j with h | h
    · exact h
    · rw [List.getElem?_eq_none (show [own].length ≤ j from h)] at hj
      cases hj
  subst hj0
  have hp : own = p := by simpa using hj
  subst hp
  exact ⟨_, rfl, Kd.R_mono (Kd.R_alloc (Kd.R_bound hR) _) fun k hk => ⟨trivial, fun e => by
    have h1 := hk.2.2.1
    have h3 : k = W.heap.size := by simpa [Value.ownBlock] using e
    omega⟩⟩
theorem orbS_step {p : Int} {n : Nat} {xs : List Int} {ms : List M9} {j : Nat} (h : j < ms.length) : orbS ((orbL p n xs ms).take (j + 1)) = insI (ledL p n xs (ms.getD j zM)) (orbS ((orbL p n xs ms).take j)) := by
  rw [orbL_take h, orbS_snoc]
theorem orbS_mlen {p : Int} {n : Nat} {xs : List Int} {ms : List M9} {j : Nat} : ∀ x ∈ orbS ((orbL p n xs ms).take j), x.length = n := fun x hx => by
  have h1 := List.mem_of_mem_take ((orbS_mem _ _).1 hx)
  obtain ⟨m, _, rfl⟩ := List.mem_map.1 h1
  exact ledL_len p n xs m
theorem below_of_grown {w w1 : World} {o : Obj} (hg : (w.alloc o).grownBy w1 (some w.heap.size)) : Below w.heap.size w w1 :=
  ⟨hg.os, hg.tape, hg.output, by have := hg.size; simp at this; omega, fun k hk => (hg.block k (by simp; omega) (by simp; omega)).trans (Below.heap_alloc _ _ _ hk)⟩
theorem below_grown2 {w w1 w2 : World} {v : Value} (hb : Below w.heap.size w w1) (hg : w1.grownBy w2 v.ownBlock) (hv : ∀ k, v.ownBlock = some k → w.heap.size ≤ k) : Below w.heap.size w w2 :=
  hb.trans ⟨hg.os, hg.tape, hg.output, by have := hg.size; have := hb.size; omega, fun k hk => hg.block k (by have := hb.size; omega) fun e => by have := hv k e.symm; omega⟩
theorem own_ge {v v1 : Value} {M N : Nat} (h : v1.ownBlock = v.ownBlock ∨ ∃ b, v1.ownBlock = some b ∧ N ≤ b) (hv : ∀ k, v.ownBlock = some k → M ≤ k) (hMN : M ≤ N) : ∀ k, v1.ownBlock = some k → M ≤ k := fun k hk => by
  rcases h with e | ⟨b, e, hb⟩
  · exact hv k (e.symm.trans hk)
  · rw [e] at hk
    injection hk with hk
    omega
theorem info_L1 : ∃ i0, Try.prog.info? 55 = some i0 ∧ i0.size = 1 := by
  obtain ⟨i0, h1, h2⟩ := Option.map_eq_some_iff.1 infoL
  simp only [Prod.mk.injEq] at h2
  exact ⟨i0, h1, h2.2.1⟩
set_option maxRecDepth 100000 in
set_option maxHeartbeats 8000000 in
theorem l02Orbit_c (p : Int) (n : Nat) (A : Option Addr) (c : Nat) (ms : List M9) (B : Option Addr) (e : Nat) (xs : List Int) (w : World) (hC : kM.C w A ms.length ms) (hD : kI.C w B xs.length xs) (hN : ms.length ≤ 48) (hms : ∀ i, i < ms.length → (ms.getD i zM).le p) (hp : 2 ≤ p) (hp' : p ≤ 13) (h1 : 1 ≤ n) (h3 : n ≤ 3) (hxn : xs.length = n) (hnums : ∀ i, 0 ≤ xs.getD i 0 ∧ xs.getD i 0 < p) :
    Calls Try.prog 74 #[.agg #[.int .i64 p, .int .i64 n, .slice A ms.length c], .slice B xs.length e] w (Makes kL 55 (orbS (orbL p n xs ms)) w) := by
  have HMS := Lib.hid hms
  have HNU := Lib.hid hnums
  have HXN := Lib.hid hxn
  have hbW : Below w.heap.size w (w.alloc (.cells #[.int .i64 p, .int .i64 n, .slice A ms.length c] 31)) := below_alloc2 w (.cells #[.int .i64 p, .int .i64 n, .slice A ms.length c] 31)
  have hC2 := Kd.C_below hC hbW
  have hD2 := Kd.C_below hD hbW
  have g0 : (w.alloc (.cells #[.int .i64 p, .int .i64 n, .slice A ms.length c] 31)).cell? ⟨w.heap.size, 0, none⟩ = some (.int .i64 p) := bq5
  have g1 : (w.alloc (.cells #[.int .i64 p, .int .i64 n, .slice A ms.length c] 31)).cell? ⟨w.heap.size, 1, none⟩ = some (.int .i64 n) := bq5
  have g2 : (w.alloc (.cells #[.int .i64 p, .int .i64 n, .slice A ms.length c] 31)).cell? ⟨w.heap.size, 2, none⟩ = some (.slice A ms.length c) := bq5
  have hz2 : (w.alloc (.cells #[.int .i64 p, .int .i64 n, .slice A ms.length c] 31)).heap.size = w.heap.size + 1 := by simp
  have hR0 := R_zero kL (e := 55) (heap_alloc_last (w.alloc (.cells #[.int .i64 p, .int .i64 n, .slice A ms.length c] 31)) (.cells #[] 55)) (Nat.le_refl _)
  have hb23 := below_alloc2 (w.alloc (.cells #[.int .i64 p, .int .i64 n, .slice A ms.length c] 31)) (.cells #[] 55)
  clear hms hnums hxn
  go_enter Try.func74, Try.ntmps74
  go_wp2
  generalize hW2 : (w.alloc (.cells #[.int .i64 p, .int .i64 n, .slice A ms.length c] 31)) = W2 at *
  generalize hV1 : W2.alloc (.cells #[] 55) = V1 at *
  generalize hgb : w.heap.size = gb at *
  clear hW2 hV1
  go_loopg [6, 5] ms.length (fun g v12 v5 w' => ∃ (j : Nat) (P : Option Addr) (cP : Nat), j + g = ms.length ∧ v12 = .int .i64 j ∧ v5 = .slice P (orbS ((orbL p n xs ms).take j)).length cP ∧ Below W2.heap.size W2 w' ∧ kL.R 55 w' W2.heap.size (fun _ => True) (.slice P (orbS ((orbL p n xs ms).take j)).length cP) (orbS ((orbL p n xs ms).take j)))
  case atStart => exact ⟨0, some ⟨gb + 1, 0, none⟩, 0, by omega, rfl, rfl, hb23, by rw [hz2] at hR0 ⊢; exact hR0⟩
  case round =>
    clear hR0 hb23
    obtain ⟨j, P, cP, hjk, rfl, rfl, hb, hR⟩ := hrel
    have HJK := Lib.hid hjk
    clear hjk
    have g0 := pw_cell_below hb g0
    have g1 := pw_cell_below hb g1
    have g2 := pw_cell_below hb g2
    have zg := World.block_lt_of_cell? _ _ g0
    simp only [] at zg
    by_cases hj : j < ms.length
    · obtain ⟨b, o, hA, q0, q1, q2, q3, q4, q5, q6, q7, q8⟩ := kM_at hC2 j hj
      subst hA
      have q0 := pw_cell_below hb q0
      have q1 := pw_cell_below hb q1
      have q2 := pw_cell_below hb q2
      have q3 := pw_cell_below hb q3
      have q4 := pw_cell_below hb q4
      have q5 := pw_cell_below hb q5
      have q6 := pw_cell_below hb q6
      have q7 := pw_cell_below hb q7
      have q8 := pw_cell_below hb q8
      have zb := World.block_lt_of_cell? _ _ q0
      simp only [] at zb
      have hj0 : (0 : Int) ≤ j := by omega
      have hj1 : (j : Int) < ms.length := by omega
      have hjn : ((j : Int)).toNat = j := by omega
      have HST := Lib.hid (orbS_step (p := p) (n := n) (xs := xs) hj)
      have HML := Lib.hid (orbS_mlen (p := p) (n := n) (xs := xs) (ms := ms) (j := j))
      have hol : (orbS ((orbL p n xs ms).take j)).length ≤ 48 := by
        have h5 := orbS_len ((orbL p n xs ms).take j)
        rw [List.length_take, orbL_len] at h5
        omega
      have hmj := HMS.out j hj
      have hL := fun W (h : kI.C W B xs.length xs) => l02Lead_c (c := e) (ms.getD j zM) h HXN.out hp hp' h1 h3 hmj HNU.out
      have hll := ledL_len p n xs (ms.getD j zM)
      generalize ms.getD j zM = m at *
      generalize ledL p n xs m = own at *
      generalize orbS ((orbL p n xs ms).take j) = out at *
      have HLL := Lib.hid hll
      have HOL := Lib.hid hol
      have HR := Lib.hid hR
      have hDr := Kd.C_below hD2 hb
      clear hR hll hol
      go_wp2_with fail
      go_cut [7, 8] from 18 to 28 (fun v7 v8 wx => ∃ (Bo : Option Addr) (co : Nat), v7 = .slice Bo own.length co ∧ v8 = .int .i64 0 ∧ kI.R 2 wx wr.heap.size (fun _ => True) (.slice Bo own.length co) own ∧ Below wr.heap.size wr wx)
      case first =>
        go_region_held3 (fun w' => w'.cell? ⟨gb, 0, none⟩ = some (.int .i64 p) ∧ w'.cell? ⟨gb, 1, none⟩ = some (.int .i64 n) ∧ w'.cell? ⟨gb, 2, none⟩ = some (.slice (some ⟨b, o, none⟩) ms.length c) ∧ w'.cell? ⟨b, o + j * 9, none⟩ = some (.int .u8 (m.r0.a.toNat : Int)) ∧ w'.cell? ⟨b, o + j * 9 + 1, none⟩ = some (.int .u8 (m.r0.b.toNat : Int)) ∧ w'.cell? ⟨b, o + j * 9 + 2, none⟩ = some (.int .u8 (m.r0.c.toNat : Int)) ∧ w'.cell? ⟨b, o + j * 9 + 3, none⟩ = some (.int .u8 (m.r1.a.toNat : Int)) ∧ w'.cell? ⟨b, o + j * 9 + 4, none⟩ = some (.int .u8 (m.r1.b.toNat : Int)) ∧ w'.cell? ⟨b, o + j * 9 + 5, none⟩ = some (.int .u8 (m.r1.c.toNat : Int)) ∧ w'.cell? ⟨b, o + j * 9 + 6, none⟩ = some (.int .u8 (m.r2.a.toNat : Int)) ∧ w'.cell? ⟨b, o + j * 9 + 7, none⟩ = some (.int .u8 (m.r2.b.toNat : Int)) ∧ w'.cell? ⟨b, o + j * 9 + 8, none⟩ = some (.int .u8 (m.r2.c.toNat : Int))) ((refine ⟨?_, ?_, ?_, ?_, ?_, ?_, ?_, ?_, ?_, ?_, ?_, ?_⟩ <;> ((repeat (refine cell_far2 ?_ (by dsimp only; omega))); (first | assumption | (exact cell_alloc (by assumption) _))))) ((go_at_call 103; (first | (with_reducible refine call_makes2 (hL _ ?hcc) ?_) | (with_reducible refine call_makes (hL _ ?hcc) ?_)); (case hcc => exact Kd.C_below hDr bq2); intro x1 A1 c1 hb1 hl1 hR1 hC1; have hxx := hb1.size; (try simp at hxx); have g0x := pw_cell_below hb1 g0; have g1x := pw_cell_below hb1 g1; have g2x := pw_cell_below hb1 g2; have q0x := pw_cell_below hb1 q0; have q1x := pw_cell_below hb1 q1; have q2x := pw_cell_below hb1 q2; have q3x := pw_cell_below hb1 q3; have q4x := pw_cell_below hb1 q4; have q5x := pw_cell_below hb1 q5; have q6x := pw_cell_below hb1 q6; have q7x := pw_cell_below hb1 q7; have q8x := pw_cell_below hb1 q8))
        all_goals (go_wp2_with fail; go_meet; exact ⟨A1, c1, by rw [HLL.out], rfl, (by first | exact Kd.R_lower hR1 (by simp) | exact Kd.R_lower (Kd.R_drew hR1) (by simp)), bq2⟩)
      case rest =>
        obtain ⟨Bo, co, rfl, rfl, hRo, hbo⟩ := hcut
        generalize hW5 : wc = W5 at *
        clear hW5
        have hzo := hbo.size
        have g0 := pw_cell_below hbo g0
        have g1 := pw_cell_below hbo g1
        have g2 := pw_cell_below hbo g2
        have hR5 := Kd.R_below HR.out hbo
        have hb5 := hb.trans (hbo.mono hb.size)
        have hDo := R_C hRo
        have hCo := (Kd.R_reads' hR5).2.2
        have hPc := (Kd.R_reads' hR5).2.1
        have HR5 := Lib.hid (And.intro hR5 hRo)
        have HB5 := Lib.hid hb5
        have hsb := hb.size
        clear q0 q1 q2 q3 q4 q5 q6 q7 q8 hL hDr hR5 hRo hb5 hbo hb
        have hat := atI_le own out
        have HAT := Lib.hid (atI_step own out)
        have hol8 : out.length ≤ 48 := HOL.out
        have hown3 : own.length ≤ 3 := by have := HLL.out; omega
        go_upto_block 2 with fail
        go_cut [8] from 29 to 43 (fun v8 wx => v8 = .int .i64 (atI own out) ∧ Below W5.heap.size W5 wx)
        case first =>
          go_wp2_with fail
          go_loopg [8] out.length (fun k v w'' => ∃ (t : Nat) (y : Later W5), t + k = out.length ∧ v = .int .i64 t ∧ w'' = y.W ∧ t ≤ atI own out)
          case atStart => exact ⟨0, ⟨W5, Below.refl _ _⟩, by omega, rfl, rfl, Nat.zero_le _⟩
          case round =>
            obtain ⟨t, y, htk, rfl, rfl, hta⟩ := hrel
            have HTK := Lib.hid htk
            clear htk
            by_cases ht : t < out.length
            · obtain ⟨bb, ob, Br, cr, hA, s0, hcr, hCr⟩ := kL_at hCo t ht
              subst hA
              have zs0 := World.block_lt_of_cell? _ _ s0
              simp only [] at zs0
              have hrl := HML.out _ (getD_mem [] ht)
              have hst := HAT.out t hta ht
              have hcm := fun W h h' => l02Compare_c Br Bo cr co (out.getD t []) own W h h' (by rw [hrl]; omega) (by rw [hrl, HLL.out])
              generalize out.getD t [] = r at *
              generalize cmpI r own = kc at *
              have HST := Lib.hid hst
              have ht0 : (0 : Int) ≤ t := by omega
              have ht1 : (t : Int) < out.length := by omega
              have htn : ((t : Int)).toNat = t := by omega
              have HRL := Lib.hid hrl
              clear hst hrl
              by_cases hk : kc < 0
              · go_wp2_with (go_at_call 104; (first | (with_reducible refine call_later2 (hcm _ ?hcc ?hcd) ?_) | (with_reducible refine call_later (hcm _ ?hcc ?hcd) ?_)); (case hcc => exact Kd.C_below hCr bq2); (case hcd => exact Kd.C_below hDo bq2); intro x)
                go_roundg (gk - 1)
                case measure => have := HTK.out; omega
                case rel => exact ⟨t + 1, x, by have := HTK.out; omega, by go_num, rfl, HST.out.1 hk⟩
              · have E := Lib.hid (show t = atI own out by
                  have := mt HST.out.2 hk
                  omega)
                go_wp2_with (go_at_call 104; (first | (with_reducible refine call_later2 (hcm _ ?hcc ?hcd) ?_) | (with_reducible refine call_later (hcm _ ?hcc ?hcd) ?_)); (case hcc => exact Kd.C_below hCr bq2); (case hcd => exact Kd.C_below hDo bq2); intro x)
                go_meet
                exact ⟨by rw [E.out], x.ok⟩
            · have E := Lib.hid (show t = atI own out by have := HTK.out; omega)
              have ht1 : ¬ (t : Int) < out.length := by omega
              go_wp2_with fail
              go_meet
              exact ⟨by rw [E.out], y.ok⟩
        case rest =>
          obtain ⟨rfl, hbw⟩ := hcut
          generalize hW6 : wc = W6 at *
          clear hW6
          have hz6 := hbw.size
          have g0 := pw_cell_below hbw g0
          have g1 := pw_cell_below hbw g1
          have g2 := pw_cell_below hbw g2
          have hCo6 := Kd.C_below hCo hbw
          have hDo6 := Kd.C_below hDo hbw
          have hR6 := Kd.R_below HR5.out.1 hbw
          have hRo6 := Kd.R_below HR5.out.2 hbw
          have hb6 := HB5.out.trans (hbw.mono HB5.out.size)
          have HR6 := Lib.hid (And.intro hR6 (And.intro hRo6 hb6))
          clear hCo hDo hR6 hRo6 hb6 hbw HR5 HB5
          go_upto_region 8 with fail
          go_cut [56] from 44 to 56 (fun v wx => v = .bool (decide (atI own out < out.length ∧ cmpI (out.getD (atI own out) []) own = 0)) ∧ Below W6.heap.size W6 wx)
          case first =>
            by_cases ht : atI own out < out.length
            · obtain ⟨bb, ob, Br, cr, hA, s0, hcr, hCr⟩ := kL_at hCo6 (atI own out) ht
              subst hA
              have zs0 := World.block_lt_of_cell? _ _ s0
              simp only [] at zs0
              have hrl := HML.out _ (getD_mem [] ht)
              have hcm := fun W h h' => l02Compare_c Br Bo cr co (out.getD (atI own out) []) own W h h' (by rw [hrl]; omega) (by rw [hrl, HLL.out])
              have HDE := Lib.hid (show decide (atI own out < out.length ∧ cmpI (out.getD (atI own out) []) own = 0) = (cmpI (out.getD (atI own out) []) own == 0) by rw [Bool.eq_iff_iff, decide_eq_true_iff, beq_iff_eq]; exact ⟨fun h => h.2, fun h => ⟨ht, h⟩⟩)
              generalize atI own out = t at *
              generalize decide (t < out.length ∧ cmpI (out.getD t []) own = 0) = de at *
              generalize out.getD t [] = r at *
              generalize cmpI r own = kc at *
              have ht0 : (0 : Int) ≤ t := by omega
              have ht1 : (t : Int) < out.length := by omega
              have htn : ((t : Int)).toNat = t := by omega
              clear hrl
              go_wp2_with (go_at_call 104; (first | (with_reducible refine call_later2 (hcm _ ?hcc ?hcd) ?_) | (with_reducible refine call_later (hcm _ ?hcc ?hcd) ?_)); (case hcc => exact Kd.C_below hCr bq2); (case hcd => exact Kd.C_below hDo6 bq2); intro x)
              go_meet
              exact ⟨by rw [HDE.out], x.ok⟩
            · have HDE := Lib.hid (show decide (atI own out < out.length ∧ cmpI (out.getD (atI own out) []) own = 0) = false from decide_eq_false fun h => ht h.1)
              generalize decide (atI own out < out.length ∧ cmpI (out.getD (atI own out) []) own = 0) = de at *
              have ht1 : ¬ (atI own out : Int) < out.length := by omega
              go_wp2_with fail
              go_meet
              exact ⟨by rw [HDE.out], Below.refl _ _⟩
          case rest =>
            obtain ⟨rfl, hbw⟩ := hcut
            generalize hW7 : wc = W7 at *
            clear hW7
            have hz7 := hbw.size
            have hR7 := Kd.R_below HR6.out.1 hbw
            have hRo7 := Kd.R_below HR6.out.2.1 hbw
            have hb7 := HR6.out.2.2.trans (hbw.mono HR6.out.2.2.size)
            clear hbw HR6 hCo6 hDo6 g0 g1 g2
            cases hde : decide (atI own out < out.length ∧ cmpI (out.getD (atI own out) []) own = 0) with
            | true =>
              have hin := Lib.hid (show insI own out = out from if_pos (of_decide_eq_true hde))
              clear hde
              go_wp2
              go_roundg (gk - 1)
              case measure => have := HJK.out; omega
              case rel =>
                refine ⟨j + 1, P, cP, by have := HJK.out; omega, by go_num, ?_, hb7, ?_⟩
                · rw [HST.out, hin.out]
                · rw [HST.out, hin.out]
                  exact hR7
            | false =>
              have hin := Lib.hid (show insI own out = out.take (atI own out) ++ (own :: out.drop (atI own out)) from if_neg (of_decide_eq_false hde))
              clear hde
              obtain ⟨i0, hi0, hsz0⟩ := info_L1
              generalize atI own out = k at *
              have hcf := cut_from (P := Try.prog) 22 55 .i64 Try.underlying22 hi0 1 hsz0 P out.length cP ((k : Nat) : Int) (by omega) (by omega)
              have hct := cut_to (P := Try.prog) 22 55 .i64 Try.underlying22 hi0 P out.length cP ((k : Nat) : Int) (by omega) (by omega) hPc
              have hrr := tagQ_reads hR7
              have hDr := rr_drop (c := cP) hrr hat hPc
              have hTk := rr_take hrr hat
              have hdl : (out.drop k).length = out.length - k := List.length_drop
              have htl : (out.take k).length = k := by rw [List.length_take]; omega
              rw [hdl] at hDr
              rw [htl] at hTk
              have HDL := Lib.hid hdl
              have HTL := Lib.hid htl
              clear hdl htl
              simp only [Int.toNat_natCast] at hcf hct
              have e9 : k * kL.sz = k * 1 := rfl
              rw [e9] at hDr
              generalize (if cP = k then P else Option.map (fun x => x.add (k * 1)) P) = A' at hcf hDr
              have HINS := Lib.hid (show ([] ++ out.take k) ++ ([own] ++ out.drop k) = insI own out by rw [hin.out]; rfl)
              have HLN := Lib.hid (show (([] ++ out.take k) ++ ([own] ++ out.drop k)).length = out.length + 1 by simp; omega)
              have HLR := Lib.hid (show ([own] ++ out.drop k).length = out.length - k + 1 by simp)
              clear hin e9
              generalize out.drop k = dk at *
              generalize out.take k = tk at *
              have hk0 : (0 : Int) ≤ k := by omega
              have hk1 : (k : Int) ≤ out.length := by omega
              have hbs : W2.heap.size ≤ W7.heap.size := hb7.size
              have hRo7b : kI.R 2 W7 W2.heap.size (fun _ => True) (.slice Bo own.length co) own := Kd.R_lower hRo7 hsb
              have hone := R_oneL (e := 55) hRo7b hbs
              have hDr1 := rr_later hDr (below_alloc2 W7 (.cells #[.slice Bo own.length co] 55))
              have HR7 := Lib.hid (And.intro hR7 (And.intro hRo7 hb7))
              clear hR7 hRo7 hb7 hrr
              go_wp2_with (first
                | ((with_reducible refine gate_builtin (b := .append) (xs := #[.tmp 58, .tmp 61]) rfl ?_); at_builtin; refine Kd.R_append_rows kL (w0 := W7.alloc (.cells #[.slice Bo own.length co] 55)) (W := W7.alloc (.cells #[.slice Bo own.length co] 55)) W2.heap.size rfl (.tmp 58) (.tmp 61) 22 55 (.slice none 0 0) 24 rfl Try.underlying22 infoL rfl (by decide) (by decide) (.slice (some ⟨W7.heap.size, 0, none⟩) 1 1) [own] dk A' (out.length - k) (cP - k) (fun _ => True) (fun k => k < W7.heap.size) rfl rfl hone hDr1 (fun _ _ h => h) (fun k' hk' => ⟨trivial, fun e => by (have h5 : k' = W7.heap.size := by simpa [Value.ownBlock] using e); omega⟩) (fun _ _ => trivial) (Below.refl _ _) (by simp; omega) (by simp only [List.length_singleton]; omega) ?_; intro v1 w1 hR1 hB1 hg1 hat1; obtain ⟨A1, c1, rfl, hl1, hC1⟩ := Kd.R_reads hR1; have hB71 := below_of_grown hg1; have hz71 := hB71.size; have hTk2 := rr_later (rr_later hTk hB71) (below_alloc2 w1 (.cells #[] 55)); have hRR1 := tagQ_reads hR1)
                | ((with_reducible refine gate_builtin (b := .append) (xs := #[.tmp 63, .tmp 66]) rfl ?_); at_builtin; refine Kd.R_append_rows kL (w0 := w1.alloc (.cells #[] 55)) (W := w1.alloc (.cells #[] 55)) W2.heap.size rfl (.tmp 63) (.tmp 66) 22 55 (.slice none 0 0) 24 rfl Try.underlying22 infoL rfl (by decide) (by decide) (.slice (some ⟨w1.heap.size, 0, none⟩) 0 0) [] tk P k cP (fun _ => True) (fun k => k < w1.heap.size) rfl rfl (R_zero kL (heap_alloc_last w1 (.cells #[] 55)) (by omega)) hTk2 (fun _ _ h => h) (fun k' hk' => ⟨trivial, fun e => by (have h5 : k' = w1.heap.size := by simpa [Value.ownBlock] using e); omega⟩) (fun _ _ => trivial) (Below.refl _ _) (by first | (simp; done) | (simp; omega)) (by first | omega | (simp only [List.length_nil]; omega)) ?_; intro v2 w2 hR2 hB2 hg2 hat2; have hB12 := below_of_grown hg2; have hz12 := hB12.size; have hRR2 := rr_later hRR1 hB12; have hv2 := own_ge (M := w1.heap.size) hat2 (fun k' hk' => by (have h5 : w1.heap.size = k' := by simpa [Value.ownBlock] using hk'); omega) (by simp); obtain ⟨A2, c2, rfl, hl2, hC2⟩ := Kd.R_reads hR2)
                | ((with_reducible refine gate_builtin (b := .append) (xs := #[.tmp 67, .tmp 68]) rfl ?_); at_builtin; refine Kd.R_append_rows kL (w0 := w2) (W := w2) W2.heap.size rfl (.tmp 67) (.tmp 68) 22 55 (.slice none 0 0) 24 rfl Try.underlying22 infoL rfl (by decide) (by decide) (.slice A2 ([] ++ tk).length c2) ([] ++ tk) ([own] ++ dk) A1 ([own] ++ dk).length c1 (fun _ => True) (fun k => k < w1.heap.size) rfl rfl hR2 hRR2 (fun _ _ h => h) (fun k' hk' => ⟨trivial, fun e => by have h5 := hv2 k' e.symm; omega⟩) (fun _ _ => trivial) (Below.refl _ _) (by omega) (by have h2 := HTL.out; have h3 := HLR.out; rw [List.nil_append]; omega) ?_; intro v3 w3 hR3 hB3 hg3 hat3; obtain ⟨A3, c3, rfl, hl3, hC3⟩ := Kd.R_reads hR3))
              have hB13 := below_grown2 hB12 hg3 hv2
              go_roundg (gk - 1)
              case measure => have := HJK.out; omega
              case rel =>
                have hln := HLN.out
                rw [HINS.out] at hR3 hln
                have e : tk.length + (dk.length + 1) = out.length + 1 := by
                  have := HLN.out
                  simp at this
                  omega
                refine ⟨j + 1, A3, c3, by have := HJK.out; omega, by go_num, ?_, HR7.out.2.2.trans ((hB71.trans (hB13.mono hz71)).mono hbs), ?_⟩
                · rw [HST.out, hln, e]
                · rw [HST.out]
                  exact hR3
    · have hje : ms.length = j := by have := HJK.out; omega
      subst hje
      rw [show (orbL p n xs ms).take ms.length = orbL p n xs ms by rw [← orbL_len p n xs ms, List.take_length]] at hR
      go_wp2
      refine bodyPost_ret (v := .slice P (orbS ((orbL p n xs ms).take ms.length)).length cP) (by simp [results, Try.results74, go_sem]) rfl ⟨_, rfl, ?_, by rw [hgb]; exact hbW.trans (hb.mono (by omega))⟩
      rw [show (orbL p n xs ms).take ms.length = orbL p n xs ms by rw [← orbL_len p n xs ms, List.take_length]]
      exact Kd.R_lower hR (by omega)
end Go.Proofs.Ytimjhehagimcaaa
