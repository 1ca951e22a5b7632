/- The walk of the reduced list of rows, whole; no condition. -/
import Derived.Test.YtafdakamibpjaaaEch4
import Derived.Test.YtafdakamibpjaaaKitA
set_option linter.unusedVariables false
set_option linter.unusedSimpArgs false
namespace Go.Proofs.Ytafdakamibpjaaa
open Go.RowKit Go.Proofs.YtafdakamibpjaaaW.PrintWords
attribute [local go_sem] Later.cell Later.frozen Later.lt Later.lt_add Later.le Later.le_add Later.ne Later.ne' add_at


set_option maxRecDepth 100000 in
set_option maxHeartbeats 4000000 in
theorem l01Echelon_c {p : Int} {L : Nat} (hp : primeZ p) (hL : L ≤ 100000) {rows : List (List Int)} (hn : rows.length ≤ 100000) (hr : ∀ r ∈ rows, RowOk p L r) (A : Option Addr) (c : Nat) (w : World) (hC : kL.C w A rows.length rows) (hc : rows.length ≤ c) :
    Calls Try.prog 94 #[.int .i64 p, .slice A rows.length c] w (Makes kL 75 (echL p rows) w) := by
  obtain ⟨hp2, hp13⟩ := hp.two
  go_enter Try.func94, Try.ntmps94
  go_wp2
  have hR0 := R_zero kL (heap_alloc_last w (.cells #[] 75)) (base := w.heap.size) (by simp)
  have hB0 : Below w.heap.size w (w.alloc (.cells #[] 75)) := (by repeat (first | (with_reducible assumption) | (with_reducible exact Below.refl _ _) | ((with_reducible refine Below.alloc ?_ ?_ _); rotate_left; (focus (first | omega | (simp; done) | (simp; omega) | (simp [Later.le, Later.le_add, Later.lt, Later.lt_add]; done) | (simp [Later.le, Later.le_add, Later.lt, Later.lt_add]; omega)))) | (with_reducible refine Below.drew ?_) | (with_reducible refine pw_below_drewN ?_ _) | ((with_reducible refine Below.setCell ?_ ?_ _); rotate_left; (focus (first | omega | (simp; done) | (simp; omega) | (simp [Later.le, Later.le_add, Later.lt, Later.lt_add]; done) | (simp [Later.le, Later.le_add, Later.lt, Later.lt_add]; omega)))) | ((with_reducible refine below_hop (by assumption) ?_ ?_); rotate_left; (focus (first | omega | (simp; done) | (simp; omega) | (simp [Later.le, Later.le_add, Later.lt, Later.lt_add]; done) | (simp [Later.le, Later.le_add, Later.lt, Later.lt_add]; omega)))) | ((with_reducible refine bel_later _ ?_ ?_); rotate_left; (focus (first | omega | (simp; done) | (simp; omega) | (simp [Later.le, Later.le_add, Later.lt, Later.lt_add]; done) | (simp [Later.le, Later.le_add, Later.lt, Later.lt_add]; omega))))))
  go_loopg [6, 5] rows.length (fun k vi vo w' => ∃ (i : Nat) (y : Later w), i + k = rows.length ∧ vi = .int .i64 i ∧ w' = y.W ∧ kL.R 75 y.W w.heap.size (fun _ => True) vo (echL p (rows.take i)))
  case atStart => exact ⟨0, ⟨_, hB0⟩, by omega, rfl, rfl, hR0⟩
  case round =>
    clear hR0 hB0
    obtain ⟨i, y, hik, rfl, rfl, hR⟩ := hrel
    have HIK := Lib.hid hik
    obtain ⟨hred, holen⟩ := echL_take hp hr i
    by_cases hlt : i < rows.length
    · have hstep := echL_step (p := p) hlt
      have hrow : RowOk p L (rows.getD i []) := hr _ (getD_mem _ hlt)
      obtain ⟨b, o, Ar, cr, hA, q0, hcr, hCr⟩ := kL_at hC i hlt
      subst hA
      have hbw : b < w.heap.size := World.block_lt_of_cell? _ _ q0
      have q0 := y.keep q0
      have hCr := Kd.C_below hCr y.ok
      obtain ⟨Ao, co, hvo, hco, hCo⟩ := Kd.R_reads hR
      subst hvo
      have hi0 : (0 : Int) ≤ i := by omega
      have hi1 : (i : Int) < rows.length := by omega
      have hin : ((i : Int)).toNat = i := by omega
      generalize rows.getD i [] = row at *
      generalize echL p (rows.take i) = out at *
      have hokr := restL_ok (L := L) (by omega) out row hrow (fun r hr => (hred.led r hr).ok)
      have hout1 : out.length ≤ 100000 := by omega
      clear hik holen
      by_cases hlead : leadN (restL p out row) < L
      · have hld : leadI (restL p out row) = (leadN (restL p out row) : Int) := by unfold leadI; rw [if_pos (by rw [hokr.len]; exact hlead)]
        have hst : echStep p out row = putL p (ownL p (restL p out row)) out := by
          unfold echStep
          dsimp only
          rw [if_pos (by rw [hokr.len]; exact hlead)]
        obtain ⟨hled, hlw⟩ := ownL_led hp hokr hlead
        have hv := hokr.nums (leadN (restL p out row))
        have hv1 := leadN_ne (r := restL p out row) (by rw [hokr.len]; exact hlead)
        have hir := invZ_range hp (x := (restL p out row).getD (leadN (restL p out row)) 0) (by omega) hv.2
        have hrg := rest_g hp2 hp13 (by omega) (by omega) hred.led hrow hCo hco hCr hcr
        rw [hst] at hstep
        unfold ownL at hled hlw hstep
        generalize restL p out row = own at *
        generalize ha : leadN own = a at *
        have HOWN := Lib.hid (show own.length = L from hokr.len)
        have hown1 : own.length ≤ 100000 := by rw [HOWN.out]; exact hL
        have ha0 : (0 : Int) ≤ a := by omega
        have ha1 : (a : Int) < own.length := by have := HOWN.out; omega
        have ha2 : ((a : Int)).toNat = a := by omega
        have hlt0 : decide ((a : Int) < 0) = false := by simp
        have hig := fun W => inverse_g hp (x := own.getD a 0) (by omega) hv.2 W
        generalize hx0 : own.getD a 0 = x0 at *
        have HX0 := Lib.hid hx0
        clear hx0
        generalize invZ p x0 = iv at *
        go_wp2_with (first | (go_at_call 131; (with_reducible refine call_makes2 hrg ?_); intro x1 A1 c1 hb1 hl1 hR1 hC1; obtain ⟨g, cap, hg, hgb, hgs, _⟩ := Kd.R_form hR1 (by have := HOWN.out; omega); injection hg with hg1 _ hg2; subst hg1; subst hg2; obtain ⟨e0, e1⟩ := kI_cell hR1 a (by omega); rw [HX0.out] at e0) | (go_at_call 130; (with_reducible refine call_later3 (lead_g (a : Int) hC1 hl1 (by rw [hokr.len]; omega) hld) ?_); intro x2 hb2; have e0 := pw_cell_below hb2 e0) | (go_at_call 132; (with_reducible refine call_later3 (hig _) ?_); intro x3 hb3))
        have hbx := below_then hb1 hb1.size hb2
        have hbx := below_then hbx hbx.size hb3
        have hR3 := Kd.R_below (Kd.R_below hR1 hb2) hb3
        clear hb1 hb2 hb3 e0 e1 hR1 hC1 hrg hig hld hlt0 hv hv1
        go_loopg [10] own.length (fun k v w' => ∃ (j : Nat) (z : Later w), j + k = own.length ∧ v = .int .i64 j ∧ w' = z.W ∧ Below y.W.heap.size y.W z.W ∧ kI.R 2 z.W y.W.heap.size (fun _ => True) (.slice (some ⟨g, 0, none⟩) own.length c1) ((scaleL p own iv).take j ++ own.drop j))
        case atStart => exact ⟨0, x3, by omega, rfl, rfl, hbx, by simpa using hR3⟩
        case round =>
          clear hbx hR3
          obtain ⟨j, z, hjk, rfl, rfl, hbz, hRz⟩ := hrel
          have HJK := Lib.hid hjk
          clear hjk
          by_cases hj : j < own.length
          · obtain ⟨f0, f1⟩ := kI_cell hRz j hj
            rw [mix_get p own iv j hj] at f0
            have hnj := hokr.nums j
            have hset := mix_set p own iv j hj
            have HST := Lib.hid hset
            clear hset
            generalize own.getD j 0 = y1 at *
            have m1 := mul_bd3 (x := y1) (y := iv) hnj.1 (by omega) (by omega) (by omega)
            have hpz : p ≠ 0 := by omega
            have hj0 : (0 : Int) ≤ j := by omega
            have hj1 : (j : Int) < own.length := by omega
            go_wp2
            go_roundg (gk - 1)
            case measure => have := HJK.out; omega
            case rel =>
              refine ⟨j + 1, ⟨z.W.setCell ⟨g, j, none⟩ (.int .i64 (y1 * iv % p)), ?_⟩, by have := HJK.out; omega, by go_num, ?_, ?_, ?_⟩
              · exact z.ok.setCell (by have := y.ok.size; show w.heap.size ≤ g; omega) _
              · simp [Int.tmod_eq_emod_of_nonneg m1.1]
              · exact hbz.setCell (show y.W.heap.size ≤ g from hgb) _
              · rw [← HST.out]
                exact kI_set hRz j _
          · have hje : j = own.length := by have := HJK.out; omega
            subst hje
            have e : (scaleL p own iv).take own.length ++ own.drop own.length = scaleL p own iv := by
              rw [List.drop_length, List.append_nil, List.take_of_length_le (by simp [scaleL])]
            rw [e] at hRz
            go_wp2
            have hR4 := R_zero kL (heap_alloc_last z.W (.cells #[] 75)) (base := y.W.heap.size) hbz.size
            have hb4 : Below w.heap.size w (z.W.alloc (.cells #[] 75)) := z.ok.alloc z.ok.size _
            have hb5 : Below y.W.heap.size y.W (z.W.alloc (.cells #[] 75)) := hbz.alloc hbz.size _
            have hR5 := Kd.R_alloc hRz (.cells #[] 75)
            generalize scaleL p own iv = own2 at *
            go_loopg [13, 11, 12] out.length (fun k vk vn vp w' => ∃ (j : Nat) (q : Later w), j + k = out.length ∧ vk = .int .i64 j ∧ vp = .bool (putAt p own2 out j).2 ∧ w' = q.W ∧ Below y.W.heap.size y.W q.W ∧ kL.R 75 q.W y.W.heap.size (fun _ => True) vn (putAt p own2 out j).1 ∧ kI.R 2 q.W y.W.heap.size (fun _ => True) (.slice (some ⟨g, 0, none⟩) own.length c1) own2)
            case atStart => exact ⟨0, ⟨_, hb4⟩, by omega, rfl, rfl, rfl, hb5, hR4, hR5⟩
            case round =>
              clear hb4 hb5 hR4 hR5 hRz hbz e
              obtain ⟨j, q, hjk, rfl, rfl, rfl, hbq, hRn, hRo⟩ := hrel
              have HJK := Lib.hid hjk
              clear hjk
              have HPL0 := Lib.hid (putAt_len p own2 out j)
              by_cases hj : j < out.length
              · have HP := Lib.hid (putAt_step p own2 out hj)
                obtain ⟨br, ob, Br, cr2, hAo, p0, hcr2, hCr2⟩ := kL_at hCo j hj
                subst hAo
                have hr2 := hred.led _ (getD_mem [] hj)
                generalize out.getD j [] = r at *
                have hrl := Lib.hid hr2.ok.len
                obtain ⟨b3, o3, hB3, s0⟩ := kI_at hCr2 a (by have := HOWN.out; have := hrl.out; omega)
                subst hB3
                have hxa := hr2.ok.nums a
                generalize hxa0 : r.getD a 0 = xa at *
                have HXA := Lib.hid hxa0
                clear hxa0
                generalize putAt p own2 out j = st at *
                obtain ⟨nx, pt⟩ := st
                have hpl2 : nx.length ≤ 2 * out.length := HPL0.out
                have HPL := Lib.hid hpl2
                clear hpl2 HPL0
                obtain ⟨An, cn, hvn, hln, hCn⟩ := Kd.R_reads hRn
                have hvn : _ = Value.slice An nx.length cn := hvn
                subst hvn
                have hj0 : (0 : Int) ≤ j := by omega
                have hj1 : (j : Int) < out.length := by omega
                have hj2 : ((j : Int)).toNat = j := by omega
                have ha3 : (a : Int) < r.length := by have := HOWN.out; have := hrl.out; omega
                cases pt with
                | true =>
                  have h0 := pw_cell_below hbq p0
                  have h1 := pw_cell_below hbq s0
                  go_wp2
                  have hRd := Kd.R_drew hRn; have hRod := Kd.R_drew hRo; have hBd := Below.drew hbq; go_region_law (first | (go_simp; go_at_call 133; (with_reducible refine call_makes (less_g hp2 hp13 hr2.ok hled.ok hxa.1 hxa.2 (by omega) (Kd.C_below hCr2 hBd) hcr2 (R_C hRod) hl1) ?_); intro x5 A5 c5 hb5 hl5 hR5 hC5; have hRe := Kd.R_below hRd hb5; have hRoe := Kd.R_below hRod hb5; have hR5 := Kd.R_lower hR5 hBd.size; have hBe := below_then hBd hBd.size hb5) | (have hM := Kd.M_row (num_apart hRe hR5); have hMk := (fun (k : Nat) (hk : some k ≠ (Value.slice An nx.length cn).ownBlock) => (⟨trivial, hk⟩ : True ∧ some k ≠ (Value.slice An nx.length cn).ownBlock)); refine Kd.R_append_step kL (w0 := y.W) (W := x5.W) (y.W).heap.size (by rfl) (.tmp 77) (.tmp 92) 51 75 (.slice none 0 0) 24 rfl Try.underlying51 infoL rfl (by decide) (by decide) (Value.slice An nx.length cn) nx (lessL p r own2 xa) [.slice A5 (lessL p r own2 xa).length c5] (fun _ => True) (fun k => some k ≠ (Value.slice An nx.length cn).ownBlock) rfl rfl hM hMk (fun _ _ => trivial) hRe hBe (hBe).size (by have := HPL.out; (first | omega | (simp; omega))) ?_; intro v7 w7 hR7 hB7 hg7 _))
                  all_goals
                    go_wp2
                    go_roundg (gk - 1)
                    case measure => have := HJK.out; omega
                    case rel =>
                      have e := HP.out
                      rw [putStep, hlw, HXA.out] at e
                      simp only [Bool.not_true, Bool.false_and, Bool.false_eq_true, if_false] at e
                      refine ⟨j + 1, ⟨w7, y.ok.trans (hB7.mono y.ok.size)⟩, by have := HJK.out; omega, by go_num, ?_, rfl, hB7, ?_, num_after hRe hRoe hg7⟩
                      · rw [e]
                      · rw [e]; exact hR7
                | false =>
                  have hlr : leadI r = (leadN r : Int) := by unfold leadI; rw [if_pos (by rw [hr2.ok.len]; exact hr2.lt)]
                  have hCq := Kd.C_below hCr2 hbq
                  have h0 := pw_cell_below hbq p0
                  by_cases hgt : a < leadN r
                  · have e := HP.out
                    rw [putStep, hlw, HXA.out] at e
                    rw [if_pos (by simpa using hgt)] at e
                    have HE := Lib.hid e
                    clear e HP HXA
                    generalize leadN r = lr at *
                    have hgt2 : (a : Int) < lr := by omega
                    go_wp2_with (first | (go_at_call 130; (with_reducible refine call_later3 (lead_g (lr : Int) hCq hcr2 (by rw [hr2.ok.len]; omega) hlr) ?_); intro x4 hb4; have hb6 := below_then hbq hbq.size hb4; have hRn4 := Kd.R_below hRn hb4; have hRo4 := Kd.R_below hRo hb4) | (((with_reducible refine gate_ (.call { callee := .builtin .append, args := #[.tmp 73, .tmp 75], argTypes := #[51, 51] }) rfl ?_); have hM := Kd.M_row (num_apart hRn4 hRo4); have hMk := (fun (k : Nat) (hk : some k ≠ (Value.slice An nx.length cn).ownBlock) => (⟨trivial, hk⟩ : True ∧ some k ≠ (Value.slice An nx.length cn).ownBlock)); refine Kd.R_append kL (w0 := y.W) (W := x4.W) (y.W).heap.size rfl (.tmp 73) (.tmp 75) 51 75 (.slice none 0 0) 24 rfl Try.underlying51 infoL rfl (by decide) (by decide) (Value.slice An nx.length cn) nx (own2) [.slice (some ⟨g, 0, none⟩) own.length c1] (fun _ => True) (fun k => some k ≠ (Value.slice An nx.length cn).ownBlock) rfl rfl hM hMk (fun _ _ => trivial) hRn4 hb6 (hb6).size (by have := HPL.out; (first | omega | (simp; omega))) ?_; intro v6 w6 hR6 hB6 hg6 _); obtain ⟨A6, c6, hv6, hl6, _⟩ := Kd.R_reads hR6; rw [show (nx ++ [own2]).length = nx.length + 1 by simp] at hv6; subst hv6; have h0 := pw_cell_below hB6 p0; have h1 := pw_cell_below hB6 s0; have hRo6 := num_after hRn4 hRo4 hg6))
                    have hRd := Kd.R_drew hR6; have hRod := Kd.R_drew hRo6; have hBd := Below.drew hB6; go_region_law (first | (go_simp; go_at_call 133; (with_reducible refine call_makes (less_g hp2 hp13 hr2.ok hled.ok hxa.1 hxa.2 (by omega) (Kd.C_below hCr2 hBd) hcr2 (R_C hRod) hl1) ?_); intro x5 A5 c5 hb5 hl5 hR5 hC5; have hRe := Kd.R_below hRd hb5; have hRoe := Kd.R_below hRod hb5; have hR5 := Kd.R_lower hR5 hBd.size; have hBe := below_then hBd hBd.size hb5) | (have hM := Kd.M_row (num_apart hRe hR5); have hMk := (fun (k : Nat) (hk : some k ≠ (Value.slice A6 (nx.length + 1) c6).ownBlock) => (⟨trivial, hk⟩ : True ∧ some k ≠ (Value.slice A6 (nx.length + 1) c6).ownBlock)); refine Kd.R_append_step kL (w0 := y.W) (W := x5.W) (y.W).heap.size (by rfl) (.tmp 77) (.tmp 92) 51 75 (.slice none 0 0) 24 rfl Try.underlying51 infoL rfl (by decide) (by decide) (Value.slice A6 (nx.length + 1) c6) (nx ++ [own2]) (lessL p r own2 xa) [.slice A5 (lessL p r own2 xa).length c5] (fun _ => True) (fun k => some k ≠ (Value.slice A6 (nx.length + 1) c6).ownBlock) rfl rfl hM hMk (fun _ _ => trivial) hRe hBe (hBe).size (by have := HPL.out; (first | omega | (simp; omega))) ?_; intro v7 w7 hR7 hB7 hg7 _))
                    all_goals
                      go_wp2
                      go_roundg (gk - 1)
                      case measure => have := HJK.out; omega
                      case rel =>
                        refine ⟨j + 1, ⟨w7, y.ok.trans (hB7.mono y.ok.size)⟩, by have := HJK.out; omega, by go_num, ?_, rfl, hB7, ?_, num_after hRe hRoe hg7⟩
                        · rw [HE.out]
                        · rw [HE.out]; exact hR7
                  · have e := HP.out
                    rw [putStep, hlw, HXA.out] at e
                    rw [if_neg (by simpa using hgt)] at e
                    have HE := Lib.hid e
                    clear e HP HXA
                    generalize leadN r = lr at *
                    have hgt2 : ¬ (a : Int) < lr := by omega
                    go_wp2_with ((go_at_call 130; (with_reducible refine call_later3 (lead_g (lr : Int) hCq hcr2 (by rw [hr2.ok.len]; omega) hlr) ?_); intro x4 hb4; have hb6 := below_then hbq hbq.size hb4; have hRn4 := Kd.R_below hRn hb4; have hRo4 := Kd.R_below hRo hb4; have h0 := pw_cell_below hb6 p0; have h1 := pw_cell_below hb6 s0))
                    have hRd := Kd.R_drew hRn4; have hRod := Kd.R_drew hRo4; have hBd := Below.drew hb6; go_region_law (first | (go_simp; go_at_call 133; (with_reducible refine call_makes (less_g hp2 hp13 hr2.ok hled.ok hxa.1 hxa.2 (by omega) (Kd.C_below hCr2 hBd) hcr2 (R_C hRod) hl1) ?_); intro x5 A5 c5 hb5 hl5 hR5 hC5; have hRe := Kd.R_below hRd hb5; have hRoe := Kd.R_below hRod hb5; have hR5 := Kd.R_lower hR5 hBd.size; have hBe := below_then hBd hBd.size hb5) | (have hM := Kd.M_row (num_apart hRe hR5); have hMk := (fun (k : Nat) (hk : some k ≠ (Value.slice An nx.length cn).ownBlock) => (⟨trivial, hk⟩ : True ∧ some k ≠ (Value.slice An nx.length cn).ownBlock)); refine Kd.R_append_step kL (w0 := y.W) (W := x5.W) (y.W).heap.size (by rfl) (.tmp 77) (.tmp 92) 51 75 (.slice none 0 0) 24 rfl Try.underlying51 infoL rfl (by decide) (by decide) (Value.slice An nx.length cn) nx (lessL p r own2 xa) [.slice A5 (lessL p r own2 xa).length c5] (fun _ => True) (fun k => some k ≠ (Value.slice An nx.length cn).ownBlock) rfl rfl hM hMk (fun _ _ => trivial) hRe hBe (hBe).size (by have := HPL.out; (first | omega | (simp; omega))) ?_; intro v7 w7 hR7 hB7 hg7 _))
                    all_goals
                      go_wp2
                      go_roundg (gk - 1)
                      case measure => have := HJK.out; omega
                      case rel =>
                        refine ⟨j + 1, ⟨w7, y.ok.trans (hB7.mono y.ok.size)⟩, by have := HJK.out; omega, by go_num, ?_, rfl, hB7, ?_, num_after hRe hRoe hg7⟩
                        · rw [HE.out]
                        · rw [HE.out]; exact hR7
              · have hje : j = out.length := by have := HJK.out; omega
                subst hje
                rw [putL_at] at hstep
                generalize putAt p own2 out out.length = st at *
                obtain ⟨nx, pt⟩ := st
                have hpl2 : nx.length ≤ 2 * out.length := HPL0.out
                have HPL := Lib.hid hpl2
                clear hpl2 HPL0
                obtain ⟨An, cn, hvn, hln, hCn⟩ := Kd.R_reads hRn
                have hvn : _ = Value.slice An nx.length cn := hvn
                subst hvn
                cases pt with
                | true =>
                  go_wp2
                  go_roundg (rows.length - i - 1)
                  case measure => have := HIK.out; omega
                  case rel =>
                    refine ⟨i + 1, q, by have := HIK.out; omega, by go_num, rfl, ?_⟩
                    simpa [hstep] using Kd.R_lower hRn y.ok.size
                | false =>
                  go_wp2_with (((with_reducible refine gate_ (.call { callee := .builtin .append, args := #[.tmp 96, .tmp 98], argTypes := #[51, 51] }) rfl ?_); have hM := Kd.M_row (num_apart hRn hRo); have hMk := (fun (k : Nat) (hk : some k ≠ (Value.slice An nx.length cn).ownBlock) => (⟨trivial, hk⟩ : True ∧ some k ≠ (Value.slice An nx.length cn).ownBlock)); refine Kd.R_append kL (w0 := y.W) (W := q.W) (y.W).heap.size rfl (.tmp 96) (.tmp 98) 51 75 (.slice none 0 0) 24 rfl Try.underlying51 infoL rfl (by decide) (by decide) (Value.slice An nx.length cn) nx (own2) [.slice (some ⟨g, 0, none⟩) own.length c1] (fun _ => True) (fun k => some k ≠ (Value.slice An nx.length cn).ownBlock) rfl rfl hM hMk (fun _ _ => trivial) hRn hbq (hbq).size (by have := HPL.out; (first | omega | (simp; omega))) ?_; intro v6 w6 hR6 hB6 hg6 _))
                  go_roundg (rows.length - i - 1)
                  case measure => have := HIK.out; omega
                  case rel =>
                    refine ⟨i + 1, ⟨w6, y.ok.trans (hB6.mono y.ok.size)⟩, by have := HIK.out; omega, by go_num, rfl, ?_⟩
                    simpa [hstep] using Kd.R_lower hR6 y.ok.size
      · have hld : leadI (restL p out row) = -1 := by unfold leadI; rw [if_neg (by rw [hokr.len]; exact hlead)]
        have hst : echStep p out row = out := by
          unfold echStep
          dsimp only
          rw [if_neg (by rw [hokr.len]; exact hlead)]
        go_wp2_with (first | (go_at_call 131; (with_reducible refine call_makes2 (rest_g hp2 hp13 (by omega) (by omega) hred.led hrow hCo hco hCr hcr) ?_); intro x1 A1 c1 hb1 hl1 hR1 hC1) | (go_at_call 130; (with_reducible refine call_later3 (lead_g (-1) hC1 hl1 (by rw [hokr.len]; omega) hld) ?_); intro x2 hb2))
        go_roundg (rows.length - i - 1)
        case measure => have := HIK.out; omega
        case rel =>
          refine ⟨i + 1, x2, by have := HIK.out; omega, by go_num, rfl, ?_⟩
          rw [hstep, hst]
          exact Kd.R_below (Kd.R_below hR hb1) hb2
    · have hie : i = rows.length := by have := HIK.out; omega
      subst hie
      rw [List.take_length] at hR
      go_wp2
      go_ret
      exact ⟨_, rfl, hR, y.ok⟩
end Go.Proofs.Ytafdakamibpjaaa
