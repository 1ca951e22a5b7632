/- The walks of the reference's closure of matrices (l02Sorted, l02Of); no condition. -/
import Derived.Test.YtimjhehagimcaaaYE1
import Derived.Test.YtimjhehagimcaaaYKitC
import Derived.Test.YtimjhehagimcaaaYGenL
import Derived.Deep.RegionWith
import Derived.Deep.CutRange
import Derived.Test.YtimjhehagimcaaaYAccK
import Derived.Deep.RegionHeld3
set_option linter.unusedVariables false
set_option linter.unusedSimpArgs false
namespace Go.Proofs.Ytimjhehagimcaaa
open Go.RowKit Go.Proofs.YtimjhehagimcaaaW.PrintWords
attribute [local go_sem] Later.cell Later.frozen Later.lt Later.lt_add Later.le Later.le_add Later.ne Later.ne' add_at
attribute [local go_sem 2000] run_eqM guardM
/-- A row of one matrix, as a call lays it. -/
theorem R_oneM (m : M9) (W : World) (base : Nat) (hb : base ≤ W.heap.size) : kM.R 41 (W.alloc (.cells #[.int .u8 (m.r0.a.toNat : Int), .int .u8 (m.r0.b.toNat : Int), .int .u8 (m.r0.c.toNat : Int), .int .u8 (m.r1.a.toNat : Int), .int .u8 (m.r1.b.toNat : Int), .int .u8 (m.r1.c.toNat : Int), .int .u8 (m.r2.a.toNat : Int), .int .u8 (m.r2.b.toNat : Int), .int .u8 (m.r2.c.toNat : Int)] 41)) base (fun _ => True) (.slice (some ⟨W.heap.size, 0, none⟩) 1 1) [m] := by
  have h2 := World.ownsRow_lit (base := base) (e := 41) (size := 9) W m.cs.toArray 1 hb (by simp [maxLen]) (by simp [M9.cs, E3.cs])
  refine ⟨fun _ _ => trivial, m.cs, h2, rfl, fun j p hj => ?_⟩
  have hj0 : j = 0 := by
    rcases Nat.eq_zero_or_pos j with h | h
    · exact h
    · rw [List.getElem?_eq_none (show [m].length ≤ j from h)] at hj
      cases hj
  subst hj0
  have hp : m = p := by simpa using hj
  subst hp
  rfl
/-- The group's elements replaced by another row, of its own. -/
theorem Acc.renew {w0 W w1 : World} {ob rb : Nat} {p n : Int} {E : TypeId} {B B6 : Option Addr} {cb c6 : Nat} {xs ys : List M9} (h : Acc w0 ob rb p n E W B cb xs) (hb : Below W.heap.size W w1) (hR : kM.R E w1 W.heap.size (fun _ => True) (.slice B6 ys.length c6) ys) :
    Acc w0 ob rb p n E (w1.setCell ⟨ob, 2, none⟩ (.slice B6 ys.length c6)) B6 c6 ys := by
  have h1 := h.below hb
  have hlo := h.lo
  have hlr := h.lr
  have hne := h.hne
  have hz := h.bel.size
  have hR2 : kM.R E w1 w0.heap.size (fun k => k ≠ ob ∧ k ≠ rb) (.slice B6 ys.length c6) ys := Kd.R_lower (Kd.R_mono (Kd.R_bound hR) (fun k hk => ⟨by have := hk.2.1; omega, by have := hk.2.1; omega⟩)) hz
  refine ⟨h1.bel.setCell h.hob _, h.hrb, h.hob, ?_, ?_, ?_, ?_, Kd.R_far hR2 (fun k hk => hk.1) _, ?_, ?_, ?_, ?_, ?_, ?_, hne⟩
  · exact (World.cell?_setCell_other _ _ _ _ (by simp)).trans h1.o0
  · exact (World.cell?_setCell_other _ _ _ _ (by simp)).trans h1.o1
  · simpa using World.cell?_setCell_same _ _ _ h1.o2
  · simpa using h1.o3
  · exact cell_far h1.r0 (fun e => hne e.symm)
  · exact cell_far h1.r1 (fun e => hne e.symm)
  · exact cell_far h1.r2 (fun e => hne e.symm)
  · simpa using h1.r3
  · simpa using h1.r4
  · simpa using h1.r5
theorem info_M : ∃ i0, Try.prog.info? 41 = some i0 ∧ i0.size = 9 := by
  obtain ⟨i0, h, e⟩ := Option.map_eq_some_iff.1 infoM1
  exact ⟨i0, h, e⟩
set_option maxRecDepth 100000 in
set_option maxHeartbeats 4000000 in
theorem l02Sorted_c (p n : Int) (A : Option Addr) (c : Nat) (ms : List M9) (w : World) (hC : kM.C w A ms.length ms) (hN : ms.length ≤ 1048576) :
    Calls Try.prog 123 #[.int .i64 p, .int .i64 n, .slice A ms.length c] w (MakesG p n 41 (sortM ms) w) := by
  obtain ⟨i0, hi0, hsz0⟩ := info_M
  go_enter Try.func123, Try.ntmps123
  go_wp2
  have hbV : Below w.heap.size w (((w.alloc (.cells #[.int .i64 0, .int .i64 0, .slice none 0 0] 31)).alloc (.cells #[] 41)).alloc (.cells #[.int .i64 p, .int .i64 n, .slice (some ⟨w.heap.size + 1, 0, none⟩) 0 0] 31)) := bq1
  have o0 : (((w.alloc (.cells #[.int .i64 0, .int .i64 0, .slice none 0 0] 31)).alloc (.cells #[] 41)).alloc (.cells #[.int .i64 p, .int .i64 n, .slice (some ⟨w.heap.size + 1, 0, none⟩) 0 0] 31)).cell? ⟨w.heap.size + 1 + 1, 0, none⟩ = some (.int .i64 p) := by first | (simp; done) | (simp [go_sem]; done) | go_simp
  have o1 : (((w.alloc (.cells #[.int .i64 0, .int .i64 0, .slice none 0 0] 31)).alloc (.cells #[] 41)).alloc (.cells #[.int .i64 p, .int .i64 n, .slice (some ⟨w.heap.size + 1, 0, none⟩) 0 0] 31)).cell? ⟨w.heap.size + 1 + 1, 1, none⟩ = some (.int .i64 n) := by first | (simp; done) | (simp [go_sem]; done) | go_simp
  have o2 : (((w.alloc (.cells #[.int .i64 0, .int .i64 0, .slice none 0 0] 31)).alloc (.cells #[] 41)).alloc (.cells #[.int .i64 p, .int .i64 n, .slice (some ⟨w.heap.size + 1, 0, none⟩) 0 0] 31)).cell? ⟨w.heap.size + 1 + 1, 2, none⟩ = some (.slice (some ⟨w.heap.size + 1, 0, none⟩) 0 0) := by first | (simp; done) | (simp [go_sem]; done) | go_simp
  have r0 : (((w.alloc (.cells #[.int .i64 0, .int .i64 0, .slice none 0 0] 31)).alloc (.cells #[] 41)).alloc (.cells #[.int .i64 p, .int .i64 n, .slice (some ⟨w.heap.size + 1, 0, none⟩) 0 0] 31)).cell? ⟨w.heap.size, 0, none⟩ = some (.int .i64 0) := by first | (simp; done) | (simp [go_sem]; done) | go_simp
  have r1 : (((w.alloc (.cells #[.int .i64 0, .int .i64 0, .slice none 0 0] 31)).alloc (.cells #[] 41)).alloc (.cells #[.int .i64 p, .int .i64 n, .slice (some ⟨w.heap.size + 1, 0, none⟩) 0 0] 31)).cell? ⟨w.heap.size, 1, none⟩ = some (.int .i64 0) := by first | (simp; done) | (simp [go_sem]; done) | go_simp
  have r2 : (((w.alloc (.cells #[.int .i64 0, .int .i64 0, .slice none 0 0] 31)).alloc (.cells #[] 41)).alloc (.cells #[.int .i64 p, .int .i64 n, .slice (some ⟨w.heap.size + 1, 0, none⟩) 0 0] 31)).cell? ⟨w.heap.size, 2, none⟩ = some (.slice none 0 0) := by first | (simp; done) | (simp [go_sem]; done) | go_simp
  have o3 : (((w.alloc (.cells #[.int .i64 0, .int .i64 0, .slice none 0 0] 31)).alloc (.cells #[] 41)).alloc (.cells #[.int .i64 p, .int .i64 n, .slice (some ⟨w.heap.size + 1, 0, none⟩) 0 0] 31)).frozen? ⟨w.heap.size + 1 + 1, 2, none⟩ = false := by first | (simp; done) | (simp [go_sem]; done) | go_simp
  have r3 : (((w.alloc (.cells #[.int .i64 0, .int .i64 0, .slice none 0 0] 31)).alloc (.cells #[] 41)).alloc (.cells #[.int .i64 p, .int .i64 n, .slice (some ⟨w.heap.size + 1, 0, none⟩) 0 0] 31)).frozen? ⟨w.heap.size, 0, none⟩ = false := by first | (simp; done) | (simp [go_sem]; done) | go_simp
  have r4 : (((w.alloc (.cells #[.int .i64 0, .int .i64 0, .slice none 0 0] 31)).alloc (.cells #[] 41)).alloc (.cells #[.int .i64 p, .int .i64 n, .slice (some ⟨w.heap.size + 1, 0, none⟩) 0 0] 31)).frozen? ⟨w.heap.size, 1, none⟩ = false := by first | (simp; done) | (simp [go_sem]; done) | go_simp
  have r5 : (((w.alloc (.cells #[.int .i64 0, .int .i64 0, .slice none 0 0] 31)).alloc (.cells #[] 41)).alloc (.cells #[.int .i64 p, .int .i64 n, .slice (some ⟨w.heap.size + 1, 0, none⟩) 0 0] 31)).frozen? ⟨w.heap.size, 2, none⟩ = false := by first | (simp; done) | (simp [go_sem]; done) | go_simp
  have hrow : (((w.alloc (.cells #[.int .i64 0, .int .i64 0, .slice none 0 0] 31)).alloc (.cells #[] 41)).alloc (.cells #[.int .i64 p, .int .i64 n, .slice (some ⟨w.heap.size + 1, 0, none⟩) 0 0] 31)).heap[w.heap.size + 1]? = some (.cells #[] 41) := by
    rw [Below.heap_alloc _ _ _ (by simp)]
    have := heap_alloc_last (w.alloc (.cells #[.int .i64 0, .int .i64 0, .slice none 0 0] 31)) (.cells #[] 41)
    simpa using this
  have acc0 : Acc w (w.heap.size + 1 + 1) w.heap.size p n 41 (((w.alloc (.cells #[.int .i64 0, .int .i64 0, .slice none 0 0] 31)).alloc (.cells #[] 41)).alloc (.cells #[.int .i64 p, .int .i64 n, .slice (some ⟨w.heap.size + 1, 0, none⟩) 0 0] 31)) (some ⟨w.heap.size + 1, 0, none⟩) 0 [] := ⟨hbV, by omega, by omega, o0, o1, o2, o3, R_zero2 kM _ ⟨by omega, by omega⟩ hrow (by omega), r0, r1, r2, r3, r4, r5, by omega⟩
  clear o0 o1 o2 o3 r0 r1 r2 r3 r4 r5 hrow hbV
  generalize (((w.alloc (.cells #[.int .i64 0, .int .i64 0, .slice none 0 0] 31)).alloc (.cells #[] 41)).alloc (.cells #[.int .i64 p, .int .i64 n, .slice (some ⟨w.heap.size + 1, 0, none⟩) 0 0] 31)) = V at *
  generalize hob : w.heap.size + 1 + 1 = ob at *
  generalize hrb : w.heap.size = rb at *
  have hbase : rb ≤ w.heap.size := by omega
  go_loopg [8] ms.length (fun k v w' => ∃ (i : Nat) (B : Option Addr) (cb : Nat), i + k = ms.length ∧ v = .int .i64 i ∧ Acc w ob rb p n 41 w' B cb (sortM (ms.take i)))
  case atStart => exact ⟨0, _, 0, by omega, rfl, acc0⟩
  case round =>
    clear acc0
    obtain ⟨i, B, cb, hik, rfl, acc⟩ := hrel
    have HIK := Lib.hid hik
    clear hik
    by_cases hlt : i < ms.length
    · obtain ⟨b, o, hA, q0, q1, q2, q3, q4, q5, q6, q7, q8⟩ := kM_at hC i hlt
      subst hA
      have q0 := pw_cell_below acc.bel q0
      have q1 := pw_cell_below acc.bel q1
      have q2 := pw_cell_below acc.bel q2
      have q3 := pw_cell_below acc.bel q3
      have q4 := pw_cell_below acc.bel q4
      have q5 := pw_cell_below acc.bel q5
      have q6 := pw_cell_below acc.bel q6
      have q7 := pw_cell_below acc.bel q7
      have q8 := pw_cell_below acc.bel q8
      have zb := World.block_lt_of_cell? _ _ q0
      simp only [] at zb
      have hi0' : (0 : Int) ≤ i := by omega
      have hi1 : (i : Int) < ms.length := by omega
      have hin : ((i : Int)).toNat = i := by omega
      have hst : sortM (ms.take (i + 1)) = insM (sortM (ms.take i)) (ms.getD i zM) := by
        rw [List.take_succ_eq_append_getElem hlt, sortM_snoc]
        simp [List.getD_eq_getElem?_getD, hlt]
      have hol : (sortM (ms.take i)).length = i := by rw [sortM_len, List.length_take]; omega
      generalize ms.getD i zM = m at *
      generalize sortM (ms.take i) = out at *
      have HST := Lib.hid hst
      have HOL := Lib.hid hol
      clear hst hol
      have o2 := acc.o2
      have zob := acc.lo
      have zrb := acc.lr
      have hCo := (Kd.R_reads' acc.R).2.2
      have hcb := (Kd.R_reads' acc.R).2.1
      have ACC := Lib.hid acc
      clear acc
      go_upto_block 2 with fail
      go_cut [9] from 24 to 40 (fun v1 wx => ∃ (k : Nat), v1 = .int .i64 k ∧ k ≤ out.length ∧ placeM m out out.length = k ∧ Below wr.heap.size wr wx)
      case first =>
        go_wp2_with fail
        go_loopg [9] out.length (fun k v w'' => ∃ (y : Later wr), v = .int .i64 k ∧ w'' = y.W ∧ k ≤ out.length ∧ placeM m out out.length = placeM m out k)
        case atStart => exact ⟨⟨wr, Below.refl _ _⟩, rfl, rfl, Nat.le_refl _, rfl⟩
        case round =>
          obtain ⟨y, rfl, rfl, hkl, hpl⟩ := hrel
          have HKL := Lib.hid hkl
          have HPL := Lib.hid hpl
          clear hkl hpl
          cases gk with
          | zero =>
            go_wp2
            (first | refine wp_region_later2 (by kernel_rfl) (by kernel_rfl) ?_ | refine wp_region_later (by kernel_rfl) (by kernel_rfl) ?_); (repeat (go_big_quiet_step (fail))); refine wpQuiet_nil ?_; intro x2
            go_wp2_with fail
            go_meet
            exact ⟨0, rfl, Nat.zero_le _, HPL.out, x2.ok⟩
          | succ t =>
            have htl' : t < out.length := by have := HKL.out; omega
            obtain ⟨b2, o2', hB, s0, s1, s2, s3, s4, s5, s6, s7, s8⟩ := kM_at hCo t htl'
            subst hB
            have zb2 := World.block_lt_of_cell? _ _ s0
            simp only [] at zb2
            have hpm : placeM m out (t + 1) = if befM m (out.getD t zM) then placeM m out t else t + 1 := rfl
            have hB := fun W => l02Before_c m (out.getD t zM) W
            generalize out.getD t zM = m2 at *
            have ht1 : ((t + 1 : Nat) : Int) - 1 = t := by omega
            have ht0 : (0 : Int) ≤ t := by omega
            have htl : (t : Int) < out.length := by omega
            have htn : ((t : Int)).toNat = t := by omega
            have htu : (t : Int) ≤ 1048576 := by have := HOL.out; omega
            have HPM := Lib.hid hpm
            clear hpm
            cases hb : befM m m2 with
            | true =>
              rw [hb] at hB
              go_wp2
              (first | refine wp_region_later2 (by kernel_rfl) (by kernel_rfl) ?_ | refine wp_region_later (by kernel_rfl) (by kernel_rfl) ?_); (repeat (go_big_quiet_step ((go_at_call 111; with_reducible exact quiet_later (hB _))))); refine wpQuiet_nil ?_; intro x2
              go_wp2
              go_roundg t
              case measure => exact Nat.lt_succ_self t
              case rel =>
                have e := HPM.out
                rw [hb, if_pos rfl] at e
                exact ⟨x2, by go_num, rfl, by have := HKL.out; omega, by rw [HPL.out, e]⟩
            | false =>
              rw [hb] at hB
              go_wp2
              (first | refine wp_region_later2 (by kernel_rfl) (by kernel_rfl) ?_ | refine wp_region_later (by kernel_rfl) (by kernel_rfl) ?_); (repeat (go_big_quiet_step ((go_at_call 111; with_reducible exact quiet_later (hB _))))); refine wpQuiet_nil ?_; intro x2
              go_wp2_with fail
              go_meet
              exact ⟨t + 1, rfl, HKL.out, by rw [HPL.out, HPM.out, hb, if_neg (by decide)], x2.ok⟩
      case rest =>
        obtain ⟨k, rfl, hkl, hpk, hbw⟩ := hcut
        have hCy := Kd.C_below hCo hbw
        have p2 := pw_cell_below hbw o2
        have accy := ACC.out.below hbw
        have p3 := accy.o3
        have zoby := accy.lo
        have zrby := accy.lr
        have m0' := pw_cell_below hbw q0
        have m1' := pw_cell_below hbw q1
        have m2' := pw_cell_below hbw q2
        have m3' := pw_cell_below hbw q3
        have m4' := pw_cell_below hbw q4
        have m5' := pw_cell_below hbw q5
        have m6' := pw_cell_below hbw q6
        have m7' := pw_cell_below hbw q7
        have m8' := pw_cell_below hbw q8
        clear q0 q1 q2 q3 q4 q5 q6 q7 q8 o2 hCo ACC zob zrb
        have hcf := cut_from (P := Try.prog) 29 41 .i64 Try.underlying29 hi0 9 hsz0 B out.length cb ((k : Nat) : Int) (by omega) (by omega)
        have hct := cut_to (P := Try.prog) 29 41 .i64 Try.underlying29 hi0 B out.length cb ((k : Nat) : Int) (by omega) (by omega) hcb
        have hDr := Kd.C_drop (k := kM) (c := cb) hCy hkl hcb
        have hTk := Kd.C_take (k := kM) hCy hkl
        have hdl : (out.drop k).length = out.length - k := List.length_drop
        have htl : (out.take k).length = k := by rw [List.length_take]; omega
        rw [hdl] at hDr
        rw [htl] at hTk
        have HDL := Lib.hid hdl
        have HTL := Lib.hid htl
        clear hdl htl
        simp only [Int.toNat_natCast] at hcf hct
        have e9 : k * kM.sz = k * 9 := rfl
        rw [e9] at hDr
        generalize (if cb = k then B else Option.map (fun x => x.add (k * 9)) B) = A' at hcf hDr
        have hins : ([] ++ out.take k) ++ ([m] ++ out.drop k) = insM out m := by
          unfold insM
          rw [hpk]
          rfl
        have HINS := Lib.hid hins
        have HLN := Lib.hid (show (([] ++ out.take k) ++ ([m] ++ out.drop k)).length = out.length + 1 by rw [hins, insM_len])
        have HLR := Lib.hid (show ([m] ++ out.drop k).length = out.length - k + 1 by simp)
        clear hins e9 hpk
        generalize out.drop k = dk at *
        generalize out.take k = tk at *
        have hk0 : (0 : Int) ≤ k := by omega
        have hk1 : (k : Int) ≤ out.length := by omega
        generalize hy : wc = W5 at *
        go_upto_region 8 with fail
        go_cut [10] from 41 to 50 (fun v1 wx => ∃ (A1 : Option Addr) (c1 : Nat), v1 = .slice A1 ([m] ++ dk).length c1 ∧ kM.R 41 wx W5.heap.size (fun _ => True) (.slice A1 ([m] ++ dk).length c1) ([m] ++ dk) ∧ Below W5.heap.size W5 wx)
        case first =>
          go_region_law (refine Kd.R_append_rows_step kM (w0 := W5) (W := W5.drew.alloc (.cells #[.int .u8 (m.r0.a.toNat : Int), .int .u8 (m.r0.b.toNat : Int), .int .u8 (m.r0.c.toNat : Int), .int .u8 (m.r1.a.toNat : Int), .int .u8 (m.r1.b.toNat : Int), .int .u8 (m.r1.c.toNat : Int), .int .u8 (m.r2.a.toNat : Int), .int .u8 (m.r2.b.toNat : Int), .int .u8 (m.r2.c.toNat : Int)] 41)) W5.heap.size (by rfl) (.tmp 45) (.tmp 49) 29 41 (.agg #[.int .u8 0, .int .u8 0, .int .u8 0, .int .u8 0, .int .u8 0, .int .u8 0, .int .u8 0, .int .u8 0, .int .u8 0]) 9 rfl Try.underlying29 infoM rfl (by decide) (by decide) (.slice (some ⟨W5.heap.size, 0, none⟩) 1 1) [m] dk A' (out.length - k) (cb - k) (fun _ => True) (fun _ => False) rfl rfl (R_oneM m W5.drew W5.heap.size (Nat.le_refl _)) (Kd.C_alloc (Kd.C_drew hDr) _) (fun _ _ h => h) (fun _ h => h.elim) (fun _ _ => trivial) ((Below.refl _ _).drew.alloc (Nat.le_refl _) _) (by simp) (by have h1 := HOL.out; simp only [List.length_singleton]; omega) ?_; intro v1 w1 hR1 hB1 hg1 hat1; have p2' := pw_cell_below hB1 p2)
          all_goals (obtain ⟨A1, c1, rfl, hl1, hC1⟩ := Kd.R_reads hR1; go_wp2_with fail; go_meet; exact ⟨A1, c1, rfl, hR1, hB1⟩)
        case rest =>
          obtain ⟨A1, c1, rfl, hR1, hB1⟩ := hcut
          generalize wc = w1 at *
          have hC1 := (Kd.R_reads' hR1).2.2
          have hTk1 := Kd.C_below hTk hB1
          have hz1 := hB1.size
          have p2' := pw_cell_below hB1 p2
          have p3' := (hB1.frozen (p := ⟨ob, 2, none⟩) zoby).trans p3
          have zob1 : ob < w1.heap.size := by omega
          go_wp2_with (first | ((with_reducible refine gate_builtin (b := .append) (xs := #[.tmp 51, .tmp 55]) rfl ?_); at_builtin; refine Kd.R_append_rows kM (w0 := w1) (W := w1.alloc (.cells #[] 41)) w1.heap.size rfl (.tmp 51) (.tmp 55) 29 41 (.agg #[.int .u8 0, .int .u8 0, .int .u8 0, .int .u8 0, .int .u8 0, .int .u8 0, .int .u8 0, .int .u8 0, .int .u8 0]) 9 rfl Try.underlying29 infoM rfl (by decide) (by decide) (.slice (some ⟨w1.heap.size, 0, none⟩) 0 0) [] tk B k cb (fun _ => True) (fun _ => False) rfl rfl (R_zero kM (heap_alloc_last w1 (.cells #[] 41)) (Nat.le_refl _)) (Kd.C_alloc hTk1 _) (fun _ _ h => h) (fun _ h => h.elim) (fun _ _ => trivial) (below_alloc (Below.refl _ _) _) (by simp) (by have h1 := HOL.out; simp only [List.length_nil]; omega) ?_; intro v2 w2 hR2 hB2 hg2 hat2; have hC12 := Kd.C_below hC1 hB2; have p2'' := pw_cell_below hB2 p2'; have p3'' := (hB2.frozen (p := ⟨ob, 2, none⟩) (by show ob < _; omega)).trans p3'; obtain ⟨A2, c2, rfl, hl2, hC2⟩ := Kd.R_reads hR2) | ((with_reducible refine gate_builtin (b := .append) (xs := #[.tmp 56, .tmp 57]) rfl ?_); at_builtin; refine Kd.R_append_rows kM (w0 := w1) (W := w2) w1.heap.size rfl (.tmp 56) (.tmp 57) 29 41 (.agg #[.int .u8 0, .int .u8 0, .int .u8 0, .int .u8 0, .int .u8 0, .int .u8 0, .int .u8 0, .int .u8 0, .int .u8 0]) 9 rfl Try.underlying29 infoM rfl (by decide) (by decide) (.slice A2 ([] ++ tk).length c2) ([] ++ tk) ([m] ++ dk) A1 ([m] ++ dk).length c1 (fun _ => True) (fun _ => False) rfl rfl hR2 hC12 (fun _ _ h => h) (fun _ h => h.elim) (fun _ _ => trivial) hB2 hB2.size (by have h1 := HOL.out; have h2 := HTL.out; have h3 := HLR.out; rw [List.nil_append]; omega) ?_; intro v3 w3 hR3 hB3 hg3 hat3; have p5 := pw_cell_below hB3 p2'; have p6 := (hB3.frozen (p := ⟨ob, 2, none⟩) (by show ob < _; omega)).trans p3'; obtain ⟨A3, c3, rfl, hl3, hC3⟩ := Kd.R_reads hR3))
          go_roundg (ms.length - i - 1)
          case measure => have := HIK.out; omega
          case rel =>
            rw [HINS.out] at hR3
            refine ⟨i + 1, A3, c3, by have := HIK.out; omega, by go_num, ?_⟩
            rw [HST.out]
            have hfin := accy.renew (hB1.trans (hB3.mono hB1.size)) (Kd.R_lower hR3 hB1.size)
            have e : tk.length + (dk.length + 1) = out.length + 1 := by
              have := HLN.out
              simp at this
              omega
            rw [e]
            rw [insM_len] at hfin
            exact hfin
    · have hie : i = ms.length := by have := HIK.out; omega
      subst hie
      rw [List.take_length] at acc
      obtain ⟨bel, hrb', hob', o0, o1, o2, o3, hR, r0, r1, r2, r3, r4, r5, hne⟩ := acc
      have zlo := World.block_lt_of_cell? _ _ o0
      have zlr := World.block_lt_of_cell? _ _ r0
      simp only [] at zlo zlr
      go_wp2
      refine bodyPost_ret (v := .agg #[.int .i64 p, .int .i64 n, .slice B (sortM ms).length cb]) (by simp [results, Try.results123, go_sem, r0, r1, r2]) rfl ⟨B, cb, rfl, ?_, ((bel.setCell hrb' _).setCell hrb' _).setCell hrb' _⟩
      exact Kd.R_mono (Kd.R_far (Kd.R_far (Kd.R_far hR (fun k hk => hk.2) _) (fun k hk => hk.2) _) (fun k hk => hk.2) _) (fun _ _ => trivial)
end Go.Proofs.Ytimjhehagimcaaa
