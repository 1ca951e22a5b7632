/- The walk of the program's formsOf; no condition. -/
import Derived.Test.YtjhkeehfchkpaaaGreatYLead1
import Derived.Test.YtjhkeehfchkpaaaGreatYWLast
import Derived.BigRegion
set_option linter.unusedVariables false
set_option linter.unusedSimpArgs false
namespace Go.Proofs.YtjhkeehfchkpaaaGreat
open Go.RowKit Go.Proofs.YtjhkeehfchkpaaaGreatW.PrintWords
attribute [local go_sem] Later.cell Later.frozen Later.lt Later.lt_add Later.le Later.le_add Later.ne Later.ne' add_at
open Go.Maps Go.Proofs.YtjhkeehfchkpaaaGreatW.PrintLast
theorem infoPF : (Tryz.prog.info? 38).map (fun i => (i.zero, i.size, i.bytes)) = some (some (.agg #[.int .i64 0, .int .i64 0, .slice none 0 0]), 3, 40) := by kernel_rfl
theorem R_zeroF {g base : Nat} {W : World} (hg : W.heap[g]? = some (.cells #[] 38 (0, 0))) (hb : base ≤ g) : kP.R 38 W base (fun _ => True) (.slice (some ⟨g, 0, none⟩) 0 0) [] :=
  ⟨fun k hk => trivial, [], ⟨by simp, .inr ⟨g, 0, #[], rfl, hb, hg, Nat.le_refl _, Nat.zero_le _, by simp, by simp⟩⟩, Reps.none _ _⟩
set_option maxRecDepth 100000 in
set_option maxHeartbeats 4000000 in
theorem formsOf_c (p : Int) (n : Nat) (m : M9) (w : World) (hp : 2 ≤ p) (hp' : p ≤ 13) (hn : n ≤ 3) :
    Calls Tryz.prog 139 #[.int .i64 p, .int .i64 n, .agg #[.int .u8 (m.r0.a.toNat : Int), .int .u8 (m.r0.b.toNat : Int), .int .u8 (m.r0.c.toNat : Int), .int .u8 (m.r1.a.toNat : Int), .int .u8 (m.r1.b.toNat : Int), .int .u8 (m.r1.c.toNat : Int), .int .u8 (m.r2.a.toNat : Int), .int .u8 (m.r2.b.toNat : Int), .int .u8 (m.r2.c.toNat : Int)]] w (Makes kP 38 (formsV p n m n) w) := by
  have HP := Lib.hid (And.intro hp hp')
  have hmc := mat_box w m 93
  have hb01 := below_alloc2 w (.cells #[.int .u8 (m.r0.a.toNat : Int), .int .u8 (m.r0.b.toNat : Int), .int .u8 (m.r0.c.toNat : Int), .int .u8 (m.r1.a.toNat : Int), .int .u8 (m.r1.b.toNat : Int), .int .u8 (m.r1.c.toNat : Int), .int .u8 (m.r2.a.toNat : Int), .int .u8 (m.r2.b.toNat : Int), .int .u8 (m.r2.c.toNat : Int)] 93)
  have hz1 : (w.alloc (.cells #[.int .u8 (m.r0.a.toNat : Int), .int .u8 (m.r0.b.toNat : Int), .int .u8 (m.r0.c.toNat : Int), .int .u8 (m.r1.a.toNat : Int), .int .u8 (m.r1.b.toNat : Int), .int .u8 (m.r1.c.toNat : Int), .int .u8 (m.r2.a.toNat : Int), .int .u8 (m.r2.b.toNat : Int), .int .u8 (m.r2.c.toNat : Int)] 93)).heap.size = w.heap.size + 1 := by simp
  have hR0 := R_zeroF (heap_alloc_last (w.alloc (.cells #[.int .u8 (m.r0.a.toNat : Int), .int .u8 (m.r0.b.toNat : Int), .int .u8 (m.r0.c.toNat : Int), .int .u8 (m.r1.a.toNat : Int), .int .u8 (m.r1.b.toNat : Int), .int .u8 (m.r1.c.toNat : Int), .int .u8 (m.r2.a.toNat : Int), .int .u8 (m.r2.b.toNat : Int), .int .u8 (m.r2.c.toNat : Int)] 93)) (.cells #[] 38)) (Nat.le_refl _)
  have hb12 := below_alloc2 (w.alloc (.cells #[.int .u8 (m.r0.a.toNat : Int), .int .u8 (m.r0.b.toNat : Int), .int .u8 (m.r0.c.toNat : Int), .int .u8 (m.r1.a.toNat : Int), .int .u8 (m.r1.b.toNat : Int), .int .u8 (m.r1.c.toNat : Int), .int .u8 (m.r2.a.toNat : Int), .int .u8 (m.r2.b.toNat : Int), .int .u8 (m.r2.c.toNat : Int)] 93)) (.cells #[] 38)
  have hmm := @run_makeMap Tryz.prog
  go_enter Tryz.func139, Tryz.ntmps139
  go_wp2
  generalize hW1 : (w.alloc (.cells #[.int .u8 (m.r0.a.toNat : Int), .int .u8 (m.r0.b.toNat : Int), .int .u8 (m.r0.c.toNat : Int), .int .u8 (m.r1.a.toNat : Int), .int .u8 (m.r1.b.toNat : Int), .int .u8 (m.r1.c.toNat : Int), .int .u8 (m.r2.a.toNat : Int), .int .u8 (m.r2.b.toNat : Int), .int .u8 (m.r2.c.toNat : Int)] 93)) = W1 at *
  generalize hV1 : W1.alloc (.cells #[] 38) = V1 at *
  generalize hmb : w.heap.size = mb at *
  clear hW1 hV1
  go_loopg [14, 7] n (fun g v14 v7 w' => ∃ (j : Nat) (P : Option Addr) (cP : Nat), j + g = n ∧ v14 = .int .i64 j ∧ v7 = .slice P j cP ∧ Below W1.heap.size W1 w' ∧ kP.R 38 w' W1.heap.size (fun _ => True) (.slice P j cP) ((List.range j).map fun j => (⟨p, n, formL p m j n⟩ : PV)))
  case atStart => exact ⟨0, some ⟨mb + 1, 0, none⟩, 0, by omega, rfl, rfl, hb12, by rw [hz1] at hR0 ⊢; exact hR0⟩
  case round =>
    clear hR0 hb12
    obtain ⟨j, P, cP, hjk, rfl, rfl, hb, hR⟩ := hrel
    have HJK := Lib.hid hjk
    clear hjk
    generalize hV0 : wr = V0 at *
    by_cases hj : j < n
    · have hj0 : (0 : Int) ≤ j := by omega
      have hj1 : (j : Int) < n := by omega
      have hj3 : (j : Int) < 3 := by omega
      have hjn : ((j : Int)).toNat = j := by omega
      have hS0 := SumAt.made V0
      have hbm := below_alloc2 V0 (.map #[] 0)
      have hzm : (V0.alloc (.map #[] 0)).heap.size = V0.heap.size + 1 := by simp
      have HZM := Lib.hid hzm
      clear hzm
      go_wp2
      generalize hV2 : (V0.alloc (.map #[] 0)) = V2 at *
      clear hV2
      generalize hpb : V0.heap.size = mpb at *
      go_loopg [19] n (fun g v19 w' => ∃ (i : Nat), i + g = n ∧ v19 = .int .i64 i ∧ Below mpb V0 w' ∧ SumAt w' mpb i (fun e => sumAt (linP m j i) e))
      case atStart => exact ⟨0, by omega, rfl, by rw [← hpb]; rw [← hpb] at hbm; exact hbm, hS0.congr (funext fun e => rfl)⟩
      case round =>
        clear hS0 hbm
        obtain ⟨i, hik, rfl, hb2, hS⟩ := hrel
        have HIK := Lib.hid hik
        clear hik
        by_cases hi : i < n
        · have hi0 : (0 : Int) ≤ i := by omega
          have hi1 : (i : Int) < n := by omega
          have hi3 : (i : Int) < 3 := by omega
          have hin : ((i : Int)).toNat = i := by omega
          obtain ⟨U, hU, hbU, u0, u1, u2, hzU⟩ := unit_box wr (show i < 3 by omega) 78
          obtain ⟨hzi, hzf⟩ := zero_box wr (show i < 3 by omega) 78
          have HUP := Lib.hid (lin_upd m j (show i < 3 by omega))
          have hbx : Below W1.heap.size W1 U := (hb.trans (hb2.mono (by rw [← hpb]; exact hb.size))).trans (hbU.mono (by have := hb2.size; have := hb.size; omega))
          have c0 := pw_cell_below hbx (hmc i j (by omega) (by omega))
          have hml : mpb < wr.heap.size := hS.lt
          have hx := (m.at i j).toNat_lt
          have h1 : -9223372036854775808 ≤ ((m.at i j).toNat : Int) := by omega
          have h2 : ((m.at i j).toNat : Int) ≤ 9223372036854775807 := by omega
          have h3 := i64_small h1 h2
          rw [i64_w] at h3
          have HWX := Lib.hid h3
          clear h3
          obtain ⟨hlk, hst⟩ := SumAt.store ((hS.below hbU).below ((Below.refl _ _).drew)) (by unfold maxLen; omega) (unitE i)
          obtain ⟨W2, hup, hS2, hg2⟩ := hst (wrap64 ((m.at i j).toNat : Int)) (by rw [HWX.out]; exact h1) (by rw [HWX.out]; exact h2)
          rw [HWX.out] at hS2
          clear HWX h1 h2
          rw [HUP.out] at hS2
          have HS2 := Lib.hid hS2
          have HG2 := Lib.hid hg2
          have HBU := Lib.hid (hb2.trans (hbU.mono (by have := hb2.size; omega)))
          clear hS hst hS2 hg2 hlk
          generalize ((m.at i j).toNat : Int) = x at *
          go_wp2
          go_region
          go_wp2
          go_roundg (gk - 1)
          case measure => have := HIK.out; omega
          case rel => exact ⟨i + 1, by have := HIK.out; omega, by go_num, below_grown HBU.out.drew HG2.out (Nat.le_refl _) (by show mpb ≤ U.heap.size; omega), HS2.out⟩
        · have hie : n = i := by have := HIK.out; omega
          subst hie
          have hT : Canon p (formL p m j n) := formL_canon HP.out.1 m j n
          have hTc : ∀ e, coefL (formL p m j n) e = (fun e => sumAt (linP m j n) e) e % p := fun e => formL_coef HP.out.1 m j n e
          have hPc := poly_c p n mpb n _ _ wr hS (by omega) HP.out.1 HP.out.2 hT hTc
          have HPC := Lib.hid hPc
          have hbw : Below W1.heap.size W1 wr := hb.trans (hb2.mono (by rw [← hpb]; exact hb.size))
          have hrg : ((List.range (j + 1)).map fun j => (⟨p, n, formL p m j n⟩ : PV)) = ((List.range j).map fun j => (⟨p, n, formL p m j n⟩ : PV)) ++ [⟨p, n, formL p m j n⟩] := by rw [List.range_succ, List.map_append]; rfl
          have hxl : ((List.range j).map fun j => (⟨p, n, formL p m j n⟩ : PV)).length = j := by simp
          have HRG := Lib.hid hrg
          have HXL := Lib.hid hxl
          have hb0 : Below mpb V0 wr := hb2
          clear hPc hT hTc hrg hxl hS
          generalize ((List.range j).map fun j => (⟨p, n, formL p m j n⟩ : PV)) = xs at *
          generalize formL p m j n = fm at *
          have hRw := Kd.R_below hR (show Below V0.heap.size V0 wr by rw [hpb]; exact hb0)
          have hown : ∀ k, (Value.slice P j cP).ownBlock = some k → k < wr.heap.size := fun k hk => ((Kd.R_bound hRw).1 k hk).2.2.1
          have HRW := Lib.hid hRw
          have HBW := Lib.hid hbw
          clear hRw hbw
          go_wp2_with (first
            | (go_at_call 102; (with_reducible refine to_makesP (V := wr) (Below.refl _ _) HPC.out ?_); intro w8 B8 c8 hb8 hb8' hl8 hR8; have hs8 := hb8.size; have hsw := HBW.out.size)
            | ((with_reducible refine gate_ (.call { callee := .builtin .append, args := #[.tmp 34, .tmp 39], argTypes := #[52, 52] }) rfl ?_); refine Kd.R_append kP (w0 := W1) (W := w8) W1.heap.size rfl (.tmp 34) (.tmp 39) 52 38 (.agg #[.int .i64 0, .int .i64 0, .slice none 0 0]) 40 rfl Tryz.underlying52 infoPF rfl (by decide) (by decide) (.slice P j cP) xs ⟨p, n, fm⟩ [.int .i64 p, .int .i64 n, .slice B8 fm.length c8] (fun _ => True) (fun k => wr.heap.size ≤ k) rfl rfl ⟨B8, c8, rfl, Kd.R_lower (Kd.R_mono (Kd.R_bound hR8) (fun k hk => hk.2.1)) hsw⟩ (fun k hk => ⟨trivial, fun e => by have := hown k e.symm; omega⟩) (fun _ _ => trivial) (Kd.R_below HRW.out hb8) (HBW.out.trans (hb8.mono hsw)) (by omega) (by have := HXL.out; omega) ?_; intro v1 w1 hR1 hB1 hg1 hat1; obtain ⟨P1, c1, rfl, hl1, _⟩ := Kd.R_reads hR1))
          go_roundg (n - j - 1)
          case measure => have := HJK.out; omega
          case rel =>
            have hlen : (xs ++ [(⟨p, n, fm⟩ : PV)]).length = j + 1 := by rw [List.length_append, HXL.out]; rfl
            rw [hlen] at hR1
            rw [HXL.out]
            exact ⟨j + 1, P1, c1, by have := HJK.out; omega, by go_num, rfl, hB1, by rw [HRG.out]; exact hR1⟩
    · have hje : n = j := by have := HJK.out; omega
      subst hje
      have hl : (formsV p n m n).length = n := formsV_len _ _ _ _
      go_wp2
      refine bodyPost_ret (v := .slice P n cP) (by simp [results, Tryz.results139, go_sem]) rfl ⟨_, rfl, ?_, ?_⟩
      · exact Kd.R_lower hR (by omega)
      · rw [hmb]
        exact hb01.trans (hb.mono (by omega))
end Go.Proofs.YtjhkeehfchkpaaaGreat
