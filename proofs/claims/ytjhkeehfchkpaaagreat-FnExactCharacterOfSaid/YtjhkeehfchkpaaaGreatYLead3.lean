/- The walk of the reference's l03Letters; no condition. -/
import Derived.Test.YtjhkeehfchkpaaaGreatYLead2
import Derived.Test.YtjhkeehfchkpaaaGreatYSub2
set_option linter.unusedVariables false
set_option linter.unusedSimpArgs false
namespace Go.Proofs.YtjhkeehfchkpaaaGreat
open Go.RowKit Go.Proofs.YtjhkeehfchkpaaaGreatW.PrintWords
attribute [local go_sem] Later.cell Later.frozen Later.lt Later.lt_add Later.le Later.le_add Later.ne Later.ne' add_at
open Go.Proofs.YtjhkeehfchkpaaaGreatW.PrintLast
theorem below_undrewL {w W : World} (h : Below w.drew.heap.size w.drew W) : Below w.heap.size w W := ⟨h.os, h.tape, h.output, h.size, h.block⟩
set_option maxRecDepth 100000 in
set_option maxHeartbeats 4000000 in
theorem l03Letters_c (p : Int) (n : Nat) (m : M9) (w : World) (hp : 2 ≤ p) (hp' : p ≤ 13) (hn : n ≤ 3) :
    Calls Tryz.prog 122 #[.int .i64 p, .int .i64 n, .agg #[.int .u8 (m.r0.a.toNat : Int), .int .u8 (m.r0.b.toNat : Int), .int .u8 (m.r0.c.toNat : Int), .int .u8 (m.r1.a.toNat : Int), .int .u8 (m.r1.b.toNat : Int), .int .u8 (m.r1.c.toNat : Int), .int .u8 (m.r2.a.toNat : Int), .int .u8 (m.r2.b.toNat : Int), .int .u8 (m.r2.c.toNat : Int)]] w (Makes kP 38 (formsV p n m n) w) := by
  have HP := Lib.hid (And.intro hp hp')
  have hmc := mat_box w m 93
  have hb01 := below_alloc2 w (.cells #[.int .u8 (m.r0.a.toNat : Int), .int .u8 (m.r0.b.toNat : Int), .int .u8 (m.r0.c.toNat : Int), .int .u8 (m.r1.a.toNat : Int), .int .u8 (m.r1.b.toNat : Int), .int .u8 (m.r1.c.toNat : Int), .int .u8 (m.r2.a.toNat : Int), .int .u8 (m.r2.b.toNat : Int), .int .u8 (m.r2.c.toNat : Int)] 93)
  have hz1 : (w.alloc (.cells #[.int .u8 (m.r0.a.toNat : Int), .int .u8 (m.r0.b.toNat : Int), .int .u8 (m.r0.c.toNat : Int), .int .u8 (m.r1.a.toNat : Int), .int .u8 (m.r1.b.toNat : Int), .int .u8 (m.r1.c.toNat : Int), .int .u8 (m.r2.a.toNat : Int), .int .u8 (m.r2.b.toNat : Int), .int .u8 (m.r2.c.toNat : Int)] 93)).heap.size = w.heap.size + 1 := by simp
  have hR0 := R_zeroF (heap_alloc_last (w.alloc (.cells #[.int .u8 (m.r0.a.toNat : Int), .int .u8 (m.r0.b.toNat : Int), .int .u8 (m.r0.c.toNat : Int), .int .u8 (m.r1.a.toNat : Int), .int .u8 (m.r1.b.toNat : Int), .int .u8 (m.r1.c.toNat : Int), .int .u8 (m.r2.a.toNat : Int), .int .u8 (m.r2.b.toNat : Int), .int .u8 (m.r2.c.toNat : Int)] 93)) (.cells #[] 38)) (Nat.le_refl _)
  have hb12 := below_alloc2 (w.alloc (.cells #[.int .u8 (m.r0.a.toNat : Int), .int .u8 (m.r0.b.toNat : Int), .int .u8 (m.r0.c.toNat : Int), .int .u8 (m.r1.a.toNat : Int), .int .u8 (m.r1.b.toNat : Int), .int .u8 (m.r1.c.toNat : Int), .int .u8 (m.r2.a.toNat : Int), .int .u8 (m.r2.b.toNat : Int), .int .u8 (m.r2.c.toNat : Int)] 93)) (.cells #[] 38)
  have hE := fun W => l01Empty_c p n W
  go_enter Tryz.func122, Tryz.ntmps122
  go_wp2
  generalize hW1 : (w.alloc (.cells #[.int .u8 (m.r0.a.toNat : Int), .int .u8 (m.r0.b.toNat : Int), .int .u8 (m.r0.c.toNat : Int), .int .u8 (m.r1.a.toNat : Int), .int .u8 (m.r1.b.toNat : Int), .int .u8 (m.r1.c.toNat : Int), .int .u8 (m.r2.a.toNat : Int), .int .u8 (m.r2.b.toNat : Int), .int .u8 (m.r2.c.toNat : Int)] 93)) = W1 at *
  generalize hV1 : W1.alloc (.cells #[] 38) = V1 at *
  generalize hmb : w.heap.size = mb at *
  clear hW1 hV1
  go_loopg [8, 7] n (fun g v8 v7 w' => ∃ (j : Nat) (P : Option Addr) (cP : Nat), j + g = n ∧ v8 = .int .i64 j ∧ v7 = .slice P j cP ∧ Below W1.heap.size W1 w' ∧ kP.R 38 w' W1.heap.size (fun _ => True) (.slice P j cP) ((List.range j).map fun j => (⟨p, n, formL p m j n⟩ : PV)))
  case atStart => exact ⟨0, some ⟨mb + 1, 0, none⟩, 0, by omega, rfl, rfl, hb12, by rw [hz1] at hR0 ⊢; exact hR0⟩
  case round =>
    clear hR0 hb12
    obtain ⟨j, P, cP, hjk, rfl, rfl, hb, hR⟩ := hrel
    have HJK := Lib.hid hjk
    clear hjk
    generalize hV0 : wr = V0 at *
    by_cases hj : j < n
    · have hj0 : (0 : Int) ≤ j := by omega
      have hj1 : (j : Int) < n := by omega
      have hj3 : (j : Int) < 3 := by omega
      have hjn : ((j : Int)).toNat = j := by omega
      go_wp2_with (go_at_call 100; (with_reducible refine to_makesP (V := V0) (Below.refl _ _) (hE _) ?_); intro w8 B8 c8 hb8 hb8' hl8 hR8)
      have hX0 := Box3.behind (T := 38) (p := p) (n := n) (Nat.le_refl V0.heap.size) hb8.size hR8
      have hB0 : Below V0.heap.size V0 (w8.alloc (.cells #[.int .i64 p, .int .i64 n, .slice B8 ([] : List T4).length c8] 38)) := hb8.alloc hb8.size _
      have hob8 := hb8.size
      change Box3 (w8.alloc (.cells #[.int .i64 p, .int .i64 n, .slice B8 0 c8] 38)) _ _ _ _ _ _ _ at hX0
      change Below _ _ (w8.alloc (.cells #[.int .i64 p, .int .i64 n, .slice B8 0 c8] 38)) at hB0
      generalize (w8.alloc (.cells #[.int .i64 p, .int .i64 n, .slice B8 0 c8] 38)) = V2 at *
      generalize w8.heap.size = ob at *
      go_loopg [10] n (fun g v10 w' => ∃ (i : Nat) (B : Option Addr) (cb : Nat), i + g = n ∧ v10 = .int .i64 i ∧ Below V0.heap.size V0 w' ∧ Box3 w' V0.heap.size ob p n B cb (formL p m j i))
      case atStart => exact ⟨0, B8, c8, by omega, rfl, hB0, hX0⟩
      case round =>
        clear hX0 hB0
        obtain ⟨i, B, cb, hik, rfl, hb2, hX⟩ := hrel
        have HIK := Lib.hid hik
        clear hik
        by_cases hi : i < n
        · have hi0 : (0 : Int) ≤ i := by omega
          have hi1 : (i : Int) < n := by omega
          have hi3 : (i : Int) < 3 := by omega
          have hin : ((i : Int)).toNat = i := by omega
          obtain ⟨U, hU, hbU, u0, u1, u2, hzU⟩ := unit_box wr (show i < 3 by omega) 78
          obtain ⟨hzi, hzf⟩ := zero_box wr (show i < 3 by omega) 78
          have hbx : Below W1.heap.size W1 U := (hb.trans (hb2.mono hb.size)).trans (hbU.mono (by have := hb2.size; have := hb.size; omega))
          have hbu : Below V0.heap.size V0 U := hb2.trans (hbU.mono hb2.size)
          have c0 := pw_cell_below hbx (hmc i j (by omega) (by omega))
          have hXU := hX.below hbU
          have x0 := hXU.o0
          have x1 := hXU.o1
          have x2 := hXU.o2
          have x3 := hXU.o3
          have zlo := hXU.lo
          have hx := (m.at i j).toNat_lt
          have h3 := i64_small (n := ((m.at i j).toNat : Int)) (by omega) (by omega)
          rw [i64_w] at h3
          have HWX := Lib.hid h3
          clear h3
          have hst := formL_step p m j i
          have hcn := formL_canon HP.out.1 m j i
          have hfl := formL_len p m j i
          have hco := formL_coef HP.out.1 m j i (unitE i)
          have hce1 := Int.emod_nonneg (sumAt (linP m j i) (unitE i)) (show p ≠ 0 by have := HP.out; omega)
          have hce2 := Int.emod_lt_of_pos (sumAt (linP m j i) (unitE i)) (show 0 < p by have := HP.out; omega)
          have hput := fun W h1 => l01Put_c p n B cb (formL p m j i) (unitE i) ((m.at i j).toNat : Int) W h1 (by omega) HP.out.1 HP.out.2 (by omega) (by omega) (by rw [hco]; exact ⟨hce1, hce2⟩)
          rw [← hst] at hput
          have hN := (Kd.R_reads' hXU.R).2.2
          have hbz := hbu.size
          clear hce1 hce2 hco hfl hcn hst
          have hF := fun W => hput W
          generalize hf1 : formL p m j (i + 1) = f1 at *
          have HF1 := Lib.hid hf1
          clear hf1
          generalize formL p m j i = f0 at *
          generalize ((m.at i j).toNat : Int) = x at *
          have HXU := Lib.hid hXU
          have HBU := Lib.hid hbu
          clear hX hXU hb2 hput hx
          go_wp2
          refine start_ (n := 10) (S := fun w' => w'.cell? ⟨ob, 0, none⟩ = some (.int .i64 p) ∧ w'.cell? ⟨ob, 1, none⟩ = some (.int .i64 n) ∧ w'.cell? ⟨ob, 2, none⟩ = some (.slice B f0.length cb) ∧ w'.cell? ⟨wr.heap.size, 0, none⟩ = some (.int .u8 ((unitE i).a.toNat : Int)) ∧ w'.cell? ⟨wr.heap.size, 1, none⟩ = some (.int .u8 ((unitE i).b.toNat : Int)) ∧ w'.cell? ⟨wr.heap.size, 2, none⟩ = some (.int .u8 ((unitE i).c.toNat : Int)) ∧ w'.cell? ⟨mb, i * 3 + j, none⟩ = some (.int .u8 x)) (ds := [9]) #[false, false, false, false, false, false, false, false, false, false] (by kernel_rfl) rfl rfl ⟨x0, x1, x2, u0, u1, u2, c0⟩ (fun hHeld => ?_)
          refine pure_ (i := 2) (N := some 31) (v := ?_) (a' := ?_) #[false, false, true, false, false, false, false, false, false, false] rfl rfl (by kernel_rfl) (fun _ _ _ h => h) (Or.inl ⟨by rfl, ?_⟩) ?_ ?_
          rotate_left
          · intro w'
            go_simp
            with_reducible rfl
          rotate_left
          · simp only [Act.put, List.setIfInBounds_toArray, List.set_cons_zero, List.set_cons_succ, i64_w, i32_w]
            rfl
          refine pure_ (i := 3) (N := some 32) (v := ?_) (a' := ?_) #[false, false, true, true, false, false, false, false, false, false] rfl rfl (by kernel_rfl) (fun _ _ _ h => h) (Or.inl ⟨by rfl, ?_⟩) ?_ ?_
          rotate_left
          · intro w'
            go_simp
            with_reducible rfl
          rotate_left
          · simp only [Act.put, List.setIfInBounds_toArray, List.set_cons_zero, List.set_cons_succ, i64_w, i32_w]
            rfl
          refine pure_ (i := 4) (N := some 33) (v := ?_) (a' := ?_) #[false, false, true, true, true, false, false, false, false, false] rfl rfl (by kernel_rfl) (fun _ _ _ h => h) (Or.inl ⟨by rfl, ?_⟩) ?_ ?_
          rotate_left
          · intro w'
            go_simp
            with_reducible rfl
          rotate_left
          · simp only [Act.put, List.setIfInBounds_toArray, List.set_cons_zero, List.set_cons_succ, i64_w, i32_w]
            rfl
          refine pure_ (i := 5) (N := some 34) (v := ?_) (a' := ?_) #[false, false, true, true, true, true, false, false, false, false] rfl rfl (by kernel_rfl) (fun _ _ _ h => h) (Or.inl ⟨by rfl, ?_⟩) ?_ ?_
          rotate_left
          · intro w'
            go_simp
            with_reducible rfl
          rotate_left
          · simp only [Act.put, List.setIfInBounds_toArray, List.set_cons_zero, List.set_cons_succ, i64_w, i32_w]
            rfl
          refine take_ (i := 0) (N := some 29) (v := ?_) (a' := ?_) #[true, false, true, true, true, true, false, false, false, false] rfl rfl (by kernel_rfl) (fun _ _ _ h => h) (Or.inl ⟨by rfl, ?_⟩) hHeld ?_ ?_
          rotate_left
          · rintro w' ⟨s0, s1, s2, s3, s4, s5, s6⟩
            go_simp
            with_reducible rfl
          rotate_left
          · simp only [Act.put, List.setIfInBounds_toArray, List.set_cons_zero, List.set_cons_succ, i64_w, i32_w]
            rfl
          refine take_ (i := 1) (N := some 30) (v := ?_) (a' := ?_) #[true, true, true, true, true, true, false, false, false, false] rfl rfl (by kernel_rfl) (fun _ _ _ h => h) (Or.inl ⟨by rfl, ?_⟩) hHeld ?_ ?_
          rotate_left
          · rintro w' ⟨s0, s1, s2, s3, s4, s5, s6⟩
            go_simp
            with_reducible rfl
          rotate_left
          · simp only [Act.put, List.setIfInBounds_toArray, List.set_cons_zero, List.set_cons_succ, i64_w, i32_w]
            rfl
          refine take_ (i := 6) (N := some 35) (v := ?_) (a' := ?_) #[true, true, true, true, true, true, true, false, false, false] rfl rfl (by kernel_rfl) (fun _ _ _ h => h) (Or.inl ⟨by rfl, ?_⟩) hHeld ?_ ?_
          rotate_left
          · rintro w' ⟨s0, s1, s2, s3, s4, s5, s6⟩
            go_simp
            with_reducible rfl
          rotate_left
          · simp only [Act.put, List.setIfInBounds_toArray, List.set_cons_zero, List.set_cons_succ, i64_w, i32_w]
            rfl
          refine pure_ (i := 7) (N := some 36) (v := ?_) (a' := ?_) #[true, true, true, true, true, true, true, true, false, false] rfl rfl (by kernel_rfl) (fun _ _ _ h => h) (Or.inl ⟨by rfl, ?_⟩) ?_ ?_
          rotate_left
          · intro w'
            go_simp
            with_reducible rfl
          rotate_left
          · simp only [Act.put, List.setIfInBounds_toArray, List.set_cons_zero, List.set_cons_succ, i64_w, i32_w, HWX.out]
            rfl
          refine one_ (i := 8) (N := some 37) #[true, true, true, true, true, true, true, true, true, false] rfl rfl (by kernel_rfl) (by decide) (fun K hK => ?_)
          refine goes_ Tryz.func135 (by kernel_rfl) rfl #[.agg #[.int .i64 p, .int .i64 n, .slice B f0.length cb], .agg #[.int .u8 ((unitE i).a.toNat : Int), .int .u8 ((unitE i).b.toNat : Int), .int .u8 ((unitE i).c.toNat : Int)], .int .i64 x] (by rfl) rfl rfl (by simp only [List.map_toArray, List.map_cons, List.map_nil]; rfl) ?_
          with_reducible refine (hF _ (Kd.C_below hN (Below.refl _ _).drew)).mono ?_
          rintro e xw ⟨A9, c9, rfl, hR9, hb9'⟩
          refine ⟨_, rfl, ?_⟩
          have hqx := below_undrewL hb9'
          have n0x := pw_cell_below hqx x0
          have n1x := pw_cell_below hqx x1
          have n2x := pw_cell_below hqx x2
          have nfx := fun j => (hqx.frozen (p := ⟨ob, j, none⟩) zlo).trans (x3 j)
          refine hK.out _ _ ⟨pw_cell_below hqx x0, pw_cell_below hqx x1, pw_cell_below hqx x2, pw_cell_below hqx u0, pw_cell_below hqx u1, pw_cell_below hqx u2, pw_cell_below hqx c0⟩ (fun hHeld => ?_)
          clear hK K
          refine norm_ (a' := ?_) ?_ ?_
          rotate_left
          · show Act.put _ (some 37) _ = _
            simp only [Act.put, List.setIfInBounds_toArray, List.set_cons_zero, List.set_cons_succ, i64_w, i32_w]
            rfl
          refine last_ (i := 9) (N := none) #[true, true, true, true, true, true, true, true, true, true] rfl rfl (by kernel_rfl) (by decide) (fun K hK => ?_)
          refine skip_ (w1 := ?_) (by rfl) rfl ?_ ?_
          rotate_left
          · go_simp
            rfl
          refine hK.out _ _ ?_
          clear hK K
          refine done_ (by kernel_rfl) ?_
          go_wp2
          go_roundg (gk - 1)
          case measure => have := HIK.out; omega
          case rel => exact ⟨i + 1, A9, c9, by have := HIK.out; omega, by go_num, below_set3 (HBU.out.trans (hqx.mono hbz)) HXU.out.hnb _ _ _, by rw [HF1.out]; exact HXU.out.setN hqx hbz hR9⟩
        · have hie : n = i := by have := HIK.out; omega
          subst hie
          have hbw : Below W1.heap.size W1 wr := hb.trans (hb2.mono hb.size)
          have hrg : ((List.range (j + 1)).map fun j => (⟨p, n, formL p m j n⟩ : PV)) = ((List.range j).map fun j => (⟨p, n, formL p m j n⟩ : PV)) ++ [⟨p, n, formL p m j n⟩] := by rw [List.range_succ, List.map_append]; rfl
          have hxl : ((List.range j).map fun j => (⟨p, n, formL p m j n⟩ : PV)).length = j := by simp
          have HRG := Lib.hid hrg
          have HXL := Lib.hid hxl
          have x0 := hX.o0
          have x1 := hX.o1
          have x2 := hX.o2
          clear hrg hxl
          generalize ((List.range j).map fun j => (⟨p, n, formL p m j n⟩ : PV)) = xs at *
          generalize formL p m j n = fm at *
          have hRw := Kd.R_below hR hb2
          have hown : ∀ k, (Value.slice P j cP).ownBlock = some k → k < V0.heap.size := fun k hk => ((Kd.R_bound hR).1 k hk).2.2.1
          have HRW := Lib.hid hRw
          have HBW := Lib.hid hbw
          have HX := Lib.hid hX
          have hsw := hbw.size
          have hs0 := hb.size
          clear hRw hbw hX
          go_wp2_with ((with_reducible refine gate_ (.call { callee := .builtin .append, args := #[.tmp 38, .tmp 40], argTypes := #[52, 52] }) rfl ?_); refine Kd.R_append kP (w0 := W1) (W := wr) W1.heap.size rfl (.tmp 38) (.tmp 40) 52 38 (.agg #[.int .i64 0, .int .i64 0, .slice none 0 0]) 40 rfl Tryz.underlying52 infoPF rfl (by decide) (by decide) (.slice P j cP) xs ⟨p, n, fm⟩ [.int .i64 p, .int .i64 n, .slice B fm.length cb] (fun _ => True) (fun k => V0.heap.size ≤ k) rfl rfl ⟨B, cb, rfl, Kd.R_lower (Kd.R_mono (Kd.R_bound HX.out.R) (fun k hk => hk.2.1)) hs0⟩ (fun k hk => ⟨trivial, fun e => by have := hown k e.symm; omega⟩) (fun _ _ => trivial) HRW.out HBW.out hsw (by have := HXL.out; omega) ?_; intro v1 w1 hR1 hB1 hg1 hat1; obtain ⟨P1, c1, rfl, hl1, _⟩ := Kd.R_reads hR1)
          go_roundg (n - j - 1)
          case measure => have := HJK.out; omega
          case rel =>
            have hlen : (xs ++ [(⟨p, n, fm⟩ : PV)]).length = j + 1 := by rw [List.length_append, HXL.out]; rfl
            rw [hlen] at hR1
            rw [HXL.out]
            exact ⟨j + 1, P1, c1, by have := HJK.out; omega, by go_num, rfl, hB1, by rw [HRG.out]; exact hR1⟩
    · have hje : n = j := by have := HJK.out; omega
      subst hje
      go_wp2
      refine bodyPost_ret (v := .slice P n cP) (by simp [results, Tryz.results122, go_sem]) rfl ⟨_, rfl, ?_, ?_⟩
      · exact Kd.R_lower hR (by omega)
      · rw [hmb]
        exact hb01.trans (hb.mono (by omega))
end Go.Proofs.YtjhkeehfchkpaaaGreat
