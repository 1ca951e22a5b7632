/- Walks of the functions on polynomials, numbers and rows, of both sides; no condition. -/
import Derived.Test.YtimjhehagimcaaaYE2
import Derived.Test.YtimjhehagimcaaaYE1
import Derived.Test.YtimjhehagimcaaaYKitCl
import Derived.Test.YtimjhehagimcaaaYConj
import Derived.Test.YtimjhehagimcaaaYSST
import Derived.Test.YtimjhehagimcaaaYKitC
import Derived.Test.YtimjhehagimcaaaYWLast
import Derived.Deep.RegionHeld3
/- The program's ClassesOf; no condition. -/
set_option linter.unusedVariables false
set_option linter.unusedSimpArgs false
namespace Go.Proofs.Ytimjhehagimcaaa
open Go.RowKit Go.Proofs.YtimjhehagimcaaaW.PrintWords
attribute [local go_sem] Later.cell Later.frozen Later.lt Later.lt_add Later.le Later.le_add Later.ne Later.ne' add_at
attribute [local go_sem 2000] run_eqM guardM
theorem gb_below {w w1 w2 : World} {row : Option Nat} (h : w.grownBy w1 row) (hb : Below w1.heap.size w1 w2) : w.grownBy w2 row :=
  ⟨hb.os.trans h.os, hb.tape.trans h.tape, hb.output.trans h.output, Nat.le_trans h.size hb.size, fun k hk hne => (hb.block k (Nat.lt_of_lt_of_le hk h.size)).trans (h.block k hk hne)⟩
theorem gb_app {w w1 w2 : World} {row r : Option Nat} (h : w.grownBy w1 row) (hg : w1.grownBy w2 r) (hr : ∀ k, r = some k → w.heap.size ≤ k) : w.grownBy w2 row :=
  ⟨hg.os.trans h.os, hg.tape.trans h.tape, hg.output.trans h.output, Nat.le_trans h.size hg.size, fun k hk hne => (hg.block k (Nat.lt_of_lt_of_le hk h.size) (fun e => by have := hr k e.symm; omega)).trans (h.block k hk hne)⟩
theorem gb_Below {w w1 : World} {row : Option Nat} {B : Nat} {w0 : World} (hb : Below B w0 w) (hB : B ≤ w.heap.size) (h : w.grownBy w1 row) (hr : ∀ k, row = some k → B ≤ k) : Below B w0 w1 :=
  hb.trans ⟨h.os, h.tape, h.output, h.size, fun k hk => h.block k (Nat.lt_of_lt_of_le hk hB) (fun e => by have := hr k e.symm; omega)⟩
theorem C_grownN {w w' : World} {B : Option Addr} {n : Nat} {xs : List M9} {row : Option Nat} (h : kM.C w B n xs) (hg : w.grownBy w' row) (hne : ∀ a, B = some a → some a.block ≠ row) : kM.C w' B n xs :=
  ⟨h.1, h.2.1, fun hp => by
    obtain ⟨ad, e, hc⟩ := h.2.2 hp
    refine ⟨ad, e, fun j p hj => ?_⟩
    obtain ⟨cs, h1, h2, h3⟩ := hc j p hj
    exact ⟨cs, h1, h2, fun i u hu => far_cell hg (h3 i u hu) (by rw [show (ad.add (j * kM.sz + i)).block = ad.block from by unfold Addr.add; split <;> rfl]; exact hne ad e)⟩⟩
/-- The row's own elements have been moved about. -/
theorem metL_outlen {p n : Int} {ms : List M9} (hl : ms.length ≤ 48) {i : Nat} (hi : i ≤ ms.length) : (metL p n ms i).2.length ≤ 48 := by
  have := (metL_out p n ms i).1
  omega
set_option maxRecDepth 100000 in
set_option maxHeartbeats 8000000 in
theorem implClassesOf_t (p n : Int) (A : Option Addr) (c : Nat) (ms : List M9) (w : World) (hC : kM.C w A ms.length ms) (hN : ms.length ≤ 9223372036854775807) :
    Calls Try.prog 41 #[.agg #[.int .i64 p, .int .i64 n, .slice A ms.length c]] w (MakesLCT (clsR p n ms).1 (clsR p n ms).2 55 w) := by
  have hC1 := Kd.C_alloc hC (.cells #[.int .i64 p, .int .i64 n, .slice A ms.length c] 31)
  have hI := fun W h => implIsGroup_c p n A c ms W h hN
  cases hg : grpB p n ms with
  | false =>
    have e : clsR p n ms = ([], 1) := by unfold clsR; rw [hg]; rfl
    rw [e]
    rw [hg] at hI
    clear hg e
    go_enter Try.func41, Try.ntmps41
    go_wp2_with ((go_at_call 80; (first | (with_reducible refine call_later2 (hI _ hC1) ?_) | (with_reducible refine call_later (hI _ hC1) ?_)); intro x))
    refine bodyPost_ret (v := .tuple #[.slice none 0 0, .int .i64 1]) (by simp [results, Try.results41, go_sem]) rfl ?_
    exact MakesLCT_nil _ _ _ _ bq2
  | true =>
    have e : clsR p n ms = ((metL p n ms ms.length).2, 0) := by unfold clsR; rw [hg]; rfl
    rw [e]
    rw [hg] at hI
    have gp := (grpB_iff p n ms).1 hg
    obtain ⟨hp, hp', hn1, hn3⟩ := grp_num4 gp
    have hl1 := gp.l1
    have hl2 := gp.l2
    have GP := Lib.hid gp
    clear hg e gp
    go_enter Try.func41, Try.ntmps41
    go_wp2_with (first
      | (go_at_call 80; (first | (with_reducible refine call_later2 (hI _ hC1) ?_) | (with_reducible refine call_later (hI _ hC1) ?_)); intro x)
      | (refine Kd.R_make kB (w0 := x.W) x.W.heap.size 4 rfl (N := 18) rfl 97 (.tmp 17) (.tmp 17) rfl (ms.length : Int) rfl rfl Try.underlying97 _ 1 infoB rfl (by decide) (by decide) false (ok := fun _ => True) (okp := fun _ => False) rfl (fun _ h => h.elim) trivial (by omega) (by omega) (Below.refl _ _) (by omega) ?_; intro v1 w1 HR hb1 _ _; rw [Int.toNat_natCast] at HR; obtain ⟨gs, cs, hv, hgb, hgs, _⟩ := Kd.R_form HR (by rw [List.length_replicate]; omega); rw [List.length_replicate] at hv; subst hv; obtain ⟨y, rfl⟩ : ∃ y : Later (w.alloc (.cells #[.int .i64 p, .int .i64 n, .slice A ms.length c] 31)), w1 = y.W := ⟨⟨w1, x.ok.trans (hb1.mono x.ok.size)⟩, rfl⟩))
    have zz : w.heap.size < x.W.heap.size := by have := x.ok.size; simp at this; omega
    have hbX : Below w.heap.size w x.W := bq2
    have g0 : x.W.cell? ⟨w.heap.size, 0, none⟩ = some (.int .i64 p) := x.keep bq5
    have g1 : x.W.cell? ⟨w.heap.size, 1, none⟩ = some (.int .i64 n) := x.keep bq5
    have g2 : x.W.cell? ⟨w.heap.size, 2, none⟩ = some (.slice A ms.length c) := x.keep bq5
    have hC2 := Kd.C_below hC1 x.ok
    have hR0 := R_zeroT kL (base := x.W.heap.size) (e := 55) (heap_alloc_last y.W (.cells #[] 55)) hb1.size
    have hS0 : kB.R 4 (y.W.alloc (.cells #[] 55)) x.W.heap.size (fun k => k = gs) (.slice (some ⟨gs, 0, none⟩) ms.length cs) (metL p n ms 0).1 := Kd.R_alloc (Kd.R_reok rfl HR (fun k hk => by simpa [Value.ownBlock] using hk.symm)) _
    have hb23 : Below x.W.heap.size x.W (y.W.alloc (.cells #[] 55)) := below_alloc hb1 _
    generalize hXX : x.W = X at *
    generalize hYY : y.W.alloc (.cells #[] 55) = V1 at *
    clear hYY HR hC1 hI
    generalize y.W = Y at *
    go_loopg [23, 5] ms.length (fun k v23 v5 w' => ∃ (i : Nat) (P : Option Addr) (cP : Nat) (qs : List (List Int × Option Nat)), i + k = ms.length ∧ v23 = .int .i64 i ∧ v5 = .slice P (metL p n ms i).2.length cP ∧ kB.R 4 w' X.heap.size (fun k => k = gs) (.slice (some ⟨gs, 0, none⟩) ms.length cs) (metL p n ms i).1 ∧ qs.map Prod.fst = (metL p n ms i).2 ∧ Apart qs ∧ (tagK kL).R 55 w' X.heap.size (fun _ => True) (.slice P (metL p n ms i).2.length cP) qs ∧ Below X.heap.size X w')
    case atStart => exact ⟨0, _, 0, [], by omega, rfl, rfl, hS0, rfl, .nil, hR0, hb23⟩
    case round =>
      clear hS0 hR0 hb23 hb1
      obtain ⟨i, P, cP, qs, hik, rfl, rfl, hS, hqs, hap, hR, hb⟩ := hrel
      have HIK := Lib.hid hik
      clear hik
      have g0 := pw_cell_below hb g0
      have g1 := pw_cell_below hb g1
      have g2 := pw_cell_below hb g2
      by_cases hi : i < ms.length
      · obtain ⟨b, o, hA, q0, q1, q2, q3, q4, q5, q6, q7, q8⟩ := kM_at hC2 i hi
        subst hA
        have zbX := World.block_lt_of_cell? _ _ q0
        simp only [] at zbX
        have q0 := pw_cell_below hb q0
        have q1 := pw_cell_below hb q1
        have q2 := pw_cell_below hb q2
        have q3 := pw_cell_below hb q3
        have q4 := pw_cell_below hb q4
        have q5 := pw_cell_below hb q5
        have q6 := pw_cell_below hb q6
        have q7 := pw_cell_below hb q7
        have q8 := pw_cell_below hb q8
        have zb := World.block_lt_of_cell? _ _ q0
        have zg := World.block_lt_of_cell? _ _ g0
        simp only [] at zb zg
        have hi0 : (0 : Int) ≤ i := by omega
        have hi1 : (i : Int) < ms.length := by omega
        have hin : ((i : Int)).toNat = i := by omega
        obtain ⟨s0, s1⟩ := kB_cell hS i hi
        obtain ⟨_, hgX, hgsw, _⟩ := (Kd.R_bound hS).1 gs rfl
        cases hm : (metL p n ms i).1.getD i false with
        | true =>
          rw [hm] at s0
          have HM := Lib.hid (metL_yes hm)
          have HRR := Lib.hid (And.intro hS (And.intro hqs (And.intro hap (And.intro hR hb))))
          clear hm hS hqs hap hR hb
          generalize ms.getD i zM = a at *
          go_wp2
          go_roundg (gk - 1)
          case measure => have := HIK.out; omega
          case rel =>
            obtain ⟨k1, k2, k3, k4, k5⟩ := HRR.out
            refine ⟨i + 1, P, cP, qs, by have := HIK.out; omega, by go_num, by rw [HM.out], ?_, by rw [HM.out]; exact k2, k3, ?_, below_alloc k5 _⟩
            · rw [HM.out]; exact Kd.R_alloc k1 _
            · rw [HM.out]; exact Kd.R_alloc k4 _
        | false =>
          rw [hm] at s0
          have HM := Lib.hid (metL_no hm)
          have HNEW := Lib.hid (fun k hk => metL_new GP.out hi hm (k := k) hk)
          have hmi := GP.out.mat i hi
          have hSL : seenL p n ms (metL p n ms i).1 i 0 = (metL p n ms i).1 := seenL_zero i (metL_len p n ms i)
          obtain ⟨gcells, hgcells⟩ := Kd.R_typed hS gs rfl
          have hSa := Kd.R_alloc (Kd.R_alloc hS (.cells #[.int .u8 ((ms.getD i zM).r0.a.toNat : Int), .int .u8 ((ms.getD i zM).r0.b.toNat : Int), .int .u8 ((ms.getD i zM).r0.c.toNat : Int), .int .u8 ((ms.getD i zM).r1.a.toNat : Int), .int .u8 ((ms.getD i zM).r1.b.toNat : Int), .int .u8 ((ms.getD i zM).r1.c.toNat : Int), .int .u8 ((ms.getD i zM).r2.a.toNat : Int), .int .u8 ((ms.getD i zM).r2.b.toNat : Int), .int .u8 ((ms.getD i zM).r2.c.toNat : Int)] 41)) (.cells #[] 2)
          rw [← hSL] at hSa
          have hK0 := R_zero kI (e := 2) (heap_alloc_last (wr.alloc (.cells #[.int .u8 ((ms.getD i zM).r0.a.toNat : Int), .int .u8 ((ms.getD i zM).r0.b.toNat : Int), .int .u8 ((ms.getD i zM).r0.c.toNat : Int), .int .u8 ((ms.getD i zM).r1.a.toNat : Int), .int .u8 ((ms.getD i zM).r1.b.toNat : Int), .int .u8 ((ms.getD i zM).r1.c.toNat : Int), .int .u8 ((ms.getD i zM).r2.a.toNat : Int), .int .u8 ((ms.getD i zM).r2.b.toNat : Int), .int .u8 ((ms.getD i zM).r2.c.toNat : Int)] 41)) (.cells #[] 2)) (Nat.le_refl _)
          have hgr : (wr.alloc (.cells #[.int .u8 ((ms.getD i zM).r0.a.toNat : Int), .int .u8 ((ms.getD i zM).r0.b.toNat : Int), .int .u8 ((ms.getD i zM).r0.c.toNat : Int), .int .u8 ((ms.getD i zM).r1.a.toNat : Int), .int .u8 ((ms.getD i zM).r1.b.toNat : Int), .int .u8 ((ms.getD i zM).r1.c.toNat : Int), .int .u8 ((ms.getD i zM).r2.a.toNat : Int), .int .u8 ((ms.getD i zM).r2.b.toNat : Int), .int .u8 ((ms.getD i zM).r2.c.toNat : Int)] 41)).grownBy ((wr.alloc (.cells #[.int .u8 ((ms.getD i zM).r0.a.toNat : Int), .int .u8 ((ms.getD i zM).r0.b.toNat : Int), .int .u8 ((ms.getD i zM).r0.c.toNat : Int), .int .u8 ((ms.getD i zM).r1.a.toNat : Int), .int .u8 ((ms.getD i zM).r1.b.toNat : Int), .int .u8 ((ms.getD i zM).r1.c.toNat : Int), .int .u8 ((ms.getD i zM).r2.a.toNat : Int), .int .u8 ((ms.getD i zM).r2.b.toNat : Int), .int .u8 ((ms.getD i zM).r2.c.toNat : Int)] 41)).alloc (.cells #[] 2)) (some gs) := gb_below (grown_refl _ _) (below_alloc2 _ _)
          have hz4 : (wr.alloc (.cells #[.int .u8 ((ms.getD i zM).r0.a.toNat : Int), .int .u8 ((ms.getD i zM).r0.b.toNat : Int), .int .u8 ((ms.getD i zM).r0.c.toNat : Int), .int .u8 ((ms.getD i zM).r1.a.toNat : Int), .int .u8 ((ms.getD i zM).r1.b.toNat : Int), .int .u8 ((ms.getD i zM).r1.c.toNat : Int), .int .u8 ((ms.getD i zM).r2.a.toNat : Int), .int .u8 ((ms.getD i zM).r2.b.toNat : Int), .int .u8 ((ms.getD i zM).r2.c.toNat : Int)] 41)).heap.size = wr.heap.size + 1 := by simp
          have ha := fun k (hk : k < wr.heap.size) => Below.heap_alloc wr (.cells #[.int .u8 ((ms.getD i zM).r0.a.toNat : Int), .int .u8 ((ms.getD i zM).r0.b.toNat : Int), .int .u8 ((ms.getD i zM).r0.c.toNat : Int), .int .u8 ((ms.getD i zM).r1.a.toNat : Int), .int .u8 ((ms.getD i zM).r1.b.toNat : Int), .int .u8 ((ms.getD i zM).r1.c.toNat : Int), .int .u8 ((ms.getD i zM).r2.a.toNat : Int), .int .u8 ((ms.getD i zM).r2.b.toNat : Int), .int .u8 ((ms.getD i zM).r2.c.toNat : Int)] 41) k hk
          have hbw4 : Below wr.heap.size wr (wr.alloc (.cells #[.int .u8 ((ms.getD i zM).r0.a.toNat : Int), .int .u8 ((ms.getD i zM).r0.b.toNat : Int), .int .u8 ((ms.getD i zM).r0.c.toNat : Int), .int .u8 ((ms.getD i zM).r1.a.toNat : Int), .int .u8 ((ms.getD i zM).r1.b.toNat : Int), .int .u8 ((ms.getD i zM).r1.c.toNat : Int), .int .u8 ((ms.getD i zM).r2.a.toNat : Int), .int .u8 ((ms.getD i zM).r2.b.toNat : Int), .int .u8 ((ms.getD i zM).r2.c.toNat : Int)] 41)) := below_alloc2 _ _
          have hgc4 : (wr.alloc (.cells #[.int .u8 ((ms.getD i zM).r0.a.toNat : Int), .int .u8 ((ms.getD i zM).r0.b.toNat : Int), .int .u8 ((ms.getD i zM).r0.c.toNat : Int), .int .u8 ((ms.getD i zM).r1.a.toNat : Int), .int .u8 ((ms.getD i zM).r1.b.toNat : Int), .int .u8 ((ms.getD i zM).r1.c.toNat : Int), .int .u8 ((ms.getD i zM).r2.a.toNat : Int), .int .u8 ((ms.getD i zM).r2.b.toNat : Int), .int .u8 ((ms.getD i zM).r2.c.toNat : Int)] 41)).heap[gs]? = some (.cells gcells 4 (0, 0)) := (Below.heap_alloc wr _ gs hgsw).trans hgcells
          have HQ := Lib.hid (And.intro hqs (And.intro hap (And.intro (Kd.R_alloc hR (.cells #[.int .u8 ((ms.getD i zM).r0.a.toNat : Int), .int .u8 ((ms.getD i zM).r0.b.toNat : Int), .int .u8 ((ms.getD i zM).r0.c.toNat : Int), .int .u8 ((ms.getD i zM).r1.a.toNat : Int), .int .u8 ((ms.getD i zM).r1.b.toNat : Int), .int .u8 ((ms.getD i zM).r1.c.toNat : Int), .int .u8 ((ms.getD i zM).r2.a.toNat : Int), .int .u8 ((ms.getD i zM).r2.b.toNat : Int), .int .u8 ((ms.getD i zM).r2.c.toNat : Int)] 41)) (And.intro (below_alloc hb (.cells #[.int .u8 ((ms.getD i zM).r0.a.toNat : Int), .int .u8 ((ms.getD i zM).r0.b.toNat : Int), .int .u8 ((ms.getD i zM).r0.c.toNat : Int), .int .u8 ((ms.getD i zM).r1.a.toNat : Int), .int .u8 ((ms.getD i zM).r1.b.toNat : Int), .int .u8 ((ms.getD i zM).r1.c.toNat : Int), .int .u8 ((ms.getD i zM).r2.a.toNat : Int), .int .u8 ((ms.getD i zM).r2.b.toNat : Int), .int .u8 ((ms.getD i zM).r2.c.toNat : Int)] 41)) hgc4))))
          have hC4 := Kd.C_below hC2 (hb.trans (hbw4.mono hb.size))
          have hxn : ∀ j, j < 9 → True := fun _ _ => trivial
          clear hxn hqs hap hR hb hm hS hSL hgcells hgc4
          generalize hai : ms.getD i zM = a at *
          go_wp2
          have a0 : (wr.alloc (.cells #[.int .u8 (a.r0.a.toNat : Int), .int .u8 (a.r0.b.toNat : Int), .int .u8 (a.r0.c.toNat : Int), .int .u8 (a.r1.a.toNat : Int), .int .u8 (a.r1.b.toNat : Int), .int .u8 (a.r1.c.toNat : Int), .int .u8 (a.r2.a.toNat : Int), .int .u8 (a.r2.b.toNat : Int), .int .u8 (a.r2.c.toNat : Int)] 41)).cell? ⟨wr.heap.size, 0, none⟩ = some (.int .u8 (a.r0.a.toNat : Int)) := bq5
          have a1 : (wr.alloc (.cells #[.int .u8 (a.r0.a.toNat : Int), .int .u8 (a.r0.b.toNat : Int), .int .u8 (a.r0.c.toNat : Int), .int .u8 (a.r1.a.toNat : Int), .int .u8 (a.r1.b.toNat : Int), .int .u8 (a.r1.c.toNat : Int), .int .u8 (a.r2.a.toNat : Int), .int .u8 (a.r2.b.toNat : Int), .int .u8 (a.r2.c.toNat : Int)] 41)).cell? ⟨wr.heap.size, 1, none⟩ = some (.int .u8 (a.r0.b.toNat : Int)) := bq5
          have a2 : (wr.alloc (.cells #[.int .u8 (a.r0.a.toNat : Int), .int .u8 (a.r0.b.toNat : Int), .int .u8 (a.r0.c.toNat : Int), .int .u8 (a.r1.a.toNat : Int), .int .u8 (a.r1.b.toNat : Int), .int .u8 (a.r1.c.toNat : Int), .int .u8 (a.r2.a.toNat : Int), .int .u8 (a.r2.b.toNat : Int), .int .u8 (a.r2.c.toNat : Int)] 41)).cell? ⟨wr.heap.size, 2, none⟩ = some (.int .u8 (a.r0.c.toNat : Int)) := bq5
          have a3 : (wr.alloc (.cells #[.int .u8 (a.r0.a.toNat : Int), .int .u8 (a.r0.b.toNat : Int), .int .u8 (a.r0.c.toNat : Int), .int .u8 (a.r1.a.toNat : Int), .int .u8 (a.r1.b.toNat : Int), .int .u8 (a.r1.c.toNat : Int), .int .u8 (a.r2.a.toNat : Int), .int .u8 (a.r2.b.toNat : Int), .int .u8 (a.r2.c.toNat : Int)] 41)).cell? ⟨wr.heap.size, 3, none⟩ = some (.int .u8 (a.r1.a.toNat : Int)) := bq5
          have a4 : (wr.alloc (.cells #[.int .u8 (a.r0.a.toNat : Int), .int .u8 (a.r0.b.toNat : Int), .int .u8 (a.r0.c.toNat : Int), .int .u8 (a.r1.a.toNat : Int), .int .u8 (a.r1.b.toNat : Int), .int .u8 (a.r1.c.toNat : Int), .int .u8 (a.r2.a.toNat : Int), .int .u8 (a.r2.b.toNat : Int), .int .u8 (a.r2.c.toNat : Int)] 41)).cell? ⟨wr.heap.size, 4, none⟩ = some (.int .u8 (a.r1.b.toNat : Int)) := bq5
          have a5 : (wr.alloc (.cells #[.int .u8 (a.r0.a.toNat : Int), .int .u8 (a.r0.b.toNat : Int), .int .u8 (a.r0.c.toNat : Int), .int .u8 (a.r1.a.toNat : Int), .int .u8 (a.r1.b.toNat : Int), .int .u8 (a.r1.c.toNat : Int), .int .u8 (a.r2.a.toNat : Int), .int .u8 (a.r2.b.toNat : Int), .int .u8 (a.r2.c.toNat : Int)] 41)).cell? ⟨wr.heap.size, 5, none⟩ = some (.int .u8 (a.r1.c.toNat : Int)) := bq5
          have a6 : (wr.alloc (.cells #[.int .u8 (a.r0.a.toNat : Int), .int .u8 (a.r0.b.toNat : Int), .int .u8 (a.r0.c.toNat : Int), .int .u8 (a.r1.a.toNat : Int), .int .u8 (a.r1.b.toNat : Int), .int .u8 (a.r1.c.toNat : Int), .int .u8 (a.r2.a.toNat : Int), .int .u8 (a.r2.b.toNat : Int), .int .u8 (a.r2.c.toNat : Int)] 41)).cell? ⟨wr.heap.size, 6, none⟩ = some (.int .u8 (a.r2.a.toNat : Int)) := bq5
          have a7 : (wr.alloc (.cells #[.int .u8 (a.r0.a.toNat : Int), .int .u8 (a.r0.b.toNat : Int), .int .u8 (a.r0.c.toNat : Int), .int .u8 (a.r1.a.toNat : Int), .int .u8 (a.r1.b.toNat : Int), .int .u8 (a.r1.c.toNat : Int), .int .u8 (a.r2.a.toNat : Int), .int .u8 (a.r2.b.toNat : Int), .int .u8 (a.r2.c.toNat : Int)] 41)).cell? ⟨wr.heap.size, 7, none⟩ = some (.int .u8 (a.r2.b.toNat : Int)) := bq5
          have a8 : (wr.alloc (.cells #[.int .u8 (a.r0.a.toNat : Int), .int .u8 (a.r0.b.toNat : Int), .int .u8 (a.r0.c.toNat : Int), .int .u8 (a.r1.a.toNat : Int), .int .u8 (a.r1.b.toNat : Int), .int .u8 (a.r1.c.toNat : Int), .int .u8 (a.r2.a.toNat : Int), .int .u8 (a.r2.b.toNat : Int), .int .u8 (a.r2.c.toNat : Int)] 41)).cell? ⟨wr.heap.size, 8, none⟩ = some (.int .u8 (a.r2.c.toNat : Int)) := bq5
          have G0 := pw_cell_below hbw4 g0
          have G1 := pw_cell_below hbw4 g1
          have G2 := pw_cell_below hbw4 g2
          generalize hW4 : (wr.alloc (.cells #[.int .u8 (a.r0.a.toNat : Int), .int .u8 (a.r0.b.toNat : Int), .int .u8 (a.r0.c.toNat : Int), .int .u8 (a.r1.a.toNat : Int), .int .u8 (a.r1.b.toNat : Int), .int .u8 (a.r1.c.toNat : Int), .int .u8 (a.r2.a.toNat : Int), .int .u8 (a.r2.b.toNat : Int), .int .u8 (a.r2.c.toNat : Int)] 41)) = W4 at *
          generalize W4.alloc (.cells #[] 2) = W5 at *
          clear hW4 g0 g1 g2 q0 q1 q2 q3 q4 q5 q6 q7 q8 s0 s1 ha
          rw [hz4] at hK0
          generalize hN4 : wr.heap.size = N4 at *
          have hab : N4 < W4.heap.size := by omega
          have hgsne : gs ≠ N4 := by omega
          obtain ⟨GK, HGK⟩ : ∃ GK, Hid (GK = gk) := ⟨gk, Lib.hid rfl⟩
          have hgne0 : gs ≠ w.heap.size := by omega
          go_loopg [36, 8] ms.length (fun k v36 v8 w' => ∃ (t : Nat) (B8 : Option Addr) (c8 : Nat), t + k = ms.length ∧ v36 = .int .i64 t ∧ v8 = .slice B8 (clsA p n ms i t).length c8 ∧ kB.R 4 w' X.heap.size (fun k => k = gs) (.slice (some ⟨gs, 0, none⟩) ms.length cs) (seenL p n ms (metL p n ms i).1 i t) ∧ kI.R 2 w' (N4 + 1) (fun _ => True) (.slice B8 (clsA p n ms i t).length c8) (clsA p n ms i t) ∧ W4.grownBy w' (some gs))
          case atStart => exact ⟨0, _, 0, by omega, rfl, rfl, hSa, hK0, hgr⟩
          case round =>
            clear hSa hK0 hgr
            obtain ⟨t, B8, c8, htk, rfl, rfl, hS, hK, hgw⟩ := hrel
            have HTK := Lib.hid htk
            clear htk
            have hs4 := hgw.size
            have G0 := far_cell hgw G0 (by simpa using hgne0.symm)
            have G1 := far_cell hgw G1 (by simpa using hgne0.symm)
            have G2 := far_cell hgw G2 (by simpa using hgne0.symm)
            have a0 := far_cell hgw a0 (by simpa using hgsne.symm)
            have a1 := far_cell hgw a1 (by simpa using hgsne.symm)
            have a2 := far_cell hgw a2 (by simpa using hgsne.symm)
            have a3 := far_cell hgw a3 (by simpa using hgsne.symm)
            have a4 := far_cell hgw a4 (by simpa using hgsne.symm)
            have a5 := far_cell hgw a5 (by simpa using hgsne.symm)
            have a6 := far_cell hgw a6 (by simpa using hgsne.symm)
            have a7 := far_cell hgw a7 (by simpa using hgsne.symm)
            have a8 := far_cell hgw a8 (by simpa using hgsne.symm)
            by_cases ht : t < ms.length
            · obtain ⟨b', o', hA', r0, r1, r2, r3, r4, r5, r6, r7, r8⟩ := kM_at hC4 t ht
              injection hA' with hA'
              injection hA' with e1 e2
              subst e1
              subst e2
              have r0 := far_cell hgw r0 (by simp; omega)
              have r1 := far_cell hgw r1 (by simp; omega)
              have r2 := far_cell hgw r2 (by simp; omega)
              have r3 := far_cell hgw r3 (by simp; omega)
              have r4 := far_cell hgw r4 (by simp; omega)
              have r5 := far_cell hgw r5 (by simp; omega)
              have r6 := far_cell hgw r6 (by simp; omega)
              have r7 := far_cell hgw r7 (by simp; omega)
              have r8 := far_cell hgw r8 (by simp; omega)
              replace zg := World.block_lt_of_cell? _ _ G0
              replace zb := World.block_lt_of_cell? _ _ r0
              have za := World.block_lt_of_cell? _ _ a0
              simp only [] at zg zb za
              have hC5 := C_grownN hC4 hgw (fun a' ha' => by injection ha' with ha'; rw [← ha']; simp; omega)
              have ht0 : (0 : Int) ≤ t := by omega
              have ht1 : (t : Int) < ms.length := by omega
              have htn : ((t : Int)).toNat = t := by omega
              have hmt := GP.out.mat t ht
              have hf := (clsI_at GP.out hi ht).1
              have hfx : idxM ms (turnM p n (ms.getD t zM) a (invM p n.toNat (ms.getD t zM).num)) = ((clsI p n ms i t : Nat) : Int) := by rw [← hai]; exact idx_int (con_mem GP.out (getD_memM ht) (getD_memM hi))
              have hsg := seenL_get (p := p) (n := n) (ms := ms) (i := i) (k := t) hf (HNEW.out t ht)
              have HS1 := Lib.hid (show clsB p n ms i (clsI p n ms i t) t = true → seenL p n ms (metL p n ms i).1 i (t + 1) = seenL p n ms (metL p n ms i).1 i t ∧ clsA p n ms i (t + 1) = clsA p n ms i t from fun h => ⟨seenL_same h, by rw [clsA, if_pos h]⟩)
              have HS2 := Lib.hid (show clsB p n ms i (clsI p n ms i t) t = false → seenL p n ms (metL p n ms i).1 i (t + 1) = (seenL p n ms (metL p n ms i).1 i t).set (clsI p n ms i t) true ∧ clsA p n ms i (t + 1) = clsA p n ms i t ++ [(clsI p n ms i t : Int)] from fun h => ⟨seenL_set, by rw [clsA, if_neg (by rw [h]; decide)]⟩)
              have hal : (clsA p n ms i t).length ≤ 48 := by have := clsA_len (p := p) (n := n) (ms := ms) (i := i) t; omega
              have hma := (matB_le hmt).1
              have haa := (matB_le hmi).1
              have hIv := fun W => inverted_g hmt W
              have hTn := fun W => turned_c hp hp' hn1 hn3 hma haa (invM_le hmt) W
              generalize ms.getD t zM = m at *
              have hIx := fun W h => indexM_c (c := c) (ms := ms) (turnM p n m a (invM p n.toNat m.num)) (w := W) (A := some ⟨b, o, none⟩) h (by omega)
              rw [hfx] at hIx
              clear hfx
              generalize turnM p n m a (invM p n.toNat m.num) = u at *
              generalize invM p n.toNat m.num = v at *
              obtain ⟨sf0, sf1⟩ := kB_cell hS (clsI p n ms i t) hf
              rw [hsg] at sf0
              generalize clsI p n ms i t = f at *
              generalize hcb : clsB p n ms i f t = cb at *
              generalize seenL p n ms (metL p n ms i).1 i t = sl at *
              generalize clsA p n ms i t = cl at *
              have hf0 : (0 : Int) ≤ f := by omega
              have hf1 : (f : Int) < ms.length := by omega
              have hfn : ((f : Int)).toNat = f := by omega
              have hgsr := World.block_lt_of_cell? _ _ sf0
              simp only [] at hgsr
              have HKS := Lib.hid (And.intro hS (And.intro hK hgw))
              clear hS hK hgw hsg hma haa
              have hC6 := Kd.C_alloc hC5 (.cells #[.int .u8 (m.r0.a.toNat : Int), .int .u8 (m.r0.b.toNat : Int), .int .u8 (m.r0.c.toNat : Int), .int .u8 (m.r1.a.toNat : Int), .int .u8 (m.r1.b.toNat : Int), .int .u8 (m.r1.c.toNat : Int), .int .u8 (m.r2.a.toNat : Int), .int .u8 (m.r2.b.toNat : Int), .int .u8 (m.r2.c.toNat : Int)] 41)
              go_wp2_with fail
              (first | refine wp_region_later2 (by kernel_rfl) (by kernel_rfl) ?_ | refine wp_region_later (by kernel_rfl) (by kernel_rfl) ?_); (repeat (go_big_quiet_step (first | (go_at_call 67; with_reducible exact quiet_later (hIv _)) | (go_at_call 82; with_reducible exact quiet_later (hTn _)) | (go_at_call 81; with_reducible exact quiet_later (hIx _ (Kd.C_below hC6 (Later.ok _))))))); refine wpQuiet_nil ?_; intro x2
              have sg0 := x2.keep (cell_alloc sf0 (.cells #[.int .u8 (m.r0.a.toNat : Int), .int .u8 (m.r0.b.toNat : Int), .int .u8 (m.r0.c.toNat : Int), .int .u8 (m.r1.a.toNat : Int), .int .u8 (m.r1.b.toNat : Int), .int .u8 (m.r1.c.toNat : Int), .int .u8 (m.r2.a.toNat : Int), .int .u8 (m.r2.b.toNat : Int), .int .u8 (m.r2.c.toNat : Int)] 41))
              cases cb with
              | true =>
                go_wp2
                go_roundg (gk - 1)
                case measure => have := HTK.out; omega
                case rel =>
                  obtain ⟨k1, k2, k3⟩ := HKS.out
                  obtain ⟨e1, e2⟩ := HS1.out (by first | rfl | trivial)
                  refine ⟨t + 1, B8, c8, by have := HTK.out; omega, by go_num, by rw [e2], ?_, ?_, gb_below (gb_below k3 (below_alloc2 _ _)) x2.ok⟩
                  · rw [e1]; exact Kd.R_below (Kd.R_alloc k1 _) x2.ok
                  · rw [e2]; exact Kd.R_below (Kd.R_alloc k2 _) x2.ok
              | false =>
                obtain ⟨e1, e2⟩ := HS2.out (by first | rfl | trivial)
                obtain ⟨k1, k2, k3⟩ := HKS.out
                have hz2 := x2.ok.size
                simp at hz2
                have sg1 : x2.W.frozen? ⟨gs, f, none⟩ = false := (x2.ok.frozen (by show gs < _; simp; omega)).trans (((below_alloc2 wr (.cells #[.int .u8 (m.r0.a.toNat : Int), .int .u8 (m.r0.b.toNat : Int), .int .u8 (m.r0.c.toNat : Int), .int .u8 (m.r1.a.toNat : Int), .int .u8 (m.r1.b.toNat : Int), .int .u8 (m.r1.c.toNat : Int), .int .u8 (m.r2.a.toNat : Int), .int .u8 (m.r2.b.toNat : Int), .int .u8 (m.r2.c.toNat : Int)] 41)).frozen hgsr).trans sf1)
                have hKa : kI.R 2 (x2.W.setCell ⟨gs, f, none⟩ (.bool true)) (N4 + 1) (fun k => N4 + 1 ≤ k) (.slice B8 cl.length c8) cl := Kd.R_far (Kd.R_mono (Kd.R_bound (Kd.R_below (Kd.R_alloc k2 _) x2.ok)) (fun k hk => hk.2.1)) (p := ⟨gs, f, none⟩) (fun k hk => by show k ≠ gs; omega) (.bool true)
                have hSb : kB.R 4 (x2.W.setCell ⟨gs, f, none⟩ (.bool true)) X.heap.size (fun k => k = gs) (.slice (some ⟨gs, 0, none⟩) ms.length cs) (sl.set f true) := kB_set (Kd.R_below (Kd.R_alloc k1 _) x2.ok) f true
                have hgw3 : W4.grownBy (x2.W.setCell ⟨gs, f, none⟩ (.bool true)) (some gs) := grown_set (gb_below (gb_below k3 (below_alloc2 _ _)) x2.ok) f (.bool true)
                have hsz : (x2.W.setCell ⟨gs, f, none⟩ (.bool true)).heap.size = x2.W.heap.size := by simp
                have HSB := Lib.hid (And.intro hSb hgw3)
                have hvb : ∀ k, (Value.slice B8 cl.length c8).ownBlock = some k → N4 + 1 ≤ k := Kd.R_base k2
                have HVB := Lib.hid hvb
                have HE := Lib.hid (And.intro e1 e2)
                clear e1 e2 k1 k2 k3 hSb hgw3 hvb
                go_wp2_with (first
                  | ((with_reducible refine gate_ (.call { callee := .builtin .append, args := #[.tmp 64, .tmp 66], argTypes := #[55, 55] }) rfl ?_); refine Kd.R_append kI (w0 := x2.W.setCell ⟨gs, f, none⟩ (.bool true)) (W := x2.W.setCell ⟨gs, f, none⟩ (.bool true)) (N4 + 1) rfl (.tmp 64) (.tmp 66) 55 2 (.int .i64 0) 8 rfl Try.underlying55 infoI rfl (by decide) (by decide) (Value.slice B8 cl.length c8) cl (f : Int) [.int .i64 f] (fun k => N4 + 1 ≤ k) (fun _ => False) rfl (by rw [hsz]; rfl) rfl (fun _ hk => hk.elim) (fun k hk => by simp at hk; omega) hKa (Below.refl _ _) (by simp; omega) (by omega) ?_; intro v1 w1 hR1 hB1 hg1 hat1))
                go_roundg (gk - 1)
                case measure => have := HTK.out; omega
                case rel =>
                  obtain ⟨hSb, hgw3⟩ := HSB.out
                  obtain ⟨e1, e2⟩ := HE.out
                  obtain ⟨P1, c1, hv1⟩ := Kd.R_slice hR1
                  subst hv1
                  refine ⟨t + 1, P1, c1, by have := HTK.out; omega, by go_num, by rw [e2], ?_, ?_, gb_app hgw3 hg1 fun k hk => ?_⟩
                  · rw [e1]
                    refine Kd.R_grown hSb hg1 fun k hk e => ?_
                    have := HVB.out k e.symm
                    omega
                  · rw [e2]; exact Kd.R_mono hR1 fun _ _ => trivial
                  · have := HVB.out k hk
                    omega
            · have hte : t = ms.length := by have := HTK.out; omega
              subst hte
              have hcl : 0 < (clsA p n ms i ms.length).length := List.length_pos_of_mem (clsA_mem.2 ⟨0, by omega, rfl⟩)
              have hal : (clsA p n ms i ms.length).length ≤ 48 := by have := clsA_len (p := p) (n := n) (ms := ms) (i := i) ms.length; omega
              obtain ⟨g8, cap8, hv8, hg8, hg8s, _⟩ := Kd.R_form hK hcl
              have hso := fun h => sortI_c (g := g8) (n := (clsA p n ms i ms.length).length) (c := cap8) (by rw [← hv8]; exact hK) h
              rw [clsA_sort GP.out hi] at hso
              have hzl : (clsZ p n ms i).length = (clsA p n ms i ms.length).length := by rw [← clsA_sort GP.out hi, List.length_mergeSort]
              injection hv8 with hv8a _ hv8c
              subst hv8a
              subst hv8c
              have hql : qs.length = (metL p n ms i).2.length := by rw [← HQ.out.1, List.length_map]
              have hqo : (metL p n ms i).2.length ≤ 48 := metL_outlen hl2 (by omega)
              obtain ⟨_, _, k3, k4, k5⟩ := HQ.out
              have hRo : (tagK kL).R 55 wr X.heap.size (fun k => k < N4 + 1) (.slice P (metL p n ms i).2.length cP) qs := Kd.R_mono (Kd.R_grown (Kd.R_bound (Kd.R_types k3 k5 (by decide))) hgw (fun k hk e => hk.1.2 (by injection e))) fun k hk => by have := hk.2.2.1; omega
              have htg := Lib.hid (tagL_mem k3)
              have hne := Kd.R_ne k3 k5 (by decide)
              have hBX : Below X.heap.size X wr := gb_Below k4 k4.size hgw (fun k hk => by injection hk with hk; omega)
              have hX4 := k4.size
              clear k3 k4 k5
              have HSS := Lib.hid hS
              have HNE := Lib.hid hne
              have HBX := Lib.hid hBX
              have HRO := Lib.hid hRo
              clear hS hne hBX hRo hK hgw
              generalize hzz : clsZ p n ms i = zs at *
              have HZL := Lib.hid hzl
              have HQL := Lib.hid hql
              clear hzl hql
              generalize hnn : (clsA p n ms i ms.length).length = nn at *
              generalize hmm : (metL p n ms i).2.length = mm at *
              have hqs48 : qs.length ≤ 48 := by have := HQL.out; omega
              go_wp2_with (first
                | (go_at_call 83; refine (hso (by omega)).mono ?_; rintro e8 w8 ⟨rfl, hK8, hB8⟩; have hs8 := hB8.size; have hR8 := Kd.R_mono (ok' := fun _ => True) (Kd.R_step HRO.out fun k hk _ => hB8.block k hk) fun _ _ => trivial)
                | ((with_reducible refine gate_ (.call { callee := .builtin .append, args := #[.tmp 71, .tmp 73], argTypes := #[22, 22] }) rfl ?_); have hM := Kd.M_row (num_apart (tag_R hR8) (Kd.R_lower (base' := X.heap.size) hK8 (by omega))); have hMk := (fun (k : Nat) (hk : some k ≠ (Value.slice P mm cP).ownBlock) => (⟨trivial, hk⟩ : True ∧ some k ≠ (Value.slice P mm cP).ownBlock)); refine Kd.R_append (tagK kL) (w0 := w8) (W := w8) X.heap.size rfl (.tmp 71) (.tmp 73) 22 55 (.slice none 0 0) 24 rfl Try.underlying22 infoL rfl (by decide) (by decide) (Value.slice P mm cP) qs ((zs, some g8)) [.slice (some ⟨g8, 0, none⟩) nn c8] (fun _ => True) (fun k => some k ≠ (Value.slice P mm cP).ownBlock) rfl rfl ⟨hM, rfl⟩ hMk (fun _ _ => trivial) hR8 (Below.refl _ _) (by omega) (by (first | omega | (simp; omega))) ?_; intro v9 w9 hR9 hB9 hg9 _))
              go_roundg (GK - 1)
              case measure => have := HIK.out; have := HGK.out; omega
              case rel =>
                obtain ⟨P1, c1, hv1⟩ := Kd.R_slice hR9
                subst hv1
                have hl9 : (qs ++ [(zs, some g8)]).length = (metL p n ms (i + 1)).2.length := by rw [HM.out, List.length_append, List.length_append, HQL.out, hmm]; rfl
                refine ⟨i + 1, P1, c1, qs ++ [(zs, some g8)], by have := HIK.out; have := HGK.out; omega, by go_num, by rw [hl9], ?_, ?_, ?_, by rw [← hl9]; exact hR9, (HBX.out.trans (hB8.mono (by omega))).trans hB9⟩
                · rw [HM.out]
                  refine Kd.R_grown (Kd.R_step HSS.out fun k hk _ => ?_) hg9 fun k hk => ?_
                  · subst hk; exact hB8.block _ (by omega)
                  · subst hk; exact HNE.out
                · rw [HM.out, List.map_append, HQ.out.1]; rfl
                · refine apart_snoc HQ.out.2.1 fun q hq => ?_
                  cases hk : q.2 with
                  | none => exact .inl rfl
                  | some k =>
                    refine .inr fun e => ?_
                    have h1 := (htg.out q hq k hk).2.2
                    injection e with e
                    omega
      · have hie : i = ms.length := by have := HIK.out; omega
        subst hie
        go_wp2
        refine bodyPost_ret (v := .tuple #[.slice P (metL p n ms ms.length).2.length cP, .int .i64 0]) (by simp [results, Try.results41, go_sem]) rfl ?_
        exact ⟨_, _, qs, rfl, hqs, hap, Kd.R_lower hR (by omega), by have := hbX.trans (hb.mono (by omega)); exact this⟩
end Go.Proofs.Ytimjhehagimcaaa
/- The reference's classes of a group; no condition. -/
set_option linter.unusedVariables false
set_option linter.unusedSimpArgs false
namespace Go.Proofs.Ytimjhehagimcaaa
open Go.RowKit Go.Proofs.YtimjhehagimcaaaW.PrintWords
attribute [local go_sem] Later.cell Later.frozen Later.lt Later.lt_add Later.le Later.le_add Later.ne Later.ne' add_at
open Go.Proofs.YtimjhehagimcaaaW.PrintLast
attribute [local go_sem 2000] run_eqM guardM
attribute [local go_sem] later_drew2 later_drewf2
theorem call_inv0 {P : Program} {f : FuncId} {args : Array Value} {w : World} {b : Bool} {tm : M9} {R : Ending → World → Prop}
    (h : Calls P f args w (fun e w' => ∃ m : M9, e = .returned (.tuple #[.agg #[.int .u8 (m.r0.a.toNat : Int), .int .u8 (m.r0.b.toNat : Int), .int .u8 (m.r0.c.toNat : Int), .int .u8 (m.r1.a.toNat : Int), .int .u8 (m.r1.b.toNat : Int), .int .u8 (m.r1.c.toNat : Int), .int .u8 (m.r2.a.toNat : Int), .int .u8 (m.r2.b.toNat : Int), .int .u8 (m.r2.c.toNat : Int)], .bool b]) ∧ (m = tm) ∧ Below w.heap.size w w')) (k : ∀ (x : Later w), R (.returned (.tuple #[.agg #[.int .u8 (tm.r0.a.toNat : Int), .int .u8 (tm.r0.b.toNat : Int), .int .u8 (tm.r0.c.toNat : Int), .int .u8 (tm.r1.a.toNat : Int), .int .u8 (tm.r1.b.toNat : Int), .int .u8 (tm.r1.c.toNat : Int), .int .u8 (tm.r2.a.toNat : Int), .int .u8 (tm.r2.b.toNat : Int), .int .u8 (tm.r2.c.toNat : Int)], .bool b])) x.W) : Calls P f args w R :=
  h.mono fun _ w' ⟨m, he, hq, hb⟩ => by subst he; subst hq; exact k ⟨w', hb⟩
theorem below_undrewC {w W : World} (h : Below w.drew.heap.size w.drew W) : Below w.heap.size w W := ⟨h.os, h.tape, h.output, h.size, h.block⟩
/-- What lies behind the two allocations of a row of marks and of an empty row, in either order. -/
structure Two (W wx : World) (m : Nat) (v5 v6 : Value) (E : Nat) : Prop where
  below : Below W.heap.size W wx
  f5 : ∃ a, v5 = .slice (some ⟨a, 0, none⟩) m m ∧ W.heap.size ≤ a ∧ kB.R 4 wx W.heap.size (fun k => k = a) v5 (List.replicate m false)
  f6 : ∃ b, v6 = .slice (some ⟨b, 0, none⟩) 0 0 ∧ W.heap.size ≤ b ∧ wx.heap[b]? = some (.cells #[] E (0, 0))
theorem Two.drew {W wx : World} {m : Nat} {v5 v6 : Value} {E : Nat} (h : Two W wx m v5 v6 E) : Two W wx.drew m v5 v6 E :=
  ⟨Below.drew h.below, by obtain ⟨a, h1, h2, h3⟩ := h.f5; exact ⟨a, h1, h2, Kd.R_step h3 fun _ _ _ => rfl⟩, h.f6⟩
theorem two_made (E : Nat) (W : World) (m : Nat) (hm : m ≤ 9223372036854775807) : Two W ((W.alloc (.cells (madeCells #[.bool false] m) 4)).alloc (.cells #[] E)) m (.slice (some ⟨W.heap.size, 0, none⟩) m m) (.slice (some ⟨W.heap.size + 1, 0, none⟩) 0 0) E := by
  refine ⟨below_alloc (below_alloc (Below.refl _ _) _) _, ⟨_, rfl, Nat.le_refl _, Kd.R_alloc (Kd.R_of_own ?_ fun k hk => by simpa [Value.ownBlock] using hk.symm) _⟩, ⟨_, rfl, by omega, ?_⟩⟩
  · rw [List.length_replicate]
    exact own_made_of W W.heap.size 4 m (Nat.le_refl _) hm
  · have := heap_alloc_last (W.alloc (.cells (madeCells #[.bool false] m) 4)) (.cells #[] E)
    simpa using this
theorem two_made2 (E : Nat) (W : World) (m : Nat) (hm : m ≤ 9223372036854775807) : Two W ((W.alloc (.cells #[] E)).alloc (.cells (madeCells #[.bool false] m) 4)) m (.slice (some ⟨W.heap.size + 1, 0, none⟩) m m) (.slice (some ⟨W.heap.size, 0, none⟩) 0 0) E := by
  refine ⟨below_alloc (below_alloc (Below.refl _ _) _) _, ⟨_, rfl, by omega, Kd.R_of_own ?_ fun k hk => by simpa [Value.ownBlock] using hk.symm⟩, ⟨_, rfl, by omega, ?_⟩⟩
  · rw [List.length_replicate]
    have := own_made_of (W.alloc (.cells #[] E)) W.heap.size 4 (d := false) (enc := Value.bool) m (by simp) hm
    simpa using this
  · have h1 := heap_alloc_last W (.cells #[] E)
    exact (Below.heap_alloc (W.alloc (.cells #[] E)) _ W.heap.size (by simp)).trans h1
set_option maxRecDepth 100000 in
set_option maxHeartbeats 8000000 in
theorem l02Classes_c (p n : Int) (A : Option Addr) (c : Nat) (ms : List M9) (w : World) (hC : kM.C w A ms.length ms) (gp : GrpP p n ms) :
    Calls Try.prog 79 #[.agg #[.int .i64 p, .int .i64 n, .slice A ms.length c]] w (Makes kL 55 (metL p n ms ms.length).2 w) := by
  obtain ⟨hp, hp', hn1, hn3⟩ := grp_num4 gp
  have hl1 := gp.l1
  have hl2 := gp.l2
  have GP := Lib.hid gp
  have hmk := print_make_of (P := Try.prog) 97 4 (.bool false) 1 Try.underlying97 infoB rfl (by decide) ms.length (by omega)
  have hC1 := Kd.C_alloc hC (.cells #[.int .i64 p, .int .i64 n, .slice A ms.length c] 31)
  clear gp
  go_enter Try.func79, Try.ntmps79
  go_wp2_with fail
  have g0 : (w.alloc (.cells #[.int .i64 p, .int .i64 n, .slice A ms.length c] 31)).cell? ⟨w.heap.size, 0, none⟩ = some (.int .i64 p) := bq5
  have g1 : (w.alloc (.cells #[.int .i64 p, .int .i64 n, .slice A ms.length c] 31)).cell? ⟨w.heap.size, 1, none⟩ = some (.int .i64 n) := bq5
  have g2 : (w.alloc (.cells #[.int .i64 p, .int .i64 n, .slice A ms.length c] 31)).cell? ⟨w.heap.size, 2, none⟩ = some (.slice A ms.length c) := bq5
  have zg : w.heap.size < (w.alloc (.cells #[.int .i64 p, .int .i64 n, .slice A ms.length c] 31)).heap.size := by simp
  have hbw : Below w.heap.size w (w.alloc (.cells #[.int .i64 p, .int .i64 n, .slice A ms.length c] 31)) := below_alloc2 _ _
  generalize hW2 : (w.alloc (.cells #[.int .i64 p, .int .i64 n, .slice A ms.length c] 31)) = W2 at *
  clear hW2
  have hw2 := hbw.size
  go_cut [3, 4, 5, 6] from 14 to 23 (fun v3 v4 v5 v6 wx => v3 = .int .i64 p ∧ v4 = .int .i64 n ∧ Two W2 wx ms.length v5 v6 55)
  case first =>
    go_region_held3 (fun w' => w'.cell? ⟨w.heap.size, 0, none⟩ = some (.int .i64 p) ∧ w'.cell? ⟨w.heap.size, 1, none⟩ = some (.int .i64 n) ∧ w'.cell? ⟨w.heap.size, 2, none⟩ = some (.slice A ms.length c)) ((refine ⟨?_, ?_, ?_⟩ <;> (first | assumption | (exact cell_alloc (by assumption) _) | (exact cell_alloc (cell_alloc (by assumption) _) _)))) (fail)
    all_goals (go_wp2_with fail; go_meet; refine ⟨rfl, rfl, ?_⟩; first | exact (two_made _ _ _ (by omega)).drew | exact (two_made2 _ _ _ (by omega)).drew | exact two_made _ _ _ (by omega) | exact two_made2 _ _ _ (by omega))
  case rest =>
    obtain ⟨rfl, rfl, hTw⟩ := hcut
    generalize hWC : wc = V1 at *
    clear hWC
    obtain ⟨hbv, ⟨gs, rfl, hgs2, hS0⟩, b6, rfl, hb6, hh6⟩ := hTw
    have hR0 := R_zero2 kL (base := W2.heap.size) (fun _ => True) trivial hh6 hb6
    have hz0 : (metL p n ms 0).1 = List.replicate ms.length false := rfl
    rw [← hz0] at hS0
    clear hz0 hh6
    go_wp2_with fail
    go_loopg [7, 6] ms.length (fun k v7 v6 w' => ∃ (i : Nat) (P : Option Addr) (cP : Nat), i + k = ms.length ∧ v7 = .int .i64 i ∧ v6 = .slice P (metL p n ms i).2.length cP ∧ kB.R 4 w' W2.heap.size (fun k => k = gs) (.slice (some ⟨gs, 0, none⟩) ms.length ms.length) (metL p n ms i).1 ∧ kL.R 55 w' W2.heap.size (fun _ => True) (.slice P (metL p n ms i).2.length cP) (metL p n ms i).2 ∧ Below W2.heap.size W2 w')
    case atStart => exact ⟨0, _, 0, by omega, rfl, rfl, hS0, hR0, hbv⟩
    case round =>
      clear hS0 hR0 hbv
      obtain ⟨i, P, cP, hik, rfl, rfl, hS, hR, hb⟩ := hrel
      have HIK := Lib.hid hik
      clear hik
      have g2 := pw_cell_below hb g2
      replace zg := World.block_lt_of_cell? _ _ g2
      simp only [] at zg
      by_cases hi : i < ms.length
      · obtain ⟨s0, s1⟩ := kB_cell hS i hi
        have zs := World.block_lt_of_cell? _ _ s0
        simp only [] at zs
        have hi0 : (0 : Int) ≤ i := by omega
        have hi1 : (i : Int) < ms.length := by omega
        have hin : ((i : Int)).toNat = i := by omega
        cases hm : (metL p n ms i).1.getD i false with
        | true =>
          rw [hm] at s0
          have HM := Lib.hid (metL_yes hm)
          have HRR := Lib.hid (And.intro hS (And.intro hR hb))
          clear hm hS hR hb
          go_wp2
          go_roundg (gk - 1)
          case measure => have := HIK.out; omega
          case rel =>
            obtain ⟨k1, k4, k5⟩ := HRR.out
            exact ⟨i + 1, P, cP, by have := HIK.out; omega, by go_num, by rw [HM.out], by rw [HM.out]; exact k1, by rw [HM.out]; exact k4, k5⟩
        | false =>
          rw [hm] at s0
          rename World => VR
          obtain ⟨GK, HGK⟩ : ∃ GK, Hid (GK = gk) := ⟨gk, Lib.hid rfl⟩
          have HM := Lib.hid (metL_no hm)
          have hml := metL_len p n ms i
          obtain ⟨gcells, hgc⟩ := Kd.R_typed hS gs rfl
          have hout : (metL p n ms i).2.length ≤ 48 := metL_outlen hl2 (by omega)
          have hsb := hb.size
          have HRR := Lib.hid (And.intro hS (And.intro hR (And.intro hb hgc)))
          have hCr := Kd.C_below hC1 hb
          generalize hMET : (metL p n ms i).1 = met at *
          generalize hOUT : (metL p n ms i).2 = out at *
          have HML := Lib.hid hml
          clear hm hS hR hb hgc hml
          go_upto_region 6 with fail
          go_cut [8, 9] from 34 to 39 (fun v8 v9 wx => Two VR wx ms.length v8 v9 2)
          case first =>
            go_wp2_with fail
            go_meet
            (first | exact two_made _ _ _ (by omega) | (have := two_made 2 VR ms.length (by omega); simpa using this))
          case rest =>
            obtain ⟨hbo, ⟨os, rfl, hos, hO0⟩, b9, rfl, hb9, hh9⟩ := hcut
            generalize hWC : wc = V2 at *
            clear hWC
            have g2 := pw_cell_below hbo g2
            have hK0 := R_zero2 kI (base := VR.heap.size) (fun _ => True) trivial hh9 hb9
            obtain ⟨ocells, hoc⟩ := Kd.R_typed hO0 os rfl
            have hoz := hbo.size
            have hob2 := (Kd.R_bound hO0).1 os rfl
            have hosV := hob2.2.2.1
            have HK0 := Lib.hid (And.intro hK0 hbo)
            rw [← ownK_zero p n ms i] at hO0
            have HOC := Lib.hid hoc
            clear hK0 hh9 hob2 hoc s0 s1
            go_wp2_with fail
            go_loopg [10] ms.length (fun k v10 w' => ∃ (t : Nat), t + k = ms.length ∧ v10 = .int .i64 t ∧ kB.R 4 w' VR.heap.size (fun k => k = os) (.slice (some ⟨os, 0, none⟩) ms.length ms.length) (ownK p n ms i t) ∧ V2.grownBy w' (some os))
            case atStart => exact ⟨0, by omega, rfl, hO0, grown_refl _ _⟩
            case round =>
              clear hO0
              obtain ⟨t, htk, rfl, hO, hgw⟩ := hrel
              have HTK := Lib.hid htk
              clear htk
              have hs2 := hgw.size
              have g2 := far_cell hgw g2 (by simp; omega)
              by_cases ht : t < ms.length
              · have ht' := ht
                obtain ⟨b, o, hA, s0, s1, s2, s3, s4, s5, s6, s7, s8⟩ := kM_at hCr t ht
                obtain ⟨b', o', hA', r0, r1, r2, r3, r4, r5, r6, r7, r8⟩ := kM_at hCr i hi
                subst hA
                injection hA' with hA'
                injection hA' with e1 e2
                subst e1
                subst e2
                have zb := World.block_lt_of_cell? _ _ s0
                simp only [] at zb
                have s0 := far_cell hgw (pw_cell_below hbo s0) (by simp; omega)
                have r0 := far_cell hgw (pw_cell_below hbo r0) (by simp; omega)
                have s1 := far_cell hgw (pw_cell_below hbo s1) (by simp; omega)
                have r1 := far_cell hgw (pw_cell_below hbo r1) (by simp; omega)
                have s2 := far_cell hgw (pw_cell_below hbo s2) (by simp; omega)
                have r2 := far_cell hgw (pw_cell_below hbo r2) (by simp; omega)
                have s3 := far_cell hgw (pw_cell_below hbo s3) (by simp; omega)
                have r3 := far_cell hgw (pw_cell_below hbo r3) (by simp; omega)
                have s4 := far_cell hgw (pw_cell_below hbo s4) (by simp; omega)
                have r4 := far_cell hgw (pw_cell_below hbo r4) (by simp; omega)
                have s5 := far_cell hgw (pw_cell_below hbo s5) (by simp; omega)
                have r5 := far_cell hgw (pw_cell_below hbo r5) (by simp; omega)
                have s6 := far_cell hgw (pw_cell_below hbo s6) (by simp; omega)
                have r6 := far_cell hgw (pw_cell_below hbo r6) (by simp; omega)
                have s7 := far_cell hgw (pw_cell_below hbo s7) (by simp; omega)
                have r7 := far_cell hgw (pw_cell_below hbo r7) (by simp; omega)
                have s8 := far_cell hgw (pw_cell_below hbo s8) (by simp; omega)
                have r8 := far_cell hgw (pw_cell_below hbo r8) (by simp; omega)
                have hCw := C_grownN (Kd.C_below hCr hbo) hgw (fun a' ha' => by injection ha' with ha'; rw [← ha']; simp; omega)
                have ht0 : (0 : Int) ≤ t := by omega
                have ht1 : (t : Int) < ms.length := by omega
                have htn : ((t : Int)).toNat = t := by omega
                have hmt := GP.out.mat t ht
                have hmi := GP.out.mat i hi
                have hf := (clsI_at GP.out hi ht).1
                have hfx : idxM ms (turnM p n (ms.getD t zM) (ms.getD i zM) (invM p n.toNat (ms.getD t zM).num)) = ((clsI p n ms i t : Nat) : Int) := idx_int (con_mem GP.out (getD_memM ht) (getD_memM hi))
                have HO := Lib.hid (And.intro (ownK_set (p := p) (n := n) (ms := ms) (i := i) (k := t)) (And.intro hO hgw))
                obtain ⟨o0, o1⟩ := kB_cell hO (clsI p n ms i t) hf
                have zos := World.block_lt_of_cell? _ _ o0
                simp only [] at zos
                have haa := (matB_le hmi).1
                have hma := (matB_le hmt).1
                have hvl := invM_le hmt
                have hIv := fun W => l02Inverse_g hmt W
                generalize ms.getD t zM = m at *
                generalize ms.getD i zM = a at *
                have hT1 := fun W => l02Times_l hp hp' hn1 hn3 hma haa W
                have hzl := timesM_le (p := p) (n := n.toNat) (g := m) (h := a) hp hp'
                have hT2 := fun W => l02Times_l hp hp' hn1 hn3 hzl hvl W
                generalize hv : invM p n.toNat m.num = v at *
                generalize hz1 : timesM p n.toNat m a = z1 at *
                have hF := fun W h => l02Find_c (c := c) (ms := ms) (timesM p n.toNat z1 v) (w := W) (A := some ⟨b, o, none⟩) h (by omega)
                have hfx : idxM ms (timesM p n.toNat z1 v) = ((clsI p n ms i t : Nat) : Int) := by rw [← hz1]; exact hfx
                rw [hfx] at hF
                clear hfx hv hz1 hmt hmi hO hma haa hvl hzl
                generalize timesM p n.toNat z1 v = z2 at *
                generalize clsI p n ms i t = f at *
                generalize (ownK p n ms i t).getD f false = ob at *
                have hf0 : (0 : Int) ≤ f := by omega
                have hf1 : (f : Int) < ms.length := by omega
                have hfn : ((f : Int)).toNat = f := by omega
                clear hgw
                go_upto_region 11 with (go_at_call 68; (with_reducible refine call_inv0 (hIv _) ?_); intro y3; have hy3 := y3.ok.size)
                have hb3 : Below wr.heap.size wr (y3.W.alloc (.cells #[.int .u8 (v.r0.a.toNat : Int), .int .u8 (v.r0.b.toNat : Int), .int .u8 (v.r0.c.toNat : Int), .int .u8 (v.r1.a.toNat : Int), .int .u8 (v.r1.b.toNat : Int), .int .u8 (v.r1.c.toNat : Int), .int .u8 (v.r2.a.toNat : Int), .int .u8 (v.r2.b.toNat : Int), .int .u8 (v.r2.c.toNat : Int)] 41)) := below_alloc y3.ok _
                have t0 : (y3.W.alloc (.cells #[.int .u8 (v.r0.a.toNat : Int), .int .u8 (v.r0.b.toNat : Int), .int .u8 (v.r0.c.toNat : Int), .int .u8 (v.r1.a.toNat : Int), .int .u8 (v.r1.b.toNat : Int), .int .u8 (v.r1.c.toNat : Int), .int .u8 (v.r2.a.toNat : Int), .int .u8 (v.r2.b.toNat : Int), .int .u8 (v.r2.c.toNat : Int)] 41)).cell? ⟨y3.W.heap.size, 0, none⟩ = some (.int .u8 (v.r0.a.toNat : Int)) := bq5
                have t1 : (y3.W.alloc (.cells #[.int .u8 (v.r0.a.toNat : Int), .int .u8 (v.r0.b.toNat : Int), .int .u8 (v.r0.c.toNat : Int), .int .u8 (v.r1.a.toNat : Int), .int .u8 (v.r1.b.toNat : Int), .int .u8 (v.r1.c.toNat : Int), .int .u8 (v.r2.a.toNat : Int), .int .u8 (v.r2.b.toNat : Int), .int .u8 (v.r2.c.toNat : Int)] 41)).cell? ⟨y3.W.heap.size, 1, none⟩ = some (.int .u8 (v.r0.b.toNat : Int)) := bq5
                have t2 : (y3.W.alloc (.cells #[.int .u8 (v.r0.a.toNat : Int), .int .u8 (v.r0.b.toNat : Int), .int .u8 (v.r0.c.toNat : Int), .int .u8 (v.r1.a.toNat : Int), .int .u8 (v.r1.b.toNat : Int), .int .u8 (v.r1.c.toNat : Int), .int .u8 (v.r2.a.toNat : Int), .int .u8 (v.r2.b.toNat : Int), .int .u8 (v.r2.c.toNat : Int)] 41)).cell? ⟨y3.W.heap.size, 2, none⟩ = some (.int .u8 (v.r0.c.toNat : Int)) := bq5
                have t3 : (y3.W.alloc (.cells #[.int .u8 (v.r0.a.toNat : Int), .int .u8 (v.r0.b.toNat : Int), .int .u8 (v.r0.c.toNat : Int), .int .u8 (v.r1.a.toNat : Int), .int .u8 (v.r1.b.toNat : Int), .int .u8 (v.r1.c.toNat : Int), .int .u8 (v.r2.a.toNat : Int), .int .u8 (v.r2.b.toNat : Int), .int .u8 (v.r2.c.toNat : Int)] 41)).cell? ⟨y3.W.heap.size, 3, none⟩ = some (.int .u8 (v.r1.a.toNat : Int)) := bq5
                have t4 : (y3.W.alloc (.cells #[.int .u8 (v.r0.a.toNat : Int), .int .u8 (v.r0.b.toNat : Int), .int .u8 (v.r0.c.toNat : Int), .int .u8 (v.r1.a.toNat : Int), .int .u8 (v.r1.b.toNat : Int), .int .u8 (v.r1.c.toNat : Int), .int .u8 (v.r2.a.toNat : Int), .int .u8 (v.r2.b.toNat : Int), .int .u8 (v.r2.c.toNat : Int)] 41)).cell? ⟨y3.W.heap.size, 4, none⟩ = some (.int .u8 (v.r1.b.toNat : Int)) := bq5
                have t5 : (y3.W.alloc (.cells #[.int .u8 (v.r0.a.toNat : Int), .int .u8 (v.r0.b.toNat : Int), .int .u8 (v.r0.c.toNat : Int), .int .u8 (v.r1.a.toNat : Int), .int .u8 (v.r1.b.toNat : Int), .int .u8 (v.r1.c.toNat : Int), .int .u8 (v.r2.a.toNat : Int), .int .u8 (v.r2.b.toNat : Int), .int .u8 (v.r2.c.toNat : Int)] 41)).cell? ⟨y3.W.heap.size, 5, none⟩ = some (.int .u8 (v.r1.c.toNat : Int)) := bq5
                have t6 : (y3.W.alloc (.cells #[.int .u8 (v.r0.a.toNat : Int), .int .u8 (v.r0.b.toNat : Int), .int .u8 (v.r0.c.toNat : Int), .int .u8 (v.r1.a.toNat : Int), .int .u8 (v.r1.b.toNat : Int), .int .u8 (v.r1.c.toNat : Int), .int .u8 (v.r2.a.toNat : Int), .int .u8 (v.r2.b.toNat : Int), .int .u8 (v.r2.c.toNat : Int)] 41)).cell? ⟨y3.W.heap.size, 6, none⟩ = some (.int .u8 (v.r2.a.toNat : Int)) := bq5
                have t7 : (y3.W.alloc (.cells #[.int .u8 (v.r0.a.toNat : Int), .int .u8 (v.r0.b.toNat : Int), .int .u8 (v.r0.c.toNat : Int), .int .u8 (v.r1.a.toNat : Int), .int .u8 (v.r1.b.toNat : Int), .int .u8 (v.r1.c.toNat : Int), .int .u8 (v.r2.a.toNat : Int), .int .u8 (v.r2.b.toNat : Int), .int .u8 (v.r2.c.toNat : Int)] 41)).cell? ⟨y3.W.heap.size, 7, none⟩ = some (.int .u8 (v.r2.b.toNat : Int)) := bq5
                have t8 : (y3.W.alloc (.cells #[.int .u8 (v.r0.a.toNat : Int), .int .u8 (v.r0.b.toNat : Int), .int .u8 (v.r0.c.toNat : Int), .int .u8 (v.r1.a.toNat : Int), .int .u8 (v.r1.b.toNat : Int), .int .u8 (v.r1.c.toNat : Int), .int .u8 (v.r2.a.toNat : Int), .int .u8 (v.r2.b.toNat : Int), .int .u8 (v.r2.c.toNat : Int)] 41)).cell? ⟨y3.W.heap.size, 8, none⟩ = some (.int .u8 (v.r2.c.toNat : Int)) := bq5
                have g2 := pw_cell_below hb3 g2
                have s0 := pw_cell_below hb3 s0
                have r0 := pw_cell_below hb3 r0
                have s1 := pw_cell_below hb3 s1
                have r1 := pw_cell_below hb3 r1
                have s2 := pw_cell_below hb3 s2
                have r2 := pw_cell_below hb3 r2
                have s3 := pw_cell_below hb3 s3
                have r3 := pw_cell_below hb3 r3
                have s4 := pw_cell_below hb3 s4
                have r4 := pw_cell_below hb3 r4
                have s5 := pw_cell_below hb3 s5
                have r5 := pw_cell_below hb3 r5
                have s6 := pw_cell_below hb3 s6
                have r6 := pw_cell_below hb3 r6
                have s7 := pw_cell_below hb3 s7
                have r7 := pw_cell_below hb3 r7
                have s8 := pw_cell_below hb3 s8
                have r8 := pw_cell_below hb3 r8
                have o0 := pw_cell_below hb3 o0
                have o1 := (hb3.frozen zos).trans o1
                have hCw := Kd.C_below hCw hb3
                have hz3 := hb3.size
                have zo : os < (y3.W.alloc (.cells #[.int .u8 (v.r0.a.toNat : Int), .int .u8 (v.r0.b.toNat : Int), .int .u8 (v.r0.c.toNat : Int), .int .u8 (v.r1.a.toNat : Int), .int .u8 (v.r1.b.toNat : Int), .int .u8 (v.r1.c.toNat : Int), .int .u8 (v.r2.a.toNat : Int), .int .u8 (v.r2.b.toNat : Int), .int .u8 (v.r2.c.toNat : Int)] 41)).heap.size := by omega
                have zb : b < (y3.W.alloc (.cells #[.int .u8 (v.r0.a.toNat : Int), .int .u8 (v.r0.b.toNat : Int), .int .u8 (v.r0.c.toNat : Int), .int .u8 (v.r1.a.toNat : Int), .int .u8 (v.r1.b.toNat : Int), .int .u8 (v.r1.c.toNat : Int), .int .u8 (v.r2.a.toNat : Int), .int .u8 (v.r2.b.toNat : Int), .int .u8 (v.r2.c.toNat : Int)] 41)).heap.size := by omega
                have zx : y3.W.heap.size < (y3.W.alloc (.cells #[.int .u8 (v.r0.a.toNat : Int), .int .u8 (v.r0.b.toNat : Int), .int .u8 (v.r0.c.toNat : Int), .int .u8 (v.r1.a.toNat : Int), .int .u8 (v.r1.b.toNat : Int), .int .u8 (v.r1.c.toNat : Int), .int .u8 (v.r2.a.toNat : Int), .int .u8 (v.r2.b.toNat : Int), .int .u8 (v.r2.c.toNat : Int)] 41)).heap.size := by simp
                have zg : w.heap.size < (y3.W.alloc (.cells #[.int .u8 (v.r0.a.toNat : Int), .int .u8 (v.r0.b.toNat : Int), .int .u8 (v.r0.c.toNat : Int), .int .u8 (v.r1.a.toNat : Int), .int .u8 (v.r1.b.toNat : Int), .int .u8 (v.r1.c.toNat : Int), .int .u8 (v.r2.a.toNat : Int), .int .u8 (v.r2.b.toNat : Int), .int .u8 (v.r2.c.toNat : Int)] 41)).heap.size := by omega
                generalize hbx : y3.W.heap.size = bx at *
                generalize (y3.W.alloc (.cells #[.int .u8 (v.r0.a.toNat : Int), .int .u8 (v.r0.b.toNat : Int), .int .u8 (v.r0.c.toNat : Int), .int .u8 (v.r1.a.toNat : Int), .int .u8 (v.r1.b.toNat : Int), .int .u8 (v.r1.c.toNat : Int), .int .u8 (v.r2.a.toNat : Int), .int .u8 (v.r2.b.toNat : Int), .int .u8 (v.r2.c.toNat : Int)] 41)) = V3 at *
                clear hbx hy3 hIv
                refine start_ (n := 23) (S := fun w' => w'.cell? ⟨w.heap.size, 2, none⟩ = some (.slice (some ⟨b, o, none⟩) ms.length c) ∧ w'.cell? ⟨b, o + t * 9, none⟩ = some (.int .u8 (m.r0.a.toNat : Int)) ∧ w'.cell? ⟨b, o + t * 9 + 1, none⟩ = some (.int .u8 (m.r0.b.toNat : Int)) ∧ w'.cell? ⟨b, o + t * 9 + 2, none⟩ = some (.int .u8 (m.r0.c.toNat : Int)) ∧ w'.cell? ⟨b, o + t * 9 + 3, none⟩ = some (.int .u8 (m.r1.a.toNat : Int)) ∧ w'.cell? ⟨b, o + t * 9 + 4, none⟩ = some (.int .u8 (m.r1.b.toNat : Int)) ∧ w'.cell? ⟨b, o + t * 9 + 5, none⟩ = some (.int .u8 (m.r1.c.toNat : Int)) ∧ w'.cell? ⟨b, o + t * 9 + 6, none⟩ = some (.int .u8 (m.r2.a.toNat : Int)) ∧ w'.cell? ⟨b, o + t * 9 + 7, none⟩ = some (.int .u8 (m.r2.b.toNat : Int)) ∧ w'.cell? ⟨b, o + t * 9 + 8, none⟩ = some (.int .u8 (m.r2.c.toNat : Int)) ∧ w'.cell? ⟨b, o + i * 9, none⟩ = some (.int .u8 (a.r0.a.toNat : Int)) ∧ w'.cell? ⟨b, o + i * 9 + 1, none⟩ = some (.int .u8 (a.r0.b.toNat : Int)) ∧ w'.cell? ⟨b, o + i * 9 + 2, none⟩ = some (.int .u8 (a.r0.c.toNat : Int)) ∧ w'.cell? ⟨b, o + i * 9 + 3, none⟩ = some (.int .u8 (a.r1.a.toNat : Int)) ∧ w'.cell? ⟨b, o + i * 9 + 4, none⟩ = some (.int .u8 (a.r1.b.toNat : Int)) ∧ w'.cell? ⟨b, o + i * 9 + 5, none⟩ = some (.int .u8 (a.r1.c.toNat : Int)) ∧ w'.cell? ⟨b, o + i * 9 + 6, none⟩ = some (.int .u8 (a.r2.a.toNat : Int)) ∧ w'.cell? ⟨b, o + i * 9 + 7, none⟩ = some (.int .u8 (a.r2.b.toNat : Int)) ∧ w'.cell? ⟨b, o + i * 9 + 8, none⟩ = some (.int .u8 (a.r2.c.toNat : Int)) ∧ w'.cell? ⟨bx, 0, none⟩ = some (.int .u8 (v.r0.a.toNat : Int)) ∧ w'.cell? ⟨bx, 1, none⟩ = some (.int .u8 (v.r0.b.toNat : Int)) ∧ w'.cell? ⟨bx, 2, none⟩ = some (.int .u8 (v.r0.c.toNat : Int)) ∧ w'.cell? ⟨bx, 3, none⟩ = some (.int .u8 (v.r1.a.toNat : Int)) ∧ w'.cell? ⟨bx, 4, none⟩ = some (.int .u8 (v.r1.b.toNat : Int)) ∧ w'.cell? ⟨bx, 5, none⟩ = some (.int .u8 (v.r1.c.toNat : Int)) ∧ w'.cell? ⟨bx, 6, none⟩ = some (.int .u8 (v.r2.a.toNat : Int)) ∧ w'.cell? ⟨bx, 7, none⟩ = some (.int .u8 (v.r2.b.toNat : Int)) ∧ w'.cell? ⟨bx, 8, none⟩ = some (.int .u8 (v.r2.c.toNat : Int))) (ds := [22]) #[false, false, false, false, false, false, false, false, false, false, false, false, false, false, false, false, false, false, false, false, false, false, false] (by kernel_rfl) rfl rfl ⟨g2, s0, s1, s2, s3, s4, s5, s6, s7, s8, r0, r1, r2, r3, r4, r5, r6, r7, r8, t0, t1, t2, t3, t4, t5, t6, t7, t8⟩ (fun hHeld => ?_)
                refine pure_ (i := 0) (N := some 57) (v := ?_) (a' := ?_) #[true, false, false, false, false, false, false, false, false, false, false, false, false, false, false, false, false, false, false, false, false, false, false] rfl rfl (by kernel_rfl) (fun _ _ _ h => h) (Or.inl ⟨by rfl, ?_⟩) ?_ ?_
                rotate_left
                · intro w'
                  go_simp
                  with_reducible rfl
                rotate_left
                · simp only [Act.put, List.setIfInBounds_toArray, List.set_cons_zero, List.set_cons_succ, i64_w, i32_w]
                  rfl
                refine pure_ (i := 1) (N := some 58) (v := ?_) (a' := ?_) #[true, true, false, false, false, false, false, false, false, false, false, false, false, false, false, false, false, false, false, false, false, false, false] rfl rfl (by kernel_rfl) (fun _ _ _ h => h) (Or.inl ⟨by rfl, ?_⟩) ?_ ?_
                rotate_left
                · intro w'
                  go_simp
                  with_reducible rfl
                rotate_left
                · simp only [Act.put, List.setIfInBounds_toArray, List.set_cons_zero, List.set_cons_succ, i64_w, i32_w]
                  rfl
                refine pure_ (i := 3) (N := some 60) (v := ?_) (a' := ?_) #[true, true, false, true, false, false, false, false, false, false, false, false, false, false, false, false, false, false, false, false, false, false, false] rfl rfl (by kernel_rfl) (fun _ _ _ h => h) (Or.inl ⟨by rfl, ?_⟩) ?_ ?_
                rotate_left
                · intro w'
                  go_simp
                  with_reducible rfl
                rotate_left
                · simp only [Act.put, List.setIfInBounds_toArray, List.set_cons_zero, List.set_cons_succ, i64_w, i32_w]
                  rfl
                refine pure_ (i := 4) (N := some 61) (v := ?_) (a' := ?_) #[true, true, false, true, true, false, false, false, false, false, false, false, false, false, false, false, false, false, false, false, false, false, false] rfl rfl (by kernel_rfl) (fun _ _ _ h => h) (Or.inl ⟨by rfl, ?_⟩) ?_ ?_
                rotate_left
                · intro w'
                  go_simp
                  with_reducible rfl
                rotate_left
                · simp only [Act.put, List.setIfInBounds_toArray, List.set_cons_zero, List.set_cons_succ, i64_w, i32_w]
                  rfl
                refine pure_ (i := 5) (N := some 62) (v := ?_) (a' := ?_) #[true, true, false, true, true, true, false, false, false, false, false, false, false, false, false, false, false, false, false, false, false, false, false] rfl rfl (by kernel_rfl) (fun _ _ _ h => h) (Or.inl ⟨by rfl, ?_⟩) ?_ ?_
                rotate_left
                · intro w'
                  go_simp
                  with_reducible rfl
                rotate_left
                · simp only [Act.put, List.setIfInBounds_toArray, List.set_cons_zero, List.set_cons_succ, i64_w, i32_w]
                  rfl
                refine pure_ (i := 6) (N := some 63) (v := ?_) (a' := ?_) #[true, true, false, true, true, true, true, false, false, false, false, false, false, false, false, false, false, false, false, false, false, false, false] rfl rfl (by kernel_rfl) (fun _ _ _ h => h) (Or.inl ⟨by rfl, ?_⟩) ?_ ?_
                rotate_left
                · intro w'
                  go_simp
                  with_reducible rfl
                rotate_left
                · simp only [Act.put, List.setIfInBounds_toArray, List.set_cons_zero, List.set_cons_succ, i64_w, i32_w]
                  rfl
                refine pure_ (i := 7) (N := some 64) (v := ?_) (a' := ?_) #[true, true, false, true, true, true, true, true, false, false, false, false, false, false, false, false, false, false, false, false, false, false, false] rfl rfl (by kernel_rfl) (fun _ _ _ h => h) (Or.inl ⟨by rfl, ?_⟩) ?_ ?_
                rotate_left
                · intro w'
                  go_simp
                  with_reducible rfl
                rotate_left
                · simp only [Act.put, List.setIfInBounds_toArray, List.set_cons_zero, List.set_cons_succ, i64_w, i32_w]
                  rfl
                refine pure_ (i := 9) (N := some 66) (v := ?_) (a' := ?_) #[true, true, false, true, true, true, true, true, false, true, false, false, false, false, false, false, false, false, false, false, false, false, false] rfl rfl (by kernel_rfl) (fun _ _ _ h => h) (Or.inl ⟨by rfl, ?_⟩) ?_ ?_
                rotate_left
                · intro w'
                  go_simp
                  with_reducible rfl
                rotate_left
                · simp only [Act.put, List.setIfInBounds_toArray, List.set_cons_zero, List.set_cons_succ, i64_w, i32_w]
                  rfl
                refine pure_ (i := 12) (N := some 69) (v := ?_) (a' := ?_) #[true, true, false, true, true, true, true, true, false, true, false, false, true, false, false, false, false, false, false, false, false, false, false] rfl rfl (by kernel_rfl) (fun _ _ _ h => h) (Or.inl ⟨by rfl, ?_⟩) ?_ ?_
                rotate_left
                · intro w'
                  go_simp
                  with_reducible rfl
                rotate_left
                · simp only [Act.put, List.setIfInBounds_toArray, List.set_cons_zero, List.set_cons_succ, i64_w, i32_w]
                  rfl
                refine pure_ (i := 14) (N := some 71) (v := ?_) (a' := ?_) #[true, true, false, true, true, true, true, true, false, true, false, false, true, false, true, false, false, false, false, false, false, false, false] rfl rfl (by kernel_rfl) (fun _ _ _ h => h) (Or.inl ⟨by rfl, ?_⟩) ?_ ?_
                rotate_left
                · intro w'
                  go_simp
                  with_reducible rfl
                rotate_left
                · simp only [Act.put, List.setIfInBounds_toArray, List.set_cons_zero, List.set_cons_succ, i64_w, i32_w]
                  rfl
                refine take_ (i := 2) (N := some 59) (v := ?_) (a' := ?_) #[true, true, true, true, true, true, true, true, false, true, false, false, true, false, true, false, false, false, false, false, false, false, false] rfl rfl (by kernel_rfl) (fun _ _ _ h => h) (Or.inl ⟨by rfl, ?_⟩) hHeld ?_ ?_
                rotate_left
                · rintro w' ⟨s0, s1, s2, s3, s4, s5, s6, s7, s8, s9, s10, s11, s12, s13, s14, s15, s16, s17, s18, s19, s20, s21, s22, s23, s24, s25, s26, s27⟩
                  go_simp
                  with_reducible rfl
                rotate_left
                · simp only [Act.put, List.setIfInBounds_toArray, List.set_cons_zero, List.set_cons_succ, i64_w, i32_w]
                  rfl
                refine take_ (i := 8) (N := some 65) (v := ?_) (a' := ?_) #[true, true, true, true, true, true, true, true, true, true, false, false, true, false, true, false, false, false, false, false, false, false, false] rfl rfl (by kernel_rfl) (fun _ _ _ h => h) (Or.inl ⟨by rfl, ?_⟩) hHeld ?_ ?_
                rotate_left
                · rintro w' ⟨s0, s1, s2, s3, s4, s5, s6, s7, s8, s9, s10, s11, s12, s13, s14, s15, s16, s17, s18, s19, s20, s21, s22, s23, s24, s25, s26, s27⟩
                  go_simp
                  with_reducible rfl
                rotate_left
                · simp only [Act.put, List.setIfInBounds_toArray, List.set_cons_zero, List.set_cons_succ, i64_w, i32_w]
                  rfl
                refine pure_ (i := 10) (N := some 67) (v := ?_) (a' := ?_) #[true, true, true, true, true, true, true, true, true, true, true, false, true, false, true, false, false, false, false, false, false, false, false] rfl rfl (by kernel_rfl) (fun _ _ _ h => h) (Or.inl ⟨by rfl, ?_⟩) ?_ ?_
                rotate_left
                · intro w'
                  go_simp
                  with_reducible rfl
                rotate_left
                · simp only [Act.put, List.setIfInBounds_toArray, List.set_cons_zero, List.set_cons_succ, i64_w, i32_w]
                  rfl
                refine take_ (i := 11) (N := some 68) (v := ?_) (a' := ?_) #[true, true, true, true, true, true, true, true, true, true, true, true, true, false, true, false, false, false, false, false, false, false, false] rfl rfl (by kernel_rfl) (fun _ _ _ h => h) (Or.inl ⟨by rfl, ?_⟩) hHeld ?_ ?_
                rotate_left
                · rintro w' ⟨s0, s1, s2, s3, s4, s5, s6, s7, s8, s9, s10, s11, s12, s13, s14, s15, s16, s17, s18, s19, s20, s21, s22, s23, s24, s25, s26, s27⟩
                  go_simp
                  with_reducible rfl
                rotate_left
                · simp only [Act.put, List.setIfInBounds_toArray, List.set_cons_zero, List.set_cons_succ, i64_w, i32_w]
                  rfl
                refine take_ (i := 13) (N := some 70) (v := ?_) (a' := ?_) #[true, true, true, true, true, true, true, true, true, true, true, true, true, true, true, false, false, false, false, false, false, false, false] rfl rfl (by kernel_rfl) (fun _ _ _ h => h) (Or.inl ⟨by rfl, ?_⟩) hHeld ?_ ?_
                rotate_left
                · rintro w' ⟨s0, s1, s2, s3, s4, s5, s6, s7, s8, s9, s10, s11, s12, s13, s14, s15, s16, s17, s18, s19, s20, s21, s22, s23, s24, s25, s26, s27⟩
                  go_simp
                  with_reducible rfl
                rotate_left
                · simp only [Act.put, List.setIfInBounds_toArray, List.set_cons_zero, List.set_cons_succ, i64_w, i32_w]
                  rfl
                refine pure_ (i := 15) (N := some 72) (v := ?_) (a' := ?_) #[true, true, true, true, true, true, true, true, true, true, true, true, true, true, true, true, false, false, false, false, false, false, false] rfl rfl (by kernel_rfl) (fun _ _ _ h => h) (Or.inl ⟨by rfl, ?_⟩) ?_ ?_
                rotate_left
                · intro w'
                  go_simp
                  with_reducible rfl
                rotate_left
                · simp only [Act.put, List.setIfInBounds_toArray, List.set_cons_zero, List.set_cons_succ, i64_w, i32_w]
                  rfl
                refine take_ (i := 16) (N := some 73) (v := ?_) (a' := ?_) #[true, true, true, true, true, true, true, true, true, true, true, true, true, true, true, true, true, false, false, false, false, false, false] rfl rfl (by kernel_rfl) (fun _ _ _ h => h) (Or.inl ⟨by rfl, ?_⟩) hHeld ?_ ?_
                rotate_left
                · rintro w' ⟨s0, s1, s2, s3, s4, s5, s6, s7, s8, s9, s10, s11, s12, s13, s14, s15, s16, s17, s18, s19, s20, s21, s22, s23, s24, s25, s26, s27⟩
                  go_simp
                  with_reducible rfl
                rotate_left
                · simp only [Act.put, List.setIfInBounds_toArray, List.set_cons_zero, List.set_cons_succ, i64_w, i32_w]
                  rfl
                refine take_ (i := 18) (N := some 75) (v := ?_) (a' := ?_) #[true, true, true, true, true, true, true, true, true, true, true, true, true, true, true, true, true, false, true, false, false, false, false] rfl rfl (by kernel_rfl) (fun _ _ _ h => h) (Or.inl ⟨by rfl, ?_⟩) hHeld ?_ ?_
                rotate_left
                · rintro w' ⟨s0, s1, s2, s3, s4, s5, s6, s7, s8, s9, s10, s11, s12, s13, s14, s15, s16, s17, s18, s19, s20, s21, s22, s23, s24, s25, s26, s27⟩
                  go_simp
                  with_reducible rfl
                rotate_left
                · simp only [Act.put, List.setIfInBounds_toArray, List.set_cons_zero, List.set_cons_succ, i64_w, i32_w]
                  rfl
                refine one_ (i := 17) (N := some 74) #[true, true, true, true, true, true, true, true, true, true, true, true, true, true, true, true, true, true, true, false, false, false, false] rfl rfl (by kernel_rfl) (by decide) (fun K hK => ?_)
                refine goes_ Try.func64 (by kernel_rfl) rfl #[.int .i64 p, .int .i64 n, .agg #[.int .u8 (m.r0.a.toNat : Int), .int .u8 (m.r0.b.toNat : Int), .int .u8 (m.r0.c.toNat : Int), .int .u8 (m.r1.a.toNat : Int), .int .u8 (m.r1.b.toNat : Int), .int .u8 (m.r1.c.toNat : Int), .int .u8 (m.r2.a.toNat : Int), .int .u8 (m.r2.b.toNat : Int), .int .u8 (m.r2.c.toNat : Int)], .agg #[.int .u8 (a.r0.a.toNat : Int), .int .u8 (a.r0.b.toNat : Int), .int .u8 (a.r0.c.toNat : Int), .int .u8 (a.r1.a.toNat : Int), .int .u8 (a.r1.b.toNat : Int), .int .u8 (a.r1.c.toNat : Int), .int .u8 (a.r2.a.toNat : Int), .int .u8 (a.r2.b.toNat : Int), .int .u8 (a.r2.c.toNat : Int)]] (by rfl) rfl rfl (by simp only [List.map_toArray, List.map_cons, List.map_nil]; rfl) ?_
                with_reducible refine (hT1 _).mono ?_
                rintro e1 x1 ⟨rfl, hb1'⟩
                refine ⟨_, rfl, ?_⟩
                have hq1 := below_undrewC hb1'
                have hz1 := hq1.size
                have xg2 := pw_cell_below hq1 g2
                have xs0 := pw_cell_below hq1 s0
                have xs1 := pw_cell_below hq1 s1
                have xs2 := pw_cell_below hq1 s2
                have xs3 := pw_cell_below hq1 s3
                have xs4 := pw_cell_below hq1 s4
                have xs5 := pw_cell_below hq1 s5
                have xs6 := pw_cell_below hq1 s6
                have xs7 := pw_cell_below hq1 s7
                have xs8 := pw_cell_below hq1 s8
                have xr0 := pw_cell_below hq1 r0
                have xr1 := pw_cell_below hq1 r1
                have xr2 := pw_cell_below hq1 r2
                have xr3 := pw_cell_below hq1 r3
                have xr4 := pw_cell_below hq1 r4
                have xr5 := pw_cell_below hq1 r5
                have xr6 := pw_cell_below hq1 r6
                have xr7 := pw_cell_below hq1 r7
                have xr8 := pw_cell_below hq1 r8
                have xt0 := pw_cell_below hq1 t0
                have xt1 := pw_cell_below hq1 t1
                have xt2 := pw_cell_below hq1 t2
                have xt3 := pw_cell_below hq1 t3
                have xt4 := pw_cell_below hq1 t4
                have xt5 := pw_cell_below hq1 t5
                have xt6 := pw_cell_below hq1 t6
                have xt7 := pw_cell_below hq1 t7
                have xt8 := pw_cell_below hq1 t8
                refine hK.out _ _ ⟨xg2, xs0, xs1, xs2, xs3, xs4, xs5, xs6, xs7, xs8, xr0, xr1, xr2, xr3, xr4, xr5, xr6, xr7, xr8, xt0, xt1, xt2, xt3, xt4, xt5, xt6, xt7, xt8⟩ (fun hHeld => ?_)
                clear hK K
                refine norm_ (a' := ?_) ?_ ?_
                rotate_left
                · show Act.put _ (some 74) _ = _
                  simp only [Act.put, List.setIfInBounds_toArray, List.set_cons_zero, List.set_cons_succ, i64_w, i32_w]
                  rfl
                refine one_ (i := 19) (N := some 76) #[true, true, true, true, true, true, true, true, true, true, true, true, true, true, true, true, true, true, true, true, false, false, false] rfl rfl (by kernel_rfl) (by decide) (fun K hK => ?_)
                refine goes_ Try.func64 (by kernel_rfl) rfl #[.int .i64 p, .int .i64 n, .agg #[.int .u8 (z1.r0.a.toNat : Int), .int .u8 (z1.r0.b.toNat : Int), .int .u8 (z1.r0.c.toNat : Int), .int .u8 (z1.r1.a.toNat : Int), .int .u8 (z1.r1.b.toNat : Int), .int .u8 (z1.r1.c.toNat : Int), .int .u8 (z1.r2.a.toNat : Int), .int .u8 (z1.r2.b.toNat : Int), .int .u8 (z1.r2.c.toNat : Int)], .agg #[.int .u8 (v.r0.a.toNat : Int), .int .u8 (v.r0.b.toNat : Int), .int .u8 (v.r0.c.toNat : Int), .int .u8 (v.r1.a.toNat : Int), .int .u8 (v.r1.b.toNat : Int), .int .u8 (v.r1.c.toNat : Int), .int .u8 (v.r2.a.toNat : Int), .int .u8 (v.r2.b.toNat : Int), .int .u8 (v.r2.c.toNat : Int)]] (by rfl) rfl rfl (by simp only [List.map_toArray, List.map_cons, List.map_nil]; rfl) ?_
                with_reducible refine (hT2 _).mono ?_
                rintro e2 x2 ⟨rfl, hb2'⟩
                refine ⟨_, rfl, ?_⟩
                have hq2 := hq1.trans (hb2'.mono hz1)
                have hz2 := hq2.size
                have yg2 := pw_cell_below hb2' xg2
                have ys0 := pw_cell_below hb2' xs0
                have ys1 := pw_cell_below hb2' xs1
                have ys2 := pw_cell_below hb2' xs2
                have ys3 := pw_cell_below hb2' xs3
                have ys4 := pw_cell_below hb2' xs4
                have ys5 := pw_cell_below hb2' xs5
                have ys6 := pw_cell_below hb2' xs6
                have ys7 := pw_cell_below hb2' xs7
                have ys8 := pw_cell_below hb2' xs8
                have yr0 := pw_cell_below hb2' xr0
                have yr1 := pw_cell_below hb2' xr1
                have yr2 := pw_cell_below hb2' xr2
                have yr3 := pw_cell_below hb2' xr3
                have yr4 := pw_cell_below hb2' xr4
                have yr5 := pw_cell_below hb2' xr5
                have yr6 := pw_cell_below hb2' xr6
                have yr7 := pw_cell_below hb2' xr7
                have yr8 := pw_cell_below hb2' xr8
                have yt0 := pw_cell_below hb2' xt0
                have yt1 := pw_cell_below hb2' xt1
                have yt2 := pw_cell_below hb2' xt2
                have yt3 := pw_cell_below hb2' xt3
                have yt4 := pw_cell_below hb2' xt4
                have yt5 := pw_cell_below hb2' xt5
                have yt6 := pw_cell_below hb2' xt6
                have yt7 := pw_cell_below hb2' xt7
                have yt8 := pw_cell_below hb2' xt8
                refine hK.out _ _ ⟨yg2, ys0, ys1, ys2, ys3, ys4, ys5, ys6, ys7, ys8, yr0, yr1, yr2, yr3, yr4, yr5, yr6, yr7, yr8, yt0, yt1, yt2, yt3, yt4, yt5, yt6, yt7, yt8⟩ (fun hHeld => ?_)
                clear hK K
                refine norm_ (a' := ?_) ?_ ?_
                rotate_left
                · show Act.put _ (some 76) _ = _
                  simp only [Act.put, List.setIfInBounds_toArray, List.set_cons_zero, List.set_cons_succ, i64_w, i32_w]
                  rfl
                refine one_ (i := 20) (N := some 77) #[true, true, true, true, true, true, true, true, true, true, true, true, true, true, true, true, true, true, true, true, true, false, false] rfl rfl (by kernel_rfl) (by decide) (fun K hK => ?_)
                refine goes_ Try.func112 (by kernel_rfl) rfl #[.slice (some ⟨b, o, none⟩) ms.length c, .agg #[.int .u8 (z2.r0.a.toNat : Int), .int .u8 (z2.r0.b.toNat : Int), .int .u8 (z2.r0.c.toNat : Int), .int .u8 (z2.r1.a.toNat : Int), .int .u8 (z2.r1.b.toNat : Int), .int .u8 (z2.r1.c.toNat : Int), .int .u8 (z2.r2.a.toNat : Int), .int .u8 (z2.r2.b.toNat : Int), .int .u8 (z2.r2.c.toNat : Int)]] (by rfl) rfl rfl (by simp only [List.map_toArray, List.map_cons, List.map_nil]; rfl) ?_
                with_reducible refine (hF _ (Kd.C_below hCw hq2)).mono ?_
                rintro e3 x3 ⟨rfl, hb3'⟩
                refine ⟨_, rfl, ?_⟩
                have hq3 := hq2.trans (hb3'.mono hz2)
                have st := pw_cell_below hq3 o0
                have sf := (hq3.frozen zo).trans o1
                have zg2 := pw_cell_below hb3' yg2
                have zs0 := pw_cell_below hb3' ys0
                have zs1 := pw_cell_below hb3' ys1
                have zs2 := pw_cell_below hb3' ys2
                have zs3 := pw_cell_below hb3' ys3
                have zs4 := pw_cell_below hb3' ys4
                have zs5 := pw_cell_below hb3' ys5
                have zs6 := pw_cell_below hb3' ys6
                have zs7 := pw_cell_below hb3' ys7
                have zs8 := pw_cell_below hb3' ys8
                have zr0 := pw_cell_below hb3' yr0
                have zr1 := pw_cell_below hb3' yr1
                have zr2 := pw_cell_below hb3' yr2
                have zr3 := pw_cell_below hb3' yr3
                have zr4 := pw_cell_below hb3' yr4
                have zr5 := pw_cell_below hb3' yr5
                have zr6 := pw_cell_below hb3' yr6
                have zr7 := pw_cell_below hb3' yr7
                have zr8 := pw_cell_below hb3' yr8
                have zt0 := pw_cell_below hb3' yt0
                have zt1 := pw_cell_below hb3' yt1
                have zt2 := pw_cell_below hb3' yt2
                have zt3 := pw_cell_below hb3' yt3
                have zt4 := pw_cell_below hb3' yt4
                have zt5 := pw_cell_below hb3' yt5
                have zt6 := pw_cell_below hb3' yt6
                have zt7 := pw_cell_below hb3' yt7
                have zt8 := pw_cell_below hb3' yt8
                refine hK.out _ _ ⟨zg2, zs0, zs1, zs2, zs3, zs4, zs5, zs6, zs7, zs8, zr0, zr1, zr2, zr3, zr4, zr5, zr6, zr7, zr8, zt0, zt1, zt2, zt3, zt4, zt5, zt6, zt7, zt8⟩ (fun hHeld => ?_)
                clear hK K
                refine norm_ (a' := ?_) ?_ ?_
                rotate_left
                · show Act.put _ (some 77) _ = _
                  simp only [Act.put, List.setIfInBounds_toArray, List.set_cons_zero, List.set_cons_succ, i64_w, i32_w]
                  rfl
                refine pure_ (i := 21) (N := some 78) (v := ?_) (a' := ?_) #[true, true, true, true, true, true, true, true, true, true, true, true, true, true, true, true, true, true, true, true, true, true, false] rfl rfl (by kernel_rfl) (fun _ _ _ h => h) (Or.inl ⟨by rfl, ?_⟩) ?_ ?_
                rotate_left
                · intro w'
                  go_simp
                  with_reducible rfl
                rotate_left
                · simp only [Act.put, List.setIfInBounds_toArray, List.set_cons_zero, List.set_cons_succ, i64_w, i32_w]
                  rfl
                refine last_ (i := 22) (N := none) #[true, true, true, true, true, true, true, true, true, true, true, true, true, true, true, true, true, true, true, true, true, true, true] rfl rfl (by kernel_rfl) (by decide) (fun K hK => ?_)
                refine skip_ (w1 := ?_) (by rfl) rfl ?_ ?_
                rotate_left
                · go_simp
                  rfl
                refine hK.out _ _ ?_
                clear hK K
                refine done_ (by kernel_rfl) ?_
                go_wp2
                go_roundg (gk - 1)
                case measure => have := HTK.out; omega
                case rel =>
                  obtain ⟨k0, k1, k2⟩ := HO.out
                  refine ⟨t + 1, by have := HTK.out; omega, by go_num, ?_, grown_set (gb_below (gb_below k2 hb3) hq3) f (.bool true)⟩
                  rw [k0]
                  exact kB_set (Kd.R_below (Kd.R_below k1 hb3) hq3) f true
              · have hte : t = ms.length := by have := HTK.out; omega
                subst hte
                obtain ⟨j1, j2, j3, j4⟩ := HRR.out
                have hbr : Below VR.heap.size VR wr := gb_Below hbo hbo.size hgw (fun k hk => by injection hk with hk; omega)
                have hSr : kB.R 4 wr W2.heap.size (fun k => k = gs) (.slice (some ⟨gs, 0, none⟩) ms.length ms.length) met := Kd.R_below j1 hbr
                have hKr : kI.R 2 wr VR.heap.size (fun _ => True) (.slice (some ⟨b9, 0, none⟩) 0 0) [] := Kd.R_mono (Kd.R_grown (Kd.R_types HK0.out.1 HOC.out (by decide)) hgw fun k hk e => hk.2 (by injection e)) fun _ _ => trivial
                have hm0 : metK met (ownK p n ms i ms.length) ms.length 0 = met := metK_zero HML.out
                have hlz : lstK (ownK p n ms i ms.length) ms.length = clsZ p n ms i := lstK_end p n ms i
                have hme : metK met (ownK p n ms i ms.length) ms.length ms.length = seenL p n ms met i ms.length := metK_end p n ms met i
                have hlz0 : lstK (ownK p n ms i ms.length) 0 = [] := rfl
                generalize ownK p n ms i ms.length = own at *
                rw [← hm0] at hSr
                rw [← hlz0] at hKr
                have HLZ := Lib.hid (And.intro hlz hme)
                have hgf : VR.grownBy wr (some gs) := gb_below (grown_refl _ _) hbr
                have HBR := Lib.hid hbr
                have hzl0 : (lstK own 0).length = 0 := by rw [hlz0]; rfl
                have hKr : kI.R 2 wr VR.heap.size (fun _ => True) (.slice (some ⟨b9, 0, none⟩) (lstK own 0).length 0) (lstK own 0) := by rw [hzl0]; exact hKr
                have hgsr : gs < VR.heap.size := by omega
                have HL0 := Lib.hid hzl0
                clear hlz hme hlz0 hm0 hzl0 j1 j2 j3 j4 hbr hgw
                go_wp2_with fail
                go_loopg [13, 9] ms.length (fun k v13 v9 w' => ∃ (t : Nat) (B9 : Option Addr) (c9 : Nat), t + k = ms.length ∧ v13 = .int .i64 t ∧ v9 = .slice B9 (lstK own t).length c9 ∧ kI.R 2 w' VR.heap.size (fun _ => True) (.slice B9 (lstK own t).length c9) (lstK own t) ∧ kB.R 4 w' W2.heap.size (fun k => k = gs) (.slice (some ⟨gs, 0, none⟩) ms.length ms.length) (metK met own ms.length t) ∧ kB.R 4 w' VR.heap.size (fun k => k = os) (.slice (some ⟨os, 0, none⟩) ms.length ms.length) own ∧ VR.grownBy w' (some gs))
                case atStart => exact ⟨0, _, 0, by omega, rfl, by rw [HL0.out], hKr, hSr, hO, hgf⟩
                case round =>
                  clear hKr hSr hO hgf
                  obtain ⟨t, B9, c9, htk, rfl, rfl, hK, hS, hO, hgw⟩ := hrel
                  have HTK := Lib.hid htk
                  clear htk
                  have hs3 := hgw.size
                  have hll := lstK_len own t
                  by_cases ht : t < ms.length
                  · obtain ⟨o0, o1⟩ := kB_cell hO t ht
                    obtain ⟨s0, s1⟩ := kB_cell hS t ht
                    have zo := World.block_lt_of_cell? _ _ o0
                    have zs := World.block_lt_of_cell? _ _ s0
                    simp only [] at zo zs
                    have ht0 : (0 : Int) ≤ t := by omega
                    have ht1 : (t : Int) < ms.length := by omega
                    have htn : ((t : Int)).toNat = t := by omega
                    have hgo : gs ≠ os := by omega
                    obtain ⟨oc, hoc⟩ := Kd.R_typed hO os rfl
                    cases hw : own.getD t false with
                    | false =>
                      rw [hw] at o0
                      have HE := Lib.hid (And.intro (lstK_same hw) (metK_same (met := met) (m := ms.length) hw))
                      have HQ := Lib.hid (And.intro hK (And.intro hS (And.intro hO hgw)))
                      clear hw hK hS hO hgw hoc
                      go_wp2
                      go_roundg (gk - 1)
                      case measure => have := HTK.out; omega
                      case rel =>
                        obtain ⟨k1, k2, k3, k4⟩ := HQ.out
                        exact ⟨t + 1, B9, c9, by have := HTK.out; omega, by go_num, by rw [HE.out.1], by rw [HE.out.1]; exact k1, by rw [HE.out.2]; exact k2, k3, k4⟩
                    | true =>
                      rw [hw] at o0
                      have HE := Lib.hid (And.intro (lstK_add hw) (metK_set (met := met) (m := ms.length) hw))
                      have hne := Lib.hid (Kd.R_ne hK hoc (by decide))
                      have hvb := Lib.hid (Kd.R_base hK)
                      have hKa : kI.R 2 (wr.setCell ⟨gs, t, none⟩ (.bool true)) VR.heap.size (fun k => VR.heap.size ≤ k) (.slice B9 (lstK own t).length c9) (lstK own t) := Kd.R_far (Kd.R_mono (Kd.R_bound hK) (fun k hk => hk.2.1)) (p := ⟨gs, t, none⟩) (fun k hk => by show k ≠ gs; omega) (.bool true)
                      have HQ := Lib.hid (And.intro (kB_set hS t true) (And.intro (Kd.R_far hO (p := ⟨gs, t, none⟩) (fun k hk => by show k ≠ gs; omega) (.bool true)) (grown_set hgw t (.bool true))))
                      have hsz : (wr.setCell ⟨gs, t, none⟩ (.bool true)).heap.size = wr.heap.size := by simp
                      generalize lstK own t = ls at *
                      clear hw hK hS hO hgw hoc
                      go_wp2_with (first
                        | ((with_reducible refine gate_ (.call { callee := .builtin .append, args := #[.tmp 92, .tmp 94], argTypes := #[55, 55] }) rfl ?_); refine Kd.R_append kI (w0 := wr.setCell ⟨gs, t, none⟩ (.bool true)) (W := wr.setCell ⟨gs, t, none⟩ (.bool true)) VR.heap.size rfl (.tmp 92) (.tmp 94) 55 2 (.int .i64 0) 8 rfl Try.underlying55 infoI rfl (by decide) (by decide) (Value.slice B9 ls.length c9) ls (t : Int) [.int .i64 t] (fun k => VR.heap.size ≤ k) (fun _ => False) rfl (by rw [hsz]; rfl) rfl (fun _ hk => hk.elim) (fun k hk => by simp at hk; omega) hKa (Below.refl _ _) (by simp; omega) (by omega) ?_; intro v1 w1 hR1 hB1 hg1 hat1))
                      go_roundg (gk - 1)
                      case measure => have := HTK.out; omega
                      case rel =>
                        obtain ⟨k2, k3, k4⟩ := HQ.out
                        obtain ⟨P1, c1, hv1⟩ := Kd.R_slice hR1
                        subst hv1
                        refine ⟨t + 1, P1, c1, by have := HTK.out; omega, by go_num, by rw [HE.out.1], ?_, ?_, ?_, gb_app k4 hg1 fun k hk => hvb.out k hk⟩
                        · rw [HE.out.1]; exact Kd.R_mono hR1 fun _ _ => trivial
                        · rw [HE.out.2]
                          refine Kd.R_grown k2 hg1 fun k hk e => ?_
                          have := hvb.out k e.symm
                          omega
                        · exact Kd.R_grown k3 hg1 fun k hk => by subst hk; exact hne.out
                  · have hte : t = ms.length := by have := HTK.out; omega
                    subst hte
                    rw [HLZ.out.1] at hK hll
                    rw [HLZ.out.2] at hS
                    obtain ⟨j1, j2, j3, j4⟩ := HRR.out
                    have hRo : kL.R 55 wr W2.heap.size (fun _ => True) (.slice P out.length cP) out := Kd.R_mono (Kd.R_grown (Kd.R_types j2 j4 (by decide)) hgw (fun k hk e => hk.2 (by injection e))) fun _ _ => trivial
                    have hne := Kd.R_ne j2 j4 (by decide)
                    have hBX : Below W2.heap.size W2 wr := gb_Below j3 j3.size hgw (fun k hk => by injection hk with hk; omega)
                    have HSS := Lib.hid hS
                    have HNE := Lib.hid hne
                    have HBX := Lib.hid hBX
                    have hsb3 := hBX.size
                    have hlq : (lstK own ms.length).length = (clsZ p n ms i).length := by rw [HLZ.out.1]
                    rw [hlq]
                    clear hS hne hBX hgw hO j1 j2 j3 j4 hlq
                    generalize hzz : clsZ p n ms i = zs at *
                    go_wp2_with (first
                      | ((with_reducible refine gate_ (.call { callee := .builtin .append, args := #[.tmp 96, .tmp 98], argTypes := #[22, 22] }) rfl ?_); have hM := Kd.M_row (num_apart hRo (Kd.R_lower (base' := W2.heap.size) hK hsb)); have hMk := (fun (k : Nat) (hk : some k ≠ (Value.slice P out.length cP).ownBlock) => (⟨trivial, hk⟩ : True ∧ some k ≠ (Value.slice P out.length cP).ownBlock)); refine Kd.R_append kL (w0 := wr) (W := wr) W2.heap.size rfl (.tmp 96) (.tmp 98) 22 55 (.slice none 0 0) 24 rfl Try.underlying22 infoL rfl (by decide) (by decide) (Value.slice P out.length cP) out zs [.slice B9 zs.length c9] (fun _ => True) (fun k => some k ≠ (Value.slice P out.length cP).ownBlock) rfl rfl hM hMk (fun _ _ => trivial) hRo (Below.refl _ _) (by first | omega | (simp; omega)) (by omega) ?_; intro v1 w1 hR1 hB1 hg1 hat1))
                    go_roundg (GK - 1)
                    case measure => have := HIK.out; have := HGK.out; omega
                    case rel =>
                      obtain ⟨P1, c1, hv1⟩ := Kd.R_slice hR1
                      subst hv1
                      refine ⟨i + 1, P1, c1, by have := HIK.out; have := HGK.out; omega, by go_num, by rw [HM.out], ?_, ?_, HBX.out.trans hB1⟩
                      · rw [HM.out]
                        refine Kd.R_grown HSS.out hg1 fun k hk => ?_
                        subst hk; exact HNE.out
                      · rw [HM.out]; exact hR1
      · have hie : i = ms.length := by have := HIK.out; omega
        subst hie
        go_wp2
        exact bodyPost_ret (v := .slice P (metL p n ms ms.length).2.length cP) (by simp [results, Try.results79, go_sem]) rfl ⟨_, rfl, Kd.R_lower hR (by omega), hbw.trans (hb.mono (by omega))⟩
end Go.Proofs.Ytimjhehagimcaaa
/- ClassesOf of the reference; no condition. -/
set_option linter.unusedVariables false
set_option linter.unusedSimpArgs false
namespace Go.Proofs.Ytimjhehagimcaaa
open Go.RowKit Go.Proofs.YtimjhehagimcaaaW.PrintWords
attribute [local go_sem] Later.cell Later.frozen Later.lt Later.lt_add Later.le Later.le_add Later.ne Later.ne' add_at
attribute [local go_sem 2000] run_eqM guardM
theorem clsR_small (p n : Int) (ms : List M9) : ((clsR p n ms).1.length ≤ 1048576 ∧ ∀ x ∈ (clsR p n ms).1, x.length ≤ 1048576) ∧ endR 1 (clsR p n ms).1 ≤ 1000000000 := rows_small (clsR_bd p n ms) (by decide) (by decide) (by decide)
set_option maxRecDepth 100000 in
set_option maxHeartbeats 4000000 in
theorem specClassesOf_c (p n : Int) (A : Option Addr) (c : Nat) (ms : List M9) (w : World) (hC : kM.C w A ms.length ms) (hN : ms.length ≤ 9223372036854775807) :
    Calls Try.prog 40 #[.agg #[.int .i64 p, .int .i64 n, .slice A ms.length c]] w (MakesLC (clsR p n ms).1 (clsR p n ms).2 55 w) := by
  have hC1 := Kd.C_alloc hC (.cells #[.int .i64 p, .int .i64 n, .slice A ms.length c] 31)
  have hI := fun W h => l02Is_c p n A c ms W h hN
  cases hg : grpB p n ms with
  | false =>
    have e : clsR p n ms = ([], 1) := by unfold clsR; rw [hg]; rfl
    rw [e]
    rw [hg] at hI
    clear hg e
    go_enter Try.func40, Try.ntmps40
    go_wp2_with ((go_at_call 78; (first | (with_reducible refine call_later2 (hI _ hC1) ?_) | (with_reducible refine call_later (hI _ hC1) ?_)); intro x))
    refine bodyPost_ret (v := .tuple #[.slice none 0 0, .int .i64 1]) (by simp [results, Try.results40, go_sem]) rfl ?_
    exact makesLCT_LC (MakesLCT_nil _ _ _ _ bq1)
  | true =>
    have e : clsR p n ms = ((metL p n ms ms.length).2, 0) := by unfold clsR; rw [hg]; rfl
    rw [e]
    rw [hg] at hI
    have gp := (grpB_iff p n ms).1 hg
    have hO := fun W h => l02Classes_c p n A c ms W h gp
    clear hg e gp
    generalize (metL p n ms ms.length).2 = rs at *
    have HO := Lib.hid hO
    clear hO
    go_enter Try.func40, Try.ntmps40
    go_wp2_with (first | (go_at_call 78; (first | (with_reducible refine call_later2 (hI _ hC1) ?_) | (with_reducible refine call_later (hI _ hC1) ?_)); intro x) | (go_at_call 79; (first | (with_reducible refine call_makes2 (HO.out _ (Kd.C_below hC1 x.ok)) ?_) | (with_reducible refine call_makes (HO.out _ (Kd.C_below hC1 x.ok)) ?_)); intro x3 A3 c3 hb3 hl3 hR3 hC3))
    have zb : w.heap.size ≤ x.W.heap.size := by have := x.ok.size; simp at this; omega
    refine bodyPost_ret (v := .tuple #[.slice A3 rs.length c3, .int .i64 0]) (by simp [results, Try.results40, go_sem]) rfl ?_
    exact ⟨_, _, rfl, Kd.R_lower hR3 zb, bq1⟩
end Go.Proofs.Ytimjhehagimcaaa
