/- The program's NamedGroup; no condition. -/
import Derived.Test.YtimjhehagimcaaaYE1
import Derived.Test.YtimjhehagimcaaaYNamW
import Derived.Test.YtimjhehagimcaaaYGrpOf
import Derived.Test.YtimjhehagimcaaaYKitK
set_option linter.unusedVariables false
set_option linter.unusedSimpArgs false
namespace Go.Proofs.Ytimjhehagimcaaa
open Go.RowKit Go.Proofs.YtimjhehagimcaaaW.PrintWords
attribute [local go_sem] Later.cell Later.frozen Later.lt Later.lt_add Later.le Later.le_add Later.ne Later.ne' add_at
attribute [local go_sem 2000] run_eqM guardM
theorem idx9_0 (x0 x1 x2 x3 x4 x5 x6 x7 x8 : Value) (w : World) : (Instr.index 74 (.agg #[x0, x1, x2, x3, x4, x5, x6, x7, x8]) (.int .i64 0)).run Try.prog w = .ok x0 w := by kernel_rfl
theorem idx9_1 (x0 x1 x2 x3 x4 x5 x6 x7 x8 : Value) (w : World) : (Instr.index 74 (.agg #[x0, x1, x2, x3, x4, x5, x6, x7, x8]) (.int .i64 1)).run Try.prog w = .ok x1 w := by kernel_rfl
theorem idx9_2 (x0 x1 x2 x3 x4 x5 x6 x7 x8 : Value) (w : World) : (Instr.index 74 (.agg #[x0, x1, x2, x3, x4, x5, x6, x7, x8]) (.int .i64 2)).run Try.prog w = .ok x2 w := by kernel_rfl
theorem idx9_3 (x0 x1 x2 x3 x4 x5 x6 x7 x8 : Value) (w : World) : (Instr.index 74 (.agg #[x0, x1, x2, x3, x4, x5, x6, x7, x8]) (.int .i64 3)).run Try.prog w = .ok x3 w := by kernel_rfl
theorem idx9_4 (x0 x1 x2 x3 x4 x5 x6 x7 x8 : Value) (w : World) : (Instr.index 74 (.agg #[x0, x1, x2, x3, x4, x5, x6, x7, x8]) (.int .i64 4)).run Try.prog w = .ok x4 w := by kernel_rfl
theorem idx9_5 (x0 x1 x2 x3 x4 x5 x6 x7 x8 : Value) (w : World) : (Instr.index 74 (.agg #[x0, x1, x2, x3, x4, x5, x6, x7, x8]) (.int .i64 5)).run Try.prog w = .ok x5 w := by kernel_rfl
theorem idx9_6 (x0 x1 x2 x3 x4 x5 x6 x7 x8 : Value) (w : World) : (Instr.index 74 (.agg #[x0, x1, x2, x3, x4, x5, x6, x7, x8]) (.int .i64 6)).run Try.prog w = .ok x6 w := by kernel_rfl
theorem idx9_7 (x0 x1 x2 x3 x4 x5 x6 x7 x8 : Value) (w : World) : (Instr.index 74 (.agg #[x0, x1, x2, x3, x4, x5, x6, x7, x8]) (.int .i64 7)).run Try.prog w = .ok x7 w := by kernel_rfl
theorem idx9_8 (x0 x1 x2 x3 x4 x5 x6 x7 x8 : Value) (w : World) : (Instr.index 74 (.agg #[x0, x1, x2, x3, x4, x5, x6, x7, x8]) (.int .i64 8)).run Try.prog w = .ok x8 w := by kernel_rfl
attribute [local go_sem 2000] idx9_0 idx9_1 idx9_2 idx9_3 idx9_4 idx9_5 idx9_6 idx9_7 idx9_8
theorem nc_cell {p : Int} (hp : 2 ≤ p) (hp' : p ≤ 13) (e : Int) : e % p % 256 = ((nc p e).toNat : Int) := by
  rw [nc_num hp hp']
  have h1 := Int.emod_nonneg e (show p ≠ 0 by omega)
  have h2 := Int.emod_lt_of_pos e (show 0 < p by omega)
  omega
def ngR (s : ByteArray) (p : Int) : GC := if primeB p = true then (match namG s with | some (n, gs) => grpR p n (gs.map (nmL p)) | none => ⟨0, 0, [], 4⟩) else ⟨0, 0, [], 2⟩
set_option maxRecDepth 100000 in
set_option maxHeartbeats 8000000 in
theorem implNamedGroup_c (s : ByteArray) (p : Int) (w : World) : Calls Try.prog 16 #[.string s, .int .i64 p] w (MakesGC (ngR s p) 41 w) := by
  have hP := fun W => isPrime_c p W
  cases h1 : primeB p with
  | false =>
    have e : ngR s p = ⟨0, 0, [], 2⟩ := by unfold ngR; rw [h1]; rfl
    rw [e]
    rw [h1] at hP
    clear h1 e
    go_enter Try.func16, Try.ntmps16
    go_wp2_with (first | (go_at_call 47; (first | (with_reducible refine call_later2 (hP _) ?_) | (with_reducible refine call_later (hP _) ?_)); intro x))
    have zz : w.heap.size < x.W.heap.size := by have := x.ok.size; simp at this; omega
    refine bodyPost_ret (v := .tuple #[.agg #[.int .i64 0, .int .i64 0, .slice none 0 0], .int .i64 2]) (by simp [results, Try.results16, go_sem]) rfl ?_
    exact MakesGC_nil _ _ _ _ bq1
  | true =>
    rw [h1] at hP
    obtain ⟨hp, hp'⟩ := prime_bd h1
    have hN := fun W => named_c s W
    cases h2 : namG s with
    | none =>
      have e : ngR s p = ⟨0, 0, [], 4⟩ := by unfold ngR; rw [h1, h2]; rfl
      rw [e]
      unfold Named at hN
      rw [h2] at hN
      have hN : ∀ W, Calls Try.prog 52 #[.string s] W (fun e w' => ∃ A c, e = .returned (.tuple #[.int .i64 0, .slice A 0 c]) ∧ kN.C w' A 0 [] ∧ Below W.heap.size W w') := hN
      clear h1 h2 e
      go_enter Try.func16, Try.ntmps16
      go_wp2_with (first | (go_at_call 47; (first | (with_reducible refine call_later2 (hP _) ?_) | (with_reducible refine call_later (hP _) ?_)); intro x) | (go_at_call 52; refine (hN _).mono ?_; rintro e w3 ⟨A, c, rfl, hC, hb⟩; have hb3 := x.ok.trans (hb.mono x.ok.size); obtain ⟨y, rfl⟩ : ∃ y : Later (w.alloc (.cells #[.int .i64 0, .int .i64 0, .slice none 0 0] 31)), w3 = y.W := ⟨⟨w3, hb3⟩, rfl⟩))
      have zz : w.heap.size < y.W.heap.size := by have := hb3.size; simp at this; omega
      refine bodyPost_ret (v := .tuple #[.agg #[.int .i64 0, .int .i64 0, .slice none 0 0], .int .i64 4]) (by simp [results, Try.results16, go_sem]) rfl ?_
      exact MakesGC_nil _ _ _ _ bq1
    | some q =>
      obtain ⟨n, gs⟩ := q
      have e : ngR s p = grpR p n (gs.map (nmL p)) := by unfold ngR; rw [h1, h2]; rfl
      rw [e]
      unfold Named at hN
      rw [h2] at hN
      have hN : ∀ W, Calls Try.prog 52 #[.string s] W (fun e w' => ∃ A c, e = .returned (.tuple #[.int .i64 n, .slice A gs.length c]) ∧ kN.C w' A gs.length gs ∧ Below W.heap.size W w') := hN
      obtain ⟨hn1, hn3, hgl, hgb, L, hok⟩ := namG_ok h2
      obtain ⟨hmat, l, hgen⟩ := ok_gen h1 (by simp [inB]; omega) hok
      have HGB := Lib.hid hgb
      have hn0 : (n == 0) = false := by rw [beq_eq_false_iff_ne]; omega
      have HG := Lib.hid (fun W A c hC => implGroupOf_c p n A c (gs.map (nmL p)) W hC (by rw [List.length_map]; omega))
      clear h1 h2 e hgb hok
      go_enter Try.func16, Try.ntmps16
      go_wp2_with (first | (go_at_call 47; (first | (with_reducible refine call_later2 (hP _) ?_) | (with_reducible refine call_later (hP _) ?_)); intro x) | (go_at_call 52; refine (hN _).mono ?_; rintro e w3 ⟨A, c, rfl, hC, hb⟩; have hb3 := x.ok.trans (hb.mono x.ok.size); obtain ⟨y, rfl⟩ : ∃ y : Later (w.alloc (.cells #[.int .i64 0, .int .i64 0, .slice none 0 0] 31)), w3 = y.W := ⟨⟨w3, hb3⟩, rfl⟩))
      have zz : w.heap.size < y.W.heap.size := by have := hb3.size; simp at this; omega
      have hb0 : Below w.heap.size w y.W := bq1
      have hrb := pw_cell_below hb3 (show (w.alloc (.cells #[.int .i64 0, .int .i64 0, .slice none 0 0] 31)).cell? ⟨w.heap.size, 0, none⟩ = some (.int .i64 0) from bq5)
      have hR0 := R_zero kM (e := 41) (heap_alloc_last y.W (.cells #[] 41)) (Nat.le_refl _)
      have hb23 := below_alloc2 y.W (.cells #[] 41)
      go_loopg [29, 8] gs.length (fun k v29 v8 w' => ∃ (j : Nat) (P : Option Addr) (cP : Nat), j + k = gs.length ∧ v29 = .int .i64 j ∧ v8 = .slice P j cP ∧ Below y.W.heap.size y.W w' ∧ kM.R 41 w' y.W.heap.size (fun _ => True) (.slice P j cP) ((gs.map (nmL p)).take j))
      case atStart => exact ⟨0, some ⟨y.W.heap.size, 0, none⟩, 0, by omega, rfl, rfl, hb23, hR0⟩
      case round =>
        clear hR0 hb23
        obtain ⟨j, P, cP, hjk, rfl, rfl, hbw, hR⟩ := hrel
        have HJK := Lib.hid hjk
        clear hjk
        by_cases hj : j < gs.length
        · obtain ⟨b, o, hA, hcell⟩ := kN_at hC j hj
          subst hA
          have hgj := HGB.out _ (getD_mem [] hj)
          generalize hgg : gs.getD j [] = g at *
          have q0 : wr.cell? ⟨b, o + j * 9, none⟩ = some (.int .i64 (g.getD 0 0)) := pw_cell_below hbw (hcell 0 (by omega))
          have q1 : wr.cell? ⟨b, o + j * 9 + 1, none⟩ = some (.int .i64 (g.getD 1 0)) := pw_cell_below hbw (hcell 1 (by omega))
          have q2 : wr.cell? ⟨b, o + j * 9 + 2, none⟩ = some (.int .i64 (g.getD 2 0)) := pw_cell_below hbw (hcell 2 (by omega))
          have q3 : wr.cell? ⟨b, o + j * 9 + 3, none⟩ = some (.int .i64 (g.getD 3 0)) := pw_cell_below hbw (hcell 3 (by omega))
          have q4 : wr.cell? ⟨b, o + j * 9 + 4, none⟩ = some (.int .i64 (g.getD 4 0)) := pw_cell_below hbw (hcell 4 (by omega))
          have q5 : wr.cell? ⟨b, o + j * 9 + 5, none⟩ = some (.int .i64 (g.getD 5 0)) := pw_cell_below hbw (hcell 5 (by omega))
          have q6 : wr.cell? ⟨b, o + j * 9 + 6, none⟩ = some (.int .i64 (g.getD 6 0)) := pw_cell_below hbw (hcell 6 (by omega))
          have q7 : wr.cell? ⟨b, o + j * 9 + 7, none⟩ = some (.int .i64 (g.getD 7 0)) := pw_cell_below hbw (hcell 7 (by omega))
          have q8 : wr.cell? ⟨b, o + j * 9 + 8, none⟩ = some (.int .i64 (g.getD 8 0)) := pw_cell_below hbw (hcell 8 (by omega))
          have hj0 : (0 : Int) ≤ j := by omega
          have hj1 : (j : Int) < gs.length := by omega
          have hjn : ((j : Int)).toNat = j := by omega
          have b0 := hgj 0
          have b1 := hgj 1
          have b2 := hgj 2
          have b3 := hgj 3
          have b4 := hgj 4
          have b5 := hgj 5
          have b6 := hgj 6
          have b7 := hgj 7
          have b8 := hgj 8
          have HM := Lib.hid (show nmL p g = ⟨⟨nc p (g.getD 0 0), nc p (g.getD 1 0), nc p (g.getD 2 0)⟩, ⟨nc p (g.getD 3 0), nc p (g.getD 4 0), nc p (g.getD 5 0)⟩, ⟨nc p (g.getD 6 0), nc p (g.getD 7 0), nc p (g.getD 8 0)⟩⟩ from rfl)
          have k0 := nc_cell hp hp' (g.getD 0 0)
          have k1 := nc_cell hp hp' (g.getD 1 0)
          have k2 := nc_cell hp hp' (g.getD 2 0)
          have k3 := nc_cell hp hp' (g.getD 3 0)
          have k4 := nc_cell hp hp' (g.getD 4 0)
          have k5 := nc_cell hp hp' (g.getD 5 0)
          have k6 := nc_cell hp hp' (g.getD 6 0)
          have k7 := nc_cell hp hp' (g.getD 7 0)
          have k8 := nc_cell hp hp' (g.getD 8 0)
          generalize nc p (g.getD 0 0) = u0 at *
          generalize nc p (g.getD 1 0) = u1 at *
          generalize nc p (g.getD 2 0) = u2 at *
          generalize nc p (g.getD 3 0) = u3 at *
          generalize nc p (g.getD 4 0) = u4 at *
          generalize nc p (g.getD 5 0) = u5 at *
          generalize nc p (g.getD 6 0) = u6 at *
          generalize nc p (g.getD 7 0) = u7 at *
          generalize nc p (g.getD 8 0) = u8 at *
          generalize g.getD 0 0 = x0 at *
          generalize g.getD 1 0 = x1 at *
          generalize g.getD 2 0 = x2 at *
          generalize g.getD 3 0 = x3 at *
          generalize g.getD 4 0 = x4 at *
          generalize g.getD 5 0 = x5 at *
          generalize g.getD 6 0 = x6 at *
          generalize g.getD 7 0 = x7 at *
          generalize g.getD 8 0 = x8 at *
          have hxt : ((gs.map (nmL p)).take j).length = j := by rw [List.length_take, List.length_map]; omega
          have HT := Lib.hid (show (gs.map (nmL p)).take (j + 1) = (gs.map (nmL p)).take j ++ [nmL p g] by rw [List.take_succ_eq_append_getElem (by rw [List.length_map]; exact hj), List.getElem_map]; congr 2; rw [← hgg]; simp [List.getD_eq_getElem?_getD, hj])
          have HXT := Lib.hid hxt
          have hjs : j ≤ 3 := by omega
          clear hxt hgg hcell
          generalize (gs.map (nmL p)).take j = ls at *
          have HRR := Lib.hid (And.intro hR hbw)
          have hgs8 := hbw.size
          clear hR hbw
          go_wp2_with fail
          refine wp_loop_rounds 10 ?_
          rw [rounds_succ]
          go_wp2
          go_region
          all_goals go_wp2
          rw [rounds_succ]
          go_wp2
          go_region
          all_goals go_wp2
          rw [rounds_succ]
          go_wp2
          go_region
          all_goals go_wp2
          rw [rounds_succ]
          go_wp2
          go_region
          all_goals go_wp2
          rw [rounds_succ]
          go_wp2
          go_region
          all_goals go_wp2
          rw [rounds_succ]
          go_wp2
          go_region
          all_goals go_wp2
          rw [rounds_succ]
          go_wp2
          go_region
          all_goals go_wp2
          rw [rounds_succ]
          go_wp2
          go_region
          all_goals go_wp2
          rw [rounds_succ]
          go_wp2
          go_region
          all_goals go_wp2
          rw [rounds_succ]
          have hb7 : Below wr.heap.size wr (((wr.alloc (.cells #[.int .i64 x0, .int .i64 x1, .int .i64 x2, .int .i64 x3, .int .i64 x4, .int .i64 x5, .int .i64 x6, .int .i64 x7, .int .i64 x8] 74)).alloc (.cells #[.int .u8 (u0.toNat : Int), .int .u8 (u1.toNat : Int), .int .u8 (u2.toNat : Int), .int .u8 (u3.toNat : Int), .int .u8 (u4.toNat : Int), .int .u8 (u5.toNat : Int), .int .u8 (u6.toNat : Int), .int .u8 (u7.toNat : Int), .int .u8 (u8.toNat : Int)] 41)).drew.drew.drew.drew.drew.drew.drew.drew.drew) := bq1
          have m0 : (((wr.alloc (.cells #[.int .i64 x0, .int .i64 x1, .int .i64 x2, .int .i64 x3, .int .i64 x4, .int .i64 x5, .int .i64 x6, .int .i64 x7, .int .i64 x8] 74)).alloc (.cells #[.int .u8 (u0.toNat : Int), .int .u8 (u1.toNat : Int), .int .u8 (u2.toNat : Int), .int .u8 (u3.toNat : Int), .int .u8 (u4.toNat : Int), .int .u8 (u5.toNat : Int), .int .u8 (u6.toNat : Int), .int .u8 (u7.toNat : Int), .int .u8 (u8.toNat : Int)] 41)).drew.drew.drew.drew.drew.drew.drew.drew.drew).cell? ⟨wr.heap.size + 1, 0, none⟩ = some (.int .u8 (u0.toNat : Int)) := bq5
          have m1 : (((wr.alloc (.cells #[.int .i64 x0, .int .i64 x1, .int .i64 x2, .int .i64 x3, .int .i64 x4, .int .i64 x5, .int .i64 x6, .int .i64 x7, .int .i64 x8] 74)).alloc (.cells #[.int .u8 (u0.toNat : Int), .int .u8 (u1.toNat : Int), .int .u8 (u2.toNat : Int), .int .u8 (u3.toNat : Int), .int .u8 (u4.toNat : Int), .int .u8 (u5.toNat : Int), .int .u8 (u6.toNat : Int), .int .u8 (u7.toNat : Int), .int .u8 (u8.toNat : Int)] 41)).drew.drew.drew.drew.drew.drew.drew.drew.drew).cell? ⟨wr.heap.size + 1, 1, none⟩ = some (.int .u8 (u1.toNat : Int)) := bq5
          have m2 : (((wr.alloc (.cells #[.int .i64 x0, .int .i64 x1, .int .i64 x2, .int .i64 x3, .int .i64 x4, .int .i64 x5, .int .i64 x6, .int .i64 x7, .int .i64 x8] 74)).alloc (.cells #[.int .u8 (u0.toNat : Int), .int .u8 (u1.toNat : Int), .int .u8 (u2.toNat : Int), .int .u8 (u3.toNat : Int), .int .u8 (u4.toNat : Int), .int .u8 (u5.toNat : Int), .int .u8 (u6.toNat : Int), .int .u8 (u7.toNat : Int), .int .u8 (u8.toNat : Int)] 41)).drew.drew.drew.drew.drew.drew.drew.drew.drew).cell? ⟨wr.heap.size + 1, 2, none⟩ = some (.int .u8 (u2.toNat : Int)) := bq5
          have m3 : (((wr.alloc (.cells #[.int .i64 x0, .int .i64 x1, .int .i64 x2, .int .i64 x3, .int .i64 x4, .int .i64 x5, .int .i64 x6, .int .i64 x7, .int .i64 x8] 74)).alloc (.cells #[.int .u8 (u0.toNat : Int), .int .u8 (u1.toNat : Int), .int .u8 (u2.toNat : Int), .int .u8 (u3.toNat : Int), .int .u8 (u4.toNat : Int), .int .u8 (u5.toNat : Int), .int .u8 (u6.toNat : Int), .int .u8 (u7.toNat : Int), .int .u8 (u8.toNat : Int)] 41)).drew.drew.drew.drew.drew.drew.drew.drew.drew).cell? ⟨wr.heap.size + 1, 3, none⟩ = some (.int .u8 (u3.toNat : Int)) := bq5
          have m4 : (((wr.alloc (.cells #[.int .i64 x0, .int .i64 x1, .int .i64 x2, .int .i64 x3, .int .i64 x4, .int .i64 x5, .int .i64 x6, .int .i64 x7, .int .i64 x8] 74)).alloc (.cells #[.int .u8 (u0.toNat : Int), .int .u8 (u1.toNat : Int), .int .u8 (u2.toNat : Int), .int .u8 (u3.toNat : Int), .int .u8 (u4.toNat : Int), .int .u8 (u5.toNat : Int), .int .u8 (u6.toNat : Int), .int .u8 (u7.toNat : Int), .int .u8 (u8.toNat : Int)] 41)).drew.drew.drew.drew.drew.drew.drew.drew.drew).cell? ⟨wr.heap.size + 1, 4, none⟩ = some (.int .u8 (u4.toNat : Int)) := bq5
          have m5 : (((wr.alloc (.cells #[.int .i64 x0, .int .i64 x1, .int .i64 x2, .int .i64 x3, .int .i64 x4, .int .i64 x5, .int .i64 x6, .int .i64 x7, .int .i64 x8] 74)).alloc (.cells #[.int .u8 (u0.toNat : Int), .int .u8 (u1.toNat : Int), .int .u8 (u2.toNat : Int), .int .u8 (u3.toNat : Int), .int .u8 (u4.toNat : Int), .int .u8 (u5.toNat : Int), .int .u8 (u6.toNat : Int), .int .u8 (u7.toNat : Int), .int .u8 (u8.toNat : Int)] 41)).drew.drew.drew.drew.drew.drew.drew.drew.drew).cell? ⟨wr.heap.size + 1, 5, none⟩ = some (.int .u8 (u5.toNat : Int)) := bq5
          have m6 : (((wr.alloc (.cells #[.int .i64 x0, .int .i64 x1, .int .i64 x2, .int .i64 x3, .int .i64 x4, .int .i64 x5, .int .i64 x6, .int .i64 x7, .int .i64 x8] 74)).alloc (.cells #[.int .u8 (u0.toNat : Int), .int .u8 (u1.toNat : Int), .int .u8 (u2.toNat : Int), .int .u8 (u3.toNat : Int), .int .u8 (u4.toNat : Int), .int .u8 (u5.toNat : Int), .int .u8 (u6.toNat : Int), .int .u8 (u7.toNat : Int), .int .u8 (u8.toNat : Int)] 41)).drew.drew.drew.drew.drew.drew.drew.drew.drew).cell? ⟨wr.heap.size + 1, 6, none⟩ = some (.int .u8 (u6.toNat : Int)) := bq5
          have m7 : (((wr.alloc (.cells #[.int .i64 x0, .int .i64 x1, .int .i64 x2, .int .i64 x3, .int .i64 x4, .int .i64 x5, .int .i64 x6, .int .i64 x7, .int .i64 x8] 74)).alloc (.cells #[.int .u8 (u0.toNat : Int), .int .u8 (u1.toNat : Int), .int .u8 (u2.toNat : Int), .int .u8 (u3.toNat : Int), .int .u8 (u4.toNat : Int), .int .u8 (u5.toNat : Int), .int .u8 (u6.toNat : Int), .int .u8 (u7.toNat : Int), .int .u8 (u8.toNat : Int)] 41)).drew.drew.drew.drew.drew.drew.drew.drew.drew).cell? ⟨wr.heap.size + 1, 7, none⟩ = some (.int .u8 (u7.toNat : Int)) := bq5
          have m8 : (((wr.alloc (.cells #[.int .i64 x0, .int .i64 x1, .int .i64 x2, .int .i64 x3, .int .i64 x4, .int .i64 x5, .int .i64 x6, .int .i64 x7, .int .i64 x8] 74)).alloc (.cells #[.int .u8 (u0.toNat : Int), .int .u8 (u1.toNat : Int), .int .u8 (u2.toNat : Int), .int .u8 (u3.toNat : Int), .int .u8 (u4.toNat : Int), .int .u8 (u5.toNat : Int), .int .u8 (u6.toNat : Int), .int .u8 (u7.toNat : Int), .int .u8 (u8.toNat : Int)] 41)).drew.drew.drew.drew.drew.drew.drew.drew.drew).cell? ⟨wr.heap.size + 1, 8, none⟩ = some (.int .u8 (u8.toNat : Int)) := bq5
          generalize (((wr.alloc (.cells #[.int .i64 x0, .int .i64 x1, .int .i64 x2, .int .i64 x3, .int .i64 x4, .int .i64 x5, .int .i64 x6, .int .i64 x7, .int .i64 x8] 74)).alloc (.cells #[.int .u8 (u0.toNat : Int), .int .u8 (u1.toNat : Int), .int .u8 (u2.toNat : Int), .int .u8 (u3.toNat : Int), .int .u8 (u4.toNat : Int), .int .u8 (u5.toNat : Int), .int .u8 (u6.toNat : Int), .int .u8 (u7.toNat : Int), .int .u8 (u8.toNat : Int)] 41)).drew.drew.drew.drew.drew.drew.drew.drew.drew) = W7 at *
          have hR7 := Kd.R_below HRR.out.1 hb7
          have hs7 := hb7.size
          go_wp2_with ((with_reducible refine gate_ (.call { callee := .builtin .append, args := #[.tmp 52, .tmp 54], argTypes := #[29, 29] }) rfl ?_); refine Kd.R_append kM (w0 := W7) (W := W7) y.W.heap.size rfl (.tmp 52) (.tmp 54) 29 41 (.agg #[.int .u8 0, .int .u8 0, .int .u8 0, .int .u8 0, .int .u8 0, .int .u8 0, .int .u8 0, .int .u8 0, .int .u8 0]) 9 rfl Try.underlying29 infoM rfl (by decide) (by decide) (.slice P j cP) ls (⟨⟨u0, u1, u2⟩, ⟨u3, u4, u5⟩, ⟨u6, u7, u8⟩⟩ : M9) (M9.cs ⟨⟨u0, u1, u2⟩, ⟨u3, u4, u5⟩, ⟨u6, u7, u8⟩⟩) (fun _ => True) (fun _ => False) rfl rfl rfl (fun _ hk => hk.elim) (fun _ _ => trivial) hR7 (Below.refl _ _) (by omega) (by have := HXT.out; omega) ?_; intro v1 w1 hR1 hB1 hg1 _)
          go_roundg (gk - 1)
          case measure => have := HJK.out; omega
          case rel =>
            have hlen : (ls ++ [(⟨⟨u0, u1, u2⟩, ⟨u3, u4, u5⟩, ⟨u6, u7, u8⟩⟩ : M9)]).length = j + 1 := by rw [List.length_append, HXT.out]; rfl
            obtain ⟨P1, c1, hv1⟩ := Kd.R_slice hR1
            rw [hlen] at hv1
            subst hv1
            exact ⟨j + 1, P1, c1, by have := HJK.out; omega, by go_num, rfl, (HRR.out.2.trans (hb7.mono hgs8)).trans hB1, by rw [HT.out, HM.out]; exact hR1⟩
        · have hje : j = gs.length := by have := HJK.out; omega
          subst hje
          have hle : (gs.map (nmL p)).take gs.length = gs.map (nmL p) := List.take_of_length_le (by rw [List.length_map]; exact Nat.le_refl _)
          rw [hle] at hR
          have hll : (gs.map (nmL p)).length = gs.length := by rw [List.length_map]
          have hC2 := (Kd.R_reads' hR).2.2
          have HG2 := Lib.hid (HG.out wr P cP hC2)
          have hzw := hbw.size
          have hb1 : Below (w.alloc (.cells #[.int .i64 0, .int .i64 0, .slice none 0 0] 31)).heap.size (w.alloc (.cells #[.int .i64 0, .int .i64 0, .slice none 0 0] 31)) wr := y.ok.trans (hbw.mono y.ok.size)
          clear hR hle hmat hgen HG hC hC2
          generalize gs.map (nmL p) = ms at *
          have HLL := Lib.hid hll
          generalize grpR p n ms = r at *
          clear hbw hzw zz hrb hb0 hb3
          obtain ⟨z, rfl⟩ : ∃ z : Later (w.alloc (.cells #[.int .i64 0, .int .i64 0, .slice none 0 0] 31)), wr = z.W := ⟨⟨wr, hb1⟩, rfl⟩
          rw [hll] at HG2
          clear hll HLL
          go_wp2_with (go_at_call 53; (with_reducible refine call_makesGC2 HG2.out ?_); intro x8 A8 c8 hb8 hl8 hR8)
          have zz : w.heap.size < x8.W.heap.size := by have := x8.ok.size; simp at this; omega
          have zz2 := z.ok.size
          simp at zz2
          refine bodyPost_ret (v := .tuple #[.agg #[.int .i64 r.p, .int .i64 r.d, .slice A8 r.ts.length c8], .int .i64 r.c]) (by simp [results, Try.results16, go_sem]) rfl ?_
          refine ⟨_, _, rfl, ?_, bq1⟩
          have hzlt : w.heap.size < z.W.heap.size := by omega
          exact Kd.R_lower (R_old (R_old (R_old hR8 (p := ⟨w.heap.size, 0, none⟩) hzlt _) (p := ⟨w.heap.size, 1, none⟩) hzlt _) (p := ⟨w.heap.size, 2, none⟩) hzlt _) (by omega)
end Go.Proofs.Ytimjhehagimcaaa
