/- The walk of ConjugateGroup of the program; no condition. -/
import Derived.Test.YtgidpgfkbgbhmaaZConj
import Derived.Test.YtgidpgfkbgbhmaaWLast
set_option linter.unusedVariables false
set_option linter.unusedSimpArgs false
namespace Go.Proofs.Ytgidpgfkbgbhmaa
open Go.RowKit Go.Proofs.YtgidpgfkbgbhmaaW.PrintWords
attribute [local go_sem] Later.cell Later.frozen Later.lt Later.lt_add Later.le Later.le_add Later.ne Later.ne' add_at
open Go.Proofs.YtgidpgfkbgbhmaaW.PrintLast
attribute [local go_sem 2000] run_eqM guardM
attribute [local go_sem] later_drew2 later_drewf2
theorem below_undrewC {w W : World} (h : Below w.drew.heap.size w.drew W) : Below w.heap.size w W := ⟨h.os, h.tape, h.output, h.size, h.block⟩
theorem Acc.swapC {w0 W W' : World} {ob rb : Nat} {p n : Int} {E : TypeId} {B : Option Addr} {cb : Nat} {xs ys : List M9} (h : Acc w0 ob rb p n E W B cb xs) (hl : ys.length = xs.length) (hg : W.grownBy W' (Value.slice B xs.length cb).ownBlock) (hR : kM.R E W' w0.heap.size (fun k => k ≠ ob ∧ k ≠ rb) (.slice B xs.length cb) ys) : Acc w0 ob rb p n E W' B cb ys :=
  ⟨⟨hg.os.trans h.bel.os, hg.tape.trans h.bel.tape, hg.output.trans h.bel.output, Nat.le_trans h.bel.size hg.size, fun k hk => (hg.block k (Nat.lt_of_lt_of_le hk h.bel.size) (fun e => by have := Kd.R_base h.R _ e.symm; omega)).trans (h.bel.block k hk)⟩, h.hrb, h.hob, far_cell hg h.o0 h.own, far_cell hg h.o1 h.own, by rw [hl]; exact far_cell hg h.o2 h.own, far_frozen hg h.o3 h.lo h.own, by rw [hl]; exact hR, far_cell hg h.r0 h.ownr, far_cell hg h.r1 h.ownr, far_cell hg h.r2 h.ownr, far_frozen hg h.r3 h.lr h.ownr, far_frozen hg h.r4 h.lr h.ownr, far_frozen hg h.r5 h.lr h.ownr, h.hne⟩
set_option maxRecDepth 100000 in
set_option maxHeartbeats 4000000 in
theorem implConjugateGroup_c (p n : Int) (A : Option Addr) (c : Nat) (ms : List M9) (x : M9) (w : World) (hC : kM.C w A ms.length ms) (hN : ms.length ≤ 9223372036854775807) :
    Calls Try.prog 53 #[.agg #[.int .i64 p, .int .i64 n, .slice A ms.length c], .agg #[.int .u8 (x.r0.a.toNat : Int), .int .u8 (x.r0.b.toNat : Int), .int .u8 (x.r0.c.toNat : Int), .int .u8 (x.r1.a.toNat : Int), .int .u8 (x.r1.b.toNat : Int), .int .u8 (x.r1.c.toNat : Int), .int .u8 (x.r2.a.toNat : Int), .int .u8 (x.r2.b.toNat : Int), .int .u8 (x.r2.c.toNat : Int)]] w (MakesGC (conjR p n ms x) 76 w) := by
  have hC1 := Kd.C_alloc (Kd.C_alloc (Kd.C_alloc hC (.cells #[.int .i64 p, .int .i64 n, .slice A ms.length c] 29)) (.cells #[.int .u8 (x.r0.a.toNat : Int), .int .u8 (x.r0.b.toNat : Int), .int .u8 (x.r0.c.toNat : Int), .int .u8 (x.r1.a.toNat : Int), .int .u8 (x.r1.b.toNat : Int), .int .u8 (x.r1.c.toNat : Int), .int .u8 (x.r2.a.toNat : Int), .int .u8 (x.r2.b.toNat : Int), .int .u8 (x.r2.c.toNat : Int)] 76)) (.cells #[.int .i64 0, .int .i64 0, .slice none 0 0] 29)
  have hG := implIsGroup_c p n A c ms _ hC1 hN
  cases hg : grpB p n ms with
  | false =>
    rw [conjR_1 hg]
    rw [hg] at hG
    clear hg
    go_enter Try.func53, Try.ntmps53
    go_wp2_with ((go_at_call 98; (first | (with_reducible refine call_later2 (hG) ?_) | (with_reducible refine call_later (hG) ?_)); intro x1))
    have zz : w.heap.size + 1 + 1 < x1.W.heap.size := by have := x1.ok.size; simp at this; omega
    refine bodyPost_ret (v := .tuple #[.agg #[.int .i64 0, .int .i64 0, .slice none 0 0], .int .i64 1]) (by simp [results, Try.results53, go_sem]) rfl ?_
    exact MakesGC_nil _ _ _ _ (by repeat (first | (with_reducible assumption) | (with_reducible exact Below.refl _ _) | ((with_reducible refine Below.alloc ?_ ?_ _); rotate_left; (focus (first | omega | (simp; done) | (simp; omega)))) | (with_reducible refine Below.drew ?_) | ((with_reducible refine Below.setCell ?_ ?_ _); rotate_left; (focus (first | omega | (simp; done) | (simp; omega)))) | ((with_reducible refine below_hop (by assumption) ?_ ?_); rotate_left; (focus (first | omega | (simp; done) | (simp; omega)))) | ((with_reducible refine bel_later _ ?_ ?_); rotate_left; (focus (first | omega | (simp; done) | (simp; omega))))))
  | true =>
    rw [hg] at hG
    have gp := (grpB_iff p n ms).1 hg
    obtain ⟨hp, hp', hn1, hn3⟩ := grp_num4 gp
    have hl2 := gp.l2
    have HPZ := Lib.hid (primeZ_of gp.hp)
    have HMAT := Lib.hid gp.mat
    have hT := fun W => implIsMatrix_c p n x W
    clear gp
    cases hx : matB p n x with
    | false =>
      rw [conjR_2 hg hx]
      rw [hx] at hT
      clear hg hx
      go_enter Try.func53, Try.ntmps53
      go_wp2_with (first | (go_at_call 98; (first | (with_reducible refine call_later2 (hG) ?_) | (with_reducible refine call_later (hG) ?_)); intro x1) | (go_at_call 105; (first | (with_reducible refine call_later2 (hT _) ?_) | (with_reducible refine call_later (hT _) ?_)); intro x2))
      have zz : w.heap.size + 1 + 1 < x2.W.heap.size := by have := x2.ok.size; simp at this; omega
      refine bodyPost_ret (v := .tuple #[.agg #[.int .i64 0, .int .i64 0, .slice none 0 0], .int .i64 2]) (by simp [results, Try.results53, go_sem]) rfl ?_
      exact MakesGC_nil _ _ _ _ (by repeat (first | (with_reducible assumption) | (with_reducible exact Below.refl _ _) | ((with_reducible refine Below.alloc ?_ ?_ _); rotate_left; (focus (first | omega | (simp; done) | (simp; omega)))) | (with_reducible refine Below.drew ?_) | ((with_reducible refine Below.setCell ?_ ?_ _); rotate_left; (focus (first | omega | (simp; done) | (simp; omega)))) | ((with_reducible refine below_hop (by assumption) ?_ ?_); rotate_left; (focus (first | omega | (simp; done) | (simp; omega)))) | ((with_reducible refine bel_later _ ?_ ?_); rotate_left; (focus (first | omega | (simp; done) | (simp; omega))))))
    | true =>
      rw [conjR_0 hg hx]
      rw [hx] at hT
      have hxl := (matB_le hx).1
      have hvl := invM_le hx
      have hi : ∀ W, Calls Try.prog 107 #[.int .i64 p, .int .i64 n, .agg #[.int .u8 (x.r0.a.toNat : Int), .int .u8 (x.r0.b.toNat : Int), .int .u8 (x.r0.c.toNat : Int), .int .u8 (x.r1.a.toNat : Int), .int .u8 (x.r1.b.toNat : Int), .int .u8 (x.r1.c.toNat : Int), .int .u8 (x.r2.a.toNat : Int), .int .u8 (x.r2.b.toNat : Int), .int .u8 (x.r2.c.toNat : Int)]] W (Gives (.agg #[.int .u8 ((invM p n.toNat x.num).r0.a.toNat : Int), .int .u8 ((invM p n.toNat x.num).r0.b.toNat : Int), .int .u8 ((invM p n.toNat x.num).r0.c.toNat : Int), .int .u8 ((invM p n.toNat x.num).r1.a.toNat : Int), .int .u8 ((invM p n.toNat x.num).r1.b.toNat : Int), .int .u8 ((invM p n.toNat x.num).r1.c.toNat : Int), .int .u8 ((invM p n.toNat x.num).r2.a.toNat : Int), .int .u8 ((invM p n.toNat x.num).r2.b.toNat : Int), .int .u8 ((invM p n.toNat x.num).r2.c.toNat : Int)]) W) := fun W => by
        have := inverted_c p n.toNat x W HPZ.out (by omega) (by omega) hxl
        rwa [Int.toNat_of_nonneg (by omega)] at this
      have HTK := Lib.hid (fun j => conjL_take (p := p) (n := n) (x := x) (ms := ms) (j := j))
      have hcl := conjL_len p n x ms
      clear hg hx
      go_enter Try.func53, Try.ntmps53
      go_wp2_with (first | (go_at_call 98; (first | (with_reducible refine call_later2 (hG) ?_) | (with_reducible refine call_later (hG) ?_)); intro x1) | ((go_at_call 105; (first | (with_reducible refine call_later2 (hT _) ?_) | (with_reducible refine call_later (hT _) ?_)); intro x2); have g0 := x2.keep (show (((w.alloc (.cells #[.int .i64 p, .int .i64 n, .slice A ms.length c] 29)).alloc (.cells #[.int .u8 (x.r0.a.toNat : Int), .int .u8 (x.r0.b.toNat : Int), .int .u8 (x.r0.c.toNat : Int), .int .u8 (x.r1.a.toNat : Int), .int .u8 (x.r1.b.toNat : Int), .int .u8 (x.r1.c.toNat : Int), .int .u8 (x.r2.a.toNat : Int), .int .u8 (x.r2.b.toNat : Int), .int .u8 (x.r2.c.toNat : Int)] 76)).alloc (.cells #[.int .i64 0, .int .i64 0, .slice none 0 0] 29)).cell? ⟨w.heap.size, 0, none⟩ = some (.int .i64 p) from (by first | (simp; done) | (simp [go_sem]; done) | go_simp)); have g1 := x2.keep (show (((w.alloc (.cells #[.int .i64 p, .int .i64 n, .slice A ms.length c] 29)).alloc (.cells #[.int .u8 (x.r0.a.toNat : Int), .int .u8 (x.r0.b.toNat : Int), .int .u8 (x.r0.c.toNat : Int), .int .u8 (x.r1.a.toNat : Int), .int .u8 (x.r1.b.toNat : Int), .int .u8 (x.r1.c.toNat : Int), .int .u8 (x.r2.a.toNat : Int), .int .u8 (x.r2.b.toNat : Int), .int .u8 (x.r2.c.toNat : Int)] 76)).alloc (.cells #[.int .i64 0, .int .i64 0, .slice none 0 0] 29)).cell? ⟨w.heap.size, 1, none⟩ = some (.int .i64 n) from (by first | (simp; done) | (simp [go_sem]; done) | go_simp)); have g2 := x2.keep (show (((w.alloc (.cells #[.int .i64 p, .int .i64 n, .slice A ms.length c] 29)).alloc (.cells #[.int .u8 (x.r0.a.toNat : Int), .int .u8 (x.r0.b.toNat : Int), .int .u8 (x.r0.c.toNat : Int), .int .u8 (x.r1.a.toNat : Int), .int .u8 (x.r1.b.toNat : Int), .int .u8 (x.r1.c.toNat : Int), .int .u8 (x.r2.a.toNat : Int), .int .u8 (x.r2.b.toNat : Int), .int .u8 (x.r2.c.toNat : Int)] 76)).alloc (.cells #[.int .i64 0, .int .i64 0, .slice none 0 0] 29)).cell? ⟨w.heap.size, 2, none⟩ = some (.slice A ms.length c) from (by first | (simp; done) | (simp [go_sem]; done) | go_simp)); have ga := cell_alloc g2 (.cells #[.int .i64 p, .int .i64 n, .slice none 0 0] 29); have zz2 : w.heap.size + 1 + 1 < x2.W.heap.size := (by have := x2.ok.size; simp at this; omega)))
      have zw2 : ((w.alloc (.cells #[.int .i64 p, .int .i64 n, .slice A ms.length c] 29)).alloc (.cells #[.int .u8 (x.r0.a.toNat : Int), .int .u8 (x.r0.b.toNat : Int), .int .u8 (x.r0.c.toNat : Int), .int .u8 (x.r1.a.toNat : Int), .int .u8 (x.r1.b.toNat : Int), .int .u8 (x.r1.c.toNat : Int), .int .u8 (x.r2.a.toNat : Int), .int .u8 (x.r2.b.toNat : Int), .int .u8 (x.r2.c.toNat : Int)] 76)).heap.size = w.heap.size + 1 + 1 := by simp
      have hC0 : kM.C ((w.alloc (.cells #[.int .i64 p, .int .i64 n, .slice A ms.length c] 29)).alloc (.cells #[.int .u8 (x.r0.a.toNat : Int), .int .u8 (x.r0.b.toNat : Int), .int .u8 (x.r0.c.toNat : Int), .int .u8 (x.r1.a.toNat : Int), .int .u8 (x.r1.b.toNat : Int), .int .u8 (x.r1.c.toNat : Int), .int .u8 (x.r2.a.toNat : Int), .int .u8 (x.r2.b.toNat : Int), .int .u8 (x.r2.c.toNat : Int)] 76)) A ms.length ms := Kd.C_alloc (Kd.C_alloc hC _) _
      have h0 : ((w.alloc (.cells #[.int .i64 p, .int .i64 n, .slice A ms.length c] 29)).alloc (.cells #[.int .u8 (x.r0.a.toNat : Int), .int .u8 (x.r0.b.toNat : Int), .int .u8 (x.r0.c.toNat : Int), .int .u8 (x.r1.a.toNat : Int), .int .u8 (x.r1.b.toNat : Int), .int .u8 (x.r1.c.toNat : Int), .int .u8 (x.r2.a.toNat : Int), .int .u8 (x.r2.b.toNat : Int), .int .u8 (x.r2.c.toNat : Int)] 76)).cell? ⟨w.heap.size, 0, none⟩ = some (.int .i64 p) := (by first | (simp; done) | (simp [go_sem]; done) | go_simp)
      have h1 : ((w.alloc (.cells #[.int .i64 p, .int .i64 n, .slice A ms.length c] 29)).alloc (.cells #[.int .u8 (x.r0.a.toNat : Int), .int .u8 (x.r0.b.toNat : Int), .int .u8 (x.r0.c.toNat : Int), .int .u8 (x.r1.a.toNat : Int), .int .u8 (x.r1.b.toNat : Int), .int .u8 (x.r1.c.toNat : Int), .int .u8 (x.r2.a.toNat : Int), .int .u8 (x.r2.b.toNat : Int), .int .u8 (x.r2.c.toNat : Int)] 76)).cell? ⟨w.heap.size, 1, none⟩ = some (.int .i64 n) := (by first | (simp; done) | (simp [go_sem]; done) | go_simp)
      have h2 : ((w.alloc (.cells #[.int .i64 p, .int .i64 n, .slice A ms.length c] 29)).alloc (.cells #[.int .u8 (x.r0.a.toNat : Int), .int .u8 (x.r0.b.toNat : Int), .int .u8 (x.r0.c.toNat : Int), .int .u8 (x.r1.a.toNat : Int), .int .u8 (x.r1.b.toNat : Int), .int .u8 (x.r1.c.toNat : Int), .int .u8 (x.r2.a.toNat : Int), .int .u8 (x.r2.b.toNat : Int), .int .u8 (x.r2.c.toNat : Int)] 76)).cell? ⟨w.heap.size, 2, none⟩ = some (.slice A ms.length c) := (by first | (simp; done) | (simp [go_sem]; done) | go_simp)
      have k0 : ((w.alloc (.cells #[.int .i64 p, .int .i64 n, .slice A ms.length c] 29)).alloc (.cells #[.int .u8 (x.r0.a.toNat : Int), .int .u8 (x.r0.b.toNat : Int), .int .u8 (x.r0.c.toNat : Int), .int .u8 (x.r1.a.toNat : Int), .int .u8 (x.r1.b.toNat : Int), .int .u8 (x.r1.c.toNat : Int), .int .u8 (x.r2.a.toNat : Int), .int .u8 (x.r2.b.toNat : Int), .int .u8 (x.r2.c.toNat : Int)] 76)).cell? ⟨w.heap.size + 1, 0, none⟩ = some (.int .u8 (x.r0.a.toNat : Int)) := (by first | (simp; done) | (simp [go_sem]; done) | go_simp)
      have k1 : ((w.alloc (.cells #[.int .i64 p, .int .i64 n, .slice A ms.length c] 29)).alloc (.cells #[.int .u8 (x.r0.a.toNat : Int), .int .u8 (x.r0.b.toNat : Int), .int .u8 (x.r0.c.toNat : Int), .int .u8 (x.r1.a.toNat : Int), .int .u8 (x.r1.b.toNat : Int), .int .u8 (x.r1.c.toNat : Int), .int .u8 (x.r2.a.toNat : Int), .int .u8 (x.r2.b.toNat : Int), .int .u8 (x.r2.c.toNat : Int)] 76)).cell? ⟨w.heap.size + 1, 1, none⟩ = some (.int .u8 (x.r0.b.toNat : Int)) := (by first | (simp; done) | (simp [go_sem]; done) | go_simp)
      have k2 : ((w.alloc (.cells #[.int .i64 p, .int .i64 n, .slice A ms.length c] 29)).alloc (.cells #[.int .u8 (x.r0.a.toNat : Int), .int .u8 (x.r0.b.toNat : Int), .int .u8 (x.r0.c.toNat : Int), .int .u8 (x.r1.a.toNat : Int), .int .u8 (x.r1.b.toNat : Int), .int .u8 (x.r1.c.toNat : Int), .int .u8 (x.r2.a.toNat : Int), .int .u8 (x.r2.b.toNat : Int), .int .u8 (x.r2.c.toNat : Int)] 76)).cell? ⟨w.heap.size + 1, 2, none⟩ = some (.int .u8 (x.r0.c.toNat : Int)) := (by first | (simp; done) | (simp [go_sem]; done) | go_simp)
      have k3 : ((w.alloc (.cells #[.int .i64 p, .int .i64 n, .slice A ms.length c] 29)).alloc (.cells #[.int .u8 (x.r0.a.toNat : Int), .int .u8 (x.r0.b.toNat : Int), .int .u8 (x.r0.c.toNat : Int), .int .u8 (x.r1.a.toNat : Int), .int .u8 (x.r1.b.toNat : Int), .int .u8 (x.r1.c.toNat : Int), .int .u8 (x.r2.a.toNat : Int), .int .u8 (x.r2.b.toNat : Int), .int .u8 (x.r2.c.toNat : Int)] 76)).cell? ⟨w.heap.size + 1, 3, none⟩ = some (.int .u8 (x.r1.a.toNat : Int)) := (by first | (simp; done) | (simp [go_sem]; done) | go_simp)
      have k4 : ((w.alloc (.cells #[.int .i64 p, .int .i64 n, .slice A ms.length c] 29)).alloc (.cells #[.int .u8 (x.r0.a.toNat : Int), .int .u8 (x.r0.b.toNat : Int), .int .u8 (x.r0.c.toNat : Int), .int .u8 (x.r1.a.toNat : Int), .int .u8 (x.r1.b.toNat : Int), .int .u8 (x.r1.c.toNat : Int), .int .u8 (x.r2.a.toNat : Int), .int .u8 (x.r2.b.toNat : Int), .int .u8 (x.r2.c.toNat : Int)] 76)).cell? ⟨w.heap.size + 1, 4, none⟩ = some (.int .u8 (x.r1.b.toNat : Int)) := (by first | (simp; done) | (simp [go_sem]; done) | go_simp)
      have k5 : ((w.alloc (.cells #[.int .i64 p, .int .i64 n, .slice A ms.length c] 29)).alloc (.cells #[.int .u8 (x.r0.a.toNat : Int), .int .u8 (x.r0.b.toNat : Int), .int .u8 (x.r0.c.toNat : Int), .int .u8 (x.r1.a.toNat : Int), .int .u8 (x.r1.b.toNat : Int), .int .u8 (x.r1.c.toNat : Int), .int .u8 (x.r2.a.toNat : Int), .int .u8 (x.r2.b.toNat : Int), .int .u8 (x.r2.c.toNat : Int)] 76)).cell? ⟨w.heap.size + 1, 5, none⟩ = some (.int .u8 (x.r1.c.toNat : Int)) := (by first | (simp; done) | (simp [go_sem]; done) | go_simp)
      have k6 : ((w.alloc (.cells #[.int .i64 p, .int .i64 n, .slice A ms.length c] 29)).alloc (.cells #[.int .u8 (x.r0.a.toNat : Int), .int .u8 (x.r0.b.toNat : Int), .int .u8 (x.r0.c.toNat : Int), .int .u8 (x.r1.a.toNat : Int), .int .u8 (x.r1.b.toNat : Int), .int .u8 (x.r1.c.toNat : Int), .int .u8 (x.r2.a.toNat : Int), .int .u8 (x.r2.b.toNat : Int), .int .u8 (x.r2.c.toNat : Int)] 76)).cell? ⟨w.heap.size + 1, 6, none⟩ = some (.int .u8 (x.r2.a.toNat : Int)) := (by first | (simp; done) | (simp [go_sem]; done) | go_simp)
      have k7 : ((w.alloc (.cells #[.int .i64 p, .int .i64 n, .slice A ms.length c] 29)).alloc (.cells #[.int .u8 (x.r0.a.toNat : Int), .int .u8 (x.r0.b.toNat : Int), .int .u8 (x.r0.c.toNat : Int), .int .u8 (x.r1.a.toNat : Int), .int .u8 (x.r1.b.toNat : Int), .int .u8 (x.r1.c.toNat : Int), .int .u8 (x.r2.a.toNat : Int), .int .u8 (x.r2.b.toNat : Int), .int .u8 (x.r2.c.toNat : Int)] 76)).cell? ⟨w.heap.size + 1, 7, none⟩ = some (.int .u8 (x.r2.b.toNat : Int)) := (by first | (simp; done) | (simp [go_sem]; done) | go_simp)
      have k8 : ((w.alloc (.cells #[.int .i64 p, .int .i64 n, .slice A ms.length c] 29)).alloc (.cells #[.int .u8 (x.r0.a.toNat : Int), .int .u8 (x.r0.b.toNat : Int), .int .u8 (x.r0.c.toNat : Int), .int .u8 (x.r1.a.toNat : Int), .int .u8 (x.r1.b.toNat : Int), .int .u8 (x.r1.c.toNat : Int), .int .u8 (x.r2.a.toNat : Int), .int .u8 (x.r2.b.toNat : Int), .int .u8 (x.r2.c.toNat : Int)] 76)).cell? ⟨w.heap.size + 1, 8, none⟩ = some (.int .u8 (x.r2.c.toNat : Int)) := (by first | (simp; done) | (simp [go_sem]; done) | go_simp)
      have r0 := cell_alloc (x2.keep (show (((w.alloc (.cells #[.int .i64 p, .int .i64 n, .slice A ms.length c] 29)).alloc (.cells #[.int .u8 (x.r0.a.toNat : Int), .int .u8 (x.r0.b.toNat : Int), .int .u8 (x.r0.c.toNat : Int), .int .u8 (x.r1.a.toNat : Int), .int .u8 (x.r1.b.toNat : Int), .int .u8 (x.r1.c.toNat : Int), .int .u8 (x.r2.a.toNat : Int), .int .u8 (x.r2.b.toNat : Int), .int .u8 (x.r2.c.toNat : Int)] 76)).alloc (.cells #[.int .i64 0, .int .i64 0, .slice none 0 0] 29)).cell? ⟨w.heap.size + 1 + 1, 0, none⟩ = some (.int .i64 0) from (by first | (simp; done) | (simp [go_sem]; done) | go_simp))) (.cells #[.int .i64 p, .int .i64 n, .slice none 0 0] 29)
      have r1 := cell_alloc (x2.keep (show (((w.alloc (.cells #[.int .i64 p, .int .i64 n, .slice A ms.length c] 29)).alloc (.cells #[.int .u8 (x.r0.a.toNat : Int), .int .u8 (x.r0.b.toNat : Int), .int .u8 (x.r0.c.toNat : Int), .int .u8 (x.r1.a.toNat : Int), .int .u8 (x.r1.b.toNat : Int), .int .u8 (x.r1.c.toNat : Int), .int .u8 (x.r2.a.toNat : Int), .int .u8 (x.r2.b.toNat : Int), .int .u8 (x.r2.c.toNat : Int)] 76)).alloc (.cells #[.int .i64 0, .int .i64 0, .slice none 0 0] 29)).cell? ⟨w.heap.size + 1 + 1, 1, none⟩ = some (.int .i64 0) from (by first | (simp; done) | (simp [go_sem]; done) | go_simp))) (.cells #[.int .i64 p, .int .i64 n, .slice none 0 0] 29)
      have r2 := cell_alloc (x2.keep (show (((w.alloc (.cells #[.int .i64 p, .int .i64 n, .slice A ms.length c] 29)).alloc (.cells #[.int .u8 (x.r0.a.toNat : Int), .int .u8 (x.r0.b.toNat : Int), .int .u8 (x.r0.c.toNat : Int), .int .u8 (x.r1.a.toNat : Int), .int .u8 (x.r1.b.toNat : Int), .int .u8 (x.r1.c.toNat : Int), .int .u8 (x.r2.a.toNat : Int), .int .u8 (x.r2.b.toNat : Int), .int .u8 (x.r2.c.toNat : Int)] 76)).alloc (.cells #[.int .i64 0, .int .i64 0, .slice none 0 0] 29)).cell? ⟨w.heap.size + 1 + 1, 2, none⟩ = some (.slice none 0 0) from (by first | (simp; done) | (simp [go_sem]; done) | go_simp))) (.cells #[.int .i64 p, .int .i64 n, .slice none 0 0] 29)
      have hbV : Below ((w.alloc (.cells #[.int .i64 p, .int .i64 n, .slice A ms.length c] 29)).alloc (.cells #[.int .u8 (x.r0.a.toNat : Int), .int .u8 (x.r0.b.toNat : Int), .int .u8 (x.r0.c.toNat : Int), .int .u8 (x.r1.a.toNat : Int), .int .u8 (x.r1.b.toNat : Int), .int .u8 (x.r1.c.toNat : Int), .int .u8 (x.r2.a.toNat : Int), .int .u8 (x.r2.b.toNat : Int), .int .u8 (x.r2.c.toNat : Int)] 76)).heap.size ((w.alloc (.cells #[.int .i64 p, .int .i64 n, .slice A ms.length c] 29)).alloc (.cells #[.int .u8 (x.r0.a.toNat : Int), .int .u8 (x.r0.b.toNat : Int), .int .u8 (x.r0.c.toNat : Int), .int .u8 (x.r1.a.toNat : Int), .int .u8 (x.r1.b.toNat : Int), .int .u8 (x.r1.c.toNat : Int), .int .u8 (x.r2.a.toNat : Int), .int .u8 (x.r2.b.toNat : Int), .int .u8 (x.r2.c.toNat : Int)] 76)) (x2.W.alloc (.cells #[.int .i64 p, .int .i64 n, .slice none 0 0] 29)) := (by repeat (first | (with_reducible assumption) | (with_reducible exact Below.refl _ _) | ((with_reducible refine Below.alloc ?_ ?_ _); rotate_left; (focus (first | omega | (simp; done) | (simp; omega)))) | (with_reducible refine Below.drew ?_) | ((with_reducible refine Below.setCell ?_ ?_ _); rotate_left; (focus (first | omega | (simp; done) | (simp; omega)))) | ((with_reducible refine below_hop (by assumption) ?_ ?_); rotate_left; (focus (first | omega | (simp; done) | (simp; omega)))) | ((with_reducible refine bel_later _ ?_ ?_); rotate_left; (focus (first | omega | (simp; done) | (simp; omega))))))
      have hwV : Below (((w.alloc (.cells #[.int .i64 p, .int .i64 n, .slice A ms.length c] 29)).alloc (.cells #[.int .u8 (x.r0.a.toNat : Int), .int .u8 (x.r0.b.toNat : Int), .int .u8 (x.r0.c.toNat : Int), .int .u8 (x.r1.a.toNat : Int), .int .u8 (x.r1.b.toNat : Int), .int .u8 (x.r1.c.toNat : Int), .int .u8 (x.r2.a.toNat : Int), .int .u8 (x.r2.b.toNat : Int), .int .u8 (x.r2.c.toNat : Int)] 76)).alloc (.cells #[.int .i64 0, .int .i64 0, .slice none 0 0] 29)).heap.size (((w.alloc (.cells #[.int .i64 p, .int .i64 n, .slice A ms.length c] 29)).alloc (.cells #[.int .u8 (x.r0.a.toNat : Int), .int .u8 (x.r0.b.toNat : Int), .int .u8 (x.r0.c.toNat : Int), .int .u8 (x.r1.a.toNat : Int), .int .u8 (x.r1.b.toNat : Int), .int .u8 (x.r1.c.toNat : Int), .int .u8 (x.r2.a.toNat : Int), .int .u8 (x.r2.b.toNat : Int), .int .u8 (x.r2.c.toNat : Int)] 76)).alloc (.cells #[.int .i64 0, .int .i64 0, .slice none 0 0] 29)) (x2.W.alloc (.cells #[.int .i64 p, .int .i64 n, .slice none 0 0] 29)) := below_alloc x2.ok _
      have rf : ∀ j, (x2.W.alloc (.cells #[.int .i64 p, .int .i64 n, .slice none 0 0] 29)).frozen? ⟨w.heap.size + 1 + 1, j, none⟩ = false := fun j => (hwV.frozen (p := ⟨w.heap.size + 1 + 1, j, none⟩) (by simp)).trans (by first | (simp; done) | (simp [go_sem]; done) | go_simp)
      have acc0 : Acc ((w.alloc (.cells #[.int .i64 p, .int .i64 n, .slice A ms.length c] 29)).alloc (.cells #[.int .u8 (x.r0.a.toNat : Int), .int .u8 (x.r0.b.toNat : Int), .int .u8 (x.r0.c.toNat : Int), .int .u8 (x.r1.a.toNat : Int), .int .u8 (x.r1.b.toNat : Int), .int .u8 (x.r1.c.toNat : Int), .int .u8 (x.r2.a.toNat : Int), .int .u8 (x.r2.b.toNat : Int), .int .u8 (x.r2.c.toNat : Int)] 76)) x2.W.heap.size (w.heap.size + 1 + 1) p n 76 (x2.W.alloc (.cells #[.int .i64 p, .int .i64 n, .slice none 0 0] 29)) none 0 (List.take 0 (conjL p n x ms)) := ⟨hbV, by omega, by omega, by simp, by simp, by simp, by simp, Kd.R_nil _ _ _ _ _, r0, r1, r2, rf 0, rf 1, rf 2, by omega⟩
      have hbw : Below w.heap.size w ((w.alloc (.cells #[.int .i64 p, .int .i64 n, .slice A ms.length c] 29)).alloc (.cells #[.int .u8 (x.r0.a.toNat : Int), .int .u8 (x.r0.b.toNat : Int), .int .u8 (x.r0.c.toNat : Int), .int .u8 (x.r1.a.toNat : Int), .int .u8 (x.r1.b.toNat : Int), .int .u8 (x.r1.c.toNat : Int), .int .u8 (x.r2.a.toNat : Int), .int .u8 (x.r2.b.toNat : Int), .int .u8 (x.r2.c.toNat : Int)] 76)) := (by repeat (first | (with_reducible assumption) | (with_reducible exact Below.refl _ _) | ((with_reducible refine Below.alloc ?_ ?_ _); rotate_left; (focus (first | omega | (simp; done) | (simp; omega)))) | (with_reducible refine Below.drew ?_) | ((with_reducible refine Below.setCell ?_ ?_ _); rotate_left; (focus (first | omega | (simp; done) | (simp; omega)))) | ((with_reducible refine below_hop (by assumption) ?_ ?_); rotate_left; (focus (first | omega | (simp; done) | (simp; omega)))) | ((with_reducible refine bel_later _ ?_ ?_); rotate_left; (focus (first | omega | (simp; done) | (simp; omega))))))
      clear r0 r1 r2 rf hwV hbV g0 g1 g2 ga hT hG hC1
      have HVL := Lib.hid hvl
      have HXL := Lib.hid hxl
      have HBW := Lib.hid hbw
      have HI := Lib.hid hi
      clear hvl hxl hbw hi
      generalize (x2.W.alloc (.cells #[.int .i64 p, .int .i64 n, .slice none 0 0] 29)) = V at *
      generalize x2.W.heap.size = ob at *
      clear x2
      generalize invM p n.toNat x.num = v at *
      generalize hw2 : ((w.alloc (.cells #[.int .i64 p, .int .i64 n, .slice A ms.length c] 29)).alloc (.cells #[.int .u8 (x.r0.a.toNat : Int), .int .u8 (x.r0.b.toNat : Int), .int .u8 (x.r0.c.toNat : Int), .int .u8 (x.r1.a.toNat : Int), .int .u8 (x.r1.b.toNat : Int), .int .u8 (x.r1.c.toNat : Int), .int .u8 (x.r2.a.toNat : Int), .int .u8 (x.r2.b.toNat : Int), .int .u8 (x.r2.c.toNat : Int)] 76)) = w2 at *
      generalize hrb : w.heap.size + 1 + 1 = rb at *
      generalize hxb : w.heap.size + 1 = xb at *
      generalize hgb : w.heap.size = gb at *
      go_loopg [31] ms.length (fun k v31 w' => ∃ (j : Nat) (B : Option Addr) (cb : Nat), j + k = ms.length ∧ v31 = .int .i64 j ∧ Acc w2 ob rb p n 76 w' B cb ((conjL p n x ms).take j))
      case atStart => exact ⟨0, none, 0, by omega, rfl, acc0⟩
      case round =>
        clear acc0
        obtain ⟨j, B, cb, hjk, rfl, acc⟩ := hrel
        have HJK := Lib.hid hjk
        clear hjk
        by_cases hlt : j < ms.length
        · obtain ⟨b, o, hA, qv0, qv1, qv2, qv3, qv4, qv5, qv6, qv7, qv8⟩ := kM_at hC0 _ hlt
          subst hA
          have q0 := pw_cell_below acc.bel qv0
          have q1 := pw_cell_below acc.bel qv1
          have q2 := pw_cell_below acc.bel qv2
          have q3 := pw_cell_below acc.bel qv3
          have q4 := pw_cell_below acc.bel qv4
          have q5 := pw_cell_below acc.bel qv5
          have q6 := pw_cell_below acc.bel qv6
          have q7 := pw_cell_below acc.bel qv7
          have q8 := pw_cell_below acc.bel qv8
          have u2 := pw_cell_below acc.bel h2
          have hml := (matB_le (HMAT.out j hlt)).1
          have hT1 := fun W => HI.out W
          have hT2 := fun W => turned_c hp hp' hn1 hn3 HVL.out hml HXL.out W
          have HT := Lib.hid (show (conjL p n x ms).take (j + 1) = (conjL p n x ms).take j ++ [turnM p n v (ms.getD j zM) x] from HTK.out j hlt)
          have hll : ((conjL p n x ms).take j).length = j := by rw [List.length_take, hcl]; omega
          have HLL := Lib.hid hll
          clear hml hll
          generalize (conjL p n x ms).take j = fs at *
          generalize ms.getD j zM = m at *
          generalize turnM p n v m x = t2 at *
          have hj0 : (0 : Int) ≤ j := by omega
          have hj1 : (j : Int) < ms.length := by omega
          have hjn : ((j : Int)).toNat = j := by omega
          have hab : some wr.heap.size ≠ (Value.slice B fs.length cb).ownBlock := fun e => Nat.lt_irrefl _ (Kd.R_lt acc.R _ e.symm)
          have acc2 := acc.below (below_alloc (Below.refl _ wr) (.cells #[.int .u8 (m.r0.a.toNat : Int), .int .u8 (m.r0.b.toNat : Int), .int .u8 (m.r0.c.toNat : Int), .int .u8 (m.r1.a.toNat : Int), .int .u8 (m.r1.b.toNat : Int), .int .u8 (m.r1.c.toNat : Int), .int .u8 (m.r2.a.toNat : Int), .int .u8 (m.r2.b.toNat : Int), .int .u8 (m.r2.c.toNat : Int)] 76))
          obtain ⟨n0, n1, n2, n3, n4, n5, n6, n7, n8, _⟩ := nine_alloc wr m 76
          have u0 := pw_cell_below acc2.bel h0
          have u1 := pw_cell_below acc2.bel h1
          have zh := World.block_lt_of_cell? _ _ h0
          have zx := World.block_lt_of_cell? _ _ k0
          have zb0 := World.block_lt_of_cell? _ _ n0
          have uk0 := pw_cell_below acc2.bel k0
          have uk1 := pw_cell_below acc2.bel k1
          have uk2 := pw_cell_below acc2.bel k2
          have uk3 := pw_cell_below acc2.bel k3
          have uk4 := pw_cell_below acc2.bel k4
          have uk5 := pw_cell_below acc2.bel k5
          have uk6 := pw_cell_below acc2.bel k6
          have uk7 := pw_cell_below acc2.bel k7
          have uk8 := pw_cell_below acc2.bel k8
          have o2 := acc2.o2
          have o3 := acc2.o3
          have zlo := acc2.lo
          have zlr := acc2.lr
          have zsz := acc2.bel.size
          simp only [] at zh zx zb0
          go_wp2
          have ACC := Lib.hid acc2
          clear acc acc2 q0 q1 q2 q3 q4 q5 q6 q7 q8 u2 qv0 qv1 qv2 qv3 qv4 qv5 qv6 qv7 qv8
          generalize wr.alloc (.cells #[.int .u8 (m.r0.a.toNat : Int), .int .u8 (m.r0.b.toNat : Int), .int .u8 (m.r0.c.toNat : Int), .int .u8 (m.r1.a.toNat : Int), .int .u8 (m.r1.b.toNat : Int), .int .u8 (m.r1.c.toNat : Int), .int .u8 (m.r2.a.toNat : Int), .int .u8 (m.r2.b.toNat : Int), .int .u8 (m.r2.c.toNat : Int)] 76) = V2 at *
          generalize wr.heap.size = ab at *
          refine start_ (n := 19) (S := fun w' => w'.cell? ⟨gb, 0, none⟩ = some (.int .i64 p) ∧ w'.cell? ⟨gb, 1, none⟩ = some (.int .i64 n) ∧ w'.cell? ⟨xb, 0, none⟩ = some (.int .u8 (x.r0.a.toNat : Int)) ∧ w'.cell? ⟨xb, 1, none⟩ = some (.int .u8 (x.r0.b.toNat : Int)) ∧ w'.cell? ⟨xb, 2, none⟩ = some (.int .u8 (x.r0.c.toNat : Int)) ∧ w'.cell? ⟨xb, 3, none⟩ = some (.int .u8 (x.r1.a.toNat : Int)) ∧ w'.cell? ⟨xb, 4, none⟩ = some (.int .u8 (x.r1.b.toNat : Int)) ∧ w'.cell? ⟨xb, 5, none⟩ = some (.int .u8 (x.r1.c.toNat : Int)) ∧ w'.cell? ⟨xb, 6, none⟩ = some (.int .u8 (x.r2.a.toNat : Int)) ∧ w'.cell? ⟨xb, 7, none⟩ = some (.int .u8 (x.r2.b.toNat : Int)) ∧ w'.cell? ⟨xb, 8, none⟩ = some (.int .u8 (x.r2.c.toNat : Int)) ∧ w'.cell? ⟨ab, 0, none⟩ = some (.int .u8 (m.r0.a.toNat : Int)) ∧ w'.cell? ⟨ab, 1, none⟩ = some (.int .u8 (m.r0.b.toNat : Int)) ∧ w'.cell? ⟨ab, 2, none⟩ = some (.int .u8 (m.r0.c.toNat : Int)) ∧ w'.cell? ⟨ab, 3, none⟩ = some (.int .u8 (m.r1.a.toNat : Int)) ∧ w'.cell? ⟨ab, 4, none⟩ = some (.int .u8 (m.r1.b.toNat : Int)) ∧ w'.cell? ⟨ab, 5, none⟩ = some (.int .u8 (m.r1.c.toNat : Int)) ∧ w'.cell? ⟨ab, 6, none⟩ = some (.int .u8 (m.r2.a.toNat : Int)) ∧ w'.cell? ⟨ab, 7, none⟩ = some (.int .u8 (m.r2.b.toNat : Int)) ∧ w'.cell? ⟨ab, 8, none⟩ = some (.int .u8 (m.r2.c.toNat : Int)) ∧ w'.cell? ⟨ob, 2, none⟩ = some (.slice B fs.length cb)) (ds := [18]) #[false, false, false, false, false, false, false, false, false, false, false, false, false, false, false, false, false, false, false] (by kernel_rfl) rfl rfl ⟨u0, u1, uk0, uk1, uk2, uk3, uk4, uk5, uk6, uk7, uk8, n0, n1, n2, n3, n4, n5, n6, n7, n8, o2⟩ (fun hHeld => ?_)
          refine pure_ (i := 0) (N := some 35) (v := ?_) (a' := ?_) #[true, false, false, false, false, false, false, false, false, false, false, false, false, false, false, false, false, false, false] rfl rfl (by kernel_rfl) (fun _ _ _ h => h) (Or.inl ⟨by rfl, ?_⟩) ?_ ?_
          rotate_left
          · intro w'
            go_simp
            with_reducible rfl
          rotate_left
          · simp only [Act.put, List.setIfInBounds_toArray, List.set_cons_zero, List.set_cons_succ, i64_w, i32_w]
            rfl
          refine pure_ (i := 2) (N := some 37) (v := ?_) (a' := ?_) #[true, false, true, false, false, false, false, false, false, false, false, false, false, false, false, false, false, false, false] rfl rfl (by kernel_rfl) (fun _ _ _ h => h) (Or.inl ⟨by rfl, ?_⟩) ?_ ?_
          rotate_left
          · intro w'
            go_simp
            with_reducible rfl
          rotate_left
          · simp only [Act.put, List.setIfInBounds_toArray, List.set_cons_zero, List.set_cons_succ, i64_w, i32_w]
            rfl
          refine pure_ (i := 4) (N := some 39) (v := ?_) (a' := ?_) #[true, false, true, false, true, false, false, false, false, false, false, false, false, false, false, false, false, false, false] rfl rfl (by kernel_rfl) (fun _ _ _ h => h) (Or.inl ⟨by rfl, ?_⟩) ?_ ?_
          rotate_left
          · intro w'
            go_simp
            with_reducible rfl
          rotate_left
          · simp only [Act.put, List.setIfInBounds_toArray, List.set_cons_zero, List.set_cons_succ, i64_w, i32_w]
            rfl
          refine pure_ (i := 6) (N := some 41) (v := ?_) (a' := ?_) #[true, false, true, false, true, false, true, false, false, false, false, false, false, false, false, false, false, false, false] rfl rfl (by kernel_rfl) (fun _ _ _ h => h) (Or.inl ⟨by rfl, ?_⟩) ?_ ?_
          rotate_left
          · intro w'
            go_simp
            with_reducible rfl
          rotate_left
          · simp only [Act.put, List.setIfInBounds_toArray, List.set_cons_zero, List.set_cons_succ, i64_w, i32_w]
            rfl
          refine pure_ (i := 8) (N := some 43) (v := ?_) (a' := ?_) #[true, false, true, false, true, false, true, false, true, false, false, false, false, false, false, false, false, false, false] rfl rfl (by kernel_rfl) (fun _ _ _ h => h) (Or.inl ⟨by rfl, ?_⟩) ?_ ?_
          rotate_left
          · intro w'
            go_simp
            with_reducible rfl
          rotate_left
          · simp only [Act.put, List.setIfInBounds_toArray, List.set_cons_zero, List.set_cons_succ, i64_w, i32_w]
            rfl
          refine take_ (i := 1) (N := some 36) (v := ?_) (a' := ?_) #[true, true, true, false, true, false, true, false, true, false, false, false, false, false, false, false, false, false, false] rfl rfl (by kernel_rfl) (fun _ _ _ h => h) (Or.inl ⟨by rfl, ?_⟩) hHeld ?_ ?_
          rotate_left
          · rintro w' ⟨s0, s1, s2, s3, s4, s5, s6, s7, s8, s9, s10, s11, s12, s13, s14, s15, s16, s17, s18, s19, s20⟩
            go_simp
            with_reducible rfl
          rotate_left
          · simp only [Act.put, List.setIfInBounds_toArray, List.set_cons_zero, List.set_cons_succ, i64_w, i32_w]
            rfl
          refine take_ (i := 3) (N := some 38) (v := ?_) (a' := ?_) #[true, true, true, true, true, false, true, false, true, false, false, false, false, false, false, false, false, false, false] rfl rfl (by kernel_rfl) (fun _ _ _ h => h) (Or.inl ⟨by rfl, ?_⟩) hHeld ?_ ?_
          rotate_left
          · rintro w' ⟨s0, s1, s2, s3, s4, s5, s6, s7, s8, s9, s10, s11, s12, s13, s14, s15, s16, s17, s18, s19, s20⟩
            go_simp
            with_reducible rfl
          rotate_left
          · simp only [Act.put, List.setIfInBounds_toArray, List.set_cons_zero, List.set_cons_succ, i64_w, i32_w]
            rfl
          refine take_ (i := 5) (N := some 40) (v := ?_) (a' := ?_) #[true, true, true, true, true, true, true, false, true, false, false, false, false, false, false, false, false, false, false] rfl rfl (by kernel_rfl) (fun _ _ _ h => h) (Or.inl ⟨by rfl, ?_⟩) hHeld ?_ ?_
          rotate_left
          · rintro w' ⟨s0, s1, s2, s3, s4, s5, s6, s7, s8, s9, s10, s11, s12, s13, s14, s15, s16, s17, s18, s19, s20⟩
            go_simp
            with_reducible rfl
          rotate_left
          · simp only [Act.put, List.setIfInBounds_toArray, List.set_cons_zero, List.set_cons_succ, i64_w, i32_w]
            rfl
          refine take_ (i := 7) (N := some 42) (v := ?_) (a' := ?_) #[true, true, true, true, true, true, true, true, true, false, false, false, false, false, false, false, false, false, false] rfl rfl (by kernel_rfl) (fun _ _ _ h => h) (Or.inl ⟨by rfl, ?_⟩) hHeld ?_ ?_
          rotate_left
          · rintro w' ⟨s0, s1, s2, s3, s4, s5, s6, s7, s8, s9, s10, s11, s12, s13, s14, s15, s16, s17, s18, s19, s20⟩
            go_simp
            with_reducible rfl
          rotate_left
          · simp only [Act.put, List.setIfInBounds_toArray, List.set_cons_zero, List.set_cons_succ, i64_w, i32_w]
            rfl
          refine take_ (i := 9) (N := some 44) (v := ?_) (a' := ?_) #[true, true, true, true, true, true, true, true, true, true, false, false, false, false, false, false, false, false, false] rfl rfl (by kernel_rfl) (fun _ _ _ h => h) (Or.inl ⟨by rfl, ?_⟩) hHeld ?_ ?_
          rotate_left
          · rintro w' ⟨s0, s1, s2, s3, s4, s5, s6, s7, s8, s9, s10, s11, s12, s13, s14, s15, s16, s17, s18, s19, s20⟩
            go_simp
            with_reducible rfl
          rotate_left
          · simp only [Act.put, List.setIfInBounds_toArray, List.set_cons_zero, List.set_cons_succ, i64_w, i32_w]
            rfl
          refine take_ (i := 10) (N := some 45) (v := ?_) (a' := ?_) #[true, true, true, true, true, true, true, true, true, true, true, false, false, false, false, false, false, false, false] rfl rfl (by kernel_rfl) (fun _ _ _ h => h) (Or.inl ⟨by rfl, ?_⟩) hHeld ?_ ?_
          rotate_left
          · rintro w' ⟨s0, s1, s2, s3, s4, s5, s6, s7, s8, s9, s10, s11, s12, s13, s14, s15, s16, s17, s18, s19, s20⟩
            go_simp
            with_reducible rfl
          rotate_left
          · simp only [Act.put, List.setIfInBounds_toArray, List.set_cons_zero, List.set_cons_succ, i64_w, i32_w]
            rfl
          refine take_ (i := 12) (N := some 47) (v := ?_) (a' := ?_) #[true, true, true, true, true, true, true, true, true, true, true, false, true, false, false, false, false, false, false] rfl rfl (by kernel_rfl) (fun _ _ _ h => h) (Or.inl ⟨by rfl, ?_⟩) hHeld ?_ ?_
          rotate_left
          · rintro w' ⟨s0, s1, s2, s3, s4, s5, s6, s7, s8, s9, s10, s11, s12, s13, s14, s15, s16, s17, s18, s19, s20⟩
            go_simp
            with_reducible rfl
          rotate_left
          · simp only [Act.put, List.setIfInBounds_toArray, List.set_cons_zero, List.set_cons_succ, i64_w, i32_w]
            rfl
          refine take_ (i := 13) (N := some 48) (v := ?_) (a' := ?_) #[true, true, true, true, true, true, true, true, true, true, true, false, true, true, false, false, false, false, false] rfl rfl (by kernel_rfl) (fun _ _ _ h => h) (Or.inl ⟨by rfl, ?_⟩) hHeld ?_ ?_
          rotate_left
          · rintro w' ⟨s0, s1, s2, s3, s4, s5, s6, s7, s8, s9, s10, s11, s12, s13, s14, s15, s16, s17, s18, s19, s20⟩
            go_simp
            with_reducible rfl
          rotate_left
          · simp only [Act.put, List.setIfInBounds_toArray, List.set_cons_zero, List.set_cons_succ, i64_w, i32_w]
            rfl
          refine one_ (i := 11) (N := some 46) #[true, true, true, true, true, true, true, true, true, true, true, true, true, true, false, false, false, false, false] rfl rfl (by kernel_rfl) (by decide) (fun K hK => ?_)
          refine goes_ Try.func107 (by kernel_rfl) rfl #[.int .i64 p, .int .i64 n, .agg #[.int .u8 (x.r0.a.toNat : Int), .int .u8 (x.r0.b.toNat : Int), .int .u8 (x.r0.c.toNat : Int), .int .u8 (x.r1.a.toNat : Int), .int .u8 (x.r1.b.toNat : Int), .int .u8 (x.r1.c.toNat : Int), .int .u8 (x.r2.a.toNat : Int), .int .u8 (x.r2.b.toNat : Int), .int .u8 (x.r2.c.toNat : Int)]] (by rfl) rfl rfl (by simp only [List.map_toArray, List.map_cons, List.map_nil]; rfl) ?_
          with_reducible refine (hT1 _).mono ?_
          rintro e xw ⟨rfl, hbx⟩
          refine ⟨_, rfl, ?_⟩
          have hqx := below_undrewC hbx
          refine hK.out _ _ ⟨pw_cell_below hqx u0, pw_cell_below hqx u1, pw_cell_below hqx uk0, pw_cell_below hqx uk1, pw_cell_below hqx uk2, pw_cell_below hqx uk3, pw_cell_below hqx uk4, pw_cell_below hqx uk5, pw_cell_below hqx uk6, pw_cell_below hqx uk7, pw_cell_below hqx uk8, pw_cell_below hqx n0, pw_cell_below hqx n1, pw_cell_below hqx n2, pw_cell_below hqx n3, pw_cell_below hqx n4, pw_cell_below hqx n5, pw_cell_below hqx n6, pw_cell_below hqx n7, pw_cell_below hqx n8, pw_cell_below hqx o2⟩ (fun hHeld => ?_)
          clear hK K
          refine norm_ (a' := ?_) ?_ ?_
          rotate_left
          · show Act.put _ (some 46) _ = _
            simp only [Act.put, List.setIfInBounds_toArray, List.set_cons_zero, List.set_cons_succ, i64_w, i32_w]
            rfl
          refine one_ (i := 14) (N := some 49) #[true, true, true, true, true, true, true, true, true, true, true, true, true, true, true, false, false, false, false] rfl rfl (by kernel_rfl) (by decide) (fun K hK => ?_)
          refine goes_ Try.func106 (by kernel_rfl) rfl #[.int .i64 p, .int .i64 n, .agg #[.int .u8 (v.r0.a.toNat : Int), .int .u8 (v.r0.b.toNat : Int), .int .u8 (v.r0.c.toNat : Int), .int .u8 (v.r1.a.toNat : Int), .int .u8 (v.r1.b.toNat : Int), .int .u8 (v.r1.c.toNat : Int), .int .u8 (v.r2.a.toNat : Int), .int .u8 (v.r2.b.toNat : Int), .int .u8 (v.r2.c.toNat : Int)], .agg #[.int .u8 (m.r0.a.toNat : Int), .int .u8 (m.r0.b.toNat : Int), .int .u8 (m.r0.c.toNat : Int), .int .u8 (m.r1.a.toNat : Int), .int .u8 (m.r1.b.toNat : Int), .int .u8 (m.r1.c.toNat : Int), .int .u8 (m.r2.a.toNat : Int), .int .u8 (m.r2.b.toNat : Int), .int .u8 (m.r2.c.toNat : Int)], .agg #[.int .u8 (x.r0.a.toNat : Int), .int .u8 (x.r0.b.toNat : Int), .int .u8 (x.r0.c.toNat : Int), .int .u8 (x.r1.a.toNat : Int), .int .u8 (x.r1.b.toNat : Int), .int .u8 (x.r1.c.toNat : Int), .int .u8 (x.r2.a.toNat : Int), .int .u8 (x.r2.b.toNat : Int), .int .u8 (x.r2.c.toNat : Int)]] (by rfl) rfl rfl (by simp only [List.map_toArray, List.map_cons, List.map_nil]; rfl) ?_
          with_reducible refine (hT2 _).mono ?_
          rintro e yw ⟨rfl, hby⟩
          refine ⟨_, rfl, ?_⟩
          have hqy := hqx.trans (hby.mono hqx.size)
          have ACCY := Lib.hid (ACC.out.below hqy)
          have yo2 := ACCY.out.o2
          have yo3 := ACCY.out.o3
          refine hK.out _ _ ⟨pw_cell_below hqy u0, pw_cell_below hqy u1, pw_cell_below hqy uk0, pw_cell_below hqy uk1, pw_cell_below hqy uk2, pw_cell_below hqy uk3, pw_cell_below hqy uk4, pw_cell_below hqy uk5, pw_cell_below hqy uk6, pw_cell_below hqy uk7, pw_cell_below hqy uk8, pw_cell_below hqy n0, pw_cell_below hqy n1, pw_cell_below hqy n2, pw_cell_below hqy n3, pw_cell_below hqy n4, pw_cell_below hqy n5, pw_cell_below hqy n6, pw_cell_below hqy n7, pw_cell_below hqy n8, pw_cell_below hqy o2⟩ (fun hHeld => ?_)
          clear hK K
          refine norm_ (a' := ?_) ?_ ?_
          rotate_left
          · show Act.put _ (some 49) _ = _
            simp only [Act.put, List.setIfInBounds_toArray, List.set_cons_zero, List.set_cons_succ, i64_w, i32_w]
            rfl
          refine one_ (i := 15) (N := some 50) #[true, true, true, true, true, true, true, true, true, true, true, true, true, true, true, true, false, false, false] rfl rfl (by kernel_rfl) (by decide) (fun K hK => ?_)
          refine value_ (w1 := ?_) (v := ?_) (by rfl) rfl ?_ ?_
          rotate_left 2
          · go_simp
            constructor
            · rfl
            · rfl
          refine hK.out _ _ ⟨cell_alloc (pw_cell_below hqy u0) _, cell_alloc (pw_cell_below hqy u1) _, cell_alloc (pw_cell_below hqy uk0) _, cell_alloc (pw_cell_below hqy uk1) _, cell_alloc (pw_cell_below hqy uk2) _, cell_alloc (pw_cell_below hqy uk3) _, cell_alloc (pw_cell_below hqy uk4) _, cell_alloc (pw_cell_below hqy uk5) _, cell_alloc (pw_cell_below hqy uk6) _, cell_alloc (pw_cell_below hqy uk7) _, cell_alloc (pw_cell_below hqy uk8) _, cell_alloc (pw_cell_below hqy n0) _, cell_alloc (pw_cell_below hqy n1) _, cell_alloc (pw_cell_below hqy n2) _, cell_alloc (pw_cell_below hqy n3) _, cell_alloc (pw_cell_below hqy n4) _, cell_alloc (pw_cell_below hqy n5) _, cell_alloc (pw_cell_below hqy n6) _, cell_alloc (pw_cell_below hqy n7) _, cell_alloc (pw_cell_below hqy n8) _, cell_alloc (pw_cell_below hqy o2) _⟩ (fun hHeld => ?_)
          clear hK K
          refine norm_ (a' := ?_) ?_ ?_
          rotate_left
          · show Act.put _ (some 50) _ = _
            simp only [Act.put, List.setIfInBounds_toArray, List.set_cons_zero, List.set_cons_succ, i64_w, i32_w]
            rfl
          refine one_ (i := 16) (N := some 51) #[true, true, true, true, true, true, true, true, true, true, true, true, true, true, true, true, true, false, false] rfl rfl (by kernel_rfl) (by decide) (fun K hK => ?_)
          refine Kd.R_append_step kM (w0 := yw) (W := yw) w2.heap.size (by rfl) (.tmp 36) (.tmp 50) 27 76 (.agg #[.int .u8 0, .int .u8 0, .int .u8 0, .int .u8 0, .int .u8 0, .int .u8 0, .int .u8 0, .int .u8 0, .int .u8 0]) 9 rfl Try.underlying27 infoM rfl (by decide) (by decide) (.slice B fs.length cb) fs t2 t2.cs (fun k => k ≠ ob ∧ k ≠ rb) (fun _ => False) (by rfl) rfl rfl (fun _ hk => hk.elim) (fun k hk => ⟨by have := hqy.size; omega, by have := hqy.size; omega⟩) ACCY.out.R (Below.refl _ _) ACCY.out.bel.size (by have := HLL.out; omega) ?_
          intro v1 w1 hR6 hB6 hg6 hat6
          obtain ⟨B6, c6, rfl, hl6, hC6⟩ := Kd.R_reads hR6
          have wo2 := far_cell hg6 yo2 ACCY.out.own
          have wo3 := far_frozen hg6 yo3 ACCY.out.lo ACCY.out.own
          have hww := ACCY.out.bel.trans hB6
          refine hK.out _ _ ⟨pw_cell_below hww h0, pw_cell_below hww h1, pw_cell_below hww k0, pw_cell_below hww k1, pw_cell_below hww k2, pw_cell_below hww k3, pw_cell_below hww k4, pw_cell_below hww k5, pw_cell_below hww k6, pw_cell_below hww k7, pw_cell_below hww k8, far_cell hg6 (pw_cell_below hqy n0) hab, far_cell hg6 (pw_cell_below hqy n1) hab, far_cell hg6 (pw_cell_below hqy n2) hab, far_cell hg6 (pw_cell_below hqy n3) hab, far_cell hg6 (pw_cell_below hqy n4) hab, far_cell hg6 (pw_cell_below hqy n5) hab, far_cell hg6 (pw_cell_below hqy n6) hab, far_cell hg6 (pw_cell_below hqy n7) hab, far_cell hg6 (pw_cell_below hqy n8) hab, wo2⟩ (fun hHeld => ?_)
          clear hK K
          refine norm_ (a' := ?_) ?_ ?_
          rotate_left
          · show Act.put _ (some 51) _ = _
            simp only [Act.put, List.setIfInBounds_toArray, List.set_cons_zero, List.set_cons_succ, i64_w, i32_w]
            rfl
          refine pure_ (i := 17) (N := some 52) (v := ?_) (a' := ?_) #[true, true, true, true, true, true, true, true, true, true, true, true, true, true, true, true, true, true, false] rfl rfl (by kernel_rfl) (fun _ _ _ h => h) (Or.inl ⟨by rfl, ?_⟩) ?_ ?_
          rotate_left
          · intro w'
            go_simp
            with_reducible rfl
          rotate_left
          · simp only [Act.put, List.setIfInBounds_toArray, List.set_cons_zero, List.set_cons_succ, i64_w, i32_w]
            rfl
          refine last_ (i := 18) (N := none) #[true, true, true, true, true, true, true, true, true, true, true, true, true, true, true, true, true, true, true] rfl rfl (by kernel_rfl) (by decide) (fun K hK => ?_)
          refine skip_ (w1 := ?_) (by rfl) rfl ?_ ?_
          rotate_left
          · go_simp
            rfl
          refine hK.out _ _ ?_
          clear hK K
          refine done_ (by kernel_rfl) ?_
          go_wp2
          go_roundg (gk - 1)
          case measure => have := HJK.out; omega
          case rel =>
            rw [List.length_append] at hR6
            exact ⟨j + 1, B6, c6, by have := HJK.out; omega, by go_num, by rw [HT.out]; exact ACCY.out.put hR6 hB6 hg6⟩
        · have hje : j = ms.length := by have := HJK.out; omega
          subst hje
          rw [show (conjL p n x ms).take ms.length = conjL p n x ms by rw [← hcl, List.take_length]] at acc
          have HL48 := Lib.hid (show (conjL p n x ms).length ≤ 4194304 by rw [hcl]; omega)
          clear hcl
          generalize conjL p n x ms = fs at *
          have o2 := acc.o2
          have ACC1 := Lib.hid acc
          clear acc
          go_wp2_with (go_at_call 108; refine (Srt.sort_mats ACC1.out.R HL48.out).mono ?_; rintro e8 w8 ⟨rfl, ys, hperm, hs8, hR8, hg8⟩; have hlen := hperm.length_eq; have hys := sortM_of hperm (srt_of_getD hs8); have acc8 := ACC1.out.swapC hlen hg8 hR8; clear hperm hs8; rw [hys] at acc8; have p0 := acc8.o0; have p1 := acc8.o1; have p2 := acc8.o2; have d0 := acc8.r0; have d1 := acc8.r1; have d2 := acc8.r2; have d3 := acc8.r3; have d4 := acc8.r4; have d5 := acc8.r5; have zo8 := acc8.lo; have zr8 := acc8.lr; have hor := acc8.hne; have hor2 := acc8.hne.symm; clear hlen hys)
          refine bodyPost_ret (v := .tuple #[.agg #[.int .i64 p, .int .i64 n, .slice B (sortM fs).length cb], .int .i64 0]) (by simp [results, Try.results53, go_sem, d0, d1, d2, hor, hor2]) rfl ?_
          have hz2 : gb ≤ rb := by omega
          have hzz : gb ≤ w2.heap.size := by omega
          refine ⟨B, cb, rfl, ?_, ?_⟩
          · exact Kd.R_lower (Kd.R_mono (Kd.R_far (Kd.R_far (Kd.R_far acc8.R (fun k hk => hk.2) _) (fun k hk => hk.2) _) (fun k hk => hk.2) _) (fun _ _ => trivial)) (by omega)
          · rw [hgb]
            exact (((HBW.out.trans (acc8.bel.mono (by omega))).setCell (p := ⟨rb, 0, none⟩) hz2 _).setCell (p := ⟨rb, 1, none⟩) hz2 _).setCell (p := ⟨rb, 2, none⟩) hz2 _
end Go.Proofs.Ytgidpgfkbgbhmaa
