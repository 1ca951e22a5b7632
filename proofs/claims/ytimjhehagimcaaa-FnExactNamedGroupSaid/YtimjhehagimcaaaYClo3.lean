/- The walk of the program's closure of matrices (closed); no condition. -/
import Derived.Test.YtimjhehagimcaaaYE1
import Derived.Test.YtimjhehagimcaaaYClo2
import Derived.Test.YtimjhehagimcaaaYSetM
import Derived.Test.YtimjhehagimcaaaYSortM
import Derived.Deep.RegionHeld3
set_option linter.unusedVariables false
set_option linter.unusedSimpArgs false
namespace Go.Proofs.Ytimjhehagimcaaa
open Go.RowKit Go.Proofs.YtimjhehagimcaaaW.PrintWords
attribute [local go_sem] Later.cell Later.frozen Later.lt Later.lt_add Later.le Later.le_add Later.ne Later.ne' add_at
attribute [local go_sem 2000] run_eqM guardM
attribute [local go_sem] later_drew2 later_drewf2
theorem SetAt.congr {w : World} {b n n' : Nat} {S S' : List M9} (h : SetAt w b n S) (hn : n ≤ n') (hs : ∀ e, e ∈ S ↔ e ∈ S') : SetAt w b n' S' := by
  obtain ⟨D, h1, h2⟩ := h
  refine ⟨D, h1.mono hn, fun e => ?_⟩
  rw [h2 e]
  have : decide (e ∈ S) = decide (e ∈ S') := decide_eq_decide.2 (hs e)
  rw [this]
theorem add_blk (a : Addr) (i : Nat) : (a.add i).block = a.block := by unfold Addr.add; split <;> rfl
theorem grown_setC (W : World) (a : Addr) (v : Value) : W.grownBy (W.setCell a v) (some a.block) := ⟨rfl, rfl, rfl, by simp, fun i _ hi => Below.heap_setCell W a v i (fun e => hi (by rw [e]))⟩
theorem C_grownM {w w' : World} {B : Option Addr} {n : Nat} {xs : List M9} {row : Option Nat} (h : kM.C w B n xs) (hg : w.grownBy w' row) (hne : ∀ a, B = some a → some a.block ≠ row) : kM.C w' B n xs :=
  ⟨h.1, h.2.1, fun hp => by
    obtain ⟨ad, e, hc⟩ := h.2.2 hp
    refine ⟨ad, e, fun j p hj => ?_⟩
    obtain ⟨cs, h1, h2, h3⟩ := hc j p hj
    exact ⟨cs, h1, h2, fun i u hu => far_cell hg (h3 i u hu) (by rw [add_blk]; exact hne ad e)⟩⟩
/-- The row's own elements have been moved about. -/
theorem Acc.swap {w0 W W' : World} {ob rb : Nat} {p n : Int} {E : TypeId} {B : Option Addr} {cb : Nat} {xs ys : List M9} (h : Acc w0 ob rb p n E W B cb xs) (hl : ys.length = xs.length) (hg : W.grownBy W' (Value.slice B xs.length cb).ownBlock) (hR : kM.R E W' w0.heap.size (fun k => k ≠ ob ∧ k ≠ rb) (.slice B xs.length cb) ys) : Acc w0 ob rb p n E W' B cb ys :=
  ⟨⟨hg.os.trans h.bel.os, hg.tape.trans h.bel.tape, hg.output.trans h.bel.output, Nat.le_trans h.bel.size hg.size, fun k hk => (hg.block k (Nat.lt_of_lt_of_le hk h.bel.size) (fun e => by have := Kd.R_base h.R _ e.symm; omega)).trans (h.bel.block k hk)⟩, h.hrb, h.hob, far_cell hg h.o0 h.own, far_cell hg h.o1 h.own, by rw [hl]; exact far_cell hg h.o2 h.own, far_frozen hg h.o3 h.lo h.own, by rw [hl]; exact hR, far_cell hg h.r0 h.ownr, far_cell hg h.r1 h.ownr, far_cell hg h.r2 h.ownr, far_frozen hg h.r3 h.lr h.ownr, far_frozen hg h.r4 h.lr h.ownr, far_frozen hg h.r5 h.lr h.ownr, h.hne⟩
/-- The list of generators beside a group in the making: it is read, and kept. -/
structure Gens (W : World) (lo : Nat) (B1 : Option Addr) (gs : List M9) (v : Value) : Prop where
  C : kM.C W B1 gs.length gs
  lt : ∀ a, B1 = some a → lo ≤ a.block ∧ a.block < W.heap.size ∧ some a.block ≠ v.ownBlock
theorem Gens.below {W W' : World} {lo : Nat} {B1 : Option Addr} {gs : List M9} {v : Value} (h : Gens W lo B1 gs v) (hb : Below W.heap.size W W') : Gens W' lo B1 gs v :=
  ⟨Kd.C_below h.C hb, fun a e => ⟨(h.lt a e).1, Nat.lt_of_lt_of_le (h.lt a e).2.1 hb.size, (h.lt a e).2.2⟩⟩
theorem Gens.put {W w1 : World} {lo ob : Nat} {B1 : Option Addr} {gs : List M9} {v v1 u : Value} (h : Gens W lo B1 gs v) (hg : W.grownBy w1 v.ownBlock) (hat : v1.ownBlock = v.ownBlock ∨ ∃ b, v1.ownBlock = some b ∧ W.heap.size ≤ b) (hob : ob < lo) (j : Nat) : Gens (w1.setCell ⟨ob, j, none⟩ u) lo B1 gs v1 := by
  refine ⟨C_grownM (C_grownM h.C hg fun a e => (h.lt a e).2.2) (grown_setC w1 ⟨ob, j, none⟩ u) fun a e he => ?_, fun a e => ⟨(h.lt a e).1, ?_, fun he => ?_⟩⟩
  · have h1 := (h.lt a e).1
    injection he with he
    have he : a.block = ob := he
    omega
  · have h1 := (h.lt a e).2.1
    have h2 := hg.size
    simp
    omega
  · rcases hat with hat | ⟨b, hb, hle⟩
    · rw [hat] at he
      exact (h.lt a e).2.2 he
    · rw [hb] at he
      injection he with he
      have := (h.lt a e).2.1
      omega
theorem R_oneM_alloc (u : M9) (W : World) (O : Obj) : kM.R 41 ((W.alloc (.cells #[.int .u8 (u.r0.a.toNat : Int), .int .u8 (u.r0.b.toNat : Int), .int .u8 (u.r0.c.toNat : Int), .int .u8 (u.r1.a.toNat : Int), .int .u8 (u.r1.b.toNat : Int), .int .u8 (u.r1.c.toNat : Int), .int .u8 (u.r2.a.toNat : Int), .int .u8 (u.r2.b.toNat : Int), .int .u8 (u.r2.c.toNat : Int)] 41)).alloc O) W.heap.size (fun k => k ≠ W.heap.size + 1) (.slice (some ⟨W.heap.size, 0, none⟩) 1 1) [u] :=
  Kd.R_alloc (Kd.R_mono (Kd.R_bound (R_oneM u W W.heap.size (Nat.le_refl _))) (fun k hk => by have := hk.2.2.1; simp at this; omega)) O
set_option maxRecDepth 100000 in
set_option maxHeartbeats 8000000 in
theorem closed_c (p n : Int) (A : Option Addr) (c : Nat) (gs : List M9) (w : World) (hC : kM.C w A gs.length gs) (hN : gs.length ≤ 1048576) (hp : 2 ≤ p) (hp' : p ≤ 13) (hn1 : 1 ≤ n) (hn3 : n ≤ 3) (hm : ∀ i, i < gs.length → matB p n (gs.getD i zM) = true) :
    Calls Try.prog 95 #[.int .i64 p, .int .i64 n, .slice A gs.length c] w (MakesGB (gP p n gs) (gN p n gs) (gL p n gs) (genO p n gs).isSome 41 w) := by
  have hmem : ∀ g ∈ gs, matB p n g = true := fun g hg => by
    obtain ⟨i, hi, rfl⟩ := List.getElem_of_mem hg
    have := hm i hi
    rwa [List.getD_eq_getElem?_getD, List.getElem?_eq_getElem hi] at this
  have hmany : 48 < (firsts gs).length → genO p n gs = none := genO_many fun g hg => unit_times (hmem g hg)
  have HMF := Lib.hid (fun i (hi : i < (firsts gs).length) => hmem _ (firsts_mem.1 (getD_mem zM hi)))
  have HMANY := Lib.hid hmany
  have hgf := genO_firsts p n gs
  have hfl := firsts_len gs
  clear hmem hmany hm
  have hU := fun W => unit_c n W hn1 hn3
  have hUle := unitM_le (p := p) (n := n) hp
  have hgen : cloO p n.toNat (firsts gs) 49 0 [unitM n] = genO p n gs := hgf
  generalize unitM n = u at *
  have HGEN := Lib.hid hgen
  clear hgen hgf
  have hmm := @run_makeMap Try.prog
  go_enter Try.func95, Try.ntmps95
  go_wp2_with ((go_at_call 70; (first | (with_reducible refine call_later2 (hU _) ?_) | (with_reducible refine call_later (hU _) ?_)); intro x))
  clear hmm
  have hx := x.ok.size
  simp at hx
  have hbx : Below w.heap.size w x.W := bq2
  have hR0 := Kd.R_alloc (R_oneM u x.W (w.heap.size + 1) (by omega)) (.cells #[.int .i64 p, .int .i64 n, .slice (some ⟨x.W.heap.size, 0, none⟩) 1 1] 31)
  have acc0 : Acc w (x.W.heap.size + 1) w.heap.size p n 41 ((x.W.alloc (.cells #[.int .u8 (u.r0.a.toNat : Int), .int .u8 (u.r0.b.toNat : Int), .int .u8 (u.r0.c.toNat : Int), .int .u8 (u.r1.a.toNat : Int), .int .u8 (u.r1.b.toNat : Int), .int .u8 (u.r1.c.toNat : Int), .int .u8 (u.r2.a.toNat : Int), .int .u8 (u.r2.b.toNat : Int), .int .u8 (u.r2.c.toNat : Int)] 41)).alloc (.cells #[.int .i64 p, .int .i64 n, .slice (some ⟨x.W.heap.size, 0, none⟩) 1 1] 31)) (some ⟨x.W.heap.size, 0, none⟩) 1 [u] := by
    have hbw : Below w.heap.size w ((x.W.alloc (.cells #[.int .u8 (u.r0.a.toNat : Int), .int .u8 (u.r0.b.toNat : Int), .int .u8 (u.r0.c.toNat : Int), .int .u8 (u.r1.a.toNat : Int), .int .u8 (u.r1.b.toNat : Int), .int .u8 (u.r1.c.toNat : Int), .int .u8 (u.r2.a.toNat : Int), .int .u8 (u.r2.b.toNat : Int), .int .u8 (u.r2.c.toNat : Int)] 41)).alloc (.cells #[.int .i64 p, .int .i64 n, .slice (some ⟨x.W.heap.size, 0, none⟩) 1 1] 31)) := (hbx.alloc (by omega) _).alloc (by simp; omega) _
    refine ⟨hbw, Nat.le_refl _, by omega, by simp, by simp, by simp, by simp, Kd.R_lower (Kd.R_mono (Kd.R_bound (R_oneM_alloc u x.W _)) (fun k hk => ⟨?_, ?_⟩)) (by omega), cell_alloc (cell_alloc (x.keep (by simp)) _) _, cell_alloc (cell_alloc (x.keep (by simp)) _) _, cell_alloc (cell_alloc (x.keep (by simp)) _) _, ?_, ?_, ?_, by omega⟩
    · exact fun e => hk.1 (by rw [e])
    · have := hk.2.1; omega
    all_goals exact ((below_alloc (below_alloc (Below.refl x.W.heap.size x.W) (.cells #[.int .u8 (u.r0.a.toNat : Int), .int .u8 (u.r0.b.toNat : Int), .int .u8 (u.r0.c.toNat : Int), .int .u8 (u.r1.a.toNat : Int), .int .u8 (u.r1.b.toNat : Int), .int .u8 (u.r1.c.toNat : Int), .int .u8 (u.r2.a.toNat : Int), .int .u8 (u.r2.b.toNat : Int), .int .u8 (u.r2.c.toNat : Int)] 41)) _).frozen (by show w.heap.size < _; omega)).trans ((x.ok.frozen (by simp)).trans bq5)
  clear hR0
  have hzx : ((x.W.alloc (.cells #[.int .u8 (u.r0.a.toNat : Int), .int .u8 (u.r0.b.toNat : Int), .int .u8 (u.r0.c.toNat : Int), .int .u8 (u.r1.a.toNat : Int), .int .u8 (u.r1.b.toNat : Int), .int .u8 (u.r1.c.toNat : Int), .int .u8 (u.r2.a.toNat : Int), .int .u8 (u.r2.b.toNat : Int), .int .u8 (u.r2.c.toNat : Int)] 41)).alloc (.cells #[.int .i64 p, .int .i64 n, .slice (some ⟨x.W.heap.size, 0, none⟩) 1 1] 31)).heap.size = x.W.heap.size + 1 + 1 := by simp
  generalize ((x.W.alloc (.cells #[.int .u8 (u.r0.a.toNat : Int), .int .u8 (u.r0.b.toNat : Int), .int .u8 (u.r0.c.toNat : Int), .int .u8 (u.r1.a.toNat : Int), .int .u8 (u.r1.b.toNat : Int), .int .u8 (u.r1.c.toNat : Int), .int .u8 (u.r2.a.toNat : Int), .int .u8 (u.r2.b.toNat : Int), .int .u8 (u.r2.c.toNat : Int)] 41)).alloc (.cells #[.int .i64 p, .int .i64 n, .slice (some ⟨x.W.heap.size, 0, none⟩) 1 1] 31)) = Wg at *
  have hob : x.W.heap.size + 1 < Wg.heap.size := by omega
  generalize hobe : x.W.heap.size + 1 = ob at *
  have hmb : Wg.heap.size < (Wg.alloc (.map #[] 0)).heap.size := by simp
  have hset0 := (SetAt.made Wg).below (below_alloc (Below.refl _ _) (.cells #[] 41))
  have hrow0 : ((Wg.alloc (.map #[] 0)).alloc (.cells #[] 41)).heap[Wg.heap.size + 1]? = some (.cells #[] 41) := by
    have := heap_alloc_last (Wg.alloc (.map #[] 0)) (.cells #[] 41)
    simpa using this
  have hg0 := R_zero2 kM (base := Wg.heap.size) (fun k => k ≠ Wg.heap.size) (show Wg.heap.size + 1 ≠ Wg.heap.size by omega) hrow0 (by omega)
  have hbg0 : Below Wg.heap.size Wg ((Wg.alloc (.map #[] 0)).alloc (.cells #[] 41)) := below_alloc (below_alloc (Below.refl _ _) _) _
  have ACC0 := Lib.hid acc0
  have hbw0 := acc0.bel
  have hzw := acc0.bel.size
  clear acc0 hrow0 hmb
  rw [hzx] at hset0 hg0 hbg0 hzw hob
  generalize ((Wg.alloc (.map #[] 0)).alloc (.cells #[] 41)) = V0 at *
  generalize hmbe : ob + 1 = mb at *
  go_loopg [27, 10] gs.length (fun k v s w' => ∃ (i : Nat) (B1 : Option Addr) (c1 : Nat), i + k = gs.length ∧ v = .int .i64 i ∧ s = .slice B1 (firsts (gs.take i)).length c1 ∧ Below mb Wg w' ∧ SetAt w' mb i (gs.take i) ∧ kM.R 41 w' mb (fun k => k ≠ mb) (.slice B1 (firsts (gs.take i)).length c1) (firsts (gs.take i)))
  case atStart => exact ⟨0, _, 0, by omega, rfl, rfl, hbg0, by simpa using hset0, by simpa [firsts] using hg0⟩
  case round =>
    clear hset0 hg0 hbg0
    obtain ⟨i, B1, c1, hik, rfl, rfl, hb, hset, hR⟩ := hrel
    have HIK := Lib.hid hik
    clear hik
    by_cases hlt : i < gs.length
    · have hbw := hbw0.trans (hb.mono hzw)
      obtain ⟨b, o, hA, q0, q1, q2, q3, q4, q5, q6, q7, q8⟩ := kM_at (Kd.C_below hC hbw) i hlt
      subst hA
      have zb := World.block_lt_of_cell? _ _ q0
      have zmb := hset.lt
      simp only [] at zb
      have hi0 : (0 : Int) ≤ i := by omega
      have hi1 : (i : Int) < gs.length := by omega
      have hin : ((i : Int)).toNat = i := by omega
      have htk : gs.take (i + 1) = gs.take i ++ [gs.getD i zM] := by
        rw [List.take_succ_eq_append_getElem hlt]
        simp [List.getD_eq_getElem?_getD, hlt]
      have hfk : firsts (gs.take (i + 1)) = addM (firsts (gs.take i)) (gs.getD i zM) := by rw [htk, firsts_snoc]
      have hmf : gs.getD i zM ∈ firsts (gs.take i) ↔ gs.getD i zM ∈ gs.take i := firsts_mem
      have hfl2 := firsts_len (gs.take i)
      rw [List.length_take] at hfl2
      generalize gs.getD i zM = m at *
      have HTK := Lib.hid htk
      have HFK := Lib.hid hfk
      clear htk hfk
      have set2 := hset.below (below_alloc (Below.refl _ wr) (.cells #[.int .u8 (m.r0.a.toNat : Int), .int .u8 (m.r0.b.toNat : Int), .int .u8 (m.r0.c.toNat : Int), .int .u8 (m.r1.a.toNat : Int), .int .u8 (m.r1.b.toNat : Int), .int .u8 (m.r1.c.toNat : Int), .int .u8 (m.r2.a.toNat : Int), .int .u8 (m.r2.b.toNat : Int), .int .u8 (m.r2.c.toNat : Int)] 41))
      have hlook := set2.look m
      obtain ⟨W2, hup, hset3, hg3⟩ := set2.store (show i < maxLen by simp [maxLen]; omega) m
      have hR2 := Kd.R_alloc hR (.cells #[.int .u8 (m.r0.a.toNat : Int), .int .u8 (m.r0.b.toNat : Int), .int .u8 (m.r0.c.toNat : Int), .int .u8 (m.r1.a.toNat : Int), .int .u8 (m.r1.b.toNat : Int), .int .u8 (m.r1.c.toNat : Int), .int .u8 (m.r2.a.toNat : Int), .int .u8 (m.r2.b.toNat : Int), .int .u8 (m.r2.c.toNat : Int)] 41)
      have hb2 : Below mb Wg (wr.alloc (.cells #[.int .u8 (m.r0.a.toNat : Int), .int .u8 (m.r0.b.toNat : Int), .int .u8 (m.r0.c.toNat : Int), .int .u8 (m.r1.a.toNat : Int), .int .u8 (m.r1.b.toNat : Int), .int .u8 (m.r1.c.toNat : Int), .int .u8 (m.r2.a.toNat : Int), .int .u8 (m.r2.b.toNat : Int), .int .u8 (m.r2.c.toNat : Int)] 41)) := hb.alloc (by have := hb.size; omega) _
      obtain ⟨n0, n1, n2, n3, n4, n5, n6, n7, n8, _⟩ := nine_alloc wr m 41
      have HR2 := Lib.hid hR2
      have HSET2 := Lib.hid set2
      have HB2 := Lib.hid hb2
      clear hset set2 hR hR2 hb hb2
      by_cases hin2 : m ∈ gs.take i
      · have hmf1 := addM_in (hmf.2 hin2)
        rw [decide_eq_true hin2] at hlook
        have HIN := Lib.hid hin2
        have HMF := Lib.hid hmf1
        clear hup hset3 hg3 hin2 hmf hmf1
        generalize firsts (gs.take i) = fs at *
        go_wp2_with fail
        go_roundg (gk - 1)
        case measure => have := HIK.out; omega
        case rel =>
          refine ⟨i + 1, B1, c1, by have := HIK.out; omega, by go_num, by rw [HFK.out, HMF.out], HB2.out, ?_, by rw [HFK.out, HMF.out]; exact HR2.out⟩
          refine HSET2.out.congr (by omega) fun e => ?_
          rw [HTK.out, List.mem_append, List.mem_singleton]
          exact ⟨fun h => .inl h, fun h => h.elim id fun h => h ▸ HIN.out⟩
      · have hmf1 := addM_out (fun h => hin2 (hmf.1 h))
        rw [decide_eq_false hin2] at hlook
        have hne : some wr.heap.size ≠ some mb := fun e => by injection e with e; omega
        have k0 := far_cell hg3 n0 hne
        have k1 := far_cell hg3 n1 hne
        have k2 := far_cell hg3 n2 hne
        have k3 := far_cell hg3 n3 hne
        have k4 := far_cell hg3 n4 hne
        have k5 := far_cell hg3 n5 hne
        have k6 := far_cell hg3 n6 hne
        have k7 := far_cell hg3 n7 hne
        have k8 := far_cell hg3 n8 hne
        have hR3 := Kd.R_grown HR2.out hg3 (fun k hk e => hk (by injection e))
        have hb3 : Below mb Wg W2 := HB2.out.grown hg3 (by have := HB2.out.size; omega) (fun k hk => by injection hk with hk; omega)
        have hz3 := hg3.size
        simp at hz3
        have HMF := Lib.hid hmf1
        have HSET3 := Lib.hid hset3
        clear hin2 hmf hmf1 hset3 HSET2
        have hfl3 : (firsts (gs.take i)).length ≤ 1048576 := by omega
        clear hfl2
        generalize firsts (gs.take i) = fs at *
        go_wp2_with ((with_reducible refine gate_ (.call { callee := .builtin .append, args := #[.tmp 37, .tmp 39], argTypes := #[29, 29] }) rfl ?_); refine Kd.R_append kM (w0 := Wg) (W := W2) mb rfl (.tmp 37) (.tmp 39) 29 41 (.agg #[.int .u8 0, .int .u8 0, .int .u8 0, .int .u8 0, .int .u8 0, .int .u8 0, .int .u8 0, .int .u8 0, .int .u8 0]) 9 rfl Try.underlying29 infoM rfl (by decide) (by decide) (.slice B1 fs.length c1) fs m m.cs (fun k => k ≠ mb) (fun _ => False) rfl rfl rfl (fun _ hk => hk.elim) (fun k hk => by omega) hR3 hb3 (by omega) (by omega) ?_; intro v1 w1 hR6 hB6 hg6 hat6; obtain ⟨B6, c6, rfl, hl6, hC6⟩ := Kd.R_reads hR6)
        go_roundg (gk - 1)
        case measure => have := HIK.out; omega
        case rel =>
          rw [HMF.out] at HFK
          have hs6 : SetAt w1 mb (i + 1) (gs.take i ++ [m]) := HSET3.out.kept hg6 (fun e => hR3.1 mb e.symm rfl)
          refine ⟨i + 1, B6, c6, by have := HIK.out; omega, by go_num, by rw [HFK.out]; first | rfl | simp, hB6, by rw [HTK.out]; exact hs6, by rw [HFK.out]; exact hR6⟩
    · have hie : i = gs.length := by have := HIK.out; omega
      subst hie
      rw [List.take_length] at hR
      have hb' : Below Wg.heap.size Wg wr := by rw [hzx]; exact hb
      have acc := ACC0.out.below hb'
      have gen0 : Gens wr mb B1 (firsts gs) (.slice (some ⟨x.W.heap.size, 0, none⟩) 1 1) := by
        refine ⟨(Kd.R_reads' hR).2.2, fun a e => ?_⟩
        have h1 := Kd.R_base hR a.block (by rw [e]; rfl)
        have h2 := Kd.R_lt hR a.block (by rw [e]; rfl)
        refine ⟨h1, h2, fun he => ?_⟩
        have he : some a.block = some x.W.heap.size := he
        injection he with he
        omega
      have hfl1 : (firsts gs).length ≤ 1048576 := by omega
      rw [List.take_length]
      have hone : ¬ (gs.length : Int) < gs.length := by omega
      clear hset hb hb' hR ACC0 hbw0
      generalize firsts gs = fs at *
      generalize x.W.heap.size = xb at *
      by_cases h48 : (48 : Int) < fs.length
      · obtain ⟨e1, e2, e3, e4⟩ := gen_none (HMANY.out (by omega))
        have EE := Lib.hid (And.intro e1 (And.intro e2 (And.intro e3 e4)))
        clear e1 e2 e3 e4 HMF HGEN gen0
        have b0 := acc.r0
        have b1 := acc.r1
        have b2 := acc.r2
        have b3 := acc.r3
        have b4 := acc.r4
        have b5 := acc.r5
        have zlr := acc.lr
        have hbel := acc.bel
        have zw := acc.bel.size
        go_wp2
        rw [EE.out.1, EE.out.2.1, EE.out.2.2.1, EE.out.2.2.2]
        refine bodyPost_ret (v := .tuple #[.agg #[.int .i64 0, .int .i64 0, .slice none 0 0], .bool false]) (by simp [results, Try.results95, go_sem, b0, b1, b2]) rfl ?_
        exact ⟨none, 0, rfl, Kd.R_nil _ _ _ _ _, bq2⟩
      have hf48 : fs.length ≤ 48 := by omega
      clear HMANY
      have o2' := acc.o2
      have zlo' := acc.lo
      have ACC1 := Lib.hid acc
      have GEN1 := Lib.hid gen0
      clear acc gen0
      go_wp2
      go_loopg [13] 49 (fun k v w' => ∃ (i : Nat) (B : Option Addr) (cb : Nat) (all : List M9), i + k = 49 ∧ v = .int .i64 i ∧ Acc w ob w.heap.size p n 41 w' B cb all ∧ Gens w' mb B1 fs (.slice B all.length cb) ∧ all.length ≤ 48 ∧ (∀ x ∈ all, x.le p) ∧ cloO p n.toNat fs k i all = genO p n gs)
      case atStart => exact ⟨0, _, 1, [u], by omega, rfl, ACC1.out, GEN1.out, by simp, fun y hy => by rw [List.mem_singleton.1 hy]; exact hUle, HGEN.out⟩
      case round =>
        clear ACC1 GEN1 HGEN o2' zlo'
        obtain ⟨i, B, cb, all, hik, rfl, acc, gen, hal, hle, hclo⟩ := hrel
        have HIK := Lib.hid hik
        have HLE := Lib.hid hle
        clear hik hle
        have o2 := acc.o2
        have zlo := acc.lo
        by_cases hlt : i < all.length
        · obtain ⟨f, rfl⟩ : ∃ f, gk = f + 1 := ⟨gk - 1, by have := HIK.out; omega⟩
          have hclo2 : (innO p n.toNat (all.getD i zM) all fs).bind (fun all' => cloO p n.toNat fs f (i + 1) all') = genO p n gs := by
            rw [← hclo]
            show _ = if i < all.length then _ else _
            rw [if_pos hlt]
          have HCLO := Lib.hid hclo2
          clear hclo hclo2
          have hi0 : (0 : Int) ≤ i := by omega
          have hi1 : (i : Int) < all.length := by omega
          have hin : ((i : Int)).toNat = i := by omega
          have hib : (i : Int) ≤ 1000 := by have := HIK.out; omega
          have ha := HLE.out _ (getD_mem zM hlt)
          generalize hga : all.getD i zM = a at *
          have HGA := Lib.hid hga
          have ACC1 := Lib.hid acc
          have GEN1 := Lib.hid gen
          clear hga acc gen
          go_wp2
          go_loopg [56] fs.length (fun k v w'' => ∃ (j : Nat) (B : Option Addr) (cb : Nat) (al : List M9), j + k = fs.length ∧ v = .int .i64 j ∧ Acc w ob w.heap.size p n 41 w'' B cb al ∧ Gens w'' mb B1 fs (.slice B al.length cb) ∧ al.length ≤ 48 ∧ i < al.length ∧ al.getD i zM = a ∧ (∀ x ∈ al, x.le p) ∧ innO p n.toNat a al (fs.drop j) = innO p n.toNat a all fs)
          case atStart => exact ⟨0, B, cb, all, by omega, rfl, ACC1.out, GEN1.out, hal, hlt, HGA.out, HLE.out, by simp⟩
          case round =>
            clear ACC1 GEN1 hal HLE HGA hlt hi1 o2 zlo
            obtain ⟨j, B, cb, al, hjk, rfl, acc, gen, hal, hlt, hga, hle, hinn⟩ := hrel
            have HJK := Lib.hid hjk
            have HLE := Lib.hid hle
            have HGA := Lib.hid hga
            have HAL := Lib.hid hal
            have HLT := Lib.hid hlt
            clear hjk hle
            by_cases hj : j < fs.length
            · rw [drop_getD hj] at hinn
              have hinn2 : (if 48 < (addM al (timesM p n.toNat a (fs.getD j zM))).length then none else innO p n.toNat a (addM al (timesM p n.toNat a (fs.getD j zM))) (fs.drop (j + 1))) = innO p n.toNat a all fs := hinn
              clear hinn
              have hCa := (Kd.R_reads' acc.R).2.2
              obtain ⟨b, o, hB, q0, q1, q2, q3, q4, q5, q6, q7, q8⟩ := kM_at hCa i hlt
              obtain ⟨b4, o4, hA, s0, s1, s2, s3, s4, s5, s6, s7, s8⟩ := kM_at gen.C j hj
              subst hB
              have zb4 := World.block_lt_of_cell? _ _ s0
              have hmg := HMF.out j hj
              rw [hga] at q0 q1 q2 q3 q4 q5 q6 q7 q8
              generalize fs.getD j zM = g at *
              have hT := fun W => times_h ha hmg W
              have HTL := Lib.hid (addM_le (n := n.toNat) (a := a) (g := g) hp hp' HLE.out)
              generalize timesM p n.toNat a g = t at *
              have hj0 : (0 : Int) ≤ j := by omega
              have hj1 : (j : Int) < fs.length := by omega
              have hjn : ((j : Int)).toNat = j := by omega
              have hi1 : (i : Int) < al.length := by omega
              have HINN := Lib.hid hinn2
              have acc2 := acc.below (below_alloc (Below.refl _ wr) (.cells #[.int .u8 (g.r0.a.toNat : Int), .int .u8 (g.r0.b.toNat : Int), .int .u8 (g.r0.c.toNat : Int), .int .u8 (g.r1.a.toNat : Int), .int .u8 (g.r1.b.toNat : Int), .int .u8 (g.r1.c.toNat : Int), .int .u8 (g.r2.a.toNat : Int), .int .u8 (g.r2.b.toNat : Int), .int .u8 (g.r2.c.toNat : Int)] 41))
              have gen2 := gen.below (below_alloc (Below.refl _ wr) (.cells #[.int .u8 (g.r0.a.toNat : Int), .int .u8 (g.r0.b.toNat : Int), .int .u8 (g.r0.c.toNat : Int), .int .u8 (g.r1.a.toNat : Int), .int .u8 (g.r1.b.toNat : Int), .int .u8 (g.r1.c.toNat : Int), .int .u8 (g.r2.a.toNat : Int), .int .u8 (g.r2.b.toNat : Int), .int .u8 (g.r2.c.toNat : Int)] 41))
              obtain ⟨t0, t1, t2, t3, t4, t5, t6, t7, t8, _⟩ := nine_alloc wr g 41
              have q0 := cell_alloc q0 (.cells #[.int .u8 (g.r0.a.toNat : Int), .int .u8 (g.r0.b.toNat : Int), .int .u8 (g.r0.c.toNat : Int), .int .u8 (g.r1.a.toNat : Int), .int .u8 (g.r1.b.toNat : Int), .int .u8 (g.r1.c.toNat : Int), .int .u8 (g.r2.a.toNat : Int), .int .u8 (g.r2.b.toNat : Int), .int .u8 (g.r2.c.toNat : Int)] 41)
              have q1 := cell_alloc q1 (.cells #[.int .u8 (g.r0.a.toNat : Int), .int .u8 (g.r0.b.toNat : Int), .int .u8 (g.r0.c.toNat : Int), .int .u8 (g.r1.a.toNat : Int), .int .u8 (g.r1.b.toNat : Int), .int .u8 (g.r1.c.toNat : Int), .int .u8 (g.r2.a.toNat : Int), .int .u8 (g.r2.b.toNat : Int), .int .u8 (g.r2.c.toNat : Int)] 41)
              have q2 := cell_alloc q2 (.cells #[.int .u8 (g.r0.a.toNat : Int), .int .u8 (g.r0.b.toNat : Int), .int .u8 (g.r0.c.toNat : Int), .int .u8 (g.r1.a.toNat : Int), .int .u8 (g.r1.b.toNat : Int), .int .u8 (g.r1.c.toNat : Int), .int .u8 (g.r2.a.toNat : Int), .int .u8 (g.r2.b.toNat : Int), .int .u8 (g.r2.c.toNat : Int)] 41)
              have q3 := cell_alloc q3 (.cells #[.int .u8 (g.r0.a.toNat : Int), .int .u8 (g.r0.b.toNat : Int), .int .u8 (g.r0.c.toNat : Int), .int .u8 (g.r1.a.toNat : Int), .int .u8 (g.r1.b.toNat : Int), .int .u8 (g.r1.c.toNat : Int), .int .u8 (g.r2.a.toNat : Int), .int .u8 (g.r2.b.toNat : Int), .int .u8 (g.r2.c.toNat : Int)] 41)
              have q4 := cell_alloc q4 (.cells #[.int .u8 (g.r0.a.toNat : Int), .int .u8 (g.r0.b.toNat : Int), .int .u8 (g.r0.c.toNat : Int), .int .u8 (g.r1.a.toNat : Int), .int .u8 (g.r1.b.toNat : Int), .int .u8 (g.r1.c.toNat : Int), .int .u8 (g.r2.a.toNat : Int), .int .u8 (g.r2.b.toNat : Int), .int .u8 (g.r2.c.toNat : Int)] 41)
              have q5 := cell_alloc q5 (.cells #[.int .u8 (g.r0.a.toNat : Int), .int .u8 (g.r0.b.toNat : Int), .int .u8 (g.r0.c.toNat : Int), .int .u8 (g.r1.a.toNat : Int), .int .u8 (g.r1.b.toNat : Int), .int .u8 (g.r1.c.toNat : Int), .int .u8 (g.r2.a.toNat : Int), .int .u8 (g.r2.b.toNat : Int), .int .u8 (g.r2.c.toNat : Int)] 41)
              have q6 := cell_alloc q6 (.cells #[.int .u8 (g.r0.a.toNat : Int), .int .u8 (g.r0.b.toNat : Int), .int .u8 (g.r0.c.toNat : Int), .int .u8 (g.r1.a.toNat : Int), .int .u8 (g.r1.b.toNat : Int), .int .u8 (g.r1.c.toNat : Int), .int .u8 (g.r2.a.toNat : Int), .int .u8 (g.r2.b.toNat : Int), .int .u8 (g.r2.c.toNat : Int)] 41)
              have q7 := cell_alloc q7 (.cells #[.int .u8 (g.r0.a.toNat : Int), .int .u8 (g.r0.b.toNat : Int), .int .u8 (g.r0.c.toNat : Int), .int .u8 (g.r1.a.toNat : Int), .int .u8 (g.r1.b.toNat : Int), .int .u8 (g.r1.c.toNat : Int), .int .u8 (g.r2.a.toNat : Int), .int .u8 (g.r2.b.toNat : Int), .int .u8 (g.r2.c.toNat : Int)] 41)
              have q8 := cell_alloc q8 (.cells #[.int .u8 (g.r0.a.toNat : Int), .int .u8 (g.r0.b.toNat : Int), .int .u8 (g.r0.c.toNat : Int), .int .u8 (g.r1.a.toNat : Int), .int .u8 (g.r1.b.toNat : Int), .int .u8 (g.r1.c.toNat : Int), .int .u8 (g.r2.a.toNat : Int), .int .u8 (g.r2.b.toNat : Int), .int .u8 (g.r2.c.toNat : Int)] 41)
              clear hinn2 hmg hga acc gen hCa
              simp only [] at zb4
              subst hA
              go_wp2_with fail
              clear s0 s1 s2 s3 s4 s5 s6 s7 s8 zb4
              generalize wr.alloc (.cells #[.int .u8 (g.r0.a.toNat : Int), .int .u8 (g.r0.b.toNat : Int), .int .u8 (g.r0.c.toNat : Int), .int .u8 (g.r1.a.toNat : Int), .int .u8 (g.r1.b.toNat : Int), .int .u8 (g.r1.c.toNat : Int), .int .u8 (g.r2.a.toNat : Int), .int .u8 (g.r2.b.toNat : Int), .int .u8 (g.r2.c.toNat : Int)] 41) = V2 at *
              generalize wr.heap.size = bg at *
              have o2 := acc2.o2
              have zlo := acc2.lo
              have zb := World.block_lt_of_cell? _ _ q0
              have zbg := World.block_lt_of_cell? _ _ t0
              simp only [] at zb zbg
              have ACC1 := Lib.hid acc2
              have GEN1 := Lib.hid gen2
              clear acc2 gen2
              go_cut [16] from 60 to 68 (fun v1 wx => ∃ (bx : Nat), v1 = .pointer (some ⟨bx, 0, none⟩) ∧ Below V2.heap.size V2 wx ∧ wx.cell? ⟨bx, 0, none⟩ = some (.int .u8 (t.r0.a.toNat : Int)) ∧ wx.cell? ⟨bx, 1, none⟩ = some (.int .u8 (t.r0.b.toNat : Int)) ∧ wx.cell? ⟨bx, 2, none⟩ = some (.int .u8 (t.r0.c.toNat : Int)) ∧ wx.cell? ⟨bx, 3, none⟩ = some (.int .u8 (t.r1.a.toNat : Int)) ∧ wx.cell? ⟨bx, 4, none⟩ = some (.int .u8 (t.r1.b.toNat : Int)) ∧ wx.cell? ⟨bx, 5, none⟩ = some (.int .u8 (t.r1.c.toNat : Int)) ∧ wx.cell? ⟨bx, 6, none⟩ = some (.int .u8 (t.r2.a.toNat : Int)) ∧ wx.cell? ⟨bx, 7, none⟩ = some (.int .u8 (t.r2.b.toNat : Int)) ∧ wx.cell? ⟨bx, 8, none⟩ = some (.int .u8 (t.r2.c.toNat : Int)))
              case first =>
                go_region_held3 (fun w' => w'.cell? ⟨ob, 2, none⟩ = some (.slice (some ⟨b, o, none⟩) al.length cb) ∧ w'.cell? ⟨b, o + i * 9, none⟩ = some (.int .u8 (a.r0.a.toNat : Int)) ∧ w'.cell? ⟨b, o + i * 9 + 1, none⟩ = some (.int .u8 (a.r0.b.toNat : Int)) ∧ w'.cell? ⟨b, o + i * 9 + 2, none⟩ = some (.int .u8 (a.r0.c.toNat : Int)) ∧ w'.cell? ⟨b, o + i * 9 + 3, none⟩ = some (.int .u8 (a.r1.a.toNat : Int)) ∧ w'.cell? ⟨b, o + i * 9 + 4, none⟩ = some (.int .u8 (a.r1.b.toNat : Int)) ∧ w'.cell? ⟨b, o + i * 9 + 5, none⟩ = some (.int .u8 (a.r1.c.toNat : Int)) ∧ w'.cell? ⟨b, o + i * 9 + 6, none⟩ = some (.int .u8 (a.r2.a.toNat : Int)) ∧ w'.cell? ⟨b, o + i * 9 + 7, none⟩ = some (.int .u8 (a.r2.b.toNat : Int)) ∧ w'.cell? ⟨b, o + i * 9 + 8, none⟩ = some (.int .u8 (a.r2.c.toNat : Int)) ∧ w'.cell? ⟨bg, 0, none⟩ = some (.int .u8 (g.r0.a.toNat : Int)) ∧ w'.cell? ⟨bg, 1, none⟩ = some (.int .u8 (g.r0.b.toNat : Int)) ∧ w'.cell? ⟨bg, 2, none⟩ = some (.int .u8 (g.r0.c.toNat : Int)) ∧ w'.cell? ⟨bg, 3, none⟩ = some (.int .u8 (g.r1.a.toNat : Int)) ∧ w'.cell? ⟨bg, 4, none⟩ = some (.int .u8 (g.r1.b.toNat : Int)) ∧ w'.cell? ⟨bg, 5, none⟩ = some (.int .u8 (g.r1.c.toNat : Int)) ∧ w'.cell? ⟨bg, 6, none⟩ = some (.int .u8 (g.r2.a.toNat : Int)) ∧ w'.cell? ⟨bg, 7, none⟩ = some (.int .u8 (g.r2.b.toNat : Int)) ∧ w'.cell? ⟨bg, 8, none⟩ = some (.int .u8 (g.r2.c.toNat : Int))) ((refine ⟨?_, ?_, ?_, ?_, ?_, ?_, ?_, ?_, ?_, ?_, ?_, ?_, ?_, ?_, ?_, ?_, ?_, ?_, ?_⟩ <;> ((repeat (refine cell_far2 ?_ (by dsimp only; omega))); (first | assumption | (exact cell_alloc (by assumption) _))))) (first | (go_at_call 63; (first | (with_reducible refine call_later3 (hT _) ?_) | (with_reducible refine call_later4 (hT _) ?_)); intro xx hbx; have hqx : Below V2.heap.size V2 xx.W := bq2; have zz := hbx.size; (try simp at zz); have kxo := pw_cell_below hqx o2; have kx0 := pw_cell_below hqx q0; have kx1 := pw_cell_below hqx q1; have kx2 := pw_cell_below hqx q2; have kx3 := pw_cell_below hqx q3; have kx4 := pw_cell_below hqx q4; have kx5 := pw_cell_below hqx q5; have kx6 := pw_cell_below hqx q6; have kx7 := pw_cell_below hqx q7; have kx8 := pw_cell_below hqx q8; have lx0 := pw_cell_below hqx t0; have lx1 := pw_cell_below hqx t1; have lx2 := pw_cell_below hqx t2; have lx3 := pw_cell_below hqx t3; have lx4 := pw_cell_below hqx t4; have lx5 := pw_cell_below hqx t5; have lx6 := pw_cell_below hqx t6; have lx7 := pw_cell_below hqx t7; have lx8 := pw_cell_below hqx t8))
                all_goals (go_wp2_with fail; go_meet)
                all_goals refine ⟨_, rfl, ?_, ?_, ?_, ?_, ?_, ?_, ?_, ?_, ?_, ?_⟩
                all_goals first | (simp; done) | (simp [go_sem]; done) | (go_simp; done) | (exact bq2)
              case rest =>
                obtain ⟨bx, rfl, hbw, n0, n1, n2, n3, n4, n5, n6, n7, n8⟩ := hcut
                clear q0 q1 q2 q3 q4 q5 q6 q7 q8 t0 t1 t2 t3 t4 t5 t6 t7 t8 o2 zlo
                have ACC2 := Lib.hid (ACC1.out.below hbw)
                have GEN2 := Lib.hid (GEN1.out.below hbw)
                have zbx := World.block_lt_of_cell? _ _ n0
                have p0 := ACC2.out.o0
                have p1 := ACC2.out.o1
                have p2' := ACC2.out.o2
                have zlo2 := ACC2.out.lo
                simp only [] at zbx
                have hF := fun W hC => has_c (w := W) (A := some ⟨b, o, none⟩) (c := cb) p n t hC (show al.length ≤ 1048576 by omega)
                have hCa2 := (Kd.R_reads' ACC2.out.R).2.2
                by_cases ht : t ∈ al
                · have hix : decide (0 ≤ idxM al t) = true := decide_eq_true (Int.not_lt.1 fun h => (idxM_neg al t).1 h ht)
                  rw [hix] at hF
                  have e : innO p n.toNat a al (fs.drop (j + 1)) = innO p n.toNat a all fs := by
                    have := HINN.out
                    rw [addM_in ht, if_neg (by omega)] at this
                    exact this
                  have E := Lib.hid e
                  clear e ht hix
                  have h48b : ¬ (48 : Int) < al.length := by omega
                  go_wp2_with (go_at_call 114; (first | (with_reducible refine call_later2 (hF _ hCa2) ?_) | (with_reducible refine call_later (hF _ hCa2) ?_)); intro x3)
                  go_roundg (gk - 1)
                  case measure => have := HJK.out; omega
                  case rel => exact ⟨j + 1, _, cb, al, by have := HJK.out; omega, by go_num, ACC2.out.below (show Below wc.heap.size wc x3.W from bq2), GEN2.out.below (show Below wc.heap.size wc x3.W from bq2), hal, HLT.out, HGA.out, HLE.out, E.out⟩
                · have hix : decide (0 ≤ idxM al t) = false := decide_eq_false (by have := (idxM_neg al t).2 ht; omega)
                  rw [hix] at hF
                  have hadd := addM_out ht
                  have e := HINN.out
                  rw [hadd] at e
                  have E := Lib.hid e
                  have HTL2 := HTL.out
                  rw [hadd] at HTL2
                  have HTL3 := Lib.hid HTL2
                  have HLL := Lib.hid (show (al ++ [t]).length = al.length + 1 by simp)
                  clear e hadd HTL HTL2 ht hix
                  by_cases h49 : (48 : Int) < al.length + 1
                  · have hgn : genO p n gs = none := by
                      have h1 := E.out
                      rw [HLL.out, if_pos (by omega)] at h1
                      rw [← HCLO.out, ← h1]
                      rfl
                    obtain ⟨e1, e2, e3, e4⟩ := gen_none hgn
                    have EE := Lib.hid (And.intro e1 (And.intro e2 (And.intro e3 e4)))
                    clear hgn e1 e2 e3 e4
                    go_wp2_with (first | ((go_at_call 114; (first | (with_reducible refine call_later2 (hF _ hCa2) ?_) | (with_reducible refine call_later (hF _ hCa2) ?_)); intro x3); have m0 := x3.keep n0; have m1 := x3.keep n1; have m2 := x3.keep n2; have m3 := x3.keep n3; have m4 := x3.keep n4; have m5 := x3.keep n5; have m6 := x3.keep n6; have m7 := x3.keep n7; have m8 := x3.keep n8; have ACC3 := ACC2.out.below x3.ok; have r2 := ACC3.o2; have r3 := ACC3.o3; have zo3 := ACC3.lo) | ((with_reducible refine gate_ (.call { callee := .builtin .append, args := #[.tmp 74, .tmp 76], argTypes := #[29, 29] }) rfl ?_); refine Kd.R_append kM (w0 := x3.W) (W := x3.W) w.heap.size rfl (.tmp 74) (.tmp 76) 29 41 (.agg #[.int .u8 0, .int .u8 0, .int .u8 0, .int .u8 0, .int .u8 0, .int .u8 0, .int .u8 0, .int .u8 0, .int .u8 0]) 9 rfl Try.underlying29 infoM rfl (by decide) (by decide) (.slice (some ⟨b, o, none⟩) al.length cb) al t t.cs (fun k => k ≠ ob ∧ k ≠ w.heap.size) (fun _ => False) rfl rfl rfl (fun _ hk => hk.elim) (fun k hk => ⟨by have := ACC3.lo; omega, by have := ACC3.lr; omega⟩) ACC3.R (Below.refl _ _) ACC3.bel.size (by omega) ?_; intro v1 w1 hR6 hB6 hg6 hat6; obtain ⟨B6, c6, rfl, hl6, hC6⟩ := Kd.R_reads hR6; have p2 := far_cell hg6 ACC3.o2 ACC3.own; have p3 := far_frozen hg6 ACC3.o3 ACC3.lo ACC3.own; have zl6 := hg6.size; have zo6 : ob < w1.heap.size := (by have := ACC3.lo; omega); have d0 := far_cell hg6 ACC3.r0 ACC3.ownr; have d1 := far_cell hg6 ACC3.r1 ACC3.ownr; have d2 := far_cell hg6 ACC3.r2 ACC3.ownr; have d3 := far_frozen hg6 ACC3.r3 ACC3.lr ACC3.ownr; have d4 := far_frozen hg6 ACC3.r4 ACC3.lr ACC3.ownr; have d5 := far_frozen hg6 ACC3.r5 ACC3.lr ACC3.ownr; have zr6 : w.heap.size < w1.heap.size := (by have := ACC3.lr; omega); have hor := ACC3.hne; have hor2 := ACC3.hne.symm; have ACC6 := ACC3.put (by rw [List.length_append] at hR6; exact hR6) hB6 hg6))
                    rw [EE.out.1, EE.out.2.1, EE.out.2.2.1, EE.out.2.2.2]
                    refine bodyPost_ret (v := .tuple #[.agg #[.int .i64 0, .int .i64 0, .slice none 0 0], .bool false]) (by simp [results, Try.results95, go_sem, d0, d1, d2, hor, hor2]) rfl ?_
                    exact ⟨none, 0, rfl, Kd.R_nil _ _ _ _ _, ((ACC6.bel.setCell (Nat.le_refl _) _).setCell (Nat.le_refl _) _).setCell (Nat.le_refl _) _⟩
                  · go_wp2_with (first | ((go_at_call 114; (first | (with_reducible refine call_later2 (hF _ hCa2) ?_) | (with_reducible refine call_later (hF _ hCa2) ?_)); intro x3); have m0 := x3.keep n0; have m1 := x3.keep n1; have m2 := x3.keep n2; have m3 := x3.keep n3; have m4 := x3.keep n4; have m5 := x3.keep n5; have m6 := x3.keep n6; have m7 := x3.keep n7; have m8 := x3.keep n8; have ACC3 := ACC2.out.below x3.ok; have r2 := ACC3.o2; have r3 := ACC3.o3; have zo3 := ACC3.lo) | ((with_reducible refine gate_ (.call { callee := .builtin .append, args := #[.tmp 74, .tmp 76], argTypes := #[29, 29] }) rfl ?_); refine Kd.R_append kM (w0 := x3.W) (W := x3.W) w.heap.size rfl (.tmp 74) (.tmp 76) 29 41 (.agg #[.int .u8 0, .int .u8 0, .int .u8 0, .int .u8 0, .int .u8 0, .int .u8 0, .int .u8 0, .int .u8 0, .int .u8 0]) 9 rfl Try.underlying29 infoM rfl (by decide) (by decide) (.slice (some ⟨b, o, none⟩) al.length cb) al t t.cs (fun k => k ≠ ob ∧ k ≠ w.heap.size) (fun _ => False) rfl rfl rfl (fun _ hk => hk.elim) (fun k hk => ⟨by have := ACC3.lo; omega, by have := ACC3.lr; omega⟩) ACC3.R (Below.refl _ _) ACC3.bel.size (by omega) ?_; intro v1 w1 hR6 hB6 hg6 hat6; obtain ⟨B6, c6, rfl, hl6, hC6⟩ := Kd.R_reads hR6; have p2 := far_cell hg6 ACC3.o2 ACC3.own; have p3 := far_frozen hg6 ACC3.o3 ACC3.lo ACC3.own; have zl6 := hg6.size; have zo6 : ob < w1.heap.size := (by have := ACC3.lo; omega); have d0 := far_cell hg6 ACC3.r0 ACC3.ownr; have d1 := far_cell hg6 ACC3.r1 ACC3.ownr; have d2 := far_cell hg6 ACC3.r2 ACC3.ownr; have d3 := far_frozen hg6 ACC3.r3 ACC3.lr ACC3.ownr; have d4 := far_frozen hg6 ACC3.r4 ACC3.lr ACC3.ownr; have d5 := far_frozen hg6 ACC3.r5 ACC3.lr ACC3.ownr; have zr6 : w.heap.size < w1.heap.size := (by have := ACC3.lr; omega); have hor := ACC3.hne; have hor2 := ACC3.hne.symm; have ACC6 := ACC3.put (by rw [List.length_append] at hR6; exact hR6) hB6 hg6; have GEN6 := (GEN2.out.below x3.ok).put (u := .slice B6 (al.length + 1) c6) hg6 hat6 (show ob < mb by omega) 2))
                    go_roundg (gk - 1)
                    case measure => have := HJK.out; omega
                    case rel =>
                      have e := E.out
                      rw [HLL.out, if_neg (by omega)] at e
                      exact ⟨j + 1, B6, c6, al ++ [t], by have := HJK.out; omega, by go_num, ACC6, GEN6, by have := HLL.out; omega, by have := HLL.out; have := HLT.out; omega, by rw [List.getD_eq_getElem?_getD, List.getElem?_append_left HLT.out, ← List.getD_eq_getElem?_getD]; exact HGA.out, HTL3.out, e⟩
            · have hje : j = fs.length := by have := HJK.out; omega
              subst hje
              rw [List.drop_length] at hinn
              have e := HCLO.out
              rw [← hinn] at e
              have e : cloO p n.toNat fs f (i + 1) al = genO p n gs := e
              have E := Lib.hid e
              clear e hinn
              go_wp2
              go_roundg f
              case measure => exact Nat.lt_succ_self f
              case rel => exact ⟨i + 1, B, cb, al, by have := HIK.out; omega, by go_num, acc, gen, HAL.out, HLE.out, E.out⟩
        · have hgs : genO p n gs = some all := by
            rw [← hclo]
            cases gk with
            | zero => rfl
            | succ f =>
              show (if i < all.length then _ else _) = _
              rw [if_neg hlt]
          obtain ⟨e1, e2, e3, e4⟩ := gen_some hgs
          have EE := Lib.hid (And.intro e1 (And.intro e2 (And.intro e3 e4)))
          clear hgs e1 e2 e3 e4 hclo
          have hi1 : ¬ (i : Int) < all.length := by omega
          have ACC1 := Lib.hid acc
          clear acc gen
          go_wp2_with (go_at_call 124; refine (Srt.sort_mats ACC1.out.R (by omega)).mono ?_; rintro e8 w8 ⟨rfl, ys, hperm, hs8, hR8, hg8⟩; have hlen := hperm.length_eq; have hys := sortM_of hperm (srt_of_getD hs8); have acc8 := ACC1.out.swap hlen hg8 hR8; clear hperm hs8; rw [hys] at acc8; have p0 := acc8.o0; have p1 := acc8.o1; have p2 := acc8.o2; have d0 := acc8.r0; have d1 := acc8.r1; have d2 := acc8.r2; have d3 := acc8.r3; have d4 := acc8.r4; have d5 := acc8.r5; have zo8 := acc8.lo; have zr8 := acc8.lr; have hor := acc8.hne; have hor2 := acc8.hne.symm; clear hlen hys)
          rw [EE.out.1, EE.out.2.1, EE.out.2.2.1, EE.out.2.2.2]
          refine bodyPost_ret (v := .tuple #[.agg #[.int .i64 p, .int .i64 n, .slice B (sortM all).length cb], .bool true]) (by simp [results, Try.results95, go_sem, d0, d1, d2, hor, hor2]) rfl ?_
          refine ⟨B, cb, rfl, ?_, ((acc8.bel.setCell (Nat.le_refl _) _).setCell (Nat.le_refl _) _).setCell (Nat.le_refl _) _⟩
          exact Kd.R_mono (Kd.R_far (Kd.R_far (Kd.R_far acc8.R (fun k hk => hk.2) _) (fun k hk => hk.2) _) (fun k hk => hk.2) _) (fun _ _ => trivial)
end Go.Proofs.Ytimjhehagimcaaa
