/- The walk of the program's substitution (substitute); no condition. -/
import Derived.Test.YtneknpamceipiaaYSub2
import Derived.Test.YtneknpamceipiaaYWLast
import Derived.Deep.RegionHeld3
import Derived.Deep.CutRange
set_option linter.unusedVariables false
set_option linter.unusedSimpArgs false
namespace Go.Proofs.Ytneknpamceipiaa
open Go.RowKit Go.Proofs.YtneknpamceipiaaW.PrintWords
attribute [local go_sem] Later.cell Later.frozen Later.lt Later.lt_add Later.le Later.le_add Later.ne Later.ne' add_at
open Go.Proofs.YtneknpamceipiaaW.PrintLast
attribute [local go_sem] later_drew2 later_drewf2
theorem below_undrewS {w W : World} (h : Below w.drew.heap.size w.drew W) : Below w.heap.size w W := ⟨h.os, h.tape, h.output, h.size, h.block⟩
theorem S_zeroQ {g base : Nat} {W : World} {ok : Nat → Prop} (hok : ok g) (hg : W.heap[g]? = some (.cells #[] 49 (0, 0))) (hb : base ≤ g) : Kd.S kQ 49 W base ok (.slice (some ⟨g, 0, none⟩) 0 0) [] :=
  ⟨fun _ => 0, fun k hk => by
    have : g = k := by simpa [Value.ownBlock] using hk
    rw [← this]
    exact hok, [], ⟨by simp, .inr ⟨g, 0, #[], rfl, hb, hg, Nat.le_refl _, Nat.zero_le _, by simp, by simp⟩⟩, Reps.none _ _⟩
theorem badK_lt {base n : Nat} {ks : List Nat} {vs : List Value} (h0 : base ≤ n) (h1 : ∀ k ∈ ks, k < n) (h2 : ∀ v ∈ vs, ∀ k, some k = v.ownBlock → k < n) : ∀ k, badK base ks vs k → k < n := by
  rintro k (h | h | ⟨v, hv, h⟩)
  · omega
  · exact h1 k h
  · exact h2 v hv k h
theorem badK_more {base n : Nat} {ks ks' : List Nat} {vs vs' : List Value} (h1 : ∀ k ∈ ks', k ∈ ks ∨ n ≤ k) (h2 : ∀ v ∈ vs', v ∈ vs ∨ ∀ k, some k = v.ownBlock → n ≤ k) : ∀ k, badK base ks' vs' k → badK base ks vs k ∨ n ≤ k := by
  rintro k (h | h | ⟨v, hv, h⟩)
  · exact .inl (.inl h)
  · exact (h1 k h).imp (fun h => .inr (.inl h)) id
  · exact (h2 v hv).imp (fun h' => .inr (.inr ⟨v, h', h⟩)) (fun h' => h' k h)
theorem hP4lt_aux {base n n' yb : Nat} {a b c d : Nat} {vs : List Value} (h : ∀ k, badK base [a, b, c, d] vs k → k < n) (hn : n ≤ n') (hy : yb < n') : ∀ k, badK base [a, b, c, d, yb] vs k → k < n' := by
  rintro k (hk | hk | hk)
  · exact Nat.lt_of_lt_of_le (h k (.inl hk)) hn
  · by_cases e : k = yb
    · omega
    · exact Nat.lt_of_lt_of_le (h k (.inr (.inl (by simp at hk ⊢; omega)))) hn
  · exact Nat.lt_of_lt_of_le (h k (.inr (.inr hk))) hn
theorem badK_mono {base : Nat} {ks ks' : List Nat} {vs vs' : List Value} (h1 : ∀ k ∈ ks, k ∈ ks') (h2 : ∀ v ∈ vs, v ∈ vs') : ∀ k, badK base ks vs k → badK base ks' vs' k := by
  rintro k (h | h | ⟨v, hv, h⟩)
  · exact .inl h
  · exact .inr (.inl (h1 k h))
  · exact .inr (.inr ⟨v, h2 v hv, h⟩)
section
variable {w0 W W' : World} {ob rb : Nat} {p n : Int} {E : TypeId} {B : Option Addr} {cb : Nat} {xs : List T4}
theorem AccK.ownlt (h : AccK kT w0 ob rb p n E W B cb xs) : ∀ k, some k = (Value.slice B xs.length cb).ownBlock → k < W.heap.size := fun k hk => ((Kd.R_bound h.R).1 k hk.symm).2.2.1
theorem AccK.badlt (h : AccK kT w0 ob rb p n E W B cb xs) : ∀ k, badK w0.heap.size [ob, rb] [.slice B xs.length cb] k → k < W.heap.size :=
  badK_lt h.bel.size (by simp; exact ⟨h.lo, h.lr⟩) (by simpa using h.ownlt)
theorem AccK.keepsB (h : AccK kT w0 ob rb p n E W B cb xs) {bad : Nat → Prop} (hk : Keeps bad W W') (hb : ∀ k, badK w0.heap.size [ob, rb] [.slice B xs.length cb] k → bad k) : AccK kT w0 ob rb p n E W' B cb xs :=
  h.keeps hk (fun k hk => hb k (.inl hk)) (hb _ (.inr (.inl (by simp)))) (hb _ (.inr (.inl (by simp)))) (fun k hk => hb k (.inr (.inr ⟨_, by simp, hk⟩)))
end
theorem poly_one (W : World) (p n : Int) (v : Value) (hv : v.cells.toList = [v] ∧ v.oneCell' = true) (E : TypeId) : ∃ V : World, (W.alloc (.cells #[.int .i64 p, .int .i64 n, v] E)) = V ∧ Below W.heap.size W V ∧
    V.cell? ⟨W.heap.size, 0, none⟩ = some (.int .i64 p) ∧ V.cell? ⟨W.heap.size, 1, none⟩ = some (.int .i64 n) ∧ V.cell? ⟨W.heap.size, 2, none⟩ = some v := by
  refine ⟨_, rfl, (Below.refl _ W).alloc (Nat.le_refl _) _, ?_, ?_, ?_⟩
  all_goals first | (simp; done) | (simp [go_sem]; done) | go_simp
set_option maxRecDepth 100000 in
set_option maxHeartbeats 4000000 in
theorem substitute_c (p d D : Int) (A : Option Addr) (c : Nat) (ts : List T4) (L : Option Addr) (cl : Nat) (ps : List PV) (m : Nat) (hpl : ps.length = m) (w : World) (hC : kT.C w A ts.length ts) (hL : kP.C w L m ps) (hn : ts.length ≤ 1183) (hm1 : 1 ≤ m) (hm3 : m ≤ 3) (hp : 2 ≤ p) (hp' : p ≤ 13)
    (hcan : ∀ y ∈ tss ps, Canon p y) (hts : Canon p ts) (hpd : ∀ i, i < m → (ps.getD i zP).p = p ∧ (ps.getD i zP).d = D) (hlen : ∀ i, i < m → (ps.getD i zP).ts.length ≤ 1183) (hbd : bndB (tss ps) ts = true) :
    Calls Try.prog 63 #[.agg #[.int .i64 p, .int .i64 d, .slice A ts.length c], .slice L m cl] w (MakesP p D 121 (subL p (tss ps) ts) w) := by
  have HBT := Lib.hid (bndB_iff.1 hbd)
  clear hbd
  have hC0 := Kd.C_alloc hC (.cells #[.int .i64 p, .int .i64 d, .slice A ts.length c] 45)
  have hL0 := Kd.C_alloc hL (.cells #[.int .i64 p, .int .i64 d, .slice A ts.length c] 45)
  have s0 : (w.alloc (.cells #[.int .i64 p, .int .i64 d, .slice A ts.length c] 45)).cell? ⟨w.heap.size, 2, none⟩ = some (.slice A ts.length c) := (by first | (simp; done) | (simp [go_sem]; done) | go_simp)
  have s1 : (w.alloc (.cells #[.int .i64 p, .int .i64 d, .slice A ts.length c] 45)).cell? ⟨w.heap.size, 0, none⟩ = some (.int .i64 p) := (by first | (simp; done) | (simp [go_sem]; done) | go_simp)
  have r0 : ((w.alloc (.cells #[.int .i64 p, .int .i64 d, .slice A ts.length c] 45)).alloc (.cells #[.int .i64 0, .int .i64 0, .slice none 0 0] 45)).cell? ⟨w.heap.size + 1, 0, none⟩ = some (.int .i64 0) := (by first | (simp; done) | (simp [go_sem]; done) | go_simp)
  have r1 : ((w.alloc (.cells #[.int .i64 p, .int .i64 d, .slice A ts.length c] 45)).alloc (.cells #[.int .i64 0, .int .i64 0, .slice none 0 0] 45)).cell? ⟨w.heap.size + 1, 1, none⟩ = some (.int .i64 0) := (by first | (simp; done) | (simp [go_sem]; done) | go_simp)
  have r2 : ((w.alloc (.cells #[.int .i64 p, .int .i64 d, .slice A ts.length c] 45)).alloc (.cells #[.int .i64 0, .int .i64 0, .slice none 0 0] 45)).cell? ⟨w.heap.size + 1, 2, none⟩ = some (.slice none 0 0) := (by first | (simp; done) | (simp [go_sem]; done) | go_simp)
  have r3 : ∀ j, ((w.alloc (.cells #[.int .i64 p, .int .i64 d, .slice A ts.length c] 45)).alloc (.cells #[.int .i64 0, .int .i64 0, .slice none 0 0] 45)).frozen? ⟨w.heap.size + 1, j, none⟩ = false := fun j => (by first | (simp; done) | (simp [go_sem]; done) | go_simp)
  have hb01 : Below (w.alloc (.cells #[.int .i64 p, .int .i64 d, .slice A ts.length c] 45)).heap.size (w.alloc (.cells #[.int .i64 p, .int .i64 d, .slice A ts.length c] 45)) ((w.alloc (.cells #[.int .i64 p, .int .i64 d, .slice A ts.length c] 45)).alloc (.cells #[.int .i64 0, .int .i64 0, .slice none 0 0] 45)) := below_alloc2 _ _
  have hz0 : (w.alloc (.cells #[.int .i64 p, .int .i64 d, .slice A ts.length c] 45)).heap.size = w.heap.size + 1 := by simp
  have hz1 : ((w.alloc (.cells #[.int .i64 p, .int .i64 d, .slice A ts.length c] 45)).alloc (.cells #[.int .i64 0, .int .i64 0, .slice none 0 0] 45)).heap.size = w.heap.size + 1 + 1 := by simp
  obtain ⟨b0, oo0, A0, c0, hA0, l0, l1, _, _⟩ := kP_at hL0 0 (by omega)
  rw [(hpd 0 (by omega)).2] at l1
  simp only [Nat.zero_mul, Nat.add_zero] at l0 l1
  have zb0 := World.block_lt_of_cell? _ _ l1
  have zxb := World.block_lt_of_cell? _ _ s1
  simp only [] at zb0 zxb
  have l1' := pw_cell_below hb01 l1
  have s1' := pw_cell_below hb01 s1
  have hbw0 : Below w.heap.size w (w.alloc (.cells #[.int .i64 p, .int .i64 d, .slice A ts.length c] 45)) := below_alloc2 _ _
  have R3 := Lib.hid r3
  have HE := fun W => zeroPoly_c p D W
  have hml : (0 : Int) < m := by omega
  have hml2 : 0 < m := by omega
  clear r3 l0
  subst hA0
  go_enter Try.func63, Try.ntmps63
  go_upto_region 1 with fail
  generalize hW0 : (w.alloc (.cells #[.int .i64 p, .int .i64 d, .slice A ts.length c] 45)) = W0 at *
  generalize hW1 : (W0.alloc (.cells #[.int .i64 0, .int .i64 0, .slice none 0 0] 45)) = W1 at *
  generalize hrb : w.heap.size + 1 = rb at *
  have zb1 : b0 < W1.heap.size := by omega
  have zx1 : w.heap.size < W1.heap.size := by omega
  go_cut [5] from 15 to 21 (fun v5 wx => ∃ (ob : Nat) (B : Option Addr) (cb : Nat), v5 = .pointer (some ⟨ob, 0, none⟩) ∧ AccK kT W0 ob rb p D 121 wx B cb [])
  case first =>
    go_region_held3 (fun w' => w'.cell? ⟨w.heap.size, 0, none⟩ = some (.int .i64 p) ∧ w'.cell? ⟨b0, oo0 + 1, none⟩ = some (.int .i64 D)) ((refine ⟨?_, ?_⟩ <;> ((repeat (refine cell_far2 ?_ (by dsimp only; omega))); (first | assumption | (exact cell_alloc (by assumption) _))))) (first | (go_at_call 106; (with_reducible refine call_makesP (HE _) ?_); intro x B c hb hl hR hC'; have hv : Below W1.heap.size W1 x.W := (by repeat (first | (with_reducible assumption) | (with_reducible exact Below.refl _ _) | ((with_reducible refine Below.alloc ?_ ?_ _); rotate_left; (focus (first | omega | (simp; done) | (simp; omega)))) | (with_reducible refine Below.drew ?_) | ((with_reducible refine Below.setCell ?_ ?_ _); rotate_left; (focus (first | omega | (simp; done) | (simp; omega)))) | ((with_reducible refine below_hop (by assumption) ?_ ?_); rotate_left; (focus (first | omega | (simp; done) | (simp; omega)))) | ((with_reducible refine bel_later _ ?_ ?_); rotate_left; (focus (first | omega | (simp; done) | (simp; omega)))))); have zz := hb.size; (try simp at zz); have y0 := pw_cell_below hv s1'; have y1 := pw_cell_below hv l1'))
    all_goals (go_wp2_with fail; go_meet)
    all_goals refine ⟨_, B, c, rfl, ?_⟩
    all_goals first | exact AccK.behind (hb01.trans (hv.mono hb01.size)) (by omega) hb01.size (by show rb < W1.heap.size; omega) hR (pw_cell_below hv r0) (pw_cell_below hv r1) (pw_cell_below hv r2) (fun j => (hv.frozen (p := ⟨rb, j, none⟩) (by show rb < W1.heap.size; omega)).trans (R3.out j)) | (have hq := AccK.setN (p' := p) (n' := D) (AccK.zero (T := 45) hb01 (by omega) r0 r1 r2 R3.out) (below_undrewS hb) hR; rw [hz1] at hq; exact hq)
  case rest =>
    obtain ⟨ob, B0, k0, rfl, hS⟩ := hcut
    have HLEN := Lib.hid hlen
    have HPD := Lib.hid hpd
    have HCAN := Lib.hid hcan
    have HTS := Lib.hid hts
    have HP := Lib.hid (And.intro hp hp')
    clear hlen hpd hcan hts r0 r1 r2 hb01 HE l1' s1' zb1 zx1
    generalize wc = V at *
    have hbV := hS.bel.size
    have hbad := hS.badlt
    have hS0 : Kd.S kQ 49 (V.alloc (.cells #[] 49)) W0.heap.size (fun k => ¬ badK W0.heap.size [ob, rb] [.slice B0 ([] : List T4).length k0] k) (.slice (some ⟨V.heap.size, 0, none⟩) 0 0) [] :=
      S_zeroQ (fun h => Nat.lt_irrefl _ (hbad _ h)) (heap_alloc_last _ _) hbV
    have hSV := hS.below (below_alloc2 V (.cells #[] 49))
    have hK1 := fun W => constant_c p D 1 W hp hp' (by omega) (by omega)
    go_wp2
    generalize V.alloc (.cells #[] 49) = V1 at *
    go_loopg [25, 6] m (fun g v25 v6 w' => ∃ (i : Nat) (P : Option Addr) (cP : Nat), i + g = m ∧ v25 = .int .i64 i ∧ v6 = .slice P i cP ∧ AccK kT W0 ob rb p D 121 w' B0 k0 [] ∧ Kd.S kQ 49 w' W0.heap.size (fun k => ¬ badK W0.heap.size [ob, rb] [.slice B0 ([] : List T4).length k0] k) (.slice P i cP) ((List.range i).map fun j => powsR p D ((tss ps).getD j []) 1))
    case atStart => exact ⟨0, _, 0, by omega, rfl, rfl, hSV, hS0⟩
    case round =>
      clear hS0 hSV hS hbad hbV
      obtain ⟨i, P, cP, hik, rfl, rfl, hS, hQ⟩ := hrel
      have HIK := Lib.hid hik
      clear hik
      by_cases hlt : i < m
      · obtain ⟨b2, o2', A2, c2, hB, p0, p1, p2, hD⟩ := kP_at hL0 i hlt
        obtain ⟨rfl, rfl⟩ : b0 = b2 ∧ oo0 = o2' := by
          injection hB with hB
          injection hB with h1 h2
          exact ⟨h1, h2⟩
        rw [(HPD.out i hlt).1] at p0
        rw [(HPD.out i hlt).2] at p1
        have p0 := pw_cell_below hS.bel p0
        have p1 := pw_cell_below hS.bel p1
        have p2 := pw_cell_below hS.bel p2
        have hi0 : (0 : Int) ≤ i := by omega
        have hi1 : (i : Int) < m := by omega
        have hin : ((i : Int)).toNat = i := by omega
        have hrg : ((List.range (i + 1)).map fun j => powsR p D ((tss ps).getD j []) 1) = ((List.range i).map fun j => powsR p D ((tss ps).getD j []) 1) ++ [[⟨p, D, putT p [] z3 1⟩]] := by
          rw [List.range_succ, List.map_append]
          rfl
        have hxl : ((List.range i).map fun j => powsR p D ((tss ps).getD j []) 1).length = i := by simp
        have HRG := Lib.hid hrg
        have HXL := Lib.hid hxl
        clear hrg hxl
        generalize ((List.range i).map fun j => powsR p D ((tss ps).getD j []) 1) = xs at *
        generalize putT p [] z3 1 = one at *
        generalize ps.getD i zP = y at *
        have hbad := hS.badlt
        have HS := Lib.hid hS
        clear hS
        go_wp2_with (first
          | (go_at_call 107; (with_reducible refine to_makesP (V := wr.alloc (.cells #[.int .i64 p, .int .i64 D, .slice A2 y.ts.length c2] 45)) (Below.refl _ _) (hK1 _) ?_); intro w8 B8 c8 hb8 hb8' hl8 hR8; have hq8 : Below wr.heap.size wr w8 := (below_alloc2 wr (.cells #[.int .i64 p, .int .i64 D, .slice A2 y.ts.length c2] 45)).trans (hb8.mono (by simp)); have hq9 : Below wr.heap.size wr (w8.alloc (.cells #[.int .i64 p, .int .i64 D, .slice B8 one.length c8] 45)) := hq8.alloc hq8.size _; have hs8 := hq8.size; have hsb := HS.out.bel.size; have hlit : kP.R 45 (w8.alloc (.cells #[.int .i64 p, .int .i64 D, .slice B8 one.length c8] 45)) W0.heap.size (fun k => wr.heap.size ≤ k) (.slice (some ⟨w8.heap.size, 0, none⟩) 1 1) [⟨p, D, one⟩] := (Kd.R_mono (lit_P (p := p) (n := D) (base := W0.heap.size) (by omega) (Kd.R_lower (Kd.R_mono (Kd.R_bound hR8) (ok' := fun k => wr.heap.size ≤ k) (fun k hk => by have := hk.2.1; simp at this; omega)) (by simp; omega))) (fun k hk => hk.elim (fun h => h.1) (fun h => by omega))))
          | ((with_reducible refine gate_ (.call { callee := .builtin .append, args := #[.tmp 29, .tmp 36], argTypes := #[134, 134] }) rfl ?_); refine Kd.S_append kQ (w0 := (w8.alloc (.cells #[.int .i64 p, .int .i64 D, .slice B8 one.length c8] 45))) (W := (w8.alloc (.cells #[.int .i64 p, .int .i64 D, .slice B8 one.length c8] 45))) W0.heap.size rfl (.tmp 29) (.tmp 36) 134 49 (.slice none 0 0) 24 rfl Try.underlying134 infoQ rfl (by decide) (by decide) (.slice P i cP) xs [⟨p, D, one⟩] [.slice (some ⟨w8.heap.size, 0, none⟩) 1 1] (fun k => ¬ badK W0.heap.size [ob, rb] [.slice B0 ([] : List T4).length k0] k) (fun k => wr.heap.size ≤ k) rfl (by first | rfl | (rw [World.size_alloc]; rfl) | (simp; rfl)) ⟨_, rfl, hlit⟩ (fun k hk => ⟨fun h => by have := hbad k h; omega, fun h => by have := Kd.S_lt hQ k h.symm; omega⟩) (fun k hk h => by have := hbad k h; simp at hk; omega) (Kd.S_mono (Kd.S_old hQ hq9) (fun k hk => ⟨hk.1, by omega⟩)) (Below.refl _ _) (by simp; omega) (by have := HXL.out; omega) ?_; intro v1 w1 hS1 hB1 hg1 hat1; obtain ⟨P1, c1, rfl, hl1, _⟩ := Kd.S_reads hS1))
        go_roundg (gk - 1)
        case measure => have := HIK.out; omega
        case rel =>
          have hlen : (xs ++ [[(⟨p, D, one⟩ : PV)]]).length = i + 1 := by rw [List.length_append, HXL.out]; rfl
          rw [hlen] at hS1
          rw [HXL.out]
          refine ⟨i + 1, P1, c1, by have := HIK.out; omega, by go_num, rfl, ?_, by rw [HRG.out]; exact hS1⟩
          exact HS.out.keepsB (bad := fun k => badK W0.heap.size [ob, rb] [.slice B0 ([] : List T4).length k0] k) ((Keeps.below hq9).grown hg1 (fun k hk => (Kd.S_R hQ).1 k hk)) (fun _ h => h)
      · have hie : m = i := by have := HIK.out; omega
        subst hie
        have hxl : ((List.range m).map fun j => powsR p D ((tss ps).getD j []) 1).length = m := by simp
        obtain ⟨g, cap, hv, _, _, _⟩ := Kd.S_form hQ (by rw [hxl]; omega)
        obtain ⟨rfl, rfl⟩ : P = some ⟨g, 0, none⟩ ∧ cP = cap := by
          injection hv with h1 h2 h3
          exact ⟨h1, h3⟩
        clear hv
        have hP0 : Pows wr W0.heap.size (badK W0.heap.size [ob, rb] [.slice B0 ([] : List T4).length k0]) g m cP ((List.range m).map fun j => powsR p D ((tss ps).getD j []) 1) := ⟨hQ, hS.badlt⟩
        have hG0 : goodP p D (tss ps) ((List.range m).map fun j => powsR p D ((tss ps).getD j []) 1) := fun j hj => ⟨1, Nat.le_refl _, by rw [hxl] at hj; simp [List.getD_eq_getElem?_getD, hj]⟩
        have u0 := pw_cell_below hS.bel s0
        clear hQ hxl hK1
        generalize ((List.range m).map fun j => powsR p D ((tss ps).getD j []) 1) = pss0 at *
        go_wp2
        go_loopg [42] ts.length (fun gk v42 w' => ∃ (i : Nat) (B : Option Addr) (cb : Nat) (pss : List (List PV)), i + gk = ts.length ∧ v42 = .int .i64 i ∧ AccK kT W0 ob rb p D 121 w' B cb (subL p (tss ps) (ts.take i)) ∧ Pows w' W0.heap.size (badK W0.heap.size [ob, rb] [.slice B (subL p (tss ps) (ts.take i)).length cb]) g m cP pss ∧ goodP p D (tss ps) pss)
        case atStart => exact ⟨0, B0, k0, pss0, by omega, rfl, by rw [List.take_zero]; exact hS, by rw [List.take_zero]; exact hP0, hG0⟩
        case round =>
          clear hP0 hG0 hS u0
          obtain ⟨i, B, cb, pss, hik, rfl, hS, hP, hG⟩ := hrel
          have HIK := Lib.hid hik
          clear hik
          by_cases hlt : i < ts.length
          · obtain ⟨bt, ot, hA, q0, q1, q2, q3⟩ := kT_at hC0 i hlt z4
            subst hA
            have q0 := pw_cell_below hS.bel q0
            have q1 := pw_cell_below hS.bel q1
            have q2 := pw_cell_below hS.bel q2
            have q3 := pw_cell_below hS.bel q3
            have hi0 : (0 : Int) ≤ i := by omega
            have hi1 : (i : Int) < ts.length := by omega
            have hin : ((i : Int)).toNat = i := by omega
            have hbt := HBT.out _ (getD_mem4 hlt)
            have hsl := subL_lenT HP.out.1 HCAN.out HBT.out i
            have hst := subL_step p (tss ps) hlt
            have hcs := subL_canon HP.out.1 (tss ps) (ts.take i)
            have hv := HTS.out.2 _ (getD_mem4 hlt)
            generalize ts.getD i z4 = t at *
            generalize subL p (tss ps) (ts.take i) = acc at *
            have HST := Lib.hid hst
            have HCS := Lib.hid hcs
            have HBO := Lib.hid hbt
            clear hst hcs hbt
            obtain ⟨V2, hV2, hb9, n0, n1, n2, n3⟩ := four_one wr t 121
            have HZV2 := Lib.hid (show V2.heap.size = wr.heap.size + 1 by rw [← hV2]; simp)
            have ce : ∀ k, k < 3 → V2.cell? ⟨wr.heap.size, k, none⟩ = some (.int .u8 ((t.e.at k).toNat : Int)) := by
              intro k hk
              rcases lt3 hk with rfl | rfl | rfl
              · exact n0
              · exact n1
              · exact n2
            have hbel9 := hS.bel.trans (hb9.mono hS.bel.size)
            have s1' := pw_cell_below hbel9 s1
            have l1' := pw_cell_below hbel9 l1
            have e0 : oneTermW p (tss ps) t 0 = putT p [] z3 t.v := rfl
            have hCn : ∀ W, Calls Try.prog 107 #[.int .i64 p, .int .i64 D, .int .i64 t.v] W (MakesP p D 121 (oneTermW p (tss ps) t 0) W) := fun W => by rw [e0]; exact constant_c p D t.v W HP.out.1 HP.out.2 (by have := HP.out; omega) (by have := HP.out; omega)
            clear e0
            have zb9 := hbel9.size
            have zb1 : b0 < V2.heap.size := by omega
            have zx1 : w.heap.size < V2.heap.size := by omega
            have zt1 : wr.heap.size < V2.heap.size := by have := HZV2.out; omega
            go_upto_region 11 with fail
            go_cut [11] from 46 to 54 (fun v11 wx => ∃ (nb : Nat) (B' : Option Addr) (c' : Nat), v11 = .pointer (some ⟨nb, 0, none⟩) ∧ Below V2.heap.size V2 wx ∧ Box3 wx V2.heap.size nb p D B' c' (oneTermW p (tss ps) t 0))
            case first =>
              go_region_held3 (fun w' => w'.cell? ⟨w.heap.size, 0, none⟩ = some (.int .i64 p) ∧ w'.cell? ⟨b0, oo0 + 1, none⟩ = some (.int .i64 D) ∧ w'.cell? ⟨wr.heap.size, 3, none⟩ = some (.int .i64 t.v)) ((refine ⟨?_, ?_, ?_⟩ <;> ((repeat (refine cell_far2 ?_ (by dsimp only; omega))); (first | assumption | (exact cell_alloc (by assumption) _))))) (first | (go_at_call 107; (with_reducible refine call_makesP (hCn _) ?_); intro x B' c' hb hl hR hC'; have hv2 : Below V2.heap.size V2 x.W := (by repeat (first | (with_reducible assumption) | (with_reducible exact Below.refl _ _) | ((with_reducible refine Below.alloc ?_ ?_ _); rotate_left; (focus (first | omega | (simp; done) | (simp; omega)))) | (with_reducible refine Below.drew ?_) | ((with_reducible refine Below.setCell ?_ ?_ _); rotate_left; (focus (first | omega | (simp; done) | (simp; omega)))) | ((with_reducible refine below_hop (by assumption) ?_ ?_); rotate_left; (focus (first | omega | (simp; done) | (simp; omega)))) | ((with_reducible refine bel_later _ ?_ ?_); rotate_left; (focus (first | omega | (simp; done) | (simp; omega)))))); have zz := hb.size; (try simp at zz); have y0 := pw_cell_below hv2 s1'; have y1 := pw_cell_below hv2 l1'; have y3 := pw_cell_below hv2 n3))
              all_goals (go_wp2_with fail; go_meet)
              all_goals refine ⟨_, B', c', rfl, ?_, ?_⟩
              all_goals first | exact hv2.alloc hv2.size _ | exact below_set3 hv2 (Nat.le_refl _) _ _ _ | exact Box3.behind (Nat.le_refl _) hb.size hR | exact Box3.setN (Box3.zero V2) (below_undrewS hb) (by simp) hR
            case rest =>
              obtain ⟨nb, Bn, cn, rfl, hbx, hX⟩ := hcut
              generalize wc = V3 at *
              have hbx9 : Below wr.heap.size wr V3 := hb9.trans (hbx.mono hb9.size)
              have hS3 := hS.below hbx9
              have hnb := hX.hnb
              have hnl := hX.lo
              have hP3 : Pows V3 W0.heap.size (badK W0.heap.size [ob, rb, wr.heap.size, nb] [.slice B acc.length cb, .slice Bn (oneTermW p (tss ps) t 0).length cn]) g m cP pss :=
                hP.to hbx9 (badK_more (by intro k hk; simp at hk ⊢; omega) (by
                  intro v hv
                  simp only [List.mem_cons, List.not_mem_nil, or_false] at hv
                  rcases hv with rfl | rfl
                  · exact .inl (by simp)
                  · exact .inr fun k hk => by have := (hX.own k hk).1; omega)) (badK_lt hS3.bel.size (by
                  intro k hk
                  have h1 := hS3.lo
                  have h2 := hS3.lr
                  have h3 := hbx.size
                  simp at hk
                  omega) (by
                  intro v hv
                  simp only [List.mem_cons, List.not_mem_nil, or_false] at hv
                  rcases hv with rfl | rfl
                  · exact hS3.ownlt
                  · exact fun k hk => (hX.own k hk).2.1))
              have hnb3 : ¬ badK W0.heap.size [ob, rb, wr.heap.size] [.slice B acc.length cb] nb := fun h => by
                have := badK_lt (n := V2.heap.size) hbel9.size (by
                  intro k hk
                  have h1 := hS.lo
                  have h2 := hS.lr
                  have h3 := hb9.size
                  simp at hk
                  omega) (by
                  intro v hv
                  simp only [List.mem_cons, List.not_mem_nil, or_false] at hv
                  subst hv
                  exact fun k hk => Nat.lt_of_lt_of_le (hS.ownlt k hk) hb9.size) nb h
                omega
              have ce3 : ∀ k, k < 3 → V3.cell? ⟨wr.heap.size, k, none⟩ = some (.int .u8 ((t.e.at k).toNat : Int)) := fun k hk => pw_cell_below hbx (ce k hk)
              clear hCn hv s1' l1' q0 q1 q2 q3 n0 n1 n2 n3 ce hP hS hb9 hbel9 hbx hbx9 hV2 zb1 zx1 zt1
              generalize V2.heap.size = lo at *
              generalize wr.heap.size = tb at *
              have HS3 := Lib.hid hS3
              clear hS3
              go_wp2
              go_loopg [57] m (fun gk v57 w' => ∃ (k : Nat) (B' : Option Addr) (c' : Nat) (pss' : List (List PV)), k + gk = m ∧ v57 = .int .i64 k ∧ Keeps (badK W0.heap.size [ob, rb, tb] [.slice B acc.length cb]) V3 w' ∧ Pows w' W0.heap.size (badK W0.heap.size [ob, rb, tb, nb] [.slice B acc.length cb, .slice B' (oneTermW p (tss ps) t k).length c']) g m cP pss' ∧ goodP p D (tss ps) pss' ∧ Box3 w' lo nb p D B' c' (oneTermW p (tss ps) t k))
              case atStart => exact ⟨0, Bn, cn, pss, by omega, rfl, Keeps.refl _ _, hP3, hG, hX⟩
              case round =>
                clear hX hP3 hG
                obtain ⟨k, Bn, cn, pss, hkk, rfl, hK, hP, hG, hX⟩ := hrel
                have HKK := Lib.hid hkk
                clear hkk
                have hSw := HS3.out.keepsB hK (badK_mono (by simp) (by simp))
                by_cases hk : k < m
                · obtain ⟨b2, o2', A2, c2, hB, p0, p1, p2, hD0⟩ := kP_at hL0 k hk
                  obtain ⟨rfl, rfl⟩ : b0 = b2 ∧ oo0 = o2' := by
                    injection hB with hB
                    injection hB with h1 h2
                    exact ⟨h1, h2⟩
                  rw [(HPD.out k hk).1] at p0
                  rw [(HPD.out k hk).2] at p1
                  have hbel := hSw.bel
                  have p0 := pw_cell_below hbel p0
                  have p1 := pw_cell_below hbel p1
                  have p2 := pw_cell_below hbel p2
                  have c1 := hK.cell (ce3 k (by omega)) (.inr (.inl (by simp)))
                  have hk0 : (0 : Int) ≤ k := by omega
                  have hk1 : (k : Int) < m := by omega
                  have hk3 : (k : Int) < 3 := by omega
                  have hkn : ((k : Int)).toNat = k := by omega
                  have ey := tss_get ps k
                  have hkl : k < (tss ps).length := by rw [tss_len, hpl]; exact hk
                  have hyc := ys_canon HCAN.out k
                  have hbo := bnd_one HBO.out hkl
                  have hyl := HLEN.out k hk
                  have how := oneTerm_eq HP.out.1 HCAN.out t k
                  have hol := one_len HP.out.1 HCAN.out HBO.out (Nat.le_of_lt hkl)
                  have hoc := oneTerm_canon HP.out.1 (tss ps) t k
                  rw [← how] at hol hoc
                  have hone : oneTermW p (tss ps) t (k + 1) = if (t.e.at k).toNat = 0 then oneTermW p (tss ps) t k else mulL p (oneTermW p (tss ps) t k) (powL p ((tss ps).getD k []) (t.e.at k).toNat) := rfl
                  have HGS := Lib.hid (fun (pss : List (List PV)) (n : Nat) (h : goodP p D (tss ps) pss) (hn : 1 ≤ n) => goodP_set h (i := k) hn)
                  have he := (t.e.at k).toNat_lt
                  obtain ⟨n0, hn0, hr0⟩ := hG k (by rw [hP.len]; exact hk)
                  rw [ey] at hyc hbo hone hr0 HGS
                  generalize ps.getD k zP = y at *
                  have HM1 := Lib.hid (fun (j : Nat) (hj : j < (t.e.at k).toNat) (W : World) B' c' h1 h2 => mul_c p D p D B' A2 c' c2 (powL p y.ts j) y.ts W h1 h2 (Nat.le_trans (Nat.mul_le_mul (pow_len HP.out.1 hyc hbo (Nat.le_of_lt hj)) hyl) (by omega)) (by have := pow_len HP.out.1 hyc hbo (Nat.le_of_lt hj); omega) (by omega) HP.out.1 HP.out.2 (prod_bd HP.out.2 (powL_canon HP.out.1 y.ts j) hyc))
                  have HM2 := Lib.hid (fun (W : World) B' c' B2 c2' h1 h2 => mul_c p D p D B' B2 c' c2' (oneTermW p (tss ps) t k) (powL p y.ts (t.e.at k).toNat) W h1 h2 (Nat.le_trans (Nat.mul_le_mul hol (pow_len HP.out.1 hyc hbo (Nat.le_refl _))) (by omega)) (by omega) (by have := pow_len HP.out.1 hyc hbo (Nat.le_refl _); omega) HP.out.1 HP.out.2 (prod_bd HP.out.2 hoc (powL_canon HP.out.1 y.ts _)))
                  have HONE := Lib.hid hone
                  clear hone how hol hoc hbo ey hkl
                  generalize (t.e.at k).toNat = ek at *
                  generalize oneTermW p (tss ps) t k = now at *
                  obtain ⟨V4, hV4, hb4, y0, y1, y2⟩ := poly_one wr p D (.slice A2 y.ts.length c2) ⟨rfl, rfl⟩ 45
                  have HZ4 := Lib.hid (show V4.heap.size = wr.heap.size + 1 by rw [← hV4]; simp)
                  have hK4 := hK.trans (Keeps.below hb4)
                  have hS4 := hSw.below hb4
                  have hX4 := hX.below hb4
                  have hP4 : Pows V4 W0.heap.size (badK W0.heap.size [ob, rb, tb, nb, wr.heap.size] [.slice B acc.length cb, .slice Bn now.length cn]) g m cP pss :=
                    hP.to hb4 (badK_more (by intro k hk; simp at hk ⊢; omega) (fun v hv => .inl hv)) (by
                      have h1 := hP4lt_aux hP.lt hb4.size (show wr.heap.size < V4.heap.size by have := HZ4.out; omega)
                      exact h1)
                  have hz4 : wr.heap.size < V4.heap.size := by have := HZ4.out; omega
                  have c1 := pw_cell_below hb4 c1
                  go_wp2
                  clear hV4 hP hX hSw hK hbel p0 p1 p2
                  generalize wr.heap.size = yb at *
                  generalize hKi : IntKind.i64.wrap ((ek : Nat) : Int) = Ki at *
                  obtain rfl : Ki = (ek : Int) := by rw [← hKi]; exact i64_small (by omega) (by omega)
                  clear hKi
                  go_loopg [] (ek + 1 - n0) (fun gk w' => ∃ (n : Nat) (pss' : List (List PV)), gk = ek + 1 - n ∧ 1 ≤ n ∧ pss'.getD k [] = powsR p D y.ts n ∧ goodP p D (tss ps) pss' ∧ Keeps (badK W0.heap.size [ob, rb, tb, nb, yb] [.slice B acc.length cb, .slice Bn now.length cn]) V4 w' ∧ Pows w' W0.heap.size (badK W0.heap.size [ob, rb, tb, nb, yb] [.slice B acc.length cb, .slice Bn now.length cn]) g m cP pss')
                  case atStart => exact ⟨n0, pss, rfl, hn0, hr0, hG, Keeps.refl _ _, hP4⟩
                  case round =>
                    clear hP4 hr0 hG hn0
                    obtain ⟨n, pss, hgk, hn1, hrow, hG, hK5, hP⟩ := hrel
                    have HGK := Lib.hid hgk
                    clear hgk
                    obtain ⟨oki, v, hR0, hcell, hfr, hoki, hH⟩ := hP.lend k hk
                    have hlen : (pss.getD k []).length = n := by rw [hrow, powsR_len]
                    obtain ⟨A', c', hv⟩ := Kd.R_slice hR0
                    rw [hlen] at hv
                    subst hv
                    have hR := hR0
                    rw [hrow] at hR
                    have hS5 := hS4.keepsB hK5 (badK_mono (by simp) (by simp))
                    have hDw := Kd.C_below hD0 hS5.bel
                    have zg := World.block_lt_of_cell? _ _ hcell
                    have hgb := hP.good
                    have HHH := Lib.hid hH
                    have HROW := Lib.hid (And.intro hrow hlen)
                    clear hH hrow hlen
                    by_cases hle : n ≤ ek
                    · obtain ⟨n', rfl⟩ : ∃ n', n = n' + 1 := ⟨n - 1, by omega⟩
                      obtain ⟨b5, o5, A5, c5, hA5, e0, e1, e2, hE⟩ := kP_at (Kd.R_reads' hR).2.2 n' (by rw [powsR_len]; omega)
                      rw [powsR_get p D y.ts (show n' < n' + 1 by omega)] at e0 e1 e2 hE
                      simp only [] at e0 e1 e2 hE zg
                      subst hA5
                      have y0w := hK5.cell y0 (.inr (.inl (by simp)))
                      have y1w := hK5.cell y1 (.inr (.inl (by simp)))
                      have y2w := hK5.cell y2 (.inr (.inl (by simp)))
                      have hM := HM1.out n' (by omega)
                      have hcond : (n' : Int) + 1 ≤ (ek : Int) := by omega
                      have hst := powsR_step p D y.ts (n' + 1)
                      have hown : ∀ j, (Value.slice (some ⟨b5, o5, none⟩) (n' + 1) c').ownBlock = some j → j < wr.heap.size := fun j hj => ((Kd.R_bound hR).1 j hj).2.2.1
                      have hgo : some g ≠ (Value.slice (some ⟨b5, o5, none⟩) (n' + 1) c').ownBlock := fun e => (hoki g (hR0.1 g e.symm)).2 rfl
                      have HST := Lib.hid hst
                      have HW15 := Lib.hid (show wrap64 ((n' : Nat) : Int) = (n' : Int) from by have h := i64_small (n := ((n' : Nat) : Int)) (by omega) (by omega); rw [i64_w] at h; exact h)
                      have hlt15 : (n' : Int) < (n' : Int) + 1 := by omega
                      clear hst
                      have hbl := hS5.bel.size
                      have hHM : ∀ W h1 h2, Calls Try.prog 108 #[.agg #[.int .i64 p, .int .i64 D, .slice A5 (powL p y.ts n').length c5], .agg #[.int .i64 p, .int .i64 D, .slice A2 y.ts.length c2]] W (MakesP p D 121 (powL p y.ts (n' + 1)) W) := fun W h1 h2 => hM W A5 c5 h1 h2
                      have hpl1 : (powsR p D y.ts (n' + 1)).length = n' + 1 := powsR_len _ _ _ _
                      clear hM
                      generalize powL p y.ts (n' + 1) = pn at *
                      generalize powL p y.ts n' = pl at *
                      go_wp2
                      refine start_ (n := 24) (S := fun w' => w'.cell? ⟨g, k, none⟩ = some (.slice (some ⟨b5, o5, none⟩) (n' + 1) c') ∧ w'.cell? ⟨b5, o5 + n' * 3, none⟩ = some (.int .i64 p) ∧ w'.cell? ⟨b5, o5 + n' * 3 + 1, none⟩ = some (.int .i64 D) ∧ w'.cell? ⟨b5, o5 + n' * 3 + 2, none⟩ = some (.slice A5 pl.length c5) ∧ w'.cell? ⟨yb, 0, none⟩ = some (.int .i64 p) ∧ w'.cell? ⟨yb, 1, none⟩ = some (.int .i64 D) ∧ w'.cell? ⟨yb, 2, none⟩ = some (.slice A2 y.ts.length c2)) (ds := [21, 23]) #[false, false, false, false, false, false, false, false, false, false, false, false, false, false, false, false, false, false, false, false, false, false, false, false] (by kernel_rfl) rfl rfl ⟨hcell, e0, e1, e2, y0w, y1w, y2w⟩ (fun hHeld => ?_)
                      refine pure_ (i := 0) (N := some 74) (v := ?_) (a' := ?_) #[true, false, false, false, false, false, false, false, false, false, false, false, false, false, false, false, false, false, false, false, false, false, false, false] rfl rfl (by kernel_rfl) (fun _ _ _ h => h) (Or.inl ⟨by rfl, ?_⟩) ?_ ?_
                      rotate_left
                      · intro w'
                        go_simp
                        with_reducible rfl
                      rotate_left
                      · simp only [Act.put, List.setIfInBounds_toArray, List.set_cons_zero, List.set_cons_succ, i64_w, i32_w]
                        rfl
                      refine pure_ (i := 1) (N := some 75) (v := ?_) (a' := ?_) #[true, true, false, false, false, false, false, false, false, false, false, false, false, false, false, false, false, false, false, false, false, false, false, false] rfl rfl (by kernel_rfl) (fun _ _ _ h => h) (Or.inl ⟨by rfl, ?_⟩) ?_ ?_
                      rotate_left
                      · intro w'
                        go_simp
                        with_reducible rfl
                      rotate_left
                      · simp only [Act.put, List.setIfInBounds_toArray, List.set_cons_zero, List.set_cons_succ, i64_w, i32_w]
                        rfl
                      refine pure_ (i := 2) (N := some 76) (v := ?_) (a' := ?_) #[true, true, true, false, false, false, false, false, false, false, false, false, false, false, false, false, false, false, false, false, false, false, false, false] rfl rfl (by kernel_rfl) (fun _ _ _ h => h) (Or.inl ⟨by rfl, ?_⟩) ?_ ?_
                      rotate_left
                      · intro w'
                        go_simp
                        with_reducible rfl
                      rotate_left
                      · simp only [Act.put, List.setIfInBounds_toArray, List.set_cons_zero, List.set_cons_succ, i64_w, i32_w]
                        rfl
                      refine pure_ (i := 3) (N := some 77) (v := ?_) (a' := ?_) #[true, true, true, true, false, false, false, false, false, false, false, false, false, false, false, false, false, false, false, false, false, false, false, false] rfl rfl (by kernel_rfl) (fun _ _ _ h => h) (Or.inl ⟨by rfl, ?_⟩) ?_ ?_
                      rotate_left
                      · intro w'
                        go_simp
                        with_reducible rfl
                      rotate_left
                      · simp only [Act.put, List.setIfInBounds_toArray, List.set_cons_zero, List.set_cons_succ, i64_w, i32_w]
                        rfl
                      refine pure_ (i := 4) (N := some 78) (v := ?_) (a' := ?_) #[true, true, true, true, true, false, false, false, false, false, false, false, false, false, false, false, false, false, false, false, false, false, false, false] rfl rfl (by kernel_rfl) (fun _ _ _ h => h) (Or.inl ⟨by rfl, ?_⟩) ?_ ?_
                      rotate_left
                      · intro w'
                        go_simp
                        with_reducible rfl
                      rotate_left
                      · simp only [Act.put, List.setIfInBounds_toArray, List.set_cons_zero, List.set_cons_succ, i64_w, i32_w]
                        rfl
                      refine pure_ (i := 6) (N := some 80) (v := ?_) (a' := ?_) #[true, true, true, true, true, false, true, false, false, false, false, false, false, false, false, false, false, false, false, false, false, false, false, false] rfl rfl (by kernel_rfl) (fun _ _ _ h => h) (Or.inl ⟨by rfl, ?_⟩) ?_ ?_
                      rotate_left
                      · intro w'
                        go_simp
                        with_reducible rfl
                      rotate_left
                      · simp only [Act.put, List.setIfInBounds_toArray, List.set_cons_zero, List.set_cons_succ, i64_w, i32_w]
                        rfl
                      refine pure_ (i := 7) (N := some 81) (v := ?_) (a' := ?_) #[true, true, true, true, true, false, true, true, false, false, false, false, false, false, false, false, false, false, false, false, false, false, false, false] rfl rfl (by kernel_rfl) (fun _ _ _ h => h) (Or.inl ⟨by rfl, ?_⟩) ?_ ?_
                      rotate_left
                      · intro w'
                        go_simp
                        with_reducible rfl
                      rotate_left
                      · simp only [Act.put, List.setIfInBounds_toArray, List.set_cons_zero, List.set_cons_succ, i64_w, i32_w]
                        rfl
                      refine pure_ (i := 8) (N := some 82) (v := ?_) (a' := ?_) #[true, true, true, true, true, false, true, true, true, false, false, false, false, false, false, false, false, false, false, false, false, false, false, false] rfl rfl (by kernel_rfl) (fun _ _ _ h => h) (Or.inl ⟨by rfl, ?_⟩) ?_ ?_
                      rotate_left
                      · intro w'
                        go_simp
                        with_reducible rfl
                      rotate_left
                      · simp only [Act.put, List.setIfInBounds_toArray, List.set_cons_zero, List.set_cons_succ, i64_w, i32_w]
                        rfl
                      refine pure_ (i := 10) (N := some 84) (v := ?_) (a' := ?_) #[true, true, true, true, true, false, true, true, true, false, true, false, false, false, false, false, false, false, false, false, false, false, false, false] rfl rfl (by kernel_rfl) (fun _ _ _ h => h) (Or.inl ⟨by rfl, ?_⟩) ?_ ?_
                      rotate_left
                      · intro w'
                        go_simp
                        with_reducible rfl
                      rotate_left
                      · simp only [Act.put, List.setIfInBounds_toArray, List.set_cons_zero, List.set_cons_succ, i64_w, i32_w]
                        rfl
                      refine pure_ (i := 11) (N := some 85) (v := ?_) (a' := ?_) #[true, true, true, true, true, false, true, true, true, false, true, true, false, false, false, false, false, false, false, false, false, false, false, false] rfl rfl (by kernel_rfl) (fun _ _ _ h => h) (Or.inl ⟨by rfl, ?_⟩) ?_ ?_
                      rotate_left
                      · intro w'
                        go_simp
                        with_reducible rfl
                      rotate_left
                      · simp only [Act.put, List.setIfInBounds_toArray, List.set_cons_zero, List.set_cons_succ, i64_w, i32_w]
                        rfl
                      refine pure_ (i := 12) (N := some 86) (v := ?_) (a' := ?_) #[true, true, true, true, true, false, true, true, true, false, true, true, true, false, false, false, false, false, false, false, false, false, false, false] rfl rfl (by kernel_rfl) (fun _ _ _ h => h) (Or.inl ⟨by rfl, ?_⟩) ?_ ?_
                      rotate_left
                      · intro w'
                        go_simp
                        with_reducible rfl
                      rotate_left
                      · simp only [Act.put, List.setIfInBounds_toArray, List.set_cons_zero, List.set_cons_succ, i64_w, i32_w]
                        rfl
                      refine take_ (i := 5) (N := some 79) (v := ?_) (a' := ?_) #[true, true, true, true, true, true, true, true, true, false, true, true, true, false, false, false, false, false, false, false, false, false, false, false] rfl rfl (by kernel_rfl) (fun _ _ _ h => h) (Or.inl ⟨by rfl, ?_⟩) hHeld ?_ ?_
                      rotate_left
                      · rintro w' ⟨s0, s1, s2, s3, s4, s5, s6⟩
                        go_simp
                        with_reducible rfl
                      rotate_left
                      · simp only [Act.put, List.setIfInBounds_toArray, List.set_cons_zero, List.set_cons_succ, i64_w, i32_w]
                        rfl
                      refine take_ (i := 9) (N := some 83) (v := ?_) (a' := ?_) #[true, true, true, true, true, true, true, true, true, true, true, true, true, false, false, false, false, false, false, false, false, false, false, false] rfl rfl (by kernel_rfl) (fun _ _ _ h => h) (Or.inl ⟨by rfl, ?_⟩) hHeld ?_ ?_
                      rotate_left
                      · rintro w' ⟨s0, s1, s2, s3, s4, s5, s6⟩
                        go_simp
                        with_reducible rfl
                      rotate_left
                      · simp only [Act.put, List.setIfInBounds_toArray, List.set_cons_zero, List.set_cons_succ, i64_w, i32_w]
                        rfl
                      refine take_ (i := 13) (N := some 87) (v := ?_) (a' := ?_) #[true, true, true, true, true, true, true, true, true, true, true, true, true, true, false, false, false, false, false, false, false, false, false, false] rfl rfl (by kernel_rfl) (fun _ _ _ h => h) (Or.inl ⟨by rfl, ?_⟩) hHeld ?_ ?_
                      rotate_left
                      · rintro w' ⟨s0, s1, s2, s3, s4, s5, s6⟩
                        go_simp
                        with_reducible rfl
                      rotate_left
                      · simp only [Act.put, List.setIfInBounds_toArray, List.set_cons_zero, List.set_cons_succ, i64_w, i32_w]
                        rfl
                      refine pure_ (i := 14) (N := some 88) (v := ?_) (a' := ?_) #[true, true, true, true, true, true, true, true, true, true, true, true, true, true, true, false, false, false, false, false, false, false, false, false] rfl rfl (by kernel_rfl) (fun _ _ _ h => h) (Or.inl ⟨by rfl, ?_⟩) ?_ ?_
                      rotate_left
                      · intro w'
                        go_simp
                        with_reducible rfl
                      rotate_left
                      · simp only [Act.put, List.setIfInBounds_toArray, List.set_cons_zero, List.set_cons_succ, i64_w, i32_w]
                        rfl
                      refine pure_ (i := 15) (N := some 89) (v := ?_) (a' := ?_) #[true, true, true, true, true, true, true, true, true, true, true, true, true, true, true, true, false, false, false, false, false, false, false, false] rfl rfl (by kernel_rfl) (fun _ _ _ h => h) (Or.inl ⟨by rfl, ?_⟩) ?_ ?_
                      rotate_left
                      · intro w'
                        go_simp
                        with_reducible rfl
                      rotate_left
                      · simp only [Act.put, List.setIfInBounds_toArray, List.set_cons_zero, List.set_cons_succ, i64_w, i32_w, HW15.out]
                        rfl
                      refine pure_ (i := 16) (N := some 90) (v := ?_) (a' := ?_) #[true, true, true, true, true, true, true, true, true, true, true, true, true, true, true, true, true, false, false, false, false, false, false, false] rfl rfl (by kernel_rfl) (fun _ _ _ h => h) (Or.inl ⟨by rfl, ?_⟩) ?_ ?_
                      rotate_left
                      · intro w'
                        go_simp
                        with_reducible rfl
                      rotate_left
                      · simp only [Act.put, List.setIfInBounds_toArray, List.set_cons_zero, List.set_cons_succ, i64_w, i32_w]
                        rfl
                      refine take_ (i := 17) (N := some 91) (v := ?_) (a' := ?_) #[true, true, true, true, true, true, true, true, true, true, true, true, true, true, true, true, true, true, false, false, false, false, false, false] rfl rfl (by kernel_rfl) (fun _ _ _ h => h) (Or.inl ⟨by rfl, ?_⟩) hHeld ?_ ?_
                      rotate_left
                      · rintro w' ⟨s0, s1, s2, s3, s4, s5, s6⟩
                        go_simp
                        with_reducible rfl
                      rotate_left
                      · simp only [Act.put, List.setIfInBounds_toArray, List.set_cons_zero, List.set_cons_succ, i64_w, i32_w]
                        rfl
                      refine take_ (i := 18) (N := some 92) (v := ?_) (a' := ?_) #[true, true, true, true, true, true, true, true, true, true, true, true, true, true, true, true, true, true, true, false, false, false, false, false] rfl rfl (by kernel_rfl) (fun _ _ _ h => h) (Or.inl ⟨by rfl, ?_⟩) hHeld ?_ ?_
                      rotate_left
                      · rintro w' ⟨s0, s1, s2, s3, s4, s5, s6⟩
                        go_simp
                        with_reducible rfl
                      rotate_left
                      · simp only [Act.put, List.setIfInBounds_toArray, List.set_cons_zero, List.set_cons_succ, i64_w, i32_w]
                        rfl
                      refine one_ (i := 19) (N := some 93) #[true, true, true, true, true, true, true, true, true, true, true, true, true, true, true, true, true, true, true, true, false, false, false, false] rfl rfl (by kernel_rfl) (by decide) (fun K hK => ?_)
                      refine goes_ Try.func108 (by kernel_rfl) rfl #[.agg #[.int .i64 p, .int .i64 D, .slice A5 pl.length c5], .agg #[.int .i64 p, .int .i64 D, .slice A2 y.ts.length c2]] (by rfl) rfl rfl (by simp only [List.map_toArray, List.map_cons, List.map_nil]; rfl) ?_
                      with_reducible refine (hHM _ (Kd.C_below hE (Below.refl _ _).drew) (Kd.C_below hDw (Below.refl _ _).drew)).mono ?_
                      rintro e xw ⟨A9, c9, rfl, hR9, hb9'⟩
                      refine ⟨_, rfl, ?_⟩
                      have hqx := below_undrewS hb9'
                      refine hK.out _ _ ⟨pw_cell_below hqx hcell, pw_cell_below hqx e0, pw_cell_below hqx e1, pw_cell_below hqx e2, pw_cell_below hqx y0w, pw_cell_below hqx y1w, pw_cell_below hqx y2w⟩ (fun hHeld => ?_)
                      clear hK K
                      refine norm_ (a' := ?_) ?_ ?_
                      rotate_left
                      · show Act.put _ (some 93) _ = _
                        simp only [Act.put, List.setIfInBounds_toArray, List.set_cons_zero, List.set_cons_succ, i64_w, i32_w]
                        rfl
                      refine one_ (i := 20) (N := some 94) #[true, true, true, true, true, true, true, true, true, true, true, true, true, true, true, true, true, true, true, true, true, false, false, false] rfl rfl (by kernel_rfl) (by decide) (fun K hK => ?_)
                      refine value_ (w1 := ?_) (v := ?_) (by rfl) rfl ?_ ?_
                      rotate_left 2
                      · go_simp
                        constructor
                        · rfl
                        · rfl
                      refine hK.out _ _ ⟨cell_alloc (pw_cell_below hqx hcell) _, cell_alloc (pw_cell_below hqx e0) _, cell_alloc (pw_cell_below hqx e1) _, cell_alloc (pw_cell_below hqx e2) _, cell_alloc (pw_cell_below hqx y0w) _, cell_alloc (pw_cell_below hqx y1w) _, cell_alloc (pw_cell_below hqx y2w) _⟩ (fun hHeld => ?_)
                      clear hK K
                      refine norm_ (a' := ?_) ?_ ?_
                      rotate_left
                      · show Act.put _ (some 94) _ = _
                        simp only [Act.put, List.setIfInBounds_toArray, List.set_cons_zero, List.set_cons_succ, i64_w, i32_w]
                        rfl
                      refine last_ (i := 21) (N := some 95) #[true, true, true, true, true, true, true, true, true, true, true, true, true, true, true, true, true, true, true, true, true, true, false, false] rfl rfl (by kernel_rfl) (by decide) (fun K hK => ?_)
                      refine Kd.R_append_step kP (w0 := xw) (W := xw) W0.heap.size (by rfl) (.tmp 79) (.tmp 94) 49 45 (.agg #[.int .i64 0, .int .i64 0, .slice none 0 0]) 40 rfl Try.underlying49 infoPV rfl (by decide) (by decide) (.slice (some ⟨b5, o5, none⟩) (n' + 1) c') (powsR p D y.ts (n' + 1)) ⟨p, D, pn⟩ [.int .i64 p, .int .i64 D, .slice A9 pn.length c9] (fun j => oki j ∨ ¬ (badK W0.heap.size [ob, rb, tb, nb, yb] [.slice B acc.length cb, .slice Bn now.length cn]) j ∧ wr.heap.size ≤ j) (fun j => wr.heap.size ≤ j) (by rfl) rfl ⟨A9, c9, rfl, Kd.R_lower (Kd.R_mono (Kd.R_bound hR9) (fun j hj => hj.2.1)) (by show W0.heap.size ≤ wr.heap.size; omega)⟩ (fun j hj => ⟨.inr ⟨fun h => by have := hP.lt j h; omega, hj⟩, fun e => by have := hown j e.symm; omega⟩) (fun j hj => .inr ⟨fun h => by have := hP.lt j h; have := hqx.size; omega, by have := hqx.size; omega⟩) (Kd.R_mono (Kd.R_below hR hqx) (fun j hj => .inl hj)) (Below.refl _ _) (by have := hqx.size; omega) (by rw [hpl1]; omega) ?_
                      intro v1 w1 hR1 hB1 hg1 hat1
                      obtain ⟨A1, c1x, rfl⟩ := Kd.R_slice hR1
                      have wc := far_cell hg1 (pw_cell_below hqx hcell) hgo
                      have wf := far_frozen hg1 ((hqx.frozen (p := ⟨g, k, none⟩) zg).trans hfr) (Nat.lt_of_lt_of_le zg hqx.size) hgo
                      refine hK.out _ _ ?_
                      clear hK K
                      refine norm_ (a' := ?_) ?_ ?_
                      rotate_left
                      · show Act.put _ (some 95) _ = _
                        simp only [Act.put, List.setIfInBounds_toArray, List.set_cons_zero, List.set_cons_succ, i64_w, i32_w]
                        rfl
                      refine pure_ (i := 22) (N := some 96) (v := ?_) (a' := ?_) #[true, true, true, true, true, true, true, true, true, true, true, true, true, true, true, true, true, true, true, true, true, true, true, false] rfl rfl (by kernel_rfl) (fun _ _ _ h => h) (Or.inl ⟨by rfl, ?_⟩) ?_ ?_
                      rotate_left
                      · intro w'
                        go_simp
                        with_reducible rfl
                      rotate_left
                      · simp only [Act.put, List.setIfInBounds_toArray, List.set_cons_zero, List.set_cons_succ, i64_w, i32_w]
                        rfl
                      refine last_ (i := 23) (N := none) #[true, true, true, true, true, true, true, true, true, true, true, true, true, true, true, true, true, true, true, true, true, true, true, true] rfl rfl (by kernel_rfl) (by decide) (fun K hK => ?_)
                      refine skip_ (w1 := ?_) (by rfl) rfl ?_ ?_
                      rotate_left
                      · go_simp
                        rfl
                      refine hK.out _ _ ?_
                      clear hK K
                      refine done_ (by kernel_rfl) ?_
                      go_wp2
                      go_roundg (gk - 1)
                      case measure => have := HGK.out; omega
                      case rel =>
                        obtain ⟨hP8, hK8⟩ := hP.put hk hR0 hoki HHH.out hqx hg1 hR1
                        have hle8 : (powsR p D y.ts (n' + 1) ++ [(⟨p, D, pn⟩ : PV)]).length = n' + 1 + 1 := by rw [List.length_append, hpl1]; rfl
                        rw [hle8] at hP8 hK8
                        rw [← HST.out] at hP8
                        exact ⟨n' + 1 + 1, _, by have := HGK.out; omega, by omega, set_getD (by rw [hP.len]; exact hk) _, HGS.out pss (n' + 1 + 1) hG (by omega), hK5.trans hK8, hP8⟩
                    · have hcond : ¬ (n : Int) ≤ (ek : Int) := by omega
                      have hKw := hK4.trans (hK5.mono (badK_mono (by simp) (by simp)))
                      have hXw := hX4.keeps hK5 (.inr (.inl (by simp))) (fun j hj => .inr (.inr ⟨_, by simp, hj⟩))
                      have hzl := hKw.size
                      by_cases he0 : ek = 0
                      · subst he0
                        have hPw : Pows wr W0.heap.size (badK W0.heap.size [ob, rb, tb, nb] [.slice B acc.length cb, .slice Bn now.length cn]) g m cP pss := hP.to (Below.refl _ _) (fun j hj => .inl (badK_mono (by simp) (by simp) j hj)) (fun j hj => hP.lt j (badK_mono (by simp) (by simp) j hj))
                        have HPW := Lib.hid (And.intro hPw (And.intro hXw hKw))
                        have hone0 := HONE.out
                        rw [if_pos rfl] at hone0
                        have HO := Lib.hid hone0
                        clear hPw hXw hKw hone0
                        go_wp2
                        go_roundg (m - k - 1)
                        case measure => have := HKK.out; omega
                        case rel => exact ⟨k + 1, Bn, cn, pss, by have := HKK.out; omega, by go_num, HPW.out.2.2, by rw [HO.out]; exact HPW.out.1, hG, by rw [HO.out]; exact HPW.out.2.1⟩
                      · obtain ⟨b5, o5, A5, c5, hA5, e0, e1, e2, hE⟩ := kP_at (Kd.R_reads' hR).2.2 ek (by rw [powsR_len]; omega)
                        rw [powsR_get p D y.ts (show ek < n by omega)] at e0 e1 e2 hE
                        simp only [] at e0 e1 e2 hE zg
                        subst hA5
                        have x0 := hXw.o0
                        have x1 := hXw.o1
                        have x2 := hXw.o2
                        have x3 := hXw.o3
                        have zlo := hXw.lo
                        have hek0 : (0 : Int) < (ek : Int) := by omega
                        have hek1 : (ek : Int) < (n : Int) := by omega
                        have hekn : ((ek : Int)).toNat = ek := by omega
                        have hone0 := HONE.out
                        rw [if_neg he0] at hone0
                        have HO := Lib.hid hone0
                        have hHM : ∀ W h1 h2, Calls Try.prog 108 #[.agg #[.int .i64 p, .int .i64 D, .slice Bn now.length cn], .agg #[.int .i64 p, .int .i64 D, .slice A5 (powL p y.ts ek).length c5]] W (MakesP p D 121 (mulL p now (powL p y.ts ek)) W) := fun W h1 h2 => HM2.out W Bn cn A5 c5 h1 h2
                        have hN := (Kd.R_reads' hXw.R).2.2
                        have hsw := HS3.out.keepsB hKw (badK_mono (by simp) (by simp))
                        have hwb := hsw.bel.size
                        have hlw : lo ≤ wr.heap.size := by have := hXw.lo; omega
                        clear hone0
                        generalize mulL p now (powL p y.ts ek) = now2 at *
                        generalize powL p y.ts ek = pl at *
                        go_wp2
                        refine start_ (n := 10) (S := fun w' => w'.cell? ⟨nb, 0, none⟩ = some (.int .i64 p) ∧ w'.cell? ⟨nb, 1, none⟩ = some (.int .i64 D) ∧ w'.cell? ⟨nb, 2, none⟩ = some (.slice Bn now.length cn) ∧ w'.cell? ⟨g, k, none⟩ = some (.slice (some ⟨b5, o5, none⟩) n c') ∧ w'.cell? ⟨b5, o5 + ek * 3, none⟩ = some (.int .i64 p) ∧ w'.cell? ⟨b5, o5 + ek * 3 + 1, none⟩ = some (.int .i64 D) ∧ w'.cell? ⟨b5, o5 + ek * 3 + 2, none⟩ = some (.slice A5 pl.length c5)) (ds := [9]) #[false, false, false, false, false, false, false, false, false, false] (by kernel_rfl) rfl rfl ⟨x0, x1, x2, hcell, e0, e1, e2⟩ (fun hHeld => ?_)
                        refine pure_ (i := 1) (N := some 100) (v := ?_) (a' := ?_) #[false, true, false, false, false, false, false, false, false, false] rfl rfl (by kernel_rfl) (fun _ _ _ h => h) (Or.inl ⟨by rfl, ?_⟩) ?_ ?_
                        rotate_left
                        · intro w'
                          go_simp
                          with_reducible rfl
                        rotate_left
                        · simp only [Act.put, List.setIfInBounds_toArray, List.set_cons_zero, List.set_cons_succ, i64_w, i32_w]
                          rfl
                        refine pure_ (i := 2) (N := some 101) (v := ?_) (a' := ?_) #[false, true, true, false, false, false, false, false, false, false] rfl rfl (by kernel_rfl) (fun _ _ _ h => h) (Or.inl ⟨by rfl, ?_⟩) ?_ ?_
                        rotate_left
                        · intro w'
                          go_simp
                          with_reducible rfl
                        rotate_left
                        · simp only [Act.put, List.setIfInBounds_toArray, List.set_cons_zero, List.set_cons_succ, i64_w, i32_w]
                          rfl
                        refine pure_ (i := 3) (N := some 102) (v := ?_) (a' := ?_) #[false, true, true, true, false, false, false, false, false, false] rfl rfl (by kernel_rfl) (fun _ _ _ h => h) (Or.inl ⟨by rfl, ?_⟩) ?_ ?_
                        rotate_left
                        · intro w'
                          go_simp
                          with_reducible rfl
                        rotate_left
                        · simp only [Act.put, List.setIfInBounds_toArray, List.set_cons_zero, List.set_cons_succ, i64_w, i32_w]
                          rfl
                        refine pure_ (i := 5) (N := some 104) (v := ?_) (a' := ?_) #[false, true, true, true, false, true, false, false, false, false] rfl rfl (by kernel_rfl) (fun _ _ _ h => h) (Or.inl ⟨by rfl, ?_⟩) ?_ ?_
                        rotate_left
                        · intro w'
                          go_simp
                          with_reducible rfl
                        rotate_left
                        · simp only [Act.put, List.setIfInBounds_toArray, List.set_cons_zero, List.set_cons_succ, i64_w, i32_w]
                          rfl
                        refine take_ (i := 0) (N := some 99) (v := ?_) (a' := ?_) #[true, true, true, true, false, true, false, false, false, false] rfl rfl (by kernel_rfl) (fun _ _ _ h => h) (Or.inl ⟨by rfl, ?_⟩) hHeld ?_ ?_
                        rotate_left
                        · rintro w' ⟨s0, s1, s2, s3, s4, s5, s6⟩
                          go_simp
                          with_reducible rfl
                        rotate_left
                        · simp only [Act.put, List.setIfInBounds_toArray, List.set_cons_zero, List.set_cons_succ, i64_w, i32_w]
                          rfl
                        refine take_ (i := 4) (N := some 103) (v := ?_) (a' := ?_) #[true, true, true, true, true, true, false, false, false, false] rfl rfl (by kernel_rfl) (fun _ _ _ h => h) (Or.inl ⟨by rfl, ?_⟩) hHeld ?_ ?_
                        rotate_left
                        · rintro w' ⟨s0, s1, s2, s3, s4, s5, s6⟩
                          go_simp
                          with_reducible rfl
                        rotate_left
                        · simp only [Act.put, List.setIfInBounds_toArray, List.set_cons_zero, List.set_cons_succ, i64_w, i32_w]
                          rfl
                        refine pure_ (i := 6) (N := some 105) (v := ?_) (a' := ?_) #[true, true, true, true, true, true, true, false, false, false] rfl rfl (by kernel_rfl) (fun _ _ _ h => h) (Or.inl ⟨by rfl, ?_⟩) ?_ ?_
                        rotate_left
                        · intro w'
                          go_simp
                          with_reducible rfl
                        rotate_left
                        · simp only [Act.put, List.setIfInBounds_toArray, List.set_cons_zero, List.set_cons_succ, i64_w, i32_w]
                          rfl
                        refine take_ (i := 7) (N := some 106) (v := ?_) (a' := ?_) #[true, true, true, true, true, true, true, true, false, false] rfl rfl (by kernel_rfl) (fun _ _ _ h => h) (Or.inl ⟨by rfl, ?_⟩) hHeld ?_ ?_
                        rotate_left
                        · rintro w' ⟨s0, s1, s2, s3, s4, s5, s6⟩
                          go_simp
                          with_reducible rfl
                        rotate_left
                        · simp only [Act.put, List.setIfInBounds_toArray, List.set_cons_zero, List.set_cons_succ, i64_w, i32_w]
                          rfl
                        refine one_ (i := 8) (N := some 107) #[true, true, true, true, true, true, true, true, true, false] rfl rfl (by kernel_rfl) (by decide) (fun K hK => ?_)
                        refine goes_ Try.func108 (by kernel_rfl) rfl #[.agg #[.int .i64 p, .int .i64 D, .slice Bn now.length cn], .agg #[.int .i64 p, .int .i64 D, .slice A5 pl.length c5]] (by rfl) rfl rfl (by simp only [List.map_toArray, List.map_cons, List.map_nil]; rfl) ?_
                        with_reducible refine (hHM _ (Kd.C_below hN (Below.refl _ _).drew) (Kd.C_below hE (Below.refl _ _).drew)).mono ?_
                        rintro e xw ⟨A9, c9, rfl, hR9, hb9'⟩
                        refine ⟨_, rfl, ?_⟩
                        have hqx := below_undrewS hb9'
                        have n0x := pw_cell_below hqx x0
                        have n1x := pw_cell_below hqx x1
                        have n2x := pw_cell_below hqx x2
                        have nfx := fun j => (hqx.frozen (p := ⟨nb, j, none⟩) zlo).trans (x3 j)
                        refine hK.out _ _ ⟨pw_cell_below hqx x0, pw_cell_below hqx x1, pw_cell_below hqx x2, pw_cell_below hqx hcell, pw_cell_below hqx e0, pw_cell_below hqx e1, pw_cell_below hqx e2⟩ (fun hHeld => ?_)
                        clear hK K
                        refine norm_ (a' := ?_) ?_ ?_
                        rotate_left
                        · show Act.put _ (some 107) _ = _
                          simp only [Act.put, List.setIfInBounds_toArray, List.set_cons_zero, List.set_cons_succ, i64_w, i32_w]
                          rfl
                        refine last_ (i := 9) (N := none) #[true, true, true, true, true, true, true, true, true, true] rfl rfl (by kernel_rfl) (by decide) (fun K hK => ?_)
                        refine skip_ (w1 := ?_) (by rfl) rfl ?_ ?_
                        rotate_left
                        · go_simp
                          rfl
                        refine hK.out _ _ ?_
                        clear hK K
                        refine done_ (by kernel_rfl) ?_
                        go_wp2
                        go_roundg (m - k - 1)
                        case measure => have := HKK.out; omega
                        case rel =>
                          have hnw : ∀ j, some j = (Value.slice A9 now2.length c9).ownBlock → wr.heap.size ≤ j ∧ j < xw.heap.size := fun j hj => by
                            have h1 := (Kd.R_bound hR9).1 j hj.symm
                            exact ⟨h1.2.1, h1.2.2.1⟩
                          have hPx : Pows xw W0.heap.size (badK W0.heap.size [ob, rb, tb, nb] [.slice B acc.length cb, .slice A9 now2.length c9]) g m cP pss := hP.to hqx (badK_more (by intro j hj; simp at hj ⊢; omega) (by
                            intro v hv
                            simp only [List.mem_cons, List.not_mem_nil, or_false] at hv
                            rcases hv with rfl | rfl
                            · exact .inl (by simp)
                            · exact .inr fun j hj => (hnw j hj).1)) (badK_lt (by have := hqx.size; omega) (by
                            intro j hj
                            have h1 := hsw.lo
                            have h2 := hsw.lr
                            have h3 := hqx.size
                            have h4 := World.block_lt_of_cell? _ _ (hKw.cell (ce3 k (by omega)) (.inr (.inl (by simp))))
                            simp at hj h4
                            omega) (by
                            intro v hv
                            simp only [List.mem_cons, List.not_mem_nil, or_false] at hv
                            rcases hv with rfl | rfl
                            · exact fun j hj => Nat.lt_of_lt_of_le (hsw.ownlt j hj) hqx.size
                            · exact fun j hj => (hnw j hj).2))
                          have hbn : badK W0.heap.size [ob, rb, tb, nb] [.slice B acc.length cb, .slice A9 now2.length c9] nb := .inr (.inl (by simp))
                          refine ⟨k + 1, A9, c9, pss, by have := HKK.out; omega, by go_num, ?_, ?_, hG, ?_⟩
                          · exact (((hKw.trans (Keeps.below hqx)).setCell (p := ⟨nb, 0, none⟩) hnb3 _).setCell (p := ⟨nb, 1, none⟩) hnb3 _).setCell (p := ⟨nb, 2, none⟩) hnb3 _
                          · rw [HO.out]
                            exact ((hPx.set (p := ⟨nb, 0, none⟩) hbn _).set (p := ⟨nb, 1, none⟩) hbn _).set (p := ⟨nb, 2, none⟩) hbn _
                          · rw [HO.out]
                            exact hXw.setN hqx hlw hR9
                · have hkm : m = k := by have := HKK.out; omega
                  subst hkm
                  have htl : (tss ps).length = m := by rw [tss_len, hpl]
                  have how := oneTerm_eq HP.out.1 HCAN.out t m
                  have h7 := one_len HP.out.1 HCAN.out HBO.out (Nat.le_of_eq htl.symm)
                  have h8 := oneTerm_canon HP.out.1 (tss ps) t m
                  have hst2 := HST.out
                  rw [htl, ← how] at hst2
                  rw [← how] at h7 h8
                  have hA := fun W h1 h2 => add_c p D p D 1 B Bn cb cn acc (oneTermW p (tss ps) t m) W h1 h2 (by omega) (by omega) HP.out.1 HP.out.2 (fun u hu => by have := h8.2 u hu; have := HP.out; omega) HCS.out
                  have HST2 := Lib.hid hst2
                  have HSW := Lib.hid hSw
                  have hRX := (Kd.R_reads' hX.R).2.2
                  have hRA := (Kd.R_reads' hSw.R).2.2
                  have z0 := hSw.o0
                  have z1 := hSw.o1
                  have z2 := hSw.o2
                  have x0 := hX.o0
                  have x1 := hX.o1
                  have x2 := hX.o2
                  clear h7 h8 hst2 htl how hX hSw hK
                  generalize oneTermW p (tss ps) t m = one at *
                  generalize putsT p acc (pairsT 1 one) = acc1 at *
                  generalize wr = V5 at *
                  go_wp2_with (go_at_call 109; (with_reducible refine to_makesP (V := V5) (Below.refl _ _) (hA _ hRA hRX) ?_); intro w8 B8 c8 hb8 hb8' hl8 hR8; have y0 := (HSW.out.below hb8).o0; have y1 := (HSW.out.below hb8).o1; have y2 := (HSW.out.below hb8).o2; have y3 := (HSW.out.below hb8).o3; have HT := Lib.hid (HSW.out.set hb8 hR8))
                  go_roundg (ts.length - i - 1)
                  case measure => have := HIK.out; omega
                  case rel =>
                    have hnw : ∀ j, some j = (Value.slice B8 acc1.length c8).ownBlock → V5.heap.size ≤ j ∧ j < w8.heap.size := fun j hj => by
                      have h1 := (Kd.R_bound hR8).1 j hj.symm
                      exact ⟨h1.2.1, h1.2.2.1⟩
                    have hPx : Pows w8 W0.heap.size (badK W0.heap.size [ob, rb] [.slice B8 acc1.length c8]) g m cP pss := hP.to hb8 (badK_more (by intro j hj; simp at hj ⊢; omega) (by
                      intro v hv
                      simp only [List.mem_cons, List.not_mem_nil, or_false] at hv
                      subst hv
                      exact .inr fun j hj => (hnw j hj).1)) (badK_lt (HSW.out.below hb8).bel.size (by
                      intro j hj
                      have h1 := (HSW.out.below hb8).lo
                      have h2 := (HSW.out.below hb8).lr
                      simp at hj
                      omega) (by
                      intro v hv
                      simp only [List.mem_cons, List.not_mem_nil, or_false] at hv
                      subst hv
                      exact fun j hj => (hnw j hj).2))
                    have hbn : badK W0.heap.size [ob, rb] [.slice B8 acc1.length c8] ob := .inr (.inl (by simp))
                    exact ⟨i + 1, B8, c8, pss, by have := HIK.out; omega, by go_num, by rw [HST2.out]; exact HT.out, by rw [HST2.out]; exact ((hPx.set (p := ⟨ob, 0, none⟩) hbn _).set (p := ⟨ob, 1, none⟩) hbn _).set (p := ⟨ob, 2, none⟩) hbn _, hG⟩
          · have hie : ts.length = i := by have := HIK.out; omega
            subst hie
            rw [List.take_length] at hS
            have u0 := pw_cell_below hS.bel s0
            have o0 := hS.o0
            have o1 := hS.o1
            have o2 := hS.o2
            have x0 := hS.r0
            have x1 := hS.r1
            have x2 := hS.r2
            have x3 := hS.r3
            have hno := hS.hne
            generalize subL p (tss ps) ts = xs at *
            go_wp2
            refine bodyPost_ret (v := .agg #[.int .i64 p, .int .i64 D, .slice B xs.length cb]) (by simp [results, Try.results63, go_sem, x0, x1, x2]) rfl ⟨B, cb, rfl, ?_, ?_⟩
            · exact R_set3 hS.R (fun k hk => hk.2) (by omega) _ _ _
            · exact below_set3 (hbw0.trans (hS.bel.mono (by omega))) (by omega) _ _ _
end Go.Proofs.Ytneknpamceipiaa
