/- LeadPoly of both sides; no condition. -/
import Derived.Test.YtjhkeehfchkpaaaGreatYLead3
import Derived.Test.YtjhkeehfchkpaaaGreatYSubS
import Derived.Test.YtjhkeehfchkpaaaGreatYSub3
import Derived.Test.YtjhkeehfchkpaaaGreatYKitI
import Derived.Test.YtjhkeehfchkpaaaGreatYLawKit2
import Derived.Deep.RegionHeld3
import Derived.Deep.CutRange
set_option linter.unusedVariables false
set_option linter.unusedSimpArgs false
namespace Go.Proofs.YtjhkeehfchkpaaaGreat
open Go.RowKit Go.Proofs.YtjhkeehfchkpaaaGreatW.PrintWords
attribute [local go_sem] Later.cell Later.frozen Later.lt Later.lt_add Later.le Later.le_add Later.ne Later.ne' add_at
open Go.Proofs.YtjhkeehfchkpaaaGreatW.PrintLast
attribute [local go_sem] later_drew2 later_drewf2
theorem subst_led {p : Int} {n : Nat} {m : M9} (A : Option Addr) (c : Nat) (ts : List T4) (L : Option Addr) (cl : Nat) (W : World) (hC : kT.C W A ts.length ts) (hL : kP.C W L n (formsV p n m n)) (hts : Canon p ts) (hd : ∀ t ∈ ts, degE t.e ≤ 12) (hp : 2 ≤ p) (hp' : p ≤ 13) (h1 : 1 ≤ n) (h3 : n ≤ 3) :
    Calls Tryz.prog 138 #[.agg #[.int .i64 p, .int .i64 n, .slice A ts.length c], .slice L n cl] W (MakesP p n 80 (ledL p n m ts) W) := by
  have h := substitute_c p n n A c ts L cl (formsV p n m n) n (formsV_len _ _ _ _) W hC hL (deg_len hts.1 hd) h1 h3 hp hp' (by rw [formsV_tss]; exact formsL_canon hp m n) hts (fun i hi => by rw [formsV_get p n m hi]; exact ⟨rfl, rfl⟩) (fun i hi => by rw [formsV_get p n m hi]; have := formL_len p m i n; show (formL p m i n).length ≤ 1183; omega) (by rw [formsV_tss]; exact forms_ok h3 hd)
  rw [formsV_tss] at h
  exact h
theorem repl_led {p : Int} {n : Nat} {m : M9} (A : Option Addr) (c : Nat) (ts : List T4) (L : Option Addr) (cl : Nat) (W : World) (hC : kT.C W A ts.length ts) (hL : kP.C W L n (formsV p n m n)) (hts : Canon p ts) (hd : ∀ t ∈ ts, degE t.e ≤ 12) (hp : 2 ≤ p) (hp' : p ≤ 13) (h1 : 1 ≤ n) (h3 : n ≤ 3) :
    Calls Tryz.prog 121 #[.agg #[.int .i64 p, .int .i64 n, .slice A ts.length c], .slice L n cl] W (MakesPB p n (ledL p n m ts) true 80 W) := by
  have h := l01Replace_c p n n A c ts L cl (formsV p n m n) n (formsV_len _ _ _ _) W hC hL (deg_len hts.1 hd) h1 h3 hp hp' (by rw [formsV_tss]; exact formsL_canon hp m n) hts (fun i hi => by rw [formsV_get p n m hi]; exact ⟨rfl, rfl⟩) (fun i hi => by rw [formsV_get p n m hi]; have := formL_len p m i n; show (formL p m i n).length ≤ 1183; omega)
  rw [formsV_tss, forms_ok h3 hd, if_pos rfl] at h
  exact h
theorem Box3.lower {W : World} {base base' nb : Nat} {p n : Int} {B : Option Addr} {cb : Nat} {xs : List T4} (h : Box3 W base nb p n B cb xs) (hb : base' ≤ base) : Box3 W base' nb p n B cb xs := ⟨Nat.le_trans hb h.hnb, h.o0, h.o1, h.o2, h.o3, Kd.R_lower h.R hb⟩
theorem Box3.setL {W w1 : World} {base nb b2 : Nat} {p n p' n' : Int} {B B' : Option Addr} {cb c' : Nat} {xs ys : List T4} (h : Box3 W base nb p n B cb xs) (hb : Below W.heap.size W w1) (hbase : base ≤ W.heap.size) (hb2 : W.heap.size ≤ b2) (hR : kT.R 80 w1 b2 (fun _ => True) (.slice B' ys.length c') ys) :
    Box3 (((w1.setCell ⟨nb, 0, none⟩ (.int .i64 p')).setCell ⟨nb, 1, none⟩ (.int .i64 n')).setCell ⟨nb, 2, none⟩ (.slice B' ys.length c')) base nb p' n' B' c' ys := h.setN hb hbase (Kd.R_lower hR hb2)
theorem call_makesPB1 {p d : Int} {ts : List T4} {b : Bool} {E : Nat} {P : Program} {f : FuncId} {args : Array Value} {w : World} {R : Ending → World → Prop}
    (h : Calls P f args w (MakesPB p d ts b E w)) (k : ∀ (x : Later w) A c, Below w.heap.size w x.W → ts.length ≤ c → kT.R E x.W w.heap.size (fun _ => True) (.slice A ts.length c) ts → R (.returned (.tuple #[.agg #[.int .i64 p, .int .i64 d, .slice A ts.length c], .bool b])) x.W) : Calls P f args w R :=
  h.mono fun _ w' ⟨A, c, he, hr, hb⟩ => by
    subst he
    exact k ⟨w', hb⟩ A c hb (Kd.R_reads' hr).2.1 hr
theorem forms_read {p : Int} {n : Nat} {m : M9} {W : World} {b : Nat} {v : Value} (h : kP.R 38 W b (fun _ => True) v (formsV p n m n)) : ∃ L c, v = .slice L n c ∧ kP.C W L n (formsV p n m n) := by
  obtain ⟨L, c, rfl, _, hC⟩ := Kd.R_reads h
  rw [formsV_len] at hC ⊢
  exact ⟨L, c, rfl, hC⟩
set_option maxRecDepth 100000 in
set_option maxHeartbeats 4000000 in
theorem leadPoly_c (p : Int) (n : Nat) (A : Option Addr) (c : Nat) (ts : List T4) (m : M9) (w : World) (hC : kT.C w A ts.length ts) (hts : Canon p ts) (hd : ∀ t ∈ ts, degE t.e ≤ 12) (hp : 2 ≤ p) (hp' : p ≤ 13) (h1 : 1 ≤ n) (h3 : n ≤ 3) :
    Calls Tryz.prog 103 #[.agg #[.int .u8 (m.r0.a.toNat : Int), .int .u8 (m.r0.b.toNat : Int), .int .u8 (m.r0.c.toNat : Int), .int .u8 (m.r1.a.toNat : Int), .int .u8 (m.r1.b.toNat : Int), .int .u8 (m.r1.c.toNat : Int), .int .u8 (m.r2.a.toNat : Int), .int .u8 (m.r2.b.toNat : Int), .int .u8 (m.r2.c.toNat : Int)], .agg #[.int .i64 p, .int .i64 n, .slice A ts.length c]] w (MakesP p n 80 (ledL p n m ts) w) := by
  have k0 : (((w.alloc (.cells #[.int .u8 (m.r0.a.toNat : Int), .int .u8 (m.r0.b.toNat : Int), .int .u8 (m.r0.c.toNat : Int), .int .u8 (m.r1.a.toNat : Int), .int .u8 (m.r1.b.toNat : Int), .int .u8 (m.r1.c.toNat : Int), .int .u8 (m.r2.a.toNat : Int), .int .u8 (m.r2.b.toNat : Int), .int .u8 (m.r2.c.toNat : Int)] 93)).alloc (.cells #[.int .i64 p, .int .i64 n, .slice A ts.length c] 38)).alloc (.cells #[.int .i64 0, .int .i64 0, .slice none 0 0] 38)).cell? ⟨w.heap.size, 0, none⟩ = some (.int .u8 (m.r0.a.toNat : Int)) := bq5
  have k1 : (((w.alloc (.cells #[.int .u8 (m.r0.a.toNat : Int), .int .u8 (m.r0.b.toNat : Int), .int .u8 (m.r0.c.toNat : Int), .int .u8 (m.r1.a.toNat : Int), .int .u8 (m.r1.b.toNat : Int), .int .u8 (m.r1.c.toNat : Int), .int .u8 (m.r2.a.toNat : Int), .int .u8 (m.r2.b.toNat : Int), .int .u8 (m.r2.c.toNat : Int)] 93)).alloc (.cells #[.int .i64 p, .int .i64 n, .slice A ts.length c] 38)).alloc (.cells #[.int .i64 0, .int .i64 0, .slice none 0 0] 38)).cell? ⟨w.heap.size, 1, none⟩ = some (.int .u8 (m.r0.b.toNat : Int)) := bq5
  have k2 : (((w.alloc (.cells #[.int .u8 (m.r0.a.toNat : Int), .int .u8 (m.r0.b.toNat : Int), .int .u8 (m.r0.c.toNat : Int), .int .u8 (m.r1.a.toNat : Int), .int .u8 (m.r1.b.toNat : Int), .int .u8 (m.r1.c.toNat : Int), .int .u8 (m.r2.a.toNat : Int), .int .u8 (m.r2.b.toNat : Int), .int .u8 (m.r2.c.toNat : Int)] 93)).alloc (.cells #[.int .i64 p, .int .i64 n, .slice A ts.length c] 38)).alloc (.cells #[.int .i64 0, .int .i64 0, .slice none 0 0] 38)).cell? ⟨w.heap.size, 2, none⟩ = some (.int .u8 (m.r0.c.toNat : Int)) := bq5
  have k3 : (((w.alloc (.cells #[.int .u8 (m.r0.a.toNat : Int), .int .u8 (m.r0.b.toNat : Int), .int .u8 (m.r0.c.toNat : Int), .int .u8 (m.r1.a.toNat : Int), .int .u8 (m.r1.b.toNat : Int), .int .u8 (m.r1.c.toNat : Int), .int .u8 (m.r2.a.toNat : Int), .int .u8 (m.r2.b.toNat : Int), .int .u8 (m.r2.c.toNat : Int)] 93)).alloc (.cells #[.int .i64 p, .int .i64 n, .slice A ts.length c] 38)).alloc (.cells #[.int .i64 0, .int .i64 0, .slice none 0 0] 38)).cell? ⟨w.heap.size, 3, none⟩ = some (.int .u8 (m.r1.a.toNat : Int)) := bq5
  have k4 : (((w.alloc (.cells #[.int .u8 (m.r0.a.toNat : Int), .int .u8 (m.r0.b.toNat : Int), .int .u8 (m.r0.c.toNat : Int), .int .u8 (m.r1.a.toNat : Int), .int .u8 (m.r1.b.toNat : Int), .int .u8 (m.r1.c.toNat : Int), .int .u8 (m.r2.a.toNat : Int), .int .u8 (m.r2.b.toNat : Int), .int .u8 (m.r2.c.toNat : Int)] 93)).alloc (.cells #[.int .i64 p, .int .i64 n, .slice A ts.length c] 38)).alloc (.cells #[.int .i64 0, .int .i64 0, .slice none 0 0] 38)).cell? ⟨w.heap.size, 4, none⟩ = some (.int .u8 (m.r1.b.toNat : Int)) := bq5
  have k5 : (((w.alloc (.cells #[.int .u8 (m.r0.a.toNat : Int), .int .u8 (m.r0.b.toNat : Int), .int .u8 (m.r0.c.toNat : Int), .int .u8 (m.r1.a.toNat : Int), .int .u8 (m.r1.b.toNat : Int), .int .u8 (m.r1.c.toNat : Int), .int .u8 (m.r2.a.toNat : Int), .int .u8 (m.r2.b.toNat : Int), .int .u8 (m.r2.c.toNat : Int)] 93)).alloc (.cells #[.int .i64 p, .int .i64 n, .slice A ts.length c] 38)).alloc (.cells #[.int .i64 0, .int .i64 0, .slice none 0 0] 38)).cell? ⟨w.heap.size, 5, none⟩ = some (.int .u8 (m.r1.c.toNat : Int)) := bq5
  have k6 : (((w.alloc (.cells #[.int .u8 (m.r0.a.toNat : Int), .int .u8 (m.r0.b.toNat : Int), .int .u8 (m.r0.c.toNat : Int), .int .u8 (m.r1.a.toNat : Int), .int .u8 (m.r1.b.toNat : Int), .int .u8 (m.r1.c.toNat : Int), .int .u8 (m.r2.a.toNat : Int), .int .u8 (m.r2.b.toNat : Int), .int .u8 (m.r2.c.toNat : Int)] 93)).alloc (.cells #[.int .i64 p, .int .i64 n, .slice A ts.length c] 38)).alloc (.cells #[.int .i64 0, .int .i64 0, .slice none 0 0] 38)).cell? ⟨w.heap.size, 6, none⟩ = some (.int .u8 (m.r2.a.toNat : Int)) := bq5
  have k7 : (((w.alloc (.cells #[.int .u8 (m.r0.a.toNat : Int), .int .u8 (m.r0.b.toNat : Int), .int .u8 (m.r0.c.toNat : Int), .int .u8 (m.r1.a.toNat : Int), .int .u8 (m.r1.b.toNat : Int), .int .u8 (m.r1.c.toNat : Int), .int .u8 (m.r2.a.toNat : Int), .int .u8 (m.r2.b.toNat : Int), .int .u8 (m.r2.c.toNat : Int)] 93)).alloc (.cells #[.int .i64 p, .int .i64 n, .slice A ts.length c] 38)).alloc (.cells #[.int .i64 0, .int .i64 0, .slice none 0 0] 38)).cell? ⟨w.heap.size, 7, none⟩ = some (.int .u8 (m.r2.b.toNat : Int)) := bq5
  have k8 : (((w.alloc (.cells #[.int .u8 (m.r0.a.toNat : Int), .int .u8 (m.r0.b.toNat : Int), .int .u8 (m.r0.c.toNat : Int), .int .u8 (m.r1.a.toNat : Int), .int .u8 (m.r1.b.toNat : Int), .int .u8 (m.r1.c.toNat : Int), .int .u8 (m.r2.a.toNat : Int), .int .u8 (m.r2.b.toNat : Int), .int .u8 (m.r2.c.toNat : Int)] 93)).alloc (.cells #[.int .i64 p, .int .i64 n, .slice A ts.length c] 38)).alloc (.cells #[.int .i64 0, .int .i64 0, .slice none 0 0] 38)).cell? ⟨w.heap.size, 8, none⟩ = some (.int .u8 (m.r2.c.toNat : Int)) := bq5
  have f0 : (((w.alloc (.cells #[.int .u8 (m.r0.a.toNat : Int), .int .u8 (m.r0.b.toNat : Int), .int .u8 (m.r0.c.toNat : Int), .int .u8 (m.r1.a.toNat : Int), .int .u8 (m.r1.b.toNat : Int), .int .u8 (m.r1.c.toNat : Int), .int .u8 (m.r2.a.toNat : Int), .int .u8 (m.r2.b.toNat : Int), .int .u8 (m.r2.c.toNat : Int)] 93)).alloc (.cells #[.int .i64 p, .int .i64 n, .slice A ts.length c] 38)).alloc (.cells #[.int .i64 0, .int .i64 0, .slice none 0 0] 38)).cell? ⟨w.heap.size + 1, 0, none⟩ = some (.int .i64 p) := bq5
  have f1 : (((w.alloc (.cells #[.int .u8 (m.r0.a.toNat : Int), .int .u8 (m.r0.b.toNat : Int), .int .u8 (m.r0.c.toNat : Int), .int .u8 (m.r1.a.toNat : Int), .int .u8 (m.r1.b.toNat : Int), .int .u8 (m.r1.c.toNat : Int), .int .u8 (m.r2.a.toNat : Int), .int .u8 (m.r2.b.toNat : Int), .int .u8 (m.r2.c.toNat : Int)] 93)).alloc (.cells #[.int .i64 p, .int .i64 n, .slice A ts.length c] 38)).alloc (.cells #[.int .i64 0, .int .i64 0, .slice none 0 0] 38)).cell? ⟨w.heap.size + 1, 1, none⟩ = some (.int .i64 n) := bq5
  have f2 : (((w.alloc (.cells #[.int .u8 (m.r0.a.toNat : Int), .int .u8 (m.r0.b.toNat : Int), .int .u8 (m.r0.c.toNat : Int), .int .u8 (m.r1.a.toNat : Int), .int .u8 (m.r1.b.toNat : Int), .int .u8 (m.r1.c.toNat : Int), .int .u8 (m.r2.a.toNat : Int), .int .u8 (m.r2.b.toNat : Int), .int .u8 (m.r2.c.toNat : Int)] 93)).alloc (.cells #[.int .i64 p, .int .i64 n, .slice A ts.length c] 38)).alloc (.cells #[.int .i64 0, .int .i64 0, .slice none 0 0] 38)).cell? ⟨w.heap.size + 1, 2, none⟩ = some (.slice A ts.length c) := bq5
  have hF := fun W => formsOf_c p n m W hp hp' h3
  have hT := fun W L cl h5 h6 => subst_led (m := m) A c ts L cl W h5 h6 hts hd hp hp' h1 h3
  have hbW : Below w.heap.size w (((w.alloc (.cells #[.int .u8 (m.r0.a.toNat : Int), .int .u8 (m.r0.b.toNat : Int), .int .u8 (m.r0.c.toNat : Int), .int .u8 (m.r1.a.toNat : Int), .int .u8 (m.r1.b.toNat : Int), .int .u8 (m.r1.c.toNat : Int), .int .u8 (m.r2.a.toNat : Int), .int .u8 (m.r2.b.toNat : Int), .int .u8 (m.r2.c.toNat : Int)] 93)).alloc (.cells #[.int .i64 p, .int .i64 n, .slice A ts.length c] 38)).alloc (.cells #[.int .i64 0, .int .i64 0, .slice none 0 0] 38)) := bq2
  have r0 : (((w.alloc (.cells #[.int .u8 (m.r0.a.toNat : Int), .int .u8 (m.r0.b.toNat : Int), .int .u8 (m.r0.c.toNat : Int), .int .u8 (m.r1.a.toNat : Int), .int .u8 (m.r1.b.toNat : Int), .int .u8 (m.r1.c.toNat : Int), .int .u8 (m.r2.a.toNat : Int), .int .u8 (m.r2.b.toNat : Int), .int .u8 (m.r2.c.toNat : Int)] 93)).alloc (.cells #[.int .i64 p, .int .i64 n, .slice A ts.length c] 38)).alloc (.cells #[.int .i64 0, .int .i64 0, .slice none 0 0] 38)).cell? ⟨w.heap.size + 1 + 1, 0, none⟩ = some (.int .i64 0) := bq5
  have r1 : (((w.alloc (.cells #[.int .u8 (m.r0.a.toNat : Int), .int .u8 (m.r0.b.toNat : Int), .int .u8 (m.r0.c.toNat : Int), .int .u8 (m.r1.a.toNat : Int), .int .u8 (m.r1.b.toNat : Int), .int .u8 (m.r1.c.toNat : Int), .int .u8 (m.r2.a.toNat : Int), .int .u8 (m.r2.b.toNat : Int), .int .u8 (m.r2.c.toNat : Int)] 93)).alloc (.cells #[.int .i64 p, .int .i64 n, .slice A ts.length c] 38)).alloc (.cells #[.int .i64 0, .int .i64 0, .slice none 0 0] 38)).cell? ⟨w.heap.size + 1 + 1, 1, none⟩ = some (.int .i64 0) := bq5
  have r2 : (((w.alloc (.cells #[.int .u8 (m.r0.a.toNat : Int), .int .u8 (m.r0.b.toNat : Int), .int .u8 (m.r0.c.toNat : Int), .int .u8 (m.r1.a.toNat : Int), .int .u8 (m.r1.b.toNat : Int), .int .u8 (m.r1.c.toNat : Int), .int .u8 (m.r2.a.toNat : Int), .int .u8 (m.r2.b.toNat : Int), .int .u8 (m.r2.c.toNat : Int)] 93)).alloc (.cells #[.int .i64 p, .int .i64 n, .slice A ts.length c] 38)).alloc (.cells #[.int .i64 0, .int .i64 0, .slice none 0 0] 38)).cell? ⟨w.heap.size + 1 + 1, 2, none⟩ = some (.slice none 0 0) := bq5
  have r3 : ∀ j, (((w.alloc (.cells #[.int .u8 (m.r0.a.toNat : Int), .int .u8 (m.r0.b.toNat : Int), .int .u8 (m.r0.c.toNat : Int), .int .u8 (m.r1.a.toNat : Int), .int .u8 (m.r1.b.toNat : Int), .int .u8 (m.r1.c.toNat : Int), .int .u8 (m.r2.a.toNat : Int), .int .u8 (m.r2.b.toNat : Int), .int .u8 (m.r2.c.toNat : Int)] 93)).alloc (.cells #[.int .i64 p, .int .i64 n, .slice A ts.length c] 38)).alloc (.cells #[.int .i64 0, .int .i64 0, .slice none 0 0] 38)).frozen? ⟨w.heap.size + 1 + 1, j, none⟩ = false := fun j => bq5
  have hz : (((w.alloc (.cells #[.int .u8 (m.r0.a.toNat : Int), .int .u8 (m.r0.b.toNat : Int), .int .u8 (m.r0.c.toNat : Int), .int .u8 (m.r1.a.toNat : Int), .int .u8 (m.r1.b.toNat : Int), .int .u8 (m.r1.c.toNat : Int), .int .u8 (m.r2.a.toNat : Int), .int .u8 (m.r2.b.toNat : Int), .int .u8 (m.r2.c.toNat : Int)] 93)).alloc (.cells #[.int .i64 p, .int .i64 n, .slice A ts.length c] 38)).alloc (.cells #[.int .i64 0, .int .i64 0, .slice none 0 0] 38)).heap.size = w.heap.size + 1 + 1 + 1 := by simp
  have hC3 := Kd.C_below hC hbW
  have HZ := Lib.hid hz
  clear hz
  go_enter Tryz.func103, Tryz.ntmps103
  go_wp2
  generalize hV : (((w.alloc (.cells #[.int .u8 (m.r0.a.toNat : Int), .int .u8 (m.r0.b.toNat : Int), .int .u8 (m.r0.c.toNat : Int), .int .u8 (m.r1.a.toNat : Int), .int .u8 (m.r1.b.toNat : Int), .int .u8 (m.r1.c.toNat : Int), .int .u8 (m.r2.a.toNat : Int), .int .u8 (m.r2.b.toNat : Int), .int .u8 (m.r2.c.toNat : Int)] 93)).alloc (.cells #[.int .i64 p, .int .i64 n, .slice A ts.length c] 38)).alloc (.cells #[.int .i64 0, .int .i64 0, .slice none 0 0] 38)) = V at *
  generalize hrb : w.heap.size + 1 + 1 = rb at *
  generalize hfb : w.heap.size + 1 = fb at *
  generalize hmb : w.heap.size = mb at *
  clear hV
  refine start_ (n := 9) (S := fun w' => w'.cell? ⟨mb, 0, none⟩ = some (.int .u8 (m.r0.a.toNat : Int)) ∧ w'.cell? ⟨mb, 1, none⟩ = some (.int .u8 (m.r0.b.toNat : Int)) ∧ w'.cell? ⟨mb, 2, none⟩ = some (.int .u8 (m.r0.c.toNat : Int)) ∧ w'.cell? ⟨mb, 3, none⟩ = some (.int .u8 (m.r1.a.toNat : Int)) ∧ w'.cell? ⟨mb, 4, none⟩ = some (.int .u8 (m.r1.b.toNat : Int)) ∧ w'.cell? ⟨mb, 5, none⟩ = some (.int .u8 (m.r1.c.toNat : Int)) ∧ w'.cell? ⟨mb, 6, none⟩ = some (.int .u8 (m.r2.a.toNat : Int)) ∧ w'.cell? ⟨mb, 7, none⟩ = some (.int .u8 (m.r2.b.toNat : Int)) ∧ w'.cell? ⟨mb, 8, none⟩ = some (.int .u8 (m.r2.c.toNat : Int)) ∧ w'.cell? ⟨fb, 0, none⟩ = some (.int .i64 p) ∧ w'.cell? ⟨fb, 1, none⟩ = some (.int .i64 n) ∧ w'.cell? ⟨fb, 2, none⟩ = some (.slice A ts.length c)) (ds := [8]) #[false, false, false, false, false, false, false, false, false] (by kernel_rfl) rfl rfl ⟨k0, k1, k2, k3, k4, k5, k6, k7, k8, f0, f1, f2⟩ (fun hHeld => ?_)
  refine pure_ (i := 1) (N := some 6) (v := ?_) (a' := ?_) #[false, true, false, false, false, false, false, false, false] rfl rfl (by kernel_rfl) (fun _ _ _ h => h) (Or.inl ⟨by rfl, ?_⟩) ?_ ?_
  rotate_left
  · intro w'
    go_simp
    with_reducible rfl
  rotate_left
  · simp only [Act.put, List.setIfInBounds_toArray, List.set_cons_zero, List.set_cons_succ, i64_w, i32_w]
    rfl
  refine pure_ (i := 3) (N := some 8) (v := ?_) (a' := ?_) #[false, true, false, true, false, false, false, false, false] rfl rfl (by kernel_rfl) (fun _ _ _ h => h) (Or.inl ⟨by rfl, ?_⟩) ?_ ?_
  rotate_left
  · intro w'
    go_simp
    with_reducible rfl
  rotate_left
  · simp only [Act.put, List.setIfInBounds_toArray, List.set_cons_zero, List.set_cons_succ, i64_w, i32_w]
    rfl
  refine take_ (i := 0) (N := some 5) (v := ?_) (a' := ?_) #[true, true, false, true, false, false, false, false, false] rfl rfl (by kernel_rfl) (fun _ _ _ h => h) (Or.inl ⟨by rfl, ?_⟩) hHeld ?_ ?_
  rotate_left
  · rintro w' ⟨s0, s1, s2, s3, s4, s5, s6, s7, s8, s9, s10, s11⟩
    go_simp
    with_reducible rfl
  rotate_left
  · simp only [Act.put, List.setIfInBounds_toArray, List.set_cons_zero, List.set_cons_succ, i64_w, i32_w]
    rfl
  refine take_ (i := 2) (N := some 7) (v := ?_) (a' := ?_) #[true, true, true, true, false, false, false, false, false] rfl rfl (by kernel_rfl) (fun _ _ _ h => h) (Or.inl ⟨by rfl, ?_⟩) hHeld ?_ ?_
  rotate_left
  · rintro w' ⟨s0, s1, s2, s3, s4, s5, s6, s7, s8, s9, s10, s11⟩
    go_simp
    with_reducible rfl
  rotate_left
  · simp only [Act.put, List.setIfInBounds_toArray, List.set_cons_zero, List.set_cons_succ, i64_w, i32_w]
    rfl
  refine take_ (i := 4) (N := some 9) (v := ?_) (a' := ?_) #[true, true, true, true, true, false, false, false, false] rfl rfl (by kernel_rfl) (fun _ _ _ h => h) (Or.inl ⟨by rfl, ?_⟩) hHeld ?_ ?_
  rotate_left
  · rintro w' ⟨s0, s1, s2, s3, s4, s5, s6, s7, s8, s9, s10, s11⟩
    go_simp
    with_reducible rfl
  rotate_left
  · simp only [Act.put, List.setIfInBounds_toArray, List.set_cons_zero, List.set_cons_succ, i64_w, i32_w]
    rfl
  refine take_ (i := 5) (N := some 10) (v := ?_) (a' := ?_) #[true, true, true, true, true, true, false, false, false] rfl rfl (by kernel_rfl) (fun _ _ _ h => h) (Or.inl ⟨by rfl, ?_⟩) hHeld ?_ ?_
  rotate_left
  · rintro w' ⟨s0, s1, s2, s3, s4, s5, s6, s7, s8, s9, s10, s11⟩
    go_simp
    with_reducible rfl
  rotate_left
  · simp only [Act.put, List.setIfInBounds_toArray, List.set_cons_zero, List.set_cons_succ, i64_w, i32_w]
    rfl
  refine one_ (i := 6) (N := some 11) #[true, true, true, true, true, true, true, false, false] rfl rfl (by kernel_rfl) (by decide) (fun K hK => ?_)
  refine goes_ Tryz.func139 (by kernel_rfl) rfl #[.int .i64 p, .int .i64 n, .agg #[.int .u8 (m.r0.a.toNat : Int), .int .u8 (m.r0.b.toNat : Int), .int .u8 (m.r0.c.toNat : Int), .int .u8 (m.r1.a.toNat : Int), .int .u8 (m.r1.b.toNat : Int), .int .u8 (m.r1.c.toNat : Int), .int .u8 (m.r2.a.toNat : Int), .int .u8 (m.r2.b.toNat : Int), .int .u8 (m.r2.c.toNat : Int)]] (by rfl) rfl rfl (by simp only [List.map_toArray, List.map_cons, List.map_nil]; rfl) ?_
  with_reducible refine (hF _).mono ?_
  rintro e xw ⟨v9, rfl, hR8, hb8'⟩
  refine ⟨_, rfl, ?_⟩
  have hqx := below_undrewL hb8'
  obtain ⟨L8, c8, rfl, hC8⟩ := forms_read hR8
  refine hK.out _ _ ⟨pw_cell_below hqx k0, pw_cell_below hqx k1, pw_cell_below hqx k2, pw_cell_below hqx k3, pw_cell_below hqx k4, pw_cell_below hqx k5, pw_cell_below hqx k6, pw_cell_below hqx k7, pw_cell_below hqx k8, pw_cell_below hqx f0, pw_cell_below hqx f1, pw_cell_below hqx f2⟩ (fun hHeld => ?_)
  clear hK K
  refine norm_ (a' := ?_) ?_ ?_
  rotate_left
  · show Act.put _ (some 11) _ = _
    simp only [Act.put, List.setIfInBounds_toArray, List.set_cons_zero, List.set_cons_succ, i64_w, i32_w]
    rfl
  refine one_ (i := 7) (N := some 12) #[true, true, true, true, true, true, true, true, false] rfl rfl (by kernel_rfl) (by decide) (fun K hK => ?_)
  refine goes_ Tryz.func138 (by kernel_rfl) rfl #[.agg #[.int .i64 p, .int .i64 n, .slice A ts.length c], .slice L8 n c8] (by rfl) rfl rfl (by simp only [List.map_toArray, List.map_cons, List.map_nil]; rfl) ?_
  with_reducible refine (hT _ L8 c8 (Kd.C_below hC3 hqx) hC8).mono ?_
  rintro e yw ⟨A9, c9, rfl, hR9, hb9'⟩
  refine ⟨_, rfl, ?_⟩
  have hqy := hqx.trans (hb9'.mono hqx.size)
  have z0 := pw_cell_below hqy r0
  have z1 := pw_cell_below hqy r1
  have z2 := pw_cell_below hqy r2
  have z3 := fun j => (hqy.frozen (p := ⟨rb, j, none⟩) (by show rb < _; have := HZ.out; omega)).trans (r3 j)
  refine hK.out _ _ ⟨pw_cell_below hqy k0, pw_cell_below hqy k1, pw_cell_below hqy k2, pw_cell_below hqy k3, pw_cell_below hqy k4, pw_cell_below hqy k5, pw_cell_below hqy k6, pw_cell_below hqy k7, pw_cell_below hqy k8, pw_cell_below hqy f0, pw_cell_below hqy f1, pw_cell_below hqy f2⟩ (fun hHeld => ?_)
  clear hK K
  refine norm_ (a' := ?_) ?_ ?_
  rotate_left
  · show Act.put _ (some 12) _ = _
    simp only [Act.put, List.setIfInBounds_toArray, List.set_cons_zero, List.set_cons_succ, i64_w, i32_w]
    rfl
  refine last_ (i := 8) (N := none) #[true, true, true, true, true, true, true, true, true] rfl rfl (by kernel_rfl) (by decide) (fun K hK => ?_)
  refine skip_ (w1 := ?_) (by rfl) rfl ?_ ?_
  rotate_left
  · go_simp
    rfl
  refine hK.out _ _ ?_
  clear hK K
  refine done_ (by kernel_rfl) ?_
  go_wp2
  refine bodyPost_ret (v := .agg #[.int .i64 p, .int .i64 n, .slice A9 (ledL p n m ts).length c9]) (by simp [results, Tryz.results103, go_sem, z0, z1, z2, z3]) rfl ⟨A9, c9, rfl, ?_, ?_⟩
  · exact Kd.R_lower (R_set3 (Kd.R_mono (Kd.R_bound hR9) (ok' := fun k => k ≠ rb) (fun k hk => by have h4 := hk.2.1; have h5 := hqx.size; have h6 := HZ.out; show k ≠ rb; have h7 : xw.heap.size ≤ k := h4; omega)) (fun k hk => hk) (Nat.le_refl _) _ _ _) (by have h5 := hqx.size; have h6 := HZ.out; show w.heap.size ≤ xw.heap.size; omega)
  · rw [hmb]
    exact below_set3 (hbW.trans (hqy.mono (by have h6 := HZ.out; omega))) (by omega) _ _ _
end Go.Proofs.YtjhkeehfchkpaaaGreat
