/- Lists of matrices are sorted by their numbers; no condition. -/
import Derived.Test.YtimjhehagimcaaaYE1
import Derived.Test.YtimjhehagimcaaaYShelfK
import Derived.Test.YtimjhehagimcaaaYKitC
import Derived.Test.YtimjhehagimcaaaYGenL
set_option linter.unusedVariables false
set_option linter.unusedSimpArgs false
namespace Go.Proofs.Ytimjhehagimcaaa
open Go.RowKit Go.Proofs.YtimjhehagimcaaaW.PrintWords
attribute [local go_sem] Later.cell Later.frozen Later.lt Later.lt_add Later.le Later.le_add Later.ne Later.ne' add_at
namespace Srt
/-! ### worlds that have only drawn and grown -/
structure LaterG (w : World) where
  W : World
  ok : Below w.heap.size w W
  dr : w.drawn ≤ W.drawn
instance LaterG.some_ (w : World) : Nonempty (LaterG w) := ⟨⟨w, Below.refl _ _, Nat.le_refl _⟩⟩
theorem LaterG.cell (w : World) (x : LaterG w) (a : Addr) (h : a.block < w.heap.size) : x.W.cell? a = w.cell? a := x.ok.cell h
theorem LaterG.frozen (w : World) (x : LaterG w) (a : Addr) (h : a.block < w.heap.size) : x.W.frozen? a = w.frozen? a := x.ok.frozen h
theorem LaterG.lt (w : World) (x : LaterG w) (n : Nat) (h : n < w.heap.size) : (n < x.W.heap.size) = True := eq_true (Nat.lt_of_lt_of_le h x.ok.size)
theorem LaterG.lt_add (w : World) (x : LaterG w) (n k : Nat) (h : n < w.heap.size + k) : (n < x.W.heap.size + k) = True := eq_true (Nat.lt_of_lt_of_le h (Nat.add_le_add_right x.ok.size k))
theorem LaterG.keep {w : World} (x : LaterG w) {a : Addr} {v : Value} (h : w.cell? a = some v) : x.W.cell? a = some v := (x.ok.cell (World.block_lt_of_cell? w a h)).trans h
attribute [local go_sem] LaterG.cell LaterG.frozen LaterG.lt LaterG.lt_add
/-- What a call leaves that draws and lays blocks, and no more. -/
def GivesG (v : Value) (w : World) (e : Ending) (w' : World) : Prop := e = .returned v ∧ Below w.heap.size w w' ∧ w.drawn ≤ w'.drawn
theorem GivesG.mk {v v' : Value} {w w' : World} (h : v = v') (hb : Below w.heap.size w w') (hd : w.drawn ≤ w'.drawn) : GivesG v' w (.returned v) w' := ⟨by rw [h], hb, hd⟩
theorem quiet_laterG {P : Program} {f : FuncId} {args : Array Value} {w : World} {x : LaterG w} {v : Value}
    (h : Calls P f args x.W (GivesG v x.W)) : Calls P f args x.W fun e w'' => e = .returned v ∧ ∃ y : LaterG w, w'' = y.W :=
  h.mono fun _ w' ⟨he, hb, hd⟩ => ⟨he, ⟨w', x.ok.trans (hb.mono x.ok.size), Nat.le_trans x.dr hd⟩, rfl⟩
theorem wp_region_laterG {P : Program} {id : Nat} {Q : Exit → Act → World → Prop} {a : Act} {w : World} {l : List Oper} (hm : P.follows .mixedOrders = true) (hB : Region.lexB .any l.toArray = true)
    (h : wpQuiet P l.toArray (fun w' => ∃ x : LaterG w, w' = x.W) (fun a' => ∀ x : LaterG w, Q .normal a' x.W) l a) : (Code.region id l.toArray true).wp P Q a w := by
  refine wp_region_quiet (C := fun w' => ∃ x : LaterG w, w' = x.W) hm hB ⟨⟨w.drew, (Below.refl _ _).drew, Nat.le_succ _⟩, rfl⟩ ?_
  have h2 : (fun a' => ∀ w', (∃ x : LaterG w, w' = x.W) → Q .normal a' w') = fun a' => ∀ x : LaterG w, Q .normal a' x.W := by
    funext a'
    exact propext ⟨fun H x => H _ ⟨x, rfl⟩, fun H w' ⟨x, hx⟩ => hx ▸ H x⟩
  rw [h2]
  simpa using h
theorem wp_region_laterG2 {P : Program} {id : Nat} {Q : Exit → Act → World → Prop} {a : Act} {w : World} {y : LaterG w} {l : List Oper} (hm : P.follows .mixedOrders = true) (hB : Region.lexB .any l.toArray = true)
    (h : wpQuiet P l.toArray (fun w' => ∃ x : LaterG w, w' = x.W) (fun a' => ∀ x : LaterG w, Q .normal a' x.W) l a) : (Code.region id l.toArray true).wp P Q a y.W := by
  refine wp_region_quiet (C := fun w' => ∃ x : LaterG w, w' = x.W) hm hB ⟨⟨y.W.drew, y.ok.drew, Nat.le_trans y.dr (Nat.le_succ _)⟩, rfl⟩ ?_
  have h2 : (fun a' => ∀ w', (∃ x : LaterG w, w' = x.W) → Q .normal a' w') = fun a' => ∀ x : LaterG w, Q .normal a' x.W := by
    funext a'
    exact propext ⟨fun H x => H _ ⟨x, rfl⟩, fun H w' ⟨x, hx⟩ => hx ▸ H x⟩
  rw [h2]
  simpa using h
theorem grow_of {w W : World} (h : Below w.heap.size w W) (hd : w.drawn ≤ W.drawn) : ∃ q os, W = Go.Sort.grow (w.drewN q) os := by
  refine ⟨W.drawn - w.drawn, W.heap.extract w.heap.size W.heap.size, ?_⟩
  obtain ⟨h1, h2, h3, h4, h5⟩ := h
  have hh : W.heap = w.heap ++ W.heap.extract w.heap.size W.heap.size := by
    refine Array.ext_getElem? fun i => ?_
    rcases Nat.lt_or_ge i w.heap.size with hi | hi
    · rw [Array.getElem?_append_left hi, h5 i hi]
    · rw [Array.getElem?_append_right hi, Array.getElem?_extract]
      split
      · congr 1
        omega
      · rw [Array.getElem?_eq_none (by omega)]
  cases W
  cases w
  simp only [World.drewN, Go.Sort.grow] at *
  subst h1 h2 h3
  simp only [World.mk.injEq, and_true, true_and]
  exact ⟨hh, by omega⟩
set_option maxRecDepth 100000 in
set_option maxHeartbeats 1000000 in
theorem bytesCompare_g {w : World} {b o b' o' : Nat} {x y : E3} (c c' : Nat) (h0 : w.cell? ⟨b, o, none⟩ = some (.int .u8 (x.a.toNat : Int))) (h1 : w.cell? ⟨b, o + 1, none⟩ = some (.int .u8 (x.b.toNat : Int))) (h2 : w.cell? ⟨b, o + 2, none⟩ = some (.int .u8 (x.c.toNat : Int)))
    (k0 : w.cell? ⟨b', o', none⟩ = some (.int .u8 (y.a.toNat : Int))) (k1 : w.cell? ⟨b', o' + 1, none⟩ = some (.int .u8 (y.b.toNat : Int))) (k2 : w.cell? ⟨b', o' + 2, none⟩ = some (.int .u8 (y.c.toNat : Int))) :
    Calls Try.prog 131 #[.slice (some ⟨b, o, none⟩) 3 c, .slice (some ⟨b', o', none⟩) 3 c'] w (GivesG (.int .i64 (cmp3 x y)) w) := by
  have hr := run_cmp3 h0 h1 h2 k0 k1 k2 c c'
  generalize cmp3 x y = v at *
  go_enter Try.func131, Try.ntmps131
  go_wp2
  rw [run_callFunc_extern Try.func155 (by kernel_rfl) (by kernel_rfl) (by kernel_rfl) (e := Extern.BytealgCompare.compare) (by kernel_rfl), hr]
  simp only [Result.andThen]
  rw [Oper.upon_value]
  go_wp2
  exact bodyPost_ret (v := .int .i64 v) (by simp [results, Try.results131, go_sem]) rfl (.mk rfl (Below.refl _ _) (Nat.le_refl _))
/-! ### compareMatrices -/
set_option maxRecDepth 100000 in
set_option maxHeartbeats 2000000 in
theorem compareMatrices_g (g h : M9) (w : World) : Calls Try.prog 113 #[.agg #[.int .u8 (g.r0.a.toNat : Int), .int .u8 (g.r0.b.toNat : Int), .int .u8 (g.r0.c.toNat : Int), .int .u8 (g.r1.a.toNat : Int), .int .u8 (g.r1.b.toNat : Int), .int .u8 (g.r1.c.toNat : Int), .int .u8 (g.r2.a.toNat : Int), .int .u8 (g.r2.b.toNat : Int), .int .u8 (g.r2.c.toNat : Int)], .agg #[.int .u8 (h.r0.a.toNat : Int), .int .u8 (h.r0.b.toNat : Int), .int .u8 (h.r0.c.toNat : Int), .int .u8 (h.r1.a.toNat : Int), .int .u8 (h.r1.b.toNat : Int), .int .u8 (h.r1.c.toNat : Int), .int .u8 (h.r2.a.toNat : Int), .int .u8 (h.r2.b.toNat : Int), .int .u8 (h.r2.c.toNat : Int)]] w (GivesG (.int .i64 (cmpM g h)) w) := by
  have h0 := cmp3_range g.r0 h.r0
  have h1 := cmp3_range g.r1 h.r1
  have h2 := cmp3_range g.r2 h.r2
  go_enter Try.func113, Try.ntmps113
  go_wp2
  have Ng : Nine ((w.alloc (.cells #[.int .u8 (g.r0.a.toNat : Int), .int .u8 (g.r0.b.toNat : Int), .int .u8 (g.r0.c.toNat : Int), .int .u8 (g.r1.a.toNat : Int), .int .u8 (g.r1.b.toNat : Int), .int .u8 (g.r1.c.toNat : Int), .int .u8 (g.r2.a.toNat : Int), .int .u8 (g.r2.b.toNat : Int), .int .u8 (g.r2.c.toNat : Int)] 41)).alloc (.cells #[.int .u8 (h.r0.a.toNat : Int), .int .u8 (h.r0.b.toNat : Int), .int .u8 (h.r0.c.toNat : Int), .int .u8 (h.r1.a.toNat : Int), .int .u8 (h.r1.b.toNat : Int), .int .u8 (h.r1.c.toNat : Int), .int .u8 (h.r2.a.toNat : Int), .int .u8 (h.r2.b.toNat : Int), .int .u8 (h.r2.c.toNat : Int)] 41)) w.heap.size g := (nine_alloc w g 41).keep (below_alloc (Below.refl _ _) _)
  have Nh : Nine ((w.alloc (.cells #[.int .u8 (g.r0.a.toNat : Int), .int .u8 (g.r0.b.toNat : Int), .int .u8 (g.r0.c.toNat : Int), .int .u8 (g.r1.a.toNat : Int), .int .u8 (g.r1.b.toNat : Int), .int .u8 (g.r1.c.toNat : Int), .int .u8 (g.r2.a.toNat : Int), .int .u8 (g.r2.b.toNat : Int), .int .u8 (g.r2.c.toNat : Int)] 41)).alloc (.cells #[.int .u8 (h.r0.a.toNat : Int), .int .u8 (h.r0.b.toNat : Int), .int .u8 (h.r0.c.toNat : Int), .int .u8 (h.r1.a.toNat : Int), .int .u8 (h.r1.b.toNat : Int), .int .u8 (h.r1.c.toNat : Int), .int .u8 (h.r2.a.toNat : Int), .int .u8 (h.r2.b.toNat : Int), .int .u8 (h.r2.c.toNat : Int)] 41)) (w.heap.size + 1) h := by
    have := nine_alloc (w.alloc (.cells #[.int .u8 (g.r0.a.toNat : Int), .int .u8 (g.r0.b.toNat : Int), .int .u8 (g.r0.c.toNat : Int), .int .u8 (g.r1.a.toNat : Int), .int .u8 (g.r1.b.toNat : Int), .int .u8 (g.r1.c.toNat : Int), .int .u8 (g.r2.a.toNat : Int), .int .u8 (g.r2.b.toNat : Int), .int .u8 (g.r2.c.toNat : Int)] 41)) h 41
    simpa using this
  have hbV : Below w.heap.size w ((w.alloc (.cells #[.int .u8 (g.r0.a.toNat : Int), .int .u8 (g.r0.b.toNat : Int), .int .u8 (g.r0.c.toNat : Int), .int .u8 (g.r1.a.toNat : Int), .int .u8 (g.r1.b.toNat : Int), .int .u8 (g.r1.c.toNat : Int), .int .u8 (g.r2.a.toNat : Int), .int .u8 (g.r2.b.toNat : Int), .int .u8 (g.r2.c.toNat : Int)] 41)).alloc (.cells #[.int .u8 (h.r0.a.toNat : Int), .int .u8 (h.r0.b.toNat : Int), .int .u8 (h.r0.c.toNat : Int), .int .u8 (h.r1.a.toNat : Int), .int .u8 (h.r1.b.toNat : Int), .int .u8 (h.r1.c.toNat : Int), .int .u8 (h.r2.a.toNat : Int), .int .u8 (h.r2.b.toNat : Int), .int .u8 (h.r2.c.toNat : Int)] 41)) := bq1
  have hdV : w.drawn ≤ ((w.alloc (.cells #[.int .u8 (g.r0.a.toNat : Int), .int .u8 (g.r0.b.toNat : Int), .int .u8 (g.r0.c.toNat : Int), .int .u8 (g.r1.a.toNat : Int), .int .u8 (g.r1.b.toNat : Int), .int .u8 (g.r1.c.toNat : Int), .int .u8 (g.r2.a.toNat : Int), .int .u8 (g.r2.b.toNat : Int), .int .u8 (g.r2.c.toNat : Int)] 41)).alloc (.cells #[.int .u8 (h.r0.a.toNat : Int), .int .u8 (h.r0.b.toNat : Int), .int .u8 (h.r0.c.toNat : Int), .int .u8 (h.r1.a.toNat : Int), .int .u8 (h.r1.b.toNat : Int), .int .u8 (h.r1.c.toNat : Int), .int .u8 (h.r2.a.toNat : Int), .int .u8 (h.r2.b.toNat : Int), .int .u8 (h.r2.c.toNat : Int)] 41)).drawn := Nat.le_refl _
  have hzV : w.heap.size ≤ ((w.alloc (.cells #[.int .u8 (g.r0.a.toNat : Int), .int .u8 (g.r0.b.toNat : Int), .int .u8 (g.r0.c.toNat : Int), .int .u8 (g.r1.a.toNat : Int), .int .u8 (g.r1.b.toNat : Int), .int .u8 (g.r1.c.toNat : Int), .int .u8 (g.r2.a.toNat : Int), .int .u8 (g.r2.b.toNat : Int), .int .u8 (g.r2.c.toNat : Int)] 41)).alloc (.cells #[.int .u8 (h.r0.a.toNat : Int), .int .u8 (h.r0.b.toNat : Int), .int .u8 (h.r0.c.toNat : Int), .int .u8 (h.r1.a.toNat : Int), .int .u8 (h.r1.b.toNat : Int), .int .u8 (h.r1.c.toNat : Int), .int .u8 (h.r2.a.toNat : Int), .int .u8 (h.r2.b.toNat : Int), .int .u8 (h.r2.c.toNat : Int)] 41)).heap.size := by simp; omega
  generalize ((w.alloc (.cells #[.int .u8 (g.r0.a.toNat : Int), .int .u8 (g.r0.b.toNat : Int), .int .u8 (g.r0.c.toNat : Int), .int .u8 (g.r1.a.toNat : Int), .int .u8 (g.r1.b.toNat : Int), .int .u8 (g.r1.c.toNat : Int), .int .u8 (g.r2.a.toNat : Int), .int .u8 (g.r2.b.toNat : Int), .int .u8 (g.r2.c.toNat : Int)] 41)).alloc (.cells #[.int .u8 (h.r0.a.toNat : Int), .int .u8 (h.r0.b.toNat : Int), .int .u8 (h.r0.c.toNat : Int), .int .u8 (h.r1.a.toNat : Int), .int .u8 (h.r1.b.toNat : Int), .int .u8 (h.r1.c.toNat : Int), .int .u8 (h.r2.a.toNat : Int), .int .u8 (h.r2.b.toNat : Int), .int .u8 (h.r2.c.toNat : Int)] 41)) = V at *
  have hz := Nh.lt
  have hcmp : ∀ (x : LaterG V), x = x := fun _ => rfl
  have hc0 : ∀ (x : LaterG V) c c', Calls Try.prog 131 #[.slice (some ⟨w.heap.size, 0, none⟩) 3 c, .slice (some ⟨w.heap.size + 1, 0, none⟩) 3 c'] x.W (GivesG (.int .i64 (cmp3 g.r0 h.r0)) x.W) := fun x c c' => by
    obtain ⟨n0, n1, n2, n3, n4, n5, n6, n7, n8, nf⟩ := Ng.keep x.ok
    obtain ⟨k0, k1, k2, k3, k4, k5, k6, k7, k8, kf⟩ := Nh.keep x.ok
    exact bytesCompare_g c c' n0 n1 n2 k0 k1 k2
  have hc1 : ∀ (x : LaterG V) c c', Calls Try.prog 131 #[.slice (some ⟨w.heap.size, 3, none⟩) 3 c, .slice (some ⟨w.heap.size + 1, 3, none⟩) 3 c'] x.W (GivesG (.int .i64 (cmp3 g.r1 h.r1)) x.W) := fun x c c' => by
    obtain ⟨n0, n1, n2, n3, n4, n5, n6, n7, n8, nf⟩ := Ng.keep x.ok
    obtain ⟨k0, k1, k2, k3, k4, k5, k6, k7, k8, kf⟩ := Nh.keep x.ok
    exact bytesCompare_g c c' n3 n4 n5 k3 k4 k5
  have hc2 : ∀ (x : LaterG V) c c', Calls Try.prog 131 #[.slice (some ⟨w.heap.size, 6, none⟩) 3 c, .slice (some ⟨w.heap.size + 1, 6, none⟩) 3 c'] x.W (GivesG (.int .i64 (cmp3 g.r2 h.r2)) x.W) := fun x c c' => by
    obtain ⟨n0, n1, n2, n3, n4, n5, n6, n7, n8, nf⟩ := Ng.keep x.ok
    obtain ⟨k0, k1, k2, k3, k4, k5, k6, k7, k8, kf⟩ := Nh.keep x.ok
    exact bytesCompare_g c c' n6 n7 n8 k6 k7 k8
  have he : cmpM g h = if cmp3 g.r0 h.r0 = 0 then (if cmp3 g.r1 h.r1 = 0 then cmp3 g.r2 h.r2 else cmp3 g.r1 h.r1) else cmp3 g.r0 h.r0 := rfl
  generalize cmp3 g.r0 h.r0 = v0 at *
  generalize cmp3 g.r1 h.r1 = v1 at *
  generalize cmp3 g.r2 h.r2 = v2 at *
  generalize cmpM g h = r at *
  clear Ng Nh hcmp
  refine wp_loop_rounds 4 ?_
  rw [rounds_succ]
  go_wp2
  (first | refine wp_region_laterG2 (by kernel_rfl) (by kernel_rfl) ?_ | refine wp_region_laterG (by kernel_rfl) (by kernel_rfl) ?_); (repeat (go_big_quiet_step ((go_at_call 131; with_reducible exact quiet_laterG (hc0 _ _ _))))); refine wpQuiet_nil ?_; intro x1
  by_cases z0 : v0 = 0
  · rw [if_pos z0] at he
    subst z0
    go_wp2
    rw [rounds_succ]
    go_wp2
    (first | refine wp_region_laterG2 (by kernel_rfl) (by kernel_rfl) ?_ | refine wp_region_laterG (by kernel_rfl) (by kernel_rfl) ?_); (repeat (go_big_quiet_step ((go_at_call 131; with_reducible exact quiet_laterG (hc1 _ _ _))))); refine wpQuiet_nil ?_; intro x2
    by_cases z1 : v1 = 0
    · rw [if_pos z1] at he
      subst z1
      go_wp2
      rw [rounds_succ]
      go_wp2
      (first | refine wp_region_laterG2 (by kernel_rfl) (by kernel_rfl) ?_ | refine wp_region_laterG (by kernel_rfl) (by kernel_rfl) ?_); (repeat (go_big_quiet_step ((go_at_call 131; with_reducible exact quiet_laterG (hc2 _ _ _))))); refine wpQuiet_nil ?_; intro x3
      subst he
      by_cases z2 : r = 0
      · subst z2
        go_wp2
        rw [rounds_succ]
        go_wp2
        exact bodyPost_ret (v := .int .i64 0) (by simp [results, Try.results113, go_sem]) rfl (.mk rfl (hbV.trans (x3.ok.mono hzV)) (Nat.le_trans hdV x3.dr))
      · go_wp2
        exact bodyPost_ret (v := .int .i64 r) (by simp [results, Try.results113, go_sem]) rfl (.mk rfl (hbV.trans (x3.ok.mono hzV)) (Nat.le_trans hdV x3.dr))
    · rw [if_neg z1] at he
      subst he
      go_wp2
      exact bodyPost_ret (v := .int .i64 r) (by simp [results, Try.results113, go_sem]) rfl (.mk rfl (hbV.trans (x2.ok.mono hzV)) (Nat.le_trans hdV x2.dr))
  · rw [if_neg z0] at he
    subst he
    go_wp2
    exact bodyPost_ret (v := .int .i64 r) (by simp [results, Try.results113, go_sem]) rfl (.mk rfl (hbV.trans (x1.ok.mono hzV)) (Nat.le_trans hdV x1.dr))
/-! ### the row of terms -/
instance : Inhabited M9 := ⟨zM⟩
theorem aggM (w : World) : (isAgg 41).run Try.prog w = .ok true w := by kernel_rfl
theorem sizeM (w : World) : (Go.sizeOf 41).run Try.prog w = .ok 9 w := by kernel_rfl
def cfM (s t : M9) : Int := cmpM s t
theorem swoM : Go.Sort.SWO (Go.Proofs.ltOf cfM) where
  irrefl x := decide_eq_false (cmpM_irr _)
  trans x y z h1 h2 := decide_eq_true (cmpM_trans (of_decide_eq_true h1) (of_decide_eq_true h2))
  ntrans x y z h1 h2 := by
    have h1 : ¬ cmpM x y < 0 := of_decide_eq_false h1
    have h2 : ¬ cmpM y z < 0 := of_decide_eq_false h2
    refine decide_eq_false (fun h3 : cmpM x z < 0 => ?_)
    rcases cmpM_tri y x with g | g | g
    · exact h2 (cmpM_trans g h3)
    · rw [g] at h2
      exact h2 h3
    · exact h1 g
theorem cmpLaysM (g n : Nat) (w : World) : Go.Proofs.CmpLays Try.prog 113 #[] M9.cs 9 cfM g 0 n w :=
  fun _ _ _ _ x y => (compareMatrices_g x y _).mono fun _ _ ⟨h1, h2, h3⟩ => ⟨h1, grow_of h2 h3⟩
section
variable (w : World) (g m : Nat) (d : Array M9) (os : Array Obj)
theorem sortK_other (k : Nat) (hk : k < w.heap.size) (hne : k ≠ g) : (Go.Proofs.sortWorldK M9.cs 9 w g 0 m d os).heap[k]? = w.heap[k]? := by
  have hne' : ¬ g = k := fun h => hne h.symm
  show ((w.heap.modify g (Go.Sort.onCells (Go.Sort.putCells id 0 (Go.Sort.flatK M9.cs 9 d)))) ++ os)[k]? = w.heap[k]?
  rw [Array.getElem?_append_left (by simpa using hk), Array.getElem?_modify, if_neg hne']
theorem sortK_self {cur : Array Value} {e : TypeId} {fr : Nat × Nat} (h : w.heap[g]? = some (.cells cur e fr)) : (Go.Proofs.sortWorldK M9.cs 9 w g 0 m d os).heap[g]? = some (.cells (Go.Sort.putCells id 0 (Go.Sort.flatK M9.cs 9 d) cur) e fr) := by
  have hk : g < w.heap.size := (Array.getElem?_eq_some_iff.1 h).1
  show ((w.heap.modify g (Go.Sort.onCells (Go.Sort.putCells id 0 (Go.Sort.flatK M9.cs 9 d)))) ++ os)[g]? = _
  rw [Array.getElem?_append_left (by simpa using hk), Array.getElem?_modify, if_pos rfl, h]
  rfl
end
theorem putK_take (F : Array Value) (cur : Array Value) (h : F.size ≤ cur.size) : (Go.Sort.putCells id 0 F cur).toList.take F.size = F.toList := by
  refine List.ext_getElem (by simp [Go.Sort.putCells]; omega) fun i h1 h2 => ?_
  have hi : i < F.size := by simpa using h2
  simp [Go.Sort.putCells, hi]
theorem flat_row (d : Array M9) (j : Nat) (hj : j < d.size) : ((Go.Sort.flatK M9.cs 9 d).toList.drop (j * 9)).take 9 = (d[j]!).cs := by
  have hs := Go.Sort.size_flatK M9.cs 9 d
  refine List.ext_getElem ?_ fun i h1 h2 => ?_
  · simp [M9.cs, E3.cs]
    omega
  · have hi : i < 9 := by simpa [M9.cs, E3.cs] using h2
    have ht : j * 9 + i < d.size * 9 := by omega
    have hg := Go.Sort.get_flatK M9.cs 9 d (j * 9 + i) ht
    have e1 : (j * 9 + i) / 9 = j := by omega
    have e2 : (j * 9 + i) % 9 = i := by omega
    rw [e1, e2, getElem!_pos _ _ (by rw [hs]; exact ht), getElem!_pos _ i h2] at hg
    simpa using hg
set_option maxHeartbeats 1000000 in
theorem sort_mats {w : World} {base : Nat} {ok : Nat → Prop} {A : Option Addr} {c : Nat} {ts : List M9} (hR : kM.R 41 w base ok (.slice A ts.length c) ts) (hn : ts.length ≤ 4194304) :
    Calls Try.prog 124 #[.slice A ts.length c, .func (.func 113) #[] #[]] w (fun e w' => e = .returned (.tuple #[]) ∧ ∃ ts' : List M9, ts'.Perm ts ∧ (∀ i j, i < j → j < ts'.length → ¬ cmpM (ts'.getD j zM) (ts'.getD i zM) < 0) ∧
      kM.R 41 w' base ok (.slice A ts.length c) ts' ∧ w.grownBy w' (Value.slice A ts.length c).ownBlock) := by
  obtain ⟨hok, inner, hown, hreps⟩ := id hR
  obtain ⟨hil, hbody⟩ := hown
  rcases hbody with ⟨hv, _⟩ | ⟨g, cap, cur, hv, hgb, hheap, hnc, hcm, hcs, htake⟩
  · injection hv with hv1 hv2 hv3
    subst hv1
    have hnil : ts = [] := List.eq_nil_of_length_eq_zero hv2
    subst hnil
    exact (Try.slices_SortFunc_Matrix_none none c _ w).mono fun e w' ⟨h1, h2⟩ => ⟨h1, [], List.Perm.refl _, fun i j _ hj => by simp at hj, by rw [h2]; exact hR, by rw [h2]; exact World.grownBy.refl _ _⟩
  injection hv with hv1 _ hv2
  subst hv1
  subst hv2
  have hsz : kM.sz = 9 := rfl
  rw [hsz] at hil hcs htake
  have hrl : inner.length = ts.length * 9 := hreps.1
  have hgs : g < w.heap.size := (Array.getElem?_eq_some_iff.1 hheap).1
  have hcl : ts.length * 9 ≤ cur.size := by omega
  have hrow : ∀ j (hj : j < ts.length), ((inner.drop (j * 9)).take 9) = (ts.toArray[j]!).cs := fun j hj => by
    have h1 : kM.M w base _ (ts[j]) ((inner.drop (j * kM.sz)).take kM.sz) := hreps.2 j ts[j] (List.getElem?_eq_getElem hj)
    have h2 : (inner.drop (j * 9)).take 9 = (ts[j]).cs := h1
    rw [h2]
    simp [hj]
  have hH : Go.Sort.HoldsK M9.cs 9 w g 0 ts.toArray := by
    intro t ht
    have ht' : t < ts.length * 9 := by simpa using ht
    have hj : t / 9 < ts.length := by omega
    refine ⟨?_, blk_frozen hheap _⟩
    rw [Nat.zero_add, blk_cell hheap, Go.Sort.get_flatK _ _ _ _ (by simpa using ht')]
    have h1 := hrow (t / 9) hj
    have h2 : ((inner.drop (t / 9 * 9)).take 9)[t % 9]? = inner[t]? := by
      rw [List.getElem?_take_of_lt (by omega), List.getElem?_drop]
      congr 1
      omega
    rw [h1] at h2
    have h3 : inner[t]? = cur[t]? := by
      rw [← htake, List.getElem?_take_of_lt (by omega)]
      simp
    rw [← h3, ← h2]
    have h5 : t % 9 < ((ts.toArray[t / 9]!).cs).length := by simp [M9.cs, E3.cs]; omega
    rw [List.getElem?_eq_getElem h5, getElem!_pos (ts.toArray[t / 9]!).cs (t % 9) h5]
    rfl
  have hcon := Try.slices_SortFunc_Matrix aggM sizeM M9.cs (fun _ => rfl) (fun x => M9_one x) cfM swoM 113 #[] g 0 c ts.toArray w (enters_of Try.func113 (by kernel_rfl) rfl) (cmpLaysM g _ w) hH hgs (by simp; omega)
  rw [List.size_toArray] at hcon
  refine hcon.mono fun e w' ⟨he, d', m, os, hp, hs, hw⟩ => ⟨he, d'.toList, ?_, ?_, ?_, ?_⟩
  · have h1 := hp.2.2
    have h2 := hp.1
    have h2 : d'.size = ts.length := by simpa using h2
    have e1 : d'.extract 0 ts.length = d' := by
      rw [← h2]
      exact Array.extract_size
    have e2 : ts.toArray.extract 0 ts.length = ts.toArray := by
      rw [← List.size_toArray]
      exact Array.extract_size
    rw [e1, e2] at h1
    exact h1
  · intro i j hij hj
    have hj' : j < d'.size := by simpa using hj
    have h2 : d'.size = ts.length := by simpa using hp.1
    have := hs i j (Nat.zero_le _) hij (by omega)
    have h3 : ¬ cmpM (d'[j]!) (d'[i]!) < 0 := of_decide_eq_false this
    have hi' : i < d'.size := by omega
    simpa [List.getD_eq_getElem?_getD, hi', hj'] using h3
  · subst hw
    have h2 : d'.size = ts.length := by simpa using hp.1
    have hdl : d'.toList.length = ts.length := by simpa using h2
    have hfs := Go.Sort.size_flatK M9.cs 9 d'
    refine ⟨hok, (Go.Sort.flatK M9.cs 9 d').toList, ⟨by rw [hdl, hsz]; simp [h2], .inr ⟨g, c, _, by rw [hdl], hgb, sortK_self _ _ _ _ _ hheap, by omega, hcm, by rw [hsz]; simpa [Go.Sort.putCells] using hcs, ?_⟩⟩, ⟨by rw [hdl, hsz]; simp [h2], fun j p hjp => ?_⟩⟩
    · rw [hdl, hsz]
      have := putK_take (Go.Sort.flatK M9.cs 9 d') cur (by rw [hfs, h2]; exact hcl)
      rwa [hfs, h2] at this
    · obtain ⟨hjl, hjp'⟩ := List.getElem?_eq_some_iff.1 hjp
      have hj' : j < d'.size := by simpa using hjl
      rw [hsz]
      have := flat_row d' j hj'
      show _ = p.cs
      rw [this, ← hjp']
      simp [hj']
  · subst hw
    refine ⟨rfl, rfl, rfl, ?_, fun k hk hne => sortK_other _ _ _ _ _ _ (by omega) (fun h => hne (by rw [h]; rfl))⟩
    simp [Go.Proofs.sortWorldK, Go.Sort.grow, Go.Sort.putRowK, Go.Sort.putRow, Go.Sort.mapBlock, Go.Sort.ahead]
end Srt
end Go.Proofs.Ytimjhehagimcaaa
