/- Walks of the functions on polynomials, numbers and rows, of both sides; no condition. -/
import Derived.Test.YtneknpamceipiaaYShelfK
import Derived.Test.YtneknpamceipiaaYAccK
import Derived.Test.YtneknpamceipiaaYKitS
import Derived.Test.YtneknpamceipiaaYOpenA
import Derived.BigRegion
import Derived.Test.YtneknpamceipiaaYKitP
import Derived.Test.YtneknpamceipiaaYLawKit2
import Derived.Test.YtneknpamceipiaaYKitA
/- Lists of terms are sorted by their monomials; no condition. -/
set_option linter.unusedVariables false
set_option linter.unusedSimpArgs false
namespace Go.Proofs.Ytneknpamceipiaa
open Go.RowKit Go.Proofs.YtneknpamceipiaaW.PrintWords
attribute [local go_sem] Later.cell Later.frozen Later.lt Later.lt_add Later.le Later.le_add Later.ne Later.ne' add_at
/-! ### worlds that have only drawn and grown -/
structure LaterG (w : World) where
  W : World
  ok : Below w.heap.size w W
  dr : w.drawn ≤ W.drawn
instance LaterG.some_ (w : World) : Nonempty (LaterG w) := ⟨⟨w, Below.refl _ _, Nat.le_refl _⟩⟩
theorem LaterG.cell (w : World) (x : LaterG w) (a : Addr) (h : a.block < w.heap.size) : x.W.cell? a = w.cell? a := x.ok.cell h
theorem LaterG.frozen (w : World) (x : LaterG w) (a : Addr) (h : a.block < w.heap.size) : x.W.frozen? a = w.frozen? a := x.ok.frozen h
theorem LaterG.lt (w : World) (x : LaterG w) (n : Nat) (h : n < w.heap.size) : (n < x.W.heap.size) = True := eq_true (Nat.lt_of_lt_of_le h x.ok.size)
attribute [local go_sem] LaterG.cell LaterG.frozen LaterG.lt
/-- What a call leaves that draws and lays blocks, and no more. -/
def GivesG (v : Value) (w : World) (e : Ending) (w' : World) : Prop := e = .returned v ∧ Below w.heap.size w w' ∧ w.drawn ≤ w'.drawn
theorem GivesG.mk {v v' : Value} {w w' : World} (h : v = v') (hb : Below w.heap.size w w') (hd : w.drawn ≤ w'.drawn) : GivesG v' w (.returned v) w' := ⟨by rw [h], hb, hd⟩
theorem quiet_laterG {P : Program} {f : FuncId} {args : Array Value} {w : World} {x : LaterG w} {v : Value}
    (h : Calls P f args x.W (GivesG v x.W)) : Calls P f args x.W fun e w'' => e = .returned v ∧ ∃ y : LaterG w, w'' = y.W :=
  h.mono fun _ w' ⟨he, hb, hd⟩ => ⟨he, ⟨w', x.ok.trans (hb.mono x.ok.size), Nat.le_trans x.dr hd⟩, rfl⟩
theorem wp_region_laterG {P : Program} {id : Nat} {Q : Exit → Act → World → Prop} {a : Act} {w : World} {l : List Oper} (hm : P.follows .mixedOrders = true) (hB : Region.lexB .any l.toArray = true)
    (h : wpQuiet P l.toArray (fun w' => ∃ x : LaterG w, w' = x.W) (fun a' => ∀ x : LaterG w, Q .normal a' x.W) l a) : (Code.region id l.toArray true).wp P Q a w := by
  refine wp_region_quiet (C := fun w' => ∃ x : LaterG w, w' = x.W) hm hB ⟨⟨w.drew, (Below.refl _ _).drew, Nat.le_succ _⟩, rfl⟩ ?_
  have h2 : (fun a' => ∀ w', (∃ x : LaterG w, w' = x.W) → Q .normal a' w') = fun a' => ∀ x : LaterG w, Q .normal a' x.W := by
    funext a'
    exact propext ⟨fun H x => H _ ⟨x, rfl⟩, fun H w' ⟨x, hx⟩ => hx ▸ H x⟩
  rw [h2]
  simpa using h
theorem call_laterG {P : Program} {f : FuncId} {args : Array Value} {w : World} {v : Value} {R : Ending → World → Prop}
    (h : Calls P f args w (GivesG v w)) (k : ∀ W, Below w.heap.size w W → w.drawn ≤ W.drawn → R (.returned v) W) : Calls P f args w R :=
  h.mono fun _ w' ⟨he, hb, hd⟩ => by subst he; exact k w' hb hd
theorem grow_of {w W : World} (h : Below w.heap.size w W) (hd : w.drawn ≤ W.drawn) : ∃ q os, W = Go.Sort.grow (w.drewN q) os := by
  refine ⟨W.drawn - w.drawn, W.heap.extract w.heap.size W.heap.size, ?_⟩
  obtain ⟨h1, h2, h3, h4, h5⟩ := h
  have hh : W.heap = w.heap ++ W.heap.extract w.heap.size W.heap.size := by
    refine Array.ext_getElem? fun i => ?_
    rcases Nat.lt_or_ge i w.heap.size with hi | hi
    · rw [Array.getElem?_append_left hi, h5 i hi]
    · rw [Array.getElem?_append_right hi, Array.getElem?_extract]
      split
      · congr 1
        omega
      · rw [Array.getElem?_eq_none (by omega)]
  cases W
  cases w
  simp only [World.drewN, Go.Sort.grow] at *
  subst h1 h2 h3
  simp only [World.mk.injEq, and_true, true_and]
  exact ⟨hh, by omega⟩
theorem degree_g (e : E3) (w : World) : Calls Try.prog 103 #[.agg #[.int .u8 (e.a.toNat : Int), .int .u8 (e.b.toNat : Int), .int .u8 (e.c.toNat : Int)]] w (GivesG (.int .i64 (degE e)) w) := by
  have ha := e.a.toNat_lt
  have hb := e.b.toNat_lt
  have hc := e.c.toNat_lt
  go_enter Try.func103, Try.ntmps103
  go_wp2
  go_ret
  exact .mk rfl ((Below.refl _ _).alloc (Nat.le_refl _) _) (Nat.le_refl _)
set_option maxRecDepth 100000 in
theorem compareExps_g (e f : E3) (w : World) : Calls Try.prog 104 #[.agg #[.int .u8 (e.a.toNat : Int), .int .u8 (e.b.toNat : Int), .int .u8 (e.c.toNat : Int)], .agg #[.int .u8 (f.a.toNat : Int), .int .u8 (f.b.toNat : Int), .int .u8 (f.c.toNat : Int)]] w (GivesG (.int .i64 (cmpE e f)) w) := by
  have ha := e.a.toNat_lt
  have hb := e.b.toNat_lt
  have ha' := f.a.toNat_lt
  have hb' := f.b.toNat_lt
  obtain ⟨d1, d2⟩ := degE_bd e
  obtain ⟨d3, d4⟩ := degE_bd f
  go_enter Try.func104, Try.ntmps104
  go_wp2
  refine wp_region_laterG (by kernel_rfl) (by kernel_rfl) ?_
  (repeat (go_big_quiet_step ((go_at_call 103; with_reducible exact quiet_laterG (degree_g _ _)))))
  refine wpQuiet_nil ?_
  intro x
  go_wp2
  all_goals go_ret
  all_goals refine .mk ?_ (((((Below.refl w.heap.size w).alloc (Nat.le_refl _) _).alloc (by simp) _)).trans (x.ok.mono (by simp; omega))) (Nat.le_trans (Nat.le_of_eq rfl) x.dr)
  all_goals simp_all [cmpE]
set_option maxRecDepth 100000 in
theorem cmpT_g (s t : T4) (w : World) : Calls Try.prog 176 #[.agg #[.int .u8 (s.e.a.toNat : Int), .int .u8 (s.e.b.toNat : Int), .int .u8 (s.e.c.toNat : Int), .int .i64 s.v], .agg #[.int .u8 (t.e.a.toNat : Int), .int .u8 (t.e.b.toNat : Int), .int .u8 (t.e.c.toNat : Int), .int .i64 t.v]] w (GivesG (.int .i64 (cmpE s.e t.e)) w) := by
  go_enter Try.func176, Try.ntmps176
  go_wp2_with (go_at_call 104; (with_reducible refine call_laterG (compareExps_g s.e t.e _) ?_); intro W hb hd)
  go_ret
  exact .mk rfl ((((Below.refl w.heap.size w).alloc (Nat.le_refl _) _).alloc (by simp) _).trans (hb.mono (by simp; omega))) hd
/-! ### the row of terms -/
instance : Inhabited T4 := ⟨z4⟩
theorem aggT (w : World) : (isAgg 121).run Try.prog w = .ok true w := by kernel_rfl
theorem sizeT (w : World) : (Go.sizeOf 121).run Try.prog w = .ok 4 w := by kernel_rfl
def cfT (s t : T4) : Int := cmpE s.e t.e
theorem swoT : Go.Sort.SWO (Go.Proofs.ltOf cfT) where
  irrefl x := decide_eq_false (cmpE_irrefl _)
  trans x y z h1 h2 := decide_eq_true (cmpE_trans (of_decide_eq_true h1) (of_decide_eq_true h2))
  ntrans x y z h1 h2 := by
    have h1 : ¬ cmpE x.e y.e < 0 := of_decide_eq_false h1
    have h2 : ¬ cmpE y.e z.e < 0 := of_decide_eq_false h2
    refine decide_eq_false (fun h3 : cmpE x.e z.e < 0 => ?_)
    rcases cmpE_tri y.e x.e with g | g | g
    · exact h2 (cmpE_trans g h3)
    · rw [g] at h2
      exact h2 h3
    · exact h1 g
theorem cmpLaysT (g n : Nat) (w : World) : Go.Proofs.CmpLays Try.prog 176 #[] T4.cs 4 cfT g 0 n w :=
  fun _ _ _ _ x y => (cmpT_g x y _).mono fun _ _ ⟨h1, h2, h3⟩ => ⟨h1, grow_of h2 h3⟩
section
variable (w : World) (g m : Nat) (d : Array T4) (os : Array Obj)
theorem sortK_other (k : Nat) (hk : k < w.heap.size) (hne : k ≠ g) : (Go.Proofs.sortWorldK T4.cs 4 w g 0 m d os).heap[k]? = w.heap[k]? := by
  have hne' : ¬ g = k := fun h => hne h.symm
  show ((w.heap.modify g (Go.Sort.onCells (Go.Sort.putCells id 0 (Go.Sort.flatK T4.cs 4 d)))) ++ os)[k]? = w.heap[k]?
  rw [Array.getElem?_append_left (by simpa using hk), Array.getElem?_modify, if_neg hne']
theorem sortK_self {cur : Array Value} {e : TypeId} {fr : Nat × Nat} (h : w.heap[g]? = some (.cells cur e fr)) : (Go.Proofs.sortWorldK T4.cs 4 w g 0 m d os).heap[g]? = some (.cells (Go.Sort.putCells id 0 (Go.Sort.flatK T4.cs 4 d) cur) e fr) := by
  have hk : g < w.heap.size := (Array.getElem?_eq_some_iff.1 h).1
  show ((w.heap.modify g (Go.Sort.onCells (Go.Sort.putCells id 0 (Go.Sort.flatK T4.cs 4 d)))) ++ os)[g]? = _
  rw [Array.getElem?_append_left (by simpa using hk), Array.getElem?_modify, if_pos rfl, h]
  rfl
end
theorem putK_take (F : Array Value) (cur : Array Value) (h : F.size ≤ cur.size) : (Go.Sort.putCells id 0 F cur).toList.take F.size = F.toList := by
  refine List.ext_getElem (by simp [Go.Sort.putCells]; omega) fun i h1 h2 => ?_
  have hi : i < F.size := by simpa using h2
  simp [Go.Sort.putCells, hi]
theorem flat_row (d : Array T4) (j : Nat) (hj : j < d.size) : ((Go.Sort.flatK T4.cs 4 d).toList.drop (j * 4)).take 4 = (d[j]!).cs := by
  have hs := Go.Sort.size_flatK T4.cs 4 d
  refine List.ext_getElem ?_ fun i h1 h2 => ?_
  · simp [T4.cs]
    omega
  · have hi : i < 4 := by simpa [T4.cs] using h2
    have ht : j * 4 + i < d.size * 4 := by omega
    have hg := Go.Sort.get_flatK T4.cs 4 d (j * 4 + i) ht
    have e1 : (j * 4 + i) / 4 = j := by omega
    have e2 : (j * 4 + i) % 4 = i := by omega
    rw [e1, e2, getElem!_pos _ _ (by rw [hs]; exact ht), getElem!_pos _ i h2] at hg
    simpa using hg
set_option maxHeartbeats 1000000 in
theorem sort_terms {w : World} {base : Nat} {ok : Nat → Prop} {A : Option Addr} {c : Nat} {ts : List T4} (hR : kT.R 121 w base ok (.slice A ts.length c) ts) (hn : ts.length ≤ 4194304) :
    Calls Try.prog 175 #[.slice A ts.length c, .func (.func 176) #[] #[]] w (fun e w' => e = .returned (.tuple #[]) ∧ ∃ ts' : List T4, ts'.Perm ts ∧ (∀ i j, i < j → j < ts'.length → ¬ cmpE (ts'.getD j z4).e (ts'.getD i z4).e < 0) ∧
      kT.R 121 w' base ok (.slice A ts.length c) ts' ∧ w.grownBy w' (Value.slice A ts.length c).ownBlock) := by
  obtain ⟨hok, inner, hown, hreps⟩ := id hR
  obtain ⟨hil, hbody⟩ := hown
  rcases hbody with ⟨hv, _⟩ | ⟨g, cap, cur, hv, hgb, hheap, hnc, hcm, hcs, htake⟩
  · injection hv with hv1 hv2 hv3
    subst hv1
    have hnil : ts = [] := List.eq_nil_of_length_eq_zero hv2
    subst hnil
    exact (Try.slices_SortFunc_Term_none none c _ w).mono fun e w' ⟨h1, h2⟩ => ⟨h1, [], List.Perm.refl _, fun i j _ hj => by simp at hj, by rw [h2]; exact hR, by rw [h2]; exact World.grownBy.refl _ _⟩
  injection hv with hv1 _ hv2
  subst hv1
  subst hv2
  have hsz : kT.sz = 4 := rfl
  rw [hsz] at hil hcs htake
  have hrl : inner.length = ts.length * 4 := hreps.1
  have hgs : g < w.heap.size := (Array.getElem?_eq_some_iff.1 hheap).1
  have hcl : ts.length * 4 ≤ cur.size := by omega
  have hrow : ∀ j (hj : j < ts.length), ((inner.drop (j * 4)).take 4) = (ts.toArray[j]!).cs := fun j hj => by
    have h1 : kT.M w base _ (ts[j]) ((inner.drop (j * kT.sz)).take kT.sz) := hreps.2 j ts[j] (List.getElem?_eq_getElem hj)
    have h2 : (inner.drop (j * 4)).take 4 = (ts[j]).cs := h1
    rw [h2]
    simp [hj]
  have hH : Go.Sort.HoldsK T4.cs 4 w g 0 ts.toArray := by
    intro t ht
    have ht' : t < ts.length * 4 := by simpa using ht
    have hj : t / 4 < ts.length := by omega
    refine ⟨?_, blk_frozen hheap _⟩
    rw [Nat.zero_add, blk_cell hheap, Go.Sort.get_flatK _ _ _ _ (by simpa using ht')]
    have h1 := hrow (t / 4) hj
    have h2 : ((inner.drop (t / 4 * 4)).take 4)[t % 4]? = inner[t]? := by
      rw [List.getElem?_take_of_lt (by omega), List.getElem?_drop]
      congr 1
      omega
    rw [h1] at h2
    have h3 : inner[t]? = cur[t]? := by
      rw [← htake, List.getElem?_take_of_lt (by omega)]
      simp
    rw [← h3, ← h2]
    have h5 : t % 4 < ((ts.toArray[t / 4]!).cs).length := by simp [T4.cs]; omega
    rw [List.getElem?_eq_getElem h5, getElem!_pos (ts.toArray[t / 4]!).cs (t % 4) h5]
    rfl
  have hcon := Try.slices_SortFunc_Term aggT sizeT T4.cs (fun _ => rfl) (fun x => T4_one x) cfT swoT 176 #[] g 0 c ts.toArray w (enters_of Try.func176 (by kernel_rfl) rfl) (cmpLaysT g _ w) hH hgs (by simp; omega)
  rw [List.size_toArray] at hcon
  refine hcon.mono fun e w' ⟨he, d', m, os, hp, hs, hw⟩ => ⟨he, d'.toList, ?_, ?_, ?_, ?_⟩
  · have h1 := hp.2.2
    have h2 := hp.1
    have h2 : d'.size = ts.length := by simpa using h2
    have e1 : d'.extract 0 ts.length = d' := by
      rw [← h2]
      exact Array.extract_size
    have e2 : ts.toArray.extract 0 ts.length = ts.toArray := by
      rw [← List.size_toArray]
      exact Array.extract_size
    rw [e1, e2] at h1
    exact h1
  · intro i j hij hj
    have hj' : j < d'.size := by simpa using hj
    have h2 : d'.size = ts.length := by simpa using hp.1
    have := hs i j (Nat.zero_le _) hij (by omega)
    have h3 : ¬ cmpE (d'[j]!).e (d'[i]!).e < 0 := of_decide_eq_false this
    have hi' : i < d'.size := by omega
    simpa [List.getD_eq_getElem?_getD, hi', hj'] using h3
  · subst hw
    have h2 : d'.size = ts.length := by simpa using hp.1
    have hdl : d'.toList.length = ts.length := by simpa using h2
    have hfs := Go.Sort.size_flatK T4.cs 4 d'
    refine ⟨hok, (Go.Sort.flatK T4.cs 4 d').toList, ⟨by rw [hdl, hsz]; simp [h2], .inr ⟨g, c, _, by rw [hdl], hgb, sortK_self _ _ _ _ _ hheap, by omega, hcm, by rw [hsz]; simpa [Go.Sort.putCells] using hcs, ?_⟩⟩, ⟨by rw [hdl, hsz]; simp [h2], fun j p hjp => ?_⟩⟩
    · rw [hdl, hsz]
      have := putK_take (Go.Sort.flatK T4.cs 4 d') cur (by rw [hfs, h2]; exact hcl)
      rwa [hfs, h2] at this
    · obtain ⟨hjl, hjp'⟩ := List.getElem?_eq_some_iff.1 hjp
      have hj' : j < d'.size := by simpa using hjl
      rw [hsz]
      have := flat_row d' j hj'
      show _ = p.cs
      rw [this, ← hjp']
      simp [hj']
  · subst hw
    refine ⟨rfl, rfl, rfl, ?_, fun k hk hne => sortK_other _ _ _ _ _ _ (by omega) (fun h => hne (by rw [h]; rfl))⟩
    simp [Go.Proofs.sortWorldK, Go.Sort.grow, Go.Sort.putRowK, Go.Sort.putRow, Go.Sort.mapBlock, Go.Sort.ahead]
end Go.Proofs.Ytneknpamceipiaa
/- More on values of three fields in the making; no condition. -/
set_option linter.unusedVariables false
set_option linter.unusedSimpArgs false
namespace Go.Proofs.Ytneknpamceipiaa
open Go.RowKit Go.Proofs.YtneknpamceipiaaW.PrintWords
attribute [local go_sem] Later.cell Later.frozen Later.lt Later.lt_add Later.le Later.le_add Later.ne Later.ne' add_at
section
variable {α : Type} {d : Kd α} {w0 W W' : World} {ob rb : Nat} {p n : Int} {E : TypeId} {B : Option Addr} {cb : Nat} {xs : List α}
/-- A block that is no row (an iterator) has turned. -/
theorem AccK.iter {r : Nat} (h : AccK d w0 ob rb p n E W B cb xs) (hg : W.grownBy W' (some r)) (hr : ∀ c t f, W.heap[r]? ≠ some (.cells c t f)) (hbr : w0.heap.size ≤ r) : AccK d w0 ob rb p n E W' B cb xs := by
  have cellsOf : ∀ (a : Addr) (v : Value), W.cell? a = some v → some a.block ≠ some r := fun a v hv e => by
    injection e with e
    unfold World.cell? at hv
    split at hv
    · rename_i c t f hc
      rw [e] at hc
      exact hr _ _ _ hc
    · cases hv
  have hlo := h.lo
  have hlr := h.lr
  have e1 := cellsOf _ _ h.o0
  have e2 := cellsOf _ _ h.r0
  refine ⟨⟨hg.os.trans h.bel.os, hg.tape.trans h.bel.tape, hg.output.trans h.bel.output, Nat.le_trans h.bel.size hg.size, fun k hk => (hg.block k (Nat.lt_of_lt_of_le hk h.bel.size) (fun e => by injection e with e; omega)).trans (h.bel.block k hk)⟩, h.hrb, h.hob, far_cell hg h.o0 e1, far_cell hg h.o1 e1, far_cell hg h.o2 e1, fun j => far_frozen hg (h.o3 j) hlo e1, ?_, far_cell hg h.r0 e2, far_cell hg h.r1 e2, far_cell hg h.r2 e2, fun j => far_frozen hg (h.r3 j) hlr e2, h.hne⟩
  exact Kd.R_mono (Kd.R_step (Kd.R_bound h.R) (fun k hk hlt => hg.block k hlt (fun e => by
    injection e with e
    obtain ⟨q, _, cells, hc⟩ := hk.2.2.2
    rw [e] at hc
    exact hr _ _ _ hc))) (fun k hk => hk.1)
/-- The row's own elements have been moved about. -/
theorem AccK.swap {ys : List α} (h : AccK d w0 ob rb p n E W B cb xs) (hl : ys.length = xs.length) (hg : W.grownBy W' (Value.slice B xs.length cb).ownBlock) (hR : d.R E W' w0.heap.size (fun k => k ≠ ob ∧ k ≠ rb) (.slice B xs.length cb) ys) : AccK d w0 ob rb p n E W' B cb ys := by
  have hlo := h.lo
  have hlr := h.lr
  refine ⟨⟨hg.os.trans h.bel.os, hg.tape.trans h.bel.tape, hg.output.trans h.bel.output, Nat.le_trans h.bel.size hg.size, fun k hk => (hg.block k (Nat.lt_of_lt_of_le hk h.bel.size) (fun e => by have := Kd.R_base h.R _ e.symm; omega)).trans (h.bel.block k hk)⟩, h.hrb, h.hob, far_cell hg h.o0 h.own, far_cell hg h.o1 h.own, by rw [hl]; exact far_cell hg h.o2 h.own, fun j => far_frozen hg (h.o3 j) hlo h.own, by rw [hl]; exact hR, far_cell hg h.r0 h.ownr, far_cell hg h.r1 h.ownr, far_cell hg h.r2 h.ownr, fun j => far_frozen hg (h.r3 j) hlr h.ownr, h.hne⟩
theorem grownBy_setCell (W : World) (a : Addr) (v : Value) : W.grownBy (W.setCell a v) (some a.block) := ⟨rfl, rfl, rfl, by simp, fun i _ hi => Below.heap_setCell W a v i (fun e => hi (by rw [e]))⟩
end
end Go.Proofs.Ytneknpamceipiaa
/- The walk of the program's sum.poly: a map of monomials as a polynomial; no condition. -/
set_option linter.unusedVariables false
set_option linter.unusedSimpArgs false
namespace Go.Proofs.Ytneknpamceipiaa
open Go.RowKit Go.Proofs.YtneknpamceipiaaW.PrintWords
attribute [local go_sem] Later.cell Later.frozen Later.lt Later.lt_add Later.le Later.le_add Later.ne Later.ne' add_at
open Go.Maps Go.WideMaps
/-! ### what has been collected -/
structure Col (p : Int) (f : E3 → Int) (left : Lit → Bool) (xs : List T4) : Prop where
  apart : xs.Pairwise (fun a b => a.e ≠ b.e)
  mem : ∀ t ∈ xs, left (kl t.e) = false ∧ t.v = f t.e % p ∧ t.v ≠ 0
  all : ∀ e, f e % p ≠ 0 → left (kl e) = true ∨ ∃ t ∈ xs, t.e = e
theorem Col.start {p : Int} {f : E3 → Int} {D : DataW UnitD} (hf : ∀ e, D.atKey (kl e) (.lit (.int .i64 0)) = .lit (.int .i64 (f e))) : Col p f (Maps.has D) [] := by
  refine ⟨List.Pairwise.nil, (fun _ h => by cases h), fun e he => .inl ?_⟩
  cases h : Maps.has D (kl e) with
  | true => rfl
  | false =>
    have h1 := hf e
    rw [Maps.atKey_of_not_has h] at h1
    have h2 : f e = 0 := by simpa using h1.symm
    rw [h2] at he
    simp at he
theorem Col.no {p : Int} {f : E3 → Int} {left : Lit → Bool} {xs : List T4} (h : Col p f left xs) {e : E3} (hz : f e % p = 0) : Col p f (fun z => left z && !z.sameKey (kl e)) xs := by
  refine ⟨h.apart, fun t ht => ⟨by rw [(h.mem t ht).1]; rfl, (h.mem t ht).2⟩, fun x hx => ?_⟩
  by_cases hxe : x = e
  · rw [hxe] at hx
    exact absurd hz hx
  · rcases h.all x hx with h1 | h1
    · refine .inl ?_
      rw [h1, Maps.sameKey_ne (fun hk => hxe (kl_inj hk))]
      rfl
    · exact .inr h1
theorem Col.yes {p : Int} {f : E3 → Int} {left : Lit → Bool} {xs : List T4} (h : Col p f left xs) {e : E3} (hl : left (kl e) = true) (hz : f e % p ≠ 0) : Col p f (fun z => left z && !z.sameKey (kl e)) (xs ++ [⟨e, f e % p⟩]) := by
  refine ⟨?_, fun t ht => ?_, fun x hx => ?_⟩
  · refine List.pairwise_append.2 ⟨h.apart, List.pairwise_singleton _ _, fun a ha b hb => ?_⟩
    rw [List.mem_singleton.1 hb]
    intro hae
    have := (h.mem a ha).1
    rw [hae, hl] at this
    cases this
  · rcases List.mem_append.1 ht with ht | ht
    · exact ⟨by rw [(h.mem t ht).1]; rfl, (h.mem t ht).2⟩
    · rw [List.mem_singleton.1 ht]
      exact ⟨by rw [WideAt.sameKey_self (kl_key e)]; simp, rfl, hz⟩
  · by_cases hxe : x = e
    · exact .inr ⟨⟨e, f e % p⟩, by simp, hxe.symm⟩
    · rcases h.all x hx with h1 | ⟨t, ht, h1⟩
      · refine .inl ?_
        rw [h1, Maps.sameKey_ne (fun hk => hxe (kl_inj hk))]
        rfl
      · exact .inr ⟨t, by simp [ht], h1⟩
/-- What was collected, sorted, is the one list with these coefficients. -/
theorem Col.done {p : Int} (hp : 2 ≤ p) {f : E3 → Int} {left : Lit → Bool} {xs ys T : List T4} (h : Col p f left xs) (hl : ∀ k, left k = false) (hperm : ys.Perm xs) (hs : ∀ i j, i < j → j < ys.length → ¬ cmpE (ys.getD j z4).e (ys.getD i z4).e < 0)
    (hT : Canon p T) (hTc : ∀ e, coefL T e = f e % p) : ys = T := by
  have hap : ys.Pairwise (fun a b => a.e ≠ b.e) := (hperm.pairwise_iff (fun {a b} (h : a.e ≠ b.e) => h.symm)).2 h.apart
  have hmem : ∀ t ∈ ys, t.v = f t.e % p ∧ t.v ≠ 0 := fun t ht => (h.mem t (hperm.mem_iff.1 ht)).2
  have hsort : SortT ys := by
    refine List.pairwise_iff_getElem.2 fun i j hi hj hij => ?_
    have h1 := hs i j hij hj
    have h2 := List.pairwise_iff_getElem.1 hap i j hi hj hij
    have e1 : ys.getD i z4 = ys[i] := by simp [List.getD_eq_getElem?_getD, hi]
    have e2 : ys.getD j z4 = ys[j] := by simp [List.getD_eq_getElem?_getD, hj]
    rw [e1, e2] at h1
    rcases cmpE_tri ys[i].e ys[j].e with g | g | g
    · exact g
    · exact absurd g h2
    · exact absurd g h1
  have hcan : Canon p ys := ⟨hsort, fun t ht => by
    obtain ⟨h1, h2⟩ := hmem t ht
    have h3 := Int.emod_nonneg (f t.e) (show p ≠ 0 by omega)
    have h4 := Int.emod_lt_of_pos (f t.e) (show 0 < p by omega)
    omega⟩
  refine canon_ext hcan hT fun e => ?_
  rw [hTc e]
  by_cases hz : f e % p = 0
  · rw [hz]
    refine coef_absent fun t ht hte => ?_
    obtain ⟨h1, h2⟩ := hmem t ht
    rw [hte, hz] at h1
    exact h2 h1
  · rcases h.all e hz with h1 | ⟨t, ht, h1⟩
    · rw [hl] at h1
      cases h1
    · have ht' := hperm.mem_iff.2 ht
      rw [← h1, coef_mem hsort ht', (hmem t ht').1]
set_option maxRecDepth 100000 in
theorem byteLit {m : Nat} {v : Value} {l : List Lit} (h : Try.prog.keyLits (m + 1) 5 [v] = some l) : ∃ x : UInt8, v = .int .u8 (x.toNat : Int) := by
  unfold Program.keyLits at h
  rw [Try.underlying5] at h
  cases v <;> simp at h
  obtain ⟨⟨rfl, hw⟩, _⟩ := h
  obtain ⟨x, rfl⟩ := wf_u8 hw
  exact ⟨x, rfl⟩
set_option maxRecDepth 100000 in
/-- What reads as a key is a monomial. -/
theorem keyE_inv {key : Value} {l : Lit} (h : keyOf Try.prog 119 key = some l) : ∃ e : E3, key = .agg #[.int .u8 (e.a.toNat : Int), .int .u8 (e.b.toNat : Int), .int .u8 (e.c.toNat : Int)] := by
  obtain ⟨m, hm⟩ := typesPos
  unfold keyOf at h
  rw [keyArr.hu] at h
  simp only [Bool.and_eq_true] at h
  split at h
  · rename_i hc
    obtain ⟨_, hf⟩ := hc
    rw [hm] at h
    unfold Program.keyLits at h
    rw [keyArr.hu] at h
    simp only [Value.formed, keyArr.hu, keyArr.size] at hf
    have hcs : ∃ a b c, key = .agg #[a, b, c] := by
      cases key <;> simp at hf
      rename_i cs
      obtain ⟨l⟩ := cs
      match l, hf with
      | [a, b, c], _ => exact ⟨a, b, c, rfl⟩
    obtain ⟨a, b, c, rfl⟩ := hcs
    simp [Value.cells, keyArr.size, keyArr.one, List.range_succ] at h
    cases ha : Try.prog.keyLits (m + 1) 5 [a] with
    | none => simp [ha] at h
    | some la =>
    cases hb : Try.prog.keyLits (m + 1) 5 [b] with
    | none => simp [ha, hb] at h
    | some lb =>
    cases hc : Try.prog.keyLits (m + 1) 5 [c] with
    | none => simp [ha, hb, hc] at h
    | some lc =>
    obtain ⟨x, rfl⟩ := byteLit ha
    obtain ⟨y, rfl⟩ := byteLit hb
    obtain ⟨z, rfl⟩ := byteLit hc
    exact ⟨⟨x, y, z⟩, rfl⟩
  · cases h
theorem intInv {v : Value} {y : DataW UnitD × List MemPlace} (h : plainElem Try.prog 2 v = some y) : ∃ c : Int, v = .int .i64 c := by
  obtain ⟨c, hc, _⟩ := plainElem_int_inv Try.underlying2 h
  exact ⟨c, hc⟩
theorem iter_cells {W : World} {P : Program} {k : TypeId} {R : Value → Option (DataW UnitD × List MemPlace)} {b r n cnt : Nat} {D : DataW UnitD} {left : Lit → Bool} (h : W.ranges P k R b r n D left cnt) : ∀ c t f, W.heap[r]? ≠ some (.cells c t f) := by
  obtain ⟨es, clock, since, seen, c0, _, _, _, _, hr, _⟩ := h
  intro c t f hc
  rw [hr] at hc
  cases hc
theorem iter_ne {α : Type} {d : Kd α} {E base r : Nat} {W : World} {ok : Nat → Prop} {v : Value} {xs : List α} (hr : ∀ c t f, W.heap[r]? ≠ some (.cells c t f)) (hR : d.R E W base ok v xs) : some r ≠ v.ownBlock := fun e => by
  obtain ⟨_, _, _, q, _, cells, hc⟩ := (Kd.R_bound hR).1 r e.symm
  exact hr _ _ _ hc
set_option maxRecDepth 100000 in
set_option maxHeartbeats 4000000 in
theorem poly_c (p d : Int) (b n : Nat) (f : E3 → Int) (T : List T4) (w : World) (hS : SumAt w b n f) (hn : n ≤ 4194304) (hp : 2 ≤ p) (hp' : p ≤ 13) (hT : Canon p T) (hTc : ∀ e, coefL T e = f e % p) :
    Calls Try.prog 146 #[.map (some b), .int .i64 p, .int .i64 d] w (MakesP p d 121 T w) := by
  have hbw := hS.lt
  have acc0 : AccK kT w (w.heap.size + 1) w.heap.size p d 121 ((w.alloc (.cells #[.int .i64 0, .int .i64 0, .slice none 0 0] 45)).alloc (.cells #[.int .i64 p, .int .i64 d, .slice none 0 0] 45)) none 0 [] := by
    refine ⟨(by repeat (first | (with_reducible assumption) | (with_reducible exact Below.refl _ _) | (with_reducible refine Below.drew ?_) | (with_reducible refine pw_below_drewN ?_ _) | ((first | (with_reducible refine Below.alloc ?_ ?_ _) | (with_reducible refine Below.setCell ?_ ?_ _) | (with_reducible refine below_hop (by assumption) ?_ ?_)); rotate_left; (focus (first | omega | (simp; first | done | omega) | (simp [Later.le, Later.le_add, Later.lt, Later.lt_add]; first | done | omega)))) | ((with_reducible refine bel_later _ ?_ ?_); rotate_left; (focus (first | omega | (simp; first | done | omega) | (simp [Later.le, Later.le_add, Later.lt, Later.lt_add]; first | done | omega)))))), by omega, by omega, ?_, ?_, ?_, fun j => ?_, Kd.R_nil _ _ _ _ _, ?_, ?_, ?_, fun j => ?_, by omega⟩
    all_goals first | (simp; done) | (simp [go_sem]; done) | go_simp
  have hS1 := hS.below (w' := (w.alloc (.cells #[.int .i64 0, .int .i64 0, .slice none 0 0] 45)).alloc (.cells #[.int .i64 p, .int .i64 d, .slice none 0 0] 45)) (by repeat (first | (with_reducible assumption) | (with_reducible exact Below.refl _ _) | (with_reducible refine Below.drew ?_) | (with_reducible refine pw_below_drewN ?_ _) | ((first | (with_reducible refine Below.alloc ?_ ?_ _) | (with_reducible refine Below.setCell ?_ ?_ _) | (with_reducible refine below_hop (by assumption) ?_ ?_)); rotate_left; (focus (first | omega | (simp; first | done | omega) | (simp [Later.le, Later.le_add, Later.lt, Later.lt_add]; first | done | omega)))) | ((with_reducible refine bel_later _ ?_ ?_); rotate_left; (focus (first | omega | (simp; first | done | omega) | (simp [Later.le, Later.le_add, Later.lt, Later.lt_add]; first | done | omega))))))
  obtain ⟨D, hown, hf⟩ := hS1
  have hcol := Col.start (p := p) hf
  have hsz := hown.size_le
  have HF := Lib.hid hf
  have HT := Lib.hid hT
  have HTC := Lib.hid hTc
  clear hf hS hT hTc
  go_enter Try.func146, Try.ntmps146
  go_wp2_with (at_range; refine wpList_range_own _ rfl _ 164 rfl 119 2 keyed mapTy _ b n D rfl hown ?_; intro w0 hrg0 hg0 hs0)
  go_frame
  have he : ((w.alloc (.cells #[.int .i64 0, .int .i64 0, .slice none 0 0] 45)).alloc (.cells #[.int .i64 p, .int .i64 d, .slice none 0 0] 45)).heap.size = w.heap.size + 1 + 1 := by simp
  have acc1 := acc0.below (W' := w0) ⟨hg0.os, hg0.tape, hg0.output, hg0.size, fun k hk => hg0.block k hk (by simp)⟩
  clear acc0 hown hg0 hs0
  generalize ((w.alloc (.cells #[.int .i64 0, .int .i64 0, .slice none 0 0] 45)).alloc (.cells #[.int .i64 p, .int .i64 d, .slice none 0 0] 45)) = V0 at *
  rw [he] at hrg0 ⊢
  generalize hob : w.heap.size + 1 = ob at *
  go_loopg [9] (Maps.size D) (fun g v9 w' => ∃ (left : Lit → Bool) (xs : List T4) (B : Option Addr) (cb : Nat), w'.ranges Try.prog 119 (plainElem Try.prog 2) b (ob + 1) n D left g ∧ AccK kT w ob w.heap.size p d 121 w' B cb xs ∧ Col p f left xs ∧ xs.length + g ≤ n)
  case atStart => exact ⟨_, [], none, 0, hrg0, acc1, hcol, by simpa using hsz⟩
  case round =>
    clear hrg0 acc1 hcol hsz
    obtain ⟨left, xs, B, cb, hrg, acc, hcol, hxn⟩ := hrel
    have ACC := Lib.hid acc
    have COL := Lib.hid hcol
    have HRG := Lib.hid hrg
    clear acc hcol
    go_wp2_with (first
      | (at_next; refine wpList_next_ranges _ rfl _ rfl 119 keyed _ (fun e : E3 => .agg #[.int .u8 (e.a.toNat : Int), .int .u8 (e.b.toNat : Int), .int .u8 (e.c.toNat : Int)]) (Value.int .i64) (fun _ _ h => keyE_inv h) (fun _ _ h => intInv h) b (ob + 1) n _ _ _ rfl hrg ?_ ?_)
      | go_in)
    · intro _ hl0
      have hone : ∀ ys : List T4, ys.Perm xs → (∀ i j, i < j → j < ys.length → ¬ cmpE (ys.getD j z4).e (ys.getD i z4).e < 0) → ys = T := fun ys h1 h2 => COL.out.done hp hl0 h1 h2 HT.out HTC.out
      have o2 := ACC.out.o2
      have zlo := ACC.out.lo
      go_wp2_with (go_at_call 175; refine (sort_terms ACC.out.R (by omega)).mono ?_; rintro e8 w8 ⟨rfl, ys, hperm, hs8, hR8, hg8⟩; have hlen := hperm.length_eq; obtain rfl := hone ys hperm hs8; have acc8 := ACC.out.swap hlen hg8 hR8; rw [← hlen] at *; have r0 := acc8.r0; have r1 := acc8.r1; have r2 := acc8.r2; have r3 := acc8.r3 0; have r4 := acc8.r3 1; have r5 := acc8.r3 2; have p0 := acc8.o0; have p1 := acc8.o1; have p2 := acc8.o2; have zlr := acc8.lr; have zlo8 := acc8.lo; have hne8 := acc8.hne)
      refine bodyPost_ret (v := .agg #[.int .i64 p, .int .i64 d, .slice B ys.length cb]) (by simp [results, Try.results146, go_sem, r0, r1, r2]) rfl ⟨B, cb, rfl, ?_, ?_⟩
      · exact R_set3 acc8.R (fun k hk => hk.2) (Nat.le_refl _) _ _ _
      · exact below_set3 acc8.bel (Nat.le_refl _) _ _ _
    · intro e c kk yd yp w1 cnt1 hkk hlk hy hat hrg1 hlt hg1 hs1 hen
      obtain rfl : kk = kl e := Option.some.inj (hkk.symm.trans (kl_spec e))
      have hc : c = f e := by
        have h1 := hat (.lit (.int .i64 0))
        obtain ⟨a, ha, hz, _⟩ := plainElem_int_inv Try.underlying2 hy
        simp only [Value.int.injEq, true_and] at ha
        simp only [Prod.mk.injEq] at hz
        rw [HF.out e, hz.1, ← ha] at h1
        simpa using h1.symm
      subst hc
      have hv := tmod_fixS (x := f e) hp hp'
      have acc1 := ACC.out.iter hg1 (iter_cells HRG.out) (by omega)
      have ACC1 := Lib.hid (acc1.alloc (.cells #[.int .u8 (e.a.toNat : Int), .int .u8 (e.b.toNat : Int), .int .u8 (e.c.toNat : Int)] 119))
      have HRG1 := Lib.hid (hrg1.alloc (.cells #[.int .u8 (e.a.toNat : Int), .int .u8 (e.b.toNat : Int), .int .u8 (e.c.toNat : Int)] 119))
      have HLT := Lib.hid hlt
      have n0 : (w1.alloc (.cells #[.int .u8 (e.a.toNat : Int), .int .u8 (e.b.toNat : Int), .int .u8 (e.c.toNat : Int)] 119)).cell? ⟨w1.heap.size, 0, none⟩ = some (.int .u8 (e.a.toNat : Int)) := by simp
      have n1 : (w1.alloc (.cells #[.int .u8 (e.a.toNat : Int), .int .u8 (e.b.toNat : Int), .int .u8 (e.c.toNat : Int)] 119)).cell? ⟨w1.heap.size, 1, none⟩ = some (.int .u8 (e.b.toNat : Int)) := by simp
      have n2 : (w1.alloc (.cells #[.int .u8 (e.a.toNat : Int), .int .u8 (e.b.toNat : Int), .int .u8 (e.c.toNat : Int)] 119)).cell? ⟨w1.heap.size, 2, none⟩ = some (.int .u8 (e.c.toNat : Int)) := by simp
      have hyes := fun hz => COL.out.yes (e := e) hlk hz
      have hno := fun hz => COL.out.no (e := e) hz
      have p2 := ACC1.out.o2
      have p3 := ACC1.out.o3 2
      have zlo := ACC1.out.lo
      have hz1 : (w1.alloc (.cells #[.int .u8 (e.a.toNat : Int), .int .u8 (e.b.toNat : Int), .int .u8 (e.c.toNat : Int)] 119)).heap.size = w1.heap.size + 1 := by simp
      clear hrg1 hat hy hkk hg1 hs1 hrg hlt acc1
      generalize hfv : f e % p = v at *
      have HFV := Lib.hid hfv
      have HYES := Lib.hid hyes
      have HNO := Lib.hid hno
      clear hfv hyes hno
      by_cases hz : v = 0
      · have hzb : (v != 0) = false := by simp [hz]
        have HZ := Lib.hid hz
        clear hz
        go_wp2
        go_roundg cnt1
        case measure => exact HLT.out
        case rel => exact ⟨_, xs, B, cb, HRG1.out, ACC1.out, HNO.out HZ.out, by have := HLT.out; omega⟩
      · have hzb : (v != 0) = true := by simpa using hz
        have HZ := Lib.hid hz
        clear hz
        have hxs1 : ∀ m : T4, (xs ++ [m]).length = xs.length + 1 := fun m => by simp
        have hcb : some b ≠ (Value.slice B xs.length cb).ownBlock := fun h => by have := Kd.R_base ACC1.out.R _ h.symm; omega
        go_wp2_with (((with_reducible refine gate_ (.call { callee := .builtin .append, args := #[.tmp 30, .tmp 34], argTypes := #[43, 43] }) rfl ?_); refine Kd.R_append kT (w0 := (w1.alloc (.cells #[.int .u8 (e.a.toNat : Int), .int .u8 (e.b.toNat : Int), .int .u8 (e.c.toNat : Int)] 119))) (W := (w1.alloc (.cells #[.int .u8 (e.a.toNat : Int), .int .u8 (e.b.toNat : Int), .int .u8 (e.c.toNat : Int)] 119))) w.heap.size rfl (.tmp 30) (.tmp 34) 43 121 (.agg #[.int .u8 0, .int .u8 0, .int .u8 0, .int .i64 0]) 16 rfl Try.underlying43 infoT rfl (by decide) (by decide) (.slice B xs.length cb) xs (⟨e, v⟩ : T4) (⟨e, v⟩ : T4).cs (fun k => k ≠ ob ∧ k ≠ w.heap.size) (fun _ => False) rfl (by first | rfl | (rw [World.size_alloc]; rfl)) rfl (fun _ hk => hk.elim) (fun k hk => ⟨by have := ACC1.out.lo; omega, by have := ACC1.out.lr; omega⟩) ACC1.out.R (Below.refl _ _) ACC1.out.bel.size (by omega) ?_; intro v8 w8 hR8 hB8 hg8 hat8; obtain ⟨B8, c8, rfl, hl8, hC8⟩ := Kd.R_reads hR8; clear hat8 hC8; rw [hxs1] at *; replace p2 := far_cell hg8 p2 ACC1.out.own; replace p3 := far_frozen hg8 p3 zlo ACC1.out.own))
        go_roundg cnt1
        case measure => exact HLT.out
        case rel =>
          have h1 := HRG1.out.kept hg8 hcb (iter_ne (iter_cells HRG1.out) ACC1.out.R)
          exact ⟨_, xs ++ [⟨e, v⟩], B8, c8, h1.kept (grownBy_setCell w8 ⟨ob, 2, none⟩ _) (fun h => by injection h with h; simp only [] at h; omega) (fun h => by injection h with h; simp only [] at h; omega), ACC1.out.put2 hR8 hB8 hg8 rfl, HYES.out HZ.out, by have := HLT.out; rw [hxs1]; omega⟩
end Go.Proofs.Ytneknpamceipiaa
/- The walk of the program's add; no condition. -/
set_option linter.unusedVariables false
set_option linter.unusedSimpArgs false
namespace Go.Proofs.Ytneknpamceipiaa
open Go.RowKit Go.Proofs.YtneknpamceipiaaW.PrintWords
attribute [local go_sem] Later.cell Later.frozen Later.lt Later.lt_add Later.le Later.le_add Later.ne Later.ne' add_at
open Go.Maps
theorem sumAt_bd {M : Int} (hM : 0 ≤ M) (e : E3) : ∀ (l : List (E3 × Int)), (∀ q ∈ l, -M ≤ q.2 ∧ q.2 ≤ M) → -(l.length * M) ≤ sumAt l e ∧ sumAt l e ≤ l.length * M
  | [], _ => by simp [sumAt]
  | q :: l, h => by
    obtain ⟨h1, h2⟩ := sumAt_bd hM e l fun r hr => h r (by simp [hr])
    obtain ⟨h3, h4⟩ := h q (by simp)
    rw [sumAt_cons, List.length_cons, Int.natCast_succ, Int.add_mul]
    split <;> omega
theorem pairs_bd {M k : Int} {ts : List T4} (h : ∀ t ∈ ts, -M ≤ k * t.v ∧ k * t.v ≤ M) (i : Nat) : ∀ q ∈ pairsT k (ts.take i), -M ≤ q.2 ∧ q.2 ≤ M := by
  intro q hq
  obtain ⟨t, ht, rfl⟩ := List.mem_map.1 hq
  exact h t (List.mem_of_mem_take ht)
theorem four_one (W : World) (s : T4) (E : TypeId) : ∃ V : World, (W.alloc (.cells #[.int .u8 (s.e.a.toNat : Int), .int .u8 (s.e.b.toNat : Int), .int .u8 (s.e.c.toNat : Int), .int .i64 s.v] E)) = V ∧ Below W.heap.size W V ∧
    V.cell? ⟨W.heap.size, 0, none⟩ = some (.int .u8 (s.e.a.toNat : Int)) ∧ V.cell? ⟨W.heap.size, 1, none⟩ = some (.int .u8 (s.e.b.toNat : Int)) ∧ V.cell? ⟨W.heap.size, 2, none⟩ = some (.int .u8 (s.e.c.toNat : Int)) ∧ V.cell? ⟨W.heap.size, 3, none⟩ = some (.int .i64 s.v) := by
  refine ⟨_, rfl, (Below.refl _ W).alloc (Nat.le_refl _) _, ?_, ?_, ?_, ?_⟩
  all_goals first | (simp; done) | (simp [go_sem]; done) | go_simp
theorem sumAt_upd (l : List (E3 × Int)) (e : E3) (v : Int) : updF (fun x => sumAt l x) e (sumAt l e + v) = fun x => sumAt (l ++ [(e, v)]) x := by
  funext x
  unfold updF
  rw [sumAt_snoc]
  by_cases h : x = e
  · rw [if_pos h, h, if_pos rfl]
  · rw [if_neg h, if_neg (fun g : e = x => h g.symm), Int.add_zero]
theorem SumAt.congr {w : World} {b n : Nat} {f g : E3 → Int} (h : SumAt w b n f) (hf : f = g) : SumAt w b n g := hf ▸ h
theorem below_grown {B b : Nat} {w0 W W' : World} (h : Below B w0 W) (hg : W.grownBy W' (some b)) (hb : B ≤ b) (hB : B ≤ W.heap.size) : Below B w0 W' :=
  ⟨hg.os.trans h.os, hg.tape.trans h.tape, hg.output.trans h.output, Nat.le_trans h.size hg.size, fun k hk => (hg.block k (by omega) (fun e => by injection e with e; omega)).trans (h.block k hk)⟩
set_option maxRecDepth 100000 in
set_option maxHeartbeats 4000000 in
theorem add_c (p d p' d' k : Int) (A A' : Option Addr) (c c' : Nat) (ts us : List T4) (w : World) (hC : kT.C w A ts.length ts) (hD : kT.C w A' us.length us) (hn : ts.length ≤ 2097152) (hm : us.length ≤ 2097152) (hp : 2 ≤ p) (hp' : p ≤ 13)
    (hv : ∀ t ∈ us, -1000000 ≤ k * t.v ∧ k * t.v ≤ 1000000) (hcan : Canon p ts) :
    Calls Try.prog 109 #[.agg #[.int .i64 p, .int .i64 d, .slice A ts.length c], .agg #[.int .i64 p', .int .i64 d', .slice A' us.length c'], .int .i64 k] w (MakesP p d 121 (putsT p ts (pairsT k us)) w) := by
  have HV := Lib.hid hv
  have HCAN := Lib.hid hcan
  have hv1 : ∀ t ∈ ts, -1000000 ≤ 1 * t.v ∧ 1 * t.v ≤ 1000000 := fun t ht => by have := hcan.2 t ht; omega
  have HV1 := Lib.hid hv1
  have hC1 := Kd.C_alloc (Kd.C_alloc (Kd.C_alloc hC (.cells #[.int .i64 p, .int .i64 d, .slice A ts.length c] 45)) (.cells #[.int .i64 p', .int .i64 d', .slice A' us.length c'] 45)) (.cells #[.int .i64 0, .int .i64 0, .slice none 0 0] 45)
  have hD1 := Kd.C_alloc (Kd.C_alloc (Kd.C_alloc hD (.cells #[.int .i64 p, .int .i64 d, .slice A ts.length c] 45)) (.cells #[.int .i64 p', .int .i64 d', .slice A' us.length c'] 45)) (.cells #[.int .i64 0, .int .i64 0, .slice none 0 0] 45)
  have s0 : (((w.alloc (.cells #[.int .i64 p, .int .i64 d, .slice A ts.length c] 45)).alloc (.cells #[.int .i64 p', .int .i64 d', .slice A' us.length c'] 45)).alloc (.cells #[.int .i64 0, .int .i64 0, .slice none 0 0] 45)).cell? ⟨w.heap.size, 2, none⟩ = some (.slice A ts.length c) := by first | (simp; done) | (simp [go_sem]; done) | go_simp
  have s1 : (((w.alloc (.cells #[.int .i64 p, .int .i64 d, .slice A ts.length c] 45)).alloc (.cells #[.int .i64 p', .int .i64 d', .slice A' us.length c'] 45)).alloc (.cells #[.int .i64 0, .int .i64 0, .slice none 0 0] 45)).cell? ⟨w.heap.size, 0, none⟩ = some (.int .i64 p) := by first | (simp; done) | (simp [go_sem]; done) | go_simp
  have s2 : (((w.alloc (.cells #[.int .i64 p, .int .i64 d, .slice A ts.length c] 45)).alloc (.cells #[.int .i64 p', .int .i64 d', .slice A' us.length c'] 45)).alloc (.cells #[.int .i64 0, .int .i64 0, .slice none 0 0] 45)).cell? ⟨w.heap.size, 1, none⟩ = some (.int .i64 d) := by first | (simp; done) | (simp [go_sem]; done) | go_simp
  have s3 : (((w.alloc (.cells #[.int .i64 p, .int .i64 d, .slice A ts.length c] 45)).alloc (.cells #[.int .i64 p', .int .i64 d', .slice A' us.length c'] 45)).alloc (.cells #[.int .i64 0, .int .i64 0, .slice none 0 0] 45)).cell? ⟨w.heap.size + 1, 2, none⟩ = some (.slice A' us.length c') := by first | (simp; done) | (simp [go_sem]; done) | go_simp
  have r0 : (((w.alloc (.cells #[.int .i64 p, .int .i64 d, .slice A ts.length c] 45)).alloc (.cells #[.int .i64 p', .int .i64 d', .slice A' us.length c'] 45)).alloc (.cells #[.int .i64 0, .int .i64 0, .slice none 0 0] 45)).cell? ⟨w.heap.size + 1 + 1, 0, none⟩ = some (.int .i64 0) := by first | (simp; done) | (simp [go_sem]; done) | go_simp
  have r1 : (((w.alloc (.cells #[.int .i64 p, .int .i64 d, .slice A ts.length c] 45)).alloc (.cells #[.int .i64 p', .int .i64 d', .slice A' us.length c'] 45)).alloc (.cells #[.int .i64 0, .int .i64 0, .slice none 0 0] 45)).cell? ⟨w.heap.size + 1 + 1, 1, none⟩ = some (.int .i64 0) := by first | (simp; done) | (simp [go_sem]; done) | go_simp
  have r2 : (((w.alloc (.cells #[.int .i64 p, .int .i64 d, .slice A ts.length c] 45)).alloc (.cells #[.int .i64 p', .int .i64 d', .slice A' us.length c'] 45)).alloc (.cells #[.int .i64 0, .int .i64 0, .slice none 0 0] 45)).cell? ⟨w.heap.size + 1 + 1, 2, none⟩ = some (.slice none 0 0) := by first | (simp; done) | (simp [go_sem]; done) | go_simp
  have r3 : ∀ j, (((w.alloc (.cells #[.int .i64 p, .int .i64 d, .slice A ts.length c] 45)).alloc (.cells #[.int .i64 p', .int .i64 d', .slice A' us.length c'] 45)).alloc (.cells #[.int .i64 0, .int .i64 0, .slice none 0 0] 45)).frozen? ⟨w.heap.size + 1 + 1, j, none⟩ = false := fun j => by first | (simp; done) | (simp [go_sem]; done) | go_simp
  have hbw : Below w.heap.size w (((w.alloc (.cells #[.int .i64 p, .int .i64 d, .slice A ts.length c] 45)).alloc (.cells #[.int .i64 p', .int .i64 d', .slice A' us.length c'] 45)).alloc (.cells #[.int .i64 0, .int .i64 0, .slice none 0 0] 45)) := (by repeat (first | (with_reducible assumption) | (with_reducible exact Below.refl _ _) | (with_reducible refine Below.drew ?_) | (with_reducible refine pw_below_drewN ?_ _) | ((first | (with_reducible refine Below.alloc ?_ ?_ _) | (with_reducible refine Below.setCell ?_ ?_ _) | (with_reducible refine below_hop (by assumption) ?_ ?_)); rotate_left; (focus (first | omega | (simp; first | done | omega) | (simp [Later.le, Later.le_add, Later.lt, Later.lt_add]; first | done | omega)))) | ((with_reducible refine bel_later _ ?_ ?_); rotate_left; (focus (first | omega | (simp; first | done | omega) | (simp [Later.le, Later.le_add, Later.lt, Later.lt_add]; first | done | omega))))))
  have hz0 : (((w.alloc (.cells #[.int .i64 p, .int .i64 d, .slice A ts.length c] 45)).alloc (.cells #[.int .i64 p', .int .i64 d', .slice A' us.length c'] 45)).alloc (.cells #[.int .i64 0, .int .i64 0, .slice none 0 0] 45)).heap.size = w.heap.size + 1 + 1 + 1 := by simp
  have R3 := Lib.hid r3
  clear hv hcan hv1 r3
  go_enter Try.func109, Try.ntmps109
  have hmm := @run_makeMap Try.prog
  go_wp2_with fail
  have hS0 : SumAt ((((w.alloc (.cells #[.int .i64 p, .int .i64 d, .slice A ts.length c] 45)).alloc (.cells #[.int .i64 p', .int .i64 d', .slice A' us.length c'] 45)).alloc (.cells #[.int .i64 0, .int .i64 0, .slice none 0 0] 45)).alloc (.map #[] 0)) (w.heap.size + 1 + 1 + 1) 0 (fun e => sumAt (pairsT 1 (ts.take 0)) e) := by
    have h := SumAt.made (((w.alloc (.cells #[.int .i64 p, .int .i64 d, .slice A ts.length c] 45)).alloc (.cells #[.int .i64 p', .int .i64 d', .slice A' us.length c'] 45)).alloc (.cells #[.int .i64 0, .int .i64 0, .slice none 0 0] 45))
    rw [hz0] at h
    exact h
  have hV0 : Below (((w.alloc (.cells #[.int .i64 p, .int .i64 d, .slice A ts.length c] 45)).alloc (.cells #[.int .i64 p', .int .i64 d', .slice A' us.length c'] 45)).alloc (.cells #[.int .i64 0, .int .i64 0, .slice none 0 0] 45)).heap.size (((w.alloc (.cells #[.int .i64 p, .int .i64 d, .slice A ts.length c] 45)).alloc (.cells #[.int .i64 p', .int .i64 d', .slice A' us.length c'] 45)).alloc (.cells #[.int .i64 0, .int .i64 0, .slice none 0 0] 45)) ((((w.alloc (.cells #[.int .i64 p, .int .i64 d, .slice A ts.length c] 45)).alloc (.cells #[.int .i64 p', .int .i64 d', .slice A' us.length c'] 45)).alloc (.cells #[.int .i64 0, .int .i64 0, .slice none 0 0] 45)).alloc (.map #[] 0)) := below_alloc2 _ _
  generalize ((((w.alloc (.cells #[.int .i64 p, .int .i64 d, .slice A ts.length c] 45)).alloc (.cells #[.int .i64 p', .int .i64 d', .slice A' us.length c'] 45)).alloc (.cells #[.int .i64 0, .int .i64 0, .slice none 0 0] 45)).alloc (.map #[] 0)) = V0 at *
  generalize hmb : w.heap.size + 1 + 1 + 1 = mb at *
  generalize hrb : w.heap.size + 1 + 1 = rb at *
  generalize heb : w.heap.size + 1 = eb at *
  generalize hxb : w.heap.size = xb at *
  generalize (((w.alloc (.cells #[.int .i64 p, .int .i64 d, .slice A ts.length c] 45)).alloc (.cells #[.int .i64 p', .int .i64 d', .slice A' us.length c'] 45)).alloc (.cells #[.int .i64 0, .int .i64 0, .slice none 0 0] 45)) = W0 at *
  clear hmm
  go_loopg [16] ts.length (fun g v16 w' => ∃ (i : Nat), i + g = ts.length ∧ v16 = .int .i64 i ∧ Below W0.heap.size W0 w' ∧ SumAt w' mb i (fun e => sumAt (pairsT 1 (ts.take i)) e))
  case atStart => exact ⟨0, by omega, rfl, hV0, hS0⟩
  case round =>
    clear hS0 hV0
    obtain ⟨i, hik, rfl, hbel, hS⟩ := hrel
    have HIK := Lib.hid hik
    clear hik
    by_cases hlt : i < ts.length
    · obtain ⟨bb, oo, hA, q0, q1, q2, q3⟩ := kT_at hC1 i hlt z4
      subst hA
      have q0 := pw_cell_below hbel q0
      have q1 := pw_cell_below hbel q1
      have q2 := pw_cell_below hbel q2
      have q3 := pw_cell_below hbel q3
      have hi0 : (0 : Int) ≤ i := by omega
      have hi1 : (i : Int) < ts.length := by omega
      have hin : ((i : Int)).toNat = i := by omega
      have hst := pairs_step 1 hlt
      obtain ⟨hv0, hv1⟩ := HV1.out _ (getD_mem4 hlt)
      obtain ⟨hs0, hs1⟩ := sumAt_bd (M := 1000000) (by omega) (ts.getD i z4).e (pairsT 1 (ts.take i)) (pairs_bd HV1.out i)
      have hlen : (pairsT 1 (ts.take i)).length ≤ 2097152 := by rw [pairs_len, List.length_take]; omega
      generalize ts.getD i z4 = t at *
      generalize pairsT 1 (ts.take i) = l at *
      have HST := Lib.hid hst
      clear hst
      obtain ⟨V, hV, hb9, n0, n1, n2, n3⟩ := four_one wr t 121
      obtain ⟨st, W1, hl, hm1, hl1, hg1, hz1, hW2⟩ := SumAt.region (hS.below (hb9.drew)) (by unfold maxLen; omega) t.e
      obtain ⟨W2, he2, hS2, hg2, hz2⟩ := hW2 (sumAt l t.e + t.v) (by omega) (by omega)
      have hwr : IntKind.i64.wrap (sumAt l t.e + t.v) = sumAt l t.e + t.v := i64_small (by omega) (by omega)
      have hmt : mb ≠ wr.heap.size := by have := hS.lt; omega
      have m0 := far_cell hg1 (show V.drew.cell? ⟨wr.heap.size, 0, none⟩ = _ from n0) (fun e => hmt (by injection e with e; exact e.symm))
      have m3 := far_cell hg1 (show V.drew.cell? ⟨wr.heap.size, 3, none⟩ = _ from n3) (fun e => hmt (by injection e with e; exact e.symm))
      have hbelV := hbel.trans (hb9.drew.mono hbel.size)
      have HS2 := Lib.hid hS2
      have HG2 := Lib.hid hg2
      have HBV := Lib.hid hbelV
      clear hS hW2 hS2 hg2 hg1 hbelV hb9 hz1 hz2
      go_wp2
      go_region
      go_wp2
      go_roundg (gk - 1)
      case measure => have := HIK.out; omega
      case rel => exact ⟨i + 1, by have := HIK.out; omega, by go_num, below_grown HBV.out HG2.out (by omega) HBV.out.size, HS2.out.congr (by rw [sumAt_upd, HST.out, Int.one_mul])⟩
    · have hie : i = ts.length := by have := HIK.out; omega
      subst hie
      rw [List.take_length] at hS
      have u3 := pw_cell_below hbel s3
      have hcong : (fun e => sumAt (pairsT 1 ts) e) = fun e => sumAt (pairsT 1 ts ++ pairsT k (us.take 0)) e := by
        funext e
        rw [sumAt_append]
        show _ = _ + 0
        omega
      have hS1 := hS.congr hcong
      have hbel1 := hbel
      clear hS HIK hlt hbel
      go_wp2
      clear u3
      go_loopg [33] us.length (fun g v33 w' => ∃ (i : Nat), i + g = us.length ∧ v33 = .int .i64 i ∧ Below W0.heap.size W0 w' ∧ SumAt w' mb (ts.length + i) (fun e => sumAt (pairsT 1 ts ++ pairsT k (us.take i)) e))
      case atStart => exact ⟨0, by omega, rfl, hbel1, hS1⟩
      case round =>
        clear hS1 hbel1
        obtain ⟨i, hik, rfl, hbel, hS⟩ := hrel
        have HIK := Lib.hid hik
        clear hik
        by_cases hlt : i < us.length
        · obtain ⟨bb, oo, hA, q0, q1, q2, q3⟩ := kT_at hD1 i hlt z4
          subst hA
          have q0 := pw_cell_below hbel q0
          have q1 := pw_cell_below hbel q1
          have q2 := pw_cell_below hbel q2
          have q3 := pw_cell_below hbel q3
          have hi0 : (0 : Int) ≤ i := by omega
          have hi1 : (i : Int) < us.length := by omega
          have hin : ((i : Int)).toNat = i := by omega
          have hst : pairsT 1 ts ++ pairsT k (us.take (i + 1)) = (pairsT 1 ts ++ pairsT k (us.take i)) ++ [((us.getD i z4).e, k * (us.getD i z4).v)] := by rw [pairs_step k hlt, List.append_assoc]
          obtain ⟨hv0, hv1⟩ := HV.out _ (getD_mem4 hlt)
          obtain ⟨hs0, hs1⟩ := sumAt_bd (M := 1000000) (by omega) (us.getD i z4).e (pairsT 1 ts ++ pairsT k (us.take i)) (fun q hq => by
            rcases List.mem_append.1 hq with hq | hq
            · have := pairs_bd HV1.out ts.length q
              rw [List.take_length] at this
              exact this hq
            · exact pairs_bd HV.out i q hq)
          have hlen : (pairsT 1 ts ++ pairsT k (us.take i)).length ≤ 4194304 := by rw [List.length_append, pairs_len, pairs_len, List.length_take]; omega
          generalize us.getD i z4 = t at *
          generalize pairsT 1 ts ++ pairsT k (us.take i) = l at *
          have HST := Lib.hid hst
          clear hst
          obtain ⟨V, hV, hb9, n0, n1, n2, n3⟩ := four_one wr t 121
          obtain ⟨st, W1, hl, hm1, hl1, hg1, hz1, hW2⟩ := SumAt.region (hS.below (hb9.drew)) (by unfold maxLen; omega) t.e
          obtain ⟨W2, he2, hS2, hg2, hz2⟩ := hW2 (sumAt l t.e + k * t.v) (by omega) (by omega)
          have hwk : IntKind.i64.wrap (k * t.v) = k * t.v := i64_small (by omega) (by omega)
          have hwr : IntKind.i64.wrap (sumAt l t.e + k * t.v) = sumAt l t.e + k * t.v := i64_small (by omega) (by omega)
          have hmt : mb ≠ wr.heap.size := by have := hS.lt; omega
          have m0 := far_cell hg1 (show V.drew.cell? ⟨wr.heap.size, 0, none⟩ = _ from n0) (fun e => hmt (by injection e with e; exact e.symm))
          have m3 := far_cell hg1 (show V.drew.cell? ⟨wr.heap.size, 3, none⟩ = _ from n3) (fun e => hmt (by injection e with e; exact e.symm))
          have hbelV := hbel.trans (hb9.drew.mono hbel.size)
          have HS2 := Lib.hid hS2
          have HG2 := Lib.hid hg2
          have HBV := Lib.hid hbelV
          clear hS hW2 hS2 hg2 hg1 hbelV hb9 hz1 hz2
          go_wp2
          go_region
          go_wp2
          go_roundg (gk - 1)
          case measure => have := HIK.out; omega
          case rel => exact ⟨i + 1, by have := HIK.out; omega, by go_num, below_grown HBV.out HG2.out (by omega) HBV.out.size, HS2.out.congr (by rw [sumAt_upd, HST.out])⟩
        · have hie : i = us.length := by have := HIK.out; omega
          subst hie
          rw [List.take_length] at hS
          have hT : Canon p (putsT p ts (pairsT k us)) := putsT_canon hp _ HCAN.out
          have hTc : ∀ e, coefL (putsT p ts (pairsT k us)) e = sumAt (pairsT 1 ts ++ pairsT k us) e % p := fun e => by
            rw [putsT_coef hp e _ HCAN.out, sumAt_append, sumAt_sort HCAN.out.1]
          have hP := poly_c p d mb (ts.length + us.length) _ _ wr hS (by omega) hp hp' hT hTc
          have HP := Lib.hid hP
          clear hP hT hTc hS
          have u1 := pw_cell_below hbel s1
          have u2 := pw_cell_below hbel s2
          have x0 := pw_cell_below hbel r0
          have x1 := pw_cell_below hbel r1
          have x2 := pw_cell_below hbel r2
          have zr := World.block_lt_of_cell? _ _ x0
          simp only [] at zr
          have x3 := fun j => (hbel.frozen (p := ⟨rb, j, none⟩) (by show rb < _; omega)).trans (R3.out j)
          have X3 := Lib.hid x3
          clear x3
          go_wp2_with (go_at_call 146; (with_reducible refine to_makesP (V := wr) (Below.refl _ _) HP.out ?_); intro w8 B8 c8 hb8 hb8' hl8 hR8; have y0 := pw_cell_below hb8 x0; have y1 := pw_cell_below hb8 x1; have y2 := pw_cell_below hb8 x2; have f0 := (hb8.frozen (p := ⟨rb, 0, none⟩) zr).trans (X3.out 0); have f1 := (hb8.frozen (p := ⟨rb, 1, none⟩) zr).trans (X3.out 1); have f2 := (hb8.frozen (p := ⟨rb, 2, none⟩) zr).trans (X3.out 2))
          generalize putsT p ts (pairsT k us) = xs at *
          refine bodyPost_ret (v := .agg #[.int .i64 p, .int .i64 d, .slice B8 xs.length c8]) (by simp [results, Try.results109, go_sem, y0, y1, y2]) rfl ⟨B8, c8, rfl, ?_, ?_⟩
          · exact R_set3 (Kd.R_mono (Kd.R_bound hR8) (ok' := fun k => k ≠ rb) (fun k hk => by have := hk.2.1; omega)) (fun k hk => hk) (by have := hbel.size; have := hbw.size; omega) _ _ _
          · have h1 := hbw.trans ((hbel.trans (hb8.mono hbel.size)).mono (by omega))
            rw [hxb]
            exact below_set3 h1 (by omega) _ _ _
end Go.Proofs.Ytneknpamceipiaa
/- Lists of polynomials that are read; arePolys, alike of the program; no condition. -/
set_option linter.unusedVariables false
set_option linter.unusedSimpArgs false
namespace Go.Proofs.Ytneknpamceipiaa
open Go.RowKit Go.Proofs.YtneknpamceipiaaW.PrintWords
attribute [local go_sem] Later.cell Later.frozen Later.lt Later.lt_add Later.le Later.le_add Later.ne Later.ne' add_at
/-- A polynomial. -/
structure PV where
  p : Int
  d : Int
  ts : List T4
def kP : Kd PV where
  sz := 3
  E := 121 :: kT.E
  K := fun w x cs => ∃ A c, cs = [.int .i64 x.p, .int .i64 x.d, .slice A x.ts.length c] ∧ kT.C w A x.ts.length x.ts
  M := fun w base ok x cs => ∃ A c, cs = [.int .i64 x.p, .int .i64 x.d, .slice A x.ts.length c] ∧ kT.R 121 w base ok (.slice A x.ts.length c) x.ts
  K_len := by
    rintro w x cs ⟨A, c, rfl, _⟩
    rfl
  K_one := by
    rintro w x cs ⟨A, c, rfl, _⟩ u hu
    simp at hu
    rcases hu with rfl | rfl | rfl <;> rfl
  K_below := by
    rintro w w1 x cs hb ⟨A, c, rfl, hC⟩
    exact ⟨A, c, rfl, Kd.C_below hC hb⟩
  K_of_M := by
    rintro w base ok x cs ⟨A, c, rfl, hR⟩
    exact ⟨A, c, rfl, (Kd.R_reads' hR).2.2⟩
  M_mono := by
    rintro w base ok ok' x cs hok ⟨A, c, rfl, hR⟩
    exact ⟨A, c, rfl, Kd.R_mono hR hok⟩
  M_bound := by
    rintro w base ok x cs ⟨A, c, rfl, hR⟩
    exact ⟨A, c, rfl, Kd.R_bound hR⟩
  M_move := by
    rintro w w1 base ok x cs hm ⟨A, c, rfl, hR⟩
    exact ⟨A, c, rfl, Kd.R_move hR hm⟩
  M_lower := by
    rintro w base base' ok x cs hb ⟨A, c, rfl, hR⟩
    exact ⟨A, c, rfl, Kd.R_lower hR hb⟩
def zP : PV := ⟨0, 0, []⟩
theorem kP_K {w : World} {x : PV} {cs : List Value} : kP.K w x cs ↔ ∃ A c, cs = [.int .i64 x.p, .int .i64 x.d, .slice A x.ts.length c] ∧ kT.C w A x.ts.length x.ts := Iff.rfl
theorem kP_at {w : World} {A : Option Addr} {n : Nat} {ps : List PV} (h : kP.C w A n ps) (i : Nat) (hi : i < n) :
    ∃ b o A' c', A = some ⟨b, o, none⟩ ∧ w.cell? ⟨b, o + i * 3, none⟩ = some (.int .i64 (ps.getD i zP).p) ∧ w.cell? ⟨b, o + i * 3 + 1, none⟩ = some (.int .i64 (ps.getD i zP).d) ∧ w.cell? ⟨b, o + i * 3 + 2, none⟩ = some (.slice A' (ps.getD i zP).ts.length c') ∧ kT.C w A' (ps.getD i zP).ts.length (ps.getD i zP).ts := by
  obtain ⟨b, o, c, hA, hK, hc⟩ := C_at h (by decide) i hi zP
  obtain ⟨A', c', rfl, hC⟩ := kP_K.1 hK
  exact ⟨b, o, A', c', hA, hc 0 _ rfl, hc 1 _ rfl, hc 2 _ rfl, hC⟩
def polysB (ps : List PV) : Bool := ps.all fun x => polyB x.p x.d x.ts
theorem polysB_no {ps : List PV} {i : Nat} (hi : i < ps.length) (h : polyB (ps.getD i zP).p (ps.getD i zP).d (ps.getD i zP).ts = false) : polysB ps = false := by
  rw [← Bool.not_eq_true, polysB, List.all_eq_true]
  intro hc
  have e : ps.getD i zP = ps[i] := by simp [List.getD_eq_getElem?_getD, hi]
  rw [e] at h
  have := hc _ (List.getElem_mem hi)
  rw [h] at this
  cases this
theorem polysB_yes {ps : List PV} (h : ∀ i, i < ps.length → polyB (ps.getD i zP).p (ps.getD i zP).d (ps.getD i zP).ts = true) : polysB ps = true := by
  rw [polysB, List.all_eq_true]
  intro x hx
  obtain ⟨i, hi, rfl⟩ := List.getElem_of_mem hx
  have := h i hi
  rwa [List.getD_eq_getElem?_getD, List.getElem?_eq_getElem hi] at this
set_option maxRecDepth 100000 in
set_option maxHeartbeats 1000000 in
theorem arePolys_c (A : Option Addr) (c : Nat) (ps : List PV) (w : World) (hC : kP.C w A ps.length ps) (hn : ps.length ≤ 9223372036854775807) (hl : ∀ x ∈ ps, x.ts.length ≤ 9223372036854775807) :
    Calls Try.prog 60 #[.slice A ps.length c] w (Gives (.bool (polysB ps)) w) := by
  have HL := Lib.hid hl
  clear hl
  go_enter Try.func60, Try.ntmps60
  go_wp2
  go_loopg [7] ps.length (fun k v w' => ∃ (i : Nat) (y : Later w), i + k = ps.length ∧ v = .int .i64 i ∧ w' = y.W ∧ ∀ j, j < i → polyB (ps.getD j zP).p (ps.getD j zP).d (ps.getD j zP).ts = true)
  case atStart => exact ⟨0, ⟨w, Below.refl _ _⟩, by omega, rfl, rfl, fun j hj => by omega⟩
  case round =>
    obtain ⟨i, y, hik, rfl, rfl, hs⟩ := hrel
    have HIK := Lib.hid hik
    have HS := Lib.hid hs
    clear hik hs
    by_cases hlt : i < ps.length
    · obtain ⟨b, o, A', c', hA, q0, q1, q2, hD⟩ := kP_at hC i hlt
      subst hA
      have q0 := y.keep q0
      have q1 := y.keep q1
      have q2 := y.keep q2
      have hD := Kd.C_below hD y.ok
      have hi0 : (0 : Int) ≤ i := by omega
      have hi1 : (i : Int) < ps.length := by omega
      have hin : ((i : Int)).toNat = i := by omega
      have hlx : (ps.getD i zP).ts.length ≤ 9223372036854775807 := by
        have e : ps.getD i zP = ps[i] := by simp [List.getD_eq_getElem?_getD, hlt]
        rw [e]
        exact HL.out _ (List.getElem_mem hlt)
      have hno := polysB_no hlt
      generalize hx : ps.getD i zP = x at *
      have HNO := Lib.hid hno
      have HX := Lib.hid hx
      clear hno hx
      have hI := fun W hC => IsPoly_c x.p x.d A' c' x.ts W hC hlx
      cases hb : polyB x.p x.d x.ts with
      | false =>
        rw [hb] at hI
        go_wp2_with ((go_at_call 59; (first | (with_reducible refine call_later2 (hI _ (Kd.C_alloc hD _)) ?_) | (with_reducible refine call_later (hI _ (Kd.C_alloc hD _)) ?_)); intro x2))
        have e := HNO.out hb
        rw [e]
        have hx2 := x2.ok
        have hxs := x2.ok.size
        exact bodyPost_ret (v := .bool false) (by simp [results, Try.results60, go_sem]) rfl (.mk rfl (by repeat (first | (with_reducible assumption) | (with_reducible exact Below.refl _ _) | (with_reducible refine Below.drew ?_) | (with_reducible refine pw_below_drewN ?_ _) | ((first | (with_reducible refine Below.alloc ?_ ?_ _) | (with_reducible refine Below.setCell ?_ ?_ _) | (with_reducible refine below_hop (by assumption) ?_ ?_)); rotate_left; (focus (first | omega | (simp; first | done | omega) | (simp [Later.le, Later.le_add, Later.lt, Later.lt_add]; first | done | omega)))) | ((with_reducible refine bel_later _ ?_ ?_); rotate_left; (focus (first | omega | (simp; first | done | omega) | (simp [Later.le, Later.le_add, Later.lt, Later.lt_add]; first | done | omega)))))))
      | true =>
        rw [hb] at hI
        go_wp2_with ((go_at_call 59; (first | (with_reducible refine call_later2 (hI _ (Kd.C_alloc hD _)) ?_) | (with_reducible refine call_later (hI _ (Kd.C_alloc hD _)) ?_)); intro x2))
        go_roundg (gk - 1)
        case measure => have := HIK.out; omega
        case rel =>
          refine ⟨i + 1, ⟨x2.W, (by repeat (first | (with_reducible assumption) | (with_reducible exact Below.refl _ _) | (with_reducible refine Below.drew ?_) | (with_reducible refine pw_below_drewN ?_ _) | ((first | (with_reducible refine Below.alloc ?_ ?_ _) | (with_reducible refine Below.setCell ?_ ?_ _) | (with_reducible refine below_hop (by assumption) ?_ ?_)); rotate_left; (focus (first | omega | (simp; first | done | omega) | (simp [Later.le, Later.le_add, Later.lt, Later.lt_add]; first | done | omega)))) | ((with_reducible refine bel_later _ ?_ ?_); rotate_left; (focus (first | omega | (simp; first | done | omega) | (simp [Later.le, Later.le_add, Later.lt, Later.lt_add]; first | done | omega))))))⟩, by have := HIK.out; omega, by go_num, rfl, fun j hj => ?_⟩
          by_cases h : j = i
          · rw [h, HX.out]; exact hb
          · exact HS.out j (by omega)
    · have e : polysB ps = true := polysB_yes fun j hj => HS.out j (by have := HIK.out; omega)
      have E := Lib.hid e
      clear e
      go_wp2
      rw [E.out]
      exact bodyPost_ret (v := .bool true) (by simp [results, Try.results60, go_sem]) rfl (.mk rfl (by repeat (first | (with_reducible assumption) | (with_reducible exact Below.refl _ _) | (with_reducible refine Below.drew ?_) | (with_reducible refine pw_below_drewN ?_ _) | ((first | (with_reducible refine Below.alloc ?_ ?_ _) | (with_reducible refine Below.setCell ?_ ?_ _) | (with_reducible refine below_hop (by assumption) ?_ ?_)); rotate_left; (focus (first | omega | (simp; first | done | omega) | (simp [Later.le, Later.le_add, Later.lt, Later.lt_add]; first | done | omega)))) | ((with_reducible refine bel_later _ ?_ ?_); rotate_left; (focus (first | omega | (simp; first | done | omega) | (simp [Later.le, Later.le_add, Later.lt, Later.lt_add]; first | done | omega)))))))
end Go.Proofs.Ytneknpamceipiaa
/- AddPolys of both sides; no condition. -/
set_option linter.unusedVariables false
set_option linter.unusedSimpArgs false
namespace Go.Proofs.Ytneknpamceipiaa
open Go.RowKit Go.Proofs.YtneknpamceipiaaW.PrintWords
attribute [local go_sem] Later.cell Later.frozen Later.lt Later.lt_add Later.le Later.le_add Later.ne Later.ne' add_at
theorem sort_adj {ts : List T4} (h : ∀ i, i + 1 < ts.length → cmpE (ts.getD i z4).e (ts.getD (i + 1) z4).e < 0) : SortT ts := by
  have key : ∀ n i, i + n + 1 < ts.length → cmpE (ts.getD i z4).e (ts.getD (i + n + 1) z4).e < 0 := by
    intro n
    induction n with
    | zero => intro i hi; exact h i hi
    | succ n ih => intro i hi; exact cmpE_trans (ih i (by omega)) (h (i + n + 1) hi)
  refine List.pairwise_iff_getElem.2 fun i j hi hj hij => ?_
  have := key (j - i - 1) i (by omega)
  have e1 : ts.getD i z4 = ts[i] := by simp [List.getD_eq_getElem?_getD, hi]
  have e2 : ts.getD (i + (j - i - 1) + 1) z4 = ts[j] := by
    have : i + (j - i - 1) + 1 = j := by omega
    rw [this]
    simp [List.getD_eq_getElem?_getD, hj]
  rwa [e1, e2] at this
theorem polyB_prime {p d : Int} {ts : List T4} (h : polyB p d ts = true) : 2 ≤ p ∧ p ≤ 13 := by
  unfold polyB at h
  simp only [Bool.and_eq_true] at h
  exact prime_bd h.1.1
theorem polyB_canon {p d : Int} {ts : List T4} (h : polyB p d ts = true) : Canon p ts := by
  unfold polyB at h
  simp only [Bool.and_eq_true, List.all_eq_true] at h
  obtain ⟨_, h⟩ := h
  have hk : ∀ i, i < ts.length → okB p d ts i = true := fun i hi => h i (List.mem_range.2 hi)
  refine ⟨sort_adj fun i hi => ?_, fun t ht => ?_⟩
  · have := hk (i + 1) hi
    unfold okB at this
    simp only [Bool.and_eq_true, Bool.or_eq_true, decide_eq_true_eq] at this
    have h1 := this.1.2
    simpa using h1
  · obtain ⟨i, hi, rfl⟩ := List.getElem_of_mem ht
    have := hk i hi
    unfold okB at this
    simp only [Bool.and_eq_true, Bool.or_eq_true, decide_eq_true_eq] at this
    have e1 : ts.getD i z4 = ts[i] := by simp [List.getD_eq_getElem?_getD, hi]
    rw [e1] at this
    exact ⟨this.1.1.1.2, this.1.1.2⟩
theorem alike_s (p d p' d' : Int) (A A' : Option Addr) (n c n' c' : Nat) (w : World) : Calls Try.prog 61 #[.agg #[.int .i64 p, .int .i64 d, .slice A n c], .agg #[.int .i64 p', .int .i64 d', .slice A' n' c']] w (Gives (.bool (p == p' && d == d')) w) := by
  cases h : (p == p') with
  | false =>
    go_enter Try.func61, Try.ntmps61
    go_wp2
    exact bodyPost_ret (v := .bool false) (by simp [results, Try.results61, go_sem]) rfl (.mk rfl (by repeat (first | (with_reducible assumption) | (with_reducible exact Below.refl _ _) | (with_reducible refine Below.drew ?_) | (with_reducible refine pw_below_drewN ?_ _) | ((first | (with_reducible refine Below.alloc ?_ ?_ _) | (with_reducible refine Below.setCell ?_ ?_ _) | (with_reducible refine below_hop (by assumption) ?_ ?_)); rotate_left; (focus (first | omega | (simp; first | done | omega) | (simp [Later.le, Later.le_add, Later.lt, Later.lt_add]; first | done | omega)))) | ((with_reducible refine bel_later _ ?_ ?_); rotate_left; (focus (first | omega | (simp; first | done | omega) | (simp [Later.le, Later.le_add, Later.lt, Later.lt_add]; first | done | omega)))))))
  | true =>
    go_enter Try.func61, Try.ntmps61
    go_wp2
    exact bodyPost_ret (v := .bool (d == d')) (by simp [results, Try.results61, go_sem]) rfl (.mk rfl (by repeat (first | (with_reducible assumption) | (with_reducible exact Below.refl _ _) | (with_reducible refine Below.drew ?_) | (with_reducible refine pw_below_drewN ?_ _) | ((first | (with_reducible refine Below.alloc ?_ ?_ _) | (with_reducible refine Below.setCell ?_ ?_ _) | (with_reducible refine below_hop (by assumption) ?_ ?_)); rotate_left; (focus (first | omega | (simp; first | done | omega) | (simp [Later.le, Later.le_add, Later.lt, Later.lt_add]; first | done | omega)))) | ((with_reducible refine bel_later _ ?_ ?_); rotate_left; (focus (first | omega | (simp; first | done | omega) | (simp [Later.le, Later.le_add, Later.lt, Later.lt_add]; first | done | omega)))))))
end Go.Proofs.Ytneknpamceipiaa
/- The walks of the program's monomial, constant; no condition. -/
set_option linter.unusedVariables false
set_option linter.unusedSimpArgs false
namespace Go.Proofs.Ytneknpamceipiaa
open Go.RowKit Go.Proofs.YtneknpamceipiaaW.PrintWords
attribute [local go_sem] Later.cell Later.frozen Later.lt Later.lt_add Later.le Later.le_add Later.ne Later.ne' add_at
open Go.Maps
set_option maxRecDepth 100000 in
set_option maxHeartbeats 4000000 in
theorem monomial_c (p d : Int) (e : E3) (v : Int) (w : World) (hp : 2 ≤ p) (hp' : p ≤ 13) (hv0 : -1000000 ≤ v) (hv1 : v ≤ 1000000) :
    Calls Try.prog 145 #[.int .i64 p, .int .i64 d, .agg #[.int .u8 (e.a.toNat : Int), .int .u8 (e.b.toNat : Int), .int .u8 (e.c.toNat : Int)], .int .i64 v] w (MakesP p d 121 (putT p [] e v) w) := by
  have r0 : ((w.alloc (.cells #[.int .u8 (e.a.toNat : Int), .int .u8 (e.b.toNat : Int), .int .u8 (e.c.toNat : Int)] 119)).alloc (.cells #[.int .i64 0, .int .i64 0, .slice none 0 0] 45)).cell? ⟨w.heap.size + 1, 0, none⟩ = some (.int .i64 0) := by first | (simp; done) | (simp [go_sem]; done) | go_simp
  have r1 : ((w.alloc (.cells #[.int .u8 (e.a.toNat : Int), .int .u8 (e.b.toNat : Int), .int .u8 (e.c.toNat : Int)] 119)).alloc (.cells #[.int .i64 0, .int .i64 0, .slice none 0 0] 45)).cell? ⟨w.heap.size + 1, 1, none⟩ = some (.int .i64 0) := by first | (simp; done) | (simp [go_sem]; done) | go_simp
  have r2 : ((w.alloc (.cells #[.int .u8 (e.a.toNat : Int), .int .u8 (e.b.toNat : Int), .int .u8 (e.c.toNat : Int)] 119)).alloc (.cells #[.int .i64 0, .int .i64 0, .slice none 0 0] 45)).cell? ⟨w.heap.size + 1, 2, none⟩ = some (.slice none 0 0) := by first | (simp; done) | (simp [go_sem]; done) | go_simp
  have r3 : ∀ j, ((w.alloc (.cells #[.int .u8 (e.a.toNat : Int), .int .u8 (e.b.toNat : Int), .int .u8 (e.c.toNat : Int)] 119)).alloc (.cells #[.int .i64 0, .int .i64 0, .slice none 0 0] 45)).frozen? ⟨w.heap.size + 1, j, none⟩ = false := fun j => by first | (simp; done) | (simp [go_sem]; done) | go_simp
  have b0 : ((w.alloc (.cells #[.int .u8 (e.a.toNat : Int), .int .u8 (e.b.toNat : Int), .int .u8 (e.c.toNat : Int)] 119)).alloc (.cells #[.int .i64 0, .int .i64 0, .slice none 0 0] 45)).cell? ⟨w.heap.size, 0, none⟩ = some (.int .u8 (e.a.toNat : Int)) := by first | (simp; done) | (simp [go_sem]; done) | go_simp
  have b1 : ((w.alloc (.cells #[.int .u8 (e.a.toNat : Int), .int .u8 (e.b.toNat : Int), .int .u8 (e.c.toNat : Int)] 119)).alloc (.cells #[.int .i64 0, .int .i64 0, .slice none 0 0] 45)).cell? ⟨w.heap.size, 1, none⟩ = some (.int .u8 (e.b.toNat : Int)) := by first | (simp; done) | (simp [go_sem]; done) | go_simp
  have b2 : ((w.alloc (.cells #[.int .u8 (e.a.toNat : Int), .int .u8 (e.b.toNat : Int), .int .u8 (e.c.toNat : Int)] 119)).alloc (.cells #[.int .i64 0, .int .i64 0, .slice none 0 0] 45)).cell? ⟨w.heap.size, 2, none⟩ = some (.int .u8 (e.c.toNat : Int)) := by first | (simp; done) | (simp [go_sem]; done) | go_simp
  have hbw : Below w.heap.size w ((w.alloc (.cells #[.int .u8 (e.a.toNat : Int), .int .u8 (e.b.toNat : Int), .int .u8 (e.c.toNat : Int)] 119)).alloc (.cells #[.int .i64 0, .int .i64 0, .slice none 0 0] 45)) := (by repeat (first | (with_reducible assumption) | (with_reducible exact Below.refl _ _) | (with_reducible refine Below.drew ?_) | (with_reducible refine pw_below_drewN ?_ _) | ((first | (with_reducible refine Below.alloc ?_ ?_ _) | (with_reducible refine Below.setCell ?_ ?_ _) | (with_reducible refine below_hop (by assumption) ?_ ?_)); rotate_left; (focus (first | omega | (simp; first | done | omega) | (simp [Later.le, Later.le_add, Later.lt, Later.lt_add]; first | done | omega)))) | ((with_reducible refine bel_later _ ?_ ?_); rotate_left; (focus (first | omega | (simp; first | done | omega) | (simp [Later.le, Later.le_add, Later.lt, Later.lt_add]; first | done | omega))))))
  have hz0 : ((w.alloc (.cells #[.int .u8 (e.a.toNat : Int), .int .u8 (e.b.toNat : Int), .int .u8 (e.c.toNat : Int)] 119)).alloc (.cells #[.int .i64 0, .int .i64 0, .slice none 0 0] 45)).heap.size = w.heap.size + 1 + 1 := by simp
  have R3 := Lib.hid r3
  clear r3
  have hS0 := SumAt.made ((w.alloc (.cells #[.int .u8 (e.a.toNat : Int), .int .u8 (e.b.toNat : Int), .int .u8 (e.c.toNat : Int)] 119)).alloc (.cells #[.int .i64 0, .int .i64 0, .slice none 0 0] 45))
  have hV0 : Below ((w.alloc (.cells #[.int .u8 (e.a.toNat : Int), .int .u8 (e.b.toNat : Int), .int .u8 (e.c.toNat : Int)] 119)).alloc (.cells #[.int .i64 0, .int .i64 0, .slice none 0 0] 45)).heap.size ((w.alloc (.cells #[.int .u8 (e.a.toNat : Int), .int .u8 (e.b.toNat : Int), .int .u8 (e.c.toNat : Int)] 119)).alloc (.cells #[.int .i64 0, .int .i64 0, .slice none 0 0] 45)) (((w.alloc (.cells #[.int .u8 (e.a.toNat : Int), .int .u8 (e.b.toNat : Int), .int .u8 (e.c.toNat : Int)] 119)).alloc (.cells #[.int .i64 0, .int .i64 0, .slice none 0 0] 45)).alloc (.map #[] 0)) := below_alloc2 _ _
  have c0 := cell_alloc b0 (.map #[] 0)
  have c1 := cell_alloc b1 (.map #[] 0)
  have c2 := cell_alloc b2 (.map #[] 0)
  rw [hz0] at hS0
  obtain ⟨_, hst⟩ := SumAt.store hS0 (by unfold maxLen; omega) e
  obtain ⟨W2, hup, hS2, hg2⟩ := hst v (by omega) (by omega)
  have hT : Canon p (putT p [] e v) := putT_canon hp (canon_nil p) e v
  have hTc : ∀ x, coefL (putT p [] e v) x = updF (fun _ => 0) e v x % p := fun x => by
    rw [putT_coef (canon_nil p).1]
    unfold updF
    by_cases h : x = e
    · rw [if_pos h, if_pos h]
      show (v + 0) % p = _
      rw [Int.add_zero]
    · rw [if_neg h, if_neg h]
      show (0 : Int) = 0 % p
      simp
  have hP := poly_c p d (w.heap.size + 1 + 1) 1 _ _ W2 hS2 (by omega) hp hp' hT hTc
  have HP := Lib.hid hP
  have hB2 := below_grown hV0 hg2 (by omega) hV0.size
  have x0 := pw_cell_below hB2 r0
  have x1 := pw_cell_below hB2 r1
  have x2 := pw_cell_below hB2 r2
  have x3 := fun j => (hB2.frozen (p := ⟨w.heap.size + 1, j, none⟩) (by show w.heap.size + 1 < _; omega)).trans (R3.out j)
  have X3 := Lib.hid x3
  have zr := World.block_lt_of_cell? _ _ x0
  simp only [] at zr
  have hBw := hbw.trans (hB2.mono (by omega))
  clear hP hT hTc hS0 hS2 hst hg2 hB2 hbw r0 r1 r2 b0 b1 b2 hV0 x3
  go_enter Try.func145, Try.ntmps145
  have hmm := @run_makeMap Try.prog
  go_wp2_with (go_at_call 146; (with_reducible refine to_makesP (V := W2) (Below.refl _ _) HP.out ?_); intro w8 B8 c8 hb8 hb8' hl8 hR8; have y0 := pw_cell_below hb8 x0; have y1 := pw_cell_below hb8 x1; have y2 := pw_cell_below hb8 x2; have f0 := (hb8.frozen (p := ⟨w.heap.size + 1, 0, none⟩) zr).trans (X3.out 0); have f1 := (hb8.frozen (p := ⟨w.heap.size + 1, 1, none⟩) zr).trans (X3.out 1); have f2 := (hb8.frozen (p := ⟨w.heap.size + 1, 2, none⟩) zr).trans (X3.out 2))
  generalize putT p [] e v = xs at *
  refine bodyPost_ret (v := .agg #[.int .i64 p, .int .i64 d, .slice B8 xs.length c8]) (by simp [results, Try.results145, go_sem, y0, y1, y2]) rfl ⟨B8, c8, rfl, ?_, ?_⟩
  · exact R_set3 (Kd.R_mono (Kd.R_bound hR8) (ok' := fun k => k ≠ w.heap.size + 1) (fun k hk => by have := hk.2.1; omega)) (fun k hk => hk) (by have := hBw.size; omega) _ _ _
  · exact below_set3 (hBw.trans (hb8.mono (by have := hBw.size; omega))) (by omega) _ _ _
set_option maxRecDepth 100000 in
theorem constant_c (p d : Int) (v : Int) (w : World) (hp : 2 ≤ p) (hp' : p ≤ 13) (hv0 : -1000000 ≤ v) (hv1 : v ≤ 1000000) :
    Calls Try.prog 107 #[.int .i64 p, .int .i64 d, .int .i64 v] w (MakesP p d 121 (putT p [] z3 v) w) := by
  have hM : ∀ W, Calls Try.prog 145 #[.int .i64 p, .int .i64 d, .agg #[.int .u8 0, .int .u8 0, .int .u8 0], .int .i64 v] W (MakesP p d 121 (putT p [] z3 v) W) := fun W => monomial_c p d z3 v W hp hp' hv0 hv1
  go_enter Try.func107, Try.ntmps107
  go_wp2_with (go_at_call 145; (with_reducible refine call_makesP (hM _) ?_); intro x A1 c1 hb1 hl1 hR1 hC1)
  generalize putT p [] z3 v = xs at *
  have zz := x.ok.size
  simp at zz
  refine bodyPost_ret (v := .agg #[.int .i64 p, .int .i64 d, .slice A1 xs.length c1]) (by simp [results, Try.results107, go_sem]) rfl ?_
  refine ⟨_, _, rfl, ?_, (by repeat (first | (with_reducible assumption) | (with_reducible exact Below.refl _ _) | (with_reducible refine Below.drew ?_) | (with_reducible refine pw_below_drewN ?_ _) | ((first | (with_reducible refine Below.alloc ?_ ?_ _) | (with_reducible refine Below.setCell ?_ ?_ _) | (with_reducible refine below_hop (by assumption) ?_ ?_)); rotate_left; (focus (first | omega | (simp; first | done | omega) | (simp [Later.le, Later.le_add, Later.lt, Later.lt_add]; first | done | omega)))) | ((with_reducible refine bel_later _ ?_ ?_); rotate_left; (focus (first | omega | (simp; first | done | omega) | (simp [Later.le, Later.le_add, Later.lt, Later.lt_add]; first | done | omega))))))⟩
  exact Kd.R_lower (R_old (R_old (R_old hR1 (p := ⟨w.heap.size, 0, none⟩) (by simp) _) (p := ⟨w.heap.size, 1, none⟩) (by simp) _) (p := ⟨w.heap.size, 2, none⟩) (by simp) _) (by simp)
end Go.Proofs.Ytneknpamceipiaa
/- The walk of the program's mul; no condition. -/
set_option linter.unusedVariables false
set_option linter.unusedSimpArgs false
namespace Go.Proofs.Ytneknpamceipiaa
open Go.RowKit Go.Proofs.YtneknpamceipiaaW.PrintWords
attribute [local go_sem] Later.cell Later.frozen Later.lt Later.lt_add Later.le Later.le_add Later.ne Later.ne' add_at
open Go.Maps
theorem mulS_upd (p : Int) (l : List (E3 × Int)) (e : E3) (v : Int) : updF (fun x => sumAt l x % p) e ((sumAt l e % p + v) % p) = fun x => sumAt (l ++ [(e, v)]) x % p := by
  funext x
  unfold updF
  rw [sumAt_snoc]
  by_cases h : x = e
  · rw [if_pos h, h, if_pos rfl, Int.emod_add_emod]
  · rw [if_neg h, if_neg (fun g : e = x => h g.symm), Int.add_zero]
theorem three_one (W : World) (e : E3) (E : TypeId) : ∃ V : World, (W.alloc (.cells #[.int .u8 (e.a.toNat : Int), .int .u8 (e.b.toNat : Int), .int .u8 (e.c.toNat : Int)] E)) = V ∧ Below W.heap.size W V ∧
    V.cell? ⟨W.heap.size, 0, none⟩ = some (.int .u8 (e.a.toNat : Int)) ∧ V.cell? ⟨W.heap.size, 1, none⟩ = some (.int .u8 (e.b.toNat : Int)) ∧ V.cell? ⟨W.heap.size, 2, none⟩ = some (.int .u8 (e.c.toNat : Int)) ∧ V.heap.size = W.heap.size + 1 := by
  refine ⟨_, rfl, (Below.refl _ W).alloc (Nat.le_refl _) _, ?_, ?_, ?_, ?_⟩
  all_goals first | (simp; done) | (simp [go_sem]; done) | go_simp
set_option maxRecDepth 100000 in
set_option maxHeartbeats 4000000 in
theorem mul_c (p d p' d' : Int) (A A' : Option Addr) (c c' : Nat) (ts us : List T4) (w : World) (hC : kT.C w A ts.length ts) (hD : kT.C w A' us.length us) (hn : ts.length * us.length ≤ 2097152) (hn1 : ts.length ≤ 2097152) (hm : us.length ≤ 2097152) (hp : 2 ≤ p) (hp' : p ≤ 13)
    (hv : ∀ t ∈ ts, ∀ u ∈ us, 0 ≤ t.v * u.v ∧ t.v * u.v ≤ 1000000) :
    Calls Try.prog 108 #[.agg #[.int .i64 p, .int .i64 d, .slice A ts.length c], .agg #[.int .i64 p', .int .i64 d', .slice A' us.length c']] w (MakesP p d 121 (mulL p ts us) w) := by
  have HV := Lib.hid hv
  have hC1 := Kd.C_alloc (Kd.C_alloc (Kd.C_alloc hC (.cells #[.int .i64 p, .int .i64 d, .slice A ts.length c] 45)) (.cells #[.int .i64 p', .int .i64 d', .slice A' us.length c'] 45)) (.cells #[.int .i64 0, .int .i64 0, .slice none 0 0] 45)
  have hD1 := Kd.C_alloc (Kd.C_alloc (Kd.C_alloc hD (.cells #[.int .i64 p, .int .i64 d, .slice A ts.length c] 45)) (.cells #[.int .i64 p', .int .i64 d', .slice A' us.length c'] 45)) (.cells #[.int .i64 0, .int .i64 0, .slice none 0 0] 45)
  have s0 : (((w.alloc (.cells #[.int .i64 p, .int .i64 d, .slice A ts.length c] 45)).alloc (.cells #[.int .i64 p', .int .i64 d', .slice A' us.length c'] 45)).alloc (.cells #[.int .i64 0, .int .i64 0, .slice none 0 0] 45)).cell? ⟨w.heap.size, 2, none⟩ = some (.slice A ts.length c) := by first | (simp; done) | (simp [go_sem]; done) | go_simp
  have s1 : (((w.alloc (.cells #[.int .i64 p, .int .i64 d, .slice A ts.length c] 45)).alloc (.cells #[.int .i64 p', .int .i64 d', .slice A' us.length c'] 45)).alloc (.cells #[.int .i64 0, .int .i64 0, .slice none 0 0] 45)).cell? ⟨w.heap.size, 0, none⟩ = some (.int .i64 p) := by first | (simp; done) | (simp [go_sem]; done) | go_simp
  have s2 : (((w.alloc (.cells #[.int .i64 p, .int .i64 d, .slice A ts.length c] 45)).alloc (.cells #[.int .i64 p', .int .i64 d', .slice A' us.length c'] 45)).alloc (.cells #[.int .i64 0, .int .i64 0, .slice none 0 0] 45)).cell? ⟨w.heap.size, 1, none⟩ = some (.int .i64 d) := by first | (simp; done) | (simp [go_sem]; done) | go_simp
  have s3 : (((w.alloc (.cells #[.int .i64 p, .int .i64 d, .slice A ts.length c] 45)).alloc (.cells #[.int .i64 p', .int .i64 d', .slice A' us.length c'] 45)).alloc (.cells #[.int .i64 0, .int .i64 0, .slice none 0 0] 45)).cell? ⟨w.heap.size + 1, 2, none⟩ = some (.slice A' us.length c') := by first | (simp; done) | (simp [go_sem]; done) | go_simp
  have r0 : (((w.alloc (.cells #[.int .i64 p, .int .i64 d, .slice A ts.length c] 45)).alloc (.cells #[.int .i64 p', .int .i64 d', .slice A' us.length c'] 45)).alloc (.cells #[.int .i64 0, .int .i64 0, .slice none 0 0] 45)).cell? ⟨w.heap.size + 1 + 1, 0, none⟩ = some (.int .i64 0) := by first | (simp; done) | (simp [go_sem]; done) | go_simp
  have r1 : (((w.alloc (.cells #[.int .i64 p, .int .i64 d, .slice A ts.length c] 45)).alloc (.cells #[.int .i64 p', .int .i64 d', .slice A' us.length c'] 45)).alloc (.cells #[.int .i64 0, .int .i64 0, .slice none 0 0] 45)).cell? ⟨w.heap.size + 1 + 1, 1, none⟩ = some (.int .i64 0) := by first | (simp; done) | (simp [go_sem]; done) | go_simp
  have r2 : (((w.alloc (.cells #[.int .i64 p, .int .i64 d, .slice A ts.length c] 45)).alloc (.cells #[.int .i64 p', .int .i64 d', .slice A' us.length c'] 45)).alloc (.cells #[.int .i64 0, .int .i64 0, .slice none 0 0] 45)).cell? ⟨w.heap.size + 1 + 1, 2, none⟩ = some (.slice none 0 0) := by first | (simp; done) | (simp [go_sem]; done) | go_simp
  have r3 : ∀ j, (((w.alloc (.cells #[.int .i64 p, .int .i64 d, .slice A ts.length c] 45)).alloc (.cells #[.int .i64 p', .int .i64 d', .slice A' us.length c'] 45)).alloc (.cells #[.int .i64 0, .int .i64 0, .slice none 0 0] 45)).frozen? ⟨w.heap.size + 1 + 1, j, none⟩ = false := fun j => by first | (simp; done) | (simp [go_sem]; done) | go_simp
  have hbw : Below w.heap.size w (((w.alloc (.cells #[.int .i64 p, .int .i64 d, .slice A ts.length c] 45)).alloc (.cells #[.int .i64 p', .int .i64 d', .slice A' us.length c'] 45)).alloc (.cells #[.int .i64 0, .int .i64 0, .slice none 0 0] 45)) := (by repeat (first | (with_reducible assumption) | (with_reducible exact Below.refl _ _) | (with_reducible refine Below.drew ?_) | (with_reducible refine pw_below_drewN ?_ _) | ((first | (with_reducible refine Below.alloc ?_ ?_ _) | (with_reducible refine Below.setCell ?_ ?_ _) | (with_reducible refine below_hop (by assumption) ?_ ?_)); rotate_left; (focus (first | omega | (simp; first | done | omega) | (simp [Later.le, Later.le_add, Later.lt, Later.lt_add]; first | done | omega)))) | ((with_reducible refine bel_later _ ?_ ?_); rotate_left; (focus (first | omega | (simp; first | done | omega) | (simp [Later.le, Later.le_add, Later.lt, Later.lt_add]; first | done | omega))))))
  have hz0 : (((w.alloc (.cells #[.int .i64 p, .int .i64 d, .slice A ts.length c] 45)).alloc (.cells #[.int .i64 p', .int .i64 d', .slice A' us.length c'] 45)).alloc (.cells #[.int .i64 0, .int .i64 0, .slice none 0 0] 45)).heap.size = w.heap.size + 1 + 1 + 1 := by simp
  have R3 := Lib.hid r3
  clear hv r3
  go_enter Try.func108, Try.ntmps108
  have hmm := @run_makeMap Try.prog
  go_wp2_with fail
  have hS0 : SumAt ((((w.alloc (.cells #[.int .i64 p, .int .i64 d, .slice A ts.length c] 45)).alloc (.cells #[.int .i64 p', .int .i64 d', .slice A' us.length c'] 45)).alloc (.cells #[.int .i64 0, .int .i64 0, .slice none 0 0] 45)).alloc (.map #[] 0)) (w.heap.size + 1 + 1 + 1) 0 (fun e => sumAt (mulP (ts.take 0) us) e % p) := by
    have h := SumAt.made (((w.alloc (.cells #[.int .i64 p, .int .i64 d, .slice A ts.length c] 45)).alloc (.cells #[.int .i64 p', .int .i64 d', .slice A' us.length c'] 45)).alloc (.cells #[.int .i64 0, .int .i64 0, .slice none 0 0] 45))
    rw [hz0] at h
    refine h.congr (funext fun e => ?_)
    show (0 : Int) = 0 % p
    simp
  have hV0 : Below (((w.alloc (.cells #[.int .i64 p, .int .i64 d, .slice A ts.length c] 45)).alloc (.cells #[.int .i64 p', .int .i64 d', .slice A' us.length c'] 45)).alloc (.cells #[.int .i64 0, .int .i64 0, .slice none 0 0] 45)).heap.size (((w.alloc (.cells #[.int .i64 p, .int .i64 d, .slice A ts.length c] 45)).alloc (.cells #[.int .i64 p', .int .i64 d', .slice A' us.length c'] 45)).alloc (.cells #[.int .i64 0, .int .i64 0, .slice none 0 0] 45)) ((((w.alloc (.cells #[.int .i64 p, .int .i64 d, .slice A ts.length c] 45)).alloc (.cells #[.int .i64 p', .int .i64 d', .slice A' us.length c'] 45)).alloc (.cells #[.int .i64 0, .int .i64 0, .slice none 0 0] 45)).alloc (.map #[] 0)) := below_alloc2 _ _
  generalize ((((w.alloc (.cells #[.int .i64 p, .int .i64 d, .slice A ts.length c] 45)).alloc (.cells #[.int .i64 p', .int .i64 d', .slice A' us.length c'] 45)).alloc (.cells #[.int .i64 0, .int .i64 0, .slice none 0 0] 45)).alloc (.map #[] 0)) = V0 at *
  generalize hmb : w.heap.size + 1 + 1 + 1 = mb at *
  generalize hrb : w.heap.size + 1 + 1 = rb at *
  generalize heb : w.heap.size + 1 = eb at *
  generalize hxb : w.heap.size = xb at *
  generalize (((w.alloc (.cells #[.int .i64 p, .int .i64 d, .slice A ts.length c] 45)).alloc (.cells #[.int .i64 p', .int .i64 d', .slice A' us.length c'] 45)).alloc (.cells #[.int .i64 0, .int .i64 0, .slice none 0 0] 45)) = W0 at *
  clear hmm
  go_loopg [15] ts.length (fun g v15 w' => ∃ (i : Nat), i + g = ts.length ∧ v15 = .int .i64 i ∧ Below W0.heap.size W0 w' ∧ SumAt w' mb (i * us.length) (fun e => sumAt (mulP (ts.take i) us) e % p))
  case atStart => exact ⟨0, by omega, rfl, hV0, by rw [Nat.zero_mul]; exact hS0⟩
  case round =>
    clear hS0 hV0
    obtain ⟨i, hik, rfl, hbel0, hS00⟩ := hrel
    have HIK := Lib.hid hik
    clear hik
    by_cases hlt : i < ts.length
    · obtain ⟨bb, oo, hA, q0, q1, q2, q3⟩ := kT_at hC1 i hlt z4
      subst hA
      have q0 := pw_cell_below hbel0 q0
      have q1 := pw_cell_below hbel0 q1
      have q2 := pw_cell_below hbel0 q2
      have q3 := pw_cell_below hbel0 q3
      have hi0 : (0 : Int) ≤ i := by omega
      have hi1 : (i : Int) < ts.length := by omega
      have hin : ((i : Int)).toNat = i := by omega
      have hst := mulP_step (ys := us) hlt
      have hcap : i * us.length + us.length ≤ 2097152 := by
        have h1 := Nat.mul_le_mul_right us.length (show i + 1 ≤ ts.length from hlt)
        rw [Nat.add_mul, Nat.one_mul] at h1
        omega
      have hvs := fun u hu => HV.out _ (getD_mem4 hlt) u hu
      generalize ts.getD i z4 = s at *
      generalize mulP (ts.take i) us = l0 at *
      have HST := Lib.hid hst
      have HVS := Lib.hid hvs
      clear hst hvs
      obtain ⟨V, hV, hb9, n0, n1, n2, n3⟩ := four_one wr s 121
      have hS1 : SumAt V mb (i * us.length + 0) (fun e => sumAt (l0 ++ rowP s (us.take 0)) e % p) := by
        rw [Nat.add_zero]
        refine (hS00.below hb9).congr (funext fun e => ?_)
        rw [List.take_zero]
        simp [rowP]
      have hbel1 := hbel0.trans (hb9.mono hbel0.size)
      have hmt : mb ≠ wr.heap.size := by have := hS00.lt; omega
      have hml : mb < wr.heap.size := hS00.lt
      have hW0l := hbel0.size
      have u3 := pw_cell_below hbel1 s3
      clear hS00 hbel0 hb9
      go_wp2
      clear hV u3 q0 q1 q2 q3
      generalize hbx : wr.heap.size = bx at *
      go_loopg [22] us.length (fun g v22 w' => ∃ (j : Nat), j + g = us.length ∧ v22 = .int .i64 j ∧ Below W0.heap.size W0 w' ∧ SumAt w' mb (i * us.length + j) (fun e => sumAt (l0 ++ rowP s (us.take j)) e % p) ∧ w'.cell? ⟨bx, 0, none⟩ = some (.int .u8 (s.e.a.toNat : Int)) ∧ w'.cell? ⟨bx, 1, none⟩ = some (.int .u8 (s.e.b.toNat : Int)) ∧ w'.cell? ⟨bx, 2, none⟩ = some (.int .u8 (s.e.c.toNat : Int)) ∧ w'.cell? ⟨bx, 3, none⟩ = some (.int .i64 s.v))
      case atStart => exact ⟨0, by omega, rfl, hbel1, hS1, n0, n1, n2, n3⟩
      case round =>
        clear hS1 hbel1 n0 n1 n2 n3
        obtain ⟨j, hjk, rfl, hbel, hS, n0, n1, n2, n3⟩ := hrel
        have HJK := Lib.hid hjk
        clear hjk
        by_cases hjt : j < us.length
        · obtain ⟨bc, oc, hA', k0, k1, k2, k3⟩ := kT_at hD1 j hjt z4
          subst hA'
          have k0 := pw_cell_below hbel k0
          have k1 := pw_cell_below hbel k1
          have k2 := pw_cell_below hbel k2
          have k3 := pw_cell_below hbel k3
          have hj0 : (0 : Int) ≤ j := by omega
          have hj1 : (j : Int) < us.length := by omega
          have hjn : ((j : Int)).toNat = j := by omega
          have hst2 : l0 ++ rowP s (us.take (j + 1)) = (l0 ++ rowP s (us.take j)) ++ [(mulE s.e (us.getD j z4).e, s.v * (us.getD j z4).v)] := by rw [rowP_step hjt, List.append_assoc]
          obtain ⟨hv0, hv1⟩ := HVS.out _ (getD_mem4 hjt)
          generalize us.getD j z4 = t at *
          generalize l0 ++ rowP s (us.take j) = l at *
          have HST2 := Lib.hid hst2
          clear hst2
          have m1 : IntKind.u8.wrap ((s.e.a.toNat : Int) + t.e.a.toNat) = ((mulE s.e t.e).a.toNat : Int) := u8_add _ _
          have m2 : IntKind.u8.wrap ((s.e.b.toNat : Int) + t.e.b.toNat) = ((mulE s.e t.e).b.toNat : Int) := u8_add _ _
          have m3 : IntKind.u8.wrap ((s.e.c.toNat : Int) + t.e.c.toNat) = ((mulE s.e t.e).c.toNat : Int) := u8_add _ _
          generalize mulE s.e t.e = me at *
          obtain ⟨V, hV, hb9, g0, g1, g2, g3⟩ := four_one wr t 121
          obtain ⟨U, hU, hb8, e0, e1, e2, hzU⟩ := three_one V me 119
          have hzV : V.heap.size = wr.heap.size + 1 := by rw [← hV]; simp
          rw [hzV] at e0 e1 e2
          have hbU := hb9.trans (hb8.mono hb9.size)
          have a0 := pw_cell_below hb9 n0
          have a1 := pw_cell_below hb9 n1
          have a2 := pw_cell_below hb9 n2
          have a3 := pw_cell_below hbU n3
          have d3 := pw_cell_below hb8 g3
          have hbelU := hbel.trans (hbU.mono hbel.size)
          have u1 := pw_cell_below hbelU s1
          obtain ⟨hlk, hst⟩ := SumAt.store ((hS.below hbU).below ((Below.refl _ _).drew)) (by unfold maxLen; omega) me
          have hmb1 := Int.emod_nonneg (sumAt l me) (show p ≠ 0 by omega)
          have hmb2 := Int.emod_lt_of_pos (sumAt l me) (show 0 < p by omega)
          have hnn1 := Int.emod_nonneg (sumAt l me % p + s.v * t.v) (show p ≠ 0 by omega)
          have hnn2 := Int.emod_lt_of_pos (sumAt l me % p + s.v * t.v) (show 0 < p by omega)
          have hp0 : ¬ p = 0 := by omega
          have hS2' := hst ((sumAt l me % p + s.v * t.v) % p) (by omega) (by omega)
          have HFM := Lib.hid (mulS_upd p l me (s.v * t.v))
          generalize sumAt l me % p = fm at *
          obtain ⟨W2, hup, hS2, hg2⟩ := hS2'
          have hwk : IntKind.i64.wrap (s.v * t.v) = s.v * t.v := i64_small (by omega) (by omega)
          have hwr : IntKind.i64.wrap (fm + s.v * t.v) = fm + s.v * t.v := i64_small (by omega) (by omega)
          have htm : (fm + s.v * t.v).tmod p = (fm + s.v * t.v) % p := Int.tmod_eq_emod_of_nonneg (by omega)
          have HS2 := Lib.hid hS2
          have HG2 := Lib.hid hg2
          have HBU := Lib.hid hbelU
          have z0 := pw_cell_below hbU n0
          have z1 := pw_cell_below hbU n1
          have z2 := pw_cell_below hbU n2
          have hbm : (some bx : Option Nat) ≠ some mb := fun e => hmt (by injection e with e; exact e.symm)
          have y0 := far_cell hg2 (show U.drew.cell? ⟨bx, 0, none⟩ = _ from z0) hbm
          have y1 := far_cell hg2 (show U.drew.cell? ⟨bx, 1, none⟩ = _ from z1) hbm
          have y2 := far_cell hg2 (show U.drew.cell? ⟨bx, 2, none⟩ = _ from z2) hbm
          have y3 := far_cell hg2 (show U.drew.cell? ⟨bx, 3, none⟩ = _ from a3) hbm
          have N0 := Lib.hid y0
          have N1 := Lib.hid y1
          have N2 := Lib.hid y2
          have N3 := Lib.hid y3
          clear hS hst hS2 hg2 hbelU hbel z0 z1 z2 y0 y1 y2 y3 hmb1 hmb2 hnn1 hnn2
          go_wp2
          go_region
          go_wp2
          go_roundg (gk - 1)
          case measure => have := HJK.out; omega
          case rel => exact ⟨j + 1, by have := HJK.out; omega, by go_num, below_grown HBU.out.drew HG2.out (by omega) (by have := HBU.out.size; exact this), HS2.out.congr (by rw [HFM.out, HST2.out]), N0.out, N1.out, N2.out, N3.out⟩
        · have hje : j = us.length := by have := HJK.out; omega
          subst hje
          rw [List.take_length, ← HST.out] at hS
          have HB := Lib.hid hbel
          have HSS := Lib.hid hS
          clear hbel hS
          go_wp2
          go_roundg (ts.length - i - 1)
          case measure => have := HIK.out; omega
          case rel => exact ⟨i + 1, by have := HIK.out; omega, by go_num, HB.out, by rw [Nat.add_mul, Nat.one_mul]; exact HSS.out⟩
    · have hie : i = ts.length := by have := HIK.out; omega
      subst hie
      rw [List.take_length] at hS00
      have hT : Canon p (mulL p ts us) := mulL_canon hp ts us
      have hTc : ∀ e, coefL (mulL p ts us) e = (fun e => sumAt (mulP ts us) e % p) e % p := fun e => by
        rw [mulL, putsT_coef hp e _ (canon_nil p)]
        show (0 + sumAt (mulP ts us) e) % p = sumAt (mulP ts us) e % p % p
        rw [Int.zero_add, Int.emod_emod_of_dvd _ (Int.dvd_refl p)]
      have hP := poly_c p d mb (ts.length * us.length) _ _ wr hS00 (by omega) hp hp' hT hTc
      have HP := Lib.hid hP
      clear hP hT hTc hS00
      have u1 := pw_cell_below hbel0 s1
      have u2 := pw_cell_below hbel0 s2
      have x0 := pw_cell_below hbel0 r0
      have x1 := pw_cell_below hbel0 r1
      have x2 := pw_cell_below hbel0 r2
      have zr := World.block_lt_of_cell? _ _ x0
      simp only [] at zr
      have x3 := fun j => (hbel0.frozen (p := ⟨rb, j, none⟩) (by show rb < _; omega)).trans (R3.out j)
      have X3 := Lib.hid x3
      clear x3
      go_wp2_with (go_at_call 146; (with_reducible refine to_makesP (V := wr) (Below.refl _ _) HP.out ?_); intro w8 B8 c8 hb8 hb8' hl8 hR8; have y0 := pw_cell_below hb8 x0; have y1 := pw_cell_below hb8 x1; have y2 := pw_cell_below hb8 x2; have f0 := (hb8.frozen (p := ⟨rb, 0, none⟩) zr).trans (X3.out 0); have f1 := (hb8.frozen (p := ⟨rb, 1, none⟩) zr).trans (X3.out 1); have f2 := (hb8.frozen (p := ⟨rb, 2, none⟩) zr).trans (X3.out 2))
      generalize mulL p ts us = xs at *
      refine bodyPost_ret (v := .agg #[.int .i64 p, .int .i64 d, .slice B8 xs.length c8]) (by simp [results, Try.results108, go_sem, y0, y1, y2]) rfl ⟨B8, c8, rfl, ?_, ?_⟩
      · exact R_set3 (Kd.R_mono (Kd.R_bound hR8) (ok' := fun k => k ≠ rb) (fun k hk => by have := hk.2.1; omega)) (fun k hk => hk) (by have := hbel0.size; have := hbw.size; omega) _ _ _
      · have h1 := hbw.trans ((hbel0.trans (hb8.mono hbel0.size)).mono (by omega))
        rw [hxb]
        exact below_set3 h1 (by omega) _ _ _
end Go.Proofs.Ytneknpamceipiaa
/- MultiplyPolys of both sides; no condition. -/
set_option linter.unusedVariables false
set_option linter.unusedSimpArgs false
namespace Go.Proofs.Ytneknpamceipiaa
open Go.RowKit Go.Proofs.YtneknpamceipiaaW.PrintWords
attribute [local go_sem] Later.cell Later.frozen Later.lt Later.lt_add Later.le Later.le_add Later.ne Later.ne' add_at
/-! ### few monomials are of degree 12 or less -/
def tri : Nat → Nat
  | 0 => 0
  | m + 1 => tri m + (m + 1)
theorem tri_lt : ∀ {m n : Nat}, m < n → tri m + m < tri n
  | m, n + 1, h => by
    rcases Nat.lt_or_ge m n with h1 | h1
    · have := tri_lt h1
      show tri m + m < tri n + (n + 1)
      omega
    · have : m = n := by omega
      subst this
      show tri m + m < tri m + (m + 1)
      omega
theorem tri_le {m : Nat} (h : m ≤ 12) : tri m ≤ 78 := by
  rcases Nat.lt_or_ge m 12 with h1 | h1
  · have := tri_lt h1
    have e : tri 12 = 78 := rfl
    omega
  · have : m = 12 := by omega
    subst this
    exact Nat.le_refl _
def rank (e : E3) : Nat := (degE e).toNat * 91 + tri (e.b.toNat + e.c.toNat) + e.c.toNat
theorem rank_bd {e : E3} (h : degE e ≤ 12) : rank e < 1183 := by
  unfold degE at h
  have h1 : e.b.toNat + e.c.toNat ≤ 12 := by omega
  have := tri_le h1
  unfold rank degE
  omega
theorem rank_lt {e f : E3} (he : degE e ≤ 12) (hf : degE f ≤ 12) (h : cmpE e f < 0) : rank e < rank f := by
  rw [cmpE_lt] at h
  unfold degE at he hf h
  have h1 := tri_le (show e.b.toNat + e.c.toNat ≤ 12 by omega)
  have h2 := tri_le (show f.b.toNat + f.c.toNat ≤ 12 by omega)
  unfold rank degE
  rcases h with h | ⟨h, h' | ⟨h', h''⟩⟩
  · omega
  · have h3 := tri_lt (show e.b.toNat + e.c.toNat < f.b.toNat + f.c.toNat by omega)
    omega
  · have h4 : e.b.toNat + e.c.toNat = f.b.toNat + f.c.toNat := by omega
    rw [h4]
    omega
theorem rise_len : ∀ (l : List Nat) (lo hi : Nat), l.Pairwise (· < ·) → (∀ x ∈ l, lo ≤ x ∧ x < hi) → l.length ≤ hi - lo
  | [], _, _, _, _ => Nat.zero_le _
  | x :: l, lo, hi, h, hb => by
    obtain ⟨h1, h2⟩ := List.pairwise_cons.1 h
    have hx := hb x (by simp)
    have := rise_len l (x + 1) hi h2 (fun y hy => ⟨h1 y hy, (hb y (by simp [hy])).2⟩)
    rw [List.length_cons]
    omega
theorem deg_len {ts : List T4} (h : SortT ts) (hd : ∀ t ∈ ts, degE t.e ≤ 12) : ts.length ≤ 1183 := by
  have := rise_len (ts.map fun t => rank t.e) 0 1183 (by
    rw [List.pairwise_map]
    have : ts.Pairwise (fun a b => a ∈ ts ∧ b ∈ ts ∧ cmpE a.e b.e < 0) := List.Pairwise.imp_of_mem (fun ha hb h => ⟨ha, hb, h⟩) h
    exact this.imp fun ⟨ha, hb, h⟩ => rank_lt (hd _ ha) (hd _ hb) h) (fun x hx => by
    obtain ⟨t, ht, rfl⟩ := List.mem_map.1 hx
    exact ⟨Nat.zero_le _, rank_bd (hd t ht)⟩)
  simpa using this
theorem polyB_deg {p d : Int} {ts : List T4} (h : polyB p d ts = true) : ∀ t ∈ ts, degE t.e ≤ 12 := fun t ht => by
  unfold polyB at h
  simp only [Bool.and_eq_true, List.all_eq_true] at h
  obtain ⟨_, h⟩ := h
  obtain ⟨i, hi, rfl⟩ := List.getElem_of_mem ht
  have := h i (List.mem_range.2 hi)
  unfold okB at this
  simp only [Bool.and_eq_true, Bool.or_eq_true, decide_eq_true_eq] at this
  have e1 : ts.getD i z4 = ts[i] := by simp [List.getD_eq_getElem?_getD, hi]
  rw [e1] at this
  exact this.1.1.1.1
theorem polyB_len {p d : Int} {ts : List T4} (h : polyB p d ts = true) : ts.length ≤ 1183 := deg_len (polyB_canon h).1 (polyB_deg h)
theorem prod_bd {p : Int} {ts us : List T4} (hp' : p ≤ 13) (h : Canon p ts) (k : Canon p us) : ∀ t ∈ ts, ∀ u ∈ us, 0 ≤ t.v * u.v ∧ t.v * u.v ≤ 1000000 := fun t ht u hu => by
  have h1 := h.2 t ht
  have h2 := k.2 u hu
  have := mul_bd3S (x := t.v) (y := u.v) (by omega) (by omega) (by omega) (by omega)
  omega
def tooB (ts us : List T4) : Bool := !ts.isEmpty && !us.isEmpty && decide (12 < degP ts + degP us)
theorem tooB_no {ts us : List T4} (h : tooB ts us = false) : ts ≠ [] → us ≠ [] → degP ts + degP us ≤ 12 := fun h1 h2 => by
  unfold tooB at h
  have e1 : ts.isEmpty = false := by simpa using h1
  have e2 : us.isEmpty = false := by simpa using h2
  rw [e1, e2] at h
  simp at h
  exact h
theorem tooB_yes {ts us : List T4} (h : tooB ts us = true) : ts ≠ [] ∧ us ≠ [] ∧ 12 < degP ts + degP us := by
  unfold tooB at h
  simp at h
  exact ⟨h.1.1, h.1.2, h.2⟩
/-- l01Times, whatever the polynomials. -/
theorem l01Times_c (p d p' d' : Int) (A A' : Option Addr) (c c' : Nat) (ts us : List T4) (w : World) (hC : kT.C w A ts.length ts) (hD : kT.C w A' us.length us) (hn1 : ts.length ≤ 1183) (hm : us.length ≤ 1183) (hp : 2 ≤ p) (hp' : p ≤ 13) (hc1 : Canon p ts) (hc2 : Canon p us) :
    Calls Try.prog 99 #[.agg #[.int .i64 p, .int .i64 d, .slice A ts.length c], .agg #[.int .i64 p', .int .i64 d', .slice A' us.length c']] w (MakesPB p d (if tooB ts us then [] else mulL p ts us) (!tooB ts us) 121 w) := by
  cases ht : tooB ts us with
  | true =>
    obtain ⟨h1, h2, h3⟩ := tooB_yes ht
    exact l01Times_n p d p' d' A A' c c' ts us w hC hD (by omega) (by omega) h1 h2 h3
  | false =>
    have h3 := tooB_no ht
    by_cases h1 : ts = []
    · have e : mulL p ts us = [] := by rw [h1]; rfl
      rw [if_neg (by decide), e]
      exact l01Times_e p d p' d' A A' c c' ts us w (by omega) (by omega) (.inl h1)
    · by_cases h2 : us = []
      · have e : mulL p ts us = [] := by rw [h2, mulL, mulP_nil]; rfl
        rw [if_neg (by decide), e]
        exact l01Times_e p d p' d' A A' c c' ts us w (by omega) (by omega) (.inr h2)
      · rw [if_neg (by decide)]
        have hmul : ts.length * us.length ≤ 2097152 := Nat.le_trans (Nat.mul_le_mul hn1 hm) (by omega)
        exact l01Times_m p d p' d' A A' c c' ts us w hC hD hmul (by omega) (by omega) hp hp' (fun t ht u hu => by have := prod_bd hp' hc1 hc2 t ht u hu; omega) h1 h2 (h3 h1 h2)
end Go.Proofs.Ytneknpamceipiaa
