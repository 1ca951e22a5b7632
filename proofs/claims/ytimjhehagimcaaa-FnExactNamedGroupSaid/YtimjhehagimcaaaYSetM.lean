/- Maps from matrices to bool: what a look-up and a store leave; no condition. -/
import Derived.Test.YtimjhehagimcaaaYE1
import Derived.Maps.RangeWalk
import Derived.WideKeyArr
import Derived.Test.YtimjhehagimcaaaYGenL
import Derived.DeepKeys3
import Derived.Test.YtimjhehagimcaaaYPFacts
set_option linter.unusedVariables false
set_option linter.unusedSimpArgs false
namespace Go.Proofs.Ytimjhehagimcaaa
open Go.RowKit Go.Proofs.YtimjhehagimcaaaW.PrintWords
attribute [local go_sem] Later.cell Later.frozen Later.lt Later.lt_add Later.le Later.le_add Later.ne Later.ne' add_at
open Go.Maps Go.WideMaps
abbrev UnitM : Type := Unit
theorem grownBy_of_belowM {w w' : World} (h : Below w.heap.size w w') : w.grownBy w' none := ⟨h.os, h.tape, h.output, h.size, fun i hi _ => h.block i hi⟩
theorem keyLawM : KeyLaw Try.prog 41 := deep_law (m := 3) (by omega) (by kernel_rfl) (by kernel_rfl) (by kernel_rfl)
theorem keyedM : Keyed Try.prog 41 := Keyed.of_law keyLawM
theorem wf8 (x : UInt8) : (Lit.int .u8 (x.toNat : Int)).wf = true := by
  have := x.toNat_lt
  simp [Lit.wf, IntKind.min, IntKind.max, IntKind.signed, IntKind.bits]
  omega
theorem keyOf_mat {P : Program} {k e q : TypeId} (hk : P.underlying k = some (.array 3 e)) (he : P.underlying e = some (.array 3 q)) (hq : P.underlying q = some (.int .u8)) (ck : P.cellsOf k = 9) (ce : P.cellsOf e = 3) (cq : P.cellsOf q = 1) (ht : P.keyType k = true) (hsz : ∃ m, P.types.size = m + 2) {a b c d e' f g h i : Int} (wa : (Lit.int .u8 a).wf = true) (wb : (Lit.int .u8 b).wf = true) (wc : (Lit.int .u8 c).wf = true) (wd : (Lit.int .u8 d).wf = true) (we : (Lit.int .u8 e').wf = true) (wf : (Lit.int .u8 f).wf = true) (wg : (Lit.int .u8 g).wf = true) (wh : (Lit.int .u8 h).wf = true) (wi : (Lit.int .u8 i).wf = true) :
    ∃ l, keyOf P k (.agg #[.int .u8 a, .int .u8 b, .int .u8 c, .int .u8 d, .int .u8 e', .int .u8 f, .int .u8 g, .int .u8 h, .int .u8 i]) = some l := by
  obtain ⟨m, hm⟩ := hsz
  have h2 : (Value.agg #[.int .u8 a, .int .u8 b, .int .u8 c, .int .u8 d, .int .u8 e', .int .u8 f, .int .u8 g, .int .u8 h, .int .u8 i]).formed P k = true := by simp [Value.formed, hk, ck]
  unfold keyOf
  rw [hk]
  simp only [ht, h2, Bool.and_self, if_true, hm]
  unfold Program.keyLits
  rw [hk]
  simp [ck, ce, cq, Value.cells, List.range_succ, Program.keyLits, he, hq, wa, wb, wc, wd, we, wf, wg, wh, wi]
theorem typesPos2 : ∃ m, (Try.prog.types.size) = m + 2 := ⟨Try.prog.types.size - 2, by
  have : (1 : Nat) < Try.prog.types.size := of_decide_eq_true (by kernel_rfl)
  omega⟩
theorem keyM (m : M9) : ∃ l, keyOf Try.prog 41 (.agg #[.int .u8 (m.r0.a.toNat : Int), .int .u8 (m.r0.b.toNat : Int), .int .u8 (m.r0.c.toNat : Int), .int .u8 (m.r1.a.toNat : Int), .int .u8 (m.r1.b.toNat : Int), .int .u8 (m.r1.c.toNat : Int), .int .u8 (m.r2.a.toNat : Int), .int .u8 (m.r2.b.toNat : Int), .int .u8 (m.r2.c.toNat : Int)]) = some l := by
  have h := fun x : UInt8 => x.toNat_lt
  refine keyOf_mat Try.underlying41 Try.underlying39 Try.underlying5 (by kernel_rfl) (by kernel_rfl) (by kernel_rfl) (by kernel_rfl) typesPos2 ?_ ?_ ?_ ?_ ?_ ?_ ?_ ?_ ?_
  all_goals exact wf8 _
/-- The key of a matrix. -/
noncomputable def klM (m : M9) : Lit := Classical.choose (keyM m)
theorem klM_spec (m : M9) : keyOf Try.prog 41 (.agg #[.int .u8 (m.r0.a.toNat : Int), .int .u8 (m.r0.b.toNat : Int), .int .u8 (m.r0.c.toNat : Int), .int .u8 (m.r1.a.toNat : Int), .int .u8 (m.r1.b.toNat : Int), .int .u8 (m.r1.c.toNat : Int), .int .u8 (m.r2.a.toNat : Int), .int .u8 (m.r2.b.toNat : Int), .int .u8 (m.r2.c.toNat : Int)]) = some (klM m) := Classical.choose_spec (keyM m)
theorem klM_inj {e f : M9} (h : klM e = klM f) : e = f := by
  have h1 := klM_spec e
  rw [h] at h1
  have h2 := keyedM.inj h1 (klM_spec f)
  simp at h2
  obtain ⟨a, b, c, d, e', f', g, h', i⟩ := h2
  obtain ⟨⟨_, _, _⟩, ⟨_, _, _⟩, ⟨_, _, _⟩⟩ := e
  obtain ⟨⟨_, _, _⟩, ⟨_, _, _⟩, ⟨_, _, _⟩⟩ := f
  simp only [] at *
  have := u8_int (by exact_mod_cast a)
  have := u8_int (by exact_mod_cast b)
  have := u8_int (by exact_mod_cast c)
  have := u8_int (by exact_mod_cast d)
  have := u8_int (by exact_mod_cast e')
  have := u8_int (by exact_mod_cast f')
  have := u8_int (by exact_mod_cast g)
  have := u8_int (by exact_mod_cast h')
  have := u8_int (by exact_mod_cast i)
  simp_all
theorem klM_key (e : M9) : WideAt.IsKeyLit (klM e) := keyedM.key (klM_spec e)
/-- Block b of w is a map of at most n entries that holds true at the matrices of a list and at no others. -/
def SetAt (w : World) (b n : Nat) (S : List M9) : Prop :=
  ∃ D : DataW UnitM, w.ownsMap Try.prog 41 (plainElem Try.prog 4) b n D ∧ ∀ e, D.atKey (klM e) (.lit (.bool false)) = .lit (.bool (decide (e ∈ S)))
theorem zeroBool (w : World) : (zeroValue 4).run Try.prog w = .ok (.bool false) w := by kernel_rfl
theorem mapTyM : Try.prog.underlying 134 = some (.map 41 4) := Try.underlying134
theorem SetAt.made (w : World) : SetAt (w.alloc (.map #[] 0)) w.heap.size 0 [] :=
  ⟨.map [], World.ownsMap_made w _ _ _, fun e => by simpa using Maps.atKey_of_not_has rfl _⟩
theorem SetAt.kept {w w' : World} {b n : Nat} {S : List M9} {row : Option Nat} (h : SetAt w b n S) (hg : w.grownBy w' row) (hne : some b ≠ row) : SetAt w' b n S := by
  obtain ⟨D, h1, h2⟩ := h
  exact ⟨D, h1.kept hg hne, h2⟩
theorem SetAt.below {w w' : World} {b n : Nat} {S : List M9} (h : SetAt w b n S) (hb : Below w.heap.size w w') : SetAt w' b n S := h.kept (grownBy_of_belowM hb) (by simp)
theorem SetAt.lt {w : World} {b n : Nat} {S : List M9} (h : SetAt w b n S) : b < w.heap.size := h.choose_spec.1.lt
theorem plainElem_bool_inv {P : Program} {e : TypeId} (he : P.underlying e = some .bool) {v : Value} {z : DataW UnitM × List MemPlace} (h : plainElem P e v = some z) : ∃ x : Bool, v = .bool x ∧ z = (.lit (.bool x), []) := by
  unfold plainElem at h
  rw [he] at h
  cases v with
  | bool x =>
    injection h with h
    exact ⟨x, rfl, h.symm⟩
  | _ => cases h
theorem SetAt.look {w : World} {b n : Nat} {S : List M9} (h : SetAt w b n S) (e : M9) : (Instr.lookup 134 (.map (some b)) (.agg #[.int .u8 (e.r0.a.toNat : Int), .int .u8 (e.r0.b.toNat : Int), .int .u8 (e.r0.c.toNat : Int), .int .u8 (e.r1.a.toNat : Int), .int .u8 (e.r1.b.toNat : Int), .int .u8 (e.r1.c.toNat : Int), .int .u8 (e.r2.a.toNat : Int), .int .u8 (e.r2.b.toNat : Int), .int .u8 (e.r2.c.toNat : Int)]) false).run Try.prog w = .ok (.bool (decide (e ∈ S))) w := by
  obtain ⟨D, hown, hf⟩ := h
  obtain ⟨v, ps, hrun, hv⟩ := hown.lookup keyedM mapTyM (zeroBool w) (plainElem_bool Try.underlying4 false) (klM_spec e)
  rw [hf e] at hv
  obtain ⟨x, rfl, hx⟩ := plainElem_bool_inv Try.underlying4 hv
  rw [hrun, Lit.bool.inj (DataW.lit.inj (Prod.mk.inj hx).1)]
theorem SetAt.store {w : World} {b n : Nat} {S : List M9} (h : SetAt w b n S) (hn : n < maxLen) (e : M9) :
    ∃ W2, (Instr.mapUpdate 134 (.map (some b)) (.agg #[.int .u8 (e.r0.a.toNat : Int), .int .u8 (e.r0.b.toNat : Int), .int .u8 (e.r0.c.toNat : Int), .int .u8 (e.r1.a.toNat : Int), .int .u8 (e.r1.b.toNat : Int), .int .u8 (e.r1.c.toNat : Int), .int .u8 (e.r2.a.toNat : Int), .int .u8 (e.r2.b.toNat : Int), .int .u8 (e.r2.c.toNat : Int)]) (.bool true)).run Try.prog w = .ok () W2 ∧ SetAt W2 b (n + 1) (S ++ [e]) ∧ w.grownBy W2 (some b) := by
  obtain ⟨D, hown, hf⟩ := h
  obtain ⟨w', hr, ho, hg⟩ := hown.update keyedM mapTyM hn (klM_spec e) (plainElem_bool Try.underlying4 true)
  refine ⟨w', hr, ⟨_, ho, fun x => ?_⟩, hg⟩
  by_cases h : x = e
  · rw [h, Maps.atKey_put_same hown.isMap (klM_key e) _ _]
    simp
  · rw [Maps.atKey_put_other (fun hk => h (klM_inj hk)), hf x]
    simp [h]
end Go.Proofs.Ytimjhehagimcaaa
