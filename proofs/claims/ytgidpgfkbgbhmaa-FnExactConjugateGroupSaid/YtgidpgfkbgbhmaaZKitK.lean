/- Walks of the functions on polynomials, numbers and rows, of both sides; no condition. -/
import Derived.Test.YtgidpgfkbgbhmaaZKitP
import Derived.Test.YtgidpgfkbgbhmaaZKitC
import Derived.Test.YtgidpgfkbgbhmaaZLawKit2
/- Marks on lists of numbers; no condition. -/
set_option linter.unusedVariables false
set_option linter.unusedSimpArgs false
namespace Go.Proofs.Ytgidpgfkbgbhmaa
open Go.RowKit Go.Proofs.YtgidpgfkbgbhmaaW.PrintWords
attribute [local go_sem] Later.cell Later.frozen Later.lt Later.lt_add Later.le Later.le_add Later.ne Later.ne' add_at
end Go.Proofs.Ytgidpgfkbgbhmaa
/- More for the laws of functions on groups: what calls leave, and lists of numbers and of matrices; no condition. -/
set_option linter.unusedVariables false
set_option linter.unusedSimpArgs false
namespace Go.Proofs.Ytgidpgfkbgbhmaa
open Go.RowKit Go.Proofs.YtgidpgfkbgbhmaaW.PrintWords
attribute [local go_sem] Later.cell Later.frozen Later.lt Later.lt_add Later.le Later.le_add Later.ne Later.ne' add_at
theorem call_makesGC {r : GC} {E : Nat} {P : Program} {f : FuncId} {args : Array Value} {w : World} {R : Ending → World → Prop}
    (h : Calls P f args w (MakesGC r E w)) (k : ∀ (x : Later w) A c, Below w.heap.size w x.W → r.ts.length ≤ c → kM.R E x.W w.heap.size (fun _ => True) (.slice A r.ts.length c) r.ts → R (.returned (.tuple #[.agg #[.int .i64 r.p, .int .i64 r.d, .slice A r.ts.length c], .int .i64 r.c])) x.W) : Calls P f args w R :=
  h.mono fun _ w' ⟨A, c, he, hr, hb⟩ => by
    subst he
    exact k ⟨w', hb⟩ A c hb (Kd.R_reads' hr).2.1 hr
theorem call_makesGC2 {r : GC} {E : Nat} {P : Program} {f : FuncId} {args : Array Value} {w : World} {y : Later w} {R : Ending → World → Prop}
    (h : Calls P f args y.W (MakesGC r E y.W)) (k : ∀ (x : Later w) A c, Below y.W.heap.size y.W x.W → r.ts.length ≤ c → kM.R E x.W y.W.heap.size (fun _ => True) (.slice A r.ts.length c) r.ts → R (.returned (.tuple #[.agg #[.int .i64 r.p, .int .i64 r.d, .slice A r.ts.length c], .int .i64 r.c])) x.W) : Calls P f args y.W R :=
  h.mono fun _ w' ⟨A, c, he, hr, hb⟩ => by
    subst he
    exact k ⟨w', y.ok.trans (hb.mono y.ok.size)⟩ A c hb (Kd.R_reads' hr).2.1 hr
end Go.Proofs.Ytgidpgfkbgbhmaa
