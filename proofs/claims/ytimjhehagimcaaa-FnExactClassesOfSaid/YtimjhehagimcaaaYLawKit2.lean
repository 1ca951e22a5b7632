/- More for laws whose arguments are copied inside a drawn region; no condition. -/
import Derived.Test.YtimjhehagimcaaaYKitP
import Derived.Test.YtimjhehagimcaaaYAccK
set_option linter.unusedVariables false
set_option linter.unusedSimpArgs false
namespace Go.Proofs.Ytimjhehagimcaaa
open Go.RowKit Go.Proofs.YtimjhehagimcaaaW.PrintWords
attribute [local go_sem] Later.cell Later.frozen Later.lt Later.lt_add Later.le Later.le_add Later.ne Later.ne' add_at
theorem later_drew2 (w : World) (x : Later w.drew) (a : Addr) (h : a.block < w.heap.size) : x.W.cell? a = w.cell? a := x.ok.cell h
theorem later_drewf2 (w : World) (x : Later w.drew) (a : Addr) (h : a.block < w.heap.size) : x.W.frozen? a = w.frozen? a := x.ok.frozen h
end Go.Proofs.Ytimjhehagimcaaa
