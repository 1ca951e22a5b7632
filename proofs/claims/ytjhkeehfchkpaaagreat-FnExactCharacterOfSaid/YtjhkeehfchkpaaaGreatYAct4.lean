/- TransferOf of both sides; no condition. -/
import Derived.Test.YtjhkeehfchkpaaaGreatYAct3
import Derived.Test.YtjhkeehfchkpaaaGreatYLawKit2
set_option linter.unusedVariables false
set_option linter.unusedSimpArgs false
namespace Go.Proofs.YtjhkeehfchkpaaaGreat
open Go.RowKit Go.Proofs.YtjhkeehfchkpaaaGreatW.PrintWords
attribute [local go_sem] Later.cell Later.frozen Later.lt Later.lt_add Later.le Later.le_add Later.ne Later.ne' add_at
open Go.Proofs.YtjhkeehfchkpaaaGreatW.PrintLast
attribute [local go_sem 2000] run_eqM guardM
theorem img_likes {p : Int} (hp : 2 ≤ p) {n : Nat} (h3 : n ≤ 3) (ms : List M9) {ts : List T4} (hd : ∀ t ∈ ts, degE t.e ≤ 12) : Likes p n (imgV p n ms ts) := by
  refine ⟨?_, ?_, ?_, ?_⟩
  · intro x hx
    obtain ⟨m, _, rfl⟩ := List.mem_map.1 hx
    rfl
  · intro x hx
    obtain ⟨m, _, rfl⟩ := List.mem_map.1 hx
    rfl
  · intro x hx
    obtain ⟨m, _, rfl⟩ := List.mem_map.1 hx
    exact ledL_canon hp n m ts
  · intro x hx
    obtain ⟨m, _, rfl⟩ := List.mem_map.1 hx
    exact ledL_deg hp h3 m hd
theorem codeF_nums {p n : Int} {ms : List M9} {q d : Int} {ts : List T4} (h : codeF p n ms q d ts = 0) : q = p ∧ d = n ∧ 2 ≤ p ∧ p ≤ 13 ∧ 1 ≤ n ∧ n ≤ 3 ∧ ms.length ≤ 48 ∧ Canon p ts ∧ (∀ t ∈ ts, degE t.e ≤ 12) := by
  obtain ⟨hg, hb, hq, hd⟩ := codeF_0 h
  have gp := (grpB_iff p n ms).1 hg
  obtain ⟨h1, h2, h3, h4⟩ := grp_n3 gp
  have hc := polyB_canon hb
  rw [hq] at hc
  exact ⟨hq, hd, h1, h2, h3, h4, gp.l2, hc, polyB_deg hb⟩
theorem codeF_three (p n : Int) (ms : List M9) (q d : Int) (ts : List T4) : codeF p n ms q d ts = 0 ∨ codeF p n ms q d ts = 1 ∨ codeF p n ms q d ts = 2 := by
  unfold codeF
  split
  · split
    · exact Or.inl rfl
    · exact Or.inr (Or.inr rfl)
  · exact Or.inr (Or.inl rfl)
end Go.Proofs.YtjhkeehfchkpaaaGreat
