/- The walks of the laws' own functions on lists of terms and on polynomials; no condition. -/
import Derived.Test.YtgieofidogkbaaaLaws2
set_option linter.unusedVariables false
set_option linter.unusedSimpArgs false
namespace Go.Proofs.Ytgieofidogkbaaa
open Go.RowKit Go.Proofs.YtgieofidogkbaaaW.PrintWords
attribute [local go_sem] Later.cell Later.frozen Later.lt Later.lt_add Later.le Later.le_add Later.ne Later.ne' add_at



theorem infoT : (Try.prog.info? 127).map (fun i => (i.zero, i.size, i.bytes)) = some (some (.agg #[.int .u8 0, .int .u8 0, .int .u8 0, .int .i64 0]), 4, 16) := by kernel_rfl
theorem infoT1 : (Try.prog.info? 127).map (·.size) = some 4 := by kernel_rfl
theorem kT_M (w : World) (base : Nat) (t : T4) : kT.M w base (fun _ => False) t t.cs := rfl

theorem T4_one (t : T4) : ∀ q ∈ t.cs, q.oneCell' = true := kT.K_one (w := default) (show kT.K default t t.cs from rfl)
theorem kT_put (w : World) (base : Nat) (ok : Nat → Prop) (t : T4) (cc : List Value) (h : cc.length = 4) : kT.M w base ok t (cc.take 0 ++ t.cs ++ cc.drop (0 + t.cs.length)) := by
  show _ = t.cs
  have : t.cs.length = 4 := rfl
  rw [this, List.drop_of_length_le (by omega)]
  simp
theorem take_step {α : Type} {i : Nat} (ts : List α) (z : α) (hi : i < ts.length) : (ts.take i ++ List.replicate (ts.length - i) z).set i (ts.getD i z) = ts.take (i + 1) ++ List.replicate (ts.length - (i + 1)) z := by
  have e : ts.length - i = (ts.length - (i + 1)) + 1 := by omega
  rw [List.set_append_right _ _ (by simp; omega), e, List.replicate_succ]
  have h : i - (ts.take i).length = 0 := by simp; omega
  rw [h, List.set_cons_zero, List.take_succ_eq_append_getElem hi, List.append_assoc]
  simp [List.getD_eq_getElem?_getD, hi]

set_option maxRecDepth 100000 in
set_option maxHeartbeats 1000000 in
theorem toTermS_c (A : Option Addr) (c : Nat) (ts : List T4) (w : World) (hC : kT.C w A ts.length ts) (hn : ts.length ≤ 1048576) :
    Calls Try.prog 136 #[.slice A ts.length c] w (Makes kT 127 ts w) := by
  go_enter Try.func136, Try.ntmps136
  go_wp2_with (refine Kd.R_make kT w.heap.size 127 rfl (N := 7) rfl 39 (.tmp 6) (.tmp 6) rfl ts.length rfl rfl (by kernel_rfl) _ 16 infoT rfl (by decide) (by decide) z4 (ok := fun _ => True) (okp := fun _ => False) rfl (fun _ h => h.elim) trivial (by omega) (by omega) (Below.refl _ _) (Nat.le_refl _) ?_; intro v1 w1 HR hb1 _ _)
  rw [Int.toNat_natCast] at HR
  have HB1 := Lib.hid hb1
  clear hb1
  go_loopg [4] ts.length (fun k v w' => ∃ i : Nat, i + k = ts.length ∧ v = .int .i64 i ∧ kT.R 127 w' w.heap.size (fun _ => True) v1 (ts.take i ++ List.replicate (ts.length - i) z4) ∧ Below w.heap.size w w')
  case atStart => exact ⟨0, by omega, rfl, by simpa using HR, HB1.out⟩
  case round =>
    obtain ⟨i, hik, rfl, hR, hb⟩ := hrel
    have HIK := Lib.hid hik
    have HB := Lib.hid hb
    clear hik hb HR
    have hll : (ts.take i ++ List.replicate (ts.length - i) z4).length = ts.length := by have := HIK.out; simp; omega
    have HLL := Lib.hid hll
    clear hll
    by_cases hlt : i < ts.length
    · obtain ⟨b, o, hA, q0, q1, q2, q3⟩ := kT_at hC i hlt z4
      subst hA
      obtain ⟨g, cap, hv, hg, hgs, cells, hcells⟩ := Kd.R_form hR (by rw [HLL.out]; omega)
      rw [HLL.out] at hv
      subst hv
      have q0' := (HB.out.cell (World.block_lt_of_cell? w _ q0)).trans q0
      have q1' := (HB.out.cell (World.block_lt_of_cell? w _ q1)).trans q1
      have q2' := (HB.out.cell (World.block_lt_of_cell? w _ q2)).trans q2
      have q3' := (HB.out.cell (World.block_lt_of_cell? w _ q3)).trans q3
      clear q0 q1 q2 q3 hcells
      have hi0 : (0 : Int) ≤ i := by omega
      have hi1 : (i : Int) < ts.length := by omega
      have hin : ((i : Int)).toNat = i := by omega
      have hset := take_step ts z4 hlt
      have HSET := Lib.hid hset
      clear hset
      generalize ts.getD i z4 = t at *
      go_wp2_with (first | (go_at_call 221; (first | (with_reducible refine call_later2 (toTerm_c t _) ?_) | (with_reducible refine call_later (toTerm_c t _) ?_)); intro x) | ((with_reducible refine gate_ (.store 127 (.tmp 21) (.tmp 20)) rfl ?_); have HR1 := Kd.R_below hR x.ok; obtain ⟨cc, hcl, _, hcc, _⟩ := Kd.R_elem HR1 z4 (i : Int) hi0 hi1; refine Kd.R_store kT w.heap.size rfl rfl 127 (.tmp 21) (.tmp 20) rfl 127 (i : Int) 0 _ t (.agg #[.int .u8 (t.e.a.toNat : Int), .int .u8 (t.e.b.toNat : Int), .int .u8 (t.e.c.toNat : Int), .int .i64 t.v]) t.cs cc (fun _ => True) (fun _ => False) rfl (by simp; rfl) rfl rfl infoT1 (T4_one t) HR1 hi0 hi1 hcl hcc (Nat.le_refl _) (kT_put _ _ _ t cc hcl) (fun _ h => h.elim) (bel_later x HB.out (by omega)) ?_; intro w2 HR2 HB2 _))
      go_roundg (gk - 1)
      case measure => have := HIK.out; omega
      case rel =>
        refine ⟨i + 1, by have := HIK.out; omega, by go_num, ?_, HB2⟩
        rw [hin, HSET.out] at HR2
        exact HR2
    · go_wp2
      go_ret
      have e : i = ts.length := by have := HIK.out; omega
      subst e
      exact ⟨v1, rfl, by simpa using hR, HB.out⟩

/-- Calls whose worlds are measured by an elder world w. -/
theorem call_gives_at {P : Program} {f : FuncId} {args : Array Value} (w : World) {W : World} {v : Value} {R : Ending → World → Prop} (hW : Below w.heap.size w W)
    (h : Calls P f args W (Gives v W)) (k : ∀ x : Later w, Below W.heap.size W x.W → R (.returned v) x.W) : Calls P f args W R :=
  h.mono fun _ w' ⟨he, hb⟩ => by subst he; exact k ⟨w', hW.trans (hb.mono hW.size)⟩ hb
theorem call_makes_at {α : Type} {d : Kd α} {E : Nat} {xs : List α} {P : Program} {f : FuncId} {args : Array Value} (w : World) {W : World} {R : Ending → World → Prop} (hW : Below w.heap.size w W)
    (h : Calls P f args W (Makes d E xs W)) (k : ∀ (x : Later w) A c, Below W.heap.size W x.W → xs.length ≤ c → d.R E x.W W.heap.size (fun _ => True) (.slice A xs.length c) xs → d.C x.W A xs.length xs → R (.returned (.slice A xs.length c)) x.W) : Calls P f args W R :=
  h.mono fun _ w' ⟨v, he, hr, hb⟩ => by
    subst he
    obtain ⟨A, c, rfl, hl, hC⟩ := Kd.R_reads hr
    exact k ⟨w', hW.trans (hb.mono hW.size)⟩ A c hb hl hr hC
theorem call_makesP_at {p d : Int} {E : Nat} {xs : List T4} {P : Program} {f : FuncId} {args : Array Value} (w : World) {W : World} {R : Ending → World → Prop} (hW : Below w.heap.size w W)
    (h : Calls P f args W (MakesP p d E xs W)) (k : ∀ (x : Later w) A c, Below W.heap.size W x.W → xs.length ≤ c → kT.R E x.W W.heap.size (fun _ => True) (.slice A xs.length c) xs → kT.C x.W A xs.length xs → R (.returned (.agg #[.int .i64 p, .int .i64 d, .slice A xs.length c])) x.W) : Calls P f args W R :=
  h.mono fun _ w' ⟨A, c, he, hr, hb⟩ => by
    subst he
    obtain ⟨_, hl, hC⟩ := Kd.R_reads' hr
    exact k ⟨w', hW.trans (hb.mono hW.size)⟩ A c hb hl hr hC

/-- A store below the base of a row of one's own turns nothing of it. -/
theorem R_old {α : Type} {d : Kd α} {e base : Nat} {w : World} {ok : Nat → Prop} {v : Value} {xs : List α} (h : d.R e w base ok v xs) {p : Addr} (hp : p.block < base) (u : Value) : d.R e (w.setCell p u) base ok v xs :=
  Kd.R_mono (Kd.R_far (p := p) (Kd.R_bound h) (fun k hk => by have := hk.2.1; omega) u) (fun _ hk => hk.1)

set_option maxRecDepth 100000 in
theorem toPoly_c (p d : Int) (A : Option Addr) (c : Nat) (ts : List T4) (w : World) (hC : kT.C w A ts.length ts) (hn : ts.length ≤ 1048576) :
    Calls Try.prog 43 #[.agg #[.int .i64 p, .int .i64 d, .slice A ts.length c]] w (MakesP p d 127 ts w) := by
  go_enter Try.func43, Try.ntmps43
  go_wp2_with (go_at_call 136; (with_reducible refine call_makes (toTermS_c _ _ _ _ ?hcc hn) ?_); (case hcc => repeat (first | exact hC | refine Kd.C_alloc ?_ _)); intro x A' c' _ hlc hR hC')
  have hR4 := Kd.R_lower (base' := w.heap.size) (R_old (R_old (R_old (R_old hR (p := ⟨w.heap.size + 1 + 1, 2, none⟩) (by simp) (.slice A' ts.length c')) (p := ⟨w.heap.size + 1, 0, none⟩) (by simp) (.int .i64 p)) (p := ⟨w.heap.size + 1, 1, none⟩) (by simp) (.int .i64 d)) (p := ⟨w.heap.size + 1, 2, none⟩) (by simp) (.slice A' ts.length c')) (by simp; omega)
  exact bodyPost_ret (v := .agg #[.int .i64 p, .int .i64 d, .slice A' ts.length c']) (by simp [results, Try.results43, go_sem]) rfl ⟨A', c', rfl, hR4, (by repeat (first | (with_reducible exact Below.refl _ _) | ((with_reducible refine Below.alloc ?_ ?_ _); rotate_left; (focus (first | omega | (simp; done) | (simp; omega)))) | ((with_reducible refine bel_later _ ?_ ?_); rotate_left; (focus (first | omega | (simp; done) | (simp; omega)))) | ((with_reducible refine Below.setCell ?_ ?_ _); rotate_left; (focus (first | omega | (simp; done) | (simp; omega))))))⟩

set_option maxRecDepth 100000 in
set_option maxHeartbeats 1000000 in
theorem eqTermS_c (A B : Option Addr) (c b : Nat) (ts us : List T4) (w : World) (hC : kT.C w A ts.length ts) (hD : kT.C w B us.length us) (hn : ts.length ≤ 1048576) (hm : us.length ≤ 1048576) :
    Calls Try.prog 139 #[.slice A ts.length c, .slice B us.length b] w (Gives (.bool (ts == us)) w) := by
  by_cases hl : ts.length = us.length
  · have HL := Lib.hid hl
    have hq : ((ts.length : Int) != us.length) = false := by simp [hl]
    clear hl
    go_enter Try.func139, Try.ntmps139
    go_wp2
    go_loopg [5] ts.length (fun k v w' => ∃ (i : Nat) (y : Later w), i + k = ts.length ∧ v = .int .i64 i ∧ (∀ j, j < i → ts.getD j z4 = us.getD j z4) ∧ w' = y.W)
    case atStart => exact ⟨0, ⟨w, Below.refl _ _⟩, by omega, rfl, fun j hj => by omega, rfl⟩
    case round =>
      obtain ⟨i, y, hik, rfl, hs, rfl⟩ := hrel
      have HIK := Lib.hid hik
      have HS := Lib.hid hs
      clear hik hs
      by_cases hlt : i < ts.length
      · obtain ⟨b1, o1, hA, p0, p1, p2, p3⟩ := kT_at hC i hlt z4
        obtain ⟨b2, o2, hB, q0, q1, q2, q3⟩ := kT_at hD i (by have := HL.out; omega) z4
        subst hA
        subst hB
        have k1 : b1 < w.heap.size := World.block_lt_of_cell? w _ p0
        have k2 : b2 < w.heap.size := World.block_lt_of_cell? w _ q0
        have hi0 : (0 : Int) ≤ i := by omega
        have hi1 : (i : Int) < ts.length := by omega
        have hi2 : (i : Int) < us.length := by have := HL.out; omega
        have hin : ((i : Int)).toNat = i := by omega
        generalize ht : ts.getD i z4 = t at *
        generalize hu : us.getD i z4 = u at *
        have HT := Lib.hid ht
        have HU := Lib.hid hu
        clear ht hu
        cases he : (t == u) with
        | false =>
          go_wp2
          (first | refine wp_region_later2 (by kernel_rfl) (by kernel_rfl) ?_ | refine wp_region_later (by kernel_rfl) (by kernel_rfl) ?_); (repeat (go_big_quiet_step ((go_at_call 222; with_reducible exact quiet_later (eqTerm_c _ _ _))))); refine wpQuiet_nil ?_; intro x
          go_wp2
          go_ret
          refine .mk ?_ (by repeat (first | (with_reducible exact Below.refl _ _) | ((with_reducible refine Below.alloc ?_ ?_ _); rotate_left; (focus (first | omega | (simp; done) | (simp; omega)))) | ((with_reducible refine bel_later _ ?_ ?_); rotate_left; (focus (first | omega | (simp; done) | (simp; omega)))) | ((with_reducible refine Below.setCell ?_ ?_ _); rotate_left; (focus (first | omega | (simp; done) | (simp; omega))))))
          have hne : (ts == us) = false := by
            rw [beq_eq_false_iff_ne]
            intro hh
            rw [beq_eq_false_iff_ne] at he
            exact he (by rw [← HT.out, ← HU.out, hh])
          rw [hne]
          rfl
        | true =>
          go_wp2
          (first | refine wp_region_later2 (by kernel_rfl) (by kernel_rfl) ?_ | refine wp_region_later (by kernel_rfl) (by kernel_rfl) ?_); (repeat (go_big_quiet_step ((go_at_call 222; with_reducible exact quiet_later (eqTerm_c _ _ _))))); refine wpQuiet_nil ?_; intro x
          go_wp2
          go_roundg (gk - 1)
          case measure => have := HIK.out; omega
          case rel =>
            refine ⟨i + 1, x, by have := HIK.out; omega, by go_num, fun j hj => ?_, rfl⟩
            rcases Nat.lt_succ_iff_lt_or_eq.1 hj with g | g
            · exact HS.out j g
            · rw [g, HT.out, HU.out]
              exact eq_of_beq he
      · go_wp2
        go_ret
        refine .mk ?_ (by repeat (first | (with_reducible exact Below.refl _ _) | ((with_reducible refine Below.alloc ?_ ?_ _); rotate_left; (focus (first | omega | (simp; done) | (simp; omega)))) | ((with_reducible refine bel_later _ ?_ ?_); rotate_left; (focus (first | omega | (simp; done) | (simp; omega)))) | ((with_reducible refine Below.setCell ?_ ?_ _); rotate_left; (focus (first | omega | (simp; done) | (simp; omega))))))
        have heq : ts = us := by
          apply List.ext_getElem HL.out
          intro j h1 h2
          have := HS.out j (by omega)
          simpa [List.getD_eq_getElem?_getD, h1, h2] using this
        rw [heq, beq_self_eq_true]
        rfl
  · have hq : ((ts.length : Int) != us.length) = true := by rw [bne_iff_ne]; omega
    have he : (ts == us) = false := by
      rw [beq_eq_false_iff_ne]
      intro hh
      exact hl (by rw [hh])
    have HE := Lib.hid he
    clear he hl
    go_enter Try.func139, Try.ntmps139
    go_wp2
    go_ret
    exact .mk (by rw [HE.out]; rfl) (by repeat (first | (with_reducible exact Below.refl _ _) | ((with_reducible refine Below.alloc ?_ ?_ _); rotate_left; (focus (first | omega | (simp; done) | (simp; omega)))) | ((with_reducible refine bel_later _ ?_ ?_); rotate_left; (focus (first | omega | (simp; done) | (simp; omega)))) | ((with_reducible refine Below.setCell ?_ ?_ _); rotate_left; (focus (first | omega | (simp; done) | (simp; omega))))))

theorem eqPoly_c (p d p' d' : Int) (A B : Option Addr) (c b : Nat) (ts us : List T4) (w : World) (hC : kT.C w A ts.length ts) (hD : kT.C w B us.length us) (hn : ts.length ≤ 1048576) (hm : us.length ≤ 1048576) :
    Calls Try.prog 45 #[.agg #[.int .i64 p, .int .i64 d, .slice A ts.length c], .agg #[.int .i64 p', .int .i64 d', .slice B us.length b]] w (Gives (.bool (p == p' && d == d' && ts == us)) w) := by
  cases h1 : (p == p') with
  | false =>
    have g1 : (p != p') = true := by simp [bne, h1]
    go_enter Try.func45, Try.ntmps45
    go_wp2
    go_ret
    exact .mk rfl (by repeat (first | (with_reducible exact Below.refl _ _) | ((with_reducible refine Below.alloc ?_ ?_ _); rotate_left; (focus (first | omega | (simp; done) | (simp; omega)))) | ((with_reducible refine bel_later _ ?_ ?_); rotate_left; (focus (first | omega | (simp; done) | (simp; omega)))) | ((with_reducible refine Below.setCell ?_ ?_ _); rotate_left; (focus (first | omega | (simp; done) | (simp; omega))))))
  | true =>
  have g1 : (p != p') = false := by simp [bne, h1]
  cases h2 : (d == d') with
  | false =>
    have g2 : (d != d') = true := by simp [bne, h2]
    go_enter Try.func45, Try.ntmps45
    go_wp2
    go_ret
    exact .mk rfl (by repeat (first | (with_reducible exact Below.refl _ _) | ((with_reducible refine Below.alloc ?_ ?_ _); rotate_left; (focus (first | omega | (simp; done) | (simp; omega)))) | ((with_reducible refine bel_later _ ?_ ?_); rotate_left; (focus (first | omega | (simp; done) | (simp; omega)))) | ((with_reducible refine Below.setCell ?_ ?_ _); rotate_left; (focus (first | omega | (simp; done) | (simp; omega))))))
  | true =>
  have g2 : (d != d') = false := by simp [bne, h2]
  have hC1 := Kd.C_alloc (Kd.C_alloc hC (.cells #[.int .i64 p, .int .i64 d, .slice A ts.length c] 41)) (.cells #[.int .i64 p', .int .i64 d', .slice B us.length b] 41)
  have hD1 := Kd.C_alloc (Kd.C_alloc hD (.cells #[.int .i64 p, .int .i64 d, .slice A ts.length c] 41)) (.cells #[.int .i64 p', .int .i64 d', .slice B us.length b] 41)
  cases h3 : (ts == us) with
  | false =>
    have H := eqTermS_c A B c b ts us _ hC1 hD1 hn hm
    rw [h3] at H
    have HH := Lib.hid H
    clear H
    go_enter Try.func45, Try.ntmps45
    go_wp2_with ((go_at_call 139; (first | (with_reducible refine call_later2 (HH.out) ?_) | (with_reducible refine call_later (HH.out) ?_)); intro x))
    go_ret
    exact .mk rfl (by repeat (first | (with_reducible exact Below.refl _ _) | ((with_reducible refine Below.alloc ?_ ?_ _); rotate_left; (focus (first | omega | (simp; done) | (simp; omega)))) | ((with_reducible refine bel_later _ ?_ ?_); rotate_left; (focus (first | omega | (simp; done) | (simp; omega)))) | ((with_reducible refine Below.setCell ?_ ?_ _); rotate_left; (focus (first | omega | (simp; done) | (simp; omega))))))
  | true =>
    have H := eqTermS_c A B c b ts us _ hC1 hD1 hn hm
    rw [h3] at H
    have HH := Lib.hid H
    clear H
    go_enter Try.func45, Try.ntmps45
    go_wp2_with ((go_at_call 139; (first | (with_reducible refine call_later2 (HH.out) ?_) | (with_reducible refine call_later (HH.out) ?_)); intro x))
    go_ret
    exact .mk rfl (by repeat (first | (with_reducible exact Below.refl _ _) | ((with_reducible refine Below.alloc ?_ ?_ _); rotate_left; (focus (first | omega | (simp; done) | (simp; omega)))) | ((with_reducible refine bel_later _ ?_ ?_); rotate_left; (focus (first | omega | (simp; done) | (simp; omega)))) | ((with_reducible refine Below.setCell ?_ ?_ _); rotate_left; (focus (first | omega | (simp; done) | (simp; omega))))))
end Go.Proofs.Ytgieofidogkbaaa
