/- The program's OrbitOfPoint: points led, sorted, each kept once; no condition. -/
import Derived.Test.YtimjhehagimcaaaYOrbZ
import Derived.Test.YtimjhehagimcaaaYKitL
set_option linter.unusedVariables false
set_option linter.unusedSimpArgs false
namespace Go.Proofs.Ytimjhehagimcaaa
open Go.RowKit Go.Proofs.YtimjhehagimcaaaW.PrintWords
attribute [local go_sem] Later.cell Later.frozen Later.lt Later.lt_add Later.le Later.le_add Later.ne Later.ne' add_at
attribute [local go_sem 2000] run_eqM guardM
def Elt.co {w : World} {base g : Nat} (x y : Elt w base g) : Int := cmpI x.row y.row
theorem elt_swoo {w : World} {base g : Nat} : Go.Sort.SWO (Go.Proofs.ltOf (Elt.co (w := w) (base := base) (g := g))) where
  irrefl x := decide_eq_false (cmpI_lt_self _)
  trans x y z h1 h2 := decide_eq_true (cmpI_trans _ _ _ (of_decide_eq_true h1) (of_decide_eq_true h2))
  ntrans x y z h1 h2 := decide_eq_false (cmpI_ntrans _ _ _ (of_decide_eq_false h1) (of_decide_eq_false h2))
theorem elt_cmpo {w : World} {base g n : Nat} : Go.Proofs.CmpLays1 Try.prog 108 #[] (Elt.enc (w := w) (base := base) (g := g)) Elt.co g 0 n w := by
  intro m os dk hs x y
  obtain ⟨⟨vx, rx⟩, hx, lx⟩ := x
  obtain ⟨⟨vy, ry⟩, hy, ly⟩ := y
  have hm : ∀ k, k ≠ g → k < w.heap.size → (Go.Proofs.sortWorld Elt.enc w g 0 m dk os).heap[k]? = w.heap[k]? := fun k hk hlt => sort_other _ _ _ _ _ _ k hlt hk
  have hx' := Kd.R_step hx hm
  have hy' := Kd.R_step hy hm
  obtain ⟨A, c, e1⟩ := Kd.R_slice hx'
  obtain ⟨B, d, e2⟩ := Kd.R_slice hy'
  have e1 : vx = .slice A rx.length c := e1
  have e2 : vy = .slice B ry.length d := e2
  subst e1
  subst e2
  refine (sCompare_s (R_C hx') (R_C hy')).mono fun e w' ⟨h1, h2⟩ => ⟨h1, 0, #[], ?_⟩
  rw [h2]
  simp [World.drewN]
set_option maxHeartbeats 1000000 in
theorem sort_o {w : World} {base g n c : Nat} {qs : List (List Int × Option Nat)} (hR : (tagK kL).R 55 w base (fun _ => True) (.slice (some ⟨g, 0, none⟩) n c) qs) (hl : ∀ r ∈ qs, r.1.length ≤ 1000000) (hn : n ≤ 1000000) :
    Calls Try.prog 90 #[.slice (some ⟨g, 0, none⟩) n c, .func (.func 108) #[] #[]] w (fun e w' => e = .returned (.tuple #[]) ∧ ∃ qs' : List (List Int × Option Nat), qs'.Perm qs ∧ qs'.Pairwise (fun a b => ¬ cmpI b.1 a.1 < 0) ∧
      (tagK kL).R 55 w' base (fun _ => True) (.slice (some ⟨g, 0, none⟩) n c) qs' ∧ Below base w w') := by
  obtain ⟨_, inner, hown, hreps⟩ := hR
  obtain ⟨hil, hbody⟩ := hown
  rcases hbody with ⟨hv, _⟩ | ⟨g', cap, cur, hv, hgb, hheap, hnc, hcm, hcs, htake⟩
  · cases hv
  injection hv with hv1 _ hv2
  simp only [Option.some.injEq, Addr.mk.injEq, and_true] at hv1
  obtain rfl := hv1
  subst hv2
  have hsz : (tagK kL).sz = 1 := rfl
  rw [hsz, Nat.mul_one] at hil hcs htake
  have hol : qs.length = n := by
    have := hreps.1
    rw [hsz, Nat.mul_one] at this
    omega
  obtain ⟨ds, hd1, hd2⟩ : ∃ ds : List (Elt w base g), ds.map Elt.enc = inner ∧ ds.map Elt.row = qs.map Prod.fst := elts_of (P := fun v r => kI.R 2 w base (fun k => k ≠ g) v r ∧ r.length ≤ 1000000) inner (qs.map Prod.fst) (by rw [List.length_map]; omega) (fun j p hp => by
    rw [List.getElem?_map] at hp
    obtain ⟨q, hq9, rfl⟩ := Option.map_eq_some_iff.1 hp
    clear hp
    have hp := hq9
    have h1 := hreps.2 j q hp
    rw [hsz, Nat.mul_one] at h1
    obtain ⟨⟨v, hv, hM⟩, _⟩ := h1
    have hp' := List.getElem?_eq_some_iff.1 hp
    refine ⟨v, ?_, Kd.R_mono hM (fun k hk he => hk.2 (by rw [he]; rfl)), hl q (by rw [← hp'.2]; exact List.getElem_mem hp'.1)⟩
    have h2 : ((inner.drop j).take 1)[0]? = some v := by rw [hv]; rfl
    rw [List.getElem?_take_of_lt (by omega), List.getElem?_drop] at h2
    simpa using h2)
  have hdl : ds.length = n := by
    have := congrArg List.length hd2
    simp at this
    omega
  have hd3 : ds.map Elt.tag = qs := by
    refine List.ext_getElem (by rw [List.length_map]; omega) fun j h1 h2 => ?_
    have h3 : j < ds.length := by simpa using h1
    rw [List.getElem_map]
    have e1 : (ds.map Elt.row)[j]'(by simpa using h3) = (qs.map Prod.fst)[j]'(by simpa using h2) := by simp only [hd2]
    rw [List.getElem_map, List.getElem_map] at e1
    have e2 : (ds.map Elt.enc)[j]'(by simpa using h3) = inner[j]'(by omega) := by simp only [hd1]
    rw [List.getElem_map] at e2
    have h4 := hreps.2 j qs[j] (List.getElem?_eq_getElem h2)
    rw [hsz, Nat.mul_one] at h4
    have h5 : ((inner.drop j).take 1).getLast?.bind Value.ownBlock = qs[j].2 := h4.2
    have e5 : (inner.drop j).take 1 = [inner[j]] := by
      rw [List.drop_eq_getElem_cons (by omega)]
      rfl
    rw [e5] at h5
    have h6 : inner[j].ownBlock = qs[j].2 := h5
    exact Prod.ext e1 (by show (Elt.enc ds[j]).ownBlock = _; rw [e2]; exact h6)
  have hgs : g < w.heap.size := (Array.getElem?_eq_some_iff.1 hheap).1
  have hds : ds.toArray.size = n := by simpa using hdl
  have hH : Go.Sort.Holds (Elt.enc (w := w) (base := base) (g := g)) w g 0 ds.toArray := fun j hj => by
    have hj' : j < n := by rw [← hds]; exact hj
    refine ⟨?_, blk_frozen hheap _⟩
    rw [Nat.zero_add, blk_cell hheap]
    have h3 : inner[j]? = some (Elt.enc (ds.toArray[j]!)) := by
      rw [← hd1, List.getElem?_map]
      have : j < ds.length := by omega
      simp [this, Elt.enc]
    rw [← htake, List.getElem?_take_of_lt (by omega)] at h3
    simpa using h3
  have hcon := Try.slices_SortFunc (Elt.enc (w := w) (base := base) (g := g)) (fun x => by
    obtain ⟨⟨v, r⟩, hx, _⟩ := x
    obtain ⟨A, c, e⟩ := Kd.R_slice hx
    show Value.oneCell' v = true
    rw [show v = _ from e]
    rfl) Elt.co elt_swoo 108 #[] g 0 c ds.toArray w (enters_of Try.func108 (by kernel_rfl) rfl) elt_cmpo hH hgs (by rw [hds]; omega)
  rw [hds] at hcon
  refine hcon.mono fun e w' ⟨he, d', m, os, hp, hs, hw⟩ => ⟨he, d'.toList.map Elt.tag, ?_, ?_, ?_, ?_⟩
  · have h1 := hp.2.2
    have h2 := hp.1
    rw [hds] at h2
    have e1 : d'.extract 0 n = d' := by rw [← h2]; exact Array.extract_size
    have e2 : ds.toArray.extract 0 n = ds.toArray := by rw [← hds]; exact Array.extract_size
    rw [e1, e2] at h1
    have := h1.map Elt.tag
    have e3 : ds.toArray.toList.map Elt.tag = qs := hd3
    rwa [e3] at this
  · rw [List.pairwise_map]
    refine List.pairwise_iff_getElem.2 fun i j hi hj hij => ?_
    have hi' : i < d'.size := by simpa using hi
    have hj' : j < d'.size := by simpa using hj
    have h2 := hp.1
    rw [hds] at h2
    have := hs i j (Nat.zero_le _) hij (by omega)
    simp [Go.Proofs.ltOf, Elt.co, hi', hj'] at this
    simp only [Elt.tag, Array.getElem_toList]
    omega
  · subst hw
    have h2 := hp.1
    rw [hds] at h2
    have hm : ∀ k, k ≠ g → k < w.heap.size → (Go.Proofs.sortWorld Elt.enc w g 0 m d' os).heap[k]? = w.heap[k]? := fun k hk hlt => sort_other _ _ _ _ _ _ k hlt hk
    have hdl' : (d'.toList.map Elt.tag).length = n := by simpa using h2
    rw [show Value.slice (some ⟨g, 0, none⟩) n c = Value.slice (some ⟨g, 0, none⟩) (d'.toList.map Elt.tag).length c by rw [hdl']]
    refine ⟨fun _ _ => trivial, d'.toList.map Elt.enc, ⟨by simp [hsz], .inr ⟨g, c, _, rfl, hgb, sort_self _ _ _ _ _ _ hheap, by rw [hdl']; omega, hcm, by rw [hsz, Nat.mul_one]; simpa [Go.Sort.putCells] using hcs, ?_⟩⟩, ⟨by simp [hsz], fun j p hjp => ?_⟩⟩
    · rw [hsz, Nat.mul_one, hdl']
      have := put_take (Elt.enc (w := w) (base := base) (g := g)) d' cur (by omega)
      rwa [h2] at this
    · rw [hsz, Nat.mul_one]
      obtain ⟨hjl, hjp'⟩ := List.getElem?_eq_some_iff.1 hjp
      have hj' : j < d'.size := by simpa using hjl
      have he : ((d'.toList.map Elt.enc).drop j).take 1 = [Elt.enc d'[j]] := by
        rw [List.drop_eq_getElem_cons (by simpa using hj')]
        simp
      rw [he]
      have hr : p = Elt.tag d'[j] := by rw [← hjp']; simp
      rw [hr]
      refine ⟨⟨_, rfl, ?_⟩, rfl⟩
      exact Kd.R_mono (Kd.R_step d'[j].2.1 hm) (fun k hk => ⟨trivial, fun h => hk (by simpa [Value.ownBlock] using h)⟩)
  · subst hw
    refine ⟨rfl, rfl, rfl, ?_, fun k hk => sort_other _ _ _ _ _ _ k (by omega) (by omega)⟩
    simp [Go.Proofs.sortWorld, Go.Sort.grow, Go.Sort.putRow, Go.Sort.mapBlock, Go.Sort.ahead]
def orbL (p : Int) (n : Nat) (xs : List Int) (ms : List M9) : List (List Int) := ms.map fun m => ledL p n xs m
theorem orbL_len (p : Int) (n : Nat) (xs : List Int) (ms : List M9) : (orbL p n xs ms).length = ms.length := by simp [orbL]
theorem orbL_take {p : Int} {n : Nat} {xs : List Int} {ms : List M9} {j : Nat} (h : j < ms.length) : (orbL p n xs ms).take (j + 1) = (orbL p n xs ms).take j ++ [ledL p n xs (ms.getD j zM)] := by
  rw [List.take_succ_eq_append_getElem (by rw [orbL_len]; exact h)]
  simp [orbL, List.getD_eq_getElem?_getD, h]
set_option maxRecDepth 100000 in
set_option maxHeartbeats 4000000 in
theorem orbitOfPoint_t (p : Int) (n : Nat) (A : Option Addr) (c : Nat) (ms : List M9) (B : Option Addr) (e : Nat) (xs : List Int) (w : World) (hC : kM.C w A ms.length ms) (hD : kI.C w B xs.length xs) (hN : ms.length ≤ 48) (hN0 : 0 < ms.length) (hms : ∀ i, i < ms.length → (ms.getD i zM).le p) (hp : 2 ≤ p) (hp' : p ≤ 13) (h1 : 1 ≤ n) (h3 : n ≤ 3) (hxn : xs.length = n) (hnums : ∀ i, 0 ≤ xs.getD i 0 ∧ xs.getD i 0 < p) :
    Calls Try.prog 77 #[.agg #[.int .i64 p, .int .i64 n, .slice A ms.length c], .slice B xs.length e] w (MakesTL 55 (orbS (orbL p n xs ms)) w) := by
  have HMS := Lib.hid hms
  have HNU := Lib.hid hnums
  have HXN := Lib.hid hxn
  have hbW : Below w.heap.size w (w.alloc (.cells #[.int .i64 p, .int .i64 n, .slice A ms.length c] 31)) := below_alloc2 w (.cells #[.int .i64 p, .int .i64 n, .slice A ms.length c] 31)
  have hC2 := Kd.C_below hC hbW
  have hD2 := Kd.C_below hD hbW
  have g0 : (w.alloc (.cells #[.int .i64 p, .int .i64 n, .slice A ms.length c] 31)).cell? ⟨w.heap.size, 0, none⟩ = some (.int .i64 p) := bq5
  have g1 : (w.alloc (.cells #[.int .i64 p, .int .i64 n, .slice A ms.length c] 31)).cell? ⟨w.heap.size, 1, none⟩ = some (.int .i64 n) := bq5
  have g2 : (w.alloc (.cells #[.int .i64 p, .int .i64 n, .slice A ms.length c] 31)).cell? ⟨w.heap.size, 2, none⟩ = some (.slice A ms.length c) := bq5
  have hz2 : (w.alloc (.cells #[.int .i64 p, .int .i64 n, .slice A ms.length c] 31)).heap.size = w.heap.size + 1 := by simp
  have hR0 := R_zeroT kL (e := 55) (heap_alloc_last (w.alloc (.cells #[.int .i64 p, .int .i64 n, .slice A ms.length c] 31)) (.cells #[] 55)) (Nat.le_refl _)
  have hb23 := below_alloc2 (w.alloc (.cells #[.int .i64 p, .int .i64 n, .slice A ms.length c] 31)) (.cells #[] 55)
  clear hms hnums hxn
  go_enter Try.func77, Try.ntmps77
  go_wp2
  generalize hW2 : (w.alloc (.cells #[.int .i64 p, .int .i64 n, .slice A ms.length c] 31)) = W2 at *
  generalize hV1 : W2.alloc (.cells #[] 55) = V1 at *
  generalize hgb : w.heap.size = gb at *
  clear hW2 hV1
  go_loopg [12, 5] ms.length (fun g v12 v5 w' => ∃ (j : Nat) (P : Option Addr) (cP : Nat) (qs : List (List Int × Option Nat)), j + g = ms.length ∧ v12 = .int .i64 j ∧ v5 = .slice P j cP ∧ Below W2.heap.size W2 w' ∧ qs.map Prod.fst = (orbL p n xs ms).take j ∧ Apart qs ∧ (tagK kL).R 55 w' W2.heap.size (fun _ => True) (.slice P j cP) qs)
  case atStart => exact ⟨0, some ⟨gb + 1, 0, none⟩, 0, [], by omega, rfl, rfl, hb23, rfl, List.Pairwise.nil, by rw [hz2] at hR0 ⊢; exact hR0⟩
  case round =>
    clear hR0 hb23
    obtain ⟨j, P, cP, qs, hjk, rfl, rfl, hb, hqs, hap, hR⟩ := hrel
    have HAP := Lib.hid hap
    clear hap
    have HJK := Lib.hid hjk
    clear hjk
    by_cases hj : j < ms.length
    · obtain ⟨b, o, hA, q0, q1, q2, q3, q4, q5, q6, q7, q8⟩ := kM_at hC2 j hj
      subst hA
      have q0 := pw_cell_below hb q0
      have q1 := pw_cell_below hb q1
      have q2 := pw_cell_below hb q2
      have q3 := pw_cell_below hb q3
      have q4 := pw_cell_below hb q4
      have q5 := pw_cell_below hb q5
      have q6 := pw_cell_below hb q6
      have q7 := pw_cell_below hb q7
      have q8 := pw_cell_below hb q8
      have hj0 : (0 : Int) ≤ j := by omega
      have hj1 : (j : Int) < ms.length := by omega
      have hjn : ((j : Int)).toNat = j := by omega
      have HT := Lib.hid (orbL_take (p := p) (n := n) (xs := xs) hj)
      have hxl : qs.length = j := by rw [← List.length_map (f := Prod.fst), hqs, List.length_take, orbL_len]; omega
      have HQS := Lib.hid hqs
      clear hqs
      have htg := Lib.hid (tagL_mem hR)
      have HXL := Lib.hid hxl
      clear hxl
      have hmj := HMS.out j hj
      generalize ms.getD j zM = m at *
      generalize (orbL p n xs ms).take j = ls at *
      generalize hqe : qs = ys at *
      have hbm := below_alloc2 wr (.cells #[.int .u8 (m.r0.a.toNat : Int), .int .u8 (m.r0.b.toNat : Int), .int .u8 (m.r0.c.toNat : Int), .int .u8 (m.r1.a.toNat : Int), .int .u8 (m.r1.b.toNat : Int), .int .u8 (m.r1.c.toNat : Int), .int .u8 (m.r2.a.toNat : Int), .int .u8 (m.r2.b.toNat : Int), .int .u8 (m.r2.c.toNat : Int)] 41)
      have hb2 : Below W2.heap.size W2 (wr.alloc (.cells #[.int .u8 (m.r0.a.toNat : Int), .int .u8 (m.r0.b.toNat : Int), .int .u8 (m.r0.c.toNat : Int), .int .u8 (m.r1.a.toNat : Int), .int .u8 (m.r1.b.toNat : Int), .int .u8 (m.r1.c.toNat : Int), .int .u8 (m.r2.a.toNat : Int), .int .u8 (m.r2.b.toNat : Int), .int .u8 (m.r2.c.toNat : Int)] 41)) := hb.trans (hbm.mono hb.size)
      have hL := fun W (h : kI.C W B xs.length xs) => led_c (c := e) m h HXN.out hp hp' h1 h3 hmj HNU.out
      have g0' := pw_cell_below hb2 g0
      have g1' := pw_cell_below hb2 g1
      have hDm := Kd.C_below hD2 hb2
      have HR := Lib.hid (And.intro hR (And.intro hbm hb2))
      have hll := ledL_len p n xs m
      generalize ledL p n xs m = le at *
      have HLL := Lib.hid hll
      have hyl : ys.length ≤ 48 := by have := HXL.out; omega
      clear hR hbm hb2 hll
      go_wp2_with (first
        | (go_at_call 107; (with_reducible refine call_makes (hL _ hDm) ?_); intro w8 B8 c8 hb8 hl8 hR8 hC8; have hsm := HR.out.2.1.size; have hs2 := HR.out.2.2.size; have hs8 := hb8.size; have hbw8 : Below wr.heap.size wr w8.W := HR.out.2.1.trans (hb8.mono hsm))
        | ((with_reducible refine gate_ (.call { callee := .builtin .append, args := #[.tmp 16, .tmp 24], argTypes := #[22, 22] }) rfl ?_); have hM := Kd.M_row (num_apart (tag_R (Kd.R_below HR.out.1 hbw8)) (Kd.R_lower hR8 hs2)); have hMk := (fun (k : Nat) (hk : some k ≠ (Value.slice P j cP).ownBlock) => (⟨trivial, hk⟩ : True ∧ some k ≠ (Value.slice P j cP).ownBlock)); refine Kd.R_append (tagK kL) (w0 := w8.W) (W := w8.W) W2.heap.size rfl (.tmp 16) (.tmp 24) 22 55 (.slice none 0 0) 24 rfl Try.underlying22 infoL rfl (by decide) (by decide) (Value.slice P j cP) ys ((le, (Value.slice B8 le.length c8).ownBlock)) [.slice B8 le.length c8] (fun _ => True) (fun k => some k ≠ (Value.slice P j cP).ownBlock) rfl rfl ⟨hM, rfl⟩ hMk (fun _ _ => trivial) (Kd.R_below HR.out.1 hbw8) (Below.refl _ _) (by omega) (by (first | omega | (simp; omega))) ?_; intro v1 w1 hR1 hB1 hg1 _))
      go_roundg (gk - 1)
      case measure => have := HJK.out; omega
      case rel =>
        have hlen : (ys ++ [(le, (Value.slice B8 le.length c8).ownBlock)]).length = j + 1 := by rw [List.length_append, HXL.out]; rfl
        obtain ⟨P1, c1, hv1⟩ := Kd.R_slice hR1
        rw [hlen] at hv1
        subst hv1
        refine ⟨j + 1, P1, c1, _, by have := HJK.out; omega, by go_num, rfl, (HR.out.2.2.trans (hb8.mono hs2)).trans hB1, ?_, ?_, hR1⟩
        · rw [HT.out, List.map_append, HQS.out]
          rfl
        · refine apart_snoc HAP.out fun q hq => ?_
          cases hk : q.2 with
          | none => exact .inl rfl
          | some k =>
            refine .inr fun e => ?_
            have h1 := (htg.out q hq k hk).2.2
            have h2 := ((Kd.R_bound hR8).1 k e.symm).2.1
            have h3 := HR.out.2.1.size
            omega
    · have hje : ms.length = j := by have := HJK.out; omega
      subst hje
      rw [show (orbL p n xs ms).take ms.length = orbL p n xs ms by rw [← orbL_len p n xs ms, List.take_length]] at hqs
      have hxl : qs.length = ms.length := by rw [← List.length_map (f := Prod.fst), hqs, orbL_len]
      have hql : ∀ r ∈ qs, r.1.length ≤ 1000000 := fun r hr => by
        have h5 : r.1 ∈ orbL p n xs ms := by rw [← hqs]; exact List.mem_map_of_mem hr
        obtain ⟨m, _, e5⟩ := List.mem_map.1 h5
        rw [← e5, ledL_len]
        omega
      obtain ⟨g, cap, hv, hgb2, hgs2, _⟩ := Kd.R_form hR (by omega)
      injection hv with hv1 hv3 hv2
      subst hv1
      subst hv2
      have hsort := sort_o hR hql (by omega)
      have HQL := Lib.hid hql
      have HQS := Lib.hid hqs
      have HXL := Lib.hid hxl
      clear hql hqs hR hv3 hxl
      have HB := Lib.hid hb
      clear hb
      go_wp2_with (first | (go_at_call 90; refine hsort.mono ?_; rintro e w7 ⟨rfl, qs', hp1, hs1, hR7, hB7⟩; have hcomp := compact_t hR7 (fun r hr => HQL.out r (hp1.mem_iff.1 hr)) (by omega) (by omega)) | (go_at_call 109; refine hcomp.mono ?_; rintro e w8 ⟨rfl, hR8, hB8⟩))
      refine bodyPost_ret (v := .slice (some ⟨g, 0, none⟩) (compT qs').length cP) (by simp [results, Try.results77, go_sem]) rfl ⟨_, compT qs', rfl, compT_orbS hp1 HQS.out (hs1.imp fun h => by omega), apart_sub (apart_perm HAP.out hp1) (compT_sub _), Kd.R_lower hR8 (by omega), ?_⟩
      rw [hgb]
      exact hbW.trans (((HB.out.trans hB7).trans hB8).mono (by omega))
end Go.Proofs.Ytimjhehagimcaaa
