/- Rows of rows are sorted by their leads; no condition. -/
import Derived.Test.YtafdakamibpjaaaShelf
import Derived.Test.YtafdakamibpjaaaKitR
set_option linter.unusedVariables false
set_option linter.unusedSimpArgs false
namespace Go.Proofs.Ytafdakamibpjaaa
open Go.RowKit Go.Proofs.YtafdakamibpjaaaW.PrintWords
attribute [local go_sem] Later.cell Later.frozen Later.lt Later.lt_add Later.le Later.le_add Later.ne Later.ne' add_at

set_option maxRecDepth 100000 in
set_option maxHeartbeats 1000000 in
theorem indexFunc_s {w : World} {A : Option Addr} {n c : Nat} {r : List Int} (hC : kI.C w A n r) (hn : n ≤ 1000000) : Calls Try.prog 156 #[.slice A n c, .func (.func 157) #[] #[]] w (Same (.int .i64 (leadI r)) w) := by
  go_enter Try.func156, Try.ntmps156
  go_wp2
  go_loopg [8] n (fun k v w' => ∃ (i : Nat), i + k = n ∧ v = .int .i64 i ∧ w' = w ∧ ∀ j, j < i → r.getD j 0 = 0)
  case atStart => exact ⟨0, by omega, rfl, rfl, fun j hj => by omega⟩
  case round =>
    obtain ⟨i, hik, rfl, rfl, hs⟩ := hrel
    have HIK := Lib.hid hik
    have HS := Lib.hid hs
    clear hik hs
    by_cases hlt : i < n
    · obtain ⟨b, o, hA, q0⟩ := kI_at hC i hlt
      subst hA
      have hi0 : (0 : Int) ≤ i := by omega
      have hi1 : (i : Int) < n := by omega
      have hin : ((i : Int)).toNat = i := by omega
      have hlen := Lib.hid (Kd.C_len hC)
      by_cases hx : r.getD i 0 = 0
      · rw [hx] at q0
        have hlc := lead1_c 0
        have HX := Lib.hid hx
        clear hx
        go_wp2_with (go_at_call 157; (with_reducible refine call_same (hlc _) ?_))
        go_roundg (gk - 1)
        case measure => have := HIK.out; omega
        case rel =>
          refine ⟨i + 1, by have := HIK.out; omega, by go_num, rfl, fun j hj => ?_⟩
          by_cases h : j = i
          · rw [h]; exact HX.out
          · exact HS.out j (by omega)
      · have hl : leadI r = (i : Int) := by
          have := leadN_eq hx HS.out
          unfold leadI
          rw [this, if_pos (by rw [hlen.out]; exact hlt)]
        have hlc := lead1_c (r.getD i 0)
        have hne : (r.getD i 0 != 0) = true := by simpa using hx
        rw [hne] at hlc
        generalize r.getD i 0 = x at *
        go_wp2_with (go_at_call 157; (with_reducible refine call_same (hlc _) ?_))
        try rw [hl]
        exact bodyPost_ret (v := .int .i64 i) (by simp [results, Try.results156, go_sem]) rfl (.mk rfl)
    · have hie : i = n := by have := HIK.out; omega
      subst hie
      have hl : leadI r = -1 := by
        have hlen := Kd.C_len hC
        unfold leadI
        rw [if_neg]
        intro hc
        exact leadN_ne hc (HS.out _ (by omega))
      go_wp2
      try rw [hl]
      exact bodyPost_ret (v := .int .i64 (-1)) (by simp [results, Try.results156, go_sem]) rfl (.mk rfl)
theorem lead_s {w : World} {A : Option Addr} {n c : Nat} {r : List Int} (v : Int) (hC : kI.C w A n r) (hn : n ≤ 1000000) (hv : leadI r = v) : Calls Try.prog 137 #[.slice A n c] w (Same (.int .i64 v) w) := by
  subst hv
  go_enter Try.func137, Try.ntmps137
  go_wp2_with (go_at_call 156; (with_reducible refine call_same (indexFunc_s hC hn) ?_))
  exact bodyPost_ret (v := .int .i64 (leadI r)) (by simp [results, Try.results137, go_sem]) rfl (.mk rfl)
theorem leadI_bd (r : List Int) (h : r.length ≤ 1000000) : -1 ≤ leadI r ∧ leadI r ≤ 1000000 := by
  unfold leadI
  have := leadN_le r
  split <;> omega
set_option maxRecDepth 100000 in
theorem cmp_s {w : World} {A B : Option Addr} {n c m d : Nat} {r s : List Int} (hC : kI.C w A n r) (hn : n ≤ 1000000) (hD : kI.C w B m s) (hm : m ≤ 1000000) : Calls Try.prog 136 #[.slice A n c, .slice B m d] w (Same (.int .i64 (leadI r - leadI s)) w) := by
  have h1 := leadI_bd r (by rw [Kd.C_len hC]; exact hn)
  have h2 := leadI_bd s (by rw [Kd.C_len hD]; exact hm)
  have l1 := lead_s (c := c) (leadI r) hC hn rfl
  have l2 := lead_s (c := d) (leadI s) hD hm rfl
  generalize leadI r = x at *
  generalize leadI s = y at *
  go_enter Try.func136, Try.ntmps136
  go_wp2_with (first | (go_at_call 137; (with_reducible refine call_same l1 ?_)) | (go_at_call 137; (with_reducible refine call_same l2 ?_)))
  exact bodyPost_ret (v := .int .i64 (x - y)) (by simp [results, Try.results136, go_sem]) rfl (.mk rfl)

/-! ### the worlds of the sort -/
section
variable {α : Type} [Inhabited α] (enc : α → Value) (w : World) (g m : Nat) (d : Array α) (os : Array Obj)
theorem sort_other (k : Nat) (hk : k < w.heap.size) (hne : k ≠ g) : (Go.Proofs.sortWorld enc w g 0 m d os).heap[k]? = w.heap[k]? := by
  have hne' : ¬ g = k := fun h => hne h.symm
  show ((w.heap.modify g (Go.Sort.onCells (Go.Sort.putCells enc 0 d))) ++ os)[k]? = w.heap[k]?
  rw [Array.getElem?_append_left (by simpa using hk), Array.getElem?_modify, if_neg hne']
theorem sort_self {cur : Array Value} {e : TypeId} {fr : Nat × Nat} (h : w.heap[g]? = some (.cells cur e fr)) : (Go.Proofs.sortWorld enc w g 0 m d os).heap[g]? = some (.cells (Go.Sort.putCells enc 0 d cur) e fr) := by
  have hk : g < w.heap.size := (Array.getElem?_eq_some_iff.1 h).1
  show ((w.heap.modify g (Go.Sort.onCells (Go.Sort.putCells enc 0 d))) ++ os)[g]? = _
  rw [Array.getElem?_append_left (by simpa using hk), Array.getElem?_modify, if_pos rfl, h]
  rfl
end

/-! ### the elements: a header and the row that it reads -/
def Elt (w : World) (base g : Nat) : Type := { y : Value × List Int // kI.R 2 w base (fun k => k ≠ g) y.1 y.2 ∧ y.2.length ≤ 1000000 }
instance Elt.inst (w : World) (base g : Nat) : Inhabited (Elt w base g) := ⟨⟨(.slice none 0 0, []), Kd.R_nil _ _ _ _ _, by simp⟩⟩
def Elt.enc {w : World} {base g : Nat} (y : Elt w base g) : Value := y.1.1
def Elt.row {w : World} {base g : Nat} (y : Elt w base g) : List Int := y.1.2
def Elt.cf {w : World} {base g : Nat} (x y : Elt w base g) : Int := leadI x.row - leadI y.row
theorem elts_of {P : Value → List Int → Prop} : ∀ (inner : List Value) (out : List (List Int)), inner.length = out.length → (∀ (j : Nat) (p : List Int), out[j]? = some p → ∃ v, inner[j]? = some v ∧ P v p) → ∃ ds : List { y : Value × List Int // P y.1 y.2 }, ds.map (fun y => y.1.1) = inner ∧ ds.map (fun y => y.1.2) = out
  | [], [], _, _ => ⟨[], rfl, rfl⟩
  | v :: inner, r :: out, hl, h => by
    obtain ⟨ds, h1, h2⟩ := elts_of inner out (by simpa using hl) (fun j p hp => by simpa using h (j + 1) p (by simpa using hp))
    obtain ⟨v', hv, hP⟩ := h 0 r rfl
    obtain rfl : v = v' := by simpa using hv
    exact ⟨⟨(v, r), hP⟩ :: ds, by simp [h1], by simp [h2]⟩
  | [], _ :: _, hl, _ => by simp at hl
  | _ :: _, [], hl, _ => by simp at hl
theorem elt_cmp {w : World} {base g n : Nat} : Go.Proofs.CmpLays1 Try.prog 136 #[] (Elt.enc (w := w) (base := base) (g := g)) Elt.cf g 0 n w := by
  intro m os dk hs x y
  obtain ⟨⟨vx, rx⟩, hx, lx⟩ := x
  obtain ⟨⟨vy, ry⟩, hy, ly⟩ := y
  have hm : ∀ k, k ≠ g → k < w.heap.size → (Go.Proofs.sortWorld Elt.enc w g 0 m dk os).heap[k]? = w.heap[k]? := fun k hk hlt => sort_other _ _ _ _ _ _ k hlt hk
  have hx' := Kd.R_step hx hm
  have hy' := Kd.R_step hy hm
  obtain ⟨A, c, e1⟩ := Kd.R_slice hx'
  obtain ⟨B, d, e2⟩ := Kd.R_slice hy'
  have e1 : vx = .slice A rx.length c := e1
  have e2 : vy = .slice B ry.length d := e2
  subst e1
  subst e2
  refine (cmp_s (R_C hx') lx (R_C hy') ly).mono fun e w' ⟨h1, h2⟩ => ⟨h1, 0, #[], ?_⟩
  rw [h2]
  simp [World.drewN]
theorem elt_swo {w : World} {base g : Nat} : Go.Sort.SWO (Go.Proofs.ltOf (Elt.cf (w := w) (base := base) (g := g))) where
  irrefl x := decide_eq_false (by unfold Elt.cf; omega)
  trans x y z h1 h2 := by
    have h1 := of_decide_eq_true h1
    have h2 := of_decide_eq_true h2
    exact decide_eq_true (by unfold Elt.cf at *; omega)
  ntrans x y z h1 h2 := by
    have h1 := of_decide_eq_false h1
    have h2 := of_decide_eq_false h2
    exact decide_eq_false (by unfold Elt.cf at *; omega)

theorem put_take {α : Type} [Inhabited α] (enc : α → Value) (d : Array α) (cur : Array Value) (h : d.size ≤ cur.size) : (Go.Sort.putCells enc 0 d cur).toList.take d.size = d.toList.map enc := by
  refine List.ext_getElem (by simp [Go.Sort.putCells]; omega) fun i h1 h2 => ?_
  have hi : i < d.size := by simpa using h2
  simp [Go.Sort.putCells, hi]

set_option maxHeartbeats 1000000 in
theorem sort_rows {w : World} {base g n c : Nat} {out : List (List Int)} (hR : kL.R 75 w base (fun _ => True) (.slice (some ⟨g, 0, none⟩) n c) out) (hl : ∀ r ∈ out, r.length ≤ 1000000) (hn : n ≤ 1000000) :
    Calls Try.prog 135 #[.slice (some ⟨g, 0, none⟩) n c, .func (.func 136) #[] #[]] w (fun e w' => e = .returned (.tuple #[]) ∧ ∃ out' : List (List Int), out'.Perm out ∧ (∀ i j, i < j → j < out'.length → leadI (out'.getD i []) ≤ leadI (out'.getD j [])) ∧
      kL.R 75 w' base (fun _ => True) (.slice (some ⟨g, 0, none⟩) n c) out' ∧ Below base w w') := by
  obtain ⟨_, inner, hown, hreps⟩ := hR
  obtain ⟨hil, hbody⟩ := hown
  rcases hbody with ⟨hv, _⟩ | ⟨g', cap, cur, hv, hgb, hheap, hnc, hcm, hcs, htake⟩
  · cases hv
  injection hv with hv1 _ hv2
  simp only [Option.some.injEq, Addr.mk.injEq, and_true] at hv1
  obtain rfl := hv1
  subst hv2
  have hsz : kL.sz = 1 := rfl
  rw [hsz, Nat.mul_one] at hil hcs htake
  have hol : out.length = n := by
    have := hreps.1
    rw [hsz, Nat.mul_one] at this
    omega
  obtain ⟨ds, hd1, hd2⟩ : ∃ ds : List (Elt w base g), ds.map Elt.enc = inner ∧ ds.map Elt.row = out := elts_of (P := fun v r => kI.R 2 w base (fun k => k ≠ g) v r ∧ r.length ≤ 1000000) inner out (by omega) (fun j p hp => by
    have h1 := hreps.2 j p hp
    rw [hsz, Nat.mul_one] at h1
    obtain ⟨v, hv, hM⟩ := h1
    have hp' := List.getElem?_eq_some_iff.1 hp
    refine ⟨v, ?_, Kd.R_mono hM (fun k hk he => hk.2 (by rw [he]; rfl)), hl p (by rw [← hp'.2]; exact List.getElem_mem hp'.1)⟩
    have h2 : ((inner.drop j).take 1)[0]? = some v := by rw [hv]; rfl
    rw [List.getElem?_take_of_lt (by omega), List.getElem?_drop] at h2
    simpa using h2)
  have hdl : ds.length = n := by rw [← hol, ← hd2]; simp
  have hgs : g < w.heap.size := (Array.getElem?_eq_some_iff.1 hheap).1
  have hds : ds.toArray.size = n := by simpa using hdl
  have hH : Go.Sort.Holds (Elt.enc (w := w) (base := base) (g := g)) w g 0 ds.toArray := fun j hj => by
    have hj' : j < n := by rw [← hds]; exact hj
    refine ⟨?_, blk_frozen hheap _⟩
    rw [Nat.zero_add, blk_cell hheap]
    have h3 : inner[j]? = some (Elt.enc (ds.toArray[j]!)) := by
      rw [← hd1, List.getElem?_map]
      have : j < ds.length := by omega
      simp [this, Elt.enc]
    rw [← htake, List.getElem?_take_of_lt (by omega)] at h3
    simpa using h3
  have hcon := Try.slices_SortFunc (Elt.enc (w := w) (base := base) (g := g)) (fun x => by
    obtain ⟨⟨v, r⟩, hx, _⟩ := x
    obtain ⟨A, c, e⟩ := Kd.R_slice hx
    show Value.oneCell' v = true
    rw [show v = _ from e]
    rfl) Elt.cf elt_swo 136 #[] g 0 c ds.toArray w (enters_of Try.func136 (by kernel_rfl) rfl) elt_cmp hH hgs (by rw [hds]; omega)
  rw [hds] at hcon
  refine hcon.mono fun e w' ⟨he, d', m, os, hp, hs, hw⟩ => ⟨he, d'.toList.map Elt.row, ?_, ?_, ?_, ?_⟩
  · have h1 := hp.2.2
    have h2 := hp.1
    rw [hds] at h2
    have e1 : d'.extract 0 n = d' := by rw [← h2]; exact Array.extract_size
    have e2 : ds.toArray.extract 0 n = ds.toArray := by rw [← hds]; exact Array.extract_size
    rw [e1, e2] at h1
    have := h1.map Elt.row
    have e3 : ds.toArray.toList.map Elt.row = out := hd2
    rwa [e3] at this
  · intro i j hij hj
    have hj' : j < d'.size := by simpa using hj
    have h2 := hp.1
    rw [hds] at h2
    have := hs i j (Nat.zero_le _) hij (by omega)
    simp [Go.Proofs.ltOf, Elt.cf] at this
    have hi' : i < d'.size := by omega
    simp [List.getD_eq_getElem?_getD, hi', hj'] at this ⊢
    omega
  · subst hw
    have h2 := hp.1
    rw [hds] at h2
    have hm : ∀ k, k ≠ g → k < w.heap.size → (Go.Proofs.sortWorld Elt.enc w g 0 m d' os).heap[k]? = w.heap[k]? := fun k hk hlt => sort_other _ _ _ _ _ _ k hlt hk
    have hdl' : (d'.toList.map Elt.row).length = n := by simpa using h2
    rw [show Value.slice (some ⟨g, 0, none⟩) n c = Value.slice (some ⟨g, 0, none⟩) (d'.toList.map Elt.row).length c by rw [hdl']]
    refine ⟨fun _ _ => trivial, d'.toList.map Elt.enc, ⟨by simp [hsz], .inr ⟨g, c, _, rfl, hgb, sort_self _ _ _ _ _ _ hheap, by rw [hdl']; omega, hcm, by rw [hsz, Nat.mul_one]; simpa [Go.Sort.putCells] using hcs, ?_⟩⟩, ⟨by simp [hsz], fun j p hjp => ?_⟩⟩
    · rw [hsz, Nat.mul_one, hdl']
      have := put_take (Elt.enc (w := w) (base := base) (g := g)) d' cur (by omega)
      rwa [h2] at this
    · rw [hsz, Nat.mul_one]
      obtain ⟨hjl, hjp'⟩ := List.getElem?_eq_some_iff.1 hjp
      have hj' : j < d'.size := by simpa using hjl
      have he : ((d'.toList.map Elt.enc).drop j).take 1 = [Elt.enc d'[j]] := by
        rw [List.drop_eq_getElem_cons (by simpa using hj')]
        simp
      rw [he]
      have hr : p = Elt.row d'[j] := by rw [← hjp']; simp
      rw [hr]
      refine ⟨_, rfl, ?_⟩
      exact Kd.R_mono (Kd.R_step d'[j].2.1 hm) (fun k hk => ⟨trivial, fun h => hk (by simpa [Value.ownBlock] using h)⟩)
  · subst hw
    refine ⟨rfl, rfl, rfl, ?_, fun k hk => sort_other _ _ _ _ _ _ k (by omega) (by omega)⟩
    simp [Go.Proofs.sortWorld, Go.Sort.grow, Go.Sort.putRow, Go.Sort.mapBlock, Go.Sort.ahead]
end Go.Proofs.Ytafdakamibpjaaa
