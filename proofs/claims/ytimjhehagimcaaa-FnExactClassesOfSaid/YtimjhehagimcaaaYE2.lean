/- What later laws need beside the texts of the earlier ones; no condition. -/
import Derived.Test.YtimjhehagimcaaaYWWords
import Derived.Test.YtimjhehagimcaaaYWApart
import Derived.Test.YtimjhehagimcaaaYWMore
import Derived.Test.YtimjhehagimcaaaYAlgM
import Derived.Test.YtimjhehagimcaaaYKitR
import Derived.Test.YtimjhehagimcaaaYKitV
import Derived.Test.YtimjhehagimcaaaYE1
set_option linter.unusedVariables false
set_option linter.unusedSimpArgs false
namespace Go.Proofs.YtimjhehagimcaaaW.PrintWords
open Go.RowKit
theorem pw_below_grown {B : Nat} {w w1 : World} (h : Below B w w1) (row : Option Nat) (hB : B ≤ w1.heap.size) {w2 : World} (hg : w1.grownBy w2 row) (hr : ∀ k, row = some k → B ≤ k) : Below B w w2 := h.grown hg hB hr
section
variable {P : Program} {ops : Array Oper} {rest : List Oper} {o : Oper} {a : Act} {Q : Exit → Act → World → Prop}
end
section
variable {P : Program}
end
section
variable {P : Program} {ops : Array Oper} {rest : List Oper} {o : Oper} {a : Act} {Q : Exit → Act → World → Prop}
end
section
variable {P : Program} {ops : Array Oper} {rest : List Oper} {o : Oper} {a : Act} {Q : Exit → Act → World → Prop}
end
section
variable {P : Program} {ops : Array Oper} {o : Oper} {a : Act} {Q : Exit → Act → World → Prop} {K : Act → World → Prop}
end
section
variable {α : Type} {enc : α → Value} {d : α}
theorem print_make_of {P : Program} (t e : TypeId) (z : Value) (bytes : Nat) (ht : P.underlying t = some (.slice e)) (hinfo : (P.info? e).map (fun i => (i.zero, i.size, i.bytes)) = some (some z, 1, bytes)) (hz : z.cells = #[z]) (hb0 : 0 < bytes)
    (m : Nat) (hn : m * bytes ≤ 281474976710656) :
    ∀ W : World, (Instr.makeSlice t (.int .i64 (m : Int)) (.int .i64 (m : Int))).run P W = .ok (.slice (some ⟨W.heap.size, 0, none⟩) m m) (W.alloc (.cells (madeCells #[z] m) e)) := by
  intro W
  have hm : m ≤ 281474976710656 := Nat.le_trans (Nat.le_mul_of_pos_right _ hb0) hn
  exact run_make_row' t e z bytes ht hinfo hz .i64 .i64 m (by rw [Nat.mul_comm]; exact hn) (by omega) W
theorem own_made_of (W : World) (base : Nat) (e : TypeId) (m : Nat) (hb : base ≤ W.heap.size) (hm : m ≤ 9223372036854775807) :
    (W.alloc (.cells (madeCells #[enc d] m) e)).ownsRow base e 1 (.slice (some ⟨W.heap.size, 0, none⟩) m m) m (encs enc (List.replicate m d)) := by
  have h := World.ownsRow_lit (base := base) (e := e) (size := 1) W (madeCells #[enc d] m) m hb (by simpa [maxLen] using hm) (by simp [size_madeCells])
  have hl : (madeCells #[enc d] m).toList = encs enc (List.replicate m d) := by
    apply List.ext_getElem
    · simp [encs, madeCells]
    · intro i h1 h2
      simp [encs, madeCells, Nat.mod_one]
  rwa [hl] at h
end
section
variable {α : Type} {P : Program} {ops : Array Oper} {rest : List Oper} {o : Oper} {a : Act} {Q : Exit → Act → World → Prop}
end
section
variable {P : Program}
end
section
variable {α : Type} {R R' : α → List Value → Prop} {e : TypeId} {size : Nat} {w w1 : World} {base : Nat} {v : Value} {ps : List α}
theorem OwnRow.ne_block (h : OwnRow R e size w base v ps) {g : Nat} {t : TypeId} {cells : Array Value} (hb : w.heap[g]? = some (.cells cells t (0, 0))) (ht : e ≠ t) : some g ≠ v.ownBlock := by
  obtain ⟨inner, ho, hr⟩ := h
  exact own_ne ho hb ht
end
section
variable {P : Program} {ops : Array Oper} {rest : List Oper} {o : Oper} {a : Act} {Q : Exit → Act → World → Prop} {α : Type} {R : α → List Value → Prop}
end
section
variable {P : Program} {ops : Array Oper} {o : Oper} {a : Act} {Q : Exit → Act → World → Prop} {K : Act → World → Prop} {α : Type} {R : α → List Value → Prop}
end
section
variable {α : Type} {P : Program}
end
section
variable {P : Program} {ops : Array Oper} {rest : List Oper} {o : Oper} {a : Act} {Q : Exit → Act → World → Prop}
end
namespace Kd
section
variable {α : Type} {d : Kd α} {e : Nat} {w w1 : World} {base : Nat} {ok ok' : Nat → Prop} {v : Value} {xs : List α}
/-- By types alone: the rows inside are none of a block of type t. -/
theorem R_types (h : d.R e w base ok v xs) {g t : Nat} {cells : Array Value} (hb : w.heap[g]? = some (.cells cells t (0, 0))) (ht : ∀ q, q ∈ e :: d.E → q ≠ t) : d.R e w base (fun k => ok k ∧ k ≠ g) v xs :=
  R_mono (R_bound h) (fun k hk => ⟨hk.1, by
    obtain ⟨_, _, _, q, hq, cells', hc⟩ := hk
    rintro rfl
    rw [hc] at hb
    injection hb with hb
    injection hb with _ hb
    exact ht q hq hb⟩)
theorem R_ne (h : d.R e w base ok v xs) {g t : Nat} {cells : Array Value} (hb : w.heap[g]? = some (.cells cells t (0, 0))) (ht : e ≠ t) : some g ≠ v.ownBlock := OwnRow.ne_block h.2 hb ht
end
section
variable {P : Program} {ops : Array Oper} {rest : List Oper} {o : Oper} {a : Act} {Q : Exit → Act → World → Prop} {α : Type}
end
section
variable {P : Program} {ops : Array Oper} {o : Oper} {a : Act} {Q : Exit → Act → World → Prop} {Kc : Act → World → Prop} {α : Type}
end
end Kd
namespace Kd
section
variable {α : Type} {F : Kd α → Kd α} {sz : Nat} {E : List Nat} {hs : ∀ n, (upto F sz E n).sz = sz} {hE : ∀ n q, q ∈ (upto F sz E n).E → q ∈ E}
end
end Kd
namespace Kd
end Kd
namespace Kd
section
variable {α β : Type} {d : Kd α} {d' : Kd β} {e e' : Nat} {w w1 W : World} {base b b' : Nat} {ok ok' okv oku : Nat → Prop} {v u : Value} {xs : List α} {ys : List β}
end
section
variable {w W : World} {A : Option Addr} {n : Nat}
variable {α : Type} {enc : α → Value} {h1 : ∀ x, (enc x).oneCell' = true} {e base g cap : Nat} {ok : Nat → Prop} {xs : List α}
end
section
variable {P : Program} {ops : Array Oper} {rest : List Oper} {o : Oper} {a : Act} {Q : Exit → Act → World → Prop}
variable {α : Type}
end
end Kd
section
variable {P : Program}
end
section
variable {w w1 : World} {base n size : Nat} {e : TypeId} {v : Value} {xs : List Value}
end
section
variable {P : Program}
end
namespace Kd
section
variable {α : Type} {d : Kd α} {e : Nat} {w w1 W : World} {base : Nat} {ok ok' : Nat → Prop} {v : Value} {xs : List α}
end
section
variable {P : Program} {ops : Array Oper} {rest : List Oper} {o : Oper} {a : Act} {Q' : Exit → Act → World → Prop} {Kc : Act → World → Prop} {α : Type}
end
end Kd
namespace Kd
section
variable {α : Type} {d : Kd α} {e e' : Nat} {w w1 W : World} {base : Nat} {ok : Nat → Prop} {u v : Value} {xs : List α}
theorem R_typed (h : d.R e w base ok v xs) : ∀ k, v.ownBlock = some k → ∃ cells, w.heap[k]? = some (.cells cells e (0, 0)) := by
  obtain ⟨inner, ho⟩ := R_own h
  exact fun k hk => own_typed ho k hk
end
end Kd
namespace Kd
section
variable {α : Type} {d : Kd α} {e base g n cap : Nat} {ok okp : Nat → Prop} {W : World} {xs : List α}
end
end Kd
namespace Kd
section
variable {α : Type} {F : Kd α → Kd α} {sz : Nat} {E : List Nat} {hs : ∀ n, (upto F sz E n).sz = sz} {hE : ∀ n q, q ∈ (upto F sz E n).E → q ∈ E}
end
end Kd
namespace Kd
section
variable {P : Program} {ops : Array Oper} {rest : List Oper} {o : Oper} {a : Act} {Q : Exit → Act → World → Prop} {α : Type}
end
end Kd
namespace Kd
section
variable {P : Program} {ops : Array Oper} {rest : List Oper} {o : Oper} {a : Act} {Q : Exit → Act → World → Prop} {α : Type}
end
end Kd
namespace Kd
section
variable {α : Type} {k : Kd α} {w : World} {A : Option Addr} {xs : List α} {m c : Nat}
end
end Kd
section
variable {P : Program}
end
namespace Kd
section
variable {α β : Type} {d : Kd α} {d' : Kd β} {e e' base base' n : Nat} {ok ok' : Nat → Prop} {w W w1 W1 : World} {v u : Value} {xs : List α} {ys : List β} {A : Option Addr} {c : Nat}
end
section
variable {α : Type} {enc : α → Value} {h1 : ∀ x, (enc x).oneCell' = true} {w W : World} {A : Option Addr} {n g : Nat} {xs : List α}
end
end Kd
namespace Kd
section
variable {α : Type} {d : Kd α} {e base g : Nat} {ok : Nat → Prop} {w w1 : World} {v : Value} {xs : List α} {o : Obj}
end
end Kd
section
variable {P : Program} {ops : Array Oper} {rest : List Oper} {o : Oper} {a : Act} {Q : Exit → Act → World → Prop}
end
namespace Kd
section
variable {α : Type} {enc : α → Value} {h1 : ∀ x, (enc x).oneCell' = true} {e base g n cap : Nat} {ok : Nat → Prop} {W : World} {xs : List α}
end
end Kd
section
variable {P : Program} {ops : Array Oper} {rest : List Oper} {o : Oper} {a : Act} {Q : Exit → Act → World → Prop}
end
namespace Kd
section
variable {α : Type} {enc : α → Value} {h1 : ∀ x, (enc x).oneCell' = true} {e base g n cap : Nat} {ok : Nat → Prop} {W : World} {xs : List α}
end
end Kd
section
variable {P : Program} {ops : Array Oper} {rest : List Oper} {o : Oper} {a : Act} {Q : Exit → Act → World → Prop} {W : World}
end
section
variable {P : Program} {ops : Array Oper} {o : Oper} {a : Act} {Q : Exit → Act → World → Prop} {Kc : Act → World → Prop}
namespace Kd
variable {α : Type}
end Kd
end
section
variable {P : Program} {tmps : Array Value} {w : World}
end
namespace Kd
section
variable {P : Program} {α : Type}
end
section
variable {P : Program} {ops : Array Oper} {rest : List Oper} {o : Oper} {a : Act} {Q : Exit → Act → World → Prop} {Kc : Act → World → Prop} {α : Type}
end
end Kd
end Go.Proofs.YtimjhehagimcaaaW.PrintWords

namespace Go.Proofs.YtimjhehagimcaaaW.PrintWords
open Go.RowKit
namespace Kd
section
variable {α β : Type} {d : Kd α} {d' : Kd β} {e e' : Nat} {w w1 W : World} {base b : Nat} {ok ok' okv oku : Nat → Prop} {u v : Value} {xs : List α} {ys : List β}
/-- A row whose elements lead to nothing: its blocks are its own one. -/
theorem R_tight (hE : d.E = []) (h : d.R e w base ok v xs) : d.R e w base (fun k => some k = v.ownBlock) v xs := by
  obtain ⟨h0, inner, ho, hr⟩ := h
  refine ⟨fun k hk => hk.symm, inner, ho, hr.imp_ (fun p c hp => d.M_mono (fun k hk => ?_) (d.M_bound hp))⟩
  obtain ⟨_, _, _, q, hq, _⟩ := hk
  rw [hE] at hq
  cases hq
end
section
variable {α β : Type} {d : Kd α} {d' : Kd β} {e e' g : Nat} {w w1 W : World} {base b : Nat} {ok ok' okv oku : Nat → Prop} {u v : Value} {xs : List α} {ys : List β}
end
section
variable {P : Program} {ops : Array Oper} {rest : List Oper} {o : Oper} {a : Act} {Q : Exit → Act → World → Prop} {Kc : Act → World → Prop} {α : Type}
end
section
variable {α β : Type} {d : Kd α} {e e' g n cap : Nat} {w w1 W : World} {base : Nat} {ok ok' oki okp : Nat → Prop} {u v : Value} {xs : List α} {i : Int} {c : List Value}
end
section
variable {P : Program} {ops : Array Oper} {rest : List Oper} {o : Oper} {a : Act} {Q : Exit → Act → World → Prop} {α : Type}
end
end Kd
end Go.Proofs.YtimjhehagimcaaaW.PrintWords

namespace Go.Proofs.YtimjhehagimcaaaW.PrintMore
open Go.RowKit Go.Proofs.YtimjhehagimcaaaW.PrintWords
namespace Kd
open Go.Proofs.YtimjhehagimcaaaW.PrintWords.Kd
end Kd
namespace Kd
open Go.Proofs.YtimjhehagimcaaaW.PrintWords.Kd
section
variable {α : Type} {d : Kd α} {e base g N : Nat} {ok : Nat → Prop} {W w1 : World} {u v : Value} {xs : List α}
end
end Kd
end Go.Proofs.YtimjhehagimcaaaW.PrintMore
namespace Go.Proofs.YtimjhehagimcaaaW.PrintWords
open Go.RowKit
section
variable {P : Program} {ops : Array Oper} {rest : List Oper} {o : Oper} {a : Act} {Q : Exit → Act → World → Prop} {W : World}
end
namespace Kd
section
variable {α : Type} {d : Kd α} {e base : Nat} {ok : Nat → Prop} {W w1 : World} {v : Value} {xs : List α}
end
section
variable {α : Type} {d : Kd α} {e base g n cap : Nat} {ok oki okp : Nat → Prop} {W : World} {xs : List α} {i : Int} {c : List Value}
end
section
variable {α : Type} {d : Kd α} {e base b b' g N : Nat} {ok ok1 : Nat → Prop} {W W2 w1 : World} {u v : Value} {xs ys : List α} {S : Nat → Prop}
theorem R_reok (hE : d.E = []) (h : d.R e W base ok1 v xs) (hok : ∀ k, v.ownBlock = some k → ok k) : d.R e W base ok v xs := R_mono (R_tight hE h) (fun k hk => hok k hk.symm)
end
end Kd
end Go.Proofs.YtimjhehagimcaaaW.PrintWords
namespace Go.Proofs.YtimjhehagimcaaaW.PrintWords
open Go.RowKit
namespace Kd
section
variable {α β : Type} {d : Kd α} {e base base' n m c g N' lo hi : Nat} {ok ok' S : Nat → Prop} {w W w1 : World} {A : Option Addr} {ad : Addr} {u v v1 : Value} {xs : List α}
end
end Kd
end Go.Proofs.YtimjhehagimcaaaW.PrintWords

namespace Go.Proofs.Ytimjhehagimcaaa
theorem qsum_eq {F G : Nat → Int} : ∀ n, (∀ k, k < n → F k = G k) → sumZ F n = sumZ G n
  | 0, _ => rfl
  | n + 1, h => by
    show sumZ F n + F n = sumZ G n + G n
    rw [qsum_eq n (fun k hk => h k (by omega)), h n (by omega)]
theorem qsum_scale (c : Int) (F : Nat → Int) : ∀ n, c * sumZ F n = sumZ (fun k => c * F k) n
  | 0 => by simp [sumZ]
  | n + 1 => by
    show c * (sumZ F n + F n) = sumZ (fun k => c * F k) n + c * F n
    rw [← qsum_scale c F n, Int.mul_add]
theorem qsum_scaleR (c : Int) (F : Nat → Int) : ∀ n, sumZ F n * c = sumZ (fun k => F k * c) n
  | 0 => by simp [sumZ]
  | n + 1 => by
    show (sumZ F n + F n) * c = sumZ (fun k => F k * c) n + F n * c
    rw [← qsum_scaleR c F n, Int.add_mul]
theorem qsum_add (F G : Nat → Int) : ∀ n, sumZ (fun k => F k + G k) n = sumZ F n + sumZ G n
  | 0 => by simp [sumZ]
  | n + 1 => by
    show sumZ (fun k => F k + G k) n + (F n + G n) = (sumZ F n + F n) + (sumZ G n + G n)
    rw [qsum_add F G n]
    omega
theorem qsum_zero : ∀ n, sumZ (fun _ => 0) n = 0
  | 0 => rfl
  | n + 1 => by show sumZ (fun _ => 0) n + 0 = 0; rw [qsum_zero n]; rfl
theorem qsum_swap (F : Nat → Nat → Int) (m : Nat) : ∀ n, sumZ (fun i => sumZ (fun l => F i l) m) n = sumZ (fun l => sumZ (fun i => F i l) n) m
  | 0 => by
    show (0 : Int) = sumZ (fun l => 0) m
    rw [qsum_zero]
  | n + 1 => by
    show sumZ (fun i => sumZ (fun l => F i l) m) n + sumZ (fun l => F n l) m = sumZ (fun l => sumZ (fun i => F i l) n + F n l) m
    rw [qsum_swap F m n, ← qsum_add]
theorem qsum_pick {f : Nat → Int} {j : Nat} : ∀ n, (∀ k, k < n → k ≠ j → f k = 0) → sumZ f n = if j < n then f j else 0
  | 0, _ => rfl
  | n + 1, h => by
    show sumZ f n + f n = _
    rw [qsum_pick n fun k hk => h k (by omega)]
    by_cases e : n = j
    · subst e
      rw [if_neg (by omega), if_pos (by omega)]
      omega
    · rw [h n (by omega) e]
      by_cases e2 : j < n
      · rw [if_pos e2, if_pos (by omega)]; omega
      · rw [if_neg e2, if_neg (by omega)]; rfl
theorem timesM_assoc {p : Int} (hp : 2 ≤ p) (hp' : p ≤ 13) {n : Nat} (hn : n ≤ 3) (a b c : M9) : timesM p n (timesM p n a b) c = timesM p n a (timesM p n b c) := by
  refine M9_ext fun i j hi hj => ?_
  rw [num_times hp hp' n _ _ hi hj, num_times hp hp' n _ _ hi hj]
  by_cases h : i < n ∧ j < n
  · rw [if_pos h, if_pos h]
    have e1 : sumZ (fun k => (timesM p n a b).num i k * c.num k j) n % p = sumZ (fun k => sumZ (fun l => a.num i l * b.num l k * c.num k j) n) n % p := qsum_cong n fun k hk => by
      rw [num_times hp hp' n _ _ hi (by omega), if_pos ⟨h.1, hk⟩, emod_mulL, qsum_scaleR]
    have e2 : sumZ (fun k => a.num i k * (timesM p n b c).num k j) n % p = sumZ (fun k => sumZ (fun l => a.num i k * b.num k l * c.num l j) n) n % p := qsum_cong n fun k hk => by
      rw [num_times hp hp' n _ _ (by omega) hj, if_pos ⟨hk, h.2⟩, emod_mulR, qsum_scale]
      congr 1
      exact qsum_eq n fun l hl => (Int.mul_assoc _ _ _).symm
    rw [e1, e2, qsum_swap]
  · rw [if_neg h, if_neg h]
theorem times_unit {p n : Int} {g : M9} (hg : matB p n g = true) : timesM p n.toNat g (unitM n) = g := by
  obtain ⟨hle, hp, hp', hn1, hn3⟩ := matB_le hg
  refine M9_ext fun i j hi hj => ?_
  rw [num_times hp hp' _ _ _ hi hj]
  by_cases h : i < n.toNat ∧ j < n.toNat
  · rw [if_pos h, qsum_pick (j := j) n.toNat (fun k hk hne => by rw [unit_num (by omega) hj, if_neg (fun hh => hne hh.1)]; exact Int.mul_zero _), if_pos h.2, unit_num hj hj, if_pos ⟨rfl, by omega⟩, Int.mul_one]
    exact Int.emod_eq_of_lt (num_ok hle i j).1 (num_ok hle i j).2
  · rw [if_neg h]
    exact (matB_zero hg i j hi hj (by omega)).symm
theorem detZ_mul {n : Nat} (hn : n = 1 ∨ n = 2 ∨ n = 3) (A B : Nat → Nat → Int) : detZ n (fun i j => sumZ (fun k => A i k * B k j) n) = detZ n A * detZ n B := by
  rcases hn with rfl | rfl | rfl
  · simp [detZ, sumZ]
  · simp [detZ, sumZ]; grind
  · simp only [detZ, sumZ, Int.zero_add]
    simp only [show (3 : Nat) ≠ 2 from by decide, if_false, if_true]
    rw [det3_mul]
theorem detZ_times {p : Int} (hp : 2 ≤ p) (hp' : p ≤ 13) {n : Nat} (hn : n = 1 ∨ n = 2 ∨ n = 3) (g h : M9) : detZ n (timesM p n g h).num % p = detZ n g.num * detZ n h.num % p := by
  rw [← detZ_mul hn]
  refine detZ_cong hn fun i j hi hj => ?_
  rw [num_times hp hp' n g h (by omega) (by omega), if_pos ⟨hi, hj⟩, Int.emod_emod]
theorem matB_times {p n : Int} {g h : M9} (hg : matB p n g = true) (hh : matB p n h = true) : matB p n (timesM p n.toNat g h) = true := by
  obtain ⟨hle, hp, hp', hn1, hn3⟩ := matB_le hg
  obtain ⟨k1, k2, _, k4⟩ := matB_of hg
  obtain ⟨_, _, _, k5⟩ := matB_of hh
  refine matB_mk k1 k2 (fun i j hi hj => ?_) ?_
  · rw [num_times hp hp' _ _ _ hi hj]
    split
    · exact ⟨Int.emod_lt_of_pos _ (by omega), fun hk => by omega⟩
    · exact ⟨by omega, fun _ => rfl⟩
  · rw [detZ_times hp hp' (nat3 hn1 hn3)]
    intro hz
    rcases prime_mul (primeZ_of k1) hz with e | e
    · exact k4 e
    · exact k5 e
theorem inv_cell {p n : Int} {m : M9} (hm : matB p n m = true) (i j : Nat) : 0 ≤ ((invRows p n.toNat m.num).getD i []).getD j 0 ∧ ((invRows p n.toNat m.num).getD i []).getD j 0 < p := by
  obtain ⟨h1, h2, h3, h4, h5⟩ := matB_le hm
  obtain ⟨k1, _, _, _⟩ := matB_of hm
  have hr := inv_red (primeZ_of k1) (n := n.toNat) (num_ok h1)
  by_cases hi : i < (invRows p n.toNat m.num).length
  · exact (hr.led _ (getD_mem [] hi)).ok.nums j
  · have e : (invRows p n.toNat m.num).getD i [] = [] := by rw [List.getD_eq_getElem?_getD, List.getElem?_eq_none (by omega)]; rfl
    rw [e]
    show 0 ≤ (0 : Int) ∧ (0 : Int) < p
    omega
theorem inv_num {p n : Int} {m : M9} (hm : matB p n m = true) {i j : Nat} (hi : i < 3) (hj : j < 3) : (invM p n.toNat m.num).num i j = if i < n.toNat ∧ j < n.toNat then ((invRows p n.toNat m.num).getD i []).getD (n.toNat + j) 0 else 0 := by
  obtain ⟨h1, h2, h3, h4, h5⟩ := matB_le hm
  unfold invM
  rw [mkM_num _ hi hj]
  split
  · rw [uB_nat]
    have := inv_cell hm i (n.toNat + j)
    omega
  · rfl
theorem inv_times {p n : Int} {m : M9} (hm : matB p n m = true) : timesM p n.toNat (invM p n.toNat m.num) m = unitM n := by
  obtain ⟨h1, h2, h3, h4, h5⟩ := matB_le hm
  obtain ⟨k1, _, _, k4⟩ := matB_of hm
  refine M9_ext fun i j hi hj => ?_
  rw [num_times h2 h3 _ _ _ hi hj, unit_num hi hj]
  by_cases h : i < n.toNat ∧ j < n.toNat
  · rw [if_pos h]
    have hd := inv_unit (primeZ_of k1) (num_ok h1) ((inv_det (primeZ_of k1) (nat3 h4 h5) (num_ok h1)).2 k4) i j h.1 h.2
    have e : sumZ (fun k => (invM p n.toNat m.num).num i k * m.num k j) n.toNat = sumZ (fun k => ((invRows p n.toNat m.num).getD i []).getD (n.toNat + k) 0 * m.num k j) n.toNat := qsum_eq _ fun k hk => by
      rw [inv_num hm hi (by omega), if_pos ⟨h.1, hk⟩]
    rw [e]
    have h6 := Int.emod_emod_of_dvd
    have h7 := (Int.emod_emod_of_dvd 0 (Int.dvd_refl p))
    have h8 : (if i = j then (1 : Int) else 0) % p = sumZ (fun k => ((invRows p n.toNat m.num).getD i []).getD (n.toNat + k) 0 * m.num k j) n.toNat % p := Int.emod_eq_emod_iff_emod_sub_eq_zero.2 (Int.emod_eq_zero_of_dvd hd)
    rw [← h8]
    by_cases e : i = j
    · rw [if_pos e, if_pos ⟨e, by omega⟩]
      exact Int.emod_eq_of_lt (by decide) (by omega)
    · rw [if_neg e, if_neg (fun hh => e hh.1)]
      exact Int.zero_emod p
  · rw [if_neg h, if_neg (fun hh => h ⟨by omega, by omega⟩)]
theorem inv_mat {p n : Int} {m : M9} (hm : matB p n m = true) : matB p n (invM p n.toNat m.num) = true := by
  obtain ⟨h1, h2, h3, h4, h5⟩ := matB_le hm
  obtain ⟨k1, k2, _, k4⟩ := matB_of hm
  refine matB_mk k1 k2 (fun i j hi hj => ?_) fun hz => ?_
  · rw [inv_num hm hi hj]
    split
    · exact ⟨(inv_cell hm i _).2, fun hk => by omega⟩
    · exact ⟨by omega, fun _ => rfl⟩
  · have hd := detZ_times h2 h3 (nat3 h4 h5) (invM p n.toNat m.num) m
    rw [inv_times hm, detZ_unit h4 h5, Int.mul_emod, hz, Int.zero_mul, Int.zero_emod, Int.emod_eq_of_lt (by decide) (by omega)] at hd
    exact absurd hd (by decide)
theorem times_inv {p n : Int} {m : M9} (hm : matB p n m = true) : timesM p n.toNat m (invM p n.toNat m.num) = unitM n := by
  obtain ⟨h1, h2, h3, h4, h5⟩ := matB_le hm
  have hi := inv_mat hm
  have e := inv_times hi
  have a := timesM_assoc h2 h3 (n := n.toNat) (by omega) (invM p n.toNat (invM p n.toNat m.num).num) (invM p n.toNat m.num) m
  rw [inv_times hm, e, unit_times hm, times_unit (inv_mat hi)] at a
  rw [← a] at e
  exact e
/-- What a matrix takes to the unit is its inverse. -/
theorem inv_uniq {p n : Int} {m x : M9} (hm : matB p n m = true) (hx : matB p n x = true) (h : timesM p n.toNat m x = unitM n) : x = invM p n.toNat m.num := by
  obtain ⟨h1, h2, h3, h4, h5⟩ := matB_le hm
  have a := timesM_assoc h2 h3 (n := n.toNat) (by omega) (invM p n.toNat m.num) m x
  rw [inv_times hm, unit_times hx, h, times_unit (inv_mat hm)] at a
  exact a
end Go.Proofs.Ytimjhehagimcaaa

namespace Go.Proofs.Ytimjhehagimcaaa
open Go.RowKit Go.Proofs.YtimjhehagimcaaaW.PrintWords
attribute [local go_sem] Later.cell Later.frozen Later.lt Later.lt_add Later.le Later.le_add Later.ne Later.ne' add_at
end Go.Proofs.Ytimjhehagimcaaa
namespace Go.Proofs.Ytimjhehagimcaaa
open Go.RowKit Go.Proofs.YtimjhehagimcaaaW.PrintWords
attribute [local go_sem] Later.cell Later.frozen Later.lt Later.lt_add Later.le Later.le_add Later.ne Later.ne' add_at
attribute [local go_sem 2000] eqNilS
end Go.Proofs.Ytimjhehagimcaaa
namespace Go.Proofs.Ytimjhehagimcaaa
open Go.RowKit Go.Proofs.YtimjhehagimcaaaW.PrintWords
attribute [local go_sem] Later.cell Later.frozen Later.lt Later.lt_add Later.le Later.le_add Later.ne Later.ne' add_at
theorem mixm_len {f : List Int → List Int} {out : List (List Int)} (j : Nat) : ((out.take j).map f ++ out.drop j).length = out.length := by
  simp
  omega
set_option maxRecDepth 100000 in
set_option maxHeartbeats 4000000 in
theorem take_i {p : Int} {L : Nat} (hp : primeZ p) (hL : L ≤ 100000) {out : List (List Int)} (hn : out.length ≤ 100000) (hl : ∀ r ∈ out, Led p L r) {row : List Int} (hr : RowOk p L row) {A B : Option Addr} {n m c d base : Nat} {w : World} (hbase : base ≤ w.heap.size) (hR : kL.R 55 w base (fun _ => True) (.slice A n c) out) (hD : kI.C w B m row) :
    Calls Try.prog 89 #[.int .i64 p, .slice A n c, .slice B m d] w (fun e w' => ∃ v, e = .returned v ∧ kL.R 55 w' base (fun _ => True) v (takeL p out row) ∧ Below base w w') := by
  obtain ⟨hp2, hp13⟩ := hp.two
  have hC := R_C hR
  obtain rfl := Kd.C_len hC
  have hle := less_i (c := c) (d := d) hp2 hp13 hL hn hl hr hC hD
  have hokr := restL_ok (L := L) (p := p) (by omega) out row hr (fun r hr => (hl r hr).ok)
  have hTK0 : Hid (takeL p out row = if leadN (restL p out row) < (restL p out row).length then out.map (cutRow p (ownL p (restL p out row))) ++ [ownL p (restL p out row)] else out) := Lib.hid rfl
  by_cases hlead : leadN (restL p out row) < L
  · have hld : leadI (restL p out row) = (leadN (restL p out row) : Int) := by unfold leadI; rw [if_pos (by rw [hokr.len]; exact hlead)]
    have hTK := Lib.hid (hTK0.out.trans (if_pos (by rw [hokr.len]; exact hlead)))
    clear hTK0
    obtain ⟨hled, hlw⟩ := ownL_led hp hokr hlead
    have hv := hokr.nums (leadN (restL p out row))
    have hv1 := leadN_ne (r := restL p out row) (by rw [hokr.len]; exact hlead)
    have hir := invZ_range hp (x := (restL p out row).getD (leadN (restL p out row)) 0) (by omega) hv.2
    unfold ownL at hled hlw hTK
    generalize restL p out row = own at *
    generalize ha : leadN own = a at *
    have HOWN := Lib.hid (show own.length = L from hokr.len)
    have hown1 : own.length ≤ 100000 := by rw [HOWN.out]; exact hL
    have ha0 : (0 : Int) ≤ a := by omega
    have ha1 : (a : Int) < own.length := by have := HOWN.out; omega
    have ha2 : ((a : Int)).toNat = a := by omega
    have hlt0 : decide ((a : Int) < 0) = false := by simp
    have hig := fun W => inverse_i hp (x := own.getD a 0) (by omega) hv.2 W
    generalize hx0 : own.getD a 0 = x0 at *
    have HX0 := Lib.hid hx0
    clear hx0
    generalize invZ p x0 = iv at *
    go_enter Try.func89, Try.ntmps89
    go_wp2_with (first | (go_at_call 118; (with_reducible refine call_makes hle ?_); intro x1 A1 c1 hb1 hl1 hR1 hC1; obtain ⟨g, cap, hg, hgb, hgs, _⟩ := Kd.R_form hR1 (by have := HOWN.out; omega); injection hg with hg1 _ hg2; subst hg1; subst hg2; obtain ⟨e0, e1⟩ := kI_cell hR1 a (by omega); rw [HX0.out] at e0) | (go_at_call 92; (with_reducible refine call_later3 (lead_i (a : Int) hC1 (by omega) hld) ?_); intro x2 hb2; have e0 := pw_cell_below hb2 e0) | (go_at_call 119; (with_reducible refine call_later3 (hig _) ?_); intro x3 hb3))
    have hR3 := Kd.R_below (Kd.R_below hR1 hb2) hb3
    clear hb1 hb2 hb3 e0 e1 hR1 hC1 hle hig hld hlt0 hv hv1
    go_loopg [29] own.length (fun k v w' => ∃ (j : Nat) (z : Later w), j + k = own.length ∧ v = .int .i64 j ∧ w' = z.W ∧ kI.R 2 z.W w.heap.size (fun _ => True) (.slice (some ⟨g, 0, none⟩) own.length c1) ((scaleL p own iv).take j ++ own.drop j))
    case atStart => exact ⟨0, x3, by omega, rfl, rfl, by simpa using hR3⟩
    case round =>
      clear hR3
      obtain ⟨j, z, hjk, rfl, rfl, hRz⟩ := hrel
      have HJK := Lib.hid hjk
      clear hjk
      by_cases hj : j < own.length
      · obtain ⟨f0, f1⟩ := kI_cell hRz j hj
        rw [mix_get p own iv j hj] at f0
        have hnj := hokr.nums j
        have HST := Lib.hid (mix_set p own iv j hj)
        generalize own.getD j 0 = y1 at *
        have m1 := mul_bd3 (x := y1) (y := iv) hnj.1 (by omega) (by omega) (by omega)
        have hpz : p ≠ 0 := by omega
        have hj0 : (0 : Int) ≤ j := by omega
        have hj1 : (j : Int) < own.length := by omega
        go_wp2
        go_roundg (gk - 1)
        case measure => have := HJK.out; omega
        case rel =>
          refine ⟨j + 1, ⟨z.W.setCell ⟨g, j, none⟩ (.int .i64 (y1 * iv % p)), z.ok.setCell (show w.heap.size ≤ g from hgb) _⟩, by have := HJK.out; omega, by go_num, ?_, ?_⟩
          · simp [Int.tmod_eq_emod_of_nonneg m1.1]
          · rw [← HST.out]
            exact kI_set hRz j _
      · have hje : j = own.length := by have := HJK.out; omega
        subst hje
        have e : (scaleL p own iv).take own.length ++ own.drop own.length = scaleL p own iv := by
          rw [List.drop_length, List.append_nil, List.take_of_length_le (by simp [scaleL])]
        rw [e] at hRz
        have hRl := Kd.R_below hR z.ok
        have hbz := z.ok.mono hbase
        generalize scaleL p own iv = own2 at *
        go_wp2
        go_loopg [46] out.length (fun k v w' => ∃ (j : Nat), j + k = out.length ∧ v = .int .i64 j ∧ Below base w w' ∧ w.heap.size ≤ w'.heap.size ∧ kL.R 55 w' base (fun _ => True) (.slice A out.length c) ((out.take j).map (cutRow p own2) ++ out.drop j) ∧ kI.R 2 w' w.heap.size (fun _ => True) (.slice (some ⟨g, 0, none⟩) own.length c1) own2)
        case atStart => exact ⟨0, by omega, rfl, hbz, z.ok.size, by simpa using hRl, hRz⟩
        case round =>
          clear hRl hRz hbz e
          obtain ⟨j, hjk, rfl, hbw, hsz, hRn, hRo⟩ := hrel
          have HJK := Lib.hid hjk
          clear hjk
          by_cases hj : j < out.length
          · have hrj := hl _ (getD_mem [] hj)
            have HSET := Lib.hid (mixm_set (f := cutRow p own2) hj)
            have hCn := R_C hRn
            obtain ⟨bb, ob, Br, cr, hA, q0, hcr, hCr⟩ := kL_at hCn j hj
            rw [mixm_get hj] at q0 hcr hCr
            have HCUT := Lib.hid (cut_rest hled.ok hrj.ok)
            generalize out.getD j [] = r at *
            obtain ⟨gl, capl, hvl, hgl, hgls, cellsl, hcells⟩ := Kd.R_form hRn (by rw [mixm_len]; omega)
            injection hvl with hvl1 hvl3 hvl2
            subst hvl1
            subst hvl2
            clear hvl3
            simp only [Option.some.injEq, Addr.mk.injEq] at hA
            obtain ⟨rfl, rfl, _⟩ := hA
            rw [Nat.zero_add] at q0
            have hj0 : (0 : Int) ≤ j := by omega
            have hj1 : (j : Int) < out.length := by omega
            have hjn : ((j : Int)).toNat = j := by omega
            have hCo := R_C hRo
            have hown2 := fun W i (hi : i = W.heap.size) (hC : kI.C W (some ⟨g, 0, none⟩) own.length own2) => kL_one W hC hl1 55 i hi
            have hfr := blk_frozen hcells j
            have hgg : gl < wr.heap.size := hgls
            have hgne : gl ≠ g := fun h => by
              have hh := (num_apart hRn hRo).1 g rfl
              exact hh (by rw [h]; rfl)
            clear hcells
            clear hCn HX0 hTK
            go_wp2_with (first | (go_at_call 118; (with_reducible refine call_makes (less_i (c := 1) (d := cr) hp2 hp13 hL (list := [own2]) (by simp) (fun r hr => by obtain rfl := List.mem_singleton.1 hr; exact hled) hrj.ok (hown2 _ _ rfl hCo) (Kd.C_alloc hCr _)) ?_); intro x5 A5 c5 hb5 hl5 hR5 hC5))
            have hRn5 := Kd.R_below (Kd.R_alloc hRn _) hb5
            have hRo5 := Kd.R_below (Kd.R_alloc hRo _) hb5
            have hb6 : Below base w x5.W := below_then (hbw.alloc (by omega) _) (by simp; omega) hb5
            have hs6 : w.heap.size ≤ x5.W.heap.size := by have := hb5.size; simp at this; omega
            rw [HCUT.out] at hR5 hl5
            have hq5 : x5.W.cell? ⟨gl, j, none⟩ = some (.slice Br r.length cr) := x5.keep (cell_alloc q0 _)
            have hRa := Kd.R_mono (num_apart hRn5 (Kd.R_lower hR5 (show base ≤ _ by simp; omega))) (ok' := fun k => k ≠ gl) (fun k hk he => hk (by rw [he]; rfl))
            have hseg := Kd.R_seg hRn5 (j : Int) hj0 (by omega) (c := [.slice Br r.length cr]) (seg := [.slice A5 (cutRow p own2 r).length c5]) (j := 0) rfl (fun t u hu => by
              have ht : t < 1 := (List.getElem?_eq_some_iff.1 hu).1
              obtain rfl : t = 0 := by omega
              rw [hjn]
              show x5.W.cell? ⟨gl, j * 1 + 0, none⟩ = _
              rw [Nat.mul_one, Nat.add_zero, hq5]
              simpa using hu) (by simp [Kd.slice]) (x' := cutRow p own2 r) (okp := fun k => k ≠ gl) ⟨_, rfl, hRa⟩ (fun k hk => ⟨trivial, hk⟩)
            rw [hjn] at hseg
            have hse : x5.W.setCells gl (j * kL.sz + 0) [.slice A5 (cutRow p own2 r).length c5] = x5.W.setCell ⟨gl, j, none⟩ (.slice A5 (cutRow p own2 r).length c5) := by
              show (x5.W.setCell ⟨gl, j * 1 + 0, none⟩ _) = _
              rw [Nat.mul_one, Nat.add_zero]
            rw [hse, HSET.out] at hseg
            go_roundg (out.length - j - 1)
            case measure => have := HJK.out; omega
            case rel =>
              rw [HCUT.out]
              refine ⟨j + 1, by have := HJK.out; omega, by go_num, hb6.setCell (show base ≤ gl from hgl) _, by simpa using hs6, hseg.1, ?_⟩
              exact Kd.R_mono (Kd.R_far (Kd.R_mono (num_apart hRn5 hRo5) (ok' := fun k => k ≠ gl) (fun k hk he => hk (by rw [he]; rfl))) (p := ⟨gl, j, none⟩) (fun k hk => hk) _) (fun _ _ => trivial)
          · have hje : j = out.length := by have := HJK.out; omega
            subst hje
            rw [List.take_length, List.drop_length, List.append_nil] at hRn
            have hlen : (out.map (cutRow p own2)).length = out.length := by simp
            go_wp2_with (((with_reducible refine gate_ (.call { callee := .builtin .append, args := #[.tmp 60, .tmp 62], argTypes := #[22, 22] }) rfl ?_); have hM := Kd.M_row (num_apart hRn (Kd.R_lower hRo hbase)); have hMk := (fun (k : Nat) (hk : some k ≠ (Value.slice A out.length c).ownBlock) => (⟨trivial, hk⟩ : True ∧ some k ≠ (Value.slice A out.length c).ownBlock)); refine Kd.R_append kL (w0 := w) (W := wr) base rfl (.tmp 60) (.tmp 62) 22 55 (.slice none 0 0) 24 rfl Try.underlying22 infoL rfl (by decide) (by decide) (Value.slice A out.length c) (out.map (cutRow p own2)) (own2) [.slice (some ⟨g, 0, none⟩) own.length c1] (fun _ => True) (fun k => some k ≠ (Value.slice A out.length c).ownBlock) rfl rfl hM hMk (fun _ _ => trivial) hRn hbw (by omega) (by (first | omega | (simp; omega))) ?_; intro v6 w6 hR6 hB6 hg6 _))
            refine bodyPost_ret (v := v6) (by simp [results, Try.results89, go_sem]) rfl ⟨_, rfl, ?_, hB6⟩
            rw [hTK.out]
            exact hR6
  · have hld : leadI (restL p out row) = -1 := by unfold leadI; rw [if_neg (by rw [hokr.len]; exact hlead)]
    have hTK := Lib.hid (hTK0.out.trans (if_neg (by rw [hokr.len]; exact hlead)))
    clear hTK0
    have hlen : (restL p out row).length ≤ 1000000 := by rw [hokr.len]; omega
    generalize restL p out row = own at *
    go_enter Try.func89, Try.ntmps89
    go_wp2_with (first | (go_at_call 118; (with_reducible refine call_makes hle ?_); intro x1 A1 c1 hb1 hl1 hR1 hC1) | (go_at_call 92; (with_reducible refine call_later3 (lead_i (-1) hC1 hlen hld) ?_); intro x2 hb2))
    refine bodyPost_ret (v := .slice A out.length c) (by simp [results, Try.results89, go_sem]) rfl ⟨_, rfl, ?_, x2.ok.mono hbase⟩
    rw [hTK.out]
    exact Kd.R_below hR x2.ok
end Go.Proofs.Ytimjhehagimcaaa
namespace Go.Proofs.Ytimjhehagimcaaa
end Go.Proofs.Ytimjhehagimcaaa

namespace Go.Proofs.Ytimjhehagimcaaa
open Go.RowKit Go.Proofs.YtimjhehagimcaaaW.PrintWords
attribute [local go_sem] Later.cell Later.frozen Later.lt Later.lt_add Later.le Later.le_add Later.ne Later.ne' add_at
section
variable {α : Type} [Inhabited α] (enc : α → Value) (w : World) (g m : Nat) (d : Array α) (os : Array Obj)
end
set_option maxHeartbeats 1000000 in
theorem sort_rows {w : World} {base g n c : Nat} {out : List (List Int)} (hR : kL.R 55 w base (fun _ => True) (.slice (some ⟨g, 0, none⟩) n c) out) (hl : ∀ r ∈ out, r.length ≤ 1000000) (hn : n ≤ 1000000) :
    Calls Try.prog 90 #[.slice (some ⟨g, 0, none⟩) n c, .func (.func 91) #[] #[]] w (fun e w' => e = .returned (.tuple #[]) ∧ ∃ out' : List (List Int), out'.Perm out ∧ (∀ i j, i < j → j < out'.length → leadI (out'.getD i []) ≤ leadI (out'.getD j [])) ∧
      kL.R 55 w' base (fun _ => True) (.slice (some ⟨g, 0, none⟩) n c) out' ∧ Below base w w') := by
  obtain ⟨_, inner, hown, hreps⟩ := hR
  obtain ⟨hil, hbody⟩ := hown
  rcases hbody with ⟨hv, _⟩ | ⟨g', cap, cur, hv, hgb, hheap, hnc, hcm, hcs, htake⟩
  · cases hv
  injection hv with hv1 _ hv2
  simp only [Option.some.injEq, Addr.mk.injEq, and_true] at hv1
  obtain rfl := hv1
  subst hv2
  have hsz : kL.sz = 1 := rfl
  rw [hsz, Nat.mul_one] at hil hcs htake
  have hol : out.length = n := by
    have := hreps.1
    rw [hsz, Nat.mul_one] at this
    omega
  obtain ⟨ds, hd1, hd2⟩ : ∃ ds : List (Elt w base g), ds.map Elt.enc = inner ∧ ds.map Elt.row = out := elts_of (P := fun v r => kI.R 2 w base (fun k => k ≠ g) v r ∧ r.length ≤ 1000000) inner out (by omega) (fun j p hp => by
    have h1 := hreps.2 j p hp
    rw [hsz, Nat.mul_one] at h1
    obtain ⟨v, hv, hM⟩ := h1
    have hp' := List.getElem?_eq_some_iff.1 hp
    refine ⟨v, ?_, Kd.R_mono hM (fun k hk he => hk.2 (by rw [he]; rfl)), hl p (by rw [← hp'.2]; exact List.getElem_mem hp'.1)⟩
    have h2 : ((inner.drop j).take 1)[0]? = some v := by rw [hv]; rfl
    rw [List.getElem?_take_of_lt (by omega), List.getElem?_drop] at h2
    simpa using h2)
  have hdl : ds.length = n := by rw [← hol, ← hd2]; simp
  have hgs : g < w.heap.size := (Array.getElem?_eq_some_iff.1 hheap).1
  have hds : ds.toArray.size = n := by simpa using hdl
  have hH : Go.Sort.Holds (Elt.enc (w := w) (base := base) (g := g)) w g 0 ds.toArray := fun j hj => by
    have hj' : j < n := by rw [← hds]; exact hj
    refine ⟨?_, blk_frozen hheap _⟩
    rw [Nat.zero_add, blk_cell hheap]
    have h3 : inner[j]? = some (Elt.enc (ds.toArray[j]!)) := by
      rw [← hd1, List.getElem?_map]
      have : j < ds.length := by omega
      simp [this, Elt.enc]
    rw [← htake, List.getElem?_take_of_lt (by omega)] at h3
    simpa using h3
  have hcon := Try.slices_SortFunc (Elt.enc (w := w) (base := base) (g := g)) (fun x => by
    obtain ⟨⟨v, r⟩, hx, _⟩ := x
    obtain ⟨A, c, e⟩ := Kd.R_slice hx
    show Value.oneCell' v = true
    rw [show v = _ from e]
    rfl) Elt.cf elt_swo 91 #[] g 0 c ds.toArray w (enters_of Try.func91 (by kernel_rfl) rfl) elt_cmp hH hgs (by rw [hds]; omega)
  rw [hds] at hcon
  refine hcon.mono fun e w' ⟨he, d', m, os, hp, hs, hw⟩ => ⟨he, d'.toList.map Elt.row, ?_, ?_, ?_, ?_⟩
  · have h1 := hp.2.2
    have h2 := hp.1
    rw [hds] at h2
    have e1 : d'.extract 0 n = d' := by rw [← h2]; exact Array.extract_size
    have e2 : ds.toArray.extract 0 n = ds.toArray := by rw [← hds]; exact Array.extract_size
    rw [e1, e2] at h1
    have := h1.map Elt.row
    have e3 : ds.toArray.toList.map Elt.row = out := hd2
    rwa [e3] at this
  · intro i j hij hj
    have hj' : j < d'.size := by simpa using hj
    have h2 := hp.1
    rw [hds] at h2
    have := hs i j (Nat.zero_le _) hij (by omega)
    simp [Go.Proofs.ltOf, Elt.cf] at this
    have hi' : i < d'.size := by omega
    simp [List.getD_eq_getElem?_getD, hi', hj'] at this ⊢
    omega
  · subst hw
    have h2 := hp.1
    rw [hds] at h2
    have hm : ∀ k, k ≠ g → k < w.heap.size → (Go.Proofs.sortWorld Elt.enc w g 0 m d' os).heap[k]? = w.heap[k]? := fun k hk hlt => sort_other _ _ _ _ _ _ k hlt hk
    have hdl' : (d'.toList.map Elt.row).length = n := by simpa using h2
    rw [show Value.slice (some ⟨g, 0, none⟩) n c = Value.slice (some ⟨g, 0, none⟩) (d'.toList.map Elt.row).length c by rw [hdl']]
    refine ⟨fun _ _ => trivial, d'.toList.map Elt.enc, ⟨by simp [hsz], .inr ⟨g, c, _, rfl, hgb, sort_self _ _ _ _ _ _ hheap, by rw [hdl']; omega, hcm, by rw [hsz, Nat.mul_one]; simpa [Go.Sort.putCells] using hcs, ?_⟩⟩, ⟨by simp [hsz], fun j p hjp => ?_⟩⟩
    · rw [hsz, Nat.mul_one, hdl']
      have := put_take (Elt.enc (w := w) (base := base) (g := g)) d' cur (by omega)
      rwa [h2] at this
    · rw [hsz, Nat.mul_one]
      obtain ⟨hjl, hjp'⟩ := List.getElem?_eq_some_iff.1 hjp
      have hj' : j < d'.size := by simpa using hjl
      have he : ((d'.toList.map Elt.enc).drop j).take 1 = [Elt.enc d'[j]] := by
        rw [List.drop_eq_getElem_cons (by simpa using hj')]
        simp
      rw [he]
      have hr : p = Elt.row d'[j] := by rw [← hjp']; simp
      rw [hr]
      refine ⟨_, rfl, ?_⟩
      exact Kd.R_mono (Kd.R_step d'[j].2.1 hm) (fun k hk => ⟨trivial, fun h => hk (by simpa [Value.ownBlock] using h)⟩)
  · subst hw
    refine ⟨rfl, rfl, rfl, ?_, fun k hk => sort_other _ _ _ _ _ _ k (by omega) (by omega)⟩
    simp [Go.Proofs.sortWorld, Go.Sort.grow, Go.Sort.putRow, Go.Sort.mapBlock, Go.Sort.ahead]
end Go.Proofs.Ytimjhehagimcaaa
namespace Go.Proofs.Ytimjhehagimcaaa
open Go.RowKit Go.Proofs.YtimjhehagimcaaaW.PrintWords
attribute [local go_sem] Later.cell Later.frozen Later.lt Later.lt_add Later.le Later.le_add Later.ne Later.ne' add_at
set_option maxRecDepth 100000 in
set_option maxHeartbeats 2000000 in
theorem reduce_c {p : Int} {L : Nat} (hp : primeZ p) (hL : L ≤ 100000) {rows : List (List Int)} (hn : rows.length ≤ 100000) (hr : ∀ r ∈ rows, RowOk p L r) {A : Option Addr} {n c : Nat} {w : World} (hC : kL.C w A n rows) :
    Calls Try.prog 49 #[.int .i64 p, .slice A n c] w (Makes kL 55 (echL p rows) w) := by
  obtain rfl := Kd.C_len hC
  have hR0 := R_zero kL (heap_alloc_last w (.cells #[] 55)) (base := w.heap.size) (by simp)
  have hB0 : Below w.heap.size w (w.alloc (.cells #[] 55)) := bq1
  go_enter Try.func49, Try.ntmps49
  go_wp2
  go_loopg [11, 5] rows.length (fun k vi vo w' => ∃ (i : Nat) (y : Later w), i + k = rows.length ∧ vi = .int .i64 i ∧ w' = y.W ∧ kL.R 55 y.W w.heap.size (fun _ => True) vo ((rows.take i).foldl (takeL p) []))
  case atStart => exact ⟨0, ⟨_, hB0⟩, by omega, rfl, rfl, hR0⟩
  case round =>
    clear hR0 hB0
    obtain ⟨i, y, hik, rfl, rfl, hR⟩ := hrel
    have HIK := Lib.hid hik
    clear hik
    obtain ⟨hred, holen⟩ := echL_take hp hr i
    have hperm := take_fold hp hr i
    by_cases hi : i < rows.length
    · obtain ⟨b, o, Br, cr, hA, q0, hcr, hCr⟩ := kL_at hC i hi
      subst hA
      have q0 := y.keep q0
      have hCy := Kd.C_below hCr y.ok
      have hrow : RowOk p L (rows.getD i []) := hr _ (getD_mem _ hi)
      have HST := Lib.hid (take_fold_step (p := p) hi)
      obtain ⟨Ao, co, hvo⟩ := Kd.R_slice hR
      subst hvo
      have hol : ((rows.take i).foldl (takeL p) []).length ≤ 100000 := by rw [hperm.length_eq]; omega
      have hled : ∀ r ∈ (rows.take i).foldl (takeL p) [], Led p L r := fun r hr => hred.led r (hperm.mem_iff.1 hr)
      have hi0 : (0 : Int) ≤ i := by omega
      have hi1 : (i : Int) < rows.length := by omega
      have hin : ((i : Int)).toNat = i := by omega
      have htk := take_i (d := cr) hp hL hol hled hrow y.ok.size hR hCy
      clear hperm
      generalize rows.getD i [] = row at *
      generalize (rows.take i).foldl (takeL p) [] = out at *
      go_wp2_with ((go_at_call 89; (with_reducible refine call_made htk ?_); intro w6 v6 hR6 hB6))
      go_roundg (gk - 1)
      case measure => have := HIK.out; omega
      case rel =>
        refine ⟨i + 1, ⟨w6, y.ok.trans hB6⟩, by have := HIK.out; omega, by go_num, rfl, ?_⟩
        rw [HST.out]
        exact hR6
    · have hie : i = rows.length := by have := HIK.out; omega
      subst hie
      rw [List.take_length] at hR hred hperm holen
      obtain ⟨Ao, co, hvo⟩ := Kd.R_slice hR
      subst hvo
      have hledo : ∀ r ∈ rows.foldl (takeL p) [], r.length ≤ 1000000 := fun r hr => by
        rw [(hred.led r (hperm.mem_iff.1 hr)).ok.len]
        omega
      have hol : (rows.foldl (takeL p) []).length ≤ 1000000 := by rw [hperm.length_eq]; omega
      by_cases h0 : 0 < (rows.foldl (takeL p) []).length
      · obtain ⟨g, cap, hv, hgb, hgs, _⟩ := Kd.R_form hR h0
        injection hv with hv1 hv3 hv2
        subst hv1
        subst hv2
        have hsort := sort_rows hR hledo hol
        have HRD := Lib.hid hred
        have HPM := Lib.hid hperm
        clear hred hperm hledo
        generalize rows.foldl (takeL p) [] = out at *
        go_wp2_with ((go_at_call 90; refine hsort.mono ?_; rintro e w7 ⟨rfl, out', hp1, hs1, hR7, hB7⟩))
        have heq := sorted_eq (hp1.trans HPM.out) HRD.out hs1
        refine bodyPost_ret (v := .slice (some ⟨g, 0, none⟩) out.length co) (by simp [results, Try.results49, go_sem]) rfl ⟨_, rfl, ?_, y.ok.trans hB7⟩
        rw [← heq]
        exact hR7
      · have hnil : rows.foldl (takeL p) [] = [] := List.eq_nil_of_length_eq_zero (by omega)
        have he : echL p rows = [] := by
          rw [hnil] at hperm
          exact hperm.nil_eq.symm
        rw [hnil] at hR ⊢
        have hsort := fun fv W => Try.slices_SortFunc_none (α := Int) Ao co fv W
        clear hperm hred hledo hol h0
        go_wp2_with ((go_at_call 90; refine (hsort _ _).mono ?_; rintro e w7 ⟨rfl, rfl⟩))
        refine bodyPost_ret (v := .slice Ao 0 co) (by simp [results, Try.results49, go_sem]) rfl ⟨_, rfl, ?_, y.ok⟩
        rw [he]
        exact hR
end Go.Proofs.Ytimjhehagimcaaa
namespace Go.Proofs.Ytimjhehagimcaaa
open Go.RowKit Go.Proofs.YtimjhehagimcaaaW.PrintWords
attribute [local go_sem] Later.cell Later.frozen Later.lt Later.lt_add Later.le Later.le_add Later.ne Later.ne' add_at
theorem grown_refl (w : World) (row : Option Nat) : w.grownBy w row := ⟨rfl, rfl, rfl, Nat.le_refl _, fun _ _ _ => rfl⟩
theorem grown_set {w w' : World} {b : Nat} (h : w.grownBy w' (some b)) (k : Nat) (v : Value) : w.grownBy (w'.setCell ⟨b, k, none⟩ v) (some b) :=
  ⟨h.os, h.tape, h.output, by simpa using h.size, fun i hi hne => (Below.heap_setCell w' ⟨b, k, none⟩ v i (fun e => hne (by rw [e]))).trans (h.block i hi hne)⟩
theorem grown_drew {w w' : World} {row : Option Nat} (h : w.grownBy w' row) : w.grownBy w'.drew row := ⟨h.os, h.tape, h.output, h.size, h.block⟩
set_option maxRecDepth 100000 in
set_option maxHeartbeats 4000000 in
theorem inverted_c (p : Int) (n : Nat) (g : M9) (w : World) (hp : primeZ p) (hn1 : 1 ≤ n) (hn3 : n ≤ 3) (hg : g.le p) :
    Calls Try.prog 67 #[.int .i64 p, .int .i64 n, .agg #[.int .u8 (g.r0.a.toNat : Int), .int .u8 (g.r0.b.toNat : Int), .int .u8 (g.r0.c.toNat : Int), .int .u8 (g.r1.a.toNat : Int), .int .u8 (g.r1.b.toNat : Int), .int .u8 (g.r1.c.toNat : Int), .int .u8 (g.r2.a.toNat : Int), .int .u8 (g.r2.b.toNat : Int), .int .u8 (g.r2.c.toNat : Int)]] w (Gives (.agg #[.int .u8 ((invM p n g.num).r0.a.toNat : Int), .int .u8 ((invM p n g.num).r0.b.toNat : Int), .int .u8 ((invM p n g.num).r0.c.toNat : Int), .int .u8 ((invM p n g.num).r1.a.toNat : Int), .int .u8 ((invM p n g.num).r1.b.toNat : Int), .int .u8 ((invM p n g.num).r1.c.toNat : Int), .int .u8 ((invM p n g.num).r2.a.toNat : Int), .int .u8 ((invM p n g.num).r2.b.toNat : Int), .int .u8 ((invM p n g.num).r2.c.toNat : Int)]) w) := by
  obtain ⟨hp2, hp13⟩ := hp.two
  have hA := num_ok hg
  have hnc : n = 1 ∨ n = 2 ∨ n = 3 := by omega
  have HG := Lib.hid hg
  clear hg
  go_enter Try.func67, Try.ntmps67
  go_wp2
  have c1 : ∀ i j, i < 3 → j < 3 → ((w.alloc (.cells #[.int .u8 (g.r0.a.toNat : Int), .int .u8 (g.r0.b.toNat : Int), .int .u8 (g.r0.c.toNat : Int), .int .u8 (g.r1.a.toNat : Int), .int .u8 (g.r1.b.toNat : Int), .int .u8 (g.r1.c.toNat : Int), .int .u8 (g.r2.a.toNat : Int), .int .u8 (g.r2.b.toNat : Int), .int .u8 (g.r2.c.toNat : Int)] 41)).alloc (.cells #[.int .u8 0, .int .u8 0, .int .u8 0, .int .u8 0, .int .u8 0, .int .u8 0, .int .u8 0, .int .u8 0, .int .u8 0] 41)).cell? ⟨w.heap.size, i * 3 + j, none⟩ = some (.int .u8 (g.num i j)) := fun i j hi hj => cell_alloc (box_at w g _ i j hi hj) _
  have r1 : ∀ k, k < 9 → ((w.alloc (.cells #[.int .u8 (g.r0.a.toNat : Int), .int .u8 (g.r0.b.toNat : Int), .int .u8 (g.r0.c.toNat : Int), .int .u8 (g.r1.a.toNat : Int), .int .u8 (g.r1.b.toNat : Int), .int .u8 (g.r1.c.toNat : Int), .int .u8 (g.r2.a.toNat : Int), .int .u8 (g.r2.b.toNat : Int), .int .u8 (g.r2.c.toNat : Int)] 41)).alloc (.cells #[.int .u8 0, .int .u8 0, .int .u8 0, .int .u8 0, .int .u8 0, .int .u8 0, .int .u8 0, .int .u8 0, .int .u8 0] 41)).cell? ⟨w.heap.size + 1, k, none⟩ = some (.int .u8 0) := fun k hk => by
    have h2 := z_at (w.alloc (.cells #[.int .u8 (g.r0.a.toNat : Int), .int .u8 (g.r0.b.toNat : Int), .int .u8 (g.r0.c.toNat : Int), .int .u8 (g.r1.a.toNat : Int), .int .u8 (g.r1.b.toNat : Int), .int .u8 (g.r1.c.toNat : Int), .int .u8 (g.r2.a.toNat : Int), .int .u8 (g.r2.b.toNat : Int), .int .u8 (g.r2.c.toNat : Int)] 41)) 41 (k / 3) (k % 3) (by omega) (by omega)
    rw [show (w.alloc (.cells #[.int .u8 (g.r0.a.toNat : Int), .int .u8 (g.r0.b.toNat : Int), .int .u8 (g.r0.c.toNat : Int), .int .u8 (g.r1.a.toNat : Int), .int .u8 (g.r1.b.toNat : Int), .int .u8 (g.r1.c.toNat : Int), .int .u8 (g.r2.a.toNat : Int), .int .u8 (g.r2.b.toNat : Int), .int .u8 (g.r2.c.toNat : Int)] 41)).heap.size = w.heap.size + 1 by simp, show k / 3 * 3 + k % 3 = k by omega] at h2
    exact h2
  have rf : ∀ k, ((w.alloc (.cells #[.int .u8 (g.r0.a.toNat : Int), .int .u8 (g.r0.b.toNat : Int), .int .u8 (g.r0.c.toNat : Int), .int .u8 (g.r1.a.toNat : Int), .int .u8 (g.r1.b.toNat : Int), .int .u8 (g.r1.c.toNat : Int), .int .u8 (g.r2.a.toNat : Int), .int .u8 (g.r2.b.toNat : Int), .int .u8 (g.r2.c.toNat : Int)] 41)).alloc (.cells #[.int .u8 0, .int .u8 0, .int .u8 0, .int .u8 0, .int .u8 0, .int .u8 0, .int .u8 0, .int .u8 0, .int .u8 0] 41)).frozen? ⟨w.heap.size + 1, k, none⟩ = false := fun k => by
    have := z_fr (w.alloc (.cells #[.int .u8 (g.r0.a.toNat : Int), .int .u8 (g.r0.b.toNat : Int), .int .u8 (g.r0.c.toNat : Int), .int .u8 (g.r1.a.toNat : Int), .int .u8 (g.r1.b.toNat : Int), .int .u8 (g.r1.c.toNat : Int), .int .u8 (g.r2.a.toNat : Int), .int .u8 (g.r2.b.toNat : Int), .int .u8 (g.r2.c.toNat : Int)] 41)) (.cells #[.int .u8 0, .int .u8 0, .int .u8 0, .int .u8 0, .int .u8 0, .int .u8 0, .int .u8 0, .int .u8 0, .int .u8 0] 41) k _ _ rfl
    rwa [show (w.alloc (.cells #[.int .u8 (g.r0.a.toNat : Int), .int .u8 (g.r0.b.toNat : Int), .int .u8 (g.r0.c.toNat : Int), .int .u8 (g.r1.a.toNat : Int), .int .u8 (g.r1.b.toNat : Int), .int .u8 (g.r1.c.toNat : Int), .int .u8 (g.r2.a.toNat : Int), .int .u8 (g.r2.b.toNat : Int), .int .u8 (g.r2.c.toNat : Int)] 41)).heap.size = w.heap.size + 1 by simp] at this
  have hs0 : ((w.alloc (.cells #[.int .u8 (g.r0.a.toNat : Int), .int .u8 (g.r0.b.toNat : Int), .int .u8 (g.r0.c.toNat : Int), .int .u8 (g.r1.a.toNat : Int), .int .u8 (g.r1.b.toNat : Int), .int .u8 (g.r1.c.toNat : Int), .int .u8 (g.r2.a.toNat : Int), .int .u8 (g.r2.b.toNat : Int), .int .u8 (g.r2.c.toNat : Int)] 41)).alloc (.cells #[.int .u8 0, .int .u8 0, .int .u8 0, .int .u8 0, .int .u8 0, .int .u8 0, .int .u8 0, .int .u8 0, .int .u8 0] 41)).heap.size = w.heap.size + 2 := by simp
  have hb0 : Below w.heap.size w ((w.alloc (.cells #[.int .u8 (g.r0.a.toNat : Int), .int .u8 (g.r0.b.toNat : Int), .int .u8 (g.r0.c.toNat : Int), .int .u8 (g.r1.a.toNat : Int), .int .u8 (g.r1.b.toNat : Int), .int .u8 (g.r1.c.toNat : Int), .int .u8 (g.r2.a.toNat : Int), .int .u8 (g.r2.b.toNat : Int), .int .u8 (g.r2.c.toNat : Int)] 41)).alloc (.cells #[.int .u8 0, .int .u8 0, .int .u8 0, .int .u8 0, .int .u8 0, .int .u8 0, .int .u8 0, .int .u8 0, .int .u8 0] 41)) := bq1
  generalize (w.alloc (.cells #[.int .u8 (g.r0.a.toNat : Int), .int .u8 (g.r0.b.toNat : Int), .int .u8 (g.r0.c.toNat : Int), .int .u8 (g.r1.a.toNat : Int), .int .u8 (g.r1.b.toNat : Int), .int .u8 (g.r1.c.toNat : Int), .int .u8 (g.r2.a.toNat : Int), .int .u8 (g.r2.b.toNat : Int), .int .u8 (g.r2.c.toNat : Int)] 41)).alloc (.cells #[.int .u8 0, .int .u8 0, .int .u8 0, .int .u8 0, .int .u8 0, .int .u8 0, .int .u8 0, .int .u8 0, .int .u8 0] 41) = W0 at *
  have hR0 := R_zero kL (heap_alloc_last W0 (.cells #[] 55)) (base := W0.heap.size) (by simp)
  have hB0 : Below W0.heap.size W0 (W0.alloc (.cells #[] 55)) := bq1
  have C1 := Lib.hid c1
  have R1 := Lib.hid r1
  have RF := Lib.hid rf
  have HB0 := Lib.hid hb0
  have HS0 := Lib.hid hs0
  clear c1 r1 rf hb0 hs0
  go_loopg [17, 7] n (fun k vi vr w' => ∃ (i : Nat) (y : Later W0), i + k = n ∧ vi = .int .i64 i ∧ w' = y.W ∧ kL.R 55 y.W W0.heap.size (fun _ => True) vr (augRows n g.num i))
  case atStart => exact ⟨0, ⟨_, hB0⟩, by omega, rfl, rfl, by
    have h := hR0
    rw [HS0.out] at h
    show kL.R _ _ W0.heap.size _ _ _
    rw [HS0.out]
    exact h⟩
  case round =>
    clear hR0 hB0
    obtain ⟨i, y, hik, rfl, rfl, hR⟩ := hrel
    have HIK := Lib.hid hik
    clear hik
    by_cases hlt : i < n
    · have hi1 : (i : Int) < n := by omega
      have hi3 : (i : Int) < 3 := by omega
      have hi0 : (0 : Int) ≤ i := by omega
      have hin : ((i : Int)).toNat = i := by omega
      have w2 := i64_small (n := 2 * (n : Int)) (by omega) (by omega)
      go_wp2_with (refine Kd.R_make kI (w0 := y.W) y.W.heap.size 2 rfl (N := 22) rfl 55 (.tmp 21) (.tmp 21) rfl (2 * (n : Int)) rfl rfl Try.underlying55 _ 8 infoI rfl (by decide) (by decide) 0 (ok := fun _ => True) (okp := fun _ => False) rfl (fun _ h => h.elim) trivial (by omega) (by omega) (Below.refl _ _) (Nat.le_refl _) ?_; intro v1 w1 HR hb1 _ _)
      rw [show (2 * (n : Int)).toNat = 2 * n by omega, fillRow_zero n g.num i] at HR
      obtain ⟨gb, cap, hv, hgb, hgs, _⟩ := Kd.R_form HR (by rw [fillRow_len]; omega)
      rw [fillRow_len] at hv
      subst hv
      have hL2 : 2 * n ≤ n + n := by omega
      have hL3 : n + n ≤ 2 * n := by omega
      generalize 2 * n = L at *
      go_loopg [24] n (fun k v w' => ∃ (j : Nat) (z : Later W0), j + k = n ∧ v = .int .i64 j ∧ w' = z.W ∧ Below y.W.heap.size y.W z.W ∧ kI.R 2 z.W y.W.heap.size (fun _ => True) (.slice (some ⟨gb, 0, none⟩) L cap) (fillRow n g.num i j))
      case atStart => exact ⟨0, ⟨w1, y.ok.trans (hb1.mono y.ok.size)⟩, by omega, rfl, rfl, hb1, HR⟩
      case round =>
        clear HR hb1 hgs
        obtain ⟨j, z, hjk, rfl, rfl, hbz, hRz⟩ := hrel
        have HJK := Lib.hid hjk
        clear hjk
        by_cases hj : j < n
        · have q := pw_cell_below hbz (y.keep (C1.out i j (by omega) (by omega)))
          obtain ⟨f0, f1⟩ := kI_cell hRz j (by omega)
          have HST := Lib.hid (fillRow_step n g.num i j hj)
          have hnum := hA i j
          generalize g.num i j = x at *
          generalize (fillRow n g.num i j).getD j 0 = xo at *
          have hj1 : (j : Int) < n := by omega
          have hj3 : (j : Int) < 3 := by omega
          have hjL : (j : Int) < L := by omega
          have hj0 : (0 : Int) ≤ j := by omega
          have hjn : ((j : Int)).toNat = j := by omega
          go_wp2
          go_roundg (gk - 1)
          case measure => have := HJK.out; omega
          case rel =>
            refine ⟨j + 1, ⟨z.W.setCell ⟨gb, j, none⟩ (.int .i64 x), z.ok.setCell (by have := y.ok.size; show W0.heap.size ≤ gb; omega) _⟩, by have := HJK.out; omega, by go_num, rfl, hbz.setCell (show y.W.heap.size ≤ gb from hgb) _, ?_⟩
            rw [← HST.out]
            exact kI_set hRz j _
        · have hje : j = n := by have := HJK.out; omega
          subst hje
          have e4 : ((j : Int) + (i : Int)).toNat = j + i := by omega
          have w3 := i64_small (n := (j : Int) + i) (by omega) (by omega)
          have hjL : (j : Int) + i < L := by omega
          have hj0 : (0 : Int) ≤ (j : Int) + i := by omega
          obtain ⟨f0, f1⟩ := kI_cell hRz (j + i) (by omega)
          have hRs := Kd.R_below hR (hbz.setCell (show y.W.heap.size ≤ gb from hgb) (p := ⟨gb, j + i, none⟩) (.int .i64 1))
          have hRo := Kd.R_lower (kI_set hRz (j + i) 1) y.ok.size
          rw [fillRow_one j g.num i hlt] at hRo
          have hBs := z.ok.setCell (by have := y.ok.size; show W0.heap.size ≤ gb; omega) (p := ⟨gb, j + i, none⟩) (.int .i64 1)
          obtain ⟨Ar, cr, hvr, hlr, hCr⟩ := Kd.R_reads hR
          rw [augRows_len] at hvr
          subst hvr
          generalize (fillRow j g.num i j).getD (j + i) 0 = xo at *
          go_wp2_with (((with_reducible refine gate_ (.call { callee := .builtin .append, args := #[.tmp 42, .tmp 44], argTypes := #[22, 22] }) rfl ?_); have hM := Kd.M_row (num_apart hRs hRo); have hMk := (fun (k : Nat) (hk : some k ≠ (Value.slice Ar i cr).ownBlock) => (⟨trivial, hk⟩ : True ∧ some k ≠ (Value.slice Ar i cr).ownBlock)); refine Kd.R_append kL (w0 := W0) (W := z.W.setCell ⟨gb, j + i, none⟩ (.int .i64 1)) (W0).heap.size rfl (.tmp 42) (.tmp 44) 22 55 (.slice none 0 0) 24 rfl Try.underlying22 infoL rfl (by decide) (by decide) (Value.slice Ar i cr) (augRows j g.num i) (augRow j g.num i) [.slice (some ⟨gb, 0, none⟩) L cap] (fun _ => True) (fun k => some k ≠ (Value.slice Ar i cr).ownBlock) rfl (by first | rfl | (simp [go_sem]; done)) hM hMk (fun _ _ => trivial) hRs hBs (hBs).size (by rw [augRows_len]; omega) ?_; intro v6 w6 hR6 hB6 hg6 _))
          go_roundg (j - i - 1)
          case measure => have := HIK.out; omega
          case rel =>
            refine ⟨i + 1, ⟨w6, hB6⟩, by have := HIK.out; omega, by go_num, rfl, ?_⟩
            rw [augRows_succ]
            exact hR6
    · have hie : i = n := by have := HIK.out; omega
      subst hie
      obtain ⟨Ar, cr, hvr, hlr, hCr⟩ := Kd.R_reads hR
      rw [augRows_len] at hvr hCr hlr
      subst hvr
      have hbo : Below y.W.heap.size y.W (y.W.alloc (.cells #[.int .u8 0, .int .u8 0, .int .u8 0, .int .u8 0, .int .u8 0, .int .u8 0, .int .u8 0, .int .u8 0, .int .u8 0] 41)) := bq1
      have hyo := y.ok
      have c3 : ∀ i' j', i' < 3 → j' < 3 → (y.W.alloc (.cells #[.int .u8 0, .int .u8 0, .int .u8 0, .int .u8 0, .int .u8 0, .int .u8 0, .int .u8 0, .int .u8 0, .int .u8 0] 41)).cell? ⟨y.W.heap.size, i' * 3 + j', none⟩ = some (.int .u8 0) := fun i' j' hi hj => z_at y.W 41 i' j' hi hj
      have c4 : ∀ k, (y.W.alloc (.cells #[.int .u8 0, .int .u8 0, .int .u8 0, .int .u8 0, .int .u8 0, .int .u8 0, .int .u8 0, .int .u8 0, .int .u8 0] 41)).frozen? ⟨y.W.heap.size, k, none⟩ = false := fun k => z_fr y.W (.cells #[.int .u8 0, .int .u8 0, .int .u8 0, .int .u8 0, .int .u8 0, .int .u8 0, .int .u8 0, .int .u8 0, .int .u8 0] 41) k _ _ rfl
      have hred := reduce_c hp (L := 2 * i) (by omega) (rows := augRows i g.num i) (c := cr) (by rw [augRows_len]; omega) (fun r hr => by
        obtain ⟨t, ht, rfl⟩ := List.mem_map.1 hr
        exact (augRow_ok hp2 hA t (List.mem_range.1 ht)).ok) (Kd.C_below hCr hbo)
      change Calls _ _ _ _ (Makes kL _ (invRows p i g.num) _) at hred
      have hlen := inv_length (n := i) hp hA
      have hrows := inv_ok (n := i) hp hA
      have HROW := Lib.hid (fun i' (hi : i' < i) => hrows _ (getD_mem [] (show i' < (invRows p i g.num).length by omega)))
      have HDE := Lib.hid (doneI_end p i g.num)
      have R1Y := Lib.hid (fun k (hk : k < 9) => cell_alloc (y.keep (R1.out k hk)) (.cells #[.int .u8 0, .int .u8 0, .int .u8 0, .int .u8 0, .int .u8 0, .int .u8 0, .int .u8 0, .int .u8 0, .int .u8 0] 41))
      have hs2 : w.heap.size + 2 ≤ y.W.heap.size := by rw [← HS0.out]; exact hyo.size
      have RFY := Lib.hid (fun k => ((hbo.frozen (p := ⟨w.heap.size + 1, k, none⟩) (by show w.heap.size + 1 < _; omega)).trans ((hyo.frozen (p := ⟨w.heap.size + 1, k, none⟩) (by show w.heap.size + 1 < _; rw [HS0.out]; omega)).trans (RF.out k))))
      have hsy : (y.W.alloc (.cells #[.int .u8 0, .int .u8 0, .int .u8 0, .int .u8 0, .int .u8 0, .int .u8 0, .int .u8 0, .int .u8 0, .int .u8 0] 41)).heap.size = y.W.heap.size + 1 := by simp
      have HBY := Lib.hid ((HB0.out.trans (hyo.mono HB0.out.size)).trans (hbo.mono (by omega)))
      clear hrows hR
      go_wp2_with (go_at_call 49; (with_reducible refine call_makes hred ?_); intro x A1 c1 hb1 hl1 hR1 hC1)
      generalize hwy : y.W.alloc (.cells #[.int .u8 0, .int .u8 0, .int .u8 0, .int .u8 0, .int .u8 0, .int .u8 0, .int .u8 0, .int .u8 0, .int .u8 0] 41) = Wy at *
      generalize hob : y.W.heap.size = ob at *
      clear hwy hob hbo hyo
      rw [hlen] at hl1 hC1 hR1
      have C3 := Lib.hid (fun i' j' (h1 : i' < 3) (h2 : j' < 3) => x.keep (c3 i' j' h1 h2))
      have C4 := Lib.hid (fun k => (x.ok.frozen (p := ⟨ob, k, none⟩) (by show ob < _; omega)).trans (c4 k))
      have R1X := Lib.hid (fun k (hk : k < 9) => x.keep (R1Y.out k hk))
      have RFX := Lib.hid (fun k => (x.ok.frozen (p := ⟨w.heap.size + 1, k, none⟩) (by show w.heap.size + 1 < _; omega)).trans (RFY.out k))
      have HBX := Lib.hid (HBY.out.trans (x.ok.mono HBY.out.size))
      have hRo := Kd.R_mono (Kd.R_bound hR1) (ok' := fun k => some k ≠ some ob) (fun k hk he => by
        have h1 := hk.2.1
        injection he with he
        omega)
      have hobx : ob < x.W.heap.size := by have := x.ok.size; omega
      clear c3 c4 hred hR1 hC1 hb1 hCr hlr hlen
      generalize x.W = X at *
      obtain ⟨g5, cap5, hv5, _, hg5s, _⟩ := Kd.R_form hRo (by rw [inv_length (n := i) hp hA]; omega)
      injection hv5 with hv5 hv6 hv7
      clear hv6
      subst hv5
      subst hv7
      have hne5 : some g5 ≠ some ob := hRo.1 g5 rfl
      go_loopg [52] i (fun k v w' => ∃ (r : Nat), r + k = i ∧ v = .int .i64 r ∧ X.grownBy w' (some ob) ∧ (∀ i' j', i' < 3 → j' < 3 → w'.cell? ⟨ob, i' * 3 + j', none⟩ = some (.int .u8 ((doneI p i g.num r 0 i' j').toNat : Int))) ∧ ∀ k, w'.frozen? ⟨ob, k, none⟩ = false)
      case atStart => exact ⟨0, by omega, rfl, grown_refl X _, fun i' j' h1 h2 => by rw [C3.out i' j' h1 h2]; simp [doneI], C4.out⟩
      case round =>
        obtain ⟨r, hrk, rfl, hgx, hc, hf⟩ := hrel
        have HRK := Lib.hid hrk
        have HC := Lib.hid hc
        have HF := Lib.hid hf
        clear hrk hc hf
        by_cases hr : r < i
        · have hrow := HROW.out r hr
          have hr0 : (0 : Int) ≤ r := by omega
          have hr1 : (r : Int) < i := by omega
          have hrn : ((r : Int)).toNat = r := by omega
          obtain ⟨ce, hcl, ⟨ve, hve, hRrow⟩, hcc, _⟩ := Kd.R_elem hRo [] (r : Int) hr0 (by omega)
          subst hve
          rw [hrn] at hRrow hcc
          have qX : X.cell? ⟨g5, r, none⟩ = some ve := by
            have := hcc 0 ve rfl
            have e : r * kL.sz + 0 = r := by show r * 1 + 0 = r; omega
            rwa [e] at this
          obtain ⟨Br, cr2, hvs⟩ := Kd.R_slice hRrow
          subst hvs
          have qx := far_cell hgx qX hne5
          clear hcc hcl
          generalize hrw : (invRows p i g.num).getD r [] = row at *
          have HRW := Lib.hid hrw
          clear hrw
          go_wp2
          have hgx0 := hgx
          go_loopg [58] i (fun k v w' => ∃ (j : Nat), j + k = i ∧ v = .int .i64 j ∧ X.grownBy w' (some ob) ∧ (∀ i' j', i' < 3 → j' < 3 → w'.cell? ⟨ob, i' * 3 + j', none⟩ = some (.int .u8 ((doneI p i g.num r j i' j').toNat : Int))) ∧ ∀ k, w'.frozen? ⟨ob, k, none⟩ = false)
          case atStart => exact ⟨0, by omega, rfl, hgx0, HC.out, HF.out⟩
          case round =>
            clear qx hgx hgx0 HC HF
            obtain ⟨j, hjk, rfl, hgy, hc3, hf3⟩ := hrel
            have HJK := Lib.hid hjk
            have HC3 := Lib.hid hc3
            have HF3 := Lib.hid hf3
            clear hjk hc3 hf3
            by_cases hj : j < i
            · have hCrow := R_C (Kd.R_grown hRrow hgy (fun k hk => hk.1))
              obtain ⟨b3, o3, hB, sx⟩ := kI_at hCrow (i + j) (by rw [hrow.ok.len]; omega)
              subst hB
              have hv := hrow.ok.nums (i + j)
              have hvl : (i : Int) + j < row.length := by rw [hrow.ok.len]; omega
              have HVD := Lib.hid (show doneI p i g.num r (j + 1) r j = uB (row.getD (i + j) 0) by rw [doneI, if_pos ⟨hj, .inr ⟨rfl, by omega⟩⟩, HRW.out])
              generalize row.getD (i + j) 0 = v at *
              have g3 := HC3.out r j (by omega) (by omega)
              have g4 := HF3.out (r * 3 + j)
              have G3 := Lib.hid g3
              generalize ((doneI p i g.num r j r j).toNat : Int) = old at *
              have w3 := i64_small (n := (i : Int) + j) (by omega) (by omega)
              have e3 : ((i : Int) + (j : Int)).toNat = i + j := by omega
              have e1 : ((j : Int)).toNat = j := by omega
              have i1 : (r : Int) < 3 := by omega
              have i3 : (j : Int) < 3 := by omega
              have hj0 : (0 : Int) ≤ (i : Int) + j := by omega
              have hj1 : (j : Int) < i := by omega
              clear hCrow
              go_wp2
              go_region
              go_wp2
              go_roundg (i - j - 1)
              case measure => have := HJK.out; omega
              case rel =>
                refine ⟨j + 1, by have := HJK.out; omega, by go_num, grown_drew (grown_set hgy (r * 3 + j) (.int .u8 v)), fun i' j' hi' hj' => ?_, fun k => ?_⟩
                · show (World.setCell _ _ _).cell? _ = _
                  by_cases hij : i' = r ∧ j' = j
                  · obtain ⟨rfl, rfl⟩ := hij
                    rw [World.cell?_setCell_same _ _ _ G3.out, HVD.out, uB_nat, Int.emod_eq_of_lt hv.1 (by omega)]
                  · rw [World.cell?_setCell_other _ _ _ _ (by first | (simp; done) | (simp; omega)), HC3.out i' j' hi' hj']
                    have : (j' < i ∧ (i' < r ∨ (i' = r ∧ j' < j))) ↔ (j' < i ∧ (i' < r ∨ (i' = r ∧ j' < j + 1))) := by omega
                    simp only [doneI, this]
                · show (World.setCell _ _ _).frozen? _ = _
                  have := HF3.out k
                  simp [this]
            · have hje : j = i := by have := HJK.out; omega
              subst hje
              go_wp2
              go_roundg (j - r - 1)
              case measure => have := HRK.out; omega
              case rel =>
                refine ⟨r + 1, by have := HRK.out; omega, by go_num, hgy, fun i' j' hi' hj' => ?_, HF3.out⟩
                rw [HC3.out i' j' hi' hj']
                have : (j' < j ∧ (i' < r ∨ (i' = r ∧ j' < j))) ↔ (j' < j ∧ (i' < r + 1 ∨ (i' = r + 1 ∧ j' < 0))) := by omega
                simp only [doneI, this]
        · have hre : r = i := by have := HRK.out; omega
          subst hre
          have hbw : Below w.heap.size w _ := pw_below_grown HBX.out (some ob) HBX.out.size hgx (fun k hk => by injection hk with hk; omega)
          have s0 := far_cell hgx (R1X.out 0 (by omega)) (show some (w.heap.size + 1) ≠ some ob from fun h => by injection h with h; omega)
          have f0 := far_frozen hgx (RFX.out 0) (World.block_lt_of_cell? _ _ (R1X.out 0 (by omega))) (show some (w.heap.size + 1) ≠ some ob from fun h => by injection h with h; omega)
          have s1 := far_cell hgx (R1X.out 1 (by omega)) (show some (w.heap.size + 1) ≠ some ob from fun h => by injection h with h; omega)
          have f1 := far_frozen hgx (RFX.out 1) (World.block_lt_of_cell? _ _ (R1X.out 1 (by omega))) (show some (w.heap.size + 1) ≠ some ob from fun h => by injection h with h; omega)
          have s2 := far_cell hgx (R1X.out 2 (by omega)) (show some (w.heap.size + 1) ≠ some ob from fun h => by injection h with h; omega)
          have f2 := far_frozen hgx (RFX.out 2) (World.block_lt_of_cell? _ _ (R1X.out 2 (by omega))) (show some (w.heap.size + 1) ≠ some ob from fun h => by injection h with h; omega)
          have s3 := far_cell hgx (R1X.out 3 (by omega)) (show some (w.heap.size + 1) ≠ some ob from fun h => by injection h with h; omega)
          have f3 := far_frozen hgx (RFX.out 3) (World.block_lt_of_cell? _ _ (R1X.out 3 (by omega))) (show some (w.heap.size + 1) ≠ some ob from fun h => by injection h with h; omega)
          have s4 := far_cell hgx (R1X.out 4 (by omega)) (show some (w.heap.size + 1) ≠ some ob from fun h => by injection h with h; omega)
          have f4 := far_frozen hgx (RFX.out 4) (World.block_lt_of_cell? _ _ (R1X.out 4 (by omega))) (show some (w.heap.size + 1) ≠ some ob from fun h => by injection h with h; omega)
          have s5 := far_cell hgx (R1X.out 5 (by omega)) (show some (w.heap.size + 1) ≠ some ob from fun h => by injection h with h; omega)
          have f5 := far_frozen hgx (RFX.out 5) (World.block_lt_of_cell? _ _ (R1X.out 5 (by omega))) (show some (w.heap.size + 1) ≠ some ob from fun h => by injection h with h; omega)
          have s6 := far_cell hgx (R1X.out 6 (by omega)) (show some (w.heap.size + 1) ≠ some ob from fun h => by injection h with h; omega)
          have f6 := far_frozen hgx (RFX.out 6) (World.block_lt_of_cell? _ _ (R1X.out 6 (by omega))) (show some (w.heap.size + 1) ≠ some ob from fun h => by injection h with h; omega)
          have s7 := far_cell hgx (R1X.out 7 (by omega)) (show some (w.heap.size + 1) ≠ some ob from fun h => by injection h with h; omega)
          have f7 := far_frozen hgx (RFX.out 7) (World.block_lt_of_cell? _ _ (R1X.out 7 (by omega))) (show some (w.heap.size + 1) ≠ some ob from fun h => by injection h with h; omega)
          have s8 := far_cell hgx (R1X.out 8 (by omega)) (show some (w.heap.size + 1) ≠ some ob from fun h => by injection h with h; omega)
          have f8 := far_frozen hgx (RFX.out 8) (World.block_lt_of_cell? _ _ (R1X.out 8 (by omega))) (show some (w.heap.size + 1) ≠ some ob from fun h => by injection h with h; omega)
          have o0 := HC.out 0 0 (by omega) (by omega)
          change _ = some (Value.int .u8 ((mkM (doneI p r g.num r 0)).r0.a.toNat : Int)) at o0
          have o1 := HC.out 0 1 (by omega) (by omega)
          change _ = some (Value.int .u8 ((mkM (doneI p r g.num r 0)).r0.b.toNat : Int)) at o1
          have o2 := HC.out 0 2 (by omega) (by omega)
          change _ = some (Value.int .u8 ((mkM (doneI p r g.num r 0)).r0.c.toNat : Int)) at o2
          have o3 := HC.out 1 0 (by omega) (by omega)
          change _ = some (Value.int .u8 ((mkM (doneI p r g.num r 0)).r1.a.toNat : Int)) at o3
          have o4 := HC.out 1 1 (by omega) (by omega)
          change _ = some (Value.int .u8 ((mkM (doneI p r g.num r 0)).r1.b.toNat : Int)) at o4
          have o5 := HC.out 1 2 (by omega) (by omega)
          change _ = some (Value.int .u8 ((mkM (doneI p r g.num r 0)).r1.c.toNat : Int)) at o5
          have o6 := HC.out 2 0 (by omega) (by omega)
          change _ = some (Value.int .u8 ((mkM (doneI p r g.num r 0)).r2.a.toNat : Int)) at o6
          have o7 := HC.out 2 1 (by omega) (by omega)
          change _ = some (Value.int .u8 ((mkM (doneI p r g.num r 0)).r2.b.toNat : Int)) at o7
          have o8 := HC.out 2 2 (by omega) (by omega)
          change _ = some (Value.int .u8 ((mkM (doneI p r g.num r 0)).r2.c.toNat : Int)) at o8
          rw [HDE.out] at o0 o1 o2 o3 o4 o5 o6 o7 o8
          generalize invM p r g.num = tm at *
          simp only [Nat.zero_mul, Nat.zero_add, Nat.one_mul, Nat.add_zero, Nat.reduceMul, Nat.reduceAdd] at o0 o1 o2 o3 o4 o5 o6 o7 o8
          go_wp2
          exact bodyPost_ret (v := .agg #[.int .u8 (tm.r0.a.toNat : Int), .int .u8 (tm.r0.b.toNat : Int), .int .u8 (tm.r0.c.toNat : Int), .int .u8 (tm.r1.a.toNat : Int), .int .u8 (tm.r1.b.toNat : Int), .int .u8 (tm.r1.c.toNat : Int), .int .u8 (tm.r2.a.toNat : Int), .int .u8 (tm.r2.b.toNat : Int), .int .u8 (tm.r2.c.toNat : Int)]) (by simp [results, Try.results67, go_sem, o0, o1, o2, o3, o4, o5, o6, o7, o8, s0, s1, s2, s3, s4, s5, s6, s7, s8]) rfl (.mk rfl bq1)
end Go.Proofs.Ytimjhehagimcaaa
namespace Go.Proofs.Ytimjhehagimcaaa
open Go.RowKit Go.Proofs.YtimjhehagimcaaaW.PrintWords
attribute [local go_sem] Later.cell Later.frozen Later.lt Later.lt_add Later.le Later.le_add Later.ne Later.ne' add_at
theorem l02Inverse_g {p n : Int} {g : M9} (hg : matB p n g = true) (w : World) : Calls Try.prog 68 #[.int .i64 p, .int .i64 n, .agg #[.int .u8 (g.r0.a.toNat : Int), .int .u8 (g.r0.b.toNat : Int), .int .u8 (g.r0.c.toNat : Int), .int .u8 (g.r1.a.toNat : Int), .int .u8 (g.r1.b.toNat : Int), .int .u8 (g.r1.c.toNat : Int), .int .u8 (g.r2.a.toNat : Int), .int .u8 (g.r2.b.toNat : Int), .int .u8 (g.r2.c.toNat : Int)]] w (fun e w' => ∃ m : M9, e = .returned (.tuple #[.agg #[.int .u8 (m.r0.a.toNat : Int), .int .u8 (m.r0.b.toNat : Int), .int .u8 (m.r0.c.toNat : Int), .int .u8 (m.r1.a.toNat : Int), .int .u8 (m.r1.b.toNat : Int), .int .u8 (m.r1.c.toNat : Int), .int .u8 (m.r2.a.toNat : Int), .int .u8 (m.r2.b.toNat : Int), .int .u8 (m.r2.c.toNat : Int)], .bool true]) ∧ m = invM p n.toNat g.num ∧ Below w.heap.size w w') := by
  obtain ⟨h1, h2, h3, h4, h5⟩ := matB_le hg
  obtain ⟨k1, k2, k3, k4⟩ := matB_of hg
  have := l02Inverse_c p n.toNat g w (primeZ_of k1) (by omega) (by omega) h1
  rw [Int.toNat_of_nonneg (by omega)] at this
  rw [decide_eq_true k4] at this
  exact this.mono fun e w' ⟨m, he, hm, hb⟩ => ⟨m, he, hm k4, hb⟩
theorem inverted_g {p n : Int} {g : M9} (hg : matB p n g = true) (w : World) : Calls Try.prog 67 #[.int .i64 p, .int .i64 n, .agg #[.int .u8 (g.r0.a.toNat : Int), .int .u8 (g.r0.b.toNat : Int), .int .u8 (g.r0.c.toNat : Int), .int .u8 (g.r1.a.toNat : Int), .int .u8 (g.r1.b.toNat : Int), .int .u8 (g.r1.c.toNat : Int), .int .u8 (g.r2.a.toNat : Int), .int .u8 (g.r2.b.toNat : Int), .int .u8 (g.r2.c.toNat : Int)]] w (Gives (.agg #[.int .u8 ((invM p n.toNat g.num).r0.a.toNat : Int), .int .u8 ((invM p n.toNat g.num).r0.b.toNat : Int), .int .u8 ((invM p n.toNat g.num).r0.c.toNat : Int), .int .u8 ((invM p n.toNat g.num).r1.a.toNat : Int), .int .u8 ((invM p n.toNat g.num).r1.b.toNat : Int), .int .u8 ((invM p n.toNat g.num).r1.c.toNat : Int), .int .u8 ((invM p n.toNat g.num).r2.a.toNat : Int), .int .u8 ((invM p n.toNat g.num).r2.b.toNat : Int), .int .u8 ((invM p n.toNat g.num).r2.c.toNat : Int)]) w) := by
  obtain ⟨h1, h2, h3, h4, h5⟩ := matB_le hg
  obtain ⟨k1, k2, k3, k4⟩ := matB_of hg
  have := inverted_c p n.toNat g w (primeZ_of k1) (by omega) (by omega) h1
  rwa [Int.toNat_of_nonneg (by omega)] at this
end Go.Proofs.Ytimjhehagimcaaa

