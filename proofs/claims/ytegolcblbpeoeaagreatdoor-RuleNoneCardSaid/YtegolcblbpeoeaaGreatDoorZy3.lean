/- From a reading of the arguments (DataW.trod) to the kinds: whatever reads as an api.Expr holds a plain expression; likewise rule.Step. Without conditions. Whatever reads as an api.Int, api.Datum, api.Expr, rule.Step holds a plain one. Without conditions. The package-level tables out of the row's premise. Without conditions. The card of RuleNone out of its walk: from a contract of the law to the given statement. The contract is a premise here. -/
import Derived.ChangeArms
import Derived.OpenShut
import Derived.FnData
import Derived.ChangeSame
import Derived.ChangeVars
import Derived.JoinedOf
import Derived.RowKit
import Derived.RowKitTokens
import Derived.LaidLaws
import Derived.LaidHandle
import Derived.Stop.Joined
import Derived.WalkKit
import Derived.ProofKit
import Derived.ShutString
import Derived.ChangeOld
import Derived.Below
import Derived.SevenTiedAt
import Derived.Test.YtegolcblbpeoeaaGreatDoorZc
import Derived.Test.YtegolcblbpeoeaaGreatDoorZd
import Derived.Test.YtegolcblbpeoeaaGreatDoorRows
import Derived.Test.YtegolcblbpeoeaaGreatDoorCards
import Derived.Test.YtegolcblbpeoeaaGreatDoorTie
namespace Go.Proofs.YtegolcblbpeoeaaGreatDoor
open Go.RowKit Go.Proofs.YtegolcblbpeoeaaGreatDoorW.PrintWords
set_option linter.unusedVariables false
set_option linter.unusedSimpArgs false
section
variable {H : Type} {enc : TypeId × Value → H} {w : World} {base : Nat} {spare : Nat → Bool} {held : Bool}
theorem opn_all {α : Type} {e : TypeId} {d : Kd α} {n : Nat} {cells : Nat → Option (List Value)} : ∀ (len : Nat) (elems : Nat → DataW H × List MemPlace),
    (∀ i, i < len → (cells i).bind (DataW.trod enc Tryz.prog w base spare held n e) = some (elems i)) →
    (∀ cs x, DataW.trod enc Tryz.prog w base spare held n e cs = some x → ∃ a, d.K w a cs) →
    ∃ xs : List α, xs.length = len ∧ ∀ i p, xs[i]? = some p → ∃ cs, cells i = some cs ∧ d.K w p cs
  | 0, _, _, _ => ⟨[], rfl, fun i p h => by simp at h⟩
  | len + 1, elems, h, hK => by
    obtain ⟨xs, hl, hx⟩ := opn_all len elems (fun i hi => h i (by omega)) hK
    obtain ⟨cs, hc, ht⟩ := Option.bind_eq_some_iff.1 (h len (by omega))
    obtain ⟨a, ha⟩ := hK cs _ ht
    refine ⟨xs ++ [a], by simp [hl], fun i p hp => ?_⟩
    rcases Nat.lt_or_ge i xs.length with hi | hi
    · rw [List.getElem?_append_left hi] at hp
      exact hx i p hp
    · rw [List.getElem?_append_right hi] at hp
      have h0 : i - xs.length = 0 := by
        rcases Nat.eq_zero_or_pos (i - xs.length) with h0 | h0
        · exact h0
        · rw [List.getElem?_eq_none (by simp; omega)] at hp; cases hp
      have hil : i = len := by omega
      rw [h0] at hp
      obtain rfl : a = p := by simpa using hp
      exact ⟨cs, by rw [hil]; exact hc, ha⟩
theorem mapM_len {n : Nat} {a : Addr} {cs : List Value} (h : w.cells? base a n = some cs) : cs.length = n ∧ ∀ i u, cs[i]? = some u → w.cell? (a.add i) = some u := by
  unfold World.cells? at h
  split at h
  · have hl := mapM_some_length h
    rw [List.length_range] at hl
    refine ⟨hl, fun i u hu => ?_⟩
    have hi : i < n := by rw [← hl]; exact (List.getElem?_eq_some_iff.1 hu).1
    have := mapM_some_get h i i (by simp [hi])
    rw [this, hu]
  · cases h
theorem opn_slice {α : Type} {t e : TypeId} {d : Kd α} {fuel : Nat} {cs : List Value} {x : DataW H × List MemPlace} (ht : Tryz.prog.underlying t = some (.slice e)) (hsz : Tryz.prog.cellsOf e = d.sz)
    (h : DataW.trod enc Tryz.prog w base spare held fuel t cs = some x)
    (ih : ∀ n, n < fuel → ∀ cs x, DataW.trod enc Tryz.prog w base spare held n e cs = some x → ∃ a, d.K w a cs) :
    ∃ (xs : List α) (A : Option Addr) (c : Nat), cs = [.slice A xs.length c] ∧ xs.length ≤ c ∧ d.C w A xs.length xs := by
  rcases DataW.trod_slice ht h with ⟨rfl, _⟩ | ⟨a, len, cap, elems, rest, n, hf, rfl, _, hb, hl, hm, hlen, hel, _⟩
  · exact ⟨[], none, 0, rfl, Nat.le_refl _, Kd.C_nil d w⟩
  · obtain ⟨xs, hx, hK⟩ := opn_all (d := d) len (fun i => elems.getD i (.nil, [])) (fun i hi => by
      rw [hel i hi, List.getD_eq_getElem?_getD, List.getElem?_eq_getElem (show i < elems.length by omega)]; rfl) (ih n (by omega))
    subst hx
    refine ⟨xs, some a, cap, rfl, hl, rfl, ?_, fun _ => ⟨a, rfl, fun j p hj => ?_⟩⟩
    · have : maxLen ≤ 9223372036854775807 := by decide
      omega
    · obtain ⟨c, hc, hp⟩ := hK j p hj
      rw [hsz] at hc
      obtain ⟨h1, h2⟩ := mapM_len hc
      refine ⟨c, h1, hp, fun i u hu => ?_⟩
      rw [← add_add]
      exact h2 i u hu
theorem opn_u32 {fuel : Nat} {cs : List Value} {x : DataW H × List MemPlace} (h : DataW.trod enc Tryz.prog w base spare held fuel 73 cs = some x) : ∃ a, (Kd.int .u32).K w a cs := by
  obtain ⟨n, rfl, _⟩ := DataW.trod_int Tryz.underlying73 h
  exact ⟨n, rfl⟩
theorem opn_int {fuel : Nat} {cs : List Value} {x : DataW H × List MemPlace} (h : DataW.trod enc Tryz.prog w base spare held fuel 3 cs = some x) : ∃ a, (Kd.int .i64).K w a cs := by
  obtain ⟨n, rfl, _⟩ := DataW.trod_int Tryz.underlying3 h
  exact ⟨n, rfl⟩
end
end Go.Proofs.YtegolcblbpeoeaaGreatDoor
namespace Go.Proofs.YtegolcblbpeoeaaGreatDoor
open Go.RowKit Go.Proofs.YtegolcblbpeoeaaGreatDoorW.PrintWords
set_option linter.unusedVariables false
set_option linter.unusedSimpArgs false
theorem opn_len2 (l : List Value) (h : l.length = 2) : ∃ c0 c1, l = [c0, c1] := by
  match l, h with
  | [c0, c1], _ => exact ⟨c0, c1, rfl⟩
theorem opn_len4 (l : List Value) (h : l.length = 4) : ∃ c0 c1 c2 c3, l = [c0, c1, c2, c3] := by
  match l, h with
  | [c0, c1, c2, c3], _ => exact ⟨c0, c1, c2, c3, rfl⟩
theorem opn_len7 (l : List Value) (h : l.length = 7) : ∃ c0 c1 c2 c3 c4 c5 c6, l = [c0, c1, c2, c3, c4, c5, c6] := by
  match l, h with
  | [c0, c1, c2, c3, c4, c5, c6], _ => exact ⟨c0, c1, c2, c3, c4, c5, c6, rfl⟩
theorem opn_len13 (l : List Value) (h : l.length = 13) : ∃ c0 c1 c2 c3 c4 c5 c6 c7 c8 c9 c10 c11 c12, l = [c0, c1, c2, c3, c4, c5, c6, c7, c8, c9, c10, c11, c12] := by
  match l, h with
  | [c0, c1, c2, c3, c4, c5, c6, c7, c8, c9, c10, c11, c12], _ => exact ⟨c0, c1, c2, c3, c4, c5, c6, c7, c8, c9, c10, c11, c12, rfl⟩
section
variable {H : Type} {enc : TypeId × Value → H} {w : World} {base : Nat} {spare : Nat → Bool} {held : Bool}
theorem opn_field {fs : Array Field} {t : TypeId} {fuel : Nat} {cs : List Value} {x : DataW H × List MemPlace} (ht : Tryz.prog.underlying t = some (.struct fs)) (h : DataW.trod enc Tryz.prog w base spare held fuel t cs = some x) :
    ∃ n, fuel = n + 1 ∧ cs.length = Tryz.prog.cellsOf t ∧ ∀ (i : Nat) (f : Field), fs[i]? = some f → ∃ y, DataW.trod enc Tryz.prog w base spare held n f.type ((cs.drop f.offset).take (Tryz.prog.cellsOf f.type)) = some y := by
  obtain ⟨xs, n, hf, _, hl, hxl, hx⟩ := DataW.trod_struct ht h
  refine ⟨n, hf, hl, fun i f hi => ?_⟩
  have hlt : i < fs.size := (Array.getElem?_eq_some_iff.1 hi).1
  exact ⟨xs[i]'(by omega), by rw [hx i f hi, List.getElem?_eq_getElem (by omega)]⟩
theorem cel4 : Tryz.prog.cellsOf 4 = 1 := by kernel_rfl
theorem cel3 : Tryz.prog.cellsOf 3 = 1 := by kernel_rfl
theorem cel9 : Tryz.prog.cellsOf 9 = 1 := by kernel_rfl
theorem cel73 : Tryz.prog.cellsOf 73 = 1 := by kernel_rfl
theorem cel22 : Tryz.prog.cellsOf 22 = 1 := by kernel_rfl
theorem cel28 : Tryz.prog.cellsOf 28 = 1 := by kernel_rfl
theorem cel25 : Tryz.prog.cellsOf 25 = 1 := by kernel_rfl
theorem cel29 : Tryz.prog.cellsOf 29 = 1 := by kernel_rfl
theorem cel24 : Tryz.prog.cellsOf 24 = 2 := by kernel_rfl
theorem cel27 : Tryz.prog.cellsOf 27 = 7 := by kernel_rfl
theorem cel31 : Tryz.prog.cellsOf 31 = 13 := by kernel_rfl
theorem cel33 : Tryz.prog.cellsOf 33 = 4 := by kernel_rfl
theorem opn_I {fuel : Nat} {cs : List Value} {x : DataW H × List MemPlace} (h : DataW.trod enc Tryz.prog w base spare held fuel 24 cs = some x) : ∃ a, kI.K w a cs := by
  obtain ⟨n, _, hl, hf⟩ := opn_field Tryz.underlying24 h
  rw [cel24] at hl
  obtain ⟨y0, h0⟩ := hf 0 _ rfl
  obtain ⟨y1, h1⟩ := hf 1 _ rfl
  obtain ⟨c0, c1, rfl⟩ := opn_len2 cs hl
  change DataW.trod enc Tryz.prog w base spare held n 4 (List.take (Tryz.prog.cellsOf 4) [c0, c1]) = _ at h0
  change DataW.trod enc Tryz.prog w base spare held n 22 (List.take (Tryz.prog.cellsOf 22) [c1]) = _ at h1
  rw [cel4] at h0
  rw [cel22] at h1
  obtain ⟨b, e0, _⟩ := DataW.trod_bool Tryz.underlying4 h0
  obtain ⟨l, A, c, e1, hlc, hC⟩ := opn_slice (d := Kd.int .u32) Tryz.underlying22 (by rw [cel73]; rfl) h1 (fun n _ cs x h => opn_u32 h)
  have e0 : c0 = .bool b := by simpa using e0
  have e1 : c1 = .slice A l.length c := by simpa using e1
  subst e0; subst e1
  exact ⟨⟨b, l⟩, kI_mk w ⟨b, l⟩ hlc hC⟩
theorem opn_D (fuel : Nat) : ∀ {cs : List Value} {x : DataW H × List MemPlace} (h : DataW.trod enc Tryz.prog w base spare held fuel 27 cs = some x), ∃ a, kD.K w a cs := by
  induction fuel using Nat.strongRecOn with
  | ind fuel ih =>
  intro cs x h
  obtain ⟨n, rfl, hl, hf⟩ := opn_field Tryz.underlying27 h
  rw [cel27] at hl
  obtain ⟨y0, h0⟩ := hf 0 _ rfl
  obtain ⟨y1, h1⟩ := hf 1 _ rfl
  obtain ⟨y2, h2⟩ := hf 2 _ rfl
  obtain ⟨y3, h3⟩ := hf 3 _ rfl
  obtain ⟨y4, h4⟩ := hf 4 _ rfl
  obtain ⟨y5, h5⟩ := hf 5 _ rfl
  obtain ⟨c0, c1, c2, c3, c4, c5, c6, rfl⟩ := opn_len7 cs hl
  change DataW.trod enc Tryz.prog w base spare held n 3 (List.take (Tryz.prog.cellsOf 3) [c0, c1, c2, c3, c4, c5, c6]) = _ at h0
  change DataW.trod enc Tryz.prog w base spare held n 24 (List.take (Tryz.prog.cellsOf 24) [c1, c2, c3, c4, c5, c6]) = _ at h1
  change DataW.trod enc Tryz.prog w base spare held n 4 (List.take (Tryz.prog.cellsOf 4) [c3, c4, c5, c6]) = _ at h2
  change DataW.trod enc Tryz.prog w base spare held n 9 (List.take (Tryz.prog.cellsOf 9) [c4, c5, c6]) = _ at h3
  change DataW.trod enc Tryz.prog w base spare held n 25 (List.take (Tryz.prog.cellsOf 25) [c5, c6]) = _ at h4
  change DataW.trod enc Tryz.prog w base spare held n 25 (List.take (Tryz.prog.cellsOf 25) [c6]) = _ at h5
  rw [cel3] at h0
  rw [cel24] at h1
  rw [cel4] at h2
  rw [cel9] at h3
  rw [cel25] at h4 h5
  obtain ⟨k, e0, _⟩ := DataW.trod_int Tryz.underlying3 h0
  obtain ⟨i, hi⟩ := opn_I h1
  obtain ⟨A1, d1, e1, l1, g1⟩ := kI_open hi
  obtain ⟨b, e2, _⟩ := DataW.trod_bool Tryz.underlying4 h2
  obtain ⟨s, e3, _⟩ := DataW.trod_string Tryz.underlying9 h3
  obtain ⟨it, A5, d5, e4, l5, g5⟩ := opn_slice (d := kD) Tryz.underlying25 (by rw [cel27]; rfl) h4 (fun m hm cs x h => ih m (by omega) h)
  obtain ⟨tl, A6, d6, e5, l6, g6⟩ := opn_slice (d := kD) Tryz.underlying25 (by rw [cel27]; rfl) h5 (fun m hm cs x h => ih m (by omega) h)
  have e0 : c0 = .int .i64 k := by simpa using e0
  have e1 : c1 = .bool i.neg ∧ c2 = .slice A1 i.l.length d1 := by simpa using e1
  have e2 : c3 = .bool b := by simpa using e2
  have e3 : c4 = .string s := by simpa using e3
  have e4 : c5 = .slice A5 it.length d5 := by simpa using e4
  have e5 : c6 = .slice A6 tl.length d6 := by simpa using e5
  obtain ⟨e1, e1'⟩ := e1
  subst e0; subst e1; subst e1'; subst e2; subst e3; subst e4; subst e5
  exact ⟨⟨k, i, b, s, it, tl⟩, kD_mk w ⟨k, i, b, s, it, tl⟩ l1 g1 l5 g5 l6 g6⟩
theorem opn_E (fuel : Nat) : ∀ {cs : List Value} {x : DataW H × List MemPlace} (h : DataW.trod enc Tryz.prog w base spare held fuel 31 cs = some x), ∃ a, kE.K w a cs := by
  induction fuel using Nat.strongRecOn with
  | ind fuel ih =>
  intro cs x h
  obtain ⟨n, rfl, hl, hf⟩ := opn_field Tryz.underlying31 h
  rw [cel31] at hl
  obtain ⟨y0, h0⟩ := hf 0 _ rfl
  obtain ⟨y1, h1⟩ := hf 1 _ rfl
  obtain ⟨y2, h2⟩ := hf 2 _ rfl
  obtain ⟨y3, h3⟩ := hf 3 _ rfl
  obtain ⟨y4, h4⟩ := hf 4 _ rfl
  obtain ⟨y5, h5⟩ := hf 5 _ rfl
  obtain ⟨y6, h6⟩ := hf 6 _ rfl
  obtain ⟨c0, c1, c2, c3, c4, c5, c6, c7, c8, c9, c10, c11, c12, rfl⟩ := opn_len13 cs hl
  change DataW.trod enc Tryz.prog w base spare held n 3 (List.take (Tryz.prog.cellsOf 3) [c0, c1, c2, c3, c4, c5, c6, c7, c8, c9, c10, c11, c12]) = _ at h0
  change DataW.trod enc Tryz.prog w base spare held n 27 (List.take (Tryz.prog.cellsOf 27) [c1, c2, c3, c4, c5, c6, c7, c8, c9, c10, c11, c12]) = _ at h1
  change DataW.trod enc Tryz.prog w base spare held n 3 (List.take (Tryz.prog.cellsOf 3) [c8, c9, c10, c11, c12]) = _ at h2
  change DataW.trod enc Tryz.prog w base spare held n 28 (List.take (Tryz.prog.cellsOf 28) [c9, c10, c11, c12]) = _ at h3
  change DataW.trod enc Tryz.prog w base spare held n 4 (List.take (Tryz.prog.cellsOf 4) [c10, c11, c12]) = _ at h4
  change DataW.trod enc Tryz.prog w base spare held n 3 (List.take (Tryz.prog.cellsOf 3) [c11, c12]) = _ at h5
  change DataW.trod enc Tryz.prog w base spare held n 29 (List.take (Tryz.prog.cellsOf 29) [c12]) = _ at h6
  rw [cel3] at h0 h2 h5
  rw [cel27] at h1
  rw [cel28] at h3
  rw [cel4] at h4
  rw [cel29] at h6
  obtain ⟨k, e0, _⟩ := DataW.trod_int Tryz.underlying3 h0
  obtain ⟨d, hd⟩ := opn_D n h1
  obtain ⟨A3, a3, A6, a6, A7, a7, e1, l3, g3, l6, g6, l7, g7⟩ := kD_open hd
  obtain ⟨v, e2, _⟩ := DataW.trod_int Tryz.underlying3 h2
  obtain ⟨vs, A9, a9, e3, l9, g9⟩ := opn_slice (d := Kd.int .i64) Tryz.underlying28 (by rw [cel3]; rfl) h3 (fun n _ cs x h => opn_int h)
  obtain ⟨r, e4, _⟩ := DataW.trod_bool Tryz.underlying4 h4
  obtain ⟨p, e5, _⟩ := DataW.trod_int Tryz.underlying3 h5
  obtain ⟨ks, A12, a12, e6, l12, g12⟩ := opn_slice (d := kE) Tryz.underlying29 (by rw [cel31]; rfl) h6 (fun m hm cs x h => ih m (by omega) h)
  have e0 : c0 = .int .i64 k := by simpa using e0
  have e1 : c1 = .int .i64 d.kind ∧ c2 = .bool d.i.neg ∧ c3 = .slice A3 d.i.l.length a3 ∧ c4 = .bool d.b ∧ c5 = .string d.s ∧ c6 = .slice A6 d.items.length a6 ∧ c7 = .slice A7 d.tail.length a7 := by simpa using e1
  have e2 : c8 = .int .i64 v := by simpa using e2
  have e3 : c9 = .slice A9 vs.length a9 := by simpa using e3
  have e4 : c10 = .bool r := by simpa using e4
  have e5 : c11 = .int .i64 p := by simpa using e5
  have e6 : c12 = .slice A12 ks.length a12 := by simpa using e6
  obtain ⟨q1, q2, q3, q4, q5, q6, q7⟩ := e1
  subst e0; subst q1; subst q2; subst q3; subst q4; subst q5; subst q6; subst q7; subst e2; subst e3; subst e4; subst e5; subst e6
  exact ⟨⟨k, d, v, vs, r, p, ks⟩, kE_mk w ⟨k, d, v, vs, r, p, ks⟩ l3 g3 l6 g6 l7 g7 l9 g9 l12 g12⟩
theorem opn_S (fuel : Nat) {cs : List Value} {x : DataW H × List MemPlace} (h : DataW.trod enc Tryz.prog w base spare held fuel 33 cs = some x) : ∃ (r : Int) (path : List Int) (A : Option Addr) (c : Nat) (k : Int) (no : Bool), cs = [.int .i64 r, .slice A path.length c, .int .i64 k, .bool no] ∧ path.length ≤ c ∧ (Kd.int .i64).C w A path.length path := by
  obtain ⟨n, _, hl, hf⟩ := opn_field Tryz.underlying33 h
  rw [cel33] at hl
  obtain ⟨y0, h0⟩ := hf 0 _ rfl
  obtain ⟨y1, h1⟩ := hf 1 _ rfl
  obtain ⟨y2, h2⟩ := hf 2 _ rfl
  obtain ⟨y3, h3⟩ := hf 3 _ rfl
  obtain ⟨c0, c1, c2, c3, rfl⟩ := opn_len4 cs hl
  change DataW.trod enc Tryz.prog w base spare held n 3 (List.take (Tryz.prog.cellsOf 3) [c0, c1, c2, c3]) = _ at h0
  change DataW.trod enc Tryz.prog w base spare held n 28 (List.take (Tryz.prog.cellsOf 28) [c1, c2, c3]) = _ at h1
  change DataW.trod enc Tryz.prog w base spare held n 3 (List.take (Tryz.prog.cellsOf 3) [c2, c3]) = _ at h2
  change DataW.trod enc Tryz.prog w base spare held n 4 (List.take (Tryz.prog.cellsOf 4) [c3]) = _ at h3
  rw [cel3] at h0 h2
  rw [cel28] at h1
  rw [cel4] at h3
  obtain ⟨r, e0, _⟩ := DataW.trod_int Tryz.underlying3 h0
  obtain ⟨path, A, c, e1, lc, hC⟩ := opn_slice (d := Kd.int .i64) Tryz.underlying28 (by rw [cel3]; rfl) h1 (fun n _ cs x h => opn_int h)
  obtain ⟨k, e2, _⟩ := DataW.trod_int Tryz.underlying3 h2
  obtain ⟨no, e3, _⟩ := DataW.trod_bool Tryz.underlying4 h3
  have e0 : c0 = .int .i64 r := by simpa using e0
  have e1 : c1 = .slice A path.length c := by simpa using e1
  have e2 : c2 = .int .i64 k := by simpa using e2
  have e3 : c3 = .bool no := by simpa using e3
  subst e0; subst e1; subst e2; subst e3
  exact ⟨r, path, A, c, k, no, rfl, lc, hC⟩
end
end Go.Proofs.YtegolcblbpeoeaaGreatDoor
namespace Go.Proofs.YtegolcblbpeoeaaGreatDoor
open Go.RowKit Go.Proofs.YtegolcblbpeoeaaGreatDoorW.PrintWords
set_option linter.unusedVariables false
set_option linter.unusedSimpArgs false
section
variable {H : Type} {enc : TypeId × Value → H} {w : World} {base : Nat} {spare : Nat → Bool} {held : Bool} {fuel : Nat} {t : TypeId} {cs : List Value} {p : List MemPlace}
theorem bytes_ext {a b : ByteArray} (h : a.data.toList = b.data.toList) : a = b := by
  cases a; cases b
  simp only at h
  rw [Array.toList_inj] at h
  rw [h]
theorem laid_at {n : Nat} {e : TypeId} (ht : Tryz.prog.underlying t = some (.array n e)) (hc : Tryz.prog.cellsOf e = 1) (hn : Tryz.prog.cellsOf t = n) {ds : List (DataW H)} (h : DataW.trod enc Tryz.prog w base spare held fuel t cs = some (.agg ds, p)) :
    ds.length = n ∧ ∀ i, i < n → ∃ (v : Value) (m : Nat) (q : List MemPlace) (d : DataW H), cs[i]? = some v ∧ ds[i]? = some d ∧ DataW.trod enc Tryz.prog w base spare held m e [v] = some (d, q) := by
  obtain ⟨xs, m, _, hx, hl, hxl, hel⟩ := DataW.trod_array ht h
  injection hx with hx _
  injection hx with hx
  subst hx
  refine ⟨by simpa using hxl, fun i hi => ?_⟩
  have h1 := hel i hi
  rw [hc, Nat.mul_one, List.getElem?_eq_getElem (show i < xs.length by omega)] at h1
  have hil : i < cs.length := by omega
  rw [List.drop_eq_getElem_cons hil, List.take_succ_cons, List.take_zero] at h1
  exact ⟨cs[i], m, (xs[i]'(by omega)).2, (xs[i]'(by omega)).1, List.getElem?_eq_getElem hil, by simp [List.getElem?_map, List.getElem?_eq_getElem (show i < xs.length by omega)], h1⟩
theorem laid_strs {n : Nat} {e : TypeId} (ht : Tryz.prog.underlying t = some (.array n e)) (he : Tryz.prog.underlying e = some .string) (hc : Tryz.prog.cellsOf e = 1) (hn : Tryz.prog.cellsOf t = n) (ss : List ByteArray)
    (h : DataW.trod enc Tryz.prog w base spare held fuel t cs = some (.agg (ss.map fun s => .lit (.string s.data.toList)), p)) : ∀ (j : Nat) u, (ss.map Value.string)[j]? = some u → cs[j]? = some u := by
  obtain ⟨hl, hel⟩ := laid_at ht hc hn h
  intro j u hj
  rw [List.getElem?_map, Option.map_eq_some_iff] at hj
  obtain ⟨s, hs, rfl⟩ := hj
  have hjn : j < n := by
    have := (List.getElem?_eq_some_iff.1 hs).1
    rw [List.length_map] at hl; omega
  obtain ⟨v, m, q, d, h1, h2, h3⟩ := hel j hjn
  obtain ⟨s', e1, e2, _⟩ := DataW.trod_string he h3
  rw [List.getElem?_map, hs] at h2
  have e1 : v = .string s' := List.singleton_inj.1 e1
  have e2 : d = .lit (.string s'.data.toList) := congrArg Prod.fst e2
  have e3 : DataW.lit (H := H) (.string s.data.toList) = .lit (.string s'.data.toList) := (Option.some.inj h2).trans e2
  rw [h1, e1, bytes_ext (Lit.string.inj (DataW.lit.inj e3))]
theorem laid_ints {n : Nat} {e : TypeId} (ht : Tryz.prog.underlying t = some (.array n e)) (he : Tryz.prog.underlying e = some (.int .i64)) (hc : Tryz.prog.cellsOf e = 1) (hn : Tryz.prog.cellsOf t = n) (zs : List Int)
    (h : DataW.trod enc Tryz.prog w base spare held fuel t cs = some (.agg (zs.map fun z => .lit (.int .i64 z)), p)) : ∀ (j : Nat) u, (zs.map (Value.int .i64))[j]? = some u → cs[j]? = some u := by
  obtain ⟨hl, hel⟩ := laid_at ht hc hn h
  intro j u hj
  rw [List.getElem?_map, Option.map_eq_some_iff] at hj
  obtain ⟨z, hz, rfl⟩ := hj
  have hjn : j < n := by
    have := (List.getElem?_eq_some_iff.1 hz).1
    rw [List.length_map] at hl; omega
  obtain ⟨v, m, q, d, h1, h2, h3⟩ := hel j hjn
  obtain ⟨z', e1, e2, _⟩ := DataW.trod_int he h3
  rw [List.getElem?_map, hz] at h2
  have e1 : v = .int .i64 z' := List.singleton_inj.1 e1
  have e2 : d = .lit (.int .i64 z') := congrArg Prod.fst e2
  have e3 : DataW.lit (H := H) (.int .i64 z) = .lit (.int .i64 z') := (Option.some.inj h2).trans e2
  rw [h1, e1, (Lit.int.inj (DataW.lit.inj e3)).2]
end
theorem laid_namesT : (Rows.laid_pavane_expand_names : DataW Unit) = .agg (namesT.map fun s => .lit (.string s.data.toList)) := by kernel_rfl
theorem laid_aritT : (Rows.laid_pavane_expand_arities : DataW Unit) = .agg (aritT.map fun z => .lit (.int .i64 z)) := by kernel_rfl
theorem laid_impT : (Rows.laid_pavane_prim_impure : DataW Unit) = .agg (([24, 26, 27] : List Int).map fun z => .lit (.int .i64 z)) := by kernel_rfl
theorem laid_cell {W : World} {nm : String} {g : Nat} {cs : Array Value} (hg : Tryz.prog.globalNamed nm = some g) (hv : W.var? Tryz.prog nm = some cs) {l : List Value} (h : ∀ (j : Nat) u, l[j]? = some u → cs.toList[j]? = some u) :
    ∀ (j : Nat) u, l[j]? = some u → W.cell? ((⟨g, 0, none⟩ : Addr).add j) = some u := fun j u hj => by
  rw [add_plain, World.var?_cell hg hv, ← Array.getElem?_toList]
  exact h j u hj
theorem laid_of_met {W : World} (h : laidMetH Tryz.prog Rows.ruleNoneRow.laid W) : Laid W := by
  have h : laidMet Tryz.prog Rows.ruleNoneRow.laid W := h
  obtain ⟨ps, ⟨g1, t1, c1, f1, p1, q1, a1, b1, v1, d1, ⟨g2, t2, c2, f2, p2, q2, a2, b2, v2, d2, ⟨g3, t3, c3, f3, p3, q3, a3, b3, v3, d3, _⟩, _⟩, _⟩, _⟩ := h
  obtain rfl := Option.some.inj (a1.symm.trans (show Tryz.prog.globalNamed "pavane/expand.names" = some 1 by kernel_rfl))
  obtain rfl := Option.some.inj (a2.symm.trans (show Tryz.prog.globalNamed "pavane/expand.arities" = some 2 by kernel_rfl))
  obtain rfl := Option.some.inj (a3.symm.trans (show Tryz.prog.globalNamed "pavane/prim.impure" = some 0 by kernel_rfl))
  obtain rfl := Option.some.inj (b1.symm.trans (show (Tryz.prog.globals[1]?).map (·.type) = some 145 by kernel_rfl))
  obtain rfl := Option.some.inj (b2.symm.trans (show (Tryz.prog.globals[2]?).map (·.type) = some 146 by kernel_rfl))
  obtain rfl := Option.some.inj (b3.symm.trans (show (Tryz.prog.globals[0]?).map (·.type) = some 109 by kernel_rfl))
  rw [laid_namesT] at d1
  rw [laid_aritT] at d2
  rw [laid_impT] at d3
  exact ⟨laid_cell a1 v1 (laid_strs Tryz.underlying145 Tryz.underlying9 cel9 (by kernel_rfl) namesT d1),
    laid_cell a2 v2 (laid_ints Tryz.underlying146 Tryz.underlying3 cel3 (by kernel_rfl) aritT d2),
    laid_cell a3 v3 (laid_ints Tryz.underlying109 Tryz.underlying3 cel3 (by kernel_rfl) [24, 26, 27] d3)⟩
end Go.Proofs.YtegolcblbpeoeaaGreatDoor
namespace Go.Proofs.YtegolcblbpeoeaaGreatDoor
open Go.ChangeShapes Go.WideShapes Go.ChangeAt Go.RowKit Go.Proofs.YtegolcblbpeoeaaGreatDoorW.PrintWords
set_option linter.unusedVariables false
set_option linter.unusedSimpArgs false
theorem ownKnob0 : ownKnob Tryz.prog.godebug = none := by kernel_rfl
theorem laidOut0 : laidOutB Tryz.prog = true := by kernel_rfl
/-- A world that meets the condition: the settled one, the tables laid. -/
noncomputable def laidWorld (os : Os) : World :=
  let w0 := World.holding Tryz.prog os ⟨#[], #[], []⟩
  { w0 with heap := ((w0.heap.modify 1 fun
      | .cells _ t frozen => .cells (namesT.map Value.string).toArray t frozen
      | o => o).modify 2 fun
      | .cells _ t frozen => .cells (aritT.map (Value.int .i64)).toArray t frozen
      | o => o).modify 0 fun
      | .cells _ t frozen => .cells (([24, 26, 27] : List Int).map (Value.int .i64)).toArray t frozen
      | o => o }
theorem laidWorld_met (os : Os) (args : Array Value) : laidMetH Tryz.prog Rows.ruleNoneRow.laid ((laidWorld os).forCall (fun _ _ => 0) ⟨#[], args, []⟩).memory :=
  show laidMet Tryz.prog Rows.ruleNoneRow.laid _ from laidMet_of_run' 8 (by kernel_rfl) (by kernel_rfl)
/-- What a contract of the law says. -/
def Walk : Prop := ∀ (x : Ex) (cs : List Value) (r : Int) (path : List Int) (A : Option Addr) (c : Nat) (k : Int) (no : Bool) (W : World), kE.K W x cs → (Kd.int .i64).C W A path.length path → path.length ≤ c → Laid W →
  Calls Tryz.prog 3 #[.agg cs.toArray, .agg ([.int .i64 r, .slice A path.length c, .int .i64 k, .bool no] : List Value).toArray] W fun e W' => e = .returned (.bool true) ∧ Below W.heap.size W W'
set_option maxRecDepth 100000 in
theorem lifted (walk : Walk) (os : Os) (started : os.Started) (H : Type) (enc : TypeId × Value → H) :
    ReturnsInHanded {} Tryz.checked os 3 .any (fun w args => (Rows.ruleNoneSpec.pre enc Tryz.prog Tryz.f3 Rows.ruleNoneRow.domain false w args ∧ laidMetH Tryz.prog Rows.ruleNoneRow.laid w) ∧ sizedMet enc Tryz.prog Tryz.f3 (OpenSpec.ofChange Rows.ruleNoneSpec) false w args)
      (Rows.ruleNoneSpec.post enc Tryz.prog Tryz.f3 false true false false) := by
  refine returnsInHanded_of_change_and (C := Tryz.checked) (X := fun w _ => laidMetH Tryz.prog Rows.ruleNoneRow.laid w) (fun _ _ _ hh h => h.of_heap hh) ownKnob0 started (by kernel_rfl) Tryz.func3
    (ChangeSpec.witness_at (enc := enc) (C := Tryz.checked) (os := os) (X := fun w _ => laidMetH Tryz.prog Rows.ruleNoneRow.laid w) false (laidWorld os) #[.agg #[.int .i64 0, .int .i64 0, .bool false, .slice none 0 0, .bool false, .string ⟨#[]⟩, .slice none 0 0, .slice none 0 0, .int .i64 0, .slice none 0 0, .bool false, .int .i64 0, .slice none 0 0], .agg #[.int .i64 0, .slice none 0 0, .int .i64 0, .bool false]] 8 rfl (by kernel_rfl) (by kernel_rfl) (by kernel_rfl) (by kernel_rfl) (by kernel_rfl) (laidWorld_met os _)) ?_
  intro W base args ds gs before hval0 hW _ _ hL _
  have hval : ∀ (j : Nat) t v, Tryz.f3.params[j]? = some t → args[j]? = some v → Value.okWide Tryz.prog W .any base t v := hval0
  have hW' := hW
  obtain ⟨p, q, hA0, hV, rfl, hfz, hnd⟩ := hW
  have hA : DataW.TrodAll enc Tryz.prog W 0 (fun _ => true) true Tryz.f3.params.toList args.toList ds p := hA0
  rw [Tryz.params3] at hA hval
  obtain ⟨v0, vs0, d0, ds0, p0, q0, hargs, rfl, rfl, h0, r0⟩ := trodAll_cons hA
  obtain ⟨v1, vs1, d1, ds1, p1, q1, rfl, rfl, rfl, h1, r1⟩ := trodAll_cons r0
  obtain ⟨rfl, rfl, rfl⟩ := trodAll_nil r1
  obtain rfl : args = #[v0, v1] := by cases args; simp_all
  obtain ⟨rfl, rfl⟩ := trodVars_none hV
  obtain ⟨c0, rfl, _⟩ := okWide_struct Tryz.underlying31 (hval 0 31 v0 rfl rfl)
  obtain ⟨c1, rfl, _⟩ := okWide_struct Tryz.underlying33 (hval 1 33 v1 rfl rfl)
  have k0 := h0
  have k1 := h1
  have lt0 : ∀ x ∈ p0, x.block < W.heap.size := by obtain ⟨m, hm⟩ := k0; exact DataW.trod_lt m _ _ _ hm
  have lt1 : ∀ x ∈ p1, x.block < W.heap.size := by obtain ⟨m, hm⟩ := k1; exact DataW.trod_lt m _ _ _ hm
  obtain ⟨m0, hf0⟩ := h0
  obtain ⟨m1, hf1⟩ := h1
  have hf0 : DataW.trod enc Tryz.prog W 0 (fun _ => true) true m0 31 c0.toList = some (d0, p0) := hf0
  have hf1 : DataW.trod enc Tryz.prog W 0 (fun _ => true) true m1 33 c1.toList = some (d1, p1) := hf1
  obtain ⟨x, hx⟩ := opn_E m0 hf0
  obtain ⟨r, path, A, c, k, no, hst, hpc, hp⟩ := opn_S m1 hf1
  have hL' := laid_of_met hL
  have hw := walk x c0.toList r path A c k no W hx hp hpc hL'
  rw [← hst, Array.toArray_toList, Array.toArray_toList] at hw
  clear hA0 hval0
  refine hw.mono fun e W' ⟨he, bel⟩ => ?_
  subst he
  exact ⟨_, rfl, _, _, _, [], _, [], hW', trodAll_mk1 (shut_bool Tryz.underlying4 _), trodAll_cons_mk (Below.trod laidOut0 (by kernel_rfl) (of_decide_eq_true (by kernel_rfl)) k0 bel lt0) (trodAll_cons_mk (Below.trod laidOut0 (by kernel_rfl) (of_decide_eq_true (by kernel_rfl)) k1 bel lt1) trodAll_mk0), rfl, bel.frame _, fun h => by cases h⟩
theorem said_of (walk : Walk) : Rows.RuleNoneSaid :=
  OpenClaim.holds_of_wide 3 Tryz.f3 rfl rfl rfl rfl rfl rfl rfl ⟨rfl, rfl, rfl, rfl, rfl⟩ rfl rfl rfl rfl rfl (by kernel_rfl) Tryz.func3 (by kernel_rfl)
    (of_decide_eq_true (by kernel_rfl)) (by unfold Func.isWrapper; first | (rw [if_pos (by decide +kernel)]; kernel_rfl) | (rw [if_neg (by decide +kernel)]; exact ⟨rfl, rfl⟩))
    (fun os started H enc _ => lifted walk os started H enc)
theorem card_of (walk : Walk) : Rows.RuleNoneCardSaid :=
  Claim7.holds_tied_plain_at .later [] [.data, .data, .data] true (true, "16099405e7e4763c3befe150cd8ed412b193f7db43fcc912c16a8c977b717bcf") false
    (said_of walk) (fun _ h => by cases h) (by kernel_rfl) (fun _ h => by cases h) ruleNone_row_tie rfl ⟨rfl, rfl⟩ (by kernel_rfl) rfl
    (fun f fn hf hfn => by
      obtain rfl : f = 3 := Option.some.inj ((show Tryz.prog.funcNamed "pavane/pavanelaw11.RuleNone" = some 3 by kernel_rfl).symm.trans hf) |>.symm
      obtain rfl : fn = Tryz.f3 := (Option.some.inj (Tryz.func3.symm.trans hfn)).symm
      exact ⟨by kernel_rfl, fun j t ht => by
        rw [Tryz.params3] at ht
        have h3 : t = 31 ∨ t = 33 := by
          rcases j with _ | _ | j
          · left; simpa using ht.symm
          · right; simpa using ht.symm
          · simp at ht
        rcases h3 with rfl | rfl
        · exact (show Tryz.prog.wantsStandIn 31 = false by kernel_rfl)
        · exact (show Tryz.prog.wantsStandIn 33 = false by kernel_rfl)⟩)
    (by kernel_rfl)
end Go.Proofs.YtegolcblbpeoeaaGreatDoor
