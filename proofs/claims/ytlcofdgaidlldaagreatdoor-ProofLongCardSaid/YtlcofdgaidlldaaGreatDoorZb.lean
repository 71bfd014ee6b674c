/- The program's data as Lean structures: api.Int, api.Datum, api.Expr. Nothing of Go stands here. Without conditions. Plain Lean: what core.within reckons. No condition. Plain Lean: what the small functions of prim, rule and core reckon. No condition. Plain Lean: what datum.Good reckons. No condition. Plain Lean: core.plain, binds, Good, free. No condition. Whole numbers as limbs to base 2^32, the lowest first: their value; the canonical limbs of a number; what trimming leaves. Without conditions. -/
namespace Go.Proofs.YtlcofdgaidlldaaGreatDoor
structure BI where
  neg : Bool
  l : (List Int)
def zI : BI := ⟨false, ([] : List Int)⟩
structure Dt where
  kind : Int
  i : BI
  b : Bool
  s : ByteArray
  items : (List Dt)
  tail : (List Dt)
def zD : Dt := ⟨(0 : Int), zI, false, (⟨#[]⟩ : ByteArray), ([] : List Dt), ([] : List Dt)⟩
structure Ex where
  kind : Int
  d : Dt
  v : Int
  vars : (List Int)
  rest : Bool
  p : Int
  kids : (List Ex)
def zE : Ex := ⟨(0 : Int), zD, (0 : Int), ([] : List Int), false, (0 : Int), ([] : List Ex)⟩
end Go.Proofs.YtlcofdgaidlldaaGreatDoor
namespace Go.Proofs.YtlcofdgaidlldaaGreatDoor
def rdE (xs : List Ex) (i : Int) : Ex := xs.getD i.toNat zE
def rdD (xs : List Dt) (i : Int) : Dt := xs.getD i.toNat zD
mutual
def Ex.within : Ex → Int → Int → Int
  | ⟨_, _, _, _, _, _, kids⟩, left, deep => if left - 1 < 0 ∨ deep < 1 then -1 else Ex.withinL kids (left - 1) (deep - 1)
def Ex.withinL : List Ex → Int → Int → Int
  | [], left, _ => left
  | k :: ks, left, deep => if k.within left deep < 0 then -1 else Ex.withinL ks (k.within left deep) deep
end
theorem Ex.within_eq (x : Ex) (left deep : Int) : x.within left deep = if left - 1 < 0 ∨ deep < 1 then -1 else Ex.withinL x.kids (left - 1) (deep - 1) := by
  cases x; rw [Ex.within]
mutual
theorem Ex.within_le : (x : Ex) → (left deep : Int) → x.within left deep ≤ left ∨ x.within left deep = -1
  | ⟨_, _, _, _, _, _, kids⟩, left, deep => by
    rw [Ex.within]
    split
    · exact .inr rfl
    · rcases Ex.withinL_le kids (left - 1) (deep - 1) with h | h
      · exact .inl (by omega)
      · exact .inr h
theorem Ex.withinL_le : (l : List Ex) → (left deep : Int) → Ex.withinL l left deep ≤ left ∨ Ex.withinL l left deep = -1
  | [], left, deep => .inl (Int.le_refl _)
  | k :: ks, left, deep => by
    rw [Ex.withinL]
    split
    · exact .inr rfl
    · rcases Ex.withinL_le ks (k.within left deep) deep with h | h
      · rcases Ex.within_le k left deep with h' | h' <;> exact .inl (by omega)
      · exact .inr h
end
theorem rdE_get {l : List Ex} {k : Nat} (h : k < l.length) : rdE l k = l[k] := by simp [rdE, h]
theorem kid_lt {x : Ex} {k : Nat} (h : k < x.kids.length) : sizeOf (rdE x.kids k) < sizeOf x := by
  have h1 : rdE x.kids k ∈ x.kids := by rw [rdE_get h]; exact List.getElem_mem h
  have := List.sizeOf_lt_of_mem h1
  cases x; simp only [Ex.mk.sizeOf_spec] at *; omega
theorem drop_rdE {l : List Ex} {k : Nat} (h : k < l.length) : l.drop k = rdE l k :: l.drop (k + 1) := by
  rw [List.drop_eq_getElem_cons h, rdE_get h]
/-- A bound on the calls still to come. -/
noncomputable def Ex.big (x : Ex) : Nat := sizeOf x
theorem Ex.big_kid {x : Ex} {k : Nat} (h : k < x.kids.length) : (rdE x.kids k).big < x.big := kid_lt h
mutual
def Dt.within : Dt → Int → Int → Int
  | ⟨_, _, _, _, items, tail⟩, left, deep => if left - 1 < 0 ∨ deep < 1 then -1 else if Dt.withinL items (left - 1) (deep - 1) < 0 then -1 else Dt.withinL tail (Dt.withinL items (left - 1) (deep - 1)) (deep - 1)
def Dt.withinL : List Dt → Int → Int → Int
  | [], left, _ => left
  | k :: ks, left, deep => if k.within left deep < 0 then -1 else Dt.withinL ks (k.within left deep) deep
end
theorem Dt.within_eq (x : Dt) (left deep : Int) : x.within left deep = if left - 1 < 0 ∨ deep < 1 then -1 else if Dt.withinL x.items (left - 1) (deep - 1) < 0 then -1 else Dt.withinL x.tail (Dt.withinL x.items (left - 1) (deep - 1)) (deep - 1) := by
  cases x; rw [Dt.within]
mutual
theorem Dt.within_le : (x : Dt) → (left deep : Int) → x.within left deep ≤ left ∨ x.within left deep = -1
  | ⟨_, _, _, _, items, tail⟩, left, deep => by
    rw [Dt.within]
    split
    · exact .inr rfl
    · split
      · exact .inr rfl
      · rcases Dt.withinL_le tail (Dt.withinL items (left - 1) (deep - 1)) (deep - 1) with h | h
        · rcases Dt.withinL_le items (left - 1) (deep - 1) with h' | h' <;> exact .inl (by omega)
        · exact .inr h
theorem Dt.withinL_le : (l : List Dt) → (left deep : Int) → Dt.withinL l left deep ≤ left ∨ Dt.withinL l left deep = -1
  | [], left, deep => .inl (Int.le_refl _)
  | k :: ks, left, deep => by
    rw [Dt.withinL]
    split
    · exact .inr rfl
    · rcases Dt.withinL_le ks (k.within left deep) deep with h | h
      · rcases Dt.within_le k left deep with h' | h' <;> exact .inl (by omega)
      · exact .inr h
end
theorem rdD_get {l : List Dt} {k : Nat} (h : k < l.length) : rdD l k = l[k] := by simp [rdD, h]
theorem drop_rdD {l : List Dt} {k : Nat} (h : k < l.length) : l.drop k = rdD l k :: l.drop (k + 1) := by
  rw [List.drop_eq_getElem_cons h, rdD_get h]
noncomputable def Dt.big (x : Dt) : Nat := sizeOf x
theorem Dt.big_item {x : Dt} {k : Nat} (h : k < x.items.length) : (rdD x.items k).big < x.big := by
  have h1 : rdD x.items k ∈ x.items := by rw [rdD_get h]; exact List.getElem_mem h
  have := List.sizeOf_lt_of_mem h1
  unfold Dt.big; cases x; simp only [Dt.mk.sizeOf_spec] at *; omega
theorem Dt.big_tail {x : Dt} {k : Nat} (h : k < x.tail.length) : (rdD x.tail k).big < x.big := by
  have h1 : rdD x.tail k ∈ x.tail := by rw [rdD_get h]; exact List.getElem_mem h
  have := List.sizeOf_lt_of_mem h1
  unfold Dt.big; cases x; simp only [Dt.mk.sizeOf_spec] at *; omega
mutual
theorem Dt.within_sgn : (x : Dt) → (left deep : Int) → x.within left deep = -1 ∨ 0 ≤ x.within left deep
  | ⟨_, _, _, _, items, tail⟩, left, deep => by
    rw [Dt.within]
    split
    · exact .inl rfl
    · split
      · exact .inl rfl
      · exact Dt.withinL_sgn tail _ _ (by omega)
theorem Dt.withinL_sgn : (l : List Dt) → (left deep : Int) → 0 ≤ left → Dt.withinL l left deep = -1 ∨ 0 ≤ Dt.withinL l left deep
  | [], left, deep, h => .inr h
  | k :: ks, left, deep, h => by
    rw [Dt.withinL]
    split
    · exact .inl rfl
    · exact Dt.withinL_sgn ks _ _ (by omega)
end
/-- The parts of a datum, one behind the other: what is left to be gone through. -/
def Dt.withinLL : List (List Dt) → Int → Int → Int
  | [], left, _ => left
  | l :: ls, left, deep => if Dt.withinL l left deep < 0 then -1 else Dt.withinLL ls (Dt.withinL l left deep) deep
theorem Dt.within_LL (x : Dt) (left deep : Int) : x.within left deep = if left - 1 < 0 ∨ deep < 1 then -1 else Dt.withinLL [x.items, x.tail] (left - 1) (deep - 1) := by
  rw [Dt.within_eq]
  simp only [Dt.withinLL]
  split
  · rfl
  · split
    · rfl
    · have := Dt.withinL_sgn x.tail (Dt.withinL x.items (left - 1) (deep - 1)) (deep - 1) (by omega)
      split
      · omega
      · rfl
end Go.Proofs.YtlcofdgaidlldaaGreatDoor
namespace Go.Proofs.YtlcofdgaidlldaaGreatDoor
def plainB (p : Int) : Bool := (decide (1 ≤ p) && decide (p ≤ 8)) || (decide (14 ≤ p) && decide (p ≤ 19)) || (decide (21 ≤ p) && decide (p ≤ 27))
def quietB (p : Int) : Bool := (p == 9 || p == 35 || p == 38 || p == 22 || p == 21) || (decide (14 ≤ p) && decide (p ≤ 20))
def Ex.atom (e : Ex) : Bool := e.kind == 1 && (e.d.kind != 5 || decide (e.d.items.length = 0))
mutual
def Ex.sets : Ex → Bool
  | ⟨kind, _, _, _, _, _, kids⟩ => kind == 3 || Ex.setsL kids
def Ex.setsL : List Ex → Bool
  | [] => false
  | k :: ks => k.sets || Ex.setsL ks
end
theorem Ex.sets_eq (x : Ex) : x.sets = (x.kind == 3 || Ex.setsL x.kids) := by cases x; rw [Ex.sets]
theorem Ex.setsL_any : (l : List Ex) → Ex.setsL l = l.any Ex.sets
  | [] => rfl
  | k :: ks => by rw [Ex.setsL, List.any_cons, Ex.setsL_any ks]
mutual
def Ex.idle : Ex → Bool
  | ⟨kind, _, _, _, _, p, kids⟩ => if kind = 1 ∨ kind = 2 ∨ kind = 5 then true else if kind = 7 then quietB p && Ex.idleL kids else if kind = 4 ∨ kind = 8 ∨ kind = 9 then Ex.idleL kids else false
def Ex.idleL : List Ex → Bool
  | [] => true
  | k :: ks => k.idle && Ex.idleL ks
end
theorem Ex.idle_eq (x : Ex) : x.idle = if x.kind = 1 ∨ x.kind = 2 ∨ x.kind = 5 then true else if x.kind = 7 then quietB x.p && Ex.idleL x.kids else if x.kind = 4 ∨ x.kind = 8 ∨ x.kind = 9 then Ex.idleL x.kids else false := by cases x; rw [Ex.idle]
theorem Ex.idleL_all : (l : List Ex) → Ex.idleL l = !(l.any fun k => !k.idle)
  | [] => rfl
  | k :: ks => by rw [Ex.idleL, List.any_cons, Ex.idleL_all ks]; simp
/-- The first place of which p holds, or -1. -/
def idxOf {α : Type} (p : α → Bool) : List α → Int → Int
  | [], _ => -1
  | x :: xs, i => if p x then i else idxOf p xs (i + 1)
theorem idxOf_any {α : Type} (p : α → Bool) : (l : List α) → (i : Int) → 0 ≤ i → decide (0 ≤ idxOf p l i) = l.any p
  | [], i, _ => by simp [idxOf]
  | x :: xs, i, h => by
    rw [idxOf, List.any_cons]
    cases hp : p x
    · simp [idxOf_any p xs (i + 1) (by omega)]
    · simp [h]
end Go.Proofs.YtlcofdgaidlldaaGreatDoor
namespace Go.Proofs.YtlcofdgaidlldaaGreatDoor
def BI.good (a : BI) : Bool := if a.l.length = 0 then !a.neg else a.l.getD (a.l.length - 1) 0 != 0
/-- What a datum might have and its kind does not name is zero. -/
def Dt.blanked (x : Dt) : Bool := (x.kind == 1 || (!x.i.neg && decide (x.i.l.length = 0))) && (x.kind == 2 || !x.b) && (x.kind == 3 || x.kind == 4 || decide (x.s.size = 0)) && (x.kind == 5 || decide (x.items.length + x.tail.length = 0))
/-- A Tail is one, behind Items, and no List. -/
def Dt.tailBad (x : Dt) : Bool := decide (1 < x.tail.length) || (decide (x.tail.length = 1) && (decide (x.items.length = 0) || (rdD x.tail 0).kind == 5))
mutual
def Dt.good : Dt → Bool
  | ⟨kind, i, b, s, items, tail⟩ => (Dt.mk kind i b s items tail).blanked &&
    (if kind = 0 ∨ kind = 2 then true else if kind = 1 then i.good && decide (i.l.length ≤ 64) else if kind = 3 then decide (1 ≤ s.size) && decide (s.size ≤ 64)
    else if kind = 4 then decide (s.size ≤ 1024) else if kind = 5 then !(Dt.mk kind i b s items tail).tailBad && (Dt.goodL items && Dt.goodL tail) else false)
def Dt.goodL : List Dt → Bool
  | [] => true
  | k :: ks => k.good && Dt.goodL ks
end
theorem Dt.goodL_any : (l : List Dt) → Dt.goodL l = !(l.any fun k => !k.good)
  | [] => rfl
  | k :: ks => by rw [Dt.goodL, List.any_cons, Dt.goodL_any ks]; simp
theorem Dt.good_eq (x : Dt) : x.good = (x.blanked &&
    (if x.kind = 0 ∨ x.kind = 2 then true else if x.kind = 1 then x.i.good && decide (x.i.l.length ≤ 64) else if x.kind = 3 then decide (1 ≤ x.s.size) && decide (x.s.size ≤ 64)
    else if x.kind = 4 then decide (x.s.size ≤ 1024) else if x.kind = 5 then !x.tailBad && !((x.items ++ x.tail).any fun k => !k.good) else false)) := by
  cases x
  rw [Dt.good, List.any_append, Dt.goodL_any, Dt.goodL_any, Bool.not_or]
def Dt.Good (x : Dt) : Bool := decide (0 ≤ x.within 5000 200) && x.good
/-- How many data stand in a row. -/
theorem Dt.withinL_len : (l : List Dt) → (left deep : Int) → 0 ≤ Dt.withinL l left deep → (l.length : Int) ≤ left - Dt.withinL l left deep ∨ l = []
  | [], _, _, _ => .inr rfl
  | k :: ks, left, deep, h => by
    rw [Dt.withinL] at h ⊢
    split at h
    · omega
    · rename_i hk
      rw [if_neg hk]
      have h1 : k.within left deep ≤ left - 1 := by
        rw [Dt.within_eq] at hk ⊢
        split at hk
        · omega
        · rename_i h2
          rw [if_neg h2]
          split at hk
          · omega
          · rename_i h3
            rw [if_neg h3]
            rcases Dt.withinL_le k.tail (Dt.withinL k.items (left - 1) (deep - 1)) (deep - 1) with h4 | h4
            · rcases Dt.withinL_le k.items (left - 1) (deep - 1) with h5 | h5 <;> omega
            · omega
      left
      rw [List.length_cons]
      rcases Dt.withinL_len ks _ _ h with h2 | h2
      · omega
      · subst h2; simp [Dt.withinL]; omega
theorem Dt.within_lens (x : Dt) (left deep : Int) (h : 0 ≤ x.within left deep) : (x.items.length : Int) + x.tail.length < left := by
  rw [Dt.within_eq] at h
  split at h
  · omega
  · split at h
    · omega
    · rename_i h1 h2
      have a := Dt.withinL_len x.items (left - 1) (deep - 1) (by omega)
      have b := Dt.withinL_len x.tail _ _ h
      rcases a with a | a <;> rcases b with b | b
      · omega
      · rw [b]; simp; omega
      · rw [a] at b h ⊢; simp [Dt.withinL] at b h ⊢; omega
      · rw [a, b]; simp; omega
/-- Every datum inside is within, too. -/
def Dt.few (x : Dt) : Prop := ∃ left deep : Int, left ≤ 100000 ∧ 0 ≤ x.within left deep
theorem Dt.withinL_mem : (l : List Dt) → (left deep : Int) → left ≤ 100000 → 0 ≤ Dt.withinL l left deep → ∀ k, k ∈ l → k.few
  | [], _, _, _, _, k, hk => by cases hk
  | x :: xs, left, deep, hl, h, k, hk => by
    rw [Dt.withinL] at h
    split at h
    · omega
    · rename_i h1
      rcases List.mem_cons.1 hk with rfl | hk
      · exact ⟨left, deep, hl, by omega⟩
      · refine Dt.withinL_mem xs _ deep ?_ h k hk
        rcases Dt.within_le x left deep with h2 | h2 <;> omega
theorem Dt.few_item {x : Dt} (h : x.few) {k : Nat} (hk : k < x.items.length) : (rdD x.items k).few := by
  obtain ⟨left, deep, hl, h⟩ := h
  rw [Dt.within_eq] at h
  split at h
  · omega
  · split at h
    · omega
    · exact Dt.withinL_mem x.items (left - 1) (deep - 1) (by omega) (by omega) _ (by rw [rdD_get hk]; exact List.getElem_mem hk)
theorem Dt.few_tail {x : Dt} (h : x.few) {k : Nat} (hk : k < x.tail.length) : (rdD x.tail k).few := by
  obtain ⟨left, deep, hl, h⟩ := h
  rw [Dt.within_eq] at h
  split at h
  · omega
  · split at h
    · omega
    · rename_i h1 h2
      refine Dt.withinL_mem x.tail _ (deep - 1) ?_ h _ (by rw [rdD_get hk]; exact List.getElem_mem hk)
      rcases Dt.withinL_le x.items (left - 1) (deep - 1) with h5 | h5 <;> omega
theorem Dt.few_lens {x : Dt} (h : x.few) : x.items.length + x.tail.length ≤ 100000 := by
  obtain ⟨left, deep, hl, h⟩ := h
  have := Dt.within_lens x left deep h
  omega
theorem Dt.few_part {x : Dt} (h : x.few) {k : Nat} (hk : k < (x.items ++ x.tail).length) : (rdD (x.items ++ x.tail) k).few ∧ (rdD (x.items ++ x.tail) k).big < x.big := by
  rw [rdD_get hk]
  by_cases h1 : k < x.items.length
  · rw [List.getElem_append_left h1, ← rdD_get h1]
    exact ⟨Dt.few_item h h1, Dt.big_item h1⟩
  · have h2 : k - x.items.length < x.tail.length := by rw [List.length_append] at hk; omega
    rw [List.getElem_append_right (by omega), ← rdD_get h2]
    exact ⟨Dt.few_tail h h2, Dt.big_tail h2⟩
end Go.Proofs.YtlcofdgaidlldaaGreatDoor
namespace Go.Proofs.YtlcofdgaidlldaaGreatDoor
def arities38 : List Int := [0, 2, 2, 2, 2, 2, 2, 2, 2, 2, 1, 1, 2, 2, 1, 1, 1, 1, 1, 1, 1, 2, 1, 1, 2, 2, 1, 1, 1, 1, 0, 0, 1, 1, 2, 1, 1, 2, 0]
def arityP (p : Int) : Int := if 1 ≤ p ∧ p ≤ 38 then arities38.getD p.toNat 0 else -1
def Ex.nkids (e : Ex) : Int := if e.kind = 1 ∨ e.kind = 2 then 0 else if e.kind = 3 ∨ e.kind = 5 then 1 else if e.kind = 4 then 3 else if e.kind = 6 then -2 else if e.kind = 7 then arityP e.p else if e.kind = 8 ∨ e.kind = 9 then 2 else -1
def outV (v : Int) : Bool := decide (v < 1) || decide (1000000 < v)
def Ex.named (e : Ex) : Bool := e.kind == 2 || e.kind == 3 || e.kind == 8
def Ex.plain (e : Ex) : Bool :=
  !(e.nkids != e.kids.length && (e.nkids != -2 || decide (e.kids.length = 0))) && !(e.named == outV e.v) && !(!e.named && e.v != 0) && !(e.kind != 5 && (decide (0 < e.vars.length) || e.rest)) && !(e.vars.any outV) && !(e.rest && decide (e.vars.length = 0)) &&
  !(e.kind != 7 && e.p != 0) && (e.d.Good && (e.kind == 1 || e.d.kind == 0))
def Ex.binds (e : Ex) : List Int := if e.kind = 8 then [e.v] else if e.kind = 5 then e.vars else []
def Ex.few (e : Ex) : Bool := decide (0 ≤ e.within 100000 10000)
end Go.Proofs.YtlcofdgaidlldaaGreatDoor
namespace Go.Proofs.YtlcofdgaidlldaaGreatDoor
/-- Without the zeros at the end. -/
def normL (l : List Int) : List Int := (l.reverse.dropWhile (· == 0)).reverse
theorem take_snoc0 {l : List Int} {n : Nat} (h : n < l.length) : l.take (n + 1) = l.take n ++ [l.getD n 0] := by
  rw [List.take_succ_eq_append_getElem h]; simp [h]
theorem normL_zero {l : List Int} {n : Nat} (h : n < l.length) (hz : l.getD n 0 = 0) : normL (l.take (n + 1)) = normL (l.take n) := by
  rw [take_snoc0 h, hz]; simp [normL]
theorem normL_done {l : List Int} {n : Nat} (h : n < l.length) (hz : l.getD n 0 ≠ 0) : normL (l.take (n + 1)) = l.take (n + 1) := by
  have hz' : (l.getD n 0 == 0) = false := by simpa using hz
  rw [take_snoc0 h]; simp only [normL, List.reverse_append, List.reverse_cons, List.reverse_nil, List.nil_append, List.singleton_append, List.dropWhile_cons, hz']
  simp
/-- The value of limbs. -/
def val : List Int → Int
  | [] => 0
  | x :: xs => x + 4294967296 * val xs
/-- Limbs are in their range. -/
def lim (l : List Int) : Prop := ∀ x ∈ l, 0 ≤ x ∧ x < 4294967296
def pw (n : Nat) : Int := 4294967296 ^ n
theorem pw_zero : pw 0 = 1 := rfl
theorem pw_succ (n : Nat) : pw (n + 1) = pw n * 4294967296 := by unfold pw; exact Int.pow_succ _ _
theorem pw_pos (n : Nat) : 0 < pw n := by
  induction n with
  | zero => rw [pw_zero]; omega
  | succ n ih => rw [pw_succ]; omega
theorem pw_add (m n : Nat) : pw (m + n) = pw m * pw n := by unfold pw; exact Int.pow_add _ _ _
theorem pw_le {m n : Nat} (h : m ≤ n) : pw m ≤ pw n := by
  obtain ⟨k, rfl⟩ := Nat.exists_eq_add_of_le h
  rw [pw_add]
  have h1 := pw_pos m
  have h2 := pw_pos k
  have h3 := Int.mul_le_mul_of_nonneg_left (show (1 : Int) ≤ pw k by omega) (show 0 ≤ pw m by omega)
  omega
theorem lim_nil : lim [] := fun x h => by cases h
theorem lim_cons {x : Int} {l : List Int} : lim (x :: l) ↔ (0 ≤ x ∧ x < 4294967296) ∧ lim l := by
  unfold lim; exact List.forall_mem_cons
theorem lim_take {l : List Int} (h : lim l) (n : Nat) : lim (l.take n) := fun x hx => h x (List.mem_of_mem_take hx)
theorem lim_set {l : List Int} (h : lim l) {i : Nat} {x : Int} (h0 : 0 ≤ x) (h1 : x < 4294967296) : lim (l.set i x) := fun y hy => by
  rcases List.mem_or_eq_of_mem_set hy with hy | rfl
  · exact h y hy
  · exact ⟨h0, h1⟩
theorem lim_getD {l : List Int} (h : lim l) (i : Nat) : 0 ≤ l.getD i 0 ∧ l.getD i 0 < 4294967296 := by
  rw [List.getD_eq_getElem?_getD]
  cases hi : l[i]? with
  | none => simp
  | some x => simpa using h x (List.mem_of_getElem? hi)
theorem lim_zeros (n : Nat) : lim (List.replicate n 0) := fun x hx => by
  rw [(List.mem_replicate.1 hx).2]; omega
theorem val_nonneg {l : List Int} (h : lim l) : 0 ≤ val l := by
  induction l with
  | nil => exact Int.le_refl 0
  | cons x l ih =>
    have h1 := (lim_cons.1 h).1
    have h2 := ih (lim_cons.1 h).2
    rw [val]; omega
theorem val_lt {l : List Int} (h : lim l) : val l < pw l.length := by
  induction l with
  | nil => rw [val, List.length_nil, pw_zero]; omega
  | cons x l ih =>
    have h1 := (lim_cons.1 h).1
    have h2 := ih (lim_cons.1 h).2
    rw [val, List.length_cons, pw_succ]; omega
theorem val_append (a b : List Int) : val (a ++ b) = val a + pw a.length * val b := by
  induction a with
  | nil => simp [val, pw_zero]
  | cons x a ih =>
    rw [List.cons_append, val, val, ih, List.length_cons, pw_succ]
    rw [Int.mul_add, ← Int.mul_assoc, Int.mul_comm (pw a.length) 4294967296]; omega
theorem val_take_succ (l : List Int) (i : Nat) : val (l.take (i + 1)) = val (l.take i) + pw i * l.getD i 0 := by
  by_cases h : i < l.length
  · rw [List.take_succ_eq_append_getElem h, val_append, List.length_take, Nat.min_eq_left (by omega)]
    simp [val, List.getD_eq_getElem?_getD, List.getElem?_eq_getElem h]
  · rw [List.take_of_length_le (by omega), List.take_of_length_le (by omega), List.getD_eq_getElem?_getD, List.getElem?_eq_none (by omega)]
    simp
theorem val_split (l : List Int) (i : Nat) : val l = val (l.take i) + pw (min i l.length) * val (l.drop i) := by
  have := val_append (l.take i) (l.drop i)
  rwa [List.take_append_drop, List.length_take] at this
/-- The canonical limbs of a number. -/
def limbs (n : Nat) : List Int := if h : n = 0 then [] else ((n % 4294967296 : Nat) : Int) :: limbs (n / 4294967296)
  termination_by n
  decreasing_by omega
theorem limbs_zero : limbs 0 = [] := by rw [limbs]; rfl
theorem limbs_pos {n : Nat} (h : n ≠ 0) : limbs n = ((n % 4294967296 : Nat) : Int) :: limbs (n / 4294967296) := by rw [limbs, dif_neg h]
theorem lim_limbs (n : Nat) : lim (limbs n) := by
  induction n using Nat.strongRecOn with
  | _ n ih =>
    by_cases h : n = 0
    · subst h; rw [limbs_zero]; exact lim_nil
    · rw [limbs_pos h]; exact lim_cons.2 ⟨by omega, ih _ (by omega)⟩
theorem val_limbs (n : Nat) : val (limbs n) = n := by
  induction n using Nat.strongRecOn with
  | _ n ih =>
    by_cases h : n = 0
    · subst h; rw [limbs_zero]; rfl
    · rw [limbs_pos h, val, ih _ (by omega)]; omega
theorem normL_nil : normL [] = [] := rfl
theorem normL_cons (x : Int) (l : List Int) : normL (x :: l) = if normL l = [] then (if x = 0 then [] else [x]) else x :: normL l := by
  unfold normL
  rw [List.reverse_cons, List.dropWhile_append]
  by_cases h : (List.dropWhile (fun y => y == 0) l.reverse) = []
  · rw [h]
    by_cases hx : x = 0
    · subst hx; simp
    · simp [hx]
  · rw [if_neg (by simpa using h), if_neg (by simpa using h)]
    simp
theorem normL_limbs {l : List Int} (h : lim l) : normL l = limbs (val l).toNat := by
  induction l with
  | nil => rw [normL_nil, val]; exact limbs_zero.symm
  | cons x l ih =>
    have h1 := (lim_cons.1 h).1
    have h2 := ih (lim_cons.1 h).2
    have h3 := val_nonneg (lim_cons.1 h).2
    rw [normL_cons, h2, val]
    by_cases hz : val l = 0
    · rw [hz, show (0 : Int).toNat = 0 from rfl, limbs_zero, if_pos rfl]
      by_cases hx : x = 0
      · subst hx; rw [if_pos rfl]; exact limbs_zero.symm
      · rw [if_neg hx, limbs_pos (by omega), show (x + 4294967296 * 0).toNat / 4294967296 = 0 by omega, limbs_zero, show (((x + 4294967296 * 0).toNat % 4294967296 : Nat) : Int) = x by omega]
    · rw [if_neg (by rw [limbs_pos (by omega)]; simp), limbs_pos (n := (x + 4294967296 * val l).toNat) (by omega), show (x + 4294967296 * val l).toNat / 4294967296 = (val l).toNat by omega, show (((x + 4294967296 * val l).toNat % 4294967296 : Nat) : Int) = x by omega]
theorem val_normL {l : List Int} (h : lim l) : val (normL l) = val l := by
  rw [normL_limbs h, val_limbs]; have := val_nonneg h; omega
theorem lim_normL {l : List Int} (h : lim l) : lim (normL l) := by rw [normL_limbs h]; exact lim_limbs _
theorem normL_prefix (l : List Int) : normL l = l.take (normL l).length := by
  induction l with
  | nil => rfl
  | cons x l ih =>
    rw [normL_cons]
    by_cases h : normL l = []
    · rw [if_pos h]; by_cases hx : x = 0 <;> simp [hx]
    · rw [if_neg h, List.length_cons, List.take_succ_cons, ← ih]
theorem normL_len (l : List Int) : (normL l).length ≤ l.length := by
  have := congrArg List.length (normL_prefix l)
  rw [List.length_take] at this; omega
theorem limbs_len_lt {m n : Nat} (h : (limbs m).length < (limbs n).length) : m < n := by
  induction n using Nat.strongRecOn generalizing m with
  | _ n ih =>
    by_cases hn : n = 0
    · subst hn; rw [limbs_zero] at h; simp at h
    · by_cases hm : m = 0
      · omega
      · rw [limbs_pos hn, limbs_pos hm] at h
        have := @ih (n / 4294967296) (by omega) (m / 4294967296) (by simpa using h)
        omega
theorem limbs_len {n k : Nat} (h : (n : Int) < pw k) : (limbs n).length ≤ k := by
  induction k generalizing n with
  | zero => rw [pw_zero] at h; rw [show n = 0 by omega, limbs_zero]; simp
  | succ k ih =>
    by_cases hn : n = 0
    · subst hn; rw [limbs_zero]; simp
    · rw [limbs_pos hn, List.length_cons]
      have := ih (n := n / 4294967296) (by rw [pw_succ] at h; omega)
      omega
/-- Less, alike, or more. -/
def cmpI (a b : Int) : Int := if a < b then -1 else if b < a then 1 else 0
theorem val_lt_top {a b : List Int} (ha : lim a) (hb : lim b) {i : Nat} (hl : a.length = b.length) (hi : i < a.length) (hd : a.drop (i + 1) = b.drop (i + 1)) (hlt : a.getD i 0 < b.getD i 0) : val a < val b := by
  have h1 := val_split a (i + 1)
  have h2 := val_split b (i + 1)
  rw [val_take_succ, Nat.min_eq_left (by omega)] at h1 h2
  have h3 := val_lt (lim_take ha i)
  have h4 := val_nonneg (lim_take hb i)
  rw [List.length_take, Nat.min_eq_left (by omega)] at h3
  rw [hd] at h1
  have h5 := Int.mul_le_mul_of_nonneg_left (show a.getD i 0 + 1 ≤ b.getD i 0 by omega) (show 0 ≤ pw i by have := pw_pos i; omega)
  rw [Int.mul_add] at h5
  omega
theorem cmp_len {a b : List Int} (ha : lim a) (hb : lim b) (h : (normL a).length < (normL b).length) : val a < val b := by
  rw [normL_limbs ha, normL_limbs hb] at h
  have := limbs_len_lt h
  omega
theorem cmp_top {a b : List Int} (ha : lim a) (hb : lim b) {i : Nat} (hl : (normL a).length = (normL b).length) (hi : i < (normL a).length) (hd : (normL a).drop (i + 1) = (normL b).drop (i + 1)) (hlt : (normL a).getD i 0 < (normL b).getD i 0) : val a < val b := by
  have := val_lt_top (lim_normL ha) (lim_normL hb) hl hi hd hlt
  rwa [val_normL ha, val_normL hb] at this
theorem cmp_eq {a b : List Int} (ha : lim a) (hb : lim b) (h : normL a = normL b) : val a = val b := by
  rw [← val_normL ha, h, val_normL hb]
end Go.Proofs.YtlcofdgaidlldaaGreatDoor
