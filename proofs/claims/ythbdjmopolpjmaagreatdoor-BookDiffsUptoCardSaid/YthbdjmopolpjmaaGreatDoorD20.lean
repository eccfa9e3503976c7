/- Part 20 of the proof: MNext, MNext2, MComp, Shelf3, MIds, FSlicesEqualStringString, MTexts. -/
import Derived.Ground.Names2Prog
import Derived.Lib.SlicesCompact
import Derived.Maps.RangeWalk
import Derived.Shelf.Slices.CompactI
import Derived.Shelf.Slices.In.SortNone
import Derived.Shelf.Sort.Plain
import Derived.Sort.OwnSortedInts
import Derived.Test.YthbdjmopolpjmaaGreatDoorProg
import Derived.Test.YthbdjmopolpjmaaGreatDoorD00
import Derived.Test.YthbdjmopolpjmaaGreatDoorD01
import Derived.Test.YthbdjmopolpjmaaGreatDoorD02
import Derived.Test.YthbdjmopolpjmaaGreatDoorD03
import Derived.Test.YthbdjmopolpjmaaGreatDoorD04
import Derived.Test.YthbdjmopolpjmaaGreatDoorD05
import Derived.Test.YthbdjmopolpjmaaGreatDoorD06
import Derived.Test.YthbdjmopolpjmaaGreatDoorD07
import Derived.Test.YthbdjmopolpjmaaGreatDoorD08
import Derived.Test.YthbdjmopolpjmaaGreatDoorD09
import Derived.Test.YthbdjmopolpjmaaGreatDoorD10
import Derived.Test.YthbdjmopolpjmaaGreatDoorD11
import Derived.Test.YthbdjmopolpjmaaGreatDoorD12
import Derived.Test.YthbdjmopolpjmaaGreatDoorD13
import Derived.Test.YthbdjmopolpjmaaGreatDoorD14
import Derived.Test.YthbdjmopolpjmaaGreatDoorD15
import Derived.Test.YthbdjmopolpjmaaGreatDoorD16
import Derived.Test.YthbdjmopolpjmaaGreatDoorD17
import Derived.Test.YthbdjmopolpjmaaGreatDoorD18
import Derived.Test.YthbdjmopolpjmaaGreatDoorD19
section
set_option linter.unusedVariables false
set_option linter.unusedSimpArgs false
namespace Go.Proofs.YthbdjmopolpjmaaGreatDoor.C
open Go.RowKit Go.Proofs.YthbdjmopolpjmaaGreatDoorW.PrintWords Go.Proofs.YthbdjmopolpjmaaGreatDoorW.PrintLast Go.Proofs.YthbdjmopolpjmaaGreatDoorW.PrintMore Go.Proofs.YthbdjmopolpjmaaGreatDoor.F Go.Proofs.YthbdjmopolpjmaaGreatDoor.M
def numsOf (a b : List S41) : List Int := a.map (·.f0) ++ b.map (·.f0)
def behindN (x2 : Int) (x3 : Bool) (k : Int) : Bool := !x3 || decide (k > x2)
def stepN (x2 : Int) (x3 : Bool) (st : Int × Bool) (k : Int) : Int × Bool := if (behindN x2 x3 k && (!st.2 || decide (k < st.1))) = true then (k, true) else st
theorem nums_left {a b : List S41} {i : Int} (h0 : 0 ≤ i) (h : i < a.length) : (numsOf a b)[i.toNat]? = some (rd_T41 a i).f0 := by
  unfold numsOf
  rw [List.getElem?_append_left (by rw [List.length_map]; omega), List.getElem?_map, List.getElem?_eq_getElem (by omega), Option.map_some, ← rd_get (by omega), Int.toNat_of_nonneg h0]
theorem nums_right {a b : List S41} {i : Int} (h0 : (a.length : Int) ≤ i) (h : i < a.length + b.length) : (numsOf a b)[i.toNat]? = some (rd_T41 b (i - a.length)).f0 := by
  unfold numsOf
  have e : i - (a.length : Int) = ((i.toNat - a.length : Nat) : Int) := by omega
  rw [List.getElem?_append_right (by rw [List.length_map]; omega), List.length_map, List.getElem?_map, List.getElem?_eq_getElem (by omega), Option.map_some, ← rd_get (by omega), e]
theorem next_step (a b : List S41) (ha : a.length ≤ 1048576) (hb : b.length ≤ 1048576) (x2 : Int) (x3 : Bool) (m : Nat) (st : Int × Bool) (i : Int) (h0 : 0 ≤ i) (hi : i < a.length + b.length) (k : Int) (hk : (numsOf a b)[i.toNat]? = some k) :
    cubitref29_next.l0 (m + 1) a b x2 x3 st.1 st.2 i = cubitref29_next.l0 m a b x2 x3 (stepN x2 x3 st k).1 (stepN x2 x3 st k).2 (i + 1) := by
  obtain ⟨best, sm⟩ := st
  conv => lhs; unfold cubitref29_next.l0
  rw [w64 (n := (a.length : Int) + b.length) (by omega) (by omega), w64 (n := i + 1) (by omega) (by omega), if_pos (by omega)]
  by_cases hl : i < a.length
  · rw [nums_left h0 hl] at hk
    have hk' : (rd_T41 a i).f0 = k := Option.some.inj hk
    simp only [if_pos hl, if_pos h0, hk', stepN, behindN]
    cases x3 <;> cases sm <;> (try by_cases h1 : k > x2) <;> (try by_cases h2 : k < best) <;> simp [*]
  · rw [nums_right (by omega) hi] at hk
    have hk' : (rd_T41 b (i - a.length)).f0 = k := Option.some.inj hk
    rw [if_neg hl, w64 (n := i - a.length) (by omega) (by omega), if_pos (by omega), if_pos (by omega)]
    simp only [hk', stepN, behindN]
    cases x3 <;> cases sm <;> (try by_cases h1 : k > x2) <;> (try by_cases h2 : k < best) <;> simp [*]
theorem next_all (a b : List S41) (ha : a.length ≤ 1048576) (hb : b.length ≤ 1048576) (x2 : Int) (x3 : Bool) : ∀ (m i : Nat) (st : Int × Bool), i + m = a.length + b.length →
    cubitref29_next.l0 (m + 1) a b x2 x3 st.1 st.2 (i : Int) = some (((numsOf a b).drop i).foldl (stepN x2 x3) st) := by
  have hlen : (numsOf a b).length = a.length + b.length := by simp [numsOf]
  intro m
  induction m with
  | zero =>
    intro i st hi
    unfold cubitref29_next.l0
    rw [w64 (n := (a.length : Int) + b.length) (by omega) (by omega), if_neg (by omega), List.drop_eq_nil_of_le (by omega)]
    rfl
  | succ m ih =>
    intro i st hi
    have hlt : i < (numsOf a b).length := by omega
    rw [next_step a b ha hb x2 x3 (m + 1) st (i : Int) (by omega) (by omega) ((numsOf a b)[i]) (by rw [Int.toNat_natCast, List.getElem?_eq_getElem hlt])]
    have := ih (i + 1) (stepN x2 x3 st ((numsOf a b)[i])) (by omega)
    rw [List.drop_eq_getElem_cons hlt, List.foldl_cons]
    exact this
theorem next_is (a b : List S41) (ha : a.length ≤ 1048576) (hb : b.length ≤ 1048576) (x2 : Int) (x3 : Bool) : cubitref29_next.f (a.length + b.length + 1) a b x2 x3 = some ((numsOf a b).foldl (stepN x2 x3) (0, false)) := by
  unfold cubitref29_next.f
  exact next_all a b ha hb x2 x3 (a.length + b.length) 0 (0, false) (by omega)
theorem fold_least (x2 : Int) (x3 : Bool) : ∀ (l : List Int) (st : Int × Bool),
    ((l.foldl (stepN x2 x3) st).2 = false → l.foldl (stepN x2 x3) st = st ∧ ∀ k ∈ l, behindN x2 x3 k = false) ∧
    ((l.foldl (stepN x2 x3) st).2 = true → (((l.foldl (stepN x2 x3) st) = st ∨ ((l.foldl (stepN x2 x3) st).1 ∈ l ∧ behindN x2 x3 (l.foldl (stepN x2 x3) st).1 = true)) ∧ (∀ k ∈ l, behindN x2 x3 k = true → (l.foldl (stepN x2 x3) st).1 ≤ k) ∧ (st.2 = true → (l.foldl (stepN x2 x3) st).1 ≤ st.1)))
  | [], st => ⟨fun _ => ⟨rfl, fun k hk => by cases hk⟩, fun _ => ⟨.inl rfl, fun k hk => (by cases hk), fun _ => Int.le_refl _⟩⟩
  | k :: l, st => by
    have ih := fold_least x2 x3 l (stepN x2 x3 st k)
    rw [List.foldl_cons]
    by_cases hs : (behindN x2 x3 k && (!st.2 || decide (k < st.1))) = true
    · have e : stepN x2 x3 st k = (k, true) := if_pos hs
      obtain ⟨hp, hq⟩ := Bool.and_eq_true_iff.1 hs
      rw [e] at ih ⊢
      refine ⟨fun hf => ?_, fun ht => ?_⟩
      · have := (ih.1 hf).1
        rw [this] at hf
        exact Bool.noConfusion hf
      · obtain ⟨h1, h2, h3⟩ := ih.2 ht
        refine ⟨.inr ?_, ?_, fun hst => ?_⟩
        · rcases h1 with h1 | h1
          · rw [h1]; exact ⟨List.mem_cons_self, hp⟩
          · exact ⟨List.mem_cons_of_mem _ h1.1, h1.2⟩
        · intro z hz hb
          rcases List.mem_cons.1 hz with rfl | hz
          · exact h3 rfl
          · exact h2 z hz hb
        · have h4 := h3 rfl
          rw [hst] at hq
          have : k < st.1 := by simpa using hq
          have h5 : (k, true).1 = k := rfl
          omega
    · have e : stepN x2 x3 st k = st := if_neg hs
      rw [e] at ih ⊢
      refine ⟨fun hf => ?_, fun ht => ?_⟩
      · obtain ⟨h1, h2⟩ := ih.1 hf
        refine ⟨h1, fun z hz => ?_⟩
        rcases List.mem_cons.1 hz with rfl | hz
        · rw [h1] at hf
          cases hb : behindN x2 x3 z with
          | false => rfl
          | true => exact absurd (by rw [hb, hf]; rfl) hs
        · exact h2 z hz
      · obtain ⟨h1, h2, h3⟩ := ih.2 ht
        refine ⟨?_, ?_, h3⟩
        · rcases h1 with h1 | h1
          · exact .inl h1
          · exact .inr ⟨List.mem_cons_of_mem _ h1.1, h1.2⟩
        · intro z hz hb
          rcases List.mem_cons.1 hz with rfl | hz
          · cases hst : st.2 with
            | false => exact absurd (by rw [hb, hst]; rfl) hs
            | true =>
              have h4 := h3 hst
              have : ¬ z < st.1 := fun hlt => hs (by rw [hb, hst, decide_eq_true hlt]; rfl)
              omega
          · exact h2 z hz hb
end Go.Proofs.YthbdjmopolpjmaaGreatDoor.C
end
section
set_option linter.unusedVariables false
set_option linter.unusedSimpArgs false
namespace Go.Proofs.YthbdjmopolpjmaaGreatDoor.C
open Go.RowKit Go.Proofs.YthbdjmopolpjmaaGreatDoorW.PrintWords Go.Proofs.YthbdjmopolpjmaaGreatDoorW.PrintLast Go.Proofs.YthbdjmopolpjmaaGreatDoorW.PrintMore Go.Proofs.YthbdjmopolpjmaaGreatDoor.F Go.Proofs.YthbdjmopolpjmaaGreatDoor.M
structure Rising (a b : List S41) (cs : List Int) : Prop where
  up : cs.Pairwise (· < ·)
  mem : ∀ n, n ∈ cs ↔ n ∈ numsOf a b
def nx (cs : List Int) (p : Nat) : Int × Bool := if p < cs.length then (cs.getD p 0, true) else (0, false)
theorem up_lt {cs : List Int} (h : cs.Pairwise (· < ·)) {i j : Nat} (hij : i < j) (hj : j < cs.length) : cs.getD i 0 < cs.getD j 0 := by
  rw [List.getD_eq_getElem?_getD, List.getD_eq_getElem?_getD, List.getElem?_eq_getElem (by omega), List.getElem?_eq_getElem hj]
  exact List.pairwise_iff_getElem.1 h i j (by omega) hj hij
theorem getD_mem {cs : List Int} {j : Nat} (hj : j < cs.length) : cs.getD j 0 ∈ cs := by
  rw [List.getD_eq_getElem?_getD, List.getElem?_eq_getElem hj]
  exact List.getElem_mem hj
theorem mem_getD {cs : List Int} {n : Int} (h : n ∈ cs) : ∃ j, j < cs.length ∧ cs.getD j 0 = n := by
  obtain ⟨j, hj, e⟩ := List.getElem_of_mem h
  exact ⟨j, hj, by rw [List.getD_eq_getElem?_getD, List.getElem?_eq_getElem hj]; exact e⟩
theorem next_nx {a b : List S41} {cs : List Int} (hr : Rising a b cs) (p : Nat) (x2 : Int) (x3 : Bool) (h : (x3 = false ∧ p = 0) ∨ (x3 = true ∧ 0 < p ∧ p ≤ cs.length ∧ x2 = cs.getD (p - 1) 0)) :
    (numsOf a b).foldl (stepN x2 x3) (0, false) = nx cs p := by
  have hb : ∀ j, j < cs.length → (behindN x2 x3 (cs.getD j 0) = true ↔ p ≤ j) := by
    intro j hj
    rcases h with ⟨rfl, rfl⟩ | ⟨rfl, h1, h2, rfl⟩
    · simp [behindN]
    · simp only [behindN, Bool.not_true, Bool.false_or, decide_eq_true_eq]
      constructor
      · intro hg
        refine Classical.byContradiction fun hn => ?_
        by_cases he : j = p - 1
        · subst he; omega
        · have := up_lt hr.up (i := j) (j := p - 1) (by omega) (by omega); omega
      · intro hg
        exact up_lt hr.up (by omega) hj
  have hl := fold_least x2 x3 (numsOf a b) (0, false)
  obtain ⟨r, hrr⟩ : ∃ r, (numsOf a b).foldl (stepN x2 x3) (0, false) = r := ⟨_, rfl⟩
  rw [hrr] at hl ⊢
  unfold nx
  cases h2 : r.2 with
  | false =>
    obtain ⟨h3, h4⟩ := hl.1 h2
    rw [if_neg, h3]
    intro hp
    have h5 := h4 _ ((hr.mem _).1 (getD_mem hp))
    rw [(hb p hp).2 (Nat.le_refl _)] at h5
    exact Bool.noConfusion h5
  | true =>
    obtain ⟨h3, h4, _⟩ := hl.2 h2
    rcases h3 with h3 | ⟨h3, h5⟩
    · rw [h3] at h2; exact Bool.noConfusion h2
    · obtain ⟨j, hj, e⟩ := mem_getD ((hr.mem _).2 h3)
      rw [← e] at h5
      have hpj := (hb j hj).1 h5
      have hp : p < cs.length := by omega
      rw [if_pos hp]
      have h6 := h4 _ ((hr.mem _).1 (getD_mem hp)) ((hb p hp).2 (Nat.le_refl _))
      have h7 : cs.getD p 0 ≤ cs.getD j 0 := by
        by_cases he : p = j
        · rw [he]; exact Int.le_refl _
        · exact Int.le_of_lt (up_lt hr.up (by omega) hj)
      have h8 : r.1 = cs.getD p 0 := by omega
      exact Prod.ext h8 h2
def place (l : List S41) (id : Int) : Int := match l.findIdx? (fun x => x.f0 == id) with | some j => (j : Int) | none => -1
theorem find_all (l : List S41) (hl : l.length ≤ 1048576) (id : Int) : ∀ (m i : Nat), i + m = l.length →
    cubitref29_find.l0 (m + 1) l id (i : Int) = some (match (l.drop i).findIdx? (fun x => x.f0 == id) with | some j => ((i + j : Nat) : Int) | none => -1) := by
  intro m
  induction m with
  | zero =>
    intro i hi
    unfold cubitref29_find.l0
    rw [if_neg (by omega), List.drop_eq_nil_of_le (by omega)]
    rfl
  | succ m ih =>
    intro i hi
    have hlt : i < l.length := by omega
    unfold cubitref29_find.l0
    rw [if_pos (by omega), if_pos (by omega), rd_get hlt, w64 (n := (i : Int) + 1) (by omega) (by omega), List.drop_eq_getElem_cons hlt, List.findIdx?_cons]
    by_cases h : l[i].f0 = id
    · rw [if_pos h]
      simp [h]
    · rw [if_neg h]
      have hb : (l[i].f0 == id) = false := beq_eq_false_iff_ne.2 h
      have := ih (i + 1) (by omega)
      rw [show ((i : Int) + 1) = ((i + 1 : Nat) : Int) from rfl, this, hb]
      cases hf : (l.drop (i + 1)).findIdx? (fun x => x.f0 == id) with
      | none => simp
      | some j => exact congrArg (fun n : Nat => some (n : Int)) (show i + 1 + j = i + (j + 1) by omega)
theorem find_is (l : List S41) (hl : l.length ≤ 1048576) (id : Int) : cubitref29_find.f (l.length + 1) l id = some (place l id) := by
  unfold cubitref29_find.f place
  have := find_all l hl id l.length 0 (by omega)
  simpa using this
theorem place_first (l : List S41) (id : Int) : (first l id = none ∧ place l id = -1) ∨ (∃ x, first l id = some x ∧ 0 ≤ place l id ∧ place l id < l.length ∧ rd_T41 l (place l id) = x) := by
  unfold place first
  cases h : l.findIdx? (fun x => x.f0 == id) with
  | none =>
    refine .inl ⟨?_, rfl⟩
    rw [List.find?_eq_none]
    intro x hx
    have := List.findIdx?_eq_none_iff.1 h x hx
    simpa using this
  | some j =>
    obtain ⟨hj, h1, h2⟩ := List.findIdx?_eq_some_iff_getElem.1 h
    refine .inr ⟨l[j], ?_, by simp, by simpa using hj, rd_get hj⟩
    exact List.find?_eq_some_iff_getElem.2 ⟨h1, j, hj, rfl, fun i hi => by simpa using h2 i hi⟩
end Go.Proofs.YthbdjmopolpjmaaGreatDoor.C
end
section
set_option linter.unusedVariables false
namespace Go.Proofs.YthbdjmopolpjmaaGreatDoor.C
open Go.Lib Go.Proofs.YthbdjmopolpjmaaGreatDoor.F
theorem kept_has (d : Array Int) (n : Int) : ∀ j, d[j]! = n → ∃ k, k ≤ j ∧ keeps d k = true ∧ d[k]! = n
  | 0, h => ⟨0, Nat.le_refl _, keeps_lt_one d 0 (by omega), h⟩
  | j + 1, h => by
    by_cases he : d[j + 1]! = d[j]!
    · obtain ⟨k, h1, h2, h3⟩ := kept_has d n j (by rw [← he]; exact h)
      exact ⟨k, by omega, h2, h3⟩
    · exact ⟨j + 1, Nat.le_refl _, keeps_pos (by simpa using he), h⟩
theorem compact_mem (zs : List Int) (n : Int) : n ∈ compact zs ↔ n ∈ zs := by
  unfold compact compactUpTo
  constructor
  · intro h
    obtain ⟨j, hj, e⟩ := List.mem_map.1 h
    have hl := List.mem_range.1 (List.mem_filter.1 hj).1
    rw [← e, List.getElem!_toArray, getElem!_pos zs j hl]
    exact List.getElem_mem hl
  · intro h
    obtain ⟨j, hj, e⟩ := List.getElem_of_mem h
    obtain ⟨k, h1, h2, h3⟩ := kept_has zs.toArray n j (by rw [List.getElem!_toArray, getElem!_pos zs j hj]; exact e)
    exact List.mem_map.2 ⟨k, List.mem_filter.2 ⟨List.mem_range.2 (by omega), h2⟩, h3⟩
theorem compact_up (zs : List Int) (hs : zs.Pairwise (· ≤ ·)) : (compact zs).Pairwise (· < ·) := by
  unfold compact compactUpTo
  rw [List.pairwise_map]
  have hle : ∀ i j, i ≤ j → j < zs.length → zs.toArray[i]! ≤ zs.toArray[j]! := by
    intro i j hij hj
    rw [List.getElem!_toArray, List.getElem!_toArray, getElem!_pos zs i (by omega), getElem!_pos zs j hj]
    by_cases he : i = j
    · subst he; exact Int.le_refl _
    · exact List.pairwise_iff_getElem.1 hs i j (by omega) hj (by omega)
  have hr : ((List.range zs.length).filter (keeps zs.toArray)).Pairwise (· < ·) := List.Pairwise.filter _ List.pairwise_lt_range
  refine List.Pairwise.imp_of_mem ?_ hr
  intro i j hi hj hij
  have hjl := List.mem_range.1 (List.mem_filter.1 hj).1
  have hk := (List.mem_filter.1 hj).2
  have h1 := hle i (j - 1) (by omega) (by omega)
  have h2 := hle (j - 1) j (by omega) hjl
  have h3 : zs.toArray[j]! ≠ zs.toArray[j - 1]! := fun e => by
    rw [keeps_neg (by omega) e] at hk
    exact Bool.noConfusion hk
  omega
theorem compact_le (zs : List Int) : (compact zs).length ≤ zs.length := by
  unfold compact compactUpTo
  rw [List.length_map]
  exact Nat.le_trans (List.length_filter_le _ _) (by rw [List.length_range]; exact Nat.le_refl _)
theorem rising_of {a b : List S41} {zs : List Int} (h : ∀ n, n ∈ zs ↔ n ∈ numsOf a b) : Rising a b (compact (zs.mergeSort fun x y => decide (x ≤ y))) := by
  refine ⟨compact_up _ ?_, fun n => ?_⟩
  · have hp := List.pairwise_mergeSort (le := fun x y : Int => decide (x ≤ y)) (fun a b c h1 h2 => by simp at *; omega) (fun a b => by simp; omega) zs
    exact hp.imp (fun h => by simpa using h)
  · rw [compact_mem, List.mem_mergeSort]
    exact h n
end Go.Proofs.YthbdjmopolpjmaaGreatDoor.C
end
section
namespace Go.Proofs
open Go.Shelf
def Tryz.lays189_ren : Go.Shelf.Ren := ⟨fun | 189 => 29 | 125 => 61 | 257 => 60 | 128 => 103 | 129 => 104 | 294 => 94 | 295 => 95 | 296 => 96 | 297 => 97 | 298 => 98 | 299 => 99 | 216 => 100 | 300 => 101 | 301 => 102 | 328 => 129 | 329 => 130 | 330 => 131 | 331 => 132 | 332 => 133 | 215 => 134 | 343 => 179 | n => n, fun | 28 => 62 | 3 => 3 | 46 => 97 | 0 => 0 | 51 => 131 | 53 => 162 | 4 => 4 | 183 => 154 | 182 => 153 | 131 => 68 | 5 => 5 | 9 => 9 | 218 => 202 | 222 => 206 | 228 => 267 | 229 => 268 | n => n, fun | n => n⟩
theorem Tryz.lays189 : Go.Proofs.Lays.n189 Tryz.prog Tryz.lays189_ren := {
  mixed := by kernel_rfl
  f125 := Tryz.func61.trans (congrArg some (by kernel_rfl))
  f128 := Tryz.func103.trans (congrArg some (by kernel_rfl))
  f129 := Tryz.func104.trans (congrArg some (by kernel_rfl))
  f189 := Tryz.func29.trans (congrArg some (by kernel_rfl))
  f215 := Tryz.func134.trans (congrArg some (by kernel_rfl))
  f216 := Tryz.func100.trans (congrArg some (by kernel_rfl))
  f257 := Tryz.func60.trans (congrArg some (by kernel_rfl))
  f294 := Tryz.func94.trans (congrArg some (by kernel_rfl))
  f295 := Tryz.func95.trans (congrArg some (by kernel_rfl))
  f296 := Tryz.func96.trans (congrArg some (by kernel_rfl))
  f297 := Tryz.func97.trans (congrArg some (by kernel_rfl))
  f298 := Tryz.func98.trans (congrArg some (by kernel_rfl))
  f299 := Tryz.func99.trans (congrArg some (by kernel_rfl))
  f300 := Tryz.func101.trans (congrArg some (by kernel_rfl))
  f301 := Tryz.func102.trans (congrArg some (by kernel_rfl))
  f328 := Tryz.func129.trans (congrArg some (by kernel_rfl))
  f329 := Tryz.func130.trans (congrArg some (by kernel_rfl))
  f330 := Tryz.func131.trans (congrArg some (by kernel_rfl))
  f331 := Tryz.func132.trans (congrArg some (by kernel_rfl))
  f332 := Tryz.func133.trans (congrArg some (by kernel_rfl))
  f343 := Tryz.func179.trans (congrArg some (by kernel_rfl))
  t0 := Tryz.underlying0
  a0 := Tryz.isAgg0
  z0 := Tryz.sizeOf0
  v0 := Tryz.zeroValue0
  t3 := Tryz.underlying3
  a3 := Tryz.isAgg3
  z3 := Tryz.sizeOf3
  v3 := Tryz.zeroValue3
  t4 := Tryz.underlying4
  a4 := Tryz.isAgg4
  z4 := Tryz.sizeOf4
  v4 := Tryz.zeroValue4
  t5 := Tryz.underlying5
  a5 := Tryz.isAgg5
  z5 := Tryz.sizeOf5
  v5 := Tryz.zeroValue5
  t9 := Tryz.underlying9
  a9 := Tryz.isAgg9
  z9 := Tryz.sizeOf9
  v9 := Tryz.zeroValue9
  t28 := Tryz.underlying62
  a28 := Tryz.isAgg62
  z28 := Tryz.sizeOf62
  v28 := Tryz.zeroValue62
  t46 := Tryz.underlying97
  a46 := Tryz.isAgg97
  z46 := Tryz.sizeOf97
  v46 := Tryz.zeroValue97
  t51 := Tryz.underlying131
  a51 := Tryz.isAgg131
  z51 := Tryz.sizeOf131
  v51 := Tryz.zeroValue131
  t53 := Tryz.underlying162
  a53 := Tryz.isAgg162
  z53 := Tryz.sizeOf162
  v53 := Tryz.zeroValue162
  t131 := Tryz.underlying68
  a131 := Tryz.isAgg68
  z131 := Tryz.sizeOf68
  v131 := Tryz.zeroValue68
  t182 := Tryz.underlying153
  a182 := Tryz.isAgg153
  z182 := Tryz.sizeOf153
  v182 := Tryz.zeroValue153
  t183 := Tryz.underlying154
  a183 := Tryz.isAgg154
  z183 := Tryz.sizeOf154
  v183 := Tryz.zeroValue154
  t218 := Tryz.underlying202
  a218 := Tryz.isAgg202
  z218 := Tryz.sizeOf202
  v218 := Tryz.zeroValue202
  t222 := Tryz.underlying206
  a222 := Tryz.isAgg206
  z222 := Tryz.sizeOf206
  v222 := Tryz.zeroValue206
  t228 := Tryz.underlying267
  a228 := Tryz.isAgg267
  z228 := Tryz.sizeOf267
  v228 := Tryz.zeroValue267
  t229 := Tryz.underlying268
  a229 := Tryz.isAgg268
  z229 := Tryz.sizeOf268
  v229 := Tryz.zeroValue268 }
open Go.Sort Go.RowKit in
theorem Tryz.slices_Sort_int (blk off cap : Nat) (zs : List Int) (w : World) (hH : Holds (Value.int .i64) w blk off zs.toArray) (hblk : blk < w.heap.size) (hsz : zs.length < 4611686018427387904) :
    Calls Tryz.prog 29 #[.slice (some ⟨blk, off, none⟩) zs.length cap] w fun e w' =>
      e = .returned (.tuple #[]) ∧ ∃ n os, w' = grow (putRow (Value.int .i64) (Sort.ahead w n) blk off (zs.mergeSort fun x y => decide (x ≤ y)).toArray) os := Any.slices_Sort_int Tryz.lays189 blk off cap zs w hH hblk hsz
def Tryz.laysNm220_ren : Go.Shelf.Ren := ⟨fun | 20 => 30 | n => n, fun | 22 => 62 | 3 => 3 | 4 => 4 | 0 => 0 | n => n, fun | n => n⟩
theorem Tryz.laysNm220 : Go.Proofs.Lays2.n20 Tryz.prog Tryz.laysNm220_ren := {
  mixed := by kernel_rfl
  f20 := Tryz.func30.trans (congrArg some (by kernel_rfl))
  t0 := Tryz.underlying0
  a0 := Tryz.isAgg0
  z0 := Tryz.sizeOf0
  v0 := Tryz.zeroValue0
  t3 := Tryz.underlying3
  a3 := Tryz.isAgg3
  z3 := Tryz.sizeOf3
  v3 := Tryz.zeroValue3
  t4 := Tryz.underlying4
  a4 := Tryz.isAgg4
  z4 := Tryz.sizeOf4
  v4 := Tryz.zeroValue4
  t22 := Tryz.underlying62
  a22 := Tryz.isAgg62
  z22 := Tryz.sizeOf62
  v22 := Tryz.zeroValue62
  i3 := by kernel_rfl }
open Go.RowKit Go.Lib Go.Sort in
theorem Tryz.slices_Compact_int (blk off cap : Nat) (zs : List Int) (w : World) (hH : Holds (Value.int .i64) w blk off zs.toArray) (hsz : zs.length ≤ 9223372036854775807) (hcap : zs.length ≤ cap) :
    Calls Tryz.prog 30 #[.slice (some ⟨blk, off, none⟩) zs.length cap] w fun e w' => e = .returned (.slice (some ⟨blk, off, none⟩) (Lib.compact zs).length cap) ∧ ∃ q, w' = putRow (Value.int .i64) (Sort.ahead w q) blk off (Lib.compact zs ++ List.replicate (zs.length - (Lib.compact zs).length) 0).toArray := Any.slices_Compact_int Tryz.laysNm220 blk off cap zs w hH hsz hcap
open Go.RowKit Go.Lib Go.Sort in
theorem Tryz.slices_Compact_int_empty (a : Option Addr) (cap : Nat) (w : World) :
    Calls Tryz.prog 30 #[.slice a 0 cap] w fun e w' => e = .returned (.slice a 0 cap) ∧ w' = w := Any.slices_Compact_int_empty Tryz.laysNm220 a cap w
open Go.RowKit Go.Sort in
theorem Tryz.slices_Sort_int_none (p : Option Addr) (cap : Nat) (w : World) :
    Calls Tryz.prog 29 #[.slice p 0 cap] w fun e w' => e = .returned (.tuple #[]) ∧ w' = w := Any.slices_Sort_int_none Tryz.lays189 p cap w
end Go.Proofs
end
section
set_option linter.unusedVariables false
set_option linter.unusedSimpArgs false
namespace Go.Proofs.YthbdjmopolpjmaaGreatDoor.C
open Go.RowKit Go.Proofs.YthbdjmopolpjmaaGreatDoorW.PrintWords Go.Proofs.YthbdjmopolpjmaaGreatDoorW.PrintLast Go.Proofs.YthbdjmopolpjmaaGreatDoorW.PrintMore Go.Proofs.YthbdjmopolpjmaaGreatDoor.F Go.Proofs.YthbdjmopolpjmaaGreatDoor.M
def Got (D : DataW Value) (left : Lit → Bool) (bs zs : List Int) : Prop := ∀ n : Int, n ∈ zs ↔ n ∈ bs ∨ (Maps.has D (.int .i64 n) = true ∧ left (.int .i64 n) = false)
theorem got_start (D : DataW Value) (bs : List Int) : Got D (Maps.has D) bs bs := fun n => by
  constructor
  · exact .inl
  · rintro (h | ⟨h1, h2⟩)
    · exact h
    · rw [h1] at h2; exact Bool.noConfusion h2
theorem got_step {D : DataW Value} {left : Lit → Bool} {bs zs : List Int} {x : Int} (h : Got D left bs zs) (hx : Maps.has D (.int .i64 x) = true) : Got D (fun z => left z && !z.sameKey (.int .i64 x)) bs (zs ++ [x]) := fun n => by
  rw [List.mem_append, List.mem_singleton, h n]
  by_cases he : n = x
  · subst he
    have hs : (Lit.int .i64 n).sameKey (.int .i64 n) = true := WideAt.sameKey_self (isKey n)
    simp [hx, hs]
  · have hs : (Lit.int .i64 n).sameKey (.int .i64 x) = false := by
      cases hk : (Lit.int .i64 n).sameKey (.int .i64 x) with
      | false => rfl
      | true => exact absurd (WideAt.sameKey_eq hk) (lit_ne he)
    simp [he, hs]
theorem got_end {D : DataW Value} {left : Lit → Bool} {bs zs : List Int} (h : Got D left bs zs) (hl : ∀ kl, left kl = false) (n : Int) : n ∈ zs ↔ n ∈ bs ∨ Maps.has D (.int .i64 n) = true := by
  rw [h n, hl]
  simp
theorem has_of_at {D : DataW Value} {kl : Lit} {y : DataW Value} (h : ∀ zd, D.atKey kl zd = y) : Maps.has D kl = true := by
  cases hh : Maps.has D kl with
  | true => rfl
  | false =>
    have h1 := (Maps.atKey_of_not_has hh (.held (.bool true))).symm.trans (h (.held (.bool true)))
    have h2 := (Maps.atKey_of_not_has hh (.held (.bool false))).symm.trans (h (.held (.bool false)))
    rw [← h2] at h1
    injection h1 with h1
    injection h1 with h1
    exact Bool.noConfusion h1
theorem mapAt_has {w : World} {l : List S41} {D : DataW Value} (h : MapAt w l D) (n : Int) : Maps.has D (.int .i64 n) = true ↔ n ∈ l.map (·.f0) := by
  rcases h n with ⟨h1, h2⟩ | ⟨x, _, _, h1, h2, _⟩
  · rw [h2]
    constructor
    · intro h; exact Bool.noConfusion h
    · intro hm
      obtain ⟨x, hx, e⟩ := List.mem_map.1 hm
      have := List.find?_eq_none.1 h1 x hx
      simp [e] at this
  · obtain ⟨e, hm⟩ := first_id h1
    exact ⟨fun _ => List.mem_map.2 ⟨x, hm, e⟩, fun _ => h2⟩
theorem got_nums {w w2 : World} {l l2 : List S41} {D D2 : DataW Value} {zs zs2 : List Int} (hM : MapAt w l D) (hM2 : MapAt w2 l2 D2) (h : ∀ n, n ∈ zs ↔ n ∈ ([] : List Int) ∨ Maps.has D (.int .i64 n) = true) (h2 : ∀ n, n ∈ zs2 ↔ n ∈ zs ∨ Maps.has D2 (.int .i64 n) = true) (n : Int) : n ∈ zs2 ↔ n ∈ numsOf l l2 := by
  unfold numsOf
  rw [h2, h, mapAt_has hM, mapAt_has hM2, List.mem_append]
  simp
open Go.Sort in
theorem sort_call (w : World) (base : Nat) (v : Value) (zs : List Int) (hR : (Kd.int .i64).R 3 w base (fun _ => True) v zs) (hl : zs.length < 4611686018427387904) :
    Calls Tryz.prog 29 #[v] w fun e w' => e = .returned (.tuple #[]) ∧ (Kd.int .i64).R 3 w' base (fun _ => True) v (zs.mergeSort fun x y => decide (x ≤ y)) ∧ w.grownBy w' v.ownBlock := by
  have ho := Kd.own_of_R hR
  rcases ho.2 with ⟨rfl, h0⟩ | ⟨g, cap, cur, rfl, hg, hb, h1, h2, h3, h4⟩
  · obtain rfl : zs = [] := List.length_eq_zero_iff.1 h0
    refine (Tryz.slices_Sort_int_none none 0 w).mono ?_
    rintro e w' ⟨rfl, rfl⟩
    exact ⟨rfl, by simpa using hR, World.grownBy.refl _ _⟩
  · have hH : Holds (Value.int .i64) w g 0 zs.toArray := holds_of_blockI hb (by simpa [encs] using h4)
    refine (Tryz.slices_Sort_int g 0 cap zs w hH (Array.getElem?_eq_some_iff.1 hb).1 hl).mono ?_
    rintro e w' ⟨rfl, n, os, rfl⟩
    have hlen : (zs.mergeSort fun x y => decide (x ≤ y)).length = zs.length := List.length_mergeSort _
    refine ⟨rfl, Kd.R_of_own ?_ (fun _ _ => trivial), grownBy_sortedI _⟩
    have := ownsRow_sortedI (n := n) (os := os) (ts := zs.mergeSort fun x y => decide (x ≤ y)) hlen hg hb h1 h2 h3
    rw [hlen]
    simpa [encs] using this
theorem row_ne_map {w : World} {base : Nat} {e : TypeId} {size m : Nat} {v : Value} {xs : List Value} {b n : Nat} {D : DataW Value} (h : w.ownsRow base e size v m xs) (hm : w.ownsMap Tryz.prog 3 hold b n D) : some b ≠ v.ownBlock := by
  intro e1
  obtain ⟨cells, hc⟩ := own_typed h b e1.symm
  obtain ⟨es, clock, hb, _⟩ := hm
  rw [hb] at hc
  cases hc
theorem R_ne_map {α : Type} {d : Kd α} {e : Nat} {w : World} {base : Nat} {ok : Nat → Prop} {v : Value} {xs : List α} {b n : Nat} {D : DataW Value} (h : d.R e w base ok v xs) (hm : w.ownsMap Tryz.prog 3 hold b n D) : some b ≠ v.ownBlock := by
  obtain ⟨inner, ho⟩ := Kd.R_own h
  exact row_ne_map ho hm
theorem R_ne_iter {α : Type} {d : Kd α} {e : Nat} {w : World} {base : Nat} {ok : Nat → Prop} {v : Value} {xs : List α} {b r n cnt : Nat} {left : Lit → Bool} {D : DataW Value} (h : d.R e w base ok v xs) (hm : w.ranges Tryz.prog 3 hold b r n D left cnt) : some r ≠ v.ownBlock := by
  obtain ⟨inner, ho⟩ := Kd.R_own h
  exact row_ne_iter ho hm
theorem next_hold {ops : Array Oper} {rest : List Oper} {o : Oper} {a : Act} {Q : Exit → Act → World → Prop} (w : World) (hg : o.guard = none) (it : Operand) (hop : o.op = Op.next it false)
    (b r n : Nat) (D : DataW Value) (left : Lit → Bool) (cnt : Nat) (hit : a.eval it = .pointer (some ⟨r, 0, none⟩)) (h : w.ranges Tryz.prog 3 hold b r n D left cnt)
    (hDone : cnt = 0 → (∀ kl, left kl = false) → wpList Tryz.prog ops Q rest (a.put o.dst (.tuple #[.bool false])) w)
    (hMore : ∀ (x : Int) (v : Value) (w' : World) (cnt' : Nat), Wf x → Maps.has D (.int .i64 x) = true → w'.ranges Tryz.prog 3 hold b r n D (fun z => left z && !z.sameKey (.int .i64 x)) cnt' → cnt' < cnt →
      w.grownBy w' (some r) → w'.heap.size = w.heap.size → (Instr.entry (.pointer (some ⟨r, 0, none⟩))).run Tryz.prog w' = .ok (.tuple #[.int .i64 x, v]) w' → wpList Tryz.prog ops Q rest (a.put o.dst (.tuple #[.bool true, .int .i64 x, v])) w') :
    wpList Tryz.prog ops Q (o :: rest) a w :=
  wpList_next_ranges w hg it hop 3 law3 hold (Value.int .i64) (fun v : Value => v) (fun key kl hkey => by obtain ⟨x, rfl, _⟩ := Maps.keyOf_int_inv Tryz.underlying3 hkey; exact ⟨x, rfl⟩) (fun v y hv => ⟨v, rfl⟩)
    b r n D left cnt hit h hDone (fun x c kl y w' cnt' hkey hlk hv hat hrg hlt hgr hsz hen => by
      obtain ⟨x', ex, rfl, hwx⟩ := Maps.keyOf_int_inv Tryz.underlying3 hkey
      cases ex
      exact hMore x c w' cnt' hwx (has_of_at hat) hrg hlt hgr hsz hen)
def IntsAt (W : World) (A : Option Addr) (cs : List Int) : Prop := cs = [] ∨ ∃ g cur, A = some ⟨g, 0, none⟩ ∧ W.heap[g]? = some (.cells cur 3 (0, 0)) ∧ ∀ j, j < cs.length → cur[j]? = some (.int .i64 (cs.getD j 0))
theorem IntsAt.grown {W W1 : World} {A : Option Addr} {cs : List Int} (h : IntsAt W A cs) {α : Type} {d : Kd α} {e : Nat} {base : Nat} {ok : Nat → Prop} {v : Value} {xs : List α} (hR : d.R e W base ok v xs) (he : e ≠ 3) (hg : W.grownBy W1 v.ownBlock) : IntsAt W1 A cs := by
  rcases h with h | ⟨g, cur, hA, hb, hc⟩
  · exact .inl h
  · exact .inr ⟨g, cur, hA, (hg.block g (Array.getElem?_eq_some_iff.1 hb).1 (Kd.R_ne hR hb he)).trans hb, hc⟩
theorem IntsAt.below {W W1 : World} {A : Option Addr} {cs : List Int} (h : IntsAt W A cs) (hB : Below W.heap.size W W1) : IntsAt W1 A cs := by
  rcases h with h | ⟨g, cur, hA, hb, hc⟩
  · exact .inl h
  · exact .inr ⟨g, cur, hA, (hB.block g (Array.getElem?_eq_some_iff.1 hb).1).trans hb, hc⟩
theorem IntsAt.at {W : World} {A : Option Addr} {cs : List Int} (h : IntsAt W A cs) {j : Nat} (hj : j < cs.length) : ∃ g, A = some ⟨g, 0, none⟩ ∧ W.cell? ⟨g, j, none⟩ = some (.int .i64 (cs.getD j 0)) := by
  rcases h with rfl | ⟨g, cur, hA, hb, hc⟩
  · exact absurd hj (Nat.not_lt_zero _)
  · exact ⟨g, hA, (blk_cell hb j).trans (hc j hj)⟩
def zE : S41 := ⟨0, ⟨#[]⟩, ⟨⟨#[]⟩, ⟨#[]⟩⟩, ⟨⟨#[]⟩, ⟨#[]⟩⟩, ⟨#[]⟩, 0, [], 0, false⟩
theorem look_any {w w0 : World} {b n : Nat} {D : DataW Value} {l : List S41} (h : w.ownsMap Tryz.prog 3 hold b n D) (hM : MapAt w0 l D) (id : Int) (hw : Wf id) :
    ∃ x A c ok, (Instr.lookup 60 (.map (some b)) (.int .i64 id) true).run Tryz.prog w = .ok (.tuple #[EV x A c, .bool ok]) w ∧ ((ok = false ∧ first l id = none) ∨ (ok = true ∧ first l id = some x)) ∧ x.f6.length ≤ c ∧ Kd.string.C w0 A x.f6.length x.f6 := by
  rcases look_run h hM id hw with ⟨h1, _, h3⟩ | ⟨x, A, c, h1, _, h3, h4, h5⟩
  · refine ⟨zE, none, 0, false, h3, .inl ⟨rfl, h1⟩, Nat.le_refl _, ?_⟩
    obtain ⟨A, c, e, _, hC⟩ := Kd.R_reads (Kd.R_nil Kd.string 9 w0 0 (fun _ => True))
    injection e with e1 e2 e3
    subst e1
    exact hC
  · exact ⟨x, A, c, true, h3, .inr ⟨rfl, h1⟩, h4, h5⟩
open Go.Sort in
theorem compact_call (w : World) (base : Nat) (v : Value) (zs : List Int) (hR : (Kd.int .i64).R 3 w base (fun _ => True) v zs) (hl : zs.length < 4611686018427387904) :
    Calls Tryz.prog 30 #[v] w fun e w' => ∃ A c, e = .returned (.slice A (Lib.compact zs).length c) ∧ (Lib.compact zs).length ≤ c ∧ IntsAt w' A (Lib.compact zs) ∧ w.grownBy w' v.ownBlock := by
  have ho := Kd.own_of_R hR
  rcases ho.2 with ⟨rfl, h0⟩ | ⟨g, cap, cur, rfl, hg, hb, h1, h2, h3, h4⟩
  · obtain rfl : zs = [] := List.length_eq_zero_iff.1 h0
    refine (Tryz.slices_Compact_int_empty none 0 w).mono ?_
    rintro e w' ⟨rfl, rfl⟩
    exact ⟨none, 0, rfl, Nat.le_refl _, .inl rfl, World.grownBy.refl _ _⟩
  · have hH : Holds (Value.int .i64) w g 0 zs.toArray := holds_of_blockI hb (by simpa [encs] using h4)
    refine (Tryz.slices_Compact_int g 0 cap zs w hH (by omega) h1).mono ?_
    rintro e w' ⟨rfl, n, rfl⟩
    have hcl := compact_le zs
    have hlen : (Lib.compact zs ++ List.replicate (zs.length - (Lib.compact zs).length) 0).length = zs.length := by
      rw [List.length_append, List.length_replicate]; omega
    have hg1 := grownBy_sortedI (w := w) (g := g) (n := n) (os := #[]) (Lib.compact zs ++ List.replicate (zs.length - (Lib.compact zs).length) 0).toArray
    have hb1 := heap_sortedI (n := n) (os := #[]) (Lib.compact zs ++ List.replicate (zs.length - (Lib.compact zs).length) 0).toArray hb
    have ht := take_putCellsI cur (Lib.compact zs ++ List.replicate (zs.length - (Lib.compact zs).length) 0) (by rw [hlen, h3]; omega)
    rw [grow_empty] at hg1 hb1
    refine ⟨_, _, rfl, by omega, .inr ⟨g, _, rfl, hb1, fun j hj => ?_⟩, hg1⟩
    have e1 := congrArg (fun l => l[j]?) ht
    have e1 : _ = _ := e1
    rw [List.getElem?_take_of_lt (by rw [hlen]; omega), Array.getElem?_toList] at e1
    rw [e1]
    rw [List.map_append, List.getElem?_append_left (by rw [List.length_map]; exact hj), List.getElem?_map, List.getElem?_eq_getElem hj]
    simp [List.getD, List.getElem?_eq_getElem hj]
end Go.Proofs.YthbdjmopolpjmaaGreatDoor.C
end
section
namespace Go.Proofs.YthbdjmopolpjmaaGreatDoor.F
open Go.RowKit Go.Proofs.YthbdjmopolpjmaaGreatDoorW.PrintWords Go.Proofs.YthbdjmopolpjmaaGreatDoorW.PrintLast Go.Proofs.YthbdjmopolpjmaaGreatDoorW.PrintMore
attribute [local go_sem] max2_int min2_int max_two min_two max_three min_three max_four min_four
set_option linter.unusedVariables false
set_option linter.unusedSimpArgs false
def slices_Equal_string_string.l0 : Nat → List ByteArray → List ByteArray → Int → Int → Option (Bool)
  | 0, _, _, _, _ => none
  | k + 1, x0, x1, x12, x13 => if x13 < x12 then (if 0 ≤ x13 then (if x13 < (x0.length : Int) then (if x13 < (x1.length : Int) then (if (rdOf ByteArray.empty x0 x13).toList = (rdOf ByteArray.empty x1 x13).toList then (slices_Equal_string_string.l0 k x0 x1 x12 (wrap64 (x13 + 1))) else (some false)) else (none)) else (none)) else (none)) else (some true)
def slices_Equal_string_string.f (k : Nat) (l0 : List ByteArray) (l1 : List ByteArray) : Option (Bool) := if (l0.length : Int) = (l1.length : Int) then (slices_Equal_string_string.l0 k l0 l1 (l0.length : Int) 0) else (some false)
theorem slices_Equal_string_string.mono_l : ∀ k, (∀ y0 y1 y2 y3, LeO (slices_Equal_string_string.l0 k y0 y1 y2 y3) (slices_Equal_string_string.l0 (k + 1) y0 y1 y2 y3))
  | 0 => fun _ _ _ _ r h => by simp [slices_Equal_string_string.l0] at h
  | k + 1 => by
    have ih0 := slices_Equal_string_string.mono_l k
    · intro y0 y1 y2 y3
      unfold slices_Equal_string_string.l0
      repeat' first
      | (with_reducible exact ih0 _ _ _ _)
      | (with_reducible exact LeO.refl _)
      | (with_reducible exact LeO.none _)
      | (with_reducible refine LeO.ite ?_ ?_)
      | (with_reducible refine LeO.bind ?_ (fun _ => ?_))
      | exact ih0 _ _ _ _
      | exact LeO.none _
      | refine LeO.ite ?_ ?_
      | refine LeO.bind ?_ (fun _ => ?_)
theorem slices_Equal_string_string.mono : ∀ a0 a1 k, LeO (slices_Equal_string_string.f k a0 a1) (slices_Equal_string_string.f (k + 1) a0 a1) := by
  intro a0 a1 k
  have ih0 := slices_Equal_string_string.mono_l k
  unfold slices_Equal_string_string.f
  repeat' first
      | (with_reducible exact ih0 _ _ _ _)
      | (with_reducible exact LeO.refl _)
      | (with_reducible exact LeO.none _)
      | (with_reducible refine LeO.ite ?_ ?_)
      | (with_reducible refine LeO.bind ?_ (fun _ => ?_))
      | exact ih0 _ _ _ _
      | exact LeO.none _
      | refine LeO.ite ?_ ?_
      | refine LeO.bind ?_ (fun _ => ?_)
set_option maxHeartbeats 8000000 in
set_option maxRecDepth 100000 in
theorem slices_Equal_string_string.calls (k : Nat) (A0 : Option Addr) (c0 : Nat) (l0 : List ByteArray) (A1 : Option Addr) (c1 : Nat) (l1 : List ByteArray) (r : Bool) (w : World) (hr0 : Kd.C Kd.string w A0 l0.length l0) (hc0 : l0.length ≤ c0) (hr1 : Kd.C Kd.string w A1 l1.length l1) (hc1 : l1.length ≤ c1) (h : slices_Equal_string_string.f k l0 l1 = some r) :
    Calls Tryz.prog 64 #[.slice A0 l0.length c0, .slice A1 l1.length c1] w fun e w' => e = .returned (.bool r) ∧ Drawn0 w w' := by
  have HR0 := Aside0.mk hr0
  have HC0 := Aside0.mk hc0
  clear hr0 hc0
  have HR1 := Aside0.mk hr1
  have HC1 := Aside0.mk hc1
  clear hr1 hc1
  have H : (if (l0.length : Int) = (l1.length : Int) then (slices_Equal_string_string.l0 k l0 l1 (l0.length : Int) 0) else (some false)) = some r := h
  clear h
  by_cases c3 : (l0.length : Int) = (l1.length : Int)
  · rw [if_pos c3] at H
    have c3b0 : ((l0.length : Int) == (l1.length : Int)) = true := beq_iff_eq.mpr c3
    have c3b1 : ((l0.length : Int) != (l1.length : Int)) = false := bne_eq_false_iff_eq.mpr c3
    have c3b2 : (l0.length == l1.length) = true := by first | simpa using c3 | (simp at c3 ⊢; omega)
    clear c3
    have H' := Aside0.mk H
    clear H
    go_enter Tryz.func64, Tryz.ntmps64
    go_wp2
    repeat (go_quiet (fail); try go_wp2)
    go_loopg [13] k (fun kq v13 w' => ∃ (x13_1 : Int), v13 = .int .i64 x13_1 ∧ Aside0 (slices_Equal_string_string.l0 kq l0 l1 (l0.length : Int) x13_1 = some r) ∧ Aside0 (kq ≤ k) ∧ Drawn0 w w')
    case atStart => exact ⟨(0), (by first | rfl | (simp; done) | (simp [*]; done)), H', ⟨Nat.le_refl _⟩, by repeat (first | exact Drawn0.refl _ | apply Drawn0.step)⟩
    case round =>
      clear H'
      try clear c1
      try clear p2
      try clear c3
      try clear c3b0
      try clear c3b1
      try clear c3b2
      obtain ⟨x13_1, rfl, HA, HK1, ⟨m1, rfl⟩⟩ := hrel
      cases gk with
      | zero => exact absurd HA.out (by simp [slices_Equal_string_string.l0])
      | succ k1 =>
        have H := HA.out
        clear HA
        simp only [slices_Equal_string_string.l0] at H
        by_cases c4 : x13_1 < (l0.length : Int)
        · rw [if_pos c4] at H
          have c4b0 : decide (x13_1 < (l0.length : Int)) = true := decide_eq_true c4
          clear c4
          by_cases c5 : 0 ≤ x13_1
          · rw [if_pos c5] at H
            have c5b0 : decide (0 ≤ x13_1) = true := decide_eq_true c5
            clear c5
            by_cases c6 : x13_1 < (l0.length : Int)
            · rw [if_pos c6] at H
              have c6b0 : decide (x13_1 < (l0.length : Int)) = true := decide_eq_true c6
              clear c6
              by_cases c7 : x13_1 < (l1.length : Int)
              · rw [if_pos c7] at H
                have c7b0 : decide (x13_1 < (l1.length : Int)) = true := decide_eq_true c7
                clear c7
                by_cases c8 : (rdOf ByteArray.empty l0 x13_1).toList = (rdOf ByteArray.empty l1 x13_1).toList
                · rw [if_pos c8] at H
                  have c8b0 : ((rdOf ByteArray.empty l0 x13_1).toList == (rdOf ByteArray.empty l1 x13_1).toList) = true := beq_iff_eq.mpr c8
                  have c8b1 : ((rdOf ByteArray.empty l0 x13_1).toList != (rdOf ByteArray.empty l1 x13_1).toList) = false := bne_eq_false_iff_eq.mpr c8
                  clear c8
                  have H' := Aside0.mk H
                  clear H
                  have p495 : 0 ≤ (x13_1 : Int) := of_decide_eq_true (by first | (with_reducible assumption) | assumption)
                  have q495 : x13_1 < (l0.length : Int) := of_decide_eq_true (by first | (with_reducible assumption) | assumption)
                  obtain ⟨ad495, e495, hx495_0⟩ := Kd.at_string HR0.out x13_1 p495 q495
                  cases e495
                  replace p495 := eq_true p495
                  replace q495 := eq_true q495
                  have p496 : 0 ≤ (x13_1 : Int) := of_decide_eq_true (by first | (with_reducible assumption) | assumption)
                  have q496 : x13_1 < (l1.length : Int) := of_decide_eq_true (by first | (with_reducible assumption) | assumption)
                  obtain ⟨ad496, e496, hx496_0⟩ := Kd.at_string HR1.out x13_1 p496 q496
                  cases e496
                  replace p496 := eq_true p496
                  replace q496 := eq_true q496
                  go_wp2
                  repeat (go_quiet (fail); try go_wp2)
                  go_roundg k1
                  case measure => have := HK1.out; omega
                  case rel => exact ⟨(wrap64 (x13_1 + 1)), (by first | rfl | (simp; done) | (simp [*]; done)), H', ⟨by have := HK1.out; omega⟩, by repeat (first | exact Drawn0.refl _ | apply Drawn0.step)⟩
                · rw [if_neg c8] at H
                  have c8b0 : ((rdOf ByteArray.empty l0 x13_1).toList == (rdOf ByteArray.empty l1 x13_1).toList) = false := beq_eq_false_iff_ne.mpr c8
                  have c8b1 : ((rdOf ByteArray.empty l0 x13_1).toList != (rdOf ByteArray.empty l1 x13_1).toList) = true := bne_iff_ne.mpr c8
                  obtain rfl := Option.some.inj H
                  have p495 : 0 ≤ (x13_1 : Int) := of_decide_eq_true (by first | (with_reducible assumption) | assumption)
                  have q495 : x13_1 < (l0.length : Int) := of_decide_eq_true (by first | (with_reducible assumption) | assumption)
                  obtain ⟨ad495, e495, hx495_0⟩ := Kd.at_string HR0.out x13_1 p495 q495
                  cases e495
                  replace p495 := eq_true p495
                  replace q495 := eq_true q495
                  have p496 : 0 ≤ (x13_1 : Int) := of_decide_eq_true (by first | (with_reducible assumption) | assumption)
                  have q496 : x13_1 < (l1.length : Int) := of_decide_eq_true (by first | (with_reducible assumption) | assumption)
                  obtain ⟨ad496, e496, hx496_0⟩ := Kd.at_string HR1.out x13_1 p496 q496
                  cases e496
                  replace p496 := eq_true p496
                  replace q496 := eq_true q496
                  go_wp2
                  repeat (go_quiet (fail); try go_wp2)
                  go_ret
                  exact ⟨by first | rfl | (simp; done) | (simp [*]; done), by repeat (first | exact Drawn0.refl _ | apply Drawn0.step)⟩
              · rw [if_neg c7] at H
                exact absurd H (by simp)
            · rw [if_neg c6] at H
              exact absurd H (by simp)
          · rw [if_neg c5] at H
            exact absurd H (by simp)
        · rw [if_neg c4] at H
          have c4b0 : decide (x13_1 < (l0.length : Int)) = false := decide_eq_false c4
          clear c4
          obtain rfl := Option.some.inj H
          go_wp2
          repeat (go_quiet (fail); try go_wp2)
          go_ret
          exact ⟨by first | rfl | (simp; done) | (simp [*]; done), by repeat (first | exact Drawn0.refl _ | apply Drawn0.step)⟩
  · rw [if_neg c3] at H
    have c3b0 : ((l0.length : Int) == (l1.length : Int)) = false := beq_eq_false_iff_ne.mpr c3
    have c3b1 : ((l0.length : Int) != (l1.length : Int)) = true := bne_iff_ne.mpr c3
    have c3b2 : (l0.length == l1.length) = false := by first | simpa using c3 | (simp at c3 ⊢; omega)
    obtain rfl := Option.some.inj H
    go_enter Tryz.func64, Tryz.ntmps64
    go_wp2
    repeat (go_quiet (fail); try go_wp2)
    go_ret
    exact ⟨by first | rfl | (simp; done) | (simp [*]; done), by repeat (first | exact Drawn0.refl _ | apply Drawn0.step)⟩
end Go.Proofs.YthbdjmopolpjmaaGreatDoor.F
end
section
set_option linter.unusedVariables false
set_option linter.unusedSimpArgs false
namespace Go.Proofs.YthbdjmopolpjmaaGreatDoor.C
open Go.RowKit Go.Proofs.YthbdjmopolpjmaaGreatDoorW.PrintWords Go.Proofs.YthbdjmopolpjmaaGreatDoorW.PrintLast Go.Proofs.YthbdjmopolpjmaaGreatDoorW.PrintMore Go.Proofs.YthbdjmopolpjmaaGreatDoor.F Go.Proofs.YthbdjmopolpjmaaGreatDoor.M
def eqL (a b : List ByteArray) : Bool := a.map (·.toList) == b.map (·.toList)
theorem eqL_cons (x y : ByteArray) (a b : List ByteArray) : eqL (x :: a) (y :: b) = (x.toList == y.toList && eqL a b) := rfl
theorem eqL_len {a b : List ByteArray} (h : a.length ≠ b.length) : eqL a b = false := by
  refine Bool.eq_false_iff.2 fun e => h ?_
  have := congrArg List.length (eq_of_beq e)
  simpa using this
theorem eqL_refl (a : List ByteArray) : eqL a a = true := beq_self_eq_true _
theorem drop_rdOf (xs : List ByteArray) (i : Nat) (h : i < xs.length) : xs.drop i = rdOf ByteArray.empty xs (i : Int) :: xs.drop (i + 1) := by
  rw [List.drop_eq_getElem_cons h]
  congr 1
  simp [rdOf, List.getD_eq_getElem?_getD, List.getElem?_eq_getElem h]
theorem same_l0' (a b : List ByteArray) (ha : a.length ≤ 1048576) (hab : a.length = b.length) : ∀ (m i : Nat), i + m = a.length → cubitref01_SameTexts.l0 (m + 1) a b (i : Int) = some (eqL (a.drop i) (b.drop i)) := by
  intro m
  induction m with
  | zero =>
    intro i hi
    unfold cubitref01_SameTexts.l0
    rw [if_neg (by omega), List.drop_eq_nil_of_le (by omega), List.drop_eq_nil_of_le (by omega)]
    rfl
  | succ m ih =>
    intro i hi
    unfold cubitref01_SameTexts.l0
    rw [if_pos (by omega), if_pos (by omega), if_pos (by omega), drop_rdOf a i (by omega), drop_rdOf b i (by omega), eqL_cons]
    by_cases h : (rdOf ByteArray.empty a (i : Int)).toList = (rdOf ByteArray.empty b (i : Int)).toList
    · rw [if_pos h, w64 (by omega) (by omega), beq_iff_eq.2 h, Bool.true_and]
      exact ih (i + 1) (by omega)
    · rw [if_neg h, beq_eq_false_iff_ne.2 h, Bool.false_and]
theorem same_texts (a b : List ByteArray) (ha : a.length ≤ 1048576) : cubitref01_SameTexts.f (a.length + 1) a b = some (eqL a b) := by
  unfold cubitref01_SameTexts.f
  by_cases h : a.length = b.length
  · rw [if_pos (by omega)]
    exact same_l0' a b ha h a.length 0 (by omega)
  · rw [if_neg (by omega), eqL_len h]
theorem ref_texts (a b : List ByteArray) (ha : a.length ≤ 1048576) : cubitref29_texts.f (a.length + 1) a b = some (eqL a b) := by
  have e : ∀ k (a b : List ByteArray) i, cubitref29_texts.l0 k a b i = cubitref01_SameTexts.l0 k a b i := by
    intro k
    induction k with
    | zero => intro a b i; rfl
    | succ k ih => intro a b i; simp only [cubitref29_texts.l0, cubitref01_SameTexts.l0, ih]
  have h := same_texts a b ha
  unfold cubitref01_SameTexts.f at h
  unfold cubitref29_texts.f
  rw [e]
  exact h
theorem equal_texts (a b : List ByteArray) (ha : a.length ≤ 1048576) : slices_Equal_string_string.f (a.length + 1) a b = some (eqL a b) := by
  have e : ∀ k (a b : List ByteArray) i, slices_Equal_string_string.l0 k a b (a.length : Int) i = cubitref01_SameTexts.l0 k a b i := by
    intro k
    induction k with
    | zero => intro a b i; rfl
    | succ k ih =>
      intro a b i
      simp only [slices_Equal_string_string.l0, cubitref01_SameTexts.l0, ih]
      by_cases h : i < (a.length : Int)
      · simp only [if_pos h]
      · simp only [if_neg h]
  have h := same_texts a b ha
  unfold cubitref01_SameTexts.f at h
  unfold slices_Equal_string_string.f
  rw [e]
  exact h
end Go.Proofs.YthbdjmopolpjmaaGreatDoor.C
end
