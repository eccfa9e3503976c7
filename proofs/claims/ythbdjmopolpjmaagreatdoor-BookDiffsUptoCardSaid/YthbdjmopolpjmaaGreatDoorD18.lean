/- Part 18 of the proof: CLent, CCopied, CSame2, MKnown, CKept, CLaw, Bulk, MMap, COpen. -/
import Derived.Deep.RegionHeld3
import Derived.Deep.Slices
import Derived.Maps.OwnSet
import Derived.Maps.RangeWalk
import Derived.Maps.Views
import Derived.OpenShut
import Derived.ProofKit
import Derived.StillTailTactics
import Derived.WalkKit
import Derived.Test.YthbdjmopolpjmaaGreatDoorD00
import Derived.Test.YthbdjmopolpjmaaGreatDoorD01
import Derived.Test.YthbdjmopolpjmaaGreatDoorD02
import Derived.Test.YthbdjmopolpjmaaGreatDoorD03
import Derived.Test.YthbdjmopolpjmaaGreatDoorD04
import Derived.Test.YthbdjmopolpjmaaGreatDoorD05
import Derived.Test.YthbdjmopolpjmaaGreatDoorD06
import Derived.Test.YthbdjmopolpjmaaGreatDoorD07
import Derived.Test.YthbdjmopolpjmaaGreatDoorD08
import Derived.Test.YthbdjmopolpjmaaGreatDoorD09
import Derived.Test.YthbdjmopolpjmaaGreatDoorD10
import Derived.Test.YthbdjmopolpjmaaGreatDoorD11
import Derived.Test.YthbdjmopolpjmaaGreatDoorD12
import Derived.Test.YthbdjmopolpjmaaGreatDoorD13
import Derived.Test.YthbdjmopolpjmaaGreatDoorD14
import Derived.Test.YthbdjmopolpjmaaGreatDoorD15
import Derived.Test.YthbdjmopolpjmaaGreatDoorD16
import Derived.Test.YthbdjmopolpjmaaGreatDoorD17
import Derived.Test.YthbdjmopolpjmaaGreatDoorRows
section
set_option linter.unusedVariables false
set_option linter.unusedSimpArgs false
namespace Go.Proofs.YthbdjmopolpjmaaGreatDoor.C
open Go.RowKit Go.Proofs.YthbdjmopolpjmaaGreatDoorW.PrintWords Go.Proofs.YthbdjmopolpjmaaGreatDoorW.PrintLast Go.Proofs.YthbdjmopolpjmaaGreatDoorW.PrintMore Go.Proofs.YthbdjmopolpjmaaGreatDoor.F Go.Proofs.YthbdjmopolpjmaaGreatDoor.M
attribute [local go_sem] max2_int min2_int max_two min_two max_three min_three max_four min_four
def mark : ByteArray := ⟨#[52, 51, 50, 49]⟩
def lent : Kd (List ByteArray × Bool) where
  sz := 1
  E := [9]
  K := fun w x cs => (x.2 = true ∧ ∃ A c, cs = [.slice A x.1.length c] ∧ x.1.length + 1 ≤ c ∧ Kd.string.C w A (x.1.length + 1) (x.1 ++ [mark])) ∨ (x.2 = false ∧ x.1 = [] ∧ cs = [.slice none 0 0])
  M := fun w base ok x cs => (x.2 = true ∧ ∃ A c, cs = [.slice A x.1.length c] ∧ Kd.string.R 9 w base ok (.slice A (x.1.length + 1) c) (x.1 ++ [mark])) ∨ (x.2 = false ∧ x.1 = [] ∧ cs = [.slice none 0 0])
  K_len := by
    rintro w x cs (⟨_, A, c, rfl, _⟩ | ⟨_, _, rfl⟩) <;> rfl
  K_one := by
    rintro w x cs (⟨_, A, c, rfl, _⟩ | ⟨_, _, rfl⟩) u hu <;> (rw [List.mem_singleton.1 hu]; rfl)
  K_below := by
    rintro w w1 x cs hb (⟨h0, A, c, rfl, hl, hC⟩ | h)
    · exact .inl ⟨h0, A, c, rfl, hl, Kd.C_below hC hb⟩
    · exact .inr h
  K_of_M := by
    rintro w base ok x cs (⟨h0, A, c, rfl, hR⟩ | h)
    · obtain ⟨A2, c2, he, hl, hC⟩ := Kd.R_reads hR
      injection he with e1 e2 e3
      subst e1 e3
      rw [List.length_append, List.length_singleton] at hl hC
      exact .inl ⟨h0, A, c, rfl, hl, hC⟩
    · exact .inr h
  M_mono := by
    rintro w base ok ok' x cs hok (⟨h0, A, c, rfl, hR⟩ | h)
    · exact .inl ⟨h0, A, c, rfl, Kd.R_mono hR hok⟩
    · exact .inr h
  M_bound := by
    rintro w base ok x cs (⟨h0, A, c, rfl, hR⟩ | h)
    · exact .inl ⟨h0, A, c, rfl, Kd.R_bound hR⟩
    · exact .inr h
  M_move := by
    rintro w w1 base ok x cs hm (⟨h0, A, c, rfl, hR⟩ | h)
    · exact .inl ⟨h0, A, c, rfl, Kd.R_move hR hm⟩
    · exact .inr h
  M_lower := by
    rintro w base base' ok x cs hb (⟨h0, A, c, rfl, hR⟩ | h)
    · exact .inl ⟨h0, A, c, rfl, Kd.R_lower hR hb⟩
    · exact .inr h
def k41L : Kd (S41 × Bool) := Kd.iso (Kd.pair (Kd.int .i64) (Kd.pair Kd.string (Kd.pair k39 (Kd.pair k39 (Kd.pair Kd.string (Kd.pair (Kd.int .i64) (Kd.pair lent (Kd.pair (Kd.int .i64) Kd.bool)))))))) (fun x : S41 × Bool => (x.1.f0, x.1.f1, x.1.f2, x.1.f3, x.1.f4, x.1.f5, (x.1.f6, x.2), x.1.f7, x.1.f8))
theorem k41L_mkM (w : World) (base : Nat) (ok : Nat → Prop) (x : S41) (b : Bool) {v8 : Value} (g8 : lent.M w base ok (x.f6, b) [v8]) : k41L.M w base ok (x, b) [.int .i64 x.f0, .string x.f1, .string x.f2.f0, .string x.f2.f1, .string x.f3.f0, .string x.f3.f1, .string x.f4, .int .i64 x.f5, v8, .int .i64 x.f7, .bool x.f8] :=
  ⟨[.int .i64 x.f0], _, rfl, rfl, [.string x.f1], _, rfl, rfl, [.string x.f2.f0, .string x.f2.f1], _, rfl, k39_mkM w base ok x.f2, [.string x.f3.f0, .string x.f3.f1], _, rfl, k39_mkM w base ok x.f3, [.string x.f4], _, rfl, rfl, [.int .i64 x.f5], _, rfl, rfl, [v8], [.int .i64 x.f7, .bool x.f8], rfl, g8, [.int .i64 x.f7], [.bool x.f8], rfl, rfl, rfl⟩
theorem k41L_open {w : World} {x : S41} {b : Bool} {cs : List Value} (h : k41L.K w (x, b) cs) : ∃ v8, cs = [.int .i64 x.f0, .string x.f1, .string x.f2.f0, .string x.f2.f1, .string x.f3.f0, .string x.f3.f1, .string x.f4, .int .i64 x.f5, v8, .int .i64 x.f7, .bool x.f8] ∧ lent.K w (x.f6, b) [v8] := by
  obtain ⟨_, _, rfl, rfl, ⟨_, _, rfl, rfl, ⟨_, _, rfl, s2, ⟨_, _, rfl, s4, ⟨_, _, rfl, rfl, ⟨_, _, rfl, rfl, ⟨c8, _, rfl, g8, ⟨_, _, rfl, rfl, rfl⟩⟩⟩⟩⟩⟩⟩⟩ := h
  obtain rfl := k39_open s2
  obtain rfl := k39_open s4
  have hl := lent.K_len g8
  obtain ⟨v8, rfl⟩ := List.length_eq_one_iff.1 hl
  exact ⟨v8, rfl, g8⟩
theorem k41L_read {w : World} {x : S41} {cs : List Value} (h : k41L.K w (x, true) cs) : k41.K w x cs := by
  obtain ⟨v8, rfl, h8⟩ := k41L_open h
  rcases h8 with ⟨_, A, c, he, hl, hC⟩ | ⟨h0, _⟩
  · obtain rfl : v8 = .slice A x.f6.length c := by simpa using he
    refine k41_mk w x (A8 := A) (c8 := c) (by simp at hl; omega) ?_
    have h1 := Kd.C_take (k := Kd.string) (xs := x.f6 ++ [mark]) (m := x.f6.length) (by rw [List.length_append, List.length_singleton]; exact hC) (by simp)
    rw [List.take_left] at h1
    exact h1
  · exact Bool.noConfusion h0
theorem lent_reads {w : World} {A : Option Addr} {l : List S41} {y : S41} (h : k41L.C w A (l.length + 1) (l.map (fun x => (x, true)) ++ [(y, false)])) : k41.C w A l.length l := by
  obtain ⟨h1, h2, h3⟩ := h
  refine ⟨rfl, by omega, fun hn => ?_⟩
  obtain ⟨ad, e, hc⟩ := h3 (by omega)
  refine ⟨ad, e, fun j p hj => ?_⟩
  have hjl := (List.getElem?_eq_some_iff.1 hj).1
  obtain ⟨c, hs, hk, hcell⟩ := hc j (p, true) (by
    rw [List.getElem?_append_left (by simpa using hjl)]
    simp [hj])
  exact ⟨c, hs, k41L_read hk, hcell⟩
theorem cut_up (t e : TypeId) (kh : IntKind) {i : TypeInfo} (ht : Tryz.prog.underlying t = some (.slice e)) (hi : Tryz.prog.info? e = some i) (A : Option Addr) (n c : Nat) (j : Int) (h0 : 0 ≤ j) (hm : j ≤ c) :
    ∀ W : World, (Instr.slice t (.slice A n c) none (some (.int kh j)) none).run Tryz.prog W = .ok (.slice A j.toNat c) W := by
  intro W
  have hel : Tryz.prog.elem t = e := by simp [Program.elem, ht]
  have hu : Tryz.prog.underlying t = some (.slice (Tryz.prog.elem t)) := by rw [hel]; exact ht
  have ha : (A.map fun x => x.add 0) = A := by cases A <;> simp [Addr.add]
  rw [run_slice_h W t A n c hu kh j h0 (by omega), hel]
  simp [sizeOf, typeInfo, hi, sliced, Result.andThen, ha]
theorem same_l0 (xs : List ByteArray) (hx : xs.length ≤ 1048576) : ∀ (d i : Nat), i + d = xs.length → ∀ k, d < k → cubitref01_SameTexts.l0 k xs xs (i : Int) = some true := by
  intro d
  induction d with
  | zero =>
    intro i hi k hk
    obtain ⟨k, rfl⟩ : ∃ m, k = m + 1 := ⟨k - 1, by omega⟩
    simp only [cubitref01_SameTexts.l0]
    rw [if_neg (by omega)]
  | succ d ih =>
    intro i hi k hk
    obtain ⟨k, rfl⟩ : ∃ m, k = m + 1 := ⟨k - 1, by omega⟩
    simp only [cubitref01_SameTexts.l0]
    have hw : wrap64 ((i : Int) + 1) = ((i + 1 : Nat) : Int) := by rw [w64 (by omega) (by omega)]; omega
    rw [if_pos (by omega), if_pos (by omega), if_pos (by omega), if_pos True.intro, hw]
    exact ih (i + 1) (by omega) k (by omega)
theorem same_is (xs : List ByteArray) (hx : xs.length ≤ 1048576) : cubitref01_SameTexts.f (xs.length + 1) xs xs = some true := by
  unfold cubitref01_SameTexts.f
  rw [if_pos rfl]
  exact same_l0 xs hx xs.length 0 (by omega) _ (by omega)
theorem texts_is (xs : List ByteArray) (hx : xs.length ≤ 1048576) : cubitref29_texts.f (xs.length + 1) xs xs = some true := by
  have e : ∀ k (xs : List ByteArray) i, cubitref29_texts.l0 k xs xs i = cubitref01_SameTexts.l0 k xs xs i := by
    intro k
    induction k with
    | zero => intro xs i; rfl
    | succ k ih => intro xs i; simp only [cubitref29_texts.l0, cubitref01_SameTexts.l0, ih]
  unfold cubitref29_texts.f
  rw [if_pos rfl, e]
  exact same_l0 xs hx xs.length 0 (by omega) _ (by omega)
end Go.Proofs.YthbdjmopolpjmaaGreatDoor.C
end
section
set_option linter.unusedVariables false
set_option linter.unusedSimpArgs false
namespace Go.Proofs.YthbdjmopolpjmaaGreatDoor.C
open Go.RowKit Go.Proofs.YthbdjmopolpjmaaGreatDoorW.PrintWords Go.Proofs.YthbdjmopolpjmaaGreatDoorW.PrintLast Go.Proofs.YthbdjmopolpjmaaGreatDoorW.PrintMore Go.Proofs.YthbdjmopolpjmaaGreatDoor.F Go.Proofs.YthbdjmopolpjmaaGreatDoor.M
attribute [local go_sem] max2_int min2_int max_two min_two max_three min_three max_four min_four
set_option maxRecDepth 100000 in
set_option maxHeartbeats 4000000 in
theorem lentTexts_call (A : Option Addr) (c : Nat) (xs : List ByteArray) (w : World) (hC : Kd.string.C w A xs.length xs) (hc : xs.length ≤ c) (hl : xs.length ≤ 1048576) :
    Calls Tryz.prog 19 #[.slice A xs.length c] w fun e w' => ∃ A' c', e = .returned (.slice A' xs.length c') ∧ Kd.string.R 9 w' w.heap.size (fun _ => True) (.slice A' (xs.length + 1) c') (xs ++ [mark]) ∧ Below w.heap.size w w' := by
  have HC := Aside0.mk hC
  have HL := Aside0.mk hl
  have hlm := eq_true (show xs.length ≤ 9223372036854775807 by omega)
  clear hC hc hl
  go_enter Tryz.func19, Tryz.ntmps19
  go_wp2_with (first | ((with_reducible refine gate_builtin (b := .append) (xs := #[.tmp 4, .tmp 5]) rfl ?_); at_builtin; refine Kd.R_append_rows Kd.string (w0 := w) w.heap.size rfl (.tmp 4) (.tmp 5) 30 9 (.string ⟨#[]⟩) 16 rfl Tryz.underlying30 info9 rfl (by decide) (by omega) (.slice none 0 0) ([] : List ByteArray) xs _ _ _ (fun _ => True) (fun _ => False) rfl rfl ?aO ?aR (fun _ _ h => h) (fun _ h => h.elim) ?aF ?aB ?aS ?aL ?_; (case aR => exact HC.out); (case aB => exact Below.refl _ _); (case aF => exact (fun _ _ => trivial)); (case aO => exact ((Kd.R_nil _ _ _ _ (fun _ => True)))); (case aS => exact Nat.le_refl _); (case aL => have := HL.out; simp; omega); intro v2 w2 ho hb hg hat; rw [List.nil_append] at ho; have HN := Aside0.mk (And.intro ho hb); clear ho hb hg hat) | ((with_reducible refine gate_builtin (b := .append) (xs := #[.tmp 7, .tmp 8]) rfl ?_); at_builtin; refine Kd.R_append Kd.string (w0 := w) w.heap.size rfl (.tmp 7) (.tmp 8) 30 9 (.string ⟨#[]⟩) 16 rfl Tryz.underlying30 info9 rfl (by decide) (by omega) v2 xs mark [.string mark] (fun _ => True) (fun _ => False) rfl rfl ?aP (fun _ hk => hk.elim) ?aF ?aO ?aB ?aS ?aL ?_; (case aP => exact rfl); (case aF => exact (fun _ _ => trivial)); (case aO => exact HN.out.1); (case aB => exact HN.out.2); (case aS => exact HN.out.2.size); (case aL => have := HL.out; omega); intro v3 w3 ho hb hg hat; obtain ⟨A3, c3, hv, hc3, _⟩ := Kd.R_reads ho; rw [List.length_append, List.length_singleton] at hv hc3; subst hv; have HN2 := Aside0.mk (And.intro ho hb); obtain ⟨i0, hi0, _, _, _⟩ := info_parts info9; have hcut := cut_up 30 9 .i64 Tryz.underlying30 hi0 A3 (xs.length + 1) c3 (xs.length : Int) (by omega) (by omega); rw [Int.toNat_natCast] at hcut; clear ho hb hg hat hi0 hc3))
  go_ret
  exact ⟨A3, c3, rfl, HN2.out.1, HN2.out.2⟩
set_option maxRecDepth 100000 in
set_option maxHeartbeats 4000000 in
theorem keptTexts_call (A A2 : Option Addr) (c c2 : Nat) (xs : List ByteArray) (w : World) (hC : Kd.string.C w A (xs.length + 1) (xs ++ [mark])) (hc : xs.length + 1 ≤ c) (hC2 : Kd.string.C w A2 xs.length xs) (hc2 : xs.length ≤ c2) (hl : xs.length ≤ 1048576) :
    Calls Tryz.prog 27 #[.slice A xs.length c, .slice A2 xs.length c2] w fun e w' => e = .returned (.bool true) ∧ Drawn0 w w' := by
  have hC1 : Kd.string.C w A xs.length xs := by
    have h1 := Kd.C_take (k := Kd.string) (xs := xs ++ [mark]) (m := xs.length) (by rw [List.length_append, List.length_singleton]; exact hC) (by simp)
    rw [List.take_left] at h1
    exact h1
  have HC := Aside0.mk (And.intro hC1 (And.intro hC2 (And.intro hc hc2)))
  have HL := Aside0.mk hl
  obtain ⟨i0, hi0, _, _, _⟩ := info_parts info9
  have hcut := cut_up 30 9 .i64 Tryz.underlying30 hi0 A xs.length c ((xs.length : Int) + 1) (by omega) (by omega)
  have e1 : ((xs.length : Int) + 1).toNat = xs.length + 1 := by omega
  rw [e1] at hcut
  obtain ⟨ad, e, hm⟩ := Kd.at_string hC (xs.length : Int) (by omega) (by omega)
  subst e
  rw [Int.toNat_natCast, show rdOf ByteArray.empty (xs ++ [mark]) (xs.length : Int) = mark by simp [rdOf]] at hm
  have hw : wrap64 ((xs.length : Int) + 1) = (xs.length : Int) + 1 := w64 (by omega) (by omega)
  have HM := Aside0.mk hm
  clear hC hC1 hC2 hc hc2 hl hi0 e1 hm
  go_enter Tryz.func27, Tryz.ntmps27
  go_wp2_with fail
  refine (cubitref01_SameTexts.calls (xs.length + 1) _ c xs A2 c2 xs true _ HC.out.1 (by have := HC.out.2.2.1; omega) HC.out.2.1 HC.out.2.2.2 (same_is xs HL.out)).mono ?_
  rintro e w1 ⟨rfl, hd⟩
  have hm := pw_cell_below hd.below HM.out
  have HD := Aside0.mk hd
  have p0 := eq_true (show (0 : Int) ≤ (xs.length : Int) by omega)
  have q0 := eq_true (show (xs.length : Int) < ((xs.length + 1 : Nat) : Int) by omega)
  have q1 := eq_true (show xs.length < xs.length + 1 by omega)
  have hmk : (mark.toList == [52, 51, 50, 49]) = true := by rw [ByteArray.toList_eq]; rfl
  clear hd
  go_wp2_with fail
  go_ret
  exact ⟨rfl, HD.out⟩
def behind : S41 := ⟨0, mark, ⟨⟨#[]⟩, ⟨#[]⟩⟩, ⟨⟨#[]⟩, ⟨#[]⟩⟩, ⟨#[]⟩, 0, [], 0, false⟩
set_option maxRecDepth 100000 in
set_option maxHeartbeats 8000000 in
theorem copied_call (A : Option Addr) (c : Nat) (l : List S41) (w : World) (hC : k41.C w A l.length l) (hc : l.length ≤ c) (hl : l.length ≤ 1048576) (ht : ∀ x ∈ l, x.f6.length ≤ 1048576) :
    Calls Tryz.prog 7 #[.slice A l.length c] w fun e w' => ∃ A' c', e = .returned (.slice A' l.length c') ∧ k41L.R 41 w' w.heap.size (fun _ => True) (.slice A' (l.length + 1) c') (l.map (fun x => (x, true)) ++ [(behind, false)]) ∧ Below w.heap.size w w' := by
  have HC := Aside0.mk (And.intro hC (And.intro hc (And.intro hl ht)))
  have hlm := eq_true (show l.length ≤ 9223372036854775807 by omega)
  clear hC hc hl ht
  go_enter Tryz.func7, Tryz.ntmps7
  go_wp2_with fail
  go_loopg [3, 4] l.length (fun kq v3 v4 W => ∃ i : Int, v4 = .int .i64 i ∧ Aside0 (0 ≤ i ∧ i ≤ l.length ∧ l.length ≤ i + kq ∧ k41L.R 41 W w.heap.size (fun _ => True) v3 ((l.take i.toNat).map (fun x => (x, true))) ∧ Below w.heap.size w W))
  case atStart => exact ⟨0, rfl, ⟨by omega, by omega, by omega, Kd.R_nil _ _ _ _ _, Below.refl _ _⟩⟩
  case round =>
    obtain ⟨i, rfl, HJ⟩ := hrel
    have HBw := Aside0.mk HJ.out.2.2.2.2
    by_cases hi : i < l.length
    · have p0 := HJ.out.1
      have q0 := hi
      obtain ⟨ad, A8, c8, e, hx0, hx1, hx2, hx3, hx4, hx5, hx6, hx7, hx8, hx9, hx10, hl8, hi8⟩ := at_T41 HC.out.1 i p0 q0
      cases e
      replace hx0 := pw_cell_below HBw.out hx0
      replace hx1 := pw_cell_below HBw.out hx1
      replace hx2 := pw_cell_below HBw.out hx2
      replace hx3 := pw_cell_below HBw.out hx3
      replace hx4 := pw_cell_below HBw.out hx4
      replace hx5 := pw_cell_below HBw.out hx5
      replace hx6 := pw_cell_below HBw.out hx6
      replace hx7 := pw_cell_below HBw.out hx7
      replace hx8 := pw_cell_below HBw.out hx8
      replace hx9 := pw_cell_below HBw.out hx9
      replace hx10 := pw_cell_below HBw.out hx10
      have HI := Aside0.mk (And.intro hi (And.intro hl8 hi8))
      clear hi hl8 hi8
      have hd := decide_eq_true q0
      replace p0 := eq_true p0
      replace q0 := eq_true q0
      obtain ⟨eb, heb⟩ : ∃ eb, wr.heap.size = eb := ⟨_, rfl⟩
      obtain ⟨w0, hw0⟩ : ∃ w0, wr.alloc (.cells #[.int .i64 (rd_T41 l i).f0, .string (rd_T41 l i).f1, .string (rd_T41 l i).f2.f0, .string (rd_T41 l i).f2.f1, .string (rd_T41 l i).f3.f0, .string (rd_T41 l i).f3.f1, .string (rd_T41 l i).f4, .int .i64 (rd_T41 l i).f5, .slice A8 (rd_T41 l i).f6.length c8, .int .i64 (rd_T41 l i).f7, .bool (rd_T41 l i).f8] 41) = w0 := ⟨_, rfl⟩
      have hB0 : Below wr.heap.size wr w0 := by rw [← hw0]; exact below_alloc (Below.refl _ _) _
      have hE0 : w0.heap[eb]? = some (.cells #[.int .i64 (rd_T41 l i).f0, .string (rd_T41 l i).f1, .string (rd_T41 l i).f2.f0, .string (rd_T41 l i).f2.f1, .string (rd_T41 l i).f3.f0, .string (rd_T41 l i).f3.f1, .string (rd_T41 l i).f4, .int .i64 (rd_T41 l i).f5, .slice A8 (rd_T41 l i).f6.length c8, .int .i64 (rd_T41 l i).f7, .bool (rd_T41 l i).f8] 41 (0, 0)) := by rw [← hw0, ← heb]; exact blk_new wr _
      have HB0 := Aside0.mk (And.intro hB0 hE0)
      have HEB := Aside0.mk heb
      have hy8 := cell_later hB0 hx8
      obtain ⟨k1, rfl⟩ : ∃ k1, gk = k1 + 1 := ⟨gk - 1, by have := HJ.out.2.2.1; have := HI.out.1; omega⟩
      clear hB0 hE0
      go_wp2_with fail
      refine (lentTexts_call A8 c8 (rd_T41 l i).f6 _ (Kd.C_below (Kd.C_below HI.out.2.2 HBw.out) HB0.out.1) HI.out.2.1 (HC.out.2.2.2 _ (rd_mem HJ.out.1 HI.out.1))).mono ?_
      rintro e w2 ⟨A', c', rfl, hR, hb⟩
      have hE2 := blk_below HB0.out.2 hb
      have g8 : w2.cell? ⟨eb, 8, none⟩ = some (.slice A8 (rd_T41 l i).f6.length c8) := (eleven hE2).2.2.2.2.2.2.2.2.1
      have z8 : w2.frozen? ⟨eb, 8, none⟩ = false := blk_frozen hE2 8
      have hE3 : (w2.setCell ⟨eb, 8, none⟩ (.slice A' (rd_T41 l i).f6.length c')).heap[eb]? = some (.cells #[.int .i64 (rd_T41 l i).f0, .string (rd_T41 l i).f1, .string (rd_T41 l i).f2.f0, .string (rd_T41 l i).f2.f1, .string (rd_T41 l i).f3.f0, .string (rd_T41 l i).f3.f1, .string (rd_T41 l i).f4, .int .i64 (rd_T41 l i).f5, (.slice A' (rd_T41 l i).f6.length c'), .int .i64 (rd_T41 l i).f7, .bool (rd_T41 l i).f8] 41 (0, 0)) := blk_set hE2 8 _
      obtain ⟨w3, hw3⟩ : ∃ w3, w2.setCell ⟨eb, 8, none⟩ (.slice A' (rd_T41 l i).f6.length c') = w3 := ⟨_, rfl⟩
      rw [hw3] at hE3
      have hB3 : Below wr.heap.size wr w3 := by rw [← hw3]; exact Below.setCell (p := ⟨eb, 8, none⟩) (below_then HB0.out.1 HB0.out.1.size hb) (Nat.le_of_eq HEB.out) _
      have hR3 : Kd.string.R 9 w3 wr.heap.size (fun k => wr.heap.size ≤ k) (.slice A' ((rd_T41 l i).f6.length + 1) c') ((rd_T41 l i).f6 ++ [mark]) := by
        rw [← hw3]
        refine Kd.R_lower (Kd.R_set (Kd.R_mono (Kd.R_bound hR) (fun k hk => Nat.le_trans HB0.out.1.size hk.2.1)) hE2 (by simp [Kd.string, Kd.scalar]) 8 _) HB0.out.1.size
      have HR3 := Aside0.mk (And.intro hR3 hB3)
      have HRow := Aside0.mk (Kd.R_below HJ.out.2.2.2.1 hB3)
      have HB4 := Aside0.mk (below_then HBw.out HBw.out.size hB3)
      obtain ⟨ex0, ex1, ex2, ex3, ex4, ex5, ex6, ex7, ex8, ex9, ex10⟩ := eleven hE3
      clear hE2 hE3 hR hb hR3 hB3 hw0 heb hx0 hx1 hx2 hx3 hx4 hx5 hx6 hx7 hx8 hx9 hx10 hy8
      go_wp2_with (first | ((with_reducible refine gate_builtin (b := .append) (xs := #[.tmp 23, .tmp 25]) rfl ?_); at_builtin; refine Kd.R_append k41L (w0 := w) w.heap.size rfl (.tmp 23) (.tmp 25) 22 41 (.agg #[(.int .i64 0), (.string ⟨#[]⟩), (.string ⟨#[]⟩), (.string ⟨#[]⟩), (.string ⟨#[]⟩), (.string ⟨#[]⟩), (.string ⟨#[]⟩), (.int .i64 0), (.slice none 0 0), (.int .i64 0), (.bool false)]) 152 rfl Tryz.underlying22 info41 rfl (by decide) (by omega) u3 ((l.take i.toNat).map (fun x => (x, true))) (rd_T41 l i, true) [.int .i64 (rd_T41 l i).f0, .string (rd_T41 l i).f1, .string (rd_T41 l i).f2.f0, .string (rd_T41 l i).f2.f1, .string (rd_T41 l i).f3.f0, .string (rd_T41 l i).f3.f1, .string (rd_T41 l i).f4, .int .i64 (rd_T41 l i).f5, (.slice A' (rd_T41 l i).f6.length c'), .int .i64 (rd_T41 l i).f7, .bool (rd_T41 l i).f8] (fun _ => True) (fun k => wr.heap.size ≤ k) rfl rfl ?aP ?aK ?aF ?aO ?aB ?aS ?aL ?_; (case aP => exact k41L_mkM _ _ _ _ _ (.inl ⟨rfl, A', c', rfl, Kd.R_lower HR3.out.1 HBw.out.size⟩)); (case aK => exact (fun k hk => ⟨trivial, fun he => by have h5 := Kd.R_bound HJ.out.2.2.2.1; have h6 := (h5.1 k he.symm).2.2.1; omega⟩)); (case aF => exact (fun _ _ => trivial)); (case aO => exact HRow.out); (case aB => exact HB4.out); (case aS => exact HB4.out.size); (case aL => (have h1 := List.length_take_le' i.toNat l; have h2 := HC.out.2.2.1; rw [List.length_map]; omega)); intro v1 w5 ho hb hg hat; have HN := Aside0.mk (And.intro ho hb); clear ho hb hg hat))
      go_roundg k1
      case measure => omega
      case rel =>
        have h0 := HJ.out.1
        have h1 := HI.out.1
        have h2 := HC.out.2.2.1
        refine ⟨i + 1, congrArg (Value.int .i64) (w64 (by omega) (by omega)), ⟨by omega, by omega, by have := HJ.out.2.2.1; omega, ?_, HN.out.2⟩⟩
        have e : (i + 1).toNat = i.toNat + 1 := by omega
        have e2 : l.take (i.toNat + 1) = l.take i.toNat ++ [rd_T41 l i] := by
          rw [List.take_succ_eq_append_getElem (by omega), ← rd_get (by omega), Int.toNat_of_nonneg h0]
        rw [e, e2, List.map_append]
        exact HN.out.1
    · have hd : decide (i < (l.length : Int)) = false := decide_eq_false hi
      have he : i.toNat = l.length := by have := HJ.out.2.1; have := HJ.out.1; omega
      have hO := HJ.out.2.2.2.1
      rw [he, List.take_length] at hO
      have HO := Aside0.mk hO
      clear hi he hO
      go_wp2_with (first | ((with_reducible refine gate_builtin (b := .append) (xs := #[.tmp 27, .tmp 29]) rfl ?_); at_builtin; refine Kd.R_append k41L (w0 := w) w.heap.size rfl (.tmp 27) (.tmp 29) 22 41 (.agg #[(.int .i64 0), (.string ⟨#[]⟩), (.string ⟨#[]⟩), (.string ⟨#[]⟩), (.string ⟨#[]⟩), (.string ⟨#[]⟩), (.string ⟨#[]⟩), (.int .i64 0), (.slice none 0 0), (.int .i64 0), (.bool false)]) 152 rfl Tryz.underlying22 info41 rfl (by decide) (by omega) u3 (l.map (fun x => (x, true))) (behind, false) [.int .i64 0, .string (⟨#[52, 51, 50, 49]⟩ : ByteArray), .string (⟨#[]⟩ : ByteArray), .string (⟨#[]⟩ : ByteArray), .string (⟨#[]⟩ : ByteArray), .string (⟨#[]⟩ : ByteArray), .string (⟨#[]⟩ : ByteArray), .int .i64 0, .slice none 0 0, .int .i64 0, .bool false] (fun _ => True) (fun _ => False) rfl rfl ?aP (fun _ hk => hk.elim) ?aF ?aO ?aB ?aS ?aL ?_; (case aP => exact k41L_mkM _ _ _ behind false (.inr ⟨rfl, rfl, rfl⟩)); (case aF => exact (fun _ _ => trivial)); (case aO => exact HO.out); (case aB => exact HBw.out); (case aS => exact HBw.out.size); (case aL => (have h2 := HC.out.2.2.1; rw [List.length_map]; omega)); intro v1 w5 ho hb hg hat; obtain ⟨A3, c3, hv, hc3, _⟩ := Kd.R_reads ho; rw [List.length_append, List.length_singleton, List.length_map] at hv hc3; subst hv; have HN := Aside0.mk (And.intro ho hb); obtain ⟨i0, hi0, _, _, _⟩ := info_parts info41; have hcut := cut_up 22 41 .i64 Tryz.underlying22 hi0 A3 (l.length + 1) c3 (l.length : Int) (by omega) (by omega); rw [Int.toNat_natCast] at hcut; clear ho hb hg hat hi0 hc3))
      go_ret
      exact ⟨A3, c3, rfl, HN.out.1, HN.out.2⟩
end Go.Proofs.YthbdjmopolpjmaaGreatDoor.C
end
section
set_option linter.unusedVariables false
set_option linter.unusedSimpArgs false
namespace Go.Proofs.YthbdjmopolpjmaaGreatDoor.C
open Go.RowKit Go.Proofs.YthbdjmopolpjmaaGreatDoorW.PrintWords Go.Proofs.YthbdjmopolpjmaaGreatDoorW.PrintLast Go.Proofs.YthbdjmopolpjmaaGreatDoorW.PrintMore Go.Proofs.YthbdjmopolpjmaaGreatDoor.F Go.Proofs.YthbdjmopolpjmaaGreatDoor.M
attribute [local go_sem] max2_int min2_int max_two min_two max_three min_three max_four min_four
set_option maxRecDepth 100000 in
set_option maxHeartbeats 8000000 in
theorem fieldsAlike_call (x : S41) (A A2 : Option Addr) (c c2 : Nat) (w : World) (hC : Kd.string.C w A x.f6.length x.f6) (hc : x.f6.length ≤ c) (hC2 : Kd.string.C w A2 x.f6.length x.f6) (hc2 : x.f6.length ≤ c2) (hl : x.f6.length ≤ 1048576) :
    Calls Tryz.prog 35 #[EV x A c, EV x A2 c2] w fun e w' => e = .returned (.slice none 0 0) ∧ Below w.heap.size w w' := by
  have HC := Aside0.mk (And.intro hC (And.intro hc (And.intro hC2 (And.intro hc2 hl))))
  have HBB := Aside0.mk (below_alloc (below_alloc (Below.refl w.heap.size w) (.cells #[.int .i64 x.f0, .string x.f1, .string x.f2.f0, .string x.f2.f1, .string x.f3.f0, .string x.f3.f1, .string x.f4, .int .i64 x.f5, .slice A x.f6.length c, .int .i64 x.f7, .bool x.f8] 41)) (.cells #[.int .i64 x.f0, .string x.f1, .string x.f2.f0, .string x.f2.f1, .string x.f3.f0, .string x.f3.f1, .string x.f4, .int .i64 x.f5, .slice A2 x.f6.length c2, .int .i64 x.f7, .bool x.f8] 41))
  have h39 := eqA39
  clear hC hc hC2 hc2 hl
  go_enter Tryz.func35, Tryz.ntmps35
  unfold EV
  go_wp2_with fail
  refine (cubitref29_texts.calls (x.f6.length + 1) A c x.f6 A2 c2 x.f6 true _ (Kd.C_below HC.out.1 HBB.out) HC.out.2.1 (Kd.C_below HC.out.2.2.1 HBB.out) HC.out.2.2.2.1 (texts_is x.f6 HC.out.2.2.2.2)).mono ?_
  rintro e w1 ⟨rfl, hd⟩
  have HD := Aside0.mk (below_then HBB.out (by simp; omega) hd.below)
  have g9 := cell_later (a := ⟨w.heap.size, 9, none⟩) (v := .int .i64 x.f7) hd.below (by simp)
  have g10 := cell_later (a := ⟨w.heap.size, 10, none⟩) (v := .bool x.f8) hd.below (by simp)
  have k9 := cell_later (a := ⟨w.heap.size + 1, 9, none⟩) (v := .int .i64 x.f7) hd.below (by simp)
  have k10 := cell_later (a := ⟨w.heap.size + 1, 10, none⟩) (v := .bool x.f8) hd.below (by simp)
  clear hd
  go_wp2_with fail
  go_ret
  exact ⟨rfl, HD.out⟩
set_option maxRecDepth 100000 in
set_option maxHeartbeats 16000000 in
theorem same_call (A A2 : Option Addr) (c c2 : Nat) (l : List S41) (w : World) (hC : k41.C w A l.length l) (hc : l.length ≤ c) (hC2 : k41.C w A2 l.length l) (hc2 : l.length ≤ c2) (hl : l.length ≤ 1048576) (ht : ∀ x ∈ l, x.f6.length ≤ 1048576) :
    Calls Tryz.prog 16 #[.slice A l.length c, .slice A2 l.length c2] w fun e w' => e = .returned (.bool true) ∧ Below w.heap.size w w' := by
  have HC := Aside0.mk (And.intro hC (And.intro hC2 (And.intro hl ht)))
  have hlm := eq_true (show l.length ≤ 9223372036854775807 by omega)
  clear hC hc hC2 hc2 hl ht
  go_enter Tryz.func16, Tryz.ntmps16
  go_wp2_with fail
  go_loopg [5] l.length (fun kq v5 W => ∃ i : Int, v5 = .int .i64 i ∧ Aside0 (0 ≤ i ∧ i ≤ l.length ∧ l.length ≤ i + kq ∧ Below w.heap.size w W))
  case atStart => exact ⟨0, rfl, ⟨by omega, by omega, by omega, Below.refl _ _⟩⟩
  case round =>
    obtain ⟨i, rfl, HJ⟩ := hrel
    have HBw := Aside0.mk HJ.out.2.2.2
    by_cases hi : i < l.length
    · have p0 := HJ.out.1
      have q0 := hi
      obtain ⟨ada, Aa, ca, ea, ax0, ax1, ax2, ax3, ax4, ax5, ax6, ax7, ax8, ax9, ax10, al8, ai8⟩ := at_T41 HC.out.1 i p0 q0
      cases ea
      replace ax0 := pw_cell_below HBw.out ax0
      replace ax1 := pw_cell_below HBw.out ax1
      replace ax2 := pw_cell_below HBw.out ax2
      replace ax3 := pw_cell_below HBw.out ax3
      replace ax4 := pw_cell_below HBw.out ax4
      replace ax5 := pw_cell_below HBw.out ax5
      replace ax6 := pw_cell_below HBw.out ax6
      replace ax7 := pw_cell_below HBw.out ax7
      replace ax8 := pw_cell_below HBw.out ax8
      replace ax9 := pw_cell_below HBw.out ax9
      replace ax10 := pw_cell_below HBw.out ax10
      obtain ⟨adb, Ab, cb, eb, bx0, bx1, bx2, bx3, bx4, bx5, bx6, bx7, bx8, bx9, bx10, bl8, bi8⟩ := at_T41 HC.out.2.1 i p0 q0
      cases eb
      replace bx0 := pw_cell_below HBw.out bx0
      replace bx1 := pw_cell_below HBw.out bx1
      replace bx2 := pw_cell_below HBw.out bx2
      replace bx3 := pw_cell_below HBw.out bx3
      replace bx4 := pw_cell_below HBw.out bx4
      replace bx5 := pw_cell_below HBw.out bx5
      replace bx6 := pw_cell_below HBw.out bx6
      replace bx7 := pw_cell_below HBw.out bx7
      replace bx8 := pw_cell_below HBw.out bx8
      replace bx9 := pw_cell_below HBw.out bx9
      replace bx10 := pw_cell_below HBw.out bx10
      have HI := Aside0.mk (And.intro hi (And.intro (Kd.C_below ai8 HBw.out) (And.intro al8 (And.intro (Kd.C_below bi8 HBw.out) bl8))))
      obtain ⟨k1, rfl⟩ : ∃ k1, gk = k1 + 1 := ⟨gk - 1, by have := HJ.out.2.2.1; omega⟩
      clear hi al8 ai8 bl8 bi8
      have hd := decide_eq_true q0
      replace p0 := eq_true p0
      replace q0 := eq_true q0
      go_upto_region 6 with (fail)
      go_still_tail 8, (by kernel_rfl)
      change wpList _ _ _ _ _ wr.drew
      have hdr : Below wr.heap.size wr wr.drew := below_drew (Below.refl _ _)
      go_wp2_with fail
      refine (fieldsAlike_call (rd_T41 l i) Aa Ab ca cb _ (Kd.C_below HI.out.2.1 hdr) HI.out.2.2.1 (Kd.C_below HI.out.2.2.2.1 hdr) HI.out.2.2.2.2 (HC.out.2.2.2 _ (rd_mem HJ.out.1 HI.out.1))).mono ?_
      rintro e w2 ⟨rfl, hb⟩
      have hB2 : Below wr.heap.size wr w2 := below_then hdr hdr.size hb
      have HB2 := Aside0.mk (below_then HBw.out HBw.out.size hB2)
      replace ax0 := pw_cell_below hB2 ax0
      replace bx0 := pw_cell_below hB2 bx0
      clear hB2 hb hdr ax1 ax2 ax3 ax4 ax5 ax6 ax7 ax8 ax9 ax10 bx1 bx2 bx3 bx4 bx5 bx6 bx7 bx8 bx9 bx10
      have hne : ((rd_T41 l i).f0 != (rd_T41 l i).f0) = false := by simp
      go_upto_region 7 with (fail)
      go_quiet (fail)
      go_wp2_with fail
      go_roundg k1
      case measure => omega
      case rel =>
        have h0 := HJ.out.1
        have h1 := HI.out.1
        have h2 := HC.out.2.2.1
        exact ⟨i + 1, congrArg (Value.int .i64) (w64 (by omega) (by omega)), ⟨by omega, by omega, by have := HJ.out.2.2.1; omega, pw_below_drewN HB2.out _⟩⟩
    · have hd : decide (i < (l.length : Int)) = false := decide_eq_false hi
      clear hi
      go_wp2_with fail
      go_ret
      exact ⟨rfl, HBw.out⟩
end Go.Proofs.YthbdjmopolpjmaaGreatDoor.C
end
section
set_option linter.unusedVariables false
set_option linter.unusedSimpArgs false
namespace Go.Proofs.YthbdjmopolpjmaaGreatDoor.M
open Go.RowKit Go.Proofs.YthbdjmopolpjmaaGreatDoorW.PrintWords Go.Proofs.YthbdjmopolpjmaaGreatDoorW.PrintLast Go.Proofs.YthbdjmopolpjmaaGreatDoorW.PrintMore Go.Proofs.YthbdjmopolpjmaaGreatDoor.F Go.Proofs.YthbdjmopolpjmaaGreatDoor.C
def kn : S41 := ⟨1, ⟨#[108, 101, 110, 103, 116, 104]⟩, ⟨⟨#[53]⟩, ⟨#[49]⟩⟩, ⟨⟨#[48]⟩, ⟨#[49]⟩⟩, ⟨#[109]⟩, 3, [], 0, false⟩
theorem nat_one (c : UInt8) (h0 : 48 ≤ (c.toNat : Int)) (h1 : (c.toNat : Int) ≤ 57) : NatR ⟨#[c]⟩ := by
  have hs : (⟨#[c]⟩ : ByteArray).size = 1 := rfl
  refine ⟨by rw [hs]; omega, by rw [hs]; omega, fun _ => by rw [hs]; omega, ?_⟩
  intro x hx
  have : bytesOf ⟨#[c]⟩ = [(c.toNat : Int)] := rfl
  rw [this] at hx
  obtain rfl := List.mem_singleton.1 hx
  exact ⟨h0, h1⟩
theorem minus_one (c : UInt8) (h : (c.toNat : Int) ≠ 45) : minus ⟨#[c]⟩ = false := by
  unfold minus
  refine decide_eq_false (fun hh => h ?_)
  exact hh.2
theorem dv_one (c : UInt8) : dv ⟨#[c]⟩ = (c.toNat : Int) - 48 := by
  have : bytesOf ⟨#[c]⟩ = [(c.toNat : Int)] := rfl
  unfold dv
  rw [this]
  simp [dec]
theorem rat_one (c : UInt8) (h0 : 48 ≤ (c.toNat : Int)) (h1 : (c.toNat : Int) ≤ 57) : RatR ⟨#[c]⟩ ⟨#[49]⟩ := by
  have hm := minus_one c (by omega)
  have hb : body ⟨#[c]⟩ = ⟨#[c]⟩ := by unfold body; rw [hm]; rfl
  have hd : dv ⟨#[49]⟩ = 1 := by rw [dv_one]; rfl
  refine ⟨⟨by rw [hb]; exact nat_one c h0 h1, fun h => by rw [hm] at h; cases h⟩, nat_one 49 (by decide) (by decide), by rw [hd]; decide, ?_⟩
  rw [hb, hd, gcdI]
  simp
theorem ratT_one (c : UInt8) : ratT ⟨#[c]⟩ ⟨#[49]⟩ = ⟨#[c]⟩ := if_pos (by rw [ByteArray.toList_eq]; rfl)
theorem kn_small : Small kn := ⟨by show (6 : Nat) ≤ _; omega, by show (1 : Nat) ≤ _; omega, fun t ht => by cases ht⟩
theorem kn_ok : canI kn = 0 := canI_ok (by unfold Bounds; decide) ⟨rat_one 53 (by decide) (by decide), rat_one 48 (by decide) (by decide)⟩ (by
  show ¬ minus ⟨#[48]⟩ = true
  rw [minus_one 48 (by decide)]
  decide) (by show ¬ (8 < 0); decide)
theorem itoa_one (n : Nat) (h : n < 10) : Lib.itoa (n : Int) = [UInt8.ofNat (48 + n)] := by
  unfold Lib.itoa
  rw [if_neg (by omega)]
  simp only [Int.toNat_natCast]
  exact Lib.decDigits_one h
theorem kn_line : line kn = [49, 9, 48, 9, 51, 9, 43, 9, 108, 101, 110, 103, 116, 104, 9, 53, 9, 48, 9, 109, 10] := by
  have e1 : (⟨(Lib.itoa kn.f0).toArray⟩ : ByteArray) = ⟨#[49]⟩ := by show (⟨(Lib.itoa ((1 : Nat) : Int)).toArray⟩ : ByteArray) = _; rw [itoa_one 1 (by omega)]; rfl
  have e2 : (⟨(Lib.itoa kn.f7).toArray⟩ : ByteArray) = ⟨#[48]⟩ := by show (⟨(Lib.itoa ((0 : Nat) : Int)).toArray⟩ : ByteArray) = _; rw [itoa_one 0 (by omega)]; rfl
  have e3 : (⟨(Lib.itoa kn.f5).toArray⟩ : ByteArray) = ⟨#[51]⟩ := by show (⟨(Lib.itoa ((3 : Nat) : Int)).toArray⟩ : ByteArray) = _; rw [itoa_one 3 (by omega)]; rfl
  have e4 : ratT kn.f2.f0 kn.f2.f1 = ⟨#[53]⟩ := ratT_one 53
  have e5 : ratT kn.f3.f0 kn.f3.f1 = ⟨#[48]⟩ := ratT_one 48
  have e6 : esc kn.f1 = ⟨#[108, 101, 110, 103, 116, 104]⟩ := by decide +kernel
  have e7 : esc kn.f4 = ⟨#[109]⟩ := by decide +kernel
  unfold line parts
  rw [e1, e2, e3, e4, e5, e6, e7]
  rfl
theorem kn_prt : prt [kn] = (⟨#[49, 9, 48, 9, 51, 9, 43, 9, 108, 101, 110, 103, 116, 104, 9, 53, 9, 48, 9, 109, 10]⟩, 0, 0) := by
  have h0 : ∀ k : Nat, k < [kn].length → canI (rd_T41 [kn] (k : Int)) = 0 := by
    intro k hk
    obtain rfl : k = 0 := by simp at hk; omega
    exact kn_ok
  have hl : lines [kn] = line kn := by simp [lines]
  rw [prt_ok h0 (by simp) (by rw [hl, kn_line]; decide), hl, kn_line]
  rfl
end Go.Proofs.YthbdjmopolpjmaaGreatDoor.M
end
section
set_option linter.unusedVariables false
set_option linter.unusedSimpArgs false
namespace Go.Proofs.YthbdjmopolpjmaaGreatDoor.C
open Go.RowKit Go.Proofs.YthbdjmopolpjmaaGreatDoorW.PrintWords Go.Proofs.YthbdjmopolpjmaaGreatDoorW.PrintLast Go.Proofs.YthbdjmopolpjmaaGreatDoorW.PrintMore Go.Proofs.YthbdjmopolpjmaaGreatDoor.F Go.Proofs.YthbdjmopolpjmaaGreatDoor.M
attribute [local go_sem] max2_int min2_int max_two min_two max_three min_three max_four min_four
theorem at_L {w : World} {A : Option Addr} {l : List S41} (h : k41L.C w A (l.length + 1) (l.map (fun x => (x, true)) ++ [(behind, false)])) (i : Int) (h0 : 0 ≤ i) (h1 : i < l.length) :
    ∃ ad A8 c8, A = some ad ∧ w.cell? ⟨(ad.add (i.toNat * 11)).block, (ad.add (i.toNat * 11)).off + 8, none⟩ = some (.slice A8 (rd_T41 l i).f6.length c8) ∧ (rd_T41 l i).f6.length + 1 ≤ c8 ∧ Kd.string.C w A8 ((rd_T41 l i).f6.length + 1) ((rd_T41 l i).f6 ++ [mark]) := by
  obtain ⟨h2, h3, h4⟩ := h
  obtain ⟨ad, e, hc⟩ := h4 (by omega)
  have hin : i.toNat < l.length := by omega
  have hrd : rd_T41 l i = l[i.toNat] := by
    have := rd_get (l := l) (j := i.toNat) hin
    rwa [Int.toNat_of_nonneg h0] at this
  obtain ⟨c, hs, hk, hcell⟩ := hc i.toNat (rd_T41 l i, true) (by
    rw [List.getElem?_append_left (by simpa using hin), hrd]
    simp [hin])
  obtain ⟨v8, rfl, h8⟩ := k41L_open hk
  rcases h8 with ⟨_, A8, c8, he, hl, hC⟩ | ⟨h0, _⟩
  · obtain rfl : v8 = .slice A8 (rd_T41 l i).f6.length c8 := by simpa using he
    exact ⟨ad, A8, c8, e, by rw [← add_field _ _ 8 (by omega)]; exact hcell 8 _ rfl, hl, hC⟩
  · exact Bool.noConfusion h0
theorem at_mark {w : World} {A : Option Addr} {l : List S41} (h : k41L.C w A (l.length + 1) (l.map (fun x => (x, true)) ++ [(behind, false)])) :
    ∃ ad, A = some ad ∧ w.cell? ⟨(ad.add (l.length * 11)).block, (ad.add (l.length * 11)).off + 1, none⟩ = some (.string mark) := by
  obtain ⟨h2, h3, h4⟩ := h
  obtain ⟨ad, e, hc⟩ := h4 (by omega)
  obtain ⟨c, hs, hk, hcell⟩ := hc l.length (behind, false) (by
    rw [List.getElem?_append_right (by simp)]
    simp)
  obtain ⟨v8, rfl, _⟩ := k41L_open hk
  exact ⟨ad, e, by rw [← add_field _ _ 1 (by omega)]; exact hcell 1 _ rfl⟩
set_option maxRecDepth 100000 in
set_option maxHeartbeats 16000000 in
theorem kept_call (A A2 : Option Addr) (c c2 : Nat) (l : List S41) (w : World) (hC : k41L.C w A (l.length + 1) (l.map (fun x => (x, true)) ++ [(behind, false)])) (hc : l.length + 1 ≤ c) (hC2 : k41.C w A2 l.length l) (hc2 : l.length ≤ c2) (hl : l.length ≤ 1048576) (ht : ∀ x ∈ l, x.f6.length ≤ 1048576) :
    Calls Tryz.prog 10 #[.slice A l.length c, .slice A2 l.length c2] w fun e w' => e = .returned (.bool true) ∧ Below w.heap.size w w' := by
  have HC := Aside0.mk (And.intro hC (And.intro hC2 (And.intro hl (And.intro ht (And.intro hc hc2)))))
  have hlm := eq_true (show l.length ≤ 9223372036854775807 by omega)
  obtain ⟨i0, hi0, _, _, _⟩ := info_parts info41
  have hcut := cut_up 22 41 .i64 Tryz.underlying22 hi0 A l.length c ((l.length : Int) + 1) (by omega) (by omega)
  have e1 : ((l.length : Int) + 1).toNat = l.length + 1 := by omega
  rw [e1] at hcut
  obtain ⟨adm, em, hm⟩ := at_mark hC
  subst em
  have HMK := Aside0.mk hm
  clear hC hc hC2 hc2 hl ht hi0 e1 hm
  go_enter Tryz.func10, Tryz.ntmps10
  go_wp2_with fail
  go_loopg [5] l.length (fun kq v5 W => ∃ i : Int, v5 = .int .i64 i ∧ Aside0 (0 ≤ i ∧ i ≤ l.length ∧ l.length ≤ i + kq ∧ Below w.heap.size w W))
  case atStart => exact ⟨0, rfl, ⟨by omega, by omega, by omega, Below.refl _ _⟩⟩
  case round =>
    obtain ⟨i, rfl, HJ⟩ := hrel
    have HBw := Aside0.mk HJ.out.2.2.2
    by_cases hi : i < l.length
    · have p0 := HJ.out.1
      have q0 := hi
      obtain ⟨ada, Aa, ca, ea, ax8, al8, ai8⟩ := at_L HC.out.1 i p0 q0
      cases ea
      replace ax8 := pw_cell_below HBw.out ax8
      obtain ⟨adb, Ab, cb, eb, bx0, bx1, bx2, bx3, bx4, bx5, bx6, bx7, bx8, bx9, bx10, bl8, bi8⟩ := at_T41 HC.out.2.1 i p0 q0
      cases eb
      replace bx8 := pw_cell_below HBw.out bx8
      have HI := Aside0.mk (And.intro hi (And.intro (Kd.C_below ai8 HBw.out) (And.intro al8 (And.intro (Kd.C_below bi8 HBw.out) bl8))))
      have htl := HC.out.2.2.2.1 _ (rd_mem HJ.out.1 hi)
      have HTL := Aside0.mk htl
      obtain ⟨k1, rfl⟩ : ∃ k1, gk = k1 + 1 := ⟨gk - 1, by have := HJ.out.2.2.1; omega⟩
      clear hi al8 ai8 bl8 bi8 bx0 bx1 bx2 bx3 bx4 bx5 bx6 bx7 bx9 bx10 htl
      have hd := decide_eq_true q0
      replace p0 := eq_true p0
      replace q0 := eq_true q0
      have hq : ∀ n, Calls Tryz.prog 27 #[.slice Aa (rd_T41 l i).f6.length ca, .slice Ab (rd_T41 l i).f6.length cb] (wr.drewN n) fun e w'' => e = .returned (.bool true) ∧ ∃ m, w'' = wr.drewN m := fun n =>
        Calls.quiet_of ((keptTexts_call Aa Ab ca cb (rd_T41 l i).f6 (wr.drewN n) (Kd.C_drewN HI.out.2.1 n) HI.out.2.2.1 (Kd.C_drewN HI.out.2.2.2.1 n) HI.out.2.2.2.2 HTL.out).mono fun e w' ⟨he, hd⟩ => ⟨he, hd.out⟩)
      have HQ := Aside0.mk hq
      clear hq
      go_upto_region 4 with (fail)
      go_quiet ((go_at_call 27; exact HQ.out _))
      go_wp2_with fail
      go_roundg k1
      case measure => omega
      case rel =>
        have h0 := HJ.out.1
        have h1 := HI.out.1
        have h2 := HC.out.2.2.1
        exact ⟨i + 1, congrArg (Value.int .i64) (w64 (by omega) (by omega)), ⟨by omega, by omega, by have := HJ.out.2.2.1; omega, pw_below_drewN HBw.out _⟩⟩
    · have hd : decide (i < (l.length : Int)) = false := decide_eq_false hi
      clear hi
      have hw : wrap64 ((l.length : Int) + 1) = (l.length : Int) + 1 := w64 (by omega) (by have := HC.out.2.2.1; omega)
      go_wp2_with fail
      refine (same_call (some adm) A2 c c2 l _ (Kd.C_below (lent_reads HC.out.1) HBw.out) (by have := HC.out.2.2.2.2.1; omega) (Kd.C_below HC.out.2.1 HBw.out) HC.out.2.2.2.2.2 HC.out.2.2.1 HC.out.2.2.2.1).mono ?_
      rintro e w2 ⟨rfl, hb⟩
      have HB2 := Aside0.mk (below_then HBw.out HBw.out.size hb)
      have hm := pw_cell_below HB2.out HMK.out
      have p0 := eq_true (show (0 : Int) ≤ (l.length : Int) by omega)
      have q0 := eq_true (show (l.length : Int) < ((l.length + 1 : Nat) : Int) by omega)
      have hmk : (mark.toList == [52, 51, 50, 49]) = true := by rw [ByteArray.toList_eq]; rfl
      clear hb
      go_wp2_with fail
      skip
      go_ret
      exact ⟨rfl, HB2.out⟩
theorem kn_reads (w : World) : k41.C (w.alloc (.cells #[.int .i64 1, .string ⟨#[108, 101, 110, 103, 116, 104]⟩, .string ⟨#[53]⟩, .string ⟨#[49]⟩, .string ⟨#[48]⟩, .string ⟨#[49]⟩, .string ⟨#[109]⟩, .int .i64 3, .slice none 0 0, .int .i64 0, .bool false] 41)) (some ⟨w.heap.size, 0, none⟩) 1 [kn] := by
  refine ⟨rfl, by omega, fun _ => ⟨_, rfl, fun j p hj => ?_⟩⟩
  have hj0 : j = 0 := by
    have := (List.getElem?_eq_some_iff.1 hj).1
    simpa using this
  subst hj0
  obtain rfl : kn = p := by simpa using hj
  refine ⟨_, ?_, k41_mk _ kn (A8 := none) (c8 := 0) (Nat.le_refl _) ⟨rfl, by show (0 : Nat) ≤ _; omega, fun h => absurd h (by show ¬ (0 < 0); omega)⟩, fun i u hu => ?_⟩
  · rfl
  · rw [add_plain]
    have hb := blk_new w (.cells #[.int .i64 1, .string ⟨#[108, 101, 110, 103, 116, 104]⟩, .string ⟨#[53]⟩, .string ⟨#[49]⟩, .string ⟨#[48]⟩, .string ⟨#[49]⟩, .string ⟨#[109]⟩, .int .i64 3, .slice none 0 0, .int .i64 0, .bool false] 41)
    rw [Nat.zero_mul, Nat.zero_add, blk_cell hb i]
    rw [← hu]
    simp only [List.getElem?_toArray]
    rfl
set_option maxRecDepth 100000 in
set_option maxHeartbeats 4000000 in
theorem known_call (w : World) (hg : Glob w) (hp : Pow w) : Calls Tryz.prog 11 #[] w fun e w' => e = .returned (.bool true) ∧ Below w.heap.size w w' := by
  have hb0 := below_alloc (Below.refl w.heap.size w) (.cells #[.int .i64 1, .string ⟨#[108, 101, 110, 103, 116, 104]⟩, .string ⟨#[53]⟩, .string ⟨#[49]⟩, .string ⟨#[48]⟩, .string ⟨#[49]⟩, .string ⟨#[109]⟩, .int .i64 3, .slice none 0 0, .int .i64 0, .bool false] 41)
  have HH := Aside0.mk (And.intro hb0 (And.intro (hg.below hb0) (hp.below hb0)))
  have HK := Aside0.mk (kn_reads w)
  clear hg hp hb0
  go_enter Tryz.func11, Tryz.ntmps11
  go_wp2_with fail
  refine (bookPrint_call _ 1 [kn] _ HK.out (Nat.le_refl _) (by simp) (fun x hx => by rw [List.mem_singleton.1 hx]; exact kn_small) HH.out.2.1 HH.out.2.2).mono ?_
  rintro e w1 ⟨rfl, hb⟩
  have HB := Aside0.mk (below_then HH.out.1 HH.out.1.size hb)
  clear hb
  have hpv : prtV [kn] = .tuple #[.string ⟨#[49, 9, 48, 9, 51, 9, 43, 9, 108, 101, 110, 103, 116, 104, 9, 53, 9, 48, 9, 109, 10]⟩, .int .i64 0, .int .i64 0] := by unfold prtV; rw [kn_prt]
  rw [hpv]
  clear hpv
  have hkk : ((⟨#[49, 9, 48, 9, 51, 9, 43, 9, 108, 101, 110, 103, 116, 104, 9, 53, 9, 48, 9, 109, 10]⟩ : ByteArray).toList == [49, 9, 48, 9, 51, 9, 43, 9, 108, 101, 110, 103, 116, 104, 9, 53, 9, 48, 9, 109, 10]) = true := by rw [ByteArray.toList_eq]; rfl
  go_wp2_with fail
  go_ret
  exact ⟨rfl, HB.out⟩
end Go.Proofs.YthbdjmopolpjmaaGreatDoor.C
end
section
set_option linter.unusedVariables false
set_option linter.unusedSimpArgs false
namespace Go.Proofs.YthbdjmopolpjmaaGreatDoor.C
open Go.RowKit Go.Proofs.YthbdjmopolpjmaaGreatDoorW.PrintWords Go.Proofs.YthbdjmopolpjmaaGreatDoorW.PrintLast Go.Proofs.YthbdjmopolpjmaaGreatDoorW.PrintMore Go.Proofs.YthbdjmopolpjmaaGreatDoor.F Go.Proofs.YthbdjmopolpjmaaGreatDoor.M
attribute [local go_sem] max2_int min2_int max_two min_two max_three min_three max_four min_four
structure In (A : Option Addr) (c : Nat) (l : List S41) (w : World) : Prop where
  reads : k41.C w A l.length l
  cap : l.length ≤ c
  len : l.length ≤ 1048576
  small : ∀ x ∈ l, Small x
  tags : ∀ x ∈ l, x.f6.length ≤ 1048576
end Go.Proofs.YthbdjmopolpjmaaGreatDoor.C
end
section
namespace Go.Proofs.YthbdjmopolpjmaaGreatDoor.bulks
theorem one_le {H : Type} (d : DataW H) : 1 ≤ Rows.uptoBulk d := by
  cases d with
  | lit l => cases l <;> simp [Rows.uptoBulk]
  | nil => simp [Rows.uptoBulk]
  | ptr d => simp [Rows.uptoBulk]
  | slice elems spare => simp [Rows.uptoBulk]
  | agg parts => simp [Rows.uptoBulk]
  | iface t d => simp [Rows.uptoBulk]
  | map entries => simp [Rows.uptoBulk]
  | held h => simp [Rows.uptoBulk]
theorem part_le {H : Type} {d : DataW H} {l : List (DataW H)} (h : d ∈ l) : Rows.uptoBulk d ≤ Rows.uptoBulkAll l := by
  induction l with
  | nil => cases h
  | cons x r ih =>
    simp only [Rows.uptoBulkAll]
    cases List.mem_cons.1 h with
    | inl e => subst e; omega
    | inr e => have := ih e; omega
theorem append {H : Type} (l r : List (DataW H)) : Rows.uptoBulkAll (l ++ r) = Rows.uptoBulkAll l + Rows.uptoBulkAll r := by
  induction l with
  | nil => simp [Rows.uptoBulkAll]
  | cons x l ih => simp only [List.cons_append, Rows.uptoBulkAll, ih]; omega
theorem length_le {H : Type} (l : List (DataW H)) : l.length ≤ Rows.uptoBulkAll l := by
  induction l with
  | nil => simp [Rows.uptoBulkAll]
  | cons x r ih => have := one_le x; simp only [Rows.uptoBulkAll, List.length_cons]; omega
theorem slice_le {H : Type} (elems spare : List (DataW H)) : elems.length + spare.length + 1 ≤ Rows.uptoBulk (.slice elems spare) := by
  have h1 := length_le elems
  have h2 := length_le spare
  simp only [Rows.uptoBulk]
  omega
theorem slice_elems {H : Type} (elems spare : List (DataW H)) : Rows.uptoBulkAll elems + 1 ≤ Rows.uptoBulk (.slice elems spare) := by
  simp only [Rows.uptoBulk]
  omega
theorem string_eq {H : Type} (bytes : List UInt8) : Rows.uptoBulk (DataW.lit (H := H) (.string bytes)) = bytes.length + 1 := by
  simp [Rows.uptoBulk]
theorem bound {H : Type} {l : List (DataW H)} (hk : Rows.uptoSmall H l = true) : Rows.uptoBulkAll l ≤ 1048576 := by
  simpa [Rows.uptoSmall] using hk
end Go.Proofs.YthbdjmopolpjmaaGreatDoor.bulks
end
section
set_option linter.unusedVariables false
set_option linter.unusedSimpArgs false
namespace Go.Proofs.YthbdjmopolpjmaaGreatDoor.C
open Go.RowKit Go.Proofs.YthbdjmopolpjmaaGreatDoorW.PrintWords Go.Proofs.YthbdjmopolpjmaaGreatDoorW.PrintLast Go.Proofs.YthbdjmopolpjmaaGreatDoorW.PrintMore Go.Proofs.YthbdjmopolpjmaaGreatDoor.F Go.Proofs.YthbdjmopolpjmaaGreatDoor.M
def hold (v : Value) : Option (DataW Value × List MemPlace) := some (.held v, [])
theorem law3 : Maps.Keyed Tryz.prog 3 := Maps.int_keyed Tryz.underlying3
def Wf (n : Int) : Prop := (Lit.int .i64 n).wf = true
theorem key_of {n : Int} (h : Wf n) : keyOf Tryz.prog 3 (Value.int .i64 n) = some (Lit.int .i64 n) := Maps.keyOf_int_mk Tryz.underlying3 h
theorem isKey (n : Int) : WideAt.IsKeyLit (.int .i64 n) := trivial
def first (l : List S41) (id : Int) : Option S41 := l.find? (fun x => x.f0 == id)
theorem first_snoc (l : List S41) (x : S41) (id : Int) : first (l ++ [x]) id = (first l id).or (if x.f0 = id then some x else none) := by
  unfold first
  rw [List.find?_append]
  congr 1
  by_cases h : x.f0 = id
  · simp [h]
  · simp [h]
theorem first_id {l : List S41} {id : Int} {x : S41} (h : first l id = some x) : x.f0 = id ∧ x ∈ l := by
  have h1 := List.find?_some h
  exact ⟨by simpa using h1, List.mem_of_find?_eq_some h⟩
def MapAt (w0 : World) (l : List S41) (D : DataW Value) : Prop :=
  ∀ id : Int, (first l id = none ∧ Maps.has D (.int .i64 id) = false) ∨
    ∃ x A c, first l id = some x ∧ Maps.has D (.int .i64 id) = true ∧ (∀ zd, D.atKey (.int .i64 id) zd = .held (EV x A c)) ∧ x.f6.length ≤ c ∧ Kd.string.C w0 A x.f6.length x.f6
theorem mapAt_nil (w0 : World) : MapAt w0 [] (.map []) := fun _ => .inl ⟨rfl, rfl⟩
theorem mapAt_old {w0 : World} {l : List S41} {D : DataW Value} {x : S41} (h : MapAt w0 l D) (hx : Maps.has D (.int .i64 x.f0) = true) : MapAt w0 (l ++ [x]) D := by
  have h0 : ∃ y, first l x.f0 = some y := by
    rcases h x.f0 with ⟨_, hn⟩ | ⟨y, _, _, hy, _⟩
    · rw [hx] at hn; exact Bool.noConfusion hn
    · exact ⟨y, hy⟩
  intro id
  rw [first_snoc]
  rcases h id with ⟨h1, h2⟩ | ⟨y, A, c, h1, h2, h3, h4, h5⟩
  · refine .inl ⟨?_, h2⟩
    rw [h1, Option.none_or]
    by_cases he : x.f0 = id
    · subst he
      obtain ⟨y, hy⟩ := h0
      rw [h1] at hy
      exact absurd hy (by simp)
    · simp [he]
  · exact .inr ⟨y, A, c, by rw [h1, Option.some_or], h2, h3, h4, h5⟩
theorem lit_ne {a b : Int} (h : a ≠ b) : (Lit.int .i64 a) ≠ (Lit.int .i64 b) := fun e => h (by injection e)
theorem mapAt_new {w0 : World} {l : List S41} {D : DataW Value} {x : S41} {A : Option Addr} {c : Nat} (h : MapAt w0 l D) (hm : Maps.IsMap D) (hx : Maps.has D (.int .i64 x.f0) = false) (hl : x.f6.length ≤ c) (hC : Kd.string.C w0 A x.f6.length x.f6) :
    MapAt w0 (l ++ [x]) (D.put (.int .i64 x.f0) (.held (EV x A c))) := by
  have h0 : first l x.f0 = none := by
    rcases h x.f0 with ⟨hn, _⟩ | ⟨y, _, _, _, hy, _⟩
    · exact hn
    · rw [hx] at hy; exact Bool.noConfusion hy
  intro id
  rw [first_snoc]
  by_cases he : x.f0 = id
  · subst he
    exact .inr ⟨x, A, c, by rw [h0, Option.none_or, if_pos rfl], Maps.has_put_same hm (isKey _) _, fun zd => Maps.atKey_put_same hm (isKey _) _ _, hl, hC⟩
  · have hne : (Lit.int .i64 id) ≠ (Lit.int .i64 x.f0) := lit_ne (fun e => he e.symm)
    rw [if_neg he, Option.or_none, Maps.has_put_other hne]
    rcases h id with h1 | ⟨y, A', c', h1, h2, h3, h4, h5⟩
    · exact .inl h1
    · exact .inr ⟨y, A', c', h1, h2, fun zd => by rw [Maps.atKey_put_other hne]; exact h3 zd, h4, h5⟩
def ZV : Value := .agg #[.int .i64 0, .string ⟨#[]⟩, .string ⟨#[]⟩, .string ⟨#[]⟩, .string ⟨#[]⟩, .string ⟨#[]⟩, .string ⟨#[]⟩, .int .i64 0, .slice none 0 0, .int .i64 0, .bool false]
theorem zero41 (w : World) : (zeroValue 41).run Tryz.prog w = .ok ZV w := by kernel_rfl
theorem look_run {w w0 : World} {b n : Nat} {D : DataW Value} {l : List S41} (h : w.ownsMap Tryz.prog 3 hold b n D) (hM : MapAt w0 l D) (id : Int) (hw : Wf id) :
    (first l id = none ∧ Maps.has D (.int .i64 id) = false ∧ (Instr.lookup 60 (.map (some b)) (.int .i64 id) true).run Tryz.prog w = .ok (.tuple #[ZV, .bool false]) w) ∨
    ∃ x A c, first l id = some x ∧ Maps.has D (.int .i64 id) = true ∧ (Instr.lookup 60 (.map (some b)) (.int .i64 id) true).run Tryz.prog w = .ok (.tuple #[EV x A c, .bool true]) w ∧ x.f6.length ≤ c ∧ Kd.string.C w0 A x.f6.length x.f6 := by
  obtain ⟨v, ps, hrun, hv⟩ := h.look_ok law3 Tryz.underlying60 (zero41 w) (zd := .held ZV) (zp := []) rfl (key_of hw)
  have hv1 : DataW.held v = D.atKey (.int .i64 id) (.held ZV) := congrArg Prod.fst (Option.some.inj hv)
  rcases hM id with ⟨h1, h2⟩ | ⟨x, A, c, h1, h2, h3, h4, h5⟩
  · rw [Maps.atKey_of_not_has h2] at hv1
    obtain rfl : v = ZV := by injection hv1
    rw [h2] at hrun
    exact .inl ⟨h1, h2, hrun⟩
  · rw [h3] at hv1
    obtain rfl : v = EV x A c := by injection hv1
    rw [h2] at hrun
    exact .inr ⟨x, A, c, h1, h2, hrun, h4, h5⟩
end Go.Proofs.YthbdjmopolpjmaaGreatDoor.C
end
section
set_option linter.unusedVariables false
set_option linter.unusedSimpArgs false
namespace Go.Proofs.YthbdjmopolpjmaaGreatDoor.C
open Go.RowKit Go.Deep Go.Proofs.YthbdjmopolpjmaaGreatDoorW.PrintWords Go.Proofs.YthbdjmopolpjmaaGreatDoorW.PrintLast Go.Proofs.YthbdjmopolpjmaaGreatDoor.F Go.Proofs.YthbdjmopolpjmaaGreatDoor.M
theorem cells3 : Tryz.prog.cellsOf 3 = 1 := by kernel_rfl
theorem cells4 : Tryz.prog.cellsOf 4 = 1 := by kernel_rfl
theorem cells9 : Tryz.prog.cellsOf 9 = 1 := by kernel_rfl
theorem cells30 : Tryz.prog.cellsOf 30 = 1 := by kernel_rfl
theorem cells39 : Tryz.prog.cellsOf 39 = 2 := by kernel_rfl
theorem cells41 : Tryz.prog.cellsOf 41 = 11 := by kernel_rfl
section
variable {H : Type} {enc : TypeId × Value → H} {w : World} {base : Nat} {spare : Nat → Bool} {held : Bool}
theorem slice_rows {α : Type} {k : Kd α} {Q : α → DataW H → Prop} {t e : TypeId} {fuel : Nat} {cs : List Value} {x : DataW H × List MemPlace} (ht : Tryz.prog.underlying t = some (.slice e)) (hc : Tryz.prog.cellsOf e = k.sz)
    (hel : ∀ n cs y, DataW.trod enc Tryz.prog w base spare held n e cs = some y → ∃ p : α, k.K w p cs ∧ Q p y.1) (h : DataW.trod enc Tryz.prog w base spare held fuel t cs = some x) :
    ∃ A c l, cs = [.slice A l.length c] ∧ l.length ≤ c ∧ k.C w A l.length l ∧ l.length ≤ Rows.uptoBulk x.1 ∧ ∀ p ∈ l, ∃ d, Q p d ∧ Rows.uptoBulk d ≤ Rows.uptoBulk x.1 := by
  rcases open_slice ht h with ⟨rfl, rfl⟩ | ⟨a, len, cap, m, n, D, Pl, rfl, hb, hl, hm, hmm, rfl, hi⟩
  · exact ⟨none, 0, [], rfl, Nat.le_refl _, Kd.C_nil k w, Nat.zero_le _, fun p hp => by cases hp⟩
  have hle : len ≤ m := by rw [hmm]; split <;> omega
  have hall : ∀ j, j ≤ len → ∃ l : List α, l.length = j ∧ (∀ (i : Nat) p, l[i]? = some p → (∃ c, c.length = k.sz ∧ k.K w p c ∧ ∀ q u, c[q]? = some u → w.cell? (a.add (i * k.sz + q)) = some u) ∧ Q p (D i)) := by
    intro j
    induction j with
    | zero => exact fun _ => ⟨[], rfl, fun i p hp => by simp at hp⟩
    | succ j ih =>
      intro hj
      obtain ⟨l, hl1, hl2⟩ := ih (by omega)
      obtain ⟨cs', h1, h2⟩ := hi j (by omega)
      obtain ⟨p, hp1, hp2⟩ := hel _ _ _ h2
      obtain ⟨_, hlen, hcell⟩ := World.cells?_some h1
      rw [hc] at hlen hcell
      refine ⟨l ++ [p], by simp [hl1], fun i q hq => ?_⟩
      by_cases hij : i < j
      · rw [List.getElem?_append_left (by omega)] at hq
        exact hl2 i q hq
      · have hij2 : i = j := by
          have := (List.getElem?_eq_some_iff.1 hq).1
          rw [List.length_append, List.length_singleton] at this
          omega
        subst hij2
        rw [List.getElem?_append_right (by omega), hl1, Nat.sub_self] at hq
        obtain rfl : p = q := by simpa using hq
        refine ⟨⟨cs', hlen, hp1, fun q u hq => ?_⟩, hp2⟩
        have hq2 := (List.getElem?_eq_some_iff.1 hq).1
        rw [← Go.Deep.add_add, hcell q (by omega), hq]
  obtain ⟨l, hl1, hl2⟩ := hall len (Nat.le_refl _)
  have hsl := bulks.slice_le ((List.range len).map D) ((List.range (m - len)).map fun j => D (len + j))
  have hse := bulks.slice_elems ((List.range len).map D) ((List.range (m - len)).map fun j => D (len + j))
  refine ⟨some a, cap, l, by rw [hl1], by omega, ⟨rfl, ?_, fun _ => ⟨a, rfl, fun j p hj => (hl2 j p hj).1⟩⟩, ?_, fun p hp => ?_⟩
  · have : maxLen ≤ 9223372036854775807 := by decide
    omega
  · rw [List.length_map, List.length_range] at hsl
    show l.length ≤ Rows.uptoBulk (DataW.slice _ _)
    omega
  · obtain ⟨i, hi1, hi2⟩ := List.getElem_of_mem hp
    refine ⟨D i, (hl2 i p (by rw [List.getElem?_eq_getElem hi1, hi2])).2, ?_⟩
    have := bulks.part_le (d := D i) (l := (List.range len).map D) (List.mem_map.2 ⟨i, List.mem_range.2 (by omega), rfl⟩)
    show _ ≤ Rows.uptoBulk (DataW.slice _ _)
    omega
set_option maxRecDepth 100000 in
theorem string_open {n : Nat} {cs : List Value} {y : DataW H × List MemPlace} (h : DataW.trod enc Tryz.prog w base spare held n 9 cs = some y) : ∃ s : ByteArray, cs = [.string s] ∧ s.size + 1 = Rows.uptoBulk y.1 := by
  obtain ⟨s, rfl, rfl, _⟩ := DataW.trod_string Tryz.underlying9 h
  exact ⟨s, rfl, by rw [bulks.string_eq, Array.length_toList]; rfl⟩
set_option maxRecDepth 100000 in
theorem rat_open {n : Nat} {cs : List Value} {y : DataW H × List MemPlace} (h : DataW.trod enc Tryz.prog w base spare held n 39 cs = some y) : ∃ s1 s2 : ByteArray, cs = [.string s1, .string s2] := by
  have hS := DataW.trod_struct Tryz.underlying39 h
  obtain ⟨xs, m, _, hy, hl, hx, hf⟩ := hS
  clear hy
  rw [cells39] at hl
  match cs, hl with
  | [c0, c1], _ =>
    match xs, hx with
    | [x0, x1], _ =>
      have f0 : DataW.trod enc Tryz.prog w base spare held m 9 [c0] = some x0 := by simpa [cells9] using hf 0 _ rfl
      have f1 : DataW.trod enc Tryz.prog w base spare held m 9 [c1] = some x1 := by simpa [cells9] using hf 1 _ rfl
      obtain ⟨s1, e1, _⟩ := string_open f0
      obtain ⟨s2, e2, _⟩ := string_open f1
      obtain rfl := List.singleton_inj.1 e1
      obtain rfl := List.singleton_inj.1 e2
      exact ⟨s1, s2, rfl⟩
set_option maxRecDepth 100000 in
theorem entry_open {n : Nat} {cs : List Value} {y : DataW H × List MemPlace} (h : DataW.trod enc Tryz.prog w base spare held n 41 cs = some y) :
    ∃ x : S41, k41.K w x cs ∧ (Wf x.f0 ∧ x.f1.size ≤ Rows.uptoBulk y.1 ∧ x.f4.size ≤ Rows.uptoBulk y.1 ∧ x.f6.length ≤ Rows.uptoBulk y.1 ∧ ∀ t ∈ x.f6, t.size ≤ Rows.uptoBulk y.1) := by
  have hS := DataW.trod_struct Tryz.underlying41 h
  obtain ⟨xs, m, _, hy, hl, hx, hf⟩ := hS
  subst hy
  rw [cells41] at hl
  match cs, hl with
  | [c0, c1, c2, c3, c4, c5, c6, c7, c8, c9, c10], _ =>
    match xs, hx with
    | [x0, x1, x2, x3, x4, x5, x6, x7, x8], _ =>
      have f0 : DataW.trod enc Tryz.prog w base spare held m 3 [c0] = some x0 := by simpa [cells3] using hf 0 _ rfl
      have f1 : DataW.trod enc Tryz.prog w base spare held m 9 [c1] = some x1 := by simpa [cells9] using hf 1 _ rfl
      have f2 : DataW.trod enc Tryz.prog w base spare held m 39 [c2, c3] = some x2 := by simpa [cells39] using hf 2 _ rfl
      have f3 : DataW.trod enc Tryz.prog w base spare held m 39 [c4, c5] = some x3 := by simpa [cells39] using hf 3 _ rfl
      have f4 : DataW.trod enc Tryz.prog w base spare held m 9 [c6] = some x4 := by simpa [cells9] using hf 4 _ rfl
      have f5 : DataW.trod enc Tryz.prog w base spare held m 3 [c7] = some x5 := by simpa [cells3] using hf 5 _ rfl
      have f6 : DataW.trod enc Tryz.prog w base spare held m 30 [c8] = some x6 := by simpa [cells30] using hf 6 _ rfl
      have f7 : DataW.trod enc Tryz.prog w base spare held m 3 [c9] = some x7 := by simpa [cells3] using hf 7 _ rfl
      have f8 : DataW.trod enc Tryz.prog w base spare held m 4 [c10] = some x8 := by simpa [cells4] using hf 8 _ rfl
      obtain ⟨n0, e0, _, hw0⟩ := DataW.trod_int Tryz.underlying3 f0
      obtain ⟨s1, e1, l1⟩ := string_open f1
      obtain ⟨s2, s3, e2⟩ := rat_open f2
      obtain ⟨s4, s5, e3⟩ := rat_open f3
      obtain ⟨s6, e4, l4⟩ := string_open f4
      obtain ⟨n7, e5, _, _⟩ := DataW.trod_int Tryz.underlying3 f5
      obtain ⟨A, c, l, e6, hc6, hC6, hl6, hp6⟩ := slice_rows (k := Kd.string) (Q := fun (p : ByteArray) d => p.size + 1 = Rows.uptoBulk d) Tryz.underlying30 cells9 (fun n cs y hy => by
        obtain ⟨s, rfl, hs⟩ := string_open hy
        exact ⟨s, rfl, hs⟩) f6
      obtain ⟨n9, e7, _, _⟩ := DataW.trod_int Tryz.underlying3 f7
      obtain ⟨b, e8, _⟩ := DataW.trod_bool Tryz.underlying4 f8
      have e2a : c2 = .string s2 ∧ c3 = .string s3 := by simpa using e2
      have e3a : c4 = .string s4 ∧ c5 = .string s5 := by simpa using e3
      obtain ⟨rfl, rfl⟩ := e2a
      obtain ⟨rfl, rfl⟩ := e3a
      obtain rfl := List.singleton_inj.1 e0
      obtain rfl := List.singleton_inj.1 e1
      obtain rfl := List.singleton_inj.1 e4
      obtain rfl := List.singleton_inj.1 e5
      obtain rfl := List.singleton_inj.1 e6
      obtain rfl := List.singleton_inj.1 e7
      obtain rfl := List.singleton_inj.1 e8
      have b1 := bulks.part_le (d := x1.1) (l := [x0.1, x1.1, x2.1, x3.1, x4.1, x5.1, x6.1, x7.1, x8.1]) (by simp)
      have b4 := bulks.part_le (d := x4.1) (l := [x0.1, x1.1, x2.1, x3.1, x4.1, x5.1, x6.1, x7.1, x8.1]) (by simp)
      have b6 := bulks.part_le (d := x6.1) (l := [x0.1, x1.1, x2.1, x3.1, x4.1, x5.1, x6.1, x7.1, x8.1]) (by simp)
      have hB : Rows.uptoBulk (DataW.agg [x0.1, x1.1, x2.1, x3.1, x4.1, x5.1, x6.1, x7.1, x8.1]) = Rows.uptoBulkAll [x0.1, x1.1, x2.1, x3.1, x4.1, x5.1, x6.1, x7.1, x8.1] + 1 := by rw [Rows.uptoBulk]
      refine ⟨⟨n0, s1, ⟨s2, s3⟩, ⟨s4, s5⟩, s6, n7, l, n9, b⟩, k41_mk w ⟨n0, s1, ⟨s2, s3⟩, ⟨s4, s5⟩, s6, n7, l, n9, b⟩ hc6 hC6, ?_⟩
      show Wf n0 ∧ s1.size ≤ Rows.uptoBulk (DataW.agg [x0.1, x1.1, x2.1, x3.1, x4.1, x5.1, x6.1, x7.1, x8.1]) ∧ s6.size ≤ Rows.uptoBulk (DataW.agg [x0.1, x1.1, x2.1, x3.1, x4.1, x5.1, x6.1, x7.1, x8.1]) ∧ l.length ≤ Rows.uptoBulk (DataW.agg [x0.1, x1.1, x2.1, x3.1, x4.1, x5.1, x6.1, x7.1, x8.1]) ∧ ∀ t ∈ l, t.size ≤ Rows.uptoBulk (DataW.agg [x0.1, x1.1, x2.1, x3.1, x4.1, x5.1, x6.1, x7.1, x8.1])
      rw [hB]
      refine ⟨hw0, by omega, by omega, by omega, fun t ht => ?_⟩
      obtain ⟨d, hd1, hd2⟩ := hp6 t ht
      omega
theorem In.of_trod {v : Value} {d : DataW H} {p : List MemPlace} (h : DataW.Trod enc Tryz.prog w base spare held 22 v d p) (hd : Rows.uptoBulk d ≤ 1048576) : ∃ A c l, v.cells.toList = [Value.slice A l.length c] ∧ In A c l w ∧ ∀ x ∈ l, Wf x.f0 := by
  obtain ⟨fuel, hf⟩ := h
  obtain ⟨A, c, l, e, hc, hC, hl, hp⟩ := slice_rows (k := k41) (Q := fun (x : S41) d => Wf x.f0 ∧ x.f1.size ≤ Rows.uptoBulk d ∧ x.f4.size ≤ Rows.uptoBulk d ∧ x.f6.length ≤ Rows.uptoBulk d ∧ ∀ t ∈ x.f6, t.size ≤ Rows.uptoBulk d) Tryz.underlying22 cells41 (fun n cs y hy => entry_open hy) hf
  have hl : l.length ≤ Rows.uptoBulk d := hl
  have hp : ∀ x ∈ l, ∃ d2, (Wf x.f0 ∧ x.f1.size ≤ Rows.uptoBulk d2 ∧ x.f4.size ≤ Rows.uptoBulk d2 ∧ x.f6.length ≤ Rows.uptoBulk d2 ∧ ∀ t ∈ x.f6, t.size ≤ Rows.uptoBulk d2) ∧ Rows.uptoBulk d2 ≤ Rows.uptoBulk d := hp
  refine ⟨A, c, l, e, ⟨hC, hc, by omega, fun x hx => ?_, fun x hx => ?_⟩, fun x hx => ?_⟩
  · obtain ⟨d2, ⟨_, h1, h4, h6, ht⟩, hb⟩ := hp x hx
    exact ⟨by omega, by omega, fun t htm => by have := ht t htm; omega⟩
  · obtain ⟨d2, ⟨_, h1, h4, h6, ht⟩, hb⟩ := hp x hx
    omega
  · obtain ⟨d2, ⟨hw, _⟩, _⟩ := hp x hx
    exact hw
end
end Go.Proofs.YthbdjmopolpjmaaGreatDoor.C
end
