/- Part 4 of the proof: MDec, FNatRight, FCubitref01Natural, FCubitref01Right, MNat, CBase, FCubitref01Trim. -/
import Derived.Lib.SliceRun
import Derived.WalkLawsBesides
import Derived.WalkSpells
import Derived.Test.YthbdjmopolpjmaaGreatDoorD00
import Derived.Test.YthbdjmopolpjmaaGreatDoorD01
import Derived.Test.YthbdjmopolpjmaaGreatDoorD02
import Derived.Test.YthbdjmopolpjmaaGreatDoorD03
section
set_option linter.unusedVariables false
set_option linter.unusedSimpArgs false
namespace Go.Proofs.YthbdjmopolpjmaaGreatDoor.M
open Go.RowKit Go.Proofs.YthbdjmopolpjmaaGreatDoorW.PrintWords Go.Proofs.YthbdjmopolpjmaaGreatDoorW.PrintLast Go.Proofs.YthbdjmopolpjmaaGreatDoorW.PrintMore Go.Proofs.YthbdjmopolpjmaaGreatDoor.F
def dec : Int → List Int → Int
  | v, [] => v
  | v, c :: cs => dec (v * 10 + (c - 48)) cs
def Num (xs : List Int) : Prop := ∀ c ∈ xs, 48 ≤ c ∧ c ≤ 57
theorem dec_append (xs ys : List Int) : ∀ v, dec v (xs ++ ys) = dec (dec v xs) ys := by
  induction xs with
  | nil => intro v; rfl
  | cons c cs ih => intro v; exact ih _
theorem dec_lin (xs : List Int) : ∀ v, dec v xs = v * 10 ^ xs.length + dec 0 xs := by
  induction xs with
  | nil => intro v; simp [dec]
  | cons c cs ih =>
    intro v
    simp only [dec, List.length_cons]
    rw [ih (v * 10 + (c - 48)), ih (0 * 10 + (c - 48)), Int.pow_succ]
    grind
theorem dec_snoc (v : Int) (xs : List Int) (c : Int) : dec v (xs ++ [c]) = dec v xs * 10 + (c - 48) := by rw [dec_append]; rfl
theorem Num.take {xs : List Int} (h : Num xs) (n : Nat) : Num (xs.take n) := fun c hc => h c (List.mem_of_mem_take hc)
theorem Num.drop {xs : List Int} (h : Num xs) (n : Nat) : Num (xs.drop n) := fun c hc => h c (List.mem_of_mem_drop hc)
theorem num_rd {xs : List Int} (h : Num xs) (i : Int) (hi : i.toNat < xs.length) : 48 ≤ rd xs i ∧ rd xs i ≤ 57 := by
  have : rd xs i = xs[i.toNat] := by simp [rd, List.getD_eq_getElem?_getD, hi]
  rw [this]; exact h _ (List.getElem_mem hi)
theorem dec_range {xs : List Int} (h : Num xs) : 0 ≤ dec 0 xs ∧ dec 0 xs < 10 ^ xs.length := by
  induction xs with
  | nil => simp [dec]
  | cons c cs ih =>
    have hc := h c (by simp)
    obtain ⟨h1, h2⟩ := ih (fun c hc => h c (by simp [hc]))
    have e : dec 0 (c :: cs) = (c - 48) * 10 ^ cs.length + dec 0 cs := by
      simp only [dec]; rw [dec_lin]; simp
    rw [e, List.length_cons, Int.pow_succ]
    have hp : (0 : Int) < 10 ^ cs.length := Int.pow_pos (by decide)
    have := Int.mul_nonneg (show 0 ≤ c - 48 by omega) (Int.le_of_lt hp)
    have := Int.mul_le_mul_of_nonneg_right (show c - 48 ≤ 9 by omega) (Int.le_of_lt hp)
    omega
theorem dec_take_succ {xs : List Int} (v : Int) (j : Nat) (h : j < xs.length) : dec v (xs.take (j + 1)) = dec v (xs.take j) * 10 + (rd xs (j : Int) - 48) := by
  rw [take_succ_rd xs j h, dec_snoc]
theorem dec_cut (v : Int) (xs : List Int) (n : Nat) : dec v xs = dec (dec v (xs.take n)) (xs.drop n) := by
  rw [← dec_append, List.take_append_drop]
theorem pow10_le : ∀ j : Nat, j ≤ 9 → (1 : Int) ≤ 10 ^ j ∧ (10 : Int) ^ j ≤ 1000000000 := by decide
theorem bytesOf_extract (s : ByteArray) (a b : Nat) (h : b ≤ s.size) : bytesOf (s.extract a b) = ((bytesOf s).take b).drop a := by
  simp only [bytesOf, ByteArray.data_extract, Array.toList_extract, List.extract, List.map_take, List.map_drop]
  rw [List.take_drop]
  by_cases hab : a ≤ b
  · rw [show a + (b - a) = b by omega]
  · have h1 : b - a = 0 := by omega
    simp [h1]
    omega
theorem num_bytes {s : ByteArray} (h : ∀ i : Nat, i < s.size → 48 ≤ bt s (i : Int) ∧ bt s (i : Int) ≤ 57) : Num (bytesOf s) := by
  intro c hc
  obtain ⟨i, hi, rfl⟩ := List.mem_iff_getElem.1 hc
  rw [bytesOf_length] at hi
  have := h i hi
  rw [← rd_bytesOf] at this
  have hi' : i < (bytesOf s).length := by rw [bytesOf_length]; exact hi
  simpa [rd, List.getD_eq_getElem?_getD, hi'] using this
end Go.Proofs.YthbdjmopolpjmaaGreatDoor.M
end
section
namespace Go.Proofs.YthbdjmopolpjmaaGreatDoor.F
open Go.RowKit Go.Proofs.YthbdjmopolpjmaaGreatDoorW.PrintWords Go.Proofs.YthbdjmopolpjmaaGreatDoorW.PrintLast Go.Proofs.YthbdjmopolpjmaaGreatDoorW.PrintMore
attribute [local go_sem] max2_int min2_int max_two min_two max_three min_three max_four min_four
set_option linter.unusedVariables false
set_option linter.unusedSimpArgs false
mutual
def nat_Right.j0 : Nat → ByteArray → Bool → Option (Bool)
  | 0, _, _ => none
  | k + 1, x0, x21 => if x21 = true then (some false) else (nat_Right.l0 k x0 (x0.size : Int) 0)
def nat_Right.l0 : Nat → ByteArray → Int → Int → Option (Bool)
  | 0, _, _, _ => none
  | k + 1, x0, x23, x24 => if x24 < x23 then (if 0 ≤ x24 then (if x24 < (x0.size : Int) then (if (bt x0 x24) < 48 then (some false) else (if (bt x0 x24) > 57 then (some false) else (nat_Right.l0 k x0 x23 (wrap64 (x24 + 1))))) else (none)) else (none)) else (some true)
end
def nat_Right.f (k : Nat) (a0 : ByteArray) : Option (Bool) := if (a0.size : Int) = 0 then (nat_Right.j0 k a0 true) else (if (a0.size : Int) > 600 then (nat_Right.j0 k a0 true) else (if 0 < (a0.size : Int) then (if (bt a0 0) = 48 then (nat_Right.j0 k a0 (decide ((a0.size : Int) > 1))) else (nat_Right.j0 k a0 false)) else (none)))
theorem nat_Right.mono_l : ∀ k, (∀ y0 y1, LeO (nat_Right.j0 k y0 y1) (nat_Right.j0 (k + 1) y0 y1)) ∧ (∀ y0 y1 y2, LeO (nat_Right.l0 k y0 y1 y2) (nat_Right.l0 (k + 1) y0 y1 y2))
  | 0 => ⟨fun _ _ r h => by simp [nat_Right.j0] at h, fun _ _ _ r h => by simp [nat_Right.l0] at h⟩
  | k + 1 => by
    obtain ⟨ih0, ih1⟩ := nat_Right.mono_l k
    refine ⟨?_, ?_⟩
    · intro y0 y1
      unfold nat_Right.j0
      repeat' first
      | (with_reducible exact ih0 _ _)
      | (with_reducible exact ih1 _ _ _)
      | (with_reducible exact LeO.refl _)
      | (with_reducible exact LeO.none _)
      | (with_reducible refine LeO.ite ?_ ?_)
      | (with_reducible refine LeO.bind ?_ (fun _ => ?_))
      | exact ih0 _ _
      | exact ih1 _ _ _
      | exact LeO.none _
      | refine LeO.ite ?_ ?_
      | refine LeO.bind ?_ (fun _ => ?_)
    · intro y0 y1 y2
      unfold nat_Right.l0
      repeat' first
      | (with_reducible exact ih0 _ _)
      | (with_reducible exact ih1 _ _ _)
      | (with_reducible exact LeO.refl _)
      | (with_reducible exact LeO.none _)
      | (with_reducible refine LeO.ite ?_ ?_)
      | (with_reducible refine LeO.bind ?_ (fun _ => ?_))
      | exact ih0 _ _
      | exact ih1 _ _ _
      | exact LeO.none _
      | refine LeO.ite ?_ ?_
      | refine LeO.bind ?_ (fun _ => ?_)
theorem nat_Right.mono : ∀ a0 k, LeO (nat_Right.f k a0) (nat_Right.f (k + 1) a0) := by
  intro a0 k
  obtain ⟨ih0, ih1⟩ := nat_Right.mono_l k
  unfold nat_Right.f
  repeat' first
      | (with_reducible exact ih0 _ _)
      | (with_reducible exact ih1 _ _ _)
      | (with_reducible exact LeO.refl _)
      | (with_reducible exact LeO.none _)
      | (with_reducible refine LeO.ite ?_ ?_)
      | (with_reducible refine LeO.bind ?_ (fun _ => ?_))
      | exact ih0 _ _
      | exact ih1 _ _ _
      | exact LeO.none _
      | refine LeO.ite ?_ ?_
      | refine LeO.bind ?_ (fun _ => ?_)
set_option maxHeartbeats 8000000 in
set_option maxRecDepth 100000 in
theorem nat_Right.calls (k : Nat) (a0 : ByteArray) (r : Bool) (w : World) (h : nat_Right.f k a0 = some r) :
    Calls Tryz.prog 157 #[.string a0] w fun e w' => e = .returned (.bool r) ∧ Drawn0 w w' := by
  have H : (if (a0.size : Int) = 0 then (nat_Right.j0 k a0 true) else (if (a0.size : Int) > 600 then (nat_Right.j0 k a0 true) else (if 0 < (a0.size : Int) then (if (bt a0 0) = 48 then (nat_Right.j0 k a0 (decide ((a0.size : Int) > 1))) else (nat_Right.j0 k a0 false)) else (none)))) = some r := h
  clear h
  have HC2 := Aside0.mk H
  clear H
  go_enter Tryz.func157, Tryz.ntmps157
  go_upto_region 1 with (fail)
  go_cut [21] (fun v21 wc => ∃ (kq : Nat) (x21_1 : Bool), v21 = .bool x21_1 ∧ Aside0 (nat_Right.j0 kq a0 x21_1 = some r) ∧ Aside0 (kq ≤ k) ∧ Drawn0 w wc)
  case first =>
    have H := HC2.out
    clear HC2
    by_cases c3 : (a0.size : Int) = 0
    · rw [if_pos c3] at H
      have c3b0 : ((a0.size : Int) == 0) = true := beq_iff_eq.mpr c3
      have c3b1 : ((a0.size : Int) != 0) = false := bne_eq_false_iff_eq.mpr c3
      clear c3
      (first | rw [c3b0] | (simp only [i64_w, i32_w]; rw [c3b0]) | skip)
      have H' := Aside0.mk H
      clear H
      go_wp2
      go_meet
      case rel => exact ⟨_, (true), (by first | rfl | (simp; done) | (simp [*]; done)), H', ⟨by first | omega | exact Nat.le_refl _⟩, by repeat (first | exact Drawn0.refl _ | apply Drawn0.step)⟩
    · rw [if_neg c3] at H
      have c3b0 : ((a0.size : Int) == 0) = false := beq_eq_false_iff_ne.mpr c3
      have c3b1 : ((a0.size : Int) != 0) = true := bne_iff_ne.mpr c3
      (first | rw [c3b0] | (simp only [i64_w, i32_w]; rw [c3b0]) | skip)
      by_cases c4 : (a0.size : Int) > 600
      · rw [if_pos c4] at H
        have c4b0 : decide (600 < (a0.size : Int)) = true := decide_eq_true c4
        have c4b1 : decide (600 < a0.size) = true := decide_eq_true (by omega)
        clear c4
        have H' := Aside0.mk H
        clear H
        go_wp2
        go_meet
        case rel => exact ⟨_, (true), (by first | rfl | (simp; done) | (simp [*]; done)), H', ⟨by first | omega | exact Nat.le_refl _⟩, by repeat (first | exact Drawn0.refl _ | apply Drawn0.step)⟩
      · rw [if_neg c4] at H
        have c4b0 : decide (600 < (a0.size : Int)) = false := decide_eq_false c4
        have c4b1 : decide (600 < a0.size) = false := decide_eq_false (by omega)
        clear c4
        by_cases c5 : 0 < (a0.size : Int)
        · rw [if_pos c5] at H
          have c5b0 : decide (0 < (a0.size : Int)) = true := decide_eq_true c5
          have c5b1 : decide (0 < a0.size) = true := decide_eq_true (by omega)
          clear c5
          by_cases c7 : (bt a0 0) = 48
          · rw [if_pos c7] at H
            have c7b0 : ((bt a0 0) == 48) = true := beq_iff_eq.mpr c7
            have c7b1 : ((bt a0 0) != 48) = false := bne_eq_false_iff_eq.mpr c7
            clear c7
            have H' := Aside0.mk H
            clear H
            have p6 : 0 ≤ (0 : Int) := (by omega)
            have q6 : 0 < a0.size := (by have : (0 : Int) < (a0.size : Int) := of_decide_eq_true (by first | (with_reducible assumption) | assumption); omega)
            have hx6 : ∀ h : 0 < a0.size, ((a0[0]'h).toNat : Int) = bt a0 0 := bt_at a0 0
            clear p6
            have qi6 : (0 < (a0.size : Int)) = True := eq_true (of_decide_eq_true (by first | (with_reducible assumption) | assumption))
            replace q6 := eq_true q6
            go_wp2
            go_meet
            case rel => exact ⟨_, (decide ((a0.size : Int) > 1)), (by first | rfl | (simp; done) | (simp [*]; done)), H', ⟨by first | omega | exact Nat.le_refl _⟩, by repeat (first | exact Drawn0.refl _ | apply Drawn0.step)⟩
          · rw [if_neg c7] at H
            have c7b0 : ((bt a0 0) == 48) = false := beq_eq_false_iff_ne.mpr c7
            have c7b1 : ((bt a0 0) != 48) = true := bne_iff_ne.mpr c7
            have H' := Aside0.mk H
            clear H
            have p6 : 0 ≤ (0 : Int) := (by omega)
            have q6 : 0 < a0.size := (by have : (0 : Int) < (a0.size : Int) := of_decide_eq_true (by first | (with_reducible assumption) | assumption); omega)
            have hx6 : ∀ h : 0 < a0.size, ((a0[0]'h).toNat : Int) = bt a0 0 := bt_at a0 0
            clear p6
            have qi6 : (0 < (a0.size : Int)) = True := eq_true (of_decide_eq_true (by first | (with_reducible assumption) | assumption))
            replace q6 := eq_true q6
            go_wp2
            go_meet
            case rel => exact ⟨_, (false), (by first | rfl | (simp; done) | (simp [*]; done)), H', ⟨by first | omega | exact Nat.le_refl _⟩, by repeat (first | exact Drawn0.refl _ | apply Drawn0.step)⟩
        · rw [if_neg c5] at H
          exact absurd H (by simp)
  case rest =>
    clear HC2
    try clear c1
    try clear p2
    try clear c3
    try clear c3b0
    try clear c3b1
    try clear c4
    try clear c4b0
    try clear c4b1
    try clear c5
    try clear c5b0
    try clear c5b1
    try clear p6
    try clear q6
    try clear hx6
    try clear qi6
    try clear c7
    try clear c7b0
    try clear c7b1
    try clear p6
    try clear q6
    obtain ⟨kq, x21_1, rfl, HA, HJ1, ⟨mc1, rfl⟩⟩ := hcut
    cases kq with
    | zero => exact absurd HA.out (by simp [nat_Right.j0])
    | succ kj1 =>
      have H := HA.out
      clear HA
      simp only [nat_Right.j0] at H
      by_cases c8 : x21_1 = true
      · subst c8
        have H1 : (some false) = some r := by rw [if_pos rfl] at H; exact H
        clear H
        have H := H1
        clear H1
        obtain rfl := Option.some.inj H
        go_wp2
        go_ret
        exact ⟨by first | rfl | (simp; done) | (simp [*]; done), by repeat (first | exact Drawn0.refl _ | apply Drawn0.step)⟩
      · replace c8 := Bool.eq_false_iff.mpr c8
        subst c8
        have H1 : (nat_Right.l0 kj1 a0 (a0.size : Int) 0) = some r := by rw [if_neg (show ¬ (false = true) by decide)] at H; exact H
        clear H
        have H := H1
        clear H1
        have H' := Aside0.mk H
        clear H
        go_wp2
        go_loopg [24] kj1 (fun kq v24 w' => ∃ (x24_2 : Int), v24 = .int .i64 x24_2 ∧ Aside0 (nat_Right.l0 kq a0 (a0.size : Int) x24_2 = some r) ∧ Aside0 (kq ≤ kj1) ∧ Drawn0 w w')
        case atStart => exact ⟨(0), (by first | rfl | (simp; done) | (simp [*]; done)), H', ⟨Nat.le_refl _⟩, by repeat (first | exact Drawn0.refl _ | apply Drawn0.step)⟩
        case round =>
          clear H'
          try clear c1
          try clear p2
          try clear c3
          try clear c3b0
          try clear c3b1
          try clear c4
          try clear c4b0
          try clear c4b1
          try clear c5
          try clear c5b0
          try clear c5b1
          try clear p6
          try clear q6
          try clear hx6
          try clear qi6
          try clear c7
          try clear c7b0
          try clear c7b1
          try clear c8
          try clear p2
          try clear p6
          try clear q6
          obtain ⟨x24_2, rfl, HA, HK2, ⟨m2, rfl⟩⟩ := hrel
          cases gk with
          | zero => exact absurd HA.out (by simp [nat_Right.l0])
          | succ k2 =>
            have H := HA.out
            clear HA
            simp only [nat_Right.l0] at H
            by_cases c9 : x24_2 < (a0.size : Int)
            · rw [if_pos c9] at H
              have c9b0 : decide (x24_2 < (a0.size : Int)) = true := decide_eq_true c9
              clear c9
              by_cases c10 : 0 ≤ x24_2
              · rw [if_pos c10] at H
                have c10b0 : decide (0 ≤ x24_2) = true := decide_eq_true c10
                clear c10
                by_cases c11 : x24_2 < (a0.size : Int)
                · rw [if_pos c11] at H
                  have c11b0 : decide (x24_2 < (a0.size : Int)) = true := decide_eq_true c11
                  clear c11
                  by_cases c13 : (bt a0 x24_2) < 48
                  · rw [if_pos c13] at H
                    have c13b0 : decide ((bt a0 x24_2) < 48) = true := decide_eq_true c13
                    clear c13
                    obtain rfl := Option.some.inj H
                    have p12 : 0 ≤ (x24_2 : Int) := of_decide_eq_true (by first | (with_reducible assumption) | assumption)
                    have q12 : x24_2 < (a0.size : Int) := of_decide_eq_true (by first | (with_reducible assumption) | assumption)
                    have hx12 := bt_at a0 x24_2
                    replace p12 := eq_true p12
                    replace q12 := eq_true q12
                    go_wp2
                    go_ret
                    exact ⟨by first | rfl | (simp; done) | (simp [*]; done), by repeat (first | exact Drawn0.refl _ | apply Drawn0.step)⟩
                  · rw [if_neg c13] at H
                    have c13b0 : decide ((bt a0 x24_2) < 48) = false := decide_eq_false c13
                    clear c13
                    by_cases c15 : (bt a0 x24_2) > 57
                    · rw [if_pos c15] at H
                      have c15b0 : decide (57 < (bt a0 x24_2)) = true := decide_eq_true c15
                      clear c15
                      obtain rfl := Option.some.inj H
                      have p12 : 0 ≤ (x24_2 : Int) := of_decide_eq_true (by first | (with_reducible assumption) | assumption)
                      have q12 : x24_2 < (a0.size : Int) := of_decide_eq_true (by first | (with_reducible assumption) | assumption)
                      have hx12 := bt_at a0 x24_2
                      replace p12 := eq_true p12
                      replace q12 := eq_true q12
                      have p14 : 0 ≤ (x24_2 : Int) := of_decide_eq_true (by first | (with_reducible assumption) | assumption)
                      have q14 : x24_2 < (a0.size : Int) := of_decide_eq_true (by first | (with_reducible assumption) | assumption)
                      have hx14 := bt_at a0 x24_2
                      replace p14 := eq_true p14
                      replace q14 := eq_true q14
                      go_wp2
                      go_ret
                      exact ⟨by first | rfl | (simp; done) | (simp [*]; done), by repeat (first | exact Drawn0.refl _ | apply Drawn0.step)⟩
                    · rw [if_neg c15] at H
                      have c15b0 : decide (57 < (bt a0 x24_2)) = false := decide_eq_false c15
                      clear c15
                      have H' := Aside0.mk H
                      clear H
                      have p12 : 0 ≤ (x24_2 : Int) := of_decide_eq_true (by first | (with_reducible assumption) | assumption)
                      have q12 : x24_2 < (a0.size : Int) := of_decide_eq_true (by first | (with_reducible assumption) | assumption)
                      have hx12 := bt_at a0 x24_2
                      replace p12 := eq_true p12
                      replace q12 := eq_true q12
                      have p14 : 0 ≤ (x24_2 : Int) := of_decide_eq_true (by first | (with_reducible assumption) | assumption)
                      have q14 : x24_2 < (a0.size : Int) := of_decide_eq_true (by first | (with_reducible assumption) | assumption)
                      have hx14 := bt_at a0 x24_2
                      replace p14 := eq_true p14
                      replace q14 := eq_true q14
                      go_wp2
                      go_roundg k2
                      case measure => have := HJ1.out; have := HK2.out; omega
                      case rel => exact ⟨(wrap64 (x24_2 + 1)), (by first | rfl | (simp; done) | (simp [*]; done)), H', ⟨by have := HJ1.out; have := HK2.out; omega⟩, by repeat (first | exact Drawn0.refl _ | apply Drawn0.step)⟩
                · rw [if_neg c11] at H
                  exact absurd H (by simp)
              · rw [if_neg c10] at H
                exact absurd H (by simp)
            · rw [if_neg c9] at H
              have c9b0 : decide (x24_2 < (a0.size : Int)) = false := decide_eq_false c9
              clear c9
              obtain rfl := Option.some.inj H
              go_wp2
              go_ret
              exact ⟨by first | rfl | (simp; done) | (simp [*]; done), by repeat (first | exact Drawn0.refl _ | apply Drawn0.step)⟩
end Go.Proofs.YthbdjmopolpjmaaGreatDoor.F
end
section
namespace Go.Proofs.YthbdjmopolpjmaaGreatDoor.F
open Go.RowKit Go.Proofs.YthbdjmopolpjmaaGreatDoorW.PrintWords Go.Proofs.YthbdjmopolpjmaaGreatDoorW.PrintLast Go.Proofs.YthbdjmopolpjmaaGreatDoorW.PrintMore
attribute [local go_sem] max2_int min2_int max_two min_two max_three min_three max_four min_four
set_option linter.unusedVariables false
set_option linter.unusedSimpArgs false
mutual
def cubitref01_natural.j0 : Nat → ByteArray → Bool → Option (Bool)
  | 0, _, _ => none
  | k + 1, x0, x15 => if x15 = true then (some false) else (cubitref01_natural.l0 k x0 0)
def cubitref01_natural.l0 : Nat → ByteArray → Int → Option (Bool)
  | 0, _, _ => none
  | k + 1, x0, x3 => if x3 < (x0.size : Int) then (if 0 ≤ x3 then (if (bt x0 x3) < 48 then (some false) else (if (bt x0 x3) > 57 then (some false) else (cubitref01_natural.l0 k x0 (wrap64 (x3 + 1))))) else (none)) else (some true)
end
def cubitref01_natural.f (k : Nat) (a0 : ByteArray) : Option (Bool) := if a0.toList = ([] : List UInt8) then (cubitref01_natural.j0 k a0 true) else (if 0 < (a0.size : Int) then (if (bt a0 0) = 48 then (cubitref01_natural.j0 k a0 (decide ((a0.size : Int) > 1))) else (cubitref01_natural.j0 k a0 false)) else (none))
theorem cubitref01_natural.mono_l : ∀ k, (∀ y0 y1, LeO (cubitref01_natural.j0 k y0 y1) (cubitref01_natural.j0 (k + 1) y0 y1)) ∧ (∀ y0 y1, LeO (cubitref01_natural.l0 k y0 y1) (cubitref01_natural.l0 (k + 1) y0 y1))
  | 0 => ⟨fun _ _ r h => by simp [cubitref01_natural.j0] at h, fun _ _ r h => by simp [cubitref01_natural.l0] at h⟩
  | k + 1 => by
    obtain ⟨ih0, ih1⟩ := cubitref01_natural.mono_l k
    refine ⟨?_, ?_⟩
    · intro y0 y1
      unfold cubitref01_natural.j0
      repeat' first
      | (with_reducible exact ih0 _ _)
      | (with_reducible exact ih1 _ _)
      | (with_reducible exact LeO.refl _)
      | (with_reducible exact LeO.none _)
      | (with_reducible refine LeO.ite ?_ ?_)
      | (with_reducible refine LeO.bind ?_ (fun _ => ?_))
      | exact ih0 _ _
      | exact ih1 _ _
      | exact LeO.none _
      | refine LeO.ite ?_ ?_
      | refine LeO.bind ?_ (fun _ => ?_)
    · intro y0 y1
      unfold cubitref01_natural.l0
      repeat' first
      | (with_reducible exact ih0 _ _)
      | (with_reducible exact ih1 _ _)
      | (with_reducible exact LeO.refl _)
      | (with_reducible exact LeO.none _)
      | (with_reducible refine LeO.ite ?_ ?_)
      | (with_reducible refine LeO.bind ?_ (fun _ => ?_))
      | exact ih0 _ _
      | exact ih1 _ _
      | exact LeO.none _
      | refine LeO.ite ?_ ?_
      | refine LeO.bind ?_ (fun _ => ?_)
theorem cubitref01_natural.mono : ∀ a0 k, LeO (cubitref01_natural.f k a0) (cubitref01_natural.f (k + 1) a0) := by
  intro a0 k
  obtain ⟨ih0, ih1⟩ := cubitref01_natural.mono_l k
  unfold cubitref01_natural.f
  repeat' first
      | (with_reducible exact ih0 _ _)
      | (with_reducible exact ih1 _ _)
      | (with_reducible exact LeO.refl _)
      | (with_reducible exact LeO.none _)
      | (with_reducible refine LeO.ite ?_ ?_)
      | (with_reducible refine LeO.bind ?_ (fun _ => ?_))
      | exact ih0 _ _
      | exact ih1 _ _
      | exact LeO.none _
      | refine LeO.ite ?_ ?_
      | refine LeO.bind ?_ (fun _ => ?_)
set_option maxHeartbeats 8000000 in
set_option maxRecDepth 100000 in
theorem cubitref01_natural.calls (k : Nat) (a0 : ByteArray) (r : Bool) (w : World) (h : cubitref01_natural.f k a0 = some r) :
    Calls Tryz.prog 127 #[.string a0] w fun e w' => e = .returned (.bool r) ∧ Drawn0 w w' := by
  have H : (if a0.toList = ([] : List UInt8) then (cubitref01_natural.j0 k a0 true) else (if 0 < (a0.size : Int) then (if (bt a0 0) = 48 then (cubitref01_natural.j0 k a0 (decide ((a0.size : Int) > 1))) else (cubitref01_natural.j0 k a0 false)) else (none))) = some r := h
  clear h
  have HC2 := Aside0.mk H
  clear H
  go_enter Tryz.func127, Tryz.ntmps127
  go_upto_region 1 with (fail)
  go_cut [15] (fun v15 wc => ∃ (kq : Nat) (x15_1 : Bool), v15 = .bool x15_1 ∧ Aside0 (cubitref01_natural.j0 kq a0 x15_1 = some r) ∧ Aside0 (kq ≤ k) ∧ Drawn0 w wc)
  case first =>
    have H := HC2.out
    clear HC2
    by_cases c3 : a0.toList = ([] : List UInt8)
    · rw [if_pos c3] at H
      have c3b0 : (a0.toList == ([] : List UInt8)) = true := beq_iff_eq.mpr c3
      have c3b1 : (a0.toList != ([] : List UInt8)) = false := bne_eq_false_iff_eq.mpr c3
      clear c3
      (first | rw [c3b0] | (simp only [i64_w, i32_w]; rw [c3b0]) | skip)
      have H' := Aside0.mk H
      clear H
      go_wp2
      go_meet
      case rel => exact ⟨_, (true), (by first | rfl | (simp; done) | (simp [*]; done)), H', ⟨by first | omega | exact Nat.le_refl _⟩, by repeat (first | exact Drawn0.refl _ | apply Drawn0.step)⟩
    · rw [if_neg c3] at H
      have c3b0 : (a0.toList == ([] : List UInt8)) = false := beq_eq_false_iff_ne.mpr c3
      have c3b1 : (a0.toList != ([] : List UInt8)) = true := bne_iff_ne.mpr c3
      (first | rw [c3b0] | (simp only [i64_w, i32_w]; rw [c3b0]) | skip)
      by_cases c4 : 0 < (a0.size : Int)
      · rw [if_pos c4] at H
        have c4b0 : decide (0 < (a0.size : Int)) = true := decide_eq_true c4
        have c4b1 : decide (0 < a0.size) = true := decide_eq_true (by omega)
        clear c4
        by_cases c6 : (bt a0 0) = 48
        · rw [if_pos c6] at H
          have c6b0 : ((bt a0 0) == 48) = true := beq_iff_eq.mpr c6
          have c6b1 : ((bt a0 0) != 48) = false := bne_eq_false_iff_eq.mpr c6
          clear c6
          have H' := Aside0.mk H
          clear H
          have p5 : 0 ≤ (0 : Int) := (by omega)
          have q5 : 0 < a0.size := (by have : (0 : Int) < (a0.size : Int) := of_decide_eq_true (by first | (with_reducible assumption) | assumption); omega)
          have hx5 : ∀ h : 0 < a0.size, ((a0[0]'h).toNat : Int) = bt a0 0 := bt_at a0 0
          clear p5
          have qi5 : (0 < (a0.size : Int)) = True := eq_true (of_decide_eq_true (by first | (with_reducible assumption) | assumption))
          replace q5 := eq_true q5
          go_wp2
          go_meet
          case rel => exact ⟨_, (decide ((a0.size : Int) > 1)), (by first | rfl | (simp; done) | (simp [*]; done)), H', ⟨by first | omega | exact Nat.le_refl _⟩, by repeat (first | exact Drawn0.refl _ | apply Drawn0.step)⟩
        · rw [if_neg c6] at H
          have c6b0 : ((bt a0 0) == 48) = false := beq_eq_false_iff_ne.mpr c6
          have c6b1 : ((bt a0 0) != 48) = true := bne_iff_ne.mpr c6
          have H' := Aside0.mk H
          clear H
          have p5 : 0 ≤ (0 : Int) := (by omega)
          have q5 : 0 < a0.size := (by have : (0 : Int) < (a0.size : Int) := of_decide_eq_true (by first | (with_reducible assumption) | assumption); omega)
          have hx5 : ∀ h : 0 < a0.size, ((a0[0]'h).toNat : Int) = bt a0 0 := bt_at a0 0
          clear p5
          have qi5 : (0 < (a0.size : Int)) = True := eq_true (of_decide_eq_true (by first | (with_reducible assumption) | assumption))
          replace q5 := eq_true q5
          go_wp2
          go_meet
          case rel => exact ⟨_, (false), (by first | rfl | (simp; done) | (simp [*]; done)), H', ⟨by first | omega | exact Nat.le_refl _⟩, by repeat (first | exact Drawn0.refl _ | apply Drawn0.step)⟩
      · rw [if_neg c4] at H
        exact absurd H (by simp)
  case rest =>
    clear HC2
    try clear c1
    try clear p2
    try clear c3
    try clear c3b0
    try clear c3b1
    try clear c4
    try clear c4b0
    try clear c4b1
    try clear p5
    try clear q5
    try clear hx5
    try clear qi5
    try clear c6
    try clear c6b0
    try clear c6b1
    try clear p5
    try clear q5
    obtain ⟨kq, x15_1, rfl, HA, HJ1, ⟨mc1, rfl⟩⟩ := hcut
    cases kq with
    | zero => exact absurd HA.out (by simp [cubitref01_natural.j0])
    | succ kj1 =>
      have H := HA.out
      clear HA
      simp only [cubitref01_natural.j0] at H
      by_cases c7 : x15_1 = true
      · subst c7
        have H1 : (some false) = some r := by rw [if_pos rfl] at H; exact H
        clear H
        have H := H1
        clear H1
        obtain rfl := Option.some.inj H
        go_wp2
        go_ret
        exact ⟨by first | rfl | (simp; done) | (simp [*]; done), by repeat (first | exact Drawn0.refl _ | apply Drawn0.step)⟩
      · replace c7 := Bool.eq_false_iff.mpr c7
        subst c7
        have H1 : (cubitref01_natural.l0 kj1 a0 0) = some r := by rw [if_neg (show ¬ (false = true) by decide)] at H; exact H
        clear H
        have H := H1
        clear H1
        have H' := Aside0.mk H
        clear H
        go_wp2
        go_loopg [3] kj1 (fun kq v3 w' => ∃ (x3_2 : Int), v3 = .int .i64 x3_2 ∧ Aside0 (cubitref01_natural.l0 kq a0 x3_2 = some r) ∧ Aside0 (kq ≤ kj1) ∧ Drawn0 w w')
        case atStart => exact ⟨(0), (by first | rfl | (simp; done) | (simp [*]; done)), H', ⟨Nat.le_refl _⟩, by repeat (first | exact Drawn0.refl _ | apply Drawn0.step)⟩
        case round =>
          clear H'
          try clear c1
          try clear p2
          try clear c3
          try clear c3b0
          try clear c3b1
          try clear c4
          try clear c4b0
          try clear c4b1
          try clear p5
          try clear q5
          try clear hx5
          try clear qi5
          try clear c6
          try clear c6b0
          try clear c6b1
          try clear c7
          try clear p2
          try clear p5
          try clear q5
          obtain ⟨x3_2, rfl, HA, HK2, ⟨m2, rfl⟩⟩ := hrel
          cases gk with
          | zero => exact absurd HA.out (by simp [cubitref01_natural.l0])
          | succ k2 =>
            have H := HA.out
            clear HA
            simp only [cubitref01_natural.l0] at H
            by_cases c8 : x3_2 < (a0.size : Int)
            · rw [if_pos c8] at H
              have c8b0 : decide (x3_2 < (a0.size : Int)) = true := decide_eq_true c8
              clear c8
              by_cases c9 : 0 ≤ x3_2
              · rw [if_pos c9] at H
                have c9b0 : decide (0 ≤ x3_2) = true := decide_eq_true c9
                clear c9
                by_cases c11 : (bt a0 x3_2) < 48
                · rw [if_pos c11] at H
                  have c11b0 : decide ((bt a0 x3_2) < 48) = true := decide_eq_true c11
                  clear c11
                  obtain rfl := Option.some.inj H
                  have p10 : 0 ≤ (x3_2 : Int) := of_decide_eq_true (by first | (with_reducible assumption) | assumption)
                  have q10 : x3_2 < (a0.size : Int) := of_decide_eq_true (by first | (with_reducible assumption) | assumption)
                  have hx10 := bt_at a0 x3_2
                  replace p10 := eq_true p10
                  replace q10 := eq_true q10
                  go_wp2
                  go_ret
                  exact ⟨by first | rfl | (simp; done) | (simp [*]; done), by repeat (first | exact Drawn0.refl _ | apply Drawn0.step)⟩
                · rw [if_neg c11] at H
                  have c11b0 : decide ((bt a0 x3_2) < 48) = false := decide_eq_false c11
                  clear c11
                  by_cases c13 : (bt a0 x3_2) > 57
                  · rw [if_pos c13] at H
                    have c13b0 : decide (57 < (bt a0 x3_2)) = true := decide_eq_true c13
                    clear c13
                    obtain rfl := Option.some.inj H
                    have p10 : 0 ≤ (x3_2 : Int) := of_decide_eq_true (by first | (with_reducible assumption) | assumption)
                    have q10 : x3_2 < (a0.size : Int) := of_decide_eq_true (by first | (with_reducible assumption) | assumption)
                    have hx10 := bt_at a0 x3_2
                    replace p10 := eq_true p10
                    replace q10 := eq_true q10
                    have p12 : 0 ≤ (x3_2 : Int) := of_decide_eq_true (by first | (with_reducible assumption) | assumption)
                    have q12 : x3_2 < (a0.size : Int) := of_decide_eq_true (by first | (with_reducible assumption) | assumption)
                    have hx12 := bt_at a0 x3_2
                    replace p12 := eq_true p12
                    replace q12 := eq_true q12
                    go_wp2
                    go_ret
                    exact ⟨by first | rfl | (simp; done) | (simp [*]; done), by repeat (first | exact Drawn0.refl _ | apply Drawn0.step)⟩
                  · rw [if_neg c13] at H
                    have c13b0 : decide (57 < (bt a0 x3_2)) = false := decide_eq_false c13
                    clear c13
                    have H' := Aside0.mk H
                    clear H
                    have p10 : 0 ≤ (x3_2 : Int) := of_decide_eq_true (by first | (with_reducible assumption) | assumption)
                    have q10 : x3_2 < (a0.size : Int) := of_decide_eq_true (by first | (with_reducible assumption) | assumption)
                    have hx10 := bt_at a0 x3_2
                    replace p10 := eq_true p10
                    replace q10 := eq_true q10
                    have p12 : 0 ≤ (x3_2 : Int) := of_decide_eq_true (by first | (with_reducible assumption) | assumption)
                    have q12 : x3_2 < (a0.size : Int) := of_decide_eq_true (by first | (with_reducible assumption) | assumption)
                    have hx12 := bt_at a0 x3_2
                    replace p12 := eq_true p12
                    replace q12 := eq_true q12
                    go_wp2
                    go_roundg k2
                    case measure => have := HJ1.out; have := HK2.out; omega
                    case rel => exact ⟨(wrap64 (x3_2 + 1)), (by first | rfl | (simp; done) | (simp [*]; done)), H', ⟨by have := HJ1.out; have := HK2.out; omega⟩, by repeat (first | exact Drawn0.refl _ | apply Drawn0.step)⟩
              · rw [if_neg c9] at H
                exact absurd H (by simp)
            · rw [if_neg c8] at H
              have c8b0 : decide (x3_2 < (a0.size : Int)) = false := decide_eq_false c8
              clear c8
              obtain rfl := Option.some.inj H
              go_wp2
              go_ret
              exact ⟨by first | rfl | (simp; done) | (simp [*]; done), by repeat (first | exact Drawn0.refl _ | apply Drawn0.step)⟩
end Go.Proofs.YthbdjmopolpjmaaGreatDoor.F
end
section
namespace Go.Proofs.YthbdjmopolpjmaaGreatDoor.F
open Go.RowKit Go.Proofs.YthbdjmopolpjmaaGreatDoorW.PrintWords Go.Proofs.YthbdjmopolpjmaaGreatDoorW.PrintLast Go.Proofs.YthbdjmopolpjmaaGreatDoorW.PrintMore
attribute [local go_sem] max2_int min2_int max_two min_two max_three min_three max_four min_four
set_option linter.unusedVariables false
set_option linter.unusedSimpArgs false
def cubitref01_Right.f (k : Nat) (a0 : ByteArray) : Option (Bool) := if (a0.size : Int) ≤ 600 then ((cubitref01_natural.f k a0).bind fun t195 => (some t195)) else (some false)
theorem cubitref01_Right.mono : ∀ a0 k, LeO (cubitref01_Right.f k a0) (cubitref01_Right.f (k + 1) a0) := by
  intro a0 k
  unfold cubitref01_Right.f
  repeat' first
      | (with_reducible exact cubitref01_natural.mono _ _)
      | (with_reducible exact LeO.refl _)
      | (with_reducible exact LeO.none _)
      | (with_reducible refine LeO.ite ?_ ?_)
      | (with_reducible refine LeO.bind ?_ (fun _ => ?_))
      | exact cubitref01_natural.mono _ _
      | exact LeO.none _
      | refine LeO.ite ?_ ?_
      | refine LeO.bind ?_ (fun _ => ?_)
set_option maxHeartbeats 8000000 in
set_option maxRecDepth 100000 in
theorem cubitref01_Right.calls (k : Nat) (a0 : ByteArray) (r : Bool) (w : World) (h : cubitref01_Right.f k a0 = some r) :
    Calls Tryz.prog 92 #[.string a0] w fun e w' => e = .returned (.bool r) ∧ Drawn0 w w' := by
  have H : (if (a0.size : Int) ≤ 600 then ((cubitref01_natural.f k a0).bind fun t195 => (some t195)) else (some false)) = some r := h
  clear h
  by_cases c2 : (a0.size : Int) ≤ 600
  · rw [if_pos c2] at H
    have c2b0 : decide ((a0.size : Int) ≤ 600) = true := decide_eq_true c2
    have c2b1 : decide (a0.size ≤ 600) = true := decide_eq_true (by omega)
    clear c2
    replace H := Option.bind_eq_some_iff.mp H
    obtain ⟨t195, A30, H⟩ := H
    replace H : (some t195) = some r := H
    have A3 := Aside0.mk A30
    clear A30
    obtain rfl := Option.some.inj H
    go_enter Tryz.func92, Tryz.ntmps92
    go_wp2_with (first | (go_at_call 127; (with_reducible refine (cubitref01_natural.calls k a0 t195 _ A3.out).mono ?_); rintro e w' ⟨rfl, ⟨nd, rfl⟩⟩))
    go_ret
    exact ⟨by first | rfl | (simp; done) | (simp [*]; done), by repeat (first | exact Drawn0.refl _ | apply Drawn0.step)⟩
  · rw [if_neg c2] at H
    have c2b0 : decide ((a0.size : Int) ≤ 600) = false := decide_eq_false c2
    have c2b1 : decide (a0.size ≤ 600) = false := decide_eq_false (by omega)
    clear c2
    obtain rfl := Option.some.inj H
    go_enter Tryz.func92, Tryz.ntmps92
    go_wp2
    go_ret
    exact ⟨by first | rfl | (simp; done) | (simp [*]; done), by repeat (first | exact Drawn0.refl _ | apply Drawn0.step)⟩
end Go.Proofs.YthbdjmopolpjmaaGreatDoor.F
end
section
set_option linter.unusedVariables false
set_option linter.unusedSimpArgs false
namespace Go.Proofs.YthbdjmopolpjmaaGreatDoor.M
open Go.RowKit Go.Proofs.YthbdjmopolpjmaaGreatDoorW.PrintWords Go.Proofs.YthbdjmopolpjmaaGreatDoorW.PrintLast Go.Proofs.YthbdjmopolpjmaaGreatDoorW.PrintMore Go.Proofs.YthbdjmopolpjmaaGreatDoor.F
def NatR (s : ByteArray) : Prop := 0 < s.size ∧ s.size ≤ 600 ∧ (bt s 0 = 48 → s.size ≤ 1) ∧ Num (bytesOf s)
def dv (s : ByteArray) : Int := dec 0 (bytesOf s)
theorem num_iff (s : ByteArray) : Num (bytesOf s) ↔ ∀ j : Nat, j < s.size → 48 ≤ bt s (j : Int) ∧ bt s (j : Int) ≤ 57 := by
  refine ⟨fun h j hj => ?_, num_bytes⟩
  rw [← rd_bytesOf]
  exact num_rd h _ (by rw [bytesOf_length]; exact hj)
theorem digits_ev (s : ByteArray) (hs : s.size ≤ 1000000) : ∀ (d i : Nat), i + d = s.size → ∃ b, Ev (fun k => nat_Right.l0 k s (s.size : Int) (i : Int)) b ∧ (b = true ↔ ∀ j : Nat, i ≤ j → j < s.size → 48 ≤ bt s (j : Int) ∧ bt s (j : Int) ≤ 57) := by
  intro d
  induction d with
  | zero =>
    intro i hi
    refine ⟨true, Ev.step (f := fun _ => some true) (fun k => ?_) (Ev.now _), ?_⟩
    · simp only [nat_Right.l0]; rw [if_neg (by omega)]
    · simp; intro j h1 h2; omega
  | succ d ih =>
    intro i hi
    by_cases h1 : bt s (i : Int) < 48
    · refine ⟨false, Ev.step (f := fun _ => some false) (fun k => ?_) (Ev.now _), ?_⟩
      · simp only [nat_Right.l0]; rw [if_pos (by omega), if_pos (by omega), if_pos (by omega), if_pos h1]
      · simp only [Bool.false_eq_true, false_iff]; intro h; have := h i (Nat.le_refl _) (by omega); omega
    · by_cases h2 : bt s (i : Int) > 57
      · refine ⟨false, Ev.step (f := fun _ => some false) (fun k => ?_) (Ev.now _), ?_⟩
        · simp only [nat_Right.l0]; rw [if_pos (by omega), if_pos (by omega), if_pos (by omega), if_neg h1, if_pos h2]
        · simp only [Bool.false_eq_true, false_iff]; intro h; have := h i (Nat.le_refl _) (by omega); omega
      · obtain ⟨b, he, hb⟩ := ih (i + 1) (by omega)
        refine ⟨b, Ev.step (f := fun k => nat_Right.l0 k s (s.size : Int) ((i + 1 : Nat) : Int)) (fun k => ?_) he, ?_⟩
        · simp only [nat_Right.l0]
          rw [if_pos (by omega), if_pos (by omega), if_pos (by omega), if_neg h1, if_neg h2, w64 (by omega) (by omega)]
          rfl
        · rw [hb]
          refine ⟨fun h j h3 h4 => ?_, fun h j h3 h4 => h j (by omega) h4⟩
          rcases Nat.eq_or_lt_of_le h3 with rfl | h5
          · omega
          · exact h j h5 h4
theorem natR_tells (s : ByteArray) : ∃ b, Ev (fun k => nat_Right.f k s) b ∧ (b = true ↔ NatR s) := by
  unfold nat_Right.f
  by_cases h0 : (s.size : Int) = 0
  · refine ⟨false, Ev.congr (f := fun k => nat_Right.j0 k s true) (fun k => by rw [if_pos h0]) (Ev.step (f := fun _ => some false) (fun k => by simp [nat_Right.j0]) (Ev.now _)), ?_⟩
    simp only [Bool.false_eq_true, false_iff]; intro h; have := h.1; omega
  by_cases h1 : (s.size : Int) > 600
  · refine ⟨false, Ev.congr (f := fun k => nat_Right.j0 k s true) (fun k => by rw [if_neg h0, if_pos h1]) (Ev.step (f := fun _ => some false) (fun k => by simp [nat_Right.j0]) (Ev.now _)), ?_⟩
    simp only [Bool.false_eq_true, false_iff]; intro h; have := h.2.1; omega
  obtain ⟨b, he, hb⟩ := digits_ev s (by omega) s.size 0 (by omega)
  have hb2 : (b = true ↔ Num (bytesOf s)) := by rw [hb, num_iff]; exact ⟨fun h j hj => h j (Nat.zero_le _) hj, fun h j _ hj => h j hj⟩
  by_cases h2 : bt s 0 = 48
  · by_cases h3 : s.size ≤ 1
    · refine ⟨b, Ev.congr (f := fun k => nat_Right.j0 k s false) (fun k => ?_) (Ev.step (f := fun k => nat_Right.l0 k s (s.size : Int) 0) (fun k => by simp [nat_Right.j0]) he), ?_⟩
      · rw [if_neg h0, if_neg h1, if_pos (by omega), if_pos h2, show decide ((s.size : Int) > 1) = false from decide_eq_false (by omega)]
      · rw [hb2]; exact ⟨fun h => ⟨by omega, by omega, fun _ => h3, h⟩, fun h => h.2.2.2⟩
    · refine ⟨false, Ev.congr (f := fun k => nat_Right.j0 k s true) (fun k => ?_) (Ev.step (f := fun _ => some false) (fun k => by simp [nat_Right.j0]) (Ev.now _)), ?_⟩
      · rw [if_neg h0, if_neg h1, if_pos (by omega), if_pos h2, show decide ((s.size : Int) > 1) = true from decide_eq_true (by omega)]
      · simp only [Bool.false_eq_true, false_iff]; intro h; exact h3 (h.2.2.1 h2)
  · refine ⟨b, Ev.congr (f := fun k => nat_Right.j0 k s false) (fun k => ?_) (Ev.step (f := fun k => nat_Right.l0 k s (s.size : Int) 0) (fun k => by simp [nat_Right.j0]) he), ?_⟩
    · rw [if_neg h0, if_neg h1, if_pos (by omega), if_neg h2]
    · rw [hb2]; exact ⟨fun h => ⟨by omega, by omega, fun h3 => absurd h3 h2, h⟩, fun h => h.2.2.2⟩
end Go.Proofs.YthbdjmopolpjmaaGreatDoor.M
end
section
set_option linter.unusedVariables false
set_option linter.unusedSimpArgs false
namespace Go.Proofs.YthbdjmopolpjmaaGreatDoor.C
open Go.RowKit Go.Proofs.YthbdjmopolpjmaaGreatDoorW.PrintWords Go.Proofs.YthbdjmopolpjmaaGreatDoorW.PrintLast Go.Proofs.YthbdjmopolpjmaaGreatDoorW.PrintMore Go.Proofs.YthbdjmopolpjmaaGreatDoor.F Go.Proofs.YthbdjmopolpjmaaGreatDoor.M
def Ty (W : World) (t : TypeId) (k : Nat) : Prop := ∃ cells, W.heap[k]? = some (.cells cells t (0, 0))
def U (W : World) (A : Option Addr) (xs : List Int) : Prop := Kd.F (Kd.int .u32) W (Ty W 131) A xs.length xs
theorem U.now {W : World} {A : Option Addr} {xs : List Int} (h : U W A xs) : Kd.C (Kd.int .u32) W A xs.length xs := Kd.F_now h
theorem U.step {W W1 : World} {A : Option Addr} {xs : List Int} (h : U W A xs) (hm : ∀ k, Ty W 131 k → W1.heap[k]? = W.heap[k]?) : U W1 A xs := by
  refine Kd.F_mono (Kd.F_step h (fun k hk _ => hm k hk)) (fun k hk => ?_)
  obtain ⟨c, hc⟩ := hk
  exact ⟨c, (hm k ⟨c, hc⟩).trans hc⟩
theorem Ty.lt {W : World} {t k : Nat} (h : Ty W t k) : k < W.heap.size := by
  obtain ⟨c, hc⟩ := h
  exact blk_lt hc
theorem U.below {W W1 : World} {A : Option Addr} {xs : List Int} (h : U W A xs) (hb : Below W.heap.size W W1) : U W1 A xs := h.step fun k hk => hb.block k hk.lt
theorem U.grown {W W1 : World} {A : Option Addr} {xs : List Int} {g t : Nat} {cs : Array Value} (h : U W A xs) (hg : W.grownBy W1 (some g)) (hb : W.heap[g]? = some (.cells cs t (0, 0))) (ht : t ≠ 131) : U W1 A xs :=
  h.step fun k hk => by
    refine hg.block k hk.lt (fun e => ?_)
    injection e with e
    subst e
    obtain ⟨c, hc⟩ := hk
    rw [hc] at hb
    injection hb with hb
    injection hb with _ hb
    exact ht hb.symm
theorem U.drewN {W : World} {A : Option Addr} {xs : List Int} (h : U W A xs) (m : Nat) : U (W.drewN m) A xs := h.below (pw_below_drewN (Below.refl _ _) m)
theorem U.drawn {W W1 : World} {A : Option Addr} {xs : List Int} (h : U W A xs) (hd : Drawn0 W W1) : U W1 A xs := h.below hd.below
theorem U.nil (W : World) : U W none [] := Kd.F_nil (Kd.int .u32) W _
theorem U.take {W : World} {A : Option Addr} {xs : List Int} (h : U W A xs) {m : Nat} (hm : m ≤ xs.length) : U W A (xs.take m) := Kd.F_take h hm
theorem U.of_R {W : World} {base : Nat} {ok : Nat → Prop} {v : Value} {xs : List Int} (h : Kd.R (Kd.int .u32) 131 W base ok v xs) : ∃ A c, v = .slice A xs.length c ∧ xs.length ≤ c ∧ U W A xs := by
  obtain ⟨A, c, rfl, hc, _⟩ := Kd.R_reads h
  refine ⟨A, c, rfl, hc, Kd.F_mono (Kd.R_F (Kd.R_bound h)) (fun k hk => ?_)⟩
  obtain ⟨_, _, _, q, hq, cells, hcell⟩ := hk
  have : q = 131 := by simpa [Kd.int, Kd.scalar] using hq
  subst this
  exact ⟨cells, hcell⟩
structure Chg (S : Nat → Prop) (w w' : World) : Prop where
  os : w'.os = w.os
  tape : w'.tape = w.tape
  output : w'.output = w.output
  size : w.heap.size ≤ w'.heap.size
  block : ∀ i, i < w.heap.size → ¬ S i → w'.heap[i]? = w.heap[i]?
theorem Chg.of_below {S : Nat → Prop} {w w' : World} (h : Below w.heap.size w w') : Chg S w w' := ⟨h.os, h.tape, h.output, h.size, fun i hi _ => h.block i hi⟩
theorem Chg.refl (S : Nat → Prop) (w : World) : Chg S w w := Chg.of_below (Below.refl _ _)
theorem Chg.trans {S S2 : Nat → Prop} {w w1 w2 : World} (h : Chg S w w1) (k : Chg S2 w1 w2) (hs : ∀ i, i < w.heap.size → S2 i → S i) : Chg S w w2 :=
  ⟨k.os.trans h.os, k.tape.trans h.tape, k.output.trans h.output, Nat.le_trans h.size k.size, fun i hi hn => (k.block i (Nat.lt_of_lt_of_le hi h.size) (fun h2 => hn (hs i hi h2))).trans (h.block i hi hn)⟩
theorem Chg.below {S : Nat → Prop} {w w' : World} (h : Chg S w w') (hs : ∀ i, S i → w.heap.size ≤ i) : Below w.heap.size w w' := ⟨h.os, h.tape, h.output, h.size, fun i hi => h.block i hi (fun hk => by have := hs i hk; omega)⟩
theorem Chg.mono {S S2 : Nat → Prop} {w w' : World} (h : Chg S w w') (hs : ∀ i, i < w.heap.size → S i → S2 i) : Chg S2 w w' := ⟨h.os, h.tape, h.output, h.size, fun i hi hn => h.block i hi (fun hk => hn (hs i hi hk))⟩
theorem Chg.blk {S : Nat → Prop} {w w' : World} {g : Nat} {o : Obj} (h : Chg S w w') (hb : w.heap[g]? = some o) (hs : ¬ S g) : w'.heap[g]? = some o := (h.block g (blk_lt hb) hs).trans hb
theorem Chg.setCell {S : Nat → Prop} {w w' : World} (h : Chg S w w') (p : Addr) (hp : S p.block ∨ w.heap.size ≤ p.block) (v : Value) : Chg S w (w'.setCell p v) := by
  refine ⟨?_, ?_, ?_, ?_, fun i hi hn => ?_⟩
  · rw [← h.os]; unfold World.setCell; split <;> rfl
  · rw [← h.tape]; unfold World.setCell; split <;> rfl
  · rw [← h.output]; unfold World.setCell; split <;> rfl
  · have := h.size; simp; omega
  · have hne : i ≠ p.block := by
      intro e; subst e
      rcases hp with hp | hp
      · exact hn hp
      · omega
    exact (Below.heap_setCell w' p v i hne).trans (h.block i hi hn)
theorem Chg.alloc {S : Nat → Prop} {w w' : World} (h : Chg S w w') (o : Obj) : Chg S w (w'.alloc o) := h.trans (S2 := fun _ => False) (Chg.of_below (below_alloc (Below.refl _ _) o)) (fun _ _ h => h.elim)
theorem Chg.drewN {S : Nat → Prop} {w w' : World} (h : Chg S w w') (m : Nat) : Chg S w (w'.drewN m) := h.trans (S2 := fun _ => False) (Chg.of_below (pw_below_drewN (Below.refl _ _) m)) (fun _ _ h => h.elim)
theorem Chg.drew {S : Nat → Prop} {w w' : World} (h : Chg S w w') : Chg S w w'.drew := h.trans (S2 := fun _ => False) (Chg.of_below (below_drew (Below.refl _ _))) (fun _ _ h => h.elim)
theorem Chg.then_below {S : Nat → Prop} {w w1 w2 : World} (h : Chg S w w1) (hb : Below w1.heap.size w1 w2) : Chg S w w2 := h.trans (S2 := fun _ => False) (Chg.of_below hb) (fun _ _ h => h.elim)
theorem U.chg {S : Nat → Prop} {W W1 : World} {A : Option Addr} {xs : List Int} (h : U W A xs) (hc : Chg S W W1) (hs : ∀ k, S k → k < W.heap.size → ¬ Ty W 131 k) : U W1 A xs :=
  h.step fun k hk => hc.block k hk.lt (fun hS => hs k hS hk.lt hk)
theorem ty_ne {W : World} {t t' k : Nat} {cs : Array Value} (hb : W.heap[k]? = some (.cells cs t (0, 0))) (ht : t ≠ t') : ¬ Ty W t' k := by
  rintro ⟨c, hc⟩
  rw [hc] at hb
  injection hb with hb
  injection hb with _ hb
  exact ht hb.symm
def num (neg : Bool) (xs : List Int) : Int := if neg then - val 4294967296 xs else val 4294967296 xs
def Wd (xs : List Int) : Prop := Dig 4294967296 xs ∧ Trim xs ∧ xs.length ≤ 1000000
def IntB (W : World) (g : Nat) (neg : Bool) (xs : List Int) : Prop := ∃ A c, W.heap[g]? = some (.cells #[.bool neg, .slice A xs.length c] 173 (0, 0)) ∧ xs.length ≤ c ∧ U W A xs
def IntC (W : World) (g o : Nat) (neg : Bool) (xs : List Int) : Prop := ∃ A c, W.cell? ⟨g, o, none⟩ = some (.bool neg) ∧ W.cell? ⟨g, o + 1, none⟩ = some (.slice A xs.length c) ∧ xs.length ≤ c ∧ U W A xs
theorem IntB.c {W : World} {g : Nat} {neg : Bool} {xs : List Int} (h : IntB W g neg xs) : IntC W g 0 neg xs := by
  obtain ⟨A, c, hb, hc, hu⟩ := h
  exact ⟨A, c, (blk_cell hb 0).trans rfl, (blk_cell hb 1).trans rfl, hc, hu⟩
theorem IntB.chg {S : Nat → Prop} {W W1 : World} {g : Nat} {neg : Bool} {xs : List Int} (h : IntB W g neg xs) (hc : Chg S W W1) (hg : ¬ S g) (hs : ∀ k, S k → k < W.heap.size → ¬ Ty W 131 k) : IntB W1 g neg xs := by
  obtain ⟨A, c, hb, hcc, hu⟩ := h
  exact ⟨A, c, hc.blk hb hg, hcc, hu.chg hc hs⟩
theorem IntB.below {W W1 : World} {g : Nat} {neg : Bool} {xs : List Int} (h : IntB W g neg xs) (hb : Below W.heap.size W W1) : IntB W1 g neg xs := h.chg (S := fun _ => False) (Chg.of_below hb) (fun h => h) (fun _ h => h.elim)
theorem IntB.lt {W : World} {g : Nat} {neg : Bool} {xs : List Int} (h : IntB W g neg xs) : g < W.heap.size := by
  obtain ⟨A, c, hb, _⟩ := h
  exact blk_lt hb
theorem IntB.noword {W : World} {g : Nat} {neg : Bool} {xs : List Int} (h : IntB W g neg xs) : ¬ Ty W 131 g := by
  obtain ⟨A, c, hb, _⟩ := h
  exact ty_ne hb (by decide)
theorem IntC.below {W W1 : World} {g o : Nat} {neg : Bool} {xs : List Int} (h : IntC W g o neg xs) (hb : Below W.heap.size W W1) : IntC W1 g o neg xs := by
  obtain ⟨A, c, h0, h1, hc, hu⟩ := h
  exact ⟨A, c, pw_cell_below hb h0, pw_cell_below hb h1, hc, hu.below hb⟩
end Go.Proofs.YthbdjmopolpjmaaGreatDoor.C
end
section
namespace Go.Proofs.YthbdjmopolpjmaaGreatDoor.F
open Go.RowKit Go.Proofs.YthbdjmopolpjmaaGreatDoorW.PrintWords Go.Proofs.YthbdjmopolpjmaaGreatDoorW.PrintLast Go.Proofs.YthbdjmopolpjmaaGreatDoorW.PrintMore
attribute [local go_sem] max2_int min2_int max_two min_two max_three min_three max_four min_four
set_option linter.unusedVariables false
set_option linter.unusedSimpArgs false
def cubitref01_trim.l0 : Nat → List Int → Option (List Int)
  | 0, _ => none
  | k + 1, x0 => if (x0.length : Int) > 0 then (if 0 ≤ (wrap64 ((x0.length : Int) - 1)) then (if (wrap64 ((x0.length : Int) - 1)) < (x0.length : Int) then (if (rd x0 (wrap64 ((x0.length : Int) - 1))) = 0 then (if (wrap64 ((x0.length : Int) - 1)) ≤ (x0.length : Int) then (cubitref01_trim.l0 k (x0.take ((wrap64 ((x0.length : Int) - 1)) : Int).toNat)) else (none)) else (some x0)) else (none)) else (none)) else (some x0)
def cubitref01_trim.f (k : Nat) (l0 : List Int) : Option (List Int) := cubitref01_trim.l0 k l0
theorem cubitref01_trim.mono_l : ∀ k, (∀ y0, LeO (cubitref01_trim.l0 k y0) (cubitref01_trim.l0 (k + 1) y0))
  | 0 => fun _ r h => by simp [cubitref01_trim.l0] at h
  | k + 1 => by
    have ih0 := cubitref01_trim.mono_l k
    · intro y0
      unfold cubitref01_trim.l0
      repeat' first
      | (with_reducible exact ih0 _)
      | (with_reducible exact LeO.refl _)
      | (with_reducible exact LeO.none _)
      | (with_reducible refine LeO.ite ?_ ?_)
      | (with_reducible refine LeO.bind ?_ (fun _ => ?_))
      | exact ih0 _
      | exact LeO.none _
      | refine LeO.ite ?_ ?_
      | refine LeO.bind ?_ (fun _ => ?_)
theorem cubitref01_trim.mono : ∀ a0 k, LeO (cubitref01_trim.f k a0) (cubitref01_trim.f (k + 1) a0) := by
  intro a0 k
  have ih0 := cubitref01_trim.mono_l k
  unfold cubitref01_trim.f
  repeat' first
      | (with_reducible exact ih0 _)
      | (with_reducible exact LeO.refl _)
      | (with_reducible exact LeO.none _)
      | (with_reducible refine LeO.ite ?_ ?_)
      | (with_reducible refine LeO.bind ?_ (fun _ => ?_))
      | exact ih0 _
      | exact LeO.none _
      | refine LeO.ite ?_ ?_
      | refine LeO.bind ?_ (fun _ => ?_)
set_option maxHeartbeats 8000000 in
set_option maxRecDepth 100000 in
theorem cubitref01_trim.calls (k : Nat) (P0_ : Nat → Prop) (A0 : Option Addr) (c0 : Nat) (l0 : List Int) (r : List Int) (w : World) (hs0 : Kd.V (Kd.int .i64) 3 w w.heap.size (fun k_ => P0_ k_) (.slice A0 l0.length c0) l0) (h : cubitref01_trim.f k l0 = some r) :
    Calls Tryz.prog 178 #[.slice A0 l0.length c0] w fun e w' => ∃ v0_ : Value, e = .returned (v0_) ∧ Kd.V (Kd.int .i64) 3 w' w.heap.size (fun k_ => (P0_ k_ ∨ w.heap.size ≤ k_)) v0_ r ∧ Below w.heap.size w w' := by
  have HO0 := Aside0.mk (show Kd.V (Kd.int .i64) 3 w w.heap.size (fun k_ => (P0_ k_ ∨ w.heap.size ≤ k_)) (.slice A0 l0.length c0) l0 from Kd.V_mono hs0 (fun k_ hk => .inl hk))
  have HB := Aside0.mk (Below.refl w.heap.size w)
  have H : (cubitref01_trim.l0 k l0) = some r := h
  clear h
  have H' := Aside0.mk H
  clear H
  go_enter Tryz.func178, Tryz.ntmps178
  go_wp2
  go_loopg [0] k (fun kq v0 w' => ∃ (x0_1 : List Int), Aside0 (cubitref01_trim.l0 kq x0_1 = some r) ∧ Aside0 (kq ≤ k) ∧ Aside0 (Kd.V (Kd.int .i64) 3 w' w.heap.size (fun k_ => (P0_ k_ ∨ w.heap.size ≤ k_)) v0 x0_1) ∧ Aside0 (Below w.heap.size w w'))
  case atStart => exact ⟨(l0), H', ⟨Nat.le_refl _⟩, ⟨by (with_reducible repeat (first | apply Kd.V_alloc | apply Kd.V_drewN | apply Kd.V_drew)); exact HO0.out⟩, ⟨by repeat (first | (with_reducible first | exact HB.out | apply below_alloc | apply pw_below_drewN | apply below_drew1) | exact HB.out)⟩⟩
  case round =>
    clear H'
    try clear c1
    obtain ⟨x0_1, HA, HK1, HO_0, HB⟩ := hrel
    cases gk with
    | zero => exact absurd HA.out (by simp [cubitref01_trim.l0])
    | succ k1 =>
      have H := HA.out
      clear HA
      simp only [cubitref01_trim.l0] at H
      by_cases c2 : (x0_1.length : Int) > 0
      · rw [if_pos c2] at H
        have c2b0 : decide (0 < (x0_1.length : Int)) = true := decide_eq_true c2
        have c2b1 : decide (0 < x0_1.length) = true := decide_eq_true (by omega)
        clear c2
        obtain ⟨ji3, hji3⟩ : ∃ j_ : Int, (wrap64 ((x0_1.length : Int) - 1)) = j_ := ⟨_, rfl⟩
        replace H : (if 0 ≤ (ji3) then (if (ji3) < (x0_1.length : Int) then (if (rd x0_1 (ji3)) = 0 then (if (ji3) ≤ (x0_1.length : Int) then (cubitref01_trim.l0 k1 (x0_1.take ((ji3) : Int).toNat)) else (none)) else (some x0_1)) else (none)) else (none)) = some r := by first | (rw [hji3] at H; exact H) | (simp only [hji3] at H ⊢; exact H)
        have hji3w : (IntKind.i64.wrap ((x0_1.length : Int) - 1)) = ji3 := (i64_w _).trans hji3
        by_cases c4 : 0 ≤ (ji3)
        · rw [if_pos c4] at H
          have c4b0 : decide (0 ≤ (ji3)) = true := decide_eq_true c4
          clear c4
          by_cases c5 : (ji3) < (x0_1.length : Int)
          · rw [if_pos c5] at H
            have c5b0 : decide ((ji3) < (x0_1.length : Int)) = true := decide_eq_true c5
            clear c5
            by_cases c6 : (rd x0_1 (ji3)) = 0
            · rw [if_pos c6] at H
              have c6b0 : ((rd x0_1 (ji3)) == 0) = true := beq_iff_eq.mpr c6
              have c6b1 : ((rd x0_1 (ji3)) != 0) = false := bne_eq_false_iff_eq.mpr c6
              clear c6
              have c7b0 := eq_true (of_decide_eq_true (by first | (with_reducible assumption) | assumption) : 0 ≤ (ji3))
              by_cases c8 : (ji3) ≤ (x0_1.length : Int)
              · rw [if_pos c8] at H
                have c8b0 := eq_true c8
                have c8b1 : decide ((ji3) ≤ (x0_1.length : Int)) = true := decide_eq_true c8
                clear c8
                obtain ⟨y197, hy197⟩ : ∃ y_ : List Int, y_ = (x0_1.take ((ji3) : Int).toNat) := ⟨_, rfl⟩
                replace H : (cubitref01_trim.l0 k1 y197) = some r := by first | (rw [hy197]; with_reducible exact H) | (have H2_ := (Option.bind_some _ _).symm.trans H; rw [hy197]; with_reducible exact H2_) | (have H2_ := (Option.bind_some _ _).symm.trans H; with_reducible exact H2_) | with_reducible exact H | (rw [hy197]; exact H) | exact H
                have Ny197 := Aside0.mk hy197
                clear hy197
                have H' := Aside0.mk H
                clear H
                obtain ⟨Ao9, co9, eo9⟩ := Kd.V_slice HO_0.out
                subst eo9
                have p196 : 0 ≤ ((ji3) : Int) := of_decide_eq_true (by first | (with_reducible assumption) | assumption)
                have q196 : (ji3) < (x0_1.length : Int) := of_decide_eq_true (by first | (with_reducible assumption) | assumption)
                obtain ⟨ad196, e196, hx196_0⟩ := Kd.at_int (Kd.V_reads' HO_0.out).2.2 (ji3) p196 q196
                cases e196
                replace p196 := eq_true p196
                replace q196 := eq_true q196
                have q10 : ((ji3) : Int) ≤ ((x0_1.length : Int) : Int) := of_decide_eq_true (by first | (with_reducible assumption) | assumption)
                obtain ⟨i010, hi010, _, hsz10, _⟩ := info_parts info3
                have hroom10 : x0_1.length ≤ co9 := (Kd.V_reads' HO_0.out).2.1
                have hC10 : Kd.F (Kd.int .i64) _ _ (some ad196) x0_1.length x0_1 := (Kd.V_at (base := w.heap.size) HO_0.out).2.2
                have hcut10 := cut_to (P := Tryz.prog) 62 3 .i64 Tryz.underlying62 hi010 (some ad196) x0_1.length co9 (ji3) (of_decide_eq_true (by first | (with_reducible assumption) | assumption)) q10 hroom10
                have hr10 := Kd.F_take (m := ((ji3) : Int).toNat) hC10 (by omega)
                have hy10 : y197.length = ((ji3) : Int).toNat := (by rw [Ny197.out, List.length_take]; omega)
                rw [← Ny197.out] at hr10
                rw [← hy10] at hcut10
                have HO201 := Aside0.mk (show Kd.V (Kd.int .i64) 3 _ w.heap.size _ (.slice (some ad196) y197.length co9) y197 from Kd.V_mk (by omega) hr10)
                have HC201 := Aside0.mk (show y197.length ≤ co9 from by omega)
                clear hr10 hC10 hroom10 hi010 hsz10
                have KY10 := Aside0.mk hy10
                clear hy10
                replace q10 := eq_true q10
                go_wp2
                go_roundg k1
                case measure => have := HK1.out; omega
                case rel => exact ⟨(y197), H', ⟨by have := HK1.out; omega⟩, ⟨by (with_reducible repeat (first | apply Kd.V_alloc | apply Kd.V_drewN | apply Kd.V_drew)); exact HO201.out⟩, ⟨by repeat (first | (with_reducible first | exact HB.out | apply below_alloc | apply pw_below_drewN | apply below_drew1) | exact HB.out)⟩⟩
              · rw [if_neg c8] at H
                exact absurd H (by simp)
            · rw [if_neg c6] at H
              have c6b0 : ((rd x0_1 (ji3)) == 0) = false := beq_eq_false_iff_ne.mpr c6
              have c6b1 : ((rd x0_1 (ji3)) != 0) = true := bne_iff_ne.mpr c6
              obtain rfl := Option.some.inj H
              obtain ⟨Ao11, co11, eo11⟩ := Kd.V_slice HO_0.out
              subst eo11
              have p196 : 0 ≤ ((ji3) : Int) := of_decide_eq_true (by first | (with_reducible assumption) | assumption)
              have q196 : (ji3) < (x0_1.length : Int) := of_decide_eq_true (by first | (with_reducible assumption) | assumption)
              obtain ⟨ad196, e196, hx196_0⟩ := Kd.at_int (Kd.V_reads' HO_0.out).2.2 (ji3) p196 q196
              cases e196
              replace p196 := eq_true p196
              replace q196 := eq_true q196
              go_wp2
              go_ret
              exact ⟨_, by first | rfl | (simp [errW_none, errW_some] <;> rfl) | (simp only [← hji3]; first | rfl | (simp [errW_none, errW_some] <;> rfl)) | (simp [*, errW_none, errW_some] <;> rfl), by (with_reducible repeat (first | apply Kd.V_alloc | apply Kd.V_drewN | apply Kd.V_drew)); exact HO_0.out, by repeat (first | (with_reducible first | exact HB.out | apply below_alloc | apply pw_below_drewN | apply below_drew1) | exact HB.out)⟩
          · rw [if_neg c5] at H
            exact absurd H (by simp)
        · rw [if_neg c4] at H
          exact absurd H (by simp)
      · rw [if_neg c2] at H
        have c2b0 : decide (0 < (x0_1.length : Int)) = false := decide_eq_false c2
        have c2b1 : decide (0 < x0_1.length) = false := decide_eq_false (by omega)
        clear c2
        obtain rfl := Option.some.inj H
        obtain ⟨Ao12, co12, eo12⟩ := Kd.V_slice HO_0.out
        subst eo12
        go_wp2
        go_ret
        exact ⟨_, by first | rfl | (simp [errW_none, errW_some] <;> rfl) | (simp [*, errW_none, errW_some] <;> rfl), by (with_reducible repeat (first | apply Kd.V_alloc | apply Kd.V_drewN | apply Kd.V_drew)); exact HO_0.out, by repeat (first | (with_reducible first | exact HB.out | apply below_alloc | apply pw_below_drewN | apply below_drew1) | exact HB.out)⟩
end Go.Proofs.YthbdjmopolpjmaaGreatDoor.F
end
