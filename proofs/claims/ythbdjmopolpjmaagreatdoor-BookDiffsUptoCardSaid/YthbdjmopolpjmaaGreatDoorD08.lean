/- Part 8 of the proof: FCubitref01Take, CText, CDivR, CClone, CPut. -/
import Derived.ArgAppend
import Derived.BigRegion
import Derived.WalkSpells
import Derived.Test.YthbdjmopolpjmaaGreatDoorD00
import Derived.Test.YthbdjmopolpjmaaGreatDoorD01
import Derived.Test.YthbdjmopolpjmaaGreatDoorD02
import Derived.Test.YthbdjmopolpjmaaGreatDoorD03
import Derived.Test.YthbdjmopolpjmaaGreatDoorD04
import Derived.Test.YthbdjmopolpjmaaGreatDoorD05
import Derived.Test.YthbdjmopolpjmaaGreatDoorD06
import Derived.Test.YthbdjmopolpjmaaGreatDoorD07
section
namespace Go.Proofs.YthbdjmopolpjmaaGreatDoor.F
open Go.RowKit Go.Proofs.YthbdjmopolpjmaaGreatDoorW.PrintWords Go.Proofs.YthbdjmopolpjmaaGreatDoorW.PrintLast Go.Proofs.YthbdjmopolpjmaaGreatDoorW.PrintMore
attribute [local go_sem] max2_int min2_int max_two min_two max_three min_three max_four min_four
set_option linter.unusedVariables false
set_option linter.unusedSimpArgs false
mutual
def cubitref01_take.l0 : Nat → List Int → List Int → Int → Int → Int → Int → Option (List Int)
  | 0, _, _, _, _, _, _ => none
  | k + 1, x0, x1, x2, x3, x8, x9 => if x9 < (x1.length : Int) then (cubitref01_take.j1 k x0 x1 x2 x3 x8 x9 true) else (cubitref01_take.j1 k x0 x1 x2 x3 x8 x9 (decide (x8 > 0)))
def cubitref01_take.j1 : Nat → List Int → List Int → Int → Int → Int → Int → Bool → Option (List Int)
  | 0, _, _, _, _, _, _, _ => none
  | k + 1, x0, x1, x2, x3, x8, x9, x18 => if x18 = true then (if 0 ≤ (wrap64 (x2 + x9)) then (if (wrap64 (x2 + x9)) < (x0.length : Int) then (if x9 < (x1.length : Int) then (if 0 ≤ x9 then (if (wrap64 ((wrap64 ((rd x0 (wrap64 (x2 + x9))) - x8)) - (wrap64 (x3 * (rd x1 x9))))) < 0 then (cubitref01_take.l0 k (x0.set ((wrap64 (x2 + x9)) : Int).toNat (wrap64 ((wrap64 ((wrap64 ((rd x0 (wrap64 (x2 + x9))) - x8)) - (wrap64 (x3 * (rd x1 x9))))) + (wrap64 ((wrap64 (Int.tdiv (wrap64 ((wrap64 ((wrap64 (-(wrap64 ((wrap64 ((rd x0 (wrap64 (x2 + x9))) - x8)) - (wrap64 (x3 * (rd x1 x9))))))) + 10000)) - 1)) 10000)) * 10000))))) x1 x2 x3 (wrap64 (Int.tdiv (wrap64 ((wrap64 ((wrap64 (-(wrap64 ((wrap64 ((rd x0 (wrap64 (x2 + x9))) - x8)) - (wrap64 (x3 * (rd x1 x9))))))) + 10000)) - 1)) 10000)) (wrap64 (x9 + 1))) else (cubitref01_take.l0 k (x0.set ((wrap64 (x2 + x9)) : Int).toNat (wrap64 ((wrap64 ((rd x0 (wrap64 (x2 + x9))) - x8)) - (wrap64 (x3 * (rd x1 x9)))))) x1 x2 x3 0 (wrap64 (x9 + 1)))) else (none)) else (if (wrap64 ((rd x0 (wrap64 (x2 + x9))) - x8)) < 0 then (cubitref01_take.l0 k (x0.set ((wrap64 (x2 + x9)) : Int).toNat (wrap64 ((wrap64 ((rd x0 (wrap64 (x2 + x9))) - x8)) + (wrap64 ((wrap64 (Int.tdiv (wrap64 ((wrap64 ((wrap64 (-(wrap64 ((rd x0 (wrap64 (x2 + x9))) - x8)))) + 10000)) - 1)) 10000)) * 10000))))) x1 x2 x3 (wrap64 (Int.tdiv (wrap64 ((wrap64 ((wrap64 (-(wrap64 ((rd x0 (wrap64 (x2 + x9))) - x8)))) + 10000)) - 1)) 10000)) (wrap64 (x9 + 1))) else (cubitref01_take.l0 k (x0.set ((wrap64 (x2 + x9)) : Int).toNat (wrap64 ((rd x0 (wrap64 (x2 + x9))) - x8))) x1 x2 x3 0 (wrap64 (x9 + 1))))) else (none)) else (none)) else (some x0)
end
def cubitref01_take.f (k : Nat) (l0 : List Int) (l1 : List Int) (a2 : Int) (a3 : Int) : Option (List Int) := cubitref01_take.l0 k l0 l1 a2 a3 0 0
theorem cubitref01_take.mono_l : ∀ k, (∀ y0 y1 y2 y3 y4 y5, LeO (cubitref01_take.l0 k y0 y1 y2 y3 y4 y5) (cubitref01_take.l0 (k + 1) y0 y1 y2 y3 y4 y5)) ∧ (∀ y0 y1 y2 y3 y4 y5 y6, LeO (cubitref01_take.j1 k y0 y1 y2 y3 y4 y5 y6) (cubitref01_take.j1 (k + 1) y0 y1 y2 y3 y4 y5 y6))
  | 0 => ⟨fun _ _ _ _ _ _ r h => by simp [cubitref01_take.l0] at h, fun _ _ _ _ _ _ _ r h => by simp [cubitref01_take.j1] at h⟩
  | k + 1 => by
    obtain ⟨ih0, ih1⟩ := cubitref01_take.mono_l k
    refine ⟨?_, ?_⟩
    · intro y0 y1 y2 y3 y4 y5
      unfold cubitref01_take.l0
      repeat' first
      | (with_reducible exact ih0 _ _ _ _ _ _)
      | (with_reducible exact ih1 _ _ _ _ _ _ _)
      | (with_reducible exact LeO.refl _)
      | (with_reducible exact LeO.none _)
      | (with_reducible refine LeO.ite ?_ ?_)
      | (with_reducible refine LeO.bind ?_ (fun _ => ?_))
      | exact ih0 _ _ _ _ _ _
      | exact ih1 _ _ _ _ _ _ _
      | exact LeO.none _
      | refine LeO.ite ?_ ?_
      | refine LeO.bind ?_ (fun _ => ?_)
    · intro y0 y1 y2 y3 y4 y5 y6
      unfold cubitref01_take.j1
      repeat' first
      | (with_reducible exact ih0 _ _ _ _ _ _)
      | (with_reducible exact ih1 _ _ _ _ _ _ _)
      | (with_reducible exact LeO.refl _)
      | (with_reducible exact LeO.none _)
      | (with_reducible refine LeO.ite ?_ ?_)
      | (with_reducible refine LeO.bind ?_ (fun _ => ?_))
      | exact ih0 _ _ _ _ _ _
      | exact ih1 _ _ _ _ _ _ _
      | exact LeO.none _
      | refine LeO.ite ?_ ?_
      | refine LeO.bind ?_ (fun _ => ?_)
theorem cubitref01_take.mono : ∀ a0 a1 a2 a3 k, LeO (cubitref01_take.f k a0 a1 a2 a3) (cubitref01_take.f (k + 1) a0 a1 a2 a3) := by
  intro a0 a1 a2 a3 k
  obtain ⟨ih0, ih1⟩ := cubitref01_take.mono_l k
  unfold cubitref01_take.f
  repeat' first
      | (with_reducible exact ih0 _ _ _ _ _ _)
      | (with_reducible exact ih1 _ _ _ _ _ _ _)
      | (with_reducible exact LeO.refl _)
      | (with_reducible exact LeO.none _)
      | (with_reducible refine LeO.ite ?_ ?_)
      | (with_reducible refine LeO.bind ?_ (fun _ => ?_))
      | exact ih0 _ _ _ _ _ _
      | exact ih1 _ _ _ _ _ _ _
      | exact LeO.none _
      | refine LeO.ite ?_ ?_
      | refine LeO.bind ?_ (fun _ => ?_)
set_option maxHeartbeats 8000000 in
set_option maxRecDepth 100000 in
theorem cubitref01_take.calls (k : Nat) (P0_ : Nat → Prop) (u9000_ : Value) (l0 : List Int) (A1 : Option Addr) (c1 : Nat) (l1 : List Int) (a2 : Int) (a3 : Int) (r : List Int) (w0 w : World) (hB : Below w0.heap.size w0 w) (ho0 : Kd.R (Kd.int .i64) 3 w w0.heap.size P0_ u9000_ l0) (hr1 : ∀ W_, Kept w W_ (fun k_ => P0_ k_) → Kd.C (Kd.int .i64) W_ A1 l1.length l1) (hc1 : l1.length ≤ c1) (h : cubitref01_take.f k l0 l1 a2 a3 = some r) :
    Calls Tryz.prog 176 #[u9000_, .slice A1 l1.length c1, .int .i64 a2, .int .i64 a3] w fun e w' => e = .returned (.tuple #[]) ∧ Kd.R (Kd.int .i64) 3 w' w0.heap.size (fun k_ => (P0_ k_ ∨ w.heap.size ≤ k_)) u9000_ r ∧ Below w0.heap.size w0 w' ∧ Kept w w' (fun k_ => P0_ k_) := by
  have HO0 := Aside0.mk (show Kd.R (Kd.int .i64) 3 w w0.heap.size (fun k_ => (P0_ k_ ∨ w.heap.size ≤ k_)) u9000_ l0 from Kd.R_mono ho0 (fun k_ hk => (.inl hk)))
  have HR1 := Aside0.mk hr1
  have HC1 := Aside0.mk hc1
  clear hr1 hc1
  have HK := Aside0.mk (Kept.refl w (fun k_ => P0_ k_))
  have HW0 := Aside0.mk hB.size
  have HB := Aside0.mk hB
  clear hB
  have H : (cubitref01_take.l0 k l0 l1 a2 a3 0 0) = some r := h
  clear h
  have H' := Aside0.mk H
  clear H
  go_enter Tryz.func176, Tryz.ntmps176
  go_wp2
  go_loopg [8, 9] k (fun kq v8 v9 w' => ∃ (x0_1 : List Int) (x8_1 : Int) (x9_1 : Int), v8 = .int .i64 x8_1 ∧ v9 = .int .i64 x9_1 ∧ Aside0 (cubitref01_take.l0 kq x0_1 l1 a2 a3 x8_1 x9_1 = some r) ∧ Aside0 (kq ≤ k) ∧ Aside0 (Kd.R (Kd.int .i64) 3 w' w0.heap.size (fun k_ => (P0_ k_ ∨ w.heap.size ≤ k_)) u9000_ x0_1) ∧ Aside0 (Kept w w' (fun k_ => P0_ k_)) ∧ Aside0 (Below w0.heap.size w0 w'))
  case atStart => exact ⟨(l0), (0), (0), (by first | rfl | (simp; done) | (simp [*]; done)), (by first | rfl | (simp; done) | (simp [*]; done)), H', ⟨Nat.le_refl _⟩, ⟨by (with_reducible repeat (first | apply Kd.R_alloc | apply Kd.R_drewN | apply Kd.R_drew)); exact HO0.out⟩, ⟨by repeat (first | (with_reducible first | exact HK.out | apply Kept.alloc | apply Kept.drewN | apply Kept.drew) | exact HK.out)⟩, ⟨by repeat (first | (with_reducible first | exact HB.out | apply below_alloc | apply pw_below_drewN | apply below_drew1) | exact HB.out)⟩⟩
  case round =>
    clear H'
    try clear c1
    try clear p2
    obtain ⟨x0_1, x8_1, x9_1, rfl, rfl, HA, HK1, HO_0, HK, HB⟩ := hrel
    cases gk with
    | zero => exact absurd HA.out (by simp [cubitref01_take.l0])
    | succ k1 =>
      have H := HA.out
      clear HA
      simp only [cubitref01_take.l0] at H
      have HC5 := Aside0.mk H
      clear H
      go_upto_region 2 with (fail)
      go_cut [18] (fun v18 wc => ∃ (kq : Nat) (x18_4 : Bool), v18 = .bool x18_4 ∧ Aside0 (cubitref01_take.j1 kq x0_1 l1 a2 a3 x8_1 x9_1 x18_4 = some r) ∧ Aside0 (kq ≤ k1) ∧ Aside0 (Kd.R (Kd.int .i64) 3 wc w0.heap.size (fun k_ => (P0_ k_ ∨ w.heap.size ≤ k_)) u9000_ x0_1) ∧ Aside0 (Kept w wc (fun k_ => P0_ k_)) ∧ Aside0 (Below w0.heap.size w0 wc))
      case first =>
        have H := HC5.out
        clear HC5
        by_cases c6 : x9_1 < (l1.length : Int)
        · rw [if_pos c6] at H
          have c6b0 : decide (x9_1 < (l1.length : Int)) = true := decide_eq_true c6
          clear c6
          (first | rw [c6b0] | (simp only [i64_w, i32_w]; rw [c6b0]) | skip)
          have H' := Aside0.mk H
          clear H
          go_wp2
          go_meet
          case rel => exact ⟨_, (true), (by first | rfl | (simp; done) | (simp [*]; done)), H', ⟨by have := HK1.out; first | omega | exact Nat.le_refl _⟩, ⟨by (with_reducible repeat (first | apply Kd.R_alloc | apply Kd.R_drewN | apply Kd.R_drew)); exact HO_0.out⟩, ⟨by repeat (first | (with_reducible first | exact HK.out | apply Kept.alloc | apply Kept.drewN | apply Kept.drew) | exact HK.out)⟩, ⟨by repeat (first | (with_reducible first | exact HB.out | apply below_alloc | apply pw_below_drewN | apply below_drew1) | exact HB.out)⟩⟩
        · rw [if_neg c6] at H
          have c6b0 : decide (x9_1 < (l1.length : Int)) = false := decide_eq_false c6
          clear c6
          (first | rw [c6b0] | (simp only [i64_w, i32_w]; rw [c6b0]) | skip)
          have H' := Aside0.mk H
          clear H
          go_wp2
          go_meet
          case rel => exact ⟨_, (decide (x8_1 > 0)), (by first | rfl | (simp; done) | (simp [*]; done)), H', ⟨by have := HK1.out; first | omega | exact Nat.le_refl _⟩, ⟨by (with_reducible repeat (first | apply Kd.R_alloc | apply Kd.R_drewN | apply Kd.R_drew)); exact HO_0.out⟩, ⟨by repeat (first | (with_reducible first | exact HK.out | apply Kept.alloc | apply Kept.drewN | apply Kept.drew) | exact HK.out)⟩, ⟨by repeat (first | (with_reducible first | exact HB.out | apply below_alloc | apply pw_below_drewN | apply below_drew1) | exact HB.out)⟩⟩
      case rest =>
        clear HC5
        try clear c1
        try clear p2
        try clear c6
        try clear c6b0
        try clear p2
        obtain ⟨kq, x18_4, rfl, HA, HJ4, HO_0, HK, HB⟩ := hcut
        cases kq with
        | zero => exact absurd HA.out (by simp [cubitref01_take.j1])
        | succ kj4 =>
          have H := HA.out
          clear HA
          simp only [cubitref01_take.j1] at H
          by_cases c7 : x18_4 = true
          · subst c7
            have H1 : (if 0 ≤ (wrap64 (a2 + x9_1)) then (if (wrap64 (a2 + x9_1)) < (x0_1.length : Int) then (if x9_1 < (l1.length : Int) then (if 0 ≤ x9_1 then (if (wrap64 ((wrap64 ((rd x0_1 (wrap64 (a2 + x9_1))) - x8_1)) - (wrap64 (a3 * (rd l1 x9_1))))) < 0 then (cubitref01_take.l0 kj4 (x0_1.set ((wrap64 (a2 + x9_1)) : Int).toNat (wrap64 ((wrap64 ((wrap64 ((rd x0_1 (wrap64 (a2 + x9_1))) - x8_1)) - (wrap64 (a3 * (rd l1 x9_1))))) + (wrap64 ((wrap64 (Int.tdiv (wrap64 ((wrap64 ((wrap64 (-(wrap64 ((wrap64 ((rd x0_1 (wrap64 (a2 + x9_1))) - x8_1)) - (wrap64 (a3 * (rd l1 x9_1))))))) + 10000)) - 1)) 10000)) * 10000))))) l1 a2 a3 (wrap64 (Int.tdiv (wrap64 ((wrap64 ((wrap64 (-(wrap64 ((wrap64 ((rd x0_1 (wrap64 (a2 + x9_1))) - x8_1)) - (wrap64 (a3 * (rd l1 x9_1))))))) + 10000)) - 1)) 10000)) (wrap64 (x9_1 + 1))) else (cubitref01_take.l0 kj4 (x0_1.set ((wrap64 (a2 + x9_1)) : Int).toNat (wrap64 ((wrap64 ((rd x0_1 (wrap64 (a2 + x9_1))) - x8_1)) - (wrap64 (a3 * (rd l1 x9_1)))))) l1 a2 a3 0 (wrap64 (x9_1 + 1)))) else (none)) else (if (wrap64 ((rd x0_1 (wrap64 (a2 + x9_1))) - x8_1)) < 0 then (cubitref01_take.l0 kj4 (x0_1.set ((wrap64 (a2 + x9_1)) : Int).toNat (wrap64 ((wrap64 ((rd x0_1 (wrap64 (a2 + x9_1))) - x8_1)) + (wrap64 ((wrap64 (Int.tdiv (wrap64 ((wrap64 ((wrap64 (-(wrap64 ((rd x0_1 (wrap64 (a2 + x9_1))) - x8_1)))) + 10000)) - 1)) 10000)) * 10000))))) l1 a2 a3 (wrap64 (Int.tdiv (wrap64 ((wrap64 ((wrap64 (-(wrap64 ((rd x0_1 (wrap64 (a2 + x9_1))) - x8_1)))) + 10000)) - 1)) 10000)) (wrap64 (x9_1 + 1))) else (cubitref01_take.l0 kj4 (x0_1.set ((wrap64 (a2 + x9_1)) : Int).toNat (wrap64 ((rd x0_1 (wrap64 (a2 + x9_1))) - x8_1))) l1 a2 a3 0 (wrap64 (x9_1 + 1))))) else (none)) else (none)) = some r := by rw [if_pos rfl] at H; exact H
            clear H
            have H := H1
            clear H1
            obtain ⟨ji8, hji8⟩ : ∃ j_ : Int, (wrap64 (a2 + x9_1)) = j_ := ⟨_, rfl⟩
            replace H : (if 0 ≤ (ji8) then (if (ji8) < (x0_1.length : Int) then (if x9_1 < (l1.length : Int) then (if 0 ≤ x9_1 then (if (wrap64 ((wrap64 ((rd x0_1 (ji8)) - x8_1)) - (wrap64 (a3 * (rd l1 x9_1))))) < 0 then (cubitref01_take.l0 kj4 (x0_1.set ((ji8) : Int).toNat (wrap64 ((wrap64 ((wrap64 ((rd x0_1 (ji8)) - x8_1)) - (wrap64 (a3 * (rd l1 x9_1))))) + (wrap64 ((wrap64 (Int.tdiv (wrap64 ((wrap64 ((wrap64 (-(wrap64 ((wrap64 ((rd x0_1 (ji8)) - x8_1)) - (wrap64 (a3 * (rd l1 x9_1))))))) + 10000)) - 1)) 10000)) * 10000))))) l1 a2 a3 (wrap64 (Int.tdiv (wrap64 ((wrap64 ((wrap64 (-(wrap64 ((wrap64 ((rd x0_1 (ji8)) - x8_1)) - (wrap64 (a3 * (rd l1 x9_1))))))) + 10000)) - 1)) 10000)) (wrap64 (x9_1 + 1))) else (cubitref01_take.l0 kj4 (x0_1.set ((ji8) : Int).toNat (wrap64 ((wrap64 ((rd x0_1 (ji8)) - x8_1)) - (wrap64 (a3 * (rd l1 x9_1)))))) l1 a2 a3 0 (wrap64 (x9_1 + 1)))) else (none)) else (if (wrap64 ((rd x0_1 (ji8)) - x8_1)) < 0 then (cubitref01_take.l0 kj4 (x0_1.set ((ji8) : Int).toNat (wrap64 ((wrap64 ((rd x0_1 (ji8)) - x8_1)) + (wrap64 ((wrap64 (Int.tdiv (wrap64 ((wrap64 ((wrap64 (-(wrap64 ((rd x0_1 (ji8)) - x8_1)))) + 10000)) - 1)) 10000)) * 10000))))) l1 a2 a3 (wrap64 (Int.tdiv (wrap64 ((wrap64 ((wrap64 (-(wrap64 ((rd x0_1 (ji8)) - x8_1)))) + 10000)) - 1)) 10000)) (wrap64 (x9_1 + 1))) else (cubitref01_take.l0 kj4 (x0_1.set ((ji8) : Int).toNat (wrap64 ((rd x0_1 (ji8)) - x8_1))) l1 a2 a3 0 (wrap64 (x9_1 + 1))))) else (none)) else (none)) = some r := by first | (rw [hji8] at H; exact H) | (simp only [hji8] at H ⊢; exact H)
            have hji8w : (IntKind.i64.wrap (a2 + x9_1)) = ji8 := (i64_w _).trans hji8
            by_cases c9 : 0 ≤ (ji8)
            · rw [if_pos c9] at H
              have c9b0 : decide (0 ≤ (ji8)) = true := decide_eq_true c9
              clear c9
              by_cases c10 : (ji8) < (x0_1.length : Int)
              · rw [if_pos c10] at H
                have c10b0 : decide ((ji8) < (x0_1.length : Int)) = true := decide_eq_true c10
                clear c10
                by_cases c11 : x9_1 < (l1.length : Int)
                · rw [if_pos c11] at H
                  have c11b0 : decide (x9_1 < (l1.length : Int)) = true := decide_eq_true c11
                  clear c11
                  by_cases c12 : 0 ≤ x9_1
                  · rw [if_pos c12] at H
                    have c12b0 : decide (0 ≤ x9_1) = true := decide_eq_true c12
                    clear c12
                    by_cases c13 : (wrap64 ((wrap64 ((rd x0_1 (ji8)) - x8_1)) - (wrap64 (a3 * (rd l1 x9_1))))) < 0
                    · rw [if_pos c13] at H
                      have c13b0 : decide ((wrap64 ((wrap64 ((rd x0_1 (ji8)) - x8_1)) - (wrap64 (a3 * (rd l1 x9_1))))) < 0) = true := decide_eq_true c13
                      clear c13
                      obtain ⟨y237, hy237⟩ : ∃ y_ : List Int, y_ = (x0_1.set ((ji8) : Int).toNat (wrap64 ((wrap64 ((wrap64 ((rd x0_1 (ji8)) - x8_1)) - (wrap64 (a3 * (rd l1 x9_1))))) + (wrap64 ((wrap64 (Int.tdiv (wrap64 ((wrap64 ((wrap64 (-(wrap64 ((wrap64 ((rd x0_1 (ji8)) - x8_1)) - (wrap64 (a3 * (rd l1 x9_1))))))) + 10000)) - 1)) 10000)) * 10000))))) := ⟨_, rfl⟩
                      replace H : (cubitref01_take.l0 kj4 y237 l1 a2 a3 (wrap64 (Int.tdiv (wrap64 ((wrap64 ((wrap64 (-(wrap64 ((wrap64 ((rd x0_1 (ji8)) - x8_1)) - (wrap64 (a3 * (rd l1 x9_1))))))) + 10000)) - 1)) 10000)) (wrap64 (x9_1 + 1))) = some r := by first | (rw [hy237]; with_reducible exact H) | (have H2_ := (Option.bind_some _ _).symm.trans H; rw [hy237]; with_reducible exact H2_) | (have H2_ := (Option.bind_some _ _).symm.trans H; with_reducible exact H2_) | with_reducible exact H | (rw [hy237]; exact H) | exact H
                      have Ny237 := Aside0.mk hy237
                      clear hy237
                      have H' := Aside0.mk H
                      clear H
                      obtain ⟨Ao15, co15, eo15⟩ := Kd.R_slice HO_0.out
                      subst eo15
                      have p235 : 0 ≤ ((ji8) : Int) := of_decide_eq_true (by first | (with_reducible assumption) | assumption)
                      have q235 : (ji8) < (x0_1.length : Int) := of_decide_eq_true (by first | (with_reducible assumption) | assumption)
                      obtain ⟨ad235, e235, hx235_0⟩ := Kd.at_int (Kd.R_reads' HO_0.out).2.2 (ji8) p235 q235
                      cases e235
                      replace p235 := eq_true p235
                      replace q235 := eq_true q235
                      have p236 : 0 ≤ (x9_1 : Int) := of_decide_eq_true (by first | (with_reducible assumption) | assumption)
                      have q236 : x9_1 < (l1.length : Int) := of_decide_eq_true (by first | (with_reducible assumption) | assumption)
                      obtain ⟨ad236, e236, hx236_0⟩ := Kd.at_int (Kd.C_kept_now HR1.out HK.out) x9_1 p236 q236
                      cases e236
                      replace p236 := eq_true p236
                      replace q236 := eq_true q236
                      have p14 : 0 ≤ ((ji8) : Int) := of_decide_eq_true (by first | (with_reducible assumption) | assumption)
                      have q14 : ((ji8) : Int) < ((x0_1.length : Int) : Int) := of_decide_eq_true (by first | (with_reducible assumption) | assumption)
                      obtain ⟨go14, co14, eo14, gb14, gl14, cl14, HG14⟩ := Kd.R_form HO_0.out (by omega)
                      (first | cases eo14 | (injection eo14 with ea_ en_ ec_; (first | subst ea_ | (injection ea_ with ea_; subst ea_)); subst ec_; clear en_))
                      have GB14 := Aside0.mk gb14
                      have GG14 := Aside0.mk HG14
                      clear gb14 gl14 HG14
                      have HMgo14 := Aside0.mk (show (P0_ go14 ∨ w.heap.size ≤ go14) from (HO_0.out.1 _ rfl))
                      (first | simp only [add_plain] at hx235_0 | skip)
                      obtain ⟨hx14_0, hf14_0⟩ := Kd.R_celln 0 HO_0.out ((ji8) : Int) p14 q14
                      replace p14 := eq_true p14
                      replace q14 := eq_true q14
                      have HP16 := Kd.R_putg HO_0.out ((ji8) : Int) (wrap64 ((wrap64 ((wrap64 ((rd x0_1 (ji8)) - x8_1)) - (wrap64 (a3 * (rd l1 x9_1))))) + (wrap64 ((wrap64 (Int.tdiv (wrap64 ((wrap64 ((wrap64 (-(wrap64 ((wrap64 ((rd x0_1 (ji8)) - x8_1)) - (wrap64 (a3 * (rd l1 x9_1))))))) + 10000)) - 1)) 10000)) * 10000))))
                      go_wp2_with (first | ((with_reducible refine gate_store (t := 3) (p := 57) rfl ?_); refine store_event (t := 3) (p := 57) (v := ?vo_w17) (w1 := (wc.setCell ⟨go14, ((ji8) : Int).toNat, none⟩ (.int .i64 (wrap64 ((wrap64 ((wrap64 ((rd x0_1 (ji8)) - x8_1)) - (wrap64 (a3 * (rd l1 x9_1))))) + (wrap64 ((wrap64 (Int.tdiv (wrap64 ((wrap64 ((wrap64 (-(wrap64 ((wrap64 ((rd x0_1 (ji8)) - x8_1)) - (wrap64 (a3 * (rd l1 x9_1))))))) + 10000)) - 1)) 10000)) * 10000))))))) ?hg ?ho ?hn ?hr ?_; (case ho => rfl); (case hg => rfl); (case hn => rfl); (case hr => first | (go_simp; done) | (go_simp; rfl)); intro w17 hw; have hg : wc.grownBy w17 (some go14) := (by rw [hw]; exact HP16.2); have hp_ : Kd.R (Kd.int .i64) 3 w17 w0.heap.size (fun k_ => (P0_ k_ ∨ w.heap.size ≤ k_)) (.slice (some ⟨go14, 0, none⟩) x0_1.length co15) y237 := (by rw [hw, Ny237.out]; exact HP16.1); clear HP16; have n0_ := Aside0.mk (hp_); have n1_ := Aside0.mk ((by rw [hw]; exact below_set (HB.out) GB14.out : Below w0.heap.size w0 w17)); have n2_ := Aside0.mk (Kept.of_grown (S := (fun k_ => P0_ k_)) hg (by repeat (first | (with_reducible first | exact HK.out | apply Kept.alloc | apply Kept.drewN | apply Kept.drew) | exact HK.out)) (fun k_ e_ => (HO_0.out.1 k_ e_))); clear HO_0; clear HB; clear HK; have HO_0 := n0_; have HB := n1_; have HK := n2_; clear n0_ n1_ n2_; clear hg hw hp_))
                      go_roundg kj4
                      case measure => have := HK1.out; have := HJ4.out; omega
                      case rel => exact ⟨(y237), (wrap64 (Int.tdiv (wrap64 ((wrap64 ((wrap64 (-(wrap64 ((wrap64 ((rd x0_1 (ji8)) - x8_1)) - (wrap64 (a3 * (rd l1 x9_1))))))) + 10000)) - 1)) 10000)), (wrap64 (x9_1 + 1)), (by first | rfl | (simp; done) | (simp only [← hji8] <;> (first | rfl | simp)) | (simp [*]; done)), (by first | rfl | (simp; done) | (simp [*]; done)), H', ⟨by have := HK1.out; have := HJ4.out; omega⟩, ⟨by (with_reducible repeat (first | apply Kd.R_alloc | apply Kd.R_drewN | apply Kd.R_drew)); exact HO_0.out⟩, ⟨by repeat (first | (with_reducible first | exact HK.out | apply Kept.alloc | apply Kept.drewN | apply Kept.drew) | exact HK.out)⟩, ⟨by repeat (first | (with_reducible first | exact HB.out | apply below_alloc | apply pw_below_drewN | apply below_drew1) | exact HB.out)⟩⟩
                    · rw [if_neg c13] at H
                      have c13b0 : decide ((wrap64 ((wrap64 ((rd x0_1 (ji8)) - x8_1)) - (wrap64 (a3 * (rd l1 x9_1))))) < 0) = false := decide_eq_false c13
                      clear c13
                      obtain ⟨y238, hy238⟩ : ∃ y_ : List Int, y_ = (x0_1.set ((ji8) : Int).toNat (wrap64 ((wrap64 ((rd x0_1 (ji8)) - x8_1)) - (wrap64 (a3 * (rd l1 x9_1)))))) := ⟨_, rfl⟩
                      replace H : (cubitref01_take.l0 kj4 y238 l1 a2 a3 0 (wrap64 (x9_1 + 1))) = some r := by first | (rw [hy238]; with_reducible exact H) | (have H2_ := (Option.bind_some _ _).symm.trans H; rw [hy238]; with_reducible exact H2_) | (have H2_ := (Option.bind_some _ _).symm.trans H; with_reducible exact H2_) | with_reducible exact H | (rw [hy238]; exact H) | exact H
                      have Ny238 := Aside0.mk hy238
                      clear hy238
                      have H' := Aside0.mk H
                      clear H
                      obtain ⟨Ao19, co19, eo19⟩ := Kd.R_slice HO_0.out
                      subst eo19
                      have p235 : 0 ≤ ((ji8) : Int) := of_decide_eq_true (by first | (with_reducible assumption) | assumption)
                      have q235 : (ji8) < (x0_1.length : Int) := of_decide_eq_true (by first | (with_reducible assumption) | assumption)
                      obtain ⟨ad235, e235, hx235_0⟩ := Kd.at_int (Kd.R_reads' HO_0.out).2.2 (ji8) p235 q235
                      cases e235
                      replace p235 := eq_true p235
                      replace q235 := eq_true q235
                      have p236 : 0 ≤ (x9_1 : Int) := of_decide_eq_true (by first | (with_reducible assumption) | assumption)
                      have q236 : x9_1 < (l1.length : Int) := of_decide_eq_true (by first | (with_reducible assumption) | assumption)
                      obtain ⟨ad236, e236, hx236_0⟩ := Kd.at_int (Kd.C_kept_now HR1.out HK.out) x9_1 p236 q236
                      cases e236
                      replace p236 := eq_true p236
                      replace q236 := eq_true q236
                      have p18 : 0 ≤ ((ji8) : Int) := of_decide_eq_true (by first | (with_reducible assumption) | assumption)
                      have q18 : ((ji8) : Int) < ((x0_1.length : Int) : Int) := of_decide_eq_true (by first | (with_reducible assumption) | assumption)
                      obtain ⟨go18, co18, eo18, gb18, gl18, cl18, HG18⟩ := Kd.R_form HO_0.out (by omega)
                      (first | cases eo18 | (injection eo18 with ea_ en_ ec_; (first | subst ea_ | (injection ea_ with ea_; subst ea_)); subst ec_; clear en_))
                      have GB18 := Aside0.mk gb18
                      have GG18 := Aside0.mk HG18
                      clear gb18 gl18 HG18
                      have HMgo18 := Aside0.mk (show (P0_ go18 ∨ w.heap.size ≤ go18) from (HO_0.out.1 _ rfl))
                      (first | simp only [add_plain] at hx235_0 | skip)
                      obtain ⟨hx18_0, hf18_0⟩ := Kd.R_celln 0 HO_0.out ((ji8) : Int) p18 q18
                      replace p18 := eq_true p18
                      replace q18 := eq_true q18
                      have HP20 := Kd.R_putg HO_0.out ((ji8) : Int) (wrap64 ((wrap64 ((rd x0_1 (ji8)) - x8_1)) - (wrap64 (a3 * (rd l1 x9_1)))))
                      go_wp2_with (first | ((with_reducible refine gate_store (t := 3) (p := 57) rfl ?_); refine store_event (t := 3) (p := 57) (v := ?vo_w21) (w1 := (wc.setCell ⟨go18, ((ji8) : Int).toNat, none⟩ (.int .i64 (wrap64 ((wrap64 ((rd x0_1 (ji8)) - x8_1)) - (wrap64 (a3 * (rd l1 x9_1)))))))) ?hg ?ho ?hn ?hr ?_; (case ho => rfl); (case hg => rfl); (case hn => rfl); (case hr => first | (go_simp; done) | (go_simp; rfl)); intro w21 hw; have hg : wc.grownBy w21 (some go18) := (by rw [hw]; exact HP20.2); have hp_ : Kd.R (Kd.int .i64) 3 w21 w0.heap.size (fun k_ => (P0_ k_ ∨ w.heap.size ≤ k_)) (.slice (some ⟨go18, 0, none⟩) x0_1.length co19) y238 := (by rw [hw, Ny238.out]; exact HP20.1); clear HP20; have n0_ := Aside0.mk (hp_); have n1_ := Aside0.mk ((by rw [hw]; exact below_set (HB.out) GB18.out : Below w0.heap.size w0 w21)); have n2_ := Aside0.mk (Kept.of_grown (S := (fun k_ => P0_ k_)) hg (by repeat (first | (with_reducible first | exact HK.out | apply Kept.alloc | apply Kept.drewN | apply Kept.drew) | exact HK.out)) (fun k_ e_ => (HO_0.out.1 k_ e_))); clear HO_0; clear HB; clear HK; have HO_0 := n0_; have HB := n1_; have HK := n2_; clear n0_ n1_ n2_; clear hg hw hp_))
                      go_roundg kj4
                      case measure => have := HK1.out; have := HJ4.out; omega
                      case rel => exact ⟨(y238), (0), (wrap64 (x9_1 + 1)), (by first | rfl | (simp; done) | (simp [*]; done)), (by first | rfl | (simp; done) | (simp [*]; done)), H', ⟨by have := HK1.out; have := HJ4.out; omega⟩, ⟨by (with_reducible repeat (first | apply Kd.R_alloc | apply Kd.R_drewN | apply Kd.R_drew)); exact HO_0.out⟩, ⟨by repeat (first | (with_reducible first | exact HK.out | apply Kept.alloc | apply Kept.drewN | apply Kept.drew) | exact HK.out)⟩, ⟨by repeat (first | (with_reducible first | exact HB.out | apply below_alloc | apply pw_below_drewN | apply below_drew1) | exact HB.out)⟩⟩
                  · rw [if_neg c12] at H
                    exact absurd H (by simp)
                · rw [if_neg c11] at H
                  have c11b0 : decide (x9_1 < (l1.length : Int)) = false := decide_eq_false c11
                  clear c11
                  by_cases c22 : (wrap64 ((rd x0_1 (ji8)) - x8_1)) < 0
                  · rw [if_pos c22] at H
                    have c22b0 : decide ((wrap64 ((rd x0_1 (ji8)) - x8_1)) < 0) = true := decide_eq_true c22
                    clear c22
                    obtain ⟨y239, hy239⟩ : ∃ y_ : List Int, y_ = (x0_1.set ((ji8) : Int).toNat (wrap64 ((wrap64 ((rd x0_1 (ji8)) - x8_1)) + (wrap64 ((wrap64 (Int.tdiv (wrap64 ((wrap64 ((wrap64 (-(wrap64 ((rd x0_1 (ji8)) - x8_1)))) + 10000)) - 1)) 10000)) * 10000))))) := ⟨_, rfl⟩
                    replace H : (cubitref01_take.l0 kj4 y239 l1 a2 a3 (wrap64 (Int.tdiv (wrap64 ((wrap64 ((wrap64 (-(wrap64 ((rd x0_1 (ji8)) - x8_1)))) + 10000)) - 1)) 10000)) (wrap64 (x9_1 + 1))) = some r := by first | (rw [hy239]; with_reducible exact H) | (have H2_ := (Option.bind_some _ _).symm.trans H; rw [hy239]; with_reducible exact H2_) | (have H2_ := (Option.bind_some _ _).symm.trans H; with_reducible exact H2_) | with_reducible exact H | (rw [hy239]; exact H) | exact H
                    have Ny239 := Aside0.mk hy239
                    clear hy239
                    have H' := Aside0.mk H
                    clear H
                    obtain ⟨Ao24, co24, eo24⟩ := Kd.R_slice HO_0.out
                    subst eo24
                    have p235 : 0 ≤ ((ji8) : Int) := of_decide_eq_true (by first | (with_reducible assumption) | assumption)
                    have q235 : (ji8) < (x0_1.length : Int) := of_decide_eq_true (by first | (with_reducible assumption) | assumption)
                    obtain ⟨ad235, e235, hx235_0⟩ := Kd.at_int (Kd.R_reads' HO_0.out).2.2 (ji8) p235 q235
                    cases e235
                    replace p235 := eq_true p235
                    replace q235 := eq_true q235
                    have p23 : 0 ≤ ((ji8) : Int) := of_decide_eq_true (by first | (with_reducible assumption) | assumption)
                    have q23 : ((ji8) : Int) < ((x0_1.length : Int) : Int) := of_decide_eq_true (by first | (with_reducible assumption) | assumption)
                    obtain ⟨go23, co23, eo23, gb23, gl23, cl23, HG23⟩ := Kd.R_form HO_0.out (by omega)
                    (first | cases eo23 | (injection eo23 with ea_ en_ ec_; (first | subst ea_ | (injection ea_ with ea_; subst ea_)); subst ec_; clear en_))
                    have GB23 := Aside0.mk gb23
                    have GG23 := Aside0.mk HG23
                    clear gb23 gl23 HG23
                    have HMgo23 := Aside0.mk (show (P0_ go23 ∨ w.heap.size ≤ go23) from (HO_0.out.1 _ rfl))
                    (first | simp only [add_plain] at hx235_0 | skip)
                    obtain ⟨hx23_0, hf23_0⟩ := Kd.R_celln 0 HO_0.out ((ji8) : Int) p23 q23
                    replace p23 := eq_true p23
                    replace q23 := eq_true q23
                    have HP25 := Kd.R_putg HO_0.out ((ji8) : Int) (wrap64 ((wrap64 ((rd x0_1 (ji8)) - x8_1)) + (wrap64 ((wrap64 (Int.tdiv (wrap64 ((wrap64 ((wrap64 (-(wrap64 ((rd x0_1 (ji8)) - x8_1)))) + 10000)) - 1)) 10000)) * 10000))))
                    go_wp2_with (first | ((with_reducible refine gate_store (t := 3) (p := 57) rfl ?_); refine store_event (t := 3) (p := 57) (v := ?vo_w26) (w1 := (wc.setCell ⟨go23, ((ji8) : Int).toNat, none⟩ (.int .i64 (wrap64 ((wrap64 ((rd x0_1 (ji8)) - x8_1)) + (wrap64 ((wrap64 (Int.tdiv (wrap64 ((wrap64 ((wrap64 (-(wrap64 ((rd x0_1 (ji8)) - x8_1)))) + 10000)) - 1)) 10000)) * 10000))))))) ?hg ?ho ?hn ?hr ?_; (case ho => rfl); (case hg => rfl); (case hn => rfl); (case hr => first | (go_simp; done) | (go_simp; rfl)); intro w26 hw; have hg : wc.grownBy w26 (some go23) := (by rw [hw]; exact HP25.2); have hp_ : Kd.R (Kd.int .i64) 3 w26 w0.heap.size (fun k_ => (P0_ k_ ∨ w.heap.size ≤ k_)) (.slice (some ⟨go23, 0, none⟩) x0_1.length co24) y239 := (by rw [hw, Ny239.out]; exact HP25.1); clear HP25; have n0_ := Aside0.mk (hp_); have n1_ := Aside0.mk ((by rw [hw]; exact below_set (HB.out) GB23.out : Below w0.heap.size w0 w26)); have n2_ := Aside0.mk (Kept.of_grown (S := (fun k_ => P0_ k_)) hg (by repeat (first | (with_reducible first | exact HK.out | apply Kept.alloc | apply Kept.drewN | apply Kept.drew) | exact HK.out)) (fun k_ e_ => (HO_0.out.1 k_ e_))); clear HO_0; clear HB; clear HK; have HO_0 := n0_; have HB := n1_; have HK := n2_; clear n0_ n1_ n2_; clear hg hw hp_))
                    go_roundg kj4
                    case measure => have := HK1.out; have := HJ4.out; omega
                    case rel => exact ⟨(y239), (wrap64 (Int.tdiv (wrap64 ((wrap64 ((wrap64 (-(wrap64 ((rd x0_1 (ji8)) - x8_1)))) + 10000)) - 1)) 10000)), (wrap64 (x9_1 + 1)), (by first | rfl | (simp; done) | (simp only [← hji8] <;> (first | rfl | simp)) | (simp [*]; done)), (by first | rfl | (simp; done) | (simp [*]; done)), H', ⟨by have := HK1.out; have := HJ4.out; omega⟩, ⟨by (with_reducible repeat (first | apply Kd.R_alloc | apply Kd.R_drewN | apply Kd.R_drew)); exact HO_0.out⟩, ⟨by repeat (first | (with_reducible first | exact HK.out | apply Kept.alloc | apply Kept.drewN | apply Kept.drew) | exact HK.out)⟩, ⟨by repeat (first | (with_reducible first | exact HB.out | apply below_alloc | apply pw_below_drewN | apply below_drew1) | exact HB.out)⟩⟩
                  · rw [if_neg c22] at H
                    have c22b0 : decide ((wrap64 ((rd x0_1 (ji8)) - x8_1)) < 0) = false := decide_eq_false c22
                    clear c22
                    obtain ⟨y240, hy240⟩ : ∃ y_ : List Int, y_ = (x0_1.set ((ji8) : Int).toNat (wrap64 ((rd x0_1 (ji8)) - x8_1))) := ⟨_, rfl⟩
                    replace H : (cubitref01_take.l0 kj4 y240 l1 a2 a3 0 (wrap64 (x9_1 + 1))) = some r := by first | (rw [hy240]; with_reducible exact H) | (have H2_ := (Option.bind_some _ _).symm.trans H; rw [hy240]; with_reducible exact H2_) | (have H2_ := (Option.bind_some _ _).symm.trans H; with_reducible exact H2_) | with_reducible exact H | (rw [hy240]; exact H) | exact H
                    have Ny240 := Aside0.mk hy240
                    clear hy240
                    have H' := Aside0.mk H
                    clear H
                    obtain ⟨Ao28, co28, eo28⟩ := Kd.R_slice HO_0.out
                    subst eo28
                    have p235 : 0 ≤ ((ji8) : Int) := of_decide_eq_true (by first | (with_reducible assumption) | assumption)
                    have q235 : (ji8) < (x0_1.length : Int) := of_decide_eq_true (by first | (with_reducible assumption) | assumption)
                    obtain ⟨ad235, e235, hx235_0⟩ := Kd.at_int (Kd.R_reads' HO_0.out).2.2 (ji8) p235 q235
                    cases e235
                    replace p235 := eq_true p235
                    replace q235 := eq_true q235
                    have p27 : 0 ≤ ((ji8) : Int) := of_decide_eq_true (by first | (with_reducible assumption) | assumption)
                    have q27 : ((ji8) : Int) < ((x0_1.length : Int) : Int) := of_decide_eq_true (by first | (with_reducible assumption) | assumption)
                    obtain ⟨go27, co27, eo27, gb27, gl27, cl27, HG27⟩ := Kd.R_form HO_0.out (by omega)
                    (first | cases eo27 | (injection eo27 with ea_ en_ ec_; (first | subst ea_ | (injection ea_ with ea_; subst ea_)); subst ec_; clear en_))
                    have GB27 := Aside0.mk gb27
                    have GG27 := Aside0.mk HG27
                    clear gb27 gl27 HG27
                    have HMgo27 := Aside0.mk (show (P0_ go27 ∨ w.heap.size ≤ go27) from (HO_0.out.1 _ rfl))
                    (first | simp only [add_plain] at hx235_0 | skip)
                    obtain ⟨hx27_0, hf27_0⟩ := Kd.R_celln 0 HO_0.out ((ji8) : Int) p27 q27
                    replace p27 := eq_true p27
                    replace q27 := eq_true q27
                    have HP29 := Kd.R_putg HO_0.out ((ji8) : Int) (wrap64 ((rd x0_1 (ji8)) - x8_1))
                    go_wp2_with (first | ((with_reducible refine gate_store (t := 3) (p := 57) rfl ?_); refine store_event (t := 3) (p := 57) (v := ?vo_w30) (w1 := (wc.setCell ⟨go27, ((ji8) : Int).toNat, none⟩ (.int .i64 (wrap64 ((rd x0_1 (ji8)) - x8_1))))) ?hg ?ho ?hn ?hr ?_; (case ho => rfl); (case hg => rfl); (case hn => rfl); (case hr => first | (go_simp; done) | (go_simp; rfl)); intro w30 hw; have hg : wc.grownBy w30 (some go27) := (by rw [hw]; exact HP29.2); have hp_ : Kd.R (Kd.int .i64) 3 w30 w0.heap.size (fun k_ => (P0_ k_ ∨ w.heap.size ≤ k_)) (.slice (some ⟨go27, 0, none⟩) x0_1.length co28) y240 := (by rw [hw, Ny240.out]; exact HP29.1); clear HP29; have n0_ := Aside0.mk (hp_); have n1_ := Aside0.mk ((by rw [hw]; exact below_set (HB.out) GB27.out : Below w0.heap.size w0 w30)); have n2_ := Aside0.mk (Kept.of_grown (S := (fun k_ => P0_ k_)) hg (by repeat (first | (with_reducible first | exact HK.out | apply Kept.alloc | apply Kept.drewN | apply Kept.drew) | exact HK.out)) (fun k_ e_ => (HO_0.out.1 k_ e_))); clear HO_0; clear HB; clear HK; have HO_0 := n0_; have HB := n1_; have HK := n2_; clear n0_ n1_ n2_; clear hg hw hp_))
                    go_roundg kj4
                    case measure => have := HK1.out; have := HJ4.out; omega
                    case rel => exact ⟨(y240), (0), (wrap64 (x9_1 + 1)), (by first | rfl | (simp; done) | (simp [*]; done)), (by first | rfl | (simp; done) | (simp [*]; done)), H', ⟨by have := HK1.out; have := HJ4.out; omega⟩, ⟨by (with_reducible repeat (first | apply Kd.R_alloc | apply Kd.R_drewN | apply Kd.R_drew)); exact HO_0.out⟩, ⟨by repeat (first | (with_reducible first | exact HK.out | apply Kept.alloc | apply Kept.drewN | apply Kept.drew) | exact HK.out)⟩, ⟨by repeat (first | (with_reducible first | exact HB.out | apply below_alloc | apply pw_below_drewN | apply below_drew1) | exact HB.out)⟩⟩
              · rw [if_neg c10] at H
                exact absurd H (by simp)
            · rw [if_neg c9] at H
              exact absurd H (by simp)
          · replace c7 := Bool.eq_false_iff.mpr c7
            subst c7
            have H1 : (some x0_1) = some r := by rw [if_neg (show ¬ (false = true) by decide)] at H; exact H
            clear H
            have H := H1
            clear H1
            obtain rfl := Option.some.inj H
            go_wp2
            first | go_end0 | ((try simp only [Exit.inBlock, Exit.then]); refine bodyPost_ret (results_none rfl _ _ _) rfl ?_)
            exact ⟨by first | rfl | (simp [errW_none, errW_some] <;> rfl) | (simp [*, errW_none, errW_some] <;> rfl), by (with_reducible repeat (first | apply Kd.R_alloc | apply Kd.R_drewN | apply Kd.R_drew)); exact HO_0.out, by repeat (first | (with_reducible first | exact HB.out | apply below_alloc | apply pw_below_drewN | apply below_drew1) | exact HB.out), by repeat (first | (with_reducible first | exact HK.out | apply Kept.alloc | apply Kept.drewN | apply Kept.drew) | exact HK.out)⟩
end Go.Proofs.YthbdjmopolpjmaaGreatDoor.F
end
section
set_option linter.unusedVariables false
set_option linter.unusedSimpArgs false
namespace Go.Proofs.YthbdjmopolpjmaaGreatDoor.C
open Go.RowKit Go.Proofs.YthbdjmopolpjmaaGreatDoorW.PrintWords Go.Proofs.YthbdjmopolpjmaaGreatDoorW.PrintLast Go.Proofs.YthbdjmopolpjmaaGreatDoorW.PrintMore Go.Proofs.YthbdjmopolpjmaaGreatDoor.F Go.Proofs.YthbdjmopolpjmaaGreatDoor.M
attribute [local go_sem] max2_int min2_int max_two min_two max_three min_three max_four min_four
def Rb (W : World) (base : Nat) (v : Value) (xs : List Int) : Prop := Kd.R (Kd.int .u8) 5 W base (fun k => base ≤ k) v xs
theorem bytesOf_strOfNums (xs : List Int) (h : ∀ x ∈ xs, 0 ≤ x ∧ x < 256) : bytesOf (strOfNums xs) = xs := by
  have e : (xs.map fun x => UInt8.ofNat x.toNat).map (fun b => (b.toNat : Int)) = xs := by
    rw [List.map_map]
    have : ∀ x ∈ xs, ((fun b : UInt8 => (b.toNat : Int)) ∘ fun x : Int => UInt8.ofNat x.toNat) x = x := fun x hx => by
      have := h x hx
      simp only [Function.comp, UInt8.toNat_ofNat']
      omega
    exact (List.map_congr_left this).trans (List.map_id _)
  have h1 : strOfNums ((xs.map fun x => UInt8.ofNat x.toNat).map fun b => (b.toNat : Int)) = ⟨(xs.map fun x => UInt8.ofNat x.toNat).toArray⟩ := by
    unfold strOfNums
    congr 2
    rw [List.map_map]
    have h2 : ∀ b ∈ (xs.map fun x => UInt8.ofNat x.toNat), ((fun i : Int => UInt8.ofNat i.toNat) ∘ fun b : UInt8 => (b.toNat : Int)) b = b := fun b _ => by simp
    exact (List.map_congr_left h2).trans (List.map_id _)
  rw [e] at h1
  rw [h1]
  exact e
end Go.Proofs.YthbdjmopolpjmaaGreatDoor.C
end
section
set_option linter.unusedVariables false
set_option linter.unusedSimpArgs false
namespace Go.Proofs.YthbdjmopolpjmaaGreatDoor.C
open Go.RowKit Go.Proofs.YthbdjmopolpjmaaGreatDoorW.PrintWords Go.Proofs.YthbdjmopolpjmaaGreatDoorW.PrintLast Go.Proofs.YthbdjmopolpjmaaGreatDoorW.PrintMore Go.Proofs.YthbdjmopolpjmaaGreatDoor.F Go.Proofs.YthbdjmopolpjmaaGreatDoor.M
attribute [local go_sem] max2_int min2_int max_two min_two max_three min_three max_four min_four
def Rg (W : World) (base g n c : Nat) (xs : List Int) : Prop := xs.length = n ∧ base ≤ g ∧ g < W.heap.size ∧ Kd.R (Kd.int .i64) 3 W base (fun k => k = g) (.slice (some ⟨g, 0, none⟩) n c) xs
theorem Rg.of {W : World} {base b : Nat} {v : Value} {xs : List Int} (h : Rn W b v xs) (hb : base ≤ b) (hn : xs ≠ []) : ∃ g c, v = .slice (some ⟨g, 0, none⟩) xs.length c ∧ b ≤ g ∧ Rg W base g xs.length c xs := by
  obtain ⟨g, c, rfl, h1, h2, _⟩ := Kd.R_form h (List.length_pos_iff.2 hn)
  exact ⟨g, c, rfl, h1, rfl, by omega, h2, Kd.R_mono (Kd.R_lower (Kd.R_tight rfl h) hb) (fun k hk => by simpa [Value.ownBlock] using hk)⟩
theorem Rg.keep {W W1 : World} {base g n c : Nat} {xs : List Int} (h : Rg W base g n c xs) (hs : W.heap.size ≤ W1.heap.size) (hg : W1.heap[g]? = W.heap[g]?) : Rg W1 base g n c xs :=
  ⟨h.1, h.2.1, Nat.lt_of_lt_of_le h.2.2.1 hs, Kd.R_step h.2.2.2 (fun k hk _ => by subst hk; exact hg)⟩
theorem Rg.below {W W1 : World} {base g n c : Nat} {xs : List Int} (h : Rg W base g n c xs) (hb : Below W.heap.size W W1) : Rg W1 base g n c xs := h.keep hb.size (hb.block g h.2.2.1)
theorem Rg.C {W : World} {base g n c : Nat} {xs : List Int} (h : Rg W base g n c xs) : (Kd.int .i64).C W (some ⟨g, 0, none⟩) xs.length xs ∧ xs.length ≤ c := by
  have h1 := Kd.R_reads' h.2.2.2
  have hl := h.1
  exact ⟨h1.2.2, by omega⟩
theorem Rg.cell {W : World} {base g n c : Nat} {xs : List Int} (h : Rg W base g n c xs) (i : Int) (h0 : 0 ≤ i) (h1 : i < n) : W.cell? ⟨g, i.toNat, none⟩ = some (.int .i64 (rd xs i)) ∧ W.frozen? ⟨g, i.toNat, none⟩ = false := Kd.R_celln (0 : Int) h.2.2.2 i h0 h1
theorem Rg.put {W : World} {base g n c : Nat} {xs : List Int} (h : Rg W base g n c xs) (i v : Int) : Rg (W.setCell ⟨g, i.toNat, none⟩ (.int .i64 v)) base g n c (xs.set i.toNat v) :=
  ⟨by rw [List.length_set]; exact h.1, h.2.1, by simpa using h.2.2.1, Kd.R_putn h.2.2.2 i v⟩
end Go.Proofs.YthbdjmopolpjmaaGreatDoor.C
end
section
set_option linter.unusedVariables false
set_option linter.unusedSimpArgs false
namespace Go.Proofs.YthbdjmopolpjmaaGreatDoor.C
open Go.RowKit Go.Proofs.YthbdjmopolpjmaaGreatDoorW.PrintWords Go.Proofs.YthbdjmopolpjmaaGreatDoorW.PrintLast Go.Proofs.YthbdjmopolpjmaaGreatDoorW.PrintMore Go.Proofs.YthbdjmopolpjmaaGreatDoor.F Go.Proofs.YthbdjmopolpjmaaGreatDoor.M
set_option maxHeartbeats 400000 in
theorem clone_u32 (A : Option Addr) (c : Nat) (xs : List Int) (w : World) (hC : Kd.C (Kd.int .u32) w A xs.length xs) (hl : xs.length ≤ 35184372088831) :
    Calls Tryz.prog 161 #[.slice A xs.length c] w fun e w' => ∃ A' c', e = .returned (.slice A' xs.length c') ∧ xs.length ≤ c' ∧ U w' A' xs ∧ Below w.heap.size w w' := by
  have hnil := fun (w : World) (a : Option Addr) (n c : Nat) => Lib.run_eql_slice_nil (P := Tryz.prog) w 171 131 a n c 0 0 Tryz.underlying171
  have HC := Aside0.mk hC
  have HL := Aside0.mk hl
  clear hC hl
  cases A with
  | none =>
    have hx : xs = [] := by
      have h := HC.out.2.2
      rcases Nat.eq_zero_or_pos xs.length with h0 | h0
      · exact List.eq_nil_of_length_eq_zero h0
      · obtain ⟨ad, e, _⟩ := h h0; cases e
    subst hx
    go_enter Tryz.func161, Tryz.ntmps161
    go_wp2
    go_ret
    exact ⟨none, 0, rfl, Nat.le_refl _, U.nil _, Below.refl _ _⟩
  | some ad =>
    have HR := Aside0.mk (show Kd.R (Kd.int .u32) 131 (w.alloc (.cells #[] 131)) w.heap.size (fun _ => True) (.slice (some ⟨w.heap.size, 0, none⟩) 0 0) [] from
      Kd.R_of_own (by simpa [encs, nums] using own_lit w w.heap.size 131 .u32 [] (Nat.le_refl _) (by simp)) (fun _ _ => trivial))
    have HC1 := Aside0.mk (Kd.C_below HC.out (below_alloc (Below.refl _ _) (.cells #[] 131)))
    have HB1 := Aside0.mk (below_alloc (Below.refl w.heap.size w) (.cells #[] 131))
    go_enter Tryz.func161, Tryz.ntmps161
    go_wp2_with ((with_reducible refine gate_builtin (b := .append) (xs := #[.tmp 5, .tmp 6]) rfl ?_); at_builtin; refine Kd.R_append_row (Value.int .u32) (0 : Int) (w0 := w) w.heap.size rfl (.tmp 5) (.tmp 6) 171 131 (.int .u32 0) 4 rfl Tryz.underlying171 info131 rfl (by decide) (.slice (some ⟨w.heap.size, 0, none⟩) 0 0) [] xs (some ad) xs.length c (fun _ => True) rfl rfl (fun _ _ => trivial) HR.out HC1.out HB1.out (by simp) (by have := HL.out; simp; omega) ?_; intro v1 w1 hR1 hB1 hg1 hat1; clear HR HC1 HB1)
    go_ret
    obtain ⟨A', c', rfl, h1, h2⟩ := U.of_R hR1
    exact ⟨A', c', rfl, h1, h2, hB1⟩
set_option maxHeartbeats 8000000 in
set_option maxRecDepth 100000 in
theorem trim_call (k : Nat) (A0 : Option Addr) (c0 : Nat) (l0 : List Int) (r : List Int) (w : World) (hC0 : Kd.C (Kd.int .u32) w A0 l0.length l0) (hc0 : l0.length ≤ c0) (h : ample_trim.f k l0 = some r) :
    Calls Tryz.prog 206 #[.slice A0 l0.length c0] w fun e w' => e = .returned (.slice A0 r.length c0) ∧ Below w.heap.size w w' := by
  have HO0 := Aside0.mk hC0
  have HC0 := Aside0.mk hc0
  have HB := Aside0.mk (Below.refl w.heap.size w)
  have H' := Aside0.mk (show ample_trim.l0 k l0 = some r from h)
  clear h hC0 hc0
  go_enter Tryz.func206, Tryz.ntmps206
  go_wp2
  go_loopg [0] k (fun kq v0 w' => ∃ (x0_1 : List Int), v0 = .slice A0 x0_1.length c0 ∧ Aside0 (ample_trim.l0 kq x0_1 = some r) ∧ Aside0 (kq ≤ k) ∧ Aside0 (Kd.C (Kd.int .u32) w' A0 x0_1.length x0_1) ∧ Aside0 (x0_1.length ≤ c0) ∧ Aside0 (Below w.heap.size w w'))
  case atStart => exact ⟨l0, rfl, H', ⟨Nat.le_refl _⟩, HO0, HC0, HB⟩
  case round =>
    clear H' HO0
    obtain ⟨x0_1, rfl, HA, HK1, HO_0, HC_0, HB⟩ := hrel
    cases gk with
    | zero => exact absurd HA.out (by simp [ample_trim.l0])
    | succ k1 =>
      have H := HA.out
      clear HA
      simp only [ample_trim.l0] at H
      by_cases c2 : (x0_1.length : Int) > 0
      · rw [if_pos c2] at H
        have c2b0 : decide (0 < (x0_1.length : Int)) = true := decide_eq_true c2
        have c2b1 : decide (0 < x0_1.length) = true := decide_eq_true (by omega)
        have hmax := Kd.C_max HO_0.out
        have hw : wrap64 ((x0_1.length : Int) - 1) = (x0_1.length : Int) - 1 := w64 (by omega) (by omega)
        rw [hw, if_pos (by omega), if_pos (by omega)] at H
        obtain ⟨ji3, hji3⟩ : ∃ j_ : Int, (x0_1.length : Int) - 1 = j_ := ⟨_, rfl⟩
        rw [hji3] at H
        have hji3w : (IntKind.i64.wrap ((x0_1.length : Int) - 1)) = ji3 := (i64_w _).trans (hw.trans hji3)
        have hji3' : wrap64 ((x0_1.length : Int) - 1) = ji3 := hw.trans hji3
        have p146 : 0 ≤ ji3 := by omega
        have q146 : ji3 < (x0_1.length : Int) := by omega
        have hjle : ji3 ≤ (x0_1.length : Int) := by omega
        have Hji := Aside0.mk hji3
        clear c2 hmax hw hji3
        obtain ⟨ad146, e146, hx146_0⟩ := Kd.at_int HO_0.out ji3 p146 q146
        cases e146
        by_cases c6 : (rd x0_1 ji3) = 0
        · rw [if_pos c6, if_pos hjle] at H
          have c6b0 : ((rd x0_1 (ji3)) == 0) = true := beq_iff_eq.mpr c6
          have c6b1 : ((rd x0_1 (ji3)) != 0) = false := bne_eq_false_iff_eq.mpr c6
          clear c6
          obtain ⟨y147, hy147⟩ : ∃ y_ : List Int, y_ = (x0_1.take (ji3 : Int).toNat) := ⟨_, rfl⟩
          rw [← hy147] at H
          have Ny147 := Aside0.mk hy147
          clear hy147
          have H' := Aside0.mk H
          clear H
          obtain ⟨i010, hi010, _, hsz10, _⟩ := info_parts info131
          have hcut10 := cut_to (P := Tryz.prog) 171 131 .i64 Tryz.underlying171 hi010 (some ad146) x0_1.length c0 ji3 p146 hjle HC_0.out
          have hr10 := Aside0.mk (Kd.C_take HO_0.out (m := ji3.toNat) (by omega))
          have hy10 : y147.length = (ji3 : Int).toNat := (by rw [Ny147.out, List.length_take]; omega)
          rw [← Ny147.out] at hr10
          rw [← hy10] at hcut10
          have HC151 := Aside0.mk (show y147.length ≤ c0 from by have := HC_0.out; omega)
          have KY10 := Aside0.mk hy10
          clear hy10 hi010 hsz10
          replace p146 := eq_true p146
          replace q146 := eq_true q146
          replace hjle := eq_true hjle
          go_wp2
          go_roundg k1
          case measure => have := HK1.out; omega
          case rel => exact ⟨y147, rfl, H', ⟨by have := HK1.out; omega⟩, hr10, HC151, HB⟩
        · rw [if_neg c6] at H
          have c6b0 : ((rd x0_1 (ji3)) == 0) = false := beq_eq_false_iff_ne.mpr c6
          have c6b1 : ((rd x0_1 (ji3)) != 0) = true := bne_iff_ne.mpr c6
          obtain rfl := Option.some.inj H
          clear hjle
          replace p146 := eq_true p146
          replace q146 := eq_true q146
          go_wp2
          go_ret
          exact ⟨rfl, HB.out⟩
      · rw [if_neg c2] at H
        have c2b0 : decide (0 < (x0_1.length : Int)) = false := decide_eq_false c2
        have c2b1 : decide (0 < x0_1.length) = false := decide_eq_false (by omega)
        clear c2
        obtain rfl := Option.some.inj H
        go_wp2
        go_ret
        exact ⟨rfl, HB.out⟩
end Go.Proofs.YthbdjmopolpjmaaGreatDoor.C
end
section
set_option linter.unusedVariables false
set_option linter.unusedSimpArgs false
namespace Go.Proofs.YthbdjmopolpjmaaGreatDoor.C
open Go.RowKit Go.Proofs.YthbdjmopolpjmaaGreatDoorW.PrintWords Go.Proofs.YthbdjmopolpjmaaGreatDoorW.PrintLast Go.Proofs.YthbdjmopolpjmaaGreatDoorW.PrintMore Go.Proofs.YthbdjmopolpjmaaGreatDoor.F Go.Proofs.YthbdjmopolpjmaaGreatDoor.M
set_option maxHeartbeats 8000000 in
set_option maxRecDepth 100000 in
theorem put_call (k g o : Nat) (neg : Bool) (A0 : Option Addr) (c0 : Nat) (l0 : List Int) (r : List Int) (w : World) (v0 v1 : Value) (hx0 : w.cell? ⟨g, o, none⟩ = some v0) (hx1 : w.cell? ⟨g, o + 1, none⟩ = some v1) (hf0 : w.frozen? ⟨g, o, none⟩ = false) (hf1 : w.frozen? ⟨g, o + 1, none⟩ = false)
    (hC0 : Kd.C (Kd.int .u32) w A0 l0.length l0) (hc0 : l0.length ≤ c0) (h : ample_trim.f k l0 = some r) :
    Calls Tryz.prog 160 #[.pointer (some ⟨g, o, none⟩), .bool neg, .slice A0 l0.length c0] w fun e w' => e = .returned (.pointer (some ⟨g, o, none⟩)) ∧ w' = (w.setCell ⟨g, o, none⟩ (.bool (neg && !r.isEmpty))).setCell ⟨g, o + 1, none⟩ (.slice A0 r.length c0) := by
  have HO0 := Aside0.mk hC0
  have HC0 := Aside0.mk hc0
  have H' := Aside0.mk (show ample_trim.l0 k l0 = some r from h)
  clear h hC0 hc0
  go_enter Tryz.func160, Tryz.ntmps160
  go_wp2
  go_loopg [2] k (fun kq v2 w' => ∃ (x0_1 : List Int), v2 = .slice A0 x0_1.length c0 ∧ w' = w ∧ Aside0 (ample_trim.l0 kq x0_1 = some r) ∧ Aside0 (kq ≤ k) ∧ Aside0 (Kd.C (Kd.int .u32) w A0 x0_1.length x0_1) ∧ Aside0 (x0_1.length ≤ c0))
  case atStart => exact ⟨l0, rfl, rfl, H', ⟨Nat.le_refl _⟩, HO0, HC0⟩
  case round =>
    clear H' HO0
    obtain ⟨x0_1, rfl, rfl, HA, HK1, HO_0, HC_0⟩ := hrel
    cases gk with
    | zero => exact absurd HA.out (by simp [ample_trim.l0])
    | succ k1 =>
      have H := HA.out
      clear HA
      simp only [ample_trim.l0] at H
      by_cases c2 : (x0_1.length : Int) > 0
      · rw [if_pos c2] at H
        have c2b0 : decide (0 < (x0_1.length : Int)) = true := decide_eq_true c2
        have c2b1 : decide (0 < x0_1.length) = true := decide_eq_true (by omega)
        have hmax := Kd.C_max HO_0.out
        have hw : wrap64 ((x0_1.length : Int) - 1) = (x0_1.length : Int) - 1 := w64 (by omega) (by omega)
        rw [hw, if_pos (by omega), if_pos (by omega)] at H
        obtain ⟨ji3, hji3⟩ : ∃ j_ : Int, (x0_1.length : Int) - 1 = j_ := ⟨_, rfl⟩
        rw [hji3] at H
        have hji3w : (IntKind.i64.wrap ((x0_1.length : Int) - 1)) = ji3 := (i64_w _).trans (hw.trans hji3)
        have hji3' : wrap64 ((x0_1.length : Int) - 1) = ji3 := hw.trans hji3
        have p146 : 0 ≤ ji3 := by omega
        have q146 : ji3 < (x0_1.length : Int) := by omega
        have hjle : ji3 ≤ (x0_1.length : Int) := by omega
        have hne : x0_1.isEmpty = false := by cases x0_1 with | nil => simp at c2 | cons _ _ => rfl
        have Hne := Aside0.mk hne
        have Hji := Aside0.mk hji3
        clear c2 hmax hw hji3 hne
        obtain ⟨ad146, e146, hx146_0⟩ := Kd.at_int HO_0.out ji3 p146 q146
        cases e146
        by_cases c6 : (rd x0_1 ji3) = 0
        · rw [if_pos c6, if_pos hjle] at H
          have c6b0 : ((rd x0_1 (ji3)) == 0) = true := beq_iff_eq.mpr c6
          have c6b1 : ((rd x0_1 (ji3)) != 0) = false := bne_eq_false_iff_eq.mpr c6
          clear c6
          obtain ⟨y147, hy147⟩ : ∃ y_ : List Int, y_ = (x0_1.take (ji3 : Int).toNat) := ⟨_, rfl⟩
          rw [← hy147] at H
          have Ny147 := Aside0.mk hy147
          clear hy147
          have H' := Aside0.mk H
          clear H
          obtain ⟨i010, hi010, _, hsz10, _⟩ := info_parts info131
          have hcut10 := cut_to (P := Tryz.prog) 171 131 .i64 Tryz.underlying171 hi010 (some ad146) x0_1.length c0 ji3 p146 hjle HC_0.out
          have hr10 := Aside0.mk (Kd.C_take HO_0.out (m := ji3.toNat) (by omega))
          have hy10 : y147.length = (ji3 : Int).toNat := (by rw [Ny147.out, List.length_take]; omega)
          rw [← Ny147.out] at hr10
          rw [← hy10] at hcut10
          have HC151 := Aside0.mk (show y147.length ≤ c0 from by have := HC_0.out; omega)
          have KY10 := Aside0.mk hy10
          clear hy10 hi010 hsz10
          replace p146 := eq_true p146
          replace q146 := eq_true q146
          replace hjle := eq_true hjle
          go_wp2
          go_roundg k1
          case measure => have := HK1.out; omega
          case rel => exact ⟨y147, rfl, rfl, H', ⟨by have := HK1.out; omega⟩, hr10, HC151⟩
        · rw [if_neg c6] at H
          have c6b0 : ((rd x0_1 (ji3)) == 0) = false := beq_eq_false_iff_ne.mpr c6
          have c6b1 : ((rd x0_1 (ji3)) != 0) = true := bne_iff_ne.mpr c6
          obtain rfl := Option.some.inj H
          clear hjle
          replace p146 := eq_true p146
          replace q146 := eq_true q146
          cases neg
          · go_wp2
            go_ret
            exact ⟨rfl, by simp⟩
          · go_wp2
            go_ret
            exact ⟨rfl, by simp [Hne.out]⟩
      · rw [if_neg c2] at H
        have c2b0 : decide (0 < (x0_1.length : Int)) = false := decide_eq_false c2
        have c2b1 : decide (0 < x0_1.length) = false := decide_eq_false (by omega)
        have hne : x0_1.isEmpty = true := by cases x0_1 with | nil => rfl | cons _ _ => simp at c2; try omega
        have Hne := Aside0.mk hne
        clear c2 hne
        obtain rfl := Option.some.inj H
        cases neg
        · go_wp2
          go_ret
          exact ⟨rfl, by simp⟩
        · go_wp2
          go_ret
          exact ⟨rfl, by simp [Hne.out]⟩
theorem below_ne_chg {w : World} {g : Nat} (p q : Addr) (hp : p.block = g) (hq : q.block = g) (v u : Value) : Chg (· = g) w ((w.setCell p v).setCell q u) :=
  ((Chg.refl _ w).setCell p (.inl hp) v).setCell q (.inl hq) u
theorem put_int (g : Nat) (neg : Bool) (A0 : Option Addr) (c0 : Nat) (xs : List Int) (w : World) (v0 v1 : Value) (hb : w.heap[g]? = some (.cells #[v0, v1] 173 (0, 0))) (hU : U w A0 xs) (hc0 : xs.length ≤ c0) (hd : Dig 4294967296 xs) (hl : xs.length ≤ 1000000) :
    ∃ r, Wd r ∧ val 4294967296 r = val 4294967296 xs ∧ Calls Tryz.prog 160 #[.pointer (some ⟨g, 0, none⟩), .bool neg, .slice A0 xs.length c0] w fun e w' => e = .returned (.pointer (some ⟨g, 0, none⟩)) ∧ IntB w' g (neg && !r.isEmpty) r ∧ Chg (· = g) w w' := by
  obtain ⟨n, hn, ht, hv, he⟩ := trim_tells 4294967296 xs (by omega)
  obtain ⟨k, hk⟩ := he.rounds
  have hlen : (xs.take n).length = n := by rw [List.length_take]; omega
  refine ⟨xs.take n, ⟨dig_take hd n, ht, by omega⟩, hv, (put_call k g 0 neg A0 c0 xs _ w v0 v1 ((blk_cell hb 0).trans rfl) ((blk_cell hb 1).trans rfl) (blk_frozen hb 0) (blk_frozen hb 1) hU.now hc0 hk).mono fun e w' ⟨he, hw⟩ => ?_⟩
  subst hw
  have hch := below_ne_chg (w := w) (g := g) ⟨g, 0, none⟩ ⟨g, 0 + 1, none⟩ rfl rfl (.bool (neg && !(xs.take n).isEmpty)) (.slice A0 (xs.take n).length c0)
  refine ⟨he, ⟨A0, c0, ?_, by omega, (hU.chg hch (fun k hk _ => by subst hk; exact ty_ne hb (by decide))).take hn⟩, hch⟩
  have h1 := blk_set hb 0 (.bool (neg && !(xs.take n).isEmpty))
  have h2 := blk_set h1 1 (.slice A0 (xs.take n).length c0)
  simpa using h2
end Go.Proofs.YthbdjmopolpjmaaGreatDoor.C
end
