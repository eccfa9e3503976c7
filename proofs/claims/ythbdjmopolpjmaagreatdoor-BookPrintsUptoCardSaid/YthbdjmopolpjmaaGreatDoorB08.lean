/- Part 8 of the proof: FCubitref01Take, MRef. -/
import Derived.Test.YthbdjmopolpjmaaGreatDoorB00
import Derived.Test.YthbdjmopolpjmaaGreatDoorB01
import Derived.Test.YthbdjmopolpjmaaGreatDoorB02
import Derived.Test.YthbdjmopolpjmaaGreatDoorB03
import Derived.Test.YthbdjmopolpjmaaGreatDoorB04
import Derived.Test.YthbdjmopolpjmaaGreatDoorB05
import Derived.Test.YthbdjmopolpjmaaGreatDoorB06
import Derived.Test.YthbdjmopolpjmaaGreatDoorB07
section
namespace Go.Proofs.YthbdjmopolpjmaaGreatDoor.F
open Go.RowKit Go.Proofs.YthbdjmopolpjmaaGreatDoorW.PrintWords Go.Proofs.YthbdjmopolpjmaaGreatDoorW.PrintLast Go.Proofs.YthbdjmopolpjmaaGreatDoorW.PrintMore
attribute [local go_sem] max2_int min2_int max_two min_two max_three min_three max_four min_four
set_option linter.unusedVariables false
set_option linter.unusedSimpArgs false
mutual
def cubitref01_take.l0 : Nat → List Int → List Int → Int → Int → Int → Int → Option (List Int)
  | 0, _, _, _, _, _, _ => none
  | k + 1, x0, x1, x2, x3, x8, x9 => if x9 < (x1.length : Int) then (cubitref01_take.j1 k x0 x1 x2 x3 x8 x9 true) else (cubitref01_take.j1 k x0 x1 x2 x3 x8 x9 (decide (x8 > 0)))
def cubitref01_take.j1 : Nat → List Int → List Int → Int → Int → Int → Int → Bool → Option (List Int)
  | 0, _, _, _, _, _, _, _ => none
  | k + 1, x0, x1, x2, x3, x8, x9, x18 => if x18 = true then (if 0 ≤ (wrap64 (x2 + x9)) then (if (wrap64 (x2 + x9)) < (x0.length : Int) then (if x9 < (x1.length : Int) then (if 0 ≤ x9 then (if (wrap64 ((wrap64 ((rd x0 (wrap64 (x2 + x9))) - x8)) - (wrap64 (x3 * (rd x1 x9))))) < 0 then (cubitref01_take.l0 k (x0.set ((wrap64 (x2 + x9)) : Int).toNat (wrap64 ((wrap64 ((wrap64 ((rd x0 (wrap64 (x2 + x9))) - x8)) - (wrap64 (x3 * (rd x1 x9))))) + (wrap64 ((wrap64 (Int.tdiv (wrap64 ((wrap64 ((wrap64 (-(wrap64 ((wrap64 ((rd x0 (wrap64 (x2 + x9))) - x8)) - (wrap64 (x3 * (rd x1 x9))))))) + 10000)) - 1)) 10000)) * 10000))))) x1 x2 x3 (wrap64 (Int.tdiv (wrap64 ((wrap64 ((wrap64 (-(wrap64 ((wrap64 ((rd x0 (wrap64 (x2 + x9))) - x8)) - (wrap64 (x3 * (rd x1 x9))))))) + 10000)) - 1)) 10000)) (wrap64 (x9 + 1))) else (cubitref01_take.l0 k (x0.set ((wrap64 (x2 + x9)) : Int).toNat (wrap64 ((wrap64 ((rd x0 (wrap64 (x2 + x9))) - x8)) - (wrap64 (x3 * (rd x1 x9)))))) x1 x2 x3 0 (wrap64 (x9 + 1)))) else (none)) else (if (wrap64 ((rd x0 (wrap64 (x2 + x9))) - x8)) < 0 then (cubitref01_take.l0 k (x0.set ((wrap64 (x2 + x9)) : Int).toNat (wrap64 ((wrap64 ((rd x0 (wrap64 (x2 + x9))) - x8)) + (wrap64 ((wrap64 (Int.tdiv (wrap64 ((wrap64 ((wrap64 (-(wrap64 ((rd x0 (wrap64 (x2 + x9))) - x8)))) + 10000)) - 1)) 10000)) * 10000))))) x1 x2 x3 (wrap64 (Int.tdiv (wrap64 ((wrap64 ((wrap64 (-(wrap64 ((rd x0 (wrap64 (x2 + x9))) - x8)))) + 10000)) - 1)) 10000)) (wrap64 (x9 + 1))) else (cubitref01_take.l0 k (x0.set ((wrap64 (x2 + x9)) : Int).toNat (wrap64 ((rd x0 (wrap64 (x2 + x9))) - x8))) x1 x2 x3 0 (wrap64 (x9 + 1))))) else (none)) else (none)) else (some x0)
end
def cubitref01_take.f (k : Nat) (l0 : List Int) (l1 : List Int) (a2 : Int) (a3 : Int) : Option (List Int) := cubitref01_take.l0 k l0 l1 a2 a3 0 0
theorem cubitref01_take.mono_l : ∀ k, (∀ y0 y1 y2 y3 y4 y5, LeO (cubitref01_take.l0 k y0 y1 y2 y3 y4 y5) (cubitref01_take.l0 (k + 1) y0 y1 y2 y3 y4 y5)) ∧ (∀ y0 y1 y2 y3 y4 y5 y6, LeO (cubitref01_take.j1 k y0 y1 y2 y3 y4 y5 y6) (cubitref01_take.j1 (k + 1) y0 y1 y2 y3 y4 y5 y6))
  | 0 => ⟨fun _ _ _ _ _ _ r h => by simp [cubitref01_take.l0] at h, fun _ _ _ _ _ _ _ r h => by simp [cubitref01_take.j1] at h⟩
  | k + 1 => by
    obtain ⟨ih0, ih1⟩ := cubitref01_take.mono_l k
    refine ⟨?_, ?_⟩
    · intro y0 y1 y2 y3 y4 y5
      unfold cubitref01_take.l0
      repeat' first
      | (with_reducible exact ih0 _ _ _ _ _ _)
      | (with_reducible exact ih1 _ _ _ _ _ _ _)
      | (with_reducible exact LeO.refl _)
      | (with_reducible exact LeO.none _)
      | (with_reducible refine LeO.ite ?_ ?_)
      | (with_reducible refine LeO.bind ?_ (fun _ => ?_))
      | exact ih0 _ _ _ _ _ _
      | exact ih1 _ _ _ _ _ _ _
      | exact LeO.none _
      | refine LeO.ite ?_ ?_
      | refine LeO.bind ?_ (fun _ => ?_)
    · intro y0 y1 y2 y3 y4 y5 y6
      unfold cubitref01_take.j1
      repeat' first
      | (with_reducible exact ih0 _ _ _ _ _ _)
      | (with_reducible exact ih1 _ _ _ _ _ _ _)
      | (with_reducible exact LeO.refl _)
      | (with_reducible exact LeO.none _)
      | (with_reducible refine LeO.ite ?_ ?_)
      | (with_reducible refine LeO.bind ?_ (fun _ => ?_))
      | exact ih0 _ _ _ _ _ _
      | exact ih1 _ _ _ _ _ _ _
      | exact LeO.none _
      | refine LeO.ite ?_ ?_
      | refine LeO.bind ?_ (fun _ => ?_)
theorem cubitref01_take.mono : ∀ a0 a1 a2 a3 k, LeO (cubitref01_take.f k a0 a1 a2 a3) (cubitref01_take.f (k + 1) a0 a1 a2 a3) := by
  intro a0 a1 a2 a3 k
  obtain ⟨ih0, ih1⟩ := cubitref01_take.mono_l k
  unfold cubitref01_take.f
  repeat' first
      | (with_reducible exact ih0 _ _ _ _ _ _)
      | (with_reducible exact ih1 _ _ _ _ _ _ _)
      | (with_reducible exact LeO.refl _)
      | (with_reducible exact LeO.none _)
      | (with_reducible refine LeO.ite ?_ ?_)
      | (with_reducible refine LeO.bind ?_ (fun _ => ?_))
      | exact ih0 _ _ _ _ _ _
      | exact ih1 _ _ _ _ _ _ _
      | exact LeO.none _
      | refine LeO.ite ?_ ?_
      | refine LeO.bind ?_ (fun _ => ?_)
set_option maxHeartbeats 8000000 in
set_option maxRecDepth 100000 in
theorem cubitref01_take.calls (k : Nat) (P0_ : Nat → Prop) (u9000_ : Value) (l0 : List Int) (A1 : Option Addr) (c1 : Nat) (l1 : List Int) (a2 : Int) (a3 : Int) (r : List Int) (w0 w : World) (hB : Below w0.heap.size w0 w) (ho0 : Kd.R (Kd.int .i64) 3 w w0.heap.size P0_ u9000_ l0) (hr1 : ∀ W_, Kept w W_ (fun k_ => P0_ k_) → Kd.C (Kd.int .i64) W_ A1 l1.length l1) (hc1 : l1.length ≤ c1) (h : cubitref01_take.f k l0 l1 a2 a3 = some r) :
    Calls Tryz.prog 176 #[u9000_, .slice A1 l1.length c1, .int .i64 a2, .int .i64 a3] w fun e w' => e = .returned (.tuple #[]) ∧ Kd.R (Kd.int .i64) 3 w' w0.heap.size (fun k_ => (P0_ k_ ∨ w.heap.size ≤ k_)) u9000_ r ∧ Below w0.heap.size w0 w' ∧ Kept w w' (fun k_ => P0_ k_) := by
  have HO0 := Aside0.mk (show Kd.R (Kd.int .i64) 3 w w0.heap.size (fun k_ => (P0_ k_ ∨ w.heap.size ≤ k_)) u9000_ l0 from Kd.R_mono ho0 (fun k_ hk => (.inl hk)))
  have HR1 := Aside0.mk hr1
  have HC1 := Aside0.mk hc1
  clear hr1 hc1
  have HK := Aside0.mk (Kept.refl w (fun k_ => P0_ k_))
  have HW0 := Aside0.mk hB.size
  have HB := Aside0.mk hB
  clear hB
  have H : (cubitref01_take.l0 k l0 l1 a2 a3 0 0) = some r := h
  clear h
  have H' := Aside0.mk H
  clear H
  go_enter Tryz.func176, Tryz.ntmps176
  go_wp2
  go_loopg [8, 9] k (fun kq v8 v9 w' => ∃ (x0_1 : List Int) (x8_1 : Int) (x9_1 : Int), v8 = .int .i64 x8_1 ∧ v9 = .int .i64 x9_1 ∧ Aside0 (cubitref01_take.l0 kq x0_1 l1 a2 a3 x8_1 x9_1 = some r) ∧ Aside0 (kq ≤ k) ∧ Aside0 (Kd.R (Kd.int .i64) 3 w' w0.heap.size (fun k_ => (P0_ k_ ∨ w.heap.size ≤ k_)) u9000_ x0_1) ∧ Aside0 (Kept w w' (fun k_ => P0_ k_)) ∧ Aside0 (Below w0.heap.size w0 w'))
  case atStart => exact ⟨(l0), (0), (0), (by first | rfl | (simp; done) | (simp [*]; done)), (by first | rfl | (simp; done) | (simp [*]; done)), H', ⟨Nat.le_refl _⟩, ⟨by (with_reducible repeat (first | apply Kd.R_alloc | apply Kd.R_drewN | apply Kd.R_drew)); exact HO0.out⟩, ⟨by repeat (first | (with_reducible first | exact HK.out | apply Kept.alloc | apply Kept.drewN | apply Kept.drew) | exact HK.out)⟩, ⟨by repeat (first | (with_reducible first | exact HB.out | apply below_alloc | apply pw_below_drewN | apply below_drew1) | exact HB.out)⟩⟩
  case round =>
    clear H'
    try clear c1
    try clear p2
    obtain ⟨x0_1, x8_1, x9_1, rfl, rfl, HA, HK1, HO_0, HK, HB⟩ := hrel
    cases gk with
    | zero => exact absurd HA.out (by simp [cubitref01_take.l0])
    | succ k1 =>
      have H := HA.out
      clear HA
      simp only [cubitref01_take.l0] at H
      have HC5 := Aside0.mk H
      clear H
      go_upto_region 2 with (fail)
      go_cut [18] (fun v18 wc => ∃ (kq : Nat) (x18_4 : Bool), v18 = .bool x18_4 ∧ Aside0 (cubitref01_take.j1 kq x0_1 l1 a2 a3 x8_1 x9_1 x18_4 = some r) ∧ Aside0 (kq ≤ k1) ∧ Aside0 (Kd.R (Kd.int .i64) 3 wc w0.heap.size (fun k_ => (P0_ k_ ∨ w.heap.size ≤ k_)) u9000_ x0_1) ∧ Aside0 (Kept w wc (fun k_ => P0_ k_)) ∧ Aside0 (Below w0.heap.size w0 wc))
      case first =>
        have H := HC5.out
        clear HC5
        by_cases c6 : x9_1 < (l1.length : Int)
        · rw [if_pos c6] at H
          have c6b0 : decide (x9_1 < (l1.length : Int)) = true := decide_eq_true c6
          clear c6
          (first | rw [c6b0] | (simp only [i64_w, i32_w]; rw [c6b0]) | skip)
          have H' := Aside0.mk H
          clear H
          go_wp2
          go_meet
          case rel => exact ⟨_, (true), (by first | rfl | (simp; done) | (simp [*]; done)), H', ⟨by have := HK1.out; first | omega | exact Nat.le_refl _⟩, ⟨by (with_reducible repeat (first | apply Kd.R_alloc | apply Kd.R_drewN | apply Kd.R_drew)); exact HO_0.out⟩, ⟨by repeat (first | (with_reducible first | exact HK.out | apply Kept.alloc | apply Kept.drewN | apply Kept.drew) | exact HK.out)⟩, ⟨by repeat (first | (with_reducible first | exact HB.out | apply below_alloc | apply pw_below_drewN | apply below_drew1) | exact HB.out)⟩⟩
        · rw [if_neg c6] at H
          have c6b0 : decide (x9_1 < (l1.length : Int)) = false := decide_eq_false c6
          clear c6
          (first | rw [c6b0] | (simp only [i64_w, i32_w]; rw [c6b0]) | skip)
          have H' := Aside0.mk H
          clear H
          go_wp2
          go_meet
          case rel => exact ⟨_, (decide (x8_1 > 0)), (by first | rfl | (simp; done) | (simp [*]; done)), H', ⟨by have := HK1.out; first | omega | exact Nat.le_refl _⟩, ⟨by (with_reducible repeat (first | apply Kd.R_alloc | apply Kd.R_drewN | apply Kd.R_drew)); exact HO_0.out⟩, ⟨by repeat (first | (with_reducible first | exact HK.out | apply Kept.alloc | apply Kept.drewN | apply Kept.drew) | exact HK.out)⟩, ⟨by repeat (first | (with_reducible first | exact HB.out | apply below_alloc | apply pw_below_drewN | apply below_drew1) | exact HB.out)⟩⟩
      case rest =>
        clear HC5
        try clear c1
        try clear p2
        try clear c6
        try clear c6b0
        try clear p2
        obtain ⟨kq, x18_4, rfl, HA, HJ4, HO_0, HK, HB⟩ := hcut
        cases kq with
        | zero => exact absurd HA.out (by simp [cubitref01_take.j1])
        | succ kj4 =>
          have H := HA.out
          clear HA
          simp only [cubitref01_take.j1] at H
          by_cases c7 : x18_4 = true
          · subst c7
            have H1 : (if 0 ≤ (wrap64 (a2 + x9_1)) then (if (wrap64 (a2 + x9_1)) < (x0_1.length : Int) then (if x9_1 < (l1.length : Int) then (if 0 ≤ x9_1 then (if (wrap64 ((wrap64 ((rd x0_1 (wrap64 (a2 + x9_1))) - x8_1)) - (wrap64 (a3 * (rd l1 x9_1))))) < 0 then (cubitref01_take.l0 kj4 (x0_1.set ((wrap64 (a2 + x9_1)) : Int).toNat (wrap64 ((wrap64 ((wrap64 ((rd x0_1 (wrap64 (a2 + x9_1))) - x8_1)) - (wrap64 (a3 * (rd l1 x9_1))))) + (wrap64 ((wrap64 (Int.tdiv (wrap64 ((wrap64 ((wrap64 (-(wrap64 ((wrap64 ((rd x0_1 (wrap64 (a2 + x9_1))) - x8_1)) - (wrap64 (a3 * (rd l1 x9_1))))))) + 10000)) - 1)) 10000)) * 10000))))) l1 a2 a3 (wrap64 (Int.tdiv (wrap64 ((wrap64 ((wrap64 (-(wrap64 ((wrap64 ((rd x0_1 (wrap64 (a2 + x9_1))) - x8_1)) - (wrap64 (a3 * (rd l1 x9_1))))))) + 10000)) - 1)) 10000)) (wrap64 (x9_1 + 1))) else (cubitref01_take.l0 kj4 (x0_1.set ((wrap64 (a2 + x9_1)) : Int).toNat (wrap64 ((wrap64 ((rd x0_1 (wrap64 (a2 + x9_1))) - x8_1)) - (wrap64 (a3 * (rd l1 x9_1)))))) l1 a2 a3 0 (wrap64 (x9_1 + 1)))) else (none)) else (if (wrap64 ((rd x0_1 (wrap64 (a2 + x9_1))) - x8_1)) < 0 then (cubitref01_take.l0 kj4 (x0_1.set ((wrap64 (a2 + x9_1)) : Int).toNat (wrap64 ((wrap64 ((rd x0_1 (wrap64 (a2 + x9_1))) - x8_1)) + (wrap64 ((wrap64 (Int.tdiv (wrap64 ((wrap64 ((wrap64 (-(wrap64 ((rd x0_1 (wrap64 (a2 + x9_1))) - x8_1)))) + 10000)) - 1)) 10000)) * 10000))))) l1 a2 a3 (wrap64 (Int.tdiv (wrap64 ((wrap64 ((wrap64 (-(wrap64 ((rd x0_1 (wrap64 (a2 + x9_1))) - x8_1)))) + 10000)) - 1)) 10000)) (wrap64 (x9_1 + 1))) else (cubitref01_take.l0 kj4 (x0_1.set ((wrap64 (a2 + x9_1)) : Int).toNat (wrap64 ((rd x0_1 (wrap64 (a2 + x9_1))) - x8_1))) l1 a2 a3 0 (wrap64 (x9_1 + 1))))) else (none)) else (none)) = some r := by rw [if_pos rfl] at H; exact H
            clear H
            have H := H1
            clear H1
            obtain ⟨ji8, hji8⟩ : ∃ j_ : Int, (wrap64 (a2 + x9_1)) = j_ := ⟨_, rfl⟩
            replace H : (if 0 ≤ (ji8) then (if (ji8) < (x0_1.length : Int) then (if x9_1 < (l1.length : Int) then (if 0 ≤ x9_1 then (if (wrap64 ((wrap64 ((rd x0_1 (ji8)) - x8_1)) - (wrap64 (a3 * (rd l1 x9_1))))) < 0 then (cubitref01_take.l0 kj4 (x0_1.set ((ji8) : Int).toNat (wrap64 ((wrap64 ((wrap64 ((rd x0_1 (ji8)) - x8_1)) - (wrap64 (a3 * (rd l1 x9_1))))) + (wrap64 ((wrap64 (Int.tdiv (wrap64 ((wrap64 ((wrap64 (-(wrap64 ((wrap64 ((rd x0_1 (ji8)) - x8_1)) - (wrap64 (a3 * (rd l1 x9_1))))))) + 10000)) - 1)) 10000)) * 10000))))) l1 a2 a3 (wrap64 (Int.tdiv (wrap64 ((wrap64 ((wrap64 (-(wrap64 ((wrap64 ((rd x0_1 (ji8)) - x8_1)) - (wrap64 (a3 * (rd l1 x9_1))))))) + 10000)) - 1)) 10000)) (wrap64 (x9_1 + 1))) else (cubitref01_take.l0 kj4 (x0_1.set ((ji8) : Int).toNat (wrap64 ((wrap64 ((rd x0_1 (ji8)) - x8_1)) - (wrap64 (a3 * (rd l1 x9_1)))))) l1 a2 a3 0 (wrap64 (x9_1 + 1)))) else (none)) else (if (wrap64 ((rd x0_1 (ji8)) - x8_1)) < 0 then (cubitref01_take.l0 kj4 (x0_1.set ((ji8) : Int).toNat (wrap64 ((wrap64 ((rd x0_1 (ji8)) - x8_1)) + (wrap64 ((wrap64 (Int.tdiv (wrap64 ((wrap64 ((wrap64 (-(wrap64 ((rd x0_1 (ji8)) - x8_1)))) + 10000)) - 1)) 10000)) * 10000))))) l1 a2 a3 (wrap64 (Int.tdiv (wrap64 ((wrap64 ((wrap64 (-(wrap64 ((rd x0_1 (ji8)) - x8_1)))) + 10000)) - 1)) 10000)) (wrap64 (x9_1 + 1))) else (cubitref01_take.l0 kj4 (x0_1.set ((ji8) : Int).toNat (wrap64 ((rd x0_1 (ji8)) - x8_1))) l1 a2 a3 0 (wrap64 (x9_1 + 1))))) else (none)) else (none)) = some r := by first | (rw [hji8] at H; exact H) | (simp only [hji8] at H ⊢; exact H)
            have hji8w : (IntKind.i64.wrap (a2 + x9_1)) = ji8 := (i64_w _).trans hji8
            by_cases c9 : 0 ≤ (ji8)
            · rw [if_pos c9] at H
              have c9b0 : decide (0 ≤ (ji8)) = true := decide_eq_true c9
              clear c9
              by_cases c10 : (ji8) < (x0_1.length : Int)
              · rw [if_pos c10] at H
                have c10b0 : decide ((ji8) < (x0_1.length : Int)) = true := decide_eq_true c10
                clear c10
                by_cases c11 : x9_1 < (l1.length : Int)
                · rw [if_pos c11] at H
                  have c11b0 : decide (x9_1 < (l1.length : Int)) = true := decide_eq_true c11
                  clear c11
                  by_cases c12 : 0 ≤ x9_1
                  · rw [if_pos c12] at H
                    have c12b0 : decide (0 ≤ x9_1) = true := decide_eq_true c12
                    clear c12
                    by_cases c13 : (wrap64 ((wrap64 ((rd x0_1 (ji8)) - x8_1)) - (wrap64 (a3 * (rd l1 x9_1))))) < 0
                    · rw [if_pos c13] at H
                      have c13b0 : decide ((wrap64 ((wrap64 ((rd x0_1 (ji8)) - x8_1)) - (wrap64 (a3 * (rd l1 x9_1))))) < 0) = true := decide_eq_true c13
                      clear c13
                      obtain ⟨y237, hy237⟩ : ∃ y_ : List Int, y_ = (x0_1.set ((ji8) : Int).toNat (wrap64 ((wrap64 ((wrap64 ((rd x0_1 (ji8)) - x8_1)) - (wrap64 (a3 * (rd l1 x9_1))))) + (wrap64 ((wrap64 (Int.tdiv (wrap64 ((wrap64 ((wrap64 (-(wrap64 ((wrap64 ((rd x0_1 (ji8)) - x8_1)) - (wrap64 (a3 * (rd l1 x9_1))))))) + 10000)) - 1)) 10000)) * 10000))))) := ⟨_, rfl⟩
                      replace H : (cubitref01_take.l0 kj4 y237 l1 a2 a3 (wrap64 (Int.tdiv (wrap64 ((wrap64 ((wrap64 (-(wrap64 ((wrap64 ((rd x0_1 (ji8)) - x8_1)) - (wrap64 (a3 * (rd l1 x9_1))))))) + 10000)) - 1)) 10000)) (wrap64 (x9_1 + 1))) = some r := by first | (rw [hy237]; with_reducible exact H) | (have H2_ := (Option.bind_some _ _).symm.trans H; rw [hy237]; with_reducible exact H2_) | (have H2_ := (Option.bind_some _ _).symm.trans H; with_reducible exact H2_) | with_reducible exact H | (rw [hy237]; exact H) | exact H
                      have Ny237 := Aside0.mk hy237
                      clear hy237
                      have H' := Aside0.mk H
                      clear H
                      obtain ⟨Ao15, co15, eo15⟩ := Kd.R_slice HO_0.out
                      subst eo15
                      have p235 : 0 ≤ ((ji8) : Int) := of_decide_eq_true (by first | (with_reducible assumption) | assumption)
                      have q235 : (ji8) < (x0_1.length : Int) := of_decide_eq_true (by first | (with_reducible assumption) | assumption)
                      obtain ⟨ad235, e235, hx235_0⟩ := Kd.at_int (Kd.R_reads' HO_0.out).2.2 (ji8) p235 q235
                      cases e235
                      replace p235 := eq_true p235
                      replace q235 := eq_true q235
                      have p236 : 0 ≤ (x9_1 : Int) := of_decide_eq_true (by first | (with_reducible assumption) | assumption)
                      have q236 : x9_1 < (l1.length : Int) := of_decide_eq_true (by first | (with_reducible assumption) | assumption)
                      obtain ⟨ad236, e236, hx236_0⟩ := Kd.at_int (Kd.C_kept_now HR1.out HK.out) x9_1 p236 q236
                      cases e236
                      replace p236 := eq_true p236
                      replace q236 := eq_true q236
                      have p14 : 0 ≤ ((ji8) : Int) := of_decide_eq_true (by first | (with_reducible assumption) | assumption)
                      have q14 : ((ji8) : Int) < ((x0_1.length : Int) : Int) := of_decide_eq_true (by first | (with_reducible assumption) | assumption)
                      obtain ⟨go14, co14, eo14, gb14, gl14, cl14, HG14⟩ := Kd.R_form HO_0.out (by omega)
                      (first | cases eo14 | (injection eo14 with ea_ en_ ec_; (first | subst ea_ | (injection ea_ with ea_; subst ea_)); subst ec_; clear en_))
                      have GB14 := Aside0.mk gb14
                      have GG14 := Aside0.mk HG14
                      clear gb14 gl14 HG14
                      have HMgo14 := Aside0.mk (show (P0_ go14 ∨ w.heap.size ≤ go14) from (HO_0.out.1 _ rfl))
                      (first | simp only [add_plain] at hx235_0 | skip)
                      obtain ⟨hx14_0, hf14_0⟩ := Kd.R_celln 0 HO_0.out ((ji8) : Int) p14 q14
                      replace p14 := eq_true p14
                      replace q14 := eq_true q14
                      have HP16 := Kd.R_putg HO_0.out ((ji8) : Int) (wrap64 ((wrap64 ((wrap64 ((rd x0_1 (ji8)) - x8_1)) - (wrap64 (a3 * (rd l1 x9_1))))) + (wrap64 ((wrap64 (Int.tdiv (wrap64 ((wrap64 ((wrap64 (-(wrap64 ((wrap64 ((rd x0_1 (ji8)) - x8_1)) - (wrap64 (a3 * (rd l1 x9_1))))))) + 10000)) - 1)) 10000)) * 10000))))
                      go_wp2_with (first | ((with_reducible refine gate_store (t := 3) (p := 57) rfl ?_); refine store_event (t := 3) (p := 57) (v := ?vo_w17) (w1 := (wc.setCell ⟨go14, ((ji8) : Int).toNat, none⟩ (.int .i64 (wrap64 ((wrap64 ((wrap64 ((rd x0_1 (ji8)) - x8_1)) - (wrap64 (a3 * (rd l1 x9_1))))) + (wrap64 ((wrap64 (Int.tdiv (wrap64 ((wrap64 ((wrap64 (-(wrap64 ((wrap64 ((rd x0_1 (ji8)) - x8_1)) - (wrap64 (a3 * (rd l1 x9_1))))))) + 10000)) - 1)) 10000)) * 10000))))))) ?hg ?ho ?hn ?hr ?_; (case ho => rfl); (case hg => rfl); (case hn => rfl); (case hr => first | (go_simp; done) | (go_simp; rfl)); intro w17 hw; have hg : wc.grownBy w17 (some go14) := (by rw [hw]; exact HP16.2); have hp_ : Kd.R (Kd.int .i64) 3 w17 w0.heap.size (fun k_ => (P0_ k_ ∨ w.heap.size ≤ k_)) (.slice (some ⟨go14, 0, none⟩) x0_1.length co15) y237 := (by rw [hw, Ny237.out]; exact HP16.1); clear HP16; have n0_ := Aside0.mk (hp_); have n1_ := Aside0.mk ((by rw [hw]; exact below_set (HB.out) GB14.out : Below w0.heap.size w0 w17)); have n2_ := Aside0.mk (Kept.of_grown (S := (fun k_ => P0_ k_)) hg (by repeat (first | (with_reducible first | exact HK.out | apply Kept.alloc | apply Kept.drewN | apply Kept.drew) | exact HK.out)) (fun k_ e_ => (HO_0.out.1 k_ e_))); clear HO_0; clear HB; clear HK; have HO_0 := n0_; have HB := n1_; have HK := n2_; clear n0_ n1_ n2_; clear hg hw hp_))
                      go_roundg kj4
                      case measure => have := HK1.out; have := HJ4.out; omega
                      case rel => exact ⟨(y237), (wrap64 (Int.tdiv (wrap64 ((wrap64 ((wrap64 (-(wrap64 ((wrap64 ((rd x0_1 (ji8)) - x8_1)) - (wrap64 (a3 * (rd l1 x9_1))))))) + 10000)) - 1)) 10000)), (wrap64 (x9_1 + 1)), (by first | rfl | (simp; done) | (simp only [← hji8] <;> (first | rfl | simp)) | (simp [*]; done)), (by first | rfl | (simp; done) | (simp [*]; done)), H', ⟨by have := HK1.out; have := HJ4.out; omega⟩, ⟨by (with_reducible repeat (first | apply Kd.R_alloc | apply Kd.R_drewN | apply Kd.R_drew)); exact HO_0.out⟩, ⟨by repeat (first | (with_reducible first | exact HK.out | apply Kept.alloc | apply Kept.drewN | apply Kept.drew) | exact HK.out)⟩, ⟨by repeat (first | (with_reducible first | exact HB.out | apply below_alloc | apply pw_below_drewN | apply below_drew1) | exact HB.out)⟩⟩
                    · rw [if_neg c13] at H
                      have c13b0 : decide ((wrap64 ((wrap64 ((rd x0_1 (ji8)) - x8_1)) - (wrap64 (a3 * (rd l1 x9_1))))) < 0) = false := decide_eq_false c13
                      clear c13
                      obtain ⟨y238, hy238⟩ : ∃ y_ : List Int, y_ = (x0_1.set ((ji8) : Int).toNat (wrap64 ((wrap64 ((rd x0_1 (ji8)) - x8_1)) - (wrap64 (a3 * (rd l1 x9_1)))))) := ⟨_, rfl⟩
                      replace H : (cubitref01_take.l0 kj4 y238 l1 a2 a3 0 (wrap64 (x9_1 + 1))) = some r := by first | (rw [hy238]; with_reducible exact H) | (have H2_ := (Option.bind_some _ _).symm.trans H; rw [hy238]; with_reducible exact H2_) | (have H2_ := (Option.bind_some _ _).symm.trans H; with_reducible exact H2_) | with_reducible exact H | (rw [hy238]; exact H) | exact H
                      have Ny238 := Aside0.mk hy238
                      clear hy238
                      have H' := Aside0.mk H
                      clear H
                      obtain ⟨Ao19, co19, eo19⟩ := Kd.R_slice HO_0.out
                      subst eo19
                      have p235 : 0 ≤ ((ji8) : Int) := of_decide_eq_true (by first | (with_reducible assumption) | assumption)
                      have q235 : (ji8) < (x0_1.length : Int) := of_decide_eq_true (by first | (with_reducible assumption) | assumption)
                      obtain ⟨ad235, e235, hx235_0⟩ := Kd.at_int (Kd.R_reads' HO_0.out).2.2 (ji8) p235 q235
                      cases e235
                      replace p235 := eq_true p235
                      replace q235 := eq_true q235
                      have p236 : 0 ≤ (x9_1 : Int) := of_decide_eq_true (by first | (with_reducible assumption) | assumption)
                      have q236 : x9_1 < (l1.length : Int) := of_decide_eq_true (by first | (with_reducible assumption) | assumption)
                      obtain ⟨ad236, e236, hx236_0⟩ := Kd.at_int (Kd.C_kept_now HR1.out HK.out) x9_1 p236 q236
                      cases e236
                      replace p236 := eq_true p236
                      replace q236 := eq_true q236
                      have p18 : 0 ≤ ((ji8) : Int) := of_decide_eq_true (by first | (with_reducible assumption) | assumption)
                      have q18 : ((ji8) : Int) < ((x0_1.length : Int) : Int) := of_decide_eq_true (by first | (with_reducible assumption) | assumption)
                      obtain ⟨go18, co18, eo18, gb18, gl18, cl18, HG18⟩ := Kd.R_form HO_0.out (by omega)
                      (first | cases eo18 | (injection eo18 with ea_ en_ ec_; (first | subst ea_ | (injection ea_ with ea_; subst ea_)); subst ec_; clear en_))
                      have GB18 := Aside0.mk gb18
                      have GG18 := Aside0.mk HG18
                      clear gb18 gl18 HG18
                      have HMgo18 := Aside0.mk (show (P0_ go18 ∨ w.heap.size ≤ go18) from (HO_0.out.1 _ rfl))
                      (first | simp only [add_plain] at hx235_0 | skip)
                      obtain ⟨hx18_0, hf18_0⟩ := Kd.R_celln 0 HO_0.out ((ji8) : Int) p18 q18
                      replace p18 := eq_true p18
                      replace q18 := eq_true q18
                      have HP20 := Kd.R_putg HO_0.out ((ji8) : Int) (wrap64 ((wrap64 ((rd x0_1 (ji8)) - x8_1)) - (wrap64 (a3 * (rd l1 x9_1)))))
                      go_wp2_with (first | ((with_reducible refine gate_store (t := 3) (p := 57) rfl ?_); refine store_event (t := 3) (p := 57) (v := ?vo_w21) (w1 := (wc.setCell ⟨go18, ((ji8) : Int).toNat, none⟩ (.int .i64 (wrap64 ((wrap64 ((rd x0_1 (ji8)) - x8_1)) - (wrap64 (a3 * (rd l1 x9_1)))))))) ?hg ?ho ?hn ?hr ?_; (case ho => rfl); (case hg => rfl); (case hn => rfl); (case hr => first | (go_simp; done) | (go_simp; rfl)); intro w21 hw; have hg : wc.grownBy w21 (some go18) := (by rw [hw]; exact HP20.2); have hp_ : Kd.R (Kd.int .i64) 3 w21 w0.heap.size (fun k_ => (P0_ k_ ∨ w.heap.size ≤ k_)) (.slice (some ⟨go18, 0, none⟩) x0_1.length co19) y238 := (by rw [hw, Ny238.out]; exact HP20.1); clear HP20; have n0_ := Aside0.mk (hp_); have n1_ := Aside0.mk ((by rw [hw]; exact below_set (HB.out) GB18.out : Below w0.heap.size w0 w21)); have n2_ := Aside0.mk (Kept.of_grown (S := (fun k_ => P0_ k_)) hg (by repeat (first | (with_reducible first | exact HK.out | apply Kept.alloc | apply Kept.drewN | apply Kept.drew) | exact HK.out)) (fun k_ e_ => (HO_0.out.1 k_ e_))); clear HO_0; clear HB; clear HK; have HO_0 := n0_; have HB := n1_; have HK := n2_; clear n0_ n1_ n2_; clear hg hw hp_))
                      go_roundg kj4
                      case measure => have := HK1.out; have := HJ4.out; omega
                      case rel => exact ⟨(y238), (0), (wrap64 (x9_1 + 1)), (by first | rfl | (simp; done) | (simp [*]; done)), (by first | rfl | (simp; done) | (simp [*]; done)), H', ⟨by have := HK1.out; have := HJ4.out; omega⟩, ⟨by (with_reducible repeat (first | apply Kd.R_alloc | apply Kd.R_drewN | apply Kd.R_drew)); exact HO_0.out⟩, ⟨by repeat (first | (with_reducible first | exact HK.out | apply Kept.alloc | apply Kept.drewN | apply Kept.drew) | exact HK.out)⟩, ⟨by repeat (first | (with_reducible first | exact HB.out | apply below_alloc | apply pw_below_drewN | apply below_drew1) | exact HB.out)⟩⟩
                  · rw [if_neg c12] at H
                    exact absurd H (by simp)
                · rw [if_neg c11] at H
                  have c11b0 : decide (x9_1 < (l1.length : Int)) = false := decide_eq_false c11
                  clear c11
                  by_cases c22 : (wrap64 ((rd x0_1 (ji8)) - x8_1)) < 0
                  · rw [if_pos c22] at H
                    have c22b0 : decide ((wrap64 ((rd x0_1 (ji8)) - x8_1)) < 0) = true := decide_eq_true c22
                    clear c22
                    obtain ⟨y239, hy239⟩ : ∃ y_ : List Int, y_ = (x0_1.set ((ji8) : Int).toNat (wrap64 ((wrap64 ((rd x0_1 (ji8)) - x8_1)) + (wrap64 ((wrap64 (Int.tdiv (wrap64 ((wrap64 ((wrap64 (-(wrap64 ((rd x0_1 (ji8)) - x8_1)))) + 10000)) - 1)) 10000)) * 10000))))) := ⟨_, rfl⟩
                    replace H : (cubitref01_take.l0 kj4 y239 l1 a2 a3 (wrap64 (Int.tdiv (wrap64 ((wrap64 ((wrap64 (-(wrap64 ((rd x0_1 (ji8)) - x8_1)))) + 10000)) - 1)) 10000)) (wrap64 (x9_1 + 1))) = some r := by first | (rw [hy239]; with_reducible exact H) | (have H2_ := (Option.bind_some _ _).symm.trans H; rw [hy239]; with_reducible exact H2_) | (have H2_ := (Option.bind_some _ _).symm.trans H; with_reducible exact H2_) | with_reducible exact H | (rw [hy239]; exact H) | exact H
                    have Ny239 := Aside0.mk hy239
                    clear hy239
                    have H' := Aside0.mk H
                    clear H
                    obtain ⟨Ao24, co24, eo24⟩ := Kd.R_slice HO_0.out
                    subst eo24
                    have p235 : 0 ≤ ((ji8) : Int) := of_decide_eq_true (by first | (with_reducible assumption) | assumption)
                    have q235 : (ji8) < (x0_1.length : Int) := of_decide_eq_true (by first | (with_reducible assumption) | assumption)
                    obtain ⟨ad235, e235, hx235_0⟩ := Kd.at_int (Kd.R_reads' HO_0.out).2.2 (ji8) p235 q235
                    cases e235
                    replace p235 := eq_true p235
                    replace q235 := eq_true q235
                    have p23 : 0 ≤ ((ji8) : Int) := of_decide_eq_true (by first | (with_reducible assumption) | assumption)
                    have q23 : ((ji8) : Int) < ((x0_1.length : Int) : Int) := of_decide_eq_true (by first | (with_reducible assumption) | assumption)
                    obtain ⟨go23, co23, eo23, gb23, gl23, cl23, HG23⟩ := Kd.R_form HO_0.out (by omega)
                    (first | cases eo23 | (injection eo23 with ea_ en_ ec_; (first | subst ea_ | (injection ea_ with ea_; subst ea_)); subst ec_; clear en_))
                    have GB23 := Aside0.mk gb23
                    have GG23 := Aside0.mk HG23
                    clear gb23 gl23 HG23
                    have HMgo23 := Aside0.mk (show (P0_ go23 ∨ w.heap.size ≤ go23) from (HO_0.out.1 _ rfl))
                    (first | simp only [add_plain] at hx235_0 | skip)
                    obtain ⟨hx23_0, hf23_0⟩ := Kd.R_celln 0 HO_0.out ((ji8) : Int) p23 q23
                    replace p23 := eq_true p23
                    replace q23 := eq_true q23
                    have HP25 := Kd.R_putg HO_0.out ((ji8) : Int) (wrap64 ((wrap64 ((rd x0_1 (ji8)) - x8_1)) + (wrap64 ((wrap64 (Int.tdiv (wrap64 ((wrap64 ((wrap64 (-(wrap64 ((rd x0_1 (ji8)) - x8_1)))) + 10000)) - 1)) 10000)) * 10000))))
                    go_wp2_with (first | ((with_reducible refine gate_store (t := 3) (p := 57) rfl ?_); refine store_event (t := 3) (p := 57) (v := ?vo_w26) (w1 := (wc.setCell ⟨go23, ((ji8) : Int).toNat, none⟩ (.int .i64 (wrap64 ((wrap64 ((rd x0_1 (ji8)) - x8_1)) + (wrap64 ((wrap64 (Int.tdiv (wrap64 ((wrap64 ((wrap64 (-(wrap64 ((rd x0_1 (ji8)) - x8_1)))) + 10000)) - 1)) 10000)) * 10000))))))) ?hg ?ho ?hn ?hr ?_; (case ho => rfl); (case hg => rfl); (case hn => rfl); (case hr => first | (go_simp; done) | (go_simp; rfl)); intro w26 hw; have hg : wc.grownBy w26 (some go23) := (by rw [hw]; exact HP25.2); have hp_ : Kd.R (Kd.int .i64) 3 w26 w0.heap.size (fun k_ => (P0_ k_ ∨ w.heap.size ≤ k_)) (.slice (some ⟨go23, 0, none⟩) x0_1.length co24) y239 := (by rw [hw, Ny239.out]; exact HP25.1); clear HP25; have n0_ := Aside0.mk (hp_); have n1_ := Aside0.mk ((by rw [hw]; exact below_set (HB.out) GB23.out : Below w0.heap.size w0 w26)); have n2_ := Aside0.mk (Kept.of_grown (S := (fun k_ => P0_ k_)) hg (by repeat (first | (with_reducible first | exact HK.out | apply Kept.alloc | apply Kept.drewN | apply Kept.drew) | exact HK.out)) (fun k_ e_ => (HO_0.out.1 k_ e_))); clear HO_0; clear HB; clear HK; have HO_0 := n0_; have HB := n1_; have HK := n2_; clear n0_ n1_ n2_; clear hg hw hp_))
                    go_roundg kj4
                    case measure => have := HK1.out; have := HJ4.out; omega
                    case rel => exact ⟨(y239), (wrap64 (Int.tdiv (wrap64 ((wrap64 ((wrap64 (-(wrap64 ((rd x0_1 (ji8)) - x8_1)))) + 10000)) - 1)) 10000)), (wrap64 (x9_1 + 1)), (by first | rfl | (simp; done) | (simp only [← hji8] <;> (first | rfl | simp)) | (simp [*]; done)), (by first | rfl | (simp; done) | (simp [*]; done)), H', ⟨by have := HK1.out; have := HJ4.out; omega⟩, ⟨by (with_reducible repeat (first | apply Kd.R_alloc | apply Kd.R_drewN | apply Kd.R_drew)); exact HO_0.out⟩, ⟨by repeat (first | (with_reducible first | exact HK.out | apply Kept.alloc | apply Kept.drewN | apply Kept.drew) | exact HK.out)⟩, ⟨by repeat (first | (with_reducible first | exact HB.out | apply below_alloc | apply pw_below_drewN | apply below_drew1) | exact HB.out)⟩⟩
                  · rw [if_neg c22] at H
                    have c22b0 : decide ((wrap64 ((rd x0_1 (ji8)) - x8_1)) < 0) = false := decide_eq_false c22
                    clear c22
                    obtain ⟨y240, hy240⟩ : ∃ y_ : List Int, y_ = (x0_1.set ((ji8) : Int).toNat (wrap64 ((rd x0_1 (ji8)) - x8_1))) := ⟨_, rfl⟩
                    replace H : (cubitref01_take.l0 kj4 y240 l1 a2 a3 0 (wrap64 (x9_1 + 1))) = some r := by first | (rw [hy240]; with_reducible exact H) | (have H2_ := (Option.bind_some _ _).symm.trans H; rw [hy240]; with_reducible exact H2_) | (have H2_ := (Option.bind_some _ _).symm.trans H; with_reducible exact H2_) | with_reducible exact H | (rw [hy240]; exact H) | exact H
                    have Ny240 := Aside0.mk hy240
                    clear hy240
                    have H' := Aside0.mk H
                    clear H
                    obtain ⟨Ao28, co28, eo28⟩ := Kd.R_slice HO_0.out
                    subst eo28
                    have p235 : 0 ≤ ((ji8) : Int) := of_decide_eq_true (by first | (with_reducible assumption) | assumption)
                    have q235 : (ji8) < (x0_1.length : Int) := of_decide_eq_true (by first | (with_reducible assumption) | assumption)
                    obtain ⟨ad235, e235, hx235_0⟩ := Kd.at_int (Kd.R_reads' HO_0.out).2.2 (ji8) p235 q235
                    cases e235
                    replace p235 := eq_true p235
                    replace q235 := eq_true q235
                    have p27 : 0 ≤ ((ji8) : Int) := of_decide_eq_true (by first | (with_reducible assumption) | assumption)
                    have q27 : ((ji8) : Int) < ((x0_1.length : Int) : Int) := of_decide_eq_true (by first | (with_reducible assumption) | assumption)
                    obtain ⟨go27, co27, eo27, gb27, gl27, cl27, HG27⟩ := Kd.R_form HO_0.out (by omega)
                    (first | cases eo27 | (injection eo27 with ea_ en_ ec_; (first | subst ea_ | (injection ea_ with ea_; subst ea_)); subst ec_; clear en_))
                    have GB27 := Aside0.mk gb27
                    have GG27 := Aside0.mk HG27
                    clear gb27 gl27 HG27
                    have HMgo27 := Aside0.mk (show (P0_ go27 ∨ w.heap.size ≤ go27) from (HO_0.out.1 _ rfl))
                    (first | simp only [add_plain] at hx235_0 | skip)
                    obtain ⟨hx27_0, hf27_0⟩ := Kd.R_celln 0 HO_0.out ((ji8) : Int) p27 q27
                    replace p27 := eq_true p27
                    replace q27 := eq_true q27
                    have HP29 := Kd.R_putg HO_0.out ((ji8) : Int) (wrap64 ((rd x0_1 (ji8)) - x8_1))
                    go_wp2_with (first | ((with_reducible refine gate_store (t := 3) (p := 57) rfl ?_); refine store_event (t := 3) (p := 57) (v := ?vo_w30) (w1 := (wc.setCell ⟨go27, ((ji8) : Int).toNat, none⟩ (.int .i64 (wrap64 ((rd x0_1 (ji8)) - x8_1))))) ?hg ?ho ?hn ?hr ?_; (case ho => rfl); (case hg => rfl); (case hn => rfl); (case hr => first | (go_simp; done) | (go_simp; rfl)); intro w30 hw; have hg : wc.grownBy w30 (some go27) := (by rw [hw]; exact HP29.2); have hp_ : Kd.R (Kd.int .i64) 3 w30 w0.heap.size (fun k_ => (P0_ k_ ∨ w.heap.size ≤ k_)) (.slice (some ⟨go27, 0, none⟩) x0_1.length co28) y240 := (by rw [hw, Ny240.out]; exact HP29.1); clear HP29; have n0_ := Aside0.mk (hp_); have n1_ := Aside0.mk ((by rw [hw]; exact below_set (HB.out) GB27.out : Below w0.heap.size w0 w30)); have n2_ := Aside0.mk (Kept.of_grown (S := (fun k_ => P0_ k_)) hg (by repeat (first | (with_reducible first | exact HK.out | apply Kept.alloc | apply Kept.drewN | apply Kept.drew) | exact HK.out)) (fun k_ e_ => (HO_0.out.1 k_ e_))); clear HO_0; clear HB; clear HK; have HO_0 := n0_; have HB := n1_; have HK := n2_; clear n0_ n1_ n2_; clear hg hw hp_))
                    go_roundg kj4
                    case measure => have := HK1.out; have := HJ4.out; omega
                    case rel => exact ⟨(y240), (0), (wrap64 (x9_1 + 1)), (by first | rfl | (simp; done) | (simp [*]; done)), (by first | rfl | (simp; done) | (simp [*]; done)), H', ⟨by have := HK1.out; have := HJ4.out; omega⟩, ⟨by (with_reducible repeat (first | apply Kd.R_alloc | apply Kd.R_drewN | apply Kd.R_drew)); exact HO_0.out⟩, ⟨by repeat (first | (with_reducible first | exact HK.out | apply Kept.alloc | apply Kept.drewN | apply Kept.drew) | exact HK.out)⟩, ⟨by repeat (first | (with_reducible first | exact HB.out | apply below_alloc | apply pw_below_drewN | apply below_drew1) | exact HB.out)⟩⟩
              · rw [if_neg c10] at H
                exact absurd H (by simp)
            · rw [if_neg c9] at H
              exact absurd H (by simp)
          · replace c7 := Bool.eq_false_iff.mpr c7
            subst c7
            have H1 : (some x0_1) = some r := by rw [if_neg (show ¬ (false = true) by decide)] at H; exact H
            clear H
            have H := H1
            clear H1
            obtain rfl := Option.some.inj H
            go_wp2
            first | go_end0 | ((try simp only [Exit.inBlock, Exit.then]); refine bodyPost_ret (results_none rfl _ _ _) rfl ?_)
            exact ⟨by first | rfl | (simp [errW_none, errW_some] <;> rfl) | (simp [*, errW_none, errW_some] <;> rfl), by (with_reducible repeat (first | apply Kd.R_alloc | apply Kd.R_drewN | apply Kd.R_drew)); exact HO_0.out, by repeat (first | (with_reducible first | exact HB.out | apply below_alloc | apply pw_below_drewN | apply below_drew1) | exact HB.out), by repeat (first | (with_reducible first | exact HK.out | apply Kept.alloc | apply Kept.drewN | apply Kept.drew) | exact HK.out)⟩
end Go.Proofs.YthbdjmopolpjmaaGreatDoor.F
end
section
set_option linter.unusedVariables false
set_option linter.unusedSimpArgs false
namespace Go.Proofs.YthbdjmopolpjmaaGreatDoor.M
open Go.RowKit Go.Proofs.YthbdjmopolpjmaaGreatDoorW.PrintWords Go.Proofs.YthbdjmopolpjmaaGreatDoorW.PrintLast Go.Proofs.YthbdjmopolpjmaaGreatDoorW.PrintMore Go.Proofs.YthbdjmopolpjmaaGreatDoor.F Go.Proofs.YthbdjmopolpjmaaGreatDoor.C
theorem rtrim_tells (B : Int) (w : List Int) (hl : w.length ≤ 9223372036854775807) : ∃ n, n ≤ w.length ∧ Trim (w.take n) ∧ val B (w.take n) = val B w ∧ Ev (fun k => cubitref01_trim.f k w) (w.take n) := by
  obtain ⟨n, h1, h2, h3, h4⟩ := trim_tells B w hl
  exact ⟨n, h1, h2, h3, Ev.congr (fun k => rtrim_is k w) h4⟩
theorem val_set (B : Int) : ∀ (xs : List Int) (i : Nat) (v : Int), i < xs.length → val B (xs.set i v) = val B xs + (v - rd xs (i : Int)) * B ^ i
  | [], i, v, h => by simp at h
  | x :: xs, 0, v, h => by simp [val, rd]; omega
  | x :: xs, i + 1, v, h => by
    have ih := val_set B xs i v (by simpa using h)
    have e : rd (x :: xs) ((i + 1 : Nat) : Int) = rd xs (i : Int) := by simp [rd]
    rw [e, List.set_cons_succ]
    simp only [val]
    rw [ih, Int.pow_succ]
    grind
theorem tmod10k {x : Int} (h : 0 ≤ x) : Int.tmod x 10000 = x % 10000 := Int.tmod_eq_emod_of_nonneg h
theorem tdiv10k {x : Int} (h : 0 ≤ x) : Int.tdiv x 10000 = x / 10000 := Int.tdiv_eq_ediv_of_nonneg h
theorem rless_ev {xs ys : List Int} (hx : Dig 10000 xs) (hy : Dig 10000 ys) (hl : xs.length = ys.length) (hm : xs.length ≤ 9223372036854775807) : ∀ (m : Nat), m ≤ xs.length → xs.drop m = ys.drop m →
    Ev (fun k => cubitref01_less.l0 k xs ys ((m : Int) - 1)) (decide (val 10000 xs < val 10000 ys)) := by
  intro m
  induction m with
  | zero =>
    intro _ hd
    simp only [List.drop_zero] at hd
    subst hd
    rw [decide_eq_false (by omega)]
    exact Ev.step (f := fun _ => some false) (fun k => by simp only [cubitref01_less.l0]; rw [if_neg (by omega)]) (Ev.now _)
  | succ m ih =>
    intro hle hd
    have e : (((m + 1 : Nat) : Int) - 1) = (m : Int) := by omega
    rw [e]
    by_cases h : rd xs m = rd ys m
    · refine Ev.step (fun k => ?_) (ih (by omega) (by rw [drop_rd xs m (by omega), drop_rd ys m (by omega), h, hd]))
      simp only [cubitref01_less.l0]
      rw [if_pos (by omega), if_pos (by omega), if_pos (by omega), if_pos (by omega), if_pos h, w64 (by omega) (by omega)]
    · have hb : decide (rd xs m < rd ys m) = decide (val 10000 xs < val 10000 ys) := by
        by_cases hlt : rd xs m < rd ys m
        · rw [decide_eq_true hlt, decide_eq_true (val_lt_at (by omega) hx hy (show m < xs.length by omega) (by omega) hd hlt)]
        · have := val_lt_at (B := 10000) (by omega) hy hx (show m < ys.length by omega) (by omega) hd.symm (show rd ys m < rd xs m by omega)
          rw [decide_eq_false hlt, decide_eq_false (by omega)]
      rw [← hb]
      refine Ev.step (f := fun _ => some (decide (rd xs m < rd ys m))) (fun k => ?_) (Ev.now _)
      simp only [cubitref01_less.l0]
      rw [if_pos (by omega), if_pos (by omega), if_pos (by omega), if_pos (by omega), if_neg h]
theorem rless_tells {xs ys : List Int} (hx : Dig 10000 xs) (hy : Dig 10000 ys) (tx : Trim xs) (ty : Trim ys) (hmx : xs.length ≤ 4611686018427387904) (hmy : ys.length ≤ 4611686018427387904) :
    Ev (fun k => cubitref01_less.f k xs ys) (decide (val 10000 xs < val 10000 ys)) := by
  by_cases hl : xs.length = ys.length
  · refine Ev.congr (fun k => ?_) (rless_ev hx hy hl (by omega) xs.length (Nat.le_refl _) (by rw [List.drop_length, List.drop_of_length_le (by omega)]))
    unfold cubitref01_less.f
    rw [if_pos (by omega), w64 (by omega) (by omega)]
  · have hb : decide ((xs.length : Int) < (ys.length : Int)) = decide (val 10000 xs < val 10000 ys) := by
      by_cases h : xs.length < ys.length
      · rw [decide_eq_true (by omega), decide_eq_true (val_lt_of_len (B := 10000) (by omega) hx hy ty h)]
      · have := val_lt_of_len (B := 10000) (by omega) hy hx tx (show ys.length < xs.length by omega)
        rw [decide_eq_false (by omega), decide_eq_false (by omega)]
    rw [← hb]
    refine Ev.congr (f := fun _ => some (decide ((xs.length : Int) < (ys.length : Int)))) (fun k => ?_) (Ev.now _)
    unfold cubitref01_less.f
    rw [if_neg (by omega)]
theorem carry_ev (x0 x1 : List Int) (i : Int) {L : Nat} (hL : L ≤ 1000000) : ∀ (d pos : Nat) (out : List Int) (c : Int), pos + d = L → out.length = L → Dig 10000 out → 0 ≤ c → c < 1000000 → val 10000 out + c * 10000 ^ pos < 10000 ^ L →
    ∃ out', out'.length = L ∧ Dig 10000 out' ∧ val 10000 out' = val 10000 out + c * 10000 ^ pos ∧ ∀ r, Ev (fun k => cubitref01_times.l0 k x0 x1 out' (wrap64 (i + 1))) r → Ev (fun k => cubitref01_times.l2 k x0 x1 out i c (pos : Int)) r := by
  intro d
  induction d with
  | zero =>
    intro pos out c hp hl hd h0 h1 hv
    obtain rfl : pos = L := by omega
    have hc : c = 0 := by
      have hn := val_nonneg (B := 10000) (by omega) hd
      have hpp : (0 : Int) < 10000 ^ pos := Int.pow_pos (by decide)
      rcases Int.lt_or_eq_of_le h0 with h | h
      · have := Int.mul_le_mul_of_nonneg_right (show 1 ≤ c by omega) (Int.le_of_lt hpp)
        omega
      · exact h.symm
    subst hc
    refine ⟨out, hl, hd, by omega, fun r hr => Ev.step (fun k => ?_) hr⟩
    simp only [cubitref01_times.l2]
    rw [if_neg (by omega)]
  | succ d ih =>
    intro pos out c hp hl hd h0 h1 hv
    by_cases hc : c > 0
    · have bx := dig_rd hd pos (by simp; omega)
      have hdg : 0 ≤ (c + rd out pos) % 10000 ∧ (c + rd out pos) % 10000 < 10000 := by omega
      have hvs := val_set 10000 out pos ((c + rd out pos) % 10000) (by omega)
      have hq : c + rd out pos = (c + rd out pos) % 10000 + 10000 * ((c + rd out pos) / 10000) := by omega
      have hval : val 10000 (out.set pos ((c + rd out pos) % 10000)) + ((c + rd out pos) / 10000) * 10000 ^ (pos + 1) = val 10000 out + c * 10000 ^ pos := by
        rw [hvs, Int.pow_succ]
        generalize (c + rd out pos) % 10000 = lo at *
        generalize (c + rd out pos) / 10000 = hi at *
        generalize (10000 : Int) ^ pos = P at *
        grind
      obtain ⟨out', o1, o2, o3, o4⟩ := ih (pos + 1) (out.set pos ((c + rd out pos) % 10000)) ((c + rd out pos) / 10000) (by omega) (by simpa using hl) (dig_set hd pos hdg) (by omega) (by omega) (by rw [hval]; exact hv)
      refine ⟨out', o1, o2, by rw [o3, hval], fun r hr => Ev.step (fun k => ?_) (o4 r hr)⟩
      simp only [cubitref01_times.l2]
      rw [if_pos hc, if_pos (by omega), if_pos (by omega), w64 (n := c + rd out pos) (by omega) (by omega), tmod10k (by omega), tdiv10k (by omega), w64 (by omega) (by omega), w64 (by omega) (by omega), Int.toNat_natCast]
      rfl
    · obtain rfl : c = 0 := by omega
      refine ⟨out, hl, hd, by omega, fun r hr => Ev.step (fun k => ?_) hr⟩
      simp only [cubitref01_times.l2]
      rw [if_neg (by omega)]
theorem mul_le10k {x y : Int} (hx0 : 0 ≤ x) (hx : x < 10000) (hy0 : 0 ≤ y) (hy : y < 10000) : 0 ≤ x * y ∧ x * y ≤ 99980001 := by
  have h1 := Int.mul_nonneg hx0 hy0
  have h2 := Int.mul_le_mul (show x ≤ 9999 by omega) (show y ≤ 9999 by omega) hy0 (by omega)
  omega
theorem times_ev {y : List Int} {q : Int} (hy : Dig 10000 y) (h0 : 0 ≤ q) (h1 : q < 10000) (hl : y.length ≤ 100000) : ∀ (d i : Nat) (out : List Int), i + d = y.length → out.length = y.length + 1 → Dig 10000 out → val 10000 out = val 10000 (y.take i) * q →
    ∃ r, Ev (fun k => cubitref01_times.l0 k y [q] out (i : Int)) r ∧ Dig 10000 r ∧ Trim r ∧ r.length ≤ y.length + 1 ∧ val 10000 r = val 10000 y * q := by
  intro d
  induction d with
  | zero =>
    intro i out hi hol hod hv
    obtain rfl : i = y.length := by omega
    rw [List.take_length] at hv
    obtain ⟨n, hn, ht, hvn, he⟩ := rtrim_tells 10000 out (by omega)
    refine ⟨out.take n, Ev.step (f := fun k => (cubitref01_trim.f k out).bind fun t => some t) (fun k => ?_) (Ev.bind he (Ev.now _)), dig_take hod n, ht, by rw [List.length_take]; omega, by rw [hvn, hv]⟩
    simp only [cubitref01_times.l0]
    rw [if_neg (by omega)]
  | succ d ih =>
    intro i out hi hol hod hv
    have bx := dig_rd hod i (by simp; omega)
    have by_ := dig_rd hy i (by simp; omega)
    have bm := mul_le10k by_.1 by_.2 h0 h1
    have hts := val_take_succ 10000 y i (by omega)
    have hT : val 10000 (y.take (i + 1)) * q < 10000 ^ (i + 1) * 10000 := by
      have h2 := val_lt (B := 10000) (by omega) (dig_take hy (i + 1))
      rw [List.length_take, Nat.min_eq_left (by omega)] at h2
      have h3 := val_nonneg (B := 10000) (by omega) (dig_take hy (i + 1))
      have h4 := Int.mul_le_mul_of_nonneg_left (show q ≤ 10000 by omega) h3
      omega
    have hL : (10000 : Int) ^ (i + 1) * 10000 ≤ 10000 ^ (y.length + 1) := by
      rw [← Int.pow_succ]
      exact pow_le_pow' (by omega) (by omega)
    have hs : val 10000 (out.set i ((rd out i + rd y i * q) % 10000)) + (rd out i + rd y i * q) / 10000 * 10000 ^ (i + 1) = val 10000 (y.take (i + 1)) * q := by
      rw [val_set 10000 out i _ (by omega), hts, hv, Int.pow_succ]
      have hq : rd out i + rd y i * q = (rd out i + rd y i * q) % 10000 + 10000 * ((rd out i + rd y i * q) / 10000) := by omega
      generalize (rd out i + rd y i * q) % 10000 = lo at *
      generalize (rd out i + rd y i * q) / 10000 = hi at *
      generalize (10000 : Int) ^ i = P at *
      grind
    obtain ⟨out', o1, o2, o3, o4⟩ := carry_ev y [q] (i : Int) (L := y.length + 1) (by omega) (y.length - i) (i + 1) (out.set i ((rd out i + rd y i * q) % 10000)) ((rd out i + rd y i * q) / 10000) (by omega) (by simpa using hol) (dig_set hod i (by omega)) (by omega) (by omega) (by rw [hs]; omega)
    obtain ⟨r, he, h⟩ := ih (i + 1) out' (by omega) o1 o2 (by rw [o3, hs])
    refine ⟨r, Ev.step (f := fun k => cubitref01_times.l1 k y [q] out (i : Int) 0 0) (fun k => ?_) (Ev.step (f := fun k => cubitref01_times.l1 k y [q] (out.set i ((rd out i + rd y i * q) % 10000)) (i : Int) ((rd out i + rd y i * q) / 10000) 1) (fun k => ?_) (Ev.step (fun k => ?_) (o4 r ?_))), h⟩
    · simp only [cubitref01_times.l0]
      rw [if_pos (by omega)]
    · simp only [cubitref01_times.l1]
      have e1 : rd [q] 0 = q := rfl
      have e2 : ((i : Int) + 0) = (i : Int) := by omega
      rw [if_pos (by simp), e2, w64 (n := (i : Int)) (by omega) (by omega), if_pos (by omega), if_pos (by omega), if_pos (by omega), if_pos (by omega), if_pos (by omega), e1,
        w64 (n := 0 + rd out i) (by omega) (by omega), w64 (n := rd y i * q) (by omega) (by omega), show (0 + rd out i + rd y i * q) = rd out i + rd y i * q by omega, w64 (n := rd out i + rd y i * q) (by omega) (by omega), tmod10k (by omega), tdiv10k (by omega), w64 (by omega) (by omega), w64 (by omega) (by omega), Int.toNat_natCast]
      rfl
    · simp only [cubitref01_times.l1]
      rw [if_neg (by simp), show (([q] : List Int).length : Int) = 1 from rfl, w64 (by omega) (by omega)]
      rfl
    · rw [w64 (by omega) (by omega)]
      exact he
theorem times_tells {y : List Int} {q : Int} (hy : Dig 10000 y) (h0 : 0 ≤ q) (h1 : q < 10000) (hl : y.length ≤ 100000) :
    ∃ r, Ev (fun k => cubitref01_times.f k y [q]) r ∧ Dig 10000 r ∧ Trim r ∧ r.length ≤ y.length + 1 ∧ val 10000 r = val 10000 y * q := by
  obtain ⟨r, he, h⟩ := times_ev hy h0 h1 hl y.length 0 (List.replicate (y.length + 1) 0) (by omega) (by simp) (dig_replicate (by omega) _) (by rw [val_replicate]; simp [val])
  refine ⟨r, Ev.congr (fun k => ?_) he, h⟩
  unfold cubitref01_times.f
  rw [show (([q] : List Int).length : Int) = 1 from rfl, w64 (by omega) (by omega), if_pos (by omega), if_pos (by omega), show ((y.length : Int) + 1).toNat = y.length + 1 by omega]
  rfl
end Go.Proofs.YthbdjmopolpjmaaGreatDoor.M
end
