/- Part 9 of the proof: FAmpleGuess. -/
import Derived.Test.YthbdjmopolpjmaaGreatDoorD00
import Derived.Test.YthbdjmopolpjmaaGreatDoorD01
section
namespace Go.Proofs.YthbdjmopolpjmaaGreatDoor.F
open Go.RowKit Go.Proofs.YthbdjmopolpjmaaGreatDoorW.PrintWords Go.Proofs.YthbdjmopolpjmaaGreatDoorW.PrintLast Go.Proofs.YthbdjmopolpjmaaGreatDoorW.PrintMore
attribute [local go_sem] max2_int min2_int max_two min_two max_three min_three max_four min_four
set_option linter.unusedVariables false
set_option linter.unusedSimpArgs false
mutual
def ample_guess.l0 : Nat → List Int → List Int → Int → Int → Int → Int → List Int → Int → Int → Option (Int × List Int)
  | 0, _, _, _, _, _, _, _, _, _ => none
  | k + 1, x0, x1, x5, x6, x7, x8, x39, x40, x41 => if x41 < x40 then (if 0 ≤ x41 then (if x41 < (x39.length : Int) then (if x41 < (x0.length : Int) then (ample_guess.l0 k (x0.set (x41 : Int).toNat ((IntKind.u64.wrap ((IntKind.u64.wrap ((IntKind.u64.wrap (rd x0 x41)) - (Go.bits .and .u64 (IntKind.u64.wrap (x7 + (IntKind.u64.wrap (x6 * (IntKind.u64.wrap (rd x39 x41)))))) 4294967295))) - x8)) % 4294967296)) x1 x5 x6 ((IntKind.u64.wrap (x7 + (IntKind.u64.wrap (x6 * (IntKind.u64.wrap (rd x39 x41)))))) / 4294967296) ((IntKind.u64.wrap ((IntKind.u64.wrap ((IntKind.u64.wrap (rd x0 x41)) - (Go.bits .and .u64 (IntKind.u64.wrap (x7 + (IntKind.u64.wrap (x6 * (IntKind.u64.wrap (rd x39 x41)))))) 4294967295))) - x8)) / 9223372036854775808) x39 x40 (wrap64 (x41 + 1))) else (none)) else (none)) else (none)) else (if 0 ≤ x5 then (if x5 < (x0.length : Int) then (ample_guess.l1 k (x0.set (x5 : Int).toNat ((IntKind.u64.wrap ((IntKind.u64.wrap ((IntKind.u64.wrap (rd x0 x5)) - x7)) - x8)) % 4294967296)) x1 x5 x6 (((IntKind.u64.wrap ((IntKind.u64.wrap ((IntKind.u64.wrap (rd x0 x5)) - x7)) - x8)) / 9223372036854775808) == 1)) else (none)) else (none))
def ample_guess.l1 : Nat → List Int → List Int → Int → Int → Bool → Option (Int × List Int)
  | 0, _, _, _, _, _ => none
  | k + 1, x0, x1, x5, x6, x13 => if x13 = true then (ample_guess.l2 k x0 x1 x5 x6 0 x1 (x1.length : Int) 0) else (some ((x6) % 4294967296, x0))
def ample_guess.l2 : Nat → List Int → List Int → Int → Int → Int → List Int → Int → Int → Option (Int × List Int)
  | 0, _, _, _, _, _, _, _, _ => none
  | k + 1, x0, x1, x5, x6, x7, x92, x93, x94 => if x94 < x93 then (if 0 ≤ x94 then (if x94 < (x92.length : Int) then (if x94 < (x0.length : Int) then (ample_guess.l2 k (x0.set (x94 : Int).toNat ((IntKind.u64.wrap (x7 + (IntKind.u64.wrap ((IntKind.u64.wrap (rd x0 x94)) + (IntKind.u64.wrap (rd x92 x94)))))) % 4294967296)) x1 x5 x6 ((IntKind.u64.wrap (x7 + (IntKind.u64.wrap ((IntKind.u64.wrap (rd x0 x94)) + (IntKind.u64.wrap (rd x92 x94)))))) / 4294967296) x92 x93 (wrap64 (x94 + 1))) else (none)) else (none)) else (none)) else (if 0 ≤ x5 then (if x5 < (x0.length : Int) then (ample_guess.l1 k (x0.set (x5 : Int).toNat ((IntKind.u64.wrap (x7 + (IntKind.u64.wrap (rd x0 x5)))) % 4294967296)) x1 x5 (IntKind.u64.wrap (x6 - 1)) (((IntKind.u64.wrap (x7 + (IntKind.u64.wrap (rd x0 x5)))) / 4294967296) == 0)) else (none)) else (none))
end
def ample_guess.f (k : Nat) (l0 : List Int) (l1 : List Int) : Option (Int × List Int) := if 0 ≤ (l1.length : Int) then (if (l1.length : Int) < (l0.length : Int) then (if 0 ≤ (wrap64 ((l1.length : Int) - 1)) then (if (wrap64 ((l1.length : Int) - 1)) < (l0.length : Int) then (if (wrap64 ((l1.length : Int) - 1)) < (l1.length : Int) then (if (IntKind.u64.wrap (rd l1 (wrap64 ((l1.length : Int) - 1)))) = 0 then (none) else (ample_guess.l0 k l0 l1 (l1.length : Int) (mn (IntKind.u64.wrap (Int.tdiv (Go.bits .or .u64 (IntKind.u64.wrap ((IntKind.u64.wrap (rd l0 (l1.length : Int))) * 4294967296)) (IntKind.u64.wrap (rd l0 (wrap64 ((l1.length : Int) - 1))))) (IntKind.u64.wrap (rd l1 (wrap64 ((l1.length : Int) - 1)))))) 4294967295) 0 0 l1 (l1.length : Int) 0)) else (none)) else (none)) else (none)) else (none)) else (none)
theorem ample_guess.mono_l : ∀ k, (∀ y0 y1 y2 y3 y4 y5 y6 y7 y8, LeO (ample_guess.l0 k y0 y1 y2 y3 y4 y5 y6 y7 y8) (ample_guess.l0 (k + 1) y0 y1 y2 y3 y4 y5 y6 y7 y8)) ∧ (∀ y0 y1 y2 y3 y4, LeO (ample_guess.l1 k y0 y1 y2 y3 y4) (ample_guess.l1 (k + 1) y0 y1 y2 y3 y4)) ∧ (∀ y0 y1 y2 y3 y4 y5 y6 y7, LeO (ample_guess.l2 k y0 y1 y2 y3 y4 y5 y6 y7) (ample_guess.l2 (k + 1) y0 y1 y2 y3 y4 y5 y6 y7))
  | 0 => ⟨fun _ _ _ _ _ _ _ _ _ r h => by simp [ample_guess.l0] at h, fun _ _ _ _ _ r h => by simp [ample_guess.l1] at h, fun _ _ _ _ _ _ _ _ r h => by simp [ample_guess.l2] at h⟩
  | k + 1 => by
    obtain ⟨ih0, ih1, ih2⟩ := ample_guess.mono_l k
    refine ⟨?_, ?_, ?_⟩
    · intro y0 y1 y2 y3 y4 y5 y6 y7 y8
      unfold ample_guess.l0
      repeat' first
      | (with_reducible exact ih0 _ _ _ _ _ _ _ _ _)
      | (with_reducible exact ih1 _ _ _ _ _)
      | (with_reducible exact ih2 _ _ _ _ _ _ _ _)
      | (with_reducible exact LeO.refl _)
      | (with_reducible exact LeO.none _)
      | (with_reducible refine LeO.ite ?_ ?_)
      | (with_reducible refine LeO.bind ?_ (fun _ => ?_))
      | exact ih0 _ _ _ _ _ _ _ _ _
      | exact ih1 _ _ _ _ _
      | exact ih2 _ _ _ _ _ _ _ _
      | exact LeO.none _
      | refine LeO.ite ?_ ?_
      | refine LeO.bind ?_ (fun _ => ?_)
    · intro y0 y1 y2 y3 y4
      unfold ample_guess.l1
      repeat' first
      | (with_reducible exact ih0 _ _ _ _ _ _ _ _ _)
      | (with_reducible exact ih1 _ _ _ _ _)
      | (with_reducible exact ih2 _ _ _ _ _ _ _ _)
      | (with_reducible exact LeO.refl _)
      | (with_reducible exact LeO.none _)
      | (with_reducible refine LeO.ite ?_ ?_)
      | (with_reducible refine LeO.bind ?_ (fun _ => ?_))
      | exact ih0 _ _ _ _ _ _ _ _ _
      | exact ih1 _ _ _ _ _
      | exact ih2 _ _ _ _ _ _ _ _
      | exact LeO.none _
      | refine LeO.ite ?_ ?_
      | refine LeO.bind ?_ (fun _ => ?_)
    · intro y0 y1 y2 y3 y4 y5 y6 y7
      unfold ample_guess.l2
      repeat' first
      | (with_reducible exact ih0 _ _ _ _ _ _ _ _ _)
      | (with_reducible exact ih1 _ _ _ _ _)
      | (with_reducible exact ih2 _ _ _ _ _ _ _ _)
      | (with_reducible exact LeO.refl _)
      | (with_reducible exact LeO.none _)
      | (with_reducible refine LeO.ite ?_ ?_)
      | (with_reducible refine LeO.bind ?_ (fun _ => ?_))
      | exact ih0 _ _ _ _ _ _ _ _ _
      | exact ih1 _ _ _ _ _
      | exact ih2 _ _ _ _ _ _ _ _
      | exact LeO.none _
      | refine LeO.ite ?_ ?_
      | refine LeO.bind ?_ (fun _ => ?_)
theorem ample_guess.mono : ∀ a0 a1 k, LeO (ample_guess.f k a0 a1) (ample_guess.f (k + 1) a0 a1) := by
  intro a0 a1 k
  obtain ⟨ih0, ih1, ih2⟩ := ample_guess.mono_l k
  unfold ample_guess.f
  repeat' first
      | (with_reducible exact ih0 _ _ _ _ _ _ _ _ _)
      | (with_reducible exact ih1 _ _ _ _ _)
      | (with_reducible exact ih2 _ _ _ _ _ _ _ _)
      | (with_reducible exact LeO.refl _)
      | (with_reducible exact LeO.none _)
      | (with_reducible refine LeO.ite ?_ ?_)
      | (with_reducible refine LeO.bind ?_ (fun _ => ?_))
      | exact ih0 _ _ _ _ _ _ _ _ _
      | exact ih1 _ _ _ _ _
      | exact ih2 _ _ _ _ _ _ _ _
      | exact LeO.none _
      | refine LeO.ite ?_ ?_
      | refine LeO.bind ?_ (fun _ => ?_)
set_option maxHeartbeats 8000000 in
set_option maxRecDepth 100000 in
theorem ample_guess.calls (k : Nat) (P0_ : Nat → Prop) (u9000_ : Value) (l0 : List Int) (A1 : Option Addr) (c1 : Nat) (l1 : List Int) (r1 : Int) (r2 : List Int) (w0 w : World) (hB : Below w0.heap.size w0 w) (ho0 : Kd.R (Kd.int .u32) 131 w w0.heap.size P0_ u9000_ l0) (hr1 : ∀ W_, Kept w W_ (fun k_ => P0_ k_) → Kd.C (Kd.int .u32) W_ A1 l1.length l1) (hc1 : l1.length ≤ c1) (h : ample_guess.f k l0 l1 = some (r1, r2)) :
    Calls Tryz.prog 209 #[u9000_, .slice A1 l1.length c1] w fun e w' => e = .returned (.int .u32 r1) ∧ Kd.R (Kd.int .u32) 131 w' w0.heap.size (fun k_ => (P0_ k_ ∨ w.heap.size ≤ k_)) u9000_ r2 ∧ Below w0.heap.size w0 w' ∧ Kept w w' (fun k_ => P0_ k_) := by
  have HO0 := Aside0.mk (show Kd.R (Kd.int .u32) 131 w w0.heap.size (fun k_ => (P0_ k_ ∨ w.heap.size ≤ k_)) u9000_ l0 from Kd.R_mono ho0 (fun k_ hk => (.inl hk)))
  have HR1 := Aside0.mk hr1
  have HC1 := Aside0.mk hc1
  clear hr1 hc1
  have HK := Aside0.mk (Kept.refl w (fun k_ => P0_ k_))
  have HW0 := Aside0.mk hB.size
  have HB := Aside0.mk hB
  clear hB
  have H : (if 0 ≤ (l1.length : Int) then (if (l1.length : Int) < (l0.length : Int) then (if 0 ≤ (wrap64 ((l1.length : Int) - 1)) then (if (wrap64 ((l1.length : Int) - 1)) < (l0.length : Int) then (if (wrap64 ((l1.length : Int) - 1)) < (l1.length : Int) then (if (IntKind.u64.wrap (rd l1 (wrap64 ((l1.length : Int) - 1)))) = 0 then (none) else (ample_guess.l0 k l0 l1 (l1.length : Int) (mn (IntKind.u64.wrap (Int.tdiv (Go.bits .or .u64 (IntKind.u64.wrap ((IntKind.u64.wrap (rd l0 (l1.length : Int))) * 4294967296)) (IntKind.u64.wrap (rd l0 (wrap64 ((l1.length : Int) - 1))))) (IntKind.u64.wrap (rd l1 (wrap64 ((l1.length : Int) - 1)))))) 4294967295) 0 0 l1 (l1.length : Int) 0)) else (none)) else (none)) else (none)) else (none)) else (none)) = some (r1, r2) := h
  clear h
  by_cases c3 : 0 ≤ (l1.length : Int)
  · rw [if_pos c3] at H
    have c3b0 : decide (0 ≤ (l1.length : Int)) = true := decide_eq_true c3
    have c3b1 : decide (0 ≤ l1.length) = true := decide_eq_true (by omega)
    clear c3
    by_cases c4 : (l1.length : Int) < (l0.length : Int)
    · rw [if_pos c4] at H
      have c4b0 : decide ((l1.length : Int) < (l0.length : Int)) = true := decide_eq_true c4
      have c4b1 : decide (l1.length < l0.length) = true := decide_eq_true (Int.ofNat_lt.mp c4)
      clear c4
      obtain ⟨ji5, hji5⟩ : ∃ j_ : Int, (wrap64 ((l1.length : Int) - 1)) = j_ := ⟨_, rfl⟩
      replace H : (if 0 ≤ (ji5) then (if (ji5) < (l0.length : Int) then (if (ji5) < (l1.length : Int) then (if (IntKind.u64.wrap (rd l1 (ji5))) = 0 then (none) else (ample_guess.l0 k l0 l1 (l1.length : Int) (mn (IntKind.u64.wrap (Int.tdiv (Go.bits .or .u64 (IntKind.u64.wrap ((IntKind.u64.wrap (rd l0 (l1.length : Int))) * 4294967296)) (IntKind.u64.wrap (rd l0 (ji5)))) (IntKind.u64.wrap (rd l1 (ji5))))) 4294967295) 0 0 l1 (l1.length : Int) 0)) else (none)) else (none)) else (none)) = some (r1, r2) := by first | (rw [hji5] at H; exact H) | (simp only [hji5] at H ⊢; exact H)
      have hji5w : (IntKind.i64.wrap ((l1.length : Int) - 1)) = ji5 := (i64_w _).trans hji5
      by_cases c6 : 0 ≤ (ji5)
      · rw [if_pos c6] at H
        have c6b0 : decide (0 ≤ (ji5)) = true := decide_eq_true c6
        clear c6
        by_cases c7 : (ji5) < (l0.length : Int)
        · rw [if_pos c7] at H
          have c7b0 : decide ((ji5) < (l0.length : Int)) = true := decide_eq_true c7
          clear c7
          by_cases c8 : (ji5) < (l1.length : Int)
          · rw [if_pos c8] at H
            have c8b0 : decide ((ji5) < (l1.length : Int)) = true := decide_eq_true c8
            clear c8
            by_cases c9 : (IntKind.u64.wrap (rd l1 (ji5))) = 0
            · rw [if_pos c9] at H
              exact absurd H (by simp)
            · rw [if_neg c9] at H
              have c9b0 : ((IntKind.u64.wrap (rd l1 (ji5))) == 0) = false := beq_eq_false_iff_ne.mpr c9
              have c9b1 : ((IntKind.u64.wrap (rd l1 (ji5))) != 0) = true := bne_iff_ne.mpr c9
              obtain ⟨ji10, hji10⟩ : ∃ j_ : Int, (mn (IntKind.u64.wrap (Int.tdiv (Go.bits .or .u64 (IntKind.u64.wrap ((IntKind.u64.wrap (rd l0 (l1.length : Int))) * 4294967296)) (IntKind.u64.wrap (rd l0 (ji5)))) (IntKind.u64.wrap (rd l1 (ji5))))) 4294967295) = j_ := ⟨_, rfl⟩
              replace H : (ample_guess.l0 k l0 l1 (l1.length : Int) ji10 0 0 l1 (l1.length : Int) 0) = some (r1, r2) := by first | (rw [hji10] at H; exact H) | (simp only [hji10] at H ⊢; exact H)
              have hji10_ : (if 4294967295 < (IntKind.u64.wrap (Int.tdiv (Go.bits .or .u64 (IntKind.u64.wrap ((IntKind.u64.wrap (rd l0 (l1.length : Int))) * 4294967296)) (IntKind.u64.wrap (rd l0 (ji5)))) (IntKind.u64.wrap (rd l1 (ji5))))) then 4294967295 else (IntKind.u64.wrap (Int.tdiv (Go.bits .or .u64 (IntKind.u64.wrap ((IntKind.u64.wrap (rd l0 (l1.length : Int))) * 4294967296)) (IntKind.u64.wrap (rd l0 (ji5)))) (IntKind.u64.wrap (rd l1 (ji5)))))) = ji10 := hji10
              have H' := Aside0.mk H
              clear H
              obtain ⟨Ao11, co11, eo11⟩ := Kd.R_slice HO0.out
              subst eo11
              have p160 : 0 ≤ ((l1.length : Int) : Int) := of_decide_eq_true (by first | (with_reducible assumption) | assumption)
              have q160 : (l1.length : Int) < (l0.length : Int) := of_decide_eq_true (by first | (with_reducible assumption) | assumption)
              obtain ⟨ad160, e160, hx160_0⟩ := Kd.at_int (Kd.R_reads' HO0.out).2.2 (l1.length : Int) p160 q160
              cases e160
              (try simp only [Go.IntWalk.toNatUp] at hx160_0)
              replace p160 := eq_true p160
              replace q160 := eq_true q160
              have p161 : 0 ≤ ((ji5) : Int) := of_decide_eq_true (by first | (with_reducible assumption) | assumption)
              have q161 : (ji5) < (l0.length : Int) := of_decide_eq_true (by first | (with_reducible assumption) | assumption)
              obtain ⟨ad161, e161, hx161_0⟩ := Kd.at_int (Kd.R_reads' HO0.out).2.2 (ji5) p161 q161
              obtain rfl : ad160 = ad161 := (by injection e161)
              replace p161 := eq_true p161
              replace q161 := eq_true q161
              have p162 : 0 ≤ ((ji5) : Int) := of_decide_eq_true (by first | (with_reducible assumption) | assumption)
              have q162 : (ji5) < (l1.length : Int) := of_decide_eq_true (by first | (with_reducible assumption) | assumption)
              obtain ⟨ad162, e162, hx162_0⟩ := Kd.at_int (Kd.C_kept_now HR1.out HK.out) (ji5) p162 q162
              cases e162
              replace p162 := eq_true p162
              replace q162 := eq_true q162
              obtain ⟨go00, co00, eo00, gb00, gl00, cl00, HG00⟩ := Kd.R_form HO0.out (by have := of_eq_true q160; omega)
              (first | cases eo00 | (injection eo00 with ea_ en_ ec_; (first | subst ea_ | (injection ea_ with ea_; subst ea_)); subst ec_; clear en_))
              clear gb00 gl00 HG00
              (first | simp only [add_plain] at hx160_0 | skip)
              (first | simp only [add_plain] at hx161_0 | skip)
              go_enter Tryz.func209, Tryz.ntmps209
              go_wp2
              repeat (go_quiet (fail); try go_wp2)
              go_loopg [7, 8, 41] k (fun kq v7 v8 v41 w' => ∃ (x0_1 : List Int) (x7_1 : Int) (x8_1 : Int) (x41_1 : Int), v7 = .int .u64 x7_1 ∧ v8 = .int .u64 x8_1 ∧ v41 = .int .i64 x41_1 ∧ Aside0 (ample_guess.l0 kq x0_1 l1 (l1.length : Int) ji10 x7_1 x8_1 l1 (l1.length : Int) x41_1 = some (r1, r2)) ∧ Aside0 (kq ≤ k) ∧ Aside0 (Kd.R (Kd.int .u32) 131 w' w0.heap.size (fun k_ => (P0_ k_ ∨ w.heap.size ≤ k_)) (.slice (some ⟨go00, 0, none⟩) l0.length co11) x0_1) ∧ Aside0 (Kept w w' (fun k_ => P0_ k_)) ∧ Aside0 (Below w0.heap.size w0 w'))
              case atStart => exact ⟨(l0), (0), (0), (0), (by first | rfl | (simp; done) | (simp [*]; done)), (by first | rfl | (simp; done) | (simp [*]; done)), (by first | rfl | (simp; done) | (simp [*]; done)), H', ⟨Nat.le_refl _⟩, ⟨by (with_reducible repeat (first | apply Kd.R_alloc | apply Kd.R_drewN | apply Kd.R_drew)); exact HO0.out⟩, ⟨by repeat (first | (with_reducible first | exact HK.out | apply Kept.alloc | apply Kept.drewN | apply Kept.drew) | exact HK.out)⟩, ⟨by repeat (first | (with_reducible first | exact HB.out | apply below_alloc | apply pw_below_drewN | apply below_drew1) | exact HB.out)⟩⟩
              case round =>
                clear H'
                try clear c1
                try clear p1
                try clear q1
                try clear hx1
                try clear c2
                try clear p2
                try clear c3
                try clear c3b0
                try clear c3b1
                try clear c4
                try clear c4b0
                try clear c4b1
                try clear c6
                try clear c6b0
                try clear p6
                try clear c7
                try clear c7b0
                try clear c8
                try clear c8b0
                try clear c9
                try clear c9b0
                try clear c9b1
                try clear hx160_0
                try clear hx161_0
                try clear hx162_0
                try clear p160
                try clear p161
                try clear p162
                try clear q160
                try clear q161
                try clear q162
                obtain ⟨x0_1, x7_1, x8_1, x41_1, rfl, rfl, rfl, HA, HK1, HO_0, HK, HB⟩ := hrel
                have hl0_1 := (Kd.R_reads' HO_0.out).1
                rw [hl0_1] at HO_0
                (try simp only [hl0_1])
                cases gk with
                | zero => exact absurd HA.out (by simp [ample_guess.l0])
                | succ k1 =>
                  have H := HA.out
                  clear HA
                  simp only [ample_guess.l0] at H
                  by_cases c12 : x41_1 < (l1.length : Int)
                  · rw [if_pos c12] at H
                    have c12b0 : decide (x41_1 < (l1.length : Int)) = true := decide_eq_true c12
                    clear c12
                    by_cases c13 : 0 ≤ x41_1
                    · rw [if_pos c13] at H
                      have c13b0 : decide (0 ≤ x41_1) = true := decide_eq_true c13
                      clear c13
                      by_cases c14 : x41_1 < (l1.length : Int)
                      · rw [if_pos c14] at H
                        have c14b0 : decide (x41_1 < (l1.length : Int)) = true := decide_eq_true c14
                        clear c14
                        by_cases c15 : x41_1 < (x0_1.length : Int)
                        · rw [if_pos c15] at H
                          have c15b0 : decide (x41_1 < (x0_1.length : Int)) = true := decide_eq_true c15
                          clear c15
                          obtain ⟨y165, hy165⟩ : ∃ y_ : List Int, y_ = (x0_1.set (x41_1 : Int).toNat ((IntKind.u64.wrap ((IntKind.u64.wrap ((IntKind.u64.wrap (rd x0_1 x41_1)) - (Go.bits .and .u64 (IntKind.u64.wrap (x7_1 + (IntKind.u64.wrap (ji10 * (IntKind.u64.wrap (rd l1 x41_1)))))) 4294967295))) - x8_1)) % 4294967296)) := ⟨_, rfl⟩
                          replace H : (ample_guess.l0 k1 y165 l1 (l1.length : Int) ji10 ((IntKind.u64.wrap (x7_1 + (IntKind.u64.wrap (ji10 * (IntKind.u64.wrap (rd l1 x41_1)))))) / 4294967296) ((IntKind.u64.wrap ((IntKind.u64.wrap ((IntKind.u64.wrap (rd x0_1 x41_1)) - (Go.bits .and .u64 (IntKind.u64.wrap (x7_1 + (IntKind.u64.wrap (ji10 * (IntKind.u64.wrap (rd l1 x41_1)))))) 4294967295))) - x8_1)) / 9223372036854775808) l1 (l1.length : Int) (wrap64 (x41_1 + 1))) = some (r1, r2) := by first | (rw [hy165]; with_reducible exact H) | (have H2_ := (Option.bind_some _ _).symm.trans H; rw [hy165]; with_reducible exact H2_) | (have H2_ := (Option.bind_some _ _).symm.trans H; with_reducible exact H2_) | with_reducible exact H | (rw [hy165]; exact H) | exact H
                          have Ny165 := Aside0.mk hy165
                          clear hy165
                          have H' := Aside0.mk H
                          clear H
                          have p163 : 0 ≤ (x41_1 : Int) := of_decide_eq_true (by first | (with_reducible assumption) | assumption)
                          have q163 : x41_1 < (l1.length : Int) := of_decide_eq_true (by first | (with_reducible assumption) | assumption)
                          obtain ⟨ad163, e163, hx163_0⟩ := Kd.at_int (Kd.C_kept_now HR1.out HK.out) x41_1 p163 q163
                          obtain rfl : ad162 = ad163 := (by injection e163)
                          replace p163 := eq_true p163
                          replace q163 := eq_true q163
                          have p164 : 0 ≤ (x41_1 : Int) := of_decide_eq_true (by first | (with_reducible assumption) | assumption)
                          have q164 : x41_1 < (x0_1.length : Int) := of_decide_eq_true (by first | (with_reducible assumption) | assumption)
                          obtain ⟨ad164, e164, hx164_0⟩ := Kd.at_int (Kd.R_reads' HO_0.out).2.2 x41_1 p164 q164
                          obtain rfl : (⟨go00, 0, none⟩ : Addr) = ad164 := (by injection e164)
                          replace p164 := eq_true p164
                          replace q164 := eq_true q164
                          have p16 : 0 ≤ (x41_1 : Int) := of_decide_eq_true (by first | (with_reducible assumption) | assumption)
                          have q16 : (x41_1 : Int) < ((x0_1.length : Int) : Int) := of_decide_eq_true (by first | (with_reducible assumption) | assumption)
                          obtain ⟨go16, co16, eo16, gb16, gl16, cl16, HG16⟩ := Kd.R_form HO_0.out (by omega)
                          (first | cases eo16 | (injection eo16 with ea_ en_ ec_; (first | subst ea_ | (injection ea_ with ea_; subst ea_)); subst ec_; clear en_))
                          have GB16 := Aside0.mk gb16
                          have GG16 := Aside0.mk HG16
                          clear gb16 gl16 HG16
                          have HMgo16 := Aside0.mk (show (P0_ go00 ∨ w.heap.size ≤ go00) from (HO_0.out.1 _ rfl))
                          (first | simp only [add_plain] at hx160_0 | skip)
                          (first | simp only [add_plain] at hx161_0 | skip)
                          (first | simp only [add_plain] at hx164_0 | skip)
                          obtain ⟨hx16_0, hf16_0⟩ := Kd.R_celln 0 HO_0.out (x41_1 : Int) p16 q16
                          (try simp only [Int.toNat_natCast] at hx16_0 hf16_0)
                          replace p16 := eq_true p16
                          replace q16 := eq_true q16
                          have HP17 := Kd.R_putg HO_0.out (x41_1 : Int) ((IntKind.u64.wrap ((IntKind.u64.wrap ((IntKind.u64.wrap (rd x0_1 x41_1)) - (Go.bits .and .u64 (IntKind.u64.wrap (x7_1 + (IntKind.u64.wrap (ji10 * (IntKind.u64.wrap (rd l1 x41_1)))))) 4294967295))) - x8_1)) % 4294967296)
                          go_wp2_with (first | ((with_reducible refine gate_store (t := 131) (p := 68) rfl ?_); (try (rw [drewN_self wr]; generalize hq_ : World.drewN wr _ = wr; have n0_ := Aside0.mk (Kd.R_at hq_ HO_0.out); have n1_ := Aside0.mk (kept_at hq_ HK.out); have n2_ := Aside0.mk (below_at hq_ HB.out); clear hq_ HO_0 HK HB; have HO_0 := n0_; have HK := n1_; have HB := n2_; clear n0_ n1_ n2_; (try (have HP17 := Kd.R_putg HO_0.out (x41_1 : Int) ((IntKind.u64.wrap ((IntKind.u64.wrap ((IntKind.u64.wrap (rd x0_1 x41_1)) - (Go.bits .and .u64 (IntKind.u64.wrap (x7_1 + (IntKind.u64.wrap (ji10 * (IntKind.u64.wrap (rd l1 x41_1)))))) 4294967295))) - x8_1)) % 4294967296))))); refine store_event (t := 131) (p := 68) (v := ?vo_w18) (w1 := (wr.setCell ⟨go00, (x41_1 : Int).toNat, none⟩ (.int .u32 ((IntKind.u64.wrap ((IntKind.u64.wrap ((IntKind.u64.wrap (rd x0_1 x41_1)) - (Go.bits .and .u64 (IntKind.u64.wrap (x7_1 + (IntKind.u64.wrap (ji10 * (IntKind.u64.wrap (rd l1 x41_1)))))) 4294967295))) - x8_1)) % 4294967296)))) ?hg ?ho ?hn ?hr ?_; (case ho => rfl); (case hg => rfl); (case hn => rfl); (case hr => first | (go_simp; done) | (go_simp; rfl)); intro w18 hw; have hg : wr.grownBy w18 (some go00) := (by rw [hw]; exact HP17.2); have hp_ : Kd.R (Kd.int .u32) 131 w18 w0.heap.size (fun k_ => (P0_ k_ ∨ w.heap.size ≤ k_)) (.slice (some ⟨go00, 0, none⟩) x0_1.length co11) y165 := (by rw [hw, Ny165.out]; exact HP17.1); clear HP17; have n0_ := Aside0.mk (hp_); have n1_ := Aside0.mk ((by rw [hw]; exact below_set (HB.out) GB16.out : Below w0.heap.size w0 w18)); have n2_ := Aside0.mk (Kept.of_grown (S := (fun k_ => P0_ k_)) hg (by repeat (first | (with_reducible first | exact HK.out | apply Kept.alloc | apply Kept.drewN | apply Kept.drew) | exact HK.out)) (fun k_ e_ => (HO_0.out.1 k_ e_))); clear HO_0; clear HB; clear HK; have HO_0 := n0_; have HB := n1_; have HK := n2_; clear n0_ n1_ n2_; clear hg hw hp_))
                          repeat (go_quiet (first | ((with_reducible refine gate_store (t := 131) (p := 68) rfl ?_); (try (rw [drewN_self wr]; generalize hq_ : World.drewN wr _ = wr; have n0_ := Aside0.mk (Kd.R_at hq_ HO_0.out); have n1_ := Aside0.mk (kept_at hq_ HK.out); have n2_ := Aside0.mk (below_at hq_ HB.out); clear hq_ HO_0 HK HB; have HO_0 := n0_; have HK := n1_; have HB := n2_; clear n0_ n1_ n2_; (try (have HP17 := Kd.R_putg HO_0.out (x41_1 : Int) ((IntKind.u64.wrap ((IntKind.u64.wrap ((IntKind.u64.wrap (rd x0_1 x41_1)) - (Go.bits .and .u64 (IntKind.u64.wrap (x7_1 + (IntKind.u64.wrap (ji10 * (IntKind.u64.wrap (rd l1 x41_1)))))) 4294967295))) - x8_1)) % 4294967296))))); refine store_event (t := 131) (p := 68) (v := ?vo_w18) (w1 := (wr.setCell ⟨go00, (x41_1 : Int).toNat, none⟩ (.int .u32 ((IntKind.u64.wrap ((IntKind.u64.wrap ((IntKind.u64.wrap (rd x0_1 x41_1)) - (Go.bits .and .u64 (IntKind.u64.wrap (x7_1 + (IntKind.u64.wrap (ji10 * (IntKind.u64.wrap (rd l1 x41_1)))))) 4294967295))) - x8_1)) % 4294967296)))) ?hg ?ho ?hn ?hr ?_; (case ho => rfl); (case hg => rfl); (case hn => rfl); (case hr => first | (go_simp; done) | (go_simp; rfl)); intro w18 hw; have hg : wr.grownBy w18 (some go00) := (by rw [hw]; exact HP17.2); have hp_ : Kd.R (Kd.int .u32) 131 w18 w0.heap.size (fun k_ => (P0_ k_ ∨ w.heap.size ≤ k_)) (.slice (some ⟨go00, 0, none⟩) x0_1.length co11) y165 := (by rw [hw, Ny165.out]; exact HP17.1); clear HP17; have n0_ := Aside0.mk (hp_); have n1_ := Aside0.mk ((by rw [hw]; exact below_set (HB.out) GB16.out : Below w0.heap.size w0 w18)); have n2_ := Aside0.mk (Kept.of_grown (S := (fun k_ => P0_ k_)) hg (by repeat (first | (with_reducible first | exact HK.out | apply Kept.alloc | apply Kept.drewN | apply Kept.drew) | exact HK.out)) (fun k_ e_ => (HO_0.out.1 k_ e_))); clear HO_0; clear HB; clear HK; have HO_0 := n0_; have HB := n1_; have HK := n2_; clear n0_ n1_ n2_; clear hg hw hp_)); try go_wp2_with (first | ((with_reducible refine gate_store (t := 131) (p := 68) rfl ?_); (try (rw [drewN_self wr]; generalize hq_ : World.drewN wr _ = wr; have n0_ := Aside0.mk (Kd.R_at hq_ HO_0.out); have n1_ := Aside0.mk (kept_at hq_ HK.out); have n2_ := Aside0.mk (below_at hq_ HB.out); clear hq_ HO_0 HK HB; have HO_0 := n0_; have HK := n1_; have HB := n2_; clear n0_ n1_ n2_; (try (have HP17 := Kd.R_putg HO_0.out (x41_1 : Int) ((IntKind.u64.wrap ((IntKind.u64.wrap ((IntKind.u64.wrap (rd x0_1 x41_1)) - (Go.bits .and .u64 (IntKind.u64.wrap (x7_1 + (IntKind.u64.wrap (ji10 * (IntKind.u64.wrap (rd l1 x41_1)))))) 4294967295))) - x8_1)) % 4294967296))))); refine store_event (t := 131) (p := 68) (v := ?vo_w18) (w1 := (wr.setCell ⟨go00, (x41_1 : Int).toNat, none⟩ (.int .u32 ((IntKind.u64.wrap ((IntKind.u64.wrap ((IntKind.u64.wrap (rd x0_1 x41_1)) - (Go.bits .and .u64 (IntKind.u64.wrap (x7_1 + (IntKind.u64.wrap (ji10 * (IntKind.u64.wrap (rd l1 x41_1)))))) 4294967295))) - x8_1)) % 4294967296)))) ?hg ?ho ?hn ?hr ?_; (case ho => rfl); (case hg => rfl); (case hn => rfl); (case hr => first | (go_simp; done) | (go_simp; rfl)); intro w18 hw; have hg : wr.grownBy w18 (some go00) := (by rw [hw]; exact HP17.2); have hp_ : Kd.R (Kd.int .u32) 131 w18 w0.heap.size (fun k_ => (P0_ k_ ∨ w.heap.size ≤ k_)) (.slice (some ⟨go00, 0, none⟩) x0_1.length co11) y165 := (by rw [hw, Ny165.out]; exact HP17.1); clear HP17; have n0_ := Aside0.mk (hp_); have n1_ := Aside0.mk ((by rw [hw]; exact below_set (HB.out) GB16.out : Below w0.heap.size w0 w18)); have n2_ := Aside0.mk (Kept.of_grown (S := (fun k_ => P0_ k_)) hg (by repeat (first | (with_reducible first | exact HK.out | apply Kept.alloc | apply Kept.drewN | apply Kept.drew) | exact HK.out)) (fun k_ e_ => (HO_0.out.1 k_ e_))); clear HO_0; clear HB; clear HK; have HO_0 := n0_; have HB := n1_; have HK := n2_; clear n0_ n1_ n2_; clear hg hw hp_)))
                          (try simp only [← hl0_1])
                          (try simp only [add_plain])
                          go_roundg k1
                          case measure => have := HK1.out; omega
                          case rel => exact ⟨(y165), ((IntKind.u64.wrap (x7_1 + (IntKind.u64.wrap (ji10 * (IntKind.u64.wrap (rd l1 x41_1)))))) / 4294967296), ((IntKind.u64.wrap ((IntKind.u64.wrap ((IntKind.u64.wrap (rd x0_1 x41_1)) - (Go.bits .and .u64 (IntKind.u64.wrap (x7_1 + (IntKind.u64.wrap (ji10 * (IntKind.u64.wrap (rd l1 x41_1)))))) 4294967295))) - x8_1)) / 9223372036854775808), (wrap64 (x41_1 + 1)), (by first | rfl | (simp; done) | (simp only [← hji10] <;> (first | rfl | simp)) | (simp [*]; done)), (by first | rfl | (simp; done) | (simp only [← hji10] <;> (first | rfl | simp)) | (simp [*]; done)), (by first | rfl | (simp; done) | (simp [*]; done)), H', ⟨by have := HK1.out; omega⟩, ⟨by (try simp only [hl0_1]); (with_reducible repeat (first | apply Kd.R_alloc | apply Kd.R_drewN | apply Kd.R_drew)); exact HO_0.out⟩, ⟨by repeat (first | (with_reducible first | exact HK.out | apply Kept.alloc | apply Kept.drewN | apply Kept.drew) | exact HK.out)⟩, ⟨by repeat (first | (with_reducible first | exact HB.out | apply below_alloc | apply pw_below_drewN | apply below_drew1) | exact HB.out)⟩⟩
                        · rw [if_neg c15] at H
                          exact absurd H (by simp)
                      · rw [if_neg c14] at H
                        exact absurd H (by simp)
                    · rw [if_neg c13] at H
                      exact absurd H (by simp)
                  · rw [if_neg c12] at H
                    have c12b0 : decide (x41_1 < (l1.length : Int)) = false := decide_eq_false c12
                    (try rw [hl0_1] at c12b0)
                    (try rw [hl0_2] at c12b0)
                    (try rw [hl0_3] at c12b0)
                    clear c12
                    by_cases c19 : 0 ≤ (l1.length : Int)
                    · rw [if_pos c19] at H
                      have c19b0 : decide (0 ≤ (l1.length : Int)) = true := decide_eq_true c19
                      have c19b1 : decide (0 ≤ l1.length) = true := decide_eq_true (by omega)
                      clear c19
                      by_cases c20 : (l1.length : Int) < (x0_1.length : Int)
                      · rw [if_pos c20] at H
                        have c20b0 : decide ((l1.length : Int) < (x0_1.length : Int)) = true := decide_eq_true c20
                        have c20b1 : decide (l1.length < x0_1.length) = true := decide_eq_true (Int.ofNat_lt.mp c20)
                        clear c20
                        obtain ⟨y167, hy167⟩ : ∃ y_ : List Int, y_ = (x0_1.set ((l1.length : Int) : Int).toNat ((IntKind.u64.wrap ((IntKind.u64.wrap ((IntKind.u64.wrap (rd x0_1 (l1.length : Int))) - x7_1)) - x8_1)) % 4294967296)) := ⟨_, rfl⟩
                        replace H : (ample_guess.l1 k1 y167 l1 (l1.length : Int) ji10 (((IntKind.u64.wrap ((IntKind.u64.wrap ((IntKind.u64.wrap (rd x0_1 (l1.length : Int))) - x7_1)) - x8_1)) / 9223372036854775808) == 1)) = some (r1, r2) := by first | (rw [hy167]; with_reducible exact H) | (have H2_ := (Option.bind_some _ _).symm.trans H; rw [hy167]; with_reducible exact H2_) | (have H2_ := (Option.bind_some _ _).symm.trans H; with_reducible exact H2_) | with_reducible exact H | (rw [hy167]; exact H) | exact H
                        have Ny167 := Aside0.mk hy167
                        clear hy167
                        have H' := Aside0.mk H
                        clear H
                        have p166 : 0 ≤ ((l1.length : Int) : Int) := of_decide_eq_true (by first | (with_reducible assumption) | assumption)
                        have q166 : (l1.length : Int) < (x0_1.length : Int) := of_decide_eq_true (by first | (with_reducible assumption) | assumption)
                        obtain ⟨ad166, e166, hx166_0⟩ := Kd.at_int (Kd.R_reads' HO_0.out).2.2 (l1.length : Int) p166 q166
                        obtain rfl : (⟨go00, 0, none⟩ : Addr) = ad166 := (by injection e166)
                        (try simp only [Go.IntWalk.toNatUp] at hx166_0)
                        (try simp only [hl0_1] at p166)
                        (try simp only [hl0_1] at q166)
                        (try simp only [hl0_1] at hx166_0)
                        replace p166 := eq_true p166
                        replace q166 := eq_true q166
                        have p21 : 0 ≤ ((l1.length : Int) : Int) := of_decide_eq_true (by first | (with_reducible assumption) | assumption)
                        have q21 : ((l1.length : Int) : Int) < ((x0_1.length : Int) : Int) := of_decide_eq_true (by first | (with_reducible assumption) | assumption)
                        obtain ⟨go21, co21, eo21, gb21, gl21, cl21, HG21⟩ := Kd.R_form HO_0.out (by omega)
                        (first | cases eo21 | (injection eo21 with ea_ en_ ec_; (first | subst ea_ | (injection ea_ with ea_; subst ea_)); subst ec_; clear en_))
                        have GB21 := Aside0.mk gb21
                        have GG21 := Aside0.mk HG21
                        clear gb21 gl21 HG21
                        have HMgo21 := Aside0.mk (show (P0_ go00 ∨ w.heap.size ≤ go00) from (HO_0.out.1 _ rfl))
                        (first | simp only [add_plain] at hx166_0 | skip)
                        obtain ⟨hx21_0, hf21_0⟩ := Kd.R_celln 0 HO_0.out ((l1.length : Int) : Int) p21 q21
                        (try simp only [Int.toNat_natCast] at hx21_0 hf21_0)
                        replace p21 := eq_true p21
                        replace q21 := eq_true q21
                        have HP22 := Kd.R_putg HO_0.out ((l1.length : Int) : Int) ((IntKind.u64.wrap ((IntKind.u64.wrap ((IntKind.u64.wrap (rd x0_1 (l1.length : Int))) - x7_1)) - x8_1)) % 4294967296)
                        go_wp2_with (first | ((with_reducible refine gate_store (t := 131) (p := 85) rfl ?_); (try (rw [drewN_self wr]; generalize hq_ : World.drewN wr _ = wr; have n0_ := Aside0.mk (Kd.R_at hq_ HO_0.out); have n1_ := Aside0.mk (kept_at hq_ HK.out); have n2_ := Aside0.mk (below_at hq_ HB.out); clear hq_ HO_0 HK HB; have HO_0 := n0_; have HK := n1_; have HB := n2_; clear n0_ n1_ n2_; (try (have HP22 := Kd.R_putg HO_0.out ((l1.length : Int) : Int) ((IntKind.u64.wrap ((IntKind.u64.wrap ((IntKind.u64.wrap (rd x0_1 (l1.length : Int))) - x7_1)) - x8_1)) % 4294967296))))); refine store_event (t := 131) (p := 85) (v := ?vo_w23) (w1 := (wr.setCell ⟨go00, ((l1.length : Int) : Int).toNat, none⟩ (.int .u32 ((IntKind.u64.wrap ((IntKind.u64.wrap ((IntKind.u64.wrap (rd x0_1 (l1.length : Int))) - x7_1)) - x8_1)) % 4294967296)))) ?hg ?ho ?hn ?hr ?_; (case ho => rfl); (case hg => rfl); (case hn => rfl); (case hr => first | (go_simp; done) | (go_simp; rfl)); intro w23 hw; have hg : wr.grownBy w23 (some go00) := (by rw [hw]; exact HP22.2); have hp_ : Kd.R (Kd.int .u32) 131 w23 w0.heap.size (fun k_ => (P0_ k_ ∨ w.heap.size ≤ k_)) (.slice (some ⟨go00, 0, none⟩) x0_1.length co11) y167 := (by rw [hw, Ny167.out]; exact HP22.1); clear HP22; have n0_ := Aside0.mk (hp_); have n1_ := Aside0.mk ((by rw [hw]; exact below_set (HB.out) GB21.out : Below w0.heap.size w0 w23)); have n2_ := Aside0.mk (Kept.of_grown (S := (fun k_ => P0_ k_)) hg (by repeat (first | (with_reducible first | exact HK.out | apply Kept.alloc | apply Kept.drewN | apply Kept.drew) | exact HK.out)) (fun k_ e_ => (HO_0.out.1 k_ e_))); clear HO_0; clear HB; clear HK; have HO_0 := n0_; have HB := n1_; have HK := n2_; clear n0_ n1_ n2_; clear hg hw hp_))
                        repeat (go_quiet (first | ((with_reducible refine gate_store (t := 131) (p := 85) rfl ?_); (try (rw [drewN_self wr]; generalize hq_ : World.drewN wr _ = wr; have n0_ := Aside0.mk (Kd.R_at hq_ HO_0.out); have n1_ := Aside0.mk (kept_at hq_ HK.out); have n2_ := Aside0.mk (below_at hq_ HB.out); clear hq_ HO_0 HK HB; have HO_0 := n0_; have HK := n1_; have HB := n2_; clear n0_ n1_ n2_; (try (have HP22 := Kd.R_putg HO_0.out ((l1.length : Int) : Int) ((IntKind.u64.wrap ((IntKind.u64.wrap ((IntKind.u64.wrap (rd x0_1 (l1.length : Int))) - x7_1)) - x8_1)) % 4294967296))))); refine store_event (t := 131) (p := 85) (v := ?vo_w23) (w1 := (wr.setCell ⟨go00, ((l1.length : Int) : Int).toNat, none⟩ (.int .u32 ((IntKind.u64.wrap ((IntKind.u64.wrap ((IntKind.u64.wrap (rd x0_1 (l1.length : Int))) - x7_1)) - x8_1)) % 4294967296)))) ?hg ?ho ?hn ?hr ?_; (case ho => rfl); (case hg => rfl); (case hn => rfl); (case hr => first | (go_simp; done) | (go_simp; rfl)); intro w23 hw; have hg : wr.grownBy w23 (some go00) := (by rw [hw]; exact HP22.2); have hp_ : Kd.R (Kd.int .u32) 131 w23 w0.heap.size (fun k_ => (P0_ k_ ∨ w.heap.size ≤ k_)) (.slice (some ⟨go00, 0, none⟩) x0_1.length co11) y167 := (by rw [hw, Ny167.out]; exact HP22.1); clear HP22; have n0_ := Aside0.mk (hp_); have n1_ := Aside0.mk ((by rw [hw]; exact below_set (HB.out) GB21.out : Below w0.heap.size w0 w23)); have n2_ := Aside0.mk (Kept.of_grown (S := (fun k_ => P0_ k_)) hg (by repeat (first | (with_reducible first | exact HK.out | apply Kept.alloc | apply Kept.drewN | apply Kept.drew) | exact HK.out)) (fun k_ e_ => (HO_0.out.1 k_ e_))); clear HO_0; clear HB; clear HK; have HO_0 := n0_; have HB := n1_; have HK := n2_; clear n0_ n1_ n2_; clear hg hw hp_)); try go_wp2_with (first | ((with_reducible refine gate_store (t := 131) (p := 85) rfl ?_); (try (rw [drewN_self wr]; generalize hq_ : World.drewN wr _ = wr; have n0_ := Aside0.mk (Kd.R_at hq_ HO_0.out); have n1_ := Aside0.mk (kept_at hq_ HK.out); have n2_ := Aside0.mk (below_at hq_ HB.out); clear hq_ HO_0 HK HB; have HO_0 := n0_; have HK := n1_; have HB := n2_; clear n0_ n1_ n2_; (try (have HP22 := Kd.R_putg HO_0.out ((l1.length : Int) : Int) ((IntKind.u64.wrap ((IntKind.u64.wrap ((IntKind.u64.wrap (rd x0_1 (l1.length : Int))) - x7_1)) - x8_1)) % 4294967296))))); refine store_event (t := 131) (p := 85) (v := ?vo_w23) (w1 := (wr.setCell ⟨go00, ((l1.length : Int) : Int).toNat, none⟩ (.int .u32 ((IntKind.u64.wrap ((IntKind.u64.wrap ((IntKind.u64.wrap (rd x0_1 (l1.length : Int))) - x7_1)) - x8_1)) % 4294967296)))) ?hg ?ho ?hn ?hr ?_; (case ho => rfl); (case hg => rfl); (case hn => rfl); (case hr => first | (go_simp; done) | (go_simp; rfl)); intro w23 hw; have hg : wr.grownBy w23 (some go00) := (by rw [hw]; exact HP22.2); have hp_ : Kd.R (Kd.int .u32) 131 w23 w0.heap.size (fun k_ => (P0_ k_ ∨ w.heap.size ≤ k_)) (.slice (some ⟨go00, 0, none⟩) x0_1.length co11) y167 := (by rw [hw, Ny167.out]; exact HP22.1); clear HP22; have n0_ := Aside0.mk (hp_); have n1_ := Aside0.mk ((by rw [hw]; exact below_set (HB.out) GB21.out : Below w0.heap.size w0 w23)); have n2_ := Aside0.mk (Kept.of_grown (S := (fun k_ => P0_ k_)) hg (by repeat (first | (with_reducible first | exact HK.out | apply Kept.alloc | apply Kept.drewN | apply Kept.drew) | exact HK.out)) (fun k_ e_ => (HO_0.out.1 k_ e_))); clear HO_0; clear HB; clear HK; have HO_0 := n0_; have HB := n1_; have HK := n2_; clear n0_ n1_ n2_; clear hg hw hp_)))
                        go_loopg [6, 13] k1 (fun kq v6 v13 w' => ∃ (x0_2 : List Int) (x6_2 : Int) (x13_2 : Bool), v6 = .int .u64 x6_2 ∧ v13 = .bool x13_2 ∧ Aside0 (ample_guess.l1 kq x0_2 l1 (l1.length : Int) x6_2 x13_2 = some (r1, r2)) ∧ Aside0 (kq ≤ k1) ∧ Aside0 (Kd.R (Kd.int .u32) 131 w' w0.heap.size (fun k_ => (P0_ k_ ∨ w.heap.size ≤ k_)) (.slice (some ⟨go00, 0, none⟩) x0_1.length co11) x0_2) ∧ Aside0 (Kept w w' (fun k_ => P0_ k_)) ∧ Aside0 (Below w0.heap.size w0 w'))
                        case atStart => exact ⟨(y167), (ji10), ((((IntKind.u64.wrap ((IntKind.u64.wrap ((IntKind.u64.wrap (rd x0_1 (l1.length : Int))) - x7_1)) - x8_1)) / 9223372036854775808) == 1)), (by first | rfl | (simp; done) | (simp only [← hji10] <;> (first | rfl | simp)) | (simp [*]; done)), (by first | rfl | (simp; done) | (simp [*]; done)), H', ⟨Nat.le_refl _⟩, ⟨by (try simp only [hl0_1]); (with_reducible repeat (first | apply Kd.R_alloc | apply Kd.R_drewN | apply Kd.R_drew)); exact HO_0.out⟩, ⟨by repeat (first | (with_reducible first | exact HK.out | apply Kept.alloc | apply Kept.drewN | apply Kept.drew) | exact HK.out)⟩, ⟨by repeat (first | (with_reducible first | exact HB.out | apply below_alloc | apply pw_below_drewN | apply below_drew1) | exact HB.out)⟩⟩
                        case round =>
                          clear H'
                          try clear c1
                          try clear p1
                          try clear q1
                          try clear hx1
                          try clear c2
                          try clear p2
                          try clear q2
                          try clear hx2
                          try clear hf2
                          try clear c3
                          try clear c3b0
                          try clear c3b1
                          try clear c4
                          try clear c4b0
                          try clear c4b1
                          try clear c6
                          try clear c6b0
                          try clear p6
                          try clear c7
                          try clear c7b0
                          try clear c8
                          try clear c8b0
                          try clear c9
                          try clear c9b0
                          try clear c9b1
                          try clear c12
                          try clear c12b0
                          try clear c13
                          try clear c13b0
                          try clear c14
                          try clear c14b0
                          try clear c15
                          try clear c15b0
                          try clear p16
                          try clear q16
                          try clear hx16
                          try clear hf16
                          try clear c19
                          try clear c19b0
                          try clear c19b1
                          try clear c20
                          try clear c20b0
                          try clear c20b1
                          try clear p21
                          try clear q21
                          try clear hx21
                          try clear hf21
                          try clear hx160_0
                          try clear hx161_0
                          try clear hx162_0
                          try clear hx163_0
                          try clear hx164_0
                          try clear hx166_0
                          try clear hx16_0
                          try clear hx21_0
                          try clear p1
                          try clear p16
                          try clear p160
                          try clear p161
                          try clear p162
                          try clear p163
                          try clear p164
                          try clear p166
                          try clear p2
                          try clear p21
                          try clear p6
                          try clear q1
                          try clear q16
                          try clear q160
                          try clear q161
                          try clear q162
                          try clear q163
                          try clear q164
                          try clear q166
                          try clear q21
                          obtain ⟨x0_2, x6_2, x13_2, rfl, rfl, HA, HK2, HO_0, HK, HB⟩ := hrel
                          have hl0_2 := (Kd.R_reads' HO_0.out).1
                          rw [hl0_2] at HO_0
                          (try simp only [hl0_2])
                          cases gk with
                          | zero => exact absurd HA.out (by simp [ample_guess.l1])
                          | succ k2 =>
                            have H := HA.out
                            clear HA
                            simp only [ample_guess.l1] at H
                            by_cases c24 : x13_2 = true
                            · subst c24
                              have H1 : (ample_guess.l2 k2 x0_2 l1 (l1.length : Int) x6_2 0 l1 (l1.length : Int) 0) = some (r1, r2) := by rw [if_pos rfl] at H; exact H
                              clear H
                              have H := H1
                              clear H1
                              have H' := Aside0.mk H
                              clear H
                              go_wp2
                              repeat (go_quiet (fail); try go_wp2)
                              go_loopg [7, 94] k2 (fun kq v7 v94 w' => ∃ (x0_3 : List Int) (x7_3 : Int) (x94_3 : Int), v7 = .int .u64 x7_3 ∧ v94 = .int .i64 x94_3 ∧ Aside0 (ample_guess.l2 kq x0_3 l1 (l1.length : Int) x6_2 x7_3 l1 (l1.length : Int) x94_3 = some (r1, r2)) ∧ Aside0 (kq ≤ k2) ∧ Aside0 (Kd.R (Kd.int .u32) 131 w' w0.heap.size (fun k_ => (P0_ k_ ∨ w.heap.size ≤ k_)) (.slice (some ⟨go00, 0, none⟩) x0_2.length co11) x0_3) ∧ Aside0 (Kept w w' (fun k_ => P0_ k_)) ∧ Aside0 (Below w0.heap.size w0 w'))
                              case atStart => exact ⟨(x0_2), (0), (0), (by first | rfl | (simp; done) | (simp [*]; done)), (by first | rfl | (simp; done) | (simp [*]; done)), H', ⟨Nat.le_refl _⟩, ⟨by (try simp only [hl0_1]); (try simp only [hl0_2]); (with_reducible repeat (first | apply Kd.R_alloc | apply Kd.R_drewN | apply Kd.R_drew)); exact HO_0.out⟩, ⟨by repeat (first | (with_reducible first | exact HK.out | apply Kept.alloc | apply Kept.drewN | apply Kept.drew) | exact HK.out)⟩, ⟨by repeat (first | (with_reducible first | exact HB.out | apply below_alloc | apply pw_below_drewN | apply below_drew1) | exact HB.out)⟩⟩
                              case round =>
                                clear H'
                                try clear c1
                                try clear p1
                                try clear q1
                                try clear hx1
                                try clear c2
                                try clear p2
                                try clear q2
                                try clear hx2
                                try clear hf2
                                try clear c3
                                try clear c3b0
                                try clear c3b1
                                try clear c4
                                try clear c4b0
                                try clear c4b1
                                try clear c6
                                try clear c6b0
                                try clear p6
                                try clear c7
                                try clear c7b0
                                try clear c8
                                try clear c8b0
                                try clear c9
                                try clear c9b0
                                try clear c9b1
                                try clear c12
                                try clear c12b0
                                try clear c13
                                try clear c13b0
                                try clear c14
                                try clear c14b0
                                try clear c15
                                try clear c15b0
                                try clear p16
                                try clear q16
                                try clear hx16
                                try clear hf16
                                try clear c19
                                try clear c19b0
                                try clear c19b1
                                try clear c20
                                try clear c20b0
                                try clear c20b1
                                try clear p21
                                try clear q21
                                try clear hx21
                                try clear hf21
                                try clear c24
                                try clear hx160_0
                                try clear hx161_0
                                try clear hx162_0
                                try clear hx163_0
                                try clear hx164_0
                                try clear hx166_0
                                try clear hx16_0
                                try clear hx21_0
                                try clear p1
                                try clear p16
                                try clear p160
                                try clear p161
                                try clear p162
                                try clear p163
                                try clear p164
                                try clear p166
                                try clear p2
                                try clear p21
                                try clear p6
                                try clear q1
                                try clear q16
                                try clear q160
                                try clear q161
                                try clear q162
                                try clear q163
                                try clear q164
                                try clear q166
                                try clear q2
                                try clear q21
                                obtain ⟨x0_3, x7_3, x94_3, rfl, rfl, HA, HK3, HO_0, HK, HB⟩ := hrel
                                have hl0_3 := (Kd.R_reads' HO_0.out).1
                                rw [hl0_3] at HO_0
                                (try simp only [hl0_3])
                                cases gk with
                                | zero => exact absurd HA.out (by simp [ample_guess.l2])
                                | succ k3 =>
                                  have H := HA.out
                                  clear HA
                                  simp only [ample_guess.l2] at H
                                  by_cases c25 : x94_3 < (l1.length : Int)
                                  · rw [if_pos c25] at H
                                    have c25b0 : decide (x94_3 < (l1.length : Int)) = true := decide_eq_true c25
                                    clear c25
                                    by_cases c26 : 0 ≤ x94_3
                                    · rw [if_pos c26] at H
                                      have c26b0 : decide (0 ≤ x94_3) = true := decide_eq_true c26
                                      clear c26
                                      by_cases c27 : x94_3 < (l1.length : Int)
                                      · rw [if_pos c27] at H
                                        have c27b0 : decide (x94_3 < (l1.length : Int)) = true := decide_eq_true c27
                                        clear c27
                                        by_cases c28 : x94_3 < (x0_3.length : Int)
                                        · rw [if_pos c28] at H
                                          have c28b0 : decide (x94_3 < (x0_3.length : Int)) = true := decide_eq_true c28
                                          clear c28
                                          obtain ⟨y170, hy170⟩ : ∃ y_ : List Int, y_ = (x0_3.set (x94_3 : Int).toNat ((IntKind.u64.wrap (x7_3 + (IntKind.u64.wrap ((IntKind.u64.wrap (rd x0_3 x94_3)) + (IntKind.u64.wrap (rd l1 x94_3)))))) % 4294967296)) := ⟨_, rfl⟩
                                          replace H : (ample_guess.l2 k3 y170 l1 (l1.length : Int) x6_2 ((IntKind.u64.wrap (x7_3 + (IntKind.u64.wrap ((IntKind.u64.wrap (rd x0_3 x94_3)) + (IntKind.u64.wrap (rd l1 x94_3)))))) / 4294967296) l1 (l1.length : Int) (wrap64 (x94_3 + 1))) = some (r1, r2) := by first | (rw [hy170]; with_reducible exact H) | (have H2_ := (Option.bind_some _ _).symm.trans H; rw [hy170]; with_reducible exact H2_) | (have H2_ := (Option.bind_some _ _).symm.trans H; with_reducible exact H2_) | with_reducible exact H | (rw [hy170]; exact H) | exact H
                                          have Ny170 := Aside0.mk hy170
                                          clear hy170
                                          have H' := Aside0.mk H
                                          clear H
                                          have p168 : 0 ≤ (x94_3 : Int) := of_decide_eq_true (by first | (with_reducible assumption) | assumption)
                                          have q168 : x94_3 < (l1.length : Int) := of_decide_eq_true (by first | (with_reducible assumption) | assumption)
                                          obtain ⟨ad168, e168, hx168_0⟩ := Kd.at_int (Kd.C_kept_now HR1.out HK.out) x94_3 p168 q168
                                          obtain rfl : ad162 = ad168 := (by injection e168)
                                          replace p168 := eq_true p168
                                          replace q168 := eq_true q168
                                          have p169 : 0 ≤ (x94_3 : Int) := of_decide_eq_true (by first | (with_reducible assumption) | assumption)
                                          have q169 : x94_3 < (x0_3.length : Int) := of_decide_eq_true (by first | (with_reducible assumption) | assumption)
                                          obtain ⟨ad169, e169, hx169_0⟩ := Kd.at_int (Kd.R_reads' HO_0.out).2.2 x94_3 p169 q169
                                          obtain rfl : (⟨go00, 0, none⟩ : Addr) = ad169 := (by injection e169)
                                          (first | simp only [add_plain] at hx169_0 | simp only [add_at] at hx169_0 | simp only [Addr.add, Nat.zero_add] at hx169_0 | skip)
                                          replace p169 := eq_true p169
                                          replace q169 := eq_true q169
                                          have p29 : 0 ≤ (x94_3 : Int) := of_decide_eq_true (by first | (with_reducible assumption) | assumption)
                                          have q29 : (x94_3 : Int) < ((x0_3.length : Int) : Int) := of_decide_eq_true (by first | (with_reducible assumption) | assumption)
                                          obtain ⟨hx29_0, hf29_0⟩ := Kd.R_celln 0 HO_0.out (x94_3 : Int) p29 q29
                                          (try simp only [Int.toNat_natCast] at hx29_0 hf29_0)
                                          replace p29 := eq_true p29
                                          replace q29 := eq_true q29
                                          have HP30 := Kd.R_putg HO_0.out (x94_3 : Int) ((IntKind.u64.wrap (x7_3 + (IntKind.u64.wrap ((IntKind.u64.wrap (rd x0_3 x94_3)) + (IntKind.u64.wrap (rd l1 x94_3)))))) % 4294967296)
                                          go_wp2_with (first | ((with_reducible refine gate_store (t := 131) (p := 113) rfl ?_); (try (rw [drewN_self wr]; generalize hq_ : World.drewN wr _ = wr; have n0_ := Aside0.mk (Kd.R_at hq_ HO_0.out); have n1_ := Aside0.mk (kept_at hq_ HK.out); have n2_ := Aside0.mk (below_at hq_ HB.out); clear hq_ HO_0 HK HB; have HO_0 := n0_; have HK := n1_; have HB := n2_; clear n0_ n1_ n2_; (try (have HP30 := Kd.R_putg HO_0.out (x94_3 : Int) ((IntKind.u64.wrap (x7_3 + (IntKind.u64.wrap ((IntKind.u64.wrap (rd x0_3 x94_3)) + (IntKind.u64.wrap (rd l1 x94_3)))))) % 4294967296))))); refine store_event (t := 131) (p := 113) (v := ?vo_w31) (w1 := (wr.setCell ⟨go00, (x94_3 : Int).toNat, none⟩ (.int .u32 ((IntKind.u64.wrap (x7_3 + (IntKind.u64.wrap ((IntKind.u64.wrap (rd x0_3 x94_3)) + (IntKind.u64.wrap (rd l1 x94_3)))))) % 4294967296)))) ?hg ?ho ?hn ?hr ?_; (case ho => rfl); (case hg => rfl); (case hn => rfl); (case hr => first | (go_simp; done) | (go_simp; rfl)); intro w31 hw; have hg : wr.grownBy w31 (some go00) := (by rw [hw]; exact HP30.2); have hp_ : Kd.R (Kd.int .u32) 131 w31 w0.heap.size (fun k_ => (P0_ k_ ∨ w.heap.size ≤ k_)) (.slice (some ⟨go00, 0, none⟩) x0_3.length co11) y170 := (by rw [hw, Ny170.out]; exact HP30.1); clear HP30; have n0_ := Aside0.mk (hp_); have n1_ := Aside0.mk ((by rw [hw]; exact below_set (HB.out) GB21.out : Below w0.heap.size w0 w31)); have n2_ := Aside0.mk (Kept.of_grown (S := (fun k_ => P0_ k_)) hg (by repeat (first | (with_reducible first | exact HK.out | apply Kept.alloc | apply Kept.drewN | apply Kept.drew) | exact HK.out)) (fun k_ e_ => (HO_0.out.1 k_ e_))); clear HO_0; clear HB; clear HK; have HO_0 := n0_; have HB := n1_; have HK := n2_; clear n0_ n1_ n2_; clear hg hw hp_))
                                          repeat (go_quiet (first | ((with_reducible refine gate_store (t := 131) (p := 113) rfl ?_); (try (rw [drewN_self wr]; generalize hq_ : World.drewN wr _ = wr; have n0_ := Aside0.mk (Kd.R_at hq_ HO_0.out); have n1_ := Aside0.mk (kept_at hq_ HK.out); have n2_ := Aside0.mk (below_at hq_ HB.out); clear hq_ HO_0 HK HB; have HO_0 := n0_; have HK := n1_; have HB := n2_; clear n0_ n1_ n2_; (try (have HP30 := Kd.R_putg HO_0.out (x94_3 : Int) ((IntKind.u64.wrap (x7_3 + (IntKind.u64.wrap ((IntKind.u64.wrap (rd x0_3 x94_3)) + (IntKind.u64.wrap (rd l1 x94_3)))))) % 4294967296))))); refine store_event (t := 131) (p := 113) (v := ?vo_w31) (w1 := (wr.setCell ⟨go00, (x94_3 : Int).toNat, none⟩ (.int .u32 ((IntKind.u64.wrap (x7_3 + (IntKind.u64.wrap ((IntKind.u64.wrap (rd x0_3 x94_3)) + (IntKind.u64.wrap (rd l1 x94_3)))))) % 4294967296)))) ?hg ?ho ?hn ?hr ?_; (case ho => rfl); (case hg => rfl); (case hn => rfl); (case hr => first | (go_simp; done) | (go_simp; rfl)); intro w31 hw; have hg : wr.grownBy w31 (some go00) := (by rw [hw]; exact HP30.2); have hp_ : Kd.R (Kd.int .u32) 131 w31 w0.heap.size (fun k_ => (P0_ k_ ∨ w.heap.size ≤ k_)) (.slice (some ⟨go00, 0, none⟩) x0_3.length co11) y170 := (by rw [hw, Ny170.out]; exact HP30.1); clear HP30; have n0_ := Aside0.mk (hp_); have n1_ := Aside0.mk ((by rw [hw]; exact below_set (HB.out) GB21.out : Below w0.heap.size w0 w31)); have n2_ := Aside0.mk (Kept.of_grown (S := (fun k_ => P0_ k_)) hg (by repeat (first | (with_reducible first | exact HK.out | apply Kept.alloc | apply Kept.drewN | apply Kept.drew) | exact HK.out)) (fun k_ e_ => (HO_0.out.1 k_ e_))); clear HO_0; clear HB; clear HK; have HO_0 := n0_; have HB := n1_; have HK := n2_; clear n0_ n1_ n2_; clear hg hw hp_)); try go_wp2_with (first | ((with_reducible refine gate_store (t := 131) (p := 113) rfl ?_); (try (rw [drewN_self wr]; generalize hq_ : World.drewN wr _ = wr; have n0_ := Aside0.mk (Kd.R_at hq_ HO_0.out); have n1_ := Aside0.mk (kept_at hq_ HK.out); have n2_ := Aside0.mk (below_at hq_ HB.out); clear hq_ HO_0 HK HB; have HO_0 := n0_; have HK := n1_; have HB := n2_; clear n0_ n1_ n2_; (try (have HP30 := Kd.R_putg HO_0.out (x94_3 : Int) ((IntKind.u64.wrap (x7_3 + (IntKind.u64.wrap ((IntKind.u64.wrap (rd x0_3 x94_3)) + (IntKind.u64.wrap (rd l1 x94_3)))))) % 4294967296))))); refine store_event (t := 131) (p := 113) (v := ?vo_w31) (w1 := (wr.setCell ⟨go00, (x94_3 : Int).toNat, none⟩ (.int .u32 ((IntKind.u64.wrap (x7_3 + (IntKind.u64.wrap ((IntKind.u64.wrap (rd x0_3 x94_3)) + (IntKind.u64.wrap (rd l1 x94_3)))))) % 4294967296)))) ?hg ?ho ?hn ?hr ?_; (case ho => rfl); (case hg => rfl); (case hn => rfl); (case hr => first | (go_simp; done) | (go_simp; rfl)); intro w31 hw; have hg : wr.grownBy w31 (some go00) := (by rw [hw]; exact HP30.2); have hp_ : Kd.R (Kd.int .u32) 131 w31 w0.heap.size (fun k_ => (P0_ k_ ∨ w.heap.size ≤ k_)) (.slice (some ⟨go00, 0, none⟩) x0_3.length co11) y170 := (by rw [hw, Ny170.out]; exact HP30.1); clear HP30; have n0_ := Aside0.mk (hp_); have n1_ := Aside0.mk ((by rw [hw]; exact below_set (HB.out) GB21.out : Below w0.heap.size w0 w31)); have n2_ := Aside0.mk (Kept.of_grown (S := (fun k_ => P0_ k_)) hg (by repeat (first | (with_reducible first | exact HK.out | apply Kept.alloc | apply Kept.drewN | apply Kept.drew) | exact HK.out)) (fun k_ e_ => (HO_0.out.1 k_ e_))); clear HO_0; clear HB; clear HK; have HO_0 := n0_; have HB := n1_; have HK := n2_; clear n0_ n1_ n2_; clear hg hw hp_)))
                                          (try simp only [← hl0_3])
                                          (try simp only [add_plain])
                                          go_roundg k3
                                          case measure => have := HK1.out; have := HK2.out; have := HK3.out; omega
                                          case rel => exact ⟨(y170), ((IntKind.u64.wrap (x7_3 + (IntKind.u64.wrap ((IntKind.u64.wrap (rd x0_3 x94_3)) + (IntKind.u64.wrap (rd l1 x94_3)))))) / 4294967296), (wrap64 (x94_3 + 1)), (by first | rfl | (simp; done) | (simp [*]; done)), (by first | rfl | (simp; done) | (simp [*]; done)), H', ⟨by have := HK1.out; have := HK2.out; have := HK3.out; omega⟩, ⟨by (try simp only [hl0_1]); (try simp only [hl0_2]); (try simp only [hl0_3]); (with_reducible repeat (first | apply Kd.R_alloc | apply Kd.R_drewN | apply Kd.R_drew)); exact HO_0.out⟩, ⟨by repeat (first | (with_reducible first | exact HK.out | apply Kept.alloc | apply Kept.drewN | apply Kept.drew) | exact HK.out)⟩, ⟨by repeat (first | (with_reducible first | exact HB.out | apply below_alloc | apply pw_below_drewN | apply below_drew1) | exact HB.out)⟩⟩
                                        · rw [if_neg c28] at H
                                          exact absurd H (by simp)
                                      · rw [if_neg c27] at H
                                        exact absurd H (by simp)
                                    · rw [if_neg c26] at H
                                      exact absurd H (by simp)
                                  · rw [if_neg c25] at H
                                    have c25b0 : decide (x94_3 < (l1.length : Int)) = false := decide_eq_false c25
                                    (try rw [hl0_1] at c25b0)
                                    (try rw [hl0_2] at c25b0)
                                    (try rw [hl0_3] at c25b0)
                                    clear c25
                                    by_cases c32 : 0 ≤ (l1.length : Int)
                                    · rw [if_pos c32] at H
                                      have c32b0 : decide (0 ≤ (l1.length : Int)) = true := decide_eq_true c32
                                      have c32b1 : decide (0 ≤ l1.length) = true := decide_eq_true (by omega)
                                      clear c32
                                      by_cases c33 : (l1.length : Int) < (x0_3.length : Int)
                                      · rw [if_pos c33] at H
                                        have c33b0 : decide ((l1.length : Int) < (x0_3.length : Int)) = true := decide_eq_true c33
                                        have c33b1 : decide (l1.length < x0_3.length) = true := decide_eq_true (Int.ofNat_lt.mp c33)
                                        clear c33
                                        obtain ⟨y172, hy172⟩ : ∃ y_ : List Int, y_ = (x0_3.set ((l1.length : Int) : Int).toNat ((IntKind.u64.wrap (x7_3 + (IntKind.u64.wrap (rd x0_3 (l1.length : Int))))) % 4294967296)) := ⟨_, rfl⟩
                                        replace H : (ample_guess.l1 k3 y172 l1 (l1.length : Int) (IntKind.u64.wrap (x6_2 - 1)) (((IntKind.u64.wrap (x7_3 + (IntKind.u64.wrap (rd x0_3 (l1.length : Int))))) / 4294967296) == 0)) = some (r1, r2) := by first | (rw [hy172]; with_reducible exact H) | (have H2_ := (Option.bind_some _ _).symm.trans H; rw [hy172]; with_reducible exact H2_) | (have H2_ := (Option.bind_some _ _).symm.trans H; with_reducible exact H2_) | with_reducible exact H | (rw [hy172]; exact H) | exact H
                                        have Ny172 := Aside0.mk hy172
                                        clear hy172
                                        have H' := Aside0.mk H
                                        clear H
                                        have p171 : 0 ≤ ((l1.length : Int) : Int) := of_decide_eq_true (by first | (with_reducible assumption) | assumption)
                                        have q171 : (l1.length : Int) < (x0_3.length : Int) := of_decide_eq_true (by first | (with_reducible assumption) | assumption)
                                        obtain ⟨ad171, e171, hx171_0⟩ := Kd.at_int (Kd.R_reads' HO_0.out).2.2 (l1.length : Int) p171 q171
                                        obtain rfl : (⟨go00, 0, none⟩ : Addr) = ad171 := (by injection e171)
                                        (first | simp only [add_plain] at hx171_0 | simp only [add_at] at hx171_0 | simp only [Addr.add, Nat.zero_add] at hx171_0 | skip)
                                        (try simp only [Go.IntWalk.toNatUp] at hx171_0)
                                        (try simp only [hl0_1, hl0_2, hl0_3] at p171)
                                        (try simp only [hl0_1, hl0_2, hl0_3] at q171)
                                        (try simp only [hl0_1, hl0_2, hl0_3] at hx171_0)
                                        replace p171 := eq_true p171
                                        replace q171 := eq_true q171
                                        have p34 : 0 ≤ ((l1.length : Int) : Int) := of_decide_eq_true (by first | (with_reducible assumption) | assumption)
                                        have q34 : ((l1.length : Int) : Int) < ((x0_3.length : Int) : Int) := of_decide_eq_true (by first | (with_reducible assumption) | assumption)
                                        obtain ⟨hx34_0, hf34_0⟩ := Kd.R_celln 0 HO_0.out ((l1.length : Int) : Int) p34 q34
                                        (try simp only [Int.toNat_natCast] at hx34_0 hf34_0)
                                        replace p34 := eq_true p34
                                        replace q34 := eq_true q34
                                        have HP35 := Kd.R_putg HO_0.out ((l1.length : Int) : Int) ((IntKind.u64.wrap (x7_3 + (IntKind.u64.wrap (rd x0_3 (l1.length : Int))))) % 4294967296)
                                        go_wp2_with (first | ((with_reducible refine gate_store (t := 131) (p := 128) rfl ?_); (try (rw [drewN_self wr]; generalize hq_ : World.drewN wr _ = wr; have n0_ := Aside0.mk (Kd.R_at hq_ HO_0.out); have n1_ := Aside0.mk (kept_at hq_ HK.out); have n2_ := Aside0.mk (below_at hq_ HB.out); clear hq_ HO_0 HK HB; have HO_0 := n0_; have HK := n1_; have HB := n2_; clear n0_ n1_ n2_; (try (have HP35 := Kd.R_putg HO_0.out ((l1.length : Int) : Int) ((IntKind.u64.wrap (x7_3 + (IntKind.u64.wrap (rd x0_3 (l1.length : Int))))) % 4294967296))))); refine store_event (t := 131) (p := 128) (v := ?vo_w36) (w1 := (wr.setCell ⟨go00, ((l1.length : Int) : Int).toNat, none⟩ (.int .u32 ((IntKind.u64.wrap (x7_3 + (IntKind.u64.wrap (rd x0_3 (l1.length : Int))))) % 4294967296)))) ?hg ?ho ?hn ?hr ?_; (case ho => rfl); (case hg => rfl); (case hn => rfl); (case hr => first | (go_simp; done) | (go_simp; rfl)); intro w36 hw; have hg : wr.grownBy w36 (some go00) := (by rw [hw]; exact HP35.2); have hp_ : Kd.R (Kd.int .u32) 131 w36 w0.heap.size (fun k_ => (P0_ k_ ∨ w.heap.size ≤ k_)) (.slice (some ⟨go00, 0, none⟩) x0_3.length co11) y172 := (by rw [hw, Ny172.out]; exact HP35.1); clear HP35; have n0_ := Aside0.mk (hp_); have n1_ := Aside0.mk ((by rw [hw]; exact below_set (HB.out) GB21.out : Below w0.heap.size w0 w36)); have n2_ := Aside0.mk (Kept.of_grown (S := (fun k_ => P0_ k_)) hg (by repeat (first | (with_reducible first | exact HK.out | apply Kept.alloc | apply Kept.drewN | apply Kept.drew) | exact HK.out)) (fun k_ e_ => (HO_0.out.1 k_ e_))); clear HO_0; clear HB; clear HK; have HO_0 := n0_; have HB := n1_; have HK := n2_; clear n0_ n1_ n2_; clear hg hw hp_))
                                        repeat (go_quiet (first | ((with_reducible refine gate_store (t := 131) (p := 128) rfl ?_); (try (rw [drewN_self wr]; generalize hq_ : World.drewN wr _ = wr; have n0_ := Aside0.mk (Kd.R_at hq_ HO_0.out); have n1_ := Aside0.mk (kept_at hq_ HK.out); have n2_ := Aside0.mk (below_at hq_ HB.out); clear hq_ HO_0 HK HB; have HO_0 := n0_; have HK := n1_; have HB := n2_; clear n0_ n1_ n2_; (try (have HP35 := Kd.R_putg HO_0.out ((l1.length : Int) : Int) ((IntKind.u64.wrap (x7_3 + (IntKind.u64.wrap (rd x0_3 (l1.length : Int))))) % 4294967296))))); refine store_event (t := 131) (p := 128) (v := ?vo_w36) (w1 := (wr.setCell ⟨go00, ((l1.length : Int) : Int).toNat, none⟩ (.int .u32 ((IntKind.u64.wrap (x7_3 + (IntKind.u64.wrap (rd x0_3 (l1.length : Int))))) % 4294967296)))) ?hg ?ho ?hn ?hr ?_; (case ho => rfl); (case hg => rfl); (case hn => rfl); (case hr => first | (go_simp; done) | (go_simp; rfl)); intro w36 hw; have hg : wr.grownBy w36 (some go00) := (by rw [hw]; exact HP35.2); have hp_ : Kd.R (Kd.int .u32) 131 w36 w0.heap.size (fun k_ => (P0_ k_ ∨ w.heap.size ≤ k_)) (.slice (some ⟨go00, 0, none⟩) x0_3.length co11) y172 := (by rw [hw, Ny172.out]; exact HP35.1); clear HP35; have n0_ := Aside0.mk (hp_); have n1_ := Aside0.mk ((by rw [hw]; exact below_set (HB.out) GB21.out : Below w0.heap.size w0 w36)); have n2_ := Aside0.mk (Kept.of_grown (S := (fun k_ => P0_ k_)) hg (by repeat (first | (with_reducible first | exact HK.out | apply Kept.alloc | apply Kept.drewN | apply Kept.drew) | exact HK.out)) (fun k_ e_ => (HO_0.out.1 k_ e_))); clear HO_0; clear HB; clear HK; have HO_0 := n0_; have HB := n1_; have HK := n2_; clear n0_ n1_ n2_; clear hg hw hp_)); try go_wp2_with (first | ((with_reducible refine gate_store (t := 131) (p := 128) rfl ?_); (try (rw [drewN_self wr]; generalize hq_ : World.drewN wr _ = wr; have n0_ := Aside0.mk (Kd.R_at hq_ HO_0.out); have n1_ := Aside0.mk (kept_at hq_ HK.out); have n2_ := Aside0.mk (below_at hq_ HB.out); clear hq_ HO_0 HK HB; have HO_0 := n0_; have HK := n1_; have HB := n2_; clear n0_ n1_ n2_; (try (have HP35 := Kd.R_putg HO_0.out ((l1.length : Int) : Int) ((IntKind.u64.wrap (x7_3 + (IntKind.u64.wrap (rd x0_3 (l1.length : Int))))) % 4294967296))))); refine store_event (t := 131) (p := 128) (v := ?vo_w36) (w1 := (wr.setCell ⟨go00, ((l1.length : Int) : Int).toNat, none⟩ (.int .u32 ((IntKind.u64.wrap (x7_3 + (IntKind.u64.wrap (rd x0_3 (l1.length : Int))))) % 4294967296)))) ?hg ?ho ?hn ?hr ?_; (case ho => rfl); (case hg => rfl); (case hn => rfl); (case hr => first | (go_simp; done) | (go_simp; rfl)); intro w36 hw; have hg : wr.grownBy w36 (some go00) := (by rw [hw]; exact HP35.2); have hp_ : Kd.R (Kd.int .u32) 131 w36 w0.heap.size (fun k_ => (P0_ k_ ∨ w.heap.size ≤ k_)) (.slice (some ⟨go00, 0, none⟩) x0_3.length co11) y172 := (by rw [hw, Ny172.out]; exact HP35.1); clear HP35; have n0_ := Aside0.mk (hp_); have n1_ := Aside0.mk ((by rw [hw]; exact below_set (HB.out) GB21.out : Below w0.heap.size w0 w36)); have n2_ := Aside0.mk (Kept.of_grown (S := (fun k_ => P0_ k_)) hg (by repeat (first | (with_reducible first | exact HK.out | apply Kept.alloc | apply Kept.drewN | apply Kept.drew) | exact HK.out)) (fun k_ e_ => (HO_0.out.1 k_ e_))); clear HO_0; clear HB; clear HK; have HO_0 := n0_; have HB := n1_; have HK := n2_; clear n0_ n1_ n2_; clear hg hw hp_)))
                                        (try simp only [← hl0_2, ← hl0_3])
                                        (try simp only [add_plain])
                                        go_roundg k3
                                        case measure => have := HK1.out; have := HK2.out; have := HK3.out; omega
                                        case rel => exact ⟨(y172), (IntKind.u64.wrap (x6_2 - 1)), ((((IntKind.u64.wrap (x7_3 + (IntKind.u64.wrap (rd x0_3 (l1.length : Int))))) / 4294967296) == 0)), (by first | rfl | (simp; done) | (simp [*]; done)), (by first | rfl | (simp; done) | (simp [*]; done)), H', ⟨by have := HK1.out; have := HK2.out; have := HK3.out; omega⟩, ⟨by (try simp only [hl0_1]); (try simp only [hl0_2]); (try simp only [hl0_3]); (with_reducible repeat (first | apply Kd.R_alloc | apply Kd.R_drewN | apply Kd.R_drew)); exact HO_0.out⟩, ⟨by repeat (first | (with_reducible first | exact HK.out | apply Kept.alloc | apply Kept.drewN | apply Kept.drew) | exact HK.out)⟩, ⟨by repeat (first | (with_reducible first | exact HB.out | apply below_alloc | apply pw_below_drewN | apply below_drew1) | exact HB.out)⟩⟩
                                      · rw [if_neg c33] at H
                                        exact absurd H (by simp)
                                    · rw [if_neg c32] at H
                                      exact absurd H (by simp)
                            · replace c24 := Bool.eq_false_iff.mpr c24
                              subst c24
                              have H1 : (some ((x6_2) % 4294967296, x0_2)) = some (r1, r2) := by rw [if_neg (show ¬ (false = true) by decide)] at H; exact H
                              clear H
                              have H := H1
                              clear H1
                              simp only [Option.some.injEq, Prod.mk.injEq] at H
                              obtain ⟨rfl, rfl⟩ := H
                              go_wp2
                              repeat (go_quiet (fail); try go_wp2)
                              go_ret
                              exact ⟨by first | rfl | (simp [errW_none, errW_some] <;> rfl) | (simp only [← hji5, ← hji10]; first | rfl | (simp [errW_none, errW_some] <;> rfl)) | (simp [*, errW_none, errW_some] <;> rfl), (by first | exact (by (with_reducible repeat (first | apply Kd.R_alloc | apply Kd.R_drewN | apply Kd.R_drew)); exact HO_0.out) | (simp only [hl0_1, hl0_2]; exact (by (with_reducible repeat (first | apply Kd.R_alloc | apply Kd.R_drewN | apply Kd.R_drew)); exact HO_0.out))), by repeat (first | (with_reducible first | exact HB.out | apply below_alloc | apply pw_below_drewN | apply below_drew1) | exact HB.out), by repeat (first | (with_reducible first | exact HK.out | apply Kept.alloc | apply Kept.drewN | apply Kept.drew) | exact HK.out)⟩
                      · rw [if_neg c20] at H
                        exact absurd H (by simp)
                    · rw [if_neg c19] at H
                      exact absurd H (by simp)
          · rw [if_neg c8] at H
            exact absurd H (by simp)
        · rw [if_neg c7] at H
          exact absurd H (by simp)
      · rw [if_neg c6] at H
        exact absurd H (by simp)
    · rw [if_neg c4] at H
      exact absurd H (by simp)
  · rw [if_neg c3] at H
    exact absurd H (by simp)
end Go.Proofs.YthbdjmopolpjmaaGreatDoor.F
end
