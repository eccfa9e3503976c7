/- Part 3 of the proof: FAmpleLeft, FAmpleRight, MAmple2. -/
import Derived.Test.YthbdjmopolpjmaaGreatDoorD00
import Derived.Test.YthbdjmopolpjmaaGreatDoorD01
import Derived.Test.YthbdjmopolpjmaaGreatDoorD02
section
namespace Go.Proofs.YthbdjmopolpjmaaGreatDoor.F
open Go.RowKit Go.Proofs.YthbdjmopolpjmaaGreatDoorW.PrintWords Go.Proofs.YthbdjmopolpjmaaGreatDoorW.PrintLast Go.Proofs.YthbdjmopolpjmaaGreatDoorW.PrintMore
attribute [local go_sem] max2_int min2_int max_two min_two max_three min_three max_four min_four
set_option linter.unusedVariables false
set_option linter.unusedSimpArgs false
def ample_left.l0 : Nat → Int → List Int → List Int → Int → Int → Option (List Int)
  | 0, _, _, _, _, _ => none
  | k + 1, x1, x5, x13, x14, x15 => if x15 < x14 then (if 0 ≤ x15 then (if x15 < (x13.length : Int) then (if 0 ≤ x1 then (if x15 < (x5.length : Int) then (if 0 ≤ (wrap64 (x15 + 1)) then (if (wrap64 (x15 + 1)) < (x5.length : Int) then (ample_left.l0 k x1 ((x5.set (x15 : Int).toNat (Go.bits .or .u32 (rd x5 x15) ((shl .u64 (IntKind.u64.wrap (rd x13 x15)) x1) % 4294967296))).set ((wrap64 (x15 + 1)) : Int).toNat (((shl .u64 (IntKind.u64.wrap (rd x13 x15)) x1) / 4294967296) % 4294967296)) x13 x14 (wrap64 (x15 + 1))) else (none)) else (none)) else (none)) else (none)) else (none)) else (none)) else (some x5)
def ample_left.f (k : Nat) (l0 : List Int) (a1 : Int) : Option (List Int) := if 0 ≤ (wrap64 ((l0.length : Int) + 1)) then (if (wrap64 ((l0.length : Int) + 1) : Int).toNat ≤ 70368744177664 then (ample_left.l0 k a1 (List.replicate (wrap64 ((l0.length : Int) + 1) : Int).toNat 0) l0 (l0.length : Int) 0) else (none)) else (none)
theorem ample_left.mono_l : ∀ k, (∀ y0 y1 y2 y3 y4, LeO (ample_left.l0 k y0 y1 y2 y3 y4) (ample_left.l0 (k + 1) y0 y1 y2 y3 y4))
  | 0 => fun _ _ _ _ _ r h => by simp [ample_left.l0] at h
  | k + 1 => by
    have ih0 := ample_left.mono_l k
    · intro y0 y1 y2 y3 y4
      unfold ample_left.l0
      repeat' first
      | (with_reducible exact ih0 _ _ _ _ _)
      | (with_reducible exact LeO.refl _)
      | (with_reducible exact LeO.none _)
      | (with_reducible refine LeO.ite ?_ ?_)
      | (with_reducible refine LeO.bind ?_ (fun _ => ?_))
      | exact ih0 _ _ _ _ _
      | exact LeO.none _
      | refine LeO.ite ?_ ?_
      | refine LeO.bind ?_ (fun _ => ?_)
theorem ample_left.mono : ∀ a0 a1 k, LeO (ample_left.f k a0 a1) (ample_left.f (k + 1) a0 a1) := by
  intro a0 a1 k
  have ih0 := ample_left.mono_l k
  unfold ample_left.f
  repeat' first
      | (with_reducible exact ih0 _ _ _ _ _)
      | (with_reducible exact LeO.refl _)
      | (with_reducible exact LeO.none _)
      | (with_reducible refine LeO.ite ?_ ?_)
      | (with_reducible refine LeO.bind ?_ (fun _ => ?_))
      | exact ih0 _ _ _ _ _
      | exact LeO.none _
      | refine LeO.ite ?_ ?_
      | refine LeO.bind ?_ (fun _ => ?_)
set_option maxHeartbeats 8000000 in
set_option maxRecDepth 100000 in
theorem ample_left.calls (k : Nat) (A0 : Option Addr) (c0 : Nat) (l0 : List Int) (a1 : Int) (r : List Int) (w : World) (hr0 : Kd.C (Kd.int .u32) w A0 l0.length l0) (hc0 : l0.length ≤ c0) (h : ample_left.f k l0 a1 = some r) :
    Calls Tryz.prog 208 #[.slice A0 l0.length c0, .int .i64 a1] w fun e w' => ∃ v0_ : Value, e = .returned (v0_) ∧ Kd.R (Kd.int .u32) 131 w' w.heap.size (fun _ => True) v0_ r ∧ Below w.heap.size w w' := by
  have HR0 := Aside0.mk hr0
  have HC0 := Aside0.mk hc0
  clear hr0 hc0
  have HB := Aside0.mk (Below.refl w.heap.size w)
  have H : (if 0 ≤ (wrap64 ((l0.length : Int) + 1)) then (if (wrap64 ((l0.length : Int) + 1) : Int).toNat ≤ 70368744177664 then (ample_left.l0 k a1 (List.replicate (wrap64 ((l0.length : Int) + 1) : Int).toNat 0) l0 (l0.length : Int) 0) else (none)) else (none)) = some r := h
  clear h
  obtain ⟨ji3, hji3⟩ : ∃ j_ : Int, (wrap64 ((l0.length : Int) + 1)) = j_ := ⟨_, rfl⟩
  replace H : (if 0 ≤ (ji3) then (if (ji3 : Int).toNat ≤ 70368744177664 then (ample_left.l0 k a1 (List.replicate (ji3 : Int).toNat 0) l0 (l0.length : Int) 0) else (none)) else (none)) = some r := by first | (rw [hji3] at H; exact H) | (simp only [hji3] at H ⊢; exact H)
  have hji3w : (IntKind.i64.wrap ((l0.length : Int) + 1)) = ji3 := (i64_w _).trans hji3
  by_cases c4 : 0 ≤ (ji3)
  · rw [if_pos c4] at H
    have c4b0 := eq_true c4
    have c4b1 : decide (0 ≤ (ji3)) = true := decide_eq_true c4
    clear c4
    by_cases c5 : (ji3 : Int).toNat ≤ 70368744177664
    · rw [if_pos c5] at H
      have c5b0 := eq_true c5
      have c5b1 : decide ((ji3 : Int).toNat ≤ 70368744177664) = true := decide_eq_true c5
      clear c5
      obtain ⟨y153, hy153⟩ : ∃ y_ : List Int, y_ = (List.replicate (ji3 : Int).toNat 0) := ⟨_, rfl⟩
      replace H : (ample_left.l0 k a1 y153 l0 (l0.length : Int) 0) = some r := by first | (rw [hy153]; with_reducible exact H) | (have H2_ := (Option.bind_some _ _).symm.trans H; rw [hy153]; with_reducible exact H2_) | (have H2_ := (Option.bind_some _ _).symm.trans H; with_reducible exact H2_) | with_reducible exact H | (rw [hy153]; exact H) | exact H
      have Ny153 := Aside0.mk hy153
      clear hy153
      have H' := Aside0.mk H
      clear H
      go_enter Tryz.func208, Tryz.ntmps208
      go_wp2_with (first | ((with_reducible refine gate_dst (N := 12) rfl ?_); refine Kd.R_make (Kd.int .u32) _ 131 rfl (N := 12) rfl 171 _ _ rfl ji3 rfl rfl Tryz.underlying171 (.int .u32 0) 4 info131 rfl (by decide) (by omega) 0 (ok := fun _ => True) (okp := fun _ => True) rfl (fun _ hk => hk) trivial (of_decide_eq_true (by first | (with_reducible assumption) | assumption)) (Nat.le_trans (Nat.mul_le_mul_right _ (of_decide_eq_true (by first | (with_reducible assumption) | assumption) : ji3.toNat ≤ 70368744177664)) (by omega)) (Below.refl _ _) (Nat.le_refl _) ?_; intro v154 w6 ho7 hb hg_ hnew_; clear hg_ hnew_; (first | rw [← Ny153.out] at ho7 | (simp only [Int.reduceToNat] at ho7; rw [← Ny153.out] at ho7)); have n0_ := Aside0.mk (Kd.R_lower ho7 (below_size (by repeat (first | (with_reducible first | exact HB.out | apply below_alloc | apply pw_below_drewN | apply below_drew1) | exact HB.out)))); have n1_ := Aside0.mk (below_step (by repeat (first | (with_reducible first | exact HB.out | apply below_alloc | apply pw_below_drewN | apply below_drew1) | exact HB.out)) hb); clear HB; have HO155 := n0_; have HB := n1_; clear n0_ n1_; clear hb ho7))
      go_loopg [15] k (fun kq v15 w' => ∃ (x5_1 : List Int) (x15_1 : Int), v15 = .int .i64 x15_1 ∧ Aside0 (ample_left.l0 kq a1 x5_1 l0 (l0.length : Int) x15_1 = some r) ∧ Aside0 (kq ≤ k) ∧ Aside0 (Kd.R (Kd.int .u32) 131 w' w.heap.size (fun _ => True) v154 x5_1) ∧ Aside0 (Below w.heap.size w w'))
      case atStart => exact ⟨(y153), (0), (by first | rfl | (simp; done) | (simp [*]; done)), H', ⟨Nat.le_refl _⟩, ⟨by (with_reducible repeat (first | apply Kd.R_alloc | apply Kd.R_drewN | apply Kd.R_drew)); exact HO155.out⟩, ⟨by repeat (first | (with_reducible first | exact HB.out | apply below_alloc | apply pw_below_drewN | apply below_drew1) | exact HB.out)⟩⟩
      case round =>
        clear H'
        try clear c2
        try clear p2
        try clear c4
        try clear c4b0
        try clear c4b1
        try clear c5
        try clear c5b0
        try clear c5b1
        try clear p6
        obtain ⟨x5_1, x15_1, rfl, HA, HK1, HO_5, HB⟩ := hrel
        cases gk with
        | zero => exact absurd HA.out (by simp [ample_left.l0])
        | succ k1 =>
          have H := HA.out
          clear HA
          simp only [ample_left.l0] at H
          by_cases c8 : x15_1 < (l0.length : Int)
          · rw [if_pos c8] at H
            have c8b0 : decide (x15_1 < (l0.length : Int)) = true := decide_eq_true c8
            clear c8
            by_cases c9 : 0 ≤ x15_1
            · rw [if_pos c9] at H
              have c9b0 : decide (0 ≤ x15_1) = true := decide_eq_true c9
              clear c9
              by_cases c10 : x15_1 < (l0.length : Int)
              · rw [if_pos c10] at H
                have c10b0 : decide (x15_1 < (l0.length : Int)) = true := decide_eq_true c10
                clear c10
                by_cases c11 : 0 ≤ a1
                · rw [if_pos c11] at H
                  have c11b0 := eq_true c11
                  have c11b1 : decide (0 ≤ a1) = true := decide_eq_true c11
                  clear c11
                  obtain ⟨ji12, hji12⟩ : ∃ j_ : Int, (shl .u64 (IntKind.u64.wrap (rd l0 x15_1)) a1) = j_ := ⟨_, rfl⟩
                  replace H : (if x15_1 < (x5_1.length : Int) then (if 0 ≤ (wrap64 (x15_1 + 1)) then (if (wrap64 (x15_1 + 1)) < (x5_1.length : Int) then (ample_left.l0 k1 a1 ((x5_1.set (x15_1 : Int).toNat (Go.bits .or .u32 (rd x5_1 x15_1) ((ji12) % 4294967296))).set ((wrap64 (x15_1 + 1)) : Int).toNat (((ji12) / 4294967296) % 4294967296)) l0 (l0.length : Int) (wrap64 (x15_1 + 1))) else (none)) else (none)) else (none)) = some r := by first | (rw [hji12] at H; exact H) | (simp only [hji12] at H ⊢; exact H)
                  have hji12_ : (IntKind.u64.wrap ((IntKind.u64.wrap (rd l0 x15_1)) * 2 ^ min a1.toNat 64)) = ji12 := hji12
                  have hji12z : a1 ≤ 64 → (IntKind.u64.wrap ((IntKind.u64.wrap (rd l0 x15_1)) * 2 ^ a1.toNat)) = ji12 := shl_small hji12
                  by_cases c13 : x15_1 < (x5_1.length : Int)
                  · rw [if_pos c13] at H
                    have c13b0 : decide (x15_1 < (x5_1.length : Int)) = true := decide_eq_true c13
                    clear c13
                    obtain ⟨y158, hy158⟩ : ∃ y_ : List Int, y_ = (x5_1.set (x15_1 : Int).toNat (Go.bits .or .u32 (rd x5_1 x15_1) ((ji12) % 4294967296))) := ⟨_, rfl⟩
                    replace H : (if 0 ≤ (wrap64 (x15_1 + 1)) then (if (wrap64 (x15_1 + 1)) < (x5_1.length : Int) then (ample_left.l0 k1 a1 (y158.set ((wrap64 (x15_1 + 1)) : Int).toNat (((ji12) / 4294967296) % 4294967296)) l0 (l0.length : Int) (wrap64 (x15_1 + 1))) else (none)) else (none)) = some r := by first | (rw [hy158]; with_reducible exact H) | (have H2_ := (Option.bind_some _ _).symm.trans H; rw [hy158]; with_reducible exact H2_) | (have H2_ := (Option.bind_some _ _).symm.trans H; with_reducible exact H2_) | with_reducible exact H | (rw [hy158]; exact H) | exact H
                    have Ny158 := Aside0.mk hy158
                    clear hy158
                    obtain ⟨ji15, hji15⟩ : ∃ j_ : Int, (wrap64 (x15_1 + 1)) = j_ := ⟨_, rfl⟩
                    replace H : (if 0 ≤ (ji15) then (if (ji15) < (x5_1.length : Int) then (ample_left.l0 k1 a1 (y158.set ((ji15) : Int).toNat (((ji12) / 4294967296) % 4294967296)) l0 (l0.length : Int) ji15) else (none)) else (none)) = some r := by first | (rw [hji15] at H; exact H) | (simp only [hji15] at H ⊢; exact H)
                    have hji15w : (IntKind.i64.wrap (x15_1 + 1)) = ji15 := (i64_w _).trans hji15
                    by_cases c16 : 0 ≤ (ji15)
                    · rw [if_pos c16] at H
                      have c16b0 : decide (0 ≤ (ji15)) = true := decide_eq_true c16
                      clear c16
                      by_cases c17 : (ji15) < (x5_1.length : Int)
                      · rw [if_pos c17] at H
                        have c17b0 : decide ((ji15) < (x5_1.length : Int)) = true := decide_eq_true c17
                        clear c17
                        obtain ⟨y159, hy159⟩ : ∃ y_ : List Int, y_ = (y158.set ((ji15) : Int).toNat (((ji12) / 4294967296) % 4294967296)) := ⟨_, rfl⟩
                        replace H : (ample_left.l0 k1 a1 y159 l0 (l0.length : Int) ji15) = some r := by first | (rw [hy159]; with_reducible exact H) | (have H2_ := (Option.bind_some _ _).symm.trans H; rw [hy159]; with_reducible exact H2_) | (have H2_ := (Option.bind_some _ _).symm.trans H; with_reducible exact H2_) | with_reducible exact H | (rw [hy159]; exact H) | exact H
                        have Ny159 := Aside0.mk hy159
                        clear hy159
                        have H' := Aside0.mk H
                        clear H
                        have p156 : 0 ≤ (x15_1 : Int) := of_decide_eq_true (by first | (with_reducible assumption) | assumption)
                        have q156 : x15_1 < (l0.length : Int) := of_decide_eq_true (by first | (with_reducible assumption) | assumption)
                        obtain ⟨ad156, e156, hx156_0⟩ := Kd.at_int HR0.out x15_1 p156 q156
                        cases e156
                        replace hx156_0 := (HB.out.cell (World.block_lt_of_cell? w _ hx156_0)).trans hx156_0
                        replace p156 := eq_true p156
                        replace q156 := eq_true q156
                        obtain ⟨Ao19, co19, eo19⟩ := Kd.R_slice HO_5.out
                        subst eo19
                        have p157 : 0 ≤ (x15_1 : Int) := of_decide_eq_true (by first | (with_reducible assumption) | assumption)
                        have q157 : x15_1 < (x5_1.length : Int) := of_decide_eq_true (by first | (with_reducible assumption) | assumption)
                        obtain ⟨ad157, e157, hx157_0⟩ := Kd.at_int (Kd.R_reads' HO_5.out).2.2 x15_1 p157 q157
                        cases e157
                        replace p157 := eq_true p157
                        replace q157 := eq_true q157
                        have p14 : 0 ≤ (x15_1 : Int) := of_decide_eq_true (by first | (with_reducible assumption) | assumption)
                        have q14 : (x15_1 : Int) < ((x5_1.length : Int) : Int) := of_decide_eq_true (by first | (with_reducible assumption) | assumption)
                        obtain ⟨go14, co14, eo14, gb14, gl14, cl14, HG14⟩ := Kd.R_form HO_5.out (by omega)
                        (first | cases eo14 | (injection eo14 with ea_ en_ ec_; (first | subst ea_ | (injection ea_ with ea_; subst ea_)); subst ec_; clear en_))
                        have GB14 := Aside0.mk gb14
                        have GG14 := Aside0.mk HG14
                        clear gb14 gl14 HG14
                        (first | simp only [add_plain] at hx157_0 | skip)
                        obtain ⟨hx14_0, hf14_0⟩ := Kd.R_celln 0 HO_5.out (x15_1 : Int) p14 q14
                        replace p14 := eq_true p14
                        replace q14 := eq_true q14
                        have HP20 := Kd.R_putg HO_5.out (x15_1 : Int) (Go.bits .or .u32 (rd x5_1 x15_1) ((ji12) % 4294967296))
                        go_wp2_with (first | ((with_reducible refine gate_store (t := 131) (p := 31) rfl ?_); refine store_event (t := 131) (p := 31) (v := ?vo_w21) (w1 := (wr.setCell ⟨go14, (x15_1 : Int).toNat, none⟩ (.int .u32 (Go.bits .or .u32 (rd x5_1 x15_1) ((ji12) % 4294967296))))) ?hg ?ho ?hn ?hr ?_; (case ho => rfl); (case hg => rfl); (case hn => rfl); (case hr => first | (go_simp; done) | (go_simp; rfl)); intro w21 hw; have hg : wr.grownBy w21 (some go14) := (by rw [hw]; exact HP20.2); have hp_ : Kd.R (Kd.int .u32) 131 w21 w.heap.size (fun _ => True) (.slice (some ⟨go14, 0, none⟩) x5_1.length co19) y158 := (by rw [hw, Ny158.out]; exact HP20.1); clear HP20; have n0_ := Aside0.mk (hp_); have n1_ := Aside0.mk ((by rw [hw]; exact below_set (HB.out) GB14.out : Below w.heap.size w w21)); clear HO_5; clear HB; have HO_5 := n0_; have HB := n1_; clear n0_ n1_; clear hg hw hp_; have p18 : 0 ≤ ((ji15) : Int) := of_decide_eq_true (by first | (with_reducible assumption) | assumption); have q18 : ((ji15) : Int) < ((x5_1.length : Int) : Int) := of_decide_eq_true (by first | (with_reducible assumption) | assumption); obtain ⟨hx18_0, hf18_0⟩ := Kd.R_celln 0 HO_5.out ((ji15) : Int) p18 q18; replace p18 := eq_true p18; replace q18 := eq_true q18; obtain ⟨hy22_, hz22_⟩ := Kd.R_celln 0 HO_5.out ((ji15) : Int) (of_decide_eq_true (by first | (with_reducible assumption) | assumption)) (of_decide_eq_true (by first | (with_reducible assumption) | assumption)); have HP22 := Kd.R_putg HO_5.out ((ji15) : Int) (((ji12) / 4294967296) % 4294967296)) | ((with_reducible refine gate_store (t := 131) (p := 38) rfl ?_); refine store_event (t := 131) (p := 38) (v := ?vo_w23) (w1 := (w21.setCell ⟨go14, ((ji15) : Int).toNat, none⟩ (.int .u32 (((ji12) / 4294967296) % 4294967296)))) ?hg ?ho ?hn ?hr ?_; (case ho => rfl); (case hg => rfl); (case hn => rfl); (case hr => first | (go_simp; done) | (go_simp; rfl)); intro w23 hw; have hg : w21.grownBy w23 (some go14) := (by rw [hw]; exact HP22.2); have hp_ : Kd.R (Kd.int .u32) 131 w23 w.heap.size (fun _ => True) (.slice (some ⟨go14, 0, none⟩) x5_1.length co19) y159 := (by rw [hw, Ny159.out]; exact HP22.1); clear HP22; have n0_ := Aside0.mk (hp_); have n1_ := Aside0.mk ((by rw [hw]; exact below_set (HB.out) GB14.out : Below w.heap.size w w23)); clear HO_5; clear HB; have HO_5 := n0_; have HB := n1_; clear n0_ n1_; clear hg hw hp_))
                        go_roundg k1
                        case measure => have := HK1.out; omega
                        case rel => exact ⟨(y159), (ji15), (by first | rfl | (simp; done) | (simp only [← hji15] <;> (first | rfl | simp)) | (simp [*]; done)), H', ⟨by have := HK1.out; omega⟩, ⟨by (with_reducible repeat (first | apply Kd.R_alloc | apply Kd.R_drewN | apply Kd.R_drew)); exact HO_5.out⟩, ⟨by repeat (first | (with_reducible first | exact HB.out | apply below_alloc | apply pw_below_drewN | apply below_drew1) | exact HB.out)⟩⟩
                      · rw [if_neg c17] at H
                        exact absurd H (by simp)
                    · rw [if_neg c16] at H
                      exact absurd H (by simp)
                  · rw [if_neg c13] at H
                    exact absurd H (by simp)
                · rw [if_neg c11] at H
                  exact absurd H (by simp)
              · rw [if_neg c10] at H
                exact absurd H (by simp)
            · rw [if_neg c9] at H
              exact absurd H (by simp)
          · rw [if_neg c8] at H
            have c8b0 : decide (x15_1 < (l0.length : Int)) = false := decide_eq_false c8
            clear c8
            obtain rfl := Option.some.inj H
            go_wp2
            go_ret
            exact ⟨_, by first | rfl | (simp [errW_none, errW_some] <;> rfl) | (simp only [← hji3]; first | rfl | (simp [errW_none, errW_some] <;> rfl)) | (simp [*, errW_none, errW_some] <;> rfl), by (with_reducible repeat (first | apply Kd.R_alloc | apply Kd.R_drewN | apply Kd.R_drew)); exact HO_5.out, by repeat (first | (with_reducible first | exact HB.out | apply below_alloc | apply pw_below_drewN | apply below_drew1) | exact HB.out)⟩
    · rw [if_neg c5] at H
      exact absurd H (by simp)
  · rw [if_neg c4] at H
    exact absurd H (by simp)
end Go.Proofs.YthbdjmopolpjmaaGreatDoor.F
end
section
namespace Go.Proofs.YthbdjmopolpjmaaGreatDoor.F
open Go.RowKit Go.Proofs.YthbdjmopolpjmaaGreatDoorW.PrintWords Go.Proofs.YthbdjmopolpjmaaGreatDoorW.PrintLast Go.Proofs.YthbdjmopolpjmaaGreatDoorW.PrintMore
attribute [local go_sem] max2_int min2_int max_two min_two max_three min_three max_four min_four
set_option linter.unusedVariables false
set_option linter.unusedSimpArgs false
def ample_right.l0 : Nat → List Int → Int → List Int → List Int → Int → Int → Option (List Int)
  | 0, _, _, _, _, _, _ => none
  | k + 1, x0, x1, x5, x12, x13, x14 => if x14 < x13 then (if 0 ≤ x14 then (if x14 < (x12.length : Int) then (if (wrap64 (x14 + 1)) < (x0.length : Int) then (if 0 ≤ (wrap64 (x14 + 1)) then (if 0 ≤ x1 then (if x14 < (x5.length : Int) then (ample_right.l0 k x0 x1 (x5.set (x14 : Int).toNat ((shr .u64 (Go.bits .or .u64 (IntKind.u64.wrap (rd x12 x14)) (IntKind.u64.wrap ((IntKind.u64.wrap (rd x0 (wrap64 (x14 + 1)))) * 4294967296))) x1) % 4294967296)) x12 x13 (wrap64 (x14 + 1))) else (none)) else (none)) else (none)) else (if 0 ≤ x1 then (if x14 < (x5.length : Int) then (ample_right.l0 k x0 x1 (x5.set (x14 : Int).toNat ((shr .u64 (IntKind.u64.wrap (rd x12 x14)) x1) % 4294967296)) x12 x13 (wrap64 (x14 + 1))) else (none)) else (none))) else (none)) else (none)) else (some x5)
def ample_right.f (k : Nat) (l0 : List Int) (a1 : Int) : Option (List Int) := if 0 ≤ (l0.length : Int) then (if ((l0.length : Int) : Int).toNat ≤ 70368744177664 then (ample_right.l0 k l0 a1 (List.replicate ((l0.length : Int) : Int).toNat 0) l0 (l0.length : Int) 0) else (none)) else (none)
theorem ample_right.mono_l : ∀ k, (∀ y0 y1 y2 y3 y4 y5, LeO (ample_right.l0 k y0 y1 y2 y3 y4 y5) (ample_right.l0 (k + 1) y0 y1 y2 y3 y4 y5))
  | 0 => fun _ _ _ _ _ _ r h => by simp [ample_right.l0] at h
  | k + 1 => by
    have ih0 := ample_right.mono_l k
    · intro y0 y1 y2 y3 y4 y5
      unfold ample_right.l0
      repeat' first
      | (with_reducible exact ih0 _ _ _ _ _ _)
      | (with_reducible exact LeO.refl _)
      | (with_reducible exact LeO.none _)
      | (with_reducible refine LeO.ite ?_ ?_)
      | (with_reducible refine LeO.bind ?_ (fun _ => ?_))
      | exact ih0 _ _ _ _ _ _
      | exact LeO.none _
      | refine LeO.ite ?_ ?_
      | refine LeO.bind ?_ (fun _ => ?_)
theorem ample_right.mono : ∀ a0 a1 k, LeO (ample_right.f k a0 a1) (ample_right.f (k + 1) a0 a1) := by
  intro a0 a1 k
  have ih0 := ample_right.mono_l k
  unfold ample_right.f
  repeat' first
      | (with_reducible exact ih0 _ _ _ _ _ _)
      | (with_reducible exact LeO.refl _)
      | (with_reducible exact LeO.none _)
      | (with_reducible refine LeO.ite ?_ ?_)
      | (with_reducible refine LeO.bind ?_ (fun _ => ?_))
      | exact ih0 _ _ _ _ _ _
      | exact LeO.none _
      | refine LeO.ite ?_ ?_
      | refine LeO.bind ?_ (fun _ => ?_)
set_option maxHeartbeats 8000000 in
set_option maxRecDepth 100000 in
theorem ample_right.calls (k : Nat) (A0 : Option Addr) (c0 : Nat) (l0 : List Int) (a1 : Int) (r : List Int) (w : World) (hr0 : Kd.C (Kd.int .u32) w A0 l0.length l0) (hc0 : l0.length ≤ c0) (h : ample_right.f k l0 a1 = some r) :
    Calls Tryz.prog 210 #[.slice A0 l0.length c0, .int .i64 a1] w fun e w' => ∃ v0_ : Value, e = .returned (v0_) ∧ Kd.R (Kd.int .u32) 131 w' w.heap.size (fun _ => True) v0_ r ∧ Below w.heap.size w w' := by
  have HR0 := Aside0.mk hr0
  have HC0 := Aside0.mk hc0
  clear hr0 hc0
  have HB := Aside0.mk (Below.refl w.heap.size w)
  have H : (if 0 ≤ (l0.length : Int) then (if ((l0.length : Int) : Int).toNat ≤ 70368744177664 then (ample_right.l0 k l0 a1 (List.replicate ((l0.length : Int) : Int).toNat 0) l0 (l0.length : Int) 0) else (none)) else (none)) = some r := h
  clear h
  by_cases c3 : 0 ≤ (l0.length : Int)
  · rw [if_pos c3] at H
    have c3b0 := eq_true c3
    have c3b1 : decide (0 ≤ (l0.length : Int)) = true := decide_eq_true c3
    clear c3
    by_cases c4 : ((l0.length : Int) : Int).toNat ≤ 70368744177664
    · rw [if_pos c4] at H
      have c4b0 := eq_true c4
      have c4b1 : decide (((l0.length : Int) : Int).toNat ≤ 70368744177664) = true := decide_eq_true c4
      clear c4
      obtain ⟨y173, hy173⟩ : ∃ y_ : List Int, y_ = (List.replicate ((l0.length : Int) : Int).toNat 0) := ⟨_, rfl⟩
      replace H : (ample_right.l0 k l0 a1 y173 l0 (l0.length : Int) 0) = some r := by first | (rw [hy173]; with_reducible exact H) | (have H2_ := (Option.bind_some _ _).symm.trans H; rw [hy173]; with_reducible exact H2_) | (have H2_ := (Option.bind_some _ _).symm.trans H; with_reducible exact H2_) | with_reducible exact H | (rw [hy173]; exact H) | exact H
      have Ny173 := Aside0.mk hy173
      clear hy173
      have H' := Aside0.mk H
      clear H
      go_enter Tryz.func210, Tryz.ntmps210
      go_wp2_with (first | ((with_reducible refine gate_dst (N := 11) rfl ?_); refine Kd.R_make (Kd.int .u32) _ 131 rfl (N := 11) rfl 171 _ _ rfl (l0.length : Int) rfl rfl Tryz.underlying171 (.int .u32 0) 4 info131 rfl (by decide) (by omega) 0 (ok := fun _ => True) (okp := fun _ => True) rfl (fun _ hk => hk) trivial (of_decide_eq_true (by first | (with_reducible assumption) | assumption)) (Nat.le_trans (Nat.mul_le_mul_right _ (of_decide_eq_true (by first | (with_reducible assumption) | assumption) : (l0.length : Int).toNat ≤ 70368744177664)) (by omega)) (Below.refl _ _) (Nat.le_refl _) ?_; intro v174 w5 ho6 hb hg_ hnew_; clear hg_ hnew_; (first | rw [← Ny173.out] at ho6 | (simp only [Int.reduceToNat] at ho6; rw [← Ny173.out] at ho6)); have n0_ := Aside0.mk (Kd.R_lower ho6 (below_size (by repeat (first | (with_reducible first | exact HB.out | apply below_alloc | apply pw_below_drewN | apply below_drew1) | exact HB.out)))); have n1_ := Aside0.mk (below_step (by repeat (first | (with_reducible first | exact HB.out | apply below_alloc | apply pw_below_drewN | apply below_drew1) | exact HB.out)) hb); clear HB; have HO175 := n0_; have HB := n1_; clear n0_ n1_; clear hb ho6))
      go_loopg [14] k (fun kq v14 w' => ∃ (x5_1 : List Int) (x14_1 : Int), v14 = .int .i64 x14_1 ∧ Aside0 (ample_right.l0 kq l0 a1 x5_1 l0 (l0.length : Int) x14_1 = some r) ∧ Aside0 (kq ≤ k) ∧ Aside0 (Kd.R (Kd.int .u32) 131 w' w.heap.size (fun _ => True) v174 x5_1) ∧ Aside0 (Below w.heap.size w w'))
      case atStart => exact ⟨(y173), (0), (by first | rfl | (simp; done) | (simp [*]; done)), H', ⟨Nat.le_refl _⟩, ⟨by (with_reducible repeat (first | apply Kd.R_alloc | apply Kd.R_drewN | apply Kd.R_drew)); exact HO175.out⟩, ⟨by repeat (first | (with_reducible first | exact HB.out | apply below_alloc | apply pw_below_drewN | apply below_drew1) | exact HB.out)⟩⟩
      case round =>
        clear H'
        try clear c2
        try clear p2
        try clear c3
        try clear c3b0
        try clear c3b1
        try clear c4
        try clear c4b0
        try clear c4b1
        obtain ⟨x5_1, x14_1, rfl, HA, HK1, HO_5, HB⟩ := hrel
        cases gk with
        | zero => exact absurd HA.out (by simp [ample_right.l0])
        | succ k1 =>
          have H := HA.out
          clear HA
          simp only [ample_right.l0] at H
          by_cases c7 : x14_1 < (l0.length : Int)
          · rw [if_pos c7] at H
            have c7b0 : decide (x14_1 < (l0.length : Int)) = true := decide_eq_true c7
            clear c7
            by_cases c8 : 0 ≤ x14_1
            · rw [if_pos c8] at H
              have c8b0 : decide (0 ≤ x14_1) = true := decide_eq_true c8
              clear c8
              by_cases c9 : x14_1 < (l0.length : Int)
              · rw [if_pos c9] at H
                have c9b0 : decide (x14_1 < (l0.length : Int)) = true := decide_eq_true c9
                clear c9
                by_cases c10 : (wrap64 (x14_1 + 1)) < (l0.length : Int)
                · rw [if_pos c10] at H
                  have c10b0 : decide ((wrap64 (x14_1 + 1)) < (l0.length : Int)) = true := decide_eq_true c10
                  clear c10
                  obtain ⟨ji11, hji11⟩ : ∃ j_ : Int, (wrap64 (x14_1 + 1)) = j_ := ⟨_, rfl⟩
                  replace H : (if 0 ≤ (ji11) then (if 0 ≤ a1 then (if x14_1 < (x5_1.length : Int) then (ample_right.l0 k1 l0 a1 (x5_1.set (x14_1 : Int).toNat ((shr .u64 (Go.bits .or .u64 (IntKind.u64.wrap (rd l0 x14_1)) (IntKind.u64.wrap ((IntKind.u64.wrap (rd l0 (ji11))) * 4294967296))) a1) % 4294967296)) l0 (l0.length : Int) ji11) else (none)) else (none)) else (none)) = some r := by first | (rw [hji11] at H; exact H) | (simp only [hji11] at H ⊢; exact H)
                  (try rw [hji11] at c10b0)
                  have hji11w : (IntKind.i64.wrap (x14_1 + 1)) = ji11 := (i64_w _).trans hji11
                  by_cases c12 : 0 ≤ (ji11)
                  · rw [if_pos c12] at H
                    have c12b0 : decide (0 ≤ (ji11)) = true := decide_eq_true c12
                    clear c12
                    by_cases c13 : 0 ≤ a1
                    · rw [if_pos c13] at H
                      have c13b0 := eq_true c13
                      have c13b1 : decide (0 ≤ a1) = true := decide_eq_true c13
                      clear c13
                      obtain ⟨ji14, hji14⟩ : ∃ j_ : Int, (shr .u64 (Go.bits .or .u64 (IntKind.u64.wrap (rd l0 x14_1)) (IntKind.u64.wrap ((IntKind.u64.wrap (rd l0 (ji11))) * 4294967296))) a1) = j_ := ⟨_, rfl⟩
                      replace H : (if x14_1 < (x5_1.length : Int) then (ample_right.l0 k1 l0 a1 (x5_1.set (x14_1 : Int).toNat ((ji14) % 4294967296)) l0 (l0.length : Int) ji11) else (none)) = some r := by first | (rw [hji14] at H; exact H) | (simp only [hji14] at H ⊢; exact H)
                      have hji14_ : ((Go.bits .or .u64 (IntKind.u64.wrap (rd l0 x14_1)) (IntKind.u64.wrap ((IntKind.u64.wrap (rd l0 (ji11))) * 4294967296))) / 2 ^ min a1.toNat 64) = ji14 := hji14
                      have hji14z : a1 ≤ 64 → ((Go.bits .or .u64 (IntKind.u64.wrap (rd l0 x14_1)) (IntKind.u64.wrap ((IntKind.u64.wrap (rd l0 (ji11))) * 4294967296))) / 2 ^ a1.toNat) = ji14 := shr_small hji14
                      by_cases c15 : x14_1 < (x5_1.length : Int)
                      · rw [if_pos c15] at H
                        have c15b0 : decide (x14_1 < (x5_1.length : Int)) = true := decide_eq_true c15
                        clear c15
                        obtain ⟨y178, hy178⟩ : ∃ y_ : List Int, y_ = (x5_1.set (x14_1 : Int).toNat ((ji14) % 4294967296)) := ⟨_, rfl⟩
                        replace H : (ample_right.l0 k1 l0 a1 y178 l0 (l0.length : Int) ji11) = some r := by first | (rw [hy178]; with_reducible exact H) | (have H2_ := (Option.bind_some _ _).symm.trans H; rw [hy178]; with_reducible exact H2_) | (have H2_ := (Option.bind_some _ _).symm.trans H; with_reducible exact H2_) | with_reducible exact H | (rw [hy178]; exact H) | exact H
                        have Ny178 := Aside0.mk hy178
                        clear hy178
                        have H' := Aside0.mk H
                        clear H
                        have p176 : 0 ≤ (x14_1 : Int) := of_decide_eq_true (by first | (with_reducible assumption) | assumption)
                        have q176 : x14_1 < (l0.length : Int) := of_decide_eq_true (by first | (with_reducible assumption) | assumption)
                        obtain ⟨ad176, e176, hx176_0⟩ := Kd.at_int HR0.out x14_1 p176 q176
                        cases e176
                        replace hx176_0 := (HB.out.cell (World.block_lt_of_cell? w _ hx176_0)).trans hx176_0
                        replace p176 := eq_true p176
                        replace q176 := eq_true q176
                        have p177 : 0 ≤ ((ji11) : Int) := of_decide_eq_true (by first | (with_reducible assumption) | assumption)
                        have q177 : (ji11) < (l0.length : Int) := of_decide_eq_true (by first | (with_reducible assumption) | assumption)
                        obtain ⟨ad177, e177, hx177_0⟩ := Kd.at_int HR0.out (ji11) p177 q177
                        obtain rfl : ad176 = ad177 := (by injection e177)
                        replace hx177_0 := (HB.out.cell (World.block_lt_of_cell? w _ hx177_0)).trans hx177_0
                        replace p177 := eq_true p177
                        replace q177 := eq_true q177
                        have p16 : 0 ≤ (x14_1 : Int) := of_decide_eq_true (by first | (with_reducible assumption) | assumption)
                        have q16 : (x14_1 : Int) < ((x5_1.length : Int) : Int) := of_decide_eq_true (by first | (with_reducible assumption) | assumption)
                        obtain ⟨go16, co16, eo16, gb16, gl16, cl16, HG16⟩ := Kd.R_form HO_5.out (by omega)
                        (first | cases eo16 | (injection eo16 with ea_ en_ ec_; (first | subst ea_ | (injection ea_ with ea_; subst ea_)); subst ec_; clear en_))
                        have GB16 := Aside0.mk gb16
                        have GG16 := Aside0.mk HG16
                        clear gb16 gl16 HG16
                        obtain ⟨hx16_0, hf16_0⟩ := Kd.R_celln 0 HO_5.out (x14_1 : Int) p16 q16
                        replace p16 := eq_true p16
                        replace q16 := eq_true q16
                        have HP17 := Kd.R_putg HO_5.out (x14_1 : Int) ((ji14) % 4294967296)
                        go_wp2_with (first | ((with_reducible refine gate_store (t := 131) (p := 41) rfl ?_); refine store_event (t := 131) (p := 41) (v := ?vo_w18) (w1 := (wr.setCell ⟨go16, (x14_1 : Int).toNat, none⟩ (.int .u32 ((ji14) % 4294967296)))) ?hg ?ho ?hn ?hr ?_; (case ho => rfl); (case hg => rfl); (case hn => rfl); (case hr => first | (go_simp; done) | (go_simp; rfl)); intro w18 hw; have hg : wr.grownBy w18 (some go16) := (by rw [hw]; exact HP17.2); have hp_ : Kd.R (Kd.int .u32) 131 w18 w.heap.size (fun _ => True) (.slice (some ⟨go16, 0, none⟩) x5_1.length co16) y178 := (by rw [hw, Ny178.out]; exact HP17.1); clear HP17; have n0_ := Aside0.mk (hp_); have n1_ := Aside0.mk ((by rw [hw]; exact below_set (HB.out) GB16.out : Below w.heap.size w w18)); clear HO_5; clear HB; have HO_5 := n0_; have HB := n1_; clear n0_ n1_; clear hg hw hp_))
                        go_roundg k1
                        case measure => have := HK1.out; omega
                        case rel => exact ⟨(y178), (ji11), (by first | rfl | (simp; done) | (simp only [← hji11] <;> (first | rfl | simp)) | (simp [*]; done)), H', ⟨by have := HK1.out; omega⟩, ⟨by (with_reducible repeat (first | apply Kd.R_alloc | apply Kd.R_drewN | apply Kd.R_drew)); exact HO_5.out⟩, ⟨by repeat (first | (with_reducible first | exact HB.out | apply below_alloc | apply pw_below_drewN | apply below_drew1) | exact HB.out)⟩⟩
                      · rw [if_neg c15] at H
                        exact absurd H (by simp)
                    · rw [if_neg c13] at H
                      exact absurd H (by simp)
                  · rw [if_neg c12] at H
                    exact absurd H (by simp)
                · rw [if_neg c10] at H
                  have c10b0 : decide ((wrap64 (x14_1 + 1)) < (l0.length : Int)) = false := decide_eq_false c10
                  clear c10
                  by_cases c19 : 0 ≤ a1
                  · rw [if_pos c19] at H
                    have c19b0 := eq_true c19
                    have c19b1 : decide (0 ≤ a1) = true := decide_eq_true c19
                    clear c19
                    obtain ⟨ji20, hji20⟩ : ∃ j_ : Int, (shr .u64 (IntKind.u64.wrap (rd l0 x14_1)) a1) = j_ := ⟨_, rfl⟩
                    replace H : (if x14_1 < (x5_1.length : Int) then (ample_right.l0 k1 l0 a1 (x5_1.set (x14_1 : Int).toNat ((ji20) % 4294967296)) l0 (l0.length : Int) (wrap64 (x14_1 + 1))) else (none)) = some r := by first | (rw [hji20] at H; exact H) | (simp only [hji20] at H ⊢; exact H)
                    have hji20_ : ((IntKind.u64.wrap (rd l0 x14_1)) / 2 ^ min a1.toNat 64) = ji20 := hji20
                    have hji20z : a1 ≤ 64 → ((IntKind.u64.wrap (rd l0 x14_1)) / 2 ^ a1.toNat) = ji20 := shr_small hji20
                    by_cases c21 : x14_1 < (x5_1.length : Int)
                    · rw [if_pos c21] at H
                      have c21b0 : decide (x14_1 < (x5_1.length : Int)) = true := decide_eq_true c21
                      clear c21
                      obtain ⟨y179, hy179⟩ : ∃ y_ : List Int, y_ = (x5_1.set (x14_1 : Int).toNat ((ji20) % 4294967296)) := ⟨_, rfl⟩
                      replace H : (ample_right.l0 k1 l0 a1 y179 l0 (l0.length : Int) (wrap64 (x14_1 + 1))) = some r := by first | (rw [hy179]; with_reducible exact H) | (have H2_ := (Option.bind_some _ _).symm.trans H; rw [hy179]; with_reducible exact H2_) | (have H2_ := (Option.bind_some _ _).symm.trans H; with_reducible exact H2_) | with_reducible exact H | (rw [hy179]; exact H) | exact H
                      have Ny179 := Aside0.mk hy179
                      clear hy179
                      have H' := Aside0.mk H
                      clear H
                      have p176 : 0 ≤ (x14_1 : Int) := of_decide_eq_true (by first | (with_reducible assumption) | assumption)
                      have q176 : x14_1 < (l0.length : Int) := of_decide_eq_true (by first | (with_reducible assumption) | assumption)
                      obtain ⟨ad176, e176, hx176_0⟩ := Kd.at_int HR0.out x14_1 p176 q176
                      cases e176
                      replace hx176_0 := (HB.out.cell (World.block_lt_of_cell? w _ hx176_0)).trans hx176_0
                      replace p176 := eq_true p176
                      replace q176 := eq_true q176
                      have p22 : 0 ≤ (x14_1 : Int) := of_decide_eq_true (by first | (with_reducible assumption) | assumption)
                      have q22 : (x14_1 : Int) < ((x5_1.length : Int) : Int) := of_decide_eq_true (by first | (with_reducible assumption) | assumption)
                      obtain ⟨go22, co22, eo22, gb22, gl22, cl22, HG22⟩ := Kd.R_form HO_5.out (by omega)
                      (first | cases eo22 | (injection eo22 with ea_ en_ ec_; (first | subst ea_ | (injection ea_ with ea_; subst ea_)); subst ec_; clear en_))
                      have GB22 := Aside0.mk gb22
                      have GG22 := Aside0.mk HG22
                      clear gb22 gl22 HG22
                      obtain ⟨hx22_0, hf22_0⟩ := Kd.R_celln 0 HO_5.out (x14_1 : Int) p22 q22
                      replace p22 := eq_true p22
                      replace q22 := eq_true q22
                      have HP23 := Kd.R_putg HO_5.out (x14_1 : Int) ((ji20) % 4294967296)
                      go_wp2_with (first | ((with_reducible refine gate_store (t := 131) (p := 41) rfl ?_); refine store_event (t := 131) (p := 41) (v := ?vo_w24) (w1 := (wr.setCell ⟨go22, (x14_1 : Int).toNat, none⟩ (.int .u32 ((ji20) % 4294967296)))) ?hg ?ho ?hn ?hr ?_; (case ho => rfl); (case hg => rfl); (case hn => rfl); (case hr => first | (go_simp; done) | (go_simp; rfl)); intro w24 hw; have hg : wr.grownBy w24 (some go22) := (by rw [hw]; exact HP23.2); have hp_ : Kd.R (Kd.int .u32) 131 w24 w.heap.size (fun _ => True) (.slice (some ⟨go22, 0, none⟩) x5_1.length co22) y179 := (by rw [hw, Ny179.out]; exact HP23.1); clear HP23; have n0_ := Aside0.mk (hp_); have n1_ := Aside0.mk ((by rw [hw]; exact below_set (HB.out) GB22.out : Below w.heap.size w w24)); clear HO_5; clear HB; have HO_5 := n0_; have HB := n1_; clear n0_ n1_; clear hg hw hp_))
                      go_roundg k1
                      case measure => have := HK1.out; omega
                      case rel => exact ⟨(y179), (wrap64 (x14_1 + 1)), (by first | rfl | (simp; done) | (simp [*]; done)), H', ⟨by have := HK1.out; omega⟩, ⟨by (with_reducible repeat (first | apply Kd.R_alloc | apply Kd.R_drewN | apply Kd.R_drew)); exact HO_5.out⟩, ⟨by repeat (first | (with_reducible first | exact HB.out | apply below_alloc | apply pw_below_drewN | apply below_drew1) | exact HB.out)⟩⟩
                    · rw [if_neg c21] at H
                      exact absurd H (by simp)
                  · rw [if_neg c19] at H
                    exact absurd H (by simp)
              · rw [if_neg c9] at H
                exact absurd H (by simp)
            · rw [if_neg c8] at H
              exact absurd H (by simp)
          · rw [if_neg c7] at H
            have c7b0 : decide (x14_1 < (l0.length : Int)) = false := decide_eq_false c7
            clear c7
            obtain rfl := Option.some.inj H
            go_wp2
            go_ret
            exact ⟨_, by first | rfl | (simp [errW_none, errW_some] <;> rfl) | (simp [*, errW_none, errW_some] <;> rfl), by (with_reducible repeat (first | apply Kd.R_alloc | apply Kd.R_drewN | apply Kd.R_drew)); exact HO_5.out, by repeat (first | (with_reducible first | exact HB.out | apply below_alloc | apply pw_below_drewN | apply below_drew1) | exact HB.out)⟩
    · rw [if_neg c4] at H
      exact absurd H (by simp)
  · rw [if_neg c3] at H
    exact absurd H (by simp)
end Go.Proofs.YthbdjmopolpjmaaGreatDoor.F
end
section
set_option linter.unusedVariables false
set_option linter.unusedSimpArgs false
namespace Go.Proofs.YthbdjmopolpjmaaGreatDoor.M
open Go.RowKit Go.Proofs.YthbdjmopolpjmaaGreatDoorW.PrintWords Go.Proofs.YthbdjmopolpjmaaGreatDoor.F Go.Proofs.YthbdjmopolpjmaaGreatDoorW.PrintMore
theorem rd_set_self (xs : List Int) (i : Nat) (v : Int) (h : i < xs.length) : rd (xs.set i v) (i : Int) = v := by
  unfold rd; simp [h]
theorem split32 (x : Int) (h0 : 0 ≤ x) (h1 : x < 18446744073709551616) : 0 ≤ x % 4294967296 ∧ x % 4294967296 < 4294967296 ∧ 0 ≤ x / 4294967296 ∧ x / 4294967296 < 4294967296 ∧ x = x % 4294967296 + 4294967296 * (x / 4294967296) := by omega
theorem mul_le32 {x y : Int} (hx0 : 0 ≤ x) (hx : x < 4294967296) (hy0 : 0 ≤ y) (hy : y < 4294967296) : 0 ≤ x * y ∧ x * y ≤ 18446744065119617025 := by
  refine ⟨Int.mul_nonneg hx0 hy0, ?_⟩
  have h1 : x * y ≤ 4294967295 * y := Int.mul_le_mul_of_nonneg_right (by omega) hy0
  omega
theorem more_ev {w : List Int} {t add : Int} (hw : Dig 4294967296 w) (ht0 : 0 ≤ t) (ht : t < 4294967296) (hl : w.length < 35184372088832) : ∀ (d i : Nat) (x : List Int) (c : Int), i + d = w.length → x.length = w.length → Dig 4294967296 x → x.drop i = w.drop i → 0 ≤ c → c < 4294967296 →
    val 4294967296 (x.take i) + 4294967296 ^ i * c = val 4294967296 (w.take i) * t + add →
    ∃ r, Ev (fun k => ample_more.l0 k x t c (w.length : Int) (i : Int)) r ∧ Dig 4294967296 r ∧ r.length ≤ w.length + 1 ∧ val 4294967296 r = val 4294967296 w * t + add := by
  intro d
  induction d with
  | zero =>
    intro i x c hi hxl hxd hdr h0 h1 hv
    obtain rfl : i = w.length := by omega
    rw [List.take_of_length_le (by omega), List.take_of_length_le (by omega)] at hv
    by_cases hc : c > 0
    · refine ⟨x ++ [c % 4294967296], Ev.step (f := fun _ => some (x ++ [c % 4294967296])) (fun k => ?_) (Ev.now _), ?_, by simp; omega, ?_⟩
      · simp only [ample_more.l0]
        rw [if_neg (by omega), if_pos hc, if_pos (by omega)]
      · rw [dig_append]
        exact ⟨hxd, fun y hy => by simp at hy; subst hy; omega⟩
      · rw [val_snoc, hxl, Int.emod_eq_of_lt h0 h1]; exact hv
    · refine ⟨x, Ev.step (f := fun _ => some x) (fun k => ?_) (Ev.now _), hxd, by omega, ?_⟩
      · simp only [ample_more.l0]
        rw [if_neg (by omega), if_neg hc]
      · obtain rfl : c = 0 := by omega
        simpa using hv
  | succ d ih =>
    intro i x c hi hxl hxd hdr h0 h1 hv
    have hiw : i < w.length := by omega
    have hrd : rd x i = rd w i := rd_of_drop (by omega) hdr
    have bx := dig_rd hxd i (by simp; omega)
    have bm := mul_le32 bx.1 bx.2 ht0 ht
    have hs := split32 (c + rd x i * t) (by omega) (by omega)
    obtain ⟨r, he, h⟩ := ih (i + 1) (x.set i ((c + rd x i * t) % 4294967296)) ((c + rd x i * t) / 4294967296) (by omega) (by simpa using hxl) (dig_set hxd i ⟨hs.1, hs.2.1⟩) (by rw [drop_set_succ]; exact drop_succ_of hdr) hs.2.2.1 hs.2.2.2.1 (by
      rw [val_take_set _ x i _ (by omega), val_take_succ _ w i hiw, Int.pow_succ, ← hrd]
      have h5 := hs.2.2.2.2
      generalize (c + rd x i * t) % 4294967296 = lo at *
      generalize (c + rd x i * t) / 4294967296 = hi at *
      generalize (4294967296 : Int) ^ i = P at *
      grind)
    refine ⟨r, Ev.step (fun k => ?_) he, h⟩
    simp only [ample_more.l0]
    rw [if_pos (by omega), if_pos (by omega), if_pos (by omega), u64 bx.1 (by omega), u64 ht0 (by omega), u64 bm.1 (by omega), u64 (by omega) (by omega), w64 (by omega) (by omega), Int.toNat_natCast]
    rfl
theorem more_tells {w : List Int} {t add : Int} (hw : Dig 4294967296 w) (ht0 : 0 ≤ t) (ht : t < 4294967296) (ha0 : 0 ≤ add) (ha : add < 4294967296) (hl : w.length < 35184372088832) :
    ∃ r, Ev (fun k => ample_more.f k w t add) r ∧ Dig 4294967296 r ∧ r.length ≤ w.length + 1 ∧ val 4294967296 r = val 4294967296 w * t + add := by
  obtain ⟨r, he, h⟩ := more_ev (add := add) hw ht0 ht hl w.length 0 w add (by omega) rfl hw rfl ha0 ha (by simp [val])
  refine ⟨r, Ev.congr (fun k => ?_) he, h⟩
  unfold ample_more.f
  rw [u64 ha0 (by omega)]
  rfl
theorem pow2_facts : ∀ m : Nat, m < 32 → (1 : Int) ≤ 2 ^ m ∧ (2 : Int) ^ m * 2 ≤ 4294967296 ∧ (2 : Int) ^ m * (4294967296 / 2 ^ m) = 4294967296 ∧ (1 : Int) ≤ 4294967296 / 2 ^ m := by decide
theorem or32 {x y : Int} {m : Nat} (hm : m ≤ 32) (hx0 : 0 ≤ x) (hx : x % 2 ^ m = 0) (hx1 : x < 4294967296) (hy0 : 0 ≤ y) (hy : y < 2 ^ m) (hy1 : y < 4294967296) : Go.bits .or .u32 x y = x + y :=
  bits_join .u32 32 (by decide) (fun n h0 h1 => by rw [IntKind.wrap_u32]; omega) m _ _ hx0 hx (by omega) hy0 hy (by omega)
theorem or32' {x y : Int} {m : Nat} (hm : m ≤ 32) (hx0 : 0 ≤ x) (hx : x % 2 ^ m = 0) (hx1 : x < 4294967296) (hy0 : 0 ≤ y) (hy : y < 2 ^ m) (hy1 : y < 4294967296) : Go.bits .or .u32 y x = y + x := by
  have h := or32 hm hx0 hx hx1 hy0 hy hy1
  have hc : Go.bits .or .u32 y x = Go.bits .or .u32 x y := by simp only [Go.bits]; rw [BitVec.or_comm]
  rw [hc, h, Int.add_comm]
theorem shl_is {x : Int} {m : Nat} (hm : m < 32) (h0 : 0 ≤ x) (h1 : x < 4294967296) : shl .u64 x (m : Int) = x * 2 ^ m := by
  have hp := pow2_facts m hm
  have := mul_le32 h0 h1 (show (0 : Int) ≤ 2 ^ m by omega) (by omega)
  unfold shl
  rw [show min (m : Int).toNat IntKind.u64.bits = m by simp [IntKind.bits]; omega]
  exact u64 this.1 (by omega)
theorem shr_is {x : Int} {m : Nat} (hm : m < 32) : shr .u64 x (m : Int) = x / 2 ^ m := by
  unfold shr
  rw [show min (m : Int).toNat IntKind.u64.bits = m by simp [IntKind.bits]; omega]
theorem left_ev {a : List Int} {m : Nat} (hm : m < 32) (ha : Dig 4294967296 a) (hl : a.length < 70368744177664) : ∀ (d i : Nat) (x : List Int), i + d = a.length → x.length = a.length + 1 → Dig 4294967296 x → rd x i < 2 ^ m → val 4294967296 (x.drop (i + 1)) = 0 →
    val 4294967296 (x.take i) + 4294967296 ^ i * rd x i = val 4294967296 (a.take i) * 2 ^ m →
    ∃ r, Ev (fun k => ample_left.l0 k (m : Int) x a (a.length : Int) (i : Int)) r ∧ Dig 4294967296 r ∧ r.length = a.length + 1 ∧ val 4294967296 r = val 4294967296 a * 2 ^ m := by
  have hp := pow2_facts m hm
  intro d
  induction d with
  | zero =>
    intro i x hi hxl hxd hlow hz hv
    obtain rfl : i = a.length := by omega
    refine ⟨x, Ev.step (f := fun _ => some x) (fun k => ?_) (Ev.now _), hxd, hxl, ?_⟩
    · simp only [ample_left.l0]; rw [if_neg (by omega)]
    · rw [List.take_of_length_le (Nat.le_refl a.length)] at hv
      rw [val_cut _ x (a.length + 1) (by omega), hz, val_take_succ _ x a.length (by omega)]
      omega
  | succ d ih =>
    intro i x hi hxl hxd hlow hz hv
    have hia : i < a.length := by omega
    have bx := dig_rd hxd i (by simp; omega)
    have ba := dig_rd ha i (by simp; omega)
    generalize hT : (2 : Int) ^ m = T at *
    generalize hC : 4294967296 / T = C at *
    have bm := mul_le32 ba.1 ba.2 (show 0 ≤ T by omega) (by omega)
    have hs := split32 (rd a i * T) bm.1 (by omega)
    have hmod : (rd a i * T % 4294967296) % T = 0 := by
      have h1 : rd a i * T % 4294967296 = T * (rd a i % C) := by
        rw [← hp.2.2.1, Int.mul_comm (rd a i) T, Int.mul_emod_mul_of_pos _ _ (by omega)]
      rw [h1]; simp
    have hlo : rd a i * T % 4294967296 ≤ 4294967296 - T := by
      have h1 : rd a i * T % 4294967296 = T * (rd a i % C) := by
        rw [← hp.2.2.1, Int.mul_comm (rd a i) T, Int.mul_emod_mul_of_pos _ _ (by omega)]
      have h2 : rd a i % C < C := Int.emod_lt_of_pos _ (by omega)
      have h3 : T * (rd a i % C + 1) ≤ T * C := Int.mul_le_mul_of_nonneg_left (by omega) (by omega)
      rw [Int.mul_add] at h3
      omega
    have hhi : rd a i * T / 4294967296 < T := by
      refine Int.ediv_lt_of_lt_mul (by omega) ?_
      have h3 : (rd a i + 1) * T ≤ 4294967296 * T := Int.mul_le_mul_of_nonneg_right (by omega) (by omega)
      rw [Int.add_mul] at h3
      rw [Int.mul_comm T]
      omega
    have eor : Go.bits .or .u32 (rd x i) (rd a i * T % 4294967296) = rd x i + rd a i * T % 4294967296 :=
      or32' (m := m) (by omega) hs.1 (by rw [hT]; exact hmod) hs.2.1 bx.1 (by rw [hT]; exact hlow) bx.2
    have e1 : rd ((x.set i (rd x i + rd a i * T % 4294967296)).set (i + 1) (rd a i * T / 4294967296)) ((i + 1 : Nat) : Int) = rd a i * T / 4294967296 := by
      exact rd_set_self _ (i + 1) _ (by simp; omega)
    have hzz : val 4294967296 (x.drop (i + 1 + 1)) = 0 := by
      rw [drop_rd x (i + 1) (by omega)] at hz
      simp only [val] at hz
      have b2 := dig_rd hxd ((i + 1 : Nat) : Int) (by simp; omega)
      have := val_nonneg (by omega) (dig_drop hxd (i + 1 + 1))
      omega
    obtain ⟨r, he, h⟩ := ih (i + 1) ((x.set i (rd x i + rd a i * T % 4294967296)).set (i + 1) (rd a i * T / 4294967296)) (by omega) (by simp; omega) (dig_set (dig_set hxd i ⟨by omega, by omega⟩) (i + 1) ⟨by omega, by omega⟩) (by rw [e1]; exact hhi) (by
      rw [drop_set_succ, List.drop_set_of_lt (by omega)]; exact hzz) (by
      rw [e1, List.take_set_of_le (by omega), val_take_set _ x i _ (by omega), val_take_succ _ a i hia, Int.pow_succ]
      have h5 := hs.2.2.2.2
      generalize rd a i * T % 4294967296 = lo at *
      generalize rd a i * T / 4294967296 = hi at *
      generalize (4294967296 : Int) ^ i = P at *
      grind)
    refine ⟨r, Ev.step (fun k => ?_) he, h⟩
    simp only [ample_left.l0]
    rw [if_pos (by omega), if_pos (by omega), if_pos (by omega), if_pos (by omega), if_pos (by omega), w64 (by omega) (by omega), if_pos (by omega), if_pos (by omega), u64 ba.1 (by omega), shl_is hm ba.1 ba.2, hT, eor, Int.emod_eq_of_lt hs.2.2.1 hs.2.2.2.1, Int.toNat_natCast]
    rfl
theorem left_tells {a : List Int} {n : Int} (h0 : 0 ≤ n) (h1 : n < 32) (ha : Dig 4294967296 a) (hl : a.length < 70368744177664) :
    ∃ r, Ev (fun k => ample_left.f k a n) r ∧ Dig 4294967296 r ∧ r.length = a.length + 1 ∧ val 4294967296 r = val 4294967296 a * 2 ^ n.toNat := by
  obtain ⟨m, rfl⟩ := Int.eq_ofNat_of_zero_le h0
  have hp := pow2_facts m (by omega)
  have e0 : rd (List.replicate (a.length + 1) 0) ((0 : Nat) : Int) = 0 := by simp [rd, List.replicate_succ]
  obtain ⟨r, he, h⟩ := left_ev (m := m) (by omega) ha hl a.length 0 (List.replicate (a.length + 1) 0) (by omega) (by simp) (dig_replicate (by omega) _) (by rw [e0]; omega) (by simp [List.drop_replicate, val_replicate]) (by rw [e0]; simp [val])
  refine ⟨r, Ev.congr (fun k => ?_) he, h⟩
  unfold ample_left.f
  rw [w64 (by omega) (by omega), if_pos (by omega), if_pos (by omega), show ((a.length : Int) + 1).toNat = a.length + 1 by omega]
  rfl
theorem or64' {x y : Int} (hx0 : 0 ≤ x) (hx : x < 4294967296) (hy0 : 0 ≤ y) (hy : y < 4294967296) : Go.bits .or .u64 y (x * 4294967296) = y + x * 4294967296 := by
  have hc : Go.bits .or .u64 y (x * 4294967296) = Go.bits .or .u64 (x * 4294967296) y := by simp only [Go.bits]; rw [BitVec.or_comm]
  rw [hc, or64 hx0 hx hy0 hy, Int.add_comm]
def rest (a : List Int) (T : Int) (i : Nat) : Int := if i < a.length then rd a i % T else 0
theorem right_ev {a : List Int} {m : Nat} (hm : m < 32) (ha : Dig 4294967296 a) (hl : a.length < 70368744177664) : ∀ (d i : Nat) (x : List Int), i + d = a.length → x.length = a.length → Dig 4294967296 x →
    2 ^ m * val 4294967296 (x.take i) + rest a (2 ^ m) 0 = val 4294967296 (a.take i) + 4294967296 ^ i * rest a (2 ^ m) i →
    ∃ r, Ev (fun k => ample_right.l0 k a (m : Int) x a (a.length : Int) (i : Int)) r ∧ Dig 4294967296 r ∧ r.length = a.length ∧ 2 ^ m * val 4294967296 r + rest a (2 ^ m) 0 = val 4294967296 a := by
  have hp := pow2_facts m hm
  intro d
  induction d with
  | zero =>
    intro i x hi hxl hxd hv
    obtain rfl : i = a.length := by omega
    refine ⟨x, Ev.step (f := fun _ => some x) (fun k => ?_) (Ev.now _), hxd, hxl, ?_⟩
    · simp only [ample_right.l0]; rw [if_neg (by omega)]
    · rw [List.take_of_length_le (Nat.le_refl a.length), List.take_of_length_le (by omega)] at hv
      rw [hv, rest, if_neg (by omega)]; simp
  | succ d ih =>
    intro i x hi hxl hxd hv
    have hia : i < a.length := by omega
    have ba := dig_rd ha i (by simp; omega)
    generalize hT : (2 : Int) ^ m = T at *
    generalize hC : 4294967296 / T = C at *
    have hq := Int.mul_ediv_add_emod (rd a i) T
    have hr0 : 0 ≤ rd a i % T := Int.emod_nonneg _ (by omega)
    have hr1 : rd a i % T < T := Int.emod_lt_of_pos _ (by omega)
    have hq0 : 0 ≤ rd a i / T := Int.ediv_nonneg ba.1 (by omega)
    have hqC : rd a i / T < C := by
      refine Int.ediv_lt_of_lt_mul (by omega) ?_
      rw [Int.mul_comm]; omega
    have hri : rest a T i = rd a i % T := by rw [rest, if_pos hia]
    have hnew : ∀ w : Int, 0 ≤ w → w < 4294967296 → ((rd a i + w * 4294967296) / T) % 4294967296 = rd a i / T + (w % T) * C := by
      intro w hw0 hw1
      have e1 : rd a i + w * 4294967296 = rd a i + T * (w * C) := by rw [← hp.2.2.1]; grind
      rw [e1, Int.add_mul_ediv_left _ _ (by omega)]
      have hw := Int.mul_ediv_add_emod w T
      have hw2 : 0 ≤ w % T := Int.emod_nonneg _ (by omega)
      have hw3 : w % T < T := Int.emod_lt_of_pos _ (by omega)
      have e2 : rd a i / T + w * C = (rd a i / T + (w % T) * C) + 4294967296 * (w / T) := by
        rw [← hp.2.2.1]
        generalize w / T = W1 at *
        generalize w % T = W2 at *
        grind
      rw [e2, Int.add_mul_emod_self_left]
      have h3 : (w % T + 1) * C ≤ T * C := Int.mul_le_mul_of_nonneg_right (by omega) (by omega)
      rw [Int.add_mul] at h3
      have h4 := Int.mul_nonneg hw2 (show 0 ≤ C by omega)
      rw [Int.emod_eq_of_lt (by omega) (by omega)]
    have bnew : ∀ s : Int, 0 ≤ s → s < T → 0 ≤ rd a i / T + s * C ∧ rd a i / T + s * C < 4294967296 := by
      intro s hs0 hs1
      have h3 : (s + 1) * C ≤ T * C := Int.mul_le_mul_of_nonneg_right (by omega) (by omega)
      rw [Int.add_mul] at h3
      have h4 := Int.mul_nonneg hs0 (show 0 ≤ C by omega)
      omega
    have step : ∀ s : Int, s = rest a T (i + 1) → 0 ≤ s → s < T → ∃ r, Ev (fun k => ample_right.l0 k a (m : Int) (x.set i (rd a i / T + s * C)) a (a.length : Int) ((i : Int) + 1)) r ∧ Dig 4294967296 r ∧ r.length = a.length ∧ T * val 4294967296 r + rest a T 0 = val 4294967296 a := by
      intro s hs hs0 hs1
      refine ih (i + 1) (x.set i (rd a i / T + s * C)) (by omega) (by simpa using hxl) (dig_set hxd i (bnew s hs0 hs1)) ?_
      rw [val_take_set _ x i _ (by omega), val_take_succ _ a i hia, Int.pow_succ, ← hs]
      rw [hri] at hv
      generalize rd a i / T = Q at *
      generalize rd a i % T = R at *
      generalize (4294967296 : Int) ^ i = P at *
      generalize rest a T 0 = R0 at *
      have := hp.2.2.1
      grind
    by_cases hlast : i + 1 < a.length
    · have b2 := dig_rd ha ((i + 1 : Nat) : Int) (by simp; omega)
      obtain ⟨r, he, h⟩ := step (rd a ((i + 1 : Nat) : Int) % T) (by rw [rest, if_pos hlast]) (Int.emod_nonneg _ (by omega)) (Int.emod_lt_of_pos _ (by omega))
      refine ⟨r, Ev.step (fun k => ?_) he, h⟩
      have ei : ((i + 1 : Nat) : Int) = (i : Int) + 1 := by omega
      rw [ei] at b2
      simp only [ample_right.l0]
      rw [w64 (by omega) (by omega)]
      rw [if_pos (by omega), if_pos (by omega), if_pos (by omega), if_pos (by omega), if_pos (by omega), if_pos (by omega), if_pos (by omega), u64 ba.1 (by omega), u64 b2.1 (by omega), u64 (show 0 ≤ rd a ((i : Int) + 1) * 4294967296 by omega) (by omega), or64' b2.1 b2.2 ba.1 ba.2, shr_is hm, hT, hnew _ b2.1 b2.2, Int.toNat_natCast, ei]
    · obtain ⟨r, he, h⟩ := step 0 (by rw [rest, if_neg hlast]) (by omega) (by omega)
      refine ⟨r, Ev.step (fun k => ?_) he, h⟩
      simp only [ample_right.l0]
      rw [w64 (by omega) (by omega)]
      have := hnew 0 (by omega) (by omega)
      simp only [Int.zero_mul, Int.add_zero, Int.zero_emod] at this
      rw [if_pos (by omega), if_pos (by omega), if_pos (by omega), if_neg (by omega), if_pos (by omega), if_pos (by omega), u64 ba.1 (by omega), shr_is hm, hT, this, Int.toNat_natCast]
      simp
theorem right_tells {a : List Int} {n : Int} (h0 : 0 ≤ n) (h1 : n < 32) (ha : Dig 4294967296 a) (hl : a.length < 70368744177664) (q : Int) (hq : val 4294967296 a = q * 2 ^ n.toNat) :
    ∃ r, Ev (fun k => ample_right.f k a n) r ∧ Dig 4294967296 r ∧ r.length = a.length ∧ val 4294967296 r = q := by
  obtain ⟨m, rfl⟩ := Int.eq_ofNat_of_zero_le h0
  have hp := pow2_facts m (by omega)
  obtain ⟨r, he, hd, hlr, hv⟩ := right_ev (m := m) (by omega) ha hl a.length 0 (List.replicate a.length 0) (by omega) (by simp) (dig_replicate (by omega) _) (by simp [val])
  refine ⟨r, Ev.congr (fun k => ?_) he, hd, hlr, ?_⟩
  · unfold ample_right.f
    rw [if_pos (by omega), if_pos (by omega), Int.toNat_natCast]
    rfl
  · rw [Int.toNat_natCast] at hq
    have hr : 0 ≤ rest a (2 ^ m) 0 ∧ rest a (2 ^ m) 0 < 2 ^ m := by
      unfold rest
      split
      · exact ⟨Int.emod_nonneg _ (by omega), Int.emod_lt_of_pos _ (by omega)⟩
      · omega
    have e : val 4294967296 a = val 4294967296 r * 2 ^ m + rest a (2 ^ m) 0 := by rw [← hv, Int.mul_comm]
    have d1 := div_of e hr.1 hr.2
    have d2 := div_of (show val 4294967296 a = q * 2 ^ m + 0 by omega) (by omega) (by omega)
    omega
end Go.Proofs.YthbdjmopolpjmaaGreatDoor.M
end
