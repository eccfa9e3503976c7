/- Part 13 of the proof: CCan, COnce, COnce2, FCubitref29Written, MPrint, CRep1. -/
import Derived.ChangeAlike
import Derived.Defers
import Derived.Laws.LoneSync
import Derived.Laws.Pointers
import Derived.Lib.ItoaNum
import Derived.Lib.Join
import Derived.RegionCalls
import Derived.RegionTactic
import Derived.Tactics
import Derived.Tactics2
import Derived.Test.YthbdjmopolpjmaaGreatDoorD00
import Derived.Test.YthbdjmopolpjmaaGreatDoorD01
import Derived.Test.YthbdjmopolpjmaaGreatDoorD02
import Derived.Test.YthbdjmopolpjmaaGreatDoorD03
import Derived.Test.YthbdjmopolpjmaaGreatDoorD04
import Derived.Test.YthbdjmopolpjmaaGreatDoorD05
import Derived.Test.YthbdjmopolpjmaaGreatDoorD06
import Derived.Test.YthbdjmopolpjmaaGreatDoorD07
import Derived.Test.YthbdjmopolpjmaaGreatDoorD08
import Derived.Test.YthbdjmopolpjmaaGreatDoorD09
import Derived.Test.YthbdjmopolpjmaaGreatDoorD10
import Derived.Test.YthbdjmopolpjmaaGreatDoorD11
import Derived.Test.YthbdjmopolpjmaaGreatDoorD12
section
set_option linter.unusedVariables false
set_option linter.unusedSimpArgs false
namespace Go.Proofs.YthbdjmopolpjmaaGreatDoor.C
open Go.RowKit Go.Proofs.YthbdjmopolpjmaaGreatDoorW.PrintWords Go.Proofs.YthbdjmopolpjmaaGreatDoorW.PrintLast Go.Proofs.YthbdjmopolpjmaaGreatDoorW.PrintMore Go.Proofs.YthbdjmopolpjmaaGreatDoor.F Go.Proofs.YthbdjmopolpjmaaGreatDoor.M
attribute [local go_sem] max2_int min2_int max_two min_two max_three min_three max_four min_four
def EV (x : S41) (A : Option Addr) (c : Nat) : Value := .agg #[.int .i64 x.f0, .string x.f1, .string x.f2.f0, .string x.f2.f1, .string x.f3.f0, .string x.f3.f1, .string x.f4, .int .i64 x.f5, .slice A x.f6.length c, .int .i64 x.f7, .bool x.f8]
def Bounds (x : S41) : Prop := 1 ≤ x.f0 ∧ x.f0 ≤ 4096 ∧ 0 ≤ x.f7 ∧ x.f7 ≤ 4096 ∧ 0 ≤ x.f5 ∧ x.f5 ≤ 1000000
open Classical in
noncomputable def canI (x : S41) : Int := if Bounds x then (if RatR x.f2.f0 x.f2.f1 ∧ RatR x.f3.f0 x.f3.f1 then (if minus x.f3.f0 = true then 9 else if 8 < x.f6.length then 4 else 0) else 3) else 1
theorem canI_bounds {x : S41} (h : ¬ Bounds x) : canI x = 1 := by unfold canI; rw [if_neg h]
theorem canI_right {x : S41} (h : Bounds x) (h2 : ¬ (RatR x.f2.f0 x.f2.f1 ∧ RatR x.f3.f0 x.f3.f1)) : canI x = 3 := by unfold canI; rw [if_pos h, if_neg h2]
theorem canI_minus {x : S41} (h : Bounds x) (h2 : RatR x.f2.f0 x.f2.f1 ∧ RatR x.f3.f0 x.f3.f1) (h3 : minus x.f3.f0 = true) : canI x = 9 := by unfold canI; rw [if_pos h, if_pos h2, if_pos h3]
theorem canI_tags {x : S41} (h : Bounds x) (h2 : RatR x.f2.f0 x.f2.f1 ∧ RatR x.f3.f0 x.f3.f1) (h3 : ¬ minus x.f3.f0 = true) (h4 : 8 < x.f6.length) : canI x = 4 := by unfold canI; rw [if_pos h, if_pos h2, if_neg h3, if_pos h4]
theorem canI_ok {x : S41} (h : Bounds x) (h2 : RatR x.f2.f0 x.f2.f1 ∧ RatR x.f3.f0 x.f3.f1) (h3 : ¬ minus x.f3.f0 = true) (h4 : ¬ 8 < x.f6.length) : canI x = 0 := by unfold canI; rw [if_pos h, if_pos h2, if_neg h3, if_neg h4]
theorem RatR.pos {n d : ByteArray} (h : RatR n d) : 0 < n.size := by
  have h1 := h.1.1.1
  unfold body at h1
  split at h1
  · rename_i hm
    unfold minus at hm
    exact (of_decide_eq_true hm).1
  · exact h1
end Go.Proofs.YthbdjmopolpjmaaGreatDoor.C
end
section
set_option linter.unusedVariables false
set_option linter.unusedSimpArgs false
namespace Go.Proofs.YthbdjmopolpjmaaGreatDoor.C
open Go.RowKit Go.Proofs.YthbdjmopolpjmaaGreatDoorW.PrintWords Go.Proofs.YthbdjmopolpjmaaGreatDoorW.PrintLast Go.Proofs.YthbdjmopolpjmaaGreatDoorW.PrintMore Go.Proofs.YthbdjmopolpjmaaGreatDoor.F Go.Proofs.YthbdjmopolpjmaaGreatDoor.M
namespace Once
theorem disable (w : World) : (callFunc 234 #[]).run Tryz.prog w = .ok (.value (.tuple #[])) w := run_call_mark0 Tryz.func234 (by kernel_rfl) (by kernel_rfl) (by kernel_rfl) .disable (by kernel_rfl) w
theorem enable (w : World) : (callFunc 236 #[]).run Tryz.prog w = .ok (.value (.tuple #[])) w := run_call_mark0 Tryz.func236 (by kernel_rfl) (by kernel_rfl) (by kernel_rfl) .enable (by kernel_rfl) w
theorem acquire (a : Addr) (w : World) : (callFunc 237 #[.pointer (some a)]).run Tryz.prog w = .ok (.value (.tuple #[])) w := run_call_marked Tryz.func237 (by kernel_rfl) (by kernel_rfl) (by kernel_rfl) .acquire (by kernel_rfl) a w
theorem releaseMerge (a : Addr) (w : World) : (callFunc 239 #[.pointer (some a)]).run Tryz.prog w = .ok (.value (.tuple #[])) w := run_call_marked Tryz.func239 (by kernel_rfl) (by kernel_rfl) (by kernel_rfl) .releaseMerge (by kernel_rfl) a w
set_option maxRecDepth 100000 in
set_option maxHeartbeats 1600000 in
theorem store_deferred (a : Addr) (x : Value) (u : FrameMode) (w : World) (hc : w.cell? a = some x) (hz : w.frozen? a = false) :
    CallsD Tryz.prog 168 #[.pointer (some a), .bool true] u w fun e u' w' => u' = u ∧ (e = .returned (.tuple #[]) ∧ w' = w.drew.setCell a (.int .u32 1)) := by
  have hc' : w.drew.cell? a = some x := by go_simp
  have hz' : w.drew.frozen? a = false := by go_simp
  have hst := run_call_store (P := Tryz.prog) Tryz.func213 (by kernel_rfl) (by kernel_rfl) (by kernel_rfl) (by kernel_rfl) (k := .u32) (y := 1) hc' hz'
  go_enter_d Tryz.func168, Tryz.ntmps168
  go_wp2
  go_region_calls
  all_goals (go_end0; exact ⟨rfl, rfl⟩)
set_option maxRecDepth 100000 in
set_option maxHeartbeats 1600000 in
theorem unlock_deferred (a : Addr) (u : FrameMode) (w : World) (hc : w.cell? a = some (.int .i32 1)) (hz : w.frozen? a = false) :
    CallsD Tryz.prog 167 #[.pointer (some a)] u w fun e u' w' => u' = u ∧ (e = .returned (.tuple #[]) ∧ w' = w.setCell a (.int .i32 0)) := by
  have hd := disable
  have he := enable
  have hr := releaseMerge
  have hadd := run_call_add (P := Tryz.prog) Tryz.func240 (by kernel_rfl) (by kernel_rfl) (by kernel_rfl) .i32 (by kernel_rfl) (y := -1) (s := 0) hc hz (by simp [go_sem]; rfl)
  have hcv := run_convert_to_unsafe (P := Tryz.prog) (src := 317) (dst := 113) Tryz.underlying317 Tryz.underlying113 (by kernel_rfl) hc
  go_enter_d Tryz.func167, Tryz.ntmps167
  go_wp2
  go_end0
  go_wp2
  go_end0
  exact ⟨rfl, rfl⟩
set_option maxRecDepth 100000 in
set_option maxHeartbeats 1600000 in
theorem lock_free (a : Addr) (w : World) (hc : w.cell? a = some (.int .i32 0)) (hz : w.frozen? a = false) :
    Calls Tryz.prog 166 #[.pointer (some a)] w fun e w' => e = .returned (.tuple #[]) ∧ w' = w.setCell a (.int .i32 1) := by
  have hd := disable
  have he := enable
  have ha := acquire
  have hcas := run_call_cas_hit (P := Tryz.prog) Tryz.func235 (by kernel_rfl) (by kernel_rfl) (by kernel_rfl) .i32 (by kernel_rfl) (y := 1) hc hz
  have hc' : (w.setCell a (.int .i32 1)).cell? a = some (.int .i32 1) := World.cell?_setCell_same w a _ hc
  have hcv := run_convert_to_unsafe (P := Tryz.prog) (src := 317) (dst := 113) Tryz.underlying317 Tryz.underlying113 (by kernel_rfl) hc'
  go_enter Tryz.func166, Tryz.ntmps166
  go_wp2
  first | go_end0 | (simp only [Exit.inBlock, Exit.then]; refine bodyPost_ret (results_none rfl _ _ _) rfl ?_) | refine bodyPost_ret (results_none rfl _ _ _) rfl ?_
  go_wp2
  go_end0
  exact ⟨rfl, rfl⟩
end Once
end Go.Proofs.YthbdjmopolpjmaaGreatDoor.C
end
section
set_option linter.unusedVariables false
set_option linter.unusedSimpArgs false
namespace Go.Proofs.YthbdjmopolpjmaaGreatDoor.C
open Go.RowKit Go.Proofs.YthbdjmopolpjmaaGreatDoorW.PrintWords Go.Proofs.YthbdjmopolpjmaaGreatDoorW.PrintLast Go.Proofs.YthbdjmopolpjmaaGreatDoorW.PrintMore Go.Proofs.YthbdjmopolpjmaaGreatDoor.F Go.Proofs.YthbdjmopolpjmaaGreatDoor.M
namespace Once
def ob (d s : Int) (r o : Value) : Obj := .cells #[.int .u32 d, .int .i32 s, .int .u32 0, r, o] 143 (0, 0)
def Builds (g : Nat) (w : World) (o : Value) (R : Value → World → Prop) : Prop := ∀ W, Chg (fun k => k = g) w W → W.heap[g]? = some (ob 0 1 .nilIface o) →
  Calls Tryz.prog 88 #[.pointer (some ⟨g, 0, none⟩)] W fun e W' => e = .returned (.tuple #[]) ∧ ∃ r o', W'.heap[g]? = some (ob 0 1 r o') ∧ R r W' ∧ Chg (fun k => k = g) W W'
def Stays (g : Nat) (R : Value → World → Prop) : Prop := ∀ r W W', R r W → W'.os = W.os → (∀ i, i ≠ g → W'.heap[i]? = W.heap[i]?) → R r W'
theorem set_other (W : World) (g j : Nat) (u : Value) : ∀ i, i ≠ g → (W.setCell ⟨g, j, none⟩ u).heap[i]? = W.heap[i]? := fun i hi => Below.heap_setCell W ⟨g, j, none⟩ u i hi
theorem set_os (W : World) (p : Addr) (u : Value) : (W.setCell p u).os = W.os := by unfold World.setCell; split <;> rfl
theorem load_zero (a : Addr) (w : World) (h0 : w.cell? a = some (.int .u32 0)) : Calls Tryz.prog 122 #[.pointer (some a)] w fun e w' => e = .returned (.bool false) ∧ w = w' := by
  have hl := run_call_load (P := Tryz.prog) Tryz.func165 (by kernel_rfl) (by kernel_rfl) (by kernel_rfl) .u32 (by kernel_rfl) h0
  go_enter Tryz.func122, Tryz.ntmps122
  go_wp2
  go_ret
  exact ⟨rfl, rfl⟩
set_option maxRecDepth 100000 in
set_option maxHeartbeats 1600000 in
theorem slow_call (g : Nat) (w : World) (o : Value) (R : Value → World → Prop) (hb : w.heap[g]? = some (ob 0 0 .nilIface o)) (hR : Stays g R) (hf : Builds g w o R) :
    Calls Tryz.prog 123 #[.pointer (some ⟨g, 0, none⟩), .func (.func 88) #[.pointer (some ⟨g, 0, none⟩)] #[]] w fun e W' => e = .returned (.tuple #[]) ∧ ∃ r o', W'.heap[g]? = some (ob 1 0 r o') ∧ R r W' ∧ Chg (fun k => k = g) w W' := by
  have HF := Aside0.mk (And.intro hR hf)
  clear hR hf
  unfold ob at hb
  have c1 : w.cell? ⟨g, 1, none⟩ = some (.int .i32 0) := (blk_cell hb 1).trans rfl
  have z1 : w.frozen? ⟨g, 1, none⟩ = false := blk_frozen hb 1
  have hb2 : (w.setCell ⟨g, 1, none⟩ (.int .i32 1)).heap[g]? = some (ob 0 1 .nilIface o) := blk_set hb 1 _
  have HB2 := Aside0.mk hb2
  have c0 : (w.setCell ⟨g, 1, none⟩ (.int .i32 1)).cell? ⟨g, 0, none⟩ = some (.int .u32 0) := (blk_cell hb2 0).trans rfl
  have HL := Aside0.mk c0
  have HC1 := Aside0.mk (show Chg (fun k => k = g) w (w.setCell ⟨g, 1, none⟩ (.int .i32 1)) from Chg.setCell (S := fun k => k = g) (Chg.refl _ _) ⟨g, 1, none⟩ (.inl rfl) _)
  have hnot : ∀ (x : Bool) (w : World), (Op.unary .not (.bool x)).run Tryz.prog w = .ok (.bool (!x)) w := fun _ _ => rfl
  clear hb hb2 c0
  go_enter_defers Tryz.func123, Tryz.ntmps123
  go_wp2_with (go_at_call 166; refine (lock_free ⟨g, 1, none⟩ _ c1 z1).mono ?_; rintro e w' ⟨rfl, rfl⟩)
  go_wp2_with fail
  refine (load_zero _ _ HL.out).mono ?_
  rintro e w' ⟨rfl, rfl⟩
  go_wp2_with fail
  refine (HF.out.2 _ HC1.out HB2.out).mono ?_
  rintro e w1 ⟨rfl, r, o', hb3, hr, hc⟩
  have HX := Aside0.mk (And.intro hb3 (And.intro hr (HC1.out.trans hc (fun i _ h => h))))
  clear hb3 hr hc
  go_wp2_with fail
  have hb4 : w1.heap[g]? = some (.cells #[.int .u32 0, .int .i32 1, .int .u32 0, r, o'] 143 (0, 0)) := HX.out.1
  have c0 : w1.cell? ⟨g, 0, none⟩ = some (.int .u32 0) := (blk_cell hb4 0).trans rfl
  have z0 : w1.frozen? ⟨g, 0, none⟩ = false := blk_frozen hb4 0
  have hb5 : w1.drew.heap[g]? = some (.cells #[.int .u32 0, .int .i32 1, .int .u32 0, r, o'] 143 (0, 0)) := hb4
  have hb6 : (w1.drew.setCell ⟨g, 0, none⟩ (.int .u32 1)).heap[g]? = some (.cells #[.int .u32 1, .int .i32 1, .int .u32 0, r, o'] 143 (0, 0)) := blk_set hb5 0 _
  have hb7 : ((w1.drew.setCell ⟨g, 0, none⟩ (.int .u32 1)).setCell ⟨g, 1, none⟩ (.int .i32 0)).heap[g]? = some (ob 1 0 r o') := blk_set hb6 1 _
  have c1 : (w1.drew.setCell ⟨g, 0, none⟩ (.int .u32 1)).cell? ⟨g, 1, none⟩ = some (.int .i32 1) := (blk_cell hb6 1).trans rfl
  have z1 : (w1.drew.setCell ⟨g, 0, none⟩ (.int .u32 1)).frozen? ⟨g, 1, none⟩ = false := blk_frozen hb6 1
  refine leaves_cons (f := 168) (args := #[.pointer (some ⟨g, 0, none⟩), .bool true]) (by simp) (by simp [go_sem]) ?_
  refine (store_deferred ⟨g, 0, none⟩ (.int .u32 0) .returning _ c0 z0).mono ?_
  rintro e u' w'' ⟨rfl, rfl, rfl⟩
  refine leaves_cons (f := 167) (args := #[.pointer (some ⟨g, 1, none⟩)]) (by simp [settle]) (by simp [go_sem]) ?_
  refine (unlock_deferred ⟨g, 1, none⟩ _ _ c1 z1).mono ?_
  rintro e u' w'' ⟨rfl, rfl, rfl⟩
  have hfin : ∃ r o', ((w1.drew.setCell ⟨g, 0, none⟩ (.int .u32 1)).setCell ⟨g, 1, none⟩ (.int .i32 0)).heap[g]? = some (ob 1 0 r o') ∧ R r ((w1.drew.setCell ⟨g, 0, none⟩ (.int .u32 1)).setCell ⟨g, 1, none⟩ (.int .i32 0)) ∧ Chg (fun k => k = g) w ((w1.drew.setCell ⟨g, 0, none⟩ (.int .u32 1)).setCell ⟨g, 1, none⟩ (.int .i32 0)) := by
    refine ⟨r, o', hb7, HF.out.1 r _ _ HX.out.2.1 ?_ ?_, Chg.setCell (S := fun k => k = g) (Chg.setCell (S := fun k => k = g) HX.out.2.2.drew ⟨g, 0, none⟩ (.inl rfl) _) ⟨g, 1, none⟩ (.inl rfl) _⟩
    · rw [set_os, set_os]; rfl
    · intro i hi
      exact (set_other _ g 1 _ i hi).trans (set_other _ g 0 _ i hi)
  have HFI := Aside0.mk hfin
  clear hfin
  simp only [Leaves, settle, results, Tryz.results123]
  refine ⟨.tuple #[], ?_, rfl, HFI.out⟩
  simp
set_option maxRecDepth 100000 in
set_option maxHeartbeats 1600000 in
theorem do_call (g : Nat) (w : World) (o : Value) (R : Value → World → Prop) (hb : w.heap[g]? = some (ob 0 0 .nilIface o)) (hR : Stays g R) (hf : Builds g w o R) :
    Calls Tryz.prog 87 #[.pointer (some ⟨g, 0, none⟩), .func (.func 88) #[.pointer (some ⟨g, 0, none⟩)] #[]] w fun e W' => e = .returned (.tuple #[]) ∧ ∃ r o', W'.heap[g]? = some (ob 1 0 r o') ∧ R r W' ∧ Chg (fun k => k = g) w W' := by
  have HF := Aside0.mk (And.intro hb (And.intro hR hf))
  have HL := Aside0.mk (show w.cell? ⟨g, 0, none⟩ = some (.int .u32 0) from (blk_cell hb 0).trans rfl)
  clear hb hR hf
  have hnot : ∀ (x : Bool) (w : World), (Op.unary .not (.bool x)).run Tryz.prog w = .ok (.bool (!x)) w := fun _ _ => rfl
  go_enter Tryz.func87, Tryz.ntmps87
  go_wp2_with fail
  refine (load_zero _ _ HL.out).mono ?_
  rintro e w' ⟨rfl, rfl⟩
  go_wp2_with fail
  refine (slow_call g _ o R HF.out.1 HF.out.2.1 HF.out.2.2).mono ?_
  rintro e w1 ⟨rfl, h⟩
  have HX := Aside0.mk h
  clear h
  go_wp2_with fail
  go_end0
  exact ⟨rfl, HX.out⟩
end Once
end Go.Proofs.YthbdjmopolpjmaaGreatDoor.C
end
section
namespace Go.Proofs.YthbdjmopolpjmaaGreatDoor.F
open Go.RowKit Go.Proofs.YthbdjmopolpjmaaGreatDoorW.PrintWords Go.Proofs.YthbdjmopolpjmaaGreatDoorW.PrintLast Go.Proofs.YthbdjmopolpjmaaGreatDoorW.PrintMore
attribute [local go_sem] max2_int min2_int max_two min_two max_three min_three max_four min_four
set_option linter.unusedVariables false
set_option linter.unusedSimpArgs false
def cubitref29_written.l0 : Nat → ByteArray → List Int → Int → Option (ByteArray)
  | 0, _, _, _ => none
  | k + 1, x0, x3, x4 => if x4 < (x0.size : Int) then (if 0 ≤ x4 then (if (bt x0 x4) = 92 then ((some (([92, 92] : List Int) : List Int)).bind fun y279 => (if x3.length + y279.length < 140737488355328 then (cubitref29_written.l0 k x0 (x3 ++ y279) (wrap64 (x4 + 1))) else (none))) else (if (bt x0 x4) = 9 then ((some (([92, 116] : List Int) : List Int)).bind fun y285 => (if x3.length + y285.length < 140737488355328 then (cubitref29_written.l0 k x0 (x3 ++ y285) (wrap64 (x4 + 1))) else (none))) else (if (bt x0 x4) = 10 then ((some (([92, 110] : List Int) : List Int)).bind fun y291 => (if x3.length + y291.length < 140737488355328 then (cubitref29_written.l0 k x0 (x3 ++ y291) (wrap64 (x4 + 1))) else (none))) else (if x3.length < 140737488355328 then (cubitref29_written.l0 k x0 (x3 ++ [bt x0 x4]) (wrap64 (x4 + 1))) else (none))))) else (none)) else (some (strOfNums x3))
def cubitref29_written.f (k : Nat) (a0 : ByteArray) : Option (ByteArray) := cubitref29_written.l0 k a0 ([] : List Int) 0
theorem cubitref29_written.mono_l : ∀ k, (∀ y0 y1 y2, LeO (cubitref29_written.l0 k y0 y1 y2) (cubitref29_written.l0 (k + 1) y0 y1 y2))
  | 0 => fun _ _ _ r h => by simp [cubitref29_written.l0] at h
  | k + 1 => by
    have ih0 := cubitref29_written.mono_l k
    · intro y0 y1 y2
      unfold cubitref29_written.l0
      repeat' first
      | (with_reducible exact ih0 _ _ _)
      | (with_reducible exact LeO.refl _)
      | (with_reducible exact LeO.none _)
      | (with_reducible refine LeO.ite ?_ ?_)
      | (with_reducible refine LeO.bind ?_ (fun _ => ?_))
      | exact ih0 _ _ _
      | exact LeO.none _
      | refine LeO.ite ?_ ?_
      | refine LeO.bind ?_ (fun _ => ?_)
theorem cubitref29_written.mono : ∀ a0 k, LeO (cubitref29_written.f k a0) (cubitref29_written.f (k + 1) a0) := by
  intro a0 k
  have ih0 := cubitref29_written.mono_l k
  unfold cubitref29_written.f
  repeat' first
      | (with_reducible exact ih0 _ _ _)
      | (with_reducible exact LeO.refl _)
      | (with_reducible exact LeO.none _)
      | (with_reducible refine LeO.ite ?_ ?_)
      | (with_reducible refine LeO.bind ?_ (fun _ => ?_))
      | exact ih0 _ _ _
      | exact LeO.none _
      | refine LeO.ite ?_ ?_
      | refine LeO.bind ?_ (fun _ => ?_)
set_option maxHeartbeats 8000000 in
set_option maxRecDepth 100000 in
theorem cubitref29_written.calls (k : Nat) (a0 : ByteArray) (r : ByteArray) (w : World) (h : cubitref29_written.f k a0 = some r) :
    Calls Tryz.prog 59 #[.string a0] w fun e w' => e = .returned (.string r) ∧ Below w.heap.size w w' := by
  have HB := Aside0.mk (Below.refl w.heap.size w)
  have H : (cubitref29_written.l0 k a0 ([] : List Int) 0) = some r := h
  clear h
  have H' := Aside0.mk H
  clear H
  go_enter Tryz.func59, Tryz.ntmps59
  go_wp2
  go_loopg [3, 4] k (fun kq v3 v4 w' => ∃ (x3_1 : List Int) (x4_1 : Int), v4 = .int .i64 x4_1 ∧ Aside0 (cubitref29_written.l0 kq a0 x3_1 x4_1 = some r) ∧ Aside0 (kq ≤ k) ∧ Aside0 (Kd.R (Kd.int .u8) 5 w' w.heap.size (fun _ => True) v3 x3_1) ∧ Aside0 (Below w.heap.size w w'))
  case atStart => exact ⟨(([] : List Int)), (0), (by first | rfl | (simp; done) | (simp [*]; done)), H', ⟨Nat.le_refl _⟩, ⟨by first | exact Kd.R_nil _ _ _ _ _ | exact Kd.N_nil _ _ _ _ _ | exact Kd.V_nil _ _ _ _ _ | exact Kd.Q_nil _ _ _ _ _ | exact Kd.S_nil _ _ _ _ _⟩, ⟨by repeat (first | (with_reducible first | exact HB.out | apply below_alloc | apply pw_below_drewN | apply below_drew1) | exact HB.out)⟩⟩
  case round =>
    clear H'
    obtain ⟨x3_1, x4_1, rfl, HA, HK1, HO_3, HB⟩ := hrel
    cases gk with
    | zero => exact absurd HA.out (by simp [cubitref29_written.l0])
    | succ k1 =>
      have H := HA.out
      clear HA
      simp only [cubitref29_written.l0] at H
      by_cases c2 : x4_1 < (a0.size : Int)
      · rw [if_pos c2] at H
        have c2b0 : decide (x4_1 < (a0.size : Int)) = true := decide_eq_true c2
        clear c2
        by_cases c3 : 0 ≤ x4_1
        · rw [if_pos c3] at H
          have c3b0 : decide (0 ≤ x4_1) = true := decide_eq_true c3
          clear c3
          by_cases c5 : (bt a0 x4_1) = 92
          · rw [if_pos c5] at H
            have c5b0 : ((bt a0 x4_1) == 92) = true := beq_iff_eq.mpr c5
            have c5b1 : ((bt a0 x4_1) != 92) = false := bne_eq_false_iff_eq.mpr c5
            clear c5
            obtain ⟨y279, hy279⟩ : ∃ y_ : List Int, y_ = (([92, 92] : List Int)) := ⟨_, rfl⟩
            replace H : (if x3_1.length + y279.length < 140737488355328 then (cubitref29_written.l0 k1 a0 (x3_1 ++ y279) (wrap64 (x4_1 + 1))) else (none)) = some r := by first | (rw [hy279]; with_reducible exact H) | (have H2_ := (Option.bind_some _ _).symm.trans H; rw [hy279]; with_reducible exact H2_) | (have H2_ := (Option.bind_some _ _).symm.trans H; with_reducible exact H2_) | with_reducible exact H | (rw [hy279]; exact H) | exact H
            have Ny279 := Aside0.mk hy279
            clear hy279
            by_cases c6 : x3_1.length + y279.length < 140737488355328
            · rw [if_pos c6] at H
              have LMc6 := Aside0.mk c6
              clear c6
              obtain ⟨y282, hy282⟩ : ∃ y_ : List Int, y_ = (x3_1 ++ y279) := ⟨_, rfl⟩
              replace H : (cubitref29_written.l0 k1 a0 y282 (wrap64 (x4_1 + 1))) = some r := by first | (rw [hy282]; with_reducible exact H) | (have H2_ := (Option.bind_some _ _).symm.trans H; rw [hy282]; with_reducible exact H2_) | (have H2_ := (Option.bind_some _ _).symm.trans H; with_reducible exact H2_) | with_reducible exact H | (rw [hy282]; exact H) | exact H
              have Ny282 := Aside0.mk hy282
              clear hy282
              have H' := Aside0.mk H
              clear H
              have p4 : 0 ≤ (x4_1 : Int) := of_decide_eq_true (by first | (with_reducible assumption) | assumption)
              have q4 : x4_1 < (a0.size : Int) := of_decide_eq_true (by first | (with_reducible assumption) | assumption)
              have hx4 := bt_at a0 x4_1
              replace p4 := eq_true p4
              replace q4 := eq_true q4
              go_wp2_with (first | ((with_reducible refine gate_dst (N := 23) rfl ?_); refine Kd.R_lit (Kd.int .u8) _ 5 ?hg (N := 23) ?hd (xs := ([92, 92] : List Int)) (inner := [.int .u8 92, .int .u8 92]) (ok := fun _ => True) (okp := fun _ => True) ?hr ?hp (fun _ hk => hk) trivial (Below.refl _ _) (Nat.le_refl _) (by simp) ?_; (case hd => rfl); (case hg => rfl); (case hr => first | (go_simp; done) | (go_simp; rfl)); (case hp => exact (Reps.one (show Kd.M (Kd.int .u8) _ _ _ 92 [.int .u8 92] from rfl) (Reps.one (show Kd.M (Kd.int .u8) _ _ _ 92 [.int .u8 92] from rfl) (Reps.none _ _)))); intro v280 w7 ho8 hb hg_ hnew_; clear hg_ hnew_; (first | rw [← Ny279.out] at ho8 | (simp only [Int.reduceToNat] at ho8; rw [← Ny279.out] at ho8)); have n0_ := Aside0.mk (Kd.R_elder' (by (with_reducible repeat (first | apply Kd.R_alloc | apply Kd.R_drewN | apply Kd.R_drew)); exact HO_3.out) (Kd.R_base ho8) hb); have n1_ := Aside0.mk (Kd.R_lower (Kd.R_new' ho8 (Kd.R_lt (by (with_reducible repeat (first | apply Kd.R_alloc | apply Kd.R_drewN | apply Kd.R_drew)); exact HO_3.out))) (below_size (by repeat (first | (with_reducible first | exact HB.out | apply below_alloc | apply pw_below_drewN | apply below_drew1) | exact HB.out)))); have n2_ := Aside0.mk (below_step (by repeat (first | (with_reducible first | exact HB.out | apply below_alloc | apply pw_below_drewN | apply below_drew1) | exact HB.out)) hb); clear HO_3; clear HB; have HO_3 := n0_; have HO281 := n1_; have HB := n2_; clear n0_ n1_ n2_; clear hb ho8; obtain ⟨Ao10, co10, eo10⟩ := Kd.R_slice HO281.out; subst eo10) | ((with_reducible refine gate_builtin (b := .append) (xs := #[.tmp 22, .tmp 23]) rfl ?_); at_builtin; refine Kd.R_append_rows (Kd.int .u8) (w0 := w) w.heap.size rfl (.tmp 22) (.tmp 23) 50 5 (.int .u8 0) 1 rfl Tryz.underlying50 info5 rfl (by decide) (by omega) u3 x3_1 y279 _ _ _ (fun k_ => some k_ ≠ (.slice Ao10 y279.length co10 : Value).ownBlock) (fun _ => False) rfl rfl ?aO ?aR (fun _ _ h => h) (fun _ h => h.elim) ?aF ?aB ?aS ?aL ?_; (case aR => repeat (first | exact (Kd.R_reads' HO281.out).2.2 | (with_reducible refine Kd.C_alloc ?_ _) | (with_reducible refine Kd.C_drewN ?_ _) | (with_reducible refine Kd.C_drew ?_))); (case aB => exact (by repeat (first | (with_reducible first | exact HB.out | apply below_alloc | apply pw_below_drewN | apply below_drew1) | exact HB.out))); (case aF => exact (fun k_ hk => Kd.fresh' (Kd.R_lt (by (with_reducible repeat (first | apply Kd.R_alloc | apply Kd.R_drewN | apply Kd.R_drew)); exact HO281.out)) k_ hk)); (case aO => exact (by (with_reducible repeat (first | apply Kd.R_alloc | apply Kd.R_drewN | apply Kd.R_drew)); exact Kd.R_mono HO_3.out (fun _ hk => hk.2))); (case aS => exact (below_size (by repeat (first | (with_reducible first | exact HB.out | apply below_alloc | apply pw_below_drewN | apply below_drew1) | exact HB.out)))); (case aL => have := LMc6.out; omega); intro v283 w9 ho hb hg hat; rw [← Ny282.out] at ho; have n0_ := Aside0.mk (Kd.R_after (ok := (fun _ => True)) (by (with_reducible repeat (first | apply Kd.R_alloc | apply Kd.R_drewN | apply Kd.R_drew)); exact HO281.out) hg hat); have n1_ := Aside0.mk (hb); have n2_ := Aside0.mk (ho); clear HO281; clear HB; clear HO_3; have HO281 := n0_; have HB := n1_; have HO284 := n2_; clear n0_ n1_ n2_; clear ho hb hg hat))
              go_roundg k1
              case measure => have := HK1.out; omega
              case rel => exact ⟨(y282), (wrap64 (x4_1 + 1)), (by first | rfl | (simp; done) | (simp [*]; done)), H', ⟨by have := HK1.out; omega⟩, ⟨by (with_reducible repeat (first | apply Kd.R_alloc | apply Kd.R_drewN | apply Kd.R_drew)); exact Kd.R_mono HO284.out (fun _ hk => trivial)⟩, ⟨by repeat (first | (with_reducible first | exact HB.out | apply below_alloc | apply pw_below_drewN | apply below_drew1) | exact HB.out)⟩⟩
            · rw [if_neg c6] at H
              exact absurd H (by simp)
          · rw [if_neg c5] at H
            have c5b0 : ((bt a0 x4_1) == 92) = false := beq_eq_false_iff_ne.mpr c5
            have c5b1 : ((bt a0 x4_1) != 92) = true := bne_iff_ne.mpr c5
            by_cases c11 : (bt a0 x4_1) = 9
            · rw [if_pos c11] at H
              have c11b0 : ((bt a0 x4_1) == 9) = true := beq_iff_eq.mpr c11
              have c11b1 : ((bt a0 x4_1) != 9) = false := bne_eq_false_iff_eq.mpr c11
              clear c11
              obtain ⟨y285, hy285⟩ : ∃ y_ : List Int, y_ = (([92, 116] : List Int)) := ⟨_, rfl⟩
              replace H : (if x3_1.length + y285.length < 140737488355328 then (cubitref29_written.l0 k1 a0 (x3_1 ++ y285) (wrap64 (x4_1 + 1))) else (none)) = some r := by first | (rw [hy285]; with_reducible exact H) | (have H2_ := (Option.bind_some _ _).symm.trans H; rw [hy285]; with_reducible exact H2_) | (have H2_ := (Option.bind_some _ _).symm.trans H; with_reducible exact H2_) | with_reducible exact H | (rw [hy285]; exact H) | exact H
              have Ny285 := Aside0.mk hy285
              clear hy285
              by_cases c12 : x3_1.length + y285.length < 140737488355328
              · rw [if_pos c12] at H
                have LMc12 := Aside0.mk c12
                clear c12
                obtain ⟨y288, hy288⟩ : ∃ y_ : List Int, y_ = (x3_1 ++ y285) := ⟨_, rfl⟩
                replace H : (cubitref29_written.l0 k1 a0 y288 (wrap64 (x4_1 + 1))) = some r := by first | (rw [hy288]; with_reducible exact H) | (have H2_ := (Option.bind_some _ _).symm.trans H; rw [hy288]; with_reducible exact H2_) | (have H2_ := (Option.bind_some _ _).symm.trans H; with_reducible exact H2_) | with_reducible exact H | (rw [hy288]; exact H) | exact H
                have Ny288 := Aside0.mk hy288
                clear hy288
                have H' := Aside0.mk H
                clear H
                have p4 : 0 ≤ (x4_1 : Int) := of_decide_eq_true (by first | (with_reducible assumption) | assumption)
                have q4 : x4_1 < (a0.size : Int) := of_decide_eq_true (by first | (with_reducible assumption) | assumption)
                have hx4 := bt_at a0 x4_1
                replace p4 := eq_true p4
                replace q4 := eq_true q4
                go_wp2_with (first | ((with_reducible refine gate_dst (N := 28) rfl ?_); refine Kd.R_lit (Kd.int .u8) _ 5 ?hg (N := 28) ?hd (xs := ([92, 116] : List Int)) (inner := [.int .u8 92, .int .u8 116]) (ok := fun _ => True) (okp := fun _ => True) ?hr ?hp (fun _ hk => hk) trivial (Below.refl _ _) (Nat.le_refl _) (by simp) ?_; (case hd => rfl); (case hg => rfl); (case hr => first | (go_simp; done) | (go_simp; rfl)); (case hp => exact (Reps.one (show Kd.M (Kd.int .u8) _ _ _ 92 [.int .u8 92] from rfl) (Reps.one (show Kd.M (Kd.int .u8) _ _ _ 116 [.int .u8 116] from rfl) (Reps.none _ _)))); intro v286 w13 ho14 hb hg_ hnew_; clear hg_ hnew_; (first | rw [← Ny285.out] at ho14 | (simp only [Int.reduceToNat] at ho14; rw [← Ny285.out] at ho14)); have n0_ := Aside0.mk (Kd.R_elder' (by (with_reducible repeat (first | apply Kd.R_alloc | apply Kd.R_drewN | apply Kd.R_drew)); exact HO_3.out) (Kd.R_base ho14) hb); have n1_ := Aside0.mk (Kd.R_lower (Kd.R_new' ho14 (Kd.R_lt (by (with_reducible repeat (first | apply Kd.R_alloc | apply Kd.R_drewN | apply Kd.R_drew)); exact HO_3.out))) (below_size (by repeat (first | (with_reducible first | exact HB.out | apply below_alloc | apply pw_below_drewN | apply below_drew1) | exact HB.out)))); have n2_ := Aside0.mk (below_step (by repeat (first | (with_reducible first | exact HB.out | apply below_alloc | apply pw_below_drewN | apply below_drew1) | exact HB.out)) hb); clear HO_3; clear HB; have HO_3 := n0_; have HO287 := n1_; have HB := n2_; clear n0_ n1_ n2_; clear hb ho14; obtain ⟨Ao16, co16, eo16⟩ := Kd.R_slice HO287.out; subst eo16) | ((with_reducible refine gate_builtin (b := .append) (xs := #[.tmp 27, .tmp 28]) rfl ?_); at_builtin; refine Kd.R_append_rows (Kd.int .u8) (w0 := w) w.heap.size rfl (.tmp 27) (.tmp 28) 50 5 (.int .u8 0) 1 rfl Tryz.underlying50 info5 rfl (by decide) (by omega) u3 x3_1 y285 _ _ _ (fun k_ => some k_ ≠ (.slice Ao16 y285.length co16 : Value).ownBlock) (fun _ => False) rfl rfl ?aO ?aR (fun _ _ h => h) (fun _ h => h.elim) ?aF ?aB ?aS ?aL ?_; (case aR => repeat (first | exact (Kd.R_reads' HO287.out).2.2 | (with_reducible refine Kd.C_alloc ?_ _) | (with_reducible refine Kd.C_drewN ?_ _) | (with_reducible refine Kd.C_drew ?_))); (case aB => exact (by repeat (first | (with_reducible first | exact HB.out | apply below_alloc | apply pw_below_drewN | apply below_drew1) | exact HB.out))); (case aF => exact (fun k_ hk => Kd.fresh' (Kd.R_lt (by (with_reducible repeat (first | apply Kd.R_alloc | apply Kd.R_drewN | apply Kd.R_drew)); exact HO287.out)) k_ hk)); (case aO => exact (by (with_reducible repeat (first | apply Kd.R_alloc | apply Kd.R_drewN | apply Kd.R_drew)); exact Kd.R_mono HO_3.out (fun _ hk => hk.2))); (case aS => exact (below_size (by repeat (first | (with_reducible first | exact HB.out | apply below_alloc | apply pw_below_drewN | apply below_drew1) | exact HB.out)))); (case aL => have := LMc12.out; omega); intro v289 w15 ho hb hg hat; rw [← Ny288.out] at ho; have n0_ := Aside0.mk (Kd.R_after (ok := (fun _ => True)) (by (with_reducible repeat (first | apply Kd.R_alloc | apply Kd.R_drewN | apply Kd.R_drew)); exact HO287.out) hg hat); have n1_ := Aside0.mk (hb); have n2_ := Aside0.mk (ho); clear HO287; clear HB; clear HO_3; have HO287 := n0_; have HB := n1_; have HO290 := n2_; clear n0_ n1_ n2_; clear ho hb hg hat))
                go_roundg k1
                case measure => have := HK1.out; omega
                case rel => exact ⟨(y288), (wrap64 (x4_1 + 1)), (by first | rfl | (simp; done) | (simp [*]; done)), H', ⟨by have := HK1.out; omega⟩, ⟨by (with_reducible repeat (first | apply Kd.R_alloc | apply Kd.R_drewN | apply Kd.R_drew)); exact Kd.R_mono HO290.out (fun _ hk => trivial)⟩, ⟨by repeat (first | (with_reducible first | exact HB.out | apply below_alloc | apply pw_below_drewN | apply below_drew1) | exact HB.out)⟩⟩
              · rw [if_neg c12] at H
                exact absurd H (by simp)
            · rw [if_neg c11] at H
              have c11b0 : ((bt a0 x4_1) == 9) = false := beq_eq_false_iff_ne.mpr c11
              have c11b1 : ((bt a0 x4_1) != 9) = true := bne_iff_ne.mpr c11
              by_cases c17 : (bt a0 x4_1) = 10
              · rw [if_pos c17] at H
                have c17b0 : ((bt a0 x4_1) == 10) = true := beq_iff_eq.mpr c17
                have c17b1 : ((bt a0 x4_1) != 10) = false := bne_eq_false_iff_eq.mpr c17
                clear c17
                obtain ⟨y291, hy291⟩ : ∃ y_ : List Int, y_ = (([92, 110] : List Int)) := ⟨_, rfl⟩
                replace H : (if x3_1.length + y291.length < 140737488355328 then (cubitref29_written.l0 k1 a0 (x3_1 ++ y291) (wrap64 (x4_1 + 1))) else (none)) = some r := by first | (rw [hy291]; with_reducible exact H) | (have H2_ := (Option.bind_some _ _).symm.trans H; rw [hy291]; with_reducible exact H2_) | (have H2_ := (Option.bind_some _ _).symm.trans H; with_reducible exact H2_) | with_reducible exact H | (rw [hy291]; exact H) | exact H
                have Ny291 := Aside0.mk hy291
                clear hy291
                by_cases c18 : x3_1.length + y291.length < 140737488355328
                · rw [if_pos c18] at H
                  have LMc18 := Aside0.mk c18
                  clear c18
                  obtain ⟨y294, hy294⟩ : ∃ y_ : List Int, y_ = (x3_1 ++ y291) := ⟨_, rfl⟩
                  replace H : (cubitref29_written.l0 k1 a0 y294 (wrap64 (x4_1 + 1))) = some r := by first | (rw [hy294]; with_reducible exact H) | (have H2_ := (Option.bind_some _ _).symm.trans H; rw [hy294]; with_reducible exact H2_) | (have H2_ := (Option.bind_some _ _).symm.trans H; with_reducible exact H2_) | with_reducible exact H | (rw [hy294]; exact H) | exact H
                  have Ny294 := Aside0.mk hy294
                  clear hy294
                  have H' := Aside0.mk H
                  clear H
                  have p4 : 0 ≤ (x4_1 : Int) := of_decide_eq_true (by first | (with_reducible assumption) | assumption)
                  have q4 : x4_1 < (a0.size : Int) := of_decide_eq_true (by first | (with_reducible assumption) | assumption)
                  have hx4 := bt_at a0 x4_1
                  replace p4 := eq_true p4
                  replace q4 := eq_true q4
                  go_wp2_with (first | ((with_reducible refine gate_dst (N := 33) rfl ?_); refine Kd.R_lit (Kd.int .u8) _ 5 ?hg (N := 33) ?hd (xs := ([92, 110] : List Int)) (inner := [.int .u8 92, .int .u8 110]) (ok := fun _ => True) (okp := fun _ => True) ?hr ?hp (fun _ hk => hk) trivial (Below.refl _ _) (Nat.le_refl _) (by simp) ?_; (case hd => rfl); (case hg => rfl); (case hr => first | (go_simp; done) | (go_simp; rfl)); (case hp => exact (Reps.one (show Kd.M (Kd.int .u8) _ _ _ 92 [.int .u8 92] from rfl) (Reps.one (show Kd.M (Kd.int .u8) _ _ _ 110 [.int .u8 110] from rfl) (Reps.none _ _)))); intro v292 w19 ho20 hb hg_ hnew_; clear hg_ hnew_; (first | rw [← Ny291.out] at ho20 | (simp only [Int.reduceToNat] at ho20; rw [← Ny291.out] at ho20)); have n0_ := Aside0.mk (Kd.R_elder' (by (with_reducible repeat (first | apply Kd.R_alloc | apply Kd.R_drewN | apply Kd.R_drew)); exact HO_3.out) (Kd.R_base ho20) hb); have n1_ := Aside0.mk (Kd.R_lower (Kd.R_new' ho20 (Kd.R_lt (by (with_reducible repeat (first | apply Kd.R_alloc | apply Kd.R_drewN | apply Kd.R_drew)); exact HO_3.out))) (below_size (by repeat (first | (with_reducible first | exact HB.out | apply below_alloc | apply pw_below_drewN | apply below_drew1) | exact HB.out)))); have n2_ := Aside0.mk (below_step (by repeat (first | (with_reducible first | exact HB.out | apply below_alloc | apply pw_below_drewN | apply below_drew1) | exact HB.out)) hb); clear HO_3; clear HB; have HO_3 := n0_; have HO293 := n1_; have HB := n2_; clear n0_ n1_ n2_; clear hb ho20; obtain ⟨Ao22, co22, eo22⟩ := Kd.R_slice HO293.out; subst eo22) | ((with_reducible refine gate_builtin (b := .append) (xs := #[.tmp 32, .tmp 33]) rfl ?_); at_builtin; refine Kd.R_append_rows (Kd.int .u8) (w0 := w) w.heap.size rfl (.tmp 32) (.tmp 33) 50 5 (.int .u8 0) 1 rfl Tryz.underlying50 info5 rfl (by decide) (by omega) u3 x3_1 y291 _ _ _ (fun k_ => some k_ ≠ (.slice Ao22 y291.length co22 : Value).ownBlock) (fun _ => False) rfl rfl ?aO ?aR (fun _ _ h => h) (fun _ h => h.elim) ?aF ?aB ?aS ?aL ?_; (case aR => repeat (first | exact (Kd.R_reads' HO293.out).2.2 | (with_reducible refine Kd.C_alloc ?_ _) | (with_reducible refine Kd.C_drewN ?_ _) | (with_reducible refine Kd.C_drew ?_))); (case aB => exact (by repeat (first | (with_reducible first | exact HB.out | apply below_alloc | apply pw_below_drewN | apply below_drew1) | exact HB.out))); (case aF => exact (fun k_ hk => Kd.fresh' (Kd.R_lt (by (with_reducible repeat (first | apply Kd.R_alloc | apply Kd.R_drewN | apply Kd.R_drew)); exact HO293.out)) k_ hk)); (case aO => exact (by (with_reducible repeat (first | apply Kd.R_alloc | apply Kd.R_drewN | apply Kd.R_drew)); exact Kd.R_mono HO_3.out (fun _ hk => hk.2))); (case aS => exact (below_size (by repeat (first | (with_reducible first | exact HB.out | apply below_alloc | apply pw_below_drewN | apply below_drew1) | exact HB.out)))); (case aL => have := LMc18.out; omega); intro v295 w21 ho hb hg hat; rw [← Ny294.out] at ho; have n0_ := Aside0.mk (Kd.R_after (ok := (fun _ => True)) (by (with_reducible repeat (first | apply Kd.R_alloc | apply Kd.R_drewN | apply Kd.R_drew)); exact HO293.out) hg hat); have n1_ := Aside0.mk (hb); have n2_ := Aside0.mk (ho); clear HO293; clear HB; clear HO_3; have HO293 := n0_; have HB := n1_; have HO296 := n2_; clear n0_ n1_ n2_; clear ho hb hg hat))
                  go_roundg k1
                  case measure => have := HK1.out; omega
                  case rel => exact ⟨(y294), (wrap64 (x4_1 + 1)), (by first | rfl | (simp; done) | (simp [*]; done)), H', ⟨by have := HK1.out; omega⟩, ⟨by (with_reducible repeat (first | apply Kd.R_alloc | apply Kd.R_drewN | apply Kd.R_drew)); exact Kd.R_mono HO296.out (fun _ hk => trivial)⟩, ⟨by repeat (first | (with_reducible first | exact HB.out | apply below_alloc | apply pw_below_drewN | apply below_drew1) | exact HB.out)⟩⟩
                · rw [if_neg c18] at H
                  exact absurd H (by simp)
              · rw [if_neg c17] at H
                have c17b0 : ((bt a0 x4_1) == 10) = false := beq_eq_false_iff_ne.mpr c17
                have c17b1 : ((bt a0 x4_1) != 10) = true := bne_iff_ne.mpr c17
                by_cases c24 : x3_1.length < 140737488355328
                · rw [if_pos c24] at H
                  have LMc24 := Aside0.mk c24
                  clear c24
                  obtain ⟨y297, hy297⟩ : ∃ y_ : List Int, y_ = (x3_1 ++ [bt a0 x4_1]) := ⟨_, rfl⟩
                  replace H : (cubitref29_written.l0 k1 a0 y297 (wrap64 (x4_1 + 1))) = some r := by first | (rw [hy297]; with_reducible exact H) | (have H2_ := (Option.bind_some _ _).symm.trans H; rw [hy297]; with_reducible exact H2_) | (have H2_ := (Option.bind_some _ _).symm.trans H; with_reducible exact H2_) | with_reducible exact H | (rw [hy297]; exact H) | exact H
                  have Ny297 := Aside0.mk hy297
                  clear hy297
                  have H' := Aside0.mk H
                  clear H
                  have p4 : 0 ≤ (x4_1 : Int) := of_decide_eq_true (by first | (with_reducible assumption) | assumption)
                  have q4 : x4_1 < (a0.size : Int) := of_decide_eq_true (by first | (with_reducible assumption) | assumption)
                  have hx4 := bt_at a0 x4_1
                  replace p4 := eq_true p4
                  replace q4 := eq_true q4
                  have p23 : 0 ≤ (x4_1 : Int) := of_decide_eq_true (by first | (with_reducible assumption) | assumption)
                  have q23 : x4_1 < (a0.size : Int) := of_decide_eq_true (by first | (with_reducible assumption) | assumption)
                  have hx23 := bt_at a0 x4_1
                  replace p23 := eq_true p23
                  replace q23 := eq_true q23
                  go_wp2_with (first | ((with_reducible refine gate_builtin (b := .append) (xs := #[.tmp 14, .tmp 18]) rfl ?_); at_builtin; refine Kd.R_append (Kd.int .u8) (w0 := w) w.heap.size rfl (.tmp 14) (.tmp 18) 50 5 (.int .u8 0) 1 rfl Tryz.underlying50 info5 rfl (by decide) (by omega) u3 x3_1 (bt a0 x4_1) [.int .u8 (bt a0 x4_1)] (fun _ => True) (fun _ => False) rfl rfl ?aP (fun _ hk => hk.elim) ?aF ?aO ?aB ?aS ?aL ?_; (case aP => exact rfl); (case aB => exact (by repeat (first | (with_reducible first | exact HB.out | apply below_alloc | apply pw_below_drewN | apply below_drew1) | exact HB.out))); (case aF => exact (fun _ _ => trivial)); (case aO => exact (by (with_reducible repeat (first | apply Kd.R_alloc | apply Kd.R_drewN | apply Kd.R_drew)); exact HO_3.out)); (case aS => exact (below_size (by repeat (first | (with_reducible first | exact HB.out | apply below_alloc | apply pw_below_drewN | apply below_drew1) | exact HB.out)))); (case aL => have := LMc24.out; omega); intro v298 w25 ho hb hg hat; rw [← Ny297.out] at ho; have n0_ := Aside0.mk (hb); have n1_ := Aside0.mk (ho); clear HB; clear HO_3; have HB := n0_; have HO299 := n1_; clear n0_ n1_; clear ho hb hg hat))
                  go_roundg k1
                  case measure => have := HK1.out; omega
                  case rel => exact ⟨(y297), (wrap64 (x4_1 + 1)), (by first | rfl | (simp; done) | (simp [*]; done)), H', ⟨by have := HK1.out; omega⟩, ⟨by (with_reducible repeat (first | apply Kd.R_alloc | apply Kd.R_drewN | apply Kd.R_drew)); exact HO299.out⟩, ⟨by repeat (first | (with_reducible first | exact HB.out | apply below_alloc | apply pw_below_drewN | apply below_drew1) | exact HB.out)⟩⟩
                · rw [if_neg c24] at H
                  exact absurd H (by simp)
        · rw [if_neg c3] at H
          exact absurd H (by simp)
      · rw [if_neg c2] at H
        have c2b0 : decide (x4_1 < (a0.size : Int)) = false := decide_eq_false c2
        clear c2
        obtain rfl := Option.some.inj H
        have hcv26 := own_string (P := Tryz.prog) Tryz.underlying50 Tryz.underlying5 Tryz.underlying9 (Kd.own_of_R HO_3.out)
        go_wp2
        go_ret
        exact ⟨by first | rfl | (simp [errW_none, errW_some] <;> rfl) | (simp [*, errW_none, errW_some] <;> rfl), by repeat (first | (with_reducible first | exact HB.out | apply below_alloc | apply pw_below_drewN | apply below_drew1) | exact HB.out)⟩
end Go.Proofs.YthbdjmopolpjmaaGreatDoor.F
end
section
set_option linter.unusedVariables false
set_option linter.unusedSimpArgs false
namespace Go.Proofs.YthbdjmopolpjmaaGreatDoor.M
open Go.RowKit Go.Proofs.YthbdjmopolpjmaaGreatDoorW.PrintWords Go.Proofs.YthbdjmopolpjmaaGreatDoorW.PrintLast Go.Proofs.YthbdjmopolpjmaaGreatDoorW.PrintMore Go.Proofs.YthbdjmopolpjmaaGreatDoor.F Go.Proofs.YthbdjmopolpjmaaGreatDoor.C
def escN (c : Int) : List Int := if c = 92 then [92, 92] else if c = 9 then [92, 116] else if c = 10 then [92, 110] else [c]
def escL (l : List Int) : List Int := l.flatMap escN
def esc (s : ByteArray) : ByteArray := strOfNums (escL (bytesOf s))
def Bts (l : List Int) : Prop := ∀ x ∈ l, 0 ≤ x ∧ x < 256
theorem bts_bytesOf (s : ByteArray) : Bts (bytesOf s) := by
  intro x hx
  unfold bytesOf at hx
  obtain ⟨b, _, rfl⟩ := List.mem_map.1 hx
  have := b.toNat_lt
  omega
theorem Bts.append {a b : List Int} (h : Bts a) (k : Bts b) : Bts (a ++ b) := fun x hx => by
  rcases List.mem_append.1 hx with hx | hx
  · exact h x hx
  · exact k x hx
theorem bts_escN {c : Int} (h : 0 ≤ c ∧ c < 256) : Bts (escN c) := by
  unfold escN
  split
  · intro x hx; simp at hx; omega
  · split
    · intro x hx; simp at hx; omega
    · split
      · intro x hx; simp at hx; omega
      · intro x hx; simp at hx; omega
theorem bts_escL {l : List Int} (h : Bts l) : Bts (escL l) := by
  intro x hx
  unfold escL at hx
  obtain ⟨c, hc, hx⟩ := List.mem_flatMap.1 hx
  exact bts_escN (h c hc) x hx
theorem escN_len (c : Int) : 1 ≤ (escN c).length ∧ (escN c).length ≤ 2 := by
  unfold escN
  split
  · simp
  · split
    · simp
    · split <;> simp
theorem escL_append (a b : List Int) : escL (a ++ b) = escL a ++ escL b := by simp [escL]
theorem escL_one (c : Int) : escL [c] = escN c := by simp [escL]
theorem escL_len (l : List Int) : l.length ≤ (escL l).length ∧ (escL l).length ≤ 2 * l.length := by
  induction l with
  | nil => simp [escL]
  | cons c l ih =>
    have h := escN_len c
    have e : escL (c :: l) = escN c ++ escL l := by simp [escL]
    rw [e, List.length_append, List.length_cons]
    omega
theorem bytesOf_esc (s : ByteArray) : bytesOf (esc s) = escL (bytesOf s) := bytesOf_strOfNums _ (bts_escL (bts_bytesOf s))
theorem strOfNums_bytesOf (s : ByteArray) : strOfNums (bytesOf s) = s := by
  unfold strOfNums bytesOf
  rw [List.map_map]
  have h2 : ∀ b ∈ s.data.toList, ((fun i : Int => UInt8.ofNat i.toNat) ∘ fun b : UInt8 => (b.toNat : Int)) b = b := fun b _ => by simp
  rw [(List.map_congr_left h2).trans (List.map_id _)]
theorem esc_size (s : ByteArray) : (esc s).size ≤ 2 * s.size := by
  rw [← bytesOf_length, bytesOf_esc]
  have := (escL_len (bytesOf s)).2
  rw [bytesOf_length] at this
  exact this
theorem take_bt (s : ByteArray) (i : Nat) (h : i < s.size) : (bytesOf s).take (i + 1) = (bytesOf s).take i ++ [bt s (i : Int)] := by
  rw [List.take_succ_eq_append_getElem (by rw [bytesOf_length]; exact h)]
  congr 2
  have h1 := rd_bytesOf s (i : Int)
  rw [← h1]
  unfold rd
  rw [List.getD_eq_getElem?_getD, List.getElem?_eq_getElem (by rw [bytesOf_length]; simpa using h)]
  simp
theorem escL_take (s : ByteArray) (i : Nat) (h : i < s.size) : escL ((bytesOf s).take (i + 1)) = escL ((bytesOf s).take i) ++ escN (bt s (i : Int)) := by
  rw [take_bt s i h, escL_append, escL_one]
def jn (ts : List ByteArray) : ByteArray := ⟨(Lib.join (ts.map (·.data.toList)) [9]).toArray⟩
def jnL : List ByteArray → List Int
  | [] => []
  | t :: ts => bytesOf t ++ ts.flatMap (fun t => 9 :: bytesOf t)
theorem bytesOf_jn (ts : List ByteArray) : bytesOf (jn ts) = jnL ts := by
  cases ts with
  | nil => rfl
  | cons t ts =>
    unfold jn bytesOf
    simp only [List.map_cons, Lib.join_cons, jnL, List.map_append]
    congr 1
    unfold Lib.joinTail
    induction ts with
    | nil => rfl
    | cons u ts ih =>
      simp only [List.map_cons, List.flatten_cons, List.map_append, List.flatMap_cons, ih]
      simp [bytesOf]
noncomputable def parts (x : S41) : List ByteArray := [⟨(Lib.itoa x.f0).toArray⟩, ⟨(Lib.itoa x.f7).toArray⟩, ⟨(Lib.itoa x.f5).toArray⟩, ⟨(if x.f8 then #[120] else #[43])⟩, esc x.f1, ratT x.f2.f0 x.f2.f1, ratT x.f3.f0 x.f3.f1, esc x.f4] ++ x.f6.map esc
noncomputable def line (x : S41) : List Int := jnL (parts x) ++ [10]
noncomputable def lines (l : List S41) : List Int := l.flatMap line
noncomputable def bad : List S41 → Int → Option (Int × Int)
  | [], _ => none
  | x :: l, i => if canI x = 0 then bad l (i + 1) else some (canI x, i)
noncomputable def prt (l : List S41) : ByteArray × Int × Int :=
  match bad l 0 with
  | some (e, i) => (⟨#[]⟩, e, i)
  | none => if 4096 < l.length then (⟨#[]⟩, 4, 0) else if 65536 < (lines l).length then (⟨#[]⟩, 4, 0) else (strOfNums (lines l), 0, 0)
theorem lines_take (l : List S41) (i : Nat) (h : i < l.length) : lines (l.take (i + 1)) = lines (l.take i) ++ line (l[i]'h) := by
  unfold lines
  rw [List.take_succ_eq_append_getElem h, List.flatMap_append]
  simp only [List.flatMap_cons, List.flatMap_nil, List.append_nil]
theorem lines_take_le (l : List S41) (i : Nat) : (lines (l.take i)).length ≤ (lines l).length := by
  have h : lines l = lines (l.take i) ++ lines (l.drop i) := by unfold lines; rw [← List.flatMap_append, List.take_append_drop]
  rw [h, List.length_append]
  omega
theorem bad_none {l : List S41} : ∀ {i : Int}, bad l i = none ↔ ∀ x ∈ l, canI x = 0 := by
  induction l with
  | nil => intro i; simp [bad]
  | cons x l ih =>
    intro i
    simp only [bad]
    by_cases h : canI x = 0
    · rw [if_pos h, ih]; simp [h]
    · rw [if_neg h]; simp [h]
theorem bad_at {l : List S41} : ∀ {j : Nat} (i : Int) (hj : j < l.length), (∀ k (hk : k < j), canI (l[k]'(by omega)) = 0) → canI (l[j]'hj) ≠ 0 → bad l i = some (canI (l[j]'hj), i + j) := by
  induction l with
  | nil => intro j i hj; simp at hj
  | cons x l ih =>
    intro j i hj h0 h1
    cases j with
    | zero =>
      simp only [bad, List.getElem_cons_zero] at h1 ⊢
      rw [if_neg h1]
      simp
    | succ j =>
      have hx : canI x = 0 := h0 0 (by omega)
      simp only [bad, List.getElem_cons_succ] at h1 ⊢
      rw [if_pos hx, ih (i + 1) (by simpa using hj) (fun k hk => by simpa using h0 (k + 1) (by omega)) h1]
      congr 2
      omega
end Go.Proofs.YthbdjmopolpjmaaGreatDoor.M
end
section
set_option linter.unusedVariables false
set_option linter.unusedSimpArgs false
namespace Go.Proofs.YthbdjmopolpjmaaGreatDoor.C
open Go.RowKit Go.Proofs.YthbdjmopolpjmaaGreatDoorW.PrintWords Go.Proofs.YthbdjmopolpjmaaGreatDoorW.PrintLast Go.Proofs.YthbdjmopolpjmaaGreatDoorW.PrintMore Go.Proofs.YthbdjmopolpjmaaGreatDoor.F Go.Proofs.YthbdjmopolpjmaaGreatDoor.M
namespace Rep
def CZ (v : Value) : Array Value := (Array.replicate 256 (.slice none 0 0)).push v
theorem build_run (A : Option Addr) (n c : Nat) (W : World) : (Instr.build 258 #[(1, .slice A n c)]).run Tryz.prog W = .ok (.agg (CZ (.slice A n c))) W := by kernel_rfl
theorem make_run (W : World) : (Instr.makeSlice 30 (.int .i64 0) (.int .i64 3)).run Tryz.prog W = .ok (.slice (some ⟨W.heap.size, 0, none⟩) 0 3) (W.alloc (.cells #[.string ⟨#[]⟩, .string ⟨#[]⟩, .string ⟨#[]⟩] 9)) := by kernel_rfl
theorem zeros_set (A : Option Addr) (n c : Nat) : Tryz.zeroCells258.toList.set 256 (.slice A n c) = (CZ (.slice A n c)).toList := by kernel_rfl
theorem zeros_size : Tryz.zeroCells258.size = 257 := by kernel_rfl
theorem CZ_size (v : Value) : (CZ v).size = 257 := by simp [CZ]
theorem CZ_last (v : Value) : (CZ v)[256]? = some v := by
  simp only [CZ]
  rw [Array.getElem?_push]
  simp
theorem CZ_nil (v : Value) (j : Nat) (h : j < 256) : (CZ v)[j]? = some (.slice none 0 0) := by
  simp only [CZ]
  rw [Array.getElem?_push]
  simp [h]
  omega
theorem tab_made (A : Option Addr) (n c : Nat) (W : World) : ∃ W1, (storeCells ⟨W.heap.size, 0, none⟩ (Tryz.zeroCells258.toList.set 256 (.slice A n c))).run Tryz.prog (W.alloc (.cells Tryz.zeroCells258 258)) = .ok () W1 ∧
    W1.heap[W.heap.size]? = some (.cells (CZ (.slice A n c)) 258 (0, 0)) ∧ Below W.heap.size W W1 := by
  have hb : (W.alloc (.cells Tryz.zeroCells258 258)).heap[W.heap.size]? = some (.cells Tryz.zeroCells258 258 (0, 0)) := blk_new W _
  rw [zeros_set]
  have hl : (CZ (.slice A n c)).toList.length = 257 := by rw [Array.length_toList, CZ_size]
  have hz := zeros_size
  have hone : ∀ v ∈ (CZ (.slice A n c)).toList, v.oneCell' = true := by
    intro v hv
    rw [Array.mem_toList_iff] at hv
    simp only [CZ, Array.mem_push] at hv
    rcases hv with hv | rfl
    · rw [Array.eq_of_mem_replicate hv]; rfl
    · rfl
  have h := run_storeCells_cells (P := Tryz.prog) W.heap.size 0 (CZ (.slice A n c)).toList 0 (W.alloc (.cells Tryz.zeroCells258 258)) (fun j hj => by rw [blk_cell hb]; simp; omega) (fun j _ => blk_frozen hb _) hone
  rw [Nat.add_zero] at h
  obtain ⟨vs, hvs⟩ : ∃ vs, (CZ (.slice A n c)).toList = vs := ⟨_, rfl⟩
  have hcz : CZ (.slice A n c) = vs.toArray := by rw [← hvs]
  rw [hvs] at h hl hone ⊢
  obtain ⟨cur', h3, h4, h5⟩ := setCells_row vs 0 _ _ hb (by omega)
  refine ⟨_, h, ?_, ?_⟩
  · have e : cur' = CZ (.slice A n c) := by
      apply Array.toList_inj.1
      rw [h5, hvs]
      simp only [List.take_zero, List.nil_append]
      rw [List.drop_of_length_le (by rw [Array.length_toList]; omega), List.append_nil]
    rw [← e]
    exact h3
  · obtain ⟨s1, s2, s3, s4⟩ := setCells_same W.heap.size vs 0 (W.alloc (.cells Tryz.zeroCells258 258))
    refine ⟨s1, s2, s3, ?_, fun i hi => ?_⟩
    · rw [s4]; simp
    · exact (setCells_far _ _ i (by omega)).trans ((below_alloc (Below.refl W.heap.size W) _).block i hi)
def ByB (W : World) (b : Nat) (l : List Int) : Prop := ∃ cs fr, W.heap[b]? = some (.cells cs 5 fr) ∧ ∀ j, j < l.length → cs[j]? = some (.int .u8 (l.getD j 0))
theorem ByB.same {W W1 : World} {b : Nat} {l : List Int} (h : ByB W b l) (he : W1.heap[b]? = W.heap[b]?) : ByB W1 b l := by
  obtain ⟨cs, fr, h1, h2⟩ := h
  exact ⟨cs, fr, he.trans h1, h2⟩
theorem ByB.lt {W : World} {b : Nat} {l : List Int} (h : ByB W b l) : b < W.heap.size := by
  obtain ⟨cs, fr, h1, _⟩ := h
  exact blk_lt h1
def one (o : Nat) : ByteArray := strOfNums [(o : Int)]
structure Tb (w W : World) (p : Nat) (v : Value) (done : List Nat) : Prop where
  hp : w.heap.size ≤ p
  below : Below w.heap.size w W
  row : Kd.string.R 9 W w.heap.size (fun _ => True) v (done.map one)
  tab : ∃ C : Array Value, W.heap[p]? = some (.cells C 258 (0, 0)) ∧ C.size = 257 ∧ C[256]? = some v ∧ (∀ j, j < 256 → j ∉ done → C[j]? = some (.slice none 0 0)) ∧
    (∀ o ∈ done, ∃ b c, C[o]? = some (.slice (some ⟨b, 0, none⟩) 2 c) ∧ w.heap.size ≤ b ∧ ByB W b (escN o))
theorem Tb.start {w W W1 : World} (hb : Below w.heap.size w W) (t : Nat) (hrow : Kd.string.R 9 W w.heap.size (fun _ => True) (.slice (some ⟨t, 0, none⟩) 0 3) []) (h1 : W1.heap[W.heap.size]? = some (.cells (CZ (.slice (some ⟨t, 0, none⟩) 0 3)) 258 (0, 0))) (h2 : Below W.heap.size W W1) :
    Tb w W1 W.heap.size (.slice (some ⟨t, 0, none⟩) 0 3) [] :=
  ⟨hb.size, below_then hb hb.size h2, Kd.R_below hrow h2, _, h1, CZ_size _, CZ_last _, fun j hj _ => CZ_nil _ j hj, fun o ho => absurd ho (by simp)⟩
theorem Tb.cells {w W : World} {p : Nat} {v : Value} {done : List Nat} (h : Tb w W p v done) (o : Nat) (ho : o < 256) (hn : o ∉ done) : W.cell? ⟨p, 256, none⟩ = some v ∧ W.frozen? ⟨p, 256, none⟩ = false ∧ W.cell? ⟨p, o, none⟩ = some (.slice none 0 0) ∧ W.frozen? ⟨p, o, none⟩ = false := by
  obtain ⟨C, h1, h2, h3, h4, h5⟩ := h.tab
  exact ⟨(blk_cell h1 256).trans h3, blk_frozen h1 256, (blk_cell h1 o).trans (h4 o ho hn), blk_frozen h1 o⟩
theorem typed_ne {w W : World} {p : Nat} {v : Value} {done : List Nat} (h : Tb w W p v done) {b : Nat} {cs : Array Value} {t : Nat} {fr : Nat × Nat} (hb : W.heap[b]? = some (.cells cs t fr)) (ht : t ≠ 9) : some b ≠ v.ownBlock := by
  intro he
  obtain ⟨cells, hc⟩ := Kd.R_typed h.row b he.symm
  rw [hb] at hc
  injection hc with hc
  injection hc with _ hc
  exact ht hc
theorem Tb.after {w W w1 : World} {p : Nat} {v : Value} {done : List Nat} {o : Nat} (h : Tb w W p v done) (ho : o < 256) (hn : o ∉ done) (o' : Obj) (hg : (W.alloc o').grownBy w1 v.ownBlock) (v1 : Value) (W2 : World) (hW2 : w1.setCell ⟨p, 256, none⟩ v1 = W2) (s : ByteArray) :
    w1.cell? ⟨p, 256, none⟩ = some v ∧ w1.frozen? ⟨p, 256, none⟩ = false ∧ (Lib.bytesWorld W2 5 s).cell? ⟨p, o, none⟩ = some (.slice none 0 0) ∧ (Lib.bytesWorld W2 5 s).frozen? ⟨p, o, none⟩ = false := by
  obtain ⟨C, h1, h2, h3, h4, h5⟩ := h.tab
  have a1 : (W.alloc o').heap[p]? = some (.cells C 258 (0, 0)) := blk_alloc h1 o'
  have a2 : w1.heap[p]? = some (.cells C 258 (0, 0)) := (hg.block p (blk_lt a1) (typed_ne h h1 (by decide))).trans a1
  have a3 : W2.heap[p]? = some (.cells (C.setIfInBounds 256 v1) 258 (0, 0)) := by rw [← hW2]; exact blk_set a2 256 v1
  have a4 : (Lib.bytesWorld W2 5 s).heap[p]? = some (.cells (C.setIfInBounds 256 v1) 258 (0, 0)) := (Lib.bytesWorld_at_old W2 5 s p (blk_lt a3)).trans a3
  refine ⟨(blk_cell a2 256).trans h3, blk_frozen a2 256, (blk_cell a4 o).trans ?_, blk_frozen a4 o⟩
  rw [Array.getElem?_setIfInBounds_ne (by omega)]
  exact h4 o ho hn
theorem Tb.round {w W w1 : World} {p : Nat} {v v1 : Value} {done : List Nat} {o : Nat} (h : Tb w W p v done) (ho : o < 256) (hn : o ∉ done) (o' : Obj) (hR : Kd.string.R 9 w1 w.heap.size (fun _ => True) v1 (done.map one ++ [one o])) (hb : Below w.heap.size w w1) (hg : (W.alloc o').grownBy w1 v.ownBlock)
    (s : ByteArray) (hs : bytesOf s = escN o) (W2 : World) (hW2 : w1.setCell ⟨p, 256, none⟩ v1 = W2) (c : Nat) : Tb w ((Lib.bytesWorld W2 5 s).setCell ⟨p, o, none⟩ (.slice (some ⟨W2.heap.size, 0, none⟩) 2 c)) p v1 (done ++ [o]) := by
  obtain ⟨C, h1, h2, h3, h4, h5⟩ := h.tab
  have hp := h.hp
  have a1 : (W.alloc o').heap[p]? = some (.cells C 258 (0, 0)) := blk_alloc h1 o'
  have a2 : w1.heap[p]? = some (.cells C 258 (0, 0)) := (hg.block p (blk_lt a1) (typed_ne h h1 (by decide))).trans a1
  have a3 : W2.heap[p]? = some (.cells (C.setIfInBounds 256 v1) 258 (0, 0)) := by rw [← hW2]; exact blk_set a2 256 v1
  have hsz : W2.heap.size = w1.heap.size := by rw [← hW2]; simp
  have hlt : p < W2.heap.size := blk_lt a3
  have a4 : (Lib.bytesWorld W2 5 s).heap[p]? = some (.cells (C.setIfInBounds 256 v1) 258 (0, 0)) := (Lib.bytesWorld_at_old W2 5 s p hlt).trans a3
  have a5 := blk_set a4 o (.slice (some ⟨W2.heap.size, 0, none⟩) 2 c)
  have hBW : Below w.heap.size w W2 := by rw [← hW2]; exact Below.setCell (p := ⟨p, 256, none⟩) hb hp _
  have hBb : Below w.heap.size w (Lib.bytesWorld W2 5 s) := bytes_below hBW hBW.size 5 s
  have hgp : w1.heap.size ≤ W2.heap.size := by omega
  have hold : ∀ b, b < W.heap.size → some b ≠ v.ownBlock → b ≠ p → ((Lib.bytesWorld W2 5 s).setCell ⟨p, o, none⟩ (.slice (some ⟨W2.heap.size, 0, none⟩) 2 c)).heap[b]? = W.heap[b]? := by
    intro b hbl hbv hbp
    have e1 := Below.heap_setCell (Lib.bytesWorld W2 5 s) ⟨p, o, none⟩ (.slice (some ⟨W2.heap.size, 0, none⟩) 2 c) b hbp
    have e4 : (W.alloc o').heap[b]? = W.heap[b]? := Below.heap_alloc W o' b hbl
    have hbl2 : b < (W.alloc o').heap.size := by simp; omega
    have e3 : w1.heap[b]? = (W.alloc o').heap[b]? := hg.block b hbl2 hbv
    have e2 : W2.heap[b]? = w1.heap[b]? := by rw [← hW2]; exact Below.heap_setCell w1 ⟨p, 256, none⟩ v1 b hbp
    have hb1 : b < w1.heap.size := Nat.lt_of_lt_of_le hbl2 hg.size
    exact e1.trans ((Lib.bytesWorld_at_old W2 5 s b (by omega)).trans (e2.trans (e3.trans e4)))
  refine ⟨hp, Below.setCell (p := ⟨p, o, none⟩) hBb hp _, ?_, _, a5, ?_, ?_, ?_, ?_⟩
  · rw [List.map_append, List.map_singleton]
    have r1 : Kd.string.R 9 W2 w.heap.size (fun _ => True) v1 (done.map one ++ [one o]) := by rw [← hW2]; exact Kd.R_set hR a2 (by simp [Kd.string, Kd.scalar]) 256 v1
    have hbo : Below W2.heap.size W2 (Lib.bytesWorld W2 5 s) := bytes_below (Below.refl _ _) (Nat.le_refl _) 5 s
    exact Kd.R_set (Kd.R_below r1 hbo) a4 (by simp [Kd.string, Kd.scalar]) o _
  · simp [h2]
  · rw [Array.getElem?_setIfInBounds_ne (by omega)]
    rw [Array.getElem?_setIfInBounds_self_of_lt (by omega)]
  · intro j hj hjn
    simp only [List.mem_append, List.mem_singleton, not_or] at hjn
    rw [Array.getElem?_setIfInBounds_ne (by omega), Array.getElem?_setIfInBounds_ne (by omega)]
    exact h4 j hj hjn.1
  · intro q hq
    rcases List.mem_append.1 hq with hq | hq
    · obtain ⟨b, c', e1, e2, e3⟩ := h5 q hq
      have hq256 : q ≠ 256 := fun e => by
        subst e
        rw [h3] at e1
        exact absurd (Option.some.inj e1) (fun e => typed_ne h e3.choose_spec.choose_spec.1 (by decide) (by rw [e]; rfl))
      have hqo : q ≠ o := fun e => hn (e ▸ hq)
      refine ⟨b, c', ?_, e2, e3.same (hold b e3.lt (typed_ne h e3.choose_spec.choose_spec.1 (by decide)) ?_)⟩
      · rw [Array.getElem?_setIfInBounds_ne (by omega), Array.getElem?_setIfInBounds_ne (by omega)]
        exact e1
      · intro e
        obtain ⟨cs, fr, hcs, _⟩ := e3
        rw [e, h1] at hcs
        injection hcs with hcs
        injection hcs with _ hcs
        exact absurd hcs (by decide)
    · obtain rfl := List.mem_singleton.1 hq
      refine ⟨W2.heap.size, c, ?_, hBW.size, ?_⟩
      · rw [Array.getElem?_setIfInBounds_self_of_lt (by simp; omega)]
      · have hnew := Lib.bytesWorld_at_new W2 5 s
        refine ⟨_, _, (Below.heap_setCell (Lib.bytesWorld W2 5 s) ⟨p, q, none⟩ _ W2.heap.size (by simp; omega)).trans hnew, fun j hj => ?_⟩
        rw [← hs]
        have hjs : j < s.size := by rw [← bytesOf_length, hs]; exact hj
        have hjl : j < s.data.toList.length := by rw [data_length]; exact hjs
        simp [Lib.bytesCells, Array.getElem?_append, bytesOf, List.getD_eq_getElem?_getD]
        simp at hjl
        simp [hjl]
end Rep
end Go.Proofs.YthbdjmopolpjmaaGreatDoor.C
end
