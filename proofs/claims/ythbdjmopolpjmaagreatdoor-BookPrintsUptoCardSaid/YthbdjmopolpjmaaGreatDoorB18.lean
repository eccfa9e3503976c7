/- Part 18 of the proof: CFit, CErr, CErr2, CErr3, CErr4, CErr5, CTold, CTold2, CPart, CJoin. -/
import Derived.LaidEql
import Derived.Lib.AppendIntMem
import Derived.RowKitTokens
import Derived.Stop.Asserts
import Derived.Test.YthbdjmopolpjmaaGreatDoorB00
import Derived.Test.YthbdjmopolpjmaaGreatDoorB01
import Derived.Test.YthbdjmopolpjmaaGreatDoorB02
import Derived.Test.YthbdjmopolpjmaaGreatDoorB03
import Derived.Test.YthbdjmopolpjmaaGreatDoorB04
import Derived.Test.YthbdjmopolpjmaaGreatDoorB05
import Derived.Test.YthbdjmopolpjmaaGreatDoorB06
import Derived.Test.YthbdjmopolpjmaaGreatDoorB07
import Derived.Test.YthbdjmopolpjmaaGreatDoorB08
import Derived.Test.YthbdjmopolpjmaaGreatDoorB09
import Derived.Test.YthbdjmopolpjmaaGreatDoorB10
import Derived.Test.YthbdjmopolpjmaaGreatDoorB11
import Derived.Test.YthbdjmopolpjmaaGreatDoorB12
import Derived.Test.YthbdjmopolpjmaaGreatDoorB13
import Derived.Test.YthbdjmopolpjmaaGreatDoorB14
import Derived.Test.YthbdjmopolpjmaaGreatDoorB15
import Derived.Test.YthbdjmopolpjmaaGreatDoorB16
import Derived.Test.YthbdjmopolpjmaaGreatDoorB17
section
set_option linter.unusedVariables false
set_option linter.unusedSimpArgs false
namespace Go.Proofs.YthbdjmopolpjmaaGreatDoor.C
open Go.RowKit Go.Proofs.YthbdjmopolpjmaaGreatDoorW.PrintWords Go.Proofs.YthbdjmopolpjmaaGreatDoorW.PrintLast Go.Proofs.YthbdjmopolpjmaaGreatDoorW.PrintMore Go.Proofs.YthbdjmopolpjmaaGreatDoor.F Go.Proofs.YthbdjmopolpjmaaGreatDoor.M
attribute [local go_sem] max2_int min2_int max_two min_two max_three min_three max_four min_four
def errV (n : Int) : Value := if n = 0 then Value.nilIface else .iface 83 (.agg #[.int .i64 n])
set_option maxHeartbeats 2000000 in
set_option maxRecDepth 100000 in
theorem fit_call (x : S41) (A : Option Addr) (c : Nat) (w : World) : Calls Tryz.prog 20 #[EV x A c] w fun e w' => e = .returned (errV (canI x)) ∧ Below w.heap.size w w' := by
  have HBB := Aside0.mk (below_alloc (Below.refl w.heap.size w) (.cells #[.int .i64 x.f0, .string x.f1, .string x.f2.f0, .string x.f2.f1, .string x.f3.f0, .string x.f3.f1, .string x.f4, .int .i64 x.f5, .slice A x.f6.length c, .int .i64 x.f7, .bool x.f8] 41))
  by_cases c0 : x.f0 < 1
  · have d0 : decide (x.f0 < 1) = true := decide_eq_true c0
    have HX := Aside0.mk (canI_bounds (x := x) (fun h => by unfold Bounds at h; omega))
    clear c0
    go_enter Tryz.func20, Tryz.ntmps20
    unfold EV
    go_wp2_with fail
    go_ret
    exact ⟨by rw [HX.out]; rfl, HBB.out⟩
  · have d0 : decide (x.f0 < 1) = false := decide_eq_false c0
    by_cases c1 : 4096 < x.f0
    · have d1 : decide (4096 < x.f0) = true := decide_eq_true c1
      have HX := Aside0.mk (canI_bounds (x := x) (fun h => by unfold Bounds at h; omega))
      clear c0 c1
      go_enter Tryz.func20, Tryz.ntmps20
      unfold EV
      go_wp2_with fail
      go_ret
      exact ⟨by rw [HX.out]; rfl, HBB.out⟩
    · have d1 : decide (4096 < x.f0) = false := decide_eq_false c1
      by_cases c2 : x.f7 < 0
      · have d2 : decide (x.f7 < 0) = true := decide_eq_true c2
        have HX := Aside0.mk (canI_bounds (x := x) (fun h => by unfold Bounds at h; omega))
        clear c0 c1 c2
        go_enter Tryz.func20, Tryz.ntmps20
        unfold EV
        go_wp2_with fail
        go_ret
        exact ⟨by rw [HX.out]; rfl, HBB.out⟩
      · have d2 : decide (x.f7 < 0) = false := decide_eq_false c2
        by_cases c3 : 4096 < x.f7
        · have d3 : decide (4096 < x.f7) = true := decide_eq_true c3
          have HX := Aside0.mk (canI_bounds (x := x) (fun h => by unfold Bounds at h; omega))
          clear c0 c1 c2 c3
          go_enter Tryz.func20, Tryz.ntmps20
          unfold EV
          go_wp2_with fail
          go_ret
          exact ⟨by rw [HX.out]; rfl, HBB.out⟩
        · have d3 : decide (4096 < x.f7) = false := decide_eq_false c3
          by_cases c4 : x.f5 < 0
          · have d4 : decide (x.f5 < 0) = true := decide_eq_true c4
            have HX := Aside0.mk (canI_bounds (x := x) (fun h => by unfold Bounds at h; omega))
            clear c0 c1 c2 c3 c4
            go_enter Tryz.func20, Tryz.ntmps20
            unfold EV
            go_wp2_with fail
            go_ret
            exact ⟨by rw [HX.out]; rfl, HBB.out⟩
          · have d4 : decide (x.f5 < 0) = false := decide_eq_false c4
            by_cases c5 : 1000000 < x.f5
            · have d5 : decide (1000000 < x.f5) = true := decide_eq_true c5
              have HX := Aside0.mk (canI_bounds (x := x) (fun h => by unfold Bounds at h; omega))
              clear c0 c1 c2 c3 c4 c5
              go_enter Tryz.func20, Tryz.ntmps20
              unfold EV
              go_wp2_with fail
              go_ret
              exact ⟨by rw [HX.out]; rfl, HBB.out⟩
            · have d5 : decide (1000000 < x.f5) = false := decide_eq_false c5
              have HB := Aside0.mk (show Bounds x by unfold Bounds; omega)
              clear c0 c1 c2 c3 c4 c5
              go_enter Tryz.func20, Tryz.ntmps20
              unfold EV
              go_wp2_with fail
              refine (right_call x.f2.f0 x.f2.f1 _).mono ?_
              rintro e w1 ⟨b1, rfl, h1, h2⟩
              have g4 := cell_later (a := ⟨w.heap.size, 4, none⟩) (v := .string x.f3.f0) h2 (by simp)
              have g5 := cell_later (a := ⟨w.heap.size, 5, none⟩) (v := .string x.f3.f1) h2 (by simp)
              have g8 := cell_later (a := ⟨w.heap.size, 8, none⟩) (v := .slice A x.f6.length c) h2 (by simp)
              have H1 := Aside0.mk (And.intro h1 (below_then HBB.out (by simp) h2))
              clear h1 h2
              cases b1 with
              | false =>
                go_wp2_with fail
                go_ret
                exact ⟨by rw [canI_right HB.out (fun h => absurd (H1.out.1.2 h.1) (by simp))]; rfl, H1.out.2⟩
              | true =>
                go_wp2_with fail
                refine (right_call x.f3.f0 x.f3.f1 _).mono ?_
                rintro e w2 ⟨b2, rfl, h1, h2⟩
                have k4 := cell_later h2 g4
                have k8 := cell_later h2 g8
                have H2 := Aside0.mk (And.intro h1 (below_then H1.out.2 H1.out.2.size h2))
                clear h1 h2 g4 g5 g8
                cases b2 with
                | false =>
                  go_wp2_with fail
                  go_ret
                  exact ⟨by rw [canI_right HB.out (fun h => absurd (H2.out.1.2 h.2) (by simp))]; rfl, H2.out.2⟩
                | true =>
                  have HR := Aside0.mk (And.intro (H1.out.1.1 (by first | rfl | trivial)) (H2.out.1.1 (by first | rfl | trivial)))
                  have hp := HR.out.2.pos
                  have q0 := eq_true hp
                  have hx : ∀ h : 0 < x.f3.f0.size, ((x.f3.f0[0]'h).toNat : Int) = bt x.f3.f0 0 := bt_at x.f3.f0 0
                  by_cases hm : bt x.f3.f0 0 = 45
                  · have h45 : ((bt x.f3.f0 0) == 45) = true := beq_iff_eq.mpr hm
                    have HM := Aside0.mk (show minus x.f3.f0 = true by unfold minus; exact decide_eq_true ⟨hp, hm⟩)
                    clear hm hp
                    go_wp2_with fail
                    go_ret
                    exact ⟨by rw [canI_minus HB.out HR.out HM.out]; rfl, H2.out.2⟩
                  · have h45 : ((bt x.f3.f0 0) == 45) = false := beq_eq_false_iff_ne.mpr hm
                    have HM := Aside0.mk (show ¬ minus x.f3.f0 = true by unfold minus; exact fun h => hm (of_decide_eq_true h).2)
                    clear hm hp
                    by_cases hl : 8 < x.f6.length
                    · have l1 : decide (8 < x.f6.length) = true := decide_eq_true hl
                      have l2 : decide (8 < (x.f6.length : Int)) = true := decide_eq_true (by omega)
                      have HL := Aside0.mk hl
                      clear hl
                      go_wp2_with fail
                      go_ret
                      exact ⟨by rw [canI_tags HB.out HR.out HM.out HL.out]; rfl, H2.out.2⟩
                    · have l1 : decide (8 < x.f6.length) = false := decide_eq_false hl
                      have l2 : decide (8 < (x.f6.length : Int)) = false := decide_eq_false (by omega)
                      have HL := Aside0.mk hl
                      clear hl
                      go_wp2_with fail
                      go_ret
                      exact ⟨by rw [canI_ok HB.out HR.out HM.out HL.out]; rfl, H2.out.2⟩
end Go.Proofs.YthbdjmopolpjmaaGreatDoor.C
end
section
set_option linter.unusedVariables false
set_option linter.unusedSimpArgs false
namespace Go.Proofs.YthbdjmopolpjmaaGreatDoor.C
open Go.RowKit Go.Extern.Stop Go.Stop Go.Extern Go.Proofs.YthbdjmopolpjmaaGreatDoorW.PrintWords Go.Proofs.YthbdjmopolpjmaaGreatDoorW.PrintLast Go.Proofs.YthbdjmopolpjmaaGreatDoorW.PrintMore Go.Proofs.YthbdjmopolpjmaaGreatDoor.F Go.Proofs.YthbdjmopolpjmaaGreatDoor.M
namespace As
theorem methodKind (h : Value) (w : World) : (Go.method 490 182 (.agg #[h]) "Kind").run Tryz.prog w = .ok (281, h) w := by kernel_rfl
theorem methodElem (h : Value) (w : World) : (Go.method 490 182 (.agg #[h]) "Elem").run Tryz.prog w = .ok (295, .agg #[h]) w := by kernel_rfl
theorem methodImplements (h : Value) (w : World) : (Go.method 490 182 (.agg #[h]) "Implements").run Tryz.prog w = .ok (296, .agg #[h]) w := by kernel_rfl
theorem methodAssignableTo (h : Value) (w : World) : (Go.method 490 182 (.agg #[h]) "AssignableTo").run Tryz.prog w = .ok (293, .agg #[h]) w := by kernel_rfl
theorem methodComparable (h : Value) (w : World) : (Go.method 490 182 (.agg #[h]) "Comparable").run Tryz.prog w = .ok (294, .agg #[h]) w := by kernel_rfl
theorem rlm (z : Sem Value) (f : TypeId → Addr → Nat → Nat → Sem Value) (v : Value) :
    ReflectliteValue.method z f #[v] = (do match ← ReflectliteValue.parts v with | none => z | some (t, a, fl) => f t a fl (fl % 32)) := rfl
theorem rls (v x : Value) : ReflectliteValue.set #[v, x] = (do
    let (some (dst, a, fl), some (src, b, _)) := (← ReflectliteValue.parts v, ← ReflectliteValue.parts x)
      | unsupported (.noEntry "extern/(internal/reflectlite.Value).Set.zeroValue")
    if fl / ReflectliteValue.flagAddr % 2 == 0 then unsupported (.noEntry "extern/(internal/reflectlite.Value).Set.unaddressable")
    let val ← loadVar src b
    if ← Rtype.directlyAssignable dst src then storeVar dst a val
    else if ← Rtype.implements dst src then
      if (← Rtype.kind src) == 20 then
        match val with
        | .nilIface => unsupported (.noEntry "extern/reflectlite: a nil value of one interface type handed on as a value of another")
        | _ => storeVar dst a val
      else storeVar dst a (.iface src val)
    else panicString ("reflectlite.Set: value of type " ++ (← Rtype.spelt src) ++ " is not assignable to type " ++ (← Rtype.spelt dst))
    pure (.tuple #[])) := rfl
theorem valueOf86 (t : Addr) (w : World) : (ReflectliteValue.unpack (.iface 86 (.pointer (some t)))).run Tryz.prog w
    = .ok (.agg #[.pointer (some ⟨10, 86, none⟩), .pointer (some ⟨w.heap.size, 0, none⟩), .int .u64 150]) (w.alloc (.cells #[.pointer (some t)] 86)) := by kernel_rfl
theorem type86 (a : Addr) (w : World) : (ReflectliteValue.methodAny (ReflectliteValue.valueError "reflectlite.Value.Type" 0) (fun t _ _ _ => ReflectliteType.toType t) #[.agg #[.pointer (some ⟨10, 86, none⟩), .pointer (some a), .int .u64 150]]).run Tryz.prog w
    = .ok (.iface 182 (.agg #[.pointer (some ⟨10, 86, none⟩)])) w := by kernel_rfl
theorem kind86 (w : World) : ((ReflectliteType.abiMethod fun t => (fun a : Nat => Value.int IntKind.u8 (a : Int)) <$> Rtype.kind t) #[.pointer (some ⟨10, 86, none⟩)]).run Tryz.prog w = .ok (.int .u8 22) w := by kernel_rfl
theorem kind49 (w : World) : ((ReflectliteType.abiMethod fun t => (fun a : Nat => Value.int IntKind.u8 (a : Int)) <$> Rtype.kind t) #[.pointer (some ⟨10, 49, none⟩)]).run Tryz.prog w = .ok (.int .u8 25) w := by kernel_rfl
theorem parts86 (a : Addr) (w : World) : (ReflectliteValue.parts (.agg #[.pointer (some ⟨10, 86, none⟩), .pointer (some a), .int .u64 150])).run Tryz.prog w = .ok (some (86, a, 150)) w := by kernel_rfl
theorem isNil86 (a p : Addr) (W : World) (ha : W.cell? a = some (.pointer (some p))) :
    (ReflectliteValue.method (ReflectliteValue.valueError "reflectlite.Value.IsNil" 0) ReflectliteValue.isNil #[.agg #[.pointer (some ⟨10, 86, none⟩), .pointer (some a), .int .u64 150]]).run Tryz.prog W = .ok (.bool false) W := by
  rw [rlm]
  simp only [Sem.run_bind, parts86, Result.andThen]
  simp [ReflectliteValue.isNil, loadVar, isAgg, underlying, Tryz.underlying86, ha, Result.andThen]
theorem elem86 (w : World) : (ReflectliteType.method ReflectliteType.elem #[.agg #[.pointer (some ⟨10, 86, none⟩)]]).run Tryz.prog w = .ok (.iface 182 (.agg #[.pointer (some ⟨10, 49, none⟩)])) w := by kernel_rfl
theorem typeOf49 (v : Value) (w : World) : (ReflectliteType.typeOf #[.iface 49 v]).run Tryz.prog w = .ok (.iface 182 (.agg #[.pointer (some ⟨10, 49, none⟩)])) w := by kernel_rfl
theorem valueOf49 (v0 v1 : Value) (w : World) : (ReflectliteValue.unpack (.iface 49 (.agg #[v0, v1]))).run Tryz.prog w
    = .ok (.agg #[.pointer (some ⟨10, 49, none⟩), .pointer (some ⟨w.heap.size, 0, none⟩), .int .u64 153]) (w.alloc (.cells #[v0, v1] 49)) := by kernel_rfl
theorem elemOf86 (w : World) : (Rtype.elem? 86).run Tryz.prog w = .ok (some 49) w := by kernel_rfl
theorem mk49 (p : Addr) (w : World) : (ReflectliteValue.mk 49 p ReflectliteValue.flagAddr).run Tryz.prog w = .ok (.agg #[.pointer (some ⟨10, 49, none⟩), .pointer (some p), .int .u64 409]) w := by kernel_rfl
theorem elemV86 (a p : Addr) (W : World) (ha : W.cell? a = some (.pointer (some p))) :
    (ReflectliteValue.method (ReflectliteValue.valueError "reflectlite.Value.Elem" 0) ReflectliteValue.elem #[.agg #[.pointer (some ⟨10, 86, none⟩), .pointer (some a), .int .u64 150]]).run Tryz.prog W
      = .ok (.agg #[.pointer (some ⟨10, 49, none⟩), .pointer (some p), .int .u64 409]) W := by
  rw [rlm]
  simp only [Sem.run_bind, parts86, Result.andThen]
  simp [ReflectliteValue.elem, loadVar, isAgg, underlying, Tryz.underlying86, ha, Result.andThen, elemOf86, mk49]
theorem parts49a (a : Addr) (w : World) : (ReflectliteValue.parts (.agg #[.pointer (some ⟨10, 49, none⟩), .pointer (some a), .int .u64 409])).run Tryz.prog w = .ok (some (49, a, 409)) w := by kernel_rfl
theorem parts49 (a : Addr) (w : World) : (ReflectliteValue.parts (.agg #[.pointer (some ⟨10, 49, none⟩), .pointer (some a), .int .u64 153])).run Tryz.prog w = .ok (some (49, a, 153)) w := by kernel_rfl
theorem direct49 (w : World) : (Rtype.directlyAssignable 49 49).run Tryz.prog w = .ok true w := by kernel_rfl
theorem valueOf88 (t : Addr) (w : World) : (ReflectliteValue.unpack (.iface 88 (.pointer (some t)))).run Tryz.prog w
    = .ok (.agg #[.pointer (some ⟨10, 88, none⟩), .pointer (some ⟨w.heap.size, 0, none⟩), .int .u64 150]) (w.alloc (.cells #[.pointer (some t)] 88)) := by kernel_rfl
theorem type88 (a : Addr) (w : World) : (ReflectliteValue.methodAny (ReflectliteValue.valueError "reflectlite.Value.Type" 0) (fun t _ _ _ => ReflectliteType.toType t) #[.agg #[.pointer (some ⟨10, 88, none⟩), .pointer (some a), .int .u64 150]]).run Tryz.prog w
    = .ok (.iface 182 (.agg #[.pointer (some ⟨10, 88, none⟩)])) w := by kernel_rfl
theorem kind88 (w : World) : ((ReflectliteType.abiMethod fun t => (fun a : Nat => Value.int IntKind.u8 (a : Int)) <$> Rtype.kind t) #[.pointer (some ⟨10, 88, none⟩)]).run Tryz.prog w = .ok (.int .u8 22) w := by kernel_rfl
theorem kind83 (w : World) : ((ReflectliteType.abiMethod fun t => (fun a : Nat => Value.int IntKind.u8 (a : Int)) <$> Rtype.kind t) #[.pointer (some ⟨10, 83, none⟩)]).run Tryz.prog w = .ok (.int .u8 25) w := by kernel_rfl
theorem parts88 (a : Addr) (w : World) : (ReflectliteValue.parts (.agg #[.pointer (some ⟨10, 88, none⟩), .pointer (some a), .int .u64 150])).run Tryz.prog w = .ok (some (88, a, 150)) w := by kernel_rfl
theorem isNil88 (a p : Addr) (W : World) (ha : W.cell? a = some (.pointer (some p))) :
    (ReflectliteValue.method (ReflectliteValue.valueError "reflectlite.Value.IsNil" 0) ReflectliteValue.isNil #[.agg #[.pointer (some ⟨10, 88, none⟩), .pointer (some a), .int .u64 150]]).run Tryz.prog W = .ok (.bool false) W := by
  rw [rlm]
  simp only [Sem.run_bind, parts88, Result.andThen]
  simp [ReflectliteValue.isNil, loadVar, isAgg, underlying, Tryz.underlying88, ha, Result.andThen]
theorem elem88 (w : World) : (ReflectliteType.method ReflectliteType.elem #[.agg #[.pointer (some ⟨10, 88, none⟩)]]).run Tryz.prog w = .ok (.iface 182 (.agg #[.pointer (some ⟨10, 83, none⟩)])) w := by kernel_rfl
theorem typeOf83 (v : Value) (w : World) : (ReflectliteType.typeOf #[.iface 83 v]).run Tryz.prog w = .ok (.iface 182 (.agg #[.pointer (some ⟨10, 83, none⟩)])) w := by kernel_rfl
theorem valueOf83 (v0 : Value) (w : World) : (ReflectliteValue.unpack (.iface 83 (.agg #[v0]))).run Tryz.prog w
    = .ok (.agg #[.pointer (some ⟨10, 83, none⟩), .pointer (some ⟨w.heap.size, 0, none⟩), .int .u64 153]) (w.alloc (.cells #[v0] 83)) := by kernel_rfl
theorem elemOf88 (w : World) : (Rtype.elem? 88).run Tryz.prog w = .ok (some 83) w := by kernel_rfl
theorem mk83 (p : Addr) (w : World) : (ReflectliteValue.mk 83 p ReflectliteValue.flagAddr).run Tryz.prog w = .ok (.agg #[.pointer (some ⟨10, 83, none⟩), .pointer (some p), .int .u64 409]) w := by kernel_rfl
theorem elemV88 (a p : Addr) (W : World) (ha : W.cell? a = some (.pointer (some p))) :
    (ReflectliteValue.method (ReflectliteValue.valueError "reflectlite.Value.Elem" 0) ReflectliteValue.elem #[.agg #[.pointer (some ⟨10, 88, none⟩), .pointer (some a), .int .u64 150]]).run Tryz.prog W
      = .ok (.agg #[.pointer (some ⟨10, 83, none⟩), .pointer (some p), .int .u64 409]) W := by
  rw [rlm]
  simp only [Sem.run_bind, parts88, Result.andThen]
  simp [ReflectliteValue.elem, loadVar, isAgg, underlying, Tryz.underlying88, ha, Result.andThen, elemOf88, mk83]
theorem parts83a (a : Addr) (w : World) : (ReflectliteValue.parts (.agg #[.pointer (some ⟨10, 83, none⟩), .pointer (some a), .int .u64 409])).run Tryz.prog w = .ok (some (83, a, 409)) w := by kernel_rfl
theorem parts83 (a : Addr) (w : World) : (ReflectliteValue.parts (.agg #[.pointer (some ⟨10, 83, none⟩), .pointer (some a), .int .u64 153])).run Tryz.prog w = .ok (some (83, a, 153)) w := by kernel_rfl
theorem direct83 (w : World) : (Rtype.directlyAssignable 83 83).run Tryz.prog w = .ok true w := by kernel_rfl
theorem assignable49_49 (w : World) : (ReflectliteType.relation "AssignableTo" ReflectliteType.assignableTo #[.agg #[.pointer (some ⟨10, 49, none⟩)], .iface 182 (.agg #[.pointer (some ⟨10, 49, none⟩)])]).run Tryz.prog w = .ok (.bool true) w := by kernel_rfl
theorem assignable49_83 (w : World) : (ReflectliteType.relation "AssignableTo" ReflectliteType.assignableTo #[.agg #[.pointer (some ⟨10, 49, none⟩)], .iface 182 (.agg #[.pointer (some ⟨10, 83, none⟩)])]).run Tryz.prog w = .ok (.bool false) w := by kernel_rfl
theorem assignable83_83 (w : World) : (ReflectliteType.relation "AssignableTo" ReflectliteType.assignableTo #[.agg #[.pointer (some ⟨10, 83, none⟩)], .iface 182 (.agg #[.pointer (some ⟨10, 83, none⟩)])]).run Tryz.prog w = .ok (.bool true) w := by kernel_rfl
end As
end Go.Proofs.YthbdjmopolpjmaaGreatDoor.C
end
section
set_option linter.unusedVariables false
set_option linter.unusedSimpArgs false
namespace Go.Proofs.YthbdjmopolpjmaaGreatDoor.C
open Go.RowKit Go.Extern.Stop Go.Stop Go.Extern Go.Proofs.YthbdjmopolpjmaaGreatDoorW.PrintWords Go.Proofs.YthbdjmopolpjmaaGreatDoorW.PrintLast Go.Proofs.YthbdjmopolpjmaaGreatDoorW.PrintMore Go.Proofs.YthbdjmopolpjmaaGreatDoor.F Go.Proofs.YthbdjmopolpjmaaGreatDoor.M
namespace As
theorem set83 (tb bb : Nat) (v0 old : Value) (h1 : v0.oneCell' = true) (W : World) (hb : W.cell? ⟨bb, 0, none⟩ = some v0) (ht : W.cell? ⟨tb, 0, none⟩ = some old) (hf : W.frozen? ⟨tb, 0, none⟩ = false) :
    (ReflectliteValue.set #[.agg #[.pointer (some ⟨10, 83, none⟩), .pointer (some ⟨tb, 0, none⟩), .int .u64 409], .agg #[.pointer (some ⟨10, 83, none⟩), .pointer (some ⟨bb, 0, none⟩), .int .u64 153]]).run Tryz.prog W
      = .ok (.tuple #[]) (W.setCell ⟨tb, 0, none⟩ v0) := by
  rw [rls]
  simp only [Sem.run_bind, parts83a, parts83, Result.andThen]
  simp [ReflectliteValue.flagAddr, loadVar, isAgg, underlying, Tryz.underlying83, hb, Result.andThen, direct83, storeVar, Value.cells, storeCells, Addr.add, loadCells, loadCellsFrom]
  rw [run_store Tryz.prog W ⟨tb, 0, none⟩ _ _ h1]
  simp [ht, hf]
theorem set49 (tb bb : Nat) (v0 v1 o0 o1 : Value) (h0 : v0.oneCell' = true) (h1 : v1.oneCell' = true) (W : World) (hb0 : W.cell? ⟨bb, 0, none⟩ = some v0) (hb1 : W.cell? ⟨bb, 1, none⟩ = some v1) (ht0 : W.cell? ⟨tb, 0, none⟩ = some o0) (ht1 : W.cell? ⟨tb, 1, none⟩ = some o1) (hf0 : W.frozen? ⟨tb, 0, none⟩ = false) (hf1 : W.frozen? ⟨tb, 1, none⟩ = false) :
    (ReflectliteValue.set #[.agg #[.pointer (some ⟨10, 49, none⟩), .pointer (some ⟨tb, 0, none⟩), .int .u64 409], .agg #[.pointer (some ⟨10, 49, none⟩), .pointer (some ⟨bb, 0, none⟩), .int .u64 153]]).run Tryz.prog W
      = .ok (.tuple #[]) ((W.setCell ⟨tb, 0, none⟩ v0).setCell ⟨tb, 1, none⟩ v1) := by
  have hc : (W.setCell ⟨tb, 0, none⟩ v0).cell? ⟨tb, 1, none⟩ = some o1 := by rw [World.cell?_setCell_other]; exact ht1; intro e; injection e; omega
  rw [rls]
  simp only [Sem.run_bind, parts49a, parts49, Result.andThen]
  simp [ReflectliteValue.flagAddr, loadVar, isAgg, underlying, Tryz.underlying49, hb0, hb1, Result.andThen, direct49, storeVar, Value.cells, storeCells, Addr.add, loadCells, loadCellsFrom]
  rw [run_store Tryz.prog W ⟨tb, 0, none⟩ _ _ h0]
  simp [ht0, hf0]
  rw [run_store Tryz.prog _ ⟨tb, 1, none⟩ _ _ h1]
  simp [hc, hf1]
end As
end Go.Proofs.YthbdjmopolpjmaaGreatDoor.C
end
section
set_option linter.unusedVariables false
set_option linter.unusedSimpArgs false
namespace Go.Proofs.YthbdjmopolpjmaaGreatDoor.C
open Go.RowKit Go.Extern.Stop Go.Stop Go.Extern Go.Proofs.YthbdjmopolpjmaaGreatDoorW.PrintWords Go.Proofs.YthbdjmopolpjmaaGreatDoorW.PrintLast Go.Proofs.YthbdjmopolpjmaaGreatDoorW.PrintMore Go.Proofs.YthbdjmopolpjmaaGreatDoor.F Go.Proofs.YthbdjmopolpjmaaGreatDoor.M
namespace As
theorem implements49 (w : World) : (ReflectliteType.relation "Implements" ReflectliteType.implements_ #[.agg #[.pointer (some ⟨10, 49, none⟩)], .iface 182 (.agg #[.pointer (some ⟨10, 44, none⟩)])]).run Tryz.prog w = .ok (.bool true) w := by kernel_rfl
theorem implements83 (w : World) : (ReflectliteType.relation "Implements" ReflectliteType.implements_ #[.agg #[.pointer (some ⟨10, 83, none⟩)], .iface 182 (.agg #[.pointer (some ⟨10, 44, none⟩)])]).run Tryz.prog w = .ok (.bool true) w := by kernel_rfl
set_option maxHeartbeats 8000000 in
set_option maxRecDepth 100000 in
theorem as_hit49 (v0 v1 o0 o1 : Value) (tb : Nat) (h0 : v0.oneCell' = true) (h1 : v1.oneCell' = true) (w : World) (hg : w.cell? ⟨1, 0, none⟩ = some (.iface 182 (.agg #[.pointer (some ⟨10, 44, none⟩)]))) (ht0 : w.cell? ⟨tb, 0, none⟩ = some o0) (ht1 : w.cell? ⟨tb, 1, none⟩ = some o1) (hf0 : w.frozen? ⟨tb, 0, none⟩ = false) (hf1 : w.frozen? ⟨tb, 1, none⟩ = false) :
    Calls Tryz.prog 44 #[.iface 49 (.agg #[v0, v1]), .iface 86 (.pointer (some ⟨tb, 0, none⟩))] w fun ev w' => ev = .returned (.bool true) ∧ w' = ((((((w.alloc (.cells #[.pointer (some ⟨tb, 0, none⟩)] 86)).alloc (.cells #[.pointer (some ⟨10, 86, none⟩), .pointer (some ⟨w.heap.size, 0, none⟩), .int .u64 150] 116)).alloc (.cells #[.pointer (some ⟨10, 86, none⟩), .pointer (some ⟨w.heap.size, 0, none⟩), .int .u64 150] 116)).alloc (.cells #[v0, v1] 49)).setCell ⟨tb, 0, none⟩ v0).setCell ⟨tb, 1, none⟩ v1) := by
  have x80 := @run_callFunc_extern Tryz.prog 80 _ (fun args => ReflectliteValue.unpack (args.getD 0 (.tuple #[]))) Tryz.func80 (by kernel_rfl) (by kernel_rfl) (by kernel_rfl) (by kernel_rfl)
  have x81 := @run_callFunc_extern Tryz.prog 81 _ (ReflectliteValue.methodAny (ReflectliteValue.valueError "reflectlite.Value.Type" 0) (fun t _ _ _ => ReflectliteType.toType t)) Tryz.func81 (by kernel_rfl) (by kernel_rfl) (by kernel_rfl) (by kernel_rfl)
  have x82 := @run_callFunc_extern Tryz.prog 82 _ (ReflectliteValue.method (ReflectliteValue.valueError "reflectlite.Value.IsNil" 0) ReflectliteValue.isNil) Tryz.func82 (by kernel_rfl) (by kernel_rfl) (by kernel_rfl) (by kernel_rfl)
  have x281 := @run_callFunc_extern Tryz.prog 281 _ (ReflectliteType.abiMethod fun t => do pure (.int .u8 (← Rtype.kind t))) Tryz.func281 (by kernel_rfl) (by kernel_rfl) (by kernel_rfl) (by kernel_rfl)
  have x295 := @run_callFunc_extern Tryz.prog 295 _ (ReflectliteType.method ReflectliteType.elem) Tryz.func295 (by kernel_rfl) (by kernel_rfl) (by kernel_rfl) (by kernel_rfl)
  have x296 := @run_callFunc_extern Tryz.prog 296 _ (ReflectliteType.relation "Implements" ReflectliteType.implements_) Tryz.func296 (by kernel_rfl) (by kernel_rfl) (by kernel_rfl) (by kernel_rfl)
  have x84 := @run_callFunc_extern Tryz.prog 84 _ ReflectliteType.typeOf Tryz.func84 (by kernel_rfl) (by kernel_rfl) (by kernel_rfl) (by kernel_rfl)
  have x293 := @run_callFunc_extern Tryz.prog 293 _ (ReflectliteType.relation "AssignableTo" ReflectliteType.assignableTo) Tryz.func293 (by kernel_rfl) (by kernel_rfl) (by kernel_rfl) (by kernel_rfl)
  have x119 := @run_callFunc_extern Tryz.prog 119 _ (ReflectliteValue.method (ReflectliteValue.valueError "reflectlite.Value.Elem" 0) ReflectliteValue.elem) Tryz.func119 (by kernel_rfl) (by kernel_rfl) (by kernel_rfl) (by kernel_rfl)
  have x120 := @run_callFunc_extern Tryz.prog 120 _ ReflectliteValue.set Tryz.func120 (by kernel_rfl) (by kernel_rfl) (by kernel_rfl) (by kernel_rfl)
  have y1 := typeOf49
  have y2 := methodAssignableTo
  have y3 := assignable49_49
  have y4 := valueOf49
  have y5 := valueOf86
  have y6 := type86
  have y7 := methodKind
  have y8 := methodElem
  have y9 := methodImplements
  have y10 := kind86
  have y11 := kind49
  have y12 := elem86
  have y13 := implements49
  obtain ⟨W1, hW1⟩ : ∃ W, w.alloc (.cells #[.pointer (some ⟨tb, 0, none⟩)] 86) = W := ⟨_, rfl⟩
  have hB1 : Below w.heap.size w W1 := by rw [← hW1]; exact below_alloc (Below.refl _ _) _
  have n8 := isNil86 ⟨w.heap.size, 0, none⟩ ⟨tb, 0, none⟩ ((w.alloc (.cells #[.pointer (some ⟨tb, 0, none⟩)] 86)).alloc (.cells #[.pointer (some ⟨10, 86, none⟩), .pointer (some ⟨w.heap.size, 0, none⟩), .int .u64 150] 116)) (by simp)
  have hBA : Below w.heap.size w ((w.alloc (.cells #[.pointer (some ⟨tb, 0, none⟩)] 86)).alloc (.cells #[.pointer (some ⟨10, 86, none⟩), .pointer (some ⟨w.heap.size, 0, none⟩), .int .u64 150] 116)) := below_alloc (below_alloc (Below.refl _ _) _) _
  have hg2 := cell_later hBA hg
  have el := elemV86 ⟨w.heap.size, 0, none⟩ ⟨tb, 0, none⟩ (((w.alloc (.cells #[.pointer (some ⟨tb, 0, none⟩)] 86)).alloc (.cells #[.pointer (some ⟨10, 86, none⟩), .pointer (some ⟨w.heap.size, 0, none⟩), .int .u64 150] 116)).alloc (.cells #[.pointer (some ⟨10, 86, none⟩), .pointer (some ⟨w.heap.size, 0, none⟩), .int .u64 150] 116)) (by rw [World.cell?_alloc_lt _ _ ⟨w.heap.size, 0, none⟩ (by simp; omega)]; simp)
  have hBB : Below w.heap.size w ((((w.alloc (.cells #[.pointer (some ⟨tb, 0, none⟩)] 86)).alloc (.cells #[.pointer (some ⟨10, 86, none⟩), .pointer (some ⟨w.heap.size, 0, none⟩), .int .u64 150] 116)).alloc (.cells #[.pointer (some ⟨10, 86, none⟩), .pointer (some ⟨w.heap.size, 0, none⟩), .int .u64 150] 116)).alloc (.cells #[v0, v1] 49)) := below_alloc (below_alloc hBA _) _
  have htl : tb < w.heap.size := World.block_lt_of_cell? _ _ ht0
  have st := set49 tb (w.heap.size + 1 + 1 + 1) v0 v1 o0 o1 h0 h1 ((((w.alloc (.cells #[.pointer (some ⟨tb, 0, none⟩)] 86)).alloc (.cells #[.pointer (some ⟨10, 86, none⟩), .pointer (some ⟨w.heap.size, 0, none⟩), .int .u64 150] 116)).alloc (.cells #[.pointer (some ⟨10, 86, none⟩), .pointer (some ⟨w.heap.size, 0, none⟩), .int .u64 150] 116)).alloc (.cells #[v0, v1] 49))
    (by rw [World.cell?_alloc_at _ _ _ _ (by simp)]; rfl) (by rw [World.cell?_alloc_at _ _ _ _ (by simp)]; rfl)
    (cell_later hBB ht0) (cell_later hBB ht1)
    (by rw [World.frozen?_alloc_old _ _ _ (by simp; omega), World.frozen?_alloc_old _ _ _ (by simp; omega), World.frozen?_alloc_old _ _ _ (by simp; omega), World.frozen?_alloc_old _ _ _ (Nat.ne_of_lt htl)]; exact hf0)
    (by rw [World.frozen?_alloc_old _ _ _ (by simp; omega), World.frozen?_alloc_old _ _ _ (by simp; omega), World.frozen?_alloc_old _ _ _ (by simp; omega), World.frozen?_alloc_old _ _ _ (Nat.ne_of_lt htl)]; exact hf1)
  clear hW1 hB1 hBA hBB
  go_enter Tryz.func44, Tryz.ntmps44
  go_wp2
  refine wp_loop_rounds 1 ?_
  rw [rounds_succ]
  go_wp2
  go_ret
  exact ⟨rfl, rfl⟩
end As
end Go.Proofs.YthbdjmopolpjmaaGreatDoor.C
end
section
set_option linter.unusedVariables false
set_option linter.unusedSimpArgs false
namespace Go.Proofs.YthbdjmopolpjmaaGreatDoor.C
open Go.RowKit Go.Extern.Stop Go.Stop Go.Extern Go.Proofs.YthbdjmopolpjmaaGreatDoorW.PrintWords Go.Proofs.YthbdjmopolpjmaaGreatDoorW.PrintLast Go.Proofs.YthbdjmopolpjmaaGreatDoorW.PrintMore Go.Proofs.YthbdjmopolpjmaaGreatDoor.F Go.Proofs.YthbdjmopolpjmaaGreatDoor.M
namespace As
theorem typeOf347 (v : Value) (w : World) : (ReflectliteType.typeOf #[.iface 347 v]).run Tryz.prog w = .ok (.iface 182 (.agg #[.pointer (some ⟨10, 347, none⟩)])) w := by kernel_rfl
theorem comparable347 (w : World) : ((ReflectliteType.method fun t => do Rtype.noPackHeld "Comparable" t; (fun a => Value.bool a.comparable) <$> typeInfo t) #[.agg #[.pointer (some ⟨10, 347, none⟩)]]).run Tryz.prog w = .ok (.bool true) w := by kernel_rfl
theorem noIs49 (v : Value) (xT : TypeId) (w : World) : (Instr.typeAssert (.iface 49 v) xT 194 true).run Tryz.prog w = .ok (.tuple #[.nilIface, .bool false]) w := run_typeAssert_lacksB Tryz.underlying194 (by kernel_rfl) (by kernel_rfl) v xT w
theorem noIs83 (v : Value) (xT : TypeId) (w : World) : (Instr.typeAssert (.iface 83 v) xT 194 true).run Tryz.prog w = .ok (.tuple #[.nilIface, .bool false]) w := run_typeAssert_lacksB Tryz.underlying194 (by kernel_rfl) (by kernel_rfl) v xT w
theorem noAs49 (v : Value) (xT : TypeId) (w : World) : (Instr.typeAssert (.iface 49 v) xT 186 true).run Tryz.prog w = .ok (.tuple #[.nilIface, .bool false]) w := run_typeAssert_lacksB Tryz.underlying186 (by kernel_rfl) (by kernel_rfl) v xT w
theorem hasUnwrap49 (v : Value) (xT : TypeId) (w : World) : (Instr.typeAssert (.iface 49 v) xT 189 true).run Tryz.prog w = .ok (.tuple #[.iface 49 v, .bool true]) w := run_typeAssert_hasB Tryz.underlying189 (by kernel_rfl) v xT w
theorem noUnwrap83 (v : Value) (xT : TypeId) (w : World) : (Instr.typeAssert (.iface 83 v) xT 189 true).run Tryz.prog w = .ok (.tuple #[.nilIface, .bool false]) w := run_typeAssert_lacksB Tryz.underlying189 (by kernel_rfl) (by kernel_rfl) v xT w
theorem noUnwraps83 (v : Value) (xT : TypeId) (w : World) : (Instr.typeAssert (.iface 83 v) xT 191 true).run Tryz.prog w = .ok (.tuple #[.nilIface, .bool false]) w := run_typeAssert_lacksB Tryz.underlying191 (by kernel_rfl) (by kernel_rfl) v xT w
theorem methodUnwrap (v : Value) (w : World) : (Go.method 490 49 v "Unwrap").run Tryz.prog w = .ok (285, v) w := by kernel_rfl
set_option maxHeartbeats 8000000 in
set_option maxRecDepth 100000 in
theorem is_no (cd v1 : Value) (b : Addr) (w : World) :
    Calls Tryz.prog 45 #[.iface 49 (.agg #[.iface 83 (.agg #[cd]), v1]), .iface 347 (.pointer (some b))] w fun e w' => e = .returned (.bool false) ∧ Below w.heap.size w w' := by
  have x84 := @run_callFunc_extern Tryz.prog 84 _ ReflectliteType.typeOf Tryz.func84 (by kernel_rfl) (by kernel_rfl) (by kernel_rfl) (by kernel_rfl)
  have x294 := @run_callFunc_extern Tryz.prog 294 _ (ReflectliteType.method fun t => do Rtype.noPackHeld "Comparable" t; pure (.bool (← typeInfo t).comparable)) Tryz.func294 (by kernel_rfl) (by kernel_rfl) (by kernel_rfl) (by kernel_rfl)
  have y1 := typeOf347
  have y2 := comparable347
  have y3 := methodComparable
  have y4 := noIs49
  have y5 := noIs83
  have y6 := hasUnwrap49
  have y7 := noUnwrap83
  have y8 := noUnwraps83
  have y9 := methodUnwrap
  have q1 := run_eql_iface_types (P := Tryz.prog) 49 347 (.agg #[.iface 83 (.agg #[cd]), v1]) (.pointer (some b)) Tryz.underlying44 (by decide)
  have q2 := run_eql_iface_types (P := Tryz.prog) 83 347 (.agg #[cd]) (.pointer (some b)) Tryz.underlying44 (by decide)
  go_enter Tryz.func45, Tryz.ntmps45
  go_wp2
  refine wp_loop_rounds 2 ?_
  rw [rounds_succ]
  go_wp2
  rw [rounds_succ]
  go_wp2
  go_ret
  exact ⟨rfl, below_alloc (Below.refl _ _) _⟩
end As
end Go.Proofs.YthbdjmopolpjmaaGreatDoor.C
end
section
set_option linter.unusedVariables false
set_option linter.unusedSimpArgs false
namespace Go.Proofs.YthbdjmopolpjmaaGreatDoor.C
open Go.RowKit Go.Extern.Stop Go.Stop Go.Extern Go.Proofs.YthbdjmopolpjmaaGreatDoorW.PrintWords Go.Proofs.YthbdjmopolpjmaaGreatDoorW.PrintLast Go.Proofs.YthbdjmopolpjmaaGreatDoorW.PrintMore Go.Proofs.YthbdjmopolpjmaaGreatDoor.F Go.Proofs.YthbdjmopolpjmaaGreatDoor.M
namespace As
set_option maxHeartbeats 8000000 in
set_option maxRecDepth 100000 in
theorem as_hit83 (cd v1 o0 : Value) (tb : Nat) (h0 : cd.oneCell' = true) (w : World) (hg : w.cell? ⟨1, 0, none⟩ = some (.iface 182 (.agg #[.pointer (some ⟨10, 44, none⟩)]))) (ht0 : w.cell? ⟨tb, 0, none⟩ = some o0) (hf0 : w.frozen? ⟨tb, 0, none⟩ = false) :
    Calls Tryz.prog 44 #[.iface 49 (.agg #[.iface 83 (.agg #[cd]), v1]), .iface 88 (.pointer (some ⟨tb, 0, none⟩))] w fun ev w' => ev = .returned (.bool true) ∧ w' = (((((w.alloc (.cells #[.pointer (some ⟨tb, 0, none⟩)] 88)).alloc (.cells #[.pointer (some ⟨10, 88, none⟩), .pointer (some ⟨w.heap.size, 0, none⟩), .int .u64 150] 116)).alloc (.cells #[.pointer (some ⟨10, 88, none⟩), .pointer (some ⟨w.heap.size, 0, none⟩), .int .u64 150] 116)).alloc (.cells #[.iface 83 (.agg #[cd]), v1] 49)).alloc (.cells #[cd] 83)).setCell ⟨tb, 0, none⟩ cd := by
  have x80 := @run_callFunc_extern Tryz.prog 80 _ (fun args => ReflectliteValue.unpack (args.getD 0 (.tuple #[]))) Tryz.func80 (by kernel_rfl) (by kernel_rfl) (by kernel_rfl) (by kernel_rfl)
  have x81 := @run_callFunc_extern Tryz.prog 81 _ (ReflectliteValue.methodAny (ReflectliteValue.valueError "reflectlite.Value.Type" 0) (fun t _ _ _ => ReflectliteType.toType t)) Tryz.func81 (by kernel_rfl) (by kernel_rfl) (by kernel_rfl) (by kernel_rfl)
  have x82 := @run_callFunc_extern Tryz.prog 82 _ (ReflectliteValue.method (ReflectliteValue.valueError "reflectlite.Value.IsNil" 0) ReflectliteValue.isNil) Tryz.func82 (by kernel_rfl) (by kernel_rfl) (by kernel_rfl) (by kernel_rfl)
  have x281 := @run_callFunc_extern Tryz.prog 281 _ (ReflectliteType.abiMethod fun t => do pure (.int .u8 (← Rtype.kind t))) Tryz.func281 (by kernel_rfl) (by kernel_rfl) (by kernel_rfl) (by kernel_rfl)
  have x295 := @run_callFunc_extern Tryz.prog 295 _ (ReflectliteType.method ReflectliteType.elem) Tryz.func295 (by kernel_rfl) (by kernel_rfl) (by kernel_rfl) (by kernel_rfl)
  have x296 := @run_callFunc_extern Tryz.prog 296 _ (ReflectliteType.relation "Implements" ReflectliteType.implements_) Tryz.func296 (by kernel_rfl) (by kernel_rfl) (by kernel_rfl) (by kernel_rfl)
  have x84 := @run_callFunc_extern Tryz.prog 84 _ ReflectliteType.typeOf Tryz.func84 (by kernel_rfl) (by kernel_rfl) (by kernel_rfl) (by kernel_rfl)
  have x293 := @run_callFunc_extern Tryz.prog 293 _ (ReflectliteType.relation "AssignableTo" ReflectliteType.assignableTo) Tryz.func293 (by kernel_rfl) (by kernel_rfl) (by kernel_rfl) (by kernel_rfl)
  have x119 := @run_callFunc_extern Tryz.prog 119 _ (ReflectliteValue.method (ReflectliteValue.valueError "reflectlite.Value.Elem" 0) ReflectliteValue.elem) Tryz.func119 (by kernel_rfl) (by kernel_rfl) (by kernel_rfl) (by kernel_rfl)
  have x120 := @run_callFunc_extern Tryz.prog 120 _ ReflectliteValue.set Tryz.func120 (by kernel_rfl) (by kernel_rfl) (by kernel_rfl) (by kernel_rfl)
  have y1 := typeOf49
  have z1 := typeOf83
  have y2 := methodAssignableTo
  have y3 := assignable49_83
  have z3 := assignable83_83
  have y4 := valueOf83
  have y5 := valueOf88
  have y6 := type88
  have y7 := methodKind
  have y8 := methodElem
  have y9 := methodImplements
  have y10 := kind88
  have y11 := kind83
  have y12 := elem88
  have y13 := implements83
  have y14 := noAs49
  have y15 := hasUnwrap49
  have y16 := methodUnwrap
  have n8 := isNil88 ⟨w.heap.size, 0, none⟩ ⟨tb, 0, none⟩ ((w.alloc (.cells #[.pointer (some ⟨tb, 0, none⟩)] 88)).alloc (.cells #[.pointer (some ⟨10, 88, none⟩), .pointer (some ⟨w.heap.size, 0, none⟩), .int .u64 150] 116)) (by simp)
  have hBA : Below w.heap.size w ((w.alloc (.cells #[.pointer (some ⟨tb, 0, none⟩)] 88)).alloc (.cells #[.pointer (some ⟨10, 88, none⟩), .pointer (some ⟨w.heap.size, 0, none⟩), .int .u64 150] 116)) := below_alloc (below_alloc (Below.refl _ _) _) _
  have hg2 := cell_later hBA hg
  have el := elemV88 ⟨w.heap.size, 0, none⟩ ⟨tb, 0, none⟩ ((((w.alloc (.cells #[.pointer (some ⟨tb, 0, none⟩)] 88)).alloc (.cells #[.pointer (some ⟨10, 88, none⟩), .pointer (some ⟨w.heap.size, 0, none⟩), .int .u64 150] 116)).alloc (.cells #[.pointer (some ⟨10, 88, none⟩), .pointer (some ⟨w.heap.size, 0, none⟩), .int .u64 150] 116)).alloc (.cells #[.iface 83 (.agg #[cd]), v1] 49)) (by rw [World.cell?_alloc_lt _ _ ⟨w.heap.size, 0, none⟩ (by simp; omega), World.cell?_alloc_lt _ _ ⟨w.heap.size, 0, none⟩ (by simp; omega)]; simp)
  have hBB : Below w.heap.size w (((((w.alloc (.cells #[.pointer (some ⟨tb, 0, none⟩)] 88)).alloc (.cells #[.pointer (some ⟨10, 88, none⟩), .pointer (some ⟨w.heap.size, 0, none⟩), .int .u64 150] 116)).alloc (.cells #[.pointer (some ⟨10, 88, none⟩), .pointer (some ⟨w.heap.size, 0, none⟩), .int .u64 150] 116)).alloc (.cells #[.iface 83 (.agg #[cd]), v1] 49)).alloc (.cells #[cd] 83)) := below_alloc (below_alloc (below_alloc hBA _) _) _
  have htl : tb < w.heap.size := World.block_lt_of_cell? _ _ ht0
  have st := set83 tb (w.heap.size + 1 + 1 + 1 + 1) cd o0 h0 (((((w.alloc (.cells #[.pointer (some ⟨tb, 0, none⟩)] 88)).alloc (.cells #[.pointer (some ⟨10, 88, none⟩), .pointer (some ⟨w.heap.size, 0, none⟩), .int .u64 150] 116)).alloc (.cells #[.pointer (some ⟨10, 88, none⟩), .pointer (some ⟨w.heap.size, 0, none⟩), .int .u64 150] 116)).alloc (.cells #[.iface 83 (.agg #[cd]), v1] 49)).alloc (.cells #[cd] 83))
    (by rw [World.cell?_alloc_at _ _ _ _ (by simp)]; rfl)
    (cell_later hBB ht0)
    (by rw [World.frozen?_alloc_old _ _ _ (by simp; omega), World.frozen?_alloc_old _ _ _ (by simp; omega), World.frozen?_alloc_old _ _ _ (by simp; omega), World.frozen?_alloc_old _ _ _ (by simp; omega), World.frozen?_alloc_old _ _ _ (Nat.ne_of_lt htl)]; exact hf0)
  clear hBA hBB
  go_enter Tryz.func44, Tryz.ntmps44
  go_wp2
  refine wp_loop_rounds 2 ?_
  rw [rounds_succ]
  go_wp2
  rw [rounds_succ]
  go_wp2
  go_ret
  exact ⟨rfl, rfl⟩
end As
end Go.Proofs.YthbdjmopolpjmaaGreatDoor.C
end
section
set_option linter.unusedVariables false
set_option linter.unusedSimpArgs false
namespace Go.Proofs.YthbdjmopolpjmaaGreatDoor.C
open Go.RowKit Go.Proofs.YthbdjmopolpjmaaGreatDoorW.PrintWords Go.Proofs.YthbdjmopolpjmaaGreatDoorW.PrintLast Go.Proofs.YthbdjmopolpjmaaGreatDoorW.PrintMore Go.Proofs.YthbdjmopolpjmaaGreatDoor.F Go.Proofs.YthbdjmopolpjmaaGreatDoor.M
def Glob (w : World) : Prop := (∃ b, w.cell? ⟨0, 0, none⟩ = some (.iface 347 (.pointer (some b)))) ∧ w.cell? ⟨1, 0, none⟩ = some (.iface 182 (.agg #[.pointer (some ⟨10, 44, none⟩)]))
theorem Glob.below {w w1 : World} (h : Glob w) (hb : Below w.heap.size w w1) : Glob w1 := by
  obtain ⟨⟨b, h0⟩, h1⟩ := h
  exact ⟨⟨b, cell_later hb h0⟩, cell_later hb h1⟩
theorem as49_call (v0 v1 : Value) (w0 w : World) (h0 : v0.oneCell' = true) (h1 : v1.oneCell' = true) (hw : w = w0.alloc (.cells #[.nilIface, .int .i64 0] 49)) (hg : Glob w0) :
    Calls Tryz.prog 44 #[.iface 49 (.agg #[v0, v1]), .iface 86 (.pointer (some ⟨w0.heap.size, 0, none⟩))] w fun e w' => e = .returned (.bool true) ∧ w'.cell? ⟨w0.heap.size, 1, none⟩ = some v1 ∧ Below w0.heap.size w0 w' := by
  subst hw
  have hb : Below w0.heap.size w0 (w0.alloc (.cells #[.nilIface, .int .i64 0] 49)) := below_alloc (Below.refl _ _) _
  refine (As.as_hit49 v0 v1 .nilIface (.int .i64 0) w0.heap.size h0 h1 _ (hg.below hb).2 (by simp) (by simp) (by simp) (by simp)).mono fun e w' ⟨he, hw⟩ => ⟨he, ?_, ?_⟩
  · subst hw
    have key : ∀ X : World, Below (w0.alloc (.cells #[.nilIface, .int .i64 0] 49)).heap.size (w0.alloc (.cells #[.nilIface, .int .i64 0] 49)) X → ((X.setCell ⟨w0.heap.size, 0, none⟩ v0).setCell ⟨w0.heap.size, 1, none⟩ v1).cell? ⟨w0.heap.size, 1, none⟩ = some v1 := by
      intro X hX
      have h2 := (hX.block w0.heap.size (by simp)).trans (blk_new w0 _)
      have h3 := blk_set (blk_set h2 0 v0) 1 v1
      exact (blk_cell h3 1).trans (by simp)
    exact key _ (below_alloc (below_alloc (below_alloc (below_alloc (Below.refl _ _) _) _) _) _)
  · subst hw
    refine Below.setCell (p := ⟨w0.heap.size, 1, none⟩) (Below.setCell (p := ⟨w0.heap.size, 0, none⟩) ?_ (Nat.le_refl _) _) (Nat.le_refl _) _
    exact below_alloc (below_alloc (below_alloc (below_alloc hb _) _) _) _
theorem as83_call (cd v1 : Value) (w0 w : World) (h0 : cd.oneCell' = true) (hw : w = w0.alloc (.cells #[.int .i64 0] 83)) (hg : Glob w0) :
    Calls Tryz.prog 44 #[.iface 49 (.agg #[.iface 83 (.agg #[cd]), v1]), .iface 88 (.pointer (some ⟨w0.heap.size, 0, none⟩))] w fun e w' => e = .returned (.bool true) ∧ w'.cell? ⟨w0.heap.size, 0, none⟩ = some cd ∧ Below w0.heap.size w0 w' := by
  subst hw
  have hb : Below w0.heap.size w0 (w0.alloc (.cells #[.int .i64 0] 83)) := below_alloc (Below.refl _ _) _
  refine (As.as_hit83 cd v1 (.int .i64 0) w0.heap.size h0 _ (hg.below hb).2 (by simp) (by simp)).mono fun e w' ⟨he, hw⟩ => ⟨he, ?_, ?_⟩
  · subst hw
    have key : ∀ X : World, Below (w0.alloc (.cells #[.int .i64 0] 83)).heap.size (w0.alloc (.cells #[.int .i64 0] 83)) X → (X.setCell ⟨w0.heap.size, 0, none⟩ cd).cell? ⟨w0.heap.size, 0, none⟩ = some cd := by
      intro X hX
      have h2 := (hX.block w0.heap.size (by simp)).trans (blk_new w0 _)
      exact (blk_cell (blk_set h2 0 cd) 0).trans (by simp)
    exact key _ (below_alloc (below_alloc (below_alloc (below_alloc (below_alloc (Below.refl _ _) _) _) _) _) _)
  · subst hw
    refine Below.setCell (p := ⟨w0.heap.size, 0, none⟩) ?_ (Nat.le_refl _) _
    exact below_alloc (below_alloc (below_alloc (below_alloc (below_alloc hb _) _) _) _) _
end Go.Proofs.YthbdjmopolpjmaaGreatDoor.C
end
section
set_option linter.unusedVariables false
set_option linter.unusedSimpArgs false
namespace Go.Proofs.YthbdjmopolpjmaaGreatDoor.C
open Go.RowKit Go.Proofs.YthbdjmopolpjmaaGreatDoorW.PrintWords Go.Proofs.YthbdjmopolpjmaaGreatDoorW.PrintLast Go.Proofs.YthbdjmopolpjmaaGreatDoorW.PrintMore Go.Proofs.YthbdjmopolpjmaaGreatDoor.F Go.Proofs.YthbdjmopolpjmaaGreatDoor.M
set_option maxHeartbeats 2000000 in
set_option maxRecDepth 100000 in
theorem told_call (n at_ : Int) (w : World) (hg : Glob w) :
    Calls Tryz.prog 21 #[.iface 49 (.agg #[.iface 83 (.agg #[.int .i64 n]), .int .i64 at_])] w fun e w' => e = .returned (.tuple #[.int .i64 n, .int .i64 at_]) ∧ Below w.heap.size w w' := by
  have HG := Aside0.mk hg
  clear hg
  go_enter Tryz.func21, Tryz.ntmps21
  go_wp2_with fail
  refine (as49_call (.iface 83 (.agg #[.int .i64 n])) (.int .i64 at_) w _ rfl rfl rfl HG.out).mono ?_
  rintro e w1 ⟨rfl, h1, h2⟩
  obtain ⟨b, hE⟩ := (HG.out.below h2).1
  have H1 := Aside0.mk h2
  clear h2
  go_wp2_with fail
  refine (As.is_no (.int .i64 n) (.int .i64 at_) b _).mono ?_
  rintro e w2 ⟨rfl, h3⟩
  have H2 := Aside0.mk (below_then H1.out H1.out.size h3)
  clear h3 hE h1
  go_wp2_with fail
  refine (as83_call (.int .i64 n) (.int .i64 at_) w2 _ rfl rfl (HG.out.below H2.out)).mono ?_
  rintro e w3 ⟨rfl, h4, h5⟩
  have H3 := Aside0.mk (below_then H2.out H2.out.size h5)
  clear h5
  go_wp2_with fail
  go_ret2
  exact ⟨rfl, H3.out⟩
end Go.Proofs.YthbdjmopolpjmaaGreatDoor.C
end
section
set_option linter.unusedVariables false
set_option linter.unusedSimpArgs false
namespace Go.Proofs.YthbdjmopolpjmaaGreatDoor.C
open Go.RowKit Go.Proofs.YthbdjmopolpjmaaGreatDoorW.PrintWords Go.Proofs.YthbdjmopolpjmaaGreatDoorW.PrintLast Go.Proofs.YthbdjmopolpjmaaGreatDoorW.PrintMore Go.Proofs.YthbdjmopolpjmaaGreatDoor.F Go.Proofs.YthbdjmopolpjmaaGreatDoor.M
def Pow (w : World) : Prop := Lib.TabIs Tryz.prog w "internal/strconv.uint64pow10" .u64 Lib.pow10Tab
theorem Pow.below {w w1 : World} (h : Pow w) (hb : Below w.heap.size w w1) : Pow w1 := Lib.tabBelow_of_tabIs h w1 hb
theorem itoa_call (n : Int) (w : World) (h : Pow w) (h0 : -9223372036854775808 ≤ n) (h1 : n ≤ 9223372036854775807) : Calls Tryz.prog 31 #[.int .i64 n] w fun e w' => e = .returned (.string ⟨(Lib.itoa n).toArray⟩) ∧ Below w.heap.size w w' :=
  (Tryz.strconv_Itoa n h0 h1 w h).mono fun e w' ⟨he, k, os, hw⟩ => ⟨he, hw ▸ Lib.below_grow w.heap.size w (Nat.le_refl _) k os⟩
structure Fits (x : S41) : Prop where
  ok : canI x = 0
  s1 : x.f1.size ≤ 1048576
  s4 : x.f4.size ≤ 1048576
theorem Fits.bounds {x : S41} (h : Fits x) : Bounds x := Classical.byContradiction fun hb => by have := h.ok; rw [canI_bounds hb] at this; exact absurd this (by decide)
theorem Fits.rat {x : S41} (h : Fits x) : RatR x.f2.f0 x.f2.f1 ∧ RatR x.f3.f0 x.f3.f1 := Classical.byContradiction fun hb => by have := h.ok; rw [canI_right h.bounds hb] at this; exact absurd this (by decide)
set_option maxRecDepth 100000 in
set_option maxHeartbeats 1000000 in
theorem f46_call (x : S41) (A : Option Addr) (c : Nat) (w : World) (hf : Fits x) (hp : Pow w) : Calls Tryz.prog 46 #[EV x A c] w fun e w' => e = .returned (.string (⟨(Lib.itoa x.f0).toArray⟩)) ∧ Below w.heap.size w w' := by
  have HB := Aside0.mk (below_alloc (Below.refl w.heap.size w) (.cells #[.int .i64 x.f0, .string x.f1, .string x.f2.f0, .string x.f2.f1, .string x.f3.f0, .string x.f3.f1, .string x.f4, .int .i64 x.f5, .slice A x.f6.length c, .int .i64 x.f7, .bool x.f8] 55))
  have HF := Aside0.mk hf
  have HP := Aside0.mk hp
  clear hf hp
  go_enter Tryz.func46, Tryz.ntmps46
  unfold EV
  go_wp2_with fail
  refine (itoa_call x.f0 _ (HP.out.below HB.out) (by have := HF.out.bounds; unfold Bounds at this; omega) (by have := HF.out.bounds; unfold Bounds at this; omega)).mono ?_
  rintro e w1 ⟨rfl, hb⟩
  have H1 := Aside0.mk (below_then HB.out (by simp) hb)
  clear hb
  go_wp2_with fail
  go_ret
  exact ⟨rfl, H1.out⟩
set_option maxRecDepth 100000 in
set_option maxHeartbeats 1000000 in
theorem f47_call (x : S41) (A : Option Addr) (c : Nat) (w : World) (hf : Fits x) (hp : Pow w) : Calls Tryz.prog 47 #[EV x A c] w fun e w' => e = .returned (.string (⟨(Lib.itoa x.f7).toArray⟩)) ∧ Below w.heap.size w w' := by
  have HB := Aside0.mk (below_alloc (Below.refl w.heap.size w) (.cells #[.int .i64 x.f0, .string x.f1, .string x.f2.f0, .string x.f2.f1, .string x.f3.f0, .string x.f3.f1, .string x.f4, .int .i64 x.f5, .slice A x.f6.length c, .int .i64 x.f7, .bool x.f8] 55))
  have HF := Aside0.mk hf
  have HP := Aside0.mk hp
  clear hf hp
  go_enter Tryz.func47, Tryz.ntmps47
  unfold EV
  go_wp2_with fail
  refine (itoa_call x.f7 _ (HP.out.below HB.out) (by have := HF.out.bounds; unfold Bounds at this; omega) (by have := HF.out.bounds; unfold Bounds at this; omega)).mono ?_
  rintro e w1 ⟨rfl, hb⟩
  have H1 := Aside0.mk (below_then HB.out (by simp) hb)
  clear hb
  go_wp2_with fail
  go_ret
  exact ⟨rfl, H1.out⟩
set_option maxRecDepth 100000 in
set_option maxHeartbeats 1000000 in
theorem f48_call (x : S41) (A : Option Addr) (c : Nat) (w : World) (hf : Fits x) (hp : Pow w) : Calls Tryz.prog 48 #[EV x A c] w fun e w' => e = .returned (.string (⟨(Lib.itoa x.f5).toArray⟩)) ∧ Below w.heap.size w w' := by
  have HB := Aside0.mk (below_alloc (Below.refl w.heap.size w) (.cells #[.int .i64 x.f0, .string x.f1, .string x.f2.f0, .string x.f2.f1, .string x.f3.f0, .string x.f3.f1, .string x.f4, .int .i64 x.f5, .slice A x.f6.length c, .int .i64 x.f7, .bool x.f8] 55))
  have HF := Aside0.mk hf
  have HP := Aside0.mk hp
  clear hf hp
  go_enter Tryz.func48, Tryz.ntmps48
  unfold EV
  go_wp2_with fail
  refine (itoa_call x.f5 _ (HP.out.below HB.out) (by have := HF.out.bounds; unfold Bounds at this; omega) (by have := HF.out.bounds; unfold Bounds at this; omega)).mono ?_
  rintro e w1 ⟨rfl, hb⟩
  have H1 := Aside0.mk (below_then HB.out (by simp) hb)
  clear hb
  go_wp2_with fail
  go_ret
  exact ⟨rfl, H1.out⟩
set_option maxRecDepth 100000 in
set_option maxHeartbeats 1000000 in
theorem f49_call (x : S41) (A : Option Addr) (c : Nat) (w : World) (hf : Fits x) (hp : Pow w) : Calls Tryz.prog 49 #[EV x A c] w fun e w' => e = .returned (.string ⟨(if x.f8 then #[120] else #[43])⟩) ∧ Below w.heap.size w w' := by
  have HB := Aside0.mk (below_alloc (Below.refl w.heap.size w) (.cells #[.int .i64 x.f0, .string x.f1, .string x.f2.f0, .string x.f2.f1, .string x.f3.f0, .string x.f3.f1, .string x.f4, .int .i64 x.f5, .slice A x.f6.length c, .int .i64 x.f7, .bool x.f8] 55))
  clear hf hp
  cases hb : x.f8 with
  | false =>
    rw [hb] at HB
    go_enter Tryz.func49, Tryz.ntmps49
    unfold EV
    rw [hb]
    clear hb
    go_wp2_with fail
    go_ret
    exact ⟨rfl, HB.out⟩
  | true =>
    rw [hb] at HB
    go_enter Tryz.func49, Tryz.ntmps49
    unfold EV
    rw [hb]
    clear hb
    go_wp2_with fail
    go_ret
    exact ⟨rfl, HB.out⟩
set_option maxRecDepth 100000 in
set_option maxHeartbeats 1000000 in
theorem f50_call (x : S41) (A : Option Addr) (c : Nat) (w : World) (hf : Fits x) (hp : Pow w) : Calls Tryz.prog 50 #[EV x A c] w fun e w' => e = .returned (.string (esc x.f1)) ∧ Below w.heap.size w w' := by
  have HB := Aside0.mk (below_alloc (Below.refl w.heap.size w) (.cells #[.int .i64 x.f0, .string x.f1, .string x.f2.f0, .string x.f2.f1, .string x.f3.f0, .string x.f3.f1, .string x.f4, .int .i64 x.f5, .slice A x.f6.length c, .int .i64 x.f7, .bool x.f8] 55))
  have HF := Aside0.mk hf
  have HP := Aside0.mk hp
  clear hf hp
  go_enter Tryz.func50, Tryz.ntmps50
  unfold EV
  go_wp2_with fail
  refine (shielded_call x.f1 _ (by have := HF.out.s1; omega)).mono ?_
  rintro e w1 ⟨rfl, hb⟩
  have H1 := Aside0.mk (below_then HB.out (by simp) hb)
  clear hb
  go_wp2_with fail
  go_ret
  exact ⟨rfl, H1.out⟩
set_option maxRecDepth 100000 in
set_option maxHeartbeats 1000000 in
theorem f51_call (x : S41) (A : Option Addr) (c : Nat) (w : World) (hf : Fits x) (hp : Pow w) : Calls Tryz.prog 51 #[EV x A c] w fun e w' => e = .returned (.string (ratT x.f2.f0 x.f2.f1)) ∧ Below w.heap.size w w' := by
  have HB := Aside0.mk (below_alloc (Below.refl w.heap.size w) (.cells #[.int .i64 x.f0, .string x.f1, .string x.f2.f0, .string x.f2.f1, .string x.f3.f0, .string x.f3.f1, .string x.f4, .int .i64 x.f5, .slice A x.f6.length c, .int .i64 x.f7, .bool x.f8] 55))
  have HF := Aside0.mk hf
  have HP := Aside0.mk hp
  clear hf hp
  go_enter Tryz.func51, Tryz.ntmps51
  unfold EV
  go_wp2_with fail
  refine (number_yes x.f2.f0 x.f2.f1 _ HF.out.rat.1).mono ?_
  rintro e w1 ⟨rfl, hb⟩
  have H1 := Aside0.mk (below_then HB.out (by simp) hb)
  clear hb
  go_wp2_with fail
  go_ret
  exact ⟨rfl, H1.out⟩
set_option maxRecDepth 100000 in
set_option maxHeartbeats 1000000 in
theorem f52_call (x : S41) (A : Option Addr) (c : Nat) (w : World) (hf : Fits x) (hp : Pow w) : Calls Tryz.prog 52 #[EV x A c] w fun e w' => e = .returned (.string (ratT x.f3.f0 x.f3.f1)) ∧ Below w.heap.size w w' := by
  have HB := Aside0.mk (below_alloc (Below.refl w.heap.size w) (.cells #[.int .i64 x.f0, .string x.f1, .string x.f2.f0, .string x.f2.f1, .string x.f3.f0, .string x.f3.f1, .string x.f4, .int .i64 x.f5, .slice A x.f6.length c, .int .i64 x.f7, .bool x.f8] 55))
  have HF := Aside0.mk hf
  have HP := Aside0.mk hp
  clear hf hp
  go_enter Tryz.func52, Tryz.ntmps52
  unfold EV
  go_wp2_with fail
  refine (number_yes x.f3.f0 x.f3.f1 _ HF.out.rat.2).mono ?_
  rintro e w1 ⟨rfl, hb⟩
  have H1 := Aside0.mk (below_then HB.out (by simp) hb)
  clear hb
  go_wp2_with fail
  go_ret
  exact ⟨rfl, H1.out⟩
set_option maxRecDepth 100000 in
set_option maxHeartbeats 1000000 in
theorem f53_call (x : S41) (A : Option Addr) (c : Nat) (w : World) (hf : Fits x) (hp : Pow w) : Calls Tryz.prog 53 #[EV x A c] w fun e w' => e = .returned (.string (esc x.f4)) ∧ Below w.heap.size w w' := by
  have HB := Aside0.mk (below_alloc (Below.refl w.heap.size w) (.cells #[.int .i64 x.f0, .string x.f1, .string x.f2.f0, .string x.f2.f1, .string x.f3.f0, .string x.f3.f1, .string x.f4, .int .i64 x.f5, .slice A x.f6.length c, .int .i64 x.f7, .bool x.f8] 55))
  have HF := Aside0.mk hf
  have HP := Aside0.mk hp
  clear hf hp
  go_enter Tryz.func53, Tryz.ntmps53
  unfold EV
  go_wp2_with fail
  refine (shielded_call x.f4 _ (by have := HF.out.s4; omega)).mono ?_
  rintro e w1 ⟨rfl, hb⟩
  have H1 := Aside0.mk (below_then HB.out (by simp) hb)
  clear hb
  go_wp2_with fail
  go_ret
  exact ⟨rfl, H1.out⟩
end Go.Proofs.YthbdjmopolpjmaaGreatDoor.C
end
section
set_option linter.unusedVariables false
set_option linter.unusedSimpArgs false
namespace Go.Proofs.YthbdjmopolpjmaaGreatDoor.C
open Go.RowKit Go.Proofs.YthbdjmopolpjmaaGreatDoorW.PrintWords Go.Proofs.YthbdjmopolpjmaaGreatDoorW.PrintLast Go.Proofs.YthbdjmopolpjmaaGreatDoorW.PrintMore Go.Proofs.YthbdjmopolpjmaaGreatDoor.F Go.Proofs.YthbdjmopolpjmaaGreatDoor.M
def fns : Array Value := #[.func (.func 46) #[] #[], .func (.func 47) #[] #[], .func (.func 48) #[] #[], .func (.func 49) #[] #[], .func (.func 50) #[] #[], .func (.func 51) #[] #[], .func (.func 52) #[] #[], .func (.func 53) #[] #[]]
theorem writers_call (w : World) : Calls Tryz.prog 22 #[] w fun e w' => e = .returned (.slice (some ⟨w.heap.size, 0, none⟩) 8 8) ∧ w.alloc (.cells fns 53) = w' := by
  go_enter Tryz.func22, Tryz.ntmps22
  go_wp2_with fail
  go_ret
  exact ⟨rfl, rfl⟩
theorem row_head {w : World} {base : Nat} {ok : Nat → Prop} {v : Value} {ts : List ByteArray} (h : Kd.string.R 9 w base ok v ts) (hn : ts ≠ []) : ∃ g c, v = .slice (some ⟨g, 0, none⟩) ts.length c ∧ ts.length ≤ c ∧ g < w.heap.size ∧ ∀ (j : Nat) x, ts[j]? = some x → w.cell? ⟨g, 0 + j, none⟩ = some (.string x) := by
  have ho := Kd.own_of_R h
  rcases ho.2 with ⟨_, he⟩ | ⟨g, cap, cur, rfl, ht, hh, hl, hm, hx⟩
  · exact absurd (List.eq_nil_of_length_eq_zero he) hn
  · refine ⟨g, cap, rfl, by omega, blk_lt hh, fun j x hj => ?_⟩
    rw [Nat.zero_add, blk_cell hh j]
    obtain ⟨hjl, hjx⟩ := List.getElem?_eq_some_iff.1 hj
    have hx2 := hx.2
    have h1 : (cur.toList.take (ts.length * 1))[j]? = (encs Value.string ts)[j]? := by rw [← hx2]
    rw [List.getElem?_take] at h1
    simp [hjl, encs, hj] at h1
    rw [← hjx]
    simpa using h1
set_option maxHeartbeats 1000000 in
theorem joined_call (v : Value) (ts : List ByteArray) (base : Nat) (ok : Nat → Prop) (w : World) (hR : Kd.string.R 9 w base ok v ts) (hn : ts ≠ []) (hl : ts.length ≤ 140737488355328) (hb : (jnL ts).length ≤ 140737488355328) :
    Calls Tryz.prog 24 #[v] w fun e w' => e = .returned (.string (jn ts)) ∧ Below w.heap.size w w' := by
  obtain ⟨g, c, rfl, hc, hg, hcells⟩ := row_head hR hn
  have hlen : (Lib.join (ts.map (·.data.toList)) (⟨#[9]⟩ : ByteArray).data.toList).length ≤ 140737488355328 := by
    have h1 : (jnL ts).length = (jn ts).size := by rw [← bytesOf_jn, bytesOf_length]
    have h2 : (jn ts).size = (Lib.join (ts.map (·.data.toList)) [9]).length := by
      rw [← data_length]
      simp [jn]
    have h3 : (⟨#[9]⟩ : ByteArray).data.toList = [9] := rfl
    rw [h3, ← h2, ← h1]
    exact hb
  have HJ := Aside0.mk (Tryz.strings_Join g 0 c ts ⟨#[9]⟩ w hcells hg hl hc hlen)
  clear hcells hg hl hc hlen hR hb hn
  go_enter Tryz.func24, Tryz.ntmps24
  go_wp2_with fail
  refine HJ.out.mono ?_
  rintro e w1 ⟨rfl, hb⟩
  have HB := Aside0.mk hb
  clear hb
  go_wp2_with fail
  go_ret
  exact ⟨rfl, HB.out⟩
end Go.Proofs.YthbdjmopolpjmaaGreatDoor.C
end
