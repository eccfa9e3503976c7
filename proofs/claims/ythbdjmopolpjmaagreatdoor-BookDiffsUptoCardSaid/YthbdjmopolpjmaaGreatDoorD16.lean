/- Part 16 of the proof: CErr4, CErr5, CTold, CTold2, CPart, CJoin, MLine. -/
import Derived.Lib.AppendIntMem
import Derived.Test.YthbdjmopolpjmaaGreatDoorD00
import Derived.Test.YthbdjmopolpjmaaGreatDoorD01
import Derived.Test.YthbdjmopolpjmaaGreatDoorD02
import Derived.Test.YthbdjmopolpjmaaGreatDoorD03
import Derived.Test.YthbdjmopolpjmaaGreatDoorD04
import Derived.Test.YthbdjmopolpjmaaGreatDoorD05
import Derived.Test.YthbdjmopolpjmaaGreatDoorD06
import Derived.Test.YthbdjmopolpjmaaGreatDoorD07
import Derived.Test.YthbdjmopolpjmaaGreatDoorD08
import Derived.Test.YthbdjmopolpjmaaGreatDoorD09
import Derived.Test.YthbdjmopolpjmaaGreatDoorD10
import Derived.Test.YthbdjmopolpjmaaGreatDoorD11
import Derived.Test.YthbdjmopolpjmaaGreatDoorD12
import Derived.Test.YthbdjmopolpjmaaGreatDoorD13
import Derived.Test.YthbdjmopolpjmaaGreatDoorD14
import Derived.Test.YthbdjmopolpjmaaGreatDoorD15
section
set_option linter.unusedVariables false
set_option linter.unusedSimpArgs false
namespace Go.Proofs.YthbdjmopolpjmaaGreatDoor.C
open Go.RowKit Go.Extern.Stop Go.Stop Go.Extern Go.Proofs.YthbdjmopolpjmaaGreatDoorW.PrintWords Go.Proofs.YthbdjmopolpjmaaGreatDoorW.PrintLast Go.Proofs.YthbdjmopolpjmaaGreatDoorW.PrintMore Go.Proofs.YthbdjmopolpjmaaGreatDoor.F Go.Proofs.YthbdjmopolpjmaaGreatDoor.M
namespace As
theorem typeOf347 (v : Value) (w : World) : (ReflectliteType.typeOf #[.iface 347 v]).run Tryz.prog w = .ok (.iface 182 (.agg #[.pointer (some ⟨10, 347, none⟩)])) w := by kernel_rfl
theorem comparable347 (w : World) : ((ReflectliteType.method fun t => do Rtype.noPackHeld "Comparable" t; (fun a => Value.bool a.comparable) <$> typeInfo t) #[.agg #[.pointer (some ⟨10, 347, none⟩)]]).run Tryz.prog w = .ok (.bool true) w := by kernel_rfl
theorem noIs49 (v : Value) (xT : TypeId) (w : World) : (Instr.typeAssert (.iface 49 v) xT 194 true).run Tryz.prog w = .ok (.tuple #[.nilIface, .bool false]) w := run_typeAssert_lacksB Tryz.underlying194 (by kernel_rfl) (by kernel_rfl) v xT w
theorem noIs83 (v : Value) (xT : TypeId) (w : World) : (Instr.typeAssert (.iface 83 v) xT 194 true).run Tryz.prog w = .ok (.tuple #[.nilIface, .bool false]) w := run_typeAssert_lacksB Tryz.underlying194 (by kernel_rfl) (by kernel_rfl) v xT w
theorem noAs49 (v : Value) (xT : TypeId) (w : World) : (Instr.typeAssert (.iface 49 v) xT 186 true).run Tryz.prog w = .ok (.tuple #[.nilIface, .bool false]) w := run_typeAssert_lacksB Tryz.underlying186 (by kernel_rfl) (by kernel_rfl) v xT w
theorem hasUnwrap49 (v : Value) (xT : TypeId) (w : World) : (Instr.typeAssert (.iface 49 v) xT 189 true).run Tryz.prog w = .ok (.tuple #[.iface 49 v, .bool true]) w := run_typeAssert_hasB Tryz.underlying189 (by kernel_rfl) v xT w
theorem noUnwrap83 (v : Value) (xT : TypeId) (w : World) : (Instr.typeAssert (.iface 83 v) xT 189 true).run Tryz.prog w = .ok (.tuple #[.nilIface, .bool false]) w := run_typeAssert_lacksB Tryz.underlying189 (by kernel_rfl) (by kernel_rfl) v xT w
theorem noUnwraps83 (v : Value) (xT : TypeId) (w : World) : (Instr.typeAssert (.iface 83 v) xT 191 true).run Tryz.prog w = .ok (.tuple #[.nilIface, .bool false]) w := run_typeAssert_lacksB Tryz.underlying191 (by kernel_rfl) (by kernel_rfl) v xT w
theorem methodUnwrap (v : Value) (w : World) : (Go.method 490 49 v "Unwrap").run Tryz.prog w = .ok (285, v) w := by kernel_rfl
set_option maxHeartbeats 8000000 in
set_option maxRecDepth 100000 in
theorem is_no (cd v1 : Value) (b : Addr) (w : World) :
    Calls Tryz.prog 45 #[.iface 49 (.agg #[.iface 83 (.agg #[cd]), v1]), .iface 347 (.pointer (some b))] w fun e w' => e = .returned (.bool false) ∧ Below w.heap.size w w' := by
  have x84 := @run_callFunc_extern Tryz.prog 84 _ ReflectliteType.typeOf Tryz.func84 (by kernel_rfl) (by kernel_rfl) (by kernel_rfl) (by kernel_rfl)
  have x294 := @run_callFunc_extern Tryz.prog 294 _ (ReflectliteType.method fun t => do Rtype.noPackHeld "Comparable" t; pure (.bool (← typeInfo t).comparable)) Tryz.func294 (by kernel_rfl) (by kernel_rfl) (by kernel_rfl) (by kernel_rfl)
  have y1 := typeOf347
  have y2 := comparable347
  have y3 := methodComparable
  have y4 := noIs49
  have y5 := noIs83
  have y6 := hasUnwrap49
  have y7 := noUnwrap83
  have y8 := noUnwraps83
  have y9 := methodUnwrap
  have q1 := run_eql_iface_types (P := Tryz.prog) 49 347 (.agg #[.iface 83 (.agg #[cd]), v1]) (.pointer (some b)) Tryz.underlying44 (by decide)
  have q2 := run_eql_iface_types (P := Tryz.prog) 83 347 (.agg #[cd]) (.pointer (some b)) Tryz.underlying44 (by decide)
  go_enter Tryz.func45, Tryz.ntmps45
  go_wp2
  refine wp_loop_rounds 2 ?_
  rw [rounds_succ]
  go_wp2
  rw [rounds_succ]
  go_wp2
  go_ret
  exact ⟨rfl, below_alloc (Below.refl _ _) _⟩
end As
end Go.Proofs.YthbdjmopolpjmaaGreatDoor.C
end
section
set_option linter.unusedVariables false
set_option linter.unusedSimpArgs false
namespace Go.Proofs.YthbdjmopolpjmaaGreatDoor.C
open Go.RowKit Go.Extern.Stop Go.Stop Go.Extern Go.Proofs.YthbdjmopolpjmaaGreatDoorW.PrintWords Go.Proofs.YthbdjmopolpjmaaGreatDoorW.PrintLast Go.Proofs.YthbdjmopolpjmaaGreatDoorW.PrintMore Go.Proofs.YthbdjmopolpjmaaGreatDoor.F Go.Proofs.YthbdjmopolpjmaaGreatDoor.M
namespace As
set_option maxHeartbeats 8000000 in
set_option maxRecDepth 100000 in
theorem as_hit83 (cd v1 o0 : Value) (tb : Nat) (h0 : cd.oneCell' = true) (w : World) (hg : w.cell? ⟨1, 0, none⟩ = some (.iface 182 (.agg #[.pointer (some ⟨10, 44, none⟩)]))) (ht0 : w.cell? ⟨tb, 0, none⟩ = some o0) (hf0 : w.frozen? ⟨tb, 0, none⟩ = false) :
    Calls Tryz.prog 44 #[.iface 49 (.agg #[.iface 83 (.agg #[cd]), v1]), .iface 88 (.pointer (some ⟨tb, 0, none⟩))] w fun ev w' => ev = .returned (.bool true) ∧ w' = (((((w.alloc (.cells #[.pointer (some ⟨tb, 0, none⟩)] 88)).alloc (.cells #[.pointer (some ⟨10, 88, none⟩), .pointer (some ⟨w.heap.size, 0, none⟩), .int .u64 150] 116)).alloc (.cells #[.pointer (some ⟨10, 88, none⟩), .pointer (some ⟨w.heap.size, 0, none⟩), .int .u64 150] 116)).alloc (.cells #[.iface 83 (.agg #[cd]), v1] 49)).alloc (.cells #[cd] 83)).setCell ⟨tb, 0, none⟩ cd := by
  have x80 := @run_callFunc_extern Tryz.prog 80 _ (fun args => ReflectliteValue.unpack (args.getD 0 (.tuple #[]))) Tryz.func80 (by kernel_rfl) (by kernel_rfl) (by kernel_rfl) (by kernel_rfl)
  have x81 := @run_callFunc_extern Tryz.prog 81 _ (ReflectliteValue.methodAny (ReflectliteValue.valueError "reflectlite.Value.Type" 0) (fun t _ _ _ => ReflectliteType.toType t)) Tryz.func81 (by kernel_rfl) (by kernel_rfl) (by kernel_rfl) (by kernel_rfl)
  have x82 := @run_callFunc_extern Tryz.prog 82 _ (ReflectliteValue.method (ReflectliteValue.valueError "reflectlite.Value.IsNil" 0) ReflectliteValue.isNil) Tryz.func82 (by kernel_rfl) (by kernel_rfl) (by kernel_rfl) (by kernel_rfl)
  have x281 := @run_callFunc_extern Tryz.prog 281 _ (ReflectliteType.abiMethod fun t => do pure (.int .u8 (← Rtype.kind t))) Tryz.func281 (by kernel_rfl) (by kernel_rfl) (by kernel_rfl) (by kernel_rfl)
  have x295 := @run_callFunc_extern Tryz.prog 295 _ (ReflectliteType.method ReflectliteType.elem) Tryz.func295 (by kernel_rfl) (by kernel_rfl) (by kernel_rfl) (by kernel_rfl)
  have x296 := @run_callFunc_extern Tryz.prog 296 _ (ReflectliteType.relation "Implements" ReflectliteType.implements_) Tryz.func296 (by kernel_rfl) (by kernel_rfl) (by kernel_rfl) (by kernel_rfl)
  have x84 := @run_callFunc_extern Tryz.prog 84 _ ReflectliteType.typeOf Tryz.func84 (by kernel_rfl) (by kernel_rfl) (by kernel_rfl) (by kernel_rfl)
  have x293 := @run_callFunc_extern Tryz.prog 293 _ (ReflectliteType.relation "AssignableTo" ReflectliteType.assignableTo) Tryz.func293 (by kernel_rfl) (by kernel_rfl) (by kernel_rfl) (by kernel_rfl)
  have x119 := @run_callFunc_extern Tryz.prog 119 _ (ReflectliteValue.method (ReflectliteValue.valueError "reflectlite.Value.Elem" 0) ReflectliteValue.elem) Tryz.func119 (by kernel_rfl) (by kernel_rfl) (by kernel_rfl) (by kernel_rfl)
  have x120 := @run_callFunc_extern Tryz.prog 120 _ ReflectliteValue.set Tryz.func120 (by kernel_rfl) (by kernel_rfl) (by kernel_rfl) (by kernel_rfl)
  have y1 := typeOf49
  have z1 := typeOf83
  have y2 := methodAssignableTo
  have y3 := assignable49_83
  have z3 := assignable83_83
  have y4 := valueOf83
  have y5 := valueOf88
  have y6 := type88
  have y7 := methodKind
  have y8 := methodElem
  have y9 := methodImplements
  have y10 := kind88
  have y11 := kind83
  have y12 := elem88
  have y13 := implements83
  have y14 := noAs49
  have y15 := hasUnwrap49
  have y16 := methodUnwrap
  have n8 := isNil88 ⟨w.heap.size, 0, none⟩ ⟨tb, 0, none⟩ ((w.alloc (.cells #[.pointer (some ⟨tb, 0, none⟩)] 88)).alloc (.cells #[.pointer (some ⟨10, 88, none⟩), .pointer (some ⟨w.heap.size, 0, none⟩), .int .u64 150] 116)) (by simp)
  have hBA : Below w.heap.size w ((w.alloc (.cells #[.pointer (some ⟨tb, 0, none⟩)] 88)).alloc (.cells #[.pointer (some ⟨10, 88, none⟩), .pointer (some ⟨w.heap.size, 0, none⟩), .int .u64 150] 116)) := below_alloc (below_alloc (Below.refl _ _) _) _
  have hg2 := cell_later hBA hg
  have el := elemV88 ⟨w.heap.size, 0, none⟩ ⟨tb, 0, none⟩ ((((w.alloc (.cells #[.pointer (some ⟨tb, 0, none⟩)] 88)).alloc (.cells #[.pointer (some ⟨10, 88, none⟩), .pointer (some ⟨w.heap.size, 0, none⟩), .int .u64 150] 116)).alloc (.cells #[.pointer (some ⟨10, 88, none⟩), .pointer (some ⟨w.heap.size, 0, none⟩), .int .u64 150] 116)).alloc (.cells #[.iface 83 (.agg #[cd]), v1] 49)) (by rw [World.cell?_alloc_lt _ _ ⟨w.heap.size, 0, none⟩ (by simp; omega), World.cell?_alloc_lt _ _ ⟨w.heap.size, 0, none⟩ (by simp; omega)]; simp)
  have hBB : Below w.heap.size w (((((w.alloc (.cells #[.pointer (some ⟨tb, 0, none⟩)] 88)).alloc (.cells #[.pointer (some ⟨10, 88, none⟩), .pointer (some ⟨w.heap.size, 0, none⟩), .int .u64 150] 116)).alloc (.cells #[.pointer (some ⟨10, 88, none⟩), .pointer (some ⟨w.heap.size, 0, none⟩), .int .u64 150] 116)).alloc (.cells #[.iface 83 (.agg #[cd]), v1] 49)).alloc (.cells #[cd] 83)) := below_alloc (below_alloc (below_alloc hBA _) _) _
  have htl : tb < w.heap.size := World.block_lt_of_cell? _ _ ht0
  have st := set83 tb (w.heap.size + 1 + 1 + 1 + 1) cd o0 h0 (((((w.alloc (.cells #[.pointer (some ⟨tb, 0, none⟩)] 88)).alloc (.cells #[.pointer (some ⟨10, 88, none⟩), .pointer (some ⟨w.heap.size, 0, none⟩), .int .u64 150] 116)).alloc (.cells #[.pointer (some ⟨10, 88, none⟩), .pointer (some ⟨w.heap.size, 0, none⟩), .int .u64 150] 116)).alloc (.cells #[.iface 83 (.agg #[cd]), v1] 49)).alloc (.cells #[cd] 83))
    (by rw [World.cell?_alloc_at _ _ _ _ (by simp)]; rfl)
    (cell_later hBB ht0)
    (by rw [World.frozen?_alloc_old _ _ _ (by simp; omega), World.frozen?_alloc_old _ _ _ (by simp; omega), World.frozen?_alloc_old _ _ _ (by simp; omega), World.frozen?_alloc_old _ _ _ (by simp; omega), World.frozen?_alloc_old _ _ _ (Nat.ne_of_lt htl)]; exact hf0)
  clear hBA hBB
  go_enter Tryz.func44, Tryz.ntmps44
  go_wp2
  refine wp_loop_rounds 2 ?_
  rw [rounds_succ]
  go_wp2
  rw [rounds_succ]
  go_wp2
  go_ret
  exact ⟨rfl, rfl⟩
end As
end Go.Proofs.YthbdjmopolpjmaaGreatDoor.C
end
section
set_option linter.unusedVariables false
set_option linter.unusedSimpArgs false
namespace Go.Proofs.YthbdjmopolpjmaaGreatDoor.C
open Go.RowKit Go.Proofs.YthbdjmopolpjmaaGreatDoorW.PrintWords Go.Proofs.YthbdjmopolpjmaaGreatDoorW.PrintLast Go.Proofs.YthbdjmopolpjmaaGreatDoorW.PrintMore Go.Proofs.YthbdjmopolpjmaaGreatDoor.F Go.Proofs.YthbdjmopolpjmaaGreatDoor.M
def Glob (w : World) : Prop := (∃ b, w.cell? ⟨0, 0, none⟩ = some (.iface 347 (.pointer (some b)))) ∧ w.cell? ⟨1, 0, none⟩ = some (.iface 182 (.agg #[.pointer (some ⟨10, 44, none⟩)]))
theorem Glob.below {w w1 : World} (h : Glob w) (hb : Below w.heap.size w w1) : Glob w1 := by
  obtain ⟨⟨b, h0⟩, h1⟩ := h
  exact ⟨⟨b, cell_later hb h0⟩, cell_later hb h1⟩
theorem as49_call (v0 v1 : Value) (w0 w : World) (h0 : v0.oneCell' = true) (h1 : v1.oneCell' = true) (hw : w = w0.alloc (.cells #[.nilIface, .int .i64 0] 49)) (hg : Glob w0) :
    Calls Tryz.prog 44 #[.iface 49 (.agg #[v0, v1]), .iface 86 (.pointer (some ⟨w0.heap.size, 0, none⟩))] w fun e w' => e = .returned (.bool true) ∧ w'.cell? ⟨w0.heap.size, 1, none⟩ = some v1 ∧ Below w0.heap.size w0 w' := by
  subst hw
  have hb : Below w0.heap.size w0 (w0.alloc (.cells #[.nilIface, .int .i64 0] 49)) := below_alloc (Below.refl _ _) _
  refine (As.as_hit49 v0 v1 .nilIface (.int .i64 0) w0.heap.size h0 h1 _ (hg.below hb).2 (by simp) (by simp) (by simp) (by simp)).mono fun e w' ⟨he, hw⟩ => ⟨he, ?_, ?_⟩
  · subst hw
    have key : ∀ X : World, Below (w0.alloc (.cells #[.nilIface, .int .i64 0] 49)).heap.size (w0.alloc (.cells #[.nilIface, .int .i64 0] 49)) X → ((X.setCell ⟨w0.heap.size, 0, none⟩ v0).setCell ⟨w0.heap.size, 1, none⟩ v1).cell? ⟨w0.heap.size, 1, none⟩ = some v1 := by
      intro X hX
      have h2 := (hX.block w0.heap.size (by simp)).trans (blk_new w0 _)
      have h3 := blk_set (blk_set h2 0 v0) 1 v1
      exact (blk_cell h3 1).trans (by simp)
    exact key _ (below_alloc (below_alloc (below_alloc (below_alloc (Below.refl _ _) _) _) _) _)
  · subst hw
    refine Below.setCell (p := ⟨w0.heap.size, 1, none⟩) (Below.setCell (p := ⟨w0.heap.size, 0, none⟩) ?_ (Nat.le_refl _) _) (Nat.le_refl _) _
    exact below_alloc (below_alloc (below_alloc (below_alloc hb _) _) _) _
theorem as83_call (cd v1 : Value) (w0 w : World) (h0 : cd.oneCell' = true) (hw : w = w0.alloc (.cells #[.int .i64 0] 83)) (hg : Glob w0) :
    Calls Tryz.prog 44 #[.iface 49 (.agg #[.iface 83 (.agg #[cd]), v1]), .iface 88 (.pointer (some ⟨w0.heap.size, 0, none⟩))] w fun e w' => e = .returned (.bool true) ∧ w'.cell? ⟨w0.heap.size, 0, none⟩ = some cd ∧ Below w0.heap.size w0 w' := by
  subst hw
  have hb : Below w0.heap.size w0 (w0.alloc (.cells #[.int .i64 0] 83)) := below_alloc (Below.refl _ _) _
  refine (As.as_hit83 cd v1 (.int .i64 0) w0.heap.size h0 _ (hg.below hb).2 (by simp) (by simp)).mono fun e w' ⟨he, hw⟩ => ⟨he, ?_, ?_⟩
  · subst hw
    have key : ∀ X : World, Below (w0.alloc (.cells #[.int .i64 0] 83)).heap.size (w0.alloc (.cells #[.int .i64 0] 83)) X → (X.setCell ⟨w0.heap.size, 0, none⟩ cd).cell? ⟨w0.heap.size, 0, none⟩ = some cd := by
      intro X hX
      have h2 := (hX.block w0.heap.size (by simp)).trans (blk_new w0 _)
      exact (blk_cell (blk_set h2 0 cd) 0).trans (by simp)
    exact key _ (below_alloc (below_alloc (below_alloc (below_alloc (below_alloc (Below.refl _ _) _) _) _) _) _)
  · subst hw
    refine Below.setCell (p := ⟨w0.heap.size, 0, none⟩) ?_ (Nat.le_refl _) _
    exact below_alloc (below_alloc (below_alloc (below_alloc (below_alloc hb _) _) _) _) _
end Go.Proofs.YthbdjmopolpjmaaGreatDoor.C
end
section
set_option linter.unusedVariables false
set_option linter.unusedSimpArgs false
namespace Go.Proofs.YthbdjmopolpjmaaGreatDoor.C
open Go.RowKit Go.Proofs.YthbdjmopolpjmaaGreatDoorW.PrintWords Go.Proofs.YthbdjmopolpjmaaGreatDoorW.PrintLast Go.Proofs.YthbdjmopolpjmaaGreatDoorW.PrintMore Go.Proofs.YthbdjmopolpjmaaGreatDoor.F Go.Proofs.YthbdjmopolpjmaaGreatDoor.M
set_option maxHeartbeats 2000000 in
set_option maxRecDepth 100000 in
theorem told_call (n at_ : Int) (w : World) (hg : Glob w) :
    Calls Tryz.prog 21 #[.iface 49 (.agg #[.iface 83 (.agg #[.int .i64 n]), .int .i64 at_])] w fun e w' => e = .returned (.tuple #[.int .i64 n, .int .i64 at_]) ∧ Below w.heap.size w w' := by
  have HG := Aside0.mk hg
  clear hg
  go_enter Tryz.func21, Tryz.ntmps21
  go_wp2_with fail
  refine (as49_call (.iface 83 (.agg #[.int .i64 n])) (.int .i64 at_) w _ rfl rfl rfl HG.out).mono ?_
  rintro e w1 ⟨rfl, h1, h2⟩
  obtain ⟨b, hE⟩ := (HG.out.below h2).1
  have H1 := Aside0.mk h2
  clear h2
  go_wp2_with fail
  refine (As.is_no (.int .i64 n) (.int .i64 at_) b _).mono ?_
  rintro e w2 ⟨rfl, h3⟩
  have H2 := Aside0.mk (below_then H1.out H1.out.size h3)
  clear h3 hE h1
  go_wp2_with fail
  refine (as83_call (.int .i64 n) (.int .i64 at_) w2 _ rfl rfl (HG.out.below H2.out)).mono ?_
  rintro e w3 ⟨rfl, h4, h5⟩
  have H3 := Aside0.mk (below_then H2.out H2.out.size h5)
  clear h5
  go_wp2_with fail
  go_ret2
  exact ⟨rfl, H3.out⟩
end Go.Proofs.YthbdjmopolpjmaaGreatDoor.C
end
section
set_option linter.unusedVariables false
set_option linter.unusedSimpArgs false
namespace Go.Proofs.YthbdjmopolpjmaaGreatDoor.C
open Go.RowKit Go.Proofs.YthbdjmopolpjmaaGreatDoorW.PrintWords Go.Proofs.YthbdjmopolpjmaaGreatDoorW.PrintLast Go.Proofs.YthbdjmopolpjmaaGreatDoorW.PrintMore Go.Proofs.YthbdjmopolpjmaaGreatDoor.F Go.Proofs.YthbdjmopolpjmaaGreatDoor.M
def Pow (w : World) : Prop := Lib.TabIs Tryz.prog w "internal/strconv.uint64pow10" .u64 Lib.pow10Tab
theorem Pow.below {w w1 : World} (h : Pow w) (hb : Below w.heap.size w w1) : Pow w1 := Lib.tabBelow_of_tabIs h w1 hb
theorem itoa_call (n : Int) (w : World) (h : Pow w) (h0 : -9223372036854775808 ≤ n) (h1 : n ≤ 9223372036854775807) : Calls Tryz.prog 31 #[.int .i64 n] w fun e w' => e = .returned (.string ⟨(Lib.itoa n).toArray⟩) ∧ Below w.heap.size w w' :=
  (Tryz.strconv_Itoa n h0 h1 w h).mono fun e w' ⟨he, k, os, hw⟩ => ⟨he, hw ▸ Lib.below_grow w.heap.size w (Nat.le_refl _) k os⟩
structure Fits (x : S41) : Prop where
  ok : canI x = 0
  s1 : x.f1.size ≤ 1048576
  s4 : x.f4.size ≤ 1048576
theorem Fits.bounds {x : S41} (h : Fits x) : Bounds x := Classical.byContradiction fun hb => by have := h.ok; rw [canI_bounds hb] at this; exact absurd this (by decide)
theorem Fits.rat {x : S41} (h : Fits x) : RatR x.f2.f0 x.f2.f1 ∧ RatR x.f3.f0 x.f3.f1 := Classical.byContradiction fun hb => by have := h.ok; rw [canI_right h.bounds hb] at this; exact absurd this (by decide)
set_option maxRecDepth 100000 in
set_option maxHeartbeats 1000000 in
theorem f46_call (x : S41) (A : Option Addr) (c : Nat) (w : World) (hf : Fits x) (hp : Pow w) : Calls Tryz.prog 46 #[EV x A c] w fun e w' => e = .returned (.string (⟨(Lib.itoa x.f0).toArray⟩)) ∧ Below w.heap.size w w' := by
  have HB := Aside0.mk (below_alloc (Below.refl w.heap.size w) (.cells #[.int .i64 x.f0, .string x.f1, .string x.f2.f0, .string x.f2.f1, .string x.f3.f0, .string x.f3.f1, .string x.f4, .int .i64 x.f5, .slice A x.f6.length c, .int .i64 x.f7, .bool x.f8] 55))
  have HF := Aside0.mk hf
  have HP := Aside0.mk hp
  clear hf hp
  go_enter Tryz.func46, Tryz.ntmps46
  unfold EV
  go_wp2_with fail
  refine (itoa_call x.f0 _ (HP.out.below HB.out) (by have := HF.out.bounds; unfold Bounds at this; omega) (by have := HF.out.bounds; unfold Bounds at this; omega)).mono ?_
  rintro e w1 ⟨rfl, hb⟩
  have H1 := Aside0.mk (below_then HB.out (by simp) hb)
  clear hb
  go_wp2_with fail
  go_ret
  exact ⟨rfl, H1.out⟩
set_option maxRecDepth 100000 in
set_option maxHeartbeats 1000000 in
theorem f47_call (x : S41) (A : Option Addr) (c : Nat) (w : World) (hf : Fits x) (hp : Pow w) : Calls Tryz.prog 47 #[EV x A c] w fun e w' => e = .returned (.string (⟨(Lib.itoa x.f7).toArray⟩)) ∧ Below w.heap.size w w' := by
  have HB := Aside0.mk (below_alloc (Below.refl w.heap.size w) (.cells #[.int .i64 x.f0, .string x.f1, .string x.f2.f0, .string x.f2.f1, .string x.f3.f0, .string x.f3.f1, .string x.f4, .int .i64 x.f5, .slice A x.f6.length c, .int .i64 x.f7, .bool x.f8] 55))
  have HF := Aside0.mk hf
  have HP := Aside0.mk hp
  clear hf hp
  go_enter Tryz.func47, Tryz.ntmps47
  unfold EV
  go_wp2_with fail
  refine (itoa_call x.f7 _ (HP.out.below HB.out) (by have := HF.out.bounds; unfold Bounds at this; omega) (by have := HF.out.bounds; unfold Bounds at this; omega)).mono ?_
  rintro e w1 ⟨rfl, hb⟩
  have H1 := Aside0.mk (below_then HB.out (by simp) hb)
  clear hb
  go_wp2_with fail
  go_ret
  exact ⟨rfl, H1.out⟩
set_option maxRecDepth 100000 in
set_option maxHeartbeats 1000000 in
theorem f48_call (x : S41) (A : Option Addr) (c : Nat) (w : World) (hf : Fits x) (hp : Pow w) : Calls Tryz.prog 48 #[EV x A c] w fun e w' => e = .returned (.string (⟨(Lib.itoa x.f5).toArray⟩)) ∧ Below w.heap.size w w' := by
  have HB := Aside0.mk (below_alloc (Below.refl w.heap.size w) (.cells #[.int .i64 x.f0, .string x.f1, .string x.f2.f0, .string x.f2.f1, .string x.f3.f0, .string x.f3.f1, .string x.f4, .int .i64 x.f5, .slice A x.f6.length c, .int .i64 x.f7, .bool x.f8] 55))
  have HF := Aside0.mk hf
  have HP := Aside0.mk hp
  clear hf hp
  go_enter Tryz.func48, Tryz.ntmps48
  unfold EV
  go_wp2_with fail
  refine (itoa_call x.f5 _ (HP.out.below HB.out) (by have := HF.out.bounds; unfold Bounds at this; omega) (by have := HF.out.bounds; unfold Bounds at this; omega)).mono ?_
  rintro e w1 ⟨rfl, hb⟩
  have H1 := Aside0.mk (below_then HB.out (by simp) hb)
  clear hb
  go_wp2_with fail
  go_ret
  exact ⟨rfl, H1.out⟩
set_option maxRecDepth 100000 in
set_option maxHeartbeats 1000000 in
theorem f49_call (x : S41) (A : Option Addr) (c : Nat) (w : World) (hf : Fits x) (hp : Pow w) : Calls Tryz.prog 49 #[EV x A c] w fun e w' => e = .returned (.string ⟨(if x.f8 then #[120] else #[43])⟩) ∧ Below w.heap.size w w' := by
  have HB := Aside0.mk (below_alloc (Below.refl w.heap.size w) (.cells #[.int .i64 x.f0, .string x.f1, .string x.f2.f0, .string x.f2.f1, .string x.f3.f0, .string x.f3.f1, .string x.f4, .int .i64 x.f5, .slice A x.f6.length c, .int .i64 x.f7, .bool x.f8] 55))
  clear hf hp
  cases hb : x.f8 with
  | false =>
    rw [hb] at HB
    go_enter Tryz.func49, Tryz.ntmps49
    unfold EV
    rw [hb]
    clear hb
    go_wp2_with fail
    go_ret
    exact ⟨rfl, HB.out⟩
  | true =>
    rw [hb] at HB
    go_enter Tryz.func49, Tryz.ntmps49
    unfold EV
    rw [hb]
    clear hb
    go_wp2_with fail
    go_ret
    exact ⟨rfl, HB.out⟩
set_option maxRecDepth 100000 in
set_option maxHeartbeats 1000000 in
theorem f50_call (x : S41) (A : Option Addr) (c : Nat) (w : World) (hf : Fits x) (hp : Pow w) : Calls Tryz.prog 50 #[EV x A c] w fun e w' => e = .returned (.string (esc x.f1)) ∧ Below w.heap.size w w' := by
  have HB := Aside0.mk (below_alloc (Below.refl w.heap.size w) (.cells #[.int .i64 x.f0, .string x.f1, .string x.f2.f0, .string x.f2.f1, .string x.f3.f0, .string x.f3.f1, .string x.f4, .int .i64 x.f5, .slice A x.f6.length c, .int .i64 x.f7, .bool x.f8] 55))
  have HF := Aside0.mk hf
  have HP := Aside0.mk hp
  clear hf hp
  go_enter Tryz.func50, Tryz.ntmps50
  unfold EV
  go_wp2_with fail
  refine (shielded_call x.f1 _ (by have := HF.out.s1; omega)).mono ?_
  rintro e w1 ⟨rfl, hb⟩
  have H1 := Aside0.mk (below_then HB.out (by simp) hb)
  clear hb
  go_wp2_with fail
  go_ret
  exact ⟨rfl, H1.out⟩
set_option maxRecDepth 100000 in
set_option maxHeartbeats 1000000 in
theorem f51_call (x : S41) (A : Option Addr) (c : Nat) (w : World) (hf : Fits x) (hp : Pow w) : Calls Tryz.prog 51 #[EV x A c] w fun e w' => e = .returned (.string (ratT x.f2.f0 x.f2.f1)) ∧ Below w.heap.size w w' := by
  have HB := Aside0.mk (below_alloc (Below.refl w.heap.size w) (.cells #[.int .i64 x.f0, .string x.f1, .string x.f2.f0, .string x.f2.f1, .string x.f3.f0, .string x.f3.f1, .string x.f4, .int .i64 x.f5, .slice A x.f6.length c, .int .i64 x.f7, .bool x.f8] 55))
  have HF := Aside0.mk hf
  have HP := Aside0.mk hp
  clear hf hp
  go_enter Tryz.func51, Tryz.ntmps51
  unfold EV
  go_wp2_with fail
  refine (number_yes x.f2.f0 x.f2.f1 _ HF.out.rat.1).mono ?_
  rintro e w1 ⟨rfl, hb⟩
  have H1 := Aside0.mk (below_then HB.out (by simp) hb)
  clear hb
  go_wp2_with fail
  go_ret
  exact ⟨rfl, H1.out⟩
set_option maxRecDepth 100000 in
set_option maxHeartbeats 1000000 in
theorem f52_call (x : S41) (A : Option Addr) (c : Nat) (w : World) (hf : Fits x) (hp : Pow w) : Calls Tryz.prog 52 #[EV x A c] w fun e w' => e = .returned (.string (ratT x.f3.f0 x.f3.f1)) ∧ Below w.heap.size w w' := by
  have HB := Aside0.mk (below_alloc (Below.refl w.heap.size w) (.cells #[.int .i64 x.f0, .string x.f1, .string x.f2.f0, .string x.f2.f1, .string x.f3.f0, .string x.f3.f1, .string x.f4, .int .i64 x.f5, .slice A x.f6.length c, .int .i64 x.f7, .bool x.f8] 55))
  have HF := Aside0.mk hf
  have HP := Aside0.mk hp
  clear hf hp
  go_enter Tryz.func52, Tryz.ntmps52
  unfold EV
  go_wp2_with fail
  refine (number_yes x.f3.f0 x.f3.f1 _ HF.out.rat.2).mono ?_
  rintro e w1 ⟨rfl, hb⟩
  have H1 := Aside0.mk (below_then HB.out (by simp) hb)
  clear hb
  go_wp2_with fail
  go_ret
  exact ⟨rfl, H1.out⟩
set_option maxRecDepth 100000 in
set_option maxHeartbeats 1000000 in
theorem f53_call (x : S41) (A : Option Addr) (c : Nat) (w : World) (hf : Fits x) (hp : Pow w) : Calls Tryz.prog 53 #[EV x A c] w fun e w' => e = .returned (.string (esc x.f4)) ∧ Below w.heap.size w w' := by
  have HB := Aside0.mk (below_alloc (Below.refl w.heap.size w) (.cells #[.int .i64 x.f0, .string x.f1, .string x.f2.f0, .string x.f2.f1, .string x.f3.f0, .string x.f3.f1, .string x.f4, .int .i64 x.f5, .slice A x.f6.length c, .int .i64 x.f7, .bool x.f8] 55))
  have HF := Aside0.mk hf
  have HP := Aside0.mk hp
  clear hf hp
  go_enter Tryz.func53, Tryz.ntmps53
  unfold EV
  go_wp2_with fail
  refine (shielded_call x.f4 _ (by have := HF.out.s4; omega)).mono ?_
  rintro e w1 ⟨rfl, hb⟩
  have H1 := Aside0.mk (below_then HB.out (by simp) hb)
  clear hb
  go_wp2_with fail
  go_ret
  exact ⟨rfl, H1.out⟩
end Go.Proofs.YthbdjmopolpjmaaGreatDoor.C
end
section
set_option linter.unusedVariables false
set_option linter.unusedSimpArgs false
namespace Go.Proofs.YthbdjmopolpjmaaGreatDoor.C
open Go.RowKit Go.Proofs.YthbdjmopolpjmaaGreatDoorW.PrintWords Go.Proofs.YthbdjmopolpjmaaGreatDoorW.PrintLast Go.Proofs.YthbdjmopolpjmaaGreatDoorW.PrintMore Go.Proofs.YthbdjmopolpjmaaGreatDoor.F Go.Proofs.YthbdjmopolpjmaaGreatDoor.M
def fns : Array Value := #[.func (.func 46) #[] #[], .func (.func 47) #[] #[], .func (.func 48) #[] #[], .func (.func 49) #[] #[], .func (.func 50) #[] #[], .func (.func 51) #[] #[], .func (.func 52) #[] #[], .func (.func 53) #[] #[]]
theorem writers_call (w : World) : Calls Tryz.prog 22 #[] w fun e w' => e = .returned (.slice (some ⟨w.heap.size, 0, none⟩) 8 8) ∧ w.alloc (.cells fns 53) = w' := by
  go_enter Tryz.func22, Tryz.ntmps22
  go_wp2_with fail
  go_ret
  exact ⟨rfl, rfl⟩
theorem row_head {w : World} {base : Nat} {ok : Nat → Prop} {v : Value} {ts : List ByteArray} (h : Kd.string.R 9 w base ok v ts) (hn : ts ≠ []) : ∃ g c, v = .slice (some ⟨g, 0, none⟩) ts.length c ∧ ts.length ≤ c ∧ g < w.heap.size ∧ ∀ (j : Nat) x, ts[j]? = some x → w.cell? ⟨g, 0 + j, none⟩ = some (.string x) := by
  have ho := Kd.own_of_R h
  rcases ho.2 with ⟨_, he⟩ | ⟨g, cap, cur, rfl, ht, hh, hl, hm, hx⟩
  · exact absurd (List.eq_nil_of_length_eq_zero he) hn
  · refine ⟨g, cap, rfl, by omega, blk_lt hh, fun j x hj => ?_⟩
    rw [Nat.zero_add, blk_cell hh j]
    obtain ⟨hjl, hjx⟩ := List.getElem?_eq_some_iff.1 hj
    have hx2 := hx.2
    have h1 : (cur.toList.take (ts.length * 1))[j]? = (encs Value.string ts)[j]? := by rw [← hx2]
    rw [List.getElem?_take] at h1
    simp [hjl, encs, hj] at h1
    rw [← hjx]
    simpa using h1
set_option maxHeartbeats 1000000 in
theorem joined_call (v : Value) (ts : List ByteArray) (base : Nat) (ok : Nat → Prop) (w : World) (hR : Kd.string.R 9 w base ok v ts) (hn : ts ≠ []) (hl : ts.length ≤ 140737488355328) (hb : (jnL ts).length ≤ 140737488355328) :
    Calls Tryz.prog 24 #[v] w fun e w' => e = .returned (.string (jn ts)) ∧ Below w.heap.size w w' := by
  obtain ⟨g, c, rfl, hc, hg, hcells⟩ := row_head hR hn
  have hlen : (Lib.join (ts.map (·.data.toList)) (⟨#[9]⟩ : ByteArray).data.toList).length ≤ 140737488355328 := by
    have h1 : (jnL ts).length = (jn ts).size := by rw [← bytesOf_jn, bytesOf_length]
    have h2 : (jn ts).size = (Lib.join (ts.map (·.data.toList)) [9]).length := by
      rw [← data_length]
      simp [jn]
    have h3 : (⟨#[9]⟩ : ByteArray).data.toList = [9] := rfl
    rw [h3, ← h2, ← h1]
    exact hb
  have HJ := Aside0.mk (Tryz.strings_Join g 0 c ts ⟨#[9]⟩ w hcells hg hl hc hlen)
  clear hcells hg hl hc hlen hR hb hn
  go_enter Tryz.func24, Tryz.ntmps24
  go_wp2_with fail
  refine HJ.out.mono ?_
  rintro e w1 ⟨rfl, hb⟩
  have HB := Aside0.mk hb
  clear hb
  go_wp2_with fail
  go_ret
  exact ⟨rfl, HB.out⟩
end Go.Proofs.YthbdjmopolpjmaaGreatDoor.C
end
section
set_option linter.unusedVariables false
set_option linter.unusedSimpArgs false
namespace Go.Proofs.YthbdjmopolpjmaaGreatDoor.M
open Go.RowKit Go.Proofs.YthbdjmopolpjmaaGreatDoorW.PrintWords Go.Proofs.YthbdjmopolpjmaaGreatDoorW.PrintLast Go.Proofs.YthbdjmopolpjmaaGreatDoorW.PrintMore Go.Proofs.YthbdjmopolpjmaaGreatDoor.F Go.Proofs.YthbdjmopolpjmaaGreatDoor.C
theorem dec_len (u : Nat) : (Lib.decDigits u).length ≤ u + 1 := by
  induction u using Nat.strongRecOn with
  | ind u ih =>
    by_cases h : u < 10
    · rw [Lib.decDigits_one h]; simp
    · rw [Lib.decDigits, dif_neg h]
      have := ih (u / 10) (by omega)
      simp
      omega
theorem itoa_len {n : Int} (h0 : 0 ≤ n) (h1 : n ≤ 1000000) : (Lib.itoa n).length ≤ 1000001 := by
  unfold Lib.itoa
  rw [if_neg (by omega)]
  have := dec_len n.toNat
  omega
theorem itoa_size {n : Int} (h0 : 0 ≤ n) (h1 : n ≤ 1000000) : (⟨(Lib.itoa n).toArray⟩ : ByteArray).size ≤ 1000001 := by
  rw [← data_length]
  simpa using itoa_len h0 h1
theorem ratT_size {n d : ByteArray} (h : RatR n d) : (ratT n d).size ≤ 1300 := by
  have hs := h.sizes
  unfold ratT
  split
  · omega
  · simp only [ByteArray.size_append]
    have : (⟨#[47]⟩ : ByteArray).size = 1 := rfl
    omega
theorem jnL_len : ∀ (ts : List ByteArray) (b : Nat), (∀ t ∈ ts, t.size ≤ b) → (jnL ts).length ≤ ts.length * (b + 1)
  | [], _, _ => by simp [jnL]
  | t :: ts, b, h => by
    have h1 : ∀ (ts : List ByteArray), (∀ t ∈ ts, t.size ≤ b) → (ts.flatMap (fun t => 9 :: bytesOf t)).length ≤ ts.length * (b + 1) := by
      intro ts
      induction ts with
      | nil => intro _; simp
      | cons u ts ih =>
        intro h
        have h2 := ih (fun t ht => h t (List.mem_cons_of_mem _ ht))
        have h3 := h u List.mem_cons_self
        simp only [List.flatMap_cons, List.length_append, List.length_cons, bytesOf_length] at h2 ⊢
        rw [Nat.add_mul, Nat.one_mul]
        omega
    have h2 := h1 ts (fun t ht => h t (List.mem_cons_of_mem _ ht))
    have h3 := h t List.mem_cons_self
    simp only [jnL, List.length_append, List.length_cons, bytesOf_length]
    rw [Nat.add_mul, Nat.one_mul]
    omega
structure Small (x : S41) : Prop where
  s1 : x.f1.size ≤ 1048576
  s4 : x.f4.size ≤ 1048576
  s6 : ∀ t ∈ x.f6, t.size ≤ 1048576
noncomputable def eight (x : S41) : List ByteArray := [⟨(Lib.itoa x.f0).toArray⟩, ⟨(Lib.itoa x.f7).toArray⟩, ⟨(Lib.itoa x.f5).toArray⟩, ⟨(if x.f8 then #[120] else #[43])⟩, esc x.f1, ratT x.f2.f0 x.f2.f1, ratT x.f3.f0 x.f3.f1, esc x.f4]
theorem parts_eq (x : S41) : parts x = eight x ++ x.f6.map esc := rfl
theorem tags_le {x : S41} (h : canI x = 0) : x.f6.length ≤ 8 := by
  refine Classical.byContradiction fun hn => ?_
  have hb : Bounds x := Classical.byContradiction fun hb => by rw [canI_bounds hb] at h; exact absurd h (by decide)
  have hr : RatR x.f2.f0 x.f2.f1 ∧ RatR x.f3.f0 x.f3.f1 := Classical.byContradiction fun hr => by rw [canI_right hb hr] at h; exact absurd h (by decide)
  by_cases hm : minus x.f3.f0 = true
  · rw [canI_minus hb hr hm] at h; exact absurd h (by decide)
  · rw [canI_tags hb hr hm (by omega)] at h; exact absurd h (by decide)
theorem Small.fits {x : S41} (h : Small x) (h0 : canI x = 0) : Fits x := ⟨h0, h.s1, h.s4⟩
theorem part_size {x : S41} (h : Small x) (h0 : canI x = 0) : ∀ t ∈ parts x, t.size ≤ 2097152 := by
  have hf := h.fits h0
  have hb := hf.bounds
  unfold Bounds at hb
  have hr := hf.rat
  intro t ht
  rw [parts_eq] at ht
  rcases List.mem_append.1 ht with ht | ht
  · simp only [eight, List.mem_cons, List.not_mem_nil, or_false] at ht
    have e1 := esc_size x.f1
    have e4 := esc_size x.f4
    have := h.s1
    have := h.s4
    have i0 := itoa_size (n := x.f0) (by omega) (by omega)
    have i7 := itoa_size (n := x.f7) (by omega) (by omega)
    have i5 := itoa_size (n := x.f5) (by omega) (by omega)
    have r2 := ratT_size hr.1
    have r3 := ratT_size hr.2
    rcases ht with rfl | rfl | rfl | rfl | rfl | rfl | rfl | rfl
    · omega
    · omega
    · omega
    · cases x.f8 <;> decide
    · omega
    · omega
    · omega
    · omega
  · obtain ⟨u, hu, rfl⟩ := List.mem_map.1 ht
    have := esc_size u
    have := h.s6 u hu
    omega
theorem parts_len {x : S41} (h0 : canI x = 0) : (parts x).length ≤ 16 ∧ 8 ≤ (parts x).length := by
  have := tags_le h0
  simp [parts_eq, eight]
  omega
theorem line_len {x : S41} (h : Small x) (h0 : canI x = 0) : (jnL (parts x)).length ≤ 33554448 := by
  have h1 := jnL_len (parts x) 2097152 (part_size h h0)
  have h2 := (parts_len h0).1
  have h3 : (parts x).length * (2097152 + 1) ≤ 16 * (2097152 + 1) := Nat.mul_le_mul_right _ h2
  omega
theorem parts_ne (x : S41) : parts x ≠ [] := by simp [parts_eq, eight]
theorem rd_get {l : List S41} {j : Nat} (h : j < l.length) : rd_T41 l (j : Int) = l[j]'h := by
  simp [rd_T41, h]
theorem prt_bad {l : List S41} {j : Nat} (hj : j < l.length) (h0 : ∀ k : Nat, k < j → canI (rd_T41 l (k : Int)) = 0) (h1 : canI (rd_T41 l (j : Int)) ≠ 0) : prt l = (⟨#[]⟩, canI (rd_T41 l (j : Int)), (j : Int)) := by
  unfold prt
  have h := bad_at (l := l) (j := j) 0 hj (fun k hk => by have := h0 k hk; rw [rd_get (by omega)] at this; exact this) (by rw [rd_get hj] at h1; exact h1)
  rw [h, rd_get hj]
  simp
theorem all_ok {l : List S41} (h0 : ∀ k : Nat, k < l.length → canI (rd_T41 l (k : Int)) = 0) : bad l 0 = none := by
  rw [bad_none]
  intro x hx
  obtain ⟨k, hk, rfl⟩ := List.getElem_of_mem hx
  have := h0 k hk
  rw [rd_get hk] at this
  exact this
theorem prt_many {l : List S41} (h0 : ∀ k : Nat, k < l.length → canI (rd_T41 l (k : Int)) = 0) (h1 : 4096 < l.length) : prt l = (⟨#[]⟩, 4, 0) := by
  unfold prt
  rw [all_ok h0]
  simp only
  rw [if_pos h1]
theorem prt_long {l : List S41} (h0 : ∀ k : Nat, k < l.length → canI (rd_T41 l (k : Int)) = 0) (h1 : ¬ 4096 < l.length) (i : Nat) (h2 : 65536 < (lines (l.take i)).length) : prt l = (⟨#[]⟩, 4, 0) := by
  have h3 := lines_take_le l i
  unfold prt
  rw [all_ok h0]
  simp only
  rw [if_neg h1, if_pos (by omega)]
theorem prt_ok {l : List S41} (h0 : ∀ k : Nat, k < l.length → canI (rd_T41 l (k : Int)) = 0) (h1 : ¬ 4096 < l.length) (h2 : ¬ 65536 < (lines l).length) : prt l = (strOfNums (lines l), 0, 0) := by
  unfold prt
  rw [all_ok h0]
  simp only
  rw [if_neg h1, if_neg h2]
end Go.Proofs.YthbdjmopolpjmaaGreatDoor.M
end
