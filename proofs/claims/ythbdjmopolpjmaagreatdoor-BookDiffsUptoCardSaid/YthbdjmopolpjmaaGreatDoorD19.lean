/- Part 19 of the proof: CLaid, CById, FCubitref29Next, FCubitref29Find. -/
import Derived.BigRegion
import Derived.Deep.DeepHandedRow
import Derived.Deep.DeepLaidRun
import Derived.Deep.DeepWitnessRowRef
import Derived.LaidHandle
import Derived.Lay
import Derived.Lib.LaidTab
import Derived.Stop.LaidErr
import Derived.Test.YthbdjmopolpjmaaGreatDoorCards
import Derived.Test.YthbdjmopolpjmaaGreatDoorD00
import Derived.Test.YthbdjmopolpjmaaGreatDoorD01
import Derived.Test.YthbdjmopolpjmaaGreatDoorD02
import Derived.Test.YthbdjmopolpjmaaGreatDoorD03
import Derived.Test.YthbdjmopolpjmaaGreatDoorD04
import Derived.Test.YthbdjmopolpjmaaGreatDoorD05
import Derived.Test.YthbdjmopolpjmaaGreatDoorD06
import Derived.Test.YthbdjmopolpjmaaGreatDoorD07
import Derived.Test.YthbdjmopolpjmaaGreatDoorD08
import Derived.Test.YthbdjmopolpjmaaGreatDoorD09
import Derived.Test.YthbdjmopolpjmaaGreatDoorD10
import Derived.Test.YthbdjmopolpjmaaGreatDoorD11
import Derived.Test.YthbdjmopolpjmaaGreatDoorD12
import Derived.Test.YthbdjmopolpjmaaGreatDoorD13
import Derived.Test.YthbdjmopolpjmaaGreatDoorD14
import Derived.Test.YthbdjmopolpjmaaGreatDoorD15
import Derived.Test.YthbdjmopolpjmaaGreatDoorD16
import Derived.Test.YthbdjmopolpjmaaGreatDoorD17
import Derived.Test.YthbdjmopolpjmaaGreatDoorD18
import Derived.Test.YthbdjmopolpjmaaGreatDoorRows
import Derived.Test.YthbdjmopolpjmaaGreatDoorTie
section
set_option linter.unusedVariables false
namespace Go.Proofs.YthbdjmopolpjmaaGreatDoor.C
open Go.RowKit
theorem gPow : Tryz.prog.globalNamed "internal/strconv.uint64pow10" = some 3 := by kernel_rfl
theorem gPowType : (Tryz.prog.globals[3]?).map (·.type) = some 271 := by kernel_rfl
theorem gErr : Tryz.prog.globalNamed "errors.errorType" = some 1 := by kernel_rfl
theorem gLine : Tryz.prog.globalNamed "cubit/book.errLine" = some 0 := by kernel_rfl
theorem gLineType : (Tryz.prog.globals[0]?).map (·.type) = some 44 := by kernel_rfl
theorem cells271 : Tryz.prog.cellsOf 271 = 20 := by kernel_rfl
theorem cells162 : Tryz.prog.cellsOf 162 = 1 := by kernel_rfl
theorem cells349 : Tryz.prog.cellsOf 349 = 1 := by kernel_rfl
theorem cells9' : Tryz.prog.cellsOf 9 = 1 := by kernel_rfl
theorem star : "*" ++ "errors.errorString" = "*errors.errorString" := by decide
theorem row347 (u : TypeId) (h : Tryz.prog.typeName? 3 u = some "*errors.errorString") : u = 347 :=
  typeName_ptr_named (nm := "errors.errorString") (by rw [star]; kernel_rfl) (by kernel_rfl) (by decide) u (by rw [star]; exact h)
theorem rtype : (Tryz.prog.cutTypes.find? (·.1 == "internal/reflectlite.rtype")).map (·.2) = some 182 := by kernel_rfl
theorem oneRow : ((List.range 390).filter fun t => Tryz.prog.rowNamed t [101, 114, 114, 111, 114]) = [44] := by kernel_rfl
theorem typesSize : Tryz.prog.types.size = 390 := by kernel_rfl
theorem handle44 : typeHandle Tryz.prog 44 = .pointer (some ⟨10, 44, none⟩) := by kernel_rfl
def plainLaid : List (String × DataW Unit) := [("math/bits.deBruijn32tab", Rows.laid_math_bits_deBruijn32tab), ("math/bits.deBruijn64tab", Rows.laid_math_bits_deBruijn64tab), ("internal/strconv.uint64pow10", Rows.laid_internal_strconv_uint64pow10), ("cubit/book.errLine", Rows.laid_cubit_book_errLine)]
def handleLaid : List (String × DataW Unit) := [("errors.errorType", Rows.laid_errors_errorType)]
def bookLaid : List (String × DataW Unit) := [("math/bits.deBruijn32tab", Rows.laid_math_bits_deBruijn32tab), ("math/bits.deBruijn64tab", Rows.laid_math_bits_deBruijn64tab), ("internal/strconv.uint64pow10", Rows.laid_internal_strconv_uint64pow10), ("errors.errorType", Rows.laid_errors_errorType), ("cubit/book.errLine", Rows.laid_cubit_book_errLine)]
theorem laid_parts {W : World} (h : laidMetH Tryz.prog bookLaid W) : laidMet Tryz.prog plainLaid W ∧ handlesMet Tryz.prog handleLaid W := h
theorem pow_of_laid {W : World} (h : laidMet Tryz.prog plainLaid W) : Pow W :=
  Lib.tabIs_of_head (k := .u64) (zs := Lib.pow10Tab) gPow gPowType Tryz.underlying271 Tryz.underlying162 cells162 cells271 h.tail.tail
theorem glob_of_laid {W : World} (h : laidMetH Tryz.prog bookLaid W) : Glob W := by
  obtain ⟨hp, hh⟩ := laid_parts h
  refine ⟨?_, ?_⟩
  · obtain ⟨a, s, hv, _⟩ := laid_sentinel hp.tail.tail.tail gLine gLineType Tryz.underlying44 row347 Tryz.underlying347 Tryz.underlying349 rfl rfl Tryz.underlying9 cells349 cells9'
    exact ⟨a, by simpa using World.var?_cell gLine hv 0⟩
  · obtain ⟨name, u, ty, e1, e2, e3, e4, e5⟩ := hh _ (List.mem_singleton.2 rfl)
    have en : name = [101, 114, 114, 111, 114] := (Option.some.inj e1).symm
    subst en
    obtain rfl := Option.some.inj (rtype.symm.trans e2)
    have hm : ty ∈ (List.range 390).filter fun t => Tryz.prog.rowNamed t [101, 114, 114, 111, 114] := List.mem_filter.2 ⟨List.mem_range.2 (by rw [← typesSize]; exact e3), e4⟩
    rw [oneRow] at hm
    obtain rfl := List.mem_singleton.1 hm
    rw [handle44] at e5
    simpa using World.var?_cell gErr e5 0
noncomputable def laidWorld (os : Os) : World :=
  { World.laidAll Tryz.prog os plainLaid with heap := (World.laidAll Tryz.prog os plainLaid).heap.modify 1 fun
      | .cells _ t frozen => .cells #[.iface 182 (.agg #[.pointer (some ⟨10, 44, none⟩)])] t frozen
      | o => o }
theorem laidWorld_os (os : Os) : (laidWorld os).os = os := by
  unfold laidWorld
  simp only [World.laidAll_os]
theorem laid_filter : (bookLaid.filter fun x => x.2.handleName?.isNone) = plainLaid := rfl
noncomputable def callWorld (os : Os) (args : Array Value) : World := ((laidWorld os).forCall (fun _ _ => 0) ⟨#[], args, []⟩).memory
theorem run_same (os : Os) (args : Array Value) : (DataW.laidRun Tryz.prog (callWorld os args) 8 (plainLaid.map (·.1))).map (·.1) = some plainLaid := by kernel_rfl
theorem run_nodup (os : Os) (args : Array Value) : (DataW.laidRun Tryz.prog (callWorld os args) 8 (plainLaid.map (·.1))).map (fun x => nodupB (x.2.map MemPlace.codeOf)) = some true := by kernel_rfl
theorem run_rows (os : Os) (args : Array Value) : (DataW.laidRun Tryz.prog (callWorld os args) 8 (plainLaid.map (·.1))).map (fun x => laidRowsB Tryz.prog (callWorld os args) x.2) = some true := by kernel_rfl
theorem laidWorld_met (os : Os) (args : Array Value) : laidMetH Tryz.prog bookLaid ((laidWorld os).forCall (fun _ _ => 0) ⟨#[], args, []⟩).memory :=
  laidMetH_of_parts (by rw [laid_filter]; exact laidMet_of_run3 8 (run_same os args) (run_nodup os args) (run_rows os args)) (by kernel_rfl)
set_option maxRecDepth 100000 in
theorem laidWorld_vars (os : Os) (args : Array Value) : ((laidWorld os).forCall (fun _ _ => 0) ⟨#[], args, []⟩).variablesRefB Tryz.checked.prog = true := by kernel_rfl
set_option maxRecDepth 100000 in
theorem laidWorld_blocks (os : Os) (args : Array Value) : (((laidWorld os).forCall (fun _ _ => 0) ⟨#[], args, []⟩).heap.toList.drop Tryz.checked.prog.globals.size).take ((begin Tryz.checked.prog (fun _ _ => 0) default).world.heap.size - Tryz.checked.prog.globals.size) =
      (begin Tryz.checked.prog (fun _ _ => 0) default).world.heap.toList.drop Tryz.checked.prog.globals.size := by kernel_rfl
end Go.Proofs.YthbdjmopolpjmaaGreatDoor.C
end
section
set_option linter.unusedVariables false
set_option linter.unusedSimpArgs false
namespace Go.Proofs.YthbdjmopolpjmaaGreatDoor.C
open Go.RowKit Go.Proofs.YthbdjmopolpjmaaGreatDoorW.PrintWords Go.Proofs.YthbdjmopolpjmaaGreatDoorW.PrintLast Go.Proofs.YthbdjmopolpjmaaGreatDoorW.PrintMore Go.Proofs.YthbdjmopolpjmaaGreatDoor.F Go.Proofs.YthbdjmopolpjmaaGreatDoor.M
attribute [local go_sem] max2_int min2_int max_two min_two max_three min_three max_four min_four
set_option maxRecDepth 100000 in
set_option maxHeartbeats 4000000 in
theorem byId_call (A : Option Addr) (c : Nat) (l : List S41) (w : World) (hC : k41.C w A l.length l) (hc : l.length ≤ c) (hl : l.length ≤ 1048576) (hw : ∀ x ∈ l, Wf x.f0) :
    Calls Tryz.prog 28 #[.slice A l.length c] w fun e w' => ∃ b D, e = .returned (.map (some b)) ∧ w'.ownsMap Tryz.prog 3 hold b l.length D ∧ MapAt w l D ∧ w.heap.size ≤ b ∧ Below w.heap.size w w' := by
  have HC := Aside0.mk (And.intro hC (And.intro hc (And.intro hl hw)))
  have hlm := eq_true (show l.length ≤ 9223372036854775807 by omega)
  have hmm := @run_makeMap Tryz.prog
  clear hC hc hl hw
  go_enter Tryz.func28, Tryz.ntmps28
  go_wp2_with fail
  go_loopg [11] l.length (fun kq v11 W => ∃ i : Int, v11 = .int .i64 i ∧ Aside0 (0 ≤ i ∧ i ≤ l.length ∧ l.length ≤ i + kq ∧ (∃ D, W.ownsMap Tryz.prog 3 hold w.heap.size i.toNat D ∧ MapAt w (l.take i.toNat) D) ∧ Below w.heap.size w W))
  case atStart => exact ⟨0, rfl, ⟨by omega, by omega, by omega, ⟨_, World.ownsMap_made w _ _ _, mapAt_nil w⟩, below_alloc (Below.refl _ _) _⟩⟩
  case round =>
    obtain ⟨i, rfl, HJ⟩ := hrel
    have HBw := Aside0.mk HJ.out.2.2.2.2
    obtain ⟨D, hown, hM⟩ := HJ.out.2.2.2.1
    have HM := Aside0.mk (And.intro hown hM)
    clear hown hM
    by_cases hi : i < l.length
    · have p0 := HJ.out.1
      have q0 := hi
      obtain ⟨ad, A8, c8, e, hx0, hx1, hx2, hx3, hx4, hx5, hx6, hx7, hx8, hx9, hx10, hl8, hi8⟩ := at_T41 HC.out.1 i p0 q0
      cases e
      replace hx0 := pw_cell_below HBw.out hx0
      replace hx1 := pw_cell_below HBw.out hx1
      replace hx2 := pw_cell_below HBw.out hx2
      replace hx3 := pw_cell_below HBw.out hx3
      replace hx4 := pw_cell_below HBw.out hx4
      replace hx5 := pw_cell_below HBw.out hx5
      replace hx6 := pw_cell_below HBw.out hx6
      replace hx7 := pw_cell_below HBw.out hx7
      replace hx8 := pw_cell_below HBw.out hx8
      replace hx9 := pw_cell_below HBw.out hx9
      replace hx10 := pw_cell_below HBw.out hx10
      have HI := Aside0.mk (And.intro hi (And.intro hl8 hi8))
      clear hi hl8 hi8
      have hd := decide_eq_true q0
      replace p0 := eq_true p0
      replace q0 := eq_true q0
      obtain ⟨x, hxx⟩ : ∃ x, rd_T41 l i = x := ⟨_, rfl⟩
      have hwx : Wf x.f0 := by rw [← hxx]; exact HC.out.2.2.2 _ (rd_mem HJ.out.1 HI.out.1)
      obtain ⟨eb, heb⟩ : ∃ eb, wr.heap.size = eb := ⟨_, rfl⟩
      obtain ⟨w0, hw0⟩ : ∃ w0, wr.alloc (.cells #[.int .i64 x.f0, .string x.f1, .string x.f2.f0, .string x.f2.f1, .string x.f3.f0, .string x.f3.f1, .string x.f4, .int .i64 x.f5, .slice A8 x.f6.length c8, .int .i64 x.f7, .bool x.f8] 41) = w0 := ⟨_, rfl⟩
      have hB0 : Below wr.heap.size wr w0 := by rw [← hw0]; exact below_alloc (Below.refl _ _) _
      have hE0 : w0.heap[eb]? = some (.cells #[.int .i64 x.f0, .string x.f1, .string x.f2.f0, .string x.f2.f1, .string x.f3.f0, .string x.f3.f1, .string x.f4, .int .i64 x.f5, .slice A8 x.f6.length c8, .int .i64 x.f7, .bool x.f8] 41 (0, 0)) := by rw [← hw0, ← heb]; exact blk_new wr _
      have hO0 : w0.ownsMap Tryz.prog 3 hold w.heap.size i.toNat D := by rw [← hw0]; exact HM.out.1.alloc _
      have HO := Aside0.mk (And.intro hO0 (And.intro hB0 hE0))
      have HX := Aside0.mk (And.intro hxx hwx)
      obtain ⟨ex0, ex1, ex2, ex3, ex4, ex5, ex6, ex7, ex8, ex9, ex10⟩ := eleven hE0
      obtain ⟨k1, rfl⟩ : ∃ k1, gk = k1 + 1 := ⟨gk - 1, by have := HJ.out.2.2.1; have := HI.out.1; omega⟩
      rw [hxx] at hx0 hx1 hx2 hx3 hx4 hx5 hx6 hx7 hx8 hx9 hx10
      have hlk := look_run hO0 HM.out.2 x.f0 hwx
      clear hB0 hE0 hO0 hwx hxx
      rcases hlk with ⟨_, hnone, hrun⟩ | ⟨y, A', c', _, hsome, hrun, _, _⟩
      · have HN := Aside0.mk hnone
        clear hnone
        unfold ZV at hrun
        have hB1 : Below w0.heap.size w0 (w0.alloc (.cells #[.int .i64 0, .string ⟨#[]⟩, .string ⟨#[]⟩, .string ⟨#[]⟩, .string ⟨#[]⟩, .string ⟨#[]⟩, .string ⟨#[]⟩, .int .i64 0, .slice none 0 0, .int .i64 0, .bool false] 41)) := below_alloc (Below.refl _ _) _
        have hO1 : (w0.alloc (.cells #[.int .i64 0, .string ⟨#[]⟩, .string ⟨#[]⟩, .string ⟨#[]⟩, .string ⟨#[]⟩, .string ⟨#[]⟩, .string ⟨#[]⟩, .int .i64 0, .slice none 0 0, .int .i64 0, .bool false] 41)).ownsMap Tryz.prog 3 hold w.heap.size i.toNat D := HO.out.1.alloc _
        have hE1 := blk_below HO.out.2.2 hB1
        have hBw1 := below_then HBw.out HBw.out.size (below_then HO.out.2.1 HO.out.2.1.size hB1)
        have H1 := Aside0.mk (And.intro hO1 hBw1)
        clear hB1 hBw1 hO1
        obtain ⟨ey0, ey1, ey2, ey3, ey4, ey5, ey6, ey7, ey8, ey9, ey10⟩ := eleven hE1
        clear hE1
        go_wp2_with (first | (at_mapUpdate; refine wpList_mapUpdate_own _ rfl (.tmp 24) (.tmp 26) (.tmp 27) 60 rfl 3 41 law3 Tryz.underlying60 hold w.heap.size i.toNat D rfl H1.out.1 (by have := HC.out.2.2.1; have := HI.out.1; unfold maxLen; omega) (.int .i64 x.f0) (EV x A8 c8) (.int .i64 x.f0) rfl rfl (key_of HX.out.2) (.held (EV x A8 c8)) [] rfl ?_; intro w2 hown2 hg2) | go_in)
        have H2 := Aside0.mk (And.intro hown2 hg2)
        clear hown2 hg2
        go_roundg k1
        case measure => omega
        case rel =>
          have h0 := HJ.out.1
          have h1 := HI.out.1
          have h2 := HC.out.2.2.1
          have e : (i + 1).toNat = i.toNat + 1 := by omega
          have e2 : l.take (i.toNat + 1) = l.take i.toNat ++ [x] := by
            rw [List.take_succ_eq_append_getElem (by omega), ← rd_get (by omega), Int.toNat_of_nonneg h0, HX.out.1]
          refine ⟨i + 1, congrArg (Value.int .i64) (w64 (by omega) (by omega)), ⟨by omega, by omega, by have := HJ.out.2.2.1; omega, ⟨_, by rw [e]; exact H2.out.1, ?_⟩, ?_⟩⟩
          · rw [e, e2]
            exact mapAt_new HM.out.2 HM.out.1.isMap HN.out (by have := HI.out.2.1; rw [HX.out.1] at this; exact this) (by have := HI.out.2.2; rw [HX.out.1] at this; exact this)
          · exact Below.grown H1.out.2 H2.out.2 H1.out.2.size (fun k hk => by cases hk; exact Nat.le_refl _)
      · have HN := Aside0.mk hsome
        clear hsome
        unfold EV at hrun
        obtain ⟨w1, hw1⟩ : ∃ w1, w0.alloc (.cells #[.int .i64 y.f0, .string y.f1, .string y.f2.f0, .string y.f2.f1, .string y.f3.f0, .string y.f3.f1, .string y.f4, .int .i64 y.f5, .slice A' y.f6.length c', .int .i64 y.f7, .bool y.f8] 41) = w1 := ⟨_, rfl⟩
        have hB1 : Below w0.heap.size w0 w1 := by rw [← hw1]; exact below_alloc (Below.refl _ _) _
        have hO1 : w1.ownsMap Tryz.prog 3 hold w.heap.size i.toNat D := by rw [← hw1]; exact HO.out.1.alloc _
        have hE1 := blk_below HO.out.2.2 hB1
        have hBw1 := below_then HBw.out HBw.out.size (below_then HO.out.2.1 HO.out.2.1.size hB1)
        have H1 := Aside0.mk (And.intro hO1 hBw1)
        clear hB1 hBw1
        obtain ⟨ey0, ey1, ey2, ey3, ey4, ey5, ey6, ey7, ey8, ey9, ey10⟩ := eleven hE1
        clear hE1
        go_wp2_with fail
        go_roundg k1
        case measure => omega
        case rel =>
          have h0 := HJ.out.1
          have h1 := HI.out.1
          have h2 := HC.out.2.2.1
          have e : (i + 1).toNat = i.toNat + 1 := by omega
          have e2 : l.take (i.toNat + 1) = l.take i.toNat ++ [x] := by
            rw [List.take_succ_eq_append_getElem (by omega), ← rd_get (by omega), Int.toNat_of_nonneg h0, HX.out.1]
          refine ⟨i + 1, congrArg (Value.int .i64) (w64 (by omega) (by omega)), ⟨by omega, by omega, by have := HJ.out.2.2.1; omega, ⟨_, by rw [e]; exact H1.out.1.mono (Nat.le_succ _), ?_⟩, H1.out.2⟩⟩
          rw [e, e2]
          exact mapAt_old HM.out.2 HN.out
    · have hd : decide (i < (l.length : Int)) = false := decide_eq_false hi
      have he : i.toNat = l.length := by have := HJ.out.2.1; have := HJ.out.1; omega
      have HE := Aside0.mk he
      clear hi he
      go_wp2_with fail
      go_ret
      refine ⟨_, D, rfl, ?_, ?_, Nat.le_refl _, HBw.out⟩
      · rw [← HE.out]; exact HM.out.1
      · have := HM.out.2
        rw [HE.out, List.take_length] at this
        exact this
end Go.Proofs.YthbdjmopolpjmaaGreatDoor.C
end
section
namespace Go.Proofs.YthbdjmopolpjmaaGreatDoor.F
open Go.RowKit Go.Proofs.YthbdjmopolpjmaaGreatDoorW.PrintWords Go.Proofs.YthbdjmopolpjmaaGreatDoorW.PrintLast Go.Proofs.YthbdjmopolpjmaaGreatDoorW.PrintMore
attribute [local go_sem] max2_int min2_int max_two min_two max_three min_three max_four min_four
set_option linter.unusedVariables false
set_option linter.unusedSimpArgs false
def cubitref29_next.l0 : Nat → List (S41) → List (S41) → Int → Bool → Int → Bool → Int → Option (Int × Bool)
  | 0, _, _, _, _, _, _, _ => none
  | k + 1, x0, x1, x2, x3, x10, x11, x12 => if x12 < (wrap64 ((x0.length : Int) + (x1.length : Int))) then (if x12 < (x0.length : Int) then (if 0 ≤ x12 then (if x3 = true then (if ((rd_T41 x0 x12).f0) > x2 then (if x11 = true then (if ((rd_T41 x0 x12).f0) < x10 then (cubitref29_next.l0 k x0 x1 x2 x3 ((rd_T41 x0 x12).f0) true (wrap64 (x12 + 1))) else (cubitref29_next.l0 k x0 x1 x2 x3 x10 x11 (wrap64 (x12 + 1)))) else (cubitref29_next.l0 k x0 x1 x2 x3 ((rd_T41 x0 x12).f0) true (wrap64 (x12 + 1)))) else (cubitref29_next.l0 k x0 x1 x2 x3 x10 x11 (wrap64 (x12 + 1)))) else (if x11 = true then (if ((rd_T41 x0 x12).f0) < x10 then (cubitref29_next.l0 k x0 x1 x2 x3 ((rd_T41 x0 x12).f0) true (wrap64 (x12 + 1))) else (cubitref29_next.l0 k x0 x1 x2 x3 x10 x11 (wrap64 (x12 + 1)))) else (cubitref29_next.l0 k x0 x1 x2 x3 ((rd_T41 x0 x12).f0) true (wrap64 (x12 + 1))))) else (none)) else (if 0 ≤ (wrap64 (x12 - (x0.length : Int))) then (if (wrap64 (x12 - (x0.length : Int))) < (x1.length : Int) then (if x3 = true then (if ((rd_T41 x1 (wrap64 (x12 - (x0.length : Int)))).f0) > x2 then (if x11 = true then (if ((rd_T41 x1 (wrap64 (x12 - (x0.length : Int)))).f0) < x10 then (cubitref29_next.l0 k x0 x1 x2 x3 ((rd_T41 x1 (wrap64 (x12 - (x0.length : Int)))).f0) true (wrap64 (x12 + 1))) else (cubitref29_next.l0 k x0 x1 x2 x3 x10 x11 (wrap64 (x12 + 1)))) else (cubitref29_next.l0 k x0 x1 x2 x3 ((rd_T41 x1 (wrap64 (x12 - (x0.length : Int)))).f0) true (wrap64 (x12 + 1)))) else (cubitref29_next.l0 k x0 x1 x2 x3 x10 x11 (wrap64 (x12 + 1)))) else (if x11 = true then (if ((rd_T41 x1 (wrap64 (x12 - (x0.length : Int)))).f0) < x10 then (cubitref29_next.l0 k x0 x1 x2 x3 ((rd_T41 x1 (wrap64 (x12 - (x0.length : Int)))).f0) true (wrap64 (x12 + 1))) else (cubitref29_next.l0 k x0 x1 x2 x3 x10 x11 (wrap64 (x12 + 1)))) else (cubitref29_next.l0 k x0 x1 x2 x3 ((rd_T41 x1 (wrap64 (x12 - (x0.length : Int)))).f0) true (wrap64 (x12 + 1))))) else (none)) else (none))) else (some (x10, x11))
def cubitref29_next.f (k : Nat) (l0 : List (S41)) (l1 : List (S41)) (a2 : Int) (a3 : Bool) : Option (Int × Bool) := cubitref29_next.l0 k l0 l1 a2 a3 0 false 0
theorem cubitref29_next.mono_l : ∀ k, (∀ y0 y1 y2 y3 y4 y5 y6, LeO (cubitref29_next.l0 k y0 y1 y2 y3 y4 y5 y6) (cubitref29_next.l0 (k + 1) y0 y1 y2 y3 y4 y5 y6))
  | 0 => fun _ _ _ _ _ _ _ r h => by simp [cubitref29_next.l0] at h
  | k + 1 => by
    have ih0 := cubitref29_next.mono_l k
    · intro y0 y1 y2 y3 y4 y5 y6
      unfold cubitref29_next.l0
      repeat' first
      | (with_reducible exact ih0 _ _ _ _ _ _ _)
      | (with_reducible exact LeO.refl _)
      | (with_reducible exact LeO.none _)
      | (with_reducible refine LeO.ite ?_ ?_)
      | (with_reducible refine LeO.bind ?_ (fun _ => ?_))
      | exact ih0 _ _ _ _ _ _ _
      | exact LeO.none _
      | refine LeO.ite ?_ ?_
      | refine LeO.bind ?_ (fun _ => ?_)
theorem cubitref29_next.mono : ∀ a0 a1 a2 a3 k, LeO (cubitref29_next.f k a0 a1 a2 a3) (cubitref29_next.f (k + 1) a0 a1 a2 a3) := by
  intro a0 a1 a2 a3 k
  have ih0 := cubitref29_next.mono_l k
  unfold cubitref29_next.f
  repeat' first
      | (with_reducible exact ih0 _ _ _ _ _ _ _)
      | (with_reducible exact LeO.refl _)
      | (with_reducible exact LeO.none _)
      | (with_reducible refine LeO.ite ?_ ?_)
      | (with_reducible refine LeO.bind ?_ (fun _ => ?_))
      | exact ih0 _ _ _ _ _ _ _
      | exact LeO.none _
      | refine LeO.ite ?_ ?_
      | refine LeO.bind ?_ (fun _ => ?_)
set_option maxHeartbeats 8000000 in
set_option maxRecDepth 100000 in
theorem cubitref29_next.calls (k : Nat) (A0 : Option Addr) (c0 : Nat) (l0 : List (S41)) (A1 : Option Addr) (c1 : Nat) (l1 : List (S41)) (a2 : Int) (a3 : Bool) (r1 : Int) (r2 : Bool) (w : World) (hr0 : Kd.C k41 w A0 l0.length l0) (hc0 : l0.length ≤ c0) (hr1 : Kd.C k41 w A1 l1.length l1) (hc1 : l1.length ≤ c1) (h : cubitref29_next.f k l0 l1 a2 a3 = some (r1, r2)) :
    Calls Tryz.prog 33 #[.slice A0 l0.length c0, .slice A1 l1.length c1, .int .i64 a2, .bool a3] w fun e w' => e = .returned (.tuple #[.int .i64 r1, .bool r2]) ∧ Drawn0 w w' := by
  have HR0 := Aside0.mk hr0
  have HC0 := Aside0.mk hc0
  clear hr0 hc0
  have HR1 := Aside0.mk hr1
  have HC1 := Aside0.mk hc1
  clear hr1 hc1
  have H : (cubitref29_next.l0 k l0 l1 a2 a3 0 false 0) = some (r1, r2) := h
  clear h
  have H' := Aside0.mk H
  clear H
  go_enter Tryz.func33, Tryz.ntmps33
  go_wp2
  go_loopg [10, 11, 12] k (fun kq v10 v11 v12 w' => ∃ (x10_1 : Int) (x11_1 : Bool) (x12_1 : Int), v10 = .int .i64 x10_1 ∧ v11 = .bool x11_1 ∧ v12 = .int .i64 x12_1 ∧ Aside0 (cubitref29_next.l0 kq l0 l1 a2 a3 x10_1 x11_1 x12_1 = some (r1, r2)) ∧ Aside0 (kq ≤ k) ∧ Drawn0 w w')
  case atStart => exact ⟨(0), (false), (0), (by first | rfl | (simp; done) | (simp [*]; done)), (by first | rfl | (simp; done) | (simp [*]; done)), (by first | rfl | (simp; done) | (simp [*]; done)), H', ⟨Nat.le_refl _⟩, by repeat (first | exact Drawn0.refl _ | apply Drawn0.step)⟩
  case round =>
    clear H'
    try clear c1
    try clear p2
    try clear c3
    obtain ⟨x10_1, x11_1, x12_1, rfl, rfl, rfl, HA, HK1, ⟨m1, rfl⟩⟩ := hrel
    cases gk with
    | zero => exact absurd HA.out (by simp [cubitref29_next.l0])
    | succ k1 =>
      have H := HA.out
      clear HA
      simp only [cubitref29_next.l0] at H
      by_cases c5 : x12_1 < (wrap64 ((l0.length : Int) + (l1.length : Int)))
      · rw [if_pos c5] at H
        have c5b0 : decide (x12_1 < (wrap64 ((l0.length : Int) + (l1.length : Int)))) = true := decide_eq_true c5
        clear c5
        by_cases c6 : x12_1 < (l0.length : Int)
        · rw [if_pos c6] at H
          have c6b0 : decide (x12_1 < (l0.length : Int)) = true := decide_eq_true c6
          clear c6
          by_cases c7 : 0 ≤ x12_1
          · rw [if_pos c7] at H
            have c7b0 : decide (0 ≤ x12_1) = true := decide_eq_true c7
            clear c7
            by_cases c8 : a3 = true
            · subst c8
              have H1 : (if ((rd_T41 l0 x12_1).f0) > a2 then (if x11_1 = true then (if ((rd_T41 l0 x12_1).f0) < x10_1 then (cubitref29_next.l0 k1 l0 l1 a2 true ((rd_T41 l0 x12_1).f0) true (wrap64 (x12_1 + 1))) else (cubitref29_next.l0 k1 l0 l1 a2 true x10_1 x11_1 (wrap64 (x12_1 + 1)))) else (cubitref29_next.l0 k1 l0 l1 a2 true ((rd_T41 l0 x12_1).f0) true (wrap64 (x12_1 + 1)))) else (cubitref29_next.l0 k1 l0 l1 a2 true x10_1 x11_1 (wrap64 (x12_1 + 1)))) = some (r1, r2) := by rw [if_pos rfl] at H; exact H
              clear H
              have H := H1
              clear H1
              by_cases c9 : ((rd_T41 l0 x12_1).f0) > a2
              · rw [if_pos c9] at H
                have c9b0 : decide (a2 < ((rd_T41 l0 x12_1).f0)) = true := decide_eq_true c9
                clear c9
                by_cases c10 : x11_1 = true
                · subst c10
                  have H1 : (if ((rd_T41 l0 x12_1).f0) < x10_1 then (cubitref29_next.l0 k1 l0 l1 a2 true ((rd_T41 l0 x12_1).f0) true (wrap64 (x12_1 + 1))) else (cubitref29_next.l0 k1 l0 l1 a2 true x10_1 true (wrap64 (x12_1 + 1)))) = some (r1, r2) := by rw [if_pos rfl] at H; exact H
                  clear H
                  have H := H1
                  clear H1
                  by_cases c11 : ((rd_T41 l0 x12_1).f0) < x10_1
                  · rw [if_pos c11] at H
                    have c11b0 : decide (((rd_T41 l0 x12_1).f0) < x10_1) = true := decide_eq_true c11
                    clear c11
                    have H' := Aside0.mk H
                    clear H
                    have p499 : 0 ≤ (x12_1 : Int) := of_decide_eq_true (by first | (with_reducible assumption) | assumption)
                    have q499 : x12_1 < (l0.length : Int) := of_decide_eq_true (by first | (with_reducible assumption) | assumption)
                    obtain ⟨ad499, A499_8, c499_8, e499, hx499_0, hx499_1, hx499_2, hx499_3, hx499_4, hx499_5, hx499_6, hx499_7, hx499_8, hx499_9, hx499_10, hl499_8, hi499_8⟩ := at_T41 HR0.out x12_1 p499 q499
                    cases e499
                    have HR499_8 := Aside0.mk hi499_8
                    have HC499_8 := Aside0.mk hl499_8
                    clear hi499_8 hl499_8
                    replace p499 := eq_true p499
                    replace q499 := eq_true q499
                    go_wp2
                    go_roundg k1
                    case measure => have := HK1.out; omega
                    case rel => exact ⟨((rd_T41 l0 x12_1).f0), (true), (wrap64 (x12_1 + 1)), (by first | rfl | (simp; done) | (simp [*]; done)), (by first | rfl | (simp; done) | (simp [*]; done)), (by first | rfl | (simp; done) | (simp [*]; done)), H', ⟨by have := HK1.out; omega⟩, by repeat (first | exact Drawn0.refl _ | apply Drawn0.step)⟩
                  · rw [if_neg c11] at H
                    have c11b0 : decide (((rd_T41 l0 x12_1).f0) < x10_1) = false := decide_eq_false c11
                    clear c11
                    have H' := Aside0.mk H
                    clear H
                    have p499 : 0 ≤ (x12_1 : Int) := of_decide_eq_true (by first | (with_reducible assumption) | assumption)
                    have q499 : x12_1 < (l0.length : Int) := of_decide_eq_true (by first | (with_reducible assumption) | assumption)
                    obtain ⟨ad499, A499_8, c499_8, e499, hx499_0, hx499_1, hx499_2, hx499_3, hx499_4, hx499_5, hx499_6, hx499_7, hx499_8, hx499_9, hx499_10, hl499_8, hi499_8⟩ := at_T41 HR0.out x12_1 p499 q499
                    cases e499
                    have HR499_8 := Aside0.mk hi499_8
                    have HC499_8 := Aside0.mk hl499_8
                    clear hi499_8 hl499_8
                    replace p499 := eq_true p499
                    replace q499 := eq_true q499
                    go_wp2
                    go_roundg k1
                    case measure => have := HK1.out; omega
                    case rel => exact ⟨(x10_1), (true), (wrap64 (x12_1 + 1)), (by first | rfl | (simp; done) | (simp [*]; done)), (by first | rfl | (simp; done) | (simp [*]; done)), (by first | rfl | (simp; done) | (simp [*]; done)), H', ⟨by have := HK1.out; omega⟩, by repeat (first | exact Drawn0.refl _ | apply Drawn0.step)⟩
                · replace c10 := Bool.eq_false_iff.mpr c10
                  subst c10
                  have H1 : (cubitref29_next.l0 k1 l0 l1 a2 true ((rd_T41 l0 x12_1).f0) true (wrap64 (x12_1 + 1))) = some (r1, r2) := by rw [if_neg (show ¬ (false = true) by decide)] at H; exact H
                  clear H
                  have H := H1
                  clear H1
                  have H' := Aside0.mk H
                  clear H
                  have p499 : 0 ≤ (x12_1 : Int) := of_decide_eq_true (by first | (with_reducible assumption) | assumption)
                  have q499 : x12_1 < (l0.length : Int) := of_decide_eq_true (by first | (with_reducible assumption) | assumption)
                  obtain ⟨ad499, A499_8, c499_8, e499, hx499_0, hx499_1, hx499_2, hx499_3, hx499_4, hx499_5, hx499_6, hx499_7, hx499_8, hx499_9, hx499_10, hl499_8, hi499_8⟩ := at_T41 HR0.out x12_1 p499 q499
                  cases e499
                  have HR499_8 := Aside0.mk hi499_8
                  have HC499_8 := Aside0.mk hl499_8
                  clear hi499_8 hl499_8
                  replace p499 := eq_true p499
                  replace q499 := eq_true q499
                  go_wp2
                  go_roundg k1
                  case measure => have := HK1.out; omega
                  case rel => exact ⟨((rd_T41 l0 x12_1).f0), (true), (wrap64 (x12_1 + 1)), (by first | rfl | (simp; done) | (simp [*]; done)), (by first | rfl | (simp; done) | (simp [*]; done)), (by first | rfl | (simp; done) | (simp [*]; done)), H', ⟨by have := HK1.out; omega⟩, by repeat (first | exact Drawn0.refl _ | apply Drawn0.step)⟩
              · rw [if_neg c9] at H
                have c9b0 : decide (a2 < ((rd_T41 l0 x12_1).f0)) = false := decide_eq_false c9
                clear c9
                have H' := Aside0.mk H
                clear H
                have p499 : 0 ≤ (x12_1 : Int) := of_decide_eq_true (by first | (with_reducible assumption) | assumption)
                have q499 : x12_1 < (l0.length : Int) := of_decide_eq_true (by first | (with_reducible assumption) | assumption)
                obtain ⟨ad499, A499_8, c499_8, e499, hx499_0, hx499_1, hx499_2, hx499_3, hx499_4, hx499_5, hx499_6, hx499_7, hx499_8, hx499_9, hx499_10, hl499_8, hi499_8⟩ := at_T41 HR0.out x12_1 p499 q499
                cases e499
                have HR499_8 := Aside0.mk hi499_8
                have HC499_8 := Aside0.mk hl499_8
                clear hi499_8 hl499_8
                replace p499 := eq_true p499
                replace q499 := eq_true q499
                go_wp2
                go_roundg k1
                case measure => have := HK1.out; omega
                case rel => exact ⟨(x10_1), (x11_1), (wrap64 (x12_1 + 1)), (by first | rfl | (simp; done) | (simp [*]; done)), (by first | rfl | (simp; done) | (simp [*]; done)), (by first | rfl | (simp; done) | (simp [*]; done)), H', ⟨by have := HK1.out; omega⟩, by repeat (first | exact Drawn0.refl _ | apply Drawn0.step)⟩
            · replace c8 := Bool.eq_false_iff.mpr c8
              subst c8
              have H1 : (if x11_1 = true then (if ((rd_T41 l0 x12_1).f0) < x10_1 then (cubitref29_next.l0 k1 l0 l1 a2 false ((rd_T41 l0 x12_1).f0) true (wrap64 (x12_1 + 1))) else (cubitref29_next.l0 k1 l0 l1 a2 false x10_1 x11_1 (wrap64 (x12_1 + 1)))) else (cubitref29_next.l0 k1 l0 l1 a2 false ((rd_T41 l0 x12_1).f0) true (wrap64 (x12_1 + 1)))) = some (r1, r2) := by rw [if_neg (show ¬ (false = true) by decide)] at H; exact H
              clear H
              have H := H1
              clear H1
              by_cases c12 : x11_1 = true
              · subst c12
                have H1 : (if ((rd_T41 l0 x12_1).f0) < x10_1 then (cubitref29_next.l0 k1 l0 l1 a2 false ((rd_T41 l0 x12_1).f0) true (wrap64 (x12_1 + 1))) else (cubitref29_next.l0 k1 l0 l1 a2 false x10_1 true (wrap64 (x12_1 + 1)))) = some (r1, r2) := by rw [if_pos rfl] at H; exact H
                clear H
                have H := H1
                clear H1
                by_cases c13 : ((rd_T41 l0 x12_1).f0) < x10_1
                · rw [if_pos c13] at H
                  have c13b0 : decide (((rd_T41 l0 x12_1).f0) < x10_1) = true := decide_eq_true c13
                  clear c13
                  have H' := Aside0.mk H
                  clear H
                  have p499 : 0 ≤ (x12_1 : Int) := of_decide_eq_true (by first | (with_reducible assumption) | assumption)
                  have q499 : x12_1 < (l0.length : Int) := of_decide_eq_true (by first | (with_reducible assumption) | assumption)
                  obtain ⟨ad499, A499_8, c499_8, e499, hx499_0, hx499_1, hx499_2, hx499_3, hx499_4, hx499_5, hx499_6, hx499_7, hx499_8, hx499_9, hx499_10, hl499_8, hi499_8⟩ := at_T41 HR0.out x12_1 p499 q499
                  cases e499
                  have HR499_8 := Aside0.mk hi499_8
                  have HC499_8 := Aside0.mk hl499_8
                  clear hi499_8 hl499_8
                  replace p499 := eq_true p499
                  replace q499 := eq_true q499
                  go_wp2
                  go_roundg k1
                  case measure => have := HK1.out; omega
                  case rel => exact ⟨((rd_T41 l0 x12_1).f0), (true), (wrap64 (x12_1 + 1)), (by first | rfl | (simp; done) | (simp [*]; done)), (by first | rfl | (simp; done) | (simp [*]; done)), (by first | rfl | (simp; done) | (simp [*]; done)), H', ⟨by have := HK1.out; omega⟩, by repeat (first | exact Drawn0.refl _ | apply Drawn0.step)⟩
                · rw [if_neg c13] at H
                  have c13b0 : decide (((rd_T41 l0 x12_1).f0) < x10_1) = false := decide_eq_false c13
                  clear c13
                  have H' := Aside0.mk H
                  clear H
                  have p499 : 0 ≤ (x12_1 : Int) := of_decide_eq_true (by first | (with_reducible assumption) | assumption)
                  have q499 : x12_1 < (l0.length : Int) := of_decide_eq_true (by first | (with_reducible assumption) | assumption)
                  obtain ⟨ad499, A499_8, c499_8, e499, hx499_0, hx499_1, hx499_2, hx499_3, hx499_4, hx499_5, hx499_6, hx499_7, hx499_8, hx499_9, hx499_10, hl499_8, hi499_8⟩ := at_T41 HR0.out x12_1 p499 q499
                  cases e499
                  have HR499_8 := Aside0.mk hi499_8
                  have HC499_8 := Aside0.mk hl499_8
                  clear hi499_8 hl499_8
                  replace p499 := eq_true p499
                  replace q499 := eq_true q499
                  go_wp2
                  go_roundg k1
                  case measure => have := HK1.out; omega
                  case rel => exact ⟨(x10_1), (true), (wrap64 (x12_1 + 1)), (by first | rfl | (simp; done) | (simp [*]; done)), (by first | rfl | (simp; done) | (simp [*]; done)), (by first | rfl | (simp; done) | (simp [*]; done)), H', ⟨by have := HK1.out; omega⟩, by repeat (first | exact Drawn0.refl _ | apply Drawn0.step)⟩
              · replace c12 := Bool.eq_false_iff.mpr c12
                subst c12
                have H1 : (cubitref29_next.l0 k1 l0 l1 a2 false ((rd_T41 l0 x12_1).f0) true (wrap64 (x12_1 + 1))) = some (r1, r2) := by rw [if_neg (show ¬ (false = true) by decide)] at H; exact H
                clear H
                have H := H1
                clear H1
                have H' := Aside0.mk H
                clear H
                have p499 : 0 ≤ (x12_1 : Int) := of_decide_eq_true (by first | (with_reducible assumption) | assumption)
                have q499 : x12_1 < (l0.length : Int) := of_decide_eq_true (by first | (with_reducible assumption) | assumption)
                obtain ⟨ad499, A499_8, c499_8, e499, hx499_0, hx499_1, hx499_2, hx499_3, hx499_4, hx499_5, hx499_6, hx499_7, hx499_8, hx499_9, hx499_10, hl499_8, hi499_8⟩ := at_T41 HR0.out x12_1 p499 q499
                cases e499
                have HR499_8 := Aside0.mk hi499_8
                have HC499_8 := Aside0.mk hl499_8
                clear hi499_8 hl499_8
                replace p499 := eq_true p499
                replace q499 := eq_true q499
                go_wp2
                go_roundg k1
                case measure => have := HK1.out; omega
                case rel => exact ⟨((rd_T41 l0 x12_1).f0), (true), (wrap64 (x12_1 + 1)), (by first | rfl | (simp; done) | (simp [*]; done)), (by first | rfl | (simp; done) | (simp [*]; done)), (by first | rfl | (simp; done) | (simp [*]; done)), H', ⟨by have := HK1.out; omega⟩, by repeat (first | exact Drawn0.refl _ | apply Drawn0.step)⟩
          · rw [if_neg c7] at H
            exact absurd H (by simp)
        · rw [if_neg c6] at H
          have c6b0 : decide (x12_1 < (l0.length : Int)) = false := decide_eq_false c6
          clear c6
          obtain ⟨ji14, hji14⟩ : ∃ j_ : Int, (wrap64 (x12_1 - (l0.length : Int))) = j_ := ⟨_, rfl⟩
          replace H : (if 0 ≤ (ji14) then (if (ji14) < (l1.length : Int) then (if a3 = true then (if ((rd_T41 l1 (ji14)).f0) > a2 then (if x11_1 = true then (if ((rd_T41 l1 (ji14)).f0) < x10_1 then (cubitref29_next.l0 k1 l0 l1 a2 a3 ((rd_T41 l1 (ji14)).f0) true (wrap64 (x12_1 + 1))) else (cubitref29_next.l0 k1 l0 l1 a2 a3 x10_1 x11_1 (wrap64 (x12_1 + 1)))) else (cubitref29_next.l0 k1 l0 l1 a2 a3 ((rd_T41 l1 (ji14)).f0) true (wrap64 (x12_1 + 1)))) else (cubitref29_next.l0 k1 l0 l1 a2 a3 x10_1 x11_1 (wrap64 (x12_1 + 1)))) else (if x11_1 = true then (if ((rd_T41 l1 (ji14)).f0) < x10_1 then (cubitref29_next.l0 k1 l0 l1 a2 a3 ((rd_T41 l1 (ji14)).f0) true (wrap64 (x12_1 + 1))) else (cubitref29_next.l0 k1 l0 l1 a2 a3 x10_1 x11_1 (wrap64 (x12_1 + 1)))) else (cubitref29_next.l0 k1 l0 l1 a2 a3 ((rd_T41 l1 (ji14)).f0) true (wrap64 (x12_1 + 1))))) else (none)) else (none)) = some (r1, r2) := by first | (rw [hji14] at H; exact H) | (simp only [hji14] at H ⊢; exact H)
          have hji14w : (IntKind.i64.wrap (x12_1 - (l0.length : Int))) = ji14 := (i64_w _).trans hji14
          by_cases c15 : 0 ≤ (ji14)
          · rw [if_pos c15] at H
            have c15b0 : decide (0 ≤ (ji14)) = true := decide_eq_true c15
            clear c15
            by_cases c16 : (ji14) < (l1.length : Int)
            · rw [if_pos c16] at H
              have c16b0 : decide ((ji14) < (l1.length : Int)) = true := decide_eq_true c16
              clear c16
              by_cases c17 : a3 = true
              · subst c17
                have H1 : (if ((rd_T41 l1 (ji14)).f0) > a2 then (if x11_1 = true then (if ((rd_T41 l1 (ji14)).f0) < x10_1 then (cubitref29_next.l0 k1 l0 l1 a2 true ((rd_T41 l1 (ji14)).f0) true (wrap64 (x12_1 + 1))) else (cubitref29_next.l0 k1 l0 l1 a2 true x10_1 x11_1 (wrap64 (x12_1 + 1)))) else (cubitref29_next.l0 k1 l0 l1 a2 true ((rd_T41 l1 (ji14)).f0) true (wrap64 (x12_1 + 1)))) else (cubitref29_next.l0 k1 l0 l1 a2 true x10_1 x11_1 (wrap64 (x12_1 + 1)))) = some (r1, r2) := by rw [if_pos rfl] at H; exact H
                clear H
                have H := H1
                clear H1
                by_cases c18 : ((rd_T41 l1 (ji14)).f0) > a2
                · rw [if_pos c18] at H
                  have c18b0 : decide (a2 < ((rd_T41 l1 (ji14)).f0)) = true := decide_eq_true c18
                  clear c18
                  by_cases c19 : x11_1 = true
                  · subst c19
                    have H1 : (if ((rd_T41 l1 (ji14)).f0) < x10_1 then (cubitref29_next.l0 k1 l0 l1 a2 true ((rd_T41 l1 (ji14)).f0) true (wrap64 (x12_1 + 1))) else (cubitref29_next.l0 k1 l0 l1 a2 true x10_1 true (wrap64 (x12_1 + 1)))) = some (r1, r2) := by rw [if_pos rfl] at H; exact H
                    clear H
                    have H := H1
                    clear H1
                    by_cases c20 : ((rd_T41 l1 (ji14)).f0) < x10_1
                    · rw [if_pos c20] at H
                      have c20b0 : decide (((rd_T41 l1 (ji14)).f0) < x10_1) = true := decide_eq_true c20
                      clear c20
                      have H' := Aside0.mk H
                      clear H
                      have p500 : 0 ≤ ((ji14) : Int) := of_decide_eq_true (by first | (with_reducible assumption) | assumption)
                      have q500 : (ji14) < (l1.length : Int) := of_decide_eq_true (by first | (with_reducible assumption) | assumption)
                      obtain ⟨ad500, A500_8, c500_8, e500, hx500_0, hx500_1, hx500_2, hx500_3, hx500_4, hx500_5, hx500_6, hx500_7, hx500_8, hx500_9, hx500_10, hl500_8, hi500_8⟩ := at_T41 HR1.out (ji14) p500 q500
                      cases e500
                      have HR500_8 := Aside0.mk hi500_8
                      have HC500_8 := Aside0.mk hl500_8
                      clear hi500_8 hl500_8
                      replace p500 := eq_true p500
                      replace q500 := eq_true q500
                      go_wp2
                      go_roundg k1
                      case measure => have := HK1.out; omega
                      case rel => exact ⟨((rd_T41 l1 (ji14)).f0), (true), (wrap64 (x12_1 + 1)), (by first | rfl | (simp; done) | (simp only [← hji14] <;> (first | rfl | simp)) | (simp [*]; done)), (by first | rfl | (simp; done) | (simp [*]; done)), (by first | rfl | (simp; done) | (simp [*]; done)), H', ⟨by have := HK1.out; omega⟩, by repeat (first | exact Drawn0.refl _ | apply Drawn0.step)⟩
                    · rw [if_neg c20] at H
                      have c20b0 : decide (((rd_T41 l1 (ji14)).f0) < x10_1) = false := decide_eq_false c20
                      clear c20
                      have H' := Aside0.mk H
                      clear H
                      have p500 : 0 ≤ ((ji14) : Int) := of_decide_eq_true (by first | (with_reducible assumption) | assumption)
                      have q500 : (ji14) < (l1.length : Int) := of_decide_eq_true (by first | (with_reducible assumption) | assumption)
                      obtain ⟨ad500, A500_8, c500_8, e500, hx500_0, hx500_1, hx500_2, hx500_3, hx500_4, hx500_5, hx500_6, hx500_7, hx500_8, hx500_9, hx500_10, hl500_8, hi500_8⟩ := at_T41 HR1.out (ji14) p500 q500
                      cases e500
                      have HR500_8 := Aside0.mk hi500_8
                      have HC500_8 := Aside0.mk hl500_8
                      clear hi500_8 hl500_8
                      replace p500 := eq_true p500
                      replace q500 := eq_true q500
                      go_wp2
                      go_roundg k1
                      case measure => have := HK1.out; omega
                      case rel => exact ⟨(x10_1), (true), (wrap64 (x12_1 + 1)), (by first | rfl | (simp; done) | (simp [*]; done)), (by first | rfl | (simp; done) | (simp [*]; done)), (by first | rfl | (simp; done) | (simp [*]; done)), H', ⟨by have := HK1.out; omega⟩, by repeat (first | exact Drawn0.refl _ | apply Drawn0.step)⟩
                  · replace c19 := Bool.eq_false_iff.mpr c19
                    subst c19
                    have H1 : (cubitref29_next.l0 k1 l0 l1 a2 true ((rd_T41 l1 (ji14)).f0) true (wrap64 (x12_1 + 1))) = some (r1, r2) := by rw [if_neg (show ¬ (false = true) by decide)] at H; exact H
                    clear H
                    have H := H1
                    clear H1
                    have H' := Aside0.mk H
                    clear H
                    have p500 : 0 ≤ ((ji14) : Int) := of_decide_eq_true (by first | (with_reducible assumption) | assumption)
                    have q500 : (ji14) < (l1.length : Int) := of_decide_eq_true (by first | (with_reducible assumption) | assumption)
                    obtain ⟨ad500, A500_8, c500_8, e500, hx500_0, hx500_1, hx500_2, hx500_3, hx500_4, hx500_5, hx500_6, hx500_7, hx500_8, hx500_9, hx500_10, hl500_8, hi500_8⟩ := at_T41 HR1.out (ji14) p500 q500
                    cases e500
                    have HR500_8 := Aside0.mk hi500_8
                    have HC500_8 := Aside0.mk hl500_8
                    clear hi500_8 hl500_8
                    replace p500 := eq_true p500
                    replace q500 := eq_true q500
                    go_wp2
                    go_roundg k1
                    case measure => have := HK1.out; omega
                    case rel => exact ⟨((rd_T41 l1 (ji14)).f0), (true), (wrap64 (x12_1 + 1)), (by first | rfl | (simp; done) | (simp only [← hji14] <;> (first | rfl | simp)) | (simp [*]; done)), (by first | rfl | (simp; done) | (simp [*]; done)), (by first | rfl | (simp; done) | (simp [*]; done)), H', ⟨by have := HK1.out; omega⟩, by repeat (first | exact Drawn0.refl _ | apply Drawn0.step)⟩
                · rw [if_neg c18] at H
                  have c18b0 : decide (a2 < ((rd_T41 l1 (ji14)).f0)) = false := decide_eq_false c18
                  clear c18
                  have H' := Aside0.mk H
                  clear H
                  have p500 : 0 ≤ ((ji14) : Int) := of_decide_eq_true (by first | (with_reducible assumption) | assumption)
                  have q500 : (ji14) < (l1.length : Int) := of_decide_eq_true (by first | (with_reducible assumption) | assumption)
                  obtain ⟨ad500, A500_8, c500_8, e500, hx500_0, hx500_1, hx500_2, hx500_3, hx500_4, hx500_5, hx500_6, hx500_7, hx500_8, hx500_9, hx500_10, hl500_8, hi500_8⟩ := at_T41 HR1.out (ji14) p500 q500
                  cases e500
                  have HR500_8 := Aside0.mk hi500_8
                  have HC500_8 := Aside0.mk hl500_8
                  clear hi500_8 hl500_8
                  replace p500 := eq_true p500
                  replace q500 := eq_true q500
                  go_wp2
                  go_roundg k1
                  case measure => have := HK1.out; omega
                  case rel => exact ⟨(x10_1), (x11_1), (wrap64 (x12_1 + 1)), (by first | rfl | (simp; done) | (simp [*]; done)), (by first | rfl | (simp; done) | (simp [*]; done)), (by first | rfl | (simp; done) | (simp [*]; done)), H', ⟨by have := HK1.out; omega⟩, by repeat (first | exact Drawn0.refl _ | apply Drawn0.step)⟩
              · replace c17 := Bool.eq_false_iff.mpr c17
                subst c17
                have H1 : (if x11_1 = true then (if ((rd_T41 l1 (ji14)).f0) < x10_1 then (cubitref29_next.l0 k1 l0 l1 a2 false ((rd_T41 l1 (ji14)).f0) true (wrap64 (x12_1 + 1))) else (cubitref29_next.l0 k1 l0 l1 a2 false x10_1 x11_1 (wrap64 (x12_1 + 1)))) else (cubitref29_next.l0 k1 l0 l1 a2 false ((rd_T41 l1 (ji14)).f0) true (wrap64 (x12_1 + 1)))) = some (r1, r2) := by rw [if_neg (show ¬ (false = true) by decide)] at H; exact H
                clear H
                have H := H1
                clear H1
                by_cases c21 : x11_1 = true
                · subst c21
                  have H1 : (if ((rd_T41 l1 (ji14)).f0) < x10_1 then (cubitref29_next.l0 k1 l0 l1 a2 false ((rd_T41 l1 (ji14)).f0) true (wrap64 (x12_1 + 1))) else (cubitref29_next.l0 k1 l0 l1 a2 false x10_1 true (wrap64 (x12_1 + 1)))) = some (r1, r2) := by rw [if_pos rfl] at H; exact H
                  clear H
                  have H := H1
                  clear H1
                  by_cases c22 : ((rd_T41 l1 (ji14)).f0) < x10_1
                  · rw [if_pos c22] at H
                    have c22b0 : decide (((rd_T41 l1 (ji14)).f0) < x10_1) = true := decide_eq_true c22
                    clear c22
                    have H' := Aside0.mk H
                    clear H
                    have p500 : 0 ≤ ((ji14) : Int) := of_decide_eq_true (by first | (with_reducible assumption) | assumption)
                    have q500 : (ji14) < (l1.length : Int) := of_decide_eq_true (by first | (with_reducible assumption) | assumption)
                    obtain ⟨ad500, A500_8, c500_8, e500, hx500_0, hx500_1, hx500_2, hx500_3, hx500_4, hx500_5, hx500_6, hx500_7, hx500_8, hx500_9, hx500_10, hl500_8, hi500_8⟩ := at_T41 HR1.out (ji14) p500 q500
                    cases e500
                    have HR500_8 := Aside0.mk hi500_8
                    have HC500_8 := Aside0.mk hl500_8
                    clear hi500_8 hl500_8
                    replace p500 := eq_true p500
                    replace q500 := eq_true q500
                    go_wp2
                    go_roundg k1
                    case measure => have := HK1.out; omega
                    case rel => exact ⟨((rd_T41 l1 (ji14)).f0), (true), (wrap64 (x12_1 + 1)), (by first | rfl | (simp; done) | (simp only [← hji14] <;> (first | rfl | simp)) | (simp [*]; done)), (by first | rfl | (simp; done) | (simp [*]; done)), (by first | rfl | (simp; done) | (simp [*]; done)), H', ⟨by have := HK1.out; omega⟩, by repeat (first | exact Drawn0.refl _ | apply Drawn0.step)⟩
                  · rw [if_neg c22] at H
                    have c22b0 : decide (((rd_T41 l1 (ji14)).f0) < x10_1) = false := decide_eq_false c22
                    clear c22
                    have H' := Aside0.mk H
                    clear H
                    have p500 : 0 ≤ ((ji14) : Int) := of_decide_eq_true (by first | (with_reducible assumption) | assumption)
                    have q500 : (ji14) < (l1.length : Int) := of_decide_eq_true (by first | (with_reducible assumption) | assumption)
                    obtain ⟨ad500, A500_8, c500_8, e500, hx500_0, hx500_1, hx500_2, hx500_3, hx500_4, hx500_5, hx500_6, hx500_7, hx500_8, hx500_9, hx500_10, hl500_8, hi500_8⟩ := at_T41 HR1.out (ji14) p500 q500
                    cases e500
                    have HR500_8 := Aside0.mk hi500_8
                    have HC500_8 := Aside0.mk hl500_8
                    clear hi500_8 hl500_8
                    replace p500 := eq_true p500
                    replace q500 := eq_true q500
                    go_wp2
                    go_roundg k1
                    case measure => have := HK1.out; omega
                    case rel => exact ⟨(x10_1), (true), (wrap64 (x12_1 + 1)), (by first | rfl | (simp; done) | (simp [*]; done)), (by first | rfl | (simp; done) | (simp [*]; done)), (by first | rfl | (simp; done) | (simp [*]; done)), H', ⟨by have := HK1.out; omega⟩, by repeat (first | exact Drawn0.refl _ | apply Drawn0.step)⟩
                · replace c21 := Bool.eq_false_iff.mpr c21
                  subst c21
                  have H1 : (cubitref29_next.l0 k1 l0 l1 a2 false ((rd_T41 l1 (ji14)).f0) true (wrap64 (x12_1 + 1))) = some (r1, r2) := by rw [if_neg (show ¬ (false = true) by decide)] at H; exact H
                  clear H
                  have H := H1
                  clear H1
                  have H' := Aside0.mk H
                  clear H
                  have p500 : 0 ≤ ((ji14) : Int) := of_decide_eq_true (by first | (with_reducible assumption) | assumption)
                  have q500 : (ji14) < (l1.length : Int) := of_decide_eq_true (by first | (with_reducible assumption) | assumption)
                  obtain ⟨ad500, A500_8, c500_8, e500, hx500_0, hx500_1, hx500_2, hx500_3, hx500_4, hx500_5, hx500_6, hx500_7, hx500_8, hx500_9, hx500_10, hl500_8, hi500_8⟩ := at_T41 HR1.out (ji14) p500 q500
                  cases e500
                  have HR500_8 := Aside0.mk hi500_8
                  have HC500_8 := Aside0.mk hl500_8
                  clear hi500_8 hl500_8
                  replace p500 := eq_true p500
                  replace q500 := eq_true q500
                  go_wp2
                  go_roundg k1
                  case measure => have := HK1.out; omega
                  case rel => exact ⟨((rd_T41 l1 (ji14)).f0), (true), (wrap64 (x12_1 + 1)), (by first | rfl | (simp; done) | (simp only [← hji14] <;> (first | rfl | simp)) | (simp [*]; done)), (by first | rfl | (simp; done) | (simp [*]; done)), (by first | rfl | (simp; done) | (simp [*]; done)), H', ⟨by have := HK1.out; omega⟩, by repeat (first | exact Drawn0.refl _ | apply Drawn0.step)⟩
            · rw [if_neg c16] at H
              exact absurd H (by simp)
          · rw [if_neg c15] at H
            exact absurd H (by simp)
      · rw [if_neg c5] at H
        have c5b0 : decide (x12_1 < (wrap64 ((l0.length : Int) + (l1.length : Int)))) = false := decide_eq_false c5
        clear c5
        simp only [Option.some.injEq, Prod.mk.injEq] at H
        obtain ⟨rfl, rfl⟩ := H
        go_wp2
        go_ret2
        exact ⟨by first | rfl | (simp; done) | (simp [*]; done), by repeat (first | exact Drawn0.refl _ | apply Drawn0.step)⟩
end Go.Proofs.YthbdjmopolpjmaaGreatDoor.F
end
section
namespace Go.Proofs.YthbdjmopolpjmaaGreatDoor.F
open Go.RowKit Go.Proofs.YthbdjmopolpjmaaGreatDoorW.PrintWords Go.Proofs.YthbdjmopolpjmaaGreatDoorW.PrintLast Go.Proofs.YthbdjmopolpjmaaGreatDoorW.PrintMore
attribute [local go_sem] max2_int min2_int max_two min_two max_three min_three max_four min_four
set_option linter.unusedVariables false
set_option linter.unusedSimpArgs false
def cubitref29_find.l0 : Nat → List (S41) → Int → Int → Option (Int)
  | 0, _, _, _ => none
  | k + 1, x0, x1, x5 => if x5 < (x0.length : Int) then (if 0 ≤ x5 then (if ((rd_T41 x0 x5).f0) = x1 then (some x5) else (cubitref29_find.l0 k x0 x1 (wrap64 (x5 + 1)))) else (none)) else (some (-1))
def cubitref29_find.f (k : Nat) (l0 : List (S41)) (a1 : Int) : Option (Int) := cubitref29_find.l0 k l0 a1 0
theorem cubitref29_find.mono_l : ∀ k, (∀ y0 y1 y2, LeO (cubitref29_find.l0 k y0 y1 y2) (cubitref29_find.l0 (k + 1) y0 y1 y2))
  | 0 => fun _ _ _ r h => by simp [cubitref29_find.l0] at h
  | k + 1 => by
    have ih0 := cubitref29_find.mono_l k
    · intro y0 y1 y2
      unfold cubitref29_find.l0
      repeat' first
      | (with_reducible exact ih0 _ _ _)
      | (with_reducible exact LeO.refl _)
      | (with_reducible exact LeO.none _)
      | (with_reducible refine LeO.ite ?_ ?_)
      | (with_reducible refine LeO.bind ?_ (fun _ => ?_))
      | exact ih0 _ _ _
      | exact LeO.none _
      | refine LeO.ite ?_ ?_
      | refine LeO.bind ?_ (fun _ => ?_)
theorem cubitref29_find.mono : ∀ a0 a1 k, LeO (cubitref29_find.f k a0 a1) (cubitref29_find.f (k + 1) a0 a1) := by
  intro a0 a1 k
  have ih0 := cubitref29_find.mono_l k
  unfold cubitref29_find.f
  repeat' first
      | (with_reducible exact ih0 _ _ _)
      | (with_reducible exact LeO.refl _)
      | (with_reducible exact LeO.none _)
      | (with_reducible refine LeO.ite ?_ ?_)
      | (with_reducible refine LeO.bind ?_ (fun _ => ?_))
      | exact ih0 _ _ _
      | exact LeO.none _
      | refine LeO.ite ?_ ?_
      | refine LeO.bind ?_ (fun _ => ?_)
set_option maxHeartbeats 8000000 in
set_option maxRecDepth 100000 in
theorem cubitref29_find.calls (k : Nat) (A0 : Option Addr) (c0 : Nat) (l0 : List (S41)) (a1 : Int) (r : Int) (w : World) (hr0 : Kd.C k41 w A0 l0.length l0) (hc0 : l0.length ≤ c0) (h : cubitref29_find.f k l0 a1 = some r) :
    Calls Tryz.prog 34 #[.slice A0 l0.length c0, .int .i64 a1] w fun e w' => e = .returned (.int .i64 r) ∧ Drawn0 w w' := by
  have HR0 := Aside0.mk hr0
  have HC0 := Aside0.mk hc0
  clear hr0 hc0
  have H : (cubitref29_find.l0 k l0 a1 0) = some r := h
  clear h
  have H' := Aside0.mk H
  clear H
  go_enter Tryz.func34, Tryz.ntmps34
  go_wp2
  go_loopg [5] k (fun kq v5 w' => ∃ (x5_1 : Int), v5 = .int .i64 x5_1 ∧ Aside0 (cubitref29_find.l0 kq l0 a1 x5_1 = some r) ∧ Aside0 (kq ≤ k) ∧ Drawn0 w w')
  case atStart => exact ⟨(0), (by first | rfl | (simp; done) | (simp [*]; done)), H', ⟨Nat.le_refl _⟩, by repeat (first | exact Drawn0.refl _ | apply Drawn0.step)⟩
  case round =>
    clear H'
    try clear p2
    obtain ⟨x5_1, rfl, HA, HK1, ⟨m1, rfl⟩⟩ := hrel
    cases gk with
    | zero => exact absurd HA.out (by simp [cubitref29_find.l0])
    | succ k1 =>
      have H := HA.out
      clear HA
      simp only [cubitref29_find.l0] at H
      by_cases c3 : x5_1 < (l0.length : Int)
      · rw [if_pos c3] at H
        have c3b0 : decide (x5_1 < (l0.length : Int)) = true := decide_eq_true c3
        clear c3
        by_cases c4 : 0 ≤ x5_1
        · rw [if_pos c4] at H
          have c4b0 : decide (0 ≤ x5_1) = true := decide_eq_true c4
          clear c4
          by_cases c5 : ((rd_T41 l0 x5_1).f0) = a1
          · rw [if_pos c5] at H
            have c5b0 : (((rd_T41 l0 x5_1).f0) == a1) = true := beq_iff_eq.mpr c5
            have c5b1 : (((rd_T41 l0 x5_1).f0) != a1) = false := bne_eq_false_iff_eq.mpr c5
            clear c5
            obtain rfl := Option.some.inj H
            have p501 : 0 ≤ (x5_1 : Int) := of_decide_eq_true (by first | (with_reducible assumption) | assumption)
            have q501 : x5_1 < (l0.length : Int) := of_decide_eq_true (by first | (with_reducible assumption) | assumption)
            obtain ⟨ad501, A501_8, c501_8, e501, hx501_0, hx501_1, hx501_2, hx501_3, hx501_4, hx501_5, hx501_6, hx501_7, hx501_8, hx501_9, hx501_10, hl501_8, hi501_8⟩ := at_T41 HR0.out x5_1 p501 q501
            cases e501
            have HR501_8 := Aside0.mk hi501_8
            have HC501_8 := Aside0.mk hl501_8
            clear hi501_8 hl501_8
            replace p501 := eq_true p501
            replace q501 := eq_true q501
            go_wp2
            go_ret
            exact ⟨by first | rfl | (simp; done) | (simp [*]; done), by repeat (first | exact Drawn0.refl _ | apply Drawn0.step)⟩
          · rw [if_neg c5] at H
            have c5b0 : (((rd_T41 l0 x5_1).f0) == a1) = false := beq_eq_false_iff_ne.mpr c5
            have c5b1 : (((rd_T41 l0 x5_1).f0) != a1) = true := bne_iff_ne.mpr c5
            have H' := Aside0.mk H
            clear H
            have p501 : 0 ≤ (x5_1 : Int) := of_decide_eq_true (by first | (with_reducible assumption) | assumption)
            have q501 : x5_1 < (l0.length : Int) := of_decide_eq_true (by first | (with_reducible assumption) | assumption)
            obtain ⟨ad501, A501_8, c501_8, e501, hx501_0, hx501_1, hx501_2, hx501_3, hx501_4, hx501_5, hx501_6, hx501_7, hx501_8, hx501_9, hx501_10, hl501_8, hi501_8⟩ := at_T41 HR0.out x5_1 p501 q501
            cases e501
            have HR501_8 := Aside0.mk hi501_8
            have HC501_8 := Aside0.mk hl501_8
            clear hi501_8 hl501_8
            replace p501 := eq_true p501
            replace q501 := eq_true q501
            go_wp2
            go_roundg k1
            case measure => have := HK1.out; omega
            case rel => exact ⟨(wrap64 (x5_1 + 1)), (by first | rfl | (simp; done) | (simp [*]; done)), H', ⟨by have := HK1.out; omega⟩, by repeat (first | exact Drawn0.refl _ | apply Drawn0.step)⟩
        · rw [if_neg c4] at H
          exact absurd H (by simp)
      · rw [if_neg c3] at H
        have c3b0 : decide (x5_1 < (l0.length : Int)) = false := decide_eq_false c3
        clear c3
        obtain rfl := Option.some.inj H
        go_wp2
        go_ret
        exact ⟨by first | rfl | (simp; done) | (simp [*]; done), by repeat (first | exact Drawn0.refl _ | apply Drawn0.step)⟩
end Go.Proofs.YthbdjmopolpjmaaGreatDoor.F
end
