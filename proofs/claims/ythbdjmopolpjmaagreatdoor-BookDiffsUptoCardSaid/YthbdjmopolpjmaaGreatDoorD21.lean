/- Part 21 of the proof: CDiff1, CDiff2, MOut. -/
import Derived.BigRegion
import Derived.Test.YthbdjmopolpjmaaGreatDoorD00
import Derived.Test.YthbdjmopolpjmaaGreatDoorD01
import Derived.Test.YthbdjmopolpjmaaGreatDoorD02
import Derived.Test.YthbdjmopolpjmaaGreatDoorD03
import Derived.Test.YthbdjmopolpjmaaGreatDoorD04
import Derived.Test.YthbdjmopolpjmaaGreatDoorD05
import Derived.Test.YthbdjmopolpjmaaGreatDoorD06
import Derived.Test.YthbdjmopolpjmaaGreatDoorD07
import Derived.Test.YthbdjmopolpjmaaGreatDoorD08
import Derived.Test.YthbdjmopolpjmaaGreatDoorD09
import Derived.Test.YthbdjmopolpjmaaGreatDoorD10
import Derived.Test.YthbdjmopolpjmaaGreatDoorD11
import Derived.Test.YthbdjmopolpjmaaGreatDoorD12
import Derived.Test.YthbdjmopolpjmaaGreatDoorD13
import Derived.Test.YthbdjmopolpjmaaGreatDoorD14
import Derived.Test.YthbdjmopolpjmaaGreatDoorD15
import Derived.Test.YthbdjmopolpjmaaGreatDoorD16
import Derived.Test.YthbdjmopolpjmaaGreatDoorD17
import Derived.Test.YthbdjmopolpjmaaGreatDoorD18
import Derived.Test.YthbdjmopolpjmaaGreatDoorD19
import Derived.Test.YthbdjmopolpjmaaGreatDoorD20
section
set_option linter.unusedVariables false
set_option linter.unusedSimpArgs false
namespace Go.Proofs.YthbdjmopolpjmaaGreatDoor.C
open Go.RowKit Go.Proofs.YthbdjmopolpjmaaGreatDoorW.PrintWords Go.Proofs.YthbdjmopolpjmaaGreatDoorW.PrintLast Go.Proofs.YthbdjmopolpjmaaGreatDoorW.PrintMore Go.Proofs.YthbdjmopolpjmaaGreatDoor.F Go.Proofs.YthbdjmopolpjmaaGreatDoor.M
attribute [local go_sem] max2_int min2_int max_two min_two max_three min_three max_four min_four
def addT (s name : ByteArray) (same : Bool) : ByteArray := if same then s else s ++ (⟨#[32]⟩ ++ name)
def fld (x y : S41) : List (ByteArray × Bool) := [(⟨#[87, 104, 97, 116]⟩, (x.f1.toList == y.f1.toList)), (⟨#[86, 97, 108, 117, 101]⟩, (x.f2.f0.toList == y.f2.f0.toList && (x.f2.f1.toList == y.f2.f1.toList))), (⟨#[83, 112, 114, 101, 97, 100]⟩, (x.f3.f0.toList == y.f3.f0.toList && (x.f3.f1.toList == y.f3.f1.toList))), (⟨#[85, 110, 105, 116]⟩, (x.f4.toList == y.f4.toList)), (⟨#[68, 97, 121]⟩, (decide (x.f5 = y.f5))), (⟨#[84, 97, 103, 115]⟩, (eqL x.f6 y.f6)), (⟨#[79, 102]⟩, (decide (x.f7 = y.f7))), (⟨#[86, 111, 105, 100]⟩, (x.f8 == y.f8))]
def diffT (x y : S41) : ByteArray := (fld x y).foldl (fun s p => addT s p.1 p.2) ⟨#[]⟩
theorem addT_size (s name : ByteArray) (same : Bool) (j : Nat) (hn : name.size ≤ 9) (hs : s.size ≤ 10 * j) : (addT s name same).size ≤ 10 * (j + 1) := by
  unfold addT
  split
  · omega
  · rw [ByteArray.size_append, ByteArray.size_append]
    have : (⟨#[32]⟩ : ByteArray).size = 1 := rfl
    omega
set_option maxRecDepth 100000 in
theorem add_call (name s : ByteArray) (same : Bool) (g j : Nat) (w : World) (hn : name.size ≤ 9) (hs : s.size ≤ 10 * j) (hj : j ≤ 100) (hg : w.heap[g]? = some (.cells #[.string s] 9 (0, 0))) :
    Calls Tryz.prog 63 #[.string name, .bool same, .pointer (some ⟨g, 0, none⟩)] w fun e w' => e = .returned (.tuple #[]) ∧ w'.heap[g]? = some (.cells #[.string (addT s name same)] 9 (0, 0)) ∧ Below g w w' ∧ (addT s name same).size ≤ 10 * (j + 1) := by
  have HG := Aside0.mk (And.intro hg (addT_size s name same j hn hs))
  have n1 : ¬ 9223372036854775807 < 1 + name.size := by omega
  have n2 : ¬ 9223372036854775807 < s.size + (1 + name.size) := by omega
  clear hn hs hj
  have hc : w.cell? ⟨g, 0, none⟩ = some (.string s) := by simpa using blk_cell hg 0
  have hz : w.frozen? ⟨g, 0, none⟩ = false := blk_frozen hg 0
  clear hg
  cases same
  · go_enter Tryz.func63, Tryz.ntmps63
    go_wp2_with fail
    go_end0
    refine ⟨rfl, blk_set HG.out.1 0 _, Below.setCell (p := ⟨g, 0, none⟩) (Below.refl _ _) (Nat.le_refl _) _, HG.out.2⟩
  · go_enter Tryz.func63, Tryz.ntmps63
    go_wp2_with fail
    go_end0
    exact ⟨rfl, HG.out.1, Below.refl _ _, HG.out.2⟩
set_option maxRecDepth 100000 in
set_option maxHeartbeats 8000000 in
theorem differ_call (x y : S41) (A A2 : Option Addr) (c c2 : Nat) (w : World) (hC : Kd.string.C w A x.f6.length x.f6) (hc : x.f6.length ≤ c) (hC2 : Kd.string.C w A2 y.f6.length y.f6) (hc2 : y.f6.length ≤ c2) (hl : x.f6.length ≤ 1048576) :
    Calls Tryz.prog 32 #[EV x A c, EV y A2 c2] w fun e w' => e = .returned (.string (diffT x y)) ∧ Below w.heap.size w w' := by
  have HC := Aside0.mk (And.intro hC (And.intro hc (And.intro hC2 (And.intro hc2 hl))))
  have hmf : ∀ (fn : Fn) (first cap : Array Value) (w : World), (Instr.makeFunc fn first cap).run Tryz.prog w = .ok (.func fn first cap) w := fun _ _ _ _ => rfl
  have h39 := eqA39
  have hb0 : Below w.heap.size w (((w.alloc (.cells #[.int .i64 x.f0, .string x.f1, .string x.f2.f0, .string x.f2.f1, .string x.f3.f0, .string x.f3.f1, .string x.f4, .int .i64 x.f5, .slice A x.f6.length c, .int .i64 x.f7, .bool x.f8] 41)).alloc (.cells #[.int .i64 y.f0, .string y.f1, .string y.f2.f0, .string y.f2.f1, .string y.f3.f0, .string y.f3.f1, .string y.f4, .int .i64 y.f5, .slice A2 y.f6.length c2, .int .i64 y.f7, .bool y.f8] 41)).alloc (.cells #[.string ⟨#[]⟩] 9)) := by exact below_alloc (below_alloc (below_alloc (Below.refl _ _) _) _) _
  have hx0 : ((((w.alloc (.cells #[.int .i64 x.f0, .string x.f1, .string x.f2.f0, .string x.f2.f1, .string x.f3.f0, .string x.f3.f1, .string x.f4, .int .i64 x.f5, .slice A x.f6.length c, .int .i64 x.f7, .bool x.f8] 41)).alloc (.cells #[.int .i64 y.f0, .string y.f1, .string y.f2.f0, .string y.f2.f1, .string y.f3.f0, .string y.f3.f1, .string y.f4, .int .i64 y.f5, .slice A2 y.f6.length c2, .int .i64 y.f7, .bool y.f8] 41)).alloc (.cells #[.string ⟨#[]⟩] 9))).heap[w.heap.size]? = some (.cells #[.int .i64 x.f0, .string x.f1, .string x.f2.f0, .string x.f2.f1, .string x.f3.f0, .string x.f3.f1, .string x.f4, .int .i64 x.f5, .slice A x.f6.length c, .int .i64 x.f7, .bool x.f8] 41 (0, 0)) := by
    exact (Below.heap_alloc _ _ _ (by simp; omega)).trans ((Below.heap_alloc _ _ _ (by simp)).trans (blk_new w _))
  have hy0 : ((((w.alloc (.cells #[.int .i64 x.f0, .string x.f1, .string x.f2.f0, .string x.f2.f1, .string x.f3.f0, .string x.f3.f1, .string x.f4, .int .i64 x.f5, .slice A x.f6.length c, .int .i64 x.f7, .bool x.f8] 41)).alloc (.cells #[.int .i64 y.f0, .string y.f1, .string y.f2.f0, .string y.f2.f1, .string y.f3.f0, .string y.f3.f1, .string y.f4, .int .i64 y.f5, .slice A2 y.f6.length c2, .int .i64 y.f7, .bool y.f8] 41)).alloc (.cells #[.string ⟨#[]⟩] 9))).heap[w.heap.size + 1]? = some (.cells #[.int .i64 y.f0, .string y.f1, .string y.f2.f0, .string y.f2.f1, .string y.f3.f0, .string y.f3.f1, .string y.f4, .int .i64 y.f5, .slice A2 y.f6.length c2, .int .i64 y.f7, .bool y.f8] 41 (0, 0)) := by
    exact (Below.heap_alloc _ _ _ (by simp)).trans (by have := blk_new (w.alloc (.cells #[.int .i64 x.f0, .string x.f1, .string x.f2.f0, .string x.f2.f1, .string x.f3.f0, .string x.f3.f1, .string x.f4, .int .i64 x.f5, .slice A x.f6.length c, .int .i64 x.f7, .bool x.f8] 41)) (.cells #[.int .i64 y.f0, .string y.f1, .string y.f2.f0, .string y.f2.f1, .string y.f3.f0, .string y.f3.f1, .string y.f4, .int .i64 y.f5, .slice A2 y.f6.length c2, .int .i64 y.f7, .bool y.f8] 41); simpa using this)
  have hg0 : ((((w.alloc (.cells #[.int .i64 x.f0, .string x.f1, .string x.f2.f0, .string x.f2.f1, .string x.f3.f0, .string x.f3.f1, .string x.f4, .int .i64 x.f5, .slice A x.f6.length c, .int .i64 x.f7, .bool x.f8] 41)).alloc (.cells #[.int .i64 y.f0, .string y.f1, .string y.f2.f0, .string y.f2.f1, .string y.f3.f0, .string y.f3.f1, .string y.f4, .int .i64 y.f5, .slice A2 y.f6.length c2, .int .i64 y.f7, .bool y.f8] 41)).alloc (.cells #[.string ⟨#[]⟩] 9))).heap[w.heap.size + 1 + 1]? = some (.cells #[.string ⟨#[]⟩] 9 (0, 0)) := by
    have := blk_new ((w.alloc (.cells #[.int .i64 x.f0, .string x.f1, .string x.f2.f0, .string x.f2.f1, .string x.f3.f0, .string x.f3.f1, .string x.f4, .int .i64 x.f5, .slice A x.f6.length c, .int .i64 x.f7, .bool x.f8] 41)).alloc (.cells #[.int .i64 y.f0, .string y.f1, .string y.f2.f0, .string y.f2.f1, .string y.f3.f0, .string y.f3.f1, .string y.f4, .int .i64 y.f5, .slice A2 y.f6.length c2, .int .i64 y.f7, .bool y.f8] 41)) (.cells #[.string ⟨#[]⟩] 9)
    simpa using this
  have HW0 := Aside0.mk (And.intro hb0 (And.intro hx0 (And.intro hy0 (And.intro hg0 (show (⟨#[]⟩ : ByteArray).size ≤ 10 * 0 by decide)))))
  clear hC hc hC2 hc2 hl hb0 hx0 hy0 hg0
  go_enter Tryz.func32, Tryz.ntmps32
  unfold EV
  go_wp2_with fail
  refine (add_call _ _ _ _ 0 _ (by decide) HW0.out.2.2.2.2 (by decide) HW0.out.2.2.2.1).mono ?_
  rintro e W1 ⟨rfl, hG, hb, hz⟩
  have HW1 := Aside0.mk (And.intro (HW0.out.1.trans (hb.mono (by omega))) (And.intro ((hb.block _ (by omega)).trans HW0.out.2.1) (And.intro ((hb.block _ (by omega)).trans HW0.out.2.2.1) (And.intro hG hz))))
  clear hG hb hz
  obtain ⟨ex0, ex1, ex2, ex3, ex4, ex5, ex6, ex7, ex8, ex9, ex10⟩ := eleven HW1.out.2.1
  obtain ⟨ey0, ey1, ey2, ey3, ey4, ey5, ey6, ey7, ey8, ey9, ey10⟩ := eleven HW1.out.2.2.1
  have es : W1.cell? ⟨w.heap.size + 1 + 1, 0, none⟩ = some (.string _) := (blk_cell HW1.out.2.2.2.1 0).trans rfl
  go_wp2_with fail
  clear ex0 ex1 ex2 ex3 ex4 ex5 ex6 ex7 ex8 ex9 ex10 ey0 ey1 ey2 ey3 ey4 ey5 ey6 ey7 ey8 ey9 ey10 es
  refine (add_call _ _ _ _ 1 _ (by decide) HW1.out.2.2.2.2 (by decide) HW1.out.2.2.2.1).mono ?_
  rintro e W2 ⟨rfl, hG, hb, hz⟩
  have HW2 := Aside0.mk (And.intro (HW1.out.1.trans (hb.mono (by omega))) (And.intro ((hb.block _ (by omega)).trans HW1.out.2.1) (And.intro ((hb.block _ (by omega)).trans HW1.out.2.2.1) (And.intro hG hz))))
  clear hG hb hz
  obtain ⟨ex0, ex1, ex2, ex3, ex4, ex5, ex6, ex7, ex8, ex9, ex10⟩ := eleven HW2.out.2.1
  obtain ⟨ey0, ey1, ey2, ey3, ey4, ey5, ey6, ey7, ey8, ey9, ey10⟩ := eleven HW2.out.2.2.1
  have es : W2.cell? ⟨w.heap.size + 1 + 1, 0, none⟩ = some (.string _) := (blk_cell HW2.out.2.2.2.1 0).trans rfl
  go_wp2_with fail
  clear ex0 ex1 ex2 ex3 ex4 ex5 ex6 ex7 ex8 ex9 ex10 ey0 ey1 ey2 ey3 ey4 ey5 ey6 ey7 ey8 ey9 ey10 es
  refine (add_call _ _ _ _ 2 _ (by decide) HW2.out.2.2.2.2 (by decide) HW2.out.2.2.2.1).mono ?_
  rintro e W3 ⟨rfl, hG, hb, hz⟩
  have HW3 := Aside0.mk (And.intro (HW2.out.1.trans (hb.mono (by omega))) (And.intro ((hb.block _ (by omega)).trans HW2.out.2.1) (And.intro ((hb.block _ (by omega)).trans HW2.out.2.2.1) (And.intro hG hz))))
  clear hG hb hz
  obtain ⟨ex0, ex1, ex2, ex3, ex4, ex5, ex6, ex7, ex8, ex9, ex10⟩ := eleven HW3.out.2.1
  obtain ⟨ey0, ey1, ey2, ey3, ey4, ey5, ey6, ey7, ey8, ey9, ey10⟩ := eleven HW3.out.2.2.1
  have es : W3.cell? ⟨w.heap.size + 1 + 1, 0, none⟩ = some (.string _) := (blk_cell HW3.out.2.2.2.1 0).trans rfl
  go_wp2_with fail
  clear ex0 ex1 ex2 ex3 ex4 ex5 ex6 ex7 ex8 ex9 ex10 ey0 ey1 ey2 ey3 ey4 ey5 ey6 ey7 ey8 ey9 ey10 es
  refine (add_call _ _ _ _ 3 _ (by decide) HW3.out.2.2.2.2 (by decide) HW3.out.2.2.2.1).mono ?_
  rintro e W4 ⟨rfl, hG, hb, hz⟩
  have HW4 := Aside0.mk (And.intro (HW3.out.1.trans (hb.mono (by omega))) (And.intro ((hb.block _ (by omega)).trans HW3.out.2.1) (And.intro ((hb.block _ (by omega)).trans HW3.out.2.2.1) (And.intro hG hz))))
  clear hG hb hz
  obtain ⟨ex0, ex1, ex2, ex3, ex4, ex5, ex6, ex7, ex8, ex9, ex10⟩ := eleven HW4.out.2.1
  obtain ⟨ey0, ey1, ey2, ey3, ey4, ey5, ey6, ey7, ey8, ey9, ey10⟩ := eleven HW4.out.2.2.1
  have es : W4.cell? ⟨w.heap.size + 1 + 1, 0, none⟩ = some (.string _) := (blk_cell HW4.out.2.2.2.1 0).trans rfl
  go_wp2_with fail
  clear ex0 ex1 ex2 ex3 ex4 ex5 ex6 ex7 ex8 ex9 ex10 ey0 ey1 ey2 ey3 ey4 ey5 ey6 ey7 ey8 ey9 ey10 es
  refine (add_call _ _ _ _ 4 _ (by decide) HW4.out.2.2.2.2 (by decide) HW4.out.2.2.2.1).mono ?_
  rintro e W5 ⟨rfl, hG, hb, hz⟩
  have HW5 := Aside0.mk (And.intro (HW4.out.1.trans (hb.mono (by omega))) (And.intro ((hb.block _ (by omega)).trans HW4.out.2.1) (And.intro ((hb.block _ (by omega)).trans HW4.out.2.2.1) (And.intro hG hz))))
  clear hG hb hz
  obtain ⟨ex0, ex1, ex2, ex3, ex4, ex5, ex6, ex7, ex8, ex9, ex10⟩ := eleven HW5.out.2.1
  obtain ⟨ey0, ey1, ey2, ey3, ey4, ey5, ey6, ey7, ey8, ey9, ey10⟩ := eleven HW5.out.2.2.1
  have es : W5.cell? ⟨w.heap.size + 1 + 1, 0, none⟩ = some (.string _) := (blk_cell HW5.out.2.2.2.1 0).trans rfl
  go_wp2_with fail
  clear ex0 ex1 ex2 ex3 ex4 ex5 ex6 ex7 ex8 ex9 ex10 ey0 ey1 ey2 ey3 ey4 ey5 ey6 ey7 ey8 ey9 ey10 es
  refine (slices_Equal_string_string.calls (x.f6.length + 1) A c x.f6 A2 c2 y.f6 (eqL x.f6 y.f6) _ (Kd.C_below HC.out.1 HW5.out.1) HC.out.2.1 (Kd.C_below HC.out.2.2.1 HW5.out.1) HC.out.2.2.2.1 (equal_texts x.f6 y.f6 HC.out.2.2.2.2)).mono ?_
  rintro e WT ⟨rfl, hd⟩
  have HWT := Aside0.mk (And.intro (below_then HW5.out.1 HW5.out.1.size hd.below) (And.intro (blk_below HW5.out.2.1 hd.below) (And.intro (blk_below HW5.out.2.2.1 hd.below) (And.intro (blk_below HW5.out.2.2.2.1 hd.below) HW5.out.2.2.2.2))))
  clear hd
  go_wp2_with fail
  refine (add_call _ _ _ _ 5 _ (by decide) HWT.out.2.2.2.2 (by decide) HWT.out.2.2.2.1).mono ?_
  rintro e W6 ⟨rfl, hG, hb, hz⟩
  have HW6 := Aside0.mk (And.intro (HWT.out.1.trans (hb.mono (by omega))) (And.intro ((hb.block _ (by omega)).trans HWT.out.2.1) (And.intro ((hb.block _ (by omega)).trans HWT.out.2.2.1) (And.intro hG hz))))
  clear hG hb hz
  obtain ⟨ex0, ex1, ex2, ex3, ex4, ex5, ex6, ex7, ex8, ex9, ex10⟩ := eleven HW6.out.2.1
  obtain ⟨ey0, ey1, ey2, ey3, ey4, ey5, ey6, ey7, ey8, ey9, ey10⟩ := eleven HW6.out.2.2.1
  have es : W6.cell? ⟨w.heap.size + 1 + 1, 0, none⟩ = some (.string _) := (blk_cell HW6.out.2.2.2.1 0).trans rfl
  go_wp2_with fail
  clear ex0 ex1 ex2 ex3 ex4 ex5 ex6 ex7 ex8 ex9 ex10 ey0 ey1 ey2 ey3 ey4 ey5 ey6 ey7 ey8 ey9 ey10 es
  refine (add_call _ _ _ _ 6 _ (by decide) HW6.out.2.2.2.2 (by decide) HW6.out.2.2.2.1).mono ?_
  rintro e W7 ⟨rfl, hG, hb, hz⟩
  have HW7 := Aside0.mk (And.intro (HW6.out.1.trans (hb.mono (by omega))) (And.intro ((hb.block _ (by omega)).trans HW6.out.2.1) (And.intro ((hb.block _ (by omega)).trans HW6.out.2.2.1) (And.intro hG hz))))
  clear hG hb hz
  obtain ⟨ex0, ex1, ex2, ex3, ex4, ex5, ex6, ex7, ex8, ex9, ex10⟩ := eleven HW7.out.2.1
  obtain ⟨ey0, ey1, ey2, ey3, ey4, ey5, ey6, ey7, ey8, ey9, ey10⟩ := eleven HW7.out.2.2.1
  have es : W7.cell? ⟨w.heap.size + 1 + 1, 0, none⟩ = some (.string _) := (blk_cell HW7.out.2.2.2.1 0).trans rfl
  go_wp2_with fail
  clear ex0 ex1 ex2 ex3 ex4 ex5 ex6 ex7 ex8 ex9 ex10 ey0 ey1 ey2 ey3 ey4 ey5 ey6 ey7 ey8 ey9 ey10 es
  refine (add_call _ _ _ _ 7 _ (by decide) HW7.out.2.2.2.2 (by decide) HW7.out.2.2.2.1).mono ?_
  rintro e W8 ⟨rfl, hG, hb, hz⟩
  have HW8 := Aside0.mk (And.intro (HW7.out.1.trans (hb.mono (by omega))) (And.intro ((hb.block _ (by omega)).trans HW7.out.2.1) (And.intro ((hb.block _ (by omega)).trans HW7.out.2.2.1) (And.intro hG hz))))
  clear hG hb hz
  obtain ⟨ex0, ex1, ex2, ex3, ex4, ex5, ex6, ex7, ex8, ex9, ex10⟩ := eleven HW8.out.2.1
  obtain ⟨ey0, ey1, ey2, ey3, ey4, ey5, ey6, ey7, ey8, ey9, ey10⟩ := eleven HW8.out.2.2.1
  have es : W8.cell? ⟨w.heap.size + 1 + 1, 0, none⟩ = some (.string _) := (blk_cell HW8.out.2.2.2.1 0).trans rfl
  go_wp2_with fail
  clear ex0 ex1 ex2 ex3 ex4 ex5 ex6 ex7 ex8 ex9 ex10 ey0 ey1 ey2 ey3 ey4 ey5 ey6 ey7 ey8 ey9 ey10 es
  go_ret
  exact ⟨rfl, HW8.out.1⟩
end Go.Proofs.YthbdjmopolpjmaaGreatDoor.C
end
section
set_option linter.unusedVariables false
set_option linter.unusedSimpArgs false
namespace Go.Proofs.YthbdjmopolpjmaaGreatDoor.C
open Go.RowKit Go.Proofs.YthbdjmopolpjmaaGreatDoorW.PrintWords Go.Proofs.YthbdjmopolpjmaaGreatDoorW.PrintLast Go.Proofs.YthbdjmopolpjmaaGreatDoorW.PrintMore Go.Proofs.YthbdjmopolpjmaaGreatDoor.F Go.Proofs.YthbdjmopolpjmaaGreatDoor.M
attribute [local go_sem] max2_int min2_int max_two min_two max_three min_three max_four min_four
def fnm (l : List (ByteArray × Bool)) : List ByteArray := l.filterMap (fun p => if p.2 then none else some p.1)
theorem fnm_snoc (l : List (ByteArray × Bool)) (n : ByteArray) (b : Bool) : fnm (l ++ [(n, b)]) = fnm l ++ (if b then [] else [n]) := by
  unfold fnm
  rw [List.filterMap_append]
  congr 1
  cases b <;> rfl
theorem fnm_take {l : List (ByteArray × Bool)} {k : Nat} {n : ByteArray} {b b' : Bool} (h : l[k]? = some (n, b)) (hb : b = b') : fnm (l.take (k + 1)) = fnm (l.take k) ++ (if b' then [] else [n]) := by
  rw [List.take_add_one, h, hb]
  exact fnm_snoc _ _ _
theorem fnm_le (l : List (ByteArray × Bool)) : (fnm l).length ≤ l.length := List.length_filterMap_le _ _
set_option maxRecDepth 100000 in
set_option maxHeartbeats 16000000 in
theorem fields_call (x y : S41) (A A2 : Option Addr) (c c2 : Nat) (w : World) (hC : Kd.string.C w A x.f6.length x.f6) (hc : x.f6.length ≤ c) (hC2 : Kd.string.C w A2 y.f6.length y.f6) (hc2 : y.f6.length ≤ c2) (hl : x.f6.length ≤ 1048576) :
    Calls Tryz.prog 35 #[EV x A c, EV y A2 c2] w fun e w' => ∃ v, e = .returned v ∧ Kd.string.R 9 w' w.heap.size (fun _ => True) v (fnm (fld x y)) ∧ Below w.heap.size w w' := by
  have HC := Aside0.mk (And.intro hC (And.intro hc (And.intro hC2 (And.intro hc2 hl))))
  have h39 := eqA39
  have hb0 : Below w.heap.size w ((w.alloc (.cells #[.int .i64 x.f0, .string x.f1, .string x.f2.f0, .string x.f2.f1, .string x.f3.f0, .string x.f3.f1, .string x.f4, .int .i64 x.f5, .slice A x.f6.length c, .int .i64 x.f7, .bool x.f8] 41)).alloc (.cells #[.int .i64 y.f0, .string y.f1, .string y.f2.f0, .string y.f2.f1, .string y.f3.f0, .string y.f3.f1, .string y.f4, .int .i64 y.f5, .slice A2 y.f6.length c2, .int .i64 y.f7, .bool y.f8] 41)) := below_alloc (below_alloc (Below.refl _ _) _) _
  have hx0 : (((w.alloc (.cells #[.int .i64 x.f0, .string x.f1, .string x.f2.f0, .string x.f2.f1, .string x.f3.f0, .string x.f3.f1, .string x.f4, .int .i64 x.f5, .slice A x.f6.length c, .int .i64 x.f7, .bool x.f8] 41)).alloc (.cells #[.int .i64 y.f0, .string y.f1, .string y.f2.f0, .string y.f2.f1, .string y.f3.f0, .string y.f3.f1, .string y.f4, .int .i64 y.f5, .slice A2 y.f6.length c2, .int .i64 y.f7, .bool y.f8] 41))).heap[w.heap.size]? = some (.cells #[.int .i64 x.f0, .string x.f1, .string x.f2.f0, .string x.f2.f1, .string x.f3.f0, .string x.f3.f1, .string x.f4, .int .i64 x.f5, .slice A x.f6.length c, .int .i64 x.f7, .bool x.f8] 41 (0, 0)) := (Below.heap_alloc _ _ _ (by simp)).trans (blk_new w _)
  have hy0 : (((w.alloc (.cells #[.int .i64 x.f0, .string x.f1, .string x.f2.f0, .string x.f2.f1, .string x.f3.f0, .string x.f3.f1, .string x.f4, .int .i64 x.f5, .slice A x.f6.length c, .int .i64 x.f7, .bool x.f8] 41)).alloc (.cells #[.int .i64 y.f0, .string y.f1, .string y.f2.f0, .string y.f2.f1, .string y.f3.f0, .string y.f3.f1, .string y.f4, .int .i64 y.f5, .slice A2 y.f6.length c2, .int .i64 y.f7, .bool y.f8] 41))).heap[w.heap.size + 1]? = some (.cells #[.int .i64 y.f0, .string y.f1, .string y.f2.f0, .string y.f2.f1, .string y.f3.f0, .string y.f3.f1, .string y.f4, .int .i64 y.f5, .slice A2 y.f6.length c2, .int .i64 y.f7, .bool y.f8] 41 (0, 0)) := by
    have := blk_new (w.alloc (.cells #[.int .i64 x.f0, .string x.f1, .string x.f2.f0, .string x.f2.f1, .string x.f3.f0, .string x.f3.f1, .string x.f4, .int .i64 x.f5, .slice A x.f6.length c, .int .i64 x.f7, .bool x.f8] 41)) (.cells #[.int .i64 y.f0, .string y.f1, .string y.f2.f0, .string y.f2.f1, .string y.f3.f0, .string y.f3.f1, .string y.f4, .int .i64 y.f5, .slice A2 y.f6.length c2, .int .i64 y.f7, .bool y.f8] 41)
    simpa using this
  have hs0 : (((w.alloc (.cells #[.int .i64 x.f0, .string x.f1, .string x.f2.f0, .string x.f2.f1, .string x.f3.f0, .string x.f3.f1, .string x.f4, .int .i64 x.f5, .slice A x.f6.length c, .int .i64 x.f7, .bool x.f8] 41)).alloc (.cells #[.int .i64 y.f0, .string y.f1, .string y.f2.f0, .string y.f2.f1, .string y.f3.f0, .string y.f3.f1, .string y.f4, .int .i64 y.f5, .slice A2 y.f6.length c2, .int .i64 y.f7, .bool y.f8] 41))).heap.size = (w.heap.size + 1 + 1) := by simp
  have HW := Aside0.mk (And.intro hb0 (And.intro hx0 (And.intro hy0 hs0)))
  have HR0 := Aside0.mk (And.intro (Kd.R_nil Kd.string 9 ((w.alloc (.cells #[.int .i64 x.f0, .string x.f1, .string x.f2.f0, .string x.f2.f1, .string x.f3.f0, .string x.f3.f1, .string x.f4, .int .i64 x.f5, .slice A x.f6.length c, .int .i64 x.f7, .bool x.f8] 41)).alloc (.cells #[.int .i64 y.f0, .string y.f1, .string y.f2.f0, .string y.f2.f1, .string y.f3.f0, .string y.f3.f1, .string y.f4, .int .i64 y.f5, .slice A2 y.f6.length c2, .int .i64 y.f7, .bool y.f8] 41)) (w.heap.size + 1 + 1) (fun _ => True)) (Below.refl (w.heap.size + 1 + 1) ((w.alloc (.cells #[.int .i64 x.f0, .string x.f1, .string x.f2.f0, .string x.f2.f1, .string x.f3.f0, .string x.f3.f1, .string x.f4, .int .i64 x.f5, .slice A x.f6.length c, .int .i64 x.f7, .bool x.f8] 41)).alloc (.cells #[.int .i64 y.f0, .string y.f1, .string y.f2.f0, .string y.f2.f1, .string y.f3.f0, .string y.f3.f1, .string y.f4, .int .i64 y.f5, .slice A2 y.f6.length c2, .int .i64 y.f7, .bool y.f8] 41))))
  have HF := Aside0.mk (show (fld x y).length = 8 from rfl)
  clear hC hc hC2 hc2 hl hb0 hx0 hy0 hs0
  obtain ⟨w0, hw0⟩ : ∃ w0, ((w.alloc (.cells #[.int .i64 x.f0, .string x.f1, .string x.f2.f0, .string x.f2.f1, .string x.f3.f0, .string x.f3.f1, .string x.f4, .int .i64 x.f5, .slice A x.f6.length c, .int .i64 x.f7, .bool x.f8] 41)).alloc (.cells #[.int .i64 y.f0, .string y.f1, .string y.f2.f0, .string y.f2.f1, .string y.f3.f0, .string y.f3.f1, .string y.f4, .int .i64 y.f5, .slice A2 y.f6.length c2, .int .i64 y.f7, .bool y.f8] 41)) = w0 := ⟨_, rfl⟩
  rw [hw0] at HW HR0
  obtain ⟨ex0, ex1, ex2, ex3, ex4, ex5, ex6, ex7, ex8, ex9, ex10⟩ := eleven HW.out.2.1
  obtain ⟨ey0, ey1, ey2, ey3, ey4, ey5, ey6, ey7, ey8, ey9, ey10⟩ := eleven HW.out.2.2.1
  go_enter Tryz.func35, Tryz.ntmps35
  unfold EV
  go_upto_if 10 with (fail)
  go_cut [5] (fun p1 wc1 => Aside0 (Kd.string.R 9 wc1 (w.heap.size + 1 + 1) (fun _ => True) p1 (fnm ((fld x y).take 1)) ∧ Below (w.heap.size + 1 + 1) w0 wc1))
  case first =>
    obtain ⟨b, hb⟩ : ∃ b, (x.f1.toList == y.f1.toList) = b := ⟨_, rfl⟩
    simp only [hb]
    have HBk := Aside0.mk hb
    clear hb
    cases b
    · go_wp2_with (first | ((with_reducible refine gate_builtin (b := .append) (xs := #[.tmp 11, .tmp 12]) rfl ?_); at_builtin; refine Kd.R_append Kd.string (w0 := w0) (w.heap.size + 1 + 1) rfl (.tmp 11) (.tmp 12) 30 9 (.string ⟨#[]⟩) 16 rfl Tryz.underlying30 info9 rfl (by decide) (by omega) (.slice none 0 0) (fnm ((fld x y).take 0)) (⟨#[87, 104, 97, 116]⟩) [.string (⟨#[87, 104, 97, 116]⟩)] (fun _ => True) (fun _ => False) rfl rfl ?aP (fun _ hk => hk.elim) ?aF ?aO ?aB ?aS ?aL ?_; (case aP => exact rfl); (case aF => exact (fun _ _ => trivial)); (case aO => exact HR0.out.1); (case aB => exact HR0.out.2); (case aS => (have h1 := HR0.out.2.size; have h2 := HW.out.2.2.2; omega)); (case aL => (have h1 := fnm_le ((fld x y).take 0); have h2 := List.length_take_le 0 (fld x y); omega)); intro v1 w4 ho hb hg hat; have HN := Aside0.mk (And.intro ho hb); clear ho hb hg hat) | go_in)
      go_meet
      case rel =>
        have e := fnm_take (l := fld x y) (k := 0) rfl HBk.out
        rw [if_neg (by decide)] at e
        exact ⟨by rw [e]; exact HN.out.1, HN.out.2⟩
    · go_wp2_with fail
      go_meet
      case rel =>
        have e := fnm_take (l := fld x y) (k := 0) rfl HBk.out
        rw [if_pos rfl, List.append_nil] at e
        exact ⟨by rw [e]; exact HR0.out.1, HR0.out.2⟩
  case rest =>
    have HR1 := hcut
    clear hcut
    have hx := (HR1.out.2.block w.heap.size (by omega)).trans HW.out.2.1
    have hy := (HR1.out.2.block (w.heap.size + 1) (by omega)).trans HW.out.2.2.1
    have HQ1 := Aside0.mk (below_then HW.out.1 HW.out.1.size (HR1.out.2.mono (by have := HW.out.2.2.2; omega)))
    obtain ⟨ex0, ex1, ex2, ex3, ex4, ex5, ex6, ex7, ex8, ex9, ex10⟩ := eleven hx
    obtain ⟨ey0, ey1, ey2, ey3, ey4, ey5, ey6, ey7, ey8, ey9, ey10⟩ := eleven hy
    clear hx hy
    go_upto_if 18 with (fail)
    go_cut [5] (fun p2 wc2 => Aside0 (Kd.string.R 9 wc2 (w.heap.size + 1 + 1) (fun _ => True) p2 (fnm ((fld x y).take 2)) ∧ Below (w.heap.size + 1 + 1) w0 wc2))
    case first =>
      obtain ⟨b1, h1⟩ : ∃ b, (x.f2.f0.toList == y.f2.f0.toList) = b := ⟨_, rfl⟩
      obtain ⟨b2, h2⟩ : ∃ b, (x.f2.f1.toList == y.f2.f1.toList) = b := ⟨_, rfl⟩
      simp only [h1, h2]
      have HBk := Aside0.mk (show (x.f2.f0.toList == y.f2.f0.toList && (x.f2.f1.toList == y.f2.f1.toList)) = (b1 && b2) by rw [h1, h2])
      clear h1 h2
      have e2 : (!b1 || !b2) = !(b1 && b2) := by cases b1 <;> cases b2 <;> rfl
      rw [e2]
      clear e2
      generalize (b1 && b2) = b at HBk ⊢
      cases b
      · go_wp2_with (first | ((with_reducible refine gate_builtin (b := .append) (xs := #[.tmp 19, .tmp 20]) rfl ?_); at_builtin; refine Kd.R_append Kd.string (w0 := w0) (w.heap.size + 1 + 1) rfl (.tmp 19) (.tmp 20) 30 9 (.string ⟨#[]⟩) 16 rfl Tryz.underlying30 info9 rfl (by decide) (by omega) u5 (fnm ((fld x y).take 1)) (⟨#[86, 97, 108, 117, 101]⟩) [.string (⟨#[86, 97, 108, 117, 101]⟩)] (fun _ => True) (fun _ => False) rfl rfl ?aP (fun _ hk => hk.elim) ?aF ?aO ?aB ?aS ?aL ?_; (case aP => exact rfl); (case aF => exact (fun _ _ => trivial)); (case aO => exact HR1.out.1); (case aB => exact HR1.out.2); (case aS => (have h1 := HR1.out.2.size; have h2 := HW.out.2.2.2; omega)); (case aL => (have h1 := fnm_le ((fld x y).take 1); have h2 := List.length_take_le 1 (fld x y); omega)); intro v1 w4 ho hb hg hat; have HN := Aside0.mk (And.intro ho hb); clear ho hb hg hat) | go_in)
        go_meet
        case rel =>
          have e := fnm_take (l := fld x y) (k := 1) rfl HBk.out
          rw [if_neg (by decide)] at e
          exact ⟨by rw [e]; exact HN.out.1, HN.out.2⟩
      · go_wp2_with fail
        go_meet
        case rel =>
          have e := fnm_take (l := fld x y) (k := 1) rfl HBk.out
          rw [if_pos rfl, List.append_nil] at e
          exact ⟨by rw [e]; exact HR1.out.1, HR1.out.2⟩
    case rest =>
      have HR2 := hcut
      clear hcut
      have hx := (HR2.out.2.block w.heap.size (by omega)).trans HW.out.2.1
      have hy := (HR2.out.2.block (w.heap.size + 1) (by omega)).trans HW.out.2.2.1
      have HQ2 := Aside0.mk (below_then HW.out.1 HW.out.1.size (HR2.out.2.mono (by have := HW.out.2.2.2; omega)))
      obtain ⟨ex0, ex1, ex2, ex3, ex4, ex5, ex6, ex7, ex8, ex9, ex10⟩ := eleven hx
      obtain ⟨ey0, ey1, ey2, ey3, ey4, ey5, ey6, ey7, ey8, ey9, ey10⟩ := eleven hy
      clear hx hy
      go_upto_if 26 with (fail)
      go_cut [5] (fun p3 wc3 => Aside0 (Kd.string.R 9 wc3 (w.heap.size + 1 + 1) (fun _ => True) p3 (fnm ((fld x y).take 3)) ∧ Below (w.heap.size + 1 + 1) w0 wc3))
      case first =>
        obtain ⟨b1, h1⟩ : ∃ b, (x.f3.f0.toList == y.f3.f0.toList) = b := ⟨_, rfl⟩
        obtain ⟨b2, h2⟩ : ∃ b, (x.f3.f1.toList == y.f3.f1.toList) = b := ⟨_, rfl⟩
        simp only [h1, h2]
        have HBk := Aside0.mk (show (x.f3.f0.toList == y.f3.f0.toList && (x.f3.f1.toList == y.f3.f1.toList)) = (b1 && b2) by rw [h1, h2])
        clear h1 h2
        have e2 : (!b1 || !b2) = !(b1 && b2) := by cases b1 <;> cases b2 <;> rfl
        rw [e2]
        clear e2
        generalize (b1 && b2) = b at HBk ⊢
        cases b
        · go_wp2_with (first | ((with_reducible refine gate_builtin (b := .append) (xs := #[.tmp 27, .tmp 28]) rfl ?_); at_builtin; refine Kd.R_append Kd.string (w0 := w0) (w.heap.size + 1 + 1) rfl (.tmp 27) (.tmp 28) 30 9 (.string ⟨#[]⟩) 16 rfl Tryz.underlying30 info9 rfl (by decide) (by omega) u5 (fnm ((fld x y).take 2)) (⟨#[83, 112, 114, 101, 97, 100]⟩) [.string (⟨#[83, 112, 114, 101, 97, 100]⟩)] (fun _ => True) (fun _ => False) rfl rfl ?aP (fun _ hk => hk.elim) ?aF ?aO ?aB ?aS ?aL ?_; (case aP => exact rfl); (case aF => exact (fun _ _ => trivial)); (case aO => exact HR2.out.1); (case aB => exact HR2.out.2); (case aS => (have h1 := HR2.out.2.size; have h2 := HW.out.2.2.2; omega)); (case aL => (have h1 := fnm_le ((fld x y).take 2); have h2 := List.length_take_le 2 (fld x y); omega)); intro v1 w4 ho hb hg hat; have HN := Aside0.mk (And.intro ho hb); clear ho hb hg hat) | go_in)
          go_meet
          case rel =>
            have e := fnm_take (l := fld x y) (k := 2) rfl HBk.out
            rw [if_neg (by decide)] at e
            exact ⟨by rw [e]; exact HN.out.1, HN.out.2⟩
        · go_wp2_with fail
          go_meet
          case rel =>
            have e := fnm_take (l := fld x y) (k := 2) rfl HBk.out
            rw [if_pos rfl, List.append_nil] at e
            exact ⟨by rw [e]; exact HR2.out.1, HR2.out.2⟩
      case rest =>
        have HR3 := hcut
        clear hcut
        have hx := (HR3.out.2.block w.heap.size (by omega)).trans HW.out.2.1
        have hy := (HR3.out.2.block (w.heap.size + 1) (by omega)).trans HW.out.2.2.1
        have HQ3 := Aside0.mk (below_then HW.out.1 HW.out.1.size (HR3.out.2.mono (by have := HW.out.2.2.2; omega)))
        obtain ⟨ex0, ex1, ex2, ex3, ex4, ex5, ex6, ex7, ex8, ex9, ex10⟩ := eleven hx
        obtain ⟨ey0, ey1, ey2, ey3, ey4, ey5, ey6, ey7, ey8, ey9, ey10⟩ := eleven hy
        clear hx hy
        go_upto_if 34 with (fail)
        go_cut [5] (fun p4 wc4 => Aside0 (Kd.string.R 9 wc4 (w.heap.size + 1 + 1) (fun _ => True) p4 (fnm ((fld x y).take 4)) ∧ Below (w.heap.size + 1 + 1) w0 wc4))
        case first =>
          obtain ⟨b, hb⟩ : ∃ b, (x.f4.toList == y.f4.toList) = b := ⟨_, rfl⟩
          simp only [hb]
          have HBk := Aside0.mk hb
          clear hb
          cases b
          · go_wp2_with (first | ((with_reducible refine gate_builtin (b := .append) (xs := #[.tmp 35, .tmp 36]) rfl ?_); at_builtin; refine Kd.R_append Kd.string (w0 := w0) (w.heap.size + 1 + 1) rfl (.tmp 35) (.tmp 36) 30 9 (.string ⟨#[]⟩) 16 rfl Tryz.underlying30 info9 rfl (by decide) (by omega) u5 (fnm ((fld x y).take 3)) (⟨#[85, 110, 105, 116]⟩) [.string (⟨#[85, 110, 105, 116]⟩)] (fun _ => True) (fun _ => False) rfl rfl ?aP (fun _ hk => hk.elim) ?aF ?aO ?aB ?aS ?aL ?_; (case aP => exact rfl); (case aF => exact (fun _ _ => trivial)); (case aO => exact HR3.out.1); (case aB => exact HR3.out.2); (case aS => (have h1 := HR3.out.2.size; have h2 := HW.out.2.2.2; omega)); (case aL => (have h1 := fnm_le ((fld x y).take 3); have h2 := List.length_take_le 3 (fld x y); omega)); intro v1 w4 ho hb hg hat; have HN := Aside0.mk (And.intro ho hb); clear ho hb hg hat) | go_in)
            go_meet
            case rel =>
              have e := fnm_take (l := fld x y) (k := 3) rfl HBk.out
              rw [if_neg (by decide)] at e
              exact ⟨by rw [e]; exact HN.out.1, HN.out.2⟩
          · go_wp2_with fail
            go_meet
            case rel =>
              have e := fnm_take (l := fld x y) (k := 3) rfl HBk.out
              rw [if_pos rfl, List.append_nil] at e
              exact ⟨by rw [e]; exact HR3.out.1, HR3.out.2⟩
        case rest =>
          have HR4 := hcut
          clear hcut
          have hx := (HR4.out.2.block w.heap.size (by omega)).trans HW.out.2.1
          have hy := (HR4.out.2.block (w.heap.size + 1) (by omega)).trans HW.out.2.2.1
          have HQ4 := Aside0.mk (below_then HW.out.1 HW.out.1.size (HR4.out.2.mono (by have := HW.out.2.2.2; omega)))
          obtain ⟨ex0, ex1, ex2, ex3, ex4, ex5, ex6, ex7, ex8, ex9, ex10⟩ := eleven hx
          obtain ⟨ey0, ey1, ey2, ey3, ey4, ey5, ey6, ey7, ey8, ey9, ey10⟩ := eleven hy
          clear hx hy
          go_upto_if 42 with (fail)
          go_cut [5] (fun p5 wc5 => Aside0 (Kd.string.R 9 wc5 (w.heap.size + 1 + 1) (fun _ => True) p5 (fnm ((fld x y).take 5)) ∧ Below (w.heap.size + 1 + 1) w0 wc5))
          case first =>
            rw [show (x.f5 != y.f5) = !(decide (x.f5 = y.f5)) from rfl]
            obtain ⟨b, hb⟩ : ∃ b, (decide (x.f5 = y.f5)) = b := ⟨_, rfl⟩
            simp only [hb]
            have HBk := Aside0.mk hb
            clear hb
            cases b
            · go_wp2_with (first | ((with_reducible refine gate_builtin (b := .append) (xs := #[.tmp 43, .tmp 44]) rfl ?_); at_builtin; refine Kd.R_append Kd.string (w0 := w0) (w.heap.size + 1 + 1) rfl (.tmp 43) (.tmp 44) 30 9 (.string ⟨#[]⟩) 16 rfl Tryz.underlying30 info9 rfl (by decide) (by omega) u5 (fnm ((fld x y).take 4)) (⟨#[68, 97, 121]⟩) [.string (⟨#[68, 97, 121]⟩)] (fun _ => True) (fun _ => False) rfl rfl ?aP (fun _ hk => hk.elim) ?aF ?aO ?aB ?aS ?aL ?_; (case aP => exact rfl); (case aF => exact (fun _ _ => trivial)); (case aO => exact HR4.out.1); (case aB => exact HR4.out.2); (case aS => (have h1 := HR4.out.2.size; have h2 := HW.out.2.2.2; omega)); (case aL => (have h1 := fnm_le ((fld x y).take 4); have h2 := List.length_take_le 4 (fld x y); omega)); intro v1 w4 ho hb hg hat; have HN := Aside0.mk (And.intro ho hb); clear ho hb hg hat) | go_in)
              go_meet
              case rel =>
                have e := fnm_take (l := fld x y) (k := 4) rfl HBk.out
                rw [if_neg (by decide)] at e
                exact ⟨by rw [e]; exact HN.out.1, HN.out.2⟩
            · go_wp2_with fail
              go_meet
              case rel =>
                have e := fnm_take (l := fld x y) (k := 4) rfl HBk.out
                rw [if_pos rfl, List.append_nil] at e
                exact ⟨by rw [e]; exact HR4.out.1, HR4.out.2⟩
          case rest =>
            have HR5 := hcut
            clear hcut
            have hx := (HR5.out.2.block w.heap.size (by omega)).trans HW.out.2.1
            have hy := (HR5.out.2.block (w.heap.size + 1) (by omega)).trans HW.out.2.2.1
            have HQ5 := Aside0.mk (below_then HW.out.1 HW.out.1.size (HR5.out.2.mono (by have := HW.out.2.2.2; omega)))
            obtain ⟨ex0, ex1, ex2, ex3, ex4, ex5, ex6, ex7, ex8, ex9, ex10⟩ := eleven hx
            obtain ⟨ey0, ey1, ey2, ey3, ey4, ey5, ey6, ey7, ey8, ey9, ey10⟩ := eleven hy
            clear hx hy
            go_wp2_with fail
            refine (cubitref29_texts.calls (x.f6.length + 1) A c x.f6 A2 c2 y.f6 (eqL x.f6 y.f6) _ (Kd.C_below HC.out.1 HQ5.out) HC.out.2.1 (Kd.C_below HC.out.2.2.1 HQ5.out) HC.out.2.2.2.1 (ref_texts x.f6 y.f6 HC.out.2.2.2.2)).mono ?_
            rintro e WT ⟨rfl, hd⟩
            have HRT := Aside0.mk (And.intro (Kd.R_below HR5.out.1 hd.below) (HR5.out.2.trans (hd.below.mono (by have := HR5.out.2.size; have := HW.out.2.2.2; omega))))
            clear hd
            go_upto_if 51 with (fail)
            go_cut [5] (fun p6 wc6 => Aside0 (Kd.string.R 9 wc6 (w.heap.size + 1 + 1) (fun _ => True) p6 (fnm ((fld x y).take 6)) ∧ Below (w.heap.size + 1 + 1) w0 wc6))
            case first =>
              obtain ⟨b, hb⟩ : ∃ b, (eqL x.f6 y.f6) = b := ⟨_, rfl⟩
              simp only [hb]
              have HBk := Aside0.mk hb
              clear hb
              cases b
              · go_wp2_with (first | ((with_reducible refine gate_builtin (b := .append) (xs := #[.tmp 52, .tmp 53]) rfl ?_); at_builtin; refine Kd.R_append Kd.string (w0 := w0) (w.heap.size + 1 + 1) rfl (.tmp 52) (.tmp 53) 30 9 (.string ⟨#[]⟩) 16 rfl Tryz.underlying30 info9 rfl (by decide) (by omega) u5 (fnm ((fld x y).take 5)) (⟨#[84, 97, 103, 115]⟩) [.string (⟨#[84, 97, 103, 115]⟩)] (fun _ => True) (fun _ => False) rfl rfl ?aP (fun _ hk => hk.elim) ?aF ?aO ?aB ?aS ?aL ?_; (case aP => exact rfl); (case aF => exact (fun _ _ => trivial)); (case aO => exact HRT.out.1); (case aB => exact HRT.out.2); (case aS => (have h1 := HRT.out.2.size; have h2 := HW.out.2.2.2; omega)); (case aL => (have h1 := fnm_le ((fld x y).take 5); have h2 := List.length_take_le 5 (fld x y); omega)); intro v1 w4 ho hb hg hat; have HN := Aside0.mk (And.intro ho hb); clear ho hb hg hat) | go_in)
                go_meet
                case rel =>
                  have e := fnm_take (l := fld x y) (k := 5) rfl HBk.out
                  rw [if_neg (by decide)] at e
                  exact ⟨by rw [e]; exact HN.out.1, HN.out.2⟩
              · go_wp2_with fail
                go_meet
                case rel =>
                  have e := fnm_take (l := fld x y) (k := 5) rfl HBk.out
                  rw [if_pos rfl, List.append_nil] at e
                  exact ⟨by rw [e]; exact HRT.out.1, HRT.out.2⟩
            case rest =>
              have HR6 := hcut
              clear hcut
              have hx := (HR6.out.2.block w.heap.size (by omega)).trans HW.out.2.1
              have hy := (HR6.out.2.block (w.heap.size + 1) (by omega)).trans HW.out.2.2.1
              have HQ6 := Aside0.mk (below_then HW.out.1 HW.out.1.size (HR6.out.2.mono (by have := HW.out.2.2.2; omega)))
              obtain ⟨ex0, ex1, ex2, ex3, ex4, ex5, ex6, ex7, ex8, ex9, ex10⟩ := eleven hx
              obtain ⟨ey0, ey1, ey2, ey3, ey4, ey5, ey6, ey7, ey8, ey9, ey10⟩ := eleven hy
              clear hx hy
              go_upto_if 59 with (fail)
              go_cut [5] (fun p7 wc7 => Aside0 (Kd.string.R 9 wc7 (w.heap.size + 1 + 1) (fun _ => True) p7 (fnm ((fld x y).take 7)) ∧ Below (w.heap.size + 1 + 1) w0 wc7))
              case first =>
                rw [show (x.f7 != y.f7) = !(decide (x.f7 = y.f7)) from rfl]
                obtain ⟨b, hb⟩ : ∃ b, (decide (x.f7 = y.f7)) = b := ⟨_, rfl⟩
                simp only [hb]
                have HBk := Aside0.mk hb
                clear hb
                cases b
                · go_wp2_with (first | ((with_reducible refine gate_builtin (b := .append) (xs := #[.tmp 60, .tmp 61]) rfl ?_); at_builtin; refine Kd.R_append Kd.string (w0 := w0) (w.heap.size + 1 + 1) rfl (.tmp 60) (.tmp 61) 30 9 (.string ⟨#[]⟩) 16 rfl Tryz.underlying30 info9 rfl (by decide) (by omega) u5 (fnm ((fld x y).take 6)) (⟨#[79, 102]⟩) [.string (⟨#[79, 102]⟩)] (fun _ => True) (fun _ => False) rfl rfl ?aP (fun _ hk => hk.elim) ?aF ?aO ?aB ?aS ?aL ?_; (case aP => exact rfl); (case aF => exact (fun _ _ => trivial)); (case aO => exact HR6.out.1); (case aB => exact HR6.out.2); (case aS => (have h1 := HR6.out.2.size; have h2 := HW.out.2.2.2; omega)); (case aL => (have h1 := fnm_le ((fld x y).take 6); have h2 := List.length_take_le 6 (fld x y); omega)); intro v1 w4 ho hb hg hat; have HN := Aside0.mk (And.intro ho hb); clear ho hb hg hat) | go_in)
                  go_meet
                  case rel =>
                    have e := fnm_take (l := fld x y) (k := 6) rfl HBk.out
                    rw [if_neg (by decide)] at e
                    exact ⟨by rw [e]; exact HN.out.1, HN.out.2⟩
                · go_wp2_with fail
                  go_meet
                  case rel =>
                    have e := fnm_take (l := fld x y) (k := 6) rfl HBk.out
                    rw [if_pos rfl, List.append_nil] at e
                    exact ⟨by rw [e]; exact HR6.out.1, HR6.out.2⟩
              case rest =>
                have HR7 := hcut
                clear hcut
                have hx := (HR7.out.2.block w.heap.size (by omega)).trans HW.out.2.1
                have hy := (HR7.out.2.block (w.heap.size + 1) (by omega)).trans HW.out.2.2.1
                have HQ7 := Aside0.mk (below_then HW.out.1 HW.out.1.size (HR7.out.2.mono (by have := HW.out.2.2.2; omega)))
                obtain ⟨ex0, ex1, ex2, ex3, ex4, ex5, ex6, ex7, ex8, ex9, ex10⟩ := eleven hx
                obtain ⟨ey0, ey1, ey2, ey3, ey4, ey5, ey6, ey7, ey8, ey9, ey10⟩ := eleven hy
                clear hx hy
                go_upto_if 67 with (fail)
                go_cut [5] (fun p8 wc8 => Aside0 (Kd.string.R 9 wc8 (w.heap.size + 1 + 1) (fun _ => True) p8 (fnm ((fld x y).take 8)) ∧ Below (w.heap.size + 1 + 1) w0 wc8))
                case first =>
                  obtain ⟨b, hb⟩ : ∃ b, (x.f8 == y.f8) = b := ⟨_, rfl⟩
                  simp only [hb]
                  have HBk := Aside0.mk hb
                  clear hb
                  cases b
                  · go_wp2_with (first | ((with_reducible refine gate_builtin (b := .append) (xs := #[.tmp 68, .tmp 69]) rfl ?_); at_builtin; refine Kd.R_append Kd.string (w0 := w0) (w.heap.size + 1 + 1) rfl (.tmp 68) (.tmp 69) 30 9 (.string ⟨#[]⟩) 16 rfl Tryz.underlying30 info9 rfl (by decide) (by omega) u5 (fnm ((fld x y).take 7)) (⟨#[86, 111, 105, 100]⟩) [.string (⟨#[86, 111, 105, 100]⟩)] (fun _ => True) (fun _ => False) rfl rfl ?aP (fun _ hk => hk.elim) ?aF ?aO ?aB ?aS ?aL ?_; (case aP => exact rfl); (case aF => exact (fun _ _ => trivial)); (case aO => exact HR7.out.1); (case aB => exact HR7.out.2); (case aS => (have h1 := HR7.out.2.size; have h2 := HW.out.2.2.2; omega)); (case aL => (have h1 := fnm_le ((fld x y).take 7); have h2 := List.length_take_le 7 (fld x y); omega)); intro v1 w4 ho hb hg hat; have HN := Aside0.mk (And.intro ho hb); clear ho hb hg hat) | go_in)
                    go_meet
                    case rel =>
                      have e := fnm_take (l := fld x y) (k := 7) rfl HBk.out
                      rw [if_neg (by decide)] at e
                      exact ⟨by rw [e]; exact HN.out.1, HN.out.2⟩
                  · go_wp2_with fail
                    go_meet
                    case rel =>
                      have e := fnm_take (l := fld x y) (k := 7) rfl HBk.out
                      rw [if_pos rfl, List.append_nil] at e
                      exact ⟨by rw [e]; exact HR7.out.1, HR7.out.2⟩
                case rest =>
                  have HR8 := hcut
                  clear hcut
                  have hx := (HR8.out.2.block w.heap.size (by omega)).trans HW.out.2.1
                  have hy := (HR8.out.2.block (w.heap.size + 1) (by omega)).trans HW.out.2.2.1
                  have HQ8 := Aside0.mk (below_then HW.out.1 HW.out.1.size (HR8.out.2.mono (by have := HW.out.2.2.2; omega)))
                  obtain ⟨ex0, ex1, ex2, ex3, ex4, ex5, ex6, ex7, ex8, ex9, ex10⟩ := eleven hx
                  obtain ⟨ey0, ey1, ey2, ey3, ey4, ey5, ey6, ey7, ey8, ey9, ey10⟩ := eleven hy
                  clear hx hy
                  go_wp2_with fail
                  go_ret
                  have e : (fld x y).take 8 = fld x y := rfl
                  have h1 := HR8.out.1
                  rw [e] at h1
                  exact ⟨_, rfl, Kd.R_lower h1 (by omega), HQ8.out⟩
end Go.Proofs.YthbdjmopolpjmaaGreatDoor.C
end
section
set_option linter.unusedVariables false
set_option linter.unusedSimpArgs false
namespace Go.Proofs.YthbdjmopolpjmaaGreatDoor.C
open Go.RowKit Go.Proofs.YthbdjmopolpjmaaGreatDoorW.PrintWords Go.Proofs.YthbdjmopolpjmaaGreatDoorW.PrintLast Go.Proofs.YthbdjmopolpjmaaGreatDoorW.PrintMore Go.Proofs.YthbdjmopolpjmaaGreatDoor.F Go.Proofs.YthbdjmopolpjmaaGreatDoor.M
noncomputable def numT (id : Int) : ByteArray := ⟨(Lib.itoa id).toArray⟩
noncomputable def outD (a b : List S41) (id : Int) : List ByteArray :=
  match first a id, first b id with
  | _, none => [⟨#[45, 32]⟩ ++ numT id]
  | none, some _ => [⟨#[43, 32]⟩ ++ numT id]
  | some x, some y => if fnm (fld x y) = [] then [] else [⟨#[126, 32]⟩ ++ numT id ++ diffT x y]
theorem outD_gone {a b : List S41} {id : Int} (h : first b id = none) : outD a b id = [⟨#[45, 32]⟩ ++ numT id] := by
  unfold outD
  rw [h]
theorem outD_new {a b : List S41} {id : Int} {y : S41} (h : first a id = none) (h2 : first b id = some y) : outD a b id = [⟨#[43, 32]⟩ ++ numT id] := by
  unfold outD
  rw [h, h2]
theorem outD_both {a b : List S41} {id : Int} {x y : S41} (h : first a id = some x) (h2 : first b id = some y) : outD a b id = if fnm (fld x y) = [] then [] else [⟨#[126, 32]⟩ ++ numT id ++ diffT x y] := by
  unfold outD
  rw [h, h2]
theorem outD_le (a b : List S41) (id : Int) : (outD a b id).length ≤ 1 := by
  unfold outD
  split
  · exact Nat.le_refl _
  · exact Nat.le_refl _
  · split <;> simp
theorem outs_le (a b : List S41) : ∀ cs : List Int, (cs.flatMap (outD a b)).length ≤ cs.length
  | [] => Nat.le_refl _
  | c :: cs => by
    rw [List.flatMap_cons, List.length_append, List.length_cons]
    have := outD_le a b c
    have := outs_le a b cs
    omega
theorem outs_take {a b : List S41} {cs : List Int} {p : Nat} (h : p < cs.length) : (cs.take (p + 1)).flatMap (outD a b) = (cs.take p).flatMap (outD a b) ++ outD a b (cs.getD p 0) := by
  rw [List.take_add_one, List.getElem?_eq_getElem h, List.flatMap_append, List.getD_eq_getElem?_getD, List.getElem?_eq_getElem h]
  simp
def refT (s : ByteArray) (l : List ByteArray) : ByteArray := l.foldl (fun s n => s ++ ⟨#[32]⟩ ++ n) s
theorem refT_snoc (s n : ByteArray) (l : List ByteArray) : refT s (l ++ [n]) = refT s l ++ ⟨#[32]⟩ ++ n := by simp [refT, List.foldl_append]
theorem refT_fold (s : ByteArray) : ∀ (l : List (ByteArray × Bool)) (t : ByteArray), refT (s ++ t) (fnm l) = s ++ l.foldl (fun s p => addT s p.1 p.2) t
  | [], t => rfl
  | (n, true) :: l, t => refT_fold s l t
  | (n, false) :: l, t => by
    have ih := refT_fold s l (t ++ (⟨#[32]⟩ ++ n))
    show refT (s ++ t ++ ⟨#[32]⟩ ++ n) (fnm l) = s ++ l.foldl (fun s p => addT s p.1 p.2) (t ++ (⟨#[32]⟩ ++ n))
    rw [← ih]
    congr 1
    rw [ByteArray.append_assoc, ByteArray.append_assoc]
theorem refT_diff (s : ByteArray) (x y : S41) : refT s (fnm (fld x y)) = s ++ diffT x y := by
  have h := refT_fold s (fld x y) ⟨#[]⟩
  have e : s ++ (⟨#[]⟩ : ByteArray) = s := ByteArray.append_empty
  rw [e] at h
  exact h
theorem fold_size : ∀ (l : List (ByteArray × Bool)) (t : ByteArray), (fnm l = [] → l.foldl (fun s p => addT s p.1 p.2) t = t) ∧ t.size ≤ (l.foldl (fun s p => addT s p.1 p.2) t).size ∧ (fnm l ≠ [] → t.size < (l.foldl (fun s p => addT s p.1 p.2) t).size)
  | [], t => ⟨fun _ => rfl, Nat.le_refl _, fun h => absurd rfl h⟩
  | (n, true) :: l, t => fold_size l t
  | (n, false) :: l, t => by
    obtain ⟨h1, h2, h3⟩ := fold_size l (t ++ (⟨#[32]⟩ ++ n))
    have h4 : t.size < (t ++ (⟨#[32]⟩ ++ n)).size := by
      rw [ByteArray.size_append, ByteArray.size_append]
      have : (⟨#[32]⟩ : ByteArray).size = 1 := rfl
      omega
    have e : ((n, false) :: l).foldl (fun s p => addT s p.1 p.2) t = l.foldl (fun s p => addT s p.1 p.2) (t ++ (⟨#[32]⟩ ++ n)) := rfl
    rw [e]
    exact ⟨fun h => absurd h (by simp [fnm]), by omega, fun _ => by omega⟩
theorem diffT_nil {x y : S41} (h : fnm (fld x y) = []) : diffT x y = ⟨#[]⟩ := (fold_size (fld x y) ⟨#[]⟩).1 h
theorem diffT_pos {x y : S41} (h : fnm (fld x y) ≠ []) : 0 < (diffT x y).size := (fold_size (fld x y) ⟨#[]⟩).2.2 h
end Go.Proofs.YthbdjmopolpjmaaGreatDoor.C
end
