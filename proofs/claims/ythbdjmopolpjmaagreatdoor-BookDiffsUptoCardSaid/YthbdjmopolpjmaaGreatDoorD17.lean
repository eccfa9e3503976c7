/- Part 17 of the proof: CBook, FBase1, FCubitref29Texts, FCubitref01SameTexts. -/
import Derived.Test.YthbdjmopolpjmaaGreatDoorD00
import Derived.Test.YthbdjmopolpjmaaGreatDoorD01
import Derived.Test.YthbdjmopolpjmaaGreatDoorD02
import Derived.Test.YthbdjmopolpjmaaGreatDoorD03
import Derived.Test.YthbdjmopolpjmaaGreatDoorD04
import Derived.Test.YthbdjmopolpjmaaGreatDoorD05
import Derived.Test.YthbdjmopolpjmaaGreatDoorD06
import Derived.Test.YthbdjmopolpjmaaGreatDoorD07
import Derived.Test.YthbdjmopolpjmaaGreatDoorD08
import Derived.Test.YthbdjmopolpjmaaGreatDoorD09
import Derived.Test.YthbdjmopolpjmaaGreatDoorD10
import Derived.Test.YthbdjmopolpjmaaGreatDoorD11
import Derived.Test.YthbdjmopolpjmaaGreatDoorD12
import Derived.Test.YthbdjmopolpjmaaGreatDoorD13
import Derived.Test.YthbdjmopolpjmaaGreatDoorD14
import Derived.Test.YthbdjmopolpjmaaGreatDoorD15
import Derived.Test.YthbdjmopolpjmaaGreatDoorD16
section
set_option linter.unusedVariables false
set_option linter.unusedSimpArgs false
namespace Go.Proofs.YthbdjmopolpjmaaGreatDoor.C
open Go.RowKit Go.Proofs.YthbdjmopolpjmaaGreatDoorW.PrintWords Go.Proofs.YthbdjmopolpjmaaGreatDoorW.PrintLast Go.Proofs.YthbdjmopolpjmaaGreatDoorW.PrintMore Go.Proofs.YthbdjmopolpjmaaGreatDoor.F Go.Proofs.YthbdjmopolpjmaaGreatDoor.M
attribute [local go_sem] max2_int min2_int max_two min_two max_three min_three max_four min_four
theorem errV_zero {n : Int} (h : n = 0) : errV n = .nilIface := if_pos h
theorem errV_not {n : Int} (h : ¬ n = 0) : errV n = .iface 83 (.agg #[.int .i64 n]) := if_neg h
noncomputable def prtV (l : List S41) : Value := .tuple #[.string (prt l).1, .int .i64 (prt l).2.1, .int .i64 (prt l).2.2]
theorem eleven {W : World} {b : Nat} {v0 v1 v2 v3 v4 v5 v6 v7 v8 v9 v10 : Value} (h : W.heap[b]? = some (.cells #[v0, v1, v2, v3, v4, v5, v6, v7, v8, v9, v10] 41 (0, 0))) :
    W.cell? ⟨b, 0, none⟩ = some v0 ∧ W.cell? ⟨b, 1, none⟩ = some v1 ∧ W.cell? ⟨b, 2, none⟩ = some v2 ∧ W.cell? ⟨b, 3, none⟩ = some v3 ∧ W.cell? ⟨b, 4, none⟩ = some v4 ∧ W.cell? ⟨b, 5, none⟩ = some v5 ∧ W.cell? ⟨b, 6, none⟩ = some v6 ∧ W.cell? ⟨b, 7, none⟩ = some v7 ∧ W.cell? ⟨b, 8, none⟩ = some v8 ∧ W.cell? ⟨b, 9, none⟩ = some v9 ∧ W.cell? ⟨b, 10, none⟩ = some v10 :=
  ⟨(blk_cell h 0).trans rfl, (blk_cell h 1).trans rfl, (blk_cell h 2).trans rfl, (blk_cell h 3).trans rfl, (blk_cell h 4).trans rfl, (blk_cell h 5).trans rfl, (blk_cell h 6).trans rfl, (blk_cell h 7).trans rfl, (blk_cell h 8).trans rfl, (blk_cell h 9).trans rfl, (blk_cell h 10).trans rfl⟩
def signT (b : Bool) : ByteArray := ⟨(if b then #[120] else #[43])⟩
theorem f49s_call (x : S41) (A : Option Addr) (c : Nat) (w : World) (hf : Fits x) (hp : Pow w) : Calls Tryz.prog 49 #[EV x A c] w fun e w' => e = .returned (.string (signT x.f8)) ∧ Below w.heap.size w w' := f49_call x A c w hf hp
theorem rd_mem {l : List S41} {i : Int} (h0 : 0 ≤ i) (h1 : i < l.length) : rd_T41 l i ∈ l := by
  obtain ⟨j, rfl⟩ : ∃ j : Nat, i = (j : Int) := ⟨i.toNat, by omega⟩
  rw [rd_get (by omega)]
  exact List.getElem_mem _
set_option maxRecDepth 100000 in
set_option maxHeartbeats 16000000 in
theorem bookPrint_call (A : Option Addr) (c : Nat) (l : List S41) (w : World) (hC : Kd.C k41 w A l.length l) (hc : l.length ≤ c) (hl : l.length ≤ 1048576) (hs : ∀ x ∈ l, Small x) (hg : Glob w) (hp : Pow w) :
    Calls Tryz.prog 8 #[.slice A l.length c] w fun e w' => e = .returned (prtV l) ∧ Below w.heap.size w w' := by
  have HC := Aside0.mk (And.intro hC (And.intro hc (And.intro hl hs)))
  have HG := Aside0.mk (And.intro hg hp)
  have hlm := eq_true (show l.length ≤ 9223372036854775807 by omega)
  clear hC hc hl hs hg hp
  go_enter Tryz.func8, Tryz.ntmps8
  go_wp2_with fail
  go_loopg [20] l.length (fun kq v20 W => ∃ i : Int, v20 = .int .i64 i ∧ Aside0 (0 ≤ i ∧ i ≤ l.length ∧ l.length ≤ i + kq ∧ (∀ j : Nat, (j : Int) < i → canI (rd_T41 l (j : Int)) = 0) ∧ Below w.heap.size w W))
  case atStart => exact ⟨0, rfl, ⟨by omega, by omega, by omega, fun j hj => by omega, Below.refl _ _⟩⟩
  case round =>
    obtain ⟨i, rfl, HJ⟩ := hrel
    have HBw := Aside0.mk HJ.out.2.2.2.2
    by_cases hi : i < l.length
    · have p0 := HJ.out.1
      have q0 := hi
      obtain ⟨ad, A8, c8, e, hx0, hx1, hx2, hx3, hx4, hx5, hx6, hx7, hx8, hx9, hx10, hl8, hi8⟩ := at_T41 HC.out.1 i p0 q0
      cases e
      replace hx0 := pw_cell_below HBw.out hx0
      replace hx1 := pw_cell_below HBw.out hx1
      replace hx2 := pw_cell_below HBw.out hx2
      replace hx3 := pw_cell_below HBw.out hx3
      replace hx4 := pw_cell_below HBw.out hx4
      replace hx5 := pw_cell_below HBw.out hx5
      replace hx6 := pw_cell_below HBw.out hx6
      replace hx7 := pw_cell_below HBw.out hx7
      replace hx8 := pw_cell_below HBw.out hx8
      replace hx9 := pw_cell_below HBw.out hx9
      replace hx10 := pw_cell_below HBw.out hx10
      have HI := Aside0.mk hi
      clear hi hl8 hi8
      have hd := decide_eq_true q0
      replace p0 := eq_true p0
      replace q0 := eq_true q0
      go_wp2_with fail
      refine (fit_call (rd_T41 l i) A8 c8 _).mono ?_
      rintro e w1 ⟨rfl, hb⟩
      have HB1 := Aside0.mk (below_then (below_then HBw.out HBw.out.size (below_alloc (Below.refl _ _) _)) (by have := HBw.out.size; simp; omega) hb)
      clear hb hx0 hx1 hx2 hx3 hx4 hx5 hx6 hx7 hx8 hx9 hx10
      by_cases hcan : canI (rd_T41 l i) = 0
      · rw [errV_zero hcan]
        have HCN := Aside0.mk hcan
        clear hcan
        obtain ⟨k1, rfl⟩ : ∃ k1, gk = k1 + 1 := ⟨gk - 1, by have := HJ.out.2.2.1; have := HI.out; omega⟩
        go_wp2_with fail
        go_roundg k1
        case measure => omega
        case rel =>
          have := HI.out
          have := HC.out.2.2.1
          have := HJ.out.1
          refine ⟨i + 1, congrArg (Value.int .i64) (w64 (by omega) (by omega)), ⟨by omega, by omega, by have := HJ.out.2.2.1; omega, fun j hj => ?_, HB1.out⟩⟩
          by_cases hji : (j : Int) = i
          · rw [hji]; exact HCN.out
          · exact HJ.out.2.2.2.1 j (by omega)
      · rw [errV_not hcan]
        have HCN := Aside0.mk hcan
        clear hcan
        go_wp2_with fail
        refine (told_call (canI (rd_T41 l i)) i _ (HG.out.1.below HB1.out)).mono ?_
        rintro e w2 ⟨rfl, hb⟩
        have HB2 := Aside0.mk (below_then HB1.out HB1.out.size hb)
        clear hb
        go_wp2_with fail
        go_ret3
        refine ⟨?_, HB2.out⟩
        obtain ⟨j, rfl⟩ : ∃ j : Nat, i = (j : Int) := ⟨i.toNat, by have := HJ.out.1; omega⟩
        unfold prtV
        rw [prt_bad (j := j) (by have := HI.out; omega) (fun k hk => HJ.out.2.2.2.1 k (by omega)) HCN.out]
        rfl
    · have hd : decide (i < (l.length : Int)) = false := decide_eq_false hi
      have he : i = l.length := by have := HJ.out.2.1; omega
      have HOK := Aside0.mk (show ∀ k : Nat, k < l.length → canI (rd_T41 l (k : Int)) = 0 from fun k hk => HJ.out.2.2.2.1 k (by omega))
      clear hi he
      by_cases hm : 4096 < l.length
      · have hm1 : decide (4096 < l.length) = true := decide_eq_true hm
        have hm2 : decide ((4096 : Int) < (l.length : Int)) = true := decide_eq_true (by omega)
        have HM := Aside0.mk hm
        clear hm
        go_wp2_with fail
        go_ret3
        refine ⟨?_, HBw.out⟩
        unfold prtV
        rw [prt_many HOK.out HM.out]
        rfl
      · have hm1 : decide (4096 < l.length) = false := decide_eq_false hm
        have hm2 : decide ((4096 : Int) < (l.length : Int)) = false := decide_eq_false (by omega)
        have HM0 := Aside0.mk hm
        clear hm HJ
        obtain ⟨wa, hwa⟩ : ∃ wa, wa = wr := ⟨_, rfl⟩
        subst hwa
        go_wp2_with fail
        go_loopg [10, 45] l.length (fun kq v10 v45 W => ∃ i : Int, v45 = .int .i64 i ∧ Aside0 (0 ≤ i ∧ i ≤ l.length ∧ l.length ≤ i + kq ∧ Rb W w.heap.size v10 (lines (l.take i.toNat)) ∧ (lines (l.take i.toNat)).length ≤ 65536 ∧ Below w.heap.size w W))
        case atStart => exact ⟨0, rfl, ⟨by omega, by omega, by omega, Kd.R_nil _ _ _ _ _, by simp [lines], HBw.out⟩⟩
        case round =>
          clear HBw
          obtain ⟨i, rfl, HJ⟩ := hrel
          have HBw := Aside0.mk HJ.out.2.2.2.2.2
          by_cases hi : i < l.length
          · have p0 := HJ.out.1
            have q0 := hi
            obtain ⟨ad, A8, c8, e, hx0, hx1, hx2, hx3, hx4, hx5, hx6, hx7, hx8, hx9, hx10, hl8, hi8⟩ := at_T41 HC.out.1 i p0 q0
            cases e
            replace hx0 := pw_cell_below HBw.out hx0
            replace hx1 := pw_cell_below HBw.out hx1
            replace hx2 := pw_cell_below HBw.out hx2
            replace hx3 := pw_cell_below HBw.out hx3
            replace hx4 := pw_cell_below HBw.out hx4
            replace hx5 := pw_cell_below HBw.out hx5
            replace hx6 := pw_cell_below HBw.out hx6
            replace hx7 := pw_cell_below HBw.out hx7
            replace hx8 := pw_cell_below HBw.out hx8
            replace hx9 := pw_cell_below HBw.out hx9
            replace hx10 := pw_cell_below HBw.out hx10
            have HI := Aside0.mk (And.intro hi (And.intro hl8 hi8))
            clear hi hl8 hi8
            have hd := decide_eq_true q0
            replace p0 := eq_true p0
            replace q0 := eq_true q0
            obtain ⟨k1, rfl⟩ : ∃ k1, gk = k1 + 1 := ⟨gk - 1, by have := HJ.out.2.2.1; have := HI.out.1; omega⟩
            go_wp2_with fail
            refine (writers_call _).mono ?_
            rintro e w2 ⟨rfl, hw⟩
            obtain ⟨eb, heb⟩ : ∃ eb, wr.heap.size = eb := ⟨_, rfl⟩
            have hBe : Below wr.heap.size wr w2 := by rw [← hw]; exact below_alloc (below_alloc (Below.refl _ _) _) _
            have hfb : w2.heap[eb + 1]? = some (.cells fns 53 (0, 0)) := by
              rw [← hw, ← heb]
              have := blk_new (wr.alloc (.cells #[.int .i64 (rd_T41 l i).f0, .string (rd_T41 l i).f1, .string (rd_T41 l i).f2.f0, .string (rd_T41 l i).f2.f1, .string (rd_T41 l i).f3.f0, .string (rd_T41 l i).f3.f1, .string (rd_T41 l i).f4, .int .i64 (rd_T41 l i).f5, .slice A8 (rd_T41 l i).f6.length c8, .int .i64 (rd_T41 l i).f7, .bool (rd_T41 l i).f8] 41)) (.cells fns 53)
              simpa using this
            have hee : w2.heap[eb]? = some (.cells #[.int .i64 (rd_T41 l i).f0, .string (rd_T41 l i).f1, .string (rd_T41 l i).f2.f0, .string (rd_T41 l i).f2.f1, .string (rd_T41 l i).f3.f0, .string (rd_T41 l i).f3.f1, .string (rd_T41 l i).f4, .int .i64 (rd_T41 l i).f5, .slice A8 (rd_T41 l i).f6.length c8, .int .i64 (rd_T41 l i).f7, .bool (rd_T41 l i).f8] 41 (0, 0)) := by
              rw [← hw, ← heb]
              exact blk_alloc (blk_new wr _) _
            have HE := Aside0.mk (And.intro hfb hee)
            have HB2 := Aside0.mk (below_then HBw.out HBw.out.size hBe)
            have HOut := Aside0.mk (Kd.R_below HJ.out.2.2.2.1 hBe)
            have hsz2 : (wr.alloc (.cells #[.int .i64 (rd_T41 l i).f0, .string (rd_T41 l i).f1, .string (rd_T41 l i).f2.f0, .string (rd_T41 l i).f2.f1, .string (rd_T41 l i).f3.f0, .string (rd_T41 l i).f3.f1, .string (rd_T41 l i).f4, .int .i64 (rd_T41 l i).f5, .slice A8 (rd_T41 l i).f6.length c8, .int .i64 (rd_T41 l i).f7, .bool (rd_T41 l i).f8] 41)).heap.size = eb + 1 := by rw [← heb]; simp
            rw [hsz2]
            rw [heb]
            have HX := Aside0.mk (And.intro (HC.out.2.2.2 _ (rd_mem HJ.out.1 HI.out.1)) (show canI (rd_T41 l i) = 0 from by have h0 := HJ.out.1; have h1 := HOK.out i.toNat (by have := HI.out.1; omega); rwa [Int.toNat_of_nonneg h0] at h1))
            clear hw hfb hee hBe hsz2 hx0 hx1 hx2 hx3 hx4 hx5 hx6 hx7 hx8 hx9 hx10
            go_wp2_with fail
            go_loopg [13, 51] 8 (fun kq v13 v51 W => ∃ k : Nat, v51 = .int .i64 (k : Int) ∧ Aside0 (k ≤ 8 ∧ 8 ≤ k + kq ∧ Kd.string.R 9 W w2.heap.size (fun _ => True) v13 ((eight (rd_T41 l i)).take k) ∧ Below w2.heap.size w2 W))
            case atStart => exact ⟨0, rfl, ⟨by omega, by omega, Kd.R_nil _ _ _ _ _, Below.refl _ _⟩⟩
            case round =>
              obtain ⟨k, rfl, HK⟩ := hrel
              have HBk := Aside0.mk (below_then HB2.out HB2.out.size HK.out.2.2.2)
              obtain ⟨ex0, ex1, ex2, ex3, ex4, ex5, ex6, ex7, ex8, ex9, ex10⟩ := eleven (blk_below HE.out.2 HK.out.2.2.2)
              have hfk := blk_below HE.out.1 HK.out.2.2.2
              rcases (show k = 0 ∨ k = 1 ∨ k = 2 ∨ k = 3 ∨ k = 4 ∨ k = 5 ∨ k = 6 ∨ k = 7 ∨ k = 8 from by have := HK.out.1; omega) with rfl | rfl | rfl | rfl | rfl | rfl | rfl | rfl | rfl
              · have cf : wr.cell? ⟨eb + 1, 0, none⟩ = some (.func (.func 46) #[] #[]) := (blk_cell hfk 0).trans rfl
                clear hfk
                obtain ⟨k1_, rfl⟩ : ∃ k1, gk = k1 + 1 := ⟨gk - 1, by have := HK.out.2.1; omega⟩
                go_wp2_with fail
                refine (f46_call (rd_T41 l i) A8 c8 _ (HX.out.1.fits HX.out.2) (HG.out.2.below HBk.out)).mono ?_
                rintro e w3 ⟨rfl, hb⟩
                have HRk := Aside0.mk (Kd.R_below HK.out.2.2.1 hb)
                have HBn := Aside0.mk (below_then HK.out.2.2.2 HK.out.2.2.2.size hb)
                clear hb ex0 ex1 ex2 ex3 ex4 ex5 ex6 ex7 ex8 ex9 ex10 cf
                go_wp2_with (first | ((with_reducible refine gate_builtin (b := .append) (xs := #[.tmp 55, .tmp 60]) rfl ?_); at_builtin; refine Kd.R_append Kd.string (w0 := w2) w2.heap.size rfl (.tmp 55) (.tmp 60) 30 9 (.string ⟨#[]⟩) 16 rfl Tryz.underlying30 info9 rfl (by decide) (by omega) u13 ((eight (rd_T41 l i)).take 0) (⟨(Lib.itoa (rd_T41 l i).f0).toArray⟩ : ByteArray) [.string (⟨(Lib.itoa (rd_T41 l i).f0).toArray⟩ : ByteArray)] (fun _ => True) (fun _ => False) rfl rfl ?aP (fun _ hk => hk.elim) ?aF ?aO ?aB ?aS ?aL ?_; (case aP => exact rfl); (case aF => exact (fun _ _ => trivial)); (case aO => exact HRk.out); (case aB => exact HBn.out); (case aS => exact HBn.out.size); (case aL => (have := List.length_take_le 0 (eight (rd_T41 l i)); omega)); intro v1 w4 ho hb hg hat; have HN := Aside0.mk (And.intro ho hb); clear ho hb hg hat))
                go_roundg k1_
                case measure => omega
                case rel => exact ⟨1, by go_num, ⟨by omega, by have := HK.out.2.1; omega, HN.out.1, HN.out.2⟩⟩
              · have cf : wr.cell? ⟨eb + 1, 1, none⟩ = some (.func (.func 47) #[] #[]) := (blk_cell hfk 1).trans rfl
                clear hfk
                obtain ⟨k1_, rfl⟩ : ∃ k1, gk = k1 + 1 := ⟨gk - 1, by have := HK.out.2.1; omega⟩
                go_wp2_with fail
                refine (f47_call (rd_T41 l i) A8 c8 _ (HX.out.1.fits HX.out.2) (HG.out.2.below HBk.out)).mono ?_
                rintro e w3 ⟨rfl, hb⟩
                have HRk := Aside0.mk (Kd.R_below HK.out.2.2.1 hb)
                have HBn := Aside0.mk (below_then HK.out.2.2.2 HK.out.2.2.2.size hb)
                clear hb ex0 ex1 ex2 ex3 ex4 ex5 ex6 ex7 ex8 ex9 ex10 cf
                go_wp2_with (first | ((with_reducible refine gate_builtin (b := .append) (xs := #[.tmp 55, .tmp 60]) rfl ?_); at_builtin; refine Kd.R_append Kd.string (w0 := w2) w2.heap.size rfl (.tmp 55) (.tmp 60) 30 9 (.string ⟨#[]⟩) 16 rfl Tryz.underlying30 info9 rfl (by decide) (by omega) u13 ((eight (rd_T41 l i)).take 1) (⟨(Lib.itoa (rd_T41 l i).f7).toArray⟩ : ByteArray) [.string (⟨(Lib.itoa (rd_T41 l i).f7).toArray⟩ : ByteArray)] (fun _ => True) (fun _ => False) rfl rfl ?aP (fun _ hk => hk.elim) ?aF ?aO ?aB ?aS ?aL ?_; (case aP => exact rfl); (case aF => exact (fun _ _ => trivial)); (case aO => exact HRk.out); (case aB => exact HBn.out); (case aS => exact HBn.out.size); (case aL => (have := List.length_take_le 1 (eight (rd_T41 l i)); omega)); intro v1 w4 ho hb hg hat; have HN := Aside0.mk (And.intro ho hb); clear ho hb hg hat))
                go_roundg k1_
                case measure => omega
                case rel => exact ⟨2, by go_num, ⟨by omega, by have := HK.out.2.1; omega, HN.out.1, HN.out.2⟩⟩
              · have cf : wr.cell? ⟨eb + 1, 2, none⟩ = some (.func (.func 48) #[] #[]) := (blk_cell hfk 2).trans rfl
                clear hfk
                obtain ⟨k1_, rfl⟩ : ∃ k1, gk = k1 + 1 := ⟨gk - 1, by have := HK.out.2.1; omega⟩
                go_wp2_with fail
                refine (f48_call (rd_T41 l i) A8 c8 _ (HX.out.1.fits HX.out.2) (HG.out.2.below HBk.out)).mono ?_
                rintro e w3 ⟨rfl, hb⟩
                have HRk := Aside0.mk (Kd.R_below HK.out.2.2.1 hb)
                have HBn := Aside0.mk (below_then HK.out.2.2.2 HK.out.2.2.2.size hb)
                clear hb ex0 ex1 ex2 ex3 ex4 ex5 ex6 ex7 ex8 ex9 ex10 cf
                go_wp2_with (first | ((with_reducible refine gate_builtin (b := .append) (xs := #[.tmp 55, .tmp 60]) rfl ?_); at_builtin; refine Kd.R_append Kd.string (w0 := w2) w2.heap.size rfl (.tmp 55) (.tmp 60) 30 9 (.string ⟨#[]⟩) 16 rfl Tryz.underlying30 info9 rfl (by decide) (by omega) u13 ((eight (rd_T41 l i)).take 2) (⟨(Lib.itoa (rd_T41 l i).f5).toArray⟩ : ByteArray) [.string (⟨(Lib.itoa (rd_T41 l i).f5).toArray⟩ : ByteArray)] (fun _ => True) (fun _ => False) rfl rfl ?aP (fun _ hk => hk.elim) ?aF ?aO ?aB ?aS ?aL ?_; (case aP => exact rfl); (case aF => exact (fun _ _ => trivial)); (case aO => exact HRk.out); (case aB => exact HBn.out); (case aS => exact HBn.out.size); (case aL => (have := List.length_take_le 2 (eight (rd_T41 l i)); omega)); intro v1 w4 ho hb hg hat; have HN := Aside0.mk (And.intro ho hb); clear ho hb hg hat))
                go_roundg k1_
                case measure => omega
                case rel => exact ⟨3, by go_num, ⟨by omega, by have := HK.out.2.1; omega, HN.out.1, HN.out.2⟩⟩
              · have cf : wr.cell? ⟨eb + 1, 3, none⟩ = some (.func (.func 49) #[] #[]) := (blk_cell hfk 3).trans rfl
                clear hfk
                obtain ⟨k1_, rfl⟩ : ∃ k1, gk = k1 + 1 := ⟨gk - 1, by have := HK.out.2.1; omega⟩
                go_wp2_with fail
                refine (f49s_call (rd_T41 l i) A8 c8 _ (HX.out.1.fits HX.out.2) (HG.out.2.below HBk.out)).mono ?_
                rintro e w3 ⟨rfl, hb⟩
                have HRk := Aside0.mk (Kd.R_below HK.out.2.2.1 hb)
                have HBn := Aside0.mk (below_then HK.out.2.2.2 HK.out.2.2.2.size hb)
                clear hb ex0 ex1 ex2 ex3 ex4 ex5 ex6 ex7 ex8 ex9 ex10 cf
                go_wp2_with (first | ((with_reducible refine gate_builtin (b := .append) (xs := #[.tmp 55, .tmp 60]) rfl ?_); at_builtin; refine Kd.R_append Kd.string (w0 := w2) w2.heap.size rfl (.tmp 55) (.tmp 60) 30 9 (.string ⟨#[]⟩) 16 rfl Tryz.underlying30 info9 rfl (by decide) (by omega) u13 ((eight (rd_T41 l i)).take 3) (signT (rd_T41 l i).f8 : ByteArray) [.string (signT (rd_T41 l i).f8 : ByteArray)] (fun _ => True) (fun _ => False) rfl rfl ?aP (fun _ hk => hk.elim) ?aF ?aO ?aB ?aS ?aL ?_; (case aP => exact rfl); (case aF => exact (fun _ _ => trivial)); (case aO => exact HRk.out); (case aB => exact HBn.out); (case aS => exact HBn.out.size); (case aL => (have := List.length_take_le 3 (eight (rd_T41 l i)); omega)); intro v1 w4 ho hb hg hat; have HN := Aside0.mk (And.intro ho hb); clear ho hb hg hat))
                go_roundg k1_
                case measure => omega
                case rel => exact ⟨4, by go_num, ⟨by omega, by have := HK.out.2.1; omega, HN.out.1, HN.out.2⟩⟩
              · have cf : wr.cell? ⟨eb + 1, 4, none⟩ = some (.func (.func 50) #[] #[]) := (blk_cell hfk 4).trans rfl
                clear hfk
                obtain ⟨k1_, rfl⟩ : ∃ k1, gk = k1 + 1 := ⟨gk - 1, by have := HK.out.2.1; omega⟩
                go_wp2_with fail
                refine (f50_call (rd_T41 l i) A8 c8 _ (HX.out.1.fits HX.out.2) (HG.out.2.below HBk.out)).mono ?_
                rintro e w3 ⟨rfl, hb⟩
                have HRk := Aside0.mk (Kd.R_below HK.out.2.2.1 hb)
                have HBn := Aside0.mk (below_then HK.out.2.2.2 HK.out.2.2.2.size hb)
                clear hb ex0 ex1 ex2 ex3 ex4 ex5 ex6 ex7 ex8 ex9 ex10 cf
                go_wp2_with (first | ((with_reducible refine gate_builtin (b := .append) (xs := #[.tmp 55, .tmp 60]) rfl ?_); at_builtin; refine Kd.R_append Kd.string (w0 := w2) w2.heap.size rfl (.tmp 55) (.tmp 60) 30 9 (.string ⟨#[]⟩) 16 rfl Tryz.underlying30 info9 rfl (by decide) (by omega) u13 ((eight (rd_T41 l i)).take 4) ((esc (rd_T41 l i).f1) : ByteArray) [.string ((esc (rd_T41 l i).f1) : ByteArray)] (fun _ => True) (fun _ => False) rfl rfl ?aP (fun _ hk => hk.elim) ?aF ?aO ?aB ?aS ?aL ?_; (case aP => exact rfl); (case aF => exact (fun _ _ => trivial)); (case aO => exact HRk.out); (case aB => exact HBn.out); (case aS => exact HBn.out.size); (case aL => (have := List.length_take_le 4 (eight (rd_T41 l i)); omega)); intro v1 w4 ho hb hg hat; have HN := Aside0.mk (And.intro ho hb); clear ho hb hg hat))
                go_roundg k1_
                case measure => omega
                case rel => exact ⟨5, by go_num, ⟨by omega, by have := HK.out.2.1; omega, HN.out.1, HN.out.2⟩⟩
              · have cf : wr.cell? ⟨eb + 1, 5, none⟩ = some (.func (.func 51) #[] #[]) := (blk_cell hfk 5).trans rfl
                clear hfk
                obtain ⟨k1_, rfl⟩ : ∃ k1, gk = k1 + 1 := ⟨gk - 1, by have := HK.out.2.1; omega⟩
                go_wp2_with fail
                refine (f51_call (rd_T41 l i) A8 c8 _ (HX.out.1.fits HX.out.2) (HG.out.2.below HBk.out)).mono ?_
                rintro e w3 ⟨rfl, hb⟩
                have HRk := Aside0.mk (Kd.R_below HK.out.2.2.1 hb)
                have HBn := Aside0.mk (below_then HK.out.2.2.2 HK.out.2.2.2.size hb)
                clear hb ex0 ex1 ex2 ex3 ex4 ex5 ex6 ex7 ex8 ex9 ex10 cf
                go_wp2_with (first | ((with_reducible refine gate_builtin (b := .append) (xs := #[.tmp 55, .tmp 60]) rfl ?_); at_builtin; refine Kd.R_append Kd.string (w0 := w2) w2.heap.size rfl (.tmp 55) (.tmp 60) 30 9 (.string ⟨#[]⟩) 16 rfl Tryz.underlying30 info9 rfl (by decide) (by omega) u13 ((eight (rd_T41 l i)).take 5) ((ratT (rd_T41 l i).f2.f0 (rd_T41 l i).f2.f1) : ByteArray) [.string ((ratT (rd_T41 l i).f2.f0 (rd_T41 l i).f2.f1) : ByteArray)] (fun _ => True) (fun _ => False) rfl rfl ?aP (fun _ hk => hk.elim) ?aF ?aO ?aB ?aS ?aL ?_; (case aP => exact rfl); (case aF => exact (fun _ _ => trivial)); (case aO => exact HRk.out); (case aB => exact HBn.out); (case aS => exact HBn.out.size); (case aL => (have := List.length_take_le 5 (eight (rd_T41 l i)); omega)); intro v1 w4 ho hb hg hat; have HN := Aside0.mk (And.intro ho hb); clear ho hb hg hat))
                go_roundg k1_
                case measure => omega
                case rel => exact ⟨6, by go_num, ⟨by omega, by have := HK.out.2.1; omega, HN.out.1, HN.out.2⟩⟩
              · have cf : wr.cell? ⟨eb + 1, 6, none⟩ = some (.func (.func 52) #[] #[]) := (blk_cell hfk 6).trans rfl
                clear hfk
                obtain ⟨k1_, rfl⟩ : ∃ k1, gk = k1 + 1 := ⟨gk - 1, by have := HK.out.2.1; omega⟩
                go_wp2_with fail
                refine (f52_call (rd_T41 l i) A8 c8 _ (HX.out.1.fits HX.out.2) (HG.out.2.below HBk.out)).mono ?_
                rintro e w3 ⟨rfl, hb⟩
                have HRk := Aside0.mk (Kd.R_below HK.out.2.2.1 hb)
                have HBn := Aside0.mk (below_then HK.out.2.2.2 HK.out.2.2.2.size hb)
                clear hb ex0 ex1 ex2 ex3 ex4 ex5 ex6 ex7 ex8 ex9 ex10 cf
                go_wp2_with (first | ((with_reducible refine gate_builtin (b := .append) (xs := #[.tmp 55, .tmp 60]) rfl ?_); at_builtin; refine Kd.R_append Kd.string (w0 := w2) w2.heap.size rfl (.tmp 55) (.tmp 60) 30 9 (.string ⟨#[]⟩) 16 rfl Tryz.underlying30 info9 rfl (by decide) (by omega) u13 ((eight (rd_T41 l i)).take 6) ((ratT (rd_T41 l i).f3.f0 (rd_T41 l i).f3.f1) : ByteArray) [.string ((ratT (rd_T41 l i).f3.f0 (rd_T41 l i).f3.f1) : ByteArray)] (fun _ => True) (fun _ => False) rfl rfl ?aP (fun _ hk => hk.elim) ?aF ?aO ?aB ?aS ?aL ?_; (case aP => exact rfl); (case aF => exact (fun _ _ => trivial)); (case aO => exact HRk.out); (case aB => exact HBn.out); (case aS => exact HBn.out.size); (case aL => (have := List.length_take_le 6 (eight (rd_T41 l i)); omega)); intro v1 w4 ho hb hg hat; have HN := Aside0.mk (And.intro ho hb); clear ho hb hg hat))
                go_roundg k1_
                case measure => omega
                case rel => exact ⟨7, by go_num, ⟨by omega, by have := HK.out.2.1; omega, HN.out.1, HN.out.2⟩⟩
              · have cf : wr.cell? ⟨eb + 1, 7, none⟩ = some (.func (.func 53) #[] #[]) := (blk_cell hfk 7).trans rfl
                clear hfk
                obtain ⟨k1_, rfl⟩ : ∃ k1, gk = k1 + 1 := ⟨gk - 1, by have := HK.out.2.1; omega⟩
                go_wp2_with fail
                refine (f53_call (rd_T41 l i) A8 c8 _ (HX.out.1.fits HX.out.2) (HG.out.2.below HBk.out)).mono ?_
                rintro e w3 ⟨rfl, hb⟩
                have HRk := Aside0.mk (Kd.R_below HK.out.2.2.1 hb)
                have HBn := Aside0.mk (below_then HK.out.2.2.2 HK.out.2.2.2.size hb)
                clear hb ex0 ex1 ex2 ex3 ex4 ex5 ex6 ex7 ex8 ex9 ex10 cf
                go_wp2_with (first | ((with_reducible refine gate_builtin (b := .append) (xs := #[.tmp 55, .tmp 60]) rfl ?_); at_builtin; refine Kd.R_append Kd.string (w0 := w2) w2.heap.size rfl (.tmp 55) (.tmp 60) 30 9 (.string ⟨#[]⟩) 16 rfl Tryz.underlying30 info9 rfl (by decide) (by omega) u13 ((eight (rd_T41 l i)).take 7) ((esc (rd_T41 l i).f4) : ByteArray) [.string ((esc (rd_T41 l i).f4) : ByteArray)] (fun _ => True) (fun _ => False) rfl rfl ?aP (fun _ hk => hk.elim) ?aF ?aO ?aB ?aS ?aL ?_; (case aP => exact rfl); (case aF => exact (fun _ _ => trivial)); (case aO => exact HRk.out); (case aB => exact HBn.out); (case aS => exact HBn.out.size); (case aL => (have := List.length_take_le 7 (eight (rd_T41 l i)); omega)); intro v1 w4 ho hb hg hat; have HN := Aside0.mk (And.intro ho hb); clear ho hb hg hat))
                go_roundg k1_
                case measure => omega
                case rel => exact ⟨8, by go_num, ⟨by omega, by have := HK.out.2.1; omega, HN.out.1, HN.out.2⟩⟩
              · clear hfk
                have hat8 := Kd.C_below HI.out.2.2 (below_then HB2.out HB2.out.size HK.out.2.2.2)
                have HK8 := Aside0.mk (And.intro (show Kd.string.R 9 wr w2.heap.size (fun _ => True) u13 (eight (rd_T41 l i)) from HK.out.2.2.1) HK.out.2.2.2)
                clear hat8
                go_wp2_with fail
                go_loopg [13, 66] (rd_T41 l i).f6.length (fun kq v13 v66 W => ∃ m : Int, v66 = .int .i64 m ∧ Aside0 (0 ≤ m ∧ m ≤ (rd_T41 l i).f6.length ∧ (rd_T41 l i).f6.length ≤ m + kq ∧ Kd.string.R 9 W w2.heap.size (fun _ => True) v13 (eight (rd_T41 l i) ++ ((rd_T41 l i).f6.take m.toNat).map esc) ∧ Below w2.heap.size w2 W))
                case atStart => exact ⟨0, rfl, ⟨by omega, by omega, by omega, by simpa using HK8.out.1, HK8.out.2⟩⟩
                case round =>
                  obtain ⟨m, rfl, HM⟩ := hrel
                  have HBm := Aside0.mk (below_then HB2.out HB2.out.size HM.out.2.2.2.2)
                  have ht8 := tags_le HX.out.2
                  have HT8 := Aside0.mk ht8
                  clear ht8
                  by_cases hm : m < (rd_T41 l i).f6.length
                  · obtain ⟨ad8, e8, htc⟩ := Kd.at_string HI.out.2.2 m HM.out.1 hm
                    cases e8
                    replace htc := pw_cell_below HBm.out htc
                    obtain ⟨tg, htg⟩ : ∃ tg, rdOf ByteArray.empty (rd_T41 l i).f6 m = tg := ⟨_, rfl⟩
                    have htm : tg ∈ (rd_T41 l i).f6 ∧ (rd_T41 l i).f6.take (m.toNat + 1) = (rd_T41 l i).f6.take m.toNat ++ [tg] := by
                      have hmn : m.toNat < (rd_T41 l i).f6.length := by have := HM.out.1; omega
                      have e : tg = (rd_T41 l i).f6[m.toNat] := by rw [← htg]; simp [rdOf, hmn]
                      rw [e]
                      exact ⟨List.getElem_mem _, List.take_succ_eq_append_getElem hmn⟩
                    rw [htg] at htc
                    have p1 := eq_true HM.out.1
                    have q1 := eq_true hm
                    have hdm := decide_eq_true hm
                    have HTG := Aside0.mk (And.intro hm htm)
                    obtain ⟨k1_, rfl⟩ : ∃ k1, gk = k1 + 1 := ⟨gk - 1, by have := HM.out.2.2.1; omega⟩
                    clear hm htm htg
                    go_wp2_with fail
                    refine (shielded_call tg _ (by have := HX.out.1.s6 tg HTG.out.2.1; omega)).mono ?_
                    rintro e w3 ⟨rfl, hb⟩
                    have HRk := Aside0.mk (Kd.R_below HM.out.2.2.2.1 hb)
                    have HBn := Aside0.mk (below_then HM.out.2.2.2.2 HM.out.2.2.2.2.size hb)
                    clear hb htc
                    go_wp2_with (first | ((with_reducible refine gate_builtin (b := .append) (xs := #[.tmp 70, .tmp 73]) rfl ?_); at_builtin; refine Kd.R_append Kd.string (w0 := w2) w2.heap.size rfl (.tmp 70) (.tmp 73) 30 9 (.string ⟨#[]⟩) 16 rfl Tryz.underlying30 info9 rfl (by decide) (by omega) u13 (eight (rd_T41 l i) ++ ((rd_T41 l i).f6.take m.toNat).map esc) (esc tg) [.string (esc tg)] (fun _ => True) (fun _ => False) rfl rfl ?aP (fun _ hk => hk.elim) ?aF ?aO ?aB ?aS ?aL ?_; (case aP => exact rfl); (case aF => exact (fun _ _ => trivial)); (case aO => exact HRk.out); (case aB => exact HBn.out); (case aS => exact HBn.out.size); (case aL => (have h1 := List.length_take_le' m.toNat (rd_T41 l i).f6; have h2 := HT8.out; have h3 : (eight (rd_T41 l i)).length = 8 := rfl; rw [List.length_append, List.length_map, h3]; omega)); intro v1 w4 ho hb hg hat; have HN := Aside0.mk (And.intro ho hb); clear ho hb hg hat))
                    go_roundg k1_
                    case measure => omega
                    case rel =>
                      have hm := HTG.out.1
                      have ht := HT8.out
                      have h0 := HM.out.1
                      refine ⟨m + 1, congrArg (Value.int .i64) (w64 (by omega) (by omega)), ⟨by omega, by omega, by have := HM.out.2.2.1; omega, ?_, HN.out.2⟩⟩
                      have e : (m + 1).toNat = m.toNat + 1 := by omega
                      rw [e, HTG.out.2.2, List.map_append, ← List.append_assoc]
                      exact HN.out.1
                  · have hdm : decide (m < ((rd_T41 l i).f6.length : Int)) = false := decide_eq_false hm
                    have he : m.toNat = (rd_T41 l i).f6.length := by have := HM.out.2.1; have := HM.out.1; omega
                    have hR := HM.out.2.2.2.1
                    rw [he, List.take_length] at hR
                    have HR := Aside0.mk (show Kd.string.R 9 wr w2.heap.size (fun _ => True) u13 (parts (rd_T41 l i)) from hR)
                    have HBo := Aside0.mk (Kd.R_below HOut.out HM.out.2.2.2.2)
                    clear hm he hR
                    go_wp2_with fail
                    refine (joined_call u13 (parts (rd_T41 l i)) w2.heap.size (fun _ => True) _ HR.out (parts_ne _) (by have := (parts_len HX.out.2).1; omega) (by have := line_len HX.out.1 HX.out.2; omega)).mono ?_
                    rintro e w3 ⟨rfl, hb⟩
                    have HOo := Aside0.mk (Kd.own_of_R (Kd.R_below HBo.out hb))
                    have HB3 := Aside0.mk (below_then HBm.out HBm.out.size hb)
                    have HLn := Aside0.mk (show (jn (parts (rd_T41 l i))).size ≤ 33554448 by rw [← bytesOf_length, bytesOf_jn]; exact line_len HX.out.1 HX.out.2)
                    clear hb
                    go_upto_region 28 with (first | ((with_reducible refine gate_builtin (b := .append) (xs := #[.tmp 76, .tmp 78]) rfl ?_); at_builtin; refine print_append_str (w0 := w) w.heap.size rfl (.tmp 76) (.tmp 78) 50 9 5 rfl Tryz.underlying50 Tryz.underlying9 info5 u10 (lines (l.take i.toNat)) (jn (parts (rd_T41 l i))) rfl rfl ?aO ?aB ?aS ?aL ?_; (case aO => exact HOo.out); (case aB => exact HB3.out); (case aS => exact HB3.out.size); (case aL => (have := HJ.out.2.2.2.2.1; have := HLn.out; omega)); intro v1 w4 ho hb hg; rw [bytesOf_jn] at ho; have HN := Aside0.mk (And.intro (show Rb w4 w.heap.size v1 (lines (l.take i.toNat) ++ jnL (parts (rd_T41 l i))) from Kd.R_of_own ho (fun k hk => own_base ho k hk)) hb); clear ho hb hg) | ((with_reducible refine gate_builtin (b := .append) (xs := #[.tmp 80, .tmp 81]) rfl ?_); at_builtin; refine Kd.R_append (Kd.int .u8) (w0 := w) w.heap.size rfl (.tmp 80) (.tmp 81) 50 5 (.int .u8 0) 1 rfl Tryz.underlying50 info5 rfl (by decide) (by omega) v1 (lines (l.take i.toNat) ++ jnL (parts (rd_T41 l i))) 10 [.int .u8 10] (fun k => w.heap.size ≤ k) (fun _ => False) rfl rfl ?aP (fun _ hk => hk.elim) ?aF ?aO ?aB ?aS ?aL ?_; (case aP => exact rfl); (case aF => exact (fun k hk => Nat.le_trans HN.out.2.size hk)); (case aO => exact HN.out.1); (case aB => exact HN.out.2); (case aS => exact HN.out.2.size); (case aL => (have := HJ.out.2.2.2.2.1; have := line_len HX.out.1 HX.out.2; rw [List.length_append]; omega)); intro v2 w5 ho hb hg hat; obtain ⟨A2, c2, hv, _, _⟩ := Kd.R_reads ho; obtain ⟨N5, hN5⟩ : ∃ N, (lines (l.take i.toNat) ++ jnL (parts (rd_T41 l i)) ++ [10]).length = N := ⟨_, rfl⟩; rw [hN5] at hv; subst hv; have HN2 := Aside0.mk (And.intro ho (And.intro hb hN5)); clear ho hb hg hat hN5 HN))
                    have hline : lines (l.take i.toNat) ++ jnL (parts (rd_T41 l i)) ++ [10] = lines (l.take (i.toNat + 1)) := by
                      have h0 := HJ.out.1
                      have h1 := HI.out.1
                      rw [lines_take l i.toNat (by omega), ← rd_get (by omega), Int.toNat_of_nonneg h0, List.append_assoc]
                      rfl
                    have HL := Aside0.mk hline
                    clear hline
                    by_cases h5 : 65536 < N5
                    · have h51 : decide (65536 < N5) = true := decide_eq_true h5
                      have h52 : decide ((65536 : Int) < (N5 : Int)) = true := decide_eq_true (by omega)
                      have H5 := Aside0.mk h5
                      clear h5
                      go_wp2_with fail
                      go_ret3
                      refine ⟨?_, HN2.out.2.1⟩
                      unfold prtV
                      rw [prt_long HOK.out HM0.out (i.toNat + 1) (by have h6 := HN2.out.2.2; rw [HL.out] at h6; rw [h6]; exact H5.out)]
                      rfl
                    · have h51 : decide (65536 < N5) = false := decide_eq_false h5
                      have h52 : decide ((65536 : Int) < (N5 : Int)) = false := decide_eq_false (by omega)
                      have H5 := Aside0.mk h5
                      clear h5
                      go_wp2_with fail
                      go_roundg k1
                      case measure => omega
                      case rel =>
                        have h0 := HJ.out.1
                        have h1 := HI.out.1
                        have h2 := HC.out.2.2.1
                        have e : (i + 1).toNat = i.toNat + 1 := by omega
                        have h6 := HN2.out.2.2
                        have h7 := HN2.out.1
                        rw [HL.out] at h6 h7
                        refine ⟨i + 1, congrArg (Value.int .i64) (w64 (by omega) (by omega)), ⟨by omega, by omega, by have := HJ.out.2.2.1; omega, ?_, ?_, HN2.out.2.1⟩⟩
                        · rw [e, ← h6]; rw [← h6] at h7; exact h7
                        · rw [e, h6]; have := H5.out; omega
          · have hd : decide (i < (l.length : Int)) = false := decide_eq_false hi
            have he : i.toNat = l.length := by have := HJ.out.2.1; have := HJ.out.1; omega
            have hO := HJ.out.2.2.2.1
            have hO2 := HJ.out.2.2.2.2.1
            rw [he, List.take_length] at hO hO2
            obtain ⟨A2, c2, hv, _, hC2⟩ := Kd.R_reads hO
            subst hv
            have hcv := Kd.C_string (P := Tryz.prog) (c := c2) (src := 50) (dst := 9) (e := 5) Tryz.underlying50 Tryz.underlying5 Tryz.underlying9 hC2
            obtain ⟨N6, hN6⟩ : ∃ N, (lines l).length = N := ⟨_, rfl⟩
            rw [hN6] at hcv
            rw [hN6]
            have HO := Aside0.mk hO2
            clear hi he hO hO2 hC2 hN6
            go_wp2_with fail
            go_ret3
            refine ⟨?_, HBw.out⟩
            unfold prtV
            rw [prt_ok HOK.out HM0.out (by have := HO.out; omega)]
            rfl
end Go.Proofs.YthbdjmopolpjmaaGreatDoor.C
end
section
namespace Go.Proofs.YthbdjmopolpjmaaGreatDoor.F
open Go.RowKit Go.Proofs.YthbdjmopolpjmaaGreatDoorW.PrintWords Go.Proofs.YthbdjmopolpjmaaGreatDoorW.PrintLast Go.Proofs.YthbdjmopolpjmaaGreatDoorW.PrintMore
attribute [local go_sem] max2_int min2_int max_two min_two max_three min_three max_four min_four
set_option linter.unusedVariables false
set_option linter.unusedSimpArgs false
theorem eqA39 (d : Nat) (w : World) (x0 y0 : ByteArray) (x1 y1 : ByteArray) :
    (Op.equalIn (d + 2) 39 (.agg #[.string x0, .string x1]) (.agg #[.string y0, .string y1])).run Tryz.prog w = .ok (x0.toList == y0.toList && (x1.toList == y1.toList)) w := by
  refine eqA_of Tryz.underlying39 (by kernel_rfl) ?_
  refine eqf_cons (by rfl) (by go_simp; rfl) (by go_simp; rfl) (by go_simp) ?_
  exact eqf_last (by rfl) (by go_simp; rfl) (by go_simp; rfl) (by go_simp)
end Go.Proofs.YthbdjmopolpjmaaGreatDoor.F
end
section
namespace Go.Proofs.YthbdjmopolpjmaaGreatDoor.F
open Go.RowKit Go.Proofs.YthbdjmopolpjmaaGreatDoorW.PrintWords Go.Proofs.YthbdjmopolpjmaaGreatDoorW.PrintLast Go.Proofs.YthbdjmopolpjmaaGreatDoorW.PrintMore
attribute [local go_sem] max2_int min2_int max_two min_two max_three min_three max_four min_four
set_option linter.unusedVariables false
set_option linter.unusedSimpArgs false
def cubitref29_texts.l0 : Nat → List ByteArray → List ByteArray → Int → Option (Bool)
  | 0, _, _, _ => none
  | k + 1, x0, x1, x5 => if x5 < (x0.length : Int) then (if 0 ≤ x5 then (if x5 < (x1.length : Int) then (if (rdOf ByteArray.empty x0 x5).toList = (rdOf ByteArray.empty x1 x5).toList then (cubitref29_texts.l0 k x0 x1 (wrap64 (x5 + 1))) else (some false)) else (none)) else (none)) else (some true)
def cubitref29_texts.f (k : Nat) (l0 : List ByteArray) (l1 : List ByteArray) : Option (Bool) := if (l0.length : Int) = (l1.length : Int) then (cubitref29_texts.l0 k l0 l1 0) else (some false)
theorem cubitref29_texts.mono_l : ∀ k, (∀ y0 y1 y2, LeO (cubitref29_texts.l0 k y0 y1 y2) (cubitref29_texts.l0 (k + 1) y0 y1 y2))
  | 0 => fun _ _ _ r h => by simp [cubitref29_texts.l0] at h
  | k + 1 => by
    have ih0 := cubitref29_texts.mono_l k
    · intro y0 y1 y2
      unfold cubitref29_texts.l0
      repeat' first
      | (with_reducible exact ih0 _ _ _)
      | (with_reducible exact LeO.refl _)
      | (with_reducible exact LeO.none _)
      | (with_reducible refine LeO.ite ?_ ?_)
      | (with_reducible refine LeO.bind ?_ (fun _ => ?_))
      | exact ih0 _ _ _
      | exact LeO.none _
      | refine LeO.ite ?_ ?_
      | refine LeO.bind ?_ (fun _ => ?_)
theorem cubitref29_texts.mono : ∀ a0 a1 k, LeO (cubitref29_texts.f k a0 a1) (cubitref29_texts.f (k + 1) a0 a1) := by
  intro a0 a1 k
  have ih0 := cubitref29_texts.mono_l k
  unfold cubitref29_texts.f
  repeat' first
      | (with_reducible exact ih0 _ _ _)
      | (with_reducible exact LeO.refl _)
      | (with_reducible exact LeO.none _)
      | (with_reducible refine LeO.ite ?_ ?_)
      | (with_reducible refine LeO.bind ?_ (fun _ => ?_))
      | exact ih0 _ _ _
      | exact LeO.none _
      | refine LeO.ite ?_ ?_
      | refine LeO.bind ?_ (fun _ => ?_)
set_option maxHeartbeats 8000000 in
set_option maxRecDepth 100000 in
theorem cubitref29_texts.calls (k : Nat) (A0 : Option Addr) (c0 : Nat) (l0 : List ByteArray) (A1 : Option Addr) (c1 : Nat) (l1 : List ByteArray) (r : Bool) (w : World) (hr0 : Kd.C Kd.string w A0 l0.length l0) (hc0 : l0.length ≤ c0) (hr1 : Kd.C Kd.string w A1 l1.length l1) (hc1 : l1.length ≤ c1) (h : cubitref29_texts.f k l0 l1 = some r) :
    Calls Tryz.prog 65 #[.slice A0 l0.length c0, .slice A1 l1.length c1] w fun e w' => e = .returned (.bool r) ∧ Drawn0 w w' := by
  have HR0 := Aside0.mk hr0
  have HC0 := Aside0.mk hc0
  clear hr0 hc0
  have HR1 := Aside0.mk hr1
  have HC1 := Aside0.mk hc1
  clear hr1 hc1
  have H : (if (l0.length : Int) = (l1.length : Int) then (cubitref29_texts.l0 k l0 l1 0) else (some false)) = some r := h
  clear h
  by_cases c3 : (l0.length : Int) = (l1.length : Int)
  · rw [if_pos c3] at H
    have c3b0 : ((l0.length : Int) == (l1.length : Int)) = true := beq_iff_eq.mpr c3
    have c3b1 : ((l0.length : Int) != (l1.length : Int)) = false := bne_eq_false_iff_eq.mpr c3
    have c3b2 : (l0.length == l1.length) = true := by first | simpa using c3 | (simp at c3 ⊢; omega)
    clear c3
    have H' := Aside0.mk H
    clear H
    go_enter Tryz.func65, Tryz.ntmps65
    go_wp2
    repeat (go_quiet (fail); try go_wp2)
    go_loopg [5] k (fun kq v5 w' => ∃ (x5_1 : Int), v5 = .int .i64 x5_1 ∧ Aside0 (cubitref29_texts.l0 kq l0 l1 x5_1 = some r) ∧ Aside0 (kq ≤ k) ∧ Drawn0 w w')
    case atStart => exact ⟨(0), (by first | rfl | (simp; done) | (simp [*]; done)), H', ⟨Nat.le_refl _⟩, by repeat (first | exact Drawn0.refl _ | apply Drawn0.step)⟩
    case round =>
      clear H'
      try clear c1
      try clear p2
      try clear c3
      try clear c3b0
      try clear c3b1
      try clear c3b2
      obtain ⟨x5_1, rfl, HA, HK1, ⟨m1, rfl⟩⟩ := hrel
      cases gk with
      | zero => exact absurd HA.out (by simp [cubitref29_texts.l0])
      | succ k1 =>
        have H := HA.out
        clear HA
        simp only [cubitref29_texts.l0] at H
        by_cases c4 : x5_1 < (l0.length : Int)
        · rw [if_pos c4] at H
          have c4b0 : decide (x5_1 < (l0.length : Int)) = true := decide_eq_true c4
          clear c4
          by_cases c5 : 0 ≤ x5_1
          · rw [if_pos c5] at H
            have c5b0 : decide (0 ≤ x5_1) = true := decide_eq_true c5
            clear c5
            by_cases c6 : x5_1 < (l1.length : Int)
            · rw [if_pos c6] at H
              have c6b0 : decide (x5_1 < (l1.length : Int)) = true := decide_eq_true c6
              clear c6
              by_cases c7 : (rdOf ByteArray.empty l0 x5_1).toList = (rdOf ByteArray.empty l1 x5_1).toList
              · rw [if_pos c7] at H
                have c7b0 : ((rdOf ByteArray.empty l0 x5_1).toList == (rdOf ByteArray.empty l1 x5_1).toList) = true := beq_iff_eq.mpr c7
                have c7b1 : ((rdOf ByteArray.empty l0 x5_1).toList != (rdOf ByteArray.empty l1 x5_1).toList) = false := bne_eq_false_iff_eq.mpr c7
                clear c7
                have H' := Aside0.mk H
                clear H
                have p302 : 0 ≤ (x5_1 : Int) := of_decide_eq_true (by first | (with_reducible assumption) | assumption)
                have q302 : x5_1 < (l0.length : Int) := of_decide_eq_true (by first | (with_reducible assumption) | assumption)
                obtain ⟨ad302, e302, hx302_0⟩ := Kd.at_string HR0.out x5_1 p302 q302
                cases e302
                replace p302 := eq_true p302
                replace q302 := eq_true q302
                have p303 : 0 ≤ (x5_1 : Int) := of_decide_eq_true (by first | (with_reducible assumption) | assumption)
                have q303 : x5_1 < (l1.length : Int) := of_decide_eq_true (by first | (with_reducible assumption) | assumption)
                obtain ⟨ad303, e303, hx303_0⟩ := Kd.at_string HR1.out x5_1 p303 q303
                cases e303
                replace p303 := eq_true p303
                replace q303 := eq_true q303
                go_wp2
                repeat (go_quiet (fail); try go_wp2)
                go_roundg k1
                case measure => have := HK1.out; omega
                case rel => exact ⟨(wrap64 (x5_1 + 1)), (by first | rfl | (simp; done) | (simp [*]; done)), H', ⟨by have := HK1.out; omega⟩, by repeat (first | exact Drawn0.refl _ | apply Drawn0.step)⟩
              · rw [if_neg c7] at H
                have c7b0 : ((rdOf ByteArray.empty l0 x5_1).toList == (rdOf ByteArray.empty l1 x5_1).toList) = false := beq_eq_false_iff_ne.mpr c7
                have c7b1 : ((rdOf ByteArray.empty l0 x5_1).toList != (rdOf ByteArray.empty l1 x5_1).toList) = true := bne_iff_ne.mpr c7
                obtain rfl := Option.some.inj H
                have p302 : 0 ≤ (x5_1 : Int) := of_decide_eq_true (by first | (with_reducible assumption) | assumption)
                have q302 : x5_1 < (l0.length : Int) := of_decide_eq_true (by first | (with_reducible assumption) | assumption)
                obtain ⟨ad302, e302, hx302_0⟩ := Kd.at_string HR0.out x5_1 p302 q302
                cases e302
                replace p302 := eq_true p302
                replace q302 := eq_true q302
                have p303 : 0 ≤ (x5_1 : Int) := of_decide_eq_true (by first | (with_reducible assumption) | assumption)
                have q303 : x5_1 < (l1.length : Int) := of_decide_eq_true (by first | (with_reducible assumption) | assumption)
                obtain ⟨ad303, e303, hx303_0⟩ := Kd.at_string HR1.out x5_1 p303 q303
                cases e303
                replace p303 := eq_true p303
                replace q303 := eq_true q303
                go_wp2
                repeat (go_quiet (fail); try go_wp2)
                go_ret
                exact ⟨by first | rfl | (simp; done) | (simp [*]; done), by repeat (first | exact Drawn0.refl _ | apply Drawn0.step)⟩
            · rw [if_neg c6] at H
              exact absurd H (by simp)
          · rw [if_neg c5] at H
            exact absurd H (by simp)
        · rw [if_neg c4] at H
          have c4b0 : decide (x5_1 < (l0.length : Int)) = false := decide_eq_false c4
          clear c4
          obtain rfl := Option.some.inj H
          go_wp2
          repeat (go_quiet (fail); try go_wp2)
          go_ret
          exact ⟨by first | rfl | (simp; done) | (simp [*]; done), by repeat (first | exact Drawn0.refl _ | apply Drawn0.step)⟩
  · rw [if_neg c3] at H
    have c3b0 : ((l0.length : Int) == (l1.length : Int)) = false := beq_eq_false_iff_ne.mpr c3
    have c3b1 : ((l0.length : Int) != (l1.length : Int)) = true := bne_iff_ne.mpr c3
    have c3b2 : (l0.length == l1.length) = false := by first | simpa using c3 | (simp at c3 ⊢; omega)
    obtain rfl := Option.some.inj H
    go_enter Tryz.func65, Tryz.ntmps65
    go_wp2
    repeat (go_quiet (fail); try go_wp2)
    go_ret
    exact ⟨by first | rfl | (simp; done) | (simp [*]; done), by repeat (first | exact Drawn0.refl _ | apply Drawn0.step)⟩
end Go.Proofs.YthbdjmopolpjmaaGreatDoor.F
end
section
namespace Go.Proofs.YthbdjmopolpjmaaGreatDoor.F
open Go.RowKit Go.Proofs.YthbdjmopolpjmaaGreatDoorW.PrintWords Go.Proofs.YthbdjmopolpjmaaGreatDoorW.PrintLast Go.Proofs.YthbdjmopolpjmaaGreatDoorW.PrintMore
attribute [local go_sem] max2_int min2_int max_two min_two max_three min_three max_four min_four
set_option linter.unusedVariables false
set_option linter.unusedSimpArgs false
def cubitref01_SameTexts.l0 : Nat → List ByteArray → List ByteArray → Int → Option (Bool)
  | 0, _, _, _ => none
  | k + 1, x0, x1, x5 => if x5 < (x0.length : Int) then (if 0 ≤ x5 then (if x5 < (x1.length : Int) then (if (rdOf ByteArray.empty x0 x5).toList = (rdOf ByteArray.empty x1 x5).toList then (cubitref01_SameTexts.l0 k x0 x1 (wrap64 (x5 + 1))) else (some false)) else (none)) else (none)) else (some true)
def cubitref01_SameTexts.f (k : Nat) (l0 : List ByteArray) (l1 : List ByteArray) : Option (Bool) := if (l0.length : Int) = (l1.length : Int) then (cubitref01_SameTexts.l0 k l0 l1 0) else (some false)
theorem cubitref01_SameTexts.mono_l : ∀ k, (∀ y0 y1 y2, LeO (cubitref01_SameTexts.l0 k y0 y1 y2) (cubitref01_SameTexts.l0 (k + 1) y0 y1 y2))
  | 0 => fun _ _ _ r h => by simp [cubitref01_SameTexts.l0] at h
  | k + 1 => by
    have ih0 := cubitref01_SameTexts.mono_l k
    · intro y0 y1 y2
      unfold cubitref01_SameTexts.l0
      repeat' first
      | (with_reducible exact ih0 _ _ _)
      | (with_reducible exact LeO.refl _)
      | (with_reducible exact LeO.none _)
      | (with_reducible refine LeO.ite ?_ ?_)
      | (with_reducible refine LeO.bind ?_ (fun _ => ?_))
      | exact ih0 _ _ _
      | exact LeO.none _
      | refine LeO.ite ?_ ?_
      | refine LeO.bind ?_ (fun _ => ?_)
theorem cubitref01_SameTexts.mono : ∀ a0 a1 k, LeO (cubitref01_SameTexts.f k a0 a1) (cubitref01_SameTexts.f (k + 1) a0 a1) := by
  intro a0 a1 k
  have ih0 := cubitref01_SameTexts.mono_l k
  unfold cubitref01_SameTexts.f
  repeat' first
      | (with_reducible exact ih0 _ _ _)
      | (with_reducible exact LeO.refl _)
      | (with_reducible exact LeO.none _)
      | (with_reducible refine LeO.ite ?_ ?_)
      | (with_reducible refine LeO.bind ?_ (fun _ => ?_))
      | exact ih0 _ _ _
      | exact LeO.none _
      | refine LeO.ite ?_ ?_
      | refine LeO.bind ?_ (fun _ => ?_)
set_option maxHeartbeats 8000000 in
set_option maxRecDepth 100000 in
theorem cubitref01_SameTexts.calls (k : Nat) (A0 : Option Addr) (c0 : Nat) (l0 : List ByteArray) (A1 : Option Addr) (c1 : Nat) (l1 : List ByteArray) (r : Bool) (w : World) (hr0 : Kd.C Kd.string w A0 l0.length l0) (hc0 : l0.length ≤ c0) (hr1 : Kd.C Kd.string w A1 l1.length l1) (hc1 : l1.length ≤ c1) (h : cubitref01_SameTexts.f k l0 l1 = some r) :
    Calls Tryz.prog 14 #[.slice A0 l0.length c0, .slice A1 l1.length c1] w fun e w' => e = .returned (.bool r) ∧ Drawn0 w w' := by
  have HR0 := Aside0.mk hr0
  have HC0 := Aside0.mk hc0
  clear hr0 hc0
  have HR1 := Aside0.mk hr1
  have HC1 := Aside0.mk hc1
  clear hr1 hc1
  have H : (if (l0.length : Int) = (l1.length : Int) then (cubitref01_SameTexts.l0 k l0 l1 0) else (some false)) = some r := h
  clear h
  by_cases c3 : (l0.length : Int) = (l1.length : Int)
  · rw [if_pos c3] at H
    have c3b0 : ((l0.length : Int) == (l1.length : Int)) = true := beq_iff_eq.mpr c3
    have c3b1 : ((l0.length : Int) != (l1.length : Int)) = false := bne_eq_false_iff_eq.mpr c3
    have c3b2 : (l0.length == l1.length) = true := by first | simpa using c3 | (simp at c3 ⊢; omega)
    clear c3
    have H' := Aside0.mk H
    clear H
    go_enter Tryz.func14, Tryz.ntmps14
    go_wp2
    repeat (go_quiet (fail); try go_wp2)
    go_loopg [5] k (fun kq v5 w' => ∃ (x5_1 : Int), v5 = .int .i64 x5_1 ∧ Aside0 (cubitref01_SameTexts.l0 kq l0 l1 x5_1 = some r) ∧ Aside0 (kq ≤ k) ∧ Drawn0 w w')
    case atStart => exact ⟨(0), (by first | rfl | (simp; done) | (simp [*]; done)), H', ⟨Nat.le_refl _⟩, by repeat (first | exact Drawn0.refl _ | apply Drawn0.step)⟩
    case round =>
      clear H'
      try clear c1
      try clear p2
      try clear c3
      try clear c3b0
      try clear c3b1
      try clear c3b2
      obtain ⟨x5_1, rfl, HA, HK1, ⟨m1, rfl⟩⟩ := hrel
      cases gk with
      | zero => exact absurd HA.out (by simp [cubitref01_SameTexts.l0])
      | succ k1 =>
        have H := HA.out
        clear HA
        simp only [cubitref01_SameTexts.l0] at H
        by_cases c4 : x5_1 < (l0.length : Int)
        · rw [if_pos c4] at H
          have c4b0 : decide (x5_1 < (l0.length : Int)) = true := decide_eq_true c4
          clear c4
          by_cases c5 : 0 ≤ x5_1
          · rw [if_pos c5] at H
            have c5b0 : decide (0 ≤ x5_1) = true := decide_eq_true c5
            clear c5
            by_cases c6 : x5_1 < (l1.length : Int)
            · rw [if_pos c6] at H
              have c6b0 : decide (x5_1 < (l1.length : Int)) = true := decide_eq_true c6
              clear c6
              by_cases c7 : (rdOf ByteArray.empty l0 x5_1).toList = (rdOf ByteArray.empty l1 x5_1).toList
              · rw [if_pos c7] at H
                have c7b0 : ((rdOf ByteArray.empty l0 x5_1).toList == (rdOf ByteArray.empty l1 x5_1).toList) = true := beq_iff_eq.mpr c7
                have c7b1 : ((rdOf ByteArray.empty l0 x5_1).toList != (rdOf ByteArray.empty l1 x5_1).toList) = false := bne_eq_false_iff_eq.mpr c7
                clear c7
                have H' := Aside0.mk H
                clear H
                have p341 : 0 ≤ (x5_1 : Int) := of_decide_eq_true (by first | (with_reducible assumption) | assumption)
                have q341 : x5_1 < (l0.length : Int) := of_decide_eq_true (by first | (with_reducible assumption) | assumption)
                obtain ⟨ad341, e341, hx341_0⟩ := Kd.at_string HR0.out x5_1 p341 q341
                cases e341
                replace p341 := eq_true p341
                replace q341 := eq_true q341
                have p342 : 0 ≤ (x5_1 : Int) := of_decide_eq_true (by first | (with_reducible assumption) | assumption)
                have q342 : x5_1 < (l1.length : Int) := of_decide_eq_true (by first | (with_reducible assumption) | assumption)
                obtain ⟨ad342, e342, hx342_0⟩ := Kd.at_string HR1.out x5_1 p342 q342
                cases e342
                replace p342 := eq_true p342
                replace q342 := eq_true q342
                go_wp2
                repeat (go_quiet (fail); try go_wp2)
                go_roundg k1
                case measure => have := HK1.out; omega
                case rel => exact ⟨(wrap64 (x5_1 + 1)), (by first | rfl | (simp; done) | (simp [*]; done)), H', ⟨by have := HK1.out; omega⟩, by repeat (first | exact Drawn0.refl _ | apply Drawn0.step)⟩
              · rw [if_neg c7] at H
                have c7b0 : ((rdOf ByteArray.empty l0 x5_1).toList == (rdOf ByteArray.empty l1 x5_1).toList) = false := beq_eq_false_iff_ne.mpr c7
                have c7b1 : ((rdOf ByteArray.empty l0 x5_1).toList != (rdOf ByteArray.empty l1 x5_1).toList) = true := bne_iff_ne.mpr c7
                obtain rfl := Option.some.inj H
                have p341 : 0 ≤ (x5_1 : Int) := of_decide_eq_true (by first | (with_reducible assumption) | assumption)
                have q341 : x5_1 < (l0.length : Int) := of_decide_eq_true (by first | (with_reducible assumption) | assumption)
                obtain ⟨ad341, e341, hx341_0⟩ := Kd.at_string HR0.out x5_1 p341 q341
                cases e341
                replace p341 := eq_true p341
                replace q341 := eq_true q341
                have p342 : 0 ≤ (x5_1 : Int) := of_decide_eq_true (by first | (with_reducible assumption) | assumption)
                have q342 : x5_1 < (l1.length : Int) := of_decide_eq_true (by first | (with_reducible assumption) | assumption)
                obtain ⟨ad342, e342, hx342_0⟩ := Kd.at_string HR1.out x5_1 p342 q342
                cases e342
                replace p342 := eq_true p342
                replace q342 := eq_true q342
                go_wp2
                repeat (go_quiet (fail); try go_wp2)
                go_ret
                exact ⟨by first | rfl | (simp; done) | (simp [*]; done), by repeat (first | exact Drawn0.refl _ | apply Drawn0.step)⟩
            · rw [if_neg c6] at H
              exact absurd H (by simp)
          · rw [if_neg c5] at H
            exact absurd H (by simp)
        · rw [if_neg c4] at H
          have c4b0 : decide (x5_1 < (l0.length : Int)) = false := decide_eq_false c4
          clear c4
          obtain rfl := Option.some.inj H
          go_wp2
          repeat (go_quiet (fail); try go_wp2)
          go_ret
          exact ⟨by first | rfl | (simp; done) | (simp [*]; done), by repeat (first | exact Drawn0.refl _ | apply Drawn0.step)⟩
  · rw [if_neg c3] at H
    have c3b0 : ((l0.length : Int) == (l1.length : Int)) = false := beq_eq_false_iff_ne.mpr c3
    have c3b1 : ((l0.length : Int) != (l1.length : Int)) = true := bne_iff_ne.mpr c3
    have c3b2 : (l0.length == l1.length) = false := by first | simpa using c3 | (simp at c3 ⊢; omega)
    obtain rfl := Option.some.inj H
    go_enter Tryz.func14, Tryz.ntmps14
    go_wp2
    repeat (go_quiet (fail); try go_wp2)
    go_ret
    exact ⟨by first | rfl | (simp; done) | (simp [*]; done), by repeat (first | exact Drawn0.refl _ | apply Drawn0.step)⟩
end Go.Proofs.YthbdjmopolpjmaaGreatDoor.F
end
