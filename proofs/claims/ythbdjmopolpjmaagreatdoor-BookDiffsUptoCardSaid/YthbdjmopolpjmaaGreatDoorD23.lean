/- Part 23 of the proof: CLawD, CDiffs. -/
import Derived.Test.YthbdjmopolpjmaaGreatDoorCards
import Derived.Test.YthbdjmopolpjmaaGreatDoorD00
import Derived.Test.YthbdjmopolpjmaaGreatDoorD01
import Derived.Test.YthbdjmopolpjmaaGreatDoorD02
import Derived.Test.YthbdjmopolpjmaaGreatDoorD03
import Derived.Test.YthbdjmopolpjmaaGreatDoorD04
import Derived.Test.YthbdjmopolpjmaaGreatDoorD05
import Derived.Test.YthbdjmopolpjmaaGreatDoorD06
import Derived.Test.YthbdjmopolpjmaaGreatDoorD07
import Derived.Test.YthbdjmopolpjmaaGreatDoorD08
import Derived.Test.YthbdjmopolpjmaaGreatDoorD09
import Derived.Test.YthbdjmopolpjmaaGreatDoorD10
import Derived.Test.YthbdjmopolpjmaaGreatDoorD11
import Derived.Test.YthbdjmopolpjmaaGreatDoorD12
import Derived.Test.YthbdjmopolpjmaaGreatDoorD13
import Derived.Test.YthbdjmopolpjmaaGreatDoorD14
import Derived.Test.YthbdjmopolpjmaaGreatDoorD15
import Derived.Test.YthbdjmopolpjmaaGreatDoorD16
import Derived.Test.YthbdjmopolpjmaaGreatDoorD17
import Derived.Test.YthbdjmopolpjmaaGreatDoorD18
import Derived.Test.YthbdjmopolpjmaaGreatDoorD19
import Derived.Test.YthbdjmopolpjmaaGreatDoorD20
import Derived.Test.YthbdjmopolpjmaaGreatDoorD21
import Derived.Test.YthbdjmopolpjmaaGreatDoorD22
import Derived.Test.YthbdjmopolpjmaaGreatDoorRows
import Derived.Test.YthbdjmopolpjmaaGreatDoorTie
section
set_option linter.unusedVariables false
set_option linter.unusedSimpArgs false
namespace Go.Proofs.YthbdjmopolpjmaaGreatDoor.C
open Go.RowKit Go.Proofs.YthbdjmopolpjmaaGreatDoorW.PrintWords Go.Proofs.YthbdjmopolpjmaaGreatDoorW.PrintLast Go.Proofs.YthbdjmopolpjmaaGreatDoorW.PrintMore Go.Proofs.YthbdjmopolpjmaaGreatDoor.F Go.Proofs.YthbdjmopolpjmaaGreatDoor.M
attribute [local go_sem] max2_int min2_int max_two min_two max_three min_three max_four min_four
theorem In.ent {A : Option Addr} {c : Nat} {l : List S41} {w : World} (h : In A c l w) (hn : ∀ x ∈ l, Wf x.f0) : Ent w A c l := ⟨h.reads, h.cap, h.len, hn, h.tags⟩
theorem outs_small {l l2 : List S41} {cs : List Int} (h : ∀ n ∈ cs, Wf n) : ∀ s ∈ cs.flatMap (outD l l2), s.size ≤ 200 := by
  intro s hs
  obtain ⟨id, hid, hm⟩ := List.mem_flatMap.1 hs
  have hw := wf_range (h id hid)
  have h1 := Lib.itoa_length_le id hw.1 hw.2
  have h2 : (numT id).size = (Lib.itoa id).length := List.size_toArray
  have h3 : ∀ a b : UInt8, (⟨#[a, b]⟩ : ByteArray).size = 2 := fun _ _ => rfl
  cases hf2 : first l2 id with
  | none =>
    rw [outD_gone hf2] at hm
    rw [List.mem_singleton.1 hm, ByteArray.size_append, h3]
    omega
  | some y =>
    cases hf1 : first l id with
    | none =>
      rw [outD_new hf1 hf2] at hm
      rw [List.mem_singleton.1 hm, ByteArray.size_append, h3]
      omega
    | some x =>
      rw [outD_both hf1 hf2] at hm
      split at hm
      · cases hm
      · have h4 := diffT_size x y
        rw [List.mem_singleton.1 hm, ByteArray.size_append, ByteArray.size_append, h3]
        omega
set_option maxRecDepth 100000 in
set_option maxHeartbeats 8000000 in
theorem bookDiffs_call (A B : Option Addr) (c d : Nat) (l l2 : List S41) (w : World) (hi : Ent w A c l) (hi2 : Ent w B d l2) (hg : Glob w) (hp : Pow w) : Calls Tryz.prog 4 #[.slice A l.length c, .slice B l2.length d] w fun e w' => e = .returned (.bool true) ∧ Below w.heap.size w w' := by
  have HI := Aside0.mk (And.intro hi hi2)
  have HG := Aside0.mk (And.intro hg hp)
  clear hi hi2 hg hp
  go_enter Tryz.func4, Tryz.ntmps4
  go_wp2_with fail
  refine (copied_call A c l _ HI.out.1.reads HI.out.1.cap HI.out.1.len HI.out.1.tags).mono ?_
  rintro e w1 ⟨A1, c1, rfl, hR, hb⟩
  obtain ⟨A3, c3, hv, hc3, hC3⟩ := Kd.R_reads hR
  have hll : (l.map (fun x => (x, true)) ++ [(behind, false)]).length = l.length + 1 := by simp
  rw [hll] at hv hc3 hC3
  injection hv with hv1 hv2 hv3
  subst hv1 hv3
  have H1 := Aside0.mk (And.intro hC3 (And.intro hc3 hb))
  clear hR hC3 hc3 hb hll hv2
  go_wp2_with fail
  refine (copied_call B d l2 _ (HI.out.2.below H1.out.2.2).reads HI.out.2.cap HI.out.2.len HI.out.2.tags).mono ?_
  rintro e w2 ⟨B1, d1, rfl, hR, hb⟩
  obtain ⟨A3, c3, hv, hc3, hC3⟩ := Kd.R_reads hR
  have hll : (l2.map (fun x => (x, true)) ++ [(behind, false)]).length = l2.length + 1 := by simp
  rw [hll] at hv hc3 hC3
  injection hv with hv1 hv2 hv3
  subst hv1 hv3
  have H2 := Aside0.mk (And.intro (Kd.C_below H1.out.1 hb) (And.intro hC3 (And.intro hc3 (below_then H1.out.2.2 H1.out.2.2.size hb))))
  clear hR hC3 hc3 hb hll hv2
  have hX : Ent w2 A1 c1 l := ⟨lent_reads H2.out.1, by have := H1.out.2.1; omega, HI.out.1.len, HI.out.1.nums, HI.out.1.tags⟩
  have hY : Ent w2 B1 d1 l2 := ⟨lent_reads H2.out.2.1, by have := H2.out.2.2.1; omega, HI.out.2.len, HI.out.2.nums, HI.out.2.tags⟩
  have HX := Aside0.mk (And.intro hX hY)
  clear hX hY
  go_wp2_with fail
  refine (bookDiff_call A1 B1 c1 d1 l l2 _ HX.out.1 HX.out.2 (HG.out.2.below H2.out.2.2.2)).mono ?_
  rintro e w3 ⟨v3, cs, rfl, hr, hcl, hR, hb⟩
  obtain ⟨A3, c3, hv, hc3, hC3⟩ := Kd.R_reads hR
  subst hv
  have H3 := Aside0.mk (And.intro hr (And.intro hcl (And.intro hc3 (And.intro hC3 (And.intro hb (below_then H2.out.2.2.2 H2.out.2.2.2.size hb))))))
  clear hr hcl hR hb hc3 hC3
  obtain ⟨ds, hds⟩ : ∃ ds, cs.flatMap (outD l l2) = ds := ⟨_, rfl⟩
  rw [hds] at H3
  rw [hds]
  have HD := Aside0.mk (And.intro hds (show ds.length ≤ 2097152 from by rw [← hds]; have h1 := outs_le l l2 cs; have h2 := H3.out.2.1; omega))
  clear hds
  go_wp2_with fail
  refine (refDiff_call A B c d l l2 cs _ (HI.out.1.below H3.out.2.2.2.2.2) (HI.out.2.below H3.out.2.2.2.2.2) H3.out.1 H3.out.2.1 (HG.out.2.below H3.out.2.2.2.2.2)).mono ?_
  rintro e w4 ⟨v4, rfl, hR, hb⟩
  rw [HD.out.1] at hR
  obtain ⟨A4, c4, hv, hc4, hC4⟩ := Kd.R_reads hR
  subst hv
  have H4 := Aside0.mk (And.intro hc4 (And.intro hC4 (And.intro (Kd.C_below H3.out.2.2.2.1 hb) (And.intro (below_then H3.out.2.2.2.2.1 H3.out.2.2.2.2.1.size hb) (below_then H3.out.2.2.2.2.2 H3.out.2.2.2.2.2.size hb)))))
  clear hR hb hc4 hC4
  go_wp2_with fail
  refine (cubitref01_SameTexts.calls (ds.length + 1) A3 c3 ds A4 c4 ds true _ H4.out.2.2.1 H3.out.2.2.1 H4.out.2.1 H4.out.1 (by rw [same_texts4 ds ds (by have := HD.out.2; omega), eqL_refl])).mono ?_
  rintro e w5 ⟨rfl, hdr⟩
  have H5 := Aside0.mk (And.intro (Kd.C_below H4.out.2.2.1 hdr.below) (And.intro (below_then H4.out.2.2.2.1 H4.out.2.2.2.1.size hdr.below) (below_then H4.out.2.2.2.2 H4.out.2.2.2.2.size hdr.below)))
  clear hdr
  go_wp2_with fail
  refine (kept_call A1 A c1 c l _ (Kd.C_below H2.out.1 H5.out.2.1) H1.out.2.1 (HI.out.1.below H5.out.2.2).reads HI.out.1.cap HI.out.1.len HI.out.1.tags).mono ?_
  rintro e w6 ⟨rfl, hb⟩
  have H6 := Aside0.mk (And.intro (Kd.C_below H5.out.1 hb) (And.intro (below_then H5.out.2.1 H5.out.2.1.size hb) (below_then H5.out.2.2 H5.out.2.2.size hb)))
  clear hb
  go_wp2_with fail
  refine (kept_call B1 B d1 d l2 _ (Kd.C_below H2.out.2.1 H6.out.2.1) H2.out.2.2.1 (HI.out.2.below H6.out.2.2).reads HI.out.2.cap HI.out.2.len HI.out.2.tags).mono ?_
  rintro e w7 ⟨rfl, hb⟩
  have H7 := Aside0.mk (And.intro (Kd.C_below H6.out.1 hb) (And.intro (below_then H6.out.2.1 H6.out.2.1.size hb) (below_then H6.out.2.2 H6.out.2.2.size hb)))
  clear hb
  go_wp2_with fail
  refine (bookDiff_call A1 A1 c1 c1 l l _ (HX.out.1.below H7.out.2.1) (HX.out.1.below H7.out.2.1) (HG.out.2.below H7.out.2.2)).mono ?_
  rintro e w8 ⟨v8, cs8, rfl, hr, hcl, hR, hb⟩
  rw [outs_self hr] at hR
  obtain ⟨A8, c8, hv, hc8, hC8⟩ := Kd.R_reads hR
  subst hv
  have H8 := Aside0.mk (And.intro (Kd.C_below H7.out.1 hb) (And.intro (below_then H7.out.2.1 H7.out.2.1.size hb) (below_then H7.out.2.2 H7.out.2.2.size hb)))
  clear hr hcl hR hb hc8 hC8
  go_wp2_with fail
  refine (bookDiff_call B1 A1 d1 c1 l2 l _ (HX.out.2.below H8.out.2.1) (HX.out.1.below H8.out.2.1) (HG.out.2.below H8.out.2.2)).mono ?_
  rintro e w9 ⟨v9, cs9, rfl, hr, hcl, hR, hb⟩
  obtain rfl : cs9 = cs := hr.swap.unique H3.out.1
  rw [(outs_map H3.out.1).1, HD.out.1] at hR
  obtain ⟨A9, c9, hv, hc9, hC9⟩ := Kd.R_reads hR
  rw [List.length_map] at hv hC9
  subst hv
  have H9 := Aside0.mk (And.intro (Kd.C_below H8.out.1 hb) (And.intro hC9 (And.intro (below_then H8.out.2.2 H8.out.2.2.size hb) (show ∀ s ∈ ds, 2 ≤ s.size from by rw [← HD.out.1]; exact (outs_map H3.out.1).2))))
  clear hr hcl hR hb hc9 hC9
  go_wp2_with fail
  have HSM := Aside0.mk (show ∀ s ∈ ds, s.size ≤ 200 from by rw [← HD.out.1]; exact outs_small (fun n hn => H3.out.1.wfs HI.out.1 HI.out.2 hn))
  go_loopg [10] ds.length (fun kq v10 W => ∃ j : Int, v10 = .int .i64 j ∧ Aside0 (0 ≤ j ∧ j ≤ ds.length ∧ ds.length ≤ j + kq ∧ Below w9.heap.size w9 W))
  case atStart => exact ⟨0, rfl, ⟨by omega, by omega, by omega, Below.refl _ _⟩⟩
  case round =>
    obtain ⟨j, rfl, HJ⟩ := hrel
    by_cases hj : j < ds.length
    · obtain ⟨ad1, e1, ht1⟩ := Kd.at_string H9.out.1 j HJ.out.1 hj
      cases e1
      obtain ⟨ad2, e2, ht2⟩ := Kd.at_string H9.out.2.1 j HJ.out.1 hj
      cases e2
      have hj0 : j.toNat < ds.length := by have := HJ.out.1; omega
      have hrd : rdOf ByteArray.empty (ds.map swapT) j = swapT (rdOf ByteArray.empty ds j) := by unfold rdOf; simp [hj0]
      rw [hrd] at ht2
      have h2 : 2 ≤ (rdOf ByteArray.empty ds j).size := H9.out.2.2.2 _ (by unfold rdOf; simp [hj0])
      have h200 : (rdOf ByteArray.empty ds j).size ≤ 200 := HSM.out _ (by unfold rdOf; simp [hj0])
      obtain ⟨tg, htg⟩ : ∃ tg, rdOf ByteArray.empty ds j = tg := ⟨_, rfl⟩
      rw [htg] at ht1 ht2 h2 h200
      replace ht1 := pw_cell_below HJ.out.2.2.2 ht1
      replace ht2 := pw_cell_below HJ.out.2.2.2 ht2
      have q0 := eq_true (show 0 < tg.size by omega)
      have qe := toList_pos (show 0 < tg.size by omega)
      have hx : ∀ h : 0 < tg.size, ((tg[0]'h).toNat : Int) = bt tg 0 := bt_at tg 0
      have hdl : ds.length ≤ 2097152 := HD.out.2
      have hd : decide (j < (ds.length : Int)) = true := decide_eq_true hj
      have p0 := eq_true HJ.out.1
      have p1 := eq_true hj
      obtain ⟨k1, rfl⟩ : ∃ k1, gk = k1 + 1 := ⟨gk - 1, by have := HJ.out.2.2.1; omega⟩
      have HX2 := Aside0.mk (And.intro hj hj0)
      clear hj hj0 hrd htg
      by_cases h43 : bt tg 0 = 43
      · have hs : swapT tg = ⟨#[45]⟩ ++ tg.extract 1 tg.size := by unfold swapT; rw [if_pos h43]
        have hb43 : ((bt tg 0) == 43) = true := beq_iff_eq.mpr h43
        obtain ⟨u, hu⟩ : ∃ u, tg.extract 1 tg.size = u := ⟨_, rfl⟩
        have hsl : ∀ W, (Instr.slice 9 (.string tg) (some (.int .i64 1)) none none).run Tryz.prog W = .ok (.string u) W := by
          intro W
          have h := run_slice_string_from_if (P := Tryz.prog) W 9 tg .i64 1 Tryz.underlying9
          rw [h]
          simp [hu]
          omega
        have hz : ¬ 9223372036854775807 < 1 + u.size := by rw [← hu]; simp only [ByteArray.size_extract]; omega
        rw [hs, hu] at ht2
        clear hs hu h43 h200
        go_wp2_with fail
        clear hz hsl
        go_roundg k1
        case measure => omega
        case rel => exact ⟨j + 1, congrArg (Value.int .i64) (w64 (by have := HJ.out.1; omega) (by have := HJ.out.1; have := HX2.out.1; omega)), ⟨by have := HJ.out.1; omega, by have := HX2.out.1; omega, by have := HJ.out.2.2.1; omega, HJ.out.2.2.2⟩⟩
      · have hb43 : ((bt tg 0) == 43) = false := beq_eq_false_iff_ne.mpr h43
        by_cases h45 : bt tg 0 = 45
        · have hs : swapT tg = ⟨#[43]⟩ ++ tg.extract 1 tg.size := by unfold swapT; rw [if_neg h43, if_pos h45]
          have hb45 : ((bt tg 0) == 45) = true := beq_iff_eq.mpr h45
          obtain ⟨u, hu⟩ : ∃ u, tg.extract 1 tg.size = u := ⟨_, rfl⟩
          have hsl : ∀ W, (Instr.slice 9 (.string tg) (some (.int .i64 1)) none none).run Tryz.prog W = .ok (.string u) W := by
            intro W
            have h := run_slice_string_from_if (P := Tryz.prog) W 9 tg .i64 1 Tryz.underlying9
            rw [h]
            simp [hu]
            omega
          have hz : ¬ 9223372036854775807 < 1 + u.size := by rw [← hu]; simp only [ByteArray.size_extract]; omega
          rw [hs, hu] at ht2
          clear hs hu h43 h45 h200
          go_wp2_with fail
          clear hz hsl
          go_roundg k1
          case measure => omega
          case rel => exact ⟨j + 1, congrArg (Value.int .i64) (w64 (by have := HJ.out.1; omega) (by have := HJ.out.1; have := HX2.out.1; omega)), ⟨by have := HJ.out.1; omega, by have := HX2.out.1; omega, by have := HJ.out.2.2.1; omega, HJ.out.2.2.2⟩⟩
        · have hs : swapT tg = tg := by unfold swapT; rw [if_neg h43, if_neg h45]
          have hb45 : ((bt tg 0) == 45) = false := beq_eq_false_iff_ne.mpr h45
          rw [hs] at ht2
          clear hs h43 h45 h200
          go_wp2_with fail
          go_roundg k1
          case measure => omega
          case rel => exact ⟨j + 1, congrArg (Value.int .i64) (w64 (by have := HJ.out.1; omega) (by have := HJ.out.1; have := HX2.out.1; omega)), ⟨by have := HJ.out.1; omega, by have := HX2.out.1; omega, by have := HJ.out.2.2.1; omega, HJ.out.2.2.2⟩⟩
    · have hd : decide (j < (ds.length : Int)) = false := decide_eq_false hj
      clear hj
      go_wp2_with fail
      refine (known_call _ (HG.out.1.below (below_then H9.out.2.2.1 H9.out.2.2.1.size HJ.out.2.2.2)) (HG.out.2.below (below_then H9.out.2.2.1 H9.out.2.2.1.size HJ.out.2.2.2))).mono ?_
      rintro e w10 ⟨rfl, hb⟩
      have H10 := Aside0.mk (below_then H9.out.2.2.1 H9.out.2.2.1.size (below_then HJ.out.2.2.2 HJ.out.2.2.2.size hb))
      clear hb
      go_wp2_with fail
      go_ret
      exact ⟨rfl, H10.out⟩
end Go.Proofs.YthbdjmopolpjmaaGreatDoor.C
end
section
set_option linter.unusedVariables false
namespace Go.Proofs.YthbdjmopolpjmaaGreatDoor.C
open Go.ChangeShapes Go.WideShapes Go.ChangeAt Go.RowKit
theorem ownD : ownKnob Tryz.prog.godebug = none := by kernel_rfl
theorem laidOutD : laidOutB Tryz.prog = true := by kernel_rfl
set_option maxRecDepth 100000 in
theorem diffs_contract (H : Type) (enc : TypeId × Value → H) (W : World) (base : Nat) (args : Array Value) (ds gs : List (DataW H)) (before : List MemPlace)
    (hval : ∀ (j : Nat) t v, Tryz.f4.params[j]? = some t → args[j]? = some v → Value.okWide Tryz.prog W .any base t v)
    (hW : DataW.Whole enc Tryz.prog Tryz.f4.params.toList Rows.bookDiffsSpec.vars false W args.toList ds gs before) (hk : Rows.uptoSmall H (ds ++ gs) = true) (hL : laidMetH Tryz.prog bookLaid W) :
    Calls Tryz.prog 4 args W fun e W' => ∃ v, e = .returned v ∧ Rows.bookDiffsSpec.post enc Tryz.prog Tryz.f4 false true false false W args v W' := by
  have hW' := hW
  obtain ⟨p, q, hA0, hV, rfl, hfz, hnd⟩ := hW
  have hA : DataW.TrodAll enc Tryz.prog W 0 (fun _ => true) true Tryz.f4.params.toList args.toList ds p := hA0
  rw [Tryz.params4] at hA hval
  obtain ⟨v0, v1, d0, d1, p0, p1, rfl, rfl, rfl, h0, h1⟩ := trodAll_two hA
  obtain ⟨rfl, rfl⟩ := trodVars_none hV
  have hb := bulks.bound hk
  have hd : Rows.uptoBulk d0 ≤ 1048576 ∧ Rows.uptoBulk d1 ≤ 1048576 := by
    have : Rows.uptoBulkAll ([d0, d1] ++ []) = Rows.uptoBulk d0 + (Rows.uptoBulk d1 + 0) := rfl
    rw [this] at hb
    omega
  obtain ⟨a0, len0, cap0, rfl⟩ := okWide_slice Tryz.underlying22 (hval 0 22 v0 rfl rfl)
  obtain ⟨a1, len1, cap1, rfl⟩ := okWide_slice Tryz.underlying22 (hval 1 22 v1 rfl rfl)
  obtain ⟨A, c, l, e, hi, hn⟩ := In.of_trod h0 hd.1
  obtain ⟨B, d, l2, e', hi2, hn2⟩ := In.of_trod h1 hd.2
  have e2 : Value.slice a0 len0 cap0 = Value.slice A l.length c := by simpa [Value.cells] using e
  have e3 : Value.slice a1 len1 cap1 = Value.slice B l2.length d := by simpa [Value.cells] using e'
  rw [e2] at h0 hW' ⊢
  rw [e3] at h1 hW' ⊢
  have lt0 : ∀ x ∈ p0, x.block < W.heap.size := by obtain ⟨m, hm⟩ := h0; exact DataW.trod_lt m _ _ _ hm
  have lt1 : ∀ x ∈ p1, x.block < W.heap.size := by obtain ⟨m, hm⟩ := h1; exact DataW.trod_lt m _ _ _ hm
  clear hA0 hA hV hval hk hb hfz hnd e e2 e' e3
  refine (bookDiffs_call A B c d l l2 W (hi.ent hn) (hi2.ent hn2) (glob_of_laid hL) (pow_of_laid (laid_parts hL).1)).mono fun e W' ⟨he, bel⟩ => ?_
  subst he
  exact ⟨_, rfl, _, _, _, [], _, [], hW', trodAll_mk1 (shut_bool Tryz.underlying4 _), trodAll_mk2 (Below.trod laidOutD (by kernel_rfl) (of_decide_eq_true (by kernel_rfl)) h0 bel lt0) (Below.trod laidOutD (by kernel_rfl) (of_decide_eq_true (by kernel_rfl)) h1 bel lt1), rfl, bel.frame _, fun h => by cases h⟩
theorem diffs_reads (os : Os) {H : Type} (enc : TypeId × Value → H) : ∃ places, DataW.whole enc Tryz.prog ((laidWorld os).forCall (fun _ _ => 0) ⟨#[], #[.slice none 0 0, .slice none 0 0], []⟩).memory Tryz.f4.params.toList Rows.bookDiffsSpec.vars false #[Value.slice none 0 0, Value.slice none 0 0].toList 8 = some ([.nil, .nil], [], places) :=
  ⟨[], by kernel_rfl⟩
set_option maxRecDepth 100000 in
theorem diffs_lifted (os : Os) (started : os.Started) (H : Type) (enc : TypeId × Value → H) (F : Stop.Interp) :
    ReturnsInHanded {} Tryz.checked os 4 .any ((Rows.OpenSpec.upto Rows.bookDiffsSpec).preRow enc Tryz.prog Tryz.f4 Rows.bookDiffsUptoRow.domain false Rows.bookDiffsUptoRow.laid) (((Rows.OpenSpec.upto Rows.bookDiffsSpec).at F).post enc Tryz.prog Tryz.f4 false true false false) := by
  obtain ⟨places, hx⟩ := diffs_reads os enc
  refine returnsInHanded_of_row (C := Tryz.checked) (s := Rows.OpenSpec.upto Rows.bookDiffsSpec) ownD started (by kernel_rfl) Tryz.func4
    (witness_row_atRef (enc := enc) (C := Tryz.checked) false (laidWorld os) #[.slice none 0 0, .slice none 0 0] (laidWorld_os os) (laidWorld_vars os _) (laidWorld_blocks os _) (by kernel_rfl)
      (OpenSpec.preRow_of_cond 8 hx (by kernel_rfl) (fun k hk => by cases hk; kernel_rfl) (by kernel_rfl) ?_)) ?_
  · exact laidWorld_met os _
  · intro W base args ds gs before hval hW _ hcond _ hL _ _
    exact diffs_contract H enc W base args ds gs before hval hW (hcond _ rfl) hL
theorem diffs_said : Rows.BookDiffsUptoSaid :=
  OpenClaim.holds_of_cond 4 Tryz.f4 rfl rfl rfl rfl rfl rfl rfl ⟨rfl, rfl, rfl, rfl, rfl⟩ rfl rfl rfl rfl rfl (by kernel_rfl) Tryz.func4 (by kernel_rfl)
    (of_decide_eq_true (by kernel_rfl)) (by unfold Func.isWrapper; first | (rw [if_pos (by decide +kernel)]; kernel_rfl) | (rw [if_neg (by decide +kernel)]; exact ⟨rfl, rfl⟩))
    (fun os started H enc _ F => by rw [OpenClaim.pre_eq_preRow]; exact diffs_lifted os started H enc F)
theorem diffs_plain (f : FuncId) (fn : Func) (hf : Tryz.pinned.checked.prog.funcNamed "cubit/cubitlaw29.BookDiffs" = some f) (hfn : Tryz.pinned.checked.prog.funcs[f]? = some fn) :
    true = Tryz.pinned.checked.prog.looks [] ∧ ∀ (j : Nat) t, fn.params[j]? = some t → Tryz.pinned.checked.prog.wantsStandIn t = false := by
  obtain rfl : f = 4 := Option.some.inj ((show Tryz.prog.funcNamed "cubit/cubitlaw29.BookDiffs" = some 4 by kernel_rfl).symm.trans hf) |>.symm
  obtain rfl : fn = Tryz.f4 := (Option.some.inj (Tryz.func4.symm.trans hfn)).symm
  refine ⟨by kernel_rfl, fun j t ht => ?_⟩
  rw [Tryz.params4] at ht
  obtain rfl : t = 22 := by simpa using Array.mem_of_getElem? ht
  exact (show Tryz.prog.wantsStandIn 22 = false by kernel_rfl)
end Go.Proofs.YthbdjmopolpjmaaGreatDoor.C
namespace Go.Proofs.YthbdjmopolpjmaaGreatDoor
theorem bookDiffsUpto_card : Rows.BookDiffsUptoCardSaid :=
  Claim7.holds_tied_plain_at .later [] _ _ _ _ C.diffs_said (fun _ h => by cases h) (by kernel_rfl) (fun _ h => by cases h) bookDiffsUpto_row_tie rfl ⟨rfl, rfl⟩ (by kernel_rfl) rfl C.diffs_plain (by kernel_rfl)
end Go.Proofs.YthbdjmopolpjmaaGreatDoor
end
