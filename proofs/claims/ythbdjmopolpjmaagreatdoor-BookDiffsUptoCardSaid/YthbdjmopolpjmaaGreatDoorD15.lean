/- Part 15 of the proof: CRep4, CRep5, CFit, CErr, CErr2, CErr3. -/
import Derived.BigRegion
import Derived.LaidEql
import Derived.RowKitTokens
import Derived.Stop.Asserts
import Derived.Test.YthbdjmopolpjmaaGreatDoorD00
import Derived.Test.YthbdjmopolpjmaaGreatDoorD01
import Derived.Test.YthbdjmopolpjmaaGreatDoorD02
import Derived.Test.YthbdjmopolpjmaaGreatDoorD03
import Derived.Test.YthbdjmopolpjmaaGreatDoorD04
import Derived.Test.YthbdjmopolpjmaaGreatDoorD05
import Derived.Test.YthbdjmopolpjmaaGreatDoorD06
import Derived.Test.YthbdjmopolpjmaaGreatDoorD07
import Derived.Test.YthbdjmopolpjmaaGreatDoorD08
import Derived.Test.YthbdjmopolpjmaaGreatDoorD09
import Derived.Test.YthbdjmopolpjmaaGreatDoorD10
import Derived.Test.YthbdjmopolpjmaaGreatDoorD11
import Derived.Test.YthbdjmopolpjmaaGreatDoorD12
import Derived.Test.YthbdjmopolpjmaaGreatDoorD13
import Derived.Test.YthbdjmopolpjmaaGreatDoorD14
section
set_option linter.unusedVariables false
set_option linter.unusedSimpArgs false
namespace Go.Proofs.YthbdjmopolpjmaaGreatDoor.C
open Go.RowKit Go.Proofs.YthbdjmopolpjmaaGreatDoorW.PrintWords Go.Proofs.YthbdjmopolpjmaaGreatDoorW.PrintLast Go.Proofs.YthbdjmopolpjmaaGreatDoorW.PrintMore Go.Proofs.YthbdjmopolpjmaaGreatDoor.F Go.Proofs.YthbdjmopolpjmaaGreatDoor.M
namespace Rep
def Rt (p : Nat) (W : World) : Prop := ∃ C : Array Value, W.heap[p]? = some (.cells C 258 (0, 0)) ∧ (∀ j, j < 256 → j ∉ [10, 9, 92] → C[j]? = some (.slice none 0 0)) ∧
  (∀ o : Nat, o ∈ [10, 9, 92] → ∃ b c, C[o]? = some (.slice (some ⟨b, 0, none⟩) 2 c) ∧ ByB W b (escN o)) ∧
  ∃ t c, C[256]? = some (.slice (some ⟨t, 0, none⟩) 3 c) ∧ (∃ cs fr, W.heap[t]? = some (.cells cs 9 fr) ∧ cs[0]? = some (.string (one 10)) ∧ cs[1]? = some (.string (one 9)) ∧ cs[2]? = some (.string (one 92)))
theorem Rt.below {p : Nat} {W W1 : World} (h : Rt p W) (hb : Below W.heap.size W W1) : Rt p W1 := by
  obtain ⟨C, h1, h2, h3, t, c, h4, cs, fr, h6, h7⟩ := h
  refine ⟨C, blk_below h1 hb, h2, fun o ho => ?_, t, c, h4, cs, fr, blk_below h6 hb, h7⟩
  obtain ⟨b, c', e1, e3⟩ := h3 o ho
  exact ⟨b, c', e1, e3.same (hb.block b e3.lt)⟩
theorem cell_blk {W : World} {b : Nat} {cs : Array Value} {t : Nat} {fr : Nat × Nat} (h : W.heap[b]? = some (.cells cs t fr)) (j : Nat) : W.cell? ⟨b, j, none⟩ = cs[j]? := cell_of_row W b j cs t fr h
theorem Rt.nil {p : Nat} {W : World} (h : Rt p W) (j : Nat) (hj : j < 256) (hn : j ∉ [10, 9, 92]) : W.cell? ⟨p, j, none⟩ = some (.slice none 0 0) := by
  obtain ⟨C, h1, h2, _⟩ := h
  exact (blk_cell h1 j).trans (h2 j hj hn)
theorem Rt.two {p : Nat} {W : World} (h : Rt p W) (o : Nat) (ho : o ∈ [10, 9, 92]) : ∃ b c, W.cell? ⟨p, o, none⟩ = some (.slice (some ⟨b, 0, none⟩) 2 c) ∧ (∀ j, j < (escN o).length → W.cell? ⟨b, j, none⟩ = some (.int .u8 ((escN o).getD j 0))) := by
  obtain ⟨C, h1, h2, h3, _⟩ := h
  obtain ⟨b, c, e1, cs, fr, e3, e4⟩ := h3 o ho
  exact ⟨b, c, (blk_cell h1 o).trans e1, fun j hj => (cell_blk e3 j).trans (e4 j hj)⟩
theorem Rt.list {p : Nat} {W : World} (h : Rt p W) : ∃ t c, W.cell? ⟨p, 256, none⟩ = some (.slice (some ⟨t, 0, none⟩) 3 c) ∧ W.cell? ⟨t, 0, none⟩ = some (.string (one 10)) ∧ W.cell? ⟨t, 1, none⟩ = some (.string (one 9)) ∧ W.cell? ⟨t, 2, none⟩ = some (.string (one 92)) := by
  obtain ⟨C, h1, h2, h3, t, c, h4, cs, fr, h6, h7, h8, h9⟩ := h
  exact ⟨t, c, (blk_cell h1 256).trans h4, (cell_blk h6 0).trans h7, (cell_blk h6 1).trans h8, (cell_blk h6 2).trans h9⟩
theorem count_call (s : ByteArray) (c : UInt8) (w : World) : Calls Tryz.prog 36 #[.string s, .string ⟨#[c]⟩] w fun e w' => e = .returned (.int .i64 (Lib.countByte s.data.toList c)) ∧ w = w' := (Tryz.strings_Count_one s c w).mono fun e w' ⟨h, k⟩ => ⟨h, k.symm⟩
theorem count_le (l : List UInt8) (c : UInt8) : Lib.countByte l c ≤ l.length := List.count_le_length
def cj (s : ByteArray) : Nat → Nat
  | 0 => 0
  | 1 => Lib.countByte s.data.toList 10
  | 2 => Lib.countByte s.data.toList 10 + Lib.countByte s.data.toList 9
  | _ => Lib.countByte s.data.toList 10 + Lib.countByte s.data.toList 9 + Lib.countByte s.data.toList 92
theorem cj_le (s : ByteArray) (j : Nat) : cj s j ≤ 3 * s.size := by
  have h1 := count_le s.data.toList 10
  have h2 := count_le s.data.toList 9
  have h3 := count_le s.data.toList 92
  rw [data_length] at h1 h2 h3
  match j with
  | 0 => simp [cj]
  | 1 => simp only [cj]; omega
  | 2 => simp only [cj]; omega
  | j + 3 => simp only [cj]; omega
set_option maxRecDepth 100000 in
set_option maxHeartbeats 8000000 in
theorem rep_call (p : Nat) (s : ByteArray) (w : World) (hR : Rt p w) (hs : s.size ≤ 17592186044416) :
    Calls Tryz.prog 312 #[.pointer (some ⟨p, 0, none⟩), .string s] w fun e w' => e = .returned (.string (esc s)) ∧ Below w.heap.size w w' := by
  have HR := Aside0.mk hR
  obtain ⟨E, hE⟩ : ∃ E : Nat, (escL (bytesOf s)).length = E := ⟨_, rfl⟩
  have HE := Aside0.mk hE
  have HS := Aside0.mk hs
  obtain ⟨t, c, l0, l1, l2, l3⟩ := hR.list
  have HL := Aside0.mk (And.intro l1 (And.intro l2 l3))
  clear hR hE l1 l2 l3 hs
  have kn := fun (a : Option Addr) (n c : Nat) (W : World) => run_neq_slice_nil_any (P := Tryz.prog) W 50 5 a n c 0 0 Tryz.underlying50
  have k3 : ∀ (a : UInt8) (h : 0 < ByteArray.size ⟨#[a]⟩), (ByteArray.mk #[a])[0]'h = a := fun _ _ => rfl
  have k1 := sz1
  go_enter Tryz.func312, Tryz.ntmps312
  go_upto_if 26 with (fail)
  go_cut [5, 6] (fun v5 v6 wc => ∃ b, v5 = .int .i64 (E : Int) ∧ v6 = .bool b ∧ Aside0 ((b = true ↔ s.size < E) ∧ Below w.heap.size w wc))
  case first =>
    by_cases h24 : 24 ≤ s.size
    · rw [show decide ((24 : Int) ≤ (s.size : Int)) = true from decide_eq_true (by omega)]
      clear h24
      go_wp2_with fail
      go_loopg [5, 6, 32] 3 (fun kq v5 v6 v32 W => ∃ (j : Nat) (b : Bool), v32 = .int .i64 (j : Int) ∧ v5 = .int .i64 ((s.size + cj s j : Nat) : Int) ∧ v6 = .bool b ∧ Aside0 (j ≤ 3 ∧ 3 ≤ j + kq ∧ (b = true ↔ 0 < cj s j) ∧ Below w.heap.size w W))
      case atStart => exact ⟨0, false, rfl, rfl, rfl, ⟨by omega, by omega, by simp [cj], Below.refl _ _⟩⟩
      case round =>
        obtain ⟨j, b, rfl, rfl, rfl, HJ⟩ := hrel
        have HRr := Aside0.mk (HR.out.below HJ.out.2.2.2)
        have HLr := Aside0.mk (And.intro (cell_later HJ.out.2.2.2 HL.out.1) (And.intro (cell_later HJ.out.2.2.2 HL.out.2.1) (cell_later HJ.out.2.2.2 HL.out.2.2)))
        rcases (show j = 0 ∨ j = 1 ∨ j = 2 ∨ j = 3 from by have := HJ.out.1; omega) with rfl | rfl | rfl | rfl
        · obtain ⟨n, hn⟩ : ∃ n, Lib.countByte s.data.toList 10 = n := ⟨_, rfl⟩
          obtain ⟨m, hm⟩ : ∃ m, cj s 0 = m := ⟨_, rfl⟩
          have hm1 : cj s 1 = m + n := by rw [← hm, ← hn]; simp only [cj]; try omega
          have hml : m + n ≤ 3 * s.size := by rw [← hm1]; exact cj_le s _
          have HN := Aside0.mk (And.intro hn (And.intro hm (And.intro hm1 hml)))
          have ct : wr.cell? ⟨t, 0, none⟩ = some (.string ⟨#[10]⟩) := HLr.out.1
          obtain ⟨b1, c1, cb, _⟩ := HRr.out.two 10 (by decide)
          rw [hm]
          clear hn hm hm1 hml
          go_wp2_with fail
          refine (count_call s 10 _).mono ?_
          rintro e w' ⟨rfl, rfl⟩
          rw [HN.out.1]
          obtain ⟨k1_, rfl⟩ : ∃ k1, gk = k1 + 1 := ⟨gk - 1, by have := HJ.out.2.1; omega⟩
          by_cases h0 : n = 0
          · subst h0
            have h00 : (((0 : Nat) : Int) != 0) = false := rfl
            go_wp2_with fail
            go_roundg k1_
            case measure => omega
            case rel =>
              have e := HN.out.2.2.1
              have em := HN.out.2.1
              refine ⟨1, b, by go_num, by rw [e]; rfl, rfl, ⟨by omega, by have := HJ.out.2.1; omega, ?_, HJ.out.2.2.2⟩⟩
              have hb := HJ.out.2.2.1
              rw [e]; rw [em] at hb
              exact hb
          · have h00 : ((n : Int) != 0) = true := bne_iff_ne.mpr (by omega)
            have e1 : IntKind.i64.wrap ((n : Int) * 1) = (n : Int) := by rw [i64_w, w64 (by omega) (by have := HN.out.2.2.2; have := HS.out; omega)]; omega
            have e2 : IntKind.i64.wrap (((s.size + m : Nat) : Int) + (n : Int)) = ((s.size + (m + n) : Nat) : Int) := by rw [i64_w, w64 (by omega) (by have := HN.out.2.2.2; have := HS.out; omega)]; omega
            have HZ := Aside0.mk h0
            clear h0
            go_wp2_with fail
            go_quiet (fail)
            go_wp2_with fail
            go_roundg k1_
            case measure => omega
            case rel =>
              have hnn := HN.out
              have hss := HS.out
              refine ⟨1, true, by go_num, ?_, rfl, ⟨by omega, by have := HJ.out.2.1; omega, ?_, pw_below_drewN HJ.out.2.2.2 _⟩⟩
              · have hw1 : wrap64 (n : Int) = (n : Int) := w64 (by omega) (by omega)
                have hw2 : wrap64 ((s.size : Int) + (m : Int) + (n : Int)) = (s.size : Int) + (m : Int) + (n : Int) := w64 (by omega) (by omega)
                rw [hw1, hw2, hnn.2.2.1]
                exact congrArg (Value.int .i64) (by omega)
              · rw [hnn.2.2.1]
                have := HZ.out
                exact ⟨fun _ => by omega, fun _ => rfl⟩
        · obtain ⟨n, hn⟩ : ∃ n, Lib.countByte s.data.toList 9 = n := ⟨_, rfl⟩
          obtain ⟨m, hm⟩ : ∃ m, cj s 1 = m := ⟨_, rfl⟩
          have hm1 : cj s 2 = m + n := by rw [← hm, ← hn]; simp only [cj]; try omega
          have hml : m + n ≤ 3 * s.size := by rw [← hm1]; exact cj_le s _
          have HN := Aside0.mk (And.intro hn (And.intro hm (And.intro hm1 hml)))
          have ct : wr.cell? ⟨t, 1, none⟩ = some (.string ⟨#[9]⟩) := HLr.out.2.1
          obtain ⟨b1, c1, cb, _⟩ := HRr.out.two 9 (by decide)
          rw [hm]
          clear hn hm hm1 hml
          go_wp2_with fail
          refine (count_call s 9 _).mono ?_
          rintro e w' ⟨rfl, rfl⟩
          rw [HN.out.1]
          obtain ⟨k1_, rfl⟩ : ∃ k1, gk = k1 + 1 := ⟨gk - 1, by have := HJ.out.2.1; omega⟩
          by_cases h0 : n = 0
          · subst h0
            have h00 : (((0 : Nat) : Int) != 0) = false := rfl
            go_wp2_with fail
            go_roundg k1_
            case measure => omega
            case rel =>
              have e := HN.out.2.2.1
              have em := HN.out.2.1
              refine ⟨2, b, by go_num, by rw [e]; rfl, rfl, ⟨by omega, by have := HJ.out.2.1; omega, ?_, HJ.out.2.2.2⟩⟩
              have hb := HJ.out.2.2.1
              rw [e]; rw [em] at hb
              exact hb
          · have h00 : ((n : Int) != 0) = true := bne_iff_ne.mpr (by omega)
            have e1 : IntKind.i64.wrap ((n : Int) * 1) = (n : Int) := by rw [i64_w, w64 (by omega) (by have := HN.out.2.2.2; have := HS.out; omega)]; omega
            have e2 : IntKind.i64.wrap (((s.size + m : Nat) : Int) + (n : Int)) = ((s.size + (m + n) : Nat) : Int) := by rw [i64_w, w64 (by omega) (by have := HN.out.2.2.2; have := HS.out; omega)]; omega
            have HZ := Aside0.mk h0
            clear h0
            go_wp2_with fail
            go_quiet (fail)
            go_wp2_with fail
            go_roundg k1_
            case measure => omega
            case rel =>
              have hnn := HN.out
              have hss := HS.out
              refine ⟨2, true, by go_num, ?_, rfl, ⟨by omega, by have := HJ.out.2.1; omega, ?_, pw_below_drewN HJ.out.2.2.2 _⟩⟩
              · have hw1 : wrap64 (n : Int) = (n : Int) := w64 (by omega) (by omega)
                have hw2 : wrap64 ((s.size : Int) + (m : Int) + (n : Int)) = (s.size : Int) + (m : Int) + (n : Int) := w64 (by omega) (by omega)
                rw [hw1, hw2, hnn.2.2.1]
                exact congrArg (Value.int .i64) (by omega)
              · rw [hnn.2.2.1]
                have := HZ.out
                exact ⟨fun _ => by omega, fun _ => rfl⟩
        · obtain ⟨n, hn⟩ : ∃ n, Lib.countByte s.data.toList 92 = n := ⟨_, rfl⟩
          obtain ⟨m, hm⟩ : ∃ m, cj s 2 = m := ⟨_, rfl⟩
          have hm1 : cj s 3 = m + n := by rw [← hm, ← hn]; simp only [cj]; try omega
          have hml : m + n ≤ 3 * s.size := by rw [← hm1]; exact cj_le s _
          have HN := Aside0.mk (And.intro hn (And.intro hm (And.intro hm1 hml)))
          have ct : wr.cell? ⟨t, 2, none⟩ = some (.string ⟨#[92]⟩) := HLr.out.2.2
          obtain ⟨b1, c1, cb, _⟩ := HRr.out.two 92 (by decide)
          rw [hm]
          clear hn hm hm1 hml
          go_wp2_with fail
          refine (count_call s 92 _).mono ?_
          rintro e w' ⟨rfl, rfl⟩
          rw [HN.out.1]
          obtain ⟨k1_, rfl⟩ : ∃ k1, gk = k1 + 1 := ⟨gk - 1, by have := HJ.out.2.1; omega⟩
          by_cases h0 : n = 0
          · subst h0
            have h00 : (((0 : Nat) : Int) != 0) = false := rfl
            go_wp2_with fail
            go_roundg k1_
            case measure => omega
            case rel =>
              have e := HN.out.2.2.1
              have em := HN.out.2.1
              refine ⟨3, b, by go_num, by rw [e]; rfl, rfl, ⟨by omega, by have := HJ.out.2.1; omega, ?_, HJ.out.2.2.2⟩⟩
              have hb := HJ.out.2.2.1
              rw [e]; rw [em] at hb
              exact hb
          · have h00 : ((n : Int) != 0) = true := bne_iff_ne.mpr (by omega)
            have e1 : IntKind.i64.wrap ((n : Int) * 1) = (n : Int) := by rw [i64_w, w64 (by omega) (by have := HN.out.2.2.2; have := HS.out; omega)]; omega
            have e2 : IntKind.i64.wrap (((s.size + m : Nat) : Int) + (n : Int)) = ((s.size + (m + n) : Nat) : Int) := by rw [i64_w, w64 (by omega) (by have := HN.out.2.2.2; have := HS.out; omega)]; omega
            have HZ := Aside0.mk h0
            clear h0
            go_wp2_with fail
            go_quiet (fail)
            go_wp2_with fail
            go_roundg k1_
            case measure => omega
            case rel =>
              have hnn := HN.out
              have hss := HS.out
              refine ⟨3, true, by go_num, ?_, rfl, ⟨by omega, by have := HJ.out.2.1; omega, ?_, pw_below_drewN HJ.out.2.2.2 _⟩⟩
              · have hw1 : wrap64 (n : Int) = (n : Int) := w64 (by omega) (by omega)
                have hw2 : wrap64 ((s.size : Int) + (m : Int) + (n : Int)) = (s.size : Int) + (m : Int) + (n : Int) := w64 (by omega) (by omega)
                rw [hw1, hw2, hnn.2.2.1]
                exact congrArg (Value.int .i64) (by omega)
              · rw [hnn.2.2.1]
                have := HZ.out
                exact ⟨fun _ => by omega, fun _ => rfl⟩
        · go_wp2_with fail
          go_meet
          case rel =>
            refine ⟨b, ?_, rfl, ⟨?_, HJ.out.2.2.2⟩⟩
            · have hE := esc_count s
              rw [HE.out] at hE
              rw [hE]
              exact congrArg (Value.int .i64) (by simp only [cj]; omega)
            · have hE := esc_count s
              rw [HE.out] at hE
              have hb := HJ.out.2.2.1
              simp only [cj] at hb
              rw [hb]
              omega
    · rw [show decide ((24 : Int) ≤ (s.size : Int)) = false from decide_eq_false (by omega)]
      clear h24
      go_wp2_with fail
      go_loopg [5, 6, 10] s.size (fun kq v5 v6 v10 W => ∃ (i : Nat) (b : Bool) (m : Nat), v10 = .int .i64 (i : Int) ∧ v5 = .int .i64 ((s.size + m : Nat) : Int) ∧ v6 = .bool b ∧ Aside0 (i ≤ s.size ∧ s.size ≤ i + kq ∧ (escL ((bytesOf s).take i)).length = i + m ∧ (b = true ↔ 0 < m) ∧ Below w.heap.size w W))
      case atStart => exact ⟨0, false, 0, rfl, rfl, rfl, ⟨by omega, by omega, by simp [escL], by simp, Below.refl _ _⟩⟩
      case round =>
        obtain ⟨i, b, m, rfl, rfl, rfl, HJ⟩ := hrel
        have HRr := Aside0.mk (HR.out.below HJ.out.2.2.2.2)
        have hml : m ≤ s.size := by
          have h1 := (escL_len ((bytesOf s).take i)).2
          have h2 : ((bytesOf s).take i).length ≤ i := List.length_take_le _ _
          have := HJ.out.1
          have := HJ.out.2.2.1
          omega
        have HM := Aside0.mk hml
        clear hml
        by_cases hi : i < s.size
        · obtain ⟨x, hx0⟩ : ∃ x, bt s (i : Int) = x := ⟨_, rfl⟩
          have hxr := bt_range s (i : Int)
          have hx : ∀ h : i < s.size, ((s[i]'h).toNat : Int) = x := by rw [← hx0]; exact bt_at s (i : Int)
          have hstep := escL_take s i hi
          rw [hx0] at hxr hstep
          obtain ⟨xn, hxn⟩ : ∃ xn : Nat, x = (xn : Int) := ⟨x.toNat, by omega⟩
          subst hxn
          have HX := Aside0.mk (And.intro hi (And.intro hxr (And.intro hstep hx0)))
          have hi1 := eq_true hi
          have hb1 := eq_true (show (xn : Int) < 256 by omega)
          have hb2 := eq_true (show xn < 256 by omega)
          obtain ⟨k1_, rfl⟩ : ∃ k1, gk = k1 + 1 := ⟨gk - 1, by have := HJ.out.2.1; omega⟩
          clear hi hxr hstep hx0
          by_cases hsp : xn ∈ [10, 9, 92]
          · obtain ⟨b1, c1, cb, _⟩ := HRr.out.two xn hsp
            have HSP := Aside0.mk hsp
            clear hsp
            go_wp2_with fail
            go_roundg k1_
            case measure => omega
            case rel =>
              have h2 : (escN (xn : Int)).length = 2 := escN_two (by have := HSP.out; simp at this; omega)
              refine ⟨i + 1, true, m + 1, congrArg (Value.int .i64) (by rw [w64 (by omega) (by have := HX.out.1; have := HS.out; omega)]; omega), ?_, rfl, ⟨by have := HX.out.1; omega, by have := HJ.out.2.1; omega, ?_, by simp, HJ.out.2.2.2.2⟩⟩
              · have := HM.out
                have := HS.out
                have hw : ∀ y : Int, y = ((s.size + m : Nat) : Int) + 1 → wrap64 y = ((s.size + (m + 1) : Nat) : Int) := fun y hy => by rw [w64 (by omega) (by omega)]; omega
                first | exact congrArg (Value.int .i64) (hw _ (by omega)) | exact congrArg (Value.int .i64) (by omega)
              · rw [HX.out.2.2.1, List.length_append, h2, HJ.out.2.2.1]
                omega
          · have cb := HRr.out.nil xn (by have := HX.out.2.1; omega) hsp
            have HSP := Aside0.mk hsp
            clear hsp
            go_wp2_with fail
            go_roundg k1_
            case measure => omega
            case rel =>
              have h2 : (escN (xn : Int)).length = 1 := by
                have := HSP.out
                simp at this
                rw [escN_plain (by omega) (by omega) (by omega)]
                rfl
              refine ⟨i + 1, b, m, congrArg (Value.int .i64) (by rw [w64 (by omega) (by have := HX.out.1; have := HS.out; omega)]; omega), rfl, rfl, ⟨by have := HX.out.1; omega, by have := HJ.out.2.1; omega, ?_, HJ.out.2.2.2.1, HJ.out.2.2.2.2⟩⟩
              rw [HX.out.2.2.1, List.length_append, h2, HJ.out.2.2.1]
              omega
        · have hi1 := eq_false hi
          have HI := Aside0.mk hi
          have hi2 : decide ((i : Int) < (s.size : Int)) = false := decide_eq_false (by omega)
          clear hi
          go_wp2_with fail
          go_meet
          case rel =>
            have he : i = s.size := by have := HJ.out.1; have := HI.out; omega
            have h3 := HJ.out.2.2.1
            rw [List.take_of_length_le (by rw [bytesOf_length]; omega), HE.out, he] at h3
            refine ⟨b, by rw [h3], rfl, ⟨?_, HJ.out.2.2.2.2⟩⟩
            rw [HJ.out.2.2.2.1, h3]
            omega
  case rest =>
    obtain ⟨b, rfl, rfl, HB⟩ := hcut
    have HRc := Aside0.mk (HR.out.below HB.out.2)
    cases b with
    | false =>
      go_wp2_with fail
      go_ret
      have h1 := (escL_len (bytesOf s)).1
      rw [HE.out, bytesOf_length] at h1
      have h2 := HB.out.1
      have h3 : ¬ s.size < E := fun h => absurd (h2.2 h) (by decide)
      exact ⟨by rw [esc_same (by rw [HE.out]; omega)]; rfl, HB.out.2⟩
    | true =>
      have hE2 : E ≤ 2 * s.size := by
        have h1 := (escL_len (bytesOf s)).2
        rw [HE.out, bytesOf_length] at h1
        exact h1
      have HE2 := Aside0.mk hE2
      have hmk := print_make (P := Tryz.prog) 50 5 .u8 1 Tryz.underlying50 info5 (by decide) E (by have := HS.out; omega)
      obtain ⟨W0, hW0⟩ : ∃ W0, wc.alloc (.cells (madeCells #[.int .u8 0] E) 5) = W0 := ⟨_, rfl⟩
      have hbf := Bf.start wc E
      have hbc : Below wc.heap.size wc W0 := by rw [← hW0]; exact below_alloc (Below.refl _ _) _
      have hmk2 : (Instr.makeSlice 50 (.int .i64 (E : Int)) (.int .i64 (E : Int))).run Tryz.prog wc = .ok (.slice (some ⟨wc.heap.size, 0, none⟩) E E) W0 := by rw [hmk wc, hW0]
      rw [hW0] at hbf
      obtain ⟨q, hq⟩ : ∃ q, wc.heap.size = q := ⟨_, rfl⟩
      rw [hq] at hbf hmk2
      have HQ := Aside0.mk hq
      have HB0 := Aside0.mk (And.intro hbf (And.intro hbc HB.out.2))
      clear hmk hW0 hbf hbc hE2 HB HR l0 HL hq
      go_wp2_with fail
      clear hmk2
      go_loopg [13, 14] s.size (fun kq v13 v14 W => ∃ (i j : Nat), v14 = .int .i64 (i : Int) ∧ v13 = .int .i64 (j : Int) ∧ Aside0 (i ≤ s.size ∧ s.size ≤ i + kq ∧ (escL ((bytesOf s).take i)).length = j ∧ Bf W q E (escL ((bytesOf s).take i)) ∧ Below wc.heap.size wc W))
      case atStart => exact ⟨0, 0, rfl, rfl, ⟨by omega, by omega, rfl, HB0.out.1, HB0.out.2.1⟩⟩
      case round =>
        obtain ⟨i, j, rfl, rfl, HJ⟩ := hrel
        have HRr := Aside0.mk (HRc.out.below HJ.out.2.2.2.2)
        by_cases hi : i < s.size
        · obtain ⟨x, hx0⟩ : ∃ x, bt s (i : Int) = x := ⟨_, rfl⟩
          have hxr := bt_range s (i : Int)
          have hx : ∀ h : i < s.size, ((s[i]'h).toNat : Int) = x := by rw [← hx0]; exact bt_at s (i : Int)
          have hstep := escL_take s i hi
          have htot : (escL ((bytesOf s).take (i + 1))).length ≤ E := by
            rw [← HE.out]
            conv => rhs; rw [← List.take_append_drop (i + 1) (bytesOf s), escL_append, List.length_append]
            omega
          rw [hx0] at hxr hstep
          obtain ⟨xn, hxn⟩ : ∃ xn : Nat, x = (xn : Int) := ⟨x.toNat, by omega⟩
          subst hxn
          have HX := Aside0.mk (And.intro hi (And.intro hxr (And.intro hstep htot)))
          have hi1 := eq_true hi
          have hb1 := eq_true (show (xn : Int) < 256 by omega)
          have hb2 := eq_true (show xn < 256 by omega)
          obtain ⟨k1_, rfl⟩ : ∃ k1, gk = k1 + 1 := ⟨gk - 1, by have := HJ.out.2.1; omega⟩
          clear hi hxr hx0
          by_cases hsp : xn ∈ [10, 9, 92]
          · obtain ⟨b1, c1, cb, hby⟩ := HRr.out.two xn hsp
            have h2 : (escN (xn : Int)).length = 2 := escN_two (by simp at hsp; omega)
            have hj2 : j + 2 ≤ E := by rw [hstep, List.length_append, h2, HJ.out.2.2.1] at htot; exact htot
            have HSP := Aside0.mk (And.intro hsp (And.intro hby (And.intro h2 hj2)))
            clear hsp hby h2 hj2 hstep htot
            go_wp2_with fail
            have hne : ¬ E = j := by have := HSP.out.2.2.2; omega
            obtain ⟨i05, hi05, _, hsz5, _⟩ := info_parts info5
            have hcut := cut_from (P := Tryz.prog) 50 5 .i64 Tryz.underlying50 hi05 1 hsz5 (some ⟨q, 0, none⟩) E E (j : Int) (by omega) (by have := HSP.out.2.2.2; omega)
            have hadd : (⟨q, 0, none⟩ : Addr).add (j * 1) = ⟨q, j, none⟩ := by rw [Nat.mul_one]; exact add_plain q j
            simp only [Int.toNat_natCast, if_neg hne, Option.map_some, hadd] at hcut
            have hjb := HJ.out.2.2.1
            obtain ⟨W2, hc2, hbf2, hbw2⟩ := Bf.run_copy (W := wr.drew) (l2 := escN (xn : Int)) HJ.out.2.2.2.1 (by rw [hjb, HSP.out.2.2.1]; exact HSP.out.2.2.2) b1 c1 2 HSP.out.2.2.1.symm HSP.out.2.1 (E - j) (E - j) (by rw [hjb]) 3
            rw [hjb] at hc2
            have HC := Aside0.mk (And.intro hbf2 (hbw2 wc.heap.size wc (Nat.le_of_eq HQ.out) (below_drew HJ.out.2.2.2.2)))
            have hqj : 0 ≤ (j : Int) ∧ (j : Int) ≤ (E : Int) := by have := HSP.out.2.2.2; omega
            have hq1 := eq_true hqj.1
            have hq2 := eq_true hqj.2
            clear hi05 hsz5 hadd hjb hbf2 hbw2 hne hqj
            go_region
            clear hc2
            go_wp2_with fail
            go_roundg k1_
            case measure => omega
            case rel =>
              have hEb := HE2.out
              have hsb := HS.out
              have hjE := HSP.out.2.2.2
              refine ⟨i + 1, j + 2, congrArg (Value.int .i64) (by rw [w64 (by omega) (by have := HX.out.1; omega)]; omega), congrArg (Value.int .i64) (by rw [w64 (by omega) (by omega)]; omega), ⟨by have := HX.out.1; omega, by have := HJ.out.2.1; omega, ?_, ?_, HC.out.2⟩⟩
              · rw [HX.out.2.2.1, List.length_append, HSP.out.2.2.1, HJ.out.2.2.1]
              · rw [HX.out.2.2.1]; exact HC.out.1
          · have cb := HRr.out.nil xn (by have := HX.out.2.1; omega) hsp
            have h2 : (escN (xn : Int)) = [(xn : Int)] := by
              simp at hsp
              exact escN_plain (by omega) (by omega) (by omega)
            have hj2 : j < E := by rw [hstep, List.length_append, h2, HJ.out.2.2.1] at htot; simp at htot; omega
            have hjb := HJ.out.2.2.1
            obtain ⟨v0, g1, g2⟩ := HJ.out.2.2.2.1.at_ j hj2
            have hst := HJ.out.2.2.2.1.store (by rw [hjb]; exact hj2) (xn : Int)
            rw [hjb] at hst
            have hqe := eq_true hj2
            have hqe2 := eq_true (show (j : Int) < (E : Int) by omega)
            obtain ⟨W2, hW2⟩ : ∃ W2, wr.setCell ⟨q, j, none⟩ (.int .u8 (xn : Int)) = W2 := ⟨_, rfl⟩
            rw [hW2] at hst
            have hbl : Below wc.heap.size wc W2 := by rw [← hW2]; exact Below.setCell (p := ⟨q, j, none⟩) HJ.out.2.2.2.2 (Nat.le_of_eq HQ.out) _
            have HSP := Aside0.mk (And.intro h2 (And.intro hst (And.intro hbl hj2)))
            clear h2 hj2 hjb hst hbl hsp hstep htot
            go_wp2_with fail
            go_roundg k1_
            case measure => omega
            case rel =>
              have hEb := HE2.out
              have hsb := HS.out
              have hjE := HSP.out.2.2.2
              refine ⟨i + 1, j + 1, congrArg (Value.int .i64) (by rw [w64 (by omega) (by have := HX.out.1; omega)]; omega), congrArg (Value.int .i64) (by rw [w64 (by omega) (by omega)]; omega), ⟨by have := HX.out.1; omega, by have := HJ.out.2.1; omega, ?_, ?_, HSP.out.2.2.1⟩⟩
              · rw [HX.out.2.2.1, HSP.out.1, List.length_append, HJ.out.2.2.1]; rfl
              · rw [HX.out.2.2.1, HSP.out.1]; exact HSP.out.2.1
        · have hi1 := eq_false hi
          have HI := Aside0.mk hi
          have hi2 : decide ((i : Int) < (s.size : Int)) = false := decide_eq_false (by omega)
          have he : (bytesOf s).take i = bytesOf s := List.take_of_length_le (by rw [bytesOf_length]; omega)
          have hbf := HJ.out.2.2.2.1
          rw [he] at hbf
          have hcv := hbf.conv HE.out
          have HBE := Aside0.mk (below_then HB0.out.2.2 HB0.out.2.2.size HJ.out.2.2.2.2)
          clear hi he hbf
          go_wp2_with fail
          go_ret
          exact ⟨rfl, HBE.out⟩
end Rep
end Go.Proofs.YthbdjmopolpjmaaGreatDoor.C
end
section
set_option linter.unusedVariables false
set_option linter.unusedSimpArgs false
namespace Go.Proofs.YthbdjmopolpjmaaGreatDoor.C
open Go.RowKit Go.Proofs.YthbdjmopolpjmaaGreatDoorW.PrintWords Go.Proofs.YthbdjmopolpjmaaGreatDoorW.PrintLast Go.Proofs.YthbdjmopolpjmaaGreatDoorW.PrintMore Go.Proofs.YthbdjmopolpjmaaGreatDoor.F Go.Proofs.YthbdjmopolpjmaaGreatDoor.M
namespace Rep
theorem Rp.rt {g p : Nat} {W : World} (h : Rp g (.iface 259 (.pointer (some ⟨p, 0, none⟩))) W) : Rt p W := by
  obtain ⟨p', hp, _, C, h1, h2, h3, t, c, h4, h5, h6⟩ := h
  have hpp : p = p' := by
    injection hp with _ hp
    injection hp with hp
    injection hp with hp
    injection hp with hp
  subst hpp
  refine ⟨C, h1, h2, fun o ho => ?_, t, c, h4, h6⟩
  obtain ⟨b, c', e1, _, e3⟩ := h3 o ho
  exact ⟨b, c', e1, e3⟩
theorem method_replace (a : Addr) (w : World) : (Go.method 490 259 (.pointer (some a)) "Replace").run Tryz.prog w = .ok (312, .pointer (some a)) w := by kernel_rfl
theorem ahead_replace (a : Addr) (w : World) : (Go.nilAhead 490 259 (.pointer (some a)) "Replace").run Tryz.prog w = .ok (some false) w := by kernel_rfl
set_option maxRecDepth 100000 in
set_option maxHeartbeats 4000000 in
theorem replace_call (g b c : Nat) (s : ByteArray) (w : World) (hb : w.heap[g]? = some (Once.ob 0 0 .nilIface (.slice (some ⟨b, 0, none⟩) 6 c))) (h6 : Six w b) (hbg : b ≠ g) (hs : s.size ≤ 17592186044416) :
    Calls Tryz.prog 55 #[.pointer (some ⟨g, 0, none⟩), .string s] w fun e W' => e = .returned (.string (esc s)) ∧ Chg (fun k => k = g) w W' := by
  have HH := Aside0.mk (And.intro hb (And.intro h6 (And.intro hbg hs)))
  have hbuild : Once.Builds g w (.slice (some ⟨b, 0, none⟩) 6 c) (Rp g) := by
    intro W hc hW
    refine once_call g b c W hW ?_
    have hbl : ∀ j v, w.cell? ⟨b, j, none⟩ = some v → W.cell? ⟨b, j, none⟩ = some v := by
      intro j v hv
      have hlt : b < w.heap.size := World.block_lt_of_cell? _ _ hv
      have e := hc.block b hlt hbg
      unfold World.cell? at hv ⊢
      rw [e]
      exact hv
    obtain ⟨q0, q1, q2, q3, q4, q5⟩ := h6
    exact ⟨hbl _ _ q0, hbl _ _ q1, hbl _ _ q2, hbl _ _ q3, hbl _ _ q4, hbl _ _ q5⟩
  have HBu := Aside0.mk hbuild
  clear hb h6 hbg hs hbuild
  have m1 := method_replace
  have m2 := ahead_replace
  go_enter Tryz.func55, Tryz.ntmps55
  go_wp2_with fail
  refine (Once.do_call g w _ (Rp g) HH.out.1 (rp_stays g) HBu.out).mono ?_
  rintro e w1 ⟨rfl, r, o', hb1, hr, hc⟩
  obtain ⟨p, rfl, _⟩ := id hr
  unfold Once.ob at hb1
  have c3 : w1.cell? ⟨g, 3, none⟩ = some (.iface 259 (.pointer (some ⟨p, 0, none⟩))) := (blk_cell hb1 3).trans rfl
  have HR := Aside0.mk (And.intro hr.rt hc)
  clear hb1 hr hc
  go_wp2_with fail
  refine (rep_call p s _ HR.out.1 HH.out.2.2.2).mono ?_
  rintro e w2 ⟨rfl, hb2⟩
  have HF := Aside0.mk (HR.out.2.then_below hb2)
  clear hb2
  go_wp2_with fail
  go_ret
  exact ⟨rfl, HF.out⟩
theorem six_lit (w : World) : Kd.string.C (w.alloc (.cells #[.string ⟨#[92]⟩, .string ⟨#[92, 92]⟩, .string ⟨#[9]⟩, .string ⟨#[92, 116]⟩, .string ⟨#[10]⟩, .string ⟨#[92, 110]⟩] 9)) (some ⟨w.heap.size, 0, none⟩) 6 six := by
  have h := own_lit_of (enc := Value.string) w w.heap.size 9 six (Nat.le_refl _) (by decide)
  have hR : Kd.string.R 9 (w.alloc (.cells (encs Value.string six).toArray 9)) w.heap.size (fun _ => True) (.slice (some ⟨w.heap.size, 0, none⟩) 6 6) six := Kd.R_of_own h (fun _ _ => trivial)
  obtain ⟨A, c, he, _, hC⟩ := Kd.R_reads hR
  injection he with e1 e2 e3
  subst e1
  exact hC
end Rep
set_option maxRecDepth 100000 in
set_option maxHeartbeats 4000000 in
theorem shielded_call (s : ByteArray) (w : World) (hs : s.size ≤ 17592186044416) :
    Calls Tryz.prog 23 #[.string s] w fun e w' => e = .returned (.string (esc s)) ∧ Below w.heap.size w w' := by
  have HS := Aside0.mk hs
  have H6 := Aside0.mk (Rep.six_lit w)
  clear hs
  go_enter Tryz.func23, Tryz.ntmps23
  go_wp2_with fail
  refine (Rep.newReplacer_call _ _ _ H6.out).mono ?_
  rintro e w1 ⟨g, b, c', rfl, h1, h2, h3, h4, h5⟩
  have HN := Aside0.mk (And.intro h1 (And.intro h2 (And.intro h3 (And.intro h4 h5))))
  clear h1 h2 h3 h4 h5
  go_wp2_with fail
  refine (Rep.replace_call g b c' s _ HN.out.1 HN.out.2.2.1 HN.out.2.1 HS.out).mono ?_
  rintro e w2 ⟨rfl, hc⟩
  have HF := Aside0.mk hc
  clear hc
  go_wp2_with fail
  go_ret
  refine ⟨rfl, ?_⟩
  have hb0 : Below w.heap.size w w1 := below_then (below_alloc (Below.refl w.heap.size w) _) (by simp) HN.out.2.2.2.2
  have hg := HN.out.2.2.2.1
  have hgw : w.heap.size ≤ g := by simp at hg; omega
  refine ⟨HF.out.os.trans hb0.os, HF.out.tape.trans hb0.tape, HF.out.output.trans hb0.output, Nat.le_trans hb0.size HF.out.size, fun i hi => ?_⟩
  exact (HF.out.block i (Nat.lt_of_lt_of_le hi hb0.size) (by omega)).trans (hb0.block i hi)
end Go.Proofs.YthbdjmopolpjmaaGreatDoor.C
end
section
set_option linter.unusedVariables false
set_option linter.unusedSimpArgs false
namespace Go.Proofs.YthbdjmopolpjmaaGreatDoor.C
open Go.RowKit Go.Proofs.YthbdjmopolpjmaaGreatDoorW.PrintWords Go.Proofs.YthbdjmopolpjmaaGreatDoorW.PrintLast Go.Proofs.YthbdjmopolpjmaaGreatDoorW.PrintMore Go.Proofs.YthbdjmopolpjmaaGreatDoor.F Go.Proofs.YthbdjmopolpjmaaGreatDoor.M
attribute [local go_sem] max2_int min2_int max_two min_two max_three min_three max_four min_four
def errV (n : Int) : Value := if n = 0 then Value.nilIface else .iface 83 (.agg #[.int .i64 n])
set_option maxHeartbeats 2000000 in
set_option maxRecDepth 100000 in
theorem fit_call (x : S41) (A : Option Addr) (c : Nat) (w : World) : Calls Tryz.prog 20 #[EV x A c] w fun e w' => e = .returned (errV (canI x)) ∧ Below w.heap.size w w' := by
  have HBB := Aside0.mk (below_alloc (Below.refl w.heap.size w) (.cells #[.int .i64 x.f0, .string x.f1, .string x.f2.f0, .string x.f2.f1, .string x.f3.f0, .string x.f3.f1, .string x.f4, .int .i64 x.f5, .slice A x.f6.length c, .int .i64 x.f7, .bool x.f8] 41))
  by_cases c0 : x.f0 < 1
  · have d0 : decide (x.f0 < 1) = true := decide_eq_true c0
    have HX := Aside0.mk (canI_bounds (x := x) (fun h => by unfold Bounds at h; omega))
    clear c0
    go_enter Tryz.func20, Tryz.ntmps20
    unfold EV
    go_wp2_with fail
    go_ret
    exact ⟨by rw [HX.out]; rfl, HBB.out⟩
  · have d0 : decide (x.f0 < 1) = false := decide_eq_false c0
    by_cases c1 : 4096 < x.f0
    · have d1 : decide (4096 < x.f0) = true := decide_eq_true c1
      have HX := Aside0.mk (canI_bounds (x := x) (fun h => by unfold Bounds at h; omega))
      clear c0 c1
      go_enter Tryz.func20, Tryz.ntmps20
      unfold EV
      go_wp2_with fail
      go_ret
      exact ⟨by rw [HX.out]; rfl, HBB.out⟩
    · have d1 : decide (4096 < x.f0) = false := decide_eq_false c1
      by_cases c2 : x.f7 < 0
      · have d2 : decide (x.f7 < 0) = true := decide_eq_true c2
        have HX := Aside0.mk (canI_bounds (x := x) (fun h => by unfold Bounds at h; omega))
        clear c0 c1 c2
        go_enter Tryz.func20, Tryz.ntmps20
        unfold EV
        go_wp2_with fail
        go_ret
        exact ⟨by rw [HX.out]; rfl, HBB.out⟩
      · have d2 : decide (x.f7 < 0) = false := decide_eq_false c2
        by_cases c3 : 4096 < x.f7
        · have d3 : decide (4096 < x.f7) = true := decide_eq_true c3
          have HX := Aside0.mk (canI_bounds (x := x) (fun h => by unfold Bounds at h; omega))
          clear c0 c1 c2 c3
          go_enter Tryz.func20, Tryz.ntmps20
          unfold EV
          go_wp2_with fail
          go_ret
          exact ⟨by rw [HX.out]; rfl, HBB.out⟩
        · have d3 : decide (4096 < x.f7) = false := decide_eq_false c3
          by_cases c4 : x.f5 < 0
          · have d4 : decide (x.f5 < 0) = true := decide_eq_true c4
            have HX := Aside0.mk (canI_bounds (x := x) (fun h => by unfold Bounds at h; omega))
            clear c0 c1 c2 c3 c4
            go_enter Tryz.func20, Tryz.ntmps20
            unfold EV
            go_wp2_with fail
            go_ret
            exact ⟨by rw [HX.out]; rfl, HBB.out⟩
          · have d4 : decide (x.f5 < 0) = false := decide_eq_false c4
            by_cases c5 : 1000000 < x.f5
            · have d5 : decide (1000000 < x.f5) = true := decide_eq_true c5
              have HX := Aside0.mk (canI_bounds (x := x) (fun h => by unfold Bounds at h; omega))
              clear c0 c1 c2 c3 c4 c5
              go_enter Tryz.func20, Tryz.ntmps20
              unfold EV
              go_wp2_with fail
              go_ret
              exact ⟨by rw [HX.out]; rfl, HBB.out⟩
            · have d5 : decide (1000000 < x.f5) = false := decide_eq_false c5
              have HB := Aside0.mk (show Bounds x by unfold Bounds; omega)
              clear c0 c1 c2 c3 c4 c5
              go_enter Tryz.func20, Tryz.ntmps20
              unfold EV
              go_wp2_with fail
              refine (right_call x.f2.f0 x.f2.f1 _).mono ?_
              rintro e w1 ⟨b1, rfl, h1, h2⟩
              have g4 := cell_later (a := ⟨w.heap.size, 4, none⟩) (v := .string x.f3.f0) h2 (by simp)
              have g5 := cell_later (a := ⟨w.heap.size, 5, none⟩) (v := .string x.f3.f1) h2 (by simp)
              have g8 := cell_later (a := ⟨w.heap.size, 8, none⟩) (v := .slice A x.f6.length c) h2 (by simp)
              have H1 := Aside0.mk (And.intro h1 (below_then HBB.out (by simp) h2))
              clear h1 h2
              cases b1 with
              | false =>
                go_wp2_with fail
                go_ret
                exact ⟨by rw [canI_right HB.out (fun h => absurd (H1.out.1.2 h.1) (by simp))]; rfl, H1.out.2⟩
              | true =>
                go_wp2_with fail
                refine (right_call x.f3.f0 x.f3.f1 _).mono ?_
                rintro e w2 ⟨b2, rfl, h1, h2⟩
                have k4 := cell_later h2 g4
                have k8 := cell_later h2 g8
                have H2 := Aside0.mk (And.intro h1 (below_then H1.out.2 H1.out.2.size h2))
                clear h1 h2 g4 g5 g8
                cases b2 with
                | false =>
                  go_wp2_with fail
                  go_ret
                  exact ⟨by rw [canI_right HB.out (fun h => absurd (H2.out.1.2 h.2) (by simp))]; rfl, H2.out.2⟩
                | true =>
                  have HR := Aside0.mk (And.intro (H1.out.1.1 (by first | rfl | trivial)) (H2.out.1.1 (by first | rfl | trivial)))
                  have hp := HR.out.2.pos
                  have q0 := eq_true hp
                  have hx : ∀ h : 0 < x.f3.f0.size, ((x.f3.f0[0]'h).toNat : Int) = bt x.f3.f0 0 := bt_at x.f3.f0 0
                  by_cases hm : bt x.f3.f0 0 = 45
                  · have h45 : ((bt x.f3.f0 0) == 45) = true := beq_iff_eq.mpr hm
                    have HM := Aside0.mk (show minus x.f3.f0 = true by unfold minus; exact decide_eq_true ⟨hp, hm⟩)
                    clear hm hp
                    go_wp2_with fail
                    go_ret
                    exact ⟨by rw [canI_minus HB.out HR.out HM.out]; rfl, H2.out.2⟩
                  · have h45 : ((bt x.f3.f0 0) == 45) = false := beq_eq_false_iff_ne.mpr hm
                    have HM := Aside0.mk (show ¬ minus x.f3.f0 = true by unfold minus; exact fun h => hm (of_decide_eq_true h).2)
                    clear hm hp
                    by_cases hl : 8 < x.f6.length
                    · have l1 : decide (8 < x.f6.length) = true := decide_eq_true hl
                      have l2 : decide (8 < (x.f6.length : Int)) = true := decide_eq_true (by omega)
                      have HL := Aside0.mk hl
                      clear hl
                      go_wp2_with fail
                      go_ret
                      exact ⟨by rw [canI_tags HB.out HR.out HM.out HL.out]; rfl, H2.out.2⟩
                    · have l1 : decide (8 < x.f6.length) = false := decide_eq_false hl
                      have l2 : decide (8 < (x.f6.length : Int)) = false := decide_eq_false (by omega)
                      have HL := Aside0.mk hl
                      clear hl
                      go_wp2_with fail
                      go_ret
                      exact ⟨by rw [canI_ok HB.out HR.out HM.out HL.out]; rfl, H2.out.2⟩
end Go.Proofs.YthbdjmopolpjmaaGreatDoor.C
end
section
set_option linter.unusedVariables false
set_option linter.unusedSimpArgs false
namespace Go.Proofs.YthbdjmopolpjmaaGreatDoor.C
open Go.RowKit Go.Extern.Stop Go.Stop Go.Extern Go.Proofs.YthbdjmopolpjmaaGreatDoorW.PrintWords Go.Proofs.YthbdjmopolpjmaaGreatDoorW.PrintLast Go.Proofs.YthbdjmopolpjmaaGreatDoorW.PrintMore Go.Proofs.YthbdjmopolpjmaaGreatDoor.F Go.Proofs.YthbdjmopolpjmaaGreatDoor.M
namespace As
theorem methodKind (h : Value) (w : World) : (Go.method 490 182 (.agg #[h]) "Kind").run Tryz.prog w = .ok (281, h) w := by kernel_rfl
theorem methodElem (h : Value) (w : World) : (Go.method 490 182 (.agg #[h]) "Elem").run Tryz.prog w = .ok (295, .agg #[h]) w := by kernel_rfl
theorem methodImplements (h : Value) (w : World) : (Go.method 490 182 (.agg #[h]) "Implements").run Tryz.prog w = .ok (296, .agg #[h]) w := by kernel_rfl
theorem methodAssignableTo (h : Value) (w : World) : (Go.method 490 182 (.agg #[h]) "AssignableTo").run Tryz.prog w = .ok (293, .agg #[h]) w := by kernel_rfl
theorem methodComparable (h : Value) (w : World) : (Go.method 490 182 (.agg #[h]) "Comparable").run Tryz.prog w = .ok (294, .agg #[h]) w := by kernel_rfl
theorem rlm (z : Sem Value) (f : TypeId → Addr → Nat → Nat → Sem Value) (v : Value) :
    ReflectliteValue.method z f #[v] = (do match ← ReflectliteValue.parts v with | none => z | some (t, a, fl) => f t a fl (fl % 32)) := rfl
theorem rls (v x : Value) : ReflectliteValue.set #[v, x] = (do
    let (some (dst, a, fl), some (src, b, _)) := (← ReflectliteValue.parts v, ← ReflectliteValue.parts x)
      | unsupported (.noEntry "extern/(internal/reflectlite.Value).Set.zeroValue")
    if fl / ReflectliteValue.flagAddr % 2 == 0 then unsupported (.noEntry "extern/(internal/reflectlite.Value).Set.unaddressable")
    let val ← loadVar src b
    if ← Rtype.directlyAssignable dst src then storeVar dst a val
    else if ← Rtype.implements dst src then
      if (← Rtype.kind src) == 20 then
        match val with
        | .nilIface => unsupported (.noEntry "extern/reflectlite: a nil value of one interface type handed on as a value of another")
        | _ => storeVar dst a val
      else storeVar dst a (.iface src val)
    else panicString ("reflectlite.Set: value of type " ++ (← Rtype.spelt src) ++ " is not assignable to type " ++ (← Rtype.spelt dst))
    pure (.tuple #[])) := rfl
theorem valueOf86 (t : Addr) (w : World) : (ReflectliteValue.unpack (.iface 86 (.pointer (some t)))).run Tryz.prog w
    = .ok (.agg #[.pointer (some ⟨10, 86, none⟩), .pointer (some ⟨w.heap.size, 0, none⟩), .int .u64 150]) (w.alloc (.cells #[.pointer (some t)] 86)) := by kernel_rfl
theorem type86 (a : Addr) (w : World) : (ReflectliteValue.methodAny (ReflectliteValue.valueError "reflectlite.Value.Type" 0) (fun t _ _ _ => ReflectliteType.toType t) #[.agg #[.pointer (some ⟨10, 86, none⟩), .pointer (some a), .int .u64 150]]).run Tryz.prog w
    = .ok (.iface 182 (.agg #[.pointer (some ⟨10, 86, none⟩)])) w := by kernel_rfl
theorem kind86 (w : World) : ((ReflectliteType.abiMethod fun t => (fun a : Nat => Value.int IntKind.u8 (a : Int)) <$> Rtype.kind t) #[.pointer (some ⟨10, 86, none⟩)]).run Tryz.prog w = .ok (.int .u8 22) w := by kernel_rfl
theorem kind49 (w : World) : ((ReflectliteType.abiMethod fun t => (fun a : Nat => Value.int IntKind.u8 (a : Int)) <$> Rtype.kind t) #[.pointer (some ⟨10, 49, none⟩)]).run Tryz.prog w = .ok (.int .u8 25) w := by kernel_rfl
theorem parts86 (a : Addr) (w : World) : (ReflectliteValue.parts (.agg #[.pointer (some ⟨10, 86, none⟩), .pointer (some a), .int .u64 150])).run Tryz.prog w = .ok (some (86, a, 150)) w := by kernel_rfl
theorem isNil86 (a p : Addr) (W : World) (ha : W.cell? a = some (.pointer (some p))) :
    (ReflectliteValue.method (ReflectliteValue.valueError "reflectlite.Value.IsNil" 0) ReflectliteValue.isNil #[.agg #[.pointer (some ⟨10, 86, none⟩), .pointer (some a), .int .u64 150]]).run Tryz.prog W = .ok (.bool false) W := by
  rw [rlm]
  simp only [Sem.run_bind, parts86, Result.andThen]
  simp [ReflectliteValue.isNil, loadVar, isAgg, underlying, Tryz.underlying86, ha, Result.andThen]
theorem elem86 (w : World) : (ReflectliteType.method ReflectliteType.elem #[.agg #[.pointer (some ⟨10, 86, none⟩)]]).run Tryz.prog w = .ok (.iface 182 (.agg #[.pointer (some ⟨10, 49, none⟩)])) w := by kernel_rfl
theorem typeOf49 (v : Value) (w : World) : (ReflectliteType.typeOf #[.iface 49 v]).run Tryz.prog w = .ok (.iface 182 (.agg #[.pointer (some ⟨10, 49, none⟩)])) w := by kernel_rfl
theorem valueOf49 (v0 v1 : Value) (w : World) : (ReflectliteValue.unpack (.iface 49 (.agg #[v0, v1]))).run Tryz.prog w
    = .ok (.agg #[.pointer (some ⟨10, 49, none⟩), .pointer (some ⟨w.heap.size, 0, none⟩), .int .u64 153]) (w.alloc (.cells #[v0, v1] 49)) := by kernel_rfl
theorem elemOf86 (w : World) : (Rtype.elem? 86).run Tryz.prog w = .ok (some 49) w := by kernel_rfl
theorem mk49 (p : Addr) (w : World) : (ReflectliteValue.mk 49 p ReflectliteValue.flagAddr).run Tryz.prog w = .ok (.agg #[.pointer (some ⟨10, 49, none⟩), .pointer (some p), .int .u64 409]) w := by kernel_rfl
theorem elemV86 (a p : Addr) (W : World) (ha : W.cell? a = some (.pointer (some p))) :
    (ReflectliteValue.method (ReflectliteValue.valueError "reflectlite.Value.Elem" 0) ReflectliteValue.elem #[.agg #[.pointer (some ⟨10, 86, none⟩), .pointer (some a), .int .u64 150]]).run Tryz.prog W
      = .ok (.agg #[.pointer (some ⟨10, 49, none⟩), .pointer (some p), .int .u64 409]) W := by
  rw [rlm]
  simp only [Sem.run_bind, parts86, Result.andThen]
  simp [ReflectliteValue.elem, loadVar, isAgg, underlying, Tryz.underlying86, ha, Result.andThen, elemOf86, mk49]
theorem parts49a (a : Addr) (w : World) : (ReflectliteValue.parts (.agg #[.pointer (some ⟨10, 49, none⟩), .pointer (some a), .int .u64 409])).run Tryz.prog w = .ok (some (49, a, 409)) w := by kernel_rfl
theorem parts49 (a : Addr) (w : World) : (ReflectliteValue.parts (.agg #[.pointer (some ⟨10, 49, none⟩), .pointer (some a), .int .u64 153])).run Tryz.prog w = .ok (some (49, a, 153)) w := by kernel_rfl
theorem direct49 (w : World) : (Rtype.directlyAssignable 49 49).run Tryz.prog w = .ok true w := by kernel_rfl
theorem valueOf88 (t : Addr) (w : World) : (ReflectliteValue.unpack (.iface 88 (.pointer (some t)))).run Tryz.prog w
    = .ok (.agg #[.pointer (some ⟨10, 88, none⟩), .pointer (some ⟨w.heap.size, 0, none⟩), .int .u64 150]) (w.alloc (.cells #[.pointer (some t)] 88)) := by kernel_rfl
theorem type88 (a : Addr) (w : World) : (ReflectliteValue.methodAny (ReflectliteValue.valueError "reflectlite.Value.Type" 0) (fun t _ _ _ => ReflectliteType.toType t) #[.agg #[.pointer (some ⟨10, 88, none⟩), .pointer (some a), .int .u64 150]]).run Tryz.prog w
    = .ok (.iface 182 (.agg #[.pointer (some ⟨10, 88, none⟩)])) w := by kernel_rfl
theorem kind88 (w : World) : ((ReflectliteType.abiMethod fun t => (fun a : Nat => Value.int IntKind.u8 (a : Int)) <$> Rtype.kind t) #[.pointer (some ⟨10, 88, none⟩)]).run Tryz.prog w = .ok (.int .u8 22) w := by kernel_rfl
theorem kind83 (w : World) : ((ReflectliteType.abiMethod fun t => (fun a : Nat => Value.int IntKind.u8 (a : Int)) <$> Rtype.kind t) #[.pointer (some ⟨10, 83, none⟩)]).run Tryz.prog w = .ok (.int .u8 25) w := by kernel_rfl
theorem parts88 (a : Addr) (w : World) : (ReflectliteValue.parts (.agg #[.pointer (some ⟨10, 88, none⟩), .pointer (some a), .int .u64 150])).run Tryz.prog w = .ok (some (88, a, 150)) w := by kernel_rfl
theorem isNil88 (a p : Addr) (W : World) (ha : W.cell? a = some (.pointer (some p))) :
    (ReflectliteValue.method (ReflectliteValue.valueError "reflectlite.Value.IsNil" 0) ReflectliteValue.isNil #[.agg #[.pointer (some ⟨10, 88, none⟩), .pointer (some a), .int .u64 150]]).run Tryz.prog W = .ok (.bool false) W := by
  rw [rlm]
  simp only [Sem.run_bind, parts88, Result.andThen]
  simp [ReflectliteValue.isNil, loadVar, isAgg, underlying, Tryz.underlying88, ha, Result.andThen]
theorem elem88 (w : World) : (ReflectliteType.method ReflectliteType.elem #[.agg #[.pointer (some ⟨10, 88, none⟩)]]).run Tryz.prog w = .ok (.iface 182 (.agg #[.pointer (some ⟨10, 83, none⟩)])) w := by kernel_rfl
theorem typeOf83 (v : Value) (w : World) : (ReflectliteType.typeOf #[.iface 83 v]).run Tryz.prog w = .ok (.iface 182 (.agg #[.pointer (some ⟨10, 83, none⟩)])) w := by kernel_rfl
theorem valueOf83 (v0 : Value) (w : World) : (ReflectliteValue.unpack (.iface 83 (.agg #[v0]))).run Tryz.prog w
    = .ok (.agg #[.pointer (some ⟨10, 83, none⟩), .pointer (some ⟨w.heap.size, 0, none⟩), .int .u64 153]) (w.alloc (.cells #[v0] 83)) := by kernel_rfl
theorem elemOf88 (w : World) : (Rtype.elem? 88).run Tryz.prog w = .ok (some 83) w := by kernel_rfl
theorem mk83 (p : Addr) (w : World) : (ReflectliteValue.mk 83 p ReflectliteValue.flagAddr).run Tryz.prog w = .ok (.agg #[.pointer (some ⟨10, 83, none⟩), .pointer (some p), .int .u64 409]) w := by kernel_rfl
theorem elemV88 (a p : Addr) (W : World) (ha : W.cell? a = some (.pointer (some p))) :
    (ReflectliteValue.method (ReflectliteValue.valueError "reflectlite.Value.Elem" 0) ReflectliteValue.elem #[.agg #[.pointer (some ⟨10, 88, none⟩), .pointer (some a), .int .u64 150]]).run Tryz.prog W
      = .ok (.agg #[.pointer (some ⟨10, 83, none⟩), .pointer (some p), .int .u64 409]) W := by
  rw [rlm]
  simp only [Sem.run_bind, parts88, Result.andThen]
  simp [ReflectliteValue.elem, loadVar, isAgg, underlying, Tryz.underlying88, ha, Result.andThen, elemOf88, mk83]
theorem parts83a (a : Addr) (w : World) : (ReflectliteValue.parts (.agg #[.pointer (some ⟨10, 83, none⟩), .pointer (some a), .int .u64 409])).run Tryz.prog w = .ok (some (83, a, 409)) w := by kernel_rfl
theorem parts83 (a : Addr) (w : World) : (ReflectliteValue.parts (.agg #[.pointer (some ⟨10, 83, none⟩), .pointer (some a), .int .u64 153])).run Tryz.prog w = .ok (some (83, a, 153)) w := by kernel_rfl
theorem direct83 (w : World) : (Rtype.directlyAssignable 83 83).run Tryz.prog w = .ok true w := by kernel_rfl
theorem assignable49_49 (w : World) : (ReflectliteType.relation "AssignableTo" ReflectliteType.assignableTo #[.agg #[.pointer (some ⟨10, 49, none⟩)], .iface 182 (.agg #[.pointer (some ⟨10, 49, none⟩)])]).run Tryz.prog w = .ok (.bool true) w := by kernel_rfl
theorem assignable49_83 (w : World) : (ReflectliteType.relation "AssignableTo" ReflectliteType.assignableTo #[.agg #[.pointer (some ⟨10, 49, none⟩)], .iface 182 (.agg #[.pointer (some ⟨10, 83, none⟩)])]).run Tryz.prog w = .ok (.bool false) w := by kernel_rfl
theorem assignable83_83 (w : World) : (ReflectliteType.relation "AssignableTo" ReflectliteType.assignableTo #[.agg #[.pointer (some ⟨10, 83, none⟩)], .iface 182 (.agg #[.pointer (some ⟨10, 83, none⟩)])]).run Tryz.prog w = .ok (.bool true) w := by kernel_rfl
end As
end Go.Proofs.YthbdjmopolpjmaaGreatDoor.C
end
section
set_option linter.unusedVariables false
set_option linter.unusedSimpArgs false
namespace Go.Proofs.YthbdjmopolpjmaaGreatDoor.C
open Go.RowKit Go.Extern.Stop Go.Stop Go.Extern Go.Proofs.YthbdjmopolpjmaaGreatDoorW.PrintWords Go.Proofs.YthbdjmopolpjmaaGreatDoorW.PrintLast Go.Proofs.YthbdjmopolpjmaaGreatDoorW.PrintMore Go.Proofs.YthbdjmopolpjmaaGreatDoor.F Go.Proofs.YthbdjmopolpjmaaGreatDoor.M
namespace As
theorem set83 (tb bb : Nat) (v0 old : Value) (h1 : v0.oneCell' = true) (W : World) (hb : W.cell? ⟨bb, 0, none⟩ = some v0) (ht : W.cell? ⟨tb, 0, none⟩ = some old) (hf : W.frozen? ⟨tb, 0, none⟩ = false) :
    (ReflectliteValue.set #[.agg #[.pointer (some ⟨10, 83, none⟩), .pointer (some ⟨tb, 0, none⟩), .int .u64 409], .agg #[.pointer (some ⟨10, 83, none⟩), .pointer (some ⟨bb, 0, none⟩), .int .u64 153]]).run Tryz.prog W
      = .ok (.tuple #[]) (W.setCell ⟨tb, 0, none⟩ v0) := by
  rw [rls]
  simp only [Sem.run_bind, parts83a, parts83, Result.andThen]
  simp [ReflectliteValue.flagAddr, loadVar, isAgg, underlying, Tryz.underlying83, hb, Result.andThen, direct83, storeVar, Value.cells, storeCells, Addr.add, loadCells, loadCellsFrom]
  rw [run_store Tryz.prog W ⟨tb, 0, none⟩ _ _ h1]
  simp [ht, hf]
theorem set49 (tb bb : Nat) (v0 v1 o0 o1 : Value) (h0 : v0.oneCell' = true) (h1 : v1.oneCell' = true) (W : World) (hb0 : W.cell? ⟨bb, 0, none⟩ = some v0) (hb1 : W.cell? ⟨bb, 1, none⟩ = some v1) (ht0 : W.cell? ⟨tb, 0, none⟩ = some o0) (ht1 : W.cell? ⟨tb, 1, none⟩ = some o1) (hf0 : W.frozen? ⟨tb, 0, none⟩ = false) (hf1 : W.frozen? ⟨tb, 1, none⟩ = false) :
    (ReflectliteValue.set #[.agg #[.pointer (some ⟨10, 49, none⟩), .pointer (some ⟨tb, 0, none⟩), .int .u64 409], .agg #[.pointer (some ⟨10, 49, none⟩), .pointer (some ⟨bb, 0, none⟩), .int .u64 153]]).run Tryz.prog W
      = .ok (.tuple #[]) ((W.setCell ⟨tb, 0, none⟩ v0).setCell ⟨tb, 1, none⟩ v1) := by
  have hc : (W.setCell ⟨tb, 0, none⟩ v0).cell? ⟨tb, 1, none⟩ = some o1 := by rw [World.cell?_setCell_other]; exact ht1; intro e; injection e; omega
  rw [rls]
  simp only [Sem.run_bind, parts49a, parts49, Result.andThen]
  simp [ReflectliteValue.flagAddr, loadVar, isAgg, underlying, Tryz.underlying49, hb0, hb1, Result.andThen, direct49, storeVar, Value.cells, storeCells, Addr.add, loadCells, loadCellsFrom]
  rw [run_store Tryz.prog W ⟨tb, 0, none⟩ _ _ h0]
  simp [ht0, hf0]
  rw [run_store Tryz.prog _ ⟨tb, 1, none⟩ _ _ h1]
  simp [hc, hf1]
end As
end Go.Proofs.YthbdjmopolpjmaaGreatDoor.C
end
section
set_option linter.unusedVariables false
set_option linter.unusedSimpArgs false
namespace Go.Proofs.YthbdjmopolpjmaaGreatDoor.C
open Go.RowKit Go.Extern.Stop Go.Stop Go.Extern Go.Proofs.YthbdjmopolpjmaaGreatDoorW.PrintWords Go.Proofs.YthbdjmopolpjmaaGreatDoorW.PrintLast Go.Proofs.YthbdjmopolpjmaaGreatDoorW.PrintMore Go.Proofs.YthbdjmopolpjmaaGreatDoor.F Go.Proofs.YthbdjmopolpjmaaGreatDoor.M
namespace As
theorem implements49 (w : World) : (ReflectliteType.relation "Implements" ReflectliteType.implements_ #[.agg #[.pointer (some ⟨10, 49, none⟩)], .iface 182 (.agg #[.pointer (some ⟨10, 44, none⟩)])]).run Tryz.prog w = .ok (.bool true) w := by kernel_rfl
theorem implements83 (w : World) : (ReflectliteType.relation "Implements" ReflectliteType.implements_ #[.agg #[.pointer (some ⟨10, 83, none⟩)], .iface 182 (.agg #[.pointer (some ⟨10, 44, none⟩)])]).run Tryz.prog w = .ok (.bool true) w := by kernel_rfl
set_option maxHeartbeats 8000000 in
set_option maxRecDepth 100000 in
theorem as_hit49 (v0 v1 o0 o1 : Value) (tb : Nat) (h0 : v0.oneCell' = true) (h1 : v1.oneCell' = true) (w : World) (hg : w.cell? ⟨1, 0, none⟩ = some (.iface 182 (.agg #[.pointer (some ⟨10, 44, none⟩)]))) (ht0 : w.cell? ⟨tb, 0, none⟩ = some o0) (ht1 : w.cell? ⟨tb, 1, none⟩ = some o1) (hf0 : w.frozen? ⟨tb, 0, none⟩ = false) (hf1 : w.frozen? ⟨tb, 1, none⟩ = false) :
    Calls Tryz.prog 44 #[.iface 49 (.agg #[v0, v1]), .iface 86 (.pointer (some ⟨tb, 0, none⟩))] w fun ev w' => ev = .returned (.bool true) ∧ w' = ((((((w.alloc (.cells #[.pointer (some ⟨tb, 0, none⟩)] 86)).alloc (.cells #[.pointer (some ⟨10, 86, none⟩), .pointer (some ⟨w.heap.size, 0, none⟩), .int .u64 150] 116)).alloc (.cells #[.pointer (some ⟨10, 86, none⟩), .pointer (some ⟨w.heap.size, 0, none⟩), .int .u64 150] 116)).alloc (.cells #[v0, v1] 49)).setCell ⟨tb, 0, none⟩ v0).setCell ⟨tb, 1, none⟩ v1) := by
  have x80 := @run_callFunc_extern Tryz.prog 80 _ (fun args => ReflectliteValue.unpack (args.getD 0 (.tuple #[]))) Tryz.func80 (by kernel_rfl) (by kernel_rfl) (by kernel_rfl) (by kernel_rfl)
  have x81 := @run_callFunc_extern Tryz.prog 81 _ (ReflectliteValue.methodAny (ReflectliteValue.valueError "reflectlite.Value.Type" 0) (fun t _ _ _ => ReflectliteType.toType t)) Tryz.func81 (by kernel_rfl) (by kernel_rfl) (by kernel_rfl) (by kernel_rfl)
  have x82 := @run_callFunc_extern Tryz.prog 82 _ (ReflectliteValue.method (ReflectliteValue.valueError "reflectlite.Value.IsNil" 0) ReflectliteValue.isNil) Tryz.func82 (by kernel_rfl) (by kernel_rfl) (by kernel_rfl) (by kernel_rfl)
  have x281 := @run_callFunc_extern Tryz.prog 281 _ (ReflectliteType.abiMethod fun t => do pure (.int .u8 (← Rtype.kind t))) Tryz.func281 (by kernel_rfl) (by kernel_rfl) (by kernel_rfl) (by kernel_rfl)
  have x295 := @run_callFunc_extern Tryz.prog 295 _ (ReflectliteType.method ReflectliteType.elem) Tryz.func295 (by kernel_rfl) (by kernel_rfl) (by kernel_rfl) (by kernel_rfl)
  have x296 := @run_callFunc_extern Tryz.prog 296 _ (ReflectliteType.relation "Implements" ReflectliteType.implements_) Tryz.func296 (by kernel_rfl) (by kernel_rfl) (by kernel_rfl) (by kernel_rfl)
  have x84 := @run_callFunc_extern Tryz.prog 84 _ ReflectliteType.typeOf Tryz.func84 (by kernel_rfl) (by kernel_rfl) (by kernel_rfl) (by kernel_rfl)
  have x293 := @run_callFunc_extern Tryz.prog 293 _ (ReflectliteType.relation "AssignableTo" ReflectliteType.assignableTo) Tryz.func293 (by kernel_rfl) (by kernel_rfl) (by kernel_rfl) (by kernel_rfl)
  have x119 := @run_callFunc_extern Tryz.prog 119 _ (ReflectliteValue.method (ReflectliteValue.valueError "reflectlite.Value.Elem" 0) ReflectliteValue.elem) Tryz.func119 (by kernel_rfl) (by kernel_rfl) (by kernel_rfl) (by kernel_rfl)
  have x120 := @run_callFunc_extern Tryz.prog 120 _ ReflectliteValue.set Tryz.func120 (by kernel_rfl) (by kernel_rfl) (by kernel_rfl) (by kernel_rfl)
  have y1 := typeOf49
  have y2 := methodAssignableTo
  have y3 := assignable49_49
  have y4 := valueOf49
  have y5 := valueOf86
  have y6 := type86
  have y7 := methodKind
  have y8 := methodElem
  have y9 := methodImplements
  have y10 := kind86
  have y11 := kind49
  have y12 := elem86
  have y13 := implements49
  obtain ⟨W1, hW1⟩ : ∃ W, w.alloc (.cells #[.pointer (some ⟨tb, 0, none⟩)] 86) = W := ⟨_, rfl⟩
  have hB1 : Below w.heap.size w W1 := by rw [← hW1]; exact below_alloc (Below.refl _ _) _
  have n8 := isNil86 ⟨w.heap.size, 0, none⟩ ⟨tb, 0, none⟩ ((w.alloc (.cells #[.pointer (some ⟨tb, 0, none⟩)] 86)).alloc (.cells #[.pointer (some ⟨10, 86, none⟩), .pointer (some ⟨w.heap.size, 0, none⟩), .int .u64 150] 116)) (by simp)
  have hBA : Below w.heap.size w ((w.alloc (.cells #[.pointer (some ⟨tb, 0, none⟩)] 86)).alloc (.cells #[.pointer (some ⟨10, 86, none⟩), .pointer (some ⟨w.heap.size, 0, none⟩), .int .u64 150] 116)) := below_alloc (below_alloc (Below.refl _ _) _) _
  have hg2 := cell_later hBA hg
  have el := elemV86 ⟨w.heap.size, 0, none⟩ ⟨tb, 0, none⟩ (((w.alloc (.cells #[.pointer (some ⟨tb, 0, none⟩)] 86)).alloc (.cells #[.pointer (some ⟨10, 86, none⟩), .pointer (some ⟨w.heap.size, 0, none⟩), .int .u64 150] 116)).alloc (.cells #[.pointer (some ⟨10, 86, none⟩), .pointer (some ⟨w.heap.size, 0, none⟩), .int .u64 150] 116)) (by rw [World.cell?_alloc_lt _ _ ⟨w.heap.size, 0, none⟩ (by simp; omega)]; simp)
  have hBB : Below w.heap.size w ((((w.alloc (.cells #[.pointer (some ⟨tb, 0, none⟩)] 86)).alloc (.cells #[.pointer (some ⟨10, 86, none⟩), .pointer (some ⟨w.heap.size, 0, none⟩), .int .u64 150] 116)).alloc (.cells #[.pointer (some ⟨10, 86, none⟩), .pointer (some ⟨w.heap.size, 0, none⟩), .int .u64 150] 116)).alloc (.cells #[v0, v1] 49)) := below_alloc (below_alloc hBA _) _
  have htl : tb < w.heap.size := World.block_lt_of_cell? _ _ ht0
  have st := set49 tb (w.heap.size + 1 + 1 + 1) v0 v1 o0 o1 h0 h1 ((((w.alloc (.cells #[.pointer (some ⟨tb, 0, none⟩)] 86)).alloc (.cells #[.pointer (some ⟨10, 86, none⟩), .pointer (some ⟨w.heap.size, 0, none⟩), .int .u64 150] 116)).alloc (.cells #[.pointer (some ⟨10, 86, none⟩), .pointer (some ⟨w.heap.size, 0, none⟩), .int .u64 150] 116)).alloc (.cells #[v0, v1] 49))
    (by rw [World.cell?_alloc_at _ _ _ _ (by simp)]; rfl) (by rw [World.cell?_alloc_at _ _ _ _ (by simp)]; rfl)
    (cell_later hBB ht0) (cell_later hBB ht1)
    (by rw [World.frozen?_alloc_old _ _ _ (by simp; omega), World.frozen?_alloc_old _ _ _ (by simp; omega), World.frozen?_alloc_old _ _ _ (by simp; omega), World.frozen?_alloc_old _ _ _ (Nat.ne_of_lt htl)]; exact hf0)
    (by rw [World.frozen?_alloc_old _ _ _ (by simp; omega), World.frozen?_alloc_old _ _ _ (by simp; omega), World.frozen?_alloc_old _ _ _ (by simp; omega), World.frozen?_alloc_old _ _ _ (Nat.ne_of_lt htl)]; exact hf1)
  clear hW1 hB1 hBA hBB
  go_enter Tryz.func44, Tryz.ntmps44
  go_wp2
  refine wp_loop_rounds 1 ?_
  rw [rounds_succ]
  go_wp2
  go_ret
  exact ⟨rfl, rfl⟩
end As
end Go.Proofs.YthbdjmopolpjmaaGreatDoor.C
end
