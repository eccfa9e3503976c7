/- Part 14 of the proof: CRep2, CRep3, MEsc, Shelf2, CBuf. -/
import Derived.Laws.CopyRow
import Derived.Lib.Bytealg
import Derived.Shelf.LaysM
import Derived.Shelf.Strconv.Itoa3
import Derived.Shelf.Strings.Count
import Derived.Shelf.Strings.OnBuilder
import Derived.Test.YthbdjmopolpjmaaGreatDoorProg
import Derived.Test.YthbdjmopolpjmaaGreatDoorD00
import Derived.Test.YthbdjmopolpjmaaGreatDoorD01
import Derived.Test.YthbdjmopolpjmaaGreatDoorD02
import Derived.Test.YthbdjmopolpjmaaGreatDoorD03
import Derived.Test.YthbdjmopolpjmaaGreatDoorD04
import Derived.Test.YthbdjmopolpjmaaGreatDoorD05
import Derived.Test.YthbdjmopolpjmaaGreatDoorD06
import Derived.Test.YthbdjmopolpjmaaGreatDoorD07
import Derived.Test.YthbdjmopolpjmaaGreatDoorD08
import Derived.Test.YthbdjmopolpjmaaGreatDoorD09
import Derived.Test.YthbdjmopolpjmaaGreatDoorD10
import Derived.Test.YthbdjmopolpjmaaGreatDoorD11
import Derived.Test.YthbdjmopolpjmaaGreatDoorD12
import Derived.Test.YthbdjmopolpjmaaGreatDoorD13
section
set_option linter.unusedVariables false
set_option linter.unusedSimpArgs false
namespace Go.Proofs.YthbdjmopolpjmaaGreatDoor.C
open Go.RowKit Go.Proofs.YthbdjmopolpjmaaGreatDoorW.PrintWords Go.Proofs.YthbdjmopolpjmaaGreatDoorW.PrintLast Go.Proofs.YthbdjmopolpjmaaGreatDoorW.PrintMore Go.Proofs.YthbdjmopolpjmaaGreatDoor.F Go.Proofs.YthbdjmopolpjmaaGreatDoor.M
namespace Rep
def Six (W : World) (b : Nat) : Prop := W.cell? ⟨b, 0, none⟩ = some (.string ⟨#[92]⟩) ∧ W.cell? ⟨b, 1, none⟩ = some (.string ⟨#[92, 92]⟩) ∧ W.cell? ⟨b, 2, none⟩ = some (.string ⟨#[9]⟩) ∧ W.cell? ⟨b, 3, none⟩ = some (.string ⟨#[92, 116]⟩) ∧ W.cell? ⟨b, 4, none⟩ = some (.string ⟨#[10]⟩) ∧ W.cell? ⟨b, 5, none⟩ = some (.string ⟨#[92, 110]⟩)
theorem Six.below {W W1 : World} {b : Nat} (h : Six W b) (hb : Below W.heap.size W W1) : Six W1 b := by
  obtain ⟨q0, q1, q2, q3, q4, q5⟩ := h
  exact ⟨cell_later hb q0, cell_later hb q1, cell_later hb q2, cell_later hb q3, cell_later hb q4, cell_later hb q5⟩
theorem sz1 (a : UInt8) : ByteArray.size ⟨#[a]⟩ = 1 := rfl
theorem sz2 (a b : UInt8) : ByteArray.size ⟨#[a, b]⟩ = 2 := rfl
theorem conv_one (W : World) (o : Int) : (convert 50 9 (.slice (some ⟨W.heap.size, 0, none⟩) 1 1)).run Tryz.prog (W.alloc (.cells #[.int .u8 o] 5)) = .ok (.string (strOfNums [o])) (W.alloc (.cells #[.int .u8 o] 5)) :=
  own_string (src := 50) (dst := 9) (e := 5) Tryz.underlying50 Tryz.underlying5 Tryz.underlying9 (own_lit W W.heap.size 5 .u8 [o] (Nat.le_refl _) (by simp))
set_option maxRecDepth 100000 in
set_option maxHeartbeats 8000000 in
theorem build_call (g b c : Nat) (w : World) (h2 : w.cell? ⟨g, 4, none⟩ = some (.slice (some ⟨b, 0, none⟩) 6 c)) (h6 : Six w b) :
    Calls Tryz.prog 124 #[.pointer (some ⟨g, 0, none⟩)] w fun e w' => ∃ p v, e = .returned (.iface 259 (.pointer (some ⟨p, 0, none⟩))) ∧ Tb w w' p v [10, 9, 92] := by
  have H6 := Aside0.mk h6
  obtain ⟨q0, q1, q2, q3, q4, q5⟩ := h6
  have k1 := sz1
  have k2 := sz2
  have kn := Lib.run_eql_slice_nil (P := Tryz.prog) (t := 50)
  have k3 : ∀ (a : UInt8) (h : 0 < ByteArray.size ⟨#[a]⟩), (ByteArray.mk #[a])[0]'h = a := fun _ _ => rfl
  have mk := make_run
  have bd := build_run
  have cv := conv_one
  have cb := print_bytes (P := Tryz.prog) 9 50 5 Tryz.underlying9 Tryz.underlying50 Tryz.underlying5
  have hWa : Below w.heap.size w (w.alloc (.cells #[.string ⟨#[]⟩, .string ⟨#[]⟩, .string ⟨#[]⟩] 9)) := below_alloc (Below.refl _ _) _
  have hrow : Kd.string.R 9 (w.alloc (.cells #[.string ⟨#[]⟩, .string ⟨#[]⟩, .string ⟨#[]⟩] 9)) w.heap.size (fun _ => True) (.slice (some ⟨w.heap.size, 0, none⟩) 0 3) [] := by
    have h := World.ownsRow_made (base := w.heap.size) (e := 9) (size := 1) w #[.string ⟨#[]⟩, .string ⟨#[]⟩, .string ⟨#[]⟩] 3 (Nat.le_refl _) (by simp only [maxLen]; omega) (by simp)
    exact Kd.R_of_own (by simpa [encs] using h) (fun k hk => trivial)
  obtain ⟨W1, hst, hn1, hn2⟩ := tab_made (some ⟨w.heap.size, 0, none⟩) 0 3 (w.alloc (.cells #[.string ⟨#[]⟩, .string ⟨#[]⟩, .string ⟨#[]⟩] 9))
  have HT := Aside0.mk (Tb.start hWa w.heap.size hrow hn1 hn2)
  have hst' : (storeCells ⟨w.heap.size + 1, 0, none⟩ (Tryz.zeroCells258.toList.set 256 (.slice (some ⟨w.heap.size, 0, none⟩) 0 3))).run Tryz.prog ((w.alloc (.cells #[.string ⟨#[]⟩, .string ⟨#[]⟩, .string ⟨#[]⟩] 9)).alloc (.cells Tryz.zeroCells258 258)) = .ok () W1 := by
    simpa using hst
  have hpp : (w.alloc (.cells #[.string ⟨#[]⟩, .string ⟨#[]⟩, .string ⟨#[]⟩] 9)).heap.size = w.heap.size + 1 := by simp
  rw [hpp] at HT
  clear hst hn1 hn2 hWa hrow hpp
  go_enter Tryz.func124, Tryz.ntmps124
  go_wp2_with fail
  refine wp_loop_rounds 4 ?_
  rw [rounds_succ]
  go_wp2_with fail
  rw [rounds_succ]
  go_wp2_with fail
  rw [rounds_succ]
  go_wp2_with fail
  rw [rounds_succ]
  go_wp2_with fail
  clear hst' mk bd
  clear q0 q1 q2 q3 q4 q5
  refine wp_loop_rounds 4 ?_
  rw [rounds_succ]
  obtain ⟨v, hv⟩ : ∃ v, Value.slice (some ⟨w.heap.size, 0, none⟩) 0 3 = v := ⟨_, rfl⟩
  rw [hv] at HT
  clear hv
  obtain ⟨p, hp⟩ : ∃ p, w.heap.size + 1 = p := ⟨_, rfl⟩
  rw [hp]
  rw [hp] at HT
  clear hp
  have HS := Aside0.mk (H6.out.below HT.out.below)
  obtain ⟨q0, q1, q2, q3, q4, q5⟩ := HS.out
  obtain ⟨c0, z0, c1, z1⟩ := HT.out.cells 10 (by decide) (by decide)
  go_wp2_with (first | ((with_reducible refine gate_builtin (b := .append) (xs := #[.tmp 119, .tmp 123]) rfl ?_); at_builtin; refine Kd.R_append Kd.string (w0 := w) w.heap.size rfl (.tmp 119) (.tmp 123) 30 9 (.string ⟨#[]⟩) 16 rfl Tryz.underlying30 info9 rfl (by decide) (by omega) v ([] : List ByteArray) (one 10) [.string (strOfNums [10])] (fun _ => True) (fun _ => False) rfl (congrArg (fun n => Value.slice (some ⟨n, 0, none⟩) 1 1) (show W1.heap.size + 1 = (W1.alloc (.cells #[.int .u8 10] 5)).heap.size by simp)) ?aP (fun _ hk => hk.elim) ?aF ?aO ?aB ?aS ?aL ?_; (case aP => exact rfl); (case aF => exact (fun _ _ => trivial)); (case aO => exact Kd.R_alloc HT.out.row _); (case aB => exact below_alloc HT.out.below _); (case aS => exact (below_alloc HT.out.below _).size); (case aL => simp); intro v2 x0 ho hb hg hat; obtain ⟨A0, C0, hv, _, _⟩ := Kd.R_reads ho; have hv2 : v2 = .slice A0 1 C0 := hv; clear hv; subst hv2; obtain ⟨y0, hy0⟩ : ∃ y, x0.setCell ⟨p, 256, none⟩ (.slice A0 1 C0) = y := ⟨_, rfl⟩; obtain ⟨d0, d1, d2, d3⟩ := HT.out.after (o := 10) (by decide) (by decide) _ hg (.slice A0 1 C0) y0 hy0 ⟨#[92, 110]⟩; have HN := Aside0.mk (fun C => HT.out.round (o := 10) (by decide) (by decide) _ ho hb hg ⟨#[92, 110]⟩ (by decide) y0 hy0 C); clear ho hb hg hat HT; have HT := HN; clear HN q0 q1 q2 q3 q4 q5 c0 z0 c1 z1 HS))
  have HN := Aside0.mk (HT.out (grownCap y0 2 0 5))
  clear HT
  obtain ⟨W2, hW⟩ : ∃ W, (Lib.bytesWorld y0 5 ⟨#[92, 110]⟩).setCell ⟨p, 10, none⟩ (.slice (some ⟨y0.heap.size, 0, none⟩) 2 (grownCap y0 2 0 5)) = W := ⟨_, rfl⟩
  rw [hW] at HN
  have HT := HN
  rw [hW]
  clear HN hW hy0 d0 d1 d2 d3
  rw [rounds_succ]
  have HS := Aside0.mk (H6.out.below HT.out.below)
  obtain ⟨q0, q1, q2, q3, q4, q5⟩ := HS.out
  obtain ⟨c0, z0, c1, z1⟩ := HT.out.cells 9 (by decide) (by decide)
  go_wp2_with (first | ((with_reducible refine gate_builtin (b := .append) (xs := #[.tmp 119, .tmp 123]) rfl ?_); at_builtin; refine Kd.R_append Kd.string (w0 := w) w.heap.size rfl (.tmp 119) (.tmp 123) 30 9 (.string ⟨#[]⟩) 16 rfl Tryz.underlying30 info9 rfl (by decide) (by omega) (.slice A0 1 C0) ([one 10] : List ByteArray) (one 9) [.string (strOfNums [9])] (fun _ => True) (fun _ => False) rfl (congrArg (fun n => Value.slice (some ⟨n, 0, none⟩) 1 1) (show W2.heap.size + 1 = (W2.alloc (.cells #[.int .u8 9] 5)).heap.size by simp)) ?aP (fun _ hk => hk.elim) ?aF ?aO ?aB ?aS ?aL ?_; (case aP => exact rfl); (case aF => exact (fun _ _ => trivial)); (case aO => exact Kd.R_alloc HT.out.row _); (case aB => exact below_alloc HT.out.below _); (case aS => exact (below_alloc HT.out.below _).size); (case aL => simp); intro v3 x1 ho hb hg hat; obtain ⟨A1, C1, hv, _, _⟩ := Kd.R_reads ho; have hv2 : v3 = .slice A1 2 C1 := hv; clear hv; subst hv2; obtain ⟨y1, hy1⟩ : ∃ y, x1.setCell ⟨p, 256, none⟩ (.slice A1 2 C1) = y := ⟨_, rfl⟩; obtain ⟨d0, d1, d2, d3⟩ := HT.out.after (o := 9) (by decide) (by decide) _ hg (.slice A1 2 C1) y1 hy1 ⟨#[92, 116]⟩; have HN := Aside0.mk (fun C => HT.out.round (o := 9) (by decide) (by decide) _ ho hb hg ⟨#[92, 116]⟩ (by decide) y1 hy1 C); clear ho hb hg hat HT; have HT := HN; clear HN q0 q1 q2 q3 q4 q5 c0 z0 c1 z1 HS))
  have HN := Aside0.mk (HT.out (grownCap y1 2 0 5))
  clear HT
  obtain ⟨W3, hW⟩ : ∃ W, (Lib.bytesWorld y1 5 ⟨#[92, 116]⟩).setCell ⟨p, 9, none⟩ (.slice (some ⟨y1.heap.size, 0, none⟩) 2 (grownCap y1 2 0 5)) = W := ⟨_, rfl⟩
  rw [hW] at HN
  have HT := HN
  rw [hW]
  clear HN hW hy1 d0 d1 d2 d3
  rw [rounds_succ]
  have HS := Aside0.mk (H6.out.below HT.out.below)
  obtain ⟨q0, q1, q2, q3, q4, q5⟩ := HS.out
  obtain ⟨c0, z0, c1, z1⟩ := HT.out.cells 92 (by decide) (by decide)
  go_wp2_with (first | ((with_reducible refine gate_builtin (b := .append) (xs := #[.tmp 119, .tmp 123]) rfl ?_); at_builtin; refine Kd.R_append Kd.string (w0 := w) w.heap.size rfl (.tmp 119) (.tmp 123) 30 9 (.string ⟨#[]⟩) 16 rfl Tryz.underlying30 info9 rfl (by decide) (by omega) (.slice A1 2 C1) ([one 10, one 9] : List ByteArray) (one 92) [.string (strOfNums [92])] (fun _ => True) (fun _ => False) rfl (congrArg (fun n => Value.slice (some ⟨n, 0, none⟩) 1 1) (show W3.heap.size + 1 = (W3.alloc (.cells #[.int .u8 92] 5)).heap.size by simp)) ?aP (fun _ hk => hk.elim) ?aF ?aO ?aB ?aS ?aL ?_; (case aP => exact rfl); (case aF => exact (fun _ _ => trivial)); (case aO => exact Kd.R_alloc HT.out.row _); (case aB => exact below_alloc HT.out.below _); (case aS => exact (below_alloc HT.out.below _).size); (case aL => simp); intro v4 x2 ho hb hg hat; obtain ⟨A2, C2, hv, _, _⟩ := Kd.R_reads ho; have hv2 : v4 = .slice A2 3 C2 := hv; clear hv; subst hv2; obtain ⟨y2, hy2⟩ : ∃ y, x2.setCell ⟨p, 256, none⟩ (.slice A2 3 C2) = y := ⟨_, rfl⟩; obtain ⟨d0, d1, d2, d3⟩ := HT.out.after (o := 92) (by decide) (by decide) _ hg (.slice A2 3 C2) y2 hy2 ⟨#[92, 92]⟩; have HN := Aside0.mk (fun C => HT.out.round (o := 92) (by decide) (by decide) _ ho hb hg ⟨#[92, 92]⟩ (by decide) y2 hy2 C); clear ho hb hg hat HT; have HT := HN; clear HN q0 q1 q2 q3 q4 q5 c0 z0 c1 z1 HS))
  have HN := Aside0.mk (HT.out (grownCap y2 2 0 5))
  clear HT
  obtain ⟨W4, hW⟩ : ∃ W, (Lib.bytesWorld y2 5 ⟨#[92, 92]⟩).setCell ⟨p, 92, none⟩ (.slice (some ⟨y2.heap.size, 0, none⟩) 2 (grownCap y2 2 0 5)) = W := ⟨_, rfl⟩
  rw [hW] at HN
  have HT := HN
  rw [hW]
  clear HN hW hy2 d0 d1 d2 d3
  rw [rounds_succ]
  go_wp2_with fail
  go_ret
  exact ⟨p, _, rfl, HT.out⟩
end Rep
end Go.Proofs.YthbdjmopolpjmaaGreatDoor.C
end
section
set_option linter.unusedVariables false
set_option linter.unusedSimpArgs false
namespace Go.Proofs.YthbdjmopolpjmaaGreatDoor.C
open Go.RowKit Go.Proofs.YthbdjmopolpjmaaGreatDoorW.PrintWords Go.Proofs.YthbdjmopolpjmaaGreatDoorW.PrintLast Go.Proofs.YthbdjmopolpjmaaGreatDoorW.PrintMore Go.Proofs.YthbdjmopolpjmaaGreatDoor.F Go.Proofs.YthbdjmopolpjmaaGreatDoor.M
namespace Rep
def six : List ByteArray := [⟨#[92]⟩, ⟨#[92, 92]⟩, ⟨#[9]⟩, ⟨#[92, 116]⟩, ⟨#[10]⟩, ⟨#[92, 110]⟩]
def Rp (g : Nat) (r : Value) (W : World) : Prop := ∃ p, r = .iface 259 (.pointer (some ⟨p, 0, none⟩)) ∧ p ≠ g ∧ ∃ C : Array Value, W.heap[p]? = some (.cells C 258 (0, 0)) ∧ (∀ j, j < 256 → j ∉ [10, 9, 92] → C[j]? = some (.slice none 0 0)) ∧
  (∀ o : Nat, o ∈ [10, 9, 92] → ∃ b c, C[o]? = some (.slice (some ⟨b, 0, none⟩) 2 c) ∧ b ≠ g ∧ ByB W b (escN o)) ∧
  ∃ t c, C[256]? = some (.slice (some ⟨t, 0, none⟩) 3 c) ∧ t ≠ g ∧ (∃ cs fr, W.heap[t]? = some (.cells cs 9 fr) ∧ cs[0]? = some (.string (one 10)) ∧ cs[1]? = some (.string (one 9)) ∧ cs[2]? = some (.string (one 92)))
theorem rp_stays (g : Nat) : Once.Stays g (Rp g) := by
  intro r W W' h _ hh
  obtain ⟨p, rfl, hp, C, h1, h2, h3, t, c, h4, h5, cs, fr, h6, h7⟩ := h
  refine ⟨p, rfl, hp, C, (hh p hp).trans h1, h2, fun o ho => ?_, t, c, h4, h5, cs, fr, (hh t h5).trans h6, h7⟩
  obtain ⟨b, c', e1, e2, e3⟩ := h3 o ho
  exact ⟨b, c', e1, e2, e3.same (hh b e2)⟩
theorem Tb.rp {w W : World} {p : Nat} {v : Value} {g : Nat} (h : Tb w W p v [10, 9, 92]) (hg : g < w.heap.size) : Rp g (.iface 259 (.pointer (some ⟨p, 0, none⟩))) W := by
  obtain ⟨C, h1, h2, h3, h4, h5⟩ := h.tab
  have hp := h.hp
  refine ⟨p, rfl, by omega, C, h1, h4, fun o ho => ?_, ?_⟩
  · obtain ⟨b, c, e1, e2, e3⟩ := h5 o ho
    exact ⟨b, c, e1, by omega, e3⟩
  · have ho := Kd.own_of_R h.row
    rcases ho.2 with ⟨_, he⟩ | ⟨t, cap, cur, rfl, ht, hh, hl, hm, hx⟩
    · exact absurd he (by simp)
    · have hx2 := hx.2
      refine ⟨t, cap, h3, by omega, cur, _, hh, ?_⟩
      have key : ∀ j (hj : j < 3), cur[j]? = (encs Value.string (([10, 9, 92] : List Nat).map one))[j]? := by
        intro j hj
        rw [← hx2, List.getElem?_take]
        simp [hj]
      exact ⟨(key 0 (by omega)).trans rfl, (key 1 (by omega)).trans rfl, (key 2 (by omega)).trans rfl⟩
set_option maxRecDepth 100000 in
set_option maxHeartbeats 1600000 in
theorem once_call (g b c : Nat) (W : World) (hb : W.heap[g]? = some (Once.ob 0 1 .nilIface (.slice (some ⟨b, 0, none⟩) 6 c))) (h6 : Six W b) :
    Calls Tryz.prog 88 #[.pointer (some ⟨g, 0, none⟩)] W fun e W' => e = .returned (.tuple #[]) ∧ ∃ r o', W'.heap[g]? = some (Once.ob 0 1 r o') ∧ Rp g r W' ∧ Chg (fun k => k = g) W W' := by
  have HH := Aside0.mk (And.intro hb h6)
  unfold Once.ob at hb
  have c4 := Aside0.mk (show W.cell? ⟨g, 4, none⟩ = some (.slice (some ⟨b, 0, none⟩) 6 c) from (blk_cell hb 4).trans rfl)
  clear hb h6
  go_enter Tryz.func88, Tryz.ntmps88
  go_wp2_with fail
  refine (build_call g b c _ c4.out HH.out.2).mono ?_
  rintro e w1 ⟨p, v, rfl, hT⟩
  have hb1 : w1.heap[g]? = some (.cells #[.int .u32 0, .int .i32 1, .int .u32 0, .nilIface, .slice (some ⟨b, 0, none⟩) 6 c] 143 (0, 0)) := blk_below HH.out.1 hT.below
  have d3 : w1.cell? ⟨g, 3, none⟩ = some .nilIface := (blk_cell hb1 3).trans rfl
  have z3 : w1.frozen? ⟨g, 3, none⟩ = false := blk_frozen hb1 3
  have hb2 : (w1.setCell ⟨g, 3, none⟩ (.iface 259 (.pointer (some ⟨p, 0, none⟩)))).heap[g]? = some (.cells #[.int .u32 0, .int .i32 1, .int .u32 0, .iface 259 (.pointer (some ⟨p, 0, none⟩)), .slice (some ⟨b, 0, none⟩) 6 c] 143 (0, 0)) := blk_set hb1 3 _
  obtain ⟨w2, hw2⟩ : ∃ w2, w1.setCell ⟨g, 3, none⟩ (.iface 259 (.pointer (some ⟨p, 0, none⟩))) = w2 := ⟨_, rfl⟩
  rw [hw2] at hb2
  have d4 : w2.cell? ⟨g, 4, none⟩ = some (.slice (some ⟨b, 0, none⟩) 6 c) := (blk_cell hb2 4).trans rfl
  have z4 : w2.frozen? ⟨g, 4, none⟩ = false := blk_frozen hb2 4
  have hb3 : (w2.setCell ⟨g, 4, none⟩ (.slice none 0 0)).heap[g]? = some (Once.ob 0 1 (.iface 259 (.pointer (some ⟨p, 0, none⟩))) (.slice none 0 0)) := blk_set hb2 4 _
  have hg : g < W.heap.size := blk_lt HH.out.1
  have hfin : Rp g (.iface 259 (.pointer (some ⟨p, 0, none⟩))) (w2.setCell ⟨g, 4, none⟩ (.slice none 0 0)) ∧ Chg (fun k => k = g) W (w2.setCell ⟨g, 4, none⟩ (.slice none 0 0)) := by
    refine ⟨rp_stays g _ _ _ (hT.rp hg) ?_ ?_, ?_⟩
    · rw [Once.set_os, ← hw2, Once.set_os]
    · intro i hi
      rw [← hw2]
      exact (Once.set_other _ g 4 _ i hi).trans (Once.set_other _ g 3 _ i hi)
    · rw [← hw2]
      exact Chg.setCell (S := fun k => k = g) (Chg.setCell (S := fun k => k = g) (Chg.of_below hT.below) ⟨g, 3, none⟩ (.inl rfl) _) ⟨g, 4, none⟩ (.inl rfl) _
  have HF := Aside0.mk (And.intro hb3 hfin)
  clear hb1 hb2 hb3 hfin hT hg
  go_wp2_with fail
  go_end0
  exact ⟨rfl, _, _, HF.out.1, HF.out.2.1, HF.out.2.2⟩
set_option maxRecDepth 100000 in
set_option maxHeartbeats 1600000 in
theorem newReplacer_call (A : Option Addr) (c : Nat) (w : World) (hC : Kd.string.C w A 6 six) :
    Calls Tryz.prog 54 #[.slice A 6 c] w fun e W' => ∃ g b c', e = .returned (.pointer (some ⟨g, 0, none⟩)) ∧ W'.heap[g]? = some (Once.ob 0 0 .nilIface (.slice (some ⟨b, 0, none⟩) 6 c')) ∧ b ≠ g ∧ Six W' b ∧ w.heap.size ≤ g ∧ Below w.heap.size w W' := by
  have HC := Aside0.mk hC
  clear hC
  go_enter Tryz.func54, Tryz.ntmps54
  go_wp2_with (first | ((with_reducible refine gate_builtin (b := .append) (xs := #[.const (.slice none 0 0), .tmp 8]) rfl ?_); at_builtin; refine Kd.R_append_rows Kd.string (w0 := w) w.heap.size rfl (.const (.slice none 0 0)) (.tmp 8) 30 9 (.string ⟨#[]⟩) 16 rfl Tryz.underlying30 info9 rfl (by decide) (by omega) (.slice none 0 0) ([] : List ByteArray) six _ _ _ (fun _ => True) (fun _ => False) rfl rfl ?aO ?aR (fun _ _ h => h) (fun _ h => h.elim) ?aF ?aB ?aS ?aL ?_; (case aR => exact HC.out); (case aB => exact Below.refl _ _); (case aF => exact (fun _ _ => trivial)); (case aO => exact ((Kd.R_nil _ _ _ _ (fun _ => True)))); (case aS => exact Nat.le_refl _); (case aL => decide); intro v2 w2 ho hb hg hat; obtain ⟨A2, c2, hv, _, _⟩ := Kd.R_reads ho; have hv2 : v2 = .slice A2 6 c2 := hv; clear hv; subst hv2; have HN := Aside0.mk (And.intro ho hb); clear ho hb hg hat))
  go_ret
  have ho := Kd.own_of_R HN.out.1
  rcases ho.2 with ⟨_, he⟩ | ⟨t, cap, cur, hv, ht, hh, hl, hm, hx⟩
  · exact absurd he (by decide)
  · injection hv with e1 e2 e3
    subst e1 e3
    have hx2 := hx.2
    have key : ∀ j (hj : j < 6), cur[j]? = (encs Value.string six)[j]? := by
      intro j hj
      have h1 : (cur.toList.take 6)[j]? = (encs Value.string ([] ++ six))[j]? := by rw [← hx2]; rfl
      rw [List.getElem?_take] at h1
      simp [hj] at h1
      rw [h1]
    have hlt : t < w2.heap.size := blk_lt hh
    refine ⟨w2.heap.size, t, c2, rfl, blk_new _ _, by omega, ?_, HN.out.2.size, below_alloc HN.out.2 _⟩
    have hk : ∀ j (hj : j < 6), (w2.alloc (.cells #[.int .u32 0, .int .i32 0, .int .u32 0, .nilIface, .slice (some ⟨t, 0, none⟩) 6 c2] 143)).cell? ⟨t, j, none⟩ = (encs Value.string six)[j]? := fun j hj => (blk_cell (blk_alloc hh _) j).trans (key j hj)
    exact ⟨(hk 0 (by omega)).trans rfl, (hk 1 (by omega)).trans rfl, (hk 2 (by omega)).trans rfl, (hk 3 (by omega)).trans rfl, (hk 4 (by omega)).trans rfl, (hk 5 (by omega)).trans rfl⟩
end Rep
end Go.Proofs.YthbdjmopolpjmaaGreatDoor.C
end
section
set_option linter.unusedVariables false
set_option linter.unusedSimpArgs false
namespace Go.Proofs.YthbdjmopolpjmaaGreatDoor.M
open Go.RowKit Go.Proofs.YthbdjmopolpjmaaGreatDoorW.PrintWords Go.Proofs.YthbdjmopolpjmaaGreatDoorW.PrintLast Go.Proofs.YthbdjmopolpjmaaGreatDoorW.PrintMore Go.Proofs.YthbdjmopolpjmaaGreatDoor.F Go.Proofs.YthbdjmopolpjmaaGreatDoor.C
theorem escN_plain {c : Int} (h1 : c ≠ 92) (h2 : c ≠ 9) (h3 : c ≠ 10) : escN c = [c] := by unfold escN; rw [if_neg h1, if_neg h2, if_neg h3]
theorem escN_two {c : Int} (h : c = 92 ∨ c = 9 ∨ c = 10) : (escN c).length = 2 := by
  rcases h with rfl | rfl | rfl <;> rfl
theorem escL_cons (c : Int) (l : List Int) : escL (c :: l) = escN c ++ escL l := by simp [escL]
theorem escL_same : ∀ {l : List Int}, (escL l).length = l.length → escL l = l
  | [], _ => rfl
  | c :: l, h => by
    rw [escL_cons] at h ⊢
    rw [List.length_append, List.length_cons] at h
    have h1 := escN_len c
    have h2 := (escL_len l).1
    have h3 : (escN c).length = 1 := by omega
    have h4 : (escL l).length = l.length := by omega
    rw [escL_same h4]
    by_cases hc : c = 92 ∨ c = 9 ∨ c = 10
    · rw [escN_two hc] at h3; omega
    · rw [escN_plain (fun e => hc (.inl e)) (fun e => hc (.inr (.inl e))) (fun e => hc (.inr (.inr e)))]
      rfl
theorem esc_same {s : ByteArray} (h : (escL (bytesOf s)).length = s.size) : esc s = s := by
  unfold esc
  rw [escL_same (by rw [bytesOf_length]; exact h), strOfNums_bytesOf]
theorem count_cons (l : List UInt8) (b c : UInt8) : Lib.countByte (b :: l) c = Lib.countByte l c + (if b = c then 1 else 0) := by
  unfold Lib.countByte
  rw [List.count_cons]
  by_cases h : b = c <;> simp [h]
theorem esc_count (s : ByteArray) : (escL (bytesOf s)).length = s.size + Lib.countByte s.data.toList 10 + Lib.countByte s.data.toList 9 + Lib.countByte s.data.toList 92 := by
  have key : ∀ l : List UInt8, (escL (l.map fun b => (b.toNat : Int))).length = l.length + Lib.countByte l 10 + Lib.countByte l 9 + Lib.countByte l 92 := by
    intro l
    induction l with
    | nil => rfl
    | cons b l ih =>
      rw [List.map_cons, escL_cons, List.length_append, ih, count_cons, count_cons, count_cons, List.length_cons]
      by_cases h10 : b = 10
      · subst h10; simp [escN]; omega
      · by_cases h9 : b = 9
        · subst h9; simp [escN]; omega
        · by_cases h92 : b = 92
          · subst h92; simp [escN]; omega
          · have h0 : ∀ c : UInt8, b ≠ c → (b.toNat : Int) ≠ (c.toNat : Int) := fun c hc he => hc (UInt8.toNat_inj.1 (by omega))
            rw [escN_plain (h0 92 h92) (h0 9 h9) (h0 10 h10), if_neg h10, if_neg h9, if_neg h92]
            simp
            omega
  rw [← data_length]
  exact key s.data.toList
end Go.Proofs.YthbdjmopolpjmaaGreatDoor.M
end
section
namespace Go.Proofs
open Go.Shelf
def Tryz.lays156_ren : Go.Shelf.Ren := ⟨fun | 156 => 56 | 165 => 89 | 166 => 90 | 169 => 91 | 240 => 125 | 241 => 126 | 276 => 171 | 277 => 172 | n => n, fun | 31 => 30 | 9 => 9 | 3 => 3 | 4 => 4 | 0 => 0 | 20 => 20 | 72 => 147 | 76 => 149 | 70 => 145 | 37 => 50 | 75 => 44 | 127 => 199 | 164 => 113 | 5 => 5 | 80 => 89 | n => n, fun | n => n⟩
theorem Tryz.lays156 : Go.Proofs.Lays.n156 Tryz.prog Tryz.lays156_ren := {
  mixed := by kernel_rfl
  f156 := Tryz.func56.trans (congrArg some (by kernel_rfl))
  f165 := Tryz.func89.trans (congrArg some (by kernel_rfl))
  f166 := Tryz.func90.trans (congrArg some (by kernel_rfl))
  f169 := Tryz.func91.trans (congrArg some (by kernel_rfl))
  f240 := Tryz.func125.trans (congrArg some (by kernel_rfl))
  f241 := Tryz.func126.trans (congrArg some (by kernel_rfl))
  f276 := Tryz.func171.trans (congrArg some (by kernel_rfl))
  f277 := Tryz.func172.trans (congrArg some (by kernel_rfl))
  t0 := Tryz.underlying0
  a0 := Tryz.isAgg0
  z0 := Tryz.sizeOf0
  v0 := Tryz.zeroValue0
  t3 := Tryz.underlying3
  a3 := Tryz.isAgg3
  z3 := Tryz.sizeOf3
  v3 := Tryz.zeroValue3
  t4 := Tryz.underlying4
  a4 := Tryz.isAgg4
  z4 := Tryz.sizeOf4
  v4 := Tryz.zeroValue4
  t9 := Tryz.underlying9
  a9 := Tryz.isAgg9
  z9 := Tryz.sizeOf9
  v9 := Tryz.zeroValue9
  t20 := Tryz.underlying20
  a20 := Tryz.isAgg20
  z20 := Tryz.sizeOf20
  v20 := Tryz.zeroValue20
  t31 := Tryz.underlying30
  a31 := Tryz.isAgg30
  z31 := Tryz.sizeOf30
  v31 := Tryz.zeroValue30
  t37 := Tryz.underlying50
  a37 := Tryz.isAgg50
  z37 := Tryz.sizeOf50
  v37 := Tryz.zeroValue50
  t70 := Tryz.underlying145
  a70 := Tryz.isAgg145
  z70 := Tryz.sizeOf145
  v70 := Tryz.zeroValue145
  t72 := Tryz.underlying147
  a72 := Tryz.isAgg147
  z72 := Tryz.sizeOf147
  v72 := Tryz.zeroValue147
  t75 := Tryz.underlying44
  a75 := Tryz.isAgg44
  z75 := Tryz.sizeOf44
  v75 := Tryz.zeroValue44
  t76 := Tryz.underlying149
  a76 := Tryz.isAgg149
  z76 := Tryz.sizeOf149
  v76 := Tryz.zeroValue149
  t127 := Tryz.underlying199
  a127 := Tryz.isAgg199
  z127 := Tryz.sizeOf199
  v127 := Tryz.zeroValue199
  t164 := Tryz.underlying113
  a164 := Tryz.isAgg113
  z164 := Tryz.sizeOf113
  v164 := Tryz.zeroValue113 }
theorem Tryz.Builder_Extra_156 : Builder.Extra Tryz.prog Tryz.lays156_ren := {
  sizeBuilder := by kernel_rfl
  liesBuilder := by kernel_rfl
  t5 := Tryz.underlying5
  a5 := Tryz.isAgg5
  z5 := Tryz.sizeOf5
  v5 := Tryz.zeroValue5
  infoByte := by kernel_rfl
  cellsByte := by kernel_rfl
  sizeByte := by kernel_rfl
  neB5 := by decide }
open Go.RowKit in
theorem Tryz.strings_Join (bk o c : Nat) (xs : List ByteArray) (sep : ByteArray) (w : World) (hcells : ∀ (j : Nat) x, xs[j]? = some x → w.cell? ⟨bk, o + j, none⟩ = some (.string x)) (hbk : bk < w.heap.size) (hN : xs.length ≤ 140737488355328) (hcap : xs.length ≤ c) (hlen : (Lib.join (xs.map (·.data.toList)) sep.data.toList).length ≤ 140737488355328) :
    Calls Tryz.prog 56 #[.slice (some ⟨bk, o, none⟩) xs.length c, .string sep] w fun e w' => e = .returned (.string ⟨(Lib.join (xs.map (·.data.toList)) sep.data.toList).toArray⟩) ∧ Below w.heap.size w w' := Any.strings_Join Tryz.lays156 Tryz.Builder_Extra_156 bk o c xs sep w hcells hbk hN hcap hlen
def Tryz.laysM171_ren : Go.Shelf.Ren := ⟨fun | 171 => 31 | 243 => 62 | 246 => 105 | 283 => 135 | 284 => 136 | 285 => 137 | 286 => 138 | 129 => 104 | 317 => 180 | 318 => 181 | 319 => 182 | 320 => 183 | 337 => 218 | 338 => 219 | n => n, fun | 3 => 3 | 9 => 9 | 2 => 2 | 4 => 4 | 171 => 209 | 0 => 0 | 53 => 162 | 37 => 50 | 5 => 5 | 173 => 211 | 212 => 271 | 51 => 131 | 20 => 20 | 213 => 272 | 46 => 97 | 232 => 326 | 233 => 327 | n => n, fun | 17 => 3 | 18 => 6 | 19 => 7 | n => n⟩
theorem Tryz.laysM171 : Go.Proofs.LaysM.n171 Tryz.prog Tryz.laysM171_ren := {
  mixed := by kernel_rfl
  f129 := Tryz.func104.trans (congrArg some (by kernel_rfl))
  f171 := Tryz.func31.trans (congrArg some (by kernel_rfl))
  f243 := Tryz.func62.trans (congrArg some (by kernel_rfl))
  f246 := Tryz.func105.trans (congrArg some (by kernel_rfl))
  f283 := Tryz.func135.trans (congrArg some (by kernel_rfl))
  f284 := Tryz.func136.trans (congrArg some (by kernel_rfl))
  f285 := Tryz.func137.trans (congrArg some (by kernel_rfl))
  f286 := Tryz.func138.trans (congrArg some (by kernel_rfl))
  f317 := Tryz.func180.trans (congrArg some (by kernel_rfl))
  f318 := Tryz.func181.trans (congrArg some (by kernel_rfl))
  f319 := Tryz.func182.trans (congrArg some (by kernel_rfl))
  f320 := Tryz.func183.trans (congrArg some (by kernel_rfl))
  f337 := Tryz.func218.trans (congrArg some (by kernel_rfl))
  f338 := Tryz.func219.trans (congrArg some (by kernel_rfl))
  t0 := Tryz.underlying0
  a0 := Tryz.isAgg0
  z0 := Tryz.sizeOf0
  v0 := Tryz.zeroValue0
  t2 := Tryz.underlying2
  a2 := Tryz.isAgg2
  z2 := Tryz.sizeOf2
  v2 := Tryz.zeroValue2
  t3 := Tryz.underlying3
  a3 := Tryz.isAgg3
  z3 := Tryz.sizeOf3
  v3 := Tryz.zeroValue3
  t4 := Tryz.underlying4
  a4 := Tryz.isAgg4
  z4 := Tryz.sizeOf4
  v4 := Tryz.zeroValue4
  t5 := Tryz.underlying5
  a5 := Tryz.isAgg5
  z5 := Tryz.sizeOf5
  v5 := Tryz.zeroValue5
  t9 := Tryz.underlying9
  a9 := Tryz.isAgg9
  z9 := Tryz.sizeOf9
  v9 := Tryz.zeroValue9
  t20 := Tryz.underlying20
  a20 := Tryz.isAgg20
  z20 := Tryz.sizeOf20
  v20 := Tryz.zeroValue20
  t37 := Tryz.underlying50
  a37 := Tryz.isAgg50
  z37 := Tryz.sizeOf50
  v37 := Tryz.zeroValue50
  t46 := Tryz.underlying97
  a46 := Tryz.isAgg97
  z46 := Tryz.sizeOf97
  v46 := Tryz.zeroValue97
  t51 := Tryz.underlying131
  a51 := Tryz.isAgg131
  z51 := Tryz.sizeOf131
  v51 := Tryz.zeroValue131
  t53 := Tryz.underlying162
  a53 := Tryz.isAgg162
  z53 := Tryz.sizeOf162
  v53 := Tryz.zeroValue162
  t171 := Tryz.underlying209
  a171 := Tryz.isAgg209
  z171 := Tryz.sizeOf209
  v171 := Tryz.zeroValue209
  t173 := Tryz.underlying211
  a173 := Tryz.isAgg211
  z173 := Tryz.sizeOf211
  v173 := Tryz.zeroValue211
  t212 := Tryz.underlying271
  a212 := Tryz.isAgg271
  z212 := Tryz.sizeOf271
  v212 := Tryz.zeroValue271
  t213 := Tryz.underlying272
  a213 := Tryz.isAgg272
  z213 := Tryz.sizeOf272
  t232 := Tryz.underlying326
  a232 := Tryz.isAgg326
  z232 := Tryz.sizeOf326
  v232 := Tryz.zeroValue326
  t233 := Tryz.underlying327
  a233 := Tryz.isAgg327
  z233 := Tryz.sizeOf327
  v233 := Tryz.zeroValue327
  g17 := by kernel_rfl
  g18 := by kernel_rfl
  g19 := by kernel_rfl
  i0 := by kernel_rfl
  i2 := by kernel_rfl
  i3 := by kernel_rfl
  i4 := by kernel_rfl
  i5 := by kernel_rfl
  i9 := by kernel_rfl
  i20 := by kernel_rfl
  i37 := by kernel_rfl
  i46 := by kernel_rfl
  i51 := by kernel_rfl
  i53 := by kernel_rfl
  i171 := by kernel_rfl
  i173 := by kernel_rfl
  i212 := by kernel_rfl
  i232 := by kernel_rfl
  i233 := by kernel_rfl
  m17 := by kernel_rfl
  m18 := by kernel_rfl
  m19 := by kernel_rfl }
open Go.RowKit Go.Sort Go.Lib in
theorem Tryz.strconv_Itoa (n : Int) (h0 : -9223372036854775808 ≤ n) (h1 : n ≤ 9223372036854775807) (w : World) (htab : Lib.TabIs Tryz.prog w "internal/strconv.uint64pow10" .u64 Lib.pow10Tab) :
    Calls Tryz.prog 31 #[.int .i64 n] w fun e w' => e = .returned (.string ⟨(Lib.itoa n).toArray⟩) ∧ ∃ k os, w' = grow (w.drewN k) os := Any.strconv_Itoa Tryz.laysM171 n h0 h1 w htab
def Tryz.lays138_ren : Go.Shelf.Ren := ⟨fun | 138 => 36 | 195 => 66 | 218 => 67 | 143 => 68 | 219 => 106 | 217 => 139 | 225 => 140 | 224 => 141 | 267 => 142 | 266 => 184 | 314 => 185 | n => n, fun | 9 => 9 | 3 => 3 | 4 => 4 | 5 => 5 | 0 => 0 | 46 => 97 | 146 => 273 | 51 => 131 | n => n, fun | 1 => 2 | n => n⟩
theorem Tryz.lays138 : Go.Proofs.Lays.n138 Tryz.prog Tryz.lays138_ren := {
  mixed := by kernel_rfl
  f138 := Tryz.func36.trans (congrArg some (by kernel_rfl))
  f143 := Tryz.func68.trans (congrArg some (by kernel_rfl))
  f195 := Tryz.func66.trans (congrArg some (by kernel_rfl))
  f217 := Tryz.func139.trans (congrArg some (by kernel_rfl))
  f218 := Tryz.func67.trans (congrArg some (by kernel_rfl))
  f219 := Tryz.func106.trans (congrArg some (by kernel_rfl))
  f224 := Tryz.func141.trans (congrArg some (by kernel_rfl))
  f225 := Tryz.func140.trans (congrArg some (by kernel_rfl))
  f266 := Tryz.func184.trans (congrArg some (by kernel_rfl))
  f267 := Tryz.func142.trans (congrArg some (by kernel_rfl))
  f314 := Tryz.func185.trans (congrArg some (by kernel_rfl))
  t0 := Tryz.underlying0
  a0 := Tryz.isAgg0
  z0 := Tryz.sizeOf0
  v0 := Tryz.zeroValue0
  t3 := Tryz.underlying3
  a3 := Tryz.isAgg3
  z3 := Tryz.sizeOf3
  v3 := Tryz.zeroValue3
  t4 := Tryz.underlying4
  a4 := Tryz.isAgg4
  z4 := Tryz.sizeOf4
  v4 := Tryz.zeroValue4
  t5 := Tryz.underlying5
  a5 := Tryz.isAgg5
  z5 := Tryz.sizeOf5
  v5 := Tryz.zeroValue5
  t9 := Tryz.underlying9
  a9 := Tryz.isAgg9
  z9 := Tryz.sizeOf9
  v9 := Tryz.zeroValue9
  t46 := Tryz.underlying97
  a46 := Tryz.isAgg97
  z46 := Tryz.sizeOf97
  v46 := Tryz.zeroValue97
  t51 := Tryz.underlying131
  a51 := Tryz.isAgg131
  z51 := Tryz.sizeOf131
  v51 := Tryz.zeroValue131
  t146 := Tryz.underlying273
  a146 := Tryz.isAgg273
  z146 := Tryz.sizeOf273
  v146 := Tryz.zeroValue273
  g1 := by kernel_rfl }
open Go.RowKit Go.Lib in
theorem Tryz.strings_Count_one (s : ByteArray) (c : UInt8) (w : World) :
    Calls Tryz.prog 36 #[.string s, .string ⟨#[c]⟩] w fun e w' => e = .returned (.int .i64 (Lib.countByte s.data.toList c)) ∧ w' = w := Any.strings_Count_one Tryz.lays138 s c w
end Go.Proofs
end
section
set_option linter.unusedVariables false
set_option linter.unusedSimpArgs false
namespace Go.Proofs.YthbdjmopolpjmaaGreatDoor.C
open Go.RowKit Go.Proofs.YthbdjmopolpjmaaGreatDoorW.PrintWords Go.Proofs.YthbdjmopolpjmaaGreatDoorW.PrintLast Go.Proofs.YthbdjmopolpjmaaGreatDoorW.PrintMore Go.Proofs.YthbdjmopolpjmaaGreatDoor.F Go.Proofs.YthbdjmopolpjmaaGreatDoor.M
def bufL (E : Nat) (l : List Int) : List Value := nums .u8 l ++ List.replicate (E - l.length) (.int .u8 0)
def Bf (W : World) (q E : Nat) (l : List Int) : Prop := W.heap[q]? = some (.cells (bufL E l).toArray 5 (0, 0)) ∧ l.length ≤ E
theorem bufL_length {E : Nat} {l : List Int} (h : l.length ≤ E) : (bufL E l).length = E := by simp [bufL, nums]; omega
theorem Bf.start (W : World) (E : Nat) : Bf (W.alloc (.cells (madeCells #[.int .u8 0] E) 5)) W.heap.size E [] := by
  refine ⟨?_, by simp⟩
  rw [blk_new]
  congr 2
  apply Array.ext
  · simp [bufL, nums, size_madeCells]
  · intro i h1 h2
    have h1' : i < E := by simpa [size_madeCells] using h1
    simp [bufL, nums, madeCells]
    rw [Nat.mod_one]
    rfl
theorem Bf.store {W : World} {q E : Nat} {l : List Int} (h : Bf W q E l) (hl : l.length < E) (x : Int) : Bf (W.setCell ⟨q, l.length, none⟩ (.int .u8 x)) q E (l ++ [x]) := by
  refine ⟨?_, by simp; omega⟩
  have h1 := blk_set h.1 l.length (.int .u8 x)
  rw [h1]
  congr 2
  obtain ⟨m, hm⟩ : ∃ m, E - l.length = m + 1 := ⟨E - l.length - 1, by omega⟩
  have hm2 : E - (l ++ [x]).length = m := by simp; omega
  simp only [List.setIfInBounds_toArray]
  congr 1
  unfold bufL
  rw [hm, hm2, nums_append, List.replicate_succ, List.set_append_right _ _ (by simp [nums])]
  simp [nums]
theorem Bf.copy {W : World} {q E : Nat} {l l2 : List Int} (h : Bf W q E l) (hl : l.length + l2.length ≤ E) : Bf (W.setRow q ((bufL E l).toArray.toList.take l.length ++ nums .u8 l2 ++ (bufL E l).toArray.toList.drop (l.length + (nums .u8 l2).length)).toArray) q E (l ++ l2) := by
  refine ⟨?_, by simp; omega⟩
  rw [setRow_heap W q _ _ 5 _ h.1]
  congr 3
  unfold bufL
  have e1 : (nums .u8 l).length = l.length := nums_length _ _
  have e2 : (nums .u8 l2).length = l2.length := nums_length _ _
  rw [List.take_left' e1, e2, List.drop_append, nums_append, List.drop_of_length_le (by omega), e1, List.nil_append, List.drop_replicate]
  congr 2
  simp
  omega
theorem Bf.cell {W : World} {q E : Nat} {l : List Int} (h : Bf W q E l) (j : Nat) (hj : j < l.length) : W.cell? ⟨q, j, none⟩ = some (.int .u8 (l.getD j 0)) := by
  rw [blk_cell h.1 j]
  simp [bufL, nums, List.getElem?_append, hj, List.getD_eq_getElem?_getD]
theorem Bf.at_ {W : World} {q E : Nat} {l : List Int} (h : Bf W q E l) (j : Nat) (hj : j < E) : ∃ v, W.cell? ⟨q, j, none⟩ = some v ∧ W.frozen? ⟨q, j, none⟩ = false := by
  have hlen : j < (bufL E l).length := by rw [bufL_length h.2]; exact hj
  exact ⟨_, (blk_cell h.1 j).trans (by rw [List.getElem?_toArray, List.getElem?_eq_getElem hlen]), blk_frozen h.1 j⟩
theorem Bf.conv {W : World} {q E : Nat} {l : List Int} (h : Bf W q E l) (hl : l.length = E) : (convert 50 9 (.slice (some ⟨q, 0, none⟩) E E)).run Tryz.prog W = .ok (.string (strOfNums l)) W := by
  refine run_convert_bytes_arg W 50 5 Tryz.underlying50 Tryz.underlying5 q 0 E E l hl (fun i hi => ?_) 9 Tryz.underlying9
  rw [Nat.zero_add]
  exact h.cell i (by omega)
theorem Bf.lt {W : World} {q E : Nat} {l : List Int} (h : Bf W q E l) : q < W.heap.size := blk_lt h.1
theorem Bf.drew {W : World} {q E : Nat} {l : List Int} (h : Bf W q E l) : Bf W.drew q E l := h
theorem Bf.run_copy {W : World} {q E : Nat} {l l2 : List Int} (h : Bf W q E l) (hl : l.length + l2.length ≤ E) (b c sLen : Nat) (hs : sLen = l2.length) (hc : ∀ j, j < l2.length → W.cell? ⟨b, j, none⟩ = some (.int .u8 (l2.getD j 0))) (dLen dCap : Nat) (hd : dLen = E - l.length) (ty : TypeId) :
    ∃ W2, (Builtin.copy_ #[50, 50] ty #[.slice (some ⟨q, l.length, none⟩) dLen dCap, .slice (some ⟨b, 0, none⟩) sLen c]).run Tryz.prog W = .ok (goInt sLen) W2 ∧ Bf W2 q E (l ++ l2) ∧ (∀ B w0, B ≤ q → Below B w0 W → Below B w0 W2) := by
  have hr := run_copy_row (P := Tryz.prog) W 50 50 ty 5 q l.length dLen dCap ⟨b, 0, none⟩ sLen c (bufL E l).toArray 5 (nums .u8 l2) Tryz.underlying50 (by
      have h5 := info5
      obtain ⟨i, hi, hz⟩ := Option.map_eq_some_iff.1 h5
      rw [hi]
      simp only [Prod.mk.injEq] at hz
      simp [hz.2.1]) h.1 (by rw [nums_length, hs, hd]; exact (Nat.min_eq_left (by omega)).symm) (fun j v hj => by
      rw [add_plain]
      have hjl : j < l2.length := by
        have := (List.getElem?_eq_some_iff.1 hj).1
        rw [nums_length] at this
        exact this
      rw [hc j hjl, ← hj]
      simp [nums, List.getD_eq_getElem?_getD, List.getElem?_eq_getElem hjl]) (by simp [bufL_length h.2, nums_length]; omega) (fun v hv => by
      unfold nums at hv
      obtain ⟨x, _, rfl⟩ := List.mem_map.1 hv
      rfl)
  refine ⟨_, hr.trans ?_, h.copy hl, fun B w0 hB hb => ?_⟩
  · rw [nums_length, hs]
  · exact hb.trans ⟨rfl, rfl, rfl, by simp [World.setRow], fun k hk => setRow_other W q k _ (by omega)⟩
end Go.Proofs.YthbdjmopolpjmaaGreatDoor.C
end
