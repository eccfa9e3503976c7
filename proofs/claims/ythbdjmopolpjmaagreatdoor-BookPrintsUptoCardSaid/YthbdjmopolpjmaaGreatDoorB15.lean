/- Part 15 of the proof: CRead, CPrint, CRefRat, CRefPrint, CCan, COnce, COnce2. -/
import Derived.ChangeAlike
import Derived.Deep.RegionWith
import Derived.Defers
import Derived.Laws.LoneSync
import Derived.Laws.Pointers
import Derived.RegionCalls
import Derived.RegionTactic
import Derived.Tactics
import Derived.Tactics2
import Derived.Test.YthbdjmopolpjmaaGreatDoorB00
import Derived.Test.YthbdjmopolpjmaaGreatDoorB01
import Derived.Test.YthbdjmopolpjmaaGreatDoorB02
import Derived.Test.YthbdjmopolpjmaaGreatDoorB03
import Derived.Test.YthbdjmopolpjmaaGreatDoorB04
import Derived.Test.YthbdjmopolpjmaaGreatDoorB05
import Derived.Test.YthbdjmopolpjmaaGreatDoorB06
import Derived.Test.YthbdjmopolpjmaaGreatDoorB07
import Derived.Test.YthbdjmopolpjmaaGreatDoorB08
import Derived.Test.YthbdjmopolpjmaaGreatDoorB09
import Derived.Test.YthbdjmopolpjmaaGreatDoorB10
import Derived.Test.YthbdjmopolpjmaaGreatDoorB11
import Derived.Test.YthbdjmopolpjmaaGreatDoorB12
import Derived.Test.YthbdjmopolpjmaaGreatDoorB13
import Derived.Test.YthbdjmopolpjmaaGreatDoorB14
section
set_option linter.unusedVariables false
set_option linter.unusedSimpArgs false
namespace Go.Proofs.YthbdjmopolpjmaaGreatDoor.C
open Go.RowKit Go.Proofs.YthbdjmopolpjmaaGreatDoorW.PrintWords Go.Proofs.YthbdjmopolpjmaaGreatDoorW.PrintLast Go.Proofs.YthbdjmopolpjmaaGreatDoorW.PrintMore Go.Proofs.YthbdjmopolpjmaaGreatDoor.F Go.Proofs.YthbdjmopolpjmaaGreatDoor.M
attribute [local go_sem] max2_int min2_int max_two min_two max_three min_three max_four min_four
def RatR (n d : ByteArray) : Prop := WholeR n ∧ NatR d ∧ dv d ≠ 0 ∧ gcdI (dv (body n)) (dv d) = 1
def WholeAns (s : ByteArray) (w : World) (p : Option Addr) : Prop := (WholeR s ∧ ∃ g xs, p = some ⟨g, 0, none⟩ ∧ IntB w g (minus s) xs ∧ Wd xs ∧ val 4294967296 xs = dv (body s)) ∨ (¬ WholeR s ∧ p = none)
def NatAns (s : ByteArray) (w : World) (p : Option Addr) : Prop := (NatR s ∧ ∃ g xs, p = some ⟨g, 0, none⟩ ∧ IntB w g false xs ∧ Wd xs ∧ val 4294967296 xs = dv s) ∨ (¬ NatR s ∧ p = none)
theorem WholeAns.below {s : ByteArray} {w w1 : World} {p : Option Addr} (h : WholeAns s w p) (hb : Below w.heap.size w w1) : WholeAns s w1 p := by
  rcases h with ⟨h, g, xs, h1, h2, h3⟩ | h
  · exact .inl ⟨h, g, xs, h1, h2.below hb, h3⟩
  · exact .inr h
theorem NatAns.below {s : ByteArray} {w w1 : World} {p : Option Addr} (h : NatAns s w p) (hb : Below w.heap.size w w1) : NatAns s w1 p := by
  rcases h with ⟨h, g, xs, h1, h2, h3⟩ | h
  · exact .inl ⟨h, g, xs, h1, h2.below hb, h3⟩
  · exact .inr h
theorem natural_any (s : ByteArray) (w : World) : Calls Tryz.prog 112 #[.string s] w fun e w' => ∃ p, e = .returned (.pointer p) ∧ NatAns s w' p ∧ Below w.heap.size w w' := by
  by_cases h : NatR s
  · exact (natural_yes s w h).mono fun e w' ⟨g, xs, he, _, h1, h2, h3, h4⟩ => ⟨_, he, .inl ⟨h, g, xs, rfl, h1, h2, h3⟩, h4⟩
  · exact (natural_no s w h).mono fun e w' ⟨he, h4⟩ => ⟨_, he, .inr ⟨h, rfl⟩, h4⟩
set_option maxHeartbeats 1000000 in
set_option maxRecDepth 100000 in
theorem whole_no (s : ByteArray) (w : World) (h : ¬ WholeR s) : Calls Tryz.prog 111 #[.string s] w fun e w' => e = .returned (.pointer none) ∧ Below w.heap.size w w' := by
  have HK := Aside0.mk h
  obtain ⟨m, hm⟩ : ∃ m, minus s = m := ⟨_, rfl⟩
  have HC := Aside0.mk (cutPrefix_is s)
  have HM := Aside0.mk hm
  clear h hm
  by_cases hn : NatR (body s)
  · have HN := Aside0.mk hn
    have hm2 : m = true := by
      cases m with
      | true => rfl
      | false => exact absurd ⟨hn, fun h => by rw [HM.out] at h; cases h⟩ HK.out
    have hz : dv (body s) = 0 := Classical.byContradiction fun h => HK.out ⟨hn, fun _ => h⟩
    have HZ := Aside0.mk hz
    subst hm2
    clear hn hz
    go_enter Tryz.func111, Tryz.ntmps111
    go_wp2_with fail
    refine (strings_CutPrefix.calls s ⟨#[45]⟩ (body s) true _ (by rw [HC.out, HM.out])).mono ?_
    rintro e w1 ⟨rfl, h1⟩
    have hb1 := h1.below
    have HF := Aside0.mk hb1
    clear h1 hb1
    go_wp2_with fail
    refine (natural_yes (body s) _ HN.out).mono ?_
    rintro e w2 ⟨g, xs, rfl, h1, h2, h3, h4, h5⟩
    have hx : xs = [] := by rw [HZ.out] at h4; exact (h3.zero).1 h4
    have hs : sgn false xs = 0 := by rw [hx]; rfl
    have HG := Aside0.mk (And.intro h2 (And.intro hs (below_then HF.out HF.out.size h5)))
    clear h1 h2 h3 h4 h5 hx hs
    go_wp2_with fail
    refine (sign_call g 0 false xs _ HG.out.1.c).mono ?_
    rintro e w' ⟨rfl, rfl⟩
    rw [HG.out.2.1]
    go_wp2_with fail
    go_ret
    exact ⟨rfl, HG.out.2.2⟩
  · have HN := Aside0.mk hn
    clear hn
    go_enter Tryz.func111, Tryz.ntmps111
    go_wp2_with fail
    refine (strings_CutPrefix.calls s ⟨#[45]⟩ (body s) m _ (by rw [HC.out, HM.out])).mono ?_
    rintro e w1 ⟨rfl, h1⟩
    have hb1 := h1.below
    have HF := Aside0.mk hb1
    clear h1 hb1
    go_wp2_with fail
    refine (natural_no (body s) _ HN.out).mono ?_
    rintro e w2 ⟨rfl, h1⟩
    have HG := Aside0.mk (below_then HF.out HF.out.size h1)
    clear h1
    go_wp2_with fail
    go_ret
    exact ⟨rfl, HG.out⟩
theorem whole_any (s : ByteArray) (w : World) : Calls Tryz.prog 111 #[.string s] w fun e w' => ∃ p, e = .returned (.pointer p) ∧ WholeAns s w' p ∧ Below w.heap.size w w' := by
  by_cases h : WholeR s
  · exact (whole_yes s w h).mono fun e w' ⟨g, xs, he, _, h1, h2, h3, h4⟩ => ⟨_, he, .inl ⟨h, g, xs, rfl, h1, h2, h3⟩, h4⟩
  · exact (whole_no s w h).mono fun e w' ⟨he, h4⟩ => ⟨_, he, .inr ⟨h, rfl⟩, h4⟩
set_option maxHeartbeats 1000000 in
set_option maxRecDepth 100000 in
theorem read_call (n d : ByteArray) (w : World) : Calls Tryz.prog 79 #[.agg #[.string n, .string d]] w fun e w' => ∃ p, e = .returned (.pointer p) ∧ (p.isSome = true ↔ RatR n d) ∧ Below w.heap.size w w' := by
  go_enter Tryz.func79, Tryz.ntmps79
  go_wp2_with fail
  go_cut [3, 4] (fun v3 v4 wc => ∃ p q, v3 = .pointer p ∧ v4 = .pointer q ∧ Aside0 (WholeAns n wc p ∧ NatAns d wc q ∧ Below w.heap.size w wc))
  case first =>
    go_region_with ((first
      | (go_at_call 111; refine (whole_any n _).mono ?_; rintro e w1 ⟨p, rfl, h1, h2⟩; have c0 := cell_later (a := ⟨w.heap.size, 0, none⟩) (v := .string n) h2 (by first | assumption | simp); have c1 := cell_later (a := ⟨w.heap.size, 1, none⟩) (v := .string d) h2 (by first | assumption | simp); have HF := Aside0.mk (And.intro h1 h2); clear h1 h2)
      | (go_at_call 112; refine (natural_any d _).mono ?_; rintro e w2 ⟨q, rfl, h1, h2⟩; have c0 := cell_later (a := ⟨w.heap.size, 0, none⟩) (v := .string n) h2 (by first | assumption | simp); have c1 := cell_later (a := ⟨w.heap.size, 1, none⟩) (v := .string d) h2 (by first | assumption | simp); have HG := Aside0.mk (And.intro h1 h2); clear h1 h2)))
    all_goals (go_wp2_with fail; go_simp; go_meet)
    all_goals (first
      | exact ⟨p, q, rfl, rfl, ⟨HF.out.1.below HG.out.2, HG.out.1, below_then (below_then (below_drew (below_alloc (Below.refl _ _) _)) (by simp) HF.out.2) (by have := HF.out.2.size; simp at this; omega) HG.out.2⟩⟩
      | exact ⟨p, q, rfl, rfl, ⟨HF.out.1, HG.out.1.below HF.out.2, below_then (below_then (below_drew (below_alloc (Below.refl _ _) _)) (by simp) HG.out.2) (by have := HG.out.2.size; simp at this; omega) HF.out.2⟩⟩)
  case rest =>
    obtain ⟨p, q, rfl, rfl, HC⟩ := hcut
    rcases HC.out.1 with ⟨hw, gx, xs, rfl, hx, wx, vx⟩ | ⟨hw, rfl⟩
    · rcases HC.out.2.1 with ⟨hn, gy, ys, rfl, hy, wy, vy⟩ | ⟨hn, rfl⟩
      · have HX := Aside0.mk (And.intro hw (And.intro hn (And.intro hx (And.intro hy (And.intro wx (And.intro wy (And.intro vx vy)))))))
        clear hw hn hx hy wx wy vx vy
        go_wp2_with fail
        refine (sign_call gy 0 false ys _ HX.out.2.2.2.1.c).mono ?_
        rintro e w' ⟨rfl, rfl⟩
        by_cases hz : ys = []
        · have hs : sgn false ys = 0 := by rw [hz]; rfl
          rw [hs]
          have HZ := Aside0.mk (show dv d = 0 by rw [← HX.out.2.2.2.2.2.2.2, hz]; rfl)
          clear hz hs
          go_wp2_with fail
          go_ret
          exact ⟨none, rfl, ⟨fun h => by simp at h, fun h => absurd HZ.out h.2.2.1⟩, HC.out.2.2⟩
        · have hs : sgn false ys = 1 := by simp [sgn, hz]
          rw [hs]
          have HZ := Aside0.mk hz
          clear hz hs
          go_wp2_with fail
          have hB2 : Below wc.heap.size wc ((wc.alloc (Obj.cells #[Value.bool false, Value.slice none 0 0] 173)).alloc (Obj.cells #[Value.bool false, Value.slice none 0 0] 173)) := below_alloc (below_alloc (Below.refl _ _) _) _
          have HB2 := Aside0.mk hB2
          clear hB2
          refine (abs_call (wc.heap.size + 1) gx 0 (minus n) xs _ _ _ (by simpa using blk_new (wc.alloc (.cells #[.bool false, .slice none 0 0] 173)) (.cells #[.bool false, .slice none 0 0] 173)) (HX.out.2.2.1.below HB2.out).c HX.out.2.2.2.2.1).mono ?_
          rintro e w3 ⟨rfl, h1, h2⟩
          have h3 : Below wc.heap.size wc w3 := (Chg.from_below HB2.out h2).below (fun k hk => by subst hk; omega)
          have hz0 : w3.heap[wc.heap.size]? = some (.cells #[.bool false, .slice none 0 0] 173 (0, 0)) := h2.blk (by
            have h := blk_new wc (.cells #[.bool false, .slice none 0 0] 173)
            exact ((below_alloc (Below.refl _ _) (.cells #[.bool false, .slice none 0 0] 173)).block _ (blk_lt h)).trans h) (by omega)
          have H3 := Aside0.mk (And.intro h1 (And.intro h3 hz0))
          clear h1 h2 h3 hz0
          go_wp2_with fail
          refine (gcd_call wc.heap.size (wc.heap.size + 1) gy 0 0 false false xs ys _ _ _ _ _ H3.out.2.2 H3.out.1.c (HX.out.2.2.2.1.below H3.out.2.1).c HX.out.2.2.2.2.1 HX.out.2.2.2.2.2.1).mono ?_
          rintro e w4 ⟨gs, rfl, h1, h2, h3, h4⟩
          have H4 := Aside0.mk (And.intro h1 (And.intro h2 (And.intro h3 ((Chg.from_below H3.out.2.1 h4).below (fun k hk => by subst hk; exact Nat.le_refl _)))))
          clear h1 h2 h3 h4
          go_wp2_with fail
          refine (newInt_call 1 w4 (by omega) (by omega)).mono ?_
          rintro e w5 ⟨g1, os, rfl, h1, h2, h3, h4, h5⟩
          have H5 := Aside0.mk (And.intro (H4.out.1.below h5) (And.intro h2 (And.intro h3 (And.intro h4 (below_then H4.out.2.2.2 H4.out.2.2.2.size h5)))))
          clear h1 h2 h3 h4 h5
          obtain ⟨z, hz⟩ : ∃ z, cmpI (num false gs) (num false os) = z := ⟨_, rfl⟩
          go_wp2_with fail
          refine (cmp_call wc.heap.size 0 g1 0 false false gs os w5 H5.out.1.c H5.out.2.1.c H4.out.2.1 H5.out.2.2.1 (fun h => by cases h) (fun h => by cases h)).mono ?_
          rintro e w6 ⟨rfl, h1⟩
          rw [hz]
          have hG : z = cmpI (gcdI (dv (body n)) (dv d)) 1 := by rw [← hz]; simp only [num, H4.out.2.2.1, H5.out.2.2.2.1, HX.out.2.2.2.2.2.2.1, HX.out.2.2.2.2.2.2.2]; rfl
          have h2 := h1.below
          have H6 := Aside0.mk (And.intro hG (below_then H5.out.2.2.2.2 H5.out.2.2.2.2.size h2))
          clear h1 h2 hG hz
          by_cases hz : z = 0
          · have hz1 : (z == 0) = true := beq_iff_eq.mpr hz
            have hz2 : (z != 0) = false := bne_eq_false_iff_eq.mpr hz
            have HZ2 := Aside0.mk hz
            clear hz
            go_wp2_with fail
            refine (setFrac_call w6.heap.size gx 0 gy 0 (minus n) false xs ys _ _ _ _ _ (blk_new w6 _) ((HX.out.2.2.1.below H6.out.2).below (below_alloc (Below.refl _ _) _)).c ((HX.out.2.2.2.1.below H6.out.2).below (below_alloc (Below.refl _ _) _)).c HX.out.2.2.2.2.1 HX.out.2.2.2.2.2.1 HZ.out).mono ?_
            rintro e w7 ⟨ps, qs, rfl, h1, h2, h3⟩
            have H7 := Aside0.mk ((Chg.from_below (below_alloc (Below.refl _ _) _) h3).below (fun k hk => by subst hk; exact Nat.le_refl _))
            clear h1 h2 h3
            go_wp2_with fail
            go_ret
            refine ⟨_, rfl, ⟨fun _ => ⟨HX.out.1, HX.out.2.1, ?_, ?_⟩, fun _ => rfl⟩, below_then HC.out.2.2 HC.out.2.2.size (below_then H6.out.2 H6.out.2.size H7.out)⟩
            · rw [← HX.out.2.2.2.2.2.2.2]
              have := HX.out.2.2.2.2.2.1.pos HZ.out
              omega
            · have h := H6.out.1
              rw [HZ2.out] at h
              unfold cmpI at h
              split at h
              · omega
              · split at h
                · assumption
                · omega
          · have hz1 : (z == 0) = false := beq_eq_false_iff_ne.mpr hz
            have hz2 : (z != 0) = true := bne_iff_ne.mpr hz
            have HZ2 := Aside0.mk hz
            clear hz
            go_wp2_with fail
            go_ret
            refine ⟨none, rfl, ⟨fun h => by simp at h, fun h => ?_⟩, below_then HC.out.2.2 HC.out.2.2.size H6.out.2⟩
            have h1 := H6.out.1
            rw [h.2.2.2] at h1
            exact absurd h1 HZ2.out
      · have HN := Aside0.mk hn
        clear hn hw hx wx vx
        go_wp2_with fail
        go_ret
        exact ⟨none, rfl, ⟨fun h => by simp at h, fun h => absurd h.2.1 HN.out⟩, HC.out.2.2⟩
    · have HN := Aside0.mk hw
      clear hw
      go_wp2_with fail
      go_ret
      exact ⟨none, rfl, ⟨fun h => by simp at h, fun h => absurd h.1 HN.out⟩, HC.out.2.2⟩
set_option maxHeartbeats 1000000 in
set_option maxRecDepth 100000 in
theorem right_call (n d : ByteArray) (w : World) : Calls Tryz.prog 43 #[.agg #[.string n, .string d]] w fun e w' => ∃ b, e = .returned (.bool b) ∧ (b = true ↔ RatR n d) ∧ Below w.heap.size w w' := by
  go_enter Tryz.func43, Tryz.ntmps43
  go_wp2_with fail
  refine (read_call n d _).mono ?_
  rintro e w1 ⟨p, rfl, h1, h2⟩
  have HF := Aside0.mk (And.intro h1 (below_then (below_alloc (Below.refl w.heap.size w) (.cells #[.string n, .string d] 39)) (by simp) h2))
  clear h1 h2
  go_wp2_with fail
  go_ret
  refine ⟨p.isSome, ?_, HF.out⟩
  cases p <;> rfl
end Go.Proofs.YthbdjmopolpjmaaGreatDoor.C
end
section
set_option linter.unusedVariables false
set_option linter.unusedSimpArgs false
namespace Go.Proofs.YthbdjmopolpjmaaGreatDoor.C
open Go.RowKit Go.Proofs.YthbdjmopolpjmaaGreatDoorW.PrintWords Go.Proofs.YthbdjmopolpjmaaGreatDoorW.PrintLast Go.Proofs.YthbdjmopolpjmaaGreatDoorW.PrintMore Go.Proofs.YthbdjmopolpjmaaGreatDoor.F Go.Proofs.YthbdjmopolpjmaaGreatDoor.M
attribute [local go_sem] max2_int min2_int max_two min_two max_three min_three max_four min_four
def ratT (n d : ByteArray) : ByteArray := if (d.toList == [49]) = true then n else n ++ ⟨#[47]⟩ ++ d
theorem body_size (s : ByteArray) : s.size ≤ (body s).size + 1 := by
  unfold body
  split
  · simp only [ByteArray.size_extract]; omega
  · omega
theorem RatR.sizes {n d : ByteArray} (h : RatR n d) : n.size ≤ 601 ∧ d.size ≤ 600 := by
  have h1 := h.1.1.2.1
  have h2 := h.2.1.2.1
  have := body_size n
  omega
set_option maxHeartbeats 1000000 in
set_option maxRecDepth 100000 in
theorem ratPrint_yes (n d : ByteArray) (w : World) (h : RatR n d) : Calls Tryz.prog 121 #[.agg #[.string n, .string d]] w fun e w' => e = .returned (.tuple #[.string (ratT n d), .int .i64 0]) ∧ Below w.heap.size w w' := by
  have hs := h.sizes
  have l1 : ¬ 9223372036854775807 < n.size + 1 := by omega
  have l2 : ¬ 9223372036854775807 < n.size + 1 + d.size := by omega
  have HR := Aside0.mk h
  clear hs h
  go_enter Tryz.func121, Tryz.ntmps121
  go_wp2_with fail
  refine (right_call n d _).mono ?_
  rintro e w1 ⟨b, rfl, h1, h2⟩
  obtain rfl := h1.2 HR.out
  have c0 := cell_later (a := ⟨w.heap.size, 0, none⟩) (v := .string n) h2 (by simp)
  have c1 := cell_later (a := ⟨w.heap.size, 1, none⟩) (v := .string d) h2 (by simp)
  have HF := Aside0.mk (below_then (below_alloc (Below.refl w.heap.size w) (.cells #[.string n, .string d] 39)) (by simp) h2)
  clear h1 h2
  by_cases hd : (d.toList == [49]) = true
  · have HD := Aside0.mk hd
    go_wp2_with fail
    go_ret2
    have e : ratT n d = n := if_pos HD.out
    exact ⟨by rw [e]; rfl, HF.out⟩
  · have HD := Aside0.mk hd
    have hd2 : (d.toList == [49]) = false := Bool.eq_false_iff.mpr hd
    clear hd
    go_wp2_with fail
    go_ret2
    have e : ratT n d = n ++ ⟨#[47]⟩ ++ d := if_neg HD.out
    exact ⟨by rw [e]; rfl, HF.out⟩
set_option maxHeartbeats 1000000 in
set_option maxRecDepth 100000 in
theorem number_yes (n d : ByteArray) (w : World) (h : RatR n d) : Calls Tryz.prog 86 #[.agg #[.string n, .string d]] w fun e w' => e = .returned (.string (ratT n d)) ∧ Below w.heap.size w w' := by
  have HR := Aside0.mk h
  clear h
  go_enter Tryz.func86, Tryz.ntmps86
  go_wp2_with fail
  refine (ratPrint_yes n d _ HR.out).mono ?_
  rintro e w1 ⟨rfl, h2⟩
  have HF := Aside0.mk (below_then (below_alloc (Below.refl w.heap.size w) (.cells #[.string n, .string d] 39)) (by simp) h2)
  clear h2
  go_wp2_with fail
  go_ret
  exact ⟨rfl, HF.out⟩
end Go.Proofs.YthbdjmopolpjmaaGreatDoor.C
end
section
set_option linter.unusedVariables false
set_option linter.unusedSimpArgs false
namespace Go.Proofs.YthbdjmopolpjmaaGreatDoor.C
open Go.RowKit Go.Proofs.YthbdjmopolpjmaaGreatDoorW.PrintWords Go.Proofs.YthbdjmopolpjmaaGreatDoorW.PrintLast Go.Proofs.YthbdjmopolpjmaaGreatDoorW.PrintMore Go.Proofs.YthbdjmopolpjmaaGreatDoor.F Go.Proofs.YthbdjmopolpjmaaGreatDoor.M
attribute [local go_sem] max2_int min2_int max_two min_two max_three min_three max_four min_four
theorem toList_pos {s : ByteArray} (h : 0 < s.size) : s.toList.isEmpty = false := by
  rw [ByteArray.toList_eq]
  have h1 := data_length s
  cases hh : s.data.toList with
  | nil => rw [hh] at h1; simp at h1; omega
  | cons a b => rfl
theorem toList_zero {s : ByteArray} (h : s.size = 0) : s.toList.isEmpty = true := by
  rw [ByteArray.toList_eq]
  have h1 := data_length s
  rw [List.isEmpty_iff]
  exact List.eq_nil_of_length_eq_zero (by omega)
theorem is_zero_text {s : ByteArray} (h : (s.toList == [48]) = true) : s = ⟨#[48]⟩ := by
  rw [ByteArray.toList_eq] at h
  have e2 : s.data.toList = [48] := by simpa using h
  cases s; rename_i a; cases a; simpa using e2
def Tail (n d s : ByteArray) : Prop := RatR n d ↔ (NatR s ∧ NatR d ∧ dv d ≠ 0 ∧ gcdI (dv s) (dv d) = 1)
theorem tail_plain {n d : ByteArray} (h : minus n = false) : Tail n d n := by
  have hb : body n = n := by unfold body; rw [h]; rfl
  unfold Tail RatR WholeR
  rw [hb, h]
  simp
theorem tail_minus {n d : ByteArray} (h : minus n = true) (h0 : ((body n).toList == [48]) = false) : Tail n d (body n) := by
  unfold Tail RatR WholeR
  refine ⟨fun h1 => ⟨h1.1.1, h1.2⟩, fun h1 => ⟨⟨h1.1, fun _ hz => ?_⟩, h1.2⟩⟩
  have := (canon_is h1.1.canon 48 (by decide) (by decide)).2 (by rw [hz]; rfl)
  rw [h0] at this
  cases this
theorem minus_zero {n d : ByteArray} (h : minus n = true) (h0 : ((body n).toList == [48]) = true) : ¬ RatR n d := by
  intro h1
  refine h1.1.2 h ?_
  rw [is_zero_text h0]
  rfl
set_option maxHeartbeats 2000000 in
set_option maxRecDepth 100000 in
theorem refRight_call (n d : ByteArray) (w : World) : Calls Tryz.prog 57 #[.agg #[.string n, .string d]] w fun e w' => ∃ b, e = .returned (.bool b) ∧ (b = true ↔ RatR n d) ∧ Below w.heap.size w w' := by
  obtain ⟨b2, he2, hb2⟩ := refNatR_tells d
  obtain ⟨k2, hk2⟩ := he2.rounds
  have HD := Aside0.mk (And.intro hk2 hb2)
  clear he2 hk2 hb2
  have hB0 : Below w.heap.size w (w.alloc (.cells #[.string n, .string d] 39)) := below_alloc (Below.refl _ _) _
  have hc1 : (w.alloc (.cells #[.string n, .string d] 39)).cell? ⟨w.heap.size, 1, none⟩ = some (.string d) := by simp
  have hc0 : (w.alloc (.cells #[.string n, .string d] 39)).cell? ⟨w.heap.size, 0, none⟩ = some (.string n) := by simp
  obtain ⟨W, hW⟩ : ∃ W, w.alloc (.cells #[.string n, .string d] 39) = W := ⟨_, rfl⟩
  rw [hW] at hB0 hc0 hc1
  have HB := Aside0.mk hB0
  clear hB0
  by_cases hm : minus n = true
  · have hmm : 0 < n.size ∧ bt n 0 = 45 := by unfold minus at hm; exact of_decide_eq_true hm
    have q0 := eq_true hmm.1
    have qe := toList_pos hmm.1
    have hx : ∀ h : 0 < n.size, ((n[0]'h).toNat : Int) = bt n 0 := bt_at n 0
    have h45 : ((bt n 0) == 45) = true := beq_iff_eq.mpr hmm.2
    have hbody : body n = n.extract 1 n.size := by unfold body; rw [if_pos hm]
    obtain ⟨s, hs⟩ : ∃ s, n.extract 1 n.size = s := ⟨_, rfl⟩
    have hbs : body n = s := hbody.trans hs
    have hsl : ∀ W, (Instr.slice 9 (.string n) (some (.int .i64 1)) none none).run Tryz.prog W = .ok (.string s) W := by
      intro W
      have h := run_slice_string_from_if (P := Tryz.prog) W 9 n .i64 1 Tryz.underlying9
      rw [h]
      simp [hs]
      omega
    have HM := Aside0.mk (And.intro hm hbs)
    obtain ⟨b1, he1, hb1⟩ := refNatR_tells s
    obtain ⟨k1, hk1⟩ := he1.rounds
    have HK := Aside0.mk (And.intro hk1 hb1)
    clear he1 hk1 hb1 hmm hm hbody hs hbs
    by_cases h0 : (s.toList == [48]) = true
    · have H0 := Aside0.mk h0
      go_enter Tryz.func57, Tryz.ntmps57
      go_wp2_with fail
      go_ret
      refine ⟨false, rfl, ⟨(fun h => by cases h), fun h => absurd h (minus_zero HM.out.1 (by rw [HM.out.2]; exact H0.out))⟩, HB.out⟩
    · have h01 : (s.toList == [48]) = false := Bool.eq_false_iff.mpr h0
      have HT := Aside0.mk (show Tail n d s by have h := tail_minus (n := n) (d := d) HM.out.1 (by rw [HM.out.2]; exact h01); rwa [HM.out.2] at h)
      clear h0
      go_enter Tryz.func57, Tryz.ntmps57
      go_wp2_with fail
      refine (cubitref01_Right.calls _ s b1 _ HK.out.1).mono ?_
      rintro e w1 ⟨rfl, h1⟩
      have hb1 := h1.below
      have hc2 := cell_later hb1 hc1
      have H1 := Aside0.mk (below_then HB.out HB.out.size hb1)
      clear h1 hb1 hc0 hc1 hW
      cases b1 with
      | false =>
        go_wp2_with fail
        go_ret
        exact ⟨false, rfl, ⟨(fun h => by cases h), fun h => absurd (HK.out.2.2 ((HT.out.1 h).1)) (by simp)⟩, H1.out⟩
      | true =>
        go_wp2_with fail
        refine (cubitref01_Right.calls _ d b2 _ HD.out.1).mono ?_
        rintro e w2 ⟨rfl, h1⟩
        have hb2 := h1.below
        have hc3 := cell_later hb2 hc2
        have H2 := Aside0.mk (below_then H1.out H1.out.size hb2)
        clear h1 hb2 hc2
        cases b2 with
        | false =>
          go_wp2_with fail
          go_ret
          exact ⟨false, rfl, ⟨(fun h => by cases h), fun h => absurd (HD.out.2.2 ((HT.out.1 h).2.1)) (by simp)⟩, H2.out⟩
        | true =>
          have hcs : NatR s := HK.out.2.1 (by first | rfl | trivial)
          have hcd : NatR d := HD.out.2.1 (by first | rfl | trivial)
          have hd0 := canon_is hcd.canon 48 (by decide) (by decide)
          have HC := Aside0.mk (And.intro hcs hcd)
          by_cases hz : (d.toList == [48]) = true
          · have hz2 : (d.toList != [48]) = false := by rw [bne, hz]; rfl
            have HZ := Aside0.mk (show dv d = 0 from by rw [hd0.1 hz]; rfl)
            clear hcs hcd hd0
            go_wp2_with fail
            go_ret
            exact ⟨false, rfl, ⟨(fun h => by cases h), fun h => absurd HZ.out ((HT.out.1 h).2.2.1)⟩, H2.out⟩
          · have hz1 : (d.toList == [48]) = false := Bool.eq_false_iff.mpr hz
            have hz2 : (d.toList != [48]) = true := by rw [bne, hz1]; rfl
            have HZ := Aside0.mk (show dv d ≠ 0 from fun h => hz (hd0.2 (by rw [h]; rfl)))
            clear hcs hcd hd0 hz
            go_wp2_with fail
            refine (common_call s d _ HC.out.1.canon HC.out.2.canon (by have := HC.out.1.2.1; omega) (by have := HC.out.2.2.1; omega)).mono ?_
            rintro e w3 ⟨g, rfl, h1, h2, h3⟩
            have hg1 := canon_is h1 49 (by decide) (by decide)
            have H3 := Aside0.mk (And.intro h2 (And.intro hg1 (below_then H2.out H2.out.size h3)))
            clear h1 h2 h3 hg1
            by_cases hg : (g.toList == [49]) = true
            · have HG := Aside0.mk hg
              go_wp2_with fail
              go_ret
              exact ⟨true, rfl, ⟨fun _ => HT.out.2 ⟨HC.out.1, HC.out.2, HZ.out, by rw [← H3.out.1, H3.out.2.1.1 HG.out]; rfl⟩, fun _ => rfl⟩, H3.out.2.2⟩
            · have hg2 : (g.toList == [49]) = false := Bool.eq_false_iff.mpr hg
              have HG := Aside0.mk hg
              clear hg
              go_wp2_with fail
              go_ret
              exact ⟨false, rfl, ⟨(fun h => by cases h), fun h => absurd (H3.out.2.1.2 (by rw [H3.out.1, (HT.out.1 h).2.2.2]; rfl)) HG.out⟩, H3.out.2.2⟩
  · have hm2 : minus n = false := Bool.eq_false_iff.mpr hm
    have HT := Aside0.mk (tail_plain (d := d) hm2)
    obtain ⟨b1, he1, hb1⟩ := refNatR_tells n
    obtain ⟨k1, hk1⟩ := he1.rounds
    have HK := Aside0.mk (And.intro hk1 hb1)
    clear he1 hk1 hb1 hm2
    by_cases hz : n.size = 0
    · have qe := toList_zero hz
      clear hm hz
      go_enter Tryz.func57, Tryz.ntmps57
      go_wp2_with fail
      refine (cubitref01_Right.calls _ n b1 _ HK.out.1).mono ?_
      rintro e w1 ⟨rfl, h1⟩
      have hb1 := h1.below
      have hc2 := cell_later hb1 hc1
      have H1 := Aside0.mk (below_then HB.out HB.out.size hb1)
      clear h1 hb1 hc0 hc1 hW
      cases b1 with
      | false =>
        go_wp2_with fail
        go_ret
        exact ⟨false, rfl, ⟨(fun h => by cases h), fun h => absurd (HK.out.2.2 ((HT.out.1 h).1)) (by simp)⟩, H1.out⟩
      | true =>
        go_wp2_with fail
        refine (cubitref01_Right.calls _ d b2 _ HD.out.1).mono ?_
        rintro e w2 ⟨rfl, h1⟩
        have hb2 := h1.below
        have hc3 := cell_later hb2 hc2
        have H2 := Aside0.mk (below_then H1.out H1.out.size hb2)
        clear h1 hb2 hc2
        cases b2 with
        | false =>
          go_wp2_with fail
          go_ret
          exact ⟨false, rfl, ⟨(fun h => by cases h), fun h => absurd (HD.out.2.2 ((HT.out.1 h).2.1)) (by simp)⟩, H2.out⟩
        | true =>
          have hcs : NatR n := HK.out.2.1 (by first | rfl | trivial)
          have hcd : NatR d := HD.out.2.1 (by first | rfl | trivial)
          have hd0 := canon_is hcd.canon 48 (by decide) (by decide)
          have HC := Aside0.mk (And.intro hcs hcd)
          by_cases hz : (d.toList == [48]) = true
          · have hz2 : (d.toList != [48]) = false := by rw [bne, hz]; rfl
            have HZ := Aside0.mk (show dv d = 0 from by rw [hd0.1 hz]; rfl)
            clear hcs hcd hd0
            go_wp2_with fail
            go_ret
            exact ⟨false, rfl, ⟨(fun h => by cases h), fun h => absurd HZ.out ((HT.out.1 h).2.2.1)⟩, H2.out⟩
          · have hz1 : (d.toList == [48]) = false := Bool.eq_false_iff.mpr hz
            have hz2 : (d.toList != [48]) = true := by rw [bne, hz1]; rfl
            have HZ := Aside0.mk (show dv d ≠ 0 from fun h => hz (hd0.2 (by rw [h]; rfl)))
            clear hcs hcd hd0 hz
            go_wp2_with fail
            refine (common_call n d _ HC.out.1.canon HC.out.2.canon (by have := HC.out.1.2.1; omega) (by have := HC.out.2.2.1; omega)).mono ?_
            rintro e w3 ⟨g, rfl, h1, h2, h3⟩
            have hg1 := canon_is h1 49 (by decide) (by decide)
            have H3 := Aside0.mk (And.intro h2 (And.intro hg1 (below_then H2.out H2.out.size h3)))
            clear h1 h2 h3 hg1
            by_cases hg : (g.toList == [49]) = true
            · have HG := Aside0.mk hg
              go_wp2_with fail
              go_ret
              exact ⟨true, rfl, ⟨fun _ => HT.out.2 ⟨HC.out.1, HC.out.2, HZ.out, by rw [← H3.out.1, H3.out.2.1.1 HG.out]; rfl⟩, fun _ => rfl⟩, H3.out.2.2⟩
            · have hg2 : (g.toList == [49]) = false := Bool.eq_false_iff.mpr hg
              have HG := Aside0.mk hg
              clear hg
              go_wp2_with fail
              go_ret
              exact ⟨false, rfl, ⟨(fun h => by cases h), fun h => absurd (H3.out.2.1.2 (by rw [H3.out.1, (HT.out.1 h).2.2.2]; rfl)) HG.out⟩, H3.out.2.2⟩
    · have qe := toList_pos (show 0 < n.size by omega)
      have q0 := eq_true (show 0 < n.size by omega)
      have hx : ∀ h : 0 < n.size, ((n[0]'h).toNat : Int) = bt n 0 := bt_at n 0
      have h45 : ((bt n 0) == 45) = false := beq_eq_false_iff_ne.mpr (fun h => hm (by unfold minus; exact decide_eq_true ⟨by omega, h⟩))
      clear hm hz
      go_enter Tryz.func57, Tryz.ntmps57
      go_wp2_with fail
      refine (cubitref01_Right.calls _ n b1 _ HK.out.1).mono ?_
      rintro e w1 ⟨rfl, h1⟩
      have hb1 := h1.below
      have hc2 := cell_later hb1 hc1
      have H1 := Aside0.mk (below_then HB.out HB.out.size hb1)
      clear h1 hb1 hc0 hc1 hW
      cases b1 with
      | false =>
        go_wp2_with fail
        go_ret
        exact ⟨false, rfl, ⟨(fun h => by cases h), fun h => absurd (HK.out.2.2 ((HT.out.1 h).1)) (by simp)⟩, H1.out⟩
      | true =>
        go_wp2_with fail
        refine (cubitref01_Right.calls _ d b2 _ HD.out.1).mono ?_
        rintro e w2 ⟨rfl, h1⟩
        have hb2 := h1.below
        have hc3 := cell_later hb2 hc2
        have H2 := Aside0.mk (below_then H1.out H1.out.size hb2)
        clear h1 hb2 hc2
        cases b2 with
        | false =>
          go_wp2_with fail
          go_ret
          exact ⟨false, rfl, ⟨(fun h => by cases h), fun h => absurd (HD.out.2.2 ((HT.out.1 h).2.1)) (by simp)⟩, H2.out⟩
        | true =>
          have hcs : NatR n := HK.out.2.1 (by first | rfl | trivial)
          have hcd : NatR d := HD.out.2.1 (by first | rfl | trivial)
          have hd0 := canon_is hcd.canon 48 (by decide) (by decide)
          have HC := Aside0.mk (And.intro hcs hcd)
          by_cases hz : (d.toList == [48]) = true
          · have hz2 : (d.toList != [48]) = false := by rw [bne, hz]; rfl
            have HZ := Aside0.mk (show dv d = 0 from by rw [hd0.1 hz]; rfl)
            clear hcs hcd hd0
            go_wp2_with fail
            go_ret
            exact ⟨false, rfl, ⟨(fun h => by cases h), fun h => absurd HZ.out ((HT.out.1 h).2.2.1)⟩, H2.out⟩
          · have hz1 : (d.toList == [48]) = false := Bool.eq_false_iff.mpr hz
            have hz2 : (d.toList != [48]) = true := by rw [bne, hz1]; rfl
            have HZ := Aside0.mk (show dv d ≠ 0 from fun h => hz (hd0.2 (by rw [h]; rfl)))
            clear hcs hcd hd0 hz
            go_wp2_with fail
            refine (common_call n d _ HC.out.1.canon HC.out.2.canon (by have := HC.out.1.2.1; omega) (by have := HC.out.2.2.1; omega)).mono ?_
            rintro e w3 ⟨g, rfl, h1, h2, h3⟩
            have hg1 := canon_is h1 49 (by decide) (by decide)
            have H3 := Aside0.mk (And.intro h2 (And.intro hg1 (below_then H2.out H2.out.size h3)))
            clear h1 h2 h3 hg1
            by_cases hg : (g.toList == [49]) = true
            · have HG := Aside0.mk hg
              go_wp2_with fail
              go_ret
              exact ⟨true, rfl, ⟨fun _ => HT.out.2 ⟨HC.out.1, HC.out.2, HZ.out, by rw [← H3.out.1, H3.out.2.1.1 HG.out]; rfl⟩, fun _ => rfl⟩, H3.out.2.2⟩
            · have hg2 : (g.toList == [49]) = false := Bool.eq_false_iff.mpr hg
              have HG := Aside0.mk hg
              clear hg
              go_wp2_with fail
              go_ret
              exact ⟨false, rfl, ⟨(fun h => by cases h), fun h => absurd (H3.out.2.1.2 (by rw [H3.out.1, (HT.out.1 h).2.2.2]; rfl)) HG.out⟩, H3.out.2.2⟩
end Go.Proofs.YthbdjmopolpjmaaGreatDoor.C
end
section
set_option linter.unusedVariables false
set_option linter.unusedSimpArgs false
namespace Go.Proofs.YthbdjmopolpjmaaGreatDoor.C
open Go.RowKit Go.Proofs.YthbdjmopolpjmaaGreatDoorW.PrintWords Go.Proofs.YthbdjmopolpjmaaGreatDoorW.PrintLast Go.Proofs.YthbdjmopolpjmaaGreatDoorW.PrintMore Go.Proofs.YthbdjmopolpjmaaGreatDoor.F Go.Proofs.YthbdjmopolpjmaaGreatDoor.M
attribute [local go_sem] max2_int min2_int max_two min_two max_three min_three max_four min_four
set_option maxHeartbeats 1000000 in
set_option maxRecDepth 100000 in
theorem refPrint_yes (n d : ByteArray) (w : World) (h : RatR n d) : Calls Tryz.prog 58 #[.agg #[.string n, .string d]] w fun e w' => e = .returned (.tuple #[.string (ratT n d), .int .i64 0]) ∧ Below w.heap.size w w' := by
  have hs := h.sizes
  have l1 : ¬ 9223372036854775807 < n.size + 1 := by omega
  have l2 : ¬ 9223372036854775807 < n.size + 1 + d.size := by omega
  have HR := Aside0.mk h
  clear hs h
  go_enter Tryz.func58, Tryz.ntmps58
  go_wp2_with fail
  refine (refRight_call n d _).mono ?_
  rintro e w1 ⟨b, rfl, h1, h2⟩
  obtain rfl := h1.2 HR.out
  have c0 := cell_later (a := ⟨w.heap.size, 0, none⟩) (v := .string n) h2 (by simp)
  have c1 := cell_later (a := ⟨w.heap.size, 1, none⟩) (v := .string d) h2 (by simp)
  have HF := Aside0.mk (below_then (below_alloc (Below.refl w.heap.size w) (.cells #[.string n, .string d] 39)) (by simp) h2)
  clear h1 h2
  by_cases hd : (d.toList == [49]) = true
  · have HD := Aside0.mk hd
    go_wp2_with fail
    go_ret2
    have e : ratT n d = n := if_pos HD.out
    exact ⟨by rw [e]; rfl, HF.out⟩
  · have HD := Aside0.mk hd
    have hd2 : (d.toList == [49]) = false := Bool.eq_false_iff.mpr hd
    clear hd
    go_wp2_with fail
    go_ret2
    have e : ratT n d = n ++ ⟨#[47]⟩ ++ d := if_neg HD.out
    exact ⟨by rw [e]; rfl, HF.out⟩
end Go.Proofs.YthbdjmopolpjmaaGreatDoor.C
end
section
set_option linter.unusedVariables false
set_option linter.unusedSimpArgs false
namespace Go.Proofs.YthbdjmopolpjmaaGreatDoor.C
open Go.RowKit Go.Proofs.YthbdjmopolpjmaaGreatDoorW.PrintWords Go.Proofs.YthbdjmopolpjmaaGreatDoorW.PrintLast Go.Proofs.YthbdjmopolpjmaaGreatDoorW.PrintMore Go.Proofs.YthbdjmopolpjmaaGreatDoor.F Go.Proofs.YthbdjmopolpjmaaGreatDoor.M
attribute [local go_sem] max2_int min2_int max_two min_two max_three min_three max_four min_four
def EV (x : S41) (A : Option Addr) (c : Nat) : Value := .agg #[.int .i64 x.f0, .string x.f1, .string x.f2.f0, .string x.f2.f1, .string x.f3.f0, .string x.f3.f1, .string x.f4, .int .i64 x.f5, .slice A x.f6.length c, .int .i64 x.f7, .bool x.f8]
def Bounds (x : S41) : Prop := 1 ≤ x.f0 ∧ x.f0 ≤ 4096 ∧ 0 ≤ x.f7 ∧ x.f7 ≤ 4096 ∧ 0 ≤ x.f5 ∧ x.f5 ≤ 1000000
open Classical in
noncomputable def canI (x : S41) : Int := if Bounds x then (if RatR x.f2.f0 x.f2.f1 ∧ RatR x.f3.f0 x.f3.f1 then (if minus x.f3.f0 = true then 9 else if 8 < x.f6.length then 4 else 0) else 3) else 1
theorem canI_bounds {x : S41} (h : ¬ Bounds x) : canI x = 1 := by unfold canI; rw [if_neg h]
theorem canI_right {x : S41} (h : Bounds x) (h2 : ¬ (RatR x.f2.f0 x.f2.f1 ∧ RatR x.f3.f0 x.f3.f1)) : canI x = 3 := by unfold canI; rw [if_pos h, if_neg h2]
theorem canI_minus {x : S41} (h : Bounds x) (h2 : RatR x.f2.f0 x.f2.f1 ∧ RatR x.f3.f0 x.f3.f1) (h3 : minus x.f3.f0 = true) : canI x = 9 := by unfold canI; rw [if_pos h, if_pos h2, if_pos h3]
theorem canI_tags {x : S41} (h : Bounds x) (h2 : RatR x.f2.f0 x.f2.f1 ∧ RatR x.f3.f0 x.f3.f1) (h3 : ¬ minus x.f3.f0 = true) (h4 : 8 < x.f6.length) : canI x = 4 := by unfold canI; rw [if_pos h, if_pos h2, if_neg h3, if_pos h4]
theorem canI_ok {x : S41} (h : Bounds x) (h2 : RatR x.f2.f0 x.f2.f1 ∧ RatR x.f3.f0 x.f3.f1) (h3 : ¬ minus x.f3.f0 = true) (h4 : ¬ 8 < x.f6.length) : canI x = 0 := by unfold canI; rw [if_pos h, if_pos h2, if_neg h3, if_neg h4]
theorem RatR.pos {n d : ByteArray} (h : RatR n d) : 0 < n.size := by
  have h1 := h.1.1.1
  unfold body at h1
  split at h1
  · rename_i hm
    unfold minus at hm
    exact (of_decide_eq_true hm).1
  · exact h1
set_option maxHeartbeats 2000000 in
set_option maxRecDepth 100000 in
theorem can_call (x : S41) (A : Option Addr) (c : Nat) (w : World) : Calls Tryz.prog 25 #[EV x A c] w fun e w' => e = .returned (.int .i64 (canI x)) ∧ Below w.heap.size w w' := by
  have HBB := Aside0.mk (below_alloc (Below.refl w.heap.size w) (.cells #[.int .i64 x.f0, .string x.f1, .string x.f2.f0, .string x.f2.f1, .string x.f3.f0, .string x.f3.f1, .string x.f4, .int .i64 x.f5, .slice A x.f6.length c, .int .i64 x.f7, .bool x.f8] 41))
  by_cases c0 : x.f0 < 1
  · have d0 : decide (x.f0 < 1) = true := decide_eq_true c0
    have HX := Aside0.mk (canI_bounds (x := x) (fun h => by unfold Bounds at h; omega))
    clear c0
    go_enter Tryz.func25, Tryz.ntmps25
    unfold EV
    go_wp2_with fail
    go_ret
    exact ⟨by rw [HX.out]; rfl, HBB.out⟩
  · have d0 : decide (x.f0 < 1) = false := decide_eq_false c0
    by_cases c1 : 4096 < x.f0
    · have d1 : decide (4096 < x.f0) = true := decide_eq_true c1
      have HX := Aside0.mk (canI_bounds (x := x) (fun h => by unfold Bounds at h; omega))
      clear c0 c1
      go_enter Tryz.func25, Tryz.ntmps25
      unfold EV
      go_wp2_with fail
      go_ret
      exact ⟨by rw [HX.out]; rfl, HBB.out⟩
    · have d1 : decide (4096 < x.f0) = false := decide_eq_false c1
      by_cases c2 : x.f7 < 0
      · have d2 : decide (x.f7 < 0) = true := decide_eq_true c2
        have HX := Aside0.mk (canI_bounds (x := x) (fun h => by unfold Bounds at h; omega))
        clear c0 c1 c2
        go_enter Tryz.func25, Tryz.ntmps25
        unfold EV
        go_wp2_with fail
        go_ret
        exact ⟨by rw [HX.out]; rfl, HBB.out⟩
      · have d2 : decide (x.f7 < 0) = false := decide_eq_false c2
        by_cases c3 : 4096 < x.f7
        · have d3 : decide (4096 < x.f7) = true := decide_eq_true c3
          have HX := Aside0.mk (canI_bounds (x := x) (fun h => by unfold Bounds at h; omega))
          clear c0 c1 c2 c3
          go_enter Tryz.func25, Tryz.ntmps25
          unfold EV
          go_wp2_with fail
          go_ret
          exact ⟨by rw [HX.out]; rfl, HBB.out⟩
        · have d3 : decide (4096 < x.f7) = false := decide_eq_false c3
          by_cases c4 : x.f5 < 0
          · have d4 : decide (x.f5 < 0) = true := decide_eq_true c4
            have HX := Aside0.mk (canI_bounds (x := x) (fun h => by unfold Bounds at h; omega))
            clear c0 c1 c2 c3 c4
            go_enter Tryz.func25, Tryz.ntmps25
            unfold EV
            go_wp2_with fail
            go_ret
            exact ⟨by rw [HX.out]; rfl, HBB.out⟩
          · have d4 : decide (x.f5 < 0) = false := decide_eq_false c4
            by_cases c5 : 1000000 < x.f5
            · have d5 : decide (1000000 < x.f5) = true := decide_eq_true c5
              have HX := Aside0.mk (canI_bounds (x := x) (fun h => by unfold Bounds at h; omega))
              clear c0 c1 c2 c3 c4 c5
              go_enter Tryz.func25, Tryz.ntmps25
              unfold EV
              go_wp2_with fail
              go_ret
              exact ⟨by rw [HX.out]; rfl, HBB.out⟩
            · have d5 : decide (1000000 < x.f5) = false := decide_eq_false c5
              have HB := Aside0.mk (show Bounds x by unfold Bounds; omega)
              clear c0 c1 c2 c3 c4 c5
              go_enter Tryz.func25, Tryz.ntmps25
              unfold EV
              go_wp2_with fail
              refine (refRight_call x.f2.f0 x.f2.f1 _).mono ?_
              rintro e w1 ⟨b1, rfl, h1, h2⟩
              have g4 := cell_later (a := ⟨w.heap.size, 4, none⟩) (v := .string x.f3.f0) h2 (by simp)
              have g5 := cell_later (a := ⟨w.heap.size, 5, none⟩) (v := .string x.f3.f1) h2 (by simp)
              have g8 := cell_later (a := ⟨w.heap.size, 8, none⟩) (v := .slice A x.f6.length c) h2 (by simp)
              have H1 := Aside0.mk (And.intro h1 (below_then HBB.out (by simp) h2))
              clear h1 h2
              cases b1 with
              | false =>
                go_wp2_with fail
                go_ret
                exact ⟨by rw [canI_right HB.out (fun h => absurd (H1.out.1.2 h.1) (by simp))]; rfl, H1.out.2⟩
              | true =>
                go_wp2_with fail
                refine (refRight_call x.f3.f0 x.f3.f1 _).mono ?_
                rintro e w2 ⟨b2, rfl, h1, h2⟩
                have k4 := cell_later h2 g4
                have k8 := cell_later h2 g8
                have H2 := Aside0.mk (And.intro h1 (below_then H1.out.2 H1.out.2.size h2))
                clear h1 h2 g4 g5 g8
                cases b2 with
                | false =>
                  go_wp2_with fail
                  go_ret
                  exact ⟨by rw [canI_right HB.out (fun h => absurd (H2.out.1.2 h.2) (by simp))]; rfl, H2.out.2⟩
                | true =>
                  have HR := Aside0.mk (And.intro (H1.out.1.1 (by first | rfl | trivial)) (H2.out.1.1 (by first | rfl | trivial)))
                  have hp := HR.out.2.pos
                  have q0 := eq_true hp
                  have hx : ∀ h : 0 < x.f3.f0.size, ((x.f3.f0[0]'h).toNat : Int) = bt x.f3.f0 0 := bt_at x.f3.f0 0
                  by_cases hm : bt x.f3.f0 0 = 45
                  · have h45 : ((bt x.f3.f0 0) == 45) = true := beq_iff_eq.mpr hm
                    have HM := Aside0.mk (show minus x.f3.f0 = true by unfold minus; exact decide_eq_true ⟨hp, hm⟩)
                    clear hm hp
                    go_wp2_with fail
                    go_ret
                    exact ⟨by rw [canI_minus HB.out HR.out HM.out]; rfl, H2.out.2⟩
                  · have h45 : ((bt x.f3.f0 0) == 45) = false := beq_eq_false_iff_ne.mpr hm
                    have HM := Aside0.mk (show ¬ minus x.f3.f0 = true by unfold minus; exact fun h => hm (of_decide_eq_true h).2)
                    clear hm hp
                    by_cases hl : 8 < x.f6.length
                    · have l1 : decide (8 < x.f6.length) = true := decide_eq_true hl
                      have l2 : decide (8 < (x.f6.length : Int)) = true := decide_eq_true (by omega)
                      have HL := Aside0.mk hl
                      clear hl
                      go_wp2_with fail
                      go_ret
                      exact ⟨by rw [canI_tags HB.out HR.out HM.out HL.out]; rfl, H2.out.2⟩
                    · have l1 : decide (8 < x.f6.length) = false := decide_eq_false hl
                      have l2 : decide (8 < (x.f6.length : Int)) = false := decide_eq_false (by omega)
                      have HL := Aside0.mk hl
                      clear hl
                      go_wp2_with fail
                      go_ret
                      exact ⟨by rw [canI_ok HB.out HR.out HM.out HL.out]; rfl, H2.out.2⟩
end Go.Proofs.YthbdjmopolpjmaaGreatDoor.C
end
section
set_option linter.unusedVariables false
set_option linter.unusedSimpArgs false
namespace Go.Proofs.YthbdjmopolpjmaaGreatDoor.C
open Go.RowKit Go.Proofs.YthbdjmopolpjmaaGreatDoorW.PrintWords Go.Proofs.YthbdjmopolpjmaaGreatDoorW.PrintLast Go.Proofs.YthbdjmopolpjmaaGreatDoorW.PrintMore Go.Proofs.YthbdjmopolpjmaaGreatDoor.F Go.Proofs.YthbdjmopolpjmaaGreatDoor.M
namespace Once
theorem disable (w : World) : (callFunc 234 #[]).run Tryz.prog w = .ok (.value (.tuple #[])) w := run_call_mark0 Tryz.func234 (by kernel_rfl) (by kernel_rfl) (by kernel_rfl) .disable (by kernel_rfl) w
theorem enable (w : World) : (callFunc 236 #[]).run Tryz.prog w = .ok (.value (.tuple #[])) w := run_call_mark0 Tryz.func236 (by kernel_rfl) (by kernel_rfl) (by kernel_rfl) .enable (by kernel_rfl) w
theorem acquire (a : Addr) (w : World) : (callFunc 237 #[.pointer (some a)]).run Tryz.prog w = .ok (.value (.tuple #[])) w := run_call_marked Tryz.func237 (by kernel_rfl) (by kernel_rfl) (by kernel_rfl) .acquire (by kernel_rfl) a w
theorem releaseMerge (a : Addr) (w : World) : (callFunc 239 #[.pointer (some a)]).run Tryz.prog w = .ok (.value (.tuple #[])) w := run_call_marked Tryz.func239 (by kernel_rfl) (by kernel_rfl) (by kernel_rfl) .releaseMerge (by kernel_rfl) a w
set_option maxRecDepth 100000 in
set_option maxHeartbeats 1600000 in
theorem store_deferred (a : Addr) (x : Value) (u : FrameMode) (w : World) (hc : w.cell? a = some x) (hz : w.frozen? a = false) :
    CallsD Tryz.prog 168 #[.pointer (some a), .bool true] u w fun e u' w' => u' = u ∧ (e = .returned (.tuple #[]) ∧ w' = w.drew.setCell a (.int .u32 1)) := by
  have hc' : w.drew.cell? a = some x := by go_simp
  have hz' : w.drew.frozen? a = false := by go_simp
  have hst := run_call_store (P := Tryz.prog) Tryz.func213 (by kernel_rfl) (by kernel_rfl) (by kernel_rfl) (by kernel_rfl) (k := .u32) (y := 1) hc' hz'
  go_enter_d Tryz.func168, Tryz.ntmps168
  go_wp2
  go_region_calls
  all_goals (go_end0; exact ⟨rfl, rfl⟩)
set_option maxRecDepth 100000 in
set_option maxHeartbeats 1600000 in
theorem unlock_deferred (a : Addr) (u : FrameMode) (w : World) (hc : w.cell? a = some (.int .i32 1)) (hz : w.frozen? a = false) :
    CallsD Tryz.prog 167 #[.pointer (some a)] u w fun e u' w' => u' = u ∧ (e = .returned (.tuple #[]) ∧ w' = w.setCell a (.int .i32 0)) := by
  have hd := disable
  have he := enable
  have hr := releaseMerge
  have hadd := run_call_add (P := Tryz.prog) Tryz.func240 (by kernel_rfl) (by kernel_rfl) (by kernel_rfl) .i32 (by kernel_rfl) (y := -1) (s := 0) hc hz (by simp [go_sem]; rfl)
  have hcv := run_convert_to_unsafe (P := Tryz.prog) (src := 317) (dst := 113) Tryz.underlying317 Tryz.underlying113 (by kernel_rfl) hc
  go_enter_d Tryz.func167, Tryz.ntmps167
  go_wp2
  go_end0
  go_wp2
  go_end0
  exact ⟨rfl, rfl⟩
set_option maxRecDepth 100000 in
set_option maxHeartbeats 1600000 in
theorem lock_free (a : Addr) (w : World) (hc : w.cell? a = some (.int .i32 0)) (hz : w.frozen? a = false) :
    Calls Tryz.prog 166 #[.pointer (some a)] w fun e w' => e = .returned (.tuple #[]) ∧ w' = w.setCell a (.int .i32 1) := by
  have hd := disable
  have he := enable
  have ha := acquire
  have hcas := run_call_cas_hit (P := Tryz.prog) Tryz.func235 (by kernel_rfl) (by kernel_rfl) (by kernel_rfl) .i32 (by kernel_rfl) (y := 1) hc hz
  have hc' : (w.setCell a (.int .i32 1)).cell? a = some (.int .i32 1) := World.cell?_setCell_same w a _ hc
  have hcv := run_convert_to_unsafe (P := Tryz.prog) (src := 317) (dst := 113) Tryz.underlying317 Tryz.underlying113 (by kernel_rfl) hc'
  go_enter Tryz.func166, Tryz.ntmps166
  go_wp2
  first | go_end0 | (simp only [Exit.inBlock, Exit.then]; refine bodyPost_ret (results_none rfl _ _ _) rfl ?_) | refine bodyPost_ret (results_none rfl _ _ _) rfl ?_
  go_wp2
  go_end0
  exact ⟨rfl, rfl⟩
end Once
end Go.Proofs.YthbdjmopolpjmaaGreatDoor.C
end
section
set_option linter.unusedVariables false
set_option linter.unusedSimpArgs false
namespace Go.Proofs.YthbdjmopolpjmaaGreatDoor.C
open Go.RowKit Go.Proofs.YthbdjmopolpjmaaGreatDoorW.PrintWords Go.Proofs.YthbdjmopolpjmaaGreatDoorW.PrintLast Go.Proofs.YthbdjmopolpjmaaGreatDoorW.PrintMore Go.Proofs.YthbdjmopolpjmaaGreatDoor.F Go.Proofs.YthbdjmopolpjmaaGreatDoor.M
namespace Once
def ob (d s : Int) (r o : Value) : Obj := .cells #[.int .u32 d, .int .i32 s, .int .u32 0, r, o] 143 (0, 0)
def Builds (g : Nat) (w : World) (o : Value) (R : Value → World → Prop) : Prop := ∀ W, Chg (fun k => k = g) w W → W.heap[g]? = some (ob 0 1 .nilIface o) →
  Calls Tryz.prog 88 #[.pointer (some ⟨g, 0, none⟩)] W fun e W' => e = .returned (.tuple #[]) ∧ ∃ r o', W'.heap[g]? = some (ob 0 1 r o') ∧ R r W' ∧ Chg (fun k => k = g) W W'
def Stays (g : Nat) (R : Value → World → Prop) : Prop := ∀ r W W', R r W → W'.os = W.os → (∀ i, i ≠ g → W'.heap[i]? = W.heap[i]?) → R r W'
theorem set_other (W : World) (g j : Nat) (u : Value) : ∀ i, i ≠ g → (W.setCell ⟨g, j, none⟩ u).heap[i]? = W.heap[i]? := fun i hi => Below.heap_setCell W ⟨g, j, none⟩ u i hi
theorem set_os (W : World) (p : Addr) (u : Value) : (W.setCell p u).os = W.os := by unfold World.setCell; split <;> rfl
theorem load_zero (a : Addr) (w : World) (h0 : w.cell? a = some (.int .u32 0)) : Calls Tryz.prog 122 #[.pointer (some a)] w fun e w' => e = .returned (.bool false) ∧ w = w' := by
  have hl := run_call_load (P := Tryz.prog) Tryz.func165 (by kernel_rfl) (by kernel_rfl) (by kernel_rfl) .u32 (by kernel_rfl) h0
  go_enter Tryz.func122, Tryz.ntmps122
  go_wp2
  go_ret
  exact ⟨rfl, rfl⟩
set_option maxRecDepth 100000 in
set_option maxHeartbeats 1600000 in
theorem slow_call (g : Nat) (w : World) (o : Value) (R : Value → World → Prop) (hb : w.heap[g]? = some (ob 0 0 .nilIface o)) (hR : Stays g R) (hf : Builds g w o R) :
    Calls Tryz.prog 123 #[.pointer (some ⟨g, 0, none⟩), .func (.func 88) #[.pointer (some ⟨g, 0, none⟩)] #[]] w fun e W' => e = .returned (.tuple #[]) ∧ ∃ r o', W'.heap[g]? = some (ob 1 0 r o') ∧ R r W' ∧ Chg (fun k => k = g) w W' := by
  have HF := Aside0.mk (And.intro hR hf)
  clear hR hf
  unfold ob at hb
  have c1 : w.cell? ⟨g, 1, none⟩ = some (.int .i32 0) := (blk_cell hb 1).trans rfl
  have z1 : w.frozen? ⟨g, 1, none⟩ = false := blk_frozen hb 1
  have hb2 : (w.setCell ⟨g, 1, none⟩ (.int .i32 1)).heap[g]? = some (ob 0 1 .nilIface o) := blk_set hb 1 _
  have HB2 := Aside0.mk hb2
  have c0 : (w.setCell ⟨g, 1, none⟩ (.int .i32 1)).cell? ⟨g, 0, none⟩ = some (.int .u32 0) := (blk_cell hb2 0).trans rfl
  have HL := Aside0.mk c0
  have HC1 := Aside0.mk (show Chg (fun k => k = g) w (w.setCell ⟨g, 1, none⟩ (.int .i32 1)) from Chg.setCell (S := fun k => k = g) (Chg.refl _ _) ⟨g, 1, none⟩ (.inl rfl) _)
  have hnot : ∀ (x : Bool) (w : World), (Op.unary .not (.bool x)).run Tryz.prog w = .ok (.bool (!x)) w := fun _ _ => rfl
  clear hb hb2 c0
  go_enter_defers Tryz.func123, Tryz.ntmps123
  go_wp2_with (go_at_call 166; refine (lock_free ⟨g, 1, none⟩ _ c1 z1).mono ?_; rintro e w' ⟨rfl, rfl⟩)
  go_wp2_with fail
  refine (load_zero _ _ HL.out).mono ?_
  rintro e w' ⟨rfl, rfl⟩
  go_wp2_with fail
  refine (HF.out.2 _ HC1.out HB2.out).mono ?_
  rintro e w1 ⟨rfl, r, o', hb3, hr, hc⟩
  have HX := Aside0.mk (And.intro hb3 (And.intro hr (HC1.out.trans hc (fun i _ h => h))))
  clear hb3 hr hc
  go_wp2_with fail
  have hb4 : w1.heap[g]? = some (.cells #[.int .u32 0, .int .i32 1, .int .u32 0, r, o'] 143 (0, 0)) := HX.out.1
  have c0 : w1.cell? ⟨g, 0, none⟩ = some (.int .u32 0) := (blk_cell hb4 0).trans rfl
  have z0 : w1.frozen? ⟨g, 0, none⟩ = false := blk_frozen hb4 0
  have hb5 : w1.drew.heap[g]? = some (.cells #[.int .u32 0, .int .i32 1, .int .u32 0, r, o'] 143 (0, 0)) := hb4
  have hb6 : (w1.drew.setCell ⟨g, 0, none⟩ (.int .u32 1)).heap[g]? = some (.cells #[.int .u32 1, .int .i32 1, .int .u32 0, r, o'] 143 (0, 0)) := blk_set hb5 0 _
  have hb7 : ((w1.drew.setCell ⟨g, 0, none⟩ (.int .u32 1)).setCell ⟨g, 1, none⟩ (.int .i32 0)).heap[g]? = some (ob 1 0 r o') := blk_set hb6 1 _
  have c1 : (w1.drew.setCell ⟨g, 0, none⟩ (.int .u32 1)).cell? ⟨g, 1, none⟩ = some (.int .i32 1) := (blk_cell hb6 1).trans rfl
  have z1 : (w1.drew.setCell ⟨g, 0, none⟩ (.int .u32 1)).frozen? ⟨g, 1, none⟩ = false := blk_frozen hb6 1
  refine leaves_cons (f := 168) (args := #[.pointer (some ⟨g, 0, none⟩), .bool true]) (by simp) (by simp [go_sem]) ?_
  refine (store_deferred ⟨g, 0, none⟩ (.int .u32 0) .returning _ c0 z0).mono ?_
  rintro e u' w'' ⟨rfl, rfl, rfl⟩
  refine leaves_cons (f := 167) (args := #[.pointer (some ⟨g, 1, none⟩)]) (by simp [settle]) (by simp [go_sem]) ?_
  refine (unlock_deferred ⟨g, 1, none⟩ _ _ c1 z1).mono ?_
  rintro e u' w'' ⟨rfl, rfl, rfl⟩
  have hfin : ∃ r o', ((w1.drew.setCell ⟨g, 0, none⟩ (.int .u32 1)).setCell ⟨g, 1, none⟩ (.int .i32 0)).heap[g]? = some (ob 1 0 r o') ∧ R r ((w1.drew.setCell ⟨g, 0, none⟩ (.int .u32 1)).setCell ⟨g, 1, none⟩ (.int .i32 0)) ∧ Chg (fun k => k = g) w ((w1.drew.setCell ⟨g, 0, none⟩ (.int .u32 1)).setCell ⟨g, 1, none⟩ (.int .i32 0)) := by
    refine ⟨r, o', hb7, HF.out.1 r _ _ HX.out.2.1 ?_ ?_, Chg.setCell (S := fun k => k = g) (Chg.setCell (S := fun k => k = g) HX.out.2.2.drew ⟨g, 0, none⟩ (.inl rfl) _) ⟨g, 1, none⟩ (.inl rfl) _⟩
    · rw [set_os, set_os]; rfl
    · intro i hi
      exact (set_other _ g 1 _ i hi).trans (set_other _ g 0 _ i hi)
  have HFI := Aside0.mk hfin
  clear hfin
  simp only [Leaves, settle, results, Tryz.results123]
  refine ⟨.tuple #[], ?_, rfl, HFI.out⟩
  simp
set_option maxRecDepth 100000 in
set_option maxHeartbeats 1600000 in
theorem do_call (g : Nat) (w : World) (o : Value) (R : Value → World → Prop) (hb : w.heap[g]? = some (ob 0 0 .nilIface o)) (hR : Stays g R) (hf : Builds g w o R) :
    Calls Tryz.prog 87 #[.pointer (some ⟨g, 0, none⟩), .func (.func 88) #[.pointer (some ⟨g, 0, none⟩)] #[]] w fun e W' => e = .returned (.tuple #[]) ∧ ∃ r o', W'.heap[g]? = some (ob 1 0 r o') ∧ R r W' ∧ Chg (fun k => k = g) w W' := by
  have HF := Aside0.mk (And.intro hb (And.intro hR hf))
  have HL := Aside0.mk (show w.cell? ⟨g, 0, none⟩ = some (.int .u32 0) from (blk_cell hb 0).trans rfl)
  clear hb hR hf
  have hnot : ∀ (x : Bool) (w : World), (Op.unary .not (.bool x)).run Tryz.prog w = .ok (.bool (!x)) w := fun _ _ => rfl
  go_enter Tryz.func87, Tryz.ntmps87
  go_wp2_with fail
  refine (load_zero _ _ HL.out).mono ?_
  rintro e w' ⟨rfl, rfl⟩
  go_wp2_with fail
  refine (slow_call g _ o R HF.out.1 HF.out.2.1 HF.out.2.2).mono ?_
  rintro e w1 ⟨rfl, h⟩
  have HX := Aside0.mk h
  clear h
  go_wp2_with fail
  go_end0
  exact ⟨rfl, HX.out⟩
end Once
end Go.Proofs.YthbdjmopolpjmaaGreatDoor.C
end
