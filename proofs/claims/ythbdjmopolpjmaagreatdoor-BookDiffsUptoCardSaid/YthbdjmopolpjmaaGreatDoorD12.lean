/- Part 12 of the proof: CRat, CSet, FStringsliteHasPrefix, FStringsliteCutPrefix, FStringsCutPrefix, CNat, CRead, CPrint, CRefRat. -/
import Derived.Deep.RegionWith
import Derived.Test.YthbdjmopolpjmaaGreatDoorD00
import Derived.Test.YthbdjmopolpjmaaGreatDoorD01
import Derived.Test.YthbdjmopolpjmaaGreatDoorD02
import Derived.Test.YthbdjmopolpjmaaGreatDoorD03
import Derived.Test.YthbdjmopolpjmaaGreatDoorD04
import Derived.Test.YthbdjmopolpjmaaGreatDoorD05
import Derived.Test.YthbdjmopolpjmaaGreatDoorD06
import Derived.Test.YthbdjmopolpjmaaGreatDoorD07
import Derived.Test.YthbdjmopolpjmaaGreatDoorD08
import Derived.Test.YthbdjmopolpjmaaGreatDoorD09
import Derived.Test.YthbdjmopolpjmaaGreatDoorD10
import Derived.Test.YthbdjmopolpjmaaGreatDoorD11
section
set_option linter.unusedVariables false
set_option linter.unusedSimpArgs false
namespace Go.Proofs.YthbdjmopolpjmaaGreatDoor.C
open Go.RowKit Go.Proofs.YthbdjmopolpjmaaGreatDoorW.PrintWords Go.Proofs.YthbdjmopolpjmaaGreatDoorW.PrintLast Go.Proofs.YthbdjmopolpjmaaGreatDoorW.PrintMore Go.Proofs.YthbdjmopolpjmaaGreatDoor.F Go.Proofs.YthbdjmopolpjmaaGreatDoor.M
attribute [local go_sem] max2_int min2_int max_two min_two max_three min_three max_four min_four
def RatB (W : World) (g : Nat) (np : Bool) (ps qs : List Int) : Prop := ∃ A c A2 c2, W.heap[g]? = some (.cells #[.bool np, .slice A ps.length c, .bool false, .slice A2 qs.length c2] 179 (0, 0)) ∧ ps.length ≤ c ∧ qs.length ≤ c2 ∧ U W A ps ∧ U W A2 qs
def Low (ps qs xs ys : List Int) : Prop := Wd ps ∧ Wd qs ∧ qs ≠ [] ∧ val 4294967296 ps * gcdI (val 4294967296 xs) (val 4294967296 ys) = val 4294967296 xs ∧ val 4294967296 qs * gcdI (val 4294967296 xs) (val 4294967296 ys) = val 4294967296 ys
theorem gcd_pos {a b : Int} (hb : 0 < b) : 0 < gcdI a b := by
  unfold gcdI
  have := Nat.gcd_pos_of_pos_right a.toNat (show 0 < b.toNat by omega)
  omega
theorem gcd_dvd {a b : Int} (ha : 0 ≤ a) (hb : 0 ≤ b) : (∃ k, a = k * gcdI a b) ∧ ∃ k, b = k * gcdI a b := by
  unfold gcdI
  obtain ⟨k, hk⟩ := Nat.gcd_dvd_left a.toNat b.toNat
  obtain ⟨l, hl⟩ := Nat.gcd_dvd_right a.toNat b.toNat
  refine ⟨⟨(k : Int), ?_⟩, (l : Int), ?_⟩
  · have : (a.toNat : Int) = ((Nat.gcd a.toNat b.toNat * k : Nat) : Int) := by rw [← hk]
    rw [Int.natCast_mul] at this
    rw [Int.mul_comm]; omega
  · have : (b.toNat : Int) = ((Nat.gcd a.toNat b.toNat * l : Nat) : Int) := by rw [← hl]
    rw [Int.natCast_mul] at this
    rw [Int.mul_comm]; omega
theorem exact_div {a g q r : Int} (hg : 0 < g) (hr0 : 0 ≤ r) (h : a = q * g + r) (hr : r < g) (hd : ∃ k, a = k * g) : q * g = a := by
  obtain ⟨k, hk⟩ := hd
  have d1 := div_of h hr0 hr
  have d2 := div_of (show a = k * g + 0 by omega) (by omega) hg
  omega
theorem put_rat (gz n : Nat) (neg : Bool) (A0 : Option Addr) (c0 : Nat) (xs : List Int) (w : World) (v0 v1 v2 v3 : Value) (hn : xs.length = n) (hb : w.heap[gz]? = some (.cells #[v0, v1, v2, v3] 179 (0, 0))) (hU : U w A0 xs) (hc0 : n ≤ c0) (hw : Wd xs) :
    Calls Tryz.prog 160 #[.pointer (some ⟨gz, 0, none⟩), .bool neg, .slice A0 n c0] w fun e w' => e = .returned (.pointer (some ⟨gz, 0, none⟩)) ∧ w'.heap[gz]? = some (.cells #[.bool (neg && !xs.isEmpty), .slice A0 xs.length c0, v2, v3] 179 (0, 0)) ∧ Chg (· = gz) w w' := by
  subst hn
  obtain ⟨m, hm, ht, hv, he⟩ := trim_tells 4294967296 xs (by have := hw.2.2; omega)
  obtain ⟨k, hk⟩ := he.rounds
  have hr : xs.take m = xs := Wd.inj ⟨dig_take hw.1 m, ht, by have := hw.2.2; rw [List.length_take]; omega⟩ hw hv
  refine (put_call k gz 0 neg A0 c0 xs _ w v0 v1 ((blk_cell hb 0).trans rfl) ((blk_cell hb 1).trans rfl) (blk_frozen hb 0) (blk_frozen hb 1) hU.now hc0 hk).mono fun e w' ⟨he, hw⟩ => ?_
  subst hw
  have hch := below_ne_chg (w := w) (g := gz) ⟨gz, 0, none⟩ ⟨gz, 0 + 1, none⟩ rfl rfl (.bool (neg && !(xs.take m).isEmpty)) (.slice A0 (xs.take m).length c0)
  refine ⟨he, ?_, hch⟩
  have h1 := blk_set hb 0 (.bool (neg && !(xs.take m).isEmpty))
  have h2 := blk_set h1 1 (.slice A0 (xs.take m).length c0)
  rw [hr] at h2 ⊢
  simpa using h2
set_option maxHeartbeats 2000000 in
set_option maxRecDepth 100000 in
theorem setFrac_call (gz gx ox gy oy : Nat) (nx ny : Bool) (xs ys : List Int) (w : World) (v0 v1 v2 v3 : Value) (hz : w.heap[gz]? = some (.cells #[v0, v1, v2, v3] 179 (0, 0))) (hx : IntC w gx ox nx xs) (hy : IntC w gy oy ny ys) (wx : Wd xs) (wy : Wd ys) (hn : ys ≠ []) :
    Calls Tryz.prog 118 #[.pointer (some ⟨gz, 0, none⟩), .pointer (some ⟨gx, ox, none⟩), .pointer (some ⟨gy, oy, none⟩)] w fun e w' => ∃ ps qs, e = .returned (.pointer (some ⟨gz, 0, none⟩)) ∧ Low ps qs xs ys ∧ RatB w' gz (nx != ny && !ps.isEmpty) ps qs ∧ Chg (· = gz) w w' := by
  have HZ := Aside0.mk hz
  have HX := Aside0.mk (And.intro hx hy)
  have HW := Aside0.mk (And.intro wx (And.intro wy hn))
  clear hz hx hy wx wy hn
  go_enter Tryz.func118, Tryz.ntmps118
  go_wp2_with fail
  refine (abs_call w.heap.size gx ox nx xs _ _ _ (blk_new w _) (HX.out.1.below (below_alloc (Below.refl _ _) _)) HW.out.1).mono ?_
  rintro e w1 ⟨rfl, h1, h2⟩
  have hb1 : Below w.heap.size w w1 := (Chg.from_below (below_alloc (Below.refl _ _) _) h2).below (fun k hk => by subst hk; exact Nat.le_refl _)
  have H1 := Aside0.mk (And.intro h1 hb1)
  clear h1 h2 hb1
  go_wp2_with fail
  refine (abs_call w1.heap.size gy oy ny ys _ _ _ (blk_new w1 _) ((HX.out.2.below H1.out.2).below (below_alloc (Below.refl _ _) _)) HW.out.2.1).mono ?_
  rintro e w2 ⟨rfl, h1, h2⟩
  have hb2 : Below w1.heap.size w1 w2 := (Chg.from_below (below_alloc (Below.refl _ _) _) h2).below (fun k hk => by subst hk; exact Nat.le_refl _)
  have H2 := Aside0.mk (And.intro h1 (And.intro hb2 (And.intro (H1.out.1.below hb2) (below_then H1.out.2 H1.out.2.size hb2))))
  clear h1 h2 hb2
  obtain ⟨Ax, cx, hx0, _, _, _⟩ := HX.out.1.below H2.out.2.2.2
  obtain ⟨Ay, cy, hy0, _, _, _⟩ := HX.out.2.below H2.out.2.2.2
  go_wp2_with fail
  go_quiet (fail)
  go_wp2_with fail
  have hb3 : Below w2.heap.size w2 ((w2.drewN nq).alloc (.cells #[.bool false, .slice none 0 0] 173)) := below_alloc (pw_below_drewN (Below.refl _ _) nq) _
  refine (gcd_call w2.heap.size w.heap.size w1.heap.size 0 0 false false xs ys _ _ _ _ _ (by simpa using blk_new (w2.drewN nq) _) (H2.out.2.2.1.below hb3).c (H2.out.1.below hb3).c HW.out.1 HW.out.2.1).mono ?_
  rintro e w3 ⟨gs, rfl, h1, h2, h3, h4⟩
  have hch : Chg (· = w2.heap.size) w2 w3 := Chg.from_below hb3 h4
  have hb23 : Below w2.heap.size w2 w3 := hch.below (fun k hk => by subst hk; exact Nat.le_refl _)
  have H3 := Aside0.mk (And.intro h1 (And.intro h2 (And.intro h3 (And.intro (H2.out.2.2.1.below hb23) (And.intro (H2.out.1.below hb23) (And.intro (below_then H2.out.2.2.2 H2.out.2.2.2.size hb23) (And.intro H1.out.2.size H2.out.2.1.size)))))))
  clear h1 h2 h3 h4 hch hb23 hb3 hx0 hy0
  go_wp2_with fail
  refine (newInt_call 1 w3 (by omega) (by omega)).mono ?_
  rintro e w4 ⟨g1, os, rfl, h1, h2, h3, h4, h5⟩
  have H4 := Aside0.mk (And.intro (H3.out.1.below h5) (And.intro h2 (And.intro h3 (And.intro h4 (And.intro (H3.out.2.2.2.1.below h5) (And.intro (H3.out.2.2.2.2.1.below h5) (below_then H3.out.2.2.2.2.2.1 H3.out.2.2.2.2.2.1.size h5)))))))
  clear h1 h2 h3 h4 h5
  obtain ⟨z, hz⟩ : ∃ z, cmpI (num false gs) (num false os) = z := ⟨_, rfl⟩
  go_wp2_with fail
  refine (cmp_call w2.heap.size 0 g1 0 false false gs os w4 H4.out.1.c H4.out.2.1.c H3.out.2.1 H4.out.2.2.1 (fun h => by cases h) (fun h => by cases h)).mono ?_
  rintro e w5 ⟨rfl, h1⟩
  rw [hz]
  have hG : z = cmpI (gcdI (val 4294967296 xs) (val 4294967296 ys)) 1 := by rw [← hz]; simp only [num, H3.out.2.2.1, H4.out.2.2.2.1]; rfl
  have h2 := h1.below
  have H5 := Aside0.mk (And.intro (H4.out.1.below h2) (And.intro (H4.out.2.2.2.2.1.below h2) (And.intro (H4.out.2.2.2.2.2.1.below h2) (And.intro (below_then H4.out.2.2.2.2.2.2 H4.out.2.2.2.2.2.2.size h2) hG))))
  clear h1 h2 hG hz
  go_upto_if 33 with (fail)
  go_cut [] (fun wc => ∃ (ps qs : List Int), Aside0 (Low ps qs xs ys ∧ IntB wc w.heap.size false ps ∧ IntB wc w1.heap.size false qs ∧ Below w.heap.size w wc))
  case first =>
    have hn := HW.out.2.2
    have py := HW.out.2.1.pos hn
    have px := HW.out.1.nonneg
    have hG0 := gcd_pos (a := val 4294967296 xs) py
    have hgs : gs ≠ [] := by intro e; have h := H3.out.2.2.1; rw [e] at h; simp only [val] at h; omega
    have hd := gcd_dvd px (show 0 ≤ val 4294967296 ys by omega)
    have HD := Aside0.mk (And.intro hG0 (And.intro hgs (And.intro hd hn)))
    clear hn py px hG0 hgs hd
    by_cases hz : 0 < z
    · have hz1 : decide (0 < z) = true := decide_eq_true hz
      obtain ⟨Ap, cp, hbp, _, _⟩ := H5.out.2.1
      have HBP := Aside0.mk hbp
      clear hbp
      go_wp2_with fail
      refine (quo_call w.heap.size w.heap.size w2.heap.size false false xs gs w5 _ _ HBP.out H5.out.2.1 H5.out.1 HW.out.1 H3.out.2.1 HD.out.2.1).mono ?_
      rintro e w6 ⟨q, r, rfl, h1, h2, h3, h4, h5, h6⟩
      have hnw : ¬ Ty w5 131 w.heap.size := H5.out.2.1.noword
      have hs1 : ¬ w1.heap.size = w.heap.size := by have := H5.out.2.1.lt; have := H1.out.1.lt; omega
      have hs2 : ¬ w2.heap.size = w.heap.size := by have := H1.out.1.lt; have := H3.out.2.2.2.2.2.2.2; omega
      have h7 := H5.out.1.chg h6 (by exact hs2) (fun k hk _ => by subst hk; exact hnw)
      have h8 := H5.out.2.2.1.chg h6 (by exact hs1) (fun k hk _ => by subst hk; exact hnw)
      have h9 : Below w.heap.size w w6 := (Chg.trans (S := fun k => k = w.heap.size) (Chg.of_below H5.out.2.2.2.1) h6 (fun _ _ h => h)).below (fun k hk => by subst hk; exact Nat.le_refl _)
      have H6 := Aside0.mk (And.intro h1 (And.intro h2 (And.intro (And.intro h3.nonneg (And.intro h4 h5)) (And.intro h7 (And.intro h8 h9)))))
      clear h1 h2 h3 h4 h5 h6 h7 h8 h9 hnw hs2 hs1
      obtain ⟨Aq, cq, hbq, _, _⟩ := H6.out.2.2.2.2.1
      have HBQ := Aside0.mk hbq
      clear hbq
      go_wp2_with fail
      refine (quo_call w1.heap.size w1.heap.size w2.heap.size false false ys gs w6 _ _ HBQ.out H6.out.2.2.2.2.1 H6.out.2.2.2.1 HW.out.2.1 H3.out.2.1 HD.out.2.1).mono ?_
      rintro e w7 ⟨q2, r2, rfl, h1, h2, h3, h4, h5, h6⟩
      have hnw : ¬ Ty w6 131 w1.heap.size := H6.out.2.2.2.2.1.noword
      have hs1 : ¬ w.heap.size = w1.heap.size := by have := H1.out.1.lt; omega
      have h8 := H6.out.1.chg h6 (by exact hs1) (fun k hk _ => by subst hk; exact hnw)
      have hle : w.heap.size ≤ w1.heap.size := H1.out.2.size
      have h9 : Below w.heap.size w w7 := (Chg.trans (S := fun k => k = w1.heap.size) (Chg.of_below H6.out.2.2.2.2.2) h6 (fun _ _ h => h)).below (fun k hk => by subst hk; exact hle)
      have H7 := Aside0.mk (And.intro h1 (And.intro h2 (And.intro (And.intro h3.nonneg (And.intro h4 h5)) (And.intro h8 h9))))
      clear h1 h2 h3 h4 h5 h6 h8 h9 hnw hs1 hle
      go_wp2_with fail
      go_meet
      have hgv := H3.out.2.2.1
      have k1 := H6.out.2.2.1
      have k2 := H7.out.2.2.1
      rw [hgv] at k1 k2
      have e1 := exact_div HD.out.1 k1.1 k1.2.1 k1.2.2 HD.out.2.2.1.1
      have e2 := exact_div HD.out.1 k2.1 k2.2.1 k2.2.2 HD.out.2.2.1.2
      have hq2 : q2 ≠ [] := by
        intro e
        rw [e] at e2
        simp only [val] at e2
        have := HW.out.2.1.pos HD.out.2.2.2
        omega
      exact ⟨q, q2, ⟨⟨H6.out.2.1, H7.out.2.1, hq2, e1, e2⟩, by simpa using H7.out.2.2.2.1, by simpa using H7.out.1, H7.out.2.2.2.2⟩⟩
    · have hz1 : decide (0 < z) = false := decide_eq_false hz
      have hG1 : gcdI (val 4294967296 xs) (val 4294967296 ys) = 1 := by
        have h := H5.out.2.2.2.2
        unfold cmpI at h
        have := HD.out.1
        split at h
        · omega
        · split at h
          · assumption
          · omega
      have HG1 := Aside0.mk hG1
      clear hG1
      go_wp2_with fail
      go_meet
      exact ⟨xs, ys, ⟨⟨HW.out.1, HW.out.2.1, HW.out.2.2, by rw [HG1.out]; omega, by rw [HG1.out]; omega⟩, H5.out.2.1, H5.out.2.2.1, H5.out.2.2.2.1⟩⟩
  case rest =>
    obtain ⟨ps, qs, HC⟩ := hcut
    have HN := Aside0.mk HW.out.2.2
    obtain ⟨Ap, cp, hbp, hcp, hUp⟩ := HC.out.2.1
    obtain ⟨Aq, cq, hbq, hcq, hUq⟩ := HC.out.2.2.1
    have hbz : wc.heap[gz]? = some (.cells #[v0, v1, v2, v3] 179 (0, 0)) := (HC.out.2.2.2.block gz (blk_lt HZ.out)).trans HZ.out
    have HZ2 := Aside0.mk hbz
    have HU := Aside0.mk (And.intro hcp (And.intro hUp (And.intro hcq (And.intro hUq (And.intro hbq (show ¬ w1.heap.size = gz by have := blk_lt HZ.out; have := H1.out.2.size; omega))))))
    have hx1 : wc.cell? ⟨w.heap.size, 1, none⟩ = some (.slice Ap ps.length cp) := (blk_cell hbp 1).trans rfl
    clear hbz hbq hUq hcp hUp hcq hbp
    go_wp2_with fail
    go_region_with ((go_at_call 160; refine (put_rat gz ps.length (nx != ny) Ap cp ps _ v0 v1 v2 v3 rfl (by exact HZ2.out) (by first | exact HU.out.2.1 | exact HU.out.2.1.drew) HU.out.1 HC.out.1.1).mono ?_; rintro e w6 ⟨rfl, h4, h5⟩; have HG := Aside0.mk (And.intro h4 h5); clear h4 h5))
    all_goals (have hz0 := HG.out.1; have hq0 : w6.heap[w1.heap.size]? = some (.cells #[.bool false, .slice Aq qs.length cq] 173 (0, 0)) := (HG.out.2.block w1.heap.size (by have := blk_lt HU.out.2.2.2.2.1; simpa using this) HU.out.2.2.2.2.2).trans HU.out.2.2.2.2.1; have hq1 : w6.cell? ⟨w1.heap.size, 0, none⟩ = some (.bool false) := (blk_cell hq0 0).trans rfl; have hq2 : w6.cell? ⟨w1.heap.size, 1, none⟩ = some (.slice Aq qs.length cq) := (blk_cell hq0 1).trans rfl; have hz2 : w6.cell? ⟨gz, 2, none⟩ = some v2 := (blk_cell hz0 2).trans rfl; have hz3 : w6.cell? ⟨gz, 3, none⟩ = some v3 := (blk_cell hz0 3).trans rfl; have hf2 := blk_frozen hz0 2; have hf3 := blk_frozen hz0 3; clear hz0 hq0 hx1; go_wp2_with fail; go_ret; refine ⟨ps, qs, rfl, HC.out.1, ?_⟩)
    all_goals (
      have hch : Chg (· = gz) wc ((w6.setCell { block := gz, off := 2 } (Value.bool false)).setCell { block := gz, off := 3 } (Value.slice Aq qs.length cq)) := ((Chg.from_below (below_drew (Below.refl _ _)) HG.out.2).setCell _ (Or.inl rfl) _).setCell _ (Or.inl rfl) _
      have hn : ¬ Ty wc 131 gz := ty_ne HZ2.out (by decide)
      refine ⟨⟨Ap, cp, Aq, cq, ?_, HU.out.1, HU.out.2.2.1, HU.out.2.1.chg hch (fun k hk _ => by subst hk; exact hn), HU.out.2.2.2.1.chg hch (fun k hk _ => by subst hk; exact hn)⟩, Chg.from_below HC.out.2.2.2 hch⟩
      have h1 := blk_set HG.out.1 2 (.bool false)
      have h2 := blk_set h1 3 (.slice Aq qs.length cq)
      simpa using h2)
end Go.Proofs.YthbdjmopolpjmaaGreatDoor.C
end
section
set_option linter.unusedVariables false
set_option linter.unusedSimpArgs false
namespace Go.Proofs.YthbdjmopolpjmaaGreatDoor.C
open Go.RowKit Go.Proofs.YthbdjmopolpjmaaGreatDoorW.PrintWords Go.Proofs.YthbdjmopolpjmaaGreatDoorW.PrintLast Go.Proofs.YthbdjmopolpjmaaGreatDoorW.PrintMore Go.Proofs.YthbdjmopolpjmaaGreatDoor.F Go.Proofs.YthbdjmopolpjmaaGreatDoor.M
attribute [local go_sem] max2_int min2_int max_two min_two max_three min_three max_four min_four
def Own1 (W : World) (base : Nat) (v : Value) (xs : List Int) : Prop := Kd.R (Kd.int .u32) 131 W base (fun _ => True) v xs
set_option maxHeartbeats 2000000 in
set_option maxRecDepth 100000 in
theorem setString_call (gz : Nat) (s : ByteArray) (base : Int) (w : World) (v0 v1 : Value) (hz : w.heap[gz]? = some (.cells #[v0, v1] 173 (0, 0))) (hs : 0 < s.size) (hl : s.size ≤ 1000) (hd : Num (bytesOf s)) :
    Calls Tryz.prog 158 #[.pointer (some ⟨gz, 0, none⟩), .string s, .int .i64 base] w fun e w' => ∃ xs, e = .returned (.tuple #[.pointer (some ⟨gz, 0, none⟩), .bool true]) ∧ Wd xs ∧ val 4294967296 xs = dec 0 (bytesOf s) ∧ IntB w' gz false xs ∧ Chg (· = gz) w w' := by
  have HZ := Aside0.mk hz
  have HD := Aside0.mk (And.intro hd hl)
  have kb := fun (t : ByteArray) W => print_bytes (P := Tryz.prog) 9 50 5 Tryz.underlying9 Tryz.underlying50 Tryz.underlying5 t W
  have hl1 : decide (0 < (s.size : Int)) = true := decide_eq_true (by omega)
  have hl2 : decide (0 < s.size) = true := decide_eq_true hs
  have hb := num_rd hd 0 (by rw [bytesOf_length]; exact hs)
  rw [rd_bytesOf] at hb
  have c1 : ((bt s 0) == 45) = false := beq_eq_false_iff_ne.mpr (by omega)
  have c2 : ((bt s 0) == 43) = false := beq_eq_false_iff_ne.mpr (by omega)
  have hx : ∀ h : 0 < s.size, ((s[0]'h).toNat : Int) = bt s 0 := bt_at s 0
  have hq := eq_true hs
  have hne : s.toList.isEmpty = false := by
    rw [ByteArray.toList_eq]
    have h := data_length s
    cases hh : s.data.toList with
    | nil => rw [hh] at h; simp at h; omega
    | cons a b => rfl
  clear hz hd hl hb hs
  go_enter Tryz.func158, Tryz.ntmps158
  go_wp2_with fail
  go_loopg [1, 9] s.size (fun kq v1 v9 W => ∃ (t : ByteArray) (xs : List Int), v1 = .string t ∧ Aside0 (t.size ≤ kq ∧ t.size ≤ s.size ∧ Num (bytesOf t) ∧ dec (val 4294967296 xs) (bytesOf t) = dec 0 (bytesOf s) ∧ Dig 4294967296 xs ∧ xs.length + t.size ≤ s.size ∧ Own1 W w.heap.size v9 xs ∧ Below w.heap.size w W))
  case atStart => exact ⟨s, [], rfl, ⟨Nat.le_refl _, Nat.le_refl _, HD.out.1, rfl, dig_nil _, by simp, Kd.R_nil _ _ _ _ _, Below.refl _ _⟩⟩
  case round =>
    clear c1 c2 hx hq hl1 hl2 hne
    obtain ⟨t, xs, rfl, HR⟩ := hrel
    by_cases ht : t.size = 0
    · have hl1 : decide (0 < (t.size : Int)) = false := decide_eq_false (by omega)
      have hl2 : decide (0 < t.size) = false := decide_eq_false (by omega)
      have ht0 := Aside0.mk ht
      clear ht
      obtain ⟨A, c, rfl, hc, hU⟩ := U.of_R HR.out.2.2.2.2.2.2.1
      have HU := Aside0.mk (And.intro hc hU)
      clear hc hU
      obtain ⟨r, hr, hv, hcall⟩ := put_int gz false A c xs wr v0 v1 ((HR.out.2.2.2.2.2.2.2.block gz (blk_lt HZ.out)).trans HZ.out) HU.out.2 HU.out.1 HR.out.2.2.2.2.1 (by have := HR.out.2.2.2.2.2.1; have := HD.out.2; omega)
      have HP := Aside0.mk (And.intro hr hv)
      have HC := Aside0.mk hcall
      clear hr hv hcall
      go_wp2_with fail
      refine HC.out.mono ?_
      rintro e w2 ⟨rfl, h1, h2⟩
      have HF := Aside0.mk (And.intro h1 h2)
      clear h1 h2
      go_wp2_with fail
      go_ret2
      refine ⟨r, rfl, HP.out.1, ?_, by simpa using HF.out.1, Chg.from_below HR.out.2.2.2.2.2.2.2 HF.out.2⟩
      have h := HR.out.2.2.2.1
      have hb : bytesOf t = [] := List.eq_nil_of_length_eq_zero (by rw [bytesOf_length]; exact ht0.out)
      rw [hb] at h
      exact HP.out.2.trans h
    · have hl1 : decide (0 < (t.size : Int)) = true := decide_eq_true (by omega)
      have hl2 : decide (0 < t.size) = true := decide_eq_true (by omega)
      have HT := Aside0.mk ht
      clear ht
      obtain ⟨k1, rfl⟩ : ∃ k1, gk = k1 + 1 := ⟨gk - 1, by have := HR.out.1; have := HT.out; omega⟩
      obtain ⟨n, hn, hn0, hn9, hnt⟩ : ∃ n : Int, wrap64 ((wrap64 ((t.size : Int) - 1)).tmod 9 + 1) = n ∧ 0 ≤ n ∧ n ≤ 9 ∧ 0 < n ∧ n ≤ (t.size : Int) := by
        have h0 := HT.out
        have h1 := HR.out.2.1
        have h2 := HD.out.2
        rw [w64 (n := (t.size : Int) - 1) (by omega) (by omega), Int.tmod_eq_emod_of_nonneg (by omega), w64 (by omega) (by omega)]
        exact ⟨_, rfl, by omega, by omega, by omega, by omega⟩
      obtain ⟨u, hu⟩ : ∃ u, t.extract 0 n.toNat = u := ⟨_, rfl⟩
      obtain ⟨t2, ht2⟩ : ∃ t2, t.extract n.toNat t.size = t2 := ⟨_, rfl⟩
      have husz : u.size = n.toNat := by rw [← hu]; simp only [ByteArray.size_extract]; omega
      have ht2z : t2.size = t.size - n.toNat := by rw [← ht2]; simp only [ByteArray.size_extract]; omega
      have hub : bytesOf u = (bytesOf t).take n.toNat := by rw [← hu, bytesOf_extract _ _ _ (by omega)]; simp
      have ht2b : bytesOf t2 = (bytesOf t).drop n.toNat := by rw [← ht2, bytesOf_extract _ _ _ (by omega), List.take_of_length_le (by rw [bytesOf_length]; omega)]
      have hsl : ∀ W, (Instr.slice 9 (.string t) none (some (.int .i64 n)) none).run Tryz.prog W = .ok (.string u) W := by
        intro W
        have h := run_slice_string_to_if (P := Tryz.prog) W 9 t .i64 n Tryz.underlying9
        rw [h]
        simp [hu, hn0, hnt.2]
      have hsl2 : ∀ W, (Instr.slice 9 (.string t) (some (.int .i64 n)) none none).run Tryz.prog W = .ok (.string t2) W := by
        intro W
        have h := run_slice_string_from_if (P := Tryz.prog) W 9 t .i64 n Tryz.underlying9
        rw [h]
        simp [ht2, hn0, hnt.2]
      have HN := Aside0.mk (And.intro hn0 (And.intro hn9 (And.intro hnt (And.intro husz (And.intro ht2z (And.intro hub ht2b))))))
      clear hn0 hn9 hnt husz ht2z hub ht2b hu ht2
      go_upto_region 9 with (fail)
      rw [hn]
      go_wp2_with fail
      go_loopg [11, 12, 51] u.size (fun kq v11 v12 v51 W => ∃ (part times j : Int), v11 = .int .u32 part ∧ v12 = .int .u32 times ∧ v51 = .int .i64 j ∧ W = Lib.bytesWorld wr 5 u ∧ Aside0 (0 ≤ j ∧ j ≤ u.size ∧ u.size ≤ kq + j ∧ part = dec 0 ((bytesOf u).take j.toNat) ∧ times = 10 ^ j.toNat))
      case atStart => exact ⟨0, 1, 0, rfl, rfl, rfl, rfl, ⟨by omega, by omega, by omega, rfl, rfl⟩⟩
      case round =>
        obtain ⟨part, times, j, rfl, rfl, rfl, rfl, HJ⟩ := hrel
        by_cases hj : j < (u.size : Int)
        · have hj1 : decide (j < (u.size : Int)) = true := decide_eq_true hj
          have hj2 := eq_true HJ.out.1
          have hj3 := eq_true hj
          have hlu : (bytesOf u).length = u.size := bytesOf_length u
          have hul : u.size ≤ 1000 := by have := HN.out.2.2.2.1; have := HN.out.2.1; omega
          obtain ⟨ad, e, hx⟩ := (bytes_reads wr 5 u (by omega)).at_ j HJ.out.1 hj
          cases e
          have hx : (Lib.bytesWorld wr 5 u).cell? { block := wr.heap.size, off := j.toNat } = some (.int .u8 (rd (bytesOf u) j)) := by rw [add_plain] at hx; simpa using hx
          have hc := num_rd (show Num (bytesOf u) by rw [HN.out.2.2.2.2.2.1]; exact HR.out.2.2.1.take _) j (by rw [hlu]; have := HJ.out.1; omega)
          have hts := dec_take_succ (xs := bytesOf u) 0 j.toNat (by rw [hlu]; have := HJ.out.1; omega)
          have hjj : ((j.toNat : Nat) : Int) = j := by have := HJ.out.1; omega
          rw [hjj] at hts
          obtain ⟨c, hcc⟩ : ∃ c, rd (bytesOf u) j = c := ⟨_, rfl⟩
          rw [hcc] at hx hc hts
          have hc1 : decide (c < 48) = false := decide_eq_false (by omega)
          have hc2 : decide (57 < c) = false := decide_eq_false (by omega)
          have hpr := dec_range ((show Num (bytesOf u) by rw [HN.out.2.2.2.2.2.1]; exact HR.out.2.2.1.take _).take j.toNat)
          have HC := Aside0.mk (And.intro hc (And.intro hts (And.intro hpr (And.intro hlu hjj))))
          clear hc hts hpr hlu hj hjj hcc
          go_wp2_with fail
          have hp9 := pow10_le j.toNat (by have := HN.out.2.1; have := HN.out.2.2.2.1; have := HJ.out.1; have := of_eq_true hj3; omega)
          have hp8 := pow10_le (j.toNat + 1) (by have := HN.out.2.1; have := HN.out.2.2.2.1; have := HJ.out.1; have := of_eq_true hj3; omega)
          have hlt : ((bytesOf u).take j.toNat).length = j.toNat := by rw [List.length_take, HC.out.2.2.2.1]; have := HJ.out.1; have := of_eq_true hj3; omega
          have hpr := HC.out.2.2.1
          rw [hlt, ← HJ.out.2.2.2.1] at hpr
          have hts := HC.out.2.1
          rw [← HJ.out.2.2.2.1] at hts
          have hc := HC.out.1
          have hj0 := HJ.out.1
          have hjn := of_eq_true hj3
          have hkq := HJ.out.2.2.1
          have hti := HJ.out.2.2.2.2
          obtain ⟨k2, rfl⟩ : ∃ k2, gk = k2 + 1 := ⟨gk - 1, by omega⟩
          rw [Int.pow_succ, ← hti] at hp8
          rw [← hti] at hp9 hpr
          have hj4 : (j + 1).toNat = j.toNat + 1 := by omega
          have e1 : (part * 10 % 4294967296 + (c - 48) % 256) % 4294967296 = part * 10 + (c - 48) := by omega
          have e2 : times * 10 % 4294967296 = times * 10 := by omega
          have e3 : wrap64 (j + 1) = j + 1 := w64 (by omega) (by omega)
          go_roundg k2
          case measure => omega
          case rel => exact ⟨part * 10 + (c - 48), times * 10, j + 1, by rw [e1], by rw [e2], by rw [e3], rfl, ⟨by omega, by omega, by omega, by rw [hj4]; exact hts.symm, by rw [hj4, Int.pow_succ, ← hti]⟩⟩
        · have hj1 : decide (j < (u.size : Int)) = false := decide_eq_false hj
          have HJ2 := Aside0.mk (show j = u.size by have := HJ.out.2.1; omega)
          clear hj
          have hlu : (bytesOf u).length = u.size := bytesOf_length u
          have hju : (bytesOf u).take j.toNat = bytesOf u := List.take_of_length_le (by rw [hlu, HJ2.out]; omega)
          have hnu : Num (bytesOf u) := by rw [HN.out.2.2.2.2.2.1]; exact HR.out.2.2.1.take _
          have hpr := dec_range hnu
          have hun : u.size = n.toNat := HN.out.2.2.2.1
          have hn9 := HN.out.2.1
          have hp9 := pow10_le u.size (by omega)
          have hpart := HJ.out.2.2.2.1
          have htimes := HJ.out.2.2.2.2
          rw [hju] at hpart
          rw [show j.toNat = u.size by rw [HJ2.out]; omega] at htimes
          rw [hlu, ← hpart, ← htimes] at hpr
          rw [← htimes] at hp9
          obtain ⟨r, he, hrd, hrl, hrv⟩ := more_tells (add := part) HR.out.2.2.2.2.1 (show 0 ≤ times by omega) (by omega) (by omega) (by omega) (show xs.length < 35184372088832 by have := HR.out.2.2.2.2.2.1; have := HD.out.2; omega)
          obtain ⟨kk, hk⟩ := he.rounds
          have HM := Aside0.mk (And.intro hk (And.intro hrd (And.intro hrl hrv)))
          have HE := Aside0.mk (And.intro hpart htimes)
          have hbb : Below wr.heap.size wr (Lib.bytesWorld wr 5 u) := bytes_below (Below.refl _ _) (Nat.le_refl _) 5 u
          have HB := Aside0.mk (And.intro (show Own1 (Lib.bytesWorld wr 5 u) w.heap.size u9 xs from Kd.R_below HR.out.2.2.2.2.2.2.1 hbb) (below_then HR.out.2.2.2.2.2.2.2 HR.out.2.2.2.2.2.2.2.size hbb))
          clear hlu hju hnu hpr hun hn9 hp9 hpart htimes he hk hrd hrl hrv hbb
          go_wp2_with fail
          go_region_with ((go_at_call 204; refine (ample_more.calls kk (fun _ => True) u9 xs times part r w _ (by first | exact HB.out.2 | exact below_drew HB.out.2) (by first | exact HB.out.1 | exact Kd.R_drew HB.out.1) HM.out.1).mono ?_; rintro e w3 ⟨v3, rfl, h1, h2, _⟩; have HF := Aside0.mk (And.intro h1 h2); clear h1 h2))
          all_goals (
            go_wp2_with fail
            go_roundg k1
            case measure => omega
            case rel =>
              have h1 := HN.out
              have h2 := HR.out
              refine ⟨t2, r, rfl, ⟨by omega, by omega, ?_, ?_, HM.out.2.1, by have := HM.out.2.2.1; omega, Kd.R_mono HF.out.1 (fun _ _ => trivial), HF.out.2⟩⟩
              · rw [h1.2.2.2.2.2.2]; exact h2.2.2.1.drop _
              · rw [HM.out.2.2.2, ← h2.2.2.2.1, dec_cut _ (bytesOf t) n.toNat, h1.2.2.2.2.2.2, ← h1.2.2.2.2.2.1, dec_lin (bytesOf u), bytesOf_length, HE.out.1, HE.out.2])
end Go.Proofs.YthbdjmopolpjmaaGreatDoor.C
end
section
namespace Go.Proofs.YthbdjmopolpjmaaGreatDoor.F
open Go.RowKit Go.Proofs.YthbdjmopolpjmaaGreatDoorW.PrintWords Go.Proofs.YthbdjmopolpjmaaGreatDoorW.PrintLast Go.Proofs.YthbdjmopolpjmaaGreatDoorW.PrintMore
attribute [local go_sem] max2_int min2_int max_two min_two max_three min_three max_four min_four
set_option linter.unusedVariables false
set_option linter.unusedSimpArgs false
def stringslite_HasPrefix.f (a0 : ByteArray) (a1 : ByteArray) : Option (Bool) := if (a0.size : Int) ≥ (a1.size : Int) then (if 0 ≤ (a1.size : Int) then (if (a1.size : Int) ≤ (a0.size : Int) then (some ((a0.extract 0 ((a1.size : Int) : Int).toNat).toList == a1.toList)) else (none)) else (none)) else (some false)
set_option maxHeartbeats 8000000 in
set_option maxRecDepth 100000 in
theorem stringslite_HasPrefix.calls (a0 : ByteArray) (a1 : ByteArray) (r : Bool) (w : World) (h : stringslite_HasPrefix.f a0 a1 = some r) :
    Calls Tryz.prog 233 #[.string a0, .string a1] w fun e w' => e = .returned (.bool r) ∧ Drawn0 w w' := by
  have H : (if (a0.size : Int) ≥ (a1.size : Int) then (if 0 ≤ (a1.size : Int) then (if (a1.size : Int) ≤ (a0.size : Int) then (some ((a0.extract 0 ((a1.size : Int) : Int).toNat).toList == a1.toList)) else (none)) else (none)) else (some false)) = some r := h
  clear h
  by_cases c3 : (a0.size : Int) ≥ (a1.size : Int)
  · rw [if_pos c3] at H
    have c3b0 : decide ((a1.size : Int) ≤ (a0.size : Int)) = true := decide_eq_true c3
    have c3b1 : decide (a1.size ≤ a0.size) = true := decide_eq_true (Int.ofNat_le.mp c3)
    clear c3
    by_cases c4 : 0 ≤ (a1.size : Int)
    · rw [if_pos c4] at H
      have c4b0 := eq_true c4
      have c4b1 : decide (0 ≤ (a1.size : Int)) = true := decide_eq_true c4
      clear c4
      by_cases c5 : (a1.size : Int) ≤ (a0.size : Int)
      · rw [if_pos c5] at H
        have c5b0 := eq_true c5
        have c5b1 : decide ((a1.size : Int) ≤ (a0.size : Int)) = true := decide_eq_true c5
        clear c5
        obtain rfl := Option.some.inj H
        go_enter Tryz.func233, Tryz.ntmps233
        go_wp2
        go_ret
        exact ⟨by first | rfl | (simp; done) | (simp [*]; done), by repeat (first | exact Drawn0.refl _ | apply Drawn0.step)⟩
      · rw [if_neg c5] at H
        exact absurd H (by simp)
    · rw [if_neg c4] at H
      exact absurd H (by simp)
  · rw [if_neg c3] at H
    have c3b0 : decide ((a1.size : Int) ≤ (a0.size : Int)) = false := decide_eq_false c3
    have c3b1 : decide (a1.size ≤ a0.size) = false := decide_eq_false (fun h => c3 (Int.ofNat_le.mpr h))
    clear c3
    obtain rfl := Option.some.inj H
    go_enter Tryz.func233, Tryz.ntmps233
    go_wp2
    go_ret
    exact ⟨by first | rfl | (simp; done) | (simp [*]; done), by repeat (first | exact Drawn0.refl _ | apply Drawn0.step)⟩
end Go.Proofs.YthbdjmopolpjmaaGreatDoor.F
end
section
namespace Go.Proofs.YthbdjmopolpjmaaGreatDoor.F
open Go.RowKit Go.Proofs.YthbdjmopolpjmaaGreatDoorW.PrintWords Go.Proofs.YthbdjmopolpjmaaGreatDoorW.PrintLast Go.Proofs.YthbdjmopolpjmaaGreatDoorW.PrintMore
attribute [local go_sem] max2_int min2_int max_two min_two max_three min_three max_four min_four
set_option linter.unusedVariables false
set_option linter.unusedSimpArgs false
def stringslite_CutPrefix.f (a0 : ByteArray) (a1 : ByteArray) : Option (ByteArray × Bool) := (stringslite_HasPrefix.f a0 a1).bind fun t132 => (if t132 = true then (if 0 ≤ (a1.size : Int) then (if (a1.size : Int) ≤ (a0.size : Int) then (some (a0.extract ((a1.size : Int) : Int).toNat a0.size, true)) else (none)) else (none)) else (some (a0, false)))
set_option maxHeartbeats 8000000 in
set_option maxRecDepth 100000 in
theorem stringslite_CutPrefix.calls (a0 : ByteArray) (a1 : ByteArray) (r1 : ByteArray) (r2 : Bool) (w : World) (h : stringslite_CutPrefix.f a0 a1 = some (r1, r2)) :
    Calls Tryz.prog 203 #[.string a0, .string a1] w fun e w' => e = .returned (.tuple #[.string r1, .bool r2]) ∧ Drawn0 w w' := by
  have H : ((stringslite_HasPrefix.f a0 a1).bind fun t132 => (if t132 = true then (if 0 ≤ (a1.size : Int) then (if (a1.size : Int) ≤ (a0.size : Int) then (some (a0.extract ((a1.size : Int) : Int).toNat a0.size, true)) else (none)) else (none)) else (some (a0, false)))) = some (r1, r2) := h
  clear h
  replace H := Option.bind_eq_some_iff.mp H
  obtain ⟨t132, A30, H⟩ := H
  replace H : (if t132 = true then (if 0 ≤ (a1.size : Int) then (if (a1.size : Int) ≤ (a0.size : Int) then (some (a0.extract ((a1.size : Int) : Int).toNat a0.size, true)) else (none)) else (none)) else (some (a0, false))) = some (r1, r2) := H
  have A3 := Aside0.mk A30
  clear A30
  by_cases c4 : t132 = true
  · subst c4
    have H1 : (if 0 ≤ (a1.size : Int) then (if (a1.size : Int) ≤ (a0.size : Int) then (some (a0.extract ((a1.size : Int) : Int).toNat a0.size, true)) else (none)) else (none)) = some (r1, r2) := by rw [if_pos rfl] at H; exact H
    clear H
    have H := H1
    clear H1
    by_cases c5 : 0 ≤ (a1.size : Int)
    · rw [if_pos c5] at H
      have c5b0 := eq_true c5
      have c5b1 : decide (0 ≤ (a1.size : Int)) = true := decide_eq_true c5
      clear c5
      by_cases c6 : (a1.size : Int) ≤ (a0.size : Int)
      · rw [if_pos c6] at H
        have c6b0 := eq_true c6
        have c6b1 : decide ((a1.size : Int) ≤ (a0.size : Int)) = true := decide_eq_true c6
        clear c6
        simp only [Option.some.injEq, Prod.mk.injEq] at H
        obtain ⟨rfl, rfl⟩ := H
        go_enter Tryz.func203, Tryz.ntmps203
        go_wp2_with (first | ((with_reducible refine gate_callee (f := 233) rfl ?_); refine goesL_ (some 8) rfl rfl Tryz.func233 (by kernel_rfl) rfl #[.string a0, .string a1] rfl (by (try simp only [List.map_toArray, List.map_cons, List.map_nil]); first | done | rfl | (simp only [List.length_drop, List.length_take]; rfl)) ?_; (with_reducible refine (stringslite_HasPrefix.calls a0 a1 true _ A3.out).mono ?_); rintro e w' ⟨rfl, ⟨nd, rfl⟩⟩; refine ⟨_, rfl, ?_⟩))
        go_ret2
        exact ⟨by first | rfl | (simp; done) | (simp [*]; done), by repeat (first | exact Drawn0.refl _ | apply Drawn0.step)⟩
      · rw [if_neg c6] at H
        exact absurd H (by simp)
    · rw [if_neg c5] at H
      exact absurd H (by simp)
  · replace c4 := Bool.eq_false_iff.mpr c4
    subst c4
    have H1 : (some (a0, false)) = some (r1, r2) := by rw [if_neg (show ¬ (false = true) by decide)] at H; exact H
    clear H
    have H := H1
    clear H1
    simp only [Option.some.injEq, Prod.mk.injEq] at H
    obtain ⟨rfl, rfl⟩ := H
    go_enter Tryz.func203, Tryz.ntmps203
    go_wp2_with (first | ((with_reducible refine gate_callee (f := 233) rfl ?_); refine goesL_ (some 8) rfl rfl Tryz.func233 (by kernel_rfl) rfl #[.string a0, .string a1] rfl (by (try simp only [List.map_toArray, List.map_cons, List.map_nil]); first | done | rfl | (simp only [List.length_drop, List.length_take]; rfl)) ?_; (with_reducible refine (stringslite_HasPrefix.calls a0 a1 false _ A3.out).mono ?_); rintro e w' ⟨rfl, ⟨nd, rfl⟩⟩; refine ⟨_, rfl, ?_⟩))
    go_ret2
    exact ⟨by first | rfl | (simp; done) | (simp [*]; done), by repeat (first | exact Drawn0.refl _ | apply Drawn0.step)⟩
end Go.Proofs.YthbdjmopolpjmaaGreatDoor.F
end
section
namespace Go.Proofs.YthbdjmopolpjmaaGreatDoor.F
open Go.RowKit Go.Proofs.YthbdjmopolpjmaaGreatDoorW.PrintWords Go.Proofs.YthbdjmopolpjmaaGreatDoorW.PrintLast Go.Proofs.YthbdjmopolpjmaaGreatDoorW.PrintMore
attribute [local go_sem] max2_int min2_int max_two min_two max_three min_three max_four min_four
set_option linter.unusedVariables false
set_option linter.unusedSimpArgs false
def strings_CutPrefix.f (a0 : ByteArray) (a1 : ByteArray) : Option (ByteArray × Bool) := (stringslite_CutPrefix.f a0 a1).bind fun bt133 => (some (bt133.1, bt133.2))
set_option maxHeartbeats 8000000 in
set_option maxRecDepth 100000 in
theorem strings_CutPrefix.calls (a0 : ByteArray) (a1 : ByteArray) (r1 : ByteArray) (r2 : Bool) (w : World) (h : strings_CutPrefix.f a0 a1 = some (r1, r2)) :
    Calls Tryz.prog 155 #[.string a0, .string a1] w fun e w' => e = .returned (.tuple #[.string r1, .bool r2]) ∧ Drawn0 w w' := by
  have H : ((stringslite_CutPrefix.f a0 a1).bind fun bt133 => (some (bt133.1, bt133.2))) = some (r1, r2) := h
  clear h
  replace H := Option.bind_eq_some_iff.mp H
  obtain ⟨⟨t133, t134⟩, A30, H⟩ := H
  replace H : (some (t133, t134)) = some (r1, r2) := H
  have A3 := Aside0.mk A30
  clear A30
  simp only [Option.some.injEq, Prod.mk.injEq] at H
  obtain ⟨rfl, rfl⟩ := H
  go_enter Tryz.func155, Tryz.ntmps155
  go_wp2_with (first | ((with_reducible refine gate_callee (f := 203) rfl ?_); refine goesL_ (some 8) rfl rfl Tryz.func203 (by kernel_rfl) rfl #[.string a0, .string a1] rfl (by (try simp only [List.map_toArray, List.map_cons, List.map_nil]); first | done | rfl | (simp only [List.length_drop, List.length_take]; rfl)) ?_; (with_reducible refine (stringslite_CutPrefix.calls a0 a1 t133 t134 _ A3.out).mono ?_); rintro e w' ⟨rfl, ⟨nd, rfl⟩⟩; refine ⟨_, rfl, ?_⟩))
  go_ret2
  exact ⟨by first | rfl | (simp; done) | (simp [*]; done), by repeat (first | exact Drawn0.refl _ | apply Drawn0.step)⟩
end Go.Proofs.YthbdjmopolpjmaaGreatDoor.F
end
section
set_option linter.unusedVariables false
set_option linter.unusedSimpArgs false
namespace Go.Proofs.YthbdjmopolpjmaaGreatDoor.C
open Go.RowKit Go.Proofs.YthbdjmopolpjmaaGreatDoorW.PrintWords Go.Proofs.YthbdjmopolpjmaaGreatDoorW.PrintLast Go.Proofs.YthbdjmopolpjmaaGreatDoorW.PrintMore Go.Proofs.YthbdjmopolpjmaaGreatDoor.F Go.Proofs.YthbdjmopolpjmaaGreatDoor.M
attribute [local go_sem] max2_int min2_int max_two min_two max_three min_three max_four min_four
def minus (s : ByteArray) : Bool := decide (0 < s.size ∧ bt s 0 = 45)
def body (s : ByteArray) : ByteArray := if minus s then s.extract 1 s.size else s
def WholeR (s : ByteArray) : Prop := NatR (body s) ∧ (minus s = true → dv (body s) ≠ 0)
theorem extract_one (s : ByteArray) (h : 0 < s.size) : ((s.extract 0 1).toList == [45]) = decide (bt s 0 = 45) := by
  have h1 := data_length s
  rw [ByteArray.toList_eq]
  have e : (s.extract 0 1).data.toList = s.data.toList.take 1 := by simp [ByteArray.data_extract, Array.toList_extract, List.extract]
  rw [e]
  have hr := rd_bytesOf s 0
  cases hd : s.data.toList with
  | nil => rw [hd] at h1; simp at h1; omega
  | cons a b =>
    have hb : bt s 0 = (a.toNat : Int) := by rw [← hr]; simp [bytesOf, hd, rd]
    rw [hb]
    simp only [List.take_succ_cons, List.take_zero]
    by_cases ha : a = 45
    · subst ha; decide
    · have : ¬ ((a.toNat : Int) = 45) := fun h => ha (UInt8.toNat_inj.1 (by simp; omega))
      rw [decide_eq_false this]
      simp [ha]
theorem cutPrefix_is (s : ByteArray) : strings_CutPrefix.f s ⟨#[45]⟩ = some (body s, minus s) := by
  unfold strings_CutPrefix.f stringslite_CutPrefix.f stringslite_HasPrefix.f
  have h1 : ((⟨#[45]⟩ : ByteArray).size : Int) = 1 := rfl
  rw [h1]
  by_cases h : 0 < s.size
  · rw [if_pos (by omega), if_pos (by omega), if_pos (by omega)]
    have e := extract_one s h
    have e2 : (⟨#[45]⟩ : ByteArray).toList = [45] := by rw [ByteArray.toList_eq]
    rw [e2, show ((1 : Int).toNat) = 1 from rfl, e]
    simp only [Option.bind_some]
    unfold body minus
    by_cases h2 : bt s 0 = 45
    · rw [decide_eq_true h2, if_pos rfl, if_pos (by omega), if_pos (by omega)]
      simp [h, h2]
    · rw [decide_eq_false h2]
      simp [h2]
  · rw [if_neg (by omega)]
    simp only [Option.bind_some]
    unfold body minus
    simp [h]
set_option maxHeartbeats 1000000 in
set_option maxRecDepth 100000 in
theorem natural_yes (s : ByteArray) (w : World) (h : NatR s) : Calls Tryz.prog 112 #[.string s] w fun e w' => ∃ g xs, e = .returned (.pointer (some ⟨g, 0, none⟩)) ∧ w.heap.size ≤ g ∧ IntB w' g false xs ∧ Wd xs ∧ val 4294967296 xs = dv s ∧ Below w.heap.size w w' := by
  obtain ⟨b, he, hb⟩ := natR_tells s
  obtain ⟨k, hk⟩ := he.rounds
  obtain rfl := hb.2 h
  have HK := Aside0.mk (And.intro hk h)
  clear hk hb he h
  go_enter Tryz.func112, Tryz.ntmps112
  go_wp2_with fail
  refine (nat_Right.calls k s true _ HK.out.1).mono ?_
  rintro e w1 ⟨rfl, h1⟩
  have hb1 := h1.below
  have HF := Aside0.mk hb1
  clear h1 hb1
  go_wp2_with fail
  refine (setString_call w1.heap.size s 10 _ _ _ (blk_new w1 _) HK.out.2.1 (by have := HK.out.2.2.1; omega) HK.out.2.2.2.2).mono ?_
  rintro e w2 ⟨xs, rfl, h1, h2, h3, h4⟩
  have hb2 : Below w.heap.size w w2 := below_then HF.out HF.out.size ((Chg.from_below (below_alloc (Below.refl _ _) _) h4).below (fun k hk => by subst hk; exact Nat.le_refl _))
  have HG := Aside0.mk (And.intro HF.out.size (And.intro h3 (And.intro h1 (And.intro h2 hb2))))
  clear h1 h2 h3 h4 hb2
  go_wp2_with fail
  go_ret
  exact ⟨w1.heap.size, xs, rfl, HG.out⟩
set_option maxHeartbeats 1000000 in
set_option maxRecDepth 100000 in
theorem natural_no (s : ByteArray) (w : World) (h : ¬ NatR s) : Calls Tryz.prog 112 #[.string s] w fun e w' => e = .returned (.pointer none) ∧ Below w.heap.size w w' := by
  obtain ⟨b, he, hb⟩ := natR_tells s
  obtain ⟨k, hk⟩ := he.rounds
  obtain rfl : b = false := by cases b with | false => rfl | true => exact absurd (hb.1 rfl) h
  have HK := Aside0.mk hk
  clear hk hb he h
  go_enter Tryz.func112, Tryz.ntmps112
  go_wp2_with fail
  refine (nat_Right.calls k s false _ HK.out).mono ?_
  rintro e w1 ⟨rfl, h1⟩
  have hb1 := h1.below
  have HF := Aside0.mk hb1
  clear h1 hb1
  go_wp2_with fail
  go_ret
  exact ⟨rfl, HF.out⟩
set_option maxHeartbeats 1000000 in
set_option maxRecDepth 100000 in
theorem whole_yes (s : ByteArray) (w : World) (h : WholeR s) : Calls Tryz.prog 111 #[.string s] w fun e w' => ∃ g xs, e = .returned (.pointer (some ⟨g, 0, none⟩)) ∧ w.heap.size ≤ g ∧ IntB w' g (minus s) xs ∧ Wd xs ∧ val 4294967296 xs = dv (body s) ∧ Below w.heap.size w w' := by
  have HK := Aside0.mk h
  obtain ⟨m, hm⟩ : ∃ m, minus s = m := ⟨_, rfl⟩
  have HC := Aside0.mk (cutPrefix_is s)
  have HM := Aside0.mk hm
  rw [hm]
  clear h hm
  go_enter Tryz.func111, Tryz.ntmps111
  go_wp2_with fail
  refine (strings_CutPrefix.calls s ⟨#[45]⟩ (body s) m _ (by rw [HC.out, HM.out])).mono ?_
  rintro e w1 ⟨rfl, h1⟩
  have hb1 := h1.below
  have HF := Aside0.mk hb1
  clear h1 hb1
  go_wp2_with fail
  refine (natural_yes (body s) _ HK.out.1).mono ?_
  rintro e w2 ⟨g, xs, rfl, h1, h2, h3, h4, h5⟩
  have HG := Aside0.mk (And.intro (Nat.le_trans HF.out.size h1) (And.intro h2 (And.intro h3 (And.intro h4 (below_then HF.out HF.out.size h5)))))
  clear h1 h2 h3 h4 h5
  cases m with
  | false =>
    go_wp2_with fail
    go_ret
    exact ⟨g, xs, rfl, HG.out⟩
  | true =>
    have hx : xs ≠ [] := by
      intro e
      have h1 := HG.out.2.2.2.1
      rw [e] at h1
      exact HK.out.2 HM.out (by simpa [val] using h1.symm)
    have hs : sgn false xs = 1 := by simp [sgn, hx]
    have HX := Aside0.mk (And.intro hx hs)
    clear hx hs
    go_wp2_with fail
    refine (sign_call g 0 false xs _ HG.out.2.1.c).mono ?_
    rintro e w' ⟨rfl, rfl⟩
    rw [HX.out.2]
    obtain ⟨A, c, hb, _⟩ := HG.out.2.1
    have HB := Aside0.mk hb
    clear hb
    go_wp2_with fail
    refine (neg_call g g 0 false xs _ _ _ HB.out HG.out.2.1.c HG.out.2.2.1).mono ?_
    rintro e w3 ⟨rfl, h1, h2⟩
    have HH := Aside0.mk (And.intro h1 h2)
    clear h1 h2
    go_wp2_with fail
    go_ret
    refine ⟨g, xs, rfl, HG.out.1, ?_, HG.out.2.2.1, HG.out.2.2.2.1, ?_⟩
    · have h := HH.out.1
      have e : (!false && !xs.isEmpty) = true := by cases xs with | nil => exact absurd rfl HX.out.1 | cons _ _ => rfl
      rwa [e] at h
    · exact (Chg.from_below HG.out.2.2.2.2 HH.out.2).below (fun k hk => by subst hk; exact HG.out.1)
end Go.Proofs.YthbdjmopolpjmaaGreatDoor.C
end
section
set_option linter.unusedVariables false
set_option linter.unusedSimpArgs false
namespace Go.Proofs.YthbdjmopolpjmaaGreatDoor.C
open Go.RowKit Go.Proofs.YthbdjmopolpjmaaGreatDoorW.PrintWords Go.Proofs.YthbdjmopolpjmaaGreatDoorW.PrintLast Go.Proofs.YthbdjmopolpjmaaGreatDoorW.PrintMore Go.Proofs.YthbdjmopolpjmaaGreatDoor.F Go.Proofs.YthbdjmopolpjmaaGreatDoor.M
attribute [local go_sem] max2_int min2_int max_two min_two max_three min_three max_four min_four
def RatR (n d : ByteArray) : Prop := WholeR n ∧ NatR d ∧ dv d ≠ 0 ∧ gcdI (dv (body n)) (dv d) = 1
def WholeAns (s : ByteArray) (w : World) (p : Option Addr) : Prop := (WholeR s ∧ ∃ g xs, p = some ⟨g, 0, none⟩ ∧ IntB w g (minus s) xs ∧ Wd xs ∧ val 4294967296 xs = dv (body s)) ∨ (¬ WholeR s ∧ p = none)
def NatAns (s : ByteArray) (w : World) (p : Option Addr) : Prop := (NatR s ∧ ∃ g xs, p = some ⟨g, 0, none⟩ ∧ IntB w g false xs ∧ Wd xs ∧ val 4294967296 xs = dv s) ∨ (¬ NatR s ∧ p = none)
theorem WholeAns.below {s : ByteArray} {w w1 : World} {p : Option Addr} (h : WholeAns s w p) (hb : Below w.heap.size w w1) : WholeAns s w1 p := by
  rcases h with ⟨h, g, xs, h1, h2, h3⟩ | h
  · exact .inl ⟨h, g, xs, h1, h2.below hb, h3⟩
  · exact .inr h
theorem NatAns.below {s : ByteArray} {w w1 : World} {p : Option Addr} (h : NatAns s w p) (hb : Below w.heap.size w w1) : NatAns s w1 p := by
  rcases h with ⟨h, g, xs, h1, h2, h3⟩ | h
  · exact .inl ⟨h, g, xs, h1, h2.below hb, h3⟩
  · exact .inr h
theorem natural_any (s : ByteArray) (w : World) : Calls Tryz.prog 112 #[.string s] w fun e w' => ∃ p, e = .returned (.pointer p) ∧ NatAns s w' p ∧ Below w.heap.size w w' := by
  by_cases h : NatR s
  · exact (natural_yes s w h).mono fun e w' ⟨g, xs, he, _, h1, h2, h3, h4⟩ => ⟨_, he, .inl ⟨h, g, xs, rfl, h1, h2, h3⟩, h4⟩
  · exact (natural_no s w h).mono fun e w' ⟨he, h4⟩ => ⟨_, he, .inr ⟨h, rfl⟩, h4⟩
set_option maxHeartbeats 1000000 in
set_option maxRecDepth 100000 in
theorem whole_no (s : ByteArray) (w : World) (h : ¬ WholeR s) : Calls Tryz.prog 111 #[.string s] w fun e w' => e = .returned (.pointer none) ∧ Below w.heap.size w w' := by
  have HK := Aside0.mk h
  obtain ⟨m, hm⟩ : ∃ m, minus s = m := ⟨_, rfl⟩
  have HC := Aside0.mk (cutPrefix_is s)
  have HM := Aside0.mk hm
  clear h hm
  by_cases hn : NatR (body s)
  · have HN := Aside0.mk hn
    have hm2 : m = true := by
      cases m with
      | true => rfl
      | false => exact absurd ⟨hn, fun h => by rw [HM.out] at h; cases h⟩ HK.out
    have hz : dv (body s) = 0 := Classical.byContradiction fun h => HK.out ⟨hn, fun _ => h⟩
    have HZ := Aside0.mk hz
    subst hm2
    clear hn hz
    go_enter Tryz.func111, Tryz.ntmps111
    go_wp2_with fail
    refine (strings_CutPrefix.calls s ⟨#[45]⟩ (body s) true _ (by rw [HC.out, HM.out])).mono ?_
    rintro e w1 ⟨rfl, h1⟩
    have hb1 := h1.below
    have HF := Aside0.mk hb1
    clear h1 hb1
    go_wp2_with fail
    refine (natural_yes (body s) _ HN.out).mono ?_
    rintro e w2 ⟨g, xs, rfl, h1, h2, h3, h4, h5⟩
    have hx : xs = [] := by rw [HZ.out] at h4; exact (h3.zero).1 h4
    have hs : sgn false xs = 0 := by rw [hx]; rfl
    have HG := Aside0.mk (And.intro h2 (And.intro hs (below_then HF.out HF.out.size h5)))
    clear h1 h2 h3 h4 h5 hx hs
    go_wp2_with fail
    refine (sign_call g 0 false xs _ HG.out.1.c).mono ?_
    rintro e w' ⟨rfl, rfl⟩
    rw [HG.out.2.1]
    go_wp2_with fail
    go_ret
    exact ⟨rfl, HG.out.2.2⟩
  · have HN := Aside0.mk hn
    clear hn
    go_enter Tryz.func111, Tryz.ntmps111
    go_wp2_with fail
    refine (strings_CutPrefix.calls s ⟨#[45]⟩ (body s) m _ (by rw [HC.out, HM.out])).mono ?_
    rintro e w1 ⟨rfl, h1⟩
    have hb1 := h1.below
    have HF := Aside0.mk hb1
    clear h1 hb1
    go_wp2_with fail
    refine (natural_no (body s) _ HN.out).mono ?_
    rintro e w2 ⟨rfl, h1⟩
    have HG := Aside0.mk (below_then HF.out HF.out.size h1)
    clear h1
    go_wp2_with fail
    go_ret
    exact ⟨rfl, HG.out⟩
theorem whole_any (s : ByteArray) (w : World) : Calls Tryz.prog 111 #[.string s] w fun e w' => ∃ p, e = .returned (.pointer p) ∧ WholeAns s w' p ∧ Below w.heap.size w w' := by
  by_cases h : WholeR s
  · exact (whole_yes s w h).mono fun e w' ⟨g, xs, he, _, h1, h2, h3, h4⟩ => ⟨_, he, .inl ⟨h, g, xs, rfl, h1, h2, h3⟩, h4⟩
  · exact (whole_no s w h).mono fun e w' ⟨he, h4⟩ => ⟨_, he, .inr ⟨h, rfl⟩, h4⟩
set_option maxHeartbeats 1000000 in
set_option maxRecDepth 100000 in
theorem read_call (n d : ByteArray) (w : World) : Calls Tryz.prog 79 #[.agg #[.string n, .string d]] w fun e w' => ∃ p, e = .returned (.pointer p) ∧ (p.isSome = true ↔ RatR n d) ∧ Below w.heap.size w w' := by
  go_enter Tryz.func79, Tryz.ntmps79
  go_wp2_with fail
  go_cut [3, 4] (fun v3 v4 wc => ∃ p q, v3 = .pointer p ∧ v4 = .pointer q ∧ Aside0 (WholeAns n wc p ∧ NatAns d wc q ∧ Below w.heap.size w wc))
  case first =>
    go_region_with ((first
      | (go_at_call 111; refine (whole_any n _).mono ?_; rintro e w1 ⟨p, rfl, h1, h2⟩; have c0 := cell_later (a := ⟨w.heap.size, 0, none⟩) (v := .string n) h2 (by first | assumption | simp); have c1 := cell_later (a := ⟨w.heap.size, 1, none⟩) (v := .string d) h2 (by first | assumption | simp); have HF := Aside0.mk (And.intro h1 h2); clear h1 h2)
      | (go_at_call 112; refine (natural_any d _).mono ?_; rintro e w2 ⟨q, rfl, h1, h2⟩; have c0 := cell_later (a := ⟨w.heap.size, 0, none⟩) (v := .string n) h2 (by first | assumption | simp); have c1 := cell_later (a := ⟨w.heap.size, 1, none⟩) (v := .string d) h2 (by first | assumption | simp); have HG := Aside0.mk (And.intro h1 h2); clear h1 h2)))
    all_goals (go_wp2_with fail; go_simp; go_meet)
    all_goals (first
      | exact ⟨p, q, rfl, rfl, ⟨HF.out.1.below HG.out.2, HG.out.1, below_then (below_then (below_drew (below_alloc (Below.refl _ _) _)) (by simp) HF.out.2) (by have := HF.out.2.size; simp at this; omega) HG.out.2⟩⟩
      | exact ⟨p, q, rfl, rfl, ⟨HF.out.1, HG.out.1.below HF.out.2, below_then (below_then (below_drew (below_alloc (Below.refl _ _) _)) (by simp) HG.out.2) (by have := HG.out.2.size; simp at this; omega) HF.out.2⟩⟩)
  case rest =>
    obtain ⟨p, q, rfl, rfl, HC⟩ := hcut
    rcases HC.out.1 with ⟨hw, gx, xs, rfl, hx, wx, vx⟩ | ⟨hw, rfl⟩
    · rcases HC.out.2.1 with ⟨hn, gy, ys, rfl, hy, wy, vy⟩ | ⟨hn, rfl⟩
      · have HX := Aside0.mk (And.intro hw (And.intro hn (And.intro hx (And.intro hy (And.intro wx (And.intro wy (And.intro vx vy)))))))
        clear hw hn hx hy wx wy vx vy
        go_wp2_with fail
        refine (sign_call gy 0 false ys _ HX.out.2.2.2.1.c).mono ?_
        rintro e w' ⟨rfl, rfl⟩
        by_cases hz : ys = []
        · have hs : sgn false ys = 0 := by rw [hz]; rfl
          rw [hs]
          have HZ := Aside0.mk (show dv d = 0 by rw [← HX.out.2.2.2.2.2.2.2, hz]; rfl)
          clear hz hs
          go_wp2_with fail
          go_ret
          exact ⟨none, rfl, ⟨fun h => by simp at h, fun h => absurd HZ.out h.2.2.1⟩, HC.out.2.2⟩
        · have hs : sgn false ys = 1 := by simp [sgn, hz]
          rw [hs]
          have HZ := Aside0.mk hz
          clear hz hs
          go_wp2_with fail
          have hB2 : Below wc.heap.size wc ((wc.alloc (Obj.cells #[Value.bool false, Value.slice none 0 0] 173)).alloc (Obj.cells #[Value.bool false, Value.slice none 0 0] 173)) := below_alloc (below_alloc (Below.refl _ _) _) _
          have HB2 := Aside0.mk hB2
          clear hB2
          refine (abs_call (wc.heap.size + 1) gx 0 (minus n) xs _ _ _ (by simpa using blk_new (wc.alloc (.cells #[.bool false, .slice none 0 0] 173)) (.cells #[.bool false, .slice none 0 0] 173)) (HX.out.2.2.1.below HB2.out).c HX.out.2.2.2.2.1).mono ?_
          rintro e w3 ⟨rfl, h1, h2⟩
          have h3 : Below wc.heap.size wc w3 := (Chg.from_below HB2.out h2).below (fun k hk => by subst hk; omega)
          have hz0 : w3.heap[wc.heap.size]? = some (.cells #[.bool false, .slice none 0 0] 173 (0, 0)) := h2.blk (by
            have h := blk_new wc (.cells #[.bool false, .slice none 0 0] 173)
            exact ((below_alloc (Below.refl _ _) (.cells #[.bool false, .slice none 0 0] 173)).block _ (blk_lt h)).trans h) (by omega)
          have H3 := Aside0.mk (And.intro h1 (And.intro h3 hz0))
          clear h1 h2 h3 hz0
          go_wp2_with fail
          refine (gcd_call wc.heap.size (wc.heap.size + 1) gy 0 0 false false xs ys _ _ _ _ _ H3.out.2.2 H3.out.1.c (HX.out.2.2.2.1.below H3.out.2.1).c HX.out.2.2.2.2.1 HX.out.2.2.2.2.2.1).mono ?_
          rintro e w4 ⟨gs, rfl, h1, h2, h3, h4⟩
          have H4 := Aside0.mk (And.intro h1 (And.intro h2 (And.intro h3 ((Chg.from_below H3.out.2.1 h4).below (fun k hk => by subst hk; exact Nat.le_refl _)))))
          clear h1 h2 h3 h4
          go_wp2_with fail
          refine (newInt_call 1 w4 (by omega) (by omega)).mono ?_
          rintro e w5 ⟨g1, os, rfl, h1, h2, h3, h4, h5⟩
          have H5 := Aside0.mk (And.intro (H4.out.1.below h5) (And.intro h2 (And.intro h3 (And.intro h4 (below_then H4.out.2.2.2 H4.out.2.2.2.size h5)))))
          clear h1 h2 h3 h4 h5
          obtain ⟨z, hz⟩ : ∃ z, cmpI (num false gs) (num false os) = z := ⟨_, rfl⟩
          go_wp2_with fail
          refine (cmp_call wc.heap.size 0 g1 0 false false gs os w5 H5.out.1.c H5.out.2.1.c H4.out.2.1 H5.out.2.2.1 (fun h => by cases h) (fun h => by cases h)).mono ?_
          rintro e w6 ⟨rfl, h1⟩
          rw [hz]
          have hG : z = cmpI (gcdI (dv (body n)) (dv d)) 1 := by rw [← hz]; simp only [num, H4.out.2.2.1, H5.out.2.2.2.1, HX.out.2.2.2.2.2.2.1, HX.out.2.2.2.2.2.2.2]; rfl
          have h2 := h1.below
          have H6 := Aside0.mk (And.intro hG (below_then H5.out.2.2.2.2 H5.out.2.2.2.2.size h2))
          clear h1 h2 hG hz
          by_cases hz : z = 0
          · have hz1 : (z == 0) = true := beq_iff_eq.mpr hz
            have hz2 : (z != 0) = false := bne_eq_false_iff_eq.mpr hz
            have HZ2 := Aside0.mk hz
            clear hz
            go_wp2_with fail
            refine (setFrac_call w6.heap.size gx 0 gy 0 (minus n) false xs ys _ _ _ _ _ (blk_new w6 _) ((HX.out.2.2.1.below H6.out.2).below (below_alloc (Below.refl _ _) _)).c ((HX.out.2.2.2.1.below H6.out.2).below (below_alloc (Below.refl _ _) _)).c HX.out.2.2.2.2.1 HX.out.2.2.2.2.2.1 HZ.out).mono ?_
            rintro e w7 ⟨ps, qs, rfl, h1, h2, h3⟩
            have H7 := Aside0.mk ((Chg.from_below (below_alloc (Below.refl _ _) _) h3).below (fun k hk => by subst hk; exact Nat.le_refl _))
            clear h1 h2 h3
            go_wp2_with fail
            go_ret
            refine ⟨_, rfl, ⟨fun _ => ⟨HX.out.1, HX.out.2.1, ?_, ?_⟩, fun _ => rfl⟩, below_then HC.out.2.2 HC.out.2.2.size (below_then H6.out.2 H6.out.2.size H7.out)⟩
            · rw [← HX.out.2.2.2.2.2.2.2]
              have := HX.out.2.2.2.2.2.1.pos HZ.out
              omega
            · have h := H6.out.1
              rw [HZ2.out] at h
              unfold cmpI at h
              split at h
              · omega
              · split at h
                · assumption
                · omega
          · have hz1 : (z == 0) = false := beq_eq_false_iff_ne.mpr hz
            have hz2 : (z != 0) = true := bne_iff_ne.mpr hz
            have HZ2 := Aside0.mk hz
            clear hz
            go_wp2_with fail
            go_ret
            refine ⟨none, rfl, ⟨fun h => by simp at h, fun h => ?_⟩, below_then HC.out.2.2 HC.out.2.2.size H6.out.2⟩
            have h1 := H6.out.1
            rw [h.2.2.2] at h1
            exact absurd h1 HZ2.out
      · have HN := Aside0.mk hn
        clear hn hw hx wx vx
        go_wp2_with fail
        go_ret
        exact ⟨none, rfl, ⟨fun h => by simp at h, fun h => absurd h.2.1 HN.out⟩, HC.out.2.2⟩
    · have HN := Aside0.mk hw
      clear hw
      go_wp2_with fail
      go_ret
      exact ⟨none, rfl, ⟨fun h => by simp at h, fun h => absurd h.1 HN.out⟩, HC.out.2.2⟩
set_option maxHeartbeats 1000000 in
set_option maxRecDepth 100000 in
theorem right_call (n d : ByteArray) (w : World) : Calls Tryz.prog 43 #[.agg #[.string n, .string d]] w fun e w' => ∃ b, e = .returned (.bool b) ∧ (b = true ↔ RatR n d) ∧ Below w.heap.size w w' := by
  go_enter Tryz.func43, Tryz.ntmps43
  go_wp2_with fail
  refine (read_call n d _).mono ?_
  rintro e w1 ⟨p, rfl, h1, h2⟩
  have HF := Aside0.mk (And.intro h1 (below_then (below_alloc (Below.refl w.heap.size w) (.cells #[.string n, .string d] 39)) (by simp) h2))
  clear h1 h2
  go_wp2_with fail
  go_ret
  refine ⟨p.isSome, ?_, HF.out⟩
  cases p <;> rfl
end Go.Proofs.YthbdjmopolpjmaaGreatDoor.C
end
section
set_option linter.unusedVariables false
set_option linter.unusedSimpArgs false
namespace Go.Proofs.YthbdjmopolpjmaaGreatDoor.C
open Go.RowKit Go.Proofs.YthbdjmopolpjmaaGreatDoorW.PrintWords Go.Proofs.YthbdjmopolpjmaaGreatDoorW.PrintLast Go.Proofs.YthbdjmopolpjmaaGreatDoorW.PrintMore Go.Proofs.YthbdjmopolpjmaaGreatDoor.F Go.Proofs.YthbdjmopolpjmaaGreatDoor.M
attribute [local go_sem] max2_int min2_int max_two min_two max_three min_three max_four min_four
def ratT (n d : ByteArray) : ByteArray := if (d.toList == [49]) = true then n else n ++ ⟨#[47]⟩ ++ d
theorem body_size (s : ByteArray) : s.size ≤ (body s).size + 1 := by
  unfold body
  split
  · simp only [ByteArray.size_extract]; omega
  · omega
theorem RatR.sizes {n d : ByteArray} (h : RatR n d) : n.size ≤ 601 ∧ d.size ≤ 600 := by
  have h1 := h.1.1.2.1
  have h2 := h.2.1.2.1
  have := body_size n
  omega
set_option maxHeartbeats 1000000 in
set_option maxRecDepth 100000 in
theorem ratPrint_yes (n d : ByteArray) (w : World) (h : RatR n d) : Calls Tryz.prog 121 #[.agg #[.string n, .string d]] w fun e w' => e = .returned (.tuple #[.string (ratT n d), .int .i64 0]) ∧ Below w.heap.size w w' := by
  have hs := h.sizes
  have l1 : ¬ 9223372036854775807 < n.size + 1 := by omega
  have l2 : ¬ 9223372036854775807 < n.size + 1 + d.size := by omega
  have HR := Aside0.mk h
  clear hs h
  go_enter Tryz.func121, Tryz.ntmps121
  go_wp2_with fail
  refine (right_call n d _).mono ?_
  rintro e w1 ⟨b, rfl, h1, h2⟩
  obtain rfl := h1.2 HR.out
  have c0 := cell_later (a := ⟨w.heap.size, 0, none⟩) (v := .string n) h2 (by simp)
  have c1 := cell_later (a := ⟨w.heap.size, 1, none⟩) (v := .string d) h2 (by simp)
  have HF := Aside0.mk (below_then (below_alloc (Below.refl w.heap.size w) (.cells #[.string n, .string d] 39)) (by simp) h2)
  clear h1 h2
  by_cases hd : (d.toList == [49]) = true
  · have HD := Aside0.mk hd
    go_wp2_with fail
    go_ret2
    have e : ratT n d = n := if_pos HD.out
    exact ⟨by rw [e]; rfl, HF.out⟩
  · have HD := Aside0.mk hd
    have hd2 : (d.toList == [49]) = false := Bool.eq_false_iff.mpr hd
    clear hd
    go_wp2_with fail
    go_ret2
    have e : ratT n d = n ++ ⟨#[47]⟩ ++ d := if_neg HD.out
    exact ⟨by rw [e]; rfl, HF.out⟩
set_option maxHeartbeats 1000000 in
set_option maxRecDepth 100000 in
theorem number_yes (n d : ByteArray) (w : World) (h : RatR n d) : Calls Tryz.prog 86 #[.agg #[.string n, .string d]] w fun e w' => e = .returned (.string (ratT n d)) ∧ Below w.heap.size w w' := by
  have HR := Aside0.mk h
  clear h
  go_enter Tryz.func86, Tryz.ntmps86
  go_wp2_with fail
  refine (ratPrint_yes n d _ HR.out).mono ?_
  rintro e w1 ⟨rfl, h2⟩
  have HF := Aside0.mk (below_then (below_alloc (Below.refl w.heap.size w) (.cells #[.string n, .string d] 39)) (by simp) h2)
  clear h2
  go_wp2_with fail
  go_ret
  exact ⟨rfl, HF.out⟩
end Go.Proofs.YthbdjmopolpjmaaGreatDoor.C
end
section
set_option linter.unusedVariables false
set_option linter.unusedSimpArgs false
namespace Go.Proofs.YthbdjmopolpjmaaGreatDoor.C
open Go.RowKit Go.Proofs.YthbdjmopolpjmaaGreatDoorW.PrintWords Go.Proofs.YthbdjmopolpjmaaGreatDoorW.PrintLast Go.Proofs.YthbdjmopolpjmaaGreatDoorW.PrintMore Go.Proofs.YthbdjmopolpjmaaGreatDoor.F Go.Proofs.YthbdjmopolpjmaaGreatDoor.M
attribute [local go_sem] max2_int min2_int max_two min_two max_three min_three max_four min_four
theorem toList_pos {s : ByteArray} (h : 0 < s.size) : s.toList.isEmpty = false := by
  rw [ByteArray.toList_eq]
  have h1 := data_length s
  cases hh : s.data.toList with
  | nil => rw [hh] at h1; simp at h1; omega
  | cons a b => rfl
end Go.Proofs.YthbdjmopolpjmaaGreatDoor.C
end
