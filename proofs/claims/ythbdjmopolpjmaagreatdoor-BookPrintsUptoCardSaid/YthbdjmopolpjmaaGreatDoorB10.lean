/- Part 10 of the proof: CDivR, CClone, CPut. -/
import Derived.Test.YthbdjmopolpjmaaGreatDoorB00
import Derived.Test.YthbdjmopolpjmaaGreatDoorB01
import Derived.Test.YthbdjmopolpjmaaGreatDoorB02
import Derived.Test.YthbdjmopolpjmaaGreatDoorB03
import Derived.Test.YthbdjmopolpjmaaGreatDoorB04
import Derived.Test.YthbdjmopolpjmaaGreatDoorB05
import Derived.Test.YthbdjmopolpjmaaGreatDoorB06
import Derived.Test.YthbdjmopolpjmaaGreatDoorB07
import Derived.Test.YthbdjmopolpjmaaGreatDoorB08
import Derived.Test.YthbdjmopolpjmaaGreatDoorB09
section
set_option linter.unusedVariables false
set_option linter.unusedSimpArgs false
namespace Go.Proofs.YthbdjmopolpjmaaGreatDoor.C
open Go.RowKit Go.Proofs.YthbdjmopolpjmaaGreatDoorW.PrintWords Go.Proofs.YthbdjmopolpjmaaGreatDoorW.PrintLast Go.Proofs.YthbdjmopolpjmaaGreatDoorW.PrintMore Go.Proofs.YthbdjmopolpjmaaGreatDoor.F Go.Proofs.YthbdjmopolpjmaaGreatDoor.M
attribute [local go_sem] max2_int min2_int max_two min_two max_three min_three max_four min_four
def Rg (W : World) (base g n c : Nat) (xs : List Int) : Prop := xs.length = n ∧ base ≤ g ∧ g < W.heap.size ∧ Kd.R (Kd.int .i64) 3 W base (fun k => k = g) (.slice (some ⟨g, 0, none⟩) n c) xs
theorem Rg.of {W : World} {base b : Nat} {v : Value} {xs : List Int} (h : Rn W b v xs) (hb : base ≤ b) (hn : xs ≠ []) : ∃ g c, v = .slice (some ⟨g, 0, none⟩) xs.length c ∧ b ≤ g ∧ Rg W base g xs.length c xs := by
  obtain ⟨g, c, rfl, h1, h2, _⟩ := Kd.R_form h (List.length_pos_iff.2 hn)
  exact ⟨g, c, rfl, h1, rfl, by omega, h2, Kd.R_mono (Kd.R_lower (Kd.R_tight rfl h) hb) (fun k hk => by simpa [Value.ownBlock] using hk)⟩
theorem Rg.keep {W W1 : World} {base g n c : Nat} {xs : List Int} (h : Rg W base g n c xs) (hs : W.heap.size ≤ W1.heap.size) (hg : W1.heap[g]? = W.heap[g]?) : Rg W1 base g n c xs :=
  ⟨h.1, h.2.1, Nat.lt_of_lt_of_le h.2.2.1 hs, Kd.R_step h.2.2.2 (fun k hk _ => by subst hk; exact hg)⟩
theorem Rg.below {W W1 : World} {base g n c : Nat} {xs : List Int} (h : Rg W base g n c xs) (hb : Below W.heap.size W W1) : Rg W1 base g n c xs := h.keep hb.size (hb.block g h.2.2.1)
theorem Rg.C {W : World} {base g n c : Nat} {xs : List Int} (h : Rg W base g n c xs) : (Kd.int .i64).C W (some ⟨g, 0, none⟩) xs.length xs ∧ xs.length ≤ c := by
  have h1 := Kd.R_reads' h.2.2.2
  have hl := h.1
  exact ⟨h1.2.2, by omega⟩
theorem Rg.cell {W : World} {base g n c : Nat} {xs : List Int} (h : Rg W base g n c xs) (i : Int) (h0 : 0 ≤ i) (h1 : i < n) : W.cell? ⟨g, i.toNat, none⟩ = some (.int .i64 (rd xs i)) ∧ W.frozen? ⟨g, i.toNat, none⟩ = false := Kd.R_celln (0 : Int) h.2.2.2 i h0 h1
theorem Rg.put {W : World} {base g n c : Nat} {xs : List Int} (h : Rg W base g n c xs) (i v : Int) : Rg (W.setCell ⟨g, i.toNat, none⟩ (.int .i64 v)) base g n c (xs.set i.toNat v) :=
  ⟨by rw [List.length_set]; exact h.1, h.2.1, by simpa using h.2.2.1, Kd.R_putn h.2.2.2 i v⟩
theorem Rg.other {W : World} {base g n c h' : Nat} {xs : List Int} (h : Rg W base g n c xs) (hne : g ≠ h') (i : Nat) (v : Value) : Rg (W.setCell ⟨h', i, none⟩ v) base g n c xs :=
  h.keep (by simp) (Below.heap_setCell W ⟨h', i, none⟩ v g hne)
theorem rg_made (W : World) (base n : Nat) (hn : 0 < n) (hb : base ≤ W.heap.size) (hm : n ≤ 9223372036854775807) : Rg (W.alloc (.cells (madeCells #[.int .i64 0] n) 3)) base W.heap.size n n (List.replicate n 0) := by
  refine ⟨by simp, hb, by simp, Kd.R_of_own ?_ (fun k hk => by simpa [Value.ownBlock] using hk.symm)⟩
  have h := own_made W base 3 .i64 n hb hm
  rw [List.length_replicate]
  exact h
theorem fits_call (n m : Nat) (w : World) (base gx cx gy cy up : Nat) (x y : List Int) (hx : Rg w base gx n cx x) (hy : Rg w base gy m cy y) (dx : Dig 10000 x) (dy : Dig 10000 y) (hup : up ≤ n) (hn : n ≤ 100000) (hm : m ≤ 100000) (hv : val 10000 (x.drop up) < 10000 * val 10000 y) :
    Calls Tryz.prog 175 #[.slice (some ⟨gx, 0, none⟩) n cx, .slice (some ⟨gy, 0, none⟩) m cy, .int .i64 (up : Int)] w fun e w' => ∃ r, e = .returned (.int .i64 r) ∧ 0 ≤ r ∧ r < 10000 ∧ r * val 10000 y ≤ val 10000 (x.drop up) ∧ val 10000 (x.drop up) < (r + 1) * val 10000 y ∧ Below w.heap.size w w' := by
  obtain ⟨cx1, cx2⟩ := hx.C
  obtain ⟨cy1, cy2⟩ := hy.C
  obtain rfl := hx.1
  obtain rfl := hy.1
  obtain ⟨r, he, h1, h2, h3, h4⟩ := fits_tells dx dy hup hn hm hv
  obtain ⟨k, hk⟩ := he.rounds
  exact (cubitref01_fits.calls k _ cx x _ cy y up r w cx1 cx2 cy1 cy2 hk).mono fun e w' ⟨he, hb⟩ => ⟨r, he, h1, h2, h3, h4, hb⟩
theorem take_call (n m : Nat) (w0 w : World) (gx cx gy cy up : Nat) (q : Int) (x y : List Int) (hB : Below w0.heap.size w0 w) (hx : Rg w w0.heap.size gx n cx x) (hy : Rg w w0.heap.size gy m cy y) (hne : gy ≠ gx) (dx : Dig 10000 x) (dy : Dig 10000 y) (q0 : 0 ≤ q) (q1 : q < 10000) (hup : up + m ≤ n) (hn : n ≤ 100000) (hv : q * val 10000 y ≤ val 10000 (x.drop up)) :
    Calls Tryz.prog 176 #[.slice (some ⟨gx, 0, none⟩) n cx, .slice (some ⟨gy, 0, none⟩) m cy, .int .i64 (up : Int), .int .i64 q] w fun e w' => ∃ r, e = .returned (.tuple #[]) ∧ Rg w' w0.heap.size gx n cx r ∧ Dig 10000 r ∧ r.take up = x.take up ∧ val 10000 (r.drop up) = val 10000 (x.drop up) - q * val 10000 y ∧ Below w0.heap.size w0 w' ∧ w.heap.size ≤ w'.heap.size ∧ ∀ i, i < w.heap.size → i ≠ gx → w'.heap[i]? = w.heap[i]? := by
  obtain ⟨cy1, cy2⟩ := hy.C
  obtain rfl := hy.1
  obtain ⟨r, he, h1, h2, h3, h4⟩ := take_tells (x := x) (y := y) (q := q) (up := up) dx dy q0 q1 (by have := hx.1; omega) (by have := hx.1; omega) hv
  obtain ⟨k, hk⟩ := he.rounds
  refine (cubitref01_take.calls k (fun k => k = gx) _ x _ cy y up q r w0 w hB hx.2.2.2 (fun W hW => ?_) cy2 hk).mono fun e w' ⟨he, hr, hb, hkept⟩ => ⟨r, he, ⟨by rw [h1]; exact hx.1, hx.2.1, Nat.lt_of_lt_of_le hx.2.2.1 hkept.1, ?_⟩, h2, h3, h4, hb, hkept.1, hkept.2⟩
  · exact (hy.keep hW.1 (hW.2 gy hy.2.2.1 hne)).C.1
  · exact Kd.R_mono (Kd.R_tight rfl hr) (fun k hk => by simpa [Value.ownBlock] using hk)
theorem rtrim_any (n : Nat) (A : Option Addr) (c : Nat) (xs : List Int) (w : World) (hl : xs.length = n) (hC : (Kd.int .i64).C w A xs.length xs) (hc : xs.length ≤ c) (hd : Dig 10000 xs) (hn : n ≤ 100000) :
    Calls Tryz.prog 178 #[.slice A n c] w fun e w' => ∃ r, e = .returned (.slice A r.length c) ∧ Dig 10000 r ∧ Trim r ∧ val 10000 r = val 10000 xs ∧ r.length ≤ 100000 ∧ r.length ≤ c ∧ (Kd.int .i64).C w' A r.length r ∧ Below w.heap.size w w' := by
  subst hl
  obtain ⟨m, hm, ht, hv, he⟩ := rtrim_tells 10000 xs (by omega)
  obtain ⟨k, hk⟩ := he.rounds
  have hlen : (xs.take m).length = m := by rw [List.length_take]; omega
  exact (rtrim_call k A c xs _ w hC hc hk).mono fun e w' ⟨he, hb⟩ => ⟨_, he, dig_take hd m, ht, hv, by omega, by omega, Kd.C_take (Kd.C_below hC hb) hm, hb⟩
set_option maxHeartbeats 2000000 in
set_option maxRecDepth 100000 in
theorem divide_call (a b : ByteArray) (w : World) (ha : Canon a) (hb : Canon b) (hz : dv b ≠ 0) (la : a.size ≤ 1000) (lb : b.size ≤ 1000) :
    Calls Tryz.prog 128 #[.string a, .string b] w fun e w' => ∃ q r, e = .returned (.tuple #[.string q, .string r]) ∧ Canon r ∧ (∃ k, dv a = k * dv b + dv r) ∧ 0 ≤ dv r ∧ dv r < dv b ∧ Below w.heap.size w w' := by
  obtain ⟨x, hx, xd, xt, xl, xv⟩ := limbs_tells a (by omega) ha.2.2
  obtain ⟨y, hy, yd, yt, yl, yv⟩ := limbs_tells b (by omega) hb.2.2
  obtain ⟨k1, hk1⟩ := hx.rounds
  obtain ⟨k2, hk2⟩ := hy.rounds
  obtain ⟨k3, hk3⟩ := (rless_tells xd yd xt yt (by omega) (by omega)).rounds
  have hyn : y ≠ [] := by intro e; rw [e] at yv; exact hz yv.symm
  have HK := Aside0.mk (And.intro hk1 (And.intro hk2 hk3))
  have HD := Aside0.mk (And.intro xd (And.intro yd (And.intro xt (And.intro yt (And.intro hyn (And.intro (show x.length ≤ 1000 by omega) (show y.length ≤ 1000 by omega)))))))
  have HV := Aside0.mk (And.intro xv (And.intro yv ha))
  clear hx hy xd yd xt yt xl yl xv yv hk1 hk2 hk3 hyn ha hb hz la lb
  go_enter Tryz.func128, Tryz.ntmps128
  go_wp2_with fail
  refine (limbs_call k1 a x _ HK.out.1).mono ?_
  rintro e w1 ⟨A1, c1, rfl, h1, h2⟩
  have H1 := Aside0.mk (And.intro h1 h2)
  clear h1 h2
  go_wp2_with fail
  refine (limbs_call k2 b y _ HK.out.2.1).mono ?_
  rintro e w2 ⟨A2, c2, rfl, h1, h2⟩
  have H2 := Aside0.mk (And.intro h1 (And.intro (show Rn w2 w.heap.size (.slice A1 x.length c1) x from Kd.R_below H1.out.1 h2) (And.intro (below_then H1.out.2 H1.out.2.size h2) h2.size)))
  clear h1 h2
  go_wp2_with fail
  refine (cubitref01_less.calls k3 A1 c1 x A2 c2 y _ _ (Kd.R_reads' H2.out.2.1).2.2 (Kd.R_reads' H2.out.2.1).2.1 (Kd.R_reads' H2.out.1).2.2 (Kd.R_reads' H2.out.1).2.1 HK.out.2.2).mono ?_
  rintro e w3 ⟨rfl, h1⟩
  have hb3 := h1.below
  have H3 := Aside0.mk (And.intro (show Rn w3 w1.heap.size (.slice A2 y.length c2) y from Kd.R_below H2.out.1 hb3) (And.intro (show Rn w3 w.heap.size (.slice A1 x.length c1) x from Kd.R_below H2.out.2.1 hb3) (below_then H2.out.2.2.1 H2.out.2.2.1.size hb3)))
  clear h1 hb3
  by_cases hlt : val 10000 x < val 10000 y
  · rw [decide_eq_true hlt]
    have HL := Aside0.mk hlt
    clear hlt
    go_wp2_with fail
    go_ret2
    refine ⟨_, a, rfl, HV.out.2.2, ⟨0, by omega⟩, ?_, ?_, H3.out.2.2⟩
    · rw [← HV.out.1]; exact val_nonneg (by omega) HD.out.1
    · rw [← HV.out.1, ← HV.out.2.1]; exact HL.out
  · rw [decide_eq_false hlt]
    have hxn : x ≠ [] := by
      intro e
      have h := val_pos (B := 10000) (by omega) HD.out.2.1 HD.out.2.2.2.1 HD.out.2.2.2.2.1
      rw [e] at hlt
      simp only [val] at hlt
      omega
    have hlen : y.length ≤ x.length := len_of_val_le (B := 10000) (by omega) HD.out.1 HD.out.2.1 HD.out.2.2.2.1 (by omega)
    obtain ⟨gx, cx, e1, hgx, hX⟩ := Rg.of (base := w.heap.size) H3.out.2.1 (Nat.le_refl _) hxn
    obtain ⟨gy, cy, e2, hgy, hY⟩ := Rg.of (base := w.heap.size) H3.out.1 H1.out.2.size HD.out.2.2.2.2.1
    injection e1 with e11 e12 e13
    injection e2 with e21 e22 e23
    subst e11 e13 e21 e23
    have hgxy : gx < gy := by
      have h := hX.2.2.1
      obtain ⟨_, _, ho⟩ := H1.out.1
      have h2 := own_lt (Kd.own_of_R H1.out.1) gx rfl
      omega
    obtain ⟨L, hL⟩ : ∃ L, x.length = L := ⟨_, rfl⟩
    obtain ⟨n, hn⟩ : ∃ n, y.length = n := ⟨_, rfl⟩
    have hyp := List.length_pos_iff.2 HD.out.2.2.2.2.1
    have hinv := rinv_start HD.out.1 HD.out.2.1 HD.out.2.2.2.1 HD.out.2.2.2.2.1 hlen
    rw [hL, hn] at hinv
    have hL1 := HD.out.2.2.2.2.2.1
    have hn1 := HD.out.2.2.2.2.2.2
    rw [hL] at hX hL1 ⊢
    rw [hn] at hY hyp hn1 ⊢
    rw [hL, hn] at hlen
    have hmk := print_make (P := Tryz.prog) 62 3 .i64 8 Tryz.underlying62 info3 (by decide) L (by omega)
    have hmd := rg_made w3 w.heap.size L (by omega) H3.out.2.2.size (by omega)
    have hBm := below_alloc (Below.refl w3.heap.size w3) (.cells (madeCells #[.int .i64 0] L) 3)
    have hwd : wrap64 ((L : Int) - (n : Int)) = (L : Int) - n := w64 (by omega) (by omega)
    have HS := Aside0.mk (And.intro hinv (And.intro (hX.below hBm) (And.intro (hY.below hBm) (And.intro hmd (below_then H3.out.2.2 H3.out.2.2.size hBm)))))
    have HN := Aside0.mk (And.intro hyp (And.intro hlen (And.intro hL1 (And.intro hn1 (And.intro hgxy (And.intro hY.2.2.1 (And.intro hn hgx)))))))
    clear hlt hxn hlen hgx hX hgy hY hgxy hL hn hyp hinv hmd hBm hL1 hn1
    go_wp2_with fail
    go_loopg [9] (L + 1) (fun kq v9 W => ∃ (up : Int) (x' q : List Int), v9 = .int .i64 up ∧ Aside0 (-1 ≤ up ∧ up + n ≤ L ∧ (up + 1).toNat ≤ kq ∧ RInv (val 10000 x) (val 10000 y) L (up + 1).toNat x' q ∧ Rg W w.heap.size gx L c1 x' ∧ Rg W w.heap.size gy n c2 y ∧ Rg W w.heap.size w3.heap.size L L q ∧ Below w.heap.size w W))
    case atStart => exact ⟨(L : Int) - n, x, List.replicate L 0, by rw [hwd], ⟨by have := HN.out.2.1; omega, by omega, by omega, by rw [show ((L : Int) - n + 1).toNat = L - n + 1 by have := HN.out.2.1; omega]; exact HS.out.1, HS.out.2.1, HS.out.2.2.1, HS.out.2.2.2.1, HS.out.2.2.2.2⟩⟩
    case round =>
      clear HS hmk hwd
      obtain ⟨up, x', q, rfl, HR⟩ := hrel
      by_cases hup : 0 ≤ up
      · obtain ⟨u, rfl⟩ : ∃ u : Nat, up = (u : Int) := ⟨up.toNat, by omega⟩
        have hu0 : decide (0 ≤ (u : Int)) = true := decide_eq_true hup
        have huL : u < L := by have := HR.out.2.1; have := HN.out.1; omega
        have hinv := HR.out.2.2.2.1
        rw [show ((u : Int) + 1).toNat = u + 1 by omega] at hinv
        have hbound := rinv_bound hinv huL
        have HI := Aside0.mk (And.intro hinv (And.intro hbound huL))
        clear hinv hbound huL hup
        go_wp2_with fail
        refine (fits_call L n wr w.heap.size gx c1 gy c2 u x' y HR.out.2.2.2.2.1 HR.out.2.2.2.2.2.1 HI.out.1.xd HD.out.2.1 (by have := HI.out.2.2; omega) (by have := HN.out.2.2.1; omega) (by have := HN.out.2.2.2.1; omega) HI.out.2.1).mono ?_
        rintro e w4 ⟨f, rfl, f0, f1, f2, f3, hb4⟩
        have HF := Aside0.mk (And.intro f0 (And.intro f1 (And.intro f2 f3)))
        have HR4 := Aside0.mk (And.intro (HR.out.2.2.2.2.1.below hb4) (And.intro (HR.out.2.2.2.2.2.1.below hb4) (And.intro (HR.out.2.2.2.2.2.2.1.below hb4) (below_then HR.out.2.2.2.2.2.2.2 HR.out.2.2.2.2.2.2.2.size hb4))))
        clear f0 f1 f2 f3 hb4
        have hqc := HR4.out.2.2.1.cell (u : Int) (by omega) (by have := HI.out.2.2; omega)
        rw [Int.toNat_natCast] at hqc
        obtain ⟨hq0, hqf⟩ := hqc
        have hu1 : ((u : Int) < (L : Int)) = True := eq_true (by have := HI.out.2.2; omega)
        have hu2 : (u < L) = True := eq_true HI.out.2.2
        have hgx3 : gx ≠ w3.heap.size := by have := HN.out.2.2.2.2.1; have := HN.out.2.2.2.2.2.1; omega
        have hgy3 : gy ≠ w3.heap.size := by have := HN.out.2.2.2.2.2.1; omega
        have hput := HR4.out.2.2.1.put (u : Int) f
        rw [Int.toNat_natCast] at hput
        obtain ⟨w5, hw5⟩ : ∃ w5, w4.setCell ⟨w3.heap.size, u, none⟩ (.int .i64 f) = w5 := ⟨_, rfl⟩
        rw [hw5] at hput
        have HR5 := Aside0.mk (And.intro (show Rg w5 w.heap.size gx L c1 x' by rw [← hw5]; exact HR4.out.1.other hgx3 _ _) (And.intro (show Rg w5 w.heap.size gy n c2 y by rw [← hw5]; exact HR4.out.2.1.other hgy3 _ _) (And.intro hput (show Below w.heap.size w w5 by rw [← hw5]; exact HR4.out.2.2.2.setCell HR4.out.2.2.1.2.1 _))))
        have hqc2 := (hput.cell (u : Int) (by omega) (by have := HI.out.2.2; omega)).1
        rw [Int.toNat_natCast, rd_set_self _ _ _ (by rw [HI.out.1.ql]; exact HI.out.2.2)] at hqc2
        have HG := Aside0.mk (And.intro hgx3 hgy3)
        clear hput hgx3 hgy3
        obtain ⟨k1, rfl⟩ : ∃ k1, gk = k1 + 1 := ⟨gk - 1, by have := HR.out.2.2.1; omega⟩
        have hwu : wrap64 ((u : Int) - 1) = (u : Int) - 1 := w64 (by omega) (by have := HI.out.2.2; have := HN.out.2.2.1; omega)
        by_cases hf : f = 0
        · have hf1 : decide (0 < f) = false := decide_eq_false (by omega)
          have HF0 := Aside0.mk hf
          clear hf
          go_upto_region 10 with (fail)
          (try rw [hw5]); clear hw5
          clear hq0 hqf
          go_wp2_with fail
          go_roundg k1
          case measure => omega
          case rel =>
            refine ⟨(u : Int) - 1, x', q.set u f, by rw [hwu], ⟨by omega, by have := HR.out.2.1; omega, by have := HR.out.2.2.1; omega, ?_, HR5.out.1, HR5.out.2.1, HR5.out.2.2.1, HR5.out.2.2.2⟩⟩
            rw [show ((u : Int) - 1 + 1).toNat = u by omega, HF0.out]
            have h := HF.out.2.2.2
            rw [HF0.out] at h
            exact rinv_same HI.out.1 HI.out.2.2 h
        · have hf1 : decide (0 < f) = true := decide_eq_true (by have := HF.out.1; omega)
          clear hf
          go_upto_region 10 with (fail)
          (try rw [hw5]); clear hw5
          clear hq0 hqf
          go_wp2_with fail
          refine (take_call L n w w5 gx c1 gy c2 u f x' y HR5.out.2.2.2 HR5.out.1 HR5.out.2.1 (by have := HN.out.2.2.2.2.1; omega) HI.out.1.xd HD.out.2.1 HF.out.1 HF.out.2.1 (by have := HR.out.2.1; omega) (by have := HN.out.2.2.1; omega) HF.out.2.2.1).mono ?_
          rintro e w6 ⟨r, rfl, h1, h2, h3, h4, h5, h6, h7⟩
          have hyk := HR5.out.2.1.keep h6 (h7 _ HR5.out.2.1.2.2.1 (by have := HN.out.2.2.2.2.1; omega))
          have hqk := HR5.out.2.2.1.keep h6 (h7 _ HR5.out.2.2.1.2.2.1 (Ne.symm HG.out.1))
          have HT := Aside0.mk (And.intro h1 (And.intro hyk (And.intro hqk (And.intro h5 (rinv_step HI.out.1 HI.out.2.2 HF.out.1 HF.out.2.1 HF.out.2.2.2 (by have := h1.1; omega) h2 h3 h4)))))
          clear h1 h2 h3 h4 h5 h6 h7 hyk hqk
          go_wp2_with fail
          go_roundg k1
          case measure => omega
          case rel => exact ⟨(u : Int) - 1, r, q.set u f, by rw [hwu], ⟨by omega, by have := HR.out.2.1; omega, by have := HR.out.2.2.1; omega, by rw [show ((u : Int) - 1 + 1).toNat = u by omega]; exact HT.out.2.2.2.2, HT.out.1, HT.out.2.1, HT.out.2.2.1, HT.out.2.2.2.1⟩⟩
      · have hu0 : decide (0 ≤ up) = false := decide_eq_false hup
        have HU := Aside0.mk (show up = -1 by have := HR.out.1; omega)
        clear hup
        have hinv := HR.out.2.2.2.1
        rw [HU.out, show ((-1 : Int) + 1).toNat = 0 from rfl] at hinv
        have HI := Aside0.mk hinv
        clear hinv
        go_wp2_with fail
        refine (rtrim_any L _ L q wr HI.out.ql HR.out.2.2.2.2.2.2.1.C.1 HR.out.2.2.2.2.2.2.1.C.2 HI.out.qd (by have := HN.out.2.2.1; omega)).mono ?_
        rintro e w4 ⟨q2, rfl, h1, h2, h3, h4, h5, h6, h7⟩
        have HQ := Aside0.mk (And.intro h1 (And.intro h2 (And.intro h3 (And.intro h4 (And.intro h5 (And.intro h6 (And.intro (HR.out.2.2.2.2.1.below h7) (below_then HR.out.2.2.2.2.2.2.2 HR.out.2.2.2.2.2.2.2.size h7))))))))
        clear h1 h2 h3 h4 h5 h6 h7
        go_wp2_with fail
        refine (text_call _ L q2 w4 HQ.out.2.2.2.2.2.1 HQ.out.2.2.2.2.1 HQ.out.1 HQ.out.2.1 HQ.out.2.2.2.1).mono ?_
        rintro e w5 ⟨tq, rfl, h1, h2, h3⟩
        have H5 := Aside0.mk (And.intro (show dv tq = val 10000 q by rw [h2]; exact HQ.out.2.2.1) (And.intro (HQ.out.2.2.2.2.2.2.1.below h3) (below_then HQ.out.2.2.2.2.2.2.2 HQ.out.2.2.2.2.2.2.2.size h3)))
        clear h1 h2 h3
        go_wp2_with fail
        refine (rtrim_any L _ c1 x' w5 HI.out.xl H5.out.2.1.C.1 H5.out.2.1.C.2 HI.out.xd (by have := HN.out.2.2.1; omega)).mono ?_
        rintro e w6 ⟨x2, rfl, h1, h2, h3, h4, h5, h6, h7⟩
        have HX := Aside0.mk (And.intro h1 (And.intro h2 (And.intro h3 (And.intro h4 (And.intro h5 (And.intro h6 (below_then H5.out.2.2 H5.out.2.2.size h7)))))))
        clear h1 h2 h3 h4 h5 h6 h7
        go_wp2_with fail
        refine (text_call _ c1 x2 w6 HX.out.2.2.2.2.2.1 HX.out.2.2.2.2.1 HX.out.1 HX.out.2.1 HX.out.2.2.2.1).mono ?_
        rintro e w7 ⟨tr, rfl, h1, h2, h3⟩
        have H7 := Aside0.mk (And.intro h1 (And.intro (show dv tr = val 10000 x' by rw [h2]; exact HX.out.2.2.1) (below_then HX.out.2.2.2.2.2.2 HX.out.2.2.2.2.2.2.size h3)))
        clear h1 h2 h3
        go_wp2_with fail
        go_ret2
        refine ⟨tq, tr, rfl, H7.out.1, ⟨val 10000 q, ?_⟩, ?_, ?_, H7.out.2.2⟩
        · rw [H7.out.2.1, ← HV.out.1, ← HV.out.2.1, HI.out.eq]; omega
        · rw [H7.out.2.1]; exact val_nonneg (by omega) HI.out.xd
        · rw [H7.out.2.1, ← HV.out.2.1]; have h := HI.out.top; rwa [List.drop_zero] at h
end Go.Proofs.YthbdjmopolpjmaaGreatDoor.C
end
section
set_option linter.unusedVariables false
set_option linter.unusedSimpArgs false
namespace Go.Proofs.YthbdjmopolpjmaaGreatDoor.C
open Go.RowKit Go.Proofs.YthbdjmopolpjmaaGreatDoorW.PrintWords Go.Proofs.YthbdjmopolpjmaaGreatDoorW.PrintLast Go.Proofs.YthbdjmopolpjmaaGreatDoorW.PrintMore Go.Proofs.YthbdjmopolpjmaaGreatDoor.F Go.Proofs.YthbdjmopolpjmaaGreatDoor.M
set_option maxHeartbeats 400000 in
theorem clone_u32 (A : Option Addr) (c : Nat) (xs : List Int) (w : World) (hC : Kd.C (Kd.int .u32) w A xs.length xs) (hl : xs.length ≤ 35184372088831) :
    Calls Tryz.prog 161 #[.slice A xs.length c] w fun e w' => ∃ A' c', e = .returned (.slice A' xs.length c') ∧ xs.length ≤ c' ∧ U w' A' xs ∧ Below w.heap.size w w' := by
  have hnil := fun (w : World) (a : Option Addr) (n c : Nat) => Lib.run_eql_slice_nil (P := Tryz.prog) w 171 131 a n c 0 0 Tryz.underlying171
  have HC := Aside0.mk hC
  have HL := Aside0.mk hl
  clear hC hl
  cases A with
  | none =>
    have hx : xs = [] := by
      have h := HC.out.2.2
      rcases Nat.eq_zero_or_pos xs.length with h0 | h0
      · exact List.eq_nil_of_length_eq_zero h0
      · obtain ⟨ad, e, _⟩ := h h0; cases e
    subst hx
    go_enter Tryz.func161, Tryz.ntmps161
    go_wp2
    go_ret
    exact ⟨none, 0, rfl, Nat.le_refl _, U.nil _, Below.refl _ _⟩
  | some ad =>
    have HR := Aside0.mk (show Kd.R (Kd.int .u32) 131 (w.alloc (.cells #[] 131)) w.heap.size (fun _ => True) (.slice (some ⟨w.heap.size, 0, none⟩) 0 0) [] from
      Kd.R_of_own (by simpa [encs, nums] using own_lit w w.heap.size 131 .u32 [] (Nat.le_refl _) (by simp)) (fun _ _ => trivial))
    have HC1 := Aside0.mk (Kd.C_below HC.out (below_alloc (Below.refl _ _) (.cells #[] 131)))
    have HB1 := Aside0.mk (below_alloc (Below.refl w.heap.size w) (.cells #[] 131))
    go_enter Tryz.func161, Tryz.ntmps161
    go_wp2_with ((with_reducible refine gate_builtin (b := .append) (xs := #[.tmp 5, .tmp 6]) rfl ?_); at_builtin; refine Kd.R_append_row (Value.int .u32) (0 : Int) (w0 := w) w.heap.size rfl (.tmp 5) (.tmp 6) 171 131 (.int .u32 0) 4 rfl Tryz.underlying171 info131 rfl (by decide) (.slice (some ⟨w.heap.size, 0, none⟩) 0 0) [] xs (some ad) xs.length c (fun _ => True) rfl rfl (fun _ _ => trivial) HR.out HC1.out HB1.out (by simp) (by have := HL.out; simp; omega) ?_; intro v1 w1 hR1 hB1 hg1 hat1; clear HR HC1 HB1)
    go_ret
    obtain ⟨A', c', rfl, h1, h2⟩ := U.of_R hR1
    exact ⟨A', c', rfl, h1, h2, hB1⟩
set_option maxHeartbeats 8000000 in
set_option maxRecDepth 100000 in
theorem trim_call (k : Nat) (A0 : Option Addr) (c0 : Nat) (l0 : List Int) (r : List Int) (w : World) (hC0 : Kd.C (Kd.int .u32) w A0 l0.length l0) (hc0 : l0.length ≤ c0) (h : ample_trim.f k l0 = some r) :
    Calls Tryz.prog 206 #[.slice A0 l0.length c0] w fun e w' => e = .returned (.slice A0 r.length c0) ∧ Below w.heap.size w w' := by
  have HO0 := Aside0.mk hC0
  have HC0 := Aside0.mk hc0
  have HB := Aside0.mk (Below.refl w.heap.size w)
  have H' := Aside0.mk (show ample_trim.l0 k l0 = some r from h)
  clear h hC0 hc0
  go_enter Tryz.func206, Tryz.ntmps206
  go_wp2
  go_loopg [0] k (fun kq v0 w' => ∃ (x0_1 : List Int), v0 = .slice A0 x0_1.length c0 ∧ Aside0 (ample_trim.l0 kq x0_1 = some r) ∧ Aside0 (kq ≤ k) ∧ Aside0 (Kd.C (Kd.int .u32) w' A0 x0_1.length x0_1) ∧ Aside0 (x0_1.length ≤ c0) ∧ Aside0 (Below w.heap.size w w'))
  case atStart => exact ⟨l0, rfl, H', ⟨Nat.le_refl _⟩, HO0, HC0, HB⟩
  case round =>
    clear H' HO0
    obtain ⟨x0_1, rfl, HA, HK1, HO_0, HC_0, HB⟩ := hrel
    cases gk with
    | zero => exact absurd HA.out (by simp [ample_trim.l0])
    | succ k1 =>
      have H := HA.out
      clear HA
      simp only [ample_trim.l0] at H
      by_cases c2 : (x0_1.length : Int) > 0
      · rw [if_pos c2] at H
        have c2b0 : decide (0 < (x0_1.length : Int)) = true := decide_eq_true c2
        have c2b1 : decide (0 < x0_1.length) = true := decide_eq_true (by omega)
        have hmax := Kd.C_max HO_0.out
        have hw : wrap64 ((x0_1.length : Int) - 1) = (x0_1.length : Int) - 1 := w64 (by omega) (by omega)
        rw [hw, if_pos (by omega), if_pos (by omega)] at H
        obtain ⟨ji3, hji3⟩ : ∃ j_ : Int, (x0_1.length : Int) - 1 = j_ := ⟨_, rfl⟩
        rw [hji3] at H
        have hji3w : (IntKind.i64.wrap ((x0_1.length : Int) - 1)) = ji3 := (i64_w _).trans (hw.trans hji3)
        have hji3' : wrap64 ((x0_1.length : Int) - 1) = ji3 := hw.trans hji3
        have p146 : 0 ≤ ji3 := by omega
        have q146 : ji3 < (x0_1.length : Int) := by omega
        have hjle : ji3 ≤ (x0_1.length : Int) := by omega
        have Hji := Aside0.mk hji3
        clear c2 hmax hw hji3
        obtain ⟨ad146, e146, hx146_0⟩ := Kd.at_int HO_0.out ji3 p146 q146
        cases e146
        by_cases c6 : (rd x0_1 ji3) = 0
        · rw [if_pos c6, if_pos hjle] at H
          have c6b0 : ((rd x0_1 (ji3)) == 0) = true := beq_iff_eq.mpr c6
          have c6b1 : ((rd x0_1 (ji3)) != 0) = false := bne_eq_false_iff_eq.mpr c6
          clear c6
          obtain ⟨y147, hy147⟩ : ∃ y_ : List Int, y_ = (x0_1.take (ji3 : Int).toNat) := ⟨_, rfl⟩
          rw [← hy147] at H
          have Ny147 := Aside0.mk hy147
          clear hy147
          have H' := Aside0.mk H
          clear H
          obtain ⟨i010, hi010, _, hsz10, _⟩ := info_parts info131
          have hcut10 := cut_to (P := Tryz.prog) 171 131 .i64 Tryz.underlying171 hi010 (some ad146) x0_1.length c0 ji3 p146 hjle HC_0.out
          have hr10 := Aside0.mk (Kd.C_take HO_0.out (m := ji3.toNat) (by omega))
          have hy10 : y147.length = (ji3 : Int).toNat := (by rw [Ny147.out, List.length_take]; omega)
          rw [← Ny147.out] at hr10
          rw [← hy10] at hcut10
          have HC151 := Aside0.mk (show y147.length ≤ c0 from by have := HC_0.out; omega)
          have KY10 := Aside0.mk hy10
          clear hy10 hi010 hsz10
          replace p146 := eq_true p146
          replace q146 := eq_true q146
          replace hjle := eq_true hjle
          go_wp2
          go_roundg k1
          case measure => have := HK1.out; omega
          case rel => exact ⟨y147, rfl, H', ⟨by have := HK1.out; omega⟩, hr10, HC151, HB⟩
        · rw [if_neg c6] at H
          have c6b0 : ((rd x0_1 (ji3)) == 0) = false := beq_eq_false_iff_ne.mpr c6
          have c6b1 : ((rd x0_1 (ji3)) != 0) = true := bne_iff_ne.mpr c6
          obtain rfl := Option.some.inj H
          clear hjle
          replace p146 := eq_true p146
          replace q146 := eq_true q146
          go_wp2
          go_ret
          exact ⟨rfl, HB.out⟩
      · rw [if_neg c2] at H
        have c2b0 : decide (0 < (x0_1.length : Int)) = false := decide_eq_false c2
        have c2b1 : decide (0 < x0_1.length) = false := decide_eq_false (by omega)
        clear c2
        obtain rfl := Option.some.inj H
        go_wp2
        go_ret
        exact ⟨rfl, HB.out⟩
end Go.Proofs.YthbdjmopolpjmaaGreatDoor.C
end
section
set_option linter.unusedVariables false
set_option linter.unusedSimpArgs false
namespace Go.Proofs.YthbdjmopolpjmaaGreatDoor.C
open Go.RowKit Go.Proofs.YthbdjmopolpjmaaGreatDoorW.PrintWords Go.Proofs.YthbdjmopolpjmaaGreatDoorW.PrintLast Go.Proofs.YthbdjmopolpjmaaGreatDoorW.PrintMore Go.Proofs.YthbdjmopolpjmaaGreatDoor.F Go.Proofs.YthbdjmopolpjmaaGreatDoor.M
set_option maxHeartbeats 8000000 in
set_option maxRecDepth 100000 in
theorem put_call (k g o : Nat) (neg : Bool) (A0 : Option Addr) (c0 : Nat) (l0 : List Int) (r : List Int) (w : World) (v0 v1 : Value) (hx0 : w.cell? ⟨g, o, none⟩ = some v0) (hx1 : w.cell? ⟨g, o + 1, none⟩ = some v1) (hf0 : w.frozen? ⟨g, o, none⟩ = false) (hf1 : w.frozen? ⟨g, o + 1, none⟩ = false)
    (hC0 : Kd.C (Kd.int .u32) w A0 l0.length l0) (hc0 : l0.length ≤ c0) (h : ample_trim.f k l0 = some r) :
    Calls Tryz.prog 160 #[.pointer (some ⟨g, o, none⟩), .bool neg, .slice A0 l0.length c0] w fun e w' => e = .returned (.pointer (some ⟨g, o, none⟩)) ∧ w' = (w.setCell ⟨g, o, none⟩ (.bool (neg && !r.isEmpty))).setCell ⟨g, o + 1, none⟩ (.slice A0 r.length c0) := by
  have HO0 := Aside0.mk hC0
  have HC0 := Aside0.mk hc0
  have H' := Aside0.mk (show ample_trim.l0 k l0 = some r from h)
  clear h hC0 hc0
  go_enter Tryz.func160, Tryz.ntmps160
  go_wp2
  go_loopg [2] k (fun kq v2 w' => ∃ (x0_1 : List Int), v2 = .slice A0 x0_1.length c0 ∧ w' = w ∧ Aside0 (ample_trim.l0 kq x0_1 = some r) ∧ Aside0 (kq ≤ k) ∧ Aside0 (Kd.C (Kd.int .u32) w A0 x0_1.length x0_1) ∧ Aside0 (x0_1.length ≤ c0))
  case atStart => exact ⟨l0, rfl, rfl, H', ⟨Nat.le_refl _⟩, HO0, HC0⟩
  case round =>
    clear H' HO0
    obtain ⟨x0_1, rfl, rfl, HA, HK1, HO_0, HC_0⟩ := hrel
    cases gk with
    | zero => exact absurd HA.out (by simp [ample_trim.l0])
    | succ k1 =>
      have H := HA.out
      clear HA
      simp only [ample_trim.l0] at H
      by_cases c2 : (x0_1.length : Int) > 0
      · rw [if_pos c2] at H
        have c2b0 : decide (0 < (x0_1.length : Int)) = true := decide_eq_true c2
        have c2b1 : decide (0 < x0_1.length) = true := decide_eq_true (by omega)
        have hmax := Kd.C_max HO_0.out
        have hw : wrap64 ((x0_1.length : Int) - 1) = (x0_1.length : Int) - 1 := w64 (by omega) (by omega)
        rw [hw, if_pos (by omega), if_pos (by omega)] at H
        obtain ⟨ji3, hji3⟩ : ∃ j_ : Int, (x0_1.length : Int) - 1 = j_ := ⟨_, rfl⟩
        rw [hji3] at H
        have hji3w : (IntKind.i64.wrap ((x0_1.length : Int) - 1)) = ji3 := (i64_w _).trans (hw.trans hji3)
        have hji3' : wrap64 ((x0_1.length : Int) - 1) = ji3 := hw.trans hji3
        have p146 : 0 ≤ ji3 := by omega
        have q146 : ji3 < (x0_1.length : Int) := by omega
        have hjle : ji3 ≤ (x0_1.length : Int) := by omega
        have hne : x0_1.isEmpty = false := by cases x0_1 with | nil => simp at c2 | cons _ _ => rfl
        have Hne := Aside0.mk hne
        have Hji := Aside0.mk hji3
        clear c2 hmax hw hji3 hne
        obtain ⟨ad146, e146, hx146_0⟩ := Kd.at_int HO_0.out ji3 p146 q146
        cases e146
        by_cases c6 : (rd x0_1 ji3) = 0
        · rw [if_pos c6, if_pos hjle] at H
          have c6b0 : ((rd x0_1 (ji3)) == 0) = true := beq_iff_eq.mpr c6
          have c6b1 : ((rd x0_1 (ji3)) != 0) = false := bne_eq_false_iff_eq.mpr c6
          clear c6
          obtain ⟨y147, hy147⟩ : ∃ y_ : List Int, y_ = (x0_1.take (ji3 : Int).toNat) := ⟨_, rfl⟩
          rw [← hy147] at H
          have Ny147 := Aside0.mk hy147
          clear hy147
          have H' := Aside0.mk H
          clear H
          obtain ⟨i010, hi010, _, hsz10, _⟩ := info_parts info131
          have hcut10 := cut_to (P := Tryz.prog) 171 131 .i64 Tryz.underlying171 hi010 (some ad146) x0_1.length c0 ji3 p146 hjle HC_0.out
          have hr10 := Aside0.mk (Kd.C_take HO_0.out (m := ji3.toNat) (by omega))
          have hy10 : y147.length = (ji3 : Int).toNat := (by rw [Ny147.out, List.length_take]; omega)
          rw [← Ny147.out] at hr10
          rw [← hy10] at hcut10
          have HC151 := Aside0.mk (show y147.length ≤ c0 from by have := HC_0.out; omega)
          have KY10 := Aside0.mk hy10
          clear hy10 hi010 hsz10
          replace p146 := eq_true p146
          replace q146 := eq_true q146
          replace hjle := eq_true hjle
          go_wp2
          go_roundg k1
          case measure => have := HK1.out; omega
          case rel => exact ⟨y147, rfl, rfl, H', ⟨by have := HK1.out; omega⟩, hr10, HC151⟩
        · rw [if_neg c6] at H
          have c6b0 : ((rd x0_1 (ji3)) == 0) = false := beq_eq_false_iff_ne.mpr c6
          have c6b1 : ((rd x0_1 (ji3)) != 0) = true := bne_iff_ne.mpr c6
          obtain rfl := Option.some.inj H
          clear hjle
          replace p146 := eq_true p146
          replace q146 := eq_true q146
          cases neg
          · go_wp2
            go_ret
            exact ⟨rfl, by simp⟩
          · go_wp2
            go_ret
            exact ⟨rfl, by simp [Hne.out]⟩
      · rw [if_neg c2] at H
        have c2b0 : decide (0 < (x0_1.length : Int)) = false := decide_eq_false c2
        have c2b1 : decide (0 < x0_1.length) = false := decide_eq_false (by omega)
        have hne : x0_1.isEmpty = true := by cases x0_1 with | nil => rfl | cons _ _ => simp at c2; try omega
        have Hne := Aside0.mk hne
        clear c2 hne
        obtain rfl := Option.some.inj H
        cases neg
        · go_wp2
          go_ret
          exact ⟨rfl, by simp⟩
        · go_wp2
          go_ret
          exact ⟨rfl, by simp [Hne.out]⟩
theorem below_ne_chg {w : World} {g : Nat} (p q : Addr) (hp : p.block = g) (hq : q.block = g) (v u : Value) : Chg (· = g) w ((w.setCell p v).setCell q u) :=
  ((Chg.refl _ w).setCell p (.inl hp) v).setCell q (.inl hq) u
theorem put_int (g : Nat) (neg : Bool) (A0 : Option Addr) (c0 : Nat) (xs : List Int) (w : World) (v0 v1 : Value) (hb : w.heap[g]? = some (.cells #[v0, v1] 173 (0, 0))) (hU : U w A0 xs) (hc0 : xs.length ≤ c0) (hd : Dig 4294967296 xs) (hl : xs.length ≤ 1000000) :
    ∃ r, Wd r ∧ val 4294967296 r = val 4294967296 xs ∧ Calls Tryz.prog 160 #[.pointer (some ⟨g, 0, none⟩), .bool neg, .slice A0 xs.length c0] w fun e w' => e = .returned (.pointer (some ⟨g, 0, none⟩)) ∧ IntB w' g (neg && !r.isEmpty) r ∧ Chg (· = g) w w' := by
  obtain ⟨n, hn, ht, hv, he⟩ := trim_tells 4294967296 xs (by omega)
  obtain ⟨k, hk⟩ := he.rounds
  have hlen : (xs.take n).length = n := by rw [List.length_take]; omega
  refine ⟨xs.take n, ⟨dig_take hd n, ht, by omega⟩, hv, (put_call k g 0 neg A0 c0 xs _ w v0 v1 ((blk_cell hb 0).trans rfl) ((blk_cell hb 1).trans rfl) (blk_frozen hb 0) (blk_frozen hb 1) hU.now hc0 hk).mono fun e w' ⟨he, hw⟩ => ?_⟩
  subst hw
  have hch := below_ne_chg (w := w) (g := g) ⟨g, 0, none⟩ ⟨g, 0 + 1, none⟩ rfl rfl (.bool (neg && !(xs.take n).isEmpty)) (.slice A0 (xs.take n).length c0)
  refine ⟨he, ⟨A0, c0, ?_, by omega, (hU.chg hch (fun k hk _ => by subst hk; exact ty_ne hb (by decide))).take hn⟩, hch⟩
  have h1 := blk_set hb 0 (.bool (neg && !(xs.take n).isEmpty))
  have h2 := blk_set h1 1 (.slice A0 (xs.take n).length c0)
  simpa using h2
end Go.Proofs.YthbdjmopolpjmaaGreatDoor.C
end
