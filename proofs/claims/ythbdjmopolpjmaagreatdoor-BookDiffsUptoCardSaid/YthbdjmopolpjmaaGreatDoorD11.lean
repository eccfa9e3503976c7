/- Part 11 of the proof: CDivide2, CInt, CInt2, CInt3, CGcd. -/
import Derived.Deep.RegionWith
import Derived.Test.YthbdjmopolpjmaaGreatDoorD00
import Derived.Test.YthbdjmopolpjmaaGreatDoorD01
import Derived.Test.YthbdjmopolpjmaaGreatDoorD02
import Derived.Test.YthbdjmopolpjmaaGreatDoorD03
import Derived.Test.YthbdjmopolpjmaaGreatDoorD04
import Derived.Test.YthbdjmopolpjmaaGreatDoorD08
import Derived.Test.YthbdjmopolpjmaaGreatDoorD09
import Derived.Test.YthbdjmopolpjmaaGreatDoorD10
section
set_option linter.unusedVariables false
set_option linter.unusedSimpArgs false
namespace Go.Proofs.YthbdjmopolpjmaaGreatDoor.C
open Go.RowKit Go.Proofs.YthbdjmopolpjmaaGreatDoorW.PrintWords Go.Proofs.YthbdjmopolpjmaaGreatDoorW.PrintLast Go.Proofs.YthbdjmopolpjmaaGreatDoorW.PrintMore Go.Proofs.YthbdjmopolpjmaaGreatDoor.F Go.Proofs.YthbdjmopolpjmaaGreatDoor.M
attribute [local go_sem] max2_int min2_int max_two min_two max_three min_three max_four min_four
theorem U.drew {W : World} {A : Option Addr} {xs : List Int} (h : U W A xs) : U W.drew A xs := h.below (below_drew (Below.refl _ _))
structure Row (W : World) (g : Nat) (x : List Int) : Prop where
  cell : ∀ j, j < x.length → W.cell? ⟨g, j, none⟩ = some (.int .u32 (x.getD j 0))
  ty : ∃ cells, W.heap[g]? = some (.cells cells 131 (0, 0))
theorem Row.of_R {W : World} {base : Nat} {ok : Nat → Prop} {v : Value} {xs : List Int} (h : Kd.R (Kd.int .u32) 131 W base ok v xs) (hp : 0 < xs.length) : ∃ g cap, v = .slice (some ⟨g, 0, none⟩) xs.length cap ∧ base ≤ g ∧ xs.length ≤ cap ∧ Row W g xs := by
  obtain ⟨g, cap, rfl, hb, _, hty⟩ := Kd.R_form h hp
  obtain ⟨_, hc, hC⟩ := Kd.R_reads' h
  refine ⟨g, cap, rfl, hb, hc, ⟨fun j hj => ?_, hty⟩⟩
  have := Kd.foot_int hC (j : Int) (by omega) (by omega)
  rw [add_plain] at this
  simpa [rd] using this
theorem Row.keep {W W1 : World} {g : Nat} {x : List Int} (h : Row W g x) (hb : W1.heap[g]? = W.heap[g]?) : Row W1 g x := by
  obtain ⟨cells, hc⟩ := h.ty
  refine ⟨fun j hj => ?_, cells, hb.trans hc⟩
  rw [blk_cell (hb.trans hc), ← blk_cell hc]
  exact h.cell j hj
theorem Row.lt {W : World} {g : Nat} {x : List Int} (h : Row W g x) : g < W.heap.size := by
  obtain ⟨c, hc⟩ := h.ty
  exact blk_lt hc
theorem Row.below {W W1 : World} {g : Nat} {x : List Int} (h : Row W g x) (hb : Below W.heap.size W W1) : Row W1 g x := h.keep (hb.block g h.lt)
theorem Row.free {W : World} {g : Nat} {x : List Int} (h : Row W g x) (j : Nat) : W.frozen? ⟨g, j, none⟩ = false := by
  obtain ⟨c, hc⟩ := h.ty
  exact blk_frozen hc j
theorem Row.mut {W : World} {g : Nat} {z : List Int} (h : Row W g z) {m l : Nat} (hl : m + l + 1 ≤ z.length) : Mut 131 .u32 W W g m (l + 1) (win z m l) :=
  ⟨win_len hl, fun j hj => by rw [win_get hl hj]; exact h.cell (m + j) (by omega), fun j => h.free j, Chg.refl _ _, fun _ _ => rfl, h.ty⟩
theorem patch_get {z r : List Int} {m l j : Nat} (hl : m + l + 1 ≤ z.length) (hr : r.length = l + 1) : (z.take m ++ r ++ z.drop (m + l + 1)).getD j 0 = if j < m then z.getD j 0 else if j < m + (l + 1) then r.getD (j - m) 0 else z.getD j 0 := by
  have htl : (z.take m).length = m := by rw [List.length_take]; omega
  simp only [List.getD_eq_getElem?_getD]
  split
  · rename_i h
    rw [List.append_assoc, List.getElem?_append_left (by omega), List.getElem?_take_of_lt h]
  · split
    · rename_i h1 h2
      rw [List.append_assoc, List.getElem?_append_right (by omega), List.getElem?_append_left (by omega), htl]
    · rename_i h1 h2
      rw [List.append_assoc, List.getElem?_append_right (by omega), List.getElem?_append_right (by omega), htl, hr, List.getElem?_drop]
      congr 2
      omega
theorem Row.of_mut {W W1 : World} {g : Nat} {z r : List Int} (h : Row W g z) {m l : Nat} (hl : m + l + 1 ≤ z.length) (hm : Mut 131 .u32 W W1 g m (l + 1) r) : Row W1 g (z.take m ++ r ++ z.drop (m + l + 1)) := by
  have hrl := hm.len
  have htl : (z.take m).length = m := by rw [List.length_take]; omega
  refine ⟨fun j hj => ?_, hm.ty⟩
  have htot : (z.take m ++ r ++ z.drop (m + l + 1)).length = z.length := by simp; omega
  rw [htot] at hj
  rw [patch_get hl hrl]
  split
  · rw [hm.out j (.inl (by omega)), h.cell j hj]
  · split
    · have := hm.cell (j - m) (by omega)
      rw [show m + (j - m) = j by omega] at this
      exact this
    · rw [hm.out j (.inr (by omega)), h.cell j hj]
theorem Row.set {W : World} {g : Nat} {x : List Int} (h : Row W g x) (i : Nat) (v : Int) : Row (W.setCell ⟨g, i, none⟩ (.int .u32 v)) g (x.set i v) := by
  obtain ⟨cells, hc⟩ := h.ty
  have hs := blk_set hc i (.int .u32 v)
  refine ⟨fun j hj => ?_, _, hs⟩
  rw [List.length_set] at hj
  by_cases e : i = j
  · subst e
    have hx := h.cell i hj
    rw [blk_cell hc] at hx
    have hlt : i < cells.size := (Array.getElem?_eq_some_iff.1 hx).1
    rw [blk_cell hs]
    simp [hlt, hj]
  · rw [cell_set_ne e, h.cell j hj]
    simp [List.getElem?_set_ne e]
theorem Row.U {W : World} {g : Nat} {x : List Int} (h : Row W g x) (hm : x.length ≤ 9223372036854775807) : C.U W (some ⟨g, 0, none⟩) x := by
  intro W' hW
  have hg : W'.heap[g]? = W.heap[g]? := hW g h.ty h.lt
  have h' := h.keep hg
  refine Kd.C_of_reads (d := (0 : Int)) ⟨rfl, hm, fun _ => ⟨_, rfl, fun j hj => ?_⟩⟩
  rw [add_plain]
  exact h'.cell j hj
theorem info_ex {P : Program} (e : TypeId) {z : Value} {s y : Nat} (h : (P.info? e).map (fun i => (i.zero, i.size, i.bytes)) = some (some z, s, y)) : ∃ i, P.info? e = some i := by
  obtain ⟨i, hi, _⟩ := Option.map_eq_some_iff.1 h
  exact ⟨i, hi⟩
theorem cut_mid (g n c L : Nat) (a b : Int) (h0 : 0 ≤ a) (h1 : a ≤ b) (hm : b ≤ n) (hc : n ≤ c) (hlt : a < n) (hL : b.toNat - a.toNat = L) :
    ∀ W : World, (Instr.slice 171 (.slice (some ⟨g, 0, none⟩) n c) (some (.int .i64 a)) (some (.int .i64 b)) none).run Tryz.prog W = .ok (.slice (some ⟨g, a.toNat, none⟩) L (c - a.toNat)) W := by
  intro W
  obtain ⟨i, hi, _, hsz, _⟩ := info_parts info131
  have hel : Tryz.prog.elem 171 = 131 := by simp [Program.elem, Tryz.underlying171]
  have hu : Tryz.prog.underlying 171 = some (.slice (Tryz.prog.elem 171)) := by rw [hel]; exact Tryz.underlying171
  rw [run_slice_lh W 171 (some ⟨g, 0, none⟩) n c hu .i64 .i64 a b h0 h1 (by omega), hel]
  have hne : ¬ c = a.toNat := by omega
  subst hL
  simp [sizeOf, typeInfo, hi, hsz, sliced, Result.andThen, hne]
  unfold Addr.add
  split <;> simp_all
theorem row_made (W : World) (n : Nat) (hn : 0 < n) (hm : n ≤ 9223372036854775807) : Row (W.alloc (.cells (madeCells #[.int .u32 0] n) 131)) W.heap.size (List.replicate n 0) := by
  have h : Kd.R (Kd.int .u32) 131 (W.alloc (.cells (madeCells #[.int .u32 0] n) 131)) W.heap.size (fun _ => True) (.slice (some ⟨W.heap.size, 0, none⟩) n n) (List.replicate n 0) :=
    Kd.R_of_own (by have := own_made W W.heap.size 131 .u32 n (Nat.le_refl _) hm; simpa [encs, nums] using this) (fun _ _ => trivial)
  obtain ⟨g, cap, e, _, _, hr⟩ := Row.of_R h (by simpa using hn)
  injection e with e1
  injection e1 with e1
  injection e1 with e1
  subst e1
  exact hr
theorem guess_row (k g h m c0 cv : Nat) (z v' : List Int) (l : Nat) (x : Int) (r : List Int) (W : World) (hz : Row W g z) (hv : Row W h v') (hgh : h ≠ g) (hl : m + l + 1 ≤ z.length) (hvl : l ≤ v'.length) (hvm : v'.length ≤ 9223372036854775807) (hcv : l ≤ cv) (hk : ample_guess.f k (win z m l) (v'.take l) = some (x, r)) :
    Calls Tryz.prog 209 #[.slice (some ⟨g, m, none⟩) (l + 1) c0, .slice (some ⟨h, 0, none⟩) l cv] W fun e w' => e = .returned (.int .u32 x) ∧ Row w' g (z.take m ++ r ++ z.drop (m + l + 1)) ∧ Chg (· = g) W w' := by
  have htl : (v'.take l).length = l := by rw [List.length_take]; omega
  have hV : ∀ W', Chg (· = g) W W' → Kd.C (Kd.int .u32) W' (some ⟨h, 0, none⟩) (v'.take l).length (v'.take l) := fun W' hc =>
    (((hv.keep (hc.block h hv.lt hgh)).U hvm).take hvl).now
  have := guess_call k g m c0 (win z m l) (some ⟨h, 0, none⟩) cv (v'.take l) x r W (l + 1) (hz.mut hl) hV (by omega) hk
  rw [htl] at this
  exact this.mono fun e w' ⟨he, hm⟩ => ⟨he, hz.of_mut hl hm, hm.chg⟩
theorem trim_Un (n : Nat) (A0 : Option Addr) (c0 : Nat) (xs r : List Int) (w : World) (hn : xs.length = n) (hU : U w A0 xs) (hc0 : n ≤ c0) (h : IsTrim xs r) :
    Calls Tryz.prog 206 #[.slice A0 n c0] w fun e w' => e = .returned (.slice A0 r.length c0) ∧ r.length ≤ c0 ∧ U w' A0 r ∧ Below w.heap.size w w' := by
  subst hn
  exact trim_U A0 c0 xs r w hU hc0 h
theorem right_Un (n : Nat) (A0 : Option Addr) (c0 : Nat) (xs r : List Int) (s : Int) (w : World) (hn : xs.length = n) (hU : U w A0 xs) (hc0 : n ≤ c0) (k : Nat) (h : ample_right.f k xs s = some r) :
    Calls Tryz.prog 210 #[.slice A0 n c0, .int .i64 s] w fun e w' => ∃ A c, e = .returned (.slice A r.length c) ∧ r.length ≤ c ∧ U w' A r ∧ Below w.heap.size w w' := by
  subst hn
  refine (ample_right.calls k A0 c0 xs s r w hU.now hc0 h).mono fun e w' ⟨v, he, hR, hb⟩ => ?_
  obtain ⟨A, c, rfl, h1, h2⟩ := U.of_R hR
  exact ⟨A, c, he, h1, h2, hb⟩
theorem left_row (A : Option Addr) (c : Nat) (a u : List Int) (n : Int) (w : World) (hA : U w A a) (hc : a.length ≤ c) (k : Nat) (hk : ample_left.f k a n = some u) (hp : 0 < u.length) :
    Calls Tryz.prog 208 #[.slice A a.length c, .int .i64 n] w fun e w' => ∃ g cap, e = .returned (.slice (some ⟨g, 0, none⟩) u.length cap) ∧ w.heap.size ≤ g ∧ u.length ≤ cap ∧ Row w' g u ∧ Below w.heap.size w w' :=
  (ample_left.calls k A c a n u w hA.now hc hk).mono fun e w' ⟨v, he, hR, hb⟩ => by
    obtain ⟨g, cap, rfl, h1, h2, h3⟩ := Row.of_R hR hp
    exact ⟨g, cap, he, h1, h2, h3, hb⟩
def DivAns (a b : List Int) (w : World) (e : Ending) (w' : World) : Prop := ∃ q r, Wd q ∧ Wd r ∧ val 4294967296 a = val 4294967296 q * val 4294967296 b + val 4294967296 r ∧ val 4294967296 r < val 4294967296 b ∧ DivPost q r w e w'
theorem shift_end {a b V Q R s : Int} (hs : 1 ≤ s) (h : a * s = Q * V + R) (hV : V = b * s) (hR : R < V) (h0 : 0 ≤ R) : ∃ R', R = R' * s ∧ a = Q * b + R' ∧ R' < b ∧ 0 ≤ R' := by
  refine ⟨a - Q * b, ?_, by omega, ?_, ?_⟩
  · rw [Int.sub_mul, h, hV]; grind
  · have e : (a - Q * b) * s = R := by rw [Int.sub_mul, h, hV]; grind
    by_cases hlt : a - Q * b < b
    · exact hlt
    · exfalso
      have := Int.mul_le_mul_of_nonneg_right (show b ≤ a - Q * b by omega) (show 0 ≤ s by omega)
      omega
  · have e : (a - Q * b) * s = R := by rw [Int.sub_mul, h, hV]; grind
    by_cases hlt : 0 ≤ a - Q * b
    · exact hlt
    · exfalso
      have := Int.mul_le_mul_of_nonneg_right (show a - Q * b ≤ -1 by omega) (show 0 ≤ s by omega)
      omega
set_option maxHeartbeats 2000000 in
set_option maxRecDepth 100000 in
theorem divide_big (A0 : Option Addr) (c0 : Nat) (a : List Int) (A1 : Option Addr) (c1 : Nat) (b : List Int) (w : World) (hA : U w A0 a) (ha : a.length ≤ c0) (hB : U w A1 b) (hb : b.length ≤ c1) (wa : Wd a) (wb : Wd b) (hge : val 4294967296 b ≤ val 4294967296 a) (hb1 : 1 < b.length) :
    Calls Tryz.prog 159 #[.slice A0 a.length c0, .slice A1 b.length c1] w (DivAns a b w) := by
  obtain ⟨rc, hr, _, _, hev⟩ := compare_tells wa.1 wb.1 wa.2.1 wb.2.1 (by have := wa.2.2; omega) (by have := wb.2.2; omega)
  obtain ⟨k, hk⟩ := hev.rounds
  have hneg : decide (rc < 0) = false := decide_eq_false (fun h => by have := hr.1.1 h; omega)
  have hbn : b ≠ [] := by intro e; subst e; simp at hb1
  have btop := dig_rd wb.1 ((b.length : Int) - 1) (by omega)
  have bnz : rd b ((b.length : Int) - 1) ≠ 0 := by rw [rd_last hbn]; exact wb.2.1 hbn
  obtain ⟨s, hs, hlz, htop⟩ := shift_fact (t := rd b ((b.length : Int) - 1)) (by omega) (by omega)
  obtain ⟨u, heu, hud, hul, huv⟩ := left_tells (a := a) (n := (s : Int)) (by omega) (by omega) wa.1 (by have := wa.2.2; omega)
  obtain ⟨v', hev', hvd, hvl, hvv⟩ := left_tells (a := b) (n := (s : Int)) (by omega) (by omega) wb.1 (by have := wb.2.2; omega)
  rw [Int.toNat_natCast] at huv hvv
  obtain ⟨k2, hk2⟩ := heu.rounds
  obtain ⟨k3, hk3⟩ := hev'.rounds
  obtain ⟨v1, v2, v3, v4, hlen, hinv⟩ := div_start wa.1 wb.1 wa.2.1 wb.2.1 hbn hge hs htop hud hul huv hvd hvl hvv
  have HA := Aside0.mk hA
  have HB := Aside0.mk hB
  have Hwa := Aside0.mk wa
  have HL := Aside0.mk (And.intro ha hb)
  have HCL := Aside0.mk (ample_compare.calls k A0 c0 a A1 c1 b rc w hA.now ha hB.now hb hk)
  have hl1 : ((b.length : Int) == 1) = false := by rw [beq_eq_false_iff_ne]; omega
  have hw0 : wrap64 ((b.length : Int) - 1) = (b.length : Int) - 1 := w64 (by omega) (by have := wb.2.2; omega)
  obtain ⟨tp, htp⟩ : ∃ t : Int, (b.length : Int) - 1 = t := ⟨_, rfl⟩
  have hw1 : wrap64 ((b.length : Int) - 1) = tp := hw0.trans htp
  have hw2 : IntKind.i64.wrap ((b.length : Int) - 1) = tp := (i64_w _).trans hw1
  rw [htp] at btop bnz hlz htop
  have p1 : 0 ≤ tp := by omega
  have q1 : tp < (b.length : Int) := by omega
  have HX := Aside0.mk (And.intro btop (And.intro bnz (And.intro hlz (And.intro htp hs))))
  have Hk2 := Aside0.mk hk2
  have Hk3 := Aside0.mk hk3
  have HV := Aside0.mk (And.intro v1 (And.intro v2 (And.intro v3 v4)))
  have HI := Aside0.mk hinv
  have HU := Aside0.mk (And.intro hul (And.intro hvl (And.intro hlen hb1)))
  clear hA hB ha hb wa wb hge hb1 hr hev hk hbn btop bnz hlz htop heu hud hul huv hev' hvd hvl hvv hk2 hk3 v1 v2 v3 v4 hlen hinv hw0 htp
  go_enter Tryz.func159, Tryz.ntmps159
  go_wp2_with fail
  refine HCL.out.mono ?_
  rintro e w1 ⟨rfl, hd⟩
  have HD := Aside0.mk hd
  have HA1 := Aside0.mk (HA.out.drawn hd)
  obtain ⟨ad, e2, hx2⟩ := Kd.at_int (HB.out.drawn hd).now tp p1 q1
  cases e2
  have HB1 := Aside0.mk (HB.out.drawn hd)
  clear hd HCL HB
  go_wp2_with fail
  refine (Tryz.bits_LeadingZeros32 (rd b tp) w1 HX.out.1.1 (by have := HX.out.1.2; omega)).mono ?_
  rintro e w1x ⟨rfl, rfl⟩
  rw [HX.out.2.2.1]
  go_wp2_with fail
  go_cut [9, 10] (fun v9 v10 wc => ∃ g cu h cv, v9 = .slice (some ⟨g, 0, none⟩) u.length cu ∧ v10 = .slice (some ⟨h, 0, none⟩) b.length cv ∧ Aside0 (w.heap.size ≤ g ∧ u.length ≤ cu ∧ Row wc g u ∧ b.length ≤ cv ∧ Row wc h v' ∧ g < h ∧ Below w.heap.size w wc))
  case first =>
    obtain ⟨i010, hi010, _, hsz10, _⟩ := info_parts info131
    go_region_with ((first
      | (go_at_call_of 208 (Value.slice A0 a.length c0); refine (left_row A0 c0 a u s _ (by first | exact HA1.out | exact HA1.out.drew) HL.out.1 k2 Hk2.out (by have := HU.out.1; omega)).mono ?_; rintro e w2 ⟨g, cu, rfl, hg, hcu, hrow, hbel⟩; have HF := Aside0.mk (And.intro hg (And.intro hcu (And.intro hrow hbel))); clear hg hcu hrow hbel; have HB2 := Aside0.mk ((HB1.out.drew).below HF.out.2.2.2))
      | (go_at_call_of 208 (Value.slice (some ad) b.length c1); refine (left_row (some ad) c1 b v' s _ (by first | exact HB2.out | exact HB2.out.drew) HL.out.2 k3 Hk3.out (by have := HU.out.2.1; omega)).mono ?_; rintro e w3 ⟨h, cv, rfl, hh, hcv, hrow3, hbel3⟩; have hct := cut_to (P := Tryz.prog) 171 131 .i64 Tryz.underlying171 hi010 (some ⟨h, 0, none⟩) v'.length cv (b.length : Int) (by omega) (by have := HU.out.2.1; omega) hcv; simp only [Int.toNat_natCast] at hct; have HG := Aside0.mk (And.intro hh (And.intro hcv (And.intro hrow3 hbel3))); clear hh hcv hrow3 hbel3)))
    go_wp2_with fail
    go_meet
    have hb1 : Below w.heap.size w w2 := below_then (below_drew HD.out.below) (by have := HD.out.below.size; simpa using this) HF.out.2.2.2
    have hb2 : Below w.heap.size w w3 := below_then hb1 hb1.size HG.out.2.2.2
    have h1 := HF.out.2.2.1.lt
    have h2 := HG.out.1
    have h3 := HF.out.1
    have h4 := HD.out.below.size
    have h5 := HU.out.2.1
    have h6 := HG.out.2.1
    exact ⟨g, cu, h, cv, rfl, rfl, ⟨by simp at h3; omega, HF.out.2.1, HF.out.2.2.1.below HG.out.2.2.2, by omega, HG.out.2.2.1, by omega, hb2⟩⟩
  case rest =>
    obtain ⟨g, cu, h, cv, rfl, rfl, HC⟩ := hcut
    obtain ⟨n, hn⟩ : ∃ n : Nat, a.length + 1 - b.length = n := ⟨_, rfl⟩
    have hal := Hwa.out.2.2
    have hu1 := HU.out.1
    have hu3 := HU.out.2.2.1
    have hw3 : wrap64 ((u.length : Int) - (b.length : Int)) = (n : Int) := by rw [w64 (by omega) (by omega)]; omega
    have hw4 : wrap64 ((n : Int) - 1) = (n : Int) - 1 := w64 (by omega) (by omega)
    have hmk := print_make (P := Tryz.prog) 171 131 .u32 4 Tryz.underlying171 info131 (by decide) n (by omega)
    have hnp : 0 < n := by omega
    have HN := Aside0.mk (And.intro hn (And.intro hnp (And.intro hal (And.intro hu1 hu3))))
    have HQ := Aside0.mk (row_made wc n hnp (by omega))
    rw [hn] at HI
    clear hn hal hu1 hu3 hnp
    go_wp2_with fail
    go_loopw [12] (fun v12 W => ∃ (i : Int) (z q : List Int), v12 = .int .i64 i ∧ Aside0 (-1 ≤ i ∧ DivInv (val 4294967296 a * 2 ^ s) (v'.take b.length) n (i + 1).toNat z q ∧ Row W g z ∧ Row W h v' ∧ Row W wc.heap.size q ∧ Below w.heap.size w W)) (fun v12 _ => (intOf v12 + 1).toNat)
    case atStart => exact ⟨(n : Int) - 1, u, List.replicate n 0, (by rw [hw4]), ⟨by omega, (by rw [show ((n : Int) - 1 + 1).toNat = n by omega]; exact HI.out), HC.out.2.2.1.below (below_alloc (Below.refl _ _) _), HC.out.2.2.2.2.1.below (below_alloc (Below.refl _ _) _), HQ.out, below_then HC.out.2.2.2.2.2.2 HC.out.2.2.2.2.2.2.size (below_alloc (Below.refl _ _) _)⟩⟩
    case round =>
      obtain ⟨i, z, q, rfl, HR⟩ := hrel
      clear HI HQ hmk hw3 hw4
      by_cases hi0 : 0 ≤ i
      case neg =>
        have hi : decide (0 ≤ i) = false := decide_eq_false hi0
        have hD := HR.out.2.1
        rw [show (i + 1).toNat = 0 by omega] at hD
        clear hi0
        have hal := HN.out.2.2.1
        have hzl := hD.zl
        have hql := hD.ql
        rw [HV.out.1] at hzl
        have hu3 := HN.out.2.2.2.2
        have hn1 := HN.out.1
        have hs1 := (pow2_facts s hs).1
        obtain ⟨e1, e2⟩ := div_end hD
        rw [HV.out.1] at e1 e2
        have e0 := val_nonneg (B := 4294967296) (by omega) (dig_take hD.zd b.length)
        obtain ⟨R', r1, r2, r3, r4⟩ := shift_end hs1 e1 HV.out.2.2.1 e2 e0
        have hzt : (z.take b.length).length = b.length := by rw [List.length_take]; omega
        obtain ⟨rr, her, hrd, hrl, hrv⟩ := right_tells (a := z.take b.length) (n := (s : Int)) (by omega) (by omega) (dig_take hD.zd b.length) (by rw [hzt]; have := HU.out.2.2.1; omega) R' (by rw [Int.toNat_natCast]; exact r1)
        obtain ⟨kr, hkr⟩ := her.rounds
        rw [hzt] at hrl
        obtain ⟨tq, htq, wtq, vtq, ltq⟩ := trim_ex (xs := q) hD.qd (by omega)
        obtain ⟨tr, htr, wtr, vtr, ltr⟩ := trim_ex (xs := rr) hrd (by omega)
        have HT := Aside0.mk (And.intro htq htr)
        have HAns := Aside0.mk (show Wd tq ∧ Wd tr ∧ val 4294967296 a = val 4294967296 tq * val 4294967296 b + val 4294967296 tr ∧ val 4294967296 tr < val 4294967296 b from ⟨wtq, wtr, by rw [vtq, vtr, hrv]; exact r2, by rw [vtr, hrv]; exact r3⟩)
        have Hkr := Aside0.mk hkr
        have HZ := Aside0.mk (And.intro hzt (And.intro hzl (And.intro hql (And.intro hrl hn1))))
        have HUq := Aside0.mk (HR.out.2.2.2.2.1.U (by omega))
        have HUz := Aside0.mk ((HR.out.2.2.1.U (by omega)).take (m := b.length) (by omega))
        clear hD hal hzl hql hu3 hn1 hs1 e1 e2 e0 r1 r2 r3 r4 hzt her hrd hrl hrv hkr htq wtq vtq ltq htr wtr vtr ltr
        go_wp2_with fail
        have hct := cut_to (P := Tryz.prog) 171 131 .i64 Tryz.underlying171 (Classical.choose_spec (info_ex 131 info131)) (some ⟨g, 0, none⟩) u.length cu (b.length : Int) (by omega) (by have := HU.out.1; have := HU.out.2.2.1; omega) HC.out.2.1
        simp only [Int.toNat_natCast] at hct
        have HW0 := Aside0.mk (Below.refl wr.heap.size wr)
        go_region_with ((first
          | (go_at_call_of 206 (Value.slice (some ⟨wc.heap.size, 0, none⟩) n n); refine (trim_Un n (some ⟨wc.heap.size, 0, none⟩) n q tq _ HZ.out.2.2.1 (by first | exact HUq.out | exact HUq.out.drew) (Nat.le_refl _) HT.out.1).mono ?_; rintro e w2 ⟨rfl, ha1, ha2, ha3⟩; have HF := Aside0.mk (And.intro ha1 (And.intro ha2 ha3)); clear ha1 ha2 ha3; have HUz2 := Aside0.mk (HUz.out.drew.below HF.out.2.2))
          | (go_at_call 210; refine (right_Un b.length (some ⟨g, 0, none⟩) cu (z.take b.length) rr s _ HZ.out.1 HUz2.out (by have := HU.out.1; have := HU.out.2.2.1; have := HC.out.2.1; omega) kr Hkr.out).mono ?_; rintro e w3 ⟨A3, c3, rfl, hb1, hb2, hb3⟩; have HG := Aside0.mk (And.intro hb1 (And.intro hb2 hb3)); clear hb1 hb2 hb3)
          | (go_at_call_of 206 (Value.slice A3 rr.length c3); refine (trim_Un rr.length A3 c3 rr tr _ rfl HG.out.2.1 HG.out.1 HT.out.2).mono ?_; rintro e w4 ⟨rfl, hc1, hc2, hc3⟩; have HH := Aside0.mk (And.intro hc1 (And.intro hc2 hc3)); clear hc1 hc2 hc3)))
        go_wp2_with fail
        go_simp
        go_ret2
        have g1 := HF.out
        have g2 := HG.out
        have g3 := HH.out
        have k1 : Below wr.heap.size wr w2 := below_then (below_drew (Below.refl _ _)) (by simp) g1.2.2
        have k2 : Below w2.heap.size w2 w4 := below_then g2.2.2 g2.2.2.size g3.2.2
        have kw := HR.out.2.2.2.2.2
        exact ⟨tq, tr, HAns.out.1, HAns.out.2.1, HAns.out.2.2.1, HAns.out.2.2.2, _, _, _, _, rfl, g1.1, g3.1, g1.2.1.below k2, g3.2.1, below_then kw kw.size (below_then k1 k1.size k2)⟩
      case pos =>
        have hi : decide (0 ≤ i) = true := decide_eq_true hi0
        have hD := HR.out.2.1
        rw [show (i + 1).toNat = i.toNat + 1 by omega] at hD
        have hal := HN.out.2.2.1
        have hu1 := HU.out.1
        have hu2 := HU.out.2.1
        have hu3 := HU.out.2.2.1
        have hn1 := HN.out.1
        have hmn := hD.hm
        have hzl := hD.zl
        have hql := hD.ql
        have hwin := hD.window HV.out.2.1
        rw [HV.out.1] at hzl hwin
        obtain ⟨x, r, hgk, hL⟩ := guess_tells (u := win z i.toNat b.length) (v := v'.take b.length) hwin.1 HV.out.2.1 (by rw [win_len (by omega), HV.out.1]) (by rw [HV.out.1]; omega) (by rw [HV.out.1]; omega) (by rw [HV.out.1]; exact HV.out.2.2.2) hwin.2.1
        obtain ⟨kg, hkg⟩ := hgk.rounds
        have hL' : M.Left (val 4294967296 (win z i.toNat (v'.take b.length).length)) (val 4294967296 (v'.take b.length)) (v'.take b.length).length x r := by rw [HV.out.1] at hL ⊢; exact hL
        have HS := Aside0.mk (hD.step HV.out.2.1 hL')
        rw [HV.out.1] at HS
        have e1 : wrap64 (i + (b.length : Int)) = i + b.length := w64 (by omega) (by omega)
        have e2 : wrap64 (i + (b.length : Int) + 1) = i + b.length + 1 := w64 (by omega) (by omega)
        have e3 : wrap64 (i - 1) = i - 1 := w64 (by omega) (by omega)
        have hct := cut_mid g u.length cu (b.length + 1) i (i + b.length + 1) (by omega) (by omega) (by omega) (by have := HC.out.2.1; omega) (by omega) (by omega)
        have hgh : h ≠ g := by have := HC.out.2.2.2.2.2.1; omega
        have HGR := Aside0.mk (guess_row kg g h i.toNat (cu - i.toNat) cv z v' b.length x r wr HR.out.2.2.1 HR.out.2.2.2.1 hgh (by omega) (by omega) (by omega) (by have := HC.out.2.2.2.1; omega) hkg)
        have HZ := Aside0.mk (And.intro hn1 (And.intro hmn (And.intro hzl (And.intro hql (And.intro hgh hi0)))))
        have qm : i < (n : Int) := by omega
        clear hD hal hu1 hu2 hu3 hn1 hmn hzl hql hwin hgk hkg hL hL' hgh
        go_wp2_with fail
        refine HGR.out.mono ?_
        rintro e wg ⟨rfl, hr1, hc1⟩
        have hgq : ¬ wc.heap.size = g := by have := HC.out.2.2.1.lt; omega
        have hrq : Row wg wc.heap.size q := HR.out.2.2.2.2.1.keep (hc1.block _ HR.out.2.2.2.2.1.lt hgq)
        have hrv : Row wg h v' := HR.out.2.2.2.1.keep (hc1.block _ HR.out.2.2.2.1.lt HZ.out.2.2.2.2.1)
        have hxq := hrq.cell i.toNat (by have := HZ.out.2.2.2.1; omega)
        have hfq := hrq.free i.toNat
        have hbw : Below w.heap.size w wg := (Chg.trans (S := fun k => k = g) (Chg.of_below HR.out.2.2.2.2.2) hc1 (fun _ _ h => h)).below (fun k hk => by subst hk; exact HC.out.1)
        have HG1 := Aside0.mk (And.intro hr1 (And.intro hrv (And.intro hrq (And.intro hbw hgq))))
        clear hr1 hc1 hrq hrv hbw hgq HGR hct
        replace hi0 := eq_true hi0
        replace qm := eq_true qm
        go_wp2_with fail
        go_roundw
        case measure => have := of_eq_true hi0; simp [intOf, e3]; omega
        case rel =>
          have hi1 := of_eq_true hi0
          have hsz : w.heap.size ≤ wc.heap.size := HC.out.2.2.2.2.2.2.size
          refine ⟨i - 1, _, q.set i.toNat x, (by rw [e3]), ⟨by omega, by rw [show (i - 1 + 1).toNat = i.toNat by omega]; exact HS.out, HG1.out.1.keep (Below.heap_setCell _ _ _ _ (fun e => HG1.out.2.2.2.2 e.symm)), HG1.out.2.1.keep (Below.heap_setCell _ _ _ _ (fun e => ?_)), HG1.out.2.2.1.set _ _, HG1.out.2.2.2.1.setCell (by simpa using hsz) _⟩⟩
          have := HC.out.2.2.2.2.1.lt
          have e' : h = wc.heap.size := e
          omega
theorem wd_nil : Wd [] := ⟨dig_nil _, trim_nil, by simp⟩
theorem divide_any (A0 : Option Addr) (c0 : Nat) (a : List Int) (A1 : Option Addr) (c1 : Nat) (b : List Int) (w : World) (hA : U w A0 a) (ha : a.length ≤ c0) (hB : U w A1 b) (hb : b.length ≤ c1) (wa : Wd a) (wb : Wd b) (hbn : b ≠ []) :
    Calls Tryz.prog 159 #[.slice A0 a.length c0, .slice A1 b.length c1] w (DivAns a b w) := by
  by_cases hlt : val 4294967296 a < val 4294967296 b
  · exact (divide_less A0 c0 a A1 c1 b w hA ha hB hb wa wb hlt).mono fun e w' h => ⟨[], a, wd_nil, wa, by simp [val], hlt, h⟩
  · by_cases h1 : b.length = 1
    · obtain ⟨q, r, h1, h2, h3, h4, hc⟩ := divide_small A0 c0 a A1 c1 b w hA ha hB hb wa wb (by omega) h1
      exact hc.mono fun e w' h => ⟨q, r, h1, h2, h3, h4, h⟩
    · have := List.length_pos_iff.2 hbn
      exact divide_big A0 c0 a A1 c1 b w hA ha hB hb wa wb (by omega) (by omega)
end Go.Proofs.YthbdjmopolpjmaaGreatDoor.C
end
section
set_option linter.unusedVariables false
set_option linter.unusedSimpArgs false
namespace Go.Proofs.YthbdjmopolpjmaaGreatDoor.C
open Go.RowKit Go.Proofs.YthbdjmopolpjmaaGreatDoorW.PrintWords Go.Proofs.YthbdjmopolpjmaaGreatDoorW.PrintLast Go.Proofs.YthbdjmopolpjmaaGreatDoorW.PrintMore Go.Proofs.YthbdjmopolpjmaaGreatDoor.F Go.Proofs.YthbdjmopolpjmaaGreatDoor.M
attribute [local go_sem] max2_int min2_int max_two min_two max_three min_three max_four min_four
theorem trim_tail {x : Int} {xs : List Int} (h : Trim (x :: xs)) : Trim xs := by
  intro hn
  have := h (by simp)
  rwa [List.getLast_cons hn] at this
theorem val_inj {B : Int} (hB : 0 < B) : ∀ {xs ys : List Int}, Dig B xs → Trim xs → Dig B ys → Trim ys → val B xs = val B ys → xs = ys
  | [], ys, _, _, hy, ty, h => ((val_zero_iff hB hy ty).1 (by simpa [val] using h.symm)).symm
  | x :: xs, [], hx, tx, _, _, h => (val_zero_iff hB hx tx).1 (by simpa [val] using h)
  | x :: xs, y :: ys, hx, tx, hy, ty, h => by
    have h1 := dig_cons.1 hx
    have h2 := dig_cons.1 hy
    simp only [val] at h
    have e1 := div_of (show x + B * val B xs = val B xs * B + x by rw [Int.mul_comm]; omega) h1.1.1 h1.1.2
    have e2 := div_of (show x + B * val B xs = val B ys * B + y by rw [Int.mul_comm (val B ys)]; omega) h2.1.1 h2.1.2
    rw [val_inj hB h1.2 (trim_tail tx) h2.2 (trim_tail ty) (by omega), show x = y by omega]
theorem Wd.inj {xs ys : List Int} (hx : Wd xs) (hy : Wd ys) (h : val 4294967296 xs = val 4294967296 ys) : xs = ys := val_inj (by omega) hx.1 hx.2.1 hy.1 hy.2.1 h
theorem Wd.pos {xs : List Int} (hx : Wd xs) (hn : xs ≠ []) : 0 < val 4294967296 xs := val_pos (by omega) hx.1 hx.2.1 hn
theorem Wd.nonneg {xs : List Int} (hx : Wd xs) : 0 ≤ val 4294967296 xs := val_nonneg (by omega) hx.1
theorem Wd.zero {xs : List Int} (hx : Wd xs) : val 4294967296 xs = 0 ↔ xs = [] := val_zero_iff (by omega) hx.1 hx.2.1
theorem put_wd (n g : Nat) (neg : Bool) (A0 : Option Addr) (c0 : Nat) (xs : List Int) (w : World) (v0 v1 : Value) (hn : xs.length = n) (hb : w.heap[g]? = some (.cells #[v0, v1] 173 (0, 0))) (hU : U w A0 xs) (hc0 : n ≤ c0) (hw : Wd xs) :
    Calls Tryz.prog 160 #[.pointer (some ⟨g, 0, none⟩), .bool neg, .slice A0 n c0] w fun e w' => e = .returned (.pointer (some ⟨g, 0, none⟩)) ∧ IntB w' g (neg && !xs.isEmpty) xs ∧ Chg (· = g) w w' := by
  subst hn
  obtain ⟨r, hr, hv, hc⟩ := put_int g neg A0 c0 xs w v0 v1 hb hU hc0 hw.1 hw.2.2
  obtain rfl := hr.inj hw hv
  exact hc
theorem clone_wd (n : Nat) (A : Option Addr) (c : Nat) (xs : List Int) (w : World) (hn : xs.length = n) (hU : U w A xs) (hw : Wd xs) :
    Calls Tryz.prog 161 #[.slice A n c] w fun e w' => ∃ A' c', e = .returned (.slice A' n c') ∧ n ≤ c' ∧ U w' A' xs ∧ Below w.heap.size w w' := by
  subst hn
  exact clone_u32 A c xs w hU.now (by have := hw.2.2; omega)
theorem Chg.from_below {S : Nat → Prop} {w w1 w2 : World} (h : Below w.heap.size w w1) (k : Chg S w1 w2) : Chg S w w2 := (Chg.of_below (S := S) h).trans k (fun _ _ h => h)
theorem undrew {w w2 : World} (h : Below w.drew.heap.size w.drew w2) : Below w.heap.size w w2 := ⟨h.os, h.tape, h.output, h.size, h.block⟩
set_option maxHeartbeats 1000000 in
set_option maxRecDepth 100000 in
theorem neg_call (gz gx ox : Nat) (neg : Bool) (xs : List Int) (w : World) (v0 v1 : Value) (hz : w.heap[gz]? = some (.cells #[v0, v1] 173 (0, 0))) (hx : IntC w gx ox neg xs) (hw : Wd xs) :
    Calls Tryz.prog 156 #[.pointer (some ⟨gz, 0, none⟩), .pointer (some ⟨gx, ox, none⟩)] w fun e w' => e = .returned (.pointer (some ⟨gz, 0, none⟩)) ∧ IntB w' gz (!neg && !xs.isEmpty) xs ∧ Chg (· = gz) w w' := by
  obtain ⟨A, c, hx0, hx1, hc, hU⟩ := hx
  have HU := Aside0.mk hU
  have HZ := Aside0.mk hz
  have HW := Aside0.mk hw
  have HC := Aside0.mk hc
  have HX := Aside0.mk (And.intro hx0 hx1)
  clear hU hz hw hc
  go_enter Tryz.func156, Tryz.ntmps156
  go_wp2_with fail
  go_region_with ((first
    | (go_at_call 161; refine (clone_wd xs.length A c xs _ rfl (by first | exact HU.out | exact HU.out.drew) HW.out).mono ?_; rintro e w2 ⟨A2, c2, rfl, h1, h2, h3⟩; have HF := Aside0.mk (And.intro h1 (And.intro h2 h3)); have hy0 := pw_cell_below h3 HX.out.1; have hy1 := pw_cell_below h3 HX.out.2; clear h1 h2 h3)
    | (go_at_call 160; refine (put_wd xs.length gz (!neg) A2 c2 xs _ v0 v1 rfl (by have h := (HF.out.2.2).block gz (by have := blk_lt HZ.out; simpa using this); exact h.trans HZ.out) HF.out.2.1 HF.out.1 HW.out).mono ?_; rintro e w3 ⟨rfl, h4, h5⟩; have HG := Aside0.mk (And.intro h4 h5); clear h4 h5)))
  all_goals (go_wp2_with fail; go_ret; exact ⟨rfl, HG.out.1, Chg.from_below (undrew HF.out.2.2) HG.out.2⟩)
set_option maxHeartbeats 1000000 in
set_option maxRecDepth 100000 in
theorem abs_call (gz gx ox : Nat) (neg : Bool) (xs : List Int) (w : World) (v0 v1 : Value) (hz : w.heap[gz]? = some (.cells #[v0, v1] 173 (0, 0))) (hx : IntC w gx ox neg xs) (hw : Wd xs) :
    Calls Tryz.prog 115 #[.pointer (some ⟨gz, 0, none⟩), .pointer (some ⟨gx, ox, none⟩)] w fun e w' => e = .returned (.pointer (some ⟨gz, 0, none⟩)) ∧ IntB w' gz false xs ∧ Chg (· = gz) w w' := by
  obtain ⟨A, c, hx0, hx1, hc, hU⟩ := hx
  have HU := Aside0.mk hU
  have HZ := Aside0.mk hz
  have HW := Aside0.mk hw
  have HC := Aside0.mk hc
  clear hU hz hw hc hx0
  go_enter Tryz.func115, Tryz.ntmps115
  go_wp2_with fail
  refine (clone_wd xs.length A c xs _ rfl (by first | exact HU.out | exact HU.out.drew) HW.out).mono ?_
  rintro e w2 ⟨A2, c2, rfl, h1, h2, h3⟩
  have HF := Aside0.mk (And.intro h1 (And.intro h2 h3))
  clear h1 h2 h3
  go_wp2_with fail
  refine (put_wd xs.length gz false A2 c2 xs _ v0 v1 rfl ((HF.out.2.2.block gz (blk_lt HZ.out)).trans HZ.out) HF.out.2.1 HF.out.1 HW.out).mono ?_
  rintro e w3 ⟨rfl, h4, h5⟩
  have HG := Aside0.mk (And.intro h4 h5)
  clear h4 h5
  go_wp2_with fail
  go_ret
  exact ⟨rfl, by simpa using HG.out.1, Chg.from_below HF.out.2.2 HG.out.2⟩
def sgn (neg : Bool) (xs : List Int) : Int := if xs = [] then 0 else if neg then -1 else 1
set_option maxHeartbeats 1000000 in
set_option maxRecDepth 100000 in
theorem sign_call (g o : Nat) (neg : Bool) (xs : List Int) (w : World) (hx : IntC w g o neg xs) :
    Calls Tryz.prog 113 #[.pointer (some ⟨g, o, none⟩)] w fun e w' => e = .returned (.int .i64 (sgn neg xs)) ∧ w = w' := by
  obtain ⟨A, c, hx0, hx1, hc, hU⟩ := hx
  clear hc hU
  by_cases hn : xs = []
  · subst hn
    have h0 : (((0 : Nat) : Int) == 0) = true := rfl
    simp only [List.length_nil] at hx1
    go_enter Tryz.func113, Tryz.ntmps113
    go_wp2
    go_ret
    exact ⟨rfl, rfl⟩
  · have hl : ((xs.length : Int) == 0) = false := by rw [beq_eq_false_iff_ne]; have := List.length_pos_iff.2 hn; omega
    have hl2 : (xs.length == 0) = false := by rw [beq_eq_false_iff_ne]; have := List.length_pos_iff.2 hn; omega
    have HN := Aside0.mk hn
    cases neg
    · have hs : sgn false xs = 1 := by simp [sgn, hn]
      have HS := Aside0.mk hs
      clear hs hn
      go_enter Tryz.func113, Tryz.ntmps113
      go_wp2
      go_ret
      exact ⟨by rw [HS.out]; rfl, rfl⟩
    · have hs : sgn true xs = -1 := by simp [sgn, hn]
      have HS := Aside0.mk hs
      clear hs hn
      go_enter Tryz.func113, Tryz.ntmps113
      go_wp2
      go_ret
      exact ⟨by rw [HS.out]; rfl, rfl⟩
end Go.Proofs.YthbdjmopolpjmaaGreatDoor.C
end
section
set_option linter.unusedVariables false
set_option linter.unusedSimpArgs false
namespace Go.Proofs.YthbdjmopolpjmaaGreatDoor.C
open Go.RowKit Go.Proofs.YthbdjmopolpjmaaGreatDoorW.PrintWords Go.Proofs.YthbdjmopolpjmaaGreatDoorW.PrintLast Go.Proofs.YthbdjmopolpjmaaGreatDoorW.PrintMore Go.Proofs.YthbdjmopolpjmaaGreatDoor.F Go.Proofs.YthbdjmopolpjmaaGreatDoor.M
attribute [local go_sem] max2_int min2_int max_two min_two max_three min_three max_four min_four
theorem compare_wd (A0 : Option Addr) (c0 : Nat) (a : List Int) (A1 : Option Addr) (c1 : Nat) (b : List Int) (wa : Wd a) (wb : Wd b) (ha : a.length ≤ c0) (hb : b.length ≤ c1) :
    ∃ r, Sg r (val 4294967296 a) (val 4294967296 b) ∧ -4611686018427387904 ≤ r ∧ r ≤ 4611686018427387904 ∧ ∀ w, U w A0 a → U w A1 b → Calls Tryz.prog 162 #[.slice A0 a.length c0, .slice A1 b.length c1] w fun e w' => e = .returned (.int .i64 r) ∧ Drawn0 w w' := by
  obtain ⟨rc, hr, h1, h2, hev⟩ := compare_tells wa.1 wb.1 wa.2.1 wb.2.1 (by have := wa.2.2; omega) (by have := wb.2.2; omega)
  obtain ⟨k, hk⟩ := hev.rounds
  exact ⟨rc, hr, h1, h2, fun w hA hB => ample_compare.calls k A0 c0 a A1 c1 b rc w hA.now ha hB.now hb hk⟩
def cmpI (a b : Int) : Int := if a < b then -1 else if a = b then 0 else 1
def Cl (k r : Int) : Prop := (k < 0 ∧ r = -1) ∨ (k = 0 ∧ r = 0) ∨ (0 < k ∧ r = 1)
theorem cl_of {a b k : Int} (h1 : k < 0 ↔ a < b) (h2 : k = 0 ↔ a = b) : Cl k (cmpI a b) := by
  unfold cmpI Cl
  by_cases ha : a < b
  · left; exact ⟨h1.2 ha, by rw [if_pos ha]⟩
  · by_cases hb : a = b
    · right; left; exact ⟨h2.2 hb, by rw [if_neg ha, if_pos hb]⟩
    · right; right
      have n1 : ¬ k < 0 := fun h => ha (h1.1 h)
      have n2 : ¬ k = 0 := fun h => hb (h2.1 h)
      exact ⟨by omega, by rw [if_neg ha, if_neg hb]⟩
theorem ret_int {z z' : Int} (h : z = z') : Ending.returned (.int .i64 z) = .returned (.int .i64 z') := by rw [h]
theorem drawn_drew {w w2 : World} (h : Drawn0 w.drew w2) : Drawn0 w w2 := by
  obtain ⟨n, rfl⟩ := h
  exact ⟨⟨1 + n, World.drewN_drewN w 1 n⟩⟩
set_option maxHeartbeats 2000000 in
set_option maxRecDepth 100000 in
theorem cmp_call (gx ox gy oy : Nat) (nx ny : Bool) (xs ys : List Int) (w : World) (hx : IntC w gx ox nx xs) (hy : IntC w gy oy ny ys) (wx : Wd xs) (wy : Wd ys) (zx : nx = true → xs ≠ []) (zy : ny = true → ys ≠ []) :
    Calls Tryz.prog 116 #[.pointer (some ⟨gx, ox, none⟩), .pointer (some ⟨gy, oy, none⟩)] w fun e w' => e = .returned (.int .i64 (cmpI (num nx xs) (num ny ys))) ∧ Drawn0 w w' := by
  have HX := Aside0.mk hx
  have HY := Aside0.mk hy
  obtain ⟨A, c, hx0, hx1, hc, hU⟩ := hx
  obtain ⟨A2, c2, hy0, hy1, hc2, hU2⟩ := hy
  obtain ⟨rc, hr, r1, r2, hcall⟩ := compare_wd A c xs A2 c2 ys wx wy hc hc2
  have HU := Aside0.mk (And.intro hU hU2)
  have HC := Aside0.mk hcall
  have px := wx.nonneg
  have py := wy.nonneg
  have pz1 := fun h => wx.pos (zx h)
  have pz2 := fun h => wy.pos (zy h)
  cases nx <;> cases ny
  case false.false =>
    have HE := Aside0.mk (cl_of (a := num false xs) (b := num false ys) (k := rc) (by simpa [num] using hr.1) (by simpa [num] using hr.2))
    clear hcall hU hU2 hc hc2 wx wy zx zy hr px py pz1 pz2
    go_enter Tryz.func116, Tryz.ntmps116
    go_wp2_with fail
    go_region_with ((go_at_call 162; refine (HC.out _ (by first | exact HU.out.1 | exact HU.out.1.drew) (by first | exact HU.out.2 | exact HU.out.2.drew)).mono ?_; rintro e w2 ⟨rfl, h1⟩; have HF := Aside0.mk h1; have hx0' := pw_cell_below h1.below hx0; have hy0' := pw_cell_below h1.below hy0; clear h1))
    all_goals (go_wp2_with fail; go_quiet (fail); go_wp2)
    all_goals (go_ret; refine ⟨ret_int ?_, Drawn0.step (drawn_drew HF.out) _⟩)
    all_goals (rcases HE.out with h | h | h <;> (first | omega | (split at * <;> omega)))
  case true.true =>
    have hn : wrap64 (-rc) = -rc := w64 (by omega) (by omega)
    have HE := Aside0.mk (cl_of (a := num true xs) (b := num true ys) (k := -rc) (by have := hr.1; have := hr.2; simp [num]; omega) (by have := hr.2; simp [num]; omega))
    clear hcall hU hU2 hc hc2 wx wy zx zy hr px py pz1 pz2
    go_enter Tryz.func116, Tryz.ntmps116
    go_wp2_with fail
    go_region_with ((go_at_call 162; refine (HC.out _ (by first | exact HU.out.1 | exact HU.out.1.drew) (by first | exact HU.out.2 | exact HU.out.2.drew)).mono ?_; rintro e w2 ⟨rfl, h1⟩; have HF := Aside0.mk h1; have hx0' := pw_cell_below h1.below hx0; have hy0' := pw_cell_below h1.below hy0; clear h1))
    all_goals (go_wp2_with fail; go_quiet (fail); go_wp2)
    all_goals (go_ret; refine ⟨ret_int ?_, Drawn0.step (drawn_drew HF.out) _⟩)
    all_goals (rcases HE.out with h | h | h <;> (first | omega | (split at * <;> omega)))
  case false.true =>
    obtain ⟨kk, hkk⟩ : ∃ kk : Int, sgn false xs - sgn true ys = kk := ⟨_, rfl⟩
    have hbd : -2 ≤ kk ∧ kk ≤ 2 := by rw [← hkk]; unfold sgn; repeat' split <;> omega
    have hw : wrap64 (sgn false xs - sgn true ys) = kk := by rw [hkk]; exact w64 (by omega) (by omega)
    have HE := Aside0.mk (cl_of (a := num false xs) (b := num true ys) (k := kk) (by have h2 := pz2 rfl; have h3 := zy rfl; rw [← hkk]; simp only [sgn, if_neg h3, num]; simp; split <;> omega) (by have h2 := pz2 rfl; have h3 := zy rfl; rw [← hkk]; simp only [sgn, if_neg h3, num]; simp; split <;> omega))
    clear hcall hU hU2 hc hc2 wx wy zx zy hr px py pz1 pz2 hkk hbd
    go_enter Tryz.func116, Tryz.ntmps116
    go_wp2_with fail
    go_region_with ((go_at_call 162; refine (HC.out _ (by first | exact HU.out.1 | exact HU.out.1.drew) (by first | exact HU.out.2 | exact HU.out.2.drew)).mono ?_; rintro e w2 ⟨rfl, h1⟩; have HF := Aside0.mk h1; have hx0' := pw_cell_below h1.below hx0; have hy0' := pw_cell_below h1.below hy0; clear h1))
    all_goals (go_wp2_with fail; go_quiet (fail); go_wp2_with fail)
    all_goals (refine (sign_call gx ox false xs _ ((HX.out.below (drawn_drew HF.out).below).below (pw_below_drewN (Below.refl _ _) _))).mono ?_; rintro e w' ⟨rfl, rfl⟩; go_wp2_with fail; refine (sign_call gy oy true ys _ ((HY.out.below (drawn_drew HF.out).below).below (pw_below_drewN (Below.refl _ _) _))).mono ?_; rintro e w' ⟨rfl, rfl⟩; go_wp2)
    all_goals (go_ret; refine ⟨ret_int ?_, Drawn0.step (drawn_drew HF.out) _⟩)
    all_goals (rcases HE.out with h | h | h <;> (first | omega | (split at * <;> omega)))
  case true.false =>
    obtain ⟨kk, hkk⟩ : ∃ kk : Int, sgn true xs - sgn false ys = kk := ⟨_, rfl⟩
    have hbd : -2 ≤ kk ∧ kk ≤ 2 := by rw [← hkk]; unfold sgn; repeat' split <;> omega
    have hw : wrap64 (sgn true xs - sgn false ys) = kk := by rw [hkk]; exact w64 (by omega) (by omega)
    have HE := Aside0.mk (cl_of (a := num true xs) (b := num false ys) (k := kk) (by have h2 := pz1 rfl; have h3 := zx rfl; rw [← hkk]; simp only [sgn, if_neg h3, num]; simp; split <;> omega) (by have h2 := pz1 rfl; have h3 := zx rfl; rw [← hkk]; simp only [sgn, if_neg h3, num]; simp; split <;> omega))
    clear hcall hU hU2 hc hc2 wx wy zx zy hr px py pz1 pz2 hkk hbd
    go_enter Tryz.func116, Tryz.ntmps116
    go_wp2_with fail
    go_region_with ((go_at_call 162; refine (HC.out _ (by first | exact HU.out.1 | exact HU.out.1.drew) (by first | exact HU.out.2 | exact HU.out.2.drew)).mono ?_; rintro e w2 ⟨rfl, h1⟩; have HF := Aside0.mk h1; have hx0' := pw_cell_below h1.below hx0; have hy0' := pw_cell_below h1.below hy0; clear h1))
    all_goals (go_wp2_with fail; go_quiet (fail); go_wp2_with fail)
    all_goals (refine (sign_call gx ox true xs _ ((HX.out.below (drawn_drew HF.out).below).below (pw_below_drewN (Below.refl _ _) _))).mono ?_; rintro e w' ⟨rfl, rfl⟩; go_wp2_with fail; refine (sign_call gy oy false ys _ ((HY.out.below (drawn_drew HF.out).below).below (pw_below_drewN (Below.refl _ _) _))).mono ?_; rintro e w' ⟨rfl, rfl⟩; go_wp2)
    all_goals (go_ret; refine ⟨ret_int ?_, Drawn0.step (drawn_drew HF.out) _⟩)
    all_goals (rcases HE.out with h | h | h <;> (first | omega | (split at * <;> omega)))
end Go.Proofs.YthbdjmopolpjmaaGreatDoor.C
end
section
set_option linter.unusedVariables false
set_option linter.unusedSimpArgs false
namespace Go.Proofs.YthbdjmopolpjmaaGreatDoor.C
open Go.RowKit Go.Proofs.YthbdjmopolpjmaaGreatDoorW.PrintWords Go.Proofs.YthbdjmopolpjmaaGreatDoorW.PrintLast Go.Proofs.YthbdjmopolpjmaaGreatDoorW.PrintMore Go.Proofs.YthbdjmopolpjmaaGreatDoor.F Go.Proofs.YthbdjmopolpjmaaGreatDoor.M
attribute [local go_sem] max2_int min2_int max_two min_two max_three min_three max_four min_four
set_option maxHeartbeats 1000000 in
set_option maxRecDepth 100000 in
theorem setInt64_call (gz : Nat) (n : Int) (w : World) (v0 v1 : Value) (hz : w.heap[gz]? = some (.cells #[v0, v1] 173 (0, 0))) (h0 : 0 ≤ n) (h1 : n < 9223372036854775808) :
    Calls Tryz.prog 163 #[.pointer (some ⟨gz, 0, none⟩), .int .i64 n] w fun e w' => ∃ xs, e = .returned (.pointer (some ⟨gz, 0, none⟩)) ∧ IntB w' gz false xs ∧ Wd xs ∧ val 4294967296 xs = n ∧ Chg (· = gz) w w' := by
  have HZ := Aside0.mk hz
  have hu : IntKind.u64.wrap n = n := u64 h0 (by omega)
  have hd : decide (n < 0) = false := decide_eq_false (by omega)
  have hdig : Dig 4294967296 [n % 4294967296, n / 4294967296] := by
    refine dig_cons.2 ⟨by omega, dig_cons.2 ⟨by omega, dig_nil _⟩⟩
  have hv : val 4294967296 [n % 4294967296, n / 4294967296] = n := by simp only [val]; omega
  have HP := Aside0.mk (fun (W : World) (hb : W.heap[gz]? = some (.cells #[v0, v1] 173 (0, 0))) A hU => put_int gz false A 2 [n % 4294967296, n / 4294967296] W v0 v1 hb hU (by simp) hdig (by simp))
  have HL := Aside0.mk (fun W : World => lit_u32 W [n % 4294967296, n / 4294967296] (by simp))
  have HB := Aside0.mk (And.intro h0 h1)
  have HV := Aside0.mk hv
  clear hz hdig hv
  go_enter Tryz.func163, Tryz.ntmps163
  go_wp2_with fail
  have HUl := Aside0.mk (by simpa [nums] using HL.out w)
  obtain ⟨r, wr_, hvr, hc⟩ := HP.out _ (((below_alloc (Below.refl w.heap.size w) _).block gz (blk_lt HZ.out)).trans HZ.out) _ HUl.out
  refine hc.mono ?_
  rintro e w' ⟨rfl, hI, hch⟩
  have HI := Aside0.mk (And.intro hI (And.intro hch (And.intro wr_ hvr)))
  clear hI hch wr_ hvr hc
  go_wp2_with fail
  go_ret
  exact ⟨r, rfl, by simpa using HI.out.1, HI.out.2.2.1, by rw [HI.out.2.2.2]; exact HV.out, Chg.from_below (below_alloc (Below.refl _ _) _) HI.out.2.1⟩
theorem blk_new (w : World) (o : Obj) : (w.alloc o).heap[w.heap.size]? = some o := by simpa using heap_alloc_new w o
set_option maxHeartbeats 1000000 in
set_option maxRecDepth 100000 in
theorem newInt_call (n : Int) (w : World) (h0 : 0 ≤ n) (h1 : n < 9223372036854775808) :
    Calls Tryz.prog 117 #[.int .i64 n] w fun e w' => ∃ g xs, e = .returned (.pointer (some ⟨g, 0, none⟩)) ∧ w.heap.size ≤ g ∧ IntB w' g false xs ∧ Wd xs ∧ val 4294967296 xs = n ∧ Below w.heap.size w w' := by
  have HB := Aside0.mk (And.intro h0 h1)
  clear h0 h1
  go_enter Tryz.func117, Tryz.ntmps117
  go_wp2_with fail
  refine (setInt64_call w.heap.size n _ _ _ (blk_new w _) HB.out.1 HB.out.2).mono ?_
  rintro e w' ⟨xs, rfl, hI, hw, hv, hc⟩
  have HI := Aside0.mk (And.intro hI (And.intro hw (And.intro hv hc)))
  clear hI hw hv hc
  go_wp2_with fail
  go_ret
  exact ⟨w.heap.size, xs, rfl, Nat.le_refl _, HI.out.1, HI.out.2.1, HI.out.2.2.1, (Chg.from_below (below_alloc (Below.refl _ _) _) HI.out.2.2.2).below (fun k hk => by subst hk; exact Nat.le_refl _)⟩
theorem div_wd (n0 n1 : Nat) (A0 : Option Addr) (c0 : Nat) (a : List Int) (A1 : Option Addr) (c1 : Nat) (b : List Int) (w : World) (h0 : a.length = n0) (h1 : b.length = n1) (hA : U w A0 a) (ha : n0 ≤ c0) (hB : U w A1 b) (hb : n1 ≤ c1) (wa : Wd a) (wb : Wd b) (hbn : b ≠ []) :
    Calls Tryz.prog 159 #[.slice A0 n0 c0, .slice A1 n1 c1] w (DivAns a b w) := by
  subst h0; subst h1
  exact divide_any A0 c0 a A1 c1 b w hA ha hB hb wa wb hbn
set_option maxHeartbeats 2000000 in
set_option maxRecDepth 100000 in
theorem quo_call (gz gx gy : Nat) (nx ny : Bool) (xs ys : List Int) (w : World) (v0 v1 : Value) (hz : w.heap[gz]? = some (.cells #[v0, v1] 173 (0, 0))) (hx : IntB w gx nx xs) (hy : IntB w gy ny ys) (wx : Wd xs) (wy : Wd ys) (hn : ys ≠ []) :
    Calls Tryz.prog 164 #[.pointer (some ⟨gz, 0, none⟩), .pointer (some ⟨gx, 0, none⟩), .pointer (some ⟨gy, 0, none⟩)] w fun e w' => ∃ q r, e = .returned (.pointer (some ⟨gz, 0, none⟩)) ∧ IntB w' gz (nx != ny && !q.isEmpty) q ∧ Wd q ∧ Wd r ∧ val 4294967296 xs = val 4294967296 q * val 4294967296 ys + val 4294967296 r ∧ val 4294967296 r < val 4294967296 ys ∧ Chg (· = gz) w w' := by
  obtain ⟨A, c, hx0, hx1, hc, hU⟩ := hx.c
  obtain ⟨A2, c2, hy0, hy1, hc2, hU2⟩ := hy.c
  have HZ := Aside0.mk hz
  have HU := Aside0.mk (And.intro hU hU2)
  have HC := Aside0.mk (And.intro hc hc2)
  have HW := Aside0.mk (And.intro wx (And.intro wy hn))
  clear hU hU2 hc hc2 wx wy hn hz hx hy
  go_enter Tryz.func164, Tryz.ntmps164
  go_wp2_with fail
  go_cut [7, 8] (fun v7 v8 wc => ∃ q r A3 c3, v7 = .slice A3 q.length c3 ∧ Aside0 (Wd q ∧ Wd r ∧ val 4294967296 xs = val 4294967296 q * val 4294967296 ys + val 4294967296 r ∧ val 4294967296 r < val 4294967296 ys ∧ q.length ≤ c3 ∧ U wc A3 q ∧ Below w.heap.size w wc))
  case first =>
    go_region_with ((go_at_call 159; refine (div_wd xs.length ys.length A c xs A2 c2 ys _ rfl rfl (by first | exact HU.out.1 | exact HU.out.1.drew) HC.out.1 (by first | exact HU.out.2 | exact HU.out.2.drew) HC.out.2 HW.out.1 HW.out.2.1 HW.out.2.2).mono ?_; rintro e w2 ⟨q, r, wq, wr, e1, e2, A3, c3, A4, c4, rfl, h3, h4, h5, h6, h7⟩; have HF := Aside0.mk (And.intro wq (And.intro wr (And.intro e1 (And.intro e2 (And.intro h3 (And.intro h5 h7)))))); clear wq wr e1 e2 h3 h4 h5 h6 h7))
    all_goals (go_wp2_with fail; go_meet; exact ⟨q, r, A3, c3, rfl, ⟨HF.out.1, HF.out.2.1, HF.out.2.2.1, HF.out.2.2.2.1, HF.out.2.2.2.2.1, HF.out.2.2.2.2.2.1, undrew HF.out.2.2.2.2.2.2⟩⟩)
  case rest =>
    obtain ⟨q, r, A3, c3, rfl, HF⟩ := hcut
    have hx0' := pw_cell_below HF.out.2.2.2.2.2.2 hx0
    have hy0' := pw_cell_below HF.out.2.2.2.2.2.2 hy0
    go_wp2_with fail
    go_region_with ((go_at_call 160; refine (put_wd q.length gz (nx != ny) A3 c3 q _ v0 v1 rfl (by have h := (HF.out.2.2.2.2.2.2).block gz (blk_lt HZ.out); exact h.trans HZ.out) (by first | exact HF.out.2.2.2.2.2.1 | exact HF.out.2.2.2.2.2.1.drew) HF.out.2.2.2.2.1 HF.out.1).mono ?_; rintro e w3 ⟨rfl, h4, h5⟩; have HG := Aside0.mk (And.intro h4 h5); clear h4 h5))
    all_goals (go_wp2_with fail; go_ret; exact ⟨q, r, rfl, HG.out.1, HF.out.1, HF.out.2.1, HF.out.2.2.1, HF.out.2.2.2.1, Chg.from_below (below_drew HF.out.2.2.2.2.2.2) HG.out.2⟩)
end Go.Proofs.YthbdjmopolpjmaaGreatDoor.C
end
section
set_option linter.unusedVariables false
set_option linter.unusedSimpArgs false
namespace Go.Proofs.YthbdjmopolpjmaaGreatDoor.C
open Go.RowKit Go.Proofs.YthbdjmopolpjmaaGreatDoorW.PrintWords Go.Proofs.YthbdjmopolpjmaaGreatDoorW.PrintLast Go.Proofs.YthbdjmopolpjmaaGreatDoorW.PrintMore Go.Proofs.YthbdjmopolpjmaaGreatDoor.F Go.Proofs.YthbdjmopolpjmaaGreatDoor.M
attribute [local go_sem] max2_int min2_int max_two min_two max_three min_three max_four min_four
def gcdI (a b : Int) : Int := (Nat.gcd a.toNat b.toNat : Nat)
theorem gcd_step {a b q r : Int} (ha : 0 ≤ a) (hb : 0 < b) (hr : 0 ≤ r) (h : a = q * b + r) (hlt : r < b) : gcdI b r = gcdI a b := by
  have d := div_of h hr hlt
  unfold gcdI
  congr 1
  have e : r.toNat = a.toNat % b.toNat := by
    rw [← Int.toNat_emod ha (by omega), d.2]
  rw [e, Nat.gcd_comm, ← Nat.gcd_rec, Nat.gcd_comm]
theorem gcd_zero {a : Int} (ha : 0 ≤ a) : gcdI a 0 = a := by unfold gcdI; simp; omega
set_option maxHeartbeats 2000000 in
set_option maxRecDepth 100000 in
theorem gcd_call (gz gx gy ox oy : Nat) (nx ny : Bool) (xs ys : List Int) (w : World) (v0 v1 p1 p2 : Value) (hz : w.heap[gz]? = some (.cells #[v0, v1] 173 (0, 0))) (hx : IntC w gx ox nx xs) (hy : IntC w gy oy ny ys) (wx : Wd xs) (wy : Wd ys) :
    Calls Tryz.prog 114 #[.pointer (some ⟨gz, 0, none⟩), p1, p2, .pointer (some ⟨gx, ox, none⟩), .pointer (some ⟨gy, oy, none⟩)] w fun e w' => ∃ g, e = .returned (.pointer (some ⟨gz, 0, none⟩)) ∧ IntB w' gz false g ∧ Wd g ∧ val 4294967296 g = gcdI (val 4294967296 xs) (val 4294967296 ys) ∧ Chg (· = gz) w w' := by
  obtain ⟨A, c, hx0, hx1, hc, hU⟩ := hx
  obtain ⟨A2, c2, hy0, hy1, hc2, hU2⟩ := hy
  have HZ := Aside0.mk hz
  have HU := Aside0.mk (And.intro hU hU2)
  have HC := Aside0.mk (And.intro hc hc2)
  have HW := Aside0.mk (And.intro wx wy)
  obtain ⟨G, hG⟩ : ∃ G, gcdI (val 4294967296 xs) (val 4294967296 ys) = G := ⟨_, rfl⟩
  have HG := Aside0.mk hG
  clear hU hU2 hc hc2 wx wy hz hx0 hy0 hG
  go_enter Tryz.func114, Tryz.ntmps114
  go_wp2_with fail
  go_quiet (fail)
  go_wp2_with fail
  go_loopg [11, 12] (val 4294967296 ys).toNat (fun kq v11 v12 W => ∃ (a b : List Int) (A3 : Option Addr) (c3 : Nat) (A4 : Option Addr) (c4 : Nat), v11 = .slice A3 a.length c3 ∧ v12 = .slice A4 b.length c4 ∧ Aside0 (Wd a ∧ Wd b ∧ gcdI (val 4294967296 a) (val 4294967296 b) = G ∧ (val 4294967296 b).toNat ≤ kq ∧ a.length ≤ c3 ∧ b.length ≤ c4 ∧ U W A3 a ∧ U W A4 b ∧ Below w.heap.size w W))
  case atStart => exact ⟨xs, ys, A, c, A2, c2, rfl, rfl, ⟨HW.out.1, HW.out.2, HG.out, Nat.le_refl _, HC.out.1, HC.out.2, HU.out.1.drewN _, HU.out.2.drewN _, pw_below_drewN (Below.refl _ _) _⟩⟩
  case round =>
    clear HU HC hx1 hy1
    obtain ⟨a, b, A3, c3, A4, c4, rfl, rfl, HR⟩ := hrel
    by_cases hb : b = []
    · have hl : decide (0 < b.length) = false := by subst hb; rfl
      have hl2 : decide (0 < (b.length : Int)) = false := by subst hb; rfl
      have HB := Aside0.mk hb
      clear hb
      go_wp2_with fail
      refine (clone_wd a.length A3 c3 a _ rfl HR.out.2.2.2.2.2.2.1 HR.out.1).mono ?_
      rintro e w2 ⟨A5, c5, rfl, h1, h2, h3⟩
      have HF := Aside0.mk (And.intro h1 (And.intro h2 h3))
      clear h1 h2 h3
      have hbw : Below w.heap.size w w2 := below_then HR.out.2.2.2.2.2.2.2.2 HR.out.2.2.2.2.2.2.2.2.size HF.out.2.2
      have HBW := Aside0.mk hbw
      clear hbw
      go_wp2_with fail
      refine (put_wd a.length gz false A5 c5 a _ v0 v1 rfl ((HBW.out.block gz (blk_lt HZ.out)).trans HZ.out) HF.out.2.1 HF.out.1 HR.out.1).mono ?_
      rintro e w3 ⟨rfl, h4, h5⟩
      have HH := Aside0.mk (And.intro h4 h5)
      clear h4 h5
      go_wp2_with fail
      go_ret
      refine ⟨a, rfl, by simpa using HH.out.1, HR.out.1, ?_, Chg.from_below HBW.out HH.out.2⟩
      have h := HR.out.2.2.1
      rw [HB.out] at h
      simp only [val] at h
      rw [gcd_zero HR.out.1.nonneg] at h
      exact h.trans HG.out.symm
    · have hl : decide (0 < b.length) = true := decide_eq_true (List.length_pos_iff.2 hb)
      have hl2 : decide (0 < (b.length : Int)) = true := decide_eq_true (by have := List.length_pos_iff.2 hb; omega)
      have HB := Aside0.mk hb
      clear hb
      go_wp2_with fail
      refine (div_wd a.length b.length A3 c3 a A4 c4 b _ rfl rfl HR.out.2.2.2.2.2.2.1 HR.out.2.2.2.2.1 HR.out.2.2.2.2.2.2.2.1 HR.out.2.2.2.2.2.1 HR.out.1 HR.out.2.1 HB.out).mono ?_
      rintro e w2 ⟨q, r, wq, wr, e1, e2, A5, c5, A6, c6, rfl, h3, h4, h5, h6, h7⟩
      have HF := Aside0.mk (And.intro wr (And.intro e1 (And.intro e2 (And.intro h4 (And.intro h6 h7)))))
      clear wq wr e1 e2 h3 h4 h5 h6 h7
      go_wp2_with fail
      have hpos := HR.out.2.1.pos HB.out
      have hrn := HF.out.1.nonneg
      cases gk with
      | zero => exact absurd HR.out.2.2.2.1 (by omega)
      | succ k1 =>
        go_roundg k1
        case measure => omega
        case rel => exact ⟨b, r, A4, c4, A6, c6, rfl, rfl, ⟨HR.out.2.1, HF.out.1, by rw [← HR.out.2.2.1]; exact gcd_step HR.out.1.nonneg hpos hrn HF.out.2.1 HF.out.2.2.1, by have := HR.out.2.2.2.1; have := HF.out.2.2.1; omega, HR.out.2.2.2.2.2.1, HF.out.2.2.2.1, HR.out.2.2.2.2.2.2.2.1.below HF.out.2.2.2.2.2, HF.out.2.2.2.2.1, below_then HR.out.2.2.2.2.2.2.2.2 HR.out.2.2.2.2.2.2.2.2.size HF.out.2.2.2.2.2⟩⟩
end Go.Proofs.YthbdjmopolpjmaaGreatDoor.C
end
