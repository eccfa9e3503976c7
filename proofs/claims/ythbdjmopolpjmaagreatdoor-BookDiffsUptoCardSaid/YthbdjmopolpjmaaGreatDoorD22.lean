/- Part 22 of the proof: CRefD, CBkD, MSwap, MDiffs. -/
import Derived.Lib.ItoaLen
import Derived.StillTailTactics
import Derived.Test.YthbdjmopolpjmaaGreatDoorD00
import Derived.Test.YthbdjmopolpjmaaGreatDoorD01
import Derived.Test.YthbdjmopolpjmaaGreatDoorD02
import Derived.Test.YthbdjmopolpjmaaGreatDoorD03
import Derived.Test.YthbdjmopolpjmaaGreatDoorD04
import Derived.Test.YthbdjmopolpjmaaGreatDoorD05
import Derived.Test.YthbdjmopolpjmaaGreatDoorD06
import Derived.Test.YthbdjmopolpjmaaGreatDoorD07
import Derived.Test.YthbdjmopolpjmaaGreatDoorD08
import Derived.Test.YthbdjmopolpjmaaGreatDoorD09
import Derived.Test.YthbdjmopolpjmaaGreatDoorD10
import Derived.Test.YthbdjmopolpjmaaGreatDoorD11
import Derived.Test.YthbdjmopolpjmaaGreatDoorD12
import Derived.Test.YthbdjmopolpjmaaGreatDoorD13
import Derived.Test.YthbdjmopolpjmaaGreatDoorD14
import Derived.Test.YthbdjmopolpjmaaGreatDoorD15
import Derived.Test.YthbdjmopolpjmaaGreatDoorD16
import Derived.Test.YthbdjmopolpjmaaGreatDoorD17
import Derived.Test.YthbdjmopolpjmaaGreatDoorD18
import Derived.Test.YthbdjmopolpjmaaGreatDoorD19
import Derived.Test.YthbdjmopolpjmaaGreatDoorD20
import Derived.Test.YthbdjmopolpjmaaGreatDoorD21
section
set_option linter.unusedVariables false
set_option linter.unusedSimpArgs false
namespace Go.Proofs.YthbdjmopolpjmaaGreatDoor.C
open Go.RowKit Go.Proofs.YthbdjmopolpjmaaGreatDoorW.PrintWords Go.Proofs.YthbdjmopolpjmaaGreatDoorW.PrintLast Go.Proofs.YthbdjmopolpjmaaGreatDoorW.PrintMore Go.Proofs.YthbdjmopolpjmaaGreatDoor.F Go.Proofs.YthbdjmopolpjmaaGreatDoor.M
attribute [local go_sem] max2_int min2_int max_two min_two max_three min_three max_four min_four
structure Ent (w : World) (A : Option Addr) (c : Nat) (l : List S41) : Prop where
  reads : k41.C w A l.length l
  cap : l.length ≤ c
  len : l.length ≤ 1048576
  nums : ∀ x ∈ l, Wf x.f0
  tags : ∀ x ∈ l, x.f6.length ≤ 1048576
theorem Ent.below {w w1 : World} {A : Option Addr} {c : Nat} {l : List S41} (h : Ent w A c l) (hb : Below w.heap.size w w1) : Ent w1 A c l := ⟨Kd.C_below h.reads hb, h.cap, h.len, h.nums, h.tags⟩
theorem Rising.wf {w w2 : World} {A A2 : Option Addr} {c c2 : Nat} {l l2 : List S41} {cs : List Int} (hr : Rising l l2 cs) (h : Ent w A c l) (h2 : Ent w2 A2 c2 l2) {n : Int} (hn : n ∈ cs) : -9223372036854775808 ≤ n ∧ n ≤ 9223372036854775807 := by
  have hw : Wf n := by
    rcases List.mem_append.1 ((hr.mem n).1 hn) with hm | hm
    · obtain ⟨x, hx, rfl⟩ := List.mem_map.1 hm
      exact h.nums x hx
    · obtain ⟨x, hx, rfl⟩ := List.mem_map.1 hm
      exact h2.nums x hx
  unfold Wf at hw
  simp only [Lit.wf, Bool.and_eq_true, decide_eq_true_eq] at hw
  exact hw
theorem name_small {x y : S41} {n : ByteArray} (h : n ∈ fnm (fld x y)) : n.size ≤ 9 := by
  obtain ⟨p, hp, e⟩ := List.mem_filterMap.1 h
  have hn : n = p.1 := by
    split at e
    · exact absurd e (by simp)
    · exact (Option.some.inj e).symm
  subst hn
  simp only [fld, List.mem_cons, List.not_mem_nil, or_false] at hp
  rcases hp with rfl | rfl | rfl | rfl | rfl | rfl | rfl | rfl <;> exact Nat.le_of_ble_eq_true rfl
theorem refT_size (s : ByteArray) : ∀ (l : List ByteArray), (∀ n ∈ l, n.size ≤ 9) → (refT s l).size ≤ s.size + 10 * l.length := by
  intro l
  induction l generalizing s with
  | nil => intro _; exact Nat.le_add_right _ _
  | cons a l ih =>
    intro h
    have h1 := ih (s ++ ⟨#[32]⟩ ++ a) (fun n hn => h n (List.mem_cons_of_mem _ hn))
    have h2 := h a List.mem_cons_self
    have h3 : (s ++ ⟨#[32]⟩ ++ a).size = s.size + 1 + a.size := by
      rw [ByteArray.size_append, ByteArray.size_append]
      rfl
    show (refT (s ++ ⟨#[32]⟩ ++ a) l).size ≤ _
    rw [List.length_cons]
    omega
theorem num_small {id : Int} (h : -9223372036854775808 ≤ id ∧ id ≤ 9223372036854775807) : ¬ 9223372036854775807 < 2 + (numT id).size := by
  have h1 := Lib.itoa_length_le id h.1 h.2
  have h2 : (numT id).size = (Lib.itoa id).length := List.size_toArray
  omega
set_option maxRecDepth 100000 in
set_option maxHeartbeats 8000000 in
theorem refDiff_call (A A2 : Option Addr) (c c2 : Nat) (l l2 : List S41) (cs : List Int) (w : World) (hE : Ent w A c l) (hE2 : Ent w A2 c2 l2) (hr : Rising l l2 cs) (hcl : cs.length ≤ 2097152) (hp : Pow w) :
    Calls Tryz.prog 13 #[.slice A l.length c, .slice A2 l2.length c2] w fun e w' => ∃ v, e = .returned v ∧ Kd.string.R 9 w' w.heap.size (fun _ => True) v (cs.flatMap (outD l l2)) ∧ Below w.heap.size w w' := by
  have HE := Aside0.mk (And.intro hE (And.intro hE2 (And.intro hr (And.intro hcl hp))))
  clear hE hE2 hr hcl hp
  go_enter Tryz.func13, Tryz.ntmps13
  go_wp2_with fail
  refine (cubitref29_next.calls (l.length + l2.length + 1) A c l A2 c2 l2 0 false (nx cs 0).1 (nx cs 0).2 _ HE.out.1.reads HE.out.1.cap HE.out.2.1.reads HE.out.2.1.cap ((next_is l l2 HE.out.1.len HE.out.2.1.len 0 false).trans (by rw [next_nx HE.out.2.2.1 0 0 false (.inl ⟨rfl, rfl⟩)]))).mono ?_
  rintro e w1 ⟨rfl, hd⟩
  have HB := Aside0.mk hd.below
  clear hd
  go_wp2_with fail
  go_loopg [5, 6, 7] cs.length (fun kq v5 v6 v7 W => ∃ p : Nat, v6 = .int .i64 (nx cs p).1 ∧ v7 = .bool (nx cs p).2 ∧ Aside0 (p ≤ cs.length ∧ cs.length ≤ p + kq ∧ Kd.string.R 9 W w.heap.size (fun _ => True) v5 ((cs.take p).flatMap (outD l l2)) ∧ Below w.heap.size w W))
  case atStart => exact ⟨0, rfl, rfl, ⟨by omega, by omega, Kd.R_nil _ _ _ _ _, HB.out⟩⟩
  case round =>
    obtain ⟨p, rfl, rfl, HJ⟩ := hrel
    by_cases hpl : p < cs.length
    · have e1 : nx cs p = (cs.getD p 0, true) := if_pos hpl
      rw [e1]
      obtain ⟨id, hid⟩ : ∃ id, cs.getD p 0 = id := ⟨_, rfl⟩
      rw [hid]
      have hwf := HE.out.2.2.1.wf HE.out.1 HE.out.2.1 (getD_mem hpl)
      rw [hid] at hwf
      have HP := Aside0.mk (And.intro hpl (And.intro hid hwf))
      obtain ⟨k1, rfl⟩ : ∃ k1, gk = k1 + 1 := ⟨gk - 1, by have := HJ.out.2.1; omega⟩
      clear hpl hid e1 hwf
      go_wp2_with fail
      refine (cubitref29_find.calls (l.length + 1) A c l id (place l id) _ (HE.out.1.below HJ.out.2.2.2).reads HE.out.1.cap (find_is l HE.out.1.len id)).mono ?_
      rintro e w2 ⟨rfl, hd⟩
      have HB2 := Aside0.mk (And.intro hd.below (below_then HJ.out.2.2.2 HJ.out.2.2.2.size hd.below))
      clear hd
      go_wp2_with fail
      refine (cubitref29_find.calls (l2.length + 1) A2 c2 l2 id (place l2 id) _ (HE.out.2.1.below HB2.out.2).reads HE.out.2.1.cap (find_is l2 HE.out.2.1.len id)).mono ?_
      rintro e w3 ⟨rfl, hd⟩
      have HB3 := Aside0.mk (And.intro (Kd.R_below (Kd.R_below HJ.out.2.2.1 HB2.out.1) hd.below) (below_then HB2.out.2 HB2.out.2.size hd.below))
      clear hd
      rcases place_first l2 id with ⟨hf2, hp2⟩ | ⟨y, hf2, hp2⟩
      · rw [hp2]
        have HF := Aside0.mk hf2
        clear hf2 hp2
        go_wp2_with fail
        refine (itoa_call id _ (HE.out.2.2.2.2.below HB3.out.2) HP.out.2.2.1 HP.out.2.2.2).mono ?_
        rintro e w4 ⟨rfl, hb⟩
        have HB4 := Aside0.mk (And.intro (Kd.R_below HB3.out.1 hb) (below_then HB3.out.2 HB3.out.2.size hb))
        clear hb
        have hns := num_small HP.out.2.2
        go_wp2_with (first | ((with_reducible refine gate_builtin (b := .append) (xs := #[.tmp 28, .tmp 32]) rfl ?_); at_builtin; refine Kd.R_append Kd.string (w0 := w) w.heap.size rfl (.tmp 28) (.tmp 32) 30 9 (.string ⟨#[]⟩) 16 rfl Tryz.underlying30 info9 rfl (by decide) (by omega) u5 ((cs.take p).flatMap (outD l l2)) ((⟨#[45, 32]⟩ : ByteArray) ++ numT id) [.string ((⟨#[45, 32]⟩ : ByteArray) ++ numT id)] (fun _ => True) (fun _ => False) rfl rfl ?aP (fun _ hk => hk.elim) ?aF ?aO ?aB ?aS ?aL ?_; (case aP => exact rfl); (case aF => exact (fun _ _ => trivial)); (case aO => exact HB4.out.1); (case aB => exact HB4.out.2); (case aS => exact (HB4.out.2).size); (case aL => (have h1 := outs_le l l2 (cs.take p); have h2 := List.length_take_le p cs; have h3 := HE.out.2.2.2.1; have h4 := HP.out.1; omega)); intro v1 w5 ho hb hg hat; have HN := Aside0.mk (And.intro ho hb); clear ho hb hg hat))
        clear hns
        refine (cubitref29_next.calls (l.length + l2.length + 1) _ c l _ c2 l2 id true (nx cs (p + 1)).1 (nx cs (p + 1)).2 _ (HE.out.1.below HN.out.2).reads HE.out.1.cap (HE.out.2.1.below HN.out.2).reads HE.out.2.1.cap ((next_is l l2 HE.out.1.len HE.out.2.1.len id true).trans (by rw [next_nx HE.out.2.2.1 (p + 1) id true (.inr ⟨rfl, by omega, by have := HP.out.1; omega, HP.out.2.1.symm⟩)]))).mono ?_
        rintro e w6 ⟨rfl, hd⟩
        have HZ := Aside0.mk (And.intro (Kd.R_below (HN.out.1) hd.below) (below_then (HN.out.2) (HN.out.2).size hd.below))
        clear hd
        go_wp2_with fail
        go_roundg k1
        case measure => omega
        case rel =>
          refine ⟨p + 1, rfl, rfl, ⟨by have := HP.out.1; omega, by have := HJ.out.2.1; omega, ?_, HZ.out.2⟩⟩
          rw [outs_take HP.out.1, HP.out.2.1, outD_gone HF.out]
          exact HZ.out.1
      · have hn2 : decide (place l2 id < 0) = false := decide_eq_false (by omega)
        rcases place_first l id with ⟨hf1, hp1⟩ | ⟨x, hf1, hp1⟩
        · rw [hp1]
          have HF := Aside0.mk (And.intro hf1 hf2)
          clear hf1 hp1 hf2
          go_wp2_with fail
          refine (itoa_call id _ (HE.out.2.2.2.2.below HB3.out.2) HP.out.2.2.1 HP.out.2.2.2).mono ?_
          rintro e w4 ⟨rfl, hb⟩
          have HB4 := Aside0.mk (And.intro (Kd.R_below HB3.out.1 hb) (below_then HB3.out.2 HB3.out.2.size hb))
          clear hb
          have hns := num_small HP.out.2.2
          go_wp2_with (first | ((with_reducible refine gate_builtin (b := .append) (xs := #[.tmp 36, .tmp 40]) rfl ?_); at_builtin; refine Kd.R_append Kd.string (w0 := w) w.heap.size rfl (.tmp 36) (.tmp 40) 30 9 (.string ⟨#[]⟩) 16 rfl Tryz.underlying30 info9 rfl (by decide) (by omega) u5 ((cs.take p).flatMap (outD l l2)) ((⟨#[43, 32]⟩ : ByteArray) ++ numT id) [.string ((⟨#[43, 32]⟩ : ByteArray) ++ numT id)] (fun _ => True) (fun _ => False) rfl rfl ?aP (fun _ hk => hk.elim) ?aF ?aO ?aB ?aS ?aL ?_; (case aP => exact rfl); (case aF => exact (fun _ _ => trivial)); (case aO => exact HB4.out.1); (case aB => exact HB4.out.2); (case aS => exact (HB4.out.2).size); (case aL => (have h1 := outs_le l l2 (cs.take p); have h2 := List.length_take_le p cs; have h3 := HE.out.2.2.2.1; have h4 := HP.out.1; omega)); intro v1 w5 ho hb hg hat; have HN := Aside0.mk (And.intro ho hb); clear ho hb hg hat))
          clear hns
          refine (cubitref29_next.calls (l.length + l2.length + 1) _ c l _ c2 l2 id true (nx cs (p + 1)).1 (nx cs (p + 1)).2 _ (HE.out.1.below HN.out.2).reads HE.out.1.cap (HE.out.2.1.below HN.out.2).reads HE.out.2.1.cap ((next_is l l2 HE.out.1.len HE.out.2.1.len id true).trans (by rw [next_nx HE.out.2.2.1 (p + 1) id true (.inr ⟨rfl, by omega, by have := HP.out.1; omega, HP.out.2.1.symm⟩)]))).mono ?_
          rintro e w6 ⟨rfl, hd⟩
          have HZ := Aside0.mk (And.intro (Kd.R_below (HN.out.1) hd.below) (below_then (HN.out.2) (HN.out.2).size hd.below))
          clear hd
          go_wp2_with fail
          go_roundg k1
          case measure => omega
          case rel =>
            refine ⟨p + 1, rfl, rfl, ⟨by have := HP.out.1; omega, by have := HJ.out.2.1; omega, ?_, HZ.out.2⟩⟩
            rw [outs_take HP.out.1, HP.out.2.1, outD_new HF.out.1 HF.out.2]
            exact HZ.out.1
        · have hn1 : decide (place l id < 0) = false := decide_eq_false (by omega)
          have HF := Aside0.mk (And.intro hf1 (And.intro hf2 (And.intro hp1 hp2)))
          obtain ⟨ad, A8, c8, e, hx0, hx1, hx2, hx3, hx4, hx5, hx6, hx7, hx8, hx9, hx10, hl8, hi8⟩ := at_T41 (HE.out.1.below HB3.out.2).reads (place l id) hp1.1 hp1.2.1
          cases e
          obtain ⟨ad2, B8, d8, e, hy0, hy1, hy2, hy3, hy4, hy5, hy6, hy7, hy8, hy9, hy10, hm8, hj8⟩ := at_T41 (HE.out.2.1.below HB3.out.2).reads (place l2 id) hp2.1 hp2.2.1
          cases e
          rw [hp1.2.2] at hx0 hx1 hx2 hx3 hx4 hx5 hx6 hx7 hx8 hx9 hx10 hl8 hi8
          rw [hp2.2.2] at hy0 hy1 hy2 hy3 hy4 hy5 hy6 hy7 hy8 hy9 hy10 hm8 hj8
          have p1 := hp1.1
          have q1 := hp1.2.1
          have p2 := hp2.1
          have q2 := hp2.2.1
          have HX := Aside0.mk (And.intro hl8 (And.intro hi8 (And.intro hm8 hj8)))
          clear hf1 hf2 hp1 hp2 hl8 hi8 hm8 hj8
          obtain ⟨pa, hpa⟩ : ∃ pa, place l id = pa := ⟨_, rfl⟩
          obtain ⟨pb, hpb⟩ : ∃ pb, place l2 id = pb := ⟨_, rfl⟩
          rw [hpa] at hn1 hx0 hx1 hx2 hx3 hx4 hx5 hx6 hx7 hx8 hx9 hx10 p1 q1
          rw [hpb] at hn2 hy0 hy1 hy2 hy3 hy4 hy5 hy6 hy7 hy8 hy9 hy10 p2 q2
          rw [hpa, hpb]
          clear hpa hpb
          go_upto_region 10 with (fail)
          go_still_tail 8, (by kernel_rfl)
          change wpList _ _ _ _ _ w3.drew
          have hdr : Below w3.heap.size w3 w3.drew := below_drew (Below.refl _ _)
          go_wp2_with fail
          refine (fields_call x y A8 B8 c8 d8 _ (Kd.C_below HX.out.2.1 hdr) HX.out.1 (Kd.C_below HX.out.2.2.2 hdr) HX.out.2.2.1 (HE.out.1.tags _ (first_id HF.out.1).2)).mono ?_
          rintro e w4 ⟨vn, rfl, hRN, hb⟩
          have hB4 : Below w3.heap.size w3 w4 := below_then hdr hdr.size hb
          have HB4 := Aside0.mk (And.intro (Kd.R_below HB3.out.1 hB4) (below_then HB3.out.2 HB3.out.2.size hB4))
          obtain ⟨An, cn, hv, hcn, hCN⟩ := Kd.R_reads hRN
          subst hv
          have HN4 := Aside0.mk (And.intro hcn hCN)
          clear hRN hcn hCN hB4 hdr hb hx0 hx1 hx2 hx3 hx4 hx5 hx6 hx7 hx8 hx9 hx10 hy0 hy1 hy2 hy3 hy4 hy5 hy6 hy7 hy8 hy9 hy10
          obtain ⟨ns, hns⟩ : ∃ ns, fnm (fld x y) = ns := ⟨_, rfl⟩
          have HNS := Aside0.mk hns
          rw [hns] at HN4
          rw [hns]
          clear hns
          go_wp2_with fail
          refine (itoa_call id _ (HE.out.2.2.2.2.below HB4.out.2) HP.out.2.2.1 HP.out.2.2.2).mono ?_
          rintro e w5 ⟨rfl, hb⟩
          have HB5 := Aside0.mk (And.intro (Kd.R_below HB4.out.1 hb) (And.intro (below_then HB4.out.2 HB4.out.2.size hb) (Kd.C_below HN4.out.2 hb)))
          clear hb
          have hns := num_small HP.out.2.2
          go_wp2_with fail
          have HL := Aside0.mk (show ns.length ≤ 8 by rw [← HNS.out]; exact fnm_le (fld x y))
          have HSM := Aside0.mk (show ∀ n ∈ ns, n.size ≤ 9 from fun n hn => name_small (by rw [HNS.out]; exact hn))
          have hT0 : ((⟨#[126, 32]⟩ : ByteArray) ++ numT id).size ≤ 23 := by
            have h1 := Lib.itoa_length_le id HP.out.2.2.1 HP.out.2.2.2
            have h2 : (numT id).size = (Lib.itoa id).length := List.size_toArray
            have h3 : (⟨#[126, 32]⟩ : ByteArray).size = 2 := rfl
            rw [ByteArray.size_append]
            omega
          have HT0 := Aside0.mk hT0
          clear hT0 hns
          go_loopg [11, 12] ns.length (fun kq v11 v12 W => ∃ j : Int, v12 = .int .i64 j ∧ v11 = .string (refT (⟨#[126, 32]⟩ ++ numT id) (ns.take j.toNat)) ∧ Aside0 (0 ≤ j ∧ j ≤ ns.length ∧ ns.length ≤ j + kq ∧ Below w5.heap.size w5 W))
          case atStart => exact ⟨0, rfl, rfl, ⟨by omega, by omega, by omega, Below.refl _ _⟩⟩
          case round =>
            obtain ⟨j, rfl, rfl, HM⟩ := hrel
            by_cases hj : j < ns.length
            · obtain ⟨ad8, e8, htc⟩ := Kd.at_string HB5.out.2.2 j HM.out.1 hj
              cases e8
              replace htc := pw_cell_below HM.out.2.2.2 htc
              obtain ⟨tg, htg⟩ : ∃ tg, rdOf ByteArray.empty ns j = tg := ⟨_, rfl⟩
              have htm : tg ∈ ns ∧ ns.take (j.toNat + 1) = ns.take j.toNat ++ [tg] := by
                have hmn : j.toNat < ns.length := by have := HM.out.1; omega
                have e : tg = ns[j.toNat] := by rw [← htg]; simp [rdOf, hmn]
                exact ⟨by rw [e]; exact List.getElem_mem hmn, by rw [List.take_succ_eq_append_getElem hmn, e]⟩
              rw [htg] at htc
              have hs1 := refT_size ((⟨#[126, 32]⟩ : ByteArray) ++ numT id) (ns.take j.toNat) (fun n hn => HSM.out n (List.mem_of_mem_take hn))
              have hs2 := HSM.out tg htm.1
              have hs3 := List.length_take_le j.toNat ns
              have hs4 := HL.out
              have hs5 := HT0.out
              obtain ⟨T, hT⟩ : ∃ T, refT (⟨#[126, 32]⟩ ++ numT id) (ns.take j.toNat) = T := ⟨_, rfl⟩
              rw [hT] at hs1 ⊢
              have hz1 : ¬ 9223372036854775807 < T.size + 1 := by omega
              have hz2 : ¬ 9223372036854775807 < T.size + 1 + tg.size := by omega
              have HTG := Aside0.mk (And.intro hj (And.intro htm.2 hT))
              have p0 := eq_true HM.out.1
              have q0 := eq_true hj
              have hd := decide_eq_true hj
              obtain ⟨k2, rfl⟩ : ∃ k2, gk = k2 + 1 := ⟨gk - 1, by have := HM.out.2.2.1; omega⟩
              clear hj htm htg hT hs1 hs2 hs3 hs4 hs5
              go_wp2_with fail
              go_roundg k2
              case measure => omega
              case rel =>
                have h0 := HM.out.1
                have h1 := HTG.out.1
                have h2 := HL.out
                have e : (j + 1).toNat = j.toNat + 1 := by omega
                refine ⟨j + 1, congrArg (Value.int .i64) (w64 (by omega) (by omega)), ?_, ⟨by omega, by omega, by have := HM.out.2.2.1; omega, HM.out.2.2.2⟩⟩
                rw [e, HTG.out.2.1, refT_snoc, HTG.out.2.2]
            · have he : j.toNat = ns.length := by have := HM.out.2.1; have := HM.out.1; omega
              have hd : decide (j < (ns.length : Int)) = false := decide_eq_false hj
              have hb6 := HM.out.2.2.2
              have HB6 := Aside0.mk (And.intro (Kd.R_below HB5.out.1 hb6) (below_then HB5.out.2.1 HB5.out.2.1.size hb6))
              have et : refT (⟨#[126, 32]⟩ ++ numT id) (ns.take j.toNat) = ⟨#[126, 32]⟩ ++ numT id ++ diffT x y := by rw [he, List.take_length, ← HNS.out]; exact refT_diff _ x y
              rw [et]
              clear he hj hb6 et
              go_upto_if 69 with (fail)
              by_cases hn0 : ns = []
              · have HZ0 := Aside0.mk hn0
                subst hn0
                go_wp2_with fail
                refine (cubitref29_next.calls (l.length + l2.length + 1) _ c l _ c2 l2 id true (nx cs (p + 1)).1 (nx cs (p + 1)).2 _ (HE.out.1.below HB6.out.2).reads HE.out.1.cap (HE.out.2.1.below HB6.out.2).reads HE.out.2.1.cap ((next_is l l2 HE.out.1.len HE.out.2.1.len id true).trans (by rw [next_nx HE.out.2.2.1 (p + 1) id true (.inr ⟨rfl, by omega, by have := HP.out.1; omega, HP.out.2.1.symm⟩)]))).mono ?_
                rintro e w6 ⟨rfl, hd⟩
                have HZ := Aside0.mk (And.intro (Kd.R_below (HB6.out.1) hd.below) (below_then (HB6.out.2) (HB6.out.2).size hd.below))
                clear hd
                go_wp2_with fail
                go_roundg k1
                case measure => omega
                case rel =>
                  refine ⟨p + 1, rfl, rfl, ⟨by have := HP.out.1; omega, by have := HJ.out.2.1; omega, ?_, HZ.out.2⟩⟩
                  rw [outs_take HP.out.1, HP.out.2.1, outD_both HF.out.1 HF.out.2.1, HNS.out, if_pos rfl, List.append_nil]
                  exact HZ.out.1
              · have HZ0 := Aside0.mk hn0
                obtain ⟨n0, ns1, hcons⟩ : ∃ n0 ns1, ns = n0 :: ns1 := List.exists_cons_of_ne_nil hn0
                clear hn0
                subst hcons
                have hl1 : decide ((0 : Int) < ((n0 :: ns1).length : Int)) = true := decide_eq_true (by simp)
                go_wp2_with (first | ((with_reducible refine gate_builtin (b := .append) (xs := #[.tmp 70, .tmp 72]) rfl ?_); at_builtin; refine Kd.R_append Kd.string (w0 := w) w.heap.size rfl (.tmp 70) (.tmp 72) 30 9 (.string ⟨#[]⟩) 16 rfl Tryz.underlying30 info9 rfl (by decide) (by omega) u5 ((cs.take p).flatMap (outD l l2)) ((⟨#[126, 32]⟩ : ByteArray) ++ numT id ++ diffT x y) [.string ((⟨#[126, 32]⟩ : ByteArray) ++ numT id ++ diffT x y)] (fun _ => True) (fun _ => False) rfl rfl ?aP (fun _ hk => hk.elim) ?aF ?aO ?aB ?aS ?aL ?_; (case aP => exact rfl); (case aF => exact (fun _ _ => trivial)); (case aO => exact HB6.out.1); (case aB => exact HB6.out.2); (case aS => exact (HB6.out.2).size); (case aL => (have h1 := outs_le l l2 (cs.take p); have h2 := List.length_take_le p cs; have h3 := HE.out.2.2.2.1; have h4 := HP.out.1; omega)); intro v1 w5 ho hb hg hat; have HN := Aside0.mk (And.intro ho hb); clear ho hb hg hat))
                rotate_left 1
                · exact absurd (Nat.succ_pos ns1.length) ‹¬0 < (n0 :: ns1).length›
                refine (cubitref29_next.calls (l.length + l2.length + 1) _ c l _ c2 l2 id true (nx cs (p + 1)).1 (nx cs (p + 1)).2 _ (HE.out.1.below HN.out.2).reads HE.out.1.cap (HE.out.2.1.below HN.out.2).reads HE.out.2.1.cap ((next_is l l2 HE.out.1.len HE.out.2.1.len id true).trans (by rw [next_nx HE.out.2.2.1 (p + 1) id true (.inr ⟨rfl, by omega, by have := HP.out.1; omega, HP.out.2.1.symm⟩)]))).mono ?_
                rintro e w6 ⟨rfl, hd⟩
                have HZ := Aside0.mk (And.intro (Kd.R_below (HN.out.1) hd.below) (below_then (HN.out.2) (HN.out.2).size hd.below))
                clear hd
                go_wp2_with fail
                go_roundg k1
                case measure => omega
                case rel =>
                  refine ⟨p + 1, rfl, rfl, ⟨by have := HP.out.1; omega, by have := HJ.out.2.1; omega, ?_, HZ.out.2⟩⟩
                  rw [outs_take HP.out.1, HP.out.2.1, outD_both HF.out.1 HF.out.2.1, HNS.out, if_neg HZ0.out]
                  exact HZ.out.1
    · have e1 : nx cs p = (0, false) := if_neg hpl
      have he : p = cs.length := by have := HJ.out.1; omega
      have hR := HJ.out.2.2.1
      rw [he, List.take_length] at hR
      have HR := Aside0.mk hR
      rw [e1]
      clear hR he hpl e1
      go_wp2_with fail
      go_ret
      exact ⟨_, rfl, HR.out, HJ.out.2.2.2⟩
end Go.Proofs.YthbdjmopolpjmaaGreatDoor.C
end
section
set_option linter.unusedVariables false
set_option linter.unusedSimpArgs false
namespace Go.Proofs.YthbdjmopolpjmaaGreatDoor.C
open Go.RowKit Go.Proofs.YthbdjmopolpjmaaGreatDoorW.PrintWords Go.Proofs.YthbdjmopolpjmaaGreatDoorW.PrintLast Go.Proofs.YthbdjmopolpjmaaGreatDoorW.PrintMore Go.Proofs.YthbdjmopolpjmaaGreatDoor.F Go.Proofs.YthbdjmopolpjmaaGreatDoor.M
attribute [local go_sem] max2_int min2_int max_two min_two max_three min_three max_four min_four
theorem wf_range {id : Int} (h : Wf id) : -9223372036854775808 ≤ id ∧ id ≤ 9223372036854775807 := by
  unfold Wf at h
  simp only [Lit.wf, Bool.and_eq_true, decide_eq_true_eq] at h
  exact h
theorem Rising.wfs {w w2 : World} {A A2 : Option Addr} {c c2 : Nat} {l l2 : List S41} {cs : List Int} (hr : Rising l l2 cs) (h : Ent w A c l) (h2 : Ent w2 A2 c2 l2) {n : Int} (hn : n ∈ cs) : Wf n := by
  rcases List.mem_append.1 ((hr.mem n).1 hn) with hm | hm
  · obtain ⟨x, hx, rfl⟩ := List.mem_map.1 hm
    exact h.nums x hx
  · obtain ⟨x, hx, rfl⟩ := List.mem_map.1 hm
    exact h2.nums x hx
structure Laid (w W : World) (b1 b2 n1 n2 : Nat) (D1 D2 : DataW Value) : Prop where
  m1 : W.ownsMap Tryz.prog 3 hold b1 n1 D1
  m2 : W.ownsMap Tryz.prog 3 hold b2 n2 D2
theorem Laid.grown {w W W1 : World} {b1 b2 n1 n2 : Nat} {D1 D2 : DataW Value} (h : Laid w W b1 b2 n1 n2 D1 D2) {α : Type} {d : Kd α} {e : Nat} {base : Nat} {ok : Nat → Prop} {v : Value} {xs : List α} (hR : d.R e W base ok v xs) (hg : W.grownBy W1 v.ownBlock) : Laid w W1 b1 b2 n1 n2 D1 D2 :=
  ⟨h.m1.kept hg (R_ne_map hR h.m1), h.m2.kept hg (R_ne_map hR h.m2)⟩
theorem Laid.below {w W W1 : World} {b1 b2 n1 n2 : Nat} {D1 D2 : DataW Value} (h : Laid w W b1 b2 n1 n2 D1 D2) (hb : Below W.heap.size W W1) : Laid w W1 b1 b2 n1 n2 D1 D2 :=
  have hg : W.grownBy W1 none := ⟨hb.os, hb.tape, hb.output, hb.size, fun i hi _ => hb.block i hi⟩
  ⟨h.m1.kept hg (by simp), h.m2.kept hg (by simp)⟩
theorem below_grown_own {w W W1 : World} {α : Type} {d : Kd α} {e : Nat} {ok : Nat → Prop} {v : Value} {xs : List α} (hB : Below w.heap.size w W) (hR : d.R e W w.heap.size ok v xs) (hg : W.grownBy W1 v.ownBlock) : Below w.heap.size w W1 := by
  obtain ⟨inner, ho⟩ := Kd.R_own hR
  exact hB.grown hg hB.size (own_base ho)
theorem R_ranges {α : Type} {d : Kd α} {e : Nat} {w w1 : World} {base : Nat} {v : Value} {xs : List α} {b r n cnt : Nat} {left : Lit → Bool} {D : DataW Value} (h : d.R e w base (fun _ => True) v xs) (hm : w.ranges Tryz.prog 3 hold b r n D left cnt) (hg : w.grownBy w1 (some r)) : d.R e w1 base (fun _ => True) v xs := by
  refine Kd.R_mono (Kd.R_grown (Kd.R_bound h) hg (fun k hk e => ?_)) (fun _ _ => trivial)
  obtain ⟨_, _, _, q, _, cells, hc⟩ := hk
  obtain ⟨_, _, _, _, _, _, _, _, _, hit, _⟩ := hm
  cases e
  rw [hit] at hc
  cases hc
theorem map_ne_iter {w : World} {b b2 r n n2 cnt : Nat} {left : Lit → Bool} {D D2 : DataW Value} (hm2 : w.ownsMap Tryz.prog 3 hold b2 n2 D2) (hm : w.ranges Tryz.prog 3 hold b r n D left cnt) : some b2 ≠ some r := by
  intro e
  obtain ⟨es, clock, hb, _⟩ := hm2
  obtain ⟨_, _, _, _, _, _, _, _, _, hit, _⟩ := hm
  cases e
  rw [hit] at hb
  cases hb
theorem diffT_size (x y : S41) : (diffT x y).size ≤ 80 := by
  have h1 := refT_size ⟨#[]⟩ (fnm (fld x y)) (fun n hn => name_small hn)
  rw [refT_diff] at h1
  have h2 := fnm_le (fld x y)
  have h3 : ((⟨#[]⟩ : ByteArray) ++ diffT x y).size = (diffT x y).size := by rw [ByteArray.size_append]; exact Nat.zero_add _
  have h4 : (⟨#[]⟩ : ByteArray).size = 0 := rfl
  have h5 : (fld x y).length = 8 := rfl
  omega
theorem flat_both {l l2 : List S41} {cs : List Int} {p : Int} {id : Int} (h0 : 0 ≤ p) (h : p < cs.length) (hid : cs.getD p.toNat 0 = id) : (cs.take (p + 1).toNat).flatMap (outD l l2) = (cs.take p.toNat).flatMap (outD l l2) ++ outD l l2 id := by
  have e : (p + 1).toNat = p.toNat + 1 := by omega
  rw [e, outs_take (by omega), hid]
set_option maxRecDepth 100000 in
set_option maxHeartbeats 16000000 in
theorem bookDiff_call (A A2 : Option Addr) (c c2 : Nat) (l l2 : List S41) (w : World) (hE : Ent w A c l) (hE2 : Ent w A2 c2 l2) (hp : Pow w) :
    Calls Tryz.prog 12 #[.slice A l.length c, .slice A2 l2.length c2] w fun e w' => ∃ v cs, e = .returned v ∧ Rising l l2 cs ∧ cs.length ≤ 2097152 ∧ Kd.string.R 9 w' w.heap.size (fun _ => True) v (cs.flatMap (outD l l2)) ∧ Below w.heap.size w w' := by
  have HE := Aside0.mk (And.intro hE (And.intro hE2 hp))
  clear hE hE2 hp
  go_enter Tryz.func12, Tryz.ntmps12
  go_wp2_with fail
  refine (byId_call A c l _ HE.out.1.reads HE.out.1.cap HE.out.1.len HE.out.1.nums).mono ?_
  rintro e w1 ⟨b1, D1, rfl, hO1, hM1, hlt1, hb1⟩
  have H1 := Aside0.mk (And.intro hO1 (And.intro hM1 (And.intro hlt1 hb1)))
  clear hO1 hM1 hlt1 hb1
  go_wp2_with fail
  refine (byId_call A2 c2 l2 _ (HE.out.2.1.below H1.out.2.2.2).reads HE.out.2.1.cap HE.out.2.1.len HE.out.2.1.nums).mono ?_
  rintro e w2 ⟨b2, D2, rfl, hO2, hM2, hlt2, hb2⟩
  have hO12 : w2.ownsMap Tryz.prog 3 hold b1 l.length D1 := by
    refine H1.out.1.kept (row := none) ⟨hb2.os, hb2.tape, hb2.output, hb2.size, fun i hi _ => hb2.block i hi⟩ (by simp)
  have H2 := Aside0.mk (And.intro hM2 (And.intro hb2 (And.intro (below_then H1.out.2.2.2 H1.out.2.2.2.size hb2) hO2)))
  clear hO2 hM2 hlt2 hb2
  go_wp2_with (first | (at_range; refine wpList_range_own _ rfl (.tmp 23) 60 rfl 3 41 law3 Tryz.underlying60 hold b1 l.length D1 rfl hO12 ?_; intro w3 hrg3 hg3 hs3))
  go_frame
  have hB3 : Below w2.heap.size w2 w3 := (Below.refl _ _).grown hg3 (Nat.le_refl _) (fun k hk => by cases hk)
  have hm3 := H2.out.2.2.2.kept hg3 (by simp)
  obtain ⟨r1, hr1⟩ : ∃ r, w2.heap.size = r := ⟨_, rfl⟩
  have HR1 := Aside0.mk (show w2.heap.size ≤ r1 from Nat.le_of_eq hr1)
  rw [hr1] at hrg3
  rw [hr1]
  have HA := Aside0.mk (And.intro hrg3 (And.intro hm3 hB3))
  clear hO12 hrg3 hg3 hs3 hr1 hB3 hm3
  go_loopg [7] (Maps.size D1) (fun kq v7 W => Aside0 (∃ left cnt zs, W.ranges Tryz.prog 3 hold b1 r1 l.length D1 left cnt ∧ cnt ≤ kq ∧ (Kd.int .i64).R 3 W w2.heap.size (fun _ => True) v7 zs ∧ Got D1 left [] zs ∧ zs.length + cnt ≤ Maps.size D1 ∧ W.ownsMap Tryz.prog 3 hold b2 l2.length D2 ∧ Below w2.heap.size w2 W))
  case atStart => exact ⟨_, _, [], HA.out.1, Nat.le_refl _, Kd.R_nil _ _ _ _ _, got_start D1 [], by simp, HA.out.2.1, HA.out.2.2⟩
  case round =>
    obtain ⟨left, cnt, zs, hrg, hck, hRz, hGot, hlen, hm2, hBw⟩ := hrel
    have HJ := Aside0.mk (And.intro hck (And.intro hRz (And.intro hGot (And.intro hlen (And.intro hm2 hBw)))))
    have hsz1 := hrg.owns.size_le
    have HS1 := Aside0.mk hsz1
    clear hck hRz hGot hlen hm2 hBw hsz1
    go_wp2_with (first | (at_next; refine next_hold _ rfl _ rfl b1 r1 l.length D1 left cnt rfl hrg ?_ ?_))
    · intro hc0 hl0
      have hz := got_end HJ.out.2.2.1 hl0
      have HZ := Aside0.mk (And.intro hz hrg.owns)
      clear hc0 hl0 hrg hz
      have hO2 := HJ.out.2.2.2.2.1
      go_wp2_with (first | (at_range; refine wpList_range_own _ rfl (.tmp 33) 60 rfl 3 41 law3 Tryz.underlying60 hold b2 l2.length D2 rfl hO2 ?_; intro w4 hrg4 hg4 hs4))
      go_frame
      have HA2 := Aside0.mk (And.intro hrg4 (And.intro (HZ.out.2.kept hg4 (by simp)) (And.intro (HJ.out.2.2.2.2.2.grown hg4 HJ.out.2.2.2.2.2.size (fun k hk => by cases hk)) (Kd.R_grown HJ.out.2.1 hg4 (fun k _ => by simp)))))
      obtain ⟨r2, hr2⟩ : ∃ r, wr.heap.size = r := ⟨_, rfl⟩
      have HR2 := Aside0.mk (show w2.heap.size ≤ r2 from by rw [← hr2]; exact HJ.out.2.2.2.2.2.size)
      rw [hr2] at HA2
      rw [hr2]
      clear hO2 hrg4 hg4 hs4 hr2
      go_loopg [7] (Maps.size D2) (fun kq v7 W => Aside0 (∃ left cnt zs2, W.ranges Tryz.prog 3 hold b2 r2 l2.length D2 left cnt ∧ cnt ≤ kq ∧ (Kd.int .i64).R 3 W w2.heap.size (fun _ => True) v7 zs2 ∧ Got D2 left zs zs2 ∧ zs2.length + cnt ≤ zs.length + Maps.size D2 ∧ W.ownsMap Tryz.prog 3 hold b1 l.length D1 ∧ Below w2.heap.size w2 W))
      case atStart => exact ⟨_, _, zs, HA2.out.1, Nat.le_refl _, HA2.out.2.2.2, got_start D2 zs, Nat.le_refl _, HA2.out.2.1, HA2.out.2.2.1⟩
      case round =>
        obtain ⟨left2, cnt2, zs2, hrg, hck, hRz, hGot, hlen, hm1, hBw⟩ := hrel
        have HK := Aside0.mk (And.intro hck (And.intro hRz (And.intro hGot (And.intro hlen (And.intro hm1 hBw)))))
        have hsz2 := hrg.owns.size_le
        have HS2 := Aside0.mk (show zs2.length ≤ 2097152 from by have h1 := HJ.out.2.2.2.1; have h2 := HS1.out; have h3 := HE.out.1.len; have h4 := HE.out.2.1.len; omega)
        clear hck hRz hGot hlen hm1 hBw hsz2
        go_wp2_with (first | (at_next; refine next_hold _ rfl _ rfl b2 r2 l2.length D2 left2 cnt2 rfl hrg ?_ ?_))
        · intro hc0 hl0
          have hz2 := got_end HK.out.2.2.1 hl0
          have hris : Rising l l2 (Lib.compact (zs2.mergeSort fun x y => decide (x ≤ y))) := rising_of (got_nums H1.out.2.1 H2.out.1 HZ.out.1 hz2)
          have HL := Aside0.mk (Laid.mk (w := w2) HK.out.2.2.2.2.1 hrg.owns)
          have hcs : (Lib.compact (zs2.mergeSort fun x y => decide (x ≤ y))).length ≤ 2097152 := by
            have h1 := compact_le (zs2.mergeSort fun x y => decide (x ≤ y))
            rw [List.length_mergeSort] at h1
            have := HS2.out
            omega
          obtain ⟨cs, hcse⟩ : ∃ cs, Lib.compact (zs2.mergeSort fun x y => decide (x ≤ y)) = cs := ⟨_, rfl⟩
          rw [hcse] at hris hcs
          have HC := Aside0.mk (And.intro hris (And.intro hcs hcse))
          clear hc0 hl0 hrg hz2 hris hcs hcse
          go_wp2_with fail
          refine (sort_call _ w2.heap.size _ zs2 HK.out.2.1 (by have := HS2.out; omega)).mono ?_
          rintro e w5 ⟨rfl, hR5, hg5⟩
          have H5 := Aside0.mk (And.intro hR5 (And.intro (HL.out.grown HK.out.2.1 hg5) (below_grown_own HK.out.2.2.2.2.2 HK.out.2.1 hg5)))
          clear hR5 hg5
          go_wp2_with fail
          refine (compact_call _ w2.heap.size _ (zs2.mergeSort fun x y => decide (x ≤ y)) H5.out.1 (by rw [List.length_mergeSort]; have := HS2.out; omega)).mono ?_
          rintro e w6 ⟨A9, c9, rfl, hc9, hI6, hg6⟩
          rw [HC.out.2.2] at hc9 hI6
          rw [HC.out.2.2]
          have H6 := Aside0.mk (And.intro hI6 (And.intro (H5.out.2.1.grown H5.out.1 hg6) (And.intro (below_grown_own H5.out.2.2 H5.out.1 hg6) hc9)))
          clear hc9 hI6 hg6
          go_wp2_with fail
          go_loopg [10, 48] cs.length (fun kq v10 v48 W => ∃ p : Int, v48 = .int .i64 p ∧ Aside0 (0 ≤ p ∧ p ≤ cs.length ∧ cs.length ≤ p + kq ∧ Kd.string.R 9 W w2.heap.size (fun _ => True) v10 ((cs.take p.toNat).flatMap (outD l l2)) ∧ IntsAt W A9 cs ∧ Laid w2 W b1 b2 l.length l2.length D1 D2 ∧ Below w2.heap.size w2 W))
          case atStart => exact ⟨0, rfl, ⟨by omega, by omega, by omega, Kd.R_nil _ _ _ _ _, H6.out.1, H6.out.2.1, H6.out.2.2.1⟩⟩
          case round =>
            obtain ⟨p, rfl, HP⟩ := hrel
            by_cases hpl : p < cs.length
            · have p0 := HP.out.1
              obtain ⟨g9, e9, hcell⟩ := HP.out.2.2.2.2.1.at (j := p.toNat) (by omega)
              cases e9
              have hpn : p.toNat < cs.length := by omega
              have hwf := HC.out.1.wfs HE.out.1 HE.out.2.1 (getD_mem hpn)
              obtain ⟨id, hid⟩ : ∃ id, cs.getD p.toNat 0 = id := ⟨_, rfl⟩
              rw [hid] at hwf hcell
              obtain ⟨x, A3, c3, ok1, hrun1, hf1, hxl, hxC⟩ := look_any HP.out.2.2.2.2.2.1.m1 H1.out.2.1 id hwf
              obtain ⟨eb, heb⟩ : ∃ eb, wr.heap.size = eb := ⟨_, rfl⟩
              obtain ⟨w7, hw7⟩ : ∃ w7, wr.alloc (.cells #[.int .i64 x.f0, .string x.f1, .string x.f2.f0, .string x.f2.f1, .string x.f3.f0, .string x.f3.f1, .string x.f4, .int .i64 x.f5, .slice A3 x.f6.length c3, .int .i64 x.f7, .bool x.f8] 41) = w7 := ⟨_, rfl⟩
              have hB7 : Below wr.heap.size wr w7 := by rw [← hw7]; exact below_alloc (Below.refl _ _) _
              have hE7 : w7.heap[eb]? = some (.cells #[.int .i64 x.f0, .string x.f1, .string x.f2.f0, .string x.f2.f1, .string x.f3.f0, .string x.f3.f1, .string x.f4, .int .i64 x.f5, .slice A3 x.f6.length c3, .int .i64 x.f7, .bool x.f8] 41 (0, 0)) := by rw [← hw7, ← heb]; exact blk_new wr _
              have hL7 := HP.out.2.2.2.2.2.1.below hB7
              obtain ⟨y, A4, c4, ok2, hrun2, hf2, hyl, hyC⟩ := look_any hL7.m2 H2.out.1 id hwf
              obtain ⟨eb2, heb2⟩ : ∃ eb, w7.heap.size = eb := ⟨_, rfl⟩
              obtain ⟨w8, hw8⟩ : ∃ w8, w7.alloc (.cells #[.int .i64 y.f0, .string y.f1, .string y.f2.f0, .string y.f2.f1, .string y.f3.f0, .string y.f3.f1, .string y.f4, .int .i64 y.f5, .slice A4 y.f6.length c4, .int .i64 y.f7, .bool y.f8] 41) = w8 := ⟨_, rfl⟩
              have hB8 : Below w7.heap.size w7 w8 := by rw [← hw8]; exact below_alloc (Below.refl _ _) _
              have hE8 : w8.heap[eb2]? = some (.cells #[.int .i64 y.f0, .string y.f1, .string y.f2.f0, .string y.f2.f1, .string y.f3.f0, .string y.f3.f1, .string y.f4, .int .i64 y.f5, .slice A4 y.f6.length c4, .int .i64 y.f7, .bool y.f8] 41 (0, 0)) := by rw [← hw8, ← heb2]; exact blk_new w7 _
              have hE78 := blk_below hE7 hB8
              have HX := Aside0.mk (And.intro hxl (And.intro (Kd.C_below hxC (below_then H2.out.2.2.1 H2.out.2.2.1.size HP.out.2.2.2.2.2.2)) (And.intro hyl (Kd.C_below (Kd.C_below hyC H2.out.2.1) HP.out.2.2.2.2.2.2))))
              have hB78 : Below wr.heap.size wr w8 := below_then hB7 hB7.size hB8
              have HW := Aside0.mk (And.intro (And.intro hE78 hE8) (And.intro hB78 (And.intro hwf (And.intro hid hpl))))
              have HF := Aside0.mk (And.intro hf1 hf2)
              obtain ⟨k1, rfl⟩ : ∃ k1, gk = k1 + 1 := ⟨gk - 1, by have := HP.out.2.2.1; omega⟩
              unfold EV at hrun1 hrun2
              clear hxl hxC hyl hyC hL7 hB7 hE7 hB8 hE8 hE78 hB78 hwf hid hf1 hf2 hpn
              go_wp2_with fail
              have hB8' : Below w2.heap.size w2 w8 := below_then HP.out.2.2.2.2.2.2 HP.out.2.2.2.2.2.2.size HW.out.2.1
              refine (itoa_call id _ ((HE.out.2.2.below H2.out.2.2.1).below hB8') (wf_range HW.out.2.2.1).1 (wf_range HW.out.2.2.1).2).mono ?_
              rintro e w9 ⟨rfl, hb⟩
              have hb9 : Below wr.heap.size wr w9 := below_then HW.out.2.1 HW.out.2.1.size hb
              have HY := Aside0.mk (And.intro (Kd.R_below HP.out.2.2.2.1 hb9) (And.intro (HP.out.2.2.2.2.1.below hb9) (And.intro (HP.out.2.2.2.2.2.1.below hb9) (And.intro (below_then HP.out.2.2.2.2.2.2 HP.out.2.2.2.2.2.2.size hb9) (And.intro (blk_below HW.out.1.1 hb) (And.intro (blk_below HW.out.1.2 hb) hb9))))))
              clear hb hb9 hB8'
              have hns := num_small (wf_range HW.out.2.2.1)
              obtain ⟨hk1, hk2⟩ := HF.out
              clear HF
              rcases hk2 with ⟨rfl, hf2⟩ | ⟨rfl, hf2⟩
              · have HF := Aside0.mk hf2
                clear hf2 hk1 hrun1 hrun2 hw7 hw8 heb heb2
                go_wp2_with (first | ((with_reducible refine gate_builtin (b := .append) (xs := #[.tmp 81, .tmp 84]) rfl ?_); at_builtin; refine Kd.R_append Kd.string (w0 := w2) w2.heap.size rfl (.tmp 81) (.tmp 84) 30 9 (.string ⟨#[]⟩) 16 rfl Tryz.underlying30 info9 rfl (by decide) (by omega) u10 ((cs.take p.toNat).flatMap (outD l l2)) ((⟨#[45, 32]⟩ : ByteArray) ++ numT id) [.string ((⟨#[45, 32]⟩ : ByteArray) ++ numT id)] (fun _ => True) (fun _ => False) rfl rfl ?aP (fun _ hk => hk.elim) ?aF ?aO ?aB ?aS ?aL ?_; (case aP => exact rfl); (case aF => exact (fun _ _ => trivial)); (case aO => exact HY.out.1); (case aB => exact HY.out.2.2.2.1); (case aS => exact (HY.out.2.2.2.1).size); (case aL => (have h1 := outs_le l l2 (cs.take p.toNat); have h2 := List.length_take_le p.toNat cs; have h3 := HC.out.2.1; omega)); intro v1 w50 ho hb hg hat; have HN2 := Aside0.mk (And.intro ho (And.intro hb (And.intro (HY.out.2.1.grown HY.out.1 (by decide) hg) (HY.out.2.2.1.grown HY.out.1 hg)))); clear ho hb hg hat))
                clear hns
                go_wp2_with fail
                go_roundg k1
                case measure => omega
                case rel => exact ⟨p + 1, congrArg (Value.int .i64) (w64 (by omega) (by have := HC.out.2.1; omega)), ⟨by omega, by have := HW.out.2.2.2.2; omega, by have := HP.out.2.2.1; omega, by rw [flat_both HP.out.1 HW.out.2.2.2.2 HW.out.2.2.2.1, outD_gone HF.out]; exact HN2.out.1, HN2.out.2.2.1, HN2.out.2.2.2, HN2.out.2.1⟩⟩
              · rcases hk1 with ⟨rfl, hf1⟩ | ⟨rfl, hf1⟩
                · have HF := Aside0.mk (And.intro hf1 hf2)
                  clear hf1 hf2 hrun1 hrun2 hw7 hw8 heb heb2
                  go_wp2_with (first | ((with_reducible refine gate_builtin (b := .append) (xs := #[.tmp 89, .tmp 92]) rfl ?_); at_builtin; refine Kd.R_append Kd.string (w0 := w2) w2.heap.size rfl (.tmp 89) (.tmp 92) 30 9 (.string ⟨#[]⟩) 16 rfl Tryz.underlying30 info9 rfl (by decide) (by omega) u10 ((cs.take p.toNat).flatMap (outD l l2)) ((⟨#[43, 32]⟩ : ByteArray) ++ numT id) [.string ((⟨#[43, 32]⟩ : ByteArray) ++ numT id)] (fun _ => True) (fun _ => False) rfl rfl ?aP (fun _ hk => hk.elim) ?aF ?aO ?aB ?aS ?aL ?_; (case aP => exact rfl); (case aF => exact (fun _ _ => trivial)); (case aO => exact HY.out.1); (case aB => exact HY.out.2.2.2.1); (case aS => exact (HY.out.2.2.2.1).size); (case aL => (have h1 := outs_le l l2 (cs.take p.toNat); have h2 := List.length_take_le p.toNat cs; have h3 := HC.out.2.1; omega)); intro v1 w50 ho hb hg hat; have HN2 := Aside0.mk (And.intro ho (And.intro hb (And.intro (HY.out.2.1.grown HY.out.1 (by decide) hg) (HY.out.2.2.1.grown HY.out.1 hg)))); clear ho hb hg hat))
                  clear hns
                  go_wp2_with fail
                  go_roundg k1
                  case measure => omega
                  case rel => exact ⟨p + 1, congrArg (Value.int .i64) (w64 (by omega) (by have := HC.out.2.1; omega)), ⟨by omega, by have := HW.out.2.2.2.2; omega, by have := HP.out.2.2.1; omega, by rw [flat_both HP.out.1 HW.out.2.2.2.2 HW.out.2.2.2.1, outD_new HF.out.1 HF.out.2]; exact HN2.out.1, HN2.out.2.2.1, HN2.out.2.2.2, HN2.out.2.1⟩⟩
                · have HF := Aside0.mk (And.intro hf1 hf2)
                  clear hf1 hf2 hrun1 hrun2 hw7 hw8 heb heb2
                  obtain ⟨ex0, ex1, ex2, ex3, ex4, ex5, ex6, ex7, ex8, ex9, ex10⟩ := eleven HY.out.2.2.2.2.1
                  obtain ⟨ey0, ey1, ey2, ey3, ey4, ey5, ey6, ey7, ey8, ey9, ey10⟩ := eleven HY.out.2.2.2.2.2.1
                  go_wp2_with fail
                  refine (differ_call x y A3 A4 c3 c4 _ (Kd.C_below HX.out.2.1 HY.out.2.2.2.2.2.2) HX.out.1 (Kd.C_below HX.out.2.2.2 HY.out.2.2.2.2.2.2) HX.out.2.2.1 (HE.out.1.tags _ (first_id HF.out.1).2)).mono ?_
                  rintro e w10 ⟨rfl, hb⟩
                  have HV := Aside0.mk (And.intro (Kd.R_below HY.out.1 hb) (And.intro (HY.out.2.1.below hb) (And.intro (HY.out.2.2.1.below hb) (below_then HY.out.2.2.2.1 HY.out.2.2.2.1.size hb))))
                  clear hb ex0 ex1 ex2 ex3 ex4 ex5 ex6 ex7 ex8 ex9 ex10 ey0 ey1 ey2 ey3 ey4 ey5 ey6 ey7 ey8 ey9 ey10
                  have hds := diffT_size x y
                  by_cases hn : fnm (fld x y) = []
                  · have HN0 := Aside0.mk hn
                    rw [diffT_nil hn]
                    clear hn hns hds
                    go_wp2_with fail
                    go_roundg k1
                    case measure => omega
                    case rel => exact ⟨p + 1, congrArg (Value.int .i64) (w64 (by omega) (by have := HC.out.2.1; omega)), ⟨by omega, by have := HW.out.2.2.2.2; omega, by have := HP.out.2.2.1; omega, by rw [flat_both HP.out.1 HW.out.2.2.2.2 HW.out.2.2.2.1, outD_both HF.out.1 HF.out.2, if_pos HN0.out, List.append_nil]; exact HV.out.1, HV.out.2.1, HV.out.2.2.1, HV.out.2.2.2⟩⟩
                  · have HN0 := Aside0.mk hn
                    have hdp := toList_pos (diffT_pos hn)
                    obtain ⟨dt, hdt⟩ : ∃ dt, diffT x y = dt := ⟨_, rfl⟩
                    have HDT := Aside0.mk hdt
                    rw [hdt] at hds hdp
                    rw [hdt]
                    clear hn hdt
                    have hns2 : ¬ 9223372036854775807 < 2 + (Lib.itoa id).length + dt.size := by have := Lib.itoa_length_le id (wf_range HW.out.2.2.1).1 (wf_range HW.out.2.2.1).2; omega
                    go_wp2_with (first | ((with_reducible refine gate_builtin (b := .append) (xs := #[.tmp 71, .tmp 76]) rfl ?_); at_builtin; refine Kd.R_append Kd.string (w0 := w2) w2.heap.size rfl (.tmp 71) (.tmp 76) 30 9 (.string ⟨#[]⟩) 16 rfl Tryz.underlying30 info9 rfl (by decide) (by omega) u10 ((cs.take p.toNat).flatMap (outD l l2)) ((⟨#[126, 32]⟩ : ByteArray) ++ numT id ++ dt) [.string ((⟨#[126, 32]⟩ : ByteArray) ++ numT id ++ dt)] (fun _ => True) (fun _ => False) rfl rfl ?aP (fun _ hk => hk.elim) ?aF ?aO ?aB ?aS ?aL ?_; (case aP => exact rfl); (case aF => exact (fun _ _ => trivial)); (case aO => exact HV.out.1); (case aB => exact HV.out.2.2.2); (case aS => exact (HV.out.2.2.2).size); (case aL => (have h1 := outs_le l l2 (cs.take p.toNat); have h2 := List.length_take_le p.toNat cs; have h3 := HC.out.2.1; omega)); intro v1 w50 ho hb hg hat; have HN2 := Aside0.mk (And.intro ho (And.intro hb (And.intro (HV.out.2.1.grown HV.out.1 (by decide) hg) (HV.out.2.2.1.grown HV.out.1 hg)))); clear ho hb hg hat))
                    clear hns hds hdp hns2
                    go_wp2_with fail
                    go_roundg k1
                    case measure => omega
                    case rel => exact ⟨p + 1, congrArg (Value.int .i64) (w64 (by omega) (by have := HC.out.2.1; omega)), ⟨by omega, by have := HW.out.2.2.2.2; omega, by have := HP.out.2.2.1; omega, by rw [flat_both HP.out.1 HW.out.2.2.2.2 HW.out.2.2.2.1, outD_both HF.out.1 HF.out.2, if_neg HN0.out, HDT.out]; exact HN2.out.1, HN2.out.2.2.1, HN2.out.2.2.2, HN2.out.2.1⟩⟩
            · have hd : decide (p < (cs.length : Int)) = false := decide_eq_false hpl
              have he : p.toNat = cs.length := by have := HP.out.2.1; have := HP.out.1; omega
              have HZ9 := Aside0.mk he
              clear hpl he
              go_wp2_with fail
              go_ret
              refine ⟨_, cs, rfl, HC.out.1, HC.out.2.1, ?_, below_then H2.out.2.2.1 H2.out.2.2.1.size HP.out.2.2.2.2.2.2⟩
              have hR := HP.out.2.2.2.1
              rw [HZ9.out, List.take_length] at hR
              exact Kd.R_lower hR H2.out.2.2.1.size
        · intro x v w4 cnt1 hwx hhas hrg1 hlt hg1 hs1 hen
          have HN := Aside0.mk (And.intro hhas (And.intro hrg1 (And.intro hlt (And.intro (R_ranges HK.out.2.1 hrg hg1) (And.intro (HK.out.2.2.2.2.1.kept hg1 (map_ne_iter HK.out.2.2.2.2.1 hrg)) (HK.out.2.2.2.2.2.grown hg1 HK.out.2.2.2.2.2.size (fun k hk => by cases hk; exact HR2.out)))))))
          obtain ⟨k1, rfl⟩ : ∃ k1, gk = k1 + 1 := ⟨gk - 1, by have := HK.out.1; omega⟩
          clear hhas hrg1 hlt hg1 hs1 hwx hrg
          go_wp2_with (first | ((with_reducible refine gate_builtin (b := .append) (xs := #[.tmp 39, .tmp 41]) rfl ?_); at_builtin; refine Kd.R_append (Kd.int .i64) (w0 := w2) w2.heap.size rfl (.tmp 39) (.tmp 41) 62 3 (.int .i64 0) 8 rfl Tryz.underlying62 info3 rfl (by decide) (by omega) u7 zs2 x [.int .i64 x] (fun _ => True) (fun _ => False) rfl rfl ?aP (fun _ hk => hk.elim) ?aF ?aO ?aB ?aS ?aL ?_; (case aP => exact rfl); (case aF => exact (fun _ _ => trivial)); (case aO => exact HN.out.2.2.2.1); (case aB => exact HN.out.2.2.2.2.2); (case aS => exact (HN.out.2.2.2.2.2).size); (case aL => (have h1 := HS2.out; omega)); intro v1 w50 ho hb hg hat; have HN2 := Aside0.mk (And.intro ho (And.intro hb (And.intro (HN.out.2.1.kept hg (R_ne_map HN.out.2.2.2.1 HN.out.2.1.owns) (R_ne_iter HN.out.2.2.2.1 HN.out.2.1)) (HN.out.2.2.2.2.1.kept hg (R_ne_map HN.out.2.2.2.1 HN.out.2.2.2.2.1))))); clear ho hb hg hat))
          go_roundg k1
          case measure => omega
          case rel => exact ⟨_, cnt1, zs2 ++ [x], HN2.out.2.2.1, by have := HN.out.2.2.1; have := HK.out.1; omega, HN2.out.1, got_step HK.out.2.2.1 HN.out.1, by have := HK.out.2.2.2.1; have := HN.out.2.2.1; rw [List.length_append, List.length_singleton]; omega, HN2.out.2.2.2, HN2.out.2.1⟩
    · intro x v w4 cnt1 hwx hhas hrg1 hlt hg1 hs1 hen
      have HN := Aside0.mk (And.intro hhas (And.intro hrg1 (And.intro hlt (And.intro (R_ranges HJ.out.2.1 hrg hg1) (And.intro (HJ.out.2.2.2.2.1.kept hg1 (map_ne_iter HJ.out.2.2.2.2.1 hrg)) (HJ.out.2.2.2.2.2.grown hg1 HJ.out.2.2.2.2.2.size (fun k hk => by cases hk; exact HR1.out)))))))
      obtain ⟨k1, rfl⟩ : ∃ k1, gk = k1 + 1 := ⟨gk - 1, by have := HJ.out.1; omega⟩
      clear hhas hrg1 hlt hg1 hs1 hwx hrg
      go_wp2_with (first | ((with_reducible refine gate_builtin (b := .append) (xs := #[.tmp 29, .tmp 31]) rfl ?_); at_builtin; refine Kd.R_append (Kd.int .i64) (w0 := w2) w2.heap.size rfl (.tmp 29) (.tmp 31) 62 3 (.int .i64 0) 8 rfl Tryz.underlying62 info3 rfl (by decide) (by omega) u7 zs x [.int .i64 x] (fun _ => True) (fun _ => False) rfl rfl ?aP (fun _ hk => hk.elim) ?aF ?aO ?aB ?aS ?aL ?_; (case aP => exact rfl); (case aF => exact (fun _ _ => trivial)); (case aO => exact HN.out.2.2.2.1); (case aB => exact HN.out.2.2.2.2.2); (case aS => exact (HN.out.2.2.2.2.2).size); (case aL => (have h1 := HJ.out.2.2.2.1; have h2 := HS1.out; have h3 := HE.out.1.len; omega)); intro v1 w50 ho hb hg hat; have HN2 := Aside0.mk (And.intro ho (And.intro hb (And.intro (HN.out.2.1.kept hg (R_ne_map HN.out.2.2.2.1 HN.out.2.1.owns) (R_ne_iter HN.out.2.2.2.1 HN.out.2.1)) (HN.out.2.2.2.2.1.kept hg (R_ne_map HN.out.2.2.2.1 HN.out.2.2.2.2.1))))); clear ho hb hg hat))
      go_roundg k1
      case measure => omega
      case rel => exact ⟨_, cnt1, zs ++ [x], HN2.out.2.2.1, by have := HN.out.2.2.1; have := HJ.out.1; omega, HN2.out.1, got_step HJ.out.2.2.1 HN.out.1, by have := HJ.out.2.2.2.1; have := HN.out.2.2.1; rw [List.length_append, List.length_singleton]; omega, HN2.out.2.2.2, HN2.out.2.1⟩
end Go.Proofs.YthbdjmopolpjmaaGreatDoor.C
end
section
set_option linter.unusedVariables false
namespace Go.Proofs.YthbdjmopolpjmaaGreatDoor.C
open Go.Proofs.YthbdjmopolpjmaaGreatDoorW.PrintWords Go.Proofs.YthbdjmopolpjmaaGreatDoor.F
theorem Rising.swap {a b : List S41} {cs : List Int} (h : Rising a b cs) : Rising b a cs := ⟨h.up, fun n => by
  rw [h.mem]
  unfold numsOf
  rw [List.mem_append, List.mem_append]
  exact Or.comm⟩
theorem fld_self (x : S41) : fnm (fld x x) = [] := by
  have h := eqL_refl x.f6
  simp [fnm, fld, h]
theorem eqL_comm (a b : List ByteArray) : eqL a b = eqL b a := by unfold eqL; exact BEq.comm
theorem fld_comm (x y : S41) : fld x y = fld y x := by
  unfold fld
  rw [BEq.comm (a := x.f1.toList), BEq.comm (a := x.f2.f0.toList), BEq.comm (a := x.f2.f1.toList), BEq.comm (a := x.f3.f0.toList), BEq.comm (a := x.f3.f1.toList), BEq.comm (a := x.f4.toList), eqL_comm x.f6, BEq.comm (a := x.f8),
    show decide (x.f5 = y.f5) = decide (y.f5 = x.f5) from decide_eq_decide.2 eq_comm, show decide (x.f7 = y.f7) = decide (y.f7 = x.f7) from decide_eq_decide.2 eq_comm]
theorem first_of_num {a : List S41} {id : Int} (h : id ∈ a.map (·.f0)) : ∃ x, first a id = some x := by
  cases hf : first a id with
  | some x => exact ⟨x, rfl⟩
  | none =>
    obtain ⟨x, hx, e⟩ := List.mem_map.1 h
    have := List.find?_eq_none.1 hf x hx
    simp [e] at this
theorem outD_self {a : List S41} {id : Int} (h : id ∈ a.map (·.f0)) : outD a a id = [] := by
  obtain ⟨x, hx⟩ := first_of_num h
  rw [outD_both hx hx, if_pos (fld_self x)]
theorem outs_self {a : List S41} {cs : List Int} (h : Rising a a cs) : cs.flatMap (outD a a) = [] := by
  rw [List.flatMap_eq_nil_iff]
  intro n hn
  refine outD_self ?_
  rcases List.mem_append.1 ((h.mem n).1 hn) with h1 | h1 <;> exact h1
theorem outD_swap {a b : List S41} {id : Int} (h : id ∈ numsOf a b) :
    (outD a b id = [⟨#[45, 32]⟩ ++ numT id] ∧ outD b a id = [⟨#[43, 32]⟩ ++ numT id]) ∨ (outD a b id = [⟨#[43, 32]⟩ ++ numT id] ∧ outD b a id = [⟨#[45, 32]⟩ ++ numT id]) ∨
    (outD b a id = outD a b id ∧ (outD a b id = [] ∨ ∃ t, outD a b id = [⟨#[126, 32]⟩ ++ numT id ++ t])) := by
  cases ha : first a id with
  | none =>
    cases hb : first b id with
    | none =>
      rcases List.mem_append.1 h with h1 | h1
      · obtain ⟨x, hx⟩ := first_of_num h1
        rw [ha] at hx
        exact absurd hx (by simp)
      · obtain ⟨x, hx⟩ := first_of_num h1
        rw [hb] at hx
        exact absurd hx (by simp)
    | some y => exact .inr (.inl ⟨outD_new ha hb, outD_gone ha⟩)
  | some x =>
    cases hb : first b id with
    | none => exact .inl ⟨outD_gone hb, outD_new hb ha⟩
    | some y =>
      have hd : diffT y x = diffT x y := by unfold diffT; rw [fld_comm y x]
      refine .inr (.inr ⟨?_, ?_⟩)
      · rw [outD_both ha hb, outD_both hb ha, fld_comm y x, hd]
      · rw [outD_both ha hb]
        by_cases hn : fnm (fld x y) = []
        · exact .inl (if_pos hn)
        · exact .inr ⟨diffT x y, if_neg hn⟩
end Go.Proofs.YthbdjmopolpjmaaGreatDoor.C
end
section
set_option linter.unusedVariables false
namespace Go.Proofs.YthbdjmopolpjmaaGreatDoor.C
open Go.Proofs.YthbdjmopolpjmaaGreatDoorW.PrintWords Go.Proofs.YthbdjmopolpjmaaGreatDoor.F Go.Proofs.YthbdjmopolpjmaaGreatDoor.M
theorem Rising.unique {a b : List S41} {cs cs2 : List Int} (h : Rising a b cs) (h2 : Rising a b cs2) : cs = cs2 := by
  have hn : cs.Nodup := h.up.imp (fun hlt => Int.ne_of_lt hlt)
  have hn2 : cs2.Nodup := h2.up.imp (fun hlt => Int.ne_of_lt hlt)
  have hp : cs.Perm cs2 := (List.perm_ext_iff_of_nodup hn hn2).2 (fun n => by rw [h.mem, h2.mem])
  exact hp.eq_of_pairwise (le := (· < ·)) (fun x y _ _ h1 h2 => absurd h1 (Int.not_lt.2 (Int.le_of_lt h2))) h.up h2.up
def swapT (s : ByteArray) : ByteArray := if bt s 0 = 43 then ⟨#[45]⟩ ++ s.extract 1 s.size else if bt s 0 = 45 then ⟨#[43]⟩ ++ s.extract 1 s.size else s
theorem ba_ext {s t : ByteArray} (h : s.data.toList = t.data.toList) : s = t := ByteArray.ext (Array.ext' h)
theorem bt_two (a b : UInt8) (t : ByteArray) : bt ((⟨#[a, b]⟩ : ByteArray) ++ t) 0 = a.toNat := by
  have h : (0 : Int).toNat < ((⟨#[a, b]⟩ : ByteArray) ++ t).size := by rw [ByteArray.size_append]; have : (⟨#[a, b]⟩ : ByteArray).size = 2 := rfl; omega
  rw [← bt_at _ _ h]
  congr 1
theorem tail_two (a b : UInt8) (t : ByteArray) : ((⟨#[a, b]⟩ : ByteArray) ++ t).extract 1 ((⟨#[a, b]⟩ : ByteArray) ++ t).size = ⟨#[b]⟩ ++ t := by
  have e : ((⟨#[a, b]⟩ : ByteArray) ++ t).data.toList = a :: b :: t.data.toList := by simp [ByteArray.data_append]
  have e2 : ((⟨#[b]⟩ : ByteArray) ++ t).data.toList = b :: t.data.toList := by simp [ByteArray.data_append]
  refine ba_ext ?_
  rw [e2, ByteArray.data_extract, Array.toList_extract, List.extract, e]
  have h3 : ((⟨#[a, b]⟩ : ByteArray) ++ t).size = t.data.toList.length + 2 := by rw [ByteArray.size_append, Nat.add_comm]; rfl
  rw [h3]
  simp
  exact List.take_of_length_le (Nat.le_of_eq rfl)
theorem swap_minus (t : ByteArray) : swapT (⟨#[45, 32]⟩ ++ t) = ⟨#[43, 32]⟩ ++ t := by
  unfold swapT
  rw [bt_two, tail_two, if_neg (by decide), if_pos (by decide)]
  refine ba_ext ?_
  simp [ByteArray.data_append]
theorem swap_plus (t : ByteArray) : swapT (⟨#[43, 32]⟩ ++ t) = ⟨#[45, 32]⟩ ++ t := by
  unfold swapT
  rw [bt_two, tail_two, if_pos (by decide)]
  refine ba_ext ?_
  simp [ByteArray.data_append]
theorem swap_both (t : ByteArray) : swapT (⟨#[126, 32]⟩ ++ t) = ⟨#[126, 32]⟩ ++ t := by
  unfold swapT
  rw [bt_two, if_neg (by decide), if_neg (by decide)]
theorem app_assoc (a b c : ByteArray) : a ++ b ++ c = a ++ (b ++ c) := by
  refine ba_ext ?_
  simp [ByteArray.data_append]
theorem outD_map {a b : List S41} {id : Int} (h : id ∈ numsOf a b) : outD b a id = (outD a b id).map swapT ∧ ∀ s ∈ outD a b id, 2 ≤ s.size := by
  have hs : ∀ (x y : UInt8) (t : ByteArray), 2 ≤ ((⟨#[x, y]⟩ : ByteArray) ++ t).size := fun x y t => by rw [ByteArray.size_append]; exact Nat.le_add_right 2 _
  rcases outD_swap h with ⟨h1, h2⟩ | ⟨h1, h2⟩ | ⟨h1, h2 | ⟨t, h2⟩⟩
  · rw [h1, h2]
    exact ⟨by simp [swap_minus], fun s hm => by rw [List.mem_singleton.1 hm]; exact hs _ _ _⟩
  · rw [h1, h2]
    exact ⟨by simp [swap_plus], fun s hm => by rw [List.mem_singleton.1 hm]; exact hs _ _ _⟩
  · rw [h1, h2]
    exact ⟨rfl, fun s hm => by cases hm⟩
  · rw [h1, h2, app_assoc]
    exact ⟨by simp [swap_both], fun s hm => by rw [List.mem_singleton.1 hm]; exact hs _ _ _⟩
theorem outs_map {a b : List S41} {cs : List Int} (h : Rising a b cs) : cs.flatMap (outD b a) = (cs.flatMap (outD a b)).map swapT ∧ ∀ s ∈ cs.flatMap (outD a b), 2 ≤ s.size := by
  have hm : ∀ n ∈ cs, n ∈ numsOf a b := fun n hn => (h.mem n).1 hn
  clear h
  induction cs with
  | nil => exact ⟨rfl, fun s hs => by cases hs⟩
  | cons n cs ih =>
    obtain ⟨i1, i2⟩ := ih (fun k hk => hm k (List.mem_cons_of_mem _ hk))
    obtain ⟨o1, o2⟩ := outD_map (hm n List.mem_cons_self)
    rw [List.flatMap_cons, List.flatMap_cons, List.map_append, i1, o1]
    refine ⟨rfl, fun s hs => ?_⟩
    rcases List.mem_append.1 hs with h1 | h1
    · exact o2 s h1
    · exact i2 s h1
theorem same_l4 (a b : List ByteArray) (ha : a.length ≤ 4194304) (hab : a.length = b.length) : ∀ (m i : Nat), i + m = a.length → cubitref01_SameTexts.l0 (m + 1) a b (i : Int) = some (eqL (a.drop i) (b.drop i)) := by
  intro m
  induction m with
  | zero =>
    intro i hi
    unfold cubitref01_SameTexts.l0
    rw [if_neg (by omega), List.drop_eq_nil_of_le (by omega), List.drop_eq_nil_of_le (by omega)]
    rfl
  | succ m ih =>
    intro i hi
    unfold cubitref01_SameTexts.l0
    rw [if_pos (by omega), if_pos (by omega), if_pos (by omega), drop_rdOf a i (by omega), drop_rdOf b i (by omega), eqL_cons]
    by_cases h : (rdOf ByteArray.empty a (i : Int)).toList = (rdOf ByteArray.empty b (i : Int)).toList
    · rw [if_pos h, w64 (by omega) (by omega), beq_iff_eq.2 h, Bool.true_and]
      exact ih (i + 1) (by omega)
    · rw [if_neg h, beq_eq_false_iff_ne.2 h, Bool.false_and]
theorem same_texts4 (a b : List ByteArray) (ha : a.length ≤ 4194304) : cubitref01_SameTexts.f (a.length + 1) a b = some (eqL a b) := by
  unfold cubitref01_SameTexts.f
  by_cases h : a.length = b.length
  · rw [if_pos (by omega)]
    exact same_l4 a b ha h a.length 0 (by omega)
  · rw [if_neg (by omega), eqL_len h]
end Go.Proofs.YthbdjmopolpjmaaGreatDoor.C
end
