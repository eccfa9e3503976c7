/- Part 20 of the proof: CRow, CRefP, FBase1, FCubitref29Texts, FCubitref01SameTexts, CLent. -/
import Derived.Deep.RegionHeld3
import Derived.Test.YthbdjmopolpjmaaGreatDoorB00
import Derived.Test.YthbdjmopolpjmaaGreatDoorB01
import Derived.Test.YthbdjmopolpjmaaGreatDoorB02
import Derived.Test.YthbdjmopolpjmaaGreatDoorB03
import Derived.Test.YthbdjmopolpjmaaGreatDoorB04
import Derived.Test.YthbdjmopolpjmaaGreatDoorB05
import Derived.Test.YthbdjmopolpjmaaGreatDoorB06
import Derived.Test.YthbdjmopolpjmaaGreatDoorB07
import Derived.Test.YthbdjmopolpjmaaGreatDoorB08
import Derived.Test.YthbdjmopolpjmaaGreatDoorB09
import Derived.Test.YthbdjmopolpjmaaGreatDoorB10
import Derived.Test.YthbdjmopolpjmaaGreatDoorB11
import Derived.Test.YthbdjmopolpjmaaGreatDoorB12
import Derived.Test.YthbdjmopolpjmaaGreatDoorB13
import Derived.Test.YthbdjmopolpjmaaGreatDoorB14
import Derived.Test.YthbdjmopolpjmaaGreatDoorB15
import Derived.Test.YthbdjmopolpjmaaGreatDoorB16
import Derived.Test.YthbdjmopolpjmaaGreatDoorB17
import Derived.Test.YthbdjmopolpjmaaGreatDoorB18
import Derived.Test.YthbdjmopolpjmaaGreatDoorB19
section
set_option linter.unusedVariables false
set_option linter.unusedSimpArgs false
namespace Go.Proofs.YthbdjmopolpjmaaGreatDoor.C
open Go.RowKit Go.Proofs.YthbdjmopolpjmaaGreatDoorW.PrintWords Go.Proofs.YthbdjmopolpjmaaGreatDoorW.PrintLast Go.Proofs.YthbdjmopolpjmaaGreatDoorW.PrintMore Go.Proofs.YthbdjmopolpjmaaGreatDoor.F Go.Proofs.YthbdjmopolpjmaaGreatDoor.M
theorem take_ne {ts : List ByteArray} {k : Nat} (h : 0 < k) (h2 : 0 < ts.length) : ts.take k ≠ [] := by
  intro he
  have h5 : (ts.take k).length = 0 := by rw [he]; rfl
  rw [List.length_take] at h5
  omega
theorem written_call (s : ByteArray) (w : World) (hs : s.size ≤ 17592186044416) : Calls Tryz.prog 59 #[.string s] w fun e w' => e = .returned (.string (esc s)) ∧ Below w.heap.size w w' := cubitref29_written.calls _ s (esc s) w (written_is s hs)
set_option maxRecDepth 100000 in
set_option maxHeartbeats 16000000 in
theorem row_call (x : S41) (A : Option Addr) (c : Nat) (w : World) (hx : Small x) (h0 : canI x = 0) (hC : Kd.string.C w A x.f6.length x.f6) (hp : Pow w) :
    Calls Tryz.prog 26 #[EV x A c] w fun e w' => e = .returned (.string (strOfNums (line x))) ∧ Below w.heap.size w w' := by
  have HX := Aside0.mk (And.intro hx (And.intro h0 hC))
  have HP := Aside0.mk hp
  obtain ⟨eb, heb⟩ : ∃ eb, w.heap.size = eb := ⟨_, rfl⟩
  obtain ⟨w0, hw0⟩ : ∃ w0, w.alloc (.cells #[.int .i64 x.f0, .string x.f1, .string x.f2.f0, .string x.f2.f1, .string x.f3.f0, .string x.f3.f1, .string x.f4, .int .i64 x.f5, .slice A x.f6.length c, .int .i64 x.f7, .bool x.f8] 41) = w0 := ⟨_, rfl⟩
  have hB0 : Below w.heap.size w w0 := by rw [← hw0]; exact below_alloc (Below.refl _ _) _
  have hE0 : w0.heap[eb]? = some (.cells #[.int .i64 x.f0, .string x.f1, .string x.f2.f0, .string x.f2.f1, .string x.f3.f0, .string x.f3.f1, .string x.f4, .int .i64 x.f5, .slice A x.f6.length c, .int .i64 x.f7, .bool x.f8] 41 (0, 0)) := by rw [← hw0, ← heb]; exact blk_new w _
  have HB0 := Aside0.mk (And.intro hB0 hE0)
  have HEB := Aside0.mk heb
  obtain ⟨ex0, ex1, ex2, ex3, ex4, ex5, ex6, ex7, ex8, ex9, ex10⟩ := eleven hE0
  clear hx h0 hC hp hB0 hE0
  go_enter Tryz.func26, Tryz.ntmps26
  unfold EV
  go_wp2_with fail
  refine (refPrint_yes x.f2.f0 x.f2.f1 _ (HX.out.1.fits HX.out.2.1).rat.1).mono ?_
  rintro e w1 ⟨rfl, hb⟩
  have HB1 := Aside0.mk (And.intro (below_then HB0.out.1 HB0.out.1.size hb) (blk_below HB0.out.2 hb))
  clear hb hw0 heb ex0 ex1 ex2 ex3 ex4 ex5 ex6 ex7 ex8 ex9 ex10
  obtain ⟨ex0, ex1, ex2, ex3, ex4, ex5, ex6, ex7, ex8, ex9, ex10⟩ := eleven HB1.out.2
  go_wp2_with fail
  refine (refPrint_yes x.f3.f0 x.f3.f1 _ (HX.out.1.fits HX.out.2.1).rat.2).mono ?_
  rintro e w2 ⟨rfl, hb⟩
  have HB2 := Aside0.mk (And.intro (below_then HB1.out.1 HB1.out.1.size hb) (blk_below HB1.out.2 hb))
  clear hb ex0 ex1 ex2 ex3 ex4 ex5 ex6 ex7 ex8 ex9 ex10
  obtain ⟨ex0, ex1, ex2, ex3, ex4, ex5, ex6, ex7, ex8, ex9, ex10⟩ := eleven HB2.out.2
  go_upto_if 25 with (fail)
  go_cut [7] (fun v7 wc => v7 = .string (signT x.f8) ∧ wc = w2)
  case first =>
    go_wp2_with fail
    all_goals
      go_meet
      case rel => exact ⟨by simp [signT, *], rfl⟩
  case rest =>
    obtain ⟨rfl, rfl⟩ := hcut
    clear HB1
    go_upto_region 6 with (fail)
    have hbd := (HX.out.1.fits HX.out.2.1).bounds
    unfold Bounds at hbd
    obtain ⟨u1, u2, u3, u4, u5, u6⟩ := hbd
    have s1 := HX.out.1.s1
    have s4 := HX.out.1.s4
    go_cut [8] (fun v8 W => ∃ g, v8 = .slice (some ⟨g, 0, none⟩) 8 8 ∧ Aside0 (Kd.string.R 9 W w.heap.size (fun _ => True) (.slice (some ⟨g, 0, none⟩) 8 8) (eight x) ∧ Below wc.heap.size wc W))
    case first =>
      have hpw : Pow wc := HP.out.below HB2.out.1
      have hdr : Below wc.heap.size wc wc.drew := below_drew (Below.refl _ _)
      have hpd : Pow wc.drew := hpw.below hdr
      go_region_held3 (fun w' => w'.cell? ⟨eb, 0, none⟩ = some (.int .i64 x.f0) ∧ w'.cell? ⟨eb, 1, none⟩ = some (.string x.f1) ∧ w'.cell? ⟨eb, 6, none⟩ = some (.string x.f4) ∧ w'.cell? ⟨eb, 7, none⟩ = some (.int .i64 x.f5) ∧ w'.cell? ⟨eb, 9, none⟩ = some (.int .i64 x.f7) ∧ Pow w' ∧ Below wc.heap.size wc w')
        (first | (exact ⟨ex0, ex1, ex6, ex7, ex9, hpd, hdr⟩) | (go_split_ands; exact ⟨cell_later hb (by assumption), cell_later hb (by assumption), cell_later hb (by assumption), cell_later hb (by assumption), cell_later hb (by assumption), Pow.below (by assumption) hb, below_then (by assumption) (Below.size (by assumption)) hb⟩) | (go_split_ands; exact ⟨cell_later (below_alloc (Below.refl _ _) _) (by assumption), cell_later (below_alloc (Below.refl _ _) _) (by assumption), cell_later (below_alloc (Below.refl _ _) _) (by assumption), cell_later (below_alloc (Below.refl _ _) _) (by assumption), cell_later (below_alloc (Below.refl _ _) _) (by assumption), Pow.below (by assumption) (below_alloc (Below.refl _ _) _), below_then (by assumption) (Below.size (by assumption)) (below_alloc (Below.refl _ _) _)⟩))
        (first | ((try go_split_ands); go_at_call 31; refine (itoa_call _ _ (by assumption) (by omega) (by omega)).mono ?_; rintro e w3 ⟨rfl, hb⟩) | ((try go_split_ands); go_at_call 59; refine (written_call _ _ (by omega)).mono ?_; rintro e w3 ⟨rfl, hb⟩))
      go_split_ands
      have hb3 : Below wc.heap.size wc (w3.alloc (.cells (encs Value.string (eight x)).toArray 9)) := by assumption
      have hel : eb < (w3.alloc (.cells (encs Value.string (eight x)).toArray 9)).heap.size := blk_lt (blk_below HB2.out.2 hb3)
      have ho := own_lit_of (enc := Value.string) w3 w.heap.size 9 (eight x) (by rw [HEB.out]; simp at hel; omega) (by simp [eight])
      have hR : Kd.string.R 9 (w3.alloc (.cells (encs Value.string (eight x)).toArray 9)) w.heap.size (fun _ => True) (.slice (some ⟨w3.heap.size, 0, none⟩) 8 8) (eight x) := Kd.R_of_own ho (fun _ _ => trivial)
      have HFin := Aside0.mk (And.intro hR hb3)
      clear hR ho hb3 hel
      go_wp2_with fail
      go_meet
      case rel => exact ⟨w3.heap.size, rfl, ⟨HFin.out.1, HFin.out.2⟩⟩
    case rest =>
      obtain ⟨g8, rfl, HR8⟩ := hcut
      have HB3 := Aside0.mk (And.intro (below_then HB2.out.1 HB2.out.1.size HR8.out.2) (blk_below HB2.out.2 HR8.out.2))
      clear HB2 ex0 ex1 ex2 ex3 ex4 ex5 ex6 ex7 ex8 ex9 ex10
      go_wp2_with fail
      go_loopg [8, 9] x.f6.length (fun kq v8 v9 W => ∃ m : Int, v9 = .int .i64 m ∧ Aside0 (0 ≤ m ∧ m ≤ x.f6.length ∧ x.f6.length ≤ m + kq ∧ Kd.string.R 9 W w.heap.size (fun _ => True) v8 (eight x ++ (x.f6.take m.toNat).map esc) ∧ Below w.heap.size w W ∧ W.heap[eb]? = some (.cells #[.int .i64 x.f0, .string x.f1, .string x.f2.f0, .string x.f2.f1, .string x.f3.f0, .string x.f3.f1, .string x.f4, .int .i64 x.f5, .slice A x.f6.length c, .int .i64 x.f7, .bool x.f8] 41 (0, 0))))
      case atStart => exact ⟨0, rfl, ⟨by omega, by omega, by omega, by simpa using HR8.out.1, HB3.out.1, HB3.out.2⟩⟩
      case round =>
        obtain ⟨m, rfl, HM⟩ := hrel
        have HBm := Aside0.mk HM.out.2.2.2.2.1
        have ex8 := (eleven HM.out.2.2.2.2.2).2.2.2.2.2.2.2.2.1
        have HT8 := Aside0.mk (tags_le HX.out.2.1)
        by_cases hm : m < x.f6.length
        · obtain ⟨ad8, e8, htc⟩ := Kd.at_string HX.out.2.2 m HM.out.1 hm
          cases e8
          replace htc := pw_cell_below HBm.out htc
          obtain ⟨tg, htg⟩ : ∃ tg, rdOf ByteArray.empty x.f6 m = tg := ⟨_, rfl⟩
          have htm : tg ∈ x.f6 ∧ x.f6.take (m.toNat + 1) = x.f6.take m.toNat ++ [tg] := by
            have hmn : m.toNat < x.f6.length := by have := HM.out.1; omega
            have e : tg = x.f6[m.toNat] := by rw [← htg]; simp [rdOf, hmn]
            rw [e]
            exact ⟨List.getElem_mem _, List.take_succ_eq_append_getElem hmn⟩
          rw [htg] at htc
          have p1 := eq_true HM.out.1
          have q1 := eq_true hm
          have hdm := decide_eq_true hm
          have HTG := Aside0.mk (And.intro hm htm)
          obtain ⟨k1_, rfl⟩ : ∃ k1, gk = k1 + 1 := ⟨gk - 1, by have := HM.out.2.2.1; omega⟩
          clear hm htm htg
          go_wp2_with fail
          refine (written_call tg _ (by have := HX.out.1.s6 tg HTG.out.2.1; omega)).mono ?_
          rintro e w3 ⟨rfl, hb⟩
          have HRk := Aside0.mk (Kd.R_below HM.out.2.2.2.1 hb)
          have HBn := Aside0.mk (And.intro (below_then HBm.out HBm.out.size hb) (blk_below HM.out.2.2.2.2.2 hb))
          clear hb htc ex8
          go_wp2_with (first | ((with_reducible refine gate_builtin (b := .append) (xs := #[.tmp 52, .tmp 59]) rfl ?_); at_builtin; refine Kd.R_append Kd.string (w0 := w) w.heap.size rfl (.tmp 52) (.tmp 59) 30 9 (.string ⟨#[]⟩) 16 rfl Tryz.underlying30 info9 rfl (by decide) (by omega) u8 (eight x ++ (x.f6.take m.toNat).map esc) (esc tg) [.string (esc tg)] (fun _ => True) (fun _ => False) rfl rfl ?aP (fun _ hk => hk.elim) ?aF ?aO ?aB ?aS ?aL ?_; (case aP => exact rfl); (case aF => exact (fun _ _ => trivial)); (case aO => exact HRk.out); (case aB => exact HBn.out.1); (case aS => exact HBn.out.1.size); (case aL => (have h1 := List.length_take_le' m.toNat x.f6; have h2 := HT8.out; have h3 : (eight x).length = 8 := rfl; rw [List.length_append, List.length_map, h3]; omega)); intro v1 w4 ho hb hg hat; have HN := Aside0.mk (And.intro ho (And.intro hb (blk_grown HBn.out.2 hg (Kd.R_ne HRk.out HBn.out.2 (by decide))))); clear ho hb hg hat))
          go_roundg k1_
          case measure => omega
          case rel =>
            have hm := HTG.out.1
            have ht := HT8.out
            have h0 := HM.out.1
            refine ⟨m + 1, congrArg (Value.int .i64) (w64 (by omega) (by omega)), ⟨by omega, by omega, by have := HM.out.2.2.1; omega, ?_, HN.out.2.1, HN.out.2.2⟩⟩
            have e : (m + 1).toNat = m.toNat + 1 := by omega
            rw [e, HTG.out.2.2, List.map_append, ← List.append_assoc]
            exact HN.out.1
        · have hdm : decide (m < (x.f6.length : Int)) = false := decide_eq_false hm
          have he : m.toNat = x.f6.length := by have := HM.out.2.1; have := HM.out.1; omega
          have hR := HM.out.2.2.2.1
          rw [he, List.take_length] at hR
          obtain ⟨g9, c9, hv9, hc9, hg9, hcl⟩ := row_head (ts := parts x) hR (parts_ne x)
          subst hv9
          obtain ⟨n9, hn9⟩ : ∃ n9, (parts x).length = n9 := ⟨_, rfl⟩
          have hn16 := (parts_len HX.out.2.1).1
          rw [hn9] at hn16 hc9
          rw [hn9]
          obtain ⟨w6, hw6⟩ : ∃ w6, w6 = wr := ⟨_, rfl⟩
          subst hw6
          have HR := Aside0.mk (And.intro hcl (And.intro hn9 (And.intro hn16 hg9)))
          clear hm he hR hcl hc9 hg9 hn9 hn16
          go_wp2_with fail
          go_loopg [10, 11] n9 (fun kq v10 v11 W => ∃ i : Int, v11 = .int .i64 i ∧ Aside0 (0 ≤ i ∧ i ≤ n9 ∧ n9 ≤ i + kq ∧ Rb W w6.heap.size v10 (jnL ((parts x).take i.toNat)) ∧ Below w6.heap.size w6 W))
          case atStart => exact ⟨0, rfl, ⟨by omega, by omega, by omega, Kd.R_nil _ _ _ _ _, Below.refl _ _⟩⟩
          case round =>
            obtain ⟨i, rfl, HI⟩ := hrel
            by_cases hi : i < n9
            · obtain ⟨tt, htt⟩ : ∃ tt, (parts x)[i.toNat]? = some tt := ⟨_, List.getElem?_eq_getElem (by have := HI.out.1; have := HR.out.2.1; omega)⟩
              have hst : (parts x).take (i.toNat + 1) = (parts x).take i.toNat ++ [tt] := by rw [List.take_add_one, htt]; rfl
              have cx6 := HR.out.1 i.toNat tt htt
              rw [Nat.zero_add] at cx6
              have cx := pw_cell_below HI.out.2.2.2.2 cx6
              have htm : tt ∈ parts x := List.mem_of_getElem? htt
              have hsz := part_size HX.out.1 HX.out.2.1 tt htm
              have hjl := jnL_len ((parts x).take i.toNat) 2097152 (fun t ht => part_size HX.out.1 HX.out.2.1 t (List.mem_of_mem_take ht))
              have hj16 : (jnL ((parts x).take i.toNat)).length ≤ 33554448 := by
                have h2 : ((parts x).take i.toNat).length * (2097152 + 1) ≤ 16 * (2097152 + 1) := Nat.mul_le_mul_right _ (by rw [List.length_take]; have := HR.out.2.1; have := HR.out.2.2.1; omega)
                omega
              have HLE := Aside0.mk (show ((jnL ((parts x).take i.toNat)).length + 1) * 1 ≤ 140737488355328 ∧ (jnL ((parts x).take i.toNat)).length + tt.size ≤ 140737488355328 ∧ (jnL ((parts x).take i.toNat) ++ [9]).length + tt.size ≤ 140737488355328 by rw [List.length_append, List.length_singleton]; omega)
              have HT := Aside0.mk (And.intro hi (And.intro hst htm))
              have HCX := Aside0.mk cx6
              clear cx6
              have p1 := eq_true HI.out.1
              have q1 := eq_true hi
              have hd := decide_eq_true hi
              obtain ⟨k1_, rfl⟩ : ∃ k1, gk = k1 + 1 := ⟨gk - 1, by have := HI.out.2.2.1; omega⟩
              by_cases hz : 0 < i
              · have hz1 : decide (0 < i) = true := decide_eq_true hz
                have HZ := Aside0.mk hz
                clear hi htt hst htm hsz hjl hj16 hz
                go_wp2_with (first | ((with_reducible refine gate_builtin (b := .append) (xs := #[.tmp 69, .tmp 70]) rfl ?_); at_builtin; refine Kd.R_append (Kd.int .u8) (w0 := w6) w6.heap.size rfl (.tmp 69) (.tmp 70) 50 5 (.int .u8 0) 1 rfl Tryz.underlying50 info5 rfl (by decide) (by omega) u10 (jnL ((parts x).take i.toNat)) 9 [.int .u8 9] (fun k => w6.heap.size ≤ k) (fun _ => False) rfl rfl ?aP (fun _ hk => hk.elim) ?aF ?aO ?aB ?aS ?aL ?_; (case aP => exact rfl); (case aF => exact (fun k hk => Nat.le_trans HI.out.2.2.2.2.size hk)); (case aO => exact HI.out.2.2.2.1); (case aB => exact HI.out.2.2.2.2); (case aS => exact HI.out.2.2.2.2.size); (case aL => exact HLE.out.1); intro v3 w8 ho hb hg hat; have HN3 := Aside0.mk (And.intro ho hb); have cx2 := pw_cell_below hb HCX.out; clear cx ho hb hg hat) | ((with_reducible refine gate_builtin (b := .append) (xs := #[.tmp 72, .tmp 76]) rfl ?_); at_builtin; refine print_append_str (w0 := w6) w6.heap.size rfl (.tmp 72) (.tmp 76) 50 9 5 rfl Tryz.underlying50 Tryz.underlying9 info5 v3 (jnL ((parts x).take i.toNat) ++ [9]) tt rfl rfl ?aO ?aB ?aS ?aL ?_; (case aO => exact Kd.own_of_R HN3.out.1); (case aB => exact HN3.out.2); (case aS => exact (HN3.out.2).size); (case aL => exact HLE.out.2.2); intro v4 w9 ho hb hg; have HN4 := Aside0.mk (And.intro (show Rb w9 w6.heap.size v4 ((jnL ((parts x).take i.toNat) ++ [9]) ++ bytesOf tt) from Kd.R_of_own ho (fun k hk => own_base ho k hk)) hb); clear ho hb hg))
                go_roundg k1_
                case measure => omega
                case rel =>
                  have h1 := HT.out.1
                  have h2 := HR.out.2.2.1
                  have h3 := HI.out.1
                  refine ⟨i + 1, congrArg (Value.int .i64) (w64 (by omega) (by omega)), ⟨by omega, by omega, by have := HI.out.2.2.1; omega, ?_, HN4.out.2⟩⟩
                  have e : (i + 1).toNat = i.toNat + 1 := by omega
                  rw [e, HT.out.2.1, jnL_snoc, if_neg (take_ne (by have := HZ.out; omega) (by have := HR.out.2.1; have := HT.out.1; have := HI.out.1; omega))]
                  exact HN4.out.1
              · have hz1 : decide (0 < i) = false := decide_eq_false hz
                have HZ := Aside0.mk hz
                clear hi htt hst htm hsz hjl hj16 hz
                go_wp2_with (first | ((with_reducible refine gate_builtin (b := .append) (xs := #[.tmp 72, .tmp 76]) rfl ?_); at_builtin; refine print_append_str (w0 := w6) w6.heap.size rfl (.tmp 72) (.tmp 76) 50 9 5 rfl Tryz.underlying50 Tryz.underlying9 info5 u10 (jnL ((parts x).take i.toNat)) tt rfl rfl ?aO ?aB ?aS ?aL ?_; (case aO => exact Kd.own_of_R HI.out.2.2.2.1); (case aB => exact HI.out.2.2.2.2); (case aS => exact (HI.out.2.2.2.2).size); (case aL => exact HLE.out.2.1); intro v4 w9 ho hb hg; have HN4 := Aside0.mk (And.intro (show Rb w9 w6.heap.size v4 ((jnL ((parts x).take i.toNat)) ++ bytesOf tt) from Kd.R_of_own ho (fun k hk => own_base ho k hk)) hb); clear ho hb hg))
                go_roundg k1_
                case measure => omega
                case rel =>
                  have h1 := HT.out.1
                  have h2 := HR.out.2.2.1
                  have h3 := HI.out.1
                  refine ⟨i + 1, congrArg (Value.int .i64) (w64 (by omega) (by omega)), ⟨by omega, by omega, by have := HI.out.2.2.1; omega, ?_, HN4.out.2⟩⟩
                  have e : (i + 1).toNat = i.toNat + 1 := by omega
                  rw [e, HT.out.2.1, jnL_snoc, if_pos (by have h5 := HI.out.1; have := HZ.out; rw [show i.toNat = 0 by omega]; rfl), List.append_nil]
                  exact HN4.out.1
            · have hd : decide (i < (n9 : Int)) = false := decide_eq_false hi
              have he : i.toNat = n9 := by have := HI.out.1; have := HI.out.2.1; omega
              have hO := HI.out.2.2.2.1
              rw [he, ← HR.out.2.1, List.take_length] at hO
              have HO := Aside0.mk hO
              clear hi he hO
              go_wp2_with (first | ((with_reducible refine gate_builtin (b := .append) (xs := #[.tmp 78, .tmp 79]) rfl ?_); at_builtin; refine Kd.R_append (Kd.int .u8) (w0 := w6) w6.heap.size rfl (.tmp 78) (.tmp 79) 50 5 (.int .u8 0) 1 rfl Tryz.underlying50 info5 rfl (by decide) (by omega) u10 (jnL (parts x)) 10 [.int .u8 10] (fun k => w6.heap.size ≤ k) (fun _ => False) rfl rfl ?aP (fun _ hk => hk.elim) ?aF ?aO ?aB ?aS ?aL ?_; (case aP => exact rfl); (case aF => exact (fun k hk => Nat.le_trans HI.out.2.2.2.2.size hk)); (case aO => exact HO.out); (case aB => exact HI.out.2.2.2.2); (case aS => exact HI.out.2.2.2.2.size); (case aL => (have := line_len HX.out.1 HX.out.2.1; omega)); intro v3 w8 ho hb hg hat; obtain ⟨A2, c2, hv, _, hC2⟩ := Kd.R_reads ho; subst hv; have hcv := Kd.C_string (P := Tryz.prog) (c := c2) (src := 50) (dst := 9) (e := 5) Tryz.underlying50 Tryz.underlying5 Tryz.underlying9 hC2; obtain ⟨N6, hN6⟩ : ∃ N, (jnL (parts x) ++ [10]).length = N := ⟨_, rfl⟩; rw [hN6] at hcv; rw [hN6]; have HN3 := Aside0.mk hb; clear ho hb hg hat hC2 hN6))
              go_ret
              exact ⟨rfl, below_then HBm.out HBm.out.size HN3.out⟩
end Go.Proofs.YthbdjmopolpjmaaGreatDoor.C
end
section
set_option linter.unusedVariables false
set_option linter.unusedSimpArgs false
namespace Go.Proofs.YthbdjmopolpjmaaGreatDoor.C
open Go.RowKit Go.Proofs.YthbdjmopolpjmaaGreatDoorW.PrintWords Go.Proofs.YthbdjmopolpjmaaGreatDoorW.PrintLast Go.Proofs.YthbdjmopolpjmaaGreatDoorW.PrintMore Go.Proofs.YthbdjmopolpjmaaGreatDoor.F Go.Proofs.YthbdjmopolpjmaaGreatDoor.M
attribute [local go_sem] max2_int min2_int max_two min_two max_three min_three max_four min_four
set_option maxRecDepth 100000 in
set_option maxHeartbeats 16000000 in
theorem refPrints_call (A : Option Addr) (c : Nat) (l : List S41) (w : World) (hC : Kd.C k41 w A l.length l) (hc : l.length ≤ c) (hl : l.length ≤ 1048576) (hs : ∀ x ∈ l, Small x) (hp : Pow w) :
    Calls Tryz.prog 9 #[.slice A l.length c] w fun e w' => e = .returned (prtV l) ∧ Below w.heap.size w w' := by
  have HC := Aside0.mk (And.intro hC (And.intro hc (And.intro hl hs)))
  have HG := Aside0.mk hp
  have hlm := eq_true (show l.length ≤ 9223372036854775807 by omega)
  clear hC hc hl hs hp
  go_enter Tryz.func9, Tryz.ntmps9
  go_wp2_with fail
  go_loopg [5] l.length (fun kq v5 W => ∃ i : Int, v5 = .int .i64 i ∧ Aside0 (0 ≤ i ∧ i ≤ l.length ∧ l.length ≤ i + kq ∧ (∀ j : Nat, (j : Int) < i → canI (rd_T41 l (j : Int)) = 0) ∧ Below w.heap.size w W))
  case atStart => exact ⟨0, rfl, ⟨by omega, by omega, by omega, fun j hj => by omega, Below.refl _ _⟩⟩
  case round =>
    obtain ⟨i, rfl, HJ⟩ := hrel
    have HBw := Aside0.mk HJ.out.2.2.2.2
    by_cases hi : i < l.length
    · have p0 := HJ.out.1
      have q0 := hi
      obtain ⟨ad, A8, c8, e, hx0, hx1, hx2, hx3, hx4, hx5, hx6, hx7, hx8, hx9, hx10, hl8, hi8⟩ := at_T41 HC.out.1 i p0 q0
      cases e
      replace hx0 := pw_cell_below HBw.out hx0
      replace hx1 := pw_cell_below HBw.out hx1
      replace hx2 := pw_cell_below HBw.out hx2
      replace hx3 := pw_cell_below HBw.out hx3
      replace hx4 := pw_cell_below HBw.out hx4
      replace hx5 := pw_cell_below HBw.out hx5
      replace hx6 := pw_cell_below HBw.out hx6
      replace hx7 := pw_cell_below HBw.out hx7
      replace hx8 := pw_cell_below HBw.out hx8
      replace hx9 := pw_cell_below HBw.out hx9
      replace hx10 := pw_cell_below HBw.out hx10
      have HI := Aside0.mk hi
      clear hi hl8 hi8
      have hd := decide_eq_true q0
      replace p0 := eq_true p0
      replace q0 := eq_true q0
      go_wp2_with fail
      refine (can_call (rd_T41 l i) A8 c8 _).mono ?_
      rintro e w1 ⟨rfl, hb⟩
      have HB1 := Aside0.mk (below_then HBw.out HBw.out.size hb)
      clear hb hx0 hx1 hx2 hx3 hx4 hx5 hx6 hx7 hx8 hx9 hx10
      obtain ⟨cn, hcn⟩ : ∃ cn, canI (rd_T41 l i) = cn := ⟨_, rfl⟩
      rw [hcn]
      by_cases hcan : cn = 0
      · subst hcan
        have HCN := Aside0.mk hcn
        clear hcn
        obtain ⟨k1, rfl⟩ : ∃ k1, gk = k1 + 1 := ⟨gk - 1, by have := HJ.out.2.2.1; have := HI.out; omega⟩
        go_wp2_with fail
        go_roundg k1
        case measure => omega
        case rel =>
          have := HI.out
          have := HC.out.2.2.1
          have := HJ.out.1
          refine ⟨i + 1, congrArg (Value.int .i64) (w64 (by omega) (by omega)), ⟨by omega, by omega, by have := HJ.out.2.2.1; omega, fun j hj => ?_, HB1.out⟩⟩
          by_cases hji : (j : Int) = i
          · rw [hji]; exact HCN.out
          · exact HJ.out.2.2.2.1 j (by omega)
      · have HCN := Aside0.mk (And.intro hcn hcan)
        have hne : (cn != 0) = true := bne_iff_ne.mpr hcan
        clear hcan hcn
        go_wp2_with fail
        go_ret3
        refine ⟨?_, HB1.out⟩
        obtain ⟨j, rfl⟩ : ∃ j : Nat, i = (j : Int) := ⟨i.toNat, by have := HJ.out.1; omega⟩
        unfold prtV
        rw [prt_bad (j := j) (by have := HI.out; omega) (fun k hk => HJ.out.2.2.2.1 k (by omega)) (by rw [HCN.out.1]; exact HCN.out.2), HCN.out.1]
        rfl
    · have hd : decide (i < (l.length : Int)) = false := decide_eq_false hi
      have he : i = l.length := by have := HJ.out.2.1; omega
      have HOK := Aside0.mk (show ∀ k : Nat, k < l.length → canI (rd_T41 l (k : Int)) = 0 from fun k hk => HJ.out.2.2.2.1 k (by omega))
      clear hi he
      by_cases hm : 4096 < l.length
      · have hm1 : decide (4096 < l.length) = true := decide_eq_true hm
        have hm2 : decide ((4096 : Int) < (l.length : Int)) = true := decide_eq_true (by omega)
        have HM := Aside0.mk hm
        clear hm
        go_wp2_with fail
        go_ret3
        refine ⟨?_, HBw.out⟩
        unfold prtV
        rw [prt_many HOK.out HM.out]
        rfl
      · have hm1 : decide (4096 < l.length) = false := decide_eq_false hm
        have hm2 : decide ((4096 : Int) < (l.length : Int)) = false := decide_eq_false (by omega)
        have HM0 := Aside0.mk hm
        clear hm HJ
        obtain ⟨wa, hwa⟩ : ∃ wa, wa = wr := ⟨_, rfl⟩
        subst hwa
        go_wp2_with fail
        go_loopg [7, 8] l.length (fun kq v7 v8 W => ∃ i : Int, v8 = .int .i64 i ∧ Aside0 (0 ≤ i ∧ i ≤ l.length ∧ l.length ≤ i + kq ∧ Rb W w.heap.size v7 (lines (l.take i.toNat)) ∧ (lines (l.take i.toNat)).length ≤ 65536 ∧ Below w.heap.size w W))
        case atStart => exact ⟨0, rfl, ⟨by omega, by omega, by omega, Kd.R_nil _ _ _ _ _, by simp [lines], HBw.out⟩⟩
        case round =>
          clear HBw
          obtain ⟨i, rfl, HJ⟩ := hrel
          have HBw := Aside0.mk HJ.out.2.2.2.2.2
          by_cases hi : i < l.length
          · have p0 := HJ.out.1
            have q0 := hi
            obtain ⟨ad, A8, c8, e, hx0, hx1, hx2, hx3, hx4, hx5, hx6, hx7, hx8, hx9, hx10, hl8, hi8⟩ := at_T41 HC.out.1 i p0 q0
            cases e
            replace hx0 := pw_cell_below HBw.out hx0
            replace hx1 := pw_cell_below HBw.out hx1
            replace hx2 := pw_cell_below HBw.out hx2
            replace hx3 := pw_cell_below HBw.out hx3
            replace hx4 := pw_cell_below HBw.out hx4
            replace hx5 := pw_cell_below HBw.out hx5
            replace hx6 := pw_cell_below HBw.out hx6
            replace hx7 := pw_cell_below HBw.out hx7
            replace hx8 := pw_cell_below HBw.out hx8
            replace hx9 := pw_cell_below HBw.out hx9
            replace hx10 := pw_cell_below HBw.out hx10
            have HI := Aside0.mk (And.intro hi (And.intro hl8 hi8))
            clear hi hl8 hi8
            have hd := decide_eq_true q0
            replace p0 := eq_true p0
            replace q0 := eq_true q0
            obtain ⟨k1, rfl⟩ : ∃ k1, gk = k1 + 1 := ⟨gk - 1, by have := HJ.out.2.2.1; have := HI.out.1; omega⟩
            have HX := Aside0.mk (And.intro (HC.out.2.2.2 _ (rd_mem HJ.out.1 HI.out.1)) (show canI (rd_T41 l i) = 0 from by have h0 := HJ.out.1; have h1 := HOK.out i.toNat (by have := HI.out.1; omega); rwa [Int.toNat_of_nonneg h0] at h1))
            go_wp2_with fail
            refine (row_call (rd_T41 l i) A8 c8 _ HX.out.1 HX.out.2 (Kd.C_below HI.out.2.2 HBw.out) (HG.out.below HBw.out)).mono ?_
            rintro e w3 ⟨rfl, hb⟩
            have HOo := Aside0.mk (Kd.own_of_R (Kd.R_below HJ.out.2.2.2.1 hb))
            have HB3 := Aside0.mk (below_then HBw.out HBw.out.size hb)
            obtain ⟨ln, hln⟩ : ∃ ln, strOfNums (line (rd_T41 l i)) = ln := ⟨_, rfl⟩
            have hlb : bytesOf ln = line (rd_T41 l i) := by rw [← hln]; exact bytesOf_strOfNums _ (bts_line _)
            have hls : ln.size ≤ 33554449 := by
              rw [← bytesOf_length, hlb]
              unfold line
              rw [List.length_append]
              have := line_len HX.out.1 HX.out.2
              simp
              omega
            rw [hln]
            have HLn := Aside0.mk (And.intro hlb hls)
            clear hb hx0 hx1 hx2 hx3 hx4 hx5 hx6 hx7 hx8 hx9 hx10 hln hlb hls
            go_upto_region 14 with (first | ((with_reducible refine gate_builtin (b := .append) (xs := #[.tmp 33, .tmp 38]) rfl ?_); at_builtin; refine print_append_str (w0 := w) w.heap.size rfl (.tmp 33) (.tmp 38) 50 9 5 rfl Tryz.underlying50 Tryz.underlying9 info5 u7 (lines (l.take i.toNat)) ln rfl rfl ?aO ?aB ?aS ?aL ?_; (case aO => exact HOo.out); (case aB => exact HB3.out); (case aS => exact HB3.out.size); (case aL => (have := HJ.out.2.2.2.2.1; have := HLn.out.2; omega)); intro v1 w4 ho hb hg; rw [HLn.out.1] at ho; obtain ⟨N5, hN5⟩ : ∃ N, (lines (l.take i.toNat) ++ line (rd_T41 l i)).length = N := ⟨_, rfl⟩; obtain ⟨A2, c2, hv⟩ := own_slice ho; rw [hN5] at hv; subst hv; have HN2 := Aside0.mk (And.intro (show Rb w4 w.heap.size (.slice A2 N5 c2) (lines (l.take i.toNat) ++ line (rd_T41 l i)) from Kd.R_of_own ho (fun k hk => own_base ho k hk)) (And.intro hb hN5)); clear ho hb hg hN5))
            have hline : lines (l.take i.toNat) ++ line (rd_T41 l i) = lines (l.take (i.toNat + 1)) := by
              have h0 := HJ.out.1
              have h1 := HI.out.1
              rw [lines_take l i.toNat (by omega), ← rd_get (by omega), Int.toNat_of_nonneg h0]
            have HL := Aside0.mk hline
            clear hline
            by_cases h5 : 65536 < N5
            · have h51 : decide (65536 < N5) = true := decide_eq_true h5
              have h52 : decide ((65536 : Int) < (N5 : Int)) = true := decide_eq_true (by omega)
              have H5 := Aside0.mk h5
              clear h5
              go_wp2_with fail
              go_ret3
              refine ⟨?_, HN2.out.2.1⟩
              unfold prtV
              rw [prt_long HOK.out HM0.out (i.toNat + 1) (by have h6 := HN2.out.2.2; rw [HL.out] at h6; rw [h6]; exact H5.out)]
              rfl
            · have h51 : decide (65536 < N5) = false := decide_eq_false h5
              have h52 : decide ((65536 : Int) < (N5 : Int)) = false := decide_eq_false (by omega)
              have H5 := Aside0.mk h5
              clear h5
              go_wp2_with fail
              go_roundg k1
              case measure => omega
              case rel =>
                have h0 := HJ.out.1
                have h1 := HI.out.1
                have h2 := HC.out.2.2.1
                have e : (i + 1).toNat = i.toNat + 1 := by omega
                have h6 := HN2.out.2.2
                have h7 := HN2.out.1
                rw [HL.out] at h6 h7
                refine ⟨i + 1, congrArg (Value.int .i64) (w64 (by omega) (by omega)), ⟨by omega, by omega, by have := HJ.out.2.2.1; omega, ?_, ?_, HN2.out.2.1⟩⟩
                · rw [e, ← h6]; rw [← h6] at h7; exact h7
                · rw [e, h6]; have := H5.out; omega
          · have hd : decide (i < (l.length : Int)) = false := decide_eq_false hi
            have he : i.toNat = l.length := by have := HJ.out.2.1; have := HJ.out.1; omega
            have hO := HJ.out.2.2.2.1
            have hO2 := HJ.out.2.2.2.2.1
            rw [he, List.take_length] at hO hO2
            obtain ⟨A2, c2, hv, _, hC2⟩ := Kd.R_reads hO
            subst hv
            have hcv := Kd.C_string (P := Tryz.prog) (c := c2) (src := 50) (dst := 9) (e := 5) Tryz.underlying50 Tryz.underlying5 Tryz.underlying9 hC2
            obtain ⟨N6, hN6⟩ : ∃ N, (lines l).length = N := ⟨_, rfl⟩
            rw [hN6] at hcv
            rw [hN6]
            have HO := Aside0.mk hO2
            clear hi he hO hO2 hC2 hN6
            go_wp2_with fail
            go_ret3
            refine ⟨?_, HBw.out⟩
            unfold prtV
            rw [prt_ok HOK.out HM0.out (by have := HO.out; omega)]
            rfl
end Go.Proofs.YthbdjmopolpjmaaGreatDoor.C
end
section
namespace Go.Proofs.YthbdjmopolpjmaaGreatDoor.F
open Go.RowKit Go.Proofs.YthbdjmopolpjmaaGreatDoorW.PrintWords Go.Proofs.YthbdjmopolpjmaaGreatDoorW.PrintLast Go.Proofs.YthbdjmopolpjmaaGreatDoorW.PrintMore
attribute [local go_sem] max2_int min2_int max_two min_two max_three min_three max_four min_four
set_option linter.unusedVariables false
set_option linter.unusedSimpArgs false
theorem eqA39 (d : Nat) (w : World) (x0 y0 : ByteArray) (x1 y1 : ByteArray) :
    (Op.equalIn (d + 2) 39 (.agg #[.string x0, .string x1]) (.agg #[.string y0, .string y1])).run Tryz.prog w = .ok (x0.toList == y0.toList && (x1.toList == y1.toList)) w := by
  refine eqA_of Tryz.underlying39 (by kernel_rfl) ?_
  refine eqf_cons (by rfl) (by go_simp; rfl) (by go_simp; rfl) (by go_simp) ?_
  exact eqf_last (by rfl) (by go_simp; rfl) (by go_simp; rfl) (by go_simp)
end Go.Proofs.YthbdjmopolpjmaaGreatDoor.F
end
section
namespace Go.Proofs.YthbdjmopolpjmaaGreatDoor.F
open Go.RowKit Go.Proofs.YthbdjmopolpjmaaGreatDoorW.PrintWords Go.Proofs.YthbdjmopolpjmaaGreatDoorW.PrintLast Go.Proofs.YthbdjmopolpjmaaGreatDoorW.PrintMore
attribute [local go_sem] max2_int min2_int max_two min_two max_three min_three max_four min_four
set_option linter.unusedVariables false
set_option linter.unusedSimpArgs false
def cubitref29_texts.l0 : Nat → List ByteArray → List ByteArray → Int → Option (Bool)
  | 0, _, _, _ => none
  | k + 1, x0, x1, x5 => if x5 < (x0.length : Int) then (if 0 ≤ x5 then (if x5 < (x1.length : Int) then (if (rdOf ByteArray.empty x0 x5).toList = (rdOf ByteArray.empty x1 x5).toList then (cubitref29_texts.l0 k x0 x1 (wrap64 (x5 + 1))) else (some false)) else (none)) else (none)) else (some true)
def cubitref29_texts.f (k : Nat) (l0 : List ByteArray) (l1 : List ByteArray) : Option (Bool) := if (l0.length : Int) = (l1.length : Int) then (cubitref29_texts.l0 k l0 l1 0) else (some false)
theorem cubitref29_texts.mono_l : ∀ k, (∀ y0 y1 y2, LeO (cubitref29_texts.l0 k y0 y1 y2) (cubitref29_texts.l0 (k + 1) y0 y1 y2))
  | 0 => fun _ _ _ r h => by simp [cubitref29_texts.l0] at h
  | k + 1 => by
    have ih0 := cubitref29_texts.mono_l k
    · intro y0 y1 y2
      unfold cubitref29_texts.l0
      repeat' first
      | (with_reducible exact ih0 _ _ _)
      | (with_reducible exact LeO.refl _)
      | (with_reducible exact LeO.none _)
      | (with_reducible refine LeO.ite ?_ ?_)
      | (with_reducible refine LeO.bind ?_ (fun _ => ?_))
      | exact ih0 _ _ _
      | exact LeO.none _
      | refine LeO.ite ?_ ?_
      | refine LeO.bind ?_ (fun _ => ?_)
theorem cubitref29_texts.mono : ∀ a0 a1 k, LeO (cubitref29_texts.f k a0 a1) (cubitref29_texts.f (k + 1) a0 a1) := by
  intro a0 a1 k
  have ih0 := cubitref29_texts.mono_l k
  unfold cubitref29_texts.f
  repeat' first
      | (with_reducible exact ih0 _ _ _)
      | (with_reducible exact LeO.refl _)
      | (with_reducible exact LeO.none _)
      | (with_reducible refine LeO.ite ?_ ?_)
      | (with_reducible refine LeO.bind ?_ (fun _ => ?_))
      | exact ih0 _ _ _
      | exact LeO.none _
      | refine LeO.ite ?_ ?_
      | refine LeO.bind ?_ (fun _ => ?_)
set_option maxHeartbeats 8000000 in
set_option maxRecDepth 100000 in
theorem cubitref29_texts.calls (k : Nat) (A0 : Option Addr) (c0 : Nat) (l0 : List ByteArray) (A1 : Option Addr) (c1 : Nat) (l1 : List ByteArray) (r : Bool) (w : World) (hr0 : Kd.C Kd.string w A0 l0.length l0) (hc0 : l0.length ≤ c0) (hr1 : Kd.C Kd.string w A1 l1.length l1) (hc1 : l1.length ≤ c1) (h : cubitref29_texts.f k l0 l1 = some r) :
    Calls Tryz.prog 65 #[.slice A0 l0.length c0, .slice A1 l1.length c1] w fun e w' => e = .returned (.bool r) ∧ Drawn0 w w' := by
  have HR0 := Aside0.mk hr0
  have HC0 := Aside0.mk hc0
  clear hr0 hc0
  have HR1 := Aside0.mk hr1
  have HC1 := Aside0.mk hc1
  clear hr1 hc1
  have H : (if (l0.length : Int) = (l1.length : Int) then (cubitref29_texts.l0 k l0 l1 0) else (some false)) = some r := h
  clear h
  by_cases c3 : (l0.length : Int) = (l1.length : Int)
  · rw [if_pos c3] at H
    have c3b0 : ((l0.length : Int) == (l1.length : Int)) = true := beq_iff_eq.mpr c3
    have c3b1 : ((l0.length : Int) != (l1.length : Int)) = false := bne_eq_false_iff_eq.mpr c3
    have c3b2 : (l0.length == l1.length) = true := by first | simpa using c3 | (simp at c3 ⊢; omega)
    clear c3
    have H' := Aside0.mk H
    clear H
    go_enter Tryz.func65, Tryz.ntmps65
    go_wp2
    repeat (go_quiet (fail); try go_wp2)
    go_loopg [5] k (fun kq v5 w' => ∃ (x5_1 : Int), v5 = .int .i64 x5_1 ∧ Aside0 (cubitref29_texts.l0 kq l0 l1 x5_1 = some r) ∧ Aside0 (kq ≤ k) ∧ Drawn0 w w')
    case atStart => exact ⟨(0), (by first | rfl | (simp; done) | (simp [*]; done)), H', ⟨Nat.le_refl _⟩, by repeat (first | exact Drawn0.refl _ | apply Drawn0.step)⟩
    case round =>
      clear H'
      try clear c1
      try clear p2
      try clear c3
      try clear c3b0
      try clear c3b1
      try clear c3b2
      obtain ⟨x5_1, rfl, HA, HK1, ⟨m1, rfl⟩⟩ := hrel
      cases gk with
      | zero => exact absurd HA.out (by simp [cubitref29_texts.l0])
      | succ k1 =>
        have H := HA.out
        clear HA
        simp only [cubitref29_texts.l0] at H
        by_cases c4 : x5_1 < (l0.length : Int)
        · rw [if_pos c4] at H
          have c4b0 : decide (x5_1 < (l0.length : Int)) = true := decide_eq_true c4
          clear c4
          by_cases c5 : 0 ≤ x5_1
          · rw [if_pos c5] at H
            have c5b0 : decide (0 ≤ x5_1) = true := decide_eq_true c5
            clear c5
            by_cases c6 : x5_1 < (l1.length : Int)
            · rw [if_pos c6] at H
              have c6b0 : decide (x5_1 < (l1.length : Int)) = true := decide_eq_true c6
              clear c6
              by_cases c7 : (rdOf ByteArray.empty l0 x5_1).toList = (rdOf ByteArray.empty l1 x5_1).toList
              · rw [if_pos c7] at H
                have c7b0 : ((rdOf ByteArray.empty l0 x5_1).toList == (rdOf ByteArray.empty l1 x5_1).toList) = true := beq_iff_eq.mpr c7
                have c7b1 : ((rdOf ByteArray.empty l0 x5_1).toList != (rdOf ByteArray.empty l1 x5_1).toList) = false := bne_eq_false_iff_eq.mpr c7
                clear c7
                have H' := Aside0.mk H
                clear H
                have p302 : 0 ≤ (x5_1 : Int) := of_decide_eq_true (by first | (with_reducible assumption) | assumption)
                have q302 : x5_1 < (l0.length : Int) := of_decide_eq_true (by first | (with_reducible assumption) | assumption)
                obtain ⟨ad302, e302, hx302_0⟩ := Kd.at_string HR0.out x5_1 p302 q302
                cases e302
                replace p302 := eq_true p302
                replace q302 := eq_true q302
                have p303 : 0 ≤ (x5_1 : Int) := of_decide_eq_true (by first | (with_reducible assumption) | assumption)
                have q303 : x5_1 < (l1.length : Int) := of_decide_eq_true (by first | (with_reducible assumption) | assumption)
                obtain ⟨ad303, e303, hx303_0⟩ := Kd.at_string HR1.out x5_1 p303 q303
                cases e303
                replace p303 := eq_true p303
                replace q303 := eq_true q303
                go_wp2
                repeat (go_quiet (fail); try go_wp2)
                go_roundg k1
                case measure => have := HK1.out; omega
                case rel => exact ⟨(wrap64 (x5_1 + 1)), (by first | rfl | (simp; done) | (simp [*]; done)), H', ⟨by have := HK1.out; omega⟩, by repeat (first | exact Drawn0.refl _ | apply Drawn0.step)⟩
              · rw [if_neg c7] at H
                have c7b0 : ((rdOf ByteArray.empty l0 x5_1).toList == (rdOf ByteArray.empty l1 x5_1).toList) = false := beq_eq_false_iff_ne.mpr c7
                have c7b1 : ((rdOf ByteArray.empty l0 x5_1).toList != (rdOf ByteArray.empty l1 x5_1).toList) = true := bne_iff_ne.mpr c7
                obtain rfl := Option.some.inj H
                have p302 : 0 ≤ (x5_1 : Int) := of_decide_eq_true (by first | (with_reducible assumption) | assumption)
                have q302 : x5_1 < (l0.length : Int) := of_decide_eq_true (by first | (with_reducible assumption) | assumption)
                obtain ⟨ad302, e302, hx302_0⟩ := Kd.at_string HR0.out x5_1 p302 q302
                cases e302
                replace p302 := eq_true p302
                replace q302 := eq_true q302
                have p303 : 0 ≤ (x5_1 : Int) := of_decide_eq_true (by first | (with_reducible assumption) | assumption)
                have q303 : x5_1 < (l1.length : Int) := of_decide_eq_true (by first | (with_reducible assumption) | assumption)
                obtain ⟨ad303, e303, hx303_0⟩ := Kd.at_string HR1.out x5_1 p303 q303
                cases e303
                replace p303 := eq_true p303
                replace q303 := eq_true q303
                go_wp2
                repeat (go_quiet (fail); try go_wp2)
                go_ret
                exact ⟨by first | rfl | (simp; done) | (simp [*]; done), by repeat (first | exact Drawn0.refl _ | apply Drawn0.step)⟩
            · rw [if_neg c6] at H
              exact absurd H (by simp)
          · rw [if_neg c5] at H
            exact absurd H (by simp)
        · rw [if_neg c4] at H
          have c4b0 : decide (x5_1 < (l0.length : Int)) = false := decide_eq_false c4
          clear c4
          obtain rfl := Option.some.inj H
          go_wp2
          repeat (go_quiet (fail); try go_wp2)
          go_ret
          exact ⟨by first | rfl | (simp; done) | (simp [*]; done), by repeat (first | exact Drawn0.refl _ | apply Drawn0.step)⟩
  · rw [if_neg c3] at H
    have c3b0 : ((l0.length : Int) == (l1.length : Int)) = false := beq_eq_false_iff_ne.mpr c3
    have c3b1 : ((l0.length : Int) != (l1.length : Int)) = true := bne_iff_ne.mpr c3
    have c3b2 : (l0.length == l1.length) = false := by first | simpa using c3 | (simp at c3 ⊢; omega)
    obtain rfl := Option.some.inj H
    go_enter Tryz.func65, Tryz.ntmps65
    go_wp2
    repeat (go_quiet (fail); try go_wp2)
    go_ret
    exact ⟨by first | rfl | (simp; done) | (simp [*]; done), by repeat (first | exact Drawn0.refl _ | apply Drawn0.step)⟩
end Go.Proofs.YthbdjmopolpjmaaGreatDoor.F
end
section
namespace Go.Proofs.YthbdjmopolpjmaaGreatDoor.F
open Go.RowKit Go.Proofs.YthbdjmopolpjmaaGreatDoorW.PrintWords Go.Proofs.YthbdjmopolpjmaaGreatDoorW.PrintLast Go.Proofs.YthbdjmopolpjmaaGreatDoorW.PrintMore
attribute [local go_sem] max2_int min2_int max_two min_two max_three min_three max_four min_four
set_option linter.unusedVariables false
set_option linter.unusedSimpArgs false
def cubitref01_SameTexts.l0 : Nat → List ByteArray → List ByteArray → Int → Option (Bool)
  | 0, _, _, _ => none
  | k + 1, x0, x1, x5 => if x5 < (x0.length : Int) then (if 0 ≤ x5 then (if x5 < (x1.length : Int) then (if (rdOf ByteArray.empty x0 x5).toList = (rdOf ByteArray.empty x1 x5).toList then (cubitref01_SameTexts.l0 k x0 x1 (wrap64 (x5 + 1))) else (some false)) else (none)) else (none)) else (some true)
def cubitref01_SameTexts.f (k : Nat) (l0 : List ByteArray) (l1 : List ByteArray) : Option (Bool) := if (l0.length : Int) = (l1.length : Int) then (cubitref01_SameTexts.l0 k l0 l1 0) else (some false)
theorem cubitref01_SameTexts.mono_l : ∀ k, (∀ y0 y1 y2, LeO (cubitref01_SameTexts.l0 k y0 y1 y2) (cubitref01_SameTexts.l0 (k + 1) y0 y1 y2))
  | 0 => fun _ _ _ r h => by simp [cubitref01_SameTexts.l0] at h
  | k + 1 => by
    have ih0 := cubitref01_SameTexts.mono_l k
    · intro y0 y1 y2
      unfold cubitref01_SameTexts.l0
      repeat' first
      | (with_reducible exact ih0 _ _ _)
      | (with_reducible exact LeO.refl _)
      | (with_reducible exact LeO.none _)
      | (with_reducible refine LeO.ite ?_ ?_)
      | (with_reducible refine LeO.bind ?_ (fun _ => ?_))
      | exact ih0 _ _ _
      | exact LeO.none _
      | refine LeO.ite ?_ ?_
      | refine LeO.bind ?_ (fun _ => ?_)
theorem cubitref01_SameTexts.mono : ∀ a0 a1 k, LeO (cubitref01_SameTexts.f k a0 a1) (cubitref01_SameTexts.f (k + 1) a0 a1) := by
  intro a0 a1 k
  have ih0 := cubitref01_SameTexts.mono_l k
  unfold cubitref01_SameTexts.f
  repeat' first
      | (with_reducible exact ih0 _ _ _)
      | (with_reducible exact LeO.refl _)
      | (with_reducible exact LeO.none _)
      | (with_reducible refine LeO.ite ?_ ?_)
      | (with_reducible refine LeO.bind ?_ (fun _ => ?_))
      | exact ih0 _ _ _
      | exact LeO.none _
      | refine LeO.ite ?_ ?_
      | refine LeO.bind ?_ (fun _ => ?_)
set_option maxHeartbeats 8000000 in
set_option maxRecDepth 100000 in
theorem cubitref01_SameTexts.calls (k : Nat) (A0 : Option Addr) (c0 : Nat) (l0 : List ByteArray) (A1 : Option Addr) (c1 : Nat) (l1 : List ByteArray) (r : Bool) (w : World) (hr0 : Kd.C Kd.string w A0 l0.length l0) (hc0 : l0.length ≤ c0) (hr1 : Kd.C Kd.string w A1 l1.length l1) (hc1 : l1.length ≤ c1) (h : cubitref01_SameTexts.f k l0 l1 = some r) :
    Calls Tryz.prog 14 #[.slice A0 l0.length c0, .slice A1 l1.length c1] w fun e w' => e = .returned (.bool r) ∧ Drawn0 w w' := by
  have HR0 := Aside0.mk hr0
  have HC0 := Aside0.mk hc0
  clear hr0 hc0
  have HR1 := Aside0.mk hr1
  have HC1 := Aside0.mk hc1
  clear hr1 hc1
  have H : (if (l0.length : Int) = (l1.length : Int) then (cubitref01_SameTexts.l0 k l0 l1 0) else (some false)) = some r := h
  clear h
  by_cases c3 : (l0.length : Int) = (l1.length : Int)
  · rw [if_pos c3] at H
    have c3b0 : ((l0.length : Int) == (l1.length : Int)) = true := beq_iff_eq.mpr c3
    have c3b1 : ((l0.length : Int) != (l1.length : Int)) = false := bne_eq_false_iff_eq.mpr c3
    have c3b2 : (l0.length == l1.length) = true := by first | simpa using c3 | (simp at c3 ⊢; omega)
    clear c3
    have H' := Aside0.mk H
    clear H
    go_enter Tryz.func14, Tryz.ntmps14
    go_wp2
    repeat (go_quiet (fail); try go_wp2)
    go_loopg [5] k (fun kq v5 w' => ∃ (x5_1 : Int), v5 = .int .i64 x5_1 ∧ Aside0 (cubitref01_SameTexts.l0 kq l0 l1 x5_1 = some r) ∧ Aside0 (kq ≤ k) ∧ Drawn0 w w')
    case atStart => exact ⟨(0), (by first | rfl | (simp; done) | (simp [*]; done)), H', ⟨Nat.le_refl _⟩, by repeat (first | exact Drawn0.refl _ | apply Drawn0.step)⟩
    case round =>
      clear H'
      try clear c1
      try clear p2
      try clear c3
      try clear c3b0
      try clear c3b1
      try clear c3b2
      obtain ⟨x5_1, rfl, HA, HK1, ⟨m1, rfl⟩⟩ := hrel
      cases gk with
      | zero => exact absurd HA.out (by simp [cubitref01_SameTexts.l0])
      | succ k1 =>
        have H := HA.out
        clear HA
        simp only [cubitref01_SameTexts.l0] at H
        by_cases c4 : x5_1 < (l0.length : Int)
        · rw [if_pos c4] at H
          have c4b0 : decide (x5_1 < (l0.length : Int)) = true := decide_eq_true c4
          clear c4
          by_cases c5 : 0 ≤ x5_1
          · rw [if_pos c5] at H
            have c5b0 : decide (0 ≤ x5_1) = true := decide_eq_true c5
            clear c5
            by_cases c6 : x5_1 < (l1.length : Int)
            · rw [if_pos c6] at H
              have c6b0 : decide (x5_1 < (l1.length : Int)) = true := decide_eq_true c6
              clear c6
              by_cases c7 : (rdOf ByteArray.empty l0 x5_1).toList = (rdOf ByteArray.empty l1 x5_1).toList
              · rw [if_pos c7] at H
                have c7b0 : ((rdOf ByteArray.empty l0 x5_1).toList == (rdOf ByteArray.empty l1 x5_1).toList) = true := beq_iff_eq.mpr c7
                have c7b1 : ((rdOf ByteArray.empty l0 x5_1).toList != (rdOf ByteArray.empty l1 x5_1).toList) = false := bne_eq_false_iff_eq.mpr c7
                clear c7
                have H' := Aside0.mk H
                clear H
                have p341 : 0 ≤ (x5_1 : Int) := of_decide_eq_true (by first | (with_reducible assumption) | assumption)
                have q341 : x5_1 < (l0.length : Int) := of_decide_eq_true (by first | (with_reducible assumption) | assumption)
                obtain ⟨ad341, e341, hx341_0⟩ := Kd.at_string HR0.out x5_1 p341 q341
                cases e341
                replace p341 := eq_true p341
                replace q341 := eq_true q341
                have p342 : 0 ≤ (x5_1 : Int) := of_decide_eq_true (by first | (with_reducible assumption) | assumption)
                have q342 : x5_1 < (l1.length : Int) := of_decide_eq_true (by first | (with_reducible assumption) | assumption)
                obtain ⟨ad342, e342, hx342_0⟩ := Kd.at_string HR1.out x5_1 p342 q342
                cases e342
                replace p342 := eq_true p342
                replace q342 := eq_true q342
                go_wp2
                repeat (go_quiet (fail); try go_wp2)
                go_roundg k1
                case measure => have := HK1.out; omega
                case rel => exact ⟨(wrap64 (x5_1 + 1)), (by first | rfl | (simp; done) | (simp [*]; done)), H', ⟨by have := HK1.out; omega⟩, by repeat (first | exact Drawn0.refl _ | apply Drawn0.step)⟩
              · rw [if_neg c7] at H
                have c7b0 : ((rdOf ByteArray.empty l0 x5_1).toList == (rdOf ByteArray.empty l1 x5_1).toList) = false := beq_eq_false_iff_ne.mpr c7
                have c7b1 : ((rdOf ByteArray.empty l0 x5_1).toList != (rdOf ByteArray.empty l1 x5_1).toList) = true := bne_iff_ne.mpr c7
                obtain rfl := Option.some.inj H
                have p341 : 0 ≤ (x5_1 : Int) := of_decide_eq_true (by first | (with_reducible assumption) | assumption)
                have q341 : x5_1 < (l0.length : Int) := of_decide_eq_true (by first | (with_reducible assumption) | assumption)
                obtain ⟨ad341, e341, hx341_0⟩ := Kd.at_string HR0.out x5_1 p341 q341
                cases e341
                replace p341 := eq_true p341
                replace q341 := eq_true q341
                have p342 : 0 ≤ (x5_1 : Int) := of_decide_eq_true (by first | (with_reducible assumption) | assumption)
                have q342 : x5_1 < (l1.length : Int) := of_decide_eq_true (by first | (with_reducible assumption) | assumption)
                obtain ⟨ad342, e342, hx342_0⟩ := Kd.at_string HR1.out x5_1 p342 q342
                cases e342
                replace p342 := eq_true p342
                replace q342 := eq_true q342
                go_wp2
                repeat (go_quiet (fail); try go_wp2)
                go_ret
                exact ⟨by first | rfl | (simp; done) | (simp [*]; done), by repeat (first | exact Drawn0.refl _ | apply Drawn0.step)⟩
            · rw [if_neg c6] at H
              exact absurd H (by simp)
          · rw [if_neg c5] at H
            exact absurd H (by simp)
        · rw [if_neg c4] at H
          have c4b0 : decide (x5_1 < (l0.length : Int)) = false := decide_eq_false c4
          clear c4
          obtain rfl := Option.some.inj H
          go_wp2
          repeat (go_quiet (fail); try go_wp2)
          go_ret
          exact ⟨by first | rfl | (simp; done) | (simp [*]; done), by repeat (first | exact Drawn0.refl _ | apply Drawn0.step)⟩
  · rw [if_neg c3] at H
    have c3b0 : ((l0.length : Int) == (l1.length : Int)) = false := beq_eq_false_iff_ne.mpr c3
    have c3b1 : ((l0.length : Int) != (l1.length : Int)) = true := bne_iff_ne.mpr c3
    have c3b2 : (l0.length == l1.length) = false := by first | simpa using c3 | (simp at c3 ⊢; omega)
    obtain rfl := Option.some.inj H
    go_enter Tryz.func14, Tryz.ntmps14
    go_wp2
    repeat (go_quiet (fail); try go_wp2)
    go_ret
    exact ⟨by first | rfl | (simp; done) | (simp [*]; done), by repeat (first | exact Drawn0.refl _ | apply Drawn0.step)⟩
end Go.Proofs.YthbdjmopolpjmaaGreatDoor.F
end
section
set_option linter.unusedVariables false
set_option linter.unusedSimpArgs false
namespace Go.Proofs.YthbdjmopolpjmaaGreatDoor.C
open Go.RowKit Go.Proofs.YthbdjmopolpjmaaGreatDoorW.PrintWords Go.Proofs.YthbdjmopolpjmaaGreatDoorW.PrintLast Go.Proofs.YthbdjmopolpjmaaGreatDoorW.PrintMore Go.Proofs.YthbdjmopolpjmaaGreatDoor.F Go.Proofs.YthbdjmopolpjmaaGreatDoor.M
attribute [local go_sem] max2_int min2_int max_two min_two max_three min_three max_four min_four
def mark : ByteArray := ⟨#[52, 51, 50, 49]⟩
def lent : Kd (List ByteArray × Bool) where
  sz := 1
  E := [9]
  K := fun w x cs => (x.2 = true ∧ ∃ A c, cs = [.slice A x.1.length c] ∧ x.1.length + 1 ≤ c ∧ Kd.string.C w A (x.1.length + 1) (x.1 ++ [mark])) ∨ (x.2 = false ∧ x.1 = [] ∧ cs = [.slice none 0 0])
  M := fun w base ok x cs => (x.2 = true ∧ ∃ A c, cs = [.slice A x.1.length c] ∧ Kd.string.R 9 w base ok (.slice A (x.1.length + 1) c) (x.1 ++ [mark])) ∨ (x.2 = false ∧ x.1 = [] ∧ cs = [.slice none 0 0])
  K_len := by
    rintro w x cs (⟨_, A, c, rfl, _⟩ | ⟨_, _, rfl⟩) <;> rfl
  K_one := by
    rintro w x cs (⟨_, A, c, rfl, _⟩ | ⟨_, _, rfl⟩) u hu <;> (rw [List.mem_singleton.1 hu]; rfl)
  K_below := by
    rintro w w1 x cs hb (⟨h0, A, c, rfl, hl, hC⟩ | h)
    · exact .inl ⟨h0, A, c, rfl, hl, Kd.C_below hC hb⟩
    · exact .inr h
  K_of_M := by
    rintro w base ok x cs (⟨h0, A, c, rfl, hR⟩ | h)
    · obtain ⟨A2, c2, he, hl, hC⟩ := Kd.R_reads hR
      injection he with e1 e2 e3
      subst e1 e3
      rw [List.length_append, List.length_singleton] at hl hC
      exact .inl ⟨h0, A, c, rfl, hl, hC⟩
    · exact .inr h
  M_mono := by
    rintro w base ok ok' x cs hok (⟨h0, A, c, rfl, hR⟩ | h)
    · exact .inl ⟨h0, A, c, rfl, Kd.R_mono hR hok⟩
    · exact .inr h
  M_bound := by
    rintro w base ok x cs (⟨h0, A, c, rfl, hR⟩ | h)
    · exact .inl ⟨h0, A, c, rfl, Kd.R_bound hR⟩
    · exact .inr h
  M_move := by
    rintro w w1 base ok x cs hm (⟨h0, A, c, rfl, hR⟩ | h)
    · exact .inl ⟨h0, A, c, rfl, Kd.R_move hR hm⟩
    · exact .inr h
  M_lower := by
    rintro w base base' ok x cs hb (⟨h0, A, c, rfl, hR⟩ | h)
    · exact .inl ⟨h0, A, c, rfl, Kd.R_lower hR hb⟩
    · exact .inr h
def k41L : Kd (S41 × Bool) := Kd.iso (Kd.pair (Kd.int .i64) (Kd.pair Kd.string (Kd.pair k39 (Kd.pair k39 (Kd.pair Kd.string (Kd.pair (Kd.int .i64) (Kd.pair lent (Kd.pair (Kd.int .i64) Kd.bool)))))))) (fun x : S41 × Bool => (x.1.f0, x.1.f1, x.1.f2, x.1.f3, x.1.f4, x.1.f5, (x.1.f6, x.2), x.1.f7, x.1.f8))
theorem k41L_mkM (w : World) (base : Nat) (ok : Nat → Prop) (x : S41) (b : Bool) {v8 : Value} (g8 : lent.M w base ok (x.f6, b) [v8]) : k41L.M w base ok (x, b) [.int .i64 x.f0, .string x.f1, .string x.f2.f0, .string x.f2.f1, .string x.f3.f0, .string x.f3.f1, .string x.f4, .int .i64 x.f5, v8, .int .i64 x.f7, .bool x.f8] :=
  ⟨[.int .i64 x.f0], _, rfl, rfl, [.string x.f1], _, rfl, rfl, [.string x.f2.f0, .string x.f2.f1], _, rfl, k39_mkM w base ok x.f2, [.string x.f3.f0, .string x.f3.f1], _, rfl, k39_mkM w base ok x.f3, [.string x.f4], _, rfl, rfl, [.int .i64 x.f5], _, rfl, rfl, [v8], [.int .i64 x.f7, .bool x.f8], rfl, g8, [.int .i64 x.f7], [.bool x.f8], rfl, rfl, rfl⟩
theorem k41L_open {w : World} {x : S41} {b : Bool} {cs : List Value} (h : k41L.K w (x, b) cs) : ∃ v8, cs = [.int .i64 x.f0, .string x.f1, .string x.f2.f0, .string x.f2.f1, .string x.f3.f0, .string x.f3.f1, .string x.f4, .int .i64 x.f5, v8, .int .i64 x.f7, .bool x.f8] ∧ lent.K w (x.f6, b) [v8] := by
  obtain ⟨_, _, rfl, rfl, ⟨_, _, rfl, rfl, ⟨_, _, rfl, s2, ⟨_, _, rfl, s4, ⟨_, _, rfl, rfl, ⟨_, _, rfl, rfl, ⟨c8, _, rfl, g8, ⟨_, _, rfl, rfl, rfl⟩⟩⟩⟩⟩⟩⟩⟩ := h
  obtain rfl := k39_open s2
  obtain rfl := k39_open s4
  have hl := lent.K_len g8
  obtain ⟨v8, rfl⟩ := List.length_eq_one_iff.1 hl
  exact ⟨v8, rfl, g8⟩
theorem k41L_read {w : World} {x : S41} {cs : List Value} (h : k41L.K w (x, true) cs) : k41.K w x cs := by
  obtain ⟨v8, rfl, h8⟩ := k41L_open h
  rcases h8 with ⟨_, A, c, he, hl, hC⟩ | ⟨h0, _⟩
  · obtain rfl : v8 = .slice A x.f6.length c := by simpa using he
    refine k41_mk w x (A8 := A) (c8 := c) (by simp at hl; omega) ?_
    have h1 := Kd.C_take (k := Kd.string) (xs := x.f6 ++ [mark]) (m := x.f6.length) (by rw [List.length_append, List.length_singleton]; exact hC) (by simp)
    rw [List.take_left] at h1
    exact h1
  · exact Bool.noConfusion h0
theorem lent_reads {w : World} {A : Option Addr} {l : List S41} {y : S41} (h : k41L.C w A (l.length + 1) (l.map (fun x => (x, true)) ++ [(y, false)])) : k41.C w A l.length l := by
  obtain ⟨h1, h2, h3⟩ := h
  refine ⟨rfl, by omega, fun hn => ?_⟩
  obtain ⟨ad, e, hc⟩ := h3 (by omega)
  refine ⟨ad, e, fun j p hj => ?_⟩
  have hjl := (List.getElem?_eq_some_iff.1 hj).1
  obtain ⟨c, hs, hk, hcell⟩ := hc j (p, true) (by
    rw [List.getElem?_append_left (by simpa using hjl)]
    simp [hj])
  exact ⟨c, hs, k41L_read hk, hcell⟩
theorem cut_up (t e : TypeId) (kh : IntKind) {i : TypeInfo} (ht : Tryz.prog.underlying t = some (.slice e)) (hi : Tryz.prog.info? e = some i) (A : Option Addr) (n c : Nat) (j : Int) (h0 : 0 ≤ j) (hm : j ≤ c) :
    ∀ W : World, (Instr.slice t (.slice A n c) none (some (.int kh j)) none).run Tryz.prog W = .ok (.slice A j.toNat c) W := by
  intro W
  have hel : Tryz.prog.elem t = e := by simp [Program.elem, ht]
  have hu : Tryz.prog.underlying t = some (.slice (Tryz.prog.elem t)) := by rw [hel]; exact ht
  have ha : (A.map fun x => x.add 0) = A := by cases A <;> simp [Addr.add]
  rw [run_slice_h W t A n c hu kh j h0 (by omega), hel]
  simp [sizeOf, typeInfo, hi, sliced, Result.andThen, ha]
theorem same_l0 (xs : List ByteArray) (hx : xs.length ≤ 1048576) : ∀ (d i : Nat), i + d = xs.length → ∀ k, d < k → cubitref01_SameTexts.l0 k xs xs (i : Int) = some true := by
  intro d
  induction d with
  | zero =>
    intro i hi k hk
    obtain ⟨k, rfl⟩ : ∃ m, k = m + 1 := ⟨k - 1, by omega⟩
    simp only [cubitref01_SameTexts.l0]
    rw [if_neg (by omega)]
  | succ d ih =>
    intro i hi k hk
    obtain ⟨k, rfl⟩ : ∃ m, k = m + 1 := ⟨k - 1, by omega⟩
    simp only [cubitref01_SameTexts.l0]
    have hw : wrap64 ((i : Int) + 1) = ((i + 1 : Nat) : Int) := by rw [w64 (by omega) (by omega)]; omega
    rw [if_pos (by omega), if_pos (by omega), if_pos (by omega), if_pos True.intro, hw]
    exact ih (i + 1) (by omega) k (by omega)
theorem same_is (xs : List ByteArray) (hx : xs.length ≤ 1048576) : cubitref01_SameTexts.f (xs.length + 1) xs xs = some true := by
  unfold cubitref01_SameTexts.f
  rw [if_pos rfl]
  exact same_l0 xs hx xs.length 0 (by omega) _ (by omega)
theorem texts_is (xs : List ByteArray) (hx : xs.length ≤ 1048576) : cubitref29_texts.f (xs.length + 1) xs xs = some true := by
  have e : ∀ k (xs : List ByteArray) i, cubitref29_texts.l0 k xs xs i = cubitref01_SameTexts.l0 k xs xs i := by
    intro k
    induction k with
    | zero => intro xs i; rfl
    | succ k ih => intro xs i; simp only [cubitref29_texts.l0, cubitref01_SameTexts.l0, ih]
  unfold cubitref29_texts.f
  rw [if_pos rfl, e]
  exact same_l0 xs hx xs.length 0 (by omega) _ (by omega)
end Go.Proofs.YthbdjmopolpjmaaGreatDoor.C
end
