/- Part 17 of the proof: CRep3, MEsc, Shelf2, CBuf, CRep4, CRep5. -/
import Derived.BigRegion
import Derived.Laws.CopyRow
import Derived.Lib.Bytealg
import Derived.Shelf.LaysM
import Derived.Shelf.Strconv.Itoa3
import Derived.Shelf.Strings.Count
import Derived.Shelf.Strings.OnBuilder
import Derived.Test.YthbdjmopolpjmaaGreatDoorProg
import Derived.Test.YthbdjmopolpjmaaGreatDoorB00
import Derived.Test.YthbdjmopolpjmaaGreatDoorB01
import Derived.Test.YthbdjmopolpjmaaGreatDoorB02
import Derived.Test.YthbdjmopolpjmaaGreatDoorB03
import Derived.Test.YthbdjmopolpjmaaGreatDoorB04
import Derived.Test.YthbdjmopolpjmaaGreatDoorB05
import Derived.Test.YthbdjmopolpjmaaGreatDoorB06
import Derived.Test.YthbdjmopolpjmaaGreatDoorB07
import Derived.Test.YthbdjmopolpjmaaGreatDoorB08
import Derived.Test.YthbdjmopolpjmaaGreatDoorB09
import Derived.Test.YthbdjmopolpjmaaGreatDoorB10
import Derived.Test.YthbdjmopolpjmaaGreatDoorB11
import Derived.Test.YthbdjmopolpjmaaGreatDoorB12
import Derived.Test.YthbdjmopolpjmaaGreatDoorB13
import Derived.Test.YthbdjmopolpjmaaGreatDoorB14
import Derived.Test.YthbdjmopolpjmaaGreatDoorB15
import Derived.Test.YthbdjmopolpjmaaGreatDoorB16
section
set_option linter.unusedVariables false
set_option linter.unusedSimpArgs false
namespace Go.Proofs.YthbdjmopolpjmaaGreatDoor.C
open Go.RowKit Go.Proofs.YthbdjmopolpjmaaGreatDoorW.PrintWords Go.Proofs.YthbdjmopolpjmaaGreatDoorW.PrintLast Go.Proofs.YthbdjmopolpjmaaGreatDoorW.PrintMore Go.Proofs.YthbdjmopolpjmaaGreatDoor.F Go.Proofs.YthbdjmopolpjmaaGreatDoor.M
namespace Rep
def six : List ByteArray := [⟨#[92]⟩, ⟨#[92, 92]⟩, ⟨#[9]⟩, ⟨#[92, 116]⟩, ⟨#[10]⟩, ⟨#[92, 110]⟩]
def Rp (g : Nat) (r : Value) (W : World) : Prop := ∃ p, r = .iface 259 (.pointer (some ⟨p, 0, none⟩)) ∧ p ≠ g ∧ ∃ C : Array Value, W.heap[p]? = some (.cells C 258 (0, 0)) ∧ (∀ j, j < 256 → j ∉ [10, 9, 92] → C[j]? = some (.slice none 0 0)) ∧
  (∀ o : Nat, o ∈ [10, 9, 92] → ∃ b c, C[o]? = some (.slice (some ⟨b, 0, none⟩) 2 c) ∧ b ≠ g ∧ ByB W b (escN o)) ∧
  ∃ t c, C[256]? = some (.slice (some ⟨t, 0, none⟩) 3 c) ∧ t ≠ g ∧ (∃ cs fr, W.heap[t]? = some (.cells cs 9 fr) ∧ cs[0]? = some (.string (one 10)) ∧ cs[1]? = some (.string (one 9)) ∧ cs[2]? = some (.string (one 92)))
theorem rp_stays (g : Nat) : Once.Stays g (Rp g) := by
  intro r W W' h _ hh
  obtain ⟨p, rfl, hp, C, h1, h2, h3, t, c, h4, h5, cs, fr, h6, h7⟩ := h
  refine ⟨p, rfl, hp, C, (hh p hp).trans h1, h2, fun o ho => ?_, t, c, h4, h5, cs, fr, (hh t h5).trans h6, h7⟩
  obtain ⟨b, c', e1, e2, e3⟩ := h3 o ho
  exact ⟨b, c', e1, e2, e3.same (hh b e2)⟩
theorem Tb.rp {w W : World} {p : Nat} {v : Value} {g : Nat} (h : Tb w W p v [10, 9, 92]) (hg : g < w.heap.size) : Rp g (.iface 259 (.pointer (some ⟨p, 0, none⟩))) W := by
  obtain ⟨C, h1, h2, h3, h4, h5⟩ := h.tab
  have hp := h.hp
  refine ⟨p, rfl, by omega, C, h1, h4, fun o ho => ?_, ?_⟩
  · obtain ⟨b, c, e1, e2, e3⟩ := h5 o ho
    exact ⟨b, c, e1, by omega, e3⟩
  · have ho := Kd.own_of_R h.row
    rcases ho.2 with ⟨_, he⟩ | ⟨t, cap, cur, rfl, ht, hh, hl, hm, hx⟩
    · exact absurd he (by simp)
    · have hx2 := hx.2
      refine ⟨t, cap, h3, by omega, cur, _, hh, ?_⟩
      have key : ∀ j (hj : j < 3), cur[j]? = (encs Value.string (([10, 9, 92] : List Nat).map one))[j]? := by
        intro j hj
        rw [← hx2, List.getElem?_take]
        simp [hj]
      exact ⟨(key 0 (by omega)).trans rfl, (key 1 (by omega)).trans rfl, (key 2 (by omega)).trans rfl⟩
set_option maxRecDepth 100000 in
set_option maxHeartbeats 1600000 in
theorem once_call (g b c : Nat) (W : World) (hb : W.heap[g]? = some (Once.ob 0 1 .nilIface (.slice (some ⟨b, 0, none⟩) 6 c))) (h6 : Six W b) :
    Calls Tryz.prog 88 #[.pointer (some ⟨g, 0, none⟩)] W fun e W' => e = .returned (.tuple #[]) ∧ ∃ r o', W'.heap[g]? = some (Once.ob 0 1 r o') ∧ Rp g r W' ∧ Chg (fun k => k = g) W W' := by
  have HH := Aside0.mk (And.intro hb h6)
  unfold Once.ob at hb
  have c4 := Aside0.mk (show W.cell? ⟨g, 4, none⟩ = some (.slice (some ⟨b, 0, none⟩) 6 c) from (blk_cell hb 4).trans rfl)
  clear hb h6
  go_enter Tryz.func88, Tryz.ntmps88
  go_wp2_with fail
  refine (build_call g b c _ c4.out HH.out.2).mono ?_
  rintro e w1 ⟨p, v, rfl, hT⟩
  have hb1 : w1.heap[g]? = some (.cells #[.int .u32 0, .int .i32 1, .int .u32 0, .nilIface, .slice (some ⟨b, 0, none⟩) 6 c] 143 (0, 0)) := blk_below HH.out.1 hT.below
  have d3 : w1.cell? ⟨g, 3, none⟩ = some .nilIface := (blk_cell hb1 3).trans rfl
  have z3 : w1.frozen? ⟨g, 3, none⟩ = false := blk_frozen hb1 3
  have hb2 : (w1.setCell ⟨g, 3, none⟩ (.iface 259 (.pointer (some ⟨p, 0, none⟩)))).heap[g]? = some (.cells #[.int .u32 0, .int .i32 1, .int .u32 0, .iface 259 (.pointer (some ⟨p, 0, none⟩)), .slice (some ⟨b, 0, none⟩) 6 c] 143 (0, 0)) := blk_set hb1 3 _
  obtain ⟨w2, hw2⟩ : ∃ w2, w1.setCell ⟨g, 3, none⟩ (.iface 259 (.pointer (some ⟨p, 0, none⟩))) = w2 := ⟨_, rfl⟩
  rw [hw2] at hb2
  have d4 : w2.cell? ⟨g, 4, none⟩ = some (.slice (some ⟨b, 0, none⟩) 6 c) := (blk_cell hb2 4).trans rfl
  have z4 : w2.frozen? ⟨g, 4, none⟩ = false := blk_frozen hb2 4
  have hb3 : (w2.setCell ⟨g, 4, none⟩ (.slice none 0 0)).heap[g]? = some (Once.ob 0 1 (.iface 259 (.pointer (some ⟨p, 0, none⟩))) (.slice none 0 0)) := blk_set hb2 4 _
  have hg : g < W.heap.size := blk_lt HH.out.1
  have hfin : Rp g (.iface 259 (.pointer (some ⟨p, 0, none⟩))) (w2.setCell ⟨g, 4, none⟩ (.slice none 0 0)) ∧ Chg (fun k => k = g) W (w2.setCell ⟨g, 4, none⟩ (.slice none 0 0)) := by
    refine ⟨rp_stays g _ _ _ (hT.rp hg) ?_ ?_, ?_⟩
    · rw [Once.set_os, ← hw2, Once.set_os]
    · intro i hi
      rw [← hw2]
      exact (Once.set_other _ g 4 _ i hi).trans (Once.set_other _ g 3 _ i hi)
    · rw [← hw2]
      exact Chg.setCell (S := fun k => k = g) (Chg.setCell (S := fun k => k = g) (Chg.of_below hT.below) ⟨g, 3, none⟩ (.inl rfl) _) ⟨g, 4, none⟩ (.inl rfl) _
  have HF := Aside0.mk (And.intro hb3 hfin)
  clear hb1 hb2 hb3 hfin hT hg
  go_wp2_with fail
  go_end0
  exact ⟨rfl, _, _, HF.out.1, HF.out.2.1, HF.out.2.2⟩
set_option maxRecDepth 100000 in
set_option maxHeartbeats 1600000 in
theorem newReplacer_call (A : Option Addr) (c : Nat) (w : World) (hC : Kd.string.C w A 6 six) :
    Calls Tryz.prog 54 #[.slice A 6 c] w fun e W' => ∃ g b c', e = .returned (.pointer (some ⟨g, 0, none⟩)) ∧ W'.heap[g]? = some (Once.ob 0 0 .nilIface (.slice (some ⟨b, 0, none⟩) 6 c')) ∧ b ≠ g ∧ Six W' b ∧ w.heap.size ≤ g ∧ Below w.heap.size w W' := by
  have HC := Aside0.mk hC
  clear hC
  go_enter Tryz.func54, Tryz.ntmps54
  go_wp2_with (first | ((with_reducible refine gate_builtin (b := .append) (xs := #[.const (.slice none 0 0), .tmp 8]) rfl ?_); at_builtin; refine Kd.R_append_rows Kd.string (w0 := w) w.heap.size rfl (.const (.slice none 0 0)) (.tmp 8) 30 9 (.string ⟨#[]⟩) 16 rfl Tryz.underlying30 info9 rfl (by decide) (by omega) (.slice none 0 0) ([] : List ByteArray) six _ _ _ (fun _ => True) (fun _ => False) rfl rfl ?aO ?aR (fun _ _ h => h) (fun _ h => h.elim) ?aF ?aB ?aS ?aL ?_; (case aR => exact HC.out); (case aB => exact Below.refl _ _); (case aF => exact (fun _ _ => trivial)); (case aO => exact ((Kd.R_nil _ _ _ _ (fun _ => True)))); (case aS => exact Nat.le_refl _); (case aL => decide); intro v2 w2 ho hb hg hat; obtain ⟨A2, c2, hv, _, _⟩ := Kd.R_reads ho; have hv2 : v2 = .slice A2 6 c2 := hv; clear hv; subst hv2; have HN := Aside0.mk (And.intro ho hb); clear ho hb hg hat))
  go_ret
  have ho := Kd.own_of_R HN.out.1
  rcases ho.2 with ⟨_, he⟩ | ⟨t, cap, cur, hv, ht, hh, hl, hm, hx⟩
  · exact absurd he (by decide)
  · injection hv with e1 e2 e3
    subst e1 e3
    have hx2 := hx.2
    have key : ∀ j (hj : j < 6), cur[j]? = (encs Value.string six)[j]? := by
      intro j hj
      have h1 : (cur.toList.take 6)[j]? = (encs Value.string ([] ++ six))[j]? := by rw [← hx2]; rfl
      rw [List.getElem?_take] at h1
      simp [hj] at h1
      rw [h1]
    have hlt : t < w2.heap.size := blk_lt hh
    refine ⟨w2.heap.size, t, c2, rfl, blk_new _ _, by omega, ?_, HN.out.2.size, below_alloc HN.out.2 _⟩
    have hk : ∀ j (hj : j < 6), (w2.alloc (.cells #[.int .u32 0, .int .i32 0, .int .u32 0, .nilIface, .slice (some ⟨t, 0, none⟩) 6 c2] 143)).cell? ⟨t, j, none⟩ = (encs Value.string six)[j]? := fun j hj => (blk_cell (blk_alloc hh _) j).trans (key j hj)
    exact ⟨(hk 0 (by omega)).trans rfl, (hk 1 (by omega)).trans rfl, (hk 2 (by omega)).trans rfl, (hk 3 (by omega)).trans rfl, (hk 4 (by omega)).trans rfl, (hk 5 (by omega)).trans rfl⟩
end Rep
end Go.Proofs.YthbdjmopolpjmaaGreatDoor.C
end
section
set_option linter.unusedVariables false
set_option linter.unusedSimpArgs false
namespace Go.Proofs.YthbdjmopolpjmaaGreatDoor.M
open Go.RowKit Go.Proofs.YthbdjmopolpjmaaGreatDoorW.PrintWords Go.Proofs.YthbdjmopolpjmaaGreatDoorW.PrintLast Go.Proofs.YthbdjmopolpjmaaGreatDoorW.PrintMore Go.Proofs.YthbdjmopolpjmaaGreatDoor.F Go.Proofs.YthbdjmopolpjmaaGreatDoor.C
theorem escN_plain {c : Int} (h1 : c ≠ 92) (h2 : c ≠ 9) (h3 : c ≠ 10) : escN c = [c] := by unfold escN; rw [if_neg h1, if_neg h2, if_neg h3]
theorem escN_two {c : Int} (h : c = 92 ∨ c = 9 ∨ c = 10) : (escN c).length = 2 := by
  rcases h with rfl | rfl | rfl <;> rfl
theorem escL_cons (c : Int) (l : List Int) : escL (c :: l) = escN c ++ escL l := by simp [escL]
theorem escL_same : ∀ {l : List Int}, (escL l).length = l.length → escL l = l
  | [], _ => rfl
  | c :: l, h => by
    rw [escL_cons] at h ⊢
    rw [List.length_append, List.length_cons] at h
    have h1 := escN_len c
    have h2 := (escL_len l).1
    have h3 : (escN c).length = 1 := by omega
    have h4 : (escL l).length = l.length := by omega
    rw [escL_same h4]
    by_cases hc : c = 92 ∨ c = 9 ∨ c = 10
    · rw [escN_two hc] at h3; omega
    · rw [escN_plain (fun e => hc (.inl e)) (fun e => hc (.inr (.inl e))) (fun e => hc (.inr (.inr e)))]
      rfl
theorem esc_same {s : ByteArray} (h : (escL (bytesOf s)).length = s.size) : esc s = s := by
  unfold esc
  rw [escL_same (by rw [bytesOf_length]; exact h), strOfNums_bytesOf]
theorem count_cons (l : List UInt8) (b c : UInt8) : Lib.countByte (b :: l) c = Lib.countByte l c + (if b = c then 1 else 0) := by
  unfold Lib.countByte
  rw [List.count_cons]
  by_cases h : b = c <;> simp [h]
theorem esc_count (s : ByteArray) : (escL (bytesOf s)).length = s.size + Lib.countByte s.data.toList 10 + Lib.countByte s.data.toList 9 + Lib.countByte s.data.toList 92 := by
  have key : ∀ l : List UInt8, (escL (l.map fun b => (b.toNat : Int))).length = l.length + Lib.countByte l 10 + Lib.countByte l 9 + Lib.countByte l 92 := by
    intro l
    induction l with
    | nil => rfl
    | cons b l ih =>
      rw [List.map_cons, escL_cons, List.length_append, ih, count_cons, count_cons, count_cons, List.length_cons]
      by_cases h10 : b = 10
      · subst h10; simp [escN]; omega
      · by_cases h9 : b = 9
        · subst h9; simp [escN]; omega
        · by_cases h92 : b = 92
          · subst h92; simp [escN]; omega
          · have h0 : ∀ c : UInt8, b ≠ c → (b.toNat : Int) ≠ (c.toNat : Int) := fun c hc he => hc (UInt8.toNat_inj.1 (by omega))
            rw [escN_plain (h0 92 h92) (h0 9 h9) (h0 10 h10), if_neg h10, if_neg h9, if_neg h92]
            simp
            omega
  rw [← data_length]
  exact key s.data.toList
end Go.Proofs.YthbdjmopolpjmaaGreatDoor.M
end
section
namespace Go.Proofs
open Go.Shelf
def Tryz.lays156_ren : Go.Shelf.Ren := ⟨fun | 156 => 56 | 165 => 89 | 166 => 90 | 169 => 91 | 240 => 125 | 241 => 126 | 276 => 171 | 277 => 172 | n => n, fun | 31 => 30 | 9 => 9 | 3 => 3 | 4 => 4 | 0 => 0 | 20 => 20 | 72 => 147 | 76 => 149 | 70 => 145 | 37 => 50 | 75 => 44 | 127 => 199 | 164 => 113 | 5 => 5 | 80 => 89 | n => n, fun | n => n⟩
theorem Tryz.lays156 : Go.Proofs.Lays.n156 Tryz.prog Tryz.lays156_ren := {
  mixed := by kernel_rfl
  f156 := Tryz.func56.trans (congrArg some (by kernel_rfl))
  f165 := Tryz.func89.trans (congrArg some (by kernel_rfl))
  f166 := Tryz.func90.trans (congrArg some (by kernel_rfl))
  f169 := Tryz.func91.trans (congrArg some (by kernel_rfl))
  f240 := Tryz.func125.trans (congrArg some (by kernel_rfl))
  f241 := Tryz.func126.trans (congrArg some (by kernel_rfl))
  f276 := Tryz.func171.trans (congrArg some (by kernel_rfl))
  f277 := Tryz.func172.trans (congrArg some (by kernel_rfl))
  t0 := Tryz.underlying0
  a0 := Tryz.isAgg0
  z0 := Tryz.sizeOf0
  v0 := Tryz.zeroValue0
  t3 := Tryz.underlying3
  a3 := Tryz.isAgg3
  z3 := Tryz.sizeOf3
  v3 := Tryz.zeroValue3
  t4 := Tryz.underlying4
  a4 := Tryz.isAgg4
  z4 := Tryz.sizeOf4
  v4 := Tryz.zeroValue4
  t9 := Tryz.underlying9
  a9 := Tryz.isAgg9
  z9 := Tryz.sizeOf9
  v9 := Tryz.zeroValue9
  t20 := Tryz.underlying20
  a20 := Tryz.isAgg20
  z20 := Tryz.sizeOf20
  v20 := Tryz.zeroValue20
  t31 := Tryz.underlying30
  a31 := Tryz.isAgg30
  z31 := Tryz.sizeOf30
  v31 := Tryz.zeroValue30
  t37 := Tryz.underlying50
  a37 := Tryz.isAgg50
  z37 := Tryz.sizeOf50
  v37 := Tryz.zeroValue50
  t70 := Tryz.underlying145
  a70 := Tryz.isAgg145
  z70 := Tryz.sizeOf145
  v70 := Tryz.zeroValue145
  t72 := Tryz.underlying147
  a72 := Tryz.isAgg147
  z72 := Tryz.sizeOf147
  v72 := Tryz.zeroValue147
  t75 := Tryz.underlying44
  a75 := Tryz.isAgg44
  z75 := Tryz.sizeOf44
  v75 := Tryz.zeroValue44
  t76 := Tryz.underlying149
  a76 := Tryz.isAgg149
  z76 := Tryz.sizeOf149
  v76 := Tryz.zeroValue149
  t127 := Tryz.underlying199
  a127 := Tryz.isAgg199
  z127 := Tryz.sizeOf199
  v127 := Tryz.zeroValue199
  t164 := Tryz.underlying113
  a164 := Tryz.isAgg113
  z164 := Tryz.sizeOf113
  v164 := Tryz.zeroValue113 }
theorem Tryz.Builder_Extra_156 : Builder.Extra Tryz.prog Tryz.lays156_ren := {
  sizeBuilder := by kernel_rfl
  liesBuilder := by kernel_rfl
  t5 := Tryz.underlying5
  a5 := Tryz.isAgg5
  z5 := Tryz.sizeOf5
  v5 := Tryz.zeroValue5
  infoByte := by kernel_rfl
  cellsByte := by kernel_rfl
  sizeByte := by kernel_rfl
  neB5 := by decide }
open Go.RowKit in
theorem Tryz.strings_Join (bk o c : Nat) (xs : List ByteArray) (sep : ByteArray) (w : World) (hcells : ∀ (j : Nat) x, xs[j]? = some x → w.cell? ⟨bk, o + j, none⟩ = some (.string x)) (hbk : bk < w.heap.size) (hN : xs.length ≤ 140737488355328) (hcap : xs.length ≤ c) (hlen : (Lib.join (xs.map (·.data.toList)) sep.data.toList).length ≤ 140737488355328) :
    Calls Tryz.prog 56 #[.slice (some ⟨bk, o, none⟩) xs.length c, .string sep] w fun e w' => e = .returned (.string ⟨(Lib.join (xs.map (·.data.toList)) sep.data.toList).toArray⟩) ∧ Below w.heap.size w w' := Any.strings_Join Tryz.lays156 Tryz.Builder_Extra_156 bk o c xs sep w hcells hbk hN hcap hlen
def Tryz.laysM171_ren : Go.Shelf.Ren := ⟨fun | 171 => 31 | 243 => 62 | 246 => 105 | 283 => 135 | 284 => 136 | 285 => 137 | 286 => 138 | 129 => 104 | 317 => 180 | 318 => 181 | 319 => 182 | 320 => 183 | 337 => 218 | 338 => 219 | n => n, fun | 3 => 3 | 9 => 9 | 2 => 2 | 4 => 4 | 171 => 209 | 0 => 0 | 53 => 162 | 37 => 50 | 5 => 5 | 173 => 211 | 212 => 271 | 51 => 131 | 20 => 20 | 213 => 272 | 46 => 97 | 232 => 326 | 233 => 327 | n => n, fun | 17 => 3 | 18 => 6 | 19 => 7 | n => n⟩
theorem Tryz.laysM171 : Go.Proofs.LaysM.n171 Tryz.prog Tryz.laysM171_ren := {
  mixed := by kernel_rfl
  f129 := Tryz.func104.trans (congrArg some (by kernel_rfl))
  f171 := Tryz.func31.trans (congrArg some (by kernel_rfl))
  f243 := Tryz.func62.trans (congrArg some (by kernel_rfl))
  f246 := Tryz.func105.trans (congrArg some (by kernel_rfl))
  f283 := Tryz.func135.trans (congrArg some (by kernel_rfl))
  f284 := Tryz.func136.trans (congrArg some (by kernel_rfl))
  f285 := Tryz.func137.trans (congrArg some (by kernel_rfl))
  f286 := Tryz.func138.trans (congrArg some (by kernel_rfl))
  f317 := Tryz.func180.trans (congrArg some (by kernel_rfl))
  f318 := Tryz.func181.trans (congrArg some (by kernel_rfl))
  f319 := Tryz.func182.trans (congrArg some (by kernel_rfl))
  f320 := Tryz.func183.trans (congrArg some (by kernel_rfl))
  f337 := Tryz.func218.trans (congrArg some (by kernel_rfl))
  f338 := Tryz.func219.trans (congrArg some (by kernel_rfl))
  t0 := Tryz.underlying0
  a0 := Tryz.isAgg0
  z0 := Tryz.sizeOf0
  v0 := Tryz.zeroValue0
  t2 := Tryz.underlying2
  a2 := Tryz.isAgg2
  z2 := Tryz.sizeOf2
  v2 := Tryz.zeroValue2
  t3 := Tryz.underlying3
  a3 := Tryz.isAgg3
  z3 := Tryz.sizeOf3
  v3 := Tryz.zeroValue3
  t4 := Tryz.underlying4
  a4 := Tryz.isAgg4
  z4 := Tryz.sizeOf4
  v4 := Tryz.zeroValue4
  t5 := Tryz.underlying5
  a5 := Tryz.isAgg5
  z5 := Tryz.sizeOf5
  v5 := Tryz.zeroValue5
  t9 := Tryz.underlying9
  a9 := Tryz.isAgg9
  z9 := Tryz.sizeOf9
  v9 := Tryz.zeroValue9
  t20 := Tryz.underlying20
  a20 := Tryz.isAgg20
  z20 := Tryz.sizeOf20
  v20 := Tryz.zeroValue20
  t37 := Tryz.underlying50
  a37 := Tryz.isAgg50
  z37 := Tryz.sizeOf50
  v37 := Tryz.zeroValue50
  t46 := Tryz.underlying97
  a46 := Tryz.isAgg97
  z46 := Tryz.sizeOf97
  v46 := Tryz.zeroValue97
  t51 := Tryz.underlying131
  a51 := Tryz.isAgg131
  z51 := Tryz.sizeOf131
  v51 := Tryz.zeroValue131
  t53 := Tryz.underlying162
  a53 := Tryz.isAgg162
  z53 := Tryz.sizeOf162
  v53 := Tryz.zeroValue162
  t171 := Tryz.underlying209
  a171 := Tryz.isAgg209
  z171 := Tryz.sizeOf209
  v171 := Tryz.zeroValue209
  t173 := Tryz.underlying211
  a173 := Tryz.isAgg211
  z173 := Tryz.sizeOf211
  v173 := Tryz.zeroValue211
  t212 := Tryz.underlying271
  a212 := Tryz.isAgg271
  z212 := Tryz.sizeOf271
  v212 := Tryz.zeroValue271
  t213 := Tryz.underlying272
  a213 := Tryz.isAgg272
  z213 := Tryz.sizeOf272
  t232 := Tryz.underlying326
  a232 := Tryz.isAgg326
  z232 := Tryz.sizeOf326
  v232 := Tryz.zeroValue326
  t233 := Tryz.underlying327
  a233 := Tryz.isAgg327
  z233 := Tryz.sizeOf327
  v233 := Tryz.zeroValue327
  g17 := by kernel_rfl
  g18 := by kernel_rfl
  g19 := by kernel_rfl
  i0 := by kernel_rfl
  i2 := by kernel_rfl
  i3 := by kernel_rfl
  i4 := by kernel_rfl
  i5 := by kernel_rfl
  i9 := by kernel_rfl
  i20 := by kernel_rfl
  i37 := by kernel_rfl
  i46 := by kernel_rfl
  i51 := by kernel_rfl
  i53 := by kernel_rfl
  i171 := by kernel_rfl
  i173 := by kernel_rfl
  i212 := by kernel_rfl
  i232 := by kernel_rfl
  i233 := by kernel_rfl
  m17 := by kernel_rfl
  m18 := by kernel_rfl
  m19 := by kernel_rfl }
open Go.RowKit Go.Sort Go.Lib in
theorem Tryz.strconv_Itoa (n : Int) (h0 : -9223372036854775808 ≤ n) (h1 : n ≤ 9223372036854775807) (w : World) (htab : Lib.TabIs Tryz.prog w "internal/strconv.uint64pow10" .u64 Lib.pow10Tab) :
    Calls Tryz.prog 31 #[.int .i64 n] w fun e w' => e = .returned (.string ⟨(Lib.itoa n).toArray⟩) ∧ ∃ k os, w' = grow (w.drewN k) os := Any.strconv_Itoa Tryz.laysM171 n h0 h1 w htab
def Tryz.lays138_ren : Go.Shelf.Ren := ⟨fun | 138 => 36 | 195 => 66 | 218 => 67 | 143 => 68 | 219 => 106 | 217 => 139 | 225 => 140 | 224 => 141 | 267 => 142 | 266 => 184 | 314 => 185 | n => n, fun | 9 => 9 | 3 => 3 | 4 => 4 | 5 => 5 | 0 => 0 | 46 => 97 | 146 => 273 | 51 => 131 | n => n, fun | 1 => 2 | n => n⟩
theorem Tryz.lays138 : Go.Proofs.Lays.n138 Tryz.prog Tryz.lays138_ren := {
  mixed := by kernel_rfl
  f138 := Tryz.func36.trans (congrArg some (by kernel_rfl))
  f143 := Tryz.func68.trans (congrArg some (by kernel_rfl))
  f195 := Tryz.func66.trans (congrArg some (by kernel_rfl))
  f217 := Tryz.func139.trans (congrArg some (by kernel_rfl))
  f218 := Tryz.func67.trans (congrArg some (by kernel_rfl))
  f219 := Tryz.func106.trans (congrArg some (by kernel_rfl))
  f224 := Tryz.func141.trans (congrArg some (by kernel_rfl))
  f225 := Tryz.func140.trans (congrArg some (by kernel_rfl))
  f266 := Tryz.func184.trans (congrArg some (by kernel_rfl))
  f267 := Tryz.func142.trans (congrArg some (by kernel_rfl))
  f314 := Tryz.func185.trans (congrArg some (by kernel_rfl))
  t0 := Tryz.underlying0
  a0 := Tryz.isAgg0
  z0 := Tryz.sizeOf0
  v0 := Tryz.zeroValue0
  t3 := Tryz.underlying3
  a3 := Tryz.isAgg3
  z3 := Tryz.sizeOf3
  v3 := Tryz.zeroValue3
  t4 := Tryz.underlying4
  a4 := Tryz.isAgg4
  z4 := Tryz.sizeOf4
  v4 := Tryz.zeroValue4
  t5 := Tryz.underlying5
  a5 := Tryz.isAgg5
  z5 := Tryz.sizeOf5
  v5 := Tryz.zeroValue5
  t9 := Tryz.underlying9
  a9 := Tryz.isAgg9
  z9 := Tryz.sizeOf9
  v9 := Tryz.zeroValue9
  t46 := Tryz.underlying97
  a46 := Tryz.isAgg97
  z46 := Tryz.sizeOf97
  v46 := Tryz.zeroValue97
  t51 := Tryz.underlying131
  a51 := Tryz.isAgg131
  z51 := Tryz.sizeOf131
  v51 := Tryz.zeroValue131
  t146 := Tryz.underlying273
  a146 := Tryz.isAgg273
  z146 := Tryz.sizeOf273
  v146 := Tryz.zeroValue273
  g1 := by kernel_rfl }
open Go.RowKit Go.Lib in
theorem Tryz.strings_Count_one (s : ByteArray) (c : UInt8) (w : World) :
    Calls Tryz.prog 36 #[.string s, .string ⟨#[c]⟩] w fun e w' => e = .returned (.int .i64 (Lib.countByte s.data.toList c)) ∧ w' = w := Any.strings_Count_one Tryz.lays138 s c w
end Go.Proofs
end
section
set_option linter.unusedVariables false
set_option linter.unusedSimpArgs false
namespace Go.Proofs.YthbdjmopolpjmaaGreatDoor.C
open Go.RowKit Go.Proofs.YthbdjmopolpjmaaGreatDoorW.PrintWords Go.Proofs.YthbdjmopolpjmaaGreatDoorW.PrintLast Go.Proofs.YthbdjmopolpjmaaGreatDoorW.PrintMore Go.Proofs.YthbdjmopolpjmaaGreatDoor.F Go.Proofs.YthbdjmopolpjmaaGreatDoor.M
def bufL (E : Nat) (l : List Int) : List Value := nums .u8 l ++ List.replicate (E - l.length) (.int .u8 0)
def Bf (W : World) (q E : Nat) (l : List Int) : Prop := W.heap[q]? = some (.cells (bufL E l).toArray 5 (0, 0)) ∧ l.length ≤ E
theorem bufL_length {E : Nat} {l : List Int} (h : l.length ≤ E) : (bufL E l).length = E := by simp [bufL, nums]; omega
theorem Bf.start (W : World) (E : Nat) : Bf (W.alloc (.cells (madeCells #[.int .u8 0] E) 5)) W.heap.size E [] := by
  refine ⟨?_, by simp⟩
  rw [blk_new]
  congr 2
  apply Array.ext
  · simp [bufL, nums, size_madeCells]
  · intro i h1 h2
    have h1' : i < E := by simpa [size_madeCells] using h1
    simp [bufL, nums, madeCells]
    rw [Nat.mod_one]
    rfl
theorem Bf.store {W : World} {q E : Nat} {l : List Int} (h : Bf W q E l) (hl : l.length < E) (x : Int) : Bf (W.setCell ⟨q, l.length, none⟩ (.int .u8 x)) q E (l ++ [x]) := by
  refine ⟨?_, by simp; omega⟩
  have h1 := blk_set h.1 l.length (.int .u8 x)
  rw [h1]
  congr 2
  obtain ⟨m, hm⟩ : ∃ m, E - l.length = m + 1 := ⟨E - l.length - 1, by omega⟩
  have hm2 : E - (l ++ [x]).length = m := by simp; omega
  simp only [List.setIfInBounds_toArray]
  congr 1
  unfold bufL
  rw [hm, hm2, nums_append, List.replicate_succ, List.set_append_right _ _ (by simp [nums])]
  simp [nums]
theorem Bf.copy {W : World} {q E : Nat} {l l2 : List Int} (h : Bf W q E l) (hl : l.length + l2.length ≤ E) : Bf (W.setRow q ((bufL E l).toArray.toList.take l.length ++ nums .u8 l2 ++ (bufL E l).toArray.toList.drop (l.length + (nums .u8 l2).length)).toArray) q E (l ++ l2) := by
  refine ⟨?_, by simp; omega⟩
  rw [setRow_heap W q _ _ 5 _ h.1]
  congr 3
  unfold bufL
  have e1 : (nums .u8 l).length = l.length := nums_length _ _
  have e2 : (nums .u8 l2).length = l2.length := nums_length _ _
  rw [List.take_left' e1, e2, List.drop_append, nums_append, List.drop_of_length_le (by omega), e1, List.nil_append, List.drop_replicate]
  congr 2
  simp
  omega
theorem Bf.cell {W : World} {q E : Nat} {l : List Int} (h : Bf W q E l) (j : Nat) (hj : j < l.length) : W.cell? ⟨q, j, none⟩ = some (.int .u8 (l.getD j 0)) := by
  rw [blk_cell h.1 j]
  simp [bufL, nums, List.getElem?_append, hj, List.getD_eq_getElem?_getD]
theorem Bf.at_ {W : World} {q E : Nat} {l : List Int} (h : Bf W q E l) (j : Nat) (hj : j < E) : ∃ v, W.cell? ⟨q, j, none⟩ = some v ∧ W.frozen? ⟨q, j, none⟩ = false := by
  have hlen : j < (bufL E l).length := by rw [bufL_length h.2]; exact hj
  exact ⟨_, (blk_cell h.1 j).trans (by rw [List.getElem?_toArray, List.getElem?_eq_getElem hlen]), blk_frozen h.1 j⟩
theorem Bf.conv {W : World} {q E : Nat} {l : List Int} (h : Bf W q E l) (hl : l.length = E) : (convert 50 9 (.slice (some ⟨q, 0, none⟩) E E)).run Tryz.prog W = .ok (.string (strOfNums l)) W := by
  refine run_convert_bytes_arg W 50 5 Tryz.underlying50 Tryz.underlying5 q 0 E E l hl (fun i hi => ?_) 9 Tryz.underlying9
  rw [Nat.zero_add]
  exact h.cell i (by omega)
theorem Bf.lt {W : World} {q E : Nat} {l : List Int} (h : Bf W q E l) : q < W.heap.size := blk_lt h.1
theorem Bf.drew {W : World} {q E : Nat} {l : List Int} (h : Bf W q E l) : Bf W.drew q E l := h
theorem Bf.run_copy {W : World} {q E : Nat} {l l2 : List Int} (h : Bf W q E l) (hl : l.length + l2.length ≤ E) (b c sLen : Nat) (hs : sLen = l2.length) (hc : ∀ j, j < l2.length → W.cell? ⟨b, j, none⟩ = some (.int .u8 (l2.getD j 0))) (dLen dCap : Nat) (hd : dLen = E - l.length) (ty : TypeId) :
    ∃ W2, (Builtin.copy_ #[50, 50] ty #[.slice (some ⟨q, l.length, none⟩) dLen dCap, .slice (some ⟨b, 0, none⟩) sLen c]).run Tryz.prog W = .ok (goInt sLen) W2 ∧ Bf W2 q E (l ++ l2) ∧ (∀ B w0, B ≤ q → Below B w0 W → Below B w0 W2) := by
  have hr := run_copy_row (P := Tryz.prog) W 50 50 ty 5 q l.length dLen dCap ⟨b, 0, none⟩ sLen c (bufL E l).toArray 5 (nums .u8 l2) Tryz.underlying50 (by
      have h5 := info5
      obtain ⟨i, hi, hz⟩ := Option.map_eq_some_iff.1 h5
      rw [hi]
      simp only [Prod.mk.injEq] at hz
      simp [hz.2.1]) h.1 (by rw [nums_length, hs, hd]; exact (Nat.min_eq_left (by omega)).symm) (fun j v hj => by
      rw [add_plain]
      have hjl : j < l2.length := by
        have := (List.getElem?_eq_some_iff.1 hj).1
        rw [nums_length] at this
        exact this
      rw [hc j hjl, ← hj]
      simp [nums, List.getD_eq_getElem?_getD, List.getElem?_eq_getElem hjl]) (by simp [bufL_length h.2, nums_length]; omega) (fun v hv => by
      unfold nums at hv
      obtain ⟨x, _, rfl⟩ := List.mem_map.1 hv
      rfl)
  refine ⟨_, hr.trans ?_, h.copy hl, fun B w0 hB hb => ?_⟩
  · rw [nums_length, hs]
  · exact hb.trans ⟨rfl, rfl, rfl, by simp [World.setRow], fun k hk => setRow_other W q k _ (by omega)⟩
end Go.Proofs.YthbdjmopolpjmaaGreatDoor.C
end
section
set_option linter.unusedVariables false
set_option linter.unusedSimpArgs false
namespace Go.Proofs.YthbdjmopolpjmaaGreatDoor.C
open Go.RowKit Go.Proofs.YthbdjmopolpjmaaGreatDoorW.PrintWords Go.Proofs.YthbdjmopolpjmaaGreatDoorW.PrintLast Go.Proofs.YthbdjmopolpjmaaGreatDoorW.PrintMore Go.Proofs.YthbdjmopolpjmaaGreatDoor.F Go.Proofs.YthbdjmopolpjmaaGreatDoor.M
namespace Rep
def Rt (p : Nat) (W : World) : Prop := ∃ C : Array Value, W.heap[p]? = some (.cells C 258 (0, 0)) ∧ (∀ j, j < 256 → j ∉ [10, 9, 92] → C[j]? = some (.slice none 0 0)) ∧
  (∀ o : Nat, o ∈ [10, 9, 92] → ∃ b c, C[o]? = some (.slice (some ⟨b, 0, none⟩) 2 c) ∧ ByB W b (escN o)) ∧
  ∃ t c, C[256]? = some (.slice (some ⟨t, 0, none⟩) 3 c) ∧ (∃ cs fr, W.heap[t]? = some (.cells cs 9 fr) ∧ cs[0]? = some (.string (one 10)) ∧ cs[1]? = some (.string (one 9)) ∧ cs[2]? = some (.string (one 92)))
theorem Rt.below {p : Nat} {W W1 : World} (h : Rt p W) (hb : Below W.heap.size W W1) : Rt p W1 := by
  obtain ⟨C, h1, h2, h3, t, c, h4, cs, fr, h6, h7⟩ := h
  refine ⟨C, blk_below h1 hb, h2, fun o ho => ?_, t, c, h4, cs, fr, blk_below h6 hb, h7⟩
  obtain ⟨b, c', e1, e3⟩ := h3 o ho
  exact ⟨b, c', e1, e3.same (hb.block b e3.lt)⟩
theorem cell_blk {W : World} {b : Nat} {cs : Array Value} {t : Nat} {fr : Nat × Nat} (h : W.heap[b]? = some (.cells cs t fr)) (j : Nat) : W.cell? ⟨b, j, none⟩ = cs[j]? := cell_of_row W b j cs t fr h
theorem Rt.nil {p : Nat} {W : World} (h : Rt p W) (j : Nat) (hj : j < 256) (hn : j ∉ [10, 9, 92]) : W.cell? ⟨p, j, none⟩ = some (.slice none 0 0) := by
  obtain ⟨C, h1, h2, _⟩ := h
  exact (blk_cell h1 j).trans (h2 j hj hn)
theorem Rt.two {p : Nat} {W : World} (h : Rt p W) (o : Nat) (ho : o ∈ [10, 9, 92]) : ∃ b c, W.cell? ⟨p, o, none⟩ = some (.slice (some ⟨b, 0, none⟩) 2 c) ∧ (∀ j, j < (escN o).length → W.cell? ⟨b, j, none⟩ = some (.int .u8 ((escN o).getD j 0))) := by
  obtain ⟨C, h1, h2, h3, _⟩ := h
  obtain ⟨b, c, e1, cs, fr, e3, e4⟩ := h3 o ho
  exact ⟨b, c, (blk_cell h1 o).trans e1, fun j hj => (cell_blk e3 j).trans (e4 j hj)⟩
theorem Rt.list {p : Nat} {W : World} (h : Rt p W) : ∃ t c, W.cell? ⟨p, 256, none⟩ = some (.slice (some ⟨t, 0, none⟩) 3 c) ∧ W.cell? ⟨t, 0, none⟩ = some (.string (one 10)) ∧ W.cell? ⟨t, 1, none⟩ = some (.string (one 9)) ∧ W.cell? ⟨t, 2, none⟩ = some (.string (one 92)) := by
  obtain ⟨C, h1, h2, h3, t, c, h4, cs, fr, h6, h7, h8, h9⟩ := h
  exact ⟨t, c, (blk_cell h1 256).trans h4, (cell_blk h6 0).trans h7, (cell_blk h6 1).trans h8, (cell_blk h6 2).trans h9⟩
theorem count_call (s : ByteArray) (c : UInt8) (w : World) : Calls Tryz.prog 36 #[.string s, .string ⟨#[c]⟩] w fun e w' => e = .returned (.int .i64 (Lib.countByte s.data.toList c)) ∧ w = w' := (Tryz.strings_Count_one s c w).mono fun e w' ⟨h, k⟩ => ⟨h, k.symm⟩
theorem count_le (l : List UInt8) (c : UInt8) : Lib.countByte l c ≤ l.length := List.count_le_length
def cj (s : ByteArray) : Nat → Nat
  | 0 => 0
  | 1 => Lib.countByte s.data.toList 10
  | 2 => Lib.countByte s.data.toList 10 + Lib.countByte s.data.toList 9
  | _ => Lib.countByte s.data.toList 10 + Lib.countByte s.data.toList 9 + Lib.countByte s.data.toList 92
theorem cj_le (s : ByteArray) (j : Nat) : cj s j ≤ 3 * s.size := by
  have h1 := count_le s.data.toList 10
  have h2 := count_le s.data.toList 9
  have h3 := count_le s.data.toList 92
  rw [data_length] at h1 h2 h3
  match j with
  | 0 => simp [cj]
  | 1 => simp only [cj]; omega
  | 2 => simp only [cj]; omega
  | j + 3 => simp only [cj]; omega
set_option maxRecDepth 100000 in
set_option maxHeartbeats 8000000 in
theorem rep_call (p : Nat) (s : ByteArray) (w : World) (hR : Rt p w) (hs : s.size ≤ 17592186044416) :
    Calls Tryz.prog 312 #[.pointer (some ⟨p, 0, none⟩), .string s] w fun e w' => e = .returned (.string (esc s)) ∧ Below w.heap.size w w' := by
  have HR := Aside0.mk hR
  obtain ⟨E, hE⟩ : ∃ E : Nat, (escL (bytesOf s)).length = E := ⟨_, rfl⟩
  have HE := Aside0.mk hE
  have HS := Aside0.mk hs
  obtain ⟨t, c, l0, l1, l2, l3⟩ := hR.list
  have HL := Aside0.mk (And.intro l1 (And.intro l2 l3))
  clear hR hE l1 l2 l3 hs
  have kn := fun (a : Option Addr) (n c : Nat) (W : World) => run_neq_slice_nil_any (P := Tryz.prog) W 50 5 a n c 0 0 Tryz.underlying50
  have k3 : ∀ (a : UInt8) (h : 0 < ByteArray.size ⟨#[a]⟩), (ByteArray.mk #[a])[0]'h = a := fun _ _ => rfl
  have k1 := sz1
  go_enter Tryz.func312, Tryz.ntmps312
  go_upto_if 26 with (fail)
  go_cut [5, 6] (fun v5 v6 wc => ∃ b, v5 = .int .i64 (E : Int) ∧ v6 = .bool b ∧ Aside0 ((b = true ↔ s.size < E) ∧ Below w.heap.size w wc))
  case first =>
    by_cases h24 : 24 ≤ s.size
    · rw [show decide ((24 : Int) ≤ (s.size : Int)) = true from decide_eq_true (by omega)]
      clear h24
      go_wp2_with fail
      go_loopg [5, 6, 32] 3 (fun kq v5 v6 v32 W => ∃ (j : Nat) (b : Bool), v32 = .int .i64 (j : Int) ∧ v5 = .int .i64 ((s.size + cj s j : Nat) : Int) ∧ v6 = .bool b ∧ Aside0 (j ≤ 3 ∧ 3 ≤ j + kq ∧ (b = true ↔ 0 < cj s j) ∧ Below w.heap.size w W))
      case atStart => exact ⟨0, false, rfl, rfl, rfl, ⟨by omega, by omega, by simp [cj], Below.refl _ _⟩⟩
      case round =>
        obtain ⟨j, b, rfl, rfl, rfl, HJ⟩ := hrel
        have HRr := Aside0.mk (HR.out.below HJ.out.2.2.2)
        have HLr := Aside0.mk (And.intro (cell_later HJ.out.2.2.2 HL.out.1) (And.intro (cell_later HJ.out.2.2.2 HL.out.2.1) (cell_later HJ.out.2.2.2 HL.out.2.2)))
        rcases (show j = 0 ∨ j = 1 ∨ j = 2 ∨ j = 3 from by have := HJ.out.1; omega) with rfl | rfl | rfl | rfl
        · obtain ⟨n, hn⟩ : ∃ n, Lib.countByte s.data.toList 10 = n := ⟨_, rfl⟩
          obtain ⟨m, hm⟩ : ∃ m, cj s 0 = m := ⟨_, rfl⟩
          have hm1 : cj s 1 = m + n := by rw [← hm, ← hn]; simp only [cj]; try omega
          have hml : m + n ≤ 3 * s.size := by rw [← hm1]; exact cj_le s _
          have HN := Aside0.mk (And.intro hn (And.intro hm (And.intro hm1 hml)))
          have ct : wr.cell? ⟨t, 0, none⟩ = some (.string ⟨#[10]⟩) := HLr.out.1
          obtain ⟨b1, c1, cb, _⟩ := HRr.out.two 10 (by decide)
          rw [hm]
          clear hn hm hm1 hml
          go_wp2_with fail
          refine (count_call s 10 _).mono ?_
          rintro e w' ⟨rfl, rfl⟩
          rw [HN.out.1]
          obtain ⟨k1_, rfl⟩ : ∃ k1, gk = k1 + 1 := ⟨gk - 1, by have := HJ.out.2.1; omega⟩
          by_cases h0 : n = 0
          · subst h0
            have h00 : (((0 : Nat) : Int) != 0) = false := rfl
            go_wp2_with fail
            go_roundg k1_
            case measure => omega
            case rel =>
              have e := HN.out.2.2.1
              have em := HN.out.2.1
              refine ⟨1, b, by go_num, by rw [e]; rfl, rfl, ⟨by omega, by have := HJ.out.2.1; omega, ?_, HJ.out.2.2.2⟩⟩
              have hb := HJ.out.2.2.1
              rw [e]; rw [em] at hb
              exact hb
          · have h00 : ((n : Int) != 0) = true := bne_iff_ne.mpr (by omega)
            have e1 : IntKind.i64.wrap ((n : Int) * 1) = (n : Int) := by rw [i64_w, w64 (by omega) (by have := HN.out.2.2.2; have := HS.out; omega)]; omega
            have e2 : IntKind.i64.wrap (((s.size + m : Nat) : Int) + (n : Int)) = ((s.size + (m + n) : Nat) : Int) := by rw [i64_w, w64 (by omega) (by have := HN.out.2.2.2; have := HS.out; omega)]; omega
            have HZ := Aside0.mk h0
            clear h0
            go_wp2_with fail
            go_quiet (fail)
            go_wp2_with fail
            go_roundg k1_
            case measure => omega
            case rel =>
              have hnn := HN.out
              have hss := HS.out
              refine ⟨1, true, by go_num, ?_, rfl, ⟨by omega, by have := HJ.out.2.1; omega, ?_, pw_below_drewN HJ.out.2.2.2 _⟩⟩
              · have hw1 : wrap64 (n : Int) = (n : Int) := w64 (by omega) (by omega)
                have hw2 : wrap64 ((s.size : Int) + (m : Int) + (n : Int)) = (s.size : Int) + (m : Int) + (n : Int) := w64 (by omega) (by omega)
                rw [hw1, hw2, hnn.2.2.1]
                exact congrArg (Value.int .i64) (by omega)
              · rw [hnn.2.2.1]
                have := HZ.out
                exact ⟨fun _ => by omega, fun _ => rfl⟩
        · obtain ⟨n, hn⟩ : ∃ n, Lib.countByte s.data.toList 9 = n := ⟨_, rfl⟩
          obtain ⟨m, hm⟩ : ∃ m, cj s 1 = m := ⟨_, rfl⟩
          have hm1 : cj s 2 = m + n := by rw [← hm, ← hn]; simp only [cj]; try omega
          have hml : m + n ≤ 3 * s.size := by rw [← hm1]; exact cj_le s _
          have HN := Aside0.mk (And.intro hn (And.intro hm (And.intro hm1 hml)))
          have ct : wr.cell? ⟨t, 1, none⟩ = some (.string ⟨#[9]⟩) := HLr.out.2.1
          obtain ⟨b1, c1, cb, _⟩ := HRr.out.two 9 (by decide)
          rw [hm]
          clear hn hm hm1 hml
          go_wp2_with fail
          refine (count_call s 9 _).mono ?_
          rintro e w' ⟨rfl, rfl⟩
          rw [HN.out.1]
          obtain ⟨k1_, rfl⟩ : ∃ k1, gk = k1 + 1 := ⟨gk - 1, by have := HJ.out.2.1; omega⟩
          by_cases h0 : n = 0
          · subst h0
            have h00 : (((0 : Nat) : Int) != 0) = false := rfl
            go_wp2_with fail
            go_roundg k1_
            case measure => omega
            case rel =>
              have e := HN.out.2.2.1
              have em := HN.out.2.1
              refine ⟨2, b, by go_num, by rw [e]; rfl, rfl, ⟨by omega, by have := HJ.out.2.1; omega, ?_, HJ.out.2.2.2⟩⟩
              have hb := HJ.out.2.2.1
              rw [e]; rw [em] at hb
              exact hb
          · have h00 : ((n : Int) != 0) = true := bne_iff_ne.mpr (by omega)
            have e1 : IntKind.i64.wrap ((n : Int) * 1) = (n : Int) := by rw [i64_w, w64 (by omega) (by have := HN.out.2.2.2; have := HS.out; omega)]; omega
            have e2 : IntKind.i64.wrap (((s.size + m : Nat) : Int) + (n : Int)) = ((s.size + (m + n) : Nat) : Int) := by rw [i64_w, w64 (by omega) (by have := HN.out.2.2.2; have := HS.out; omega)]; omega
            have HZ := Aside0.mk h0
            clear h0
            go_wp2_with fail
            go_quiet (fail)
            go_wp2_with fail
            go_roundg k1_
            case measure => omega
            case rel =>
              have hnn := HN.out
              have hss := HS.out
              refine ⟨2, true, by go_num, ?_, rfl, ⟨by omega, by have := HJ.out.2.1; omega, ?_, pw_below_drewN HJ.out.2.2.2 _⟩⟩
              · have hw1 : wrap64 (n : Int) = (n : Int) := w64 (by omega) (by omega)
                have hw2 : wrap64 ((s.size : Int) + (m : Int) + (n : Int)) = (s.size : Int) + (m : Int) + (n : Int) := w64 (by omega) (by omega)
                rw [hw1, hw2, hnn.2.2.1]
                exact congrArg (Value.int .i64) (by omega)
              · rw [hnn.2.2.1]
                have := HZ.out
                exact ⟨fun _ => by omega, fun _ => rfl⟩
        · obtain ⟨n, hn⟩ : ∃ n, Lib.countByte s.data.toList 92 = n := ⟨_, rfl⟩
          obtain ⟨m, hm⟩ : ∃ m, cj s 2 = m := ⟨_, rfl⟩
          have hm1 : cj s 3 = m + n := by rw [← hm, ← hn]; simp only [cj]; try omega
          have hml : m + n ≤ 3 * s.size := by rw [← hm1]; exact cj_le s _
          have HN := Aside0.mk (And.intro hn (And.intro hm (And.intro hm1 hml)))
          have ct : wr.cell? ⟨t, 2, none⟩ = some (.string ⟨#[92]⟩) := HLr.out.2.2
          obtain ⟨b1, c1, cb, _⟩ := HRr.out.two 92 (by decide)
          rw [hm]
          clear hn hm hm1 hml
          go_wp2_with fail
          refine (count_call s 92 _).mono ?_
          rintro e w' ⟨rfl, rfl⟩
          rw [HN.out.1]
          obtain ⟨k1_, rfl⟩ : ∃ k1, gk = k1 + 1 := ⟨gk - 1, by have := HJ.out.2.1; omega⟩
          by_cases h0 : n = 0
          · subst h0
            have h00 : (((0 : Nat) : Int) != 0) = false := rfl
            go_wp2_with fail
            go_roundg k1_
            case measure => omega
            case rel =>
              have e := HN.out.2.2.1
              have em := HN.out.2.1
              refine ⟨3, b, by go_num, by rw [e]; rfl, rfl, ⟨by omega, by have := HJ.out.2.1; omega, ?_, HJ.out.2.2.2⟩⟩
              have hb := HJ.out.2.2.1
              rw [e]; rw [em] at hb
              exact hb
          · have h00 : ((n : Int) != 0) = true := bne_iff_ne.mpr (by omega)
            have e1 : IntKind.i64.wrap ((n : Int) * 1) = (n : Int) := by rw [i64_w, w64 (by omega) (by have := HN.out.2.2.2; have := HS.out; omega)]; omega
            have e2 : IntKind.i64.wrap (((s.size + m : Nat) : Int) + (n : Int)) = ((s.size + (m + n) : Nat) : Int) := by rw [i64_w, w64 (by omega) (by have := HN.out.2.2.2; have := HS.out; omega)]; omega
            have HZ := Aside0.mk h0
            clear h0
            go_wp2_with fail
            go_quiet (fail)
            go_wp2_with fail
            go_roundg k1_
            case measure => omega
            case rel =>
              have hnn := HN.out
              have hss := HS.out
              refine ⟨3, true, by go_num, ?_, rfl, ⟨by omega, by have := HJ.out.2.1; omega, ?_, pw_below_drewN HJ.out.2.2.2 _⟩⟩
              · have hw1 : wrap64 (n : Int) = (n : Int) := w64 (by omega) (by omega)
                have hw2 : wrap64 ((s.size : Int) + (m : Int) + (n : Int)) = (s.size : Int) + (m : Int) + (n : Int) := w64 (by omega) (by omega)
                rw [hw1, hw2, hnn.2.2.1]
                exact congrArg (Value.int .i64) (by omega)
              · rw [hnn.2.2.1]
                have := HZ.out
                exact ⟨fun _ => by omega, fun _ => rfl⟩
        · go_wp2_with fail
          go_meet
          case rel =>
            refine ⟨b, ?_, rfl, ⟨?_, HJ.out.2.2.2⟩⟩
            · have hE := esc_count s
              rw [HE.out] at hE
              rw [hE]
              exact congrArg (Value.int .i64) (by simp only [cj]; omega)
            · have hE := esc_count s
              rw [HE.out] at hE
              have hb := HJ.out.2.2.1
              simp only [cj] at hb
              rw [hb]
              omega
    · rw [show decide ((24 : Int) ≤ (s.size : Int)) = false from decide_eq_false (by omega)]
      clear h24
      go_wp2_with fail
      go_loopg [5, 6, 10] s.size (fun kq v5 v6 v10 W => ∃ (i : Nat) (b : Bool) (m : Nat), v10 = .int .i64 (i : Int) ∧ v5 = .int .i64 ((s.size + m : Nat) : Int) ∧ v6 = .bool b ∧ Aside0 (i ≤ s.size ∧ s.size ≤ i + kq ∧ (escL ((bytesOf s).take i)).length = i + m ∧ (b = true ↔ 0 < m) ∧ Below w.heap.size w W))
      case atStart => exact ⟨0, false, 0, rfl, rfl, rfl, ⟨by omega, by omega, by simp [escL], by simp, Below.refl _ _⟩⟩
      case round =>
        obtain ⟨i, b, m, rfl, rfl, rfl, HJ⟩ := hrel
        have HRr := Aside0.mk (HR.out.below HJ.out.2.2.2.2)
        have hml : m ≤ s.size := by
          have h1 := (escL_len ((bytesOf s).take i)).2
          have h2 : ((bytesOf s).take i).length ≤ i := List.length_take_le _ _
          have := HJ.out.1
          have := HJ.out.2.2.1
          omega
        have HM := Aside0.mk hml
        clear hml
        by_cases hi : i < s.size
        · obtain ⟨x, hx0⟩ : ∃ x, bt s (i : Int) = x := ⟨_, rfl⟩
          have hxr := bt_range s (i : Int)
          have hx : ∀ h : i < s.size, ((s[i]'h).toNat : Int) = x := by rw [← hx0]; exact bt_at s (i : Int)
          have hstep := escL_take s i hi
          rw [hx0] at hxr hstep
          obtain ⟨xn, hxn⟩ : ∃ xn : Nat, x = (xn : Int) := ⟨x.toNat, by omega⟩
          subst hxn
          have HX := Aside0.mk (And.intro hi (And.intro hxr (And.intro hstep hx0)))
          have hi1 := eq_true hi
          have hb1 := eq_true (show (xn : Int) < 256 by omega)
          have hb2 := eq_true (show xn < 256 by omega)
          obtain ⟨k1_, rfl⟩ : ∃ k1, gk = k1 + 1 := ⟨gk - 1, by have := HJ.out.2.1; omega⟩
          clear hi hxr hstep hx0
          by_cases hsp : xn ∈ [10, 9, 92]
          · obtain ⟨b1, c1, cb, _⟩ := HRr.out.two xn hsp
            have HSP := Aside0.mk hsp
            clear hsp
            go_wp2_with fail
            go_roundg k1_
            case measure => omega
            case rel =>
              have h2 : (escN (xn : Int)).length = 2 := escN_two (by have := HSP.out; simp at this; omega)
              refine ⟨i + 1, true, m + 1, congrArg (Value.int .i64) (by rw [w64 (by omega) (by have := HX.out.1; have := HS.out; omega)]; omega), ?_, rfl, ⟨by have := HX.out.1; omega, by have := HJ.out.2.1; omega, ?_, by simp, HJ.out.2.2.2.2⟩⟩
              · have := HM.out
                have := HS.out
                have hw : ∀ y : Int, y = ((s.size + m : Nat) : Int) + 1 → wrap64 y = ((s.size + (m + 1) : Nat) : Int) := fun y hy => by rw [w64 (by omega) (by omega)]; omega
                first | exact congrArg (Value.int .i64) (hw _ (by omega)) | exact congrArg (Value.int .i64) (by omega)
              · rw [HX.out.2.2.1, List.length_append, h2, HJ.out.2.2.1]
                omega
          · have cb := HRr.out.nil xn (by have := HX.out.2.1; omega) hsp
            have HSP := Aside0.mk hsp
            clear hsp
            go_wp2_with fail
            go_roundg k1_
            case measure => omega
            case rel =>
              have h2 : (escN (xn : Int)).length = 1 := by
                have := HSP.out
                simp at this
                rw [escN_plain (by omega) (by omega) (by omega)]
                rfl
              refine ⟨i + 1, b, m, congrArg (Value.int .i64) (by rw [w64 (by omega) (by have := HX.out.1; have := HS.out; omega)]; omega), rfl, rfl, ⟨by have := HX.out.1; omega, by have := HJ.out.2.1; omega, ?_, HJ.out.2.2.2.1, HJ.out.2.2.2.2⟩⟩
              rw [HX.out.2.2.1, List.length_append, h2, HJ.out.2.2.1]
              omega
        · have hi1 := eq_false hi
          have HI := Aside0.mk hi
          have hi2 : decide ((i : Int) < (s.size : Int)) = false := decide_eq_false (by omega)
          clear hi
          go_wp2_with fail
          go_meet
          case rel =>
            have he : i = s.size := by have := HJ.out.1; have := HI.out; omega
            have h3 := HJ.out.2.2.1
            rw [List.take_of_length_le (by rw [bytesOf_length]; omega), HE.out, he] at h3
            refine ⟨b, by rw [h3], rfl, ⟨?_, HJ.out.2.2.2.2⟩⟩
            rw [HJ.out.2.2.2.1, h3]
            omega
  case rest =>
    obtain ⟨b, rfl, rfl, HB⟩ := hcut
    have HRc := Aside0.mk (HR.out.below HB.out.2)
    cases b with
    | false =>
      go_wp2_with fail
      go_ret
      have h1 := (escL_len (bytesOf s)).1
      rw [HE.out, bytesOf_length] at h1
      have h2 := HB.out.1
      have h3 : ¬ s.size < E := fun h => absurd (h2.2 h) (by decide)
      exact ⟨by rw [esc_same (by rw [HE.out]; omega)]; rfl, HB.out.2⟩
    | true =>
      have hE2 : E ≤ 2 * s.size := by
        have h1 := (escL_len (bytesOf s)).2
        rw [HE.out, bytesOf_length] at h1
        exact h1
      have HE2 := Aside0.mk hE2
      have hmk := print_make (P := Tryz.prog) 50 5 .u8 1 Tryz.underlying50 info5 (by decide) E (by have := HS.out; omega)
      obtain ⟨W0, hW0⟩ : ∃ W0, wc.alloc (.cells (madeCells #[.int .u8 0] E) 5) = W0 := ⟨_, rfl⟩
      have hbf := Bf.start wc E
      have hbc : Below wc.heap.size wc W0 := by rw [← hW0]; exact below_alloc (Below.refl _ _) _
      have hmk2 : (Instr.makeSlice 50 (.int .i64 (E : Int)) (.int .i64 (E : Int))).run Tryz.prog wc = .ok (.slice (some ⟨wc.heap.size, 0, none⟩) E E) W0 := by rw [hmk wc, hW0]
      rw [hW0] at hbf
      obtain ⟨q, hq⟩ : ∃ q, wc.heap.size = q := ⟨_, rfl⟩
      rw [hq] at hbf hmk2
      have HQ := Aside0.mk hq
      have HB0 := Aside0.mk (And.intro hbf (And.intro hbc HB.out.2))
      clear hmk hW0 hbf hbc hE2 HB HR l0 HL hq
      go_wp2_with fail
      clear hmk2
      go_loopg [13, 14] s.size (fun kq v13 v14 W => ∃ (i j : Nat), v14 = .int .i64 (i : Int) ∧ v13 = .int .i64 (j : Int) ∧ Aside0 (i ≤ s.size ∧ s.size ≤ i + kq ∧ (escL ((bytesOf s).take i)).length = j ∧ Bf W q E (escL ((bytesOf s).take i)) ∧ Below wc.heap.size wc W))
      case atStart => exact ⟨0, 0, rfl, rfl, ⟨by omega, by omega, rfl, HB0.out.1, HB0.out.2.1⟩⟩
      case round =>
        obtain ⟨i, j, rfl, rfl, HJ⟩ := hrel
        have HRr := Aside0.mk (HRc.out.below HJ.out.2.2.2.2)
        by_cases hi : i < s.size
        · obtain ⟨x, hx0⟩ : ∃ x, bt s (i : Int) = x := ⟨_, rfl⟩
          have hxr := bt_range s (i : Int)
          have hx : ∀ h : i < s.size, ((s[i]'h).toNat : Int) = x := by rw [← hx0]; exact bt_at s (i : Int)
          have hstep := escL_take s i hi
          have htot : (escL ((bytesOf s).take (i + 1))).length ≤ E := by
            rw [← HE.out]
            conv => rhs; rw [← List.take_append_drop (i + 1) (bytesOf s), escL_append, List.length_append]
            omega
          rw [hx0] at hxr hstep
          obtain ⟨xn, hxn⟩ : ∃ xn : Nat, x = (xn : Int) := ⟨x.toNat, by omega⟩
          subst hxn
          have HX := Aside0.mk (And.intro hi (And.intro hxr (And.intro hstep htot)))
          have hi1 := eq_true hi
          have hb1 := eq_true (show (xn : Int) < 256 by omega)
          have hb2 := eq_true (show xn < 256 by omega)
          obtain ⟨k1_, rfl⟩ : ∃ k1, gk = k1 + 1 := ⟨gk - 1, by have := HJ.out.2.1; omega⟩
          clear hi hxr hx0
          by_cases hsp : xn ∈ [10, 9, 92]
          · obtain ⟨b1, c1, cb, hby⟩ := HRr.out.two xn hsp
            have h2 : (escN (xn : Int)).length = 2 := escN_two (by simp at hsp; omega)
            have hj2 : j + 2 ≤ E := by rw [hstep, List.length_append, h2, HJ.out.2.2.1] at htot; exact htot
            have HSP := Aside0.mk (And.intro hsp (And.intro hby (And.intro h2 hj2)))
            clear hsp hby h2 hj2 hstep htot
            go_wp2_with fail
            have hne : ¬ E = j := by have := HSP.out.2.2.2; omega
            obtain ⟨i05, hi05, _, hsz5, _⟩ := info_parts info5
            have hcut := cut_from (P := Tryz.prog) 50 5 .i64 Tryz.underlying50 hi05 1 hsz5 (some ⟨q, 0, none⟩) E E (j : Int) (by omega) (by have := HSP.out.2.2.2; omega)
            have hadd : (⟨q, 0, none⟩ : Addr).add (j * 1) = ⟨q, j, none⟩ := by rw [Nat.mul_one]; exact add_plain q j
            simp only [Int.toNat_natCast, if_neg hne, Option.map_some, hadd] at hcut
            have hjb := HJ.out.2.2.1
            obtain ⟨W2, hc2, hbf2, hbw2⟩ := Bf.run_copy (W := wr.drew) (l2 := escN (xn : Int)) HJ.out.2.2.2.1 (by rw [hjb, HSP.out.2.2.1]; exact HSP.out.2.2.2) b1 c1 2 HSP.out.2.2.1.symm HSP.out.2.1 (E - j) (E - j) (by rw [hjb]) 3
            rw [hjb] at hc2
            have HC := Aside0.mk (And.intro hbf2 (hbw2 wc.heap.size wc (Nat.le_of_eq HQ.out) (below_drew HJ.out.2.2.2.2)))
            have hqj : 0 ≤ (j : Int) ∧ (j : Int) ≤ (E : Int) := by have := HSP.out.2.2.2; omega
            have hq1 := eq_true hqj.1
            have hq2 := eq_true hqj.2
            clear hi05 hsz5 hadd hjb hbf2 hbw2 hne hqj
            go_region
            clear hc2
            go_wp2_with fail
            go_roundg k1_
            case measure => omega
            case rel =>
              have hEb := HE2.out
              have hsb := HS.out
              have hjE := HSP.out.2.2.2
              refine ⟨i + 1, j + 2, congrArg (Value.int .i64) (by rw [w64 (by omega) (by have := HX.out.1; omega)]; omega), congrArg (Value.int .i64) (by rw [w64 (by omega) (by omega)]; omega), ⟨by have := HX.out.1; omega, by have := HJ.out.2.1; omega, ?_, ?_, HC.out.2⟩⟩
              · rw [HX.out.2.2.1, List.length_append, HSP.out.2.2.1, HJ.out.2.2.1]
              · rw [HX.out.2.2.1]; exact HC.out.1
          · have cb := HRr.out.nil xn (by have := HX.out.2.1; omega) hsp
            have h2 : (escN (xn : Int)) = [(xn : Int)] := by
              simp at hsp
              exact escN_plain (by omega) (by omega) (by omega)
            have hj2 : j < E := by rw [hstep, List.length_append, h2, HJ.out.2.2.1] at htot; simp at htot; omega
            have hjb := HJ.out.2.2.1
            obtain ⟨v0, g1, g2⟩ := HJ.out.2.2.2.1.at_ j hj2
            have hst := HJ.out.2.2.2.1.store (by rw [hjb]; exact hj2) (xn : Int)
            rw [hjb] at hst
            have hqe := eq_true hj2
            have hqe2 := eq_true (show (j : Int) < (E : Int) by omega)
            obtain ⟨W2, hW2⟩ : ∃ W2, wr.setCell ⟨q, j, none⟩ (.int .u8 (xn : Int)) = W2 := ⟨_, rfl⟩
            rw [hW2] at hst
            have hbl : Below wc.heap.size wc W2 := by rw [← hW2]; exact Below.setCell (p := ⟨q, j, none⟩) HJ.out.2.2.2.2 (Nat.le_of_eq HQ.out) _
            have HSP := Aside0.mk (And.intro h2 (And.intro hst (And.intro hbl hj2)))
            clear h2 hj2 hjb hst hbl hsp hstep htot
            go_wp2_with fail
            go_roundg k1_
            case measure => omega
            case rel =>
              have hEb := HE2.out
              have hsb := HS.out
              have hjE := HSP.out.2.2.2
              refine ⟨i + 1, j + 1, congrArg (Value.int .i64) (by rw [w64 (by omega) (by have := HX.out.1; omega)]; omega), congrArg (Value.int .i64) (by rw [w64 (by omega) (by omega)]; omega), ⟨by have := HX.out.1; omega, by have := HJ.out.2.1; omega, ?_, ?_, HSP.out.2.2.1⟩⟩
              · rw [HX.out.2.2.1, HSP.out.1, List.length_append, HJ.out.2.2.1]; rfl
              · rw [HX.out.2.2.1, HSP.out.1]; exact HSP.out.2.1
        · have hi1 := eq_false hi
          have HI := Aside0.mk hi
          have hi2 : decide ((i : Int) < (s.size : Int)) = false := decide_eq_false (by omega)
          have he : (bytesOf s).take i = bytesOf s := List.take_of_length_le (by rw [bytesOf_length]; omega)
          have hbf := HJ.out.2.2.2.1
          rw [he] at hbf
          have hcv := hbf.conv HE.out
          have HBE := Aside0.mk (below_then HB0.out.2.2 HB0.out.2.2.size HJ.out.2.2.2.2)
          clear hi he hbf
          go_wp2_with fail
          go_ret
          exact ⟨rfl, HBE.out⟩
end Rep
end Go.Proofs.YthbdjmopolpjmaaGreatDoor.C
end
section
set_option linter.unusedVariables false
set_option linter.unusedSimpArgs false
namespace Go.Proofs.YthbdjmopolpjmaaGreatDoor.C
open Go.RowKit Go.Proofs.YthbdjmopolpjmaaGreatDoorW.PrintWords Go.Proofs.YthbdjmopolpjmaaGreatDoorW.PrintLast Go.Proofs.YthbdjmopolpjmaaGreatDoorW.PrintMore Go.Proofs.YthbdjmopolpjmaaGreatDoor.F Go.Proofs.YthbdjmopolpjmaaGreatDoor.M
namespace Rep
theorem Rp.rt {g p : Nat} {W : World} (h : Rp g (.iface 259 (.pointer (some ⟨p, 0, none⟩))) W) : Rt p W := by
  obtain ⟨p', hp, _, C, h1, h2, h3, t, c, h4, h5, h6⟩ := h
  have hpp : p = p' := by
    injection hp with _ hp
    injection hp with hp
    injection hp with hp
    injection hp with hp
  subst hpp
  refine ⟨C, h1, h2, fun o ho => ?_, t, c, h4, h6⟩
  obtain ⟨b, c', e1, _, e3⟩ := h3 o ho
  exact ⟨b, c', e1, e3⟩
theorem method_replace (a : Addr) (w : World) : (Go.method 490 259 (.pointer (some a)) "Replace").run Tryz.prog w = .ok (312, .pointer (some a)) w := by kernel_rfl
theorem ahead_replace (a : Addr) (w : World) : (Go.nilAhead 490 259 (.pointer (some a)) "Replace").run Tryz.prog w = .ok (some false) w := by kernel_rfl
set_option maxRecDepth 100000 in
set_option maxHeartbeats 4000000 in
theorem replace_call (g b c : Nat) (s : ByteArray) (w : World) (hb : w.heap[g]? = some (Once.ob 0 0 .nilIface (.slice (some ⟨b, 0, none⟩) 6 c))) (h6 : Six w b) (hbg : b ≠ g) (hs : s.size ≤ 17592186044416) :
    Calls Tryz.prog 55 #[.pointer (some ⟨g, 0, none⟩), .string s] w fun e W' => e = .returned (.string (esc s)) ∧ Chg (fun k => k = g) w W' := by
  have HH := Aside0.mk (And.intro hb (And.intro h6 (And.intro hbg hs)))
  have hbuild : Once.Builds g w (.slice (some ⟨b, 0, none⟩) 6 c) (Rp g) := by
    intro W hc hW
    refine once_call g b c W hW ?_
    have hbl : ∀ j v, w.cell? ⟨b, j, none⟩ = some v → W.cell? ⟨b, j, none⟩ = some v := by
      intro j v hv
      have hlt : b < w.heap.size := World.block_lt_of_cell? _ _ hv
      have e := hc.block b hlt hbg
      unfold World.cell? at hv ⊢
      rw [e]
      exact hv
    obtain ⟨q0, q1, q2, q3, q4, q5⟩ := h6
    exact ⟨hbl _ _ q0, hbl _ _ q1, hbl _ _ q2, hbl _ _ q3, hbl _ _ q4, hbl _ _ q5⟩
  have HBu := Aside0.mk hbuild
  clear hb h6 hbg hs hbuild
  have m1 := method_replace
  have m2 := ahead_replace
  go_enter Tryz.func55, Tryz.ntmps55
  go_wp2_with fail
  refine (Once.do_call g w _ (Rp g) HH.out.1 (rp_stays g) HBu.out).mono ?_
  rintro e w1 ⟨rfl, r, o', hb1, hr, hc⟩
  obtain ⟨p, rfl, _⟩ := id hr
  unfold Once.ob at hb1
  have c3 : w1.cell? ⟨g, 3, none⟩ = some (.iface 259 (.pointer (some ⟨p, 0, none⟩))) := (blk_cell hb1 3).trans rfl
  have HR := Aside0.mk (And.intro hr.rt hc)
  clear hb1 hr hc
  go_wp2_with fail
  refine (rep_call p s _ HR.out.1 HH.out.2.2.2).mono ?_
  rintro e w2 ⟨rfl, hb2⟩
  have HF := Aside0.mk (HR.out.2.then_below hb2)
  clear hb2
  go_wp2_with fail
  go_ret
  exact ⟨rfl, HF.out⟩
theorem six_lit (w : World) : Kd.string.C (w.alloc (.cells #[.string ⟨#[92]⟩, .string ⟨#[92, 92]⟩, .string ⟨#[9]⟩, .string ⟨#[92, 116]⟩, .string ⟨#[10]⟩, .string ⟨#[92, 110]⟩] 9)) (some ⟨w.heap.size, 0, none⟩) 6 six := by
  have h := own_lit_of (enc := Value.string) w w.heap.size 9 six (Nat.le_refl _) (by decide)
  have hR : Kd.string.R 9 (w.alloc (.cells (encs Value.string six).toArray 9)) w.heap.size (fun _ => True) (.slice (some ⟨w.heap.size, 0, none⟩) 6 6) six := Kd.R_of_own h (fun _ _ => trivial)
  obtain ⟨A, c, he, _, hC⟩ := Kd.R_reads hR
  injection he with e1 e2 e3
  subst e1
  exact hC
end Rep
set_option maxRecDepth 100000 in
set_option maxHeartbeats 4000000 in
theorem shielded_call (s : ByteArray) (w : World) (hs : s.size ≤ 17592186044416) :
    Calls Tryz.prog 23 #[.string s] w fun e w' => e = .returned (.string (esc s)) ∧ Below w.heap.size w w' := by
  have HS := Aside0.mk hs
  have H6 := Aside0.mk (Rep.six_lit w)
  clear hs
  go_enter Tryz.func23, Tryz.ntmps23
  go_wp2_with fail
  refine (Rep.newReplacer_call _ _ _ H6.out).mono ?_
  rintro e w1 ⟨g, b, c', rfl, h1, h2, h3, h4, h5⟩
  have HN := Aside0.mk (And.intro h1 (And.intro h2 (And.intro h3 (And.intro h4 h5))))
  clear h1 h2 h3 h4 h5
  go_wp2_with fail
  refine (Rep.replace_call g b c' s _ HN.out.1 HN.out.2.2.1 HN.out.2.1 HS.out).mono ?_
  rintro e w2 ⟨rfl, hc⟩
  have HF := Aside0.mk hc
  clear hc
  go_wp2_with fail
  go_ret
  refine ⟨rfl, ?_⟩
  have hb0 : Below w.heap.size w w1 := below_then (below_alloc (Below.refl w.heap.size w) _) (by simp) HN.out.2.2.2.2
  have hg := HN.out.2.2.2.1
  have hgw : w.heap.size ≤ g := by simp at hg; omega
  refine ⟨HF.out.os.trans hb0.os, HF.out.tape.trans hb0.tape, HF.out.output.trans hb0.output, Nat.le_trans hb0.size HF.out.size, fun i hi => ?_⟩
  exact (HF.out.block i (Nat.lt_of_lt_of_le hi hb0.size) (by omega)).trans (hb0.block i hi)
end Go.Proofs.YthbdjmopolpjmaaGreatDoor.C
end
