/- Part 10 of the proof: MGuess, CGuess, CDivide, MDivide, Shelf. -/
import Derived.Lib.BitFns
import Derived.Lib.ItoaNum
import Derived.RegionCalls
import Derived.Shelf.Small.Bits
import Derived.Test.YthbdjmopolpjmaaGreatDoorProg
import Derived.Test.YthbdjmopolpjmaaGreatDoorD00
import Derived.Test.YthbdjmopolpjmaaGreatDoorD01
import Derived.Test.YthbdjmopolpjmaaGreatDoorD02
import Derived.Test.YthbdjmopolpjmaaGreatDoorD03
import Derived.Test.YthbdjmopolpjmaaGreatDoorD04
import Derived.Test.YthbdjmopolpjmaaGreatDoorD08
import Derived.Test.YthbdjmopolpjmaaGreatDoorD09
section
set_option linter.unusedVariables false
set_option linter.unusedSimpArgs false
namespace Go.Proofs.YthbdjmopolpjmaaGreatDoor.M
open Go.RowKit Go.Proofs.YthbdjmopolpjmaaGreatDoorW.PrintWords Go.Proofs.YthbdjmopolpjmaaGreatDoor.F Go.Proofs.YthbdjmopolpjmaaGreatDoorW.PrintMore
def Left (U V : Int) (n : Nat) (q : Int) (r : List Int) : Prop := 0 ≤ q ∧ q < 4294967296 ∧ Dig 4294967296 r ∧ r.length = n + 1 ∧ U = q * V + val 4294967296 r ∧ val 4294967296 r < V
def Back (v u y : List Int) (low : Bool) : Prop := Dig 4294967296 y ∧ y.length = v.length + 1 ∧ ∃ c : Int, (c = 0 ∧ low = true ∨ c = 1 ∧ low = false) ∧ val 4294967296 y + 4294967296 ^ (v.length + 1) * c = val 4294967296 u + val 4294967296 v
theorem addback_ev {v : List Int} (hv : Dig 4294967296 v) (hl : v.length < 70368744177664) (u : List Int) (hu : Dig 4294967296 u) (hul : u.length = v.length + 1) (q : Int) :
    ∀ (d i : Nat) (x : List Int) (c : Int), i + d = v.length → x.length = v.length + 1 → Dig 4294967296 x → x.drop i = u.drop i → 0 ≤ c → c ≤ 1 → val 4294967296 (x.take i) + 4294967296 ^ i * c = val 4294967296 (u.take i) + val 4294967296 (v.take i) →
    ∃ y low, Back v u y low ∧ ∀ res, Ev (fun k => ample_guess.l1 k y v (v.length : Int) (IntKind.u64.wrap (q - 1)) low) res → Ev (fun k => ample_guess.l2 k x v (v.length : Int) q c v (v.length : Int) (i : Int)) res := by
  intro d
  induction d with
  | zero =>
    intro i x c hi hxl hxd hdr h0 h1 hvv
    obtain rfl : i = v.length := by omega
    have bx := dig_rd hxd v.length (by simp; omega)
    have hrd : rd x v.length = rd u v.length := rd_of_drop (by omega) hdr
    have hs := split32 (c + rd x v.length) (by omega) (by omega)
    have hc2 : (c + rd x v.length) / 4294967296 = 0 ∨ (c + rd x v.length) / 4294967296 = 1 := by omega
    refine ⟨x.set v.length ((c + rd x v.length) % 4294967296), (c + rd x v.length) / 4294967296 == 0, ⟨dig_set hxd _ ⟨hs.1, hs.2.1⟩, by simpa using hxl, (c + rd x v.length) / 4294967296, ?_, ?_⟩, fun res hr => Ev.step (fun k => ?_) hr⟩
    · rcases hc2 with h | h <;> simp [h]
    · have e1 : val 4294967296 (x.set v.length ((c + rd x v.length) % 4294967296)) = val 4294967296 (x.take v.length) + 4294967296 ^ v.length * ((c + rd x v.length) % 4294967296) := by
        rw [← val_take_set _ x v.length _ (by omega), List.take_of_length_le (by simp; omega)]
      have e2 : val 4294967296 u = val 4294967296 (u.take v.length) + 4294967296 ^ v.length * rd u v.length := by
        rw [← val_take_succ _ u v.length (by omega), List.take_of_length_le (by omega)]
      rw [e1, e2, Int.pow_succ, ← hrd]
      rw [List.take_of_length_le (Nat.le_refl v.length)] at hvv
      have h5 := hs.2.2.2.2
      generalize (c + rd x v.length) % 4294967296 = lo at *
      generalize (c + rd x v.length) / 4294967296 = hi at *
      generalize (4294967296 : Int) ^ v.length = P at *
      grind
    · simp only [ample_guess.l2]
      rw [if_neg (by omega), if_pos (by omega), if_pos (by omega), u64 bx.1 (by omega), u64 (show 0 ≤ c + rd x v.length by omega) (by omega), Int.toNat_natCast]
  | succ d ih =>
    intro i x c hi hxl hxd hdr h0 h1 hvv
    have hiv : i < v.length := by omega
    have bx := dig_rd hxd i (by simp; omega)
    have bv := dig_rd hv i (by simp; omega)
    have hrd : rd x i = rd u i := rd_of_drop (by omega) hdr
    have hs := split32 (c + (rd x i + rd v i)) (by omega) (by omega)
    obtain ⟨y, low, hb, he⟩ := ih (i + 1) (x.set i ((c + (rd x i + rd v i)) % 4294967296)) ((c + (rd x i + rd v i)) / 4294967296) (by omega) (by simpa using hxl) (dig_set hxd i ⟨hs.1, hs.2.1⟩) (by rw [drop_set_succ]; exact drop_succ_of hdr) (by omega) (by omega) (by
      rw [val_take_set _ x i _ (by omega), val_take_succ _ u i (by omega), val_take_succ _ v i hiv, Int.pow_succ, ← hrd]
      have h5 := hs.2.2.2.2
      generalize (c + (rd x i + rd v i)) % 4294967296 = lo at *
      generalize (c + (rd x i + rd v i)) / 4294967296 = hi at *
      generalize (4294967296 : Int) ^ i = P at *
      grind)
    refine ⟨y, low, hb, fun res hr => Ev.step (fun k => ?_) (he res hr)⟩
    simp only [ample_guess.l2]
    rw [if_pos (by omega), if_pos (by omega), if_pos (by omega), if_pos (by omega), u64 bx.1 (by omega), u64 bv.1 (by omega), u64 (show 0 ≤ rd x i + rd v i by omega) (by omega), u64 (show 0 ≤ c + (rd x i + rd v i) by omega) (by omega), w64 (by omega) (by omega), Int.toNat_natCast]
    rfl
theorem correct_ev {v : List Int} (hv : Dig 4294967296 v) (hl : v.length < 70368744177664) (U : Int) (hU : 0 ≤ U) : ∀ (d : Nat) (q : Int) (x : List Int) (neg : Bool), q.toNat = d → 0 ≤ q → q < 4294967296 → Dig 4294967296 x → x.length = v.length + 1 → U - q * val 4294967296 v < val 4294967296 v →
    val 4294967296 x = U - q * val 4294967296 v + (if neg then 4294967296 ^ (v.length + 1) else 0) → (neg = true → U - q * val 4294967296 v < 0) →
    ∃ q' r, Ev (fun k => ample_guess.l1 k x v (v.length : Int) q neg) (q', r) ∧ Left U (val 4294967296 v) v.length q' r := by
  intro d
  induction d with
  | zero =>
    intro q x neg hq h0 h1 hxd hxl hV hval hneg
    obtain rfl : q = 0 := by omega
    cases neg with
    | true => have := hneg rfl; omega
    | false =>
      refine ⟨0, x, Ev.step (f := fun _ => some (0, x)) (fun k => by simp [ample_guess.l1]) (Ev.now _), by omega, by omega, hxd, hxl, ?_, ?_⟩ <;> simp at hval ⊢ <;> omega
  | succ d ih =>
    intro q x neg hq h0 h1 hxd hxl hV hval hneg
    cases neg with
    | false =>
      refine ⟨q, x, Ev.step (f := fun _ => some (q, x)) (fun k => ?_) (Ev.now _), by omega, by omega, hxd, hxl, ?_, ?_⟩
      · simp only [ample_guess.l1]
        rw [if_neg (by simp), Int.emod_eq_of_lt h0 h1]
      · simp at hval; omega
      · simp at hval; omega
    | true =>
      have hn := hneg rfl
      simp only [if_true] at hval
      have uq : IntKind.u64.wrap (q - 1) = q - 1 := u64 (by omega) (by omega)
      have hm : (q - 1) * val 4294967296 v = q * val 4294967296 v - val 4294967296 v := by rw [Int.sub_mul]; omega
      have hvn := val_nonneg (B := 4294967296) (by omega) hv
      obtain ⟨y, low, ⟨hyd, hyl, c, hc, hy⟩, he⟩ := addback_ev hv hl x hxd hxl q v.length 0 x 0 (by omega) hxl hxd rfl (by omega) (by omega) (by simp [val])
      have hlt := val_lt (B := 4294967296) (by omega) hyd
      have hxn := val_nonneg (B := 4294967296) (by omega) hyd
      rw [hyl] at hlt
      rw [uq] at he
      obtain ⟨q', r, hq', hr⟩ := ih (q - 1) y low (by omega) (by omega) (by omega) hyd hyl (by omega) (by
        rcases hc with ⟨rfl, rfl⟩ | ⟨rfl, rfl⟩
        · simp only [if_true]; omega
        · simp; omega) (by
        rcases hc with ⟨rfl, rfl⟩ | ⟨rfl, rfl⟩
        · intro _; omega
        · intro h; simp at h)
      refine ⟨q', r, Ev.step (fun k => ?_) (he _ hq'), hr⟩
      simp only [ample_guess.l1, if_true]
      rfl
theorem mulsub_ev {v : List Int} (hv : Dig 4294967296 v) (hl : v.length < 70368744177664) (u : List Int) (hu : Dig 4294967296 u) (hul : u.length = v.length + 1) (q : Int) (hq0 : 0 ≤ q) (hq : q < 4294967296) (hbig : val 4294967296 u - q * val 4294967296 v < val 4294967296 v) :
    ∀ (d i : Nat) (x : List Int) (c b : Int), i + d = v.length → x.length = v.length + 1 → Dig 4294967296 x → x.drop i = u.drop i → 0 ≤ c → c ≤ 4294967295 → 0 ≤ b → b ≤ 1 → val 4294967296 (x.take i) - 4294967296 ^ i * (c + b) = val 4294967296 (u.take i) - q * val 4294967296 (v.take i) →
    ∃ q' r, Ev (fun k => ample_guess.l0 k x v (v.length : Int) q c b v (v.length : Int) (i : Int)) (q', r) ∧ Left (val 4294967296 u) (val 4294967296 v) v.length q' r := by
  intro d
  induction d with
  | zero =>
    intro i x c b hi hxl hxd hdr h0 h1 hb0 hb1 hvv
    obtain rfl : i = v.length := by omega
    have bx := dig_rd hxd v.length (by simp; omega)
    have hrd : rd x v.length = rd u v.length := rd_of_drop (by omega) hdr
    have hw1 : IntKind.u64.wrap (IntKind.u64.wrap (rd x v.length - c) - b) = (rd x v.length - c - b) % 18446744073709551616 := by rw [IntKind.wrap_u64, IntKind.wrap_u64]; omega
    have e2 : val 4294967296 u = val 4294967296 (u.take v.length) + 4294967296 ^ v.length * rd u v.length := by
      rw [← val_take_succ _ u v.length (by omega), List.take_of_length_le (by omega)]
    have hun := val_nonneg (B := 4294967296) (by omega) hu
    rw [List.take_of_length_le (Nat.le_refl v.length)] at hvv
    have e1 : ∀ z, val 4294967296 (x.set v.length z) = val 4294967296 (x.take v.length) + 4294967296 ^ v.length * z := fun z => by
      rw [← val_take_set _ x v.length _ (by omega), List.take_of_length_le (by simp; omega)]
    have eS : val 4294967296 u - q * val 4294967296 v = val 4294967296 (x.take v.length) + 4294967296 ^ v.length * (rd x v.length - c - b) := by
      rw [e2, ← hrd]
      generalize (4294967296 : Int) ^ v.length = P at *
      grind
    have hxt := val_nonneg (B := 4294967296) (by omega) (dig_take hxd v.length)
    have hxt2 := val_lt (B := 4294967296) (by omega) (dig_take hxd v.length)
    rw [List.length_take, Nat.min_eq_left (by omega)] at hxt2
    have hP := pow_pos' (B := 4294967296) (by omega) v.length
    have go := correct_ev hv hl (val 4294967296 u) hun q.toNat q (x.set v.length ((rd x v.length - c - b) % 18446744073709551616 % 4294967296)) ((rd x v.length - c - b) % 18446744073709551616 / 9223372036854775808 == 1) rfl hq0 hq (dig_set hxd _ (by omega)) (by simpa using hxl) hbig (by
      rw [e1, eS]
      by_cases hD : 0 ≤ rd x v.length - c - b
      · have a1 : (rd x v.length - c - b) % 18446744073709551616 % 4294967296 = rd x v.length - c - b := by omega
        have a2 : ((rd x v.length - c - b) % 18446744073709551616 / 9223372036854775808 == 1) = false := by rw [beq_eq_false_iff_ne]; omega
        rw [a1, a2]; simp
      · have a1 : (rd x v.length - c - b) % 18446744073709551616 % 4294967296 = rd x v.length - c - b + 4294967296 := by omega
        have a2 : ((rd x v.length - c - b) % 18446744073709551616 / 9223372036854775808 == 1) = true := by rw [beq_iff_eq]; omega
        rw [a1, a2, if_pos rfl, Int.pow_succ]
        generalize (4294967296 : Int) ^ v.length = P at *
        grind) (by
      intro hneg
      rw [beq_iff_eq] at hneg
      have hD : rd x v.length - c - b ≤ -1 := by omega
      rw [eS]
      have := Int.mul_le_mul_of_nonneg_left hD (Int.le_of_lt hP)
      omega)
    obtain ⟨q', r, he, hr⟩ := go
    refine ⟨q', r, Ev.step (fun k => ?_) he, hr⟩
    simp only [ample_guess.l0]
    rw [if_neg (by omega), if_pos (by omega), if_pos (by omega), u64 bx.1 (by omega), hw1, Int.toNat_natCast]
  | succ d ih =>
    intro i x c b hi hxl hxd hdr h0 h1 hb0 hb1 hvv
    have hiv : i < v.length := by omega
    have bx := dig_rd hxd i (by simp; omega)
    have bv := dig_rd hv i (by simp; omega)
    have hrd : rd x i = rd u i := rd_of_drop (by omega) hdr
    have bm := mul_le32 hq0 hq bv.1 bv.2
    have hs := split32 (c + q * rd v i) (by omega) (by omega)
    have hhi : (c + q * rd v i) / 4294967296 ≤ 4294967295 := by omega
    have hand : Go.bits .and .u64 (c + q * rd v i) 4294967295 = (c + q * rd v i) % 4294967296 := and64 (by omega) (by omega)
    have hw1 : IntKind.u64.wrap (IntKind.u64.wrap (rd x i - (c + q * rd v i) % 4294967296) - b) = (rd x i - (c + q * rd v i) % 4294967296 - b) % 18446744073709551616 := by rw [IntKind.wrap_u64, IntKind.wrap_u64]; omega
    have hb' : ∃ b', (rd x i - (c + q * rd v i) % 4294967296 - b) % 18446744073709551616 / 9223372036854775808 = b' ∧ 0 ≤ b' ∧ b' ≤ 1 ∧ (rd x i - (c + q * rd v i) % 4294967296 - b) % 18446744073709551616 % 4294967296 = rd x i - (c + q * rd v i) % 4294967296 - b + 4294967296 * b' := by
      refine ⟨_, rfl, ?_⟩
      have := hs.1
      have := hs.2.1
      generalize (c + q * rd v i) % 4294967296 = lo at *
      omega
    obtain ⟨b', eb, b0', b1', ev⟩ := hb'
    obtain ⟨q', r, he, hr⟩ := ih (i + 1) (x.set i ((rd x i - (c + q * rd v i) % 4294967296 - b) % 18446744073709551616 % 4294967296)) ((c + q * rd v i) / 4294967296) b' (by omega) (by simpa using hxl) (dig_set hxd i (by omega)) (by rw [drop_set_succ]; exact drop_succ_of hdr) hs.2.2.1 hhi b0' b1' (by
      rw [val_take_set _ x i _ (by omega), val_take_succ _ u i (by omega), val_take_succ _ v i hiv, Int.pow_succ, ← hrd, ev]
      have h5 := hs.2.2.2.2
      generalize (c + q * rd v i) % 4294967296 = lo at *
      generalize (c + q * rd v i) / 4294967296 = hi at *
      generalize (4294967296 : Int) ^ i = P at *
      grind)
    refine ⟨q', r, Ev.step (fun k => ?_) he, hr⟩
    simp only [ample_guess.l0]
    rw [if_pos (by omega), if_pos (by omega), if_pos (by omega), if_pos (by omega), u64 bx.1 (by omega), u64 bv.1 (by omega), u64 bm.1 (by omega), u64 (show 0 ≤ c + q * rd v i by omega) (by omega), hand, hw1, eb, w64 (by omega) (by omega), Int.toNat_natCast]
    rfl
theorem guess_tells {u v : List Int} (hu : Dig 4294967296 u) (hv : Dig 4294967296 v) (hul : u.length = v.length + 1) (hvl : 0 < v.length) (hl : v.length < 70368744177664) (htop : rd v ((v.length : Int) - 1) ≠ 0) (hlt : val 4294967296 u < val 4294967296 v * 4294967296) :
    ∃ q r, Ev (fun k => ample_guess.f k u v) (q, r) ∧ Left (val 4294967296 u) (val 4294967296 v) v.length q r := by
  have bt := dig_rd hv ((v.length : Int) - 1) (by omega)
  have b1 := dig_rd hu (v.length : Int) (by omega)
  have b0 := dig_rd hu ((v.length : Int) - 1) (by omega)
  have hx0 : 0 ≤ rd u v.length * 4294967296 + rd u ((v.length : Int) - 1) := by omega
  have hQ0 : 0 ≤ (rd u v.length * 4294967296 + rd u ((v.length : Int) - 1)) / rd v ((v.length : Int) - 1) := Int.ediv_nonneg hx0 bt.1
  have hQ1 : (rd u v.length * 4294967296 + rd u ((v.length : Int) - 1)) / rd v ((v.length : Int) - 1) < 18446744073709551616 :=
    Int.lt_of_le_of_lt (Int.ediv_le_self _ hx0) (by omega)
  have hn : ((v.length - 1 : Nat) : Int) = (v.length : Int) - 1 := by omega
  have eu1 : val 4294967296 u = val 4294967296 (u.take (v.length - 1)) + 4294967296 ^ (v.length - 1) * (rd u v.length * 4294967296 + rd u ((v.length : Int) - 1)) := by
    have a1 := val_take_succ 4294967296 u v.length (by omega)
    rw [List.take_of_length_le (by omega)] at a1
    have a2 := val_take_succ 4294967296 u (v.length - 1) (by omega)
    rw [show v.length - 1 + 1 = v.length by omega, hn] at a2
    rw [a1, a2]
    have : (4294967296 : Int) ^ v.length = 4294967296 ^ (v.length - 1) * 4294967296 := by rw [← Int.pow_succ]; congr 1; omega
    rw [this]
    generalize (4294967296 : Int) ^ (v.length - 1) = P
    grind
  have ev1 : val 4294967296 v = val 4294967296 (v.take (v.length - 1)) + 4294967296 ^ (v.length - 1) * rd v ((v.length : Int) - 1) := by
    have a2 := val_take_succ 4294967296 v (v.length - 1) (by omega)
    rw [show v.length - 1 + 1 = v.length by omega, hn, List.take_of_length_le (Nat.le_refl _)] at a2
    exact a2
  have ult := val_lt (B := 4294967296) (by omega) (dig_take hu (v.length - 1))
  rw [List.length_take, Nat.min_eq_left (by omega)] at ult
  have vn := val_nonneg (B := 4294967296) (by omega) (dig_take hv (v.length - 1))
  have hP := pow_pos' (B := 4294967296) (by omega) (v.length - 1)
  have hgt := Int.lt_ediv_add_one_mul_self (rd u v.length * 4294967296 + rd u ((v.length : Int) - 1)) (show 0 < rd v ((v.length : Int) - 1) by omega)
  have big : ∀ Q : Int, 0 ≤ Q → rd u v.length * 4294967296 + rd u ((v.length : Int) - 1) < (Q + 1) * rd v ((v.length : Int) - 1) → val 4294967296 u - Q * val 4294967296 v < val 4294967296 v := by
    intro Q hQ h
    have h1 : 4294967296 ^ (v.length - 1) * (rd u v.length * 4294967296 + rd u ((v.length : Int) - 1) + 1) ≤ 4294967296 ^ (v.length - 1) * ((Q + 1) * rd v ((v.length : Int) - 1)) := Int.mul_le_mul_of_nonneg_left (by omega) (Int.le_of_lt hP)
    rw [Int.mul_add] at h1
    have h2 := Int.mul_nonneg (show 0 ≤ Q + 1 by omega) vn
    have h3 : (Q + 1) * val 4294967296 v = (Q + 1) * val 4294967296 (v.take (v.length - 1)) + 4294967296 ^ (v.length - 1) * ((Q + 1) * rd v ((v.length : Int) - 1)) := by
      rw [ev1]
      generalize (4294967296 : Int) ^ (v.length - 1) = P
      grind
    have h4 : (Q + 1) * val 4294967296 v = Q * val 4294967296 v + val 4294967296 v := by rw [Int.add_mul]; omega
    rw [eu1]
    omega
  have hmn : ∃ Q, mn ((rd u v.length * 4294967296 + rd u ((v.length : Int) - 1)) / rd v ((v.length : Int) - 1)) 4294967295 = Q ∧ 0 ≤ Q ∧ Q < 4294967296 ∧ val 4294967296 u - Q * val 4294967296 v < val 4294967296 v := by
    refine ⟨_, rfl, ?_⟩
    unfold mn
    split
    · refine ⟨by omega, by omega, ?_⟩
      have : val 4294967296 v * 4294967296 = 4294967295 * val 4294967296 v + val 4294967296 v := by omega
      omega
    · exact ⟨hQ0, by omega, big _ hQ0 hgt⟩
  obtain ⟨Q, eQ, q0, q1, qb⟩ := hmn
  obtain ⟨q, r, he, hr⟩ := mulsub_ev hv hl u hu hul Q q0 q1 qb v.length 0 u 0 0 (by omega) hul hu rfl (by omega) (by omega) (by omega) (by omega) (by simp [val])
  refine ⟨q, r, Ev.congr (fun k => ?_) he, hr⟩
  unfold ample_guess.f
  rw [w64 (by omega) (by omega), if_pos (by omega), if_pos (by omega), if_pos (by omega), if_pos (by omega), if_pos (by omega), u64 bt.1 (by omega), if_neg htop, u64 b1.1 (by omega), u64 b0.1 (by omega), u64 (show 0 ≤ rd u v.length * 4294967296 by omega) (by omega), or64 b1.1 b1.2 b0.1 b0.2, Int.tdiv_eq_ediv_of_nonneg hx0, u64 hQ0 hQ1, eQ]
  rfl
end Go.Proofs.YthbdjmopolpjmaaGreatDoor.M
end
section
set_option linter.unusedVariables false
set_option linter.unusedSimpArgs false
namespace Go.Proofs.YthbdjmopolpjmaaGreatDoor.C
open Go.RowKit Go.Proofs.YthbdjmopolpjmaaGreatDoorW.PrintWords Go.Proofs.YthbdjmopolpjmaaGreatDoorW.PrintLast Go.Proofs.YthbdjmopolpjmaaGreatDoorW.PrintMore Go.Proofs.YthbdjmopolpjmaaGreatDoor.F Go.Proofs.YthbdjmopolpjmaaGreatDoor.M
attribute [local go_sem] max2_int min2_int max_two min_two max_three min_three max_four min_four
structure Mut (t : TypeId) (kd : IntKind) (w w' : World) (g o n : Nat) (x : List Int) : Prop where
  len : x.length = n
  cell : ∀ j, j < n → w'.cell? ⟨g, o + j, none⟩ = some (.int kd (x.getD j 0))
  free : ∀ j, w'.frozen? ⟨g, j, none⟩ = false
  chg : Chg (· = g) w w'
  out : ∀ j, j < o ∨ o + n ≤ j → w'.cell? ⟨g, j, none⟩ = w.cell? ⟨g, j, none⟩
  ty : ∃ cells, w'.heap[g]? = some (.cells cells t (0, 0))
theorem Mut.at {t : TypeId} {kd : IntKind} {w w' : World} {g o n : Nat} {x : List Int} (h : Mut t kd w w' g o n x) (i : Int) (h0 : 0 ≤ i) (h1 : i < n) : w'.cell? ⟨g, o + i.toNat, none⟩ = some (.int kd (rd x i)) ∧ w'.frozen? ⟨g, o + i.toNat, none⟩ = false :=
  ⟨h.cell i.toNat (by omega), h.free _⟩
theorem cell_set_ne {w : World} {g i j : Nat} {v : Value} (h : i ≠ j) : (w.setCell ⟨g, i, none⟩ v).cell? ⟨g, j, none⟩ = w.cell? ⟨g, j, none⟩ := by
  rw [World.cell?_setCell_other]
  intro e; injection e; omega
theorem Mut.set {t : TypeId} {kd : IntKind} {w w' : World} {g o n : Nat} {x : List Int} (h : Mut t kd w w' g o n x) (i : Int) (h0 : 0 ≤ i) (h1 : i < n) (v : Int) : Mut t kd w (w'.setCell ⟨g, o + i.toNat, none⟩ (.int kd v)) g o n (x.set i.toNat v) := by
  obtain ⟨cells, hc⟩ := h.ty
  have hs := blk_set hc (o + i.toNat) (.int kd v)
  refine ⟨by rw [List.length_set]; exact h.len, fun j hj => ?_, fun j => blk_frozen hs j, h.chg.setCell _ (.inl rfl) _, fun j hj => ?_, ⟨_, hs⟩⟩
  · by_cases e : i.toNat = j
    · subst e
      have hx := h.cell i.toNat (by omega)
      rw [blk_cell hc] at hx
      have hlt : o + i.toNat < cells.size := (Array.getElem?_eq_some_iff.1 hx).1
      rw [blk_cell hs]
      simp [hlt, h.len, hj]
    · rw [cell_set_ne (by omega), h.cell j hj]
      simp [List.getElem?_set_ne e]
  · rw [cell_set_ne (by omega)]
    exact h.out j hj
theorem Mut.drewN {t : TypeId} {kd : IntKind} {w w' : World} {g o n : Nat} {x : List Int} (h : Mut t kd w w' g o n x) (m : Nat) : Mut t kd w (w'.drewN m) g o n x := ⟨h.len, h.cell, h.free, h.chg.drewN m, h.out, h.ty⟩
set_option maxHeartbeats 8000000 in
set_option maxRecDepth 100000 in
theorem guess_call (k g o c0 : Nat) (l0 : List Int) (A1 : Option Addr) (c1 : Nat) (l1 : List Int) (r1 : Int) (r2 : List Int) (w : World) (n : Nat) (hm : Mut 131 .u32 w w g o n l0)
    (hV : ∀ W, Chg (· = g) w W → Kd.C (Kd.int .u32) W A1 l1.length l1) (hc1 : l1.length ≤ c1) (h : ample_guess.f k l0 l1 = some (r1, r2)) :
    Calls Tryz.prog 209 #[.slice (some ⟨g, o, none⟩) n c0, .slice A1 l1.length c1] w fun e w' => e = .returned (.int .u32 r1) ∧ Mut 131 .u32 w w' g o n r2 := by
  have HM := Aside0.mk hm
  have HL := Aside0.mk hm.len
  have HV := Aside0.mk hV
  have HC1 := Aside0.mk hc1
  have hlen := hm.len
  clear hm hV hc1
  unfold ample_guess.f at h
  by_cases c3 : 0 ≤ (l1.length : Int)
  case neg => exact absurd c3 (by omega)
  rw [if_pos c3] at h
  clear c3
  by_cases c4 : (l1.length : Int) < (l0.length : Int)
  case neg => rw [if_neg c4] at h; exact absurd h (by simp)
  rw [if_pos c4] at h
  rw [hlen] at c4 h
  have c4b0 : decide ((l1.length : Int) < (n : Int)) = true := decide_eq_true c4
  have c4b1 : decide (l1.length < n) = true := decide_eq_true (Int.ofNat_lt.mp c4)
  obtain ⟨ji5, hji5⟩ : ∃ j_ : Int, (wrap64 ((l1.length : Int) - 1)) = j_ := ⟨_, rfl⟩
  rw [hji5] at h
  have hji5w : (IntKind.i64.wrap ((l1.length : Int) - 1)) = ji5 := (i64_w _).trans hji5
  by_cases c6 : 0 ≤ ji5
  case neg => rw [if_neg c6] at h; exact absurd h (by simp)
  rw [if_pos c6] at h
  by_cases c7 : ji5 < (n : Int)
  case neg => rw [if_neg c7] at h; exact absurd h (by simp)
  rw [if_pos c7] at h
  by_cases c8 : ji5 < (l1.length : Int)
  case neg => rw [if_neg c8] at h; exact absurd h (by simp)
  rw [if_pos c8] at h
  by_cases c9 : (IntKind.u64.wrap (rd l1 ji5)) = 0
  case pos => rw [if_pos c9] at h; exact absurd h (by simp)
  rw [if_neg c9] at h
  have c9b0 : ((IntKind.u64.wrap (rd l1 (ji5))) == 0) = false := beq_eq_false_iff_ne.mpr c9
  have c9b1 : ((IntKind.u64.wrap (rd l1 (ji5))) != 0) = true := bne_iff_ne.mpr c9
  obtain ⟨ji10, hji10⟩ : ∃ j_ : Int, (mn (IntKind.u64.wrap (Int.tdiv (Go.bits .or .u64 (IntKind.u64.wrap ((IntKind.u64.wrap (rd l0 (l1.length : Int))) * 4294967296)) (IntKind.u64.wrap (rd l0 (ji5)))) (IntKind.u64.wrap (rd l1 (ji5))))) 4294967295) = j_ := ⟨_, rfl⟩
  rw [hji10] at h
  have hji10_ : (if 4294967295 < (IntKind.u64.wrap (Int.tdiv (Go.bits .or .u64 (IntKind.u64.wrap ((IntKind.u64.wrap (rd l0 (l1.length : Int))) * 4294967296)) (IntKind.u64.wrap (rd l0 (ji5)))) (IntKind.u64.wrap (rd l1 (ji5))))) then 4294967295 else (IntKind.u64.wrap (Int.tdiv (Go.bits .or .u64 (IntKind.u64.wrap ((IntKind.u64.wrap (rd l0 (l1.length : Int))) * 4294967296)) (IntKind.u64.wrap (rd l0 (ji5)))) (IntKind.u64.wrap (rd l1 (ji5)))))) = ji10 := hji10
  have H' := Aside0.mk h
  clear h hji10 hlen
  obtain ⟨hx160, _⟩ := HM.out.at (l1.length : Int) (by omega) c4
  simp only [Int.toNat_natCast] at hx160
  obtain ⟨hx161, _⟩ := HM.out.at ji5 c6 c7
  obtain ⟨ad162, e162, hx162⟩ := Kd.at_int (HV.out w (Chg.refl _ _)) ji5 c6 c8
  cases e162
  have HCH := Aside0.mk (Chg.refl (· = g) w)
  have c6b : decide (0 ≤ ji5) = true := decide_eq_true c6
  have c7b : decide (ji5 < (n : Int)) = true := decide_eq_true c7
  have c8b : decide (ji5 < (l1.length : Int)) = true := decide_eq_true c8
  replace c4 := eq_true c4
  replace c6 := eq_true c6
  replace c7 := eq_true c7
  replace c8 := eq_true c8
  go_enter Tryz.func209, Tryz.ntmps209
  go_wp2
  go_quiet (fail)
  go_wp2
  go_loopg [7, 8, 41] k (fun kq v7 v8 v41 w' => ∃ (x0_1 : List Int) (x7_1 : Int) (x8_1 : Int) (x41_1 : Int), v7 = .int .u64 x7_1 ∧ v8 = .int .u64 x8_1 ∧ v41 = .int .i64 x41_1 ∧ Aside0 (ample_guess.l0 kq x0_1 l1 (l1.length : Int) ji10 x7_1 x8_1 l1 (l1.length : Int) x41_1 = some (r1, r2)) ∧ Aside0 (kq ≤ k) ∧ Aside0 (Mut 131 .u32 w w' g o n x0_1))
  case atStart => exact ⟨l0, 0, 0, 0, (by first | rfl | (simp; done) | (simp [*]; done)), (by first | rfl | (simp; done) | (simp [*]; done)), (by first | rfl | (simp; done) | (simp [*]; done)), H', ⟨Nat.le_refl _⟩, ⟨by first | exact HM.out | exact HM.out.drewN _⟩⟩
  case round =>
    clear H' hji10_ hx160 hx161 hx162 c9 c9b0 c9b1
    obtain ⟨x0_1, x7_1, x8_1, x41_1, rfl, rfl, rfl, HA, HK1, HM1⟩ := hrel
    cases gk with
    | zero => exact absurd HA.out (by simp [ample_guess.l0])
    | succ k1 =>
      have H := HA.out
      clear HA
      have hxl := HM1.out.len
      simp only [ample_guess.l0, hxl] at H
      by_cases d1 : x41_1 < (l1.length : Int)
      · rw [if_pos d1] at H
        by_cases d2 : 0 ≤ x41_1
        case neg => rw [if_neg d2] at H; exact absurd H (by simp)
        rw [if_pos d2, if_pos d1] at H
        by_cases d3 : x41_1 < (n : Int)
        case neg => rw [if_neg d3] at H; exact absurd H (by simp)
        rw [if_pos d3] at H
        have H' := Aside0.mk H
        clear H hxl
        obtain ⟨hx1, hf1⟩ := HM1.out.at x41_1 d2 d3
        obtain ⟨ad2, e2, hx2⟩ := Kd.at_int (HV.out wr HM1.out.chg) x41_1 d2 d1
        cases e2
        have HM2 := Aside0.mk (HM1.out.set x41_1 d2 d3 ((IntKind.u64.wrap ((IntKind.u64.wrap ((IntKind.u64.wrap (rd x0_1 x41_1)) - (Go.bits .and .u64 (IntKind.u64.wrap (x7_1 + (IntKind.u64.wrap (ji10 * (IntKind.u64.wrap (rd l1 x41_1)))))) 4294967295))) - x8_1)) % 4294967296))
        have d1b : decide (x41_1 < (l1.length : Int)) = true := decide_eq_true d1
        replace d1 := eq_true d1
        replace d2 := eq_true d2
        replace d3 := eq_true d3
        clear HM1
        go_wp2
        go_roundg k1
        case measure => have := HK1.out; omega
        case rel => exact ⟨_, _, _, _, rfl, rfl, (by first | rfl | (simp; done)), H', ⟨by have := HK1.out; omega⟩, HM2⟩
      · rw [if_neg d1, if_pos (by omega), if_pos (of_eq_true c4)] at H
        have HM2 := Aside0.mk (HM1.out.set (l1.length : Int) (by omega) (of_eq_true c4) ((IntKind.u64.wrap ((IntKind.u64.wrap ((IntKind.u64.wrap (rd x0_1 (l1.length : Int))) - x7_1)) - x8_1)) % 4294967296))
        simp only [Int.toNat_natCast] at HM2 H
        have H' := Aside0.mk H
        clear H hxl
        obtain ⟨hx1, hf1⟩ := HM1.out.at (l1.length : Int) (by omega) (of_eq_true c4)
        simp only [Int.toNat_natCast] at hx1 hf1
        have d1b : decide (x41_1 < (l1.length : Int)) = false := decide_eq_false d1
        clear d1 HM1
        go_wp2
        go_loopg [6, 13] k1 (fun kq v6 v13 w' => ∃ (x0_2 : List Int) (x6_2 : Int) (x13_2 : Bool), v6 = .int .u64 x6_2 ∧ v13 = .bool x13_2 ∧ Aside0 (ample_guess.l1 kq x0_2 l1 (l1.length : Int) x6_2 x13_2 = some (r1, r2)) ∧ Aside0 (kq ≤ k1) ∧ Aside0 (Mut 131 .u32 w w' g o n x0_2))
        case atStart => exact ⟨_, _, _, rfl, rfl, H', ⟨Nat.le_refl _⟩, HM2⟩
        case round =>
          clear H' HM2 hx1 hf1
          obtain ⟨x0_2, x6_2, x13_2, rfl, rfl, HA, HK2, HM2⟩ := hrel
          cases gk with
          | zero => exact absurd HA.out (by simp [ample_guess.l1])
          | succ k2 =>
            have H := HA.out
            clear HA
            simp only [ample_guess.l1] at H
            cases x13_2 with
            | false =>
              rw [if_neg (by simp)] at H
              simp only [Option.some.injEq, Prod.mk.injEq] at H
              obtain ⟨rfl, rfl⟩ := H
              go_wp2
              go_ret
              exact ⟨rfl, HM2.out⟩
            | true =>
              rw [if_pos rfl] at H
              have H' := Aside0.mk H
              clear H
              go_wp2
              go_loopg [7, 94] k2 (fun kq v7 v94 w' => ∃ (x0_3 : List Int) (x7_3 : Int) (x94_3 : Int), v7 = .int .u64 x7_3 ∧ v94 = .int .i64 x94_3 ∧ Aside0 (ample_guess.l2 kq x0_3 l1 (l1.length : Int) x6_2 x7_3 l1 (l1.length : Int) x94_3 = some (r1, r2)) ∧ Aside0 (kq ≤ k2) ∧ Aside0 (Mut 131 .u32 w w' g o n x0_3))
              case atStart => exact ⟨_, _, _, rfl, rfl, H', ⟨Nat.le_refl _⟩, HM2⟩
              case round =>
                clear H' HM2
                obtain ⟨x0_3, x7_3, x94_3, rfl, rfl, HA, HK3, HM3⟩ := hrel
                cases gk with
                | zero => exact absurd HA.out (by simp [ample_guess.l2])
                | succ k3 =>
                  have H := HA.out
                  clear HA
                  have hxl := HM3.out.len
                  simp only [ample_guess.l2, hxl] at H
                  by_cases d1 : x94_3 < (l1.length : Int)
                  · rw [if_pos d1] at H
                    by_cases d2 : 0 ≤ x94_3
                    case neg => rw [if_neg d2] at H; exact absurd H (by simp)
                    rw [if_pos d2, if_pos d1] at H
                    by_cases d3 : x94_3 < (n : Int)
                    case neg => rw [if_neg d3] at H; exact absurd H (by simp)
                    rw [if_pos d3] at H
                    have H' := Aside0.mk H
                    clear H hxl
                    obtain ⟨hx1, hf1⟩ := HM3.out.at x94_3 d2 d3
                    obtain ⟨ad2, e2, hx2⟩ := Kd.at_int (HV.out wr HM3.out.chg) x94_3 d2 d1
                    cases e2
                    have HM4 := Aside0.mk (HM3.out.set x94_3 d2 d3 ((IntKind.u64.wrap (x7_3 + (IntKind.u64.wrap ((IntKind.u64.wrap (rd x0_3 x94_3)) + (IntKind.u64.wrap (rd l1 x94_3)))))) % 4294967296))
                    have d1b : decide (x94_3 < (l1.length : Int)) = true := decide_eq_true d1
                    replace d1 := eq_true d1
                    replace d2 := eq_true d2
                    replace d3 := eq_true d3
                    clear HM3
                    go_wp2
                    go_roundg k3
                    case measure => have := HK3.out; omega
                    case rel => exact ⟨_, _, _, rfl, rfl, H', ⟨by have := HK3.out; omega⟩, HM4⟩
                  · rw [if_neg d1, if_pos (by omega), if_pos (of_eq_true c4)] at H
                    have HM4 := Aside0.mk (HM3.out.set (l1.length : Int) (by omega) (of_eq_true c4) ((IntKind.u64.wrap (x7_3 + (IntKind.u64.wrap (rd x0_3 (l1.length : Int))))) % 4294967296))
                    simp only [Int.toNat_natCast] at HM4 H
                    have H' := Aside0.mk H
                    clear H hxl
                    obtain ⟨hx1, hf1⟩ := HM3.out.at (l1.length : Int) (by omega) (of_eq_true c4)
                    simp only [Int.toNat_natCast] at hx1 hf1
                    have d1b : decide (x94_3 < (l1.length : Int)) = false := decide_eq_false d1
                    clear d1 HM3
                    go_wp2
                    go_roundg k3
                    case measure => have := HK2.out; have := HK3.out; omega
                    case rel => exact ⟨_, _, _, rfl, rfl, H', ⟨by have := HK2.out; have := HK3.out; omega⟩, HM4⟩
end Go.Proofs.YthbdjmopolpjmaaGreatDoor.C
end
section
set_option linter.unusedVariables false
set_option linter.unusedSimpArgs false
namespace Go.Proofs.YthbdjmopolpjmaaGreatDoor.C
open Go.RowKit Go.Proofs.YthbdjmopolpjmaaGreatDoorW.PrintWords Go.Proofs.YthbdjmopolpjmaaGreatDoorW.PrintLast Go.Proofs.YthbdjmopolpjmaaGreatDoorW.PrintMore Go.Proofs.YthbdjmopolpjmaaGreatDoor.F Go.Proofs.YthbdjmopolpjmaaGreatDoor.M
attribute [local go_sem] max2_int min2_int max_two min_two max_three min_three max_four min_four
def DivPost (q r : List Int) (w : World) (e : Ending) (w' : World) : Prop :=
  ∃ A2 c2 A3 c3, e = .returned (.tuple #[.slice A2 q.length c2, .slice A3 r.length c3]) ∧ q.length ≤ c2 ∧ r.length ≤ c3 ∧ U w' A2 q ∧ U w' A3 r ∧ Below w.heap.size w w'
set_option maxHeartbeats 1000000 in
set_option maxRecDepth 100000 in
theorem divide_less (A0 : Option Addr) (c0 : Nat) (a : List Int) (A1 : Option Addr) (c1 : Nat) (b : List Int) (w : World) (hA : U w A0 a) (ha : a.length ≤ c0) (hB : U w A1 b) (hb : b.length ≤ c1) (wa : Wd a) (wb : Wd b) (hlt : val 4294967296 a < val 4294967296 b) :
    Calls Tryz.prog 159 #[.slice A0 a.length c0, .slice A1 b.length c1] w (DivPost [] a w) := by
  obtain ⟨rc, hr, _, _, hev⟩ := compare_tells wa.1 wb.1 wa.2.1 wb.2.1 (by have := wa.2.2; omega) (by have := wb.2.2; omega)
  obtain ⟨k, hk⟩ := hev.rounds
  have hneg : decide (rc < 0) = true := decide_eq_true (hr.1.2 hlt)
  have HA := Aside0.mk hA
  have Hwa := Aside0.mk wa
  have HCL := Aside0.mk (ample_compare.calls k A0 c0 a A1 c1 b rc w hA.now ha hB.now hb hk)
  clear hA hB wa wb hlt hr hev hk ha hb
  go_enter Tryz.func159, Tryz.ntmps159
  go_wp2_with fail
  refine HCL.out.mono ?_
  rintro e w1 ⟨rfl, hd⟩
  have HD := Aside0.mk hd
  clear hd HCL
  go_wp2_with fail
  refine (clone_u32 A0 c0 a w1 (HA.out.drawn HD.out).now (by have := Hwa.out.2.2; omega)).mono ?_
  rintro e w2 ⟨A', c', rfl, hc', hU', hb'⟩
  have HP := Aside0.mk (show U w2 none [] ∧ a.length ≤ c' ∧ U w2 A' a ∧ Below w.heap.size w w2 from ⟨U.nil _, hc', hU', below_then HD.out.below HD.out.below.size hb'⟩)
  clear hc' hU' hb'
  go_wp2_with fail
  go_ret2
  exact ⟨none, 0, A', c', rfl, Nat.le_refl _, HP.out.2.1, HP.out.1, HP.out.2.2.1, HP.out.2.2.2⟩
theorem lit_u32 (W : World) (xs : List Int) (hm : xs.length ≤ 9223372036854775807) : U (W.alloc (.cells (nums .u32 xs).toArray 131)) (some ⟨W.heap.size, 0, none⟩) xs := by
  have h : Kd.R (Kd.int .u32) 131 (W.alloc (.cells (nums .u32 xs).toArray 131)) W.heap.size (fun _ => True) (.slice (some ⟨W.heap.size, 0, none⟩) xs.length xs.length) xs :=
    Kd.R_of_own (own_lit W W.heap.size 131 .u32 xs (Nat.le_refl _) hm) (fun _ _ => trivial)
  obtain ⟨A, c, e, _, hU⟩ := U.of_R h
  injection e with e1 e2 e3
  subst e1
  exact hU
def IsTrim (xs r : List Int) : Prop := (∃ n, n ≤ xs.length ∧ r = xs.take n) ∧ ∃ k, ample_trim.f k xs = some r
theorem trim_ex {xs : List Int} (hd : Dig 4294967296 xs) (hl : xs.length ≤ 1000000) : ∃ r, IsTrim xs r ∧ Wd r ∧ val 4294967296 r = val 4294967296 xs ∧ r.length ≤ xs.length := by
  obtain ⟨n, hn, ht, hv, he⟩ := trim_tells 4294967296 xs (by omega)
  obtain ⟨k, hk⟩ := he.rounds
  have hlen : (xs.take n).length = n := by rw [List.length_take]; omega
  exact ⟨xs.take n, ⟨⟨n, hn, rfl⟩, k, hk⟩, ⟨dig_take hd n, ht, by omega⟩, hv, by omega⟩
theorem trim_U (A0 : Option Addr) (c0 : Nat) (xs r : List Int) (w : World) (hU : U w A0 xs) (hc0 : xs.length ≤ c0) (h : IsTrim xs r) :
    Calls Tryz.prog 206 #[.slice A0 xs.length c0] w fun e w' => e = .returned (.slice A0 r.length c0) ∧ r.length ≤ c0 ∧ U w' A0 r ∧ Below w.heap.size w w' := by
  obtain ⟨⟨n, hn, rfl⟩, k, hk⟩ := h
  have hlen : (xs.take n).length = n := by rw [List.length_take]; omega
  exact (trim_call k A0 c0 xs _ w hU.now hc0 hk).mono fun e w' ⟨he, hb⟩ => ⟨he, by omega, (hU.below hb).take hn, hb⟩
set_option maxHeartbeats 1000000 in
set_option maxRecDepth 100000 in
theorem divide_small (A0 : Option Addr) (c0 : Nat) (a : List Int) (A1 : Option Addr) (c1 : Nat) (b : List Int) (w : World) (hA : U w A0 a) (ha : a.length ≤ c0) (hB : U w A1 b) (hb : b.length ≤ c1) (wa : Wd a) (wb : Wd b) (hge : val 4294967296 b ≤ val 4294967296 a) (hb1 : b.length = 1) :
    ∃ q r, Wd q ∧ Wd r ∧ val 4294967296 a = val 4294967296 q * val 4294967296 b + val 4294967296 r ∧ val 4294967296 r < val 4294967296 b ∧ Calls Tryz.prog 159 #[.slice A0 a.length c0, .slice A1 b.length c1] w (DivPost q r w) := by
  obtain ⟨rc, hr, _, _, hev⟩ := compare_tells wa.1 wb.1 wa.2.1 wb.2.1 (by have := wa.2.2; omega) (by have := wb.2.2; omega)
  obtain ⟨k, hk⟩ := hev.rounds
  have hneg : decide (rc < 0) = false := decide_eq_false (fun h => by have := hr.1.1 h; omega)
  have hbn : b ≠ [] := by intro e; subst e; simp at hb1
  have hv1 : val 4294967296 b = rd b 0 := by
    match b, hb1 with
    | [x], _ => simp [val, rd]
  have hpos : 0 < rd b 0 := by rw [← hv1]; exact val_pos (by omega) wb.1 wb.2.1 hbn
  have hlt : rd b 0 < 4294967296 := (dig_rd wb.1 0 (by simp; omega)).2
  obtain ⟨q0, r0, hes, hql, hqd, hr0, hr1, hv⟩ := small_tells wa.1 hpos hlt (by have := wa.2.2; omega)
  obtain ⟨k2, hk2⟩ := hes.rounds
  obtain ⟨q, hq, wq, hqv, hqln⟩ := trim_ex hqd (by have := wa.2.2; omega)
  obtain ⟨r, hr', wr, hrv, hrln⟩ := trim_ex (xs := [r0]) (dig_cons.2 ⟨⟨hr0, by omega⟩, dig_nil _⟩) (by simp)
  have hvr : val 4294967296 [r0] = r0 := by simp [val]
  refine ⟨q, r, wq, wr, by rw [hqv, hrv, hvr, hv1]; exact hv, by rw [hrv, hvr, hv1]; exact hr1, ?_⟩
  have HA := Aside0.mk hA
  have HB := Aside0.mk hB
  have Hwa := Aside0.mk wa
  have HL := Aside0.mk (And.intro ha hb)
  have HCL := Aside0.mk (ample_compare.calls k A0 c0 a A1 c1 b rc w hA.now ha hB.now hb hk)
  have hl1 : ((b.length : Int) == 1) = true := by rw [beq_iff_eq]; omega
  have hl0 : (0 : Int) < (b.length : Int) := by omega
  have Hk2 := Aside0.mk hk2
  have Hq := Aside0.mk hq
  have Hr := Aside0.mk hr'
  clear hA hB wa wb hge hr hev hk ha hb hbn hv1 hpos hlt hes hql hqd hr0 hr1 hv hk2 hq wq hqv hqln hr' wr hrv hrln hvr hb1
  go_enter Tryz.func159, Tryz.ntmps159
  go_wp2_with fail
  refine HCL.out.mono ?_
  rintro e w1 ⟨rfl, hd⟩
  have HD := Aside0.mk hd
  have HA1 := Aside0.mk (HA.out.drawn hd)
  obtain ⟨ad, e2, hx2⟩ := Kd.at_int (HB.out.drawn hd).now 0 (by omega) hl0
  cases e2
  have hx2' : w1.cell? ad = some (.int .u32 (rd b 0)) := by simpa [Addr.add] using hx2
  clear hd HCL HB hx2
  go_wp2_with fail
  refine (ample_small.calls k2 A0 c0 a (rd b 0) q0 r0 w1 HA1.out.now HL.out.1 Hk2.out).mono ?_
  rintro e w2 ⟨v0, rfl, hR, hb2⟩
  obtain ⟨Aq, cq, rfl, hcq, hUq⟩ := U.of_R hR
  have HB2 := Aside0.mk hb2
  have HUq := Aside0.mk hUq
  have HCq := Aside0.mk hcq
  clear hR hb2 hUq hcq
  go_wp2_with fail
  refine (trim_U Aq cq q0 q w2 HUq.out HCq.out Hq.out).mono ?_
  rintro e w3 ⟨rfl, hc3, hU3, hb3⟩
  have HP3 := Aside0.mk (And.intro hc3 (And.intro hU3 hb3))
  clear hc3 hU3 hb3
  go_wp2_with fail
  refine (trim_U (some ⟨w3.heap.size, 0, none⟩) 1 [r0] r _ (lit_u32 w3 [r0] (by simp)) (by simp) Hr.out).mono ?_
  rintro e w4 ⟨rfl, hc4, hU4, hb4⟩
  have HP4 := Aside0.mk (And.intro hc4 (And.intro hU4 hb4))
  clear hc4 hU4 hb4
  go_wp2_with fail
  go_ret2
  have h1 := HP3.out
  have h2 := HP4.out
  have hb34 : Below w3.heap.size w3 w4 := below_then (below_alloc (Below.refl _ _) _) (by simp) h2.2.2
  have hb13 : Below w1.heap.size w1 w3 := below_then HB2.out HB2.out.size h1.2.2
  exact ⟨Aq, cq, _, _, rfl, h1.1, h2.1, h1.2.1.below hb34, h2.2.1, below_then HD.out.below HD.out.below.size (below_then hb13 hb13.size hb34)⟩
end Go.Proofs.YthbdjmopolpjmaaGreatDoor.C
end
section
set_option linter.unusedVariables false
set_option linter.unusedSimpArgs false
namespace Go.Proofs.YthbdjmopolpjmaaGreatDoor.M
open Go.RowKit Go.Proofs.YthbdjmopolpjmaaGreatDoorW.PrintWords Go.Proofs.YthbdjmopolpjmaaGreatDoor.F Go.Proofs.YthbdjmopolpjmaaGreatDoorW.PrintMore
structure DivInv (U : Int) (v : List Int) (n m : Nat) (z q : List Int) : Prop where
  zl : z.length = n + v.length
  zd : Dig 4294967296 z
  ql : q.length = n
  qd : Dig 4294967296 q
  hm : m ≤ n
  low : val 4294967296 (z.drop m) < val 4294967296 v
  zero : val 4294967296 (z.drop (m + v.length)) = 0
  sum : U = val 4294967296 z + 4294967296 ^ m * (val 4294967296 (q.drop m) * val 4294967296 v)
def win (z : List Int) (m l : Nat) : List Int := (z.drop m).take (l + 1)
theorem win_len {z : List Int} {m l : Nat} (h : m + l + 1 ≤ z.length) : (win z m l).length = l + 1 := by unfold win; rw [List.length_take, List.length_drop]; omega
theorem win_get {z : List Int} {m l j : Nat} (h : m + l + 1 ≤ z.length) (hj : j < l + 1) : (win z m l).getD j 0 = z.getD (m + j) 0 := by
  unfold win
  simp [List.getElem?_take, hj, List.getElem?_drop]
theorem DivInv.window {U : Int} {v : List Int} {n m : Nat} {z q : List Int} (h : DivInv U v n (m + 1) z q) (hv : Dig 4294967296 v) :
    Dig 4294967296 (win z m v.length) ∧ val 4294967296 (win z m v.length) < val 4294967296 v * 4294967296 ∧ val 4294967296 (z.drop m) = val 4294967296 (win z m v.length) := by
  have hz := h.zl
  have hm := h.hm
  have hcut := val_cut 4294967296 (z.drop m) (v.length + 1) (by rw [List.length_drop]; omega)
  rw [List.drop_drop] at hcut
  have e : m + (v.length + 1) = m + 1 + v.length := by omega
  rw [e, h.zero] at hcut
  have hw : val 4294967296 (z.drop m) = val 4294967296 (win z m v.length) := by rw [hcut]; unfold win; omega
  refine ⟨dig_take (dig_drop h.zd m) _, ?_, hw⟩
  rw [← hw, drop_rd z m (by omega)]
  have b := dig_rd h.zd m (by simp; omega)
  have hl := h.low
  simp only [val]
  have := Int.mul_le_mul_of_nonneg_left (show val 4294967296 (z.drop (m + 1)) ≤ val 4294967296 v - 1 by omega) (show (0 : Int) ≤ 4294967296 by omega)
  omega
theorem DivInv.step {U : Int} {v : List Int} {n m : Nat} {z q : List Int} (h : DivInv U v n (m + 1) z q) (hv : Dig 4294967296 v) {x : Int} {r : List Int} (hL : Left (val 4294967296 (win z m v.length)) (val 4294967296 v) v.length x r) :
    DivInv U v n m (z.take m ++ r ++ z.drop (m + v.length + 1)) (q.set m x) := by
  obtain ⟨x0, x1, rdg, rl, hU, hr⟩ := hL
  have hz := h.zl
  have hm := h.hm
  have hq := h.ql
  have hwin := (h.window hv).2.2
  have htl : (z.take m).length = m := by rw [List.length_take]; omega
  have hzero := h.zero
  rw [show m + 1 + v.length = m + v.length + 1 by omega] at hzero
  have hdm : (z.take m ++ r ++ z.drop (m + v.length + 1)).drop m = r ++ z.drop (m + v.length + 1) := by
    rw [List.append_assoc, List.drop_append_of_le_length (by omega), List.drop_of_length_le (by omega), List.nil_append]
  have htm : (z.take m ++ r ++ z.drop (m + v.length + 1)).take m = z.take m := by
    rw [List.append_assoc, List.take_append_of_le_length (by omega), List.take_of_length_le (by omega)]
  have hvd : val 4294967296 (r ++ z.drop (m + v.length + 1)) = val 4294967296 r := by rw [val_append, hzero]; omega
  have hvlt := val_lt (B := 4294967296) (by omega) hv
  refine ⟨by simp [rl]; omega, ?_, by simpa using hq, dig_set h.qd m ⟨x0, x1⟩, by omega, ?_, ?_, ?_⟩
  · rw [List.append_assoc, dig_append, dig_append]
    exact ⟨dig_take h.zd m, rdg, dig_drop h.zd _⟩
  · rw [hdm, hvd]; exact hr
  · have e : (z.take m ++ r ++ z.drop (m + v.length + 1)).drop (m + v.length) = r.drop v.length ++ z.drop (m + v.length + 1) := by
      rw [← List.drop_drop, hdm, List.drop_append_of_le_length (by omega)]
    rw [e, val_append, hzero]
    have hc := val_cut 4294967296 r v.length (by omega)
    have n1 := val_nonneg (B := 4294967296) (by omega) (dig_take rdg v.length)
    have n2 := val_nonneg (B := 4294967296) (by omega) (dig_drop rdg v.length)
    have hp := pow_pos' (B := 4294967296) (by omega) v.length
    have hz0 : val 4294967296 (r.drop v.length) = 0 := by
      by_cases hpos : 1 ≤ val 4294967296 (r.drop v.length)
      · have := Int.mul_le_mul_of_nonneg_left hpos (Int.le_of_lt hp)
        omega
      · omega
    rw [hz0]; omega
  · have c1 := val_cut 4294967296 (z.take m ++ r ++ z.drop (m + v.length + 1)) m (by simp; omega)
    rw [hdm, htm, hvd] at c1
    have c0 := val_cut 4294967296 z m (by omega)
    rw [hwin] at c0
    have hd : val 4294967296 ((q.set m x).drop m) = x + 4294967296 * val 4294967296 (q.drop (m + 1)) := by
      rw [drop_rd (q.set m x) m (by simp; omega), drop_set_succ]
      simp only [val]
      rw [rd_set_self q m x (by omega)]
    rw [hd]
    have hs := h.sum
    rw [c0, hU, Int.pow_succ] at hs
    rw [c1, hs]
    generalize val 4294967296 (q.drop (m + 1)) = Q
    generalize (4294967296 : Int) ^ m = P
    generalize val 4294967296 (z.take m) = Z
    generalize val 4294967296 r = R
    generalize val 4294967296 v = V
    grind
theorem div_start {a b u v' : List Int} {s : Nat} (wa : Dig 4294967296 a) (wb : Dig 4294967296 b) (ta : Trim a) (tb : Trim b) (hb : b ≠ []) (hge : val 4294967296 b ≤ val 4294967296 a) (hs : s < 32)
    (htop : (rd b ((b.length : Int) - 1) + 1) * 2 ^ s ≤ 4294967296) (hud : Dig 4294967296 u) (hul : u.length = a.length + 1) (hu : val 4294967296 u = val 4294967296 a * 2 ^ s)
    (hvd : Dig 4294967296 v') (hvl : v'.length = b.length + 1) (hv : val 4294967296 v' = val 4294967296 b * 2 ^ s) :
    (v'.take b.length).length = b.length ∧ Dig 4294967296 (v'.take b.length) ∧ val 4294967296 (v'.take b.length) = val 4294967296 b * 2 ^ s ∧ rd (v'.take b.length) ((b.length : Int) - 1) ≠ 0 ∧ b.length ≤ a.length ∧
      DivInv (val 4294967296 a * 2 ^ s) (v'.take b.length) (a.length + 1 - b.length) (a.length + 1 - b.length) u (List.replicate (a.length + 1 - b.length) 0) := by
  have hp := pow2_facts s hs
  have hbl : 0 < b.length := List.length_pos_iff.2 hb
  have hlen := len_of_val_le (B := 4294967296) (by omega) wa wb tb hge
  generalize hT : (2 : Int) ^ s = T at *
  have hn : ((b.length - 1 : Nat) : Int) = (b.length : Int) - 1 := by omega
  have hbc : val 4294967296 b = val 4294967296 (b.take (b.length - 1)) + 4294967296 ^ (b.length - 1) * rd b ((b.length : Int) - 1) := by
    have := val_take_succ 4294967296 b (b.length - 1) (by omega)
    rw [show b.length - 1 + 1 = b.length by omega, hn, List.take_of_length_le (Nat.le_refl _)] at this
    exact this
  have hblt := val_lt (B := 4294967296) (by omega) (dig_take wb (b.length - 1))
  rw [List.length_take, Nat.min_eq_left (by omega)] at hblt
  have hPp := pow_pos' (B := 4294967296) (by omega) (b.length - 1)
  have hPe : (4294967296 : Int) ^ b.length = 4294967296 ^ (b.length - 1) * 4294967296 := by rw [← Int.pow_succ]; congr 1; omega
  have hsmall : val 4294967296 b * T < 4294967296 ^ b.length := by
    have h1 : val 4294967296 b + 1 ≤ 4294967296 ^ (b.length - 1) * (rd b ((b.length : Int) - 1) + 1) := by rw [Int.mul_add]; omega
    have h2 : (val 4294967296 b + 1) * T ≤ 4294967296 ^ (b.length - 1) * (rd b ((b.length : Int) - 1) + 1) * T := Int.mul_le_mul_of_nonneg_right h1 (by omega)
    have h3 : 4294967296 ^ (b.length - 1) * ((rd b ((b.length : Int) - 1) + 1) * T) ≤ 4294967296 ^ (b.length - 1) * 4294967296 := Int.mul_le_mul_of_nonneg_left htop (Int.le_of_lt hPp)
    rw [Int.mul_assoc] at h2
    rw [Int.add_mul] at h2
    rw [hPe]
    omega
  have hcut := val_cut 4294967296 v' b.length (by omega)
  have n1 := val_nonneg (B := 4294967296) (by omega) (dig_take hvd b.length)
  have n2 := val_nonneg (B := 4294967296) (by omega) (dig_drop hvd b.length)
  have hPb := pow_pos' (B := 4294967296) (by omega) b.length
  have hz0 : val 4294967296 (v'.drop b.length) = 0 := by
    by_cases hpos : 1 ≤ val 4294967296 (v'.drop b.length)
    · have := Int.mul_le_mul_of_nonneg_left hpos (Int.le_of_lt hPb)
      omega
    · omega
  rw [hz0] at hcut
  have hvt : val 4294967296 (v'.take b.length) = val 4294967296 b * T := by omega
  have hvtl : (v'.take b.length).length = b.length := by rw [List.length_take]; omega
  have hge1 := val_ge (B := 4294967296) (by omega) wb tb hb
  have hb1 : val 4294967296 b ≤ val 4294967296 b * T := by
    have := Int.mul_le_mul_of_nonneg_left (show 1 ≤ T by omega) (show 0 ≤ val 4294967296 b by omega)
    omega
  have vtd := dig_take hvd b.length
  refine ⟨hvtl, vtd, hvt, ?_, hlen, ?_⟩
  · intro h0
    have hc2 : val 4294967296 (v'.take b.length) = val 4294967296 ((v'.take b.length).take (b.length - 1)) + 4294967296 ^ (b.length - 1) * rd (v'.take b.length) ((b.length : Int) - 1) := by
      have := val_take_succ 4294967296 (v'.take b.length) (b.length - 1) (by omega)
      rw [show b.length - 1 + 1 = b.length by omega, hn, List.take_of_length_le (by omega)] at this
      exact this
    have hlt := val_lt (B := 4294967296) (by omega) (dig_take vtd (b.length - 1))
    rw [List.length_take, Nat.min_eq_left (by omega)] at hlt
    rw [h0] at hc2
    omega
  · have hdl : (List.replicate (a.length + 1 - b.length) (0 : Int)).drop (a.length + 1 - b.length) = [] := by simp
    refine ⟨by omega, hud, by simp, dig_replicate (by omega) _, Nat.le_refl _, ?_, ?_, ?_⟩
    ·
      rw [hvt]
      have hc := val_cut 4294967296 u (a.length + 1 - b.length) (by omega)
      have m1 := val_nonneg (B := 4294967296) (by omega) (dig_take hud (a.length + 1 - b.length))
      have halt := val_lt (B := 4294967296) (by omega) wa
      have hPd := pow_pos' (B := 4294967296) (by omega) (a.length + 1 - b.length)
      by_cases hlt : val 4294967296 (u.drop (a.length + 1 - b.length)) < val 4294967296 b * T
      · exact hlt
      · exfalso
        have g1 : 4294967296 ^ (b.length - 1) * T ≤ val 4294967296 b * T := Int.mul_le_mul_of_nonneg_right hge1 (by omega)
        have g2 : 4294967296 ^ (a.length + 1 - b.length) * (4294967296 ^ (b.length - 1) * T) ≤ 4294967296 ^ (a.length + 1 - b.length) * val 4294967296 (u.drop (a.length + 1 - b.length)) := Int.mul_le_mul_of_nonneg_left (by omega) (Int.le_of_lt hPd)
        have g3 : (4294967296 : Int) ^ (a.length + 1 - b.length) * 4294967296 ^ (b.length - 1) = 4294967296 ^ a.length := by rw [← Int.pow_add]; congr 1; omega
        rw [← Int.mul_assoc, g3] at g2
        have g4 : (val 4294967296 a + 1) * T ≤ 4294967296 ^ a.length * T := Int.mul_le_mul_of_nonneg_right (by omega) (by omega)
        rw [Int.add_mul] at g4
        omega
    · rw [hvtl, List.drop_of_length_le (by omega)]; rfl
    · rw [hdl, hu]; simp [val]
theorem div_end {U : Int} {v z q : List Int} {n : Nat} (h : DivInv U v n 0 z q) : U = val 4294967296 q * val 4294967296 v + val 4294967296 (z.take v.length) ∧ val 4294967296 (z.take v.length) < val 4294967296 v := by
  have hz := h.zl
  have hc := val_cut 4294967296 z v.length (by omega)
  have h0 := h.zero
  rw [Nat.zero_add] at h0
  rw [h0] at hc
  have hl := h.low
  have hs := h.sum
  simp only [List.drop_zero, Int.pow_zero, Int.one_mul] at hl hs
  exact ⟨by omega, by omega⟩
theorem shift_fact {t : Int} (h0 : 0 < t) (h1 : t < 4294967296) : ∃ s : Nat, s < 32 ∧ (32 - (Lib.bitLen t.toNat : Int)) = (s : Int) ∧ (t + 1) * 2 ^ s ≤ 4294967296 := by
  have hb := Lib.bitLenAux_bounds 64 t.toNat (by omega) (by omega)
  have hle := Lib.bitLen_le t.toNat 32 (by omega) (by omega)
  have he : Lib.bitLenAux 64 t.toNat = Lib.bitLen t.toNat := rfl
  rw [he] at hb
  refine ⟨32 - Lib.bitLen t.toNat, by omega, by omega, ?_⟩
  have h2 : t + 1 ≤ ((2 ^ Lib.bitLen t.toNat : Nat) : Int) := by omega
  have h3 : (0 : Int) < 2 ^ (32 - Lib.bitLen t.toNat) := Int.pow_pos (by omega)
  have h4 : (t + 1) * 2 ^ (32 - Lib.bitLen t.toNat) ≤ ((2 ^ Lib.bitLen t.toNat : Nat) : Int) * 2 ^ (32 - Lib.bitLen t.toNat) := Int.mul_le_mul_of_nonneg_right h2 (Int.le_of_lt h3)
  have h5 : ((2 ^ Lib.bitLen t.toNat : Nat) : Int) * 2 ^ (32 - Lib.bitLen t.toNat) = 4294967296 := by
    have : ((2 ^ Lib.bitLen t.toNat : Nat) : Int) = (2 : Int) ^ Lib.bitLen t.toNat := by simp
    rw [this, ← Int.pow_add, show Lib.bitLen t.toNat + (32 - Lib.bitLen t.toNat) = 32 by omega]
    decide
  omega
end Go.Proofs.YthbdjmopolpjmaaGreatDoor.M
end
section
namespace Go.Proofs
open Go.Shelf
def Tryz.lays133_ren : Go.Shelf.Ren := ⟨fun | 133 => 207 | 128 => 103 | n => n, fun | 51 => 131 | 3 => 3 | 4 => 4 | 46 => 97 | 5 => 5 | 9 => 9 | n => n, fun | n => n⟩
theorem Tryz.lays133 : Go.Proofs.Lays.n133 Tryz.prog Tryz.lays133_ren := {
  mixed := by kernel_rfl
  f128 := Tryz.func103.trans (congrArg some (by kernel_rfl))
  f133 := Tryz.func207.trans (congrArg some (by kernel_rfl))
  t3 := Tryz.underlying3
  a3 := Tryz.isAgg3
  z3 := Tryz.sizeOf3
  v3 := Tryz.zeroValue3
  t4 := Tryz.underlying4
  a4 := Tryz.isAgg4
  z4 := Tryz.sizeOf4
  v4 := Tryz.zeroValue4
  t5 := Tryz.underlying5
  a5 := Tryz.isAgg5
  z5 := Tryz.sizeOf5
  v5 := Tryz.zeroValue5
  t9 := Tryz.underlying9
  a9 := Tryz.isAgg9
  z9 := Tryz.sizeOf9
  v9 := Tryz.zeroValue9
  t46 := Tryz.underlying97
  a46 := Tryz.isAgg97
  z46 := Tryz.sizeOf97
  v46 := Tryz.zeroValue97
  t51 := Tryz.underlying131
  a51 := Tryz.isAgg131
  z51 := Tryz.sizeOf131
  v51 := Tryz.zeroValue131 }
theorem Tryz.bits_LeadingZeros32 (x : Int) (w : World) (h0 : 0 ≤ x) (h1 : x ≤ 4294967295) :
    Calls Tryz.prog 207 #[.int .u32 x] w fun e w' => e = .returned (.int .i64 (32 - (Lib.bitLen x.toNat : Int))) ∧ w' = w := Any.bits_LeadingZeros32 Tryz.lays133 x w h0 h1
end Go.Proofs
end
