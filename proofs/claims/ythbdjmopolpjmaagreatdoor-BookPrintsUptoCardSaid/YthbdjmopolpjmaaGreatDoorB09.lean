/- Part 9 of the proof: MRef2, MRef3, CText, MRef4. -/
import Derived.ArgAppend
import Derived.BigRegion
import Derived.WalkSpells
import Derived.Test.YthbdjmopolpjmaaGreatDoorB00
import Derived.Test.YthbdjmopolpjmaaGreatDoorB01
import Derived.Test.YthbdjmopolpjmaaGreatDoorB02
import Derived.Test.YthbdjmopolpjmaaGreatDoorB03
import Derived.Test.YthbdjmopolpjmaaGreatDoorB04
import Derived.Test.YthbdjmopolpjmaaGreatDoorB05
import Derived.Test.YthbdjmopolpjmaaGreatDoorB06
import Derived.Test.YthbdjmopolpjmaaGreatDoorB07
import Derived.Test.YthbdjmopolpjmaaGreatDoorB08
section
set_option linter.unusedVariables false
set_option linter.unusedSimpArgs false
namespace Go.Proofs.YthbdjmopolpjmaaGreatDoor.M
open Go.RowKit Go.Proofs.YthbdjmopolpjmaaGreatDoorW.PrintWords Go.Proofs.YthbdjmopolpjmaaGreatDoorW.PrintLast Go.Proofs.YthbdjmopolpjmaaGreatDoorW.PrintMore Go.Proofs.YthbdjmopolpjmaaGreatDoor.F Go.Proofs.YthbdjmopolpjmaaGreatDoor.C
theorem fits_ev {x y : List Int} {up : Nat} (hx : Dig 10000 x) (hy : Dig 10000 y) (hup : up ≤ x.length) (hxl : x.length ≤ 100000) (hyl : y.length ≤ 100000) : ∀ (d : Nat) (low high : Int), (high - low).toNat ≤ d → 0 ≤ low → low ≤ high → high ≤ 9999 →
    low * val 10000 y ≤ val 10000 (x.drop up) → val 10000 (x.drop up) < (high + 1) * val 10000 y →
    ∃ r, Ev (fun k => cubitref01_fits.l0 k x y (up : Int) low high) r ∧ 0 ≤ r ∧ r < 10000 ∧ r * val 10000 y ≤ val 10000 (x.drop up) ∧ val 10000 (x.drop up) < (r + 1) * val 10000 y := by
  intro d
  induction d with
  | zero =>
    intro low high hd h0 h1 h2 h3 h4
    obtain rfl : low = high := by omega
    refine ⟨low, Ev.step (f := fun _ => some low) (fun k => ?_) (Ev.now _), h0, by omega, h3, h4⟩
    simp only [cubitref01_fits.l0]
    rw [if_neg (by omega)]
  | succ d ih =>
    intro low high hd h0 h1 h2 h3 h4
    by_cases hlt : low < high
    case neg =>
      obtain rfl : low = high := by omega
      refine ⟨low, Ev.step (f := fun _ => some low) (fun k => ?_) (Ev.now _), h0, by omega, h3, h4⟩
      simp only [cubitref01_fits.l0]
      rw [if_neg (by omega)]
    obtain ⟨q, hq⟩ : ∃ q, (low + high + 1) / 2 = q := ⟨_, rfl⟩
    have hqb : low < q ∧ q ≤ high := by omega
    have hqe : wrap64 (Int.tdiv (wrap64 ((wrap64 (low + high)) + 1)) 2) = q := by
      rw [w64 (n := low + high) (by omega) (by omega), w64 (n := low + high + 1) (by omega) (by omega), Int.tdiv_eq_ediv_of_nonneg (by omega), hq, w64 (by omega) (by omega)]
    obtain ⟨p, hp, pd, pt, pl, pv⟩ := times_tells (q := q) hy (by omega) (by omega) hyl
    obtain ⟨n, hn, ht, hvn, hen⟩ := rtrim_tells 10000 (x.drop up) (by rw [List.length_drop]; omega)
    have hless := rless_tells (dig_take (dig_drop hx up) n) pd ht pt (by rw [List.length_take, List.length_drop]; omega) (by omega)
    rw [hvn, pv] at hless
    by_cases hb : val 10000 (x.drop up) < val 10000 y * q
    · rw [decide_eq_true hb] at hless
      obtain ⟨r, he, h⟩ := ih low (q - 1) (by omega) h0 (by omega) (by omega) h3 (by rw [show q - 1 + 1 = q by omega, Int.mul_comm]; exact hb)
      refine ⟨r, Ev.step (f := fun k => (cubitref01_times.f k y [q]).bind fun t227 => (cubitref01_trim.f k (x.drop up)).bind fun t231 => (cubitref01_less.f k t231 t227).bind fun t234 => if t234 = true then cubitref01_fits.l0 k x y (up : Int) low (q - 1) else cubitref01_fits.l0 k x y (up : Int) q high) (fun k => ?_) (Ev.bind hp (Ev.bind hen (Ev.bind hless (Ev.congr (fun k => by rw [if_pos rfl]) he)))), h⟩
      simp only [cubitref01_fits.l0]
      rw [if_pos hlt, hqe, w64 (n := q - 1) (by omega) (by omega)]
      congr 1
      funext t
      rw [if_pos (by omega), if_pos (by omega), Int.toNat_natCast]
    · rw [decide_eq_false hb] at hless
      obtain ⟨r, he, h⟩ := ih q high (by omega) (by omega) (by omega) (by omega) (by rw [Int.mul_comm]; omega) h4
      refine ⟨r, Ev.step (f := fun k => (cubitref01_times.f k y [q]).bind fun t227 => (cubitref01_trim.f k (x.drop up)).bind fun t231 => (cubitref01_less.f k t231 t227).bind fun t234 => if t234 = true then cubitref01_fits.l0 k x y (up : Int) low (q - 1) else cubitref01_fits.l0 k x y (up : Int) q high) (fun k => ?_) (Ev.bind hp (Ev.bind hen (Ev.bind hless (Ev.congr (fun k => by rw [if_neg (by simp)]) he)))), h⟩
      simp only [cubitref01_fits.l0]
      rw [if_pos hlt, hqe, w64 (n := q - 1) (by omega) (by omega)]
      congr 1
      funext t
      rw [if_pos (by omega), if_pos (by omega), Int.toNat_natCast]
theorem fits_tells {x y : List Int} {up : Nat} (hx : Dig 10000 x) (hy : Dig 10000 y) (hup : up ≤ x.length) (hxl : x.length ≤ 100000) (hyl : y.length ≤ 100000) (h : val 10000 (x.drop up) < 10000 * val 10000 y) :
    ∃ r, Ev (fun k => cubitref01_fits.f k x y (up : Int)) r ∧ 0 ≤ r ∧ r < 10000 ∧ r * val 10000 y ≤ val 10000 (x.drop up) ∧ val 10000 (x.drop up) < (r + 1) * val 10000 y :=
  fits_ev hx hy hup hxl hyl 9999 0 9999 (by omega) (by omega) (by omega) (by omega) (by have := val_nonneg (B := 10000) (by omega) (dig_drop hx up); omega) h
def bor (d : Int) : Int := if d < 0 then (-d + 9999) / 10000 else 0
theorem bor_facts {d : Int} (h0 : -100000000 ≤ d) (h1 : d < 10000) : 0 ≤ bor d ∧ bor d ≤ 10000 ∧ 0 ≤ d + bor d * 10000 ∧ d + bor d * 10000 < 10000 := by
  unfold bor
  split <;> omega
theorem drop_set' (x : List Int) (up k : Nat) (v : Int) : (x.set (up + k) v).drop up = (x.drop up).set k v := by
  rw [List.drop_set]
  rw [if_neg (by omega), show up + k - up = k by omega]
theorem rd_drop (x : List Int) (up k : Nat) : rd (x.drop up) (k : Int) = rd x ((up + k : Nat) : Int) := by
  unfold rd
  rw [Int.toNat_natCast, Int.toNat_natCast]
  simp [List.getD_eq_getElem?_getD, List.getElem?_drop]
theorem take_round {x y : List Int} {q c : Int} {up k : Nat} (n : Nat) (hi : up + k < x.length) (hxl : x.length ≤ 100000) (hk : k < y.length) (bx0 : 0 ≤ rd x ((up + k : Nat) : Int)) (bx1 : rd x ((up + k : Nat) : Int) < 10000) (hc0 : 0 ≤ c) (hc1 : c ≤ 10000) (bm0 : 0 ≤ q * rd y (k : Int)) (bm1 : q * rd y (k : Int) ≤ 99980001) :
    cubitref01_take.j1 (n + 1) x y (up : Int) q c (k : Int) true = cubitref01_take.l0 n (x.set (up + k) (rd x ((up + k : Nat) : Int) - c - q * rd y (k : Int) + bor (rd x ((up + k : Nat) : Int) - c - q * rd y (k : Int)) * 10000)) y (up : Int) q (bor (rd x ((up + k : Nat) : Int) - c - q * rd y (k : Int))) ((k + 1 : Nat) : Int) := by
  have hik : (up : Int) + (k : Int) = ((up + k : Nat) : Int) := by omega
  have hw : wrap64 ((up : Int) + (k : Int)) = ((up + k : Nat) : Int) := by rw [w64 (by omega) (by omega), hik]
  simp only [cubitref01_take.j1, hw]
  generalize rd x ((up + k : Nat) : Int) = X at *
  generalize q * rd y (k : Int) = Y at *
  have f1 : (0 : Int) ≤ ((up + k : Nat) : Int) := by omega
  have f2 : ((up + k : Nat) : Int) < (x.length : Int) := by omega
  have f3 : (k : Int) < (y.length : Int) := by omega
  have f4 : (0 : Int) ≤ (k : Int) := by omega
  rw [if_pos trivial, if_pos f1, if_pos f2, if_pos f3, if_pos f4, w64 (n := X - c) (by omega) (by omega), w64 (n := Y) (by omega) (by omega), w64 (n := X - c - Y) (by omega) (by omega), Int.toNat_natCast, w64 (n := (k : Int) + 1) (by omega) (by omega)]
  have hD0 : -100000000 ≤ X - c - Y := by omega
  have hD1 : X - c - Y < 10000 := by omega
  generalize X - c - Y = D at *
  by_cases hD : D < 0
  · rw [if_pos hD, w64 (n := -D) (by omega) (by omega), w64 (n := -D + 10000) (by omega) (by omega), w64 (n := -D + 10000 - 1) (by omega) (by omega), Int.tdiv_eq_ediv_of_nonneg (by omega), show -D + 10000 - 1 = -D + 9999 by omega, w64 (n := (-D + 9999) / 10000) (by omega) (by omega), w64 (n := (-D + 9999) / 10000 * 10000) (by omega) (by omega), w64 (by omega) (by omega)]
    rw [show bor D = (-D + 9999) / 10000 from if_pos hD]
    rfl
  · rw [if_neg hD]
    rw [show bor D = 0 from if_neg hD, show D + 0 * 10000 = D by omega]
    rfl
theorem take_round2 {x y : List Int} {q c : Int} {up k : Nat} (n : Nat) (hi : up + k < x.length) (hxl : x.length ≤ 100000) (hk : ¬ k < y.length) (bx0 : 0 ≤ rd x ((up + k : Nat) : Int)) (bx1 : rd x ((up + k : Nat) : Int) < 10000) (hc0 : 0 ≤ c) (hc1 : c ≤ 10000) :
    cubitref01_take.j1 (n + 1) x y (up : Int) q c (k : Int) true = cubitref01_take.l0 n (x.set (up + k) (rd x ((up + k : Nat) : Int) - c - 0 + bor (rd x ((up + k : Nat) : Int) - c - 0) * 10000)) y (up : Int) q (bor (rd x ((up + k : Nat) : Int) - c - 0)) ((k + 1 : Nat) : Int) := by
  have hik : (up : Int) + (k : Int) = ((up + k : Nat) : Int) := by omega
  have hw : wrap64 ((up : Int) + (k : Int)) = ((up + k : Nat) : Int) := by rw [w64 (by omega) (by omega), hik]
  simp only [cubitref01_take.j1, hw]
  generalize rd x ((up + k : Nat) : Int) = X at *
  have f1 : (0 : Int) ≤ ((up + k : Nat) : Int) := by omega
  have f2 : ((up + k : Nat) : Int) < (x.length : Int) := by omega
  have f3 : ¬ (k : Int) < (y.length : Int) := by omega
  rw [if_pos trivial, if_pos f1, if_pos f2, if_neg f3, w64 (n := X - c) (by omega) (by omega), Int.toNat_natCast, w64 (n := (k : Int) + 1) (by omega) (by omega), show X - c - 0 = X - c by omega]
  have hD0 : -100000000 ≤ X - c := by omega
  have hD1 : X - c < 10000 := by omega
  generalize X - c = D at *
  by_cases hD : D < 0
  · rw [if_pos hD, w64 (n := -D) (by omega) (by omega), w64 (n := -D + 10000) (by omega) (by omega), w64 (n := -D + 10000 - 1) (by omega) (by omega), Int.tdiv_eq_ediv_of_nonneg (by omega), show -D + 10000 - 1 = -D + 9999 by omega, w64 (n := (-D + 9999) / 10000) (by omega) (by omega), w64 (n := (-D + 9999) / 10000 * 10000) (by omega) (by omega), w64 (by omega) (by omega)]
    rw [show bor D = (-D + 9999) / 10000 from if_pos hD]
    rfl
  · rw [if_neg hD]
    rw [show bor D = 0 from if_neg hD, show D + 0 * 10000 = D by omega]
    rfl
theorem take_ev {y : List Int} {q : Int} (hy : Dig 10000 y) (h0 : 0 ≤ q) (h1 : q < 10000) {L up : Nat} (hup : up + y.length ≤ L) (hL : L ≤ 100000) {V0 : Int} {T0 : List Int} (hV : q * val 10000 y ≤ V0) :
    ∀ (m k : Nat) (x : List Int) (c : Int), up + k + m = L → x.length = L → Dig 10000 x → x.take up = T0 → 0 ≤ c → c ≤ 10000 → val 10000 (x.drop up) = V0 - q * val 10000 (y.take k) + c * 10000 ^ k →
    ∃ r, Ev (fun n => cubitref01_take.l0 n x y (up : Int) q c (k : Int)) r ∧ r.length = L ∧ Dig 10000 r ∧ r.take up = T0 ∧ val 10000 (r.drop up) = V0 - q * val 10000 y := by
  intro m
  induction m with
  | zero =>
    intro k x c hm hl hd ht hc0 hc1 hv
    have hk : y.length ≤ k := by omega
    rw [List.take_of_length_le hk] at hv
    have hlt := val_lt (B := 10000) (by omega) (dig_drop hd up)
    rw [List.length_drop, show x.length - up = k by omega] at hlt
    have hpp : (0 : Int) < 10000 ^ k := Int.pow_pos (by decide)
    have hc : c = 0 := by
      rcases Int.lt_or_eq_of_le hc0 with h | h
      · have := Int.mul_le_mul_of_nonneg_right (show 1 ≤ c by omega) (Int.le_of_lt hpp)
        omega
      · exact h.symm
    subst hc
    refine ⟨x, Ev.step (f := fun n => cubitref01_take.j1 n x y (up : Int) q 0 (k : Int) false) (fun n => ?_) (Ev.step (f := fun _ => some x) (fun n => by simp [cubitref01_take.j1]) (Ev.now _)), hl, hd, ht, by omega⟩
    simp only [cubitref01_take.l0]
    rw [if_neg (by omega)]
    rfl
  | succ m ih =>
    intro k x c hm hl hd ht hc0 hc1 hv
    have HV := Aside0.mk (And.intro hv hV)
    clear hv hV
    have bx := dig_rd hd ((up + k : Nat) : Int) (by rw [Int.toNat_natCast]; omega)
    have hlen : k < (x.drop up).length := by rw [List.length_drop]; omega
    have g1 : up + k < x.length := by omega
    have g2 : x.length ≤ 100000 := by omega
    have hik : (up : Int) + (k : Int) = ((up + k : Nat) : Int) := by omega
    have hw : wrap64 ((up : Int) + (k : Int)) = ((up + k : Nat) : Int) := by rw [w64 (by omega) (by omega), hik]
    have go : ∀ t : Int, 0 ≤ t → t ≤ 99980001 → q * val 10000 (y.take (k + 1)) = q * val 10000 (y.take k) + t * 10000 ^ k →
        ∃ r, Ev (fun n => cubitref01_take.l0 n (x.set (up + k) (rd x ((up + k : Nat) : Int) - c - t + bor (rd x ((up + k : Nat) : Int) - c - t) * 10000)) y (up : Int) q (bor (rd x ((up + k : Nat) : Int) - c - t)) ((k + 1 : Nat) : Int)) r ∧ r.length = L ∧ Dig 10000 r ∧ r.take up = T0 ∧ val 10000 (r.drop up) = V0 - q * val 10000 y := by
      intro t t0 t1 hq
      have HQ := Aside0.mk hq
      clear hq
      have hb := bor_facts (d := rd x ((up + k : Nat) : Int) - c - t) (by omega) (by omega)
      refine ih (k + 1) _ _ (by omega) (by simpa using hl) (dig_set hd _ ⟨hb.2.2.1, hb.2.2.2⟩) ?_ hb.1 hb.2.1 ?_
      · rw [List.take_set_of_le (by omega)]; exact ht
      · rw [drop_set', val_set 10000 (x.drop up) k _ hlen, rd_drop, HV.out.1, HQ.out, Int.pow_succ]
        clear HQ HV hb
        generalize bor (rd x ((up + k : Nat) : Int) - c - t) = b
        generalize (10000 : Int) ^ k = P
        generalize q * val 10000 (y.take k) = Z
        grind
    by_cases hk : k < y.length
    · have by_ := dig_rd hy k (by simp; omega)
      have bm := mul_le10k h0 h1 by_.1 by_.2
      obtain ⟨r, he, h⟩ := go (q * rd y (k : Int)) bm.1 bm.2 (by rw [val_take_succ 10000 y k hk]; grind)
      refine ⟨r, Ev.step (f := fun n => cubitref01_take.j1 n x y (up : Int) q c (k : Int) true) (fun n => ?_) (Ev.step (fun n => ?_) he), h⟩
      · simp only [cubitref01_take.l0]
        rw [if_pos (by omega)]
      · exact take_round n g1 g2 hk bx.1 bx.2 hc0 hc1 bm.1 bm.2
    · by_cases hc : c > 0
      · obtain ⟨r, he, h⟩ := go 0 (by omega) (by omega) (by rw [List.take_of_length_le (by omega), List.take_of_length_le (by omega)]; omega)
        refine ⟨r, Ev.step (f := fun n => cubitref01_take.j1 n x y (up : Int) q c (k : Int) true) (fun n => ?_) (Ev.step (fun n => ?_) he), h⟩
        · simp only [cubitref01_take.l0]
          rw [if_neg (by omega), decide_eq_true hc]
        · exact take_round2 n g1 g2 hk bx.1 bx.2 hc0 hc1
      · obtain rfl : c = 0 := by omega
        have hv := HV.out.1
        rw [List.take_of_length_le (show y.length ≤ k by omega)] at hv
        refine ⟨x, Ev.step (f := fun n => cubitref01_take.j1 n x y (up : Int) q 0 (k : Int) false) (fun n => ?_) (Ev.step (f := fun _ => some x) (fun n => by simp [cubitref01_take.j1]) (Ev.now _)), hl, hd, ht, by omega⟩
        simp only [cubitref01_take.l0]
        rw [if_neg (by omega)]
        rfl
theorem take_tells {x y : List Int} {q : Int} {up : Nat} (hx : Dig 10000 x) (hy : Dig 10000 y) (h0 : 0 ≤ q) (h1 : q < 10000) (hup : up + y.length ≤ x.length) (hL : x.length ≤ 100000) (hV : q * val 10000 y ≤ val 10000 (x.drop up)) :
    ∃ r, Ev (fun n => cubitref01_take.f n x y (up : Int) q) r ∧ r.length = x.length ∧ Dig 10000 r ∧ r.take up = x.take up ∧ val 10000 (r.drop up) = val 10000 (x.drop up) - q * val 10000 y :=
  take_ev hy h0 h1 hup hL hV (x.length - up) 0 x 0 (by omega) rfl hx rfl (by omega) (by omega) (by simp [val])
end Go.Proofs.YthbdjmopolpjmaaGreatDoor.M
end
section
set_option linter.unusedVariables false
set_option linter.unusedSimpArgs false
namespace Go.Proofs.YthbdjmopolpjmaaGreatDoor.M
open Go.RowKit Go.Proofs.YthbdjmopolpjmaaGreatDoorW.PrintWords Go.Proofs.YthbdjmopolpjmaaGreatDoorW.PrintLast Go.Proofs.YthbdjmopolpjmaaGreatDoorW.PrintMore Go.Proofs.YthbdjmopolpjmaaGreatDoor.F Go.Proofs.YthbdjmopolpjmaaGreatDoor.C
def Canon (s : ByteArray) : Prop := 0 < s.size ∧ (bt s 0 = 48 → s.size ≤ 1) ∧ Num (bytesOf s)
theorem NatR.canon {s : ByteArray} (h : NatR s) : Canon s := ⟨h.1, h.2.2⟩
theorem limbs_l1 (s : ByteArray) (x3 : List Int) (hx : x3.length < 17592186044416) (hs : s.size ≤ 1000000) (hn : Num (bytesOf s)) (e : Nat) (he : e ≤ s.size) : ∀ (d i : Nat) (n : Int), i + d = e → d ≤ 4 → 0 ≤ n → (n + 1) * 10 ^ d ≤ 10000 → ∀ r,
    Ev (fun k => cubitref01_limbs.l0 k s (x3 ++ [dec n (((bytesOf s).take e).drop i)]) (wrap64 ((e : Int) - 4))) r → Ev (fun k => cubitref01_limbs.l1 k s x3 (e : Int) n (i : Int)) r := by
  intro d
  induction d with
  | zero =>
    intro i n hi hd h0 h1 r hr
    obtain rfl : i = e := by omega
    rw [List.drop_of_length_le (by rw [List.length_take]; omega)] at hr
    refine Ev.step (fun k => ?_) hr
    simp only [cubitref01_limbs.l1]
    rw [if_neg (by omega), if_pos hx]
    rfl
  | succ d ih =>
    intro i n hi hd h0 h1 r hr
    have hl := bytesOf_length s
    have hc := num_rd hn (i : Int) (by rw [hl, Int.toNat_natCast]; omega)
    have hb := rd_bytesOf s (i : Int)
    rw [hb] at hc
    have hp : (1 : Int) ≤ 10 ^ d := by have := Int.pow_pos (n := 10) (m := d) (by decide); omega
    have hn1 : n + 1 ≤ 1000 := by
      rw [Int.pow_succ] at h1
      have := Int.mul_le_mul_of_nonneg_left (show (10 : Int) ≤ 10 ^ d * 10 by omega) (show 0 ≤ n + 1 by omega)
      omega
    have hdrop : ((bytesOf s).take e).drop i = bt s (i : Int) :: ((bytesOf s).take e).drop (i + 1) := by
      rw [drop_rd _ i (by rw [List.length_take]; omega)]
      congr 1
      rw [← hb]
      unfold rd
      rw [Int.toNat_natCast]
      simp only [List.getD_eq_getElem?_getD, List.getElem?_take]
      rw [if_pos (by omega)]
    rw [hdrop] at hr
    simp only [dec] at hr
    have h2 : (n * 10 + (bt s (i : Int) - 48) + 1) * 10 ^ d ≤ 10000 := by
      rw [Int.pow_succ] at h1
      have := Int.mul_le_mul_of_nonneg_right (show n * 10 + (bt s (i : Int) - 48) + 1 ≤ (n + 1) * 10 by omega) (show (0 : Int) ≤ 10 ^ d by omega)
      have e1 : (n + 1) * 10 * 10 ^ d = (n + 1) * (10 ^ d * 10) := by grind
      omega
    have hi1 : (i : Int) < (e : Int) := by omega
    have hi2 : (i : Int) < (s.size : Int) := by omega
    have hi3 : (0 : Int) ≤ (i : Int) := by omega
    have hw1 : wrap64 ((i : Int) + 1) = ((i + 1 : Nat) : Int) := by rw [w64 (by omega) (by omega)]; rfl
    have hw2 : wrap64 (wrap64 (10 * n) + (bt s (i : Int) - 48) % 256) = n * 10 + (bt s (i : Int) - 48) := by
      rw [w64 (n := 10 * n) (by omega) (by omega), Int.emod_eq_of_lt (by omega) (by omega), w64 (by omega) (by omega)]; omega
    refine Ev.step (fun k => ?_) (ih (i + 1) (n * 10 + (bt s (i : Int) - 48)) (by omega) (by omega) (by omega) h2 r hr)
    simp only [cubitref01_limbs.l1]
    rw [if_pos hi1, if_pos hi3, if_pos hi2, hw1, hw2]
theorem limbs_ev (s : ByteArray) (hs : s.size ≤ 1000000) (hn : Num (bytesOf s)) : ∀ (d : Nat) (e : Int) (x3 : List Int), e.toNat ≤ d → e ≤ s.size → -4 ≤ e → Dig 10000 x3 → x3.length + e.toNat ≤ s.size → val 10000 x3 + 10000 ^ x3.length * dec 0 ((bytesOf s).take e.toNat) = dec 0 (bytesOf s) →
    ∃ r, Ev (fun k => cubitref01_limbs.l0 k s x3 e) r ∧ Dig 10000 r ∧ Trim r ∧ r.length ≤ s.size ∧ val 10000 r = dec 0 (bytesOf s) := by
  intro d
  induction d with
  | zero =>
    intro e x3 hd he he4 hx hl hv
    have h0 : e.toNat = 0 := by omega
    rw [h0] at hv
    simp only [List.take_zero, dec, Int.mul_zero, Int.add_zero] at hv
    obtain ⟨n, h1, ht, hvn, hen⟩ := rtrim_tells 10000 x3 (by omega)
    refine ⟨x3.take n, Ev.step (f := fun k => (cubitref01_trim.f k x3).bind fun t => some t) (fun k => ?_) (Ev.bind hen (Ev.now _)), dig_take hx n, ht, by rw [List.length_take]; omega, by rw [hvn, hv]⟩
    simp only [cubitref01_limbs.l0]
    rw [if_neg (by omega)]
  | succ d ih =>
    intro e x3 hd he he4 hx hl hv
    by_cases hpos : e > 0
    case neg => exact ih e x3 (by omega) he he4 hx hl hv
    have hw : wrap64 (e - 4) = e - 4 := w64 (by omega) (by omega)
    obtain ⟨from_, hf⟩ : ∃ f : Nat, f = (e - 4).toNat := ⟨_, rfl⟩
    obtain ⟨en, hen⟩ : ∃ f : Nat, f = e.toNat := ⟨_, rfl⟩
    have hee : (en : Int) = e := by omega
    have hlen := bytesOf_length s
    have hcut : dec 0 ((bytesOf s).take en) = dec 0 ((bytesOf s).take from_) * 10 ^ (en - from_) + dec 0 (((bytesOf s).take en).drop from_) := by
      have h1 := dec_cut 0 ((bytesOf s).take en) from_
      rw [List.take_take, Nat.min_eq_left (by omega)] at h1
      rw [h1, dec_lin, List.length_drop, List.length_take, hlen, Nat.min_eq_left (by omega)]
    have hrange := dec_range ((hn.take en).drop from_)
    rw [List.length_drop, List.length_take, hlen, Nat.min_eq_left (show en ≤ s.size by omega)] at hrange
    have hp4 := pow10_le (en - from_) (by omega)
    have h10k : (10 : Int) ^ (en - from_) ≤ 10000 := by
      have : en - from_ ≤ 4 := by omega
      have h := pow_le_pow' (B := 10) (by omega) this
      exact h
    have hdig : Dig 10000 (x3 ++ [dec 0 (((bytesOf s).take en).drop from_)]) := by
      rw [dig_append]
      refine ⟨hx, fun y hy => ?_⟩
      simp only [List.mem_singleton] at hy
      subst hy
      omega
    have hval : val 10000 (x3 ++ [dec 0 (((bytesOf s).take en).drop from_)]) + 10000 ^ (x3 ++ [dec 0 (((bytesOf s).take en).drop from_)]).length * dec 0 ((bytesOf s).take (e - 4).toNat) = dec 0 (bytesOf s) := by
      rw [← hv, val_snoc, List.length_append, List.length_singleton, Int.pow_succ, ← hf, ← hen, hcut]
      by_cases h4 : 4 ≤ e
      · rw [show en - from_ = 4 by omega, show ((10 : Int) ^ 4) = 10000 from rfl]
        grind
      · rw [show from_ = 0 by omega]
        simp only [List.take_zero, dec]
        grind
    obtain ⟨r, hr, h⟩ := ih (e - 4) (x3 ++ [dec 0 (((bytesOf s).take en).drop from_)]) (by omega) (by omega) (by omega) hdig (by rw [List.length_append, List.length_singleton]; omega) hval
    have hr' : Ev (fun k => cubitref01_limbs.l0 k s (x3 ++ [dec 0 (((bytesOf s).take en).drop from_)]) (wrap64 ((en : Int) - 4))) r := by
      rw [hee, hw]; exact hr
    have h1 := limbs_l1 s x3 (by omega) hs hn en (by omega) (en - from_) from_ 0 (by omega) (by omega) (by omega) (by omega) r hr'
    have h2 : Ev (fun k => cubitref01_limbs.j1 k s x3 e (from_ : Int)) r := Ev.step (fun k => by simp only [cubitref01_limbs.j1]; rw [← hee]) h1
    refine ⟨r, ?_, h⟩
    refine Ev.step (fun k => ?_) h2
    simp only [cubitref01_limbs.l0]
    rw [if_pos hpos, hw]
    by_cases h4 : e - 4 < 0
    · rw [if_pos h4, show ((from_ : Nat) : Int) = 0 by omega]
    · rw [if_neg h4, show ((from_ : Nat) : Int) = e - 4 by omega]
theorem limbs_tells (s : ByteArray) (hs : s.size ≤ 1000000) (hn : Num (bytesOf s)) : ∃ r, Ev (fun k => cubitref01_limbs.f k s) r ∧ Dig 10000 r ∧ Trim r ∧ r.length ≤ s.size ∧ val 10000 r = dv s := by
  refine limbs_ev s hs hn s.size (s.size : Int) [] (by omega) (by omega) (by omega) (dig_nil _) (by simp) ?_
  rw [Int.toNat_natCast, List.take_of_length_le (by rw [bytesOf_length]; omega)]
  simp [val]
def ascii : List Int → List Int
  | [] => []
  | x :: xs => ascii xs ++ [48 + x / 1000, 48 + x / 100 % 10, 48 + x / 10 % 10, 48 + x % 10]
theorem ascii_length : ∀ xs, (ascii xs).length = 4 * xs.length
  | [] => rfl
  | x :: xs => by simp [ascii, ascii_length xs]; omega
theorem ascii_num : ∀ {xs}, Dig 10000 xs → Num (ascii xs)
  | [], _ => fun c hc => by simp [ascii] at hc
  | x :: xs, h => by
    obtain ⟨h1, h2⟩ := dig_cons.1 h
    intro c hc
    simp only [ascii, List.mem_append, List.mem_cons, List.not_mem_nil, or_false] at hc
    rcases hc with hc | hc | hc | hc | hc
    · exact ascii_num h2 c hc
    all_goals omega
theorem ascii_dec : ∀ {xs}, Dig 10000 xs → dec 0 (ascii xs) = val 10000 xs
  | [], _ => rfl
  | x :: xs, h => by
    obtain ⟨h1, h2⟩ := dig_cons.1 h
    simp only [ascii, val]
    rw [dec_append, ascii_dec h2]
    simp only [dec]
    omega
theorem dec_zeros : ∀ {xs : List Int} (k : Nat), k ≤ xs.length → (∀ j : Nat, j < k → rd xs (j : Int) = 48) → dec 0 xs = dec 0 (xs.drop k)
  | xs, 0, _, _ => rfl
  | xs, k + 1, hk, h => by
    rw [dec_zeros k (by omega) (fun j hj => h j (by omega)), drop_rd xs k (by omega), h k (by omega)]
    rfl
end Go.Proofs.YthbdjmopolpjmaaGreatDoor.M
end
section
set_option linter.unusedVariables false
set_option linter.unusedSimpArgs false
namespace Go.Proofs.YthbdjmopolpjmaaGreatDoor.C
open Go.RowKit Go.Proofs.YthbdjmopolpjmaaGreatDoorW.PrintWords Go.Proofs.YthbdjmopolpjmaaGreatDoorW.PrintLast Go.Proofs.YthbdjmopolpjmaaGreatDoorW.PrintMore Go.Proofs.YthbdjmopolpjmaaGreatDoor.F Go.Proofs.YthbdjmopolpjmaaGreatDoor.M
attribute [local go_sem] max2_int min2_int max_two min_two max_three min_three max_four min_four
def Rb (W : World) (base : Nat) (v : Value) (xs : List Int) : Prop := Kd.R (Kd.int .u8) 5 W base (fun k => base ≤ k) v xs
theorem make_bytes (m : Nat) (hm : m ≤ 1000000) : ∀ W, (Instr.makeSlice 50 (.int .i64 0) (.int .i64 (m : Int))).run Tryz.prog W = .ok (.slice (some ⟨W.heap.size, 0, none⟩) 0 m) (W.alloc (.cells (madeCells #[.int .u8 0] m) 5)) := by
  intro W
  obtain ⟨i, hi, hz, hsz, hb⟩ := info_parts info5
  have h := run_makeSlice (P := Tryz.prog) W 50 5 i (.int .u8 0) Tryz.underlying50 hi hz .i64 .i64 0 (m : Int) (Int.le_refl _) (by omega) (by rw [hsz]; omega) (by rw [hb]; omega) (by omega)
  rw [h, hsz]
  simp [Value.cells]
theorem rb_made (W : World) (base m : Nat) (hb : base ≤ W.heap.size) (hm : m ≤ 1000000) : Rb (W.alloc (.cells (madeCells #[.int .u8 0] m) 5)) base (.slice (some ⟨W.heap.size, 0, none⟩) 0 m) [] := by
  have h := World.ownsRow_made (base := base) (e := 5) (size := 1) W (madeCells #[.int .u8 0] m) m hb (by simp only [maxLen]; omega) (by simp [size_madeCells])
  exact Kd.R_of_own (by simpa [encs] using h) (fun k hk => by simp [Value.ownBlock] at hk; omega)
theorem run_append_four {w0 W : World} (base g : Nat) (v : Value) (xs : List Int) (y1 y2 y3 y4 : Int) (hg : W.heap[g]? = some (.cells #[.int .u8 y1, .int .u8 y2, .int .u8 y3, .int .u8 y4] 5 (0, 0))) (HO : Rb W base v xs) (HB : Below base w0 W) (hbase : base ≤ W.heap.size) (hl : xs.length ≤ 400000) :
    ∃ v1 w1, (Builtin.append_ #[50, 50] 50 #[v, .slice (some ⟨g, 0, none⟩) 4 4]).run Tryz.prog W = .ok v1 w1 ∧ Rb w1 base v1 (xs ++ [y1, y2, y3, y4]) ∧ Below base w0 w1 := by
  have hinfo := info5
  obtain ⟨i0, hi, hzz⟩ := Option.map_eq_some_iff.1 hinfo
  simp only [Prod.mk.injEq] at hzz
  obtain ⟨hz0, hz1, hz2⟩ := hzz
  have ho := Kd.own_of_R HO
  obtain ⟨v1, w1, hr, hown, hgr, _, hat⟩ := run_append_own_at (P := Tryz.prog) W base 50 50 5 i0 (.int .u8 0) 1 1 Tryz.underlying50 hi hz0 hz1 hz2 rfl (by decide) v xs.length (encs (Value.int .u8) xs) ho ⟨g, 0, none⟩ 4 4 [.int .u8 y1, .int .u8 y2, .int .u8 y3, .int .u8 y4] rfl
    (by simpa using World.news_of_block (cs := #[.int .u8 y1, .int .u8 y2, .int .u8 y3, .int .u8 y4]) (t := 5) (fr := (0, 0)) hg) (by simp [Value.oneCell']) (by simp only [maxLen]; omega) (by omega) hbase
  refine ⟨v1, w1, hr, Kd.R_of_own ?_ (fun k hk => own_base hown k hk), HB.grown hgr hbase (own_base ho)⟩
  simpa [encs] using hown
theorem bytesOf_strOfNums (xs : List Int) (h : ∀ x ∈ xs, 0 ≤ x ∧ x < 256) : bytesOf (strOfNums xs) = xs := by
  have e : (xs.map fun x => UInt8.ofNat x.toNat).map (fun b => (b.toNat : Int)) = xs := by
    rw [List.map_map]
    have : ∀ x ∈ xs, ((fun b : UInt8 => (b.toNat : Int)) ∘ fun x : Int => UInt8.ofNat x.toNat) x = x := fun x hx => by
      have := h x hx
      simp only [Function.comp, UInt8.toNat_ofNat']
      omega
    exact (List.map_congr_left this).trans (List.map_id _)
  have h1 : strOfNums ((xs.map fun x => UInt8.ofNat x.toNat).map fun b => (b.toNat : Int)) = ⟨(xs.map fun x => UInt8.ofNat x.toNat).toArray⟩ := by
    unfold strOfNums
    congr 2
    rw [List.map_map]
    have h2 : ∀ b ∈ (xs.map fun x => UInt8.ofNat x.toNat), ((fun i : Int => UInt8.ofNat i.toNat) ∘ fun b : UInt8 => (b.toNat : Int)) b = b := fun b _ => by simp
    exact (List.map_congr_left h2).trans (List.map_id _)
  rw [e] at h1
  rw [h1]
  exact e
set_option maxHeartbeats 2000000 in
set_option maxRecDepth 100000 in
theorem text_call (A : Option Addr) (c : Nat) (xs : List Int) (w : World) (hC : Kd.C (Kd.int .i64) w A xs.length xs) (hc : xs.length ≤ c) (hd : Dig 10000 xs) (ht : Trim xs) (hl : xs.length ≤ 100000) :
    Calls Tryz.prog 177 #[.slice A xs.length c] w fun e w' => ∃ t, e = .returned (.string t) ∧ Canon t ∧ dv t = val 10000 xs ∧ Below w.heap.size w w' := by
  have HC := Aside0.mk hC
  have HD := Aside0.mk (And.intro hd (And.intro ht (And.intro hl hc)))
  by_cases hn : xs = []
  · subst hn
    clear hC hc hd ht hl
    have h0 : (((0 : Nat) : Int) == 0) = true := rfl
    go_enter Tryz.func177, Tryz.ntmps177
    go_wp2_with fail
    go_ret
    refine ⟨⟨#[48]⟩, rfl, ⟨by decide, fun _ => by decide, fun x hx => ?_⟩, rfl, Below.refl _ _⟩
    simp [bytesOf] at hx
    omega
  · have hp := List.length_pos_iff.2 hn
    have hn0 : ((xs.length : Int) == 0) = false := beq_eq_false_iff_ne.mpr (by omega)
    have hn1 : (xs.length == 0) = false := beq_eq_false_iff_ne.mpr (by omega)
    obtain ⟨m, hm⟩ : ∃ m, 4 * xs.length = m := ⟨_, rfl⟩
    have hw4 : wrap64 (4 * (xs.length : Int)) = (m : Int) := by rw [w64 (by omega) (by omega)]; omega
    have hw1 : wrap64 ((xs.length : Int) - 1) = (xs.length : Int) - 1 := w64 (by omega) (by omega)
    have hmk := make_bytes m (by omega)
    have HR0 := Aside0.mk (And.intro (rb_made w w.heap.size m (Nat.le_refl _) (by omega)) (below_alloc (Below.refl w.heap.size w) (.cells (madeCells #[.int .u8 0] m) 5)))
    have HN := Aside0.mk (And.intro hn (And.intro hp hm))
    clear hC hc hd ht hl hp hn hm
    go_enter Tryz.func177, Tryz.ntmps177
    go_upto_region 3 with (fail)
    go_wp2_with fail
    go_loopg [3, 4] xs.length (fun kq v3 v4 W => ∃ (i : Int), v4 = .int .i64 i ∧ Aside0 (-1 ≤ i ∧ i < xs.length ∧ (i + 1).toNat ≤ kq ∧ Rb W w.heap.size v3 (ascii (xs.drop (i + 1).toNat)) ∧ Below w.heap.size w W))
    case atStart => exact ⟨_, rfl, ⟨by have := HN.out.2.1; omega, by omega, by omega, by rw [List.drop_of_length_le (by omega)]; exact HR0.out.1, HR0.out.2⟩⟩
    case round =>
      clear HR0
      obtain ⟨i, rfl, HR⟩ := hrel
      by_cases hi : 0 ≤ i
      · have hi0 : decide (0 ≤ i) = true := decide_eq_true hi
        have hi1 := eq_true hi
        have hi2 := eq_true HR.out.2.1
        obtain ⟨ad, e, hx⟩ := Kd.at_int (Kd.C_below HC.out HR.out.2.2.2.2) i hi HR.out.2.1
        subst e
        have hdg := dig_rd HD.out.1 i (by have := HR.out.2.1; omega)
        obtain ⟨x, hxx⟩ : ∃ x, rd xs i = x := ⟨_, rfl⟩
        rw [hxx] at hx hdg
        have HX := Aside0.mk (And.intro hxx (And.intro hdg hi))
        clear hxx hdg hi
        go_wp2_with fail
        have hx0 := HX.out.2.1
        have e0 : IntKind.i64.wrap (x.tdiv 1000) = x / 1000 := by rw [Int.tdiv_eq_ediv_of_nonneg hx0.1, i64_w, w64 (by omega) (by omega)]
        have e0b : IntKind.i64.wrap (x.tdiv 100) = x / 100 := by rw [Int.tdiv_eq_ediv_of_nonneg hx0.1, i64_w, w64 (by omega) (by omega)]
        have e0c : IntKind.i64.wrap (x.tdiv 10) = x / 10 := by rw [Int.tdiv_eq_ediv_of_nonneg hx0.1, i64_w, w64 (by omega) (by omega)]
        have e1 : IntKind.u8.wrap (IntKind.i64.wrap (48 + IntKind.i64.wrap (x.tdiv 1000))) = 48 + x / 1000 := by
          rw [e0, i64_w, w64 (by omega) (by omega), IntKind.wrap_u8]; omega
        have e2 : IntKind.u8.wrap (IntKind.i64.wrap (48 + (IntKind.i64.wrap (x.tdiv 100)).tmod 10)) = 48 + x / 100 % 10 := by
          rw [e0b, Int.tmod_eq_emod_of_nonneg (by omega), i64_w, w64 (by omega) (by omega), IntKind.wrap_u8]; omega
        have e3 : IntKind.u8.wrap (IntKind.i64.wrap (48 + (IntKind.i64.wrap (x.tdiv 10)).tmod 10)) = 48 + x / 10 % 10 := by
          rw [e0c, Int.tmod_eq_emod_of_nonneg (by omega), i64_w, w64 (by omega) (by omega), IntKind.wrap_u8]; omega
        have e4 : IntKind.u8.wrap (IntKind.i64.wrap (48 + x.tmod 10)) = 48 + x % 10 := by
          rw [Int.tmod_eq_emod_of_nonneg hx0.1, i64_w, w64 (by omega) (by omega), IntKind.wrap_u8]; omega
        have HEQ := Aside0.mk (And.intro e1 (And.intro e2 (And.intro e3 e4)))
        have hlen : (ascii (xs.drop (i + 1).toNat)).length ≤ 400000 := by rw [ascii_length, List.length_drop]; have := HD.out.2.2.1; omega
        have HL := Aside0.mk hlen
        clear hx0 e0 e0b e0c e1 e2 e3 e4 hlen
        have happ : ∀ y1 y2 y3 y4 : Int, ∃ v1 w1, (Builtin.append_ #[50, 50] 50 #[u3, .slice (some ⟨wr.heap.size, 0, none⟩) 4 4]).run Tryz.prog (wr.alloc (Obj.cells #[.int .u8 y1, .int .u8 y2, .int .u8 y3, .int .u8 y4] 5)).drew = .ok v1 w1 ∧ Rb w1 w.heap.size v1 (ascii (xs.drop (i + 1).toNat) ++ [y1, y2, y3, y4]) ∧ Below w.heap.size w w1 := by
          intro y1 y2 y3 y4
          have hB2 : Below wr.heap.size wr (wr.alloc (Obj.cells #[.int .u8 y1, .int .u8 y2, .int .u8 y3, .int .u8 y4] 5)).drew := below_drew (below_alloc (Below.refl _ _) _)
          have hB3 := below_then HR.out.2.2.2.2 HR.out.2.2.2.2.size hB2
          exact run_append_four w.heap.size wr.heap.size u3 _ y1 y2 y3 y4 (by exact blk_new wr _) (Kd.R_below HR.out.2.2.2.1 hB2) hB3 hB3.size HL.out
        obtain ⟨V1, hV1⟩ := Classical.axiomOfChoice (fun (y : Int × Int × Int × Int) => happ y.1 y.2.1 y.2.2.1 y.2.2.2)
        obtain ⟨W1, hW1⟩ := Classical.axiomOfChoice hV1
        have hrun : ∀ y1 y2 y3 y4 : Int, (Builtin.append_ #[50, 50] 50 #[u3, .slice (some ⟨wr.heap.size, 0, none⟩) 4 4]).run Tryz.prog (wr.alloc (Obj.cells #[.int .u8 y1, .int .u8 y2, .int .u8 y3, .int .u8 y4] 5)).drew = .ok (V1 (y1, y2, y3, y4)) (W1 (y1, y2, y3, y4)) := fun y1 y2 y3 y4 => (hW1 (y1, y2, y3, y4)).1
        have HW := Aside0.mk (fun y1 y2 y3 y4 => (hW1 (y1, y2, y3, y4)).2)
        clear happ hV1 hW1
        simp [go_sem] at hrun
        go_region
        have hw8 : wrap64 (48 + wrap64 (x.tdiv 1000)) % 256 = 48 + x / 1000 := by rw [← HEQ.out.1, IntKind.wrap_u8, i64_w, i64_w]
        have hw9 : wrap64 (48 + (wrap64 (x.tdiv 100)).tmod 10) % 256 = 48 + x / 100 % 10 := by rw [← HEQ.out.2.1, IntKind.wrap_u8, i64_w, i64_w]
        have hw10 : wrap64 (48 + (wrap64 (x.tdiv 10)).tmod 10) % 256 = 48 + x / 10 % 10 := by rw [← HEQ.out.2.2.1, IntKind.wrap_u8, i64_w, i64_w]
        have hw11 : wrap64 (48 + x.tmod 10) % 256 = 48 + x % 10 := by rw [← HEQ.out.2.2.2, IntKind.wrap_u8, i64_w]
        rw [hw8, hw9, hw10, hw11]
        have hf := HW.out (48 + x / 1000) (48 + x / 100 % 10) (48 + x / 10 % 10) (48 + x % 10)
        simp only at hf
        generalize V1 (48 + x / 1000, 48 + x / 100 % 10, 48 + x / 10 % 10, 48 + x % 10) = v1 at hf ⊢
        generalize W1 (48 + x / 1000, 48 + x / 100 % 10, 48 + x / 10 % 10, 48 + x % 10) = w1 at hf ⊢
        have HF := Aside0.mk hf
        clear hf hw8 hw9 hw10 hw11 hrun HW
        have hwi : wrap64 (i - 1) = i - 1 := w64 (by have := HX.out.2.2; omega) (by have := HR.out.2.1; have := HD.out.2.2.1; omega)
        obtain ⟨k1, rfl⟩ : ∃ k1, gk = k1 + 1 := ⟨gk - 1, by have := HR.out.2.2.1; have := HX.out.2.2; omega⟩
        go_wp2_with fail
        go_roundg k1
        case measure => omega
        case rel =>
          have hi := HX.out.2.2
          have hix := HR.out.2.1
          refine ⟨i - 1, by rw [hwi], ⟨by omega, by omega, by have := HR.out.2.2.1; omega, ?_, HF.out.2⟩⟩
          have h1 : (i - 1 + 1).toNat = i.toNat := by omega
          have h2 : (i + 1).toNat = i.toNat + 1 := by omega
          have h3 := drop_rd xs i.toNat (by omega)
          rw [show ((i.toNat : Nat) : Int) = i by omega, HX.out.1] at h3
          rw [h1, h3]
          have h4 := HF.out.1
          rw [h2] at h4
          exact h4
      · have hi0 : decide (0 ≤ i) = false := decide_eq_false hi
        have HX := Aside0.mk (show i = -1 by have := HR.out.1; omega)
        clear hi
        have hB := HR.out.2.2.2.1
        rw [HX.out, show ((-1 : Int) + 1).toNat = 0 from rfl, List.drop_zero] at hB
        obtain ⟨l, hl⟩ : ∃ l, ascii xs = l := ⟨_, rfl⟩
        rw [hl] at hB
        have hdl : dec 0 l = val 10000 xs := by rw [← hl]; exact ascii_dec HD.out.1
        have hnl : Num l := by rw [← hl]; exact ascii_num HD.out.1
        have hll : l.length ≤ 400000 := by rw [← hl, ascii_length]; have := HD.out.2.2.1; omega
        have hvp := val_pos (B := 10000) (by omega) HD.out.1 HD.out.2.1 HN.out.1
        obtain ⟨j0, hj0, hjn⟩ : ∃ j0 : Nat, j0 < l.length ∧ rd l (j0 : Int) ≠ 48 := by
          refine Classical.byContradiction fun hno => ?_
          have h := dec_zeros (xs := l) l.length (Nat.le_refl _) (fun j hj => Classical.byContradiction fun h => hno ⟨j, hj, h⟩)
          rw [List.drop_length] at h
          simp only [dec] at h
          omega
        obtain ⟨A2, c2, rfl, hc2, hC2⟩ := Kd.R_reads hB
        have HL := Aside0.mk (And.intro hdl (And.intro hnl (And.intro hll (And.intro hj0 (And.intro hjn (And.intro hc2 (And.intro hC2 hvp)))))))
        clear hdl hnl hll hj0 hjn hc2 hC2 hB hl hvp
        go_wp2_with fail
        go_loopg [5] l.length (fun kq v5 W => ∃ k : Int, v5 = .int .i64 k ∧ W = wr ∧ Aside0 (0 ≤ k ∧ k ≤ j0 ∧ (∀ j : Nat, (j : Int) < k → rd l (j : Int) = 48) ∧ l.length ≤ kq + k))
        case atStart => exact ⟨0, rfl, rfl, ⟨by omega, by omega, fun j hj => by omega, by omega⟩⟩
        case round =>
          obtain ⟨k, rfl, rfl, HK⟩ := hrel
          have hkl : k < (l.length : Int) := by have := HK.out.2.1; have := HL.out.2.2.2.1; omega
          obtain ⟨ad, e, hx⟩ := Kd.at_int HL.out.2.2.2.2.2.2.1 k HK.out.1 hkl
          subst e
          have hk1 := eq_true HK.out.1
          have hk2 := eq_true hkl
          have HKL := Aside0.mk hkl
          clear hkl
          by_cases h48 : rd l k = 48
          · have hb : ((rd l k) == 48) = true := beq_iff_eq.mpr h48
            have hlt : k < j0 := by
              rcases Int.lt_or_eq_of_le HK.out.2.1 with h | h
              · exact h
              · rw [h] at h48; exact absurd h48 HL.out.2.2.2.2.1
            have hwk : wrap64 (k + 1) = k + 1 := w64 (by have := HK.out.1; omega) (by have := HKL.out; have := HL.out.2.2.1; omega)
            obtain ⟨k1, rfl⟩ : ∃ k1, gk = k1 + 1 := ⟨gk - 1, by have := HK.out.2.2.2; have := HKL.out; omega⟩
            have H48 := Aside0.mk (And.intro h48 hlt)
            clear h48 hlt
            go_wp2_with fail
            go_roundg k1
            case measure => omega
            case rel =>
              have := H48.out.2
              have h0 := HK.out.1
              refine ⟨k + 1, by rw [hwk], rfl, ⟨by omega, by omega, fun j hj => ?_, by have := HK.out.2.2.2; omega⟩⟩
              by_cases hjk : (j : Int) = k
              · rw [hjk]; exact H48.out.1
              · exact HK.out.2.2.1 j (by omega)
          · have hb : ((rd l k) == 48) = false := beq_eq_false_iff_ne.mpr h48
            have H48 := Aside0.mk h48
            clear h48
            obtain ⟨i0, hi0', _, hsz, _⟩ := info_parts info5
            have hcut := cut_from (P := Tryz.prog) 50 5 .i64 Tryz.underlying50 hi0' 1 hsz (some ad) l.length c2 k HK.out.1 (by have := HKL.out; omega)
            have hCd := Kd.C_drop (c := c2) HL.out.2.2.2.2.2.2.1 (m := k.toNat) (by have := HKL.out; omega) HL.out.2.2.2.2.2.1
            obtain ⟨A3, hA3⟩ : ∃ A3, (if c2 = k.toNat then some ad else (some ad).map (·.add (k.toNat * 1))) = A3 := ⟨_, rfl⟩
            obtain ⟨n3, hn3⟩ : ∃ n3, l.length - k.toNat = n3 := ⟨_, rfl⟩
            obtain ⟨c3, hc3⟩ : ∃ c3, c2 - k.toNat = c3 := ⟨_, rfl⟩
            rw [hA3, hn3, hc3] at hcut
            have hCd' : (Kd.int .u8).C wr A3 n3 (l.drop k.toNat) := by rw [← hA3, ← hn3, ← List.length_drop]; exact hCd
            have hcv := Kd.C_string (P := Tryz.prog) (c := c3) (src := 50) (dst := 9) (e := 5) Tryz.underlying50 Tryz.underlying5 Tryz.underlying9 hCd'
            obtain ⟨tt, htt⟩ : ∃ tt, strOfNums (l.drop k.toNat) = tt := ⟨_, rfl⟩
            rw [htt] at hcv
            have HT := Aside0.mk htt
            clear hA3 hn3 hc3 hCd hCd' htt hi0' hsz
            go_wp2_with fail
            go_ret
            have hk0 := HK.out.1
            have hkl := HKL.out
            have hbt : bytesOf tt = l.drop k.toNat := by
              rw [← HT.out]
              exact bytesOf_strOfNums _ (fun x hx => by have := HL.out.2.1 x (List.mem_of_mem_drop hx); omega)
            have hsz : tt.size = l.length - k.toNat := by rw [← bytesOf_length, hbt, List.length_drop]
            refine ⟨tt, rfl, ⟨by omega, fun h => ?_, ?_⟩, ?_, HR.out.2.2.2.2⟩
            · have h1 := rd_bytesOf tt 0
              rw [hbt] at h1
              have h2 := rd_drop l k.toNat 0
              rw [show ((0 : Nat) : Int) = 0 from rfl, Nat.add_zero, show ((k.toNat : Nat) : Int) = k by omega] at h2
              exact absurd (h2.symm.trans (h1.trans h)) H48.out
            · rw [hbt]; exact HL.out.2.1.drop _
            · unfold dv
              rw [hbt, ← HL.out.1]
              exact (dec_zeros k.toNat (by omega) (fun j hj => HK.out.2.2.1 j (by omega))).symm
end Go.Proofs.YthbdjmopolpjmaaGreatDoor.C
end
section
set_option linter.unusedVariables false
set_option linter.unusedSimpArgs false
namespace Go.Proofs.YthbdjmopolpjmaaGreatDoor.M
open Go.RowKit Go.Proofs.YthbdjmopolpjmaaGreatDoorW.PrintWords Go.Proofs.YthbdjmopolpjmaaGreatDoorW.PrintLast Go.Proofs.YthbdjmopolpjmaaGreatDoorW.PrintMore Go.Proofs.YthbdjmopolpjmaaGreatDoor.F Go.Proofs.YthbdjmopolpjmaaGreatDoor.C
structure RInv (a b : Int) (L k : Nat) (x q : List Int) : Prop where
  xl : x.length = L
  ql : q.length = L
  xd : Dig 10000 x
  qd : Dig 10000 q
  eq : a = val 10000 x + val 10000 q * b
  top : val 10000 (x.drop k) < b
  low : ∀ j : Nat, j < k → rd q (j : Int) = 0
theorem rinv_start {x y : List Int} (hx : Dig 10000 x) (hy : Dig 10000 y) (ty : Trim y) (hn : y ≠ []) (hl : y.length ≤ x.length) : RInv (val 10000 x) (val 10000 y) x.length (x.length - y.length + 1) x (List.replicate x.length 0) := by
  refine ⟨rfl, by simp, hx, dig_replicate (by omega) _, by rw [val_replicate]; omega, ?_, fun j hj => ?_⟩
  · have h1 := val_lt (B := 10000) (by omega) (dig_drop hx (x.length - y.length + 1))
    have h2 := val_ge (B := 10000) (by omega) hy ty hn
    have hp := List.length_pos_iff.2 hn
    rw [List.length_drop, show x.length - (x.length - y.length + 1) = y.length - 1 by omega] at h1
    omega
  · unfold rd
    rw [Int.toNat_natCast]
    simp only [List.getD_eq_getElem?_getD, List.getElem?_replicate]
    split <;> rfl
theorem rinv_bound {a b : Int} {L k : Nat} {x q : List Int} (h : RInv a b L (k + 1) x q) (hk : k < L) : val 10000 (x.drop k) < 10000 * b := by
  have h1 := drop_rd x k (by rw [h.xl]; exact hk)
  have h2 := dig_rd h.xd k (by rw [h.xl, Int.toNat_natCast]; exact hk)
  rw [h1]
  simp only [val]
  have := h.top
  omega
theorem rinv_step {a b f : Int} {L k : Nat} {x q r : List Int} (h : RInv a b L (k + 1) x q) (hk : k < L) (f0 : 0 ≤ f) (f1 : f < 10000) (hf : val 10000 (x.drop k) < (f + 1) * b) (rl : r.length = L) (rdg : Dig 10000 r) (rt : r.take k = x.take k) (rv : val 10000 (r.drop k) = val 10000 (x.drop k) - f * b) : RInv a b L k r (q.set k f) := by
  refine ⟨rl, by rw [List.length_set]; exact h.ql, rdg, dig_set h.qd _ ⟨f0, f1⟩, ?_, ?_, fun j hj => ?_⟩
  · rw [val_set 10000 q k f (by rw [h.ql]; exact hk), h.low k (by omega), h.eq]
    have h1 := val_cut 10000 x k (by rw [h.xl]; omega)
    have h2 := val_cut 10000 r k (by rw [rl]; omega)
    rw [h1, h2, rt, rv]
    generalize (10000 : Int) ^ k = P
    generalize val 10000 (x.take k) = u1
    generalize val 10000 (x.drop k) = u2
    generalize val 10000 q = u3
    grind
  · rw [rv]
    have : (f + 1) * b = f * b + b := by grind
    omega
  · rw [rd_set_ne _ _ _ _ (by omega)]
    exact h.low j (by omega)
theorem rinv_same {a b : Int} {L k : Nat} {x q : List Int} (h : RInv a b L (k + 1) x q) (hk : k < L) (hf : val 10000 (x.drop k) < (0 + 1) * b) : RInv a b L k x (q.set k 0) :=
  rinv_step h hk (by omega) (by omega) hf h.xl h.xd rfl (by omega)
end Go.Proofs.YthbdjmopolpjmaaGreatDoor.M
end
