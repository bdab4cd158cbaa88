/- A drawn ride is cut where it may and goes on the same; each speed lies within 0 and 200; its first is what Pull says; no span changes no speed. -/
import Derived.Test.YtmbonjljbienkaaRowFnRide
namespace Go.Proofs.Ytmbonjljbienkaa.Pure
open Go.RowKit Go.Proofs.Ytmbonjljbienkaa.PFnRide Go.Proofs.YtmbonjljbienkaaW.PrintWords Go.Proofs.YtmbonjljbienkaaW.PrintLast Go.Proofs.YtmbonjljbienkaaW.PrintMore
set_option linter.unusedVariables false
set_option linter.unusedSimpArgs false
theorem w64 {x : Int} (h0 : -9223372036854775808 ≤ x) (h1 : x ≤ 9223372036854775807) : wrap64 x = x := by unfold wrap64; omega
theorem ev_k {α : Type} {g : Nat → Option α} {r : α} (h : ∀ k, g k = some r) : Ev g r := ⟨0, fun k _ => h k⟩
theorem ev_some {α : Type} {r : α} : Ev (fun _ => some r) r := Ev.now r
theorem wf_i64 {x : Int} (h : (Lit.int .i64 x).wf = true) : -9223372036854775808 ≤ x ∧ x ≤ 9223372036854775807 := by
  simp only [Lit.wf, Bool.and_eq_true, decide_eq_true_eq] at h
  have h1 : IntKind.min .i64 = -9223372036854775808 := by decide
  have h2 : IntKind.max .i64 = 9223372036854775807 := by decide
  omega
theorem wf_u8 {x : Int} (h : (Lit.int .u8 x).wf = true) : 0 ≤ x ∧ x ≤ 255 := by
  simp only [Lit.wf, Bool.and_eq_true, decide_eq_true_eq] at h
  have h1 : IntKind.min .u8 = 0 := by decide
  have h2 : IntKind.max .u8 = 255 := by decide
  omega
/-! Float64 words as numbers: the sign, the rung, the magnitude in units of the least place; rounding. -/
theorem dsw : Ieee.double.signWeight = 9223372036854775808 := by decide
theorem dbn : Ieee.double.binade = 4503599627370496 := by decide
theorem dinf : Ieee.double.infRung = 9218868437227405312 := by decide
theorem dlp : Ieee.double.leastPlace = -1074 := by decide
def rg (x : Nat) : Nat := x % 9223372036854775808
def sg (x : Nat) : Bool := x / 9223372036854775808 % 2 == 1
def mgr (r : Nat) : Nat := if r < 4503599627370496 then r else (4503599627370496 + r % 4503599627370496) * 2 ^ (r / 4503599627370496 - 1)
def rne (n g : Nat) : Nat := n / g + (if g < 2 * (n % g) ∨ (g = 2 * (n % g) ∧ n / g % 2 = 1) then 1 else 0)
def rn (t v : Nat) : Nat := if v = 0 then 0 else min ((v.log2 - (t + 52)) * 4503599627370496 + rne v (2 ^ (t + (v.log2 - (t + 52))))) 9218868437227405312
theorem rne_mono {a b g : Nat} (h : a ≤ b) : rne a g ≤ rne b g := by
  rcases Nat.eq_zero_or_pos g with rfl | hg
  · unfold rne; simp; split <;> split <;> omega
  have h1 : a / g ≤ b / g := Nat.div_le_div_right h
  have ha := Nat.div_add_mod a g
  have hb := Nat.div_add_mod b g
  unfold rne
  rcases Nat.lt_or_eq_of_le h1 with h2 | h2
  · split <;> split <;> omega
  · rw [h2] at ha ⊢
    have : a % g ≤ b % g := by omega
    split
    · rename_i c
      rw [if_pos]
      · omega
      · rcases c with c | c
        · left; omega
        · rcases Nat.lt_or_eq_of_le this with h3 | h3
          · left; omega
          · right; exact ⟨by omega, c.2⟩
    · split <;> omega
theorem rne_mul (k g : Nat) (hg : 0 < g) : rne (k * g) g = k := by
  unfold rne
  rw [Nat.mul_div_cancel k hg, Nat.mul_mod_left, if_neg (by omega)]; rfl
theorem rne_scale (n g c : Nat) (hc : 0 < c) : rne (n * c) (g * c) = rne n g := by
  unfold rne
  rw [Nat.mul_div_mul_right n g hc, Nat.mul_mod_mul_right]
  have e1 : g * c < 2 * (n % g * c) ↔ g < 2 * (n % g) := by
    rw [← Nat.mul_assoc]; exact Nat.mul_lt_mul_right hc
  have e2 : g * c = 2 * (n % g * c) ↔ g = 2 * (n % g) := by
    rw [← Nat.mul_assoc]; exact Nat.mul_left_inj (by omega)
  simp only [e1, e2]
theorem cut_rne (neg : Bool) (n d : Nat) : Ieee.Toward.even.cut neg n d = rne n (2 ^ d) := by
  have hs : ∀ k, 1 <<< k = 2 ^ k := fun k => by rw [Nat.shiftLeft_eq, Nat.one_mul]
  have key : ∀ g, (n / g + (decide (g < 2 * (n % g)) || (g == 2 * (n % g) && n / g % 2 == 1)).toNat) = rne n g := by
    intro g
    unfold rne
    congr 1
    by_cases c : g < 2 * (n % g) ∨ (g = 2 * (n % g) ∧ n / g % 2 = 1)
    · rw [if_pos c]
      have : (decide (g < 2 * (n % g)) || (g == 2 * (n % g) && n / g % 2 == 1)) = true := by simpa using c
      rw [this]; rfl
    · rw [if_neg c]
      have : (decide (g < 2 * (n % g)) || (g == 2 * (n % g) && n / g % 2 == 1)) = false := by
        rw [Bool.eq_false_iff]; intro h; exact c (by simpa using h)
      rw [this]; rfl
  unfold Ieee.Toward.cut
  simp only [hs]
  rw [key]
  by_cases c : d ≤ n.log2 + 2
  · rw [Nat.min_eq_left c]
  · rw [Nat.min_eq_right (by omega)]
    have hl : n < 2 ^ (n.log2 + 1) := Nat.lt_log2_self
    have small : ∀ k, n.log2 + 2 ≤ k → rne n (2 ^ k) = 0 := by
      intro k hk
      have h1 : 2 ^ (n.log2 + 2) ≤ 2 ^ k := Nat.pow_le_pow_right (by omega) hk
      have h2 : 2 ^ (n.log2 + 2) = 2 ^ (n.log2 + 1) * 2 := Nat.pow_succ ..
      unfold rne
      rw [Nat.div_eq_of_lt (by omega), Nat.mod_eq_of_lt (by omega), if_neg (by omega)]
    rw [small _ (Nat.le_refl _), small _ (by omega)]
theorem log2_shift (m s : Nat) (h : m ≠ 0) : (m * 2 ^ s).log2 = m.log2 + s := by
  have hp : 0 < 2 ^ s := Nat.two_pow_pos s
  have h0 : m * 2 ^ s ≠ 0 := Nat.mul_ne_zero h (by omega)
  apply Nat.le_antisymm
  · have : (m * 2 ^ s).log2 < m.log2 + s + 1 := by
      rw [Nat.log2_lt h0, show m.log2 + s + 1 = (m.log2 + 1) + s by omega, Nat.pow_add]
      exact Nat.mul_lt_mul_of_pos_right Nat.lt_log2_self hp
    omega
  · rw [Nat.le_log2 h0, Nat.pow_add]
    exact Nat.mul_le_mul_right _ (Nat.log2_self_le h)
theorem nearest_rn (neg : Bool) (mag t s : Nat) : Ieee.double.nearest neg mag (-1074 - (t : Int) + (s : Int)) = Ieee.double.word neg (rn t (mag * 2 ^ s)) := by
  unfold Ieee.Format.nearest rn
  have hp : 0 < 2 ^ s := Nat.two_pow_pos s
  by_cases c : mag = 0
  · simp [c]
  · have h0 : mag * 2 ^ s ≠ 0 := Nat.mul_ne_zero c (by omega)
    rw [if_neg c, if_neg h0, log2_shift mag s c, dlp, dbn, dinf]
    have hfb : (Ieee.double.fractionBits : Int) = 52 := rfl
    rw [hfb]
    have hlast : max (-1074 - (t : Int) + (s : Int) + (mag.log2 : Int) - 52) (-1074) = -1074 + ((mag.log2 + s - (t + 52) : Nat) : Int) := by omega
    simp only [hlast]
    generalize hq : mag.log2 + s - (t + 52) = q
    rw [show (-1074 + (q : Int) - -1074).toNat = q by omega]
    congr 3
    rw [cut_rne, Nat.shiftLeft_eq]
    by_cases d : t + q ≤ s
    · rw [show (-1074 - (t : Int) + (s : Int) - (-1074 + (q : Int))).toNat = s - (t + q) by omega, show (-1074 + (q : Int) - (-1074 - (t : Int) + (s : Int))).toNat = 0 by omega]
      have e : 2 ^ s = 2 ^ (s - (t + q)) * 2 ^ (t + q) := by rw [← Nat.pow_add]; congr 1; omega
      rw [e, ← Nat.mul_assoc, rne_mul _ _ (Nat.two_pow_pos _)]
      have := rne_mul (mag * 2 ^ (s - (t + q))) 1 (by omega)
      rw [Nat.mul_one] at this
      rw [Nat.pow_zero, this]
    · rw [show (-1074 - (t : Int) + (s : Int) - (-1074 + (q : Int))).toNat = 0 by omega, show (-1074 + (q : Int) - (-1074 - (t : Int) + (s : Int))).toNat = t + q - s by omega]
      have e : 2 ^ (t + q) = 2 ^ (t + q - s) * 2 ^ s := by rw [← Nat.pow_add]; congr 1; omega
      rw [e, rne_scale _ _ _ hp, Nat.pow_zero, Nat.mul_one]
theorem rne_le_of (n g b : Nat) (hg : 0 < g) (h : n ≤ b * g) : rne n g ≤ b := by
  have := rne_mono (g := g) h
  rwa [rne_mul b g hg] at this
theorem le_rne_of (n g b : Nat) (hg : 0 < g) (h : b * g ≤ n) : b ≤ rne n g := by
  have := rne_mono (g := g) h
  rwa [rne_mul b g hg] at this
/-- The part of a magnitude that is kept lies in its binade. -/
theorem kept_le (t v : Nat) : rne v (2 ^ (t + (v.log2 - (t + 52)))) ≤ 9007199254740992 := by
  apply rne_le_of _ _ _ (Nat.two_pow_pos _)
  have h1 : v < 2 ^ (v.log2 + 1) := Nat.lt_log2_self
  have h2 : 2 ^ (v.log2 + 1) ≤ 2 ^ (53 + (t + (v.log2 - (t + 52)))) := Nat.pow_le_pow_right (by omega) (by omega)
  have h3 : (2 : Nat) ^ 53 = 9007199254740992 := by decide
  rw [Nat.pow_add 2 53, h3] at h2
  omega
theorem le_kept (t v : Nat) (h : v ≠ 0) (hq : 0 < v.log2 - (t + 52)) : 4503599627370496 ≤ rne v (2 ^ (t + (v.log2 - (t + 52)))) := by
  apply le_rne_of _ _ _ (Nat.two_pow_pos _)
  have h1 : 2 ^ v.log2 ≤ v := Nat.log2_self_le h
  have h2 : 2 ^ v.log2 = 2 ^ (52 + (t + (v.log2 - (t + 52)))) := by congr 1; omega
  have h3 : (2 : Nat) ^ 52 = 4503599627370496 := by decide
  rw [h2, Nat.pow_add 2 52, h3] at h1
  exact h1
theorem rn_mono {t a b : Nat} (h : a ≤ b) : rn t a ≤ rn t b := by
  unfold rn
  by_cases ca : a = 0
  · rw [if_pos ca]; exact Nat.zero_le _
  · have cb : b ≠ 0 := by omega
    rw [if_neg ca, if_neg cb]
    have hl : a.log2 ≤ b.log2 := by
      rw [Nat.le_log2 cb]
      exact Nat.le_trans (Nat.log2_self_le ca) h
    generalize hq : a.log2 - (t + 52) = q
    generalize hr : b.log2 - (t + 52) = r
    have hle : q ≤ r := by omega
    rcases Nat.lt_or_eq_of_le hle with hlt | heq
    · have h1 := kept_le t a
      have h2 := le_kept t b cb (by omega)
      rw [hq] at h1
      rw [hr] at h2
      clear hq hr hl hle h
      omega
    · subst heq
      have h1 := rne_mono (g := 2 ^ (t + q)) h
      clear hq hr hl hle h
      omega
theorem mgr_pos {r : Nat} (h : 0 < r) : 0 < mgr r := by
  unfold mgr
  split
  · exact h
  · exact Nat.mul_pos (by omega) (Nat.two_pow_pos _)
/-- What stands exactly on a rung is rounded to that rung. -/
theorem rn_exact (t r : Nat) (h : r ≤ 9218868437227405312) : rn t (mgr r * 2 ^ t) = r := by
  have hp : 0 < 2 ^ t := Nat.two_pow_pos t
  unfold rn
  by_cases c0 : r = 0
  · subst c0; simp [mgr]
  have hm := mgr_pos (Nat.pos_of_ne_zero c0)
  rw [if_neg (Nat.mul_ne_zero (by omega) (by omega)), log2_shift _ _ (by omega)]
  unfold mgr at hm ⊢
  by_cases c : r < 4503599627370496
  · rw [if_pos c]
    have hl : r.log2 < 52 := by rw [Nat.log2_lt c0]; exact Nat.lt_of_lt_of_eq c (by decide)
    rw [show r.log2 + t - (t + 52) = 0 by omega, Nat.add_zero, rne_mul _ _ hp]
    omega
  · rw [if_neg c]
    have h53 : (2 : Nat) ^ 53 = 9007199254740992 := by decide
    have h52 : (2 : Nat) ^ 52 = 4503599627370496 := by decide
    have hl : (4503599627370496 + r % 4503599627370496).log2 = 52 := by
      have a1 : (4503599627370496 + r % 4503599627370496).log2 < 53 := by
        rw [Nat.log2_lt (by omega), h53]; omega
      have a2 : 52 ≤ (4503599627370496 + r % 4503599627370496).log2 := by
        rw [Nat.le_log2 (by omega), h52]; omega
      omega
    rw [log2_shift _ _ (by omega), hl, show 52 + (r / 4503599627370496 - 1) + t - (t + 52) = r / 4503599627370496 - 1 by omega]
    rw [Nat.mul_assoc, ← Nat.pow_add, Nat.add_comm (r / 4503599627370496 - 1) t, rne_mul _ _ (Nat.two_pow_pos _)]
    have := Nat.div_add_mod r 4503599627370496
    omega
theorem rn_le (t v r : Nat) (hr : r ≤ 9218868437227405312) (h : v ≤ mgr r * 2 ^ t) : rn t v ≤ r := by
  have := rn_mono (t := t) h
  rwa [rn_exact t r hr] at this
theorem le_rn (t v r : Nat) (hr : r ≤ 9218868437227405312) (h : mgr r * 2 ^ t ≤ v) : r ≤ rn t v := by
  have := rn_mono (t := t) h
  rwa [rn_exact t r hr] at this
theorem mgr_mono {a b : Nat} (h : a ≤ b) : mgr a ≤ mgr b := by
  unfold mgr
  by_cases ca : a < 4503599627370496
  · by_cases cb : b < 4503599627370496
    · rw [if_pos ca, if_pos cb]; exact h
    · rw [if_pos ca, if_neg cb]
      have h1 : (4503599627370496 + b % 4503599627370496) * 1 ≤ (4503599627370496 + b % 4503599627370496) * 2 ^ (b / 4503599627370496 - 1) := Nat.mul_le_mul_left _ (Nat.two_pow_pos _)
      omega
  · rw [if_neg ca, if_neg (show ¬ b < 4503599627370496 by omega)]
    rcases Nat.lt_or_eq_of_le (show a / 4503599627370496 ≤ b / 4503599627370496 by omega) with h1 | h1
    · have e : 2 ^ (b / 4503599627370496 - 1) = 2 ^ (b / 4503599627370496 - a / 4503599627370496 - 1) * (2 * 2 ^ (a / 4503599627370496 - 1)) := by
        rw [← Nat.mul_assoc, ← Nat.pow_succ, ← Nat.pow_add]; congr 1; omega
      have h2 : (4503599627370496 + a % 4503599627370496) * 2 ^ (a / 4503599627370496 - 1) ≤ 4503599627370496 * 2 * 2 ^ (a / 4503599627370496 - 1) := Nat.mul_le_mul_right _ (by omega)
      have h3 : 4503599627370496 * (2 * 2 ^ (a / 4503599627370496 - 1)) ≤ (4503599627370496 + b % 4503599627370496) * (2 * 2 ^ (a / 4503599627370496 - 1)) := Nat.mul_le_mul_right _ (by omega)
      have h4 : (4503599627370496 + b % 4503599627370496) * (1 * (2 * 2 ^ (a / 4503599627370496 - 1))) ≤ (4503599627370496 + b % 4503599627370496) * (2 ^ (b / 4503599627370496 - a / 4503599627370496 - 1) * (2 * 2 ^ (a / 4503599627370496 - 1))) := Nat.mul_le_mul_left _ (Nat.mul_le_mul_right _ (Nat.two_pow_pos _))
      rw [e]
      rw [Nat.one_mul] at h4
      rw [Nat.mul_assoc] at h2
      omega
    · rw [h1]
      exact Nat.mul_le_mul_right _ (by omega)
theorem mgr_lt {a b : Nat} (hb : b ≤ 9218868437227405312) (h : a < b) : mgr a < mgr b := by
  rcases Nat.lt_or_ge (mgr a) (mgr b) with h1 | h1
  · exact h1
  · have e := rn_exact 0 a (by omega)
    have f := rn_exact 0 b hb
    have := rn_mono (t := 0) (show mgr b * 2 ^ 0 ≤ mgr a * 2 ^ 0 by omega)
    omega
theorem rg_le_of_mgr {a b : Nat} (ha : a ≤ 9218868437227405312) (h : mgr a ≤ mgr b) : a ≤ b := by
  rcases Nat.lt_or_ge b a with h1 | h1
  · have := mgr_lt ha h1; omega
  · exact h1
theorem read_fin {x : Nat} (h : rg x < 9218868437227405312) : ∃ (m e : Nat), Ieee.double.read x = .number (sg x) m (-1074 + (e : Int)) ∧ m * 2 ^ e = mgr (rg x) := by
  unfold rg at h
  unfold Ieee.Format.read mgr rg sg
  simp only [dsw, dbn, dinf, dlp]
  by_cases c : x % 9223372036854775808 < 4503599627370496
  · rw [if_pos c, if_pos c]
    exact ⟨x % 9223372036854775808, 0, by simp, by simp⟩
  · rw [if_neg c, if_pos h, if_neg c]
    exact ⟨_, _, rfl, rfl⟩
theorem read_inf {x : Nat} (h : rg x = 9218868437227405312) : Ieee.double.read x = .infinity (sg x) := by
  unfold rg at h
  unfold Ieee.Format.read sg
  simp only [dsw, dbn, dinf, dlp]
  rw [if_neg (by omega), if_neg (by omega), if_pos h]
theorem read_nan {x : Nat} (h : 9218868437227405312 < rg x) : ∃ n, Ieee.double.read x = .nan (sg x) n := by
  unfold rg at h
  unfold Ieee.Format.read sg
  simp only [dsw, dbn, dinf, dlp]
  rw [if_neg (by omega), if_neg (by omega), if_neg (by omega)]
  exact ⟨_, rfl⟩
theorem rg_word (s : Bool) (r : Nat) (h : r < 9223372036854775808) : rg (Ieee.double.word s r) = r := by
  unfold rg Ieee.Format.word
  rw [dsw]
  cases s <;> simp <;> omega
theorem sg_word (s : Bool) (r : Nat) (h : r < 9223372036854775808) : sg (Ieee.double.word s r) = s := by
  unfold sg Ieee.Format.word
  rw [dsw]
  cases s
  · simp; omega
  · simp; omega
theorem rn_le_inf (t v : Nat) : rn t v ≤ 9218868437227405312 := by
  unfold rn; split <;> omega
def iv (x : Nat) : Int := if sg x = true then -(mgr (rg x) : Int) else (mgr (rg x) : Int)
theorem iv_abs (x : Nat) : (iv x).natAbs = mgr (rg x) := by
  unfold iv; split <;> simp
theorem signed_pow (s : Bool) (m e b : Nat) (h : b ≤ e) : Ieee.signed s m (e - b) * (2 ^ b : Nat) = if s = true then -((m * 2 ^ e : Nat) : Int) else ((m * 2 ^ e : Nat) : Int) := by
  have e1 : (m <<< (e - b)) * 2 ^ b = m * 2 ^ e := by
    rw [Nat.shiftLeft_eq, Nat.mul_assoc, ← Nat.pow_add]; congr 2; omega
  unfold Ieee.signed
  cases s
  · simp only [Bool.false_eq_true, if_false]
    rw [← Int.natCast_mul, e1]
  · simp only [if_true]
    rw [Int.neg_mul, ← Int.natCast_mul, e1]
theorem fin_iv {x m e : Nat} (h : m * 2 ^ e = mgr (rg x)) : (if sg x = true then -((m * 2 ^ e : Nat) : Int) else ((m * 2 ^ e : Nat) : Int)) = iv x := by
  rw [h]; rfl
theorem pow_pos' (b : Nat) : (0 : Int) < ((2 ^ b : Nat) : Int) := by have := Nat.two_pow_pos b; omega
theorem natAbs_mul_pow (a : Int) (b : Nat) : a.natAbs * 2 ^ b = (a * ((2 ^ b : Nat) : Int)).natAbs := by
  rw [Int.natAbs_mul, Int.natAbs_natCast]
theorem sum_num (sx sy : Bool) (m n e f : Nat) (X Y : Int) (hX : (if sx = true then -((m * 2 ^ e : Nat) : Int) else ((m * 2 ^ e : Nat) : Int)) = X) (hY : (if sy = true then -((n * 2 ^ f : Nat) : Int) else ((n * 2 ^ f : Nat) : Int)) = Y) :
    ((Ieee.Datum.number sx m (-1074 + (e : Int))).sum (.number sy n (-1074 + (f : Int)))).map Ieee.double.write = some (Ieee.double.word (if X + Y = 0 then sx && sy else decide (X + Y < 0)) (rn 0 (X + Y).natAbs)) := by
  simp only [Ieee.Datum.sum, Option.map_some, Ieee.Format.write]
  have hb : min (-1074 + (e : Int)) (-1074 + (f : Int)) = -1074 - ((0 : Nat) : Int) + ((min e f : Nat) : Int) := by omega
  rw [hb, nearest_rn]
  have h1 : (-1074 + (e : Int) - (-1074 - ((0 : Nat) : Int) + ((min e f : Nat) : Int))).toNat = e - min e f := by omega
  have h2 : (-1074 + (f : Int) - (-1074 - ((0 : Nat) : Int) + ((min e f : Nat) : Int))).toNat = f - min e f := by omega
  rw [h1, h2]
  have p1 := signed_pow sx m e (min e f) (Nat.min_le_left _ _)
  have p2 := signed_pow sy n f (min e f) (Nat.min_le_right _ _)
  rw [hX] at p1
  rw [hY] at p2
  have hp := pow_pos' (min e f)
  generalize Ieee.signed sx m (e - min e f) = S at p1 ⊢
  generalize Ieee.signed sy n (f - min e f) = T at p2 ⊢
  have hsum : (S + T) * ((2 ^ min e f : Nat) : Int) = X + Y := by rw [Int.add_mul, p1, p2]
  rw [natAbs_mul_pow, hsum]
  have z : S + T = 0 ↔ X + Y = 0 := by
    rw [← hsum]
    constructor
    · intro h; rw [h, Int.zero_mul]
    · intro h
      rcases Int.mul_eq_zero.mp h with h | h
      · exact h
      · omega
  have l : S + T < 0 ↔ X + Y < 0 := by
    rw [← hsum]
    constructor
    · intro h; exact Int.mul_neg_of_neg_of_pos h hp
    · intro h
      rcases Int.lt_or_le (S + T) 0 with h3 | h3
      · exact h3
      · have := Int.mul_nonneg h3 (Int.le_of_lt hp); omega
  by_cases c : X + Y = 0
  · rw [if_pos c, if_pos (z.mpr c)]
  · rw [if_neg c, if_neg (fun h => c (z.mp h)), decide_eq_decide.mpr l]
theorem add_fin {x y : Nat} (hx : rg x < 9218868437227405312) (hy : rg y < 9218868437227405312) : Ieee.double.add x y = some (Ieee.double.word (if iv x + iv y = 0 then sg x && sg y else decide (iv x + iv y < 0)) (rn 0 (iv x + iv y).natAbs)) := by
  obtain ⟨m, e, h1, h2⟩ := read_fin hx
  obtain ⟨n, f, h3, h4⟩ := read_fin hy
  unfold Ieee.Format.add
  rw [h1, h3]
  exact sum_num _ _ m n e f _ _ (fin_iv h2) (fin_iv h4)
theorem sub_fin {x y : Nat} (hx : rg x < 9218868437227405312) (hy : rg y < 9218868437227405312) : Ieee.double.sub x y = some (Ieee.double.word (if iv x - iv y = 0 then sg x && !sg y else decide (iv x - iv y < 0)) (rn 0 (iv x - iv y).natAbs)) := by
  obtain ⟨m, e, h1, h2⟩ := read_fin hx
  obtain ⟨n, f, h3, h4⟩ := read_fin hy
  unfold Ieee.Format.sub
  rw [h1, h3]
  have := sum_num (sg x) (!sg y) m n e f (iv x) (-iv y) (fin_iv h2) (by rw [h4]; unfold iv; cases sg y <;> simp)
  rw [← Int.sub_eq_add_neg] at this
  exact this
theorem mul_fin {x y : Nat} (hx : rg x < 9218868437227405312) (hy : rg y < 9218868437227405312) : Ieee.double.mul x y = some (Ieee.double.word (sg x ^^ sg y) (rn 1074 (mgr (rg x) * mgr (rg y)))) := by
  obtain ⟨m, e, h1, h2⟩ := read_fin hx
  obtain ⟨n, f, h3, h4⟩ := read_fin hy
  unfold Ieee.Format.mul
  rw [h1, h3]
  simp only [Ieee.Datum.product, Option.map_some, Ieee.Format.write]
  have hb : (-1074 + (e : Int)) + (-1074 + (f : Int)) = -1074 - ((1074 : Nat) : Int) + ((e + f : Nat) : Int) := by omega
  rw [hb, nearest_rn, ← h2, ← h4]
  congr 3
  rw [Nat.pow_add]
  simp only [Nat.mul_assoc, Nat.mul_left_comm]
theorem order_fin {x y : Nat} (hx : rg x < 9218868437227405312) (hy : rg y < 9218868437227405312) : Ieee.double.order x y = some (if iv x < iv y then .lt else if iv x = iv y then .eq else .gt) := by
  obtain ⟨m, e, h1, h2⟩ := read_fin hx
  obtain ⟨n, f, h3, h4⟩ := read_fin hy
  unfold Ieee.Format.order
  rw [h1, h3]
  simp only [Ieee.Datum.order]
  have hb : min (-1074 + (e : Int)) (-1074 + (f : Int)) = -1074 + ((min e f : Nat) : Int) := by omega
  rw [hb]
  have g1 : (-1074 + (e : Int) - (-1074 + ((min e f : Nat) : Int))).toNat = e - min e f := by omega
  have g2 : (-1074 + (f : Int) - (-1074 + ((min e f : Nat) : Int))).toNat = f - min e f := by omega
  rw [g1, g2]
  have p1 := signed_pow (sg x) m e (min e f) (Nat.min_le_left _ _)
  have p2 := signed_pow (sg y) n f (min e f) (Nat.min_le_right _ _)
  rw [fin_iv h2] at p1
  rw [fin_iv h4] at p2
  have hp := pow_pos' (min e f)
  generalize Ieee.signed (sg x) m (e - min e f) = S at p1 ⊢
  generalize Ieee.signed (sg y) n (f - min e f) = T at p2 ⊢
  have l : S < T ↔ iv x < iv y := by
    rw [← p1, ← p2]; exact (Int.mul_lt_mul_right hp).symm
  have q : S = T ↔ iv x = iv y := by
    rw [← p1, ← p2]; exact (Int.mul_eq_mul_right_iff (by omega)).symm
  show some (if S < T then Ordering.lt else if S = T then .eq else .gt) = _
  simp only [l, q]
/-- A number of at most 2^k. -/
def B (k x : Nat) : Prop := rg x ≤ (k + 1023) * 4503599627370496
instance (k x : Nat) : Decidable (B k x) := inferInstanceAs (Decidable (_ ≤ _))
theorem pow_split (k : Nat) : 4503599627370496 * 2 ^ (k + 1022) = 2 ^ (k + 1074) := by
  have e : 52 + (k + 1022) = k + 1074 := by omega
  have h52 : (2 : Nat) ^ 52 = 4503599627370496 := by decide
  have h := (Nat.pow_add 2 52 (k + 1022)).symm
  rw [h52] at h
  rw [h, e]
theorem mgr_pow (k : Nat) : mgr ((k + 1023) * 4503599627370496) = 2 ^ (k + 1074) := by
  rw [← pow_split]
  unfold mgr
  have h1 : ¬ (k + 1023) * 4503599627370496 < 4503599627370496 := by omega
  have h2 : (k + 1023) * 4503599627370496 % 4503599627370496 = 0 := by omega
  have h3 : (k + 1023) * 4503599627370496 / 4503599627370496 - 1 = k + 1022 := by omega
  rw [if_neg h1, h2, h3]
theorem B.mgr {k x : Nat} (h : B k x) : mgr (rg x) ≤ 2 ^ (k + 1074) := by
  rw [← mgr_pow]; exact mgr_mono h
theorem B.fin {k x : Nat} (h : B k x) (hk : k ≤ 1023) : rg x < 9218868437227405312 := by
  unfold B at h; omega
theorem B.mono {j k x : Nat} (h : B j x) (hk : j ≤ k) : B k x := by
  exact Nat.le_trans h (Nat.mul_le_mul_right _ (by omega))
theorem B_rn (s : Bool) (t v k : Nat) (hk : k ≤ 1024) (h : v ≤ 2 ^ (k + 1074) * 2 ^ t) : B k (Ieee.double.word s (rn t v)) := by
  unfold B
  have hi := rn_le_inf t v
  rw [rg_word _ _ (by omega)]
  exact rn_le t v _ (by omega) (by rw [mgr_pow]; exact h)
theorem B_add {j x y : Nat} (hx : B j x) (hy : B j y) (hj : j ≤ 1023) : ∃ z, Ieee.double.add x y = some z ∧ B (j + 1) z := by
  refine ⟨_, add_fin (hx.fin hj) (hy.fin hj), B_rn _ _ _ _ (by omega) ?_⟩
  have h1 := hx.mgr
  have h2 := hy.mgr
  rw [← iv_abs] at h1 h2
  have e : 2 ^ (j + 1 + 1074) = 2 * 2 ^ (j + 1074) := by rw [show j + 1 + 1074 = (j + 1074) + 1 by omega, Nat.pow_succ, Nat.mul_comm]
  rw [Nat.pow_zero, Nat.mul_one, e]
  omega
theorem B_sub {j x y : Nat} (hx : B j x) (hy : B j y) (hj : j ≤ 1023) : ∃ z, Ieee.double.sub x y = some z ∧ B (j + 1) z := by
  refine ⟨_, sub_fin (hx.fin hj) (hy.fin hj), B_rn _ _ _ _ (by omega) ?_⟩
  have h1 := hx.mgr
  have h2 := hy.mgr
  rw [← iv_abs] at h1 h2
  have e : 2 ^ (j + 1 + 1074) = 2 * 2 ^ (j + 1074) := by rw [show j + 1 + 1074 = (j + 1074) + 1 by omega, Nat.pow_succ, Nat.mul_comm]
  rw [Nat.pow_zero, Nat.mul_one, e]
  omega
theorem B_mul {j k x y : Nat} (hx : B j x) (hy : B k y) (hj : j + k ≤ 1023) : ∃ z, Ieee.double.mul x y = some z ∧ B (j + k) z := by
  refine ⟨_, mul_fin (hx.fin (by omega)) (hy.fin (by omega)), B_rn _ _ _ _ (by omega) ?_⟩
  have := Nat.mul_le_mul hx.mgr hy.mgr
  have e : 2 ^ (j + k + 1074) * 2 ^ 1074 = 2 ^ (j + 1074) * 2 ^ (k + 1074) := by
    generalize 1074 = c
    rw [← Nat.pow_add, ← Nat.pow_add]
    congr 1; omega
  rw [e]
  exact this
theorem read_fin' {x : Nat} (h : rg x < 9218868437227405312) (hl : 4503599627370496 ≤ rg x) : ∃ (m : Nat), Ieee.double.read x = .number (sg x) m (-1074 + ((rg x / 4503599627370496 - 1 : Nat) : Int)) ∧ m * 2 ^ (rg x / 4503599627370496 - 1) = mgr (rg x) := by
  unfold rg at h hl
  unfold Ieee.Format.read mgr rg sg
  simp only [dsw, dbn, dinf, dlp]
  rw [if_neg (by omega), if_pos h, if_neg (by omega)]
  exact ⟨_, rfl, rfl⟩
/-- A quotient of numbers is a number or endless. -/
theorem quo_fin {x y : Nat} (hx : rg x < 9218868437227405312) (hy : rg y < 9218868437227405312) (h0 : mgr (rg y) ≠ 0) : ∃ r, r ≤ 9218868437227405312 ∧ Ieee.double.div x y = some (Ieee.double.word (sg x ^^ sg y) r) := by
  obtain ⟨m, e, h1, h2⟩ := read_fin hx
  obtain ⟨n, f, h3, h4⟩ := read_fin hy
  have hn : n ≠ 0 := by intro c; rw [c, Nat.zero_mul] at h4; exact h0 h4.symm
  unfold Ieee.Format.div
  rw [h1, h3]
  simp only [Ieee.Datum.quotient, if_neg hn, Option.map_some, Ieee.Format.write]
  generalize Ieee.double.fractionBits + 2 + n.log2 - m.log2 = more
  have hb : (-1074 + (e : Int)) - (-1074 + (f : Int)) - (more : Int) - 1 = -1074 - ((f + more + 1 : Nat) : Int) + ((e + 1074 : Nat) : Int) := by omega
  rw [hb, nearest_rn]
  exact ⟨_, rn_le_inf _ _, rfl⟩
theorem quo_exp (c k f more : Nat) (hf : c ≤ f + 52) : k + c + (more + 1 + c) ≤ k + 52 + c + (f + more + 1) := by omega
theorem B_quo {k x y : Nat} (hx : B k x) (hy : rg y < 9218868437227405312) (h1 : 1023 * 4503599627370496 ≤ rg y) (hk : k + 52 ≤ 1024) : ∃ z, Ieee.double.div x y = some z ∧ B (k + 52) z := by
  obtain ⟨m, e, g1, g2⟩ := read_fin (hx.fin (by omega))
  obtain ⟨n, g3, g4⟩ := read_fin' hy (by omega)
  have hf' : 1074 ≤ rg y / 4503599627370496 - 1 + 52 := by omega
  generalize rg y / 4503599627370496 - 1 = f at g3 g4 hf'
  have hn : n ≠ 0 := by
    intro c; rw [c, Nat.zero_mul] at g4
    have := mgr_pos (show 0 < rg y by omega); omega
  unfold Ieee.Format.div
  rw [g1, g3]
  simp only [Ieee.Datum.quotient, if_neg hn, Option.map_some, Ieee.Format.write]
  generalize Ieee.double.fractionBits + 2 + n.log2 - m.log2 = more
  have hb : (-1074 + (e : Int)) - (-1074 + (f : Int)) - (more : Int) - 1 = -1074 - ((f + more + 1 : Nat) : Int) + ((e + 1074 : Nat) : Int) := by omega
  rw [hb, nearest_rn]
  refine ⟨_, rfl, B_rn _ _ _ _ hk ?_⟩
  have hD : m <<< more = m * 2 ^ more := Nat.shiftLeft_eq ..
  rw [hD]
  have hm := hx.mgr
  rw [← g2] at hm
  have hq : 2 * (m * 2 ^ more / n) + (m * 2 ^ more % n != 0).toNat ≤ 2 * (m * 2 ^ more) := by
    have a1 := Nat.div_add_mod (m * 2 ^ more) n
    generalize m * 2 ^ more = D at a1 ⊢
    by_cases c1 : D % n = 0
    · have : (D % n != 0).toNat = 0 := by rw [c1]; rfl
      have := Nat.div_le_self D n
      omega
    · have hb2 : (D % n != 0).toNat ≤ 1 := Bool.toNat_le _
      have n2 : 2 ≤ n := by
        rcases Nat.lt_or_ge n 2 with h | h
        · have : n = 1 := by omega
          rw [this, Nat.mod_one] at c1; exact absurd rfl c1
        · exact h
      have := Nat.mul_le_mul_right (D / n) n2
      omega
  have s1 := Nat.mul_le_mul_right (2 ^ (e + 1074)) hq
  refine Nat.le_trans s1 ?_
  have e1 : 2 * (m * 2 ^ more) * 2 ^ (e + 1074) = (m * 2 ^ e) * 2 ^ (more + 1 + 1074) := by
    generalize 1074 = c
    rw [Nat.pow_add 2 e, Nat.pow_add 2 (more + 1), Nat.pow_add 2 more, Nat.pow_one]
    generalize 2 ^ more = P
    generalize 2 ^ e = Q
    generalize 2 ^ c = R
    simp only [Nat.mul_assoc, Nat.mul_left_comm, Nat.mul_comm]
  rw [e1]
  have s2 := Nat.mul_le_mul_right (2 ^ (more + 1 + 1074)) hm
  refine Nat.le_trans s2 ?_
  have s3 : 2 ^ (k + 1074) * 2 ^ (more + 1 + 1074) = 2 ^ (k + 1074 + (more + 1 + 1074)) := (Nat.pow_add ..).symm
  have s4 : 2 ^ (k + 52 + 1074) * 2 ^ (f + more + 1) = 2 ^ (k + 52 + 1074 + (f + more + 1)) := (Nat.pow_add ..).symm
  rw [s3, s4]
  exact Nat.pow_le_pow_right (by decide) (quo_exp 1074 k f more hf')
theorem not_nan_order {x y : Nat} (hx : rg x ≤ 9218868437227405312) (hy : rg y ≤ 9218868437227405312) : ∃ o, Ieee.double.order x y = some o := by
  unfold Ieee.Format.order
  rcases Nat.lt_or_eq_of_le hx with hx | hx <;> rcases Nat.lt_or_eq_of_le hy with hy | hy
  · exact ⟨_, order_fin hx hy⟩
  · obtain ⟨m, e, h1, _⟩ := read_fin hx
    rw [h1, read_inf hy]; exact ⟨_, rfl⟩
  · obtain ⟨m, e, h1, _⟩ := read_fin hy
    rw [h1, read_inf hx]; exact ⟨_, rfl⟩
  · rw [read_inf hx, read_inf hy]; exact ⟨_, rfl⟩
theorem f_of {op : BinOp} {x y z : Nat} (h : flbits op x y = some z) : fok op x y = true ∧ fval op x y = z := by
  unfold fok fval; rw [h]; exact ⟨rfl, rfl⟩
theorem f_add {j x y : Nat} (hx : B j x) (hy : B j y) (hj : j ≤ 1023) : fok .add x y = true ∧ B (j + 1) (fval .add x y) := by
  obtain ⟨z, h, hz⟩ := B_add hx hy hj
  obtain ⟨h1, h2⟩ := f_of (op := .add) h
  exact ⟨h1, by rw [h2]; exact hz⟩
theorem f_sub {j x y : Nat} (hx : B j x) (hy : B j y) (hj : j ≤ 1023) : fok .sub x y = true ∧ B (j + 1) (fval .sub x y) := by
  obtain ⟨z, h, hz⟩ := B_sub hx hy hj
  obtain ⟨h1, h2⟩ := f_of (op := .sub) h
  exact ⟨h1, by rw [h2]; exact hz⟩
theorem f_mul {j k x y : Nat} (hx : B j x) (hy : B k y) (hj : j + k ≤ 1023) : fok .mul x y = true ∧ B (j + k) (fval .mul x y) := by
  obtain ⟨z, h, hz⟩ := B_mul hx hy hj
  obtain ⟨h1, h2⟩ := f_of (op := .mul) h
  exact ⟨h1, by rw [h2]; exact hz⟩
theorem f_quo {k x y : Nat} (hx : B k x) (hy : rg y < 9218868437227405312) (h1 : 1023 * 4503599627370496 ≤ rg y) (hk : k + 52 ≤ 1024) : fok .quo x y = true ∧ B (k + 52) (fval .quo x y) := by
  obtain ⟨z, h, hz⟩ := B_quo hx hy h1 hk
  obtain ⟨h1, h2⟩ := f_of (op := .quo) h
  exact ⟨h1, by rw [h2]; exact hz⟩
theorem dord (x y : Nat) : FloatKind.f64.format.order x y = Ieee.double.order x y := rfl
theorem fle_fin {x y : Nat} (hx : rg x < 9218868437227405312) (hy : rg y < 9218868437227405312) : fle x y = decide (iv x ≤ iv y) := by
  unfold fle
  rw [dord, order_fin hx hy]
  by_cases c : iv x < iv y
  · rw [if_pos c, decide_eq_true (by omega)]; rfl
  · rw [if_neg c]
    by_cases d : iv x = iv y
    · rw [if_pos d, decide_eq_true (by omega)]; rfl
    · rw [if_neg d, decide_eq_false (by omega)]; rfl
theorem flt_fin {x y : Nat} (hx : rg x < 9218868437227405312) (hy : rg y < 9218868437227405312) : flt x y = decide (iv x < iv y) := by
  unfold flt
  rw [dord, order_fin hx hy]
  by_cases c : iv x < iv y
  · rw [if_pos c, decide_eq_true c]; rfl
  · rw [if_neg c, decide_eq_false c]
    by_cases d : iv x = iv y
    · rw [if_pos d]; rfl
    · rw [if_neg d]; rfl
theorem fgt_fin {x y : Nat} (hx : rg x < 9218868437227405312) (hy : rg y < 9218868437227405312) : fgt x y = decide (iv y < iv x) := by
  unfold fgt
  rw [dord, order_fin hx hy]
  by_cases c : iv x < iv y
  · rw [if_pos c, decide_eq_false (by omega)]; rfl
  · rw [if_neg c]
    by_cases d : iv x = iv y
    · rw [if_pos d, decide_eq_false (by omega)]; rfl
    · rw [if_neg d, decide_eq_true (by omega)]; rfl
theorem feq_fin {x y : Nat} (hx : rg x < 9218868437227405312) (hy : rg y < 9218868437227405312) : feq x y = decide (iv x = iv y) := by
  unfold feq
  rw [dord, order_fin hx hy]
  by_cases c : iv x < iv y
  · rw [if_pos c, decide_eq_false (by omega)]; rfl
  · rw [if_neg c]
    by_cases d : iv x = iv y
    · rw [if_pos d, decide_eq_true d]; rfl
    · rw [if_neg d, decide_eq_false d]; rfl
/-- A number between two numbers is finite. -/
theorem fin_of_between {a x b : Nat} (ha : rg a < 9218868437227405312) (hb : rg b < 9218868437227405312) (h1 : fle a x = true) (h2 : fle x b = true) : rg x < 9218868437227405312 := by
  rcases Nat.lt_trichotomy (rg x) 9218868437227405312 with h | h | h
  · exact h
  · obtain ⟨m, e, g1, _⟩ := read_fin ha
    obtain ⟨n, f, g2, _⟩ := read_fin hb
    unfold fle at h1 h2
    rw [dord] at h1 h2
    unfold Ieee.Format.order at h1 h2
    rw [read_inf h, g1] at h1
    rw [read_inf h, g2] at h2
    cases hs : sg x with
    | true => rw [hs] at h1; simp [Ieee.Datum.order] at h1
    | false => rw [hs] at h2; simp [Ieee.Datum.order] at h2
  · obtain ⟨n, hn⟩ := read_nan h
    unfold fle at h2
    rw [dord] at h2
    unfold Ieee.Format.order at h2
    rw [hn] at h2
    simp [Ieee.Datum.order] at h2
theorem between {a x b : Nat} (ha : rg a < 9218868437227405312) (hb : rg b < 9218868437227405312) (h1 : fle a x = true) (h2 : fle x b = true) : rg x < 9218868437227405312 ∧ iv a ≤ iv x ∧ iv x ≤ iv b := by
  have h := fin_of_between ha hb h1 h2
  rw [fle_fin ha h] at h1
  rw [fle_fin h hb] at h2
  exact ⟨h, of_decide_eq_true h1, of_decide_eq_true h2⟩
theorem B_of_mgr {k x : Nat} (hx : rg x < 9218868437227405312) (h : mgr (rg x) ≤ 2 ^ (k + 1074)) : B k x := by
  unfold B
  rw [← mgr_pow] at h
  exact rg_le_of_mgr (Nat.le_of_lt hx) h
theorem between_B {k a x b : Nat} (hk : k ≤ 1023) (ha : B k a) (hb : B k b) (h1 : fle a x = true) (h2 : fle x b = true) : B k x := by
  obtain ⟨hx, g1, g2⟩ := between (ha.fin hk) (hb.fin hk) h1 h2
  apply B_of_mgr hx
  have m1 := ha.mgr
  have m2 := hb.mgr
  rw [← iv_abs] at m1 m2 ⊢
  generalize 2 ^ (k + 1074) = M at m1 m2 ⊢
  omega
theorem one_le_rg {x : Nat} (hx : rg x < 9218868437227405312) (h : iv 4607182418800017408 ≤ iv x) : 1023 * 4503599627370496 ≤ rg x := by
  rcases Nat.lt_or_ge (rg x) (1023 * 4503599627370496) with c | c
  · exfalso
    have h1 : iv 4607182418800017408 = (mgr (1023 * 4503599627370496) : Nat) := by
      have e : rg 4607182418800017408 = 1023 * 4503599627370496 := by decide
      unfold iv
      rw [if_neg (by decide), e]
    have h2 := mgr_lt (show 1023 * 4503599627370496 ≤ 9218868437227405312 by decide) c
    rw [← iv_abs] at h2
    rw [h1] at h
    generalize mgr (1023 * 4503599627370496) = M at h h2
    omega
  · exact c
theorem feq_zero {x : Nat} (h : feq x 0 = true) : rg x < 9218868437227405312 ∧ mgr (rg x) = 0 := by
  have h0 : rg 0 < 9218868437227405312 := by decide
  rcases Nat.lt_trichotomy (rg x) 9218868437227405312 with c | c | c
  · refine ⟨c, ?_⟩
    rw [feq_fin c h0] at h
    have := of_decide_eq_true h
    have z : iv 0 = 0 := by decide
    rw [← iv_abs, this, z]; rfl
  · exfalso
    obtain ⟨m, e, g1, _⟩ := read_fin h0
    unfold feq at h
    rw [dord] at h
    unfold Ieee.Format.order at h
    rw [read_inf c, g1] at h
    cases hs : sg x <;> rw [hs] at h <;> simp [Ieee.Datum.order] at h
  · exfalso
    obtain ⟨n, hn⟩ := read_nan c
    unfold feq at h
    rw [dord] at h
    unfold Ieee.Format.order at h
    rw [hn] at h
    simp [Ieee.Datum.order] at h
theorem quo_zero_ok {x : Nat} (h : feq x 0 = true) : fok .quo 4607182418800017408 x = true := by
  obtain ⟨hx, hm⟩ := feq_zero h
  obtain ⟨n, f, g1, g2⟩ := read_fin hx
  have hn : n = 0 := by
    rw [hm] at g2
    rcases Nat.mul_eq_zero.mp g2 with c | c
    · exact c
    · have := Nat.two_pow_pos f; omega
  have : flbits .quo 4607182418800017408 x = Ieee.double.div 4607182418800017408 x := rfl
  unfold fok
  rw [this]
  unfold Ieee.Format.div
  have h1 : Ieee.double.read 4607182418800017408 = .number false 4503599627370496 (-52) := by decide
  rw [h1, g1, hn]
  simp [Ieee.Datum.quotient]
def inR (a b c : Nat) : Bool := fle b a && fle a c
theorem spec_inR (a b c : Nat) : spec_InRange.f a b c = some (inR a b c) := by
  unfold spec_InRange.f inR
  cases fle b a <;> rfl
theorem impl_inR (a b c : Nat) : impl_InRange.f a b c = some (inR a b c) := spec_inR a b c
theorem inR_B {k x a b : Nat} (h : inR x a b = true) (hk : k ≤ 1023) (ha : B k a) (hb : B k b) : B k x := by
  unfold inR at h
  rw [Bool.and_eq_true] at h
  exact between_B hk ha hb h.1 h.2
def carB (m a b c : Nat) : Bool := inR m 4607182418800017408 4662219572839972864 && (inR a 0 4652007308841189376 && (inR b 0 4636737291354636288 && inR c 0 4636737291354636288))
theorem spec_car (m a b c : Nat) : spec_CarOk.f m a b c = some (carB m a b c) := by
  unfold spec_CarOk.f carB
  simp only [spec_inR, Option.bind_some]
  cases inR m 4607182418800017408 4662219572839972864 <;> cases inR a 0 4652007308841189376 <;> cases inR b 0 4636737291354636288 <;> rfl
theorem impl_car (m a b c : Nat) : impl_CarOk.f m a b c = some (carB m a b c) := by
  unfold impl_CarOk.f carB
  simp only [impl_inR, Option.bind_some]
  cases inR m 4607182418800017408 4662219572839972864 <;> cases inR a 0 4652007308841189376 <;> cases inR b 0 4636737291354636288 <;> rfl
theorem carB_B {m a b c : Nat} (h : carB m a b c = true) : B 13 m ∧ B 10 a ∧ B 7 b ∧ B 7 c := by
  simp only [carB, Bool.and_eq_true] at h
  obtain ⟨h1, h2, h3, h4⟩ := h
  exact ⟨inR_B h1 (by decide) (by decide) (by decide), inR_B h2 (by decide) (by decide) (by decide), inR_B h3 (by decide) (by decide) (by decide), inR_B h4 (by decide) (by decide) (by decide)⟩
theorem carB_one {m a b c : Nat} (h : carB m a b c = true) : rg m < 9218868437227405312 ∧ iv 4607182418800017408 ≤ iv m := by
  simp only [carB, Bool.and_eq_true] at h
  have h1 := h.1
  unfold inR at h1
  rw [Bool.and_eq_true] at h1
  obtain ⟨g1, g2, _⟩ := between (by decide) (by decide) h1.1 h1.2
  exact ⟨g1, g2⟩
/-! Loops over lists, whatever the elements. -/
theorem nat_w {j : Nat} (h : j ≤ 9223372036854775806) : wrap64 ((j : Int) + 1) = ((j + 1 : Nat) : Int) := by rw [w64 (by omega) (by omega)]; omega
theorem set_take {α : Type} {acc ys : List α} {j : Nat} (hl : acc.length = ys.length) (ht : acc.take j = ys.take j) (hj : j < ys.length) {v : α} (hv : ys[j]? = some v) : (acc.set j v).take (j + 1) = ys.take (j + 1) := by
  apply List.ext_getElem?
  intro i
  by_cases hi : i < j + 1
  · rw [List.getElem?_take_of_lt hi, List.getElem?_take_of_lt hi]
    by_cases e : i = j
    · subst e
      rw [List.getElem?_set_self (by omega), hv]
    · rw [List.getElem?_set_ne (by omega)]
      have h1 := congrArg (fun l => l[i]?) ht
      simp only [List.getElem?_take_of_lt (show i < j by omega)] at h1
      exact h1
  · rw [List.getElem?_eq_none (by simp; omega), List.getElem?_eq_none (by simp; omega)]
theorem getD_some {α : Type} {xs : List α} {j : Nat} (h : j < xs.length) (d : α) : xs[j]? = some (xs.getD j d) := by
  rw [List.getD_eq_getElem?_getD, List.getElem?_eq_getElem h]; rfl
/-- A loop that writes g of each element of xs into a row of the same length. -/
theorem copy_loop {α β : Type} (g : β → α) (d : β) (xs : List β) (L : Nat → List α → Int → Option (List α)) (hn : xs.length ≤ 9223372036854775806)
    (hs : ∀ k acc (j : Nat), L (k + 1) acc (j : Int) = if j < xs.length then (if j < acc.length then L k (acc.set j (g (xs.getD j d))) (wrap64 ((j : Int) + 1)) else none) else some acc)
    (m : Nat) : ∀ (j : Nat) (acc : List α), xs.length - j = m → j ≤ xs.length → acc.length = xs.length → acc.take j = (xs.map g).take j → Ev (fun k => L k acc (j : Int)) (xs.map g) := by
  induction m with
  | zero =>
    intro j acc h0 h1 h2 h3
    refine Ev.step (fun k => hs k acc j) ?_
    simp only [if_neg (show ¬ j < xs.length by omega)]
    have e : acc = xs.map g := by
      have h4 : acc.take j = acc := List.take_of_length_le (by omega)
      have h5 : (xs.map g).take j = xs.map g := List.take_of_length_le (by simp; omega)
      rw [← h4, h3, h5]
    rw [e]
    exact ev_some
  | succ m ih =>
    intro j acc h0 h1 h2 h3
    refine Ev.step (fun k => hs k acc j) ?_
    simp only [if_pos (show j < xs.length by omega), if_pos (show j < acc.length by omega)]
    rw [nat_w (by omega)]
    refine ih (j + 1) _ (by omega) (by omega) (by simpa using h2) ?_
    refine set_take (by simpa using h2) h3 (by simp; omega) ?_
    rw [List.getElem?_map, getD_some (show j < xs.length by omega) d]
    rfl
/-- A loop that asks each index, and goes on where the answer is yes. -/
theorem all_loop (n : Nat) (L : Nat → Int → Option Bool) (hn : n ≤ 9223372036854775806) (hs : ∀ k (j : Nat), j < n → L (k + 1) (j : Int) = L k (wrap64 ((j : Int) + 1))) (he : ∀ k, L (k + 1) (n : Int) = some true)
    (m : Nat) : ∀ j : Nat, n - j = m → j ≤ n → Ev (fun k => L k (j : Int)) true := by
  induction m with
  | zero =>
    intro j h0 h1
    obtain rfl : j = n := by omega
    exact Ev.step (fun k => he k) ev_some
  | succ m ih =>
    intro j h0 h1
    refine Ev.step (fun k => hs k j (by omega)) ?_
    rw [nat_w (by omega)]
    exact ih (j + 1) (by omega) (by omega)
/-- The elements one behind the other, each turned by f with a number that goes on by c. -/
def marked {α : Type} (c : Int) (f : Int → α → α) : Int → List α → List α
  | _, [] => []
  | s, x :: xs => f s x :: marked c f (s + c) xs
theorem marked_length {α : Type} (c : Int) (f : Int → α → α) : ∀ (s : Int) (xs : List α), (marked c f s xs).length = xs.length
  | _, [] => rfl
  | s, x :: xs => by simp [marked, marked_length c f (s + c) xs]
theorem marked_at {α : Type} (c : Int) (f : Int → α → α) : ∀ (s : Int) (xs : List α) (j : Nat) (d : α), j < xs.length → (marked c f s xs)[j]? = some (f (s + c * j) (xs.getD j d))
  | _, [], j, d, h => by simp at h
  | s, x :: xs, 0, d, _ => by simp [marked]
  | s, x :: xs, j + 1, d, h => by
    have := marked_at c f (s + c) xs j d (by simpa using h)
    simp only [marked, List.getElem?_cons_succ, List.getD_cons_succ]
    rw [this]
    congr 2
    rw [Int.natCast_succ, Int.mul_add]; omega
/-- A loop that marks a row. -/
theorem mark_loop {α : Type} (c : Nat) (hc : c ≤ 8) (f : Int → α → α) (d : α) (xs : List α) (L : Nat → List α → Int → Int → Option (Int × List α)) (hn : xs.length ≤ 2000000) (s0 : Nat) (hs0 : s0 ≤ 20000000)
    (hs : ∀ k acc (s : Nat) (j : Nat), acc.length = xs.length → s ≤ 40000000 → j < xs.length → L (k + 1) acc (s : Int) (j : Int) = L k (acc.set j (f (s : Int) (acc.getD j d))) ((s + c : Nat) : Int) (wrap64 ((j : Int) + 1)))
    (he : ∀ k acc (s : Int), acc.length = xs.length → L (k + 1) acc s (xs.length : Int) = some (s, acc))
    (m : Nat) : ∀ (j : Nat) (acc : List α), xs.length - j = m → j ≤ xs.length → acc.length = xs.length → acc.take j = (marked c f s0 xs).take j → acc.drop j = xs.drop j → Ev (fun k => L k acc ((s0 + c * j : Nat) : Int) (j : Int)) (((s0 + c * xs.length : Nat) : Int), marked c f s0 xs) := by
  induction m with
  | zero =>
    intro j acc h0 h1 h2 h3 _
    obtain rfl : j = xs.length := by omega
    refine Ev.step (fun k => he k acc _ h2) ?_
    have e : acc = marked c f s0 xs := by
      have h4 : acc.take xs.length = acc := List.take_of_length_le (by omega)
      have h5 : (marked c f s0 xs).take xs.length = marked c f s0 xs := List.take_of_length_le (by rw [marked_length]; omega)
      rw [← h4, h3, h5]
    rw [e]
    exact ev_some
  | succ m ih =>
    intro j acc h0 h1 h2 h3 h4
    have hb : c * j ≤ 8 * 2000000 := Nat.mul_le_mul hc (by omega)
    refine Ev.step (fun k => hs k acc _ j h2 (by omega) (by omega)) ?_
    rw [nat_w (by omega), show s0 + c * j + c = s0 + c * (j + 1) by rw [Nat.mul_add]; omega]
    have hg : acc.getD j d = xs.getD j d := by
      have h5 := congrArg (fun l => l[0]?) h4
      simp only [List.getElem?_drop, Nat.add_zero] at h5
      rw [List.getD_eq_getElem?_getD, List.getD_eq_getElem?_getD, h5]
    refine ih (j + 1) _ (by omega) (by omega) (by simpa using h2) ?_ ?_
    · refine set_take (by rw [marked_length]; exact h2) h3 (by rw [marked_length]; omega) ?_
      rw [marked_at c f s0 xs j d (by omega), hg]
      simp
    · rw [List.drop_set_of_lt (by omega), ← List.drop_drop, h4, List.drop_drop]
/-- A loop that looks whether a row is marked so. -/
theorem held_loop (c : Nat) (hc : c ≤ 8) (n : Nat) (L : Nat → Int → Int → Option Int) (hn : n ≤ 2000000) (s0 : Nat) (hs0 : s0 ≤ 20000000)
    (hs : ∀ k (j : Nat), j < n → L (k + 1) ((s0 + c * j : Nat) : Int) (j : Int) = L k ((s0 + c * j + c : Nat) : Int) (wrap64 ((j : Int) + 1)))
    (he : ∀ k (s : Int), L (k + 1) s (n : Int) = some s)
    (m : Nat) : ∀ j : Nat, n - j = m → j ≤ n → Ev (fun k => L k ((s0 + c * j : Nat) : Int) (j : Int)) (((s0 + c * n : Nat) : Int)) := by
  induction m with
  | zero =>
    intro j h0 h1
    obtain rfl : j = n := by omega
    exact Ev.step (fun k => he k _) ev_some
  | succ m ih =>
    intro j h0 h1
    refine Ev.step (fun k => hs k j (by omega)) ?_
    rw [nat_w (by omega), show s0 + c * j + c = s0 + c * (j + 1) by rw [Nat.mul_add]; omega]
    exact ih (j + 1) (by omega) (by omega)
theorem drop_cons {α : Type} {xs : List α} {j : Nat} {t : α} {rest : List α} (h : xs.drop j = t :: rest) : j < xs.length ∧ (∀ d, xs.getD j d = t) ∧ xs.drop (j + 1) = rest := by
  have hj : j < xs.length := by
    rcases Nat.lt_or_ge j xs.length with h1 | h1
    · exact h1
    · rw [List.drop_of_length_le h1] at h; cases h
  rw [List.drop_eq_getElem_cons hj] at h
  injection h with h1 h2
  exact ⟨hj, fun d => by rw [List.getD_eq_getElem?_getD, List.getElem?_eq_getElem hj, ← h1]; rfl, h2⟩
theorem drop_nil {α : Type} {xs : List α} {j : Nat} (h : xs.drop j = []) : xs.length ≤ j := by simpa using h
theorem rdI_at (xs : List Int) (j : Nat) : rd xs (j : Int) = xs.getD j 0 := by unfold rd; rw [Int.toNat_natCast]
theorem rdB_at (xs : List Bool) (j : Nat) : rdOf false xs (j : Int) = xs.getD j false := by unfold rdOf; rw [Int.toNat_natCast]
theorem spec_in (x lo hi : Int) : spec_l01In.f x lo hi = some (decide (lo ≤ x ∧ x ≤ hi)) := by
  unfold spec_l01In.f
  by_cases h : lo ≤ x <;> simp [h]
theorem impl_in (x lo hi : Int) : impl_between.f x lo hi = some (decide (lo ≤ x ∧ x ≤ hi)) := by
  unfold impl_between.f
  by_cases h : x ≥ lo
  · have h' : lo ≤ x := h
    simp [h, h']
  · have h' : ¬ lo ≤ x := h
    simp [h, h']
theorem rd61_at (xs : List S61) (j : Nat) : rd_T61 xs (j : Int) = xs.getD j z61 := by unfold rd_T61; rw [Int.toNat_natCast]
def carS (c : S61) : Bool := carB c.f0 c.f1 c.f2 c.f3
def trainB (xs : List S61) : Bool := xs.all carS && decide (1 ≤ (xs.length : Int) ∧ (xs.length : Int) ≤ 40)
theorem spec_train_loop (xs : List S61) (hn : xs.length ≤ 2000000) : ∀ (rest : List S61) (j : Nat), xs.drop j = rest → j ≤ xs.length → Ev (fun k => spec_l04Train.l0 k xs (j : Int)) (rest.all carS && decide (1 ≤ (xs.length : Int) ∧ (xs.length : Int) ≤ 40)) := by
  intro rest
  induction rest with
  | nil =>
    intro j h hl
    have := drop_nil h
    refine Ev.step (fun k => by rw [spec_l04Train.l0]) ?_
    simp only [if_neg (show ¬ (j : Int) < (xs.length : Int) by omega), spec_in, Option.bind_some, List.all_nil, Bool.true_and]
    exact ev_some
  | cons c rest ih =>
    intro j h hl
    obtain ⟨h1, h2, h3⟩ := drop_cons h
    refine Ev.step (fun k => by rw [spec_l04Train.l0]) ?_
    simp only [if_pos (show (j : Int) < (xs.length : Int) by omega), if_pos (show 0 ≤ (j : Int) by omega), nat_w (show j ≤ 9223372036854775806 by omega), rd61_at, h2, spec_car, Option.bind_some, List.all_cons]
    have e : carS c = carB c.f0 c.f1 c.f2 c.f3 := rfl
    rw [e]
    cases carB c.f0 c.f1 c.f2 c.f3 with
    | true => simpa using ih (j + 1) h3 (by omega)
    | false => simpa using ev_some
theorem spec_train_ev (xs : List S61) (hn : xs.length ≤ 2000000) : Ev (fun k => spec_l04Train.f k xs) (trainB xs) := spec_train_loop xs hn xs 0 rfl (by omega)
theorem impl_train_loop (xs : List S61) (hn : xs.length ≤ 2000000) : ∀ (rest : List S61) (j : Nat), xs.drop j = rest → j ≤ xs.length → Ev (fun k => impl_carsOk.l0 k xs (xs.length : Int) (j : Int)) (rest.all carS) := by
  intro rest
  induction rest with
  | nil =>
    intro j h hl
    have := drop_nil h
    refine Ev.step (fun k => by rw [impl_carsOk.l0]) ?_
    simp only [if_neg (show ¬ (j : Int) < (xs.length : Int) by omega), List.all_nil]
    exact ev_some
  | cons c rest ih =>
    intro j h hl
    obtain ⟨h1, h2, h3⟩ := drop_cons h
    refine Ev.step (fun k => by rw [impl_carsOk.l0]) ?_
    simp only [if_pos (show (j : Int) < (xs.length : Int) by omega), if_pos (show 0 ≤ (j : Int) by omega), nat_w (show j ≤ 9223372036854775806 by omega), rd61_at, h2, impl_car, Option.bind_some, List.all_cons]
    have e : carS c = carB c.f0 c.f1 c.f2 c.f3 := rfl
    rw [e]
    cases carB c.f0 c.f1 c.f2 c.f3 with
    | true => simpa using ih (j + 1) h3 (by omega)
    | false => simpa using ev_some
theorem impl_train_ev (xs : List S61) (hn : xs.length ≤ 2000000) : Ev (fun k => impl_carsOk.f k xs) (trainB xs) := by
  unfold impl_carsOk.f trainB
  simp only [impl_in, Option.bind_some, decide_eq_true_eq]
  by_cases c : 1 ≤ (xs.length : Int) ∧ (xs.length : Int) ≤ 40
  · simp only [if_pos c, decide_eq_true c, Bool.and_true]
    exact impl_train_loop xs hn xs 0 rfl (by omega)
  · simp only [if_neg c, decide_eq_false c, Bool.and_false]
    exact ev_some
theorem trainB_parts {xs : List S61} (h : trainB xs = true) : xs.all carS = true ∧ 1 ≤ xs.length ∧ xs.length ≤ 40 := by
  simp only [trainB, Bool.and_eq_true, decide_eq_true_eq] at h
  exact ⟨h.1, by omega, by omega⟩
theorem all_cons_parts {c : S61} {rest : List S61} (h : (c :: rest).all carS = true) : carS c = true ∧ rest.all carS = true := by
  simpa [List.all_cons] using h
def spB (v : Nat) : Bool := inR v 0 4641240890982006784
theorem spec_speed (v : Nat) : spec_l04Speed.f v = some (spB v) := by
  unfold spec_l04Speed.f spB
  rw [spec_inR]; rfl
theorem spB_B {v : Nat} (h : spB v = true) : B 8 v := inR_B h (by decide) (by decide) (by decide)
def resV (a b c v : Nat) : Nat := fval .add (fval .add a (fval .mul b v)) (fval .mul (fval .mul c v) v)
theorem res_ok {m a b c v : Nat} (hc : carB m a b c = true) (hv : spB v = true) : fok .mul b v = true ∧ fok .mul c v = true ∧ fok .mul (fval .mul c v) v = true ∧ fok .add a (fval .mul b v) = true ∧ fok .add (fval .add a (fval .mul b v)) (fval .mul (fval .mul c v) v) = true ∧ B 24 (resV a b c v) := by
  obtain ⟨_, ha, hb, hcc⟩ := carB_B hc
  have hv := spB_B hv
  obtain ⟨o1, b1⟩ := f_mul hb hv (by decide)
  obtain ⟨o2, b2⟩ := f_mul hcc hv (by decide)
  obtain ⟨o3, b3⟩ := f_mul b2 hv (by decide)
  obtain ⟨o4, b4⟩ := f_add (ha.mono (show 10 ≤ 15 by decide)) b1 (by decide)
  obtain ⟨o5, b5⟩ := f_add (b4.mono (show 16 ≤ 23 by decide)) b3 (by decide)
  exact ⟨o1, o2, o3, o4, o5, b5⟩
theorem impl_res {m a b c v : Nat} (hc : carB m a b c = true) (hv : spB v = true) : impl_resist.f m a b c v = some (resV a b c v) := by
  obtain ⟨o1, o2, o3, o4, o5, _⟩ := res_ok hc hv
  unfold impl_resist.f resV
  simp only [o1, o2, o3, o4, o5, if_true]
theorem spec_res (m a b c v : Nat) : spec_Resist.f m a b c v = some (if carB m a b c = true ∧ spB v = true then resV a b c v else 0) := by
  unfold spec_Resist.f
  simp only [spec_car, spec_speed, Option.bind_some]
  by_cases hc : carB m a b c = true
  · by_cases hv : spB v = true
    · obtain ⟨o1, o2, o3, o4, o5, _⟩ := res_ok hc hv
      simp only [hc, hv, o1, o2, o3, o4, o5, if_true, and_self, resV]
    · simp only [hc, hv, if_true, Bool.false_eq_true, if_false, and_false]
  · simp only [hc, Bool.false_eq_true, if_false, false_and]
def dragS (v sl acc : Nat) (xs : List S61) : Nat := xs.foldl (fun s c => fval .add (fval .add s (resV c.f1 c.f2 c.f3 v)) (fval .mul c.f0 sl)) acc
def slB (s : Nat) : Bool := inR s 13830554455654793216 4607182418800017408
theorem slB_B {s : Nat} (h : slB s = true) : B 0 s := inR_B h (by decide) (by decide) (by decide)
theorem drag_step {v sl acc k : Nat} {c : S61} (hc : carS c = true) (hv : spB v = true) (hs : slB sl = true) (hb : B k acc) (hk : 24 ≤ k) (hk2 : k ≤ 1000) :
    fok .add acc (resV c.f1 c.f2 c.f3 v) = true ∧ fok .mul c.f0 sl = true ∧ fok .add (fval .add acc (resV c.f1 c.f2 c.f3 v)) (fval .mul c.f0 sl) = true ∧ B (k + 2) (fval .add (fval .add acc (resV c.f1 c.f2 c.f3 v)) (fval .mul c.f0 sl)) := by
  obtain ⟨_, _, _, _, _, hr⟩ := res_ok hc hv
  obtain ⟨o1, b1⟩ := f_add hb (hr.mono hk) (by omega)
  obtain ⟨o2, b2⟩ := f_mul (carB_B hc).1 (slB_B hs) (by decide)
  obtain ⟨o3, b3⟩ := f_add b1 (b2.mono (show 13 + 0 ≤ k + 1 by omega)) (by omega)
  exact ⟨o1, o2, o3, b3⟩
theorem dragS_B {v sl : Nat} (hv : spB v = true) (hs : slB sl = true) : ∀ (rest : List S61) (acc k : Nat), B k acc → 24 ≤ k → k + 2 * rest.length ≤ 1000 → rest.all carS = true → B (k + 2 * rest.length) (dragS v sl acc rest)
  | [], acc, k, h, _, _, _ => h
  | c :: rest, acc, k, h, h13, hk, ha => by
    obtain ⟨h1, h2⟩ := all_cons_parts ha
    simp only [List.length_cons] at hk ⊢
    obtain ⟨_, _, _, hb⟩ := drag_step h1 hv hs h h13 (by omega)
    have := dragS_B hv hs rest _ (k + 2) hb (by omega) (by omega) h2
    rw [show k + 2 * (rest.length + 1) = k + 2 + 2 * rest.length by omega]
    exact this
theorem spec_drag_loop (xs : List S61) (hn : xs.length ≤ 40) {v sl : Nat} (hv : spB v = true) (hs : slB sl = true) : ∀ (rest : List S61) (j acc k : Nat), xs.drop j = rest → j ≤ xs.length → B k acc → 24 ≤ k → k + 2 * rest.length ≤ 1000 → rest.all carS = true → Ev (fun q => spec_Drag.l0 q xs v sl acc (j : Int)) (dragS v sl acc rest) := by
  intro rest
  induction rest with
  | nil =>
    intro j acc k h hl _ _ _ _
    have := drop_nil h
    refine Ev.step (fun k => by rw [spec_Drag.l0]) ?_
    simp only [if_neg (show ¬ (j : Int) < (xs.length : Int) by omega)]
    exact ev_some
  | cons c rest ih =>
    intro j acc k h hl hb h13 hk ha
    obtain ⟨h1, h2, h3⟩ := drop_cons h
    obtain ⟨a1, a2⟩ := all_cons_parts ha
    simp only [List.length_cons] at hk
    obtain ⟨o1, o2, o3, hb'⟩ := drag_step a1 hv hs hb h13 (by omega)
    refine Ev.step (fun k => by rw [spec_Drag.l0]) ?_
    have a1' : carB c.f0 c.f1 c.f2 c.f3 = true := a1
    simp only [if_pos (show (j : Int) < (xs.length : Int) by omega), if_pos (show 0 ≤ (j : Int) by omega), nat_w (show j ≤ 9223372036854775806 by omega), rd61_at, h2, spec_res, Option.bind_some, a1', hv, and_self, o1, o2, o3, if_true]
    exact ih (j + 1) _ (k + 2) h3 (by omega) hb' (by omega) (by omega) a2
theorem impl_drag_loop (xs : List S61) (hn : xs.length ≤ 40) {v sl : Nat} (hv : spB v = true) (hs : slB sl = true) : ∀ (rest : List S61) (j acc k : Nat), xs.drop j = rest → j ≤ xs.length → B k acc → 24 ≤ k → k + 2 * rest.length ≤ 1000 → rest.all carS = true → Ev (fun q => impl_drag.l0 q v sl acc xs (xs.length : Int) (j : Int)) (dragS v sl acc rest) := by
  intro rest
  induction rest with
  | nil =>
    intro j acc k h hl _ _ _ _
    have := drop_nil h
    refine Ev.step (fun k => by rw [impl_drag.l0]) ?_
    simp only [if_neg (show ¬ (j : Int) < (xs.length : Int) by omega)]
    exact ev_some
  | cons c rest ih =>
    intro j acc k h hl hb h13 hk ha
    obtain ⟨h1, h2, h3⟩ := drop_cons h
    obtain ⟨a1, a2⟩ := all_cons_parts ha
    simp only [List.length_cons] at hk
    obtain ⟨o1, o2, o3, hb'⟩ := drag_step a1 hv hs hb h13 (by omega)
    refine Ev.step (fun k => by rw [impl_drag.l0]) ?_
    simp only [if_pos (show (j : Int) < (xs.length : Int) by omega), if_pos (show 0 ≤ (j : Int) by omega), nat_w (show j ≤ 9223372036854775806 by omega), rd61_at, h2, impl_res a1 hv, Option.bind_some, o1, o2, o3, if_true]
    exact ih (j + 1) _ (k + 2) h3 (by omega) hb' (by omega) (by omega) a2
def dragV (xs : List S61) (v sl : Nat) : Nat := dragS v sl 0 xs
theorem impl_drag_ev {xs : List S61} {v sl : Nat} (ht : trainB xs = true) (hv : spB v = true) (hs : slB sl = true) : Ev (fun q => impl_drag.f q xs v sl) (dragV xs v sl) := by
  obtain ⟨h1, h2, h3⟩ := trainB_parts ht
  exact impl_drag_loop xs h3 hv hs xs 0 0 24 rfl (by omega) (by decide) (by omega) (by omega) h1
theorem dragV_B {xs : List S61} {v sl : Nat} (ht : trainB xs = true) (hv : spB v = true) (hs : slB sl = true) : B 104 (dragV xs v sl) := by
  obtain ⟨h1, h2, h3⟩ := trainB_parts ht
  exact (dragS_B hv hs xs 0 24 (by decide) (by omega) (by omega) h1).mono (by omega)
theorem impl_slope (s : Nat) : impl_slopeOk.f s = some (slB s) := by
  unfold impl_slopeOk.f slB
  rw [impl_inR]; rfl
theorem spec_drag_ev (xs : List S61) (hn : xs.length ≤ 2000000) (v sl : Nat) : Ev (fun q => spec_Drag.f q xs v sl) (if trainB xs = true ∧ spB v = true ∧ slB sl = true then dragV xs v sl else 0) := by
  unfold spec_Drag.f
  have hno : ∀ r, r = 0 → Ev (fun q => spec_Drag.j0 q xs v sl true) r := fun r hr => by
    rw [hr]; exact Ev.step (fun k => by rw [spec_Drag.j0]) (by simpa using ev_some)
  refine Ev.bind (spec_train_ev xs hn) ?_
  by_cases ht : trainB xs = true
  · simp only [if_pos ht, spec_speed, Option.bind_some]
    by_cases hv : spB v = true
    · simp only [if_pos hv, spec_inR, Option.bind_some]
      by_cases hs : slB sl = true
      · have hs' : inR sl 13830554455654793216 4607182418800017408 = true := hs
        simp only [hs', Bool.not_true]
        refine Ev.step (fun k => by rw [spec_Drag.j0]) ?_
        simp only [Bool.false_eq_true, if_false, ht, hv, hs, and_self, if_true]
        obtain ⟨h1, h2, h3⟩ := trainB_parts ht
        exact spec_drag_loop xs h3 hv hs xs 0 0 24 rfl (by omega) (by decide) (by omega) (by omega) h1
      · have hs' : inR sl 13830554455654793216 4607182418800017408 = false := by simpa [slB] using hs
        simp only [hs', Bool.not_false]
        exact hno _ (by rw [if_neg (fun h => hs h.2.2)])
    · simp only [if_neg hv]
      exact hno _ (by rw [if_neg (fun h => hv h.2.1)])
  · simp only [if_neg ht]
    exact hno _ (by rw [if_neg (fun h => ht h.1)])
def locB (p g : Nat) : Bool := inR p 4607182418800017408 4681608360884174848 && inR g 4607182418800017408 4666723172467343360
theorem spec_loc (p g : Nat) : spec_LocoOk.f p g = some (locB p g) := by
  unfold spec_LocoOk.f locB
  simp only [spec_inR, Option.bind_some]
  cases inR p 4607182418800017408 4681608360884174848 <;> rfl
theorem impl_loc (p g : Nat) : impl_LocoOk.f p g = some (locB p g) := by
  unfold impl_LocoOk.f locB
  simp only [impl_inR, Option.bind_some]
  cases inR p 4607182418800017408 4681608360884174848 <;> rfl
theorem inR_parts {x a b : Nat} (h : inR x a b = true) : fle a x = true ∧ fle x b = true := by
  unfold inR at h; rwa [Bool.and_eq_true] at h
theorem spB_fin {v : Nat} (h : inR v 0 4641240890982006784 = true) : rg v < 9218868437227405312 ∧ 0 ≤ iv v := by
  obtain ⟨h1, h2⟩ := inR_parts h
  obtain ⟨g1, g2, _⟩ := between (by decide) (by decide) h1 h2
  have : iv 0 = 0 := by decide
  rw [this] at g2
  exact ⟨g1, g2⟩
theorem quo_ok {p v : Nat} (hp : rg p < 9218868437227405312) (hv : rg v < 9218868437227405312) (h0 : feq v 0 = false) : ∃ r, r ≤ 9218868437227405312 ∧ fok .quo p v = true ∧ fval .quo p v = Ieee.double.word (sg p ^^ sg v) r := by
  have hz : mgr (rg v) ≠ 0 := by
    rw [feq_fin hv (by decide)] at h0
    have h1 := of_decide_eq_false h0
    have z : iv 0 = 0 := by decide
    rw [z] at h1
    intro c
    apply h1
    rw [← iv_abs] at c
    omega
  obtain ⟨r, h1, h2⟩ := quo_fin hp hv hz
  obtain ⟨h3, h4⟩ := f_of (op := .quo) h2
  exact ⟨r, h1, h3, h4⟩
def effV (p g v : Nat) : Nat := if feq v 0 = true then g else if fgt (fval .quo p v) g = true then g else fval .quo p v
theorem loc_fin {p g : Nat} (h : locB p g = true) : rg p < 9218868437227405312 ∧ rg g < 9218868437227405312 ∧ iv 4607182418800017408 ≤ iv p ∧ iv 4607182418800017408 ≤ iv g ∧ iv g ≤ iv 4666723172467343360 := by
  simp only [locB, Bool.and_eq_true] at h
  obtain ⟨h1, h2⟩ := inR_parts h.1
  obtain ⟨h3, h4⟩ := inR_parts h.2
  obtain ⟨a1, a2, a3⟩ := between (by decide) (by decide) h1 h2
  obtain ⟨b1, b2, b3⟩ := between (by decide) (by decide) h3 h4
  exact ⟨a1, b1, a2, b2, b3⟩
theorem impl_eff {p g v : Nat} (hl : locB p g = true) (hv : inR v 0 4641240890982006784 = true) : impl_effort.f p g v = some (effV p g v) := by
  unfold impl_effort.f effV
  cases h0 : feq v 0 with
  | true => rfl
  | false =>
    obtain ⟨r, _, h1, _⟩ := quo_ok (loc_fin hl).1 (spB_fin hv).1 h0
    simp only [Bool.false_eq_true, if_false, h1, if_true]
    split <;> rfl
theorem spec_eff (p g v : Nat) : Ev (fun k => spec_Effort.f k p g v) (if locB p g = true ∧ inR v 0 4641240890982006784 = true then effV p g v else 0) := by
  unfold spec_Effort.f
  have hsp : spec_l04Speed.f v = some (inR v 0 4641240890982006784) := by
    unfold spec_l04Speed.f
    rw [spec_inR]; rfl
  simp only [spec_loc, hsp, Option.bind_some]
  by_cases hl : locB p g = true
  · simp only [if_pos hl]
    refine Ev.step (fun k => by rw [spec_Effort.j0]) ?_
    by_cases hv : inR v 0 4641240890982006784 = true
    · simp only [hv, hl, Bool.not_true, Bool.false_eq_true, if_false, and_self, if_true]
      unfold effV
      cases h0 : feq v 0 with
      | true => simp only [if_true]; exact ev_some
      | false =>
        obtain ⟨r, _, h1, _⟩ := quo_ok (loc_fin hl).1 (spB_fin hv).1 h0
        simp only [Bool.false_eq_true, if_false, h1, if_true]
        by_cases c : fgt (fval .quo p v) g = true
        · simp only [if_pos c]; exact ev_some
        · simp only [if_neg c]; exact ev_some
    · simp only [hv, Bool.not_false, if_true, and_false, Bool.false_eq_true, if_false]
      exact ev_some
  · simp only [hl, Bool.false_eq_true, if_false, false_and]
    exact Ev.step (fun k => by rw [spec_Effort.j0]) (by simpa using ev_some)
theorem iv_zero : iv 0 = 0 := by decide
theorem iv_pos {x : Nat} (h : 0 < iv x) : sg x = false ∧ iv x = (mgr (rg x) : Nat) := by
  unfold iv at h ⊢
  by_cases c : sg x = true
  · rw [if_pos c] at h; omega
  · rw [if_neg c]; exact ⟨by simpa using c, rfl⟩
theorem iv_one : iv 4607182418800017408 = (mgr (1023 * 4503599627370496) : Nat) := by
  have e : rg 4607182418800017408 = 1023 * 4503599627370496 := by decide
  unfold iv
  rw [if_neg (by decide), e]
theorem one_pos : 0 < iv 4607182418800017408 := by
  rw [iv_one]
  have := mgr_pos (r := 1023 * 4503599627370496) (by decide)
  omega
theorem eff_B {p g v : Nat} (hl : locB p g = true) (hv : inR v 0 4641240890982006784 = true) : B 14 (effV p g v) := by
  have hg : B 14 g := by
    have h2 := hl
    simp only [locB, Bool.and_eq_true] at h2
    exact inR_B h2.2 (by decide) (by decide) (by decide)
  obtain ⟨p1, g1, p2, g2, _⟩ := loc_fin hl
  obtain ⟨v1, v2⟩ := spB_fin hv
  unfold effV
  cases h0 : feq v 0 with
  | true => simpa using hg
  | false =>
    simp only [Bool.false_eq_true, if_false]
    obtain ⟨r, r1, _, r3⟩ := quo_ok p1 v1 h0
    have vp : 0 < iv v := by
      rw [feq_fin v1 (by decide)] at h0
      have h1 := of_decide_eq_false h0
      rw [iv_zero] at h1
      omega
    have op := one_pos
    obtain ⟨sp, _⟩ := iv_pos (show 0 < iv p by omega)
    obtain ⟨sv, _⟩ := iv_pos vp
    have hw : fval .quo p v = r := by rw [r3, sp, sv]; rfl
    rw [hw]
    by_cases c : fgt r g = true
    · rw [if_pos c]; exact hg
    · rw [if_neg c]
      have hrg : rg r = r := by unfold rg; omega
      have hsr : sg r = false := by
        unfold sg
        simp only [beq_eq_false_iff_ne]
        omega
      rcases Nat.lt_or_eq_of_le r1 with r1 | r1
      · rw [fgt_fin (by rw [hrg]; exact r1) g1] at c
        have c2 : ¬ iv g < iv r := by simpa using c
        apply B_of_mgr (by rw [hrg]; exact r1)
        have hm := hg.mgr
        rw [← iv_abs] at hm ⊢
        have h3 : iv r = (mgr (rg r) : Nat) := by unfold iv; rw [hsr]; simp
        generalize 2 ^ (14 + 1074) = M at hm ⊢
        omega
      · exfalso
        apply c
        obtain ⟨m, e, q1, _⟩ := read_fin g1
        unfold fgt
        rw [dord]
        unfold Ieee.Format.order
        rw [read_inf (x := r) (by rw [hrg]; exact r1), q1, hsr]
        rfl
theorem iv_of_sg {x : Nat} (h : sg x = false) : iv x = (mgr (rg x) : Nat) := by
  unfold iv; rw [h]; simp
def P1074 : Nat := 2 ^ 1074
theorem fofint_nat (n : Nat) : fofint (n : Int) = Ieee.double.word false (rn 0 (n * P1074)) := by
  unfold fofint FloatKind.nearest FloatKind.encode
  have h0 : decide ((n : Int) < 0) = false := decide_eq_false (by omega)
  rw [h0, Int.natAbs_natCast]
  obtain ⟨s, hs, hp⟩ : ∃ s : Nat, s = 1074 ∧ 2 ^ s = P1074 := ⟨1074, rfl, by decide +kernel⟩
  have h := nearest_rn false n 0 s
  have e : (-1074 - ((0 : Nat) : Int) + (s : Int)) = 0 := by omega
  rw [e, hp] at h
  exact h
theorem fofint_rg (n : Nat) : rg (fofint (n : Int)) = rn 0 (n * P1074) ∧ sg (fofint (n : Int)) = false := by
  have hi := rn_le_inf 0 (n * P1074)
  rw [fofint_nat]
  exact ⟨rg_word _ _ (by omega), sg_word _ _ (by omega)⟩
theorem mgr200 : mgr 4641240890982006784 = 200 * P1074 := by decide +kernel
theorem fofint_le (n : Nat) (h : n ≤ 200) : rg (fofint (n : Int)) ≤ 4641240890982006784 := by
  rw [(fofint_rg n).1]
  have e : n * P1074 ≤ mgr 4641240890982006784 := by
    rw [mgr200]; exact Nat.mul_le_mul_right _ h
  exact rn_le 0 _ _ (by decide) (Nat.le_trans e (Nat.le_of_eq (by rw [Nat.pow_zero, Nat.mul_one])))
theorem fofint_spB (n : Nat) (h : n ≤ 200) : spB (fofint (n : Int)) = true := by
  have h1 := fofint_le n h
  have hf : rg (fofint (n : Int)) < 9218868437227405312 := Nat.lt_of_le_of_lt h1 (by decide)
  unfold spB inR
  rw [fle_fin (by decide) hf, fle_fin hf (by decide), Bool.and_eq_true, decide_eq_true_eq, decide_eq_true_eq, iv_of_sg (fofint_rg n).2]
  have e : iv 4641240890982006784 = (mgr 4641240890982006784 : Nat) := by
    have e1 : rg 4641240890982006784 = 4641240890982006784 := by decide
    have e2 : sg 4641240890982006784 = false := by decide
    rw [iv_of_sg e2, e1]
  rw [iv_zero, e]
  have := mgr_mono h1
  omega
theorem fge_fin {x y : Nat} (hx : rg x < 9218868437227405312) (hy : rg y < 9218868437227405312) : fge x y = !(flt x y) := by
  unfold fge flt
  rw [dord, order_fin hx hy]
  by_cases c : iv x < iv y
  · rw [if_pos c]; rfl
  · rw [if_neg c]
    by_cases d : iv x = iv y
    · rw [if_pos d]; rfl
    · rw [if_neg d]; rfl
def rv (t : Nat) (a : Int) : Int := if a < 0 then -(mgr (rn t a.natAbs) : Int) else (mgr (rn t a.natAbs) : Int)
theorem iv_word (s : Bool) (r : Nat) (h : r ≤ 9218868437227405312) : iv (Ieee.double.word s r) = if s = true then -(mgr r : Int) else (mgr r : Int) := by
  unfold iv
  rw [sg_word s r (by omega), rg_word s r (by omega)]
theorem rv_mono {t : Nat} {a b : Int} (h : a ≤ b) : rv t a ≤ rv t b := by
  unfold rv
  by_cases ca : a < 0
  · rw [if_pos ca]
    by_cases cb : b < 0
    · rw [if_pos cb]
      have := mgr_mono (rn_mono (t := t) (show b.natAbs ≤ a.natAbs by omega))
      omega
    · rw [if_neg cb]; omega
  · rw [if_neg ca, if_neg (show ¬ b < 0 by omega)]
    have := mgr_mono (rn_mono (t := t) (show a.natAbs ≤ b.natAbs by omega))
    omega
theorem rn_zero (t : Nat) : rn t 0 = 0 := by unfold rn; rw [if_pos rfl]
theorem mgr_zero : mgr 0 = 0 := by unfold mgr; rw [if_pos (by decide)]
theorem add_iv {x y : Nat} (hx : rg x < 9218868437227405312) (hy : rg y < 9218868437227405312) : iv (fval .add x y) = rv 0 (iv x + iv y) := by
  obtain ⟨_, h⟩ := f_of (op := .add) (add_fin hx hy)
  rw [h, iv_word _ _ (rn_le_inf _ _)]
  unfold rv
  by_cases c : iv x + iv y = 0
  · have e : rn 0 (iv x + iv y).natAbs = 0 := by rw [c]; exact rn_zero 0
    rw [e, mgr_zero]
    simp
  · rw [if_neg c]
    by_cases d : iv x + iv y < 0
    · rw [if_pos d, decide_eq_true d, if_pos rfl]
    · rw [if_neg d, decide_eq_false d]; rfl
theorem mul_iv {x y : Nat} (hx : rg x < 9218868437227405312) (hy : rg y < 9218868437227405312) : iv (fval .mul x y) = rv 1074 (iv x * iv y) := by
  obtain ⟨_, h⟩ := f_of (op := .mul) (mul_fin hx hy)
  rw [h, iv_word _ _ (rn_le_inf _ _)]
  have habs : (iv x * iv y).natAbs = mgr (rg x) * mgr (rg y) := by rw [Int.natAbs_mul, iv_abs, iv_abs]
  unfold rv
  rw [habs]
  by_cases c : mgr (rg x) * mgr (rg y) = 0
  · rw [c, rn_zero, mgr_zero]; simp
  · have px : 0 < mgr (rg x) := Nat.pos_of_ne_zero (fun e => c (by rw [e, Nat.zero_mul]))
    have py : 0 < mgr (rg y) := Nat.pos_of_ne_zero (fun e => c (by rw [e, Nat.mul_zero]))
    unfold iv
    cases hs : sg x <;> cases ht : sg y
    · simp only [Bool.false_eq_true, if_false, Bool.xor_false]
      rw [if_neg (by have := Int.mul_pos (show (0 : Int) < (mgr (rg x) : Nat) by omega) (show (0 : Int) < (mgr (rg y) : Nat) by omega); omega)]
    · simp only [Bool.false_eq_true, if_false, if_true, Bool.false_xor]
      rw [if_pos (by rw [Int.mul_neg]; have := Int.mul_pos (show (0 : Int) < (mgr (rg x) : Nat) by omega) (show (0 : Int) < (mgr (rg y) : Nat) by omega); omega)]
    · simp only [Bool.false_eq_true, if_false, if_true, Bool.xor_false]
      rw [if_pos (by rw [Int.neg_mul]; have := Int.mul_pos (show (0 : Int) < (mgr (rg x) : Nat) by omega) (show (0 : Int) < (mgr (rg y) : Nat) by omega); omega)]
    · simp only [if_true, Bool.xor_self, Bool.false_eq_true, if_false]
      rw [if_neg (by rw [Int.neg_mul_neg]; have := Int.mul_pos (show (0 : Int) < (mgr (rg x) : Nat) by omega) (show (0 : Int) < (mgr (rg y) : Nat) by omega); omega)]
theorem dragS_mono {v sl sl' : Nat} (hv : spB v = true) (hs : slB sl = true) (hs' : slB sl' = true) (hle : iv sl ≤ iv sl') : ∀ (rest : List S61) (acc acc' k : Nat), B k acc → B k acc' → 24 ≤ k → k + 2 * rest.length ≤ 1000 → rest.all carS = true → iv acc ≤ iv acc' → iv (dragS v sl acc rest) ≤ iv (dragS v sl' acc' rest)
  | [], acc, acc', k, _, _, _, _, _, h => h
  | c :: rest, acc, acc', k, hb, hb', h24, hk, ha, h => by
    obtain ⟨a1, a2⟩ := all_cons_parts ha
    simp only [List.length_cons] at hk
    obtain ⟨_, _, _, b1⟩ := drag_step a1 hv hs hb h24 (by omega)
    obtain ⟨_, _, _, b2⟩ := drag_step a1 hv hs' hb' h24 (by omega)
    refine dragS_mono hv hs hs' hle rest _ _ (k + 2) b1 b2 (by omega) (by omega) a2 ?_
    obtain ⟨_, _, _, _, _, hr⟩ := res_ok a1 hv
    obtain ⟨_, p1⟩ := f_add hb (hr.mono h24) (by omega)
    obtain ⟨_, p2⟩ := f_add hb' (hr.mono h24) (by omega)
    obtain ⟨_, q1⟩ := f_mul (carB_B a1).1 (slB_B hs) (by decide)
    obtain ⟨_, q2⟩ := f_mul (carB_B a1).1 (slB_B hs') (by decide)
    obtain ⟨m1, m2⟩ := carB_one a1
    have m3 := one_pos
    rw [add_iv (p1.fin (by omega)) (q1.fin (by omega)), add_iv (p2.fin (by omega)) (q2.fin (by omega))]
    apply rv_mono
    have e1 : iv (fval .add acc (resV c.f1 c.f2 c.f3 v)) ≤ iv (fval .add acc' (resV c.f1 c.f2 c.f3 v)) := by
      rw [add_iv (hb.fin (by omega)) (hr.fin (by omega)), add_iv (hb'.fin (by omega)) (hr.fin (by omega))]
      exact rv_mono (by omega)
    have e2 : iv (fval .mul c.f0 sl) ≤ iv (fval .mul c.f0 sl') := by
      rw [mul_iv m1 ((slB_B hs).fin (by omega)), mul_iv m1 ((slB_B hs').fin (by omega))]
      exact rv_mono (Int.mul_le_mul_of_nonneg_left hle (by omega))
    omega
theorem dragV_mono {xs : List S61} {v sl sl' : Nat} (ht : trainB xs = true) (hv : spB v = true) (hs : slB sl = true) (hs' : slB sl' = true) (hle : iv sl ≤ iv sl') : iv (dragV xs v sl) ≤ iv (dragV xs v sl') := by
  obtain ⟨h1, h2, h3⟩ := trainB_parts ht
  exact dragS_mono hv hs hs' hle xs 0 0 24 (by decide) (by decide) (by omega) (by omega) h1 (Int.le_refl _)
theorem rv_exact {x : Nat} (h : rg x < 9218868437227405312) : rv 0 (iv x) = iv x := by
  have e := rn_exact 0 (rg x) (by omega)
  rw [Nat.pow_zero, Nat.mul_one] at e
  unfold rv
  rw [iv_abs, e]
  have ha := iv_abs x
  by_cases c : iv x < 0
  · rw [if_pos c]; omega
  · rw [if_neg c]; omega
theorem and255 (n : Int) : Go.bits .and .i64 n 255 = n % 256 := by
  have h255 : (BitVec.ofInt 64 255).toNat = 2 ^ 8 - 1 := by decide
  have key : (BitVec.ofInt 64 n &&& BitVec.ofInt 64 255).toNat = (n % ((2 ^ 64 : Nat) : Int)).toNat % 2 ^ 8 := by
    rw [BitVec.toNat_and, BitVec.toNat_ofInt, h255, Nat.and_two_pow_sub_one_eq_mod]
  show Go.IntKind.i64.wrap ((BitVec.ofInt 64 n &&& BitVec.ofInt 64 255).toNat : Nat) = n % 256
  rw [key, Go.IntKind.wrap_i64]
  omega
theorem new_loop (l : List Int) (hl : l.length ≤ 2000000) (m : Nat) : ∀ (j : Nat) (h : Int), l.length - j = m → j ≤ l.length → ∃ h', Ev (fun k => spec_l01New.l0 k l h (j : Int)) (l, 0, h') := by
  induction m with
  | zero =>
    intro j h h0 h1
    refine ⟨h, Ev.step (fun k => by rw [spec_l01New.l0]) ?_⟩
    simp only [if_neg (show ¬ (j : Int) < (l.length : Int) by omega)]
    exact ev_some
  | succ m ih =>
    intro j h h0 h1
    by_cases c : (j : Int) < 4000
    · obtain ⟨h', hh⟩ := ih (j + 1) (Go.bits .and .i64 (wrap64 ((wrap64 ((wrap64 (h * 137)) + (wrap64 (rd l (j : Int))))) + 11)) 1073741823) (by omega) (by omega)
      refine ⟨h', Ev.step (fun k => by rw [spec_l01New.l0]) ?_⟩
      simp only [if_pos (show (j : Int) < (l.length : Int) by omega), if_pos c, if_pos (show 0 ≤ (j : Int) by omega), nat_w (show j ≤ 9223372036854775806 by omega)]
      exact hh
    · refine ⟨h, Ev.step (fun k => by rw [spec_l01New.l0]) ?_⟩
      simp only [if_pos (show (j : Int) < (l.length : Int) by omega), if_neg c]
      exact ev_some
theorem new_ev (l : List Int) (hl : l.length ≤ 2000000) : ∃ h, Ev (fun k => spec_l01New.f k l) (l, 0, h) := by
  unfold spec_l01New.f
  obtain ⟨h, hh⟩ := new_loop l hl l.length 0 (wrap64 (75075 + (l.length : Int))) (by omega) (by omega)
  exact ⟨h, by simpa using hh⟩
/-- A place in the bytes of a draw. -/
def Pl (l : List Int) (i : Int) : Prop := 0 ≤ i ∧ i ≤ (l.length : Int)
theorem byte_ev (l : List Int) (hl : l.length ≤ 2000000) (i h : Int) (hi : Pl l i) : ∃ r i' h', spec_l01Byte.f l i h = some (r, i', h') ∧ (0 ≤ r ∧ r ≤ 255) ∧ Pl l i' := by
  unfold Pl at *
  unfold spec_l01Byte.f
  by_cases c : i < (l.length : Int)
  · simp only [if_pos c, if_pos hi.1, and255]
    refine ⟨_, _, _, rfl, by omega, ?_⟩
    rw [w64 (by omega) (by omega)]
    omega
  · simp only [if_neg c, and255]
    exact ⟨_, _, _, rfl, by omega, hi⟩
theorem below_ev (l : List Int) (hl : l.length ≤ 2000000) (i h : Int) (hi : Pl l i) (n : Int) (hn : n ≤ 16777216) : ∃ r i' h', spec_l01Below.f l i h n = some (r, i', h') ∧ (0 ≤ r ∧ (r < n ∨ r = 0)) ∧ Pl l i' := by
  unfold spec_l01Below.f
  by_cases c0 : n ≤ 0
  · simp only [if_pos c0]
    exact ⟨_, _, _, rfl, by omega, hi⟩
  · simp only [if_neg c0]
    by_cases c1 : n ≤ 256
    · obtain ⟨r, i', h', e, hr, hp⟩ := byte_ev l hl i h hi
      simp only [if_pos c1, e, Option.bind_some, if_neg (show ¬ n = 0 by omega)]
      refine ⟨_, _, _, rfl, ?_, hp⟩
      rw [Int.tmod_eq_emod_of_nonneg hr.1]
      have := Int.emod_nonneg r (show n ≠ 0 by omega)
      have := Int.emod_lt_of_pos r (show 0 < n by omega)
      omega
    · obtain ⟨r, i', h', e, hr, hp⟩ := byte_ev l hl i h hi
      obtain ⟨r2, i2, h2, e2, hr2, hp2⟩ := byte_ev l hl i' h' hp
      obtain ⟨r3, i3, h3, e3, hr3, hp3⟩ := byte_ev l hl i2 h2 hp2
      simp only [if_neg c1, e, e2, e3, Option.bind_some, if_neg (show ¬ n = 0 by omega)]
      refine ⟨_, _, _, rfl, ?_, hp3⟩
      rw [w64 (x := r * 65536) (by omega) (by omega), w64 (x := r2 * 256) (by omega) (by omega), w64 (x := r * 65536 + r2 * 256) (by omega) (by omega), w64 (x := r * 65536 + r2 * 256 + r3) (by omega) (by omega)]
      rw [Int.tmod_eq_emod_of_nonneg (by omega)]
      have := Int.emod_nonneg (r * 65536 + r2 * 256 + r3) (show n ≠ 0 by omega)
      have := Int.emod_lt_of_pos (r * 65536 + r2 * 256 + r3) (show 0 < n by omega)
      omega
/-- The same where n is above 0. -/
theorem below_pos (l : List Int) (hl : l.length ≤ 2000000) (i h : Int) (hi : Pl l i) (n : Int) (h0 : 0 < n) (hn : n ≤ 16777216) : ∃ r i' h', spec_l01Below.f l i h n = some (r, i', h') ∧ (0 ≤ r ∧ r < n) ∧ Pl l i' := by
  obtain ⟨r, i', h', e, hr, hp⟩ := below_ev l hl i h hi n hn
  exact ⟨r, i', h', e, by omega, hp⟩
theorem pl0 (l : List Int) : Pl l 0 := by unfold Pl; omega
theorem all_at {N : Nat} {p : Nat → Bool} (h : (List.range N).all p = true) {r : Int} (h0 : 0 ≤ r) (h1 : r < N) : ∃ n : Nat, r = (n : Int) ∧ n < N ∧ p n = true := by
  refine ⟨r.toNat, by omega, by omega, ?_⟩
  exact List.all_eq_true.mp h r.toNat (List.mem_range.mpr (by omega))
theorem chk_mass : (List.range 400).all (fun r => fok .quo (fofint (r : Int)) 4616189618054758400 && (fok .add 4607182418800017408 (fval .quo (fofint (r : Int)) 4616189618054758400) && (inR (fval .add 4607182418800017408 (fval .quo (fofint (r : Int)) 4616189618054758400)) 4607182418800017408 4662219572839972864 && decide (fval .add 4607182418800017408 (fval .quo (fofint (r : Int)) 4616189618054758400) < 18446744073709551616)))) = true := by decide +kernel
theorem chk_a : (List.range 80).all (fun r => fok .quo (fofint (r : Int)) 4620693217682128896 && inR (fval .quo (fofint (r : Int)) 4620693217682128896) 0 4652007308841189376) = true := by decide +kernel
theorem chk_b : (List.range 50).all (fun r => fok .quo (fofint (r : Int)) 4636737291354636288 && inR (fval .quo (fofint (r : Int)) 4636737291354636288) 0 4636737291354636288) = true := by decide +kernel
theorem chk_c : (List.range 50).all (fun r => fok .quo (fofint (r : Int)) 4652007308841189376 && inR (fval .quo (fofint (r : Int)) 4652007308841189376) 0 4636737291354636288) = true := by decide +kernel
theorem chk_v : (List.range 400).all (fun r => fok .quo (fofint (r : Int)) 4620693217682128896 && spB (fval .quo (fofint (r : Int)) 4620693217682128896)) = true := by decide +kernel
theorem chk_sp : (List.range 40).all (fun r => fok .quo (fofint (r : Int)) 4620693217682128896 && inR (fval .quo (fofint (r : Int)) 4620693217682128896) 0 4621819117588971520) = true := by decide +kernel
theorem chk_grip : (List.range 900).all (fun r => fok .quo (fofint ((20 + r : Nat) : Int)) 4611686018427387904 && inR (fval .quo (fofint ((20 + r : Nat) : Int)) 4611686018427387904) 4607182418800017408 4666723172467343360) = true := by decide +kernel
theorem mgr1 : mgr 4607182418800017408 = 1 * P1074 := by decide +kernel
theorem mgr100000 : mgr 4681608360884174848 = 100000 * P1074 := by decide +kernel
theorem fofint_power (n : Nat) (h1 : 1 ≤ n) (h2 : n ≤ 100000) : inR (fofint (n : Int)) 4607182418800017408 4681608360884174848 = true := by
  obtain ⟨g1, g2⟩ := fofint_rg n
  have hi : rg (fofint (n : Int)) ≤ 4681608360884174848 := by
    rw [g1]
    have e : n * P1074 ≤ mgr 4681608360884174848 := by rw [mgr100000]; exact Nat.mul_le_mul_right _ h2
    exact rn_le 0 _ _ (by decide) (Nat.le_trans e (Nat.le_of_eq (by rw [Nat.pow_zero, Nat.mul_one])))
  have lo : 4607182418800017408 ≤ rg (fofint (n : Int)) := by
    rw [g1]
    have e : mgr 4607182418800017408 ≤ n * P1074 := by rw [mgr1]; exact Nat.mul_le_mul_right _ h1
    exact le_rn 0 _ _ (by decide) (Nat.le_trans (Nat.le_of_eq (by rw [Nat.pow_zero, Nat.mul_one])) e)
  have hf : rg (fofint (n : Int)) < 9218868437227405312 := Nat.lt_of_le_of_lt hi (by decide)
  unfold inR
  rw [fle_fin (by decide) hf, fle_fin hf (by decide), Bool.and_eq_true, decide_eq_true_eq, decide_eq_true_eq, iv_of_sg g2]
  have e1 : iv 4681608360884174848 = (mgr 4681608360884174848 : Nat) := by
    have a1 : rg 4681608360884174848 = 4681608360884174848 := by decide
    have a2 : sg 4681608360884174848 = false := by decide
    rw [iv_of_sg a2, a1]
  have e2 : iv 4607182418800017408 = (mgr 4607182418800017408 : Nat) := by
    have a1 : rg 4607182418800017408 = 4607182418800017408 := by decide
    have a2 : sg 4607182418800017408 = false := by decide
    rw [iv_of_sg a2, a1]
  rw [e1, e2]
  have := mgr_mono hi
  have := mgr_mono lo
  omega
theorem draw_car_ev (l : List Int) (hl : l.length ≤ 2000000) (i h : Int) (hi : Pl l i) : ∃ m a b c i' h', spec_l04DrawCar.f l i h = some (m, a, b, c, i', h') ∧ carB m a b c = true ∧ Pl l i' ∧ m < 18446744073709551616 := by
  obtain ⟨r1, i1, h1, e1, b1, p1⟩ := below_pos l hl i h hi 400 (by omega) (by omega)
  obtain ⟨r2, i2, h2, e2, b2, p2⟩ := below_pos l hl i1 h1 p1 80 (by omega) (by omega)
  obtain ⟨r3, i3, h3, e3, b3, p3⟩ := below_pos l hl i2 h2 p2 50 (by omega) (by omega)
  obtain ⟨r4, i4, h4, e4, b4, p4⟩ := below_pos l hl i3 h3 p3 50 (by omega) (by omega)
  obtain ⟨n1, rfl, _, c1⟩ := all_at chk_mass b1.1 b1.2
  obtain ⟨n2, rfl, _, c2⟩ := all_at chk_a b2.1 b2.2
  obtain ⟨n3, rfl, _, c3⟩ := all_at chk_b b3.1 b3.2
  obtain ⟨n4, rfl, _, c4⟩ := all_at chk_c b4.1 b4.2
  simp only [Bool.and_eq_true, decide_eq_true_eq] at c1 c2 c3 c4
  refine ⟨fval .add 4607182418800017408 (fval .quo (fofint (n1 : Int)) 4616189618054758400), fval .quo (fofint (n2 : Int)) 4620693217682128896, fval .quo (fofint (n3 : Int)) 4636737291354636288, fval .quo (fofint (n4 : Int)) 4652007308841189376, i4, h4, ?_, ?_, p4, c1.2.2.2⟩
  rotate_left
  · unfold carB
    rw [c1.2.2.1, c2.2, c3.2, c4.2]; rfl
  · unfold spec_l04DrawCar.f
    simp only [e1, e2, e3, e4, Option.bind_some, c1.1, c1.2.1, c2.1, c3.1, c4.1, if_true]
theorem draw_pull_loop (l : List Int) (hl : l.length ≤ 2000000) (p g : Nat) (m : Nat) : ∀ (acc : List S61) (i h : Int), acc.length + m ≤ 40 → acc.all carS = true → (∀ y ∈ acc, y.f0 < 18446744073709551616) → Pl l i →
    ∃ cs v sp, Ev (fun k => spec_DrawRightPull.l0 k acc (m : Int) l i h p g) (p, g, cs, v, sp) ∧ cs.length = acc.length + m ∧ cs.all carS = true ∧ spB v = true ∧ inR sp 0 4621819117588971520 = true ∧ (∃ n : Nat, n < 400 ∧ v = fval .quo (fofint (n : Int)) 4620693217682128896) ∧ ∀ y ∈ cs, y.f0 < 18446744073709551616 := by
  induction m with
  | zero =>
    intro acc i h h0 ha hq hi
    obtain ⟨r1, i1, h1, e1, b1, p1⟩ := below_pos l hl i h hi 400 (by omega) (by omega)
    obtain ⟨r2, i2, h2, e2, b2, p2⟩ := below_pos l hl i1 h1 p1 40 (by omega) (by omega)
    obtain ⟨n1, rfl, hn1, c1⟩ := all_at chk_v b1.1 b1.2
    obtain ⟨n2, rfl, _, c2⟩ := all_at chk_sp b2.1 b2.2
    simp only [Bool.and_eq_true] at c1 c2
    refine ⟨acc, fval .quo (fofint (n1 : Int)) 4620693217682128896, fval .quo (fofint (n2 : Int)) 4620693217682128896, Ev.step (fun k => by rw [spec_DrawRightPull.l0]) ?_, rfl, ha, c1.2, c2.2, ⟨n1, hn1, rfl⟩, hq⟩
    simp only [if_neg (show ¬ ((0 : Nat) : Int) > 0 by omega), e1, e2, Option.bind_some, c1.1, c2.1, if_true]
    exact ev_some
  | succ m ih =>
    intro acc i h h0 ha hq hi
    obtain ⟨cm, ca, cb, cc, i1, h1, e1, cok, p1, cw⟩ := draw_car_ev l hl i h hi
    obtain ⟨cs, v, sp, hev, q1, q2, q3, q4, q5⟩ := ih (acc ++ [⟨cm, ca, cb, cc⟩]) i1 h1 (by simp; omega) (by
      rw [List.all_append, ha]
      have : carS ⟨cm, ca, cb, cc⟩ = true := cok
      simp [this]) (by
      intro y hy
      rcases List.mem_append.mp hy with hy | hy
      · exact hq y hy
      · rw [List.mem_singleton] at hy; rw [hy]; exact cw) p1
    refine ⟨cs, v, sp, Ev.step (fun k => by rw [spec_DrawRightPull.l0]) ?_, by rw [q1]; simp; omega, q2, q3, q4, q5⟩
    simp only [if_pos (show ((m + 1 : Nat) : Int) > 0 by omega), e1, Option.bind_some, if_pos (show acc.length < 4398046511104 by omega), w64 (x := ((m + 1 : Nat) : Int) - 1) (by omega) (by omega)]
    rw [show ((m + 1 : Nat) : Int) - 1 = (m : Int) by omega]
    exact hev
theorem draw_pull_head (l : List Int) (h0 r1 r2 r3 i1 h1 i2 h2 i3 h3 : Int) (P G : Nat) (R : Nat × Nat × List S61 × Nat × Nat) (hP : fofint (wrap64 (200 + r1)) = P) (hok : fok .quo (fofint (wrap64 (20 + r2))) 4611686018427387904 = true) (hG : fval .quo (fofint (wrap64 (20 + r2))) 4611686018427387904 = G)
    (e0 : Ev (fun k => spec_l01New.f k l) (l, 0, h0)) (e1 : spec_l01Below.f l 0 h0 9000 = some (r1, i1, h1)) (e2 : spec_l01Below.f l i1 h1 900 = some (r2, i2, h2)) (e3 : spec_l01Below.f l i2 h2 4 = some (r3, i3, h3))
    (hev : Ev (fun k => spec_DrawRightPull.l0 k [] (wrap64 (1 + r3)) l i3 h3 P G) R) : Ev (fun k => spec_DrawRightPull.f k l) R := by
  unfold spec_DrawRightPull.f
  refine Ev.bind e0 ?_
  simp only [e1, e2, e3, Option.bind_some, hok, hP, hG, if_true]
  exact hev
/-- A right engine and train. -/
theorem draw_right_pull (l : List Int) (hl : l.length ≤ 2000000) : ∃ p g cs v sp, Ev (fun k => spec_DrawRightPull.f k l) (p, g, cs, v, sp) ∧ locB p g = true ∧ trainB cs = true ∧ spB v = true ∧ inR sp 0 4621819117588971520 = true ∧ (∃ n : Nat, n < 400 ∧ v = fval .quo (fofint (n : Int)) 4620693217682128896) ∧ ∀ y ∈ cs, y.f0 < 18446744073709551616 := by
  obtain ⟨h0, e0⟩ := new_ev l hl
  obtain ⟨r1, i1, h1, e1, b1, p1⟩ := below_pos l hl 0 h0 (pl0 l) 9000 (by omega) (by omega)
  obtain ⟨r2, i2, h2, e2, b2, p2⟩ := below_pos l hl i1 h1 p1 900 (by omega) (by omega)
  obtain ⟨r3, i3, h3, e3, b3, p3⟩ := below_pos l hl i2 h2 p2 4 (by omega) (by omega)
  obtain ⟨P, hP, bP⟩ : ∃ P, fofint (wrap64 (200 + r1)) = P ∧ inR P 4607182418800017408 4681608360884174848 = true := by
    refine ⟨_, rfl, ?_⟩
    obtain ⟨n, hn⟩ : ∃ n : Nat, wrap64 (200 + r1) = (n : Int) := ⟨(200 + r1).toNat, by rw [w64 (by omega) (by omega)]; omega⟩
    rw [hn]
    rw [w64 (by omega) (by omega)] at hn
    exact fofint_power n (by omega) (by omega)
  obtain ⟨G, hG, hok, bG⟩ : ∃ G, fval .quo (fofint (wrap64 (20 + r2))) 4611686018427387904 = G ∧ fok .quo (fofint (wrap64 (20 + r2))) 4611686018427387904 = true ∧ inR G 4607182418800017408 4666723172467343360 = true := by
    obtain ⟨n, hn, _, c⟩ := all_at chk_grip b2.1 b2.2
    have hw : wrap64 (20 + r2) = ((20 + n : Nat) : Int) := by rw [w64 (by omega) (by omega)]; omega
    rw [hw]
    rw [Bool.and_eq_true] at c
    exact ⟨_, rfl, c.1, c.2⟩
  obtain ⟨cs, v, sp, hev, q1, q2, q3, q4, q5⟩ := draw_pull_loop l hl P G (1 + r3).toNat [] i3 h3 (by simp; omega) rfl (by simp) p3
  have hc : ((1 + r3).toNat : Int) = wrap64 (1 + r3) := by rw [w64 (by omega) (by omega)]; omega
  rw [hc] at hev
  refine ⟨P, G, cs, v, sp, draw_pull_head l h0 r1 r2 r3 i1 h1 i2 h2 i3 h3 P G _ hP hok hG e0 e1 e2 e3 hev, ?_, ?_, q3, q4, q5⟩
  · unfold locB; rw [bP, bG]; rfl
  · unfold trainB
    rw [q2, Bool.true_and]
    have : cs.length = (1 + r3).toNat := by simpa using q1
    exact decide_eq_true (by omega)
def wsum (acc : Nat) (xs : List S61) : Nat := xs.foldl (fun s c => fval .add s c.f0) acc
theorem wsum_B : ∀ (rest : List S61) (acc k : Nat), B k acc → 13 ≤ k → k + rest.length ≤ 1000 → rest.all carS = true → B (k + rest.length) (wsum acc rest)
  | [], acc, k, h, _, _, _ => h
  | c :: rest, acc, k, h, h13, hk, ha => by
    obtain ⟨h1, h2⟩ := all_cons_parts ha
    simp only [List.length_cons] at hk ⊢
    obtain ⟨_, hb⟩ := f_add h ((carB_B h1).1.mono h13) (by omega)
    have := wsum_B rest _ (k + 1) hb (by omega) (by omega) h2
    rw [show k + (rest.length + 1) = k + 1 + rest.length by omega]
    exact this
theorem spec_weigh_loop (xs : List S61) (hn : xs.length ≤ 40) : ∀ (rest : List S61) (j acc k : Nat), xs.drop j = rest → j ≤ xs.length → B k acc → 13 ≤ k → k + rest.length ≤ 1000 → rest.all carS = true → Ev (fun q => spec_Weigh.l0 q xs acc (j : Int)) (wsum acc rest) := by
  intro rest
  induction rest with
  | nil =>
    intro j acc k h hl _ _ _ _
    have := drop_nil h
    refine Ev.step (fun k => by rw [spec_Weigh.l0]) ?_
    simp only [if_neg (show ¬ (j : Int) < (xs.length : Int) by omega)]
    exact ev_some
  | cons c rest ih =>
    intro j acc k h hl hb h13 hk ha
    obtain ⟨h1, h2, h3⟩ := drop_cons h
    obtain ⟨a1, a2⟩ := all_cons_parts ha
    simp only [List.length_cons] at hk
    obtain ⟨o, hb'⟩ := f_add hb ((carB_B a1).1.mono h13) (by omega)
    refine Ev.step (fun k => by rw [spec_Weigh.l0]) ?_
    simp only [if_pos (show (j : Int) < (xs.length : Int) by omega), if_pos (show 0 ≤ (j : Int) by omega), nat_w (show j ≤ 9223372036854775806 by omega), rd61_at, h2, o, if_true]
    exact ih (j + 1) _ (k + 1) h3 (by omega) hb' (by omega) (by omega) a2
theorem impl_weigh_loop (xs : List S61) (hn : xs.length ≤ 40) : ∀ (rest : List S61) (j acc k : Nat), xs.drop j = rest → j ≤ xs.length → B k acc → 13 ≤ k → k + rest.length ≤ 1000 → rest.all carS = true → Ev (fun q => impl_weigh.l0 q acc xs (xs.length : Int) (j : Int)) (wsum acc rest) := by
  intro rest
  induction rest with
  | nil =>
    intro j acc k h hl _ _ _ _
    have := drop_nil h
    refine Ev.step (fun k => by rw [impl_weigh.l0]) ?_
    simp only [if_neg (show ¬ (j : Int) < (xs.length : Int) by omega)]
    exact ev_some
  | cons c rest ih =>
    intro j acc k h hl hb h13 hk ha
    obtain ⟨h1, h2, h3⟩ := drop_cons h
    obtain ⟨a1, a2⟩ := all_cons_parts ha
    simp only [List.length_cons] at hk
    obtain ⟨o, hb'⟩ := f_add hb ((carB_B a1).1.mono h13) (by omega)
    refine Ev.step (fun k => by rw [impl_weigh.l0]) ?_
    simp only [if_pos (show (j : Int) < (xs.length : Int) by omega), if_pos (show 0 ≤ (j : Int) by omega), nat_w (show j ≤ 9223372036854775806 by omega), rd61_at, h2, o, if_true]
    exact ih (j + 1) _ (k + 1) h3 (by omega) hb' (by omega) (by omega) a2
/-- Nought and a positive number make that number, bit for bit. -/
theorem zero_add_f {m : Nat} (hm : rg m < 9218868437227405312) (hw : m < 18446744073709551616) (h : 0 < iv m) : fok .add 0 m = true ∧ fval .add 0 m = m := by
  have h1 := add_fin (x := 0) (y := m) (by decide) hm
  obtain ⟨h3, h4⟩ := f_of (op := .add) h1
  refine ⟨h3, ?_⟩
  rw [h4, iv_zero, Int.zero_add, if_neg (by omega), decide_eq_false (by omega), iv_abs]
  have e := rn_exact 0 (rg m) (by omega)
  rw [Nat.pow_zero, Nat.mul_one] at e
  rw [e]
  obtain ⟨hs, _⟩ := iv_pos h
  have h6 : Ieee.double.word false (rg m) = rg m := rfl
  rw [h6]
  unfold sg at hs
  unfold rg
  have h5 : m / 9223372036854775808 % 2 ≠ 1 := by simpa using hs
  omega
def weighV (xs : List S61) : Nat := wsum 0 xs
theorem impl_weigh_ev (xs : List S61) (ht : trainB xs = true) : Ev (fun q => impl_weigh.f q xs) (weighV xs) := by
  obtain ⟨h1, h2, h3⟩ := trainB_parts ht
  exact impl_weigh_loop xs h3 xs 0 0 13 rfl (by omega) (by decide) (by omega) (by omega) h1
theorem spec_weigh_ev (xs : List S61) (hn : xs.length ≤ 2000000) (hw : ∀ y ∈ xs, y.f0 < 18446744073709551616) : Ev (fun q => spec_Weigh.f q xs) (if trainB xs = true then weighV xs else 0) := by
  unfold spec_Weigh.f
  refine Ev.bind (spec_train_ev xs hn) ?_
  by_cases ht : trainB xs = true
  · simp only [if_pos ht]
    obtain ⟨h1, h2, h3⟩ := trainB_parts ht
    simp only [if_pos (show 0 < (xs.length : Int) by omega)]
    cases xs with
    | nil => simp at h2
    | cons c rest =>
      obtain ⟨a1, a2⟩ := all_cons_parts h1
      obtain ⟨m1, m2⟩ := carB_one a1
      have hc := hw c (List.mem_cons_self ..)
      obtain ⟨_, z⟩ := zero_add_f m1 hc (by have := one_pos; omega)
      have e : weighV (c :: rest) = wsum c.f0 rest := by
        unfold weighV wsum
        rw [List.foldl_cons, z]
      rw [e]
      have r0 : rd_T61 (c :: rest) 0 = c := rfl
      simp only [r0]
      exact spec_weigh_loop (c :: rest) h3 rest 1 c.f0 13 rfl (by simp) (carB_B a1).1 (by omega) (by simp at h3; omega) a2
  · simp only [if_neg ht]; exact ev_some
def spanB (s : Nat) : Bool := inR s 0 4621819117588971520
theorem spanB_B {s : Nat} (h : spanB s = true) : B 4 s := inR_B h (by decide) (by decide) (by decide)
theorem impl_span (s : Nat) : impl_spanOk.f s = some (spanB s) := by
  unfold impl_spanOk.f spanB
  rw [impl_inR]; rfl
theorem iv_two_hundred_fin : rg 4641240890982006784 < 9218868437227405312 := by decide
theorem wsum_one : ∀ (rest : List S61) (acc k : Nat), B k acc → 13 ≤ k → k + rest.length ≤ 1000 → rest.all carS = true → iv 4607182418800017408 ≤ iv acc → iv 4607182418800017408 ≤ iv (wsum acc rest)
  | [], acc, k, _, _, _, _, h => h
  | c :: rest, acc, k, h, h13, hk, ha, h1 => by
    obtain ⟨a1, a2⟩ := all_cons_parts ha
    simp only [List.length_cons] at hk
    obtain ⟨o, hb⟩ := f_add h ((carB_B a1).1.mono h13) (by omega)
    refine wsum_one rest _ (k + 1) hb (by omega) (by omega) a2 ?_
    obtain ⟨m1, m2⟩ := carB_one a1
    have hf := h.fin (by omega)
    have hadd := add_fin hf m1
    obtain ⟨_, hv⟩ := f_of (op := .add) hadd
    show iv 4607182418800017408 ≤ iv (fval .add acc c.f0)
    rw [hv]
    have op := one_pos
    rw [if_neg (by omega), decide_eq_false (by omega)]
    have hi := rn_le_inf 0 (iv acc + iv c.f0).natAbs
    have hr : 1023 * 4503599627370496 ≤ rn 0 (iv acc + iv c.f0).natAbs := by
      refine le_rn 0 _ _ (by decide) ?_
      rw [Nat.pow_zero, Nat.mul_one]
      rw [iv_one] at h1 m2 op
      generalize mgr (1023 * 4503599627370496) = M at h1 m2 op ⊢
      omega
    have hs : sg (Ieee.double.word false (rn 0 (iv acc + iv c.f0).natAbs)) = false := sg_word _ _ (by omega)
    have hg := rg_word false (rn 0 (iv acc + iv c.f0).natAbs) (by omega)
    have hx : iv (Ieee.double.word false (rn 0 (iv acc + iv c.f0).natAbs)) = (mgr (rn 0 (iv acc + iv c.f0).natAbs) : Nat) := by
      rw [iv_of_sg hs, hg]
    rw [hx, iv_one]
    have := mgr_mono hr
    omega
theorem weighV_B {xs : List S61} (ht : trainB xs = true) (hw : ∀ y ∈ xs, y.f0 < 18446744073709551616) : rg (weighV xs) < 9218868437227405312 ∧ 1023 * 4503599627370496 ≤ rg (weighV xs) := by
  obtain ⟨h1, h2, h3⟩ := trainB_parts ht
  cases xs with
  | nil => simp at h2
  | cons c rest =>
    obtain ⟨a1, a2⟩ := all_cons_parts h1
    obtain ⟨m1, m2⟩ := carB_one a1
    have hc := hw c (List.mem_cons_self ..)
    obtain ⟨_, z⟩ := zero_add_f m1 hc (by have := one_pos; omega)
    have e : weighV (c :: rest) = wsum c.f0 rest := by
      unfold weighV wsum
      rw [List.foldl_cons, z]
    simp only [List.length_cons] at h3
    rw [e]
    have hb := wsum_B rest c.f0 13 (carB_B a1).1 (by omega) (by omega) a2
    have hf := hb.fin (by omega)
    exact ⟨hf, one_le_rg hf (wsum_one rest c.f0 13 (carB_B a1).1 (by omega) (by omega) a2 m2)⟩
def pullW (p g : Nat) (xs : List S61) (v sl sp : Nat) : Nat := fval .add v (fval .mul (fval .quo (fval .sub (effV p g v) (dragV xs v sl)) (weighV xs)) sp)
def pullV (p g : Nat) (xs : List S61) (v sl sp : Nat) : Nat := if fgt (pullW p g xs v sl sp) 0 = true then if fgt (pullW p g xs v sl sp) 4641240890982006784 = true then 4641240890982006784 else pullW p g xs v sl sp else 0
theorem pull_ok {p g : Nat} {xs : List S61} {v sl sp : Nat} (hl : locB p g = true) (ht : trainB xs = true) (hv : spB v = true) (hs : slB sl = true) (hp : spanB sp = true) (hw : ∀ y ∈ xs, y.f0 < 18446744073709551616) :
    fok .sub (effV p g v) (dragV xs v sl) = true ∧ fok .quo (fval .sub (effV p g v) (dragV xs v sl)) (weighV xs) = true ∧ fok .mul (fval .quo (fval .sub (effV p g v) (dragV xs v sl)) (weighV xs)) sp = true ∧ fok .add v (fval .mul (fval .quo (fval .sub (effV p g v) (dragV xs v sl)) (weighV xs)) sp) = true ∧ B 162 (pullW p g xs v sl sp) := by
  obtain ⟨o1, b1⟩ := f_sub ((eff_B hl hv).mono (show 14 ≤ 104 by decide)) (dragV_B ht hv hs) (by decide)
  obtain ⟨w1, w2⟩ := weighV_B ht hw
  obtain ⟨o2, b2⟩ := f_quo b1 w1 w2 (by decide)
  obtain ⟨o3, b3⟩ := f_mul b2 (spanB_B hp) (by decide)
  obtain ⟨o4, b4⟩ := f_add ((spB_B hv).mono (show 8 ≤ 104 + 1 + 52 + 4 by decide)) b3 (by decide)
  exact ⟨o1, o2, o3, o4, b4⟩
theorem pull_spB {p g : Nat} {xs : List S61} {v sl sp : Nat} (hl : locB p g = true) (ht : trainB xs = true) (hv : spB v = true) (hs : slB sl = true) (hp : spanB sp = true) (hw : ∀ y ∈ xs, y.f0 < 18446744073709551616) : spB (pullV p g xs v sl sp) = true := by
  obtain ⟨_, _, _, _, hb⟩ := pull_ok hl ht hv hs hp hw
  have hf := hb.fin (by decide)
  unfold pullV
  by_cases c : fgt (pullW p g xs v sl sp) 0 = true
  · rw [if_pos c]
    by_cases d : fgt (pullW p g xs v sl sp) 4641240890982006784 = true
    · rw [if_pos d]; decide +kernel
    · rw [if_neg d]
      rw [fgt_fin hf (by decide)] at c d
      have c' := of_decide_eq_true c
      have d' : ¬ iv 4641240890982006784 < iv (pullW p g xs v sl sp) := by simpa using d
      unfold spB inR
      rw [fle_fin (by decide) hf, fle_fin hf (by decide)]
      rw [Bool.and_eq_true, decide_eq_true_eq, decide_eq_true_eq]
      omega
  · rw [if_neg c]; decide +kernel
theorem impl_pull_ev {p g : Nat} {xs : List S61} {v sl sp : Nat} (hl : locB p g = true) (ht : trainB xs = true) (hv : spB v = true) (hs : slB sl = true) (hp : spanB sp = true) (hw : ∀ y ∈ xs, y.f0 < 18446744073709551616) : Ev (fun q => impl_pull.f q p g xs v sl sp) (pullV p g xs v sl sp) := by
  obtain ⟨o1, o2, o3, o4, _⟩ := pull_ok hl ht hv hs hp hw
  unfold impl_pull.f
  have hv' : inR v 0 4641240890982006784 = true := hv
  simp only [impl_eff hl hv', Option.bind_some]
  refine Ev.bind (impl_drag_ev ht hv hs) ?_
  simp only [o1, if_true]
  refine Ev.bind (impl_weigh_ev xs ht) ?_
  simp only [o2, o3, o4, if_true]
  unfold pullV pullW
  split
  · split <;> exact ev_some
  · exact ev_some
theorem spec_pull_ev (p g : Nat) (xs : List S61) (hn : xs.length ≤ 2000000) (v sl sp : Nat) (hw : ∀ y ∈ xs, y.f0 < 18446744073709551616) : Ev (fun q => spec_Pull.f q p g xs v sl sp) (if locB p g = true ∧ trainB xs = true ∧ spB v = true ∧ slB sl = true ∧ spanB sp = true then pullV p g xs v sl sp else 0) := by
  unfold spec_Pull.f
  have hno : ∀ r, r = 0 → Ev (fun q => spec_Pull.j0 q xs v sl sp true p g) r := fun r hr => by
    rw [hr]; exact Ev.step (fun k => by rw [spec_Pull.j0]) (by simpa using ev_some)
  simp only [spec_loc, Option.bind_some]
  by_cases hl : locB p g = true
  · simp only [if_pos hl]
    refine Ev.bind (spec_train_ev xs hn) ?_
    by_cases ht : trainB xs = true
    · simp only [if_pos ht, spec_speed, Option.bind_some]
      by_cases hv : spB v = true
      · simp only [if_pos hv, spec_inR, Option.bind_some]
        by_cases hs : slB sl = true
        · have hs' : inR sl 13830554455654793216 4607182418800017408 = true := hs
          simp only [if_pos hs']
          by_cases hp : spanB sp = true
          · have hp' : inR sp 0 4621819117588971520 = true := hp
            simp only [hp', Bool.not_true]
            refine Ev.step (fun k => by rw [spec_Pull.j0]) ?_
            simp only [Bool.false_eq_true, if_false]
            have hv' : inR v 0 4641240890982006784 = true := hv
            have he := spec_eff p g v
            rw [if_pos ⟨hl, hv'⟩] at he
            have hd := spec_drag_ev xs hn v sl
            rw [if_pos ⟨ht, hv, hs⟩] at hd
            have hwe := spec_weigh_ev xs hn hw
            rw [if_pos ht] at hwe
            obtain ⟨o1, o2, o3, o4, _⟩ := pull_ok hl ht hv hs hp hw
            refine Ev.bind he (Ev.bind hd ?_)
            simp only [o1, if_true]
            refine Ev.bind hwe ?_
            simp only [o2, o3, o4, hl, ht, hv, hs, hp, and_self, if_true]
            unfold pullV pullW
            split
            · split <;> exact ev_some
            · exact ev_some
          · have hp' : inR sp 0 4621819117588971520 = false := by simpa [spanB] using hp
            simp only [hp', Bool.not_false]
            exact hno _ (by rw [if_neg (fun h => hp h.2.2.2.2)])
        · have hs' : ¬ inR sl 13830554455654793216 4607182418800017408 = true := hs
          simp only [if_neg hs']
          exact hno _ (by rw [if_neg (fun h => hs h.2.2.2.1)])
      · simp only [if_neg hv]
        exact hno _ (by rw [if_neg (fun h => hv h.2.2.1)])
    · simp only [if_neg ht]
      exact hno _ (by rw [if_neg (fun h => ht h.2.1)])
  · simp only [if_neg hl]
    exact hno _ (by rw [if_neg (fun h => hl h.1)])
theorem wf_f {x : Nat} (h : (Lit.float .f64 x).wf = true) : x < 18446744073709551616 := by
  simpa [Lit.wf] using h
theorem impl_speed (v : Nat) : impl_speedOk.f v = some (spB v) := by
  unfold impl_speedOk.f spB
  rw [impl_inR]; rfl
theorem rdF_at (xs : List Nat) (j : Nat) : rdOf 0 xs (j : Int) = xs.getD j 0 := by unfold rdOf; rw [Int.toNat_natCast]
def rideL (p g : Nat) (xs : List S61) (sp : Nat) : Nat → List Nat → List Nat
  | _, [] => []
  | v, s :: r => pullV p g xs v s sp :: rideL p g xs sp (pullV p g xs v s sp) r
theorem rideL_length (p g : Nat) (xs : List S61) (sp : Nat) : ∀ (r : List Nat) (v : Nat), (rideL p g xs sp v r).length = r.length
  | [], _ => rfl
  | s :: r, v => by simp only [rideL, List.length_cons]; rw [rideL_length p g xs sp r]
theorem impl_ride_loop {p g : Nat} {xs : List S61} {sp : Nat} (hl : locB p g = true) (ht : trainB xs = true) (hp : spanB sp = true) (hw : ∀ y ∈ xs, y.f0 < 18446744073709551616) (ss : List Nat) (hn : ss.length ≤ 200) : ∀ (rest : List Nat) (j v : Nat) (acc : List Nat), ss.drop j = rest → j ≤ ss.length → acc.length = ss.length → spB v = true → rest.all slB = true → Ev (fun q => impl_Ride.l1 q xs v sp acc ss (ss.length : Int) (j : Int) p g) (acc.take j ++ rideL p g xs sp v rest) := by
  intro rest
  induction rest with
  | nil =>
    intro j v acc h hj hla _ _
    have := drop_nil h
    refine Ev.step (fun k => by rw [impl_Ride.l1]) ?_
    simp only [if_neg (show ¬ (j : Int) < (ss.length : Int) by omega), rideL, List.append_nil]
    rw [List.take_of_length_le (by omega)]
    exact ev_some
  | cons s rest ih =>
    intro j v acc h hj hla hv ha
    obtain ⟨h1, h2, h3⟩ := drop_cons h
    rw [List.all_cons, Bool.and_eq_true] at ha
    refine Ev.step (fun k => by rw [impl_Ride.l1]) ?_
    simp only [if_pos (show (j : Int) < (ss.length : Int) by omega), if_pos (show 0 ≤ (j : Int) by omega), nat_w (show j ≤ 9223372036854775806 by omega), rdF_at, h2]
    refine Ev.bind (impl_pull_ev hl ht hv ha.1 hp hw) ?_
    simp only [if_pos (show (j : Int) < (acc.length : Int) by omega), Int.toNat_natCast]
    have hu := pull_spB hl ht hv ha.1 hp hw
    have hi := ih (j + 1) (pullV p g xs v s sp) (acc.set j (pullV p g xs v s sp)) h3 (by omega) (by simpa using hla) hu ha.2
    have e : (acc.set j (pullV p g xs v s sp)).take (j + 1) ++ rideL p g xs sp (pullV p g xs v s sp) rest = acc.take j ++ rideL p g xs sp v (s :: rest) := by
      have e1 : (acc.set j (pullV p g xs v s sp)).take (j + 1) = acc.take j ++ [pullV p g xs v s sp] := by
        rw [List.take_add_one, List.take_set_of_le (Nat.le_refl j), List.getElem?_set_self (by omega)]
        rfl
      rw [e1, List.append_assoc]
      rfl
    rw [e] at hi
    exact hi
theorem impl_slopes_loop {p g : Nat} {xs : List S61} {sp v : Nat} (hl : locB p g = true) (ht : trainB xs = true) (hp : spanB sp = true) (hv : spB v = true) (hw : ∀ y ∈ xs, y.f0 < 18446744073709551616) (ss : List Nat) (hn : ss.length ≤ 200) : ∀ (rest : List Nat) (j : Nat), ss.drop j = rest → j ≤ ss.length → (rest.all slB = true → ss.all slB = true) → Ev (fun q => impl_Ride.l0 q xs v ss sp ss (ss.length : Int) (j : Int) p g) (if rest.all slB = true then rideL p g xs sp v ss else []) := by
  intro rest
  induction rest with
  | nil =>
    intro j h hj hx
    have := drop_nil h
    refine Ev.step (fun k => by rw [impl_Ride.l0]) ?_
    simp only [if_neg (show ¬ (j : Int) < (ss.length : Int) by omega), List.all_nil, if_true, if_pos (show 0 ≤ (ss.length : Int) by omega), if_pos (show ((ss.length : Int)).toNat ≤ 35184372088832 by omega)]
    have h2 := impl_ride_loop hl ht hp hw ss hn ss 0 v (List.replicate ss.length 0) rfl (by omega) (by simp) hv (hx rfl)
    simpa using h2
  | cons s rest ih =>
    intro j h hj hx
    obtain ⟨h1, h2, h3⟩ := drop_cons h
    refine Ev.step (fun k => by rw [impl_Ride.l0]) ?_
    simp only [if_pos (show (j : Int) < (ss.length : Int) by omega), if_pos (show 0 ≤ (j : Int) by omega), nat_w (show j ≤ 9223372036854775806 by omega), rdF_at, h2, impl_slope, Option.bind_some, List.all_cons]
    by_cases hs : slB s = true
    · have := ih (j + 1) h3 (by omega) (fun h => hx (by rw [List.all_cons, hs, h]; rfl))
      simpa [hs] using this
    · have hs' : slB s = false := by simpa using hs
      simpa [hs'] using ev_some
def rideR (p g : Nat) (xs : List S61) (v : Nat) (ss : List Nat) (sp : Nat) : List Nat := if locB p g = true ∧ trainB xs = true ∧ spB v = true ∧ spanB sp = true ∧ ss.length ≤ 200 ∧ ss.all slB = true then rideL p g xs sp v ss else []
theorem rideR_length (p g : Nat) (xs : List S61) (v : Nat) (ss : List Nat) (sp : Nat) : (rideR p g xs v ss sp).length ≤ 200 := by
  unfold rideR
  split
  · rename_i h; rw [rideL_length]; exact h.2.2.2.2.1
  · simp
theorem impl_ride_ev (p g : Nat) (xs : List S61) (hn : xs.length ≤ 2000000) (v : Nat) (ss : List Nat) (sp : Nat) (hw : ∀ y ∈ xs, y.f0 < 18446744073709551616) : Ev (fun q => impl_Ride.f q p g xs v ss sp) (rideR p g xs v ss sp) := by
  unfold impl_Ride.f rideR
  have hno : ∀ r, r = [] → Ev (fun q => impl_Ride.j0 q xs v ss sp true p g) r := fun r hr => by
    rw [hr]; exact Ev.step (fun k => by rw [impl_Ride.j0]) (by simpa using ev_some)
  simp only [impl_loc, Option.bind_some]
  by_cases hl : locB p g = true
  · simp only [if_pos hl]
    refine Ev.bind (impl_train_ev xs hn) ?_
    by_cases ht : trainB xs = true
    · simp only [if_pos ht, impl_speed, Option.bind_some]
      by_cases hv : spB v = true
      · simp only [if_pos hv, impl_span, Option.bind_some]
        by_cases hp : spanB sp = true
        · simp only [if_pos hp]
          by_cases hs : (ss.length : Int) > 200
          · simp only [decide_eq_true hs]
            exact hno _ (by rw [if_neg (fun h => by have := h.2.2.2.2.1; omega)])
          · simp only [decide_eq_false hs]
            refine Ev.step (fun k => by rw [impl_Ride.j0]) ?_
            simp only [Bool.false_eq_true, if_false, hl, ht, hv, hp, true_and, show ss.length ≤ 200 by omega]
            exact impl_slopes_loop hl ht hp hv hw ss (by omega) ss 0 rfl (by omega) id
        · simp only [if_neg hp]
          exact hno _ (by rw [if_neg (fun h => hp h.2.2.2.1)])
      · simp only [if_neg hv]
        exact hno _ (by rw [if_neg (fun h => hv h.2.2.1)])
    · simp only [if_neg ht]
      exact hno _ (by rw [if_neg (fun h => ht h.2.1)])
  · simp only [if_neg hl]
    exact hno _ (by rw [if_neg (fun h => hl h.1)])
theorem impl_Pull_ev (p g : Nat) (xs : List S61) (hn : xs.length ≤ 2000000) (v sl sp : Nat) (hw : ∀ y ∈ xs, y.f0 < 18446744073709551616) : Ev (fun q => impl_Pull.f q p g xs v sl sp) (if locB p g = true ∧ trainB xs = true ∧ spB v = true ∧ slB sl = true ∧ spanB sp = true then pullV p g xs v sl sp else 0) := by
  unfold impl_Pull.f
  simp only [impl_loc, Option.bind_some]
  by_cases hl : locB p g = true
  · simp only [if_pos hl]
    refine Ev.bind (impl_train_ev xs hn) ?_
    simp only [impl_speed, impl_slope, impl_span, Option.bind_some]
    by_cases ht : trainB xs = true
    · by_cases hv : spB v = true
      · by_cases hs : slB sl = true
        · by_cases hp : spanB sp = true
          · simp only [hl, ht, hv, hs, hp, and_self, if_true]
            exact Ev.bind (impl_pull_ev hl ht hv hs hp hw) ev_some
          · simp only [hl, ht, hv, hs, hp, and_false, Bool.false_eq_true, if_true, if_false]; exact ev_some
        · simp only [hl, ht, hv, hs, and_false, false_and, Bool.false_eq_true, if_true, if_false]; exact ev_some
      · simp only [hl, ht, hv, and_false, false_and, Bool.false_eq_true, if_true, if_false]; exact ev_some
    · simp only [hl, ht, and_false, false_and, Bool.false_eq_true, if_false]; exact ev_some
  · simp only [if_neg hl, if_neg (fun h : locB p g = true ∧ _ => hl h.1)]; exact ev_some
theorem fne_self {x : Nat} (h : rg x ≤ 9218868437227405312) : fne x x = false := by
  unfold fne
  rw [dord]
  rcases Nat.lt_or_eq_of_le h with h | h
  · rw [order_fin h h, if_neg (by omega), if_pos rfl]; rfl
  · unfold Ieee.Format.order
    rw [read_inf h]
    cases sg x <;> rfl
theorem at_nonneg (l : List Int) (hl : l.length ≤ 2000000) (hb : ∀ x ∈ l, (Lit.int .u8 x).wf = true) (i : Nat) (hi : i ≤ 1000) : ∃ r, laws_at.f l (i : Int) = some r ∧ 0 ≤ r ∧ r ≤ 255 := by
  unfold laws_at.f
  by_cases c : i < l.length
  · rw [if_pos (show (i : Int) < (l.length : Int) by omega), if_pos (show 0 ≤ (i : Int) by omega), rdI_at]
    have hm : l.getD i 0 ∈ l := by
      rw [List.getD_eq_getElem?_getD, List.getElem?_eq_getElem c]; exact List.getElem_mem c
    have := wf_u8 (hb _ hm)
    rw [w64 (by omega) (by omega)]
    exact ⟨_, rfl, by omega, by omega⟩
  · rw [if_neg (show ¬ (i : Int) < (l.length : Int) by omega)]
    rw [w64 (x := (i : Int) * 11) (by omega) (by omega), w64 (x := (l.length : Int) * 3) (by omega) (by omega), w64 (by omega) (by omega)]
    refine ⟨_, rfl, ?_⟩
    rw [Int.tmod_eq_emod_of_nonneg (by omega)]
    omega
theorem feq_self {x : Nat} (h : rg x ≤ 9218868437227405312) : feq x x = true := by
  have := fne_self h
  unfold fne at this
  unfold feq
  simpa using this
theorem quo_zero_inf {x : Nat} (h : feq x 0 = true) : rg (fval .quo 4607182418800017408 x) ≤ 9218868437227405312 := by
  obtain ⟨hx, hm⟩ := feq_zero h
  obtain ⟨n, f, g1, g2⟩ := read_fin hx
  have hn : n = 0 := by
    rw [hm] at g2
    rcases Nat.mul_eq_zero.mp g2 with c | c
    · exact c
    · have := Nat.two_pow_pos f; omega
  have hd : Ieee.double.div 4607182418800017408 x = some (Ieee.double.word (false ^^ sg x) Ieee.double.infRung) := by
    unfold Ieee.Format.div
    have h1 : Ieee.double.read 4607182418800017408 = .number false 4503599627370496 (-52) := by decide
    rw [h1, g1, hn]
    simp [Ieee.Datum.quotient, Ieee.Format.write]
  obtain ⟨_, h4⟩ := f_of (op := .quo) hd
  rw [h4, dinf, rg_word _ _ (by omega)]
  exact Nat.le_refl _
theorem sameBits_ev (x : Nat) : Ev (fun k => laws_sameBits.f k x x) true := by
  unfold laws_sameBits.f
  cases h : fne x x with
  | true =>
    simp only [if_true]
    refine Ev.step (fun k => by rw [laws_sameBits.j0]) ?_
    simp only [if_true, h]
    exact ev_some
  | false =>
    simp only [Bool.false_eq_true, if_false]
    refine Ev.step (fun k => by rw [laws_sameBits.j0]) ?_
    simp only [Bool.false_eq_true, if_false]
    cases c : feq x 0 with
    | true =>
      simp only [if_true, quo_zero_ok c, feq_self (quo_zero_inf c)]
      exact ev_some
    | false =>
      have e : feq x x = true := by
        unfold fne at h
        unfold feq
        simpa using h
      simp only [Bool.false_eq_true, if_false, e]
      exact ev_some
theorem chk_slopes : (List.range 64).all (fun z => fok .quo (fofint ((z : Int) - 30)) 4643211215818981376 && slB (fval .quo (fofint ((z : Int) - 30)) 4643211215818981376)) = true := by decide +kernel
def endV (p g : Nat) (xs : List S61) (sp : Nat) : Nat → List Nat → Nat
  | v, [] => v
  | v, s :: r => endV p g xs sp (pullV p g xs v s sp) r
theorem rideL_append (p g : Nat) (xs : List S61) (sp : Nat) : ∀ (a b : List Nat) (v : Nat), rideL p g xs sp v (a ++ b) = rideL p g xs sp v a ++ rideL p g xs sp (endV p g xs sp v a) b
  | [], b, v => rfl
  | s :: a, b, v => by
    simp only [List.cons_append, rideL, endV]
    rw [rideL_append p g xs sp a b]
theorem rideL_last (p g : Nat) (xs : List S61) (sp : Nat) : ∀ (a : List Nat) (v : Nat), a ≠ [] → (rideL p g xs sp v a).getD (a.length - 1) 0 = endV p g xs sp v a
  | [], v, h => absurd rfl h
  | [s], v, _ => rfl
  | s :: t :: a, v, _ => by
    have ih := rideL_last p g xs sp (t :: a) (pullV p g xs v s sp) (by simp)
    have e : (s :: t :: a).length - 1 = ((t :: a).length - 1) + 1 := by simp
    rw [e]
    rw [show rideL p g xs sp v (s :: t :: a) = pullV p g xs v s sp :: rideL p g xs sp (pullV p g xs v s sp) (t :: a) from rfl, List.getD_cons_succ, ih]
    rfl
theorem rideL_spB {p g : Nat} {xs : List S61} {sp : Nat} (hl : locB p g = true) (ht : trainB xs = true) (hp : spanB sp = true) (hw : ∀ y ∈ xs, y.f0 < 18446744073709551616) : ∀ (a : List Nat) (v : Nat), spB v = true → a.all slB = true → (∀ y ∈ rideL p g xs sp v a, spB y = true) ∧ spB (endV p g xs sp v a) = true
  | [], v, hv, _ => ⟨fun y hy => (by cases hy), hv⟩
  | s :: a, v, hv, ha => by
    rw [List.all_cons, Bool.and_eq_true] at ha
    have hu := pull_spB hl ht hv ha.1 hp hw
    obtain ⟨h1, h2⟩ := rideL_spB hl ht hp hw a _ hu ha.2
    refine ⟨fun y hy => ?_, h2⟩
    rcases List.mem_cons.mp hy with rfl | hy
    · exact hu
    · exact h1 y hy
theorem pull_zero {p g : Nat} {xs : List S61} {v sl : Nat} (hl : locB p g = true) (ht : trainB xs = true) (hv : spB v = true) (hs : slB sl = true) (hw : ∀ y ∈ xs, y.f0 < 18446744073709551616) : feq (pullV p g xs v sl 0) v = true := by
  have hp : spanB 0 = true := by decide +kernel
  obtain ⟨o1, b1⟩ := f_sub ((eff_B hl hv).mono (show 14 ≤ 104 by decide)) (dragV_B ht hv hs) (by decide)
  obtain ⟨w1, w2⟩ := weighV_B ht hw
  obtain ⟨o2, b2⟩ := f_quo b1 w1 w2 (by decide)
  obtain ⟨o3, b3⟩ := f_mul b2 (spanB_B hp) (by decide)
  obtain ⟨v1, v2⟩ := inR_parts (show inR v 0 4641240890982006784 = true from hv)
  obtain ⟨fv, lv, uv⟩ := between (by decide) (by decide) v1 v2
  rw [iv_zero] at lv
  obtain ⟨_, _, _, _, hB⟩ := pull_ok hl ht hv hs hp hw
  have hf := hB.fin (by decide)
  have e1 := mul_iv (b2.fin (by decide)) (show rg 0 < 9218868437227405312 by decide)
  rw [iv_zero, Int.mul_zero] at e1
  have e0 : rv 1074 0 = 0 := by unfold rv; rw [if_neg (by decide)]; show ((mgr (rn 1074 0) : Nat) : Int) = 0; rw [rn_zero, mgr_zero]; rfl
  rw [e0] at e1
  have e2 := add_iv fv (b3.fin (by decide))
  rw [e1, Int.add_zero, rv_exact fv] at e2
  have e3 : iv (pullW p g xs v sl 0) = iv v := e2
  unfold pullV
  by_cases c : 0 < iv v
  · have c1 : fgt (pullW p g xs v sl 0) 0 = true := by
      rw [fgt_fin hf (by decide), iv_zero, e3]; exact decide_eq_true c
    have c2 : fgt (pullW p g xs v sl 0) 4641240890982006784 = false := by
      rw [fgt_fin hf (by decide), e3]; exact decide_eq_false (by omega)
    rw [if_pos c1, c2]
    simp only [Bool.false_eq_true, if_false]
    rw [feq_fin hf fv, e3]; exact decide_eq_true rfl
  · have c1 : fgt (pullW p g xs v sl 0) 0 = false := by
      rw [fgt_fin hf (by decide), iv_zero, e3]; exact decide_eq_false c
    rw [c1]
    simp only [Bool.false_eq_true, if_false]
    rw [feq_fin (by decide) fv, iv_zero]; exact decide_eq_true (by omega)
section
variable {p g : Nat} {cs : List S61} {v sp : Nat} (hl : locB p g = true) (ht : trainB cs = true) (hv : spB v = true) (hp : spanB sp = true) (hw : ∀ y ∈ cs, y.f0 < 18446744073709551616)
include hl ht hv hp hw
theorem ride_tail (ss : List Nat) (hs : ss.all slB = true) (h2 : 2 ≤ ss.length) (K : Nat) (hK : 1 ≤ K) (hK2 : K < ss.length) (hl40 : ss.length ≤ 200) (d : Nat) : ∀ j : Nat, ss.length - j = d → j ≤ ss.length →
    Ev (fun k => laws_FnRide.l1 k cs v sp ss (rideL p g cs sp v ss) (K : Int) (rideL p g cs sp (endV p g cs sp v (ss.take K)) (ss.drop K)) (rideL p g cs sp v (ss.take K)) (j : Int) p g) true := by
  have hn2 : cs.length ≤ 2000000 := by have := (trainB_parts ht).2.2; omega
  have hall := rideL_length p g cs sp ss v
  have hpart := rideL_length p g cs sp (ss.take K) v
  have hrest := rideL_length p g cs sp (ss.drop K) (endV p g cs sp v (ss.take K))
  rw [List.length_take, Nat.min_eq_left (by omega)] at hpart
  rw [List.length_drop] at hrest
  have happ : rideL p g cs sp v ss = rideL p g cs sp v (ss.take K) ++ rideL p g cs sp (endV p g cs sp v (ss.take K)) (ss.drop K) := by
    rw [← rideL_append, List.take_append_drop]
  have hspb := (rideL_spB hl ht hp hw ss v hv hs).1
  induction d with
  | zero =>
    intro j h0 h1
    obtain rfl : j = ss.length := by omega
    refine Ev.step (fun k => by rw [laws_FnRide.l1]) ?_
    cases ss with
    | nil => simp at h2
    | cons s r =>
      rw [List.all_cons, Bool.and_eq_true] at hs
      have hq := impl_Pull_ev p g cs hn2 v s sp hw
      rw [if_pos ⟨hl, ht, hv, hs.1, hp⟩] at hq
      have hq2 := spec_pull_ev p g cs hn2 v s sp hw
      rw [if_pos ⟨hl, ht, hv, hs.1, hp⟩] at hq2
      have hq3 := impl_Pull_ev p g cs hn2 v s 0 hw
      rw [if_pos ⟨hl, ht, hv, hs.1, (by decide +kernel)⟩] at hq3
      have r0 : rdOf (0 : Nat) (s :: r) 0 = s := rfl
      have r1 : rdOf (0 : Nat) (rideL p g cs sp v (s :: r)) 0 = pullV p g cs v s sp := rfl
      simp only [hall, if_neg (show ¬ (((s :: r).length : Nat) : Int) < (((s :: r).length : Nat) : Int) by omega), if_pos (show 0 < (((s :: r).length : Nat) : Int) by omega), r0, r1]
      refine Ev.bind hq (Ev.bind (sameBits_ev _) ?_)
      simp only [if_true]
      refine Ev.bind hq2 (Ev.bind (sameBits_ev _) ?_)
      simp only [if_true]
      refine Ev.bind hq3 ?_
      rw [pull_zero hl ht hv hs.1 hw]
      exact ev_some
  | succ d ih =>
    intro j h0 h1
    have hgo := ih (j + 1) (by omega) (by omega)
    have hmem : (rideL p g cs sp v ss).getD j 0 ∈ rideL p g cs sp v ss := by
      rw [List.getD_eq_getElem?_getD, List.getElem?_eq_getElem (show j < (rideL p g cs sp v ss).length by omega)]; exact List.getElem_mem _
    have hin := hspb _ hmem
    have hj3 : Ev (fun k => laws_FnRide.j3 k cs v sp ss (rideL p g cs sp v ss) (K : Int) (rideL p g cs sp (endV p g cs sp v (ss.take K)) (ss.drop K)) (rideL p g cs sp v (ss.take K)) (j : Int) ((rideL p g cs sp v ss).getD j 0) p g) true := by
      refine Ev.step (fun k => by rw [laws_FnRide.j3]) ?_
      simp only [hall, if_pos (show 0 ≤ (j : Int) by omega), if_pos (show (j : Int) < (ss.length : Int) by omega), rdF_at, nat_w (show j ≤ 9223372036854775806 by omega)]
      refine Ev.bind (sameBits_ev _) ?_
      have hin2 : inR ((rideL p g cs sp v ss).getD j 0) 0 4641240890982006784 = true := hin
      simp only [if_true, impl_inR, hin2, Option.bind_some]
      exact hgo
    refine Ev.step (fun k => by rw [laws_FnRide.l1]) ?_
    simp only [hall, hpart, hrest, if_pos (show (j : Int) < (ss.length : Int) by omega)]
    by_cases c : j < K
    · have e : (rideL p g cs sp v (ss.take K)).getD j 0 = (rideL p g cs sp v ss).getD j 0 := by
        rw [happ, List.getD_eq_getElem?_getD, List.getD_eq_getElem?_getD, List.getElem?_append_left (by omega)]
      simp only [if_pos (show (j : Int) < (K : Int) by omega), if_pos (show 0 ≤ (j : Int) by omega), rdF_at, e]
      exact hj3
    · have e : (rideL p g cs sp (endV p g cs sp v (ss.take K)) (ss.drop K)).getD (j - K) 0 = (rideL p g cs sp v ss).getD j 0 := by
        rw [happ, List.getD_eq_getElem?_getD, List.getD_eq_getElem?_getD, List.getElem?_append_right (by omega), hpart]
      simp only [if_neg (show ¬ (j : Int) < (K : Int) by omega), w64 (x := (j : Int) - (K : Int)) (by omega) (by omega)]
      rw [show (j : Int) - (K : Int) = ((j - K : Nat) : Int) by omega]
      simp only [if_pos (show 0 ≤ ((j - K : Nat) : Int) by omega), if_pos (show ((j - K : Nat) : Int) < ((ss.length - K : Nat) : Int) by omega), rdF_at, e]
      exact hj3
end
theorem ride_draw {p g : Nat} {cs : List S61} {v sp : Nat} (l : List Int) (hll : l.length ≤ 2000000) (hb : ∀ x ∈ l, (Lit.int .u8 x).wf = true) (m : Nat) (hm : m ≤ 10) (hm1 : ∃ r, laws_at.f l 1 = some r ∧ 0 ≤ r ∧ r ≤ 255 ∧ wrap64 (2 + Int.tmod r 9) = (m : Int))
    (hend : ∀ ss : List Nat, ss.length = m → ss.all slB = true → Ev (fun k => laws_FnRide.l0 k l cs v sp ss (m : Int) p g) true) (d : Nat) : ∀ acc : List Nat, m - acc.length = d → acc.length ≤ m → acc.all slB = true → Ev (fun k => laws_FnRide.l0 k l cs v sp acc (acc.length : Int) p g) true := by
  obtain ⟨r, er, br0, br1, ew⟩ := hm1
  induction d with
  | zero =>
    intro acc h0 h1 ha
    have e : acc.length = m := by omega
    rw [e]
    exact hend acc e ha
  | succ d ih =>
    intro acc h0 h1 ha
    have hac : acc.length ≤ 10 := Nat.le_trans h1 hm
    obtain ⟨q, eq, bq⟩ := at_nonneg l hll hb (acc.length + 2) (Nat.le_trans (Nat.add_le_add_right hac 2) (by decide))
    have hz : 0 ≤ Int.tmod q 64 ∧ Int.tmod q 64 < 64 := by rw [Int.tmod_eq_emod_of_nonneg (by omega)]; omega
    have c1 : ∀ Y : Nat, m - (acc ++ [Y]).length = d := fun Y => by simp; omega
    have c2 : ∀ Y : Nat, (acc ++ [Y]).length ≤ m := fun Y => by simp; omega
    have e2 : wrap64 ((acc.length : Int) + 2) = ((acc.length + 2 : Nat) : Int) := by rw [w64 (by omega) (by omega)]; omega
    have e3 := nat_w (Nat.le_trans hac (show 10 ≤ 9223372036854775806 by decide))
    have e4 : acc.length < 17592186044416 := Nat.lt_of_le_of_lt hac (by decide)
    have e5 : (acc.length : Int) < (m : Int) := Int.ofNat_lt.mpr (Nat.lt_of_sub_pos (by rw [h0]; exact Nat.succ_pos d))
    obtain ⟨Y, hY, hok, hsl⟩ : ∃ Y, fval .quo (fofint (wrap64 (Int.tmod q 64 - 30))) 4643211215818981376 = Y ∧ fok .quo (fofint (wrap64 (Int.tmod q 64 - 30))) 4643211215818981376 = true ∧ slB Y = true := by
      have hw1 := w64 (x := Int.tmod q 64 - 30) (by omega) (by omega)
      obtain ⟨z, ez, hz2, cz⟩ := all_at chk_slopes hz.1 hz.2
      rw [Bool.and_eq_true] at cz
      rw [hw1, ez]
      exact ⟨_, rfl, cz.1, cz.2⟩
    have hgo := ih (acc ++ [Y]) (c1 Y) (c2 Y) (by rw [List.all_append, ha, List.all_cons, hsl]; rfl)
    rw [List.length_append] at hgo
    refine Ev.step (fun k => by rw [laws_FnRide.l0]) ?_
    simp only [er, Option.bind_some, ew, if_pos e5, e2, eq, hok, hY, if_true, if_pos e4, e3]
    exact hgo
theorem FnRide : laws_FnRide.PureR := by
  intro l ⟨_, hb⟩
  refine Ev.rounds ?_
  unfold laws_FnRide.f laws_big.f
  simp only [Option.bind_some, decide_eq_true_eq]
  by_cases h : (l.length : Int) > 1048576
  · simp only [if_pos h]; exact ev_some
  · simp only [if_neg h]
    have hll : l.length ≤ 2000000 := by omega
    obtain ⟨p, g, cs, v, sp, ed, hl, ht, hv, hp, _, hw⟩ := draw_right_pull l hll
    refine Ev.bind ed ?_
    obtain ⟨r, er, br⟩ := at_nonneg l hll hb 1 (by omega)
    have er' : laws_at.f l 1 = some r := er
    have hmod : 0 ≤ Int.tmod r 9 ∧ Int.tmod r 9 ≤ 8 := by rw [Int.tmod_eq_emod_of_nonneg (by omega)]; omega
    obtain ⟨m, hm⟩ : ∃ m : Nat, 2 + Int.tmod r 9 = (m : Int) := ⟨(2 + Int.tmod r 9).toNat, by omega⟩
    have ew : wrap64 (2 + Int.tmod r 9) = (m : Int) := by rw [w64 (by omega) (by omega)]; exact hm
    have hn2 : cs.length ≤ 2000000 := by have := (trainB_parts ht).2.2; omega
    refine ride_draw l hll hb m (by omega) ⟨r, er', br.1, br.2, ew⟩ (fun ss hsl hs => ?_) m [] rfl (by simp) rfl
    refine Ev.step (fun k => by rw [laws_FnRide.l0]) ?_
    have hsp : spanB sp = true := hp
    have hride : ∀ (a : List Nat) (u : Nat), spB u = true → a.length ≤ 200 → a.all slB = true → Ev (fun k => impl_Ride.f k p g cs u a sp) (rideL p g cs sp u a) := fun a u hu ha1 ha2 => by
      have := impl_ride_ev p g cs hn2 u a sp hw
      unfold rideR at this
      rw [if_pos ⟨hl, ht, hu, hsp, ha1, ha2⟩] at this
      exact this
    have hall := rideL_length p g cs sp ss v
    obtain ⟨q, eq, bq⟩ := at_nonneg l hll hb 12 (by omega)
    have eq' : laws_at.f l 12 = some q := eq
    simp only [er', Option.bind_some, ew, hsl, if_neg (Int.lt_irrefl _)]
    refine Ev.bind (hride ss v hv (by omega) hs) ?_
    simp only [eq', Option.bind_some, hall, hsl, w64 (x := (m : Int) - 1) (by omega) (by omega), if_neg (show ¬ (m : Int) - 1 = 0 by omega), if_true]
    have hk : 0 ≤ Int.tmod q ((m : Int) - 1) ∧ Int.tmod q ((m : Int) - 1) < (m : Int) - 1 := by
      rw [Int.tmod_eq_emod_of_nonneg (by omega)]
      exact ⟨Int.emod_nonneg _ (by omega), Int.emod_lt_of_pos _ (by omega)⟩
    obtain ⟨K, hK⟩ : ∃ K : Nat, 1 + Int.tmod q ((m : Int) - 1) = (K : Int) := ⟨(1 + Int.tmod q ((m : Int) - 1)).toNat, by omega⟩
    have hK1 : 1 ≤ K := by omega
    have hK2 : K < m := by omega
    simp only [hK, w64 (x := (K : Int)) (by omega) (by omega), w64 (x := (K : Int) - 1) (by omega) (by omega), w64 (x := (m : Int) - (K : Int)) (by omega) (by omega), if_pos (show 0 ≤ (K : Int) - 1 by omega), if_pos (show (K : Int) - 1 < (m : Int) by omega), if_pos (show 0 ≤ (K : Int) by omega), if_pos (show (K : Int) ≤ (m : Int) by omega), Int.toNat_natCast]
    have htk : (ss.take K).all slB = true := List.all_eq_true.mpr (fun y hy => List.all_eq_true.mp hs y (List.mem_of_mem_take hy))
    have hdk : (ss.drop K).all slB = true := List.all_eq_true.mpr (fun y hy => List.all_eq_true.mp hs y (List.mem_of_mem_drop hy))
    have hne : ss.take K ≠ [] := by intro c; have := congrArg List.length c; rw [List.length_take, List.length_nil] at this; omega
    have hlast := rideL_last p g cs sp (ss.take K) v hne
    have htl : (ss.take K).length = K := by rw [List.length_take]; omega
    have hpl := rideL_length p g cs sp (ss.take K) v
    rw [htl] at hpl hlast
    have happ : rideL p g cs sp v ss = rideL p g cs sp v (ss.take K) ++ rideL p g cs sp (endV p g cs sp v (ss.take K)) (ss.drop K) := by
      rw [← rideL_append, List.take_append_drop]
    have hat : rdOf (0 : Nat) (rideL p g cs sp v ss) ((K : Int) - 1) = endV p g cs sp v (ss.take K) := by
      rw [show (K : Int) - 1 = ((K - 1 : Nat) : Int) by omega, rdF_at, happ, List.getD_eq_getElem?_getD, List.getElem?_append_left (by omega), ← List.getD_eq_getElem?_getD]
      exact hlast
    have hend := (rideL_spB hl ht hsp hw (ss.take K) v hv htk).2
    have hrl := rideL_length p g cs sp (ss.drop K) (endV p g cs sp v (ss.take K))
    rw [List.length_drop, hsl] at hrl
    rw [hat]
    refine Ev.bind (hride (ss.drop K) _ hend (by rw [List.length_drop]; omega) hdk) (Ev.bind (hride (ss.take K) v hv (by omega) htk) ?_)
    simp only [hrl, hpl, if_pos (show ((m - K : Nat) : Int) = (m : Int) - (K : Int) by omega), bne_self_eq_false]
    refine Ev.step (fun k => by rw [laws_FnRide.j1]) ?_
    simp only [Bool.false_eq_true, if_false]
    exact ride_tail hl ht hv hsp hw ss hs (by omega) K hK1 (by omega) (by omega) ss.length 0 (by omega) (by omega)

end Go.Proofs.Ytmbonjljbienkaa.Pure
