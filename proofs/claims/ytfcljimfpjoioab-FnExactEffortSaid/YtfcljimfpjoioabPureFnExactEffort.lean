/- The program's Effort returns what the reference's returns, for all engines and speeds. -/
import Derived.Test.YtfcljimfpjoioabRowFnExactEffort
namespace Go.Proofs.Ytfcljimfpjoioab.Pure
open Go.RowKit Go.Proofs.Ytfcljimfpjoioab.PFnExactEffort Go.Proofs.YtfcljimfpjoioabW.PrintWords Go.Proofs.YtfcljimfpjoioabW.PrintLast Go.Proofs.YtfcljimfpjoioabW.PrintMore
set_option linter.unusedVariables false
set_option linter.unusedSimpArgs false
theorem w64 {x : Int} (h0 : -9223372036854775808 ≤ x) (h1 : x ≤ 9223372036854775807) : wrap64 x = x := by unfold wrap64; omega
theorem ev_k {α : Type} {g : Nat → Option α} {r : α} (h : ∀ k, g k = some r) : Ev g r := ⟨0, fun k _ => h k⟩
theorem ev_some {α : Type} {r : α} : Ev (fun _ => some r) r := Ev.now r
theorem wf_i64 {x : Int} (h : (Lit.int .i64 x).wf = true) : -9223372036854775808 ≤ x ∧ x ≤ 9223372036854775807 := by
  simp only [Lit.wf, Bool.and_eq_true, decide_eq_true_eq] at h
  have h1 : IntKind.min .i64 = -9223372036854775808 := by decide
  have h2 : IntKind.max .i64 = 9223372036854775807 := by decide
  omega
theorem wf_u8 {x : Int} (h : (Lit.int .u8 x).wf = true) : 0 ≤ x ∧ x ≤ 255 := by
  simp only [Lit.wf, Bool.and_eq_true, decide_eq_true_eq] at h
  have h1 : IntKind.min .u8 = 0 := by decide
  have h2 : IntKind.max .u8 = 255 := by decide
  omega
/-! Float64 words as numbers: the sign, the rung, the magnitude in units of the least place; rounding. -/
theorem dsw : Ieee.double.signWeight = 9223372036854775808 := by decide
theorem dbn : Ieee.double.binade = 4503599627370496 := by decide
theorem dinf : Ieee.double.infRung = 9218868437227405312 := by decide
theorem dlp : Ieee.double.leastPlace = -1074 := by decide
def rg (x : Nat) : Nat := x % 9223372036854775808
def sg (x : Nat) : Bool := x / 9223372036854775808 % 2 == 1
def mgr (r : Nat) : Nat := if r < 4503599627370496 then r else (4503599627370496 + r % 4503599627370496) * 2 ^ (r / 4503599627370496 - 1)
def rne (n g : Nat) : Nat := n / g + (if g < 2 * (n % g) ∨ (g = 2 * (n % g) ∧ n / g % 2 = 1) then 1 else 0)
def rn (t v : Nat) : Nat := if v = 0 then 0 else min ((v.log2 - (t + 52)) * 4503599627370496 + rne v (2 ^ (t + (v.log2 - (t + 52))))) 9218868437227405312
theorem rne_mono {a b g : Nat} (h : a ≤ b) : rne a g ≤ rne b g := by
  rcases Nat.eq_zero_or_pos g with rfl | hg
  · unfold rne; simp; split <;> split <;> omega
  have h1 : a / g ≤ b / g := Nat.div_le_div_right h
  have ha := Nat.div_add_mod a g
  have hb := Nat.div_add_mod b g
  unfold rne
  rcases Nat.lt_or_eq_of_le h1 with h2 | h2
  · split <;> split <;> omega
  · rw [h2] at ha ⊢
    have : a % g ≤ b % g := by omega
    split
    · rename_i c
      rw [if_pos]
      · omega
      · rcases c with c | c
        · left; omega
        · rcases Nat.lt_or_eq_of_le this with h3 | h3
          · left; omega
          · right; exact ⟨by omega, c.2⟩
    · split <;> omega
theorem rne_mul (k g : Nat) (hg : 0 < g) : rne (k * g) g = k := by
  unfold rne
  rw [Nat.mul_div_cancel k hg, Nat.mul_mod_left, if_neg (by omega)]; rfl
theorem rne_scale (n g c : Nat) (hc : 0 < c) : rne (n * c) (g * c) = rne n g := by
  unfold rne
  rw [Nat.mul_div_mul_right n g hc, Nat.mul_mod_mul_right]
  have e1 : g * c < 2 * (n % g * c) ↔ g < 2 * (n % g) := by
    rw [← Nat.mul_assoc]; exact Nat.mul_lt_mul_right hc
  have e2 : g * c = 2 * (n % g * c) ↔ g = 2 * (n % g) := by
    rw [← Nat.mul_assoc]; exact Nat.mul_left_inj (by omega)
  simp only [e1, e2]
theorem cut_rne (neg : Bool) (n d : Nat) : Ieee.Toward.even.cut neg n d = rne n (2 ^ d) := by
  have hs : ∀ k, 1 <<< k = 2 ^ k := fun k => by rw [Nat.shiftLeft_eq, Nat.one_mul]
  have key : ∀ g, (n / g + (decide (g < 2 * (n % g)) || (g == 2 * (n % g) && n / g % 2 == 1)).toNat) = rne n g := by
    intro g
    unfold rne
    congr 1
    by_cases c : g < 2 * (n % g) ∨ (g = 2 * (n % g) ∧ n / g % 2 = 1)
    · rw [if_pos c]
      have : (decide (g < 2 * (n % g)) || (g == 2 * (n % g) && n / g % 2 == 1)) = true := by simpa using c
      rw [this]; rfl
    · rw [if_neg c]
      have : (decide (g < 2 * (n % g)) || (g == 2 * (n % g) && n / g % 2 == 1)) = false := by
        rw [Bool.eq_false_iff]; intro h; exact c (by simpa using h)
      rw [this]; rfl
  unfold Ieee.Toward.cut
  simp only [hs]
  rw [key]
  by_cases c : d ≤ n.log2 + 2
  · rw [Nat.min_eq_left c]
  · rw [Nat.min_eq_right (by omega)]
    have hl : n < 2 ^ (n.log2 + 1) := Nat.lt_log2_self
    have small : ∀ k, n.log2 + 2 ≤ k → rne n (2 ^ k) = 0 := by
      intro k hk
      have h1 : 2 ^ (n.log2 + 2) ≤ 2 ^ k := Nat.pow_le_pow_right (by omega) hk
      have h2 : 2 ^ (n.log2 + 2) = 2 ^ (n.log2 + 1) * 2 := Nat.pow_succ ..
      unfold rne
      rw [Nat.div_eq_of_lt (by omega), Nat.mod_eq_of_lt (by omega), if_neg (by omega)]
    rw [small _ (Nat.le_refl _), small _ (by omega)]
theorem log2_shift (m s : Nat) (h : m ≠ 0) : (m * 2 ^ s).log2 = m.log2 + s := by
  have hp : 0 < 2 ^ s := Nat.two_pow_pos s
  have h0 : m * 2 ^ s ≠ 0 := Nat.mul_ne_zero h (by omega)
  apply Nat.le_antisymm
  · have : (m * 2 ^ s).log2 < m.log2 + s + 1 := by
      rw [Nat.log2_lt h0, show m.log2 + s + 1 = (m.log2 + 1) + s by omega, Nat.pow_add]
      exact Nat.mul_lt_mul_of_pos_right Nat.lt_log2_self hp
    omega
  · rw [Nat.le_log2 h0, Nat.pow_add]
    exact Nat.mul_le_mul_right _ (Nat.log2_self_le h)
theorem nearest_rn (neg : Bool) (mag t s : Nat) : Ieee.double.nearest neg mag (-1074 - (t : Int) + (s : Int)) = Ieee.double.word neg (rn t (mag * 2 ^ s)) := by
  unfold Ieee.Format.nearest rn
  have hp : 0 < 2 ^ s := Nat.two_pow_pos s
  by_cases c : mag = 0
  · simp [c]
  · have h0 : mag * 2 ^ s ≠ 0 := Nat.mul_ne_zero c (by omega)
    rw [if_neg c, if_neg h0, log2_shift mag s c, dlp, dbn, dinf]
    have hfb : (Ieee.double.fractionBits : Int) = 52 := rfl
    rw [hfb]
    have hlast : max (-1074 - (t : Int) + (s : Int) + (mag.log2 : Int) - 52) (-1074) = -1074 + ((mag.log2 + s - (t + 52) : Nat) : Int) := by omega
    simp only [hlast]
    generalize hq : mag.log2 + s - (t + 52) = q
    rw [show (-1074 + (q : Int) - -1074).toNat = q by omega]
    congr 3
    rw [cut_rne, Nat.shiftLeft_eq]
    by_cases d : t + q ≤ s
    · rw [show (-1074 - (t : Int) + (s : Int) - (-1074 + (q : Int))).toNat = s - (t + q) by omega, show (-1074 + (q : Int) - (-1074 - (t : Int) + (s : Int))).toNat = 0 by omega]
      have e : 2 ^ s = 2 ^ (s - (t + q)) * 2 ^ (t + q) := by rw [← Nat.pow_add]; congr 1; omega
      rw [e, ← Nat.mul_assoc, rne_mul _ _ (Nat.two_pow_pos _)]
      have := rne_mul (mag * 2 ^ (s - (t + q))) 1 (by omega)
      rw [Nat.mul_one] at this
      rw [Nat.pow_zero, this]
    · rw [show (-1074 - (t : Int) + (s : Int) - (-1074 + (q : Int))).toNat = 0 by omega, show (-1074 + (q : Int) - (-1074 - (t : Int) + (s : Int))).toNat = t + q - s by omega]
      have e : 2 ^ (t + q) = 2 ^ (t + q - s) * 2 ^ s := by rw [← Nat.pow_add]; congr 1; omega
      rw [e, rne_scale _ _ _ hp, Nat.pow_zero, Nat.mul_one]
theorem rne_le_of (n g b : Nat) (hg : 0 < g) (h : n ≤ b * g) : rne n g ≤ b := by
  have := rne_mono (g := g) h
  rwa [rne_mul b g hg] at this
theorem le_rne_of (n g b : Nat) (hg : 0 < g) (h : b * g ≤ n) : b ≤ rne n g := by
  have := rne_mono (g := g) h
  rwa [rne_mul b g hg] at this
/-- The part of a magnitude that is kept lies in its binade. -/
theorem kept_le (t v : Nat) : rne v (2 ^ (t + (v.log2 - (t + 52)))) ≤ 9007199254740992 := by
  apply rne_le_of _ _ _ (Nat.two_pow_pos _)
  have h1 : v < 2 ^ (v.log2 + 1) := Nat.lt_log2_self
  have h2 : 2 ^ (v.log2 + 1) ≤ 2 ^ (53 + (t + (v.log2 - (t + 52)))) := Nat.pow_le_pow_right (by omega) (by omega)
  have h3 : (2 : Nat) ^ 53 = 9007199254740992 := by decide
  rw [Nat.pow_add 2 53, h3] at h2
  omega
theorem le_kept (t v : Nat) (h : v ≠ 0) (hq : 0 < v.log2 - (t + 52)) : 4503599627370496 ≤ rne v (2 ^ (t + (v.log2 - (t + 52)))) := by
  apply le_rne_of _ _ _ (Nat.two_pow_pos _)
  have h1 : 2 ^ v.log2 ≤ v := Nat.log2_self_le h
  have h2 : 2 ^ v.log2 = 2 ^ (52 + (t + (v.log2 - (t + 52)))) := by congr 1; omega
  have h3 : (2 : Nat) ^ 52 = 4503599627370496 := by decide
  rw [h2, Nat.pow_add 2 52, h3] at h1
  exact h1
theorem rn_mono {t a b : Nat} (h : a ≤ b) : rn t a ≤ rn t b := by
  unfold rn
  by_cases ca : a = 0
  · rw [if_pos ca]; exact Nat.zero_le _
  · have cb : b ≠ 0 := by omega
    rw [if_neg ca, if_neg cb]
    have hl : a.log2 ≤ b.log2 := by
      rw [Nat.le_log2 cb]
      exact Nat.le_trans (Nat.log2_self_le ca) h
    generalize hq : a.log2 - (t + 52) = q
    generalize hr : b.log2 - (t + 52) = r
    have hle : q ≤ r := by omega
    rcases Nat.lt_or_eq_of_le hle with hlt | heq
    · have h1 := kept_le t a
      have h2 := le_kept t b cb (by omega)
      rw [hq] at h1
      rw [hr] at h2
      clear hq hr hl hle h
      omega
    · subst heq
      have h1 := rne_mono (g := 2 ^ (t + q)) h
      clear hq hr hl hle h
      omega
theorem mgr_pos {r : Nat} (h : 0 < r) : 0 < mgr r := by
  unfold mgr
  split
  · exact h
  · exact Nat.mul_pos (by omega) (Nat.two_pow_pos _)
/-- What stands exactly on a rung is rounded to that rung. -/
theorem rn_exact (t r : Nat) (h : r ≤ 9218868437227405312) : rn t (mgr r * 2 ^ t) = r := by
  have hp : 0 < 2 ^ t := Nat.two_pow_pos t
  unfold rn
  by_cases c0 : r = 0
  · subst c0; simp [mgr]
  have hm := mgr_pos (Nat.pos_of_ne_zero c0)
  rw [if_neg (Nat.mul_ne_zero (by omega) (by omega)), log2_shift _ _ (by omega)]
  unfold mgr at hm ⊢
  by_cases c : r < 4503599627370496
  · rw [if_pos c]
    have hl : r.log2 < 52 := by rw [Nat.log2_lt c0]; exact Nat.lt_of_lt_of_eq c (by decide)
    rw [show r.log2 + t - (t + 52) = 0 by omega, Nat.add_zero, rne_mul _ _ hp]
    omega
  · rw [if_neg c]
    have h53 : (2 : Nat) ^ 53 = 9007199254740992 := by decide
    have h52 : (2 : Nat) ^ 52 = 4503599627370496 := by decide
    have hl : (4503599627370496 + r % 4503599627370496).log2 = 52 := by
      have a1 : (4503599627370496 + r % 4503599627370496).log2 < 53 := by
        rw [Nat.log2_lt (by omega), h53]; omega
      have a2 : 52 ≤ (4503599627370496 + r % 4503599627370496).log2 := by
        rw [Nat.le_log2 (by omega), h52]; omega
      omega
    rw [log2_shift _ _ (by omega), hl, show 52 + (r / 4503599627370496 - 1) + t - (t + 52) = r / 4503599627370496 - 1 by omega]
    rw [Nat.mul_assoc, ← Nat.pow_add, Nat.add_comm (r / 4503599627370496 - 1) t, rne_mul _ _ (Nat.two_pow_pos _)]
    have := Nat.div_add_mod r 4503599627370496
    omega
theorem rn_le (t v r : Nat) (hr : r ≤ 9218868437227405312) (h : v ≤ mgr r * 2 ^ t) : rn t v ≤ r := by
  have := rn_mono (t := t) h
  rwa [rn_exact t r hr] at this
theorem le_rn (t v r : Nat) (hr : r ≤ 9218868437227405312) (h : mgr r * 2 ^ t ≤ v) : r ≤ rn t v := by
  have := rn_mono (t := t) h
  rwa [rn_exact t r hr] at this
theorem mgr_mono {a b : Nat} (h : a ≤ b) : mgr a ≤ mgr b := by
  unfold mgr
  by_cases ca : a < 4503599627370496
  · by_cases cb : b < 4503599627370496
    · rw [if_pos ca, if_pos cb]; exact h
    · rw [if_pos ca, if_neg cb]
      have h1 : (4503599627370496 + b % 4503599627370496) * 1 ≤ (4503599627370496 + b % 4503599627370496) * 2 ^ (b / 4503599627370496 - 1) := Nat.mul_le_mul_left _ (Nat.two_pow_pos _)
      omega
  · rw [if_neg ca, if_neg (show ¬ b < 4503599627370496 by omega)]
    rcases Nat.lt_or_eq_of_le (show a / 4503599627370496 ≤ b / 4503599627370496 by omega) with h1 | h1
    · have e : 2 ^ (b / 4503599627370496 - 1) = 2 ^ (b / 4503599627370496 - a / 4503599627370496 - 1) * (2 * 2 ^ (a / 4503599627370496 - 1)) := by
        rw [← Nat.mul_assoc, ← Nat.pow_succ, ← Nat.pow_add]; congr 1; omega
      have h2 : (4503599627370496 + a % 4503599627370496) * 2 ^ (a / 4503599627370496 - 1) ≤ 4503599627370496 * 2 * 2 ^ (a / 4503599627370496 - 1) := Nat.mul_le_mul_right _ (by omega)
      have h3 : 4503599627370496 * (2 * 2 ^ (a / 4503599627370496 - 1)) ≤ (4503599627370496 + b % 4503599627370496) * (2 * 2 ^ (a / 4503599627370496 - 1)) := Nat.mul_le_mul_right _ (by omega)
      have h4 : (4503599627370496 + b % 4503599627370496) * (1 * (2 * 2 ^ (a / 4503599627370496 - 1))) ≤ (4503599627370496 + b % 4503599627370496) * (2 ^ (b / 4503599627370496 - a / 4503599627370496 - 1) * (2 * 2 ^ (a / 4503599627370496 - 1))) := Nat.mul_le_mul_left _ (Nat.mul_le_mul_right _ (Nat.two_pow_pos _))
      rw [e]
      rw [Nat.one_mul] at h4
      rw [Nat.mul_assoc] at h2
      omega
    · rw [h1]
      exact Nat.mul_le_mul_right _ (by omega)
theorem mgr_lt {a b : Nat} (hb : b ≤ 9218868437227405312) (h : a < b) : mgr a < mgr b := by
  rcases Nat.lt_or_ge (mgr a) (mgr b) with h1 | h1
  · exact h1
  · have e := rn_exact 0 a (by omega)
    have f := rn_exact 0 b hb
    have := rn_mono (t := 0) (show mgr b * 2 ^ 0 ≤ mgr a * 2 ^ 0 by omega)
    omega
theorem rg_le_of_mgr {a b : Nat} (ha : a ≤ 9218868437227405312) (h : mgr a ≤ mgr b) : a ≤ b := by
  rcases Nat.lt_or_ge b a with h1 | h1
  · have := mgr_lt ha h1; omega
  · exact h1
theorem read_fin {x : Nat} (h : rg x < 9218868437227405312) : ∃ (m e : Nat), Ieee.double.read x = .number (sg x) m (-1074 + (e : Int)) ∧ m * 2 ^ e = mgr (rg x) := by
  unfold rg at h
  unfold Ieee.Format.read mgr rg sg
  simp only [dsw, dbn, dinf, dlp]
  by_cases c : x % 9223372036854775808 < 4503599627370496
  · rw [if_pos c, if_pos c]
    exact ⟨x % 9223372036854775808, 0, by simp, by simp⟩
  · rw [if_neg c, if_pos h, if_neg c]
    exact ⟨_, _, rfl, rfl⟩
theorem read_inf {x : Nat} (h : rg x = 9218868437227405312) : Ieee.double.read x = .infinity (sg x) := by
  unfold rg at h
  unfold Ieee.Format.read sg
  simp only [dsw, dbn, dinf, dlp]
  rw [if_neg (by omega), if_neg (by omega), if_pos h]
theorem read_nan {x : Nat} (h : 9218868437227405312 < rg x) : ∃ n, Ieee.double.read x = .nan (sg x) n := by
  unfold rg at h
  unfold Ieee.Format.read sg
  simp only [dsw, dbn, dinf, dlp]
  rw [if_neg (by omega), if_neg (by omega), if_neg (by omega)]
  exact ⟨_, rfl⟩
theorem rg_word (s : Bool) (r : Nat) (h : r < 9223372036854775808) : rg (Ieee.double.word s r) = r := by
  unfold rg Ieee.Format.word
  rw [dsw]
  cases s <;> simp <;> omega
theorem sg_word (s : Bool) (r : Nat) (h : r < 9223372036854775808) : sg (Ieee.double.word s r) = s := by
  unfold sg Ieee.Format.word
  rw [dsw]
  cases s
  · simp; omega
  · simp; omega
theorem rn_le_inf (t v : Nat) : rn t v ≤ 9218868437227405312 := by
  unfold rn; split <;> omega
def iv (x : Nat) : Int := if sg x = true then -(mgr (rg x) : Int) else (mgr (rg x) : Int)
theorem iv_abs (x : Nat) : (iv x).natAbs = mgr (rg x) := by
  unfold iv; split <;> simp
theorem signed_pow (s : Bool) (m e b : Nat) (h : b ≤ e) : Ieee.signed s m (e - b) * (2 ^ b : Nat) = if s = true then -((m * 2 ^ e : Nat) : Int) else ((m * 2 ^ e : Nat) : Int) := by
  have e1 : (m <<< (e - b)) * 2 ^ b = m * 2 ^ e := by
    rw [Nat.shiftLeft_eq, Nat.mul_assoc, ← Nat.pow_add]; congr 2; omega
  unfold Ieee.signed
  cases s
  · simp only [Bool.false_eq_true, if_false]
    rw [← Int.natCast_mul, e1]
  · simp only [if_true]
    rw [Int.neg_mul, ← Int.natCast_mul, e1]
theorem fin_iv {x m e : Nat} (h : m * 2 ^ e = mgr (rg x)) : (if sg x = true then -((m * 2 ^ e : Nat) : Int) else ((m * 2 ^ e : Nat) : Int)) = iv x := by
  rw [h]; rfl
theorem pow_pos' (b : Nat) : (0 : Int) < ((2 ^ b : Nat) : Int) := by have := Nat.two_pow_pos b; omega
theorem natAbs_mul_pow (a : Int) (b : Nat) : a.natAbs * 2 ^ b = (a * ((2 ^ b : Nat) : Int)).natAbs := by
  rw [Int.natAbs_mul, Int.natAbs_natCast]
theorem sum_num (sx sy : Bool) (m n e f : Nat) (X Y : Int) (hX : (if sx = true then -((m * 2 ^ e : Nat) : Int) else ((m * 2 ^ e : Nat) : Int)) = X) (hY : (if sy = true then -((n * 2 ^ f : Nat) : Int) else ((n * 2 ^ f : Nat) : Int)) = Y) :
    ((Ieee.Datum.number sx m (-1074 + (e : Int))).sum (.number sy n (-1074 + (f : Int)))).map Ieee.double.write = some (Ieee.double.word (if X + Y = 0 then sx && sy else decide (X + Y < 0)) (rn 0 (X + Y).natAbs)) := by
  simp only [Ieee.Datum.sum, Option.map_some, Ieee.Format.write]
  have hb : min (-1074 + (e : Int)) (-1074 + (f : Int)) = -1074 - ((0 : Nat) : Int) + ((min e f : Nat) : Int) := by omega
  rw [hb, nearest_rn]
  have h1 : (-1074 + (e : Int) - (-1074 - ((0 : Nat) : Int) + ((min e f : Nat) : Int))).toNat = e - min e f := by omega
  have h2 : (-1074 + (f : Int) - (-1074 - ((0 : Nat) : Int) + ((min e f : Nat) : Int))).toNat = f - min e f := by omega
  rw [h1, h2]
  have p1 := signed_pow sx m e (min e f) (Nat.min_le_left _ _)
  have p2 := signed_pow sy n f (min e f) (Nat.min_le_right _ _)
  rw [hX] at p1
  rw [hY] at p2
  have hp := pow_pos' (min e f)
  generalize Ieee.signed sx m (e - min e f) = S at p1 ⊢
  generalize Ieee.signed sy n (f - min e f) = T at p2 ⊢
  have hsum : (S + T) * ((2 ^ min e f : Nat) : Int) = X + Y := by rw [Int.add_mul, p1, p2]
  rw [natAbs_mul_pow, hsum]
  have z : S + T = 0 ↔ X + Y = 0 := by
    rw [← hsum]
    constructor
    · intro h; rw [h, Int.zero_mul]
    · intro h
      rcases Int.mul_eq_zero.mp h with h | h
      · exact h
      · omega
  have l : S + T < 0 ↔ X + Y < 0 := by
    rw [← hsum]
    constructor
    · intro h; exact Int.mul_neg_of_neg_of_pos h hp
    · intro h
      rcases Int.lt_or_le (S + T) 0 with h3 | h3
      · exact h3
      · have := Int.mul_nonneg h3 (Int.le_of_lt hp); omega
  by_cases c : X + Y = 0
  · rw [if_pos c, if_pos (z.mpr c)]
  · rw [if_neg c, if_neg (fun h => c (z.mp h)), decide_eq_decide.mpr l]
theorem add_fin {x y : Nat} (hx : rg x < 9218868437227405312) (hy : rg y < 9218868437227405312) : Ieee.double.add x y = some (Ieee.double.word (if iv x + iv y = 0 then sg x && sg y else decide (iv x + iv y < 0)) (rn 0 (iv x + iv y).natAbs)) := by
  obtain ⟨m, e, h1, h2⟩ := read_fin hx
  obtain ⟨n, f, h3, h4⟩ := read_fin hy
  unfold Ieee.Format.add
  rw [h1, h3]
  exact sum_num _ _ m n e f _ _ (fin_iv h2) (fin_iv h4)
theorem sub_fin {x y : Nat} (hx : rg x < 9218868437227405312) (hy : rg y < 9218868437227405312) : Ieee.double.sub x y = some (Ieee.double.word (if iv x - iv y = 0 then sg x && !sg y else decide (iv x - iv y < 0)) (rn 0 (iv x - iv y).natAbs)) := by
  obtain ⟨m, e, h1, h2⟩ := read_fin hx
  obtain ⟨n, f, h3, h4⟩ := read_fin hy
  unfold Ieee.Format.sub
  rw [h1, h3]
  have := sum_num (sg x) (!sg y) m n e f (iv x) (-iv y) (fin_iv h2) (by rw [h4]; unfold iv; cases sg y <;> simp)
  rw [← Int.sub_eq_add_neg] at this
  exact this
theorem mul_fin {x y : Nat} (hx : rg x < 9218868437227405312) (hy : rg y < 9218868437227405312) : Ieee.double.mul x y = some (Ieee.double.word (sg x ^^ sg y) (rn 1074 (mgr (rg x) * mgr (rg y)))) := by
  obtain ⟨m, e, h1, h2⟩ := read_fin hx
  obtain ⟨n, f, h3, h4⟩ := read_fin hy
  unfold Ieee.Format.mul
  rw [h1, h3]
  simp only [Ieee.Datum.product, Option.map_some, Ieee.Format.write]
  have hb : (-1074 + (e : Int)) + (-1074 + (f : Int)) = -1074 - ((1074 : Nat) : Int) + ((e + f : Nat) : Int) := by omega
  rw [hb, nearest_rn, ← h2, ← h4]
  congr 3
  rw [Nat.pow_add]
  simp only [Nat.mul_assoc, Nat.mul_left_comm]
theorem order_fin {x y : Nat} (hx : rg x < 9218868437227405312) (hy : rg y < 9218868437227405312) : Ieee.double.order x y = some (if iv x < iv y then .lt else if iv x = iv y then .eq else .gt) := by
  obtain ⟨m, e, h1, h2⟩ := read_fin hx
  obtain ⟨n, f, h3, h4⟩ := read_fin hy
  unfold Ieee.Format.order
  rw [h1, h3]
  simp only [Ieee.Datum.order]
  have hb : min (-1074 + (e : Int)) (-1074 + (f : Int)) = -1074 + ((min e f : Nat) : Int) := by omega
  rw [hb]
  have g1 : (-1074 + (e : Int) - (-1074 + ((min e f : Nat) : Int))).toNat = e - min e f := by omega
  have g2 : (-1074 + (f : Int) - (-1074 + ((min e f : Nat) : Int))).toNat = f - min e f := by omega
  rw [g1, g2]
  have p1 := signed_pow (sg x) m e (min e f) (Nat.min_le_left _ _)
  have p2 := signed_pow (sg y) n f (min e f) (Nat.min_le_right _ _)
  rw [fin_iv h2] at p1
  rw [fin_iv h4] at p2
  have hp := pow_pos' (min e f)
  generalize Ieee.signed (sg x) m (e - min e f) = S at p1 ⊢
  generalize Ieee.signed (sg y) n (f - min e f) = T at p2 ⊢
  have l : S < T ↔ iv x < iv y := by
    rw [← p1, ← p2]; exact (Int.mul_lt_mul_right hp).symm
  have q : S = T ↔ iv x = iv y := by
    rw [← p1, ← p2]; exact (Int.mul_eq_mul_right_iff (by omega)).symm
  show some (if S < T then Ordering.lt else if S = T then .eq else .gt) = _
  simp only [l, q]
/-- A number of at most 2^k. -/
def B (k x : Nat) : Prop := rg x ≤ (k + 1023) * 4503599627370496
instance (k x : Nat) : Decidable (B k x) := inferInstanceAs (Decidable (_ ≤ _))
theorem pow_split (k : Nat) : 4503599627370496 * 2 ^ (k + 1022) = 2 ^ (k + 1074) := by
  have e : 52 + (k + 1022) = k + 1074 := by omega
  have h52 : (2 : Nat) ^ 52 = 4503599627370496 := by decide
  have h := (Nat.pow_add 2 52 (k + 1022)).symm
  rw [h52] at h
  rw [h, e]
theorem mgr_pow (k : Nat) : mgr ((k + 1023) * 4503599627370496) = 2 ^ (k + 1074) := by
  rw [← pow_split]
  unfold mgr
  have h1 : ¬ (k + 1023) * 4503599627370496 < 4503599627370496 := by omega
  have h2 : (k + 1023) * 4503599627370496 % 4503599627370496 = 0 := by omega
  have h3 : (k + 1023) * 4503599627370496 / 4503599627370496 - 1 = k + 1022 := by omega
  rw [if_neg h1, h2, h3]
theorem B.mgr {k x : Nat} (h : B k x) : mgr (rg x) ≤ 2 ^ (k + 1074) := by
  rw [← mgr_pow]; exact mgr_mono h
theorem B.fin {k x : Nat} (h : B k x) (hk : k ≤ 1023) : rg x < 9218868437227405312 := by
  unfold B at h; omega
theorem B.mono {j k x : Nat} (h : B j x) (hk : j ≤ k) : B k x := by
  exact Nat.le_trans h (Nat.mul_le_mul_right _ (by omega))
theorem B_rn (s : Bool) (t v k : Nat) (hk : k ≤ 1024) (h : v ≤ 2 ^ (k + 1074) * 2 ^ t) : B k (Ieee.double.word s (rn t v)) := by
  unfold B
  have hi := rn_le_inf t v
  rw [rg_word _ _ (by omega)]
  exact rn_le t v _ (by omega) (by rw [mgr_pow]; exact h)
theorem B_add {j x y : Nat} (hx : B j x) (hy : B j y) (hj : j ≤ 1023) : ∃ z, Ieee.double.add x y = some z ∧ B (j + 1) z := by
  refine ⟨_, add_fin (hx.fin hj) (hy.fin hj), B_rn _ _ _ _ (by omega) ?_⟩
  have h1 := hx.mgr
  have h2 := hy.mgr
  rw [← iv_abs] at h1 h2
  have e : 2 ^ (j + 1 + 1074) = 2 * 2 ^ (j + 1074) := by rw [show j + 1 + 1074 = (j + 1074) + 1 by omega, Nat.pow_succ, Nat.mul_comm]
  rw [Nat.pow_zero, Nat.mul_one, e]
  omega
theorem B_sub {j x y : Nat} (hx : B j x) (hy : B j y) (hj : j ≤ 1023) : ∃ z, Ieee.double.sub x y = some z ∧ B (j + 1) z := by
  refine ⟨_, sub_fin (hx.fin hj) (hy.fin hj), B_rn _ _ _ _ (by omega) ?_⟩
  have h1 := hx.mgr
  have h2 := hy.mgr
  rw [← iv_abs] at h1 h2
  have e : 2 ^ (j + 1 + 1074) = 2 * 2 ^ (j + 1074) := by rw [show j + 1 + 1074 = (j + 1074) + 1 by omega, Nat.pow_succ, Nat.mul_comm]
  rw [Nat.pow_zero, Nat.mul_one, e]
  omega
theorem B_mul {j k x y : Nat} (hx : B j x) (hy : B k y) (hj : j + k ≤ 1023) : ∃ z, Ieee.double.mul x y = some z ∧ B (j + k) z := by
  refine ⟨_, mul_fin (hx.fin (by omega)) (hy.fin (by omega)), B_rn _ _ _ _ (by omega) ?_⟩
  have := Nat.mul_le_mul hx.mgr hy.mgr
  have e : 2 ^ (j + k + 1074) * 2 ^ 1074 = 2 ^ (j + 1074) * 2 ^ (k + 1074) := by
    generalize 1074 = c
    rw [← Nat.pow_add, ← Nat.pow_add]
    congr 1; omega
  rw [e]
  exact this
theorem read_fin' {x : Nat} (h : rg x < 9218868437227405312) (hl : 4503599627370496 ≤ rg x) : ∃ (m : Nat), Ieee.double.read x = .number (sg x) m (-1074 + ((rg x / 4503599627370496 - 1 : Nat) : Int)) ∧ m * 2 ^ (rg x / 4503599627370496 - 1) = mgr (rg x) := by
  unfold rg at h hl
  unfold Ieee.Format.read mgr rg sg
  simp only [dsw, dbn, dinf, dlp]
  rw [if_neg (by omega), if_pos h, if_neg (by omega)]
  exact ⟨_, rfl, rfl⟩
/-- A quotient of numbers is a number or endless. -/
theorem quo_fin {x y : Nat} (hx : rg x < 9218868437227405312) (hy : rg y < 9218868437227405312) (h0 : mgr (rg y) ≠ 0) : ∃ r, r ≤ 9218868437227405312 ∧ Ieee.double.div x y = some (Ieee.double.word (sg x ^^ sg y) r) := by
  obtain ⟨m, e, h1, h2⟩ := read_fin hx
  obtain ⟨n, f, h3, h4⟩ := read_fin hy
  have hn : n ≠ 0 := by intro c; rw [c, Nat.zero_mul] at h4; exact h0 h4.symm
  unfold Ieee.Format.div
  rw [h1, h3]
  simp only [Ieee.Datum.quotient, if_neg hn, Option.map_some, Ieee.Format.write]
  generalize Ieee.double.fractionBits + 2 + n.log2 - m.log2 = more
  have hb : (-1074 + (e : Int)) - (-1074 + (f : Int)) - (more : Int) - 1 = -1074 - ((f + more + 1 : Nat) : Int) + ((e + 1074 : Nat) : Int) := by omega
  rw [hb, nearest_rn]
  exact ⟨_, rn_le_inf _ _, rfl⟩
theorem quo_exp (c k f more : Nat) (hf : c ≤ f + 52) : k + c + (more + 1 + c) ≤ k + 52 + c + (f + more + 1) := by omega
theorem B_quo {k x y : Nat} (hx : B k x) (hy : rg y < 9218868437227405312) (h1 : 1023 * 4503599627370496 ≤ rg y) (hk : k + 52 ≤ 1024) : ∃ z, Ieee.double.div x y = some z ∧ B (k + 52) z := by
  obtain ⟨m, e, g1, g2⟩ := read_fin (hx.fin (by omega))
  obtain ⟨n, g3, g4⟩ := read_fin' hy (by omega)
  have hf' : 1074 ≤ rg y / 4503599627370496 - 1 + 52 := by omega
  generalize rg y / 4503599627370496 - 1 = f at g3 g4 hf'
  have hn : n ≠ 0 := by
    intro c; rw [c, Nat.zero_mul] at g4
    have := mgr_pos (show 0 < rg y by omega); omega
  unfold Ieee.Format.div
  rw [g1, g3]
  simp only [Ieee.Datum.quotient, if_neg hn, Option.map_some, Ieee.Format.write]
  generalize Ieee.double.fractionBits + 2 + n.log2 - m.log2 = more
  have hb : (-1074 + (e : Int)) - (-1074 + (f : Int)) - (more : Int) - 1 = -1074 - ((f + more + 1 : Nat) : Int) + ((e + 1074 : Nat) : Int) := by omega
  rw [hb, nearest_rn]
  refine ⟨_, rfl, B_rn _ _ _ _ hk ?_⟩
  have hD : m <<< more = m * 2 ^ more := Nat.shiftLeft_eq ..
  rw [hD]
  have hm := hx.mgr
  rw [← g2] at hm
  have hq : 2 * (m * 2 ^ more / n) + (m * 2 ^ more % n != 0).toNat ≤ 2 * (m * 2 ^ more) := by
    have a1 := Nat.div_add_mod (m * 2 ^ more) n
    generalize m * 2 ^ more = D at a1 ⊢
    by_cases c1 : D % n = 0
    · have : (D % n != 0).toNat = 0 := by rw [c1]; rfl
      have := Nat.div_le_self D n
      omega
    · have hb2 : (D % n != 0).toNat ≤ 1 := Bool.toNat_le _
      have n2 : 2 ≤ n := by
        rcases Nat.lt_or_ge n 2 with h | h
        · have : n = 1 := by omega
          rw [this, Nat.mod_one] at c1; exact absurd rfl c1
        · exact h
      have := Nat.mul_le_mul_right (D / n) n2
      omega
  have s1 := Nat.mul_le_mul_right (2 ^ (e + 1074)) hq
  refine Nat.le_trans s1 ?_
  have e1 : 2 * (m * 2 ^ more) * 2 ^ (e + 1074) = (m * 2 ^ e) * 2 ^ (more + 1 + 1074) := by
    generalize 1074 = c
    rw [Nat.pow_add 2 e, Nat.pow_add 2 (more + 1), Nat.pow_add 2 more, Nat.pow_one]
    generalize 2 ^ more = P
    generalize 2 ^ e = Q
    generalize 2 ^ c = R
    simp only [Nat.mul_assoc, Nat.mul_left_comm, Nat.mul_comm]
  rw [e1]
  have s2 := Nat.mul_le_mul_right (2 ^ (more + 1 + 1074)) hm
  refine Nat.le_trans s2 ?_
  have s3 : 2 ^ (k + 1074) * 2 ^ (more + 1 + 1074) = 2 ^ (k + 1074 + (more + 1 + 1074)) := (Nat.pow_add ..).symm
  have s4 : 2 ^ (k + 52 + 1074) * 2 ^ (f + more + 1) = 2 ^ (k + 52 + 1074 + (f + more + 1)) := (Nat.pow_add ..).symm
  rw [s3, s4]
  exact Nat.pow_le_pow_right (by decide) (quo_exp 1074 k f more hf')
theorem not_nan_order {x y : Nat} (hx : rg x ≤ 9218868437227405312) (hy : rg y ≤ 9218868437227405312) : ∃ o, Ieee.double.order x y = some o := by
  unfold Ieee.Format.order
  rcases Nat.lt_or_eq_of_le hx with hx | hx <;> rcases Nat.lt_or_eq_of_le hy with hy | hy
  · exact ⟨_, order_fin hx hy⟩
  · obtain ⟨m, e, h1, _⟩ := read_fin hx
    rw [h1, read_inf hy]; exact ⟨_, rfl⟩
  · obtain ⟨m, e, h1, _⟩ := read_fin hy
    rw [h1, read_inf hx]; exact ⟨_, rfl⟩
  · rw [read_inf hx, read_inf hy]; exact ⟨_, rfl⟩
theorem f_of {op : BinOp} {x y z : Nat} (h : flbits op x y = some z) : fok op x y = true ∧ fval op x y = z := by
  unfold fok fval; rw [h]; exact ⟨rfl, rfl⟩
theorem f_add {j x y : Nat} (hx : B j x) (hy : B j y) (hj : j ≤ 1023) : fok .add x y = true ∧ B (j + 1) (fval .add x y) := by
  obtain ⟨z, h, hz⟩ := B_add hx hy hj
  obtain ⟨h1, h2⟩ := f_of (op := .add) h
  exact ⟨h1, by rw [h2]; exact hz⟩
theorem f_sub {j x y : Nat} (hx : B j x) (hy : B j y) (hj : j ≤ 1023) : fok .sub x y = true ∧ B (j + 1) (fval .sub x y) := by
  obtain ⟨z, h, hz⟩ := B_sub hx hy hj
  obtain ⟨h1, h2⟩ := f_of (op := .sub) h
  exact ⟨h1, by rw [h2]; exact hz⟩
theorem f_mul {j k x y : Nat} (hx : B j x) (hy : B k y) (hj : j + k ≤ 1023) : fok .mul x y = true ∧ B (j + k) (fval .mul x y) := by
  obtain ⟨z, h, hz⟩ := B_mul hx hy hj
  obtain ⟨h1, h2⟩ := f_of (op := .mul) h
  exact ⟨h1, by rw [h2]; exact hz⟩
theorem f_quo {k x y : Nat} (hx : B k x) (hy : rg y < 9218868437227405312) (h1 : 1023 * 4503599627370496 ≤ rg y) (hk : k + 52 ≤ 1024) : fok .quo x y = true ∧ B (k + 52) (fval .quo x y) := by
  obtain ⟨z, h, hz⟩ := B_quo hx hy h1 hk
  obtain ⟨h1, h2⟩ := f_of (op := .quo) h
  exact ⟨h1, by rw [h2]; exact hz⟩
theorem dord (x y : Nat) : FloatKind.f64.format.order x y = Ieee.double.order x y := rfl
theorem fle_fin {x y : Nat} (hx : rg x < 9218868437227405312) (hy : rg y < 9218868437227405312) : fle x y = decide (iv x ≤ iv y) := by
  unfold fle
  rw [dord, order_fin hx hy]
  by_cases c : iv x < iv y
  · rw [if_pos c, decide_eq_true (by omega)]; rfl
  · rw [if_neg c]
    by_cases d : iv x = iv y
    · rw [if_pos d, decide_eq_true (by omega)]; rfl
    · rw [if_neg d, decide_eq_false (by omega)]; rfl
theorem flt_fin {x y : Nat} (hx : rg x < 9218868437227405312) (hy : rg y < 9218868437227405312) : flt x y = decide (iv x < iv y) := by
  unfold flt
  rw [dord, order_fin hx hy]
  by_cases c : iv x < iv y
  · rw [if_pos c, decide_eq_true c]; rfl
  · rw [if_neg c, decide_eq_false c]
    by_cases d : iv x = iv y
    · rw [if_pos d]; rfl
    · rw [if_neg d]; rfl
theorem fgt_fin {x y : Nat} (hx : rg x < 9218868437227405312) (hy : rg y < 9218868437227405312) : fgt x y = decide (iv y < iv x) := by
  unfold fgt
  rw [dord, order_fin hx hy]
  by_cases c : iv x < iv y
  · rw [if_pos c, decide_eq_false (by omega)]; rfl
  · rw [if_neg c]
    by_cases d : iv x = iv y
    · rw [if_pos d, decide_eq_false (by omega)]; rfl
    · rw [if_neg d, decide_eq_true (by omega)]; rfl
theorem feq_fin {x y : Nat} (hx : rg x < 9218868437227405312) (hy : rg y < 9218868437227405312) : feq x y = decide (iv x = iv y) := by
  unfold feq
  rw [dord, order_fin hx hy]
  by_cases c : iv x < iv y
  · rw [if_pos c, decide_eq_false (by omega)]; rfl
  · rw [if_neg c]
    by_cases d : iv x = iv y
    · rw [if_pos d, decide_eq_true d]; rfl
    · rw [if_neg d, decide_eq_false d]; rfl
/-- A number between two numbers is finite. -/
theorem fin_of_between {a x b : Nat} (ha : rg a < 9218868437227405312) (hb : rg b < 9218868437227405312) (h1 : fle a x = true) (h2 : fle x b = true) : rg x < 9218868437227405312 := by
  rcases Nat.lt_trichotomy (rg x) 9218868437227405312 with h | h | h
  · exact h
  · obtain ⟨m, e, g1, _⟩ := read_fin ha
    obtain ⟨n, f, g2, _⟩ := read_fin hb
    unfold fle at h1 h2
    rw [dord] at h1 h2
    unfold Ieee.Format.order at h1 h2
    rw [read_inf h, g1] at h1
    rw [read_inf h, g2] at h2
    cases hs : sg x with
    | true => rw [hs] at h1; simp [Ieee.Datum.order] at h1
    | false => rw [hs] at h2; simp [Ieee.Datum.order] at h2
  · obtain ⟨n, hn⟩ := read_nan h
    unfold fle at h2
    rw [dord] at h2
    unfold Ieee.Format.order at h2
    rw [hn] at h2
    simp [Ieee.Datum.order] at h2
theorem between {a x b : Nat} (ha : rg a < 9218868437227405312) (hb : rg b < 9218868437227405312) (h1 : fle a x = true) (h2 : fle x b = true) : rg x < 9218868437227405312 ∧ iv a ≤ iv x ∧ iv x ≤ iv b := by
  have h := fin_of_between ha hb h1 h2
  rw [fle_fin ha h] at h1
  rw [fle_fin h hb] at h2
  exact ⟨h, of_decide_eq_true h1, of_decide_eq_true h2⟩
theorem B_of_mgr {k x : Nat} (hx : rg x < 9218868437227405312) (h : mgr (rg x) ≤ 2 ^ (k + 1074)) : B k x := by
  unfold B
  rw [← mgr_pow] at h
  exact rg_le_of_mgr (Nat.le_of_lt hx) h
theorem between_B {k a x b : Nat} (hk : k ≤ 1023) (ha : B k a) (hb : B k b) (h1 : fle a x = true) (h2 : fle x b = true) : B k x := by
  obtain ⟨hx, g1, g2⟩ := between (ha.fin hk) (hb.fin hk) h1 h2
  apply B_of_mgr hx
  have m1 := ha.mgr
  have m2 := hb.mgr
  rw [← iv_abs] at m1 m2 ⊢
  generalize 2 ^ (k + 1074) = M at m1 m2 ⊢
  omega
theorem one_le_rg {x : Nat} (hx : rg x < 9218868437227405312) (h : iv 4607182418800017408 ≤ iv x) : 1023 * 4503599627370496 ≤ rg x := by
  rcases Nat.lt_or_ge (rg x) (1023 * 4503599627370496) with c | c
  · exfalso
    have h1 : iv 4607182418800017408 = (mgr (1023 * 4503599627370496) : Nat) := by
      have e : rg 4607182418800017408 = 1023 * 4503599627370496 := by decide
      unfold iv
      rw [if_neg (by decide), e]
    have h2 := mgr_lt (show 1023 * 4503599627370496 ≤ 9218868437227405312 by decide) c
    rw [← iv_abs] at h2
    rw [h1] at h
    generalize mgr (1023 * 4503599627370496) = M at h h2
    omega
  · exact c
theorem feq_zero {x : Nat} (h : feq x 0 = true) : rg x < 9218868437227405312 ∧ mgr (rg x) = 0 := by
  have h0 : rg 0 < 9218868437227405312 := by decide
  rcases Nat.lt_trichotomy (rg x) 9218868437227405312 with c | c | c
  · refine ⟨c, ?_⟩
    rw [feq_fin c h0] at h
    have := of_decide_eq_true h
    have z : iv 0 = 0 := by decide
    rw [← iv_abs, this, z]; rfl
  · exfalso
    obtain ⟨m, e, g1, _⟩ := read_fin h0
    unfold feq at h
    rw [dord] at h
    unfold Ieee.Format.order at h
    rw [read_inf c, g1] at h
    cases hs : sg x <;> rw [hs] at h <;> simp [Ieee.Datum.order] at h
  · exfalso
    obtain ⟨n, hn⟩ := read_nan c
    unfold feq at h
    rw [dord] at h
    unfold Ieee.Format.order at h
    rw [hn] at h
    simp [Ieee.Datum.order] at h
theorem quo_zero_ok {x : Nat} (h : feq x 0 = true) : fok .quo 4607182418800017408 x = true := by
  obtain ⟨hx, hm⟩ := feq_zero h
  obtain ⟨n, f, g1, g2⟩ := read_fin hx
  have hn : n = 0 := by
    rw [hm] at g2
    rcases Nat.mul_eq_zero.mp g2 with c | c
    · exact c
    · have := Nat.two_pow_pos f; omega
  have : flbits .quo 4607182418800017408 x = Ieee.double.div 4607182418800017408 x := rfl
  unfold fok
  rw [this]
  unfold Ieee.Format.div
  have h1 : Ieee.double.read 4607182418800017408 = .number false 4503599627370496 (-52) := by decide
  rw [h1, g1, hn]
  simp [Ieee.Datum.quotient]
theorem sameFloat_ev (x : Nat) : Ev (fun k => laws_sameFloat.f k x x) true := by
  unfold laws_sameFloat.f
  cases h : fne x x with
  | true =>
    simp only [if_true]
    refine Ev.step (fun k => by rw [laws_sameFloat.j0]) ?_
    simp only [if_true, h]
    exact ev_some
  | false =>
    simp only [Bool.false_eq_true, if_false]
    refine Ev.step (fun k => by rw [laws_sameFloat.j0]) ?_
    simp only [Bool.false_eq_true, if_false]
    cases c : feq x 0 with
    | true =>
      simp only [if_true, quo_zero_ok c, beq_self_eq_true]
      exact ev_some
    | false =>
      have e : feq x x = true := by
        unfold fne at h
        unfold feq
        simpa using h
      simp only [Bool.false_eq_true, if_false, e]
      exact ev_some
def inR (a b c : Nat) : Bool := fle b a && fle a c
theorem spec_inR (a b c : Nat) : spec_InRange.f a b c = some (inR a b c) := by
  unfold spec_InRange.f inR
  cases fle b a <;> rfl
theorem impl_inR (a b c : Nat) : impl_InRange.f a b c = some (inR a b c) := spec_inR a b c
def locB (p g : Nat) : Bool := inR p 4607182418800017408 4681608360884174848 && inR g 4607182418800017408 4666723172467343360
theorem spec_loc (p g : Nat) : spec_LocoOk.f p g = some (locB p g) := by
  unfold spec_LocoOk.f locB
  simp only [spec_inR, Option.bind_some]
  cases inR p 4607182418800017408 4681608360884174848 <;> rfl
theorem impl_loc (p g : Nat) : impl_LocoOk.f p g = some (locB p g) := by
  unfold impl_LocoOk.f locB
  simp only [impl_inR, Option.bind_some]
  cases inR p 4607182418800017408 4681608360884174848 <;> rfl
theorem inR_parts {x a b : Nat} (h : inR x a b = true) : fle a x = true ∧ fle x b = true := by
  unfold inR at h; rwa [Bool.and_eq_true] at h
theorem spB_fin {v : Nat} (h : inR v 0 4641240890982006784 = true) : rg v < 9218868437227405312 ∧ 0 ≤ iv v := by
  obtain ⟨h1, h2⟩ := inR_parts h
  obtain ⟨g1, g2, _⟩ := between (by decide) (by decide) h1 h2
  have : iv 0 = 0 := by decide
  rw [this] at g2
  exact ⟨g1, g2⟩
theorem quo_ok {p v : Nat} (hp : rg p < 9218868437227405312) (hv : rg v < 9218868437227405312) (h0 : feq v 0 = false) : ∃ r, r ≤ 9218868437227405312 ∧ fok .quo p v = true ∧ fval .quo p v = Ieee.double.word (sg p ^^ sg v) r := by
  have hz : mgr (rg v) ≠ 0 := by
    rw [feq_fin hv (by decide)] at h0
    have h1 := of_decide_eq_false h0
    have z : iv 0 = 0 := by decide
    rw [z] at h1
    intro c
    apply h1
    rw [← iv_abs] at c
    omega
  obtain ⟨r, h1, h2⟩ := quo_fin hp hv hz
  obtain ⟨h3, h4⟩ := f_of (op := .quo) h2
  exact ⟨r, h1, h3, h4⟩
def effV (p g v : Nat) : Nat := if feq v 0 = true then g else if fgt (fval .quo p v) g = true then g else fval .quo p v
theorem loc_fin {p g : Nat} (h : locB p g = true) : rg p < 9218868437227405312 ∧ rg g < 9218868437227405312 ∧ iv 4607182418800017408 ≤ iv p ∧ iv 4607182418800017408 ≤ iv g ∧ iv g ≤ iv 4666723172467343360 := by
  simp only [locB, Bool.and_eq_true] at h
  obtain ⟨h1, h2⟩ := inR_parts h.1
  obtain ⟨h3, h4⟩ := inR_parts h.2
  obtain ⟨a1, a2, a3⟩ := between (by decide) (by decide) h1 h2
  obtain ⟨b1, b2, b3⟩ := between (by decide) (by decide) h3 h4
  exact ⟨a1, b1, a2, b2, b3⟩
theorem impl_eff {p g v : Nat} (hl : locB p g = true) (hv : inR v 0 4641240890982006784 = true) : impl_effort.f p g v = some (effV p g v) := by
  unfold impl_effort.f effV
  cases h0 : feq v 0 with
  | true => rfl
  | false =>
    obtain ⟨r, _, h1, _⟩ := quo_ok (loc_fin hl).1 (spB_fin hv).1 h0
    simp only [Bool.false_eq_true, if_false, h1, if_true]
    split <;> rfl
theorem spec_eff (p g v : Nat) : Ev (fun k => spec_Effort.f k p g v) (if locB p g = true ∧ inR v 0 4641240890982006784 = true then effV p g v else 0) := by
  unfold spec_Effort.f
  have hsp : spec_l04Speed.f v = some (inR v 0 4641240890982006784) := by
    unfold spec_l04Speed.f
    rw [spec_inR]; rfl
  simp only [spec_loc, hsp, Option.bind_some]
  by_cases hl : locB p g = true
  · simp only [if_pos hl]
    refine Ev.step (fun k => by rw [spec_Effort.j0]) ?_
    by_cases hv : inR v 0 4641240890982006784 = true
    · simp only [hv, hl, Bool.not_true, Bool.false_eq_true, if_false, and_self, if_true]
      unfold effV
      cases h0 : feq v 0 with
      | true => simp only [if_true]; exact ev_some
      | false =>
        obtain ⟨r, _, h1, _⟩ := quo_ok (loc_fin hl).1 (spB_fin hv).1 h0
        simp only [Bool.false_eq_true, if_false, h1, if_true]
        by_cases c : fgt (fval .quo p v) g = true
        · simp only [if_pos c]; exact ev_some
        · simp only [if_neg c]; exact ev_some
    · simp only [hv, Bool.not_false, if_true, and_false, Bool.false_eq_true, if_false]
      exact ev_some
  · simp only [hl, Bool.false_eq_true, if_false, false_and]
    exact Ev.step (fun k => by rw [spec_Effort.j0]) (by simpa using ev_some)
theorem impl_Eff (p g v : Nat) : impl_Effort.f p g v = some (if locB p g = true ∧ inR v 0 4641240890982006784 = true then effV p g v else 0) := by
  unfold impl_Effort.f
  have hsp : impl_speedOk.f v = some (inR v 0 4641240890982006784) := by
    unfold impl_speedOk.f
    rw [impl_inR]; rfl
  simp only [impl_loc, hsp, Option.bind_some]
  by_cases hc : locB p g = true
  · by_cases hv : inR v 0 4641240890982006784 = true
    · simp only [hc, hv, impl_eff hc hv, Option.bind_some, if_true, and_self]
    · simp only [hc, hv, if_true, Bool.false_eq_true, if_false, and_false]
  · simp only [hc, Bool.false_eq_true, if_false, false_and]
theorem FnExactEffort : laws_FnExactEffort.Pure := by
  intro p g v _ _ _
  refine Ev.rounds ?_
  unfold laws_FnExactEffort.f laws_toLoco.f
  simp only [Option.bind_some, impl_Eff]
  refine Ev.bind (spec_eff p g v) (Ev.bind (sameFloat_ev _) ?_)
  simp only [if_true]
  exact ev_some

end Go.Proofs.Ytfcljimfpjoioab.Pure
