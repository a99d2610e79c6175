/- A walk that finds no page where one is wanted is a fault (plain). -/
import Derived.Test.YtdpjpmlajjfpgaaWlkD
namespace Go.Proofs.Ytdpjpmlajjfpgaa.Ram
open Go.RowKit Go.Proofs.Ytdpjpmlajjfpgaa.Mem Go.Proofs.Ytdpjpmlajjfpgaa.Kept Go.Proofs.Ytdpjpmlajjfpgaa.Slo Go.Proofs.Ytdpjpmlajjfpgaa.Bits
set_option linter.unusedVariables false
set_option linter.unusedSimpArgs false

/-- Memory with a way through three tables. -/
def fltF (a b c v0 v1 v2 : Int) : List Int := swF 30 30 (swF 30 30 (swF 30 30 (List.replicate (30 * 128) 0) true 3 a v0) true 4 b v1) true 5 c v2
section
variable {a b c v0 v1 v2 : Int} (ha : 0 ≤ a ∧ a < 16) (hb : 0 ≤ b ∧ b < 16) (hc : 0 ≤ c ∧ c < 16) (h0 : 0 ≤ v0 ∧ v0 ≤ 18446744073709551615) (h1 : 0 ≤ v1 ∧ v1 ≤ 18446744073709551615) (h2 : 0 ≤ v2 ∧ v2 ≤ 18446744073709551615)
include ha hb hc h0 h1 h2
theorem flt_ent (t k : Int) : ent 30 30 (fltF a b c v0 v1 v2) t k = if t = 5 ∧ k = c then tk v2 else if t = 4 ∧ k = b then tk v1 else if t = 3 ∧ k = a then tk v0 else ent 30 30 (List.replicate (30 * 128) 0) t k := by
  have z : (List.replicate (30 * 128) (0 : Int)).length = 30 * 128 := List.length_replicate
  unfold fltF
  rw [ent_sw (swF_len (swF_len z)) (mayW_mk (by decide) (by decide) hc.1 hc.2) h2, ent_sw (swF_len z) (mayW_mk (by decide) (by decide) hb.1 hb.2) h1, ent_sw z (mayW_mk (by decide) (by decide) ha.1 ha.2) h0]
theorem flt_3 (k : Int) (hk : 0 ≤ k ∧ k < 16) : ent 30 30 (fltF a b c v0 v1 v2) 3 k = if k = a then tk v0 else (0, 0, 0, 0) := by
  rw [flt_ent ha hb hc h0 h1 h2, if_neg (fun h => absurd h.1 (by decide)), if_neg (fun h => absurd h.1 (by decide)), ent_zero (mayW_mk (by decide) (by decide) hk.1 hk.2)]
  by_cases e : k = a
  · rw [if_pos ⟨rfl, e⟩, if_pos e]
  · rw [if_neg (fun h => e h.2), if_neg e]
theorem flt_4 (k : Int) (hk : 0 ≤ k ∧ k < 16) : ent 30 30 (fltF a b c v0 v1 v2) 4 k = if k = b then tk v1 else (0, 0, 0, 0) := by
  rw [flt_ent ha hb hc h0 h1 h2, if_neg (fun h => absurd h.1 (by decide)), ent_zero (mayW_mk (by decide) (by decide) hk.1 hk.2)]
  by_cases e : k = b
  · rw [if_pos ⟨rfl, e⟩, if_pos e]
  · rw [if_neg (fun h => e h.2), if_neg e, if_neg (fun h => absurd h.1 (by decide))]
theorem flt_5 (k : Int) (hk : 0 ≤ k ∧ k < 16) : ent 30 30 (fltF a b c v0 v1 v2) 5 k = if k = c then tk v2 else (0, 0, 0, 0) := by
  rw [flt_ent ha hb hc h0 h1 h2, ent_zero (mayW_mk (by decide) (by decide) hk.1 hk.2)]
  by_cases e : k = c
  · rw [if_pos ⟨rfl, e⟩, if_pos e]
  · rw [if_neg (fun h => e h.2), if_neg e, if_neg (fun h => absurd h.1 (by decide)), if_neg (fun h => absurd h.1 (by decide))]
end
theorem ent_far {n : Nat} {s : Int} {F : List Int} {t k : Int} (h : (n : Int) ≤ t) : ent n s F t k = (0, 0, 0, -20) := by
  unfold ent
  rw [if_neg]
  intro h'
  obtain ⟨_, h2, _⟩ := mayW_yes h'
  omega
/-- What stands in a slot's place: nothing, or what is not to be had. -/
def Bad (K f P : Int) : Prop := mayB K f P = true ∧ (K = 0 ∨ 30 ≤ f)
theorem put_in {K f P : Int} (h : mayB K f P = true) : 0 ≤ K + 4 * P + 4096 * f ∧ K + 4 * P + 4096 * f ≤ 18446744073709551615 := by
  obtain ⟨h1, h2, h3, h4, h5, h6⟩ := mayB_bounds h
  omega
section
variable {a b c K f P p : Int} (hp : 0 ≤ p ∧ p < 4096) (ha : p / 256 = a) (hb : p / 16 % 16 = b) (hc : p % 16 = c)
include hp ha hb hc
theorem flt_wk (q : Int) : wk 30 30 (fltF a b c 16385 20481 36886) 3 q = if q = p then (9, 5, 3, 0) else (0, 0, 0, -20) := by
  have e3 := flt_3 (a := a) (b := b) (c := c) (v0 := 16385) (v1 := 20481) (v2 := 36886) (by omega) (by omega) (by omega) (by decide) (by decide) (by decide)
  have e4 := flt_4 (a := a) (b := b) (c := c) (v0 := 16385) (v1 := 20481) (v2 := 36886) (by omega) (by omega) (by omega) (by decide) (by decide) (by decide)
  have e5 := flt_5 (a := a) (b := b) (c := c) (v0 := 16385) (v1 := 20481) (v2 := 36886) (by omega) (by omega) (by omega) (by decide) (by decide) (by decide)
  have k0 : tk 16385 = (1, 4, 0, 0) := by decide +kernel
  have k1 : tk 20481 = (1, 5, 0, 0) := by decide +kernel
  have k2 : tk 36886 = (2, 9, 5, 0) := by decide +kernel
  rw [k0] at e3
  rw [k1] at e4
  rw [k2] at e5
  unfold wk
  by_cases hq : 0 ≤ q ∧ q < 4096
  · rw [if_pos hq, e3 _ (by omega)]
    by_cases h3 : q / 256 = a
    · rw [if_pos h3]
      dsimp only
      rw [if_pos rfl, e4 _ (by omega)]
      by_cases h4 : q / 16 % 16 = b
      · rw [if_pos h4]
        dsimp only
        rw [if_neg (by decide), if_pos rfl, e5 _ (by omega)]
        by_cases h5 : q % 16 = c
        · rw [if_pos h5, if_pos (show q = p by omega)]; rfl
        · rw [if_neg h5, if_neg (show ¬ q = p by omega)]; rfl
      · rw [if_neg h4, if_neg (show ¬ q = p by omega)]; rfl
    · rw [if_neg h3, if_neg (show ¬ q = p by omega)]; rfl
  · rw [if_neg hq, if_neg (show ¬ q = p by omega)]
theorem flt_0 (hx : Bad K f P) : wk 30 30 (fltF a b c (K + 4 * P + 4096 * f) 20481 36886) 3 p = (0, 0, 0, -20) := by
  have e3 := flt_3 (a := a) (b := b) (c := c) (v0 := K + 4 * P + 4096 * f) (v1 := 20481) (v2 := 36886) (by omega) (by omega) (by omega) (put_in hx.1) (by decide) (by decide)
  rw [tk_put hx.1] at e3
  unfold wk
  rw [if_pos hp, e3 _ (by omega), if_pos ha]
  dsimp only
  by_cases hK : K = 1
  · have hf : ((30 : Nat) : Int) ≤ f := by rcases hx.2 with h | h <;> omega
    rw [if_pos hK, ent_far hf]; rfl
  · rw [if_neg hK]
theorem flt_1 (hx : Bad K f P) : wk 30 30 (fltF a b c 16385 (K + 4 * P + 4096 * f) 36886) 3 p = (0, 0, 0, -20) := by
  have e3 := flt_3 (a := a) (b := b) (c := c) (v0 := 16385) (v1 := K + 4 * P + 4096 * f) (v2 := 36886) (by omega) (by omega) (by omega) (by decide) (put_in hx.1) (by decide)
  have e4 := flt_4 (a := a) (b := b) (c := c) (v0 := 16385) (v1 := K + 4 * P + 4096 * f) (v2 := 36886) (by omega) (by omega) (by omega) (by decide) (put_in hx.1) (by decide)
  have k0 : tk 16385 = (1, 4, 0, 0) := by decide +kernel
  rw [k0] at e3
  rw [tk_put hx.1] at e4
  unfold wk
  rw [if_pos hp, e3 _ (by omega), if_pos ha]
  dsimp only
  rw [if_pos rfl, e4 _ (by omega), if_pos hb]
  dsimp only
  by_cases h3 : K = 3
  · have hf : ((30 : Nat) : Int) ≤ f := by rcases hx.2 with h | h <;> omega
    rw [if_pos h3]
    unfold lf
    rw [if_neg (by omega)]
  · rw [if_neg h3]
    by_cases hK : K = 1
    · have hf : ((30 : Nat) : Int) ≤ f := by rcases hx.2 with h | h <;> omega
      rw [if_pos hK, ent_far hf]; rfl
    · rw [if_neg hK]
theorem flt_2 (hx : Bad K f P) : wk 30 30 (fltF a b c 16385 20481 (K + 4 * P + 4096 * f)) 3 p = (0, 0, 0, -20) := by
  have e3 := flt_3 (a := a) (b := b) (c := c) (v0 := 16385) (v1 := 20481) (v2 := K + 4 * P + 4096 * f) (by omega) (by omega) (by omega) (by decide) (by decide) (put_in hx.1)
  have e4 := flt_4 (a := a) (b := b) (c := c) (v0 := 16385) (v1 := 20481) (v2 := K + 4 * P + 4096 * f) (by omega) (by omega) (by omega) (by decide) (by decide) (put_in hx.1)
  have e5 := flt_5 (a := a) (b := b) (c := c) (v0 := 16385) (v1 := 20481) (v2 := K + 4 * P + 4096 * f) (by omega) (by omega) (by omega) (by decide) (by decide) (put_in hx.1)
  have k0 : tk 16385 = (1, 4, 0, 0) := by decide +kernel
  have k1 : tk 20481 = (1, 5, 0, 0) := by decide +kernel
  rw [k0] at e3
  rw [k1] at e4
  rw [tk_put hx.1] at e5
  unfold wk
  rw [if_pos hp, e3 _ (by omega), if_pos ha]
  dsimp only
  rw [if_pos rfl, e4 _ (by omega), if_pos hb]
  dsimp only
  rw [if_neg (by decide), if_pos rfl, e5 _ (by omega), if_pos hc]
  dsimp only
  by_cases h3 : K = 2
  · have hf : ((30 : Nat) : Int) ≤ f := by rcases hx.2 with h | h <;> omega
    rw [if_pos h3]
    unfold lf
    rw [if_neg (by omega)]
  · rw [if_neg h3]
end
end Go.Proofs.Ytdpjpmlajjfpgaa.Ram
