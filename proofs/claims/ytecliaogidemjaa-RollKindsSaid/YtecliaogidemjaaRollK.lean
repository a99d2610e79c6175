/- Those of all kinds are all: the plain law. -/
import Derived.Test.YtecliaogidemjaaRollC
import Derived.Test.YtecliaogidemjaaPRollQx5
import Derived.Lib.Hide
namespace Go.Proofs.Ytecliaogidemjaa.RollC
open Go Go.RowKit Go.Proofs.Ytecliaogidemjaa.PRollQ Go.Proofs.YtecliaogidemjaaW.PrintWords Go.Proofs.Ytecliaogidemjaa.Boot Go.Proofs.Ytecliaogidemjaa.Pick
open Go.Proofs.Ytecliaogidemjaa.PBootAll (S56 z56 rd_T56)
set_option linter.unusedVariables false
set_option linter.unusedSimpArgs false

def sel (id : Int) : Nat → List S56 → List Nat
  | _, [] => []
  | i, p :: t => (if id ≠ 0 ∧ p.f5 ≠ id then [] else [i]) ++ sel id (i + 1) t
def gr (C : Int) (ps : List S56) (j : Nat) : List Int := rowOf C j (rd_T56 ps j)
theorem gr_len (C : Int) (ps : List S56) (j : Nat) : (gr C ps j).length = 8 := rfl
theorem rows_sel (C id : Int) (ps : List S56) : ∀ (d i : Nat), i + d = ps.length → rows C id i (ps.drop i) = (sel id i (ps.drop i)).flatMap (gr C ps)
  | 0, i, h => by rw [List.drop_of_length_le (by omega)]; rfl
  | d + 1, i, h => by
    have hlt : i < ps.length := by omega
    have hd : ps.drop i = ps[i] :: ps.drop (i + 1) := List.drop_eq_getElem_cons hlt
    have hg : gr C ps i = rowOf C i ps[i] := by unfold gr; rw [rd_nat hlt]
    rw [hd]
    simp only [rows, sel]
    rw [List.flatMap_append, rows_sel C id ps d (i + 1) (by omega)]
    by_cases hs : id ≠ 0 ∧ ps[i].f5 ≠ id
    · rw [if_pos hs, if_pos hs]; rfl
    · rw [if_neg hs, if_neg hs]; simp [hg]
theorem sel_mem (id : Int) (ps : List S56) : ∀ (d i : Nat), i + d = ps.length → ∀ j ∈ sel id i (ps.drop i), i ≤ j ∧ j < ps.length ∧ (id ≠ 0 → (rd_T56 ps j).f5 = id)
  | 0, i, h, j, hj => by rw [List.drop_of_length_le (by omega)] at hj; cases hj
  | d + 1, i, h, j, hj => by
    have hlt : i < ps.length := by omega
    have hd : ps.drop i = ps[i] :: ps.drop (i + 1) := List.drop_eq_getElem_cons hlt
    rw [hd] at hj
    simp only [sel] at hj
    rcases List.mem_append.1 hj with hj | hj
    · by_cases hs : id ≠ 0 ∧ ps[i].f5 ≠ id
      · rw [if_pos hs] at hj; cases hj
      · rw [if_neg hs] at hj
        obtain rfl := List.mem_singleton.1 hj
        refine ⟨Nat.le_refl _, hlt, fun h0 => ?_⟩
        rw [rd_nat hlt]
        by_cases h5 : ps[j].f5 = id
        · exact h5
        · exact absurd ⟨h0, h5⟩ hs
    · obtain ⟨a, b, c⟩ := sel_mem id ps d (i + 1) (by omega) j hj
      exact ⟨by omega, b, c⟩
theorem cnt_sel (id : Int) : ∀ (l : List S56) (i : Nat), cnt id l = ((sel id i l).length : Int)
  | [], _ => rfl
  | p :: t, i => by
    simp only [cnt, sel]
    rw [cnt_sel id t (i + 1), List.length_append]
    by_cases hs : id ≠ 0 ∧ p.f5 ≠ id
    · rw [if_pos hs, if_pos hs]; simp
    · rw [if_neg hs, if_neg hs]; simp
theorem sel_zero : ∀ (l : List S56) (i : Nat), sel 0 i l = List.range' i l.length
  | [], _ => rfl
  | p :: t, i => by
    simp only [sel, List.length_cons, List.range'_succ]
    rw [sel_zero t (i + 1)]
    simp
theorem cnt_two : ∀ (l : List S56), (∀ p ∈ l, p.f5 = 1 ∨ p.f5 = 2) → cnt 1 l + cnt 2 l = l.length
  | [], _ => rfl
  | p :: t, h => by
    have ih := cnt_two t fun q hq => h q (List.mem_cons_of_mem _ hq)
    simp only [cnt, List.length_cons]
    rcases h p (List.mem_cons_self ..) with e | e <;> rw [e] <;> simp <;> omega
theorem flat_len {f : Nat → List Int} (h : ∀ j, (f j).length = 8) : ∀ L : List Nat, (L.flatMap f).length = 8 * L.length
  | [] => rfl
  | a :: t => by rw [List.flatMap_cons, List.length_append, h, flat_len h t, List.length_cons]; omega
theorem flat_cut {f : Nat → List Int} (h : ∀ j, (f j).length = 8) : ∀ (L : List Nat) (i : Nat) (hi : i < L.length), ((L.flatMap f).drop (8 * i)).take 8 = f L[i]
  | [], i, hi => by simp at hi
  | a :: t, 0, hi => by
    rw [List.flatMap_cons]
    simp only [Nat.mul_zero, List.drop_zero, List.getElem_cons_zero]
    rw [List.take_append, h a, List.take_of_length_le (by rw [h a]; exact Nat.le_refl _)]
    simp
  | a :: t, i + 1, hi => by
    rw [List.flatMap_cons, List.drop_append, h a, List.drop_of_length_le (by rw [h a]; omega), show 8 * (i + 1) - 8 = 8 * i by omega, List.nil_append]
    exact flat_cut h t i (by simpa using hi)
theorem num_fin : ∀ m : Fin 6, presidioref1_Num.f 4 [(m.val : Int), 0] = some (m.val : Int) := by decide +kernel
theorem num_k {k j : Nat} (hk : 4 ≤ k) (hj : j < 6) : presidioref1_Num.f k [(j : Int), 0] = some (j : Int) := at_rounds (fun k => presidioref1_Num.mono _ k) hk (num_fin ⟨j, hj⟩)

section
variable (F T S C : Int) (ps : List S56) (all : List Int) (hl : ps.length ≤ 6) (hall : all = (List.range ps.length).flatMap (gr C ps))
include hl hall
theorem kinds_l1 (sum id : Int) (h0 : id ≠ 0) (L : List Nat) (hL : ∀ j ∈ L, j < ps.length ∧ (rd_T56 ps j).f5 = id) (hn : L.length ≤ 6) : ∀ (d i k : Nat), i + d = L.length → d + 20 ≤ k → ∃ k', k' + d + 1 = k ∧
    presidiolaw16_RollKinds.l1 k all ps.length sum id (L.flatMap (gr C ps)) L.length i F T S C ps = presidiolaw16_RollKinds.l0 k' all ps.length sum ((id + 1) % 4294967296) F T S C ps := by
  intro d
  induction d with
  | zero =>
    intro i k hi hk
    obtain ⟨k, rfl⟩ : ∃ m, k = m + 1 := ⟨k - 1, by omega⟩
    refine ⟨k, rfl, ?_⟩
    rw [presidiolaw16_RollKinds.l1]
    rw [if_neg (by omega)]
  | succ d ih =>
    intro i k hi hk
    obtain ⟨k, rfl⟩ : ∃ m, k = m + 1 := ⟨k - 1, by omega⟩
    obtain ⟨k', e', h'⟩ := ih (i + 1) k (by omega) (by omega)
    refine ⟨k', by omega, ?_⟩
    rw [← h']
    have hlt : i < L.length := by omega
    have hcut := flat_cut (gr_len C ps) L i hlt
    obtain ⟨hj, h5⟩ := hL L[i] (List.getElem_mem hlt)
    have hlen := flat_len (gr_len C ps) L
    obtain ⟨j, hje⟩ : ∃ j, L[i] = j := ⟨_, rfl⟩
    rw [hje] at hcut hj h5
    obtain ⟨X, hX⟩ : ∃ X, L.flatMap (gr C ps) = X := ⟨_, rfl⟩
    rw [hX] at hcut hlen ⊢
    have hwr := Lib.hid (show wrap64 ((i : Int) + 1) = ((i + 1 : Nat) : Int) from by unfold wrap64; omega)
    have e8 := Lib.hid (show wrap64 (8 * (i : Int)) = ((8 * i : Nat) : Int) from by unfold wrap64; omega)
    have e82 := Lib.hid (show wrap64 (((8 * i : Nat) : Int) + 2) = ((8 * i + 2 : Nat) : Int) from by unfold wrap64; omega)
    have e88 := Lib.hid (show wrap64 (((8 * i : Nat) : Int) + 8) = ((8 * i + 8 : Nat) : Int) from by unfold wrap64; omega)
    have f8 := Lib.hid (show wrap64 (8 * (j : Int)) = ((8 * j : Nat) : Int) from by unfold wrap64; omega)
    have f88 := Lib.hid (show wrap64 (((8 * j : Nat) : Int) + 8) = ((8 * j + 8 : Nat) : Int) from by unfold wrap64; omega)
    have ej := Lib.hid (show wrap64 (j : Int) = (j : Int) from by unfold wrap64; omega)
    have c2 : (X.take (8 * i + 2)).drop (8 * i) = [(j : Int), 0] := by
      rw [List.drop_take, show 8 * i + 2 - 8 * i = 2 by omega]
      have h := congrArg (List.take 2) hcut
      rw [List.take_take] at h
      exact h
    have c8 : (X.take (8 * i + 8)).drop (8 * i) = gr C ps j := by
      rw [List.drop_take, show 8 * i + 8 - 8 * i = 8 by omega]
      exact hcut
    have a8 : (all.take (8 * j + 8)).drop (8 * j) = gr C ps j := by
      rw [List.drop_take, show 8 * j + 8 - 8 * j = 8 by omega, hall]
      have h := flat_cut (gr_len C ps) (List.range ps.length) j (by simpa using hj)
      rw [h]
      congr 1
      simp
    have hallen : all.length = 8 * ps.length := by rw [hall, flat_len (gr_len C ps), List.length_range]
    rw [presidiolaw16_RollKinds.l1]
    rw [if_pos (by omega), e8.out, if_pos (by omega), e82.out, if_pos (by omega), if_pos (by omega), Int.toNat_natCast, Int.toNat_natCast, c2, num_k (by omega) (by omega)]
    rw [Option.bind_some]
    rw [ej.out, if_neg (by omega), if_pos (by omega), if_pos (by omega), if_pos h5, e88.out, if_pos (by omega), if_pos (by omega), f8.out, if_pos (by omega), f88.out, if_pos (by omega), if_pos (by omega)]
    rw [Int.toNat_natCast, Int.toNat_natCast, Int.toNat_natCast, c8, a8, if_pos rfl, hwr.out]
end
theorem RollKinds : presidiolaw16_RollKinds.Pure := by
  intro l0 hm hs hx
  refine ⟨100, ?_⟩
  have hx' : ∀ x ∈ l0, 0 ≤ x ∧ x ≤ 255 := fun x h => byte_in (hx x h)
  unfold presidiolaw16_RollKinds.f presidiolaw16_begun.f
  rw [Option.bind_some, if_pos rfl]
  by_cases h40 : (l0.length : Int) > 40
  · rw [if_pos h40]
  rw [if_neg h40]
  obtain ⟨T, C, ps, q, P, h1, h2, h3, h4, h5, h6⟩ := bill_made hx' (by omega)
  have hi := (chk_in h4).1
  rw [show presidioplay_Made.f l0 = some (l0, 0) from rfl]
  rw [Option.bind_some]
  rw [h1]
  rw [Option.bind_some]
  rw [h3]
  rw [Option.bind_some]
  have hls : ∀ id, lst (T + 140) T 60 C ps id = ((sel id 0 ps).flatMap (gr C ps), ((sel id 0 ps).length : Int)) := fun id => by
    unfold lst
    rw [if_pos h4, cnt_sel id ps 0]
    have := rows_sel C id ps ps.length 0 (by omega)
    rw [List.drop_zero] at this
    rw [this]
  have hse : ∀ id, sel id 0 (ps.drop 0) = sel id 0 ps := fun id => by rw [List.drop_zero]
  have hsl : ∀ id, (sel id 0 ps).length ≤ 6 := fun id => by
    have h := cnt_sel id ps 0
    have hb : ∀ (l : List S56), 0 ≤ cnt id l ∧ cnt id l ≤ l.length := by
      intro l
      induction l with
      | nil => simp [cnt]
      | cons p t ih => simp only [cnt, List.length_cons]; split <;> omega
    have := hb ps
    omega
  have hall : (sel 0 0 ps).flatMap (gr C ps) = (List.range ps.length).flatMap (gr C ps) := by rw [sel_zero, List.range_eq_range']
  have hal : (sel 0 0 ps).length = ps.length := by rw [sel_zero, List.length_range']
  have htwo := cnt_two ps h6
  rw [cnt_sel 1 ps 0, cnt_sel 2 ps 0] at htwo
  rw [list_k (by omega) h5, hls]
  rw [Option.bind_some]
  obtain ⟨all, ha⟩ : ∃ a, (sel 0 0 ps).flatMap (gr C ps) = a := ⟨_, rfl⟩
  have halen : all.length = 8 * ps.length := by rw [← ha, flat_len (gr_len C ps), hal]
  rw [ha] at hall ⊢
  have ew := Lib.hid (show wrap64 (8 * (ps.length : Int)) = ((8 * ps.length : Nat) : Int) from by unfold wrap64; omega)
  rw [hal, if_pos rfl, ew.out]
  rw [show (100 : Nat) = 99 + 1 from rfl]
  rw [presidiolaw16_RollKinds.j0]
  rw [if_neg (by rw [halen]; simp), show (99 : Nat) = 98 + 1 from rfl]
  rw [presidiolaw16_RollKinds.l0]
  have w1 : ∀ n : Nat, n ≤ 6 → wrap64 (8 * (n : Int)) = ((8 * n : Nat) : Int) := fun n h => by unfold wrap64; omega
  rw [if_pos (by decide), list_k (by omega) h5, hls]
  rw [Option.bind_some]
  have hb1 := hsl 1
  have hb2 := hsl 2
  rw [w1 _ hb1, if_pos (by rw [flat_len (gr_len C ps)])]
  have s1 := Lib.hid (show wrap64 (0 + ((sel 1 0 ps).length : Int)) = ((sel 1 0 ps).length : Int) from by unfold wrap64; omega)
  rw [s1.out]
  obtain ⟨k1, e1, r1⟩ := kinds_l1 (T + 140) T 60 C ps all (by omega) hall ((sel 1 0 ps).length : Int) 1 (by decide) (sel 1 0 ps)
    (fun j hj => by have := sel_mem 1 ps ps.length 0 (by omega) j (by rw [List.drop_zero]; exact hj); exact ⟨this.2.1, this.2.2 (by decide)⟩) hb1 (sel 1 0 ps).length 0 98 (by omega) (by omega)
  rw [show ((0 : Nat) : Int) = 0 from rfl] at r1
  rw [r1, show ((1 : Int) + 1) % 4294967296 = 2 from rfl]
  obtain ⟨k2, rfl⟩ : ∃ m, k1 = m + 1 := ⟨k1 - 1, by omega⟩
  rw [presidiolaw16_RollKinds.l0]
  rw [if_pos (by decide), list_k (by omega) h5, hls]
  rw [Option.bind_some]
  rw [w1 _ hb2, if_pos (by rw [flat_len (gr_len C ps)])]
  have s2 := Lib.hid (show wrap64 (((sel 1 0 ps).length : Int) + ((sel 2 0 ps).length : Int)) = (ps.length : Int) from by unfold wrap64; omega)
  rw [s2.out]
  obtain ⟨k3, e3, r3⟩ := kinds_l1 (T + 140) T 60 C ps all (by omega) hall (ps.length : Int) 2 (by decide) (sel 2 0 ps)
    (fun j hj => by have := sel_mem 2 ps ps.length 0 (by omega) j (by rw [List.drop_zero]; exact hj); exact ⟨this.2.1, this.2.2 (by decide)⟩) hb2 (sel 2 0 ps).length 0 k2 (by omega) (by omega)
  rw [show ((0 : Nat) : Int) = 0 from rfl] at r3
  rw [r3, show ((2 : Int) + 1) % 4294967296 = 3 from rfl]
  obtain ⟨k4, rfl⟩ : ∃ m, k3 = m + 1 := ⟨k3 - 1, by omega⟩
  rw [presidiolaw16_RollKinds.l0]
  rw [if_neg (by decide)]
  simp
end Go.Proofs.Ytecliaogidemjaa.RollC
