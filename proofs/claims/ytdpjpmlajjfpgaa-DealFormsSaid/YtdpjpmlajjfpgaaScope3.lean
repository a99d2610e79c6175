/- A scope of three labels: two of them are jumped back to, one is the end. -/
import Derived.ScopeJumps
import Derived.Test.YtdpjpmlajjfpgaaMem
namespace Go.Proofs.Ytdpjpmlajjfpgaa.Scope3
open Go
/-- As Q; by a goto to 0, 1, 2: J0, J1, J2. -/
def ex (J0 J1 J2 : Act → World → Prop) (Q : Exit → Act → World → Prop) : Exit → Act → World → Prop
  | .goto l, a, w => (l = 0 ∧ J0 a w) ∨ (l = 1 ∧ J1 a w) ∨ (l = 2 ∧ J2 a w)
  | e, a, w => Q e a w
variable {P : Program} {Q : Exit → Act → World → Prop}
theorem ex_mono {J0 J1 J2 K0 K1 K2 : Act → World → Prop} (h0 : ∀ a w, J0 a w → K0 a w) (h1 : ∀ a w, J1 a w → K1 a w) (h2 : ∀ a w, J2 a w → K2 a w) {c : Code} {a : Act} {w : World} (h : c.wp P (ex J0 J1 J2 Q) a w) : c.wp P (ex K0 K1 K2 Q) a w :=
  Code.wp_mono (fun e a w hq => by
    cases e with
    | goto l =>
      rcases hq with ⟨e, h⟩ | ⟨e, h⟩ | ⟨e, h⟩
      · exact Or.inl ⟨e, h0 _ _ h⟩
      · exact Or.inr (Or.inl ⟨e, h1 _ _ h⟩)
      · exact Or.inr (Or.inr ⟨e, h2 _ _ h⟩)
    | _ => exact hq) h
theorem wp_scope3 {a : Act} {w : World} {c r0 r1 r2 : Code} (J0 J1 J2 : Act → World → Prop) (μ1 μ2 : Act → World → Nat)
    (f0 : findLabel c 0 = some (Code.skip.seq r0)) (f1 : findLabel c 1 = some (Code.skip.seq r1)) (f2 : findLabel c 2 = some (Code.skip.seq r2))
    (p0 : ∀ X Y Z a w, J0 a w → r0.wp P (ex X Y Z Q) a w)
    (p2 : (∀ X Y Z a w, J0 a w → r0.wp P (ex X Y Z Q) a w) → ∀ a w, J2 a w → r2.wp P (ex J0 (fun _ _ => False) (fun a' w' => J2 a' w' ∧ μ2 a' w' < μ2 a w) Q) a w)
    (p1 : (∀ X a w, J2 a w → r2.wp P (ex J0 X J2 Q) a w) → ∀ a w, J1 a w → r1.wp P (ex J0 (fun a' w' => J1 a' w' ∧ μ1 a' w' < μ1 a w) J2 Q) a w)
    (first : (∀ a w, J1 a w → r1.wp P (ex J0 J1 J2 Q) a w) → c.wp P (ex J0 J1 J2 Q) a w) : (Code.scope c).wp P Q a w := by
  have P2 := p2 p0
  have P1 := p1 (fun X a w h => ex_mono (fun _ _ h => h) (fun _ _ h => h.elim) (fun _ _ h => h.1) (P2 a w h))
  have F := first (fun a w h => ex_mono (fun _ _ h => h) (fun _ _ h => h.1) (fun _ _ h => h) (P1 a w h))
  intro b k cs
  have g0 : gotoIn 0 (.inScope c :: k) = some (.code (Code.skip.seq r0) :: .inScope c :: k) := by simp [gotoIn, f0]
  have g1 : gotoIn 1 (.inScope c :: k) = some (.code (Code.skip.seq r1) :: .inScope c :: k) := by simp [gotoIn, f1]
  have g2 : gotoIn 2 (.inScope c :: k) = some (.code (Code.skip.seq r2) :: .inScope c :: k) := by simp [gotoIn, f2]
  have A0 : ∀ a w, J0 a w → ∃ e a' w', Q e a' w' ∧ Arrives P (lone (b.at a (.code (Code.skip.seq r0) :: .inScope c :: k)) cs w) b k cs e a' w' := by
    intro a w hJ
    obtain ⟨e, a₁, w₁, hq, harr⟩ := wp_seq (wp_skip (p0 (fun _ _ => False) (fun _ _ => False) (fun _ _ => False) a w hJ)) b (.inScope c :: k) cs
    cases e with
    | normal => exact ⟨.normal, a₁, w₁, hq, Steps.trans harr (.one step_inScope)⟩
    | exit id => exact ⟨.exit id, a₁, w₁, hq, fun k' hk => harr k' (by simp [exitTo, hk])⟩
    | goto l' => rcases hq with ⟨_, h⟩ | ⟨_, h⟩ | ⟨_, h⟩ <;> exact h.elim
    | ret => exact ⟨_, a₁, w₁, hq, harr⟩
    | panic ch => exact ⟨_, a₁, w₁, hq, harr⟩
    | outgrown => exact ⟨_, a₁, w₁, hq, harr⟩
  have A2 : ∀ n a w, μ2 a w = n → J2 a w → ∃ e a' w', Q e a' w' ∧ Arrives P (lone (b.at a (.code (Code.skip.seq r2) :: .inScope c :: k)) cs w) b k cs e a' w' := by
    intro n
    induction n using Nat.strongRecOn with
    | _ n ih =>
      intro a w hn hJ
      obtain ⟨e, a₁, w₁, hq, harr⟩ := wp_seq (wp_skip (P2 a w hJ)) b (.inScope c :: k) cs
      cases e with
      | normal => exact ⟨.normal, a₁, w₁, hq, Steps.trans harr (.one step_inScope)⟩
      | exit id => exact ⟨.exit id, a₁, w₁, hq, fun k' hk => harr k' (by simp [exitTo, hk])⟩
      | goto l' =>
        rcases hq with ⟨rfl, h⟩ | ⟨_, h⟩ | ⟨rfl, h, hlt⟩
        · obtain ⟨e₂, a₂, w₂, hq₂, harr₂⟩ := A0 a₁ w₁ h
          exact ⟨e₂, a₂, w₂, hq₂, .of_steps (harr _ g0) harr₂⟩
        · exact h.elim
        · obtain ⟨e₂, a₂, w₂, hq₂, harr₂⟩ := ih _ (by omega) a₁ w₁ rfl h
          exact ⟨e₂, a₂, w₂, hq₂, .of_steps (harr _ g2) harr₂⟩
      | ret => exact ⟨_, a₁, w₁, hq, harr⟩
      | panic ch => exact ⟨_, a₁, w₁, hq, harr⟩
      | outgrown => exact ⟨_, a₁, w₁, hq, harr⟩
  have A1 : ∀ n a w, μ1 a w = n → J1 a w → ∃ e a' w', Q e a' w' ∧ Arrives P (lone (b.at a (.code (Code.skip.seq r1) :: .inScope c :: k)) cs w) b k cs e a' w' := by
    intro n
    induction n using Nat.strongRecOn with
    | _ n ih =>
      intro a w hn hJ
      obtain ⟨e, a₁, w₁, hq, harr⟩ := wp_seq (wp_skip (P1 a w hJ)) b (.inScope c :: k) cs
      cases e with
      | normal => exact ⟨.normal, a₁, w₁, hq, Steps.trans harr (.one step_inScope)⟩
      | exit id => exact ⟨.exit id, a₁, w₁, hq, fun k' hk => harr k' (by simp [exitTo, hk])⟩
      | goto l' =>
        rcases hq with ⟨rfl, h⟩ | ⟨rfl, h, hlt⟩ | ⟨rfl, h⟩
        · obtain ⟨e₂, a₂, w₂, hq₂, harr₂⟩ := A0 a₁ w₁ h
          exact ⟨e₂, a₂, w₂, hq₂, .of_steps (harr _ g0) harr₂⟩
        · obtain ⟨e₂, a₂, w₂, hq₂, harr₂⟩ := ih _ (by omega) a₁ w₁ rfl h
          exact ⟨e₂, a₂, w₂, hq₂, .of_steps (harr _ g1) harr₂⟩
        · obtain ⟨e₂, a₂, w₂, hq₂, harr₂⟩ := A2 _ a₁ w₁ rfl h
          exact ⟨e₂, a₂, w₂, hq₂, .of_steps (harr _ g2) harr₂⟩
      | ret => exact ⟨_, a₁, w₁, hq, harr⟩
      | panic ch => exact ⟨_, a₁, w₁, hq, harr⟩
      | outgrown => exact ⟨_, a₁, w₁, hq, harr⟩
  obtain ⟨e, a₁, w₁, hq, harr⟩ := F b (.inScope c :: k) cs
  cases e with
  | normal => exact ⟨.normal, a₁, w₁, hq, .head step_scope (Steps.trans harr (.one step_inScope))⟩
  | exit id => exact ⟨.exit id, a₁, w₁, hq, fun k' hk => .head step_scope (harr k' (by simp [exitTo, hk]))⟩
  | goto l' =>
    rcases hq with ⟨rfl, h⟩ | ⟨rfl, h⟩ | ⟨rfl, h⟩
    · obtain ⟨e₂, a₂, w₂, hq₂, harr₂⟩ := A0 a₁ w₁ h
      exact ⟨e₂, a₂, w₂, hq₂, .of_steps (.head step_scope (harr _ g0)) harr₂⟩
    · obtain ⟨e₂, a₂, w₂, hq₂, harr₂⟩ := A1 _ a₁ w₁ rfl h
      exact ⟨e₂, a₂, w₂, hq₂, .of_steps (.head step_scope (harr _ g1)) harr₂⟩
    · obtain ⟨e₂, a₂, w₂, hq₂, harr₂⟩ := A2 _ a₁ w₁ rfl h
      exact ⟨e₂, a₂, w₂, hq₂, .of_steps (.head step_scope (harr _ g2)) harr₂⟩
  | ret => exact ⟨_, a₁, w₁, hq, .of_steps (.one step_scope) harr⟩
  | panic ch => exact ⟨_, a₁, w₁, hq, .of_steps (.one step_scope) harr⟩
  | outgrown => exact ⟨_, a₁, w₁, hq, .of_steps (.one step_scope) harr⟩
end Go.Proofs.Ytdpjpmlajjfpgaa.Scope3
