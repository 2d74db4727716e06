/- A drawn region where two operations with effects are ready at once: both ways are walked. -/
import Derived.Test.YtllhgbanbelmaaaGreatPlan
import Derived.Deep.DeepCutAuto
namespace Go.Proofs.YtllhgbanbelmaaaGreat
section
variable {P : Program} {ops : Array Oper} {Q : Exit → Act → World → Prop} {md : Region.Mode} {S : World → Prop} {F : Nat}
theorem wpF_step (i : Nat) {oi : Oper} {fuel : Nat} {listed : Array Bool} {a : Act} {w : World} (hi : ops[i]? = some oi)
    (h : wpList P ops (Exit.then (fun a' w' => (i < F → S w') ∧ wpAnyF P md ops Q S F fuel (listed.setIfInBounds i true) a' w') Q) [oi] a w) : wpOp P ops Q i (fun a' w' => (i < F → S w') ∧ wpAnyF P md ops Q S F fuel (listed.setIfInBounds i true) a' w') a w := by
  unfold wpOp
  simp only [hi]
  unfold wpList at h
  by_cases hw : Region.wanted oi (yielded ops a.tmps) = true
  · simp only [hw, if_true] at h ⊢
    rcases h with h | ⟨h1, a', w', h2⟩
    · refine .inl ?_
      unfold Oper.wp at *
      generalize (execOp a.eval oi).run P w = r at *
      cases r with
      | ok n w' =>
        cases n <;> simp only [Oper.upon] at h ⊢ <;>
          first
            | exact h
            | exact Calls.mono h (fun e w'' he => by cases e <;> exact he)
            | exact Rows.mono h (fun _ _ he => he)
      | halt x w' => cases x <;> simp only [Oper.upon] at h ⊢ <;> exact h
    · exact .inr ⟨h1, a', w', h2⟩
  · simp only [hw] at h ⊢
    exact h
/-- either of two may come next -/
theorem wpF_two (i j : Nat) {oi oj : Oper} {fuel : Nat} {listed : Array Bool} {a : Act} {w : World} (hi : ops[i]? = some oi) (hj : ops[j]? = some oj) (hr : Region.ready md ops listed = [i, j])
    (h1 : wpList P ops (Exit.then (fun a' w' => (i < F → S w') ∧ wpAnyF P md ops Q S F fuel (listed.setIfInBounds i true) a' w') Q) [oi] a w)
    (h2 : wpList P ops (Exit.then (fun a' w' => (j < F → S w') ∧ wpAnyF P md ops Q S F fuel (listed.setIfInBounds j true) a' w') Q) [oj] a w) : wpAnyF P md ops Q S F (fuel + 1) listed a w := by
  refine ⟨fun h0 => (by rw [hr] at h0; cases h0), fun k hk => ?_⟩
  rw [hr] at hk
  rcases List.mem_cons.1 hk with rfl | hk
  · exact wpF_step _ hi h1
  · obtain rfl := List.mem_singleton.1 hk
    exact wpF_step _ hj h2
end
end Go.Proofs.YtllhgbanbelmaaaGreat
