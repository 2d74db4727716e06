/- A region that draws its order: the operations that only read are taken first, where the cells that they read are kept (S) by those operations (F) that may come before them; what is left is a chain. After the library's law on held cells (OrdersHeld), with S asked only behind the operations of F. -/
import Derived.OrdersHeld
import Derived.Test.YtllhgbanbelmaaaGreatBase
import Derived.Tactics
import Derived.Calls
import Derived.ScopeJumps
import Derived.Scope
namespace Go.Proofs.YtllhgbanbelmaaaGreat
section
variable {P : Program} {ops : Array Oper} {Q : Exit → Act → World → Prop} {md : Region.Mode} {S : World → Prop} {F : Nat}

def wpAnyF (P : Program) (md : Region.Mode) (ops : Array Oper) (Q : Exit → Act → World → Prop) (S : World → Prop) (F : Nat) : Nat → Array Bool → Act → World → Prop
  | 0, listed, a, w => Region.ready md ops listed = [] ∧ Q .normal a w
  | fuel + 1, listed, a, w =>
    (Region.ready md ops listed = [] → Q .normal a w) ∧
    ∀ i ∈ Region.ready md ops listed, wpOp P ops Q i (fun a' w' => (i < F → S w') ∧ wpAnyF P md ops Q S F fuel (listed.setIfInBounds i true) a' w') a w
theorem wpAny_of_F : ∀ (fuel : Nat) (listed : Array Bool) (a : Act) (w : World), wpAnyF P md ops Q S F fuel listed a w → wpAny P md ops Q fuel listed a w
  | 0, _, _, _, h => h
  | fuel + 1, _, _, _, h => ⟨h.1, fun i hi => wpOp_mono (fun a' w' h' => wpAny_of_F fuel _ a' w' h'.2) (h.2 i hi)⟩

theorem wpF_first {i : Nat} {oi : Oper} {v : Value} (hi : ops[i]? = some oi) (hsel : ∀ (j : Nat) (o : Oper) cs b, ops[j]? = some o → o.op ≠ .select cs b)
    (hQ : ∀ c a w, Q (.panic c) (a.put oi.dst v) w → Q (.panic c) a w) :
    ∀ (fuel : Nat) (listed : Array Bool) (a : Act) (w : World),
      (∀ j oj, ops[j]? = some oj → j ≠ i → listed.getD j true = false → (∀ e ∈ oj.after, Region.binds md e = true → e.on ≠ i) → oi.apart ops oj = true ∧ j < F) →
      i ∈ Region.ready md ops listed → YieldsIf P ops S oi v a → S w →
      wpAnyF P md ops Q S F fuel (listed.setIfInBounds i true) (a.put oi.dst v) w → wpAnyF P md ops Q S F (fuel + 1) listed a w := by
  intro fuel
  induction fuel with
  | zero =>
    intro listed a w _ hr hy hS H
    refine ⟨fun h => (by rw [h] at hr; cases hr), fun j hj => ?_⟩
    by_cases hji : j = i
    · subst hji; exact hy.wpOp hi hS ⟨fun _ => hS, H⟩
    · have := ready_mono hj hji
      rw [H.1] at this
      cases this
  | succ fuel ih =>
    intro listed a w hfree hr hy hS H
    refine ⟨fun h => (by rw [h] at hr; cases hr), fun j hj => ?_⟩
    by_cases hji : j = i
    · subst hji; exact hy.wpOp hi hS ⟨fun _ => hS, H⟩
    · have h1 := H.2 j (ready_mono hj hji)
      obtain ⟨hjun, oj, hoj, hall⟩ := mem_ready.1 hj
      have hnot : ∀ e ∈ oj.after, Region.binds md e = true → e.on ≠ i := fun e he hb heq => by
        have h1 := hall e he hb
        have h0 := (mem_ready.1 hr).1
        rw [heq] at h1
        rcases Nat.lt_or_ge i listed.size with h' | h'
        · simp [h'] at h0 h1; rw [h0] at h1; cases h1
        · simp [Array.getElem?_eq_none h'] at h1
      obtain ⟨hap, hF⟩ := hfree j oj hoj hji hjun hnot
      have h2 := wpOp_putIf hoj hap (fun cs b => hsel i oi cs b hi) (fun cs b => hsel j oj cs b hoj) hQ hy h1
      have hfree' : ∀ k ok, ops[k]? = some ok → k ≠ i → (listed.setIfInBounds j true).getD k true = false →
          (∀ e ∈ ok.after, Region.binds md e = true → e.on ≠ i) → oi.apart ops ok = true ∧ k < F := fun k ok hk hki hun hno => by
        refine hfree k ok hk hki ?_ hno
        by_cases hjk : j = k
        · subst hjk; exact hjun
        · rw [getD_set_ne true hjk] at hun; exact hun
      refine wpOp_mono (fun a' w' h3 => ⟨h3.2.1, ih (listed.setIfInBounds j true) a' w' hfree' (ready_mono hr (Ne.symm hji)) h3.1 (h3.2.1 hF) ?_⟩) h2
      rw [Array.setIfInBounds_comm _ _ hji]
      exact h3.2.2

/-- every operation that has not come up and does not wait for i is one of the first F -/
def floats (md : Region.Mode) (ops : Array Oper) (listed : Array Bool) (F : Nat) (i : Nat) : Bool :=
  (List.range ops.size).all fun j => j == i || listed.getD j true || decide (j < F) || ((ops[j]?).map fun o => o.after.any fun e => Region.binds md e && e.on == i).getD true
theorem floats_spec {listed : Array Bool} {i : Nat} (h : floats md ops listed F i = true) :
    ∀ j oj, ops[j]? = some oj → j ≠ i → listed.getD j true = false → (∀ e ∈ oj.after, Region.binds md e = true → e.on ≠ i) → j < F := by
  intro j oj hj hji hun hno
  have hlt : j < ops.size := (Array.getElem?_eq_some_iff.1 hj).1
  have h1 := List.all_eq_true.1 h j (List.mem_range.2 hlt)
  simp only [Bool.or_eq_true, beq_iff_eq, hun, hj, Option.map_some, Option.getD_some, decide_eq_true_eq] at h1
  rcases h1 with ((h1 | h1) | h1) | h1
  · exact absurd h1 hji
  · cases h1
  · exact h1
  · obtain ⟨e, he, hb⟩ := Array.any_eq_true'.1 h1
    simp only [Bool.and_eq_true, beq_iff_eq] at hb
    exact absurd hb.2 (hno e he hb.1)
def takeB (ops : Array Oper) (listed : Array Bool) (F i : Nat) : Bool :=
  Region.noSelect ops && Region.free .any ops listed i && (Region.ready .any ops listed).contains i && floats .any ops listed F i

/-- take number i first: it reads what S holds -/
theorem wpF_take (i : Nat) {oi : Oper} {v : Value} {fuel : Nat} {listed : Array Bool} {a : Act} {w : World} (hi : ops[i]? = some oi) (hB : takeB ops listed F i = true)
    (hQ : ∀ c a w, Q (.panic c) (a.put oi.dst v) w → Q (.panic c) a w) (hw : Region.wanted oi (yielded ops a.tmps) = true) (hS : S w) (hy : ∀ w, S w → (execOp a.eval oi).run P w = .ok (.value v) w)
    (h : wpAnyF P .any ops Q S F fuel (listed.setIfInBounds i true) (a.put oi.dst v) w) : wpAnyF P .any ops Q S F (fuel + 1) listed a w := by
  simp only [takeB, Bool.and_eq_true] at hB
  obtain ⟨⟨⟨h1, h2⟩, h3⟩, h4⟩ := hB
  exact wpF_first hi (Region.noSelect_spec h1) hQ fuel listed a w (fun j oj a b c d => ⟨Region.free_spec hi h2 j oj a b c d, floats_spec h4 j oj a b c d⟩) (by simpa using h3) (.inl ⟨hw, hy⟩) hS h
/-- number i does not run: its guard says no -/
theorem wpF_skip (i : Nat) {oi : Oper} {fuel : Nat} {listed : Array Bool} {a : Act} {w : World} (hi : ops[i]? = some oi) (hB : takeB ops listed F i = true)
    (hQ : ∀ c a w, Q (.panic c) (a.put oi.dst undef) w → Q (.panic c) a w) (hw : Region.wanted oi (yielded ops a.tmps) = false) (hS : S w)
    (h : wpAnyF P .any ops Q S F fuel (listed.setIfInBounds i true) (a.put oi.dst undef) w) : wpAnyF P .any ops Q S F (fuel + 1) listed a w := by
  simp only [takeB, Bool.and_eq_true] at hB
  obtain ⟨⟨⟨h1, h2⟩, h3⟩, h4⟩ := hB
  exact wpF_first hi (Region.noSelect_spec h1) hQ fuel listed a w (fun j oj a b c d => ⟨Region.free_spec hi h2 j oj a b c d, floats_spec h4 j oj a b c d⟩) (by simpa using h3) (.inr ⟨hw, rfl⟩) hS h
/-- the next of the chain; behind it S is to be shown if it is one of F -/
theorem wpF_one (i : Nat) {oi : Oper} {fuel : Nat} {listed : Array Bool} {a : Act} {w : World} (hi : ops[i]? = some oi) (hr : Region.ready md ops listed = [i])
    (h : wpList P ops (Exit.then (fun a' w' => (i < F → S w') ∧ wpAnyF P md ops Q S F fuel (listed.setIfInBounds i true) a' w') Q) [oi] a w) : wpAnyF P md ops Q S F (fuel + 1) listed a w := by
  refine ⟨fun h0 => (by rw [hr] at h0; cases h0), fun j hj => ?_⟩
  rw [hr] at hj
  obtain rfl := List.mem_singleton.1 hj
  unfold wpOp
  simp only [hi]
  unfold wpList at h
  by_cases hw : Region.wanted oi (yielded ops a.tmps) = true
  · simp only [hw, if_true] at h ⊢
    rcases h with h | ⟨h1, a', w', h2⟩
    · refine .inl ?_
      unfold Oper.wp at *
      generalize (execOp a.eval oi).run P w = r at *
      cases r with
      | ok n w' =>
        cases n <;> simp only [Oper.upon] at h ⊢ <;>
          first
            | exact h
            | exact Calls.mono h (fun e w'' he => by cases e <;> exact he)
            | exact Rows.mono h (fun _ _ he => he)
      | halt x w' => cases x <;> simp only [Oper.upon] at h ⊢ <;> exact h
    · exact .inr ⟨h1, a', w', h2⟩
  · simp only [hw] at h ⊢
    exact h
theorem wpF_done {listed : Array Bool} {a : Act} {w : World} (hr : Region.ready md ops listed = []) (h : Q .normal a w) : ∀ fuel, wpAnyF P md ops Q S F fuel listed a w
  | 0 => ⟨hr, h⟩
  | _ + 1 => ⟨fun _ => h, by rw [hr]; simp⟩

/-- from here on the operations come in this order, whatever is drawn -/
def chainB (md : Region.Mode) (ops : Array Oper) : List Nat → Array Bool → Bool
  | [], listed => Region.ready md ops listed == []
  | i :: rest, listed => (Region.ready md ops listed == [i]) && chainB md ops rest (listed.setIfInBounds i true)
theorem wpF_chain : ∀ (is : List Nat) (os : List Oper) (fuel : Nat) (listed : Array Bool) (a : Act) (w : World), is.map (ops[·]?) = os.map some → chainB md ops is listed = true →
    is.all (fun i => decide (F ≤ i)) = true → is.length ≤ fuel → wpList P ops Q os a w → wpAnyF P md ops Q S F fuel listed a w
  | [], os, fuel, listed, a, w, hm, hc, _, _, h => by
    cases os with
    | nil => exact wpF_done (by simpa [chainB] using hc) h fuel
    | cons o os => simp at hm
  | i :: is, [], _, _, _, _, hm, _, _, _, _ => by simp at hm
  | i :: is, o :: os, 0, _, _, _, _, _, _, hl, _ => by simp at hl
  | i :: is, o :: os, fuel + 1, listed, a, w, hm, hc, hF, hl, h => by
    simp only [List.map_cons, List.cons.injEq] at hm
    simp only [chainB, Bool.and_eq_true, beq_iff_eq] at hc
    simp only [List.all_cons, Bool.and_eq_true, decide_eq_true_eq] at hF
    have key : ∀ a w, wpList P ops Q os a w → (i < F → S w) ∧ wpAnyF P md ops Q S F fuel (listed.setIfInBounds i true) a w := fun a w h =>
      ⟨fun h' => (by have := hF.1; omega), wpF_chain is os fuel _ a w hm.2 hc.2 hF.2 (by simpa using hl) h⟩
    refine ⟨fun h0 => (by rw [hc.1] at h0; cases h0), fun j hj => ?_⟩
    rw [hc.1] at hj
    obtain rfl := List.mem_singleton.1 hj
    unfold wpOp
    simp only [hm.1]
    unfold wpList at h
    by_cases hw : Region.wanted o (yielded ops a.tmps) = true
    · simp only [hw, if_true] at h ⊢
      exact h.imp (Oper.wp_mono key) id
    · simp only [hw] at h ⊢
      exact key _ _ h
theorem wpF_tail {fuel : Nat} {listed : Array Bool} {a : Act} {w : World} (hc : (chainB md ops (List.range' F (ops.size - F)) listed && decide (ops.size - F ≤ fuel)) = true)
    (h : wpList P ops Q (ops.toList.drop F) a w) : wpAnyF P md ops Q S F fuel listed a w := by
  simp only [Bool.and_eq_true, decide_eq_true_eq] at hc
  refine wpF_chain (List.range' F (ops.size - F)) (ops.toList.drop F) fuel listed a w ?_ hc.1 ?_ (by simpa using hc.2) h
  · refine List.ext_getElem (by simp) fun i h1 h2 => ?_
    simp at h1
    simp [Array.getElem?_eq_getElem (show F + i < ops.size by omega)]
  · simp [List.mem_range']
    omega
theorem wp_region_F {id : Nat} {a : Act} {w : World} (S : World → Prop) (F N : Nat) (hm : P.follows .mixedOrders = true) (hN : ops.size = N)
    (h : wpAnyF P .any ops Q S F N (Array.replicate N false) a w.drew) : (Code.region id ops true).wp P Q a w := by
  subst hN
  exact wp_region_any hm (wpAny_of_F _ _ _ _ h)
theorem wp_region_G {id : Nat} {a : Act} {w : World} (S : World → Prop) (F N : Nat) (hm : P.follows .mixedOrders = true) (hN : ops.size = N)
    (h : ∀ w1, Same w w1 → wpAnyF P .any ops Q S F N (Array.replicate N false) a w1) : (Code.region id ops true).wp P Q a w :=
  wp_region_F S F N hm hN (h _ (Same.drew w))
/-- a scope that is left by going on once to a label -/
theorem wp_scope_once {c rest : Code} {a : Act} {w : World} (l : Nat) (hf : findLabel c l = some rest) (h : c.wp P (Exit.jump l (fun a w => rest.wp P (Exit.noGoto Q) a w) Q) a w) : (Code.scope c).wp P Q a w :=
  wp_scope_jumps l _ (fun _ _ => 0) hf h fun a w hJ => wp_mono hJ fun e a w h => by
    cases e <;> first | exact h | exact h.elim
end
end Go.Proofs.YtllhgbanbelmaaaGreat
