/- Grow, Concat at four rows of eight bytes. -/
import Derived.Test.YtllhgbanbelmaaaGreatOpb
import Derived.Test.YtllhgbanbelmaaaGreatLawb
namespace Go.Proofs.YtllhgbanbelmaaaGreat
open Go.RowKit
variable {B : Nat} {T : List Nat} {D R : Bool} {Y Y' : Sys} {w w' : World}
theorem u3 : Tryz.prog.underlying 3 = some (.int .i64) := by kernel_rfl
section
variable {P : Program} (w : World)
theorem wpList_appz {ops : Array Oper} {rest : List Oper} {o : Oper} {a : Act} {Q : Exit → Act → World → Prop} (hgd : o.guard = none) (s x : Operand) {t tn : TypeId}
    (ho : o.op = .call { callee := .builtin .append, args := #[s, x], argTypes := #[t, tn] })
    (base : Nat) {e bytes : Nat} {z : Value} (L : SlT P t e 1 bytes z) (hz : z.cells = #[z]) (hzo : z.oneCell' = true) (htn : P.underlying tn = some (.int .i64)) {v : Value} {n : Nat} {xs : List Value} (hown : w.ownsRow base e 1 v n xs) (hs : a.eval s = v)
    {xv : Value} (m : Nat) (hxm : xv = .int .i64 m) (hxv : a.eval x = xv) (hm : 0 < m)
    (hb : n + m ≤ 1099511627776 ∧ (n + m) * bytes ≤ 140737488355328 ∧ base ≤ w.heap.size)
    (h : ∀ v' w', w'.ownsRow base e 1 v' (n + m) (xs ++ List.replicate m z) → w.grownBy w' v.ownBlock → (v'.ownBlock = v.ownBlock ∨ v'.ownBlock = some w.heap.size) → wpList P ops Q rest (a.put o.dst v') w') :
    wpList P ops Q (o :: rest) a w := by
  refine wpList_plain hgd fun K hK => ?_
  subst hxm
  obtain ⟨v', w', hrun, h2, h3, h4⟩ := run_app_z (P := P) w base o.type L hz hzo htn hown m hm hb
  unfold Oper.wp execOp
  simp only [ho, resolve, invoke, builtin, Sem.run_bind, Sem.run_pure, Result.andThen_ok, List.map_toArray, List.map_cons, List.map_nil, hs, hxv, hrun]
  exact hK _ _ (h v' w' h2 h3 h4)
end
theorem own_cut {base n c : Nat} {a : Option Addr} {xs : List Value} (h : w.ownsRow base 5 1 (.slice a n c) n xs) (hn : 0 < n) : w.ownsRow base 5 1 (.slice a 0 c) 0 [] := by
  rcases h.2 with ⟨e, e0⟩ | ⟨g, cap, cur, e, hb, hg, h1, h2, h3, h4⟩
  · omega
  · injection e with e1 e2 e3
    subst e1 e3
    exact ⟨rfl, .inr ⟨g, c, cur, rfl, hb, hg, Nat.zero_le _, h2, h3, by simp⟩⟩

def GrowOut (w : World) (e : Ending) (w' : World) : Prop := ∃ v, e = .returned v ∧ w'.ownsRow w.heap.size 5 1 v 0 [] ∧ Below w.heap.size w w'
set_option maxRecDepth 100000 in
set_option maxHeartbeats 1000000 in
theorem grow263 (w : World) : Calls Tryz.prog 263 #[.slice none 0 0, i64 32] w (GrowOut w) := by
  go_enter Tryz.func263, Tryz.ntmps263
  go_wp2_with (with_reducible refine wpList_appz _ rfl (.tmp 20) (.tmp 21) rfl w.heap.size sl48 rfl rfl u3 (World.ownsRow_nil _ _ _ _) rfl 32 rfl rfl (by decide) ⟨by decide, by decide, Nat.le_refl _⟩ ?_; intro v2 w2 hown2 hg2 hat2; obtain ⟨a2, c2, rfl, hc2, hm2⟩ := own_form hown2)
  go_ret
  exact ⟨_, rfl, own_cut (n := 32) (by simpa using hown2) (by decide), (Below.refl _ _).grown hg2 (Nat.le_refl _) (by simp [Value.ownBlock])⟩

/-- four rows of eight bytes -/
structure Four (w : World) (gl : Nat) (L : List (Value × List UInt8)) : Prop where
  len : L.length = 4
  blk : Blk w gl 48 (L.map (·.1)).toArray
  row : ∀ (i : Nat) (p : Value × List UInt8), L[i]? = some p → p.2.length = 8 ∧ Src w p.1 8 (p.2.map bv)
def ConcatOut (w : World) (L : List (Value × List UInt8)) (e : Ending) (w' : World) : Prop := ∃ v, e = .returned v ∧ w'.ownsRow w.heap.size 5 1 v 32 ((L.flatMap (·.2)).map bv) ∧ Below w.heap.size w w'
theorem flat_take (L : List (Value × List UInt8)) (j : Nat) (p : Value × List UInt8) (h : L[j]? = some p) : (L.take (j + 1)).flatMap (·.2) = (L.take j).flatMap (·.2) ++ p.2 := by
  obtain ⟨hl, rfl⟩ := List.getElem?_eq_some_iff.1 h
  rw [List.take_succ_eq_append_getElem hl, List.flatMap_append]
  simp
set_option maxRecDepth 100000 in
set_option maxHeartbeats 4000000 in
theorem concat235 (gl : Nat) (L : List (Value × List UInt8)) (h : Four w gl L) (c : Nat) : Calls Tryz.prog 235 #[.slice (some ⟨gl, 0, none⟩) 4 c] w (ConcatOut w L) := by
  have hcell : ∀ j, j < 4 → ∃ p, L[j]? = some p ∧ ∃ a c, p.1 = .slice a 8 c ∧ w.cell? ⟨gl, j, none⟩ = some (.slice a 8 c) := by
    intro j hj
    have hlj : j < L.length := by rw [h.len]; exact hj
    have hl : L[j]? = some L[j] := List.getElem?_eq_getElem hlj
    obtain ⟨a, c, e, _⟩ := (h.row j _ hl).2
    refine ⟨_, hl, a, c, e, ?_⟩
    rw [h.blk.cell, List.getElem?_toArray, List.getElem?_map, hl]
    exact congrArg some e
  have hgl := h.blk.lt
  have HC := Lib.hid hcell
  clear hcell
  go_enter Tryz.func235, Tryz.ntmps235
  go_wp2_with fail
  go_loopw [11, 3] (fun t u wr => ∃ j : Nat, j ≤ 4 ∧ t = .int .i64 j ∧ u = .int .i64 (8 * j : Nat) ∧ wr = w) (fun t _ _ => 4 - (intOf t).toNat)
  case atStart => exact ⟨0, Nat.zero_le _, rfl, rfl, rfl⟩
  case round =>
    obtain ⟨j, hj, rfl, rfl, hww⟩ := hrel
    have hww := hww.symm
    subst hww
    by_cases hlt : j < 4
    · have hj' : (j : Int) < 4 := by omega
      obtain ⟨p, hp, a, c', e, hcl⟩ := HC.out j hlt
      have hj8 : ((8 * j : Nat) : Int) ≤ 32 := by omega
      have hj0 : (0 : Int) ≤ ((8 * j : Nat) : Int) := by omega
      have HP := Lib.hid hp
      have HE := Lib.hid e
      clear hp e
      generalize hK : 8 * j = K at *
      have HK := Lib.hid hK
      clear hK
      go_wp2_with fail
      go_roundw
      case rel => exact ⟨j + 1, by omega, by go_num, by rw [show 8 * (j + 1) = K + 8 by have := HK.out; omega]; go_num, trivial⟩
      case measure => simp [intOf]; omega
    · obtain rfl : j = 4 := by omega
      have hgr := fun w => grow263 w
      go_wp2_with ((go_at_call 263; refine (grow263 _).mono ?_); rintro e w1 ⟨v1, rfl, hown1, hb1⟩; obtain ⟨a1, c1, rfl, _, _⟩ := own_form hown1)
      go_loopw [27, 6] (fun t u wr => ∃ j : Nat, j ≤ 4 ∧ t = .int .i64 j ∧ wr.ownsRow w.heap.size 5 1 u (8 * j) (((L.take j).flatMap (·.2)).map bv) ∧ Below w.heap.size w wr) (fun t _ _ => 4 - (intOf t).toNat)
      case atStart => exact ⟨0, Nat.zero_le _, rfl, by simpa using hown1, hb1⟩
      case round =>
        obtain ⟨j, hj, rfl, hown, hbw⟩ := hrel
        obtain ⟨ua, uc, rfl, _, _⟩ := own_form hown
        by_cases hlt : j < 4
        · have hj' : (j : Int) < 4 := by omega
          obtain ⟨p, hp, a, c', e, hcl⟩ := HC.out j hlt
          have hrow := (h.row j p hp)
          rw [e] at hrow
          have hsrc := hrow.2.mono hbw
          have hlen : (p.2.map bv).length = 8 * 1 := by rw [List.length_map, hrow.1]
          have hone := bv_one p.2
          have hft := flat_take L j p hp
          have hcl' : wr.cell? ⟨gl, j, none⟩ = some (.slice a 8 c') := (hbw.cell (p := ⟨gl, j, none⟩) hgl).trans hcl
          have hbnd : 8 * j + 8 ≤ maxLen ∧ (8 * j + 8) * 1 ≤ 140737488355328 ∧ w.heap.size ≤ wr.heap.size := ⟨by unfold maxLen; omega, by omega, hbw.size⟩
          have HFT := Lib.hid hft
          have HLEN := Lib.hid hlen
          clear hft hlen hrow e hcl
          go_wp2_with (with_reducible refine wpList_app _ rfl (.tmp 31) (.tmp 32) rfl w.heap.size sl48 hown rfl hsrc rfl HLEN.out hone hbnd ?_; intro v2 w2 hown2 hg2 hat2)
          go_roundw
          case rel =>
            refine ⟨j + 1, by omega, by go_num, ?_, hbw.grown hg2 hbw.size (fun k hk => own_ge hown hk)⟩
            rw [HFT.out, List.map_append, show 8 * (j + 1) = 8 * j + 8 by omega]
            exact hown2
          case measure => simp [intOf]; omega
        · obtain rfl : j = 4 := by omega
          have htk : L.take 4 = L := List.take_of_length_le (by rw [h.len]; omega)
          rw [htk] at hown
          clear htk
          go_wp2_with fail
          go_ret
          exact ⟨_, rfl, hown, hbw⟩
end Go.Proofs.YtllhgbanbelmaaaGreat
