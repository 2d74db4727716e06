/- Laws of the walk in this seat's words: append onto a row of the call's own from whatever source. No program in sight. -/
import Derived.Test.YtllhgbanbelmaaaGreatBase
import Derived.Maps.AppendAt
import Derived.Deep.AppendLies
import Derived.RegionTactic
import Derived.OwnWalk
import Derived.Laws.CopyOwn
import Derived.Laws.BytesArg
namespace Go.Proofs.YtllhgbanbelmaaaGreat
open Go.RowKit

/-- t is the type of slices of e, whose values take size cells and so many bytes -/
structure SlT (P : Program) (t e : TypeId) (size bytes : Nat) (z : Value) : Prop where
  und : P.underlying t = some (.slice e)
  inf : ∃ i, P.info? e = some i ∧ i.zero = some z ∧ i.size = size ∧ i.bytes = bytes
  zs : z.cells.size = size
  pos : 0 < size
theorem SlT.mk' {P : Program} {t e : TypeId} {size bytes : Nat} {z : Value} (hu : P.underlying t = some (.slice e))
    (hi : (P.info? e).map (fun i => (i.zero, i.size, i.bytes)) = some (some z, size, bytes)) (hz : z.cells.size = size) (hp : 0 < size) : SlT P t e size bytes z :=
  ⟨hu, info_parts hi, hz, hp⟩

/-- the slice value x has m elements and reads as the cells news -/
def Src (w : World) (x : Value) (m : Nat) (news : List Value) : Prop :=
  ∃ a c, x = .slice a m c ∧ (news ≠ [] → ∃ b off, a = some ⟨b, off, none⟩ ∧ ∀ j u, news[j]? = some u → w.cell? ⟨b, off + j, none⟩ = some u)
theorem Src.nil (w : World) (a : Option Addr) (c : Nat) : Src w (.slice a 0 c) 0 [] := ⟨a, c, rfl, fun h => absurd rfl h⟩
theorem Src.lit {w : World} {b t : Nat} {cs : Array Value} (h : Blk w b t cs) (m c : Nat) : Src w (.slice (some ⟨b, 0, none⟩) m c) m cs.toList :=
  ⟨_, c, rfl, fun _ => ⟨b, 0, rfl, fun j u hu => by rw [Nat.zero_add, h.cell]; simpa using hu⟩⟩
theorem Sl.src {B : Nat} {Y : Sys} {t : Nat} {w : World} {v : Value} {xs : List Value} (h : Sl B Y t w v xs) : Src w v xs.length xs := by
  obtain ⟨a, c, rfl, _, _, h⟩ := h
  refine ⟨a, c, rfl, fun hne => ?_⟩
  obtain ⟨b, off, e, _, hc⟩ := h (List.length_pos_iff.2 hne)
  exact ⟨b, off, e, hc⟩
theorem addr_add (b off j : Nat) : (⟨b, off, none⟩ : Addr).add j = ⟨b, off + j, none⟩ := by unfold Addr.add; split <;> simp_all
theorem src_own {w : World} {base e size n : Nat} {v : Value} {xs : List Value} (h : w.ownsRow base e size v n xs) : Src w v n xs := by
  rcases h.2 with ⟨rfl, rfl⟩ | ⟨g, cap, cur, rfl, _, hg, _⟩
  · have : xs = [] := List.eq_nil_of_length_eq_zero (by simpa using h.1)
    subst this
    exact Src.nil w _ _
  · refine ⟨_, cap, rfl, fun _ => ⟨g, 0, rfl, fun j u hu => ?_⟩⟩
    have := h.cells (g := g) rfl j u hu
    rwa [addr_add] at this
theorem Src.mod_new {w w' : World} {x : Value} {m : Nat} {news : List Value} (h : Src w x m news) (hk : ∀ b o, b < w.heap.size → w'.cell? ⟨b, o, none⟩ = w.cell? ⟨b, o, none⟩) : Src w' x m news := by
  obtain ⟨a, c, rfl, h⟩ := h
  refine ⟨a, c, rfl, fun hne => ?_⟩
  obtain ⟨b, off, e, hc⟩ := h hne
  refine ⟨b, off, e, fun j u hu => ?_⟩
  have h1 := hc j u hu
  rw [hk b _ (World.block_lt_of_cell? w _ h1)]
  exact h1

theorem own_empty (w : World) (e size : Nat) : (w.alloc (.cells #[] e)).ownsRow w.heap.size e size (.slice (some ⟨w.heap.size, 0, none⟩) 0 0) 0 [] :=
  World.ownsRow_lit w #[] 0 (Nat.le_refl _) (by decide) (by simp)
theorem all_one {l : List Value} (h : l.all (·.oneCell') = true) : ∀ u ∈ l, u.oneCell' = true := List.all_eq_true.1 h
section
variable {P : Program} (w : World)
theorem run_app (base : Nat) {t e size bytes : Nat} {z : Value} (ty : TypeId) (L : SlT P t e size bytes z) {v : Value} {n : Nat} {xs : List Value} (hown : w.ownsRow base e size v n xs)
    {x : Value} {m : Nat} {news : List Value} (hx : Src w x m news) (hl : news.length = m * size) (h1 : ∀ u ∈ news, u.oneCell' = true)
    (hb : n + m ≤ maxLen ∧ (n + m) * bytes ≤ 140737488355328 ∧ base ≤ w.heap.size) :
    ∃ v' w', (Builtin.append_ #[t, t] ty #[v, x]).run P w = .ok v' w' ∧ w'.ownsRow base e size v' (n + m) (xs ++ news) ∧ w.grownBy w' v.ownBlock ∧
      (v'.ownBlock = v.ownBlock ∨ v'.ownBlock = some w.heap.size) := by
  obtain ⟨i, hi, hz, hs, hby⟩ := L.inf
  obtain ⟨a, c, rfl, hx⟩ := hx
  by_cases hm : news = []
  · subst hm
    have hm0 : m = 0 := by
      rcases Nat.eq_zero_or_pos m with h | h
      · exact h
      · have := Nat.mul_pos h L.pos; simp at hl; omega
    subst hm0
    refine ⟨v, w, ?_, by simpa using hown, World.grownBy.refl w _, .inl rfl⟩
    rcases hown.2 with ⟨rfl, rfl⟩ | ⟨g, cap, cur, rfl, _, _, hnc, _⟩
    · cases a <;> simp [Builtin.append_, run_underlying L.und, sizeOf, typeInfo, hi, Builtin.lenOf, Builtin.firstCells, loadCells, loadCellsFrom]
    · cases a <;> simp [Builtin.append_, run_underlying L.und, sizeOf, typeInfo, hi, Builtin.lenOf, Builtin.firstCells, hnc, storeCells, loadCells, loadCellsFrom]
  · obtain ⟨b, off, rfl, hc⟩ := hx hm
    obtain ⟨v', w', hrun, h2, h3, _, h5⟩ := run_append_own_at (P := P) w base t ty e i z size bytes L.und hi hz hs hby L.zs L.pos v n xs hown ⟨b, off, none⟩ m c news hl
      (fun j u hu => by rw [addr_add]; exact hc j u hu) h1 hb.1 hb.2.1 hb.2.2
    exact ⟨v', w', hrun, h2, h3, h5⟩

theorem wp_app {o : Oper} {a : Act} {K : Act → World → Prop} {Q : Exit → Act → World → Prop} (s x : Operand) {t : TypeId}
    (ho : o.op = .call { callee := .builtin .append, args := #[s, x], argTypes := #[t, t] })
    (base : Nat) {e size bytes : Nat} {z : Value} (L : SlT P t e size bytes z) {v : Value} {n : Nat} {xs : List Value} (hown : w.ownsRow base e size v n xs) (hs : a.eval s = v)
    {xv : Value} {m : Nat} {news : List Value} (hx : Src w xv m news) (hxv : a.eval x = xv) (hl : news.length = m * size) (h1 : ∀ u ∈ news, u.oneCell' = true)
    (hb : n + m ≤ maxLen ∧ (n + m) * bytes ≤ 140737488355328 ∧ base ≤ w.heap.size)
    (h : ∀ v' w', w'.ownsRow base e size v' (n + m) (xs ++ news) → w.grownBy w' v.ownBlock → (v'.ownBlock = v.ownBlock ∨ v'.ownBlock = some w.heap.size) → K (a.put o.dst v') w') : o.wp P a w K Q := by
  obtain ⟨v', w', hrun, h2, h3, h4⟩ := run_app (P := P) w base o.type L hown hx hl h1 hb
  unfold Oper.wp execOp
  simp only [ho, resolve, invoke, builtin, Sem.run_bind, Sem.run_pure, Result.andThen_ok, List.map_toArray, List.map_cons, List.map_nil, hs, hxv, hrun]
  exact h v' w' h2 h3 h4
theorem wpList_app {ops : Array Oper} {rest : List Oper} {o : Oper} {a : Act} {Q : Exit → Act → World → Prop} (hgd : o.guard = none) (s x : Operand) {t : TypeId}
    (ho : o.op = .call { callee := .builtin .append, args := #[s, x], argTypes := #[t, t] })
    (base : Nat) {e size bytes : Nat} {z : Value} (L : SlT P t e size bytes z) {v : Value} {n : Nat} {xs : List Value} (hown : w.ownsRow base e size v n xs) (hs : a.eval s = v)
    {xv : Value} {m : Nat} {news : List Value} (hx : Src w xv m news) (hxv : a.eval x = xv) (hl : news.length = m * size) (h1 : ∀ u ∈ news, u.oneCell' = true)
    (hb : n + m ≤ maxLen ∧ (n + m) * bytes ≤ 140737488355328 ∧ base ≤ w.heap.size)
    (h : ∀ v' w', w'.ownsRow base e size v' (n + m) (xs ++ news) → w.grownBy w' v.ownBlock → (v'.ownBlock = v.ownBlock ∨ v'.ownBlock = some w.heap.size) → wpList P ops Q rest (a.put o.dst v') w') :
    wpList P ops Q (o :: rest) a w :=
  wpList_plain hgd fun _ hK => wp_app w s x ho base L hown hs hx hxv hl h1 hb fun v' w' h2 h3 h4 => hK _ _ (h v' w' h2 h3 h4)
theorem step_app {ops : Array Oper} {o : Oper} {a : Act} {K : Act → World → Prop} {Q : Exit → Act → World → Prop} {E : Prop} (hgd : o.guard = none) (s x : Operand) {t : TypeId}
    (ho : o.op = .call { callee := .builtin .append, args := #[s, x], argTypes := #[t, t] })
    (base : Nat) {e size bytes : Nat} {z : Value} (L : SlT P t e size bytes z) {v : Value} {n : Nat} {xs : List Value} (hown : w.ownsRow base e size v n xs) (hs : a.eval s = v)
    {xv : Value} {m : Nat} {news : List Value} (hx : Src w xv m news) (hxv : a.eval x = xv) (hl : news.length = m * size) (h1 : ∀ u ∈ news, u.oneCell' = true)
    (hb : n + m ≤ maxLen ∧ (n + m) * bytes ≤ 140737488355328 ∧ base ≤ w.heap.size)
    (h : ∀ v' w', w'.ownsRow base e size v' (n + m) (xs ++ news) → w.grownBy w' v.ownBlock → (v'.ownBlock = v.ownBlock ∨ v'.ownBlock = some w.heap.size) → K (a.put o.dst v') w') :
    if Region.wanted o (yielded ops a.tmps) = true then Oper.wp P o a w K Q else E := by
  have hw : Region.wanted o (yielded ops a.tmps) = true := by simp [Region.wanted, hgd]
  rw [if_pos hw]
  exact wp_app w s x ho base L hown hs hx hxv hl h1 hb h
/-- copy into a known row: the count, the row behind it; nothing else turns -/
theorem wpList_cp {ops : Array Oper} {rest : List Oper} {o : Oper} {a : Act} {Q : Exit → Act → World → Prop} (hgd : o.guard = none) (d s : Operand) (dT sT : TypeId)
    (ho : o.op = .call { callee := .builtin .copy, args := #[d, s], argTypes := #[dT, sT] }) {e bytes : Nat} {z : Value} (L : SlT P dT e 1 bytes z)
    {g off dn dc t : Nat} {cur : List Value} (hg : Blk w g t cur.toArray) (hd : a.eval d = .slice (some ⟨g, off, none⟩) dn dc)
    {x : Value} {m : Nat} {news : List Value} (hx : Src w x m news) (hxv : a.eval s = x) (hl : news.length = m) (hfit : off + dn ≤ cur.length) (h1 : ∀ u ∈ news, u.oneCell' = true)
    (h : ∀ w', Blk w' g t (splice cur off (news.take dn)).toArray → w.grownBy w' (some g) → w'.heap.size = w.heap.size → wpList P ops Q rest (a.put o.dst (.int .i64 (min m dn : Nat))) w') : wpList P ops Q (o :: rest) a w := by
  obtain ⟨i, hi, hzi, hs, hby⟩ := L.inf
  have hsz : (P.info? e).map (·.size) = some 1 := by rw [hi]; simp [hs]
  obtain ⟨A, c, rfl, hx⟩ := hx
  have hlen : (news.take dn).length = Nat.min m dn := by rw [List.length_take, hl]; simp [Nat.min_comm]
  by_cases h0 : (news.take dn).length = 0
  · have hnil : news.take dn = [] := List.eq_nil_of_length_eq_zero h0
    have hm0 : Nat.min m dn = 0 := by omega
    refine wpList_copy_nothing hgd d s dT sT ho e L.und hsz _ A dn dc m c hd hxv hm0 ?_
    have h2 := h w (by rw [hnil]; simpa [splice] using hg) (World.grownBy.refl w _) rfl
    have : (min m dn : Nat) = 0 := hm0
    rw [this] at h2
    exact h2
  · have hne : news ≠ [] := by rintro rfl; simp at h0
    obtain ⟨b, off', rfl, hc⟩ := hx hne
    refine wpList_copy_own hgd d s dT sT ho e L.und hsz g off dn dc ⟨b, off', none⟩ m c hd hxv cur.toArray t hg (news.take dn) hlen ?_ (by rw [hlen]; simp only [List.size_toArray]; have : Nat.min m dn ≤ dn := Nat.min_le_right _ _; omega) (fun u hu => h1 u (List.mem_of_mem_take hu)) ?_
    · intro j v hj
      rw [List.getElem?_take] at hj
      split at hj
      · rw [addr_add]; exact hc j v hj
      · cases hj
    · have h2 := h (w.setRow g (splice cur off (news.take dn)).toArray) (setRow_heap w g _ _ t _ hg) ⟨rfl, rfl, rfl, by simp [World.setRow], fun k _ hk => setRow_other w g k _ (fun e => hk (by rw [e]))⟩ (by simp [World.setRow])
      have e : (news.take dn).length = (min m dn : Nat) := hlen
      rw [e]
      unfold splice at h2
      rw [e] at h2
      exact h2
theorem run_str {src e dst : Nat} (hs : P.underlying src = some (.slice e)) (he : P.underlying e = some (.int .u8)) (hd : P.underlying dst = some .string) {v : Value} {bs : List UInt8}
    (h : Src w v bs.length (bs.map bv)) : (convert src dst v).run P w = .ok (.string ⟨bs.toArray⟩) w := by
  obtain ⟨a, c, rfl, h⟩ := h
  cases bs with
  | nil =>
    rw [run_convert_bytes_string w src dst e a _ c hs he hd]
    cases a <;> simp [Conv.bytesToString, loadCells, loadCellsFrom] <;> rfl
  | cons x xs =>
    obtain ⟨b, off, rfl, hc⟩ := h (by simp)
    generalize hys : x :: xs = ys at *
    have hm : (ys.map fun u => (u.toNat : Int)).map (fun n => UInt8.ofNat n.toNat) = ys := by
      rw [List.map_map]
      conv => rhs; rw [← List.map_id ys]
      refine List.map_congr_left fun u _ => ?_
      simp
    rw [run_convert_bytes_arg (P := P) w src e hs he b off _ c (ys.map fun u => (u.toNat : Int)) (by simp) ?_ dst hd]
    · unfold strOfNums
      rw [hm]
    · intro i hi
      refine hc i _ ?_
      rw [List.getElem?_map, List.getElem?_eq_getElem hi]
      simp [bv, List.getD, hi]
/-- append of nothing onto nothing -/
theorem run_app_none {t e size bytes : Nat} {z : Value} (ty : TypeId) (L : SlT P t e size bytes z) (a : Option Addr) (c : Nat) :
    (Builtin.append_ #[t, t] ty #[.slice none 0 0, .slice a 0 c]).run P w = .ok (.slice none 0 0) w := by
  obtain ⟨i, hi, hz, hs, hby⟩ := L.inf
  cases a <;> simp [Builtin.append_, run_underlying L.und, sizeOf, typeInfo, hi, Builtin.lenOf, Builtin.firstCells, loadCells, loadCellsFrom]
/-- make([]T, l, c) -/
theorem run_mk {t e bytes : Nat} {z : Value} (L : SlT P t e 1 bytes z) (hz : z.cells = #[z]) (kl kc : IntKind) (l c : Nat) (hlc : l ≤ c) (hb : bytes * c ≤ 281474976710656) (hc : c ≤ maxLen) :
    (Instr.makeSlice t (.int kl (l : Int)) (.int kc (c : Int))).run P w = .ok (.slice (some ⟨w.heap.size, 0, none⟩) l c) (w.alloc (.cells (Array.replicate c z) e)) := by
  obtain ⟨i, hi, hzi, hs, hby⟩ := L.inf
  subst hby
  have h1 : (i.bytes : Int) * (c : Int) ≤ 281474976710656 := by
    have h : ((i.bytes * c : Nat) : Int) ≤ 281474976710656 := by omega
    rwa [Int.natCast_mul] at h
  have h2 : (c : Int) ≤ 9223372036854775807 := by simp [maxLen] at hc; omega
  rw [run_make (P := P) w t e i z L.und hi hzi kl kc l c (by omega) (by omega) h1 h2]
  have h3 : madeCells z.cells ((c : Int).toNat * i.size) = Array.replicate c z := by
    rw [hs, Nat.mul_one, Int.toNat_natCast, hz]
    apply Array.toList_inj.1
    rw [toList_madeCells_one]
    simp
  rw [h3, Int.toNat_natCast, Int.toNat_natCast]
end
end Go.Proofs.YtllhgbanbelmaaaGreat
