/- store: the whole of it, told by its pages' bytes, its sessions, the log's room. -/
import Derived.Test.YtllhgbanbelmaaaGreatStk
namespace Go.Proofs.YtllhgbanbelmaaaGreat
open Go.RowKit
variable {B : Nat} {T : List Nat} {D R : Bool} {Y Y' : Sys} {w w' : World}

structure StS where
  np : Nat
  S : List Nat
  free : Int
  content : Nat → List UInt8
  ts : List TxS
  next : Int
/-- what nobody sees -/
structure StH where
  d : Nat
  r : Nat
  f : Nat
  p : Nat
  lines : Value
  opens : Value
  master : Int
  commits : Int
  redone : Int
  undone : Int
  nl : Nat
  lx : List Value
  ρ : RingS
  pages : Nat → List UInt8
def UpdOk (np : Nat) (u : UpdS) : Prop := 1 ≤ u.lsn ∧ 0 ≤ u.prev ∧ 0 ≤ u.page ∧ u.page < np ∧ 0 ≤ u.off ∧ u.off + u.bs.length ≤ 504
def TxOk (np : Nat) (next : Int) (x : TxS) : Prop := 0 ≤ x.id ∧ x.id < next ∧ 0 ≤ x.first ∧ 0 ≤ x.last ∧ ∀ u, u ∈ x.us → UpdOk np u
structure StoreIn (B : Nat) (Y : Sys) (w : World) (s : Nat) (η : StH) (σ : StS) : Prop where
  hs : B ≤ s
  hB : B ≤ w.heap.size
  blk : Blk w s 105 (stCells η.d η.r η.f η.p η.lines η.opens η.master σ.next η.commits η.redone η.undone)
  core : CoreAt B Y w η.d η.r η.f η.p σ.np η.ρ σ.S η.pages []
  ln : w.ownsRow B 217 12 η.lines η.nl η.lx
  hnl : η.nl ≤ η.ρ.tail
  op : OpensAt B Y w η.opens σ.ts
  free : ((η.ρ.start : Int) / 118 + η.ρ.n - 1) * 118 - η.ρ.tail = σ.free
  hst : η.ρ.start ≤ 274877906944
  ct : ∀ n, n < σ.np → (η.pages n).drop 8 = σ.content n
  num : ∀ x, x ∈ σ.ts → TxOk σ.np σ.next x
  nx : 1 ≤ σ.next
def StoreAt (B : Nat) (Y : Sys) (w : World) (s : Nat) (σ : StS) : Prop := ∃ η, StoreIn B Y w s η σ
/-- a part of a row of the call's own, as the walk spells it -/
theorem src_sub {base e n : Nat} {g c : Nat} {xs : List Value} (h : w.ownsRow base e 1 (.slice (some ⟨g, 0, none⟩) n c) n xs) (off m : Nat) (hm : off + m ≤ n) (hx : xs.length = n) (hc : n ≤ c) : Src w (.slice (if c = off then some ⟨g, 0, none⟩ else some ⟨g, off, none⟩) m (c - off)) m ((xs.drop off).take m) := by
  refine ⟨_, _, rfl, fun hne => ⟨g, off, ?_, fun j u hu => ?_⟩⟩
  · rw [if_neg]
    rintro rfl
    have : m = 0 := by omega
    subst this
    exact hne (by simp)
  · rw [List.getElem?_take] at hu
    split at hu
    · rw [List.getElem?_drop] at hu
      have := h.cells (g := g) rfl (off + j) u hu
      rwa [addr_add, Nat.zero_add] at this
    · cases hu
/-- what a store's call may change -/
def StT : List Nat := [105, 106, 120, 206, 210, 217, 242, 244, 157, 159]
variable {s : Nat} {σ : StS} {η : StH}
theorem StoreIn.room (h : StoreIn B Y w s η σ) : η.ρ.room = max 0 σ.free := by rw [← h.free]; rfl
theorem StoreIn.tailb (h : StoreIn B Y w s η σ) (h0 : 0 ≤ σ.free) : η.ρ.tail + σ.free.toNat ≤ 274977906944 := by
  have h1 := h.free
  have h2 := h.hst
  have h3 := h.core.ok.n8
  omega
theorem StoreIn.freeb (h : StoreIn B Y w s η σ) : 0 ≤ σ.free := by
  have h1 := h.free
  have h2 := h.core.ok.b4
  have h3 := h.core.ok.n2
  omega
theorem StoreAt.freeb (h : StoreAt B Y w s σ) : 0 ≤ σ.free := let ⟨_, h⟩ := h; h.freeb
theorem StoreAt.hB (h : StoreAt B Y w s σ) : B ≤ w.heap.size := let ⟨_, h⟩ := h; h.hB
theorem StoreAt.dll (h : StoreAt B Y w s σ) : Y.dl < w.heap.size := let ⟨_, h⟩ := h; h.core.dll
theorem StoreAt.rbl (h : StoreAt B Y w s σ) : ∀ g, Y.rb = some g → g < w.heap.size := let ⟨_, h⟩ := h; h.core.rbl
theorem StoreAt.dBlk (h : StoreAt B Y w s σ) : ∃ cs, Blk w Y.dl 48 cs := let ⟨_, h⟩ := h; h.core.dBlk
theorem StoreAt.rBlk (h : StoreAt B Y w s σ) : ∀ g, Y.rb = some g → ∃ cs, Blk w g 5 cs := let ⟨_, h⟩ := h; h.core.rBlk
theorem StoreAt.len (h : StoreAt B Y w s σ) {n : Nat} (hn : n < σ.np) : (σ.content n).length = 504 := by
  obtain ⟨η, h⟩ := h
  rw [← h.ct n hn, List.length_drop, h.core.len hn]
theorem StoreAt.lt (h : StoreAt B Y w s σ) : s < w.heap.size := let ⟨_, h⟩ := h; h.blk.lt
theorem StoreAt.ge (h : StoreAt B Y w s σ) : B ≤ s := let ⟨_, h⟩ := h; h.hs
/-- what leaves the store alone -/
theorem StoreAt.modR (h : StoreAt B Y w s σ) (m : Mod B T false false Y Y w w') (hT : ∀ t, t ∈ T → t ∉ [5, 48, 250] ++ StT) : StoreAt B Y w' s σ := by
  obtain ⟨η, h⟩ := h
  have hT' : ∀ t, t ∈ T → ∀ u, u ∈ [5, 48, 250] ++ StT → t ≠ u := fun t ht u hu e => hT t ht (e ▸ hu)
  refine ⟨η, h.hs, Nat.le_trans h.hB m.size, m.keep' h.blk (fun x => hT _ x (by decide)) (by simp) (by simp) (by decide) (by decide), h.core.modR m rfl (fun t ht => ⟨hT' t ht _ (by decide), hT' t ht _ (by decide), hT' t ht _ (by decide), hT' t ht _ (by decide), hT' t ht _ (by decide), hT' t ht _ (by decide), hT' t ht _ (by decide), hT' t ht _ (by decide)⟩),
    own_mod' h.ln m (fun x => hT _ x (by decide)) (by simp) (by simp) (by decide) (by decide), h.hnl, h.op.mod m (fun t ht => ⟨hT' t ht _ (by decide), hT' t ht _ (by decide), hT' t ht _ (by decide), hT' t ht _ (by decide)⟩) (by simp) (by simp), h.free, h.hst, h.ct, h.num, h.nx⟩
theorem StoreAt.below (h : StoreAt B Y w s σ) (hb : Below w.heap.size w w') : StoreAt B Y w' s σ := h.modR (mod_below B [] false false Y hb) (by simp)

set_option maxHeartbeats 1000000 in
theorem pages49s (h : StoreAt B Y w s σ) : Calls Tryz.prog 49 #[.pointer (some ⟨s, 0, none⟩)] w fun e w' => e = .returned (i64 σ.np) ∧ w = w' := by
  obtain ⟨η, h⟩ := h
  obtain ⟨_, _, _, _, _, _, hc⟩ := h.core
  exact pages49 h.blk hc.file

/-- what Read gives -/
def ReadOut (B : Nat) (Y : Sys) (w : World) (s : Nat) (σ : StS) (n off len : Nat) (e : Ending) (w' : World) : Prop := ∃ v wm, e = .returned (.tuple #[v, i64 0]) ∧ Mod B StT false false Y Y w wm ∧ StoreAt B Y wm s σ ∧ Below wm.heap.size wm w' ∧
  w'.ownsRow wm.heap.size 5 1 v len ((((σ.content n).drop off).take len).map bv)
set_option maxRecDepth 100000 in
set_option maxHeartbeats 4000000 in
theorem read34 (h : StoreAt B Y w s σ) (n off len : Nat) (hn : n < σ.np) (hS : n ∈ σ.S) (hl : off + len ≤ 504) :
    Calls Tryz.prog 34 #[.pointer (some ⟨s, 0, none⟩), i64 n, i64 off, i64 len] w (ReadOut B Y w s σ n off len) := by
  obtain ⟨η, hI⟩ := h
  have hnl := hI.core.len hn
  obtain ⟨_, _, _, _, _, _, hci⟩ := id hI.core
  have hwi := within78 hI.blk hci.file n off len (by omega) (by omega) (by omega) (by omega) (by omega) (by omega)
  have hget := core_get hI.core n hn hS
  have HW := Lib.hid hwi
  have HG := Lib.hid hget
  clear hwi hget hci
  have hc := hI.blk.cell
  unfold stCells at hc
  have hl' : (off : Int) + len ≤ 504 := by omega
  have h1 : (0 : Int) ≤ off := by omega
  have h2 : (0 : Int) ≤ len := by omega
  go_enter Tryz.func34, Tryz.ntmps34
  go_wp2_with ((go_at_call 78; refine HW.out.mono ?_); rintro e w0 ⟨rfl, hw0⟩; have hw0 := hw0.symm; subst hw0)
  refine HG.out.mono ?_
  rintro e w1 ⟨v, wm, rfl, hm1, hco1, hbm, hown1⟩
  obtain ⟨g, c, rfl, hgb, hgl⟩ := hown1.form (by decide)
  have hgc : 512 ≤ c := by obtain ⟨_, _, e, hgc, _⟩ := own_form hown1; injection e with _ _ e; omega
  have hsrc := src_sub hown1 (8 + off) len (by omega) (by rw [List.length_map, hnl]) hgc
  have hone : ∀ z ∈ ((((η.pages n).map bv).drop (8 + off)).take len), z.oneCell' = true := fun z hz => bv_one _ z (List.mem_of_mem_drop (List.mem_of_mem_take hz))
  have hlen : ((((η.pages n).map bv).drop (8 + off)).take len).length = len * 1 := by simp [hnl]; omega
  have hbnd : 0 + len ≤ maxLen ∧ (0 + len) * 1 ≤ 140737488355328 ∧ wm.heap.size ≤ w1.heap.size := ⟨by unfold maxLen; omega, by omega, hbm.size⟩
  go_wp2_with (at_builtin; go_loud (refine wpList_app _ rfl (.const (.slice none 0 0)) (.tmp 43) rfl wm.heap.size sl48 (World.ownsRow_nil _ _ _ _) rfl ?_ rfl hlen hone hbnd ?_); (first | exact hsrc | (rw [show 8 + off + len - (8 + off) = len by omega]; exact hsrc)); intro v2 w2 hown2 hg2 hat2)
  all_goals
    go_ret2
    have hb2 : Below wm.heap.size w1 w2 := (Below.refl _ _).grown hg2 hbm.size (by simp [Value.ownBlock])
    have hM1 := hm1.more StT false false (by decide)
    have hct := hI.ct n hn
    refine ⟨_, wm, rfl, hM1, ⟨η, hI.hs, Nat.le_trans hI.hB hm1.size, hm1.keep' hI.blk (by decide) (by simp) (by simp) (by decide) (by decide), hco1.drop, own_mod' hI.ln hm1 (by decide) (by simp) (by simp) (by decide) (by decide), hI.hnl, hI.op.mod hm1 (by decide) (by simp) (by simp), hI.free, hI.hst, hI.ct, hI.num, hI.nx⟩, hbm.trans hb2, ?_⟩
    rw [Nat.zero_add] at hown2
    have e : (((σ.content n).drop off).take len).map bv = (((η.pages n).map bv).drop (8 + off)).take len := by rw [← hct, List.drop_drop, List.map_take, List.map_drop]
    rw [e]
    exact hown2
end Go.Proofs.YtllhgbanbelmaaaGreat
