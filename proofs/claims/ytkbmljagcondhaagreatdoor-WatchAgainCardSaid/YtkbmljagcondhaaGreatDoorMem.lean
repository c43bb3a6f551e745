/- General words on memory: what a step of the program may change; rows of bytes and strings; append in a region that draws its order. No program in it. -/
import Derived.Below
import Derived.OwnWalk
import Derived.Tactics
import Derived.WalkKit
import Derived.KernelRfl
import Derived.RowKit3
import Derived.WalkSpells
import Derived.Laws.Rows
import Derived.Deep.RegionLaw
import Derived.Deep.AppendLies
import Derived.Deep.LoopGhost
import Derived.Maps.AppendAt
import Derived.Lib.ConvBytes
import Derived.Laws.BytesArg
import Derived.Laws.BytesString
import Derived.Laws.IdiomStrings
open Go Go.RowKit
namespace Go.Proofs.YtkbmljagcondhaaGreatDoor
section
variable {P : Program} {ops : Array Oper} {o : Oper} {a : Act} {w : World} {K : Act → World → Prop} {Q : Exit → Act → World → Prop} {E : Prop}
/-- append to a row of the call's own, as one step of a region that draws -/
theorem step_append_own (hgd : o.guard = none) (s x : Operand) (t : TypeId) (ho : o.op = .call { callee := .builtin .append, args := #[s, x], argTypes := #[t, t] })
    (base : Nat) (e : TypeId) (z : Value) (size bytes : Nat) (ht : P.underlying t = some (.slice e)) (hinfo : (P.info? e).map (fun i => (i.zero, i.size, i.bytes)) = some (some z, size, bytes))
    (hzs : z.cells.size = size) (hsz : 0 < size)
    (v : Value) (n : Nat) (xs : List Value) (hs : a.eval s = v) (hown : w.ownsRow base e size v n xs)
    (ad : Addr) (m c : Nat) (news : List Value) (hx : a.eval x = .slice (some ad) m c) (hl : news.length = m * size) (hnews : ∀ j u, news[j]? = some u → w.cell? (ad.add j) = some u) (h1 : ∀ u ∈ news, u.oneCell' = true)
    (h63 : n + m ≤ maxLen) (hbytes : (n + m) * bytes ≤ 140737488355328) (hbase : base ≤ w.heap.size)
    (h : ∀ v' w', w'.ownsRow base e size v' (n + m) (xs ++ news) → w.grownBy w' v.ownBlock → K (a.put o.dst v') w') :
    if Region.wanted o (yielded ops a.tmps) = true then Oper.wp P o a w K Q else E := by
  have hw : Region.wanted o (yielded ops a.tmps) = true := by simp [Region.wanted, hgd]
  rw [if_pos hw]
  obtain ⟨i0, hi, hzz⟩ := Option.map_eq_some_iff.1 hinfo
  simp only [Prod.mk.injEq] at hzz
  obtain ⟨hz0, hz1, hz2⟩ := hzz
  exact wp_append_own w s x t ho base e i0 z size bytes ht hi hz0 hz1 hz2 hzs hsz v n xs hs hown ad m c news hx hl hnews h1 h63 hbytes hbase fun v' w' h2 h3 _ => h v' w' h2 h3
/-- the same where the new cells were just laid, and an order drawn -/
theorem step_append_new {w : World} (hgd : o.guard = none) (s x : Operand) (t : TypeId) (ho : o.op = .call { callee := .builtin .append, args := #[s, x], argTypes := #[t, t] })
    (base : Nat) (e : TypeId) (z : Value) (size bytes : Nat) (ht : P.underlying t = some (.slice e)) (hinfo : (P.info? e).map (fun i => (i.zero, i.size, i.bytes)) = some (some z, size, bytes))
    (hzs : z.cells.size = size) (hsz : 0 < size)
    (v : Value) (n : Nat) (xs : List Value) (hown : w.ownsRow base e size v n xs) (hbase : base ≤ w.heap.size)
    (m c : Nat) (ys : Array Value) (hs : a.eval s = v) (hx : a.eval x = .slice (some ⟨w.heap.size, 0, none⟩) m c) (hl : ys.size = m * size) (h1 : ∀ u ∈ ys.toList, u.oneCell' = true)
    (h63 : n + m ≤ maxLen) (hbytes : (n + m) * bytes ≤ 140737488355328)
    (h : ∀ v' w', w'.ownsRow base e size v' (n + m) (xs ++ ys.toList) → w.grownBy w' v.ownBlock → K (a.put o.dst v') w') :
    if Region.wanted o (yielded ops a.tmps) = true then Oper.wp P o a (w.alloc (.cells ys e)).drew K Q else E := by
  have hb : base ≤ ((w.alloc (.cells ys e)).drew).heap.size := Nat.le_trans hbase (show w.heap.size ≤ (w.alloc (.cells ys e)).heap.size by simp)
  exact step_append_own hgd s x t ho base e z size bytes ht hinfo hzs hsz v n xs hs (hown.alloc _) ⟨w.heap.size, 0, none⟩ m c ys.toList hx (by simpa using hl)
    (World.news_of_block (heap_alloc_new w _)) h1 h63 hbytes hb
    (fun v' w' a b => h v' w' a ((World.grownBy_alloc w (.cells ys e) _).trans ⟨b.os, b.tape, b.output, b.size, b.block⟩))
/-- the same outside of such a region -/
theorem wpList_append_new {rest : List Oper} {w : World} (hgd : o.guard = none) (s x : Operand) (t : TypeId) (ho : o.op = .call { callee := .builtin .append, args := #[s, x], argTypes := #[t, t] })
    (base : Nat) (e : TypeId) (z : Value) (size bytes : Nat) (ht : P.underlying t = some (.slice e)) (hinfo : (P.info? e).map (fun i => (i.zero, i.size, i.bytes)) = some (some z, size, bytes))
    (hzs : z.cells.size = size) (hsz : 0 < size)
    (v : Value) (n : Nat) (xs : List Value) (hown : w.ownsRow base e size v n xs) (hbase : base ≤ w.heap.size)
    (m c : Nat) (ys : Array Value) (hs : a.eval s = v) (hx : a.eval x = .slice (some ⟨w.heap.size, 0, none⟩) m c) (hl : ys.size = m * size) (h1 : ∀ u ∈ ys.toList, u.oneCell' = true)
    (h63 : n + m ≤ maxLen) (hbytes : (n + m) * bytes ≤ 140737488355328)
    (h : ∀ v' w', w'.ownsRow base e size v' (n + m) (xs ++ ys.toList) → w.grownBy w' v.ownBlock → wpList P ops Q rest (a.put o.dst v') w') :
    wpList P ops Q (o :: rest) a (w.alloc (.cells ys e)) := by
  have hb : base ≤ (w.alloc (.cells ys e)).heap.size := Nat.le_trans hbase (show w.heap.size ≤ (w.alloc (.cells ys e)).heap.size by simp)
  obtain ⟨i0, hi, hzz⟩ := Option.map_eq_some_iff.1 hinfo
  simp only [Prod.mk.injEq] at hzz
  obtain ⟨hz0, hz1, hz2⟩ := hzz
  exact wpList_append_own (w.alloc (.cells ys e)) hgd s x t ho base e i0 z size bytes ht hi hz0 hz1 hz2 hzs hsz v n xs hs (hown.alloc _) ⟨w.heap.size, 0, none⟩ m c ys.toList hx (by simpa using hl)
    (World.news_of_block (heap_alloc_new w _)) h1 h63 hbytes hb (fun v' w' h2 h3 _ => h v' w' h2 ((World.grownBy_alloc w (.cells ys e) _).trans h3))
end

/-! What may change: a set of blocks, and what is new. -/
structure Only (S : Nat → Prop) (w w' : World) : Prop where
  os : w'.os = w.os
  tape : w'.tape = w.tape
  output : w'.output = w.output
  size : w.heap.size ≤ w'.heap.size
  block : ∀ k, k < w.heap.size → ¬ S k → w'.heap[k]? = w.heap[k]?

theorem Only.refl (S : Nat → Prop) (w : World) : Only S w w := ⟨rfl, rfl, rfl, Nat.le_refl _, fun _ _ _ => rfl⟩
theorem Only.mono {S T : Nat → Prop} {w w' : World} (h : Only S w w') (hs : ∀ k, k < w.heap.size → S k → T k) : Only T w w' :=
  ⟨h.os, h.tape, h.output, h.size, fun k hk hn => h.block k hk (fun hh => hn (hs k hk hh))⟩
theorem Only.trans {S : Nat → Prop} {a b c : World} (h : Only S a b) (k : Only S b c) : Only S a c :=
  ⟨k.os.trans h.os, k.tape.trans h.tape, k.output.trans h.output, Nat.le_trans h.size k.size, fun i hi hn => (k.block i (Nat.lt_of_lt_of_le hi h.size) hn).trans (h.block i hi hn)⟩
/-- two steps, the second of which may change what the first has made -/
theorem Only.then {S T : Nat → Prop} {a b c : World} (h : Only S a b) (k : Only T b c) (hT : ∀ i, i < a.heap.size → T i → S i) : Only S a c :=
  ⟨k.os.trans h.os, k.tape.trans h.tape, k.output.trans h.output, Nat.le_trans h.size k.size, fun i hi hn => (k.block i (Nat.lt_of_lt_of_le hi h.size) (fun hh => hn (hT i hi hh))).trans (h.block i hi hn)⟩
theorem Only.of_below {S : Nat → Prop} {B : Nat} {w w' : World} (h : Below B w w') (hs : ∀ k, k < w.heap.size → B ≤ k → S k) : Only S w w' :=
  ⟨h.os, h.tape, h.output, h.size, fun k hk hn => h.block k (Nat.lt_of_not_le fun hh => hn (hs k hk hh))⟩
theorem Only.of_new {S : Nat → Prop} {w w' : World} (h : Below w.heap.size w w') : Only S w w' := Only.of_below h (fun _ h1 h2 => absurd h1 (by omega))
theorem Only.below {S : Nat → Prop} {B : Nat} {w w' : World} (h : Only S w w') (hs : ∀ k, S k → B ≤ k) (hB : B ≤ w.heap.size) : Below B w w' :=
  ⟨h.os, h.tape, h.output, h.size, fun k hk => h.block k (by omega) (fun hh => by have := hs k hh; omega)⟩
theorem Only.setCell (w : World) (a : Addr) (u : Value) : Only (fun k => k = a.block) w (w.setCell a u) :=
  ⟨rfl, rfl, rfl, by simp [World.setCell], fun k _ hn => Below.heap_setCell _ _ _ _ hn⟩
theorem Only.setAt (w : World) (b i : Nat) (u : Value) : Only (fun k => k = b) w (w.setCell ⟨b, i, none⟩ u) := Only.setCell w ⟨b, i, none⟩ u
theorem Only.of_grown {w w' : World} {row : Option Nat} (h : w.grownBy w' row) : Only (fun k => some k = row) w w' := ⟨h.os, h.tape, h.output, h.size, fun k hk hn => h.block k hk hn⟩
theorem Only.blk {S : Nat → Prop} {w w' : World} (h : Only S w w') {k : Nat} {o : Obj} (hb : w.heap[k]? = some o) (hn : ¬ S k) : w'.heap[k]? = some o :=
  (h.block k (Array.getElem?_eq_some_iff.1 hb).1 hn).trans hb
theorem Only.cell {S : Nat → Prop} {w w' : World} (h : Only S w w') {p : Addr} {v : Value} (hc : w.cell? p = some v) (hn : ¬ S p.block) : w'.cell? p = some v :=
  (World.cell?_of_block (w := w) (h.block p.block (World.block_lt_of_cell? w p hc) hn)).trans hc

theorem blk_lt {w : World} {g : Nat} {o : Obj} (h : w.heap[g]? = some o) : g < w.heap.size := (Array.getElem?_eq_some_iff.1 h).1
theorem blk_cell {w : World} {g : Nat} {t : TypeId} {cs : Array Value} {fr : Nat × Nat} (h : w.heap[g]? = some (.cells cs t fr)) (i : Nat) : w.cell? ⟨g, i, none⟩ = cs[i]? := by simp [World.cell?, h]
theorem blk_frozen {w : World} {g : Nat} {t : TypeId} {cs : Array Value} (h : w.heap[g]? = some (.cells cs t (0, 0))) (i : Nat) : w.frozen? ⟨g, i, none⟩ = false := by simp [World.frozen?, h]
theorem blk_set {w : World} {g : Nat} {t : TypeId} {cs : Array Value} (h : w.heap[g]? = some (.cells cs t (0, 0))) (i : Nat) (u : Value) : (w.setCell ⟨g, i, none⟩ u).heap[g]? = some (.cells (cs.setIfInBounds i u) t (0, 0)) := by
  simp [World.setCell, Array.getElem?_modify, h]
theorem blk_far {w : World} {g b : Nat} {o : Obj} (h : w.heap[g]? = some o) (hg : g ≠ b) (i : Nat) (u : Value) : (w.setCell ⟨b, i, none⟩ u).heap[g]? = some o := (Below.heap_setCell w ⟨b, i, none⟩ u g hg).trans h
theorem blk_new (w : World) (o : Obj) : (w.alloc o).heap[w.heap.size]? = some o := heap_alloc_new w o
theorem blk_alloc {w : World} {g : Nat} {o : Obj} (h : w.heap[g]? = some o) (o' : Obj) : (w.alloc o').heap[g]? = some o := (Below.heap_alloc w o' g (blk_lt h)).trans h
theorem blk_below {w w1 : World} {g B : Nat} {o : Obj} (h : w.heap[g]? = some o) (hb : Below B w w1) (hg : g < B) : w1.heap[g]? = some o := (hb.block g hg).trans h

/-! Rows: an address (it counts only where there is an element) and the cells from there on. -/
def Row (w : World) (A : Option Addr) (vs : List Value) : Prop := ∀ j v, vs[j]? = some v → ∃ d o, A = some ⟨d, o, none⟩ ∧ w.cell? ⟨d, o + j, none⟩ = some v
theorem Row.nil (w : World) (A : Option Addr) : Row w A [] := fun j v h => by simp at h
theorem Row.at {w : World} {d o : Nat} {vs : List Value} (h : Row w (some ⟨d, o, none⟩) vs) (j : Nat) (v : Value) (hj : vs[j]? = some v) : w.cell? ⟨d, o + j, none⟩ = some v := by
  obtain ⟨d', o', e, hc⟩ := h j v hj
  cases e
  exact hc
theorem Row.at0 {w : World} {d o : Nat} {v : Value} {vs : List Value} (h : Row w (some ⟨d, o, none⟩) (v :: vs)) : w.cell? ⟨d, o, none⟩ = some v := h.at 0 v rfl
theorem Row.some_ {w : World} {A : Option Addr} {vs : List Value} (h : Row w A vs) (h1 : 1 ≤ vs.length) : ∃ d o, A = some ⟨d, o, none⟩ := by
  obtain ⟨d, o, e, _⟩ := h 0 (vs[0]'(by omega)) (List.getElem?_eq_getElem _)
  exact ⟨d, o, e⟩
theorem Row.mk_ {w : World} {d o : Nat} {vs : List Value} (h : ∀ j v, vs[j]? = some v → w.cell? ⟨d, o + j, none⟩ = some v) : Row w (some ⟨d, o, none⟩) vs := fun j v hj => ⟨d, o, rfl, h j v hj⟩
theorem Row.below {w w' : World} {A : Option Addr} {vs : List Value} (h : Row w A vs) (hb : Below w.heap.size w w') : Row w' A vs := fun j v hj => by
  obtain ⟨d, o, e, hc⟩ := h j v hj
  exact ⟨d, o, e, (hb.cell (World.block_lt_of_cell? w _ hc)).trans hc⟩
theorem Row.only {S : Nat → Prop} {w w' : World} {A : Option Addr} {vs : List Value} (h : Row w A vs) (hb : Only S w w') (hn : ∀ d o, A = some ⟨d, o, none⟩ → ¬ S d) : Row w' A vs := fun j v hj => by
  obtain ⟨d, o, e, hc⟩ := h j v hj
  exact ⟨d, o, e, hb.cell hc (hn d o e)⟩
theorem Row.drop1 {w : World} {d o : Nat} {v : Value} {vs : List Value} (h : Row w (some ⟨d, o, none⟩) (v :: vs)) : Row w (some ⟨d, o + 1, none⟩) vs :=
  Row.mk_ fun j u hj => by have := h.at (j + 1) u (by simpa using hj); rwa [show o + (j + 1) = o + 1 + j by omega] at this
/-- a row that the call owns reads as what it holds -/
theorem own_row {w : World} {base e n : Nat} {v : Value} {xs : List Value} (h : w.ownsRow base e 1 v n xs) : ∃ A c, v = .slice A n c ∧ n ≤ c ∧ Row w A xs := by
  obtain ⟨h1, h2⟩ := h
  rcases h2 with ⟨rfl, rfl⟩ | ⟨g, cap, cur, rfl, hg, hb, hn, hm, hs, ht⟩
  · exact ⟨none, 0, rfl, Nat.le_refl _, fun j v hj => by have : xs = [] := List.eq_nil_of_length_eq_zero (by omega); simp [this] at hj⟩
  · refine ⟨_, cap, rfl, hn, Row.mk_ fun j u hj => ?_⟩
    rw [blk_cell hb]
    subst ht
    rw [List.getElem?_take] at hj
    split at hj
    · simpa using hj
    · cases hj

theorem own_base {w : World} {base e size n : Nat} {v : Value} {xs : List Value} (h : w.ownsRow base e size v n xs) : ∀ k, v.ownBlock = some k → base ≤ k := by
  intro k hk
  rcases h.2 with ⟨rfl, _⟩ | ⟨g, cap, cur, rfl, hg, _⟩
  · simp [Value.ownBlock] at hk
  · simp [Value.ownBlock] at hk; omega
theorem below_grown {base e size n B : Nat} {w0 w w' : World} {v : Value} {xs : List Value} (hb : Below B w0 w) (h : w.ownsRow base e size v n xs) (hg : w.grownBy w' v.ownBlock) (hB : B ≤ w.heap.size) (hbase : B ≤ base) : Below B w0 w' :=
  hb.grown hg hB (fun k hk => Nat.le_trans hbase (own_base h k hk))

/-- a row of the call's own lies in another block than one of another type -/
theorem own_far {w : World} {base e size n g : Nat} {v : Value} {xs : List Value} (h : w.ownsRow base e size v n xs) {cs : Array Value} {t : TypeId} {fr : Nat × Nat} (hb : w.heap[g]? = some (.cells cs t fr)) (ht : t ≠ e) : some g ≠ v.ownBlock := by
  intro hk
  rcases h.2 with ⟨rfl, _⟩ | ⟨g', cap, cur, rfl, hg, hc, _⟩
  · simp [Value.ownBlock] at hk
  · simp [Value.ownBlock] at hk
    subst hk
    rw [hb] at hc
    injection hc with hc
    injection hc with _ h2
    exact ht h2
theorem grown_blk {w w' : World} {row : Option Nat} (h : w.grownBy w' row) {g : Nat} {o : Obj} (hb : w.heap[g]? = some o) (hn : some g ≠ row) : w'.heap[g]? = some o := (h.block g (blk_lt hb) hn).trans hb

/-! Results that lie in memory. -/
section
variable {P : Program}
theorem post_ct {fn : Func} {p u : Tmp} {ty : TypeId} (h : fn.results = #[.cell p ty, .tmp u]) {a : Act} {w : World} {R : Ending → World → Prop} (g : Nat) (t : TypeId) (cs : Array Value) (fr : Nat × Nat) (d : TypeDesc)
    (hp : a.tmps.getD p undef = .pointer (some ⟨g, 0, none⟩)) (hg : w.heap[g]? = some (.cells cs t fr))
    (hu : P.underlying ty = some d) (hd : (match d with | .struct _ | .array _ _ => true | _ => false) = true) (hi : (P.info? ty).map (·.size) = some cs.size) (hdef : a.defers = [])
    (hq : R (.returned (.tuple #[.agg cs, a.tmps.getD u undef])) w) : bodyPost P fn R .ret a w := by
  refine bodyPost_ret (v := .tuple #[.agg cs, a.tmps.getD u undef]) ?_ hdef hq
  have hp' : a.tmps[p]?.getD undef = .pointer (some ⟨g, 0, none⟩) := by simpa using hp
  simp [results, h, hp', asAddr, run_loadVar_row w g t ty cs fr d hg hu hd hi]
theorem post_c {fn : Func} {p : Tmp} {ty : TypeId} (h : fn.results = #[.cell p ty]) {a : Act} {w : World} {R : Ending → World → Prop} (g : Nat) (t : TypeId) (cs : Array Value) (fr : Nat × Nat) (d : TypeDesc)
    (hp : a.tmps.getD p undef = .pointer (some ⟨g, 0, none⟩)) (hg : w.heap[g]? = some (.cells cs t fr))
    (hu : P.underlying ty = some d) (hd : (match d with | .struct _ | .array _ _ => true | _ => false) = true) (hi : (P.info? ty).map (·.size) = some cs.size) (hdef : a.defers = [])
    (hq : R (.returned (.agg cs)) w) : bodyPost P fn R .ret a w := by
  refine bodyPost_ret (v := .agg cs) ?_ hdef hq
  have hp' : a.tmps[p]?.getD undef = .pointer (some ⟨g, 0, none⟩) := by simpa using hp
  simp [results, h, hp', asAddr, run_loadVar_row w g t ty cs fr d hg hu hd hi]
end

/-! Bytes and strings. -/
def U8 (b : UInt8) : Value := .int .u8 (b.toNat : Int)
def strs (l : List ByteArray) : List Value := l.map Value.string
def bts (l : List UInt8) : List Value := l.map U8
def BA (l : List UInt8) : ByteArray := ⟨l.toArray⟩
theorem BA_list (l : List UInt8) : (BA l).data.toList = l := rfl
theorem BA_data (s : ByteArray) : BA s.data.toList = s := rfl
theorem BA_inj {a b : List UInt8} (h : BA a = BA b) : a = b := by have := congrArg (fun s : ByteArray => s.data.toList) h; simpa [BA] using this
theorem BA_size (l : List UInt8) : (BA l).size = l.length := rfl
theorem ret_str {a b : List UInt8} (h : a = b) : Ending.returned (.string ⟨a.toArray⟩) = .returned (.string (BA b)) := by rw [h]; rfl
theorem toList_eq (a : ByteArray) : a.toList = a.data.toList := by
  obtain ⟨⟨l⟩⟩ := a
  exact ByteArray.toList_mk l
theorem data_inj {a b : ByteArray} (h : a.data.toList = b.data.toList) : a = b := by
  obtain ⟨⟨l⟩⟩ := a
  obtain ⟨⟨m⟩⟩ := b
  simp at h
  rw [h]
/-- '==' of strings as the walk spells it -/
theorem str_same {a b : ByteArray} (h : a.data.toList = b.data.toList) : (a.toList == b.toList) = true := by rw [toList_eq, toList_eq, h]; simp
theorem str_other {a b : ByteArray} (h : ¬ a.data.toList = b.data.toList) : (a.toList == b.toList) = false := by rw [toList_eq, toList_eq]; simpa using h
theorem lit_same {a : ByteArray} {l : List UInt8} (h : a.data.toList = l) : (a.toList == l) = true := by rw [toList_eq, h]; simp
theorem lit_other {a : ByteArray} {l : List UInt8} (h : ¬ a.data.toList = l) : (a.toList == l) = false := by rw [toList_eq]; simpa using h
def isStr : Value → Bool
  | .string _ => true
  | _ => false
theorem noStr {w : World} {g : Nat} {t : TypeId} {cs : Array Value} {fr : Nat × Nat} (h : w.heap[g]? = some (.cells cs t fr)) (hc : cs.toList.any isStr = false) (o : Nat) (x : ByteArray) : w.cell? ⟨g, o, none⟩ ≠ some (.string x) := by
  rw [blk_cell h]
  intro e
  have : (Value.string x) ∈ cs.toList := by
    rw [← Array.getElem?_toList] at e
    exact List.mem_of_getElem? e
  have := List.any_eq_false.1 hc _ this
  simp [isStr] at this
theorem bts_length (l : List UInt8) : (bts l).length = l.length := by simp [bts]
theorem bts_append (a b : List UInt8) : bts (a ++ b) = bts a ++ bts b := by simp [bts]
theorem bts_get (l : List UInt8) (j : Nat) (h : j < l.length) : (bts l)[j]? = some (.int .u8 (l[j].toNat : Int)) := by simp [bts, U8, List.getElem?_eq_getElem h]
theorem strs_length (l : List ByteArray) : (strs l).length = l.length := by simp [strs]
theorem add_plain (d o j : Nat) : (⟨d, o, none⟩ : Addr).add j = ⟨d, o + j, none⟩ := by unfold Addr.add; split <;> simp_all
/-- string(b) -/
theorem row_string {P : Program} {w : World} (src dst e : TypeId) (hs : P.underlying src = some (.slice e)) (he : P.underlying e = some (.int .u8)) (hd : P.underlying dst = some .string)
    {A : Option Addr} {l : List UInt8} (h : Row w A (bts l)) (n c : Nat) (hn : n = l.length) : (convert src dst (.slice A n c)).run P w = .ok (.string (BA l)) w := by
  subst hn
  by_cases h0 : l = []
  · subst h0
    cases A with
    | none => exact run_convert_bytes_nil w src e hs he _ _ dst hd
    | some a => exact run_convert_bytes_back w src dst e a c [] hs he hd (fun j hj => by simp at hj)
  · have h1 : 1 ≤ (bts l).length := by rw [bts_length]; cases l <;> simp_all
    obtain ⟨d, o, rfl⟩ := h.some_ h1
    refine run_convert_bytes_back w src dst e ⟨d, o, none⟩ c l hs he hd (fun j hj => ?_)
    rw [add_plain]
    exact h.at j _ (bts_get l j hj)
end Go.Proofs.YtkbmljagcondhaaGreatDoor
