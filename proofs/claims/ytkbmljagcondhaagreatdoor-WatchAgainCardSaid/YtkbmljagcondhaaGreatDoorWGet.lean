/- The state in which a line is read: the reader, a result's place, a variable's place. -/
import Derived.Test.YtkbmljagcondhaaGreatDoorWDgram
open Go Go.RowKit
set_option linter.unusedSimpArgs false
set_option linter.unusedVariables false
namespace Go.Proofs.YtkbmljagcondhaaGreatDoor
def ptP (ws : List ByteArray) (wr : Bool) : (Int × Int × Int) × List ByteArray × Bool := ((pointP (wordP ws wr).1).1, (wordP ws wr).2.1, (wordP ws wr).2.2 || (pointP (wordP ws wr).1).2)
def noStrU8 : Value → Bool
  | .int .u8 _ => false
  | _ => true
structure GdSt (w0 : World) (R Pb : Nat) (tR tP : TypeId) (zs cs : Array Value) (b : Nat) (ws : List ByteArray) (wr : Bool) (w : World) : Prop where
  gl : Glob w
  rd : Rd w b ws wr
  sh : Short ws
  o : Below w0.heap.size w0 w
  hR : w.heap[R]? = some (.cells zs tR (0, 0))
  hP : w.heap[Pb]? = some (.cells cs tP (0, 0))
  ne : R ≠ Pb ∧ R ≠ b ∧ Pb ≠ b
  lo : w0.heap.size ≤ R ∧ w0.heap.size ≤ Pb ∧ w0.heap.size ≤ b
  l8 : 8 ≤ w0.heap.size
  t9 : tP ≠ 9
  nr : zs.toList.all noStrU8 = true ∧ cs.toList.all noStrU8 = true
theorem all_set {cs : Array Value} (h : cs.toList.all noStrU8 = true) (i : Nat) (v : Value) (hv : noStrU8 v = true) : (cs.setIfInBounds i v).toList.all noStrU8 = true := by
  rw [List.all_eq_true] at h ⊢
  intro x hx
  rw [Array.toList_setIfInBounds] at hx
  rcases List.mem_or_eq_of_mem_set hx with hx | rfl
  · exact h x hx
  · exact hv
section
variable {w0 : World} {R Pb : Nat} {tR tP : TypeId} {zs cs : Array Value} {b : Nat} {ws : List ByteArray} {wr : Bool} {w : World}
theorem GdSt.new {w' : World} (h : GdSt w0 R Pb tR tP zs cs b ws wr w) (hb : Below w.heap.size w w') : GdSt w0 R Pb tR tP zs cs b ws wr w' :=
  ⟨h.gl.below hb h.gl.low, h.rd.below hb, h.sh, h.o.trans (hb.mono h.o.size), blk_below h.hR hb (blk_lt h.hR), blk_below h.hP hb (blk_lt h.hP), h.ne, h.lo, h.l8, h.t9, h.nr⟩
theorem GdSt.step {ws' : List ByteArray} {wr' : Bool} {w' : World} (h : GdSt w0 R Pb tR tP zs cs b ws wr w) (ho : Only (fun k => k = b) w w') (hr : Rd w' b ws' wr') (hs : Short ws') : GdSt w0 R Pb tR tP zs cs b ws' wr' w' :=
  ⟨h.gl.only1 ho h.rd.low, hr, hs, h.o.trans (ho.below (B := w0.heap.size) (fun k hk => by have := h.lo.2.2; omega) h.o.size), ho.blk h.hR h.ne.2.1, ho.blk h.hP h.ne.2.2, h.ne, h.lo, h.l8, h.t9, h.nr⟩
theorem GdSt.set (h : Hid (GdSt w0 R Pb tR tP zs cs b ws wr w)) (i : Nat) (v : Value) (hv : noStrU8 v = true) : Hid (GdSt w0 R Pb tR tP zs (cs.setIfInBounds i v) b ws wr (w.setCell ⟨Pb, i, none⟩ v)) := by
  have h := h.out
  have hw8 := h.gl.low
  have ho := Only.setAt w Pb i v
  exact ⟨h.gl.only ho (fun k hk e => by have h1 := h.lo.2.1; have h2 := h.l8; have e' : k = Pb := e; omega), h.rd.far h.hP h.t9 (Ne.symm h.ne.2.2) i v, h.sh, h.o.trans (ho.below (B := w0.heap.size) (fun k hk => by have := h.lo.2.1; omega) h.o.size),
    blk_far h.hR h.ne.1 i v, blk_set h.hP i v, h.ne, h.lo, h.l8, h.t9, ⟨h.nr.1, all_set h.nr.2 i v hv⟩⟩
theorem GdSt.cells (h : Hid (GdSt w0 R Pb tR tP zs cs b ws wr w)) : ∀ i, w.cell? ⟨Pb, i, none⟩ = cs[i]? := fun i => blk_cell h.out.hP i
theorem GdSt.fro (h : Hid (GdSt w0 R Pb tR tP zs cs b ws wr w)) : ∀ i, w.frozen? ⟨Pb, i, none⟩ = false := fun i => blk_frozen h.out.hP i
theorem GdSt.cellsR (h : Hid (GdSt w0 R Pb tR tP zs cs b ws wr w)) : ∀ i, w.cell? ⟨R, i, none⟩ = zs[i]? := fun i => blk_cell h.out.hR i
theorem GdSt.froR (h : Hid (GdSt w0 R Pb tR tP zs cs b ws wr w)) : ∀ i, w.frozen? ⟨R, i, none⟩ = false := fun i => blk_frozen h.out.hR i
theorem GdSt.flag (h : Hid (GdSt w0 R Pb tR tP zs cs b ws wr w)) : w.cell? ⟨b, 1, none⟩ = some (.bool wr) ∧ w.frozen? ⟨b, 1, none⟩ = false := by
  obtain ⟨A, c, hb, _⟩ := h.out.rd.at_
  exact ⟨blk_cell hb 1, blk_frozen hb 1⟩
theorem row_far {w : World} {g i : Nat} {t : TypeId} {zs : Array Value} {v : Value} (h : w.heap[g]? = some (.cells zs t (0, 0))) (hz : zs.toList.all noStrU8 = true) {A : Option Addr} {l : List UInt8} (hr : Row w A (bts l)) : Row (w.setCell ⟨g, i, none⟩ v) A (bts l) := by
  intro j u hj
  obtain ⟨d, o, e, hc⟩ := hr j u hj
  refine ⟨d, o, e, (Only.setAt w g i v).cell hc (fun hd => ?_)⟩
  have hd' : d = g := hd
  subst hd'
  obtain ⟨x, _, rfl⟩ := List.mem_map.1 (List.mem_of_getElem? hj)
  rw [blk_cell h] at hc
  have hm : U8 x ∈ zs.toList := by rw [← Array.getElem?_toList] at hc; exact List.mem_of_getElem? hc
  have := List.all_eq_true.1 hz _ hm
  simp [noStrU8, U8] at this
/-- ten stores into a result's place -/
theorem ten_set {w : World} {g : Nat} {t : TypeId} {z0 z1 z2 z3 z4 z5 z6 z7 z8 z9 : Value} (h : w.heap[g]? = some (.cells #[z0, z1, z2, z3, z4, z5, z6, z7, z8, z9] t (0, 0))) (v0 v1 v2 v3 v4 v5 v6 v7 v8 v9 : Value) :
    ((((((((((w.setCell ⟨g, 0, none⟩ v0).setCell ⟨g, 1, none⟩ v1).setCell ⟨g, 2, none⟩ v2).setCell ⟨g, 3, none⟩ v3).setCell ⟨g, 4, none⟩ v4).setCell ⟨g, 5, none⟩ v5).setCell ⟨g, 6, none⟩ v6).setCell ⟨g, 7, none⟩ v7).setCell ⟨g, 8, none⟩ v8).setCell ⟨g, 9, none⟩ v9).heap[g]? = some (.cells #[v0, v1, v2, v3, v4, v5, v6, v7, v8, v9] t (0, 0)) := by
  have h0 := blk_set h 0 v0
  simp only [List.setIfInBounds_toArray, List.set_cons_zero, List.set_cons_succ] at h0
  have h1 := blk_set h0 1 v1
  simp only [List.setIfInBounds_toArray, List.set_cons_zero, List.set_cons_succ] at h1
  have h2 := blk_set h1 2 v2
  simp only [List.setIfInBounds_toArray, List.set_cons_zero, List.set_cons_succ] at h2
  have h3 := blk_set h2 3 v3
  simp only [List.setIfInBounds_toArray, List.set_cons_zero, List.set_cons_succ] at h3
  have h4 := blk_set h3 4 v4
  simp only [List.setIfInBounds_toArray, List.set_cons_zero, List.set_cons_succ] at h4
  have h5 := blk_set h4 5 v5
  simp only [List.setIfInBounds_toArray, List.set_cons_zero, List.set_cons_succ] at h5
  have h6 := blk_set h5 6 v6
  simp only [List.setIfInBounds_toArray, List.set_cons_zero, List.set_cons_succ] at h6
  have h7 := blk_set h6 7 v7
  simp only [List.setIfInBounds_toArray, List.set_cons_zero, List.set_cons_succ] at h7
  have h8 := blk_set h7 8 v8
  simp only [List.setIfInBounds_toArray, List.set_cons_zero, List.set_cons_succ] at h8
  have h9 := blk_set h8 9 v9
  simp only [List.setIfInBounds_toArray, List.set_cons_zero, List.set_cons_succ] at h9
  exact h9
theorem only_ten (w : World) (g : Nat) (v0 v1 v2 v3 v4 v5 v6 v7 v8 v9 : Value) : Only (fun k => k = g) w
    ((((((((((w.setCell ⟨g, 0, none⟩ v0).setCell ⟨g, 1, none⟩ v1).setCell ⟨g, 2, none⟩ v2).setCell ⟨g, 3, none⟩ v3).setCell ⟨g, 4, none⟩ v4).setCell ⟨g, 5, none⟩ v5).setCell ⟨g, 6, none⟩ v6).setCell ⟨g, 7, none⟩ v7).setCell ⟨g, 8, none⟩ v8).setCell ⟨g, 9, none⟩ v9) :=
  (((((((((Only.setAt _ g 0 v0).trans (Only.setAt _ g 1 v1)).trans (Only.setAt _ g 2 v2)).trans (Only.setAt _ g 3 v3)).trans (Only.setAt _ g 4 v4)).trans (Only.setAt _ g 5 v5)).trans (Only.setAt _ g 6 v6)).trans (Only.setAt _ g 7 v7)).trans (Only.setAt _ g 8 v8)).trans (Only.setAt _ g 9 v9)
theorem row_only {w w' : World} {g : Nat} {t : TypeId} {zs : Array Value} (h : w.heap[g]? = some (.cells zs t (0, 0))) (hz : zs.toList.all noStrU8 = true) (ho : Only (fun k => k = g) w w') {A : Option Addr} {l : List UInt8} (hr : Row w A (bts l)) : Row w' A (bts l) := by
  intro j u hj
  obtain ⟨d, o, e, hc⟩ := hr j u hj
  refine ⟨d, o, e, ho.cell hc (fun hd => ?_)⟩
  have hd' : d = g := hd
  subst hd'
  obtain ⟨x, _, rfl⟩ := List.mem_map.1 (List.mem_of_getElem? hj)
  rw [blk_cell h] at hc
  have hm : U8 x ∈ zs.toList := by rw [← Array.getElem?_toList] at hc; exact List.mem_of_getElem? hc
  have := List.all_eq_true.1 hz _ hm
  simp [noStrU8, U8] at this
theorem GdSt.number (h : Hid (GdSt w0 R Pb tR tP zs cs b ws wr w)) : Calls Tryz.prog 52 #[.pointer (some ⟨b, 0, none⟩)] w fun e w' => e = .returned (.int .i64 (numberP ws wr).1) ∧ Hid (GdSt w0 R Pb tR tP zs cs b (numberP ws wr).2.1 (numberP ws wr).2.2 w') :=
  (number_c b ws wr w h.out.gl h.out.rd h.out.sh).mono fun e w' ⟨he, hr, ho⟩ => ⟨he, h.out.step ho hr (h.out.sh.word wr).2⟩
theorem GdSt.word (h : Hid (GdSt w0 R Pb tR tP zs cs b ws wr w)) : Calls Tryz.prog 54 #[.pointer (some ⟨b, 0, none⟩)] w fun e w' => e = .returned (.string (wordP ws wr).1) ∧ Hid (GdSt w0 R Pb tR tP zs cs b (wordP ws wr).2.1 (wordP ws wr).2.2 w') :=
  (word_c b ws wr w h.out.rd).mono fun e w' ⟨he, hr, ho⟩ => ⟨he, h.out.step ho hr (h.out.sh.word wr).2⟩
theorem GdSt.point (h : Hid (GdSt w0 R Pb tR tP zs cs b ws wr w)) : Calls Tryz.prog 53 #[.pointer (some ⟨b, 0, none⟩)] w fun e w' =>
    e = .returned (.tuple #[.agg #[.int .i64 (ptP ws wr).1.1, .int .i64 (ptP ws wr).1.2.1], .int .i64 (ptP ws wr).1.2.2]) ∧ Hid (GdSt w0 R Pb tR tP zs cs b (ptP ws wr).2.1 (ptP ws wr).2.2 w') :=
  (point_c b ws wr w h.out.gl h.out.rd h.out.sh).mono fun e w' ⟨he, hr, ho⟩ => ⟨he, h.out.step ho hr (h.out.sh.word wr).2⟩
def GdData (w0 : World) (R Pb : Nat) (tR tP : TypeId) (zs cs : Array Value) (b : Nat) (ws : List ByteArray) (wr : Bool) (e : Ending) (w' : World) : Prop :=
  ∃ A c n, n = (rdataP ws wr).1.length ∧ e = .returned (.slice A n c) ∧ n ≤ c ∧ n ≤ 1000000 ∧ Row w' A (bts (rdataP ws wr).1) ∧ Hid (GdSt w0 R Pb tR tP zs cs b (rdataP ws wr).2.1 (rdataP ws wr).2.2 w')
theorem rdataP_short (hs : Short ws) (wr : Bool) : Short (rdataP ws wr).2.1 ∧ (rdataP ws wr).1.length ≤ 1000000 := by
  have h1 := hs.word wr
  unfold rdataP
  split
  · exact ⟨h1.2, by simp⟩
  · refine ⟨h1.2, Nat.le_trans (dec_length _) ?_⟩
    rw [Array.length_toList]; exact h1.1
theorem GdSt.data (h : Hid (GdSt w0 R Pb tR tP zs cs b ws wr w)) : Calls Tryz.prog 55 #[.pointer (some ⟨b, 0, none⟩)] w (GdData w0 R Pb tR tP zs cs b ws wr) :=
  (rdata_c b ws wr w h.out.gl h.out.rd h.out.sh).mono fun e w' ⟨A, c, he, hc, hrow, hr, ho⟩ => ⟨A, c, _, rfl, he, hc, (rdataP_short h.out.sh wr).2, hrow, h.out.step ho hr (rdataP_short h.out.sh wr).1⟩
end
end Go.Proofs.YtkbmljagcondhaaGreatDoor
