/- The watch, walked: lines of words; points; frames. -/
import Derived.Test.YtkbmljagcondhaaGreatDoorWRdData
import Derived.Lib.ItoaLen
open Go Go.RowKit
set_option linter.unusedSimpArgs false
set_option linter.unusedVariables false
namespace Go.Proofs.YtkbmljagcondhaaGreatDoor
def wf64 (n : Int) : Prop := -9223372036854775808 ≤ n ∧ n ≤ 9223372036854775807
/-- a box of the call's own, and bytes that came in, while words are made -/
structure BoxSt (w0 : World) (g : Nat) (t : TypeId) (cs : Array Value) (A : Option Addr) (l : List UInt8) (w : World) : Prop where
  gl : Glob w
  o : Below w0.heap.size w0 w
  h : w.heap[g]? = some (.cells cs t (0, 0))
  row : Row w A (bts l)
theorem BoxSt.below {w0 : World} {g : Nat} {t : TypeId} {cs : Array Value} {A : Option Addr} {l : List UInt8} {w w' : World} (h : BoxSt w0 g t cs A l w) (hb : Below w.heap.size w w') : BoxSt w0 g t cs A l w' :=
  ⟨h.gl.below hb h.gl.low, h.o.trans (hb.mono h.o.size), blk_below h.h hb (blk_lt h.h), h.row.below hb⟩
theorem BoxSt.drew {w0 : World} {g : Nat} {t : TypeId} {cs : Array Value} {A : Option Addr} {l : List UInt8} {w : World} (h : BoxSt w0 g t cs A l w) : BoxSt w0 g t cs A l w.drew := h.below ⟨rfl, rfl, rfl, Nat.le_refl _, fun _ _ => rfl⟩
theorem BoxSt.itoa {w0 : World} {g : Nat} {t : TypeId} {cs : Array Value} {A : Option Addr} {l : List UInt8} {w : World} (h : Hid (BoxSt w0 g t cs A l w)) (n : Int) (hn : Hid (wf64 n)) :
    Calls Tryz.prog 48 #[.int .i64 n] w fun e w' => e = .returned (.string (BA (Lib.itoa n))) ∧ Hid (BoxSt w0 g t cs A l w') :=
  (itoa_c n hn.out.1 hn.out.2 w h.out.gl).mono fun e w' ⟨he, hw⟩ => ⟨he, h.out.below hw⟩
theorem BoxSt.data {w0 : World} {g : Nat} {t : TypeId} {cs : Array Value} {A : Option Addr} {l : List UInt8} {w : World} (h : Hid (BoxSt w0 g t cs A l w)) (c n : Nat) (hn : Hid (l.length = n ∧ n ≤ 1000000)) :
    Calls Tryz.prog 50 #[.slice A n c] w fun e w' => e = .returned (.string (BA (dataL l))) ∧ Hid (BoxSt w0 g t cs A l w') :=
  (data_c' A c n l w hn.out.1 hn.out.2 h.out.row).mono fun e w' ⟨he, hw⟩ => ⟨he, h.out.below hw⟩
def joinB (ws : List ByteArray) : List UInt8 := Lib.join (ws.map (·.data.toList)) [32]
theorem line_c (d n c : Nat) (ws : List ByteArray) (w : World) (hn : ws.length = n) (hc : n ≤ c) (hcells : Row w (some ⟨d, 0, none⟩) (strs ws)) (hd : d < w.heap.size) (hl : (joinB ws).length ≤ 100000000) (hm : n ≤ 1000) :
    Calls Tryz.prog 47 #[.slice (some ⟨d, 0, none⟩) n c] w fun e w' => e = .returned (.string (BA (joinB ws))) ∧ Below w.heap.size w w' := by
  subst hn
  have HC : Hid (Row w (some ⟨d, 0, none⟩) (strs ws)) := hcells
  have HL : Hid ((joinB ws).length ≤ 100000000) := hl
  clear hcells hl
  go_enter Tryz.func47, Tryz.ntmps47
  go_wp2_with fail
  refine (Tryz.strings_Join d 0 c ws ⟨#[32]⟩ w (fun j x hj => ?_) hd (by omega) hc (Nat.le_trans HL.out (by omega))).mono ?_
  · exact HC.out.at j (.string x) (by simp [strs, hj])
  rintro e w' ⟨rfl, hw⟩
  have HW : Hid (Below w.heap.size w w') := hw
  clear hw
  go_wp2_with fail
  go_ret
  exact ⟨rfl, HW.out⟩
theorem BoxSt.line {w0 : World} {g : Nat} {t : TypeId} {cs : Array Value} {A : Option Addr} {l : List UInt8} {w : World} (h : Hid (BoxSt w0 g t cs A l w)) (ws : List ByteArray) (t' : TypeId) (n : Nat) (hn : ws.length = n) (hm : n ≤ 1000) (hl : (joinB ws).length ≤ 100000000) :
    Calls Tryz.prog 47 #[.slice (some ⟨w.heap.size, 0, none⟩) n n] (w.alloc (.cells (ws.map Value.string).toArray t')) fun e w' => e = .returned (.string (BA (joinB ws))) ∧ Hid (BoxSt w0 g t cs A l w') := by
  have hb : Below w.heap.size w (w.alloc (.cells (ws.map Value.string).toArray t')) := (Below.refl _ _).alloc (Nat.le_refl _) _
  refine (line_c w.heap.size n n ws _ hn (Nat.le_refl _) (Row.mk_ fun j v hj => ?_) (by simp) hl hm).mono fun e w' ⟨he, hw⟩ => ⟨he, (h.out.below hb).below hw⟩
  rw [blk_cell (blk_new w _)]
  simpa [strs] using hj
theorem BoxSt.two {w0 : World} {g : Nat} {t : TypeId} {v0 v1 : Value} {A : Option Addr} {l : List UInt8} {w : World} (h : Hid (BoxSt w0 g t #[v0, v1] A l w)) :
    w.cell? ⟨g, 0, none⟩ = some v0 ∧ w.cell? ⟨g, 1, none⟩ = some v1 := ⟨by rw [blk_cell h.out.h]; rfl, by rw [blk_cell h.out.h]; rfl⟩
theorem BoxSt.five {w0 : World} {g : Nat} {t : TypeId} {v0 v1 v2 v3 v4 : Value} {A : Option Addr} {l : List UInt8} {w : World} (h : Hid (BoxSt w0 g t #[v0, v1, v2, v3, v4] A l w)) :
    w.cell? ⟨g, 0, none⟩ = some v0 ∧ w.cell? ⟨g, 1, none⟩ = some v1 ∧ w.cell? ⟨g, 2, none⟩ = some v2 ∧ w.cell? ⟨g, 3, none⟩ = some v3 ∧ w.cell? ⟨g, 4, none⟩ = some v4 :=
  ⟨by rw [blk_cell h.out.h]; rfl, by rw [blk_cell h.out.h]; rfl, by rw [blk_cell h.out.h]; rfl, by rw [blk_cell h.out.h]; rfl, by rw [blk_cell h.out.h]; rfl⟩
theorem itoa_len (n : Int) (h : wf64 n) : (Lib.itoa n).length ≤ 21 := Lib.itoa_length_le n h.1 h.2
theorem dataL_len (l : List UInt8) : (dataL l).length ≤ 2 * l.length + 1 := by
  unfold dataL
  split
  · simp
  · rw [hexs_length]; omega
def frameL (k id seq n : Int) (l : List UInt8) : List ByteArray := [⟨#[70]⟩, BA (Lib.itoa k), BA (Lib.itoa id), BA (Lib.itoa seq), BA (Lib.itoa n), BA (dataL l)]
set_option maxRecDepth 100000 in
set_option maxHeartbeats 2000000 in
theorem frame_c (k id seq n : Int) (A : Option Addr) (c m : Nat) (l : List UInt8) (w : World) (G : Glob w) (hk : wf64 k) (hid : wf64 id) (hseq : wf64 seq) (hn : wf64 n) (hm : l.length = m) (hm2 : m ≤ 1000000) (hrow : Row w A (bts l)) :
    Calls Tryz.prog 23 #[.agg #[.int .i64 k, .int .i64 id, .int .i64 seq, .int .i64 n, .slice A m c]] w fun e w' => e = .returned (.string (BA (joinB (frameL k id seq n l)))) ∧ Below w.heap.size w w' := by
  have H1 : Hid (wf64 k) := hk
  have H2 : Hid (wf64 id) := hid
  have H3 : Hid (wf64 seq) := hseq
  have H4 : Hid (wf64 n) := hn
  have H5 : Hid (l.length = m ∧ m ≤ 1000000) := ⟨hm, hm2⟩
  have hb0 : Below w.heap.size w (w.alloc (.cells #[.int .i64 k, .int .i64 id, .int .i64 seq, .int .i64 n, .slice A m c] 45)) := (Below.refl _ _).alloc (Nat.le_refl _) _
  have S0 : Hid (BoxSt w w.heap.size 45 #[.int .i64 k, .int .i64 id, .int .i64 seq, .int .i64 n, .slice A m c] A l (w.alloc (.cells #[.int .i64 k, .int .i64 id, .int .i64 seq, .int .i64 n, .slice A m c] 45)).drew) :=
    BoxSt.drew ⟨G.below hb0 G.low, hb0, blk_new _ _, hrow.below hb0⟩
  have hlen : Hid ((joinB (frameL k id seq n l)).length ≤ 100000000) := by
    unfold Hid frameL joinB
    have a1 := itoa_len k hk
    have a2 := itoa_len id hid
    have a3 := itoa_len seq hseq
    have a4 := itoa_len n hn
    have a5 := dataL_len l
    simp only [List.map_cons, List.map_nil, Lib.join_length, Lib.lens, List.sum_cons, List.sum_nil, BA_list, List.length_cons, List.length_nil]
    omega
  clear G hk hid hseq hn hm hm2 hrow hb0
  go_enter Tryz.func23, Tryz.ntmps23
  go_wp2_with fail
  generalize hW : (w.alloc (.cells #[.int .i64 k, .int .i64 id, .int .i64 seq, .int .i64 n, .slice A m c] 45)) = W at S0 ⊢
  have c0 : W.drew.cell? ⟨w.heap.size, 0, none⟩ = some (.int .i64 k) := blk_cell S0.out.h 0
  have c1 : W.drew.cell? ⟨w.heap.size, 1, none⟩ = some (.int .i64 id) := blk_cell S0.out.h 1
  have c2 : W.drew.cell? ⟨w.heap.size, 2, none⟩ = some (.int .i64 seq) := blk_cell S0.out.h 2
  have c3 : W.drew.cell? ⟨w.heap.size, 3, none⟩ = some (.int .i64 n) := blk_cell S0.out.h 3
  have c4 : W.drew.cell? ⟨w.heap.size, 4, none⟩ = some (.slice A m c) := blk_cell S0.out.h 4
  simp only [World.cell?_drew] at c0 c1 c2 c3 c4
  clear hW
  go_region_held3 (fun w' => w'.cell? ⟨w.heap.size, 0, none⟩ = some (.int .i64 k) ∧ w'.cell? ⟨w.heap.size, 1, none⟩ = some (.int .i64 id) ∧ w'.cell? ⟨w.heap.size, 2, none⟩ = some (.int .i64 seq) ∧ w'.cell? ⟨w.heap.size, 3, none⟩ = some (.int .i64 n) ∧ w'.cell? ⟨w.heap.size, 4, none⟩ = some (.slice A m c))
    (first | (exact BoxSt.five (by assumption)) | go_keep)
    (first
      | (go_at_call 48; refine (BoxSt.itoa (by assumption) _ (by assumption)).mono ?_; rintro e w' ⟨rfl, hst⟩)
      | (go_at_call 50; refine (BoxSt.data (by assumption) _ _ (by assumption)).mono ?_; rintro e w' ⟨rfl, hst⟩)
      | (go_at_call 47; refine (BoxSt.line (by assumption) (frameL k id seq n l) _ 6 rfl (by omega) hlen.out).mono ?_; rintro e w' ⟨rfl, hst⟩))
  go_wp2
  go_ret
  exact ⟨rfl, hst.out.o⟩
end Go.Proofs.YtkbmljagcondhaaGreatDoor
