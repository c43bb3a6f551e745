/- watch.Trans at a kind that is none, walked; strings.Contains, slices.Index as GetTrans asks them. -/
import Derived.Test.YtkbmljagcondhaaGreatDoorWTrans
open Go Go.RowKit
set_option linter.unusedSimpArgs false
set_option linter.unusedVariables false
namespace Go.Proofs.YtkbmljagcondhaaGreatDoor
set_option maxRecDepth 100000 in
set_option maxHeartbeats 2000000 in
theorem trans_no (k : Int) (hk : k < 0 ∨ 3 ≤ k) (id bits seq : Int) (once en ask : Bool) (A : Option Addr) (c n : Nat) (w : World) (G : Glob w) :
    Calls Tryz.prog 26 #[.agg #[.int .i64 k, .int .i64 id, .int .i64 bits, .int .i64 seq, .bool once, .bool en, .bool ask, .slice A n c]] w fun e w' => e = .returned (.string ⟨#[]⟩) ∧ Below w.heap.size w w' := by
  have hb0 : Below w.heap.size w (w.alloc (.cells #[.int .i64 k, .int .i64 id, .int .i64 bits, .int .i64 seq, .bool once, .bool en, .bool ask, .slice A n c] 63)) := (Below.refl _ _).alloc (Nat.le_refl _) _
  have S0 : Hid (BoxSt w w.heap.size 63 #[.int .i64 k, .int .i64 id, .int .i64 bits, .int .i64 seq, .bool once, .bool en, .bool ask, .slice A n c] none [] (w.alloc (.cells #[.int .i64 k, .int .i64 id, .int .i64 bits, .int .i64 seq, .bool once, .bool en, .bool ask, .slice A n c] 63)).drew) :=
    BoxSt.drew ⟨G.below hb0 G.low, hb0, blk_new _ _, Row.nil _ _⟩
  clear G hb0
  by_cases h : k < 0
  · have k0 : decide (k < 0) = true := by simpa using h
    clear hk h
    go_enter Tryz.func26, Tryz.ntmps26
    go_wp2_with fail
    go_quiet (fail)
    go_wp2_with fail
    go_ret
    exact ⟨rfl, S0.out.o.os, S0.out.o.tape, S0.out.o.output, S0.out.o.size, S0.out.o.block⟩
  · have k0 : decide (k < 0) = false := by simpa using h
    have k3 : (3 : Int) ≤ k := by omega
    have k3' : decide ((3 : Int) ≤ k) = true := by simpa using k3
    clear hk h
    go_enter Tryz.func26, Tryz.ntmps26
    go_wp2_with fail
    generalize hW : (w.alloc (.cells #[.int .i64 k, .int .i64 id, .int .i64 bits, .int .i64 seq, .bool once, .bool en, .bool ask, .slice A n c] 63)) = W at S0 ⊢
    clear hW
    have c0 : W.drew.cell? ⟨w.heap.size, 0, none⟩ = some (.int .i64 k) := blk_cell S0.out.h 0
    simp only [World.cell?_drew] at c0
    go_region_held3 (fun w' => w'.cell? ⟨w.heap.size, 0, none⟩ = some (.int .i64 k))
      (first | (exact (BoxSt.eight (by assumption)).1) | go_keep)
      ((go_at_call 62; refine (BoxSt.kinds0 (by assumption)).mono ?_; rintro e wa ⟨rfl, hst⟩))
    go_wp2_with fail
    go_ret
    exact ⟨rfl, hst.out.o⟩
/-- the line of a transaction's packet, whatever its kind -/
def transP (k : Int) (id bits seq : Int) (once en ask : Bool) (l : List UInt8) : List UInt8 := if 0 ≤ k ∧ k < 3 then joinB (trL k.toNat id bits seq once en ask l) else []
theorem transAny_c (k : Int) (hk : wf64 k) (id bits seq : Int) (once en ask : Bool) (A : Option Addr) (c n : Nat) (l : List UInt8) (w : World) (G : Glob w) (h1 : wf64 id) (h2 : wf64 bits) (h3 : wf64 seq) (hn : l.length = n) (hm : n ≤ 1000000) (hrow : Row w A (bts l)) :
    Calls Tryz.prog 26 #[.agg #[.int .i64 k, .int .i64 id, .int .i64 bits, .int .i64 seq, .bool once, .bool en, .bool ask, .slice A n c]] w fun e w' => e = .returned (.string (BA (transP k id bits seq once en ask l))) ∧ Below w.heap.size w w' := by
  by_cases h : 0 ≤ k ∧ k < 3
  · obtain ⟨j, hj⟩ : ∃ j : Nat, k = j := ⟨k.toNat, by omega⟩
    subst hj
    unfold transP
    rw [if_pos h]
    exact trans_yes j (by omega) id bits seq once en ask A c n l w G h1 h2 h3 hn hm hrow
  · unfold transP
    rw [if_neg h]
    exact trans_no k (by omega) id bits seq once en ask A c n w G
def kidx (x : ByteArray) : Int := Lib.idxOfS [kindW 0, kindW 1, kindW 2] x
theorem kidx_val (x : ByteArray) : kidx x = if x = kindW 0 then 0 else if x = kindW 1 then 1 else if x = kindW 2 then 2 else -1 := by
  unfold kidx Lib.idxOfS
  simp only [Lib.idxFromS, eq_comm (a := kindW 0), eq_comm (a := kindW 1), eq_comm (a := kindW 2)]
  split
  · rfl
  · split
    · rfl
    · split <;> rfl
theorem kidx_bd (x : ByteArray) : wf64 (kidx x) := by
  rw [kidx_val]; unfold wf64
  repeat (split <;> try omega)
theorem wf_num (ws : List ByteArray) (wr : Bool) : wf64 (numberP ws wr).1 := atoi_bd _
def hasB (x : ByteArray) (c : UInt8) : Bool := decide (0 ≤ Lib.indexByte x.data.toList c)
theorem kidx_c (d : Nat) (x : ByteArray) (w : World) (h : Hid (w.heap[d]? = some (.cells #[.string (kindW 0), .string (kindW 1), .string (kindW 2)] 9 (0, 0)))) :
    Calls Tryz.prog 61 #[.slice (some ⟨d, 0, none⟩) 3 3, .string x] w fun e w' => e = .returned (.int .i64 (kidx x)) ∧ w' = w := by
  refine (Tryz.slices_Index_string d 0 3 3 [kindW 0, kindW 1, kindW 2] x w (by decide) (by decide) (fun j hj => ?_)).mono fun e w' ⟨he, hw⟩ => ⟨he, hw⟩
  rw [blk_cell h.out]
  match j, hj with
  | 0, _ => rfl
  | 1, _ => rfl
  | 2, _ => rfl
section
variable {w0 : World} {R Pb : Nat} {tR tP : TypeId} {zs cs : Array Value} {b : Nat} {ws : List ByteArray} {wr : Bool} {w : World}
theorem GdSt.wordK (h : Hid (GdSt w0 R Pb tR tP zs cs b ws wr w)) {d : Nat} {o : Obj} (hk : Hid (w.heap[d]? = some o)) (hd : d ≠ b) :
    Calls Tryz.prog 54 #[.pointer (some ⟨b, 0, none⟩)] w fun e w' => e = .returned (.string (wordP ws wr).1) ∧ Hid (GdSt w0 R Pb tR tP zs cs b (wordP ws wr).2.1 (wordP ws wr).2.2 w') ∧ Hid (w'.heap[d]? = some o) :=
  (word_c b ws wr w h.out.rd).mono fun e w' ⟨he, hr, ho⟩ => ⟨he, h.out.step ho hr (h.out.sh.word wr).2, ho.blk hk.out hd⟩
end
end Go.Proofs.YtkbmljagcondhaaGreatDoor
