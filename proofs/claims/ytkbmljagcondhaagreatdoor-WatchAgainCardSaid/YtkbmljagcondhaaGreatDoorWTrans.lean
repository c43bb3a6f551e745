/- watch.kinds, cmp.Or, watch.Trans, walked. -/
import Derived.Test.YtkbmljagcondhaaGreatDoorWGetF
import Derived.Outline
import Derived.Deep.DeepCutAuto
import Derived.Lib.ItoaLen
open Go Go.RowKit
set_option linter.unusedSimpArgs false
set_option linter.unusedVariables false
namespace Go.Proofs.YtkbmljagcondhaaGreatDoor
def kindW (k : Nat) : ByteArray := if k = 0 then ⟨#[114, 101, 113]⟩ else if k = 1 then ⟨#[114, 115, 112]⟩ else ⟨#[114, 101, 108]⟩
theorem kept_alloc {w : World} {a : Addr} {v : Value} (h : w.cell? a = some v) : ∀ o, (w.alloc o).cell? a = some v := fun o =>
  (World.cell?_alloc_old w o a (Ne.symm (World.new_ne w a h))).trans h
theorem kindW_len (k : Nat) : (kindW k).data.toList.length = 3 := by
  unfold kindW
  split
  · rfl
  · split
    · rfl
    · rfl
theorem kinds_c (w : World) : Calls Tryz.prog 62 #[] w fun e w' => e = .returned (.slice (some ⟨w.heap.size, 0, none⟩) 3 3) ∧ w' = w.alloc (.cells #[.string (kindW 0), .string (kindW 1), .string (kindW 2)] 9) := by
  go_enter Tryz.func62, Tryz.ntmps62
  go_wp2
  go_ret
  exact ⟨rfl, rfl⟩
def orW (x : List UInt8) : List UInt8 := if x = [] then [45] else x
theorem or_c (d c : Nat) (x : ByteArray) (w : World) (h0 : w.cell? ⟨d, 0, none⟩ = some (.string x)) (h1 : w.cell? ⟨d, 1, none⟩ = some (.string ⟨#[45]⟩)) :
    Calls Tryz.prog 63 #[.slice (some ⟨d, 0, none⟩) 2 c] w fun e w' => e = .returned (.string (BA (orW x.data.toList))) ∧ w' = w := by
  by_cases hx : x.data.toList = []
  · have e1 := lit_same hx
    have HX : Hid (orW x.data.toList = [45]) := by unfold Hid orW; rw [if_pos hx]
    have HX0 : Hid (x.data.toList = []) := hx
    clear hx
    go_enter Tryz.func63, Tryz.ntmps63
    go_wp2
    go_loop [8] (fun i => ∃ k : Nat, k ≤ 1 ∧ i = .int .i64 k) (fun i => 2 - (intOf i).toNat)
    case atStart => exact ⟨0, by omega, rfl⟩
    case round =>
      obtain ⟨k, hk, rfl⟩ := hrel
      match k, hk with
      | 0, _ =>
        go_wp2
        exact ⟨⟨1, by omega, rfl⟩, by simp [intOf]⟩
      | 1, _ =>
        go_wp2
        go_ret
        exact ⟨by rw [HX.out]; rfl, rfl⟩
  · have e1 := lit_other hx
    have HX : Hid (orW x.data.toList = x.data.toList) := by unfold Hid orW; rw [if_neg hx]
    clear hx
    go_enter Tryz.func63, Tryz.ntmps63
    go_wp2
    refine wp_loop_rounds 1 ?_
    rw [rounds_succ]
    go_wp2
    go_ret
    exact ⟨by rw [HX.out]; rfl, rfl⟩
/-- with the word of the kind, behind the call that lays the kinds -/
structure BoxK (w0 : World) (g : Nat) (t : TypeId) (cs : Array Value) (A : Option Addr) (l : List UInt8) (d k : Nat) (w : World) : Prop where
  st : BoxSt w0 g t cs A l w
  hk : w.cell? ⟨d, k, none⟩ = some (.string (kindW k))
section
variable {w0 : World} {g : Nat} {t : TypeId} {cs : Array Value} {A : Option Addr} {l : List UInt8} {d k : Nat} {w : World}
theorem BoxK.below {w' : World} (h : BoxK w0 g t cs A l d k w) (hb : Below w.heap.size w w') : BoxK w0 g t cs A l d k w' :=
  ⟨h.st.below hb, (hb.cell (World.block_lt_of_cell? w _ h.hk)).trans h.hk⟩
theorem BoxSt.kinds (h : Hid (BoxSt w0 g t cs A l w)) (k : Nat) (hk : k < 3) : Calls Tryz.prog 62 #[] w fun e w' => e = .returned (.slice (some ⟨w.heap.size, 0, none⟩) 3 3) ∧ Hid (BoxK w0 g t cs A l w.heap.size k w') :=
  (kinds_c w).mono fun e w' ⟨he, hw⟩ => ⟨he, by
    subst hw
    refine ⟨h.out.below ((Below.refl _ _).alloc (Nat.le_refl _) _), ?_⟩
    rw [blk_cell (blk_new w _)]
    match k, hk with
    | 0, _ => rfl
    | 1, _ => rfl
    | 2, _ => rfl⟩
theorem BoxSt.kinds0 (h : Hid (BoxSt w0 g t cs A l w)) : Calls Tryz.prog 62 #[] w fun e w' => e = .returned (.slice (some ⟨w.heap.size, 0, none⟩) 3 3) ∧ Hid (BoxSt w0 g t cs A l w') :=
  (kinds_c w).mono fun e w' ⟨he, hw⟩ => ⟨he, by subst hw; exact h.out.below ((Below.refl _ _).alloc (Nat.le_refl _) _)⟩
theorem BoxK.itoa (h : Hid (BoxK w0 g t cs A l d k w)) (n : Int) (hn : Hid (wf64 n)) :
    Calls Tryz.prog 48 #[.int .i64 n] w fun e w' => e = .returned (.string (BA (Lib.itoa n))) ∧ Hid (BoxK w0 g t cs A l d k w') :=
  (itoa_c n hn.out.1 hn.out.2 w h.out.st.gl).mono fun e w' ⟨he, hw⟩ => ⟨he, h.out.below hw⟩
theorem BoxK.data (h : Hid (BoxK w0 g t cs A l d k w)) (c n : Nat) (hn : Hid (l.length = n ∧ n ≤ 1000000)) :
    Calls Tryz.prog 50 #[.slice A n c] w fun e w' => e = .returned (.string (BA (dataL l))) ∧ Hid (BoxK w0 g t cs A l d k w') :=
  (data_c' A c n l w hn.out.1 hn.out.2 h.out.st.row).mono fun e w' ⟨he, hw⟩ => ⟨he, h.out.below hw⟩
theorem BoxK.or (h : Hid (BoxK w0 g t cs A l d k w)) (x : ByteArray) :
    Calls Tryz.prog 63 #[.slice (some ⟨w.heap.size, 0, none⟩) 2 2] (w.alloc (.cells #[.string x, .string ⟨#[45]⟩] 9)) fun e w' => e = .returned (.string (BA (orW x.data.toList))) ∧ Hid (BoxK w0 g t cs A l d k w') := by
  have hb : Below w.heap.size w (w.alloc (.cells #[.string x, .string ⟨#[45]⟩] 9)) := (Below.refl _ _).alloc (Nat.le_refl _) _
  refine (or_c w.heap.size 2 x _ (by rw [blk_cell (blk_new w _)]; rfl) (by rw [blk_cell (blk_new w _)]; rfl)).mono fun e w' ⟨he, hw⟩ => ⟨he, by rw [hw]; exact h.out.below hb⟩
theorem BoxK.line (h : Hid (BoxK w0 g t cs A l d k w)) (ws : List ByteArray) (t' : TypeId) (n : Nat) (hn : ws.length = n) (hm : n ≤ 1000) (hl : (joinB ws).length ≤ 100000000) :
    Calls Tryz.prog 47 #[.slice (some ⟨w.heap.size, 0, none⟩) n n] (w.alloc (.cells (ws.map Value.string).toArray t')) fun e w' => e = .returned (.string (BA (joinB ws))) ∧ Hid (BoxK w0 g t cs A l d k w') := by
  have hb : Below w.heap.size w (w.alloc (.cells (ws.map Value.string).toArray t')) := (Below.refl _ _).alloc (Nat.le_refl _) _
  refine (line_c w.heap.size n n ws _ hn (Nat.le_refl _) (Row.mk_ fun j v hj => ?_) (by simp) hl hm).mono fun e w' ⟨he, hw⟩ => ⟨he, (h.out.below hb).below hw⟩
  rw [blk_cell (blk_new w _)]
  simpa [strs] using hj
/-- and with the two words among which one is taken -/
structure BoxM (w0 : World) (g : Nat) (t : TypeId) (cs : Array Value) (A : Option Addr) (l : List UInt8) (d k d2 : Nat) (x : ByteArray) (w : World) : Prop where
  st : BoxK w0 g t cs A l d k w
  x0 : w.cell? ⟨d2, 0, none⟩ = some (.string x)
  x1 : w.cell? ⟨d2, 1, none⟩ = some (.string ⟨#[45]⟩)
theorem BoxM.below {d2 : Nat} {x : ByteArray} {w' : World} (h : BoxM w0 g t cs A l d k d2 x w) (hb : Below w.heap.size w w') : BoxM w0 g t cs A l d k d2 x w' :=
  ⟨h.st.below hb, (hb.cell (World.block_lt_of_cell? w _ h.x0)).trans h.x0, (hb.cell (World.block_lt_of_cell? w _ h.x1)).trans h.x1⟩
theorem BoxK.laid {x : ByteArray} (h : Hid (BoxK w0 g t cs A l d k w)) : Hid (BoxM w0 g t cs A l d k w.heap.size x (w.alloc (.cells #[.string x, .string ⟨#[45]⟩] 9))) :=
  ⟨h.out.below ((Below.refl _ _).alloc (Nat.le_refl _) _), by rw [blk_cell (blk_new w _)]; rfl, by rw [blk_cell (blk_new w _)]; rfl⟩
theorem BoxSt.kindsM {x : ByteArray} (h : Hid (BoxSt w0 g t cs A l w)) (k : Nat) (hk : k < 3) : Calls Tryz.prog 62 #[] (w.alloc (.cells #[.string x, .string ⟨#[45]⟩] 9)) fun e w' => e = .returned (.slice (some ⟨w.heap.size + 1, 0, none⟩) 3 3) ∧ Hid (BoxM w0 g t cs A l (w.heap.size + 1) k w.heap.size x w') := by
  have hb : Below w.heap.size w (w.alloc (.cells #[.string x, .string ⟨#[45]⟩] 9)) := (Below.refl _ _).alloc (Nat.le_refl _) _
  have h1 : Hid (BoxSt w0 g t cs A l (w.alloc (.cells #[.string x, .string ⟨#[45]⟩] 9))) := h.out.below hb
  have e1 : (w.alloc (.cells #[.string x, .string ⟨#[45]⟩] 9)).heap.size = w.heap.size + 1 := by simp
  refine (kinds_c _).mono fun e w' ⟨he, hw⟩ => ⟨by rw [he, e1], ?_⟩
  subst hw
  refine ⟨⟨h1.out.below ((Below.refl _ _).alloc (Nat.le_refl _) _), ?_⟩, ?_, ?_⟩
  · have := blk_new (w.alloc (.cells #[.string x, .string ⟨#[45]⟩] 9)) (.cells #[.string (kindW 0), .string (kindW 1), .string (kindW 2)] 9)
    rw [e1] at this
    rw [blk_cell this]
    match k, hk with
    | 0, _ => rfl
    | 1, _ => rfl
    | 2, _ => rfl
  · rw [blk_cell (blk_alloc (blk_new w _) _)]; rfl
  · rw [blk_cell (blk_alloc (blk_new w _) _)]; rfl
theorem BoxM.itoa {d2 : Nat} {x : ByteArray} (h : Hid (BoxM w0 g t cs A l d k d2 x w)) (n : Int) (hn : Hid (wf64 n)) :
    Calls Tryz.prog 48 #[.int .i64 n] w fun e w' => e = .returned (.string (BA (Lib.itoa n))) ∧ Hid (BoxM w0 g t cs A l d k d2 x w') :=
  (itoa_c n hn.out.1 hn.out.2 w h.out.st.st.gl).mono fun e w' ⟨he, hw⟩ => ⟨he, h.out.below hw⟩
theorem BoxM.or {d2 : Nat} {x : ByteArray} (h : Hid (BoxM w0 g t cs A l d k d2 x w)) :
    Calls Tryz.prog 63 #[.slice (some ⟨d2, 0, none⟩) 2 2] w fun e w' => e = .returned (.string (BA (orW x.data.toList))) ∧ Hid (BoxK w0 g t cs A l d k w') :=
  (or_c d2 2 x w h.out.x0 h.out.x1).mono fun e w' ⟨he, hw⟩ => ⟨he, by rw [hw]; exact h.out.st⟩
theorem BoxSt.eight {v0 v1 v2 v3 v4 v5 v6 v7 : Value} (h : Hid (BoxSt w0 g t #[v0, v1, v2, v3, v4, v5, v6, v7] A l w)) :
    w.cell? ⟨g, 0, none⟩ = some v0 ∧ w.cell? ⟨g, 1, none⟩ = some v1 ∧ w.cell? ⟨g, 2, none⟩ = some v2 ∧ w.cell? ⟨g, 3, none⟩ = some v3 ∧ w.cell? ⟨g, 4, none⟩ = some v4 ∧
    w.cell? ⟨g, 5, none⟩ = some v5 ∧ w.cell? ⟨g, 6, none⟩ = some v6 ∧ w.cell? ⟨g, 7, none⟩ = some v7 :=
  ⟨by rw [blk_cell h.out.h]; rfl, by rw [blk_cell h.out.h]; rfl, by rw [blk_cell h.out.h]; rfl, by rw [blk_cell h.out.h]; rfl, by rw [blk_cell h.out.h]; rfl, by rw [blk_cell h.out.h]; rfl, by rw [blk_cell h.out.h]; rfl, by rw [blk_cell h.out.h]; rfl⟩
theorem BoxSt.five8 {v0 v1 v2 v3 v4 v5 v6 v7 : Value} (h : Hid (BoxSt w0 g t #[v0, v1, v2, v3, v4, v5, v6, v7] A l w)) :
    w.cell? ⟨g, 0, none⟩ = some v0 ∧ w.cell? ⟨g, 1, none⟩ = some v1 ∧ w.cell? ⟨g, 2, none⟩ = some v2 ∧ w.cell? ⟨g, 3, none⟩ = some v3 ∧ w.cell? ⟨g, 7, none⟩ = some v7 := by
  obtain ⟨a0, a1, a2, a3, _, _, _, a7⟩ := BoxSt.eight h
  exact ⟨a0, a1, a2, a3, a7⟩
theorem BoxK.five8 {v0 v1 v2 v3 v4 v5 v6 v7 : Value} (h : Hid (BoxK w0 g t #[v0, v1, v2, v3, v4, v5, v6, v7] A l d k w)) :
    w.cell? ⟨g, 0, none⟩ = some v0 ∧ w.cell? ⟨g, 1, none⟩ = some v1 ∧ w.cell? ⟨g, 2, none⟩ = some v2 ∧ w.cell? ⟨g, 3, none⟩ = some v3 ∧ w.cell? ⟨g, 7, none⟩ = some v7 := BoxSt.five8 h.out.st
end
section
variable {w0 : World} {g : Nat} {t : TypeId} {A : Option Addr} {l : List UInt8} {d k : Nat} {w : World}
theorem BoxM.five8 {d2 : Nat} {x : ByteArray} {v0 v1 v2 v3 v4 v5 v6 v7 : Value} (h : Hid (BoxM w0 g t #[v0, v1, v2, v3, v4, v5, v6, v7] A l d k d2 x w)) :
    w.cell? ⟨g, 0, none⟩ = some v0 ∧ w.cell? ⟨g, 1, none⟩ = some v1 ∧ w.cell? ⟨g, 2, none⟩ = some v2 ∧ w.cell? ⟨g, 3, none⟩ = some v3 ∧ w.cell? ⟨g, 7, none⟩ = some v7 := BoxSt.five8 h.out.st.st
end
theorem op_at {l r : List Oper} {i : Nat} {o : Oper} (h : l.drop i = o :: r) : l.toArray[i]? = some o := by
  have := List.getElem?_drop (xs := l) (i := i) (j := 0)
  rw [h] at this
  simpa using this.symm
theorem wpAnyH_strong {P : Program} {ops : Array Oper} {Q : Exit → Act → World → Prop} {md : Region.Mode} {S S' : World → Prop} (hS : ∀ w, S' w → S w) :
    ∀ {fuel : Nat} {listed : Array Bool} {a : Act} {w : World}, wpAnyH P md ops Q S' fuel listed a w → wpAnyH P md ops Q S fuel listed a w
  | 0, _, _, _, h => h
  | _ + 1, _, _, _, h => ⟨h.1, fun i hi => wpOp_mono (fun _ _ h' => ⟨hS _ h'.1, wpAnyH_strong hS h'.2⟩) (h.2 i hi)⟩
section
variable {w0 : World} {g : Nat} {t : TypeId} {A : Option Addr} {l : List UInt8} {d k : Nat} {w : World}
theorem BoxK.six {v0 v1 v2 v3 v4 v5 v6 v7 : Value} (h : Hid (BoxK w0 g t #[v0, v1, v2, v3, v4, v5, v6, v7] A l d k w)) :
    (w.cell? ⟨g, 0, none⟩ = some v0 ∧ w.cell? ⟨g, 1, none⟩ = some v1 ∧ w.cell? ⟨g, 2, none⟩ = some v2 ∧ w.cell? ⟨g, 3, none⟩ = some v3 ∧ w.cell? ⟨g, 7, none⟩ = some v7) ∧ w.cell? ⟨d, k, none⟩ = some (.string (kindW k)) :=
  ⟨BoxK.five8 h, h.out.hk⟩
theorem BoxM.six {d2 : Nat} {x : ByteArray} {v0 v1 v2 v3 v4 v5 v6 v7 : Value} (h : Hid (BoxM w0 g t #[v0, v1, v2, v3, v4, v5, v6, v7] A l d k d2 x w)) :
    (w.cell? ⟨g, 0, none⟩ = some v0 ∧ w.cell? ⟨g, 1, none⟩ = some v1 ∧ w.cell? ⟨g, 2, none⟩ = some v2 ∧ w.cell? ⟨g, 3, none⟩ = some v3 ∧ w.cell? ⟨g, 7, none⟩ = some v7) ∧ w.cell? ⟨d, k, none⟩ = some (.string (kindW k)) :=
  ⟨BoxM.five8 h, h.out.st.hk⟩
variable {cs : Array Value}
theorem BoxSt.kindsE (h : Hid (BoxSt w0 g t cs A l w)) (k : Nat) (hk : k < 3) : Calls Tryz.prog 62 #[] w fun e w' => ∃ d, e = .returned (.slice (some ⟨d, 0, none⟩) 3 3) ∧ Hid (BoxK w0 g t cs A l d k w') :=
  (BoxSt.kinds h k hk).mono fun e w' h => ⟨_, h⟩
theorem BoxSt.kindsME {x : ByteArray} (h : Hid (BoxSt w0 g t cs A l w)) (k : Nat) (hk : k < 3) : Calls Tryz.prog 62 #[] (w.alloc (.cells #[.string x, .string ⟨#[45]⟩] 9)) fun e w' => ∃ d, e = .returned (.slice (some ⟨d, 0, none⟩) 3 3) ∧ Hid (BoxM w0 g t cs A l d k w.heap.size x w') :=
  (BoxSt.kindsM h k hk).mono fun e w' h => ⟨_, h⟩
end
def lettersL (once en ask : Bool) : List UInt8 := (if once then [111] else []) ++ (if en then [101] else []) ++ (if ask then [97] else [])
def trL (k : Nat) (id bits seq : Int) (once en ask : Bool) (l : List UInt8) : List ByteArray :=
  [⟨#[84]⟩, kindW k, BA (Lib.itoa id), BA (Lib.itoa bits), BA (Lib.itoa seq), BA (orW (lettersL once en ask)), BA (dataL l)]
set_option maxRecDepth 100000 in
set_option maxHeartbeats 8000000 in
theorem trans_yes (k : Nat) (hk3 : k < 3) (id bits seq : Int) (once en ask : Bool) (A : Option Addr) (c n : Nat) (l : List UInt8) (w : World) (G : Glob w) (h1 : wf64 id) (h2 : wf64 bits) (h3 : wf64 seq) (hn : l.length = n) (hm : n ≤ 1000000) (hrow : Row w A (bts l)) :
    Calls Tryz.prog 26 #[.agg #[.int .i64 (k : Int), .int .i64 id, .int .i64 bits, .int .i64 seq, .bool once, .bool en, .bool ask, .slice A n c]] w fun e w' => e = .returned (.string (BA (joinB (trL k id bits seq once en ask l)))) ∧ Below w.heap.size w w' := by
  have hb0 : Below w.heap.size w (w.alloc (.cells #[.int .i64 (k : Int), .int .i64 id, .int .i64 bits, .int .i64 seq, .bool once, .bool en, .bool ask, .slice A n c] 63)) := (Below.refl _ _).alloc (Nat.le_refl _) _
  have S0 : Hid (BoxSt w w.heap.size 63 #[.int .i64 (k : Int), .int .i64 id, .int .i64 bits, .int .i64 seq, .bool once, .bool en, .bool ask, .slice A n c] A l (w.alloc (.cells #[.int .i64 (k : Int), .int .i64 id, .int .i64 bits, .int .i64 seq, .bool once, .bool en, .bool ask, .slice A n c] 63)).drew) :=
    BoxSt.drew ⟨G.below hb0 G.low, hb0, blk_new _ _, hrow.below hb0⟩
  have H1 : Hid (wf64 id) := h1
  have H2 : Hid (wf64 bits) := h2
  have H3 : Hid (wf64 seq) := h3
  have H4 : Hid (l.length = n ∧ n ≤ 1000000) := ⟨hn, hm⟩
  have hlen : Hid ((joinB (trL k id bits seq once en ask l)).length ≤ 100000000) := by
    unfold Hid trL joinB
    have a1 := itoa_len id h1
    have a2 := itoa_len bits h2
    have a3 := itoa_len seq h3
    have a5 := dataL_len l
    have a6 := kindW_len k
    have a7 : (orW (lettersL once en ask)).length ≤ 3 := by cases once <;> cases en <;> cases ask <;> decide
    simp only [List.map_cons, List.map_nil, Lib.join_length, Lib.lens, List.sum_cons, List.sum_nil, BA_list, List.length_cons, List.length_nil]
    omega
  clear h1 h2 h3 hn hm hrow G hb0
  have k0 : decide ((k : Int) < 0) = false := by simp
  have k3 : decide ((k : Int) ≥ 3) = false := by simp; omega
  have k3' : decide ((3 : Int) ≤ (k : Int)) = false := by simpa using k3
  have kk0 : (0 : Int) ≤ (k : Int) := by omega
  have kk3 : (k : Int) < 3 := by omega
  go_enter Tryz.func26, Tryz.ntmps26
  go_wp2_with fail
  generalize hW : (w.alloc (.cells #[.int .i64 (k : Int), .int .i64 id, .int .i64 bits, .int .i64 seq, .bool once, .bool en, .bool ask, .slice A n c] 63)) = W at S0 ⊢
  clear hW
  have c0 : W.drew.cell? ⟨w.heap.size, 0, none⟩ = some (.int .i64 (k : Int)) := blk_cell S0.out.h 0
  simp only [World.cell?_drew] at c0
  go_region_held3 (fun w' => w'.cell? ⟨w.heap.size, 0, none⟩ = some (.int .i64 (k : Int)))
    (first | (exact (BoxSt.eight (by assumption)).1) | go_keep)
    ((go_at_call 62; refine (BoxSt.kinds0 (by assumption)).mono ?_; rintro e wa ⟨rfl, hst⟩))
  clear S0 c0
  obtain ⟨c0, c1, c2, c3, c4, c5, c6, c7⟩ := BoxSt.eight hst
  have S1 : Hid (BoxSt w w.heap.size 63 #[.int .i64 (k : Int), .int .i64 id, .int .i64 bits, .int .i64 seq, .bool once, .bool en, .bool ask, .slice A n c] A l wa.drew) := hst.out.drew
  clear hst
  go_upto_if 15 with (fail)
  go_cut [3] (fun s3 wx => ∃ L : List UInt8, Hid (L = (if once then [111] else []) ∧ L.length ≤ 1) ∧ s3 = .string (BA L) ∧ wa = wx)
  case first =>
    cases once
    · go_wp2_with fail
      go_meet
      exact ⟨[], ⟨rfl, by decide⟩, rfl, rfl⟩
    · go_wp2_with fail
      go_meet
      exact ⟨[111], ⟨rfl, by decide⟩, rfl, rfl⟩
  case rest =>
  obtain ⟨L1, hL1, rfl, rfl⟩ := hcut
  go_upto_if 19 with (fail)
  have kL := fun W => add_c1 (P := Tryz.prog) L1 101 (by have := hL1.out.2; omega) W
  go_cut [3] (fun s3 wx => ∃ L : List UInt8, Hid (L = L1 ++ (if en then [101] else []) ∧ L.length ≤ 2) ∧ s3 = .string (BA L) ∧ wa = wx)
  case first =>
    cases en
    · go_wp2_with fail
      go_meet
      exact ⟨L1, ⟨by simp, by have := hL1.out.2; omega⟩, rfl, rfl⟩
    · go_wp2_with fail
      go_meet
      exact ⟨L1 ++ [101], ⟨by simp, by have := hL1.out.2; simp; omega⟩, rfl, rfl⟩
  case rest =>
  obtain ⟨L2, hL2, rfl, rfl⟩ := hcut
  clear kL
  go_upto_if 23 with (fail)
  have kL := fun W => add_c1 (P := Tryz.prog) L2 97 (by have := hL2.out.2; omega) W
  go_cut [3] (fun s3 wx => ∃ L : List UInt8, Hid (L = L2 ++ (if ask then [97] else []) ∧ L.length ≤ 3) ∧ s3 = .string (BA L) ∧ wa = wx)
  case first =>
    cases ask
    · go_wp2_with fail
      go_meet
      exact ⟨L2, ⟨by simp, by have := hL2.out.2; omega⟩, rfl, rfl⟩
    · go_wp2_with fail
      go_meet
      exact ⟨L2 ++ [97], ⟨by simp, by have := hL2.out.2; simp; omega⟩, rfl, rfl⟩
  case rest =>
  obtain ⟨L3, hL3, rfl, rfl⟩ := hcut
  clear kL
  go_wp2_with fail
  have HLL : Hid (lettersL once en ask = L3) := by
    unfold Hid lettersL
    rw [hL3.out.1, hL2.out.1, hL1.out.1]
  have hlen2 : Hid ((joinB ([⟨#[84]⟩, kindW k, BA (Lib.itoa id), BA (Lib.itoa bits), BA (Lib.itoa seq), BA (orW L3), BA (dataL l)] : List ByteArray)).length ≤ 100000000) := by
    have h := hlen.out
    unfold trL at h
    rw [HLL.out] at h
    exact h
  refine wp_region_held_drew (S := fun w' => w'.cell? ⟨w.heap.size, 0, none⟩ = some (.int .i64 (k : Int)) ∧ w'.cell? ⟨w.heap.size, 1, none⟩ = some (.int .i64 id) ∧ w'.cell? ⟨w.heap.size, 2, none⟩ = some (.int .i64 bits) ∧ w'.cell? ⟨w.heap.size, 3, none⟩ = some (.int .i64 seq) ∧ w'.cell? ⟨w.heap.size, 7, none⟩ = some (.slice A n c)) (by kernel_rfl) (BoxSt.five8 S1) (fun hHeld => ?_)
  refine wpAnyH_take (i := 1) (v := ?tv1) (op_at rfl) (by kernel_rfl) (by kernel_rfl) (by kernel_rfl) (fun _ _ _ h => h) (Or.inl ⟨by rfl, ?ty1⟩) (by assumption) ?tr1
  case ty1 => (intro w1 hSw; (try dsimp only at hSw); go_simp; try with_reducible rfl)
  case tr1 =>
  try simp only [Act.put, List.setIfInBounds_toArray, List.set_cons_zero, List.set_cons_succ]
  refine wpAnyH_take (i := 2) (v := ?tv2) (op_at rfl) (by kernel_rfl) (by kernel_rfl) (by kernel_rfl) (fun _ _ _ h => h) (Or.inl ⟨by rfl, ?ty2⟩) (by assumption) ?tr2
  case ty2 => (intro w1 hSw; (try dsimp only at hSw); go_simp; try with_reducible rfl)
  case tr2 =>
  try simp only [Act.put, List.setIfInBounds_toArray, List.set_cons_zero, List.set_cons_succ]
  refine wpAnyH_take (i := 5) (v := ?tv3) (op_at rfl) (by kernel_rfl) (by kernel_rfl) (by kernel_rfl) (fun _ _ _ h => h) (Or.inl ⟨by rfl, ?ty3⟩) (by assumption) ?tr3
  case ty3 => (intro w1 hSw; (try dsimp only at hSw); go_simp; try with_reducible rfl)
  case tr3 =>
  try simp only [Act.put, List.setIfInBounds_toArray, List.set_cons_zero, List.set_cons_succ]
  refine wpAnyH_take (i := 6) (v := ?tv4) (op_at rfl) (by kernel_rfl) (by kernel_rfl) (by kernel_rfl) (fun _ _ _ h => h) (Or.inl ⟨by rfl, ?ty4⟩) (by assumption) ?tr4
  case ty4 => (intro w1 hSw; (try dsimp only at hSw); go_simp; try with_reducible rfl)
  case tr4 =>
  try simp only [Act.put, List.setIfInBounds_toArray, List.set_cons_zero, List.set_cons_succ]
  refine wpAnyH_take (i := 8) (v := ?tv5) (op_at rfl) (by kernel_rfl) (by kernel_rfl) (by kernel_rfl) (fun _ _ _ h => h) (Or.inl ⟨by rfl, ?ty5⟩) (by assumption) ?tr5
  case ty5 => (intro w1 hSw; (try dsimp only at hSw); go_simp; try with_reducible rfl)
  case tr5 =>
  try simp only [Act.put, List.setIfInBounds_toArray, List.set_cons_zero, List.set_cons_succ]
  refine wpAnyH_take (i := 9) (v := ?tv6) (op_at rfl) (by kernel_rfl) (by kernel_rfl) (by kernel_rfl) (fun _ _ _ h => h) (Or.inl ⟨by rfl, ?ty6⟩) (by assumption) ?tr6
  case ty6 => (intro w1 hSw; (try dsimp only at hSw); go_simp; try with_reducible rfl)
  case tr6 =>
  try simp only [Act.put, List.setIfInBounds_toArray, List.set_cons_zero, List.set_cons_succ]
  refine wpAnyH_take (i := 11) (v := ?tv7) (op_at rfl) (by kernel_rfl) (by kernel_rfl) (by kernel_rfl) (fun _ _ _ h => h) (Or.inl ⟨by rfl, ?ty7⟩) (by assumption) ?tr7
  case ty7 => (intro w1 hSw; (try dsimp only at hSw); go_simp; try with_reducible rfl)
  case tr7 =>
  try simp only [Act.put, List.setIfInBounds_toArray, List.set_cons_zero, List.set_cons_succ]
  refine wpAnyH_take (i := 12) (v := ?tv8) (op_at rfl) (by kernel_rfl) (by kernel_rfl) (by kernel_rfl) (fun _ _ _ h => h) (Or.inl ⟨by rfl, ?ty8⟩) (by assumption) ?tr8
  case ty8 => (intro w1 hSw; (try dsimp only at hSw); go_simp; try with_reducible rfl)
  case tr8 =>
  try simp only [Act.put, List.setIfInBounds_toArray, List.set_cons_zero, List.set_cons_succ]
  refine wpAnyH_take (i := 14) (v := ?tv9) (op_at rfl) (by kernel_rfl) (by kernel_rfl) (by kernel_rfl) (fun _ _ _ h => h) (Or.inl ⟨by rfl, ?ty9⟩) (by assumption) ?tr9
  case ty9 => (intro w1 hSw; (try dsimp only at hSw); go_simp; try with_reducible rfl)
  case tr9 =>
  try simp only [Act.put, List.setIfInBounds_toArray, List.set_cons_zero, List.set_cons_succ]
  refine wpAnyH_take (i := 17) (v := ?tv10) (op_at rfl) (by kernel_rfl) (by kernel_rfl) (by kernel_rfl) (fun _ _ _ h => h) (Or.inl ⟨by rfl, ?ty10⟩) (by assumption) ?tr10
  case ty10 => (intro w1 hSw; (try dsimp only at hSw); go_simp; try with_reducible rfl)
  case tr10 =>
  try simp only [Act.put, List.setIfInBounds_toArray, List.set_cons_zero, List.set_cons_succ]
  refine wpAnyH_take (i := 18) (v := ?tv11) (op_at rfl) (by kernel_rfl) (by kernel_rfl) (by kernel_rfl) (fun _ _ _ h => h) (Or.inl ⟨by rfl, ?ty11⟩) (by assumption) ?tr11
  case ty11 => (intro w1 hSw; (try dsimp only at hSw); go_simp; try with_reducible rfl)
  case tr11 =>
  try simp only [Act.put, List.setIfInBounds_toArray, List.set_cons_zero, List.set_cons_succ]
  refine wpAnyH_ready (rs := [0, 15]) (by kernel_rfl) (by simp) ?_
  refine AllReadyH.cons (op_at rfl) (fun K hK => ?_) (AllReadyH.cons (op_at rfl) (fun K hK => ?_) AllReadyH.nil)
  ·
    go_simp
    go_at_call 62; refine (BoxSt.kindsE S1 k hk3).mono ?_; rintro e wq1 ⟨d, rfl, hst⟩
    refine hK.out _ _ ?hS12 (fun hHeld => ?hR12)
    case hS12 => exact (BoxK.six hst).1
    case hR12 =>
    clear hK K
    try simp only [Act.put, List.setIfInBounds_toArray, List.set_cons_zero, List.set_cons_succ]
    refine wpAnyH_strong (S' := fun w' => (w'.cell? ⟨w.heap.size, 0, none⟩ = some (.int .i64 (k : Int)) ∧ w'.cell? ⟨w.heap.size, 1, none⟩ = some (.int .i64 id) ∧ w'.cell? ⟨w.heap.size, 2, none⟩ = some (.int .i64 bits) ∧ w'.cell? ⟨w.heap.size, 3, none⟩ = some (.int .i64 seq) ∧ w'.cell? ⟨w.heap.size, 7, none⟩ = some (.slice A n c)) ∧ w'.cell? ⟨d, k, none⟩ = some (.string (kindW k))) (fun _ h => h.1) ?_
    have hHeld2 := BoxK.six hst
    clear hHeld
    refine wpAnyH_take (i := 3) (v := ?tv13) (op_at rfl) (by kernel_rfl) (by kernel_rfl) (by kernel_rfl) (fun _ _ _ h => h) (Or.inl ⟨by rfl, ?ty13⟩) (by assumption) ?tr13
    case ty13 => (intro w1 hSw; (try dsimp only at hSw); go_simp; try with_reducible rfl)
    case tr13 =>
    try simp only [Act.put, List.setIfInBounds_toArray, List.set_cons_zero, List.set_cons_succ]
    refine wpAnyH_take (i := 4) (v := ?tv14) (op_at rfl) (by kernel_rfl) (by kernel_rfl) (by kernel_rfl) (fun _ _ _ h => h) (Or.inl ⟨by rfl, ?ty14⟩) (by assumption) ?tr14
    case ty14 => (intro w1 hSw; (try dsimp only at hSw); go_simp; try with_reducible rfl)
    case tr14 =>
    try simp only [Act.put, List.setIfInBounds_toArray, List.set_cons_zero, List.set_cons_succ]
    refine wpAnyH_ready (rs := [7, 15]) (by kernel_rfl) (by simp) ?_
    refine AllReadyH.cons (op_at rfl) (fun K hK => ?_) (AllReadyH.cons (op_at rfl) (fun K hK => ?_) AllReadyH.nil)
    ·
      go_simp
      go_at_call 48; refine (BoxK.itoa hst _ (by assumption)).mono ?_; clear hst; rintro e wq2 ⟨rfl, hst⟩
      refine hK.out _ _ ?hS15 (fun hHeld => ?hR15)
      case hS15 => exact BoxK.six hst
      case hR15 =>
      clear hK K
      try simp only [Act.put, List.setIfInBounds_toArray, List.set_cons_zero, List.set_cons_succ]
      refine wpAnyH_ready (rs := [10, 15]) (by kernel_rfl) (by simp) ?_
      refine AllReadyH.cons (op_at rfl) (fun K hK => ?_) (AllReadyH.cons (op_at rfl) (fun K hK => ?_) AllReadyH.nil)
      ·
        go_simp
        go_at_call 48; refine (BoxK.itoa hst _ (by assumption)).mono ?_; clear hst; rintro e wq3 ⟨rfl, hst⟩
        refine hK.out _ _ ?hS16 (fun hHeld => ?hR16)
        case hS16 => exact BoxK.six hst
        case hR16 =>
        clear hK K
        try simp only [Act.put, List.setIfInBounds_toArray, List.set_cons_zero, List.set_cons_succ]
        refine wpAnyH_ready (rs := [13, 15]) (by kernel_rfl) (by simp) ?_
        refine AllReadyH.cons (op_at rfl) (fun K hK => ?_) (AllReadyH.cons (op_at rfl) (fun K hK => ?_) AllReadyH.nil)
        ·
          go_simp
          go_at_call 48; refine (BoxK.itoa hst _ (by assumption)).mono ?_; clear hst; rintro e wq4 ⟨rfl, hst⟩
          refine hK.out _ _ ?hS17 (fun hHeld => ?hR17)
          case hS17 => exact BoxK.six hst
          case hR17 =>
          clear hK K
          try simp only [Act.put, List.setIfInBounds_toArray, List.set_cons_zero, List.set_cons_succ]
          refine wpAnyH_ready (rs := [15]) (by kernel_rfl) (by simp) ?_
          refine AllReadyH.cons (op_at rfl) (fun K hK => ?_) AllReadyH.nil
          go_simp
          replace hst := BoxK.laid (x := BA L3) hst
          refine hK.out _ _ ?hS18 (fun hHeld => ?hR18)
          case hS18 => exact BoxM.six hst
          case hR18 =>
          clear hK K
          try simp only [Act.put, List.setIfInBounds_toArray, List.set_cons_zero, List.set_cons_succ]
          refine wpAnyH_ready (rs := [16]) (by kernel_rfl) (by simp) ?_
          refine AllReadyH.cons (op_at rfl) (fun K hK => ?_) AllReadyH.nil
          go_simp
          go_at_call 63; refine (BoxM.or hst).mono ?_; clear hst; rintro e wq6 ⟨rfl, hst⟩
          refine hK.out _ _ ?hS19 (fun hHeld => ?hR19)
          case hS19 => exact BoxK.six hst
          case hR19 =>
          clear hK K
          try simp only [Act.put, List.setIfInBounds_toArray, List.set_cons_zero, List.set_cons_succ]
          refine wpAnyH_ready (rs := [19]) (by kernel_rfl) (by simp) ?_
          refine AllReadyH.cons (op_at rfl) (fun K hK => ?_) AllReadyH.nil
          go_simp
          go_at_call 50; refine (BoxK.data hst _ _ (by assumption)).mono ?_; clear hst; rintro e wq7 ⟨rfl, hst⟩
          refine hK.out _ _ ?hS20 (fun hHeld => ?hR20)
          case hS20 => exact BoxK.six hst
          case hR20 =>
          clear hK K
          try simp only [Act.put, List.setIfInBounds_toArray, List.set_cons_zero, List.set_cons_succ]
          refine wpAnyH_ready (rs := [20]) (by kernel_rfl) (by simp) ?_
          refine AllReadyH.cons (op_at rfl) (fun K hK => ?_) AllReadyH.nil
          go_simp
          refine hK.out _ _ ?hS21 (fun hHeld => ?hR21)
          case hS21 => exact by go_keep
          case hR21 =>
          clear hK K
          try simp only [Act.put, List.setIfInBounds_toArray, List.set_cons_zero, List.set_cons_succ]
          refine wpAnyH_ready (rs := [21]) (by kernel_rfl) (by simp) ?_
          refine AllReadyH.cons (op_at rfl) (fun K hK => ?_) AllReadyH.nil
          go_simp
          go_at_call 47; refine (BoxK.line (by assumption) ([⟨#[84]⟩, kindW k, BA (Lib.itoa id), BA (Lib.itoa bits), BA (Lib.itoa seq), BA (orW L3), BA (dataL l)] : List ByteArray) _ 7 rfl (by omega) hlen2.out).mono ?_; rintro e w' ⟨rfl, hst⟩
          refine hK.out _ _ ?hS22 (fun hHeld => ?hR22)
          case hS22 => exact BoxK.six hst
          case hR22 =>
          clear hK K
          try simp only [Act.put, List.setIfInBounds_toArray, List.set_cons_zero, List.set_cons_succ]
          refine wpAnyH_take (i := 22) (v := ?tv23) (op_at rfl) (by kernel_rfl) (by kernel_rfl) (by kernel_rfl) (fun _ _ _ h => h) (Or.inl ⟨by rfl, ?ty23⟩) (by assumption) ?tr23
          case ty23 => (intro w1 hSw; (try dsimp only at hSw); go_simp; try with_reducible rfl)
          case tr23 =>
          try simp only [Act.put, List.setIfInBounds_toArray, List.set_cons_zero, List.set_cons_succ]
          refine wpAnyH_done (by kernel_rfl) ?_ _
          go_wp2
          go_ret
          exact ⟨by rw [trL, HLL.out]; rfl, hst.out.st.o⟩
        ·
          go_simp
          replace hst := BoxK.laid (x := BA L3) hst
          refine hK.out _ _ ?hS24 (fun hHeld => ?hR24)
          case hS24 => exact BoxM.six hst
          case hR24 =>
          clear hK K
          try simp only [Act.put, List.setIfInBounds_toArray, List.set_cons_zero, List.set_cons_succ]
          refine wpAnyH_ready (rs := [13]) (by kernel_rfl) (by simp) ?_
          refine AllReadyH.cons (op_at rfl) (fun K hK => ?_) AllReadyH.nil
          go_simp
          go_at_call 48; refine (BoxM.itoa hst _ (by assumption)).mono ?_; clear hst; rintro e wq9 ⟨rfl, hst⟩
          refine hK.out _ _ ?hS25 (fun hHeld => ?hR25)
          case hS25 => exact BoxM.six hst
          case hR25 =>
          clear hK K
          try simp only [Act.put, List.setIfInBounds_toArray, List.set_cons_zero, List.set_cons_succ]
          refine wpAnyH_ready (rs := [16]) (by kernel_rfl) (by simp) ?_
          refine AllReadyH.cons (op_at rfl) (fun K hK => ?_) AllReadyH.nil
          go_simp
          go_at_call 63; refine (BoxM.or hst).mono ?_; clear hst; rintro e wq10 ⟨rfl, hst⟩
          refine hK.out _ _ ?hS26 (fun hHeld => ?hR26)
          case hS26 => exact BoxK.six hst
          case hR26 =>
          clear hK K
          try simp only [Act.put, List.setIfInBounds_toArray, List.set_cons_zero, List.set_cons_succ]
          refine wpAnyH_ready (rs := [19]) (by kernel_rfl) (by simp) ?_
          refine AllReadyH.cons (op_at rfl) (fun K hK => ?_) AllReadyH.nil
          go_simp
          go_at_call 50; refine (BoxK.data hst _ _ (by assumption)).mono ?_; clear hst; rintro e wq11 ⟨rfl, hst⟩
          refine hK.out _ _ ?hS27 (fun hHeld => ?hR27)
          case hS27 => exact BoxK.six hst
          case hR27 =>
          clear hK K
          try simp only [Act.put, List.setIfInBounds_toArray, List.set_cons_zero, List.set_cons_succ]
          refine wpAnyH_ready (rs := [20]) (by kernel_rfl) (by simp) ?_
          refine AllReadyH.cons (op_at rfl) (fun K hK => ?_) AllReadyH.nil
          go_simp
          refine hK.out _ _ ?hS28 (fun hHeld => ?hR28)
          case hS28 => exact by go_keep
          case hR28 =>
          clear hK K
          try simp only [Act.put, List.setIfInBounds_toArray, List.set_cons_zero, List.set_cons_succ]
          refine wpAnyH_ready (rs := [21]) (by kernel_rfl) (by simp) ?_
          refine AllReadyH.cons (op_at rfl) (fun K hK => ?_) AllReadyH.nil
          go_simp
          go_at_call 47; refine (BoxK.line (by assumption) ([⟨#[84]⟩, kindW k, BA (Lib.itoa id), BA (Lib.itoa bits), BA (Lib.itoa seq), BA (orW L3), BA (dataL l)] : List ByteArray) _ 7 rfl (by omega) hlen2.out).mono ?_; rintro e w' ⟨rfl, hst⟩
          refine hK.out _ _ ?hS29 (fun hHeld => ?hR29)
          case hS29 => exact BoxK.six hst
          case hR29 =>
          clear hK K
          try simp only [Act.put, List.setIfInBounds_toArray, List.set_cons_zero, List.set_cons_succ]
          refine wpAnyH_take (i := 22) (v := ?tv30) (op_at rfl) (by kernel_rfl) (by kernel_rfl) (by kernel_rfl) (fun _ _ _ h => h) (Or.inl ⟨by rfl, ?ty30⟩) (by assumption) ?tr30
          case ty30 => (intro w1 hSw; (try dsimp only at hSw); go_simp; try with_reducible rfl)
          case tr30 =>
          try simp only [Act.put, List.setIfInBounds_toArray, List.set_cons_zero, List.set_cons_succ]
          refine wpAnyH_done (by kernel_rfl) ?_ _
          go_wp2
          go_ret
          exact ⟨by rw [trL, HLL.out]; rfl, hst.out.st.o⟩
      ·
        go_simp
        replace hst := BoxK.laid (x := BA L3) hst
        refine hK.out _ _ ?hS31 (fun hHeld => ?hR31)
        case hS31 => exact BoxM.six hst
        case hR31 =>
        clear hK K
        try simp only [Act.put, List.setIfInBounds_toArray, List.set_cons_zero, List.set_cons_succ]
        refine wpAnyH_ready (rs := [10]) (by kernel_rfl) (by simp) ?_
        refine AllReadyH.cons (op_at rfl) (fun K hK => ?_) AllReadyH.nil
        go_simp
        go_at_call 48; refine (BoxM.itoa hst _ (by assumption)).mono ?_; clear hst; rintro e wq13 ⟨rfl, hst⟩
        refine hK.out _ _ ?hS32 (fun hHeld => ?hR32)
        case hS32 => exact BoxM.six hst
        case hR32 =>
        clear hK K
        try simp only [Act.put, List.setIfInBounds_toArray, List.set_cons_zero, List.set_cons_succ]
        refine wpAnyH_ready (rs := [13]) (by kernel_rfl) (by simp) ?_
        refine AllReadyH.cons (op_at rfl) (fun K hK => ?_) AllReadyH.nil
        go_simp
        go_at_call 48; refine (BoxM.itoa hst _ (by assumption)).mono ?_; clear hst; rintro e wq14 ⟨rfl, hst⟩
        refine hK.out _ _ ?hS33 (fun hHeld => ?hR33)
        case hS33 => exact BoxM.six hst
        case hR33 =>
        clear hK K
        try simp only [Act.put, List.setIfInBounds_toArray, List.set_cons_zero, List.set_cons_succ]
        refine wpAnyH_ready (rs := [16]) (by kernel_rfl) (by simp) ?_
        refine AllReadyH.cons (op_at rfl) (fun K hK => ?_) AllReadyH.nil
        go_simp
        go_at_call 63; refine (BoxM.or hst).mono ?_; clear hst; rintro e wq15 ⟨rfl, hst⟩
        refine hK.out _ _ ?hS34 (fun hHeld => ?hR34)
        case hS34 => exact BoxK.six hst
        case hR34 =>
        clear hK K
        try simp only [Act.put, List.setIfInBounds_toArray, List.set_cons_zero, List.set_cons_succ]
        refine wpAnyH_ready (rs := [19]) (by kernel_rfl) (by simp) ?_
        refine AllReadyH.cons (op_at rfl) (fun K hK => ?_) AllReadyH.nil
        go_simp
        go_at_call 50; refine (BoxK.data hst _ _ (by assumption)).mono ?_; clear hst; rintro e wq16 ⟨rfl, hst⟩
        refine hK.out _ _ ?hS35 (fun hHeld => ?hR35)
        case hS35 => exact BoxK.six hst
        case hR35 =>
        clear hK K
        try simp only [Act.put, List.setIfInBounds_toArray, List.set_cons_zero, List.set_cons_succ]
        refine wpAnyH_ready (rs := [20]) (by kernel_rfl) (by simp) ?_
        refine AllReadyH.cons (op_at rfl) (fun K hK => ?_) AllReadyH.nil
        go_simp
        refine hK.out _ _ ?hS36 (fun hHeld => ?hR36)
        case hS36 => exact by go_keep
        case hR36 =>
        clear hK K
        try simp only [Act.put, List.setIfInBounds_toArray, List.set_cons_zero, List.set_cons_succ]
        refine wpAnyH_ready (rs := [21]) (by kernel_rfl) (by simp) ?_
        refine AllReadyH.cons (op_at rfl) (fun K hK => ?_) AllReadyH.nil
        go_simp
        go_at_call 47; refine (BoxK.line (by assumption) ([⟨#[84]⟩, kindW k, BA (Lib.itoa id), BA (Lib.itoa bits), BA (Lib.itoa seq), BA (orW L3), BA (dataL l)] : List ByteArray) _ 7 rfl (by omega) hlen2.out).mono ?_; rintro e w' ⟨rfl, hst⟩
        refine hK.out _ _ ?hS37 (fun hHeld => ?hR37)
        case hS37 => exact BoxK.six hst
        case hR37 =>
        clear hK K
        try simp only [Act.put, List.setIfInBounds_toArray, List.set_cons_zero, List.set_cons_succ]
        refine wpAnyH_take (i := 22) (v := ?tv38) (op_at rfl) (by kernel_rfl) (by kernel_rfl) (by kernel_rfl) (fun _ _ _ h => h) (Or.inl ⟨by rfl, ?ty38⟩) (by assumption) ?tr38
        case ty38 => (intro w1 hSw; (try dsimp only at hSw); go_simp; try with_reducible rfl)
        case tr38 =>
        try simp only [Act.put, List.setIfInBounds_toArray, List.set_cons_zero, List.set_cons_succ]
        refine wpAnyH_done (by kernel_rfl) ?_ _
        go_wp2
        go_ret
        exact ⟨by rw [trL, HLL.out]; rfl, hst.out.st.o⟩
    ·
      go_simp
      replace hst := BoxK.laid (x := BA L3) hst
      refine hK.out _ _ ?hS39 (fun hHeld => ?hR39)
      case hS39 => exact BoxM.six hst
      case hR39 =>
      clear hK K
      try simp only [Act.put, List.setIfInBounds_toArray, List.set_cons_zero, List.set_cons_succ]
      refine wpAnyH_ready (rs := [7]) (by kernel_rfl) (by simp) ?_
      refine AllReadyH.cons (op_at rfl) (fun K hK => ?_) AllReadyH.nil
      go_simp
      go_at_call 48; refine (BoxM.itoa hst _ (by assumption)).mono ?_; clear hst; rintro e wq18 ⟨rfl, hst⟩
      refine hK.out _ _ ?hS40 (fun hHeld => ?hR40)
      case hS40 => exact BoxM.six hst
      case hR40 =>
      clear hK K
      try simp only [Act.put, List.setIfInBounds_toArray, List.set_cons_zero, List.set_cons_succ]
      refine wpAnyH_ready (rs := [10]) (by kernel_rfl) (by simp) ?_
      refine AllReadyH.cons (op_at rfl) (fun K hK => ?_) AllReadyH.nil
      go_simp
      go_at_call 48; refine (BoxM.itoa hst _ (by assumption)).mono ?_; clear hst; rintro e wq19 ⟨rfl, hst⟩
      refine hK.out _ _ ?hS41 (fun hHeld => ?hR41)
      case hS41 => exact BoxM.six hst
      case hR41 =>
      clear hK K
      try simp only [Act.put, List.setIfInBounds_toArray, List.set_cons_zero, List.set_cons_succ]
      refine wpAnyH_ready (rs := [13]) (by kernel_rfl) (by simp) ?_
      refine AllReadyH.cons (op_at rfl) (fun K hK => ?_) AllReadyH.nil
      go_simp
      go_at_call 48; refine (BoxM.itoa hst _ (by assumption)).mono ?_; clear hst; rintro e wq20 ⟨rfl, hst⟩
      refine hK.out _ _ ?hS42 (fun hHeld => ?hR42)
      case hS42 => exact BoxM.six hst
      case hR42 =>
      clear hK K
      try simp only [Act.put, List.setIfInBounds_toArray, List.set_cons_zero, List.set_cons_succ]
      refine wpAnyH_ready (rs := [16]) (by kernel_rfl) (by simp) ?_
      refine AllReadyH.cons (op_at rfl) (fun K hK => ?_) AllReadyH.nil
      go_simp
      go_at_call 63; refine (BoxM.or hst).mono ?_; clear hst; rintro e wq21 ⟨rfl, hst⟩
      refine hK.out _ _ ?hS43 (fun hHeld => ?hR43)
      case hS43 => exact BoxK.six hst
      case hR43 =>
      clear hK K
      try simp only [Act.put, List.setIfInBounds_toArray, List.set_cons_zero, List.set_cons_succ]
      refine wpAnyH_ready (rs := [19]) (by kernel_rfl) (by simp) ?_
      refine AllReadyH.cons (op_at rfl) (fun K hK => ?_) AllReadyH.nil
      go_simp
      go_at_call 50; refine (BoxK.data hst _ _ (by assumption)).mono ?_; clear hst; rintro e wq22 ⟨rfl, hst⟩
      refine hK.out _ _ ?hS44 (fun hHeld => ?hR44)
      case hS44 => exact BoxK.six hst
      case hR44 =>
      clear hK K
      try simp only [Act.put, List.setIfInBounds_toArray, List.set_cons_zero, List.set_cons_succ]
      refine wpAnyH_ready (rs := [20]) (by kernel_rfl) (by simp) ?_
      refine AllReadyH.cons (op_at rfl) (fun K hK => ?_) AllReadyH.nil
      go_simp
      refine hK.out _ _ ?hS45 (fun hHeld => ?hR45)
      case hS45 => exact by go_keep
      case hR45 =>
      clear hK K
      try simp only [Act.put, List.setIfInBounds_toArray, List.set_cons_zero, List.set_cons_succ]
      refine wpAnyH_ready (rs := [21]) (by kernel_rfl) (by simp) ?_
      refine AllReadyH.cons (op_at rfl) (fun K hK => ?_) AllReadyH.nil
      go_simp
      go_at_call 47; refine (BoxK.line (by assumption) ([⟨#[84]⟩, kindW k, BA (Lib.itoa id), BA (Lib.itoa bits), BA (Lib.itoa seq), BA (orW L3), BA (dataL l)] : List ByteArray) _ 7 rfl (by omega) hlen2.out).mono ?_; rintro e w' ⟨rfl, hst⟩
      refine hK.out _ _ ?hS46 (fun hHeld => ?hR46)
      case hS46 => exact BoxK.six hst
      case hR46 =>
      clear hK K
      try simp only [Act.put, List.setIfInBounds_toArray, List.set_cons_zero, List.set_cons_succ]
      refine wpAnyH_take (i := 22) (v := ?tv47) (op_at rfl) (by kernel_rfl) (by kernel_rfl) (by kernel_rfl) (fun _ _ _ h => h) (Or.inl ⟨by rfl, ?ty47⟩) (by assumption) ?tr47
      case ty47 => (intro w1 hSw; (try dsimp only at hSw); go_simp; try with_reducible rfl)
      case tr47 =>
      try simp only [Act.put, List.setIfInBounds_toArray, List.set_cons_zero, List.set_cons_succ]
      refine wpAnyH_done (by kernel_rfl) ?_ _
      go_wp2
      go_ret
      exact ⟨by rw [trL, HLL.out]; rfl, hst.out.st.o⟩
  ·
    go_simp
    refine hK.out _ _ ?hS48 (fun hHeld => ?hR48)
    case hS48 => exact by go_keep
    case hR48 =>
    clear hK K
    try simp only [Act.put, List.setIfInBounds_toArray, List.set_cons_zero, List.set_cons_succ]
    refine wpAnyH_ready (rs := [0]) (by kernel_rfl) (by simp) ?_
    refine AllReadyH.cons (op_at rfl) (fun K hK => ?_) AllReadyH.nil
    go_simp
    go_at_call 62; refine (BoxSt.kindsME S1 k hk3).mono ?_; rintro e wq24 ⟨d, rfl, hst⟩
    refine hK.out _ _ ?hS49 (fun hHeld => ?hR49)
    case hS49 => exact (BoxM.six hst).1
    case hR49 =>
    clear hK K
    try simp only [Act.put, List.setIfInBounds_toArray, List.set_cons_zero, List.set_cons_succ]
    refine wpAnyH_strong (S' := fun w' => (w'.cell? ⟨w.heap.size, 0, none⟩ = some (.int .i64 (k : Int)) ∧ w'.cell? ⟨w.heap.size, 1, none⟩ = some (.int .i64 id) ∧ w'.cell? ⟨w.heap.size, 2, none⟩ = some (.int .i64 bits) ∧ w'.cell? ⟨w.heap.size, 3, none⟩ = some (.int .i64 seq) ∧ w'.cell? ⟨w.heap.size, 7, none⟩ = some (.slice A n c)) ∧ w'.cell? ⟨d, k, none⟩ = some (.string (kindW k))) (fun _ h => h.1) ?_
    have hHeld2 := BoxM.six hst
    clear hHeld
    refine wpAnyH_take (i := 3) (v := ?tv50) (op_at rfl) (by kernel_rfl) (by kernel_rfl) (by kernel_rfl) (fun _ _ _ h => h) (Or.inl ⟨by rfl, ?ty50⟩) (by assumption) ?tr50
    case ty50 => (intro w1 hSw; (try dsimp only at hSw); go_simp; try with_reducible rfl)
    case tr50 =>
    try simp only [Act.put, List.setIfInBounds_toArray, List.set_cons_zero, List.set_cons_succ]
    refine wpAnyH_take (i := 4) (v := ?tv51) (op_at rfl) (by kernel_rfl) (by kernel_rfl) (by kernel_rfl) (fun _ _ _ h => h) (Or.inl ⟨by rfl, ?ty51⟩) (by assumption) ?tr51
    case ty51 => (intro w1 hSw; (try dsimp only at hSw); go_simp; try with_reducible rfl)
    case tr51 =>
    try simp only [Act.put, List.setIfInBounds_toArray, List.set_cons_zero, List.set_cons_succ]
    refine wpAnyH_ready (rs := [7]) (by kernel_rfl) (by simp) ?_
    refine AllReadyH.cons (op_at rfl) (fun K hK => ?_) AllReadyH.nil
    go_simp
    go_at_call 48; refine (BoxM.itoa hst _ (by assumption)).mono ?_; clear hst; rintro e wq25 ⟨rfl, hst⟩
    refine hK.out _ _ ?hS52 (fun hHeld => ?hR52)
    case hS52 => exact BoxM.six hst
    case hR52 =>
    clear hK K
    try simp only [Act.put, List.setIfInBounds_toArray, List.set_cons_zero, List.set_cons_succ]
    refine wpAnyH_ready (rs := [10]) (by kernel_rfl) (by simp) ?_
    refine AllReadyH.cons (op_at rfl) (fun K hK => ?_) AllReadyH.nil
    go_simp
    go_at_call 48; refine (BoxM.itoa hst _ (by assumption)).mono ?_; clear hst; rintro e wq26 ⟨rfl, hst⟩
    refine hK.out _ _ ?hS53 (fun hHeld => ?hR53)
    case hS53 => exact BoxM.six hst
    case hR53 =>
    clear hK K
    try simp only [Act.put, List.setIfInBounds_toArray, List.set_cons_zero, List.set_cons_succ]
    refine wpAnyH_ready (rs := [13]) (by kernel_rfl) (by simp) ?_
    refine AllReadyH.cons (op_at rfl) (fun K hK => ?_) AllReadyH.nil
    go_simp
    go_at_call 48; refine (BoxM.itoa hst _ (by assumption)).mono ?_; clear hst; rintro e wq27 ⟨rfl, hst⟩
    refine hK.out _ _ ?hS54 (fun hHeld => ?hR54)
    case hS54 => exact BoxM.six hst
    case hR54 =>
    clear hK K
    try simp only [Act.put, List.setIfInBounds_toArray, List.set_cons_zero, List.set_cons_succ]
    refine wpAnyH_ready (rs := [16]) (by kernel_rfl) (by simp) ?_
    refine AllReadyH.cons (op_at rfl) (fun K hK => ?_) AllReadyH.nil
    go_simp
    go_at_call 63; refine (BoxM.or hst).mono ?_; clear hst; rintro e wq28 ⟨rfl, hst⟩
    refine hK.out _ _ ?hS55 (fun hHeld => ?hR55)
    case hS55 => exact BoxK.six hst
    case hR55 =>
    clear hK K
    try simp only [Act.put, List.setIfInBounds_toArray, List.set_cons_zero, List.set_cons_succ]
    refine wpAnyH_ready (rs := [19]) (by kernel_rfl) (by simp) ?_
    refine AllReadyH.cons (op_at rfl) (fun K hK => ?_) AllReadyH.nil
    go_simp
    go_at_call 50; refine (BoxK.data hst _ _ (by assumption)).mono ?_; clear hst; rintro e wq29 ⟨rfl, hst⟩
    refine hK.out _ _ ?hS56 (fun hHeld => ?hR56)
    case hS56 => exact BoxK.six hst
    case hR56 =>
    clear hK K
    try simp only [Act.put, List.setIfInBounds_toArray, List.set_cons_zero, List.set_cons_succ]
    refine wpAnyH_ready (rs := [20]) (by kernel_rfl) (by simp) ?_
    refine AllReadyH.cons (op_at rfl) (fun K hK => ?_) AllReadyH.nil
    go_simp
    refine hK.out _ _ ?hS57 (fun hHeld => ?hR57)
    case hS57 => exact by go_keep
    case hR57 =>
    clear hK K
    try simp only [Act.put, List.setIfInBounds_toArray, List.set_cons_zero, List.set_cons_succ]
    refine wpAnyH_ready (rs := [21]) (by kernel_rfl) (by simp) ?_
    refine AllReadyH.cons (op_at rfl) (fun K hK => ?_) AllReadyH.nil
    go_simp
    go_at_call 47; refine (BoxK.line (by assumption) ([⟨#[84]⟩, kindW k, BA (Lib.itoa id), BA (Lib.itoa bits), BA (Lib.itoa seq), BA (orW L3), BA (dataL l)] : List ByteArray) _ 7 rfl (by omega) hlen2.out).mono ?_; rintro e w' ⟨rfl, hst⟩
    refine hK.out _ _ ?hS58 (fun hHeld => ?hR58)
    case hS58 => exact BoxK.six hst
    case hR58 =>
    clear hK K
    try simp only [Act.put, List.setIfInBounds_toArray, List.set_cons_zero, List.set_cons_succ]
    refine wpAnyH_take (i := 22) (v := ?tv59) (op_at rfl) (by kernel_rfl) (by kernel_rfl) (by kernel_rfl) (fun _ _ _ h => h) (Or.inl ⟨by rfl, ?ty59⟩) (by assumption) ?tr59
    case ty59 => (intro w1 hSw; (try dsimp only at hSw); go_simp; try with_reducible rfl)
    case tr59 =>
    try simp only [Act.put, List.setIfInBounds_toArray, List.set_cons_zero, List.set_cons_succ]
    refine wpAnyH_done (by kernel_rfl) ?_ _
    go_wp2
    go_ret
    exact ⟨by rw [trL, HLL.out]; rfl, hst.out.st.o⟩
end Go.Proofs.YtkbmljagcondhaaGreatDoor
