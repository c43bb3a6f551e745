/- watch.Name: walked. -/
import Derived.Test.YtkbmljagcondhaaGreatDoorNParse
import Derived.Test.YtkbmljagcondhaaGreatDoorWTrans2
open Go Go.RowKit
set_option linter.unusedSimpArgs false
set_option linter.unusedVariables false
namespace Go.Proofs.YtkbmljagcondhaaGreatDoor
structure Nm where
  a : ByteArray
  b : ByteArray
  z : ByteArray
  net : Int
  node : Int
  sock : Int
  enum : Int
def Nm.cells (p : Nm) : Array Value := #[.string p.a, .string p.b, .string p.z, .int .i64 p.net, .int .i64 p.node, .int .i64 p.sock, .int .i64 p.enum]
def nmE (a b z : ByteArray) (net node sock enum : Int) : Bool := textB a b z && entryB a b z net node sock enum && !hasB (BA (textR a b z)) 32
def nmL (a b z : ByteArray) (net node sock enum : Int) : List ByteArray := [⟨#[78]⟩, BA (textR a b z), BA (pointT net node sock), BA (Lib.itoa enum)]
def nmR (a b z : ByteArray) (net node sock enum : Int) : Array Value := if nmE a b z net node sock enum then #[.string (BA (joinB (nmL a b z net node sock enum))), .int .i64 0] else #[.string ⟨#[]⟩, .int .i64 2]
def putE (ok : Bool) : Int := if ok then 0 else 2
theorem put_c (ok : Bool) (d c : Nat) (a b z : ByteArray) (net node sock enum : Int) (w : World) (hd : w.heap[d]? = some (.cells #[.string a, .string b, .string z, .int .i64 net, .int .i64 node, .int .i64 sock, .int .i64 enum] 49 (0, 0)))
    (he : entryB a b z net node sock enum = ok) : Calls Tryz.prog 58 #[.int .i64 3, .int .i64 0, .slice (some ⟨d, 0, none⟩) 1 c] w (PutEnd ok w) := by
  cases ok
  · exact put_no d c a b z net node sock enum w hd he
  · exact put_yes d c a b z net node sock enum w hd he
def PutIn (w0 : World) (g : Nat) (t : TypeId) (cs : Array Value) (ok : Bool) (e : Ending) (w' : World) : Prop :=
  ∃ v, e = .returned (.tuple #[v, .int .i64 (putE ok)]) ∧ Hid (BoxSt w0 g t cs none [] w')
section
variable {w0 : World} {g : Nat} {t : TypeId} {cs : Array Value} {w : World}
theorem BoxSt.put (h : Hid (BoxSt w0 g t cs none [] w)) (ok : Bool) (c : Nat) (a b z : ByteArray) (net node sock enum : Int) (he : entryB a b z net node sock enum = ok) :
    Calls Tryz.prog 58 #[.int .i64 3, .int .i64 0, .slice (some ⟨w.heap.size, 0, none⟩) 1 c] (w.alloc (.cells #[.string a, .string b, .string z, .int .i64 net, .int .i64 node, .int .i64 sock, .int .i64 enum] 49)) (PutIn w0 g t cs ok) := by
  have hb : Below w.heap.size w (w.alloc (.cells #[.string a, .string b, .string z, .int .i64 net, .int .i64 node, .int .i64 sock, .int .i64 enum] 49)) := (Below.refl _ _).alloc (Nat.le_refl _) _
  exact (put_c ok w.heap.size c a b z net node sock enum _ (blk_new _ _) he).mono fun e w' ⟨v, he, hw⟩ => ⟨v, he, (h.out.below hb).below hw⟩
theorem BoxSt.text (h : Hid (BoxSt w0 g t cs none [] w)) (a b z : ByteArray) : Calls Tryz.prog 57 #[.agg #[.string a, .string b, .string z]] w fun e w' =>
    e = .returned (.tuple #[.string (BA (textR a b z)), .int .i64 (textE a b z)]) ∧ Hid (BoxSt w0 g t cs none [] w') :=
  (text_c a b z w).mono fun e w' ⟨he, hw⟩ => ⟨he, h.out.below hw⟩
theorem BoxSt.seven {v0 v1 v2 v3 v4 v5 v6 : Value} (h : Hid (BoxSt w0 g t #[v0, v1, v2, v3, v4, v5, v6] none [] w)) :
    w.cell? ⟨g, 0, none⟩ = some v0 ∧ w.cell? ⟨g, 1, none⟩ = some v1 ∧ w.cell? ⟨g, 2, none⟩ = some v2 ∧ w.cell? ⟨g, 3, none⟩ = some v3 ∧ w.cell? ⟨g, 4, none⟩ = some v4 ∧ w.cell? ⟨g, 5, none⟩ = some v5 ∧ w.cell? ⟨g, 6, none⟩ = some v6 :=
  (Bx.mk h.out.o h.out.h : Bx w0 g t #[v0, v1, v2, v3, v4, v5, v6] w).seven
theorem BoxSt.four {v0 v1 v2 v3 v4 v5 v6 : Value} (h : Hid (BoxSt w0 g t #[v0, v1, v2, v3, v4, v5, v6] none [] w)) :
    w.cell? ⟨g, 3, none⟩ = some v3 ∧ w.cell? ⟨g, 4, none⟩ = some v4 ∧ w.cell? ⟨g, 5, none⟩ = some v5 ∧ w.cell? ⟨g, 6, none⟩ = some v6 := by
  obtain ⟨_, _, _, a3, a4, a5, a6⟩ := BoxSt.seven h
  exact ⟨a3, a4, a5, a6⟩
end
theorem entryB_wf {a b z : ByteArray} {net node sock enum : Int} (h : entryB a b z net node sock enum = true) : wf64 net ∧ wf64 node ∧ wf64 sock ∧ wf64 enum := by
  simp only [entryB, addrB, inB, Bool.and_eq_true, decide_eq_true_eq] at h
  unfold wf64
  omega
theorem textR_len {a b z : ByteArray} {net node sock enum : Int} (h : entryB a b z net node sock enum = true) : (textR a b z).length ≤ 100 := by
  have := entryB_parts h
  have h1 : a.data.toList.length = a.size := by simp
  have h2 : b.data.toList.length = b.size := by simp
  have h3 : z.data.toList.length = z.size := by simp
  unfold textR
  split
  · simp only [textL, List.length_append, List.length_cons, List.length_nil]; omega
  · simp
set_option maxRecDepth 100000 in
set_option maxHeartbeats 4000000 in
theorem name_c (a b z : ByteArray) (net node sock enum : Int) (w : World) (G : Glob w) :
    Calls Tryz.prog 20 #[.agg #[.string a, .string b, .string z, .int .i64 net, .int .i64 node, .int .i64 sock, .int .i64 enum]] w fun e w' => e = .returned (.tuple (nmR a b z net node sock enum)) ∧ Below w.heap.size w w' := by
  have hb0 : Below w.heap.size w (w.alloc (.cells #[.string a, .string b, .string z, .int .i64 net, .int .i64 node, .int .i64 sock, .int .i64 enum] 49)) := (Below.refl _ _).alloc (Nat.le_refl _) _
  have S0 : Hid (BoxSt w w.heap.size 49 #[.string a, .string b, .string z, .int .i64 net, .int .i64 node, .int .i64 sock, .int .i64 enum] none [] (w.alloc (.cells #[.string a, .string b, .string z, .int .i64 net, .int .i64 node, .int .i64 sock, .int .i64 enum] 49))) :=
    ⟨G.below hb0 G.low, hb0, blk_new _ _, Row.nil _ _⟩
  clear G hb0
  go_enter Tryz.func20, Tryz.ntmps20
  go_wp2_with fail
  generalize hW : (w.alloc (.cells #[.string a, .string b, .string z, .int .i64 net, .int .i64 node, .int .i64 sock, .int .i64 enum] 49)) = W at S0 ⊢
  clear hW
  refine (BoxSt.text S0 a b z).mono ?_
  rintro e w1 ⟨rfl, S1⟩
  clear S0
  obtain ⟨c0, c1, c2, c3, c4, c5, c6⟩ := BoxSt.seven S1
  obtain ⟨ok, hok⟩ : ∃ ok, entryB a b z net node sock enum = ok := ⟨_, rfl⟩
  have HOK : Hid (entryB a b z net node sock enum = ok) := hok
  clear hok
  go_wp2_with fail
  refine (BoxSt.put S1 ok 1 a b z net node sock enum HOK.out).mono ?_
  rintro e w2 ⟨v, rfl, S2⟩
  clear S1 c0 c1 c2 c3 c4 c5 c6
  generalize hte : textE a b z = te
  generalize hpe : putE ok = pe
  generalize htr : textR a b z = tr
  cases htb : textB a b z
  · have : te = 2 := by rw [← hte, textE, htb]; rfl
    subst this
    have HN : Hid (nmE a b z net node sock enum = false) := by unfold Hid nmE; rw [htb]; rfl
    clear hte htr htb hpe
    go_wp2_with fail
    go_ret2
    exact ⟨by rw [nmR, HN.out]; rfl, S2.out.o⟩
  · have : te = 0 := by rw [← hte, textE, htb]; rfl
    subst this
    cases ok
    · have : pe = 2 := by rw [← hpe]; rfl
      subst this
      have HN : Hid (nmE a b z net node sock enum = false) := by unfold Hid nmE; rw [htb, HOK.out]; rfl
      clear hte htr htb hpe
      go_wp2_with fail
      go_ret2
      exact ⟨by rw [nmR, HN.out]; rfl, S2.out.o⟩
    · have : pe = 0 := by rw [← hpe]; rfl
      subst this
      have hcon := Tryz.strings_Contains_one (BA tr) 32
      cases hsp : hasB (BA tr) 32
      · have HN : Hid (nmE a b z net node sock enum = true) := by unfold Hid nmE; rw [htb, HOK.out, htr, hsp]; rfl
        have hcon' : ∀ w, Calls Tryz.prog 59 #[.string (BA tr), .string ⟨#[32]⟩] w fun e w' => e = .returned (.bool false) ∧ w' = w := fun w => (hcon w).mono fun e w' ⟨he, hw⟩ => ⟨by rw [he]; exact congrArg _ (congrArg _ hsp), hw⟩
        obtain ⟨f1, f2, f3, f4⟩ := entryB_wf HOK.out
        have H1 : Hid (wf64 net) := f1
        have H2 : Hid (wf64 node) := f2
        have H3 : Hid (wf64 sock) := f3
        have H4 : Hid (wf64 enum) := f4
        have HTR : Hid (textR a b z = tr) := htr
        have hlen : Hid ((joinB [⟨#[78]⟩, BA tr, BA (pointT net node sock), BA (Lib.itoa enum)]).length ≤ 100000000) := by
          unfold Hid joinB
          have a1 := itoa_len net f1
          have a2 := itoa_len node f2
          have a3 := itoa_len sock f3
          have a4 := itoa_len enum f4
          have a5 := textR_len HOK.out
          rw [htr] at a5
          simp only [List.map_cons, List.map_nil, Lib.join_length, Lib.lens, List.sum_cons, List.sum_nil, BA_list, List.length_cons, List.length_nil, pointT, List.length_append]
          omega
        clear hte htr htb hpe hcon hsp f1 f2 f3 f4
        obtain ⟨c0, c1, c2, c3, c4, c5, c6⟩ := BoxSt.seven S2
        have S3 : Hid (BoxSt w w.heap.size 49 #[.string a, .string b, .string z, .int .i64 net, .int .i64 node, .int .i64 sock, .int .i64 enum] none [] w2.drew) := S2.out.drew
        go_wp2_with (go_at_call 59; refine (hcon' _).mono ?_; rintro e w3 ⟨rfl, hw3⟩; subst w3)
        go_region_held3 (fun w' => w'.cell? ⟨w.heap.size, 3, none⟩ = some (.int .i64 net) ∧ w'.cell? ⟨w.heap.size, 4, none⟩ = some (.int .i64 node) ∧ w'.cell? ⟨w.heap.size, 5, none⟩ = some (.int .i64 sock) ∧ w'.cell? ⟨w.heap.size, 6, none⟩ = some (.int .i64 enum))
          (first | (exact BoxSt.four (by assumption)) | go_keep)
          (first
            | (go_at_call 48; refine (BoxSt.itoa (by assumption) _ (by assumption)).mono ?_; rintro e w' ⟨rfl, hst⟩)
            | (go_at_call 49; refine (BoxSt.point (by assumption) _ _ _ (by assumption) (by assumption) (by assumption)).mono ?_; rintro e w' ⟨rfl, hst⟩)
            | (go_at_call 47; refine (BoxSt.line (by assumption) [⟨#[78]⟩, BA tr, BA (pointT net node sock), BA (Lib.itoa enum)] _ 4 rfl (by omega) hlen.out).mono ?_; rintro e w' ⟨rfl, hst⟩))
        go_wp2
        go_ret2
        exact ⟨by rw [nmR, HN.out, nmL, HTR.out]; rfl, hst.out.o⟩
      · have HN : Hid (nmE a b z net node sock enum = false) := by unfold Hid nmE; rw [htb, HOK.out, htr, hsp]; rfl
        have hcon' : ∀ w, Calls Tryz.prog 59 #[.string (BA tr), .string ⟨#[32]⟩] w fun e w' => e = .returned (.bool true) ∧ w' = w := fun w => (hcon w).mono fun e w' ⟨he, hw⟩ => ⟨by rw [he]; exact congrArg _ (congrArg _ hsp), hw⟩
        clear hte htr htb hpe hcon hsp
        go_wp2_with (go_at_call 59; refine (hcon' _).mono ?_; rintro e w3 ⟨rfl, hw3⟩; subst w3)
        go_ret2
        exact ⟨by rw [nmR, HN.out]; rfl, S2.out.o⟩
end Go.Proofs.YtkbmljagcondhaaGreatDoor
