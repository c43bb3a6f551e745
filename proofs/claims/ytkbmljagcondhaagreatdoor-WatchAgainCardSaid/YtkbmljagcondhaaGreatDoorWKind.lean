/- watch.Kind of a line of a transaction; First; the reference's num: walked. -/
import Derived.Test.YtkbmljagcondhaaGreatDoorWSame
import Derived.Test.YtkbmljagcondhaaGreatDoorWGetN
open Go Go.RowKit
set_option linter.unusedSimpArgs false
set_option linter.unusedVariables false
namespace Go.Proofs.YtkbmljagcondhaaGreatDoor
theorem first_line : joinB (trL 0 5 7 0 true false false []) = [84, 32, 114, 101, 113, 32, 53, 32, 55, 32, 48, 32, 111, 32, 45] := by decide +kernel
set_option maxRecDepth 100000 in
theorem first_c (w : World) (G : Glob w) : Calls Tryz.prog 16 #[] w fun e w' => e = .returned (.bool true) ∧ Below w.heap.size w w' := by
  have h := trans_yes 0 (by decide) 5 7 0 true false false none 0 0 [] w G (by unfold wf64; omega) (by unfold wf64; omega) (by unfold wf64; omega) rfl (by omega) (Row.nil _ _)
  rw [first_line] at h
  have H : Hid (Calls Tryz.prog 26 #[.agg #[.int .i64 0, .int .i64 5, .int .i64 7, .int .i64 0, .bool true, .bool false, .bool false, .slice none 0 0]] w fun e w' => e = .returned (.string ⟨#[84, 32, 114, 101, 113, 32, 53, 32, 55, 32, 48, 32, 111, 32, 45]⟩) ∧ Below w.heap.size w w') := h
  clear h G
  have e1 : (({ data := #[84, 32, 114, 101, 113, 32, 53, 32, 55, 32, 48, 32, 111, 32, 45] } : ByteArray).toList == ({ data := #[84, 32, 114, 101, 113, 32, 53, 32, 55, 32, 48, 32, 111, 32, 45] } : ByteArray).toList) = true := by simp
  go_enter Tryz.func16, Tryz.ntmps16
  go_wp2_with fail
  refine H.out.mono ?_
  rintro e w1 ⟨rfl, hw1⟩
  have HW : Hid (Below w.heap.size w w1) := hw1
  clear hw1
  go_wp2_with fail
  go_ret
  exact ⟨rfl, HW.out⟩
theorem num_c (n : Int) (hn : wf64 n) (w : World) (G : Glob w) : Calls Tryz.prog 64 #[.int .i64 n] w fun e w' => e = .returned (.string (BA (Lib.itoa n))) ∧ Below w.heap.size w w' := by
  have H := itoa_c n hn.1 hn.2 w G
  have HH : Hid (Calls Tryz.prog 48 #[.int .i64 n] w fun e w' => e = .returned (.string (BA (Lib.itoa n))) ∧ Below w.heap.size w w') := H
  clear H hn G
  go_enter Tryz.func64, Tryz.ntmps64
  go_wp2_with fail
  refine HH.out.mono ?_
  rintro e w1 ⟨rfl, hw1⟩
  have HW : Hid (Below w.heap.size w w1) := hw1
  clear hw1
  go_wp2_with fail
  go_ret
  exact ⟨rfl, HW.out⟩
/-- the globals, and nothing old turned -/
structure Gw (w0 w : World) : Prop where
  gl : Glob w
  o : Below w0.heap.size w0 w
theorem Gw.below {w0 w w' : World} (h : Gw w0 w) (hb : Below w.heap.size w w') : Gw w0 w' := ⟨h.gl.below hb h.gl.low, h.o.trans (hb.mono h.o.size)⟩
theorem Gw.alloc {w0 w : World} (h : Hid (Gw w0 w)) (o : Obj) : Hid (Gw w0 (w.alloc o)) := h.out.below ((Below.refl _ _).alloc (Nat.le_refl _) _)
set_option maxRecDepth 100000 in
set_option maxHeartbeats 4000000 in
theorem kind_c (s : ByteArray) (hs : s.size ≤ 50000) (w : World) (G : Glob w) (h1 : (getDg s).2 = 3) (h2 : (getTr s).2 = 0) :
    Calls Tryz.prog 29 #[.string s] w fun e w' => e = .returned (.string ⟨#[84]⟩) ∧ Below w.heap.size w w' := by
  have S0 : Hid (Gw w w) := ⟨G, Below.refl _ _⟩
  have HS : Hid (s.size ≤ 50000) := hs
  have H1 : Hid ((getDg s).2 = 3) := h1
  have H2 : Hid ((getTr s).2 = 0) := h2
  clear G hs h1 h2
  go_enter Tryz.func29, Tryz.ntmps29
  go_wp2_with fail
  refine (getDatagram_c s HS.out w S0.out.gl).mono ?_
  rintro e w1 ⟨A, n, c, hn, he, hc, hrow, hw⟩
  have he' : e = .returned (.tuple #[.agg #[.int .i64 (getDg s).1.hops, .int .i64 (getDg s).1.dn, .int .i64 (getDg s).1.dd, .int .i64 (getDg s).1.sn, .int .i64 (getDg s).1.sd, .int .i64 (getDg s).1.ds, .int .i64 (getDg s).1.ss, .int .i64 (getDg s).1.ty, .slice A n c, .bool (getDg s).1.sm], .int .i64 3]) := by rw [he, H1.out]; rfl
  subst he'
  have S1 : Hid (Gw w w1) := S0.out.below hw
  clear S0 hw he hc hrow hn
  have T1 := Gw.alloc S1 (.cells #[.int .i64 (getDg s).1.hops, .int .i64 (getDg s).1.dn, .int .i64 (getDg s).1.dd, .int .i64 (getDg s).1.sn, .int .i64 (getDg s).1.sd, .int .i64 (getDg s).1.ds, .int .i64 (getDg s).1.ss, .int .i64 (getDg s).1.ty, .slice A n c, .bool (getDg s).1.sm] 43)
  go_wp2_with fail
  refine (getTrans_c s HS.out _ T1.out.gl).mono ?_
  rintro e w2 ⟨A2, n2, c2, hn, he, hc, hrow, hw⟩
  have he' : e = .returned (.tuple #[.agg #[.int .i64 (getTr s).1.k, .int .i64 (getTr s).1.id, .int .i64 (getTr s).1.bits, .int .i64 (getTr s).1.seq, .bool (getTr s).1.once, .bool (getTr s).1.en, .bool (getTr s).1.ask, .slice A2 n2 c2], .int .i64 0]) := by rw [he, H2.out]; rfl
  subst he'
  have S2 : Hid (Gw w w2) := T1.out.below hw
  clear S1 T1 hw he hc hrow hn
  have T2 := Gw.alloc S2 (.cells #[.int .i64 (getTr s).1.k, .int .i64 (getTr s).1.id, .int .i64 (getTr s).1.bits, .int .i64 (getTr s).1.seq, .bool (getTr s).1.once, .bool (getTr s).1.en, .bool (getTr s).1.ask, .slice A2 n2 c2] 63)
  go_wp2_with fail
  refine (getFrame_c s HS.out _ T2.out.gl).mono ?_
  rintro e w3 ⟨A3, n3', c3, hn, he, hc, hrow, hw⟩
  have he' : e = .returned (.tuple #[.agg #[.int .i64 (getFr s).1.k, .int .i64 (getFr s).1.id, .int .i64 (getFr s).1.seq, .int .i64 (getFr s).1.n, .slice A3 n3' c3], .int .i64 (getFr s).2]) := he
  subst he'
  have S3 : Hid (Gw w w3) := T2.out.below hw
  clear S2 T2 hw he hc hrow hn
  have T3 := Gw.alloc S3 (.cells #[.int .i64 (getFr s).1.k, .int .i64 (getFr s).1.id, .int .i64 (getFr s).1.seq, .int .i64 (getFr s).1.n, .slice A3 n3' c3] 45)
  go_wp2_with fail
  refine (getName_c s HS.out _ T3.out.gl).mono ?_
  rintro e w4 ⟨he, hw⟩
  have he' : e = .returned (.tuple #[.agg #[.string (getNm s).1.a, .string (getNm s).1.b, .string (getNm s).1.z, .int .i64 (getNm s).1.net, .int .i64 (getNm s).1.node, .int .i64 (getNm s).1.sock, .int .i64 (getNm s).1.enum], .int .i64 (getNm s).2]) := he
  subst he'
  have S4 : Hid (Gw w w4) := T3.out.below hw
  clear S3 T3 hw he
  have T4 := Gw.alloc S4 (.cells #[.string (getNm s).1.a, .string (getNm s).1.b, .string (getNm s).1.z, .int .i64 (getNm s).1.net, .int .i64 (getNm s).1.node, .int .i64 (getNm s).1.sock, .int .i64 (getNm s).1.enum] 49)
  go_wp2_with fail
  go_ret
  exact ⟨rfl, T4.out.o⟩
end Go.Proofs.YtkbmljagcondhaaGreatDoor
