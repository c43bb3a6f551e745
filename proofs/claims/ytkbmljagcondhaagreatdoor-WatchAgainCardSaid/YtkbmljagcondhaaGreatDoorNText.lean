/- name.Text, name.Parse: walked. -/
import Derived.Test.YtkbmljagcondhaaGreatDoorNAny
import Derived.Test.YtkbmljagcondhaaGreatDoorWSet
open Go Go.RowKit
set_option linter.unusedSimpArgs false
set_option linter.unusedVariables false
namespace Go.Proofs.YtkbmljagcondhaaGreatDoor
def textL (a b z : List UInt8) : List UInt8 := (((a ++ [58]) ++ b) ++ [64]) ++ z
def textB (a b z : ByteArray) : Bool := patB a b z && !sepB (BA (a.data.toList ++ (b.data.toList ++ z.data.toList)))
def textR (a b z : ByteArray) : List UInt8 := if textB a b z then textL a.data.toList b.data.toList z.data.toList else []
def textE (a b z : ByteArray) : Int := if textB a b z then 0 else 2
theorem Bx.sep {w0 : World} {g : Nat} {t : TypeId} {cs : Array Value} {w : World} (h : Hid (Bx w0 g t cs w)) (s : ByteArray) (hs : s.size ≤ 1000000) :
    Calls Tryz.prog 85 #[.string s, .string ⟨#[58, 64]⟩] w fun e w' => e = .returned (.bool (sepB s)) ∧ Hid (Bx w0 g t cs w') :=
  (containsAny_c s hs w).mono fun e w' ⟨he, hw⟩ => ⟨he, h.out.below hw⟩
set_option maxRecDepth 100000 in
set_option maxHeartbeats 2000000 in
theorem textBA_c (a b z : List UInt8) (w : World) : Calls Tryz.prog 57 #[.agg #[.string (BA a), .string (BA b), .string (BA z)]] w fun e w' =>
    e = .returned (.tuple #[.string (BA (textR (BA a) (BA b) (BA z))), .int .i64 (textE (BA a) (BA b) (BA z))]) ∧ Below w.heap.size w w' := by
  have S0 : Hid (Bx w w.heap.size 47 #[.string (BA a), .string (BA b), .string (BA z)] (w.alloc (.cells #[.string (BA a), .string (BA b), .string (BA z)] 47))) := ⟨(Below.refl _ _).alloc (Nat.le_refl _) _, blk_new _ _⟩
  go_enter Tryz.func57, Tryz.ntmps57
  go_wp2_with fail
  generalize hW : (w.alloc (.cells #[.string (BA a), .string (BA b), .string (BA z)] 47)) = W at S0 ⊢
  clear hW
  refine (Bx.pat S0 (BA a) (BA b) (BA z)).mono ?_
  rintro e w1 ⟨rfl, S1⟩
  clear S0
  obtain ⟨c0, c1, c2⟩ := S1.out.three
  generalize hp : patB (BA a) (BA b) (BA z) = p
  cases p with
  | false =>
    have HN : Hid (textB (BA a) (BA b) (BA z) = false) := by simp [Hid, textB, hp]
    clear hp
    go_wp2_with fail
    go_ret2
    exact ⟨by rw [textR, textE, HN.out]; rfl, S1.out.o⟩
  | true =>
    have ha : a.length ≤ 31 := by have := partB_size (patB_parts hp).1; exact this.1
    have hb : b.length ≤ 31 := by have := partB_size (patB_parts hp).2.1; exact this.1
    have hz : z.length ≤ 31 := by have := partB_size (patB_parts hp).2.2; exact this.1
    have k1 := fun W => add_c (P := Tryz.prog) a b (by omega) (by omega) W
    have k2 := fun W => add_c (P := Tryz.prog) (a ++ b) z (by simp; omega) (by omega) W
    have HP : Hid (patB (BA a) (BA b) (BA z) = true) := hp
    have hl : Hid (a.length ≤ 31 ∧ b.length ≤ 31 ∧ z.length ≤ 31) := ⟨ha, hb, hz⟩
    clear hp ha hb hz
    go_wp2_with fail
    refine (Bx.sep S1 (BA (a ++ (b ++ z))) (by rw [BA_size]; have := hl.out; simp; omega)).mono ?_
    rintro e w2 ⟨rfl, S2⟩
    clear S1 c0 c1 c2 k1 k2
    obtain ⟨c0, c1, c2⟩ := S2.out.three
    generalize hq : sepB (BA (a ++ (b ++ z))) = q
    cases q with
    | true =>
      have HN : Hid (textB (BA a) (BA b) (BA z) = false) := by
        unfold Hid textB
        rw [HP.out, BA_list, BA_list, BA_list, hq]; rfl
      clear hq
      go_wp2_with fail
      go_ret2
      exact ⟨by rw [textR, textE, HN.out]; rfl, S2.out.o⟩
    | false =>
      have HN : Hid (textB (BA a) (BA b) (BA z) = true) := by
        unfold Hid textB
        rw [HP.out, BA_list, BA_list, BA_list, hq]; rfl
      clear hq
      have k1 := fun W => add_c1 (P := Tryz.prog) a 58 (by have := hl.out; omega) W
      have k2 := fun W => add_c (P := Tryz.prog) (a ++ [58]) b (by have := hl.out; simp; omega) (by have := hl.out; omega) W
      have k3 := fun W => add_c1 (P := Tryz.prog) (a ++ [58] ++ b) 64 (by have := hl.out; simp; omega) W
      have k4 := fun W => add_c (P := Tryz.prog) (a ++ [58] ++ b ++ [64]) z (by have := hl.out; simp; omega) (by have := hl.out; omega) W
      simp only [List.append_assoc, List.cons_append, List.nil_append] at k1 k2 k3 k4
      go_wp2_with fail
      go_ret2
      refine ⟨?_, S2.out.o⟩
      rw [textR, textE, HN.out]
      simp [textL, BA_list]
theorem text_c (a b z : ByteArray) (w : World) : Calls Tryz.prog 57 #[.agg #[.string a, .string b, .string z]] w fun e w' =>
    e = .returned (.tuple #[.string (BA (textR a b z)), .int .i64 (textE a b z)]) ∧ Below w.heap.size w w' :=
  textBA_c a.data.toList b.data.toList z.data.toList w
end Go.Proofs.YtkbmljagcondhaaGreatDoor
