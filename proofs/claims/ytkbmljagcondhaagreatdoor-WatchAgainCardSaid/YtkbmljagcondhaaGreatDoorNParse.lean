/- name.Parse: walked. -/
import Derived.Test.YtkbmljagcondhaaGreatDoorNText
open Go Go.RowKit
set_option linter.unusedSimpArgs false
set_option linter.unusedVariables false
namespace Go.Proofs.YtkbmljagcondhaaGreatDoor
theorem set_3 {w : World} {g : Nat} {t : TypeId} {z0 z1 z2 : Value} (h : w.heap[g]? = some (.cells #[z0, z1, z2] t (0, 0))) (v0 v1 v2 : Value) :
    (((w.setCell ⟨g, 0, none⟩ v0).setCell ⟨g, 1, none⟩ v1).setCell ⟨g, 2, none⟩ v2).heap[g]? = some (.cells #[v0, v1, v2] t (0, 0)) := by
  have h0 := blk_set h 0 v0
  simp only [List.setIfInBounds_toArray, List.set_cons_zero, List.set_cons_succ] at h0
  have h1 := blk_set h0 1 v1
  simp only [List.setIfInBounds_toArray, List.set_cons_zero, List.set_cons_succ] at h1
  have h2 := blk_set h1 2 v2
  simp only [List.setIfInBounds_toArray, List.set_cons_zero, List.set_cons_succ] at h2
  exact h2
theorem onlyset_3 (w : World) (g : Nat) (v0 v1 v2 : Value) : Only (fun k => k = g) w (((w.setCell ⟨g, 0, none⟩ v0).setCell ⟨g, 1, none⟩ v1).setCell ⟨g, 2, none⟩ v2) :=
  ((Only.setAt _ g 0 v0).trans (Only.setAt _ g 1 v1)).trans (Only.setAt _ g 2 v2)
theorem cut_le (l p : List UInt8) : (Lib.cut l p).1.length ≤ l.length ∧ (Lib.cut l p).2.1.length ≤ l.length := by
  unfold Lib.cut
  split <;> simp <;> omega
theorem below_drewN (w : World) (n : Nat) : Below w.heap.size w (w.drewN n) := ⟨rfl, rfl, rfl, Nat.le_refl _, fun _ _ => rfl⟩
theorem cut_c (s sep : ByteArray) (hs : s.size ≤ 1000000) (w : World) (G : Glob w) : Calls Tryz.prog 90 #[.string s, .string sep] w fun e w' =>
    e = .returned (.tuple #[.string (BA (Lib.cut s.data.toList sep.data.toList).1), .string (BA (Lib.cut s.data.toList sep.data.toList).2.1), .bool (Lib.cut s.data.toList sep.data.toList).2.2]) ∧ Below w.heap.size w w' := by
  obtain ⟨m, hm⟩ := G.maxlen
  exact (Tryz.strings_Cut s sep m w (by omega) hm).mono fun e w' ⟨he, n, hw⟩ => ⟨he, by rw [hw]; exact below_drewN w n⟩
structure NpSt (w0 : World) (R Pb : Nat) (zs cs : Array Value) (w : World) : Prop where
  gl : Glob w
  o : Below w0.heap.size w0 w
  hR : w.heap[R]? = some (.cells zs 47 (0, 0))
  hP : w.heap[Pb]? = some (.cells cs 47 (0, 0))
  lo : w0.heap.size ≤ R ∧ R < Pb
theorem NpSt.below {w0 : World} {R Pb : Nat} {zs cs : Array Value} {w w' : World} (h : NpSt w0 R Pb zs cs w) (hb : Below w.heap.size w w') : NpSt w0 R Pb zs cs w' :=
  ⟨h.gl.below hb h.gl.low, h.o.trans (hb.mono h.o.size), blk_below h.hR hb (blk_lt h.hR), blk_below h.hP hb (blk_lt h.hP), h.lo⟩
def cutA (s : ByteArray) := Lib.cut s.data.toList [58]
def cutB (s : ByteArray) := Lib.cut (cutA s).2.1 [64]
def parseOk (s : ByteArray) : Bool := textB (BA (cutA s).1) (BA (cutB s).1) (BA (cutB s).2.1) && decide (textR (BA (cutA s).1) (BA (cutB s).1) (BA (cutB s).2.1) = s.data.toList)
def parseP (s : ByteArray) : ByteArray × ByteArray × ByteArray × Int := if parseOk s then (BA (cutA s).1, BA (cutB s).1, BA (cutB s).2.1, 0) else (BA [], BA [], BA [], 3)
def ParseEnd (r : ByteArray × ByteArray × ByteArray × Int) (w : World) (e : Ending) (w' : World) : Prop :=
  e = .returned (.tuple #[.agg #[.string r.1, .string r.2.1, .string r.2.2.1], .int .i64 r.2.2.2]) ∧ Below w.heap.size w w'
set_option maxRecDepth 100000 in
set_option maxHeartbeats 4000000 in
theorem parse_c (s : ByteArray) (hs : s.size ≤ 1000000) (w : World) (G : Glob w) : Calls Tryz.prog 60 #[.string s] w (ParseEnd (parseP s) w) := by
  have hb0 : Below w.heap.size w (w.alloc (.cells #[.string ⟨#[]⟩, .string ⟨#[]⟩, .string ⟨#[]⟩] 47)) := (Below.refl _ _).alloc (Nat.le_refl _) _
  have S0 : Hid (Bx w w.heap.size 47 #[.string ⟨#[]⟩, .string ⟨#[]⟩, .string ⟨#[]⟩] (w.alloc (.cells #[.string ⟨#[]⟩, .string ⟨#[]⟩, .string ⟨#[]⟩] 47)) ∧ Glob (w.alloc (.cells #[.string ⟨#[]⟩, .string ⟨#[]⟩, .string ⟨#[]⟩] 47))) := ⟨⟨hb0, blk_new _ _⟩, G.below hb0 G.low⟩
  have HS : Hid (s.size ≤ 1000000) := hs
  clear G hs hb0
  go_enter Tryz.func60, Tryz.ntmps60
  go_wp2_with fail
  generalize hW : (w.alloc (.cells #[.string ⟨#[]⟩, .string ⟨#[]⟩, .string ⟨#[]⟩] 47)) = W at S0 ⊢
  clear hW
  refine (cut_c s ⟨#[58]⟩ HS.out _ S0.out.2).mono ?_
  rintro e w1 ⟨he, hw1⟩
  have he' : e = .returned (.tuple #[.string (BA (cutA s).1), .string (BA (cutA s).2.1), .bool (cutA s).2.2]) := he
  subst he'
  have S1 : Hid (Bx w w.heap.size 47 #[.string ⟨#[]⟩, .string ⟨#[]⟩, .string ⟨#[]⟩] w1 ∧ Glob w1) := ⟨S0.out.1.below hw1, S0.out.2.below hw1 S0.out.2.low⟩
  clear he hw1 S0
  go_wp2_with fail
  refine (cut_c (BA (cutA s).2.1) ⟨#[64]⟩ (by rw [BA_size]; have := (cut_le s.data.toList [58]).2; have h2 := HS.out; have h3 : s.data.toList.length = s.size := by simp
                                              unfold cutA; omega) _ S1.out.2).mono ?_
  rintro e w2 ⟨he, hw2⟩
  have he' : e = .returned (.tuple #[.string (BA (cutB s).1), .string (BA (cutB s).2.1), .bool (cutB s).2.2]) := he
  subst he'
  have S2 : Hid (Bx w w.heap.size 47 #[.string ⟨#[]⟩, .string ⟨#[]⟩, .string ⟨#[]⟩] w2 ∧ Glob w2) := ⟨S1.out.1.below hw2, S1.out.2.below hw2 S1.out.2.low⟩
  clear he hw2 S1
  have hb3 : Below w2.heap.size w2 (w2.alloc (.cells #[.string (BA (cutA s).1), .string (BA (cutB s).1), .string (BA (cutB s).2.1)] 47)) := (Below.refl _ _).alloc (Nat.le_refl _) _
  have S3 : Hid (NpSt w w.heap.size w2.heap.size #[.string ⟨#[]⟩, .string ⟨#[]⟩, .string ⟨#[]⟩] #[.string (BA (cutA s).1), .string (BA (cutB s).1), .string (BA (cutB s).2.1)] (w2.alloc (.cells #[.string (BA (cutA s).1), .string (BA (cutB s).1), .string (BA (cutB s).2.1)] 47))) :=
    ⟨S2.out.2.below hb3 S2.out.2.low, (S2.out.1.below hb3).o, (S2.out.1.below hb3).h, blk_new _ _, Nat.le_refl _, blk_lt S2.out.1.h⟩
  clear hb3 S2
  go_wp2_with fail
  generalize hW : (w2.alloc (.cells #[.string (BA (cutA s).1), .string (BA (cutB s).1), .string (BA (cutB s).2.1)] 47)) = W3 at S3 ⊢
  clear hW
  refine (text_c _ _ _ W3).mono ?_
  rintro e w4 ⟨rfl, hw4⟩
  have S4 : Hid (NpSt w w.heap.size w2.heap.size #[.string ⟨#[]⟩, .string ⟨#[]⟩, .string ⟨#[]⟩] #[.string (BA (cutA s).1), .string (BA (cutB s).1), .string (BA (cutB s).2.1)] w4) := S3.out.below hw4
  clear hw4 S3
  generalize hte : textE (BA (cutA s).1) (BA (cutB s).1) (BA (cutB s).2.1) = te
  generalize htr : textR (BA (cutA s).1) (BA (cutB s).1) (BA (cutB s).2.1) = tr
  cases htb : textB (BA (cutA s).1) (BA (cutB s).1) (BA (cutB s).2.1)
  · have : te = 2 := by rw [← hte, textE, htb]; rfl
    subst this
    have HN : Hid (parseOk s = false) := by unfold Hid parseOk; rw [htb]; rfl
    clear hte htr htb
    · -- no name
      have r0 : w4.cell? ⟨w.heap.size, 0, none⟩ = some (.string ⟨#[]⟩) := blk_cell S4.out.hR 0
      have r1 : w4.cell? ⟨w.heap.size, 1, none⟩ = some (.string ⟨#[]⟩) := blk_cell S4.out.hR 1
      have r2 : w4.cell? ⟨w.heap.size, 2, none⟩ = some (.string ⟨#[]⟩) := blk_cell S4.out.hR 2
      have f0 := blk_frozen S4.out.hR 0
      have f1 := blk_frozen S4.out.hR 1
      have f2 := blk_frozen S4.out.hR 2
      go_wp2_with fail
      refine post_ct Tryz.results60 w.heap.size 47 _ _ _ rfl (set_3 S4.out.hR (.string ⟨#[]⟩) (.string ⟨#[]⟩) (.string ⟨#[]⟩)) Tryz.underlying47 rfl (by kernel_rfl) rfl ?_
      have ho := onlyset_3 w4 w.heap.size (.string ⟨#[]⟩) (.string ⟨#[]⟩) (.string ⟨#[]⟩)
      have hB : Below w.heap.size w _ := S4.out.o.trans (ho.below (B := w.heap.size) (fun k hk => by omega) S4.out.o.size)
      have hP : parseP s = (BA [], BA [], BA [], 3) := by unfold parseP; rw [HN.out]; rfl
      exact ⟨by rw [hP]; rfl, hB⟩
  · have : te = 0 := by rw [← hte, textE, htb]; rfl
    subst this
    by_cases hs1 : tr = s.data.toList
    · have e1 := str_same (a := BA tr) (b := s) hs1
      have HN : Hid (parseOk s = true) := by unfold Hid parseOk; rw [htb, htr]; simpa using hs1
      clear hte htr htb hs1
      have r0 : w4.cell? ⟨w.heap.size, 0, none⟩ = some (.string ⟨#[]⟩) := blk_cell S4.out.hR 0
      have r1 : w4.cell? ⟨w.heap.size, 1, none⟩ = some (.string ⟨#[]⟩) := blk_cell S4.out.hR 1
      have r2 : w4.cell? ⟨w.heap.size, 2, none⟩ = some (.string ⟨#[]⟩) := blk_cell S4.out.hR 2
      have f0 := blk_frozen S4.out.hR 0
      have f1 := blk_frozen S4.out.hR 1
      have f2 := blk_frozen S4.out.hR 2
      have p0 : w4.cell? ⟨w2.heap.size, 0, none⟩ = some (.string (BA (cutA s).1)) := blk_cell S4.out.hP 0
      have p1 : w4.cell? ⟨w2.heap.size, 1, none⟩ = some (.string (BA (cutB s).1)) := blk_cell S4.out.hP 1
      have p2 : w4.cell? ⟨w2.heap.size, 2, none⟩ = some (.string (BA (cutB s).2.1)) := blk_cell S4.out.hP 2
      have n1 : ¬ w.heap.size = w2.heap.size := by have := S4.out.lo; omega
      have n2 : ¬ w2.heap.size = w.heap.size := by have := S4.out.lo; omega
      go_wp2_with fail
      refine post_ct Tryz.results60 w.heap.size 47 _ _ _ rfl (set_3 S4.out.hR (.string (BA (cutA s).1)) (.string (BA (cutB s).1)) (.string (BA (cutB s).2.1))) Tryz.underlying47 rfl (by kernel_rfl) rfl ?_
      have ho := onlyset_3 w4 w.heap.size (.string (BA (cutA s).1)) (.string (BA (cutB s).1)) (.string (BA (cutB s).2.1))
      have hB : Below w.heap.size w _ := S4.out.o.trans (ho.below (B := w.heap.size) (fun k hk => by omega) S4.out.o.size)
      have hP : parseP s = (BA (cutA s).1, BA (cutB s).1, BA (cutB s).2.1, 0) := by unfold parseP; rw [HN.out]; rfl
      exact ⟨by rw [hP]; rfl, hB⟩
    · have e1 := str_other (a := BA tr) (b := s) hs1
      have HN : Hid (parseOk s = false) := by unfold Hid parseOk; rw [htb, htr]; simpa using hs1
      clear hte htr htb hs1
      have r0 : w4.cell? ⟨w.heap.size, 0, none⟩ = some (.string ⟨#[]⟩) := blk_cell S4.out.hR 0
      have r1 : w4.cell? ⟨w.heap.size, 1, none⟩ = some (.string ⟨#[]⟩) := blk_cell S4.out.hR 1
      have r2 : w4.cell? ⟨w.heap.size, 2, none⟩ = some (.string ⟨#[]⟩) := blk_cell S4.out.hR 2
      have f0 := blk_frozen S4.out.hR 0
      have f1 := blk_frozen S4.out.hR 1
      have f2 := blk_frozen S4.out.hR 2
      go_wp2_with fail
      refine post_ct Tryz.results60 w.heap.size 47 _ _ _ rfl (set_3 S4.out.hR (.string ⟨#[]⟩) (.string ⟨#[]⟩) (.string ⟨#[]⟩)) Tryz.underlying47 rfl (by kernel_rfl) rfl ?_
      have ho := onlyset_3 w4 w.heap.size (.string ⟨#[]⟩) (.string ⟨#[]⟩) (.string ⟨#[]⟩)
      have hB : Below w.heap.size w _ := S4.out.o.trans (ho.below (B := w.heap.size) (fun k hk => by omega) S4.out.o.size)
      have hP : parseP s = (BA [], BA [], BA [], 3) := by unfold parseP; rw [HN.out]; rfl
      exact ⟨by rw [hP]; rfl, hB⟩
end Go.Proofs.YtkbmljagcondhaaGreatDoor
