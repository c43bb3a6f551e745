/- The names of entities, walked: within, isPart, IsPattern, split, Wild, IsName, isKind, isEntry. -/
import Derived.Test.YtkbmljagcondhaaGreatDoorWDgram
import Derived.Lib.AppendStr
import Derived.Outline
open Go Go.RowKit
set_option linter.unusedSimpArgs false
set_option linter.unusedVariables false
namespace Go.Proofs.YtkbmljagcondhaaGreatDoor
theorem nwithin_c (n lo hi : Int) (w : World) : Calls Tryz.prog 86 #[.int .i64 n, .int .i64 lo, .int .i64 hi] w fun e w' => e = .returned (.bool (inB n lo hi)) ∧ w' = w := by
  by_cases h : lo ≤ n
  · have hv : Hid (inB n lo hi = decide (n ≤ hi)) := by simp [Hid, inB, h]
    go_enter Tryz.func86, Tryz.ntmps86
    go_wp2
    go_ret
    exact ⟨by rw [hv.out]; rfl, rfl⟩
  · have hv : Hid (inB n lo hi = false) := by simp [Hid, inB, h]
    go_enter Tryz.func86, Tryz.ntmps86
    go_wp2
    go_ret
    exact ⟨by rw [hv.out]; rfl, rfl⟩
def partB (s : ByteArray) : Bool := inB (s.size : Int) 1 31
theorem isPart_c (s : ByteArray) (w : World) : Calls Tryz.prog 109 #[.string s] w fun e w' => e = .returned (.bool (partB s)) ∧ w' = w := by
  go_enter Tryz.func109, Tryz.ntmps109
  go_wp2_with fail
  refine (nwithin_c _ _ _ _).mono ?_
  rintro e w' ⟨rfl, rfl⟩
  go_wp2_with fail
  go_ret
  exact ⟨rfl, rfl⟩
def patB (a b c : ByteArray) : Bool := partB a && partB b && partB c
theorem isPattern_c (a b c : ByteArray) (w : World) : Calls Tryz.prog 84 #[.agg #[.string a, .string b, .string c]] w fun e w' => e = .returned (.bool (patB a b c)) ∧ Below w.heap.size w w' := by
  go_enter Tryz.func84, Tryz.ntmps84
  go_wp2_with (go_at_call 109; refine (isPart_c _ _).mono ?_; rintro e w' ⟨rfl, rfl⟩; generalize hb : partB _ = b; have HB := (show Hid _ from hb); clear hb; cases b)
  all_goals
    go_ret
    refine ⟨?_, (Below.refl _ _).alloc (Nat.le_refl _) _⟩
    simp only [Hid] at *
    simp [patB, *]
/-- is byte 197 there just once? -/
def starB (s : ByteArray) : Bool := decide (0 ≤ Lib.indexByte s.data.toList 197) && decide (Lib.lastIndexByte s 197 = Lib.indexByte s.data.toList 197)
def SplitStar (s : ByteArray) (w : World) (e : Ending) (w' : World) : Prop := ∃ a b, e = .returned (.tuple #[.string a, .string b, .bool (starB s)]) ∧ Below w.heap.size w w'
theorem indexByte_lt (l : List UInt8) (c : UInt8) : -1 ≤ Lib.indexByte l c ∧ Lib.indexByte l c < (l.length : Int) := by
  induction l with
  | nil => simp [Lib.indexByte]
  | cons b l ih =>
    unfold Lib.indexByte
    simp only [List.length_cons]
    split
    · omega
    · split <;> omega
set_option maxRecDepth 100000 in
theorem split_star_c (s : ByteArray) (hs : s.size ≤ 1000000) (w : World) : Calls Tryz.prog 160 #[.string s] w (SplitStar s w) := by
  have hi := indexByte_lt s.data.toList 197
  rw [Array.length_toList] at hi
  have hi' : -1 ≤ Lib.indexByte s.data.toList 197 ∧ Lib.indexByte s.data.toList 197 < (s.size : Int) := hi
  obtain ⟨i, he⟩ : ∃ i, i = Lib.indexByte s.data.toList 197 := ⟨_, rfl⟩
  obtain ⟨j, hj⟩ : ∃ j, j = Lib.lastIndexByte s 197 := ⟨_, rfl⟩
  have HB : Hid (starB s = (decide (0 ≤ i) && decide (j = i))) := by rw [he, hj]; rfl
  rw [← he] at hi'
  obtain ⟨h1, h2⟩ := hi'
  have C1 : ∀ w, Calls Tryz.prog 83 #[.string s, .int .u8 197] w fun e w' => e = .returned (.int .i64 i) ∧ w' = w := fun w => by
    rw [he]; exact Tryz.strings_IndexByte s 197 w
  have C2 : ∀ w, Calls Tryz.prog 163 #[.string s, .int .u8 197] w fun e w' => e = .returned (.int .i64 j) ∧ w' = w := fun w => by
    rw [hj]; exact Tryz.strings_LastIndexByte s 197 (by omega) w
  have H1 : Hid (∀ w, Calls Tryz.prog 83 #[.string s, .int .u8 197] w fun e w' => e = .returned (.int .i64 i) ∧ w' = w) := C1
  have H2 : Hid (∀ w, Calls Tryz.prog 163 #[.string s, .int .u8 197] w fun e w' => e = .returned (.int .i64 j) ∧ w' = w) := C2
  clear C1 C2 he hj hi
  by_cases h3 : i < 0
  · have HS : Hid (starB s = false) := by have := HB.out; rw [Hid, this]; simp; omega
    have k1 : decide (i < 0) = true := by simpa using h3
    go_enter Tryz.func160, Tryz.ntmps160
    go_wp2_with fail
    refine (H1.out _).mono ?_
    rintro e w' ⟨rfl, rfl⟩
    go_wp2_with fail
    go_ret3
    exact ⟨_, _, by rw [HS.out]; rfl, Below.refl _ _⟩
  · have k1 : decide (i < 0) = false := by simpa using h3
    by_cases h4 : j = i
    · subst h4
      have HS : Hid (starB s = true) := by have := HB.out; rw [Hid, this]; simp; omega
      have h5 : 0 ≤ j := by omega
      have h6 : j ≤ (s.size : Int) := by omega
      have h7 : 0 ≤ j + 1 := by omega
      have h8 : j + 1 ≤ (s.size : Int) := by omega
      have k2 : (j != j) = false := by simp
      clear h3 HB
      go_enter Tryz.func160, Tryz.ntmps160
      go_wp2_with fail
      refine (H1.out _).mono ?_
      rintro e w' ⟨rfl, rfl⟩
      go_wp2_with fail
      refine (H2.out _).mono ?_
      rintro e w' ⟨rfl, rfl⟩
      go_wp2_with fail
      go_quiet (fail)
      go_wp2_with fail
      go_ret3
      exact ⟨_, _, by rw [HS.out]; rfl, ⟨rfl, rfl, rfl, Nat.le_refl _, fun _ _ => rfl⟩⟩
    · have HS : Hid (starB s = false) := by have := HB.out; rw [Hid, this]; simp [h4]
      have k2 : (j != i) = true := by simpa using h4
      have k3 : (j == i) = false := by simpa using h4
      clear h4 HB
      go_enter Tryz.func160, Tryz.ntmps160
      go_wp2_with fail
      refine (H1.out _).mono ?_
      rintro e w' ⟨rfl, rfl⟩
      go_wp2_with fail
      refine (H2.out _).mono ?_
      rintro e w' ⟨rfl, rfl⟩
      go_wp2_with fail
      go_ret3
      exact ⟨_, _, by rw [HS.out]; rfl, Below.refl _ _⟩
def wildB (s : ByteArray) : Bool := starB s || decide (s.data.toList = [61])
theorem wild_c (s : ByteArray) (hs : s.size ≤ 1000000) (w : World) : Calls Tryz.prog 152 #[.string s] w fun e w' => e = .returned (.bool (wildB s)) ∧ Below w.heap.size w w' := by
  have HS : Hid (s.size ≤ 1000000) := hs
  clear hs
  by_cases h : s.data.toList = [61]
  · have e1 := lit_same h
    have HH : Hid (wildB s = true) := by simp [Hid, wildB, h]
    clear h
    go_enter Tryz.func152, Tryz.ntmps152
    go_wp2_with fail
    refine (split_star_c s HS.out _).mono ?_
    rintro e w' ⟨a, b, rfl, hw⟩
    generalize hb : starB s = v
    have HW : Hid (Below w.heap.size w w') := hw
    clear hb hw
    cases v
    all_goals
      go_wp2_with fail
      go_ret
      exact ⟨by rw [HH.out]; rfl, HW.out⟩
  · have e1 := lit_other h
    have HH : Hid (wildB s = starB s) := by simp [Hid, wildB, h]
    clear h
    go_enter Tryz.func152, Tryz.ntmps152
    go_wp2_with fail
    refine (split_star_c s HS.out _).mono ?_
    rintro e w' ⟨a, b, rfl, hw⟩
    generalize hb : starB s = v
    have HB : Hid (starB s = v) := hb
    have HW : Hid (Below w.heap.size w w') := hw
    clear hb hw
    cases v
    all_goals
      go_wp2_with fail
      go_ret
      exact ⟨by rw [HH.out, HB.out]; rfl, HW.out⟩
theorem partB_size {s : ByteArray} (h : partB s = true) : s.size ≤ 31 ∧ 1 ≤ s.size := by
  have := (inB_iff _ _ _).1 h; omega
def nameB (a b c : ByteArray) : Bool := patB a b c && !wildB a && !wildB b
theorem patB_parts {a b c : ByteArray} (h : patB a b c = true) : partB a = true ∧ partB b = true ∧ partB c = true := by
  simp only [patB, Bool.and_eq_true] at h; exact ⟨h.1.1, h.1.2, h.2⟩
/-- a box of three texts -/
theorem Bx.three {w0 : World} {g : Nat} {t : TypeId} {v0 v1 v2 : Value} {w : World} (h : Bx w0 g t #[v0, v1, v2] w) :
    w.cell? ⟨g, 0, none⟩ = some v0 ∧ w.cell? ⟨g, 1, none⟩ = some v1 ∧ w.cell? ⟨g, 2, none⟩ = some v2 := ⟨by rw [blk_cell h.h]; rfl, by rw [blk_cell h.h]; rfl, by rw [blk_cell h.h]; rfl⟩
theorem Bx.pat {w0 : World} {g : Nat} {t : TypeId} {cs : Array Value} {w : World} (h : Hid (Bx w0 g t cs w)) (a b c : ByteArray) :
    Calls Tryz.prog 84 #[.agg #[.string a, .string b, .string c]] w fun e w' => e = .returned (.bool (patB a b c)) ∧ Hid (Bx w0 g t cs w') :=
  (isPattern_c a b c w).mono fun e w' ⟨he, hw⟩ => ⟨he, h.out.below hw⟩
theorem Bx.wild {w0 : World} {g : Nat} {t : TypeId} {cs : Array Value} {w : World} (h : Hid (Bx w0 g t cs w)) (s : ByteArray) (hs : Hid (s.size ≤ 1000000)) :
    Calls Tryz.prog 152 #[.string s] w fun e w' => e = .returned (.bool (wildB s)) ∧ Hid (Bx w0 g t cs w') :=
  (wild_c s hs.out w).mono fun e w' ⟨he, hw⟩ => ⟨he, h.out.below hw⟩
set_option maxRecDepth 100000 in
theorem isName_c (a b c : ByteArray) (w : World) : Calls Tryz.prog 131 #[.agg #[.string a, .string b, .string c]] w fun e w' => e = .returned (.bool (nameB a b c)) ∧ Below w.heap.size w w' := by
  have S0 : Hid (Bx w w.heap.size 47 #[.string a, .string b, .string c] (w.alloc (.cells #[.string a, .string b, .string c] 47))) := ⟨(Below.refl _ _).alloc (Nat.le_refl _) _, blk_new _ _⟩
  go_enter Tryz.func131, Tryz.ntmps131
  go_wp2_with fail
  generalize hW : (w.alloc (.cells #[.string a, .string b, .string c] 47)) = W at S0 ⊢
  clear hW
  refine (Bx.pat S0 a b c).mono ?_
  rintro e w1 ⟨rfl, S1⟩
  clear S0
  obtain ⟨c0, c1, c2⟩ := S1.out.three
  generalize hp : patB a b c = p
  have HP : Hid (patB a b c = p) := hp
  cases p with
  | false =>
    have HN : Hid (nameB a b c = false) := by simp [Hid, nameB, hp]
    clear hp
    go_wp2_with fail
    go_ret
    exact ⟨by rw [HN.out]; rfl, S1.out.o⟩
  | true =>
    have ha : Hid (a.size ≤ 1000000) := by have := partB_size (patB_parts hp).1; unfold Hid; omega
    have hb : Hid (b.size ≤ 1000000) := by have := partB_size (patB_parts hp).2.1; unfold Hid; omega
    clear hp
    go_wp2_with (go_at_call 152; refine (Bx.wild (by assumption) _ (by assumption)).mono ?_; rintro e w' ⟨rfl, hst⟩; obtain ⟨_, _, _⟩ := hst.out.three; generalize hb : wildB _ = b; have HB := (show Hid _ from hb); clear hb; cases b)
    all_goals
      go_ret
      refine ⟨?_, (by assumption : Hid (Bx _ _ _ _ _)).out.o⟩
      simp only [Hid] at *
      simp [nameB, *]
end Go.Proofs.YtkbmljagcondhaaGreatDoor
