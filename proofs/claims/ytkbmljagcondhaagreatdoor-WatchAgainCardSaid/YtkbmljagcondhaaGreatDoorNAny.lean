/- strings.ContainsAny as name.Text asks it: the two signs between the parts of a name, in whatever text. -/
import Derived.Test.YtkbmljagcondhaaGreatDoorNPut
import Derived.Laws.RangeAny
import Derived.Laws.Runes
import Derived.Scope
import Derived.Lib.OthersKept
import Derived.Lib.IndexAny
import Derived.Deep.LoopGhost
open Go Go.RowKit
set_option linter.unusedSimpArgs false
set_option linter.unusedVariables false
namespace Go.Proofs.YtkbmljagcondhaaGreatDoor
def sep2 : ByteArray := ⟨#[58, 64]⟩
theorem enc_high (r : Int) (h : 128 ≤ r) : (∃ a b : UInt8, Utf8.encode r = ⟨#[a, b]⟩ ∧ 128 ≤ b.toNat) ∨ (∃ a b c : UInt8, Utf8.encode r = ⟨#[a, b, c]⟩) ∨ (∃ a b c d : UInt8, Utf8.encode r = ⟨#[a, b, c, d]⟩) := by
  unfold Utf8.encode
  generalize hc : (if Utf8.valid r then r.toNat else Utf8.runeError) = c
  have hc' : 128 ≤ c := by
    subst hc
    split
    · omega
    · decide
  simp only []
  rw [if_neg (by omega)]
  split
  · refine .inl ⟨_, _, rfl, ?_⟩
    have : c % 64 < 64 := Nat.mod_lt _ (by decide)
    simp; omega
  · split
    · exact .inr (.inl ⟨_, _, _, rfl⟩)
    · exact .inr (.inr ⟨_, _, _, _, rfl⟩)
theorem idx_none (x : UInt8) (w : World) : Calls Tryz.prog 83 #[.string ByteArray.empty, .int .u8 (x.toNat : Int)] w fun e w' => e = .returned (.int .i64 (-1)) ∧ w' = w :=
  (Tryz.strings_IndexByte _ _ w).mono fun e w' ⟨he, hw⟩ => ⟨he.trans (by rfl), hw⟩
set_option maxRecDepth 100000 in
set_option maxHeartbeats 4000000 in
theorem rune_high (r : Int) (h0 : 128 ≤ r) (h1 : r ≤ 2147483647) (w : World) : Calls Tryz.prog 127 #[.string ⟨#[58, 64]⟩, .int .i32 r] w fun e w' => e = .returned (.int .i64 (-1)) ∧ Below w.heap.size w w' := by
  have hk : decide (r < 128) = false := by simpa using h0
  have hk0 : decide (0 ≤ r) = true := by simp; omega
  by_cases hr : r = 65533
  · subst hr
    have n0 := fun ty => run_next_ascii (P := Tryz.prog) w ⟨#[58, 64]⟩ 0 ty (by decide) (by decide)
    have n1 := fun ty => run_next_ascii (P := Tryz.prog) w ⟨#[58, 64]⟩ 1 ty (by decide) (by decide)
    have n2 := fun ty => run_next_end (P := Tryz.prog) w ⟨#[58, 64]⟩ 2 ty (by decide)
    go_enter Tryz.func127, Tryz.ntmps127
    go_wp2_with fail
    refine wp_loop_rounds 3 ?_
    rw [rounds_succ]
    go_wp2_with fail
    rw [rounds_succ]
    go_wp2_with fail
    rw [rounds_succ]
    go_wp2_with fail
    go_ret
    exact ⟨rfl, (Below.refl _ _).alloc (Nat.le_refl _) _⟩
  · have hr' : (r == 65533) = false := by simpa using hr
    have vr := Tryz.utf8_ValidRune r
    cases hv : Lib.validRune r
    · rw [hv] at vr
      clear hv
      go_enter Tryz.func127, Tryz.ntmps127
      go_wp2_with (go_at_call 151; refine (vr _).mono ?_; rintro e w' ⟨rfl, rfl⟩)
      go_ret
      exact ⟨rfl, Below.refl _ _⟩
    · rw [hv] at vr
      clear hv
      rcases enc_high r h0 with ⟨a, b, hE, hb⟩ | ⟨a, b, c, hE⟩ | ⟨a, b, c, d, hE⟩
      · have hb1 : (((({ data := #[58, 64] } : ByteArray)[1]'(by decide)).toNat : Int) != ((({ data := #[a, b] } : ByteArray)[1]'(show 1 < 2 by decide)).toNat : Int)) = true := by
          show ((64 : Int) != (b.toNat : Int)) = true
          simp; omega
        have hw2 : IntKind.i64.wrap 2 = 2 := by decide
        go_enter Tryz.func127, Tryz.ntmps127
        go_wp2_with (go_at_call 151; refine (vr _).mono ?_; rintro e w' ⟨rfl, hw'⟩; subst w')
        refine wp_scope_straight ?_
        go_wp2_with fail
        refine wp_loop_rounds 2 ?_
        rw [rounds_succ]
        go_wp2_with fail
        refine wp_scope_straight ?_
        go_wp2_with fail
        go_quiet (fail)
        have HB : Hid (Below w.heap.size w (w.drewN nq)) := ⟨rfl, rfl, rfl, Nat.le_refl _, fun _ _ => rfl⟩
        generalize w.drewN nq = wz at HB ⊢
        go_wp2_with fail
        go_quiet ((go_at_call 83; exact Calls.quiet_of_same (idx_none _ _)))
        have HB2 : Hid (Below w.heap.size w (wz.drewN nq)) := ⟨HB.out.os, HB.out.tape, HB.out.output, HB.out.size, HB.out.block⟩
        go_wp2_with fail
        simp only [Exit.noGoto_ret, Exit.then, Exit.inBlock]
        go_ret
        exact ⟨rfl, HB2.out⟩
      · go_enter Tryz.func127, Tryz.ntmps127
        go_wp2_with (go_at_call 151; refine (vr _).mono ?_; rintro e w' ⟨rfl, rfl⟩)
        refine wp_scope_straight ?_
        go_wp2_with fail
        refine wp_loop_rounds 2 ?_
        rw [rounds_succ]
        go_wp2_with fail
        rw [Exit.noGoto_ret]
        go_ret
        exact ⟨rfl, Below.refl _ _⟩
      · go_enter Tryz.func127, Tryz.ntmps127
        go_wp2_with (go_at_call 151; refine (vr _).mono ?_; rintro e w' ⟨rfl, rfl⟩)
        refine wp_scope_straight ?_
        go_wp2_with fail
        refine wp_loop_rounds 2 ?_
        rw [rounds_succ]
        go_wp2_with fail
        rw [Exit.noGoto_ret]
        go_ret
        exact ⟨rfl, Below.refl _ _⟩
theorem zero171 (w : World) : (zeroValue 171).run Tryz.prog w = .ok (.agg (Array.replicate 256 (.bool false))) w := by
  have hz : Tryz.t171.zero = some (.agg (Array.replicate 256 (.bool false))) := by kernel_rfl
  simp [zeroValue, hz]
def isSep (x : UInt8) : Bool := ([58, 64] : List UInt8).contains x
def sepB (s : ByteArray) : Bool := s.data.toList.any isSep
theorem indexAny_sep (l : List UInt8) : decide (0 ≤ Lib.indexAny l [58, 64]) = l.any isSep := by
  induction l with
  | nil => rfl
  | cons b l ih =>
    have hg := Lib.indexAny_ge [58, 64] l
    rw [List.any_cons, ← ih]
    rw [Lib.indexAny, isSep]
    generalize Lib.indexAny l [58, 64] = q at hg ⊢
    cases hb : ([58, 64] : List UInt8).contains b
    · by_cases h1 : q = -1
      · simp [h1]
      · simp [h1]; omega
    · simp
/-- behind a high byte stand only high bytes, as far as its rune goes -/
theorem decode_width (s : ByteArray) (pos : Nat) (h : pos < s.size) (ha : 128 ≤ (s[pos]'h).toNat) :
    pos + (Utf8.decode s pos).2 ≤ s.size ∧ ∀ j, j < (Utf8.decode s pos).2 → 128 ≤ (s.get! (pos + j)).toNat := by
  have hn : ¬ (s[pos]'h).toNat < 128 := by omega
  have g0 : 128 ≤ (s.get! (pos + 0)).toNat := by rw [get_at s pos h]; exact ha
  simp only [Utf8.decode]
  have hn' : ¬ (s.get! (pos + 0)).toNat < 0x80 := by omega
  rw [if_neg hn']
  repeat' split
  all_goals
    rename_i hh
    first
      | refine ⟨by omega, fun j hj => ?_⟩
        have : j = 0 := by omega
        subst this; exact g0
      | skip
  all_goals simp only [Bool.and_eq_true, decide_eq_true_eq, beq_iff_eq] at *
  all_goals
    refine ⟨by omega, fun j hj => ?_⟩
    match j, hj with
    | 0, _ => exact g0
    | 1, _ => omega
    | 2, _ => omega
    | 3, _ => omega
def AnyEnd (s : ByteArray) (w : World) (e : Ending) (w' : World) : Prop := ∃ r : Int, e = .returned (.int .i64 r) ∧ decide (0 ≤ r) = sepB s ∧ Below w.heap.size w w'
def NoSep (s : ByteArray) (i : Nat) : Prop := ∀ j, j < i → ∀ h : j < s.size, isSep (s[j]'h) = false
theorem sepB_none {s : ByteArray} (h : NoSep s s.size) : sepB s = false := by
  unfold sepB
  rw [List.any_eq_false]
  intro x hx
  obtain ⟨j, hj, rfl⟩ := List.mem_iff_getElem.1 hx
  have hj' : j < s.size := by simpa using hj
  have := h j hj' hj'
  rw [Bool.not_eq_true]
  exact this
theorem sepB_hit {s : ByteArray} {i : Nat} (h : i < s.size) (hs : isSep (s[i]'h) = true) : sepB s = true := by
  unfold sepB
  rw [List.any_eq_true]
  exact ⟨s[i]'h, by have : i < s.data.toList.length := by simpa using h
                    exact List.mem_iff_getElem.2 ⟨i, this, by simp; rfl⟩, hs⟩
theorem get_bang (s : ByteArray) (i : Nat) (h : i < s.size) : s.get! i = s[i]'h := get_at s i h
theorem isSep_low {x : UInt8} (h : 128 ≤ x.toNat) : isSep x = false := by
  unfold isSep
  simp only [List.contains_cons, List.contains_nil, Bool.or_false, Bool.or_eq_false_iff, beq_eq_false_iff_ne]
  constructor <;> (rintro rfl; simp at h)
theorem rune_sep (x : UInt8) (h : x.toNat < 128) (w : World) : Calls Tryz.prog 127 #[.string ⟨#[58, 64]⟩, .int .i32 (x.toNat : Int)] w fun e w' => ∃ r : Int, e = .returned (.int .i64 r) ∧ decide (0 ≤ r) = isSep x ∧ w' = w := by
  refine (Tryz.strings_IndexRune_ascii ⟨#[58, 64]⟩ (x.toNat : Int) w (by omega) (by omega)).mono fun e w' ⟨he, hw⟩ => ⟨_, he, ?_, hw⟩
  have e1 : ((x.toNat : Int)).toNat.toUInt8 = x := by simp
  rw [e1]
  exact (Lib.contains_iff_indexByte [58, 64] x).symm
set_option maxRecDepth 100000 in
set_option maxHeartbeats 4000000 in
theorem any_short (s : ByteArray) (h8 : s.size ≤ 8) (w : World) : Calls Tryz.prog 110 #[.string s, .string ⟨#[58, 64]⟩] w (AnyEnd s w) := by
  have h8z : decide ((8 : Int) < (s.size : Int)) = false := decide_eq_false (by omega)
  go_enter Tryz.func110, Tryz.ntmps110
  go_wp2_with (go_at_call 128; refine (Tryz.strings_shouldUseASCIISet _ _).mono ?_; rintro e w' ⟨rfl, hw⟩; rw [h8z])
  subst w'
  go_loopg [9, 10] s.size (fun g _ _ wx => ∃ i : Nat, i + g = s.size ∧ Hid (wx.heap[w.heap.size]? = some (.stringIter s i) ∧ Below w.heap.size w wx ∧ NoSep s i))
  case atStart => exact ⟨0, by omega, World.iter_heap _ _ _, (Below.refl _ _).alloc (Nat.le_refl _) _, fun j hj => absurd hj (by omega)⟩
  case round =>
    obtain ⟨i, hig, hst⟩ := hrel
    by_cases hi : i < s.size
    · obtain ⟨x, hx⟩ : ∃ x : UInt8, s[i]'hi = x := ⟨_, rfl⟩
      by_cases h128 : x.toNat < 128
      · have hnx := fun ty => Lib.run_next_ascii_at (P := Tryz.prog) wr w.heap.size s i ty hst.out.1 hi (by rw [hx]; exact h128)
        rw [hx] at hnx
        have hlo : Hid (Below w.heap.size w (wr.iterAt w.heap.size s (i + 1))) := Lib.below_iterAt hst.out.2.1 (Nat.le_refl _) s (i + 1)
        have hit : Hid ((wr.iterAt w.heap.size s (i + 1)).heap[w.heap.size]? = some (.stringIter s (i + 1))) := Lib.iterAt_heap wr w.heap.size s i (i + 1) hst.out.1
        cases hsep : isSep x
        · have HN : Hid (NoSep s (i + 1)) := fun j hj h => by
            by_cases hji : j = i
            · subst hji; rw [hx]; exact hsep
            · exact hst.out.2.2 j (by omega) h
          clear hst hx
          go_wp2_with (go_at_call 127; refine (rune_sep x h128 _).mono ?_; rintro e w2 ⟨r, rfl, hr, hw2⟩; subst w2; rw [hsep] at hr; have hr' : decide ((0 : Int) ≤ r) = false := hr)
          go_roundg (s.size - (i + 1))
          case measure => omega
          case rel => exact ⟨i + 1, by omega, hit.out, hlo.out, HN.out⟩
        · have HS : Hid (sepB s = true) := sepB_hit hi (by rw [hx]; exact hsep)
          clear hst hx
          go_wp2_with (go_at_call 127; refine (rune_sep x h128 _).mono ?_; rintro e w2 ⟨r, rfl, hr, hw2⟩; subst w2; rw [hsep] at hr; have hr' : decide ((0 : Int) ≤ r) = true := hr)
          go_ret
          exact ⟨(i : Int), rfl, by rw [HS.out]; simp, hlo.out⟩
      · have ha : 128 ≤ (s[i]'hi).toNat := by rw [hx]; omega
        have hd := decode_high s i hi ha
        have hle := decode_le s i
        have hwd := decode_width s i hi ha
        have hnx := fun ty => Lib.run_next_any_at (P := Tryz.prog) wr w.heap.size s i ty hst.out.1 hi
        generalize Utf8.decode s i = dc at hd hle hwd hnx
        obtain ⟨c, k⟩ := dc
        simp only at hd hle hwd hnx
        have hlo : Hid (Below w.heap.size w (wr.iterAt w.heap.size s (i + k))) := Lib.below_iterAt hst.out.2.1 (Nat.le_refl _) s (i + k)
        have hit : Hid ((wr.iterAt w.heap.size s (i + k)).heap[w.heap.size]? = some (.stringIter s (i + k))) := Lib.iterAt_heap wr w.heap.size s i (i + k) hst.out.1
        have HN : Hid (NoSep s (i + k)) := fun j hj h => by
          by_cases hji : j < i
          · exact hst.out.2.2 j hji h
          · have := hwd.2 (j - i) (by omega)
            rw [show i + (j - i) = j by omega, get_bang s j h] at this
            exact isSep_low this
        have hk1 := hd.2
        have hk2 := hwd.1
        have hc1 : (128 : Int) ≤ (c : Int) := by have := hd.1; omega
        have hc2 : (c : Int) ≤ 2147483647 := by omega
        have hm1 : decide ((0 : Int) ≤ -1) = false := by decide
        clear hst hx hd hle hwd ha
        go_wp2_with (go_at_call 127; refine (rune_high c hc1 hc2 _).mono ?_; rintro e w2 ⟨rfl, hw2⟩; have HW2 := (show Hid _ from hw2); clear hw2)
        go_roundg (s.size - (i + k))
        case measure => omega
        case rel =>
          have hlt : w.heap.size < (wr.iterAt w.heap.size s (i + k)).heap.size := blk_lt hit.out
          exact ⟨i + k, by omega, blk_below hit.out HW2.out hlt, hlo.out.trans (HW2.out.mono (by omega)), HN.out⟩
    · have hnx := fun ty => Lib.run_next_end_at (P := Tryz.prog) wr w.heap.size s i ty hst.out.1 hi
      go_wp2_with fail
      go_ret
      refine ⟨-1, rfl, ?_, hst.out.2.1⟩
      have : i = s.size := by omega
      subst this
      rw [sepB_none hst.out.2.2]; rfl
theorem any_c (s : ByteArray) (hs : s.size ≤ 1000000) (w : World) : Calls Tryz.prog 110 #[.string s, .string ⟨#[58, 64]⟩] w (AnyEnd s w) := by
  by_cases h8 : s.size ≤ 8
  · exact any_short s h8 w
  · refine (Tryz.strings_IndexAny_long zero171 s ⟨#[58, 64]⟩ w (by decide) (by omega) (by omega) (by decide) ?_).mono fun e w' ⟨he, hw⟩ => ⟨_, he, indexAny_sep _, ?_⟩
    · intro j b hj
      have : b ∈ ([58, 64] : List UInt8) := List.mem_of_getElem? hj
      simp only [List.mem_cons, List.mem_nil_iff, or_false] at this
      rcases this with rfl | rfl <;> decide
    · rw [hw]
      exact ((Below.refl _ _).alloc (Nat.le_refl _) _).alloc (by simp) _
theorem containsAny_c (s : ByteArray) (hs : s.size ≤ 1000000) (w : World) : Calls Tryz.prog 85 #[.string s, .string ⟨#[58, 64]⟩] w fun e w' => e = .returned (.bool (sepB s)) ∧ Below w.heap.size w w' := by
  go_enter Tryz.func85, Tryz.ntmps85
  go_wp2_with (go_at_call 110; refine (any_c s hs _).mono ?_; rintro e w2 ⟨r, rfl, hr, hw2⟩; have HW2 := (show Hid _ from hw2); clear hw2)
  go_ret
  exact ⟨by rw [← hr]; rfl, HW2.out⟩
end Go.Proofs.YtkbmljagcondhaaGreatDoor
