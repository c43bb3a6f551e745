/- The watch's reader of words, walked: word, integer, number. -/
import Derived.Test.YtkbmljagcondhaaGreatDoorProg
import Derived.Test.YtkbmljagcondhaaGreatDoorShelf
import Derived.Test.YtkbmljagcondhaaGreatDoorWSpec
import Derived.Shelf.Strconv.AtoiAll
open Go Go.RowKit
set_option linter.unusedSimpArgs false
namespace Go.Proofs.YtkbmljagcondhaaGreatDoor

/-- what the package-level variables hold, as far as it is used -/
structure Glob (w : World) : Prop where
  maxlen : ∃ m, w.cell? ⟨0, 0, none⟩ = some (.int .i64 m)
  pow : Lib.TabIs Tryz.prog w "internal/strconv.uint64pow10" .u64 Lib.pow10Tab
  syn : ∃ tp p, w.cell? ⟨2, 0, none⟩ = some (.iface tp p)
  rng : ∃ tp p, w.cell? ⟨3, 0, none⟩ = some (.iface tp p)
  low : 8 ≤ w.heap.size
theorem pow_g : Tryz.prog.globalNamed "internal/strconv.uint64pow10" = some 1 := by kernel_rfl
theorem Glob.of_blocks {w w' : World} (G : Glob w) (h : ∀ k, k < 8 → w'.heap[k]? = w.heap[k]?) (hs : w.heap.size ≤ w'.heap.size) : Glob w' where
  maxlen := by obtain ⟨m, h1⟩ := G.maxlen; exact ⟨m, (World.cell?_of_block (w := w) (h 0 (by omega))).trans h1⟩
  pow := by
    have h1 := G.pow
    unfold Lib.TabIs World.var? at h1 ⊢
    rw [pow_g] at h1 ⊢
    simp only [Option.bind_some] at h1 ⊢
    rw [h 1 (by omega)]; exact h1
  syn := by obtain ⟨t, p, h1⟩ := G.syn; exact ⟨t, p, (World.cell?_of_block (w := w) (h 2 (by omega))).trans h1⟩
  rng := by obtain ⟨t, p, h1⟩ := G.rng; exact ⟨t, p, (World.cell?_of_block (w := w) (h 3 (by omega))).trans h1⟩
  low := Nat.le_trans G.low hs
theorem Glob.below {w w' : World} (G : Glob w) {B : Nat} (h : Below B w w') (hB : 8 ≤ B) : Glob w' := G.of_blocks (fun k hk => h.block k (by omega)) h.size
theorem Glob.only {S : Nat → Prop} {w w' : World} (G : Glob w) (h : Only S w w') (hS : ∀ k, k < 8 → ¬ S k) : Glob w' :=
  G.of_blocks (fun k hk => h.block k (by have := G.low; omega) (hS k hk)) h.size

theorem itoa_c (n : Int) (h0 : -9223372036854775808 ≤ n) (h1 : n ≤ 9223372036854775807) (w : World) (G : Glob w) :
    Calls Tryz.prog 48 #[.int .i64 n] w fun e w' => e = .returned (.string (BA (Lib.itoa n))) ∧ Below w.heap.size w w' :=
  (Tryz.strconv_Itoa n h0 h1 w G.pow).mono fun e w' ⟨he, k, os, hw⟩ => ⟨he, by
    rw [hw]
    exact ⟨rfl, rfl, rfl, by simp [Sort.grow], fun i hi => by simp only [Sort.grow]; exact Array.getElem?_append_left hi⟩⟩

/-- what Atoi tells: a number, and whether there is no error -/
def atoiN (s : List UInt8) : Int × Bool := match Lib.atoiAll s with
  | .ok v => (v, true)
  | .range => (Lib.atoiSat s, false)
  | _ => (0, false)

/-- Atoi: a number and an error; which one is not told -/
def AtoiEnd (s : List UInt8) (w : World) (e : Ending) (w' : World) : Prop :=
  ∃ er, e = .returned (.tuple #[.int .i64 (atoiN s).1, er]) ∧ (if (atoiN s).2 then er = .nilIface else ∃ t p, er = .iface t p) ∧ Below w.heap.size w w'
theorem bytesWorld_below (w : World) (e : TypeId) (t : ByteArray) : Below w.heap.size w (Lib.bytesWorld w e t) :=
  ⟨rfl, rfl, rfl, by rw [Lib.bytesWorld_size]; omega, fun i hi => Lib.bytesWorld_at_old w e t i hi⟩
theorem atoi_c (s : ByteArray) (hs : s.size ≤ 1000000) (w : World) (G : Glob w) : Calls Tryz.prog 107 #[.string s] w (AtoiEnd s.data.toList w) := by
  obtain ⟨t2, p2, h2⟩ := G.syn
  obtain ⟨t3, p3, h3⟩ := G.rng
  match h : Lib.atoiAll s.data.toList with
  | .ok v =>
    refine (Tryz.strconv_Atoi_ok s (by omega) v h w).mono fun e w' ⟨he, hw⟩ => ⟨.nilIface, ?_, by simp [atoiN, h], ?_⟩
    · rw [he]; simp [atoiN, h]
    · rcases hw with rfl | ⟨t, rfl⟩
      · exact Below.refl _ _
      · exact bytesWorld_below _ _ _
  | .syntax =>
    refine (Tryz.strconv_Atoi_syntax s (by omega) h _ w h2 (Or.inr ⟨_, _, rfl⟩)).mono fun e w' ⟨N, he, _, _, hw⟩ => ⟨.iface 189 (.pointer (some ⟨N, 0, none⟩)), he.trans ?_, by simp [atoiN, h], hw⟩
    simp [atoiN, h]
  | .range =>
    refine (Tryz.strconv_Atoi_range s (by omega) h _ w h3 (Or.inr ⟨_, _, rfl⟩)).mono fun e w' ⟨N, he, _, _, hw⟩ => ⟨.iface 189 (.pointer (some ⟨N, 0, none⟩)), he.trans ?_, by simp [atoiN, h], hw⟩
    simp [atoiN, h]
theorem ret_int {k : IntKind} {a b : Int} (h : a = b) : Ending.returned (.int k a) = .returned (.int k b) := by rw [h]
theorem atoiAll_bd (s : List UInt8) (v : Int) (h : Lib.atoiAll s = .ok v) : -9223372036854775808 ≤ v ∧ v ≤ 9223372036854775807 := by
  unfold Lib.atoiAll at h
  split at h
  · cases h
  · simp only at h
    split at h
    · cases h
    · cases h
    · split at h
      · cases h
      · split at h
        · cases h
        · injection h with h
          split at h <;> omega
theorem atoi_bd (s : List UInt8) : -9223372036854775808 ≤ (atoiN s).1 ∧ (atoiN s).1 ≤ 9223372036854775807 := by
  unfold atoiN
  match h : Lib.atoiAll s with
  | .ok v => exact atoiAll_bd s v h
  | .syntax => simp
  | .range => simp only [Lib.atoiSat]; split <;> omega
/-- integer: the number, and whether it is wrong -/
def intP (s : List UInt8) : Int × Bool := ((atoiN s).1, !((atoiN s).2 && decide (Lib.itoa (atoiN s).1 = s)))

/-- a row of strings lies in a block of strings -/
def RowT (w : World) (A : Option Addr) : Prop := ∀ d o, A = some ⟨d, o, none⟩ → ∃ cs fr, w.heap[d]? = some (.cells cs 9 fr)
theorem RowT.ne {w : World} {A : Option Addr} (h : RowT w A) {b : Nat} {cs : Array Value} {t : TypeId} {fr : Nat × Nat} (hb : w.heap[b]? = some (.cells cs t fr)) (ht : t ≠ 9) : ∀ d o, A = some ⟨d, o, none⟩ → d ≠ b := by
  intro d o e hd
  obtain ⟨cs', fr', h'⟩ := h d o e
  subst hd
  rw [hb] at h'
  injection h' with h'
  injection h' with _ h2
  exact ht h2
theorem RowT.only {S : Nat → Prop} {w w' : World} {A : Option Addr} (h : RowT w A) (ho : Only S w w') (hn : ∀ d o, A = some ⟨d, o, none⟩ → ¬ S d) : RowT w' A := fun d o e => by
  obtain ⟨cs, fr, h'⟩ := h d o e
  exact ⟨cs, fr, ho.blk h' (hn d o e)⟩
theorem RowT.below {w w' : World} {A : Option Addr} (h : RowT w A) (hb : Below w.heap.size w w') : RowT w' A := fun d o e => by
  obtain ⟨cs, fr, h'⟩ := h d o e
  exact ⟨cs, fr, blk_below h' hb (blk_lt h')⟩
/-- the reader's words, and whether something was wrong -/
structure Rd (w : World) (b : Nat) (ws : List ByteArray) (wr : Bool) : Prop where
  at_ : ∃ A c, w.heap[b]? = some (.cells #[.slice A ws.length c, .bool wr] 109 (0, 0)) ∧ ws.length ≤ c ∧ Row w A (strs ws) ∧ RowT w A
  len : ws.length ≤ 100000
  low : 8 ≤ b
theorem Rd.set_wrong {w : World} {b : Nat} {ws : List ByteArray} {wr : Bool} (R : Rd w b ws wr) : Rd (w.setCell ⟨b, 1, none⟩ (.bool true)) b ws true := by
  obtain ⟨A, c, hb, hc, hrow, ht⟩ := R.at_
  have hne := ht.ne hb (by decide)
  exact ⟨⟨A, c, by rw [blk_set hb]; rfl, hc, hrow.only (Only.setCell _ _ _) (fun d o e => hne d o e), ht.only (Only.setCell _ _ _) (fun d o e => hne d o e)⟩, R.len, R.low⟩
theorem Rd.below {w w' : World} {b : Nat} {ws : List ByteArray} {wr : Bool} (R : Rd w b ws wr) (h : Below w.heap.size w w') : Rd w' b ws wr := by
  obtain ⟨A, c, hb, hc, hrow, ht⟩ := R.at_
  exact ⟨⟨A, c, blk_below hb h (blk_lt hb), hc, hrow.below h, ht.below h⟩, R.len, R.low⟩
theorem Rd.far {w : World} {b : Nat} {ws : List ByteArray} {wr : Bool} (R : Rd w b ws wr) {g : Nat} {t : TypeId} {cs : Array Value} {fr : Nat × Nat} (h : w.heap[g]? = some (.cells cs t fr)) (ht9 : t ≠ 9) (hg : b ≠ g) (i : Nat) (u : Value) :
    Rd (w.setCell ⟨g, i, none⟩ u) b ws wr := by
  obtain ⟨A, c, hb, hc, hrow, ht⟩ := R.at_
  have hn := ht.ne h ht9
  exact ⟨⟨A, c, (Only.setAt w g i u).blk hb hg, hc, hrow.only (Only.setAt w g i u) (fun d o e => hn d o e), ht.only (Only.setAt w g i u) (fun d o e => hn d o e)⟩, R.len, R.low⟩
set_option maxRecDepth 100000 in
theorem integer_c (b : Nat) (ws : List ByteArray) (wr : Bool) (s : ByteArray) (hs : s.size ≤ 1000000) (w : World) (G : Glob w) (R : Rd w b ws wr) :
    Calls Tryz.prog 82 #[.pointer (some ⟨b, 0, none⟩), .string s] w fun e w' => e = .returned (.int .i64 (intP s.data.toList).1) ∧ Rd w' b ws (wr || (intP s.data.toList).2) ∧ Only (fun k => k = b) w w' := by
  have HG : Hid (Glob w) := G
  have HR : Hid (Rd w b ws wr) := R
  clear G R
  go_enter Tryz.func82, Tryz.ntmps82
  go_wp2_with fail
  refine (atoi_c s hs w HG.out).mono ?_
  rintro e w1 ⟨er, rfl, her, hw1⟩
  have G1 : Hid (Glob w1) := HG.out.below hw1 HG.out.low
  have R1 : Hid (Rd w1 b ws wr) := HR.out.below hw1
  have HW : Hid (Below w.heap.size w w1) := hw1
  have bd := atoi_bd s.data.toList
  obtain ⟨v, hv⟩ : ∃ v : Int, v = (atoiN s.data.toList).1 := ⟨_, rfl⟩
  have HV : Hid (v = (intP s.data.toList).1) := hv
  rw [← hv] at bd ⊢
  clear hv hw1
  obtain ⟨bd1, bd2⟩ := bd
  cases h2 : (atoiN s.data.toList).2 with
  | true =>
    rw [h2] at her
    have H2 : Hid ((atoiN s.data.toList).2 = true) := h2
    clear h2
    obtain rfl : er = .nilIface := by simpa using her
    clear her
    go_wp2_with fail
    refine (itoa_c v bd1 bd2 w1 G1.out).mono ?_
    rintro e w2 ⟨rfl, hw2⟩
    have G2 : Hid (Glob w2) := G1.out.below hw2 G1.out.low
    have R2 : Hid (Rd w2 b ws wr) := R1.out.below hw2
    have HW2 : Hid (Below w1.heap.size w1 w2) := hw2
    clear hw2
    obtain ⟨A, c, hb, hc, hrow, hne⟩ := R2.out.at_
    have hf := blk_frozen hb 1
    have hcell := blk_cell hb 1
    clear hb hrow hne hc
    by_cases heq : (Lib.itoa v) = s.data.toList
    · have hs1 := str_same (a := BA (Lib.itoa v)) (b := s) heq
      have HE : Hid (Lib.itoa v = s.data.toList) := heq
      clear heq
      go_wp2_with fail
      go_ret
      refine ⟨ret_int HV.out, ?_, (Only.of_new HW.out).then (Only.of_new HW2.out) (fun i hi h => h)⟩
      have : (intP s.data.toList).2 = false := by simp [intP, H2.out, show Lib.itoa (atoiN s.data.toList).1 = s.data.toList from (congrArg Lib.itoa HV.out).symm.trans HE.out]
      rw [this, Bool.or_false]
      exact R2.out
    · have hs1 := str_other (a := BA (Lib.itoa v)) (b := s) heq
      have HE : Hid (¬ Lib.itoa v = s.data.toList) := heq
      clear heq
      go_wp2_with fail
      go_ret
      refine ⟨ret_int HV.out, ?_, ((Only.of_new HW.out).then (Only.of_new HW2.out) (fun i hi h => h)).then (Only.setCell _ _ _) (fun i hi h => h)⟩
      have : (intP s.data.toList).2 = true := by
        have h3 : ¬ Lib.itoa (atoiN s.data.toList).1 = s.data.toList := fun h => HE.out ((congrArg Lib.itoa HV.out).trans h)
        simp [intP, H2.out, h3]
      rw [this, Bool.or_true]
      exact R2.out.set_wrong
  | false =>
    rw [h2] at her
    have H2 : Hid ((atoiN s.data.toList).2 = false) := h2
    clear h2
    obtain ⟨t, p, rfl⟩ : ∃ t p, er = .iface t p := by simpa using her
    clear her
    obtain ⟨A, c, hb, hc, hrow, hne⟩ := R1.out.at_
    have hf := blk_frozen hb 1
    have hcell := blk_cell hb 1
    clear hb hrow hne hc
    go_wp2_with fail
    go_ret
    refine ⟨ret_int HV.out, ?_, (Only.of_new HW.out).then (Only.setCell _ _ _) (fun i hi h => h)⟩
    have : (intP s.data.toList).2 = true := by simp [intP, H2.out]
    rw [this, Bool.or_true]
    exact R1.out.set_wrong

/-- word: the word, the words behind it, whether something is wrong -/
def wordP : List ByteArray → Bool → ByteArray × List ByteArray × Bool
  | x :: r, false => (x, r, false)
  | ws, _ => (⟨#[]⟩, ws, true)
theorem Rd.set_words {w : World} {b d o : Nat} {x : ByteArray} {r : List ByteArray} {c : Nat} {wr : Bool} (hb : w.heap[b]? = some (.cells #[.slice (some ⟨d, o, none⟩) (r.length + 1) c, .bool wr] 109 (0, 0)))
    (hc : r.length + 1 ≤ c) (hrow : Row w (some ⟨d, o, none⟩) (strs (x :: r))) (ht : RowT w (some ⟨d, o, none⟩)) (hl : r.length + 1 ≤ 100000) (h8 : 8 ≤ b) (A' : Option Addr) (c' : Nat) (hc' : c' = c - 1) (hA : A' = if c = 1 then some ⟨d, o, none⟩ else some ⟨d, o + 1, none⟩) :
    Rd (w.setCell ⟨b, 0, none⟩ (.slice A' r.length c')) b r wr := by
  subst hc'
  have hd : ∀ d' o', A' = some ⟨d', o', none⟩ → d' = d := by
    intro d' o' e
    rw [hA] at e
    split at e <;> cases e <;> rfl
  have hne : d ≠ b := ht.ne hb (by decide) d o rfl
  refine ⟨⟨A', c - 1, by rw [blk_set hb]; rfl, by omega, ?_, ?_⟩, by omega, h8⟩
  · refine Row.only ?_ (Only.setCell _ _ _) (fun d' o' e => hd d' o' e ▸ hne)
    rw [hA]
    split
    · have : r = [] := List.eq_nil_of_length_eq_zero (by omega)
      rw [this]; exact Row.nil _ _
    · exact hrow.drop1
  · refine RowT.only ?_ (Only.setCell _ _ _) (fun d' o' e => hd d' o' e ▸ hne)
    intro d' o' e
    have := hd d' o' e
    subst this
    exact ht d' o rfl
set_option maxRecDepth 100000 in
theorem word_c (b : Nat) (ws : List ByteArray) (wr : Bool) (w : World) (R : Rd w b ws wr) :
    Calls Tryz.prog 54 #[.pointer (some ⟨b, 0, none⟩)] w fun e w' => e = .returned (.string (wordP ws wr).1) ∧ Rd w' b (wordP ws wr).2.1 (wordP ws wr).2.2 ∧ Only (fun k => k = b) w w' := by
  obtain ⟨A, c, hb, hc, hrow, hne⟩ := R.at_
  have hR : Hid (Rd w b ws wr) := R
  have HB : Hid (w.heap[b]? = some (.cells #[.slice A ws.length c, .bool wr] 109 (0, 0))) := hb
  have f0 := blk_frozen hb 0
  have f1 := blk_frozen hb 1
  have c0 := blk_cell hb 0
  have c1 := blk_cell hb 1
  simp only [List.getElem?_toArray, List.getElem?_cons_zero, List.getElem?_cons_succ] at c0 c1
  clear hb
  match wr, ws with
  | true, ws =>
    clear hrow hne hc
    go_enter Tryz.func54, Tryz.ntmps54
    go_wp2
    go_ret
    exact ⟨by cases ws <;> rfl, by cases ws <;> exact hR.out.set_wrong, Only.setAt _ _ _ _⟩
  | false, [] =>
    clear hrow hne hc
    go_enter Tryz.func54, Tryz.ntmps54
    go_wp2
    go_ret
    exact ⟨rfl, hR.out.set_wrong, Only.setAt _ _ _ _⟩
  | false, x :: r =>
    have h1 : 1 ≤ (strs (x :: r)).length := by simp [strs]
    obtain ⟨d, o, rfl⟩ := hrow.some_ h1
    have hx : w.cell? ⟨d, o, none⟩ = some (.string x) := hrow.at0
    have Hrow : Hid (Row w (some ⟨d, o, none⟩) (strs (x :: r))) := hrow
    have hdb : Hid (RowT w (some ⟨d, o, none⟩)) := hne
    have hl := R.len
    clear hrow hne h1 R
    simp only [List.length_cons] at hc c0 hl HB
    obtain ⟨n, hn⟩ : ∃ n, n = r.length + 1 := ⟨_, rfl⟩
    rw [← hn] at hc c0 hl
    have hn1 : 1 ≤ n := by omega
    have HN : Hid (n = r.length + 1) := hn
    clear hn
    have hn0 : ((n : Int) == 0) = false := by simp; omega
    go_enter Tryz.func54, Tryz.ntmps54
    go_wp2
    all_goals
      go_ret
      rw [show n - 1 = r.length by have := HN.out; omega]
      refine ⟨rfl, Rd.set_words (x := x) HB.out (by have := HN.out; omega) Hrow.out hdb.out (by have := HN.out; omega) hR.out.low _ _ ?_ ?_, Only.setAt _ _ _ _⟩
      · first | rfl | omega
      · first | rw [if_pos (by assumption)] | rw [if_neg (by assumption)]

def numberP (ws : List ByteArray) (wr : Bool) : Int × List ByteArray × Bool :=
  ((intP (wordP ws wr).1.data.toList).1, (wordP ws wr).2.1, (wordP ws wr).2.2 || (intP (wordP ws wr).1.data.toList).2)
/-- every word is short -/
def Short (ws : List ByteArray) : Prop := ∀ x ∈ ws, x.size ≤ 1000000
theorem Short.word {ws : List ByteArray} (h : Short ws) (wr : Bool) : (wordP ws wr).1.size ≤ 1000000 ∧ Short (wordP ws wr).2.1 := by
  unfold wordP
  split
  · exact ⟨h _ (by simp), fun y hy => h y (by simp [hy])⟩
  · exact ⟨by show (0:Nat) ≤ _; omega, h⟩
theorem Glob.only1 {b : Nat} {w w' : World} (G : Glob w) (h : Only (fun k => k = b) w w') (hb : 8 ≤ b) : Glob w' := G.only h (fun k hk e => by omega)
set_option maxRecDepth 100000 in
theorem number_c (b : Nat) (ws : List ByteArray) (wr : Bool) (w : World) (G : Glob w) (R : Rd w b ws wr) (hsh : Short ws) :
    Calls Tryz.prog 52 #[.pointer (some ⟨b, 0, none⟩)] w fun e w' => e = .returned (.int .i64 (numberP ws wr).1) ∧ Rd w' b (numberP ws wr).2.1 (numberP ws wr).2.2 ∧ Only (fun k => k = b) w w' := by
  have HG : Hid (Glob w) := G
  have HR : Hid (Rd w b ws wr) := R
  have HS := hsh.word wr
  have HS1 : Hid ((wordP ws wr).1.size ≤ 1000000) := HS.1
  clear G R HS hsh
  go_enter Tryz.func52, Tryz.ntmps52
  go_wp2_with fail
  refine (word_c b ws wr w HR.out).mono ?_
  rintro e w1 ⟨rfl, hR1, hw1⟩
  have HR1 : Hid (Rd w1 b (wordP ws wr).2.1 (wordP ws wr).2.2) := hR1
  have HW1 : Hid (Only (fun k => k = b) w w1) := hw1
  clear hR1 hw1
  go_wp2_with fail
  refine (integer_c b _ _ _ HS1.out w1 (HG.out.only1 HW1.out HR.out.low) HR1.out).mono ?_
  rintro e w2 ⟨rfl, hR2, hw2⟩
  have HR2 : Hid (Rd w2 b (numberP ws wr).2.1 (numberP ws wr).2.2) := hR2
  have HW2 : Hid (Only (fun k => k = b) w w2) := HW1.out.then hw2 (fun i _ h => h)
  clear hR2 hw2
  go_wp2_with fail
  go_ret
  exact ⟨rfl, HR2.out, HW2.out⟩
end Go.Proofs.YtkbmljagcondhaaGreatDoor
