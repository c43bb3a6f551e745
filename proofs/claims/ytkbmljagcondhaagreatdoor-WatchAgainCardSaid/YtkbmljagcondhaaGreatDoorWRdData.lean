/- The watch's reader, walked: read, data. -/
import Derived.Test.YtkbmljagcondhaaGreatDoorWPoint
import Derived.Test.YtkbmljagcondhaaGreatDoorWData
import Derived.Deep.QuietTactic
import Derived.BigQuiet
open Go Go.RowKit
set_option linter.unusedSimpArgs false
namespace Go.Proofs.YtkbmljagcondhaaGreatDoor
def readP (s kind : ByteArray) (many : Int) : List ByteArray × Bool :=
  match splitP s ⟨#[32]⟩ with
  | x :: r => if ((x :: r).length : Int) = many ∧ x.data.toList = kind.data.toList then (r, false) else ([], true)
  | [] => ([], true)
def ReadEnd (s kind : ByteArray) (many : Int) (w : World) (e : Ending) (w' : World) : Prop :=
  ∃ b, e = .returned (.pointer (some ⟨b, 0, none⟩)) ∧ w.heap.size ≤ b ∧ Rd w' b (readP s kind many).1 (readP s kind many).2 ∧ Below w.heap.size w w'
theorem rd_wrong {w : World} (G : Glob w) : Rd (w.alloc (.cells #[.slice none 0 0, .bool true] 109)) w.heap.size [] true :=
  ⟨⟨none, 0, blk_new _ _, Nat.le_refl _, Row.nil _ _, fun d o e => by cases e⟩, by simp, G.low⟩
theorem rd_rest {w : World} (G : Glob w) {d o c : Nat} {x : ByteArray} {r : List ByteArray} (hrow : Row w (some ⟨d, o, none⟩) (strs (x :: r))) (ht : RowT w (some ⟨d, o, none⟩)) (hl : r.length + 1 ≤ 100000) (hc : r.length + 1 ≤ c) (A' : Option Addr) (c' n' : Nat) (hc' : c' = c - 1) (hn' : n' = r.length) (hA : A' = if c = 1 then some ⟨d, o, none⟩ else some ⟨d, o + 1, none⟩) :
    Rd (w.alloc (.cells #[.slice A' n' c', .bool false] 109)) w.heap.size r false := by
  subst hc' hn'
  have hd : ∀ d' o', A' = some ⟨d', o', none⟩ → d' = d := by
    intro d' o' e
    rw [hA] at e
    split at e <;> cases e <;> rfl
  refine ⟨⟨A', c - 1, blk_new _ _, by omega, ?_, ?_⟩, by omega, G.low⟩
  · refine Row.below ?_ ((Below.refl _ _).alloc (Nat.le_refl _) _)
    rw [hA]
    split
    · have : r = [] := List.eq_nil_of_length_eq_zero (by omega)
      rw [this]; exact Row.nil _ _
    · exact hrow.drop1
  · refine RowT.below ?_ ((Below.refl _ _).alloc (Nat.le_refl _) _)
    intro d' o' e
    have := hd d' o' e
    subst this
    exact ht d' o rfl
set_option maxRecDepth 100000 in
set_option maxHeartbeats 1000000 in
theorem read_c (s kind : ByteArray) (many : Int) (hs : s.size ≤ 50000) (w : World) (G : Glob w) :
    Calls Tryz.prog 51 #[.string s, .string kind, .int .i64 many] w (ReadEnd s kind many w) := by
  have HG : Hid (Glob w) := G
  clear G
  go_enter Tryz.func51, Tryz.ntmps51
  go_wp2_with fail
  refine (split_c s ⟨#[32]⟩ (by omega) (by decide) w HG.out).mono ?_
  rintro e w1 ⟨n, hn, rfl, hn1, hn2, ⟨hrow, hrt⟩, hw1⟩
  have HW : Hid (Below w.heap.size w w1) := hw1
  have HG1 : Hid (Glob w1) := HG.out.below hw1 HG.out.low
  obtain ⟨x, r, hxr⟩ : ∃ x r, splitP s ⟨#[32]⟩ = x :: r := by
    match h : splitP s ⟨#[32]⟩ with
    | x :: r => exact ⟨x, r, rfl⟩
    | [] => rw [h] at hn; simp at hn; omega
  rw [hxr] at hn hrow
  have HX : Hid (splitP s ⟨#[32]⟩ = x :: r) := hxr
  have HN : Hid (n = (x :: r).length) := hn
  have HR : Hid (Row w1 (some ⟨w.heap.size, 0, none⟩) (strs (x :: r))) := hrow
  have HT : Hid (RowT w1 (some ⟨w.heap.size, 0, none⟩)) := hrt
  clear hrt
  have hx0 : w1.cell? ⟨w.heap.size, 0, none⟩ = some (.string x) := hrow.at0
  have hnl : n ≤ 100000 := by omega
  clear hxr hn hrow hw1 hn2
  by_cases h1 : (n : Int) = many
  · have h1a : ((n : Int) != many) = false := by rw [h1]; simp
    have h1b : ((n : Int) == many) = true := by rw [h1]; simp
    have H1 : Hid ((n : Int) = many) := h1
    clear h1
    by_cases h2 : x.data.toList = kind.data.toList
    · have h2a := str_same h2
      have H2 : Hid (x.data.toList = kind.data.toList) := h2
      clear h2
      go_wp2_with fail
      all_goals
        go_ret
        have hP : readP s kind many = (r, false) := by
          unfold readP; rw [HX.out]; simp only; rw [if_pos ⟨by rw [← H1.out, HN.out], H2.out⟩]
        refine ⟨w1.heap.size, rfl, HW.out.size, ?_, HW.out.trans ((Below.refl _ _).alloc HW.out.size _)⟩
        rw [hP]
        have hl := HN.out
        simp only [List.length_cons] at hl
        refine rd_rest HG1.out HR.out HT.out (by omega) (c := n) (by omega) _ _ _ ?_ ?_ ?_
        · first | rfl | omega
        · first | rfl | omega
        · first | rw [if_pos (by assumption)] | rw [if_neg (by assumption)]
    · have h2a := str_other h2
      have H2 : Hid (¬ x.data.toList = kind.data.toList) := h2
      clear h2
      go_wp2_with fail
      go_ret
      have hP : readP s kind many = ([], true) := by
        unfold readP; rw [HX.out]; simp only; rw [if_neg (fun h => H2.out h.2)]
      refine ⟨w1.heap.size, rfl, HW.out.size, ?_, HW.out.trans ((Below.refl _ _).alloc HW.out.size _)⟩
      rw [hP]
      exact rd_wrong HG1.out
  · have h1a : ((n : Int) != many) = true := by rw [bne_iff_ne]; exact h1
    have h1b : ((n : Int) == many) = false := by rw [beq_eq_false_iff_ne]; exact h1
    have H1 : Hid (¬ (n : Int) = many) := h1
    clear h1
    go_wp2_with fail
    go_ret
    have hP : readP s kind many = ([], true) := by
      unfold readP; rw [HX.out]; simp only; rw [if_neg (fun h => H1.out (by rw [← h.1, HN.out]))]
    refine ⟨w1.heap.size, rfl, HW.out.size, ?_, HW.out.trans ((Below.refl _ _).alloc HW.out.size _)⟩
    rw [hP]
    exact rd_wrong HG1.out

def idx (c : UInt8) : Int := Lib.indexByte digs.data.toList c
/-- pairs of digits, read -/
def dec : List UInt8 → List UInt8
  | a :: b :: r => UInt8.ofNat (bits BinOp.or IntKind.i64 (idx a * 16) (idx b) % 256).toNat :: dec r
  | _ => []
theorem idx_bd (c : UInt8) : -1 ≤ idx c ∧ idx c ≤ 15 := by
  have h : ∀ c : Fin 256, -1 ≤ idx (UInt8.ofNat c.val) ∧ idx (UInt8.ofNat c.val) ≤ 15 := by decide +kernel
  have := h ⟨c.toNat, c.toNat_lt⟩
  simpa using this
theorem digit_c (a : UInt8) (w : World) : Calls Tryz.prog 83 #[.string ⟨#[48, 49, 50, 51, 52, 53, 54, 55, 56, 57, 97, 98, 99, 100, 101, 102]⟩, .int .u8 (a.toNat : Int)] w fun e w' => e = .returned (.int .i64 (idx a)) ∧ w' = w := by
  refine (Tryz.strings_IndexByte _ _ w).mono fun e w' ⟨he, hw⟩ => ⟨?_, hw⟩
  rw [he, show ((a.toNat : Int).toNat.toUInt8) = a by simp]
  rfl
theorem data_c (A : Option Addr) (c : Nat) (l : List UInt8) (w : World) (hm : l.length ≤ 1000000) (hr : Row w A (bts l)) :
    Calls Tryz.prog 50 #[.slice A l.length c] w fun e w' => e = .returned (.string (BA (dataL l))) ∧ Below w.heap.size w w' := by
  by_cases h : l = []
  · subst h
    exact (data_none A c w).mono fun e w' ⟨he, hw⟩ => ⟨he, hw ▸ Below.refl _ _⟩
  · have h1 : 1 ≤ l.length := by cases l <;> simp_all
    obtain ⟨d, o, rfl⟩ := hr.some_ (by rw [bts_length]; exact h1)
    refine (data_some d o c l w h1 hm hr).mono fun e w' ⟨he, hw⟩ => ⟨?_, hw⟩
    rw [he, dataL, if_neg h]; rfl
/-- the digits are read up to place i -/
theorem dec_take (s : List UInt8) (k : Nat) (a b : UInt8) (ha : s[2 * k]? = some a) (hb : s[2 * k + 1]? = some b) :
    dec (s.take (2 * (k + 1))) = dec (s.take (2 * k)) ++ [UInt8.ofNat (bits BinOp.or IntKind.i64 (idx a * 16) (idx b) % 256).toNat] := by
  induction k generalizing s with
  | zero =>
    match s, ha, hb with
    | a :: b :: r, ha, hb => cases ha; cases hb; rfl
    | [_], _, hb => simp at hb
    | [], ha, _ => simp at ha
  | succ k ih =>
    match s, ha, hb with
    | x :: y :: r, ha, hb =>
      have e1 : 2 * (k + 1) = 2 * k + 1 + 1 := by omega
      rw [e1] at ha hb
      simp only [List.getElem?_cons_succ] at ha hb
      have := ih r ha hb
      rw [e1, show 2 * (k + 1 + 1) = 2 * (k + 1) + 1 + 1 by omega]
      simp only [List.take_succ_cons, dec, List.cons_append, this]
    | [_], _, hb => simp at hb
    | [], ha, _ => simp at ha
theorem dec_all (s : List UInt8) (k : Nat) (h1 : 2 * k ≤ s.length) (h : s.length ≤ 2 * k + 1) : dec (s.take (2 * k)) = dec s := by
  induction k generalizing s with
  | zero =>
    match s, h with
    | a :: b :: r, h => simp at h
    | [_], h => rfl
    | [], h => rfl
  | succ k ih =>
    match s, h1, h with
    | a :: b :: r, h1, h =>
      have := ih r (by simp at h1; omega) (by simp at h; omega)
      rw [show 2 * (k + 1) = 2 * k + 1 + 1 by omega]
      simp only [List.take_succ_cons, dec, this]
    | [_], h1, h => simp at h1; omega
    | [], h1, h => simp at h1
theorem dec_length (s : List UInt8) : (dec s).length ≤ s.length := by
  match s with
  | a :: b :: r => have := dec_length r; simp [dec]; omega
  | [_] => simp [dec]
  | [] => simp [dec]
theorem data_c' (A : Option Addr) (c n : Nat) (l : List UInt8) (w : World) (hn : l.length = n) (hm : n ≤ 1000000) (hr : Row w A (bts l)) :
    Calls Tryz.prog 50 #[.slice A n c] w fun e w' => e = .returned (.string (BA (dataL l))) ∧ Below w.heap.size w w' := by
  subst hn; exact data_c A c l w hm hr
theorem byte_back (i : Int) (h0 : 0 ≤ i % 256) (_h1 : i % 256 < 256) : (((UInt8.ofNat (i % 256).toNat).toNat : Nat) : Int) = i % 256 := by
  simp; omega
theorem list_at (x : ByteArray) (i : Nat) (h : i < x.size) : x.data.toList[i]? = some (x[i]'h) := by
  rw [List.getElem?_eq_getElem (by rw [Array.length_toList]; exact h)]; rfl
theorem no_byte {w : World} {b o : Nat} {A : Option Addr} {n c : Nat} {f : Bool} {t : TypeId} {fr : Nat × Nat} (h : w.heap[b]? = some (.cells #[.slice A n c, .bool f] t fr)) {l : List UInt8} {j : Nat} {v : Value} (hj : (bts l)[j]? = some v) (hc : w.cell? ⟨b, o, none⟩ = some v) : False := by
  obtain ⟨x, _, rfl⟩ := List.mem_map.1 (List.mem_of_getElem? hj)
  rw [blk_cell h] at hc
  match o, hc with
  | 0, hc => simp [U8] at hc
  | 1, hc => simp [U8] at hc
  | o + 2, hc => simp at hc
def rdataP (ws : List ByteArray) (wr : Bool) : List UInt8 × List ByteArray × Bool :=
  if (wordP ws wr).1.data.toList = [45] then ([], (wordP ws wr).2.1, (wordP ws wr).2.2)
  else (dec (wordP ws wr).1.data.toList, (wordP ws wr).2.1, (wordP ws wr).2.2 || decide (¬ dataL (dec (wordP ws wr).1.data.toList) = (wordP ws wr).1.data.toList))
def RdataEnd (b : Nat) (ws : List ByteArray) (wr : Bool) (w : World) (e : Ending) (w' : World) : Prop :=
  ∃ A c, e = .returned (.slice A (rdataP ws wr).1.length c) ∧ (rdataP ws wr).1.length ≤ c ∧ Row w' A (bts (rdataP ws wr).1) ∧ Rd w' b (rdataP ws wr).2.1 (rdataP ws wr).2.2 ∧ Only (fun k => k = b) w w'
set_option maxRecDepth 100000 in
set_option maxHeartbeats 1000000 in
theorem rdata_c (b : Nat) (ws : List ByteArray) (wg : Bool) (w : World) (G : Glob w) (R : Rd w b ws wg) (hsh : Short ws) :
    Calls Tryz.prog 55 #[.pointer (some ⟨b, 0, none⟩)] w (RdataEnd b ws wg w) := by
  have HG : Hid (Glob w) := G
  have HR : Hid (Rd w b ws wg) := R
  have HS1 : Hid ((wordP ws wg).1.size ≤ 1000000) := (hsh.word wg).1
  clear G R hsh
  go_enter Tryz.func55, Tryz.ntmps55
  go_wp2_with fail
  refine (word_c b ws wg _ HR.out).mono ?_
  rintro e w1 ⟨rfl, hR1, hw1⟩
  obtain ⟨x, hx⟩ : ∃ x, x = (wordP ws wg).1 := ⟨_, rfl⟩
  have HX : Hid (x = (wordP ws wg).1) := hx
  have hsz := HS1.out
  rw [← hx] at hsz ⊢
  clear hx
  have HR1 : Hid (Rd w1 b (wordP ws wg).2.1 (wordP ws wg).2.2) := hR1
  have HW1 : Hid (Only (fun k => k = b) w w1) := hw1
  have HG1 : Hid (Glob w1) := HG.out.only1 hw1 HR.out.low
  clear hR1 hw1
  by_cases h : x.data.toList = [45]
  · have h1 := lit_same h
    have HH : Hid (x.data.toList = [45]) := h
    clear h
    go_wp2_with fail
    go_ret
    have hP : rdataP ws wg = ([], (wordP ws wg).2.1, (wordP ws wg).2.2) := by unfold rdataP; rw [if_pos (by rw [← HX.out]; exact HH.out)]
    refine ⟨none, 0, by rw [hP]; rfl, by rw [hP]; exact Nat.le_refl _, by rw [hP]; exact Row.nil _ _, by rw [hP]; exact HR1.out, HW1.out⟩
  · have h1 := lit_other h
    have HH : Hid (¬ x.data.toList = [45]) := h
    clear h
    go_wp2_with fail
    go_loopw [4, 5] (fun v i wq => ∃ k : Nat, 2 * k ≤ x.size ∧ i = .int .i64 (2 * k) ∧ wq.ownsRow w1.heap.size 5 1 v k (bts (dec (x.data.toList.take (2 * k)))) ∧ Below w1.heap.size w1 wq) (fun _ i _ => x.size + 1 - (intOf i).toNat)
    case atStart => exact ⟨0, Nat.zero_le _, rfl, by simp [dec, bts, World.ownsRow], Below.refl _ _⟩
    case round =>
      obtain ⟨k, hk, rfl, hown, hb⟩ := hrel
      by_cases hlt : 2 * k + 1 < x.size
      · go_wp2_with fail
        have q0 : (0:Int) ≤ 2 * (k:Int) := by omega
        have q1 : 2 * (k:Int) < (x.size : Int) := by omega
        have q2 : (0:Int) ≤ 2 * (k:Int) + 1 := by omega
        have q3 : 2 * (k:Int) + 1 < (x.size : Int) := by omega
        go_quiet ((go_at_call 83; exact Calls.quiet_of_same (digit_c _ _)))
        have l1 : 2 * k < x.size := by omega
        have i1 := idx_bd (x[2 * k]'l1)
        have i2 := idx_bd (x[2 * k + 1]'hlt)
        generalize hA : idx (x[2 * k]'l1) = p at i1 ⊢
        generalize hB : idx (x[2 * k + 1]'hlt) = q at i2 ⊢
        have HA : Hid (idx (x[2 * k]'l1) = p) := hA
        have HB : Hid (idx (x[2 * k + 1]'hlt) = q) := hB
        clear hA hB
        obtain ⟨i1, i1'⟩ := i1
        obtain ⟨i2, i2'⟩ := i2
        have hown' : (wr.drewN nq).ownsRow w1.heap.size 5 1 u4 k (bts (dec (x.data.toList.take (2 * k)))) := hown
        have hbs : w1.heap.size ≤ (wr.drewN nq).heap.size := hb.size
        have hb2 : Below w1.heap.size w1 (wr.drewN nq) := ⟨hb.os, hb.tape, hb.output, hb.size, hb.block⟩
        clear hown
        go_wp2_with (at_builtin; ((refine wpList_append_new rfl (.tmp 28) (.tmp 34) 41 rfl w1.heap.size 5 (.int .u8 0) 1 1 Tryz.underlying41 ?i1 rfl ?i2 u4 k (bts (dec (x.data.toList.take (2 * k)))) hown' hbs 1 1 _ ?hs ?hx ?cl ?c1 ?c3 ?c4 ?_); (case i1 => kernel_rfl); (case i2 => decide); (case hs => simp [Act.eval, Act.put]); (case hx => simp [Act.eval, Act.put]); (case cl => rfl); (case c1 => (intro u hu; simp only [List.mem_cons, List.mem_nil_iff, or_false] at hu; rcases hu with rfl <;> rfl)); (case c3 => (unfold maxLen; omega)); (case c4 => omega); (intro v' w' hown2 hg2)))
        refine ⟨⟨k + 1, by omega, by go_num, ?_, below_grown hb2 hown' hg2 hbs (Nat.le_refl _)⟩, by simp [intOf]; omega⟩
        have e := dec_take x.data.toList (2 * k / 2) (x[2 * k]'l1) (x[2 * k + 1]'hlt) ?_ ?_
        · rw [show 2 * k / 2 = k by omega] at e
          rw [e, bts, List.map_append]
          simp only [List.map_cons, List.map_nil, U8]
          rw [HA.out, HB.out, byte_back _ (by omega) (by omega)]
          exact hown2
        · rw [show 2 * (2 * k / 2) = 2 * k by omega]; exact list_at x _ l1
        · rw [show 2 * (2 * k / 2) = 2 * k by omega]; exact list_at x _ hlt
      · obtain ⟨A, c2, rfl, hc2, hrow⟩ := own_row hown
        have hl : (dec (x.data.toList.take (2 * k))).length = k := by have := hown.1; rw [bts_length] at this; omega
        have hda := dec_all x.data.toList k (by rw [Array.length_toList]; exact hk) (by rw [Array.length_toList]; show x.size ≤ _; omega)
        rw [hda] at hrow hl
        have HL : Hid ((dec x.data.toList).length = k) := hl
        have HRow : Hid (Row wr A (bts (dec x.data.toList))) := hrow
        have HB : Hid (Below w1.heap.size w1 wr) := hb
        have hkk : k ≤ 1000000 := by omega
        clear hl hda hown hrow hb
        go_wp2_with fail
        refine (data_c' A c2 k (dec x.data.toList) wr HL.out hkk HRow.out).mono ?_
        rintro e w2 ⟨rfl, hw2⟩
        have HO2 : Hid (Only (fun k => k = b) w w2) := (HW1.out.then (Only.of_new HB.out) (fun _ _ h => h)).then (Only.of_new hw2) (fun _ _ h => h)
        have HR2 : Hid (Rd w2 b (wordP ws wg).2.1 (wordP ws wg).2.2) := (HR1.out.below HB.out).below hw2
        have HRow2 : Hid (Row w2 A (bts (dec x.data.toList))) := HRow.out.below hw2
        clear hw2
        by_cases h5 : dataL (dec x.data.toList) = x.data.toList
        · have h6 := str_same (a := BA (dataL (dec x.data.toList))) (b := x) h5
          have H5 : Hid (dataL (dec x.data.toList) = x.data.toList) := h5
          clear h5
          go_wp2_with fail
          go_ret
          have hP : rdataP ws wg = (dec x.data.toList, (wordP ws wg).2.1, (wordP ws wg).2.2) := by
            unfold rdataP; rw [← HX.out, if_neg HH.out]; simp [H5.out]
          refine ⟨A, c2, by rw [hP, HL.out]; rfl, by rw [hP, HL.out]; exact hc2, by rw [hP]; exact HRow2.out, by rw [hP]; exact HR2.out, HO2.out⟩
        · have h6 := str_other (a := BA (dataL (dec x.data.toList))) (b := x) h5
          have H5 : Hid (¬ dataL (dec x.data.toList) = x.data.toList) := h5
          obtain ⟨A3, c3, hb3, _, _, hne3⟩ := HR2.out.at_
          have hf := blk_frozen hb3 1
          have hcell := blk_cell hb3 1
          simp only [List.getElem?_toArray, List.getElem?_cons_zero, List.getElem?_cons_succ] at hcell
          have HB3 : Hid (w2.heap[b]? = some (.cells #[.slice A3 (wordP ws wg).2.1.length c3, .bool (wordP ws wg).2.2] 109 (0, 0))) := hb3
          clear h5 hb3 hne3
          go_wp2_with fail
          go_ret
          have hP : rdataP ws wg = (dec x.data.toList, (wordP ws wg).2.1, true) := by
            unfold rdataP; rw [← HX.out, if_neg HH.out]; simp [H5.out]
          refine ⟨A, c2, by rw [hP, HL.out]; rfl, by rw [hP, HL.out]; exact hc2, ?_, by rw [hP]; exact HR2.out.set_wrong, HO2.out.then (Only.setAt _ _ _ _) (fun _ _ h => h)⟩
          rw [hP]
          intro j v hj
          obtain ⟨d, o, e, hc⟩ := HRow2.out j v hj
          refine ⟨d, o, e, (Only.setAt w2 b 1 (.bool true)).cell hc (fun hd => ?_)⟩
          have hd' : d = b := hd
          subst hd'
          exact no_byte HB3.out hj hc
end Go.Proofs.YtkbmljagcondhaaGreatDoor
