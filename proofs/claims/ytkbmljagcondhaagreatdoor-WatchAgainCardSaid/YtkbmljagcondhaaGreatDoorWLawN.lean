/- Plain laws of the line of a name. No program in it. -/
import Derived.Test.YtkbmljagcondhaaGreatDoorWLaw
open Go Go.RowKit
set_option linter.unusedSimpArgs false
set_option linter.unusedVariables false
namespace Go.Proofs.YtkbmljagcondhaaGreatDoor
theorem index_app (c : UInt8) (l r : List UInt8) (h : c ∉ l) : Lib.index (l ++ c :: r) [c] = l.length := by
  induction l with
  | nil => simp [index_one]
  | cons b l ih =>
    simp only [List.mem_cons, not_or] at h
    rw [List.cons_append, index_one, if_neg (Ne.symm h.1), ih h.2, if_neg (by simp <;> omega)]
    simp
theorem cut_app (c : UInt8) (l r : List UInt8) (h : c ∉ l) : Lib.cut (l ++ c :: r) [c] = (l, r, true) := by
  unfold Lib.cut
  rw [index_app c l r h, if_pos (by omega)]
  simp
theorem no_sep {l : List UInt8} (h : l.any isSep = false) : (58 : UInt8) ∉ l ∧ (64 : UInt8) ∉ l := by
  rw [List.any_eq_false] at h
  exact ⟨fun hc => h 58 hc (by decide), fun hc => h 64 hc (by decide)⟩
theorem parseP_text (a b z : ByteArray) (h : textB a b z = true) : parseP (BA (textR a b z)) = (a, b, z, 0) := by
  have hr : textR a b z = textL a.data.toList b.data.toList z.data.toList := by unfold textR; rw [h]; rfl
  have hs : (a.data.toList ++ (b.data.toList ++ z.data.toList)).any isSep = false := by
    unfold textB at h
    rw [Bool.and_eq_true] at h
    have := h.2
    simp only [Bool.not_eq_true'] at this
    exact this
  obtain ⟨n1, n2⟩ := no_sep hs
  simp only [List.mem_append, not_or] at n1 n2
  have hl : textL a.data.toList b.data.toList z.data.toList = a.data.toList ++ 58 :: (b.data.toList ++ 64 :: z.data.toList) := by simp [textL]
  generalize hs2 : BA (textR a b z) = s
  have hsl : s.data.toList = a.data.toList ++ 58 :: (b.data.toList ++ 64 :: z.data.toList) := by rw [← hs2, BA_list, hr, hl]
  have e1 : cutA s = (a.data.toList, b.data.toList ++ 64 :: z.data.toList, true) := by
    unfold cutA; rw [hsl]; exact cut_app 58 _ _ n1.1
  have e2 : cutB s = (b.data.toList, z.data.toList, true) := by
    unfold cutB; rw [e1]; exact cut_app 64 _ _ n2.2.1
  have ok : parseOk s = true := by
    unfold parseOk
    rw [e1, e2]
    have e3 : textR a b z = s.data.toList := by rw [hr, hl, hsl]
    show (textB a b z && decide (textR a b z = s.data.toList)) = true
    rw [h]
    simpa using e3
  unfold parseP
  rw [ok, e1, e2]
  rfl
theorem hasB_no {x : ByteArray} {c : UInt8} (h : hasB x c = false) : c ∉ x.data.toList := by
  intro hc
  have := Lib.contains_iff_indexByte x.data.toList c
  unfold hasB at h
  rw [h] at this
  simp at this
  exact this (by simpa using hc)
theorem getNm_line (p : Nm) (h : nmE p.a p.b p.z p.net p.node p.sock p.enum = true) : getNm (BA (joinB (nmL p.a p.b p.z p.net p.node p.sock p.enum))) = (p, 0) := by
  obtain ⟨a, b, z, net, node, sock, enum⟩ := p
  simp only at *
  have h' := h
  unfold nmE at h'
  simp only [Bool.and_eq_true, Bool.not_eq_true'] at h'
  obtain ⟨⟨ht, he⟩, hsp⟩ := h'
  obtain ⟨f1, f2, f3, f4⟩ := entryB_wf he
  generalize hs : BA (joinB (nmL a b z net node sock enum)) = s
  have e0 : n0 s = ([BA (textR a b z), BA (pointT net node sock), BA (Lib.itoa enum)], false) := by
    rw [← hs]
    refine readP_line ⟨#[78]⟩ _ 4 rfl ?_
    intro w hw
    simp only [List.mem_cons, List.mem_nil_iff, or_false] at hw
    rcases hw with rfl | rfl | rfl | rfl
    · decide
    · exact hasB_no hsp
    · exact point_no32 _ _ _
    · exact itoa_no32 _
  have e1 : n1 s = (BA (textR a b z), [BA (pointT net node sock), BA (Lib.itoa enum)], false) := by
    unfold n1; rw [e0]; rfl
  have e2 : n2 s = ((net, node, sock), [BA (Lib.itoa enum)], false) := by
    unfold n2; rw [e1]; exact ptP_text _ _ _ f1 f2 f3 _
  have e3 : n3 s = (enum, [], false) := by
    unfold n3; rw [e2]; exact numberP_itoa _ f4 _
  have hp := parseP_text a b z ht
  have hq : qNm s = ⟨a, b, z, net, node, sock, enum⟩ := by
    unfold qNm; rw [e1, e2, e3, hp]
  have ok : nmOk s = true := by
    unfold nmOk
    rw [e1, e2, e3, hp]
    simp only [h, Bool.not_false, Bool.true_and, Bool.and_true, decide_true]
    rw [← hs]
    simp [BA_list]
  unfold getNm
  rw [if_pos ok, hq]
/-- what is told of a line is the line again -/
theorem sp_words (s : ByteArray) (k : ByteArray) (many : Int) (ws : List ByteArray) (h : readP s k many = (ws, false)) : joinB (k :: ws) = s.data.toList ∧ ((k :: ws).length : Int) = many := by
  unfold readP splitP at h
  rw [splitP_sp] at h
  obtain ⟨x, r, e⟩ := sp_ne 32 s.data.toList
  rw [e] at h
  simp only [List.map_cons] at h
  split at h
  · rename_i hc
    injection h with h1 h2
    have hk : BA x = k := data_inj hc.2
    subst hk
    subst h1
    constructor
    · unfold joinB
      have h3 := sp_join 32 s.data.toList
      rw [e] at h3
      rw [← h3]
      congr 1
      simp only [List.map_cons, List.map_map, BA_list]
      congr 1
      exact (List.map_congr_left fun x _ => rfl).trans (List.map_id _)
    · exact hc.1
  · injection h with h1 h2
    cases h2
theorem wordP_ok {ws : List ByteArray} {wr : Bool} (h : (wordP ws wr).2.2 = false) : ws = (wordP ws wr).1 :: (wordP ws wr).2.1 ∧ wr = false := by
  cases wr
  · cases ws with
    | nil => cases h
    | cons x r => exact ⟨rfl, rfl⟩
  · cases ws <;> cases h
theorem intP_ok {s : List UInt8} (h : (intP s).2 = false) : Lib.itoa (intP s).1 = s := by
  unfold intP at h ⊢
  simp only [Bool.not_eq_false', Bool.and_eq_true, decide_eq_true_eq] at h
  exact h.2
theorem numberP_ok {ws : List ByteArray} {wr : Bool} (h : (numberP ws wr).2.2 = false) : ws = BA (Lib.itoa (numberP ws wr).1) :: (numberP ws wr).2.1 ∧ wr = false := by
  unfold numberP at h ⊢
  simp only [Bool.or_eq_false_iff] at h
  obtain ⟨h1, h2⟩ := wordP_ok h.1
  refine ⟨?_, h2⟩
  have := intP_ok h.2
  rw [this, BA_data]
  exact h1
theorem pointP_ok {x : ByteArray} (h : (pointP x).2 = false) : x = BA (pointT (pointP x).1.1 (pointP x).1.2.1 (pointP x).1.2.2) := by
  unfold pointP splitP at h ⊢
  rw [splitP_sp] at h ⊢
  have hj := sp_join 46 x.data.toList
  match hsp : sp 46 x.data.toList with
  | [] => rw [hsp] at h; cases h
  | [_] => rw [hsp] at h; cases h
  | [_, _] => rw [hsp] at h; cases h
  | a :: b :: c :: d :: r => rw [hsp] at h; cases h
  | [a, b, c] =>
    rw [hsp] at h hj
    simp only [List.map_cons, List.map_nil, BA_list, Bool.or_eq_false_iff] at h ⊢
    obtain ⟨⟨h1, h2⟩, h3⟩ := h
    have e1 := intP_ok h1
    have e2 := intP_ok h2
    have e3 := intP_ok h3
    refine data_inj ?_
    rw [BA_list, pointT, e1, e2, e3, ← hj]
    simp [Lib.join_cons, Lib.joinTail]
theorem ptP_ok {ws : List ByteArray} {wr : Bool} (h : (ptP ws wr).2.2 = false) : ws = BA (pointT (ptP ws wr).1.1 (ptP ws wr).1.2.1 (ptP ws wr).1.2.2) :: (ptP ws wr).2.1 ∧ wr = false := by
  unfold ptP at h ⊢
  simp only [Bool.or_eq_false_iff] at h
  obtain ⟨h1, h2⟩ := wordP_ok h.1
  refine ⟨?_, h2⟩
  have := pointP_ok h.2
  rw [← this]
  exact h1
theorem rdataP_ok {ws : List ByteArray} {wr : Bool} (h : (rdataP ws wr).2.2 = false) : ws = BA (dataL (rdataP ws wr).1) :: (rdataP ws wr).2.1 ∧ wr = false := by
  by_cases hw : (wordP ws wr).1.data.toList = [45]
  · have e : rdataP ws wr = ([], (wordP ws wr).2.1, (wordP ws wr).2.2) := by unfold rdataP; rw [if_pos hw]
    rw [e] at h ⊢
    obtain ⟨h1, h2⟩ := wordP_ok h
    refine ⟨?_, h2⟩
    have : BA (dataL []) = (wordP ws wr).1 := data_inj (by rw [hw]; rfl)
    rw [this]
    exact h1
  · have e : rdataP ws wr = (dec (wordP ws wr).1.data.toList, (wordP ws wr).2.1, (wordP ws wr).2.2 || decide (¬ dataL (dec (wordP ws wr).1.data.toList) = (wordP ws wr).1.data.toList)) := by unfold rdataP; rw [if_neg hw]
    rw [e] at h ⊢
    simp only [Bool.or_eq_false_iff, decide_eq_false_iff_not, Classical.not_not] at h
    obtain ⟨h1, h2⟩ := wordP_ok h.1
    refine ⟨?_, h2⟩
    have : BA (dataL (dec (wordP ws wr).1.data.toList)) = (wordP ws wr).1 := data_inj (by rw [BA_list, h.2])
    rw [this]
    exact h1
theorem getFr_again (s : ByteArray) (h : (getFr s).2 = 0) : joinB (frameL (getFr s).1.k (getFr s).1.id (getFr s).1.seq (getFr s).1.n (getFr s).1.l) = s.data.toList := by
  have h5f : (h5 s).2.2 = false := by
    cases hq : (h5 s).2.2
    · rfl
    · unfold getFr at h; rw [hq] at h; cases h
  have hp : (getFr s).1 = ⟨(h1 s).1, (h2 s).1, (h3 s).1, (h4 s).1, (h5 s).1⟩ := by unfold getFr; rw [h5f]; rfl
  rw [hp]
  obtain ⟨a5, w4⟩ := rdataP_ok (ws := (h4 s).2.1) (wr := (h4 s).2.2) h5f
  obtain ⟨a4, w3⟩ := numberP_ok (ws := (h3 s).2.1) (wr := (h3 s).2.2) w4
  obtain ⟨a3, w2⟩ := numberP_ok (ws := (h2 s).2.1) (wr := (h2 s).2.2) w3
  obtain ⟨a2, w1⟩ := numberP_ok (ws := (h1 s).2.1) (wr := (h1 s).2.2) w2
  obtain ⟨a1, w0⟩ := numberP_ok (ws := (h0 s).1) (wr := (h0 s).2) w1
  have hr : readP s ⟨#[70]⟩ 6 = ((h0 s).1, false) := by rw [← w0]; rfl
  obtain ⟨hj, hlen⟩ := sp_words s _ _ _ hr
  have b1 : (h0 s).1 = BA (Lib.itoa (h1 s).1) :: (h1 s).2.1 := a1
  have b2 : (h1 s).2.1 = BA (Lib.itoa (h2 s).1) :: (h2 s).2.1 := a2
  have b3 : (h2 s).2.1 = BA (Lib.itoa (h3 s).1) :: (h3 s).2.1 := a3
  have b4 : (h3 s).2.1 = BA (Lib.itoa (h4 s).1) :: (h4 s).2.1 := a4
  have b5 : (h4 s).2.1 = BA (dataL (h5 s).1) :: (h5 s).2.1 := a5
  rw [b1, b2, b3, b4, b5] at hj hlen
  have hnil : (h5 s).2.1 = [] := by
    cases hz : (h5 s).2.1 with
    | nil => rfl
    | cons x r => rw [hz] at hlen; simp at hlen; omega
  rw [hnil] at hj
  exact hj
theorem getDg_again (s : ByteArray) (h : (getDg s).2 = 0) : (getDg s).1.valid = true ∧
    joinB (dgL (getDg s).1.hops (getDg s).1.dn (getDg s).1.dd (getDg s).1.sn (getDg s).1.sd (getDg s).1.ds (getDg s).1.ss (getDg s).1.ty (getDg s).1.sm (getDg s).1.l) = s.data.toList := by
  have hb : gBad s = false := by
    cases hq : gBad s
    · rfl
    · unfold getDg at h; rw [hq] at h; cases h
  have hp : (getDg s).1 = gPk s := by unfold getDg; rw [hb]; rfl
  rw [hp]
  unfold gBad at hb
  simp only [Bool.or_eq_false_iff, Bool.not_eq_false'] at hb
  obtain ⟨⟨g6f, hsum⟩, hval⟩ := hb
  refine ⟨hval, ?_⟩
  obtain ⟨a6, w5⟩ := rdataP_ok (ws := (g5 s).2.1) (wr := (g5 s).2.2) g6f
  obtain ⟨a5, w4⟩ := wordP_ok (ws := (g4 s).2.1) (wr := (g4 s).2.2) w5
  obtain ⟨a4, w3⟩ := numberP_ok (ws := (g3 s).2.1) (wr := (g3 s).2.2) w4
  obtain ⟨a3, w2⟩ := ptP_ok (ws := (g2 s).2.1) (wr := (g2 s).2.2) w3
  obtain ⟨a2, w1⟩ := ptP_ok (ws := (g1 s).2.1) (wr := (g1 s).2.2) w2
  obtain ⟨a1, w0⟩ := numberP_ok (ws := (g0 s).1) (wr := (g0 s).2) w1
  have hr : readP s ⟨#[68]⟩ 7 = ((g0 s).1, false) := by rw [← w0]; rfl
  obtain ⟨hj, hlen⟩ := sp_words s _ _ _ hr
  have b1 : (g0 s).1 = BA (Lib.itoa (g1 s).1) :: (g1 s).2.1 := a1
  have b2 : (g1 s).2.1 = BA (pointT (g2 s).1.1 (g2 s).1.2.1 (g2 s).1.2.2) :: (g2 s).2.1 := a2
  have b3 : (g2 s).2.1 = BA (pointT (g3 s).1.1 (g3 s).1.2.1 (g3 s).1.2.2) :: (g3 s).2.1 := a3
  have b4 : (g3 s).2.1 = BA (Lib.itoa (g4 s).1) :: (g4 s).2.1 := a4
  have b5 : (g4 s).2.1 = (g5 s).1 :: (g5 s).2.1 := a5
  have b6 : (g5 s).2.1 = BA (dataL (g6 s).1) :: (g6 s).2.1 := a6
  rw [b1, b2, b3, b4, b5, b6] at hj hlen
  have hnil : (g6 s).2.1 = [] := by
    cases hz : (g6 s).2.1 with
    | nil => rfl
    | cons x r => rw [hz] at hlen; simp at hlen; omega
  rw [hnil] at hj
  have hw : (g5 s).1 = if (gPk s).sm then (⟨#[115, 117, 109]⟩ : ByteArray) else ⟨#[45]⟩ := by
    have hsm : (gPk s).sm = isSum (g5 s).1.data.toList := rfl
    rw [hsm]
    cases hq : isSum (g5 s).1.data.toList
    · rw [hq] at hsum
      simp only [Bool.not_false, Bool.true_and, Bool.not_eq_false', decide_eq_true_eq] at hsum
      rw [if_neg (by simp)]
      exact data_inj hsum
    · rw [if_pos rfl]
      unfold isSum at hq
      exact data_inj (by simpa using hq)
  rw [hw] at hj
  exact hj
end Go.Proofs.YtkbmljagcondhaaGreatDoor
