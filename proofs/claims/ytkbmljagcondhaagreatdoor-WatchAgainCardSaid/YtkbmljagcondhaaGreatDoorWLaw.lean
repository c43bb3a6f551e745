/- Plain laws of the watch's lines: what is read of what was written. No program in it. -/
import Derived.Test.YtkbmljagcondhaaGreatDoorWKind
open Go Go.RowKit
set_option linter.unusedSimpArgs false
set_option linter.unusedVariables false
namespace Go.Proofs.YtkbmljagcondhaaGreatDoor
theorem dd_digit (u : Nat) : ∀ c ∈ Lib.decDigits u, 48 ≤ c.toNat ∧ c.toNat ≤ 57 := by
  induction u using Nat.strongRecOn with
  | _ u ih =>
    rw [Lib.decDigits]
    split
    · intro c hc
      simp only [List.mem_cons, List.mem_nil_iff, or_false] at hc
      subst hc
      have : (UInt8.ofNat (48 + u)).toNat = 48 + u := by simp; omega
      omega
    · intro c hc
      rcases List.mem_append.1 hc with hc | hc
      · exact ih (u / 10) (by omega) c hc
      · simp only [List.mem_cons, List.mem_nil_iff, or_false] at hc
        subst hc
        have : (UInt8.ofNat (48 + u % 10)).toNat = 48 + u % 10 := by simp; omega
        omega
theorem dd_ne (u : Nat) : Lib.decDigits u ≠ [] := by
  rw [Lib.decDigits]
  split <;> simp
theorem dd_parse (u : Nat) (h : u ≤ 9223372036854775808) : ∀ r, Lib.parseUint10 0 (Lib.decDigits u ++ r) = Lib.parseUint10 u r := by
  induction u using Nat.strongRecOn with
  | _ u ih =>
    intro r
    rw [Lib.decDigits]
    split
    · rename_i hu
      have e : (UInt8.ofNat (48 + u)).toNat = 48 + u := by simp; omega
      simp only [List.cons_append, List.nil_append, Lib.parseUint10]
      rw [e, if_pos (by omega), if_neg (by omega), if_neg (by omega)]
      congr 1
      omega
    · rename_i hu
      have e : (UInt8.ofNat (48 + u % 10)).toNat = 48 + u % 10 := by simp; omega
      rw [List.append_assoc, ih (u / 10) (by omega) (by omega)]
      simp only [List.cons_append, List.nil_append, Lib.parseUint10]
      rw [e, if_pos (by omega), if_neg (by omega), if_neg (by omega)]
      congr 1
      omega
theorem mag_dd (u : Nat) (h : u ≤ 9223372036854775808) : Lib.parseMag (Lib.decDigits u) = .ok u := by
  unfold Lib.parseMag
  rw [if_neg (dd_ne u)]
  have := dd_parse u h []
  rw [List.append_nil] at this
  rw [this]; rfl
theorem atoi_itoa (n : Int) (h : wf64 n) : Lib.atoiAll (Lib.itoa n) = .ok n := by
  unfold wf64 at h
  unfold Lib.itoa
  split
  · rename_i hn
    unfold Lib.atoiAll
    simp only []
    rw [if_pos (by decide), mag_dd _ (by omega)]
    simp only []
    rw [if_neg (by simp), if_neg (by simp; omega), if_pos (by decide)]
    congr 1
    omega
  · rename_i hn
    obtain ⟨c, r, e⟩ : ∃ c r, Lib.decDigits n.toNat = c :: r := by
      cases hd : Lib.decDigits n.toNat with
      | nil => exact absurd hd (dd_ne _)
      | cons c r => exact ⟨c, r, rfl⟩
    have hc := dd_digit n.toNat c (by rw [e]; simp)
    rw [e]
    unfold Lib.atoiAll
    simp only []
    rw [if_neg (by omega), ← e, mag_dd _ (by omega)]
    simp only []
    rw [if_neg (by omega), if_neg (by omega), if_neg (by omega)]
    congr 1
    omega
theorem intP_itoa (n : Int) (h : wf64 n) : intP (Lib.itoa n) = (n, false) := by
  have : atoiN (Lib.itoa n) = (n, true) := by unfold atoiN; rw [atoi_itoa n h]
  unfold intP
  rw [this]
  simp
theorem itoa_mem (n : Int) (c : UInt8) (h : c ∈ Lib.itoa n) : c = 45 ∨ 48 ≤ c.toNat ∧ c.toNat ≤ 57 := by
  unfold Lib.itoa at h
  split at h
  · rcases List.mem_cons.1 h with h | h
    · exact .inl h
    · exact .inr (dd_digit _ _ h)
  · exact .inr (dd_digit _ _ h)
theorem itoa_no (n : Int) (c : UInt8) (hc : c.toNat < 45 ∨ c.toNat = 46) : c ∉ Lib.itoa n := by
  intro h
  rcases itoa_mem n c h with h | h
  · subst h; revert hc; decide
  · omega
theorem sp_point (a b c : Int) : sp 46 (pointT a b c) = [Lib.itoa a, Lib.itoa b, Lib.itoa c] := by
  have h := join_sp 46 [Lib.itoa a, Lib.itoa b, Lib.itoa c] (by simp) (by
    intro w hw
    simp only [List.mem_cons, List.mem_nil_iff, or_false] at hw
    rcases hw with rfl | rfl | rfl <;> exact itoa_no _ _ (.inr rfl))
  rw [← h]
  congr 1
  simp [Lib.join_cons, Lib.joinTail, pointT]
theorem pointP_text (a b c : Int) (ha : wf64 a) (hb : wf64 b) (hc : wf64 c) : pointP (BA (pointT a b c)) = ((a, b, c), false) := by
  unfold pointP splitP
  rw [splitP_sp, BA_list, sp_point]
  simp only [List.map_cons, List.map_nil, BA_list, intP_itoa a ha, intP_itoa b hb, intP_itoa c hc]
  rfl
theorem point_no (a b c : Int) (x : UInt8) (hx : x.toNat < 45) : x ∉ pointT a b c := by
  have h46 : x ≠ 46 := by rintro rfl; revert hx; decide
  simp only [pointT, List.mem_append, List.mem_cons, List.mem_nil_iff, not_or]
  have h1 := itoa_no a x (.inl hx)
  have h2 := itoa_no b x (.inl hx)
  have h3 := itoa_no c x (.inl hx)
  simp [h1, h2, h3, h46]
theorem readP_line (k : ByteArray) (ws : List ByteArray) (many : Int) (hm : ((k :: ws).length : Int) = many) (hs : ∀ w ∈ k :: ws, (32 : UInt8) ∉ w.data.toList) : readP (BA (joinB (k :: ws))) k many = (ws, false) := by
  unfold readP splitP
  rw [splitP_sp, BA_list]
  have h := join_sp 32 ((k :: ws).map fun x => x.data.toList) (by simp) (by
    intro w hw
    obtain ⟨x, hx, rfl⟩ := List.mem_map.1 hw
    exact hs x hx)
  unfold joinB
  rw [h, List.map_map]
  have e : (BA ∘ fun x : ByteArray => x.data.toList) = id := by funext x; exact BA_data x
  rw [e, List.map_id]
  simp only []
  rw [if_pos ⟨hm, trivial⟩]
theorem hx_back (c : UInt8) : UInt8.ofNat (bits BinOp.or IntKind.i64 (idx (hx (c.toNat / 16)) * 16) (idx (hx (c.toNat % 16))) % 256).toNat = c := by
  have h : ∀ c : Fin 256, UInt8.ofNat (bits BinOp.or IntKind.i64 (idx (hx (c.val / 16)) * 16) (idx (hx (c.val % 16))) % 256).toNat = UInt8.ofNat c.val := by decide +kernel
  have := h ⟨c.toNat, c.toNat_lt⟩
  simpa using this
theorem dec_hexs (l : List UInt8) : dec (hexs l) = l := by
  induction l with
  | nil => rfl
  | cons c l ih =>
    have e : hexs (c :: l) = hx (c.toNat / 16) :: hx (c.toNat % 16) :: hexs l := by simp [hexs]
    rw [e, dec, ih, hx_back]
theorem hx_no (n : Nat) (h : n < 16) : hx n ≠ 32 := by
  have h' : ∀ n : Fin 16, hx n.val ≠ 32 := by decide
  exact h' ⟨n, h⟩
theorem hexs_no (l : List UInt8) : (32 : UInt8) ∉ hexs l := by
  intro h
  simp only [hexs, List.mem_flatMap, List.mem_cons, List.mem_nil_iff, or_false] at h
  obtain ⟨c, _, h⟩ := h
  have := c.toNat_lt
  rcases h with h | h
  · exact hx_no _ (by omega) h.symm
  · exact hx_no _ (by omega) h.symm
theorem dataL_no (l : List UInt8) : (32 : UInt8) ∉ dataL l := by
  unfold dataL
  split
  · decide
  · exact hexs_no l
theorem numberP_itoa (n : Int) (h : wf64 n) (ws : List ByteArray) : numberP (BA (Lib.itoa n) :: ws) false = (n, ws, false) := by
  unfold numberP wordP
  simp only [BA_list, intP_itoa n h, Bool.or_false]
theorem ptP_text (a b c : Int) (ha : wf64 a) (hb : wf64 b) (hc : wf64 c) (ws : List ByteArray) : ptP (BA (pointT a b c) :: ws) false = ((a, b, c), ws, false) := by
  unfold ptP wordP
  simp only [pointP_text a b c ha hb hc, Bool.or_false]
theorem wordP_one (x : ByteArray) (ws : List ByteArray) : wordP (x :: ws) false = (x, ws, false) := rfl
theorem rdataP_text (l : List UInt8) (ws : List ByteArray) : rdataP (BA (dataL l) :: ws) false = (l, ws, false) := by
  unfold rdataP
  by_cases h : l = []
  · subst h
    have e : (wordP (BA (dataL []) :: ws) false).1.data.toList = [45] := rfl
    rw [if_pos e]
    rfl
  · have hd : dataL l = hexs l := by rw [dataL, if_neg h]
    have h45 : ¬ (wordP (BA (dataL l) :: ws) false).1.data.toList = [45] := by
      intro e
      have e : dataL l = [45] := e
      have := hexs_length l
      rw [← hd, e] at this
      simp at this; omega
    have h2 : dec (dataL l) = l := by rw [hd]; exact dec_hexs l
    rw [if_neg h45]
    show (dec (dataL l), ws, false || decide (¬ dataL (dec (dataL l)) = dataL l)) = (l, ws, false)
    rw [h2]
    simp
theorem itoa_no32 (n : Int) : (32 : UInt8) ∉ Lib.itoa n := itoa_no n 32 (.inl (by decide))
theorem point_no32 (a b c : Int) : (32 : UInt8) ∉ pointT a b c := point_no a b c 32 (by decide)
theorem getDg_line (p : Pk) (h : p.valid = true) : getDg (BA (joinB (dgL p.hops p.dn p.dd p.sn p.sd p.ds p.ss p.ty p.sm p.l))) = (p, 0) := by
  have hv := h
  unfold Pk.valid at hv
  obtain ⟨f1, f2, f3, f4, f5, f6, f7, f8, f9⟩ := validB_wf hv
  obtain ⟨hops, dn, dd, sn, sd, ds, ss, ty, l, sm⟩ := p
  simp only at *
  generalize hs : BA (joinB (dgL hops dn dd sn sd ds ss ty sm l)) = s
  have e0 : g0 s = ([BA (Lib.itoa hops), BA (pointT sn sd ss), BA (pointT dn dd ds), BA (Lib.itoa ty), if sm then ⟨#[115, 117, 109]⟩ else ⟨#[45]⟩, BA (dataL l)], false) := by
    rw [← hs]
    refine readP_line ⟨#[68]⟩ _ 7 rfl ?_
    intro w hw
    simp only [List.mem_cons, List.mem_nil_iff, or_false] at hw
    rcases hw with rfl | rfl | rfl | rfl | rfl | rfl | rfl
    · decide
    · exact itoa_no32 _
    · exact point_no32 _ _ _
    · exact point_no32 _ _ _
    · exact itoa_no32 _
    · cases sm <;> decide
    · exact dataL_no l
  have e1 : g1 s = (hops, [BA (pointT sn sd ss), BA (pointT dn dd ds), BA (Lib.itoa ty), if sm then ⟨#[115, 117, 109]⟩ else ⟨#[45]⟩, BA (dataL l)], false) := by
    unfold g1; rw [e0]; exact numberP_itoa _ f1 _
  have e2 : g2 s = ((sn, sd, ss), [BA (pointT dn dd ds), BA (Lib.itoa ty), if sm then ⟨#[115, 117, 109]⟩ else ⟨#[45]⟩, BA (dataL l)], false) := by
    unfold g2; rw [e1]; exact ptP_text _ _ _ f4 f5 f7 _
  have e3 : g3 s = ((dn, dd, ds), [BA (Lib.itoa ty), if sm then ⟨#[115, 117, 109]⟩ else ⟨#[45]⟩, BA (dataL l)], false) := by
    unfold g3; rw [e2]; exact ptP_text _ _ _ f2 f3 f6 _
  have e4 : g4 s = (ty, [if sm then ⟨#[115, 117, 109]⟩ else ⟨#[45]⟩, BA (dataL l)], false) := by
    unfold g4; rw [e3]; exact numberP_itoa _ f8 _
  have e5 : g5 s = (if sm then ⟨#[115, 117, 109]⟩ else ⟨#[45]⟩, [BA (dataL l)], false) := by
    unfold g5; rw [e4]; rfl
  have e6 : g6 s = (l, [], false) := by
    unfold g6; rw [e5]; exact rdataP_text l []
  have hp : gPk s = ⟨hops, dn, dd, sn, sd, ds, ss, ty, l, sm⟩ := by
    unfold gPk
    rw [e1, e2, e3, e4, e5, e6]
    cases sm <;> rfl
  have hb : gBad s = false := by
    unfold gBad
    rw [hp, h, e5, e6]
    cases sm <;> rfl
  unfold getDg
  rw [hb, hp]
  rfl
theorem getFr_line (p : Fr) (h1 : wf64 p.k) (h2 : wf64 p.id) (h3 : wf64 p.seq) (h4 : wf64 p.n) : getFr (BA (joinB (frameL p.k p.id p.seq p.n p.l))) = (p, 0) := by
  obtain ⟨k, id, seq, n, l⟩ := p
  simp only at *
  generalize hs : BA (joinB (frameL k id seq n l)) = s
  have e0 : h0 s = ([BA (Lib.itoa k), BA (Lib.itoa id), BA (Lib.itoa seq), BA (Lib.itoa n), BA (dataL l)], false) := by
    rw [← hs]
    refine readP_line ⟨#[70]⟩ _ 6 rfl ?_
    intro w hw
    simp only [List.mem_cons, List.mem_nil_iff, or_false] at hw
    rcases hw with rfl | rfl | rfl | rfl | rfl | rfl
    · decide
    · exact itoa_no32 _
    · exact itoa_no32 _
    · exact itoa_no32 _
    · exact itoa_no32 _
    · exact dataL_no l
  have e1 : Go.Proofs.YtkbmljagcondhaaGreatDoor.h1 s = (k, [BA (Lib.itoa id), BA (Lib.itoa seq), BA (Lib.itoa n), BA (dataL l)], false) := by
    unfold Go.Proofs.YtkbmljagcondhaaGreatDoor.h1; rw [e0]; exact numberP_itoa _ h1 _
  have e2 : Go.Proofs.YtkbmljagcondhaaGreatDoor.h2 s = (id, [BA (Lib.itoa seq), BA (Lib.itoa n), BA (dataL l)], false) := by
    unfold Go.Proofs.YtkbmljagcondhaaGreatDoor.h2; rw [e1]; exact numberP_itoa _ h2 _
  have e3 : Go.Proofs.YtkbmljagcondhaaGreatDoor.h3 s = (seq, [BA (Lib.itoa n), BA (dataL l)], false) := by
    unfold Go.Proofs.YtkbmljagcondhaaGreatDoor.h3; rw [e2]; exact numberP_itoa _ h3 _
  have e4 : Go.Proofs.YtkbmljagcondhaaGreatDoor.h4 s = (n, [BA (dataL l)], false) := by
    unfold Go.Proofs.YtkbmljagcondhaaGreatDoor.h4; rw [e3]; exact numberP_itoa _ h4 _
  have e5 : h5 s = (l, [], false) := by
    unfold h5; rw [e4]; exact rdataP_text l []
  unfold getFr
  rw [e5, e4, e3, e2, e1]
  rfl
theorem kindW_no (k : Nat) : (32 : UInt8) ∉ (kindW k).data.toList := by
  unfold kindW
  split
  · decide
  · split <;> decide
theorem orW_no (o e a : Bool) : (32 : UInt8) ∉ orW (lettersL o e a) := by cases o <;> cases e <;> cases a <;> decide
theorem orW_has (o e a : Bool) : hasB (BA (orW (lettersL o e a))) 111 = o ∧ hasB (BA (orW (lettersL o e a))) 101 = e ∧ hasB (BA (orW (lettersL o e a))) 97 = a := by cases o <;> cases e <;> cases a <;> decide
theorem kidx_kind (k : Nat) (h : k < 3) : kidx (kindW k) = k := by
  match k, h with
  | 0, _ => decide
  | 1, _ => decide
  | 2, _ => decide
theorem getTr_line (k : Nat) (hk : k < 3) (id bits seq : Int) (o e a : Bool) (l : List UInt8) (h1 : wf64 id) (h2 : wf64 bits) (h3 : wf64 seq) :
    getTr (BA (joinB (trL k id bits seq o e a l))) = (⟨(k : Int), id, bits, seq, o, e, a, l⟩, 0) := by
  generalize hs : BA (joinB (trL k id bits seq o e a l)) = s
  have e0 : q0 s = ([kindW k, BA (Lib.itoa id), BA (Lib.itoa bits), BA (Lib.itoa seq), BA (orW (lettersL o e a)), BA (dataL l)], false) := by
    rw [← hs]
    refine readP_line ⟨#[84]⟩ _ 7 rfl ?_
    intro w hw
    simp only [List.mem_cons, List.mem_nil_iff, or_false] at hw
    rcases hw with rfl | rfl | rfl | rfl | rfl | rfl | rfl
    · decide
    · exact kindW_no k
    · exact itoa_no32 _
    · exact itoa_no32 _
    · exact itoa_no32 _
    · exact orW_no o e a
    · exact dataL_no l
  have e1 : q1 s = (kindW k, [BA (Lib.itoa id), BA (Lib.itoa bits), BA (Lib.itoa seq), BA (orW (lettersL o e a)), BA (dataL l)], false) := by
    unfold q1; rw [e0]; rfl
  have e2 : q2 s = (id, [BA (Lib.itoa bits), BA (Lib.itoa seq), BA (orW (lettersL o e a)), BA (dataL l)], false) := by
    unfold q2; rw [e1]; exact numberP_itoa _ h1 _
  have e3 : q3 s = (bits, [BA (Lib.itoa seq), BA (orW (lettersL o e a)), BA (dataL l)], false) := by
    unfold q3; rw [e2]; exact numberP_itoa _ h2 _
  have e4 : q4 s = (seq, [BA (orW (lettersL o e a)), BA (dataL l)], false) := by
    unfold q4; rw [e3]; exact numberP_itoa _ h3 _
  have e5 : q5 s = (BA (orW (lettersL o e a)), [BA (dataL l)], false) := by
    unfold q5; rw [e4]; rfl
  have e6 : q6 s = (l, [], false) := by
    unfold q6; rw [e5]; exact rdataP_text l []
  obtain ⟨x1, x2, x3⟩ := orW_has o e a
  have hq : qTr s = ⟨(k : Int), id, bits, seq, o, e, a, l⟩ := by
    unfold qTr
    rw [e1, e2, e3, e4, e5, e6]
    simp only [x1, x2, x3, kidx_kind k hk]
  unfold getTr
  rw [hq, e6]
  simp only []
  rw [if_pos]
  refine ⟨trivial, ?_⟩
  unfold transP
  rw [if_pos (by omega), ← hs]
  rfl
theorem getDg_trans (k : Nat) (id bits seq : Int) (o e a : Bool) (l : List UInt8) : (getDg (BA (joinB (trL k id bits seq o e a l)))).2 = 3 := by
  generalize hs : BA (joinB (trL k id bits seq o e a l)) = s
  have hr : g0 s = ([], true) := by
    unfold g0 readP splitP
    rw [splitP_sp, ← hs, BA_list]
    unfold trL joinB
    rw [join_sp 32 _ (by simp) (by
      intro w hw
      simp only [List.map_cons, List.map_nil, List.mem_cons, List.mem_nil_iff, or_false] at hw
      rcases hw with rfl | rfl | rfl | rfl | rfl | rfl | rfl
      · decide
      · exact kindW_no k
      · exact itoa_no32 _
      · exact itoa_no32 _
      · exact itoa_no32 _
      · exact orW_no o e a
      · exact dataL_no l)]
    simp only [List.map_cons, List.map_nil]
    rw [if_neg]
    rintro ⟨_, h⟩
    revert h
    decide
  have w2 : ∀ ws : List ByteArray, (wordP ws true).2.2 = true := fun ws => by cases ws <;> rfl
  have n2 : ∀ ws : List ByteArray, (numberP ws true).2.2 = true := fun ws => by unfold numberP; simp only [w2]; rfl
  have p2 : ∀ ws : List ByteArray, (ptP ws true).2.2 = true := fun ws => by unfold ptP; simp only [w2]; rfl
  have r2 : ∀ ws : List ByteArray, (rdataP ws true).2.2 = true := fun ws => by unfold rdataP; split <;> simp only [w2] <;> rfl
  have e1 : (g1 s).2.2 = true := by unfold g1; rw [hr]; exact n2 _
  have e2 : (g2 s).2.2 = true := by unfold g2; rw [e1]; exact p2 _
  have e3 : (g3 s).2.2 = true := by unfold g3; rw [e2]; exact p2 _
  have e4 : (g4 s).2.2 = true := by unfold g4; rw [e3]; exact n2 _
  have e5 : (g5 s).2.2 = true := by unfold g5; rw [e4]; exact w2 _
  have e6 : (g6 s).2.2 = true := by unfold g6; rw [e5]; exact r2 _
  unfold getDg gBad
  rw [e6]
  rfl
end Go.Proofs.YtkbmljagcondhaaGreatDoor
