/- The law WatchAgain, walked. -/
import Derived.Test.YtkbmljagcondhaaGreatDoorWLawN
open Go Go.RowKit
set_option linter.unusedSimpArgs false
set_option linter.unusedVariables false
namespace Go.Proofs.YtkbmljagcondhaaGreatDoor
theorem getTr_again (s : ByteArray) (h : (getTr s).2 = 0) : transP (getTr s).1.k (getTr s).1.id (getTr s).1.bits (getTr s).1.seq (getTr s).1.once (getTr s).1.en (getTr s).1.ask (getTr s).1.l = s.data.toList := by
  unfold getTr at h ⊢
  split
  · rename_i hc; exact hc.2
  · rename_i hc; rw [if_neg hc] at h; cases h
theorem wf0 : wf64 0 := by unfold wf64; omega
theorem getTr_wf (s : ByteArray) : wf64 (getTr s).1.k ∧ wf64 (getTr s).1.id ∧ wf64 (getTr s).1.bits ∧ wf64 (getTr s).1.seq := by
  unfold getTr
  split
  · exact ⟨kidx_bd _, wf_num _ _, wf_num _ _, wf_num _ _⟩
  · exact ⟨wf0, wf0, wf0, wf0⟩
theorem getFr_wf (s : ByteArray) : wf64 (getFr s).1.k ∧ wf64 (getFr s).1.id ∧ wf64 (getFr s).1.seq ∧ wf64 (getFr s).1.n := by
  unfold getFr
  split
  · exact ⟨wf0, wf0, wf0, wf0⟩
  · exact ⟨wf_num _ _, wf_num _ _, wf_num _ _, wf_num _ _⟩
theorem word_short {ws : List ByteArray} {wr : Bool} (h : Short ws) : Short (wordP ws wr).2.1 := (h.word wr).2
theorem getTr_short (s : ByteArray) (hs : s.size ≤ 50000) : (getTr s).1.l.length ≤ 1000000 := by
  have h0 : Short (q0 s).1 := readP_short s _ _ hs
  have h1 : Short (q1 s).2.1 := word_short h0
  have h2 : Short (q2 s).2.1 := word_short h1
  have h3 : Short (q3 s).2.1 := word_short h2
  have h4 : Short (q4 s).2.1 := word_short h3
  have h5 : Short (q5 s).2.1 := word_short h4
  unfold getTr
  split
  · exact (rdataP_short h5 _).2
  · exact Nat.zero_le _
theorem getFr_short (s : ByteArray) (hs : s.size ≤ 50000) : (getFr s).1.l.length ≤ 1000000 := by
  have a0 : Short (h0 s).1 := readP_short s _ _ hs
  have a1 : Short (h1 s).2.1 := word_short a0
  have a2 : Short (h2 s).2.1 := word_short a1
  have a3 : Short (h3 s).2.1 := word_short a2
  have a4 : Short (h4 s).2.1 := word_short a3
  unfold getFr
  split
  · exact Nat.zero_le _
  · exact (rdataP_short a4 _).2
theorem nmR_ok {a b z : ByteArray} {net node sock enum : Int} (h : nmE a b z net node sock enum = true) : nmR a b z net node sock enum = #[.string (BA (joinB (nmL a b z net node sock enum))), .int .i64 0] := by unfold nmR; rw [h]; rfl
theorem getNm_again (s : ByteArray) (h : (getNm s).2 = 0) : nmR (getNm s).1.a (getNm s).1.b (getNm s).1.z (getNm s).1.net (getNm s).1.node (getNm s).1.sock (getNm s).1.enum = #[.string (BA s.data.toList), .int .i64 0] := by
  unfold getNm at h ⊢
  split
  · rename_i hc
    unfold nmOk at hc
    simp only [Bool.and_eq_true, decide_eq_true_eq] at hc
    obtain ⟨⟨_, h1⟩, h2⟩ := hc
    exact (nmR_ok h1).trans (by rw [h2])
  · rename_i hc; rw [if_neg hc] at h; cases h
set_option maxRecDepth 100000 in
set_option maxHeartbeats 16000000 in
theorem again_c (s : ByteArray) (hs : s.size ≤ 3000) (w : World) (G : Glob w) : Calls Tryz.prog 5 #[.string s] w fun e w' => e = .returned (.bool true) ∧ Below w.heap.size w w' := by
  have S0 : Hid (Gw w w) := ⟨G, Below.refl _ _⟩
  have HS : Hid (s.size ≤ 50000) := (show s.size ≤ 50000 by omega)
  have hk : decide ((s.size : Int) > 3000) = false := by simp; omega
  have eS := str_same (a := BA s.data.toList) (b := s) rfl
  clear G hs
  go_enter Tryz.func5, Tryz.ntmps5
  go_wp2_with fail
  refine (getDatagram_c s HS.out _ S0.out.gl).mono ?_
  rintro e w1 ⟨A1, n1, c1, hn, he, hc, hrow, hw⟩
  have he' : e = .returned (.tuple #[.agg #[.int .i64 (getDg s).1.hops, .int .i64 (getDg s).1.dn, .int .i64 (getDg s).1.dd, .int .i64 (getDg s).1.sn, .int .i64 (getDg s).1.sd, .int .i64 (getDg s).1.ds, .int .i64 (getDg s).1.ss, .int .i64 (getDg s).1.ty, .slice A1 n1 c1, .bool (getDg s).1.sm], .int .i64 (getDg s).2]) := he
  subst he'
  have S1 : Hid (Gw w w1) := S0.out.below hw
  have R1 : Hid (Row (w1.alloc (.cells #[.int .i64 (getDg s).1.hops, .int .i64 (getDg s).1.dn, .int .i64 (getDg s).1.dd, .int .i64 (getDg s).1.sn, .int .i64 (getDg s).1.sd, .int .i64 (getDg s).1.ds, .int .i64 (getDg s).1.ss, .int .i64 (getDg s).1.ty, .slice A1 n1 c1, .bool (getDg s).1.sm] 43)) A1 (bts (getDg s).1.l) ∧ (getDg s).1.l.length = n1) := ⟨hrow.below ((Below.refl _ _).alloc (Nat.le_refl _) _), hn.symm⟩
  clear he hw hn hc hrow
  have T1 := Gw.alloc S1 (.cells #[.int .i64 (getDg s).1.hops, .int .i64 (getDg s).1.dn, .int .i64 (getDg s).1.dd, .int .i64 (getDg s).1.sn, .int .i64 (getDg s).1.sd, .int .i64 (getDg s).1.ds, .int .i64 (getDg s).1.ss, .int .i64 (getDg s).1.ty, .slice A1 n1 c1, .bool (getDg s).1.sm] 43)
  clear S1
  by_cases hz1 : (getDg s).2 = 0
  ·
    rw [hz1]
    have hag := getDg_again s hz1
    have hv : validB (getDg s).1.hops (getDg s).1.dn (getDg s).1.dd (getDg s).1.sn (getDg s).1.sd (getDg s).1.ds (getDg s).1.ss (getDg s).1.ty n1 = true := by rw [← R1.out.2]; exact hag.1
    have eR : dgR (getDg s).1.hops (getDg s).1.dn (getDg s).1.dd (getDg s).1.sn (getDg s).1.sd (getDg s).1.ds (getDg s).1.ss (getDg s).1.ty (getDg s).1.sm (getDg s).1.l n1 = #[.string (BA s.data.toList), .int .i64 0] := by rw [dgR, hv, if_pos rfl, hag.2]
    have ER := (show Hid _ from eR)
    clear hag hv eR hz1
    go_wp2_with fail
    refine (datagram_c _ _ _ _ _ _ _ _ _ A1 c1 n1 _ _ T1.out.gl R1.out.2 R1.out.1).mono ?_
    rintro e x1 ⟨rfl, hw⟩
    rw [ER.out]
    have U1 : Hid (Gw w x1) := T1.out.below hw
    clear hw T1 R1
    go_wp2_with fail
    refine (getTrans_c s HS.out _ U1.out.gl).mono ?_
    rintro e w2 ⟨A2, n2, c2, hn, he, hc, hrow, hw⟩
    have he' : e = .returned (.tuple #[.agg #[.int .i64 (getTr s).1.k, .int .i64 (getTr s).1.id, .int .i64 (getTr s).1.bits, .int .i64 (getTr s).1.seq, .bool (getTr s).1.once, .bool (getTr s).1.en, .bool (getTr s).1.ask, .slice A2 n2 c2], .int .i64 (getTr s).2]) := he
    subst he'
    have S2 : Hid (Gw w w2) := U1.out.below hw
    have R2 : Hid (Row (w2.alloc (.cells #[.int .i64 (getTr s).1.k, .int .i64 (getTr s).1.id, .int .i64 (getTr s).1.bits, .int .i64 (getTr s).1.seq, .bool (getTr s).1.once, .bool (getTr s).1.en, .bool (getTr s).1.ask, .slice A2 n2 c2] 63)) A2 (bts (getTr s).1.l) ∧ (getTr s).1.l.length = n2) := ⟨hrow.below ((Below.refl _ _).alloc (Nat.le_refl _) _), hn.symm⟩
    clear he hw hn hc hrow
    have T2 := Gw.alloc S2 (.cells #[.int .i64 (getTr s).1.k, .int .i64 (getTr s).1.id, .int .i64 (getTr s).1.bits, .int .i64 (getTr s).1.seq, .bool (getTr s).1.once, .bool (getTr s).1.en, .bool (getTr s).1.ask, .slice A2 n2 c2] 63)
    clear S2
    by_cases hz2 : (getTr s).2 = 0
    ·
      rw [hz2]
      have eL : transP (getTr s).1.k (getTr s).1.id (getTr s).1.bits (getTr s).1.seq (getTr s).1.once (getTr s).1.en (getTr s).1.ask (getTr s).1.l = s.data.toList := getTr_again s hz2
      have EL := (show Hid _ from eL)
      clear eL hz2
      go_wp2_with fail
      refine (transAny_c _ (getTr_wf s).1 _ _ _ _ _ _ A2 c2 n2 _ _ T2.out.gl (getTr_wf s).2.1 (getTr_wf s).2.2.1 (getTr_wf s).2.2.2 R2.out.2 (by rw [← R2.out.2]; exact getTr_short s HS.out) R2.out.1).mono ?_
      rintro e x2 ⟨rfl, hw⟩
      rw [EL.out]
      have U2 : Hid (Gw w x2) := T2.out.below hw
      clear hw T2 R2
      go_wp2_with fail
      refine (getFrame_c s HS.out _ U2.out.gl).mono ?_
      rintro e w3 ⟨A3, n3, c3, hn, he, hc, hrow, hw⟩
      have he' : e = .returned (.tuple #[.agg #[.int .i64 (getFr s).1.k, .int .i64 (getFr s).1.id, .int .i64 (getFr s).1.seq, .int .i64 (getFr s).1.n, .slice A3 n3 c3], .int .i64 (getFr s).2]) := he
      subst he'
      have S3 : Hid (Gw w w3) := U2.out.below hw
      have R3 : Hid (Row (w3.alloc (.cells #[.int .i64 (getFr s).1.k, .int .i64 (getFr s).1.id, .int .i64 (getFr s).1.seq, .int .i64 (getFr s).1.n, .slice A3 n3 c3] 45)) A3 (bts (getFr s).1.l) ∧ (getFr s).1.l.length = n3) := ⟨hrow.below ((Below.refl _ _).alloc (Nat.le_refl _) _), hn.symm⟩
      clear he hw hn hc hrow
      have T3 := Gw.alloc S3 (.cells #[.int .i64 (getFr s).1.k, .int .i64 (getFr s).1.id, .int .i64 (getFr s).1.seq, .int .i64 (getFr s).1.n, .slice A3 n3 c3] 45)
      clear S3
      by_cases hz3 : (getFr s).2 = 0
      ·
        rw [hz3]
        have eL := getFr_again s hz3
        have EL := (show Hid _ from eL)
        clear eL hz3
        go_wp2_with fail
        refine (frame_c _ _ _ _ A3 c3 n3 _ _ T3.out.gl (getFr_wf s).1 (getFr_wf s).2.1 (getFr_wf s).2.2.1 (getFr_wf s).2.2.2 R3.out.2 (by rw [← R3.out.2]; exact getFr_short s HS.out) R3.out.1).mono ?_
        rintro e x3 ⟨rfl, hw⟩
        rw [EL.out]
        have U3 : Hid (Gw w x3) := T3.out.below hw
        clear hw T3 R3
        go_wp2_with fail
        refine (getName_c s HS.out _ U3.out.gl).mono ?_
        rintro e w4 ⟨he, hw⟩
        have he' : e = .returned (.tuple #[.agg #[.string (getNm s).1.a, .string (getNm s).1.b, .string (getNm s).1.z, .int .i64 (getNm s).1.net, .int .i64 (getNm s).1.node, .int .i64 (getNm s).1.sock, .int .i64 (getNm s).1.enum], .int .i64 (getNm s).2]) := he
        subst he'
        have S4 : Hid (Gw w w4) := U3.out.below hw
        clear he hw
        have T4 := Gw.alloc S4 (.cells #[.string (getNm s).1.a, .string (getNm s).1.b, .string (getNm s).1.z, .int .i64 (getNm s).1.net, .int .i64 (getNm s).1.node, .int .i64 (getNm s).1.sock, .int .i64 (getNm s).1.enum] 49)
        clear S4
        by_cases hz4 : (getNm s).2 = 0
        ·
          rw [hz4]
          have eR : nmR (getNm s).1.a (getNm s).1.b (getNm s).1.z (getNm s).1.net (getNm s).1.node (getNm s).1.sock (getNm s).1.enum = #[.string (BA s.data.toList), .int .i64 0] := getNm_again s hz4
          have ER := (show Hid _ from eR)
          clear eR hz4
          go_wp2_with fail
          refine (name_c _ _ _ _ _ _ _ _ T4.out.gl).mono ?_
          rintro e x4 ⟨rfl, hw⟩
          rw [ER.out]
          have U4 : Hid (Gw w x4) := T4.out.below hw
          clear hw T4
          go_wp2_with fail
          refine (first_c _ U4.out.gl).mono ?_
          rintro e wz ⟨rfl, hwz⟩
          have SZ : Hid (Gw w wz) := U4.out.below hwz
          clear hwz
          go_wp2_with fail
          go_ret
          exact ⟨rfl, SZ.out.o⟩
        ·
          have e0 : ((getNm s).2 == 0) = false := by simpa using hz4
          clear hz4
          go_wp2_with fail
          clear e0
          refine (first_c _ T4.out.gl).mono ?_
          rintro e wz ⟨rfl, hwz⟩
          have SZ : Hid (Gw w wz) := T4.out.below hwz
          clear hwz
          go_wp2_with fail
          go_ret
          exact ⟨rfl, SZ.out.o⟩
      ·
        have e0 : ((getFr s).2 == 0) = false := by simpa using hz3
        clear hz3
        clear R3
        go_wp2_with fail
        clear e0
        refine (getName_c s HS.out _ T3.out.gl).mono ?_
        rintro e w5 ⟨he, hw⟩
        have he' : e = .returned (.tuple #[.agg #[.string (getNm s).1.a, .string (getNm s).1.b, .string (getNm s).1.z, .int .i64 (getNm s).1.net, .int .i64 (getNm s).1.node, .int .i64 (getNm s).1.sock, .int .i64 (getNm s).1.enum], .int .i64 (getNm s).2]) := he
        subst he'
        have S5 : Hid (Gw w w5) := T3.out.below hw
        clear he hw
        have T5 := Gw.alloc S5 (.cells #[.string (getNm s).1.a, .string (getNm s).1.b, .string (getNm s).1.z, .int .i64 (getNm s).1.net, .int .i64 (getNm s).1.node, .int .i64 (getNm s).1.sock, .int .i64 (getNm s).1.enum] 49)
        clear S5
        by_cases hz5 : (getNm s).2 = 0
        ·
          rw [hz5]
          have eR : nmR (getNm s).1.a (getNm s).1.b (getNm s).1.z (getNm s).1.net (getNm s).1.node (getNm s).1.sock (getNm s).1.enum = #[.string (BA s.data.toList), .int .i64 0] := getNm_again s hz5
          have ER := (show Hid _ from eR)
          clear eR hz5
          go_wp2_with fail
          refine (name_c _ _ _ _ _ _ _ _ T5.out.gl).mono ?_
          rintro e x5 ⟨rfl, hw⟩
          rw [ER.out]
          have U5 : Hid (Gw w x5) := T5.out.below hw
          clear hw T5
          go_wp2_with fail
          refine (first_c _ U5.out.gl).mono ?_
          rintro e wz ⟨rfl, hwz⟩
          have SZ : Hid (Gw w wz) := U5.out.below hwz
          clear hwz
          go_wp2_with fail
          go_ret
          exact ⟨rfl, SZ.out.o⟩
        ·
          have e0 : ((getNm s).2 == 0) = false := by simpa using hz5
          clear hz5
          go_wp2_with fail
          clear e0
          refine (first_c _ T5.out.gl).mono ?_
          rintro e wz ⟨rfl, hwz⟩
          have SZ : Hid (Gw w wz) := T5.out.below hwz
          clear hwz
          go_wp2_with fail
          go_ret
          exact ⟨rfl, SZ.out.o⟩
    ·
      have e0 : ((getTr s).2 == 0) = false := by simpa using hz2
      clear hz2
      clear R2
      go_wp2_with fail
      clear e0
      refine (getFrame_c s HS.out _ T2.out.gl).mono ?_
      rintro e w6 ⟨A6, n6, c6, hn, he, hc, hrow, hw⟩
      have he' : e = .returned (.tuple #[.agg #[.int .i64 (getFr s).1.k, .int .i64 (getFr s).1.id, .int .i64 (getFr s).1.seq, .int .i64 (getFr s).1.n, .slice A6 n6 c6], .int .i64 (getFr s).2]) := he
      subst he'
      have S6 : Hid (Gw w w6) := T2.out.below hw
      have R6 : Hid (Row (w6.alloc (.cells #[.int .i64 (getFr s).1.k, .int .i64 (getFr s).1.id, .int .i64 (getFr s).1.seq, .int .i64 (getFr s).1.n, .slice A6 n6 c6] 45)) A6 (bts (getFr s).1.l) ∧ (getFr s).1.l.length = n6) := ⟨hrow.below ((Below.refl _ _).alloc (Nat.le_refl _) _), hn.symm⟩
      clear he hw hn hc hrow
      have T6 := Gw.alloc S6 (.cells #[.int .i64 (getFr s).1.k, .int .i64 (getFr s).1.id, .int .i64 (getFr s).1.seq, .int .i64 (getFr s).1.n, .slice A6 n6 c6] 45)
      clear S6
      by_cases hz6 : (getFr s).2 = 0
      ·
        rw [hz6]
        have eL := getFr_again s hz6
        have EL := (show Hid _ from eL)
        clear eL hz6
        go_wp2_with fail
        refine (frame_c _ _ _ _ A6 c6 n6 _ _ T6.out.gl (getFr_wf s).1 (getFr_wf s).2.1 (getFr_wf s).2.2.1 (getFr_wf s).2.2.2 R6.out.2 (by rw [← R6.out.2]; exact getFr_short s HS.out) R6.out.1).mono ?_
        rintro e x6 ⟨rfl, hw⟩
        rw [EL.out]
        have U6 : Hid (Gw w x6) := T6.out.below hw
        clear hw T6 R6
        go_wp2_with fail
        refine (getName_c s HS.out _ U6.out.gl).mono ?_
        rintro e w7 ⟨he, hw⟩
        have he' : e = .returned (.tuple #[.agg #[.string (getNm s).1.a, .string (getNm s).1.b, .string (getNm s).1.z, .int .i64 (getNm s).1.net, .int .i64 (getNm s).1.node, .int .i64 (getNm s).1.sock, .int .i64 (getNm s).1.enum], .int .i64 (getNm s).2]) := he
        subst he'
        have S7 : Hid (Gw w w7) := U6.out.below hw
        clear he hw
        have T7 := Gw.alloc S7 (.cells #[.string (getNm s).1.a, .string (getNm s).1.b, .string (getNm s).1.z, .int .i64 (getNm s).1.net, .int .i64 (getNm s).1.node, .int .i64 (getNm s).1.sock, .int .i64 (getNm s).1.enum] 49)
        clear S7
        by_cases hz7 : (getNm s).2 = 0
        ·
          rw [hz7]
          have eR : nmR (getNm s).1.a (getNm s).1.b (getNm s).1.z (getNm s).1.net (getNm s).1.node (getNm s).1.sock (getNm s).1.enum = #[.string (BA s.data.toList), .int .i64 0] := getNm_again s hz7
          have ER := (show Hid _ from eR)
          clear eR hz7
          go_wp2_with fail
          refine (name_c _ _ _ _ _ _ _ _ T7.out.gl).mono ?_
          rintro e x7 ⟨rfl, hw⟩
          rw [ER.out]
          have U7 : Hid (Gw w x7) := T7.out.below hw
          clear hw T7
          go_wp2_with fail
          refine (first_c _ U7.out.gl).mono ?_
          rintro e wz ⟨rfl, hwz⟩
          have SZ : Hid (Gw w wz) := U7.out.below hwz
          clear hwz
          go_wp2_with fail
          go_ret
          exact ⟨rfl, SZ.out.o⟩
        ·
          have e0 : ((getNm s).2 == 0) = false := by simpa using hz7
          clear hz7
          go_wp2_with fail
          clear e0
          refine (first_c _ T7.out.gl).mono ?_
          rintro e wz ⟨rfl, hwz⟩
          have SZ : Hid (Gw w wz) := T7.out.below hwz
          clear hwz
          go_wp2_with fail
          go_ret
          exact ⟨rfl, SZ.out.o⟩
      ·
        have e0 : ((getFr s).2 == 0) = false := by simpa using hz6
        clear hz6
        clear R6
        go_wp2_with fail
        clear e0
        refine (getName_c s HS.out _ T6.out.gl).mono ?_
        rintro e w8 ⟨he, hw⟩
        have he' : e = .returned (.tuple #[.agg #[.string (getNm s).1.a, .string (getNm s).1.b, .string (getNm s).1.z, .int .i64 (getNm s).1.net, .int .i64 (getNm s).1.node, .int .i64 (getNm s).1.sock, .int .i64 (getNm s).1.enum], .int .i64 (getNm s).2]) := he
        subst he'
        have S8 : Hid (Gw w w8) := T6.out.below hw
        clear he hw
        have T8 := Gw.alloc S8 (.cells #[.string (getNm s).1.a, .string (getNm s).1.b, .string (getNm s).1.z, .int .i64 (getNm s).1.net, .int .i64 (getNm s).1.node, .int .i64 (getNm s).1.sock, .int .i64 (getNm s).1.enum] 49)
        clear S8
        by_cases hz8 : (getNm s).2 = 0
        ·
          rw [hz8]
          have eR : nmR (getNm s).1.a (getNm s).1.b (getNm s).1.z (getNm s).1.net (getNm s).1.node (getNm s).1.sock (getNm s).1.enum = #[.string (BA s.data.toList), .int .i64 0] := getNm_again s hz8
          have ER := (show Hid _ from eR)
          clear eR hz8
          go_wp2_with fail
          refine (name_c _ _ _ _ _ _ _ _ T8.out.gl).mono ?_
          rintro e x8 ⟨rfl, hw⟩
          rw [ER.out]
          have U8 : Hid (Gw w x8) := T8.out.below hw
          clear hw T8
          go_wp2_with fail
          refine (first_c _ U8.out.gl).mono ?_
          rintro e wz ⟨rfl, hwz⟩
          have SZ : Hid (Gw w wz) := U8.out.below hwz
          clear hwz
          go_wp2_with fail
          go_ret
          exact ⟨rfl, SZ.out.o⟩
        ·
          have e0 : ((getNm s).2 == 0) = false := by simpa using hz8
          clear hz8
          go_wp2_with fail
          clear e0
          refine (first_c _ T8.out.gl).mono ?_
          rintro e wz ⟨rfl, hwz⟩
          have SZ : Hid (Gw w wz) := T8.out.below hwz
          clear hwz
          go_wp2_with fail
          go_ret
          exact ⟨rfl, SZ.out.o⟩
  ·
    have e0 : ((getDg s).2 == 0) = false := by simpa using hz1
    clear hz1
    clear R1
    go_wp2_with fail
    clear e0
    refine (getTrans_c s HS.out _ T1.out.gl).mono ?_
    rintro e w9 ⟨A9, n9, c9, hn, he, hc, hrow, hw⟩
    have he' : e = .returned (.tuple #[.agg #[.int .i64 (getTr s).1.k, .int .i64 (getTr s).1.id, .int .i64 (getTr s).1.bits, .int .i64 (getTr s).1.seq, .bool (getTr s).1.once, .bool (getTr s).1.en, .bool (getTr s).1.ask, .slice A9 n9 c9], .int .i64 (getTr s).2]) := he
    subst he'
    have S9 : Hid (Gw w w9) := T1.out.below hw
    have R9 : Hid (Row (w9.alloc (.cells #[.int .i64 (getTr s).1.k, .int .i64 (getTr s).1.id, .int .i64 (getTr s).1.bits, .int .i64 (getTr s).1.seq, .bool (getTr s).1.once, .bool (getTr s).1.en, .bool (getTr s).1.ask, .slice A9 n9 c9] 63)) A9 (bts (getTr s).1.l) ∧ (getTr s).1.l.length = n9) := ⟨hrow.below ((Below.refl _ _).alloc (Nat.le_refl _) _), hn.symm⟩
    clear he hw hn hc hrow
    have T9 := Gw.alloc S9 (.cells #[.int .i64 (getTr s).1.k, .int .i64 (getTr s).1.id, .int .i64 (getTr s).1.bits, .int .i64 (getTr s).1.seq, .bool (getTr s).1.once, .bool (getTr s).1.en, .bool (getTr s).1.ask, .slice A9 n9 c9] 63)
    clear S9
    by_cases hz9 : (getTr s).2 = 0
    ·
      rw [hz9]
      have eL : transP (getTr s).1.k (getTr s).1.id (getTr s).1.bits (getTr s).1.seq (getTr s).1.once (getTr s).1.en (getTr s).1.ask (getTr s).1.l = s.data.toList := getTr_again s hz9
      have EL := (show Hid _ from eL)
      clear eL hz9
      go_wp2_with fail
      refine (transAny_c _ (getTr_wf s).1 _ _ _ _ _ _ A9 c9 n9 _ _ T9.out.gl (getTr_wf s).2.1 (getTr_wf s).2.2.1 (getTr_wf s).2.2.2 R9.out.2 (by rw [← R9.out.2]; exact getTr_short s HS.out) R9.out.1).mono ?_
      rintro e x9 ⟨rfl, hw⟩
      rw [EL.out]
      have U9 : Hid (Gw w x9) := T9.out.below hw
      clear hw T9 R9
      go_wp2_with fail
      refine (getFrame_c s HS.out _ U9.out.gl).mono ?_
      rintro e w10 ⟨A10, n10, c10, hn, he, hc, hrow, hw⟩
      have he' : e = .returned (.tuple #[.agg #[.int .i64 (getFr s).1.k, .int .i64 (getFr s).1.id, .int .i64 (getFr s).1.seq, .int .i64 (getFr s).1.n, .slice A10 n10 c10], .int .i64 (getFr s).2]) := he
      subst he'
      have S10 : Hid (Gw w w10) := U9.out.below hw
      have R10 : Hid (Row (w10.alloc (.cells #[.int .i64 (getFr s).1.k, .int .i64 (getFr s).1.id, .int .i64 (getFr s).1.seq, .int .i64 (getFr s).1.n, .slice A10 n10 c10] 45)) A10 (bts (getFr s).1.l) ∧ (getFr s).1.l.length = n10) := ⟨hrow.below ((Below.refl _ _).alloc (Nat.le_refl _) _), hn.symm⟩
      clear he hw hn hc hrow
      have T10 := Gw.alloc S10 (.cells #[.int .i64 (getFr s).1.k, .int .i64 (getFr s).1.id, .int .i64 (getFr s).1.seq, .int .i64 (getFr s).1.n, .slice A10 n10 c10] 45)
      clear S10
      by_cases hz10 : (getFr s).2 = 0
      ·
        rw [hz10]
        have eL := getFr_again s hz10
        have EL := (show Hid _ from eL)
        clear eL hz10
        go_wp2_with fail
        refine (frame_c _ _ _ _ A10 c10 n10 _ _ T10.out.gl (getFr_wf s).1 (getFr_wf s).2.1 (getFr_wf s).2.2.1 (getFr_wf s).2.2.2 R10.out.2 (by rw [← R10.out.2]; exact getFr_short s HS.out) R10.out.1).mono ?_
        rintro e x10 ⟨rfl, hw⟩
        rw [EL.out]
        have U10 : Hid (Gw w x10) := T10.out.below hw
        clear hw T10 R10
        go_wp2_with fail
        refine (getName_c s HS.out _ U10.out.gl).mono ?_
        rintro e w11 ⟨he, hw⟩
        have he' : e = .returned (.tuple #[.agg #[.string (getNm s).1.a, .string (getNm s).1.b, .string (getNm s).1.z, .int .i64 (getNm s).1.net, .int .i64 (getNm s).1.node, .int .i64 (getNm s).1.sock, .int .i64 (getNm s).1.enum], .int .i64 (getNm s).2]) := he
        subst he'
        have S11 : Hid (Gw w w11) := U10.out.below hw
        clear he hw
        have T11 := Gw.alloc S11 (.cells #[.string (getNm s).1.a, .string (getNm s).1.b, .string (getNm s).1.z, .int .i64 (getNm s).1.net, .int .i64 (getNm s).1.node, .int .i64 (getNm s).1.sock, .int .i64 (getNm s).1.enum] 49)
        clear S11
        by_cases hz11 : (getNm s).2 = 0
        ·
          rw [hz11]
          have eR : nmR (getNm s).1.a (getNm s).1.b (getNm s).1.z (getNm s).1.net (getNm s).1.node (getNm s).1.sock (getNm s).1.enum = #[.string (BA s.data.toList), .int .i64 0] := getNm_again s hz11
          have ER := (show Hid _ from eR)
          clear eR hz11
          go_wp2_with fail
          refine (name_c _ _ _ _ _ _ _ _ T11.out.gl).mono ?_
          rintro e x11 ⟨rfl, hw⟩
          rw [ER.out]
          have U11 : Hid (Gw w x11) := T11.out.below hw
          clear hw T11
          go_wp2_with fail
          refine (first_c _ U11.out.gl).mono ?_
          rintro e wz ⟨rfl, hwz⟩
          have SZ : Hid (Gw w wz) := U11.out.below hwz
          clear hwz
          go_wp2_with fail
          go_ret
          exact ⟨rfl, SZ.out.o⟩
        ·
          have e0 : ((getNm s).2 == 0) = false := by simpa using hz11
          clear hz11
          go_wp2_with fail
          clear e0
          refine (first_c _ T11.out.gl).mono ?_
          rintro e wz ⟨rfl, hwz⟩
          have SZ : Hid (Gw w wz) := T11.out.below hwz
          clear hwz
          go_wp2_with fail
          go_ret
          exact ⟨rfl, SZ.out.o⟩
      ·
        have e0 : ((getFr s).2 == 0) = false := by simpa using hz10
        clear hz10
        clear R10
        go_wp2_with fail
        clear e0
        refine (getName_c s HS.out _ T10.out.gl).mono ?_
        rintro e w12 ⟨he, hw⟩
        have he' : e = .returned (.tuple #[.agg #[.string (getNm s).1.a, .string (getNm s).1.b, .string (getNm s).1.z, .int .i64 (getNm s).1.net, .int .i64 (getNm s).1.node, .int .i64 (getNm s).1.sock, .int .i64 (getNm s).1.enum], .int .i64 (getNm s).2]) := he
        subst he'
        have S12 : Hid (Gw w w12) := T10.out.below hw
        clear he hw
        have T12 := Gw.alloc S12 (.cells #[.string (getNm s).1.a, .string (getNm s).1.b, .string (getNm s).1.z, .int .i64 (getNm s).1.net, .int .i64 (getNm s).1.node, .int .i64 (getNm s).1.sock, .int .i64 (getNm s).1.enum] 49)
        clear S12
        by_cases hz12 : (getNm s).2 = 0
        ·
          rw [hz12]
          have eR : nmR (getNm s).1.a (getNm s).1.b (getNm s).1.z (getNm s).1.net (getNm s).1.node (getNm s).1.sock (getNm s).1.enum = #[.string (BA s.data.toList), .int .i64 0] := getNm_again s hz12
          have ER := (show Hid _ from eR)
          clear eR hz12
          go_wp2_with fail
          refine (name_c _ _ _ _ _ _ _ _ T12.out.gl).mono ?_
          rintro e x12 ⟨rfl, hw⟩
          rw [ER.out]
          have U12 : Hid (Gw w x12) := T12.out.below hw
          clear hw T12
          go_wp2_with fail
          refine (first_c _ U12.out.gl).mono ?_
          rintro e wz ⟨rfl, hwz⟩
          have SZ : Hid (Gw w wz) := U12.out.below hwz
          clear hwz
          go_wp2_with fail
          go_ret
          exact ⟨rfl, SZ.out.o⟩
        ·
          have e0 : ((getNm s).2 == 0) = false := by simpa using hz12
          clear hz12
          go_wp2_with fail
          clear e0
          refine (first_c _ T12.out.gl).mono ?_
          rintro e wz ⟨rfl, hwz⟩
          have SZ : Hid (Gw w wz) := T12.out.below hwz
          clear hwz
          go_wp2_with fail
          go_ret
          exact ⟨rfl, SZ.out.o⟩
    ·
      have e0 : ((getTr s).2 == 0) = false := by simpa using hz9
      clear hz9
      clear R9
      go_wp2_with fail
      clear e0
      refine (getFrame_c s HS.out _ T9.out.gl).mono ?_
      rintro e w13 ⟨A13, n13, c13, hn, he, hc, hrow, hw⟩
      have he' : e = .returned (.tuple #[.agg #[.int .i64 (getFr s).1.k, .int .i64 (getFr s).1.id, .int .i64 (getFr s).1.seq, .int .i64 (getFr s).1.n, .slice A13 n13 c13], .int .i64 (getFr s).2]) := he
      subst he'
      have S13 : Hid (Gw w w13) := T9.out.below hw
      have R13 : Hid (Row (w13.alloc (.cells #[.int .i64 (getFr s).1.k, .int .i64 (getFr s).1.id, .int .i64 (getFr s).1.seq, .int .i64 (getFr s).1.n, .slice A13 n13 c13] 45)) A13 (bts (getFr s).1.l) ∧ (getFr s).1.l.length = n13) := ⟨hrow.below ((Below.refl _ _).alloc (Nat.le_refl _) _), hn.symm⟩
      clear he hw hn hc hrow
      have T13 := Gw.alloc S13 (.cells #[.int .i64 (getFr s).1.k, .int .i64 (getFr s).1.id, .int .i64 (getFr s).1.seq, .int .i64 (getFr s).1.n, .slice A13 n13 c13] 45)
      clear S13
      by_cases hz13 : (getFr s).2 = 0
      ·
        rw [hz13]
        have eL := getFr_again s hz13
        have EL := (show Hid _ from eL)
        clear eL hz13
        go_wp2_with fail
        refine (frame_c _ _ _ _ A13 c13 n13 _ _ T13.out.gl (getFr_wf s).1 (getFr_wf s).2.1 (getFr_wf s).2.2.1 (getFr_wf s).2.2.2 R13.out.2 (by rw [← R13.out.2]; exact getFr_short s HS.out) R13.out.1).mono ?_
        rintro e x13 ⟨rfl, hw⟩
        rw [EL.out]
        have U13 : Hid (Gw w x13) := T13.out.below hw
        clear hw T13 R13
        go_wp2_with fail
        refine (getName_c s HS.out _ U13.out.gl).mono ?_
        rintro e w14 ⟨he, hw⟩
        have he' : e = .returned (.tuple #[.agg #[.string (getNm s).1.a, .string (getNm s).1.b, .string (getNm s).1.z, .int .i64 (getNm s).1.net, .int .i64 (getNm s).1.node, .int .i64 (getNm s).1.sock, .int .i64 (getNm s).1.enum], .int .i64 (getNm s).2]) := he
        subst he'
        have S14 : Hid (Gw w w14) := U13.out.below hw
        clear he hw
        have T14 := Gw.alloc S14 (.cells #[.string (getNm s).1.a, .string (getNm s).1.b, .string (getNm s).1.z, .int .i64 (getNm s).1.net, .int .i64 (getNm s).1.node, .int .i64 (getNm s).1.sock, .int .i64 (getNm s).1.enum] 49)
        clear S14
        by_cases hz14 : (getNm s).2 = 0
        ·
          rw [hz14]
          have eR : nmR (getNm s).1.a (getNm s).1.b (getNm s).1.z (getNm s).1.net (getNm s).1.node (getNm s).1.sock (getNm s).1.enum = #[.string (BA s.data.toList), .int .i64 0] := getNm_again s hz14
          have ER := (show Hid _ from eR)
          clear eR hz14
          go_wp2_with fail
          refine (name_c _ _ _ _ _ _ _ _ T14.out.gl).mono ?_
          rintro e x14 ⟨rfl, hw⟩
          rw [ER.out]
          have U14 : Hid (Gw w x14) := T14.out.below hw
          clear hw T14
          go_wp2_with fail
          refine (first_c _ U14.out.gl).mono ?_
          rintro e wz ⟨rfl, hwz⟩
          have SZ : Hid (Gw w wz) := U14.out.below hwz
          clear hwz
          go_wp2_with fail
          go_ret
          exact ⟨rfl, SZ.out.o⟩
        ·
          have e0 : ((getNm s).2 == 0) = false := by simpa using hz14
          clear hz14
          go_wp2_with fail
          clear e0
          refine (first_c _ T14.out.gl).mono ?_
          rintro e wz ⟨rfl, hwz⟩
          have SZ : Hid (Gw w wz) := T14.out.below hwz
          clear hwz
          go_wp2_with fail
          go_ret
          exact ⟨rfl, SZ.out.o⟩
      ·
        have e0 : ((getFr s).2 == 0) = false := by simpa using hz13
        clear hz13
        clear R13
        go_wp2_with fail
        clear e0
        refine (getName_c s HS.out _ T13.out.gl).mono ?_
        rintro e w15 ⟨he, hw⟩
        have he' : e = .returned (.tuple #[.agg #[.string (getNm s).1.a, .string (getNm s).1.b, .string (getNm s).1.z, .int .i64 (getNm s).1.net, .int .i64 (getNm s).1.node, .int .i64 (getNm s).1.sock, .int .i64 (getNm s).1.enum], .int .i64 (getNm s).2]) := he
        subst he'
        have S15 : Hid (Gw w w15) := T13.out.below hw
        clear he hw
        have T15 := Gw.alloc S15 (.cells #[.string (getNm s).1.a, .string (getNm s).1.b, .string (getNm s).1.z, .int .i64 (getNm s).1.net, .int .i64 (getNm s).1.node, .int .i64 (getNm s).1.sock, .int .i64 (getNm s).1.enum] 49)
        clear S15
        by_cases hz15 : (getNm s).2 = 0
        ·
          rw [hz15]
          have eR : nmR (getNm s).1.a (getNm s).1.b (getNm s).1.z (getNm s).1.net (getNm s).1.node (getNm s).1.sock (getNm s).1.enum = #[.string (BA s.data.toList), .int .i64 0] := getNm_again s hz15
          have ER := (show Hid _ from eR)
          clear eR hz15
          go_wp2_with fail
          refine (name_c _ _ _ _ _ _ _ _ T15.out.gl).mono ?_
          rintro e x15 ⟨rfl, hw⟩
          rw [ER.out]
          have U15 : Hid (Gw w x15) := T15.out.below hw
          clear hw T15
          go_wp2_with fail
          refine (first_c _ U15.out.gl).mono ?_
          rintro e wz ⟨rfl, hwz⟩
          have SZ : Hid (Gw w wz) := U15.out.below hwz
          clear hwz
          go_wp2_with fail
          go_ret
          exact ⟨rfl, SZ.out.o⟩
        ·
          have e0 : ((getNm s).2 == 0) = false := by simpa using hz15
          clear hz15
          go_wp2_with fail
          clear e0
          refine (first_c _ T15.out.gl).mono ?_
          rintro e wz ⟨rfl, hwz⟩
          have SZ : Hid (Gw w wz) := T15.out.below hwz
          clear hwz
          go_wp2_with fail
          go_ret
          exact ⟨rfl, SZ.out.o⟩
set_option maxRecDepth 100000 in
theorem again_long (s : ByteArray) (hs : 3000 < s.size) (w : World) (G : Glob w) : Calls Tryz.prog 5 #[.string s] w fun e w' => e = .returned (.bool true) ∧ Below w.heap.size w w' := by
  have HG : Hid (Glob w) := G
  have hk : decide ((s.size : Int) > 3000) = true := by simp; omega
  clear G hs
  go_enter Tryz.func5, Tryz.ntmps5
  go_wp2_with fail
  refine (first_c w HG.out).mono ?_
  rintro e w1 ⟨rfl, hw⟩
  have HW : Hid (Below w.heap.size w w1) := hw
  clear hw
  go_wp2_with fail
  go_ret
  exact ⟨rfl, HW.out⟩
theorem again_all (s : ByteArray) (w : World) (G : Glob w) : Calls Tryz.prog 5 #[.string s] w fun e w' => e = .returned (.bool true) ∧ Below w.heap.size w w' := by
  by_cases h : s.size ≤ 3000
  · exact again_c s h w G
  · exact again_long s (by omega) w G
end Go.Proofs.YtkbmljagcondhaaGreatDoor
