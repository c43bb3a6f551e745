/- watch.GetTrans, walked. -/
import Derived.Test.YtkbmljagcondhaaGreatDoorWTrans2
open Go Go.RowKit
set_option linter.unusedSimpArgs false
set_option linter.unusedVariables false
namespace Go.Proofs.YtkbmljagcondhaaGreatDoor
structure Tr where
  k : Int
  id : Int
  bits : Int
  seq : Int
  once : Bool
  en : Bool
  ask : Bool
  l : List UInt8
def Tr.cells (p : Tr) (A : Option Addr) (n c : Nat) : Array Value := #[.int .i64 p.k, .int .i64 p.id, .int .i64 p.bits, .int .i64 p.seq, .bool p.once, .bool p.en, .bool p.ask, .slice A n c]
def Tr.zero : Tr := ⟨0, 0, 0, 0, false, false, false, []⟩
def q0 (s : ByteArray) : List ByteArray × Bool := readP s ⟨#[84]⟩ 7
def q1 (s : ByteArray) := wordP (q0 s).1 (q0 s).2
def q2 (s : ByteArray) := numberP (q1 s).2.1 (q1 s).2.2
def q3 (s : ByteArray) := numberP (q2 s).2.1 (q2 s).2.2
def q4 (s : ByteArray) := numberP (q3 s).2.1 (q3 s).2.2
def q5 (s : ByteArray) := wordP (q4 s).2.1 (q4 s).2.2
def q6 (s : ByteArray) := rdataP (q5 s).2.1 (q5 s).2.2
def qTr (s : ByteArray) : Tr := ⟨kidx (q1 s).1, (q2 s).1, (q3 s).1, (q4 s).1, hasB (q5 s).1 111, hasB (q5 s).1 101, hasB (q5 s).1 97, (q6 s).1⟩
def getTr (s : ByteArray) : Tr × Int :=
  if (q6 s).2.2 = false ∧ transP (qTr s).k (qTr s).id (qTr s).bits (qTr s).seq (qTr s).once (qTr s).en (qTr s).ask (qTr s).l = s.data.toList then (qTr s, 0) else (Tr.zero, 3)
def TrEnd (r : Tr × Int) (w : World) (e : Ending) (w' : World) : Prop :=
  ∃ A n c, n = r.1.l.length ∧ e = .returned (.tuple #[.agg (r.1.cells A n c), .int .i64 r.2]) ∧ n ≤ c ∧ Row w' A (bts r.1.l) ∧ Below w.heap.size w w'
set_option maxRecDepth 100000 in
set_option maxHeartbeats 4000000 in
theorem getTrans_c (s : ByteArray) (hs : s.size ≤ 50000) (w : World) (G : Glob w) : Calls Tryz.prog 25 #[.string s] w (TrEnd (getTr s) w) := by
  have hb0 : Below w.heap.size w (w.alloc (.cells #[.int .i64 0, .int .i64 0, .int .i64 0, .int .i64 0, .bool false, .bool false, .bool false, .slice none 0 0] 63)) := (Below.refl _ _).alloc (Nat.le_refl _) _
  have HG0 : Hid (Glob (w.alloc (.cells #[.int .i64 0, .int .i64 0, .int .i64 0, .int .i64 0, .bool false, .bool false, .bool false, .slice none 0 0] 63))) := G.below hb0 G.low
  have L8 : Hid (8 ≤ w.heap.size) := G.low
  have HS : Hid (s.size ≤ 50000) := hs
  clear G hs hb0
  go_enter Tryz.func25, Tryz.ntmps25
  go_wp2_with fail
  refine (read_c s ⟨#[84]⟩ 7 HS.out _ HG0.out).mono ?_
  rintro e w1 ⟨b, rfl, hb, hR1, hw1⟩
  have hz : w.heap.size + 1 ≤ w1.heap.size := by have := hw1.size; simpa using this
  have hb' : w.heap.size + 1 ≤ b := by simpa using hb
  have hbl : b < w1.heap.size := blk_lt hR1.at_.choose_spec.choose_spec.1
  have h1 : Below w1.heap.size w1 (w1.alloc (.cells #[.int .i64 0, .int .i64 0, .int .i64 0, .int .i64 0, .bool false, .bool false, .bool false, .slice none 0 0] 63)) := (Below.refl _ _).alloc (Nat.le_refl _) _
  have HZ : Hid (w.heap.size + 1 ≤ w1.heap.size ∧ w.heap.size + 1 ≤ b ∧ b < w1.heap.size) := ⟨hz, hb', hbl⟩
  have S0 : Hid (GdSt w w.heap.size w1.heap.size 63 63 #[.int .i64 0, .int .i64 0, .int .i64 0, .int .i64 0, .bool false, .bool false, .bool false, .slice none 0 0] #[.int .i64 0, .int .i64 0, .int .i64 0, .int .i64 0, .bool false, .bool false, .bool false, .slice none 0 0] b (q0 s).1 (q0 s).2 (w1.alloc (.cells #[.int .i64 0, .int .i64 0, .int .i64 0, .int .i64 0, .bool false, .bool false, .bool false, .slice none 0 0] 63))) :=
    ⟨(HG0.out.below hw1 HG0.out.low).below h1 (HG0.out.below hw1 HG0.out.low).low, hR1.below h1, readP_short s _ _ HS.out, (((Below.refl _ _).alloc (Nat.le_refl _) _).trans (hw1.mono (by simp))).trans (h1.mono (by omega)),
     blk_below (blk_below (blk_new w _) hw1 (by simp)) h1 (by omega), blk_new _ _, ⟨by omega, by omega, by omega⟩, ⟨by omega, by omega, by omega⟩, L8.out, by decide, ⟨rfl, rfl⟩⟩
  clear hw1 hR1 hz hb hb' hbl h1 HG0
  go_wp2_with fail
  refine (kinds_c _).mono ?_
  rintro e wk ⟨rfl, hwk⟩
  have hbk : Below (w1.alloc (.cells #[.int .i64 0, .int .i64 0, .int .i64 0, .int .i64 0, .bool false, .bool false, .bool false, .slice none 0 0] 63)).heap.size (w1.alloc (.cells #[.int .i64 0, .int .i64 0, .int .i64 0, .int .i64 0, .bool false, .bool false, .bool false, .slice none 0 0] 63)) wk := by rw [hwk]; exact (Below.refl _ _).alloc (Nat.le_refl _) _
  have SK : Hid (GdSt w w.heap.size w1.heap.size 63 63 #[.int .i64 0, .int .i64 0, .int .i64 0, .int .i64 0, .bool false, .bool false, .bool false, .slice none 0 0] #[.int .i64 0, .int .i64 0, .int .i64 0, .int .i64 0, .bool false, .bool false, .bool false, .slice none 0 0] b (q0 s).1 (q0 s).2 wk) := S0.out.new hbk
  have hd : (w1.alloc (.cells #[.int .i64 0, .int .i64 0, .int .i64 0, .int .i64 0, .bool false, .bool false, .bool false, .slice none 0 0] 63)).heap.size = w1.heap.size + 1 := by simp
  have HK : Hid (wk.heap[w1.heap.size + 1]? = some (.cells #[.string (kindW 0), .string (kindW 1), .string (kindW 2)] 9 (0, 0))) := by
    rw [hwk, ← hd]; exact blk_new _ _
  clear hwk hbk S0 hd
  go_wp2_with fail
  refine (GdSt.wordK SK HK (show w1.heap.size + 1 ≠ b by have := HZ.out; omega)).mono ?_
  rintro e w2 ⟨he2, S1, HK2⟩
  have he2' : e = .returned (.string (q1 s).1) := he2
  subst he2'
  clear SK HK he2
  go_wp2_with fail
  refine (kidx_c (w1.heap.size + 1) (q1 s).1 w2 HK2).mono ?_
  rintro e w2' ⟨rfl, hw2⟩
  subst w2'
  clear HK2
  have c0 : w2.cell? ⟨w1.heap.size, 0, none⟩ = some (.int .i64 0) := GdSt.cells S1 0
  have f0 : w2.frozen? ⟨w1.heap.size, 0, none⟩ = false := GdSt.fro S1 0
  have T1 : Hid (GdSt _ _ _ _ _ _ #[.int .i64 (kidx (q1 s).1), .int .i64 0, .int .i64 0, .int .i64 0, .bool false, .bool false, .bool false, .slice none 0 0] _ _ _ _) := GdSt.set (S1) 0 (.int .i64 (kidx (q1 s).1)) rfl
  go_wp2_with fail
  generalize hW : (w2.setCell ⟨w1.heap.size, 0, none⟩ (.int .i64 (kidx (q1 s).1))) = W1 at T1 ⊢
  clear hW c0 f0 S1
  refine (show Calls Tryz.prog 52 #[.pointer (some ⟨b, 0, none⟩)] _ (fun e w' => e = .returned (.int .i64 (q2 s).1) ∧ Hid (GdSt _ _ _ _ _ _ _ _ (q2 s).2.1 (q2 s).2.2 w')) from GdSt.number T1).mono ?_
  rintro e w3 ⟨rfl, S2⟩
  clear T1
  have c1 : w3.cell? ⟨w1.heap.size, 1, none⟩ = some (.int .i64 0) := GdSt.cells S2 1
  have f1 : w3.frozen? ⟨w1.heap.size, 1, none⟩ = false := GdSt.fro S2 1
  have T2 : Hid (GdSt _ _ _ _ _ _ #[.int .i64 (kidx (q1 s).1), .int .i64 (q2 s).1, .int .i64 0, .int .i64 0, .bool false, .bool false, .bool false, .slice none 0 0] _ _ _ _) := GdSt.set (S2) 1 (.int .i64 (q2 s).1) rfl
  go_wp2_with fail
  generalize hW : (w3.setCell ⟨w1.heap.size, 1, none⟩ (.int .i64 (q2 s).1)) = W2 at T2 ⊢
  clear hW c1 f1 S2
  refine (show Calls Tryz.prog 52 #[.pointer (some ⟨b, 0, none⟩)] _ (fun e w' => e = .returned (.int .i64 (q3 s).1) ∧ Hid (GdSt _ _ _ _ _ _ _ _ (q3 s).2.1 (q3 s).2.2 w')) from GdSt.number T2).mono ?_
  rintro e w4 ⟨rfl, S3⟩
  clear T2
  have c2 : w4.cell? ⟨w1.heap.size, 2, none⟩ = some (.int .i64 0) := GdSt.cells S3 2
  have f2 : w4.frozen? ⟨w1.heap.size, 2, none⟩ = false := GdSt.fro S3 2
  have T3 : Hid (GdSt _ _ _ _ _ _ #[.int .i64 (kidx (q1 s).1), .int .i64 (q2 s).1, .int .i64 (q3 s).1, .int .i64 0, .bool false, .bool false, .bool false, .slice none 0 0] _ _ _ _) := GdSt.set (S3) 2 (.int .i64 (q3 s).1) rfl
  go_wp2_with fail
  generalize hW : (w4.setCell ⟨w1.heap.size, 2, none⟩ (.int .i64 (q3 s).1)) = W3 at T3 ⊢
  clear hW c2 f2 S3
  refine (show Calls Tryz.prog 52 #[.pointer (some ⟨b, 0, none⟩)] _ (fun e w' => e = .returned (.int .i64 (q4 s).1) ∧ Hid (GdSt _ _ _ _ _ _ _ _ (q4 s).2.1 (q4 s).2.2 w')) from GdSt.number T3).mono ?_
  rintro e w5 ⟨rfl, S4⟩
  clear T3
  have c3 : w5.cell? ⟨w1.heap.size, 3, none⟩ = some (.int .i64 0) := GdSt.cells S4 3
  have f3 : w5.frozen? ⟨w1.heap.size, 3, none⟩ = false := GdSt.fro S4 3
  have T4 : Hid (GdSt _ _ _ _ _ _ #[.int .i64 (kidx (q1 s).1), .int .i64 (q2 s).1, .int .i64 (q3 s).1, .int .i64 (q4 s).1, .bool false, .bool false, .bool false, .slice none 0 0] _ _ _ _) := GdSt.set (S4) 3 (.int .i64 (q4 s).1) rfl
  go_wp2_with fail
  generalize hW : (w5.setCell ⟨w1.heap.size, 3, none⟩ (.int .i64 (q4 s).1)) = W4 at T4 ⊢
  clear hW c3 f3 S4
  refine (show Calls Tryz.prog 54 #[.pointer (some ⟨b, 0, none⟩)] _ (fun e w' => e = .returned (.string (q5 s).1) ∧ Hid (GdSt _ _ _ _ _ _ _ _ (q5 s).2.1 (q5 s).2.2 w')) from GdSt.word T4).mono ?_
  rintro e w6 ⟨rfl, S5⟩
  clear T4
  go_wp2_with fail
  refine (Tryz.strings_Contains_one (q5 s).1 111 w6).mono ?_
  rintro e wj ⟨he3, hw3⟩
  have he3' : e = .returned (.bool (hasB (q5 s).1 111)) := he3
  subst he3'
  subst wj
  clear he3
  go_wp2_with fail
  refine (Tryz.strings_Contains_one (q5 s).1 101 w6).mono ?_
  rintro e wj ⟨he3, hw3⟩
  have he3' : e = .returned (.bool (hasB (q5 s).1 101)) := he3
  subst he3'
  subst wj
  clear he3
  go_wp2_with fail
  refine (Tryz.strings_Contains_one (q5 s).1 97 w6).mono ?_
  rintro e wj ⟨he3, hw3⟩
  have he3' : e = .returned (.bool (hasB (q5 s).1 97)) := he3
  subst he3'
  subst wj
  clear he3
  have c4 : w6.cell? ⟨w1.heap.size, 4, none⟩ = some (.bool false) := GdSt.cells S5 4
  have f4 : w6.frozen? ⟨w1.heap.size, 4, none⟩ = false := GdSt.fro S5 4
  have c5 : w6.cell? ⟨w1.heap.size, 5, none⟩ = some (.bool false) := GdSt.cells S5 5
  have f5 : w6.frozen? ⟨w1.heap.size, 5, none⟩ = false := GdSt.fro S5 5
  have c6 : w6.cell? ⟨w1.heap.size, 6, none⟩ = some (.bool false) := GdSt.cells S5 6
  have f6 : w6.frozen? ⟨w1.heap.size, 6, none⟩ = false := GdSt.fro S5 6
  have T5 : Hid (GdSt _ _ _ _ _ _ #[.int .i64 (kidx (q1 s).1), .int .i64 (q2 s).1, .int .i64 (q3 s).1, .int .i64 (q4 s).1, .bool (hasB (q5 s).1 111), .bool (hasB (q5 s).1 101), .bool (hasB (q5 s).1 97), .slice none 0 0] _ _ _ _) := GdSt.set (GdSt.set (GdSt.set (S5) 4 (.bool (hasB (q5 s).1 111)) rfl) 5 (.bool (hasB (q5 s).1 101)) rfl) 6 (.bool (hasB (q5 s).1 97)) rfl
  go_wp2_with fail
  generalize hW : (((w6.setCell ⟨w1.heap.size, 4, none⟩ (.bool (hasB (q5 s).1 111))).setCell ⟨w1.heap.size, 5, none⟩ (.bool (hasB (q5 s).1 101))).setCell ⟨w1.heap.size, 6, none⟩ (.bool (hasB (q5 s).1 97))) = W5 at T5 ⊢
  clear hW c4 f4 c5 f5 c6 f6 S5
  refine (GdSt.data T5).mono ?_
  rintro e w7 ⟨A, c, n, hn, rfl, hc, hn2, hrow, SD⟩
  clear T5
  have HN : Hid (n = (q6 s).1.length) := hn
  clear hn
  have c7 : w7.cell? ⟨w1.heap.size, 7, none⟩ = some (.slice none 0 0) := GdSt.cells SD 7
  have f7 : w7.frozen? ⟨w1.heap.size, 7, none⟩ = false := GdSt.fro SD 7
  have HRow : Hid (Row (w7.setCell ⟨w1.heap.size, 7, none⟩ (.slice A n c)) A (bts (q6 s).1)) := row_far SD.out.hP SD.out.nr.2 hrow
  have TD : Hid (GdSt _ _ _ _ _ _ #[.int .i64 (kidx (q1 s).1), .int .i64 (q2 s).1, .int .i64 (q3 s).1, .int .i64 (q4 s).1, .bool (hasB (q5 s).1 111), .bool (hasB (q5 s).1 101), .bool (hasB (q5 s).1 97), .slice A n c] _ _ (q6 s).2.2 (w7.setCell ⟨w1.heap.size, 7, none⟩ (.slice A n c))) := GdSt.set SD 7 (.slice A n c) rfl
  have cb : w7.cell? ⟨b, 1, none⟩ = some (.bool (q6 s).2.2) := (GdSt.flag SD).1
  clear hrow
  have nr1 : ¬ w.heap.size = w1.heap.size := by have := HZ.out; omega
  have nr2 : ¬ w1.heap.size = w.heap.size := by have := HZ.out; omega
  have nb : ¬ b = w1.heap.size := by have := HZ.out; omega
  have nb2 : ¬ w1.heap.size = b := by have := HZ.out; omega
  cases hq : (q6 s).2.2
  · -- nothing was wrong so far
    rw [hq] at cb TD
    have HQ : Hid ((q6 s).2.2 = false) := hq
    clear hq
    have p0 : w7.cell? ⟨w1.heap.size, 0, none⟩ = some (.int .i64 (kidx (q1 s).1)) := GdSt.cells SD 0
    have p1 : w7.cell? ⟨w1.heap.size, 1, none⟩ = some (.int .i64 (q2 s).1) := GdSt.cells SD 1
    have p2 : w7.cell? ⟨w1.heap.size, 2, none⟩ = some (.int .i64 (q3 s).1) := GdSt.cells SD 2
    have p3 : w7.cell? ⟨w1.heap.size, 3, none⟩ = some (.int .i64 (q4 s).1) := GdSt.cells SD 3
    have p4 : w7.cell? ⟨w1.heap.size, 4, none⟩ = some (.bool (hasB (q5 s).1 111)) := GdSt.cells SD 4
    have p5 : w7.cell? ⟨w1.heap.size, 5, none⟩ = some (.bool (hasB (q5 s).1 101)) := GdSt.cells SD 5
    have p6 : w7.cell? ⟨w1.heap.size, 6, none⟩ = some (.bool (hasB (q5 s).1 97)) := GdSt.cells SD 6
    go_wp2_with fail
    refine (transAny_c (kidx (q1 s).1) (kidx_bd (q1 s).1) (q2 s).1 (q3 s).1 (q4 s).1 (hasB (q5 s).1 111) (hasB (q5 s).1 101) (hasB (q5 s).1 97) A c n (q6 s).1 _ TD.out.gl (wf_num _ _) (wf_num _ _) (wf_num _ _) HN.out.symm hn2 HRow.out).mono ?_
    rintro e w8 ⟨rfl, hw8⟩
    have S7 : Hid (GdSt _ _ _ _ _ _ #[.int .i64 (kidx (q1 s).1), .int .i64 (q2 s).1, .int .i64 (q3 s).1, .int .i64 (q4 s).1, .bool (hasB (q5 s).1 111), .bool (hasB (q5 s).1 101), .bool (hasB (q5 s).1 97), .slice A n c] _ _ false w8) := TD.out.new hw8
    have HRow8 : Hid (Row w8 A (bts (q6 s).1)) := HRow.out.below hw8
    clear TD hw8 HRow SD nb nb2 cb p0 p1 p2 p3 p4 p5 p6
    have HRow := HRow8
    clear HRow8
    by_cases hs1 : transP (kidx (q1 s).1) (q2 s).1 (q3 s).1 (q4 s).1 (hasB (q5 s).1 111) (hasB (q5 s).1 101) (hasB (q5 s).1 97) (q6 s).1 = s.data.toList
    · have e1 := str_same (a := BA (transP (kidx (q1 s).1) (q2 s).1 (q3 s).1 (q4 s).1 (hasB (q5 s).1 111) (hasB (q5 s).1 101) (hasB (q5 s).1 97) (q6 s).1)) (b := s) hs1
      have HS1 : Hid (transP (kidx (q1 s).1) (q2 s).1 (q3 s).1 (q4 s).1 (hasB (q5 s).1 111) (hasB (q5 s).1 101) (hasB (q5 s).1 97) (q6 s).1 = s.data.toList) := hs1
      clear hs1
      have r0 : w8.cell? ⟨w.heap.size, 0, none⟩ = some (.int .i64 0) := GdSt.cellsR S7 0
      have rf0 : w8.frozen? ⟨w.heap.size, 0, none⟩ = false := GdSt.froR S7 0
      have r1 : w8.cell? ⟨w.heap.size, 1, none⟩ = some (.int .i64 0) := GdSt.cellsR S7 1
      have rf1 : w8.frozen? ⟨w.heap.size, 1, none⟩ = false := GdSt.froR S7 1
      have r2 : w8.cell? ⟨w.heap.size, 2, none⟩ = some (.int .i64 0) := GdSt.cellsR S7 2
      have rf2 : w8.frozen? ⟨w.heap.size, 2, none⟩ = false := GdSt.froR S7 2
      have r3 : w8.cell? ⟨w.heap.size, 3, none⟩ = some (.int .i64 0) := GdSt.cellsR S7 3
      have rf3 : w8.frozen? ⟨w.heap.size, 3, none⟩ = false := GdSt.froR S7 3
      have r4 : w8.cell? ⟨w.heap.size, 4, none⟩ = some (.bool false) := GdSt.cellsR S7 4
      have rf4 : w8.frozen? ⟨w.heap.size, 4, none⟩ = false := GdSt.froR S7 4
      have r5 : w8.cell? ⟨w.heap.size, 5, none⟩ = some (.bool false) := GdSt.cellsR S7 5
      have rf5 : w8.frozen? ⟨w.heap.size, 5, none⟩ = false := GdSt.froR S7 5
      have r6 : w8.cell? ⟨w.heap.size, 6, none⟩ = some (.bool false) := GdSt.cellsR S7 6
      have rf6 : w8.frozen? ⟨w.heap.size, 6, none⟩ = false := GdSt.froR S7 6
      have r7 : w8.cell? ⟨w.heap.size, 7, none⟩ = some (.slice none 0 0) := GdSt.cellsR S7 7
      have rf7 : w8.frozen? ⟨w.heap.size, 7, none⟩ = false := GdSt.froR S7 7
      have p0 : w8.cell? ⟨w1.heap.size, 0, none⟩ = some (.int .i64 (kidx (q1 s).1)) := GdSt.cells S7 0
      have p1 : w8.cell? ⟨w1.heap.size, 1, none⟩ = some (.int .i64 (q2 s).1) := GdSt.cells S7 1
      have p2 : w8.cell? ⟨w1.heap.size, 2, none⟩ = some (.int .i64 (q3 s).1) := GdSt.cells S7 2
      have p3 : w8.cell? ⟨w1.heap.size, 3, none⟩ = some (.int .i64 (q4 s).1) := GdSt.cells S7 3
      have p4 : w8.cell? ⟨w1.heap.size, 4, none⟩ = some (.bool (hasB (q5 s).1 111)) := GdSt.cells S7 4
      have p5 : w8.cell? ⟨w1.heap.size, 5, none⟩ = some (.bool (hasB (q5 s).1 101)) := GdSt.cells S7 5
      have p6 : w8.cell? ⟨w1.heap.size, 6, none⟩ = some (.bool (hasB (q5 s).1 97)) := GdSt.cells S7 6
      have p7 : w8.cell? ⟨w1.heap.size, 7, none⟩ = some (.slice A n c) := GdSt.cells S7 7
      go_wp2_with fail
      refine post_ct Tryz.results25 w.heap.size 63 _ _ _ rfl (set_8 S7.out.hR (.int .i64 (kidx (q1 s).1)) (.int .i64 (q2 s).1) (.int .i64 (q3 s).1) (.int .i64 (q4 s).1) (.bool (hasB (q5 s).1 111)) (.bool (hasB (q5 s).1 101)) (.bool (hasB (q5 s).1 97)) (.slice A n c)) Tryz.underlying63 rfl (by kernel_rfl) rfl ?_
      have ho := onlyset_8 w8 w.heap.size (.int .i64 (kidx (q1 s).1)) (.int .i64 (q2 s).1) (.int .i64 (q3 s).1) (.int .i64 (q4 s).1) (.bool (hasB (q5 s).1 111)) (.bool (hasB (q5 s).1 101)) (.bool (hasB (q5 s).1 97)) (.slice A n c)
      have hB : Below w.heap.size w _ := S7.out.o.trans (ho.below (B := w.heap.size) (fun k hk => by omega) S7.out.o.size)
      have hP : getTr s = (qTr s, 0) := by simp only [getTr, HQ.out, qTr]; rw [if_pos (by simpa using HS1.out)]
      refine ⟨A, n, c, by rw [hP]; exact HN.out, by rw [hP]; rfl, hc, ?_, hB⟩
      rw [hP]
      exact row_only S7.out.hR S7.out.nr.1 ho HRow.out
    · have e1 := str_other (a := BA (transP (kidx (q1 s).1) (q2 s).1 (q3 s).1 (q4 s).1 (hasB (q5 s).1 111) (hasB (q5 s).1 101) (hasB (q5 s).1 97) (q6 s).1)) (b := s) hs1
      have HS1 : Hid (¬ transP (kidx (q1 s).1) (q2 s).1 (q3 s).1 (q4 s).1 (hasB (q5 s).1 111) (hasB (q5 s).1 101) (hasB (q5 s).1 97) (q6 s).1 = s.data.toList) := hs1
      clear hs1
      have r0 : w8.cell? ⟨w.heap.size, 0, none⟩ = some (.int .i64 0) := GdSt.cellsR S7 0
      have rf0 : w8.frozen? ⟨w.heap.size, 0, none⟩ = false := GdSt.froR S7 0
      have r1 : w8.cell? ⟨w.heap.size, 1, none⟩ = some (.int .i64 0) := GdSt.cellsR S7 1
      have rf1 : w8.frozen? ⟨w.heap.size, 1, none⟩ = false := GdSt.froR S7 1
      have r2 : w8.cell? ⟨w.heap.size, 2, none⟩ = some (.int .i64 0) := GdSt.cellsR S7 2
      have rf2 : w8.frozen? ⟨w.heap.size, 2, none⟩ = false := GdSt.froR S7 2
      have r3 : w8.cell? ⟨w.heap.size, 3, none⟩ = some (.int .i64 0) := GdSt.cellsR S7 3
      have rf3 : w8.frozen? ⟨w.heap.size, 3, none⟩ = false := GdSt.froR S7 3
      have r4 : w8.cell? ⟨w.heap.size, 4, none⟩ = some (.bool false) := GdSt.cellsR S7 4
      have rf4 : w8.frozen? ⟨w.heap.size, 4, none⟩ = false := GdSt.froR S7 4
      have r5 : w8.cell? ⟨w.heap.size, 5, none⟩ = some (.bool false) := GdSt.cellsR S7 5
      have rf5 : w8.frozen? ⟨w.heap.size, 5, none⟩ = false := GdSt.froR S7 5
      have r6 : w8.cell? ⟨w.heap.size, 6, none⟩ = some (.bool false) := GdSt.cellsR S7 6
      have rf6 : w8.frozen? ⟨w.heap.size, 6, none⟩ = false := GdSt.froR S7 6
      have r7 : w8.cell? ⟨w.heap.size, 7, none⟩ = some (.slice none 0 0) := GdSt.cellsR S7 7
      have rf7 : w8.frozen? ⟨w.heap.size, 7, none⟩ = false := GdSt.froR S7 7
      go_wp2_with fail
      refine post_ct Tryz.results25 w.heap.size 63 _ _ _ rfl (set_8 S7.out.hR (.int .i64 0) (.int .i64 0) (.int .i64 0) (.int .i64 0) (.bool false) (.bool false) (.bool false) (.slice none 0 0)) Tryz.underlying63 rfl (by kernel_rfl) rfl ?_
      have ho := onlyset_8 w8 w.heap.size (.int .i64 0) (.int .i64 0) (.int .i64 0) (.int .i64 0) (.bool false) (.bool false) (.bool false) (.slice none 0 0)
      have hB : Below w.heap.size w _ := S7.out.o.trans (ho.below (B := w.heap.size) (fun k hk => by omega) S7.out.o.size)
      have hP : getTr s = (Tr.zero, 3) := by simp only [getTr, HQ.out, qTr]; rw [if_neg (by simpa using HS1.out)]
      exact ⟨none, 0, 0, by rw [hP]; rfl, by rw [hP]; rfl, Nat.le_refl _, by rw [hP]; exact Row.nil _ _, hB⟩
  · -- something was wrong
    rw [hq] at cb TD
    have HQ : Hid ((q6 s).2.2 = true) := hq
    clear hq
    have r0 : w7.cell? ⟨w.heap.size, 0, none⟩ = some (.int .i64 0) := GdSt.cellsR SD 0
    have rf0 : w7.frozen? ⟨w.heap.size, 0, none⟩ = false := GdSt.froR SD 0
    have r1 : w7.cell? ⟨w.heap.size, 1, none⟩ = some (.int .i64 0) := GdSt.cellsR SD 1
    have rf1 : w7.frozen? ⟨w.heap.size, 1, none⟩ = false := GdSt.froR SD 1
    have r2 : w7.cell? ⟨w.heap.size, 2, none⟩ = some (.int .i64 0) := GdSt.cellsR SD 2
    have rf2 : w7.frozen? ⟨w.heap.size, 2, none⟩ = false := GdSt.froR SD 2
    have r3 : w7.cell? ⟨w.heap.size, 3, none⟩ = some (.int .i64 0) := GdSt.cellsR SD 3
    have rf3 : w7.frozen? ⟨w.heap.size, 3, none⟩ = false := GdSt.froR SD 3
    have r4 : w7.cell? ⟨w.heap.size, 4, none⟩ = some (.bool false) := GdSt.cellsR SD 4
    have rf4 : w7.frozen? ⟨w.heap.size, 4, none⟩ = false := GdSt.froR SD 4
    have r5 : w7.cell? ⟨w.heap.size, 5, none⟩ = some (.bool false) := GdSt.cellsR SD 5
    have rf5 : w7.frozen? ⟨w.heap.size, 5, none⟩ = false := GdSt.froR SD 5
    have r6 : w7.cell? ⟨w.heap.size, 6, none⟩ = some (.bool false) := GdSt.cellsR SD 6
    have rf6 : w7.frozen? ⟨w.heap.size, 6, none⟩ = false := GdSt.froR SD 6
    have r7 : w7.cell? ⟨w.heap.size, 7, none⟩ = some (.slice none 0 0) := GdSt.cellsR SD 7
    have rf7 : w7.frozen? ⟨w.heap.size, 7, none⟩ = false := GdSt.froR SD 7
    go_wp2_with fail
    refine post_ct Tryz.results25 w.heap.size 63 _ _ _ rfl (set_8 TD.out.hR (.int .i64 0) (.int .i64 0) (.int .i64 0) (.int .i64 0) (.bool false) (.bool false) (.bool false) (.slice none 0 0)) Tryz.underlying63 rfl (by kernel_rfl) rfl ?_
    have ho := onlyset_8 (w7.setCell ⟨w1.heap.size, 7, none⟩ (.slice A n c)) w.heap.size (.int .i64 0) (.int .i64 0) (.int .i64 0) (.int .i64 0) (.bool false) (.bool false) (.bool false) (.slice none 0 0)
    have hB : Below w.heap.size w _ := TD.out.o.trans (ho.below (B := w.heap.size) (fun k hk => by omega) TD.out.o.size)
    have hP : getTr s = (Tr.zero, 3) := by simp only [getTr, HQ.out]; rw [if_neg (by simp)]
    exact ⟨none, 0, 0, by rw [hP]; rfl, by rw [hP]; rfl, Nat.le_refl _, by rw [hP]; exact Row.nil _ _, hB⟩
end Go.Proofs.YtkbmljagcondhaaGreatDoor
