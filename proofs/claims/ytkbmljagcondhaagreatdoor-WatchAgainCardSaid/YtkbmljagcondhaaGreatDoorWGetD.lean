/- watch.GetDatagram, walked. -/
import Derived.Test.YtkbmljagcondhaaGreatDoorWGet
import Derived.Outline
open Go Go.RowKit
set_option linter.unusedSimpArgs false
set_option linter.unusedVariables false
namespace Go.Proofs.YtkbmljagcondhaaGreatDoor
structure Pk where
  hops : Int
  dn : Int
  dd : Int
  sn : Int
  sd : Int
  ds : Int
  ss : Int
  ty : Int
  l : List UInt8
  sm : Bool
def Pk.cells (p : Pk) (A : Option Addr) (n c : Nat) : Array Value :=
  #[.int .i64 p.hops, .int .i64 p.dn, .int .i64 p.dd, .int .i64 p.sn, .int .i64 p.sd, .int .i64 p.ds, .int .i64 p.ss, .int .i64 p.ty, .slice A n c, .bool p.sm]
def Pk.valid (p : Pk) : Bool := validB p.hops p.dn p.dd p.sn p.sd p.ds p.ss p.ty p.l.length
def Pk.zero : Pk := ⟨0, 0, 0, 0, 0, 0, 0, 0, [], false⟩
/-- the words of a datagram: numbers, points, a mark, data -/
def g0 (s : ByteArray) : List ByteArray × Bool := readP s ⟨#[68]⟩ 7
def g1 (s : ByteArray) := numberP (g0 s).1 (g0 s).2
def g2 (s : ByteArray) := ptP (g1 s).2.1 (g1 s).2.2
def g3 (s : ByteArray) := ptP (g2 s).2.1 (g2 s).2.2
def g4 (s : ByteArray) := numberP (g3 s).2.1 (g3 s).2.2
def g5 (s : ByteArray) := wordP (g4 s).2.1 (g4 s).2.2
def g6 (s : ByteArray) := rdataP (g5 s).2.1 (g5 s).2.2
def isSum (x : List UInt8) : Bool := decide (x = [115, 117, 109])
def gPk (s : ByteArray) : Pk := ⟨(g1 s).1, (g3 s).1.1, (g3 s).1.2.1, (g2 s).1.1, (g2 s).1.2.1, (g3 s).1.2.2, (g2 s).1.2.2, (g4 s).1, (g6 s).1, isSum (g5 s).1.data.toList⟩
def gBad (s : ByteArray) : Bool := (g6 s).2.2 || (!isSum (g5 s).1.data.toList && !decide ((g5 s).1.data.toList = [45])) || !(gPk s).valid
def getDg (s : ByteArray) : Pk × Int := if gBad s then (Pk.zero, 3) else (gPk s, 0)
def PkEnd (r : Pk × Int) (w : World) (e : Ending) (w' : World) : Prop :=
  ∃ A n c, n = r.1.l.length ∧ e = .returned (.tuple #[.agg (r.1.cells A n c), .int .i64 r.2]) ∧ n ≤ c ∧ Row w' A (bts r.1.l) ∧ Below w.heap.size w w'
theorem readP_short (s kind : ByteArray) (many : Int) (hs : s.size ≤ 50000) : Short (readP s kind many).1 := by
  unfold readP
  split
  · rename_i x r h
    split
    · intro y hy
      have := splitP_size 32 s y (by rw [h]; simp [hy])
      omega
    · intro y hy; simp at hy
  · intro y hy; simp at hy
set_option maxRecDepth 100000 in
set_option maxHeartbeats 4000000 in
theorem getDatagram_c (s : ByteArray) (hs : s.size ≤ 50000) (w : World) (G : Glob w) : Calls Tryz.prog 18 #[.string s] w (PkEnd (getDg s) w) := by
  have hb0 : Below w.heap.size w (w.alloc (.cells (Pk.zero.cells none 0 0) 43)) := (Below.refl _ _).alloc (Nat.le_refl _) _
  have HG0 : Hid (Glob (w.alloc (.cells (Pk.zero.cells none 0 0) 43))) := G.below hb0 G.low
  have L8 : Hid (8 ≤ w.heap.size) := G.low
  have HS : Hid (s.size ≤ 50000) := hs
  clear G hs hb0
  go_enter Tryz.func18, Tryz.ntmps18
  go_wp2_with fail
  refine (read_c s ⟨#[68]⟩ 7 HS.out _ HG0.out).mono ?_
  rintro e w1 ⟨b, rfl, hb, hR1, hw1⟩
  have hz : w.heap.size + 1 ≤ w1.heap.size := by have := hw1.size; simpa using this
  have hb' : w.heap.size + 1 ≤ b := by simpa using hb
  have hbl : b < w1.heap.size := blk_lt hR1.at_.choose_spec.choose_spec.1
  have h1 : Below w1.heap.size w1 (w1.alloc (.cells (Pk.zero.cells none 0 0) 43)) := (Below.refl _ _).alloc (Nat.le_refl _) _
  have HZ : Hid (w.heap.size + 1 ≤ w1.heap.size ∧ w.heap.size + 1 ≤ b ∧ b < w1.heap.size) := ⟨hz, hb', hbl⟩
  have S0 : Hid (GdSt w w.heap.size w1.heap.size 43 43 #[.int .i64 0, .int .i64 0, .int .i64 0, .int .i64 0, .int .i64 0, .int .i64 0, .int .i64 0, .int .i64 0, .slice none 0 0, .bool false] #[.int .i64 0, .int .i64 0, .int .i64 0, .int .i64 0, .int .i64 0, .int .i64 0, .int .i64 0, .int .i64 0, .slice none 0 0, .bool false] b (g0 s).1 (g0 s).2 (w1.alloc (.cells (Pk.zero.cells none 0 0) 43))) :=
    ⟨(HG0.out.below hw1 HG0.out.low).below h1 (HG0.out.below hw1 HG0.out.low).low, hR1.below h1, readP_short s _ _ HS.out, (((Below.refl _ _).alloc (Nat.le_refl _) _).trans (hw1.mono (by simp))).trans (h1.mono (by omega)),
     blk_below (blk_below (blk_new w _) hw1 (by simp)) h1 (by omega), blk_new _ _, ⟨by omega, by omega, by omega⟩, ⟨by omega, by omega, by omega⟩, L8.out, by decide, ⟨rfl, rfl⟩⟩
  clear hw1 hR1 hz hb hb' hbl h1 HG0
  go_wp2_with fail
  refine (show Calls Tryz.prog 52 #[.pointer (some ⟨b, 0, none⟩)] _ (fun e w' => e = .returned (.int .i64 (g1 s).1) ∧ Hid (GdSt _ _ _ _ _ _ _ _ (g1 s).2.1 (g1 s).2.2 w')) from GdSt.number S0).mono ?_
  rintro e w2 ⟨rfl, S1⟩
  clear S0
  have c0 : w2.cell? ⟨w1.heap.size, 0, none⟩ = some (.int .i64 0) := GdSt.cells S1 0
  have f0 : w2.frozen? ⟨w1.heap.size, 0, none⟩ = false := GdSt.fro S1 0
  have T1 : Hid (GdSt _ _ _ _ _ _ #[.int .i64 (g1 s).1, .int .i64 0, .int .i64 0, .int .i64 0, .int .i64 0, .int .i64 0, .int .i64 0, .int .i64 0, .slice none 0 0, .bool false] _ _ _ _) := GdSt.set (S1) 0 (.int .i64 (g1 s).1) rfl
  go_wp2_with fail
  generalize hW : (w2.setCell ⟨w1.heap.size, 0, none⟩ (.int .i64 (g1 s).1)) = W1 at T1 ⊢
  clear hW c0 f0 S1
  refine (show Calls Tryz.prog 53 #[.pointer (some ⟨b, 0, none⟩)] _ (fun e w' => e = .returned (.tuple #[.agg #[.int .i64 (g2 s).1.1, .int .i64 (g2 s).1.2.1], .int .i64 (g2 s).1.2.2]) ∧ Hid (GdSt _ _ _ _ _ _ _ _ (g2 s).2.1 (g2 s).2.2 w')) from GdSt.point T1).mono ?_
  rintro e w3 ⟨rfl, S2⟩
  clear T1
  have c3 : w3.cell? ⟨w1.heap.size, 3, none⟩ = some (.int .i64 0) := GdSt.cells S2 3
  have f3 : w3.frozen? ⟨w1.heap.size, 3, none⟩ = false := GdSt.fro S2 3
  have c4 : w3.cell? ⟨w1.heap.size, 4, none⟩ = some (.int .i64 0) := GdSt.cells S2 4
  have f4 : w3.frozen? ⟨w1.heap.size, 4, none⟩ = false := GdSt.fro S2 4
  have c6 : w3.cell? ⟨w1.heap.size, 6, none⟩ = some (.int .i64 0) := GdSt.cells S2 6
  have f6 : w3.frozen? ⟨w1.heap.size, 6, none⟩ = false := GdSt.fro S2 6
  have T2 : Hid (GdSt _ _ _ _ _ _ #[.int .i64 (g1 s).1, .int .i64 0, .int .i64 0, .int .i64 (g2 s).1.1, .int .i64 (g2 s).1.2.1, .int .i64 0, .int .i64 (g2 s).1.2.2, .int .i64 0, .slice none 0 0, .bool false] _ _ _ _) := GdSt.set (GdSt.set (GdSt.set (S2) 3 (.int .i64 (g2 s).1.1) rfl) 4 (.int .i64 (g2 s).1.2.1) rfl) 6 (.int .i64 (g2 s).1.2.2) rfl
  go_wp2_with fail
  generalize hW : (((w3.setCell ⟨w1.heap.size, 3, none⟩ (.int .i64 (g2 s).1.1)).setCell ⟨w1.heap.size, 4, none⟩ (.int .i64 (g2 s).1.2.1)).setCell ⟨w1.heap.size, 6, none⟩ (.int .i64 (g2 s).1.2.2)) = W2 at T2 ⊢
  clear hW c3 f3 c4 f4 c6 f6 S2
  refine (show Calls Tryz.prog 53 #[.pointer (some ⟨b, 0, none⟩)] _ (fun e w' => e = .returned (.tuple #[.agg #[.int .i64 (g3 s).1.1, .int .i64 (g3 s).1.2.1], .int .i64 (g3 s).1.2.2]) ∧ Hid (GdSt _ _ _ _ _ _ _ _ (g3 s).2.1 (g3 s).2.2 w')) from GdSt.point T2).mono ?_
  rintro e w4 ⟨rfl, S3⟩
  clear T2
  have c1 : w4.cell? ⟨w1.heap.size, 1, none⟩ = some (.int .i64 0) := GdSt.cells S3 1
  have f1 : w4.frozen? ⟨w1.heap.size, 1, none⟩ = false := GdSt.fro S3 1
  have c2 : w4.cell? ⟨w1.heap.size, 2, none⟩ = some (.int .i64 0) := GdSt.cells S3 2
  have f2 : w4.frozen? ⟨w1.heap.size, 2, none⟩ = false := GdSt.fro S3 2
  have c5 : w4.cell? ⟨w1.heap.size, 5, none⟩ = some (.int .i64 0) := GdSt.cells S3 5
  have f5 : w4.frozen? ⟨w1.heap.size, 5, none⟩ = false := GdSt.fro S3 5
  have T3 : Hid (GdSt _ _ _ _ _ _ #[.int .i64 (g1 s).1, .int .i64 (g3 s).1.1, .int .i64 (g3 s).1.2.1, .int .i64 (g2 s).1.1, .int .i64 (g2 s).1.2.1, .int .i64 (g3 s).1.2.2, .int .i64 (g2 s).1.2.2, .int .i64 0, .slice none 0 0, .bool false] _ _ _ _) := GdSt.set (GdSt.set (GdSt.set (S3) 1 (.int .i64 (g3 s).1.1) rfl) 2 (.int .i64 (g3 s).1.2.1) rfl) 5 (.int .i64 (g3 s).1.2.2) rfl
  go_wp2_with fail
  generalize hW : (((w4.setCell ⟨w1.heap.size, 1, none⟩ (.int .i64 (g3 s).1.1)).setCell ⟨w1.heap.size, 2, none⟩ (.int .i64 (g3 s).1.2.1)).setCell ⟨w1.heap.size, 5, none⟩ (.int .i64 (g3 s).1.2.2)) = W3 at T3 ⊢
  clear hW c1 f1 c2 f2 c5 f5 S3
  refine (show Calls Tryz.prog 52 #[.pointer (some ⟨b, 0, none⟩)] _ (fun e w' => e = .returned (.int .i64 (g4 s).1) ∧ Hid (GdSt _ _ _ _ _ _ _ _ (g4 s).2.1 (g4 s).2.2 w')) from GdSt.number T3).mono ?_
  rintro e w5 ⟨rfl, S4⟩
  clear T3
  have c7 : w5.cell? ⟨w1.heap.size, 7, none⟩ = some (.int .i64 0) := GdSt.cells S4 7
  have f7 : w5.frozen? ⟨w1.heap.size, 7, none⟩ = false := GdSt.fro S4 7
  have T4 : Hid (GdSt _ _ _ _ _ _ #[.int .i64 (g1 s).1, .int .i64 (g3 s).1.1, .int .i64 (g3 s).1.2.1, .int .i64 (g2 s).1.1, .int .i64 (g2 s).1.2.1, .int .i64 (g3 s).1.2.2, .int .i64 (g2 s).1.2.2, .int .i64 (g4 s).1, .slice none 0 0, .bool false] _ _ _ _) := GdSt.set (S4) 7 (.int .i64 (g4 s).1) rfl
  go_wp2_with fail
  generalize hW : (w5.setCell ⟨w1.heap.size, 7, none⟩ (.int .i64 (g4 s).1)) = W4 at T4 ⊢
  clear hW c7 f7 S4
  refine (show Calls Tryz.prog 54 #[.pointer (some ⟨b, 0, none⟩)] _ (fun e w' => e = .returned (.string (g5 s).1) ∧ Hid (GdSt _ _ _ _ _ _ _ _ (g5 s).2.1 (g5 s).2.2 w')) from GdSt.word T4).mono ?_
  rintro e w6 ⟨rfl, S5⟩
  clear T4
  by_cases h1 : (g5 s).1.data.toList = [115, 117, 109]
  · have e1 := lit_same h1
    have HSum : Hid ((g5 s).1.data.toList = [115, 117, 109]) := h1
    clear h1
    have c9 : w6.cell? ⟨w1.heap.size, 9, none⟩ = some (.bool false) := GdSt.cells S5 9
    have f9 : w6.frozen? ⟨w1.heap.size, 9, none⟩ = false := GdSt.fro S5 9
    have T5 : Hid (GdSt _ _ _ _ _ _ #[.int .i64 (g1 s).1, .int .i64 (g3 s).1.1, .int .i64 (g3 s).1.2.1, .int .i64 (g2 s).1.1, .int .i64 (g2 s).1.2.1, .int .i64 (g3 s).1.2.2, .int .i64 (g2 s).1.2.2, .int .i64 (g4 s).1, .slice none 0 0, .bool true] _ _ _ _) := GdSt.set S5 9 (.bool true) rfl
    go_wp2_with fail
    generalize hW : w6.setCell ⟨w1.heap.size, 9, none⟩ (.bool true) = W5 at T5 ⊢
    clear hW c9 f9 S5
    refine (GdSt.data T5).mono ?_
    rintro e w7 ⟨A, c, n, hn, rfl, hc, hn2, hrow, S6⟩
    clear T5
    have HN : Hid (n = (g6 s).1.length) := hn
    clear hn
    have c8 : w7.cell? ⟨w1.heap.size, 8, none⟩ = some (.slice none 0 0) := GdSt.cells S6 8
    have f8 : w7.frozen? ⟨w1.heap.size, 8, none⟩ = false := GdSt.fro S6 8
    have HRow : Hid (Row (w7.setCell ⟨w1.heap.size, 8, none⟩ (.slice A n c)) A (bts (g6 s).1)) := row_far S6.out.hP S6.out.nr.2 hrow
    have T6 : Hid (GdSt _ _ _ _ _ _ #[.int .i64 (g1 s).1, .int .i64 (g3 s).1.1, .int .i64 (g3 s).1.2.1, .int .i64 (g2 s).1.1, .int .i64 (g2 s).1.2.1, .int .i64 (g3 s).1.2.2, .int .i64 (g2 s).1.2.2, .int .i64 (g4 s).1, .slice A n c, .bool true] _ _ (g6 s).2.2 (w7.setCell ⟨w1.heap.size, 8, none⟩ (.slice A n c))) := GdSt.set S6 8 (.slice A n c) rfl
    have cb : w7.cell? ⟨b, 1, none⟩ = some (.bool (g6 s).2.2) := (GdSt.flag S6).1
    have cb' : (w7.setCell ⟨w1.heap.size, 8, none⟩ (.slice A n c)).cell? ⟨b, 1, none⟩ = some (.bool (g6 s).2.2) := (GdSt.flag T6).1
    clear hrow
    have nr1 : ¬ w.heap.size = w1.heap.size := by have := HZ.out; omega
    have nr2 : ¬ w1.heap.size = w.heap.size := by have := HZ.out; omega
    have nb : ¬ b = w1.heap.size := by have := HZ.out; omega
    have nb2 : ¬ w1.heap.size = b := by have := HZ.out; omega
    cases hq : (g6 s).2.2 with
    | true =>
      rw [hq] at cb' cb T6
      have HQ : Hid ((g6 s).2.2 = true) := hq
      clear hq
      clear cb'
      have HBad : Hid (gBad s = true) := by simp [Hid, gBad, HQ.out]
      have r0 : w7.cell? ⟨w.heap.size, 0, none⟩ = some (.int .i64 0) := GdSt.cellsR S6 0
      have rf0 : w7.frozen? ⟨w.heap.size, 0, none⟩ = false := GdSt.froR S6 0
      have r1 : w7.cell? ⟨w.heap.size, 1, none⟩ = some (.int .i64 0) := GdSt.cellsR S6 1
      have rf1 : w7.frozen? ⟨w.heap.size, 1, none⟩ = false := GdSt.froR S6 1
      have r2 : w7.cell? ⟨w.heap.size, 2, none⟩ = some (.int .i64 0) := GdSt.cellsR S6 2
      have rf2 : w7.frozen? ⟨w.heap.size, 2, none⟩ = false := GdSt.froR S6 2
      have r3 : w7.cell? ⟨w.heap.size, 3, none⟩ = some (.int .i64 0) := GdSt.cellsR S6 3
      have rf3 : w7.frozen? ⟨w.heap.size, 3, none⟩ = false := GdSt.froR S6 3
      have r4 : w7.cell? ⟨w.heap.size, 4, none⟩ = some (.int .i64 0) := GdSt.cellsR S6 4
      have rf4 : w7.frozen? ⟨w.heap.size, 4, none⟩ = false := GdSt.froR S6 4
      have r5 : w7.cell? ⟨w.heap.size, 5, none⟩ = some (.int .i64 0) := GdSt.cellsR S6 5
      have rf5 : w7.frozen? ⟨w.heap.size, 5, none⟩ = false := GdSt.froR S6 5
      have r6 : w7.cell? ⟨w.heap.size, 6, none⟩ = some (.int .i64 0) := GdSt.cellsR S6 6
      have rf6 : w7.frozen? ⟨w.heap.size, 6, none⟩ = false := GdSt.froR S6 6
      have r7 : w7.cell? ⟨w.heap.size, 7, none⟩ = some (.int .i64 0) := GdSt.cellsR S6 7
      have rf7 : w7.frozen? ⟨w.heap.size, 7, none⟩ = false := GdSt.froR S6 7
      have r8 : w7.cell? ⟨w.heap.size, 8, none⟩ = some (.slice none 0 0) := GdSt.cellsR S6 8
      have rf8 : w7.frozen? ⟨w.heap.size, 8, none⟩ = false := GdSt.froR S6 8
      have r9 : w7.cell? ⟨w.heap.size, 9, none⟩ = some (.bool false) := GdSt.cellsR S6 9
      have rf9 : w7.frozen? ⟨w.heap.size, 9, none⟩ = false := GdSt.froR S6 9
      go_wp2_with fail
      refine post_ct Tryz.results18 w.heap.size 43 _ _ _ rfl (ten_set T6.out.hR (.int .i64 0) (.int .i64 0) (.int .i64 0) (.int .i64 0) (.int .i64 0) (.int .i64 0) (.int .i64 0) (.int .i64 0) (.slice none 0 0) (.bool false)) Tryz.underlying43 rfl (by kernel_rfl) rfl ?_
      have ho := only_ten (w7.setCell ⟨w1.heap.size, 8, none⟩ (.slice A n c)) w.heap.size (.int .i64 0) (.int .i64 0) (.int .i64 0) (.int .i64 0) (.int .i64 0) (.int .i64 0) (.int .i64 0) (.int .i64 0) (.slice none 0 0) (.bool false)
      have hB : Below w.heap.size w _ := T6.out.o.trans (ho.below (B := w.heap.size) (fun k hk => by omega) T6.out.o.size)
      have hP : getDg s = (Pk.zero, 3) := by simp only [getDg, HBad.out]; rfl
      exact ⟨none, 0, 0, by rw [hP]; rfl, by rw [hP]; rfl, Nat.le_refl _, by rw [hP]; exact Row.nil _ _, hB⟩
    | false =>
      rw [hq] at cb' cb T6
      have HQ : Hid ((g6 s).2.2 = false) := hq
      clear hq
      clear cb'
      have p0 : w7.cell? ⟨w1.heap.size, 0, none⟩ = some (.int .i64 (g1 s).1) := GdSt.cells S6 0
      have p1 : w7.cell? ⟨w1.heap.size, 1, none⟩ = some (.int .i64 (g3 s).1.1) := GdSt.cells S6 1
      have p2 : w7.cell? ⟨w1.heap.size, 2, none⟩ = some (.int .i64 (g3 s).1.2.1) := GdSt.cells S6 2
      have p3 : w7.cell? ⟨w1.heap.size, 3, none⟩ = some (.int .i64 (g2 s).1.1) := GdSt.cells S6 3
      have p4 : w7.cell? ⟨w1.heap.size, 4, none⟩ = some (.int .i64 (g2 s).1.2.1) := GdSt.cells S6 4
      have p5 : w7.cell? ⟨w1.heap.size, 5, none⟩ = some (.int .i64 (g3 s).1.2.2) := GdSt.cells S6 5
      have p6 : w7.cell? ⟨w1.heap.size, 6, none⟩ = some (.int .i64 (g2 s).1.2.2) := GdSt.cells S6 6
      have p7 : w7.cell? ⟨w1.heap.size, 7, none⟩ = some (.int .i64 (g4 s).1) := GdSt.cells S6 7
      have p9 : w7.cell? ⟨w1.heap.size, 9, none⟩ = some (.bool true) := GdSt.cells S6 9
      go_wp2_with fail
      refine (valid_c _ _ _ _ _ _ _ _ _ _ _ _ _).mono ?_
      rintro e w8 ⟨rfl, hw8⟩
      have S7 : Hid (GdSt _ _ _ _ _ _ #[.int .i64 (g1 s).1, .int .i64 (g3 s).1.1, .int .i64 (g3 s).1.2.1, .int .i64 (g2 s).1.1, .int .i64 (g2 s).1.2.1, .int .i64 (g3 s).1.2.2, .int .i64 (g2 s).1.2.2, .int .i64 (g4 s).1, .slice A n c, .bool true] _ _ false w8) := T6.out.new hw8
      have HRow8 : Hid (Row w8 A (bts (g6 s).1)) := HRow.out.below hw8
      clear T6 hw8 HRow S6 c8 f8 cb nb nb2 p0 p1 p2 p3 p4 p5 p6 p7 p9
      have HRow := HRow8
      clear HRow8
      have HV : Hid (validB (g1 s).1 (g3 s).1.1 (g3 s).1.2.1 (g2 s).1.1 (g2 s).1.2.1 (g3 s).1.2.2 (g2 s).1.2.2 (g4 s).1 n = (gPk s).valid) := by simp only [Hid, Pk.valid, gPk, HN.out]
      rw [HV.out]
      cases hv : (gPk s).valid with
      | false =>
        have HBad : Hid (gBad s = true) := by simp [Hid, gBad, hv]
        clear hv
        have r0 : w8.cell? ⟨w.heap.size, 0, none⟩ = some (.int .i64 0) := GdSt.cellsR S7 0
        have rf0 : w8.frozen? ⟨w.heap.size, 0, none⟩ = false := GdSt.froR S7 0
        have r1 : w8.cell? ⟨w.heap.size, 1, none⟩ = some (.int .i64 0) := GdSt.cellsR S7 1
        have rf1 : w8.frozen? ⟨w.heap.size, 1, none⟩ = false := GdSt.froR S7 1
        have r2 : w8.cell? ⟨w.heap.size, 2, none⟩ = some (.int .i64 0) := GdSt.cellsR S7 2
        have rf2 : w8.frozen? ⟨w.heap.size, 2, none⟩ = false := GdSt.froR S7 2
        have r3 : w8.cell? ⟨w.heap.size, 3, none⟩ = some (.int .i64 0) := GdSt.cellsR S7 3
        have rf3 : w8.frozen? ⟨w.heap.size, 3, none⟩ = false := GdSt.froR S7 3
        have r4 : w8.cell? ⟨w.heap.size, 4, none⟩ = some (.int .i64 0) := GdSt.cellsR S7 4
        have rf4 : w8.frozen? ⟨w.heap.size, 4, none⟩ = false := GdSt.froR S7 4
        have r5 : w8.cell? ⟨w.heap.size, 5, none⟩ = some (.int .i64 0) := GdSt.cellsR S7 5
        have rf5 : w8.frozen? ⟨w.heap.size, 5, none⟩ = false := GdSt.froR S7 5
        have r6 : w8.cell? ⟨w.heap.size, 6, none⟩ = some (.int .i64 0) := GdSt.cellsR S7 6
        have rf6 : w8.frozen? ⟨w.heap.size, 6, none⟩ = false := GdSt.froR S7 6
        have r7 : w8.cell? ⟨w.heap.size, 7, none⟩ = some (.int .i64 0) := GdSt.cellsR S7 7
        have rf7 : w8.frozen? ⟨w.heap.size, 7, none⟩ = false := GdSt.froR S7 7
        have r8 : w8.cell? ⟨w.heap.size, 8, none⟩ = some (.slice none 0 0) := GdSt.cellsR S7 8
        have rf8 : w8.frozen? ⟨w.heap.size, 8, none⟩ = false := GdSt.froR S7 8
        have r9 : w8.cell? ⟨w.heap.size, 9, none⟩ = some (.bool false) := GdSt.cellsR S7 9
        have rf9 : w8.frozen? ⟨w.heap.size, 9, none⟩ = false := GdSt.froR S7 9
        go_wp2_with fail
        refine post_ct Tryz.results18 w.heap.size 43 _ _ _ rfl (ten_set S7.out.hR (.int .i64 0) (.int .i64 0) (.int .i64 0) (.int .i64 0) (.int .i64 0) (.int .i64 0) (.int .i64 0) (.int .i64 0) (.slice none 0 0) (.bool false)) Tryz.underlying43 rfl (by kernel_rfl) rfl ?_
        have ho := only_ten w8 w.heap.size (.int .i64 0) (.int .i64 0) (.int .i64 0) (.int .i64 0) (.int .i64 0) (.int .i64 0) (.int .i64 0) (.int .i64 0) (.slice none 0 0) (.bool false)
        have hB : Below w.heap.size w _ := S7.out.o.trans (ho.below (B := w.heap.size) (fun k hk => by omega) S7.out.o.size)
        have hP : getDg s = (Pk.zero, 3) := by simp only [getDg, HBad.out]; rfl
        exact ⟨none, 0, 0, by rw [hP]; rfl, by rw [hP]; rfl, Nat.le_refl _, by rw [hP]; exact Row.nil _ _, hB⟩
      | true =>
        have HBad : Hid (gBad s = false) := by simp [Hid, gBad, HQ.out, isSum, hv, HSum.out]
        clear hv
        have r0 : w8.cell? ⟨w.heap.size, 0, none⟩ = some (.int .i64 0) := GdSt.cellsR S7 0
        have rf0 : w8.frozen? ⟨w.heap.size, 0, none⟩ = false := GdSt.froR S7 0
        have r1 : w8.cell? ⟨w.heap.size, 1, none⟩ = some (.int .i64 0) := GdSt.cellsR S7 1
        have rf1 : w8.frozen? ⟨w.heap.size, 1, none⟩ = false := GdSt.froR S7 1
        have r2 : w8.cell? ⟨w.heap.size, 2, none⟩ = some (.int .i64 0) := GdSt.cellsR S7 2
        have rf2 : w8.frozen? ⟨w.heap.size, 2, none⟩ = false := GdSt.froR S7 2
        have r3 : w8.cell? ⟨w.heap.size, 3, none⟩ = some (.int .i64 0) := GdSt.cellsR S7 3
        have rf3 : w8.frozen? ⟨w.heap.size, 3, none⟩ = false := GdSt.froR S7 3
        have r4 : w8.cell? ⟨w.heap.size, 4, none⟩ = some (.int .i64 0) := GdSt.cellsR S7 4
        have rf4 : w8.frozen? ⟨w.heap.size, 4, none⟩ = false := GdSt.froR S7 4
        have r5 : w8.cell? ⟨w.heap.size, 5, none⟩ = some (.int .i64 0) := GdSt.cellsR S7 5
        have rf5 : w8.frozen? ⟨w.heap.size, 5, none⟩ = false := GdSt.froR S7 5
        have r6 : w8.cell? ⟨w.heap.size, 6, none⟩ = some (.int .i64 0) := GdSt.cellsR S7 6
        have rf6 : w8.frozen? ⟨w.heap.size, 6, none⟩ = false := GdSt.froR S7 6
        have r7 : w8.cell? ⟨w.heap.size, 7, none⟩ = some (.int .i64 0) := GdSt.cellsR S7 7
        have rf7 : w8.frozen? ⟨w.heap.size, 7, none⟩ = false := GdSt.froR S7 7
        have r8 : w8.cell? ⟨w.heap.size, 8, none⟩ = some (.slice none 0 0) := GdSt.cellsR S7 8
        have rf8 : w8.frozen? ⟨w.heap.size, 8, none⟩ = false := GdSt.froR S7 8
        have r9 : w8.cell? ⟨w.heap.size, 9, none⟩ = some (.bool false) := GdSt.cellsR S7 9
        have rf9 : w8.frozen? ⟨w.heap.size, 9, none⟩ = false := GdSt.froR S7 9
        have p0 : w8.cell? ⟨w1.heap.size, 0, none⟩ = some (.int .i64 (g1 s).1) := GdSt.cells S7 0
        have p1 : w8.cell? ⟨w1.heap.size, 1, none⟩ = some (.int .i64 (g3 s).1.1) := GdSt.cells S7 1
        have p2 : w8.cell? ⟨w1.heap.size, 2, none⟩ = some (.int .i64 (g3 s).1.2.1) := GdSt.cells S7 2
        have p3 : w8.cell? ⟨w1.heap.size, 3, none⟩ = some (.int .i64 (g2 s).1.1) := GdSt.cells S7 3
        have p4 : w8.cell? ⟨w1.heap.size, 4, none⟩ = some (.int .i64 (g2 s).1.2.1) := GdSt.cells S7 4
        have p5 : w8.cell? ⟨w1.heap.size, 5, none⟩ = some (.int .i64 (g3 s).1.2.2) := GdSt.cells S7 5
        have p6 : w8.cell? ⟨w1.heap.size, 6, none⟩ = some (.int .i64 (g2 s).1.2.2) := GdSt.cells S7 6
        have p7 : w8.cell? ⟨w1.heap.size, 7, none⟩ = some (.int .i64 (g4 s).1) := GdSt.cells S7 7
        have p8 : w8.cell? ⟨w1.heap.size, 8, none⟩ = some (.slice A n c) := GdSt.cells S7 8
        have p9 : w8.cell? ⟨w1.heap.size, 9, none⟩ = some (.bool true) := GdSt.cells S7 9
        go_wp2_with fail
        refine post_ct Tryz.results18 w.heap.size 43 _ _ _ rfl (ten_set S7.out.hR (.int .i64 (g1 s).1) (.int .i64 (g3 s).1.1) (.int .i64 (g3 s).1.2.1) (.int .i64 (g2 s).1.1) (.int .i64 (g2 s).1.2.1) (.int .i64 (g3 s).1.2.2) (.int .i64 (g2 s).1.2.2) (.int .i64 (g4 s).1) (.slice A n c) (.bool true)) Tryz.underlying43 rfl (by kernel_rfl) rfl ?_
        have ho := only_ten w8 w.heap.size (.int .i64 (g1 s).1) (.int .i64 (g3 s).1.1) (.int .i64 (g3 s).1.2.1) (.int .i64 (g2 s).1.1) (.int .i64 (g2 s).1.2.1) (.int .i64 (g3 s).1.2.2) (.int .i64 (g2 s).1.2.2) (.int .i64 (g4 s).1) (.slice A n c) (.bool true)
        have hB : Below w.heap.size w _ := S7.out.o.trans (ho.below (B := w.heap.size) (fun k hk => by omega) S7.out.o.size)
        have hP : getDg s = (gPk s, 0) := by simp only [getDg, HBad.out]; rfl
        have hsm : isSum (g5 s).1.data.toList = true := by simp [isSum, HSum.out]
        refine ⟨A, n, c, by rw [hP]; exact HN.out, by rw [hP]; simp only [Pk.cells, gPk, hsm]; rfl, hc, ?_, hB⟩
        rw [hP]
        exact row_only S7.out.hR S7.out.nr.1 ho HRow.out
  · have e1 := lit_other h1
    have HSum : Hid (¬ (g5 s).1.data.toList = [115, 117, 109]) := h1
    clear h1
    by_cases h2 : (g5 s).1.data.toList = [45]
    · have e2 := lit_same h2
      have HDash : Hid ((g5 s).1.data.toList = [45]) := h2
      clear h2
      have c9 : w6.cell? ⟨w1.heap.size, 9, none⟩ = some (.bool false) := GdSt.cells S5 9
      have f9 : w6.frozen? ⟨w1.heap.size, 9, none⟩ = false := GdSt.fro S5 9
      have T5 : Hid (GdSt _ _ _ _ _ _ #[.int .i64 (g1 s).1, .int .i64 (g3 s).1.1, .int .i64 (g3 s).1.2.1, .int .i64 (g2 s).1.1, .int .i64 (g2 s).1.2.1, .int .i64 (g3 s).1.2.2, .int .i64 (g2 s).1.2.2, .int .i64 (g4 s).1, .slice none 0 0, .bool false] _ _ _ _) := GdSt.set S5 9 (.bool false) rfl
      go_wp2_with fail
      generalize hW : w6.setCell ⟨w1.heap.size, 9, none⟩ (.bool false) = W5 at T5 ⊢
      clear hW c9 f9 S5
      refine (GdSt.data T5).mono ?_
      rintro e w7 ⟨A, c, n, hn, rfl, hc, hn2, hrow, S6⟩
      clear T5
      have HN : Hid (n = (g6 s).1.length) := hn
      clear hn
      have c8 : w7.cell? ⟨w1.heap.size, 8, none⟩ = some (.slice none 0 0) := GdSt.cells S6 8
      have f8 : w7.frozen? ⟨w1.heap.size, 8, none⟩ = false := GdSt.fro S6 8
      have HRow : Hid (Row (w7.setCell ⟨w1.heap.size, 8, none⟩ (.slice A n c)) A (bts (g6 s).1)) := row_far S6.out.hP S6.out.nr.2 hrow
      have T6 : Hid (GdSt _ _ _ _ _ _ #[.int .i64 (g1 s).1, .int .i64 (g3 s).1.1, .int .i64 (g3 s).1.2.1, .int .i64 (g2 s).1.1, .int .i64 (g2 s).1.2.1, .int .i64 (g3 s).1.2.2, .int .i64 (g2 s).1.2.2, .int .i64 (g4 s).1, .slice A n c, .bool false] _ _ (g6 s).2.2 (w7.setCell ⟨w1.heap.size, 8, none⟩ (.slice A n c))) := GdSt.set S6 8 (.slice A n c) rfl
      have cb : w7.cell? ⟨b, 1, none⟩ = some (.bool (g6 s).2.2) := (GdSt.flag S6).1
      have cb' : (w7.setCell ⟨w1.heap.size, 8, none⟩ (.slice A n c)).cell? ⟨b, 1, none⟩ = some (.bool (g6 s).2.2) := (GdSt.flag T6).1
      clear hrow
      have nr1 : ¬ w.heap.size = w1.heap.size := by have := HZ.out; omega
      have nr2 : ¬ w1.heap.size = w.heap.size := by have := HZ.out; omega
      have nb : ¬ b = w1.heap.size := by have := HZ.out; omega
      have nb2 : ¬ w1.heap.size = b := by have := HZ.out; omega
      cases hq : (g6 s).2.2 with
      | true =>
        rw [hq] at cb' cb T6
        have HQ : Hid ((g6 s).2.2 = true) := hq
        clear hq
        clear cb'
        have HBad : Hid (gBad s = true) := by simp [Hid, gBad, HQ.out]
        have r0 : w7.cell? ⟨w.heap.size, 0, none⟩ = some (.int .i64 0) := GdSt.cellsR S6 0
        have rf0 : w7.frozen? ⟨w.heap.size, 0, none⟩ = false := GdSt.froR S6 0
        have r1 : w7.cell? ⟨w.heap.size, 1, none⟩ = some (.int .i64 0) := GdSt.cellsR S6 1
        have rf1 : w7.frozen? ⟨w.heap.size, 1, none⟩ = false := GdSt.froR S6 1
        have r2 : w7.cell? ⟨w.heap.size, 2, none⟩ = some (.int .i64 0) := GdSt.cellsR S6 2
        have rf2 : w7.frozen? ⟨w.heap.size, 2, none⟩ = false := GdSt.froR S6 2
        have r3 : w7.cell? ⟨w.heap.size, 3, none⟩ = some (.int .i64 0) := GdSt.cellsR S6 3
        have rf3 : w7.frozen? ⟨w.heap.size, 3, none⟩ = false := GdSt.froR S6 3
        have r4 : w7.cell? ⟨w.heap.size, 4, none⟩ = some (.int .i64 0) := GdSt.cellsR S6 4
        have rf4 : w7.frozen? ⟨w.heap.size, 4, none⟩ = false := GdSt.froR S6 4
        have r5 : w7.cell? ⟨w.heap.size, 5, none⟩ = some (.int .i64 0) := GdSt.cellsR S6 5
        have rf5 : w7.frozen? ⟨w.heap.size, 5, none⟩ = false := GdSt.froR S6 5
        have r6 : w7.cell? ⟨w.heap.size, 6, none⟩ = some (.int .i64 0) := GdSt.cellsR S6 6
        have rf6 : w7.frozen? ⟨w.heap.size, 6, none⟩ = false := GdSt.froR S6 6
        have r7 : w7.cell? ⟨w.heap.size, 7, none⟩ = some (.int .i64 0) := GdSt.cellsR S6 7
        have rf7 : w7.frozen? ⟨w.heap.size, 7, none⟩ = false := GdSt.froR S6 7
        have r8 : w7.cell? ⟨w.heap.size, 8, none⟩ = some (.slice none 0 0) := GdSt.cellsR S6 8
        have rf8 : w7.frozen? ⟨w.heap.size, 8, none⟩ = false := GdSt.froR S6 8
        have r9 : w7.cell? ⟨w.heap.size, 9, none⟩ = some (.bool false) := GdSt.cellsR S6 9
        have rf9 : w7.frozen? ⟨w.heap.size, 9, none⟩ = false := GdSt.froR S6 9
        go_wp2_with fail
        refine post_ct Tryz.results18 w.heap.size 43 _ _ _ rfl (ten_set T6.out.hR (.int .i64 0) (.int .i64 0) (.int .i64 0) (.int .i64 0) (.int .i64 0) (.int .i64 0) (.int .i64 0) (.int .i64 0) (.slice none 0 0) (.bool false)) Tryz.underlying43 rfl (by kernel_rfl) rfl ?_
        have ho := only_ten (w7.setCell ⟨w1.heap.size, 8, none⟩ (.slice A n c)) w.heap.size (.int .i64 0) (.int .i64 0) (.int .i64 0) (.int .i64 0) (.int .i64 0) (.int .i64 0) (.int .i64 0) (.int .i64 0) (.slice none 0 0) (.bool false)
        have hB : Below w.heap.size w _ := T6.out.o.trans (ho.below (B := w.heap.size) (fun k hk => by omega) T6.out.o.size)
        have hP : getDg s = (Pk.zero, 3) := by simp only [getDg, HBad.out]; rfl
        exact ⟨none, 0, 0, by rw [hP]; rfl, by rw [hP]; rfl, Nat.le_refl _, by rw [hP]; exact Row.nil _ _, hB⟩
      | false =>
        rw [hq] at cb' cb T6
        have HQ : Hid ((g6 s).2.2 = false) := hq
        clear hq
        clear cb'
        have p0 : w7.cell? ⟨w1.heap.size, 0, none⟩ = some (.int .i64 (g1 s).1) := GdSt.cells S6 0
        have p1 : w7.cell? ⟨w1.heap.size, 1, none⟩ = some (.int .i64 (g3 s).1.1) := GdSt.cells S6 1
        have p2 : w7.cell? ⟨w1.heap.size, 2, none⟩ = some (.int .i64 (g3 s).1.2.1) := GdSt.cells S6 2
        have p3 : w7.cell? ⟨w1.heap.size, 3, none⟩ = some (.int .i64 (g2 s).1.1) := GdSt.cells S6 3
        have p4 : w7.cell? ⟨w1.heap.size, 4, none⟩ = some (.int .i64 (g2 s).1.2.1) := GdSt.cells S6 4
        have p5 : w7.cell? ⟨w1.heap.size, 5, none⟩ = some (.int .i64 (g3 s).1.2.2) := GdSt.cells S6 5
        have p6 : w7.cell? ⟨w1.heap.size, 6, none⟩ = some (.int .i64 (g2 s).1.2.2) := GdSt.cells S6 6
        have p7 : w7.cell? ⟨w1.heap.size, 7, none⟩ = some (.int .i64 (g4 s).1) := GdSt.cells S6 7
        have p9 : w7.cell? ⟨w1.heap.size, 9, none⟩ = some (.bool false) := GdSt.cells S6 9
        go_wp2_with fail
        refine (valid_c _ _ _ _ _ _ _ _ _ _ _ _ _).mono ?_
        rintro e w8 ⟨rfl, hw8⟩
        have S7 : Hid (GdSt _ _ _ _ _ _ #[.int .i64 (g1 s).1, .int .i64 (g3 s).1.1, .int .i64 (g3 s).1.2.1, .int .i64 (g2 s).1.1, .int .i64 (g2 s).1.2.1, .int .i64 (g3 s).1.2.2, .int .i64 (g2 s).1.2.2, .int .i64 (g4 s).1, .slice A n c, .bool false] _ _ false w8) := T6.out.new hw8
        have HRow8 : Hid (Row w8 A (bts (g6 s).1)) := HRow.out.below hw8
        clear T6 hw8 HRow S6 c8 f8 cb nb nb2 p0 p1 p2 p3 p4 p5 p6 p7 p9
        have HRow := HRow8
        clear HRow8
        have HV : Hid (validB (g1 s).1 (g3 s).1.1 (g3 s).1.2.1 (g2 s).1.1 (g2 s).1.2.1 (g3 s).1.2.2 (g2 s).1.2.2 (g4 s).1 n = (gPk s).valid) := by simp only [Hid, Pk.valid, gPk, HN.out]
        rw [HV.out]
        cases hv : (gPk s).valid with
        | false =>
          have HBad : Hid (gBad s = true) := by simp [Hid, gBad, hv]
          clear hv
          have r0 : w8.cell? ⟨w.heap.size, 0, none⟩ = some (.int .i64 0) := GdSt.cellsR S7 0
          have rf0 : w8.frozen? ⟨w.heap.size, 0, none⟩ = false := GdSt.froR S7 0
          have r1 : w8.cell? ⟨w.heap.size, 1, none⟩ = some (.int .i64 0) := GdSt.cellsR S7 1
          have rf1 : w8.frozen? ⟨w.heap.size, 1, none⟩ = false := GdSt.froR S7 1
          have r2 : w8.cell? ⟨w.heap.size, 2, none⟩ = some (.int .i64 0) := GdSt.cellsR S7 2
          have rf2 : w8.frozen? ⟨w.heap.size, 2, none⟩ = false := GdSt.froR S7 2
          have r3 : w8.cell? ⟨w.heap.size, 3, none⟩ = some (.int .i64 0) := GdSt.cellsR S7 3
          have rf3 : w8.frozen? ⟨w.heap.size, 3, none⟩ = false := GdSt.froR S7 3
          have r4 : w8.cell? ⟨w.heap.size, 4, none⟩ = some (.int .i64 0) := GdSt.cellsR S7 4
          have rf4 : w8.frozen? ⟨w.heap.size, 4, none⟩ = false := GdSt.froR S7 4
          have r5 : w8.cell? ⟨w.heap.size, 5, none⟩ = some (.int .i64 0) := GdSt.cellsR S7 5
          have rf5 : w8.frozen? ⟨w.heap.size, 5, none⟩ = false := GdSt.froR S7 5
          have r6 : w8.cell? ⟨w.heap.size, 6, none⟩ = some (.int .i64 0) := GdSt.cellsR S7 6
          have rf6 : w8.frozen? ⟨w.heap.size, 6, none⟩ = false := GdSt.froR S7 6
          have r7 : w8.cell? ⟨w.heap.size, 7, none⟩ = some (.int .i64 0) := GdSt.cellsR S7 7
          have rf7 : w8.frozen? ⟨w.heap.size, 7, none⟩ = false := GdSt.froR S7 7
          have r8 : w8.cell? ⟨w.heap.size, 8, none⟩ = some (.slice none 0 0) := GdSt.cellsR S7 8
          have rf8 : w8.frozen? ⟨w.heap.size, 8, none⟩ = false := GdSt.froR S7 8
          have r9 : w8.cell? ⟨w.heap.size, 9, none⟩ = some (.bool false) := GdSt.cellsR S7 9
          have rf9 : w8.frozen? ⟨w.heap.size, 9, none⟩ = false := GdSt.froR S7 9
          go_wp2_with fail
          refine post_ct Tryz.results18 w.heap.size 43 _ _ _ rfl (ten_set S7.out.hR (.int .i64 0) (.int .i64 0) (.int .i64 0) (.int .i64 0) (.int .i64 0) (.int .i64 0) (.int .i64 0) (.int .i64 0) (.slice none 0 0) (.bool false)) Tryz.underlying43 rfl (by kernel_rfl) rfl ?_
          have ho := only_ten w8 w.heap.size (.int .i64 0) (.int .i64 0) (.int .i64 0) (.int .i64 0) (.int .i64 0) (.int .i64 0) (.int .i64 0) (.int .i64 0) (.slice none 0 0) (.bool false)
          have hB : Below w.heap.size w _ := S7.out.o.trans (ho.below (B := w.heap.size) (fun k hk => by omega) S7.out.o.size)
          have hP : getDg s = (Pk.zero, 3) := by simp only [getDg, HBad.out]; rfl
          exact ⟨none, 0, 0, by rw [hP]; rfl, by rw [hP]; rfl, Nat.le_refl _, by rw [hP]; exact Row.nil _ _, hB⟩
        | true =>
          have HBad : Hid (gBad s = false) := by simp [Hid, gBad, HQ.out, isSum, hv, HSum.out, HDash.out]
          clear hv
          have r0 : w8.cell? ⟨w.heap.size, 0, none⟩ = some (.int .i64 0) := GdSt.cellsR S7 0
          have rf0 : w8.frozen? ⟨w.heap.size, 0, none⟩ = false := GdSt.froR S7 0
          have r1 : w8.cell? ⟨w.heap.size, 1, none⟩ = some (.int .i64 0) := GdSt.cellsR S7 1
          have rf1 : w8.frozen? ⟨w.heap.size, 1, none⟩ = false := GdSt.froR S7 1
          have r2 : w8.cell? ⟨w.heap.size, 2, none⟩ = some (.int .i64 0) := GdSt.cellsR S7 2
          have rf2 : w8.frozen? ⟨w.heap.size, 2, none⟩ = false := GdSt.froR S7 2
          have r3 : w8.cell? ⟨w.heap.size, 3, none⟩ = some (.int .i64 0) := GdSt.cellsR S7 3
          have rf3 : w8.frozen? ⟨w.heap.size, 3, none⟩ = false := GdSt.froR S7 3
          have r4 : w8.cell? ⟨w.heap.size, 4, none⟩ = some (.int .i64 0) := GdSt.cellsR S7 4
          have rf4 : w8.frozen? ⟨w.heap.size, 4, none⟩ = false := GdSt.froR S7 4
          have r5 : w8.cell? ⟨w.heap.size, 5, none⟩ = some (.int .i64 0) := GdSt.cellsR S7 5
          have rf5 : w8.frozen? ⟨w.heap.size, 5, none⟩ = false := GdSt.froR S7 5
          have r6 : w8.cell? ⟨w.heap.size, 6, none⟩ = some (.int .i64 0) := GdSt.cellsR S7 6
          have rf6 : w8.frozen? ⟨w.heap.size, 6, none⟩ = false := GdSt.froR S7 6
          have r7 : w8.cell? ⟨w.heap.size, 7, none⟩ = some (.int .i64 0) := GdSt.cellsR S7 7
          have rf7 : w8.frozen? ⟨w.heap.size, 7, none⟩ = false := GdSt.froR S7 7
          have r8 : w8.cell? ⟨w.heap.size, 8, none⟩ = some (.slice none 0 0) := GdSt.cellsR S7 8
          have rf8 : w8.frozen? ⟨w.heap.size, 8, none⟩ = false := GdSt.froR S7 8
          have r9 : w8.cell? ⟨w.heap.size, 9, none⟩ = some (.bool false) := GdSt.cellsR S7 9
          have rf9 : w8.frozen? ⟨w.heap.size, 9, none⟩ = false := GdSt.froR S7 9
          have p0 : w8.cell? ⟨w1.heap.size, 0, none⟩ = some (.int .i64 (g1 s).1) := GdSt.cells S7 0
          have p1 : w8.cell? ⟨w1.heap.size, 1, none⟩ = some (.int .i64 (g3 s).1.1) := GdSt.cells S7 1
          have p2 : w8.cell? ⟨w1.heap.size, 2, none⟩ = some (.int .i64 (g3 s).1.2.1) := GdSt.cells S7 2
          have p3 : w8.cell? ⟨w1.heap.size, 3, none⟩ = some (.int .i64 (g2 s).1.1) := GdSt.cells S7 3
          have p4 : w8.cell? ⟨w1.heap.size, 4, none⟩ = some (.int .i64 (g2 s).1.2.1) := GdSt.cells S7 4
          have p5 : w8.cell? ⟨w1.heap.size, 5, none⟩ = some (.int .i64 (g3 s).1.2.2) := GdSt.cells S7 5
          have p6 : w8.cell? ⟨w1.heap.size, 6, none⟩ = some (.int .i64 (g2 s).1.2.2) := GdSt.cells S7 6
          have p7 : w8.cell? ⟨w1.heap.size, 7, none⟩ = some (.int .i64 (g4 s).1) := GdSt.cells S7 7
          have p8 : w8.cell? ⟨w1.heap.size, 8, none⟩ = some (.slice A n c) := GdSt.cells S7 8
          have p9 : w8.cell? ⟨w1.heap.size, 9, none⟩ = some (.bool false) := GdSt.cells S7 9
          go_wp2_with fail
          refine post_ct Tryz.results18 w.heap.size 43 _ _ _ rfl (ten_set S7.out.hR (.int .i64 (g1 s).1) (.int .i64 (g3 s).1.1) (.int .i64 (g3 s).1.2.1) (.int .i64 (g2 s).1.1) (.int .i64 (g2 s).1.2.1) (.int .i64 (g3 s).1.2.2) (.int .i64 (g2 s).1.2.2) (.int .i64 (g4 s).1) (.slice A n c) (.bool false)) Tryz.underlying43 rfl (by kernel_rfl) rfl ?_
          have ho := only_ten w8 w.heap.size (.int .i64 (g1 s).1) (.int .i64 (g3 s).1.1) (.int .i64 (g3 s).1.2.1) (.int .i64 (g2 s).1.1) (.int .i64 (g2 s).1.2.1) (.int .i64 (g3 s).1.2.2) (.int .i64 (g2 s).1.2.2) (.int .i64 (g4 s).1) (.slice A n c) (.bool false)
          have hB : Below w.heap.size w _ := S7.out.o.trans (ho.below (B := w.heap.size) (fun k hk => by omega) S7.out.o.size)
          have hP : getDg s = (gPk s, 0) := by simp only [getDg, HBad.out]; rfl
          have hsm : isSum (g5 s).1.data.toList = false := by simp [isSum, HSum.out]
          refine ⟨A, n, c, by rw [hP]; exact HN.out, by rw [hP]; simp only [Pk.cells, gPk, hsm]; rfl, hc, ?_, hB⟩
          rw [hP]
          exact row_only S7.out.hR S7.out.nr.1 ho HRow.out
    · have e2 := lit_other h2
      have HDash : Hid (¬ (g5 s).1.data.toList = [45]) := h2
      clear h2
      have c9 : w6.cell? ⟨w1.heap.size, 9, none⟩ = some (.bool false) := GdSt.cells S5 9
      have f9 : w6.frozen? ⟨w1.heap.size, 9, none⟩ = false := GdSt.fro S5 9
      have T5 : Hid (GdSt _ _ _ _ _ _ #[.int .i64 (g1 s).1, .int .i64 (g3 s).1.1, .int .i64 (g3 s).1.2.1, .int .i64 (g2 s).1.1, .int .i64 (g2 s).1.2.1, .int .i64 (g3 s).1.2.2, .int .i64 (g2 s).1.2.2, .int .i64 (g4 s).1, .slice none 0 0, .bool false] _ _ _ _) := GdSt.set S5 9 (.bool false) rfl
      go_wp2_with fail
      generalize hW : w6.setCell ⟨w1.heap.size, 9, none⟩ (.bool false) = W5 at T5 ⊢
      clear hW c9 f9 S5
      refine (GdSt.data T5).mono ?_
      rintro e w7 ⟨A, c, n, hn, rfl, hc, hn2, hrow, S6⟩
      clear T5
      have HN : Hid (n = (g6 s).1.length) := hn
      clear hn
      have c8 : w7.cell? ⟨w1.heap.size, 8, none⟩ = some (.slice none 0 0) := GdSt.cells S6 8
      have f8 : w7.frozen? ⟨w1.heap.size, 8, none⟩ = false := GdSt.fro S6 8
      have HRow : Hid (Row (w7.setCell ⟨w1.heap.size, 8, none⟩ (.slice A n c)) A (bts (g6 s).1)) := row_far S6.out.hP S6.out.nr.2 hrow
      have T6 : Hid (GdSt _ _ _ _ _ _ #[.int .i64 (g1 s).1, .int .i64 (g3 s).1.1, .int .i64 (g3 s).1.2.1, .int .i64 (g2 s).1.1, .int .i64 (g2 s).1.2.1, .int .i64 (g3 s).1.2.2, .int .i64 (g2 s).1.2.2, .int .i64 (g4 s).1, .slice A n c, .bool false] _ _ (g6 s).2.2 (w7.setCell ⟨w1.heap.size, 8, none⟩ (.slice A n c))) := GdSt.set S6 8 (.slice A n c) rfl
      have cb : w7.cell? ⟨b, 1, none⟩ = some (.bool (g6 s).2.2) := (GdSt.flag S6).1
      have cb' : (w7.setCell ⟨w1.heap.size, 8, none⟩ (.slice A n c)).cell? ⟨b, 1, none⟩ = some (.bool (g6 s).2.2) := (GdSt.flag T6).1
      clear hrow
      have nr1 : ¬ w.heap.size = w1.heap.size := by have := HZ.out; omega
      have nr2 : ¬ w1.heap.size = w.heap.size := by have := HZ.out; omega
      have nb : ¬ b = w1.heap.size := by have := HZ.out; omega
      have nb2 : ¬ w1.heap.size = b := by have := HZ.out; omega
      cases hq : (g6 s).2.2 with
      | true =>
        rw [hq] at cb' cb T6
        have HQ : Hid ((g6 s).2.2 = true) := hq
        clear hq
        clear cb'
        have HBad : Hid (gBad s = true) := by simp [Hid, gBad, HQ.out]
        have r0 : w7.cell? ⟨w.heap.size, 0, none⟩ = some (.int .i64 0) := GdSt.cellsR S6 0
        have rf0 : w7.frozen? ⟨w.heap.size, 0, none⟩ = false := GdSt.froR S6 0
        have r1 : w7.cell? ⟨w.heap.size, 1, none⟩ = some (.int .i64 0) := GdSt.cellsR S6 1
        have rf1 : w7.frozen? ⟨w.heap.size, 1, none⟩ = false := GdSt.froR S6 1
        have r2 : w7.cell? ⟨w.heap.size, 2, none⟩ = some (.int .i64 0) := GdSt.cellsR S6 2
        have rf2 : w7.frozen? ⟨w.heap.size, 2, none⟩ = false := GdSt.froR S6 2
        have r3 : w7.cell? ⟨w.heap.size, 3, none⟩ = some (.int .i64 0) := GdSt.cellsR S6 3
        have rf3 : w7.frozen? ⟨w.heap.size, 3, none⟩ = false := GdSt.froR S6 3
        have r4 : w7.cell? ⟨w.heap.size, 4, none⟩ = some (.int .i64 0) := GdSt.cellsR S6 4
        have rf4 : w7.frozen? ⟨w.heap.size, 4, none⟩ = false := GdSt.froR S6 4
        have r5 : w7.cell? ⟨w.heap.size, 5, none⟩ = some (.int .i64 0) := GdSt.cellsR S6 5
        have rf5 : w7.frozen? ⟨w.heap.size, 5, none⟩ = false := GdSt.froR S6 5
        have r6 : w7.cell? ⟨w.heap.size, 6, none⟩ = some (.int .i64 0) := GdSt.cellsR S6 6
        have rf6 : w7.frozen? ⟨w.heap.size, 6, none⟩ = false := GdSt.froR S6 6
        have r7 : w7.cell? ⟨w.heap.size, 7, none⟩ = some (.int .i64 0) := GdSt.cellsR S6 7
        have rf7 : w7.frozen? ⟨w.heap.size, 7, none⟩ = false := GdSt.froR S6 7
        have r8 : w7.cell? ⟨w.heap.size, 8, none⟩ = some (.slice none 0 0) := GdSt.cellsR S6 8
        have rf8 : w7.frozen? ⟨w.heap.size, 8, none⟩ = false := GdSt.froR S6 8
        have r9 : w7.cell? ⟨w.heap.size, 9, none⟩ = some (.bool false) := GdSt.cellsR S6 9
        have rf9 : w7.frozen? ⟨w.heap.size, 9, none⟩ = false := GdSt.froR S6 9
        go_wp2_with fail
        refine post_ct Tryz.results18 w.heap.size 43 _ _ _ rfl (ten_set T6.out.hR (.int .i64 0) (.int .i64 0) (.int .i64 0) (.int .i64 0) (.int .i64 0) (.int .i64 0) (.int .i64 0) (.int .i64 0) (.slice none 0 0) (.bool false)) Tryz.underlying43 rfl (by kernel_rfl) rfl ?_
        have ho := only_ten (w7.setCell ⟨w1.heap.size, 8, none⟩ (.slice A n c)) w.heap.size (.int .i64 0) (.int .i64 0) (.int .i64 0) (.int .i64 0) (.int .i64 0) (.int .i64 0) (.int .i64 0) (.int .i64 0) (.slice none 0 0) (.bool false)
        have hB : Below w.heap.size w _ := T6.out.o.trans (ho.below (B := w.heap.size) (fun k hk => by omega) T6.out.o.size)
        have hP : getDg s = (Pk.zero, 3) := by simp only [getDg, HBad.out]; rfl
        exact ⟨none, 0, 0, by rw [hP]; rfl, by rw [hP]; rfl, Nat.le_refl _, by rw [hP]; exact Row.nil _ _, hB⟩
      | false =>
        rw [hq] at cb' cb T6
        have HQ : Hid ((g6 s).2.2 = false) := hq
        clear hq
        clear cb'
        have HBad : Hid (gBad s = true) := by simp [Hid, gBad, HQ.out, isSum, HSum.out, HDash.out]
        have r0 : w7.cell? ⟨w.heap.size, 0, none⟩ = some (.int .i64 0) := GdSt.cellsR S6 0
        have rf0 : w7.frozen? ⟨w.heap.size, 0, none⟩ = false := GdSt.froR S6 0
        have r1 : w7.cell? ⟨w.heap.size, 1, none⟩ = some (.int .i64 0) := GdSt.cellsR S6 1
        have rf1 : w7.frozen? ⟨w.heap.size, 1, none⟩ = false := GdSt.froR S6 1
        have r2 : w7.cell? ⟨w.heap.size, 2, none⟩ = some (.int .i64 0) := GdSt.cellsR S6 2
        have rf2 : w7.frozen? ⟨w.heap.size, 2, none⟩ = false := GdSt.froR S6 2
        have r3 : w7.cell? ⟨w.heap.size, 3, none⟩ = some (.int .i64 0) := GdSt.cellsR S6 3
        have rf3 : w7.frozen? ⟨w.heap.size, 3, none⟩ = false := GdSt.froR S6 3
        have r4 : w7.cell? ⟨w.heap.size, 4, none⟩ = some (.int .i64 0) := GdSt.cellsR S6 4
        have rf4 : w7.frozen? ⟨w.heap.size, 4, none⟩ = false := GdSt.froR S6 4
        have r5 : w7.cell? ⟨w.heap.size, 5, none⟩ = some (.int .i64 0) := GdSt.cellsR S6 5
        have rf5 : w7.frozen? ⟨w.heap.size, 5, none⟩ = false := GdSt.froR S6 5
        have r6 : w7.cell? ⟨w.heap.size, 6, none⟩ = some (.int .i64 0) := GdSt.cellsR S6 6
        have rf6 : w7.frozen? ⟨w.heap.size, 6, none⟩ = false := GdSt.froR S6 6
        have r7 : w7.cell? ⟨w.heap.size, 7, none⟩ = some (.int .i64 0) := GdSt.cellsR S6 7
        have rf7 : w7.frozen? ⟨w.heap.size, 7, none⟩ = false := GdSt.froR S6 7
        have r8 : w7.cell? ⟨w.heap.size, 8, none⟩ = some (.slice none 0 0) := GdSt.cellsR S6 8
        have rf8 : w7.frozen? ⟨w.heap.size, 8, none⟩ = false := GdSt.froR S6 8
        have r9 : w7.cell? ⟨w.heap.size, 9, none⟩ = some (.bool false) := GdSt.cellsR S6 9
        have rf9 : w7.frozen? ⟨w.heap.size, 9, none⟩ = false := GdSt.froR S6 9
        go_wp2_with fail
        refine post_ct Tryz.results18 w.heap.size 43 _ _ _ rfl (ten_set T6.out.hR (.int .i64 0) (.int .i64 0) (.int .i64 0) (.int .i64 0) (.int .i64 0) (.int .i64 0) (.int .i64 0) (.int .i64 0) (.slice none 0 0) (.bool false)) Tryz.underlying43 rfl (by kernel_rfl) rfl ?_
        have ho := only_ten (w7.setCell ⟨w1.heap.size, 8, none⟩ (.slice A n c)) w.heap.size (.int .i64 0) (.int .i64 0) (.int .i64 0) (.int .i64 0) (.int .i64 0) (.int .i64 0) (.int .i64 0) (.int .i64 0) (.slice none 0 0) (.bool false)
        have hB : Below w.heap.size w _ := T6.out.o.trans (ho.below (B := w.heap.size) (fun k hk => by omega) T6.out.o.size)
        have hP : getDg s = (Pk.zero, 3) := by simp only [getDg, HBad.out]; rfl
        exact ⟨none, 0, 0, by rw [hP]; rfl, by rw [hP]; rfl, Nat.le_refl _, by rw [hP]; exact Row.nil _ _, hB⟩
end Go.Proofs.YtkbmljagcondhaaGreatDoor
