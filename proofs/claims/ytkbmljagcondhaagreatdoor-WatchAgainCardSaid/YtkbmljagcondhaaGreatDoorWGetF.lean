/- watch.GetFrame, walked. -/
import Derived.Test.YtkbmljagcondhaaGreatDoorWGetD
import Derived.Test.YtkbmljagcondhaaGreatDoorWSet
open Go Go.RowKit
set_option linter.unusedSimpArgs false
set_option linter.unusedVariables false
namespace Go.Proofs.YtkbmljagcondhaaGreatDoor
structure Fr where
  k : Int
  id : Int
  seq : Int
  n : Int
  l : List UInt8
def Fr.cells (p : Fr) (A : Option Addr) (n c : Nat) : Array Value := #[.int .i64 p.k, .int .i64 p.id, .int .i64 p.seq, .int .i64 p.n, .slice A n c]
def Fr.zero : Fr := ⟨0, 0, 0, 0, []⟩
def h0 (s : ByteArray) : List ByteArray × Bool := readP s ⟨#[70]⟩ 6
def h1 (s : ByteArray) := numberP (h0 s).1 (h0 s).2
def h2 (s : ByteArray) := numberP (h1 s).2.1 (h1 s).2.2
def h3 (s : ByteArray) := numberP (h2 s).2.1 (h2 s).2.2
def h4 (s : ByteArray) := numberP (h3 s).2.1 (h3 s).2.2
def h5 (s : ByteArray) := rdataP (h4 s).2.1 (h4 s).2.2
def getFr (s : ByteArray) : Fr × Int := if (h5 s).2.2 then (Fr.zero, 3) else (⟨(h1 s).1, (h2 s).1, (h3 s).1, (h4 s).1, (h5 s).1⟩, 0)
def FrEnd (r : Fr × Int) (w : World) (e : Ending) (w' : World) : Prop :=
  ∃ A n c, n = r.1.l.length ∧ e = .returned (.tuple #[.agg (r.1.cells A n c), .int .i64 r.2]) ∧ n ≤ c ∧ Row w' A (bts r.1.l) ∧ Below w.heap.size w w'
set_option maxRecDepth 100000 in
set_option maxHeartbeats 4000000 in
theorem getFrame_c (s : ByteArray) (hs : s.size ≤ 50000) (w : World) (G : Glob w) : Calls Tryz.prog 22 #[.string s] w (FrEnd (getFr s) w) := by
  have hb0 : Below w.heap.size w (w.alloc (.cells #[.int .i64 0, .int .i64 0, .int .i64 0, .int .i64 0, .slice none 0 0] 45)) := (Below.refl _ _).alloc (Nat.le_refl _) _
  have HG0 : Hid (Glob (w.alloc (.cells #[.int .i64 0, .int .i64 0, .int .i64 0, .int .i64 0, .slice none 0 0] 45))) := G.below hb0 G.low
  have L8 : Hid (8 ≤ w.heap.size) := G.low
  have HS : Hid (s.size ≤ 50000) := hs
  clear G hs hb0
  go_enter Tryz.func22, Tryz.ntmps22
  go_wp2_with fail
  refine (read_c s ⟨#[70]⟩ 6 HS.out _ HG0.out).mono ?_
  rintro e w1 ⟨b, rfl, hb, hR1, hw1⟩
  have hz : w.heap.size + 1 ≤ w1.heap.size := by have := hw1.size; simpa using this
  have hb' : w.heap.size + 1 ≤ b := by simpa using hb
  have hbl : b < w1.heap.size := blk_lt hR1.at_.choose_spec.choose_spec.1
  have h1 : Below w1.heap.size w1 (w1.alloc (.cells #[.int .i64 0, .int .i64 0, .int .i64 0, .int .i64 0, .slice none 0 0] 45)) := (Below.refl _ _).alloc (Nat.le_refl _) _
  have HZ : Hid (w.heap.size + 1 ≤ w1.heap.size ∧ w.heap.size + 1 ≤ b ∧ b < w1.heap.size) := ⟨hz, hb', hbl⟩
  have S0 : Hid (GdSt w w.heap.size w1.heap.size 45 45 #[.int .i64 0, .int .i64 0, .int .i64 0, .int .i64 0, .slice none 0 0] #[.int .i64 0, .int .i64 0, .int .i64 0, .int .i64 0, .slice none 0 0] b (h0 s).1 (h0 s).2 (w1.alloc (.cells #[.int .i64 0, .int .i64 0, .int .i64 0, .int .i64 0, .slice none 0 0] 45))) :=
    ⟨(HG0.out.below hw1 HG0.out.low).below h1 (HG0.out.below hw1 HG0.out.low).low, hR1.below h1, readP_short s _ _ HS.out, (((Below.refl _ _).alloc (Nat.le_refl _) _).trans (hw1.mono (by simp))).trans (h1.mono (by omega)),
     blk_below (blk_below (blk_new w _) hw1 (by simp)) h1 (by omega), blk_new _ _, ⟨by omega, by omega, by omega⟩, ⟨by omega, by omega, by omega⟩, L8.out, by decide, ⟨rfl, rfl⟩⟩
  clear hw1 hR1 hz hb hb' hbl h1 HG0
  go_wp2_with fail
  refine (show Calls Tryz.prog 52 #[.pointer (some ⟨b, 0, none⟩)] _ (fun e w' => e = .returned (.int .i64 (h1 s).1) ∧ Hid (GdSt _ _ _ _ _ _ _ _ (h1 s).2.1 (h1 s).2.2 w')) from GdSt.number S0).mono ?_
  rintro e w2 ⟨rfl, S1⟩
  clear S0
  have c0 : w2.cell? ⟨w1.heap.size, 0, none⟩ = some (.int .i64 0) := GdSt.cells S1 0
  have f0 : w2.frozen? ⟨w1.heap.size, 0, none⟩ = false := GdSt.fro S1 0
  have T1 : Hid (GdSt _ _ _ _ _ _ #[.int .i64 (h1 s).1, .int .i64 0, .int .i64 0, .int .i64 0, .slice none 0 0] _ _ _ _) := GdSt.set (S1) 0 (.int .i64 (h1 s).1) rfl
  go_wp2_with fail
  generalize hW : (w2.setCell ⟨w1.heap.size, 0, none⟩ (.int .i64 (h1 s).1)) = W1 at T1 ⊢
  clear hW c0 f0 S1
  refine (show Calls Tryz.prog 52 #[.pointer (some ⟨b, 0, none⟩)] _ (fun e w' => e = .returned (.int .i64 (h2 s).1) ∧ Hid (GdSt _ _ _ _ _ _ _ _ (h2 s).2.1 (h2 s).2.2 w')) from GdSt.number T1).mono ?_
  rintro e w3 ⟨rfl, S2⟩
  clear T1
  have c1 : w3.cell? ⟨w1.heap.size, 1, none⟩ = some (.int .i64 0) := GdSt.cells S2 1
  have f1 : w3.frozen? ⟨w1.heap.size, 1, none⟩ = false := GdSt.fro S2 1
  have T2 : Hid (GdSt _ _ _ _ _ _ #[.int .i64 (h1 s).1, .int .i64 (h2 s).1, .int .i64 0, .int .i64 0, .slice none 0 0] _ _ _ _) := GdSt.set (S2) 1 (.int .i64 (h2 s).1) rfl
  go_wp2_with fail
  generalize hW : (w3.setCell ⟨w1.heap.size, 1, none⟩ (.int .i64 (h2 s).1)) = W2 at T2 ⊢
  clear hW c1 f1 S2
  refine (show Calls Tryz.prog 52 #[.pointer (some ⟨b, 0, none⟩)] _ (fun e w' => e = .returned (.int .i64 (h3 s).1) ∧ Hid (GdSt _ _ _ _ _ _ _ _ (h3 s).2.1 (h3 s).2.2 w')) from GdSt.number T2).mono ?_
  rintro e w4 ⟨rfl, S3⟩
  clear T2
  have c2 : w4.cell? ⟨w1.heap.size, 2, none⟩ = some (.int .i64 0) := GdSt.cells S3 2
  have f2 : w4.frozen? ⟨w1.heap.size, 2, none⟩ = false := GdSt.fro S3 2
  have T3 : Hid (GdSt _ _ _ _ _ _ #[.int .i64 (h1 s).1, .int .i64 (h2 s).1, .int .i64 (h3 s).1, .int .i64 0, .slice none 0 0] _ _ _ _) := GdSt.set (S3) 2 (.int .i64 (h3 s).1) rfl
  go_wp2_with fail
  generalize hW : (w4.setCell ⟨w1.heap.size, 2, none⟩ (.int .i64 (h3 s).1)) = W3 at T3 ⊢
  clear hW c2 f2 S3
  refine (show Calls Tryz.prog 52 #[.pointer (some ⟨b, 0, none⟩)] _ (fun e w' => e = .returned (.int .i64 (h4 s).1) ∧ Hid (GdSt _ _ _ _ _ _ _ _ (h4 s).2.1 (h4 s).2.2 w')) from GdSt.number T3).mono ?_
  rintro e w5 ⟨rfl, S4⟩
  clear T3
  have c3 : w5.cell? ⟨w1.heap.size, 3, none⟩ = some (.int .i64 0) := GdSt.cells S4 3
  have f3 : w5.frozen? ⟨w1.heap.size, 3, none⟩ = false := GdSt.fro S4 3
  have T4 : Hid (GdSt _ _ _ _ _ _ #[.int .i64 (h1 s).1, .int .i64 (h2 s).1, .int .i64 (h3 s).1, .int .i64 (h4 s).1, .slice none 0 0] _ _ _ _) := GdSt.set (S4) 3 (.int .i64 (h4 s).1) rfl
  go_wp2_with fail
  generalize hW : (w5.setCell ⟨w1.heap.size, 3, none⟩ (.int .i64 (h4 s).1)) = W4 at T4 ⊢
  clear hW c3 f3 S4
  refine (GdSt.data T4).mono ?_
  rintro e w6 ⟨A, c, n, hn, rfl, hc, hn2, hrow, SD⟩
  clear T4
  have HN : Hid (n = (h5 s).1.length) := hn
  clear hn
  have c4 : w6.cell? ⟨w1.heap.size, 4, none⟩ = some (.slice none 0 0) := GdSt.cells SD 4
  have f4 : w6.frozen? ⟨w1.heap.size, 4, none⟩ = false := GdSt.fro SD 4
  have HRow : Hid (Row (w6.setCell ⟨w1.heap.size, 4, none⟩ (.slice A n c)) A (bts (h5 s).1)) := row_far SD.out.hP SD.out.nr.2 hrow
  have TD : Hid (GdSt _ _ _ _ _ _ #[.int .i64 (h1 s).1, .int .i64 (h2 s).1, .int .i64 (h3 s).1, .int .i64 (h4 s).1, .slice A n c] _ _ (h5 s).2.2 (w6.setCell ⟨w1.heap.size, 4, none⟩ (.slice A n c))) := GdSt.set SD 4 (.slice A n c) rfl
  have cb : w6.cell? ⟨b, 1, none⟩ = some (.bool (h5 s).2.2) := (GdSt.flag SD).1
  clear hrow
  have nr1 : ¬ w.heap.size = w1.heap.size := by have := HZ.out; omega
  have nr2 : ¬ w1.heap.size = w.heap.size := by have := HZ.out; omega
  have nb : ¬ b = w1.heap.size := by have := HZ.out; omega
  have nb2 : ¬ w1.heap.size = b := by have := HZ.out; omega
  cases hq : (h5 s).2.2
  · -- nothing was wrong
    rw [hq] at cb TD
    have HQ : Hid ((h5 s).2.2 = false) := hq
    clear hq
    have r0 : w6.cell? ⟨w.heap.size, 0, none⟩ = some (.int .i64 0) := GdSt.cellsR SD 0
    have rf0 : w6.frozen? ⟨w.heap.size, 0, none⟩ = false := GdSt.froR SD 0
    have r1 : w6.cell? ⟨w.heap.size, 1, none⟩ = some (.int .i64 0) := GdSt.cellsR SD 1
    have rf1 : w6.frozen? ⟨w.heap.size, 1, none⟩ = false := GdSt.froR SD 1
    have r2 : w6.cell? ⟨w.heap.size, 2, none⟩ = some (.int .i64 0) := GdSt.cellsR SD 2
    have rf2 : w6.frozen? ⟨w.heap.size, 2, none⟩ = false := GdSt.froR SD 2
    have r3 : w6.cell? ⟨w.heap.size, 3, none⟩ = some (.int .i64 0) := GdSt.cellsR SD 3
    have rf3 : w6.frozen? ⟨w.heap.size, 3, none⟩ = false := GdSt.froR SD 3
    have r4 : w6.cell? ⟨w.heap.size, 4, none⟩ = some (.slice none 0 0) := GdSt.cellsR SD 4
    have rf4 : w6.frozen? ⟨w.heap.size, 4, none⟩ = false := GdSt.froR SD 4
    have p0 : w6.cell? ⟨w1.heap.size, 0, none⟩ = some (.int .i64 (h1 s).1) := GdSt.cells SD 0
    have p1 : w6.cell? ⟨w1.heap.size, 1, none⟩ = some (.int .i64 (h2 s).1) := GdSt.cells SD 1
    have p2 : w6.cell? ⟨w1.heap.size, 2, none⟩ = some (.int .i64 (h3 s).1) := GdSt.cells SD 2
    have p3 : w6.cell? ⟨w1.heap.size, 3, none⟩ = some (.int .i64 (h4 s).1) := GdSt.cells SD 3
    go_wp2_with fail
    refine post_ct Tryz.results22 w.heap.size 45 _ _ _ rfl (set_5 TD.out.hR (.int .i64 (h1 s).1) (.int .i64 (h2 s).1) (.int .i64 (h3 s).1) (.int .i64 (h4 s).1) (.slice A n c)) Tryz.underlying45 rfl (by kernel_rfl) rfl ?_
    have ho := onlyset_5 (w6.setCell ⟨w1.heap.size, 4, none⟩ (.slice A n c)) w.heap.size (.int .i64 (h1 s).1) (.int .i64 (h2 s).1) (.int .i64 (h3 s).1) (.int .i64 (h4 s).1) (.slice A n c)
    have hB : Below w.heap.size w _ := TD.out.o.trans (ho.below (B := w.heap.size) (fun k hk => by omega) TD.out.o.size)
    have hP : getFr s = (⟨(h1 s).1, (h2 s).1, (h3 s).1, (h4 s).1, (h5 s).1⟩, 0) := by simp only [getFr, HQ.out]; rfl
    refine ⟨A, n, c, by rw [hP]; exact HN.out, by rw [hP]; rfl, hc, ?_, hB⟩
    rw [hP]
    exact row_only TD.out.hR TD.out.nr.1 ho HRow.out
  · -- something was wrong
    rw [hq] at cb TD
    have HQ : Hid ((h5 s).2.2 = true) := hq
    clear hq
    have r0 : w6.cell? ⟨w.heap.size, 0, none⟩ = some (.int .i64 0) := GdSt.cellsR SD 0
    have rf0 : w6.frozen? ⟨w.heap.size, 0, none⟩ = false := GdSt.froR SD 0
    have r1 : w6.cell? ⟨w.heap.size, 1, none⟩ = some (.int .i64 0) := GdSt.cellsR SD 1
    have rf1 : w6.frozen? ⟨w.heap.size, 1, none⟩ = false := GdSt.froR SD 1
    have r2 : w6.cell? ⟨w.heap.size, 2, none⟩ = some (.int .i64 0) := GdSt.cellsR SD 2
    have rf2 : w6.frozen? ⟨w.heap.size, 2, none⟩ = false := GdSt.froR SD 2
    have r3 : w6.cell? ⟨w.heap.size, 3, none⟩ = some (.int .i64 0) := GdSt.cellsR SD 3
    have rf3 : w6.frozen? ⟨w.heap.size, 3, none⟩ = false := GdSt.froR SD 3
    have r4 : w6.cell? ⟨w.heap.size, 4, none⟩ = some (.slice none 0 0) := GdSt.cellsR SD 4
    have rf4 : w6.frozen? ⟨w.heap.size, 4, none⟩ = false := GdSt.froR SD 4
    go_wp2_with fail
    refine post_ct Tryz.results22 w.heap.size 45 _ _ _ rfl (set_5 TD.out.hR (.int .i64 0) (.int .i64 0) (.int .i64 0) (.int .i64 0) (.slice none 0 0)) Tryz.underlying45 rfl (by kernel_rfl) rfl ?_
    have ho := onlyset_5 (w6.setCell ⟨w1.heap.size, 4, none⟩ (.slice A n c)) w.heap.size (.int .i64 0) (.int .i64 0) (.int .i64 0) (.int .i64 0) (.slice none 0 0)
    have hB : Below w.heap.size w _ := TD.out.o.trans (ho.below (B := w.heap.size) (fun k hk => by omega) TD.out.o.size)
    have hP : getFr s = (Fr.zero, 3) := by simp only [getFr, HQ.out]; rfl
    exact ⟨none, 0, 0, by rw [hP]; rfl, by rw [hP]; rfl, Nat.le_refl _, by rw [hP]; exact Row.nil _ _, hB⟩
end Go.Proofs.YtkbmljagcondhaaGreatDoor
