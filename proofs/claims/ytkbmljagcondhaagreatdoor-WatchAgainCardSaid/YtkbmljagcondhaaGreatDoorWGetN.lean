/- watch.GetName, walked. -/
import Derived.Test.YtkbmljagcondhaaGreatDoorWName
open Go Go.RowKit
set_option linter.unusedSimpArgs false
set_option linter.unusedVariables false
namespace Go.Proofs.YtkbmljagcondhaaGreatDoor
def Nm.zero : Nm := ⟨⟨#[]⟩, ⟨#[]⟩, ⟨#[]⟩, 0, 0, 0, 0⟩
def n0 (s : ByteArray) : List ByteArray × Bool := readP s ⟨#[78]⟩ 4
def n1 (s : ByteArray) := wordP (n0 s).1 (n0 s).2
def n2 (s : ByteArray) := ptP (n1 s).2.1 (n1 s).2.2
def n3 (s : ByteArray) := numberP (n2 s).2.1 (n2 s).2.2
def qNm (s : ByteArray) : Nm := ⟨(parseP (n1 s).1).1, (parseP (n1 s).1).2.1, (parseP (n1 s).1).2.2.1, (n2 s).1.1, (n2 s).1.2.1, (n2 s).1.2.2, (n3 s).1⟩
def nmOk (s : ByteArray) : Bool := !(n3 s).2.2 && decide ((parseP (n1 s).1).2.2.2 = 0) && nmE ((parseP (n1 s).1).1) ((parseP (n1 s).1).2.1) ((parseP (n1 s).1).2.2.1) (n2 s).1.1 (n2 s).1.2.1 (n2 s).1.2.2 (n3 s).1 && decide (joinB (nmL ((parseP (n1 s).1).1) ((parseP (n1 s).1).2.1) ((parseP (n1 s).1).2.2.1) (n2 s).1.1 (n2 s).1.2.1 (n2 s).1.2.2 (n3 s).1) = s.data.toList)
def getNm (s : ByteArray) : Nm × Int := if nmOk s = true then (qNm s, 0) else (Nm.zero, 3)
def NmEnd (r : Nm × Int) (w : World) (e : Ending) (w' : World) : Prop := e = .returned (.tuple #[.agg r.1.cells, .int .i64 r.2]) ∧ Below w.heap.size w w'
set_option maxRecDepth 100000 in
set_option maxHeartbeats 4000000 in
theorem getName_c (s : ByteArray) (hs : s.size ≤ 50000) (w : World) (G : Glob w) : Calls Tryz.prog 21 #[.string s] w (NmEnd (getNm s) w) := by
  have hb0 : Below w.heap.size w (w.alloc (.cells #[.string ⟨#[]⟩, .string ⟨#[]⟩, .string ⟨#[]⟩, .int .i64 0, .int .i64 0, .int .i64 0, .int .i64 0] 49)) := (Below.refl _ _).alloc (Nat.le_refl _) _
  have HG0 : Hid (Glob (w.alloc (.cells #[.string ⟨#[]⟩, .string ⟨#[]⟩, .string ⟨#[]⟩, .int .i64 0, .int .i64 0, .int .i64 0, .int .i64 0] 49))) := G.below hb0 G.low
  have L8 : Hid (8 ≤ w.heap.size) := G.low
  have HS : Hid (s.size ≤ 50000) := hs
  clear G hs hb0
  go_enter Tryz.func21, Tryz.ntmps21
  go_wp2_with fail
  refine (read_c s ⟨#[78]⟩ 4 HS.out _ HG0.out).mono ?_
  rintro e w1 ⟨b, rfl, hb, hR1, hw1⟩
  have hz : w.heap.size + 1 ≤ w1.heap.size := by have := hw1.size; simpa using this
  have hb' : w.heap.size + 1 ≤ b := by simpa using hb
  have hbl : b < w1.heap.size := blk_lt hR1.at_.choose_spec.choose_spec.1
  have h1 : Below w1.heap.size w1 (w1.alloc (.cells #[.string ⟨#[]⟩, .string ⟨#[]⟩, .string ⟨#[]⟩, .int .i64 0, .int .i64 0, .int .i64 0, .int .i64 0] 49)) := (Below.refl _ _).alloc (Nat.le_refl _) _
  have HZ : Hid (w.heap.size + 1 ≤ w1.heap.size ∧ w.heap.size + 1 ≤ b ∧ b < w1.heap.size) := ⟨hz, hb', hbl⟩
  have S0 : Hid (GdSt w w.heap.size w1.heap.size 49 49 #[.string ⟨#[]⟩, .string ⟨#[]⟩, .string ⟨#[]⟩, .int .i64 0, .int .i64 0, .int .i64 0, .int .i64 0] #[.string ⟨#[]⟩, .string ⟨#[]⟩, .string ⟨#[]⟩, .int .i64 0, .int .i64 0, .int .i64 0, .int .i64 0] b (n0 s).1 (n0 s).2 (w1.alloc (.cells #[.string ⟨#[]⟩, .string ⟨#[]⟩, .string ⟨#[]⟩, .int .i64 0, .int .i64 0, .int .i64 0, .int .i64 0] 49))) :=
    ⟨(HG0.out.below hw1 HG0.out.low).below h1 (HG0.out.below hw1 HG0.out.low).low, hR1.below h1, readP_short s _ _ HS.out, (((Below.refl _ _).alloc (Nat.le_refl _) _).trans (hw1.mono (by simp))).trans (h1.mono (by omega)),
     blk_below (blk_below (blk_new w _) hw1 (by simp)) h1 (by omega), blk_new _ _, ⟨by omega, by omega, by omega⟩, ⟨by omega, by omega, by omega⟩, L8.out, by decide, ⟨rfl, rfl⟩⟩
  clear hw1 hR1 hz hb hb' hbl h1 HG0
  go_wp2_with fail
  refine (show Calls Tryz.prog 54 #[.pointer (some ⟨b, 0, none⟩)] _ (fun e w' => e = .returned (.string (n1 s).1) ∧ Hid (GdSt _ _ _ _ _ _ _ _ (n1 s).2.1 (n1 s).2.2 w')) from GdSt.word S0).mono ?_
  rintro e w2 ⟨rfl, S1⟩
  clear S0
  have hsz : (n1 s).1.size ≤ 1000000 := (Short.word (readP_short s ⟨#[78]⟩ 4 HS.out) _).1
  go_wp2_with fail
  refine (parse_c (n1 s).1 hsz _ S1.out.gl).mono ?_
  clear hsz
  rintro e wp ⟨rfl, hwp⟩
  generalize hpe : (parseP (n1 s).1).2.2.2 = pe
  have HPE : Hid ((parseP (n1 s).1).2.2.2 = pe) := hpe
  clear hpe
  have SP : Hid (GdSt _ _ _ _ _ _ _ _ (n1 s).2.1 (n1 s).2.2 wp) := S1.out.new hwp
  clear hwp S1
  have c0 : wp.cell? ⟨w1.heap.size, 0, none⟩ = some (.string ⟨#[]⟩) := GdSt.cells SP 0
  have f0 : wp.frozen? ⟨w1.heap.size, 0, none⟩ = false := GdSt.fro SP 0
  have c1 : wp.cell? ⟨w1.heap.size, 1, none⟩ = some (.string ⟨#[]⟩) := GdSt.cells SP 1
  have f1 : wp.frozen? ⟨w1.heap.size, 1, none⟩ = false := GdSt.fro SP 1
  have c2 : wp.cell? ⟨w1.heap.size, 2, none⟩ = some (.string ⟨#[]⟩) := GdSt.cells SP 2
  have f2 : wp.frozen? ⟨w1.heap.size, 2, none⟩ = false := GdSt.fro SP 2
  have T1 : Hid (GdSt _ _ _ _ _ _ #[.string (parseP (n1 s).1).1, .string (parseP (n1 s).1).2.1, .string (parseP (n1 s).1).2.2.1, .int .i64 0, .int .i64 0, .int .i64 0, .int .i64 0] _ _ _ _) := GdSt.set (GdSt.set (GdSt.set (SP) 0 (.string (parseP (n1 s).1).1) rfl) 1 (.string (parseP (n1 s).1).2.1) rfl) 2 (.string (parseP (n1 s).1).2.2.1) rfl
  go_wp2_with fail
  generalize hW : (((wp.setCell ⟨w1.heap.size, 0, none⟩ (.string (parseP (n1 s).1).1)).setCell ⟨w1.heap.size, 1, none⟩ (.string (parseP (n1 s).1).2.1)).setCell ⟨w1.heap.size, 2, none⟩ (.string (parseP (n1 s).1).2.2.1)) = W1 at T1 ⊢
  clear hW c0 f0 c1 f1 c2 f2 SP
  refine (show Calls Tryz.prog 53 #[.pointer (some ⟨b, 0, none⟩)] _ (fun e w' => e = .returned (.tuple #[.agg #[.int .i64 (n2 s).1.1, .int .i64 (n2 s).1.2.1], .int .i64 (n2 s).1.2.2]) ∧ Hid (GdSt _ _ _ _ _ _ _ _ (n2 s).2.1 (n2 s).2.2 w')) from GdSt.point T1).mono ?_
  rintro e w3 ⟨rfl, S2⟩
  clear T1
  have c3 : w3.cell? ⟨w1.heap.size, 3, none⟩ = some (.int .i64 0) := GdSt.cells S2 3
  have f3 : w3.frozen? ⟨w1.heap.size, 3, none⟩ = false := GdSt.fro S2 3
  have c4 : w3.cell? ⟨w1.heap.size, 4, none⟩ = some (.int .i64 0) := GdSt.cells S2 4
  have f4 : w3.frozen? ⟨w1.heap.size, 4, none⟩ = false := GdSt.fro S2 4
  have c5 : w3.cell? ⟨w1.heap.size, 5, none⟩ = some (.int .i64 0) := GdSt.cells S2 5
  have f5 : w3.frozen? ⟨w1.heap.size, 5, none⟩ = false := GdSt.fro S2 5
  have T2 : Hid (GdSt _ _ _ _ _ _ #[.string (parseP (n1 s).1).1, .string (parseP (n1 s).1).2.1, .string (parseP (n1 s).1).2.2.1, .int .i64 (n2 s).1.1, .int .i64 (n2 s).1.2.1, .int .i64 (n2 s).1.2.2, .int .i64 0] _ _ _ _) := GdSt.set (GdSt.set (GdSt.set (S2) 3 (.int .i64 (n2 s).1.1) rfl) 4 (.int .i64 (n2 s).1.2.1) rfl) 5 (.int .i64 (n2 s).1.2.2) rfl
  go_wp2_with fail
  generalize hW : (((w3.setCell ⟨w1.heap.size, 3, none⟩ (.int .i64 (n2 s).1.1)).setCell ⟨w1.heap.size, 4, none⟩ (.int .i64 (n2 s).1.2.1)).setCell ⟨w1.heap.size, 5, none⟩ (.int .i64 (n2 s).1.2.2)) = W2 at T2 ⊢
  clear hW c3 f3 c4 f4 c5 f5 S2
  refine (show Calls Tryz.prog 52 #[.pointer (some ⟨b, 0, none⟩)] _ (fun e w' => e = .returned (.int .i64 (n3 s).1) ∧ Hid (GdSt _ _ _ _ _ _ _ _ (n3 s).2.1 (n3 s).2.2 w')) from GdSt.number T2).mono ?_
  rintro e w4 ⟨rfl, S3⟩
  clear T2
  have p0 : w4.cell? ⟨w1.heap.size, 0, none⟩ = some (.string (parseP (n1 s).1).1) := GdSt.cells S3 0
  have p1 : w4.cell? ⟨w1.heap.size, 1, none⟩ = some (.string (parseP (n1 s).1).2.1) := GdSt.cells S3 1
  have p2 : w4.cell? ⟨w1.heap.size, 2, none⟩ = some (.string (parseP (n1 s).1).2.2.1) := GdSt.cells S3 2
  have p3 : w4.cell? ⟨w1.heap.size, 3, none⟩ = some (.int .i64 (n2 s).1.1) := GdSt.cells S3 3
  have p4 : w4.cell? ⟨w1.heap.size, 4, none⟩ = some (.int .i64 (n2 s).1.2.1) := GdSt.cells S3 4
  have p5 : w4.cell? ⟨w1.heap.size, 5, none⟩ = some (.int .i64 (n2 s).1.2.2) := GdSt.cells S3 5
  have p6 : w4.cell? ⟨w1.heap.size, 6, none⟩ = some (.int .i64 0) := GdSt.cells S3 6
  have f6 : w4.frozen? ⟨w1.heap.size, 6, none⟩ = false := GdSt.fro S3 6
  have TD : Hid (GdSt _ _ _ _ _ _ #[.string (parseP (n1 s).1).1, .string (parseP (n1 s).1).2.1, .string (parseP (n1 s).1).2.2.1, .int .i64 (n2 s).1.1, .int .i64 (n2 s).1.2.1, .int .i64 (n2 s).1.2.2, .int .i64 (n3 s).1] _ _ _ _) := GdSt.set S3 6 (.int .i64 (n3 s).1) rfl
  go_wp2_with fail
  refine (name_c ((parseP (n1 s).1).1) ((parseP (n1 s).1).2.1) ((parseP (n1 s).1).2.2.1) (n2 s).1.1 (n2 s).1.2.1 (n2 s).1.2.2 (n3 s).1 _ TD.out.gl).mono ?_
  rintro e w8 ⟨rfl, hw8⟩
  have S7 : Hid (GdSt _ _ _ _ _ _ #[.string (parseP (n1 s).1).1, .string (parseP (n1 s).1).2.1, .string (parseP (n1 s).1).2.2.1, .int .i64 (n2 s).1.1, .int .i64 (n2 s).1.2.1, .int .i64 (n2 s).1.2.2, .int .i64 (n3 s).1] _ _ (n3 s).2.2 w8) := TD.out.new hw8
  clear TD hw8 S3 f6 p0 p1 p2 p3 p4 p5 p6
  have cb : w8.cell? ⟨b, 1, none⟩ = some (.bool (n3 s).2.2) := (GdSt.flag S7).1
  have nr1 : ¬ w.heap.size = w1.heap.size := by have := HZ.out; omega
  have nr2 : ¬ w1.heap.size = w.heap.size := by have := HZ.out; omega
  have e8 : ∀ x, nmE ((parseP (n1 s).1).1) ((parseP (n1 s).1).2.1) ((parseP (n1 s).1).2.2.1) (n2 s).1.1 (n2 s).1.2.1 (n2 s).1.2.2 (n3 s).1 = x → nmR ((parseP (n1 s).1).1) ((parseP (n1 s).1).2.1) ((parseP (n1 s).1).2.2.1) (n2 s).1.1 (n2 s).1.2.1 (n2 s).1.2.2 (n3 s).1 = if x then #[.string (BA (joinB (nmL ((parseP (n1 s).1).1) ((parseP (n1 s).1).2.1) ((parseP (n1 s).1).2.2.1) (n2 s).1.1 (n2 s).1.2.1 (n2 s).1.2.2 (n3 s).1))), .int .i64 0] else #[.string ⟨#[]⟩, .int .i64 2] := fun x h => by rw [nmR, h]
  cases hnm : nmE ((parseP (n1 s).1).1) ((parseP (n1 s).1).2.1) ((parseP (n1 s).1).2.2.1) (n2 s).1.1 (n2 s).1.2.1 (n2 s).1.2.2 (n3 s).1
  · rw [e8 false hnm, if_neg (by decide)]
    have HN : Hid (nmOk s = false) := by unfold Hid nmOk; rw [hnm]; simp
    clear e8 hnm HPE
    generalize hq : (n3 s).2.2 = q at cb S7 ⊢
    clear hq
    cases q
    · by_cases hp0 : pe = 0
      · subst hp0
        have r0 : w8.cell? ⟨w.heap.size, 0, none⟩ = some (.string ⟨#[]⟩) := GdSt.cellsR S7 0
        have rf0 : w8.frozen? ⟨w.heap.size, 0, none⟩ = false := GdSt.froR S7 0
        have r1 : w8.cell? ⟨w.heap.size, 1, none⟩ = some (.string ⟨#[]⟩) := GdSt.cellsR S7 1
        have rf1 : w8.frozen? ⟨w.heap.size, 1, none⟩ = false := GdSt.froR S7 1
        have r2 : w8.cell? ⟨w.heap.size, 2, none⟩ = some (.string ⟨#[]⟩) := GdSt.cellsR S7 2
        have rf2 : w8.frozen? ⟨w.heap.size, 2, none⟩ = false := GdSt.froR S7 2
        have r3 : w8.cell? ⟨w.heap.size, 3, none⟩ = some (.int .i64 0) := GdSt.cellsR S7 3
        have rf3 : w8.frozen? ⟨w.heap.size, 3, none⟩ = false := GdSt.froR S7 3
        have r4 : w8.cell? ⟨w.heap.size, 4, none⟩ = some (.int .i64 0) := GdSt.cellsR S7 4
        have rf4 : w8.frozen? ⟨w.heap.size, 4, none⟩ = false := GdSt.froR S7 4
        have r5 : w8.cell? ⟨w.heap.size, 5, none⟩ = some (.int .i64 0) := GdSt.cellsR S7 5
        have rf5 : w8.frozen? ⟨w.heap.size, 5, none⟩ = false := GdSt.froR S7 5
        have r6 : w8.cell? ⟨w.heap.size, 6, none⟩ = some (.int .i64 0) := GdSt.cellsR S7 6
        have rf6 : w8.frozen? ⟨w.heap.size, 6, none⟩ = false := GdSt.froR S7 6
        go_wp2_with fail
        refine post_ct Tryz.results21 w.heap.size 49 _ _ _ rfl (set_7 S7.out.hR (.string ⟨#[]⟩) (.string ⟨#[]⟩) (.string ⟨#[]⟩) (.int .i64 0) (.int .i64 0) (.int .i64 0) (.int .i64 0)) Tryz.underlying49 rfl (by kernel_rfl) rfl ?_
        have ho := onlyset_7 w8 w.heap.size (.string ⟨#[]⟩) (.string ⟨#[]⟩) (.string ⟨#[]⟩) (.int .i64 0) (.int .i64 0) (.int .i64 0) (.int .i64 0)
        have hB : Below w.heap.size w _ := S7.out.o.trans (ho.below (B := w.heap.size) (fun k hk => by omega) S7.out.o.size)
        have hP : getNm s = (Nm.zero, 3) := by unfold getNm; rw [if_neg]; rw [HN.out]; decide
        exact ⟨by rw [hP]; rfl, hB⟩
      · have e9 : (pe != 0) = true := by simpa using hp0
        have r0 : w8.cell? ⟨w.heap.size, 0, none⟩ = some (.string ⟨#[]⟩) := GdSt.cellsR S7 0
        have rf0 : w8.frozen? ⟨w.heap.size, 0, none⟩ = false := GdSt.froR S7 0
        have r1 : w8.cell? ⟨w.heap.size, 1, none⟩ = some (.string ⟨#[]⟩) := GdSt.cellsR S7 1
        have rf1 : w8.frozen? ⟨w.heap.size, 1, none⟩ = false := GdSt.froR S7 1
        have r2 : w8.cell? ⟨w.heap.size, 2, none⟩ = some (.string ⟨#[]⟩) := GdSt.cellsR S7 2
        have rf2 : w8.frozen? ⟨w.heap.size, 2, none⟩ = false := GdSt.froR S7 2
        have r3 : w8.cell? ⟨w.heap.size, 3, none⟩ = some (.int .i64 0) := GdSt.cellsR S7 3
        have rf3 : w8.frozen? ⟨w.heap.size, 3, none⟩ = false := GdSt.froR S7 3
        have r4 : w8.cell? ⟨w.heap.size, 4, none⟩ = some (.int .i64 0) := GdSt.cellsR S7 4
        have rf4 : w8.frozen? ⟨w.heap.size, 4, none⟩ = false := GdSt.froR S7 4
        have r5 : w8.cell? ⟨w.heap.size, 5, none⟩ = some (.int .i64 0) := GdSt.cellsR S7 5
        have rf5 : w8.frozen? ⟨w.heap.size, 5, none⟩ = false := GdSt.froR S7 5
        have r6 : w8.cell? ⟨w.heap.size, 6, none⟩ = some (.int .i64 0) := GdSt.cellsR S7 6
        have rf6 : w8.frozen? ⟨w.heap.size, 6, none⟩ = false := GdSt.froR S7 6
        go_wp2_with fail
        refine post_ct Tryz.results21 w.heap.size 49 _ _ _ rfl (set_7 S7.out.hR (.string ⟨#[]⟩) (.string ⟨#[]⟩) (.string ⟨#[]⟩) (.int .i64 0) (.int .i64 0) (.int .i64 0) (.int .i64 0)) Tryz.underlying49 rfl (by kernel_rfl) rfl ?_
        have ho := onlyset_7 w8 w.heap.size (.string ⟨#[]⟩) (.string ⟨#[]⟩) (.string ⟨#[]⟩) (.int .i64 0) (.int .i64 0) (.int .i64 0) (.int .i64 0)
        have hB : Below w.heap.size w _ := S7.out.o.trans (ho.below (B := w.heap.size) (fun k hk => by omega) S7.out.o.size)
        have hP : getNm s = (Nm.zero, 3) := by unfold getNm; rw [if_neg]; rw [HN.out]; decide
        exact ⟨by rw [hP]; rfl, hB⟩
    ·
      have r0 : w8.cell? ⟨w.heap.size, 0, none⟩ = some (.string ⟨#[]⟩) := GdSt.cellsR S7 0
      have rf0 : w8.frozen? ⟨w.heap.size, 0, none⟩ = false := GdSt.froR S7 0
      have r1 : w8.cell? ⟨w.heap.size, 1, none⟩ = some (.string ⟨#[]⟩) := GdSt.cellsR S7 1
      have rf1 : w8.frozen? ⟨w.heap.size, 1, none⟩ = false := GdSt.froR S7 1
      have r2 : w8.cell? ⟨w.heap.size, 2, none⟩ = some (.string ⟨#[]⟩) := GdSt.cellsR S7 2
      have rf2 : w8.frozen? ⟨w.heap.size, 2, none⟩ = false := GdSt.froR S7 2
      have r3 : w8.cell? ⟨w.heap.size, 3, none⟩ = some (.int .i64 0) := GdSt.cellsR S7 3
      have rf3 : w8.frozen? ⟨w.heap.size, 3, none⟩ = false := GdSt.froR S7 3
      have r4 : w8.cell? ⟨w.heap.size, 4, none⟩ = some (.int .i64 0) := GdSt.cellsR S7 4
      have rf4 : w8.frozen? ⟨w.heap.size, 4, none⟩ = false := GdSt.froR S7 4
      have r5 : w8.cell? ⟨w.heap.size, 5, none⟩ = some (.int .i64 0) := GdSt.cellsR S7 5
      have rf5 : w8.frozen? ⟨w.heap.size, 5, none⟩ = false := GdSt.froR S7 5
      have r6 : w8.cell? ⟨w.heap.size, 6, none⟩ = some (.int .i64 0) := GdSt.cellsR S7 6
      have rf6 : w8.frozen? ⟨w.heap.size, 6, none⟩ = false := GdSt.froR S7 6
      go_wp2_with fail
      refine post_ct Tryz.results21 w.heap.size 49 _ _ _ rfl (set_7 S7.out.hR (.string ⟨#[]⟩) (.string ⟨#[]⟩) (.string ⟨#[]⟩) (.int .i64 0) (.int .i64 0) (.int .i64 0) (.int .i64 0)) Tryz.underlying49 rfl (by kernel_rfl) rfl ?_
      have ho := onlyset_7 w8 w.heap.size (.string ⟨#[]⟩) (.string ⟨#[]⟩) (.string ⟨#[]⟩) (.int .i64 0) (.int .i64 0) (.int .i64 0) (.int .i64 0)
      have hB : Below w.heap.size w _ := S7.out.o.trans (ho.below (B := w.heap.size) (fun k hk => by omega) S7.out.o.size)
      have hP : getNm s = (Nm.zero, 3) := by unfold getNm; rw [if_neg]; rw [HN.out]; decide
      exact ⟨by rw [hP]; rfl, hB⟩
  · rw [e8 true hnm, if_pos rfl]
    clear e8
    cases hq : (n3 s).2.2
    · rw [hq] at cb S7
      by_cases hp0 : pe = 0
      · subst hp0
        by_cases hs1 : joinB (nmL ((parseP (n1 s).1).1) ((parseP (n1 s).1).2.1) ((parseP (n1 s).1).2.2.1) (n2 s).1.1 (n2 s).1.2.1 (n2 s).1.2.2 (n3 s).1) = s.data.toList
        · have e1 := str_same (a := BA (joinB (nmL ((parseP (n1 s).1).1) ((parseP (n1 s).1).2.1) ((parseP (n1 s).1).2.2.1) (n2 s).1.1 (n2 s).1.2.1 (n2 s).1.2.2 (n3 s).1))) (b := s) hs1
          have HN : Hid (nmOk s = true) := by unfold Hid nmOk; rw [hnm, hq, HPE.out]; simpa using hs1
          clear hnm hq hs1
          have r0 : w8.cell? ⟨w.heap.size, 0, none⟩ = some (.string ⟨#[]⟩) := GdSt.cellsR S7 0
          have rf0 : w8.frozen? ⟨w.heap.size, 0, none⟩ = false := GdSt.froR S7 0
          have r1 : w8.cell? ⟨w.heap.size, 1, none⟩ = some (.string ⟨#[]⟩) := GdSt.cellsR S7 1
          have rf1 : w8.frozen? ⟨w.heap.size, 1, none⟩ = false := GdSt.froR S7 1
          have r2 : w8.cell? ⟨w.heap.size, 2, none⟩ = some (.string ⟨#[]⟩) := GdSt.cellsR S7 2
          have rf2 : w8.frozen? ⟨w.heap.size, 2, none⟩ = false := GdSt.froR S7 2
          have r3 : w8.cell? ⟨w.heap.size, 3, none⟩ = some (.int .i64 0) := GdSt.cellsR S7 3
          have rf3 : w8.frozen? ⟨w.heap.size, 3, none⟩ = false := GdSt.froR S7 3
          have r4 : w8.cell? ⟨w.heap.size, 4, none⟩ = some (.int .i64 0) := GdSt.cellsR S7 4
          have rf4 : w8.frozen? ⟨w.heap.size, 4, none⟩ = false := GdSt.froR S7 4
          have r5 : w8.cell? ⟨w.heap.size, 5, none⟩ = some (.int .i64 0) := GdSt.cellsR S7 5
          have rf5 : w8.frozen? ⟨w.heap.size, 5, none⟩ = false := GdSt.froR S7 5
          have r6 : w8.cell? ⟨w.heap.size, 6, none⟩ = some (.int .i64 0) := GdSt.cellsR S7 6
          have rf6 : w8.frozen? ⟨w.heap.size, 6, none⟩ = false := GdSt.froR S7 6
          have p0 : w8.cell? ⟨w1.heap.size, 0, none⟩ = some (.string (parseP (n1 s).1).1) := GdSt.cells S7 0
          have p1 : w8.cell? ⟨w1.heap.size, 1, none⟩ = some (.string (parseP (n1 s).1).2.1) := GdSt.cells S7 1
          have p2 : w8.cell? ⟨w1.heap.size, 2, none⟩ = some (.string (parseP (n1 s).1).2.2.1) := GdSt.cells S7 2
          have p3 : w8.cell? ⟨w1.heap.size, 3, none⟩ = some (.int .i64 (n2 s).1.1) := GdSt.cells S7 3
          have p4 : w8.cell? ⟨w1.heap.size, 4, none⟩ = some (.int .i64 (n2 s).1.2.1) := GdSt.cells S7 4
          have p5 : w8.cell? ⟨w1.heap.size, 5, none⟩ = some (.int .i64 (n2 s).1.2.2) := GdSt.cells S7 5
          have p6 : w8.cell? ⟨w1.heap.size, 6, none⟩ = some (.int .i64 (n3 s).1) := GdSt.cells S7 6
          go_wp2_with fail
          refine post_ct Tryz.results21 w.heap.size 49 _ _ _ rfl (set_7 S7.out.hR (.string (parseP (n1 s).1).1) (.string (parseP (n1 s).1).2.1) (.string (parseP (n1 s).1).2.2.1) (.int .i64 (n2 s).1.1) (.int .i64 (n2 s).1.2.1) (.int .i64 (n2 s).1.2.2) (.int .i64 (n3 s).1)) Tryz.underlying49 rfl (by kernel_rfl) rfl ?_
          have ho := onlyset_7 w8 w.heap.size (.string (parseP (n1 s).1).1) (.string (parseP (n1 s).1).2.1) (.string (parseP (n1 s).1).2.2.1) (.int .i64 (n2 s).1.1) (.int .i64 (n2 s).1.2.1) (.int .i64 (n2 s).1.2.2) (.int .i64 (n3 s).1)
          have hB : Below w.heap.size w _ := S7.out.o.trans (ho.below (B := w.heap.size) (fun k hk => by omega) S7.out.o.size)
          have hP : getNm s = (qNm s, 0) := by unfold getNm; rw [if_pos HN.out]
          exact ⟨by rw [hP]; rfl, hB⟩
        · have e1 := str_other (a := BA (joinB (nmL ((parseP (n1 s).1).1) ((parseP (n1 s).1).2.1) ((parseP (n1 s).1).2.2.1) (n2 s).1.1 (n2 s).1.2.1 (n2 s).1.2.2 (n3 s).1))) (b := s) hs1
          have HN : Hid (nmOk s = false) := by unfold Hid nmOk; rw [hnm, hq, HPE.out]; simpa using hs1
          clear hnm hq hs1
          have r0 : w8.cell? ⟨w.heap.size, 0, none⟩ = some (.string ⟨#[]⟩) := GdSt.cellsR S7 0
          have rf0 : w8.frozen? ⟨w.heap.size, 0, none⟩ = false := GdSt.froR S7 0
          have r1 : w8.cell? ⟨w.heap.size, 1, none⟩ = some (.string ⟨#[]⟩) := GdSt.cellsR S7 1
          have rf1 : w8.frozen? ⟨w.heap.size, 1, none⟩ = false := GdSt.froR S7 1
          have r2 : w8.cell? ⟨w.heap.size, 2, none⟩ = some (.string ⟨#[]⟩) := GdSt.cellsR S7 2
          have rf2 : w8.frozen? ⟨w.heap.size, 2, none⟩ = false := GdSt.froR S7 2
          have r3 : w8.cell? ⟨w.heap.size, 3, none⟩ = some (.int .i64 0) := GdSt.cellsR S7 3
          have rf3 : w8.frozen? ⟨w.heap.size, 3, none⟩ = false := GdSt.froR S7 3
          have r4 : w8.cell? ⟨w.heap.size, 4, none⟩ = some (.int .i64 0) := GdSt.cellsR S7 4
          have rf4 : w8.frozen? ⟨w.heap.size, 4, none⟩ = false := GdSt.froR S7 4
          have r5 : w8.cell? ⟨w.heap.size, 5, none⟩ = some (.int .i64 0) := GdSt.cellsR S7 5
          have rf5 : w8.frozen? ⟨w.heap.size, 5, none⟩ = false := GdSt.froR S7 5
          have r6 : w8.cell? ⟨w.heap.size, 6, none⟩ = some (.int .i64 0) := GdSt.cellsR S7 6
          have rf6 : w8.frozen? ⟨w.heap.size, 6, none⟩ = false := GdSt.froR S7 6
          go_wp2_with fail
          refine post_ct Tryz.results21 w.heap.size 49 _ _ _ rfl (set_7 S7.out.hR (.string ⟨#[]⟩) (.string ⟨#[]⟩) (.string ⟨#[]⟩) (.int .i64 0) (.int .i64 0) (.int .i64 0) (.int .i64 0)) Tryz.underlying49 rfl (by kernel_rfl) rfl ?_
          have ho := onlyset_7 w8 w.heap.size (.string ⟨#[]⟩) (.string ⟨#[]⟩) (.string ⟨#[]⟩) (.int .i64 0) (.int .i64 0) (.int .i64 0) (.int .i64 0)
          have hB : Below w.heap.size w _ := S7.out.o.trans (ho.below (B := w.heap.size) (fun k hk => by omega) S7.out.o.size)
          have hP : getNm s = (Nm.zero, 3) := by unfold getNm; rw [if_neg]; rw [HN.out]; decide
          exact ⟨by rw [hP]; rfl, hB⟩
      · have e9 : (pe != 0) = true := by simpa using hp0
        have HN : Hid (nmOk s = false) := by unfold Hid nmOk; rw [hnm, hq, HPE.out]; simp [hp0]
        clear hnm hq
        have r0 : w8.cell? ⟨w.heap.size, 0, none⟩ = some (.string ⟨#[]⟩) := GdSt.cellsR S7 0
        have rf0 : w8.frozen? ⟨w.heap.size, 0, none⟩ = false := GdSt.froR S7 0
        have r1 : w8.cell? ⟨w.heap.size, 1, none⟩ = some (.string ⟨#[]⟩) := GdSt.cellsR S7 1
        have rf1 : w8.frozen? ⟨w.heap.size, 1, none⟩ = false := GdSt.froR S7 1
        have r2 : w8.cell? ⟨w.heap.size, 2, none⟩ = some (.string ⟨#[]⟩) := GdSt.cellsR S7 2
        have rf2 : w8.frozen? ⟨w.heap.size, 2, none⟩ = false := GdSt.froR S7 2
        have r3 : w8.cell? ⟨w.heap.size, 3, none⟩ = some (.int .i64 0) := GdSt.cellsR S7 3
        have rf3 : w8.frozen? ⟨w.heap.size, 3, none⟩ = false := GdSt.froR S7 3
        have r4 : w8.cell? ⟨w.heap.size, 4, none⟩ = some (.int .i64 0) := GdSt.cellsR S7 4
        have rf4 : w8.frozen? ⟨w.heap.size, 4, none⟩ = false := GdSt.froR S7 4
        have r5 : w8.cell? ⟨w.heap.size, 5, none⟩ = some (.int .i64 0) := GdSt.cellsR S7 5
        have rf5 : w8.frozen? ⟨w.heap.size, 5, none⟩ = false := GdSt.froR S7 5
        have r6 : w8.cell? ⟨w.heap.size, 6, none⟩ = some (.int .i64 0) := GdSt.cellsR S7 6
        have rf6 : w8.frozen? ⟨w.heap.size, 6, none⟩ = false := GdSt.froR S7 6
        go_wp2_with fail
        refine post_ct Tryz.results21 w.heap.size 49 _ _ _ rfl (set_7 S7.out.hR (.string ⟨#[]⟩) (.string ⟨#[]⟩) (.string ⟨#[]⟩) (.int .i64 0) (.int .i64 0) (.int .i64 0) (.int .i64 0)) Tryz.underlying49 rfl (by kernel_rfl) rfl ?_
        have ho := onlyset_7 w8 w.heap.size (.string ⟨#[]⟩) (.string ⟨#[]⟩) (.string ⟨#[]⟩) (.int .i64 0) (.int .i64 0) (.int .i64 0) (.int .i64 0)
        have hB : Below w.heap.size w _ := S7.out.o.trans (ho.below (B := w.heap.size) (fun k hk => by omega) S7.out.o.size)
        have hP : getNm s = (Nm.zero, 3) := by unfold getNm; rw [if_neg]; rw [HN.out]; decide
        exact ⟨by rw [hP]; rfl, hB⟩
    · rw [hq] at cb S7
      have HN : Hid (nmOk s = false) := by unfold Hid nmOk; rw [hq]; simp
      clear hnm hq
      have r0 : w8.cell? ⟨w.heap.size, 0, none⟩ = some (.string ⟨#[]⟩) := GdSt.cellsR S7 0
      have rf0 : w8.frozen? ⟨w.heap.size, 0, none⟩ = false := GdSt.froR S7 0
      have r1 : w8.cell? ⟨w.heap.size, 1, none⟩ = some (.string ⟨#[]⟩) := GdSt.cellsR S7 1
      have rf1 : w8.frozen? ⟨w.heap.size, 1, none⟩ = false := GdSt.froR S7 1
      have r2 : w8.cell? ⟨w.heap.size, 2, none⟩ = some (.string ⟨#[]⟩) := GdSt.cellsR S7 2
      have rf2 : w8.frozen? ⟨w.heap.size, 2, none⟩ = false := GdSt.froR S7 2
      have r3 : w8.cell? ⟨w.heap.size, 3, none⟩ = some (.int .i64 0) := GdSt.cellsR S7 3
      have rf3 : w8.frozen? ⟨w.heap.size, 3, none⟩ = false := GdSt.froR S7 3
      have r4 : w8.cell? ⟨w.heap.size, 4, none⟩ = some (.int .i64 0) := GdSt.cellsR S7 4
      have rf4 : w8.frozen? ⟨w.heap.size, 4, none⟩ = false := GdSt.froR S7 4
      have r5 : w8.cell? ⟨w.heap.size, 5, none⟩ = some (.int .i64 0) := GdSt.cellsR S7 5
      have rf5 : w8.frozen? ⟨w.heap.size, 5, none⟩ = false := GdSt.froR S7 5
      have r6 : w8.cell? ⟨w.heap.size, 6, none⟩ = some (.int .i64 0) := GdSt.cellsR S7 6
      have rf6 : w8.frozen? ⟨w.heap.size, 6, none⟩ = false := GdSt.froR S7 6
      go_wp2_with fail
      refine post_ct Tryz.results21 w.heap.size 49 _ _ _ rfl (set_7 S7.out.hR (.string ⟨#[]⟩) (.string ⟨#[]⟩) (.string ⟨#[]⟩) (.int .i64 0) (.int .i64 0) (.int .i64 0) (.int .i64 0)) Tryz.underlying49 rfl (by kernel_rfl) rfl ?_
      have ho := onlyset_7 w8 w.heap.size (.string ⟨#[]⟩) (.string ⟨#[]⟩) (.string ⟨#[]⟩) (.int .i64 0) (.int .i64 0) (.int .i64 0) (.int .i64 0)
      have hB : Below w.heap.size w _ := S7.out.o.trans (ho.below (B := w.heap.size) (fun k hk => by omega) S7.out.o.size)
      have hP : getNm s = (Nm.zero, 3) := by unfold getNm; rw [if_neg]; rw [HN.out]; decide
      exact ⟨by rw [hP]; rfl, hB⟩
end Go.Proofs.YtkbmljagcondhaaGreatDoor
