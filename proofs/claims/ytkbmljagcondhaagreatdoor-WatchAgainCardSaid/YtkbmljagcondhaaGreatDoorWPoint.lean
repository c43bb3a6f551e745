/- The watch's reader, walked: read, point. -/
import Derived.Test.YtkbmljagcondhaaGreatDoorWRead
import Derived.Test.YtkbmljagcondhaaGreatDoorSplit
import Derived.Deep.RegionHeld3
import Derived.Outline
open Go Go.RowKit
set_option linter.unusedSimpArgs false
namespace Go.Proofs.YtkbmljagcondhaaGreatDoor
/-- Split, and its parts in new memory -/
def splitP (s sep : ByteArray) : List ByteArray := Lib.splitB sep 0 (Lib.countB s sep) s
def SplitEnd (s sep : ByteArray) (w : World) (e : Ending) (w' : World) : Prop :=
  ∃ n, n = (splitP s sep).length ∧ e = .returned (.slice (some ⟨w.heap.size, 0, none⟩) n n) ∧ 1 ≤ n ∧ n ≤ s.size + 1 ∧ (Row w' (some ⟨w.heap.size, 0, none⟩) (strs (splitP s sep)) ∧ RowT w' (some ⟨w.heap.size, 0, none⟩)) ∧ Below w.heap.size w w'
theorem split_c (s sep : ByteArray) (hs : s.size ≤ 1000000) (h1 : 1 ≤ sep.size) (w : World) (G : Glob w) : Calls Tryz.prog 81 #[.string s, .string sep] w (SplitEnd s sep w) := by
  obtain ⟨m, hm⟩ := G.maxlen
  refine (Tryz.strings_Split s sep m w (by omega) hm h1).mono fun e w' ⟨he, hw⟩ => ?_
  have hl : (splitP s sep).length = Lib.countB s sep + 1 := Lib.splitB_all sep h1 0 _ s rfl
  have hc := Lib.countB_le sep h1 s.size s (Nat.le_refl _)
  refine ⟨_, rfl, by rw [hl]; exact he, by omega, by omega, ⟨?_, ?_⟩, ?_⟩
  · subst hw
    refine Row.mk_ fun j v hj => ?_
    rw [blk_cell (heap_alloc_new w _)]
    simpa [strs, splitP] using hj
  · subst hw
    intro d o e
    cases e
    exact ⟨_, _, heap_alloc_new w _⟩
  · subst hw
    exact (Below.refl _ _).alloc (Nat.le_refl _) _
def pointP (x : ByteArray) : (Int × Int × Int) × Bool :=
  match splitP x ⟨#[46]⟩ with
  | [a, b, c] => (((intP a.data.toList).1, (intP b.data.toList).1, (intP c.data.toList).1), (intP a.data.toList).2 || (intP b.data.toList).2 || (intP c.data.toList).2)
  | _ => ((0, 0, 0), true)
/-- what holds while the three numbers of an address are read -/
structure PtSt (w0 : World) (b d pb : Nat) (ws : List ByteArray) (p0 p1 p2 : ByteArray) (w : World) (wr : Bool) : Prop where
  g : Glob w
  r : Rd w b ws wr
  o : Only (fun k => k = b) w0 w
  c : w.cell? ⟨d, 0, none⟩ = some (.string p0) ∧ w.cell? ⟨d, 1, none⟩ = some (.string p1) ∧ w.cell? ⟨d, 2, none⟩ = some (.string p2)
  s : p0.size ≤ 1000000 ∧ p1.size ≤ 1000000 ∧ p2.size ≤ 1000000
  ne : d ≠ b
  np : pb ≠ b
  hp : w.heap[pb]? = some (.cells #[.int .i64 0, .int .i64 0] 40 (0, 0))
theorem PtSt.all {w0 : World} {b d pb : Nat} {ws : List ByteArray} {p0 p1 p2 : ByteArray} {w : World} {wr : Bool} (h : Hid (PtSt w0 b d pb ws p0 p1 p2 w wr)) :
    w.cell? ⟨d, 0, none⟩ = some (.string p0) ∧ w.cell? ⟨d, 1, none⟩ = some (.string p1) ∧ w.cell? ⟨d, 2, none⟩ = some (.string p2) ∧
    w.cell? ⟨pb, 0, none⟩ = some (.int .i64 0) ∧ w.cell? ⟨pb, 1, none⟩ = some (.int .i64 0) ∧ w.frozen? ⟨pb, 0, none⟩ = false ∧ w.frozen? ⟨pb, 1, none⟩ = false :=
  ⟨h.out.c.1, h.out.c.2.1, h.out.c.2.2, by rw [blk_cell h.out.hp]; rfl, by rw [blk_cell h.out.hp]; rfl, blk_frozen h.out.hp 0, blk_frozen h.out.hp 1⟩
theorem PtSt.int {w0 : World} {b d pb : Nat} {ws : List ByteArray} {p0 p1 p2 : ByteArray} {w : World} {wr : Bool} (h : Hid (PtSt w0 b d pb ws p0 p1 p2 w wr)) (p : ByteArray) (hp : p.size ≤ 1000000) :
    Calls Tryz.prog 82 #[.pointer (some ⟨b, 0, none⟩), .string p] w fun e w' => e = .returned (.int .i64 (intP p.data.toList).1) ∧ Hid (PtSt w0 b d pb ws p0 p1 p2 w' (wr || (intP p.data.toList).2)) := by
  have h := h.out
  refine (integer_c b ws wr p hp w h.g h.r).mono fun e w' ⟨he, hr, ho⟩ => ⟨he, ⟨h.g.only1 ho h.r.low, hr, h.o.then ho (fun _ _ h => h), ⟨ho.cell h.c.1 h.ne, ho.cell h.c.2.1 h.ne, ho.cell h.c.2.2 h.ne⟩, h.s, h.ne, h.np, ho.blk h.hp h.np⟩⟩
theorem PtSt.drew {w0 : World} {b d pb : Nat} {ws : List ByteArray} {p0 p1 p2 : ByteArray} {w : World} {wr : Bool} (h : PtSt w0 b d pb ws p0 p1 p2 w wr) : PtSt w0 b d pb ws p0 p1 p2 w.drew wr :=
  ⟨h.g.of_blocks (fun _ _ => rfl) (Nat.le_refl _), h.r.below ⟨rfl, rfl, rfl, Nat.le_refl _, fun _ _ => rfl⟩, h.o.then (S := fun k => k = b) (T := fun k => k = b) ⟨rfl, rfl, rfl, Nat.le_refl _, fun _ _ _ => rfl⟩ (fun _ _ h => h), h.c, h.s, h.ne, h.np, h.hp⟩
theorem splitP_size (c : UInt8) (s : ByteArray) : ∀ x ∈ splitP s ⟨#[c]⟩, x.size ≤ s.size := by
  unfold splitP
  rw [splitP_sp]
  intro x hx
  obtain ⟨w, hw, rfl⟩ := List.mem_map.1 hx
  exact sp_sizes c _ w hw
set_option maxRecDepth 100000 in
set_option maxHeartbeats 1000000 in
theorem point_c (b : Nat) (ws : List ByteArray) (wr : Bool) (w : World) (G : Glob w) (R : Rd w b ws wr) (hsh : Short ws) :
    Calls Tryz.prog 53 #[.pointer (some ⟨b, 0, none⟩)] w fun e w' =>
      e = .returned (.tuple #[.agg #[.int .i64 (pointP (wordP ws wr).1).1.1, .int .i64 (pointP (wordP ws wr).1).1.2.1], .int .i64 (pointP (wordP ws wr).1).1.2.2]) ∧
      Rd w' b (wordP ws wr).2.1 ((wordP ws wr).2.2 || (pointP (wordP ws wr).1).2) ∧ Only (fun k => k = b) w w' := by
  have HG : Hid (Glob w) := G
  have HR : Hid (Rd w b ws wr) := R
  have HS1 : Hid ((wordP ws wr).1.size ≤ 1000000) := (hsh.word wr).1
  clear G R hsh
  go_enter Tryz.func53, Tryz.ntmps53
  go_wp2_with fail
  have HG0 : Hid (Glob (w.alloc (.cells #[.int .i64 0, .int .i64 0] 40))) := HG.out.below ((Below.refl _ _).alloc (Nat.le_refl _) _) HG.out.low
  have HR0 : Hid (Rd (w.alloc (.cells #[.int .i64 0, .int .i64 0] 40)) b ws wr) := HR.out.below ((Below.refl _ _).alloc (Nat.le_refl _) _)
  refine (word_c b ws wr _ HR0.out).mono ?_
  rintro e w1 ⟨rfl, hR1, hw1⟩
  have HB1 : Hid (w1.heap[w.heap.size]? = some (.cells #[.int .i64 0, .int .i64 0] 40 (0, 0))) := hw1.blk (blk_new _ _) (by have := blk_lt HR.out.at_.choose_spec.choose_spec.1; omega)
  have HO1 : Hid (Only (fun k => k = b) w w1) := (Only.of_new ((Below.refl _ _).alloc (Nat.le_refl _) _)).then hw1 (fun _ _ h => h)
  have HG1 : Hid (Glob w1) := HG0.out.only1 hw1 HR.out.low
  have HR1 : Hid (Rd w1 b (wordP ws wr).2.1 (wordP ws wr).2.2) := hR1
  clear hw1 hR1 HG0 HR0
  go_wp2_with fail
  refine (split_c _ ⟨#[46]⟩ HS1.out (by decide) w1 HG1.out).mono ?_
  rintro e w2 ⟨n, hn, rfl, hn1, hn2, ⟨hrow, _⟩, hw2⟩
  have HB2 : Hid (w2.heap[w.heap.size]? = some (.cells #[.int .i64 0, .int .i64 0] 40 (0, 0))) := blk_below HB1.out hw2 (blk_lt HB1.out)
  have HO2 : Hid (Only (fun k => k = b) w w2) := HO1.out.then (Only.of_new hw2) (fun _ _ h => h)
  have HG2 : Hid (Glob w2) := HG1.out.below hw2 HG1.out.low
  have HR2 : Hid (Rd w2 b (wordP ws wr).2.1 (wordP ws wr).2.2) := HR1.out.below hw2
  have hbw : b < w.heap.size := blk_lt HR.out.at_.choose_spec.choose_spec.1
  have hw12 : w.heap.size ≤ w1.heap.size := HO1.out.size
  have hsz := splitP_size 46 (wordP ws wr).1
  have HB2f := blk_frozen HB2.out 0
  have HB2f1 := blk_frozen HB2.out 1
  have HB2c := blk_cell HB2.out 0
  have HB2c1 := blk_cell HB2.out 1
  simp only [List.getElem?_toArray, List.getElem?_cons_zero, List.getElem?_cons_succ] at HB2c HB2c1
  by_cases h3 : n = 3
  · subst h3
    obtain ⟨p0, p1, p2, hpp⟩ : ∃ p0 p1 p2, splitP (wordP ws wr).1 ⟨#[46]⟩ = [p0, p1, p2] := by
      match h : splitP (wordP ws wr).1 ⟨#[46]⟩ with
      | [a, b, c] => exact ⟨a, b, c, rfl⟩
      | [] | [_] | [_, _] | _ :: _ :: _ :: _ :: _ => rw [h] at hn; simp at hn
    rw [hpp] at hrow hsz
    have k0 := hrow.at0
    have k1 := hrow.at 1 (.string p1) rfl
    have k2 := hrow.at 2 (.string p2) rfl
    have z0 := hsz p0 (by simp)
    have z1 := hsz p1 (by simp)
    have z2 := hsz p2 (by simp)
    have HS1' := HS1.out
    have ST : Hid (PtSt w b w1.heap.size w.heap.size (wordP ws wr).2.1 p0 p1 p2 w2 (wordP ws wr).2.2) := ⟨HG2.out, HR2.out, HO2.out, ⟨k0, by simpa using k1, by simpa using k2⟩, ⟨by omega, by omega, by omega⟩, by omega, by omega, HB2.out⟩
    have ST' : Hid (PtSt w b w1.heap.size w.heap.size (wordP ws wr).2.1 p0 p1 p2 w2.drew (wordP ws wr).2.2) := ST.out.drew
    simp only [Nat.zero_add] at k1 k2
    have z0' : p0.size ≤ 1000000 := by omega
    have z1' : p1.size ≤ 1000000 := by omega
    have z2' : p2.size ≤ 1000000 := by omega
    clear hrow hsz hn hw2 z0 z1 z2 HS1' hn1 hn2
    go_wp2_with fail
    have A0 := PtSt.all ST'
    obtain ⟨a0, a1, a2, a3, a4, a5, a6⟩ := A0
    have hlt1 := blk_lt HB1.out
    have n1 : ¬ w1.heap.size = w.heap.size := by omega
    have n2 : ¬ w.heap.size = w1.heap.size := by omega
    clear hlt1
    go_region_held3 (fun w' => w'.cell? ⟨w1.heap.size, 0, none⟩ = some (.string p0) ∧ w'.cell? ⟨w1.heap.size, 1, none⟩ = some (.string p1) ∧ w'.cell? ⟨w1.heap.size, 2, none⟩ = some (.string p2))
      (first | (exact (Hid.out (by assumption : Hid (PtSt _ _ _ _ _ _ _ _ _ _))).c) | go_keep)
      ((go_at_call 82; refine (PtSt.int (by assumption) _ (by assumption)).mono ?_; rintro e w' ⟨rfl, hst⟩; have hall := PtSt.all hst; obtain ⟨_, _, _, _, _, _, _⟩ := hall))
    go_wp2
    have hf := hst.out
    have b2 := blk_set hf.hp 0 (.int .i64 (intP p0.data.toList).1)
    have b3 := blk_set b2 1 (.int .i64 (intP p1.data.toList).1)
    have hp : pointP (wordP ws wr).1 = (((intP p0.data.toList).1, (intP p1.data.toList).1, (intP p2.data.toList).1), (intP p0.data.toList).2 || (intP p1.data.toList).2 || (intP p2.data.toList).2) := by
      unfold pointP
      rw [hpp]
    refine post_ct Tryz.results53 w.heap.size 40 _ _ _ rfl b3 Tryz.underlying40 rfl (by kernel_rfl) rfl ?_
    refine ⟨by rw [hp]; rfl, ?_, (hf.o.then (Only.setAt _ _ _ _) (fun i hi h => by omega)).then (Only.setAt _ _ _ _) (fun i hi h => by omega)⟩
    rw [hp]
    have := (hf.r.far hf.hp (by decide) (by omega) 0 (.int .i64 (intP p0.data.toList).1)).far b2 (by decide) (by omega) 1 (.int .i64 (intP p1.data.toList).1)
    simpa [Bool.or_assoc] using this
  · have h3' : ((n : Int) != 3) = true := by rw [bne_iff_ne]; omega
    have h30 : ((n : Int) == 3) = false := by rw [beq_eq_false_iff_ne]; omega
    obtain ⟨A, c, hb, hc, hrow2, hne⟩ := HR2.out.at_
    have hf := blk_frozen hb 1
    have hcell := blk_cell hb 1
    simp only [List.getElem?_toArray, List.getElem?_cons_zero, List.getElem?_cons_succ] at hcell
    have HH : Hid (n = (splitP (wordP ws wr).1 ⟨#[46]⟩).length) := hn
    have H3 : Hid (¬ n = 3) := h3
    clear hb hc hrow2 hne hn hsz hrow hw2 hn2 h3
    go_wp2_with fail
    have b1 := blk_far HB2.out (show w.heap.size ≠ b by omega) 1 (.bool true)
    have b2 := blk_set b1 0 (.int .i64 0)
    have b3 := blk_set b2 1 (.int .i64 0)
    refine post_ct Tryz.results53 w.heap.size 40 _ _ _ rfl b3 Tryz.underlying40 rfl (by kernel_rfl) rfl ?_
    have hp : pointP (wordP ws wr).1 = ((0, 0, 0), true) := by
      unfold pointP
      split
      · rename_i h; exact absurd (by rw [HH.out, h]; rfl) H3.out
      · rfl
    refine ⟨by rw [hp]; rfl, ?_, ((HO2.out.then (Only.setAt _ _ _ _) (fun _ _ h => h)).then (Only.setAt _ _ _ _) (fun i hi h => by omega)).then (Only.setAt _ _ _ _) (fun i hi h => by omega)⟩
    rw [hp, Bool.or_true]
    exact (HR2.out.set_wrong.far b1 (by decide) (by omega) _ _).far b2 (by decide) (by omega) _ _
end Go.Proofs.YtkbmljagcondhaaGreatDoor
