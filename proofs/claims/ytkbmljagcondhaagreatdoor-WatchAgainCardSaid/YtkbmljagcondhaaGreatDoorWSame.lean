/- What is compared with itself is the same: SameBytes, Same, sameFrame, sameTrans, walked where both are equal. -/
import Derived.Test.YtkbmljagcondhaaGreatDoorWGetF
import Derived.Test.YtkbmljagcondhaaGreatDoorWGetTr
open Go Go.RowKit
set_option linter.unusedSimpArgs false
set_option linter.unusedVariables false
namespace Go.Proofs.YtkbmljagcondhaaGreatDoor
set_option maxRecDepth 100000 in
set_option maxHeartbeats 1000000 in
theorem sameBytes_c (A B : Option Addr) (n c c2 : Nat) (l : List UInt8) (w : World) (hn : l.length = n) (hm : n ≤ 1000000) (hA : Row w A (bts l)) (hB : Row w B (bts l)) :
    Calls Tryz.prog 56 #[.slice A n c, .slice B n c2] w fun e w' => e = .returned (.bool true) ∧ Below w.heap.size w w' := by
  have HR : Hid (Row w A (bts l) ∧ Row w B (bts l) ∧ l.length = n) := ⟨hA, hB, hn⟩
  have e0 : ((n : Int) != (n : Int)) = false := by simp
  clear hA hB hn
  go_enter Tryz.func56, Tryz.ntmps56
  go_wp2_with fail
  go_loopw [5] (fun i wr => ∃ k : Nat, k ≤ n ∧ i = .int .i64 k ∧ Below w.heap.size w wr) (fun i _ => n - (intOf i).toNat)
  case atStart => exact ⟨0, Nat.zero_le _, rfl, Below.refl _ _⟩
  case round =>
    obtain ⟨k, hk, rfl, hb⟩ := hrel
    by_cases hlt : k < n
    · obtain ⟨x, hx⟩ : ∃ x, l[k]? = some x := ⟨l[k]'(by rw [HR.out.2.2]; exact hlt), by simp⟩
      obtain ⟨d, o, rfl, hc1⟩ := HR.out.1 k (U8 x) (by simp [bts, hx])
      obtain ⟨d2, o2, rfl, hc2⟩ := HR.out.2.1 k (U8 x) (by simp [bts, hx])
      have hc1' : wr.cell? ⟨d, o + k, none⟩ = some (.int .u8 (x.toNat : Int)) := (hb.cell (World.block_lt_of_cell? w _ hc1)).trans hc1
      have hc2' : wr.cell? ⟨d2, o2 + k, none⟩ = some (.int .u8 (x.toNat : Int)) := (hb.cell (World.block_lt_of_cell? w _ hc2)).trans hc2
      have q0 : (0:Int) ≤ (k:Int) := by omega
      have q1 : (k:Int) < (n : Int) := by omega
      have e1 : ((x.toNat : Int) != (x.toNat : Int)) = false := by simp
      have HB : Hid (Below w.heap.size w wr) := hb
      clear hc1 hc2 hx hb
      go_wp2_with fail
      go_quiet (fail)
      go_wp2_with fail
      exact ⟨⟨k + 1, by omega, by go_num, HB.out.os, HB.out.tape, HB.out.output, HB.out.size, HB.out.block⟩, by simp [intOf]; omega⟩
    · have hkn : k = n := by omega
      have HB : Hid (Below w.heap.size w wr) := hb
      clear hb
      go_wp2_with fail
      go_ret
      exact ⟨rfl, HB.out⟩
/-- two boxes -/
structure Two (w0 : World) (g : Nat) (t : TypeId) (cs ds : Array Value) (w : World) : Prop where
  o : Below w0.heap.size w0 w
  h1 : w.heap[g]? = some (.cells cs t (0, 0))
  h2 : w.heap[g + 1]? = some (.cells ds t (0, 0))
theorem Two.mk_ (w : World) (t : TypeId) (cs ds : Array Value) : Two w w.heap.size t cs ds ((w.alloc (.cells cs t)).alloc (.cells ds t)) := by
  have h := blk_new (w.alloc (.cells cs t)) (.cells ds t)
  have e : (w.alloc (.cells cs t)).heap.size = w.heap.size + 1 := by simp
  rw [e] at h
  exact ⟨((Below.refl _ _).alloc (Nat.le_refl _) _).alloc (by simp) _, blk_alloc (blk_new _ _) _, h⟩
theorem Two.one {w0 : World} {g : Nat} {t : TypeId} {cs ds : Array Value} {w : World} (h : Hid (Two w0 g t cs ds w)) : ∀ i, w.cell? ⟨g, i, none⟩ = cs[i]? := fun i => blk_cell h.out.h1 i
theorem Two.two {w0 : World} {g : Nat} {t : TypeId} {cs ds : Array Value} {w : World} (h : Hid (Two w0 g t cs ds w)) : ∀ i, w.cell? ⟨g + 1, i, none⟩ = ds[i]? := fun i => blk_cell h.out.h2 i
set_option maxRecDepth 100000 in
set_option maxHeartbeats 4000000 in
theorem same_c (hops dn dd sn sd ds ss ty : Int) (sm : Bool) (A B : Option Addr) (n c c2 : Nat) (l : List UInt8) (w : World) (hn : l.length = n) (hm : n ≤ 1000000) (hA : Row w A (bts l)) (hB : Row w B (bts l)) :
    Calls Tryz.prog 19 #[.agg #[.int .i64 hops, .int .i64 dn, .int .i64 dd, .int .i64 sn, .int .i64 sd, .int .i64 ds, .int .i64 ss, .int .i64 ty, .slice A n c, .bool sm], .agg #[.int .i64 hops, .int .i64 dn, .int .i64 dd, .int .i64 sn, .int .i64 sd, .int .i64 ds, .int .i64 ss, .int .i64 ty, .slice B n c2, .bool sm]] w fun e w' => e = .returned (.bool true) ∧ Below w.heap.size w w' := by
  have hb : Below w.heap.size w ((w.alloc (.cells #[.int .i64 hops, .int .i64 dn, .int .i64 dd, .int .i64 sn, .int .i64 sd, .int .i64 ds, .int .i64 ss, .int .i64 ty, .slice A n c, .bool sm] 43)).alloc (.cells #[.int .i64 hops, .int .i64 dn, .int .i64 dd, .int .i64 sn, .int .i64 sd, .int .i64 ds, .int .i64 ss, .int .i64 ty, .slice B n c2, .bool sm] 43)) := ((Below.refl _ _).alloc (Nat.le_refl _) _).alloc (by simp) _
  have HR : Hid (Row ((w.alloc (.cells #[.int .i64 hops, .int .i64 dn, .int .i64 dd, .int .i64 sn, .int .i64 sd, .int .i64 ds, .int .i64 ss, .int .i64 ty, .slice A n c, .bool sm] 43)).alloc (.cells #[.int .i64 hops, .int .i64 dn, .int .i64 dd, .int .i64 sn, .int .i64 sd, .int .i64 ds, .int .i64 ss, .int .i64 ty, .slice B n c2, .bool sm] 43)) A (bts l) ∧ Row ((w.alloc (.cells #[.int .i64 hops, .int .i64 dn, .int .i64 dd, .int .i64 sn, .int .i64 sd, .int .i64 ds, .int .i64 ss, .int .i64 ty, .slice A n c, .bool sm] 43)).alloc (.cells #[.int .i64 hops, .int .i64 dn, .int .i64 dd, .int .i64 sn, .int .i64 sd, .int .i64 ds, .int .i64 ss, .int .i64 ty, .slice B n c2, .bool sm] 43)) B (bts l)) := ⟨hA.below hb, hB.below hb⟩
  have HN : Hid (l.length = n ∧ n ≤ 1000000) := ⟨hn, hm⟩
  have HO : Hid (Below w.heap.size w ((w.alloc (.cells #[.int .i64 hops, .int .i64 dn, .int .i64 dd, .int .i64 sn, .int .i64 sd, .int .i64 ds, .int .i64 ss, .int .i64 ty, .slice A n c, .bool sm] 43)).alloc (.cells #[.int .i64 hops, .int .i64 dn, .int .i64 dd, .int .i64 sn, .int .i64 sd, .int .i64 ds, .int .i64 ss, .int .i64 ty, .slice B n c2, .bool sm] 43))) := hb
  clear hA hB hn hm hb
  go_enter Tryz.func19, Tryz.ntmps19
  go_wp2_with fail
  refine (sameBytes_c A B n c c2 l _ HN.out.1 HN.out.2 HR.out.1 HR.out.2).mono ?_
  rintro e w1 ⟨rfl, hw1⟩
  have H1 : Hid (Below w.heap.size w w1) := HO.out.trans (hw1.mono HO.out.size)
  clear hw1
  go_wp2_with fail
  go_ret
  exact ⟨rfl, H1.out⟩
set_option maxRecDepth 100000 in
set_option maxHeartbeats 4000000 in
theorem sameFrame_c (k id seq m : Int) (A B : Option Addr) (n c c2 : Nat) (l : List UInt8) (w : World) (hn : l.length = n) (hm : n ≤ 1000000) (hA : Row w A (bts l)) (hB : Row w B (bts l)) :
    Calls Tryz.prog 24 #[.agg #[.int .i64 k, .int .i64 id, .int .i64 seq, .int .i64 m, .slice A n c], .agg #[.int .i64 k, .int .i64 id, .int .i64 seq, .int .i64 m, .slice B n c2]] w fun e w' => e = .returned (.bool true) ∧ Below w.heap.size w w' := by
  have hb : Below w.heap.size w ((w.alloc (.cells #[.int .i64 k, .int .i64 id, .int .i64 seq, .int .i64 m, .slice A n c] 45)).alloc (.cells #[.int .i64 k, .int .i64 id, .int .i64 seq, .int .i64 m, .slice B n c2] 45)) := ((Below.refl _ _).alloc (Nat.le_refl _) _).alloc (by simp) _
  have s1 := row_string 41 9 5 Tryz.underlying41 Tryz.underlying5 Tryz.underlying9 (hA.below hb) n c hn.symm
  have s2 := row_string 41 9 5 Tryz.underlying41 Tryz.underlying5 Tryz.underlying9 (hB.below hb) n c2 hn.symm
  have e1 := str_same (a := BA l) (b := BA l) rfl
  have HO : Hid (Below w.heap.size w ((w.alloc (.cells #[.int .i64 k, .int .i64 id, .int .i64 seq, .int .i64 m, .slice A n c] 45)).alloc (.cells #[.int .i64 k, .int .i64 id, .int .i64 seq, .int .i64 m, .slice B n c2] 45))) := hb
  clear hA hB hn hm hb
  go_enter Tryz.func24, Tryz.ntmps24
  go_wp2_with fail
  go_ret
  exact ⟨rfl, HO.out⟩
set_option maxRecDepth 100000 in
set_option maxHeartbeats 4000000 in
theorem sameTrans_c (k id bits seq : Int) (once en ask : Bool) (A B : Option Addr) (n c c2 : Nat) (l : List UInt8) (w : World) (hn : l.length = n) (hm : n ≤ 1000000) (hA : Row w A (bts l)) (hB : Row w B (bts l)) :
    Calls Tryz.prog 28 #[.agg #[.int .i64 k, .int .i64 id, .int .i64 bits, .int .i64 seq, .bool once, .bool en, .bool ask, .slice A n c], .agg #[.int .i64 k, .int .i64 id, .int .i64 bits, .int .i64 seq, .bool once, .bool en, .bool ask, .slice B n c2]] w fun e w' => e = .returned (.bool true) ∧ Below w.heap.size w w' := by
  have hb : Below w.heap.size w ((w.alloc (.cells #[.int .i64 k, .int .i64 id, .int .i64 bits, .int .i64 seq, .bool once, .bool en, .bool ask, .slice A n c] 63)).alloc (.cells #[.int .i64 k, .int .i64 id, .int .i64 bits, .int .i64 seq, .bool once, .bool en, .bool ask, .slice B n c2] 63)) := ((Below.refl _ _).alloc (Nat.le_refl _) _).alloc (by simp) _
  have s1 := row_string 41 9 5 Tryz.underlying41 Tryz.underlying5 Tryz.underlying9 (hA.below hb) n c hn.symm
  have s2 := row_string 41 9 5 Tryz.underlying41 Tryz.underlying5 Tryz.underlying9 (hB.below hb) n c2 hn.symm
  have e1 := str_same (a := BA l) (b := BA l) rfl
  have HO : Hid (Below w.heap.size w ((w.alloc (.cells #[.int .i64 k, .int .i64 id, .int .i64 bits, .int .i64 seq, .bool once, .bool en, .bool ask, .slice A n c] 63)).alloc (.cells #[.int .i64 k, .int .i64 id, .int .i64 bits, .int .i64 seq, .bool once, .bool en, .bool ask, .slice B n c2] 63))) := hb
  clear hA hB hn hm hb
  go_enter Tryz.func28, Tryz.ntmps28
  go_wp2_with fail
  go_ret
  exact ⟨rfl, HO.out⟩
end Go.Proofs.YtkbmljagcondhaaGreatDoor
