/- isKind, isEntry, PutText, Put: walked. -/
import Derived.Test.YtkbmljagcondhaaGreatDoorNName
open Go Go.RowKit
set_option linter.unusedSimpArgs false
set_option linter.unusedVariables false
namespace Go.Proofs.YtkbmljagcondhaaGreatDoor
theorem isKind_c (a b c : ByteArray) (w : World) : Calls Tryz.prog 111 #[.int .i64 3, .agg #[.string a, .string b, .string c]] w fun e w' => e = .returned (.bool (nameB a b c)) ∧ Below w.heap.size w w' := by
  have S0 : Hid (Bx w w.heap.size 47 #[.string a, .string b, .string c] (w.alloc (.cells #[.string a, .string b, .string c] 47))) := ⟨(Below.refl _ _).alloc (Nat.le_refl _) _, blk_new _ _⟩
  go_enter Tryz.func111, Tryz.ntmps111
  go_wp2_with fail
  refine (isName_c a b c _).mono ?_
  rintro e w1 ⟨rfl, hw1⟩
  have S1 := S0.out.below hw1
  have HO : Hid (Below w.heap.size w w1) := S1.o
  clear S1 S0 hw1
  go_wp2_with fail
  go_ret
  exact ⟨rfl, HO.out⟩
def entryB (a b c : ByteArray) (net node sock enum : Int) : Bool := addrB net node && inB sock 1 254 && inB enum 0 255 && nameB a b c
theorem Bx.seven {w0 : World} {g : Nat} {t : TypeId} {v0 v1 v2 v3 v4 v5 v6 : Value} {w : World} (h : Bx w0 g t #[v0, v1, v2, v3, v4, v5, v6] w) :
    w.cell? ⟨g, 0, none⟩ = some v0 ∧ w.cell? ⟨g, 1, none⟩ = some v1 ∧ w.cell? ⟨g, 2, none⟩ = some v2 ∧ w.cell? ⟨g, 3, none⟩ = some v3 ∧ w.cell? ⟨g, 4, none⟩ = some v4 ∧ w.cell? ⟨g, 5, none⟩ = some v5 ∧ w.cell? ⟨g, 6, none⟩ = some v6 :=
  ⟨by rw [blk_cell h.h]; rfl, by rw [blk_cell h.h]; rfl, by rw [blk_cell h.h]; rfl, by rw [blk_cell h.h]; rfl, by rw [blk_cell h.h]; rfl, by rw [blk_cell h.h]; rfl, by rw [blk_cell h.h]; rfl⟩
theorem Bx.kind {w0 : World} {g : Nat} {t : TypeId} {cs : Array Value} {w : World} (h : Hid (Bx w0 g t cs w)) (a b c : ByteArray) :
    Calls Tryz.prog 111 #[.int .i64 3, .agg #[.string a, .string b, .string c]] w fun e w' => e = .returned (.bool (nameB a b c)) ∧ Hid (Bx w0 g t cs w') :=
  (isKind_c a b c w).mono fun e w' ⟨he, hw⟩ => ⟨he, h.out.below hw⟩
set_option maxRecDepth 100000 in
set_option maxHeartbeats 2000000 in
theorem isEntry_c (a b c : ByteArray) (net node sock enum : Int) (w : World) :
    Calls Tryz.prog 87 #[.int .i64 3, .agg #[.string a, .string b, .string c, .int .i64 net, .int .i64 node, .int .i64 sock, .int .i64 enum]] w fun e w' => e = .returned (.bool (entryB a b c net node sock enum)) ∧ Below w.heap.size w w' := by
  have S0 : Hid (Bx w w.heap.size 49 #[.string a, .string b, .string c, .int .i64 net, .int .i64 node, .int .i64 sock, .int .i64 enum] (w.alloc (.cells #[.string a, .string b, .string c, .int .i64 net, .int .i64 node, .int .i64 sock, .int .i64 enum] 49))) := ⟨(Below.refl _ _).alloc (Nat.le_refl _) _, blk_new _ _⟩
  go_enter Tryz.func87, Tryz.ntmps87
  go_wp2_with fail
  generalize hW : (w.alloc (.cells #[.string a, .string b, .string c, .int .i64 net, .int .i64 node, .int .i64 sock, .int .i64 enum] 49)) = W at S0 ⊢
  clear hW
  obtain ⟨c0, c1, c2, c3, c4, c5, c6⟩ := S0.out.seven
  go_wp2_with (first
    | (go_at_call 86; refine (nwithin_c _ _ _ _).mono ?_; rintro e w' ⟨rfl, rfl⟩; generalize hb : inB _ _ _ = b; have HB := (show Hid _ from hb); clear hb; cases b)
    | (go_at_call 111; refine (Bx.kind (by assumption) _ _ _).mono ?_; rintro e w' ⟨rfl, hst⟩; generalize hb : nameB _ _ _ = b; have HB := (show Hid _ from hb); clear hb; cases b))
  all_goals
    go_ret
    refine ⟨?_, (by assumption : Hid (Bx _ _ _ _ _)).out.o⟩
    simp only [Hid] at *
    simp [entryB, addrB, *]
/-- PutText of a short text: some bytes in new memory -/
def PutTextEnd (s : ByteArray) (w : World) (e : Ending) (w' : World) : Prop :=
  ∃ v, e = .returned (.tuple #[v, .int .i64 0]) ∧ w'.ownsRow w.heap.size 5 1 v (1 + s.size) (U8 (UInt8.ofNat s.size) :: bts s.data.toList) ∧ Below w.heap.size w w'
set_option maxRecDepth 100000 in
theorem putText_c (s : ByteArray) (hs : s.size ≤ 31) (w : World) : Calls Tryz.prog 88 #[.string s] w (PutTextEnd s w) := by
  have hk : decide ((s.size : Int) > 31) = false := by simp; omega
  obtain ⟨i0, hi, hzz⟩ := Option.map_eq_some_iff.1 (show (Tryz.prog.info? 5).map (fun i => (i.zero, i.size, i.bytes)) = some (some (.int .u8 0), 1, 1) by kernel_rfl)
  simp only [Prod.mk.injEq] at hzz
  obtain ⟨hz0, hz1, hz2⟩ := hzz
  have HI : Hid (Tryz.prog.info? 5 = some i0 ∧ i0.zero = some (.int .u8 0) ∧ i0.size = 1 ∧ i0.bytes = 1) := ⟨hi, hz0, hz1, hz2⟩
  have HS : s.size ≤ 31 := hs
  have e8 : (s.size : Int) % 256 = s.size := by omega
  have EU : Hid (U8 (UInt8.ofNat s.size) = .int .u8 (s.size : Int)) := by
    have : (UInt8.ofNat s.size).toNat = s.size := by simp; omega
    unfold Hid U8; rw [this]
  have hown : (w.alloc (.cells #[.int .u8 (s.size : Int)] 5)).ownsRow w.heap.size 5 1 (.slice (some ⟨w.heap.size, 0, none⟩) 1 1) 1 [.int .u8 (s.size : Int)] :=
    ⟨rfl, .inr ⟨w.heap.size, 1, _, rfl, Nat.le_refl _, blk_new _ _, Nat.le_refl _, by simp [maxLen], rfl, rfl⟩⟩
  have HO : Hid ((w.alloc (.cells #[.int .u8 (s.size : Int)] 5)).ownsRow w.heap.size 5 1 (.slice (some ⟨w.heap.size, 0, none⟩) 1 1) 1 [.int .u8 (s.size : Int)]) := hown
  clear hi hz0 hz1 hz2 hs hown
  go_enter Tryz.func88, Tryz.ntmps88
  go_wp2_with (at_builtin; ((refine Lib.wpList_append_own_string (w.alloc (.cells #[.int .u8 (s.size : Int)] 5)) rfl (.tmp 10) (.tmp 11) 41 9 rfl w.heap.size 5 i0 Tryz.underlying41 Tryz.underlying9 HI.out.1 HI.out.2.1 HI.out.2.2.1 HI.out.2.2.2 _ 1 _ ?hs HO.out s ?hx ?h6 ?hb ?hbase ?_); (case hs => simp [Act.eval, Act.put]); (case hx => simp [Act.eval, Act.put]); (case h6 => (unfold maxLen; omega)); (case hb => omega); (case hbase => simp); (intro v' w' hown2 hg2 _)))
  have HO2 : Hid (w'.ownsRow w.heap.size 5 1 v' (1 + s.size) ([.int .u8 (s.size : Int)] ++ Lib.strCells s)) := hown2
  have HG2 : Hid ((w.alloc (.cells #[.int .u8 (s.size : Int)] 5)).grownBy w' (Value.slice (some ⟨w.heap.size, 0, none⟩) 1 1).ownBlock) := hg2
  clear hown2 hg2
  go_wp2_with fail
  go_ret2
  refine ⟨v', rfl, ?_, ?_⟩
  · rw [EU.out]; exact HO2.out
  · exact ((Below.refl _ _).alloc (Nat.le_refl _) _).grown HG2.out (by simp) (fun k hk => by simp [Value.ownBlock] at hk; omega)
end Go.Proofs.YtkbmljagcondhaaGreatDoor
