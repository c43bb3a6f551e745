/- datagram.Valid, walked. -/
import Derived.Test.YtkbmljagcondhaaGreatDoorWLine
open Go Go.RowKit
set_option linter.unusedSimpArgs false
set_option linter.unusedVariables false
namespace Go.Proofs.YtkbmljagcondhaaGreatDoor
def inB (n lo hi : Int) : Bool := decide (lo ≤ n) && decide (n ≤ hi)
theorem inB_iff (n lo hi : Int) : inB n lo hi = true ↔ lo ≤ n ∧ n ≤ hi := by simp [inB]
theorem within_c (n lo hi : Int) (w : World) : Calls Tryz.prog 77 #[.int .i64 n, .int .i64 lo, .int .i64 hi] w fun e w' => e = .returned (.bool (inB n lo hi)) ∧ w' = w := by
  by_cases h : lo ≤ n
  · have hv : Hid (inB n lo hi = decide (n ≤ hi)) := by simp [Hid, inB, h]
    go_enter Tryz.func77, Tryz.ntmps77
    go_wp2
    go_ret
    exact ⟨by rw [hv.out]; rfl, rfl⟩
  · have hv : Hid (inB n lo hi = false) := by simp [Hid, inB, h]
    go_enter Tryz.func77, Tryz.ntmps77
    go_wp2
    go_ret
    exact ⟨by rw [hv.out]; rfl, rfl⟩
def addrB (a b : Int) : Bool := inB a 0 65279 && inB b 0 255
theorem isAddr_c (a b : Int) (w : World) : Calls Tryz.prog 78 #[.agg #[.int .i64 a, .int .i64 b]] w fun e w' => e = .returned (.bool (addrB a b)) ∧ Below w.heap.size w w' := by
  go_enter Tryz.func78, Tryz.ntmps78
  go_wp2_with (go_at_call 77; refine (within_c _ _ _ _).mono ?_; rintro e w' ⟨rfl, rfl⟩; generalize hb : inB _ _ _ = b; have HB := (show Hid _ from hb); clear hb; cases b)
  all_goals
    go_ret
    refine ⟨?_, (Below.refl _ _).alloc (Nat.le_refl _) _⟩
    simp only [Hid] at *
    simp [addrB, *]
def validB (hops dn dd sn sd ds ss ty : Int) (n : Nat) : Bool :=
  inB ds 0 255 && inB ss 0 255 && inB hops 0 15 && addrB dn dd && addrB sn sd && inB ty 1 255 && decide ((n : Int) ≤ 586)
/-- a box of the call's own -/
structure Bx (w0 : World) (g : Nat) (t : TypeId) (cs : Array Value) (w : World) : Prop where
  o : Below w0.heap.size w0 w
  h : w.heap[g]? = some (.cells cs t (0, 0))
theorem Bx.below {w0 : World} {g : Nat} {t : TypeId} {cs : Array Value} {w w' : World} (h : Bx w0 g t cs w) (hb : Below w.heap.size w w') : Bx w0 g t cs w' :=
  ⟨h.o.trans (hb.mono h.o.size), blk_below h.h hb (blk_lt h.h)⟩
theorem Bx.ten {w0 : World} {g : Nat} {t : TypeId} {v0 v1 v2 v3 v4 v5 v6 v7 v8 v9 : Value} {w : World} (h : Bx w0 g t #[v0, v1, v2, v3, v4, v5, v6, v7, v8, v9] w) :
    w.cell? ⟨g, 0, none⟩ = some v0 ∧ w.cell? ⟨g, 1, none⟩ = some v1 ∧ w.cell? ⟨g, 2, none⟩ = some v2 ∧ w.cell? ⟨g, 3, none⟩ = some v3 ∧ w.cell? ⟨g, 4, none⟩ = some v4 ∧
    w.cell? ⟨g, 5, none⟩ = some v5 ∧ w.cell? ⟨g, 6, none⟩ = some v6 ∧ w.cell? ⟨g, 7, none⟩ = some v7 ∧ w.cell? ⟨g, 8, none⟩ = some v8 ∧ w.cell? ⟨g, 9, none⟩ = some v9 :=
  ⟨by rw [blk_cell h.h]; rfl, by rw [blk_cell h.h]; rfl, by rw [blk_cell h.h]; rfl, by rw [blk_cell h.h]; rfl, by rw [blk_cell h.h]; rfl, by rw [blk_cell h.h]; rfl, by rw [blk_cell h.h]; rfl, by rw [blk_cell h.h]; rfl, by rw [blk_cell h.h]; rfl, by rw [blk_cell h.h]; rfl⟩
theorem Bx.addr {w0 : World} {g : Nat} {t : TypeId} {cs : Array Value} {w : World} (h : Hid (Bx w0 g t cs w)) (a b : Int) :
    Calls Tryz.prog 78 #[.agg #[.int .i64 a, .int .i64 b]] w fun e w' => e = .returned (.bool (addrB a b)) ∧ Hid (Bx w0 g t cs w') :=
  (isAddr_c a b w).mono fun e w' ⟨he, hw⟩ => ⟨he, h.out.below hw⟩
set_option maxRecDepth 100000 in
set_option maxHeartbeats 2000000 in
theorem valid_c (hops dn dd sn sd ds ss ty : Int) (A : Option Addr) (n c : Nat) (sm : Bool) (w : World) :
    Calls Tryz.prog 46 #[.agg #[.int .i64 hops, .int .i64 dn, .int .i64 dd, .int .i64 sn, .int .i64 sd, .int .i64 ds, .int .i64 ss, .int .i64 ty, .slice A n c, .bool sm]] w
      fun e w' => e = .returned (.bool (validB hops dn dd sn sd ds ss ty n)) ∧ Below w.heap.size w w' := by
  have S0 : Hid (Bx w w.heap.size 43 #[.int .i64 hops, .int .i64 dn, .int .i64 dd, .int .i64 sn, .int .i64 sd, .int .i64 ds, .int .i64 ss, .int .i64 ty, .slice A n c, .bool sm] (w.alloc (.cells #[.int .i64 hops, .int .i64 dn, .int .i64 dd, .int .i64 sn, .int .i64 sd, .int .i64 ds, .int .i64 ss, .int .i64 ty, .slice A n c, .bool sm] 43))) :=
    ⟨(Below.refl _ _).alloc (Nat.le_refl _) _, blk_new _ _⟩
  go_enter Tryz.func46, Tryz.ntmps46
  go_wp2_with fail
  generalize hW : (w.alloc (.cells #[.int .i64 hops, .int .i64 dn, .int .i64 dd, .int .i64 sn, .int .i64 sd, .int .i64 ds, .int .i64 ss, .int .i64 ty, .slice A n c, .bool sm] 43)) = W at S0 ⊢
  clear hW
  obtain ⟨c0, c1, c2, c3, c4, c5, c6, c7, c8, c9⟩ := S0.out.ten
  go_wp2_with (first
    | (go_at_call 77; refine (within_c _ _ _ _).mono ?_; rintro e w' ⟨rfl, rfl⟩; generalize hb : inB _ _ _ = b; have HB := (show Hid _ from hb); clear hb; cases b)
    | (go_at_call 78; refine (Bx.addr (by assumption) _ _).mono ?_; rintro e w' ⟨rfl, hst⟩; obtain ⟨_, _, _, _, _, _, _, _, _, _⟩ := hst.out.ten; generalize hb : addrB _ _ = b; have HB := (show Hid _ from hb); clear hb; cases b))
  all_goals
    go_ret
    refine ⟨?_, (by assumption : Hid (Bx _ _ _ _ _)).out.o⟩
    simp only [Hid] at *
    simp [validB, *]
end Go.Proofs.YtkbmljagcondhaaGreatDoor
