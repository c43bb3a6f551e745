/- watch.data, walked: the hexadecimal text of bytes. -/
import Derived.Test.YtkbmljagcondhaaGreatDoorProg
import Derived.Test.YtkbmljagcondhaaGreatDoorWSpec
open Go Go.RowKit
set_option linter.unusedSimpArgs false
namespace Go.Proofs.YtkbmljagcondhaaGreatDoor
theorem data_none (A : Option Addr) (c : Nat) (w : World) : Calls Tryz.prog 50 #[.slice A 0 c] w fun e w' => e = .returned (.string (BA [45])) ∧ w' = w := by
  go_enter Tryz.func50, Tryz.ntmps50
  go_wp2
  go_ret
  exact ⟨rfl, rfl⟩
set_option maxRecDepth 100000 in
set_option maxHeartbeats 1000000 in
theorem data_some (d o c : Nat) (l : List UInt8) (w : World) (hl : 1 ≤ l.length) (hm : l.length ≤ 1000000) (hr : Row w (some ⟨d, o, none⟩) (bts l)) :
    Calls Tryz.prog 50 #[.slice (some ⟨d, o, none⟩) l.length c] w fun e w' => e = .returned (.string ⟨(hexs l).toArray⟩) ∧ Below w.heap.size w w' := by
  have hne : ((l.length : Int) == 0) = false := by simp; intro h; simp [h] at hl
  have hN : Hid (Row w (some ⟨d, o, none⟩) (bts l)) := hr
  clear hr
  go_enter Tryz.func50, Tryz.ntmps50
  go_wp2
  go_loopw [3, 11] (fun v i wr => ∃ k : Nat, k ≤ l.length ∧ i = .int .i64 k ∧ wr.ownsRow w.heap.size 5 1 v (2 * k) (bts (hexs (l.take k))) ∧ Below w.heap.size w wr) (fun _ i _ => l.length - (intOf i).toNat)
  case atStart => exact ⟨0, Nat.zero_le _, rfl, by simp [hexs, bts, World.ownsRow], Below.refl _ _⟩
  case round =>
    obtain ⟨k, hk, rfl, hown, hb⟩ := hrel
    by_cases hlt : k < l.length
    · have hc := hN.out.at k (U8 l[k]) (by simp [bts, hlt])
      have hc' : wr.cell? ⟨d, o + k, none⟩ = some (.int .u8 (l[k].toNat : Int)) := (hb.cell (World.block_lt_of_cell? w _ hc)).trans hc
      clear hc
      obtain ⟨x, hx0⟩ : ∃ x : UInt8, x = l[k] := ⟨_, rfl⟩
      rw [← hx0] at hc'
      have hX : Hid (x = l[k]) := hx0
      clear hx0
      have x0 : (0:Int) ≤ x.toNat := Int.natCast_nonneg _
      have x1 : (x.toNat : Int) < 256 := by have := x.toNat_lt; omega
      have b1 : (0:Int) ≤ ↑x.toNat / 16 := by omega
      have b2 : (x.toNat : Int) / 16 < 16 := by omega
      have b3 := and15 x
      have b4 : (0:Int) ≤ ↑x.toNat % 16 := by omega
      have b5 : (x.toNat : Int) % 16 < 16 := by omega
      go_wp2
      go_region_law ((refine step_append_new rfl (.tmp 15) (.tmp 22) 41 rfl w.heap.size 5 (.int .u8 0) 1 1 Tryz.underlying41 ?i1 rfl ?i2 u3 (2*k) (bts (hexs (l.take k))) hown hb.size 2 2 _ ?hs ?hx ?cl ?c1 ?c3 ?c4 ?_); (case i1 => kernel_rfl); (case i2 => decide); (case hs => simp [Act.eval, Act.put]); (case hx => simp [Act.eval, Act.put]); (case cl => rfl); (case c1 => (intro u hu; simp only [List.mem_cons, List.mem_nil_iff, or_false] at hu; rcases hu with rfl | rfl <;> rfl)); (case c3 => (unfold maxLen; omega)); (case c4 => omega); (intro v' w' hown' hg'))
      all_goals
        go_wp2
        refine ⟨⟨k + 1, by omega, by go_num, ?_, below_grown hb hown hg' hb.size (Nat.le_refl _)⟩, by simp [intOf]; omega⟩
        have e := hexs_take_succ l k hlt
        rw [← hX.out] at e
        rw [e, bts, List.map_append]
        have d1 := digs_at (x.toNat / 16) (by omega) ((x.toNat : Int) / 16) (by omega) (by show _ < 16; omega)
        have d2 := digs_at (x.toNat % 16) (by omega) ((x.toNat : Int) % 16) (by omega) (by show _ < 16; omega)
        simp only [List.map_cons, List.map_nil, U8]
        rw [← d1, ← d2]
        exact hown'
    · have hk2 : k = l.length := by omega
      have hk3 : Hid (k = l.length) := hk2
      clear hk2
      obtain ⟨A, c2, rfl, _, hrow⟩ := own_row hown
      have hs := row_string 41 9 5 Tryz.underlying41 Tryz.underlying5 Tryz.underlying9 hrow (2 * k) c2 (by rw [hexs_length, List.length_take, hk3.out]; simp)
      have HS : Hid (BA (hexs (List.take k l)) = BA (hexs l)) := by unfold Hid; rw [hk3.out, List.take_length]
      rw [HS.out] at hs
      clear hrow hown
      go_wp2
      go_ret
      exact ⟨rfl, hb⟩
end Go.Proofs.YtkbmljagcondhaaGreatDoor
