/- name.Put of one entry, walked: it tells whether the entry may stand. -/
import Derived.Test.YtkbmljagcondhaaGreatDoorNEntry
open Go Go.RowKit
set_option linter.unusedSimpArgs false
set_option linter.unusedVariables false
namespace Go.Proofs.YtkbmljagcondhaaGreatDoor
def PutEnd (ok : Bool) (w : World) (e : Ending) (w' : World) : Prop := ∃ v, e = .returned (.tuple #[v, .int .i64 (if ok then 0 else 2)]) ∧ Below w.heap.size w w'
structure PutSt (w0 : World) (t : TypeId) (d : Nat) (cs : Array Value) (v : Value) (m : Nat) (w : World) : Prop where
  o : Below w0.heap.size w0 w
  h : w.heap[d]? = some (.cells cs t (0, 0))
  t5 : t ≠ 5
  own : ∃ xs, w.ownsRow w0.heap.size 5 1 v m xs
theorem PutSt.below {w0 : World} {t : TypeId} {d : Nat} {cs : Array Value} {v : Value} {m : Nat} {w w' : World} (h : PutSt w0 t d cs v m w) (hb : Below w.heap.size w w') : PutSt w0 t d cs v m w' := by
  obtain ⟨xs, h1⟩ := h.own
  refine ⟨h.o.trans (hb.mono h.o.size), blk_below h.h hb (blk_lt h.h), h.t5, xs, ?_⟩
  refine h1.kept (row := none) ⟨hb.os, hb.tape, hb.output, hb.size, fun k hk _ => hb.block k hk⟩ ?_
  cases hv : v.ownBlock
  · exact .inl rfl
  · exact .inr (by simp)
theorem nwithin_k (n lo hi : Int) (w : World) : Calls Tryz.prog 86 #[.int .i64 n, .int .i64 lo, .int .i64 hi] w fun e w' => e = .returned (.bool (inB n lo hi)) ∧ w = w' :=
  (nwithin_c n lo hi w).mono fun e w' ⟨he, hw⟩ => ⟨he, hw.symm⟩
theorem PutSt.entry {w0 : World} {t : TypeId} {d : Nat} {cs : Array Value} {v : Value} {m : Nat} {w : World} (h : Hid (PutSt w0 t d cs v m w)) (a b c : ByteArray) (net node sock enum : Int) :
    Calls Tryz.prog 87 #[.int .i64 3, .agg #[.string a, .string b, .string c, .int .i64 net, .int .i64 node, .int .i64 sock, .int .i64 enum]] w fun e w' => e = .returned (.bool (entryB a b c net node sock enum)) ∧ Hid (PutSt w0 t d cs v m w') :=
  (isEntry_c a b c net node sock enum w).mono fun e w' ⟨he, hw⟩ => ⟨he, h.out.below hw⟩
def PutTextSt (w0 : World) (t : TypeId) (d : Nat) (cs : Array Value) (v : Value) (m : Nat) (s : ByteArray) (e : Ending) (w' : World) : Prop :=
  ∃ v6 b6 xs6, e = .returned (.tuple #[v6, .int .i64 0]) ∧ Hid (w'.ownsRow b6 5 1 v6 (1 + s.size) xs6 ∧ ∀ u ∈ xs6, u.oneCell' = true) ∧ Hid (PutSt w0 t d cs v m w')
theorem PutSt.text {w0 : World} {t : TypeId} {d : Nat} {cs : Array Value} {v : Value} {m : Nat} {w : World} (h : Hid (PutSt w0 t d cs v m w)) (s : ByteArray) (hs : s.size ≤ 31) :
    Calls Tryz.prog 88 #[.string s] w (PutTextSt w0 t d cs v m s) :=
  (putText_c s hs w).mono fun e w' ⟨v6, he, h6, hw⟩ => ⟨v6, _, _, he, ⟨h6, fun u hu => by
    rcases List.mem_cons.1 hu with rfl | hu
    · rfl
    · obtain ⟨x, _, rfl⟩ := List.mem_map.1 hu
      rfl⟩, h.out.below hw⟩
/-- behind an append to the row that is told -/
theorem PutSt.grown {w0 : World} {t : TypeId} {d : Nat} {cs : Array Value} {v v' : Value} {m m' : Nat} {w w' : World} {xs xs' : List Value} (h : PutSt w0 t d cs v m w) (h1 : w.ownsRow w0.heap.size 5 1 v m xs) (h2 : w'.ownsRow w0.heap.size 5 1 v' m' xs') (hg : w.grownBy w' v.ownBlock) : PutSt w0 t d cs v' m' w' :=
  ⟨below_grown h.o h1 hg h.o.size (Nat.le_refl _), grown_blk hg h.h (own_far h1 h.h h.t5), h.t5, xs', h2⟩
/-- a text's bytes, appended -/
theorem PutSt.rows {w0 : World} {t : TypeId} {d : Nat} {cs : Array Value} {v : Value} {m : Nat} {w : World} {ops : Array Oper} {rest : List Oper} {o : Oper} {a : Act} {Q : Exit → Act → World → Prop} (hgd : o.guard = none) (s x : Operand)
    (ho : o.op = .call { callee := .builtin .append, args := #[s, x], argTypes := #[41, 41] }) (h : Hid (PutSt w0 t d cs v m w)) (hm : m ≤ 1000) {v6 : Value} {b6 : Nat} {n6 : Nat} {xs6 : List Value} (hn : 1 ≤ n6 ∧ n6 ≤ 100)
    (h6 : Hid (w.ownsRow b6 5 1 v6 n6 xs6 ∧ ∀ u ∈ xs6, u.oneCell' = true)) (hs : a.eval s = v) (hx : a.eval x = v6)
    (hk : ∀ v' w', Hid (PutSt w0 t d cs v' (m + n6) w') → wpList Tryz.prog ops Q rest (a.put o.dst v') w') : wpList Tryz.prog ops Q (o :: rest) a w := by
  obtain ⟨i0, hi, hzz⟩ := Option.map_eq_some_iff.1 (show (Tryz.prog.info? 5).map (fun i => (i.zero, i.size, i.bytes)) = some (some (.int .u8 0), 1, 1) by kernel_rfl)
  simp only [Prod.mk.injEq] at hzz
  obtain ⟨hz0, hz1, hz2⟩ := hzz
  obtain ⟨xs, h1⟩ := h.out.own
  obtain ⟨A, c, rfl, hc, hrow⟩ := own_row h6.out.1
  have hl : xs6.length = n6 := by have := h6.out.1.1; omega
  obtain ⟨dd, oo, rfl⟩ := hrow.some_ (by omega)
  refine wpList_append_own w hgd s x 41 ho w0.heap.size 5 i0 (.int .u8 0) 1 1 Tryz.underlying41 hi hz0 hz1 hz2 rfl (by decide) v m xs hs h1 ⟨dd, oo, none⟩ n6 c xs6 hx (by omega) (fun j u hj => by have := hrow.at j u hj; rw [← this]; unfold Addr.add; split <;> simp_all) h6.out.2 (by unfold maxLen; omega) (by omega) h.out.o.size (fun v' w' h2 h3 _ => hk v' w' (h.out.grown h1 h2 h3))
/-- new bytes, appended -/
theorem PutSt.news {w0 : World} {t : TypeId} {d : Nat} {cs : Array Value} {v : Value} {m : Nat} {w : World} {ops : Array Oper} {rest : List Oper} {o : Oper} {a : Act} {Q : Exit → Act → World → Prop} (hgd : o.guard = none) (s x : Operand)
    (ho : o.op = .call { callee := .builtin .append, args := #[s, x], argTypes := #[41, 41] }) (h : Hid (PutSt w0 t d cs v m w)) (hm : m ≤ 1000) {n6 c : Nat} {ys : Array Value} (hn : n6 ≤ 100) (hl : ys.size = n6)
    (hs : a.eval s = v) (hx : a.eval x = .slice (some ⟨w.heap.size, 0, none⟩) n6 c) (h1 : ∀ u ∈ ys.toList, u.oneCell' = true)
    (hk : ∀ v' w', Hid (PutSt w0 t d cs v' (m + n6) w') → wpList Tryz.prog ops Q rest (a.put o.dst v') w') : wpList Tryz.prog ops Q (o :: rest) a (w.alloc (.cells ys 5)) := by
  obtain ⟨xs, hown⟩ := h.out.own
  refine wpList_append_new hgd s x 41 ho w0.heap.size 5 (.int .u8 0) 1 1 Tryz.underlying41 (by kernel_rfl) rfl (by decide) v m xs hown h.out.o.size n6 c ys hs hx (by omega) h1 (by unfold maxLen; omega) (by omega) (fun v' w' h2 h3 => hk v' w' (h.out.grown hown h2 h3))
/-- three texts laid -/
theorem PutSt.laid {w0 : World} {t : TypeId} {d : Nat} {cs : Array Value} {v : Value} {m : Nat} {w : World} (h : Hid (PutSt w0 t d cs v m w)) (a b c : ByteArray) :
    Hid (PutSt w0 9 w.heap.size #[.string a, .string b, .string c] v m (w.alloc (.cells #[.string a, .string b, .string c] 9))) := by
  have hb : Below w.heap.size w (w.alloc (.cells #[.string a, .string b, .string c] 9)) := (Below.refl _ _).alloc (Nat.le_refl _) _
  have h' := h.out.below hb
  exact ⟨h'.o, blk_new _ _, by decide, h'.own⟩
theorem PutSt.three {w0 : World} {t : TypeId} {d : Nat} {x y z : Value} {v : Value} {m : Nat} {w : World} (h : Hid (PutSt w0 t d #[x, y, z] v m w)) : w.cell? ⟨d, 0, none⟩ = some x ∧ w.cell? ⟨d, 1, none⟩ = some y ∧ w.cell? ⟨d, 2, none⟩ = some z :=
  ⟨by rw [blk_cell h.out.h]; rfl, by rw [blk_cell h.out.h]; rfl, by rw [blk_cell h.out.h]; rfl⟩
theorem PutSt.seven {w0 : World} {t : TypeId} {d : Nat} {v0 v1 v2 v3 v4 v5 v6 : Value} {v : Value} {m : Nat} {w : World} (h : Hid (PutSt w0 t d #[v0, v1, v2, v3, v4, v5, v6] v m w)) :
    w.cell? ⟨d, 0, none⟩ = some v0 ∧ w.cell? ⟨d, 1, none⟩ = some v1 ∧ w.cell? ⟨d, 2, none⟩ = some v2 ∧ w.cell? ⟨d, 3, none⟩ = some v3 ∧ w.cell? ⟨d, 4, none⟩ = some v4 ∧ w.cell? ⟨d, 5, none⟩ = some v5 ∧ w.cell? ⟨d, 6, none⟩ = some v6 :=
  ⟨by rw [blk_cell h.out.h]; rfl, by rw [blk_cell h.out.h]; rfl, by rw [blk_cell h.out.h]; rfl, by rw [blk_cell h.out.h]; rfl, by rw [blk_cell h.out.h]; rfl, by rw [blk_cell h.out.h]; rfl, by rw [blk_cell h.out.h]; rfl⟩
set_option maxRecDepth 100000 in
set_option maxHeartbeats 4000000 in
theorem put_no (d c : Nat) (a b z : ByteArray) (net node sock enum : Int) (w : World) (hd : w.heap[d]? = some (.cells #[.string a, .string b, .string z, .int .i64 net, .int .i64 node, .int .i64 sock, .int .i64 enum] 49 (0, 0)))
    (he : entryB a b z net node sock enum = false) : Calls Tryz.prog 58 #[.int .i64 3, .int .i64 0, .slice (some ⟨d, 0, none⟩) 1 c] w (PutEnd false w) := by
  have HE : Hid (entryB a b z net node sock enum = false) := he
  have w1 : inB 3 1 3 = true := by decide
  have w2 : inB 0 0 255 = true := by decide
  have w3 : inB 1 1 15 = true := by decide
  have hx : Bx w d 49 #[.string a, .string b, .string z, .int .i64 net, .int .i64 node, .int .i64 sock, .int .i64 enum] w := ⟨Below.refl _ _, hd⟩
  obtain ⟨c0, c1, c2, c3, c4, c5, c6⟩ := hx.seven
  have HD : Hid (d < w.heap.size) := blk_lt hd
  have n1 : ¬ d = w.heap.size := by have := HD.out; omega
  have n2 : ¬ w.heap.size = d := by have := HD.out; omega
  clear he hx
  have HB : Hid (w.heap[d]? = some (.cells #[.string a, .string b, .string z, .int .i64 net, .int .i64 node, .int .i64 sock, .int .i64 enum] 49 (0, 0))) := hd
  clear hd
  go_enter Tryz.func58, Tryz.ntmps58
  go_wp2_with (go_at_call 86; refine (nwithin_k _ _ _ _).mono ?_; rintro e w' ⟨rfl, rfl⟩)
  have S0 : Hid (Bx w d 49 #[.string a, .string b, .string z, .int .i64 net, .int .i64 node, .int .i64 sock, .int .i64 enum] (w.alloc (.cells #[.int .u8 49, .int .u8 0] 5))) := ⟨(Below.refl _ _).alloc (Nat.le_refl _) _, blk_alloc HB.out _⟩
  generalize hW : (w.alloc (.cells #[.int .u8 49, .int .u8 0] 5)) = W at S0 ⊢
  clear hW c0 c1 c2 c3 c4 c5 c6 n1 n2
  obtain ⟨c0, c1, c2, c3, c4, c5, c6⟩ := S0.out.seven
  refine wp_loop_rounds 1 ?_
  rw [rounds_succ]
  go_wp2_with fail
  have hbl : Below w.heap.size w (W.alloc (.cells #[.string a, .string b, .string z, .int .i64 net, .int .i64 node, .int .i64 sock, .int .i64 enum] 49)) := S0.out.o.alloc S0.out.o.size _
  refine (isEntry_c _ _ _ _ _ _ _ _).mono ?_
  rintro e w4 ⟨rfl, hw4⟩
  have HO : Hid (Below w.heap.size w w4) := hbl.trans (hw4.mono hbl.size)
  clear hbl hw4
  rw [HE.out]
  go_wp2_with fail
  go_ret2
  exact ⟨_, rfl, HO.out⟩
theorem entryB_parts {a b z : ByteArray} {net node sock enum : Int} (h : entryB a b z net node sock enum = true) : a.size ≤ 31 ∧ b.size ≤ 31 ∧ z.size ≤ 31 := by
  simp only [entryB, nameB, patB, partB, inB, Bool.and_eq_true, decide_eq_true_eq] at h
  omega
set_option maxRecDepth 100000 in
set_option maxHeartbeats 4000000 in
theorem put_yes (d c : Nat) (a b z : ByteArray) (net node sock enum : Int) (w : World) (hd : w.heap[d]? = some (.cells #[.string a, .string b, .string z, .int .i64 net, .int .i64 node, .int .i64 sock, .int .i64 enum] 49 (0, 0)))
    (he : entryB a b z net node sock enum = true) : Calls Tryz.prog 58 #[.int .i64 3, .int .i64 0, .slice (some ⟨d, 0, none⟩) 1 c] w (PutEnd true w) := by
  have HE : Hid (entryB a b z net node sock enum = true) := he
  have H31 : Hid (a.size ≤ 31 ∧ b.size ≤ 31 ∧ z.size ≤ 31) := entryB_parts he
  have w1 : inB 3 1 3 = true := by decide
  have w2 : inB 0 0 255 = true := by decide
  have w3 : inB 1 1 15 = true := by decide
  have HB : Hid (w.heap[d]? = some (.cells #[.string a, .string b, .string z, .int .i64 net, .int .i64 node, .int .i64 sock, .int .i64 enum] 49 (0, 0))) := hd
  have P0 : Hid (PutSt w 49 d #[.string a, .string b, .string z, .int .i64 net, .int .i64 node, .int .i64 sock, .int .i64 enum] (.slice (some ⟨w.heap.size, 0, none⟩) 2 2) 2 (w.alloc (.cells #[.int .u8 49, .int .u8 0] 5))) :=
    ⟨(Below.refl _ _).alloc (Nat.le_refl _) _, blk_alloc HB.out _, by decide, _, ⟨by rfl, .inr ⟨w.heap.size, 2, _, rfl, Nat.le_refl _, blk_new _ _, Nat.le_refl _, by simp [maxLen], rfl, rfl⟩⟩⟩
  clear he hd
  go_enter Tryz.func58, Tryz.ntmps58
  go_wp2_with (go_at_call 86; refine (nwithin_k _ _ _ _).mono ?_; rintro e w' ⟨rfl, rfl⟩)
  generalize hW : (w.alloc (.cells #[.int .u8 49, .int .u8 0] 5)) = W at P0 ⊢
  clear hW
  obtain ⟨c0, c1, c2, c3, c4, c5, c6⟩ := PutSt.seven P0
  refine wp_loop_rounds 2 ?_
  rw [rounds_succ]
  have P1 : Hid (PutSt w 49 W.heap.size #[.string a, .string b, .string z, .int .i64 net, .int .i64 node, .int .i64 sock, .int .i64 enum] (.slice (some ⟨w.heap.size, 0, none⟩) 2 2) 2 (W.alloc (.cells #[.string a, .string b, .string z, .int .i64 net, .int .i64 node, .int .i64 sock, .int .i64 enum] 49))) :=
    have h' := P0.out.below ((Below.refl _ _).alloc (Nat.le_refl _) (.cells #[.string a, .string b, .string z, .int .i64 net, .int .i64 node, .int .i64 sock, .int .i64 enum] 49))
    ⟨h'.o, blk_new _ _, by decide, h'.own⟩
  go_wp2_with fail
  generalize hW : (W.alloc (.cells #[.string a, .string b, .string z, .int .i64 net, .int .i64 node, .int .i64 sock, .int .i64 enum] 49)) = W2 at P1 ⊢
  clear hW c0 c1 c2 c3 c4 c5 c6 P0
  refine (PutSt.entry P1 _ _ _ _ _ _ _).mono ?_
  rintro e w4 ⟨rfl, P2⟩
  rw [HE.out]
  clear P1
  obtain ⟨c0, c1, c2, c3, c4, c5, c6⟩ := PutSt.seven P2
  go_wp2_with (at_builtin; ((refine PutSt.news rfl (.tmp 48) (.tmp 68) rfl P2 (by decide) (n6 := 5) (c := 5) (by decide) rfl ?hs ?hx ?h1 ?_); (case hs => simp [Act.eval, Act.put]); (case hx => simp [Act.eval, Act.put]); (case h1 => (intro u hu; simp only [List.mem_cons, List.mem_nil_iff, or_false] at hu; rcases hu with rfl | rfl | rfl | rfl | rfl <;> rfl)); (intro v5 w5 P3); (obtain ⟨g0, g1, g2, g3, g4, g5, g6⟩ := PutSt.seven P3)))
  clear c0 c1 c2 c3 c4 c5 c6 g0 g1 g2 g3 g4 g5 g6
  have Q0 := PutSt.laid P3 a b z
  generalize hW : (w5.alloc (.cells #[.string a, .string b, .string z] 9)) = x0 at Q0 ⊢
  clear hW P2 P3
  refine wp_loop_rounds 4 ?_
  rw [rounds_succ]
  obtain ⟨s0, s1, s2⟩ := PutSt.three Q0
  go_wp2_with fail
  refine (PutSt.text Q0 a (by have := H31.out; omega)).mono ?_
  rintro e y0 ⟨v6, b6, xs6, rfl, h6, R0⟩
  clear s0 s1 s2 Q0
  go_wp2_with (at_builtin; ((refine PutSt.rows rfl (.tmp 90) (.tmp 91) rfl R0 (by have := H31.out; omega) (by have := H31.out; omega) h6 ?hs ?hx ?_); (case hs => simp [Act.eval, Act.put]); (case hx => simp [Act.eval, Act.put]); (intro vv x1 Q1)))
  clear h6 R0
  rw [rounds_succ]
  obtain ⟨s0, s1, s2⟩ := PutSt.three Q1
  go_wp2_with fail
  refine (PutSt.text Q1 b (by have := H31.out; omega)).mono ?_
  rintro e y1 ⟨v6, b6, xs6, rfl, h6, R1⟩
  clear s0 s1 s2 Q1
  go_wp2_with (at_builtin; ((refine PutSt.rows rfl (.tmp 90) (.tmp 91) rfl R1 (by have := H31.out; omega) (by have := H31.out; omega) h6 ?hs ?hx ?_); (case hs => simp [Act.eval, Act.put]); (case hx => simp [Act.eval, Act.put]); (intro vv x2 Q2)))
  clear h6 R1
  rw [rounds_succ]
  obtain ⟨s0, s1, s2⟩ := PutSt.three Q2
  go_wp2_with fail
  refine (PutSt.text Q2 z (by have := H31.out; omega)).mono ?_
  rintro e y2 ⟨v6, b6, xs6, rfl, h6, R2⟩
  clear s0 s1 s2 Q2
  go_wp2_with (at_builtin; ((refine PutSt.rows rfl (.tmp 90) (.tmp 91) rfl R2 (by have := H31.out; omega) (by have := H31.out; omega) h6 ?hs ?hx ?_); (case hs => simp [Act.eval, Act.put]); (case hx => simp [Act.eval, Act.put]); (intro vv x3 Q3)))
  clear h6 R2
  rw [rounds_succ]
  go_wp2_with fail
  rw [rounds_succ]
  go_wp2_with fail
  go_ret2
  exact ⟨_, rfl, Q3.out.o⟩
end Go.Proofs.YtkbmljagcondhaaGreatDoor
