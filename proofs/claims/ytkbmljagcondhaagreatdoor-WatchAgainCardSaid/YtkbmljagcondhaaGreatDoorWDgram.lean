/- watch.point, watch.Datagram, walked. -/
import Derived.Test.YtkbmljagcondhaaGreatDoorWValid
import Derived.Laws.Concat
open Go Go.RowKit
set_option linter.unusedSimpArgs false
set_option linter.unusedVariables false
namespace Go.Proofs.YtkbmljagcondhaaGreatDoor
def pointT (a b c : Int) : List UInt8 := Lib.itoa a ++ 46 :: (Lib.itoa b ++ 46 :: Lib.itoa c)
theorem BA_add (a b : ByteArray) : (a ++ b).data.toList = a.data.toList ++ b.data.toList := by simp
theorem add_c {P : Program} (x y : List UInt8) (hx : x.length ≤ 1000000) (hy : y.length ≤ 1000000) (W : World) : (Op.stringOp .add (BA x) (BA y)).run P W = .ok (.string (BA (x ++ y))) W := by
  have := run_string_add_sum (P := P) W (BA x) (BA y) (by rw [BA_size, BA_size]; omega)
  rw [this]
  exact congrArg (fun s => Result.ok (Value.string s) W) (data_inj (by simp [BA_add, BA_list]))
theorem add_c1 {P : Program} (x : List UInt8) (c : UInt8) (hx : x.length ≤ 1000000) (W : World) : (Op.stringOp .add (BA x) ⟨#[c]⟩).run P W = .ok (.string (BA (x ++ [c]))) W := add_c x [c] hx (by simp) W
theorem point_text_c (a b c : Int) (w : World) (G : Glob w) (ha : wf64 a) (hb : wf64 b) (hc : wf64 c) :
    Calls Tryz.prog 49 #[.agg #[.int .i64 a, .int .i64 b], .int .i64 c] w fun e w' => e = .returned (.string (BA (pointT a b c))) ∧ Below w.heap.size w w' := by
  have H1 : Hid (wf64 a) := ha
  have H2 : Hid (wf64 b) := hb
  have H3 : Hid (wf64 c) := hc
  have hb0 : Below w.heap.size w (w.alloc (.cells #[.int .i64 a, .int .i64 b] 40)) := (Below.refl _ _).alloc (Nat.le_refl _) _
  have S0 : Hid (BoxSt w w.heap.size 40 #[.int .i64 a, .int .i64 b] none [] (w.alloc (.cells #[.int .i64 a, .int .i64 b] 40)).drew) :=
    BoxSt.drew ⟨G.below hb0 G.low, hb0, blk_new _ _, Row.nil _ _⟩
  have s1 := itoa_len a ha
  have s2 := itoa_len b hb
  have s3 := itoa_len c hc
  have k1 := fun W => add_c1 (P := Tryz.prog) (Lib.itoa a) 46 (by omega) W
  have k2 := fun W => add_c (P := Tryz.prog) (Lib.itoa a ++ [46]) (Lib.itoa b) (by simp; omega) (by omega) W
  have k3 := fun W => add_c1 (P := Tryz.prog) (Lib.itoa a ++ 46 :: Lib.itoa b) 46 (by simp; omega) W
  have k4 := fun W => add_c (P := Tryz.prog) (Lib.itoa a ++ 46 :: (Lib.itoa b ++ [46])) (Lib.itoa c) (by simp; omega) (by omega) W
  simp only [List.append_assoc, List.cons_append, List.nil_append] at k2 k3 k4
  clear s1 s2 s3
  clear G ha hb hc hb0
  go_enter Tryz.func49, Tryz.ntmps49
  go_wp2_with fail
  generalize hW : (w.alloc (.cells #[.int .i64 a, .int .i64 b] 40)) = W at S0 ⊢
  have c0 : W.drew.cell? ⟨w.heap.size, 0, none⟩ = some (.int .i64 a) := blk_cell S0.out.h 0
  have c1 : W.drew.cell? ⟨w.heap.size, 1, none⟩ = some (.int .i64 b) := blk_cell S0.out.h 1
  simp only [World.cell?_drew] at c0 c1
  clear hW
  go_region_held3 (fun w' => w'.cell? ⟨w.heap.size, 0, none⟩ = some (.int .i64 a) ∧ w'.cell? ⟨w.heap.size, 1, none⟩ = some (.int .i64 b))
    (first | (exact BoxSt.two (by assumption)) | go_keep)
    (first
      | (go_at_call 48; refine (BoxSt.itoa (by assumption) _ (by assumption)).mono ?_; rintro e w' ⟨rfl, hst⟩))
  go_wp2
  go_ret
  exact ⟨rfl, hst.out.o⟩
theorem BoxSt.point {w0 : World} {g : Nat} {t : TypeId} {cs : Array Value} {A : Option Addr} {l : List UInt8} {w : World} (h : Hid (BoxSt w0 g t cs A l w)) (a b c : Int) (ha : Hid (wf64 a)) (hb : Hid (wf64 b)) (hc : Hid (wf64 c)) :
    Calls Tryz.prog 49 #[.agg #[.int .i64 a, .int .i64 b], .int .i64 c] w fun e w' => e = .returned (.string (BA (pointT a b c))) ∧ Hid (BoxSt w0 g t cs A l w') :=
  (point_text_c a b c w h.out.gl ha.out hb.out hc.out).mono fun e w' ⟨he, hw⟩ => ⟨he, h.out.below hw⟩
theorem BoxSt.ten {w0 : World} {g : Nat} {t : TypeId} {v0 v1 v2 v3 v4 v5 v6 v7 v8 v9 : Value} {A : Option Addr} {l : List UInt8} {w : World} (h : Hid (BoxSt w0 g t #[v0, v1, v2, v3, v4, v5, v6, v7, v8, v9] A l w)) :
    w.cell? ⟨g, 0, none⟩ = some v0 ∧ w.cell? ⟨g, 1, none⟩ = some v1 ∧ w.cell? ⟨g, 2, none⟩ = some v2 ∧ w.cell? ⟨g, 3, none⟩ = some v3 ∧ w.cell? ⟨g, 4, none⟩ = some v4 ∧
    w.cell? ⟨g, 5, none⟩ = some v5 ∧ w.cell? ⟨g, 6, none⟩ = some v6 ∧ w.cell? ⟨g, 7, none⟩ = some v7 ∧ w.cell? ⟨g, 8, none⟩ = some v8 ∧ w.cell? ⟨g, 9, none⟩ = some v9 :=
  (Bx.mk h.out.o h.out.h : Bx w0 g t #[v0, v1, v2, v3, v4, v5, v6, v7, v8, v9] w).ten
theorem BoxSt.nine {w0 : World} {g : Nat} {t : TypeId} {v0 v1 v2 v3 v4 v5 v6 v7 v8 v9 : Value} {A : Option Addr} {l : List UInt8} {w : World} (h : Hid (BoxSt w0 g t #[v0, v1, v2, v3, v4, v5, v6, v7, v8, v9] A l w)) :
    w.cell? ⟨g, 0, none⟩ = some v0 ∧ w.cell? ⟨g, 1, none⟩ = some v1 ∧ w.cell? ⟨g, 2, none⟩ = some v2 ∧ w.cell? ⟨g, 3, none⟩ = some v3 ∧ w.cell? ⟨g, 4, none⟩ = some v4 ∧
    w.cell? ⟨g, 5, none⟩ = some v5 ∧ w.cell? ⟨g, 6, none⟩ = some v6 ∧ w.cell? ⟨g, 7, none⟩ = some v7 ∧ w.cell? ⟨g, 8, none⟩ = some v8 := by
  obtain ⟨a0, a1, a2, a3, a4, a5, a6, a7, a8, _⟩ := BoxSt.ten h
  exact ⟨a0, a1, a2, a3, a4, a5, a6, a7, a8⟩
theorem BoxSt.valid {w0 : World} {g : Nat} {t : TypeId} {cs : Array Value} {A : Option Addr} {l : List UInt8} {w : World} (h : Hid (BoxSt w0 g t cs A l w)) (hops dn dd sn sd ds ss ty : Int) (A' : Option Addr) (n c : Nat) (sm : Bool) :
    Calls Tryz.prog 46 #[.agg #[.int .i64 hops, .int .i64 dn, .int .i64 dd, .int .i64 sn, .int .i64 sd, .int .i64 ds, .int .i64 ss, .int .i64 ty, .slice A' n c, .bool sm]] w
      fun e w' => e = .returned (.bool (validB hops dn dd sn sd ds ss ty n)) ∧ Hid (BoxSt w0 g t cs A l w') :=
  (valid_c hops dn dd sn sd ds ss ty A' n c sm w).mono fun e w' ⟨he, hw⟩ => ⟨he, h.out.below hw⟩
def dgL (hops dn dd sn sd ds ss ty : Int) (sm : Bool) (l : List UInt8) : List ByteArray :=
  [⟨#[68]⟩, BA (Lib.itoa hops), BA (pointT sn sd ss), BA (pointT dn dd ds), BA (Lib.itoa ty), if sm then ⟨#[115, 117, 109]⟩ else ⟨#[45]⟩, BA (dataL l)]
def dgR (hops dn dd sn sd ds ss ty : Int) (sm : Bool) (l : List UInt8) (n : Nat) : Array Value :=
  if validB hops dn dd sn sd ds ss ty n then #[.string (BA (joinB (dgL hops dn dd sn sd ds ss ty sm l))), .int .i64 0] else #[.string ⟨#[]⟩, .int .i64 2]
theorem validB_wf {hops dn dd sn sd ds ss ty : Int} {n : Nat} (h : validB hops dn dd sn sd ds ss ty n = true) :
    wf64 hops ∧ wf64 dn ∧ wf64 dd ∧ wf64 sn ∧ wf64 sd ∧ wf64 ds ∧ wf64 ss ∧ wf64 ty ∧ n ≤ 586 := by
  simp only [validB, addrB, inB, Bool.and_eq_true, decide_eq_true_eq] at h
  unfold wf64
  omega
set_option maxRecDepth 100000 in
set_option maxHeartbeats 4000000 in
theorem datagram_c (hops dn dd sn sd ds ss ty : Int) (sm : Bool) (A : Option Addr) (c n : Nat) (l : List UInt8) (w : World) (G : Glob w) (hn : l.length = n) (hrow : Row w A (bts l)) :
    Calls Tryz.prog 17 #[.agg #[.int .i64 hops, .int .i64 dn, .int .i64 dd, .int .i64 sn, .int .i64 sd, .int .i64 ds, .int .i64 ss, .int .i64 ty, .slice A n c, .bool sm]] w fun e w' =>
      e = .returned (.tuple (dgR hops dn dd sn sd ds ss ty sm l n)) ∧ Below w.heap.size w w' := by
  have hb0 : Below w.heap.size w (w.alloc (.cells #[.int .i64 hops, .int .i64 dn, .int .i64 dd, .int .i64 sn, .int .i64 sd, .int .i64 ds, .int .i64 ss, .int .i64 ty, .slice A n c, .bool sm] 43)) := (Below.refl _ _).alloc (Nat.le_refl _) _
  have S0 : Hid (BoxSt w w.heap.size 43 #[.int .i64 hops, .int .i64 dn, .int .i64 dd, .int .i64 sn, .int .i64 sd, .int .i64 ds, .int .i64 ss, .int .i64 ty, .slice A n c, .bool sm] A l (w.alloc (.cells #[.int .i64 hops, .int .i64 dn, .int .i64 dd, .int .i64 sn, .int .i64 sd, .int .i64 ds, .int .i64 ss, .int .i64 ty, .slice A n c, .bool sm] 43))) :=
    ⟨G.below hb0 G.low, hb0, blk_new _ _, hrow.below hb0⟩
  have HN : Hid (l.length = n) := hn
  clear G hrow hb0 hn
  go_enter Tryz.func17, Tryz.ntmps17
  go_wp2_with fail
  generalize hW : (w.alloc (.cells #[.int .i64 hops, .int .i64 dn, .int .i64 dd, .int .i64 sn, .int .i64 sd, .int .i64 ds, .int .i64 ss, .int .i64 ty, .slice A n c, .bool sm] 43)) = W at S0 ⊢
  clear hW
  refine (BoxSt.valid S0 hops dn dd sn sd ds ss ty A n c sm).mono ?_
  rintro e w1 ⟨rfl, S1⟩
  clear S0
  generalize hv : validB hops dn dd sn sd ds ss ty n = v
  have HV : Hid (validB hops dn dd sn sd ds ss ty n = v) := hv
  clear hv
  cases v with
  | false =>
    go_wp2_with fail
    go_ret2
    exact ⟨by rw [dgR, HV.out]; rfl, S1.out.o⟩
  | true =>
    obtain ⟨f1, f2, f3, f4, f5, f6, f7, f8, f9⟩ := validB_wf HV.out
    have H1 : Hid (wf64 hops) := f1
    have H2 : Hid (wf64 dn) := f2
    have H3 : Hid (wf64 dd) := f3
    have H4 : Hid (wf64 sn) := f4
    have H5 : Hid (wf64 sd) := f5
    have H6 : Hid (wf64 ds) := f6
    have H7 : Hid (wf64 ss) := f7
    have H8 : Hid (wf64 ty) := f8
    have H9 : Hid (l.length = n ∧ n ≤ 1000000) := ⟨HN.out, by omega⟩
    have hlen : Hid ((joinB (dgL hops dn dd sn sd ds ss ty sm l)).length ≤ 100000000) := by
      unfold Hid dgL joinB
      have a1 := itoa_len hops f1
      have a2 := itoa_len ty f8
      have a3 := itoa_len dn f2
      have a4 := itoa_len dd f3
      have a5 := itoa_len sn f4
      have a6 := itoa_len sd f5
      have a7 := itoa_len ds f6
      have a8 := itoa_len ss f7
      have a9 := dataL_len l
      have a10 : (if sm = true then (⟨#[115, 117, 109]⟩ : ByteArray) else ⟨#[45]⟩).data.toList.length ≤ 3 := by cases sm <;> simp
      have h9 := H9.out
      simp only [List.map_cons, List.map_nil, Lib.join_length, Lib.lens, List.sum_cons, List.sum_nil, BA_list, List.length_cons, List.length_nil, pointT, List.length_append]
      omega
    clear f1 f2 f3 f4 f5 f6 f7 f8 f9
    obtain ⟨c0, c1, c2, c3, c4, c5, c6, c7, c8, c9⟩ := BoxSt.ten S1
    have S2 : Hid (BoxSt w w.heap.size 43 #[.int .i64 hops, .int .i64 dn, .int .i64 dd, .int .i64 sn, .int .i64 sd, .int .i64 ds, .int .i64 ss, .int .i64 ty, .slice A n c, .bool sm] A l w1.drew) := S1.out.drew
    cases sm
    all_goals
      go_wp2_with fail
      go_region_held3 (fun w' => w'.cell? ⟨w.heap.size, 0, none⟩ = some (.int .i64 hops) ∧ w'.cell? ⟨w.heap.size, 1, none⟩ = some (.int .i64 dn) ∧ w'.cell? ⟨w.heap.size, 2, none⟩ = some (.int .i64 dd) ∧ w'.cell? ⟨w.heap.size, 3, none⟩ = some (.int .i64 sn) ∧ w'.cell? ⟨w.heap.size, 4, none⟩ = some (.int .i64 sd) ∧
          w'.cell? ⟨w.heap.size, 5, none⟩ = some (.int .i64 ds) ∧ w'.cell? ⟨w.heap.size, 6, none⟩ = some (.int .i64 ss) ∧ w'.cell? ⟨w.heap.size, 7, none⟩ = some (.int .i64 ty) ∧ w'.cell? ⟨w.heap.size, 8, none⟩ = some (.slice A n c))
        (first | (exact BoxSt.nine (by assumption)) | go_keep)
        (first
          | (go_at_call 48; refine (BoxSt.itoa (by assumption) _ (by assumption)).mono ?_; rintro e w' ⟨rfl, hst⟩)
          | (go_at_call 49; refine (BoxSt.point (by assumption) _ _ _ (by assumption) (by assumption) (by assumption)).mono ?_; rintro e w' ⟨rfl, hst⟩)
          | (go_at_call 50; refine (BoxSt.data (by assumption) _ _ (by assumption)).mono ?_; rintro e w' ⟨rfl, hst⟩)
          | (go_at_call 47; refine (BoxSt.line (by assumption) (dgL hops dn dd sn sd ds ss ty _ l) _ 7 rfl (by omega) hlen.out).mono ?_; rintro e w' ⟨rfl, hst⟩))
      go_wp2
      go_ret2
      exact ⟨by rw [dgR, HV.out]; rfl, hst.out.o⟩
end Go.Proofs.YtkbmljagcondhaaGreatDoor
