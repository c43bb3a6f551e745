/- Plain words: a text parted at a byte, and put together again. No program in it. -/
import Derived.Test.YtkbmljagcondhaaGreatDoorMem
import Derived.Lib.Split
import Derived.Lib.SplitLaws
import Derived.Lib.Join
open Go Go.RowKit
namespace Go.Proofs.YtkbmljagcondhaaGreatDoor
/-- the parts of a text at a byte -/
def sp (c : UInt8) : List UInt8 → List (List UInt8)
  | [] => [[]]
  | b :: l => if b = c then [] :: sp c l else match sp c l with
    | h :: t => (b :: h) :: t
    | [] => [[b]]
theorem sp_ne (c : UInt8) (l : List UInt8) : ∃ h t, sp c l = h :: t := by
  induction l with
  | nil => exact ⟨[], [], rfl⟩
  | cons b l ih =>
    obtain ⟨h, t, e⟩ := ih
    unfold sp
    split
    · exact ⟨_, _, rfl⟩
    · rw [e]; exact ⟨_, _, rfl⟩
theorem index_one (c b : UInt8) (l : List UInt8) : Lib.index (b :: l) [c] = if b = c then 0 else if Lib.index l [c] == -1 then -1 else Lib.index l [c] + 1 := by
  rw [Lib.index]
  by_cases h : b = c
  · subst h; simp
  · rw [if_neg h, if_neg (by simp [Ne.symm h])]
theorem index_ge (c : UInt8) (l : List UInt8) : -1 ≤ Lib.index l [c] := by
  induction l with
  | nil => simp [Lib.index]
  | cons b l ih =>
    rw [index_one]
    repeat (split <;> try omega)
theorem index_found (c : UInt8) (l : List UInt8) (h : 0 < l.count c) : 0 ≤ Lib.index l [c] := by
  induction l with
  | nil => simp at h
  | cons b l ih =>
    rw [index_one]
    by_cases hb : b = c
    · rw [if_pos hb]; omega
    · rw [if_neg hb]
      have := ih (by rw [List.count_cons_of_ne hb] at h; exact h)
      rw [if_neg (by simp; omega)]; omega
theorem splitK_sp (c : UInt8) (l : List UInt8) : Lib.splitK [c] 0 (l.count c) l = sp c l := by
  induction l with
  | nil => rfl
  | cons b l ih =>
    by_cases hb : b = c
    · subst hb
      rw [List.count_cons_self, Lib.splitK, index_one, if_pos rfl, if_neg (by decide)]
      simp only [sp, if_pos, List.length_cons, List.length_nil]
      simpa using ih
    · rw [List.count_cons_of_ne hb]
      simp only [sp, if_neg hb]
      rw [← ih]
      cases hc : l.count c with
      | zero => rfl
      | succ k =>
        have hi := index_found c l (by omega)
        have hm : ¬ (Lib.index l [c] == -1) = true := by simp; omega
        rw [Lib.splitK, Lib.splitK, index_one, if_neg hb, if_neg hm, if_neg (by simp; omega), if_neg hm]
        have e1 : (Lib.index l [c] + 1).toNat = (Lib.index l [c]).toNat + 1 := by omega
        rw [e1]
        simp
theorem splitP_sp (c : UInt8) (s : ByteArray) : Lib.splitB ⟨#[c]⟩ 0 (Lib.countB s ⟨#[c]⟩) s = (sp c s.data.toList).map BA := by
  have h1 := Lib.splitB_data ⟨#[c]⟩ 0 (Lib.countB s ⟨#[c]⟩) s
  have h2 : Lib.countB s ⟨#[c]⟩ = s.data.toList.count c := Lib.count_one c _
  rw [h2] at h1 ⊢
  have h3 := splitK_sp c s.data.toList
  have h4 : Lib.splitK ((⟨#[c]⟩ : ByteArray).data.toList) 0 (s.data.toList.count c) s.data.toList = sp c s.data.toList := h3
  rw [h4] at h1
  rw [← h1, List.map_map]
  exact (List.map_id _).symm.trans (List.map_congr_left fun x _ => (BA_data x).symm)
theorem sp_join (c : UInt8) (l : List UInt8) : Lib.join (sp c l) [c] = l := by
  induction l with
  | nil => rfl
  | cons b l ih =>
    obtain ⟨h, t, e⟩ := sp_ne c l
    by_cases hb : b = c
    · subst hb
      simp only [sp, if_pos]
      rw [e] at ih ⊢
      rw [Lib.join_cons] at ih ⊢
      simp only [Lib.joinTail, List.map_cons, List.flatten_cons, List.nil_append] at ih ⊢
      rw [List.append_assoc, ih]; rfl
    · simp only [sp, if_neg hb]
      rw [e] at ih ⊢
      rw [Lib.join_cons] at ih ⊢
      simp only [List.cons_append, ih]
theorem sp_none (c : UInt8) (w : List UInt8) (h : c ∉ w) : sp c w = [w] := by
  induction w with
  | nil => rfl
  | cons b w ih =>
    simp only [List.mem_cons, not_or] at h
    simp only [sp, if_neg (Ne.symm h.1), ih h.2]
theorem sp_app (c : UInt8) (w l : List UInt8) (h : c ∉ w) : sp c (w ++ c :: l) = w :: sp c l := by
  induction w with
  | nil => simp [sp]
  | cons b w ih =>
    simp only [List.mem_cons, not_or] at h
    simp only [List.cons_append, sp, if_neg (Ne.symm h.1), ih h.2]
theorem join_sp (c : UInt8) (ws : List (List UInt8)) (hn : ws ≠ []) (h : ∀ w ∈ ws, c ∉ w) : sp c (Lib.join ws [c]) = ws := by
  induction ws with
  | nil => exact absurd rfl hn
  | cons w r ih =>
    cases r with
    | nil => rw [Lib.join_one]; exact sp_none c w (h w (by simp))
    | cons x r =>
      have e : Lib.join (w :: x :: r) [c] = w ++ c :: Lib.join (x :: r) [c] := by
        rw [Lib.join_cons, Lib.join_cons]; simp [Lib.joinTail]
      rw [e, sp_app c w _ (h w (by simp)), ih (by simp) (fun y hy => h y (by simp [hy]))]
theorem sp_length (c : UInt8) (l : List UInt8) : (sp c l).length = l.count c + 1 := by
  induction l with
  | nil => rfl
  | cons b l ih =>
    obtain ⟨h, t, e⟩ := sp_ne c l
    by_cases hb : b = c
    · subst hb; simp [sp, ih]
    · rw [List.count_cons_of_ne hb]; simp only [sp, if_neg hb]; rw [e] at ih ⊢; simpa using ih
theorem sp_sizes (c : UInt8) (l : List UInt8) : ∀ w ∈ sp c l, w.length ≤ l.length := by
  induction l with
  | nil => simp [sp]
  | cons b l ih =>
    obtain ⟨h, t, e⟩ := sp_ne c l
    rw [e] at ih
    by_cases hb : b = c
    · subst hb; simp only [sp, if_pos]; rw [e]
      intro w hw
      rcases List.mem_cons.1 hw with rfl | hw
      · simp
      · have := ih w hw; simp; omega
    · simp only [sp, if_neg hb]; rw [e]
      intro w hw
      rcases List.mem_cons.1 hw with rfl | hw
      · have := ih h (by simp); simp; omega
      · have := ih w (by simp [hw]); simp; omega
end Go.Proofs.YtkbmljagcondhaaGreatDoor
