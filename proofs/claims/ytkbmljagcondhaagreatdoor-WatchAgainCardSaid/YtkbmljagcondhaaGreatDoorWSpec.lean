/- Plain words for the watch: hexadecimal texts. No program in it. -/
import Derived.Test.YtkbmljagcondhaaGreatDoorMem
open Go Go.RowKit
namespace Go.Proofs.YtkbmljagcondhaaGreatDoor
def hx (n : Nat) : UInt8 := UInt8.ofNat (if n < 10 then 48 + n else 87 + n)
def hexs (l : List UInt8) : List UInt8 := l.flatMap fun c => [hx (c.toNat / 16), hx (c.toNat % 16)]
def dataL (l : List UInt8) : List UInt8 := if l = [] then [45] else hexs l
theorem hexs_snoc (l : List UInt8) (c : UInt8) : hexs (l ++ [c]) = hexs l ++ [hx (c.toNat / 16), hx (c.toNat % 16)] := by simp [hexs]
theorem hexs_length (l : List UInt8) : (hexs l).length = 2 * l.length := by
  induction l with
  | nil => rfl
  | cons c l ih => simp [hexs] at ih ⊢; omega
theorem hexs_take_succ (l : List UInt8) (k : Nat) (h : k < l.length) : hexs (l.take (k + 1)) = hexs (l.take k) ++ [hx (l[k].toNat / 16), hx (l[k].toNat % 16)] := by
  rw [List.take_succ_eq_append_getElem h, hexs_snoc]
def digs : ByteArray := ⟨#[48, 49, 50, 51, 52, 53, 54, 55, 56, 57, 97, 98, 99, 100, 101, 102]⟩
theorem digs_fin : ∀ n : Fin 16, (digs[n.val]'(n.isLt)) = hx n.val := by decide
theorem digs_at (n : Nat) (h : n < 16) (i : Int) (hi : i = n) (h' : i.toNat < digs.size) : ((digs[i.toNat]'h').toNat : Int) = (hx n).toNat := by
  have e : i.toNat = n := by omega
  have h2 : n < digs.size := h
  have : digs[n]'h2 = hx n := digs_fin ⟨n, h⟩
  have h3 : digs[i.toNat]'h' = digs[n]'h2 := by simp only [e]
  rw [h3, this]
theorem and15 (c : UInt8) : bits BinOp.and IntKind.u8 (c.toNat : Int) 15 = (c.toNat : Int) % 16 := by
  have h : ∀ c : Fin 256, bits BinOp.and IntKind.u8 (c.val : Int) 15 = (c.val : Int) % 16 := by decide +kernel
  exact h ⟨c.toNat, c.toNat_lt⟩
end Go.Proofs.YtkbmljagcondhaaGreatDoor
