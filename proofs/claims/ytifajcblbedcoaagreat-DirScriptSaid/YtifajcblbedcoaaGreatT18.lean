import Derived.Test.YtifajcblbedcoaaGreatT5
import Derived.Test.YtifajcblbedcoaaGreatSepY
import Derived.Deep.RegionHeld3
import Derived.Outline
import Derived.IntWalk
namespace Go.Proofs.YtifajcblbedcoaaGreat
set_option linter.unusedVariables false
set_option linter.unusedSimpArgs false
open Go.RowKit Hp
attribute [local irreducible] Go.Calls
set_option maxHeartbeats 1000000
def markB (i : Nat) : UInt8 := UInt8.ofNat (160 + i % 90)
def markV (i : Nat) : Value := .int .u8 ((markB i).toNat : Int)
def lentT (n : Nat) : Nat → List Value
  | 0 => [.int .u8 0, .int .u8 0, .int .u8 0]
  | 1 => [markV n, .int .u8 0, .int .u8 0]
  | 2 => [markV n, markV (n + 1), .int .u8 0]
  | _ => [markV n, markV (n + 1), markV (n + 2)]
def lentB (bs : List UInt8) : List UInt8 := bs ++ [markB bs.length, markB (bs.length + 1), markB (bs.length + 2)]
theorem lentB_V (bs : List UInt8) : bytesV (lentB bs) = bytesV bs ++ lentT bs.length 3 := by simp [lentB, bytesV, lentT, markV]
theorem length_lentB (bs : List UInt8) : (lentB bs).length = bs.length + 3 := by simp [lentB]
theorem put_app (a t : List Value) (j : Nat) (vs : List Value) : putAt (a ++ t) (a.length + j) vs = a ++ putAt t j vs := by
  simp only [putAt, Nat.add_assoc, List.append_assoc]
  rw [List.take_append, List.drop_append, List.take_of_length_le (by omega), List.drop_of_length_le (by omega)]
  simp [Nat.add_sub_cancel_left]
theorem len_lentT (n j : Nat) : (lentT n j).length = 3 := by
  match j with
  | 0 => rfl
  | 1 => rfl
  | 2 => rfl
  | _ + 3 => rfl
theorem put_lent (bs : List UInt8) (k j : Nat) (hk : k = bs.length + j) (hj : j < 3) : putAt (bytesV bs ++ lentT bs.length j) k [markV k] = bytesV bs ++ lentT bs.length (j + 1) := by
  subst hk
  have := put_app (bytesV bs) (lentT bs.length j) j [markV (bs.length + j)]
  rw [length_bytesV] at this
  rw [this]
  congr 1
  match j, hj with
  | 0, _ => rfl
  | 1, _ => rfl
  | 2, _ => rfl
end Go.Proofs.YtifajcblbedcoaaGreat
