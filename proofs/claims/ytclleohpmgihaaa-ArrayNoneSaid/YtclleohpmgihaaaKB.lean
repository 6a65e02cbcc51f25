import Derived.Test.YtclleohpmgihaaaKTy
import Derived.Test.YtclleohpmgihaaaSepP
import Derived.Test.YtclleohpmgihaaaSepO
import Derived.Deep.RegionHeld3
import Derived.Outline
import Derived.IntWalk
namespace Go.Proofs.Ytclleohpmgihaaa
set_option linter.unusedVariables false
set_option linter.unusedSimpArgs false
open Go.RowKit Hp
attribute [local irreducible] Go.Calls
set_option maxHeartbeats 1000000
theorem bytesV_app (l k : List UInt8) : bytesV (l ++ k) = bytesV l ++ bytesV k := by simp [bytesV]
theorem sameBytes_any (v u : Value) (n m : Nat) (l k : List UInt8) (w : World) (hv : Rd w v 1 n (bytesV l)) (hu : Rd w u 1 m (bytesV k)) :
    Calls Try.prog 34 #[v, u] w fun e w' => e = .returned (.bool (l == k)) ∧ St w [] w' [] := by
  go_enter Try.func34, Try.ntmps34
  go_wp2_with (first | go_big_skip | go_big_guard | (refine wl_bytes_string rfl rfl rfl hv ?_) | (refine wl_bytes_string rfl rfl rfl hu ?_))
  go_ret
  exact ⟨rfl, St.refl w⟩
def markB (i : Nat) : UInt8 := UInt8.ofNat (160 + i % 90)
def markV (i : Nat) : Value := .int .u8 ((markB i).toNat : Int)
def lentT (n : Nat) : Nat → List Value
  | 0 => [.int .u8 0, .int .u8 0, .int .u8 0]
  | 1 => [markV n, .int .u8 0, .int .u8 0]
  | 2 => [markV n, markV (n + 1), .int .u8 0]
  | _ => [markV n, markV (n + 1), markV (n + 2)]
def lentB (bs : List UInt8) : List UInt8 := bs ++ [markB bs.length, markB (bs.length + 1), markB (bs.length + 2)]
theorem lentB_V (bs : List UInt8) : bytesV (lentB bs) = bytesV bs ++ lentT bs.length 3 := by simp [lentB, bytesV, lentT, markV]
theorem length_lentB (bs : List UInt8) : (lentB bs).length = bs.length + 3 := by simp [lentB]
theorem put_app (a t : List Value) (j : Nat) (vs : List Value) : putAt (a ++ t) (a.length + j) vs = a ++ putAt t j vs := by
  simp only [putAt, Nat.add_assoc, List.append_assoc]
  rw [List.take_append, List.drop_append, List.take_of_length_le (by omega), List.drop_of_length_le (by omega)]
  simp [Nat.add_sub_cancel_left]
theorem len_lentT (n j : Nat) : (lentT n j).length = 3 := by
  match j with
  | 0 => rfl
  | 1 => rfl
  | 2 => rfl
  | _ + 3 => rfl
theorem put_lent (bs : List UInt8) (k j : Nat) (hk : k = bs.length + j) (hj : j < 3) : putAt (bytesV bs ++ lentT bs.length j) k [markV k] = bytesV bs ++ lentT bs.length (j + 1) := by
  subst hk
  have := put_app (bytesV bs) (lentT bs.length j) j [markV (bs.length + j)]
  rw [length_bytesV] at this
  rw [this]
  congr 1
  match j, hj with
  | 0, _ => rfl
  | 1, _ => rfl
  | 2, _ => rfl
theorem put_at (a b c v : List Value) (h : b.length = v.length) {n : Nat} (hn : n = a.length) : putAt (a ++ (b ++ c)) n v = a ++ (v ++ c) := by
  subst hn
  have := put_app a (b ++ c) 0 v
  rw [Nat.add_zero] at this
  rw [this]
  simp [putAt, ← h]
theorem xor_u8 (x y : UInt8) : bits .xor .u8 (x.toNat : Int) (y.toNat : Int) = ((x ^^^ y).toNat : Int) := by
  have hx := x.toNat_lt
  have hy := y.toNat_lt
  have h : x.toNat ^^^ y.toNat < 2 ^ 8 := Nat.xor_lt_two_pow hx hy
  have e : (BitVec.ofInt 8 (x.toNat : Int) ^^^ BitVec.ofInt 8 (y.toNat : Int)).toNat = x.toNat ^^^ y.toNat := by
    rw [BitVec.toNat_xor, BitVec.ofInt_natCast, BitVec.ofInt_natCast, BitVec.toNat_ofNat, BitVec.toNat_ofNat, Nat.mod_eq_of_lt (by omega), Nat.mod_eq_of_lt (by omega)]
  show IntKind.u8.wrap ((BitVec.ofInt 8 (x.toNat : Int) ^^^ BitVec.ofInt 8 (y.toNat : Int)).toNat : Int) = _
  rw [e, UInt8.toNat_xor]
  show ((x.toNat ^^^ y.toNat : Nat) : Int) % 256 = _
  omega
def overB (l : List UInt8) : List UInt8 := l.map (· ^^^ 90)
theorem over_step (bs : List UInt8) {k : Nat} (hk : k < bs.length) (x : UInt8) (hx : x = bs.getD k 0) : putAt (bytesV (overB (bs.take k) ++ bs.drop k)) k [.int .u8 ((x ^^^ 90).toNat : Int)] = bytesV (overB (bs.take (k + 1)) ++ bs.drop (k + 1)) := by
  have e : bs.drop k = bs.getD k 0 :: bs.drop (k + 1) := by rw [List.drop_eq_getElem_cons hk]; simp [List.getD, hk]
  have e2 : bs.take (k + 1) = bs.take k ++ [bs.getD k 0] := by rw [List.take_succ_eq_append_getElem hk]; simp [List.getD, hk]
  have hl : (bytesV (overB (bs.take k))).length = k := by simp [overB]; omega
  rw [e2, bytesV_app]
  have := put_at (bytesV (overB (bs.take k))) (bytesV [bs.getD k 0]) (bytesV (bs.drop (k + 1))) [.int .u8 ((x ^^^ 90).toNat : Int)] rfl hl.symm
  rw [e]
  have h3 : bytesV (bs.getD k 0 :: bs.drop (k + 1)) = bytesV [bs.getD k 0] ++ bytesV (bs.drop (k + 1)) := by simp [bytesV]
  rw [h3, this]
  simp [overB, bytesV, hx]
theorem over_get (bs : List UInt8) {k : Nat} (hk : k < bs.length) : (bytesV (overB (bs.take k) ++ bs.drop k))[k]? = some (.int .u8 ((bs.getD k 0).toNat : Int)) := by
  have hl : (overB (bs.take k)).length = k := by simp [overB]; omega
  rw [bytesV, List.getElem?_map, List.getElem?_append_right (by omega), hl, Nat.sub_self, List.getElem?_drop]
  simp [List.getD, hk]
end Go.Proofs.Ytclleohpmgihaaa
