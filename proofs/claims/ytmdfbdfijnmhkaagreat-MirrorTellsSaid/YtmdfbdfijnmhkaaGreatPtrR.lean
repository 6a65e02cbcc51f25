import Derived.Test.YtmdfbdfijnmhkaaGreatPtrB
namespace Go.Proofs.YtmdfbdfijnmhkaaGreat
set_option linter.unusedVariables false
set_option linter.unusedSimpArgs false
open Hp
def rA (bs : List UInt8) (i : Nat) : Int × Int := (beN ((bs.drop (1 + 3 * i)).take 1), beN ((bs.drop (2 + 3 * i)).take 2))
def rAddrs (bs : List UInt8) : Nat → List (Int × Int)
  | 0 => []
  | k + 1 => rAddrs bs k ++ (if k < beN (bs.take 1) then [rA bs k] else [])
def rBirth (bs : List UInt8) : Nat := beN ((bs.drop 10).take 4)
def rLevel (bs : List UInt8) : Nat := beN ((bs.drop 14).take 1)
def rSum (bs : List UInt8) : List UInt8 := bs.drop 15
def rOK (bs : List UInt8) : Bool := decide (bs.length = 47) && (checkB (rAddrs bs 3) (rBirth bs) (rLevel bs) (rSum bs) && (bytesP (rAddrs bs 3) (rBirth bs) (rLevel bs) (rSum bs) == bs))
def rErr (bs : List UInt8) : Int := if bs.length = 47 then 2 else 4
def rAt (bs : List UInt8) : Int := if bs.length = 47 then 0 else if bs.length < 47 then bs.length else 47
def readEnd (bs : List UInt8) (w : World) (T E : TypeId) (e : Ending) (w' : World) : Prop :=
  if rOK bs then ∃ ao n c, e = .returned (.agg (ptrCells (.slice ao n c) (rBirth bs) (rLevel bs) (rSum bs)).toArray) ∧ St w [] w' [.row (.slice ao n c) E 2 n (addrsV (rAddrs bs 3))] ∧ (rAddrs bs 3).length = n
  else e = .panicked [{ v := .iface T (.agg #[.int .i64 (rErr bs), .int .i64 (rAt bs)]), recovered := false }] ∧ St w [] w' []
theorem St.nilRow {w0 w : World} {M : List Nat} {L : List HA} (T : TypeId) (sz : Nat) (h : St w0 M w L) : St w0 M w (.row (.slice none 0 0) T sz 0 [] :: L) := by
  refine ⟨h.os, h.tape, h.output, h.size, h.old, fun x hx => ?_, fun x hx k hk => ?_, ?_⟩
  · rcases List.mem_cons.1 hx with rfl | hx
    · exact ⟨by simp, .inl ⟨rfl, rfl⟩⟩
    · exact h.all x hx
  · rcases List.mem_cons.1 hx with rfl | hx
    · cases hk
    · exact h.own x hx k hk
  · refine List.Pairwise.cons (fun y _ k hk => ?_) h.apart
    cases hk
theorem St.rowSlice {w0 w : World} {M : List Nat} {L : List HA} {v : Value} {T : TypeId} {sz n : Nat} {xs : List Value} (h : St w0 M w L) (hm : HA.row v T sz n xs ∈ L) : ∃ ao c, v = .slice ao n c := by
  have := h.owns hm
  rcases this.2 with ⟨rfl, rfl⟩ | ⟨g, cap, cur, rfl, _⟩
  · exact ⟨none, 0, rfl⟩
  · exact ⟨_, _, rfl⟩
theorem St.rowSliceAt {w0 w : World} {M : List Nat} (L1 : List HA) {L2 : List HA} {v : Value} {T : TypeId} {sz n : Nat} {xs : List Value} (h : St w0 M w (L1 ++ .row v T sz n xs :: L2)) : ∃ ao c, v = .slice ao n c :=
  St.rowSlice h (T := T) (sz := sz) (xs := xs) (by simp)
theorem ptr_ones (ao : Option Addr) (n c : Nat) (b l : Int) (S : List UInt8) : (ptrCells (.slice ao n c) b l S).all (·.oneCell') = true := by
  show (true && (true && (true && (bytesV S).all (·.oneCell')))) = true
  rw [ones_bytesV]; rfl
def readOut (bs : List UInt8) (w : World) (E : TypeId) (e : Ending) (w' : World) : Prop :=
  if rOK bs then ∃ ao n c, e = .returned (.tuple #[.agg (ptrCells (.slice ao n c) (rBirth bs) (rLevel bs) (rSum bs)).toArray, .agg #[.int .i64 0, .int .i64 0]]) ∧ St w [] w' [.row (.slice ao n c) E 2 n (addrsV (rAddrs bs 3))] ∧ (rAddrs bs 3).length = n
  else e = .returned (.tuple #[.agg (ptrCells (.slice none 0 0) 0 0 nones).toArray, .agg #[.int .i64 (rErr bs), .int .i64 (rAt bs)]]) ∧ St w [] w' []
theorem readEnd.ok {bs : List UInt8} {w w' : World} {T E : TypeId} {e : Ending} (h : rOK bs = true) (hr : readEnd bs w T E e w') : ∃ ao n c, e = .returned (.agg (ptrCells (.slice ao n c) (rBirth bs) (rLevel bs) (rSum bs)).toArray) ∧ St w [] w' [.row (.slice ao n c) E 2 n (addrsV (rAddrs bs 3))] ∧ (rAddrs bs 3).length = n := by
  unfold readEnd at hr; rwa [if_pos h] at hr
theorem readOut.ok {bs : List UInt8} {w w' : World} {E : TypeId} {e : Ending} (h : rOK bs = true) (hr : readOut bs w E e w') : ∃ ao n c, e = .returned (.tuple #[.agg (ptrCells (.slice ao n c) (rBirth bs) (rLevel bs) (rSum bs)).toArray, .agg #[.int .i64 0, .int .i64 0]]) ∧ St w [] w' [.row (.slice ao n c) E 2 n (addrsV (rAddrs bs 3))] ∧ (rAddrs bs 3).length = n := by
  unfold readOut at hr; rwa [if_pos h] at hr
end Go.Proofs.YtmdfbdfijnmhkaaGreat
