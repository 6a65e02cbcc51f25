/- PROVED: the law OrderGets returns true at any input, and nothing that was there has turned. No condition. -/
import Derived.Test.YtalfdcfcaamnbaaJOrderGetsa
import Derived.Test.YtalfdcfcaamnbaaKB
import Derived.Test.YtalfdcfcaamnbaaJOrderGetsb
import Derived.Test.YtalfdcfcaamnbaaSepX
import Derived.Test.YtalfdcfcaamnbaaPost
import Derived.Lib.SmallJoins
import Derived.Deep.SlicePairs
namespace Go.Proofs.Ytalfdcfcaamnbaa
set_option linter.unusedVariables false
set_option linter.unusedSimpArgs false
open Go.RowKit Hp
attribute [local irreducible] Go.Calls Go.wpList
set_option maxRecDepth 100000
set_option maxHeartbeats 4000000
theorem isS_spec {v : Value} (h : isS v = true) : ∃ l : List UInt8, v = .string ⟨l.toArray⟩ ∧ l.length ≤ 1000 := by
  unfold isS at h
  split at h
  · rename_i s
    exact ⟨s.data.toList, rfl, by rw [Array.length_toList]; exact of_decide_eq_true h⟩
  · cases h
theorem overT_none (w : World) : Calls Try.prog 24 #[.slice none 0 0] w fun e w' => e = .returned (.tuple #[]) ∧ St w [] w' [] := by
  have hst := St.refl w
  go_enter Try.func24, Try.ntmps24
  go_wp2_with (first | go_big_skip | go_big_guard | fail)
  go_loopw [3] (fun i wr => i = .int .i64 0 ∧ St w [] wr []) (fun i _ => 0)
  case atStart => exact ⟨rfl, hst⟩
  case round =>
    clear hst
    obtain ⟨rfl, hst⟩ := hrel
    go_wp2_with (first | go_big_skip | go_big_guard | fail)
    go_end0
    exact ⟨rfl, hst⟩
theorem overT_blk (g n c : Nat) (cs : List Value) (w : World) (hg : w.heap[g]? = some (.cells cs.toArray 9 (0, 0))) (hc : cs.length = c) (hn : n ≤ c) (hb : c ≤ 9223372036854775807) (hp : cs.all isS = true) :
    Calls Try.prog 24 #[.slice (some ⟨g, 0, none⟩) n c] w fun e w' => e = .returned (.tuple #[]) ∧ ∃ cs', St w [g] w' [.blk g 9 cs'] := by
  have hst := St.one w g _ _ hg
  have HC := hid hc
  have HP := hid hp
  clear hc hp hg
  go_enter Try.func24, Try.ntmps24
  go_wp2_with (first | go_big_skip | go_big_guard | fail)
  go_loopw [3] (fun i wr => ∃ (k : Nat) (ds : List Value), k ≤ c ∧ i = .int .i64 k ∧ St w [g] wr [.blk g 9 ds] ∧ Hid (ds.length = c) ∧ Hid ((ds.drop k).all isS = true)) (fun i _ => c - (intOf i).toNat)
  case atStart => exact ⟨0, cs, by omega, rfl, hst, HC, by rw [List.drop_zero]; exact HP⟩
  case round =>
    clear hst HC HP
    obtain ⟨k, ds, hk, rfl, hst, HC, HP⟩ := hrel
    by_cases hlt : k < c
    · have hkl : k < ds.length := by rw [HC.out]; exact hlt
      obtain ⟨x, hx⟩ : ∃ x, ds[k]? = some x := ⟨_, List.getElem?_eq_getElem hkl⟩
      obtain ⟨l, rfl, hll⟩ := isS_spec (List.all_eq_true.1 HP.out x (by rw [List.drop_eq_getElem_cons hkl]; rw [List.getElem?_eq_getElem hkl] at hx; cases hx; exact List.mem_cons_self))
      have hl9 : ¬ 9223372036854775807 < l.length + 1 := by omega
      have HX := hid hx
      have HK := hid hkl
      have z1 : IntKind.i64.wrap ((k : Int) + 1) = (k : Int) + 1 := IntWalk.i64_in _ (by omega)
      clear hx hkl
      go_wp2_with (first | go_big_skip | go_big_guard | (refine wl_index rfl rfl rfl rfl hlt ?_) | (refine wl_loadE rfl rfl rfl ?_; refine ⟨_, Loads.at [] hst (by simpa using HX.out), ?_⟩) | (refine wl_store [] hst rfl rfl rfl (v := .string _) rfl rfl rfl (by simp [Value.cells]; exact HK.out) ?_; intro w5 hst4; clear hst))
      go_roundw
      case rel =>
        refine ⟨k + 1, _, by omega, by go_num, hst4, hid ?_, hid ?_⟩
        · rw [Nat.zero_add, Nat.mul_one]
          exact (putAt_len HK.out).trans HC.out
        · rw [Nat.zero_add, Nat.mul_one]
          have hp := HP.out
          show ((putAt ds k [_]).drop (k + 1)).all isS = true
          rw [putAt_one HK.out, List.drop_set_of_lt (by omega)]
          rw [List.drop_eq_getElem_cons HK.out, List.all_cons, Bool.and_eq_true] at hp
          exact hp.2
      case measure => simp [intOf]; omega
    · have e : k = c := by omega
      subst e
      go_wp2_with (first | go_big_skip | go_big_guard | fail)
      go_end0
      exact ⟨rfl, ds, hst⟩
theorem overT_rowP (v : Value) (n : Nat) (xs : List Value) (w : World) (hv : w.ownsRow 0 9 1 v n xs) (hp : AllP isS w v 9) :
    Calls Try.prog 24 #[v] w fun e w' => e = .returned (.tuple #[]) ∧ St w v.ownBlock.toList w' [] := by
  have hst := St.ofRowP (p := isS) w hv hp
  rcases St.openP (L1 := []) hst with ⟨rfl, rfl, rfl, _⟩ | ⟨g, cap, cs, rfl, h1, h2, h3, _, h5, h6⟩
  · exact overT_none w
  · rw [Nat.mul_one] at h3
    refine (overT_blk g n cap cs w (h6.all _ (.head _)) h3 h1 h2 h5).mono ?_
    rintro e w' ⟨he, cs', hh⟩
    exact ⟨he, hh.nil⟩
end Go.Proofs.Ytalfdcfcaamnbaa
namespace Go.Proofs.Ytalfdcfcaamnbaa
set_option linter.unusedVariables false
set_option linter.unusedSimpArgs false
open Go.RowKit Hp
attribute [local irreducible] Go.Calls Go.wpList
set_option maxRecDepth 100000
set_option maxHeartbeats 4000000
theorem gets_law (ao : Option Addr) (n c : Nat) (bs : List UInt8) (w : World) (hA : Rd w (.slice ao n c) 1 n (bytesV bs)) (hn : bs.length = n) :
    Calls Try.prog 4 #[.slice ao n c] w fun e w' => e = .returned (.bool true) ∧ St w [] w' [] := by
  have hst0 := St.refl w
  by_cases hb : 20000 < n
  · have d1 : decide ((20000 : Int) < (n : Int)) = true := decide_eq_true (by omega)
    go_enter Try.func4, Try.ntmps4
    go_wp2_with (first | go_big_skip | go_big_guard | (go_at_call 10; refine (awake_any _).mono ?_; rintro _ w2 ⟨rfl, h4⟩))
    go_ret
    exact ⟨rfl, h4⟩
  · have d1 : decide ((20000 : Int) < (n : Int)) = false := decide_eq_false (by omega)
    have hb1 : n ≤ 100000 := by omega
    have HN := hid hn
    have HA := hid hA
    have hx : ((bytesV (lentB bs)).drop 0).take (bytesV bs).length = bytesV bs := by
      rw [List.drop_zero, lentB_V, List.take_left]
    have HX := hid hx
    obtain ⟨R, hR⟩ : ∃ R, R = getO bs := ⟨_, rfl⟩
    have HR := hid hR
    clear hn hA hx hR hb
    go_enter Try.func4, Try.ntmps4
    go_wp2_with (first | go_big_skip | go_big_guard | (go_at_call 21; refine (lent_any ao n c bs _ HA.out HN.out hb1).mono ?_; rintro _ w2 ⟨g, rfl, hst1⟩) | (go_at_call 22; refine (oget_any (some ⟨g, 0, none⟩) n (n + 3) bs _ (Rd.blk hst1 (.head _) (by omega) (by unfold maxLen; omega) (by rw [length_bytesV, HN.out]; omega) HX.out) HN.out hb1).mono ?_; rw [← HR.out]; rintro _ w3 ⟨lv, bv, rfl, h4⟩; have hst2 := St.call hst1 h4; clear h4 hst1; obtain ⟨al, cl, rfl⟩ := St.rowPSliceF [] hst2; obtain ⟨ab, cb, rfl⟩ := St.rowPSliceF [_] hst2) | (refine wl_alloc (T := 25) hst2 rfl rfl ?_; intro c4 _ hst3; clear hst2) | (refine wl_alloc (T := 42) hst3 rfl rfl ?_; intro c5 _ hst4; clear hst3) | (refine wl_storeA (T := 25) (vs := R.1.cells (.slice al R.1.l.length cl) (.slice ab R.1.b.length cb)) [_] hst4 rfl rfl rfl rfl rfl rfl rfl ?_; intro w5 hst5; clear hst4) | (refine wl_storeA (T := 42) [] hst5 rfl rfl rfl rfl rfl rfl rfl ?_; intro w6 hst6; clear hst5) | (go_at_call 23; refine (qget_any ao n c bs _ (Rd.old hst6 HA.out) HN.out hb1).mono ?_; rw [← HR.out]; rintro _ w7 ⟨lv, bv, rfl, h4⟩; have hst7 := St.call hst6 h4; clear h4 hst6; obtain ⟨bl, dl, rfl⟩ := St.rowPSliceF [] hst7; obtain ⟨bb, db, rfl⟩ := St.rowPSliceF [_] hst7) | (refine wl_alloc (T := 25) hst7 rfl rfl ?_; intro c6 _ hst8; clear hst7) | (refine wl_alloc (T := 42) hst8 rfl rfl ?_; intro c7 _ hst9; clear hst8) | (refine wl_storeA (T := 25) (vs := R.1.cells (.slice bl R.1.l.length dl) (.slice bb R.1.b.length db)) [_] hst9 rfl rfl rfl rfl rfl rfl rfl ?_; intro w10 hst10; clear hst9) | (refine wl_storeA (T := 42) [] hst10 rfl rfl rfl rfl rfl rfl rfl ?_; intro w11 hst11; clear hst10) | (refine wl_loadE rfl rfl rfl ?_; first | refine ⟨_, Loads.whole (T := 25) [_, _, _, _, _] hst11 rfl, ?_⟩ | refine ⟨_, Loads.whole (T := 25) [_] hst11 rfl, ?_⟩ | refine ⟨_, Loads.whole (T := 42) [_, _, _, _] hst12 rfl, ?_⟩ | refine ⟨_, Loads.whole (T := 42) [] hst12 rfl, ?_⟩ | refine ⟨_, Loads.at [_, _, _, _, _] hst12 rfl, ?_⟩ | refine ⟨_, Loads.at [_, _, _, _, _] hst13 rfl, ?_⟩) | (go_at_call 20; refine (sameOrder_eq R.1 al bl ab bb cl dl cb db _ (Rd.rowP hst11 (.tail _ (.tail _ (.tail _ (.tail _ (.tail _ (.tail _ (.head _)))))))) (Rd.rowP hst11 (.tail _ (.tail _ (.head _)))) (Rd.rowP hst11 (.tail _ (.tail _ (.tail _ (.tail _ (.tail _ (.tail _ (.tail _ (.head _))))))))) (Rd.rowP hst11 (.tail _ (.tail _ (.tail _ (.head _)))))).mono ?_; rintro _ w12 ⟨rfl, h4⟩; have hst12 := St.call0 hst11 h4; clear h4 hst11) | (go_at_call 19; refine (over_rowP _ _ _ _ (hst12.ownsP (.tail _ (.tail _ (.tail _ (.tail _ (.tail _ (.tail _ (.tail _ (.head _))))))))).1 (hst12.ownsP (.tail _ (.tail _ (.tail _ (.tail _ (.tail _ (.tail _ (.tail _ (.head _))))))))).2).mono ?_; rintro _ w13 ⟨rfl, h4⟩; have hst13 := St.callRowP (St.front [_, _, _, _, _, _, _] hst12) h4; clear h4 hst12) | (go_at_call 24; refine (overT_rowP _ _ _ _ (hst13.ownsP (.tail _ (.tail _ (.tail _ (.tail _ (.tail _ (.tail _ (.head _)))))))).1 (hst13.ownsP (.tail _ (.tail _ (.tail _ (.tail _ (.tail _ (.tail _ (.head _)))))))).2).mono ?_; rintro _ w14 ⟨rfl, h4⟩; have hst14 := St.callRowP (St.front [_, _, _, _, _, _] hst13) h4; clear h4 hst13) | (go_at_call 25; refine (kept_any ao g n c bs _ _ w hst14 (.tail _ (.tail _ (.tail _ (.tail _ (.tail _ (.tail _ (.head _))))))) (Rd.old hst14 HA.out) HN.out hb1).mono ?_; rintro _ w15 ⟨rfl, h4⟩; have hst15 := St.call0 hst14 h4; clear h4 hst14) | (go_at_call 10; refine (awake_any _).mono ?_; rintro _ w16 ⟨rfl, h4⟩; have hst16 := St.call0 hst15 h4; clear h4 hst15))
    go_ret
    exact ⟨rfl, hst16.nil⟩
end Go.Proofs.Ytalfdcfcaamnbaa
namespace Go.Proofs.Ytalfdcfcaamnbaa
set_option linter.unusedVariables false
set_option linter.unusedSimpArgs false
open Hp
structure Ptr where
  addrs : List (Int × Int)
  birth : Int
  level : Int
  sum : List UInt8
deriving DecidableEq
def nones : List UInt8 := List.replicate 32 0
def ptrCells (sv : Value) (b l : Int) (S : List UInt8) : List Value := sv :: .int .i64 b :: .int .i64 l :: bytesV S
def nothingB (b l : Int) (S : List UInt8) : Bool := decide (b = 0) && (decide (l = 0) && (S == nones))
/-- 32 bytes: hidden from the walk's rewriting. -/
def L32 (S : List UInt8) : Prop := S.length = 32
theorem L32.out {S : List UInt8} (h : L32 S) : S.length = 32 := h
theorem L32.v {S : List UInt8} (h : L32 S) : (bytesV S).length = 32 := by simp [h.out]
theorem L32.nones : L32 nones := rfl
theorem L32.two {S R : List UInt8} (h : L32 S) (h' : L32 R) : S.length = 32 ∧ R.length = 32 := ⟨h, h'⟩
theorem ptr_sum (sv : Value) (b l : Int) (S : List UInt8) : ((ptrCells sv b l S).drop 3).take (bytesV S).length = bytesV S := by
  show (bytesV S).take (bytesV S).length = bytesV S
  exact List.take_length
theorem ptr_all (sv : Value) (b l : Int) (S : List UInt8) : ((ptrCells sv b l S).drop 0).take (ptrCells sv b l S).length = ptrCells sv b l S := by
  simp
theorem ptr_len {S : List UInt8} (h : L32 S) (sv : Value) (b l : Int) : (ptrCells sv b l S).length = 35 := by simp [ptrCells, h.out]
theorem ret_bool {a b : Bool} (h : a = b) : Ending.returned (.bool a) = .returned (.bool b) := by rw [h]
theorem ret_int {k : IntKind} {a b : Int} (h : a = b) : Ending.returned (.int k a) = .returned (.int k b) := by rw [h]
def addrsV : List (Int × Int) → List Value
  | [] => []
  | x :: l => .int .i64 x.1 :: .int .i64 x.2 :: addrsV l
theorem length_addrsV (l : List (Int × Int)) : (addrsV l).length = l.length * 2 := by
  induction l with
  | nil => rfl
  | cons x l ih => simp [addrsV, ih]; omega
theorem addrsV_get (l : List (Int × Int)) (k : Nat) (hk : k < l.length) : (addrsV l)[k * 2]? = some (.int .i64 (l.getD k (0, 0)).1) ∧ (addrsV l)[k * 2 + 1]? = some (.int .i64 (l.getD k (0, 0)).2) := by
  induction l generalizing k with
  | nil => simp at hk
  | cons x l ih =>
    cases k with
    | zero => simp [addrsV]
    | succ k =>
      have := ih k (by simpa using hk)
      simp only [addrsV, show (k + 1) * 2 = k * 2 + 1 + 1 by omega, show k * 2 + 1 + 1 + 1 = (k * 2 + 1) + 1 + 1 by omega, List.getElem?_cons_succ, List.getD_cons_succ]
      exact this
section
open Go.RowKit
variable {w : World} {b off : Nat} {l : List (Int × Int)}
theorem addr_dev (h : w.rangeAt b off (addrsV l)) {k : Nat} (hk : k < l.length) : w.cell? ⟨b, off + k * 2, none⟩ = some (.int .i64 (l.getD k (0, 0)).1) := h _ _ (addrsV_get l k hk).1
theorem addr_at (h : w.rangeAt b off (addrsV l)) {k : Nat} (hk : k < l.length) : w.cell? ⟨b, off + k * 2 + 1, none⟩ = some (.int .i64 (l.getD k (0, 0)).2) := h _ _ (addrsV_get l k hk).2
theorem addr_both (h : w.rangeAt b off (addrsV l)) {k : Nat} (hk : k < l.length) : w.rangeAt b (off + k * 2) [.int .i64 (l.getD k (0, 0)).1, .int .i64 (l.getD k (0, 0)).2] := by
  intro j v hv
  match j, hv with
  | 0, hv => simp at hv; subst hv; exact addr_dev h hk
  | 1, hv => simp at hv; subst hv; exact addr_at h hk
end
def holeB (n : Nat) (b l : Int) (S : List UInt8) : Bool := decide (n = 0) && nothingB b l S
def likeB (n m : Nat) (b l b' l' : Int) (S S' : List UInt8) : Bool := decide (b = b') && (decide (l = l') && ((S == S') && (decide (0 < n) == decide (0 < m))))
def seenB (l : List (Int × Int)) (d : Nat) : Bool := decide ((d : Int) ∈ l.map (·.1))
def seenV (l : List (Int × Int)) : List Value := (List.range 8).map fun d => .bool (seenB l d)
def validA (a : Int × Int) : Bool := decide (0 ≤ a.1 ∧ a.1 < 8 ∧ 5 ≤ a.2 ∧ a.2 < 4096)
/-- Each address may be, and no two are of one device. -/
def okA : List (Int × Int) → Bool
  | [] => true
  | x :: l => okA l && validA x && !(l.any fun y => y.1 == x.1)
def mayB (l : List (Int × Int)) : Bool := okA l.reverse && decide (1 ≤ l.length ∧ l.length ≤ 3)
def checkB (l : List (Int × Int)) (b v : Int) (S : List UInt8) : Bool := holeB l.length b v S || (mayB l && decide (1 ≤ b ∧ b ≤ 2147483648 ∧ 0 ≤ v ∧ v ≤ 3))
def checkE (l : List (Int × Int)) (b v : Int) (S : List UInt8) : Int := if checkB l b v S then 0 else 2
/-- Of the first k addresses. -/
def okP (l : List (Int × Int)) (k : Nat) : Bool := okA (l.take k).reverse
theorem take_rev_succ (l : List (Int × Int)) (k : Nat) (hk : k < l.length) : (l.take (k + 1)).reverse = l.getD k (0, 0) :: (l.take k).reverse := by
  rw [List.take_succ_eq_append_getElem hk, List.reverse_append]
  simp [List.getD, hk]
theorem okP_succ (l : List (Int × Int)) (k : Nat) (hk : k < l.length) : okP l (k + 1) = (okP l k && validA (l.getD k (0, 0)) && !((l.take k).any fun y => y.1 == (l.getD k (0, 0)).1)) := by
  unfold okP
  rw [take_rev_succ l k hk, okA, List.any_reverse]
theorem okA_append : ∀ (a b : List (Int × Int)), okA (a ++ b) = true → okA b = true
  | [], _, h => h
  | x :: a, b, h => okA_append a b (by simp only [List.cons_append, okA, Bool.and_eq_true] at h; exact h.1.1)
theorem okP_false (l : List (Int × Int)) (k : Nat) (h : okP l k = false) : okA l.reverse = false := by
  rw [← Bool.not_eq_true]
  intro ht
  rw [← List.take_append_drop k l, List.reverse_append] at ht
  have := okA_append _ _ ht
  unfold okP at h
  simp [h] at this
theorem okP_all (l : List (Int × Int)) (k : Nat) (hk : l.length ≤ k) : okP l k = okA l.reverse := by unfold okP; rw [List.take_of_length_le hk]
theorem okP_zero (l : List (Int × Int)) : okP l 0 = true := by simp [okP, okA]
theorem seenV_get (l : List (Int × Int)) {d : Nat} (hd : d < 8) : (seenV l)[d]? = some (.bool (seenB l d)) := by
  unfold seenV
  simp [hd]
theorem length_seenV (l : List (Int × Int)) : (seenV l).length = 8 := by simp [seenV]
theorem seenB_any (l : List (Int × Int)) (x : Int) (hx : 0 ≤ x) : seenB l x.toNat = l.any fun y => y.1 == x := by
  unfold seenB
  rw [Bool.eq_iff_iff]
  simp only [decide_eq_true_eq, List.mem_map, List.any_eq_true, beq_iff_eq]
  constructor
  · rintro ⟨a, ha, h⟩; exact ⟨a, ha, by omega⟩
  · rintro ⟨a, ha, h⟩; exact ⟨a, ha, by omega⟩
theorem seenV_put (l : List (Int × Int)) (x : Int × Int) (h0 : 0 ≤ x.1) (h8 : x.1 < 8) : putAt (seenV l) x.1.toNat [.bool true] = seenV (l ++ [x]) := by
  apply List.ext_getElem?
  intro j
  unfold putAt
  have hl := length_seenV l
  by_cases hj : j < 8
  · rw [seenV_get _ hj]
    rcases Nat.lt_trichotomy j x.1.toNat with h | h | h
    · rw [List.getElem?_append_left (by simp; omega), List.getElem?_take, if_pos h, seenV_get _ hj]
      have : seenB (l ++ [x]) j = seenB l j := by
        unfold seenB
        simp only [List.map_append, List.map_cons, List.map_nil, List.mem_append, List.mem_singleton]
        congr 1
        simp only [eq_iff_iff, or_iff_left_iff_imp]
        intro e; omega
      rw [this]
    · rw [List.getElem?_append_right (by simp; omega)]
      have h1 : j - (List.take x.1.toNat (seenV l)).length = 0 := by simp; omega
      rw [h1]
      have : seenB (l ++ [x]) j = true := by
        unfold seenB
        simp only [decide_eq_true_eq, List.map_append, List.map_cons, List.map_nil, List.mem_append, List.mem_singleton]
        right; omega
      simp [this]
    · rw [List.getElem?_append_right (by simp; omega)]
      have h1 : j - (List.take x.1.toNat (seenV l)).length = (j - x.1.toNat - 1) + 1 := by simp; omega
      rw [h1]
      simp only [List.cons_append, List.nil_append, List.getElem?_cons_succ, List.getElem?_drop, List.length_singleton]
      rw [show x.1.toNat + 1 + (j - x.1.toNat - 1) = j by omega, seenV_get _ hj]
      have : seenB (l ++ [x]) j = seenB l j := by
        unfold seenB
        simp only [List.map_append, List.map_cons, List.map_nil, List.mem_append, List.mem_singleton]
        congr 1
        simp only [eq_iff_iff, or_iff_left_iff_imp]
        intro e; omega
      rw [this]
  · rw [List.getElem?_eq_none (by simp [hl]; omega), List.getElem?_eq_none (by rw [length_seenV]; omega)]
theorem take_snoc' (l : List (Int × Int)) (k : Nat) (hk : k < l.length) : l.take k ++ [l.getD k (0, 0)] = l.take (k + 1) := by
  rw [List.take_succ_eq_append_getElem hk]
  simp [List.getD, hk]
section
variable {l : List (Int × Int)} {k : Nat} {x : Int × Int}
theorem may_stop1 (hk : k < l.length) (hx : x = l.getD k (0, 0)) (h : ¬ (0 ≤ x.1 ∧ x.1 < 8 ∧ 5 ≤ x.2 ∧ x.2 < 4096)) : mayB l = false := by
  have h1 := okP_succ l k hk
  rw [← hx] at h1
  have : validA x = false := by simpa [validA] using h
  simp only [this, Bool.and_false, Bool.false_and] at h1
  simp [mayB, okP_false l _ h1]
theorem may_stop2 (hk : k < l.length) (hx : x = l.getD k (0, 0)) (h0 : 0 ≤ x.1) (h : seenB (l.take k) x.1.toNat = true) : mayB l = false := by
  have h1 := okP_succ l k hk
  rw [← hx] at h1
  rw [seenB_any _ _ h0] at h
  simp only [h, Bool.not_true, Bool.and_false] at h1
  simp [mayB, okP_false l _ h1]
theorem may_go (hk : k < l.length) (hx : x = l.getD k (0, 0)) (hok : okP l k = true) (h0 : 0 ≤ x.1) (h8 : x.1 < 8) (h5 : 5 ≤ x.2) (h4 : x.2 < 4096) (h : seenB (l.take k) x.1.toNat = false) :
    okP l (k + 1) = true ∧ putAt (seenV (l.take k)) x.1.toNat [.bool true] = seenV (l.take (k + 1)) := by
  rw [seenB_any _ _ h0] at h
  refine ⟨?_, ?_⟩
  · rw [okP_succ l k hk, ← hx, hok, h]
    simp [validA, h0, h8, h5, h4]
  · rw [seenV_put _ _ h0 h8, hx, take_snoc' l k hk]
theorem may_end (hk : l.length ≤ k) (hok : okP l k = true) : mayB l = decide (1 ≤ l.length ∧ l.length ≤ 3) := by
  rw [okP_all l k hk] at hok
  simp [mayB, hok]
end
section
variable {l : List (Int × Int)} {k : Nat} {x : Int × Int}
theorem addrs_stop (hk : k < l.length) (hx : x = l.getD k (0, 0)) {j : Nat} (hj : j < k) (h : (l.getD j (0, 0)).1 = x.1) : mayB l = false := by
  have h1 := okP_succ l k hk
  rw [← hx] at h1
  have : ((l.take k).any fun y => y.1 == x.1) = true := by
    rw [List.any_eq_true]
    refine ⟨l.getD j (0, 0), ?_, by simpa using h⟩
    rw [List.mem_iff_getElem?]
    refine ⟨j, ?_⟩
    rw [List.getElem?_take, if_pos hj]
    simp [List.getD, show j < l.length by omega]
  simp only [this, Bool.not_true, Bool.and_false] at h1
  simp [mayB, okP_false l _ h1]
theorem addrs_go (hk : k < l.length) (hx : x = l.getD k (0, 0)) (hok : okP l k = true) (h0 : 0 ≤ x.1) (h8 : x.1 < 8) (h5 : 5 ≤ x.2) (h4 : x.2 < 4096) (h : ∀ t, t < k → (l.getD t (0, 0)).1 ≠ x.1) : okP l (k + 1) = true := by
  rw [okP_succ l k hk, ← hx, hok]
  have : ((l.take k).any fun y => y.1 == x.1) = false := by
    rw [List.any_eq_false]
    intro y hy
    obtain ⟨t, ht⟩ := List.mem_iff_getElem?.1 hy
    rw [List.getElem?_take] at ht
    split at ht
    · rename_i htk
      have := h t htk
      simp only [List.getD, ht, Option.getD_some] at this
      simpa using this
    · simp at ht
  simp [this, validA, h0, h8, h5, h4]
end
theorem addrs_ext {l k : List (Int × Int)} (h : l.length = k.length) (hq : ∀ q, q < l.length → l.getD q (0, 0) = k.getD q (0, 0)) : l = k := by
  apply List.ext_getElem h
  intro i h1 h2
  have := hq i h1
  simpa [List.getD, h1, h2] using this
theorem addrs_len_ne {l k : List (Int × Int)} (h : l.length ≠ k.length) : (l == k) = false := by
  rw [beq_eq_false_iff_ne]; intro e; exact h (by rw [e])
theorem addrs_ne {l k : List (Int × Int)} {q : Nat} (h : l.getD q (0, 0) ≠ k.getD q (0, 0)) : (l == k) = false := by
  rw [beq_eq_false_iff_ne]; intro e; exact h (by rw [e])
section
open Go.RowKit
theorem byte_cell {w : World} {b off : Nat} {l : List UInt8} (h : w.rangeAt b off (bytesV l)) {k : Nat} (hk : k < l.length) : w.cell? ⟨b, off + k, none⟩ = some (.int .u8 (l.getD k 0).toNat) := by
  refine h _ _ ?_
  simp [bytesV, List.getD, hk]
theorem bytes_ext {l k : List UInt8} (h : l.length = k.length) (hq : ∀ q, q < l.length → l.getD q 0 = k.getD q 0) : l = k := by
  apply List.ext_getElem h
  intro i h1 h2
  have := hq i h1
  simpa [List.getD, h1, h2] using this
theorem bytes_len_ne {l k : List UInt8} (h : l.length ≠ k.length) : (l == k) = false := by
  rw [beq_eq_false_iff_ne]; intro e; exact h (by rw [e])
theorem bytes_ne {l k : List UInt8} {q : Nat} (h : l.getD q 0 ≠ k.getD q 0) : (l == k) = false := by
  rw [beq_eq_false_iff_ne]; intro e; exact h (by rw [e])
theorem pair_ext {x y : Int × Int} (h : (!x.1 == y.1) = false ∧ (!x.2 == y.2) = false) : x = y := by
  simp only [Bool.not_eq_false', beq_iff_eq] at h
  exact Prod.ext h.1 h.2
theorem pair_ne {x y : Int × Int} (h : (!x.1 == y.1) = true ∨ (!x.2 == y.2) = true) : x ≠ y := by
  rintro rfl
  simp at h
end
def sameB (l r : List (Int × Int)) (b v b' v' : Int) (S S' : List UInt8) : Bool := (l == r) && (decide (b = b') && (decide (v = v') && (S == S')))
theorem sameB_eq (l r : List (Int × Int)) (b v b' v' : Int) (S S' : List UInt8) : (likeB l.length r.length b v b' v' S S' && (l == r)) = sameB l r b v b' v' S S' := by
  unfold likeB sameB
  by_cases h : l = r
  · subst h
    cases (S == S') <;> simp
  · have : (l == r) = false := by rw [beq_eq_false_iff_ne]; exact h
    simp [this]
end Go.Proofs.Ytalfdcfcaamnbaa
namespace Go.Proofs.Ytalfdcfcaamnbaa
set_option linter.unusedVariables false
set_option linter.unusedSimpArgs false
open Go.ChangeShapes Go.WideShapes Go.ChangeAt Go.RowKit Hp
theorem bytes_of_cells : ∀ (L : List Value), (∀ v ∈ L, ∃ k : Int, v = .int .u8 k ∧ 0 ≤ k ∧ k < 256) → ∃ S : List UInt8, L = bytesV S ∧ S.length = L.length
  | [], _ => ⟨[], rfl, rfl⟩
  | v :: L, h => by
    obtain ⟨S, hS, hl⟩ := bytes_of_cells L fun x hx => h x (List.mem_cons_of_mem _ hx)
    obtain ⟨k, rfl, h0, h1⟩ := h v (List.mem_cons_self)
    refine ⟨UInt8.ofNat k.toNat :: S, ?_, by simp [hl]⟩
    have : ((UInt8.ofNat k.toNat).toNat : Int) = k := by rw [UInt8.toNat_ofNat']; omega
    simp only [bytesV, List.map_cons] at hS ⊢
    rw [hS, this]
theorem addrsV_at : ∀ (l : List (Int × Int)) (k : Nat) (v : Value), (addrsV l)[k]? = some v → ∃ i x, l[i]? = some x ∧ ((k = i * 2 ∧ v = .int .i64 x.1) ∨ (k = i * 2 + 1 ∧ v = .int .i64 x.2))
  | [], k, v, h => by simp [addrsV] at h
  | x :: l, 0, v, h => by simp [addrsV] at h; exact ⟨0, x, rfl, .inl ⟨rfl, h.symm⟩⟩
  | x :: l, 1, v, h => by simp [addrsV] at h; exact ⟨0, x, rfl, .inr ⟨rfl, h.symm⟩⟩
  | x :: l, k + 2, v, h => by
    obtain ⟨i, y, hi, hk⟩ := addrsV_at l k v (by simpa [addrsV] using h)
    rcases hk with ⟨rfl, rfl⟩ | ⟨rfl, rfl⟩
    · exact ⟨i + 1, y, hi, .inl ⟨by omega, rfl⟩⟩
    · exact ⟨i + 1, y, hi, .inr ⟨by omega, rfl⟩⟩
theorem rd_pairs {w : World} {b off len cap : Nat} (f : Nat → Int × Int) (hl : len ≤ cap) (hc : cap ≤ maxLen) (h : ∀ i, i < len → w.cell? ⟨b, off + i * 2, none⟩ = some (.int .i64 (f i).1) ∧ w.cell? ⟨b, off + i * 2 + 1, none⟩ = some (.int .i64 (f i).2)) :
    Rd w (.slice (some ⟨b, off, none⟩) len cap) 2 len (addrsV ((List.range len).map f)) := by
  refine Rd.mk hl hc (by simp [length_addrsV]) ?_
  intro k v hk
  obtain ⟨i, x, hi, hx⟩ := addrsV_at _ k v hk
  have hi' : i < len := by
    have := (List.getElem?_eq_some_iff.1 hi).1
    simpa using this
  have hxi : x = f i := by
    rw [List.getElem?_map, List.getElem?_range hi'] at hi
    simpa using hi.symm
  subst hxi
  rcases hx with ⟨rfl, rfl⟩ | ⟨rfl, rfl⟩
  · exact (h i hi').1
  · exact (h i hi').2
end Go.Proofs.Ytalfdcfcaamnbaa
namespace Go.Proofs.Ytalfdcfcaamnbaa
set_option linter.unusedVariables false
set_option linter.unusedSimpArgs false
open Go.ChangeShapes Go.WideShapes Go.ChangeAt Go.RowKit Go.Deep Go.Lib Go.Joins Hp
set_option maxRecDepth 100000
theorem slice_spotV {P : Program} {W : World} {base n c : Nat} {t e : TypeId} {a : Addr} (ht : P.underlying t = some (.slice e)) (h : Value.okWide P W .any base t (.slice (some a) n c)) : a.spot = none := by
  unfold Value.okWide at h
  rw [ht] at h
  simp only [Cell.okWide, ht] at h
  simp [Cell.ok, ht, World.has] at h
  exact h.2.2.2.1
theorem rd_ints {w : World} {b off len cap : Nat} (f : Nat → UInt8) (hl : len ≤ cap) (hc : cap ≤ maxLen) (h : ∀ i, i < len → w.cell? ⟨b, off + i, none⟩ = some (.int .u8 (f i).toNat)) :
    Rd w (.slice (some ⟨b, off, none⟩) len cap) 1 len (bytesV ((List.range len).map f)) := by
  refine Rd.mk hl hc (by simp) ?_
  intro k v hk
  rw [bytesV, List.getElem?_map, List.getElem?_map] at hk
  by_cases hi : k < len
  · rw [List.getElem?_range hi] at hk
    simp at hk
    subst hk
    exact h k hi
  · rw [List.getElem?_eq_none (by simpa using hi)] at hk
    simp at hk
theorem open_bytes {H : Type} {enc : TypeId × Value → H} {W : World} {base fuel : Nat} {v : Value} {x : DataW H × List MemPlace} (hv : Value.okWide Try.prog W .any base 23 v)
    (h : DataW.trod enc Try.prog W 0 (fun _ => true) true fuel 23 v.cells.toList = some x) : ∃ ao n c bs, v = .slice ao n c ∧ Rd W (.slice ao n c) 1 n (bytesV bs) ∧ bs.length = n := by
  obtain ⟨a, len, cap, rfl⟩ := okWide_slice Try.underlying23 hv
  rcases open_ints Try.underlying23 Try.underlying5 (by kernel_rfl) h with ⟨hc, _⟩ | ⟨a', len', cap', zs, hc, _, hl, hm, hz, _, hcell, hw⟩
  · simp [Value.cells] at hc
    obtain ⟨rfl, rfl, rfl⟩ := hc
    exact ⟨none, 0, 0, [], rfl, Rd.nil _ _, rfl⟩
  · simp [Value.cells] at hc
    obtain ⟨rfl, rfl, rfl⟩ := hc
    have hs := slice_spotV Try.underlying23 hv
    obtain ⟨b, off, rfl⟩ : ∃ b off, a' = ⟨b, off, none⟩ := ⟨a'.block, a'.off, by cases a'; simp_all⟩
    simp only [if_true] at hz
    refine ⟨_, len, cap, (List.range len).map fun i => UInt8.ofNat (zs.getD i 0).toNat, rfl, rd_ints _ hl hm fun i hi => ?_, by simp⟩
    have h1 := hcell i (by omega)
    rw [Addr.add_mid] at h1
    rw [h1]
    have h2 := hw (zs.getD i 0) (by rw [List.getD_eq_getElem?_getD, List.getElem?_eq_getElem (by omega)]; exact List.getElem_mem _)
    simp only [Lit.wf, Bool.and_eq_true, decide_eq_true_eq] at h2
    have h3 : IntKind.u8.min = 0 := rfl
    have h4 : IntKind.u8.max = 255 := rfl
    have h5 : ((UInt8.ofNat (zs.getD i 0).toNat).toNat : Int) = zs.getD i 0 := by rw [UInt8.toNat_ofNat']; omega
    rw [h5]
theorem open_int {H : Type} {enc : TypeId × Value → H} {W : World} {base fuel : Nat} {v : Value} {x : DataW H × List MemPlace} (hv : Value.okWide Try.prog W .any base 3 v)
    (h : DataW.trod enc Try.prog W 0 (fun _ => true) true fuel 3 v.cells.toList = some x) : ∃ z : Int, v = .int .i64 z ∧ -9223372036854775808 ≤ z ∧ z ≤ 9223372036854775807 := by
  obtain ⟨z, e, _, hw⟩ := DataW.trod_int Try.underlying3 h
  have hv' : ∃ z', v = .int .i64 z' := by
    unfold Value.okWide at hv
    rw [Try.underlying3] at hv
    simp only [Cell.okWide, Try.underlying3] at hv
    cases v <;> simp_all [Cell.ok]
  obtain ⟨z', rfl⟩ := hv'
  simp [Value.cells] at e
  subst e
  simp only [Lit.wf, Bool.and_eq_true, decide_eq_true_eq] at hw
  have h3 : IntKind.i64.min = -9223372036854775808 := rfl
  have h4 : IntKind.i64.max = 9223372036854775807 := rfl
  exact ⟨_, rfl, by omega, by omega⟩
end Go.Proofs.Ytalfdcfcaamnbaa
namespace Go.Proofs.Ytalfdcfcaamnbaa
set_option linter.unusedVariables false
set_option linter.unusedSimpArgs false
open Go.ChangeShapes Go.WideShapes Go.ChangeAt Go.RowKit Hp
set_option maxRecDepth 100000 in
theorem orderGets_lifted (os : Os) (started : os.Started) (H : Type) (enc : TypeId × Value → H) :
    ReturnsInHanded {} Try.checked os 4 .any (Rows.orderGetsSpec.pre6 enc Try.prog Try.f4 Rows.orderGetsRow.domain false) (Rows.orderGetsSpec.post enc Try.prog Try.f4 false true false false) := by
  refine returnsInHanded_of_change (C := Try.checked) own started (by kernel_rfl) Try.func4
    (ChangeSpec.witness6 (enc := enc) (C := Try.checked) false ⟨#[], #[.slice none 0 0], []⟩ 8 (by kernel_rfl) (by kernel_rfl) (by kernel_rfl) (by kernel_rfl)) ?_
  intro W base args ds gs before hval0 hW hcnd _
  have hval : ∀ (j : Nat) t v, Try.f4.params[j]? = some t → args[j]? = some v → Value.okWide Try.prog W .any base t v := hval0
  have hW' := hW
  obtain ⟨p, q, hAA0, hV, rfl, hfz, hnd⟩ := hW
  have hA : DataW.TrodAll enc Try.prog W 0 (fun _ => true) true Try.f4.params.toList args.toList ds p := hAA0
  rw [Try.params4] at hA hval
  have hk := hA
  obtain ⟨v0, d0, rfl, rfl, h0⟩ := trodAll_one hA
  obtain ⟨rfl, rfl⟩ := trodVars_none hV
  obtain ⟨n0, h0⟩ := h0
  obtain ⟨ao0, n0, c0, bs0, rfl, hA0, hn0⟩ := open_bytes (hval 0 _ v0 rfl rfl) h0
  clear hAA0 hval0
  simp only [List.append_nil] at hW'
  refine (gets_law ao0 n0 c0 bs0 W hA0 hn0).mono fun e W' ⟨he, hg⟩ => ?_
  subst he
  exact ⟨_, rfl, post_of_kept (pv := []) hW' (fun _ _ _ => (trodAll_cons_mk (shut_bool Try.underlying4 _) trodAll_mk0)) (fun sp hsp => by
      rw [Try.params4]
      exact args_kept (by decide) hk hg.below (fun p hp => hW'.lt p hp) sp hsp) (fun _ _ => rfl) (by simp)
    (hg.below.frame _)⟩
theorem orderGets_over : Rows.orderGetsRow.holds Try.pinned (OpenSpec.ofChange Rows.orderGetsSpec) :=
  OpenClaim.holds_of_wide 4 Try.f4 rfl rfl rfl rfl rfl rfl rfl ⟨rfl, rfl, rfl, rfl, rfl⟩ rfl rfl rfl rfl rfl (by kernel_rfl) Try.func4 (by kernel_rfl)
    (of_decide_eq_true (by kernel_rfl)) (by unfold Func.isWrapper; first | (rw [if_pos (by decide +kernel)]; kernel_rfl) | (rw [if_neg (by decide +kernel)]; exact ⟨rfl, rfl⟩))
    (fun os started H enc _ => orderGets_lifted os started H enc)

theorem orderGets_proved : Rows.OrderGetsSaid :=
  orderGets_over
end Go.Proofs.Ytalfdcfcaamnbaa
