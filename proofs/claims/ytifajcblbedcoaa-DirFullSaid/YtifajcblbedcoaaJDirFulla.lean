/- PROVED: the law DirFull returns true at any input, and nothing that was there has turned. No condition. -/
import Derived.Test.YtifajcblbedcoaaJBaseg
import Derived.Test.YtifajcblbedcoaaKTy
import Derived.Test.YtifajcblbedcoaaSepQ
import Derived.IntWalk
import Derived.Test.YtifajcblbedcoaaPost
import Derived.Test.YtifajcblbedcoaaOpenX
namespace Go.Proofs.Ytifajcblbedcoaa
set_option linter.unusedVariables false
set_option linter.unusedSimpArgs false
open Go.RowKit Hp
theorem wl_sliceS {P : Program} {ops : Array Oper} {rest : List Oper} {o : Oper} {a : Act} {w : World} {Q : Exit → Act → World → Prop} {T : TypeId} {x lo hi : Operand} {s : ByteArray} {i j : Nat} {q q' : IntKind} (hop : o.op = .slice T x (some lo) (some hi) none) (hw : Region.wanted o (yielded ops a.tmps) = true)
    (hx : evL a x = .string s) (hl : evL a lo = .int q (i : Int)) (hh : evL a hi = .int q' (j : Int)) [ht : TyStr P T] (hij : i ≤ j) (hj : j ≤ s.size)
    (h : wpList P ops Q rest (a.put o.dst (.string (s.extract i j))) w) : wpList P ops Q (o :: rest) a w := by
  refine wl_run hw ?_ h
  unfold execOp
  have h1 : (0 : Int) ≤ (i : Int) := by omega
  have h2 : (0 : Int) ≤ (j : Int) := by omega
  have h3 : (i : Int) ≤ ((j : Nat) : Int) := by omega
  have h4 : (j : Int) ≤ ((s.size : Nat) : Int) := by omega
  simp [hop, evL_eq, hx, hl, hh, run_sliceAt_string w _ _ _ _ _ ht.out, Instr.slice, run_underlying ht.out, Instr.sliceBounds, run_sliceBound w _ _ _ _ h2 h4, run_sliceBound w _ _ _ _ h1 h3]
/-! ### The table that fills -/
def fV : TC := (opR tN (makeR tN [118] 1 1)).2
def lettersL : List UInt8 := [97, 98, 99, 100, 101, 102, 103, 104, 105, 106, 107, 108, 109, 110, 111, 112, 113, 114, 115, 116, 117]
def partN (k : Nat) : List UInt8 := (lettersL.drop k).take 1
def growN (snaps : Bool) (p : List UInt8) : List UInt8 := if snaps then [118, 64] ++ p else p
def growR (snaps : Bool) (t : TC) (p : List UInt8) : TR := if snaps then opR t (snapT t ([118, 64] ++ p) 1) else opR t (makeR t p 1 1)
def fullT (snaps : Bool) : Nat → TC
  | 0 => fV
  | k + 1 => if (growR snaps (fullT snaps k) (partN k)).1 == 0 then (growR snaps (fullT snaps k) (partN k)).2 else fullT snaps k
def fullE (snaps : Bool) (k : Nat) : Int := (growR snaps (fullT snaps k) (partN k)).1
def lessU (snaps : Bool) (k : Nat) : TC := (opR (fullT snaps 17) (dropT (fullT snaps 17) (growN snaps (partN k)))).2
def backV (snaps : Bool) (k : Nat) : TC := (growR snaps (lessU snaps k) [117]).2
def bdB (t : TC) : Bool := decide (t.recs.length ≤ 1000) && decide (t.lives.length ≤ 1000)
theorem bd_of {t : TC} (h : bdB t = true) : t.recs.length ≤ 1000000 ∧ t.lives.length ≤ 1000000 := by
  simp only [bdB, Bool.and_eq_true, decide_eq_true_eq] at h
  omega
theorem fV_eq : opR tN (makeR tN [118] 1 1) = (0, fV) := tr_fst (by decide +kernel)
theorem full_facts : ∀ s : Bool, ∀ k : Fin 17, (if k.val < 15 then fullE s k.val == 0 else fullE s k.val == 8) = true := by decide +kernel
theorem full_bds : ∀ s : Bool, ∀ k : Fin 18, bdB (fullT s k.val) = true := by decide +kernel
theorem full_len : ∀ s : Bool, (fullT s 17).recs.length = 16 := by decide +kernel
theorem less_facts : ∀ s : Bool, ∀ k : Fin 15, ((opR (fullT s 17) (dropT (fullT s 17) (growN s (partN k.val)))).1 == 0 && bdB (lessU s k.val)) = true := by decide +kernel
theorem back_facts : ∀ s : Bool, ∀ k : Fin 15, ((growR s (lessU s k.val) [117]).1 == 0 && (bdB (backV s k.val) && (decide ((backV s k.val).recs.length = 16) && (growR s (backV s k.val) [122]).1 == 8))) = true := by decide +kernel
theorem full_is (s : Bool) {k : Nat} (hk : k < 17) : growR s (fullT s k) (partN k) = (if k < 15 then 0 else 8, (growR s (fullT s k) (partN k)).2) ∧ fullT s (k + 1) = if k < 15 then (growR s (fullT s k) (partN k)).2 else fullT s k := by
  have h := full_facts s ⟨k, hk⟩
  simp only at h
  unfold fullE at h
  by_cases e : k < 15
  · rw [if_pos e] at h
    refine ⟨by rw [if_pos e]; exact tr_fst h, ?_⟩
    rw [fullT, if_pos h, if_pos e]
  · rw [if_neg e] at h
    have h8 : (growR s (fullT s k) (partN k)).1 = 8 := by simpa using h
    refine ⟨by rw [if_neg e]; exact tr_fst h, ?_⟩
    rw [fullT, h8, if_neg e]
    rfl
theorem less_is (s : Bool) {k : Nat} (hk : k < 15) : opR (fullT s 17) (dropT (fullT s 17) (growN s (partN k))) = (0, lessU s k) ∧ (lessU s k).recs.length ≤ 1000000 ∧ (lessU s k).lives.length ≤ 1000000 := by
  have h := less_facts s ⟨k, hk⟩
  simp only [Bool.and_eq_true] at h
  exact ⟨tr_fst h.1, bd_of h.2⟩
theorem back_is (s : Bool) {k : Nat} (hk : k < 15) : growR s (lessU s k) [117] = (0, backV s k) ∧ ((backV s k).recs.length ≤ 1000000 ∧ (backV s k).lives.length ≤ 1000000) ∧ (backV s k).recs.length = 16 ∧ growR s (backV s k) [122] = (8, (growR s (backV s k) [122]).2) := by
  have h := back_facts s ⟨k, hk⟩
  simp only [Bool.and_eq_true, decide_eq_true_eq] at h
  exact ⟨tr_fst h.1, bd_of h.2.1, h.2.2.1, tr_fst h.2.2.2⟩
theorem partN_len (k : Nat) : (partN k).length ≤ 1 := by unfold partN; rw [List.length_take]; omega
theorem letters_cut {k : Nat} (hk : k < 17) : ByteArray.extract ⟨lettersL.toArray⟩ k (k + 1) = ⟨(partN k).toArray⟩ := by
  have h : ∀ k : Fin 17, ByteArray.extract ⟨lettersL.toArray⟩ k.val (k.val + 1) = ⟨(partN k.val).toArray⟩ := by decide +kernel
  exact h ⟨k, hk⟩
end Go.Proofs.Ytifajcblbedcoaa
namespace Go.Proofs.Ytifajcblbedcoaa
set_option linter.unusedVariables false
set_option linter.unusedSimpArgs false
open Go.RowKit Hp
attribute [local irreducible] Go.Calls
set_option maxHeartbeats 1000000
/-- The number below n that x says. -/
def pickI (x n : Int) : Int := if n < 1 then 0 else x % n
theorem pickI_nat {x : Int} {n : Nat} (h : 0 < n) : ∃ k : Nat, k < n ∧ pickI x n = k := by
  have h1 := Int.emod_nonneg x (show (n : Int) ≠ 0 by omega)
  have h2 := Int.emod_lt_of_pos x (show (0 : Int) < n by omega)
  refine ⟨(x % n).toNat, by omega, ?_⟩
  unfold pickI
  rw [if_neg (by omega)]
  omega
theorem pick_spec (x n : Int) (w : World) (hx : -9223372036854775808 ≤ x ∧ x ≤ 9223372036854775807) (hn : -9223372036854775808 ≤ n ∧ n ≤ 9223372036854775807) :
    Calls Try.prog 9 #[.int .i64 x, .int .i64 n] w fun e w' => e = .returned (.int .i64 (pickI x n)) ∧ St w [] w' [] := by
  have hst := St.refl w
  by_cases h1 : n < 1
  · have d1 : decide (n < 1) = true := decide_eq_true h1
    have e : pickI x n = 0 := by unfold pickI; rw [if_pos h1]
    rw [e]
    clear h1 e
    go_enter Try.func9, Try.ntmps9
    go_wp2_with (first | go_big_skip | go_big_guard | fail)
    go_ret
    exact ⟨rfl, hst⟩
  · have d1 : decide (n < 1) = false := decide_eq_false h1
    obtain ⟨r, hr⟩ : ∃ r, r = Int.tmod x n := ⟨_, rfl⟩
    have q1 := Int.tmod_lt_of_pos x (show (0 : Int) < n by omega)
    have q2 := Int.lt_tmod_of_pos x (show (0 : Int) < n by omega)
    rw [← hr] at q1 q2
    have hw : IntKind.i64.wrap r = r := IntWalk.i64_in _ (by omega)
    have f1 : ∀ T, binOp .rem T (.int .i64 x) (.int .i64 n) = pure (.int .i64 r) := by
      intro T
      have hn0 : n ≠ 0 := by omega
      simp only [binOp]
      simp [Op.intDiv, hn0, ← hr, hw]
    have em : x % n = if r < 0 then r + n else r := by
      rw [hr, Int.tmod_eq_emod]
      have := Int.emod_nonneg x (show n ≠ 0 by omega)
      have := Int.emod_lt_of_pos x (show (0 : Int) < n by omega)
      split <;> (split <;> omega)
    have e : pickI x n = if r < 0 then r + n else r := by unfold pickI; rw [if_neg h1, em]
    rw [e]
    clear em e hr h1
    by_cases h2 : r < 0
    · have d2 : decide (r < 0) = true := decide_eq_true h2
      have z0 : IntKind.i64.wrap (r + n) = r + n := IntWalk.i64_in _ (by omega)
      rw [if_pos h2]
      clear h2
      go_enter Try.func9, Try.ntmps9
      go_wp2_with (first | go_big_skip | go_big_guard | fail)
      go_ret
      exact ⟨rfl, hst⟩
    · have d2 : decide (r < 0) = false := decide_eq_false h2
      rw [if_neg h2]
      clear h2
      go_enter Try.func9, Try.ntmps9
      go_wp2_with (first | go_big_skip | go_big_guard | fail)
      go_ret
      exact ⟨rfl, hst⟩
end Go.Proofs.Ytifajcblbedcoaa
namespace Go.Proofs.Ytifajcblbedcoaa
set_option linter.unusedVariables false
set_option linter.unusedSimpArgs false
open Go.RowKit Hp
attribute [local irreducible] Go.Calls Go.wpList tN fV fullT lessU backV growR partN
set_option maxRecDepth 100000
set_option maxHeartbeats 8000000
attribute [local go_sem ↓] heldInt heldInts heldRecs heldRec heldStr heldTab heldPtr heldFn
instance strTy13 : TyStr Try.prog 9 := ⟨by kernel_rfl⟩
theorem grows13_any (snaps : Bool) (t : TC) (ar al : Option Addr) (nr cr nl cl : Nat) (xs : List (Value × RC)) (w : World) (ht : TabIn w t ar nr cr al nl cl xs) (p : List UInt8) (hp : p.length ≤ 1000) :
    Calls Try.prog 8 #[.agg (tabC t (.slice ar nr cr) (.slice al nl cl)).toArray, .bool snaps, .string ⟨p.toArray⟩] w (TabRet (growR snaps t p) w) := by
  have hst0 := St.refl w
  have HT := hid ht
  have HP := hid hp
  have ql : ¬ 9223372036854775807 < 2 + p.length := by omega
  clear ht hp
  obtain ⟨r, hr⟩ : ∃ r, r = growR snaps t p := ⟨_, rfl⟩
  rw [← hr]
  cases snaps
  · have HR := hid (show r = opR t (makeR t p 1 1) by rw [hr]; unfold growR; rfl)
    clear hr
    go_enter Try.func8, Try.ntmps8
    go_wp2_with (first | go_big_skip | go_big_guard | (refine wl_boxA hst0 rfl rfl rfl ?_; intro g2 w1 h4; have hst : St w [] w1 [.blk g2 27 (tabC t (.slice ar nr cr) (.slice al nl cl))] := h4; clear hst0 h4) | (refine wl_alloc hst rfl rfl ?_; intro g1 w2 h4; have hst1 : St w [] w2 [.blk g1 27 tab0, .blk g2 27 (tabC t (.slice ar nr cr) (.slice al nl cl))] := h4; clear h4 hst) | (refine wl_loadE rfl rfl rfl ?_; refine ⟨_, Loads.atA ((tabC t (.slice ar nr cr) (.slice al nl cl))) [_] hst1 rfl rfl, ?_⟩) | (go_at_call 7; refine (make13_any t ar al nr cr nl cl xs _ (HT.out.old hst1.nil) p 1 1 (by have := HP.out; omega)).mono ?_; rw [← HR.out]; rintro _ w3 ⟨rv9, lv9, xs9, rfl, hok9, h4⟩; have hst2 := St.call hst1 h4; clear h4 hst1; obtain ⟨a9, c9, rfl, _, _⟩ := rowS [] hst2; obtain ⟨a8, c8, rfl, _, _⟩ := rowS [_] hst2; have HOK := hid hok9; clear hok9) | (refine wl_storeA (_ :: _ :: List.map rootH xs9) hst2 rfl rfl rfl rfl (vs := tabC r.2 (.slice a9 xs9.length c9) (.slice a8 r.2.lives.length c8)) rfl rfl rfl ?_; intro w7 hst3; clear hst2))
    have hl := Loads.atA (P := Try.prog) (off := 0) (T := 27) (tabC r.2 (.slice a9 xs9.length c9) (.slice a8 r.2.lives.length c8)) (_ :: _ :: List.map rootH xs9) hst3 rfl rfl
    refine bodyPost_ret (results_cellR rfl rfl rfl hl) rfl ?_
    exact ⟨_, _, xs9, rfl, HOK.out, St.sub hst3 (.cons_cons _ (.cons_cons _ (List.sublist_append_left _ _)))⟩
  · have HR := hid (show r = opR t (snapT t ([118, 64] ++ p) 1) by rw [hr]; unfold growR; rfl)
    clear hr
    go_enter Try.func8, Try.ntmps8
    go_wp2_with (first | go_big_skip | go_big_guard | (refine wl_boxA hst0 rfl rfl rfl ?_; intro g2 w1 h4; have hst : St w [] w1 [.blk g2 27 (tabC t (.slice ar nr cr) (.slice al nl cl))] := h4; clear hst0 h4) | (refine wl_alloc hst rfl rfl ?_; intro g1 w2 h4; have hst1 : St w [] w2 [.blk g1 27 tab0, .blk g2 27 (tabC t (.slice ar nr cr) (.slice al nl cl))] := h4; clear h4 hst) | (refine wl_loadE rfl rfl rfl ?_; refine ⟨_, Loads.atA ((tabC t (.slice ar nr cr) (.slice al nl cl))) [_] hst1 rfl rfl, ?_⟩) | (go_at_call 17; (try rw [show (⟨#[118, 64]⟩ : ByteArray) ++ ⟨p.toArray⟩ = ⟨([118, 64] ++ p).toArray⟩ from append_l [118, 64] p]); refine (snap13_any t ar al nr cr nl cl xs _ (HT.out.old hst1.nil) ([118, 64] ++ p) 1 (by have := HP.out; simp; omega)).mono ?_; rw [← HR.out]; rintro _ w3 ⟨rv9, lv9, xs9, rfl, hok9, h4⟩; have hst2 := St.call hst1 h4; clear h4 hst1; obtain ⟨a9, c9, rfl, _, _⟩ := rowS [] hst2; obtain ⟨a8, c8, rfl, _, _⟩ := rowS [_] hst2; have HOK := hid hok9; clear hok9) | (refine wl_storeA (_ :: _ :: List.map rootH xs9) hst2 rfl rfl rfl rfl (vs := tabC r.2 (.slice a9 xs9.length c9) (.slice a8 r.2.lives.length c8)) rfl rfl rfl ?_; intro w7 hst3; clear hst2))
    have hl := Loads.atA (P := Try.prog) (off := 0) (T := 27) (tabC r.2 (.slice a9 xs9.length c9) (.slice a8 r.2.lives.length c8)) (_ :: _ :: List.map rootH xs9) hst3 rfl rfl
    refine bodyPost_ret (results_cellR rfl rfl rfl hl) rfl ?_
    exact ⟨_, _, xs9, rfl, HOK.out, St.sub hst3 (.cons_cons _ (.cons_cons _ (List.sublist_append_left _ _)))⟩
end Go.Proofs.Ytifajcblbedcoaa
namespace Go.Proofs.Ytifajcblbedcoaa
set_option linter.unusedVariables false
set_option linter.unusedSimpArgs false
open Go.RowKit Hp
attribute [local irreducible] Go.Calls Go.wpList tN fV fullT lessU backV growR partN
set_option maxRecDepth 100000
set_option maxHeartbeats 8000000
attribute [local go_sem ↓] heldInt heldInts heldRecs heldRec heldStr heldTab heldPtr heldFn
theorem len16 {n : Nat} (h : n = 16) : ((n : Int) == 16) = true := by rw [h]; decide
theorem letters_cut2 {k : Nat} (hk : k < 17) : ByteArray.extract ⟨#[97, 98, 99, 100, 101, 102, 103, 104, 105, 106, 107, 108, 109, 110, 111, 112, 113, 114, 115, 116, 117]⟩ k (k + 1) = ⟨(partN k).toArray⟩ := letters_cut hk
theorem full13_false (which : Int) (hw : -9223372036854775808 ≤ which ∧ which ≤ 9223372036854775807) (w : World) : Calls Try.prog 3 #[.bool false, .int .i64 which] w fun e w' => e = .returned (.bool true) ∧ St w [] w' [] := by
  obtain ⟨P0, hP0⟩ : ∃ P0 : List HA, P0 = [] := ⟨_, rfl⟩
  have hS0 : St w [] w ([] ++ P0) := by rw [hP0]; exact St.refl w
  clear hP0
  have HWB := hid hw
  clear hw
  go_enter Try.func3, Try.ntmps3
  go_wp2_with (first | go_big_skip | go_big_guard | (go_at_call 6; refine (new13_any 2 _).mono ?_; rw [tN_eq]; intro e9 w9 hret; obtain ⟨a1, b1, c1, d1, P1, xs1, rfl, hin, hsub, h4⟩ := ret_pool (B := []) hS0 hret; have hS1 : St w [] w9 ([] ++ P1) := h4; clear hret h4 hS0; have HT1 := hid hin; clear hin hsub) | (refine wl_alloc hS1 rfl rfl ?_; intro g5 w1 h4; have hS2 : St w [] w1 ([.blk g5 27 (tab0)] ++ P1) := h4; clear h4 hS1) | (refine wl_storeA [] hS2 rfl rfl rfl rfl (vs := tabC tN (.slice a1 xs1.length c1) (.slice b1 tN.lives.length d1)) rfl rfl rfl ?_; intro w1 h4; have hS3 : St w [] w1 ([.blk g5 27 (tabC tN (.slice a1 xs1.length c1) (.slice b1 tN.lives.length d1))] ++ P1) := h4; clear h4 hS2) | (refine wl_loadE rfl rfl rfl ?_; refine ⟨_, Loads.atA (tabC tN (.slice a1 xs1.length c1) (.slice b1 tN.lives.length d1)) [] hS3 rfl rfl, ?_⟩) | (go_at_call 7; refine (make13_any tN a1 b1 xs1.length c1 tN.lives.length d1 xs1 _ (HT1.out.tab hS3 tN_bd) [118] 1 1 (by decide)).mono ?_; rw [fV_eq]; intro e9 w9 hret; obtain ⟨a2, b2, c2, d2, P2, xs2, rfl, hin, hsub, h4⟩ := ret_pool (B := [.blk g5 27 (tabC tN (.slice a1 xs1.length c1) (.slice b1 tN.lives.length d1))]) hS3 hret; have hS4 : St w [] w9 ([.blk g5 27 (tabC tN (.slice a1 xs1.length c1) (.slice b1 tN.lives.length d1))] ++ P2) := h4; clear hret h4 hS3; replace HT1 := hid (HT1.out.mono hsub); have HT2 := hid hin; clear hin hsub) | (refine wl_storeA [] hS4 rfl rfl rfl rfl (vs := tabC fV (.slice a2 xs2.length c2) (.slice b2 fV.lives.length d2)) rfl rfl rfl ?_; intro w1 h4; have hS5 : St w [] w1 ([.blk g5 27 (tabC fV (.slice a2 xs2.length c2) (.slice b2 fV.lives.length d2))] ++ P2) := h4; clear h4 hS4))
  have HF0 := hid (show fullT false 0 = fV by unfold fullT; rfl)
  have hst : St w [] _ ([.blk g5 27 (tabC fV (.slice a2 xs2.length c2) (.slice b2 fV.lives.length d2))] ++ P2) := hS5
  clear hS5
  go_loopw [9] (fun i wr => ∃ j : Nat, j ≤ 17 ∧ i = .int .i64 (j : Int) ∧ ∃ (a0 b0 : Option Addr) (c0 d0 : Nat) (P0 : List HA) (xs0 : List (Value × RC)), InP P0 (fullT false j) a0 b0 c0 d0 xs0 ∧ St w [] wr ([.blk g5 27 (tabC (fullT false j) (.slice a0 xs0.length c0) (.slice b0 (fullT false j).lives.length d0))] ++ P0)) (fun i _ => 17 - (intOf i).toNat)
  case atStart => exact ⟨0, Nat.zero_le _, rfl, _, _, _, _, P2, xs2, by rw [HF0.out]; exact HT2.out, by rw [HF0.out]; exact hst⟩
  case round =>
    clear hst
    obtain ⟨j, hj, rfl, a0, b0, c0, d0, P0, xs0, hin, hst⟩ := hrel
    have HT0 := hid hin
    clear hin
    by_cases hlt : j < 17
    · have d0' : decide ((j : Int) < 17) = true := decide_eq_true (by omega)
      have z1 : IntKind.i64.wrap ((j : Int) + 1) = (j : Int) + 1 := IntWalk.i64_in _ (by omega)
      have n1 : (j : Int) + 1 ≤ 21 := by omega
      have n3 : 0 ≤ (j : Int) + 1 := by omega
      have n5 : (j : Int) ≤ (j : Int) + 1 := by omega
      have t1 : ((j : Int) + 1).toNat = j + 1 := by omega
      have HJ := hid hlt
      have HFB := hid (show (fullT false j).recs.length ≤ 1000000 ∧ (fullT false j).lives.length ≤ 1000000 from bd_of (full_bds false ⟨j, by omega⟩))
      obtain ⟨hgr, hnx⟩ := full_is false hlt
      obtain ⟨u9, hu⟩ : ∃ u, u = (growR false (fullT false j) (partN j)).2 := ⟨_, rfl⟩
      rw [← hu] at hgr hnx
      by_cases h15 : j < 15
      · have d15 : decide ((j : Int) < 15) = true := decide_eq_true (by omega)
        rw [if_pos h15] at hgr hnx
        have HGR := hid hgr
        have HNX := hid hnx
        clear hgr hnx hu h15 hlt
        go_wp2_with (first | go_big_skip | go_big_guard | fail)
        have hD := hst.drew
        clear hst
        refine wp_region_held_drew (S := (fun w' => (loadVarH 27 ⟨g5, 0, none⟩).run Try.prog w' = .ok (.agg (List.toArray (tabC (fullT false j) (.slice a0 xs0.length c0) (.slice b0 (fullT false j).lives.length d0)))) w')) (by kernel_rfl) (by exact ldA (tabC (fullT false j) (.slice a0 xs0.length c0) (.slice b0 (fullT false j).lives.length d0)) [] hD (rfl) (rfl)) (fun hHeld => ?_)
        refine wpAnyH_take (i := 0) (oi := ⟨some 39, _, _, _, _, _⟩) (v := ?_) rfl (by kernel_rfl) (by kernel_rfl) (by kernel_rfl) (fun _ _ _ h => h) (Or.inl ⟨by rfl, ?_⟩) (by assumption) ?_
        rotate_left
        · intro w hSw; (try dsimp only at hSw); go_simp; try with_reducible rfl
        (try simp only [Act.put, List.setIfInBounds_toArray, List.set_cons_zero, List.set_cons_succ])
        refine wpAnyH_take (i := 1) (oi := ⟨some 40, _, _, _, _, _⟩) (v := ?_) rfl (by kernel_rfl) (by kernel_rfl) (by kernel_rfl) (fun _ _ _ h => h) (Or.inl ⟨by rfl, ?_⟩) (by assumption) ?_
        rotate_left
        · intro w hSw; (try dsimp only at hSw); go_simp; try with_reducible rfl
        (try simp only [Act.put, List.setIfInBounds_toArray, List.set_cons_zero, List.set_cons_succ])
        refine wpAnyH_take (i := 2) (oi := ⟨some 41, _, _, _, _, _⟩) (v := ?_) rfl (by kernel_rfl) (by kernel_rfl) (by kernel_rfl) (fun _ _ _ h => h) (Or.inl ⟨by rfl, ?_⟩) (by assumption) ?_
        rotate_left
        · intro w hSw; (try dsimp only at hSw); go_simp; try with_reducible rfl
        (try simp only [Act.put, List.setIfInBounds_toArray, List.set_cons_zero, List.set_cons_succ])
        refine wpAnyH_take (i := 3) (oi := ⟨some 42, _, _, _, _, _⟩) (v := ?_) rfl (by kernel_rfl) (by kernel_rfl) (by kernel_rfl) (fun _ _ _ h => h) (Or.inl ⟨by rfl, ?_⟩) (by assumption) ?_
        rotate_left
        · intro w hSw; (try dsimp only at hSw); go_simp; try with_reducible rfl
        (try simp only [Act.put, List.setIfInBounds_toArray, List.set_cons_zero, List.set_cons_succ])
        refine wpAnyH_take (i := 4) (oi := ⟨some 43, _, _, _, _, _⟩) (v := ?_) rfl (by kernel_rfl) (by kernel_rfl) (by kernel_rfl) (fun _ _ _ h => h) (Or.inl ⟨by rfl, ?_⟩) (by assumption) ?_
        rotate_left
        · intro w hSw; (try dsimp only at hSw); go_simp; try with_reducible rfl
        (try simp only [Act.put, List.setIfInBounds_toArray, List.set_cons_zero, List.set_cons_succ])
        refine wpAnyH_take (i := 5) (oi := ⟨some 44, _, _, _, _, _⟩) (v := ?_) rfl (by kernel_rfl) (by kernel_rfl) (by kernel_rfl) (fun _ _ _ h => h) (Or.inl ⟨by rfl, ?_⟩) (by assumption) ?_
        rotate_left
        · intro w hSw; (try dsimp only at hSw); go_simp; try with_reducible rfl
        (try simp only [Act.put, List.setIfInBounds_toArray, List.set_cons_zero, List.set_cons_succ])
        refine wpAnyH_take (i := 6) (oi := ⟨some 45, _, _, _, _, _⟩) (v := ?_) rfl (by kernel_rfl) (by kernel_rfl) (by kernel_rfl) (fun _ _ _ h => h) (Or.inl ⟨by rfl, ?_⟩) (by assumption) ?_
        rotate_left
        · intro w hSw; (try dsimp only at hSw); go_simp; try with_reducible rfl
        (try simp only [Act.put, List.setIfInBounds_toArray, List.set_cons_zero, List.set_cons_succ])
        refine wpAnyH_ready (rs := [7, 11]) (by kernel_rfl) (by simp) ?_
        refine (AllReadyH.cons (o := ⟨some 46, _, _, _, _, _⟩) rfl (fun K hK => ?_) (AllReadyH.cons (o := ⟨some 10, _, _, _, _, _⟩) rfl (fun K hK => ?_) AllReadyH.nil))
        · rw [if_pos (by rfl)]
          go_simp
          rw [letters_cut2 HJ.out]
          go_at_call 8
          refine (grows13_any false (fullT false j) a0 b0 xs0.length c0 (fullT false j).lives.length d0 xs0 _ (HT0.out.tab (B := [.blk g5 27 (tabC (fullT false j) (.slice a0 xs0.length c0) (.slice b0 (fullT false j).lives.length d0))]) hD HFB.out) (partN j) (by have := partN_len j; omega)).mono ?_
          rw [HGR.out]
          intro e9 wC hret
          obtain ⟨a9, b9, c9, d9, P9, xs9, rfl, hin, hsub, h4⟩ := ret_pool (B := [.blk g5 27 (tabC (fullT false j) (.slice a0 xs0.length c0) (.slice b0 (fullT false j).lives.length d0))]) hD hret
          have hCD : St w [] wC ([.blk g5 27 (tabC (fullT false j) (.slice a0 xs0.length c0) (.slice b0 (fullT false j).lives.length d0))] ++ P9) := h4
          clear hret h4
          have HT9 := hid hin
          have HTB := hid (HT0.out.mono hsub)
          clear hin hsub
          refine hK.out _ _ ?_ (fun hHeld => ?_)
          · exact ldA (tabC (fullT false j) (.slice a0 xs0.length c0) (.slice b0 (fullT false j).lives.length d0)) [] hCD (rfl) (rfl)
          clear hK K
          (try simp only [Act.put, List.setIfInBounds_toArray, List.set_cons_zero, List.set_cons_succ])
          refine wpAnyH_take (i := 8) (oi := ⟨some 38, _, _, _, _, _⟩) (v := ?_) rfl (by kernel_rfl) (by kernel_rfl) (by kernel_rfl) (fun _ _ _ h => h) (Or.inl ⟨by rfl, ?_⟩) (by assumption) ?_
          rotate_left
          · intro w hSw; (try dsimp only at hSw); go_simp; try with_reducible rfl
          (try simp only [Act.put, List.setIfInBounds_toArray, List.set_cons_zero, List.set_cons_succ])
          refine wpAnyH_take (i := 9) (oi := ⟨some 47, _, _, _, _, _⟩) (v := ?_) rfl (by kernel_rfl) (by kernel_rfl) (by kernel_rfl) (fun _ _ _ h => h) (Or.inl ⟨by rfl, ?_⟩) (by assumption) ?_
          rotate_left
          · intro w hSw; (try dsimp only at hSw); go_simp; try with_reducible rfl
          (try simp only [Act.put, List.setIfInBounds_toArray, List.set_cons_zero, List.set_cons_succ])
          refine wpAnyH_take (i := 10) (oi := ⟨some 48, _, _, _, _, _⟩) (v := ?_) rfl (by kernel_rfl) (by kernel_rfl) (by kernel_rfl) (fun _ _ _ h => h) (Or.inl ⟨by rfl, ?_⟩) (by assumption) ?_
          rotate_left
          · intro w hSw; (try dsimp only at hSw); go_simp; try with_reducible rfl
          (try simp only [Act.put, List.setIfInBounds_toArray, List.set_cons_zero, List.set_cons_succ])
          refine wpAnyH_ready (rs := [11]) (by kernel_rfl) (by simp) ?_
          refine (AllReadyH.cons (o := ⟨some 10, _, _, _, _, _⟩) rfl (fun K hK => ?_) AllReadyH.nil)
          refine ow_if (by rfl) ?_
          refine wl_alloc hCD rfl rfl ?_
          intro g10 wA h4
          have hAD : St w [] wA ([.blk g10 27 tab0, .blk g5 27 (tabC (fullT false j) (.slice a0 xs0.length c0) (.slice b0 (fullT false j).lives.length d0))] ++ P9) := h4
          clear h4
          refine q0_nil ?_
          refine hK.out _ _ ?_ (fun hHeld => ?_)
          · exact ldA (tabC (fullT false j) (.slice a0 xs0.length c0) (.slice b0 (fullT false j).lives.length d0)) [_] hAD (rfl) (rfl)
          clear hK K
          (try simp only [Act.put, List.setIfInBounds_toArray, List.set_cons_zero, List.set_cons_succ])
          refine wpAnyH_ready (rs := [12]) (by kernel_rfl) (by simp) ?_
          refine (AllReadyH.cons (o := ⟨none, _, _, _, _, _⟩) rfl (fun K hK => ?_) AllReadyH.nil)
          refine ow_if (by rfl) ?_
          refine wl_storeA [] hAD rfl rfl rfl rfl (vs := tabC u9 (.slice a9 xs9.length c9) (.slice b9 u9.lives.length d9)) rfl rfl rfl ?_
          intro wS h4
          have hS : St w [] wS ([.blk g10 27 (tabC u9 (.slice a9 xs9.length c9) (.slice b9 u9.lives.length d9)), .blk g5 27 (tabC (fullT false j) (.slice a0 xs0.length c0) (.slice b0 (fullT false j).lives.length d0))] ++ P9) := h4
          clear h4
          refine q0_nil ?_
          refine hK.out _ _ ?_ (fun hHeld => ?_)
          · exact ldA (tabC (fullT false j) (.slice a0 xs0.length c0) (.slice b0 (fullT false j).lives.length d0)) [_] hS (rfl) (rfl)
          clear hK K
          (try simp only [Act.put, List.setIfInBounds_toArray, List.set_cons_zero, List.set_cons_succ])
          refine wpAnyH_take (i := 13) (oi := ⟨some 11, _, _, _, _, _⟩) (v := ?_) rfl (by kernel_rfl) (by kernel_rfl) (by kernel_rfl) (fun _ _ _ h => h) (Or.inl ⟨by rfl, ?_⟩) (by assumption) ?_
          rotate_left
          · intro w hSw; (try dsimp only at hSw); go_simp; try with_reducible rfl
          (try simp only [Act.put, List.setIfInBounds_toArray, List.set_cons_zero, List.set_cons_succ])
          refine wpAnyH_done (by kernel_rfl) ?_ _
          clear hHeld
          go_wp2_with (first | go_big_skip | go_big_guard | (refine wl_loadE rfl rfl rfl ?_; refine ⟨_, Loads.atA (tabC u9 (.slice a9 xs9.length c9) (.slice b9 u9.lives.length d9)) [] hS rfl rfl, ?_⟩) | (refine wl_storeA [_] hS rfl rfl rfl rfl (vs := tabC u9 (.slice a9 xs9.length c9) (.slice b9 u9.lives.length d9)) rfl rfl rfl ?_; intro w11 hS2))
          go_roundw
          case rel => exact ⟨j + 1, HJ.out, rfl, _, _, _, _, P9, xs9, by rw [HNX.out]; exact HT9.out, by rw [HNX.out]; exact St.sub hS2 (.cons _ (List.Sublist.refl _))⟩
          case measure => have := HJ.out; simp [intOf]; omega
        · refine ow_if (by rfl) ?_
          refine wl_alloc hD rfl rfl ?_
          intro g10 wA h4
          have hAD : St w [] wA ([.blk g10 27 tab0, .blk g5 27 (tabC (fullT false j) (.slice a0 xs0.length c0) (.slice b0 (fullT false j).lives.length d0))] ++ P0) := h4
          clear h4
          refine q0_nil ?_
          refine hK.out _ _ ?_ (fun hHeld => ?_)
          · exact ldA (tabC (fullT false j) (.slice a0 xs0.length c0) (.slice b0 (fullT false j).lives.length d0)) [_] hAD (rfl) (rfl)
          clear hK K
          (try simp only [Act.put, List.setIfInBounds_toArray, List.set_cons_zero, List.set_cons_succ])
          refine wpAnyH_ready (rs := [7]) (by kernel_rfl) (by simp) ?_
          refine (AllReadyH.cons (o := ⟨some 46, _, _, _, _, _⟩) rfl (fun K hK => ?_) AllReadyH.nil)
          rw [if_pos (by rfl)]
          go_simp
          rw [letters_cut2 HJ.out]
          go_at_call 8
          refine (grows13_any false (fullT false j) a0 b0 xs0.length c0 (fullT false j).lives.length d0 xs0 _ (HT0.out.tab (B := [.blk g10 27 tab0, .blk g5 27 (tabC (fullT false j) (.slice a0 xs0.length c0) (.slice b0 (fullT false j).lives.length d0))]) hAD HFB.out) (partN j) (by have := partN_len j; omega)).mono ?_
          rw [HGR.out]
          intro e9 wC hret
          obtain ⟨a9, b9, c9, d9, P9, xs9, rfl, hin, hsub, h4⟩ := ret_pool (B := [.blk g10 27 tab0, .blk g5 27 (tabC (fullT false j) (.slice a0 xs0.length c0) (.slice b0 (fullT false j).lives.length d0))]) hAD hret
          have hCD : St w [] wC ([.blk g10 27 tab0, .blk g5 27 (tabC (fullT false j) (.slice a0 xs0.length c0) (.slice b0 (fullT false j).lives.length d0))] ++ P9) := h4
          clear hret h4
          have HT9 := hid hin
          have HTB := hid (HT0.out.mono hsub)
          clear hin hsub
          refine hK.out _ _ ?_ (fun hHeld => ?_)
          · exact ldA (tabC (fullT false j) (.slice a0 xs0.length c0) (.slice b0 (fullT false j).lives.length d0)) [_] hCD (rfl) (rfl)
          clear hK K
          (try simp only [Act.put, List.setIfInBounds_toArray, List.set_cons_zero, List.set_cons_succ])
          refine wpAnyH_take (i := 8) (oi := ⟨some 38, _, _, _, _, _⟩) (v := ?_) rfl (by kernel_rfl) (by kernel_rfl) (by kernel_rfl) (fun _ _ _ h => h) (Or.inl ⟨by rfl, ?_⟩) (by assumption) ?_
          rotate_left
          · intro w hSw; (try dsimp only at hSw); go_simp; try with_reducible rfl
          (try simp only [Act.put, List.setIfInBounds_toArray, List.set_cons_zero, List.set_cons_succ])
          refine wpAnyH_take (i := 9) (oi := ⟨some 47, _, _, _, _, _⟩) (v := ?_) rfl (by kernel_rfl) (by kernel_rfl) (by kernel_rfl) (fun _ _ _ h => h) (Or.inl ⟨by rfl, ?_⟩) (by assumption) ?_
          rotate_left
          · intro w hSw; (try dsimp only at hSw); go_simp; try with_reducible rfl
          (try simp only [Act.put, List.setIfInBounds_toArray, List.set_cons_zero, List.set_cons_succ])
          refine wpAnyH_take (i := 10) (oi := ⟨some 48, _, _, _, _, _⟩) (v := ?_) rfl (by kernel_rfl) (by kernel_rfl) (by kernel_rfl) (fun _ _ _ h => h) (Or.inl ⟨by rfl, ?_⟩) (by assumption) ?_
          rotate_left
          · intro w hSw; (try dsimp only at hSw); go_simp; try with_reducible rfl
          (try simp only [Act.put, List.setIfInBounds_toArray, List.set_cons_zero, List.set_cons_succ])
          refine wpAnyH_ready (rs := [12]) (by kernel_rfl) (by simp) ?_
          refine (AllReadyH.cons (o := ⟨none, _, _, _, _, _⟩) rfl (fun K hK => ?_) AllReadyH.nil)
          refine ow_if (by rfl) ?_
          refine wl_storeA [] hCD rfl rfl rfl rfl (vs := tabC u9 (.slice a9 xs9.length c9) (.slice b9 u9.lives.length d9)) rfl rfl rfl ?_
          intro wS h4
          have hS : St w [] wS ([.blk g10 27 (tabC u9 (.slice a9 xs9.length c9) (.slice b9 u9.lives.length d9)), .blk g5 27 (tabC (fullT false j) (.slice a0 xs0.length c0) (.slice b0 (fullT false j).lives.length d0))] ++ P9) := h4
          clear h4
          refine q0_nil ?_
          refine hK.out _ _ ?_ (fun hHeld => ?_)
          · exact ldA (tabC (fullT false j) (.slice a0 xs0.length c0) (.slice b0 (fullT false j).lives.length d0)) [_] hS (rfl) (rfl)
          clear hK K
          (try simp only [Act.put, List.setIfInBounds_toArray, List.set_cons_zero, List.set_cons_succ])
          refine wpAnyH_take (i := 13) (oi := ⟨some 11, _, _, _, _, _⟩) (v := ?_) rfl (by kernel_rfl) (by kernel_rfl) (by kernel_rfl) (fun _ _ _ h => h) (Or.inl ⟨by rfl, ?_⟩) (by assumption) ?_
          rotate_left
          · intro w hSw; (try dsimp only at hSw); go_simp; try with_reducible rfl
          (try simp only [Act.put, List.setIfInBounds_toArray, List.set_cons_zero, List.set_cons_succ])
          refine wpAnyH_done (by kernel_rfl) ?_ _
          clear hHeld
          go_wp2_with (first | go_big_skip | go_big_guard | (refine wl_loadE rfl rfl rfl ?_; refine ⟨_, Loads.atA (tabC u9 (.slice a9 xs9.length c9) (.slice b9 u9.lives.length d9)) [] hS rfl rfl, ?_⟩) | (refine wl_storeA [_] hS rfl rfl rfl rfl (vs := tabC u9 (.slice a9 xs9.length c9) (.slice b9 u9.lives.length d9)) rfl rfl rfl ?_; intro w11 hS2))
          go_roundw
          case rel => exact ⟨j + 1, HJ.out, rfl, _, _, _, _, P9, xs9, by rw [HNX.out]; exact HT9.out, by rw [HNX.out]; exact St.sub hS2 (.cons _ (List.Sublist.refl _))⟩
          case measure => have := HJ.out; simp [intOf]; omega
      · have d15 : decide ((j : Int) < 15) = false := decide_eq_false (by omega)
        rw [if_neg h15] at hgr hnx
        have HGR := hid hgr
        have HNX := hid hnx
        clear hgr hnx hu h15 hlt
        go_wp2_with (first | go_big_skip | go_big_guard | fail)
        have hD := hst.drew
        clear hst
        refine wp_region_held_drew (S := (fun w' => (loadVarH 27 ⟨g5, 0, none⟩).run Try.prog w' = .ok (.agg (List.toArray (tabC (fullT false j) (.slice a0 xs0.length c0) (.slice b0 (fullT false j).lives.length d0)))) w')) (by kernel_rfl) (by exact ldA (tabC (fullT false j) (.slice a0 xs0.length c0) (.slice b0 (fullT false j).lives.length d0)) [] hD (rfl) (rfl)) (fun hHeld => ?_)
        refine wpAnyH_take (i := 0) (oi := ⟨some 39, _, _, _, _, _⟩) (v := ?_) rfl (by kernel_rfl) (by kernel_rfl) (by kernel_rfl) (fun _ _ _ h => h) (Or.inl ⟨by rfl, ?_⟩) (by assumption) ?_
        rotate_left
        · intro w hSw; (try dsimp only at hSw); go_simp; try with_reducible rfl
        (try simp only [Act.put, List.setIfInBounds_toArray, List.set_cons_zero, List.set_cons_succ])
        refine wpAnyH_take (i := 1) (oi := ⟨some 40, _, _, _, _, _⟩) (v := ?_) rfl (by kernel_rfl) (by kernel_rfl) (by kernel_rfl) (fun _ _ _ h => h) (Or.inl ⟨by rfl, ?_⟩) (by assumption) ?_
        rotate_left
        · intro w hSw; (try dsimp only at hSw); go_simp; try with_reducible rfl
        (try simp only [Act.put, List.setIfInBounds_toArray, List.set_cons_zero, List.set_cons_succ])
        refine wpAnyH_take (i := 2) (oi := ⟨some 41, _, _, _, _, _⟩) (v := ?_) rfl (by kernel_rfl) (by kernel_rfl) (by kernel_rfl) (fun _ _ _ h => h) (Or.inl ⟨by rfl, ?_⟩) (by assumption) ?_
        rotate_left
        · intro w hSw; (try dsimp only at hSw); go_simp; try with_reducible rfl
        (try simp only [Act.put, List.setIfInBounds_toArray, List.set_cons_zero, List.set_cons_succ])
        refine wpAnyH_take (i := 3) (oi := ⟨some 42, _, _, _, _, _⟩) (v := ?_) rfl (by kernel_rfl) (by kernel_rfl) (by kernel_rfl) (fun _ _ _ h => h) (Or.inl ⟨by rfl, ?_⟩) (by assumption) ?_
        rotate_left
        · intro w hSw; (try dsimp only at hSw); go_simp; try with_reducible rfl
        (try simp only [Act.put, List.setIfInBounds_toArray, List.set_cons_zero, List.set_cons_succ])
        refine wpAnyH_take (i := 4) (oi := ⟨some 43, _, _, _, _, _⟩) (v := ?_) rfl (by kernel_rfl) (by kernel_rfl) (by kernel_rfl) (fun _ _ _ h => h) (Or.inl ⟨by rfl, ?_⟩) (by assumption) ?_
        rotate_left
        · intro w hSw; (try dsimp only at hSw); go_simp; try with_reducible rfl
        (try simp only [Act.put, List.setIfInBounds_toArray, List.set_cons_zero, List.set_cons_succ])
        refine wpAnyH_take (i := 5) (oi := ⟨some 44, _, _, _, _, _⟩) (v := ?_) rfl (by kernel_rfl) (by kernel_rfl) (by kernel_rfl) (fun _ _ _ h => h) (Or.inl ⟨by rfl, ?_⟩) (by assumption) ?_
        rotate_left
        · intro w hSw; (try dsimp only at hSw); go_simp; try with_reducible rfl
        (try simp only [Act.put, List.setIfInBounds_toArray, List.set_cons_zero, List.set_cons_succ])
        refine wpAnyH_take (i := 6) (oi := ⟨some 45, _, _, _, _, _⟩) (v := ?_) rfl (by kernel_rfl) (by kernel_rfl) (by kernel_rfl) (fun _ _ _ h => h) (Or.inl ⟨by rfl, ?_⟩) (by assumption) ?_
        rotate_left
        · intro w hSw; (try dsimp only at hSw); go_simp; try with_reducible rfl
        (try simp only [Act.put, List.setIfInBounds_toArray, List.set_cons_zero, List.set_cons_succ])
        refine wpAnyH_ready (rs := [7, 11]) (by kernel_rfl) (by simp) ?_
        refine (AllReadyH.cons (o := ⟨some 46, _, _, _, _, _⟩) rfl (fun K hK => ?_) (AllReadyH.cons (o := ⟨some 10, _, _, _, _, _⟩) rfl (fun K hK => ?_) AllReadyH.nil))
        · rw [if_pos (by rfl)]
          go_simp
          rw [letters_cut2 HJ.out]
          go_at_call 8
          refine (grows13_any false (fullT false j) a0 b0 xs0.length c0 (fullT false j).lives.length d0 xs0 _ (HT0.out.tab (B := [.blk g5 27 (tabC (fullT false j) (.slice a0 xs0.length c0) (.slice b0 (fullT false j).lives.length d0))]) hD HFB.out) (partN j) (by have := partN_len j; omega)).mono ?_
          rw [HGR.out]
          intro e9 wC hret
          obtain ⟨a9, b9, c9, d9, P9, xs9, rfl, hin, hsub, h4⟩ := ret_pool (B := [.blk g5 27 (tabC (fullT false j) (.slice a0 xs0.length c0) (.slice b0 (fullT false j).lives.length d0))]) hD hret
          have hCD : St w [] wC ([.blk g5 27 (tabC (fullT false j) (.slice a0 xs0.length c0) (.slice b0 (fullT false j).lives.length d0))] ++ P9) := h4
          clear hret h4
          have HT9 := hid hin
          have HTB := hid (HT0.out.mono hsub)
          clear hin hsub
          refine hK.out _ _ ?_ (fun hHeld => ?_)
          · exact ldA (tabC (fullT false j) (.slice a0 xs0.length c0) (.slice b0 (fullT false j).lives.length d0)) [] hCD (rfl) (rfl)
          clear hK K
          (try simp only [Act.put, List.setIfInBounds_toArray, List.set_cons_zero, List.set_cons_succ])
          refine wpAnyH_take (i := 8) (oi := ⟨some 38, _, _, _, _, _⟩) (v := ?_) rfl (by kernel_rfl) (by kernel_rfl) (by kernel_rfl) (fun _ _ _ h => h) (Or.inl ⟨by rfl, ?_⟩) (by assumption) ?_
          rotate_left
          · intro w hSw; (try dsimp only at hSw); go_simp; try with_reducible rfl
          (try simp only [Act.put, List.setIfInBounds_toArray, List.set_cons_zero, List.set_cons_succ])
          refine wpAnyH_take (i := 9) (oi := ⟨some 47, _, _, _, _, _⟩) (v := ?_) rfl (by kernel_rfl) (by kernel_rfl) (by kernel_rfl) (fun _ _ _ h => h) (Or.inl ⟨by rfl, ?_⟩) (by assumption) ?_
          rotate_left
          · intro w hSw; (try dsimp only at hSw); go_simp; try with_reducible rfl
          (try simp only [Act.put, List.setIfInBounds_toArray, List.set_cons_zero, List.set_cons_succ])
          refine wpAnyH_take (i := 10) (oi := ⟨some 48, _, _, _, _, _⟩) (v := ?_) rfl (by kernel_rfl) (by kernel_rfl) (by kernel_rfl) (fun _ _ _ h => h) (Or.inl ⟨by rfl, ?_⟩) (by assumption) ?_
          rotate_left
          · intro w hSw; (try dsimp only at hSw); go_simp; try with_reducible rfl
          (try simp only [Act.put, List.setIfInBounds_toArray, List.set_cons_zero, List.set_cons_succ])
          refine wpAnyH_ready (rs := [11]) (by kernel_rfl) (by simp) ?_
          refine (AllReadyH.cons (o := ⟨some 10, _, _, _, _, _⟩) rfl (fun K hK => ?_) AllReadyH.nil)
          refine ow_if (by rfl) ?_
          refine wl_alloc hCD rfl rfl ?_
          intro g10 wA h4
          have hAD : St w [] wA ([.blk g10 27 tab0, .blk g5 27 (tabC (fullT false j) (.slice a0 xs0.length c0) (.slice b0 (fullT false j).lives.length d0))] ++ P9) := h4
          clear h4
          refine q0_nil ?_
          refine hK.out _ _ ?_ (fun hHeld => ?_)
          · exact ldA (tabC (fullT false j) (.slice a0 xs0.length c0) (.slice b0 (fullT false j).lives.length d0)) [_] hAD (rfl) (rfl)
          clear hK K
          (try simp only [Act.put, List.setIfInBounds_toArray, List.set_cons_zero, List.set_cons_succ])
          refine wpAnyH_ready (rs := [12]) (by kernel_rfl) (by simp) ?_
          refine (AllReadyH.cons (o := ⟨none, _, _, _, _, _⟩) rfl (fun K hK => ?_) AllReadyH.nil)
          refine ow_if (by rfl) ?_
          refine wl_storeA [] hAD rfl rfl rfl rfl (vs := tabC u9 (.slice a9 xs9.length c9) (.slice b9 u9.lives.length d9)) rfl rfl rfl ?_
          intro wS h4
          have hS : St w [] wS ([.blk g10 27 (tabC u9 (.slice a9 xs9.length c9) (.slice b9 u9.lives.length d9)), .blk g5 27 (tabC (fullT false j) (.slice a0 xs0.length c0) (.slice b0 (fullT false j).lives.length d0))] ++ P9) := h4
          clear h4
          refine q0_nil ?_
          refine hK.out _ _ ?_ (fun hHeld => ?_)
          · exact ldA (tabC (fullT false j) (.slice a0 xs0.length c0) (.slice b0 (fullT false j).lives.length d0)) [_] hS (rfl) (rfl)
          clear hK K
          (try simp only [Act.put, List.setIfInBounds_toArray, List.set_cons_zero, List.set_cons_succ])
          refine wpAnyH_take (i := 13) (oi := ⟨some 11, _, _, _, _, _⟩) (v := ?_) rfl (by kernel_rfl) (by kernel_rfl) (by kernel_rfl) (fun _ _ _ h => h) (Or.inl ⟨by rfl, ?_⟩) (by assumption) ?_
          rotate_left
          · intro w hSw; (try dsimp only at hSw); go_simp; try with_reducible rfl
          (try simp only [Act.put, List.setIfInBounds_toArray, List.set_cons_zero, List.set_cons_succ])
          refine wpAnyH_done (by kernel_rfl) ?_ _
          clear hHeld
          go_wp2_with (first | go_big_skip | go_big_guard | fail)
          go_roundw
          case rel => exact ⟨j + 1, HJ.out, rfl, _, _, _, _, P9, xs0, by rw [HNX.out]; exact HTB.out, by rw [HNX.out]; exact St.sub hS (.cons _ (List.Sublist.refl _))⟩
          case measure => have := HJ.out; simp [intOf]; omega
        · refine ow_if (by rfl) ?_
          refine wl_alloc hD rfl rfl ?_
          intro g10 wA h4
          have hAD : St w [] wA ([.blk g10 27 tab0, .blk g5 27 (tabC (fullT false j) (.slice a0 xs0.length c0) (.slice b0 (fullT false j).lives.length d0))] ++ P0) := h4
          clear h4
          refine q0_nil ?_
          refine hK.out _ _ ?_ (fun hHeld => ?_)
          · exact ldA (tabC (fullT false j) (.slice a0 xs0.length c0) (.slice b0 (fullT false j).lives.length d0)) [_] hAD (rfl) (rfl)
          clear hK K
          (try simp only [Act.put, List.setIfInBounds_toArray, List.set_cons_zero, List.set_cons_succ])
          refine wpAnyH_ready (rs := [7]) (by kernel_rfl) (by simp) ?_
          refine (AllReadyH.cons (o := ⟨some 46, _, _, _, _, _⟩) rfl (fun K hK => ?_) AllReadyH.nil)
          rw [if_pos (by rfl)]
          go_simp
          rw [letters_cut2 HJ.out]
          go_at_call 8
          refine (grows13_any false (fullT false j) a0 b0 xs0.length c0 (fullT false j).lives.length d0 xs0 _ (HT0.out.tab (B := [.blk g10 27 tab0, .blk g5 27 (tabC (fullT false j) (.slice a0 xs0.length c0) (.slice b0 (fullT false j).lives.length d0))]) hAD HFB.out) (partN j) (by have := partN_len j; omega)).mono ?_
          rw [HGR.out]
          intro e9 wC hret
          obtain ⟨a9, b9, c9, d9, P9, xs9, rfl, hin, hsub, h4⟩ := ret_pool (B := [.blk g10 27 tab0, .blk g5 27 (tabC (fullT false j) (.slice a0 xs0.length c0) (.slice b0 (fullT false j).lives.length d0))]) hAD hret
          have hCD : St w [] wC ([.blk g10 27 tab0, .blk g5 27 (tabC (fullT false j) (.slice a0 xs0.length c0) (.slice b0 (fullT false j).lives.length d0))] ++ P9) := h4
          clear hret h4
          have HT9 := hid hin
          have HTB := hid (HT0.out.mono hsub)
          clear hin hsub
          refine hK.out _ _ ?_ (fun hHeld => ?_)
          · exact ldA (tabC (fullT false j) (.slice a0 xs0.length c0) (.slice b0 (fullT false j).lives.length d0)) [_] hCD (rfl) (rfl)
          clear hK K
          (try simp only [Act.put, List.setIfInBounds_toArray, List.set_cons_zero, List.set_cons_succ])
          refine wpAnyH_take (i := 8) (oi := ⟨some 38, _, _, _, _, _⟩) (v := ?_) rfl (by kernel_rfl) (by kernel_rfl) (by kernel_rfl) (fun _ _ _ h => h) (Or.inl ⟨by rfl, ?_⟩) (by assumption) ?_
          rotate_left
          · intro w hSw; (try dsimp only at hSw); go_simp; try with_reducible rfl
          (try simp only [Act.put, List.setIfInBounds_toArray, List.set_cons_zero, List.set_cons_succ])
          refine wpAnyH_take (i := 9) (oi := ⟨some 47, _, _, _, _, _⟩) (v := ?_) rfl (by kernel_rfl) (by kernel_rfl) (by kernel_rfl) (fun _ _ _ h => h) (Or.inl ⟨by rfl, ?_⟩) (by assumption) ?_
          rotate_left
          · intro w hSw; (try dsimp only at hSw); go_simp; try with_reducible rfl
          (try simp only [Act.put, List.setIfInBounds_toArray, List.set_cons_zero, List.set_cons_succ])
          refine wpAnyH_take (i := 10) (oi := ⟨some 48, _, _, _, _, _⟩) (v := ?_) rfl (by kernel_rfl) (by kernel_rfl) (by kernel_rfl) (fun _ _ _ h => h) (Or.inl ⟨by rfl, ?_⟩) (by assumption) ?_
          rotate_left
          · intro w hSw; (try dsimp only at hSw); go_simp; try with_reducible rfl
          (try simp only [Act.put, List.setIfInBounds_toArray, List.set_cons_zero, List.set_cons_succ])
          refine wpAnyH_ready (rs := [12]) (by kernel_rfl) (by simp) ?_
          refine (AllReadyH.cons (o := ⟨none, _, _, _, _, _⟩) rfl (fun K hK => ?_) AllReadyH.nil)
          refine ow_if (by rfl) ?_
          refine wl_storeA [] hCD rfl rfl rfl rfl (vs := tabC u9 (.slice a9 xs9.length c9) (.slice b9 u9.lives.length d9)) rfl rfl rfl ?_
          intro wS h4
          have hS : St w [] wS ([.blk g10 27 (tabC u9 (.slice a9 xs9.length c9) (.slice b9 u9.lives.length d9)), .blk g5 27 (tabC (fullT false j) (.slice a0 xs0.length c0) (.slice b0 (fullT false j).lives.length d0))] ++ P9) := h4
          clear h4
          refine q0_nil ?_
          refine hK.out _ _ ?_ (fun hHeld => ?_)
          · exact ldA (tabC (fullT false j) (.slice a0 xs0.length c0) (.slice b0 (fullT false j).lives.length d0)) [_] hS (rfl) (rfl)
          clear hK K
          (try simp only [Act.put, List.setIfInBounds_toArray, List.set_cons_zero, List.set_cons_succ])
          refine wpAnyH_take (i := 13) (oi := ⟨some 11, _, _, _, _, _⟩) (v := ?_) rfl (by kernel_rfl) (by kernel_rfl) (by kernel_rfl) (fun _ _ _ h => h) (Or.inl ⟨by rfl, ?_⟩) (by assumption) ?_
          rotate_left
          · intro w hSw; (try dsimp only at hSw); go_simp; try with_reducible rfl
          (try simp only [Act.put, List.setIfInBounds_toArray, List.set_cons_zero, List.set_cons_succ])
          refine wpAnyH_done (by kernel_rfl) ?_ _
          clear hHeld
          go_wp2_with (first | go_big_skip | go_big_guard | fail)
          go_roundw
          case rel => exact ⟨j + 1, HJ.out, rfl, _, _, _, _, P9, xs0, by rw [HNX.out]; exact HTB.out, by rw [HNX.out]; exact St.sub hS (.cons _ (List.Sublist.refl _))⟩
          case measure => have := HJ.out; simp [intOf]; omega
    · have e17 : j = 17 := by omega
      subst e17
      clear hlt hj
      obtain ⟨k, hk, hpk⟩ := pickI_nat (x := which) (n := 15) (by decide)
      obtain ⟨l1, b1⟩ := less_is false hk
      obtain ⟨l2, b2, lv, l3⟩ := back_is false hk
      have HFB := hid (bd_of (full_bds false ⟨17, by decide⟩))
      have HFL := hid (full_len false)
      have zk : IntKind.i64.wrap ((k : Int) + 1) = (k : Int) + 1 := IntWalk.i64_in _ (by omega)
      have n1 : (k : Int) + 1 ≤ 21 := by omega
      have n3 : 0 ≤ (k : Int) + 1 := by omega
      have n5 : (k : Int) ≤ (k : Int) + 1 := by omega
      have t1 : ((k : Int) + 1).toNat = k + 1 := by omega
      have HK17 := hid (show k < 17 by omega)
      have qk : ¬ 9223372036854775807 < 2 + (min (k + 1) 21 - k) := by omega
      generalize hU : lessU false k = uU at *
      generalize hV : backV false k = vV at *
      generalize hX : (growR false vV [122]).2 = xX at *
      have HL1 := hid (show opR (fullT false 17) (dropT (fullT false 17) (partN k)) = (0, uU) from l1)
      have HL2 := hid l2
      have HL3 := hid l3
      have HB1 := hid b1
      have HB2 := hid b2
      have HLV := hid lv
      have HPK := hid (show pickI which 15 = (k : Int) from hpk)
      clear l1 l2 l3 b1 b2 lv hpk hU hV hX hk
      go_wp2_with (first | go_big_skip | go_big_guard | (go_at_call 9; refine (pick_spec which 15 _ HWB.out (by decide)).mono ?_; rw [HPK.out]; rintro _ w9 ⟨rfl, h4⟩; have hP1 : St w [] w9 ([.blk g5 27 (tabC (fullT false 17) (.slice a0 xs0.length c0) (.slice b0 (fullT false 17).lives.length d0))] ++ P0) := St.call0 hst h4; clear h4 hst) | (refine wl_loadE rfl rfl rfl ?_; refine ⟨_, Loads.atA (tabC (fullT false 17) (.slice a0 xs0.length c0) (.slice b0 (fullT false 17).lives.length d0)) [] hP1 rfl rfl, ?_⟩) | (go_at_call 10; rw [letters_cut2 HK17.out]; refine (drop13_any (fullT false 17) a0 b0 xs0.length c0 (fullT false 17).lives.length d0 xs0 _ (HT0.out.tab hP1 HFB.out) (partN k) (by have := partN_len k; simp; omega)).mono ?_; rw [HL1.out]; intro e9 w9 hret; obtain ⟨a21, b21, c21, d21, P21, xs21, rfl, hin, hsub, h4⟩ := ret_pool (B := [.blk g5 27 (tabC (fullT false 17) (.slice a0 xs0.length c0) (.slice b0 (fullT false 17).lives.length d0))]) hP1 hret; have hS41 : St w [] w9 ([.blk g5 27 (tabC (fullT false 17) (.slice a0 xs0.length c0) (.slice b0 (fullT false 17).lives.length d0))] ++ P21) := h4; clear hret h4 hP1; replace HT0 := hid (HT0.out.mono hsub); have HT21 := hid hin; clear hin hsub) | (refine wl_alloc hS41 rfl rfl ?_; intro g13 w1 h4; have hS42 : St w [] w1 ([.blk g13 27 (tab0), .blk g5 27 (tabC (fullT false 17) (.slice a0 xs0.length c0) (.slice b0 (fullT false 17).lives.length d0))] ++ P21) := h4; clear h4 hS41) | (refine wl_storeA [] hS42 rfl rfl rfl rfl (vs := tabC uU (.slice a21 xs21.length c21) (.slice b21 uU.lives.length d21)) rfl rfl rfl ?_; intro w1 h4; have hS43 : St w [] w1 ([.blk g13 27 (tabC uU (.slice a21 xs21.length c21) (.slice b21 uU.lives.length d21)), .blk g5 27 (tabC (fullT false 17) (.slice a0 xs0.length c0) (.slice b0 (fullT false 17).lives.length d0))] ++ P21) := h4; clear h4 hS42) | (refine wl_loadE rfl rfl rfl ?_; refine ⟨_, Loads.atA (tabC uU (.slice a21 xs21.length c21) (.slice b21 uU.lives.length d21)) [] hS43 rfl rfl, ?_⟩) | (go_at_call 8; refine (grows13_any false uU a21 b21 xs21.length c21 uU.lives.length d21 xs21 _ (HT21.out.tab hS43 HB1.out) [117] (by decide)).mono ?_; rw [HL2.out]; intro e9 w9 hret; obtain ⟨a22, b22, c22, d22, P22, xs22, rfl, hin, hsub, h4⟩ := ret_pool (B := [.blk g13 27 (tabC uU (.slice a21 xs21.length c21) (.slice b21 uU.lives.length d21)), .blk g5 27 (tabC (fullT false 17) (.slice a0 xs0.length c0) (.slice b0 (fullT false 17).lives.length d0))]) hS43 hret; have hS44 : St w [] w9 ([.blk g13 27 (tabC uU (.slice a21 xs21.length c21) (.slice b21 uU.lives.length d21)), .blk g5 27 (tabC (fullT false 17) (.slice a0 xs0.length c0) (.slice b0 (fullT false 17).lives.length d0))] ++ P22) := h4; clear hret h4 hS43; replace HT0 := hid (HT0.out.mono hsub); replace HT21 := hid (HT21.out.mono hsub); have HT22 := hid hin; clear hin hsub) | (refine wl_alloc hS44 rfl rfl ?_; intro g15 w1 h4; have hS45 : St w [] w1 ([.blk g15 27 (tab0), .blk g13 27 (tabC uU (.slice a21 xs21.length c21) (.slice b21 uU.lives.length d21)), .blk g5 27 (tabC (fullT false 17) (.slice a0 xs0.length c0) (.slice b0 (fullT false 17).lives.length d0))] ++ P22) := h4; clear h4 hS44) | (refine wl_storeA [] hS45 rfl rfl rfl rfl (vs := tabC vV (.slice a22 xs22.length c22) (.slice b22 vV.lives.length d22)) rfl rfl rfl ?_; intro w1 h4; have hS46 : St w [] w1 ([.blk g15 27 (tabC vV (.slice a22 xs22.length c22) (.slice b22 vV.lives.length d22)), .blk g13 27 (tabC uU (.slice a21 xs21.length c21) (.slice b21 uU.lives.length d21)), .blk g5 27 (tabC (fullT false 17) (.slice a0 xs0.length c0) (.slice b0 (fullT false 17).lives.length d0))] ++ P22) := h4; clear h4 hS45) | (refine wl_loadE rfl rfl rfl ?_; refine ⟨_, Loads.atA (tabC vV (.slice a22 xs22.length c22) (.slice b22 vV.lives.length d22)) [] hS46 rfl rfl, ?_⟩) | (go_at_call 8; refine (grows13_any false vV a22 b22 xs22.length c22 vV.lives.length d22 xs22 _ (HT22.out.tab hS46 HB2.out) [122] (by decide)).mono ?_; rw [HL3.out]; intro e9 w9 hret; obtain ⟨a23, b23, c23, d23, P23, xs23, rfl, hin, hsub, h4⟩ := ret_pool (B := [.blk g15 27 (tabC vV (.slice a22 xs22.length c22) (.slice b22 vV.lives.length d22)), .blk g13 27 (tabC uU (.slice a21 xs21.length c21) (.slice b21 uU.lives.length d21)), .blk g5 27 (tabC (fullT false 17) (.slice a0 xs0.length c0) (.slice b0 (fullT false 17).lives.length d0))]) hS46 hret; have hS47 : St w [] w9 ([.blk g15 27 (tabC vV (.slice a22 xs22.length c22) (.slice b22 vV.lives.length d22)), .blk g13 27 (tabC uU (.slice a21 xs21.length c21) (.slice b21 uU.lives.length d21)), .blk g5 27 (tabC (fullT false 17) (.slice a0 xs0.length c0) (.slice b0 (fullT false 17).lives.length d0))] ++ P23) := h4; clear hret h4 hS46; replace HT0 := hid (HT0.out.mono hsub); replace HT21 := hid (HT21.out.mono hsub); replace HT22 := hid (HT22.out.mono hsub); have HT23 := hid hin; clear hin hsub) | (refine wl_alloc hS47 rfl rfl ?_; intro g17 w1 h4; have hS48 : St w [] w1 ([.blk g17 27 (tab0), .blk g15 27 (tabC vV (.slice a22 xs22.length c22) (.slice b22 vV.lives.length d22)), .blk g13 27 (tabC uU (.slice a21 xs21.length c21) (.slice b21 uU.lives.length d21)), .blk g5 27 (tabC (fullT false 17) (.slice a0 xs0.length c0) (.slice b0 (fullT false 17).lives.length d0))] ++ P23) := h4; clear h4 hS47) | (refine wl_storeA [] hS48 rfl rfl rfl rfl (vs := tabC xX (.slice a23 xs23.length c23) (.slice b23 xX.lives.length d23)) rfl rfl rfl ?_; intro w1 h4; have hS49 : St w [] w1 ([.blk g17 27 (tabC xX (.slice a23 xs23.length c23) (.slice b23 xX.lives.length d23)), .blk g15 27 (tabC vV (.slice a22 xs22.length c22) (.slice b22 vV.lives.length d22)), .blk g13 27 (tabC uU (.slice a21 xs21.length c21) (.slice b21 uU.lives.length d21)), .blk g5 27 (tabC (fullT false 17) (.slice a0 xs0.length c0) (.slice b0 (fullT false 17).lives.length d0))] ++ P23) := h4; clear h4 hS48))
      refine (awake13_any _).mono ?_
      rintro _ w9 ⟨rfl, h4⟩
      have hE : St w [] w9 ([.blk g17 27 (tabC xX (.slice a23 xs23.length c23) (.slice b23 xX.lives.length d23)), .blk g15 27 (tabC vV (.slice a22 xs22.length c22) (.slice b22 vV.lives.length d22)), .blk g13 27 (tabC uU (.slice a21 xs21.length c21) (.slice b21 uU.lives.length d21)), .blk g5 27 (tabC (fullT false 17) (.slice a0 xs0.length c0) (.slice b0 (fullT false 17).lives.length d0))] ++ P23) := St.call0 hS49 h4
      clear h4 hS49
      have q1 : ((xs0.length : Int) == 16) = true := len16 (HT0.out.ok.len.trans HFL.out)
      have q2 : ((xs22.length : Int) == 16) = true := len16 (HT22.out.ok.len.trans HLV.out)
      go_wp2_with (first | go_big_skip | go_big_guard | (refine wl_loadE rfl rfl rfl ?_; first | refine ⟨_, Loads.at [_, _, _] hE rfl, ?_⟩ | refine ⟨_, Loads.at [_] hE rfl, ?_⟩))
      go_ret
      exact ⟨rfl, hE.nil⟩
theorem full13_true (which : Int) (hw : -9223372036854775808 ≤ which ∧ which ≤ 9223372036854775807) (w : World) : Calls Try.prog 3 #[.bool true, .int .i64 which] w fun e w' => e = .returned (.bool true) ∧ St w [] w' [] := by
  obtain ⟨P0, hP0⟩ : ∃ P0 : List HA, P0 = [] := ⟨_, rfl⟩
  have hS0 : St w [] w ([] ++ P0) := by rw [hP0]; exact St.refl w
  clear hP0
  have HWB := hid hw
  clear hw
  go_enter Try.func3, Try.ntmps3
  go_wp2_with (first | go_big_skip | go_big_guard | (go_at_call 6; refine (new13_any 2 _).mono ?_; rw [tN_eq]; intro e9 w9 hret; obtain ⟨a1, b1, c1, d1, P1, xs1, rfl, hin, hsub, h4⟩ := ret_pool (B := []) hS0 hret; have hS1 : St w [] w9 ([] ++ P1) := h4; clear hret h4 hS0; have HT1 := hid hin; clear hin hsub) | (refine wl_alloc hS1 rfl rfl ?_; intro g5 w1 h4; have hS2 : St w [] w1 ([.blk g5 27 (tab0)] ++ P1) := h4; clear h4 hS1) | (refine wl_storeA [] hS2 rfl rfl rfl rfl (vs := tabC tN (.slice a1 xs1.length c1) (.slice b1 tN.lives.length d1)) rfl rfl rfl ?_; intro w1 h4; have hS3 : St w [] w1 ([.blk g5 27 (tabC tN (.slice a1 xs1.length c1) (.slice b1 tN.lives.length d1))] ++ P1) := h4; clear h4 hS2) | (refine wl_loadE rfl rfl rfl ?_; refine ⟨_, Loads.atA (tabC tN (.slice a1 xs1.length c1) (.slice b1 tN.lives.length d1)) [] hS3 rfl rfl, ?_⟩) | (go_at_call 7; refine (make13_any tN a1 b1 xs1.length c1 tN.lives.length d1 xs1 _ (HT1.out.tab hS3 tN_bd) [118] 1 1 (by decide)).mono ?_; rw [fV_eq]; intro e9 w9 hret; obtain ⟨a2, b2, c2, d2, P2, xs2, rfl, hin, hsub, h4⟩ := ret_pool (B := [.blk g5 27 (tabC tN (.slice a1 xs1.length c1) (.slice b1 tN.lives.length d1))]) hS3 hret; have hS4 : St w [] w9 ([.blk g5 27 (tabC tN (.slice a1 xs1.length c1) (.slice b1 tN.lives.length d1))] ++ P2) := h4; clear hret h4 hS3; replace HT1 := hid (HT1.out.mono hsub); have HT2 := hid hin; clear hin hsub) | (refine wl_storeA [] hS4 rfl rfl rfl rfl (vs := tabC fV (.slice a2 xs2.length c2) (.slice b2 fV.lives.length d2)) rfl rfl rfl ?_; intro w1 h4; have hS5 : St w [] w1 ([.blk g5 27 (tabC fV (.slice a2 xs2.length c2) (.slice b2 fV.lives.length d2))] ++ P2) := h4; clear h4 hS4))
  have HF0 := hid (show fullT true 0 = fV by unfold fullT; rfl)
  have hst : St w [] _ ([.blk g5 27 (tabC fV (.slice a2 xs2.length c2) (.slice b2 fV.lives.length d2))] ++ P2) := hS5
  clear hS5
  go_loopw [9] (fun i wr => ∃ j : Nat, j ≤ 17 ∧ i = .int .i64 (j : Int) ∧ ∃ (a0 b0 : Option Addr) (c0 d0 : Nat) (P0 : List HA) (xs0 : List (Value × RC)), InP P0 (fullT true j) a0 b0 c0 d0 xs0 ∧ St w [] wr ([.blk g5 27 (tabC (fullT true j) (.slice a0 xs0.length c0) (.slice b0 (fullT true j).lives.length d0))] ++ P0)) (fun i _ => 17 - (intOf i).toNat)
  case atStart => exact ⟨0, Nat.zero_le _, rfl, _, _, _, _, P2, xs2, by rw [HF0.out]; exact HT2.out, by rw [HF0.out]; exact hst⟩
  case round =>
    clear hst
    obtain ⟨j, hj, rfl, a0, b0, c0, d0, P0, xs0, hin, hst⟩ := hrel
    have HT0 := hid hin
    clear hin
    by_cases hlt : j < 17
    · have d0' : decide ((j : Int) < 17) = true := decide_eq_true (by omega)
      have z1 : IntKind.i64.wrap ((j : Int) + 1) = (j : Int) + 1 := IntWalk.i64_in _ (by omega)
      have n1 : (j : Int) + 1 ≤ 21 := by omega
      have n3 : 0 ≤ (j : Int) + 1 := by omega
      have n5 : (j : Int) ≤ (j : Int) + 1 := by omega
      have t1 : ((j : Int) + 1).toNat = j + 1 := by omega
      have HJ := hid hlt
      have HFB := hid (show (fullT true j).recs.length ≤ 1000000 ∧ (fullT true j).lives.length ≤ 1000000 from bd_of (full_bds true ⟨j, by omega⟩))
      obtain ⟨hgr, hnx⟩ := full_is true hlt
      obtain ⟨u9, hu⟩ : ∃ u, u = (growR true (fullT true j) (partN j)).2 := ⟨_, rfl⟩
      rw [← hu] at hgr hnx
      by_cases h15 : j < 15
      · have d15 : decide ((j : Int) < 15) = true := decide_eq_true (by omega)
        rw [if_pos h15] at hgr hnx
        have HGR := hid hgr
        have HNX := hid hnx
        clear hgr hnx hu h15 hlt
        go_wp2_with (first | go_big_skip | go_big_guard | fail)
        have hD := hst.drew
        clear hst
        refine wp_region_held_drew (S := (fun w' => (loadVarH 27 ⟨g5, 0, none⟩).run Try.prog w' = .ok (.agg (List.toArray (tabC (fullT true j) (.slice a0 xs0.length c0) (.slice b0 (fullT true j).lives.length d0)))) w')) (by kernel_rfl) (by exact ldA (tabC (fullT true j) (.slice a0 xs0.length c0) (.slice b0 (fullT true j).lives.length d0)) [] hD (rfl) (rfl)) (fun hHeld => ?_)
        refine wpAnyH_take (i := 0) (oi := ⟨some 39, _, _, _, _, _⟩) (v := ?_) rfl (by kernel_rfl) (by kernel_rfl) (by kernel_rfl) (fun _ _ _ h => h) (Or.inl ⟨by rfl, ?_⟩) (by assumption) ?_
        rotate_left
        · intro w hSw; (try dsimp only at hSw); go_simp; try with_reducible rfl
        (try simp only [Act.put, List.setIfInBounds_toArray, List.set_cons_zero, List.set_cons_succ])
        refine wpAnyH_take (i := 1) (oi := ⟨some 40, _, _, _, _, _⟩) (v := ?_) rfl (by kernel_rfl) (by kernel_rfl) (by kernel_rfl) (fun _ _ _ h => h) (Or.inl ⟨by rfl, ?_⟩) (by assumption) ?_
        rotate_left
        · intro w hSw; (try dsimp only at hSw); go_simp; try with_reducible rfl
        (try simp only [Act.put, List.setIfInBounds_toArray, List.set_cons_zero, List.set_cons_succ])
        refine wpAnyH_take (i := 2) (oi := ⟨some 41, _, _, _, _, _⟩) (v := ?_) rfl (by kernel_rfl) (by kernel_rfl) (by kernel_rfl) (fun _ _ _ h => h) (Or.inl ⟨by rfl, ?_⟩) (by assumption) ?_
        rotate_left
        · intro w hSw; (try dsimp only at hSw); go_simp; try with_reducible rfl
        (try simp only [Act.put, List.setIfInBounds_toArray, List.set_cons_zero, List.set_cons_succ])
        refine wpAnyH_take (i := 3) (oi := ⟨some 42, _, _, _, _, _⟩) (v := ?_) rfl (by kernel_rfl) (by kernel_rfl) (by kernel_rfl) (fun _ _ _ h => h) (Or.inl ⟨by rfl, ?_⟩) (by assumption) ?_
        rotate_left
        · intro w hSw; (try dsimp only at hSw); go_simp; try with_reducible rfl
        (try simp only [Act.put, List.setIfInBounds_toArray, List.set_cons_zero, List.set_cons_succ])
        refine wpAnyH_take (i := 4) (oi := ⟨some 43, _, _, _, _, _⟩) (v := ?_) rfl (by kernel_rfl) (by kernel_rfl) (by kernel_rfl) (fun _ _ _ h => h) (Or.inl ⟨by rfl, ?_⟩) (by assumption) ?_
        rotate_left
        · intro w hSw; (try dsimp only at hSw); go_simp; try with_reducible rfl
        (try simp only [Act.put, List.setIfInBounds_toArray, List.set_cons_zero, List.set_cons_succ])
        refine wpAnyH_take (i := 5) (oi := ⟨some 44, _, _, _, _, _⟩) (v := ?_) rfl (by kernel_rfl) (by kernel_rfl) (by kernel_rfl) (fun _ _ _ h => h) (Or.inl ⟨by rfl, ?_⟩) (by assumption) ?_
        rotate_left
        · intro w hSw; (try dsimp only at hSw); go_simp; try with_reducible rfl
        (try simp only [Act.put, List.setIfInBounds_toArray, List.set_cons_zero, List.set_cons_succ])
        refine wpAnyH_take (i := 6) (oi := ⟨some 45, _, _, _, _, _⟩) (v := ?_) rfl (by kernel_rfl) (by kernel_rfl) (by kernel_rfl) (fun _ _ _ h => h) (Or.inl ⟨by rfl, ?_⟩) (by assumption) ?_
        rotate_left
        · intro w hSw; (try dsimp only at hSw); go_simp; try with_reducible rfl
        (try simp only [Act.put, List.setIfInBounds_toArray, List.set_cons_zero, List.set_cons_succ])
        refine wpAnyH_ready (rs := [7, 11]) (by kernel_rfl) (by simp) ?_
        refine (AllReadyH.cons (o := ⟨some 46, _, _, _, _, _⟩) rfl (fun K hK => ?_) (AllReadyH.cons (o := ⟨some 10, _, _, _, _, _⟩) rfl (fun K hK => ?_) AllReadyH.nil))
        · rw [if_pos (by rfl)]
          go_simp
          rw [letters_cut2 HJ.out]
          go_at_call 8
          refine (grows13_any true (fullT true j) a0 b0 xs0.length c0 (fullT true j).lives.length d0 xs0 _ (HT0.out.tab (B := [.blk g5 27 (tabC (fullT true j) (.slice a0 xs0.length c0) (.slice b0 (fullT true j).lives.length d0))]) hD HFB.out) (partN j) (by have := partN_len j; omega)).mono ?_
          rw [HGR.out]
          intro e9 wC hret
          obtain ⟨a9, b9, c9, d9, P9, xs9, rfl, hin, hsub, h4⟩ := ret_pool (B := [.blk g5 27 (tabC (fullT true j) (.slice a0 xs0.length c0) (.slice b0 (fullT true j).lives.length d0))]) hD hret
          have hCD : St w [] wC ([.blk g5 27 (tabC (fullT true j) (.slice a0 xs0.length c0) (.slice b0 (fullT true j).lives.length d0))] ++ P9) := h4
          clear hret h4
          have HT9 := hid hin
          have HTB := hid (HT0.out.mono hsub)
          clear hin hsub
          refine hK.out _ _ ?_ (fun hHeld => ?_)
          · exact ldA (tabC (fullT true j) (.slice a0 xs0.length c0) (.slice b0 (fullT true j).lives.length d0)) [] hCD (rfl) (rfl)
          clear hK K
          (try simp only [Act.put, List.setIfInBounds_toArray, List.set_cons_zero, List.set_cons_succ])
          refine wpAnyH_take (i := 8) (oi := ⟨some 38, _, _, _, _, _⟩) (v := ?_) rfl (by kernel_rfl) (by kernel_rfl) (by kernel_rfl) (fun _ _ _ h => h) (Or.inl ⟨by rfl, ?_⟩) (by assumption) ?_
          rotate_left
          · intro w hSw; (try dsimp only at hSw); go_simp; try with_reducible rfl
          (try simp only [Act.put, List.setIfInBounds_toArray, List.set_cons_zero, List.set_cons_succ])
          refine wpAnyH_take (i := 9) (oi := ⟨some 47, _, _, _, _, _⟩) (v := ?_) rfl (by kernel_rfl) (by kernel_rfl) (by kernel_rfl) (fun _ _ _ h => h) (Or.inl ⟨by rfl, ?_⟩) (by assumption) ?_
          rotate_left
          · intro w hSw; (try dsimp only at hSw); go_simp; try with_reducible rfl
          (try simp only [Act.put, List.setIfInBounds_toArray, List.set_cons_zero, List.set_cons_succ])
          refine wpAnyH_take (i := 10) (oi := ⟨some 48, _, _, _, _, _⟩) (v := ?_) rfl (by kernel_rfl) (by kernel_rfl) (by kernel_rfl) (fun _ _ _ h => h) (Or.inl ⟨by rfl, ?_⟩) (by assumption) ?_
          rotate_left
          · intro w hSw; (try dsimp only at hSw); go_simp; try with_reducible rfl
          (try simp only [Act.put, List.setIfInBounds_toArray, List.set_cons_zero, List.set_cons_succ])
          refine wpAnyH_ready (rs := [11]) (by kernel_rfl) (by simp) ?_
          refine (AllReadyH.cons (o := ⟨some 10, _, _, _, _, _⟩) rfl (fun K hK => ?_) AllReadyH.nil)
          refine ow_if (by rfl) ?_
          refine wl_alloc hCD rfl rfl ?_
          intro g10 wA h4
          have hAD : St w [] wA ([.blk g10 27 tab0, .blk g5 27 (tabC (fullT true j) (.slice a0 xs0.length c0) (.slice b0 (fullT true j).lives.length d0))] ++ P9) := h4
          clear h4
          refine q0_nil ?_
          refine hK.out _ _ ?_ (fun hHeld => ?_)
          · exact ldA (tabC (fullT true j) (.slice a0 xs0.length c0) (.slice b0 (fullT true j).lives.length d0)) [_] hAD (rfl) (rfl)
          clear hK K
          (try simp only [Act.put, List.setIfInBounds_toArray, List.set_cons_zero, List.set_cons_succ])
          refine wpAnyH_ready (rs := [12]) (by kernel_rfl) (by simp) ?_
          refine (AllReadyH.cons (o := ⟨none, _, _, _, _, _⟩) rfl (fun K hK => ?_) AllReadyH.nil)
          refine ow_if (by rfl) ?_
          refine wl_storeA [] hAD rfl rfl rfl rfl (vs := tabC u9 (.slice a9 xs9.length c9) (.slice b9 u9.lives.length d9)) rfl rfl rfl ?_
          intro wS h4
          have hS : St w [] wS ([.blk g10 27 (tabC u9 (.slice a9 xs9.length c9) (.slice b9 u9.lives.length d9)), .blk g5 27 (tabC (fullT true j) (.slice a0 xs0.length c0) (.slice b0 (fullT true j).lives.length d0))] ++ P9) := h4
          clear h4
          refine q0_nil ?_
          refine hK.out _ _ ?_ (fun hHeld => ?_)
          · exact ldA (tabC (fullT true j) (.slice a0 xs0.length c0) (.slice b0 (fullT true j).lives.length d0)) [_] hS (rfl) (rfl)
          clear hK K
          (try simp only [Act.put, List.setIfInBounds_toArray, List.set_cons_zero, List.set_cons_succ])
          refine wpAnyH_take (i := 13) (oi := ⟨some 11, _, _, _, _, _⟩) (v := ?_) rfl (by kernel_rfl) (by kernel_rfl) (by kernel_rfl) (fun _ _ _ h => h) (Or.inl ⟨by rfl, ?_⟩) (by assumption) ?_
          rotate_left
          · intro w hSw; (try dsimp only at hSw); go_simp; try with_reducible rfl
          (try simp only [Act.put, List.setIfInBounds_toArray, List.set_cons_zero, List.set_cons_succ])
          refine wpAnyH_done (by kernel_rfl) ?_ _
          clear hHeld
          go_wp2_with (first | go_big_skip | go_big_guard | (refine wl_loadE rfl rfl rfl ?_; refine ⟨_, Loads.atA (tabC u9 (.slice a9 xs9.length c9) (.slice b9 u9.lives.length d9)) [] hS rfl rfl, ?_⟩) | (refine wl_storeA [_] hS rfl rfl rfl rfl (vs := tabC u9 (.slice a9 xs9.length c9) (.slice b9 u9.lives.length d9)) rfl rfl rfl ?_; intro w11 hS2))
          go_roundw
          case rel => exact ⟨j + 1, HJ.out, rfl, _, _, _, _, P9, xs9, by rw [HNX.out]; exact HT9.out, by rw [HNX.out]; exact St.sub hS2 (.cons _ (List.Sublist.refl _))⟩
          case measure => have := HJ.out; simp [intOf]; omega
        · refine ow_if (by rfl) ?_
          refine wl_alloc hD rfl rfl ?_
          intro g10 wA h4
          have hAD : St w [] wA ([.blk g10 27 tab0, .blk g5 27 (tabC (fullT true j) (.slice a0 xs0.length c0) (.slice b0 (fullT true j).lives.length d0))] ++ P0) := h4
          clear h4
          refine q0_nil ?_
          refine hK.out _ _ ?_ (fun hHeld => ?_)
          · exact ldA (tabC (fullT true j) (.slice a0 xs0.length c0) (.slice b0 (fullT true j).lives.length d0)) [_] hAD (rfl) (rfl)
          clear hK K
          (try simp only [Act.put, List.setIfInBounds_toArray, List.set_cons_zero, List.set_cons_succ])
          refine wpAnyH_ready (rs := [7]) (by kernel_rfl) (by simp) ?_
          refine (AllReadyH.cons (o := ⟨some 46, _, _, _, _, _⟩) rfl (fun K hK => ?_) AllReadyH.nil)
          rw [if_pos (by rfl)]
          go_simp
          rw [letters_cut2 HJ.out]
          go_at_call 8
          refine (grows13_any true (fullT true j) a0 b0 xs0.length c0 (fullT true j).lives.length d0 xs0 _ (HT0.out.tab (B := [.blk g10 27 tab0, .blk g5 27 (tabC (fullT true j) (.slice a0 xs0.length c0) (.slice b0 (fullT true j).lives.length d0))]) hAD HFB.out) (partN j) (by have := partN_len j; omega)).mono ?_
          rw [HGR.out]
          intro e9 wC hret
          obtain ⟨a9, b9, c9, d9, P9, xs9, rfl, hin, hsub, h4⟩ := ret_pool (B := [.blk g10 27 tab0, .blk g5 27 (tabC (fullT true j) (.slice a0 xs0.length c0) (.slice b0 (fullT true j).lives.length d0))]) hAD hret
          have hCD : St w [] wC ([.blk g10 27 tab0, .blk g5 27 (tabC (fullT true j) (.slice a0 xs0.length c0) (.slice b0 (fullT true j).lives.length d0))] ++ P9) := h4
          clear hret h4
          have HT9 := hid hin
          have HTB := hid (HT0.out.mono hsub)
          clear hin hsub
          refine hK.out _ _ ?_ (fun hHeld => ?_)
          · exact ldA (tabC (fullT true j) (.slice a0 xs0.length c0) (.slice b0 (fullT true j).lives.length d0)) [_] hCD (rfl) (rfl)
          clear hK K
          (try simp only [Act.put, List.setIfInBounds_toArray, List.set_cons_zero, List.set_cons_succ])
          refine wpAnyH_take (i := 8) (oi := ⟨some 38, _, _, _, _, _⟩) (v := ?_) rfl (by kernel_rfl) (by kernel_rfl) (by kernel_rfl) (fun _ _ _ h => h) (Or.inl ⟨by rfl, ?_⟩) (by assumption) ?_
          rotate_left
          · intro w hSw; (try dsimp only at hSw); go_simp; try with_reducible rfl
          (try simp only [Act.put, List.setIfInBounds_toArray, List.set_cons_zero, List.set_cons_succ])
          refine wpAnyH_take (i := 9) (oi := ⟨some 47, _, _, _, _, _⟩) (v := ?_) rfl (by kernel_rfl) (by kernel_rfl) (by kernel_rfl) (fun _ _ _ h => h) (Or.inl ⟨by rfl, ?_⟩) (by assumption) ?_
          rotate_left
          · intro w hSw; (try dsimp only at hSw); go_simp; try with_reducible rfl
          (try simp only [Act.put, List.setIfInBounds_toArray, List.set_cons_zero, List.set_cons_succ])
          refine wpAnyH_take (i := 10) (oi := ⟨some 48, _, _, _, _, _⟩) (v := ?_) rfl (by kernel_rfl) (by kernel_rfl) (by kernel_rfl) (fun _ _ _ h => h) (Or.inl ⟨by rfl, ?_⟩) (by assumption) ?_
          rotate_left
          · intro w hSw; (try dsimp only at hSw); go_simp; try with_reducible rfl
          (try simp only [Act.put, List.setIfInBounds_toArray, List.set_cons_zero, List.set_cons_succ])
          refine wpAnyH_ready (rs := [12]) (by kernel_rfl) (by simp) ?_
          refine (AllReadyH.cons (o := ⟨none, _, _, _, _, _⟩) rfl (fun K hK => ?_) AllReadyH.nil)
          refine ow_if (by rfl) ?_
          refine wl_storeA [] hCD rfl rfl rfl rfl (vs := tabC u9 (.slice a9 xs9.length c9) (.slice b9 u9.lives.length d9)) rfl rfl rfl ?_
          intro wS h4
          have hS : St w [] wS ([.blk g10 27 (tabC u9 (.slice a9 xs9.length c9) (.slice b9 u9.lives.length d9)), .blk g5 27 (tabC (fullT true j) (.slice a0 xs0.length c0) (.slice b0 (fullT true j).lives.length d0))] ++ P9) := h4
          clear h4
          refine q0_nil ?_
          refine hK.out _ _ ?_ (fun hHeld => ?_)
          · exact ldA (tabC (fullT true j) (.slice a0 xs0.length c0) (.slice b0 (fullT true j).lives.length d0)) [_] hS (rfl) (rfl)
          clear hK K
          (try simp only [Act.put, List.setIfInBounds_toArray, List.set_cons_zero, List.set_cons_succ])
          refine wpAnyH_take (i := 13) (oi := ⟨some 11, _, _, _, _, _⟩) (v := ?_) rfl (by kernel_rfl) (by kernel_rfl) (by kernel_rfl) (fun _ _ _ h => h) (Or.inl ⟨by rfl, ?_⟩) (by assumption) ?_
          rotate_left
          · intro w hSw; (try dsimp only at hSw); go_simp; try with_reducible rfl
          (try simp only [Act.put, List.setIfInBounds_toArray, List.set_cons_zero, List.set_cons_succ])
          refine wpAnyH_done (by kernel_rfl) ?_ _
          clear hHeld
          go_wp2_with (first | go_big_skip | go_big_guard | (refine wl_loadE rfl rfl rfl ?_; refine ⟨_, Loads.atA (tabC u9 (.slice a9 xs9.length c9) (.slice b9 u9.lives.length d9)) [] hS rfl rfl, ?_⟩) | (refine wl_storeA [_] hS rfl rfl rfl rfl (vs := tabC u9 (.slice a9 xs9.length c9) (.slice b9 u9.lives.length d9)) rfl rfl rfl ?_; intro w11 hS2))
          go_roundw
          case rel => exact ⟨j + 1, HJ.out, rfl, _, _, _, _, P9, xs9, by rw [HNX.out]; exact HT9.out, by rw [HNX.out]; exact St.sub hS2 (.cons _ (List.Sublist.refl _))⟩
          case measure => have := HJ.out; simp [intOf]; omega
      · have d15 : decide ((j : Int) < 15) = false := decide_eq_false (by omega)
        rw [if_neg h15] at hgr hnx
        have HGR := hid hgr
        have HNX := hid hnx
        clear hgr hnx hu h15 hlt
        go_wp2_with (first | go_big_skip | go_big_guard | fail)
        have hD := hst.drew
        clear hst
        refine wp_region_held_drew (S := (fun w' => (loadVarH 27 ⟨g5, 0, none⟩).run Try.prog w' = .ok (.agg (List.toArray (tabC (fullT true j) (.slice a0 xs0.length c0) (.slice b0 (fullT true j).lives.length d0)))) w')) (by kernel_rfl) (by exact ldA (tabC (fullT true j) (.slice a0 xs0.length c0) (.slice b0 (fullT true j).lives.length d0)) [] hD (rfl) (rfl)) (fun hHeld => ?_)
        refine wpAnyH_take (i := 0) (oi := ⟨some 39, _, _, _, _, _⟩) (v := ?_) rfl (by kernel_rfl) (by kernel_rfl) (by kernel_rfl) (fun _ _ _ h => h) (Or.inl ⟨by rfl, ?_⟩) (by assumption) ?_
        rotate_left
        · intro w hSw; (try dsimp only at hSw); go_simp; try with_reducible rfl
        (try simp only [Act.put, List.setIfInBounds_toArray, List.set_cons_zero, List.set_cons_succ])
        refine wpAnyH_take (i := 1) (oi := ⟨some 40, _, _, _, _, _⟩) (v := ?_) rfl (by kernel_rfl) (by kernel_rfl) (by kernel_rfl) (fun _ _ _ h => h) (Or.inl ⟨by rfl, ?_⟩) (by assumption) ?_
        rotate_left
        · intro w hSw; (try dsimp only at hSw); go_simp; try with_reducible rfl
        (try simp only [Act.put, List.setIfInBounds_toArray, List.set_cons_zero, List.set_cons_succ])
        refine wpAnyH_take (i := 2) (oi := ⟨some 41, _, _, _, _, _⟩) (v := ?_) rfl (by kernel_rfl) (by kernel_rfl) (by kernel_rfl) (fun _ _ _ h => h) (Or.inl ⟨by rfl, ?_⟩) (by assumption) ?_
        rotate_left
        · intro w hSw; (try dsimp only at hSw); go_simp; try with_reducible rfl
        (try simp only [Act.put, List.setIfInBounds_toArray, List.set_cons_zero, List.set_cons_succ])
        refine wpAnyH_take (i := 3) (oi := ⟨some 42, _, _, _, _, _⟩) (v := ?_) rfl (by kernel_rfl) (by kernel_rfl) (by kernel_rfl) (fun _ _ _ h => h) (Or.inl ⟨by rfl, ?_⟩) (by assumption) ?_
        rotate_left
        · intro w hSw; (try dsimp only at hSw); go_simp; try with_reducible rfl
        (try simp only [Act.put, List.setIfInBounds_toArray, List.set_cons_zero, List.set_cons_succ])
        refine wpAnyH_take (i := 4) (oi := ⟨some 43, _, _, _, _, _⟩) (v := ?_) rfl (by kernel_rfl) (by kernel_rfl) (by kernel_rfl) (fun _ _ _ h => h) (Or.inl ⟨by rfl, ?_⟩) (by assumption) ?_
        rotate_left
        · intro w hSw; (try dsimp only at hSw); go_simp; try with_reducible rfl
        (try simp only [Act.put, List.setIfInBounds_toArray, List.set_cons_zero, List.set_cons_succ])
        refine wpAnyH_take (i := 5) (oi := ⟨some 44, _, _, _, _, _⟩) (v := ?_) rfl (by kernel_rfl) (by kernel_rfl) (by kernel_rfl) (fun _ _ _ h => h) (Or.inl ⟨by rfl, ?_⟩) (by assumption) ?_
        rotate_left
        · intro w hSw; (try dsimp only at hSw); go_simp; try with_reducible rfl
        (try simp only [Act.put, List.setIfInBounds_toArray, List.set_cons_zero, List.set_cons_succ])
        refine wpAnyH_take (i := 6) (oi := ⟨some 45, _, _, _, _, _⟩) (v := ?_) rfl (by kernel_rfl) (by kernel_rfl) (by kernel_rfl) (fun _ _ _ h => h) (Or.inl ⟨by rfl, ?_⟩) (by assumption) ?_
        rotate_left
        · intro w hSw; (try dsimp only at hSw); go_simp; try with_reducible rfl
        (try simp only [Act.put, List.setIfInBounds_toArray, List.set_cons_zero, List.set_cons_succ])
        refine wpAnyH_ready (rs := [7, 11]) (by kernel_rfl) (by simp) ?_
        refine (AllReadyH.cons (o := ⟨some 46, _, _, _, _, _⟩) rfl (fun K hK => ?_) (AllReadyH.cons (o := ⟨some 10, _, _, _, _, _⟩) rfl (fun K hK => ?_) AllReadyH.nil))
        · rw [if_pos (by rfl)]
          go_simp
          rw [letters_cut2 HJ.out]
          go_at_call 8
          refine (grows13_any true (fullT true j) a0 b0 xs0.length c0 (fullT true j).lives.length d0 xs0 _ (HT0.out.tab (B := [.blk g5 27 (tabC (fullT true j) (.slice a0 xs0.length c0) (.slice b0 (fullT true j).lives.length d0))]) hD HFB.out) (partN j) (by have := partN_len j; omega)).mono ?_
          rw [HGR.out]
          intro e9 wC hret
          obtain ⟨a9, b9, c9, d9, P9, xs9, rfl, hin, hsub, h4⟩ := ret_pool (B := [.blk g5 27 (tabC (fullT true j) (.slice a0 xs0.length c0) (.slice b0 (fullT true j).lives.length d0))]) hD hret
          have hCD : St w [] wC ([.blk g5 27 (tabC (fullT true j) (.slice a0 xs0.length c0) (.slice b0 (fullT true j).lives.length d0))] ++ P9) := h4
          clear hret h4
          have HT9 := hid hin
          have HTB := hid (HT0.out.mono hsub)
          clear hin hsub
          refine hK.out _ _ ?_ (fun hHeld => ?_)
          · exact ldA (tabC (fullT true j) (.slice a0 xs0.length c0) (.slice b0 (fullT true j).lives.length d0)) [] hCD (rfl) (rfl)
          clear hK K
          (try simp only [Act.put, List.setIfInBounds_toArray, List.set_cons_zero, List.set_cons_succ])
          refine wpAnyH_take (i := 8) (oi := ⟨some 38, _, _, _, _, _⟩) (v := ?_) rfl (by kernel_rfl) (by kernel_rfl) (by kernel_rfl) (fun _ _ _ h => h) (Or.inl ⟨by rfl, ?_⟩) (by assumption) ?_
          rotate_left
          · intro w hSw; (try dsimp only at hSw); go_simp; try with_reducible rfl
          (try simp only [Act.put, List.setIfInBounds_toArray, List.set_cons_zero, List.set_cons_succ])
          refine wpAnyH_take (i := 9) (oi := ⟨some 47, _, _, _, _, _⟩) (v := ?_) rfl (by kernel_rfl) (by kernel_rfl) (by kernel_rfl) (fun _ _ _ h => h) (Or.inl ⟨by rfl, ?_⟩) (by assumption) ?_
          rotate_left
          · intro w hSw; (try dsimp only at hSw); go_simp; try with_reducible rfl
          (try simp only [Act.put, List.setIfInBounds_toArray, List.set_cons_zero, List.set_cons_succ])
          refine wpAnyH_take (i := 10) (oi := ⟨some 48, _, _, _, _, _⟩) (v := ?_) rfl (by kernel_rfl) (by kernel_rfl) (by kernel_rfl) (fun _ _ _ h => h) (Or.inl ⟨by rfl, ?_⟩) (by assumption) ?_
          rotate_left
          · intro w hSw; (try dsimp only at hSw); go_simp; try with_reducible rfl
          (try simp only [Act.put, List.setIfInBounds_toArray, List.set_cons_zero, List.set_cons_succ])
          refine wpAnyH_ready (rs := [11]) (by kernel_rfl) (by simp) ?_
          refine (AllReadyH.cons (o := ⟨some 10, _, _, _, _, _⟩) rfl (fun K hK => ?_) AllReadyH.nil)
          refine ow_if (by rfl) ?_
          refine wl_alloc hCD rfl rfl ?_
          intro g10 wA h4
          have hAD : St w [] wA ([.blk g10 27 tab0, .blk g5 27 (tabC (fullT true j) (.slice a0 xs0.length c0) (.slice b0 (fullT true j).lives.length d0))] ++ P9) := h4
          clear h4
          refine q0_nil ?_
          refine hK.out _ _ ?_ (fun hHeld => ?_)
          · exact ldA (tabC (fullT true j) (.slice a0 xs0.length c0) (.slice b0 (fullT true j).lives.length d0)) [_] hAD (rfl) (rfl)
          clear hK K
          (try simp only [Act.put, List.setIfInBounds_toArray, List.set_cons_zero, List.set_cons_succ])
          refine wpAnyH_ready (rs := [12]) (by kernel_rfl) (by simp) ?_
          refine (AllReadyH.cons (o := ⟨none, _, _, _, _, _⟩) rfl (fun K hK => ?_) AllReadyH.nil)
          refine ow_if (by rfl) ?_
          refine wl_storeA [] hAD rfl rfl rfl rfl (vs := tabC u9 (.slice a9 xs9.length c9) (.slice b9 u9.lives.length d9)) rfl rfl rfl ?_
          intro wS h4
          have hS : St w [] wS ([.blk g10 27 (tabC u9 (.slice a9 xs9.length c9) (.slice b9 u9.lives.length d9)), .blk g5 27 (tabC (fullT true j) (.slice a0 xs0.length c0) (.slice b0 (fullT true j).lives.length d0))] ++ P9) := h4
          clear h4
          refine q0_nil ?_
          refine hK.out _ _ ?_ (fun hHeld => ?_)
          · exact ldA (tabC (fullT true j) (.slice a0 xs0.length c0) (.slice b0 (fullT true j).lives.length d0)) [_] hS (rfl) (rfl)
          clear hK K
          (try simp only [Act.put, List.setIfInBounds_toArray, List.set_cons_zero, List.set_cons_succ])
          refine wpAnyH_take (i := 13) (oi := ⟨some 11, _, _, _, _, _⟩) (v := ?_) rfl (by kernel_rfl) (by kernel_rfl) (by kernel_rfl) (fun _ _ _ h => h) (Or.inl ⟨by rfl, ?_⟩) (by assumption) ?_
          rotate_left
          · intro w hSw; (try dsimp only at hSw); go_simp; try with_reducible rfl
          (try simp only [Act.put, List.setIfInBounds_toArray, List.set_cons_zero, List.set_cons_succ])
          refine wpAnyH_done (by kernel_rfl) ?_ _
          clear hHeld
          go_wp2_with (first | go_big_skip | go_big_guard | fail)
          go_roundw
          case rel => exact ⟨j + 1, HJ.out, rfl, _, _, _, _, P9, xs0, by rw [HNX.out]; exact HTB.out, by rw [HNX.out]; exact St.sub hS (.cons _ (List.Sublist.refl _))⟩
          case measure => have := HJ.out; simp [intOf]; omega
        · refine ow_if (by rfl) ?_
          refine wl_alloc hD rfl rfl ?_
          intro g10 wA h4
          have hAD : St w [] wA ([.blk g10 27 tab0, .blk g5 27 (tabC (fullT true j) (.slice a0 xs0.length c0) (.slice b0 (fullT true j).lives.length d0))] ++ P0) := h4
          clear h4
          refine q0_nil ?_
          refine hK.out _ _ ?_ (fun hHeld => ?_)
          · exact ldA (tabC (fullT true j) (.slice a0 xs0.length c0) (.slice b0 (fullT true j).lives.length d0)) [_] hAD (rfl) (rfl)
          clear hK K
          (try simp only [Act.put, List.setIfInBounds_toArray, List.set_cons_zero, List.set_cons_succ])
          refine wpAnyH_ready (rs := [7]) (by kernel_rfl) (by simp) ?_
          refine (AllReadyH.cons (o := ⟨some 46, _, _, _, _, _⟩) rfl (fun K hK => ?_) AllReadyH.nil)
          rw [if_pos (by rfl)]
          go_simp
          rw [letters_cut2 HJ.out]
          go_at_call 8
          refine (grows13_any true (fullT true j) a0 b0 xs0.length c0 (fullT true j).lives.length d0 xs0 _ (HT0.out.tab (B := [.blk g10 27 tab0, .blk g5 27 (tabC (fullT true j) (.slice a0 xs0.length c0) (.slice b0 (fullT true j).lives.length d0))]) hAD HFB.out) (partN j) (by have := partN_len j; omega)).mono ?_
          rw [HGR.out]
          intro e9 wC hret
          obtain ⟨a9, b9, c9, d9, P9, xs9, rfl, hin, hsub, h4⟩ := ret_pool (B := [.blk g10 27 tab0, .blk g5 27 (tabC (fullT true j) (.slice a0 xs0.length c0) (.slice b0 (fullT true j).lives.length d0))]) hAD hret
          have hCD : St w [] wC ([.blk g10 27 tab0, .blk g5 27 (tabC (fullT true j) (.slice a0 xs0.length c0) (.slice b0 (fullT true j).lives.length d0))] ++ P9) := h4
          clear hret h4
          have HT9 := hid hin
          have HTB := hid (HT0.out.mono hsub)
          clear hin hsub
          refine hK.out _ _ ?_ (fun hHeld => ?_)
          · exact ldA (tabC (fullT true j) (.slice a0 xs0.length c0) (.slice b0 (fullT true j).lives.length d0)) [_] hCD (rfl) (rfl)
          clear hK K
          (try simp only [Act.put, List.setIfInBounds_toArray, List.set_cons_zero, List.set_cons_succ])
          refine wpAnyH_take (i := 8) (oi := ⟨some 38, _, _, _, _, _⟩) (v := ?_) rfl (by kernel_rfl) (by kernel_rfl) (by kernel_rfl) (fun _ _ _ h => h) (Or.inl ⟨by rfl, ?_⟩) (by assumption) ?_
          rotate_left
          · intro w hSw; (try dsimp only at hSw); go_simp; try with_reducible rfl
          (try simp only [Act.put, List.setIfInBounds_toArray, List.set_cons_zero, List.set_cons_succ])
          refine wpAnyH_take (i := 9) (oi := ⟨some 47, _, _, _, _, _⟩) (v := ?_) rfl (by kernel_rfl) (by kernel_rfl) (by kernel_rfl) (fun _ _ _ h => h) (Or.inl ⟨by rfl, ?_⟩) (by assumption) ?_
          rotate_left
          · intro w hSw; (try dsimp only at hSw); go_simp; try with_reducible rfl
          (try simp only [Act.put, List.setIfInBounds_toArray, List.set_cons_zero, List.set_cons_succ])
          refine wpAnyH_take (i := 10) (oi := ⟨some 48, _, _, _, _, _⟩) (v := ?_) rfl (by kernel_rfl) (by kernel_rfl) (by kernel_rfl) (fun _ _ _ h => h) (Or.inl ⟨by rfl, ?_⟩) (by assumption) ?_
          rotate_left
          · intro w hSw; (try dsimp only at hSw); go_simp; try with_reducible rfl
          (try simp only [Act.put, List.setIfInBounds_toArray, List.set_cons_zero, List.set_cons_succ])
          refine wpAnyH_ready (rs := [12]) (by kernel_rfl) (by simp) ?_
          refine (AllReadyH.cons (o := ⟨none, _, _, _, _, _⟩) rfl (fun K hK => ?_) AllReadyH.nil)
          refine ow_if (by rfl) ?_
          refine wl_storeA [] hCD rfl rfl rfl rfl (vs := tabC u9 (.slice a9 xs9.length c9) (.slice b9 u9.lives.length d9)) rfl rfl rfl ?_
          intro wS h4
          have hS : St w [] wS ([.blk g10 27 (tabC u9 (.slice a9 xs9.length c9) (.slice b9 u9.lives.length d9)), .blk g5 27 (tabC (fullT true j) (.slice a0 xs0.length c0) (.slice b0 (fullT true j).lives.length d0))] ++ P9) := h4
          clear h4
          refine q0_nil ?_
          refine hK.out _ _ ?_ (fun hHeld => ?_)
          · exact ldA (tabC (fullT true j) (.slice a0 xs0.length c0) (.slice b0 (fullT true j).lives.length d0)) [_] hS (rfl) (rfl)
          clear hK K
          (try simp only [Act.put, List.setIfInBounds_toArray, List.set_cons_zero, List.set_cons_succ])
          refine wpAnyH_take (i := 13) (oi := ⟨some 11, _, _, _, _, _⟩) (v := ?_) rfl (by kernel_rfl) (by kernel_rfl) (by kernel_rfl) (fun _ _ _ h => h) (Or.inl ⟨by rfl, ?_⟩) (by assumption) ?_
          rotate_left
          · intro w hSw; (try dsimp only at hSw); go_simp; try with_reducible rfl
          (try simp only [Act.put, List.setIfInBounds_toArray, List.set_cons_zero, List.set_cons_succ])
          refine wpAnyH_done (by kernel_rfl) ?_ _
          clear hHeld
          go_wp2_with (first | go_big_skip | go_big_guard | fail)
          go_roundw
          case rel => exact ⟨j + 1, HJ.out, rfl, _, _, _, _, P9, xs0, by rw [HNX.out]; exact HTB.out, by rw [HNX.out]; exact St.sub hS (.cons _ (List.Sublist.refl _))⟩
          case measure => have := HJ.out; simp [intOf]; omega
    · have e17 : j = 17 := by omega
      subst e17
      clear hlt hj
      obtain ⟨k, hk, hpk⟩ := pickI_nat (x := which) (n := 15) (by decide)
      obtain ⟨l1, b1⟩ := less_is true hk
      obtain ⟨l2, b2, lv, l3⟩ := back_is true hk
      have HFB := hid (bd_of (full_bds true ⟨17, by decide⟩))
      have HFL := hid (full_len true)
      have zk : IntKind.i64.wrap ((k : Int) + 1) = (k : Int) + 1 := IntWalk.i64_in _ (by omega)
      have n1 : (k : Int) + 1 ≤ 21 := by omega
      have n3 : 0 ≤ (k : Int) + 1 := by omega
      have n5 : (k : Int) ≤ (k : Int) + 1 := by omega
      have t1 : ((k : Int) + 1).toNat = k + 1 := by omega
      have HK17 := hid (show k < 17 by omega)
      have qk : ¬ 9223372036854775807 < 2 + (min (k + 1) 21 - k) := by omega
      generalize hU : lessU true k = uU at *
      generalize hV : backV true k = vV at *
      generalize hX : (growR true vV [122]).2 = xX at *
      have HL1 := hid (show opR (fullT true 17) (dropT (fullT true 17) ([118, 64] ++ partN k)) = (0, uU) from l1)
      have HL2 := hid l2
      have HL3 := hid l3
      have HB1 := hid b1
      have HB2 := hid b2
      have HLV := hid lv
      have HPK := hid (show pickI which 15 = (k : Int) from hpk)
      clear l1 l2 l3 b1 b2 lv hpk hU hV hX hk
      go_wp2_with (first | go_big_skip | go_big_guard | (go_at_call 9; refine (pick_spec which 15 _ HWB.out (by decide)).mono ?_; rw [HPK.out]; rintro _ w9 ⟨rfl, h4⟩; have hP1 : St w [] w9 ([.blk g5 27 (tabC (fullT true 17) (.slice a0 xs0.length c0) (.slice b0 (fullT true 17).lives.length d0))] ++ P0) := St.call0 hst h4; clear h4 hst) | (refine wl_loadE rfl rfl rfl ?_; refine ⟨_, Loads.atA (tabC (fullT true 17) (.slice a0 xs0.length c0) (.slice b0 (fullT true 17).lives.length d0)) [] hP1 rfl rfl, ?_⟩) | (go_at_call 10; rw [letters_cut2 HK17.out]; rw [show (⟨#[118, 64]⟩ : ByteArray) ++ ⟨(partN k).toArray⟩ = ⟨([118, 64] ++ partN k).toArray⟩ from append_l [118, 64] (partN k)]; refine (drop13_any (fullT true 17) a0 b0 xs0.length c0 (fullT true 17).lives.length d0 xs0 _ (HT0.out.tab hP1 HFB.out) ([118, 64] ++ partN k) (by have := partN_len k; simp; omega)).mono ?_; rw [HL1.out]; intro e9 w9 hret; obtain ⟨a21, b21, c21, d21, P21, xs21, rfl, hin, hsub, h4⟩ := ret_pool (B := [.blk g5 27 (tabC (fullT true 17) (.slice a0 xs0.length c0) (.slice b0 (fullT true 17).lives.length d0))]) hP1 hret; have hS41 : St w [] w9 ([.blk g5 27 (tabC (fullT true 17) (.slice a0 xs0.length c0) (.slice b0 (fullT true 17).lives.length d0))] ++ P21) := h4; clear hret h4 hP1; replace HT0 := hid (HT0.out.mono hsub); have HT21 := hid hin; clear hin hsub) | (refine wl_alloc hS41 rfl rfl ?_; intro g13 w1 h4; have hS42 : St w [] w1 ([.blk g13 27 (tab0), .blk g5 27 (tabC (fullT true 17) (.slice a0 xs0.length c0) (.slice b0 (fullT true 17).lives.length d0))] ++ P21) := h4; clear h4 hS41) | (refine wl_storeA [] hS42 rfl rfl rfl rfl (vs := tabC uU (.slice a21 xs21.length c21) (.slice b21 uU.lives.length d21)) rfl rfl rfl ?_; intro w1 h4; have hS43 : St w [] w1 ([.blk g13 27 (tabC uU (.slice a21 xs21.length c21) (.slice b21 uU.lives.length d21)), .blk g5 27 (tabC (fullT true 17) (.slice a0 xs0.length c0) (.slice b0 (fullT true 17).lives.length d0))] ++ P21) := h4; clear h4 hS42) | (refine wl_loadE rfl rfl rfl ?_; refine ⟨_, Loads.atA (tabC uU (.slice a21 xs21.length c21) (.slice b21 uU.lives.length d21)) [] hS43 rfl rfl, ?_⟩) | (go_at_call 8; refine (grows13_any true uU a21 b21 xs21.length c21 uU.lives.length d21 xs21 _ (HT21.out.tab hS43 HB1.out) [117] (by decide)).mono ?_; rw [HL2.out]; intro e9 w9 hret; obtain ⟨a22, b22, c22, d22, P22, xs22, rfl, hin, hsub, h4⟩ := ret_pool (B := [.blk g13 27 (tabC uU (.slice a21 xs21.length c21) (.slice b21 uU.lives.length d21)), .blk g5 27 (tabC (fullT true 17) (.slice a0 xs0.length c0) (.slice b0 (fullT true 17).lives.length d0))]) hS43 hret; have hS44 : St w [] w9 ([.blk g13 27 (tabC uU (.slice a21 xs21.length c21) (.slice b21 uU.lives.length d21)), .blk g5 27 (tabC (fullT true 17) (.slice a0 xs0.length c0) (.slice b0 (fullT true 17).lives.length d0))] ++ P22) := h4; clear hret h4 hS43; replace HT0 := hid (HT0.out.mono hsub); replace HT21 := hid (HT21.out.mono hsub); have HT22 := hid hin; clear hin hsub) | (refine wl_alloc hS44 rfl rfl ?_; intro g15 w1 h4; have hS45 : St w [] w1 ([.blk g15 27 (tab0), .blk g13 27 (tabC uU (.slice a21 xs21.length c21) (.slice b21 uU.lives.length d21)), .blk g5 27 (tabC (fullT true 17) (.slice a0 xs0.length c0) (.slice b0 (fullT true 17).lives.length d0))] ++ P22) := h4; clear h4 hS44) | (refine wl_storeA [] hS45 rfl rfl rfl rfl (vs := tabC vV (.slice a22 xs22.length c22) (.slice b22 vV.lives.length d22)) rfl rfl rfl ?_; intro w1 h4; have hS46 : St w [] w1 ([.blk g15 27 (tabC vV (.slice a22 xs22.length c22) (.slice b22 vV.lives.length d22)), .blk g13 27 (tabC uU (.slice a21 xs21.length c21) (.slice b21 uU.lives.length d21)), .blk g5 27 (tabC (fullT true 17) (.slice a0 xs0.length c0) (.slice b0 (fullT true 17).lives.length d0))] ++ P22) := h4; clear h4 hS45) | (refine wl_loadE rfl rfl rfl ?_; refine ⟨_, Loads.atA (tabC vV (.slice a22 xs22.length c22) (.slice b22 vV.lives.length d22)) [] hS46 rfl rfl, ?_⟩) | (go_at_call 8; refine (grows13_any true vV a22 b22 xs22.length c22 vV.lives.length d22 xs22 _ (HT22.out.tab hS46 HB2.out) [122] (by decide)).mono ?_; rw [HL3.out]; intro e9 w9 hret; obtain ⟨a23, b23, c23, d23, P23, xs23, rfl, hin, hsub, h4⟩ := ret_pool (B := [.blk g15 27 (tabC vV (.slice a22 xs22.length c22) (.slice b22 vV.lives.length d22)), .blk g13 27 (tabC uU (.slice a21 xs21.length c21) (.slice b21 uU.lives.length d21)), .blk g5 27 (tabC (fullT true 17) (.slice a0 xs0.length c0) (.slice b0 (fullT true 17).lives.length d0))]) hS46 hret; have hS47 : St w [] w9 ([.blk g15 27 (tabC vV (.slice a22 xs22.length c22) (.slice b22 vV.lives.length d22)), .blk g13 27 (tabC uU (.slice a21 xs21.length c21) (.slice b21 uU.lives.length d21)), .blk g5 27 (tabC (fullT true 17) (.slice a0 xs0.length c0) (.slice b0 (fullT true 17).lives.length d0))] ++ P23) := h4; clear hret h4 hS46; replace HT0 := hid (HT0.out.mono hsub); replace HT21 := hid (HT21.out.mono hsub); replace HT22 := hid (HT22.out.mono hsub); have HT23 := hid hin; clear hin hsub) | (refine wl_alloc hS47 rfl rfl ?_; intro g17 w1 h4; have hS48 : St w [] w1 ([.blk g17 27 (tab0), .blk g15 27 (tabC vV (.slice a22 xs22.length c22) (.slice b22 vV.lives.length d22)), .blk g13 27 (tabC uU (.slice a21 xs21.length c21) (.slice b21 uU.lives.length d21)), .blk g5 27 (tabC (fullT true 17) (.slice a0 xs0.length c0) (.slice b0 (fullT true 17).lives.length d0))] ++ P23) := h4; clear h4 hS47) | (refine wl_storeA [] hS48 rfl rfl rfl rfl (vs := tabC xX (.slice a23 xs23.length c23) (.slice b23 xX.lives.length d23)) rfl rfl rfl ?_; intro w1 h4; have hS49 : St w [] w1 ([.blk g17 27 (tabC xX (.slice a23 xs23.length c23) (.slice b23 xX.lives.length d23)), .blk g15 27 (tabC vV (.slice a22 xs22.length c22) (.slice b22 vV.lives.length d22)), .blk g13 27 (tabC uU (.slice a21 xs21.length c21) (.slice b21 uU.lives.length d21)), .blk g5 27 (tabC (fullT true 17) (.slice a0 xs0.length c0) (.slice b0 (fullT true 17).lives.length d0))] ++ P23) := h4; clear h4 hS48))
      refine (awake13_any _).mono ?_
      rintro _ w9 ⟨rfl, h4⟩
      have hE : St w [] w9 ([.blk g17 27 (tabC xX (.slice a23 xs23.length c23) (.slice b23 xX.lives.length d23)), .blk g15 27 (tabC vV (.slice a22 xs22.length c22) (.slice b22 vV.lives.length d22)), .blk g13 27 (tabC uU (.slice a21 xs21.length c21) (.slice b21 uU.lives.length d21)), .blk g5 27 (tabC (fullT true 17) (.slice a0 xs0.length c0) (.slice b0 (fullT true 17).lives.length d0))] ++ P23) := St.call0 hS49 h4
      clear h4 hS49
      have q1 : ((xs0.length : Int) == 16) = true := len16 (HT0.out.ok.len.trans HFL.out)
      have q2 : ((xs22.length : Int) == 16) = true := len16 (HT22.out.ok.len.trans HLV.out)
      go_wp2_with (first | go_big_skip | go_big_guard | (refine wl_loadE rfl rfl rfl ?_; first | refine ⟨_, Loads.at [_, _, _] hE rfl, ?_⟩ | refine ⟨_, Loads.at [_] hE rfl, ?_⟩))
      go_ret
      exact ⟨rfl, hE.nil⟩
end Go.Proofs.Ytifajcblbedcoaa
namespace Go.Proofs.Ytifajcblbedcoaa
set_option linter.unusedVariables false
set_option linter.unusedSimpArgs false
open Go.RowKit Hp
attribute [local irreducible] Go.Calls Go.wpList
theorem full13_any (snaps : Bool) (which : Int) (hw : -9223372036854775808 ≤ which ∧ which ≤ 9223372036854775807) (w : World) : Calls Try.prog 3 #[.bool snaps, .int .i64 which] w fun e w' => e = .returned (.bool true) ∧ St w [] w' [] := by
  cases snaps
  · exact full13_false which hw w
  · exact full13_true which hw w
end Go.Proofs.Ytifajcblbedcoaa
namespace Go.Proofs.Ytifajcblbedcoaa
set_option linter.unusedVariables false
set_option linter.unusedSimpArgs false
open Go.ChangeShapes Go.WideShapes Go.ChangeAt Go.RowKit Hp
set_option maxRecDepth 100000 in
theorem dirFull_lifted (os : Os) (started : os.Started) (H : Type) (enc : TypeId × Value → H) :
    ReturnsInHanded {} Try.checked os 3 .any (Rows.dirFullSpec.pre6 enc Try.prog Try.f3 Rows.dirFullRow.domain false) (Rows.dirFullSpec.post enc Try.prog Try.f3 false true false false) := by
  refine returnsInHanded_of_change (C := Try.checked) own started (by kernel_rfl) Try.func3
    (ChangeSpec.witness6 (enc := enc) (C := Try.checked) false ⟨#[], #[.bool false, .int .i64 0], []⟩ 8 (by kernel_rfl) (by kernel_rfl) (by kernel_rfl) (by kernel_rfl)) ?_
  intro W base args ds gs before hval0 hW hcnd _
  have hval : ∀ (j : Nat) t v, Try.f3.params[j]? = some t → args[j]? = some v → Value.okWide Try.prog W .any base t v := hval0
  have hW' := hW
  obtain ⟨p, q, hAA0, hV, rfl, hfz, hnd⟩ := hW
  have hA : DataW.TrodAll enc Try.prog W 0 (fun _ => true) true Try.f3.params.toList args.toList ds p := hAA0
  rw [Try.params3] at hA hval
  have hk := hA
  obtain ⟨v0, v1, d0, d1, p0, p1, rfl, rfl, rfl, h0, h1⟩ := trodAll_two hA
  obtain ⟨rfl, rfl⟩ := trodVars_none hV
  obtain ⟨n0, h0⟩ := h0
  obtain ⟨z0, rfl⟩ := open_bool13 (hval 0 _ v0 rfl rfl) h0
  obtain ⟨n1, h1⟩ := h1
  obtain ⟨z1, rfl, hl1, hu1⟩ := open_int (hval 1 _ v1 rfl rfl) h1
  clear hAA0 hval0
  simp only [List.append_nil] at hW'
  refine (full13_any z0 z1 ⟨hl1, hu1⟩ W).mono fun e W' ⟨he, hg⟩ => ?_
  subst he
  exact ⟨_, rfl, post_of_kept (pv := []) hW' (fun _ _ _ => (trodAll_cons_mk (shut_bool Try.underlying4 _) trodAll_mk0)) (fun sp hsp => by
      rw [Try.params3]
      exact args_kept (by decide) hk hg.below (fun p hp => hW'.lt p hp) sp hsp) (fun _ _ => rfl) (by simp)
    (hg.below.frame _)⟩
theorem dirFull_over : Rows.dirFullRow.holds Try.pinned (OpenSpec.ofChange Rows.dirFullSpec) :=
  OpenClaim.holds_of_wide 3 Try.f3 rfl rfl rfl rfl rfl rfl rfl ⟨rfl, rfl, rfl, rfl, rfl⟩ rfl rfl rfl rfl rfl (by kernel_rfl) Try.func3 (by kernel_rfl)
    (of_decide_eq_true (by kernel_rfl)) (by unfold Func.isWrapper; first | (rw [if_pos (by decide +kernel)]; kernel_rfl) | (rw [if_neg (by decide +kernel)]; exact ⟨rfl, rfl⟩))
    (fun os started H enc _ => dirFull_lifted os started H enc)

theorem dirFull_proved : Rows.DirFullSaid :=
  dirFull_over
end Go.Proofs.Ytifajcblbedcoaa
