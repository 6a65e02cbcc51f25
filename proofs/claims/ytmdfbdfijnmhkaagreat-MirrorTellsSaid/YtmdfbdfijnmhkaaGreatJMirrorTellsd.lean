import Derived.Test.YtmdfbdfijnmhkaaGreatJMirrorTellsb
import Derived.Test.YtmdfbdfijnmhkaaGreatSepY
import Derived.Test.YtmdfbdfijnmhkaaGreatJMirrorTellsc
import Derived.Test.YtmdfbdfijnmhkaaGreatSepN
import Derived.Test.YtmdfbdfijnmhkaaGreatPtr
import Derived.Test.YtmdfbdfijnmhkaaGreatSepO
import Derived.Deep.RegionHeld3
import Derived.Outline
import Derived.IntWalk
import Derived.Test.YtmdfbdfijnmhkaaGreatRegL
import Derived.Test.YtmdfbdfijnmhkaaGreatSepP
import Derived.Deep.DeepCutAuto
namespace Go.Proofs.YtmdfbdfijnmhkaaGreat
set_option linter.unusedVariables false
set_option linter.unusedSimpArgs false
open Go.RowKit Hp
theorem wrap32 (n : Nat) : IntKind.u32.wrap (n : Int) = ((n % 4294967296 : Nat) : Int) := by
  show (n : Int) % 4294967296 = _
  omega
theorem add32 (T : TypeId) (x y : Wd) : binOp .add T (.int .u32 (wI x)) (.int .u32 (wI y)) = pure (.int .u32 (wI (x + y))) := by
  have h : IntKind.u32.wrap ((x.toNat : Int) + (y.toNat : Int)) = ((x + y).toNat : Int) := by
    rw [← Int.natCast_add, wrap32, BitVec.toNat_add]
  show pure (Value.int .u32 (IntKind.u32.wrap ((x.toNat : Int) + (y.toNat : Int)))) = _
  rw [h]
  rfl
theorem ofInt32 (x : Wd) : BitVec.ofInt 32 (x.toNat : Int) = x := by
  rw [BitVec.ofInt_natCast, BitVec.ofNat_toNat, BitVec.setWidth_eq]
theorem back32 (z : Wd) : IntKind.u32.wrap ((z.toNat : Nat) : Int) = (z.toNat : Int) := by
  have := z.isLt
  rw [wrap32, Nat.mod_eq_of_lt this]
theorem and32 (T : TypeId) (x y : Wd) : binOp .and T (.int .u32 (wI x)) (.int .u32 (wI y)) = pure (.int .u32 (wI (x &&& y))) := by
  show pure (Value.int .u32 (IntKind.u32.wrap ((BitVec.ofInt 32 (x.toNat : Int) &&& BitVec.ofInt 32 (y.toNat : Int)).toNat : Int))) = _
  rw [ofInt32, ofInt32, back32]
  rfl
theorem or32 (T : TypeId) (x y : Wd) : binOp .or T (.int .u32 (wI x)) (.int .u32 (wI y)) = pure (.int .u32 (wI (x ||| y))) := by
  show pure (Value.int .u32 (IntKind.u32.wrap ((BitVec.ofInt 32 (x.toNat : Int) ||| BitVec.ofInt 32 (y.toNat : Int)).toNat : Int))) = _
  rw [ofInt32, ofInt32, back32]
  rfl
theorem xor32 (T : TypeId) (x y : Wd) : binOp .xor T (.int .u32 (wI x)) (.int .u32 (wI y)) = pure (.int .u32 (wI (x ^^^ y))) := by
  show pure (Value.int .u32 (IntKind.u32.wrap ((BitVec.ofInt 32 (x.toNat : Int) ^^^ BitVec.ofInt 32 (y.toNat : Int)).toNat : Int))) = _
  rw [ofInt32, ofInt32, back32]
  rfl
theorem not32 (x : Wd) : Op.unary .xor (.int .u32 (wI x)) = pure (.int .u32 (wI (~~~x))) := by
  have h : BitVec.ofInt 32 4294967295 ^^^ x = ~~~x := by
    have : BitVec.ofInt 32 4294967295 = BitVec.allOnes 32 := by decide
    rw [this, BitVec.allOnes_xor]
  show pure (Value.int .u32 (IntKind.u32.wrap ((BitVec.ofInt 32 4294967295 ^^^ BitVec.ofInt 32 (x.toNat : Int)).toNat : Int))) = _
  rw [ofInt32, h, back32]
  rfl
theorem shlN (T : TypeId) (x : Wd) (yk : IntKind) (n : Nat) (hn : n ≤ 32) : binOp .shl T (.int .u32 (wI x)) (.int yk (n : Int)) = pure (.int .u32 (wI (x <<< n))) := by
  show Op.shift .shl .u32 (x.toNat : Int) yk (n : Int) = _
  rw [shift_shl .u32 yk (x.toNat : Int) (n : Int) (by omega) (by show (n : Int) ≤ 32; omega)]
  have h : IntKind.u32.wrap ((x.toNat : Int) * 2 ^ (n : Int).toNat) = ((x <<< n).toNat : Int) := by
    rw [Int.toNat_natCast, BitVec.toNat_shiftLeft, Nat.shiftLeft_eq]
    have : (x.toNat : Int) * 2 ^ n = ((x.toNat * 2 ^ n : Nat) : Int) := by push_cast; rfl
    rw [this, wrap32]
  rw [h]
  rfl
theorem shrN (T : TypeId) (x : Wd) (yk : IntKind) (n : Nat) (hn : n ≤ 32) : binOp .shr T (.int .u32 (wI x)) (.int yk (n : Int)) = pure (.int .u32 (wI (x >>> n))) := by
  show Op.shift .shr .u32 (x.toNat : Int) yk (n : Int) = _
  rw [shift_shr .u32 yk (x.toNat : Int) (n : Int) (by omega) (by show (n : Int) ≤ 32; omega)]
  have h : (x.toNat : Int) / 2 ^ (n : Int).toNat = ((x >>> n).toNat : Int) := by
    rw [Int.toNat_natCast, BitVec.toNat_ushiftRight, Nat.shiftRight_eq_div_pow]
    push_cast
    rfl
  rw [h]
  rfl
section
variable {P : Program} (T : TypeId) (x y : Wd) (w : World)
theorem shr3u64e : binOp .shr T (.int .u32 (wI x)) (.int .u64 3) = pure (.int .u32 (wI (x >>> 3))) := shrN T x .u64 3 (by decide)
theorem shl8u64e : binOp .shl T (.int .u32 (wI x)) (.int .u64 8) = pure (.int .u32 (wI (x <<< 8))) := shlN T x .u64 8 (by decide)
theorem shr10u64e : binOp .shr T (.int .u32 (wI x)) (.int .u64 10) = pure (.int .u32 (wI (x >>> 10))) := shrN T x .u64 10 (by decide)
theorem shl16u64e : binOp .shl T (.int .u32 (wI x)) (.int .u64 16) = pure (.int .u32 (wI (x <<< 16))) := shlN T x .u64 16 (by decide)
theorem shl24u64e : binOp .shl T (.int .u32 (wI x)) (.int .u64 24) = pure (.int .u32 (wI (x <<< 24))) := shlN T x .u64 24 (by decide)
end
theorem and31 : ∀ n : Nat, n < 32 → 0 < n → bits .and .u64 (IntKind.u64.wrap (-(n : Int))) 31 = ((32 - n : Nat) : Int) := by decide +kernel
end Go.Proofs.YtmdfbdfijnmhkaaGreat
namespace Go.Proofs.YtmdfbdfijnmhkaaGreat
set_option linter.unusedVariables false
set_option linter.unusedSimpArgs false
open Go.RowKit Hp
attribute [local irreducible] Go.Calls
set_option maxHeartbeats 2000000
set_option maxRecDepth 100000
theorem right_any (x : Wd) (n : Nat) (w : World) (h0 : 0 < n) (h32 : n < 32) : Calls Tryz.prog 115 #[.int .u32 (wI x), .int .i64 (n : Int)] w fun e w' => e = .returned (.int .u32 (wI (rotr x n))) ∧ w = w' := by
  obtain ⟨m, hm⟩ : ∃ m, m = 32 - n := ⟨_, rfl⟩
  have h1 : bits .and .u64 (IntKind.u64.wrap (IntKind.i64.wrap (-(n : Int)))) 31 = (m : Int) := by
    have : IntKind.i64.wrap (-(n : Int)) = -(n : Int) := IntWalk.i64_in _ (by omega)
    rw [this, hm]
    exact and31 n h32 h0
  have h1b : bits .and .u64 (IntKind.u64.wrap (-(n : Int))) 31 = (m : Int) := by rw [hm]; exact and31 n h32 h0
  have h2 : IntKind.u64.wrap (32 - (m : Int)) = (n : Int) := by
    show (32 - (m : Int)) % 18446744073709551616 = _
    omega
  have e1 : ∀ T, binOp .shl T (.int .u32 (wI x)) (.int .u64 (m : Int)) = pure (.int .u32 (wI (x <<< m))) := fun T => shlN T x .u64 m (by omega)
  have e2 : ∀ T, binOp .shr T (.int .u32 (wI x)) (.int .u64 (n : Int)) = pure (.int .u32 (wI (x >>> n))) := fun T => shrN T x .u64 n (by omega)
  have e3 : ∀ T, binOp .or T (.int .u32 (wI (x <<< m))) (.int .u32 (wI (x >>> n))) = pure (.int .u32 (wI (x <<< m ||| x >>> n))) := fun T => or32 T _ _
  have Hr := hid (show x <<< m ||| x >>> n = rotr x n by rw [hm, rotr, BitVec.or_comm])
  clear hm
  go_enter Tryz.func115, Tryz.ntmps115
  go_wp2
  go_ret
  rw [Hr.out]
  exact ⟨rfl, rfl⟩
theorem keys_any (w : World) : Calls Tryz.prog 114 #[] w fun e w' => e = .returned (.agg (wordsV kT).toArray) ∧ St w [] w' [] := by
  have hst := St.refl w
  go_enter Tryz.func114, Tryz.ntmps114
  go_wp2_with (first | go_big_skip | go_big_guard | (refine wl_alloc hst rfl rfl ?_; intro g _ hst1; clear hst) | (refine wl_buildS (cs := wordsV kT) rfl rfl (by kernel_rfl) ?_) | (refine wl_storeA [] hst1 rfl rfl rfl rfl rfl rfl rfl ?_; intro _ hst2; clear hst1))
  have hl := Loads.atA (P := Tryz.prog) (off := 0) (T := 169) (wordsV kT) [] hst2 rfl rfl
  refine bodyPost_ret (results_cellL rfl rfl hl) rfl ⟨rfl, hst2.nil⟩
end Go.Proofs.YtmdfbdfijnmhkaaGreat
namespace Go.Proofs.YtmdfbdfijnmhkaaGreat
set_option linter.unusedVariables false
set_option linter.unusedSimpArgs false
open Hp
def win (p : List UInt8) : Nat → List Wd
  | 0 => List.replicate 16 0
  | i + 1 => (win p i).set (i % 16) (wdAt p i)
theorem length_win (p : List UInt8) (i : Nat) : (win p i).length = 16 := by
  induction i with
  | zero => rfl
  | succ i ih => simp [win, ih]
theorem win_get (p : List UInt8) {i t : Nat} (h : t < i) (h2 : i ≤ t + 16) : (win p i).getD (t % 16) 0 = wdAt p t := by
  induction i with
  | zero => omega
  | succ i ih =>
    have hm := Nat.mod_lt i (show 0 < 16 by decide)
    by_cases e : t = i
    · subst e
      simp only [win, List.getD]
      rw [List.getElem?_set_self (by rw [length_win]; exact hm)]
      rfl
    · have hne : i % 16 ≠ t % 16 := by omega
      rw [← ih (by omega) (by omega)]
      simp only [win, List.getD]
      rw [List.getElem?_set_ne hne]
theorem length_wordsV (l : List Wd) : (wordsV l).length = l.length := by simp [wordsV]
theorem words_get (l : List Wd) {k : Nat} (hk : k < l.length) : (wordsV l)[k]? = some (.int .u32 (wI (l.getD k 0))) := by
  simp [wordsV, List.getD, hk]
theorem put_words (l : List Wd) {k : Nat} (hk : k < l.length) (x : Wd) : putAt (wordsV l) k [.int .u32 (wI x)] = wordsV (l.set k x) := by
  have h1 : l.set k x = l.take k ++ x :: l.drop (k + 1) := by
    rw [List.set_eq_take_append_cons_drop, if_pos hk]
  rw [h1]
  simp [putAt, wordsV]
end Go.Proofs.YtmdfbdfijnmhkaaGreat
namespace Go.Proofs.YtmdfbdfijnmhkaaGreat
set_option linter.unusedVariables false
set_option linter.unusedSimpArgs false
open Go.RowKit Hp
attribute [local irreducible] Go.Calls
set_option maxHeartbeats 4000000
set_option maxRecDepth 100000
theorem loadedB (A : Addr) : loadVar 5 A = loadVarH 5 A := rfl
theorem loadedW (A : Addr) : loadVar 115 A = loadVarH 115 A := rfl
theorem storedW (A : Addr) (v : Value) : storeVar 115 A v = storeVarH 115 A v := rfl
theorem conv8 (b : UInt8) (w : World) : (convert 5 115 (.int .u8 (b.toNat : Int))).run Tryz.prog w = .ok (.int .u32 (wI (BitVec.ofNat 32 b.toNat))) w := by
  have hb := b.toNat_lt
  have h : IntKind.u32.wrap (b.toNat : Int) = wI (BitVec.ofNat 32 b.toNat) := by
    rw [wrap32, wI, BitVec.toNat_ofNat]
  unfold convert
  rw [Sem.run_bind, run_underlying (show Tryz.prog.underlying 5 = some (.int .u8) by kernel_rfl), Result.andThen_ok, Sem.run_bind, run_underlying (show Tryz.prog.underlying 115 = some (.int .u32) by kernel_rfl), Result.andThen_ok]
  show (pure (Value.int .u32 (IntKind.u32.wrap (b.toNat : Int))) : Sem Value).run Tryz.prog w = _
  rw [h]
  rfl
theorem ldOM {w0 w : World} {M : List Nat} {L : List HA} {T : TypeId} {A : Addr} {v : Value} (hst : St w0 M w L) [ht : TyS Tryz.prog T] (h : w0.cell? A = some v) (hM : A.block ∉ M) : (loadVarH T A).run Tryz.prog w = .ok v w := Loads.cell ht.out (hst.old_cell h hM)
section
attribute [local go_sem ↓] loadedB loadedW storedW conv8
attribute [local go_sem 5000] add32 and32 or32 xor32 not32 shl8u64e shl16u64e shl24u64e shr3u64e shr10u64e
theorem word_lo (g b off c i : Nat) (p : List UInt8) (w : World) (hg : w.heap[g]? = some (.cells (wordsV (win p i)).toArray 172 (0, 0))) (hp : Rd w (.slice (some ⟨b, off, none⟩) 64 c) 1 64 (bytesV p)) (hl : p.length = 64) (hi : i < 16) (hbg : b ≠ g) :
    Calls Tryz.prog 116 #[.pointer (some ⟨g, 0, none⟩), .int .i64 i, .slice (some ⟨b, off, none⟩) 64 c] w fun e w' => e = .returned (.int .u32 (wI (wdAt p i))) ∧ St w [g] w' [.blk g 172 (wordsV (win p (i + 1)))] := by
  have hst := St.one w g _ _ hg
  have hbd := hp.bd
  obtain ⟨b', off', hbo, hr⟩ := hp.at (k := 0) (by omega)
  cases hbo
  have Hl := hid hl
  obtain ⟨x0, h0⟩ : ∃ x, x = p.getD (4 * i) 0 := ⟨_, rfl⟩
  obtain ⟨x1, h1⟩ : ∃ x, x = p.getD (4 * i + 1) 0 := ⟨_, rfl⟩
  obtain ⟨x2, h2⟩ : ∃ x, x = p.getD (4 * i + 2) 0 := ⟨_, rfl⟩
  obtain ⟨x3, h3⟩ : ∃ x, x = p.getD (4 * i + 3) 0 := ⟨_, rfl⟩
  have k0 := hid (show w.cell? ⟨b, off + 4 * i, none⟩ = some (.int .u8 (x0.toNat : Int)) by rw [h0]; exact byte_cell hr (k := 4 * i) (by omega))
  have k1 := hid (show w.cell? ⟨b, off + 4 * i + 1, none⟩ = some (.int .u8 (x1.toNat : Int)) by rw [h1]; exact byte_cell hr (k := 4 * i + 1) (by omega))
  have k2 := hid (show w.cell? ⟨b, off + 4 * i + 2, none⟩ = some (.int .u8 (x2.toNat : Int)) by rw [h2]; exact byte_cell hr (k := 4 * i + 2) (by omega))
  have k3 := hid (show w.cell? ⟨b, off + 4 * i + 3, none⟩ = some (.int .u8 (x3.toNat : Int)) by rw [h3]; exact byte_cell hr (k := 4 * i + 3) (by omega))
  have Hx := hid (show (BitVec.ofNat 32 x0.toNat <<< 24 ||| BitVec.ofNat 32 x1.toNat <<< 16 ||| BitVec.ofNat 32 x2.toNat <<< 8 ||| BitVec.ofNat 32 x3.toNat : Wd) = wdAt p i by rw [wdAt_lo p hi, h0, h1, h2, h3]; rfl)
  clear h0 h1 h2 h3
  have hng : b ∉ [g] := by simpa using hbg
  have hli := hid (length_win p i)
  have z0 : IntKind.i64.wrap (4 * (i : Int)) = 4 * (i : Int) := IntWalk.i64_in _ (by omega)
  have z1 : IntKind.i64.wrap (4 * (i : Int) + 4) = 4 * (i : Int) + 4 := IntWalk.i64_in _ (by omega)
  have z2 : Int.tmod (i : Int) 16 = (i : Int) := by rw [Int.tmod_eq_emod_of_nonneg (by omega)]; omega
  have b1 : 4 * (i : Int) + 4 ≤ 64 := by omega
  have b2 : (i : Int) < 16 := by omega
  have b3 : 64 ≤ c := hbd.1
  have Hd := hid hbd
  clear hl hbd
  go_enter Tryz.func116, Tryz.ntmps116
  go_wp2
  have hstD := hst.drew
  clear hst
  refine wp_region_held_drew (S := (fun w' => (loadVarH 5 ⟨b, off + 4 * i, none⟩).run Tryz.prog w' = .ok (.int .u8 (x0.toNat : Int)) w' ∧ (loadVarH 5 ⟨b, off + 4 * i + 1, none⟩).run Tryz.prog w' = .ok (.int .u8 (x1.toNat : Int)) w' ∧ (loadVarH 5 ⟨b, off + 4 * i + 2, none⟩).run Tryz.prog w' = .ok (.int .u8 (x2.toNat : Int)) w' ∧ (loadVarH 5 ⟨b, off + 4 * i + 3, none⟩).run Tryz.prog w' = .ok (.int .u8 (x3.toNat : Int)) w')) (by kernel_rfl) (by exact ⟨ldOM hstD k0.out hng, ldOM hstD k1.out hng, ldOM hstD k2.out hng, ldOM hstD k3.out hng⟩) (fun hHeld => ?_)
  refine tkH 0 28 ?_ rfl (by kernel_rfl) (fun _ _ _ h => h) (by rfl) (by assumption) ?_ ?_
  rotate_left
  · intro w hSw; (try dsimp only at hSw); go_simp; try with_reducible rfl
  (try simp only [pmL, pnL, sc0, sc1])
  refine tkH 1 29 ?_ rfl (by kernel_rfl) (fun _ _ _ h => h) (by rfl) (by assumption) ?_ ?_
  rotate_left
  · intro w hSw; (try dsimp only at hSw); go_simp; try with_reducible rfl
  (try simp only [pmL, pnL, sc0, sc1])
  refine tkH 2 30 ?_ rfl (by kernel_rfl) (fun _ _ _ h => h) (by rfl) (by assumption) ?_ ?_
  rotate_left
  · intro w hSw; (try dsimp only at hSw); go_simp; try with_reducible rfl
  (try simp only [pmL, pnL, sc0, sc1])
  refine tkH 3 31 ?_ rfl (by kernel_rfl) (fun _ _ _ h => h) (by rfl) (by assumption) ?_ ?_
  rotate_left
  · intro w hSw; (try dsimp only at hSw); go_simp; try with_reducible rfl
  (try simp only [pmL, pnL, sc0, sc1])
  refine tkH 4 32 ?_ rfl (by kernel_rfl) (fun _ _ _ h => h) (by rfl) (by assumption) ?_ ?_
  rotate_left
  · intro w hSw; (try dsimp only at hSw); go_simp; try with_reducible rfl
  (try simp only [pmL, pnL, sc0, sc1])
  refine tkH 5 33 ?_ rfl (by kernel_rfl) (fun _ _ _ h => h) (by rfl) (by assumption) ?_ ?_
  rotate_left
  · intro w hSw; (try dsimp only at hSw); go_simp; try with_reducible rfl
  (try simp only [pmL, pnL, sc0, sc1])
  refine tkH 6 34 ?_ rfl (by kernel_rfl) (fun _ _ _ h => h) (by rfl) (by assumption) ?_ ?_
  rotate_left
  · intro w hSw; (try dsimp only at hSw); go_simp; try with_reducible rfl
  (try simp only [pmL, pnL, sc0, sc1])
  refine tkH 7 35 ?_ rfl (by kernel_rfl) (fun _ _ _ h => h) (by rfl) (by assumption) ?_ ?_
  rotate_left
  · intro w hSw; (try dsimp only at hSw); go_simp; try with_reducible rfl
  (try simp only [pmL, pnL, sc0, sc1])
  refine tkH 8 36 ?_ rfl (by kernel_rfl) (fun _ _ _ h => h) (by rfl) (by assumption) ?_ ?_
  rotate_left
  · intro w hSw; (try dsimp only at hSw); go_simp; try with_reducible rfl
  (try simp only [pmL, pnL, sc0, sc1])
  refine tkH 9 37 ?_ rfl (by kernel_rfl) (fun _ _ _ h => h) (by rfl) (by assumption) ?_ ?_
  rotate_left
  · intro w hSw; (try dsimp only at hSw); go_simp; try with_reducible rfl
  (try simp only [pmL, pnL, sc0, sc1])
  refine tkH 10 38 ?_ rfl (by kernel_rfl) (fun _ _ _ h => h) (by rfl) (by assumption) ?_ ?_
  rotate_left
  · intro w hSw; (try dsimp only at hSw); go_simp; try with_reducible rfl
  (try simp only [pmL, pnL, sc0, sc1])
  refine tkH 11 39 ?_ rfl (by kernel_rfl) (fun _ _ _ h => h) (by rfl) (by assumption) ?_ ?_
  rotate_left
  · intro w hSw; (try dsimp only at hSw); go_simp; try with_reducible rfl
  (try simp only [pmL, pnL, sc0, sc1])
  refine tkH 12 40 ?_ rfl (by kernel_rfl) (fun _ _ _ h => h) (by rfl) (by assumption) ?_ ?_
  rotate_left
  · intro w hSw; (try dsimp only at hSw); go_simp; try with_reducible rfl
  (try simp only [pmL, pnL, sc0, sc1])
  refine tkH 13 41 ?_ rfl (by kernel_rfl) (fun _ _ _ h => h) (by rfl) (by assumption) ?_ ?_
  rotate_left
  · intro w hSw; (try dsimp only at hSw); go_simp; try with_reducible rfl
  (try simp only [pmL, pnL, sc0, sc1])
  refine tkH 14 42 ?_ rfl (by kernel_rfl) (fun _ _ _ h => h) (by rfl) (by assumption) ?_ ?_
  rotate_left
  · intro w hSw; (try dsimp only at hSw); go_simp; try with_reducible rfl
  (try simp only [pmL, pnL, sc0, sc1])
  refine tkH 15 43 ?_ rfl (by kernel_rfl) (fun _ _ _ h => h) (by rfl) (by assumption) ?_ ?_
  rotate_left
  · intro w hSw; (try dsimp only at hSw); go_simp; try with_reducible rfl
  (try simp only [pmL, pnL, sc0, sc1])
  refine tkH 16 44 ?_ rfl (by kernel_rfl) (fun _ _ _ h => h) (by rfl) (by assumption) ?_ ?_
  rotate_left
  · intro w hSw; (try dsimp only at hSw); go_simp; try with_reducible rfl
  (try simp only [pmL, pnL, sc0, sc1])
  refine tkH 17 45 ?_ rfl (by kernel_rfl) (fun _ _ _ h => h) (by rfl) (by assumption) ?_ ?_
  rotate_left
  · intro w hSw; (try dsimp only at hSw); go_simp; try with_reducible rfl
  (try simp only [pmL, pnL, sc0, sc1])
  refine tkH 18 46 ?_ rfl (by kernel_rfl) (fun _ _ _ h => h) (by rfl) (by assumption) ?_ ?_
  rotate_left
  · intro w hSw; (try dsimp only at hSw); go_simp; try with_reducible rfl
  (try simp only [pmL, pnL, sc0, sc1])
  refine tkH 19 47 ?_ rfl (by kernel_rfl) (fun _ _ _ h => h) (by rfl) (by assumption) ?_ ?_
  rotate_left
  · intro w hSw; (try dsimp only at hSw); go_simp; try with_reducible rfl
  (try simp only [pmL, pnL, sc0, sc1])
  refine tkH 20 48 ?_ rfl (by kernel_rfl) (fun _ _ _ h => h) (by rfl) (by assumption) ?_ ?_
  rotate_left
  · intro w hSw; (try dsimp only at hSw); go_simp; try with_reducible rfl
  (try simp only [pmL, pnL, sc0, sc1])
  refine tkH 21 49 ?_ rfl (by kernel_rfl) (fun _ _ _ h => h) (by rfl) (by assumption) ?_ ?_
  rotate_left
  · intro w hSw; (try dsimp only at hSw); go_simp; try with_reducible rfl
  (try simp only [pmL, pnL, sc0, sc1])
  refine tkH 22 50 ?_ rfl (by kernel_rfl) (fun _ _ _ h => h) (by rfl) (by assumption) ?_ ?_
  rotate_left
  · intro w hSw; (try dsimp only at hSw); go_simp; try with_reducible rfl
  (try simp only [pmL, pnL, sc0, sc1])
  refine tkH 23 51 ?_ rfl (by kernel_rfl) (fun _ _ _ h => h) (by rfl) (by assumption) ?_ ?_
  rotate_left
  · intro w hSw; (try dsimp only at hSw); go_simp; try with_reducible rfl
  (try simp only [pmL, pnL, sc0, sc1])
  refine wpAnyH_ready (rs := [24]) (by kernel_rfl) (by simp) ?_
  refine (AllReadyH.cons (o := ⟨none, _, _, _, _, _⟩) rfl (fun K hK => ?_) AllReadyH.nil)
  rw [if_pos (by rfl)]
  apply ow_storeS (off := i) (v := .int .u32 (wI (wdAt p i))) [] hstD
  rfl
  exact rfl
  exact (by rw [← Hx.out]; exact rfl)
  infer_instance
  exact rfl
  exact rfl
  exact (by rw [length_wordsV, hli.out]; omega)
  intro w9 hst2
  refine hK.out _ _ ?_ (fun hHeld => ?_)
  · exact ⟨ldOM hst2 k0.out hng, ldOM hst2 k1.out hng, ldOM hst2 k2.out hng, ldOM hst2 k3.out hng⟩
  clear hK K
  (try simp only [pmL, pnL, sc0, sc1])
  refine wpAnyH_done (by kernel_rfl) ?_ _
  clear hHeld hstD
  have hst3 : St w [g] w9 [.blk g 172 (wordsV (win p (i + 1)))] := by
    rw [show win p (i + 1) = (win p i).set i (wdAt p i) from by rw [win, Nat.mod_eq_of_lt hi], ← put_words _ (by rw [hli.out]; omega)]
    exact hst2
  clear hst2
  have hget := hid (show (wordsV (win p (i + 1)))[i]? = some (.int .u32 (wI (wdAt p i))) by
    rw [words_get _ (by rw [length_win]; omega)]
    have := win_get p (i := i + 1) (t := i) (by omega) (by omega)
    rw [Nat.mod_eq_of_lt hi] at this
    rw [this])
  go_wp2_with (first | go_big_skip | go_big_guard | (refine wl_loadE rfl rfl rfl ?_; first | refine ⟨_, Loads.at [] hst3 (hget.out), ?_⟩))
  go_ret
  exact ⟨rfl, hst3⟩
end
end Go.Proofs.YtmdfbdfijnmhkaaGreat
namespace Go.Proofs.YtmdfbdfijnmhkaaGreat
set_option linter.unusedVariables false
set_option linter.unusedSimpArgs false
open Go.RowKit Hp
attribute [local irreducible] Go.Calls
set_option maxHeartbeats 4000000
set_option maxRecDepth 100000
theorem words_set_get (l : List Wd) (k j : Nat) (x : Wd) (h : j ≠ k) : (l.set k x).getD j 0 = l.getD j 0 := by
  simp only [List.getD]
  rw [List.getElem?_set_ne (Ne.symm h)]
theorem words_set_same (l : List Wd) (k : Nat) (x : Wd) (h : k < l.length) : (l.set k x).getD k 0 = x := by
  simp only [List.getD]
  rw [List.getElem?_set_self h]
  rfl
theorem st_set {w0 w : World} {M : List Nat} {g T k : Nat} {l : List Wd} {x : Wd} (hk : k < l.length) (h : St w0 M w ([] ++ .blk g T (putAt (wordsV l) k (Value.cells (.int .u32 (wI x))).toList) :: [])) : St w0 M w [.blk g T (wordsV (l.set k x))] := by
  rw [← put_words l hk x]
  exact h
theorem right_2 (x : Wd) (w : World) : Calls Tryz.prog 115 #[.int .u32 (wI x), .int .i64 2] w fun e w1 => e = .returned (.int .u32 (wI (rotr x 2))) ∧ w = w1 := right_any x 2 w (by decide) (by decide)
theorem right_6 (x : Wd) (w : World) : Calls Tryz.prog 115 #[.int .u32 (wI x), .int .i64 6] w fun e w1 => e = .returned (.int .u32 (wI (rotr x 6))) ∧ w = w1 := right_any x 6 w (by decide) (by decide)
theorem right_7 (x : Wd) (w : World) : Calls Tryz.prog 115 #[.int .u32 (wI x), .int .i64 7] w fun e w1 => e = .returned (.int .u32 (wI (rotr x 7))) ∧ w = w1 := right_any x 7 w (by decide) (by decide)
theorem right_11 (x : Wd) (w : World) : Calls Tryz.prog 115 #[.int .u32 (wI x), .int .i64 11] w fun e w1 => e = .returned (.int .u32 (wI (rotr x 11))) ∧ w = w1 := right_any x 11 w (by decide) (by decide)
theorem right_13 (x : Wd) (w : World) : Calls Tryz.prog 115 #[.int .u32 (wI x), .int .i64 13] w fun e w1 => e = .returned (.int .u32 (wI (rotr x 13))) ∧ w = w1 := right_any x 13 w (by decide) (by decide)
theorem right_17 (x : Wd) (w : World) : Calls Tryz.prog 115 #[.int .u32 (wI x), .int .i64 17] w fun e w1 => e = .returned (.int .u32 (wI (rotr x 17))) ∧ w = w1 := right_any x 17 w (by decide) (by decide)
theorem right_18 (x : Wd) (w : World) : Calls Tryz.prog 115 #[.int .u32 (wI x), .int .i64 18] w fun e w1 => e = .returned (.int .u32 (wI (rotr x 18))) ∧ w = w1 := right_any x 18 w (by decide) (by decide)
theorem right_19 (x : Wd) (w : World) : Calls Tryz.prog 115 #[.int .u32 (wI x), .int .i64 19] w fun e w1 => e = .returned (.int .u32 (wI (rotr x 19))) ∧ w = w1 := right_any x 19 w (by decide) (by decide)
theorem right_22 (x : Wd) (w : World) : Calls Tryz.prog 115 #[.int .u32 (wI x), .int .i64 22] w fun e w1 => e = .returned (.int .u32 (wI (rotr x 22))) ∧ w = w1 := right_any x 22 w (by decide) (by decide)
theorem right_25 (x : Wd) (w : World) : Calls Tryz.prog 115 #[.int .u32 (wI x), .int .i64 25] w fun e w1 => e = .returned (.int .u32 (wI (rotr x 25))) ∧ w = w1 := right_any x 25 w (by decide) (by decide)
section
attribute [local go_sem ↓] loadedB loadedW storedW conv8
attribute [local go_sem 5000] add32 and32 or32 xor32 not32 shl8u64e shl16u64e shl24u64e shr3u64e shr10u64e
theorem word_hi (g i : Nat) (p : List UInt8) (v : Value) (w : World) (hg : w.heap[g]? = some (.cells (wordsV (win p i)).toArray 172 (0, 0))) (hi : 16 ≤ i) (hi2 : i < 64) :
    Calls Tryz.prog 116 #[.pointer (some ⟨g, 0, none⟩), .int .i64 i, v] w fun e w' => e = .returned (.int .u32 (wI (wdAt p i))) ∧ St w [g] w' [.blk g 172 (wordsV (win p (i + 1)))] := by
  have hst := St.one w g _ _ hg
  obtain ⟨k, hk⟩ : ∃ k, k = i % 16 := ⟨_, rfl⟩
  obtain ⟨ra, hra⟩ : ∃ k, k = (i - 15) % 16 := ⟨_, rfl⟩
  obtain ⟨rb, hrb⟩ : ∃ k, k = (i - 2) % 16 := ⟨_, rfl⟩
  obtain ⟨rc, hrc⟩ : ∃ k, k = (i - 7) % 16 := ⟨_, rfl⟩
  obtain ⟨l0, hl0⟩ : ∃ l, l = win p i := ⟨_, rfl⟩
  obtain ⟨C, hC⟩ : ∃ x, x = l0.getD k 0 := ⟨_, rfl⟩
  obtain ⟨X, hX⟩ : ∃ x, x = l0.getD ra 0 := ⟨_, rfl⟩
  obtain ⟨Y, hY⟩ : ∃ x, x = l0.getD rb 0 := ⟨_, rfl⟩
  obtain ⟨Z, hZ⟩ : ∃ x, x = l0.getD rc 0 := ⟨_, rfl⟩
  have hlen : l0.length = 16 := by rw [hl0, length_win]
  have eC : C = wdAt p (i - 16) := by rw [hC, hl0, hk, ← win_get p (i := i) (t := i - 16) (by omega) (by omega)]; congr 1; omega
  have eX : X = wdAt p (i - 15) := by rw [hX, hl0, hra, ← win_get p (i := i) (t := i - 15) (by omega) (by omega)]
  have eY : Y = wdAt p (i - 2) := by rw [hY, hl0, hrb, ← win_get p (i := i) (t := i - 2) (by omega) (by omega)]
  have eZ : Z = wdAt p (i - 7) := by rw [hZ, hl0, hrc, ← win_get p (i := i) (t := i - 7) (by omega) (by omega)]
  have HW := hid (show C + sg0 X + Z + sg1 Y = wdAt p i by rw [wdAt_hi p hi, eC, eX, eY, eZ])
  have HN := hid (show win p (i + 1) = l0.set k (wdAt p i) by rw [win, hl0, hk])
  have hnc : rc ≠ k := by omega
  have bk : k < 16 := by omega
  have ba : ra < 16 := by omega
  have bb : rb < 16 := by omega
  have bc : rc < 16 := by omega
  have z2 : Int.tmod (i : Int) 16 = (k : Int) := by rw [Int.tmod_eq_emod_of_nonneg (by omega)]; omega
  have w15 : IntKind.i64.wrap ((i : Int) - 15) = ((i - 15 : Nat) : Int) := by rw [IntWalk.i64_in _ (by omega)]; omega
  have w2 : IntKind.i64.wrap ((i : Int) - 2) = ((i - 2 : Nat) : Int) := by rw [IntWalk.i64_in _ (by omega)]; omega
  have w7 : IntKind.i64.wrap ((i : Int) - 7) = ((i - 7 : Nat) : Int) := by rw [IntWalk.i64_in _ (by omega)]; omega
  have m15 : Int.tmod ((i - 15 : Nat) : Int) 16 = (ra : Int) := by rw [Int.tmod_eq_emod_of_nonneg (by omega)]; omega
  have m2 : Int.tmod ((i - 2 : Nat) : Int) 16 = (rb : Int) := by rw [Int.tmod_eq_emod_of_nonneg (by omega)]; omega
  have m7 : Int.tmod ((i - 7 : Nat) : Int) 16 = (rc : Int) := by rw [Int.tmod_eq_emod_of_nonneg (by omega)]; omega
  have d16 : decide ((i : Int) < 16) = false := by simp; omega
  have bk2 : (k : Int) < 16 := by omega
  have ba2 : (ra : Int) < 16 := by omega
  have bb2 : (rb : Int) < 16 := by omega
  have bc2 : (rc : Int) < 16 := by omega
  rw [← hl0] at hst
  have Hlen := hid hlen
  have gC := hid (show (wordsV l0)[k]? = some (.int .u32 (wI C)) by rw [words_get _ (by omega), hC])
  have gX := hid (show (wordsV l0)[ra]? = some (.int .u32 (wI X)) by rw [words_get _ (by omega), hX])
  have gY := hid (show (wordsV l0)[rb]? = some (.int .u32 (wI Y)) by rw [words_get _ (by omega), hY])
  have g1 := hid (show (wordsV (l0.set k (C + sg0 X)))[k]? = some (.int .u32 (wI (C + sg0 X))) by rw [words_get _ (by simp; omega), words_set_same _ _ _ (by omega)])
  have gZ := hid (show (wordsV (l0.set k (C + sg0 X)))[rc]? = some (.int .u32 (wI Z)) by rw [words_get _ (by simp; omega), words_set_get _ _ _ _ hnc, hZ])
  have g2 := hid (show (wordsV (l0.set k (C + sg0 X + Z)))[k]? = some (.int .u32 (wI (C + sg0 X + Z))) by rw [words_get _ (by simp; omega), words_set_same _ _ _ (by omega)])
  have g3 := hid (show (wordsV (l0.set k (wdAt p i)))[k]? = some (.int .u32 (wI (wdAt p i))) by rw [words_get _ (by simp; omega), words_set_same _ _ _ (by omega)])
  have n1 := hid (show (l0.set k (C + sg0 X)).length = 16 by simp; omega)
  have n2 := hid (show (l0.set k (C + sg0 X + Z)).length = 16 by simp; omega)
  clear hC hX hY hZ eC eX eY eZ hlen hl0 hk hra hrb hrc hg hnc
  go_enter Tryz.func116, Tryz.ntmps116
  go_wp2_with (first | go_big_skip | go_big_guard | fail)
  have hD := hst.drew
  clear hst
  refine wp_region_held_drew (S := (fun w' => (loadVarH 115 ⟨g, ra, none⟩).run Tryz.prog w' = .ok (.int .u32 (wI (X))) w' ∧ (loadVarH 115 ⟨g, rb, none⟩).run Tryz.prog w' = .ok (.int .u32 (wI (Y))) w')) (by kernel_rfl) (by exact ⟨ldS [] hD (gX.out), ldS [] hD (gY.out)⟩) (fun hHeld => ?_)
  refine wpAnyH_take (i := 0) (oi := ⟨some 55, _, _, _, _, _⟩) (v := ?_) rfl (by kernel_rfl) (by kernel_rfl) (by kernel_rfl) (fun _ _ _ h => h) (Or.inl ⟨by rfl, ?_⟩) (by assumption) ?_
  rotate_left
  · intro w hSw; (try dsimp only at hSw); go_simp; try with_reducible rfl
  (try simp only [Act.put, List.setIfInBounds_toArray, List.set_cons_zero, List.set_cons_succ])
  refine wpAnyH_take (i := 1) (oi := ⟨some 56, _, _, _, _, _⟩) (v := ?_) rfl (by kernel_rfl) (by kernel_rfl) (by kernel_rfl) (fun _ _ _ h => h) (Or.inl ⟨by rfl, ?_⟩) (by assumption) ?_
  rotate_left
  · intro w hSw; (try dsimp only at hSw); go_simp; try with_reducible rfl
  (try simp only [Act.put, List.setIfInBounds_toArray, List.set_cons_zero, List.set_cons_succ])
  refine wpAnyH_take (i := 2) (oi := ⟨some 57, _, _, _, _, _⟩) (v := ?_) rfl (by kernel_rfl) (by kernel_rfl) (by kernel_rfl) (fun _ _ _ h => h) (Or.inl ⟨by rfl, ?_⟩) (by assumption) ?_
  rotate_left
  · intro w hSw; (try dsimp only at hSw); go_simp; try with_reducible rfl
  (try simp only [Act.put, List.setIfInBounds_toArray, List.set_cons_zero, List.set_cons_succ])
  refine wpAnyH_take (i := 3) (oi := ⟨some 58, _, _, _, _, _⟩) (v := ?_) rfl (by kernel_rfl) (by kernel_rfl) (by kernel_rfl) (fun _ _ _ h => h) (Or.inl ⟨by rfl, ?_⟩) (by assumption) ?_
  rotate_left
  · intro w hSw; (try dsimp only at hSw); go_simp; try with_reducible rfl
  (try simp only [Act.put, List.setIfInBounds_toArray, List.set_cons_zero, List.set_cons_succ])
  refine wpAnyH_take (i := 4) (oi := ⟨some 59, _, _, _, _, _⟩) (v := ?_) rfl (by kernel_rfl) (by kernel_rfl) (by kernel_rfl) (fun _ _ _ h => h) (Or.inl ⟨by rfl, ?_⟩) (by assumption) ?_
  rotate_left
  · intro w hSw; (try dsimp only at hSw); go_simp; try with_reducible rfl
  (try simp only [Act.put, List.setIfInBounds_toArray, List.set_cons_zero, List.set_cons_succ])
  refine wpAnyH_take (i := 5) (oi := ⟨some 60, _, _, _, _, _⟩) (v := ?_) rfl (by kernel_rfl) (by kernel_rfl) (by kernel_rfl) (fun _ _ _ h => h) (Or.inl ⟨by rfl, ?_⟩) (by assumption) ?_
  rotate_left
  · intro w hSw; (try dsimp only at hSw); go_simp; try with_reducible rfl
  (try simp only [Act.put, List.setIfInBounds_toArray, List.set_cons_zero, List.set_cons_succ])
  refine wpAnyH_take (i := 6) (oi := ⟨some 61, _, _, _, _, _⟩) (v := ?_) rfl (by kernel_rfl) (by kernel_rfl) (by kernel_rfl) (fun _ _ _ h => h) (Or.inl ⟨by rfl, ?_⟩) (by assumption) ?_
  rotate_left
  · intro w hSw; (try dsimp only at hSw); go_simp; try with_reducible rfl
  (try simp only [Act.put, List.setIfInBounds_toArray, List.set_cons_zero, List.set_cons_succ])
  refine wpAnyH_take (i := 7) (oi := ⟨some 62, _, _, _, _, _⟩) (v := ?_) rfl (by kernel_rfl) (by kernel_rfl) (by kernel_rfl) (fun _ _ _ h => h) (Or.inl ⟨by rfl, ?_⟩) (by assumption) ?_
  rotate_left
  · intro w hSw; (try dsimp only at hSw); go_simp; try with_reducible rfl
  (try simp only [Act.put, List.setIfInBounds_toArray, List.set_cons_zero, List.set_cons_succ])
  refine wpAnyH_take (i := 8) (oi := ⟨some 63, _, _, _, _, _⟩) (v := ?_) rfl (by kernel_rfl) (by kernel_rfl) (by kernel_rfl) (fun _ _ _ h => h) (Or.inl ⟨by rfl, ?_⟩) (by assumption) ?_
  rotate_left
  · intro w hSw; (try dsimp only at hSw); go_simp; try with_reducible rfl
  (try simp only [Act.put, List.setIfInBounds_toArray, List.set_cons_zero, List.set_cons_succ])
  refine wpAnyH_take (i := 9) (oi := ⟨some 64, _, _, _, _, _⟩) (v := ?_) rfl (by kernel_rfl) (by kernel_rfl) (by kernel_rfl) (fun _ _ _ h => h) (Or.inl ⟨by rfl, ?_⟩) (by assumption) ?_
  rotate_left
  · intro w hSw; (try dsimp only at hSw); go_simp; try with_reducible rfl
  (try simp only [Act.put, List.setIfInBounds_toArray, List.set_cons_zero, List.set_cons_succ])
  refine wpAnyH_take (i := 10) (oi := ⟨some 65, _, _, _, _, _⟩) (v := ?_) rfl (by kernel_rfl) (by kernel_rfl) (by kernel_rfl) (fun _ _ _ h => h) (Or.inl ⟨by rfl, ?_⟩) (by assumption) ?_
  rotate_left
  · intro w hSw; (try dsimp only at hSw); go_simp; try with_reducible rfl
  (try simp only [Act.put, List.setIfInBounds_toArray, List.set_cons_zero, List.set_cons_succ])
  refine wpAnyH_take (i := 11) (oi := ⟨some 66, _, _, _, _, _⟩) (v := ?_) rfl (by kernel_rfl) (by kernel_rfl) (by kernel_rfl) (fun _ _ _ h => h) (Or.inl ⟨by rfl, ?_⟩) (by assumption) ?_
  rotate_left
  · intro w hSw; (try dsimp only at hSw); go_simp; try with_reducible rfl
  (try simp only [Act.put, List.setIfInBounds_toArray, List.set_cons_zero, List.set_cons_succ])
  refine wpAnyH_take (i := 12) (oi := ⟨some 67, _, _, _, _, _⟩) (v := ?_) rfl (by kernel_rfl) (by kernel_rfl) (by kernel_rfl) (fun _ _ _ h => h) (Or.inl ⟨by rfl, ?_⟩) (by assumption) ?_
  rotate_left
  · intro w hSw; (try dsimp only at hSw); go_simp; try with_reducible rfl
  (try simp only [Act.put, List.setIfInBounds_toArray, List.set_cons_zero, List.set_cons_succ])
  refine wpAnyH_take (i := 13) (oi := ⟨some 68, _, _, _, _, _⟩) (v := ?_) rfl (by kernel_rfl) (by kernel_rfl) (by kernel_rfl) (fun _ _ _ h => h) (Or.inl ⟨by rfl, ?_⟩) (by assumption) ?_
  rotate_left
  · intro w hSw; (try dsimp only at hSw); go_simp; try with_reducible rfl
  (try simp only [Act.put, List.setIfInBounds_toArray, List.set_cons_zero, List.set_cons_succ])
  refine wpAnyH_take (i := 14) (oi := ⟨some 9, _, _, _, _, _⟩) (v := ?_) rfl (by kernel_rfl) (by kernel_rfl) (by kernel_rfl) (fun _ _ _ h => h) (Or.inl ⟨by rfl, ?_⟩) (by assumption) ?_
  rotate_left
  · intro w hSw; (try dsimp only at hSw); go_simp; try with_reducible rfl
  (try simp only [Act.put, List.setIfInBounds_toArray, List.set_cons_zero, List.set_cons_succ])
  refine wpAnyH_take (i := 15) (oi := ⟨some 10, _, _, _, _, _⟩) (v := ?_) rfl (by kernel_rfl) (by kernel_rfl) (by kernel_rfl) (fun _ _ _ h => h) (Or.inl ⟨by rfl, ?_⟩) (by assumption) ?_
  rotate_left
  · intro w hSw; (try dsimp only at hSw); go_simp; try with_reducible rfl
  (try simp only [Act.put, List.setIfInBounds_toArray, List.set_cons_zero, List.set_cons_succ])
  refine wpAnyH_done (by kernel_rfl) ?_ _
  clear hHeld
  go_wp2_with (first | go_big_skip | go_big_guard | fail)
  replace hD := hD.drew
  refine wp_region_last (S := (fun w' => (loadVarH 115 ⟨g, k, none⟩).run Tryz.prog w' = .ok (.int .u32 (wI (C))) w')) (by kernel_rfl) rfl (by kernel_rfl) (by exact ldS [] hD (gC.out)) (fun hHeld => ?_)
  simp only [List.pop_toArray, List.dropLast, List.size_toArray, List.length_cons, List.length_nil]
  refine wpAnyH_take (i := 0) (oi := ⟨some 69, _, _, _, _, _⟩) (v := ?_) rfl (by kernel_rfl) (by kernel_rfl) (by kernel_rfl) (fun _ _ _ h => h) (Or.inl ⟨by rfl, ?_⟩) (by assumption) ?_
  rotate_left
  · intro w hSw; (try dsimp only at hSw); go_simp; try with_reducible rfl
  (try simp only [Act.put, List.setIfInBounds_toArray, List.set_cons_zero, List.set_cons_succ])
  refine wpAnyH_take (i := 1) (oi := ⟨some 70, _, _, _, _, _⟩) (v := ?_) rfl (by kernel_rfl) (by kernel_rfl) (by kernel_rfl) (fun _ _ _ h => h) (Or.inl ⟨by rfl, ?_⟩) (by assumption) ?_
  rotate_left
  · intro w hSw; (try dsimp only at hSw); go_simp; try with_reducible rfl
  (try simp only [Act.put, List.setIfInBounds_toArray, List.set_cons_zero, List.set_cons_succ])
  refine wpAnyH_take (i := 2) (oi := ⟨some 71, _, _, _, _, _⟩) (v := ?_) rfl (by kernel_rfl) (by kernel_rfl) (by kernel_rfl) (fun _ _ _ h => h) (Or.inl ⟨by rfl, ?_⟩) (by assumption) ?_
  rotate_left
  · intro w hSw; (try dsimp only at hSw); go_simp; try with_reducible rfl
  (try simp only [Act.put, List.setIfInBounds_toArray, List.set_cons_zero, List.set_cons_succ])
  refine wpAnyH_take (i := 3) (oi := ⟨some 72, _, _, _, _, _⟩) (v := ?_) rfl (by kernel_rfl) (by kernel_rfl) (by kernel_rfl) (fun _ _ _ h => h) (Or.inl ⟨by rfl, ?_⟩) (by assumption) ?_
  rotate_left
  · intro w hSw; (try dsimp only at hSw); go_simp; try with_reducible rfl
  (try simp only [Act.put, List.setIfInBounds_toArray, List.set_cons_zero, List.set_cons_succ])
  refine wpAnyH_take (i := 5) (oi := ⟨some 74, _, _, _, _, _⟩) (v := ?_) rfl (by kernel_rfl) (by kernel_rfl) (by kernel_rfl) (fun _ _ _ h => h) (Or.inl ⟨by rfl, ?_⟩) (by assumption) ?_
  rotate_left
  · intro w hSw; (try dsimp only at hSw); go_simp; try with_reducible rfl
  (try simp only [Act.put, List.setIfInBounds_toArray, List.set_cons_zero, List.set_cons_succ])
  refine wpAnyH_take (i := 8) (oi := ⟨some 77, _, _, _, _, _⟩) (v := ?_) rfl (by kernel_rfl) (by kernel_rfl) (by kernel_rfl) (fun _ _ _ h => h) (Or.inl ⟨by rfl, ?_⟩) (by assumption) ?_
  rotate_left
  · intro w hSw; (try dsimp only at hSw); go_simp; try with_reducible rfl
  (try simp only [Act.put, List.setIfInBounds_toArray, List.set_cons_zero, List.set_cons_succ])
  refine wpAnyH_take (i := 9) (oi := ⟨some 78, _, _, _, _, _⟩) (v := ?_) rfl (by kernel_rfl) (by kernel_rfl) (by kernel_rfl) (fun _ _ _ h => h) (Or.inl ⟨by rfl, ?_⟩) (by assumption) ?_
  rotate_left
  · intro w hSw; (try dsimp only at hSw); go_simp; try with_reducible rfl
  (try simp only [Act.put, List.setIfInBounds_toArray, List.set_cons_zero, List.set_cons_succ])
  refine wpAnyH_ready (rs := [4]) (by kernel_rfl) (by simp) ?_
  refine (AllReadyH.cons (o := ⟨some 73, _, _, _, _, _⟩) rfl (fun K hK => ?_) AllReadyH.nil)
  go_simp
  go_at_call 115
  refine (right_7 _ _).mono ?_
  rintro _ _ ⟨rfl, rfl⟩
  refine hK.out _ _ ?_ (fun hHeld => ?_)
  · exact ldS [] hD (gC.out)
  clear hK K
  (try simp only [Act.put, List.setIfInBounds_toArray, List.set_cons_zero, List.set_cons_succ])
  refine wpAnyH_ready (rs := [6]) (by kernel_rfl) (by simp) ?_
  refine (AllReadyH.cons (o := ⟨some 75, _, _, _, _, _⟩) rfl (fun K hK => ?_) AllReadyH.nil)
  go_simp
  go_at_call 115
  refine (right_18 _ _).mono ?_
  rintro _ _ ⟨rfl, rfl⟩
  refine hK.out _ _ ?_ (fun hHeld => ?_)
  · exact ldS [] hD (gC.out)
  clear hK K
  (try simp only [Act.put, List.setIfInBounds_toArray, List.set_cons_zero, List.set_cons_succ])
  refine wpAnyH_take (i := 7) (oi := ⟨some 76, _, _, _, _, _⟩) (v := ?_) rfl (by kernel_rfl) (by kernel_rfl) (by kernel_rfl) (fun _ _ _ h => h) (Or.inl ⟨by rfl, ?_⟩) (by assumption) ?_
  rotate_left
  · intro w hSw; (try dsimp only at hSw); go_simp; try with_reducible rfl
  (try simp only [Act.put, List.setIfInBounds_toArray, List.set_cons_zero, List.set_cons_succ])
  refine wpAnyH_take (i := 10) (oi := ⟨some 79, _, _, _, _, _⟩) (v := ?_) rfl (by kernel_rfl) (by kernel_rfl) (by kernel_rfl) (fun _ _ _ h => h) (Or.inl ⟨by rfl, ?_⟩) (by assumption) ?_
  rotate_left
  · intro w hSw; (try dsimp only at hSw); go_simp; try with_reducible rfl
  (try simp only [Act.put, List.setIfInBounds_toArray, List.set_cons_zero, List.set_cons_succ])
  refine wpAnyH_take (i := 11) (oi := ⟨some 80, _, _, _, _, _⟩) (v := ?_) rfl (by kernel_rfl) (by kernel_rfl) (by kernel_rfl) (fun _ _ _ h => h) (Or.inl ⟨by rfl, ?_⟩) (by assumption) ?_
  rotate_left
  · intro w hSw; (try dsimp only at hSw); go_simp; try with_reducible rfl
  (try simp only [Act.put, List.setIfInBounds_toArray, List.set_cons_zero, List.set_cons_succ])
  refine wpAnyH_take (i := 12) (oi := ⟨some 81, _, _, _, _, _⟩) (v := ?_) rfl (by kernel_rfl) (by kernel_rfl) (by kernel_rfl) (fun _ _ _ h => h) (Or.inl ⟨by rfl, ?_⟩) (by assumption) ?_
  rotate_left
  · intro w hSw; (try dsimp only at hSw); go_simp; try with_reducible rfl
  (try simp only [Act.put, List.setIfInBounds_toArray, List.set_cons_zero, List.set_cons_succ])
  refine wpAnyH_done (by kernel_rfl) ?_ _
  clear hHeld
  refine QL_intro ?_
  refine wl_store [] hD rfl rfl rfl (v := .int .u32 (wI (C + sg0 X))) rfl rfl rfl (by rw [length_wordsV, Hlen.out]; show k + 1 ≤ 16; omega) ?_
  intro w1 h1
  replace h1 := st_set (by rw [Hlen.out]; exact bk) h1
  clear hD
  (try simp only [Act.put, List.setIfInBounds_toArray, List.set_cons_zero, List.set_cons_succ])
  go_wp2_with (first | go_big_skip | go_big_guard | fail)
  have hD := h1.drew
  clear h1
  refine wp_region_last (S := (fun w' => (loadVarH 115 ⟨g, k, none⟩).run Tryz.prog w' = .ok (.int .u32 (wI (C + sg0 X))) w' ∧ (loadVarH 115 ⟨g, rc, none⟩).run Tryz.prog w' = .ok (.int .u32 (wI (Z))) w')) (by kernel_rfl) rfl (by kernel_rfl) (by exact ⟨ldS [] hD (g1.out), ldS [] hD (gZ.out)⟩) (fun hHeld => ?_)
  simp only [List.pop_toArray, List.dropLast, List.size_toArray, List.length_cons, List.length_nil]
  refine wpAnyH_take (i := 0) (oi := ⟨some 82, _, _, _, _, _⟩) (v := ?_) rfl (by kernel_rfl) (by kernel_rfl) (by kernel_rfl) (fun _ _ _ h => h) (Or.inl ⟨by rfl, ?_⟩) (by assumption) ?_
  rotate_left
  · intro w hSw; (try dsimp only at hSw); go_simp; try with_reducible rfl
  (try simp only [Act.put, List.setIfInBounds_toArray, List.set_cons_zero, List.set_cons_succ])
  refine wpAnyH_take (i := 1) (oi := ⟨some 83, _, _, _, _, _⟩) (v := ?_) rfl (by kernel_rfl) (by kernel_rfl) (by kernel_rfl) (fun _ _ _ h => h) (Or.inl ⟨by rfl, ?_⟩) (by assumption) ?_
  rotate_left
  · intro w hSw; (try dsimp only at hSw); go_simp; try with_reducible rfl
  (try simp only [Act.put, List.setIfInBounds_toArray, List.set_cons_zero, List.set_cons_succ])
  refine wpAnyH_take (i := 2) (oi := ⟨some 84, _, _, _, _, _⟩) (v := ?_) rfl (by kernel_rfl) (by kernel_rfl) (by kernel_rfl) (fun _ _ _ h => h) (Or.inl ⟨by rfl, ?_⟩) (by assumption) ?_
  rotate_left
  · intro w hSw; (try dsimp only at hSw); go_simp; try with_reducible rfl
  (try simp only [Act.put, List.setIfInBounds_toArray, List.set_cons_zero, List.set_cons_succ])
  refine wpAnyH_take (i := 3) (oi := ⟨some 85, _, _, _, _, _⟩) (v := ?_) rfl (by kernel_rfl) (by kernel_rfl) (by kernel_rfl) (fun _ _ _ h => h) (Or.inl ⟨by rfl, ?_⟩) (by assumption) ?_
  rotate_left
  · intro w hSw; (try dsimp only at hSw); go_simp; try with_reducible rfl
  (try simp only [Act.put, List.setIfInBounds_toArray, List.set_cons_zero, List.set_cons_succ])
  refine wpAnyH_take (i := 4) (oi := ⟨some 86, _, _, _, _, _⟩) (v := ?_) rfl (by kernel_rfl) (by kernel_rfl) (by kernel_rfl) (fun _ _ _ h => h) (Or.inl ⟨by rfl, ?_⟩) (by assumption) ?_
  rotate_left
  · intro w hSw; (try dsimp only at hSw); go_simp; try with_reducible rfl
  (try simp only [Act.put, List.setIfInBounds_toArray, List.set_cons_zero, List.set_cons_succ])
  refine wpAnyH_take (i := 5) (oi := ⟨some 87, _, _, _, _, _⟩) (v := ?_) rfl (by kernel_rfl) (by kernel_rfl) (by kernel_rfl) (fun _ _ _ h => h) (Or.inl ⟨by rfl, ?_⟩) (by assumption) ?_
  rotate_left
  · intro w hSw; (try dsimp only at hSw); go_simp; try with_reducible rfl
  (try simp only [Act.put, List.setIfInBounds_toArray, List.set_cons_zero, List.set_cons_succ])
  refine wpAnyH_take (i := 6) (oi := ⟨some 88, _, _, _, _, _⟩) (v := ?_) rfl (by kernel_rfl) (by kernel_rfl) (by kernel_rfl) (fun _ _ _ h => h) (Or.inl ⟨by rfl, ?_⟩) (by assumption) ?_
  rotate_left
  · intro w hSw; (try dsimp only at hSw); go_simp; try with_reducible rfl
  (try simp only [Act.put, List.setIfInBounds_toArray, List.set_cons_zero, List.set_cons_succ])
  refine wpAnyH_take (i := 7) (oi := ⟨some 89, _, _, _, _, _⟩) (v := ?_) rfl (by kernel_rfl) (by kernel_rfl) (by kernel_rfl) (fun _ _ _ h => h) (Or.inl ⟨by rfl, ?_⟩) (by assumption) ?_
  rotate_left
  · intro w hSw; (try dsimp only at hSw); go_simp; try with_reducible rfl
  (try simp only [Act.put, List.setIfInBounds_toArray, List.set_cons_zero, List.set_cons_succ])
  refine wpAnyH_take (i := 8) (oi := ⟨some 90, _, _, _, _, _⟩) (v := ?_) rfl (by kernel_rfl) (by kernel_rfl) (by kernel_rfl) (fun _ _ _ h => h) (Or.inl ⟨by rfl, ?_⟩) (by assumption) ?_
  rotate_left
  · intro w hSw; (try dsimp only at hSw); go_simp; try with_reducible rfl
  (try simp only [Act.put, List.setIfInBounds_toArray, List.set_cons_zero, List.set_cons_succ])
  refine wpAnyH_take (i := 9) (oi := ⟨some 91, _, _, _, _, _⟩) (v := ?_) rfl (by kernel_rfl) (by kernel_rfl) (by kernel_rfl) (fun _ _ _ h => h) (Or.inl ⟨by rfl, ?_⟩) (by assumption) ?_
  rotate_left
  · intro w hSw; (try dsimp only at hSw); go_simp; try with_reducible rfl
  (try simp only [Act.put, List.setIfInBounds_toArray, List.set_cons_zero, List.set_cons_succ])
  refine wpAnyH_take (i := 10) (oi := ⟨some 92, _, _, _, _, _⟩) (v := ?_) rfl (by kernel_rfl) (by kernel_rfl) (by kernel_rfl) (fun _ _ _ h => h) (Or.inl ⟨by rfl, ?_⟩) (by assumption) ?_
  rotate_left
  · intro w hSw; (try dsimp only at hSw); go_simp; try with_reducible rfl
  (try simp only [Act.put, List.setIfInBounds_toArray, List.set_cons_zero, List.set_cons_succ])
  refine wpAnyH_take (i := 11) (oi := ⟨some 93, _, _, _, _, _⟩) (v := ?_) rfl (by kernel_rfl) (by kernel_rfl) (by kernel_rfl) (fun _ _ _ h => h) (Or.inl ⟨by rfl, ?_⟩) (by assumption) ?_
  rotate_left
  · intro w hSw; (try dsimp only at hSw); go_simp; try with_reducible rfl
  (try simp only [Act.put, List.setIfInBounds_toArray, List.set_cons_zero, List.set_cons_succ])
  refine wpAnyH_done (by kernel_rfl) ?_ _
  clear hHeld
  refine QL_intro ?_
  refine wl_store [] hD rfl rfl rfl (v := .int .u32 (wI (C + sg0 X + Z))) rfl rfl rfl (by rw [length_wordsV, n1.out]; show k + 1 ≤ 16; omega) ?_
  intro w2 h2
  replace h2 := st_set (by rw [n1.out]; exact bk) h2
  clear hD
  (try simp only [Act.put, List.setIfInBounds_toArray, List.set_cons_zero, List.set_cons_succ])
  rw [List.set_set] at h2
  go_wp2_with (first | go_big_skip | go_big_guard | fail)
  have hD := h2.drew
  clear h2
  refine wp_region_last (S := (fun w' => (loadVarH 115 ⟨g, k, none⟩).run Tryz.prog w' = .ok (.int .u32 (wI (C + sg0 X + Z))) w')) (by kernel_rfl) rfl (by kernel_rfl) (by exact ldS [] hD (g2.out)) (fun hHeld => ?_)
  simp only [List.pop_toArray, List.dropLast, List.size_toArray, List.length_cons, List.length_nil]
  refine wpAnyH_take (i := 0) (oi := ⟨some 94, _, _, _, _, _⟩) (v := ?_) rfl (by kernel_rfl) (by kernel_rfl) (by kernel_rfl) (fun _ _ _ h => h) (Or.inl ⟨by rfl, ?_⟩) (by assumption) ?_
  rotate_left
  · intro w hSw; (try dsimp only at hSw); go_simp; try with_reducible rfl
  (try simp only [Act.put, List.setIfInBounds_toArray, List.set_cons_zero, List.set_cons_succ])
  refine wpAnyH_take (i := 1) (oi := ⟨some 95, _, _, _, _, _⟩) (v := ?_) rfl (by kernel_rfl) (by kernel_rfl) (by kernel_rfl) (fun _ _ _ h => h) (Or.inl ⟨by rfl, ?_⟩) (by assumption) ?_
  rotate_left
  · intro w hSw; (try dsimp only at hSw); go_simp; try with_reducible rfl
  (try simp only [Act.put, List.setIfInBounds_toArray, List.set_cons_zero, List.set_cons_succ])
  refine wpAnyH_take (i := 2) (oi := ⟨some 96, _, _, _, _, _⟩) (v := ?_) rfl (by kernel_rfl) (by kernel_rfl) (by kernel_rfl) (fun _ _ _ h => h) (Or.inl ⟨by rfl, ?_⟩) (by assumption) ?_
  rotate_left
  · intro w hSw; (try dsimp only at hSw); go_simp; try with_reducible rfl
  (try simp only [Act.put, List.setIfInBounds_toArray, List.set_cons_zero, List.set_cons_succ])
  refine wpAnyH_take (i := 3) (oi := ⟨some 97, _, _, _, _, _⟩) (v := ?_) rfl (by kernel_rfl) (by kernel_rfl) (by kernel_rfl) (fun _ _ _ h => h) (Or.inl ⟨by rfl, ?_⟩) (by assumption) ?_
  rotate_left
  · intro w hSw; (try dsimp only at hSw); go_simp; try with_reducible rfl
  (try simp only [Act.put, List.setIfInBounds_toArray, List.set_cons_zero, List.set_cons_succ])
  refine wpAnyH_take (i := 5) (oi := ⟨some 99, _, _, _, _, _⟩) (v := ?_) rfl (by kernel_rfl) (by kernel_rfl) (by kernel_rfl) (fun _ _ _ h => h) (Or.inl ⟨by rfl, ?_⟩) (by assumption) ?_
  rotate_left
  · intro w hSw; (try dsimp only at hSw); go_simp; try with_reducible rfl
  (try simp only [Act.put, List.setIfInBounds_toArray, List.set_cons_zero, List.set_cons_succ])
  refine wpAnyH_take (i := 8) (oi := ⟨some 102, _, _, _, _, _⟩) (v := ?_) rfl (by kernel_rfl) (by kernel_rfl) (by kernel_rfl) (fun _ _ _ h => h) (Or.inl ⟨by rfl, ?_⟩) (by assumption) ?_
  rotate_left
  · intro w hSw; (try dsimp only at hSw); go_simp; try with_reducible rfl
  (try simp only [Act.put, List.setIfInBounds_toArray, List.set_cons_zero, List.set_cons_succ])
  refine wpAnyH_take (i := 9) (oi := ⟨some 103, _, _, _, _, _⟩) (v := ?_) rfl (by kernel_rfl) (by kernel_rfl) (by kernel_rfl) (fun _ _ _ h => h) (Or.inl ⟨by rfl, ?_⟩) (by assumption) ?_
  rotate_left
  · intro w hSw; (try dsimp only at hSw); go_simp; try with_reducible rfl
  (try simp only [Act.put, List.setIfInBounds_toArray, List.set_cons_zero, List.set_cons_succ])
  refine wpAnyH_ready (rs := [4]) (by kernel_rfl) (by simp) ?_
  refine (AllReadyH.cons (o := ⟨some 98, _, _, _, _, _⟩) rfl (fun K hK => ?_) AllReadyH.nil)
  go_simp
  go_at_call 115
  refine (right_17 _ _).mono ?_
  rintro _ _ ⟨rfl, rfl⟩
  refine hK.out _ _ ?_ (fun hHeld => ?_)
  · exact ldS [] hD (g2.out)
  clear hK K
  (try simp only [Act.put, List.setIfInBounds_toArray, List.set_cons_zero, List.set_cons_succ])
  refine wpAnyH_ready (rs := [6]) (by kernel_rfl) (by simp) ?_
  refine (AllReadyH.cons (o := ⟨some 100, _, _, _, _, _⟩) rfl (fun K hK => ?_) AllReadyH.nil)
  go_simp
  go_at_call 115
  refine (right_19 _ _).mono ?_
  rintro _ _ ⟨rfl, rfl⟩
  refine hK.out _ _ ?_ (fun hHeld => ?_)
  · exact ldS [] hD (g2.out)
  clear hK K
  (try simp only [Act.put, List.setIfInBounds_toArray, List.set_cons_zero, List.set_cons_succ])
  refine wpAnyH_take (i := 7) (oi := ⟨some 101, _, _, _, _, _⟩) (v := ?_) rfl (by kernel_rfl) (by kernel_rfl) (by kernel_rfl) (fun _ _ _ h => h) (Or.inl ⟨by rfl, ?_⟩) (by assumption) ?_
  rotate_left
  · intro w hSw; (try dsimp only at hSw); go_simp; try with_reducible rfl
  (try simp only [Act.put, List.setIfInBounds_toArray, List.set_cons_zero, List.set_cons_succ])
  refine wpAnyH_take (i := 10) (oi := ⟨some 104, _, _, _, _, _⟩) (v := ?_) rfl (by kernel_rfl) (by kernel_rfl) (by kernel_rfl) (fun _ _ _ h => h) (Or.inl ⟨by rfl, ?_⟩) (by assumption) ?_
  rotate_left
  · intro w hSw; (try dsimp only at hSw); go_simp; try with_reducible rfl
  (try simp only [Act.put, List.setIfInBounds_toArray, List.set_cons_zero, List.set_cons_succ])
  refine wpAnyH_take (i := 11) (oi := ⟨some 105, _, _, _, _, _⟩) (v := ?_) rfl (by kernel_rfl) (by kernel_rfl) (by kernel_rfl) (fun _ _ _ h => h) (Or.inl ⟨by rfl, ?_⟩) (by assumption) ?_
  rotate_left
  · intro w hSw; (try dsimp only at hSw); go_simp; try with_reducible rfl
  (try simp only [Act.put, List.setIfInBounds_toArray, List.set_cons_zero, List.set_cons_succ])
  refine wpAnyH_take (i := 12) (oi := ⟨some 106, _, _, _, _, _⟩) (v := ?_) rfl (by kernel_rfl) (by kernel_rfl) (by kernel_rfl) (fun _ _ _ h => h) (Or.inl ⟨by rfl, ?_⟩) (by assumption) ?_
  rotate_left
  · intro w hSw; (try dsimp only at hSw); go_simp; try with_reducible rfl
  (try simp only [Act.put, List.setIfInBounds_toArray, List.set_cons_zero, List.set_cons_succ])
  refine wpAnyH_done (by kernel_rfl) ?_ _
  clear hHeld
  refine QL_intro ?_
  refine wl_store [] hD rfl rfl rfl (v := .int .u32 (wI (wdAt p i))) (by rw [← HW.out]; exact rfl) rfl rfl (by rw [length_wordsV, n2.out]; show k + 1 ≤ 16; omega) ?_
  intro w3 h3
  replace h3 := st_set (by rw [n2.out]; exact bk) h3
  clear hD
  (try simp only [Act.put, List.setIfInBounds_toArray, List.set_cons_zero, List.set_cons_succ])
  rw [List.set_set] at h3
  go_wp2_with (first | go_big_skip | go_big_guard | (refine wl_loadE rfl rfl rfl ?_; first | refine ⟨_, Loads.at [] h3 (g3.out), ?_⟩))
  go_ret
  rw [HN.out]
  exact ⟨rfl, h3⟩
end
theorem word_any (g b off c i : Nat) (p : List UInt8) (w : World) (hg : w.heap[g]? = some (.cells (wordsV (win p i)).toArray 172 (0, 0))) (hp : Rd w (.slice (some ⟨b, off, none⟩) 64 c) 1 64 (bytesV p)) (hl : p.length = 64) (hi : i < 64) (hbg : b ≠ g) :
    Calls Tryz.prog 116 #[.pointer (some ⟨g, 0, none⟩), .int .i64 i, .slice (some ⟨b, off, none⟩) 64 c] w fun e w' => e = .returned (.int .u32 (wI (wdAt p i))) ∧ St w [g] w' [.blk g 172 (wordsV (win p (i + 1)))] := by
  by_cases h : i < 16
  · exact word_lo g b off c i p w hg hp hl h hbg
  · exact word_hi g i p _ w hg (by omega) hi
end Go.Proofs.YtmdfbdfijnmhkaaGreat
namespace Go.Proofs.YtmdfbdfijnmhkaaGreat
set_option linter.unusedVariables false
set_option linter.unusedSimpArgs false
open Go.RowKit Hp
attribute [local irreducible] Go.Calls
set_option maxHeartbeats 4000000
set_option maxRecDepth 100000
theorem Hp.St.ne_new {w0 w : World} {L : List HA} {g T b : Nat} {cs : List Value} (h : St w0 [] w L) (hm : HA.blk g T cs ∈ L) (hb : b < w0.heap.size) : b ≠ g := by
  rcases h.own _ hm g rfl with h1 | h1
  · omega
  · cases h1
theorem Rd_lt {w : World} {b off c n : Nat} {xs : List UInt8} (h : Rd w (.slice (some ⟨b, off, none⟩) n c) 1 n (bytesV xs)) (hn : 0 < n) : b < w.heap.size := by
  have hl := h.bd.2.2
  obtain ⟨b', off', e, hr⟩ := h.at (k := 0) hn
  cases e
  rw [length_bytesV] at hl
  have := byte_cell hr (k := 0) (by omega)
  exact World.block_lt_of_cell? w _ this
theorem bld8 (a b c d e f g h : Int) : Tryz.prog.built 117 [(0, .int .u32 a), (1, .int .u32 b), (2, .int .u32 c), (3, .int .u32 d), (4, .int .u32 e), (5, .int .u32 f), (6, .int .u32 g), (7, .int .u32 h)] = some #[.int .u32 a, .int .u32 b, .int .u32 c, .int .u32 d, .int .u32 e, .int .u32 f, .int .u32 g, .int .u32 h] := by kernel_rfl
theorem st_setL {w0 w : World} {M : List Nat} {g T k : Nat} {l : List Wd} {x : Wd} (L1 : List HA) {L2 : List HA} (hk : k < l.length) (h : St w0 M w (L1 ++ .blk g T (putAt (wordsV l) k (Value.cells (.int .u32 (wI x))).toList) :: L2)) : St w0 M w (L1 ++ .blk g T (wordsV (l.set k x)) :: L2) := by
  rw [← put_words l hk x]
  exact h
def addPh (x y : List Wd) : Nat → List Wd
  | 0 => x
  | j + 1 => (addPh x y j).set j (x.getD j 0 + y.getD j 0)
theorem length_addP (x y : List Wd) (j : Nat) : (addPh x y j).length = x.length := by
  induction j with
  | zero => rfl
  | succ j ih => simp [addPh, ih]
theorem addP_get (x y : List Wd) : ∀ (j i : Nat), j ≤ i → (addPh x y j).getD i 0 = x.getD i 0
  | 0, _, _ => rfl
  | j + 1, i, h => by
    rw [addPh, words_set_get _ _ _ _ (by omega), addP_get x y j i (by omega)]
theorem addP_all (s r : S8) : addPh s.list r.list 8 = (s.add r).list := rfl
theorem loadedSt (A : Addr) : loadVar 117 A = loadVarH 117 A := rfl
section
attribute [local go_sem ↓] loadedB loadedW storedW conv8 loadedSt
attribute [local go_sem 5000] add32 and32 or32 xor32 not32 shl8u64e shl16u64e shl24u64e shr3u64e shr10u64e
theorem turned_any (s : S8) (p : List UInt8) (b off c : Nat) (w : World) (hp : Rd w (.slice (some ⟨b, off, none⟩) 64 c) 1 64 (bytesV p)) (hl : p.length = 64) :
    Calls Tryz.prog 61 #[.agg (wordsV s.list).toArray, .slice (some ⟨b, off, none⟩) 64 c] w fun e w' => e = .returned (.agg (wordsV (s.turn p).list).toArray) ∧ St w [] w' [] := by
  have hst := St.refl w
  have Hl := hid hl
  have hb := Rd_lt hp (by decide)
  clear hl
  go_enter Tryz.func61, Tryz.ntmps61
  go_upto_region 1 with (first | go_big_skip | go_big_guard | (refine wl_boxA hst rfl rfl rfl ?_; intro g2 _ hst1; clear hst) | (refine wl_alloc hst1 rfl rfl ?_; intro g4 _ hst2; clear hst1))
  (try simp only [pmL, pnL, sc0, sc1])
  go_cut [5, 6] (fun a b wx => ∃ g5 g6, a = .pointer (some ⟨g5, 0, none⟩) ∧ b = .pointer (some ⟨g6, 0, none⟩) ∧ St w [] wx [.blk g6 169 (wordsV kT), .blk g5 117 (wordsV s.list), .blk g4 117 (List.replicate 8 (.int .u32 0)), .blk g2 117 (wordsV s.list)])
  case first =>
    have hD := hst2.drew
    clear hst2
    refine wp_region_held_drew (S := (fun w' => (loadVarH 117 ⟨g2, 0, none⟩).run Tryz.prog w' = .ok (.agg (List.toArray (wordsV s.list))) w')) (by kernel_rfl) (by exact ldA (wordsV s.list) [_] hD (rfl) (rfl)) (fun hHeld => ?_)
    refine tkH 0 14 ?_ rfl (by kernel_rfl) (fun _ _ _ h => h) (by rfl) (by assumption) ?_ ?_
    rotate_left
    · intro w hSw; (try dsimp only at hSw); go_simp; try with_reducible rfl
    (try simp only [pmL, pnL, sc0, sc1])
    refine wpAnyH_ready (rs := [1, 2, 3]) (by kernel_rfl) (by simp) ?_
    refine (AllReadyH.cons (o := ⟨some 15, _, _, _, _, _⟩) rfl (fun K hK => ?_) (AllReadyH.cons (o := ⟨some 5, _, _, _, _, _⟩) rfl (fun K hK => ?_) (AllReadyH.cons (o := ⟨some 6, _, _, _, _, _⟩) rfl (fun K hK => ?_) AllReadyH.nil)))
    · go_simp
      go_at_call 114
      refine (keys_any _).mono ?_
      rintro _ _ ⟨rfl, h4⟩
      have hN1 := St.call0 hD h4
      clear h4
      refine hK.out _ _ ?_ (fun hHeld => ?_)
      · exact ldA (wordsV s.list) [_] hN1 (rfl) (rfl)
      clear hK K
      (try simp only [pmL, pnL, sc0, sc1])
      refine wpAnyH_ready (rs := [2, 3]) (by kernel_rfl) (by simp) ?_
      refine (AllReadyH.cons (o := ⟨some 5, _, _, _, _, _⟩) rfl (fun K hK => ?_) (AllReadyH.cons (o := ⟨some 6, _, _, _, _, _⟩) rfl (fun K hK => ?_) AllReadyH.nil))
      · rw [if_pos (by rfl)]
        apply ow_alloc hN1
        rfl
        infer_instance
        intro g5 _ hN2
        refine hK.out _ _ ?_ (fun hHeld => ?_)
        · exact ldA (wordsV s.list) [_, _] hN2 (rfl) (rfl)
        clear hK K
        (try simp only [pmL, pnL, sc0, sc1])
        refine wpAnyH_ready (rs := [3]) (by kernel_rfl) (by simp) ?_
        refine (AllReadyH.cons (o := ⟨some 6, _, _, _, _, _⟩) rfl (fun K hK => ?_) AllReadyH.nil)
        rw [if_pos (by rfl)]
        apply ow_alloc hN2
        rfl
        infer_instance
        intro g6 _ hN3
        refine hK.out _ _ ?_ (fun hHeld => ?_)
        · exact ldA (wordsV s.list) [_, _, _] hN3 (rfl) (rfl)
        clear hK K
        (try simp only [pmL, pnL, sc0, sc1])
        refine wpAnyH_ready (rs := [4]) (by kernel_rfl) (by simp) ?_
        refine (AllReadyH.cons (o := ⟨none, _, _, _, _, _⟩) rfl (fun K hK => ?_) AllReadyH.nil)
        rw [if_pos (by rfl)]
        apply ow_storeA [_] hN3
        rfl
        exact rfl
        exact rfl
        infer_instance
        exact rfl
        exact rfl
        exact rfl
        intro _ hN4
        refine hK.out _ _ ?_ (fun hHeld => ?_)
        · exact ldA (wordsV s.list) [_, _, _] hN4 (rfl) (rfl)
        clear hK K
        (try simp only [pmL, pnL, sc0, sc1])
        refine wpAnyH_ready (rs := [5]) (by kernel_rfl) (by simp) ?_
        refine (AllReadyH.cons (o := ⟨none, _, _, _, _, _⟩) rfl (fun K hK => ?_) AllReadyH.nil)
        rw [if_pos (by rfl)]
        apply ow_storeA [] hN4
        rfl
        exact rfl
        exact rfl
        infer_instance
        exact rfl
        exact rfl
        exact rfl
        intro _ hN5
        refine hK.out _ _ ?_ (fun hHeld => ?_)
        · exact ldA (wordsV s.list) [_, _, _] hN5 (rfl) (rfl)
        clear hK K
        (try simp only [pmL, pnL, sc0, sc1])
        refine wpAnyH_done (by kernel_rfl) ?_ _
        clear hHeld
        go_wp2_with (first | go_big_skip | go_big_guard | fail)
        go_meet
        exact ⟨g5, g6, rfl, rfl, (St.front (L1 := [_, _, _]) (St.front (L1 := [_, _, _]) (St.front (L1 := [_, _, _]) (St.front (L1 := [_, _, _]) hN5))))⟩
      · rw [if_pos (by rfl)]
        apply ow_alloc hN1
        rfl
        infer_instance
        intro g6 _ hN6
        refine hK.out _ _ ?_ (fun hHeld => ?_)
        · exact ldA (wordsV s.list) [_, _] hN6 (rfl) (rfl)
        clear hK K
        (try simp only [pmL, pnL, sc0, sc1])
        refine wpAnyH_ready (rs := [2]) (by kernel_rfl) (by simp) ?_
        refine (AllReadyH.cons (o := ⟨some 5, _, _, _, _, _⟩) rfl (fun K hK => ?_) AllReadyH.nil)
        rw [if_pos (by rfl)]
        apply ow_alloc hN6
        rfl
        infer_instance
        intro g5 _ hN7
        refine hK.out _ _ ?_ (fun hHeld => ?_)
        · exact ldA (wordsV s.list) [_, _, _] hN7 (rfl) (rfl)
        clear hK K
        (try simp only [pmL, pnL, sc0, sc1])
        refine wpAnyH_ready (rs := [4]) (by kernel_rfl) (by simp) ?_
        refine (AllReadyH.cons (o := ⟨none, _, _, _, _, _⟩) rfl (fun K hK => ?_) AllReadyH.nil)
        rw [if_pos (by rfl)]
        apply ow_storeA [] hN7
        rfl
        exact rfl
        exact rfl
        infer_instance
        exact rfl
        exact rfl
        exact rfl
        intro _ hN8
        refine hK.out _ _ ?_ (fun hHeld => ?_)
        · exact ldA (wordsV s.list) [_, _, _] hN8 (rfl) (rfl)
        clear hK K
        (try simp only [pmL, pnL, sc0, sc1])
        refine wpAnyH_ready (rs := [5]) (by kernel_rfl) (by simp) ?_
        refine (AllReadyH.cons (o := ⟨none, _, _, _, _, _⟩) rfl (fun K hK => ?_) AllReadyH.nil)
        rw [if_pos (by rfl)]
        apply ow_storeA [_] hN8
        rfl
        exact rfl
        exact rfl
        infer_instance
        exact rfl
        exact rfl
        exact rfl
        intro _ hN9
        refine hK.out _ _ ?_ (fun hHeld => ?_)
        · exact ldA (wordsV s.list) [_, _, _] hN9 (rfl) (rfl)
        clear hK K
        (try simp only [pmL, pnL, sc0, sc1])
        refine wpAnyH_done (by kernel_rfl) ?_ _
        clear hHeld
        go_wp2_with (first | go_big_skip | go_big_guard | fail)
        go_meet
        exact ⟨g5, g6, rfl, rfl, (St.front (L1 := [_, _, _]) (St.front (L1 := [_, _]) (St.front (L1 := [_, _, _]) (St.front (L1 := [_, _, _]) hN9))))⟩
    · rw [if_pos (by rfl)]
      apply ow_alloc hD
      rfl
      infer_instance
      intro g5 _ hN10
      refine hK.out _ _ ?_ (fun hHeld => ?_)
      · exact ldA (wordsV s.list) [_, _] hN10 (rfl) (rfl)
      clear hK K
      (try simp only [pmL, pnL, sc0, sc1])
      refine wpAnyH_ready (rs := [1, 3]) (by kernel_rfl) (by simp) ?_
      refine (AllReadyH.cons (o := ⟨some 15, _, _, _, _, _⟩) rfl (fun K hK => ?_) (AllReadyH.cons (o := ⟨some 6, _, _, _, _, _⟩) rfl (fun K hK => ?_) AllReadyH.nil))
      · go_simp
        go_at_call 114
        refine (keys_any _).mono ?_
        rintro _ _ ⟨rfl, h4⟩
        have hN11 := St.call0 hN10 h4
        clear h4
        refine hK.out _ _ ?_ (fun hHeld => ?_)
        · exact ldA (wordsV s.list) [_, _] hN11 (rfl) (rfl)
        clear hK K
        (try simp only [pmL, pnL, sc0, sc1])
        refine wpAnyH_ready (rs := [3]) (by kernel_rfl) (by simp) ?_
        refine (AllReadyH.cons (o := ⟨some 6, _, _, _, _, _⟩) rfl (fun K hK => ?_) AllReadyH.nil)
        rw [if_pos (by rfl)]
        apply ow_alloc hN11
        rfl
        infer_instance
        intro g6 _ hN12
        refine hK.out _ _ ?_ (fun hHeld => ?_)
        · exact ldA (wordsV s.list) [_, _, _] hN12 (rfl) (rfl)
        clear hK K
        (try simp only [pmL, pnL, sc0, sc1])
        refine wpAnyH_ready (rs := [4]) (by kernel_rfl) (by simp) ?_
        refine (AllReadyH.cons (o := ⟨none, _, _, _, _, _⟩) rfl (fun K hK => ?_) AllReadyH.nil)
        rw [if_pos (by rfl)]
        apply ow_storeA [_] hN12
        rfl
        exact rfl
        exact rfl
        infer_instance
        exact rfl
        exact rfl
        exact rfl
        intro _ hN13
        refine hK.out _ _ ?_ (fun hHeld => ?_)
        · exact ldA (wordsV s.list) [_, _, _] hN13 (rfl) (rfl)
        clear hK K
        (try simp only [pmL, pnL, sc0, sc1])
        refine wpAnyH_ready (rs := [5]) (by kernel_rfl) (by simp) ?_
        refine (AllReadyH.cons (o := ⟨none, _, _, _, _, _⟩) rfl (fun K hK => ?_) AllReadyH.nil)
        rw [if_pos (by rfl)]
        apply ow_storeA [] hN13
        rfl
        exact rfl
        exact rfl
        infer_instance
        exact rfl
        exact rfl
        exact rfl
        intro _ hN14
        refine hK.out _ _ ?_ (fun hHeld => ?_)
        · exact ldA (wordsV s.list) [_, _, _] hN14 (rfl) (rfl)
        clear hK K
        (try simp only [pmL, pnL, sc0, sc1])
        refine wpAnyH_done (by kernel_rfl) ?_ _
        clear hHeld
        go_wp2_with (first | go_big_skip | go_big_guard | fail)
        go_meet
        exact ⟨g5, g6, rfl, rfl, (St.front (L1 := [_, _, _]) (St.front (L1 := [_, _, _]) (St.front (L1 := [_, _, _]) (St.front (L1 := [_, _, _]) hN14))))⟩
      · rw [if_pos (by rfl)]
        apply ow_alloc hN10
        rfl
        infer_instance
        intro g6 _ hN15
        refine hK.out _ _ ?_ (fun hHeld => ?_)
        · exact ldA (wordsV s.list) [_, _, _] hN15 (rfl) (rfl)
        clear hK K
        (try simp only [pmL, pnL, sc0, sc1])
        refine wpAnyH_ready (rs := [1]) (by kernel_rfl) (by simp) ?_
        refine (AllReadyH.cons (o := ⟨some 15, _, _, _, _, _⟩) rfl (fun K hK => ?_) AllReadyH.nil)
        go_simp
        go_at_call 114
        refine (keys_any _).mono ?_
        rintro _ _ ⟨rfl, h4⟩
        have hN16 := St.call0 hN15 h4
        clear h4
        refine hK.out _ _ ?_ (fun hHeld => ?_)
        · exact ldA (wordsV s.list) [_, _, _] hN16 (rfl) (rfl)
        clear hK K
        (try simp only [pmL, pnL, sc0, sc1])
        refine wpAnyH_ready (rs := [4]) (by kernel_rfl) (by simp) ?_
        refine (AllReadyH.cons (o := ⟨none, _, _, _, _, _⟩) rfl (fun K hK => ?_) AllReadyH.nil)
        rw [if_pos (by rfl)]
        apply ow_storeA [_] hN16
        rfl
        exact rfl
        exact rfl
        infer_instance
        exact rfl
        exact rfl
        exact rfl
        intro _ hN17
        refine hK.out _ _ ?_ (fun hHeld => ?_)
        · exact ldA (wordsV s.list) [_, _, _] hN17 (rfl) (rfl)
        clear hK K
        (try simp only [pmL, pnL, sc0, sc1])
        refine wpAnyH_ready (rs := [5]) (by kernel_rfl) (by simp) ?_
        refine (AllReadyH.cons (o := ⟨none, _, _, _, _, _⟩) rfl (fun K hK => ?_) AllReadyH.nil)
        rw [if_pos (by rfl)]
        apply ow_storeA [] hN17
        rfl
        exact rfl
        exact rfl
        infer_instance
        exact rfl
        exact rfl
        exact rfl
        intro _ hN18
        refine hK.out _ _ ?_ (fun hHeld => ?_)
        · exact ldA (wordsV s.list) [_, _, _] hN18 (rfl) (rfl)
        clear hK K
        (try simp only [pmL, pnL, sc0, sc1])
        refine wpAnyH_done (by kernel_rfl) ?_ _
        clear hHeld
        go_wp2_with (first | go_big_skip | go_big_guard | fail)
        go_meet
        exact ⟨g5, g6, rfl, rfl, (St.front (L1 := [_, _, _]) (St.front (L1 := [_, _, _]) (St.front (L1 := [_, _, _]) (St.front (L1 := [_, _, _]) hN18))))⟩
    · rw [if_pos (by rfl)]
      apply ow_alloc hD
      rfl
      infer_instance
      intro g6 _ hN19
      refine hK.out _ _ ?_ (fun hHeld => ?_)
      · exact ldA (wordsV s.list) [_, _] hN19 (rfl) (rfl)
      clear hK K
      (try simp only [pmL, pnL, sc0, sc1])
      refine wpAnyH_ready (rs := [1, 2]) (by kernel_rfl) (by simp) ?_
      refine (AllReadyH.cons (o := ⟨some 15, _, _, _, _, _⟩) rfl (fun K hK => ?_) (AllReadyH.cons (o := ⟨some 5, _, _, _, _, _⟩) rfl (fun K hK => ?_) AllReadyH.nil))
      · go_simp
        go_at_call 114
        refine (keys_any _).mono ?_
        rintro _ _ ⟨rfl, h4⟩
        have hN20 := St.call0 hN19 h4
        clear h4
        refine hK.out _ _ ?_ (fun hHeld => ?_)
        · exact ldA (wordsV s.list) [_, _] hN20 (rfl) (rfl)
        clear hK K
        (try simp only [pmL, pnL, sc0, sc1])
        refine wpAnyH_ready (rs := [2]) (by kernel_rfl) (by simp) ?_
        refine (AllReadyH.cons (o := ⟨some 5, _, _, _, _, _⟩) rfl (fun K hK => ?_) AllReadyH.nil)
        rw [if_pos (by rfl)]
        apply ow_alloc hN20
        rfl
        infer_instance
        intro g5 _ hN21
        refine hK.out _ _ ?_ (fun hHeld => ?_)
        · exact ldA (wordsV s.list) [_, _, _] hN21 (rfl) (rfl)
        clear hK K
        (try simp only [pmL, pnL, sc0, sc1])
        refine wpAnyH_ready (rs := [4]) (by kernel_rfl) (by simp) ?_
        refine (AllReadyH.cons (o := ⟨none, _, _, _, _, _⟩) rfl (fun K hK => ?_) AllReadyH.nil)
        rw [if_pos (by rfl)]
        apply ow_storeA [] hN21
        rfl
        exact rfl
        exact rfl
        infer_instance
        exact rfl
        exact rfl
        exact rfl
        intro _ hN22
        refine hK.out _ _ ?_ (fun hHeld => ?_)
        · exact ldA (wordsV s.list) [_, _, _] hN22 (rfl) (rfl)
        clear hK K
        (try simp only [pmL, pnL, sc0, sc1])
        refine wpAnyH_ready (rs := [5]) (by kernel_rfl) (by simp) ?_
        refine (AllReadyH.cons (o := ⟨none, _, _, _, _, _⟩) rfl (fun K hK => ?_) AllReadyH.nil)
        rw [if_pos (by rfl)]
        apply ow_storeA [_] hN22
        rfl
        exact rfl
        exact rfl
        infer_instance
        exact rfl
        exact rfl
        exact rfl
        intro _ hN23
        refine hK.out _ _ ?_ (fun hHeld => ?_)
        · exact ldA (wordsV s.list) [_, _, _] hN23 (rfl) (rfl)
        clear hK K
        (try simp only [pmL, pnL, sc0, sc1])
        refine wpAnyH_done (by kernel_rfl) ?_ _
        clear hHeld
        go_wp2_with (first | go_big_skip | go_big_guard | fail)
        go_meet
        exact ⟨g5, g6, rfl, rfl, (St.front (L1 := [_, _, _]) (St.front (L1 := [_, _]) (St.front (L1 := [_, _, _]) (St.front (L1 := [_, _, _]) hN23))))⟩
      · rw [if_pos (by rfl)]
        apply ow_alloc hN19
        rfl
        infer_instance
        intro g5 _ hN24
        refine hK.out _ _ ?_ (fun hHeld => ?_)
        · exact ldA (wordsV s.list) [_, _, _] hN24 (rfl) (rfl)
        clear hK K
        (try simp only [pmL, pnL, sc0, sc1])
        refine wpAnyH_ready (rs := [1]) (by kernel_rfl) (by simp) ?_
        refine (AllReadyH.cons (o := ⟨some 15, _, _, _, _, _⟩) rfl (fun K hK => ?_) AllReadyH.nil)
        go_simp
        go_at_call 114
        refine (keys_any _).mono ?_
        rintro _ _ ⟨rfl, h4⟩
        have hN25 := St.call0 hN24 h4
        clear h4
        refine hK.out _ _ ?_ (fun hHeld => ?_)
        · exact ldA (wordsV s.list) [_, _, _] hN25 (rfl) (rfl)
        clear hK K
        (try simp only [pmL, pnL, sc0, sc1])
        refine wpAnyH_ready (rs := [4]) (by kernel_rfl) (by simp) ?_
        refine (AllReadyH.cons (o := ⟨none, _, _, _, _, _⟩) rfl (fun K hK => ?_) AllReadyH.nil)
        rw [if_pos (by rfl)]
        apply ow_storeA [] hN25
        rfl
        exact rfl
        exact rfl
        infer_instance
        exact rfl
        exact rfl
        exact rfl
        intro _ hN26
        refine hK.out _ _ ?_ (fun hHeld => ?_)
        · exact ldA (wordsV s.list) [_, _, _] hN26 (rfl) (rfl)
        clear hK K
        (try simp only [pmL, pnL, sc0, sc1])
        refine wpAnyH_ready (rs := [5]) (by kernel_rfl) (by simp) ?_
        refine (AllReadyH.cons (o := ⟨none, _, _, _, _, _⟩) rfl (fun K hK => ?_) AllReadyH.nil)
        rw [if_pos (by rfl)]
        apply ow_storeA [_] hN26
        rfl
        exact rfl
        exact rfl
        infer_instance
        exact rfl
        exact rfl
        exact rfl
        intro _ hN27
        refine hK.out _ _ ?_ (fun hHeld => ?_)
        · exact ldA (wordsV s.list) [_, _, _] hN27 (rfl) (rfl)
        clear hK K
        (try simp only [pmL, pnL, sc0, sc1])
        refine wpAnyH_done (by kernel_rfl) ?_ _
        clear hHeld
        go_wp2_with (first | go_big_skip | go_big_guard | fail)
        go_meet
        exact ⟨g5, g6, rfl, rfl, (St.front (L1 := [_, _, _]) (St.front (L1 := [_, _]) (St.front (L1 := [_, _, _]) (St.front (L1 := [_, _, _]) hN27))))⟩
  case rest =>
    clear hst2
    obtain ⟨g5, g6, rfl, rfl, hst3⟩ := hcut
    go_wp2_with (first | go_big_skip | go_big_guard | (refine wl_alloc hst3 rfl rfl ?_; intro g7 _ hst4; clear hst3))
    have hst5 : St w [] _ [.blk g7 172 (wordsV (win p 0)), .blk g6 169 (wordsV kT), .blk g5 117 (wordsV s.list), .blk g4 117 (List.replicate 8 (.int .u32 0)), .blk g2 117 (wordsV (rnds s p 0).list)] := hst4
    clear hst4
    go_loopw [16] (fun q wr => ∃ i : Nat, i ≤ 64 ∧ q = .int .i64 i ∧ St w [] wr [.blk g7 172 (wordsV (win p i)), .blk g6 169 (wordsV kT), .blk g5 117 (wordsV s.list), .blk g4 117 (List.replicate 8 (.int .u32 0)), .blk g2 117 (wordsV (rnds s p i).list)]) (fun q _ => 64 - (intOf q).toNat)
    case atStart => exact ⟨0, by omega, rfl, hst5⟩
    case round =>
      clear hst5
      obtain ⟨i, hi, rfl, hst⟩ := hrel
      by_cases hi64 : i < 64
      · obtain ⟨r, hr⟩ : ∃ r, r = rnds s p i := ⟨_, rfl⟩
        obtain ⟨K, hK⟩ : ∃ K, K = kT.getD i 0 := ⟨_, rfl⟩
        obtain ⟨D, hD0⟩ : ∃ D, D = wdAt p i := ⟨_, rfl⟩
        have HR := hid (show rnds s p (i + 1) = r.rnd K D by rw [hr, hK, hD0]; rfl)
        have HD := hid hD0
        rw [← hr] at hst
        have gK := hid (show (wordsV kT)[i]? = some (.int .u32 (wI K)) by rw [words_get kT (by exact hi64), hK])
        have hi2 : (i : Int) < 64 := by omega
        clear hr hK hD0
        go_wp2_with (first | go_big_skip | go_big_guard | fail)
        have hD := hst.drew
        clear hst
        refine wp_region_held_drew (S := (fun w' => (loadVarH 115 ⟨g2, 0, none⟩).run Tryz.prog w' = .ok (.int .u32 (wI r.a)) w' ∧ (loadVarH 115 ⟨g2, 4, none⟩).run Tryz.prog w' = .ok (.int .u32 (wI r.e)) w')) (by kernel_rfl) (by exact ⟨ldS [_, _, _, _] hD rfl, ldS [_, _, _, _] hD rfl⟩) (fun hHeld => ?_)
        refine tkH 0 19 ?_ rfl (by kernel_rfl) (fun _ _ _ h => h) (by rfl) (by assumption) ?_ ?_
        rotate_left
        · intro w hSw; (try dsimp only at hSw); go_simp; try with_reducible rfl
        (try simp only [pmL, pnL, sc0, sc1])
        refine tkH 1 20 ?_ rfl (by kernel_rfl) (fun _ _ _ h => h) (by rfl) (by assumption) ?_ ?_
        rotate_left
        · intro w hSw; (try dsimp only at hSw); go_simp; try with_reducible rfl
        (try simp only [pmL, pnL, sc0, sc1])
        refine tkH 2 21 ?_ rfl (by kernel_rfl) (fun _ _ _ h => h) (by rfl) (by assumption) ?_ ?_
        rotate_left
        · intro w hSw; (try dsimp only at hSw); go_simp; try with_reducible rfl
        (try simp only [pmL, pnL, sc0, sc1])
        refine tkH 3 22 ?_ rfl (by kernel_rfl) (fun _ _ _ h => h) (by rfl) (by assumption) ?_ ?_
        rotate_left
        · intro w hSw; (try dsimp only at hSw); go_simp; try with_reducible rfl
        (try simp only [pmL, pnL, sc0, sc1])
        refine tkH 4 9 ?_ rfl (by kernel_rfl) (fun _ _ _ h => h) (by rfl) (by assumption) ?_ ?_
        rotate_left
        · intro w hSw; (try dsimp only at hSw); go_simp; try with_reducible rfl
        (try simp only [pmL, pnL, sc0, sc1])
        refine tkH 5 10 ?_ rfl (by kernel_rfl) (fun _ _ _ h => h) (by rfl) (by assumption) ?_ ?_
        rotate_left
        · intro w hSw; (try dsimp only at hSw); go_simp; try with_reducible rfl
        (try simp only [pmL, pnL, sc0, sc1])
        refine wpAnyH_done (by kernel_rfl) ?_ _
        clear hHeld
        go_wp2_with (first | go_big_skip | go_big_guard | fail)
        replace hD := hD.drew
        refine wp_region_held_drew (S := (fun w' => (loadVarH 115 ⟨g2, 7, none⟩).run Tryz.prog w' = .ok (.int .u32 (wI r.h)) w' ∧ (loadVarH 115 ⟨g2, 5, none⟩).run Tryz.prog w' = .ok (.int .u32 (wI r.f)) w' ∧ (loadVarH 115 ⟨g2, 6, none⟩).run Tryz.prog w' = .ok (.int .u32 (wI r.g)) w' ∧ (loadVarH 115 ⟨g6, i, none⟩).run Tryz.prog w' = .ok (.int .u32 (wI K)) w')) (by kernel_rfl) (by exact ⟨ldS [_, _, _, _] hD rfl, ldS [_, _, _, _] hD rfl, ldS [_, _, _, _] hD rfl, ldS [_] hD (gK.out)⟩) (fun hHeld => ?_)
        refine tkH 0 23 ?_ rfl (by kernel_rfl) (fun _ _ _ h => h) (by rfl) (by assumption) ?_ ?_
        rotate_left
        · intro w hSw; (try dsimp only at hSw); go_simp; try with_reducible rfl
        (try simp only [pmL, pnL, sc0, sc1])
        refine tkH 1 24 ?_ rfl (by kernel_rfl) (fun _ _ _ h => h) (by rfl) (by assumption) ?_ ?_
        rotate_left
        · intro w hSw; (try dsimp only at hSw); go_simp; try with_reducible rfl
        (try simp only [pmL, pnL, sc0, sc1])
        refine tkH 2 25 ?_ rfl (by kernel_rfl) (fun _ _ _ h => h) (by rfl) (by assumption) ?_ ?_
        rotate_left
        · intro w hSw; (try dsimp only at hSw); go_simp; try with_reducible rfl
        (try simp only [pmL, pnL, sc0, sc1])
        refine tkH 4 27 ?_ rfl (by kernel_rfl) (fun _ _ _ h => h) (by rfl) (by assumption) ?_ ?_
        rotate_left
        · intro w hSw; (try dsimp only at hSw); go_simp; try with_reducible rfl
        (try simp only [pmL, pnL, sc0, sc1])
        refine tkH 7 30 ?_ rfl (by kernel_rfl) (fun _ _ _ h => h) (by rfl) (by assumption) ?_ ?_
        rotate_left
        · intro w hSw; (try dsimp only at hSw); go_simp; try with_reducible rfl
        (try simp only [pmL, pnL, sc0, sc1])
        refine tkH 11 34 ?_ rfl (by kernel_rfl) (fun _ _ _ h => h) (by rfl) (by assumption) ?_ ?_
        rotate_left
        · intro w hSw; (try dsimp only at hSw); go_simp; try with_reducible rfl
        (try simp only [pmL, pnL, sc0, sc1])
        refine tkH 12 35 ?_ rfl (by kernel_rfl) (fun _ _ _ h => h) (by rfl) (by assumption) ?_ ?_
        rotate_left
        · intro w hSw; (try dsimp only at hSw); go_simp; try with_reducible rfl
        (try simp only [pmL, pnL, sc0, sc1])
        refine tkH 13 36 ?_ rfl (by kernel_rfl) (fun _ _ _ h => h) (by rfl) (by assumption) ?_ ?_
        rotate_left
        · intro w hSw; (try dsimp only at hSw); go_simp; try with_reducible rfl
        (try simp only [pmL, pnL, sc0, sc1])
        refine tkH 14 37 ?_ rfl (by kernel_rfl) (fun _ _ _ h => h) (by rfl) (by assumption) ?_ ?_
        rotate_left
        · intro w hSw; (try dsimp only at hSw); go_simp; try with_reducible rfl
        (try simp only [pmL, pnL, sc0, sc1])
        refine tkH 15 38 ?_ rfl (by kernel_rfl) (fun _ _ _ h => h) (by rfl) (by assumption) ?_ ?_
        rotate_left
        · intro w hSw; (try dsimp only at hSw); go_simp; try with_reducible rfl
        (try simp only [pmL, pnL, sc0, sc1])
        refine tkH 16 39 ?_ rfl (by kernel_rfl) (fun _ _ _ h => h) (by rfl) (by assumption) ?_ ?_
        rotate_left
        · intro w hSw; (try dsimp only at hSw); go_simp; try with_reducible rfl
        (try simp only [pmL, pnL, sc0, sc1])
        refine tkH 17 40 ?_ rfl (by kernel_rfl) (fun _ _ _ h => h) (by rfl) (by assumption) ?_ ?_
        rotate_left
        · intro w hSw; (try dsimp only at hSw); go_simp; try with_reducible rfl
        (try simp only [pmL, pnL, sc0, sc1])
        refine tkH 18 41 ?_ rfl (by kernel_rfl) (fun _ _ _ h => h) (by rfl) (by assumption) ?_ ?_
        rotate_left
        · intro w hSw; (try dsimp only at hSw); go_simp; try with_reducible rfl
        (try simp only [pmL, pnL, sc0, sc1])
        refine tkH 19 42 ?_ rfl (by kernel_rfl) (fun _ _ _ h => h) (by rfl) (by assumption) ?_ ?_
        rotate_left
        · intro w hSw; (try dsimp only at hSw); go_simp; try with_reducible rfl
        (try simp only [pmL, pnL, sc0, sc1])
        refine tkH 20 43 ?_ rfl (by kernel_rfl) (fun _ _ _ h => h) (by rfl) (by assumption) ?_ ?_
        rotate_left
        · intro w hSw; (try dsimp only at hSw); go_simp; try with_reducible rfl
        (try simp only [pmL, pnL, sc0, sc1])
        refine tkH 22 45 ?_ rfl (by kernel_rfl) (fun _ _ _ h => h) (by rfl) (by assumption) ?_ ?_
        rotate_left
        · intro w hSw; (try dsimp only at hSw); go_simp; try with_reducible rfl
        (try simp only [pmL, pnL, sc0, sc1])
        refine tkH 23 46 ?_ rfl (by kernel_rfl) (fun _ _ _ h => h) (by rfl) (by assumption) ?_ ?_
        rotate_left
        · intro w hSw; (try dsimp only at hSw); go_simp; try with_reducible rfl
        (try simp only [pmL, pnL, sc0, sc1])
        refine tkH 24 47 ?_ rfl (by kernel_rfl) (fun _ _ _ h => h) (by rfl) (by assumption) ?_ ?_
        rotate_left
        · intro w hSw; (try dsimp only at hSw); go_simp; try with_reducible rfl
        (try simp only [pmL, pnL, sc0, sc1])
        refine tkH 26 49 ?_ rfl (by kernel_rfl) (fun _ _ _ h => h) (by rfl) (by assumption) ?_ ?_
        rotate_left
        · intro w hSw; (try dsimp only at hSw); go_simp; try with_reducible rfl
        (try simp only [pmL, pnL, sc0, sc1])
        refine tkH 27 50 ?_ rfl (by kernel_rfl) (fun _ _ _ h => h) (by rfl) (by assumption) ?_ ?_
        rotate_left
        · intro w hSw; (try dsimp only at hSw); go_simp; try with_reducible rfl
        (try simp only [pmL, pnL, sc0, sc1])
        refine wpAnyH_ready (rs := [3]) (by kernel_rfl) (by simp) ?_
        refine (AllReadyH.cons (o := ⟨some 26, _, _, _, _, _⟩) rfl (fun K hK => ?_) AllReadyH.nil)
        go_simp
        go_at_call 115
        refine (right_6 _ _).mono ?_
        rintro _ _ ⟨rfl, rfl⟩
        refine hK.out _ _ ?_ (fun hHeld => ?_)
        · exact ⟨ldS [_, _, _, _] hD rfl, ldS [_, _, _, _] hD rfl, ldS [_, _, _, _] hD rfl, ldS [_] hD (gK.out)⟩
        clear hK K
        (try simp only [pmL, pnL, sc0, sc1])
        refine wpAnyH_ready (rs := [5]) (by kernel_rfl) (by simp) ?_
        refine (AllReadyH.cons (o := ⟨some 28, _, _, _, _, _⟩) rfl (fun K hK => ?_) AllReadyH.nil)
        go_simp
        go_at_call 115
        refine (right_11 _ _).mono ?_
        rintro _ _ ⟨rfl, rfl⟩
        refine hK.out _ _ ?_ (fun hHeld => ?_)
        · exact ⟨ldS [_, _, _, _] hD rfl, ldS [_, _, _, _] hD rfl, ldS [_, _, _, _] hD rfl, ldS [_] hD (gK.out)⟩
        clear hK K
        (try simp only [pmL, pnL, sc0, sc1])
        refine tkH 6 29 ?_ rfl (by kernel_rfl) (fun _ _ _ h => h) (by rfl) (by assumption) ?_ ?_
        rotate_left
        · intro w hSw; (try dsimp only at hSw); go_simp; try with_reducible rfl
        (try simp only [pmL, pnL, sc0, sc1])
        refine wpAnyH_ready (rs := [8]) (by kernel_rfl) (by simp) ?_
        refine (AllReadyH.cons (o := ⟨some 31, _, _, _, _, _⟩) rfl (fun K hK => ?_) AllReadyH.nil)
        go_simp
        go_at_call 115
        refine (right_25 _ _).mono ?_
        rintro _ _ ⟨rfl, rfl⟩
        refine hK.out _ _ ?_ (fun hHeld => ?_)
        · exact ⟨ldS [_, _, _, _] hD rfl, ldS [_, _, _, _] hD rfl, ldS [_, _, _, _] hD rfl, ldS [_] hD (gK.out)⟩
        clear hK K
        (try simp only [pmL, pnL, sc0, sc1])
        refine tkH 9 32 ?_ rfl (by kernel_rfl) (fun _ _ _ h => h) (by rfl) (by assumption) ?_ ?_
        rotate_left
        · intro w hSw; (try dsimp only at hSw); go_simp; try with_reducible rfl
        (try simp only [pmL, pnL, sc0, sc1])
        refine tkH 10 33 ?_ rfl (by kernel_rfl) (fun _ _ _ h => h) (by rfl) (by assumption) ?_ ?_
        rotate_left
        · intro w hSw; (try dsimp only at hSw); go_simp; try with_reducible rfl
        (try simp only [pmL, pnL, sc0, sc1])
        refine tkH 21 44 ?_ rfl (by kernel_rfl) (fun _ _ _ h => h) (by rfl) (by assumption) ?_ ?_
        rotate_left
        · intro w hSw; (try dsimp only at hSw); go_simp; try with_reducible rfl
        (try simp only [pmL, pnL, sc0, sc1])
        refine tkH 25 48 ?_ rfl (by kernel_rfl) (fun _ _ _ h => h) (by rfl) (by assumption) ?_ ?_
        rotate_left
        · intro w hSw; (try dsimp only at hSw); go_simp; try with_reducible rfl
        (try simp only [pmL, pnL, sc0, sc1])
        refine wpAnyH_ready (rs := [28]) (by kernel_rfl) (by simp) ?_
        refine (AllReadyH.cons (o := ⟨some 51, _, _, _, _, _⟩) rfl (fun K hK => ?_) AllReadyH.nil)
        go_simp
        go_at_call 116
        refine (word_any g7 b off c i p _ (hD.all _ (.head _)) (Rd.old hD hp) Hl.out hi64 (St.ne_new hD (.head _) hb)).mono ?_
        rw [← HD.out]
        rintro _ _ ⟨rfl, h4⟩
        have hE := St.call1 [] hD h4
        clear h4
        refine hK.out _ _ ?_ (fun hHeld => ?_)
        · exact ⟨ldS [_, _, _, _] hE rfl, ldS [_, _, _, _] hE rfl, ldS [_, _, _, _] hE rfl, ldS [_] hE (gK.out)⟩
        clear hK K
        (try simp only [pmL, pnL, sc0, sc1])
        refine tkH 29 52 ?_ rfl (by kernel_rfl) (fun _ _ _ h => h) (by rfl) (by assumption) ?_ ?_
        rotate_left
        · intro w hSw; (try dsimp only at hSw); go_simp; try with_reducible rfl
        (try simp only [pmL, pnL, sc0, sc1])
        refine tkH 30 11 ?_ rfl (by kernel_rfl) (fun _ _ _ h => h) (by rfl) (by assumption) ?_ ?_
        rotate_left
        · intro w hSw; (try dsimp only at hSw); go_simp; try with_reducible rfl
        (try simp only [pmL, pnL, sc0, sc1])
        refine wpAnyH_done (by kernel_rfl) ?_ _
        clear hHeld
        go_wp2_with (first | go_big_skip | go_big_guard | fail)
        have hF := hE.drew
        clear hE
        refine wp_region_held_drew (S := (fun w' => (loadVarH 115 ⟨g2, 1, none⟩).run Tryz.prog w' = .ok (.int .u32 (wI r.b)) w' ∧ (loadVarH 115 ⟨g2, 2, none⟩).run Tryz.prog w' = .ok (.int .u32 (wI r.c)) w')) (by kernel_rfl) (by exact ⟨ldS [_, _, _, _] hF rfl, ldS [_, _, _, _] hF rfl⟩) (fun hHeld => ?_)
        refine tkH 0 53 ?_ rfl (by kernel_rfl) (fun _ _ _ h => h) (by rfl) (by assumption) ?_ ?_
        rotate_left
        · intro w hSw; (try dsimp only at hSw); go_simp; try with_reducible rfl
        (try simp only [pmL, pnL, sc0, sc1])
        refine tkH 2 55 ?_ rfl (by kernel_rfl) (fun _ _ _ h => h) (by rfl) (by assumption) ?_ ?_
        rotate_left
        · intro w hSw; (try dsimp only at hSw); go_simp; try with_reducible rfl
        (try simp only [pmL, pnL, sc0, sc1])
        refine tkH 5 58 ?_ rfl (by kernel_rfl) (fun _ _ _ h => h) (by rfl) (by assumption) ?_ ?_
        rotate_left
        · intro w hSw; (try dsimp only at hSw); go_simp; try with_reducible rfl
        (try simp only [pmL, pnL, sc0, sc1])
        refine tkH 8 61 ?_ rfl (by kernel_rfl) (fun _ _ _ h => h) (by rfl) (by assumption) ?_ ?_
        rotate_left
        · intro w hSw; (try dsimp only at hSw); go_simp; try with_reducible rfl
        (try simp only [pmL, pnL, sc0, sc1])
        refine tkH 9 62 ?_ rfl (by kernel_rfl) (fun _ _ _ h => h) (by rfl) (by assumption) ?_ ?_
        rotate_left
        · intro w hSw; (try dsimp only at hSw); go_simp; try with_reducible rfl
        (try simp only [pmL, pnL, sc0, sc1])
        refine tkH 10 63 ?_ rfl (by kernel_rfl) (fun _ _ _ h => h) (by rfl) (by assumption) ?_ ?_
        rotate_left
        · intro w hSw; (try dsimp only at hSw); go_simp; try with_reducible rfl
        (try simp only [pmL, pnL, sc0, sc1])
        refine tkH 11 64 ?_ rfl (by kernel_rfl) (fun _ _ _ h => h) (by rfl) (by assumption) ?_ ?_
        rotate_left
        · intro w hSw; (try dsimp only at hSw); go_simp; try with_reducible rfl
        (try simp only [pmL, pnL, sc0, sc1])
        refine tkH 12 65 ?_ rfl (by kernel_rfl) (fun _ _ _ h => h) (by rfl) (by assumption) ?_ ?_
        rotate_left
        · intro w hSw; (try dsimp only at hSw); go_simp; try with_reducible rfl
        (try simp only [pmL, pnL, sc0, sc1])
        refine tkH 13 66 ?_ rfl (by kernel_rfl) (fun _ _ _ h => h) (by rfl) (by assumption) ?_ ?_
        rotate_left
        · intro w hSw; (try dsimp only at hSw); go_simp; try with_reducible rfl
        (try simp only [pmL, pnL, sc0, sc1])
        refine tkH 14 67 ?_ rfl (by kernel_rfl) (fun _ _ _ h => h) (by rfl) (by assumption) ?_ ?_
        rotate_left
        · intro w hSw; (try dsimp only at hSw); go_simp; try with_reducible rfl
        (try simp only [pmL, pnL, sc0, sc1])
        refine tkH 15 68 ?_ rfl (by kernel_rfl) (fun _ _ _ h => h) (by rfl) (by assumption) ?_ ?_
        rotate_left
        · intro w hSw; (try dsimp only at hSw); go_simp; try with_reducible rfl
        (try simp only [pmL, pnL, sc0, sc1])
        refine tkH 16 69 ?_ rfl (by kernel_rfl) (fun _ _ _ h => h) (by rfl) (by assumption) ?_ ?_
        rotate_left
        · intro w hSw; (try dsimp only at hSw); go_simp; try with_reducible rfl
        (try simp only [pmL, pnL, sc0, sc1])
        refine tkH 17 70 ?_ rfl (by kernel_rfl) (fun _ _ _ h => h) (by rfl) (by assumption) ?_ ?_
        rotate_left
        · intro w hSw; (try dsimp only at hSw); go_simp; try with_reducible rfl
        (try simp only [pmL, pnL, sc0, sc1])
        refine tkH 18 71 ?_ rfl (by kernel_rfl) (fun _ _ _ h => h) (by rfl) (by assumption) ?_ ?_
        rotate_left
        · intro w hSw; (try dsimp only at hSw); go_simp; try with_reducible rfl
        (try simp only [pmL, pnL, sc0, sc1])
        refine tkH 19 72 ?_ rfl (by kernel_rfl) (fun _ _ _ h => h) (by rfl) (by assumption) ?_ ?_
        rotate_left
        · intro w hSw; (try dsimp only at hSw); go_simp; try with_reducible rfl
        (try simp only [pmL, pnL, sc0, sc1])
        refine tkH 20 73 ?_ rfl (by kernel_rfl) (fun _ _ _ h => h) (by rfl) (by assumption) ?_ ?_
        rotate_left
        · intro w hSw; (try dsimp only at hSw); go_simp; try with_reducible rfl
        (try simp only [pmL, pnL, sc0, sc1])
        refine tkH 21 74 ?_ rfl (by kernel_rfl) (fun _ _ _ h => h) (by rfl) (by assumption) ?_ ?_
        rotate_left
        · intro w hSw; (try dsimp only at hSw); go_simp; try with_reducible rfl
        (try simp only [pmL, pnL, sc0, sc1])
        refine tkH 22 75 ?_ rfl (by kernel_rfl) (fun _ _ _ h => h) (by rfl) (by assumption) ?_ ?_
        rotate_left
        · intro w hSw; (try dsimp only at hSw); go_simp; try with_reducible rfl
        (try simp only [pmL, pnL, sc0, sc1])
        refine wpAnyH_ready (rs := [1]) (by kernel_rfl) (by simp) ?_
        refine (AllReadyH.cons (o := ⟨some 54, _, _, _, _, _⟩) rfl (fun K hK => ?_) AllReadyH.nil)
        go_simp
        go_at_call 115
        refine (right_2 _ _).mono ?_
        rintro _ _ ⟨rfl, rfl⟩
        refine hK.out _ _ ?_ (fun hHeld => ?_)
        · exact ⟨ldS [_, _, _, _] hF rfl, ldS [_, _, _, _] hF rfl⟩
        clear hK K
        (try simp only [pmL, pnL, sc0, sc1])
        refine wpAnyH_ready (rs := [3]) (by kernel_rfl) (by simp) ?_
        refine (AllReadyH.cons (o := ⟨some 56, _, _, _, _, _⟩) rfl (fun K hK => ?_) AllReadyH.nil)
        go_simp
        go_at_call 115
        refine (right_13 _ _).mono ?_
        rintro _ _ ⟨rfl, rfl⟩
        refine hK.out _ _ ?_ (fun hHeld => ?_)
        · exact ⟨ldS [_, _, _, _] hF rfl, ldS [_, _, _, _] hF rfl⟩
        clear hK K
        (try simp only [pmL, pnL, sc0, sc1])
        refine tkH 4 57 ?_ rfl (by kernel_rfl) (fun _ _ _ h => h) (by rfl) (by assumption) ?_ ?_
        rotate_left
        · intro w hSw; (try dsimp only at hSw); go_simp; try with_reducible rfl
        (try simp only [pmL, pnL, sc0, sc1])
        refine wpAnyH_ready (rs := [6]) (by kernel_rfl) (by simp) ?_
        refine (AllReadyH.cons (o := ⟨some 59, _, _, _, _, _⟩) rfl (fun K hK => ?_) AllReadyH.nil)
        go_simp
        go_at_call 115
        refine (right_22 _ _).mono ?_
        rintro _ _ ⟨rfl, rfl⟩
        refine hK.out _ _ ?_ (fun hHeld => ?_)
        · exact ⟨ldS [_, _, _, _] hF rfl, ldS [_, _, _, _] hF rfl⟩
        clear hK K
        (try simp only [pmL, pnL, sc0, sc1])
        refine tkH 7 60 ?_ rfl (by kernel_rfl) (fun _ _ _ h => h) (by rfl) (by assumption) ?_ ?_
        rotate_left
        · intro w hSw; (try dsimp only at hSw); go_simp; try with_reducible rfl
        (try simp only [pmL, pnL, sc0, sc1])
        refine tkH 23 76 ?_ rfl (by kernel_rfl) (fun _ _ _ h => h) (by rfl) (by assumption) ?_ ?_
        rotate_left
        · intro w hSw; (try dsimp only at hSw); go_simp; try with_reducible rfl
        (try simp only [pmL, pnL, sc0, sc1])
        refine tkH 24 12 ?_ rfl (by kernel_rfl) (fun _ _ _ h => h) (by rfl) (by assumption) ?_ ?_
        rotate_left
        · intro w hSw; (try dsimp only at hSw); go_simp; try with_reducible rfl
        (try simp only [pmL, pnL, sc0, sc1])
        refine wpAnyH_done (by kernel_rfl) ?_ _
        clear hHeld
        go_wp2_with (first | go_big_skip | go_big_guard | (refine wl_loadE rfl rfl rfl ?_; first | refine ⟨_, Loads.at [_, _, _, _] hF rfl, ?_⟩) | (apply wl_buildX [(0, .int .u32 _), (1, .int .u32 _), (2, .int .u32 _), (3, .int .u32 _), (4, .int .u32 _), (5, .int .u32 _), (6, .int .u32 _), (7, .int .u32 _)]; rfl; rfl; exact rfl; exact bld8 _ _ _ _ _ _ _ _) | (refine wl_storeA [_, _, _, _] hF rfl rfl rfl rfl rfl rfl rfl ?_; intro w11 hst11; clear hF))
        have hst12 : St w [] w11 [.blk g7 172 (wordsV (win p (i + 1))), .blk g6 169 (wordsV kT), .blk g5 117 (wordsV s.list), .blk g4 117 (List.replicate 8 (.int .u32 0)), .blk g2 117 (wordsV (r.rnd K D).list)] := hst11
        rw [← HR.out] at hst12
        clear hst11
        go_roundw
        case rel => exact ⟨i + 1, by omega, by go_num, hst12⟩
        case measure => simp [intOf]; omega
      · have e : i = 64 := by omega
        subst e
        rw [show ((64 : Nat) : Int) = 64 from rfl]
        clear hi hi64
        obtain ⟨r, hr⟩ : ∃ r, r = rnds s p 64 := ⟨_, rfl⟩
        obtain ⟨F, hF⟩ : ∃ F, F = r.add s := ⟨_, rfl⟩
        have HR := hid (show s.turn p = F by rw [hF, hr]; rfl)
        have HF := hid hF
        rw [← hr] at hst
        clear hr hF
        have hst0 : St w [] wr [.blk g7 172 (wordsV (win p 64)), .blk g6 169 (wordsV kT), .blk g5 117 (wordsV s.list), .blk g4 117 (List.replicate 8 (.int .u32 0)), .blk g2 117 (wordsV (addPh r.list s.list 0))] := hst
        clear hst
        go_wp2_with (first | go_big_skip | go_big_guard | fail)
        go_loopw [96] (fun q wr => ∃ j : Nat, j ≤ 8 ∧ q = .int .i64 j ∧ St w [] wr [.blk g7 172 (wordsV (win p 64)), .blk g6 169 (wordsV kT), .blk g5 117 (wordsV s.list), .blk g4 117 (List.replicate 8 (.int .u32 0)), .blk g2 117 (wordsV (addPh r.list s.list j))]) (fun q _ => 8 - (intOf q).toNat)
        case atStart => exact ⟨0, by omega, rfl, hst0⟩
        case round =>
          clear hst0
          obtain ⟨j, hj, rfl, hst⟩ := hrel
          by_cases hj8 : j < 8
          · have hjz : (j : Int) < 8 := by omega
            have hlr : (addPh r.list s.list j).length = 8 := length_addP _ _ _
            obtain ⟨A, hA⟩ : ∃ A, A = r.list.getD j 0 := ⟨_, rfl⟩
            obtain ⟨B, hB⟩ : ∃ A, A = s.list.getD j 0 := ⟨_, rfl⟩
            have gA := hid (show (wordsV (addPh r.list s.list j))[j]? = some (.int .u32 (wI A)) by rw [words_get _ (by omega), addP_get _ _ _ _ (Nat.le_refl _), hA])
            have gB := hid (show (wordsV s.list)[j]? = some (.int .u32 (wI B)) by rw [words_get _ (by exact hj8), hB])
            have HA2 := hid (show (addPh r.list s.list j).set j (A + B) = addPh r.list s.list (j + 1) by rw [hA, hB]; rfl)
            have Hlr := hid hlr
            clear hA hB hlr
            go_wp2_with (first | go_big_skip | go_big_guard | fail)
            have hD := hst.drew
            clear hst
            refine wp_region_last (S := (fun w' => (loadVarH 115 ⟨g2, j, none⟩).run Tryz.prog w' = .ok (.int .u32 (wI A)) w' ∧ (loadVarH 115 ⟨g5, j, none⟩).run Tryz.prog w' = .ok (.int .u32 (wI B)) w')) (by kernel_rfl) rfl (by kernel_rfl) (by exact ⟨ldS [_, _, _, _] hD (gA.out), ldS [_, _] hD (gB.out)⟩) (fun hHeld => ?_)
            simp only [List.pop_toArray, List.dropLast, List.size_toArray, List.length_cons, List.length_nil]
            refine tkH 0 99 ?_ rfl (by kernel_rfl) (fun _ _ _ h => h) (by rfl) (by assumption) ?_ ?_
            rotate_left
            · intro w hSw; (try dsimp only at hSw); go_simp; try with_reducible rfl
            (try simp only [pmL, pnL, sc0, sc1])
            refine tkH 1 100 ?_ rfl (by kernel_rfl) (fun _ _ _ h => h) (by rfl) (by assumption) ?_ ?_
            rotate_left
            · intro w hSw; (try dsimp only at hSw); go_simp; try with_reducible rfl
            (try simp only [pmL, pnL, sc0, sc1])
            refine tkH 2 101 ?_ rfl (by kernel_rfl) (fun _ _ _ h => h) (by rfl) (by assumption) ?_ ?_
            rotate_left
            · intro w hSw; (try dsimp only at hSw); go_simp; try with_reducible rfl
            (try simp only [pmL, pnL, sc0, sc1])
            refine tkH 3 102 ?_ rfl (by kernel_rfl) (fun _ _ _ h => h) (by rfl) (by assumption) ?_ ?_
            rotate_left
            · intro w hSw; (try dsimp only at hSw); go_simp; try with_reducible rfl
            (try simp only [pmL, pnL, sc0, sc1])
            refine tkH 4 103 ?_ rfl (by kernel_rfl) (fun _ _ _ h => h) (by rfl) (by assumption) ?_ ?_
            rotate_left
            · intro w hSw; (try dsimp only at hSw); go_simp; try with_reducible rfl
            (try simp only [pmL, pnL, sc0, sc1])
            refine tkH 5 104 ?_ rfl (by kernel_rfl) (fun _ _ _ h => h) (by rfl) (by assumption) ?_ ?_
            rotate_left
            · intro w hSw; (try dsimp only at hSw); go_simp; try with_reducible rfl
            (try simp only [pmL, pnL, sc0, sc1])
            refine tkH 6 105 ?_ rfl (by kernel_rfl) (fun _ _ _ h => h) (by rfl) (by assumption) ?_ ?_
            rotate_left
            · intro w hSw; (try dsimp only at hSw); go_simp; try with_reducible rfl
            (try simp only [pmL, pnL, sc0, sc1])
            refine tkH 7 106 ?_ rfl (by kernel_rfl) (fun _ _ _ h => h) (by rfl) (by assumption) ?_ ?_
            rotate_left
            · intro w hSw; (try dsimp only at hSw); go_simp; try with_reducible rfl
            (try simp only [pmL, pnL, sc0, sc1])
            refine wpAnyH_done (by kernel_rfl) ?_ _
            clear hHeld
            refine QL_intro ?_
            refine wl_store [_, _, _, _] hD rfl rfl rfl (v := .int .u32 (wI (A + B))) rfl rfl rfl (by rw [length_wordsV, Hlr.out]; show j + 1 ≤ 8; omega) ?_
            intro w1 h1
            have h2 := st_setL [_, _, _, _] (by rw [Hlr.out]; exact hj8) h1
            rw [HA2.out] at h2
            clear h1 hD
            (try simp only [pmL, pnL, sc0, sc1])
            go_wp2_with (first | go_big_skip | go_big_guard | fail)
            go_roundw
            case rel => exact ⟨j + 1, by omega, by go_num, h2⟩
            case measure => simp [intOf]; omega
          · have e : j = 8 := by omega
            subst e
            rw [addP_all, ← HF.out] at hst
            go_wp2_with (first | go_big_skip | go_big_guard | (refine wl_loadE rfl rfl rfl ?_; first | refine ⟨_, Loads.atA (wordsV F.list) [_, _, _, _] hst (rfl) (rfl), ?_⟩) | (refine wl_storeA [_, _, _] hst rfl rfl rfl rfl rfl rfl rfl ?_; intro w12 hst12; clear hst))
            have hl := Loads.atA (P := Tryz.prog) (off := 0) (T := 117) (wordsV F.list) [_, _, _] hst12 rfl rfl
            refine bodyPost_ret (results_cellL rfl rfl hl) rfl ⟨by rw [HR.out], hst12.nil⟩
end
end Go.Proofs.YtmdfbdfijnmhkaaGreat
namespace Go.Proofs.YtmdfbdfijnmhkaaGreat
set_option linter.unusedVariables false
set_option linter.unusedSimpArgs false
open Go.RowKit Hp
attribute [local irreducible] Go.Calls
set_option maxHeartbeats 4000000
set_option maxRecDepth 100000
section
attribute [local go_sem ↓] loadedB loadedW storedW conv8
attribute [local go_sem 5000] add32 and32 or32 xor32 not32 shl8u64e shl16u64e shl24u64e shr3u64e shr10u64e
end
end Go.Proofs.YtmdfbdfijnmhkaaGreat
namespace Go.Proofs.YtmdfbdfijnmhkaaGreat
set_option linter.unusedVariables false
set_option linter.unusedSimpArgs false
open Go.RowKit Hp
attribute [local irreducible] Go.Calls
set_option maxHeartbeats 4000000
set_option maxRecDepth 100000
def zS : S8 := ⟨0, 0, 0, 0, 0, 0, 0, 0⟩
instance hyB36 : TyB Tryz.prog 116 (wordsV zS.list) := ⟨by kernel_rfl⟩
theorem start_any (w : World) : Calls Tryz.prog 59 #[] w fun e w' => e = .returned (.agg (wordsV S8.start.list).toArray) ∧ St w [] w' [] := by
  have hst := St.refl w
  go_enter Tryz.func59, Tryz.ntmps59
  go_wp2_with (first | go_big_skip | go_big_guard | (refine wl_alloc hst rfl rfl ?_; intro g _ hst1; clear hst) | (refine wl_buildS (cs := wordsV S8.start.list) rfl rfl (by kernel_rfl) ?_) | (refine wl_storeA [] hst1 rfl rfl rfl rfl rfl rfl rfl ?_; intro _ hst2; clear hst1))
  have hl := Loads.atA (P := Tryz.prog) (off := 0) (T := 116) (wordsV S8.start.list) [] hst2 rfl rfl
  refine bodyPost_ret (results_cellL rfl rfl hl) rfl ⟨rfl, hst2.nil⟩
section
attribute [local go_sem ↓] loadedB loadedW storedW conv8
attribute [local go_sem 5000] add32 and32 or32 xor32 not32 shl8u64e shl16u64e shl24u64e shr3u64e shr10u64e
end
end Go.Proofs.YtmdfbdfijnmhkaaGreat
namespace Go.Proofs.YtmdfbdfijnmhkaaGreat
set_option linter.unusedVariables false
set_option linter.unusedSimpArgs false
open Go.RowKit Go.Shelf Hp
attribute [local irreducible] Go.Calls
set_option maxRecDepth 100000
set_option maxHeartbeats 4000000
theorem Hp.wl_ixS {P : Program} {ops : Array Oper} {rest : List Oper} {o : Oper} {a : Act} {w : World} {Q : Exit → Act → World → Prop} {T e : TypeId} {x y : Operand} {cs : List Value} {k n : Nat} (v : Value)
    (hop : o.op = .index T x y) (hw : Region.wanted o (yielded ops a.tmps) = true) (hx : a.eval x = .agg cs.toArray) (hy : a.eval y = .int .i64 k) (hT : P.underlying T = some (.array n e)) (he : tyS P e = true) (hk : k < n) (hv : cs[k]? = some v)
    (h : wpList P ops Q rest (a.put o.dst v) w) : wpList P ops Q (o :: rest) a w := by
  obtain ⟨⟨d, hd, hr⟩, hi⟩ := tyS_spec he
  have hagg : (isAgg e).run P w = .ok false w := by
    unfold isAgg
    rw [Sem.run_bind, run_underlying hd w]
    cases d <;> simp_all [TypeDesc.isRow]
  have hsz : (sizeOf e).run P w = .ok 1 w := by
    cases hq : P.info? e with
    | none => simp [hq] at hi
    | some i => simp [hq] at hi; simp [sizeOf, typeInfo, hq, hi]
  have hk2 : (0 : Int) ≤ (k : Int) ∧ (k : Int) < (n : Int) := ⟨by omega, by omega⟩
  obtain ⟨hkl, hke⟩ := List.getElem?_eq_some_iff.1 hv
  refine wl_run hw ?_ h
  unfold execOp
  simp only [hop, hx, hy, Instr.index, asIntOf, Sem.run_bind, Sem.run_pure, Result.andThen_ok, run_underlying hT, Sem.run_ite, hk2, if_true, and_self, hsz, part, hagg, Int.toNat_natCast]
  simp [hke, hkl, hv]
theorem rowsB_at {T : TypeId} : ∀ {vs : List Value} {ps : List (List UInt8)} {k : Nat} {p : List UInt8}, vs.length = ps.length → ps[k]? = some p → ∃ v, vs[k]? = some v ∧ HA.rowP isB v T 1 p.length (bytesV p) ∈ rowsB T vs ps
  | v :: vs, q :: ps, 0, p, _, h => by
    cases h
    exact ⟨v, rfl, .head _⟩
  | v :: vs, q :: ps, k + 1, p, hl, h => by
    obtain ⟨u, h1, h2⟩ := rowsB_at (T := T) (k := k) (p := p) (by simpa using hl) (by simpa using h)
    exact ⟨u, by simpa using h1, .tail _ h2⟩
  | [], [], _, _, _, h => by cases h
theorem byte_of (x : Wd) : wI x % 256 = ((UInt8.ofNat x.toNat).toNat : Int) := by
  rw [UInt8.toNat_ofNat']
  show (x.toNat : Int) % 256 = ((x.toNat % 2 ^ 8 : Nat) : Int)
  omega
def foldP (ps : List (List UInt8)) (k : Nat) : S8 := (ps.take k).foldl S8.turn S8.start
theorem foldP_succ {ps : List (List UInt8)} {k : Nat} {p : List UInt8} (h : ps[k]? = some p) : foldP ps (k + 1) = (foldP ps k).turn p := by
  simp [foldP, List.take_add_one, h]
theorem foldP_zero (ps : List (List UInt8)) : foldP ps 0 = S8.start := by simp [foldP]
theorem foldP_all {ps : List (List UInt8)} {k : Nat} (h : k = ps.length) : foldP ps k = ps.foldl S8.turn S8.start := by
  subst h; simp [foldP]
def outB (l : List UInt8) (n : Nat) : List UInt8 := l.take n ++ List.replicate (32 - n) 0
theorem length_outB {l : List UInt8} {n : Nat} (hl : l.length = 32) (h : n ≤ 32) : (outB l n).length = 32 := by
  simp [outB]; omega
theorem put_outB {l : List UInt8} {n : Nat} {y : UInt8} (hl : l.length = 32) (h : n < 32) (hy : l.getD n 0 = y) : putAt (bytesV (outB l n)) n [.int .u8 (y.toNat : Int)] = bytesV (outB l (n + 1)) := by
  have h1 : l[n]? = some y := by
    rw [List.getD, List.getElem?_eq_getElem (by omega)] at hy
    rw [List.getElem?_eq_getElem (by omega)]
    exact congrArg some hy
  have h2 : outB l n = l.take n ++ (0 :: List.replicate (32 - (n + 1)) 0) := by
    rw [outB, show 32 - n = (32 - (n + 1)) + 1 by omega, List.replicate_succ]
  have h3 : outB l (n + 1) = l.take n ++ (y :: List.replicate (32 - (n + 1)) 0) := by
    rw [outB, List.take_add_one, h1]
    simp
  rw [h2, h3]
  have h4 : (bytesV (l.take n)).length = n := by rw [length_bytesV]; simp; omega
  unfold putAt
  rw [bytesV_append, bytesV_append, List.take_left' h4, ← List.drop_drop, List.drop_left' h4]
  rfl
theorem length_bytesS (s : S8) : s.bytes.length = 32 := rfl
theorem byteS_at : ∀ (s : S8) (j i : Nat), j < 8 → i < 4 → s.bytes.getD (4 * j + i) 0 = UInt8.ofNat (s.list.getD j 0 >>> (24 - 8 * i)).toNat := by
  intro s j i hj hi
  rcases j with _ | _ | _ | _ | _ | _ | _ | _ | j <;> first | omega | (rcases i with _ | _ | _ | _ | i <;> first | omega | rfl)
theorem outB_0 (l : List UInt8) : bytesV (outB l 0) = List.replicate 32 (.int .u8 0) := rfl
theorem outB_all {l : List UInt8} (hl : l.length = 32) : outB l 32 = l := by
  simp [outB, ← hl]
instance hyA29 : TyA Tryz.prog 32 32 := ⟨by kernel_rfl⟩
instance hyN29 : TyN Tryz.prog 32 32 := ⟨by kernel_rfl⟩
instance hyZ29 : TyZ Tryz.prog 32 (List.replicate 32 (.int .u8 0)) := ⟨by kernel_rfl⟩
theorem sum_any (ao : Option Addr) (n c : Nat) (bs : List UInt8) (w : World) (hA : Rd w (.slice ao n c) 1 n (bytesV bs)) (hn : bs.length = n) (hb : n ≤ 100000) :
    Calls Tryz.prog 23 #[.slice ao n c] w fun e w' => e = .returned (.agg (bytesV (sumB bs)).toArray) ∧ St w [] w' [] := by
  have hst := St.refl w
  obtain ⟨ps, hps⟩ : ∃ ps, ps = pieces bs := ⟨_, rfl⟩
  have HP := hid hps
  have hp64 : ∀ (k : Nat) (p : List UInt8), ps[k]? = some p → p.length = 64 := by
    intro k p hk
    rw [hps, pieces, List.getElem?_map] at hk
    cases hq : (List.range ((filled bs).length / 64))[k]? with
    | none => rw [hq] at hk; cases hk
    | some x =>
      rw [hq] at hk
      cases hk
      rw [List.getElem?_eq_some_iff] at hq
      obtain ⟨hx, rfl⟩ := hq
      simp at hx
      refine length_cut64 (m := (filled bs).length / 64) ?_ (by simpa using hx)
      have h1 := filled_mod bs
      omega
  have H64 := hid hp64
  clear hp64 hps
  go_enter Tryz.func23, Tryz.ntmps23
  go_wp2_with (first | go_big_skip | go_big_guard | (refine wl_alloc hst rfl rfl ?_; intro g2 _ hst1; clear hst) | (go_at_call 59; refine (start_any _).mono ?_; rintro _ _ ⟨rfl, h4⟩; have hst2 := St.call0 hst1 h4; clear h4 hst1) | (refine wl_alloc hst2 rfl rfl ?_; intro g3 _ hst3; clear hst2) | (refine wl_storeA [] hst3 rfl rfl rfl rfl rfl rfl rfl ?_; intro _ hst4; clear hst3) | (go_at_call 60; refine (fill_any ao n c bs _ (Rd.old hst4 hA) hn hb).mono ?_; rw [← HP.out]; rintro _ w5 ⟨out, vs, rfl, hvl, h4⟩; have hst5 := St.call hst4 h4; clear h4 hst4; obtain ⟨N, hN⟩ : ∃ N, N = vs.length := ⟨_, rfl⟩; rw [← hN] at hst5; obtain ⟨ax, cx, rfl⟩ := St.rowSliceAt [] hst5; have HN := hid hN; have HV := hid hvl; clear hN hvl))
  have hbd := (Rd.row hst5 (.head _)).bd
  have hbd1 := hbd.1
  have hbd2 := hbd.2.1
  clear hbd
  obtain ⟨Z, hZ⟩ : ∃ Z : List Value, Z = List.replicate 32 (.int .u8 0) := ⟨_, rfl⟩
  have HZ := hid hZ
  have hst6 : St w [] w5 (.blk g3 117 (wordsV (foldP ps 0).list) :: .blk g2 32 Z :: .row (.slice ax N cx) 28 1 N vs :: rowsB 5 vs ps) := by
    rw [hZ, foldP_zero]
    exact St.perm hst5 (by
      refine (List.perm_append_comm (l₁ := _ :: rowsB 5 vs ps)).trans ?_
      exact List.Perm.refl _)
  clear hst5 hZ
  go_loopw [14] (fun q wr => ∃ k : Nat, k ≤ N ∧ q = .int .i64 k ∧ St w [] wr (.blk g3 117 (wordsV (foldP ps k).list) :: .blk g2 32 Z :: .row (.slice ax N cx) 28 1 N vs :: rowsB 5 vs ps)) (fun q _ => N - (intOf q).toNat)
  case atStart => exact ⟨0, by omega, rfl, hst6⟩
  case round =>
    clear hst6
    obtain ⟨k, hk, rfl, hst⟩ := hrel
    by_cases hkN : k < N
    · obtain ⟨p, hp⟩ : ∃ p, ps[k]? = some p := ⟨_, List.getElem?_eq_getElem (by rw [← HV.out, ← HN.out]; exact hkN)⟩
      obtain ⟨v, hv, hm⟩ := rowsB_at (T := 5) HV.out hp
      have hl64 := H64.out k p hp
      obtain ⟨S, hS⟩ : ∃ S, S = foldP ps k := ⟨_, rfl⟩
      obtain ⟨T, hT⟩ : ∃ T, T = S.turn p := ⟨_, rfl⟩
      have HS := hid (show foldP ps (k + 1) = T by rw [hT, hS, foldP_succ hp])
      have HT := hid hT
      rw [← hS] at hst
      obtain ⟨bq, cq, rfl, _, _⟩ := rowP_some hst (.tail _ (.tail _ (.tail _ hm))) (by omega)
      obtain ⟨b, off, rfl, hr⟩ := (Rd.row hst (.tail _ (.tail _ (.head _)))).at hkN
      have hc := hr k _ hv
      rw [hl64] at hc hm
      have HL := hid hl64
      have HM := hid hm
      have hk2 : (k : Int) < (N : Int) := by omega
      clear hr hv hS hp hl64 hm hT
      go_wp2_with (first | go_big_skip | go_big_guard | (refine wl_loadE rfl rfl rfl ?_; first | refine ⟨_, Loads.atA (wordsV S.list) [] hst (rfl) (rfl), ?_⟩) | (go_at_call 61; refine (turned_any S p bq 0 cq _ (Rd.rowP hst (.tail _ (.tail _ (.tail _ HM.out)))) HL.out).mono ?_; rw [← HT.out]; rintro _ _ ⟨rfl, h4⟩; have hst1 := St.call0 hst h4; clear h4 hst) | (refine wl_storeA [] hst1 rfl rfl rfl rfl rfl rfl rfl ?_; intro _ hst2; clear hst1))
      go_roundw
      case rel => exact ⟨k + 1, by omega, by go_num, by rw [HS.out]; exact hst2⟩
      case measure => simp [intOf]; omega
    · have ek : k = N := by omega
      subst ek
      have e : (foldP ps k).bytes = sumB bs := by rw [foldP_all (HN.out.trans HV.out), HP.out]; rfl
      obtain ⟨S, hS⟩ : ∃ S, S = foldP ps k := ⟨_, rfl⟩
      rw [← hS] at e hst
      have HE := hid e
      clear e hS
      go_wp2_with (first | go_big_skip | go_big_guard | (refine wl_alloc hst rfl rfl ?_; intro g6 w6 hst1; clear hst) | (refine wl_loadE rfl rfl rfl ?_; first | refine ⟨_, Loads.atA (wordsV S.list) [_] hst1 (rfl) (rfl), ?_⟩))
      clear hk hkN
      obtain ⟨R, hR⟩ : ∃ R : List HA, R = .row (.slice ax k cx) 28 1 k vs :: rowsB 5 vs ps := ⟨_, rfl⟩
      have hst2 : St w [] w6 (.blk g6 32 (bytesV (outB S.bytes (4 * 0))) :: .blk g3 117 (wordsV S.list) :: .blk g2 32 Z :: R) := by rw [hR, show 4 * 0 = 0 from rfl, outB_0]; exact hst1
      clear hst1 hR
      go_loopw [23] (fun q wr => ∃ j : Nat, j ≤ 8 ∧ q = .int .i64 j ∧ St w [] wr (.blk g6 32 (bytesV (outB S.bytes (4 * j))) :: .blk g3 117 (wordsV S.list) :: .blk g2 32 Z :: R)) (fun q _ => 8 - (intOf q).toNat)
      case atStart => exact ⟨0, by omega, rfl, hst2⟩
      case round =>
        clear hst2
        obtain ⟨j, hj, rfl, hst⟩ := hrel
        by_cases hj8 : j < 8
        · obtain ⟨x, hx⟩ : ∃ x, x = S.list.getD j 0 := ⟨_, rfl⟩
          have gx := words_get S.list (show j < S.list.length from hj8)
          rw [← hx] at gx
          have HX := hid hx
          have hj2 : (j : Int) < 8 := by omega
          have GX := hid gx
          clear hx gx
          go_wp2_with (first | go_big_skip | go_big_guard | (refine wl_ixS (.int .u32 (wI x)) rfl rfl rfl rfl Tryz.underlying117 (by kernel_rfl) hj8 GX.out ?_))
          have hst2 : St w [] _ (.blk g6 32 (bytesV (outB S.bytes (4 * j + 0))) :: .blk g3 117 (wordsV S.list) :: .blk g2 32 Z :: R) := hst
          clear hst
          go_loopw [27] (fun q wr => ∃ i : Nat, i ≤ 4 ∧ q = .int .i64 i ∧ St w [] wr (.blk g6 32 (bytesV (outB S.bytes (4 * j + i))) :: .blk g3 117 (wordsV S.list) :: .blk g2 32 Z :: R)) (fun q _ => 4 - (intOf q).toNat)
          case atStart => exact ⟨0, by omega, rfl, hst2⟩
          case round =>
            clear hst2
            obtain ⟨i, hi, rfl, hst⟩ := hrel
            by_cases hi4 : i < 4
            · obtain ⟨Y, hY⟩ : ∃ Y, Y = UInt8.ofNat (x >>> (24 - 8 * i)).toNat := ⟨_, rfl⟩
              obtain ⟨X, hX⟩ : ∃ X : Int, X = wI (x >>> (24 - 8 * i)) := ⟨_, rfl⟩
              have f1 : ∀ T, binOp .shr T (.int .u32 (wI x)) (.int .i64 (24 - 8 * (i : Int))) = pure (.int .u32 X) := by
                intro T
                rw [show (24 - 8 * (i : Int)) = ((24 - 8 * i : Nat) : Int) by omega, shrN T x .i64 (24 - 8 * i) (by omega), hX]
              have f3 : X % 256 = (Y.toNat : Int) := by
                rw [hX, hY, byte_of]
              have f2 : IntKind.u8.wrap X = (Y.toNat : Int) := f3
              have HY := hid (show S.bytes.getD (4 * j + i) 0 = Y by rw [byteS_at S j i hj8 hi4, ← HX.out, hY])
              have HO := hid (length_outB (l := S.bytes) (n := 4 * j + i) (length_bytesS S) (by omega))
              have z0 : IntKind.i64.wrap (4 * (j : Int)) = 4 * (j : Int) := IntWalk.i64_in _ (by omega)
              have z1 : IntKind.i64.wrap (4 * (j : Int) + (i : Int)) = 4 * (j : Int) + (i : Int) := IntWalk.i64_in _ (by omega)
              have n1 : (4 * (j : Int) + (i : Int)).toNat = 4 * j + i := by omega
              have b1 : 4 * (j : Int) + (i : Int) < 32 := by omega
              have c1 : 0 ≤ 4 * (j : Int) + (i : Int) := by omega
              clear hX hY
              go_wp2_with (first | go_big_skip | go_big_guard | (refine wl_store [] hst rfl rfl rfl (v := .int _ _) rfl rfl rfl ?_ ?_; (rw [length_bytesV, HO.out]; show 4 * j + i + 1 ≤ 32; omega); intro w9 hst2; clear hst))
              have hst3 : St w [] w9 (.blk g6 32 (bytesV (outB S.bytes (4 * j + (i + 1)))) :: .blk g3 117 (wordsV S.list) :: .blk g2 32 Z :: R) := by
                have h := put_outB (length_bytesS S) (show 4 * j + i < 32 by omega) HY.out
                rw [← Nat.add_assoc, ← h]
                exact hst2
              clear hst2
              go_roundw
              case rel => exact ⟨i + 1, by omega, by go_num, hst3⟩
              case measure => simp [intOf]; omega
            · have e : i = 4 := by omega
              subst e
              rw [show 4 * j + 4 = 4 * (j + 1) by omega] at hst
              go_wp2_with (first | go_big_skip | go_big_guard | fail)
              go_roundw
              case rel => exact ⟨j + 1, by omega, by go_num, hst⟩
              case measure => simp [intOf]; omega
        · have e : j = 8 := by omega
          subst e
          rw [show 4 * 8 = 32 from rfl, outB_all (length_bytesS S), HE.out] at hst
          have h32 : (bytesV (sumB bs)).length = 32 := by rw [← HE.out]; rfl
          go_wp2_with (first | go_big_skip | go_big_guard | (refine wl_loadE rfl rfl rfl ?_; first | refine ⟨_, Loads.atA (bytesV (sumB bs)) [] hst (h32) (by rw [List.drop_zero, List.take_length]), ?_⟩) | (refine wl_storeA [_, _] hst rfl rfl rfl rfl (h32) (ones_bytesV _) (by rw [HZ.out]; rfl) ?_; intro w12 hst12; clear hst))
          have hl := Loads.atA (P := Tryz.prog) (off := 0) (T := 32) (bytesV (sumB bs)) [_, _] hst12 h32 (by rw [List.drop_zero, List.take_length])
          refine bodyPost_ret (results_cellL rfl rfl hl) rfl ⟨rfl, hst12.nil⟩
end Go.Proofs.YtmdfbdfijnmhkaaGreat
namespace Go.Proofs.YtmdfbdfijnmhkaaGreat
set_option linter.unusedVariables false
set_option linter.unusedSimpArgs false
open Go.RowKit Hp
attribute [local irreducible] Go.Calls Go.wpList
set_option maxRecDepth 100000
set_option maxHeartbeats 4000000
theorem mirC_get {ga : Nat} {m : MV} {k : Nat} {e : ER} (h : m.e[k]? = some e) {i : Nat} {v : Value} (hv : e.cells[i]? = some v) (hi : i < 3) : (mirC ga m)[1 + k * 3 + i]? = some v := by
  have := flat_get (sz := 3) (f := ER.cells) (fun d => rfl) h i hi
  rw [show 1 + k * 3 + i = (k * 3 + i) + 1 by omega]
  unfold mirC
  rw [List.getElem?_cons_succ, this, hv]
theorem mirC_put {ga : Nat} {m : MV} {k : Nat} {e : ER} {f : ER → ER} (h : m.e[k]? = some e) {i : Nat} {v : Value} (hi : i < 3) (hf : putAt e.cells i [v] = (f e).cells) : putAt (mirC ga m) (1 + k * 3 + i) [v] = mirC ga { m with e := m.e.modify k f } := by
  have := flat_put (sz := 3) (f := ER.cells) (fun d => rfl) h hi hf []
  rw [List.append_nil, List.append_nil] at this
  have hm : m.e.set k (f e) = m.e.modify k f := by
    apply List.ext_getElem?
    intro j
    rw [modify_get, List.getElem?_set]
    by_cases hj : k = j
    · subst hj
      rw [if_pos rfl, if_pos rfl, h, if_pos (List.getElem?_eq_some_iff.1 h).1, Option.map_some]
    · rw [if_neg hj, if_neg hj]
  unfold mirC
  rw [← hm, ← this, show 1 + k * 3 + i = (k * 3 + i) + 1 by omega]
  simp [putAt, Nat.add_right_comm]
theorem er_get {m : MV} {N : Nat} (h : MGood m N) {k : Nat} (hk : k < m.a.devs.length) : m.e[k]? = some (m.er (k : Int)) := by
  have hl := h.el
  have hd := h.sc.ok.dn
  unfold MV.er
  rw [List.getD_eq_getElem?_getD, Int.toNat_natCast, List.getElem?_eq_getElem (by omega)]
  rfl
theorem er_in {m : MV} {N : Nat} (h : MGood m N) {k : Nat} (hk : k < m.a.devs.length) : 0 ≤ (m.er (k : Int)).rd ∧ (m.er (k : Int)).rd ≤ N ∧ 0 ≤ (m.er (k : Int)).sm ∧ (m.er (k : Int)).sm ≤ N ∧ 0 ≤ (m.er (k : Int)).he ∧ (m.er (k : Int)).he ≤ N := h.en _ (List.mem_of_getElem? (er_get h hk))
theorem bump_rd {w0 w : World} {M : List Nat} {R : List HA} {g : Nat} {cs : List Value} {k : Nat} {z : Int} (hS : St w0 M w (.blk g 97 cs :: R)) (hk : cs[1 + k * 3 + 0]? = some (.int .i64 z)) (hz : 0 ≤ z ∧ z ≤ 1000000) :
    Calls Tryz.prog 148 #[.pointer (some ⟨g, 1 + k * 3, none⟩)] w fun e w' => e = .returned (.tuple #[]) ∧ St w0 M w' (.blk g 97 (putAt cs (1 + k * 3 + 0) [.int .i64 (z + 1)]) :: R) := by
  have hst := hS
  have HK := hid hk
  have HF := hid (show 1 + k * 3 + 0 + 1 ≤ cs.length from (List.getElem?_eq_some_iff.1 hk).1)
  have z1 : IntKind.i64.wrap (z + 1) = z + 1 := IntWalk.i64_in _ (by omega)
  clear hS hk
  go_enter Tryz.func148, Tryz.ntmps148
  go_wp2_with (first | go_big_skip | go_big_guard | (refine wl_loadE rfl rfl rfl ?_; refine ⟨_, Loads.at (P := Tryz.prog) [] hst HK.out, ?_⟩) | (refine wl_store [] hst rfl rfl rfl (off := 1 + k * 3 + 0) (v := .int .i64 (z + 1)) rfl rfl rfl ?_ ?_; (exact HF.out); intro _ hst2; clear hst))
  go_end0
  exact ⟨rfl, hst2⟩
theorem bump_sm {w0 w : World} {M : List Nat} {R : List HA} {g : Nat} {cs : List Value} {k : Nat} {z : Int} (hS : St w0 M w (.blk g 97 cs :: R)) (hk : cs[1 + k * 3 + 1]? = some (.int .i64 z)) (hz : 0 ≤ z ∧ z ≤ 1000000) :
    Calls Tryz.prog 149 #[.pointer (some ⟨g, 1 + k * 3, none⟩)] w fun e w' => e = .returned (.tuple #[]) ∧ St w0 M w' (.blk g 97 (putAt cs (1 + k * 3 + 1) [.int .i64 (z + 1)]) :: R) := by
  have hst := hS
  have HK := hid hk
  have HF := hid (show 1 + k * 3 + 1 + 1 ≤ cs.length from (List.getElem?_eq_some_iff.1 hk).1)
  have z1 : IntKind.i64.wrap (z + 1) = z + 1 := IntWalk.i64_in _ (by omega)
  clear hS hk
  go_enter Tryz.func149, Tryz.ntmps149
  go_wp2_with (first | go_big_skip | go_big_guard | (refine wl_loadE rfl rfl rfl ?_; refine ⟨_, Loads.at (P := Tryz.prog) [] hst HK.out, ?_⟩) | (refine wl_store [] hst rfl rfl rfl (off := 1 + k * 3 + 1) (v := .int .i64 (z + 1)) rfl rfl rfl ?_ ?_; (exact HF.out); intro _ hst2; clear hst))
  go_end0
  exact ⟨rfl, hst2⟩
theorem bump_he {w0 w : World} {M : List Nat} {R : List HA} {g : Nat} {cs : List Value} {k : Nat} {z : Int} (hS : St w0 M w (.blk g 97 cs :: R)) (hk : cs[1 + k * 3 + 2]? = some (.int .i64 z)) (hz : 0 ≤ z ∧ z ≤ 1000000) :
    Calls Tryz.prog 111 #[.pointer (some ⟨g, 1 + k * 3, none⟩)] w fun e w' => e = .returned (.tuple #[]) ∧ St w0 M w' (.blk g 97 (putAt cs (1 + k * 3 + 2) [.int .i64 (z + 1)]) :: R) := by
  have hst := hS
  have HK := hid hk
  have HF := hid (show 1 + k * 3 + 2 + 1 ≤ cs.length from (List.getElem?_eq_some_iff.1 hk).1)
  have z1 : IntKind.i64.wrap (z + 1) = z + 1 := IntWalk.i64_in _ (by omega)
  clear hS hk
  go_enter Tryz.func111, Tryz.ntmps111
  go_wp2_with (first | go_big_skip | go_big_guard | (refine wl_loadE rfl rfl rfl ?_; refine ⟨_, Loads.at (P := Tryz.prog) [] hst HK.out, ?_⟩) | (refine wl_store [] hst rfl rfl rfl (off := 1 + k * 3 + 2) (v := .int .i64 (z + 1)) rfl rfl rfl ?_ ?_; (exact HF.out); intro _ hst2; clear hst))
  go_end0
  exact ⟨rfl, hst2⟩
theorem counts_rd {w0 w : World} {M : List Nat} {R : List HA} {gm ga : Nat} {m : MV} {N : Nat} (hS : St w0 M w (mB gm ga m :: R)) (hg : MGood m N) (hN : N ≤ 1000000) (k : Nat) (hk : k < m.a.devs.length) :
    Calls Tryz.prog 110 #[PM gm, .int .i64 (k : Int), .func (.func 148) #[] #[]] w fun e w' => e = .returned (.tuple #[]) ∧ St w0 M w' (mB gm ga { m with e := m.e.modify k fRd } :: R) := by
  have hst : St w0 M w (.blk gm 97 (mirC ga m) :: R) := hS
  have hd := hg.sc.ok.dn
  have h8 : k < 8 := by omega
  have HC := hid (mirC_get (ga := ga) (er_get hg hk) (i := 0) rfl (by decide))
  have HP := hid (mirC_put (ga := ga) (er_get hg hk) (f := fRd) (i := 0) (v := .int .i64 ((m.er (k : Int)).rd + 1)) (by decide) rfl)
  have HZ := hid (show 0 ≤ (m.er (k : Int)).rd ∧ (m.er (k : Int)).rd ≤ 1000000 by have := er_in hg hk; omega)
  clear hS hg hd hk
  unfold PM
  go_enter Tryz.func110, Tryz.ntmps110
  go_wp2_with (first | go_big_skip | go_big_guard | (go_at_call 148; refine (bump_rd (k := k) hst HC.out HZ.out).mono ?_; rw [HP.out]; rintro _ w9 ⟨rfl, h4⟩; have hst2 := h4; clear h4 hst))
  go_end0
  exact ⟨rfl, hst2⟩
theorem counts_sm {w0 w : World} {M : List Nat} {R : List HA} {gm ga : Nat} {m : MV} {N : Nat} (hS : St w0 M w (mB gm ga m :: R)) (hg : MGood m N) (hN : N ≤ 1000000) (k : Nat) (hk : k < m.a.devs.length) :
    Calls Tryz.prog 110 #[PM gm, .int .i64 (k : Int), .func (.func 149) #[] #[]] w fun e w' => e = .returned (.tuple #[]) ∧ St w0 M w' (mB gm ga { m with e := m.e.modify k fSm } :: R) := by
  have hst : St w0 M w (.blk gm 97 (mirC ga m) :: R) := hS
  have hd := hg.sc.ok.dn
  have h8 : k < 8 := by omega
  have HC := hid (mirC_get (ga := ga) (er_get hg hk) (i := 1) rfl (by decide))
  have HP := hid (mirC_put (ga := ga) (er_get hg hk) (f := fSm) (i := 1) (v := .int .i64 ((m.er (k : Int)).sm + 1)) (by decide) rfl)
  have HZ := hid (show 0 ≤ (m.er (k : Int)).sm ∧ (m.er (k : Int)).sm ≤ 1000000 by have := er_in hg hk; omega)
  clear hS hg hd hk
  unfold PM
  go_enter Tryz.func110, Tryz.ntmps110
  go_wp2_with (first | go_big_skip | go_big_guard | (go_at_call 149; refine (bump_sm (k := k) hst HC.out HZ.out).mono ?_; rw [HP.out]; rintro _ w9 ⟨rfl, h4⟩; have hst2 := h4; clear h4 hst))
  go_end0
  exact ⟨rfl, hst2⟩
theorem counts_he {w0 w : World} {M : List Nat} {R : List HA} {gm ga : Nat} {m : MV} {N : Nat} (hS : St w0 M w (mB gm ga m :: R)) (hg : MGood m N) (hN : N ≤ 1000000) (k : Nat) (hk : k < m.a.devs.length) :
    Calls Tryz.prog 110 #[PM gm, .int .i64 (k : Int), .func (.func 111) #[] #[]] w fun e w' => e = .returned (.tuple #[]) ∧ St w0 M w' (mB gm ga { m with e := m.e.modify k fHe } :: R) := by
  have hst : St w0 M w (.blk gm 97 (mirC ga m) :: R) := hS
  have hd := hg.sc.ok.dn
  have h8 : k < 8 := by omega
  have HC := hid (mirC_get (ga := ga) (er_get hg hk) (i := 2) rfl (by decide))
  have HP := hid (mirC_put (ga := ga) (er_get hg hk) (f := fHe) (i := 2) (v := .int .i64 ((m.er (k : Int)).he + 1)) (by decide) rfl)
  have HZ := hid (show 0 ≤ (m.er (k : Int)).he ∧ (m.er (k : Int)).he ≤ 1000000 by have := er_in hg hk; omega)
  clear hS hg hd hk
  unfold PM
  go_enter Tryz.func110, Tryz.ntmps110
  go_wp2_with (first | go_big_skip | go_big_guard | (go_at_call 111; refine (bump_he (k := k) hst HC.out HZ.out).mono ?_; rw [HP.out]; rintro _ w9 ⟨rfl, h4⟩; have hst2 := h4; clear h4 hst))
  go_end0
  exact ⟨rfl, hst2⟩
end Go.Proofs.YtmdfbdfijnmhkaaGreat
namespace Go.Proofs.YtmdfbdfijnmhkaaGreat
set_option linter.unusedVariables false
set_option linter.unusedSimpArgs false
open Go.RowKit Hp
attribute [local irreducible] Go.Calls Go.wpList
set_option maxRecDepth 100000
set_option maxHeartbeats 4000000
theorem readE_inS {a : AR} {dev pl : Int} (h : a.readE dev pl = 0 ∨ a.readE dev pl = 13) : a.inS dev pl = true := by
  unfold AR.readE at h
  split at h
  · rcases h with h | h <;> cases h
  · split at h
    · rcases h with h | h <;> cases h
    · split at h
      · rcases h with h | h <;> cases h
      · rename_i h2
        simpa using h2
theorem readB_len {a : AR} (ok : a.Ok) {dev pl : Int} (h : a.readE dev pl = 0) : (a.readB dev pl).length = 256 := by
  have hs := readE_inS (.inl h)
  have hp := inS_pl hs
  have hd := inD_dev (inS_inD hs)
  unfold AR.readB
  rw [if_pos h]
  obtain ⟨k, rfl⟩ : ∃ k : Nat, dev = k := ⟨dev.toNat, by omega⟩
  obtain ⟨p, rfl⟩ : ∃ p : Nat, pl = p := ⟨pl.toNat, by omega⟩
  have hT := tells_len ok hs a.loose.length
  rwa [List.take_length] at hT
theorem writeE_inS {a : AR} {dev pl : Int} {b : List UInt8} (h : a.writeE dev pl b = 0) : a.inS dev pl = true := by
  unfold AR.writeE at h
  split at h
  · cases h
  · split at h
    · cases h
    · split at h
      · cases h
      · rename_i h2
        simpa using h2
theorem inS_dev {a : AR} {dev pl : Int} (h : a.inS dev pl = true) : ∃ k : Nat, dev = k ∧ k < a.devs.length := by
  have := inD_dev (inS_inD h)
  exact ⟨dev.toNat, by omega, by omega⟩
theorem MGood.ll {m : MV} {N : Nat} (h : MGood m N) (hN : N ≤ 900000) : m.a.loose.length < 1000000 := by have := h.sc.ll; omega
theorem MGood.st {m : MV} {N : Nat} (h : MGood m N) (hN : N ≤ 900000) : 0 ≤ m.a.steps ∧ m.a.steps < 4611686018427387904 := by have := h.sc.st; omega
section
theorem loadedIm3 (A : Addr) : loadVar 3 A = loadVarH 3 A := rfl
theorem loadedAm3 (A : Addr) : loadVar 23 A = loadVarH 23 A := rfl
theorem loadedDm3 (A : Addr) : loadVar 32 A = loadVarH 32 A := rfl
attribute [local go_sem ↓] loadedIm3 loadedAm3 loadedDm3
theorem look_out {w0 w : World} {M : List Nat} {R : List HA} {gm ga : Nat} {x : GA} {m : MV} {N : Nat} (hS : St w0 M w (mP gm ga x m ++ R)) (hg : MGood m N) (hN : N ≤ 900000) (dev pl : Int) (S : List UInt8) (hL : L32 S) (h1 : m.a.readE dev pl = 10) :
    Calls Tryz.prog 118 #[PM gm, .agg #[.int .i64 dev, .int .i64 pl], .agg (bytesV S).toArray] w fun e w' => ∃ v, e = .returned (.agg #[.int .i64 (m.kind dev pl S), v]) ∧ St w0 M w' (.rowP isB v 5 1 (m.lookB dev pl S).length (bytesV (m.lookB dev pl S)) :: (mP gm ga x (m.looked dev pl S) ++ R)) := by
  have hk : m.kind dev pl S = 3 := by unfold MV.kind; rw [if_pos h1]
  have hb : m.lookB dev pl S = [] := by unfold MV.lookB; rw [hk]; rfl
  have hm : m.looked dev pl S = ⟨m.a.read dev pl, m.e⟩ := by unfold MV.looked; rw [if_neg (by rw [h1]; decide), if_neg (by rw [hk]; decide)]
  rw [hk, hb, hm]
  have HG := hid hg
  have HLL := hid (hg.ll hN)
  have HL := hid hL
  obtain ⟨B, hB⟩ : ∃ B, B = m.a.readB dev pl := ⟨_, rfl⟩
  have HB := hid hB.symm
  obtain ⟨A', hA⟩ : ∃ A', A' = m.a.read dev pl := ⟨_, rfl⟩
  have HA := hid hA.symm
  rw [← hA]
  have HE := hid h1
  have hst := hS
  clear hS hg hk hb hm h1 hB hA hL
  unfold PM
  go_enter Tryz.func118, Tryz.ntmps118
  go_wp2_with (first | go_big_skip | go_big_guard | (refine wl_boxA hst rfl rfl rfl ?_; intro g4 w1 hst1; clear hst) | (refine wl_boxA hst1 rfl rfl rfl ?_; intro g5 w2 hst2; clear hst1) | (refine wl_alloc (T := 128) hst2 rfl rfl ?_; intro g6 w3 hst3; clear hst2))
  have hX := hst3.drew
  clear hst3
  refine wp_region_held_drew (S := (fun w' => (loadVarH 3 ⟨g4, 0, none⟩).run Tryz.prog w' = .ok (.int .i64 dev) w' ∧ (loadVarH 3 ⟨g4, 1, none⟩).run Tryz.prog w' = .ok (.int .i64 pl) w' ∧ (loadVarH 23 ⟨gm, 0, none⟩).run Tryz.prog w' = .ok (.pointer (some ⟨ga, 0, none⟩)) w')) (by kernel_rfl) (by exact ⟨Loads.at (P := Tryz.prog) [_, _] hX rfl, Loads.at (P := Tryz.prog) [_, _] hX rfl, Loads.at (P := Tryz.prog) [_, _, _] hX rfl⟩) (fun hHeld => ?_)
  refine tkH 0 10 ?_ rfl (by kernel_rfl) (fun _ _ _ h => h) (by rfl) (by assumption) ?_ ?_
  rotate_left
  · intro w hSw; (try dsimp only at hSw); go_simp; try with_reducible rfl
  (try simp only [pmL, pnL, sc0, sc1])
  refine tkH 4 14 ?_ rfl (by kernel_rfl) (fun _ _ _ h => h) (by rfl) (by assumption) ?_ ?_
  rotate_left
  · intro w hSw; (try dsimp only at hSw); go_simp; try with_reducible rfl
  (try simp only [pmL, pnL, sc0, sc1])
  refine tkH 6 16 ?_ rfl (by kernel_rfl) (fun _ _ _ h => h) (by rfl) (by assumption) ?_ ?_
  rotate_left
  · intro w hSw; (try dsimp only at hSw); go_simp; try with_reducible rfl
  (try simp only [pmL, pnL, sc0, sc1])
  refine tkH 1 11 ?_ rfl (by kernel_rfl) (fun _ _ _ h => h) (by rfl) (by assumption) ?_ ?_
  rotate_left
  · intro w hSw; (try dsimp only at hSw); go_simp; try with_reducible rfl
  (try simp only [pmL, pnL, sc0, sc1])
  refine tkH 5 15 ?_ rfl (by kernel_rfl) (fun _ _ _ h => h) (by rfl) (by assumption) ?_ ?_
  rotate_left
  · intro w hSw; (try dsimp only at hSw); go_simp; try with_reducible rfl
  (try simp only [pmL, pnL, sc0, sc1])
  refine tkH 7 17 ?_ rfl (by kernel_rfl) (fun _ _ _ h => h) (by rfl) (by assumption) ?_ ?_
  rotate_left
  · intro w hSw; (try dsimp only at hSw); go_simp; try with_reducible rfl
  (try simp only [pmL, pnL, sc0, sc1])
  refine tkH 2 12 ?_ rfl (by kernel_rfl) (fun _ _ _ h => h) (by rfl) (by assumption) ?_ ?_
  rotate_left
  · intro w hSw; (try dsimp only at hSw); go_simp; try with_reducible rfl
  (try simp only [pmL, pnL, sc0, sc1])
  refine tkH 3 13 ?_ rfl (by kernel_rfl) (fun _ _ _ h => h) (by rfl) (by assumption) ?_ ?_
  rotate_left
  · intro w hSw; (try dsimp only at hSw); go_simp; try with_reducible rfl
  (try simp only [pmL, pnL, sc0, sc1])
  refine wpAnyH_ready (rs := [8]) (by kernel_rfl) (by simp) ?_
  refine (AllReadyH.cons (o := ⟨some 18, _, _, _, _, _⟩) rfl (fun K hK => ?_) AllReadyH.nil)
  rw [if_pos (by rfl)]
  go_simp
  go_at_call 36
  have HC := readM_anyP (mid_in (P := [_, _, _]) (Bs := [_]) hX) HG.out.sc.ok HLL.out dev pl
  rw [HE.out, HB.out, HA.out] at HC
  refine HC.mono ?_
  clear HC
  rintro _ w4 ⟨u, rfl, h4⟩
  obtain ⟨ua, uc, rfl⟩ := St.rowPSlice [] h4
  have hE : St w0 M w4 (.rowP isB (.slice ua B.length uc) 5 1 B.length (bytesV B) :: .blk g6 128 [.int .i64 0, .slice none 0 0] :: .blk g5 32 (bytesV S) :: .blk g4 83 [.int .i64 dev, .int .i64 pl] :: mB gm ga m :: (arP ga x A' ++ R)) := mid_outp (P := [_, _, _]) (Bs := [_]) (Q := [_]) hX h4
  clear h4
  refine hK.out _ _ ?_ (fun hHeld => ?_)
  · exact ⟨Loads.at (P := Tryz.prog) [_, _, _] hE rfl, Loads.at (P := Tryz.prog) [_, _, _] hE rfl, Loads.at (P := Tryz.prog) [_, _, _, _] hE rfl⟩
  clear hK K
  (try simp only [pmL, pnL, sc0, sc1])
  refine tkH 9 9 ?_ rfl (by kernel_rfl) (fun _ _ _ h => h) (by rfl) (by assumption) ?_ ?_
  rotate_left
  · intro w hSw; (try dsimp only at hSw); go_simp; try with_reducible rfl
  (try simp only [pmL, pnL, sc0, sc1])
  refine tkH 10 19 ?_ rfl (by kernel_rfl) (fun _ _ _ h => h) (by rfl) (by assumption) ?_ ?_
  rotate_left
  · intro w hSw; (try dsimp only at hSw); go_simp; try with_reducible rfl
  (try simp only [pmL, pnL, sc0, sc1])
  refine tkH 11 20 ?_ rfl (by kernel_rfl) (fun _ _ _ h => h) (by rfl) (by assumption) ?_ ?_
  rotate_left
  · intro w hSw; (try dsimp only at hSw); go_simp; try with_reducible rfl
  (try simp only [pmL, pnL, sc0, sc1])
  refine tkH 12 7 ?_ rfl (by kernel_rfl) (fun _ _ _ h => h) (by rfl) (by assumption) ?_ ?_
  rotate_left
  · intro w hSw; (try dsimp only at hSw); go_simp; try with_reducible rfl
  (try simp only [pmL, pnL, sc0, sc1])
  refine tkH 13 8 ?_ rfl (by kernel_rfl) (fun _ _ _ h => h) (by rfl) (by assumption) ?_ ?_
  rotate_left
  · intro w hSw; (try dsimp only at hSw); go_simp; try with_reducible rfl
  (try simp only [pmL, pnL, sc0, sc1])
  refine wpAnyH_done (by kernel_rfl) ?_ _
  clear hHeld
  go_wp2_with (first | go_big_skip | go_big_guard | (refine wl_buildX (cs := [.int .i64 3, .slice none 0 0]) [(0, .int .i64 3)] rfl rfl (by exact rfl) (by kernel_rfl) ?_) | (refine wl_storeA [_] hE rfl rfl rfl rfl rfl rfl rfl ?_; intro _ hst6; clear hE))
  have hl := Loads.atA (P := Tryz.prog) (off := 0) (T := 128) [.int .i64 3, .slice none 0 0] [_] hst6 rfl rfl
  refine bodyPost_ret (results_cellL rfl rfl hl) rfl ⟨.slice none 0 0, rfl, St.nilPQ isB _ 1 (St.sub hst6 (.cons _ (.cons _ (.cons _ (.cons _ (List.Sublist.refl _))))))⟩
theorem look_fail {w0 w : World} {M : List Nat} {R : List HA} {gm ga : Nat} {x : GA} {m : MV} {N : Nat} (hS : St w0 M w (mP gm ga x m ++ R)) (hg : MGood m N) (hN : N ≤ 900000) (dev pl : Int) (S : List UInt8) (hL : L32 S) (h1 : m.a.readE dev pl = 13) :
    Calls Tryz.prog 118 #[PM gm, .agg #[.int .i64 dev, .int .i64 pl], .agg (bytesV S).toArray] w fun e w' => ∃ v, e = .returned (.agg #[.int .i64 (m.kind dev pl S), v]) ∧ St w0 M w' (.rowP isB v 5 1 (m.lookB dev pl S).length (bytesV (m.lookB dev pl S)) :: (mP gm ga x (m.looked dev pl S) ++ R)) := by
  have hk : m.kind dev pl S = 2 := by unfold MV.kind; rw [if_neg (by rw [h1]; decide), if_pos (by rw [h1]; decide)]
  have hb : m.lookB dev pl S = [] := by unfold MV.lookB; rw [hk]; rfl
  have hm : m.looked dev pl S = ⟨m.a.read dev pl, m.e.modify dev.toNat fRd⟩ := by unfold MV.looked; rw [if_pos h1]
  rw [hk, hb, hm]
  have HG := hid hg
  have HLL := hid (hg.ll hN)
  have HL := hid hL
  obtain ⟨B, hB⟩ : ∃ B, B = m.a.readB dev pl := ⟨_, rfl⟩
  have HB := hid hB.symm
  obtain ⟨A', hA⟩ : ∃ A', A' = m.a.read dev pl := ⟨_, rfl⟩
  have HA := hid hA.symm
  rw [← hA]
  have HE := hid h1
  obtain ⟨kd, rfl, hkd⟩ := inS_dev (readE_inS (.inr h1))
  have HKD := hid hkd
  rw [Int.toNat_natCast]
  have hst := hS
  clear hS hg hk hb hm h1 hB hA hL hkd
  unfold PM
  go_enter Tryz.func118, Tryz.ntmps118
  go_wp2_with (first | go_big_skip | go_big_guard | (refine wl_boxA hst rfl rfl rfl ?_; intro g4 w1 hst1; clear hst) | (refine wl_boxA hst1 rfl rfl rfl ?_; intro g5 w2 hst2; clear hst1) | (refine wl_alloc (T := 128) hst2 rfl rfl ?_; intro g6 w3 hst3; clear hst2))
  have hX := hst3.drew
  clear hst3
  refine wp_region_held_drew (S := (fun w' => (loadVarH 3 ⟨g4, 0, none⟩).run Tryz.prog w' = .ok (.int .i64 (kd : Int)) w' ∧ (loadVarH 3 ⟨g4, 1, none⟩).run Tryz.prog w' = .ok (.int .i64 pl) w' ∧ (loadVarH 23 ⟨gm, 0, none⟩).run Tryz.prog w' = .ok (.pointer (some ⟨ga, 0, none⟩)) w')) (by kernel_rfl) (by exact ⟨Loads.at (P := Tryz.prog) [_, _] hX rfl, Loads.at (P := Tryz.prog) [_, _] hX rfl, Loads.at (P := Tryz.prog) [_, _, _] hX rfl⟩) (fun hHeld => ?_)
  refine tkH 0 10 ?_ rfl (by kernel_rfl) (fun _ _ _ h => h) (by rfl) (by assumption) ?_ ?_
  rotate_left
  · intro w hSw; (try dsimp only at hSw); go_simp; try with_reducible rfl
  (try simp only [pmL, pnL, sc0, sc1])
  refine tkH 4 14 ?_ rfl (by kernel_rfl) (fun _ _ _ h => h) (by rfl) (by assumption) ?_ ?_
  rotate_left
  · intro w hSw; (try dsimp only at hSw); go_simp; try with_reducible rfl
  (try simp only [pmL, pnL, sc0, sc1])
  refine tkH 6 16 ?_ rfl (by kernel_rfl) (fun _ _ _ h => h) (by rfl) (by assumption) ?_ ?_
  rotate_left
  · intro w hSw; (try dsimp only at hSw); go_simp; try with_reducible rfl
  (try simp only [pmL, pnL, sc0, sc1])
  refine tkH 1 11 ?_ rfl (by kernel_rfl) (fun _ _ _ h => h) (by rfl) (by assumption) ?_ ?_
  rotate_left
  · intro w hSw; (try dsimp only at hSw); go_simp; try with_reducible rfl
  (try simp only [pmL, pnL, sc0, sc1])
  refine tkH 5 15 ?_ rfl (by kernel_rfl) (fun _ _ _ h => h) (by rfl) (by assumption) ?_ ?_
  rotate_left
  · intro w hSw; (try dsimp only at hSw); go_simp; try with_reducible rfl
  (try simp only [pmL, pnL, sc0, sc1])
  refine tkH 7 17 ?_ rfl (by kernel_rfl) (fun _ _ _ h => h) (by rfl) (by assumption) ?_ ?_
  rotate_left
  · intro w hSw; (try dsimp only at hSw); go_simp; try with_reducible rfl
  (try simp only [pmL, pnL, sc0, sc1])
  refine tkH 2 12 ?_ rfl (by kernel_rfl) (fun _ _ _ h => h) (by rfl) (by assumption) ?_ ?_
  rotate_left
  · intro w hSw; (try dsimp only at hSw); go_simp; try with_reducible rfl
  (try simp only [pmL, pnL, sc0, sc1])
  refine tkH 3 13 ?_ rfl (by kernel_rfl) (fun _ _ _ h => h) (by rfl) (by assumption) ?_ ?_
  rotate_left
  · intro w hSw; (try dsimp only at hSw); go_simp; try with_reducible rfl
  (try simp only [pmL, pnL, sc0, sc1])
  refine wpAnyH_ready (rs := [8]) (by kernel_rfl) (by simp) ?_
  refine (AllReadyH.cons (o := ⟨some 18, _, _, _, _, _⟩) rfl (fun K hK => ?_) AllReadyH.nil)
  rw [if_pos (by rfl)]
  go_simp
  go_at_call 36
  have HC := readM_anyP (mid_in (P := [_, _, _]) (Bs := [_]) hX) HG.out.sc.ok HLL.out (kd : Int) pl
  rw [HE.out, HB.out, HA.out] at HC
  refine HC.mono ?_
  clear HC
  rintro _ w4 ⟨u, rfl, h4⟩
  obtain ⟨ua, uc, rfl⟩ := St.rowPSlice [] h4
  have hE : St w0 M w4 (.rowP isB (.slice ua B.length uc) 5 1 B.length (bytesV B) :: .blk g6 128 [.int .i64 0, .slice none 0 0] :: .blk g5 32 (bytesV S) :: .blk g4 83 [.int .i64 (kd : Int), .int .i64 pl] :: mB gm ga m :: (arP ga x A' ++ R)) := mid_outp (P := [_, _, _]) (Bs := [_]) (Q := [_]) hX h4
  clear h4
  refine hK.out _ _ ?_ (fun hHeld => ?_)
  · exact ⟨Loads.at (P := Tryz.prog) [_, _, _] hE rfl, Loads.at (P := Tryz.prog) [_, _, _] hE rfl, Loads.at (P := Tryz.prog) [_, _, _, _] hE rfl⟩
  clear hK K
  (try simp only [pmL, pnL, sc0, sc1])
  refine tkH 9 9 ?_ rfl (by kernel_rfl) (fun _ _ _ h => h) (by rfl) (by assumption) ?_ ?_
  rotate_left
  · intro w hSw; (try dsimp only at hSw); go_simp; try with_reducible rfl
  (try simp only [pmL, pnL, sc0, sc1])
  refine tkH 10 19 ?_ rfl (by kernel_rfl) (fun _ _ _ h => h) (by rfl) (by assumption) ?_ ?_
  rotate_left
  · intro w hSw; (try dsimp only at hSw); go_simp; try with_reducible rfl
  (try simp only [pmL, pnL, sc0, sc1])
  refine tkH 11 20 ?_ rfl (by kernel_rfl) (fun _ _ _ h => h) (by rfl) (by assumption) ?_ ?_
  rotate_left
  · intro w hSw; (try dsimp only at hSw); go_simp; try with_reducible rfl
  (try simp only [pmL, pnL, sc0, sc1])
  refine tkH 12 7 ?_ rfl (by kernel_rfl) (fun _ _ _ h => h) (by rfl) (by assumption) ?_ ?_
  rotate_left
  · intro w hSw; (try dsimp only at hSw); go_simp; try with_reducible rfl
  (try simp only [pmL, pnL, sc0, sc1])
  refine tkH 13 8 ?_ rfl (by kernel_rfl) (fun _ _ _ h => h) (by rfl) (by assumption) ?_ ?_
  rotate_left
  · intro w hSw; (try dsimp only at hSw); go_simp; try with_reducible rfl
  (try simp only [pmL, pnL, sc0, sc1])
  refine wpAnyH_done (by kernel_rfl) ?_ _
  clear hHeld
  go_wp2_with (first | go_big_skip | go_big_guard | (refine wl_loadE rfl rfl rfl ?_; refine ⟨_, Loads.at (P := Tryz.prog) [_, _, _] hE rfl, ?_⟩) | (go_at_call 110; refine (counts_rd (St.front (L1 := [_, _, _, _]) hE) HG.out (by omega) kd HKD.out).mono ?_; rintro _ w6 ⟨rfl, h4⟩; have hst5 := h4; clear h4 hE) | (refine wl_buildX (cs := [.int .i64 2, .slice none 0 0]) [(0, .int .i64 2)] rfl rfl (by exact rfl) (by kernel_rfl) ?_) | (refine wl_storeA [_, _] hst5 rfl rfl rfl rfl rfl rfl rfl ?_; intro _ hst6; clear hst5))
  have hl := Loads.atA (P := Tryz.prog) (off := 0) (T := 128) [.int .i64 2, .slice none 0 0] [_, _] hst6 rfl rfl
  refine bodyPost_ret (results_cellL rfl rfl hl) rfl ⟨.slice none 0 0, rfl, St.nilPQ isB _ 1 (St.sub hst6 (.cons_cons _ (.cons _ (.cons _ (.cons _ (.cons _ (List.Sublist.refl _)))))))⟩
theorem look_lost {w0 w : World} {M : List Nat} {R : List HA} {gm ga : Nat} {x : GA} {m : MV} {N : Nat} (hS : St w0 M w (mP gm ga x m ++ R)) (hg : MGood m N) (hN : N ≤ 900000) (dev pl : Int) (S : List UInt8) (hL : L32 S) (h1 : m.a.readE dev pl ≠ 0) (h2 : m.a.readE dev pl ≠ 10) (h3 : m.a.readE dev pl ≠ 13) :
    Calls Tryz.prog 118 #[PM gm, .agg #[.int .i64 dev, .int .i64 pl], .agg (bytesV S).toArray] w fun e w' => ∃ v, e = .returned (.agg #[.int .i64 (m.kind dev pl S), v]) ∧ St w0 M w' (.rowP isB v 5 1 (m.lookB dev pl S).length (bytesV (m.lookB dev pl S)) :: (mP gm ga x (m.looked dev pl S) ++ R)) := by
  have hk : m.kind dev pl S = 2 := by unfold MV.kind; rw [if_neg h2, if_pos h1]
  have hb : m.lookB dev pl S = [] := by unfold MV.lookB; rw [hk]; rfl
  have hm : m.looked dev pl S = ⟨m.a.read dev pl, m.e⟩ := by unfold MV.looked; rw [if_neg h3, if_neg (by rw [hk]; decide)]
  rw [hk, hb, hm]
  have HG := hid hg
  have HLL := hid (hg.ll hN)
  have HL := hid hL
  obtain ⟨B, hB⟩ : ∃ B, B = m.a.readB dev pl := ⟨_, rfl⟩
  have HB := hid hB.symm
  obtain ⟨A', hA⟩ : ∃ A', A' = m.a.read dev pl := ⟨_, rfl⟩
  have HA := hid hA.symm
  rw [← hA]
  obtain ⟨E, hE⟩ : ∃ E, E = m.a.readE dev pl := ⟨_, rfl⟩
  rw [← hE] at h1 h2 h3
  have HE := hid hE.symm
  have d1 : (E == 10) = false := beq_eq_false_iff_ne.2 h2
  have d2 : (E == 13) = false := beq_eq_false_iff_ne.2 h3
  have d3 : (E != 0) = true := by simpa using h1
  clear hE h3
  have hst := hS
  clear hS hg hk hb hm h1 hB hA hL h2
  unfold PM
  go_enter Tryz.func118, Tryz.ntmps118
  go_wp2_with (first | go_big_skip | go_big_guard | (refine wl_boxA hst rfl rfl rfl ?_; intro g4 w1 hst1; clear hst) | (refine wl_boxA hst1 rfl rfl rfl ?_; intro g5 w2 hst2; clear hst1) | (refine wl_alloc (T := 128) hst2 rfl rfl ?_; intro g6 w3 hst3; clear hst2))
  have hX := hst3.drew
  clear hst3
  refine wp_region_held_drew (S := (fun w' => (loadVarH 3 ⟨g4, 0, none⟩).run Tryz.prog w' = .ok (.int .i64 dev) w' ∧ (loadVarH 3 ⟨g4, 1, none⟩).run Tryz.prog w' = .ok (.int .i64 pl) w' ∧ (loadVarH 23 ⟨gm, 0, none⟩).run Tryz.prog w' = .ok (.pointer (some ⟨ga, 0, none⟩)) w')) (by kernel_rfl) (by exact ⟨Loads.at (P := Tryz.prog) [_, _] hX rfl, Loads.at (P := Tryz.prog) [_, _] hX rfl, Loads.at (P := Tryz.prog) [_, _, _] hX rfl⟩) (fun hHeld => ?_)
  refine tkH 0 10 ?_ rfl (by kernel_rfl) (fun _ _ _ h => h) (by rfl) (by assumption) ?_ ?_
  rotate_left
  · intro w hSw; (try dsimp only at hSw); go_simp; try with_reducible rfl
  (try simp only [pmL, pnL, sc0, sc1])
  refine tkH 4 14 ?_ rfl (by kernel_rfl) (fun _ _ _ h => h) (by rfl) (by assumption) ?_ ?_
  rotate_left
  · intro w hSw; (try dsimp only at hSw); go_simp; try with_reducible rfl
  (try simp only [pmL, pnL, sc0, sc1])
  refine tkH 6 16 ?_ rfl (by kernel_rfl) (fun _ _ _ h => h) (by rfl) (by assumption) ?_ ?_
  rotate_left
  · intro w hSw; (try dsimp only at hSw); go_simp; try with_reducible rfl
  (try simp only [pmL, pnL, sc0, sc1])
  refine tkH 1 11 ?_ rfl (by kernel_rfl) (fun _ _ _ h => h) (by rfl) (by assumption) ?_ ?_
  rotate_left
  · intro w hSw; (try dsimp only at hSw); go_simp; try with_reducible rfl
  (try simp only [pmL, pnL, sc0, sc1])
  refine tkH 5 15 ?_ rfl (by kernel_rfl) (fun _ _ _ h => h) (by rfl) (by assumption) ?_ ?_
  rotate_left
  · intro w hSw; (try dsimp only at hSw); go_simp; try with_reducible rfl
  (try simp only [pmL, pnL, sc0, sc1])
  refine tkH 7 17 ?_ rfl (by kernel_rfl) (fun _ _ _ h => h) (by rfl) (by assumption) ?_ ?_
  rotate_left
  · intro w hSw; (try dsimp only at hSw); go_simp; try with_reducible rfl
  (try simp only [pmL, pnL, sc0, sc1])
  refine tkH 2 12 ?_ rfl (by kernel_rfl) (fun _ _ _ h => h) (by rfl) (by assumption) ?_ ?_
  rotate_left
  · intro w hSw; (try dsimp only at hSw); go_simp; try with_reducible rfl
  (try simp only [pmL, pnL, sc0, sc1])
  refine tkH 3 13 ?_ rfl (by kernel_rfl) (fun _ _ _ h => h) (by rfl) (by assumption) ?_ ?_
  rotate_left
  · intro w hSw; (try dsimp only at hSw); go_simp; try with_reducible rfl
  (try simp only [pmL, pnL, sc0, sc1])
  refine wpAnyH_ready (rs := [8]) (by kernel_rfl) (by simp) ?_
  refine (AllReadyH.cons (o := ⟨some 18, _, _, _, _, _⟩) rfl (fun K hK => ?_) AllReadyH.nil)
  rw [if_pos (by rfl)]
  go_simp
  go_at_call 36
  have HC := readM_anyP (mid_in (P := [_, _, _]) (Bs := [_]) hX) HG.out.sc.ok HLL.out dev pl
  rw [HE.out, HB.out, HA.out] at HC
  refine HC.mono ?_
  clear HC
  rintro _ w4 ⟨u, rfl, h4⟩
  obtain ⟨ua, uc, rfl⟩ := St.rowPSlice [] h4
  have hE : St w0 M w4 (.rowP isB (.slice ua B.length uc) 5 1 B.length (bytesV B) :: .blk g6 128 [.int .i64 0, .slice none 0 0] :: .blk g5 32 (bytesV S) :: .blk g4 83 [.int .i64 dev, .int .i64 pl] :: mB gm ga m :: (arP ga x A' ++ R)) := mid_outp (P := [_, _, _]) (Bs := [_]) (Q := [_]) hX h4
  clear h4
  refine hK.out _ _ ?_ (fun hHeld => ?_)
  · exact ⟨Loads.at (P := Tryz.prog) [_, _, _] hE rfl, Loads.at (P := Tryz.prog) [_, _, _] hE rfl, Loads.at (P := Tryz.prog) [_, _, _, _] hE rfl⟩
  clear hK K
  (try simp only [pmL, pnL, sc0, sc1])
  refine tkH 9 9 ?_ rfl (by kernel_rfl) (fun _ _ _ h => h) (by rfl) (by assumption) ?_ ?_
  rotate_left
  · intro w hSw; (try dsimp only at hSw); go_simp; try with_reducible rfl
  (try simp only [pmL, pnL, sc0, sc1])
  refine tkH 10 19 ?_ rfl (by kernel_rfl) (fun _ _ _ h => h) (by rfl) (by assumption) ?_ ?_
  rotate_left
  · intro w hSw; (try dsimp only at hSw); go_simp; try with_reducible rfl
  (try simp only [pmL, pnL, sc0, sc1])
  refine tkH 11 20 ?_ rfl (by kernel_rfl) (fun _ _ _ h => h) (by rfl) (by assumption) ?_ ?_
  rotate_left
  · intro w hSw; (try dsimp only at hSw); go_simp; try with_reducible rfl
  (try simp only [pmL, pnL, sc0, sc1])
  refine tkH 12 7 ?_ rfl (by kernel_rfl) (fun _ _ _ h => h) (by rfl) (by assumption) ?_ ?_
  rotate_left
  · intro w hSw; (try dsimp only at hSw); go_simp; try with_reducible rfl
  (try simp only [pmL, pnL, sc0, sc1])
  refine tkH 13 8 ?_ rfl (by kernel_rfl) (fun _ _ _ h => h) (by rfl) (by assumption) ?_ ?_
  rotate_left
  · intro w hSw; (try dsimp only at hSw); go_simp; try with_reducible rfl
  (try simp only [pmL, pnL, sc0, sc1])
  refine wpAnyH_done (by kernel_rfl) ?_ _
  clear hHeld
  go_wp2_with (first | go_big_skip | go_big_guard | (refine wl_buildX (cs := [.int .i64 2, .slice none 0 0]) [(0, .int .i64 2)] rfl rfl (by exact rfl) (by kernel_rfl) ?_) | (refine wl_storeA [_] hE rfl rfl rfl rfl rfl rfl rfl ?_; intro _ hst6; clear hE))
  have hl := Loads.atA (P := Tryz.prog) (off := 0) (T := 128) [.int .i64 2, .slice none 0 0] [_] hst6 rfl rfl
  refine bodyPost_ret (results_cellL rfl rfl hl) rfl ⟨.slice none 0 0, rfl, St.nilPQ isB _ 1 (St.sub hst6 (.cons _ (.cons _ (.cons _ (.cons _ (List.Sublist.refl _))))))⟩
theorem look_bad {w0 w : World} {M : List Nat} {R : List HA} {gm ga : Nat} {x : GA} {m : MV} {N : Nat} (hS : St w0 M w (mP gm ga x m ++ R)) (hg : MGood m N) (hN : N ≤ 900000) (dev pl : Int) (S : List UInt8) (hL : L32 S) (h1 : m.a.readE dev pl = 0) (h2 : sumB (m.a.readB dev pl) ≠ S) :
    Calls Tryz.prog 118 #[PM gm, .agg #[.int .i64 dev, .int .i64 pl], .agg (bytesV S).toArray] w fun e w' => ∃ v, e = .returned (.agg #[.int .i64 (m.kind dev pl S), v]) ∧ St w0 M w' (.rowP isB v 5 1 (m.lookB dev pl S).length (bytesV (m.lookB dev pl S)) :: (mP gm ga x (m.looked dev pl S) ++ R)) := by
  have hk : m.kind dev pl S = 1 := by unfold MV.kind; rw [if_neg (by rw [h1]; decide), if_neg (by rw [h1]; decide), if_neg h2]
  have hb : m.lookB dev pl S = [] := by unfold MV.lookB; rw [hk]; rfl
  have hm : m.looked dev pl S = ⟨m.a.read dev pl, m.e.modify dev.toNat fSm⟩ := by unfold MV.looked; rw [if_neg (by rw [h1]; decide), if_pos hk]
  rw [hk, hb, hm]
  have HG := hid hg
  have HLL := hid (hg.ll hN)
  have HL := hid hL
  obtain ⟨B, hB⟩ : ∃ B, B = m.a.readB dev pl := ⟨_, rfl⟩
  have HB := hid hB.symm
  obtain ⟨A', hA⟩ : ∃ A', A' = m.a.read dev pl := ⟨_, rfl⟩
  have HA := hid hA.symm
  rw [← hA]
  have HE := hid h1
  obtain ⟨kd, rfl, hkd⟩ := inS_dev (readE_inS (.inl h1))
  have HKD := hid hkd
  rw [Int.toNat_natCast]
  have HBL := hid (show B.length ≤ 100000 from by rw [hB, readB_len hg.sc.ok h1]; decide)
  have HQ : Hid ((sumB B == S) = false) := hid (by rw [hB]; exact beq_eq_false_iff_ne.2 h2)
  have HS32 := hid (show (sumB B).length = 32 from length_bytesS _)
  have hst := hS
  clear hS hg hk hb hm h1 hB hA hL h2 hkd
  unfold PM
  go_enter Tryz.func118, Tryz.ntmps118
  go_wp2_with (first | go_big_skip | go_big_guard | (refine wl_boxA hst rfl rfl rfl ?_; intro g4 w1 hst1; clear hst) | (refine wl_boxA hst1 rfl rfl rfl ?_; intro g5 w2 hst2; clear hst1) | (refine wl_alloc (T := 128) hst2 rfl rfl ?_; intro g6 w3 hst3; clear hst2))
  have hX := hst3.drew
  clear hst3
  refine wp_region_held_drew (S := (fun w' => (loadVarH 3 ⟨g4, 0, none⟩).run Tryz.prog w' = .ok (.int .i64 (kd : Int)) w' ∧ (loadVarH 3 ⟨g4, 1, none⟩).run Tryz.prog w' = .ok (.int .i64 pl) w' ∧ (loadVarH 23 ⟨gm, 0, none⟩).run Tryz.prog w' = .ok (.pointer (some ⟨ga, 0, none⟩)) w')) (by kernel_rfl) (by exact ⟨Loads.at (P := Tryz.prog) [_, _] hX rfl, Loads.at (P := Tryz.prog) [_, _] hX rfl, Loads.at (P := Tryz.prog) [_, _, _] hX rfl⟩) (fun hHeld => ?_)
  refine tkH 0 10 ?_ rfl (by kernel_rfl) (fun _ _ _ h => h) (by rfl) (by assumption) ?_ ?_
  rotate_left
  · intro w hSw; (try dsimp only at hSw); go_simp; try with_reducible rfl
  (try simp only [pmL, pnL, sc0, sc1])
  refine tkH 4 14 ?_ rfl (by kernel_rfl) (fun _ _ _ h => h) (by rfl) (by assumption) ?_ ?_
  rotate_left
  · intro w hSw; (try dsimp only at hSw); go_simp; try with_reducible rfl
  (try simp only [pmL, pnL, sc0, sc1])
  refine tkH 6 16 ?_ rfl (by kernel_rfl) (fun _ _ _ h => h) (by rfl) (by assumption) ?_ ?_
  rotate_left
  · intro w hSw; (try dsimp only at hSw); go_simp; try with_reducible rfl
  (try simp only [pmL, pnL, sc0, sc1])
  refine tkH 1 11 ?_ rfl (by kernel_rfl) (fun _ _ _ h => h) (by rfl) (by assumption) ?_ ?_
  rotate_left
  · intro w hSw; (try dsimp only at hSw); go_simp; try with_reducible rfl
  (try simp only [pmL, pnL, sc0, sc1])
  refine tkH 5 15 ?_ rfl (by kernel_rfl) (fun _ _ _ h => h) (by rfl) (by assumption) ?_ ?_
  rotate_left
  · intro w hSw; (try dsimp only at hSw); go_simp; try with_reducible rfl
  (try simp only [pmL, pnL, sc0, sc1])
  refine tkH 7 17 ?_ rfl (by kernel_rfl) (fun _ _ _ h => h) (by rfl) (by assumption) ?_ ?_
  rotate_left
  · intro w hSw; (try dsimp only at hSw); go_simp; try with_reducible rfl
  (try simp only [pmL, pnL, sc0, sc1])
  refine tkH 2 12 ?_ rfl (by kernel_rfl) (fun _ _ _ h => h) (by rfl) (by assumption) ?_ ?_
  rotate_left
  · intro w hSw; (try dsimp only at hSw); go_simp; try with_reducible rfl
  (try simp only [pmL, pnL, sc0, sc1])
  refine tkH 3 13 ?_ rfl (by kernel_rfl) (fun _ _ _ h => h) (by rfl) (by assumption) ?_ ?_
  rotate_left
  · intro w hSw; (try dsimp only at hSw); go_simp; try with_reducible rfl
  (try simp only [pmL, pnL, sc0, sc1])
  refine wpAnyH_ready (rs := [8]) (by kernel_rfl) (by simp) ?_
  refine (AllReadyH.cons (o := ⟨some 18, _, _, _, _, _⟩) rfl (fun K hK => ?_) AllReadyH.nil)
  rw [if_pos (by rfl)]
  go_simp
  go_at_call 36
  have HC := readM_anyP (mid_in (P := [_, _, _]) (Bs := [_]) hX) HG.out.sc.ok HLL.out (kd : Int) pl
  rw [HE.out, HB.out, HA.out] at HC
  refine HC.mono ?_
  clear HC
  rintro _ w4 ⟨u, rfl, h4⟩
  obtain ⟨ua, uc, rfl⟩ := St.rowPSlice [] h4
  have hE : St w0 M w4 (.rowP isB (.slice ua B.length uc) 5 1 B.length (bytesV B) :: .blk g6 128 [.int .i64 0, .slice none 0 0] :: .blk g5 32 (bytesV S) :: .blk g4 83 [.int .i64 (kd : Int), .int .i64 pl] :: mB gm ga m :: (arP ga x A' ++ R)) := mid_outp (P := [_, _, _]) (Bs := [_]) (Q := [_]) hX h4
  clear h4
  refine hK.out _ _ ?_ (fun hHeld => ?_)
  · exact ⟨Loads.at (P := Tryz.prog) [_, _, _] hE rfl, Loads.at (P := Tryz.prog) [_, _, _] hE rfl, Loads.at (P := Tryz.prog) [_, _, _, _] hE rfl⟩
  clear hK K
  (try simp only [pmL, pnL, sc0, sc1])
  refine tkH 9 9 ?_ rfl (by kernel_rfl) (fun _ _ _ h => h) (by rfl) (by assumption) ?_ ?_
  rotate_left
  · intro w hSw; (try dsimp only at hSw); go_simp; try with_reducible rfl
  (try simp only [pmL, pnL, sc0, sc1])
  refine tkH 10 19 ?_ rfl (by kernel_rfl) (fun _ _ _ h => h) (by rfl) (by assumption) ?_ ?_
  rotate_left
  · intro w hSw; (try dsimp only at hSw); go_simp; try with_reducible rfl
  (try simp only [pmL, pnL, sc0, sc1])
  refine tkH 11 20 ?_ rfl (by kernel_rfl) (fun _ _ _ h => h) (by rfl) (by assumption) ?_ ?_
  rotate_left
  · intro w hSw; (try dsimp only at hSw); go_simp; try with_reducible rfl
  (try simp only [pmL, pnL, sc0, sc1])
  refine tkH 12 7 ?_ rfl (by kernel_rfl) (fun _ _ _ h => h) (by rfl) (by assumption) ?_ ?_
  rotate_left
  · intro w hSw; (try dsimp only at hSw); go_simp; try with_reducible rfl
  (try simp only [pmL, pnL, sc0, sc1])
  refine tkH 13 8 ?_ rfl (by kernel_rfl) (fun _ _ _ h => h) (by rfl) (by assumption) ?_ ?_
  rotate_left
  · intro w hSw; (try dsimp only at hSw); go_simp; try with_reducible rfl
  (try simp only [pmL, pnL, sc0, sc1])
  refine wpAnyH_done (by kernel_rfl) ?_ _
  clear hHeld
  go_wp2_with (first | go_big_skip | go_big_guard | fail)
  have hY := hE.drew
  clear hE
  refine wp_region_held_drew (S := (fun w' => (loadVarH 32 ⟨g5, 0, none⟩).run Tryz.prog w' = .ok (.agg (List.toArray (bytesV S))) w')) (by kernel_rfl) (by exact Loads.atA (P := Tryz.prog) (bytesV S) [_, _] hY HL.out.v List.take_length) (fun hHeld => ?_)
  refine tkH 0 38 ?_ rfl (by kernel_rfl) (fun _ _ _ h => h) (by rfl) (by assumption) ?_ ?_
  rotate_left
  · intro w hSw; (try dsimp only at hSw); go_simp; try with_reducible rfl
  (try simp only [pmL, pnL, sc0, sc1])
  refine tkH 2 40 ?_ rfl (by kernel_rfl) (fun _ _ _ h => h) (by rfl) (by assumption) ?_ ?_
  rotate_left
  · intro w hSw; (try dsimp only at hSw); go_simp; try with_reducible rfl
  (try simp only [pmL, pnL, sc0, sc1])
  refine wpAnyH_ready (rs := [1]) (by kernel_rfl) (by simp) ?_
  refine (AllReadyH.cons (o := ⟨some 39, _, _, _, _, _⟩) rfl (fun K hK => ?_) AllReadyH.nil)
  rw [if_pos (by rfl)]
  go_simp
  go_at_call 23
  refine (sum_any ua B.length uc B _ (Rd.rowP hY (.head _)) rfl HBL.out).mono ?_
  rintro _ w5 ⟨rfl, h4⟩
  have hF := St.call0 hY h4
  clear h4
  refine hK.out _ _ ?_ (fun hHeld => ?_)
  · exact Loads.atA (P := Tryz.prog) (bytesV S) [_, _] hF HL.out.v List.take_length
  clear hK K
  (try simp only [pmL, pnL, sc0, sc1])
  refine wpAnyH_ready (rs := [3]) (by kernel_rfl) (by simp) ?_
  refine (AllReadyH.cons (o := ⟨some 41, _, _, _, _, _⟩) rfl (fun K hK => ?_) AllReadyH.nil)
  rw [if_pos (by rfl)]
  refine ow_of_wl (ops := #[]) (by rfl) ?_
  refine wl_neq_bytes rfl rfl rfl rfl ⟨HS32.out, HL.out⟩ ?_
  rw [HQ.out]
  refine q0_nil ?_
  refine hK.out _ _ ?_ (fun hHeld => ?_)
  · exact Loads.atA (P := Tryz.prog) (bytesV S) [_, _] hF HL.out.v List.take_length
  clear hK K
  (try simp only [pmL, pnL, sc0, sc1])
  refine tkH 4 37 ?_ rfl (by kernel_rfl) (fun _ _ _ h => h) (by rfl) (by assumption) ?_ ?_
  rotate_left
  · intro w hSw; (try dsimp only at hSw); go_simp; try with_reducible rfl
  (try simp only [pmL, pnL, sc0, sc1])
  refine wpAnyH_done (by kernel_rfl) ?_ _
  clear hHeld
  go_wp2_with (first | go_big_skip | go_big_guard | (refine wl_loadE rfl rfl rfl ?_; refine ⟨_, Loads.at (P := Tryz.prog) [_, _, _] hF rfl, ?_⟩) | (go_at_call 110; refine (counts_sm (St.front (L1 := [_, _, _, _]) hF) HG.out (by omega) kd HKD.out).mono ?_; rintro _ w6 ⟨rfl, h4⟩; have hst5 := h4; clear h4 hF) | (refine wl_buildX (cs := [.int .i64 1, .slice none 0 0]) [(0, .int .i64 1)] rfl rfl (by exact rfl) (by kernel_rfl) ?_) | (refine wl_storeA [_, _] hst5 rfl rfl rfl rfl rfl rfl rfl ?_; intro _ hst6; clear hst5))
  have hl := Loads.atA (P := Tryz.prog) (off := 0) (T := 128) [.int .i64 1, .slice none 0 0] [_, _] hst6 rfl rfl
  refine bodyPost_ret (results_cellL rfl rfl hl) rfl ⟨.slice none 0 0, rfl, St.nilPQ isB _ 1 (St.sub hst6 (.cons_cons _ (.cons _ (.cons _ (.cons _ (.cons _ (List.Sublist.refl _)))))))⟩
theorem look_good {w0 w : World} {M : List Nat} {R : List HA} {gm ga : Nat} {x : GA} {m : MV} {N : Nat} (hS : St w0 M w (mP gm ga x m ++ R)) (hg : MGood m N) (hN : N ≤ 900000) (dev pl : Int) (S : List UInt8) (hL : L32 S) (h1 : m.a.readE dev pl = 0) (h2 : sumB (m.a.readB dev pl) = S) :
    Calls Tryz.prog 118 #[PM gm, .agg #[.int .i64 dev, .int .i64 pl], .agg (bytesV S).toArray] w fun e w' => ∃ v, e = .returned (.agg #[.int .i64 (m.kind dev pl S), v]) ∧ St w0 M w' (.rowP isB v 5 1 (m.lookB dev pl S).length (bytesV (m.lookB dev pl S)) :: (mP gm ga x (m.looked dev pl S) ++ R)) := by
  have hk : m.kind dev pl S = 0 := by unfold MV.kind; rw [if_neg (by rw [h1]; decide), if_neg (by rw [h1]; decide), if_pos h2]
  have hb : m.lookB dev pl S = m.a.readB dev pl := by unfold MV.lookB; rw [hk]; rfl
  have hm : m.looked dev pl S = ⟨m.a.read dev pl, m.e⟩ := by unfold MV.looked; rw [if_neg (by rw [h1]; decide), if_neg (by rw [hk]; decide)]
  rw [hk, hb, hm]
  have HG := hid hg
  have HLL := hid (hg.ll hN)
  have HL := hid hL
  obtain ⟨B, hB⟩ : ∃ B, B = m.a.readB dev pl := ⟨_, rfl⟩
  have HB := hid hB.symm
  obtain ⟨A', hA⟩ : ∃ A', A' = m.a.read dev pl := ⟨_, rfl⟩
  have HA := hid hA.symm
  rw [← hB]
  rw [← hA]
  have HE := hid h1
  have HBL := hid (show B.length ≤ 100000 from by rw [hB, readB_len hg.sc.ok h1]; decide)
  have HQ : Hid ((sumB B == S) = true) := hid (by rw [hB]; exact beq_iff_eq.2 h2)
  have HS32 := hid (show (sumB B).length = 32 from length_bytesS _)
  have hst := hS
  clear hS hg hk hb hm h1 hB hA hL h2
  unfold PM
  go_enter Tryz.func118, Tryz.ntmps118
  go_wp2_with (first | go_big_skip | go_big_guard | (refine wl_boxA hst rfl rfl rfl ?_; intro g4 w1 hst1; clear hst) | (refine wl_boxA hst1 rfl rfl rfl ?_; intro g5 w2 hst2; clear hst1) | (refine wl_alloc (T := 128) hst2 rfl rfl ?_; intro g6 w3 hst3; clear hst2))
  have hX := hst3.drew
  clear hst3
  refine wp_region_held_drew (S := (fun w' => (loadVarH 3 ⟨g4, 0, none⟩).run Tryz.prog w' = .ok (.int .i64 dev) w' ∧ (loadVarH 3 ⟨g4, 1, none⟩).run Tryz.prog w' = .ok (.int .i64 pl) w' ∧ (loadVarH 23 ⟨gm, 0, none⟩).run Tryz.prog w' = .ok (.pointer (some ⟨ga, 0, none⟩)) w')) (by kernel_rfl) (by exact ⟨Loads.at (P := Tryz.prog) [_, _] hX rfl, Loads.at (P := Tryz.prog) [_, _] hX rfl, Loads.at (P := Tryz.prog) [_, _, _] hX rfl⟩) (fun hHeld => ?_)
  refine tkH 0 10 ?_ rfl (by kernel_rfl) (fun _ _ _ h => h) (by rfl) (by assumption) ?_ ?_
  rotate_left
  · intro w hSw; (try dsimp only at hSw); go_simp; try with_reducible rfl
  (try simp only [pmL, pnL, sc0, sc1])
  refine tkH 4 14 ?_ rfl (by kernel_rfl) (fun _ _ _ h => h) (by rfl) (by assumption) ?_ ?_
  rotate_left
  · intro w hSw; (try dsimp only at hSw); go_simp; try with_reducible rfl
  (try simp only [pmL, pnL, sc0, sc1])
  refine tkH 6 16 ?_ rfl (by kernel_rfl) (fun _ _ _ h => h) (by rfl) (by assumption) ?_ ?_
  rotate_left
  · intro w hSw; (try dsimp only at hSw); go_simp; try with_reducible rfl
  (try simp only [pmL, pnL, sc0, sc1])
  refine tkH 1 11 ?_ rfl (by kernel_rfl) (fun _ _ _ h => h) (by rfl) (by assumption) ?_ ?_
  rotate_left
  · intro w hSw; (try dsimp only at hSw); go_simp; try with_reducible rfl
  (try simp only [pmL, pnL, sc0, sc1])
  refine tkH 5 15 ?_ rfl (by kernel_rfl) (fun _ _ _ h => h) (by rfl) (by assumption) ?_ ?_
  rotate_left
  · intro w hSw; (try dsimp only at hSw); go_simp; try with_reducible rfl
  (try simp only [pmL, pnL, sc0, sc1])
  refine tkH 7 17 ?_ rfl (by kernel_rfl) (fun _ _ _ h => h) (by rfl) (by assumption) ?_ ?_
  rotate_left
  · intro w hSw; (try dsimp only at hSw); go_simp; try with_reducible rfl
  (try simp only [pmL, pnL, sc0, sc1])
  refine tkH 2 12 ?_ rfl (by kernel_rfl) (fun _ _ _ h => h) (by rfl) (by assumption) ?_ ?_
  rotate_left
  · intro w hSw; (try dsimp only at hSw); go_simp; try with_reducible rfl
  (try simp only [pmL, pnL, sc0, sc1])
  refine tkH 3 13 ?_ rfl (by kernel_rfl) (fun _ _ _ h => h) (by rfl) (by assumption) ?_ ?_
  rotate_left
  · intro w hSw; (try dsimp only at hSw); go_simp; try with_reducible rfl
  (try simp only [pmL, pnL, sc0, sc1])
  refine wpAnyH_ready (rs := [8]) (by kernel_rfl) (by simp) ?_
  refine (AllReadyH.cons (o := ⟨some 18, _, _, _, _, _⟩) rfl (fun K hK => ?_) AllReadyH.nil)
  rw [if_pos (by rfl)]
  go_simp
  go_at_call 36
  have HC := readM_anyP (mid_in (P := [_, _, _]) (Bs := [_]) hX) HG.out.sc.ok HLL.out dev pl
  rw [HE.out, HB.out, HA.out] at HC
  refine HC.mono ?_
  clear HC
  rintro _ w4 ⟨u, rfl, h4⟩
  obtain ⟨ua, uc, rfl⟩ := St.rowPSlice [] h4
  have hE : St w0 M w4 (.rowP isB (.slice ua B.length uc) 5 1 B.length (bytesV B) :: .blk g6 128 [.int .i64 0, .slice none 0 0] :: .blk g5 32 (bytesV S) :: .blk g4 83 [.int .i64 dev, .int .i64 pl] :: mB gm ga m :: (arP ga x A' ++ R)) := mid_outp (P := [_, _, _]) (Bs := [_]) (Q := [_]) hX h4
  clear h4
  refine hK.out _ _ ?_ (fun hHeld => ?_)
  · exact ⟨Loads.at (P := Tryz.prog) [_, _, _] hE rfl, Loads.at (P := Tryz.prog) [_, _, _] hE rfl, Loads.at (P := Tryz.prog) [_, _, _, _] hE rfl⟩
  clear hK K
  (try simp only [pmL, pnL, sc0, sc1])
  refine tkH 9 9 ?_ rfl (by kernel_rfl) (fun _ _ _ h => h) (by rfl) (by assumption) ?_ ?_
  rotate_left
  · intro w hSw; (try dsimp only at hSw); go_simp; try with_reducible rfl
  (try simp only [pmL, pnL, sc0, sc1])
  refine tkH 10 19 ?_ rfl (by kernel_rfl) (fun _ _ _ h => h) (by rfl) (by assumption) ?_ ?_
  rotate_left
  · intro w hSw; (try dsimp only at hSw); go_simp; try with_reducible rfl
  (try simp only [pmL, pnL, sc0, sc1])
  refine tkH 11 20 ?_ rfl (by kernel_rfl) (fun _ _ _ h => h) (by rfl) (by assumption) ?_ ?_
  rotate_left
  · intro w hSw; (try dsimp only at hSw); go_simp; try with_reducible rfl
  (try simp only [pmL, pnL, sc0, sc1])
  refine tkH 12 7 ?_ rfl (by kernel_rfl) (fun _ _ _ h => h) (by rfl) (by assumption) ?_ ?_
  rotate_left
  · intro w hSw; (try dsimp only at hSw); go_simp; try with_reducible rfl
  (try simp only [pmL, pnL, sc0, sc1])
  refine tkH 13 8 ?_ rfl (by kernel_rfl) (fun _ _ _ h => h) (by rfl) (by assumption) ?_ ?_
  rotate_left
  · intro w hSw; (try dsimp only at hSw); go_simp; try with_reducible rfl
  (try simp only [pmL, pnL, sc0, sc1])
  refine wpAnyH_done (by kernel_rfl) ?_ _
  clear hHeld
  go_wp2_with (first | go_big_skip | go_big_guard | fail)
  have hY := hE.drew
  clear hE
  refine wp_region_held_drew (S := (fun w' => (loadVarH 32 ⟨g5, 0, none⟩).run Tryz.prog w' = .ok (.agg (List.toArray (bytesV S))) w')) (by kernel_rfl) (by exact Loads.atA (P := Tryz.prog) (bytesV S) [_, _] hY HL.out.v List.take_length) (fun hHeld => ?_)
  refine tkH 0 38 ?_ rfl (by kernel_rfl) (fun _ _ _ h => h) (by rfl) (by assumption) ?_ ?_
  rotate_left
  · intro w hSw; (try dsimp only at hSw); go_simp; try with_reducible rfl
  (try simp only [pmL, pnL, sc0, sc1])
  refine tkH 2 40 ?_ rfl (by kernel_rfl) (fun _ _ _ h => h) (by rfl) (by assumption) ?_ ?_
  rotate_left
  · intro w hSw; (try dsimp only at hSw); go_simp; try with_reducible rfl
  (try simp only [pmL, pnL, sc0, sc1])
  refine wpAnyH_ready (rs := [1]) (by kernel_rfl) (by simp) ?_
  refine (AllReadyH.cons (o := ⟨some 39, _, _, _, _, _⟩) rfl (fun K hK => ?_) AllReadyH.nil)
  rw [if_pos (by rfl)]
  go_simp
  go_at_call 23
  refine (sum_any ua B.length uc B _ (Rd.rowP hY (.head _)) rfl HBL.out).mono ?_
  rintro _ w5 ⟨rfl, h4⟩
  have hF := St.call0 hY h4
  clear h4
  refine hK.out _ _ ?_ (fun hHeld => ?_)
  · exact Loads.atA (P := Tryz.prog) (bytesV S) [_, _] hF HL.out.v List.take_length
  clear hK K
  (try simp only [pmL, pnL, sc0, sc1])
  refine wpAnyH_ready (rs := [3]) (by kernel_rfl) (by simp) ?_
  refine (AllReadyH.cons (o := ⟨some 41, _, _, _, _, _⟩) rfl (fun K hK => ?_) AllReadyH.nil)
  rw [if_pos (by rfl)]
  refine ow_of_wl (ops := #[]) (by rfl) ?_
  refine wl_neq_bytes rfl rfl rfl rfl ⟨HS32.out, HL.out⟩ ?_
  rw [HQ.out]
  refine q0_nil ?_
  refine hK.out _ _ ?_ (fun hHeld => ?_)
  · exact Loads.atA (P := Tryz.prog) (bytesV S) [_, _] hF HL.out.v List.take_length
  clear hK K
  (try simp only [pmL, pnL, sc0, sc1])
  refine tkH 4 37 ?_ rfl (by kernel_rfl) (fun _ _ _ h => h) (by rfl) (by assumption) ?_ ?_
  rotate_left
  · intro w hSw; (try dsimp only at hSw); go_simp; try with_reducible rfl
  (try simp only [pmL, pnL, sc0, sc1])
  refine wpAnyH_done (by kernel_rfl) ?_ _
  clear hHeld
  go_wp2_with (first | go_big_skip | go_big_guard | (refine wl_buildX (cs := [.int .i64 0, .slice ua B.length uc]) [(0, .int .i64 0), (1, .slice ua B.length uc)] rfl rfl (by exact rfl) (by kernel_rfl) ?_) | (refine wl_storeA [_] hF rfl rfl rfl rfl rfl rfl rfl ?_; intro _ hst6; clear hF))
  have hl := Loads.atA (P := Tryz.prog) (off := 0) (T := 128) [.int .i64 0, .slice ua B.length uc] [_] hst6 rfl rfl
  refine bodyPost_ret (results_cellL rfl rfl hl) rfl ⟨.slice ua B.length uc, rfl, St.sub hst6 (.cons_cons _ (.cons _ (.cons _ (.cons _ (List.Sublist.refl _)))))⟩
theorem look_any {w0 w : World} {M : List Nat} {R : List HA} {gm ga : Nat} {x : GA} {m : MV} {N : Nat} (hS : St w0 M w (mP gm ga x m ++ R)) (hg : MGood m N) (hN : N ≤ 900000) (dev pl : Int) (S : List UInt8) (hL : L32 S) :
    Calls Tryz.prog 118 #[PM gm, .agg #[.int .i64 dev, .int .i64 pl], .agg (bytesV S).toArray] w fun e w' => ∃ v, e = .returned (.agg #[.int .i64 (m.kind dev pl S), v]) ∧ St w0 M w' (.rowP isB v 5 1 (m.lookB dev pl S).length (bytesV (m.lookB dev pl S)) :: (mP gm ga x (m.looked dev pl S) ++ R)) := by
  by_cases h1 : m.a.readE dev pl = 10
  · exact look_out hS hg hN dev pl S hL h1
  by_cases h2 : m.a.readE dev pl = 13
  · exact look_fail hS hg hN dev pl S hL h2
  by_cases h3 : m.a.readE dev pl = 0
  · by_cases h4 : sumB (m.a.readB dev pl) = S
    · exact look_good hS hg hN dev pl S hL h3 h4
    · exact look_bad hS hg hN dev pl S hL h3 h4
  · exact look_lost hS hg hN dev pl S hL h3 h1 h2
end
end Go.Proofs.YtmdfbdfijnmhkaaGreat
namespace Go.Proofs.YtmdfbdfijnmhkaaGreat
set_option linter.unusedVariables false
set_option linter.unusedSimpArgs false
open Go.RowKit Hp
attribute [local irreducible] Go.Calls Go.wpList
set_option maxRecDepth 100000
set_option maxHeartbeats 4000000
structure GB (w0 : World) (M : List Nat) (R : List HA) (v : Value) (n : Nat) (bs : List UInt8) : Prop where
  rd : ∀ w, St w0 M w R → Rd w v 1 n (bytesV bs)
  len : bs.length = n
  out : ∀ A k c, v = .slice (some A) k c → 0 < k → (∃ q ∈ R, q.foot = some A.block) ∨ (A.block < w0.heap.size ∧ A.block ∉ M)
theorem GB.off {w0 w : World} {M : List Nat} {P R : List HA} {v : Value} {n : Nat} {bs : List UInt8} (hb : GB w0 M R v n bs) (h : St w0 M w (P ++ R)) : Off v (P.filterMap HA.foot) := by
  intro A k c he hk hF
  obtain ⟨p, hp, hf⟩ := List.mem_filterMap.1 hF
  have hap := h.apart
  unfold Apart at hap
  rw [List.pairwise_append] at hap
  rcases hb.out A k c he hk with ⟨q, hq, hqf⟩ | ⟨h1, h2⟩
  · exact hap.2.2 p hp q hq _ hf hqf
  · rcases h.own p (List.mem_append_left _ hp) _ hf with h3 | h3
    · omega
    · exact h2 h3
theorem GB.more {w0 : World} {M : List Nat} {P R : List HA} {v : Value} {n : Nat} {bs : List UInt8} (hb : GB w0 M R v n bs) : GB w0 M (P ++ R) v n bs :=
  ⟨fun w h => hb.rd w (St.sub h (List.sublist_append_right _ _)), hb.len, fun A k c he hk => (hb.out A k c he hk).imp (fun ⟨q, hq, hf⟩ => ⟨q, List.mem_append_right _ hq, hf⟩) id⟩
theorem GB.old {w : World} {R : List HA} {ao : Option Addr} {n c : Nat} {bs : List UInt8} (h : Rd w (.slice ao n c) 1 n (bytesV bs)) (hl : bs.length = n) : GB w [] R (.slice ao n c) n bs := by
  refine ⟨fun w' hst => Rd.old hst h, hl, fun A k c' he hk => .inr ⟨?_, by simp⟩⟩
  cases he
  obtain ⟨b, off, hA, hr⟩ := h.at (k := 0) hk
  cases hA
  cases bs with
  | nil => simp at hl; omega
  | cons y l => exact World.block_lt_of_cell? w ⟨b, off + 0, none⟩ (hr 0 _ rfl)
theorem GB.row {w0 : World} {M : List Nat} {R : List HA} {ao : Option Addr} {n c : Nat} {bs : List UInt8} {T : TypeId} (hm : HA.rowP isB (.slice ao n c) T 1 n (bytesV bs) ∈ R) (hl : bs.length = n) : GB w0 M R (.slice ao n c) n bs := by
  refine ⟨fun w' hst => Rd.rowP hst hm, hl, fun A k c' he hk => .inl ⟨_, hm, ?_⟩⟩
  cases he
  rfl
theorem GB.blk {w0 : World} {M : List Nat} {R : List HA} {g n c : Nat} {bs cs : List UInt8} {T : TypeId} (hm : HA.blk g T (bytesV cs) ∈ R) (hl : bs.length = n) (hc : cs.take n = bs) (hn : n ≤ c) (hcm : c ≤ maxLen) : GB w0 M R (.slice (some ⟨g, 0, none⟩) n c) n bs := by
  refine ⟨fun w' hst => Rd.blk hst hm hn hcm (by rw [length_bytesV, hl, Nat.mul_one]) ?_, hl, fun A k c' he hk => .inl ⟨_, hm, ?_⟩⟩
  · rw [List.drop_zero, length_bytesV, hl, ← hc]
    simp [bytesV, List.map_take]
  · cases he
    rfl
section
attribute [local go_sem ↓] loadedIm3 loadedAm3
theorem heal_ok {w0 w : World} {M : List Nat} {R : List HA} {gm ga : Nat} {x : GA} {m : MV} {N : Nat} (hS : St w0 M w (mP gm ga x m ++ R)) (hg : MGood m N) (hN : N ≤ 900000) (dev pl : Int) (ao : Option Addr) (n c : Nat) (bs : List UInt8) (hb : GB w0 M R (.slice ao n c) n bs) (h1 : m.a.writeE dev pl bs = 0) :
    Calls Tryz.prog 58 #[PM gm, .agg #[.int .i64 dev, .int .i64 pl], .slice ao n c] w fun e w' => ∃ x', e = .returned (.bool (m.a.writeE dev pl bs == 0)) ∧ St w0 M w' (mP gm ga x' (m.healed dev pl bs) ++ R) := by
  have hm : m.healed dev pl bs = ⟨m.a.write dev pl bs, m.e.modify dev.toNat fHe⟩ := by unfold MV.healed; rw [if_pos h1]
  rw [hm]
  have HG := hid hg
  have HLL := hid (hg.ll hN)
  have HST := hid (hg.st hN)
  have HB := hid hb
  have HOF : Hid (∀ w' x', St w0 M w' (arP ga x' m.a ++ R) → Off (.slice ao n c) (arF ga x' m.a)) := hid (fun w' x' h => hb.off h)
  obtain ⟨A', hA⟩ : ∃ A', A' = m.a.write dev pl bs := ⟨_, rfl⟩
  have HA := hid hA.symm
  rw [← hA]
  have HE := hid h1
  rw [h1]
  obtain ⟨kd, rfl, hkd⟩ := inS_dev (writeE_inS h1)
  have HKD := hid hkd
  rw [Int.toNat_natCast]
  clear hkd
  have hst := hS
  clear hS hg hm h1 hA hb
  unfold PM
  go_enter Tryz.func58, Tryz.ntmps58
  go_wp2_with (first | go_big_skip | go_big_guard | (refine wl_boxA hst rfl rfl rfl ?_; intro g4 w1 hst1; clear hst))
  have hX := hst1.drew
  clear hst1
  refine wp_region_held_drew (S := (fun w' => (loadVarH 3 ⟨g4, 0, none⟩).run Tryz.prog w' = .ok (.int .i64 (kd : Int)) w' ∧ (loadVarH 3 ⟨g4, 1, none⟩).run Tryz.prog w' = .ok (.int .i64 pl) w' ∧ (loadVarH 23 ⟨gm, 0, none⟩).run Tryz.prog w' = .ok (.pointer (some ⟨ga, 0, none⟩)) w')) (by kernel_rfl) (by exact ⟨Loads.at (P := Tryz.prog) [] hX rfl, Loads.at (P := Tryz.prog) [] hX rfl, Loads.at (P := Tryz.prog) [_] hX rfl⟩) (fun hHeld => ?_)
  refine tkH 0 7 ?_ rfl (by kernel_rfl) (fun _ _ _ h => h) (by rfl) (by assumption) ?_ ?_
  rotate_left
  · intro w hSw; (try dsimp only at hSw); go_simp; try with_reducible rfl
  (try simp only [pmL, pnL, sc0, sc1])
  refine tkH 4 11 ?_ rfl (by kernel_rfl) (fun _ _ _ h => h) (by rfl) (by assumption) ?_ ?_
  rotate_left
  · intro w hSw; (try dsimp only at hSw); go_simp; try with_reducible rfl
  (try simp only [pmL, pnL, sc0, sc1])
  refine tkH 6 13 ?_ rfl (by kernel_rfl) (fun _ _ _ h => h) (by rfl) (by assumption) ?_ ?_
  rotate_left
  · intro w hSw; (try dsimp only at hSw); go_simp; try with_reducible rfl
  (try simp only [pmL, pnL, sc0, sc1])
  refine tkH 8 15 ?_ rfl (by kernel_rfl) (fun _ _ _ h => h) (by rfl) (by assumption) ?_ ?_
  rotate_left
  · intro w hSw; (try dsimp only at hSw); go_simp; try with_reducible rfl
  (try simp only [pmL, pnL, sc0, sc1])
  refine tkH 1 8 ?_ rfl (by kernel_rfl) (fun _ _ _ h => h) (by rfl) (by assumption) ?_ ?_
  rotate_left
  · intro w hSw; (try dsimp only at hSw); go_simp; try with_reducible rfl
  (try simp only [pmL, pnL, sc0, sc1])
  refine tkH 5 12 ?_ rfl (by kernel_rfl) (fun _ _ _ h => h) (by rfl) (by assumption) ?_ ?_
  rotate_left
  · intro w hSw; (try dsimp only at hSw); go_simp; try with_reducible rfl
  (try simp only [pmL, pnL, sc0, sc1])
  refine tkH 7 14 ?_ rfl (by kernel_rfl) (fun _ _ _ h => h) (by rfl) (by assumption) ?_ ?_
  rotate_left
  · intro w hSw; (try dsimp only at hSw); go_simp; try with_reducible rfl
  (try simp only [pmL, pnL, sc0, sc1])
  refine tkH 2 9 ?_ rfl (by kernel_rfl) (fun _ _ _ h => h) (by rfl) (by assumption) ?_ ?_
  rotate_left
  · intro w hSw; (try dsimp only at hSw); go_simp; try with_reducible rfl
  (try simp only [pmL, pnL, sc0, sc1])
  refine tkH 3 10 ?_ rfl (by kernel_rfl) (fun _ _ _ h => h) (by rfl) (by assumption) ?_ ?_
  rotate_left
  · intro w hSw; (try dsimp only at hSw); go_simp; try with_reducible rfl
  (try simp only [pmL, pnL, sc0, sc1])
  refine wpAnyH_ready (rs := [9]) (by kernel_rfl) (by simp) ?_
  refine (AllReadyH.cons (o := ⟨some 16, _, _, _, _, _⟩) rfl (fun K hK => ?_) AllReadyH.nil)
  rw [if_pos (by rfl)]
  go_simp
  go_at_call 44
  have HC := writeM_any (mid_in (P := [_]) (Bs := [_]) hX) HG.out.sc.ok HST.out HLL.out (kd : Int) pl ao n c bs (HB.out.rd _ (St.sub hX (.cons _ (.cons _ (List.sublist_append_right _ _))))) HB.out.len (HOF.out _ _ (St.sub hX (.cons _ (.cons _ (List.Sublist.refl _)))))
  rw [HE.out, HA.out] at HC
  refine HC.mono ?_
  clear HC
  rintro _ w4 ⟨rfl, x2, h4⟩
  have hE : St w0 M w4 (.blk g4 83 [.int .i64 (kd : Int), .int .i64 pl] :: mB gm ga m :: (arP ga x2 A' ++ R)) := mid_out (P := [_]) (Bs := [_]) hX h4
  clear h4
  refine hK.out _ _ ?_ (fun hHeld => ?_)
  · exact ⟨Loads.at (P := Tryz.prog) [] hE rfl, Loads.at (P := Tryz.prog) [] hE rfl, Loads.at (P := Tryz.prog) [_] hE rfl⟩
  clear hK K
  (try simp only [pmL, pnL, sc0, sc1])
  refine tkH 10 17 ?_ rfl (by kernel_rfl) (fun _ _ _ h => h) (by rfl) (by assumption) ?_ ?_
  rotate_left
  · intro w hSw; (try dsimp only at hSw); go_simp; try with_reducible rfl
  (try simp only [pmL, pnL, sc0, sc1])
  refine wpAnyH_done (by kernel_rfl) ?_ _
  clear hHeld
  go_wp2_with (first | go_big_skip | go_big_guard | (refine wl_loadE rfl rfl rfl ?_; refine ⟨_, Loads.at (P := Tryz.prog) [] hE rfl, ?_⟩) | (go_at_call 110; refine (counts_he (St.front (L1 := [_]) hE) HG.out (by omega) kd HKD.out).mono ?_; rintro _ w6 ⟨rfl, h4⟩; have hst5 := h4; clear h4 hE))
  go_ret
  exact ⟨x2, rfl, St.sub hst5 (.cons_cons _ (.cons _ (List.Sublist.refl _)))⟩
theorem heal_no {w0 w : World} {M : List Nat} {R : List HA} {gm ga : Nat} {x : GA} {m : MV} {N : Nat} (hS : St w0 M w (mP gm ga x m ++ R)) (hg : MGood m N) (hN : N ≤ 900000) (dev pl : Int) (ao : Option Addr) (n c : Nat) (bs : List UInt8) (hb : GB w0 M R (.slice ao n c) n bs) (h1 : m.a.writeE dev pl bs ≠ 0) :
    Calls Tryz.prog 58 #[PM gm, .agg #[.int .i64 dev, .int .i64 pl], .slice ao n c] w fun e w' => ∃ x', e = .returned (.bool (m.a.writeE dev pl bs == 0)) ∧ St w0 M w' (mP gm ga x' (m.healed dev pl bs) ++ R) := by
  have hm : m.healed dev pl bs = ⟨m.a.write dev pl bs, m.e⟩ := by unfold MV.healed; rw [if_neg h1]
  rw [hm]
  have HG := hid hg
  have HLL := hid (hg.ll hN)
  have HST := hid (hg.st hN)
  have HB := hid hb
  have HOF : Hid (∀ w' x', St w0 M w' (arP ga x' m.a ++ R) → Off (.slice ao n c) (arF ga x' m.a)) := hid (fun w' x' h => hb.off h)
  obtain ⟨A', hA⟩ : ∃ A', A' = m.a.write dev pl bs := ⟨_, rfl⟩
  have HA := hid hA.symm
  rw [← hA]
  obtain ⟨E, hE⟩ : ∃ E, E = m.a.writeE dev pl bs := ⟨_, rfl⟩
  rw [← hE] at h1 ⊢
  have HE := hid hE.symm
  have d1 : (E != 0) = true := by simpa using h1
  have d2 : (E == 0) = false := beq_eq_false_iff_ne.2 h1
  rw [d2]
  clear hE
  have hst := hS
  clear hS hg hm h1 hA hb
  unfold PM
  go_enter Tryz.func58, Tryz.ntmps58
  go_wp2_with (first | go_big_skip | go_big_guard | (refine wl_boxA hst rfl rfl rfl ?_; intro g4 w1 hst1; clear hst))
  have hX := hst1.drew
  clear hst1
  refine wp_region_held_drew (S := (fun w' => (loadVarH 3 ⟨g4, 0, none⟩).run Tryz.prog w' = .ok (.int .i64 dev) w' ∧ (loadVarH 3 ⟨g4, 1, none⟩).run Tryz.prog w' = .ok (.int .i64 pl) w' ∧ (loadVarH 23 ⟨gm, 0, none⟩).run Tryz.prog w' = .ok (.pointer (some ⟨ga, 0, none⟩)) w')) (by kernel_rfl) (by exact ⟨Loads.at (P := Tryz.prog) [] hX rfl, Loads.at (P := Tryz.prog) [] hX rfl, Loads.at (P := Tryz.prog) [_] hX rfl⟩) (fun hHeld => ?_)
  refine tkH 0 7 ?_ rfl (by kernel_rfl) (fun _ _ _ h => h) (by rfl) (by assumption) ?_ ?_
  rotate_left
  · intro w hSw; (try dsimp only at hSw); go_simp; try with_reducible rfl
  (try simp only [pmL, pnL, sc0, sc1])
  refine tkH 4 11 ?_ rfl (by kernel_rfl) (fun _ _ _ h => h) (by rfl) (by assumption) ?_ ?_
  rotate_left
  · intro w hSw; (try dsimp only at hSw); go_simp; try with_reducible rfl
  (try simp only [pmL, pnL, sc0, sc1])
  refine tkH 6 13 ?_ rfl (by kernel_rfl) (fun _ _ _ h => h) (by rfl) (by assumption) ?_ ?_
  rotate_left
  · intro w hSw; (try dsimp only at hSw); go_simp; try with_reducible rfl
  (try simp only [pmL, pnL, sc0, sc1])
  refine tkH 8 15 ?_ rfl (by kernel_rfl) (fun _ _ _ h => h) (by rfl) (by assumption) ?_ ?_
  rotate_left
  · intro w hSw; (try dsimp only at hSw); go_simp; try with_reducible rfl
  (try simp only [pmL, pnL, sc0, sc1])
  refine tkH 1 8 ?_ rfl (by kernel_rfl) (fun _ _ _ h => h) (by rfl) (by assumption) ?_ ?_
  rotate_left
  · intro w hSw; (try dsimp only at hSw); go_simp; try with_reducible rfl
  (try simp only [pmL, pnL, sc0, sc1])
  refine tkH 5 12 ?_ rfl (by kernel_rfl) (fun _ _ _ h => h) (by rfl) (by assumption) ?_ ?_
  rotate_left
  · intro w hSw; (try dsimp only at hSw); go_simp; try with_reducible rfl
  (try simp only [pmL, pnL, sc0, sc1])
  refine tkH 7 14 ?_ rfl (by kernel_rfl) (fun _ _ _ h => h) (by rfl) (by assumption) ?_ ?_
  rotate_left
  · intro w hSw; (try dsimp only at hSw); go_simp; try with_reducible rfl
  (try simp only [pmL, pnL, sc0, sc1])
  refine tkH 2 9 ?_ rfl (by kernel_rfl) (fun _ _ _ h => h) (by rfl) (by assumption) ?_ ?_
  rotate_left
  · intro w hSw; (try dsimp only at hSw); go_simp; try with_reducible rfl
  (try simp only [pmL, pnL, sc0, sc1])
  refine tkH 3 10 ?_ rfl (by kernel_rfl) (fun _ _ _ h => h) (by rfl) (by assumption) ?_ ?_
  rotate_left
  · intro w hSw; (try dsimp only at hSw); go_simp; try with_reducible rfl
  (try simp only [pmL, pnL, sc0, sc1])
  refine wpAnyH_ready (rs := [9]) (by kernel_rfl) (by simp) ?_
  refine (AllReadyH.cons (o := ⟨some 16, _, _, _, _, _⟩) rfl (fun K hK => ?_) AllReadyH.nil)
  rw [if_pos (by rfl)]
  go_simp
  go_at_call 44
  have HC := writeM_any (mid_in (P := [_]) (Bs := [_]) hX) HG.out.sc.ok HST.out HLL.out dev pl ao n c bs (HB.out.rd _ (St.sub hX (.cons _ (.cons _ (List.sublist_append_right _ _))))) HB.out.len (HOF.out _ _ (St.sub hX (.cons _ (.cons _ (List.Sublist.refl _)))))
  rw [HE.out, HA.out] at HC
  refine HC.mono ?_
  clear HC
  rintro _ w4 ⟨rfl, x2, h4⟩
  have hE : St w0 M w4 (.blk g4 83 [.int .i64 dev, .int .i64 pl] :: mB gm ga m :: (arP ga x2 A' ++ R)) := mid_out (P := [_]) (Bs := [_]) hX h4
  clear h4
  refine hK.out _ _ ?_ (fun hHeld => ?_)
  · exact ⟨Loads.at (P := Tryz.prog) [] hE rfl, Loads.at (P := Tryz.prog) [] hE rfl, Loads.at (P := Tryz.prog) [_] hE rfl⟩
  clear hK K
  (try simp only [pmL, pnL, sc0, sc1])
  refine tkH 10 17 ?_ rfl (by kernel_rfl) (fun _ _ _ h => h) (by rfl) (by assumption) ?_ ?_
  rotate_left
  · intro w hSw; (try dsimp only at hSw); go_simp; try with_reducible rfl
  (try simp only [pmL, pnL, sc0, sc1])
  refine wpAnyH_done (by kernel_rfl) ?_ _
  clear hHeld
  go_wp2_with (first | go_big_skip | go_big_guard | fail)
  go_ret
  exact ⟨x2, rfl, St.sub hE (.cons _ (List.Sublist.refl _))⟩
theorem heal_any {w0 w : World} {M : List Nat} {R : List HA} {gm ga : Nat} {x : GA} {m : MV} {N : Nat} (hS : St w0 M w (mP gm ga x m ++ R)) (hg : MGood m N) (hN : N ≤ 900000) (dev pl : Int) (ao : Option Addr) (n c : Nat) (bs : List UInt8) (hb : GB w0 M R (.slice ao n c) n bs) :
    Calls Tryz.prog 58 #[PM gm, .agg #[.int .i64 dev, .int .i64 pl], .slice ao n c] w fun e w' => ∃ x', e = .returned (.bool (m.a.writeE dev pl bs == 0)) ∧ St w0 M w' (mP gm ga x' (m.healed dev pl bs) ++ R) := by
  by_cases h1 : m.a.writeE dev pl bs = 0
  · exact heal_ok hS hg hN dev pl ao n c bs hb h1
  · exact heal_no hS hg hN dev pl ao n c bs hb h1
end
theorem readE_out {a : AR} (hn : a.devs ≠ []) : a.readE (-1) 0 = (if a.out then 10 else 5) ∧ a.read (-1) 0 = a := by
  have h1 : a.inS (-1) 0 = false := by unfold AR.inS AR.inD; rfl
  have h2 : a.readE (-1) 0 = (if a.out then 10 else 5) := by
    unfold AR.readE
    rw [if_neg hn, h1]
    rfl
  refine ⟨h2, ?_⟩
  unfold AR.read
  rw [h2, if_neg (by split <;> decide)]
theorem broken_any {w0 w : World} {M : List Nat} {R : List HA} {gm ga : Nat} {x : GA} {m : MV} {N : Nat} (hS : St w0 M w (mP gm ga x m ++ R)) (hg : MGood m N) (hN : N ≤ 900000) :
    Calls Tryz.prog 66 #[PM gm] w fun e w' => e = .returned (.bool m.a.out) ∧ St w0 M w' (mP gm ga x m ++ R) := by
  have hr := readE_out hg.sc.ok.d0
  have HG := hid hg
  have HLL := hid (hg.ll hN)
  have hst := hS
  cases ho : m.a.out
  · rw [ho] at hr
    have HE := hid (show m.a.readE (-1) 0 = 5 from hr.1)
    have HA := hid hr.2
    clear hr ho hS hg
    unfold PM
    go_enter Tryz.func66, Tryz.ntmps66
    go_wp2_with (first | go_big_skip | go_big_guard | (refine wl_loadE rfl rfl rfl ?_; refine ⟨_, Loads.at (P := Tryz.prog) [] hst rfl, ?_⟩) | (go_at_call 36; have HC := readM_anyP (mid_in (P := []) (Bs := [_]) hst) HG.out.sc.ok HLL.out (-1) 0; rw [HE.out, HA.out] at HC; refine HC.mono ?_; clear HC; rintro _ w4 ⟨u, rfl, h4⟩; have hst2 : St w0 M w4 (mP gm ga x m ++ R) := St.sub (mid_outp (P := []) (Bs := [_]) (Q := [_]) hst h4) (.cons _ (List.Sublist.refl _)); clear h4 hst))
    go_ret
    exact ⟨rfl, hst2⟩
  · rw [ho] at hr
    have HE := hid (show m.a.readE (-1) 0 = 10 from hr.1)
    have HA := hid hr.2
    clear hr ho hS hg
    unfold PM
    go_enter Tryz.func66, Tryz.ntmps66
    go_wp2_with (first | go_big_skip | go_big_guard | (refine wl_loadE rfl rfl rfl ?_; refine ⟨_, Loads.at (P := Tryz.prog) [] hst rfl, ?_⟩) | (go_at_call 36; have HC := readM_anyP (mid_in (P := []) (Bs := [_]) hst) HG.out.sc.ok HLL.out (-1) 0; rw [HE.out, HA.out] at HC; refine HC.mono ?_; clear HC; rintro _ w4 ⟨u, rfl, h4⟩; have hst2 : St w0 M w4 (mP gm ga x m ++ R) := St.sub (mid_outp (P := []) (Bs := [_]) (Q := [_]) hst h4) (.cons _ (List.Sublist.refl _)); clear h4 hst))
    go_ret
    exact ⟨rfl, hst2⟩
end Go.Proofs.YtmdfbdfijnmhkaaGreat
