import Derived.Test.YthjafocnfpphlaaT18
import Derived.Test.YthjafocnfpphlaaT9
import Derived.Test.YthjafocnfpphlaaPtrM
import Derived.Test.YthjafocnfpphlaaT12
import Derived.Test.YthjafocnfpphlaaRegL
namespace Go.Proofs.Ythjafocnfpphlaa
open Go.RowKit Hp
attribute [local irreducible] Go.Calls
set_option maxHeartbeats 2000000
theorem loadedL9 (A : Addr) : loadVar 25 A = loadVarH 25 A := rfl
theorem storedL9 (A : Addr) (v : Value) : storeVar 25 A v = storeVarH 25 A v := rfl
attribute [local go_sem ↓] storedP loadedL9 storedL9
theorem take_get (bs : List UInt8) (k m : Nat) (h : k + (m + 1) ≤ bs.length) : (bs.drop k).take (m + 1) = bs.getD k 0 :: (bs.drop (k + 1)).take m := by
  rw [List.drop_eq_getElem_cons (by omega), List.take_succ_cons]
  simp [List.getD, show k < bs.length by omega]
theorem birth_at {bs : List UInt8} (h : bs.length = 47) : rBirth bs = (((bs.getD 10 0).toNat * 256 + (bs.getD 11 0).toNat) * 256 + (bs.getD 12 0).toNat) * 256 + (bs.getD 13 0).toNat := by
  unfold rBirth
  rw [take_get bs 10 3 (by omega), take_get bs 11 2 (by omega), take_get bs 12 1 (by omega), take_get bs 13 0 (by omega)]
  simp [beN]
theorem level_at {bs : List UInt8} (h : bs.length = 47) : rLevel bs = (bs.getD 14 0).toNat := by
  unfold rLevel
  rw [take_get bs 14 0 (by omega)]
  simp [beN]
theorem rA_at {bs : List UInt8} {k : Nat} (h : 3 + 3 * k < bs.length) : rA bs k = (((bs.getD (1 + 3 * k) 0).toNat : Int), 256 * ((bs.getD (2 + 3 * k) 0).toNat : Int) + ((bs.getD (3 + 3 * k) 0).toNat : Int)) := by
  unfold rA
  rw [take_get bs (1 + 3 * k) 0 (by omega), take_get bs (2 + 3 * k) 1 (by omega), show 2 + 3 * k + 1 = 3 + 3 * k by omega, take_get bs (3 + 3 * k) 0 (by omega)]
  simp only [beN, List.take_zero, List.foldl_cons, List.foldl_nil, Prod.mk.injEq]
  constructor <;> omega
theorem rAddrs_stop {bs : List UInt8} {k : Nat} (h : ¬ (k < beN (bs.take 1) ∧ k < 3)) (hk : k ≤ 3) : rAddrs bs 3 = rAddrs bs k := by
  have stop : ∀ m, beN (bs.take 1) ≤ m → rAddrs bs (m + 1) = rAddrs bs m := fun m hm => by rw [rAddrs, if_neg (by omega), List.append_nil]
  by_cases h3 : k = 3
  · rw [h3]
  · have hb : beN (bs.take 1) ≤ k := by omega
    obtain rfl | rfl | rfl : k = 0 ∨ k = 1 ∨ k = 2 := by omega
    · rw [stop 2 (by omega), stop 1 (by omega), stop 0 hb]
    · rw [stop 2 (by omega), stop 1 (by omega)]
    · rw [stop 2 (by omega)]
def sumTo (bs : List UInt8) (j : Nat) : List UInt8 := ((bs.drop 15).take j) ++ List.replicate (32 - j) 0
theorem len_sumTo {bs : List UInt8} {j : Nat} (h : bs.length = 47) (hj : j ≤ 32) : (sumTo bs j).length = 32 := by simp [sumTo, h]; omega
theorem sumTo_all {bs : List UInt8} (h : bs.length = 47) : sumTo bs 32 = rSum bs := by
  unfold sumTo rSum
  rw [List.take_of_length_le (by simp [h])]; simp
theorem sumTo_put {bs : List UInt8} {j : Nat} (h : bs.length = 47) (hj : j < 32) (v : Value) (b l : Int) :
    putAt (ptrCells v b l (sumTo bs j)) (3 + j) [.int .u8 (bs.getD (15 + j) 0).toNat] = ptrCells v b l (sumTo bs (j + 1)) := by
  have e1 : ptrCells v b l (sumTo bs j) = (v :: .int .i64 b :: .int .i64 l :: bytesV ((bs.drop 15).take j)) ++ bytesV (List.replicate (32 - j) 0) := by simp [ptrCells, sumTo, bytesV]
  have e2 : (v :: Value.int .i64 b :: Value.int .i64 l :: bytesV ((bs.drop 15).take j)).length = 3 + j := by simp [h]; omega
  rw [e1, show 3 + j = (v :: Value.int .i64 b :: Value.int .i64 l :: bytesV ((bs.drop 15).take j)).length + 0 by rw [e2, Nat.add_zero], put_app]
  have e3 : (bs.drop 15).take (j + 1) = (bs.drop 15).take j ++ [bs.getD (15 + j) 0] := by
    rw [List.take_succ_eq_append_getElem (by simp [h]; omega)]
    simp [List.getD, show 15 + j < bs.length by omega]
  have e4 : List.replicate (32 - j) (0 : UInt8) = 0 :: List.replicate (32 - (j + 1)) 0 := by rw [← List.replicate_succ]; congr 1; omega
  rw [e4]
  simp [putAt, ptrCells, sumTo, e3, bytesV]
set_option maxRecDepth 100000 in
theorem refRead_full (ao : Option Addr) (n c : Nat) (bs : List UInt8) (w : World) (hA : Rd w (.slice ao n c) 1 n (bytesV bs)) (hn : bs.length = n) (h47 : n = 47) :
    Calls Try.prog 16 #[.slice ao n c] w (readOut bs w 42) := by
  have hbd1 := hA.bd.1
  have hbd2 := hA.bd.2.1
  have hst := St.refl w
  obtain ⟨b0, off0, rfl, hr0⟩ := hA.at (k := 0) (by omega)
  have Hn := hid hn; clear hn
  subst h47
  go_enter Try.func16, Try.ntmps16
  go_wp2_with (first | go_big_skip | go_big_guard | (refine wl_alloc hst rfl rfl ?_; intro g0 w1 hst1; clear hst) | (refine wl_alloc hst1 rfl rfl ?_; intro gf w2 hst2; clear hst1))
  obtain ⟨x0, hx0⟩ : ∃ x, x = bs.getD 10 0 := ⟨_, rfl⟩
  obtain ⟨x1, hx1⟩ : ∃ x, x = bs.getD 11 0 := ⟨_, rfl⟩
  obtain ⟨x2, hx2⟩ : ∃ x, x = bs.getD 12 0 := ⟨_, rfl⟩
  obtain ⟨x3, hx3⟩ : ∃ x, x = bs.getD 13 0 := ⟨_, rfl⟩
  obtain ⟨x4, hx4⟩ : ∃ x, x = bs.getD 14 0 := ⟨_, rfl⟩
  have k0 := byte_cell hr0 (k := 10) (by rw [Hn.out]; decide)
  rw [← hx0] at k0
  have k1 := byte_cell hr0 (k := 11) (by rw [Hn.out]; decide)
  rw [← hx1] at k1
  have k2 := byte_cell hr0 (k := 12) (by rw [Hn.out]; decide)
  rw [← hx2] at k2
  have k3 := byte_cell hr0 (k := 13) (by rw [Hn.out]; decide)
  rw [← hx3] at k3
  have k4 := byte_cell hr0 (k := 14) (by rw [Hn.out]; decide)
  rw [← hx4] at k4
  have HX := hid (And.intro hx0 (And.intro hx1 (And.intro hx2 (And.intro hx3 hx4))))
  clear hx0 hx1 hx2 hx3 hx4
  have q0 := x0.toNat_lt
  have K0 := hid k0; clear k0
  have q1 := x1.toNat_lt
  have K1 := hid k1; clear k1
  have q2 := x2.toNat_lt
  have K2 := hid k2; clear k2
  have q3 := x3.toNat_lt
  have K3 := hid k3; clear k3
  have q4 := x4.toNat_lt
  have K4 := hid k4; clear k4
  have r0 : IntKind.i64.wrap (x0.toNat : Int) = x0.toNat := IntWalk.i64_in _ (by omega)
  have r1 : IntKind.i64.wrap (x1.toNat : Int) = x1.toNat := IntWalk.i64_in _ (by omega)
  have r2 : IntKind.i64.wrap (x2.toNat : Int) = x2.toNat := IntWalk.i64_in _ (by omega)
  have r3 : IntKind.i64.wrap (x3.toNat : Int) = x3.toNat := IntWalk.i64_in _ (by omega)
  have r4 : IntKind.i64.wrap (x4.toNat : Int) = x4.toNat := IntWalk.i64_in _ (by omega)
  have s0 : IntKind.i64.wrap ((x0.toNat : Int) * 16777216) = (x0.toNat : Int) * 16777216 := IntWalk.i64_in _ (by omega)
  have s1 : IntKind.i64.wrap ((x1.toNat : Int) * 65536) = (x1.toNat : Int) * 65536 := IntWalk.i64_in _ (by omega)
  have s2 : IntKind.i64.wrap ((x2.toNat : Int) * 256) = (x2.toNat : Int) * 256 := IntWalk.i64_in _ (by omega)
  have s3 : IntKind.i64.wrap ((x0.toNat : Int) * 16777216 + (x1.toNat : Int) * 65536) = (x0.toNat : Int) * 16777216 + (x1.toNat : Int) * 65536 := IntWalk.i64_in _ (by omega)
  have s4 : IntKind.i64.wrap ((x0.toNat : Int) * 16777216 + (x1.toNat : Int) * 65536 + (x2.toNat : Int) * 256) = (x0.toNat : Int) * 16777216 + (x1.toNat : Int) * 65536 + (x2.toNat : Int) * 256 := IntWalk.i64_in _ (by omega)
  have s5 : IntKind.i64.wrap ((x0.toNat : Int) * 16777216 + (x1.toNat : Int) * 65536 + (x2.toNat : Int) * 256 + (x3.toNat : Int)) = (x0.toNat : Int) * 16777216 + (x1.toNat : Int) * 65536 + (x2.toNat : Int) * 256 + (x3.toNat : Int) := IntWalk.i64_in _ (by omega)
  have hD := hst2.drew
  have hP : St w [] ((w2.alloc (.cells (List.toArray [.slice none 0 0, .int .i64 0, .int .i64 0, .int .u8 0, .int .u8 0, .int .u8 0, .int .u8 0, .int .u8 0, .int .u8 0, .int .u8 0, .int .u8 0, .int .u8 0, .int .u8 0, .int .u8 0, .int .u8 0, .int .u8 0, .int .u8 0, .int .u8 0, .int .u8 0, .int .u8 0, .int .u8 0, .int .u8 0, .int .u8 0, .int .u8 0, .int .u8 0, .int .u8 0, .int .u8 0, .int .u8 0, .int .u8 0, .int .u8 0, .int .u8 0, .int .u8 0, .int .u8 0, .int .u8 0, .int .u8 0]) 29)).drew) (.blk w2.heap.size 29 [.slice none 0 0, .int .i64 0, .int .i64 0, .int .u8 0, .int .u8 0, .int .u8 0, .int .u8 0, .int .u8 0, .int .u8 0, .int .u8 0, .int .u8 0, .int .u8 0, .int .u8 0, .int .u8 0, .int .u8 0, .int .u8 0, .int .u8 0, .int .u8 0, .int .u8 0, .int .u8 0, .int .u8 0, .int .u8 0, .int .u8 0, .int .u8 0, .int .u8 0, .int .u8 0, .int .u8 0, .int .u8 0, .int .u8 0, .int .u8 0, .int .u8 0, .int .u8 0, .int .u8 0, .int .u8 0, .int .u8 0] :: [.blk gf 32 [.int .i64 0, .int .i64 0], .blk g0 29 (ptrCells (.slice none 0 0) 0 0 nones)]) := (hst2.alloc _ _).drew
  clear hst2
  go_region_held3 (fun w' => w'.cell? ⟨b0, off0 + 10, none⟩ = some (.int .u8 (x0.toNat : Int)) ∧ w'.cell? ⟨b0, off0 + 11, none⟩ = some (.int .u8 (x1.toNat : Int)) ∧ w'.cell? ⟨b0, off0 + 12, none⟩ = some (.int .u8 (x2.toNat : Int)) ∧ w'.cell? ⟨b0, off0 + 13, none⟩ = some (.int .u8 (x3.toNat : Int)) ∧ w'.cell? ⟨b0, off0 + 14, none⟩ = some (.int .u8 (x4.toNat : Int)))
    (first | exact ⟨hE.old_cell K0.out (by simp), hE.old_cell K1.out (by simp), hE.old_cell K2.out (by simp), hE.old_cell K3.out (by simp), hE.old_cell K4.out (by simp)⟩ | exact ⟨hP.old_cell K0.out (by simp), hP.old_cell K1.out (by simp), hP.old_cell K2.out (by simp), hP.old_cell K3.out (by simp), hP.old_cell K4.out (by simp)⟩ | exact ⟨hD.old_cell K0.out (by simp), hD.old_cell K1.out (by simp), hD.old_cell K2.out (by simp), hD.old_cell K3.out (by simp), hD.old_cell K4.out (by simp)⟩)
    (first | (rw [stored_row (P := Try.prog) (n := 35) [] hP inferInstance rfl rfl rfl]; have hE := St.setRow (L1 := []) hP [.slice none 0 0, .int .i64 ((x0.toNat : Int) * 16777216 + (x1.toNat : Int) * 65536 + (x2.toNat : Int) * 256 + (x3.toNat : Int)), .int .i64 x4.toNat, .int .u8 0, .int .u8 0, .int .u8 0, .int .u8 0, .int .u8 0, .int .u8 0, .int .u8 0, .int .u8 0, .int .u8 0, .int .u8 0, .int .u8 0, .int .u8 0, .int .u8 0, .int .u8 0, .int .u8 0, .int .u8 0, .int .u8 0, .int .u8 0, .int .u8 0, .int .u8 0, .int .u8 0, .int .u8 0, .int .u8 0, .int .u8 0, .int .u8 0, .int .u8 0, .int .u8 0, .int .u8 0, .int .u8 0, .int .u8 0, .int .u8 0, .int .u8 0]; go_simp))
  clear hD hP r0 r1 r2 r3 r4 s0 s1 s2 s3 s4 s5
  rename_i hHeld
  clear hHeld
  have eB : (x0.toNat : Int) * 16777216 + (x1.toNat : Int) * 65536 + (x2.toNat : Int) * 256 + (x3.toNat : Int) = (rBirth bs : Int) := by
    obtain ⟨a0, a1, a2, a3, a4⟩ := HX.out
    rw [a0, a1, a2, a3, birth_at Hn.out]
    clear hE HX a0 a1 a2 a3 a4
    omega
  have eL : (x4.toNat : Int) = (rLevel bs : Int) := by
    obtain ⟨a0, a1, a2, a3, a4⟩ := HX.out
    rw [a4, level_at Hn.out]
  revert hE
  generalize World.setRow _ _ _ = w4
  generalize w2.heap.size = gp
  intro hE0
  have hE : St w [] w4 [.blk gp 29 (ptrCells (.slice none 0 0) ((x0.toNat : Int) * 16777216 + (x1.toNat : Int) * 65536 + (x2.toNat : Int) * 256 + (x3.toNat : Int)) x4.toNat nones), .blk gf 32 [.int .i64 0, .int .i64 0], .blk g0 29 (ptrCells (.slice none 0 0) 0 0 nones)] := hE0
  clear hE0
  rw [eB, eL] at hE
  clear HX K0 K1 K2 K3 K4 q0 q1 q2 q3 q4 eB eL
  obtain ⟨many, hmany⟩ : ∃ q, q = beN (bs.take 1) := ⟨_, rfl⟩
  have hm0 : many = (bs.getD 0 0).toNat := by
    rw [hmany]
    have := take_get bs 0 0 (by rw [Hn.out]; decide)
    rw [List.drop_zero] at this
    rw [this]
    simp [beN]
  have hml : many < 256 := by rw [hm0]; exact (bs.getD 0 0).toNat_lt
  have k0 := byte_cell hr0 (k := 0) (by rw [Hn.out]; decide)
  rw [← hm0, Nat.add_zero] at k0
  have K0 := hid k0
  have Hm := hid hmany
  clear k0 hm0 hmany
  go_wp2_with (first | go_big_skip | go_big_guard | fail)
  have hst5 : St w [] w4 [.row (.slice none 0 0) 42 2 0 (addrsV (rAddrs bs 0)), .blk gp 29 (ptrCells (.slice none 0 0) (rBirth bs) (rLevel bs) nones), .blk gf 32 [.int .i64 0, .int .i64 0], .blk g0 29 (ptrCells (.slice none 0 0) 0 0 nones)] := St.nilRow _ _ hE
  clear hE
  go_loopw [5] (fun i wr => ∃ k : Nat, k ≤ 3 ∧ k ≤ many ∧ i = .int .i64 k ∧ ∃ v3, Hid ((rAddrs bs k).length = k) ∧ St w [] wr [.row v3 42 2 k (addrsV (rAddrs bs k)), .blk gp 29 (ptrCells v3 (rBirth bs) (rLevel bs) nones), .blk gf 32 [.int .i64 0, .int .i64 0], .blk g0 29 (ptrCells (.slice none 0 0) 0 0 nones)]) (fun i _ => 3 - (intOf i).toNat)
  case atStart => exact ⟨0, by omega, by omega, rfl, _, hid rfl, hst5⟩
  case round =>
    clear hst5
    obtain ⟨k, hk, hkm, rfl, v3, hl, hst⟩ := hrel
    have d0 := hst.old_cell K0.out (by simp)
    by_cases hgo : k < many ∧ k < 3
    · obtain ⟨h1, h2⟩ := hgo
      go_wp2_with (first | go_big_skip | go_big_guard | fail)
      obtain ⟨y1, hy1⟩ : ∃ x, x = bs.getD (1 + 3 * k) 0 := ⟨_, rfl⟩
      have e1 := byte_cell hr0 (k := 1 + 3 * k) (by rw [Hn.out]; omega)
      rw [← hy1] at e1
      have Y1 := hid e1; clear e1
      have q1 := y1.toNat_lt
      obtain ⟨y2, hy2⟩ : ∃ x, x = bs.getD (2 + 3 * k) 0 := ⟨_, rfl⟩
      have e2 := byte_cell hr0 (k := 2 + 3 * k) (by rw [Hn.out]; omega)
      rw [← hy2] at e2
      have Y2 := hid e2; clear e2
      have q2 := y2.toNat_lt
      obtain ⟨y3, hy3⟩ : ∃ x, x = bs.getD (3 + 3 * k) 0 := ⟨_, rfl⟩
      have e3 := byte_cell hr0 (k := 3 + 3 * k) (by rw [Hn.out]; omega)
      rw [← hy3] at e3
      have Y3 := hid e3; clear e3
      have q3 := y3.toNat_lt
      have HY := hid (And.intro hy1 (And.intro hy2 hy3))
      clear hy1 hy2 hy3
      have hD := hst.drew
      have hB : St w [] ((wr.alloc (.cells (List.toArray [.int .i64 y1.toNat, .int .i64 (256 * (y2.toNat : Int) + y3.toNat)]) 42)).drew) (.blk wr.heap.size 42 [.int .i64 y1.toNat, .int .i64 (256 * (y2.toNat : Int) + y3.toNat)] :: [.row v3 42 2 k (addrsV (rAddrs bs k)), .blk gp 29 (ptrCells v3 (rBirth bs) (rLevel bs) nones), .blk gf 32 [.int .i64 0, .int .i64 0], .blk g0 29 (ptrCells (.slice none 0 0) 0 0 nones)]) := (hst.alloc _ _).drew
      clear hst
      have a1 : (0 : Int) ≤ 1 + 3 * (k : Int) := by omega
      have b1 : 1 + 3 * (k : Int) < 47 := by omega
      have a2 : (0 : Int) ≤ 2 + 3 * (k : Int) := by omega
      have b2 : 2 + 3 * (k : Int) < 47 := by omega
      have a3 : (0 : Int) ≤ 3 + 3 * (k : Int) := by omega
      have b3 : 3 + 3 * (k : Int) < 47 := by omega
      have z0 : IntKind.i64.wrap (3 * (k : Int)) = 3 * (k : Int) := IntWalk.i64_in _ (by omega)
      have z1 : IntKind.i64.wrap (1 + 3 * (k : Int)) = 1 + 3 * (k : Int) := IntWalk.i64_in _ (by omega)
      have n1 : (1 + 3 * (k : Int)).toNat = 1 + 3 * k := by omega
      have r1 : IntKind.i64.wrap (y1.toNat : Int) = y1.toNat := IntWalk.i64_in _ (by omega)
      have z2 : IntKind.i64.wrap (2 + 3 * (k : Int)) = 2 + 3 * (k : Int) := IntWalk.i64_in _ (by omega)
      have n2 : (2 + 3 * (k : Int)).toNat = 2 + 3 * k := by omega
      have r2 : IntKind.i64.wrap (y2.toNat : Int) = y2.toNat := IntWalk.i64_in _ (by omega)
      have z3 : IntKind.i64.wrap (3 + 3 * (k : Int)) = 3 + 3 * (k : Int) := IntWalk.i64_in _ (by omega)
      have n3 : (3 + 3 * (k : Int)).toNat = 3 + 3 * k := by omega
      have r3 : IntKind.i64.wrap (y3.toNat : Int) = y3.toNat := IntWalk.i64_in _ (by omega)
      have z4 : IntKind.i64.wrap (256 * (y2.toNat : Int)) = 256 * (y2.toNat : Int) := IntWalk.i64_in _ (by omega)
      have z5 : IntKind.i64.wrap (256 * (y2.toNat : Int) + y3.toNat) = 256 * (y2.toNat : Int) + y3.toNat := IntWalk.i64_in _ (by omega)
      refine wp_region_last (S := (fun w' => w'.cell? ⟨b0, off0 + (1 + 3 * k), none⟩ = some (.int .u8 (y1.toNat : Int)) ∧ w'.cell? ⟨b0, off0 + (2 + 3 * k), none⟩ = some (.int .u8 (y2.toNat : Int)) ∧ w'.cell? ⟨b0, off0 + (3 + 3 * k), none⟩ = some (.int .u8 (y3.toNat : Int)) ∧ (loadVarH 25 ⟨gp, 0, none⟩).run Try.prog w' = .ok v3 w')) (by kernel_rfl) rfl (by kernel_rfl) (by exact ⟨hD.old_cell Y1.out (by simp), hD.old_cell Y2.out (by simp), hD.old_cell Y3.out (by simp), ldS (P := Try.prog) [_] hD rfl⟩) (fun hHeld => ?_)
      simp only [List.pop_toArray, List.dropLast, List.size_toArray, List.length_cons, List.length_nil]
      refine wpAnyH_take (i := 0) (oi := ⟨some 60, _, _, _, _, _⟩) (v := ?_) rfl (by kernel_rfl) (by kernel_rfl) (by kernel_rfl) (fun _ _ _ h => h) (Or.inl ⟨by rfl, ?_⟩) (by assumption) ?_
      rotate_left
      · intro w hSw; (try dsimp only at hSw); go_simp; try with_reducible rfl
      (try simp only [Act.put, List.setIfInBounds_toArray, List.set_cons_zero, List.set_cons_succ])
      refine wpAnyH_take (i := 1) (oi := ⟨some 61, _, _, _, _, _⟩) (v := ?_) rfl (by kernel_rfl) (by kernel_rfl) (by kernel_rfl) (fun _ _ _ h => h) (Or.inl ⟨by rfl, ?_⟩) (by assumption) ?_
      rotate_left
      · intro w hSw; (try dsimp only at hSw); go_simp; try with_reducible rfl
      (try simp only [Act.put, List.setIfInBounds_toArray, List.set_cons_zero, List.set_cons_succ])
      refine wpAnyH_take (i := 2) (oi := ⟨some 62, _, _, _, _, _⟩) (v := ?_) rfl (by kernel_rfl) (by kernel_rfl) (by kernel_rfl) (fun _ _ _ h => h) (Or.inl ⟨by rfl, ?_⟩) (by assumption) ?_
      rotate_left
      · intro w hSw; (try dsimp only at hSw); go_simp; try with_reducible rfl
      (try simp only [Act.put, List.setIfInBounds_toArray, List.set_cons_zero, List.set_cons_succ])
      refine wpAnyH_take (i := 3) (oi := ⟨some 63, _, _, _, _, _⟩) (v := ?_) rfl (by kernel_rfl) (by kernel_rfl) (by kernel_rfl) (fun _ _ _ h => h) (Or.inl ⟨by rfl, ?_⟩) (by assumption) ?_
      rotate_left
      · intro w hSw; (try dsimp only at hSw); go_simp; try with_reducible rfl
      (try simp only [Act.put, List.setIfInBounds_toArray, List.set_cons_zero, List.set_cons_succ])
      refine wpAnyH_take (i := 4) (oi := ⟨some 64, _, _, _, _, _⟩) (v := ?_) rfl (by kernel_rfl) (by kernel_rfl) (by kernel_rfl) (fun _ _ _ h => h) (Or.inl ⟨by rfl, ?_⟩) (by assumption) ?_
      rotate_left
      · intro w hSw; (try dsimp only at hSw); go_simp; try with_reducible rfl
      (try simp only [Act.put, List.setIfInBounds_toArray, List.set_cons_zero, List.set_cons_succ])
      refine wpAnyH_take (i := 5) (oi := ⟨some 65, _, _, _, _, _⟩) (v := ?_) rfl (by kernel_rfl) (by kernel_rfl) (by kernel_rfl) (fun _ _ _ h => h) (Or.inl ⟨by rfl, ?_⟩) (by assumption) ?_
      rotate_left
      · intro w hSw; (try dsimp only at hSw); go_simp; try with_reducible rfl
      (try simp only [Act.put, List.setIfInBounds_toArray, List.set_cons_zero, List.set_cons_succ])
      refine wpAnyH_take (i := 6) (oi := ⟨some 66, _, _, _, _, _⟩) (v := ?_) rfl (by kernel_rfl) (by kernel_rfl) (by kernel_rfl) (fun _ _ _ h => h) (Or.inl ⟨by rfl, ?_⟩) (by assumption) ?_
      rotate_left
      · intro w hSw; (try dsimp only at hSw); go_simp; try with_reducible rfl
      (try simp only [Act.put, List.setIfInBounds_toArray, List.set_cons_zero, List.set_cons_succ])
      refine wpAnyH_take (i := 7) (oi := ⟨some 67, _, _, _, _, _⟩) (v := ?_) rfl (by kernel_rfl) (by kernel_rfl) (by kernel_rfl) (fun _ _ _ h => h) (Or.inl ⟨by rfl, ?_⟩) (by assumption) ?_
      rotate_left
      · intro w hSw; (try dsimp only at hSw); go_simp; try with_reducible rfl
      (try simp only [Act.put, List.setIfInBounds_toArray, List.set_cons_zero, List.set_cons_succ])
      refine wpAnyH_take (i := 8) (oi := ⟨some 68, _, _, _, _, _⟩) (v := ?_) rfl (by kernel_rfl) (by kernel_rfl) (by kernel_rfl) (fun _ _ _ h => h) (Or.inl ⟨by rfl, ?_⟩) (by assumption) ?_
      rotate_left
      · intro w hSw; (try dsimp only at hSw); go_simp; try with_reducible rfl
      (try simp only [Act.put, List.setIfInBounds_toArray, List.set_cons_zero, List.set_cons_succ])
      refine wpAnyH_take (i := 9) (oi := ⟨some 69, _, _, _, _, _⟩) (v := ?_) rfl (by kernel_rfl) (by kernel_rfl) (by kernel_rfl) (fun _ _ _ h => h) (Or.inl ⟨by rfl, ?_⟩) (by assumption) ?_
      rotate_left
      · intro w hSw; (try dsimp only at hSw); go_simp; try with_reducible rfl
      (try simp only [Act.put, List.setIfInBounds_toArray, List.set_cons_zero, List.set_cons_succ])
      refine wpAnyH_take (i := 10) (oi := ⟨some 70, _, _, _, _, _⟩) (v := ?_) rfl (by kernel_rfl) (by kernel_rfl) (by kernel_rfl) (fun _ _ _ h => h) (Or.inl ⟨by rfl, ?_⟩) (by assumption) ?_
      rotate_left
      · intro w hSw; (try dsimp only at hSw); go_simp; try with_reducible rfl
      (try simp only [Act.put, List.setIfInBounds_toArray, List.set_cons_zero, List.set_cons_succ])
      refine wpAnyH_take (i := 11) (oi := ⟨some 71, _, _, _, _, _⟩) (v := ?_) rfl (by kernel_rfl) (by kernel_rfl) (by kernel_rfl) (fun _ _ _ h => h) (Or.inl ⟨by rfl, ?_⟩) (by assumption) ?_
      rotate_left
      · intro w hSw; (try dsimp only at hSw); go_simp; try with_reducible rfl
      (try simp only [Act.put, List.setIfInBounds_toArray, List.set_cons_zero, List.set_cons_succ])
      refine wpAnyH_take (i := 12) (oi := ⟨some 72, _, _, _, _, _⟩) (v := ?_) rfl (by kernel_rfl) (by kernel_rfl) (by kernel_rfl) (fun _ _ _ h => h) (Or.inl ⟨by rfl, ?_⟩) (by assumption) ?_
      rotate_left
      · intro w hSw; (try dsimp only at hSw); go_simp; try with_reducible rfl
      (try simp only [Act.put, List.setIfInBounds_toArray, List.set_cons_zero, List.set_cons_succ])
      refine wpAnyH_take (i := 13) (oi := ⟨some 73, _, _, _, _, _⟩) (v := ?_) rfl (by kernel_rfl) (by kernel_rfl) (by kernel_rfl) (fun _ _ _ h => h) (Or.inl ⟨by rfl, ?_⟩) (by assumption) ?_
      rotate_left
      · intro w hSw; (try dsimp only at hSw); go_simp; try with_reducible rfl
      (try simp only [Act.put, List.setIfInBounds_toArray, List.set_cons_zero, List.set_cons_succ])
      refine wpAnyH_take (i := 14) (oi := ⟨some 74, _, _, _, _, _⟩) (v := ?_) rfl (by kernel_rfl) (by kernel_rfl) (by kernel_rfl) (fun _ _ _ h => h) (Or.inl ⟨by rfl, ?_⟩) (by assumption) ?_
      rotate_left
      · intro w hSw; (try dsimp only at hSw); go_simp; try with_reducible rfl
      (try simp only [Act.put, List.setIfInBounds_toArray, List.set_cons_zero, List.set_cons_succ])
      refine wpAnyH_take (i := 15) (oi := ⟨some 75, _, _, _, _, _⟩) (v := ?_) rfl (by kernel_rfl) (by kernel_rfl) (by kernel_rfl) (fun _ _ _ h => h) (Or.inl ⟨by rfl, ?_⟩) (by assumption) ?_
      rotate_left
      · intro w hSw; (try dsimp only at hSw); go_simp; try with_reducible rfl
      (try simp only [Act.put, List.setIfInBounds_toArray, List.set_cons_zero, List.set_cons_succ])
      refine wpAnyH_take (i := 16) (oi := ⟨some 76, _, _, _, _, _⟩) (v := ?_) rfl (by kernel_rfl) (by kernel_rfl) (by kernel_rfl) (fun _ _ _ h => h) (Or.inl ⟨by rfl, ?_⟩) (by assumption) ?_
      rotate_left
      · intro w hSw; (try dsimp only at hSw); go_simp; try with_reducible rfl
      (try simp only [Act.put, List.setIfInBounds_toArray, List.set_cons_zero, List.set_cons_succ])
      refine wpAnyH_take (i := 17) (oi := ⟨some 77, _, _, _, _, _⟩) (v := ?_) rfl (by kernel_rfl) (by kernel_rfl) (by kernel_rfl) (fun _ _ _ h => h) (Or.inl ⟨by rfl, ?_⟩) (by assumption) ?_
      rotate_left
      · intro w hSw; (try dsimp only at hSw); go_simp; try with_reducible rfl
      (try simp only [Act.put, List.setIfInBounds_toArray, List.set_cons_zero, List.set_cons_succ])
      refine wpAnyH_take (i := 18) (oi := ⟨some 78, _, _, _, _, _⟩) (v := ?_) rfl (by kernel_rfl) (by kernel_rfl) (by kernel_rfl) (fun _ _ _ h => h) (Or.inl ⟨by rfl, ?_⟩) (by assumption) ?_
      rotate_left
      · intro w hSw; (try dsimp only at hSw); go_simp; try with_reducible rfl
      (try simp only [Act.put, List.setIfInBounds_toArray, List.set_cons_zero, List.set_cons_succ])
      refine wpAnyH_take (i := 19) (oi := ⟨some 79, _, _, _, _, _⟩) (v := ?_) rfl (by kernel_rfl) (by kernel_rfl) (by kernel_rfl) (fun _ _ _ h => h) (Or.inl ⟨by rfl, ?_⟩) (by assumption) ?_
      rotate_left
      · intro w hSw; (try dsimp only at hSw); go_simp; try with_reducible rfl
      (try simp only [Act.put, List.setIfInBounds_toArray, List.set_cons_zero, List.set_cons_succ])
      refine wpAnyH_take (i := 20) (oi := ⟨some 80, _, _, _, _, _⟩) (v := ?_) rfl (by kernel_rfl) (by kernel_rfl) (by kernel_rfl) (fun _ _ _ h => h) (Or.inl ⟨by rfl, ?_⟩) (by assumption) ?_
      rotate_left
      · intro w hSw; (try dsimp only at hSw); go_simp; try with_reducible rfl
      (try simp only [Act.put, List.setIfInBounds_toArray, List.set_cons_zero, List.set_cons_succ])
      refine wpAnyH_take (i := 21) (oi := ⟨some 81, _, _, _, _, _⟩) (v := ?_) rfl (by kernel_rfl) (by kernel_rfl) (by kernel_rfl) (fun _ _ _ h => h) (Or.inl ⟨by rfl, ?_⟩) (by assumption) ?_
      rotate_left
      · intro w hSw; (try dsimp only at hSw); go_simp; try with_reducible rfl
      (try simp only [Act.put, List.setIfInBounds_toArray, List.set_cons_zero, List.set_cons_succ])
      refine wpAnyH_take (i := 22) (oi := ⟨some 82, _, _, _, _, _⟩) (v := ?_) rfl (by kernel_rfl) (by kernel_rfl) (by kernel_rfl) (fun _ _ _ h => h) (Or.inl ⟨by rfl, ?_⟩) (by assumption) ?_
      rotate_left
      · intro w hSw; (try dsimp only at hSw); go_simp; try with_reducible rfl
      (try simp only [Act.put, List.setIfInBounds_toArray, List.set_cons_zero, List.set_cons_succ])
      refine wpAnyH_take (i := 23) (oi := ⟨some 83, _, _, _, _, _⟩) (v := ?_) rfl (by kernel_rfl) (by kernel_rfl) (by kernel_rfl) (fun _ _ _ h => h) (Or.inl ⟨by rfl, ?_⟩) (by assumption) ?_
      rotate_left
      · intro w hSw; (try dsimp only at hSw); go_simp; try with_reducible rfl
      (try simp only [Act.put, List.setIfInBounds_toArray, List.set_cons_zero, List.set_cons_succ])
      refine wpAnyH_take (i := 24) (oi := ⟨some 84, _, _, _, _, _⟩) (v := ?_) rfl (by kernel_rfl) (by kernel_rfl) (by kernel_rfl) (fun _ _ _ h => h) (Or.inl ⟨by rfl, ?_⟩) (by assumption) ?_
      rotate_left
      · intro w hSw; (try dsimp only at hSw); go_simp; try with_reducible rfl
      (try simp only [Act.put, List.setIfInBounds_toArray, List.set_cons_zero, List.set_cons_succ])
      refine wpAnyH_take (i := 25) (oi := ⟨some 85, _, _, _, _, _⟩) (v := ?_) rfl (by kernel_rfl) (by kernel_rfl) (by kernel_rfl) (fun _ _ _ h => h) (Or.inl ⟨by rfl, ?_⟩) (by assumption) ?_
      rotate_left
      · intro w hSw; (try dsimp only at hSw); go_simp; try with_reducible rfl
      (try simp only [Act.put, List.setIfInBounds_toArray, List.set_cons_zero, List.set_cons_succ])
      refine wpAnyH_ready (rs := [26]) (by kernel_rfl) (by simp) ?_
      refine AllReadyH.cons rfl (fun K hK => ?_) AllReadyH.nil
      go_simp
      refine hK.out _ _ ?_ (fun hHeld => ?_)
      · exact ⟨hB.old_cell Y1.out (by simp), hB.old_cell Y2.out (by simp), hB.old_cell Y3.out (by simp), ldS (P := Try.prog) [_, _] hB rfl⟩
      clear hK K
      (try simp only [Act.put, List.setIfInBounds_toArray, List.set_cons_zero, List.set_cons_succ])
      refine wpAnyH_ready (rs := [27]) (by kernel_rfl) (by simp) ?_
      refine AllReadyH.cons rfl (fun K hK => ?_) AllReadyH.nil
      rw [if_pos (by rfl)]; apply ow_append [_] hB; rfl; exact rfl; exact rfl; infer_instance; infer_instance; infer_instance; exact Rd.blk0 (n := 1) hB rfl (by decide); rfl; (unfold maxLen; omega); intro v10 w10 hst10 _; obtain ⟨ao6, c6, rfl⟩ := St.rowSliceAt [_] hst10
      refine hK.out _ _ ?_ (fun hHeld => ?_)
      · exact ⟨hst10.old_cell Y1.out (by simp), hst10.old_cell Y2.out (by simp), hst10.old_cell Y3.out (by simp), ldS (P := Try.prog) [_, _] hst10 rfl⟩
      clear hK K
      (try simp only [Act.put, List.setIfInBounds_toArray, List.set_cons_zero, List.set_cons_succ])
      refine wpAnyH_take (i := 28) (oi := ⟨some 88, _, _, _, _, _⟩) (v := ?_) rfl (by kernel_rfl) (by kernel_rfl) (by kernel_rfl) (fun _ _ _ h => h) (Or.inl ⟨by rfl, ?_⟩) (by assumption) ?_
      rotate_left
      · intro w hSw; (try dsimp only at hSw); go_simp; try with_reducible rfl
      (try simp only [Act.put, List.setIfInBounds_toArray, List.set_cons_zero, List.set_cons_succ])
      refine wpAnyH_done (by kernel_rfl) ?_ _
      refine QL_intro ?_
      refine wl_store [_, _] hst10 rfl rfl rfl (v := .slice _ _ _) rfl rfl rfl (by decide : 0 + 1 ≤ 35) ?_
      intro w11 hst11
      all_goals
        have he : addrsV (rAddrs bs k) ++ [.int .i64 y1.toNat, .int .i64 (256 * (y2.toNat : Int) + y3.toNat)] = addrsV (rAddrs bs (k + 1)) := by
          obtain ⟨g1, g2, g3⟩ := HY.out
          rw [rAddrs, if_pos (by rw [← Hm.out]; exact h1), addrsV_append, rA_at (by rw [Hn.out]; omega), g1, g2, g3]
          rfl
        have hl2 : Hid ((rAddrs bs (k + 1)).length = k + 1) := hid (by rw [rAddrs, if_pos (by rw [← Hm.out]; exact h1), List.length_append, hl.out]; rfl)
        have hp : putAt (ptrCells v3 (rBirth bs) (rLevel bs) nones) 0 [.slice ao6 (k + 1) c6] = ptrCells (.slice ao6 (k + 1) c6) (rBirth bs) (rLevel bs) nones := rfl
        clear hHeld hst10
        rw [he] at hst11
        have hst11 : St w [] w11 [.blk _ 42 _, .row (.slice ao6 (k + 1) c6) 42 2 (k + 1) (addrsV (rAddrs bs (k + 1))), .blk gp 29 (ptrCells (.slice ao6 (k + 1) c6) (rBirth bs) (rLevel bs) nones), .blk gf 32 [.int .i64 0, .int .i64 0], .blk g0 29 (ptrCells (.slice none 0 0) 0 0 nones)] := hst11
        have hst12 : St w [] w11 [.row (.slice ao6 (k + 1) c6) 42 2 (k + 1) (addrsV (rAddrs bs (k + 1))), .blk gp 29 (ptrCells (.slice ao6 (k + 1) c6) (rBirth bs) (rLevel bs) nones), .blk gf 32 [.int .i64 0, .int .i64 0], .blk g0 29 (ptrCells (.slice none 0 0) 0 0 nones)] :=
          St.sub (L := [_, _, _, _, _]) hst11 (.cons _ (List.Sublist.refl _))
        clear hst11 he hp HY z0 z1 z2 z3 z4 z5 n1 n2 n3 r1 r2 r3
        go_wp2_with (first | go_big_skip | go_big_guard | fail)
        go_roundw
        case rel => exact ⟨k + 1, by omega, by omega, by go_num, _, hl2, hst12⟩
        case measure => simp [intOf]; omega
    · have eR : rAddrs bs 3 = rAddrs bs k := rAddrs_stop (by rw [← Hm.out]; omega) (by omega)
      have eRl : (rAddrs bs 3).length = k := by rw [eR]; exact hl.out
      rw [← eR] at hst
      have HR := hid eRl
      clear eRl eR hl
      by_cases hlt : k < many
      · have hk3 : k = 3 := by omega
        have d1 : decide ((k : Int) < many) = true := by simp; omega
        have d2 : decide ((k : Int) < 3) = false := by simp; omega
        clear hgo hk3
        go_wp2_with (first | go_big_skip | go_big_guard | fail)
        go_loopw [6] (fun i wr => ∃ j : Nat, j ≤ 32 ∧ i = .int .i64 j ∧ St w [] wr [.row v3 42 2 k (addrsV (rAddrs bs 3)), .blk gp 29 (ptrCells v3 (rBirth bs) (rLevel bs) (sumTo bs j)), .blk gf 32 [.int .i64 0, .int .i64 0], .blk g0 29 (ptrCells (.slice none 0 0) 0 0 nones)]) (fun i _ => 32 - (intOf i).toNat)
        case atStart => exact ⟨0, by omega, rfl, hst⟩
        case round =>
          clear hst d0
          obtain ⟨j, hj, rfl, hst⟩ := hrel
          by_cases hj2 : j < 32
          · have hc := byte_cell hr0 (k := 15 + j) (by rw [Hn.out]; omega)
            obtain ⟨y, hy⟩ : ∃ y, y = bs.getD (15 + j) 0 := ⟨_, rfl⟩
            rw [← hy] at hc
            have HC := hid hc
            have HY := hid hy
            clear hc hy
            go_wp2_with (first | go_big_skip | go_big_guard | (refine wl_loadE rfl rfl rfl ?_; refine ⟨_, Loads.old hst HC.out, ?_⟩) | (refine wl_store [_] hst rfl rfl rfl (v := .int _ _) rfl rfl rfl (by simp [Value.cells, ptrCells, len_sumTo Hn.out hj]; omega) ?_; intro w20 hst20; clear hst))
            have hput := sumTo_put Hn.out hj2 v3 (rBirth bs) (rLevel bs)
            rw [← HY.out] at hput
            have hst21 : St w [] w20 [.row v3 42 2 k (addrsV (rAddrs bs 3)), .blk gp 29 (ptrCells v3 (rBirth bs) (rLevel bs) (sumTo bs (j + 1))), .blk gf 32 [.int .i64 0, .int .i64 0], .blk g0 29 (ptrCells (.slice none 0 0) 0 0 nones)] := by
              rw [← hput]; exact hst20
            clear hst20 hput
            go_roundw
            case rel => exact ⟨j + 1, by omega, by go_num, hst21⟩
            case measure => simp [intOf]; omega
          · have ej : j = 32 := by omega
            subst ej
            clear hj hj2
            have hS : L32 (rSum bs) := rSum_len Hn.out
            rw [sumTo_all Hn.out] at hst
            obtain ⟨ao3, c3, rfl⟩ := St.rowSliceAt [] hst
            by_cases hc : checkB (rAddrs bs 3) (rBirth bs) (rLevel bs) (rSum bs) = true
            · by_cases hq : (bytesP (rAddrs bs 3) (rBirth bs) (rLevel bs) (rSum bs) == bs) = true
              · have hq' := hq
                go_wp2_with (first | go_big_skip | go_big_guard | (refine wl_loadE rfl rfl rfl ?_; first | refine ⟨_, Loads.at [_] hst rfl, ?_⟩ | refine ⟨_, Loads.atA (ptrCells _ _ _ _) [_] hst (ptr_len hS _ _ _) (ptr_all _ _ _ _), ?_⟩ | refine ⟨_, Loads.at [_, _] hst rfl, ?_⟩ | refine ⟨_, Loads.at [_, _, _] hst rfl, ?_⟩ | refine ⟨_, Loads.at [_, _] hst100 rfl, ?_⟩ | refine ⟨_, Loads.atA (ptrCells _ _ _ _) [_, _] hst100 (ptr_len hS _ _ _) (ptr_all _ _ _ _), ?_⟩ | refine ⟨_, Loads.at [_, _, _] hst100 rfl, ?_⟩ | refine ⟨_, Loads.at [_, _, _, _] hst100 rfl, ?_⟩ | refine ⟨_, Loads.at [_, _] hst101 rfl, ?_⟩ | refine ⟨_, Loads.atA (ptrCells _ _ _ _) [_, _] hst101 (ptr_len hS _ _ _) (ptr_all _ _ _ _), ?_⟩ | refine ⟨_, Loads.at [_, _, _] hst101 rfl, ?_⟩ | refine ⟨_, Loads.at [_, _, _, _] hst101 rfl, ?_⟩ | refine ⟨_, Loads.atA (ptrCells _ _ _ _) [_, _, _, _] hst101 (ptr_len hS _ _ _) (ptr_all _ _ _ _), ?_⟩ | refine ⟨_, Loads.at [_, _] hst102 rfl, ?_⟩ | refine ⟨_, Loads.atA (ptrCells _ _ _ _) [_, _] hst102 (ptr_len hS _ _ _) (ptr_all _ _ _ _), ?_⟩ | refine ⟨_, Loads.at [_, _, _] hst102 rfl, ?_⟩ | refine ⟨_, Loads.at [_, _, _, _] hst102 rfl, ?_⟩ | refine ⟨_, Loads.atA (ptrCells _ _ _ _) [_, _, _, _] hst102 (ptr_len hS _ _ _) (ptr_all _ _ _ _), ?_⟩) | (go_at_call 25; refine (refBytes_ok ao3 k c3 (rAddrs bs 3) _ _ _ _ hS (Rd.row hst (.head _)) HR.out hc).mono ?_; rintro _ _ ⟨u, rfl, h4⟩; have hst100 := St.call hst h4; clear h4 hst) | (refine wl_bytes_string rfl rfl rfl (Rd.row hst100 (.head _)) ?_) | (refine wl_bytes_string rfl rfl rfl (Rd.old hst100 hA) ?_) | (refine wl_storeA [_, _, _, _] hst100 rfl rfl rfl rfl (ptr_len hS _ _ _) (ptr_ones _ _ _ _ _ _) (rfl) ?_; intro _ hst101; clear hst100) | (refine wl_storeA [_, _, _] hst101 rfl rfl rfl rfl (rfl) (rfl) (rfl) ?_; intro _ hst102; clear hst101))
                have hl1 := Loads.atA (P := Try.prog) (off := 0) (T := 29) (ptrCells (.slice ao3 k c3) (rBirth bs) (rLevel bs) (rSum bs)) [_, _, _, _] hst102 (ptr_len hS _ _ _) (ptr_all _ _ _ _)
                have hl2 := Loads.atA (P := Try.prog) (off := 0) (T := 32) [.int .i64 0, .int .i64 0] [_, _, _] hst102 rfl rfl
                refine bodyPost_ret (results_cell2L rfl rfl rfl hl1 hl2) rfl ?_
                unfold readOut
                rw [if_pos (by simp [rOK, hc, hq, Hn.out])]
                exact ⟨ao3, k, c3, rfl, hst102.sub (L' := [.row (.slice ao3 k c3) 42 2 k (addrsV (rAddrs bs 3))]) (.cons _ (List.Sublist.cons_cons _ (List.nil_sublist _))), HR.out⟩
              · replace hq : (bytesP (rAddrs bs 3) (rBirth bs) (rLevel bs) (rSum bs) == bs) = false := Bool.eq_false_iff.2 hq
                go_wp2_with (first | go_big_skip | go_big_guard | (refine wl_loadE rfl rfl rfl ?_; first | refine ⟨_, Loads.at [_] hst rfl, ?_⟩ | refine ⟨_, Loads.atA (ptrCells _ _ _ _) [_] hst (ptr_len hS _ _ _) (ptr_all _ _ _ _), ?_⟩ | refine ⟨_, Loads.at [_, _] hst rfl, ?_⟩ | refine ⟨_, Loads.at [_, _, _] hst rfl, ?_⟩ | refine ⟨_, Loads.at [_, _] hst103 rfl, ?_⟩ | refine ⟨_, Loads.atA (ptrCells _ _ _ _) [_, _] hst103 (ptr_len hS _ _ _) (ptr_all _ _ _ _), ?_⟩ | refine ⟨_, Loads.at [_, _, _] hst103 rfl, ?_⟩ | refine ⟨_, Loads.at [_, _, _, _] hst103 rfl, ?_⟩ | refine ⟨_, Loads.at [_, _] hst104 rfl, ?_⟩ | refine ⟨_, Loads.atA (ptrCells _ _ _ _) [_, _] hst104 (ptr_len hS _ _ _) (ptr_all _ _ _ _), ?_⟩ | refine ⟨_, Loads.at [_, _, _] hst104 rfl, ?_⟩ | refine ⟨_, Loads.at [_, _, _, _] hst104 rfl, ?_⟩ | refine ⟨_, Loads.at [_, _] hst105 rfl, ?_⟩ | refine ⟨_, Loads.atA (ptrCells _ _ _ _) [_, _] hst105 (ptr_len hS _ _ _) (ptr_all _ _ _ _), ?_⟩ | refine ⟨_, Loads.at [_, _, _] hst105 rfl, ?_⟩ | refine ⟨_, Loads.at [_, _, _, _] hst105 rfl, ?_⟩) | (go_at_call 25; refine (refBytes_ok ao3 k c3 (rAddrs bs 3) _ _ _ _ hS (Rd.row hst (.head _)) HR.out hc).mono ?_; rintro _ _ ⟨u, rfl, h4⟩; have hst103 := St.call hst h4; clear h4 hst) | (refine wl_bytes_string rfl rfl rfl (Rd.row hst103 (.head _)) ?_) | (refine wl_bytes_string rfl rfl rfl (Rd.old hst103 hA) ?_) | (refine wl_build0 rfl rfl ?_) | (refine wl_storeA [_, _, _, _] hst103 rfl rfl rfl rfl (rfl) (rfl) (rfl) ?_; intro _ hst104; clear hst103) | (refine wl_storeA [_, _, _] hst104 rfl rfl rfl rfl (rfl) (rfl) (rfl) ?_; intro _ hst105; clear hst104))
                have hl1 := Loads.atA (P := Try.prog) (off := 0) (T := 29) (ptrCells (.slice none 0 0) 0 0 nones) [_, _, _, _] hst105 rfl rfl
                have hl2 := Loads.atA (P := Try.prog) (off := 0) (T := 32) [.int .i64 2, .int .i64 0] [_, _, _] hst105 rfl rfl
                refine bodyPost_ret (results_cell2L rfl rfl rfl hl1 hl2) rfl ?_
                unfold readOut
                rw [if_neg (by simp [rOK, hq])]
                exact ⟨by rw [rErr, rAt, if_pos Hn.out, if_pos Hn.out], hst105.nil⟩
            · replace hc : checkB (rAddrs bs 3) (rBirth bs) (rLevel bs) (rSum bs) = false := Bool.eq_false_iff.2 hc
              go_wp2_with (first | go_big_skip | go_big_guard | (refine wl_loadE rfl rfl rfl ?_; first | refine ⟨_, Loads.at [_] hst rfl, ?_⟩ | refine ⟨_, Loads.atA (ptrCells _ _ _ _) [_] hst (ptr_len hS _ _ _) (ptr_all _ _ _ _), ?_⟩ | refine ⟨_, Loads.at [_, _] hst rfl, ?_⟩ | refine ⟨_, Loads.at [_, _, _] hst rfl, ?_⟩ | refine ⟨_, Loads.at [_] hst106 rfl, ?_⟩ | refine ⟨_, Loads.atA (ptrCells _ _ _ _) [_] hst106 (ptr_len hS _ _ _) (ptr_all _ _ _ _), ?_⟩ | refine ⟨_, Loads.at [_, _] hst106 rfl, ?_⟩ | refine ⟨_, Loads.at [_, _, _] hst106 rfl, ?_⟩ | refine ⟨_, Loads.at [_] hst107 rfl, ?_⟩ | refine ⟨_, Loads.atA (ptrCells _ _ _ _) [_] hst107 (ptr_len hS _ _ _) (ptr_all _ _ _ _), ?_⟩ | refine ⟨_, Loads.at [_, _] hst107 rfl, ?_⟩ | refine ⟨_, Loads.at [_, _, _] hst107 rfl, ?_⟩ | refine ⟨_, Loads.at [_] hst108 rfl, ?_⟩ | refine ⟨_, Loads.atA (ptrCells _ _ _ _) [_] hst108 (ptr_len hS _ _ _) (ptr_all _ _ _ _), ?_⟩ | refine ⟨_, Loads.at [_, _] hst108 rfl, ?_⟩ | refine ⟨_, Loads.at [_, _, _] hst108 rfl, ?_⟩) | (go_at_call 25; refine (refBytes_no ao3 k c3 (rAddrs bs 3) _ _ _ _ hS (Rd.row hst (.head _)) HR.out hc).mono ?_; rintro _ _ ⟨rfl, h4⟩; have hst106 := St.call0 hst h4; clear h4 hst) | (refine wl_build0 rfl rfl ?_) | (refine wl_storeA [_, _, _] hst106 rfl rfl rfl rfl (rfl) (rfl) (rfl) ?_; intro _ hst107; clear hst106) | (refine wl_storeA [_, _] hst107 rfl rfl rfl rfl (rfl) (rfl) (rfl) ?_; intro _ hst108; clear hst107))
              have hl1 := Loads.atA (P := Try.prog) (off := 0) (T := 29) (ptrCells (.slice none 0 0) 0 0 nones) [_, _, _] hst108 rfl rfl
              have hl2 := Loads.atA (P := Try.prog) (off := 0) (T := 32) [.int .i64 2, .int .i64 0] [_, _] hst108 rfl rfl
              refine bodyPost_ret (results_cell2L rfl rfl rfl hl1 hl2) rfl ?_
              unfold readOut
              rw [if_neg (by simp [rOK, hc])]
              exact ⟨by rw [rErr, rAt, if_pos Hn.out, if_pos Hn.out], hst108.nil⟩
      · have d2 : decide ((k : Int) < many) = false := by simp; omega
        clear hgo
        go_wp2_with (first | go_big_skip | go_big_guard | fail)
        go_loopw [6] (fun i wr => ∃ j : Nat, j ≤ 32 ∧ i = .int .i64 j ∧ St w [] wr [.row v3 42 2 k (addrsV (rAddrs bs 3)), .blk gp 29 (ptrCells v3 (rBirth bs) (rLevel bs) (sumTo bs j)), .blk gf 32 [.int .i64 0, .int .i64 0], .blk g0 29 (ptrCells (.slice none 0 0) 0 0 nones)]) (fun i _ => 32 - (intOf i).toNat)
        case atStart => exact ⟨0, by omega, rfl, hst⟩
        case round =>
          clear hst d0
          obtain ⟨j, hj, rfl, hst⟩ := hrel
          by_cases hj2 : j < 32
          · have hc := byte_cell hr0 (k := 15 + j) (by rw [Hn.out]; omega)
            obtain ⟨y, hy⟩ : ∃ y, y = bs.getD (15 + j) 0 := ⟨_, rfl⟩
            rw [← hy] at hc
            have HC := hid hc
            have HY := hid hy
            clear hc hy
            go_wp2_with (first | go_big_skip | go_big_guard | (refine wl_loadE rfl rfl rfl ?_; refine ⟨_, Loads.old hst HC.out, ?_⟩) | (refine wl_store [_] hst rfl rfl rfl (v := .int _ _) rfl rfl rfl (by simp [Value.cells, ptrCells, len_sumTo Hn.out hj]; omega) ?_; intro w20 hst20; clear hst))
            have hput := sumTo_put Hn.out hj2 v3 (rBirth bs) (rLevel bs)
            rw [← HY.out] at hput
            have hst21 : St w [] w20 [.row v3 42 2 k (addrsV (rAddrs bs 3)), .blk gp 29 (ptrCells v3 (rBirth bs) (rLevel bs) (sumTo bs (j + 1))), .blk gf 32 [.int .i64 0, .int .i64 0], .blk g0 29 (ptrCells (.slice none 0 0) 0 0 nones)] := by
              rw [← hput]; exact hst20
            clear hst20 hput
            go_roundw
            case rel => exact ⟨j + 1, by omega, by go_num, hst21⟩
            case measure => simp [intOf]; omega
          · have ej : j = 32 := by omega
            subst ej
            clear hj hj2
            have hS : L32 (rSum bs) := rSum_len Hn.out
            rw [sumTo_all Hn.out] at hst
            obtain ⟨ao3, c3, rfl⟩ := St.rowSliceAt [] hst
            by_cases hc : checkB (rAddrs bs 3) (rBirth bs) (rLevel bs) (rSum bs) = true
            · by_cases hq : (bytesP (rAddrs bs 3) (rBirth bs) (rLevel bs) (rSum bs) == bs) = true
              · have hq' := hq
                go_wp2_with (first | go_big_skip | go_big_guard | (refine wl_loadE rfl rfl rfl ?_; first | refine ⟨_, Loads.at [_] hst rfl, ?_⟩ | refine ⟨_, Loads.atA (ptrCells _ _ _ _) [_] hst (ptr_len hS _ _ _) (ptr_all _ _ _ _), ?_⟩ | refine ⟨_, Loads.at [_, _] hst rfl, ?_⟩ | refine ⟨_, Loads.at [_, _, _] hst rfl, ?_⟩ | refine ⟨_, Loads.at [_, _] hst109 rfl, ?_⟩ | refine ⟨_, Loads.atA (ptrCells _ _ _ _) [_, _] hst109 (ptr_len hS _ _ _) (ptr_all _ _ _ _), ?_⟩ | refine ⟨_, Loads.at [_, _, _] hst109 rfl, ?_⟩ | refine ⟨_, Loads.at [_, _, _, _] hst109 rfl, ?_⟩ | refine ⟨_, Loads.at [_, _] hst110 rfl, ?_⟩ | refine ⟨_, Loads.atA (ptrCells _ _ _ _) [_, _] hst110 (ptr_len hS _ _ _) (ptr_all _ _ _ _), ?_⟩ | refine ⟨_, Loads.at [_, _, _] hst110 rfl, ?_⟩ | refine ⟨_, Loads.at [_, _, _, _] hst110 rfl, ?_⟩ | refine ⟨_, Loads.atA (ptrCells _ _ _ _) [_, _, _, _] hst110 (ptr_len hS _ _ _) (ptr_all _ _ _ _), ?_⟩ | refine ⟨_, Loads.at [_, _] hst111 rfl, ?_⟩ | refine ⟨_, Loads.atA (ptrCells _ _ _ _) [_, _] hst111 (ptr_len hS _ _ _) (ptr_all _ _ _ _), ?_⟩ | refine ⟨_, Loads.at [_, _, _] hst111 rfl, ?_⟩ | refine ⟨_, Loads.at [_, _, _, _] hst111 rfl, ?_⟩ | refine ⟨_, Loads.atA (ptrCells _ _ _ _) [_, _, _, _] hst111 (ptr_len hS _ _ _) (ptr_all _ _ _ _), ?_⟩) | (go_at_call 25; refine (refBytes_ok ao3 k c3 (rAddrs bs 3) _ _ _ _ hS (Rd.row hst (.head _)) HR.out hc).mono ?_; rintro _ _ ⟨u, rfl, h4⟩; have hst109 := St.call hst h4; clear h4 hst) | (refine wl_bytes_string rfl rfl rfl (Rd.row hst109 (.head _)) ?_) | (refine wl_bytes_string rfl rfl rfl (Rd.old hst109 hA) ?_) | (refine wl_storeA [_, _, _, _] hst109 rfl rfl rfl rfl (ptr_len hS _ _ _) (ptr_ones _ _ _ _ _ _) (rfl) ?_; intro _ hst110; clear hst109) | (refine wl_storeA [_, _, _] hst110 rfl rfl rfl rfl (rfl) (rfl) (rfl) ?_; intro _ hst111; clear hst110))
                have hl1 := Loads.atA (P := Try.prog) (off := 0) (T := 29) (ptrCells (.slice ao3 k c3) (rBirth bs) (rLevel bs) (rSum bs)) [_, _, _, _] hst111 (ptr_len hS _ _ _) (ptr_all _ _ _ _)
                have hl2 := Loads.atA (P := Try.prog) (off := 0) (T := 32) [.int .i64 0, .int .i64 0] [_, _, _] hst111 rfl rfl
                refine bodyPost_ret (results_cell2L rfl rfl rfl hl1 hl2) rfl ?_
                unfold readOut
                rw [if_pos (by simp [rOK, hc, hq, Hn.out])]
                exact ⟨ao3, k, c3, rfl, hst111.sub (L' := [.row (.slice ao3 k c3) 42 2 k (addrsV (rAddrs bs 3))]) (.cons _ (List.Sublist.cons_cons _ (List.nil_sublist _))), HR.out⟩
              · replace hq : (bytesP (rAddrs bs 3) (rBirth bs) (rLevel bs) (rSum bs) == bs) = false := Bool.eq_false_iff.2 hq
                go_wp2_with (first | go_big_skip | go_big_guard | (refine wl_loadE rfl rfl rfl ?_; first | refine ⟨_, Loads.at [_] hst rfl, ?_⟩ | refine ⟨_, Loads.atA (ptrCells _ _ _ _) [_] hst (ptr_len hS _ _ _) (ptr_all _ _ _ _), ?_⟩ | refine ⟨_, Loads.at [_, _] hst rfl, ?_⟩ | refine ⟨_, Loads.at [_, _, _] hst rfl, ?_⟩ | refine ⟨_, Loads.at [_, _] hst112 rfl, ?_⟩ | refine ⟨_, Loads.atA (ptrCells _ _ _ _) [_, _] hst112 (ptr_len hS _ _ _) (ptr_all _ _ _ _), ?_⟩ | refine ⟨_, Loads.at [_, _, _] hst112 rfl, ?_⟩ | refine ⟨_, Loads.at [_, _, _, _] hst112 rfl, ?_⟩ | refine ⟨_, Loads.at [_, _] hst113 rfl, ?_⟩ | refine ⟨_, Loads.atA (ptrCells _ _ _ _) [_, _] hst113 (ptr_len hS _ _ _) (ptr_all _ _ _ _), ?_⟩ | refine ⟨_, Loads.at [_, _, _] hst113 rfl, ?_⟩ | refine ⟨_, Loads.at [_, _, _, _] hst113 rfl, ?_⟩ | refine ⟨_, Loads.at [_, _] hst114 rfl, ?_⟩ | refine ⟨_, Loads.atA (ptrCells _ _ _ _) [_, _] hst114 (ptr_len hS _ _ _) (ptr_all _ _ _ _), ?_⟩ | refine ⟨_, Loads.at [_, _, _] hst114 rfl, ?_⟩ | refine ⟨_, Loads.at [_, _, _, _] hst114 rfl, ?_⟩) | (go_at_call 25; refine (refBytes_ok ao3 k c3 (rAddrs bs 3) _ _ _ _ hS (Rd.row hst (.head _)) HR.out hc).mono ?_; rintro _ _ ⟨u, rfl, h4⟩; have hst112 := St.call hst h4; clear h4 hst) | (refine wl_bytes_string rfl rfl rfl (Rd.row hst112 (.head _)) ?_) | (refine wl_bytes_string rfl rfl rfl (Rd.old hst112 hA) ?_) | (refine wl_build0 rfl rfl ?_) | (refine wl_storeA [_, _, _, _] hst112 rfl rfl rfl rfl (rfl) (rfl) (rfl) ?_; intro _ hst113; clear hst112) | (refine wl_storeA [_, _, _] hst113 rfl rfl rfl rfl (rfl) (rfl) (rfl) ?_; intro _ hst114; clear hst113))
                have hl1 := Loads.atA (P := Try.prog) (off := 0) (T := 29) (ptrCells (.slice none 0 0) 0 0 nones) [_, _, _, _] hst114 rfl rfl
                have hl2 := Loads.atA (P := Try.prog) (off := 0) (T := 32) [.int .i64 2, .int .i64 0] [_, _, _] hst114 rfl rfl
                refine bodyPost_ret (results_cell2L rfl rfl rfl hl1 hl2) rfl ?_
                unfold readOut
                rw [if_neg (by simp [rOK, hq])]
                exact ⟨by rw [rErr, rAt, if_pos Hn.out, if_pos Hn.out], hst114.nil⟩
            · replace hc : checkB (rAddrs bs 3) (rBirth bs) (rLevel bs) (rSum bs) = false := Bool.eq_false_iff.2 hc
              go_wp2_with (first | go_big_skip | go_big_guard | (refine wl_loadE rfl rfl rfl ?_; first | refine ⟨_, Loads.at [_] hst rfl, ?_⟩ | refine ⟨_, Loads.atA (ptrCells _ _ _ _) [_] hst (ptr_len hS _ _ _) (ptr_all _ _ _ _), ?_⟩ | refine ⟨_, Loads.at [_, _] hst rfl, ?_⟩ | refine ⟨_, Loads.at [_, _, _] hst rfl, ?_⟩ | refine ⟨_, Loads.at [_] hst115 rfl, ?_⟩ | refine ⟨_, Loads.atA (ptrCells _ _ _ _) [_] hst115 (ptr_len hS _ _ _) (ptr_all _ _ _ _), ?_⟩ | refine ⟨_, Loads.at [_, _] hst115 rfl, ?_⟩ | refine ⟨_, Loads.at [_, _, _] hst115 rfl, ?_⟩ | refine ⟨_, Loads.at [_] hst116 rfl, ?_⟩ | refine ⟨_, Loads.atA (ptrCells _ _ _ _) [_] hst116 (ptr_len hS _ _ _) (ptr_all _ _ _ _), ?_⟩ | refine ⟨_, Loads.at [_, _] hst116 rfl, ?_⟩ | refine ⟨_, Loads.at [_, _, _] hst116 rfl, ?_⟩ | refine ⟨_, Loads.at [_] hst117 rfl, ?_⟩ | refine ⟨_, Loads.atA (ptrCells _ _ _ _) [_] hst117 (ptr_len hS _ _ _) (ptr_all _ _ _ _), ?_⟩ | refine ⟨_, Loads.at [_, _] hst117 rfl, ?_⟩ | refine ⟨_, Loads.at [_, _, _] hst117 rfl, ?_⟩) | (go_at_call 25; refine (refBytes_no ao3 k c3 (rAddrs bs 3) _ _ _ _ hS (Rd.row hst (.head _)) HR.out hc).mono ?_; rintro _ _ ⟨rfl, h4⟩; have hst115 := St.call0 hst h4; clear h4 hst) | (refine wl_build0 rfl rfl ?_) | (refine wl_storeA [_, _, _] hst115 rfl rfl rfl rfl (rfl) (rfl) (rfl) ?_; intro _ hst116; clear hst115) | (refine wl_storeA [_, _] hst116 rfl rfl rfl rfl (rfl) (rfl) (rfl) ?_; intro _ hst117; clear hst116))
              have hl1 := Loads.atA (P := Try.prog) (off := 0) (T := 29) (ptrCells (.slice none 0 0) 0 0 nones) [_, _, _] hst117 rfl rfl
              have hl2 := Loads.atA (P := Try.prog) (off := 0) (T := 32) [.int .i64 2, .int .i64 0] [_, _] hst117 rfl rfl
              refine bodyPost_ret (results_cell2L rfl rfl rfl hl1 hl2) rfl ?_
              unfold readOut
              rw [if_neg (by simp [rOK, hc])]
              exact ⟨by rw [rErr, rAt, if_pos Hn.out, if_pos Hn.out], hst117.nil⟩
end Go.Proofs.Ythjafocnfpphlaa
