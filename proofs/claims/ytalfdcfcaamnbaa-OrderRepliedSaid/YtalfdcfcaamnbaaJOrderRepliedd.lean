/- PROVED: the law OrderReplied returns true at any input, and nothing that was there has turned. No condition. -/
import Derived.Test.YtalfdcfcaamnbaaJOrderRepliedc
import Derived.Test.YtalfdcfcaamnbaaJOrderRepliedb
import Derived.Test.YtalfdcfcaamnbaaSepX
import Derived.Test.YtalfdcfcaamnbaaPost
import Derived.Lib.SmallJoins
import Derived.Deep.SlicePairs
import Derived.Deep.Slices
namespace Go.Proofs.Ytalfdcfcaamnbaa
set_option linter.unusedVariables false
set_option linter.unusedSimpArgs false
open Go.RowKit Hp
theorem stepR_inv {α : Type} {s : RS} {r : RR α} {d : α} (hr : ∀ e a, r = .stop e a → e ≠ 0) (h : (stepR s r d).1.e = 0) : s.e = 0 ∧ ∃ v p', r = .ok v p' ∧ stepR s r d = (⟨p', s.e, s.fa⟩, v) := by
  unfold stepR at h ⊢
  by_cases hs : s.e ≠ 0
  · rw [if_pos hs] at h
    exact absurd h hs
  · rw [if_neg hs] at h ⊢
    match r, hr, h with
    | .stop e a, hr, h => exact absurd h (hr e a rfl)
    | .ok v p, hr, h => exact ⟨by omega, v, p, rfl, rfl⟩
theorem num_rev2 {B : List UInt8} {p p' k : Nat} {low high v : Int} (h : numRR B p (k : Int) low high = .ok v p') : numB v k = (B.drop p).take k ∧ p' = p + k ∧ p' ≤ B.length ∧ low ≤ v ∧ v ≤ high := by
  obtain ⟨_, h2, h3, h4, h5⟩ := num_rev h
  refine ⟨?_, h2, h3, h4, h5⟩
  obtain ⟨_, _, _, _, hv, _⟩ := numRR_val h
  rw [Int.toNat_natCast] at hv
  have hl : ((B.drop p).take k).length = k := by rw [List.length_take, List.length_drop]; omega
  have h9 := numB_beN ((B.drop p).take k)
  rw [hl] at h9
  rw [hv, h9]
theorem many_rev {B : List UInt8} {s : RS} : ∀ k, (manyS (wideF B) s k).1.e = 0 → s.e = 0 ∧ (manyS (wideF B) s k).1.pos = s.pos + 5 * k ∧ (s.pos ≤ B.length → s.pos + 5 * k ≤ B.length) ∧ ((manyS (wideF B) s k).2.flatMap fun t => numB t 5) = (B.drop s.pos).take (5 * k)
  | 0, h => ⟨h, rfl, fun h => h, by simp [manyS]⟩
  | k + 1, h => by
    obtain ⟨h1, v, p', hv, hs⟩ := stepR_inv (s := (manyS (wideF B) s k).1) (d := 0) numRR_stop h
    obtain ⟨i1, i2, i3, i4⟩ := many_rev k h1
    obtain ⟨n1, n2, n3, _⟩ := num_rev2 (k := 5) hv
    have hw : wideF B (manyS (wideF B) s k).1 = (⟨p', (manyS (wideF B) s k).1.e, (manyS (wideF B) s k).1.fa⟩, v) := hs
    have hm : manyS (wideF B) s (k + 1) = (⟨p', (manyS (wideF B) s k).1.e, (manyS (wideF B) s k).1.fa⟩, (manyS (wideF B) s k).2 ++ [v]) := by
      show ((wideF B (manyS (wideF B) s k).1).1, _ ++ [(wideF B (manyS (wideF B) s k).1).2]) = _
      rw [hw]
    rw [hm]
    rw [i2] at n1 n2
    refine ⟨i1, by show p' = _; omega, fun _ => by omega, ?_⟩
    show (((manyS (wideF B) s k).2 ++ [v]).flatMap fun t => numB t 5) = _
    rw [List.flatMap_append, i4, List.flatMap_cons, List.flatMap_nil, List.append_nil, n1, ← List.drop_drop, show 5 * (k + 1) = 5 * k + 5 by omega, List.take_add]
theorem getR_back {B : List UInt8} (h : (getR B).2.1 = 0) : putR (getR B).1 = (0, B) := by
  obtain ⟨s1, hs1⟩ : ∃ y, y = stepR (⟨0, 0, 0⟩ : RS) (numRR B 0 2 0 999) 0 := ⟨_, rfl⟩
  obtain ⟨s2, hs2⟩ : ∃ y, y = stepR s1.1 (numRR B s1.1.pos 2 0 2000) 0 := ⟨_, rfl⟩
  obtain ⟨s3, hs3⟩ : ∃ y, y = manyS (wideF B) s2.1 s2.2.toNat := ⟨_, rfl⟩
  obtain ⟨s4, hs4⟩ : ∃ y, y = stepR s3.1 (numRR B s3.1.pos 3 0 16384) 0 := ⟨_, rfl⟩
  obtain ⟨s5, hs5⟩ : ∃ y, y = stepR s4.1 (rawRR B s4.1.pos s4.2) [] := ⟨_, rfl⟩
  have hS : goAll ((⟨0, 0, 0⟩, RV.none) : RS × RV) (getRF B) = (s5.1, RV.mk s1.2 s3.2 s5.2) := by rw [hs5, hs4, hs3, hs2, hs1]; rfl
  unfold getR at h ⊢
  rw [hS] at h ⊢
  by_cases hE : (endR B s5.1).1 = 0
  · by_cases hf : (RV.mk s1.2 s3.2 s5.2).fine = true
    · simp only [hE, hf, if_true]
      rw [putR_fine hf]
      have hend : s5.1.e = 0 ∧ ¬ s5.1.pos < B.length := by
        unfold endR at hE
        split at hE
        · cases hE
        · rename_i hh
          exact ⟨hE, fun hc => hh ⟨hE, hc⟩⟩
      obtain ⟨e4, v5, p5, r5, q5⟩ := stepR_inv rawRR_stop (by rw [← hs5]; exact hend.1)
      obtain ⟨e3, v4, p4, r4, q4⟩ := stepR_inv numRR_stop (by rw [← hs4]; exact e4)
      obtain ⟨e2, m2, m3, m4⟩ := many_rev s2.2.toNat (by rw [← hs3]; exact e3)
      obtain ⟨e1, v2, p2, r2, q2⟩ := stepR_inv numRR_stop (by rw [← hs2]; exact e2)
      obtain ⟨e0, v1, p1, r1, q1⟩ := stepR_inv numRR_stop (by rw [← hs1]; exact e1)
      rw [← hs5] at q5
      rw [← hs4] at q4
      rw [← hs2] at q2
      rw [← hs1] at q1
      rw [← hs3] at m2 m4
      obtain ⟨a1, a2, a3, _⟩ := num_rev2 (k := 2) r1
      obtain ⟨b1, b2, b3, b4, _⟩ := num_rev2 (k := 2) r2
      obtain ⟨c1, c2, c3, c4, _⟩ := num_rev2 (k := 3) r4
      obtain ⟨d1, d2, d3, d4⟩ := raw_rev r5
      have x1 : s1.1.pos = p1 := by rw [q1]
      have y1 : s1.2 = v1 := by rw [q1]
      have x2 : s2.1.pos = p2 := by rw [q2]
      have y2 : s2.2 = v2 := by rw [q2]
      have x4 : s4.1.pos = p4 := by rw [q4]
      have y4 : s4.2 = v4 := by rw [q4]
      have x5 : s5.1.pos = p5 := by rw [q5]
      have y5 : s5.2 = v5 := by rw [q5]
      have hn : s3.2.length = s2.2.toNat := by rw [hs3]; exact manyS_len _ _ _
      have hp := hend.2
      have p1e : p1 = 2 := by omega
      have p2e : p2 = 4 := by omega
      have p3e : s3.1.pos = 4 + 5 * v2.toNat := by rw [m2, x2, p2e, y2]
      rw [x1, p1e] at b1
      rw [x2, p2e, y2] at m4
      rw [p3e] at c1 c2
      rw [x4, c2, y4] at d1 d2
      unfold RV.parts
      show (0, numB s1.2 2 ++ (numB (s3.2.length : Int) 2 ++ ((s3.2.flatMap fun t => numB t 5) ++ (numB (s5.2.length : Int) 3 ++ s5.2)))) = (0, B)
      rw [hn, y2, Int.toNat_of_nonneg b4, y1, a1, b1, m4, y5, d4, y4, c1, d1, List.drop_zero]
      have hlast : (B.drop (4 + 5 * v2.toNat + 3)).take v4.toNat = B.drop (4 + 5 * v2.toNat + 3) := List.take_of_length_le (by rw [List.length_drop]; omega)
      have cut : ∀ p k, (B.drop p).take k ++ B.drop (p + k) = B.drop p := fun p k => by rw [← List.drop_drop]; exact List.take_append_drop _ _
      have k3 : (B.drop 2).take 2 ++ B.drop 4 = B.drop 2 := cut 2 2
      rw [hlast, cut (4 + 5 * v2.toNat) 3, cut 4 (5 * v2.toNat), k3, List.take_append_drop]
    · simp [hE, hf] at h
  · simp [hE] at h
end Go.Proofs.Ytalfdcfcaamnbaa
namespace Go.Proofs.Ytalfdcfcaamnbaa
set_option linter.unusedVariables false
set_option linter.unusedSimpArgs false
open Go.RowKit Hp
attribute [local irreducible] Go.Calls Go.wpList
set_option maxRecDepth 100000
set_option maxHeartbeats 4000000
theorem pick_none (c : Int) (x y : RV) (z : Int) (h : ¬ ((if c = 0 then (x, c, z) else (y, c, z)) : RV × Int × Int).2.1 = 0) : ((if c = 0 then (x, c, z) else (y, c, z)) : RV × Int × Int).1 = y := by
  by_cases hc : c = 0
  · rw [if_pos hc] at h
    exact absurd hc h
  · rw [if_neg hc]
theorem getR_ways (B : List UInt8) : (∃ e p, getR B = (RV.none, e, p) ∧ e ≠ 0) ∨ (∃ q p, getR B = (q, 0, p) ∧ q.fine = true ∧ putR q = (0, B)) := by
  by_cases h : (getR B).2.1 = 0
  · have hb := getR_back h
    right
    have hf : (getR B).1.fine = true := by
      cases hf : (getR B).1.fine
      · unfold putR at hb
        rw [hf, if_neg Bool.false_ne_true] at hb
        have h9 : (2 : Int) = 0 := congrArg Prod.fst hb
        exact absurd h9 (by decide)
      · rfl
    exact ⟨(getR B).1, (getR B).2.2, by rw [← h], hf, hb⟩
  · left
    refine ⟨(getR B).2.1, (getR B).2.2, ?_, h⟩
    have hn : (getR B).1 = RV.none := pick_none _ _ _ _ h
    rw [← hn]
theorem RV.fine_ok {r : RV} (h : r.fine = true) : r.Ok := by
  obtain ⟨h1, h2, h3, h4, h5⟩ := RV.fine_is h
  exact ⟨by omega, by omega, fun t ht => by have := h5 t ht; omega, by omega⟩
theorem replied_far1 (r : RV) (an ab : Option Addr) (nn cn nb cb : Nat) (ao : Option Addr) (m c : Nat) (w : World) (d1 : decide ((2100 : Int) < (nn : Int)) = true) :
    Calls Try.prog 8 #[.agg (r.cells (.slice an nn cn) (.slice ab nb cb)).toArray, .slice ao m c] w fun e w' => e = .returned (.bool true) ∧ St w [] w' [] := by
  have hst0 := St.refl w
  show Calls Try.prog 8 #[.agg (List.toArray [.int .i64 r.err, .slice an nn cn, .slice ab nb cb]), .slice ao m c] w _
  go_enter Try.func8, Try.ntmps8
  go_wp2_with (first | go_big_skip | go_big_guard | (refine wl_boxA hst0 rfl rfl rfl ?_; intro g1 _ hst1; clear hst0) | (refine wl_loadE rfl rfl rfl ?_; first | refine ⟨_, Loads.at [] hst2 rfl, ?_⟩) | (go_at_call 10; refine (awake_any _).mono ?_; rintro _ w3 ⟨rfl, h4⟩; have hst2 := St.call0 hst1 h4; clear h4 hst1))
  go_ret
  exact ⟨rfl, hst2.nil⟩
theorem replied_far2 (r : RV) (an ab : Option Addr) (nn cn nb cb : Nat) (ao : Option Addr) (m c : Nat) (w : World) (d1 : decide ((2100 : Int) < (nn : Int)) = false) (d2 : decide ((17000 : Int) < (nb : Int)) = true) :
    Calls Try.prog 8 #[.agg (r.cells (.slice an nn cn) (.slice ab nb cb)).toArray, .slice ao m c] w fun e w' => e = .returned (.bool true) ∧ St w [] w' [] := by
  have hst0 := St.refl w
  show Calls Try.prog 8 #[.agg (List.toArray [.int .i64 r.err, .slice an nn cn, .slice ab nb cb]), .slice ao m c] w _
  go_enter Try.func8, Try.ntmps8
  go_wp2_with (first | go_big_skip | go_big_guard | (refine wl_boxA hst0 rfl rfl rfl ?_; intro g1 _ hst1; clear hst0) | (refine wl_loadE rfl rfl rfl ?_; first | refine ⟨_, Loads.at [] hst2 rfl, ?_⟩) | (go_at_call 10; refine (awake_any _).mono ?_; rintro _ w3 ⟨rfl, h4⟩; have hst2 := St.call0 hst1 h4; clear h4 hst1))
  go_ret
  exact ⟨rfl, hst2.nil⟩
theorem replied_far3 (r : RV) (an ab : Option Addr) (nn cn nb cb : Nat) (ao : Option Addr) (m c : Nat) (w : World) (d1 : decide ((2100 : Int) < (nn : Int)) = false) (d2 : decide ((17000 : Int) < (nb : Int)) = false) (d3 : decide ((20000 : Int) < (m : Int)) = true) :
    Calls Try.prog 8 #[.agg (r.cells (.slice an nn cn) (.slice ab nb cb)).toArray, .slice ao m c] w fun e w' => e = .returned (.bool true) ∧ St w [] w' [] := by
  have hst0 := St.refl w
  show Calls Try.prog 8 #[.agg (List.toArray [.int .i64 r.err, .slice an nn cn, .slice ab nb cb]), .slice ao m c] w _
  go_enter Try.func8, Try.ntmps8
  go_wp2_with (first | go_big_skip | go_big_guard | (refine wl_boxA hst0 rfl rfl rfl ?_; intro g1 _ hst1; clear hst0) | (refine wl_loadE rfl rfl rfl ?_; first | refine ⟨_, Loads.at [] hst2 rfl, ?_⟩) | (go_at_call 10; refine (awake_any _).mono ?_; rintro _ w3 ⟨rfl, h4⟩; have hst2 := St.call0 hst1 h4; clear h4 hst1))
  go_ret
  exact ⟨rfl, hst2.nil⟩
theorem replied_fx (r : RV) (an ab : Option Addr) (nn cn nb cb : Nat) (ao : Option Addr) (m c : Nat) (bs : List UInt8) (w : World) (hl : Rd w (.slice an nn cn) 1 nn (intsV r.n)) (hb : Rd w (.slice ab nb cb) 1 nb (bytesV r.b)) (hnn : r.n.length = nn) (hnb : r.b.length = nb) (hA : Rd w (.slice ao m c) 1 m (bytesV bs)) (hm : bs.length = m) (he : -9223372036854775808 ≤ r.err ∧ r.err ≤ 9223372036854775807) (ht : ∀ t ∈ r.n, -9223372036854775808 ≤ t ∧ t ≤ 9223372036854775807) (d1 : decide ((2100 : Int) < (nn : Int)) = false) (d2 : decide ((17000 : Int) < (nb : Int)) = false) (d3 : decide ((20000 : Int) < (m : Int)) = false) (h0 : r.fine = true) (e1 p1 : Int) (hR : getR bs = (RV.none, e1, p1)) (h1 : e1 ≠ 0) :
    Calls Try.prog 8 #[.agg (r.cells (.slice an nn cn) (.slice ab nb cb)).toArray, .slice ao m c] w fun e w' => e = .returned (.bool true) ∧ St w [] w' [] := by
  have hst0 := St.refl w
  have b1 : nn ≤ 2100 := by have := of_decide_eq_false d1; omega
  have b2 : nb ≤ 17000 := by have := of_decide_eq_false d2; omega
  have b3 : m ≤ 20000 := by have := of_decide_eq_false d3; omega
  have b4 : m ≤ 100000 := by omega
  have OK := hid (show r.Ok from ⟨he, by omega, ht, by omega⟩)
  have HL := hid hl
  have HB := hid hb
  have HNN := hid hnn
  have HNB := hid hnb
  have HA := hid hA
  have HM := hid hm
  have HR := hid hR
  have dF : (e1 != 0) = true := by simpa using h1
  have HP := hid (putR_fine h0)
  have HG := hid (getR_parts h0)
  have hlen : r.parts.length = 7 + 5 * nn + nb := by rw [length_parts, hnn, hnb]
  obtain ⟨X, hX⟩ : ∃ X, X = r.parts := ⟨_, rfl⟩
  rw [← hX] at HP HG hlen
  obtain ⟨L, hL⟩ : ∃ L, L = X.length := ⟨_, rfl⟩
  have HLn := hid hL.symm
  have hLe : L = 7 + 5 * nn + nb := by rw [hL]; exact hlen
  have z1 : IntKind.i64.wrap (5 * (nn : Int)) = 5 * (nn : Int) := IntWalk.i64_in _ (by omega)
  have z2 : IntKind.i64.wrap (7 + 5 * (nn : Int)) = 7 + 5 * (nn : Int) := IntWalk.i64_in _ (by omega)
  have z3 : IntKind.i64.wrap (7 + 5 * (nn : Int) + (nb : Int)) = 7 + 5 * (nn : Int) + (nb : Int) := IntWalk.i64_in _ (by omega)
  have dL : ((L : Int) != 7 + 5 * (nn : Int) + (nb : Int)) = false := by simp; omega
  have b5 : L ≤ 100000 := by omega
  clear hX hL hlen hLe
  clear hl hb hnn hnb hA hm he ht hR h0 h1
  show Calls Try.prog 8 #[.agg (List.toArray [.int .i64 r.err, .slice an nn cn, .slice ab nb cb]), .slice ao m c] w _
  go_enter Try.func8, Try.ntmps8
  go_wp2_with (first | go_big_skip | go_big_guard | (refine wl_boxA hst0 rfl rfl rfl ?_; intro g1 _ hst1; clear hst0) | (go_at_call 10; refine (awake_any _).mono ?_; rintro _ w3 ⟨rfl, h4⟩; have hst2 := St.call0 hst1 h4; clear h4 hst1) | (refine wl_loadE rfl rfl rfl ?_; first | refine ⟨_, Loads.at [] hst2 rfl, ?_⟩) | (refine wl_loadE rfl rfl rfl ?_; refine ⟨_, Loads.whole (T := 49) [] hst2 rfl, ?_⟩) | (go_at_call 27; refine (oputR_any r OK.out an ab nn cn nb cb _ (Rd.old hst2 HL.out) (Rd.old hst2 HB.out) HNN.out HNB.out).mono ?_; rw [HP.out]; rintro _ w4 ⟨u, rfl, h4⟩; have h5 : St _ [] w4 [.rowP isB u 5 1 L (bytesV X)] := (by rw [← HLn.out]; exact h4); have hst3 := St.call hst2 h5; clear h4 h5 hst2; obtain ⟨au, cu, rfl⟩ := St.rowPSliceF [] hst3) | (go_at_call 30; refine (ogetR_any au L cu X _ (Rd.rowP hst3 (.head _)) HLn.out b5).mono ?_; rw [HG.out]; rintro _ w5 ⟨lv, bv, rfl, h4⟩; have hst4 := St.call hst3 h4; clear h4 hst3; obtain ⟨al, cl, rfl⟩ := St.rowPSliceF [] hst4; obtain ⟨av, cv, rfl⟩ := St.rowPSliceF [_] hst4) | (refine wl_alloc (T := 49) hst4 rfl rfl ?_; intro c4 _ hst5; clear hst4) | (refine wl_alloc (T := 42) hst5 rfl rfl ?_; intro c5 _ hst6; clear hst5) | (refine wl_storeA (T := 49) (vs := r.cells (.slice al r.n.length cl) (.slice av r.b.length cv)) [_] hst6 rfl rfl rfl rfl rfl rfl rfl ?_; intro w7 hst7; clear hst6) | (refine wl_storeA (T := 42) (vs := [.int .i64 0, .int .i64 0]) [] hst7 rfl rfl rfl rfl rfl rfl rfl ?_; intro w8 hst8; clear hst7) | (refine wl_loadE rfl rfl rfl ?_; first | refine ⟨_, Loads.at [] hst8 rfl, ?_⟩ | refine ⟨_, Loads.at [_, _, _, _, _] hst9 rfl, ?_⟩) | (refine wl_loadE rfl rfl rfl ?_; first | refine ⟨_, Loads.whole (T := 49) [_] hst8 rfl, ?_⟩ | refine ⟨_, Loads.whole (T := 49) [_, _, _, _, _] hst8 rfl, ?_⟩) | (go_at_call 32; obtain rfl := HNN.out; obtain rfl := HNB.out; refine (sameReply_eq r an al ab av cn cl cb cv _ (Rd.old hst8 HL.out) (Rd.rowP hst8 (.tail _ (.tail _ (.head _)))) (Rd.old hst8 HB.out) (Rd.rowP hst8 (.tail _ (.tail _ (.tail _ (.head _)))))).mono ?_; rintro _ w9 ⟨rfl, h4⟩; have hst9 := St.call0 hst8 h4; clear h4 hst8) | (go_at_call 30; refine (ogetR_any ao m c bs _ (Rd.old hst9 HA.out) HM.out b4).mono ?_; rw [HR.out]; rintro _ w12 ⟨lv, bv, rfl, h4⟩; have hst12 := St.call hst9 h4; clear h4 hst9; obtain ⟨bl, dl, rfl⟩ := St.rowPSliceF [] hst12; obtain ⟨bb, db, rfl⟩ := St.rowPSliceF [_] hst12) | (refine wl_alloc (T := 49) hst12 rfl rfl ?_; intro c6 _ hst13; clear hst12) | (refine wl_alloc (T := 42) hst13 rfl rfl ?_; intro c7 _ hst14; clear hst13) | (refine wl_storeA (T := 49) (vs := [.int .i64 0, .slice bl 0 dl, .slice bb 0 db]) [_] hst14 rfl rfl rfl rfl rfl rfl rfl ?_; intro w15 hst15; clear hst14) | (refine wl_storeA (T := 42) [] hst15 rfl rfl rfl rfl rfl rfl rfl ?_; intro w16 hst16; clear hst15) | (refine wl_loadE rfl rfl rfl ?_; first | refine ⟨_, Loads.at [] hst16 rfl, ?_⟩) | (refine wl_loadE rfl rfl rfl ?_; refine ⟨_, Loads.whole (T := 49) [_] hst16 rfl, ?_⟩) | (refine wl_build0 rfl rfl ?_) | (go_at_call 32; refine (sameReply_eq RV.none bl none bb none dl 0 db 0 _ (Rd.rowP hst16 (.tail _ (.tail _ (.head _)))) (Rd.nil _ _) (Rd.rowP hst16 (.tail _ (.tail _ (.tail _ (.head _))))) (Rd.nil _ _)).mono ?_; rintro _ w17 ⟨rfl, h4⟩; have hst17 := St.call0 hst16 h4; clear h4 hst16))
  go_ret
  exact ⟨rfl, hst17.nil⟩
theorem replied_fo (r : RV) (an ab : Option Addr) (nn cn nb cb : Nat) (ao : Option Addr) (m c : Nat) (bs : List UInt8) (w : World) (hl : Rd w (.slice an nn cn) 1 nn (intsV r.n)) (hb : Rd w (.slice ab nb cb) 1 nb (bytesV r.b)) (hnn : r.n.length = nn) (hnb : r.b.length = nb) (hA : Rd w (.slice ao m c) 1 m (bytesV bs)) (hm : bs.length = m) (he : -9223372036854775808 ≤ r.err ∧ r.err ≤ 9223372036854775807) (ht : ∀ t ∈ r.n, -9223372036854775808 ≤ t ∧ t ≤ 9223372036854775807) (d1 : decide ((2100 : Int) < (nn : Int)) = false) (d2 : decide ((17000 : Int) < (nb : Int)) = false) (d3 : decide ((20000 : Int) < (m : Int)) = false) (h0 : r.fine = true) (q : RV) (p1 : Int) (hR : getR bs = (q, 0, p1)) (h1 : q.fine = true) (h2 : putR q = (0, bs)) :
    Calls Try.prog 8 #[.agg (r.cells (.slice an nn cn) (.slice ab nb cb)).toArray, .slice ao m c] w fun e w' => e = .returned (.bool true) ∧ St w [] w' [] := by
  have hst0 := St.refl w
  have b1 : nn ≤ 2100 := by have := of_decide_eq_false d1; omega
  have b2 : nb ≤ 17000 := by have := of_decide_eq_false d2; omega
  have b3 : m ≤ 20000 := by have := of_decide_eq_false d3; omega
  have b4 : m ≤ 100000 := by omega
  have OK := hid (show r.Ok from ⟨he, by omega, ht, by omega⟩)
  have HL := hid hl
  have HB := hid hb
  have HNN := hid hnn
  have HNB := hid hnb
  have HA := hid hA
  have HM := hid hm
  have HR := hid hR
  have HQ := hid h2
  have HQO := hid (RV.fine_ok h1)
  have HP := hid (putR_fine h0)
  have HG := hid (getR_parts h0)
  have hlen : r.parts.length = 7 + 5 * nn + nb := by rw [length_parts, hnn, hnb]
  obtain ⟨X, hX⟩ : ∃ X, X = r.parts := ⟨_, rfl⟩
  rw [← hX] at HP HG hlen
  obtain ⟨L, hL⟩ : ∃ L, L = X.length := ⟨_, rfl⟩
  have HLn := hid hL.symm
  have hLe : L = 7 + 5 * nn + nb := by rw [hL]; exact hlen
  have z1 : IntKind.i64.wrap (5 * (nn : Int)) = 5 * (nn : Int) := IntWalk.i64_in _ (by omega)
  have z2 : IntKind.i64.wrap (7 + 5 * (nn : Int)) = 7 + 5 * (nn : Int) := IntWalk.i64_in _ (by omega)
  have z3 : IntKind.i64.wrap (7 + 5 * (nn : Int) + (nb : Int)) = 7 + 5 * (nn : Int) + (nb : Int) := IntWalk.i64_in _ (by omega)
  have dL : ((L : Int) != 7 + 5 * (nn : Int) + (nb : Int)) = false := by simp; omega
  have b5 : L ≤ 100000 := by omega
  clear hX hL hlen hLe
  clear hl hb hnn hnb hA hm he ht hR h0 h1 h2
  show Calls Try.prog 8 #[.agg (List.toArray [.int .i64 r.err, .slice an nn cn, .slice ab nb cb]), .slice ao m c] w _
  go_enter Try.func8, Try.ntmps8
  go_wp2_with (first | go_big_skip | go_big_guard | (refine wl_boxA hst0 rfl rfl rfl ?_; intro g1 _ hst1; clear hst0) | (go_at_call 10; refine (awake_any _).mono ?_; rintro _ w3 ⟨rfl, h4⟩; have hst2 := St.call0 hst1 h4; clear h4 hst1) | (refine wl_loadE rfl rfl rfl ?_; first | refine ⟨_, Loads.at [] hst2 rfl, ?_⟩) | (refine wl_loadE rfl rfl rfl ?_; refine ⟨_, Loads.whole (T := 49) [] hst2 rfl, ?_⟩) | (go_at_call 27; refine (oputR_any r OK.out an ab nn cn nb cb _ (Rd.old hst2 HL.out) (Rd.old hst2 HB.out) HNN.out HNB.out).mono ?_; rw [HP.out]; rintro _ w4 ⟨u, rfl, h4⟩; have h5 : St _ [] w4 [.rowP isB u 5 1 L (bytesV X)] := (by rw [← HLn.out]; exact h4); have hst3 := St.call hst2 h5; clear h4 h5 hst2; obtain ⟨au, cu, rfl⟩ := St.rowPSliceF [] hst3) | (go_at_call 30; refine (ogetR_any au L cu X _ (Rd.rowP hst3 (.head _)) HLn.out b5).mono ?_; rw [HG.out]; rintro _ w5 ⟨lv, bv, rfl, h4⟩; have hst4 := St.call hst3 h4; clear h4 hst3; obtain ⟨al, cl, rfl⟩ := St.rowPSliceF [] hst4; obtain ⟨av, cv, rfl⟩ := St.rowPSliceF [_] hst4) | (refine wl_alloc (T := 49) hst4 rfl rfl ?_; intro c4 _ hst5; clear hst4) | (refine wl_alloc (T := 42) hst5 rfl rfl ?_; intro c5 _ hst6; clear hst5) | (refine wl_storeA (T := 49) (vs := r.cells (.slice al r.n.length cl) (.slice av r.b.length cv)) [_] hst6 rfl rfl rfl rfl rfl rfl rfl ?_; intro w7 hst7; clear hst6) | (refine wl_storeA (T := 42) (vs := [.int .i64 0, .int .i64 0]) [] hst7 rfl rfl rfl rfl rfl rfl rfl ?_; intro w8 hst8; clear hst7) | (refine wl_loadE rfl rfl rfl ?_; first | refine ⟨_, Loads.at [] hst8 rfl, ?_⟩ | refine ⟨_, Loads.at [_, _, _, _, _] hst9 rfl, ?_⟩) | (refine wl_loadE rfl rfl rfl ?_; first | refine ⟨_, Loads.whole (T := 49) [_] hst8 rfl, ?_⟩ | refine ⟨_, Loads.whole (T := 49) [_, _, _, _, _] hst8 rfl, ?_⟩) | (go_at_call 32; obtain rfl := HNN.out; obtain rfl := HNB.out; refine (sameReply_eq r an al ab av cn cl cb cv _ (Rd.old hst8 HL.out) (Rd.rowP hst8 (.tail _ (.tail _ (.head _)))) (Rd.old hst8 HB.out) (Rd.rowP hst8 (.tail _ (.tail _ (.tail _ (.head _)))))).mono ?_; rintro _ w9 ⟨rfl, h4⟩; have hst9 := St.call0 hst8 h4; clear h4 hst8) | (go_at_call 30; refine (ogetR_any ao m c bs _ (Rd.old hst9 HA.out) HM.out b4).mono ?_; rw [HR.out]; rintro _ w12 ⟨lv, bv, rfl, h4⟩; have hst12 := St.call hst9 h4; clear h4 hst9; obtain ⟨bl, dl, rfl⟩ := St.rowPSliceF [] hst12; obtain ⟨bb, db, rfl⟩ := St.rowPSliceF [_] hst12) | (refine wl_alloc (T := 49) hst12 rfl rfl ?_; intro c6 _ hst13; clear hst12) | (refine wl_alloc (T := 42) hst13 rfl rfl ?_; intro c7 _ hst14; clear hst13) | (refine wl_storeA (T := 49) (vs := q.cells (.slice bl q.n.length dl) (.slice bb q.b.length db)) [_] hst14 rfl rfl rfl rfl rfl rfl rfl ?_; intro w15 hst15; clear hst14) | (refine wl_storeA (T := 42) [] hst15 rfl rfl rfl rfl rfl rfl rfl ?_; intro w16 hst16; clear hst15) | (refine wl_loadE rfl rfl rfl ?_; first | refine ⟨_, Loads.at [] hst16 rfl, ?_⟩) | (refine wl_loadE rfl rfl rfl ?_; refine ⟨_, Loads.whole (T := 49) [_] hst16 rfl, ?_⟩) | (go_at_call 27; refine (oputR_any q HQO.out bl bb q.n.length dl q.b.length db _ (Rd.rowP hst16 (.tail _ (.tail _ (.head _)))) (Rd.rowP hst16 (.tail _ (.tail _ (.tail _ (.head _))))) rfl rfl).mono ?_; rw [HQ.out]; rintro _ w17 ⟨u2, rfl, h4⟩; have h5 : St _ [] w17 [.rowP isB u2 5 1 m (bytesV bs)] := (by rw [← HM.out]; exact h4); have hst17 := St.call hst16 h5; clear h4 h5 hst16) | (go_at_call 14; refine (sameBytes_any u2 _ m m bs bs _ (Rd.rowP hst17 (.head _)) (Rd.old hst17 HA.out)).mono ?_; rw [beq_self_eq_true]; rintro _ w18 ⟨rfl, h4⟩; have hst18 := St.call0 hst17 h4; clear h4 hst17))
  go_ret
  exact ⟨rfl, hst18.nil⟩
theorem replied_nx (r : RV) (an ab : Option Addr) (nn cn nb cb : Nat) (ao : Option Addr) (m c : Nat) (bs : List UInt8) (w : World) (hl : Rd w (.slice an nn cn) 1 nn (intsV r.n)) (hb : Rd w (.slice ab nb cb) 1 nb (bytesV r.b)) (hnn : r.n.length = nn) (hnb : r.b.length = nb) (hA : Rd w (.slice ao m c) 1 m (bytesV bs)) (hm : bs.length = m) (he : -9223372036854775808 ≤ r.err ∧ r.err ≤ 9223372036854775807) (ht : ∀ t ∈ r.n, -9223372036854775808 ≤ t ∧ t ≤ 9223372036854775807) (d1 : decide ((2100 : Int) < (nn : Int)) = false) (d2 : decide ((17000 : Int) < (nb : Int)) = false) (d3 : decide ((20000 : Int) < (m : Int)) = false) (h0 : r.fine = false) (e1 p1 : Int) (hR : getR bs = (RV.none, e1, p1)) (h1 : e1 ≠ 0) :
    Calls Try.prog 8 #[.agg (r.cells (.slice an nn cn) (.slice ab nb cb)).toArray, .slice ao m c] w fun e w' => e = .returned (.bool true) ∧ St w [] w' [] := by
  have hst0 := St.refl w
  have b1 : nn ≤ 2100 := by have := of_decide_eq_false d1; omega
  have b2 : nb ≤ 17000 := by have := of_decide_eq_false d2; omega
  have b3 : m ≤ 20000 := by have := of_decide_eq_false d3; omega
  have b4 : m ≤ 100000 := by omega
  have OK := hid (show r.Ok from ⟨he, by omega, ht, by omega⟩)
  have HL := hid hl
  have HB := hid hb
  have HNN := hid hnn
  have HNB := hid hnb
  have HA := hid hA
  have HM := hid hm
  have HR := hid hR
  have dF : (e1 != 0) = true := by simpa using h1
  have HP := hid (show putR r = (2, []) by unfold putR; rw [if_neg (by rw [h0]; exact Bool.false_ne_true)])
  clear hl hb hnn hnb hA hm he ht hR h0 h1
  show Calls Try.prog 8 #[.agg (List.toArray [.int .i64 r.err, .slice an nn cn, .slice ab nb cb]), .slice ao m c] w _
  go_enter Try.func8, Try.ntmps8
  go_wp2_with (first | go_big_skip | go_big_guard | (refine wl_boxA hst0 rfl rfl rfl ?_; intro g1 _ hst1; clear hst0) | (go_at_call 10; refine (awake_any _).mono ?_; rintro _ w3 ⟨rfl, h4⟩; have hst2 := St.call0 hst1 h4; clear h4 hst1) | (refine wl_loadE rfl rfl rfl ?_; first | refine ⟨_, Loads.at [] hst2 rfl, ?_⟩) | (refine wl_loadE rfl rfl rfl ?_; refine ⟨_, Loads.whole (T := 49) [] hst2 rfl, ?_⟩) | (go_at_call 27; refine (oputR_any r OK.out an ab nn cn nb cb _ (Rd.old hst2 HL.out) (Rd.old hst2 HB.out) HNN.out HNB.out).mono ?_; rw [HP.out]; rintro _ w4 ⟨u, rfl, h4⟩; have h5 : St _ [] w4 [.rowP isB u 5 1 0 (bytesV [])] := h4; have hst3 := St.call hst2 h5; clear h4 h5 hst2; obtain ⟨au, cu, rfl⟩ := St.rowPSliceF [] hst3) | (go_at_call 30; refine (ogetR_any ao m c bs _ (Rd.old hst3 HA.out) HM.out b4).mono ?_; rw [HR.out]; rintro _ w12 ⟨lv, bv, rfl, h4⟩; have hst12 := St.call hst3 h4; clear h4 hst3; obtain ⟨bl, dl, rfl⟩ := St.rowPSliceF [] hst12; obtain ⟨bb, db, rfl⟩ := St.rowPSliceF [_] hst12) | (refine wl_alloc (T := 49) hst12 rfl rfl ?_; intro c6 _ hst13; clear hst12) | (refine wl_alloc (T := 42) hst13 rfl rfl ?_; intro c7 _ hst14; clear hst13) | (refine wl_storeA (T := 49) (vs := [.int .i64 0, .slice bl 0 dl, .slice bb 0 db]) [_] hst14 rfl rfl rfl rfl rfl rfl rfl ?_; intro w15 hst15; clear hst14) | (refine wl_storeA (T := 42) [] hst15 rfl rfl rfl rfl rfl rfl rfl ?_; intro w16 hst16; clear hst15) | (refine wl_loadE rfl rfl rfl ?_; first | refine ⟨_, Loads.at [] hst16 rfl, ?_⟩) | (refine wl_loadE rfl rfl rfl ?_; refine ⟨_, Loads.whole (T := 49) [_] hst16 rfl, ?_⟩) | (refine wl_build0 rfl rfl ?_) | (go_at_call 32; refine (sameReply_eq RV.none bl none bb none dl 0 db 0 _ (Rd.rowP hst16 (.tail _ (.tail _ (.head _)))) (Rd.nil _ _) (Rd.rowP hst16 (.tail _ (.tail _ (.tail _ (.head _))))) (Rd.nil _ _)).mono ?_; rintro _ w17 ⟨rfl, h4⟩; have hst17 := St.call0 hst16 h4; clear h4 hst16))
  go_ret
  exact ⟨rfl, hst17.nil⟩
theorem replied_no (r : RV) (an ab : Option Addr) (nn cn nb cb : Nat) (ao : Option Addr) (m c : Nat) (bs : List UInt8) (w : World) (hl : Rd w (.slice an nn cn) 1 nn (intsV r.n)) (hb : Rd w (.slice ab nb cb) 1 nb (bytesV r.b)) (hnn : r.n.length = nn) (hnb : r.b.length = nb) (hA : Rd w (.slice ao m c) 1 m (bytesV bs)) (hm : bs.length = m) (he : -9223372036854775808 ≤ r.err ∧ r.err ≤ 9223372036854775807) (ht : ∀ t ∈ r.n, -9223372036854775808 ≤ t ∧ t ≤ 9223372036854775807) (d1 : decide ((2100 : Int) < (nn : Int)) = false) (d2 : decide ((17000 : Int) < (nb : Int)) = false) (d3 : decide ((20000 : Int) < (m : Int)) = false) (h0 : r.fine = false) (q : RV) (p1 : Int) (hR : getR bs = (q, 0, p1)) (h1 : q.fine = true) (h2 : putR q = (0, bs)) :
    Calls Try.prog 8 #[.agg (r.cells (.slice an nn cn) (.slice ab nb cb)).toArray, .slice ao m c] w fun e w' => e = .returned (.bool true) ∧ St w [] w' [] := by
  have hst0 := St.refl w
  have b1 : nn ≤ 2100 := by have := of_decide_eq_false d1; omega
  have b2 : nb ≤ 17000 := by have := of_decide_eq_false d2; omega
  have b3 : m ≤ 20000 := by have := of_decide_eq_false d3; omega
  have b4 : m ≤ 100000 := by omega
  have OK := hid (show r.Ok from ⟨he, by omega, ht, by omega⟩)
  have HL := hid hl
  have HB := hid hb
  have HNN := hid hnn
  have HNB := hid hnb
  have HA := hid hA
  have HM := hid hm
  have HR := hid hR
  have HQ := hid h2
  have HQO := hid (RV.fine_ok h1)
  have HP := hid (show putR r = (2, []) by unfold putR; rw [if_neg (by rw [h0]; exact Bool.false_ne_true)])
  clear hl hb hnn hnb hA hm he ht hR h0 h1 h2
  show Calls Try.prog 8 #[.agg (List.toArray [.int .i64 r.err, .slice an nn cn, .slice ab nb cb]), .slice ao m c] w _
  go_enter Try.func8, Try.ntmps8
  go_wp2_with (first | go_big_skip | go_big_guard | (refine wl_boxA hst0 rfl rfl rfl ?_; intro g1 _ hst1; clear hst0) | (go_at_call 10; refine (awake_any _).mono ?_; rintro _ w3 ⟨rfl, h4⟩; have hst2 := St.call0 hst1 h4; clear h4 hst1) | (refine wl_loadE rfl rfl rfl ?_; first | refine ⟨_, Loads.at [] hst2 rfl, ?_⟩) | (refine wl_loadE rfl rfl rfl ?_; refine ⟨_, Loads.whole (T := 49) [] hst2 rfl, ?_⟩) | (go_at_call 27; refine (oputR_any r OK.out an ab nn cn nb cb _ (Rd.old hst2 HL.out) (Rd.old hst2 HB.out) HNN.out HNB.out).mono ?_; rw [HP.out]; rintro _ w4 ⟨u, rfl, h4⟩; have h5 : St _ [] w4 [.rowP isB u 5 1 0 (bytesV [])] := h4; have hst3 := St.call hst2 h5; clear h4 h5 hst2; obtain ⟨au, cu, rfl⟩ := St.rowPSliceF [] hst3) | (go_at_call 30; refine (ogetR_any ao m c bs _ (Rd.old hst3 HA.out) HM.out b4).mono ?_; rw [HR.out]; rintro _ w12 ⟨lv, bv, rfl, h4⟩; have hst12 := St.call hst3 h4; clear h4 hst3; obtain ⟨bl, dl, rfl⟩ := St.rowPSliceF [] hst12; obtain ⟨bb, db, rfl⟩ := St.rowPSliceF [_] hst12) | (refine wl_alloc (T := 49) hst12 rfl rfl ?_; intro c6 _ hst13; clear hst12) | (refine wl_alloc (T := 42) hst13 rfl rfl ?_; intro c7 _ hst14; clear hst13) | (refine wl_storeA (T := 49) (vs := q.cells (.slice bl q.n.length dl) (.slice bb q.b.length db)) [_] hst14 rfl rfl rfl rfl rfl rfl rfl ?_; intro w15 hst15; clear hst14) | (refine wl_storeA (T := 42) [] hst15 rfl rfl rfl rfl rfl rfl rfl ?_; intro w16 hst16; clear hst15) | (refine wl_loadE rfl rfl rfl ?_; first | refine ⟨_, Loads.at [] hst16 rfl, ?_⟩) | (refine wl_loadE rfl rfl rfl ?_; refine ⟨_, Loads.whole (T := 49) [_] hst16 rfl, ?_⟩) | (go_at_call 27; refine (oputR_any q HQO.out bl bb q.n.length dl q.b.length db _ (Rd.rowP hst16 (.tail _ (.tail _ (.head _)))) (Rd.rowP hst16 (.tail _ (.tail _ (.tail _ (.head _))))) rfl rfl).mono ?_; rw [HQ.out]; rintro _ w17 ⟨u2, rfl, h4⟩; have h5 : St _ [] w17 [.rowP isB u2 5 1 m (bytesV bs)] := (by rw [← HM.out]; exact h4); have hst17 := St.call hst16 h5; clear h4 h5 hst16) | (go_at_call 14; refine (sameBytes_any u2 _ m m bs bs _ (Rd.rowP hst17 (.head _)) (Rd.old hst17 HA.out)).mono ?_; rw [beq_self_eq_true]; rintro _ w18 ⟨rfl, h4⟩; have hst18 := St.call0 hst17 h4; clear h4 hst17))
  go_ret
  exact ⟨rfl, hst18.nil⟩
theorem replied_law (r : RV) (an ab : Option Addr) (nn cn nb cb : Nat) (ao : Option Addr) (m c : Nat) (bs : List UInt8) (w : World) (hl : Rd w (.slice an nn cn) 1 nn (intsV r.n)) (hb : Rd w (.slice ab nb cb) 1 nb (bytesV r.b)) (hnn : r.n.length = nn) (hnb : r.b.length = nb) (hA : Rd w (.slice ao m c) 1 m (bytesV bs)) (hm : bs.length = m) (he : -9223372036854775808 ≤ r.err ∧ r.err ≤ 9223372036854775807) (ht : ∀ t ∈ r.n, -9223372036854775808 ≤ t ∧ t ≤ 9223372036854775807) :
    Calls Try.prog 8 #[.agg (r.cells (.slice an nn cn) (.slice ab nb cb)).toArray, .slice ao m c] w fun e w' => e = .returned (.bool true) ∧ St w [] w' [] := by
  by_cases k1 : 2100 < nn
  · exact replied_far1 r an ab nn cn nb cb ao m c w (decide_eq_true (by omega))
  have d1 : decide ((2100 : Int) < (nn : Int)) = false := decide_eq_false (by omega)
  by_cases k2 : 17000 < nb
  · exact replied_far2 r an ab nn cn nb cb ao m c w d1 (decide_eq_true (by omega))
  have d2 : decide ((17000 : Int) < (nb : Int)) = false := decide_eq_false (by omega)
  by_cases k3 : 20000 < m
  · exact replied_far3 r an ab nn cn nb cb ao m c w d1 d2 (decide_eq_true (by omega))
  have d3 : decide ((20000 : Int) < (m : Int)) = false := decide_eq_false (by omega)
  rcases getR_ways bs with ⟨e1, p1, hR, h1⟩ | ⟨q, p1, hR, h1, h2⟩
  · cases h0 : r.fine
    · exact replied_nx r an ab nn cn nb cb ao m c bs w hl hb hnn hnb hA hm he ht d1 d2 d3 h0 e1 p1 hR h1
    · exact replied_fx r an ab nn cn nb cb ao m c bs w hl hb hnn hnb hA hm he ht d1 d2 d3 h0 e1 p1 hR h1
  · cases h0 : r.fine
    · exact replied_no r an ab nn cn nb cb ao m c bs w hl hb hnn hnb hA hm he ht d1 d2 d3 h0 q p1 hR h1 h2
    · exact replied_fo r an ab nn cn nb cb ao m c bs w hl hb hnn hnb hA hm he ht d1 d2 d3 h0 q p1 hR h1 h2
end Go.Proofs.Ytalfdcfcaamnbaa
namespace Go.Proofs.Ytalfdcfcaamnbaa
set_option linter.unusedVariables false
set_option linter.unusedSimpArgs false
open Hp
structure Ptr where
  addrs : List (Int × Int)
  birth : Int
  level : Int
  sum : List UInt8
deriving DecidableEq
def nones : List UInt8 := List.replicate 32 0
def ptrCells (sv : Value) (b l : Int) (S : List UInt8) : List Value := sv :: .int .i64 b :: .int .i64 l :: bytesV S
def nothingB (b l : Int) (S : List UInt8) : Bool := decide (b = 0) && (decide (l = 0) && (S == nones))
/-- 32 bytes: hidden from the walk's rewriting. -/
def L32 (S : List UInt8) : Prop := S.length = 32
theorem L32.out {S : List UInt8} (h : L32 S) : S.length = 32 := h
theorem L32.v {S : List UInt8} (h : L32 S) : (bytesV S).length = 32 := by simp [h.out]
theorem L32.nones : L32 nones := rfl
theorem L32.two {S R : List UInt8} (h : L32 S) (h' : L32 R) : S.length = 32 ∧ R.length = 32 := ⟨h, h'⟩
theorem ptr_sum (sv : Value) (b l : Int) (S : List UInt8) : ((ptrCells sv b l S).drop 3).take (bytesV S).length = bytesV S := by
  show (bytesV S).take (bytesV S).length = bytesV S
  exact List.take_length
theorem ptr_all (sv : Value) (b l : Int) (S : List UInt8) : ((ptrCells sv b l S).drop 0).take (ptrCells sv b l S).length = ptrCells sv b l S := by
  simp
theorem ptr_len {S : List UInt8} (h : L32 S) (sv : Value) (b l : Int) : (ptrCells sv b l S).length = 35 := by simp [ptrCells, h.out]
theorem ret_bool {a b : Bool} (h : a = b) : Ending.returned (.bool a) = .returned (.bool b) := by rw [h]
theorem ret_int {k : IntKind} {a b : Int} (h : a = b) : Ending.returned (.int k a) = .returned (.int k b) := by rw [h]
def addrsV : List (Int × Int) → List Value
  | [] => []
  | x :: l => .int .i64 x.1 :: .int .i64 x.2 :: addrsV l
theorem length_addrsV (l : List (Int × Int)) : (addrsV l).length = l.length * 2 := by
  induction l with
  | nil => rfl
  | cons x l ih => simp [addrsV, ih]; omega
theorem addrsV_get (l : List (Int × Int)) (k : Nat) (hk : k < l.length) : (addrsV l)[k * 2]? = some (.int .i64 (l.getD k (0, 0)).1) ∧ (addrsV l)[k * 2 + 1]? = some (.int .i64 (l.getD k (0, 0)).2) := by
  induction l generalizing k with
  | nil => simp at hk
  | cons x l ih =>
    cases k with
    | zero => simp [addrsV]
    | succ k =>
      have := ih k (by simpa using hk)
      simp only [addrsV, show (k + 1) * 2 = k * 2 + 1 + 1 by omega, show k * 2 + 1 + 1 + 1 = (k * 2 + 1) + 1 + 1 by omega, List.getElem?_cons_succ, List.getD_cons_succ]
      exact this
section
open Go.RowKit
variable {w : World} {b off : Nat} {l : List (Int × Int)}
theorem addr_dev (h : w.rangeAt b off (addrsV l)) {k : Nat} (hk : k < l.length) : w.cell? ⟨b, off + k * 2, none⟩ = some (.int .i64 (l.getD k (0, 0)).1) := h _ _ (addrsV_get l k hk).1
theorem addr_at (h : w.rangeAt b off (addrsV l)) {k : Nat} (hk : k < l.length) : w.cell? ⟨b, off + k * 2 + 1, none⟩ = some (.int .i64 (l.getD k (0, 0)).2) := h _ _ (addrsV_get l k hk).2
theorem addr_both (h : w.rangeAt b off (addrsV l)) {k : Nat} (hk : k < l.length) : w.rangeAt b (off + k * 2) [.int .i64 (l.getD k (0, 0)).1, .int .i64 (l.getD k (0, 0)).2] := by
  intro j v hv
  match j, hv with
  | 0, hv => simp at hv; subst hv; exact addr_dev h hk
  | 1, hv => simp at hv; subst hv; exact addr_at h hk
end
def holeB (n : Nat) (b l : Int) (S : List UInt8) : Bool := decide (n = 0) && nothingB b l S
def likeB (n m : Nat) (b l b' l' : Int) (S S' : List UInt8) : Bool := decide (b = b') && (decide (l = l') && ((S == S') && (decide (0 < n) == decide (0 < m))))
def seenB (l : List (Int × Int)) (d : Nat) : Bool := decide ((d : Int) ∈ l.map (·.1))
def seenV (l : List (Int × Int)) : List Value := (List.range 8).map fun d => .bool (seenB l d)
def validA (a : Int × Int) : Bool := decide (0 ≤ a.1 ∧ a.1 < 8 ∧ 5 ≤ a.2 ∧ a.2 < 4096)
/-- Each address may be, and no two are of one device. -/
def okA : List (Int × Int) → Bool
  | [] => true
  | x :: l => okA l && validA x && !(l.any fun y => y.1 == x.1)
def mayB (l : List (Int × Int)) : Bool := okA l.reverse && decide (1 ≤ l.length ∧ l.length ≤ 3)
def checkB (l : List (Int × Int)) (b v : Int) (S : List UInt8) : Bool := holeB l.length b v S || (mayB l && decide (1 ≤ b ∧ b ≤ 2147483648 ∧ 0 ≤ v ∧ v ≤ 3))
def checkE (l : List (Int × Int)) (b v : Int) (S : List UInt8) : Int := if checkB l b v S then 0 else 2
/-- Of the first k addresses. -/
def okP (l : List (Int × Int)) (k : Nat) : Bool := okA (l.take k).reverse
theorem take_rev_succ (l : List (Int × Int)) (k : Nat) (hk : k < l.length) : (l.take (k + 1)).reverse = l.getD k (0, 0) :: (l.take k).reverse := by
  rw [List.take_succ_eq_append_getElem hk, List.reverse_append]
  simp [List.getD, hk]
theorem okP_succ (l : List (Int × Int)) (k : Nat) (hk : k < l.length) : okP l (k + 1) = (okP l k && validA (l.getD k (0, 0)) && !((l.take k).any fun y => y.1 == (l.getD k (0, 0)).1)) := by
  unfold okP
  rw [take_rev_succ l k hk, okA, List.any_reverse]
theorem okA_append : ∀ (a b : List (Int × Int)), okA (a ++ b) = true → okA b = true
  | [], _, h => h
  | x :: a, b, h => okA_append a b (by simp only [List.cons_append, okA, Bool.and_eq_true] at h; exact h.1.1)
theorem okP_false (l : List (Int × Int)) (k : Nat) (h : okP l k = false) : okA l.reverse = false := by
  rw [← Bool.not_eq_true]
  intro ht
  rw [← List.take_append_drop k l, List.reverse_append] at ht
  have := okA_append _ _ ht
  unfold okP at h
  simp [h] at this
theorem okP_all (l : List (Int × Int)) (k : Nat) (hk : l.length ≤ k) : okP l k = okA l.reverse := by unfold okP; rw [List.take_of_length_le hk]
theorem okP_zero (l : List (Int × Int)) : okP l 0 = true := by simp [okP, okA]
theorem seenV_get (l : List (Int × Int)) {d : Nat} (hd : d < 8) : (seenV l)[d]? = some (.bool (seenB l d)) := by
  unfold seenV
  simp [hd]
theorem length_seenV (l : List (Int × Int)) : (seenV l).length = 8 := by simp [seenV]
theorem seenB_any (l : List (Int × Int)) (x : Int) (hx : 0 ≤ x) : seenB l x.toNat = l.any fun y => y.1 == x := by
  unfold seenB
  rw [Bool.eq_iff_iff]
  simp only [decide_eq_true_eq, List.mem_map, List.any_eq_true, beq_iff_eq]
  constructor
  · rintro ⟨a, ha, h⟩; exact ⟨a, ha, by omega⟩
  · rintro ⟨a, ha, h⟩; exact ⟨a, ha, by omega⟩
theorem seenV_put (l : List (Int × Int)) (x : Int × Int) (h0 : 0 ≤ x.1) (h8 : x.1 < 8) : putAt (seenV l) x.1.toNat [.bool true] = seenV (l ++ [x]) := by
  apply List.ext_getElem?
  intro j
  unfold putAt
  have hl := length_seenV l
  by_cases hj : j < 8
  · rw [seenV_get _ hj]
    rcases Nat.lt_trichotomy j x.1.toNat with h | h | h
    · rw [List.getElem?_append_left (by simp; omega), List.getElem?_take, if_pos h, seenV_get _ hj]
      have : seenB (l ++ [x]) j = seenB l j := by
        unfold seenB
        simp only [List.map_append, List.map_cons, List.map_nil, List.mem_append, List.mem_singleton]
        congr 1
        simp only [eq_iff_iff, or_iff_left_iff_imp]
        intro e; omega
      rw [this]
    · rw [List.getElem?_append_right (by simp; omega)]
      have h1 : j - (List.take x.1.toNat (seenV l)).length = 0 := by simp; omega
      rw [h1]
      have : seenB (l ++ [x]) j = true := by
        unfold seenB
        simp only [decide_eq_true_eq, List.map_append, List.map_cons, List.map_nil, List.mem_append, List.mem_singleton]
        right; omega
      simp [this]
    · rw [List.getElem?_append_right (by simp; omega)]
      have h1 : j - (List.take x.1.toNat (seenV l)).length = (j - x.1.toNat - 1) + 1 := by simp; omega
      rw [h1]
      simp only [List.cons_append, List.nil_append, List.getElem?_cons_succ, List.getElem?_drop, List.length_singleton]
      rw [show x.1.toNat + 1 + (j - x.1.toNat - 1) = j by omega, seenV_get _ hj]
      have : seenB (l ++ [x]) j = seenB l j := by
        unfold seenB
        simp only [List.map_append, List.map_cons, List.map_nil, List.mem_append, List.mem_singleton]
        congr 1
        simp only [eq_iff_iff, or_iff_left_iff_imp]
        intro e; omega
      rw [this]
  · rw [List.getElem?_eq_none (by simp [hl]; omega), List.getElem?_eq_none (by rw [length_seenV]; omega)]
theorem take_snoc' (l : List (Int × Int)) (k : Nat) (hk : k < l.length) : l.take k ++ [l.getD k (0, 0)] = l.take (k + 1) := by
  rw [List.take_succ_eq_append_getElem hk]
  simp [List.getD, hk]
section
variable {l : List (Int × Int)} {k : Nat} {x : Int × Int}
theorem may_stop1 (hk : k < l.length) (hx : x = l.getD k (0, 0)) (h : ¬ (0 ≤ x.1 ∧ x.1 < 8 ∧ 5 ≤ x.2 ∧ x.2 < 4096)) : mayB l = false := by
  have h1 := okP_succ l k hk
  rw [← hx] at h1
  have : validA x = false := by simpa [validA] using h
  simp only [this, Bool.and_false, Bool.false_and] at h1
  simp [mayB, okP_false l _ h1]
theorem may_stop2 (hk : k < l.length) (hx : x = l.getD k (0, 0)) (h0 : 0 ≤ x.1) (h : seenB (l.take k) x.1.toNat = true) : mayB l = false := by
  have h1 := okP_succ l k hk
  rw [← hx] at h1
  rw [seenB_any _ _ h0] at h
  simp only [h, Bool.not_true, Bool.and_false] at h1
  simp [mayB, okP_false l _ h1]
theorem may_go (hk : k < l.length) (hx : x = l.getD k (0, 0)) (hok : okP l k = true) (h0 : 0 ≤ x.1) (h8 : x.1 < 8) (h5 : 5 ≤ x.2) (h4 : x.2 < 4096) (h : seenB (l.take k) x.1.toNat = false) :
    okP l (k + 1) = true ∧ putAt (seenV (l.take k)) x.1.toNat [.bool true] = seenV (l.take (k + 1)) := by
  rw [seenB_any _ _ h0] at h
  refine ⟨?_, ?_⟩
  · rw [okP_succ l k hk, ← hx, hok, h]
    simp [validA, h0, h8, h5, h4]
  · rw [seenV_put _ _ h0 h8, hx, take_snoc' l k hk]
theorem may_end (hk : l.length ≤ k) (hok : okP l k = true) : mayB l = decide (1 ≤ l.length ∧ l.length ≤ 3) := by
  rw [okP_all l k hk] at hok
  simp [mayB, hok]
end
section
variable {l : List (Int × Int)} {k : Nat} {x : Int × Int}
theorem addrs_stop (hk : k < l.length) (hx : x = l.getD k (0, 0)) {j : Nat} (hj : j < k) (h : (l.getD j (0, 0)).1 = x.1) : mayB l = false := by
  have h1 := okP_succ l k hk
  rw [← hx] at h1
  have : ((l.take k).any fun y => y.1 == x.1) = true := by
    rw [List.any_eq_true]
    refine ⟨l.getD j (0, 0), ?_, by simpa using h⟩
    rw [List.mem_iff_getElem?]
    refine ⟨j, ?_⟩
    rw [List.getElem?_take, if_pos hj]
    simp [List.getD, show j < l.length by omega]
  simp only [this, Bool.not_true, Bool.and_false] at h1
  simp [mayB, okP_false l _ h1]
theorem addrs_go (hk : k < l.length) (hx : x = l.getD k (0, 0)) (hok : okP l k = true) (h0 : 0 ≤ x.1) (h8 : x.1 < 8) (h5 : 5 ≤ x.2) (h4 : x.2 < 4096) (h : ∀ t, t < k → (l.getD t (0, 0)).1 ≠ x.1) : okP l (k + 1) = true := by
  rw [okP_succ l k hk, ← hx, hok]
  have : ((l.take k).any fun y => y.1 == x.1) = false := by
    rw [List.any_eq_false]
    intro y hy
    obtain ⟨t, ht⟩ := List.mem_iff_getElem?.1 hy
    rw [List.getElem?_take] at ht
    split at ht
    · rename_i htk
      have := h t htk
      simp only [List.getD, ht, Option.getD_some] at this
      simpa using this
    · simp at ht
  simp [this, validA, h0, h8, h5, h4]
end
theorem addrs_ext {l k : List (Int × Int)} (h : l.length = k.length) (hq : ∀ q, q < l.length → l.getD q (0, 0) = k.getD q (0, 0)) : l = k := by
  apply List.ext_getElem h
  intro i h1 h2
  have := hq i h1
  simpa [List.getD, h1, h2] using this
theorem addrs_len_ne {l k : List (Int × Int)} (h : l.length ≠ k.length) : (l == k) = false := by
  rw [beq_eq_false_iff_ne]; intro e; exact h (by rw [e])
theorem addrs_ne {l k : List (Int × Int)} {q : Nat} (h : l.getD q (0, 0) ≠ k.getD q (0, 0)) : (l == k) = false := by
  rw [beq_eq_false_iff_ne]; intro e; exact h (by rw [e])
section
open Go.RowKit
theorem byte_cell {w : World} {b off : Nat} {l : List UInt8} (h : w.rangeAt b off (bytesV l)) {k : Nat} (hk : k < l.length) : w.cell? ⟨b, off + k, none⟩ = some (.int .u8 (l.getD k 0).toNat) := by
  refine h _ _ ?_
  simp [bytesV, List.getD, hk]
theorem bytes_ext {l k : List UInt8} (h : l.length = k.length) (hq : ∀ q, q < l.length → l.getD q 0 = k.getD q 0) : l = k := by
  apply List.ext_getElem h
  intro i h1 h2
  have := hq i h1
  simpa [List.getD, h1, h2] using this
theorem bytes_len_ne {l k : List UInt8} (h : l.length ≠ k.length) : (l == k) = false := by
  rw [beq_eq_false_iff_ne]; intro e; exact h (by rw [e])
theorem bytes_ne {l k : List UInt8} {q : Nat} (h : l.getD q 0 ≠ k.getD q 0) : (l == k) = false := by
  rw [beq_eq_false_iff_ne]; intro e; exact h (by rw [e])
theorem pair_ext {x y : Int × Int} (h : (!x.1 == y.1) = false ∧ (!x.2 == y.2) = false) : x = y := by
  simp only [Bool.not_eq_false', beq_iff_eq] at h
  exact Prod.ext h.1 h.2
theorem pair_ne {x y : Int × Int} (h : (!x.1 == y.1) = true ∨ (!x.2 == y.2) = true) : x ≠ y := by
  rintro rfl
  simp at h
end
def sameB (l r : List (Int × Int)) (b v b' v' : Int) (S S' : List UInt8) : Bool := (l == r) && (decide (b = b') && (decide (v = v') && (S == S')))
theorem sameB_eq (l r : List (Int × Int)) (b v b' v' : Int) (S S' : List UInt8) : (likeB l.length r.length b v b' v' S S' && (l == r)) = sameB l r b v b' v' S S' := by
  unfold likeB sameB
  by_cases h : l = r
  · subst h
    cases (S == S') <;> simp
  · have : (l == r) = false := by rw [beq_eq_false_iff_ne]; exact h
    simp [this]
end Go.Proofs.Ytalfdcfcaamnbaa
namespace Go.Proofs.Ytalfdcfcaamnbaa
set_option linter.unusedVariables false
set_option linter.unusedSimpArgs false
open Go.ChangeShapes Go.WideShapes Go.ChangeAt Go.RowKit Hp
theorem bytes_of_cells : ∀ (L : List Value), (∀ v ∈ L, ∃ k : Int, v = .int .u8 k ∧ 0 ≤ k ∧ k < 256) → ∃ S : List UInt8, L = bytesV S ∧ S.length = L.length
  | [], _ => ⟨[], rfl, rfl⟩
  | v :: L, h => by
    obtain ⟨S, hS, hl⟩ := bytes_of_cells L fun x hx => h x (List.mem_cons_of_mem _ hx)
    obtain ⟨k, rfl, h0, h1⟩ := h v (List.mem_cons_self)
    refine ⟨UInt8.ofNat k.toNat :: S, ?_, by simp [hl]⟩
    have : ((UInt8.ofNat k.toNat).toNat : Int) = k := by rw [UInt8.toNat_ofNat']; omega
    simp only [bytesV, List.map_cons] at hS ⊢
    rw [hS, this]
theorem addrsV_at : ∀ (l : List (Int × Int)) (k : Nat) (v : Value), (addrsV l)[k]? = some v → ∃ i x, l[i]? = some x ∧ ((k = i * 2 ∧ v = .int .i64 x.1) ∨ (k = i * 2 + 1 ∧ v = .int .i64 x.2))
  | [], k, v, h => by simp [addrsV] at h
  | x :: l, 0, v, h => by simp [addrsV] at h; exact ⟨0, x, rfl, .inl ⟨rfl, h.symm⟩⟩
  | x :: l, 1, v, h => by simp [addrsV] at h; exact ⟨0, x, rfl, .inr ⟨rfl, h.symm⟩⟩
  | x :: l, k + 2, v, h => by
    obtain ⟨i, y, hi, hk⟩ := addrsV_at l k v (by simpa [addrsV] using h)
    rcases hk with ⟨rfl, rfl⟩ | ⟨rfl, rfl⟩
    · exact ⟨i + 1, y, hi, .inl ⟨by omega, rfl⟩⟩
    · exact ⟨i + 1, y, hi, .inr ⟨by omega, rfl⟩⟩
theorem rd_pairs {w : World} {b off len cap : Nat} (f : Nat → Int × Int) (hl : len ≤ cap) (hc : cap ≤ maxLen) (h : ∀ i, i < len → w.cell? ⟨b, off + i * 2, none⟩ = some (.int .i64 (f i).1) ∧ w.cell? ⟨b, off + i * 2 + 1, none⟩ = some (.int .i64 (f i).2)) :
    Rd w (.slice (some ⟨b, off, none⟩) len cap) 2 len (addrsV ((List.range len).map f)) := by
  refine Rd.mk hl hc (by simp [length_addrsV]) ?_
  intro k v hk
  obtain ⟨i, x, hi, hx⟩ := addrsV_at _ k v hk
  have hi' : i < len := by
    have := (List.getElem?_eq_some_iff.1 hi).1
    simpa using this
  have hxi : x = f i := by
    rw [List.getElem?_map, List.getElem?_range hi'] at hi
    simpa using hi.symm
  subst hxi
  rcases hx with ⟨rfl, rfl⟩ | ⟨rfl, rfl⟩
  · exact (h i hi').1
  · exact (h i hi').2
end Go.Proofs.Ytalfdcfcaamnbaa
namespace Go.Proofs.Ytalfdcfcaamnbaa
set_option linter.unusedVariables false
set_option linter.unusedSimpArgs false
open Go.ChangeShapes Go.WideShapes Go.ChangeAt Go.RowKit Go.Deep Go.Lib Go.Joins Hp
set_option maxRecDepth 100000
theorem slice_spotV {P : Program} {W : World} {base n c : Nat} {t e : TypeId} {a : Addr} (ht : P.underlying t = some (.slice e)) (h : Value.okWide P W .any base t (.slice (some a) n c)) : a.spot = none := by
  unfold Value.okWide at h
  rw [ht] at h
  simp only [Cell.okWide, ht] at h
  simp [Cell.ok, ht, World.has] at h
  exact h.2.2.2.1
theorem rd_ints {w : World} {b off len cap : Nat} (f : Nat → UInt8) (hl : len ≤ cap) (hc : cap ≤ maxLen) (h : ∀ i, i < len → w.cell? ⟨b, off + i, none⟩ = some (.int .u8 (f i).toNat)) :
    Rd w (.slice (some ⟨b, off, none⟩) len cap) 1 len (bytesV ((List.range len).map f)) := by
  refine Rd.mk hl hc (by simp) ?_
  intro k v hk
  rw [bytesV, List.getElem?_map, List.getElem?_map] at hk
  by_cases hi : k < len
  · rw [List.getElem?_range hi] at hk
    simp at hk
    subst hk
    exact h k hi
  · rw [List.getElem?_eq_none (by simpa using hi)] at hk
    simp at hk
theorem open_bytes {H : Type} {enc : TypeId × Value → H} {W : World} {base fuel : Nat} {v : Value} {x : DataW H × List MemPlace} (hv : Value.okWide Try.prog W .any base 23 v)
    (h : DataW.trod enc Try.prog W 0 (fun _ => true) true fuel 23 v.cells.toList = some x) : ∃ ao n c bs, v = .slice ao n c ∧ Rd W (.slice ao n c) 1 n (bytesV bs) ∧ bs.length = n := by
  obtain ⟨a, len, cap, rfl⟩ := okWide_slice Try.underlying23 hv
  rcases open_ints Try.underlying23 Try.underlying5 (by kernel_rfl) h with ⟨hc, _⟩ | ⟨a', len', cap', zs, hc, _, hl, hm, hz, _, hcell, hw⟩
  · simp [Value.cells] at hc
    obtain ⟨rfl, rfl, rfl⟩ := hc
    exact ⟨none, 0, 0, [], rfl, Rd.nil _ _, rfl⟩
  · simp [Value.cells] at hc
    obtain ⟨rfl, rfl, rfl⟩ := hc
    have hs := slice_spotV Try.underlying23 hv
    obtain ⟨b, off, rfl⟩ : ∃ b off, a' = ⟨b, off, none⟩ := ⟨a'.block, a'.off, by cases a'; simp_all⟩
    simp only [if_true] at hz
    refine ⟨_, len, cap, (List.range len).map fun i => UInt8.ofNat (zs.getD i 0).toNat, rfl, rd_ints _ hl hm fun i hi => ?_, by simp⟩
    have h1 := hcell i (by omega)
    rw [Addr.add_mid] at h1
    rw [h1]
    have h2 := hw (zs.getD i 0) (by rw [List.getD_eq_getElem?_getD, List.getElem?_eq_getElem (by omega)]; exact List.getElem_mem _)
    simp only [Lit.wf, Bool.and_eq_true, decide_eq_true_eq] at h2
    have h3 : IntKind.u8.min = 0 := rfl
    have h4 : IntKind.u8.max = 255 := rfl
    have h5 : ((UInt8.ofNat (zs.getD i 0).toNat).toNat : Int) = zs.getD i 0 := by rw [UInt8.toNat_ofNat']; omega
    rw [h5]
theorem open_int {H : Type} {enc : TypeId × Value → H} {W : World} {base fuel : Nat} {v : Value} {x : DataW H × List MemPlace} (hv : Value.okWide Try.prog W .any base 3 v)
    (h : DataW.trod enc Try.prog W 0 (fun _ => true) true fuel 3 v.cells.toList = some x) : ∃ z : Int, v = .int .i64 z ∧ -9223372036854775808 ≤ z ∧ z ≤ 9223372036854775807 := by
  obtain ⟨z, e, _, hw⟩ := DataW.trod_int Try.underlying3 h
  have hv' : ∃ z', v = .int .i64 z' := by
    unfold Value.okWide at hv
    rw [Try.underlying3] at hv
    simp only [Cell.okWide, Try.underlying3] at hv
    cases v <;> simp_all [Cell.ok]
  obtain ⟨z', rfl⟩ := hv'
  simp [Value.cells] at e
  subst e
  simp only [Lit.wf, Bool.and_eq_true, decide_eq_true_eq] at hw
  have h3 : IntKind.i64.min = -9223372036854775808 := rfl
  have h4 : IntKind.i64.max = 9223372036854775807 := rfl
  exact ⟨_, rfl, by omega, by omega⟩
end Go.Proofs.Ytalfdcfcaamnbaa
namespace Go.Proofs.Ytalfdcfcaamnbaa
set_option linter.unusedVariables false
set_option linter.unusedSimpArgs false
open Go.ChangeShapes Go.WideShapes Go.ChangeAt Go.RowKit Go.Deep Go.Lib Go.Joins Hp
set_option maxRecDepth 100000
theorem cellsOo : Try.prog.cellsOf 25 = 7 := by kernel_rfl
theorem cellsOi : Try.prog.cellsOf 3 = 1 := by kernel_rfl
theorem cellsOs : Try.prog.cellsOf 9 = 1 := by kernel_rfl
theorem cellsOb : Try.prog.cellsOf 23 = 1 := by kernel_rfl
theorem cellsOl : Try.prog.cellsOf 22 = 1 := by kernel_rfl
theorem i64_wfO {z : Int} (hw : (Lit.int .i64 z).wf = true) : -9223372036854775808 ≤ z ∧ z ≤ 9223372036854775807 := by
  simp only [Lit.wf, Bool.and_eq_true, decide_eq_true_eq] at hw
  have h3 : IntKind.i64.min = -9223372036854775808 := rfl
  have h4 : IntKind.i64.max = 9223372036854775807 := rfl
  omega
theorem spot_add {a : Addr} (h : (a.add 0).spot = none) : a.spot = none := by
  simpa [Addr.add] using h
theorem spot_cell {W : World} {a : Addr} {v : Value} (h1 : W.cell? a = some v) : a.spot = none := by
  unfold World.cell? at h1
  split at h1
  · by_cases hs : a.spot = none
    · exact hs
    · have : (a.spot).isSome = true := by
        cases hq : a.spot with
        | none => exact absurd hq hs
        | some q => rfl
      rw [if_pos this] at h1
      cases h1
  · cases h1
theorem open_bytesO {H : Type} {enc : TypeId × Value → H} {W : World} {fuel : Nat} {cs : List Value} {x : DataW H × List MemPlace}
    (h : DataW.trod enc Try.prog W 0 (fun _ => true) true fuel 23 cs = some x) : ∃ ao n c bs, cs = [.slice ao n c] ∧ Rd W (.slice ao n c) 1 n (bytesV bs) ∧ bs.length = n := by
  rcases open_ints Try.underlying23 Try.underlying5 (by kernel_rfl) h with ⟨hc, _⟩ | ⟨a', len', cap', zs, hc, _, hl, hm, hz, _, hcell, hw⟩
  · exact ⟨none, 0, 0, [], hc, Rd.nil _ _, rfl⟩
  · by_cases h0 : cap' = 0
    · subst h0
      obtain rfl : len' = 0 := by omega
      exact ⟨some a', 0, 0, [], hc, Rd.empty _ _ _, rfl⟩
    · simp only [if_true] at hz
      have hspot : a'.spot = none := spot_add (spot_cell (hcell 0 (by omega)))
      obtain ⟨b, off, rfl⟩ : ∃ b off, a' = ⟨b, off, none⟩ := ⟨a'.block, a'.off, by cases a'; simp_all⟩
      refine ⟨_, len', cap', (List.range len').map fun i => UInt8.ofNat (zs.getD i 0).toNat, hc, rd_ints _ hl hm fun i hi => ?_, by simp⟩
      have h1 := hcell i (by omega)
      rw [Addr.add_mid] at h1
      rw [h1]
      have h2 := hw (zs.getD i 0) (by rw [List.getD_eq_getElem?_getD, List.getElem?_eq_getElem (by omega)]; exact List.getElem_mem _)
      simp only [Lit.wf, Bool.and_eq_true, decide_eq_true_eq] at h2
      have h3 : IntKind.u8.min = 0 := rfl
      have h4 : IntKind.u8.max = 255 := rfl
      have h5 : ((UInt8.ofNat (zs.getD i 0).toNat).toNat : Int) = zs.getD i 0 := by rw [UInt8.toNat_ofNat']; omega
      rw [h5]
theorem open_strsO {H : Type} {enc : TypeId × Value → H} {W : World} {fuel : Nat} {cs : List Value} {x : DataW H × List MemPlace}
    (h : DataW.trod enc Try.prog W 0 (fun _ => true) true fuel 22 cs = some x) : ∃ ao n c l, cs = [.slice ao n c] ∧ Rd W (.slice ao n c) 1 n (strsV l) ∧ l.length = n := by
  rcases open_slice Try.underlying22 h with ⟨hc, _⟩ | ⟨a', len, cap, m, n, D, Pl, hc, _, hl, hm, hmm, _, hx⟩
  · exact ⟨none, 0, 0, [], hc, Rd.nil _ _, rfl⟩
  · by_cases h0 : cap = 0
    · subst h0
      obtain rfl : len = 0 := by omega
      exact ⟨some a', 0, 0, [], hc, Rd.empty _ _ _, rfl⟩
    · simp only [if_true] at hmm
      rw [cellsOs] at hx
      have one : ∀ i, i < m → ∃ t : List UInt8, W.cell? ((a'.add (i * 1)).add 0) = some (strV t) := by
        intro i hi
        obtain ⟨cs', h1, h2⟩ := hx i hi
        obtain ⟨_, hlen, hcell⟩ := World.cells?_some h1
        obtain ⟨s, e, _⟩ := DataW.trod_string Try.underlying9 h2
        subst e
        exact ⟨s.data.toList, hcell 0 (by decide)⟩
      obtain ⟨t0, ht0⟩ := one 0 (by omega)
      have hspot : a'.spot = none := spot_add (spot_add (spot_cell ht0))
      obtain ⟨b, off, rfl⟩ : ∃ b off, a' = ⟨b, off, none⟩ := ⟨a'.block, a'.off, by cases a'; simp_all⟩
      obtain ⟨K, hK⟩ := choose_lt (α := List UInt8) (p := fun i t => W.cell? ⟨b, off + i, none⟩ = some (strV t)) (fun i hi => by
        obtain ⟨t, ht⟩ := one i hi
        rw [Addr.add_mid, Addr.add_mid, Nat.mul_one, Nat.add_zero] at ht
        exact ⟨t, ht⟩)
      refine ⟨_, len, cap, (List.range len).map K, hc, Rd.mk hl hm (by simp [strsV]) (fun k v hk => ?_), by simp⟩
      rw [strsV, List.getElem?_map, List.getElem?_map] at hk
      by_cases hi : k < len
      · rw [List.getElem?_range hi] at hk
        simp at hk
        subst hk
        exact hK k (by omega)
      · rw [List.getElem?_eq_none (by simpa using hi)] at hk
        simp at hk
/-- What is known of an order that was handed in. -/
def OV.In (o : OV) (W : World) (al ab : Option Addr) (nl cl nb cb : Nat) : Prop := Rd W (.slice al nl cl) 1 nl (strsV o.l) ∧ Rd W (.slice ab nb cb) 1 nb (bytesV o.b) ∧ o.l.length = nl ∧ o.b.length = nb ∧
  (-9223372036854775808 ≤ o.op ∧ o.op ≤ 9223372036854775807) ∧ (-9223372036854775808 ≤ o.n ∧ o.n ≤ 9223372036854775807) ∧ (-9223372036854775808 ≤ o.m ∧ o.m ≤ 9223372036854775807)
theorem open_order {H : Type} {enc : TypeId × Value → H} {W : World} {base fuel : Nat} {v : Value} {x : DataW H × List MemPlace} (hv : Value.okWide Try.prog W .any base 25 v)
    (h : DataW.trod enc Try.prog W 0 (fun _ => true) true fuel 25 v.cells.toList = some x) : ∃ (o : OV) (al ab : Option Addr) (nl cl nb cb : Nat), v = .agg (o.cells (.slice al nl cl) (.slice ab nb cb)).toArray ∧ o.In W al ab nl cl nb cb := by
  unfold Value.okWide at hv
  rw [Try.underlying25] at hv
  obtain ⟨cs, rfl, hsz, _⟩ := hv
  rw [cellsOo] at hsz
  obtain ⟨L, rfl⟩ : ∃ L : List Value, cs = L.toArray := ⟨cs.toList, rfl⟩
  have hL : L.length = 7 := by simpa using hsz
  match L, hL with
  | [a, b, c, d, e, f, g], _ =>
    obtain ⟨xs, n, _, _, _, hlen, hf⟩ := DataW.trod_struct Try.underlying25 h
    match xs, hlen with
    | [y0, y1, y2, y3, y4, y5, y6], _ =>
      have h0 := hf 0 _ rfl
      have h1 := hf 1 _ rfl
      have h2 := hf 2 _ rfl
      have h3 := hf 3 _ rfl
      have h4 := hf 4 _ rfl
      have h5 := hf 5 _ rfl
      have h6 := hf 6 _ rfl
      simp only [Value.cells, cellsOi, cellsOs, cellsOb, cellsOl, List.drop_zero, List.drop_succ_cons, List.take_succ_cons, List.take_zero] at h0 h1 h2 h3 h4 h5 h6
      obtain ⟨z0, e0, _, w0⟩ := DataW.trod_int Try.underlying3 h0
      obtain ⟨s1, e1, _⟩ := DataW.trod_string Try.underlying9 h1
      obtain ⟨s2, e2, _⟩ := DataW.trod_string Try.underlying9 h2
      obtain ⟨z3, e3, _, w3⟩ := DataW.trod_int Try.underlying3 h3
      obtain ⟨z4, e4, _, w4⟩ := DataW.trod_int Try.underlying3 h4
      obtain ⟨al, nl, cl, l, e5, hl, hnl⟩ := open_strsO h5
      obtain ⟨ab, nb, cb, bs, e6, hb, hnb⟩ := open_bytesO h6
      cases e0; cases e1; cases e2; cases e3; cases e4; cases e5; cases e6
      exact ⟨⟨z0, z3, z4, s1.data.toList, s2.data.toList, l, bs⟩, al, ab, nl, cl, nb, cb, rfl, hl, hb, hnl, hnb, i64_wfO w0, i64_wfO w3, i64_wfO w4⟩
end Go.Proofs.Ytalfdcfcaamnbaa
namespace Go.Proofs.Ytalfdcfcaamnbaa
set_option linter.unusedVariables false
set_option linter.unusedSimpArgs false
open Go.ChangeShapes Go.WideShapes Go.ChangeAt Go.RowKit Go.Deep Go.Lib Go.Joins Hp
set_option maxRecDepth 100000
theorem cellsRr : Try.prog.cellsOf 49 = 3 := by kernel_rfl
theorem cellsRe : Try.prog.cellsOf 29 = 1 := by kernel_rfl
theorem cellsRn : Try.prog.cellsOf 47 = 1 := by kernel_rfl
theorem open_intsR {H : Type} {enc : TypeId × Value → H} {W : World} {fuel : Nat} {cs : List Value} {x : DataW H × List MemPlace}
    (h : DataW.trod enc Try.prog W 0 (fun _ => true) true fuel 47 cs = some x) : ∃ ao n c l, cs = [.slice ao n c] ∧ Rd W (.slice ao n c) 1 n (intsV l) ∧ l.length = n ∧ ∀ t ∈ l, -9223372036854775808 ≤ t ∧ t ≤ 9223372036854775807 := by
  rcases open_ints Try.underlying47 Try.underlying3 (by kernel_rfl) h with ⟨hc, _⟩ | ⟨a', len', cap', zs, hc, _, hl, hm, hz, _, hcell, hw⟩
  · exact ⟨none, 0, 0, [], hc, Rd.nil _ _, rfl, by simp⟩
  · by_cases h0 : cap' = 0
    · subst h0
      obtain rfl : len' = 0 := by omega
      exact ⟨some a', 0, 0, [], hc, Rd.empty _ _ _, rfl, by simp⟩
    · simp only [if_true] at hz
      have hspot : a'.spot = none := spot_add (spot_cell (hcell 0 (by omega)))
      obtain ⟨b, off, rfl⟩ : ∃ b off, a' = ⟨b, off, none⟩ := ⟨a'.block, a'.off, by cases a'; simp_all⟩
      refine ⟨_, len', cap', (List.range len').map fun i => zs.getD i 0, hc, Rd.mk hl hm (by simp [intsV]) (fun k v hk => ?_), by simp, fun t ht => ?_⟩
      · rw [intsV, List.getElem?_map, List.getElem?_map] at hk
        by_cases hi : k < len'
        · rw [List.getElem?_range hi] at hk
          simp only [Option.map_some, Option.some.injEq] at hk
          subst hk
          have h1 := hcell k (by omega)
          rw [Addr.add_mid] at h1
          exact h1
        · rw [List.getElem?_eq_none (by simpa using hi)] at hk
          simp at hk
      · obtain ⟨i, hi, rfl⟩ := List.mem_map.1 ht
        have hi2 := List.mem_range.1 hi
        exact i64_wfO (hw (zs.getD i 0) (by rw [List.getD_eq_getElem?_getD, List.getElem?_eq_getElem (by omega)]; exact List.getElem_mem _))
/-- What is known of a reply that was handed in. -/
def RV.In (r : RV) (W : World) (an ab : Option Addr) (nn cn nb cb : Nat) : Prop := Rd W (.slice an nn cn) 1 nn (intsV r.n) ∧ Rd W (.slice ab nb cb) 1 nb (bytesV r.b) ∧ r.n.length = nn ∧ r.b.length = nb ∧
  (-9223372036854775808 ≤ r.err ∧ r.err ≤ 9223372036854775807) ∧ ∀ t ∈ r.n, -9223372036854775808 ≤ t ∧ t ≤ 9223372036854775807
theorem open_reply {H : Type} {enc : TypeId × Value → H} {W : World} {base fuel : Nat} {v : Value} {x : DataW H × List MemPlace} (hv : Value.okWide Try.prog W .any base 49 v)
    (h : DataW.trod enc Try.prog W 0 (fun _ => true) true fuel 49 v.cells.toList = some x) : ∃ (r : RV) (an ab : Option Addr) (nn cn nb cb : Nat), v = .agg (r.cells (.slice an nn cn) (.slice ab nb cb)).toArray ∧ r.In W an ab nn cn nb cb := by
  unfold Value.okWide at hv
  rw [Try.underlying49] at hv
  obtain ⟨cs, rfl, hsz, _⟩ := hv
  rw [cellsRr] at hsz
  obtain ⟨L, rfl⟩ : ∃ L : List Value, cs = L.toArray := ⟨cs.toList, rfl⟩
  have hL : L.length = 3 := by simpa using hsz
  match L, hL with
  | [a, b, c], _ =>
    obtain ⟨xs, n, _, _, _, hlen, hf⟩ := DataW.trod_struct Try.underlying49 h
    match xs, hlen with
    | [y0, y1, y2], _ =>
      have h0 := hf 0 _ rfl
      have h1 := hf 1 _ rfl
      have h2 := hf 2 _ rfl
      simp only [Value.cells, cellsRe, cellsRn, cellsOb, List.drop_zero, List.drop_succ_cons, List.take_succ_cons, List.take_zero] at h0 h1 h2
      obtain ⟨z0, e0, _, w0⟩ := DataW.trod_int Try.underlying29 h0
      obtain ⟨an, nn, cn, l, e1, hl, hnn, ht⟩ := open_intsR h1
      obtain ⟨ab, nb, cb, bs, e2, hb, hnb⟩ := open_bytesO h2
      cases e0; cases e1; cases e2
      exact ⟨⟨z0, l, bs⟩, an, ab, nn, cn, nb, cb, rfl, hl, hb, hnn, hnb, i64_wfO w0, ht⟩
end Go.Proofs.Ytalfdcfcaamnbaa
namespace Go.Proofs.Ytalfdcfcaamnbaa
set_option linter.unusedVariables false
set_option linter.unusedSimpArgs false
open Go.ChangeShapes Go.WideShapes Go.ChangeAt Go.RowKit Hp
set_option maxRecDepth 100000 in
theorem orderReplied_lifted (os : Os) (started : os.Started) (H : Type) (enc : TypeId × Value → H) :
    ReturnsInHanded {} Try.checked os 8 .any (Rows.orderRepliedSpec.pre6 enc Try.prog Try.f8 Rows.orderRepliedRow.domain false) (Rows.orderRepliedSpec.post enc Try.prog Try.f8 false true false false) := by
  refine returnsInHanded_of_change (C := Try.checked) own started (by kernel_rfl) Try.func8
    (ChangeSpec.witness6 (enc := enc) (C := Try.checked) false ⟨#[], #[.agg #[.int .i64 0, .slice none 0 0, .slice none 0 0], .slice none 0 0], []⟩ 8 (by kernel_rfl) (by kernel_rfl) (by kernel_rfl) (by kernel_rfl)) ?_
  intro W base args ds gs before hval0 hW hcnd _
  have hval : ∀ (j : Nat) t v, Try.f8.params[j]? = some t → args[j]? = some v → Value.okWide Try.prog W .any base t v := hval0
  have hW' := hW
  obtain ⟨p, q, hAA0, hV, rfl, hfz, hnd⟩ := hW
  have hA : DataW.TrodAll enc Try.prog W 0 (fun _ => true) true Try.f8.params.toList args.toList ds p := hAA0
  rw [Try.params8] at hA hval
  have hk := hA
  obtain ⟨v0, v1, d0, d1, p0, p1, rfl, rfl, rfl, h0, h1⟩ := trodAll_two hA
  obtain ⟨rfl, rfl⟩ := trodVars_none hV
  obtain ⟨n0, h0⟩ := h0
  obtain ⟨r0, an0, ab0, nn0, cn0, nb0, cb0, rfl, hA0⟩ := open_reply (hval 0 _ v0 rfl rfl) h0
  obtain ⟨n1, h1⟩ := h1
  obtain ⟨ao1, n1, c1, bs1, rfl, hA1, hn1⟩ := open_bytes (hval 1 _ v1 rfl rfl) h1
  clear hAA0 hval0
  simp only [List.append_nil] at hW'
  refine (replied_law r0 an0 ab0 nn0 cn0 nb0 cb0 ao1 n1 c1 bs1 W hA0.1 hA0.2.1 hA0.2.2.1 hA0.2.2.2.1 hA1 hn1 hA0.2.2.2.2.1 hA0.2.2.2.2.2).mono fun e W' ⟨he, hg⟩ => ?_
  subst he
  exact ⟨_, rfl, post_of_kept (pv := []) hW' (fun _ _ _ => (trodAll_cons_mk (shut_bool Try.underlying4 _) trodAll_mk0)) (fun sp hsp => by
      rw [Try.params8]
      exact args_kept (by decide) hk hg.below (fun p hp => hW'.lt p hp) sp hsp) (fun _ _ => rfl) (by simp)
    (hg.below.frame _)⟩
theorem orderReplied_over : Rows.orderRepliedRow.holds Try.pinned (OpenSpec.ofChange Rows.orderRepliedSpec) :=
  OpenClaim.holds_of_wide 8 Try.f8 rfl rfl rfl rfl rfl rfl rfl ⟨rfl, rfl, rfl, rfl, rfl⟩ rfl rfl rfl rfl rfl (by kernel_rfl) Try.func8 (by kernel_rfl)
    (of_decide_eq_true (by kernel_rfl)) (by unfold Func.isWrapper; first | (rw [if_pos (by decide +kernel)]; kernel_rfl) | (rw [if_neg (by decide +kernel)]; exact ⟨rfl, rfl⟩))
    (fun os started H enc _ => orderReplied_lifted os started H enc)

theorem orderReplied_proved : Rows.OrderRepliedSaid :=
  orderReplied_over
end Go.Proofs.Ytalfdcfcaamnbaa
