/- PROVED: the law MirrorFits returns true at any input, and nothing that was there has turned. No condition. -/
import Derived.Test.YtmdfbdfijnmhkaaGreatJMirrorFitse
import Derived.Test.YtmdfbdfijnmhkaaGreatJMirrorFitsb
import Derived.Test.YtmdfbdfijnmhkaaGreatJMirrorFitsa
import Derived.Test.YtmdfbdfijnmhkaaGreatKTy
import Derived.Test.YtmdfbdfijnmhkaaGreatSepQ
import Derived.IntWalk
import Derived.Test.YtmdfbdfijnmhkaaGreatPost
import Derived.Test.YtmdfbdfijnmhkaaGreatOpenC
namespace Go.Proofs.YtmdfbdfijnmhkaaGreat
set_option linter.unusedVariables false
set_option linter.unusedSimpArgs false
open Go.RowKit Hp
attribute [local irreducible] Go.Calls Go.wpList
set_option maxRecDepth 100000
set_option maxHeartbeats 4000000
theorem wrote_good {m : MV} {b : List UInt8} : ∀ {l : List (Int × Int)} {a : AR} {k N : Nat}, MGood (m.withA a) N → MGood (m.withA (wrote16 b a k l).a) (N + l.length)
  | [], a, k, N, h => by
    unfold wrote16 some16
    split <;> exact h
  | z :: l, a, k, N, h => by
    have h1 : MGood (m.withA (a.write z.1 z.2 b)) (N + 1) := h.arr (h.sc.ok.write _ _ _) (Stays.write _ _ _ _)
    rw [show N + (z :: l).length = N + 1 + l.length by rw [List.length_cons]; omega]
    unfold wrote16
    split
    · exact wrote_good h1
    · split
      · exact h1.mono (Nat.le_add_right _ _)
      · exact wrote_good h1
theorem put_good {m : MV} {N : Nat} (h : MGood m N) (l : List (Int × Int)) (b : List UInt8) : MGood (m.withA (m.put l b).a) (N + l.length) := by
  unfold MV.put
  split
  · exact wrote_good h
  · exact MGood.mono h (Nat.le_add_right _ _)
theorem made16_any (w : World) : Calls Tryz.prog 9 #[] w fun e w' => ∃ gm ga x gs, e = .returned (.tuple #[.pointer (some ⟨ga, 0, none⟩), PM gm]) ∧ gs.length = 3 ∧ St w [] w' (mP gm ga x ⟨newA 8 gs, zeroE⟩) := by
  have hst0 := St.refl w
  go_enter Tryz.func9, Tryz.ntmps9
  go_wp2_with (first | go_big_skip | go_big_guard | (go_at_call 28; refine (newM_any 3 8 (by decide) (by decide) _).mono ?_; rintro _ w1 ⟨ga, x, gs, rfl, hgl, h4⟩; have hst1 : St w [] w1 (arP ga x (newA 8 gs) ++ []) := St.call hst0 h4; have HGL := hid hgl; clear h4 hgl hst0) | (go_at_call 30; refine (mirNew_any hst1 (by intro h; have h2 := congrArg List.length h; rw [show (newA 8 gs).devs.length = 3 from (List.length_map _).trans HGL.out] at h2; cases h2)).mono ?_; rintro _ w2 ⟨gm, rfl, h4⟩; have hst2 : St w [] w2 (mP gm ga x ⟨newA 8 gs, zeroE⟩) := (by rw [List.append_nil] at h4; exact h4); clear h4 hst1; unfold PM))
  go_ret2
  exact ⟨gm, ga, x, gs, rfl, HGL.out, hst2⟩
section
theorem loadedPt2 (A : Addr) : loadVar 34 A = loadVarH 34 A := rfl
attribute [local go_sem ↓] loadedPt2 loadedAs8
theorem puts_any {w0 w : World} {M : List Nat} {R : List HA} {gm ga : Nat} {x : GA} {m : MV} {N : Nat} (hS : St w0 M w (mP gm ga x m ++ R)) (hg : MGood m N) (ao : Option Addr) (n c : Nat) (l : List (Int × Int)) (b v : Int) (S : List UInt8) (hL : L32 S) (hA : ∀ w, St w0 M w R → Rd w (.slice ao n c) 2 n (addrsV l)) (hn : l.length = n) (bo : Option Addr) (bn bc : Nat) (bs : List UInt8) (hb : GB w0 M R (.slice bo bn bc) bn bs) (hN : N + n ≤ 800000) (A1 A2 : AR) (h1 : m.put l bs = ⟨0, n, A1⟩) (h2 : (m.withA A1).flush = ⟨0, 3, A2⟩) :
    Calls Tryz.prog 13 #[PM gm, .agg (ptrCells (.slice ao n c) b v S).toArray, .slice bo bn bc] w fun e w' => ∃ x', e = .returned (.bool true) ∧ St w0 M w' (mP gm ga x' (m.withA A2) ++ R) := by
  have hst := hS
  have HG := hid hg
  have HL := hid hL
  have HN := hid hn
  have HA := hid hA
  have HB := hid hb
  have HG2 := hid (show MGood (m.withA A1) (N + n) from by have := put_good hg l bs; rw [h1, hn] at this; exact this)
  have H1 := hid h1
  have H2 := hid h2
  clear hS hg hL hn hA hb h1 h2
  unfold PM
  go_enter Tryz.func13, Tryz.ntmps13
  go_wp2_with (first | go_big_skip | go_big_guard | (refine wl_boxA hst rfl rfl rfl ?_; intro g3 w1 hst0; clear hst; have hst1 : St w0 M w1 (mP gm ga x m ++ (.blk g3 34 (ptrCells (.slice ao n c) b v S) :: R)) := St.behind (A := mP gm ga x m) hst0; clear hst0) | (refine wl_loadE rfl rfl rfl ?_; first | refine ⟨_, Loads.at (P := Tryz.prog) [] hst0 rfl, ?_⟩ | refine ⟨_, Loads.blk (P := Tryz.prog) hst1 TyS.out (List.mem_append_right _ (.head _)) rfl, ?_⟩ | refine ⟨_, Loads.blk (P := Tryz.prog) hst2 TyS.out (List.mem_append_right _ (.head _)) rfl, ?_⟩ | refine ⟨_, Loads.blk (P := Tryz.prog) hst3 TyS.out (List.mem_append_right _ (.head _)) rfl, ?_⟩) | (go_at_call 24; have HC := put_any hst1 HG.out ao n c l (fun w h => HA.out w (St.sub h (List.sublist_cons_self _ _))) HN.out bo bn bc bs (GB.more (P := [_]) HB.out) (by omega); rw [H1.out] at HC; refine HC.mono ?_; clear HC; rintro _ w2 ⟨x2, rfl, h4⟩; have hst2 := h4; clear h4 hst1) | (go_at_call 26; have HC := mflush_any hst2 HG2.out hN; rw [H2.out] at HC; refine HC.mono ?_; clear HC; rintro _ w3 ⟨x3, rfl, h4⟩; have hst3 : St w0 M w3 (mP gm ga x3 (m.withA A2) ++ _) := h4; clear h4 hst2))
  go_ret
  exact ⟨x3, rfl, sub_x hst3⟩
theorem gets_any {w0 w : World} {M : List Nat} {R : List HA} {gm ga : Nat} {x : GA} {m : MV} {N : Nat} (hS : St w0 M w (mP gm ga x m ++ R)) (hg : MGood m N) (ao : Option Addr) (n c : Nat) (l : List (Int × Int)) (b v : Int) (S : List UInt8) (hL : L32 S) (hA : ∀ w, St w0 M w R → Rd w (.slice ao n c) 2 n (addrsV l)) (hn : l.length = n) (bo : Option Addr) (bn bc : Nat) (bs : List UInt8) (hb : GB w0 M R (.slice bo bn bc) bn bs) (hN : N + 2 * n ≤ 900000) (hbn : bn ≤ 100000) (m' : MV) (h1 : m.get (PVof ao n c l b v S) = ⟨0, bs, m'⟩) :
    Calls Tryz.prog 25 #[PM gm, .agg (ptrCells (.slice ao n c) b v S).toArray, .slice bo bn bc] w fun e w' => ∃ x', e = .returned (.bool true) ∧ St w0 M w' (mP gm ga x' m' ++ R) := by
  have hst := hS
  have HG := hid hg
  have HL := hid hL
  have HN := hid hn
  have HA := hid hA
  have HB := hid hb
  have H1 := hid h1
  clear hS hg hL hn hA hb h1
  unfold PM
  go_enter Tryz.func25, Tryz.ntmps25
  go_wp2_with (first | go_big_skip | go_big_guard | (refine wl_boxA hst rfl rfl rfl ?_; intro g3 w1 hst0; clear hst; have hst1 : St w0 M w1 (mP gm ga x m ++ (.blk g3 34 (ptrCells (.slice ao n c) b v S) :: R)) := St.behind (A := mP gm ga x m) hst0; clear hst0) | (refine wl_loadE rfl rfl rfl ?_; refine ⟨_, Loads.blkA (P := Tryz.prog) (T := 34) (vs := ptrCells (.slice ao n c) b v S) hst1 (by rw [ptr_len HL.out]; exact TyA.out) (List.mem_append_right _ (.head _)) (ptr_all _ _ _ _), ?_⟩) | (go_at_call 22; have HC := get_any hst1 HG.out ao n c l b v S HL.out HN.out (fun w h => HA.out w (St.sub h (List.sublist_cons_self _ _))) hN; rw [H1.out] at HC; refine HC.mono ?_; clear HC; rintro _ w2 ⟨u, x2, rfl, h4⟩; obtain ⟨ua, uc, rfl⟩ := St.rowPSlice [] h4; have hst2 := h4; clear h4 hst1) | (go_at_call 18; refine (sameBytes_any _ _ _ _ bs bs _ (Rd.rowP hst2 (.head _)) (HB.out.rd _ (St.sub hst2 (.cons _ ((List.sublist_cons_self _ _).trans (List.sublist_append_right _ _)))))).mono ?_; rw [beq_self_eq_true]; rintro _ w3 ⟨rfl, h4⟩; have hst3 := St.call0 hst2 h4; clear h4 hst2))
  go_ret
  exact ⟨x2, rfl, sub_x (St.tl hst3)⟩
end
end Go.Proofs.YtmdfbdfijnmhkaaGreat
namespace Go.Proofs.YtmdfbdfijnmhkaaGreat
set_option linter.unusedVariables false
set_option linter.unusedSimpArgs false
open Go.RowKit Hp
set_option maxRecDepth 100000
set_option maxHeartbeats 4000000
def dk (g : Nat) (s : List UInt8) : DV := ⟨g, [sect 0, sect 0, sect 0, sect 0, sect 0, s, sect 0, sect 0], false, false, false, 0, 0⟩
def AK (p q r : Nat) (a b c : List UInt8) (L : List LW) (st : Int) : AR := ⟨[dk p a, dk q b, dk r c], L, -1, false, st⟩
theorem newA_ak (p q r : Nat) : newA 8 [p, q, r] = AK p q r (sect 0) (sect 0) (sect 0) [] 0 := by kernel_rfl
theorem ak_rE0 (p q r : Nat) (a b c : List UInt8) (L : List LW) (st : Int) : (AK p q r a b c L st).readE 0 5 = 0 := by kernel_rfl
theorem ak_rd0 (p q r : Nat) (a b c : List UInt8) (L : List LW) (st : Int) : (AK p q r a b c L st).read 0 5 = AK p q r a b c L st := by kernel_rfl
theorem ak_rB0 (p q r : Nat) (a b c : List UInt8) (L : List LW) (st : Int) : (AK p q r a b c L st).readB 0 5 = L.foldl (pickW 0 5) a := by kernel_rfl
theorem ak_rE1 (p q r : Nat) (a b c : List UInt8) (L : List LW) (st : Int) : (AK p q r a b c L st).readE 1 5 = 0 := by kernel_rfl
theorem ak_rd1 (p q r : Nat) (a b c : List UInt8) (L : List LW) (st : Int) : (AK p q r a b c L st).read 1 5 = AK p q r a b c L st := by kernel_rfl
theorem ak_rB1 (p q r : Nat) (a b c : List UInt8) (L : List LW) (st : Int) : (AK p q r a b c L st).readB 1 5 = L.foldl (pickW 1 5) b := by kernel_rfl
theorem ak_ask1 (p q r : Nat) (a b c : List UInt8) (L : List LW) (st : Int) (e : List ER) (ao : Option Addr) (cc : Nat) (S : List UInt8) : (⟨AK p q r a b c L st, e⟩ : MV).askE (PVof ao 1 cc (onDevs 1) 1 0 S) = 0 := by kernel_rfl
theorem ak_put1 (p q r : Nat) (a b c : List UInt8) (st : Int) (e : List ER) (x : UInt8) : (⟨AK p q r a b c [] st, e⟩ : MV).put (onDevs 1) (sect x) = ⟨0, 1, AK p q r a b c [⟨0, 5, sect x⟩] (st + 1)⟩ := by kernel_rfl
theorem ak_flush1 (p q r : Nat) (a b c : List UInt8) (st : Int) (e : List ER) (x : UInt8) : (⟨AK p q r a b c [⟨0, 5, sect x⟩] st, e⟩ : MV).flush = ⟨0, 3, AK p q r (sect x) b c [] (st + 1 + 1 + 1)⟩ := by kernel_rfl
theorem ak_ask2 (p q r : Nat) (a b c : List UInt8) (L : List LW) (st : Int) (e : List ER) (ao : Option Addr) (cc : Nat) (S : List UInt8) : (⟨AK p q r a b c L st, e⟩ : MV).askE (PVof ao 2 cc (onDevs 2) 1 0 S) = 0 := by kernel_rfl
theorem ak_put2 (p q r : Nat) (a b c : List UInt8) (st : Int) (e : List ER) (x : UInt8) : (⟨AK p q r a b c [] st, e⟩ : MV).put (onDevs 2) (sect x) = ⟨0, 2, AK p q r a b c [⟨0, 5, sect x⟩, ⟨1, 5, sect x⟩] (st + 1 + 1)⟩ := by kernel_rfl
theorem ak_flush2 (p q r : Nat) (a b c : List UInt8) (st : Int) (e : List ER) (x : UInt8) : (⟨AK p q r a b c [⟨0, 5, sect x⟩, ⟨1, 5, sect x⟩] st, e⟩ : MV).flush = ⟨0, 3, AK p q r (sect x) (sect x) c [] (st + 1 + 1 + 1)⟩ := by kernel_rfl
theorem ak_ask3 (p q r : Nat) (a b c : List UInt8) (L : List LW) (st : Int) (e : List ER) (ao : Option Addr) (cc : Nat) (S : List UInt8) : (⟨AK p q r a b c L st, e⟩ : MV).askE (PVof ao 3 cc (onDevs 3) 1 0 S) = 0 := by kernel_rfl
theorem ak_put3 (p q r : Nat) (a b c : List UInt8) (st : Int) (e : List ER) (x : UInt8) : (⟨AK p q r a b c [] st, e⟩ : MV).put (onDevs 3) (sect x) = ⟨0, 3, AK p q r a b c [⟨0, 5, sect x⟩, ⟨1, 5, sect x⟩, ⟨2, 5, sect x⟩] (st + 1 + 1 + 1)⟩ := by kernel_rfl
theorem ak_flush3 (p q r : Nat) (a b c : List UInt8) (st : Int) (e : List ER) (x : UInt8) : (⟨AK p q r a b c [⟨0, 5, sect x⟩, ⟨1, 5, sect x⟩, ⟨2, 5, sect x⟩] st, e⟩ : MV).flush = ⟨0, 3, AK p q r (sect x) (sect x) (sect x) [] (st + 1 + 1 + 1)⟩ := by kernel_rfl
theorem kind_good {m : MV} {dev pl : Int} {S : List UInt8} (h1 : m.a.readE dev pl = 0) (h2 : sumB (m.a.readB dev pl) = S) : m.kind dev pl S = 0 := by
  unfold MV.kind
  rw [h1, if_neg (by decide), if_neg (by simp), if_pos h2]
theorem kind_ill {m : MV} {dev pl : Int} {S : List UInt8} (h1 : m.a.readE dev pl = 0) (h2 : sumB (m.a.readB dev pl) ≠ S) : m.kind dev pl S = 1 := by
  unfold MV.kind
  rw [h1, if_neg (by decide), if_neg (by simp), if_neg h2]
theorem lookd_good {m : MV} {dev pl : Int} {S : List UInt8} (h1 : m.a.readE dev pl = 0) (h2 : sumB (m.a.readB dev pl) = S) (h3 : m.a.read dev pl = m.a) : m.looked dev pl S = m := by
  unfold MV.looked
  rw [kind_good h1 h2, h1, if_neg (by decide), if_neg (by decide), h3]
theorem lookd_ill {m : MV} {dev pl : Int} {S : List UInt8} (h1 : m.a.readE dev pl = 0) (h2 : sumB (m.a.readB dev pl) ≠ S) (h3 : m.a.read dev pl = m.a) : m.looked dev pl S = ⟨m.a, m.e.modify dev.toNat fSm⟩ := by
  unfold MV.looked
  rw [kind_ill h1 h2, h1, if_neg (by decide), if_pos rfl, h3]
theorem found_hit {m : MV} {S : List UInt8} {but : Int} {x : Int × Int} {l ill : List (Int × Int)} (hb : x.1 ≠ but) (h1 : m.a.readE x.1 x.2 = 0) (h2 : sumB (m.a.readB x.1 x.2) = S) (h3 : m.a.read x.1 x.2 = m.a) : found S but m (x :: l) ill = ⟨0, m.a.readB x.1 x.2, ill, m⟩ := by
  conv => lhs; unfold found
  rw [if_neg hb, if_pos (kind_good h1 h2), lookd_good h1 h2 h3]
  unfold MV.lookB
  rw [if_pos (kind_good h1 h2)]
theorem found_miss {m : MV} {S : List UInt8} {but : Int} {x : Int × Int} {l ill : List (Int × Int)} (hb : x.1 ≠ but) (h1 : m.a.readE x.1 x.2 = 0) (h2 : sumB (m.a.readB x.1 x.2) ≠ S) (h3 : m.a.read x.1 x.2 = m.a) : found S but m (x :: l) ill = found S but ⟨m.a, m.e.modify x.1.toNat fSm⟩ l (ill ++ [x]) := by
  conv => lhs; unfold found
  rw [if_neg hb, kind_ill h1 h2, if_neg (by decide), if_pos rfl, lookd_ill h1 h2 h3]
theorem found_but {m : MV} {S : List UInt8} {but : Int} {x : Int × Int} {l ill : List (Int × Int)} (hb : x.1 = but) : found S but m (x :: l) ill = found S but m l ill := by
  conv => lhs; unfold found
  rw [if_pos hb]
theorem get_eq {m m' : MV} {P : PV} {B : List UInt8} {ill : List (Int × Int)} (ha : m.askE P = 0) (hf : found P.S (-1) m P.l [] = ⟨0, B, ill, m'⟩) : m.get P = ⟨0, B, m'.heals ill B⟩ := by
  unfold MV.get
  rw [ha, if_neg (by simp), hf, if_neg (by simp)]
def spo (s : List UInt8) (place : Nat) (m : UInt8) : List UInt8 := s.set place (s.getD place 0 ^^^ m)
def W2 (p q r : Nat) : MV := ⟨AK p q r (sect 2) (sect 2) (sect 0) [] 5, zeroE⟩
def W3 (p q r : Nat) : MV := ⟨AK p q r (spo (sect 2) 0 1) (sect 2) (sect 0) [] 5, zeroE⟩
def W4 (p q r : Nat) : MV := ⟨AK p q r (spo (sect 2) 0 1) (sect 2) (sect 0) [⟨0, 5, sect 2⟩] 6, [⟨0, 1, 1⟩, ⟨0, 0, 0⟩, ⟨0, 0, 0⟩, ⟨0, 0, 0⟩, ⟨0, 0, 0⟩, ⟨0, 0, 0⟩, ⟨0, 0, 0⟩, ⟨0, 0, 0⟩]⟩
theorem spo_bad : sumB (spo (sect 2) 0 1) ≠ sumB (sect 2) := by decide +kernel
theorem w2_get (p q r : Nat) (ao : Option Addr) (c : Nat) {S : List UInt8} (hS : sumB (sect 2) = S) : (W2 p q r).get (PVof ao 2 c (onDevs 2) 1 0 S) = ⟨0, sect 2, W2 p q r⟩ :=
  get_eq (ak_ask2 ..) (found_hit (x := (0, 5)) (l := [(1, 5)]) (by decide) (ak_rE0 ..) ((congrArg sumB (show (W2 p q r).a.readB 0 5 = sect 2 from ak_rB0 ..)).trans hS) (ak_rd0 ..))
theorem w2_spoil (p q r : Nat) : (W2 p q r).a.spoil 0 5 0 1 = (W3 p q r).a := by kernel_rfl
theorem w2_spoilE (p q r : Nat) : (W2 p q r).a.spoilE 0 5 0 = 0 := by kernel_rfl
theorem w3_get (p q r : Nat) (ao : Option Addr) (c : Nat) {S : List UInt8} (hS : sumB (sect 2) = S) : (W3 p q r).get (PVof ao 2 c (onDevs 2) 1 0 S) = ⟨0, sect 2, W4 p q r⟩ := by
  have h1 : found S (-1) (W3 p q r) (onDevs 2) [] = ⟨0, sect 2, [(0, 5)], ⟨(W3 p q r).a, (W3 p q r).e.modify 0 fSm⟩⟩ := by
    refine (found_miss (x := (0, 5)) (l := [(1, 5)]) (by decide) (ak_rE0 ..) (by rw [show (W3 p q r).a.readB 0 5 = spo (sect 2) 0 1 from ak_rB0 .., ← hS]; exact spo_bad) (ak_rd0 ..)).trans ?_
    exact found_hit (x := (1, 5)) (l := []) (by decide) (ak_rE1 ..) ((congrArg sumB (show (W3 p q r).a.readB 1 5 = sect 2 from ak_rB1 ..)).trans hS) (ak_rd1 ..)
  refine (get_eq (ak_ask2 ..) h1).trans ?_
  kernel_rfl
theorem w4_rE (p q r : Nat) : (W4 p q r).a.readE 0 5 = 0 := ak_rE0 ..
theorem w4_rB (p q r : Nat) : (W4 p q r).a.readB 0 5 = sect 2 := by kernel_rfl
theorem w4_rd (p q r : Nat) : (W4 p q r).a.read 0 5 = (W4 p q r).a := ak_rd0 ..
theorem w4_e0 (p q r : Nat) : (W4 p q r).errs 0 = ⟨0, 1, 1⟩ := by kernel_rfl
theorem w4_e1 (p q r : Nat) : (W4 p q r).errs 1 = ⟨0, 0, 0⟩ := by kernel_rfl
end Go.Proofs.YtmdfbdfijnmhkaaGreat
namespace Go.Proofs.YtmdfbdfijnmhkaaGreat
set_option linter.unusedVariables false
set_option linter.unusedSimpArgs false
open Go.RowKit
namespace Hp
variable {P : Program}
theorem eqFields_ints {w : World} {q : IntKind} (d : Nat) (l k : List Int) : ∀ (fs : List Field) (s : Nat), (∀ i f, fs[i]? = some f → f.name ≠ "_" ∧ f.offset = s + i ∧ ∃ c, P.underlying f.type = some (.int c)) → l.length = s + fs.length → k.length = s + fs.length →
    (Op.eqFields (d + 1) (intsV q l).toArray (intsV q k).toArray fs).run P w = .ok (l.drop s == k.drop s) w
  | [], s, _, h1, h2 => by
    rw [List.drop_of_length_le (by simp at h1; omega), List.drop_of_length_le (by simp at h2; omega)]
    simp [Op.eqFields]
  | f :: fs, s, hall, h1, h2 => by
    obtain ⟨n1, o1, c, u1⟩ := hall 0 f rfl
    have ih := eqFields_ints (w := w) (q := q) d l k fs (s + 1) (fun i g hg => by
      have := hall (i + 1) g (by simpa using hg)
      rw [show s + 1 + i = s + (i + 1) by omega]; exact this) (by simp at h1; omega) (by simp at h2; omega)
    have hs1 : s < l.length := by simp at h1; omega
    have hs2 : s < k.length := by simp at h2; omega
    have hl : l.drop s = l.getD s 0 :: l.drop (s + 1) := by rw [List.drop_eq_getElem_cons hs1]; simp [List.getD, hs1]
    have hk : k.drop s = k.getD s 0 :: k.drop (s + 1) := by rw [List.drop_eq_getElem_cons hs2]; simp [List.getD, hs2]
    have hp : ∀ u : List Int, s < u.length → (part f.type (intsV q u).toArray s).run P w = .ok (.int q (u.getD s 0)) w := fun u hu =>
      run_part_int u1 (by simp [intsV, List.getD, hu])
    rw [hl, hk]
    simp only [Op.eqFields, n1, ne_eq, not_false_eq_true, if_true, Sem.run_bind, o1, Nat.add_zero, hp l hs1, hp k hs2, Result.andThen_ok, run_equalIn_int w d f.type q c _ _ u1]
    rw [List.cons_beq_cons]
    cases hb : (l.getD s 0 == k.getD s 0)
    · simp
    · simp [ih]
def siok (P : Program) (T : TypeId) (n : Nat) : Bool := match P.underlying T with
  | some (.struct fs) => fs.toList.length == n && ((List.range n).all (fun i => match fs.toList[i]? with
    | some f => f.name != "_" && f.offset == i && (match P.underlying f.type with | some (.int _) => true | _ => false)
    | none => false)) && !(P.stoodInHeld T) && !(P.eqGuardType P.depth T)
  | _ => false
class TySI (P : Program) (T : TypeId) (n : outParam Nat) : Prop where
  out : siok P T n = true
theorem si_spec {T : TypeId} {n : Nat} (h : siok P T n = true) : P.underlying T = some (.struct (P.fieldsOf T)) ∧ (P.fieldsOf T).toList.length = n ∧ (∀ i f, (P.fieldsOf T).toList[i]? = some f → f.name ≠ "_" ∧ f.offset = 0 + i ∧ ∃ c, P.underlying f.type = some (.int c)) ∧ P.stoodInHeld T = false ∧ P.eqGuardType P.depth T = false := by
  unfold siok at h
  cases hu : P.underlying T with
  | none => simp [hu] at h
  | some d =>
    cases d with
    | struct fs =>
      have hf : P.fieldsOf T = fs := by simp [Program.fieldsOf, hu]
      simp only [hu] at h
      rw [hf]
      simp only [Bool.and_eq_true, beq_iff_eq, Bool.not_eq_true'] at h
      obtain ⟨⟨⟨h1, h2⟩, h3⟩, h4⟩ := h
      refine ⟨rfl, h1, fun i f hi => ?_, h3, h4⟩
      have hlt := (List.getElem?_eq_some_iff.1 hi).1
      have := List.all_eq_true.1 h2 i (by rw [List.mem_range]; omega)
      rw [hi] at this
      simp only [Bool.and_eq_true, bne_iff_ne, ne_eq, beq_iff_eq] at this
      refine ⟨this.1.1, by omega, ?_⟩
      cases hk : P.underlying f.type with
      | none => simp [hk] at this
      | some q => cases q <;> first | (simp [hk] at this; done) | exact ⟨_, rfl⟩
    | _ => simp [hu] at h
theorem run_eqlSI {w : World} {T : TypeId} {n : Nat} {q : IntKind} [h : TySI P T n] (l k : List Int) (hl : l.length = n) (hk : k.length = n) :
    (binOp .eql T (.agg (intsV q l).toArray) (.agg (intsV q k).toArray)).run P w = .ok (.bool (l == k)) w := by
  obtain ⟨hu, h1, h2, h3, _⟩ := si_spec h.out
  rw [run_eql_struct, show (10000 : Nat) = 9999 + 1 from rfl, run_equalIn_struct w 9999 T _ _ hu h3, eqFields_ints 9998 l k _ 0 h2 (by omega) (by omega)]
  rfl
theorem run_guardSI {w : World} {T : TypeId} {n : Nat} [h : TySI P T n] (op : BinOp) (x y : Operand) (xs ys : Array Value) : (eqGuard op T x y (.agg xs) (.agg ys)).run P w = .ok () w := by
  obtain ⟨hu, h1, h2, h3, hg⟩ := si_spec h.out
  unfold eqGuard
  cases op <;> simp [Sem.run_bind, hg]
end Hp
end Go.Proofs.YtmdfbdfijnmhkaaGreat
namespace Go.Proofs.YtmdfbdfijnmhkaaGreat
set_option linter.unusedVariables false
set_option linter.unusedSimpArgs false
open Go.RowKit Hp
attribute [local irreducible] Go.Calls Go.wpList
set_option maxRecDepth 100000
set_option maxHeartbeats 8000000
theorem gb_sect {w0 : World} {M : List Nat} {R : List HA} {g : Nat} {b : UInt8} (hm : HA.blk g 5 (bytesV (sect b)) ∈ R) : GB w0 M R (.slice (some ⟨g, 0, none⟩) 256 256) 256 (sect b) :=
  GB.blk hm (sect_len b) (List.take_of_length_le (by rw [sect_len]; exact Nat.le_refl _)) (Nat.le_refl _) (by decide)
theorem dk_fine {g : Nat} {s : List UInt8} (h : s.length = 256) : (dk g s).Fine 8 := by
  refine ⟨rfl, fun t ht => ?_, (fun h => by cases h), Int.le_refl _, by show (0 : Int) ≤ _; decide⟩
  have h0 := sect_len 0
  simp only [dk, List.mem_cons, List.not_mem_nil, or_false] at ht
  rcases ht with rfl | rfl | rfl | rfl | rfl | rfl | rfl | rfl <;> assumption
theorem ak_ok {p q r : Nat} {a b c : List UInt8} {L : List LW} {st : Int} (ha : a.length = 256) (hb : b.length = 256) (hc : c.length = 256) (hL : ∀ w ∈ L, w.dev < 3 ∧ w.pl < 8 ∧ w.b.length = 256) : (AK p q r a b c L st).Ok := by
  refine ⟨(fun h => by cases h), by show 3 ≤ 8; decide, by show 8 ≤ 4096; decide, fun d hd => ?_, hL, ⟨Int.le_refl _, by show (-1 : Int) ≤ _; decide⟩⟩
  simp only [AK, List.mem_cons, List.not_mem_nil, or_false] at hd
  rcases hd with rfl | rfl | rfl
  · exact dk_fine ha
  · exact dk_fine hb
  · exact dk_fine hc
theorem ak_good {p q r : Nat} {a b c : List UInt8} {L : List LW} {st : Int} {e : List ER} {N : Nat} (ha : a.length = 256) (hb : b.length = 256) (hc : c.length = 256) (hL : ∀ w ∈ L, w.dev < 3 ∧ w.pl < 8 ∧ w.b.length = 256) (hs : 0 ≤ st ∧ st ≤ (N : Int)) (hl : L.length ≤ N) (he : e.length = 8) (hn : ∀ x ∈ e, 0 ≤ x.rd ∧ x.rd ≤ N ∧ 0 ≤ x.sm ∧ x.sm ≤ N ∧ 0 ≤ x.he ∧ x.he ≤ N) : MGood ⟨AK p q r a b c L st, e⟩ N :=
  ⟨⟨ak_ok ha hb hc hL, by show 8 ≤ 8; decide, hs, hl⟩, he, hn⟩
theorem spo_len {s : List UInt8} {k : Nat} {m : UInt8} (h : s.length = 256) : (spo s k m).length = 256 := by unfold spo; rw [List.length_set, h]
theorem zeroE_ok (N : Nat) : ∀ x ∈ zeroE, 0 ≤ x.rd ∧ x.rd ≤ N ∧ 0 ≤ x.sm ∧ x.sm ≤ N ∧ 0 ≤ x.he ∧ x.he ≤ N := by
  intro x hx
  rw [List.eq_of_mem_replicate hx]
  exact ⟨Int.le_refl _, Int.natCast_nonneg _, Int.le_refl _, Int.natCast_nonneg _, Int.le_refl _, Int.natCast_nonneg _⟩
def W0 (p q r : Nat) : MV := ⟨AK p q r (sect 0) (sect 0) (sect 0) [] 0, zeroE⟩
theorem w0_good (p q r : Nat) : MGood (W0 p q r) 10 := ak_good (sect_len _) (sect_len _) (sect_len _) (by simp) (by decide) (by decide) rfl (zeroE_ok _)
theorem w2_good (p q r : Nat) : MGood (W2 p q r) 10 := ak_good (sect_len _) (sect_len _) (sect_len _) (by simp) (by decide) (by decide) rfl (zeroE_ok _)
theorem w3_good (p q r : Nat) : MGood (W3 p q r) 10 := ak_good (spo_len (sect_len _)) (sect_len _) (sect_len _) (by simp) (by decide) (by decide) rfl (zeroE_ok _)
theorem w4_good (p q r : Nat) : MGood (W4 p q r) 10 := ak_good (spo_len (sect_len _)) (sect_len _) (sect_len _) (by intro w hw; rw [List.mem_singleton.1 hw]; exact ⟨by decide, by decide, sect_len _⟩) (by decide) (by decide) rfl (by
  intro x hx
  simp only [List.mem_cons, List.not_mem_nil, or_false] at hx
  rcases hx with rfl | rfl | rfl | rfl | rfl | rfl | rfl | rfl <;> decide)
instance sI16e : TySI Tryz.prog 71 3 := ⟨by kernel_rfl⟩
theorem eqlErr (a b c a' b' c' : Int) (w : World) : (binOp .eql 71 (.agg #[.int .i64 a, .int .i64 b, .int .i64 c]) (.agg #[.int .i64 a', .int .i64 b', .int .i64 c'])).run Tryz.prog w = .ok (.bool (([a, b, c] : List Int) == [a', b', c'])) w := run_eqlSI (P := Tryz.prog) (T := 71) (q := .i64) [a, b, c] [a', b', c'] rfl rfl
theorem guardErr (op : BinOp) (x y : Operand) (xs ys : Array Value) (w : World) : (eqGuard op 71 x y (.agg xs) (.agg ys)).run Tryz.prog w = .ok () w := run_guardSI op x y xs ys
section
attribute [local go_sem ↓] loadedPt storedPt eqlErr guardErr
theorem awake16_any (w : World) : Calls Tryz.prog 8 #[] w fun e w' => e = .returned (.bool true) ∧ St w [] w' [] := by
  have hst := St.refl w
  obtain ⟨S, hS⟩ : ∃ S, S = sumB (sect 2) := ⟨_, rfl⟩
  have HS := hid hS.symm
  have HL := hid (show L32 S from by rw [hS]; exact length_bytesS _)
  clear hS
  go_enter Tryz.func8, Tryz.ntmps8
  go_wp2_with (first | go_big_skip | go_big_guard | (go_at_call 9; refine (made16_any _).mono ?_; rintro _ _ ⟨gm, ga, x0, gs, rfl, hg, h4⟩; obtain ⟨p, q, r, rfl⟩ : ∃ p q r, gs = [p, q, r] := (match gs, hg with | [p, q, r], _ => ⟨p, q, r, rfl⟩); have hm0 : St w [] _ (mP gm ga x0 (W0 p q r) ++ []) := (by have h5 := St.call hst h4; rw [newA_ak] at h5; exact h5); clear h4 hg hst; unfold PM))
  go_wp2_with (first | go_big_skip | go_big_guard | (go_at_call 11; refine (of16_any 2 _).mono ?_; rintro _ _ ⟨gb, rfl, h4⟩; have hm1 := St.behind (A := (mP gm ga x0 (W0 p q r))) (St.call hm0 h4); clear h4 hm0) | (go_at_call 12; have HC := points_any hm1 (some ⟨gb, 0, none⟩) 256 256 (sect 2) (gb_sect (List.mem_append_right _ (.head _))).rd (sect_len _) (by decide) 2 (by omega); rw [HS.out] at HC; refine HC.mono ?_; clear HC; rintro _ _ ⟨sa, sc, rfl, h4⟩; have hm2 := St.behind (A := (mP gm ga x0 (W0 p q r))) h4; clear h4 hm1) | (refine wl_alloc (T := 34) hm2 rfl rfl ?_; intro gp _ hm3; clear hm2) | (refine wl_storeA [] hm3 rfl rfl rfl rfl (ptr_len HL.out _ _ _) (ptr_ones _ _ _ _ _ _) (ptr_len L32.nones _ _ _) ?_; intro _ hm4; clear hm3; have hm5 := St.behind (A := (mP gm ga x0 (W0 p q r))) hm4; clear hm4))
  have hX := hm5.drew
  clear hm5
  refine wp_region_held_drew (S := (fun w' => (loadVarH 34 ⟨gp, 0, none⟩).run Tryz.prog w' = .ok (.agg (List.toArray (ptrCells (.slice sa 2 sc) 1 0 S))) w')) (by kernel_rfl) (by exact Loads.blkA (P := Tryz.prog) (T := 34) (vs := (ptrCells (.slice sa 2 sc) 1 0 S)) hX (by rw [ptr_len HL.out]; exact TyA.out) (List.mem_append_right _ (.head _)) (ptr_all _ _ _ _)) (fun hHeld => ?_)
  refine wpAnyH_take (i := 0) (oi := ⟨some 18, _, _, _, _, _⟩) (v := ?_) rfl (by kernel_rfl) (by kernel_rfl) (by kernel_rfl) (fun _ _ _ h => h) (Or.inl ⟨by rfl, ?_⟩) (by assumption) ?_
  rotate_left
  · intro w hSw; (try dsimp only at hSw); go_simp; try with_reducible rfl
  (try simp only [Act.put, List.setIfInBounds_toArray, List.set_cons_zero, List.set_cons_succ])
  refine wpAnyH_take (i := 1) (oi := ⟨some 19, _, _, _, _, _⟩) (v := ?_) rfl (by kernel_rfl) (by kernel_rfl) (by kernel_rfl) (fun _ _ _ h => h) (Or.inl ⟨by rfl, ?_⟩) (by assumption) ?_
  rotate_left
  · intro w hSw; (try dsimp only at hSw); go_simp; try with_reducible rfl
  (try simp only [Act.put, List.setIfInBounds_toArray, List.set_cons_zero, List.set_cons_succ])
  refine wpAnyH_ready (rs := [2]) (by kernel_rfl) (by simp) ?_
  refine (AllReadyH.cons (o := ⟨some 20, _, _, _, _, _⟩) rfl (fun K hK => ?_) AllReadyH.nil)
  rw [if_pos (by rfl)]
  go_simp
  go_at_call 11
  refine (of16_any 2 _).mono ?_
  rintro _ _ ⟨g1, rfl, h4⟩
  have hm6 := St.behind (A := (mP gm ga x0 (W0 p q r))) (St.call hX h4)
  clear h4 hX
  refine hK.out _ _ ?_ (fun hHeld => ?_)
  · exact Loads.blkA (P := Tryz.prog) (T := 34) (vs := (ptrCells (.slice sa 2 sc) 1 0 S)) hm6 (by rw [ptr_len HL.out]; exact TyA.out) (List.mem_append_right _ (.tail _ (.head _))) (ptr_all _ _ _ _)
  clear hK K
  (try simp only [Act.put, List.setIfInBounds_toArray, List.set_cons_zero, List.set_cons_succ])
  refine wpAnyH_ready (rs := [3]) (by kernel_rfl) (by simp) ?_
  refine (AllReadyH.cons (o := ⟨some 21, _, _, _, _, _⟩) rfl (fun K hK => ?_) AllReadyH.nil)
  rw [if_pos (by rfl)]
  go_simp
  go_at_call 13
  have HC := puts_any hm6 (w0_good p q r) sa 2 sc (onDevs 2) 1 0 S HL.out (fun _ h => Rd.row h (.tail _ (.tail _ (.head _)))) (onDevs_len _) (some ⟨g1, 0, none⟩) 256 256 _ (gb_sect (.head _)) (by omega) _ _ (ak_put2 ..) (ak_flush2 ..)
  refine HC.mono ?_
  clear HC
  rintro _ _ ⟨y7, rfl, h4⟩
  have hm8 : St _ _ _ ((mP gm ga y7 (W2 p q r)) ++ _) := h4
  clear h4 hm6
  refine hK.out _ _ ?_ (fun hHeld => ?_)
  · exact Loads.blkA (P := Tryz.prog) (T := 34) (vs := (ptrCells (.slice sa 2 sc) 1 0 S)) hm8 (by rw [ptr_len HL.out]; exact TyA.out) (List.mem_append_right _ (.tail _ (.head _))) (ptr_all _ _ _ _)
  clear hK K
  (try simp only [Act.put, List.setIfInBounds_toArray, List.set_cons_zero, List.set_cons_succ])
  refine wpAnyH_take (i := 4) (oi := ⟨some 22, _, _, _, _, _⟩) (v := ?_) rfl (by kernel_rfl) (by kernel_rfl) (by kernel_rfl) (fun _ _ _ h => h) (Or.inl ⟨by rfl, ?_⟩) (by assumption) ?_
  rotate_left
  · intro w hSw; (try dsimp only at hSw); go_simp; try with_reducible rfl
  (try simp only [Act.put, List.setIfInBounds_toArray, List.set_cons_zero, List.set_cons_succ])
  refine wpAnyH_take (i := 5) (oi := ⟨some 23, _, _, _, _, _⟩) (v := ?_) rfl (by kernel_rfl) (by kernel_rfl) (by kernel_rfl) (fun _ _ _ h => h) (Or.inl ⟨by rfl, ?_⟩) (by assumption) ?_
  rotate_left
  · intro w hSw; (try dsimp only at hSw); go_simp; try with_reducible rfl
  (try simp only [Act.put, List.setIfInBounds_toArray, List.set_cons_zero, List.set_cons_succ])
  refine wpAnyH_take (i := 6) (oi := ⟨some 24, _, _, _, _, _⟩) (v := ?_) rfl (by kernel_rfl) (by kernel_rfl) (by kernel_rfl) (fun _ _ _ h => h) (Or.inl ⟨by rfl, ?_⟩) (by assumption) ?_
  rotate_left
  · intro w hSw; (try dsimp only at hSw); go_simp; try with_reducible rfl
  (try simp only [Act.put, List.setIfInBounds_toArray, List.set_cons_zero, List.set_cons_succ])
  refine wpAnyH_take (i := 7) (oi := ⟨some 25, _, _, _, _, _⟩) (v := ?_) rfl (by kernel_rfl) (by kernel_rfl) (by kernel_rfl) (fun _ _ _ h => h) (Or.inl ⟨by rfl, ?_⟩) (by assumption) ?_
  rotate_left
  · intro w hSw; (try dsimp only at hSw); go_simp; try with_reducible rfl
  (try simp only [Act.put, List.setIfInBounds_toArray, List.set_cons_zero, List.set_cons_succ])
  refine wpAnyH_ready (rs := [8]) (by kernel_rfl) (by simp) ?_
  refine (AllReadyH.cons (o := ⟨some 26, _, _, _, _, _⟩) rfl (fun K hK => ?_) AllReadyH.nil)
  rw [if_pos (by rfl)]
  go_simp
  go_at_call 11
  refine (of16_any 2 _).mono ?_
  rintro _ _ ⟨g2, rfl, h4⟩
  have hm9 := St.behind (A := (mP gm ga y7 (W2 p q r))) (St.call hm8 h4)
  clear h4 hm8
  refine hK.out _ _ ?_ (fun hHeld => ?_)
  · exact Loads.blkA (P := Tryz.prog) (T := 34) (vs := (ptrCells (.slice sa 2 sc) 1 0 S)) hm9 (by rw [ptr_len HL.out]; exact TyA.out) (List.mem_append_right _ (.tail _ (.tail _ (.head _)))) (ptr_all _ _ _ _)
  clear hK K
  (try simp only [Act.put, List.setIfInBounds_toArray, List.set_cons_zero, List.set_cons_succ])
  refine wpAnyH_ready (rs := [9]) (by kernel_rfl) (by simp) ?_
  refine (AllReadyH.cons (o := ⟨some 27, _, _, _, _, _⟩) rfl (fun K hK => ?_) AllReadyH.nil)
  rw [if_pos (by rfl)]
  go_simp
  go_at_call 25
  have HC := gets_any hm9 (w2_good p q r) sa 2 sc (onDevs 2) 1 0 S HL.out (fun _ h => Rd.row h (.tail _ (.tail _ (.tail _ (.head _))))) (onDevs_len _) (some ⟨g2, 0, none⟩) 256 256 _ (gb_sect (.head _)) (by omega) (by decide) _ (w2_get p q r _ _ HS.out)
  refine HC.mono ?_
  clear HC
  rintro _ _ ⟨y10, rfl, h4⟩
  have hm11 : St _ _ _ ((mP gm ga y10 (W2 p q r)) ++ _) := h4
  clear h4 hm9
  refine hK.out _ _ ?_ (fun hHeld => ?_)
  · exact Loads.blkA (P := Tryz.prog) (T := 34) (vs := (ptrCells (.slice sa 2 sc) 1 0 S)) hm11 (by rw [ptr_len HL.out]; exact TyA.out) (List.mem_append_right _ (.tail _ (.tail _ (.head _)))) (ptr_all _ _ _ _)
  clear hK K
  (try simp only [Act.put, List.setIfInBounds_toArray, List.set_cons_zero, List.set_cons_succ])
  refine wpAnyH_take (i := 10) (oi := ⟨some 28, _, _, _, _, _⟩) (v := ?_) rfl (by kernel_rfl) (by kernel_rfl) (by kernel_rfl) (fun _ _ _ h => h) (Or.inl ⟨by rfl, ?_⟩) (by assumption) ?_
  rotate_left
  · intro w hSw; (try dsimp only at hSw); go_simp; try with_reducible rfl
  (try simp only [Act.put, List.setIfInBounds_toArray, List.set_cons_zero, List.set_cons_succ])
  refine wpAnyH_take (i := 11) (oi := ⟨some 29, _, _, _, _, _⟩) (v := ?_) rfl (by kernel_rfl) (by kernel_rfl) (by kernel_rfl) (fun _ _ _ h => h) (Or.inl ⟨by rfl, ?_⟩) (by assumption) ?_
  rotate_left
  · intro w hSw; (try dsimp only at hSw); go_simp; try with_reducible rfl
  (try simp only [Act.put, List.setIfInBounds_toArray, List.set_cons_zero, List.set_cons_succ])
  refine wpAnyH_take (i := 12) (oi := ⟨some 30, _, _, _, _, _⟩) (v := ?_) rfl (by kernel_rfl) (by kernel_rfl) (by kernel_rfl) (fun _ _ _ h => h) (Or.inl ⟨by rfl, ?_⟩) (by assumption) ?_
  rotate_left
  · intro w hSw; (try dsimp only at hSw); go_simp; try with_reducible rfl
  (try simp only [Act.put, List.setIfInBounds_toArray, List.set_cons_zero, List.set_cons_succ])
  refine wpAnyH_take (i := 13) (oi := ⟨some 31, _, _, _, _, _⟩) (v := ?_) rfl (by kernel_rfl) (by kernel_rfl) (by kernel_rfl) (fun _ _ _ h => h) (Or.inl ⟨by rfl, ?_⟩) (by assumption) ?_
  rotate_left
  · intro w hSw; (try dsimp only at hSw); go_simp; try with_reducible rfl
  (try simp only [Act.put, List.setIfInBounds_toArray, List.set_cons_zero, List.set_cons_succ])
  refine wpAnyH_ready (rs := [14]) (by kernel_rfl) (by simp) ?_
  refine (AllReadyH.cons (o := ⟨some 32, _, _, _, _, _⟩) rfl (fun K hK => ?_) AllReadyH.nil)
  rw [if_pos (by rfl)]
  go_simp
  go_at_call 35
  have HC := spoilM_any (mid_in (P := [_]) (Bs := []) hm11) (w2_good p q r).sc.ok 0 5 0 1
  rw [w2_spoil, w2_spoilE] at HC
  refine HC.mono ?_
  clear HC
  rintro _ _ ⟨rfl, xs, h4⟩
  have hm12 : St _ _ _ ((mP gm ga xs (W3 p q r)) ++ _) := mid_out (P := [_]) (Bs := []) hm11 h4
  clear h4 hm11
  refine hK.out _ _ ?_ (fun hHeld => ?_)
  · exact Loads.blkA (P := Tryz.prog) (T := 34) (vs := (ptrCells (.slice sa 2 sc) 1 0 S)) hm12 (by rw [ptr_len HL.out]; exact TyA.out) (List.mem_append_right _ (.tail _ (.tail _ (.head _)))) (ptr_all _ _ _ _)
  clear hK K
  (try simp only [Act.put, List.setIfInBounds_toArray, List.set_cons_zero, List.set_cons_succ])
  refine wpAnyH_take (i := 15) (oi := ⟨some 33, _, _, _, _, _⟩) (v := ?_) rfl (by kernel_rfl) (by kernel_rfl) (by kernel_rfl) (fun _ _ _ h => h) (Or.inl ⟨by rfl, ?_⟩) (by assumption) ?_
  rotate_left
  · intro w hSw; (try dsimp only at hSw); go_simp; try with_reducible rfl
  (try simp only [Act.put, List.setIfInBounds_toArray, List.set_cons_zero, List.set_cons_succ])
  refine wpAnyH_take (i := 16) (oi := ⟨some 34, _, _, _, _, _⟩) (v := ?_) rfl (by kernel_rfl) (by kernel_rfl) (by kernel_rfl) (fun _ _ _ h => h) (Or.inl ⟨by rfl, ?_⟩) (by assumption) ?_
  rotate_left
  · intro w hSw; (try dsimp only at hSw); go_simp; try with_reducible rfl
  (try simp only [Act.put, List.setIfInBounds_toArray, List.set_cons_zero, List.set_cons_succ])
  refine wpAnyH_take (i := 17) (oi := ⟨some 35, _, _, _, _, _⟩) (v := ?_) rfl (by kernel_rfl) (by kernel_rfl) (by kernel_rfl) (fun _ _ _ h => h) (Or.inl ⟨by rfl, ?_⟩) (by assumption) ?_
  rotate_left
  · intro w hSw; (try dsimp only at hSw); go_simp; try with_reducible rfl
  (try simp only [Act.put, List.setIfInBounds_toArray, List.set_cons_zero, List.set_cons_succ])
  refine wpAnyH_take (i := 18) (oi := ⟨some 36, _, _, _, _, _⟩) (v := ?_) rfl (by kernel_rfl) (by kernel_rfl) (by kernel_rfl) (fun _ _ _ h => h) (Or.inl ⟨by rfl, ?_⟩) (by assumption) ?_
  rotate_left
  · intro w hSw; (try dsimp only at hSw); go_simp; try with_reducible rfl
  (try simp only [Act.put, List.setIfInBounds_toArray, List.set_cons_zero, List.set_cons_succ])
  refine wpAnyH_take (i := 19) (oi := ⟨some 37, _, _, _, _, _⟩) (v := ?_) rfl (by kernel_rfl) (by kernel_rfl) (by kernel_rfl) (fun _ _ _ h => h) (Or.inl ⟨by rfl, ?_⟩) (by assumption) ?_
  rotate_left
  · intro w hSw; (try dsimp only at hSw); go_simp; try with_reducible rfl
  (try simp only [Act.put, List.setIfInBounds_toArray, List.set_cons_zero, List.set_cons_succ])
  refine wpAnyH_ready (rs := [20]) (by kernel_rfl) (by simp) ?_
  refine (AllReadyH.cons (o := ⟨some 38, _, _, _, _, _⟩) rfl (fun K hK => ?_) AllReadyH.nil)
  rw [if_pos (by rfl)]
  go_simp
  go_at_call 11
  refine (of16_any 2 _).mono ?_
  rintro _ _ ⟨g3, rfl, h4⟩
  have hm13 := St.behind (A := (mP gm ga xs (W3 p q r))) (St.call hm12 h4)
  clear h4 hm12
  refine hK.out _ _ ?_ (fun hHeld => ?_)
  · exact Loads.blkA (P := Tryz.prog) (T := 34) (vs := (ptrCells (.slice sa 2 sc) 1 0 S)) hm13 (by rw [ptr_len HL.out]; exact TyA.out) (List.mem_append_right _ (.tail _ (.tail _ (.tail _ (.head _))))) (ptr_all _ _ _ _)
  clear hK K
  (try simp only [Act.put, List.setIfInBounds_toArray, List.set_cons_zero, List.set_cons_succ])
  refine wpAnyH_ready (rs := [21]) (by kernel_rfl) (by simp) ?_
  refine (AllReadyH.cons (o := ⟨some 39, _, _, _, _, _⟩) rfl (fun K hK => ?_) AllReadyH.nil)
  rw [if_pos (by rfl)]
  go_simp
  go_at_call 25
  have HC := gets_any hm13 (w3_good p q r) sa 2 sc (onDevs 2) 1 0 S HL.out (fun _ h => Rd.row h (.tail _ (.tail _ (.tail _ (.tail _ (.head _)))))) (onDevs_len _) (some ⟨g3, 0, none⟩) 256 256 _ (gb_sect (.head _)) (by omega) (by decide) _ (w3_get p q r _ _ HS.out)
  refine HC.mono ?_
  clear HC
  rintro _ _ ⟨y14, rfl, h4⟩
  have hm15 : St _ _ _ ((mP gm ga y14 (W4 p q r)) ++ _) := h4
  clear h4 hm13
  refine hK.out _ _ ?_ (fun hHeld => ?_)
  · exact Loads.blkA (P := Tryz.prog) (T := 34) (vs := (ptrCells (.slice sa 2 sc) 1 0 S)) hm15 (by rw [ptr_len HL.out]; exact TyA.out) (List.mem_append_right _ (.tail _ (.tail _ (.tail _ (.head _))))) (ptr_all _ _ _ _)
  clear hK K
  (try simp only [Act.put, List.setIfInBounds_toArray, List.set_cons_zero, List.set_cons_succ])
  refine wpAnyH_take (i := 22) (oi := ⟨some 40, _, _, _, _, _⟩) (v := ?_) rfl (by kernel_rfl) (by kernel_rfl) (by kernel_rfl) (fun _ _ _ h => h) (Or.inl ⟨by rfl, ?_⟩) (by assumption) ?_
  rotate_left
  · intro w hSw; (try dsimp only at hSw); go_simp; try with_reducible rfl
  (try simp only [Act.put, List.setIfInBounds_toArray, List.set_cons_zero, List.set_cons_succ])
  refine wpAnyH_take (i := 23) (oi := ⟨some 41, _, _, _, _, _⟩) (v := ?_) rfl (by kernel_rfl) (by kernel_rfl) (by kernel_rfl) (fun _ _ _ h => h) (Or.inl ⟨by rfl, ?_⟩) (by assumption) ?_
  rotate_left
  · intro w hSw; (try dsimp only at hSw); go_simp; try with_reducible rfl
  (try simp only [Act.put, List.setIfInBounds_toArray, List.set_cons_zero, List.set_cons_succ])
  refine wpAnyH_done (by kernel_rfl) ?_ _
  clear hHeld
  go_wp2_with (first | go_big_skip | go_big_guard | (go_at_call 36; have HC := readM_any (mid_in (P := [_]) (Bs := []) hm15) (w4_good p q r).sc.ok (Nat.lt_of_le_of_lt (w4_good p q r).sc.ll (by decide)) 0 5; rw [w4_rE, w4_rB, w4_rd] at HC; refine HC.mono ?_; clear HC; rintro _ _ ⟨u, rfl, h4⟩; have hm16 := St.behind (A := (mP gm ga y14 (W4 p q r))) (mid_outp (Q := [_]) (P := [_]) (Bs := []) hm15 h4); clear h4 hm15) | (go_at_call 11; refine (of16_any 2 _).mono ?_; rintro _ _ ⟨g4, rfl, h4⟩; have hm17 := St.behind (A := (mP gm ga y14 (W4 p q r))) (St.call hm16 h4); clear h4 hm16) | (go_at_call 18; have HC := sameBytes_any _ _ _ _ (sect 2) (sect 2) _ (Rd.row hm17 (List.mem_append_right _ (.tail _ (.head _)))) (((gb_sect (.head _)) : GB w [] _ _ _ _).rd _ (St.sub hm17 (List.sublist_append_right _ _))); rw [beq_self_eq_true] at HC; refine HC.mono ?_; clear HC; rintro _ _ ⟨rfl, h4⟩; have hm18 := St.call0 hm17 h4; clear h4 hm17) | (go_at_call 31; have HC := errs_any hm18 (w4_good p q r) 0; rw [w4_e0] at HC; refine HC.mono ?_; clear HC; unfold ER.cells; rintro _ _ ⟨rfl, h4⟩; have hm19 := St.call0 hm18 h4; clear h4 hm18) | (refine wl_buildX (cs := [.int .i64 0, .int .i64 1, .int .i64 1]) [(1, .int .i64 1), (2, .int .i64 1)] rfl rfl (by exact rfl) (by kernel_rfl) ?_) | (refine wl_build0 rfl rfl ?_) | (go_at_call 31; have HC := errs_any hm19 (w4_good p q r) 1; rw [w4_e1] at HC; refine HC.mono ?_; clear HC; unfold ER.cells; rintro _ _ ⟨rfl, h4⟩; have hm20 := St.call0 hm19 h4; clear h4 hm19))
  go_ret
  exact ⟨rfl, hm20.nil⟩
end
end Go.Proofs.YtmdfbdfijnmhkaaGreat
namespace Go.Proofs.YtmdfbdfijnmhkaaGreat
set_option linter.unusedVariables false
set_option linter.unusedSimpArgs false
open Go.RowKit Hp
set_option maxRecDepth 100000
set_option maxHeartbeats 4000000
theorem found_hit2 {m : MV} {S T : List UInt8} {but : Int} {x : Int × Int} {l ill : List (Int × Int)} (hb : x.1 ≠ but) (h1 : m.a.readE x.1 x.2 = 0) (hT : m.a.readB x.1 x.2 = T) (h2 : sumB T = S) (h3 : m.a.read x.1 x.2 = m.a) : found S but m (x :: l) ill = ⟨0, T, ill, m⟩ := by
  subst hT
  exact found_hit hb h1 h2 h3
end Go.Proofs.YtmdfbdfijnmhkaaGreat
namespace Go.Proofs.YtmdfbdfijnmhkaaGreat
set_option linter.unusedVariables false
set_option linter.unusedSimpArgs false
open Go.RowKit Hp
set_option maxRecDepth 100000
set_option maxHeartbeats 4000000
def cont (b : List UInt8) (π : Nat → Nat) (μ : Nat → UInt8) (k i j : Nat) : List UInt8 := if j < i then spo b (π j) (μ j) else if j < k then b else sect 0
def H16 (p q r : Nat) (c : UInt8) (π : Nat → Nat) (μ : Nat → UInt8) (st : Int) (k i : Nat) : MV := ⟨AK p q r (cont (sect c) π μ k i 0) (cont (sect c) π μ k i 1) (cont (sect c) π μ k i 2) [] st, zeroE⟩
theorem cont_len {c : UInt8} {π : Nat → Nat} {μ : Nat → UInt8} {k i j : Nat} : (cont (sect c) π μ k i j).length = 256 := by
  unfold cont
  split
  · exact spo_len (sect_len _)
  · split <;> exact sect_len _
theorem h16_good {p q r : Nat} {c : UInt8} {π : Nat → Nat} {μ : Nat → UInt8} {st : Int} {k i : Nat} (h : 0 ≤ st ∧ st ≤ 10) : MGood (H16 p q r c π μ st k i) 10 :=
  ak_good cont_len cont_len cont_len (by simp) (by exact ⟨h.1, h.2⟩) (by decide) rfl (zeroE_ok _)
theorem put_flush {p q r : Nat} {c : UInt8} {π : Nat → Nat} {μ : Nat → UInt8} {k : Nat} (h1 : 1 ≤ k) (h3 : k ≤ 3) : ∃ A1, (W0 p q r).put (onDevs k) (sect c) = ⟨0, k, A1⟩ ∧ ((W0 p q r).withA A1).flush = ⟨0, 3, (H16 p q r c π μ ((k + 3 : Nat) : Int) k 0).a⟩ := by
  rcases (by omega : k = 1 ∨ k = 2 ∨ k = 3) with rfl | rfl | rfl
  · exact ⟨_, ak_put1 .., (ak_flush1 ..).trans (by kernel_rfl)⟩
  · exact ⟨_, ak_put2 .., (ak_flush2 ..).trans (by kernel_rfl)⟩
  · exact ⟨_, ak_put3 .., (ak_flush3 ..).trans (by kernel_rfl)⟩
end Go.Proofs.YtmdfbdfijnmhkaaGreat
namespace Go.Proofs.YtmdfbdfijnmhkaaGreat
set_option linter.unusedVariables false
set_option linter.unusedSimpArgs false
open Go.RowKit Hp
set_option maxRecDepth 100000
set_option maxHeartbeats 4000000
theorem restore_eq {m m' : MV} {P : PV} {dev : Int} {B : List UInt8} {ill : List (Int × Int)} (ha : m.askE P = 0) (hp : ¬ placeOn dev P.l < 0) (hu : m.a.up dev = true) (hf : found P.S dev m P.l [] = ⟨0, B, ill, m'⟩) : m.restore P dev = ⟨m'.a.writeE dev (placeOn dev P.l) B, { m' with a := m'.a.write dev (placeOn dev P.l) B }⟩ := by
  unfold MV.restore
  rw [ha, if_neg (by simp), if_neg hp, hu, if_neg (by decide), hf, if_neg (by simp)]
theorem restore_bad {m m' : MV} {P : PV} {dev e : Int} {B : List UInt8} {ill : List (Int × Int)} (ha : m.askE P = 0) (hp : ¬ placeOn dev P.l < 0) (hu : m.a.up dev = true) (hf : found P.S dev m P.l [] = ⟨e, B, ill, m'⟩) (he : e ≠ 0) : m.restore P dev = ⟨e, m'⟩ := by
  unfold MV.restore
  rw [ha, if_neg (by simp), if_neg hp, hu, if_neg (by decide), hf, if_pos he]
def F16 (p q r g : Nat) (c : UInt8) (k d : Nat) (L : List LW) (st : Int) : MV := ⟨AK (if d = 0 then g else p) (if d = 1 then g else q) (if d = 2 then g else r) (if 0 < k ∧ d ≠ 0 then sect c else sect 0) (if 1 < k ∧ d ≠ 1 then sect c else sect 0) (if 2 < k ∧ d ≠ 2 then sect c else sect 0) L st, zeroE⟩
def G16 (p q r : Nat) (c : UInt8) (k : Nat) : MV := H16 p q r c (fun _ => 0) (fun _ => 0) ((k + 3 : Nat) : Int) k 0
theorem f16_good {p q r g : Nat} {c : UInt8} {k d : Nat} {L : List LW} {st : Int} (hd : d < 3) (hs : 0 ≤ st ∧ st ≤ 10) (hL : L = [] ∨ L = [⟨d, 5, sect c⟩]) : MGood (F16 p q r g c k d L st) 10 := by
  refine ak_good ?_ ?_ ?_ ?_ ⟨hs.1, hs.2⟩ ?_ rfl (zeroE_ok _)
  · split <;> exact sect_len _
  · split <;> exact sect_len _
  · split <;> exact sect_len _
  · intro w hw
    rcases hL with rfl | rfl
    · cases hw
    · rw [List.mem_singleton.1 hw]
      exact ⟨hd, (by decide : 5 < 8), sect_len _⟩
  · rcases hL with rfl | rfl <;> simp
theorem fit_pullE {p q r : Nat} {c : UInt8} {k d : Nat} (hk : k ≤ 3) (hd : d < k) : (G16 p q r c k).a.pullE (d : Nat) = 0 := by
  rcases (by omega : (k = 1 ∧ d = 0) ∨ (k = 2 ∧ d = 0) ∨ (k = 2 ∧ d = 1) ∨ (k = 3 ∧ d = 0) ∨ (k = 3 ∧ d = 1) ∨ (k = 3 ∧ d = 2)) with ⟨rfl, rfl⟩ | ⟨rfl, rfl⟩ | ⟨rfl, rfl⟩ | ⟨rfl, rfl⟩ | ⟨rfl, rfl⟩ | ⟨rfl, rfl⟩
  · exact by kernel_rfl
  · exact by kernel_rfl
  · exact by kernel_rfl
  · exact by kernel_rfl
  · exact by kernel_rfl
  · exact by kernel_rfl
theorem fit_gone {p q r : Nat} {c : UInt8} {ao : Option Addr} {cc : Nat} {S : List UInt8} {k d : Nat} (hk : k ≤ 3) (hd : d < k) : (⟨(G16 p q r c k).a.pull (d : Nat), zeroE⟩ : MV).restore (PVof ao k cc (onDevs k) 1 0 S) (d : Nat) = ⟨14, ⟨(G16 p q r c k).a.pull (d : Nat), zeroE⟩⟩ := by
  rcases (by omega : (k = 1 ∧ d = 0) ∨ (k = 2 ∧ d = 0) ∨ (k = 2 ∧ d = 1) ∨ (k = 3 ∧ d = 0) ∨ (k = 3 ∧ d = 1) ∨ (k = 3 ∧ d = 2)) with ⟨rfl, rfl⟩ | ⟨rfl, rfl⟩ | ⟨rfl, rfl⟩ | ⟨rfl, rfl⟩ | ⟨rfl, rfl⟩ | ⟨rfl, rfl⟩
  · exact by kernel_rfl
  · exact by kernel_rfl
  · exact by kernel_rfl
  · exact by kernel_rfl
  · exact by kernel_rfl
  · exact by kernel_rfl
theorem fit_fitE {p q r : Nat} {c : UInt8} {k d : Nat} (hk : k ≤ 3) (hd : d < k) : ((G16 p q r c k).a.pull (d : Nat)).fitE (d : Nat) = 0 := by
  rcases (by omega : (k = 1 ∧ d = 0) ∨ (k = 2 ∧ d = 0) ∨ (k = 2 ∧ d = 1) ∨ (k = 3 ∧ d = 0) ∨ (k = 3 ∧ d = 1) ∨ (k = 3 ∧ d = 2)) with ⟨rfl, rfl⟩ | ⟨rfl, rfl⟩ | ⟨rfl, rfl⟩ | ⟨rfl, rfl⟩ | ⟨rfl, rfl⟩ | ⟨rfl, rfl⟩
  · exact by kernel_rfl
  · exact by kernel_rfl
  · exact by kernel_rfl
  · exact by kernel_rfl
  · exact by kernel_rfl
  · exact by kernel_rfl
theorem fit_fit {p q r g : Nat} {c : UInt8} {k d : Nat} (hk : k ≤ 3) (hd : d < k) : ((G16 p q r c k).a.pull (d : Nat)).fit (d : Nat) g = (F16 p q r g c k d [] ((k + 3 : Nat) : Int)).a := by
  rcases (by omega : (k = 1 ∧ d = 0) ∨ (k = 2 ∧ d = 0) ∨ (k = 2 ∧ d = 1) ∨ (k = 3 ∧ d = 0) ∨ (k = 3 ∧ d = 1) ∨ (k = 3 ∧ d = 2)) with ⟨rfl, rfl⟩ | ⟨rfl, rfl⟩ | ⟨rfl, rfl⟩ | ⟨rfl, rfl⟩ | ⟨rfl, rfl⟩ | ⟨rfl, rfl⟩
  · exact by kernel_rfl
  · exact by kernel_rfl
  · exact by kernel_rfl
  · exact by kernel_rfl
  · exact by kernel_rfl
  · exact by kernel_rfl
theorem fit_restore {p q r g : Nat} {c : UInt8} {ao : Option Addr} {cc : Nat} {S : List UInt8} {k d : Nat} (hk : 2 ≤ k ∧ k ≤ 3) (hd : d < k) (hS : sumB (sect c) = S) : (F16 p q r g c k d [] ((k + 3 : Nat) : Int)).restore (PVof ao k cc (onDevs k) 1 0 S) (d : Nat) = ⟨0, F16 p q r g c k d [⟨d, 5, sect c⟩] ((k + 3 : Nat) + 1 : Int)⟩ := by
  rcases (by omega : (k = 2 ∧ d = 0) ∨ (k = 2 ∧ d = 1) ∨ (k = 3 ∧ d = 0) ∨ (k = 3 ∧ d = 1) ∨ (k = 3 ∧ d = 2)) with ⟨rfl, rfl⟩ | ⟨rfl, rfl⟩ | ⟨rfl, rfl⟩ | ⟨rfl, rfl⟩ | ⟨rfl, rfl⟩
  · exact (restore_eq (dev := ((0 : Nat) : Int)) (ak_ask2 ..) (show ¬ placeOn (0 : Int) (onDevs 2) < 0 by decide) (by kernel_rfl) ((found_but (x := (0, 5)) (l := [(1, 5)]) rfl).trans (found_hit2 (x := (1, 5)) (l := []) (by decide) (ak_rE1 ..) (by kernel_rfl) hS (ak_rd1 ..)))).trans (by kernel_rfl)
  · exact (restore_eq (dev := ((1 : Nat) : Int)) (ak_ask2 ..) (show ¬ placeOn (1 : Int) (onDevs 2) < 0 by decide) (by kernel_rfl) (found_hit2 (x := (0, 5)) (l := [(1, 5)]) (by decide) (ak_rE0 ..) (by kernel_rfl) hS (ak_rd0 ..))).trans (by kernel_rfl)
  · exact (restore_eq (dev := ((0 : Nat) : Int)) (ak_ask3 ..) (show ¬ placeOn (0 : Int) (onDevs 3) < 0 by decide) (by kernel_rfl) ((found_but (x := (0, 5)) (l := [(1, 5), (2, 5)]) rfl).trans (found_hit2 (x := (1, 5)) (l := [(2, 5)]) (by decide) (ak_rE1 ..) (by kernel_rfl) hS (ak_rd1 ..)))).trans (by kernel_rfl)
  · exact (restore_eq (dev := ((1 : Nat) : Int)) (ak_ask3 ..) (show ¬ placeOn (1 : Int) (onDevs 3) < 0 by decide) (by kernel_rfl) (found_hit2 (x := (0, 5)) (l := [(1, 5), (2, 5)]) (by decide) (ak_rE0 ..) (by kernel_rfl) hS (ak_rd0 ..))).trans (by kernel_rfl)
  · exact (restore_eq (dev := ((2 : Nat) : Int)) (ak_ask3 ..) (show ¬ placeOn (2 : Int) (onDevs 3) < 0 by decide) (by kernel_rfl) (found_hit2 (x := (0, 5)) (l := [(1, 5), (2, 5)]) (by decide) (ak_rE0 ..) (by kernel_rfl) hS (ak_rd0 ..))).trans (by kernel_rfl)
theorem fit_alone {p q r g : Nat} {c : UInt8} {ao : Option Addr} {cc : Nat} {S : List UInt8} : (F16 p q r g c 1 0 [] ((1 + 3 : Nat) : Int)).restore (PVof ao 1 cc (onDevs 1) 1 0 S) (0 : Nat) = ⟨13, F16 p q r g c 1 0 [] ((1 + 3 : Nat) : Int)⟩ := restore_bad (dev := ((0 : Nat) : Int)) (ak_ask1 ..) (show ¬ placeOn (0 : Int) (onDevs 1) < 0 by decide) (by kernel_rfl) ((found_but (x := (0, 5)) (l := []) rfl).trans rfl) (by decide)
theorem fit_blankB {p q r g : Nat} {c : UInt8} : (F16 p q r g c 1 0 [] ((1 + 3 : Nat) : Int)).a.peekB (0 : Nat) 5 = true := by kernel_rfl
theorem fit_blankL {p q r g : Nat} {c : UInt8} : (F16 p q r g c 1 0 [] ((1 + 3 : Nat) : Int)).a.peekL (0 : Nat) 5 = sect 0 := by kernel_rfl
theorem fit_p5 {p q r g : Nat} {c : UInt8} {k d : Nat} (hk : 2 ≤ k ∧ k ≤ 3) (hd : d < k) : (F16 p q r g c k d [⟨d, 5, sect c⟩] ((k + 3 : Nat) + 1 : Int)).a.peekB (d : Nat) 5 = true ∧ (F16 p q r g c k d [⟨d, 5, sect c⟩] ((k + 3 : Nat) + 1 : Int)).a.peekL (d : Nat) 5 = sect c := by
  rcases (by omega : (k = 2 ∧ d = 0) ∨ (k = 2 ∧ d = 1) ∨ (k = 3 ∧ d = 0) ∨ (k = 3 ∧ d = 1) ∨ (k = 3 ∧ d = 2)) with ⟨rfl, rfl⟩ | ⟨rfl, rfl⟩ | ⟨rfl, rfl⟩ | ⟨rfl, rfl⟩ | ⟨rfl, rfl⟩
  · exact ⟨by kernel_rfl, by kernel_rfl⟩
  · exact ⟨by kernel_rfl, by kernel_rfl⟩
  · exact ⟨by kernel_rfl, by kernel_rfl⟩
  · exact ⟨by kernel_rfl, by kernel_rfl⟩
  · exact ⟨by kernel_rfl, by kernel_rfl⟩
theorem fit_p6 {p q r g : Nat} {c : UInt8} {k d : Nat} (hk : 2 ≤ k ∧ k ≤ 3) (hd : d < k) : (F16 p q r g c k d [⟨d, 5, sect c⟩] ((k + 3 : Nat) + 1 : Int)).a.peekB (d : Nat) 6 = true ∧ (F16 p q r g c k d [⟨d, 5, sect c⟩] ((k + 3 : Nat) + 1 : Int)).a.peekL (d : Nat) 6 = sect 0 := by
  rcases (by omega : (k = 2 ∧ d = 0) ∨ (k = 2 ∧ d = 1) ∨ (k = 3 ∧ d = 0) ∨ (k = 3 ∧ d = 1) ∨ (k = 3 ∧ d = 2)) with ⟨rfl, rfl⟩ | ⟨rfl, rfl⟩ | ⟨rfl, rfl⟩ | ⟨rfl, rfl⟩ | ⟨rfl, rfl⟩
  · exact ⟨by kernel_rfl, by kernel_rfl⟩
  · exact ⟨by kernel_rfl, by kernel_rfl⟩
  · exact ⟨by kernel_rfl, by kernel_rfl⟩
  · exact ⟨by kernel_rfl, by kernel_rfl⟩
  · exact ⟨by kernel_rfl, by kernel_rfl⟩
end Go.Proofs.YtmdfbdfijnmhkaaGreat
namespace Go.Proofs.YtmdfbdfijnmhkaaGreat
set_option linter.unusedVariables false
set_option linter.unusedSimpArgs false
open Go.RowKit Hp
attribute [local irreducible] Go.Calls
set_option maxHeartbeats 1000000
def pickI (x n : Int) : Int := if n < 1 then 0 else x % n
theorem pickI_nat {x : Int} {n : Nat} (h : 0 < n) : ∃ k : Nat, k < n ∧ pickI x n = k := by
  have h1 := Int.emod_nonneg x (show (n : Int) ≠ 0 by omega)
  have h2 := Int.emod_lt_of_pos x (show (0 : Int) < n by omega)
  refine ⟨(x % n).toNat, by omega, ?_⟩
  unfold pickI
  rw [if_neg (by omega)]
  omega
theorem pick_spec (x n : Int) (w : World) (hx : -9223372036854775808 ≤ x ∧ x ≤ 9223372036854775807) (hn : -9223372036854775808 ≤ n ∧ n ≤ 9223372036854775807) :
    Calls Tryz.prog 10 #[.int .i64 x, .int .i64 n] w fun e w' => e = .returned (.int .i64 (pickI x n)) ∧ St w [] w' [] := by
  have hst := St.refl w
  by_cases h1 : n < 1
  · have d1 : decide (n < 1) = true := decide_eq_true h1
    have e : pickI x n = 0 := by unfold pickI; rw [if_pos h1]
    rw [e]
    clear h1 e
    go_enter Tryz.func10, Tryz.ntmps10
    go_wp2_with (first | go_big_skip | go_big_guard | fail)
    go_ret
    exact ⟨rfl, hst⟩
  · have d1 : decide (n < 1) = false := decide_eq_false h1
    obtain ⟨r, hr⟩ : ∃ r, r = Int.tmod x n := ⟨_, rfl⟩
    have q1 := Int.tmod_lt_of_pos x (show (0 : Int) < n by omega)
    have q2 := Int.lt_tmod_of_pos x (show (0 : Int) < n by omega)
    rw [← hr] at q1 q2
    have hw : IntKind.i64.wrap r = r := IntWalk.i64_in _ (by omega)
    have f1 : ∀ T, binOp .rem T (.int .i64 x) (.int .i64 n) = pure (.int .i64 r) := by
      intro T
      have hn0 : n ≠ 0 := by omega
      simp only [binOp]
      simp [Op.intDiv, hn0, ← hr, hw]
    have em : x % n = if r < 0 then r + n else r := by
      rw [hr, Int.tmod_eq_emod]
      have := Int.emod_nonneg x (show n ≠ 0 by omega)
      have := Int.emod_lt_of_pos x (show (0 : Int) < n by omega)
      split <;> (split <;> omega)
    have e : pickI x n = if r < 0 then r + n else r := by unfold pickI; rw [if_neg h1, em]
    rw [e]
    clear em e hr h1
    by_cases h2 : r < 0
    · have d2 : decide (r < 0) = true := decide_eq_true h2
      have z0 : IntKind.i64.wrap (r + n) = r + n := IntWalk.i64_in _ (by omega)
      rw [if_pos h2]
      clear h2
      go_enter Tryz.func10, Tryz.ntmps10
      go_wp2_with (first | go_big_skip | go_big_guard | fail)
      go_ret
      exact ⟨rfl, hst⟩
    · have d2 : decide (r < 0) = false := decide_eq_false h2
      rw [if_neg h2]
      clear h2
      go_enter Tryz.func10, Tryz.ntmps10
      go_wp2_with (first | go_big_skip | go_big_guard | fail)
      go_ret
      exact ⟨rfl, hst⟩
end Go.Proofs.YtmdfbdfijnmhkaaGreat
namespace Go.Proofs.YtmdfbdfijnmhkaaGreat
set_option linter.unusedVariables false
set_option linter.unusedSimpArgs false
open Go.RowKit Hp
attribute [local irreducible] Go.Calls Go.wpList
set_option maxRecDepth 100000
set_option maxHeartbeats 8000000
theorem fits_out {p q r g : Nat} {c : UInt8} {ao : Option Addr} {cc : Nat} {S : List UInt8} {k d : Nat} (h1 : 1 ≤ k) (h3 : k ≤ 3) (hd : d < k) (hS : sumB (sect c) = S) :
    ∃ (E : Int) (M3 : MV) (NOW : List UInt8), (F16 p q r g c k d [] ((k + 3 : Nat) : Int)).restore (PVof ao k cc (onDevs k) 1 0 S) (d : Nat) = ⟨E, M3⟩ ∧ MGood M3 10 ∧ M3.a.peekB (d : Nat) 5 = true ∧ M3.a.peekL (d : Nat) 5 = NOW ∧
      ((k = 1 ∧ E = 13 ∧ NOW = sect 0) ∨ (k ≠ 1 ∧ E = 0 ∧ NOW = sect c ∧ M3.a.peekB (d : Nat) 6 = true ∧ M3.a.peekL (d : Nat) 6 = sect 0 ∧ M3.a.loose.length = 1)) := by
  by_cases hk : k = 1
  · subst hk
    obtain rfl : d = 0 := by omega
    exact ⟨13, _, _, fit_alone, f16_good (by decide) (by decide) (.inl rfl), fit_blankB, fit_blankL, .inl ⟨rfl, rfl, rfl⟩⟩
  · have h2 : 2 ≤ k ∧ k ≤ 3 := ⟨by omega, h3⟩
    exact ⟨0, _, _, fit_restore h2 hd hS, f16_good (by omega) ⟨by omega, by omega⟩ (.inr rfl), (fit_p5 h2 hd).1, (fit_p5 h2 hd).2, .inr ⟨hk, rfl, rfl, (fit_p6 h2 hd).1, (fit_p6 h2 hd).2, rfl⟩⟩
section
attribute [local go_sem ↓] loadedPt storedPt
theorem fits16_any (c0 : UInt8) (zc zd : Int) (w : World) (hz : -9223372036854775808 ≤ zc ∧ zc ≤ 9223372036854775807) (hzd : -9223372036854775808 ≤ zd ∧ zd ≤ 9223372036854775807) :
    Calls Tryz.prog 3 #[.int .u8 c0.toNat, .int .i64 zc, .int .i64 zd] w fun e w' => e = .returned (.bool true) ∧ St w [] w' [] := by
  have hst := St.refl w
  obtain ⟨CI, hCI⟩ : ∃ CI : Int, CI = (c0.toNat : Int) := ⟨_, rfl⟩
  have hCb : 0 ≤ CI ∧ CI < 256 := by rw [hCI]; have := c0.toNat_lt; omega
  obtain ⟨RI, hRI⟩ : ∃ RI : Int, RI = Int.tmod CI 255 := ⟨_, rfl⟩
  have hRb : 0 ≤ RI ∧ RI < 255 := by
    rw [hRI]
    exact ⟨Int.tmod_nonneg 255 hCb.1, Int.tmod_lt_of_pos CI (by decide)⟩
  obtain ⟨c, hc⟩ : ∃ c : UInt8, (c.toNat : Int) = 1 + RI := ⟨UInt8.ofNat (1 + RI).toNat, by rw [UInt8.toNat_ofNat']; omega⟩
  have zR : IntKind.u8.wrap RI = RI := by unfold IntKind.wrap; simp [IntKind.bits, IntKind.signed]; omega
  have zx : IntKind.u8.wrap (1 + RI) = (c.toNat : Int) := by rw [hc]; unfold IntKind.wrap; simp [IntKind.bits, IntKind.signed]; omega
  have f1 : ∀ T, binOp .rem T (.int .u8 CI) (.int .u8 255) = pure (.int .u8 RI) := by
    intro T
    simp only [binOp]
    simp [Op.intDiv, ← hRI, zR]
  rw [← hCI]
  obtain ⟨S, hS⟩ : ∃ S, S = sumB (sect c) := ⟨_, rfl⟩
  have HS := hid hS.symm
  have HL := hid (show L32 S from by rw [hS]; exact length_bytesS _)
  obtain ⟨kp, hkp, hpk⟩ := pickI_nat (x := zc) (n := 3) (by decide)
  have HPK := hid (show pickI zc 3 = (kp : Int) from hpk)
  obtain ⟨k, hk⟩ : ∃ k, k = kp + 1 := ⟨_, rfl⟩
  have hk1 : 1 ≤ k := by omega
  have hk3 : k ≤ 3 := by omega
  have zk : IntKind.i64.wrap (1 + (kp : Int)) = (k : Int) := by rw [hk]; rw [IntWalk.i64_in _ (by omega)]; push_cast; omega
  obtain ⟨d, hd, hpd⟩ := pickI_nat (x := zd) (n := k) (by omega)
  have HPD := hid hpd
  have HKK := hid hk
  have HZ := hid hz
  have HZD := hid hzd
  have HX := hid hc
  clear hS hpk hkp hk hpd hz hzd hRI hRb hc hCI hCb zR
  go_enter Tryz.func3, Tryz.ntmps3
  go_wp2_with (first | go_big_skip | go_big_guard | (go_at_call 8; refine (awake16_any _).mono ?_; rintro _ w3 ⟨rfl, h4⟩; have hst3 := St.call0 hst h4; clear h4 hst) | (go_at_call 9; refine (made16_any _).mono ?_; rintro _ _ ⟨gm, ga, x0, gs, rfl, hg, h4⟩; obtain ⟨p, q, r, rfl⟩ : ∃ p q r, gs = [p, q, r] := (match gs, hg with | [p, q, r], _ => ⟨p, q, r, rfl⟩); have hm0 : St w [] _ (mP gm ga x0 (W0 p q r) ++ _) := (by have h5 := St.call hst3 h4; rw [newA_ak] at h5; exact h5); clear h4 hg hst3; obtain ⟨A1, hA1, hA2⟩ := put_flush (p := p) (q := q) (r := r) (c := c) (π := fun _ => 0) (μ := fun _ => 0) hk1 hk3; have HA1 := hid hA1; have HA2 := hid hA2; clear hA1 hA2; have HG0 := hid (show MGood (G16 p q r c k) 10 from h16_good ⟨by omega, by omega⟩); unfold PM) | (go_at_call 10; refine (pick_spec zc 3 _ HZ.out (by first | decide | omega)).mono ?_; rw [HPK.out]; rintro _ _ ⟨rfl, h4⟩; have hm1 := St.call0 hm0 h4; clear h4 hm0) | (go_at_call 10; refine (pick_spec zd (k : Int) _ HZD.out (by first | decide | omega)).mono ?_; rw [HPD.out]; rintro _ _ ⟨rfl, h4⟩; have hm2 := St.call0 hm1 h4; clear h4 hm1) | (go_at_call 11; refine (of16_any c _).mono ?_; rintro _ _ ⟨gb, rfl, h4⟩; have hm3 := St.behind (A := (mP gm ga x0 (W0 p q r))) (St.call hm2 h4); clear h4 hm2) | (go_at_call 12; have HC := points_any hm3 (some ⟨gb, 0, none⟩) 256 256 (sect c) (gb_sect (List.mem_append_right _ (.head _))).rd (sect_len _) (by decide) k (by omega); rw [HS.out] at HC; refine HC.mono ?_; clear HC; rintro _ _ ⟨sa, sc, rfl, h4⟩; have hm4 := St.behind (A := (mP gm ga x0 (W0 p q r))) h4; clear h4 hm3) | (refine wl_alloc (T := 34) hm4 rfl rfl ?_; intro gp _ hm5; clear hm4) | (refine wl_storeA [] hm5 rfl rfl rfl rfl (ptr_len HL.out _ _ _) (ptr_ones _ _ _ _ _ _) (ptr_len L32.nones _ _ _) ?_; intro _ hm6; clear hm5; have hm7 := St.behind (A := (mP gm ga x0 (W0 p q r))) hm6; clear hm6) | (refine wl_loadE rfl rfl rfl ?_; refine ⟨_, Loads.blkA (P := Tryz.prog) (T := 34) (vs := (ptrCells (.slice sa k sc) 1 0 S)) hm7 (by rw [ptr_len HL.out]; exact TyA.out) (List.mem_append_right _ (.head _)) (ptr_all _ _ _ _), ?_⟩) | (go_at_call 13; have HC := puts_any hm7 (w0_good p q r) sa k sc (onDevs k) 1 0 S HL.out (fun _ h => Rd.row h (.tail _ (.head _))) (onDevs_len _) (some ⟨gb, 0, none⟩) 256 256 _ (gb_sect (.tail _ (.tail _ (.head _)))) (by omega) _ _ HA1.out HA2.out; refine HC.mono ?_; clear HC; rintro _ _ ⟨y8, rfl, h4⟩; have hm9 : St _ _ _ ((mP gm ga y8 (G16 p q r c k)) ++ _) := h4; clear h4 hm7) | (go_at_call 14; have HC := pullM_any (mid_in (P := [_]) (Bs := []) hm9) HG0.out.sc.ok (Nat.lt_of_le_of_lt HG0.out.sc.ll (by decide)) ((d : Nat) : Int); rw [fit_pullE hk3 hd] at HC; refine HC.mono ?_; clear HC; rintro _ _ ⟨rfl, xp, h4⟩; have hm10 : St _ _ _ ((mP gm ga xp (⟨(G16 p q r c k).a.pull (d : Nat), zeroE⟩ : MV)) ++ _) := mid_out (P := [_]) (Bs := []) hm9 h4; clear h4 hm9; have HGP := hid (show MGood (⟨(G16 p q r c k).a.pull (d : Nat), zeroE⟩ : MV) 11 from HG0.out.arr (HG0.out.sc.ok.pull _) (Stays.pull _ _))) | (refine wl_loadE rfl rfl rfl ?_; refine ⟨_, Loads.blkA (P := Tryz.prog) (T := 34) (vs := (ptrCells (.slice sa k sc) 1 0 S)) hm10 (by rw [ptr_len HL.out]; exact TyA.out) (List.mem_append_right _ (.head _)) (ptr_all _ _ _ _), ?_⟩) | (go_at_call 15; have HC := restore_any hm10 HGP.out sa k sc (onDevs k) 1 0 S HL.out (onDevs_len _) (fun _ h => Rd.row h (.tail _ (.head _))) (by omega) ((d : Nat) : Int); rw [fit_gone hk3 hd] at HC; refine HC.mono ?_; clear HC; rintro _ _ ⟨xq, rfl, h4⟩; have hm11 : St _ _ _ ((mP gm ga xq (⟨(G16 p q r c k).a.pull (d : Nat), zeroE⟩ : MV)) ++ _) := h4; clear h4 hm10) | (go_at_call 16; have HC := fitM_any (mid_in (P := [_]) (Bs := []) hm11) HGP.out.sc.ok (Nat.lt_of_le_of_lt HGP.out.sc.ll (by decide)) ((d : Nat) : Int); rw [show AR.fitE _ _ = 0 from fit_fitE hk3 hd] at HC; refine HC.mono ?_; clear HC; rintro _ _ ⟨rfl, xf, gf, h4⟩; (replace h4 : St _ _ _ (arP ga xf (((G16 p q r c k).a.pull ((d : Nat) : Int)).fit ((d : Nat) : Int) gf)) := h4); rw [fit_fit hk3 hd] at h4; have HGF := hid (show MGood (F16 p q r gf c k d [] ((k + 3 : Nat) : Int)) 10 from f16_good (by omega) ⟨by omega, by omega⟩ (.inl rfl)); obtain ⟨E9, M9, NOW, hr9, hg9, hb9, hn9, hw9⟩ := fits_out (p := p) (q := q) (r := r) (g := gf) (ao := sa) (cc := sc) hk1 hk3 hd HS.out; have HR9 := hid hr9; have HG9 := hid hg9; have HB9 := hid hb9; have HN9 := hid hn9; clear hr9 hg9 hb9 hn9; have HW9 := hid hw9; clear hw9; have hm12 : St _ _ _ ((mP gm ga xf (F16 p q r gf c k d [] ((k + 3 : Nat) : Int))) ++ _) := mid_out (P := [_]) (Bs := []) hm11 h4; clear h4 hm11) | (refine wl_loadE rfl rfl rfl ?_; refine ⟨_, Loads.blkA (P := Tryz.prog) (T := 34) (vs := (ptrCells (.slice sa k sc) 1 0 S)) hm12 (by rw [ptr_len HL.out]; exact TyA.out) (List.mem_append_right _ (.head _)) (ptr_all _ _ _ _), ?_⟩) | (go_at_call 15; have HC := restore_any hm12 HGF.out sa k sc (onDevs k) 1 0 S HL.out (onDevs_len _) (fun _ h => Rd.row h (.tail _ (.head _))) (by omega) ((d : Nat) : Int); rw [HR9.out] at HC; refine HC.mono ?_; clear HC; rintro _ _ ⟨xs, rfl, h4⟩; have hm13 : St _ _ _ ((mP gm ga xs M9) ++ _) := h4; clear h4 hm12) | (go_at_call 17; have HC := peek_any (St.marr hm13 HG9.out.sc.ok.d0) HG9.out.sc.ok (Nat.lt_of_le_of_lt HG9.out.sc.ll (by decide)) ((d : Nat) : Int) 5; rw [HB9.out, HN9.out] at HC; refine HC.mono ?_; clear HC; rintro _ _ ⟨u5, rfl, h4⟩; obtain ⟨ua5, uc5, rfl⟩ := St.rowSliceAt [] h4; have hm14 := St.behind (A := (mP gm ga xs M9)) (St.call hm13 h4); clear h4 hm13; refine Or.elim HW9.out (fun h9 => ?_) (fun h9 => ?_); all_goals clear HW9; all_goals first | (obtain ⟨hk9, rfl, rfl, hq1, hq2, hq3⟩ := h9; have HQ1 := hid hq1; have HQ2 := hid hq2; have HQ3 := hid (show (M9.a.loose.length : Int) = 1 from by rw [hq3]; rfl); clear hq1 hq2 hq3; have d5 : ((k : Int) == 1) = false := beq_eq_false_iff_ne.2 (by omega); clear hk9) | (obtain ⟨hk9, rfl, rfl⟩ := h9; have d5 : ((k : Int) == 1) = true := beq_iff_eq.2 (by omega); clear hk9)) | (go_at_call 11; refine (of16_any 0 _).mono ?_; rintro _ _ ⟨g0, rfl, h4⟩; have hm41 := St.behind (A := (mP gm ga xs M9)) (St.call hm14 h4); clear h4 hm14) | (go_at_call 18; have HC := sameBytes_any _ _ _ _ (sect 0) (sect 0) _ (Rd.row hm41 (List.mem_append_right _ (.tail _ (.head _)))) (((gb_sect (.head _)) : GB w [] _ _ _ _).rd _ (St.sub hm41 (List.sublist_append_right _ _))); rw [beq_self_eq_true] at HC; refine HC.mono ?_; clear HC; rintro _ _ ⟨rfl, h4⟩; have hm42 := St.call0 hm41 h4; clear h4 hm41) | (go_at_call 17; have HC := peek_any (St.marr hm14 HG9.out.sc.ok.d0) HG9.out.sc.ok (Nat.lt_of_le_of_lt HG9.out.sc.ll (by decide)) ((d : Nat) : Int) 6; rw [HQ1.out, HQ2.out] at HC; refine HC.mono ?_; clear HC; rintro _ _ ⟨u6, rfl, h4⟩; obtain ⟨ua6, uc6, rfl⟩ := St.rowSliceAt [] h4; have hm61 := St.behind (A := (mP gm ga xs M9)) (St.call hm14 h4); clear h4 hm14) | (go_at_call 18; have HC := sameBytes_any _ _ _ _ (sect c) (sect c) _ (Rd.row hm61 (List.mem_append_right _ (.tail _ (.head _)))) (((gb_sect (.tail _ (.tail _ (.tail _ (.tail _ (.head _)))))) : GB w [] _ _ _ _).rd _ (St.sub hm61 (List.sublist_append_right _ _))); rw [beq_self_eq_true] at HC; refine HC.mono ?_; clear HC; rintro _ _ ⟨rfl, h4⟩; have hm62 := St.call0 hm61 h4; clear h4 hm61) | (go_at_call 11; refine (of16_any 0 _).mono ?_; rintro _ _ ⟨g1, rfl, h4⟩; have hm63 := St.behind (A := (mP gm ga xs M9)) (St.call hm62 h4); clear h4 hm62) | (go_at_call 18; have HC := sameBytes_any _ _ _ _ (sect 0) (sect 0) _ (Rd.row hm63 (List.mem_append_right _ (.tail _ (.head _)))) (((gb_sect (.head _)) : GB w [] _ _ _ _).rd _ (St.sub hm63 (List.sublist_append_right _ _))); rw [beq_self_eq_true] at HC; refine HC.mono ?_; clear HC; rintro _ _ ⟨rfl, h4⟩; have hm64 := St.call0 hm63 h4; clear h4 hm63) | (go_at_call 19; have HC := loose_any (St.marr hm64 HG9.out.sc.ok.d0); rw [HQ3.out] at HC; refine HC.mono ?_; clear HC; rintro _ _ ⟨rfl, h4⟩; have hm65 := St.call0 hm64 h4; clear h4 hm64))
  · go_ret
    exact ⟨rfl, hm42.nil⟩
  · go_ret
    exact ⟨rfl, hm65.nil⟩
end
end Go.Proofs.YtmdfbdfijnmhkaaGreat
namespace Go.Proofs.YtmdfbdfijnmhkaaGreat
set_option linter.unusedVariables false
set_option linter.unusedSimpArgs false
open Go.ChangeShapes Go.WideShapes Go.ChangeAt Go.RowKit Hp
set_option maxRecDepth 100000 in
theorem mirrorFits_lifted (os : Os) (started : os.Started) (H : Type) (enc : TypeId × Value → H) :
    ReturnsInHanded {} Tryz.checked os 3 .any (Rows.mirrorFitsSpec.pre6 enc Tryz.prog Tryz.f3 Rows.mirrorFitsRow.domain false) (Rows.mirrorFitsSpec.post enc Tryz.prog Tryz.f3 false true false false) := by
  refine returnsInHanded_of_change (C := Tryz.checked) own started (by kernel_rfl) Tryz.func3
    (ChangeSpec.witness6 (enc := enc) (C := Tryz.checked) false ⟨#[], #[.int .u8 0, .int .i64 0, .int .i64 0], []⟩ 8 (by kernel_rfl) (by kernel_rfl) (by kernel_rfl) (by kernel_rfl)) ?_
  intro W base args ds gs before hval0 hW hcnd _
  have hval : ∀ (j : Nat) t v, Tryz.f3.params[j]? = some t → args[j]? = some v → Value.okWide Tryz.prog W .any base t v := hval0
  have hW' := hW
  obtain ⟨p, q, hAA0, hV, rfl, hfz, hnd⟩ := hW
  have hA : DataW.TrodAll enc Tryz.prog W 0 (fun _ => true) true Tryz.f3.params.toList args.toList ds p := hAA0
  rw [Tryz.params3] at hA hval
  have hk := hA
  obtain ⟨v0, v1, v2, d0, d1, d2, p0, p1, p2, rfl, rfl, rfl, h0, h1, h2⟩ := trodAll_three hA
  obtain ⟨rfl, rfl⟩ := trodVars_none hV
  obtain ⟨n0, h0⟩ := h0
  obtain ⟨b0, rfl⟩ := open_u8 (hval 0 _ v0 rfl rfl) h0
  obtain ⟨n1, h1⟩ := h1
  obtain ⟨z1, rfl, hl1, hu1⟩ := open_int (hval 1 _ v1 rfl rfl) h1
  obtain ⟨n2, h2⟩ := h2
  obtain ⟨z2, rfl, hl2, hu2⟩ := open_int (hval 2 _ v2 rfl rfl) h2
  clear hAA0 hval0
  simp only [List.append_nil] at hW'
  refine (fits16_any b0 z1 z2 W ⟨hl1, hu1⟩ ⟨hl2, hu2⟩).mono fun e W' ⟨he, hg⟩ => ?_
  subst he
  exact ⟨_, rfl, post_of_kept (pv := []) hW' (fun _ _ _ => (trodAll_cons_mk (shut_bool Tryz.underlying4 _) trodAll_mk0)) (fun sp hsp => by
      rw [Tryz.params3]
      exact args_kept (by decide) hk hg.below (fun p hp => hW'.lt p hp) sp hsp) (fun _ _ => rfl) (by simp)
    (hg.below.frame _)⟩
theorem mirrorFits_over : Rows.mirrorFitsRow.holds Tryz.pinned (OpenSpec.ofChange Rows.mirrorFitsSpec) :=
  OpenClaim.holds_of_wide 3 Tryz.f3 rfl rfl rfl rfl rfl rfl rfl ⟨rfl, rfl, rfl, rfl, rfl⟩ rfl rfl rfl rfl rfl (by kernel_rfl) Tryz.func3 (by kernel_rfl)
    (of_decide_eq_true (by kernel_rfl)) (by unfold Func.isWrapper; first | (rw [if_pos (by decide +kernel)]; kernel_rfl) | (rw [if_neg (by decide +kernel)]; exact ⟨rfl, rfl⟩))
    (fun os started H enc _ => mirrorFits_lifted os started H enc)
theorem mirrorFits_proved : Rows.MirrorFitsSaid :=
  mirrorFits_over
end Go.Proofs.YtmdfbdfijnmhkaaGreat
