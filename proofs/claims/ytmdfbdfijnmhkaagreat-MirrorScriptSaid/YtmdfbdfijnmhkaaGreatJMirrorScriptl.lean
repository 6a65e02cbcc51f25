import Derived.Test.YtmdfbdfijnmhkaaGreatJMirrorScriptk
import Derived.Test.YtmdfbdfijnmhkaaGreatJMirrorScripte
import Derived.Test.YtmdfbdfijnmhkaaGreatJMirrorScriptg
import Derived.Test.YtmdfbdfijnmhkaaGreatJMirrorScriptd
import Derived.Test.YtmdfbdfijnmhkaaGreatJMirrorScripta
import Derived.Test.YtmdfbdfijnmhkaaGreatJMirrorScripth
namespace Go.Proofs.YtmdfbdfijnmhkaaGreat
set_option linter.unusedVariables false
set_option linter.unusedSimpArgs false
set_option maxRecDepth 100000
set_option maxHeartbeats 8000000
section
open Go.RowKit Hp
attribute [local irreducible] Go.Calls Go.wpList
theorem newA_mg {s d : Nat} {gs : List Nat} (hd : 2 ≤ d ∧ d ≤ 8) (hs : 8 ≤ s ∧ s ≤ 4096) (hg : gs.length = d) : MGood ⟨zX s gs, zeroE⟩ 0 := by
 refine ⟨⟨newA_ok ⟨by omega, by omega⟩ (by omega), ?_, ⟨Int.le_refl _, Int.le_refl _⟩, Nat.le_refl _⟩, rfl, ?_⟩
 ·cases gs with
  | nil => simp at hg; omega
  | cons g l =>
   show 8 ≤ (yM s g).firm.length; rw [show (yM s g).firm.length = s from List.length_replicate]; exact hs.1
 ·intro e he; rw [List.eq_of_mem_replicate he]; decide
theorem wrote_good {m : MV} {b : List UInt8} : ∀ {l : List (Int × Int)} {a : AR} {k N : Nat}, MGood (m.withA a) N → MGood (m.withA (zU b a k l).a) (N + l.length)
 | [], a, k, N, h => by
  unfold zU jD; split <;> exact h
 | z :: l, a, k, N, h => by
  have h1 : MGood (m.withA (a.write z.1 z.2 b)) (N + 1) := h.arr (h.sc.ok.write _ _ _) (Stays.write _ _ _ _); rw [show N + (z :: l).length = N + 1 + l.length by rw [List.length_cons]; omega]; unfold zU; split
  ·exact wrote_good h1
  ·split
   ·exact h1.mono (Nat.le_add_right _ _)
   ·exact wrote_good h1
theorem put_good {m : MV} {N : Nat} (h : MGood m N) (l : List (Int × Int)) (b : List UInt8) : MGood (m.withA (m.put l b).a) (N + l.length) := by
 unfold MV.put; split
 ·exact wrote_good h
 ·exact MGood.mono h (Nat.le_add_right _ _)
theorem ybe {m : MV} {d : Nat} : ∀ {k : Nat} {a : AR} {n N : Nat}, MGood (m.withA a) N → MGood (m.withA (zr d k a n).a) (N + k)
 | 0, a, n, N, h => by
  unfold zr jD; split <;> exact h
 | k + 1, a, n, N, h => by
  have h1 : MGood (m.withA (a.flush ((d - (k + 1) : Nat) : Int))) (N + 1) := h.arr (h.sc.ok.flush _) (Stays.flush _ _); rw [show N + (k + 1) = N + 1 + k by omega]; unfold zr; split
  ·exact (ybe h).mono (by omega)
  ·split
   ·exact ybe h1
   ·split
    ·exact h1.mono (Nat.le_add_right _ _)
    ·exact ybe h1
theorem flush_good {m : MV} {N : Nat} (h : MGood m N) : MGood (m.withA m.flush.a) (N + m.a.devs.length) := by
 unfold MV.flush; split
 ·exact MGood.mono h (Nat.le_add_right _ _)
 ·exact ybe h
theorem made16_any (w : World) : Calls Tryz.prog 9 #[] w fun e w' => ∃ gm ga x gs, e = .returned (.tuple #[.pointer (some ⟨ga, 0, none⟩), PM gm]) ∧ gs.length = 3 ∧ St w [] w' (mP gm ga x ⟨zX 8 gs, zeroE⟩) := by
 have hst0 := St.refl w; go_enter Tryz.func9, Tryz.ntmps9; go_wp2_with (first | (go_at_call 28; refine (newM_any 3 8 (by decide) (by decide) _).mono ?_; rintro _ w1 ⟨ga, x, gs, rfl, hgl, h4⟩; have hst1 : St w [] w1 (yj ga x (zX 8 gs) ++ []) := St.call hst0 h4; have HGL := ya hgl; clear h4 hgl hst0) | (go_at_call 30; refine (mirNew_any hst1 (by intro h; have h2 := congrArg List.length h; rw [show (zX 8 gs).devs.length = 3 from (List.length_map _).trans HGL.out] at h2; cases h2)).mono ?_; rintro _ w2 ⟨gm, rfl, h4⟩; have hst2 : St w [] w2 (mP gm ga x ⟨zX 8 gs, zeroE⟩) := (by rw [List.append_nil] at h4; exact h4); clear h4 hst1; unfold PM)); go_ret2; exact ⟨gm, ga, x, gs, rfl, HGL.out, hst2⟩
section
theorem loadedPt2 (A : Addr) : loadVar 34 A = yn 34 A := rfl
attribute [local go_sem ↓] loadedPt2 loadedAs8
section
variable {w0 w : World} {M : List Nat} {R : List HA} {gm ga : Nat} {x : GA} {m : MV} {N : Nat} (hS : St w0 M w (mP gm ga x m ++ R)) (hg : MGood m N) (ao : Option Addr) (n c : Nat) (l : List (Int × Int)) (b v : Int) (S : List UInt8) (hL : L32 S) (hA : ∀ w, St w0 M w R → Rd w (.slice ao n c) 2 n (yu l)) (hn : l.length = n) (bo : Option Addr) (bn bc : Nat) (bs : List UInt8) (hb : GB w0 M R (.slice bo bn bc) bn bs)
include hS hg ao n c l b v S hL hA hn bo bn bc bs hb
theorem puts_any (hN : N + n ≤ 800000) (A1 A2 : AR) (h1 : m.put l bs = ⟨0, n, A1⟩) (h2 : (m.withA A1).flush = ⟨0, 3, A2⟩) :
  Calls Tryz.prog 13 #[PM gm, .agg (yd (.slice ao n c) b v S).toArray, .slice bo bn bc] w fun e w' => ∃ x', e = .returned (.bool true) ∧ St w0 M w' (mP gm ga x' (m.withA A2) ++ R) := by
 have hst := hS; have HG := ya hg; have HL := ya hL; have HN := ya hn; have HA := ya hA; have HB := ya hb; have HG2 := ya (show MGood (m.withA A1) (N + n) from by have := put_good hg l bs; rw [h1, hn] at this; exact this); have H1 := ya h1; have H2 := ya h2; clear hS hg hL hn hA hb h1 h2; unfold PM; go_enter Tryz.func13, Tryz.ntmps13; go_wp2_with (first | (refine zj hst fun g3 w1 hst0 => ?_; clear hst; have hst1 : St w0 M w1 (mP gm ga x m ++ (.blk g3 34 (yd (.slice ao n c) b v S) :: R)) := zB (A := mP gm ga x m) hst0; clear hst0) | (refine jl (Loads.at [] hst0 rfl) ?_) | (refine jl (Loads.blk hst1 TyS.out (zR zH) rfl) ?_) | (refine jl (Loads.blk hst2 TyS.out (zR zH) rfl) ?_) | (refine jl (Loads.blk hst3 TyS.out (zR zH) rfl) ?_) | (go_at_call 24; have HC := put_any hst1 HG.out ao n c l (fun w h => HA.out w (St.sub h zC)) HN.out bo bn bc bs (GB.more (P := [_]) HB.out) (by omega); rw [H1] at HC; refine HC.mono ?_; clear HC; rintro _ w2 ⟨x2, rfl, h4⟩; have hst2 := h4; clear h4 hst1) | (go_at_call 26; have HC := mflush_any hst2 HG2.out hN; rw [H2] at HC; refine HC.mono ?_; clear HC; rintro _ w3 ⟨x3, rfl, h4⟩; have hst3 : St w0 M w3 (mP gm ga x3 (m.withA A2) ++ _) := h4; clear h4 hst2)); go_ret; exact ⟨x3, rfl, sub_x hst3⟩
theorem gets_any (hN : N + 2 * n ≤ 900000) (hbn : bn ≤ 100000) (m' : MV) (h1 : m.get (yq ao n c l b v S) = ⟨0, bs, m'⟩) :
  Calls Tryz.prog 25 #[PM gm, .agg (yd (.slice ao n c) b v S).toArray, .slice bo bn bc] w fun e w' => ∃ x', e = .returned (.bool true) ∧ St w0 M w' (mP gm ga x' m' ++ R) := by
 have hst := hS; have HG := ya hg; have HL := ya hL; have HN := ya hn; have HA := ya hA; have HB := ya hb; have H1 := ya h1; clear hS hg hL hn hA hb h1; unfold PM; go_enter Tryz.func25, Tryz.ntmps25; go_wp2_with (first | (refine zj hst fun g3 w1 hst0 => ?_; clear hst; have hst1 : St w0 M w1 (mP gm ga x m ++ (.blk g3 34 (yd (.slice ao n c) b v S) :: R)) := zB (A := mP gm ga x m) hst0; clear hst0) | (refine jl (Loads.blkA (T := 34) (vs := yd (.slice ao n c) b v S) hst1 (by rw [yo HL.out]; exact TyA.out) (zR zH) (yz _ _ _ _)) ?_) | (go_at_call 22; have HC := get_any hst1 HG.out ao n c l b v S HL.out HN.out (fun w h => HA.out w (St.sub h zC)) hN; rw [H1] at HC; refine HC.mono ?_; clear HC; rintro _ w2 ⟨u, x2, rfl, h4⟩; obtain ⟨ua, uc, rfl⟩ := St.rowPSlice [] h4; have hst2 := h4; clear h4 hst1) | (go_at_call 18; refine (qy _ _ _ _ bs bs _ (Rd.rowP hst2 zH) (HB.out.rd _ (St.sub hst2 (.cons _ (zC.trans zA))))).mono ?_; rw [beq_self_eq_true]; rintro _ w3 ⟨rfl, h4⟩; have hst3 := St.call0 hst2 h4; clear h4 hst2)); go_ret; exact ⟨x2, rfl, sub_x (ze hst3)⟩
end
end
end
section
open Go.RowKit Hp
def dk (g : Nat) (s : List UInt8) : DV := ⟨g, [sect 0, sect 0, sect 0, sect 0, sect 0, s, sect 0, sect 0], false, false, false, 0, 0⟩
def AK (p q r : Nat) (a b c : List UInt8) (L : List LW) (st : Int) : AR := ⟨[dk p a, dk q b, dk r c], L, -1, false, st⟩
theorem newA_ak (p q r : Nat) : zX 8 [p, q, r] = AK p q r (sect 0) (sect 0) (sect 0) [] 0 := by kernel_rfl
theorem ak_rE0 (p q r : Nat) (a b c : List UInt8) (L : List LW) (st : Int) : (AK p q r a b c L st).readE 0 5 = 0 := by kernel_rfl
theorem ak_rd0 (p q r : Nat) (a b c : List UInt8) (L : List LW) (st : Int) : (AK p q r a b c L st).read 0 5 = AK p q r a b c L st := by kernel_rfl
theorem ak_rB0 (p q r : Nat) (a b c : List UInt8) (L : List LW) (st : Int) : (AK p q r a b c L st).readB 0 5 = L.foldl (jV 0 5) a := by kernel_rfl
theorem ak_rE1 (p q r : Nat) (a b c : List UInt8) (L : List LW) (st : Int) : (AK p q r a b c L st).readE 1 5 = 0 := by kernel_rfl
theorem ak_rd1 (p q r : Nat) (a b c : List UInt8) (L : List LW) (st : Int) : (AK p q r a b c L st).read 1 5 = AK p q r a b c L st := by kernel_rfl
theorem ak_rB1 (p q r : Nat) (a b c : List UInt8) (L : List LW) (st : Int) : (AK p q r a b c L st).readB 1 5 = L.foldl (jV 1 5) b := by kernel_rfl
theorem ak_ask2 (p q r : Nat) (a b c : List UInt8) (L : List LW) (st : Int) (e : List ER) (ao : Option Addr) (cc : Nat) (S : List UInt8) : (⟨AK p q r a b c L st, e⟩ : MV).askE (yq ao 2 cc (qn 2) 1 0 S) = 0 := by kernel_rfl
theorem ak_put2 (p q r : Nat) (a b c : List UInt8) (st : Int) (e : List ER) (x : UInt8) : (⟨AK p q r a b c [] st, e⟩ : MV).put (qn 2) (sect x) = ⟨0, 2, AK p q r a b c [⟨0, 5, sect x⟩, ⟨1, 5, sect x⟩] (st + 1 + 1)⟩ := by kernel_rfl
theorem ak_flush2 (p q r : Nat) (a b c : List UInt8) (st : Int) (e : List ER) (x : UInt8) : (⟨AK p q r a b c [⟨0, 5, sect x⟩, ⟨1, 5, sect x⟩] st, e⟩ : MV).flush = ⟨0, 3, AK p q r (sect x) (sect x) c [] (st + 1 + 1 + 1)⟩ := by kernel_rfl
theorem kind_good {m : MV} {dev pl : Int} {S : List UInt8} (h1 : m.a.readE dev pl = 0) (h2 : z8 (m.a.readB dev pl) = S) : m.kind dev pl S = 0 := by
 unfold MV.kind; rw [h1, if_neg (by decide), if_neg (by simp), if_pos h2]
theorem kind_ill {m : MV} {dev pl : Int} {S : List UInt8} (h1 : m.a.readE dev pl = 0) (h2 : z8 (m.a.readB dev pl) ≠ S) : m.kind dev pl S = 1 := by
 unfold MV.kind; rw [h1, if_neg (by decide), if_neg (by simp), if_neg h2]
theorem lookd_good {m : MV} {dev pl : Int} {S : List UInt8} (h1 : m.a.readE dev pl = 0) (h2 : z8 (m.a.readB dev pl) = S) (h3 : m.a.read dev pl = m.a) : m.looked dev pl S = m := by
 unfold MV.looked; rw [kind_good h1 h2, h1, if_neg (by decide), if_neg (by decide), h3]
theorem lookd_ill {m : MV} {dev pl : Int} {S : List UInt8} (h1 : m.a.readE dev pl = 0) (h2 : z8 (m.a.readB dev pl) ≠ S) (h3 : m.a.read dev pl = m.a) : m.looked dev pl S = ⟨m.a, m.e.modify dev.toNat fSm⟩ := by
 unfold MV.looked; rw [kind_ill h1 h2, h1, if_neg (by decide), if_pos rfl, h3]
section
variable {m : MV} {S : List UInt8} {but : Int} {x : Int × Int} {l ill : List (Int × Int)} (hb : x.1 ≠ but) (h1 : m.a.readE x.1 x.2 = 0)
include hb h1
theorem found_hit (h2 : z8 (m.a.readB x.1 x.2) = S) (h3 : m.a.read x.1 x.2 = m.a) : yB S but m (x :: l) ill = ⟨0, m.a.readB x.1 x.2, ill, m⟩ := by
 conv => lhs; unfold yB
 rw [if_neg hb, if_pos (kind_good h1 h2), lookd_good h1 h2 h3]; unfold MV.lookB; rw [if_pos (kind_good h1 h2)]
theorem found_miss (h2 : z8 (m.a.readB x.1 x.2) ≠ S) (h3 : m.a.read x.1 x.2 = m.a) : yB S but m (x :: l) ill = yB S but ⟨m.a, m.e.modify x.1.toNat fSm⟩ l (ill ++ [x]) := by
 conv => lhs; unfold yB
 rw [if_neg hb, kind_ill h1 h2, if_neg (by decide), if_pos rfl, lookd_ill h1 h2 h3]
end
theorem get_eq {m m' : MV} {P : PV} {B : List UInt8} {ill : List (Int × Int)} (ha : m.askE P = 0) (hf : yB P.S (-1) m P.l [] = ⟨0, B, ill, m'⟩) : m.get P = ⟨0, B, m'.heals ill B⟩ := by
 unfold MV.get; rw [ha, if_neg (by simp), hf, if_neg (by simp)]
def spo (s : List UInt8) (place : Nat) (m : UInt8) : List UInt8 := s.set place (s.getD place 0 ^^^ m)
def W2 (p q r : Nat) : MV := ⟨AK p q r (sect 2) (sect 2) (sect 0) [] 5, zeroE⟩
def W3 (p q r : Nat) : MV := ⟨AK p q r (spo (sect 2) 0 1) (sect 2) (sect 0) [] 5, zeroE⟩
def W4 (p q r : Nat) : MV := ⟨AK p q r (spo (sect 2) 0 1) (sect 2) (sect 0) [⟨0, 5, sect 2⟩] 6, [⟨0, 1, 1⟩, ⟨0, 0, 0⟩, ⟨0, 0, 0⟩, ⟨0, 0, 0⟩, ⟨0, 0, 0⟩, ⟨0, 0, 0⟩, ⟨0, 0, 0⟩, ⟨0, 0, 0⟩]⟩
theorem spo_bad : z8 (spo (sect 2) 0 1) ≠ z8 (sect 2) := by decide +kernel
theorem w2_get (p q r : Nat) (ao : Option Addr) (c : Nat) {S : List UInt8} (hS : z8 (sect 2) = S) : (W2 p q r).get (yq ao 2 c (qn 2) 1 0 S) = ⟨0, sect 2, W2 p q r⟩ :=
 get_eq (ak_ask2 ..) (found_hit (x := (0, 5)) (l := [(1, 5)]) (by decide) (ak_rE0 ..) ((congrArg z8 (show (W2 p q r).a.readB 0 5 = sect 2 from ak_rB0 ..)).trans hS) (ak_rd0 ..))
theorem w2_spoil (p q r : Nat) : (W2 p q r).a.spoil 0 5 0 1 = (W3 p q r).a := by kernel_rfl
theorem w2_spoilE (p q r : Nat) : (W2 p q r).a.spoilE 0 5 0 = 0 := by kernel_rfl
theorem w3_get (p q r : Nat) (ao : Option Addr) (c : Nat) {S : List UInt8} (hS : z8 (sect 2) = S) : (W3 p q r).get (yq ao 2 c (qn 2) 1 0 S) = ⟨0, sect 2, W4 p q r⟩ := by
 have h1 : yB S (-1) (W3 p q r) (qn 2) [] = ⟨0, sect 2, [(0, 5)], ⟨(W3 p q r).a, (W3 p q r).e.modify 0 fSm⟩⟩ := by
  refine (found_miss (x := (0, 5)) (l := [(1, 5)]) (by decide) (ak_rE0 ..) (by rw [show (W3 p q r).a.readB 0 5 = spo (sect 2) 0 1 from ak_rB0 .., ← hS]; exact spo_bad) (ak_rd0 ..)).trans ?_; exact found_hit (x := (1, 5)) (l := []) (by decide) (ak_rE1 ..) ((congrArg z8 (show (W3 p q r).a.readB 1 5 = sect 2 from ak_rB1 ..)).trans hS) (ak_rd1 ..)
 refine (get_eq (ak_ask2 ..) h1).trans ?_; kernel_rfl
theorem w4_rE (p q r : Nat) : (W4 p q r).a.readE 0 5 = 0 := ak_rE0 ..
theorem w4_rB (p q r : Nat) : (W4 p q r).a.readB 0 5 = sect 2 := by kernel_rfl
theorem w4_rd (p q r : Nat) : (W4 p q r).a.read 0 5 = (W4 p q r).a := ak_rd0 ..
theorem w4_e0 (p q r : Nat) : (W4 p q r).errs 0 = ⟨0, 1, 1⟩ := by kernel_rfl
theorem w4_e1 (p q r : Nat) : (W4 p q r).errs 1 = ⟨0, 0, 0⟩ := by kernel_rfl
end
section
open Go.RowKit
namespace Hp
variable {P : Program}
theorem ybG {w : World} {q : IntKind} (d : Nat) (l k : List Int) : ∀ (fs : List Field) (s : Nat), (∀ i f, fs[i]? = some f → f.name ≠ "_" ∧ f.offset = s + i ∧ ∃ c, P.underlying f.type = some (.int c)) → l.length = s + fs.length → k.length = s + fs.length →
  (Op.eqFields (d + 1) (intsV q l).toArray (intsV q k).toArray fs).run P w = .ok (l.drop s == k.drop s) w
 | [], s, _, h1, h2 => by
  rw [List.drop_of_length_le (by simp at h1; omega), List.drop_of_length_le (by simp at h2; omega)]; simp [Op.eqFields]
 | f :: fs, s, hall, h1, h2 => by
  obtain ⟨n1, o1, c, u1⟩ := hall 0 f rfl; have ih := ybG (w := w) (q := q) d l k fs (s + 1) (fun i g hg => by
   have := hall (i + 1) g (by simpa using hg); rw [show s + 1 + i = s + (i + 1) by omega]; exact this) (by simp at h1; omega) (by simp at h2; omega)
  have hs1 : s < l.length := by simp at h1; omega
  have hs2 : s < k.length := by simp at h2; omega
  have hl : l.drop s = l.getD s 0 :: l.drop (s + 1) := by rw [List.drop_eq_getElem_cons hs1]; simp [List.getD, hs1]
  have hk : k.drop s = k.getD s 0 :: k.drop (s + 1) := by rw [List.drop_eq_getElem_cons hs2]; simp [List.getD, hs2]
  have hp : ∀ u : List Int, s < u.length → (part f.type (intsV q u).toArray s).run P w = .ok (.int q (u.getD s 0)) w := fun u hu =>
   qq u1 (by simp [intsV, List.getD, hu])
  rw [hl, hk]; simp only [Op.eqFields, n1, ne_eq, not_false_eq_true, if_true, Sem.run_bind, o1, Nat.add_zero, hp l hs1, hp k hs2, Result.andThen_ok, run_equalIn_int w d f.type q c _ _ u1]; rw [List.cons_beq_cons]; cases hb : (l.getD s 0 == k.getD s 0)
  ·simp
  ·simp [ih]
def siok (P : Program) (T : TypeId) (n : Nat) : Bool := match P.underlying T with
 | some (.struct fs) => fs.toList.length == n && ((List.range n).all (fun i => match fs.toList[i]? with
  | some f => f.name != "_" && f.offset == i && (match P.underlying f.type with | some (.int _) => true | _ => false)
  | none => false)) && !(P.stoodInHeld T) && !(P.eqGuardType P.depth T)
 | _ => false
class TySI (P : Program) (T : TypeId) (n : outParam Nat) : Prop where
 out : siok P T n = true
theorem si_spec {T : TypeId} {n : Nat} (h : siok P T n = true) : P.underlying T = some (.struct (P.fieldsOf T)) ∧ (P.fieldsOf T).toList.length = n ∧ (∀ i f, (P.fieldsOf T).toList[i]? = some f → f.name ≠ "_" ∧ f.offset = 0 + i ∧ ∃ c, P.underlying f.type = some (.int c)) ∧ P.stoodInHeld T = false ∧ P.eqGuardType P.depth T = false := by
 unfold siok at h; cases hu : P.underlying T with
 | none => simp [hu] at h
 | some d =>
  cases d with
  | struct fs =>
   have hf : P.fieldsOf T = fs := by simp [Program.fieldsOf, hu]
   simp only [hu] at h; rw [hf]; simp only [Bool.and_eq_true, beq_iff_eq, Bool.not_eq_true'] at h; obtain ⟨⟨⟨h1, h2⟩, h3⟩, h4⟩ := h; refine ⟨rfl, h1, fun i f hi => ?_, h3, h4⟩; have hlt := (List.getElem?_eq_some_iff.1 hi).1; have := List.all_eq_true.1 h2 i (by rw [List.mem_range]; omega); rw [hi] at this; simp only [Bool.and_eq_true, bne_iff_ne, ne_eq, beq_iff_eq] at this; refine ⟨this.1.1, by omega, ?_⟩; cases hk : P.underlying f.type with
   | none => simp [hk] at this
   | some q => cases q <;> first | (simp [hk] at this; done) | exact ⟨_, rfl⟩
  | _ => simp [hu] at h
section
variable {w : World} {T : TypeId} {n : Nat} {q : IntKind} [h : TySI P T n] (l k : List Int) (hl : l.length = n) (hk : k.length = n)
include l k hl hk
theorem run_eqlSI :
  (binOp .eql T (.agg (intsV q l).toArray) (.agg (intsV q k).toArray)).run P w = .ok (.bool (l == k)) w := by
 obtain ⟨hu, h1, h2, h3, _⟩ := si_spec h.out; rw [run_eql_struct, show (10000 : Nat) = 9999 + 1 from rfl, run_equalIn_struct w 9999 T _ _ hu h3, ybG 9998 l k _ 0 h2 (by omega) (by omega)]; rfl
theorem run_neqSI :
  (binOp .neq T (.agg (intsV q l).toArray) (.agg (intsV q k).toArray)).run P w = .ok (.bool (!(l == k))) w := by
 obtain ⟨hu, h1, h2, h3, _⟩ := si_spec h.out; rw [run_neq_struct, show (10000 : Nat) = 9999 + 1 from rfl, run_equalIn_struct w 9999 T _ _ hu h3, ybG 9998 l k _ 0 h2 (by omega) (by omega)]; rfl
end
theorem run_guardSI {w : World} {T : TypeId} {n : Nat} [h : TySI P T n] (op : BinOp) (x y : Operand) (xs ys : Array Value) : (eqGuard op T x y (.agg xs) (.agg ys)).run P w = .ok () w := by
 obtain ⟨hu, h1, h2, h3, hg⟩ := si_spec h.out; unfold eqGuard; cases op <;> simp [Sem.run_bind, hg]
end Hp
end
section
open Go.RowKit Hp
attribute [local irreducible] Go.Calls Go.wpList
theorem gb_sect {w0 : World} {M : List Nat} {R : List HA} {g : Nat} {b : UInt8} (hm : HA.blk g 5 (yb (sect b)) ∈ R) : GB w0 M R (.slice (some ⟨g, 0, none⟩) 256 256) 256 (sect b) :=
 GB.blk hm (jj b) (List.take_of_length_le (by rw [jj]; exact Nat.le_refl _)) (Nat.le_refl _) (by decide)
theorem dk_fine {g : Nat} {s : List UInt8} (h : s.length = 256) : (dk g s).Fine 8 := by
 refine ⟨rfl, fun t ht => ?_, (fun h => (by cases h)), Int.le_refl _, by show (0 : Int) ≤ _; decide⟩; have h0 := jj 0; simp only [dk, List.mem_cons, List.not_mem_nil, or_false] at ht; rcases ht with rfl | rfl | rfl | rfl | rfl | rfl | rfl | rfl <;> assumption
theorem ak_ok {p q r : Nat} {a b c : List UInt8} {L : List LW} {st : Int} (ha : a.length = 256) (hb : b.length = 256) (hc : c.length = 256) (hL : ∀ w ∈ L, w.dev < 3 ∧ w.pl < 8 ∧ w.b.length = 256) : (AK p q r a b c L st).Ok := by
 refine ⟨(fun h => (by cases h)), by show 3 ≤ 8; decide, by show 8 ≤ 4096; decide, fun d hd => ?_, hL, ⟨Int.le_refl _, by show (-1 : Int) ≤ _; decide⟩⟩; simp only [AK, List.mem_cons, List.not_mem_nil, or_false] at hd; rcases hd with rfl | rfl | rfl
 ·exact dk_fine ha
 ·exact dk_fine hb
 ·exact dk_fine hc
theorem ak_good {p q r : Nat} {a b c : List UInt8} {L : List LW} {st : Int} {e : List ER} {N : Nat} (ha : a.length = 256) (hb : b.length = 256) (hc : c.length = 256) (hL : ∀ w ∈ L, w.dev < 3 ∧ w.pl < 8 ∧ w.b.length = 256) (hs : 0 ≤ st ∧ st ≤ (N : Int)) (hl : L.length ≤ N) (he : e.length = 8) (hn : ∀ x ∈ e, 0 ≤ x.rd ∧ x.rd ≤ N ∧ 0 ≤ x.sm ∧ x.sm ≤ N ∧ 0 ≤ x.he ∧ x.he ≤ N) : MGood ⟨AK p q r a b c L st, e⟩ N :=
 ⟨⟨ak_ok ha hb hc hL, by show 8 ≤ 8; decide, hs, hl⟩, he, hn⟩
theorem spo_len {s : List UInt8} {k : Nat} {m : UInt8} (h : s.length = 256) : (spo s k m).length = 256 := by unfold spo; rw [List.length_set, h]
theorem zeroE_ok (N : Nat) : ∀ x ∈ zeroE, 0 ≤ x.rd ∧ x.rd ≤ N ∧ 0 ≤ x.sm ∧ x.sm ≤ N ∧ 0 ≤ x.he ∧ x.he ≤ N := by
 intro x hx; rw [List.eq_of_mem_replicate hx]; exact ⟨Int.le_refl _, Int.natCast_nonneg _, Int.le_refl _, Int.natCast_nonneg _, Int.le_refl _, Int.natCast_nonneg _⟩
def W0 (p q r : Nat) : MV := ⟨AK p q r (sect 0) (sect 0) (sect 0) [] 0, zeroE⟩
theorem w0_good (p q r : Nat) : MGood (W0 p q r) 10 := ak_good (jj _) (jj _) (jj _) (by simp) (by decide) (by decide) rfl (zeroE_ok _)
theorem w2_good (p q r : Nat) : MGood (W2 p q r) 10 := ak_good (jj _) (jj _) (jj _) (by simp) (by decide) (by decide) rfl (zeroE_ok _)
theorem w3_good (p q r : Nat) : MGood (W3 p q r) 10 := ak_good (spo_len (jj _)) (jj _) (jj _) (by simp) (by decide) (by decide) rfl (zeroE_ok _)
theorem w4_good (p q r : Nat) : MGood (W4 p q r) 10 := ak_good (spo_len (jj _)) (jj _) (jj _) (by intro w hw; rw [List.mem_singleton.1 hw]; exact ⟨by decide, by decide, jj _⟩) (by decide) (by decide) rfl (by
 intro x hx; simp only [List.mem_cons, List.not_mem_nil, or_false] at hx; rcases hx with rfl | rfl | rfl | rfl | rfl | rfl | rfl | rfl <;> decide)
instance sI16e : TySI Tryz.prog 71 3 := ⟨by kernel_rfl⟩
theorem eqlErr (a b c a' b' c' : Int) (w : World) : (binOp .eql 71 (.agg #[.int .i64 a, .int .i64 b, .int .i64 c]) (.agg #[.int .i64 a', .int .i64 b', .int .i64 c'])).run Tryz.prog w = .ok (.bool (([a, b, c] : List Int) == [a', b', c'])) w := run_eqlSI (P := Tryz.prog) (T := 71) (q := .i64) [a, b, c] [a', b', c'] rfl rfl
theorem guardErr (op : BinOp) (x y : Operand) (xs ys : Array Value) (w : World) : (eqGuard op 71 x y (.agg xs) (.agg ys)).run Tryz.prog w = .ok () w := run_guardSI op x y xs ys
section
attribute [local go_sem ↓] loadedPt storedPt eqlErr guardErr
theorem awake16_any (w : World) : Calls Tryz.prog 8 #[] w fun e w' => e = .returned (.bool true) ∧ St w [] w' [] := by
 have hst := St.refl w; obtain ⟨S, hS⟩ : ∃ S, S = z8 (sect 2) := ⟨_, rfl⟩; have HS := ya hS.symm; have HL := ya (show L32 S from by rw [hS]; exact zZ _); clear hS; go_enter Tryz.func8, Tryz.ntmps8; go_wp2_with (first | (go_at_call 9; refine (made16_any _).mono ?_; rintro _ _ ⟨gm, ga, x0, gs, rfl, hg, h4⟩; obtain ⟨p, q, r, rfl⟩ : ∃ p q r, gs = [p, q, r] := (match gs, hg with | [p, q, r], _ => ⟨p, q, r, rfl⟩); have hm0 : St w [] _ (mP gm ga x0 (W0 p q r) ++ []) := (by have h5 := St.call hst h4; rw [newA_ak] at h5; exact h5); clear h4 hg hst; unfold PM)); go_wp2_with (first | (go_at_call 11; refine (of16_any 2 _).mono ?_; rintro _ _ ⟨gb, rfl, h4⟩; have hm1 := zB (A := (mP gm ga x0 (W0 p q r))) (St.call hm0 h4); clear h4 hm0) | (go_at_call 12; have HC := points_any hm1 (some ⟨gb, 0, none⟩) 256 256 (sect 2) (gb_sect (zR zH)).rd (jj _) (by decide) 2 (by omega); rw [HS] at HC; refine HC.mono ?_; clear HC; rintro _ _ ⟨sa, sc, rfl, h4⟩; have hm2 := zB (A := (mP gm ga x0 (W0 p q r))) h4; clear h4 hm1) | (refine yN (T := 34) hm2 fun gp _ hm3 => ?_; clear hm2) | (refine yx [] hm3 rfl rfl rfl rfl (yo HL.out _ _ _) (qH _ _ _ _ _ _) (yo L32.nones _ _ _) ?_; intro _ hm4; clear hm3; have hm5 := zB (A := (mP gm ga x0 (W0 p q r))) hm4; clear hm4)); have hX := hm5.drew; clear hm5; refine wD (S := fun w' => Ld 34 gp 0 (.agg (List.toArray (yd (.slice sa 2 sc) 1 0 S))) w') (Loads.blkA (T := 34) (vs := (yd (.slice sa 2 sc) 1 0 S)) hX (by rw [yo HL.out]; exact TyA.out) (zR zH) (yz _ _ _ _)) fun hHeld => ?_; refine jt 0 (h:=jt 1 (h:=?_)); refine yF 2 (h0:=fun K hK => ?_); go_simp; go_at_call 11; refine (of16_any 2 _).mono ?_; rintro _ _ ⟨g1, rfl, h4⟩; have hm6 := zB (A := (mP gm ga x0 (W0 p q r))) (St.call hX h4); clear h4 hX; refine kD hK (Loads.blkA (T := 34) (vs := (yd (.slice sa 2 sc) 1 0 S)) hm6 (by rw [yo HL.out]; exact TyA.out) (zR (zT zH)) (yz _ _ _ _)) (h:=fun hHeld => ?_); refine yF 3 (h0:=fun K hK => ?_); go_simp; go_at_call 13; have HC := puts_any hm6 (w0_good p q r) sa 2 sc (qn 2) 1 0 S HL.out (fun _ h => Rd.row h (zT (zT zH))) (onDevs_len _) (some ⟨g1, 0, none⟩) 256 256 _ (gb_sect zH) (by omega) _ _ (ak_put2 ..) (ak_flush2 ..); refine HC.mono ?_; clear HC; rintro _ _ ⟨y7, rfl, h4⟩; have hm8 : St _ _ _ ((mP gm ga y7 (W2 p q r)) ++ _) := h4; clear h4 hm6; refine kD hK (Loads.blkA (T := 34) (vs := (yd (.slice sa 2 sc) 1 0 S)) hm8 (by rw [yo HL.out]; exact TyA.out) (zR (zT zH)) (yz _ _ _ _)) (h:=fun hHeld => ?_); refine jt 4 (h:=jt 5 (h:=jt 6 (h:=jt 7 (h:=?_)))); refine yF 8 (h0:=fun K hK => ?_); go_simp; go_at_call 11; refine (of16_any 2 _).mono ?_; rintro _ _ ⟨g2, rfl, h4⟩; have hm9 := zB (A := (mP gm ga y7 (W2 p q r))) (St.call hm8 h4); clear h4 hm8; refine kD hK (Loads.blkA (T := 34) (vs := (yd (.slice sa 2 sc) 1 0 S)) hm9 (by rw [yo HL.out]; exact TyA.out) (zR (zT (zT zH))) (yz _ _ _ _)) (h:=fun hHeld => ?_); refine yF 9 (h0:=fun K hK => ?_); go_simp; go_at_call 25; have HC := gets_any hm9 (w2_good p q r) sa 2 sc (qn 2) 1 0 S HL.out (fun _ h => Rd.row h (zT (zT (zT zH)))) (onDevs_len _) (some ⟨g2, 0, none⟩) 256 256 _ (gb_sect zH) (by omega) (by decide) _ (w2_get p q r _ _ HS.out); refine HC.mono ?_; clear HC; rintro _ _ ⟨y10, rfl, h4⟩; have hm11 : St _ _ _ ((mP gm ga y10 (W2 p q r)) ++ _) := h4; clear h4 hm9; refine kD hK (Loads.blkA (T := 34) (vs := (yd (.slice sa 2 sc) 1 0 S)) hm11 (by rw [yo HL.out]; exact TyA.out) (zR (zT (zT zH))) (yz _ _ _ _)) (h:=fun hHeld => ?_); refine jt 10 (h:=jt 11 (h:=jt 12 (h:=jt 13 (h:=?_)))); refine yF 14 (h0:=fun K hK => ?_); go_simp; go_at_call 35; have HC := spoilM_any (zJ (P := [_]) (Bs := []) hm11) (w2_good p q r).sc.ok 0 5 0 1; rw [w2_spoil, w2_spoilE] at HC; refine HC.mono ?_; clear HC; rintro _ _ ⟨rfl, xs, h4⟩; have hm12 : St _ _ _ ((mP gm ga xs (W3 p q r)) ++ _) := jg (P := [_]) (Bs := []) hm11 h4; clear h4 hm11; refine kD hK (Loads.blkA (T := 34) (vs := (yd (.slice sa 2 sc) 1 0 S)) hm12 (by rw [yo HL.out]; exact TyA.out) (zR (zT (zT zH))) (yz _ _ _ _)) (h:=fun hHeld => ?_); refine jt 15 (h:=jt 16 (h:=jt 17 (h:=jt 18 (h:=jt 19 (h:=?_))))); refine yF 20 (h0:=fun K hK => ?_); go_simp; go_at_call 11; refine (of16_any 2 _).mono ?_; rintro _ _ ⟨g3, rfl, h4⟩; have hm13 := zB (A := (mP gm ga xs (W3 p q r))) (St.call hm12 h4); clear h4 hm12; refine kD hK (Loads.blkA (T := 34) (vs := (yd (.slice sa 2 sc) 1 0 S)) hm13 (by rw [yo HL.out]; exact TyA.out) (zR (zT (zT (zT zH)))) (yz _ _ _ _)) (h:=fun hHeld => ?_); refine yF 21 (h0:=fun K hK => ?_); go_simp; go_at_call 25; have HC := gets_any hm13 (w3_good p q r) sa 2 sc (qn 2) 1 0 S HL.out (fun _ h => Rd.row h (zT (zT (zT (zT zH))))) (onDevs_len _) (some ⟨g3, 0, none⟩) 256 256 _ (gb_sect zH) (by omega) (by decide) _ (w3_get p q r _ _ HS.out); refine HC.mono ?_; clear HC; rintro _ _ ⟨y14, rfl, h4⟩; have hm15 : St _ _ _ ((mP gm ga y14 (W4 p q r)) ++ _) := h4; clear h4 hm13; refine kD hK (Loads.blkA (T := 34) (vs := (yd (.slice sa 2 sc) 1 0 S)) hm15 (by rw [yo HL.out]; exact TyA.out) (zR (zT (zT (zT zH)))) (yz _ _ _ _)) (h:=fun hHeld => ?_); refine jt 22 (h:=jt 23 (h:=?_)); refine jn ?_; clear hHeld; go_wp2_with (first | (go_at_call 36; have HC := qi (zJ (P := [_]) (Bs := []) hm15) (w4_good p q r).sc.ok (Nat.lt_of_le_of_lt (w4_good p q r).sc.ll (by decide)) 0 5; rw [w4_rE, w4_rB, w4_rd] at HC; refine HC.mono ?_; clear HC; rintro _ _ ⟨u, rfl, h4⟩; have hm16 := zB (A := (mP gm ga y14 (W4 p q r))) (qJ (Q := [_]) (P := [_]) (Bs := []) hm15 h4); clear h4 hm15) | (go_at_call 11; refine (of16_any 2 _).mono ?_; rintro _ _ ⟨g4, rfl, h4⟩; have hm17 := zB (A := (mP gm ga y14 (W4 p q r))) (St.call hm16 h4); clear h4 hm16) | (go_at_call 18; have HC := qy _ _ _ _ (sect 2) (sect 2) _ (Rd.rowP hm17 (zR (zT zH))) (((gb_sect zH) : GB w [] _ _ _ _).rd _ (St.sub hm17 zA)); rw [beq_self_eq_true] at HC; refine jc hm17 HC fun _ hm18 => ?_; clear HC hm17) | (go_at_call 31; have HC := errs_any hm18 (w4_good p q r) 0; rw [w4_e0] at HC; refine HC.mono ?_; clear HC; unfold ER.cells; rintro _ _ ⟨rfl, h4⟩; have hm19 := St.call0 hm18 h4; clear h4 hm18) | (refine yH (cs := [.int .i64 0, .int .i64 1, .int .i64 1]) [(1, .int .i64 1), (2, .int .i64 1)] rfl rfl (by exact rfl) (by kernel_rfl) ?_) | (refine jP rfl rfl ?_) | (go_at_call 31; have HC := errs_any hm19 (w4_good p q r) 1; rw [w4_e1] at HC; refine HC.mono ?_; clear HC; unfold ER.cells; rintro _ _ ⟨rfl, h4⟩; have hm20 := St.call0 hm19 h4; clear h4 hm19)); go_ret; exact ⟨rfl, hm20.nil⟩
end
end
section
open Go.RowKit Hp

theorem get_mg {m : MV} {N : Nat} {P : PV} (h : MGood m N) : MGood (m.get P).m (N + 2 * P.l.length) := by
 unfold MV.get; split
 ·exact h.mono (Nat.le_add_right _ _)
 ·split
  ·exact (qC h).mono (by omega)
  ·have h1 := (qC (S := P.S) (but := -1) (l := P.l) (ill := []) h).heals (l := (yB P.S (-1) m P.l []).ill) (b := (yB P.S (-1) m P.l []).b); have h2 := found_ill (S := P.S) (but := -1) (l := P.l) (ill := []) (m := m); exact h1.mono (by rw [List.length_nil] at h2; omega)
theorem cnext_mg {S : List UInt8} {c : CR} {N : Nat} {x : Int × Int} (h : MGood c.m N) : MGood (c.next S x).m (N + 1) ∧ (c.next S x).ill.length ≤ c.ill.length + 1 := by
 have h1 := h.looked x.1 x.2 S; have h0 := h.mono (Nat.le_add_right N 1); unfold CR.next; split
 ·exact ⟨h0, Nat.le_succ _⟩
 ·split
  ·exact ⟨h1, Nat.le_succ _⟩
  ·split
   ·exact ⟨h1, by dsimp only; rw [List.length_append]; exact Nat.le_refl _⟩
   ·split
    ·exact ⟨h1, Nat.le_succ _⟩
    ·exact ⟨h1, Nat.le_succ _⟩
theorem look_mg {S : List UInt8} : ∀ {l : List (Int × Int)} {c : CR} {N : Nat}, MGood c.m N → MGood (l.foldl (CR.next S) c).m (N + l.length) ∧ (l.foldl (CR.next S) c).ill.length ≤ c.ill.length + l.length
 | [], _, _, h => ⟨h, Nat.le_refl _⟩
 | x :: l, c, N, h => by
  have h1 := cnext_mg (S := S) (x := x) h; have h2 := look_mg (S := S) (l := l) h1.1; rw [List.foldl_cons, List.length_cons]; exact ⟨h2.1.mono (by omega), by omega⟩
theorem mend_mg {any : Bool} {b : List UInt8} : ∀ {l : List (Int × Int)} {h : HR} {N : Nat}, MGood h.m N → MGood (l.foldl (HR.next any b) h).m (N + l.length)
 | [], _, _, h => h
 | x :: l, h, N, hg => by
  have h1 : MGood (h.next any b x).m (N + 1) := by
   unfold HR.next; split
   ·exact hg.healed _ _ _
   ·dsimp only; split
    ·exact hg.healed _ _ _
    ·exact hg.mono (Nat.le_add_right _ _)
  have h2 := mend_mg (any := any) (b := b) (l := l) h1; rw [List.foldl_cons, List.length_cons]; exact h2.mono (by omega)
theorem scan_mg {m : MV} {N : Nat} {P : PV} (h : MGood m N) : MGood (m.scan P).m (N + 2 * P.l.length) := by
 have h1 := look_mg (S := P.S) (l := P.l) (c := ⟨0, 0, [], [], m, false⟩) h; unfold MV.scan; split
 ·exact h.mono (Nat.le_add_right _ _)
 ·split
  ·exact h1.1.mono (by omega)
  ·have h2 := mend_mg (any := decide (0 < (m.look P).good)) (b := (m.look P).b) (l := (m.look P).ill) (h := ⟨0, 0, (m.look P).m⟩) h1.1; have h3 : (m.look P).ill.length ≤ P.l.length := Nat.le_trans h1.2 (by show 0 + _ ≤ _; omega); exact h2.mono (by omega)
theorem qw {P : Program} {ops : Array Oper} {o : Oper} {a : Act} {w : World} {K : Act → World → Prop} {Q : Exit → Act → World → Prop} {E : Prop} (hw : Region.wanted o (yielded ops a.tmps) = true) (h : wpList P ops (Q0 K Q) [o] a w) : if Region.wanted o (yielded ops a.tmps) = true then o.wp P a w K Q else E := by
 rw [if_pos hw]; exact ow_of_wl hw h
end
section
open Go.RowKit Hp
attribute [local irreducible] Go.Calls Go.wpList
theorem lies_succ {d s : Nat} {l : List (Int × Int)} {i : Nat} (hi : i < l.length) : jF d s (l.take (i + 1)) = (jF d s (l.take i) && (decide ((l.getD i (0, 0)).1 < (d : Int)) && decide ((l.getD i (0, 0)).2 < (s : Int)))) := by
 unfold jF; rw [List.take_succ_eq_append_getElem hi, List.all_append, List.getD_eq_getElem?_getD, List.getElem?_eq_getElem hi]; simp
theorem lies_not {d s : Nat} {l : List (Int × Int)} {i : Nat} (hi : i < l.length) (h : (decide ((l.getD i (0, 0)).1 < (d : Int)) && decide ((l.getD i (0, 0)).2 < (s : Int))) = false) : jF d s l = false := by
 unfold jF; rw [List.all_eq_false]; refine ⟨l[i], List.getElem_mem hi, ?_⟩; rw [List.getD_eq_getElem?_getD, List.getElem?_eq_getElem hi] at h; simpa using h
section
attribute [local go_sem ↓] j7 j6 j9 j8 j5
attribute [local irreducible] Hp.Loads
theorem rlies_any {w0 w : World} {M : List Nat} {R : List HA} {gw gE gr D : Nat} {q : RX} {m : MV} {N : Nat} (hS : St w0 M w (yg gr q ++ (yE gw gE gr D :: yC gE D m.e :: R))) (ro : RefOk m.a q) (hg : MGood m N) (hD : m.a.devs.length = D) (ao : Option Addr) (n c : Nat) (l : List (Int × Int)) (hn : l.length = n) (hA : ∀ w, St w0 M w R → Rd w (.slice ao n c) 2 n (yu l)) :
  Calls Tryz.prog 121 #[.pointer (some ⟨gw, 0, none⟩), .slice ao n c] w fun e w' => e = .returned (.bool (jF D m.a.secs l)) ∧ St w0 M w' (yg gr q ++ (yE gw gE gr D :: yC gE D m.e :: R)) := by
 have hst := hS; have Hn := ya hn; have HA := ya hA; have hnb : n ≤ 9223372036854775807 := by have := (hA w (qd hS)).bd; have h2 : maxLen = 9223372036854775807 := rfl; omega
 obtain ⟨s, hs⟩ : ∃ s, s = m.a.secs := ⟨_, rfl⟩; have hqd : q.devs.length = D := by rw [ro.dn, hD]
 have hqm : q.many = s := by rw [ro.mn, hs]
 rw [← hs]; have LDD := ya (fun (w' : World) (h : St w0 M w' (yg gr q ++ (yE gw gE gr D :: yC gE D m.e :: R))) => (Loads.blk (T := 177) (off := 0) (v := .slice (some ⟨q.gd, 0, none⟩) q.devs.length q.cd) h TyS.out (List.mem_append_left _ zH) rfl : Loads Tryz.prog w' 177 ⟨gr, 0, none⟩ (.slice (some ⟨q.gd, 0, none⟩) q.devs.length q.cd))); have LDN := ya (fun (w' : World) (h : St w0 M w' (yg gr q ++ (yE gw gE gr D :: yC gE D m.e :: R))) => (Loads.blk (T := 3) (off := 1) (v := .int .i64 (q.many : Int)) h TyS.out (List.mem_append_left _ zH) rfl : Loads Tryz.prog w' 3 ⟨gr, 1, none⟩ (.int .i64 (q.many : Int)))); rw [hqd] at LDD; rw [hqm] at LDN; obtain ⟨CD, hCD⟩ : ∃ CD, CD = q.cd := ⟨_, rfl⟩; obtain ⟨GD, hGD⟩ : ∃ GD, GD = q.gd := ⟨_, rfl⟩; rw [← hCD, ← hGD] at LDD; clear hS ro hg hD hn hA hs hqd hqm hCD hGD; go_enter Tryz.func121, Tryz.ntmps121; go_wp2; go_loopw [5] (fun ii wr => ∃ i : Nat, i ≤ n ∧ ii = .int .i64 (i : Int) ∧ Hid (jF D s (l.take i) = true) ∧ St w0 M wr (yg gr q ++ (yE gw gE gr D :: yC gE D m.e :: R))) (fun ii _ => n - (intOf ii).toNat)
 case atStart => exact ⟨0, Nat.zero_le _, rfl, ya rfl, hst⟩
 case round =>
  clear hst; obtain ⟨i, hi, rfl, HT, hst⟩ := hrel; by_cases hlt : i < n
  ·have d0 : decide ((i : Int) < (n : Int)) = true := zD (by omega); have z1 : IntKind.i64.wrap ((i : Int) + 1) = (i : Int) + 1 := IntWalk.i64_in _ (by omega); have hii : (i : Int) < (n : Int) := by omega
   have hilt := ya (show i < l.length from by rw [Hn]; exact hlt); have HSC := ya (lies_succ (d := D) (s := s) hilt.out); have HNT := ya (fun h => lies_not (d := D) (s := s) hilt.out h); obtain ⟨b, off, rfl, _⟩ := (HA.out _ (qd hst)).at hlt; have LD0 := ya (fun (w' : World) (h : St w0 M w' (yg gr q ++ (yE gw gE gr D :: yC gE D m.e :: R))) => yaY (HA.out _ (qd h)) hilt.out); have LD1 := ya (fun (w' : World) (h : St w0 M w' (yg gr q ++ (yE gw gE gr D :: yC gE D m.e :: R))) => ld_addr1 (HA.out _ (qd h)) hilt.out); obtain ⟨z, hz⟩ : ∃ z, z = l.getD i (0, 0) := ⟨_, rfl⟩; rw [← hz] at LD0 LD1 HSC HNT; clear hz; go_wp2; by_cases h1 : (D : Int) ≤ z.1
   ·have e1 : decide ((D : Int) ≤ z.1) = true := zD h1; have e1' : decide (z.1 ≥ (D : Int)) = true := e1; have HR := ya (HNT.out (by rw [zF (by omega)]; rfl)); clear h1; have hX := hst.drew; clear hst; refine wD (S := fun w' => Ld 129 gw 0 (.pointer (some ⟨gr, 0, none⟩)) w' ∧ Ld 177 gr 0 (.slice (some ⟨GD, 0, none⟩) D CD) w' ∧ Ld 3 b (off + i * 2) (.int .i64 z.1) w') ⟨yr (Loads.blk (T := 129) (off := 0) (v := .pointer (some ⟨gr, 0, none⟩)) hX TyS.out (zR zH) rfl), yr (LDD.out _ hX), yr (LD0.out _ hX)⟩ fun hHeld => ?_; refine jt 0 (h:=jt 1 (h:=jt 5 (h:=jt 6 (h:=jt 7 (h:=jt 8 (h:=jt 9 (h:=jt 10 (h:=jt 11 (h:=jt 12 (h:=?_)))))))))); refine wpAnyH_ready (rs := [2]) (by kernel_rfl) (by simp) ?_; refine (AllReadyH.cons (o := ⟨some 14, _, _, _, _, _⟩) rfl (fun K hK => ?_) AllReadyH.nil); refine qw (by rfl) ?_; refine yA hlt ?_; refine kQ hK (⟨yr (Loads.blk (T := 129) (off := 0) (v := .pointer (some ⟨gr, 0, none⟩)) hX TyS.out (zR zH) rfl), yr (LDD.out _ hX), yr (LD0.out _ hX)⟩) (h:=fun hHeld => ?_); refine jt 3 (h:=jt 4 (h:=jt 13 (h:=jt 14 (h:=ju 15 (h:=ju 16 (h:=ju 20 (h:=ju 21 (h:=ju 22 (h:=ju 23 (h:=ju 24 (h:=ju 25 (h:=ju 26 (h:=?_))))))))))))); refine wpAnyH_ready (rs := [17]) (by kernel_rfl) (by simp) ?_; refine (AllReadyH.cons (o := ⟨some 29, _, _, _, _, _⟩) rfl (fun K hK => ?_) AllReadyH.nil); rw [if_neg (by rw [show Region.wanted _ _ = false from rfl]; exact Bool.false_ne_true)]; refine kD hK (⟨yr (Loads.blk (T := 129) (off := 0) (v := .pointer (some ⟨gr, 0, none⟩)) hX TyS.out (zR zH) rfl), yr (LDD.out _ hX), yr (LD0.out _ hX)⟩) (h:=fun hHeld => ?_); refine ju 18 (h:=ju 19 (h:=ju 27 (h:=jt 28 (h:=?_)))); refine jn ?_; clear hHeld; go_wp2; go_ret; exact ⟨by rw [HR]; rfl, hX⟩
   ·by_cases h2 : (s : Int) ≤ z.2
    ·have e1 : decide ((D : Int) ≤ z.1) = false := zF h1; have e1' : decide (z.1 ≥ (D : Int)) = false := e1; have e2 : decide ((s : Int) ≤ z.2) = true := zD h2; have e2' : decide (z.2 ≥ (s : Int)) = true := e2; have HR := ya (HNT.out (by rw [decide_eq_false (p := z.2 < (s : Int)) (by omega), Bool.and_false])); clear h1 h2; have hX := hst.drew; clear hst; refine wD (S := fun w' => Ld 129 gw 0 (.pointer (some ⟨gr, 0, none⟩)) w' ∧ Ld 177 gr 0 (.slice (some ⟨GD, 0, none⟩) D CD) w' ∧ Ld 3 b (off + i * 2) (.int .i64 z.1) w' ∧ Ld 3 b (off + i * 2 + 1) (.int .i64 z.2) w' ∧ Ld 3 gr 1 (.int .i64 (s : Int)) w') ⟨yr (Loads.blk (T := 129) (off := 0) (v := .pointer (some ⟨gr, 0, none⟩)) hX TyS.out (zR zH) rfl), yr (LDD.out _ hX), yr (LD0.out _ hX), yr (LD1.out _ hX), yr (LDN.out _ hX)⟩ fun hHeld => ?_; refine jt 0 (h:=jt 1 (h:=jt 5 (h:=jt 6 (h:=jt 7 (h:=jt 8 (h:=jt 9 (h:=jt 10 (h:=jt 11 (h:=jt 12 (h:=?_)))))))))); refine wpAnyH_ready (rs := [2]) (by kernel_rfl) (by simp) ?_; refine (AllReadyH.cons (o := ⟨some 14, _, _, _, _, _⟩) rfl (fun K hK => ?_) AllReadyH.nil); refine qw (by rfl) ?_; refine yA hlt ?_; refine kQ hK (⟨yr (Loads.blk (T := 129) (off := 0) (v := .pointer (some ⟨gr, 0, none⟩)) hX TyS.out (zR zH) rfl), yr (LDD.out _ hX), yr (LD0.out _ hX), yr (LD1.out _ hX), yr (LDN.out _ hX)⟩) (h:=fun hHeld => ?_); refine jt 3 (h:=jt 4 (h:=jt 13 (h:=jt 14 (h:=jt 15 (h:=jt 16 (h:=jt 20 (h:=jt 21 (h:=jt 22 (h:=jt 23 (h:=jt 24 (h:=jt 25 (h:=jt 26 (h:=?_))))))))))))); refine wpAnyH_ready (rs := [17]) (by kernel_rfl) (by simp) ?_; refine (AllReadyH.cons (o := ⟨some 29, _, _, _, _, _⟩) rfl (fun K hK => ?_) AllReadyH.nil); refine qw (by rfl) ?_; refine yA hlt ?_; refine kQ hK (⟨yr (Loads.blk (T := 129) (off := 0) (v := .pointer (some ⟨gr, 0, none⟩)) hX TyS.out (zR zH) rfl), yr (LDD.out _ hX), yr (LD0.out _ hX), yr (LD1.out _ hX), yr (LDN.out _ hX)⟩) (h:=fun hHeld => ?_); refine jt 18 (h:=jt 19 (h:=jt 27 (h:=jt 28 (h:=?_)))); refine jn ?_; clear hHeld; go_wp2; go_ret; exact ⟨by rw [HR]; rfl, hX⟩
    ·have e1 : decide ((D : Int) ≤ z.1) = false := zF h1; have e1' : decide (z.1 ≥ (D : Int)) = false := e1; have e2 : decide ((s : Int) ≤ z.2) = false := zF h2; have e2' : decide (z.2 ≥ (s : Int)) = false := e2; have HR := ya (show jF D s (l.take (i + 1)) = true from by rw [HSC, HT, decide_eq_true (p := z.1 < (D : Int)) (by omega), decide_eq_true (p := z.2 < (s : Int)) (by omega)]; rfl); clear h1 h2; have hX := hst.drew; clear hst; refine wD (S := fun w' => Ld 129 gw 0 (.pointer (some ⟨gr, 0, none⟩)) w' ∧ Ld 177 gr 0 (.slice (some ⟨GD, 0, none⟩) D CD) w' ∧ Ld 3 b (off + i * 2) (.int .i64 z.1) w' ∧ Ld 3 b (off + i * 2 + 1) (.int .i64 z.2) w' ∧ Ld 3 gr 1 (.int .i64 (s : Int)) w') ⟨yr (Loads.blk (T := 129) (off := 0) (v := .pointer (some ⟨gr, 0, none⟩)) hX TyS.out (zR zH) rfl), yr (LDD.out _ hX), yr (LD0.out _ hX), yr (LD1.out _ hX), yr (LDN.out _ hX)⟩ fun hHeld => ?_; refine jt 0 (h:=jt 1 (h:=jt 5 (h:=jt 6 (h:=jt 7 (h:=jt 8 (h:=jt 9 (h:=jt 10 (h:=jt 11 (h:=jt 12 (h:=?_)))))))))); refine wpAnyH_ready (rs := [2]) (by kernel_rfl) (by simp) ?_; refine (AllReadyH.cons (o := ⟨some 14, _, _, _, _, _⟩) rfl (fun K hK => ?_) AllReadyH.nil); refine qw (by rfl) ?_; refine yA hlt ?_; refine kQ hK (⟨yr (Loads.blk (T := 129) (off := 0) (v := .pointer (some ⟨gr, 0, none⟩)) hX TyS.out (zR zH) rfl), yr (LDD.out _ hX), yr (LD0.out _ hX), yr (LD1.out _ hX), yr (LDN.out _ hX)⟩) (h:=fun hHeld => ?_); refine jt 3 (h:=jt 4 (h:=jt 13 (h:=jt 14 (h:=jt 15 (h:=jt 16 (h:=jt 20 (h:=jt 21 (h:=jt 22 (h:=jt 23 (h:=jt 24 (h:=jt 25 (h:=jt 26 (h:=?_))))))))))))); refine wpAnyH_ready (rs := [17]) (by kernel_rfl) (by simp) ?_; refine (AllReadyH.cons (o := ⟨some 29, _, _, _, _, _⟩) rfl (fun K hK => ?_) AllReadyH.nil); refine qw (by rfl) ?_; refine yA hlt ?_; refine kQ hK (⟨yr (Loads.blk (T := 129) (off := 0) (v := .pointer (some ⟨gr, 0, none⟩)) hX TyS.out (zR zH) rfl), yr (LDD.out _ hX), yr (LD0.out _ hX), yr (LD1.out _ hX), yr (LDN.out _ hX)⟩) (h:=fun hHeld => ?_); refine jt 18 (h:=jt 19 (h:=jt 27 (h:=jt 28 (h:=?_)))); refine jn ?_; clear hHeld; go_wp2; go_roundw
     case rel => exact ⟨i + 1, by omega, by go_num, HR, hX⟩
     case measure => simp [intOf]; omega
  ·obtain rfl : i = n := by omega
   have d0 : decide ((i : Int) < (i : Int)) = false := zF (by omega); have HT2 := ya (show jF D s l = true from by have := HT.out; rwa [List.take_of_length_le (by rw [Hn.out]; exact Nat.le_refl _)] at this); go_wp2; go_ret; exact ⟨by rw [HT2]; rfl, hst⟩
end
end
section

end
section
open Go.RowKit Go.Shelf Hp
attribute [local irreducible] Go.Calls

end
section
open Go.RowKit
namespace Hp
section
variable {P : Program}
variable {w0 w : World} {M : List Nat} {L1 L2 : List HA}
theorem Rd.frz {g off n c sz : Nat} {T : TypeId} {m : Nat × Nat} {cs xs : List Value} {L : List HA} (hst : St w0 M w L) (hm : HA.frz m g T cs ∈ L) (hn : n ≤ c) (hc : c ≤ maxLen) (hl : xs.length = n * sz) (hx : (cs.drop off).take xs.length = xs) :
  Rd w (.slice (some ⟨g, off, none⟩) n c) sz n xs := by
 refine Rd.mk hn hc hl fun j v hv => ?_; have h := hst.all _ hm; unfold HA.holds at h; rw [cell_of_row w g _ _ T _ h]; rw [← hx, List.getElem?_take] at hv; split at hv
 ·simpa using hv
 ·simp at hv
end
end Hp
end
section
open Go.RowKit Go.Shelf Hp
attribute [local irreducible] Go.Calls

instance hyArr36 : TyArrI Tryz.prog 116 8 .u32 115 := ⟨by kernel_rfl, by kernel_rfl, by kernel_rfl, by kernel_rfl⟩
def cuts (F : List UInt8) (x : Nat) : List (List UInt8) := (List.range x).map (qO F)
theorem cuts_succ (F : List UInt8) (x : Nat) : cuts F (x + 1) = cuts F x ++ [qO F x] := by simp [cuts, List.range_succ]
theorem length_cuts (F : List UInt8) (x : Nat) : (cuts F x).length = x := by simp [cuts]
theorem refFill_any (ao : Option Addr) (n c : Nat) (bs : List UInt8) (w : World) (hA : Rd w (.slice ao n c) 1 n (yb bs)) (hn : bs.length = n) (hb : n ≤ 100000) :
  Calls Tryz.prog 166 #[.slice ao n c] w fun e w' => ∃ out vs, e = .returned out ∧ vs.length = (pieces bs).length ∧ St w [] w' (.row out 28 1 vs.length vs :: jJ 5 vs (pieces bs)) := by
 have hst := St.refl w; have Hn := ya hn; clear hn; go_enter Tryz.func166, Tryz.ntmps166; go_wp2_with (first | (refine za [] [] hst (h:=fun g w1 hst1 => ?_); clear hst; have hst2 := St.toRowP (n := 0) (cap := 0) (sz := 1) yP hst1 rfl (Nat.le_refl _) (by decide) rfl; clear hst1) | (apply yar (p := yP) [] hst2; rfl; rfl; exact rfl; exact rfl; infer_instance; infer_instance; infer_instance; infer_instance; exact Rd.old hst2 hA; exact yD bs; rfl; exact yaH bs; (refine ⟨by decide, by unfold maxLen; omega, by omega⟩); intro v0 w2 hst3 _; clear hst2) | (refine za [.int _ _] [.int _ _] hst3 (h:=fun gb _ hst4 => ?_); clear hst3) | (apply yar [_] hst4; rfl; rfl; exact rfl; exact rfl; infer_instance; infer_instance; infer_instance; infer_instance; exact (j3 hst4 rfl (by decide)); exact rfl; rfl; rfl; (unfold maxLen; omega); intro v1 w9 hst5 _; clear hst4)); have hst4 : St w [] w9 [.rowP yP v1 5 1 (n + 1 + 0) (yb (qF bs 0))] := by
  have h := St.sub hst5 (.cons _ (List.Sublist.refl _)); have e : yb bs ++ [.int .u8 128] = yb (qF bs 0) := by simp [qF, yb]
  rw [← e, show n + 1 + 0 = 0 + n + 1 by omega]; exact h
 clear hst5; go_loopw [3] (fun u wr => ∃ j : Nat, j ≤ zn n ∧ St w [] wr [.rowP yP u 5 1 (n + 1 + j) (yb (qF bs j))]) (fun u _ => n + 1 + zn n - lenS u)
 case atStart => exact ⟨0, by omega, hst4⟩
 case round =>
  clear hst4; obtain ⟨j, hj, hst⟩ := hrel; obtain ⟨au, cu, hu⟩ := St.rowPSlice [] hst; obtain ⟨L, hL⟩ : ∃ L, L = n + 1 + j := ⟨_, rfl⟩; have hnl : zn n < 64 := by unfold zn; omega
  have hlen : (Builtin.len_ #[28] 3 #[u3]).run Tryz.prog wr = .ok (.int .i64 (L : Int)) wr := by subst hu; rw [hL]; rfl
  have hL1 : L ≤ 200000 := by omega
  have Hu := ya hu; obtain ⟨r, hr⟩ : ∃ r, r = L % 64 := ⟨_, rfl⟩; have e1 : Int.tmod (L : Int) 64 = (r : Int) := by rw [Int.tmod_eq_emod_of_nonneg (by omega)]; omega
  have e2 : (L : Int) % 64 = (r : Int) := by omega
  clear hu; by_cases hjn : j < zn n
  ·have hne := noughts_ne hjn; have d1 : ((r : Int) != 56) = true := by simp; omega
   rw [← hL] at hst; have HL := ya hL; clear hL hr hne; go_wp2_with (first | (refine za [.int _ _] [.int _ _] hst (h:=fun gb _ hst2 => ?_); clear hst) | (apply yar [_] hst2; rfl; rfl; exact rfl; exact rfl; infer_instance; infer_instance; infer_instance; infer_instance; exact (j3 hst2 rfl (by decide)); exact rfl; rfl; rfl; (unfold maxLen; omega); intro v1 w9 hst3 _; clear hst2)); have hst5 : St w [] w9 [.rowP yP v1 5 1 (n + 1 + (j + 1)) (yb (qF bs (j + 1)))] := by
    have h := St.sub hst3 (.cons _ (List.Sublist.refl _)); rw [← padB_succ, show n + 1 + (j + 1) = L + 1 by rw [HL.out]; omega]; exact h
   clear hst3; obtain ⟨a9, c9, hu9⟩ := St.rowPSlice [] hst5; have Hu9 := ya hu9; clear hu9; go_roundw
   case rel => exact ⟨j + 1, by omega, hst5⟩
   case measure =>
    rw [Hu9, Hu]; show n + 1 + zn n - (n + 1 + (j + 1)) < n + 1 + zn n - (n + 1 + j); omega
  ·have ej : j = zn n := by omega
   subst ej; have hq := noughts_eq n; have d1 : ((r : Int) != 56) = false := by simp; omega
   have HL := ya hL; rw [← hL] at hst; obtain ⟨M, hM⟩ : ∃ M : Int, M = 8 * (n : Int) := ⟨_, rfl⟩; have z0 : IntKind.i64.wrap (8 * (n : Int)) = M := by rw [hM]; exact IntWalk.i64_in _ (by omega)
   have HM := ya hM; clear hL hr hq hj hjn hM; go_wp2; clear z0 e1 e2 d1 hlen; have hst6 : St w [] wr [.rowP yP u3 5 1 (L + 0) (yb (qF bs (zn n) ++ (qG (8 * n) 8).take 0))] := by simpa using hst
   clear hst; go_loopw [3, 5] (fun u q wr => ∃ i : Nat, i ≤ 8 ∧ q = .int .i64 (7 - (i : Int)) ∧ St w [] wr [.rowP yP u 5 1 (L + i) (yb (qF bs (zn n) ++ (qG (8 * n) 8).take i))]) (fun _ q _ => (intOf q + 1).toNat)
   case atStart => exact ⟨0, by omega, rfl, hst6⟩
   case round =>
    clear hst6; obtain ⟨i, hi, rfl, hst⟩ := hrel; by_cases hi8 : i < 8
    ·obtain ⟨Q, hQ⟩ : ∃ Q : Int, Q = M / 2 ^ (8 * (7 - (i : Int))).toNat := ⟨_, rfl⟩; have z0 : IntKind.i64.wrap (8 * (7 - (i : Int))) = 8 * (7 - (i : Int)) := IntWalk.i64_in _ (by omega); have z1 : IntKind.i64.wrap (7 - (i : Int) - 1) = 7 - (i : Int) - 1 := IntWalk.i64_in _ (by omega); have f1 : ∀ T, binOp .shr T (.int .i64 M) (.int .i64 (8 * (7 - (i : Int)))) = pure (.int .i64 Q) := by
      intro T; show Op.shift .shr .i64 M .i64 (8 * (7 - (i : Int))) = _; rw [shift_shr .i64 .i64 M _ (by omega) (by show _ ≤ (64 : Int); omega), hQ]
     have f3 : Q % 256 = ((byteAt (8 * n) (7 - i)).toNat : Int) := by
      rw [hQ, byteAt_int, HM, show (8 * (7 - (i : Int))).toNat = 8 * (7 - i) by omega]
     have f2 : IntKind.u8.wrap Q = ((byteAt (8 * n) (7 - i)).toNat : Int) := f3; obtain ⟨Y, hY⟩ : ∃ Y, Y = byteAt (8 * n) (7 - i) := ⟨_, rfl⟩; rw [← hY] at f2 f3; have HY := ya hY; have g0 : decide ((0 : Int) ≤ 7 - (i : Int)) = true := zD (by omega); clear hY hQ; go_wp2_with (first | (refine za [.int _ _] [.int _ _] hst (h:=fun gb _ hst2 => ?_); clear hst) | (apply yar (ys := yb [Y]) [_] hst2; rfl; rfl; exact rfl; exact rfl; infer_instance; infer_instance; infer_instance; infer_instance; exact (j3 hst2 rfl (by decide)); exact rfl; rfl; exact yaH _; (unfold maxLen; omega); intro v1 w9 hst3 _; clear hst2)); have hst5 : St w [] w9 [.rowP yP v1 5 1 (L + (i + 1)) (yb (qF bs (zn n) ++ (qG (8 * n) 8).take (i + 1)))] := by
      have h := St.sub hst3 (.cons _ (List.Sublist.refl _)); rw [numB_take _ _ _ hi8, ← List.append_assoc, yaW _ [_], show 8 - 1 - i = 7 - i by omega, ← HY]; exact h
     clear hst3; go_roundw
     case rel => exact ⟨i + 1, by omega, (by congr 1 <;> push_cast <;> try omega), hst5⟩
     case measure => simp [intOf]; omega
    ·have ei : i = 8 := by omega
     subst ei; rw [show (7 : Int) - ((8 : Nat) : Int) = -1 from by decide]; obtain ⟨F, hF⟩ : ∃ F, F = qP bs := ⟨_, rfl⟩; obtain ⟨m, hm⟩ : ∃ m, m = F.length / 64 := ⟨_, rfl⟩; have hFl : F.length = 64 * m := by
      have h1 := filled_mod bs; rw [← hF] at h1; omega
     have hLm : L + 8 = 64 * m := by rw [← hFl, hF, ybE, Hn, HL]; omega
     rw [filled_pad bs Hn.out, ← hF, hLm] at hst; have HF := ya hF; have HFl := ya hFl; have Hm := ya hm; have hm0 : 0 < m := by omega
     have hm1 : 64 * m ≤ 1000000 := by omega
     obtain ⟨ga, cap, rfl, hcap, hcm⟩ := rowP_some hst zH (by omega); clear hF hm hFl hLm hi hi8; go_wp2; have hst2 : St w [] wr (.row (.slice none 0 0) 28 1 0 [] :: (jJ 5 [] (cuts F 0) ++ [.rowP yP (.slice (some ⟨ga, 0, none⟩) (64 * m) cap) 5 1 (64 * m) (yb F)])) := jY 28 1 hst; clear hst; go_loopw [6, 7] (fun u q wr => ∃ (x : Nat) (vs : List Value), x ≤ m ∧ q = .int .i64 (64 * (x : Int)) ∧ vs.length = x ∧ St w [] wr (.row u 28 1 x vs :: (jJ 5 vs (cuts F x) ++ [.rowP yP (.slice (some ⟨ga, 0, none⟩) (64 * m) cap) 5 1 (64 * m) (yb F)]))) (fun _ q _ => (64 * (m : Int) - intOf q).toNat)
     case atStart => exact ⟨0, [], by omega, rfl, rfl, hst2⟩
     case round =>
      clear hst2; obtain ⟨x, vs, hx, rfl, hvl, hst⟩ := hrel; have HV := ya hvl; clear hvl; have g1 : ((64 * m : Nat) : Int) = 64 * (m : Int) := by push_cast; rfl
      by_cases hxm : x < m
      ·have z0 : IntKind.i64.wrap (64 * (x : Int) + 64) = 64 * (x : Int) + 64 := IntWalk.i64_in _ (by omega); have hlt : decide (64 * (x : Int) < 64 * (m : Int)) = true := zD (by omega); have n1 : (64 * (x : Int)).toNat = 64 * x := by omega
       have n2 : (64 * (x : Int) + 64).toNat = 64 * x + 64 := by omega
       have n3 : 64 * (x : Int) + 64 ≤ (cap : Int) := by omega
       have n4 : 64 * (x : Int) ≤ 64 * (x : Int) + 64 := by omega
       have n5 : 0 ≤ 64 * (x : Int) := by omega
       have n6 : 0 ≤ 64 * (x : Int) + 64 := by omega
       have HC := ya (ybd HFl.out hxm); go_wp2_with (first | (refine za [] [] hst (h:=fun g1 w1 hst1 => ?_); clear hst; have hst2 := St.toRowP (n := 0) (cap := 0) (sz := 1) yP hst1 rfl (Nat.le_refl _) (by decide) rfl; clear hst1) | (apply yar [] hst2; rfl; rfl; exact rfl; exact rfl; infer_instance; infer_instance; infer_instance; infer_instance; exact (Rd.win (64 * x) (Rd.rowP hst2 (zT (zT (zR zH)))) (by omega) (by omega) (by omega)); exact yD _; rfl; exact yaH _; (unfold maxLen; omega); intro v2 w2 hst3 _; clear hst2; obtain ⟨ax, cx, rfl⟩ := St.rowPSlice [] hst3) | (refine za [.slice _ _ _] [.slice _ _ _] hst3 (h:=fun g8 w3 hst4 => ?_); clear hst3) | (refine jf [_, _] hst4 (hr:=j3 hst4 rfl (by decide)) (hb:=by unfold maxLen; omega) (h:=fun v4 w4 hst5 _ => ?_); clear hst4)); have hN : St w [] w4 (.row v4 28 1 (x + 1) (vs ++ [.slice ax 64 cx]) :: (jJ 5 (vs ++ [.slice ax 64 cx]) (cuts F (x + 1)) ++ [.rowP yP (.slice (some ⟨ga, 0, none⟩) (64 * m) cap) 5 1 (64 * m) (yb F)])) := by
        have h : St w [] w4 (.rowP yP (.slice ax 64 cx) 5 1 64 (yb (qO F x)) :: .row v4 28 1 (x + 1) (vs ++ [.slice ax 64 cx]) :: (jJ 5 vs (cuts F x) ++ [.rowP yP (.slice (some ⟨ga, 0, none⟩) (64 * m) cap) 5 1 (64 * m) (yb F)])) := St.sub hst5 (.cons _ (List.Sublist.refl _)); rw [cuts_succ, rowsB_snoc _ _ _ _ _ (by rw [length_cuts, HV.out]), HC]; refine St.perm h ?_; refine (List.Perm.swap _ _ _).trans (List.Perm.cons _ ?_); rw [List.append_assoc]; exact List.perm_middle.symm
       clear hst5; have HV2 := ya (show (vs ++ [Value.slice ax 64 cx]).length = x + 1 by simp [HV.out]); go_roundw
       case rel => exact ⟨x + 1, _, by omega, (by congr 1 <;> push_cast <;> try omega), HV2.out, hN⟩
       case measure => simp [intOf]; omega
      ·have e : x = m := by omega
       subst e; have hlt : decide (64 * (x : Int) < 64 * (x : Int)) = false := zF (by omega); have hp : cuts F x = pieces bs := by rw [cuts, Hm, HF]; rfl
       have HP := ya hp; clear hp; go_wp2; go_ret; refine ⟨u6, vs, rfl, ?_, ?_⟩
       ·rw [HV, ← HP, length_cuts]
       ·rw [← HP, HV]; exact St.sub hst (.cons_cons _ (List.sublist_append_left _ _))
theorem loadedBh (A : Addr) : loadVar 28 A = yn 28 A := rfl
attribute [local go_sem ↓] loadedBh
theorem refSum_any (ao : Option Addr) (n c : Nat) (bs : List UInt8) (w : World) (hA : Rd w (.slice ao n c) 1 n (yb bs)) (hn : bs.length = n) (hb : n ≤ 100000) :
  Calls Tryz.prog 157 #[.slice ao n c] w fun e w' => e = .returned (.agg (yb (z8 bs)).toArray) ∧ St w [] w' [] := by
 have hst := St.refl w; obtain ⟨ps, hps⟩ : ∃ ps, ps = pieces bs := ⟨_, rfl⟩; have HP := ya hps; have hp64 : ∀ (k : Nat) (p : List UInt8), ps[k]? = some p → p.length = 64 := by
  intro k p hk; rw [hps, pieces, List.getElem?_map] at hk; cases hq : (List.range ((qP bs).length / 64))[k]? with
  | none => rw [hq] at hk; cases hk
  | some x =>
   rw [hq] at hk; cases hk; rw [List.getElem?_eq_some_iff] at hq; obtain ⟨hx, rfl⟩ := hq; simp at hx; refine ybd (m := (qP bs).length / 64) ?_ (by simpa using hx); have h1 := filled_mod bs; omega
 have H64 := ya hp64; clear hp64 hps; go_enter Tryz.func157, Tryz.ntmps157; go_wp2_with (first | (refine yN hst fun g2 _ hst1 => ?_; clear hst) | (go_at_call 165; refine jc hst1 (refStart_any _) fun _ hst2 => ?_; clear hst1) | (refine yN hst2 fun g3 _ hst3 => ?_; clear hst2) | (refine ji [] hst3 fun _ hst4 => ?_; clear hst3) | (go_at_call 166; refine (refFill_any ao n c bs _ (Rd.old hst4 hA) hn hb).mono ?_; rw [← HP]; rintro _ w5 ⟨out, vs, rfl, hvl, h4⟩; have hst5 := St.call hst4 h4; clear h4 hst4; obtain ⟨N, hN⟩ : ∃ N, N = vs.length := ⟨_, rfl⟩; rw [← hN] at hst5; obtain ⟨ax, cx, rfl⟩ := yZ [] hst5; have HN := ya hN; have HV := ya hvl; clear hN hvl)); have hbd := (Rd.row hst5 zH).bd; have hbd1 := hbd.1; have hbd2 := hbd.2.1; clear hbd; obtain ⟨Z, hZ⟩ : ∃ Z : List Value, Z = List.replicate 32 (.int .u8 0) := ⟨_, rfl⟩; have HZ := ya hZ; have hst6 : St w [] w5 (.blk g3 116 (yf (qf ps 0).list) :: .blk g2 32 Z :: .row (.slice ax N cx) 28 1 N vs :: jJ 5 vs ps) := by
  rw [hZ, foldP_zero]; exact St.perm hst5 (by
   refine (List.perm_append_comm (l₁ := _ :: jJ 5 vs ps)).trans ?_; exact List.Perm.refl _)
 clear hst5 hZ; go_loopw [5] (fun q wr => ∃ k : Nat, k ≤ N ∧ q = .int .i64 k ∧ St w [] wr (.blk g3 116 (yf (qf ps k).list) :: .blk g2 32 Z :: .row (.slice ax N cx) 28 1 N vs :: jJ 5 vs ps)) (fun q _ => N - (intOf q).toNat)
 case atStart => exact ⟨0, by omega, rfl, hst6⟩
 case round =>
  clear hst6; obtain ⟨k, hk, rfl, hst⟩ := hrel; by_cases hkN : k < N
  ·obtain ⟨p, hp⟩ : ∃ p, ps[k]? = some p := ⟨_, List.getElem?_eq_getElem (by rw [← HV, ← HN]; exact hkN)⟩; obtain ⟨v, hv, hm⟩ := rowsB_at (T := 5) HV.out hp; have hl64 := H64.out k p hp; obtain ⟨S, hS⟩ : ∃ S, S = qf ps k := ⟨_, rfl⟩; obtain ⟨T, hT⟩ : ∃ T, T = S.turn p := ⟨_, rfl⟩; have HS := ya (show qf ps (k + 1) = T by rw [hT, hS, foldP_succ hp]); have HT := ya hT; rw [← hS] at hst; obtain ⟨bq, cq, rfl, _, _⟩ := rowP_some hst (zT (zT (zT hm))) (by omega); obtain ⟨b, off, rfl, hr⟩ := (Rd.row hst (zT (zT zH))).at hkN; rw [hl64] at hm hv; have HL := ya hl64; have HM := ya hm; have HVV := ya hv; have hk2 : (k : Int) < (N : Int) := by omega
   have d1 : decide ((k : Int) < (N : Int)) = true := zD hk2; clear hr hv hS hp hl64 hm hT; go_wp2; have hD := hst.drew; clear hst; refine wD (S := fun w' => Ld 28 b (off + k) (.slice (some ⟨bq, 0, none⟩) 64 cq) w') (ldRow hD (zT (zT zH)) HVV.out) fun hHeld => ?_; refine jt 1 (h:=jt 2 (h:=jt 3 (h:=jt 4 (h:=?_)))); refine rW 0 (h:=fun K hK => ?_); refine jl (yl (yf S.list) [] hD rfl rfl) ?_; refine kQ hK (ldRow hD (zT (zT zH)) HVV.out) (h:=fun hHeld => ?_); refine yF 5 (h0:=fun K hK => ?_); go_simp; go_at_call 167; refine (refTurn_any S p (some ⟨bq, 0, none⟩) 64 cq _ (Rd.rowP hD (zT (zT (zT HM.out)))) HL.out).mono ?_; rintro _ w7 ⟨h3, h4⟩; rw [if_pos HL.out, ← HT] at h3; subst h3; have hE := St.call0 hD h4; clear h4; refine kD hK (ldRow hE (zT (zT zH)) HVV.out) (h:=fun hHeld => ?_); refine jt 6 (h:=jt 7 (h:=jt 8 (h:=?_))); refine yF 9 (h0:=fun K hK => ?_); refine jG [] hE rfl rfl rfl inferInstance rfl rfl rfl ?_; intro w8 hst2; refine kD hK (ldRow hst2 (zT (zT zH)) HVV.out) (h:=fun hHeld => ?_); refine jn ?_; clear hHeld; clear hE hD; go_wp2; go_roundw
   case rel => exact ⟨k + 1, by omega, by go_num, by rw [HS]; exact hst2⟩
   case measure => simp [intOf]; omega
  ·have ek : k = N := by omega
   subst ek; have e : (qf ps k).bytes = z8 bs := by rw [foldP_all (HN.trans HV.out), HP]; rfl
   obtain ⟨S, hS⟩ : ∃ S, S = qf ps k := ⟨_, rfl⟩; rw [← hS] at e hst; have HE := ya e; clear e hS; go_wp2_with (first | (refine yN hst fun g6 w6 hst1 => ?_; clear hst)); clear hk hkN; obtain ⟨R, hR⟩ : ∃ R : List HA, R = .row (.slice ax k cx) 28 1 k vs :: jJ 5 vs ps := ⟨_, rfl⟩; have hst2 : St w [] w6 (.blk g6 32 (yb (qV S.bytes 0)) :: .blk g3 116 (yf S.list) :: .blk g2 32 Z :: R) := by rw [hR, outB_0]; exact hst1
   clear hst1 hR; go_loopw [7] (fun q wr => ∃ i : Nat, i ≤ 32 ∧ q = .int .i64 i ∧ St w [] wr (.blk g6 32 (yb (qV S.bytes i)) :: .blk g3 116 (yf S.list) :: .blk g2 32 Z :: R)) (fun q _ => 32 - (intOf q).toNat)
   case atStart => exact ⟨0, by omega, rfl, hst2⟩
   case round =>
    clear hst2; obtain ⟨i, hi, rfl, hst⟩ := hrel; by_cases hi32 : i < 32
    ·obtain ⟨j, hj⟩ : ∃ j, j = i / 4 := ⟨_, rfl⟩; obtain ⟨r, hr⟩ : ∃ r, r = i % 4 := ⟨_, rfl⟩; have hj8 : j < 8 := by omega
     have hr4 : r < 4 := by omega
     have hij : i = 4 * j + r := by omega
     have q1 : Int.tdiv (i : Int) 4 = (j : Int) := by rw [Int.tdiv_eq_ediv_of_nonneg (by omega)]; omega
     have q2 : (i : Int) / 4 = (j : Int) := by omega
     have q3 : Int.tmod (i : Int) 4 = (r : Int) := by rw [Int.tmod_eq_emod_of_nonneg (by omega)]; omega
     have q4 : (i : Int) % 4 = (r : Int) := by omega
     obtain ⟨x, hx⟩ : ∃ x, x = S.list.getD j 0 := ⟨_, rfl⟩; have gx := zx S.list (show j < S.list.length from hj8); rw [← hx] at gx; have HX := ya hx; have GX := ya gx; obtain ⟨Y, hY⟩ : ∃ Y, Y = UInt8.ofNat (x >>> (24 - 8 * r)).toNat := ⟨_, rfl⟩; obtain ⟨X, hX⟩ : ∃ X : Int, X = wI (x >>> (24 - 8 * r)) := ⟨_, rfl⟩; have f1 : ∀ T, binOp .shr T (.int .u32 (wI x)) (.int .i64 (24 - 8 * (r : Int))) = pure (.int .u32 X) := by
      intro T; rw [show (24 - 8 * (r : Int)) = ((24 - 8 * r : Nat) : Int) by omega, shrN T x .i64 (24 - 8 * r) (by omega), hX]
     have f3 : X % 256 = (Y.toNat : Int) := by
      rw [hX, hY, byte_of]
     have f2 : IntKind.u8.wrap X = (Y.toNat : Int) := f3; have HY := ya (show S.bytes.getD i 0 = Y by rw [hij, byteS_at S j r hj8 hr4, ← HX, hY]); have HO := ya (length_outB (l := S.bytes) (n := i) (zZ S) (by omega)); have z0 : IntKind.i64.wrap (8 * (r : Int)) = 8 * (r : Int) := IntWalk.i64_in _ (by omega); have z1 : IntKind.i64.wrap (24 - 8 * (r : Int)) = 24 - 8 * (r : Int) := IntWalk.i64_in _ (by omega); have b1 : (i : Int) < 32 := by omega
     have b2 : (j : Int) < 8 := by omega
     have HI := ya hi32; clear hX hY hx gx hij hj hr; go_wp2_with (first | (refine jl (Loads.at [_] hst (GX.out)) ?_) | (refine ye [] hst rfl rfl rfl (v := .int _ _) rfl rfl rfl ?_ ?_; (rw [length_bytesV, HO]; show i + 1 ≤ 32; have := HI.out; omega); intro w9 hst2; clear hst)); have hst3 : St w [] w9 (.blk g6 32 (yb (qV S.bytes (i + 1))) :: .blk g3 116 (yf S.list) :: .blk g2 32 Z :: R) := by
      have h := put_outB (zZ S) HI.out HY.out; rw [← h]; exact hst2
     clear hst2; go_roundw
     case rel => exact ⟨i + 1, by have := HI.out; omega, by go_num, hst3⟩
     case measure => simp [intOf]; omega
    ·have e : i = 32 := by omega
     subst e; rw [outB_all (zZ S), HE] at hst; have h32 : (yb (z8 bs)).length = 32 := by rw [← HE]; rfl
     go_wp2_with (first | (refine jl (yl (yb (z8 bs)) [] hst (h32) (by rw [List.drop_zero, List.take_length])) ?_) | (refine yx [_, _] hst rfl rfl rfl rfl (h32) (yD _) (by rw [HZ]; rfl) ?_; intro w12 hst12; clear hst)); have hl := yl (P := Tryz.prog) (off := 0) (T := 32) (yb (z8 bs)) [_, _] hst12 h32 (by rw [List.drop_zero, List.take_length]); refine bodyPost_ret (yW rfl rfl hl) rfl ⟨rfl, hst12.nil⟩
end
section
open Go.RowKit Hp
attribute [local irreducible] Go.Calls Go.wpList
theorem okA_iff : ∀ {l : List (Int × Int)}, okA l = true ↔ (∀ x ∈ l, validA x = true) ∧ l.Pairwise (fun x y => y.1 ≠ x.1)
 | [] => ⟨fun _ => ⟨fun x hx => (by cases hx), List.Pairwise.nil⟩, fun _ => rfl⟩
 | x :: l => by
  unfold okA; rw [Bool.and_eq_true, Bool.and_eq_true, okA_iff (l := l), List.pairwise_cons]; simp only [List.mem_cons, forall_eq_or_imp, Bool.not_eq_true', List.any_eq_false, beq_iff_eq]; constructor
  ·rintro ⟨⟨⟨h1, h2⟩, h3⟩, h4⟩; exact ⟨⟨h3, h1⟩, fun y hy => h4 y hy, h2⟩
  ·rintro ⟨⟨h3, h1⟩, h4, h2⟩; exact ⟨⟨⟨h1, h2⟩, h3⟩, fun y hy => h4 y hy⟩
theorem apartB_iff : ∀ {l : List (Int × Int)}, qQ l = true ↔ l.Pairwise (fun x y => y.1 ≠ x.1)
 | [] => ⟨fun _ => List.Pairwise.nil, fun _ => rfl⟩
 | x :: l => by
  unfold qQ; rw [Bool.and_eq_true, apartB_iff (l := l), List.pairwise_cons, List.all_eq_true]; simp only [bne_iff_ne, ne_eq]
theorem okA_rev {l : List (Int × Int)} : okA l.reverse = true ↔ (∀ x ∈ l, validA x = true) ∧ qQ l = true := by
 rw [okA_iff, apartB_iff, List.pairwise_reverse]; simp only [List.mem_reverse]; constructor
 ·rintro ⟨h1, h2⟩; exact ⟨h1, h2.imp fun h => Ne.symm h⟩
 ·rintro ⟨h1, h2⟩; exact ⟨h1, h2.imp fun h => Ne.symm h⟩
theorem lies_ref {m : MV} {N : Nat} (hg : MGood m N) {l : List (Int × Int)} (h : ∀ x ∈ l, validA x = true) : m.lies l = jF m.a.devs.length m.a.secs l := by
 unfold MV.lies jF; apply Bool.eq_iff_iff.2; rw [List.all_eq_true, List.all_eq_true]; constructor
 ·intro h1 x hx; have h2 := h1 x hx; unfold AR.inS AR.inD at h2; simp only [Bool.and_eq_true, decide_eq_true_eq] at h2 ⊢; omega
 ·intro h1 x hx; have h2 := h1 x hx; have h3 := h x hx; unfold validA at h3; unfold AR.inS AR.inD; simp only [Bool.and_eq_true, decide_eq_true_eq] at h2 h3 ⊢; omega
theorem lies_valid {m : MV} {N : Nat} (hg : MGood m N) {l : List (Int × Int)} (h : m.lies l = true) : ∀ x ∈ l, validA x = true := by
 intro x hx; unfold MV.lies at h; have h2 := List.all_eq_true.1 h x hx; have h3 := hg.sc.ok.dn; have h4 := hg.sc.ok.sn; unfold AR.inS AR.inD at h2; unfold validA; simp only [Bool.and_eq_true, decide_eq_true_eq] at h2 ⊢; omega
theorem points_ask {m : MV} {N : Nat} (hg : MGood m N) (ao : Option Addr) (n c : Nat) (l : List (Int × Int)) (b v : Int) (S : List UInt8) :
  (decide (0 < l.length) && (zQ l b v S && jF m.a.devs.length m.a.secs l)) = decide (m.askE (yq ao n c l b v S) = 0) := by
 have hk : (yq ao n c l b v S).ok = zQ l b v S := rfl; have hh : (yq ao n c l b v S).hole = qM l.length b v S := rfl; have hl : (yq ao n c l b v S).l = l := rfl; unfold MV.askE; rw [hk, hh, hl]; cases hc : zQ l b v S
 ·simp
 ·by_cases h0 : 0 < l.length
  ·have hhole : qM l.length b v S = false := by unfold qM; rw [zF (by omega)]; rfl
   have hmay : qW l = true := by
    unfold zQ at hc; rw [hhole, Bool.false_or, Bool.and_eq_true] at hc; exact hc.1
   unfold qW at hmay; rw [Bool.and_eq_true, okA_rev] at hmay; rw [lies_ref hg hmay.1.1, hhole, zD h0]; cases jF m.a.devs.length m.a.secs l <;> rfl
  ·have hz : l.length = 0 := by omega
   have hm : qW l = false := by unfold qW; rw [decide_eq_false (p := 1 ≤ l.length ∧ l.length ≤ 3) (by omega), Bool.and_false]
   have hhole : qM l.length b v S = true := by
    unfold zQ at hc; rw [hm, Bool.false_and, Bool.or_false] at hc; exact hc
   rw [hhole, zF h0]; simp
theorem re_put {e : List ER} {D k : Nat} {y : ER} {f : ER → ER} (h : (e.take D)[k]? = some y) {i : Nat} {v : Value} (hi : i < 3) (hf : yw y.cells i [v] = (f y).cells) :
  yw ((e.take D).flatMap ER.cells) (k * 3 + i) [v] = ((e.modify k f).take D).flatMap ER.cells := by
 have := flat_put (sz := 3) (f := ER.cells) (fun d => rfl) h hi hf []; rw [List.append_nil, List.append_nil] at this; rw [this]
 congr 1
 apply List.ext_getElem?; intro j; have hkD : k < D := by
  have := (List.getElem?_eq_some_iff.1 h).1; rw [List.length_take] at this; omega
 rw [List.getElem?_set]; simp only [List.getElem?_take, List.getElem?_modify]; by_cases hj : k = j
 ·subst hj; have h2 := h; rw [List.getElem?_take, if_pos hkD] at h2; have h3 := (List.getElem?_eq_some_iff.1 h2).1; simp [hkD, h2, h3]; exact ⟨Nat.lt_min.2 ⟨hkD, h3⟩, by rw [← (List.getElem?_eq_some_iff.1 h2).2]⟩
 ·simp [hj]
theorem frontE {w0 w : World} {M : List Nat} {X R : List HA} {a b : HA} (h : St w0 M w (X ++ (a :: b :: R))) : St w0 M w (b :: (X ++ (a :: R))) := by
 refine St.perm h ((List.Perm.append_left X (List.Perm.swap b a R)).trans ?_); exact List.perm_middle
theorem backE {w0 w : World} {M : List Nat} {X R : List HA} {a b : HA} (h : St w0 M w (b :: (X ++ (a :: R)))) : St w0 M w (X ++ (a :: b :: R)) := by
 refine St.perm h ((List.perm_middle (l₁ := X) (a := b) (l₂ := a :: R)).symm.trans ?_); exact List.Perm.append_left X (List.Perm.swap a b R)
section
theorem yad (A : Addr) : loadVar 34 A = yn 34 A := rfl
theorem yae (A : Addr) : loadVar 30 A = yn 30 A := rfl
theorem yab (A : Addr) : loadVar 83 A = yn 83 A := rfl
theorem yac (A : Addr) : loadVar 32 A = yn 32 A := rfl
attribute [local go_sem ↓] j7 j6 j9 j8 j5 yad yae yab yac
attribute [local irreducible] Hp.Loads
section
variable {w0 w : World} {M : List Nat} {R : List HA} {gw gE gr D : Nat} {q : RX} {m : MV} {N : Nat} (hS : St w0 M w (yg gr q ++ (yE gw gE gr D :: yC gE D m.e :: R))) (ro : RefOk m.a q) (hg : MGood m N) (hD : m.a.devs.length = D) (ao : Option Addr) (n c : Nat) (l : List (Int × Int)) (b v : Int) (S : List UInt8) (hL : L32 S) (hn : l.length = n) (hA : ∀ w, St w0 M w R → Rd w (.slice ao n c) 2 n (yu l))
include hS ro hg hD ao n c l b v S hL hn hA
theorem points_no (h0 : ¬ 0 < n) :
  Calls Tryz.prog 124 #[.pointer (some ⟨gw, 0, none⟩), .agg (yd (.slice ao n c) b v S).toArray] w fun e w' => e = .returned (.bool (decide (m.askE (yq ao n c l b v S) = 0))) ∧ St w0 M w' (yg gr q ++ (yE gw gE gr D :: yC gE D m.e :: R)) := by
 have hpa := points_ask hg ao n c l b v S; rw [← hpa, hn, hD]; clear hpa; rw [zF h0, Bool.false_and]; have hst := hS; have HG := ya hg; have RO := ya ro; have HDD := ya hD; have HL := ya hL; have Hn := ya hn; have HA := ya hA; have d1 : decide (0 < (n : Int)) = false := zF (by omega); have d1' : decide ((n : Int) > 0) = false := d1; clear hS hg ro hD hL hn hA; go_enter Tryz.func124, Tryz.ntmps124; go_wp2_with (first | (refine zj hst fun g3 w1 hst0 => ?_; clear hst; have hst1 := yX hst0; clear hst0) | (refine jl (Loads.blk (T := 30) (off := 0) (v := .slice ao n c) hst1 TyS.out (zR (zT (zT zH))) rfl) ?_) | (refine jl (Loads.blkA (T := 34) (vs := yd (.slice ao n c) b v S) hst1 (by rw [yo HL.out]; exact TyA.out) (zR (zT (zT zH))) (yz _ _ _ _)) ?_)); go_ret; exact ⟨rfl, yJ hst1⟩
theorem points_odd (h0 : 0 < n) (h1 : zQ l b v S = false) :
  Calls Tryz.prog 124 #[.pointer (some ⟨gw, 0, none⟩), .agg (yd (.slice ao n c) b v S).toArray] w fun e w' => e = .returned (.bool (decide (m.askE (yq ao n c l b v S) = 0))) ∧ St w0 M w' (yg gr q ++ (yE gw gE gr D :: yC gE D m.e :: R)) := by
 have hpa := points_ask hg ao n c l b v S; rw [← hpa, hn, hD]; clear hpa; rw [h1, Bool.false_and, Bool.and_false]; have hst := hS; have HG := ya hg; have RO := ya ro; have HDD := ya hD; have HL := ya hL; have Hn := ya hn; have HA := ya hA; have d1 : decide (0 < (n : Int)) = true := zD (by omega); have d1' : decide ((n : Int) > 0) = true := d1; have HCE := ya (show jo l b v S = 2 from by unfold jo; rw [h1]; rfl); clear hS hg ro hD hL hn hA h1; go_enter Tryz.func124, Tryz.ntmps124; go_wp2_with (first | (refine zj hst fun g3 w1 hst0 => ?_; clear hst; have hst1 := yX hst0; clear hst0) | (refine jl (Loads.blk (T := 30) (off := 0) (v := .slice ao n c) hst1 TyS.out (zR (zT (zT zH))) rfl) ?_) | (refine jl (Loads.blkA (T := 34) (vs := yd (.slice ao n c) b v S) hst1 (by rw [yo HL.out]; exact TyA.out) (zR (zT (zT zH))) (yz _ _ _ _)) ?_) | (go_at_call 120; refine (yaJ ao n c l b v S _ HL.out (HA.out _ (qd (yJ hst1))) Hn.out).mono ?_; rw [HCE]; rintro _ w2 ⟨rfl, h4⟩; have hst2 := St.call0 hst1 h4; clear h4 hst1)); go_ret; exact ⟨rfl, yJ hst2⟩
theorem points_ok (h0 : 0 < n) (h1 : zQ l b v S = true) :
  Calls Tryz.prog 124 #[.pointer (some ⟨gw, 0, none⟩), .agg (yd (.slice ao n c) b v S).toArray] w fun e w' => e = .returned (.bool (decide (m.askE (yq ao n c l b v S) = 0))) ∧ St w0 M w' (yg gr q ++ (yE gw gE gr D :: yC gE D m.e :: R)) := by
 have hpa := points_ask hg ao n c l b v S; rw [← hpa, hn, hD]; clear hpa; rw [zD h0, h1, Bool.true_and, Bool.true_and]; have hst := hS; have HG := ya hg; have RO := ya ro; have HDD := ya hD; have HL := ya hL; have Hn := ya hn; have HA := ya hA; have d1 : decide (0 < (n : Int)) = true := zD (by omega); have d1' : decide ((n : Int) > 0) = true := d1; have HCE := ya (show jo l b v S = 0 from by unfold jo; rw [h1]; rfl); clear hS hg ro hD hL hn hA h1; go_enter Tryz.func124, Tryz.ntmps124; go_wp2_with (first | (refine zj hst fun g3 w1 hst0 => ?_; clear hst; have hst1 := yX hst0; clear hst0) | (refine jl (Loads.blk (T := 30) (off := 0) (v := .slice ao n c) hst1 TyS.out (zR (zT (zT zH))) rfl) ?_) | (refine jl (Loads.blkA (T := 34) (vs := yd (.slice ao n c) b v S) hst1 (by rw [yo HL.out]; exact TyA.out) (zR (zT (zT zH))) (yz _ _ _ _)) ?_) | (go_at_call 120; refine (yaJ ao n c l b v S _ HL.out (HA.out _ (qd (yJ hst1))) Hn.out).mono ?_; rw [HCE]; rintro _ w2 ⟨rfl, h4⟩; have hst2 := St.call0 hst1 h4; clear h4 hst1) | (refine jl (Loads.blk (T := 30) (off := 0) (v := .slice ao n c) hst2 TyS.out (zR (zT (zT zH))) rfl) ?_) | (go_at_call 121; refine je (rlies_any hst2 RO.out HG.out HDD.out ao n c l Hn.out (fun w h => HA.out w (St.sub h zC))) fun w3 hst3 => ?_; clear hst2)); go_ret; exact ⟨rfl, yJ hst3⟩
theorem jZ :
  Calls Tryz.prog 124 #[.pointer (some ⟨gw, 0, none⟩), .agg (yd (.slice ao n c) b v S).toArray] w fun e w' => e = .returned (.bool (decide (m.askE (yq ao n c l b v S) = 0))) ∧ St w0 M w' (yg gr q ++ (yE gw gE gr D :: yC gE D m.e :: R)) := by
 by_cases h0 : 0 < n
 ·cases h1 : zQ l b v S
  ·exact points_odd hS ro hg hD ao n c l b v S hL hn hA h0 h1
  ·exact points_ok hS ro hg hD ao n c l b v S hL hn hA h0 h1
 ·exact points_no hS ro hg hD ao n c l b v S hL hn hA h0
end
end
theorem write_g {w0 w : World} {M : List Nat} {R : List HA} {gr : Nat} {a : AR} {q : RX} (hS : St w0 M w (yg gr q ++ R)) (ro : RefOk a q) (dev pl : Int) (bo : Option Addr) (bn bc : Nat) (bs : List UInt8) (hb : GB w0 M R (.slice bo bn bc) bn bs) (ok : a.Ok) (hll : a.loose.length < 1000000) (hs9 : 0 ≤ a.steps ∧ a.steps < 4611686018427387904) :
  Calls Tryz.prog 122 #[.pointer (some ⟨gr, 0, none⟩), .int .i64 dev, .int .i64 pl, .slice bo bn bc] w fun e w' => e = .returned (.int .i64 (a.writeE dev pl bs)) ∧ ∃ y, RefOk (a.write dev pl bs) y ∧ St w0 M w' (yg gr y ++ R) := by
 have h1 : St w ((yg gr q).filterMap HA.foot) w (yg gr q ++ []) := by
  rw [List.append_nil]; exact St.selfF (St.sub hS (List.sublist_append_left _ _))
 refine (write_r h1 ro dev pl bo bn bc bs (fun w' L' h => Rd.oldM h (hb.rd w (St.sub hS zA)) (hb.off hS)) hb.len ok hll hs9).mono ?_; rintro e w' ⟨rfl, y, hy, h4⟩; rw [List.append_nil] at h4; exact ⟨rfl, y, hy, St.callF (yg gr q) hS h4⟩
theorem ld_re {w0 w : World} {M : List Nat} {X R : List HA} {a : HA} {gE D k i : Nat} {e : List ER} {y : ER} {z : Int} (h : St w0 M w (X ++ (a :: yC gE D e :: R))) (hk : (e.take D)[k]? = some y) (hi : i < 3) (hv : y.cells[i]? = some (.int .i64 z)) : w.cell? ⟨gE, k * 3 + i, none⟩ = some (.int .i64 z) := by
 have h3 := yaf (sz := 3) (f := ER.cells) (fun d => rfl) hk i hi; rw [hv] at h3; exact St.cell h (T := 71) (cs := (e.take D).flatMap ER.cells) (zR (zT zH)) h3
theorem re_fit {e : List ER} {D k i : Nat} {y : ER} (hk : (e.take D)[k]? = some y) (hi : i < 3) : k * 3 + i + 1 ≤ ((e.take D).flatMap ER.cells).length := by
 have h3 := yaf (sz := 3) (f := ER.cells) (fun d => rfl) hk i hi; have h4 : ∃ v, y.cells[i]? = some v := ⟨_, List.getElem?_eq_getElem (by show i < 3; exact hi)⟩; obtain ⟨v, hv⟩ := h4; rw [hv] at h3; have := (List.getElem?_eq_some_iff.1 h3).1; omega
theorem offW2 {w0 w : World} {M : List Nat} {X R : List HA} {u p p' a b : HA} (h : St w0 M w (X ++ (a :: b :: u :: p :: p' :: R))) : St w0 M w (X ++ (u :: a :: b :: R)) := by
 have h1 : St w0 M w (X ++ (a :: b :: u :: R)) := St.sub h (List.Sublist.append_left (.cons_cons _ (.cons_cons _ (.cons_cons _ (zC.trans zC)))) _); exact St.perm h1 (List.Perm.append_left X (List.perm_middle (l₁ := [a, b]) (a := u) (l₂ := R)))
theorem ya3 {w0 w : World} {M : List Nat} {L : List HA} {u : Value} {T : TypeId} {sz n : Nat} {xs : List Value} (h : St w0 M w L) (hm : HA.row u T sz n xs ∈ L) : ∃ ao c, u = .slice ao n c := by
 obtain ⟨L1, L2, rfl⟩ := List.append_of_mem hm; exact yZ L1 h
section
attribute [local go_sem ↓] j7 j6 j9 j8 j5 yad yae yab yac
attribute [local irreducible] Hp.Loads
section
variable {w0 w : World} {M : List Nat} {R : List HA} {gw gE gr D : Nat} {q : RX} {m : MV} {N : Nat} (hS : St w0 M w (yg gr q ++ (yE gw gE gr D :: yC gE D m.e :: R))) (ro : RefOk m.a q) (hg : MGood m N) (hD : m.a.devs.length = D)
include hS ro hg hD
theorem rheal_any (x : Int × Int) (bo : Option Addr) (bn bc : Nat) (bs : List UInt8) (hb : GB w0 M R (.slice bo bn bc) bn bs) (hN : N ≤ 900000) :
  Calls Tryz.prog 126 #[.pointer (some ⟨gw, 0, none⟩), .agg #[.int .i64 x.1, .int .i64 x.2], .slice bo bn bc] w fun e w' => e = .returned (.bool (decide (m.a.writeE x.1 x.2 bs = 0))) ∧ ∃ y, RefOk (m.healed x.1 x.2 bs).a y ∧ St w0 M w' (yg gr y ++ (yE gw gE gr D :: yC gE D (m.healed x.1 x.2 bs).e :: R)) := by
 have HRO := ya ro; have HB := ya hb; have HG := ya hg; obtain ⟨E, hE⟩ : ∃ E, E = m.a.writeE x.1 x.2 bs := ⟨_, rfl⟩; have HE := ya hE; have HD9 := ya hD; obtain ⟨x1, x2⟩ := x; dsimp only at *; have hst := hS; clear hS ro hb hg hD hE; go_enter Tryz.func126, Tryz.ntmps126; go_wp2_with (first | (refine zj hst fun g4 w1 hst0 => ?_; clear hst; have hst1 := yX hst0; clear hst0)); have hX := hst1.drew; clear hst1; refine wD (S := fun w' => Ld 129 gw 0 (.pointer (some ⟨gr, 0, none⟩)) w' ∧ Ld 3 g4 0 (.int .i64 x1) w' ∧ Ld 3 g4 1 (.int .i64 x2) w') ⟨yr (Loads.blk (T := 129) (off := 0) (v := .pointer (some ⟨gr, 0, none⟩)) hX TyS.out (zR zH) rfl), yr (Loads.blk (T := 3) (off := 0) (v := .int .i64 x1) hX TyS.out (zR (zT (zT zH))) rfl), yr (Loads.blk (T := 3) (off := 1) (v := .int .i64 x2) hX TyS.out (zR (zT (zT zH))) rfl)⟩ fun hHeld => ?_; refine jt 0 (h:=jt 4 (h:=jt 6 (h:=jt 8 (h:=jt 1 (h:=jt 5 (h:=jt 7 (h:=jt 2 (h:=jt 3 (h:=?_))))))))); refine yF 9 (h0:=fun K hK => ?_); go_simp; go_at_call 122; refine (write_g hX HRO.out x1 x2 bo bn bc bs (GB.more (P := [_, _, _]) HB.out) HG.out.sc.ok (by have := HG.out.sc.ll; omega) (by have := HG.out.sc.st; omega)).mono ?_; rw [← HE]; rintro _ w4 ⟨rfl, q2, hq2, h4⟩; have hA1 := h4; have HQ2 := ya hq2; clear h4 hq2; refine kD hK (⟨yr (Loads.blk (T := 129) (off := 0) (v := .pointer (some ⟨gr, 0, none⟩)) hA1 TyS.out (zR zH) rfl), yr (Loads.blk (T := 3) (off := 0) (v := .int .i64 x1) hA1 TyS.out (zR (zT (zT zH))) rfl), yr (Loads.blk (T := 3) (off := 1) (v := .int .i64 x2) hA1 TyS.out (zR (zT (zT zH))) rfl)⟩) (h:=fun hHeld => ?_); refine jt 10 (h:=?_); refine jn ?_; clear hHeld; by_cases h0 : E = 0; rotate_left
 ·have e1 : (E != 0) = true := bne_iff_ne.2 h0; have HL9 := ya (show m.healed x1 x2 bs = ⟨m.a.write x1 x2 bs, m.e⟩ from by unfold MV.healed; rw [if_neg (by rw [← HE.out]; exact h0)]); have HB9 := ya (show decide (m.a.writeE x1 x2 bs = 0) = false from zF (by rw [← HE]; exact h0)); clear h0; go_wp2; go_ret; rw [HL9, HB9]; exact ⟨rfl, q2, HQ2.out, yJ hA1⟩
 have e1 : (E != 0) = false := by rw [h0]; rfl
 have hh := HE.out; rw [h0] at hh; have hin : m.a.inS x1 x2 = true := by
  cases hq : m.a.inS x1 x2
  ·exfalso; have h1 := hh; unfold AR.writeE at h1; rw [hq, if_neg HG.out.sc.ok.d0] at h1; cases ho : m.a.out <;> rw [ho] at h1 <;> simp at h1
  ·rfl
 have hin2 := yQ (yG hin); have hDD := HD9.out; obtain ⟨k, rfl⟩ : ∃ k : Nat, x1 = k := ⟨x1.toNat, by omega⟩; have hkD : k < D := by omega
 have hge := re_get HG.out (k := k) (by omega); rw [hDD] at hge; have hen := er_in HG.out (k := k) (by omega); obtain ⟨y, hy⟩ : ∃ y, y = m.er (k : Int) := ⟨_, rfl⟩; rw [← hy] at hge hen; have HGE := ya hge; have z1 : IntKind.i64.wrap (y.he + 1) = y.he + 1 := IntWalk.i64_in _ (by omega); have HP := ya (show yw ((m.e.take D).flatMap ER.cells) (k * 3 + 2) [.int .i64 (y.he + 1)] = ((m.e.modify k fHe).take D).flatMap ER.cells from re_put hge (f := fHe) (i := 2) (by decide) rfl); have HL9 := ya (show m.healed (k : Int) x2 bs = ⟨m.a.write (k : Int) x2 bs, m.e.modify k fHe⟩ from by unfold MV.healed; rw [if_pos hh.symm, Int.toNat_natCast]); have HB9 := ya (show decide (m.a.writeE (k : Int) x2 bs = 0) = true from zD hh.symm); clear hh h0 hin hin2 hDD hge hen hy; go_wp2; have hY := hA1.drew; clear hA1; refine wD (S := fun w' => Ld 137 gw 1 (.slice (some ⟨gE, 0, none⟩) D D) w' ∧ Ld 3 g4 0 (.int .i64 (k : Int)) w') ⟨yr (Loads.blk (T := 137) (off := 1) (v := .slice (some ⟨gE, 0, none⟩) D D) hY TyS.out (zR zH) rfl), yr (Loads.blk (T := 3) (off := 0) (v := .int .i64 (k : Int)) hY TyS.out (zR (zT (zT zH))) rfl)⟩ fun hHeld => ?_; refine jt 0 (h:=jt 4 (h:=jt 1 (h:=jt 5 (h:=jt 2 (h:=jt 3 (h:=?_)))))); refine wpAnyH_ready (rs := [6]) (by kernel_rfl) (by simp) ?_; refine (AllReadyH.cons (o := ⟨some 24, _, _, _, _, _⟩) rfl (fun K hK => ?_) AllReadyH.nil); refine qw (by rfl) ?_; refine yA hkD ?_; refine kQ hK (⟨yr (Loads.blk (T := 137) (off := 1) (v := .slice (some ⟨gE, 0, none⟩) D D) hY TyS.out (zR zH) rfl), yr (Loads.blk (T := 3) (off := 0) (v := .int .i64 (k : Int)) hY TyS.out (zR (zT (zT zH))) rfl)⟩) (h:=fun hHeld => ?_); refine jt 7 (h:=?_); refine rW 8 (h:=fun K hK => ?_); refine jl (Loads.cell (T := 3) (v := .int .i64 y.he) TyS.out (ld_re hY HGE.out (i := 2) (by decide) rfl)) ?_; refine kQ hK (⟨yr (Loads.blk (T := 137) (off := 1) (v := .slice (some ⟨gE, 0, none⟩) D D) hY TyS.out (zR zH) rfl), yr (Loads.blk (T := 3) (off := 0) (v := .int .i64 (k : Int)) hY TyS.out (zR (zT (zT zH))) rfl)⟩) (h:=fun hHeld => ?_); refine jt 9 (h:=?_); refine wpAnyH_ready (rs := [10]) (by kernel_rfl) (by simp) ?_; refine (AllReadyH.cons (o := ⟨some 28, _, _, _, _, _⟩) rfl (fun K hK => ?_) AllReadyH.nil); refine qw (by rfl) ?_; refine yA hkD ?_; refine kQ hK (⟨yr (Loads.blk (T := 137) (off := 1) (v := .slice (some ⟨gE, 0, none⟩) D D) hY TyS.out (zR zH) rfl), yr (Loads.blk (T := 3) (off := 0) (v := .int .i64 (k : Int)) hY TyS.out (zR (zT (zT zH))) rfl)⟩) (h:=fun hHeld => ?_); refine jt 11 (h:=?_); refine rW 12 (h:=fun K hK => ?_); refine ye [] (frontE hY) rfl rfl rfl (off := k * 3 + 2) (v := .int .i64 (y.he + 1)) rfl rfl rfl (re_fit HGE.out (i := 2) (by decide)) ?_; intro w7 hB4; have hB5 : St w0 M w7 (yg gr q2 ++ (yE gw gE gr D :: yC gE D (m.e.modify k fHe) :: .blk g4 83 [.int .i64 (k : Int), .int .i64 x2] :: R)) := by
  have h9 := backE hB4; rw [show (Value.int .i64 (y.he + 1)).cells.toList = [.int .i64 (y.he + 1)] from rfl, HP] at h9; exact h9
 clear hB4; refine kQ hK (⟨yr (Loads.blk (T := 137) (off := 1) (v := .slice (some ⟨gE, 0, none⟩) D D) hB5 TyS.out (zR zH) rfl), yr (Loads.blk (T := 3) (off := 0) (v := .int .i64 (k : Int)) hB5 TyS.out (zR (zT (zT zH))) rfl)⟩) (h:=fun hHeld => ?_); refine jn ?_; clear hHeld; go_wp2; go_ret; rw [HL9, HB9]; exact ⟨rfl, q2, HQ2.out, yJ hB5⟩
theorem rlook_any (ao : Option Addr) (n c : Nat) (l : List (Int × Int)) (b v : Int) (S : List UInt8) (hL : L32 S) (hn : l.length = n) (hA : ∀ w, St w0 M w R → Rd w (.slice ao n c) 2 n (yu l)) (hN : N ≤ 900000) (i : Nat) (hi : i < n) (d p : Int) (hz : l.getD i (0, 0) = (d, p)) :
  Calls Tryz.prog 125 #[.pointer (some ⟨gw, 0, none⟩), .agg (yd (.slice ao n c) b v S).toArray, .int .i64 (i : Int)] w fun e w' => ∃ u y, e = .returned (.tuple #[.int .i64 (m.kind d p S), u]) ∧ RefOk (m.looked d p S).a y ∧ St w0 M w' (.row u 5 1 (m.lookB d p S).length (yb (m.lookB d p S)) :: (yg gr y ++ (yE gw gE gr D :: yC gE D (m.looked d p S).e :: R))) := by
 have HRO := ya ro; have HG := ya hg; have HL := ya hL; have Hn := ya hn; have HA := ya hA; have HZ := ya hz; have HD9 := ya hD; obtain ⟨E, hE⟩ : ∃ E, E = m.a.readE d p := ⟨_, rfl⟩; have HE := ya hE; obtain ⟨B, hB⟩ : ∃ B, B = m.a.readB d p := ⟨_, rfl⟩; have HB := ya hB; have hst := hS; have hilt := ya (show i < l.length from by omega); obtain ⟨b9, off, rfl, _⟩ := (hA _ (qd hS)).at hi; clear hS ro hg hD hL hn hA hz hE hB; go_enter Tryz.func125, Tryz.ntmps125; go_wp2_with (first | (refine zj hst fun g3 w1 hst0 => ?_; clear hst; have hst1 := yX hst0; clear hst0) | (refine wl_loadE rfl rfl rfl ?_; first | refine ⟨_, Loads.blk (T := 30) (off := 0) (v := .slice (some ⟨b9, off, none⟩) n c) hst1 TyS.out (zR (zT (zT zH))) rfl, ?_⟩ | (have h9 := ld_addrA (HA.out _ (qd (yJ hst1))) hilt.out; rw [HZ] at h9; refine ⟨_, h9, ?_⟩; clear h9)) | (refine yA hi ?_) | (refine yN (T := 83) hst1 fun g8 w2 hst2 => ?_; clear hst1) | (refine ji [] hst2 fun w3 hst3 => ?_; clear hst2; have hst4 := yX hst3; clear hst3)); have hX := hst4.drew; clear hst4; refine wD (S := fun w' => Ld 129 gw 0 (.pointer (some ⟨gr, 0, none⟩)) w' ∧ Ld 3 g8 0 (.int .i64 d) w' ∧ Ld 3 g8 1 (.int .i64 p) w') ⟨yr (Loads.blk (T := 129) (off := 0) (v := .pointer (some ⟨gr, 0, none⟩)) hX TyS.out (zR zH) rfl), yr (Loads.blk (T := 3) (off := 0) (v := .int .i64 d) hX TyS.out (zR (zT (zT zH))) rfl), yr (Loads.blk (T := 3) (off := 1) (v := .int .i64 p) hX TyS.out (zR (zT (zT zH))) rfl)⟩ fun hHeld => ?_; refine jt 0 (h:=jt 4 (h:=jt 6 (h:=jt 1 (h:=jt 5 (h:=jt 7 (h:=jt 2 (h:=jt 3 (h:=?_)))))))); refine yF 8 (h0:=fun K hK => ?_); go_simp; go_at_call 128; have HC := read_r hX HRO.out d p HG.out.sc.ok (by have := HG.out.sc.ll; omega); rw [← HE, ← HB] at HC; refine HC.mono ?_; clear HC; rintro _ w4 ⟨u, q2, rfl, hq2, h4⟩; have HQ2 := ya hq2; have hA1 := yX h4; clear h4 hq2; refine kD hK (⟨yr (Loads.blk (T := 129) (off := 0) (v := .pointer (some ⟨gr, 0, none⟩)) hA1 TyS.out (zR zH) rfl), yr (Loads.blk (T := 3) (off := 0) (v := .int .i64 d) hA1 TyS.out (zR (zT (zT (zT zH)))) rfl), yr (Loads.blk (T := 3) (off := 1) (v := .int .i64 p) hA1 TyS.out (zR (zT (zT (zT zH)))) rfl)⟩) (h:=fun hHeld => ?_); refine jt 9 (h:=jt 10 (h:=jt 11 (h:=jt 12 (h:=jt 13 (h:=?_))))); refine jn ?_; clear hHeld; by_cases h0 : E = 10
 ·have e1 : (E == 10) = true := by rw [h0]; rfl
  have hk9 : m.kind d p S = 3 := by unfold MV.kind; rw [← HE]; rw [if_pos h0]
  have HB9 := ya (show m.lookB d p S = [] from by unfold MV.lookB; rw [hk9]; rfl); have HL9 := ya (show m.looked d p S = ⟨m.a.read d p, m.e⟩ from by
   unfold MV.looked
   congr 1
   rw [← HE, hk9]; rw [h0]; rfl)
  have HK9 := ya hk9; clear hk9; clear h0; go_wp2; go_ret2; rw [HK9, HB9, HL9]; exact ⟨.slice none 0 0, q2, rfl, HQ2.out, zt _ 1 (yJ (yJ (yJ hA1)))⟩
 have e1 : (E == 10) = false := beq_eq_false_iff_ne.2 h0; clear h0; by_cases h0 : E = 13
 ·have e2 : (E == 13) = true := by rw [h0]; rfl
  have hh := HE.out; have hin : m.a.inS d p = true := by
   cases hq : m.a.inS d p
   ·exfalso; have h1 := hh; rw [h0] at h1; unfold AR.readE at h1; rw [hq, if_neg HG.out.sc.ok.d0] at h1; cases ho : m.a.out <;> rw [ho] at h1 <;> simp at h1
   ·rfl
  have hin2 := yQ (yG hin); have hDD := HD9.out; obtain ⟨k, rfl⟩ : ∃ k : Nat, d = k := ⟨d.toNat, by omega⟩; have hkD : k < D := by omega
  have hge := re_get HG.out (k := k) (by omega); rw [hDD] at hge; have hen := er_in HG.out (k := k) (by omega); obtain ⟨y, hy⟩ : ∃ y, y = m.er (k : Int) := ⟨_, rfl⟩; rw [← hy] at hge hen; have HGE := ya hge; have z1 : IntKind.i64.wrap (y.rd + 1) = y.rd + 1 := IntWalk.i64_in _ (by omega); have HP := ya (show yw ((m.e.take D).flatMap ER.cells) (k * 3) [.int .i64 (y.rd + 1)] = ((m.e.modify k fRd).take D).flatMap ER.cells from re_put hge (f := fRd) (i := 0) (by decide) rfl); clear hh hin hin2 hDD hge hen hy; have hk9 : m.kind (k : Int) p S = 2 := by unfold MV.kind; rw [← HE]; rw [h0]; rfl
  have HB9 := ya (show m.lookB (k : Int) p S = [] from by unfold MV.lookB; rw [hk9]; rfl); have HL9 := ya (show m.looked (k : Int) p S = ⟨m.a.read (k : Int) p, m.e.modify k fRd⟩ from by
   unfold MV.looked
   congr 1
   rw [← HE, hk9]; rw [h0, Int.toNat_natCast]; rfl)
  have HK9 := ya hk9; clear hk9; clear h0; go_wp2; have hY := hA1.drew; clear hA1; refine wD (S := fun w' => Ld 137 gw 1 (.slice (some ⟨gE, 0, none⟩) D D) w' ∧ Ld 3 g8 0 (.int .i64 (k : Int)) w') ⟨yr (Loads.blk (T := 137) (off := 1) (v := .slice (some ⟨gE, 0, none⟩) D D) hY TyS.out (zR zH) rfl), yr (Loads.blk (T := 3) (off := 0) (v := .int .i64 (k : Int)) hY TyS.out (zR (zT (zT (zT zH)))) rfl)⟩ fun hHeld => ?_; refine jt 0 (h:=jt 4 (h:=jt 1 (h:=jt 5 (h:=jt 2 (h:=jt 3 (h:=?_)))))); refine wpAnyH_ready (rs := [6]) (by kernel_rfl) (by simp) ?_; refine (AllReadyH.cons (o := ⟨some 40, _, _, _, _, _⟩) rfl (fun K hK => ?_) AllReadyH.nil); refine qw (by rfl) ?_; refine yA hkD ?_; refine kQ hK (⟨yr (Loads.blk (T := 137) (off := 1) (v := .slice (some ⟨gE, 0, none⟩) D D) hY TyS.out (zR zH) rfl), yr (Loads.blk (T := 3) (off := 0) (v := .int .i64 (k : Int)) hY TyS.out (zR (zT (zT (zT zH)))) rfl)⟩) (h:=fun hHeld => ?_); refine jt 7 (h:=?_); refine rW 8 (h:=fun K hK => ?_); refine jl (Loads.cell (T := 3) (v := .int .i64 y.rd) TyS.out (ld_re hY HGE.out (i := 0) (by decide) rfl)) ?_; refine kQ hK (⟨yr (Loads.blk (T := 137) (off := 1) (v := .slice (some ⟨gE, 0, none⟩) D D) hY TyS.out (zR zH) rfl), yr (Loads.blk (T := 3) (off := 0) (v := .int .i64 (k : Int)) hY TyS.out (zR (zT (zT (zT zH)))) rfl)⟩) (h:=fun hHeld => ?_); refine jt 9 (h:=?_); refine wpAnyH_ready (rs := [10]) (by kernel_rfl) (by simp) ?_; refine (AllReadyH.cons (o := ⟨some 44, _, _, _, _, _⟩) rfl (fun K hK => ?_) AllReadyH.nil); refine qw (by rfl) ?_; refine yA hkD ?_; refine kQ hK (⟨yr (Loads.blk (T := 137) (off := 1) (v := .slice (some ⟨gE, 0, none⟩) D D) hY TyS.out (zR zH) rfl), yr (Loads.blk (T := 3) (off := 0) (v := .int .i64 (k : Int)) hY TyS.out (zR (zT (zT (zT zH)))) rfl)⟩) (h:=fun hHeld => ?_); refine jt 11 (h:=?_); refine rW 12 (h:=fun K hK => ?_); refine ye [] (frontE hY) rfl rfl rfl (off := k * 3) (v := .int .i64 (y.rd + 1)) rfl rfl rfl (re_fit HGE.out (i := 0) (by decide)) ?_; intro w7 hB4; have hB5 : St w0 M w7 (yg gr q2 ++ (yE gw gE gr D :: yC gE D (m.e.modify k fRd) :: .row u 5 1 B.length (yb B) :: .blk g8 83 [.int .i64 (k : Int), .int .i64 p] :: .blk g3 34 (yd (.slice (some ⟨b9, off, none⟩) n c) b v S) :: R)) := by
   have h9 := backE hB4; rw [show (Value.int .i64 (y.rd + 1)).cells.toList = [.int .i64 (y.rd + 1)] from rfl, HP] at h9; exact h9
  clear hB4; refine kQ hK (⟨yr (Loads.blk (T := 137) (off := 1) (v := .slice (some ⟨gE, 0, none⟩) D D) hB5 TyS.out (zR zH) rfl), yr (Loads.blk (T := 3) (off := 0) (v := .int .i64 (k : Int)) hB5 TyS.out (zR (zT (zT (zT zH)))) rfl)⟩) (h:=fun hHeld => ?_); refine jn ?_; clear hHeld; go_wp2; go_ret2; rw [HK9, HB9, HL9]; exact ⟨.slice none 0 0, q2, rfl, HQ2.out, zt _ 1 (yJ (yJ (yJ hB5)))⟩
 have e2 : (E == 13) = false := beq_eq_false_iff_ne.2 h0; by_cases h1 : E = 0; rotate_left
 ·have e3 : (E != 0) = true := bne_iff_ne.2 h1; have hk9 : m.kind d p S = 2 := by unfold MV.kind; rw [← HE]; rw [if_neg (by intro h9; rw [h9] at e1; cases e1), if_pos h1]
  have HB9 := ya (show m.lookB d p S = [] from by unfold MV.lookB; rw [hk9]; rfl); have HL9 := ya (show m.looked d p S = ⟨m.a.read d p, m.e⟩ from by
   unfold MV.looked
   congr 1
   rw [← HE, hk9]; rw [if_neg h0]; rfl)
  have HK9 := ya hk9; clear hk9; clear h0 h1; go_wp2; go_ret2; rw [HK9, HB9, HL9]; exact ⟨.slice none 0 0, q2, rfl, HQ2.out, zt _ 1 (yJ (yJ (yJ hA1)))⟩
 clear h0; have h0 := h1; clear h1; have e3 : (E != 0) = false := by rw [h0]; rfl
 have HBL := ya (show B.length = 256 from by rw [HB]; exact readB_len HG.out.sc.ok (by rw [← HE]; exact h0)); rw [HBL] at hA1; have HS32 := ya (show (z8 B).length = 32 from zZ _); obtain ⟨ua, uc, rfl⟩ := ya3 hA1 (zR (zT (zT zH))); have HH0 := ya h0; clear h0; go_wp2; obtain ⟨SM, hSM⟩ : ∃ SM, SM = (z8 B == S) := ⟨_, rfl⟩; have HSM := ya hSM; clear hSM; have hY := hA1.drew; clear hA1; refine wD (S := fun w' => Ld 32 g3 3 (.agg (List.toArray (yb S))) w') (yr (Loads.blkA (T := 32) (vs := yb S) hY (by rw [HL.out.v]; exact TyA.out) (zR (zT (zT (zT (zT zH))))) (qu _ _ _ _))) fun hHeld => ?_; refine jt 0 (h:=jt 2 (h:=jt 3 (h:=?_))); refine yF 1 (h0:=fun K hK => ?_); go_simp; go_at_call 157; refine (refSum_any ua 256 uc B _ (Rd.row hY (zR (zT (zT zH)))) HBL.out (by decide)).mono ?_; rintro _ w6 ⟨rfl, h4⟩; have hA3 := St.call0 hY h4; clear h4; refine kD hK (yr (Loads.blkA (T := 32) (vs := yb S) hA3 (by rw [HL.out.v]; exact TyA.out) (zR (zT (zT (zT (zT zH))))) (qu _ _ _ _))) (h:=fun hHeld => ?_); refine wpAnyH_ready (rs := [4]) (by kernel_rfl) (by simp) ?_; refine (AllReadyH.cons (o := ⟨some 54, _, _, _, _, _⟩) rfl (fun K hK => ?_) AllReadyH.nil); refine qw (by rfl) ?_; refine wl_neq_bytes rfl (by rfl) rfl rfl ⟨HS32.out, HL.out⟩ ?_; rw [← HSM]; refine kQ hK (yr (Loads.blkA (T := 32) (vs := yb S) hA3 (by rw [HL.out.v]; exact TyA.out) (zR (zT (zT (zT (zT zH))))) (qu _ _ _ _))) (h:=fun hHeld => ?_); refine jt 5 (h:=?_); refine jn ?_; clear hHeld; rcases Bool.eq_false_or_eq_true SM with hb | hb
 ·subst hb; have h1 : z8 B = S := by simpa using HSM.symm
  have hk9 : m.kind d p S = 0 := by unfold MV.kind; rw [← HE]; rw [if_neg (by rw [HH0.out]; decide), if_neg (by rw [HH0.out]; decide), ← HB, if_pos h1]
  have HB9 := ya (show m.lookB d p S = B from by unfold MV.lookB; rw [hk9]; exact HB.symm); have HL9 := ya (show m.looked d p S = ⟨m.a.read d p, m.e⟩ from by
   unfold MV.looked
   congr 1
   rw [← HE, hk9]; rw [HH0]; rfl)
  have HK9 := ya hk9; clear hk9; clear h1; go_wp2; go_ret2; rw [HK9, HB9, HL9, HBL]; exact ⟨.slice ua 256 uc, q2, rfl, HQ2.out, St.perm (offW2 hA3) List.perm_middle⟩
 ·subst hb; have h1 : ¬ z8 B = S := by simpa using HSM.symm
  have h0 := HH0.out; have hh := HE.out; have hin : m.a.inS d p = true := by
   cases hq : m.a.inS d p
   ·exfalso; have h1 := hh; rw [h0] at h1; unfold AR.readE at h1; rw [hq, if_neg HG.out.sc.ok.d0] at h1; cases ho : m.a.out <;> rw [ho] at h1 <;> simp at h1
   ·rfl
  have hin2 := yQ (yG hin); have hDD := HD9.out; obtain ⟨k, rfl⟩ : ∃ k : Nat, d = k := ⟨d.toNat, by omega⟩; have hkD : k < D := by omega
  have hge := re_get HG.out (k := k) (by omega); rw [hDD] at hge; have hen := er_in HG.out (k := k) (by omega); obtain ⟨y, hy⟩ : ∃ y, y = m.er (k : Int) := ⟨_, rfl⟩; rw [← hy] at hge hen; have HGE := ya hge; have z1 : IntKind.i64.wrap (y.sm + 1) = y.sm + 1 := IntWalk.i64_in _ (by omega); have HP := ya (show yw ((m.e.take D).flatMap ER.cells) (k * 3 + 1) [.int .i64 (y.sm + 1)] = ((m.e.modify k fSm).take D).flatMap ER.cells from re_put hge (f := fSm) (i := 1) (by decide) rfl); clear hh hin hin2 hDD hge hen hy; have hk9 : m.kind (k : Int) p S = 1 := by unfold MV.kind; rw [← HE]; rw [if_neg (by rw [h0]; decide), if_neg (by rw [h0]; decide), ← HB, if_neg h1]
  have HB9 := ya (show m.lookB (k : Int) p S = [] from by unfold MV.lookB; rw [hk9]; rfl); have HL9 := ya (show m.looked (k : Int) p S = ⟨m.a.read (k : Int) p, m.e.modify k fSm⟩ from by
   unfold MV.looked
   congr 1
   rw [← HE, hk9]; rw [h0, Int.toNat_natCast]; rfl)
  have HK9 := ya hk9; clear hk9; clear h0 h1; go_wp2; have hV := hA3.drew; clear hA3; refine wD (S := fun w' => Ld 137 gw 1 (.slice (some ⟨gE, 0, none⟩) D D) w' ∧ Ld 3 g8 0 (.int .i64 (k : Int)) w') ⟨yr (Loads.blk (T := 137) (off := 1) (v := .slice (some ⟨gE, 0, none⟩) D D) hV TyS.out (zR zH) rfl), yr (Loads.blk (T := 3) (off := 0) (v := .int .i64 (k : Int)) hV TyS.out (zR (zT (zT (zT zH)))) rfl)⟩ fun hHeld => ?_; refine jt 0 (h:=jt 4 (h:=jt 1 (h:=jt 5 (h:=jt 2 (h:=jt 3 (h:=?_)))))); refine wpAnyH_ready (rs := [6]) (by kernel_rfl) (by simp) ?_; refine (AllReadyH.cons (o := ⟨some 61, _, _, _, _, _⟩) rfl (fun K hK => ?_) AllReadyH.nil); refine qw (by rfl) ?_; refine yA hkD ?_; refine kQ hK (⟨yr (Loads.blk (T := 137) (off := 1) (v := .slice (some ⟨gE, 0, none⟩) D D) hV TyS.out (zR zH) rfl), yr (Loads.blk (T := 3) (off := 0) (v := .int .i64 (k : Int)) hV TyS.out (zR (zT (zT (zT zH)))) rfl)⟩) (h:=fun hHeld => ?_); refine jt 7 (h:=?_); refine rW 8 (h:=fun K hK => ?_); refine jl (Loads.cell (T := 3) (v := .int .i64 y.sm) TyS.out (ld_re hV HGE.out (i := 1) (by decide) rfl)) ?_; refine kQ hK (⟨yr (Loads.blk (T := 137) (off := 1) (v := .slice (some ⟨gE, 0, none⟩) D D) hV TyS.out (zR zH) rfl), yr (Loads.blk (T := 3) (off := 0) (v := .int .i64 (k : Int)) hV TyS.out (zR (zT (zT (zT zH)))) rfl)⟩) (h:=fun hHeld => ?_); refine jt 9 (h:=?_); refine wpAnyH_ready (rs := [10]) (by kernel_rfl) (by simp) ?_; refine (AllReadyH.cons (o := ⟨some 65, _, _, _, _, _⟩) rfl (fun K hK => ?_) AllReadyH.nil); refine qw (by rfl) ?_; refine yA hkD ?_; refine kQ hK (⟨yr (Loads.blk (T := 137) (off := 1) (v := .slice (some ⟨gE, 0, none⟩) D D) hV TyS.out (zR zH) rfl), yr (Loads.blk (T := 3) (off := 0) (v := .int .i64 (k : Int)) hV TyS.out (zR (zT (zT (zT zH)))) rfl)⟩) (h:=fun hHeld => ?_); refine jt 11 (h:=?_); refine rW 12 (h:=fun K hK => ?_); refine ye [] (frontE hV) rfl rfl rfl (off := k * 3 + 1) (v := .int .i64 (y.sm + 1)) rfl rfl rfl (re_fit HGE.out (i := 1) (by decide)) ?_; intro w7 hB4; have hB5 : St w0 M w7 (yg gr q2 ++ (yE gw gE gr D :: yC gE D (m.e.modify k fSm) :: .row (.slice ua 256 uc) 5 1 256 (yb B) :: .blk g8 83 [.int .i64 (k : Int), .int .i64 p] :: .blk g3 34 (yd (.slice (some ⟨b9, off, none⟩) n c) b v S) :: R)) := by
   have h9 := backE hB4; rw [show (Value.int .i64 (y.sm + 1)).cells.toList = [.int .i64 (y.sm + 1)] from rfl, HP] at h9; exact h9
  clear hB4; refine kQ hK (⟨yr (Loads.blk (T := 137) (off := 1) (v := .slice (some ⟨gE, 0, none⟩) D D) hB5 TyS.out (zR zH) rfl), yr (Loads.blk (T := 3) (off := 0) (v := .int .i64 (k : Int)) hB5 TyS.out (zR (zT (zT (zT zH)))) rfl)⟩) (h:=fun hHeld => ?_); refine jn ?_; clear hHeld; go_wp2; go_ret2; rw [HK9, HB9, HL9]; exact ⟨.slice none 0 0, q2, rfl, HQ2.out, zt _ 1 (yJ (yJ (yJ hB5)))⟩
end
end
theorem put_ask {m : MV} {N : Nat} (hg : MGood m N) (l : List (Int × Int)) (bs : List UInt8) : (decide (bs.length = 256) && (decide (0 < l.length) && (zQ l 1 0 nones && jF m.a.devs.length m.a.secs l))) = m.putOk l bs := by
 have hc : zQ l 1 0 nones = qW l := by
  unfold zQ qM nothingB; rw [decide_eq_false (p := (1 : Int) = 0) (by decide), Bool.false_and, Bool.and_false, Bool.false_or, decide_eq_true (p := (1 : Int) ≤ 1 ∧ (1 : Int) ≤ 2147483648 ∧ (0 : Int) ≤ 0 ∧ (0 : Int) ≤ 3) (by decide), Bool.and_true]
 rw [hc]; unfold MV.putOk; apply Bool.eq_iff_iff.2; unfold qW; simp only [Bool.and_eq_true, decide_eq_true_eq, okA_rev]; constructor
 ·rintro ⟨h1, h2, ⟨⟨h3, h4⟩, h5⟩, h6⟩; exact ⟨⟨h1, h5⟩, by rw [lies_ref hg h3]; exact h6, h4⟩
 ·rintro ⟨⟨h1, h5⟩, h6, h4⟩; have hv := lies_valid hg h6; exact ⟨h1, by omega, ⟨⟨hv, h4⟩, h5⟩, by rw [← lies_ref hg hv]; exact h6⟩
theorem ybc {ao : Option Addr} {n c : Nat} : Tryz.prog.built 34 [(0, .slice ao n c), (1, .int .i64 1)] = some (yd (.slice ao n c) 1 0 nones).toArray := by
 kernel_rfl
section
attribute [local go_sem ↓] j7 j6 j9 j8 j5 yad yae yab yac
attribute [local irreducible] Hp.Loads
section
variable {w0 w : World} {M : List Nat} {R : List HA} {gw gE gr D : Nat} {q : RX} {m : MV} {N : Nat} (hS : St w0 M w (yg gr q ++ (yE gw gE gr D :: yC gE D m.e :: R))) (ro : RefOk m.a q) (hg : MGood m N) (hD : m.a.devs.length = D) (ao : Option Addr) (n c : Nat) (l : List (Int × Int)) (hn : l.length = n) (hA : ∀ w, St w0 M w R → Rd w (.slice ao n c) 2 n (yu l)) (bo : Option Addr) (bn bc : Nat) (bs : List UInt8) (hb : GB w0 M R (.slice bo bn bc) bn bs) (hN : N ≤ 800000)
include hS ro hg hD ao n c l hn hA bo bn bc bs hb hN
theorem rput_len (h1 : bs.length ≠ 256) :
  Calls Tryz.prog 73 #[.pointer (some ⟨gw, 0, none⟩), .slice ao n c, .slice bo bn bc] w fun e w' => ∃ y, e = .returned (.tuple #[.int .i64 (m.put l bs).n, .int .i64 (m.put l bs).er]) ∧ RefOk (m.put l bs).a y ∧ St w0 M w' (yg gr y ++ (yE gw gE gr D :: yC gE D m.e :: R)) := by
 have _ := hN; have ho := put_ask hg l bs; rw [hD, hn] at ho; rw [zF h1] at ho; have hr : m.put l bs = ⟨2, 0, m.a⟩ := by unfold MV.put; rw [← ho]; rfl
 rw [hr]; have hbl := hb.len; have HRO := ya ro; have HG := ya hg; have HB := ya hb; have Hn := ya hn; have HA := ya hA; have HDD := ya hD; have hst := hS; have d1 : ((bn : Int) != 256) = true := bne_iff_ne.2 (by omega); clear hS ro hg hD hn hA hb hbl ho hr h1; go_enter Tryz.func73, Tryz.ntmps73; go_wp2_with (first | (refine yH (cs := yd (.slice ao n c) 1 0 nones) [(0, _), (1, .int .i64 1)] rfl rfl (by exact rfl) ybc ?_) | (refine yN (T := 34) hst fun g8 w1 hst1 => ?_; clear hst) | (refine yx [] hst1 rfl rfl rfl rfl (yo L32.nones _ _ _) (qH _ _ _ _ _ _) (yo L32.nones _ _ _) ?_; intro w2 hst2; clear hst1; have hst3 := yX hst2; clear hst2)); go_ret2; exact ⟨q, rfl, HRO.out, yJ hst3⟩
theorem rput_none (h1 : bs.length = 256) (h2 : ¬ 0 < n) :
  Calls Tryz.prog 73 #[.pointer (some ⟨gw, 0, none⟩), .slice ao n c, .slice bo bn bc] w fun e w' => ∃ y, e = .returned (.tuple #[.int .i64 (m.put l bs).n, .int .i64 (m.put l bs).er]) ∧ RefOk (m.put l bs).a y ∧ St w0 M w' (yg gr y ++ (yE gw gE gr D :: yC gE D m.e :: R)) := by
 have _ := hN; have ho := put_ask hg l bs; rw [hD, hn] at ho; rw [zD h1, zF h2] at ho; have hr : m.put l bs = ⟨2, 0, m.a⟩ := by unfold MV.put; rw [← ho]; rfl
 rw [hr]; have hbl := hb.len; have HRO := ya ro; have HG := ya hg; have HB := ya hb; have Hn := ya hn; have HA := ya hA; have HDD := ya hD; have hst := hS; have d1 : ((bn : Int) != 256) = false := by rw [← hbl, h1]; rfl
 have h0 : n = 0 := by omega
 subst h0; clear hS ro hg hD hn hA hb hbl ho hr h1 h2; go_enter Tryz.func73, Tryz.ntmps73; go_wp2_with (first | (refine yH (cs := yd (.slice ao 0 c) 1 0 nones) [(0, _), (1, .int .i64 1)] rfl rfl (by exact rfl) ybc ?_) | (refine yN (T := 34) hst fun g8 w1 hst1 => ?_; clear hst) | (refine yx [] hst1 rfl rfl rfl rfl (yo L32.nones _ _ _) (qH _ _ _ _ _ _) (yo L32.nones _ _ _) ?_; intro w2 hst2; clear hst1; have hst3 := yX hst2; clear hst2)); go_ret2; exact ⟨q, rfl, HRO.out, yJ hst3⟩
theorem rput_odd (h1 : bs.length = 256) (h2 : 0 < n) (h3 : zQ l 1 0 nones = false) :
  Calls Tryz.prog 73 #[.pointer (some ⟨gw, 0, none⟩), .slice ao n c, .slice bo bn bc] w fun e w' => ∃ y, e = .returned (.tuple #[.int .i64 (m.put l bs).n, .int .i64 (m.put l bs).er]) ∧ RefOk (m.put l bs).a y ∧ St w0 M w' (yg gr y ++ (yE gw gE gr D :: yC gE D m.e :: R)) := by
 have _ := hN; have ho := put_ask hg l bs; rw [hD, hn] at ho; rw [zD h1, zD h2, h3] at ho; have hr : m.put l bs = ⟨2, 0, m.a⟩ := by unfold MV.put; rw [← ho]; rfl
 rw [hr]; have hbl := hb.len; have HRO := ya ro; have HG := ya hg; have HB := ya hb; have Hn := ya hn; have HA := ya hA; have HDD := ya hD; have hst := hS; have d1 : ((bn : Int) != 256) = false := by rw [← hbl, h1]; rfl
 have h0 : n ≠ 0 := by omega
 have d2 : ((n : Int) == 0) = false := beq_eq_false_iff_ne.2 (by omega); have HCE := ya (show jo l 1 0 nones = 2 from by unfold jo; rw [h3]; rfl); clear hS ro hg hD hn hA hb hbl ho hr h1 h3; go_enter Tryz.func73, Tryz.ntmps73; go_wp2_with (first | (refine yH (cs := yd (.slice ao n c) 1 0 nones) [(0, _), (1, .int .i64 1)] rfl rfl (by exact rfl) ybc ?_) | (refine yN (T := 34) hst fun g8 w1 hst1 => ?_; clear hst) | (refine yx [] hst1 rfl rfl rfl rfl (yo L32.nones _ _ _) (qH _ _ _ _ _ _) (yo L32.nones _ _ _) ?_; intro w2 hst2; clear hst1; have hst3 := yX hst2; clear hst2) | (refine jl (Loads.blkA (T := 34) (vs := yd (.slice ao n c) 1 0 nones) hst3 (by rw [yo L32.nones]; exact TyA.out) (zR (zT (zT zH))) (yz _ _ _ _)) ?_) | (go_at_call 120; refine (yaJ ao n c l 1 0 nones _ L32.nones (HA.out _ (qd (yJ hst3))) Hn.out).mono ?_; rw [HCE]; rintro _ w3 ⟨rfl, h4⟩; have hst4 := St.call0 hst3 h4; clear h4 hst3)); go_ret2; exact ⟨q, rfl, HRO.out, yJ hst4⟩
theorem rput_far (h1 : bs.length = 256) (h2 : 0 < n) (h3 : zQ l 1 0 nones = true) (h4 : jF D m.a.secs l = false) :
  Calls Tryz.prog 73 #[.pointer (some ⟨gw, 0, none⟩), .slice ao n c, .slice bo bn bc] w fun e w' => ∃ y, e = .returned (.tuple #[.int .i64 (m.put l bs).n, .int .i64 (m.put l bs).er]) ∧ RefOk (m.put l bs).a y ∧ St w0 M w' (yg gr y ++ (yE gw gE gr D :: yC gE D m.e :: R)) := by
 have _ := hN; have ho := put_ask hg l bs; rw [hD, hn] at ho; rw [zD h1, zD h2, h3, h4] at ho; have hr : m.put l bs = ⟨2, 0, m.a⟩ := by unfold MV.put; rw [← ho]; rfl
 rw [hr]; have hbl := hb.len; have HRO := ya ro; have HG := ya hg; have HB := ya hb; have Hn := ya hn; have HA := ya hA; have HDD := ya hD; have hst := hS; have d1 : ((bn : Int) != 256) = false := by rw [← hbl, h1]; rfl
 have h0 : n ≠ 0 := by omega
 have d2 : ((n : Int) == 0) = false := beq_eq_false_iff_ne.2 (by omega); have HCE := ya (show jo l 1 0 nones = 0 from by unfold jo; rw [h3]; rfl); have HLI := ya h4; clear hS ro hg hD hn hA hb hbl ho hr h1 h3 h4; go_enter Tryz.func73, Tryz.ntmps73; go_wp2_with (first | (refine yH (cs := yd (.slice ao n c) 1 0 nones) [(0, _), (1, .int .i64 1)] rfl rfl (by exact rfl) ybc ?_) | (refine yN (T := 34) hst fun g8 w1 hst1 => ?_; clear hst) | (refine yx [] hst1 rfl rfl rfl rfl (yo L32.nones _ _ _) (qH _ _ _ _ _ _) (yo L32.nones _ _ _) ?_; intro w2 hst2; clear hst1; have hst3 := yX hst2; clear hst2) | (refine jl (Loads.blkA (T := 34) (vs := yd (.slice ao n c) 1 0 nones) hst3 (by rw [yo L32.nones]; exact TyA.out) (zR (zT (zT zH))) (yz _ _ _ _)) ?_) | (go_at_call 120; refine (yaJ ao n c l 1 0 nones _ L32.nones (HA.out _ (qd (yJ hst3))) Hn.out).mono ?_; rw [HCE]; rintro _ w3 ⟨rfl, h4⟩; have hst4 := St.call0 hst3 h4; clear h4 hst3) | (go_at_call 121; have HC := rlies_any hst4 HRO.out HG.out HDD.out ao n c l Hn.out (fun w h => HA.out w (St.sub h zC)); rw [HLI] at HC; refine je HC fun w4 hst5 => ?_; clear HC hst4)); go_ret2; exact ⟨q, rfl, HRO.out, yJ hst5⟩
theorem rput_ok (h1 : bs.length = 256) (h2 : 0 < n) (h3 : zQ l 1 0 nones = true) (h4 : jF D m.a.secs l = true) :
  Calls Tryz.prog 73 #[.pointer (some ⟨gw, 0, none⟩), .slice ao n c, .slice bo bn bc] w fun e w' => ∃ y, e = .returned (.tuple #[.int .i64 (m.put l bs).n, .int .i64 (m.put l bs).er]) ∧ RefOk (m.put l bs).a y ∧ St w0 M w' (yg gr y ++ (yE gw gE gr D :: yC gE D m.e :: R)) := by
 have ho := put_ask hg l bs; rw [hD, hn] at ho; rw [zD h1, zD h2, h3, h4] at ho; have hr : m.put l bs = zU bs m.a 0 l := by unfold MV.put; rw [← ho]; rfl
 rw [hr]; have hbl := hb.len; have HRO := ya ro; have HG := ya hg; have HB := ya hb; have Hn := ya hn; have HA := ya hA; have HDD := ya hD; have hst := hS; have d1 : ((bn : Int) != 256) = false := by rw [← hbl, h1]; rfl
 have h0 : n ≠ 0 := by omega
 have d2 : ((n : Int) == 0) = false := beq_eq_false_iff_ne.2 (by omega); have HCE := ya (show jo l 1 0 nones = 0 from by unfold jo; rw [h3]; rfl); have HLI := ya h4; have hn3 : n ≤ 3 := by
  have h9 : qW l = true := by
   have h8 := h3; unfold zQ qM nothingB at h8; rw [decide_eq_false (p := (1 : Int) = 0) (by decide), Bool.false_and, Bool.and_false, Bool.false_or, Bool.and_eq_true] at h8; exact h8.1
  unfold qW at h9; simp only [Bool.and_eq_true, decide_eq_true_eq] at h9; omega
 obtain ⟨F, hF⟩ : ∃ F, F = zU bs m.a 0 l := ⟨_, rfl⟩; rw [← hF]; have HF := ya (show F = zU bs m.a 0 (l.drop 0) from hF); clear hS ro hg hD hn hA hb hbl ho hr h1 h3 h4 hF; go_enter Tryz.func73, Tryz.ntmps73; go_wp2_with (first | (refine yH (cs := yd (.slice ao n c) 1 0 nones) [(0, _), (1, .int .i64 1)] rfl rfl (by exact rfl) ybc ?_) | (refine yN (T := 34) hst fun g8 w1 hst1 => ?_; clear hst) | (refine yx [] hst1 rfl rfl rfl rfl (yo L32.nones _ _ _) (qH _ _ _ _ _ _) (yo L32.nones _ _ _) ?_; intro w2 hst2; clear hst1; have hst3 := yX hst2; clear hst2) | (refine jl (Loads.blkA (T := 34) (vs := yd (.slice ao n c) 1 0 nones) hst3 (by rw [yo L32.nones]; exact TyA.out) (zR (zT (zT zH))) (yz _ _ _ _)) ?_) | (go_at_call 120; refine (yaJ ao n c l 1 0 nones _ L32.nones (HA.out _ (qd (yJ hst3))) Hn.out).mono ?_; rw [HCE]; rintro _ w3 ⟨rfl, h4⟩; have hst4 := St.call0 hst3 h4; clear h4 hst3) | (go_at_call 121; have HC := rlies_any hst4 HRO.out HG.out HDD.out ao n c l Hn.out (fun w h => HA.out w (St.sub h zC)); rw [HLI] at HC; refine je HC fun w4 hst5 => ?_; clear HC hst4)); go_loopw [9, 10] (fun qc ii wr => ∃ (i cnt : Nat) (a' : AR) (q' : RX), i ≤ n ∧ cnt ≤ i ∧ ii = .int .i64 (i : Int) ∧ qc = .int .i64 (cnt : Int) ∧ Hid (F = zU bs a' cnt (l.drop i)) ∧ Hid (MGood (m.withA a') (N + i)) ∧ Hid (RefOk a' q') ∧ St w0 M wr (yg gr q' ++ (yE gw gE gr D :: yC gE D m.e :: .blk g8 34 (yd (.slice ao n c) 1 0 nones) :: R))) (fun _ ii _ => n - (intOf ii).toNat)
 case atStart => exact ⟨0, 0, m.a, q, Nat.zero_le _, Nat.le_refl _, rfl, rfl, HF, HG, HRO, hst5⟩
 case round =>
  clear hst5; obtain ⟨i, cnt, a1, q1, hi, hc, rfl, rfl, HW, HGK, HR1, hst⟩ := hrel; by_cases hlt : i < n
  ·have d0 : decide ((i : Int) < (n : Int)) = true := zD (by omega); have z1 : IntKind.i64.wrap ((i : Int) + 1) = (i : Int) + 1 := IntWalk.i64_in _ (by omega); have z2 : IntKind.i64.wrap ((cnt : Int) + 1) = (cnt : Int) + 1 := IntWalk.i64_in _ (by omega); have hilt := ya (show i < l.length from by rw [Hn]; exact hlt); have HH := ya (wrote_cons (b := bs) (a := a1) (cnt := cnt) hilt.out); obtain ⟨b9, off, rfl, _⟩ := (HA.out _ (qd (yJ hst))).at hlt; have LD0 := ya (fun (w' : World) (h : St w0 M w' (yg gr q1 ++ (yE gw gE gr D :: yC gE D m.e :: .blk g8 34 (yd (.slice (some ⟨b9, off, none⟩) n c) 1 0 nones) :: R))) => yaY (HA.out _ (qd (yJ h))) hilt.out); have LD1 := ya (fun (w' : World) (h : St w0 M w' (yg gr q1 ++ (yE gw gE gr D :: yC gE D m.e :: .blk g8 34 (yd (.slice (some ⟨b9, off, none⟩) n c) 1 0 nones) :: R))) => ld_addr1 (HA.out _ (qd (yJ h))) hilt.out); obtain ⟨z, hz⟩ : ∃ z, z = l.getD i (0, 0) := ⟨_, rfl⟩; rw [← hz] at LD0 LD1 HH; obtain ⟨E, hE⟩ : ∃ E, E = a1.writeE z.1 z.2 bs := ⟨_, rfl⟩; have HE := ya hE; rw [← hE] at HH; have HG2 := ya (show MGood (m.withA (a1.write z.1 z.2 bs)) (N + i + 1) from HGK.out.arr (HGK.out.sc.ok.write _ _ _) (Stays.write _ _ _ _)); have HZ := ya hz.symm; clear hz hE; go_wp2; have hX := hst.drew; clear hst; refine wD (S := fun w' => Ld 129 gw 0 (.pointer (some ⟨gr, 0, none⟩)) w' ∧ Ld 3 b9 (off + i * 2) (.int .i64 z.1) w' ∧ Ld 3 b9 (off + i * 2 + 1) (.int .i64 z.2) w') ⟨yr (Loads.blk (T := 129) (off := 0) (v := .pointer (some ⟨gr, 0, none⟩)) hX TyS.out (zR zH) rfl), yr (LD0.out _ hX), yr (LD1.out _ hX)⟩ fun hHeld => ?_; refine jt 0 (h:=jt 4 (h:=jt 5 (h:=jt 9 (h:=jt 10 (h:=jt 14 (h:=jt 1 (h:=jt 6 (h:=jt 11 (h:=jt 2 (h:=jt 7 (h:=jt 12 (h:=jt 3 (h:=jt 8 (h:=jt 13 (h:=?_))))))))))))))); refine yF 15 (h0:=fun K hK => ?_); go_simp; go_at_call 122; refine (write_g hX HR1.out z.1 z.2 bo bn bc bs (GB.more (P := [_, _, _]) HB.out) HGK.out.sc.ok (by have := HGK.out.sc.ll; dsimp only [MV.withA] at this; omega) (by have := HGK.out.sc.st; dsimp only [MV.withA] at this; omega)).mono ?_; rw [← HE]; rintro _ w6 ⟨rfl, q2, hq2, h4⟩; have hA1 : St w0 M w6 (yg gr q2 ++ (yE gw gE gr D :: yC gE D m.e :: .blk g8 34 (yd (.slice (some ⟨b9, off, none⟩) n c) 1 0 nones) :: R)) := h4; have HQ2 := ya hq2; have LD02 := ya (fun (w' : World) (h : St w0 M w' (yg gr q2 ++ (yE gw gE gr D :: yC gE D m.e :: .blk g8 34 (yd (.slice (some ⟨b9, off, none⟩) n c) 1 0 nones) :: R))) => yaY (HA.out _ (qd (yJ h))) hilt.out); have LD12 := ya (fun (w' : World) (h : St w0 M w' (yg gr q2 ++ (yE gw gE gr D :: yC gE D m.e :: .blk g8 34 (yd (.slice (some ⟨b9, off, none⟩) n c) 1 0 nones) :: R))) => ld_addr1 (HA.out _ (qd (yJ h))) hilt.out); rw [HZ] at LD02 LD12; clear h4 hq2; refine kD hK (⟨yr (Loads.blk (T := 129) (off := 0) (v := .pointer (some ⟨gr, 0, none⟩)) hA1 TyS.out (zR zH) rfl), yr (LD02.out _ hA1), yr (LD12.out _ hA1)⟩) (h:=fun hHeld => ?_); refine jn ?_; clear hHeld; by_cases e0 : E = 0
   ·subst e0; have HQ := ya (HW.trans (HH.trans (if_pos rfl))); clear HW HH; go_wp2; go_roundw
    case rel => exact ⟨i + 1, cnt + 1, _, q2, by omega, by omega, by go_num, by go_num, HQ, HG2, HQ2, hA1⟩
    case measure => simp [intOf]; omega
   ·by_cases e1 : E = 10
    ·subst e1; have HQ := ya (HW.trans (HH.trans ((if_neg (by decide)).trans (if_pos rfl)))); clear HW HH; go_wp2; go_ret2; exact ⟨q2, by rw [HQ]; rfl, by rw [HQ]; exact HQ2.out, yJ hA1⟩
    ·have HQ := ya (HW.trans (HH.trans ((if_neg e0).trans (if_neg e1)))); have f0 : (E == 0) = false := beq_eq_false_iff_ne.2 e0; have f1 : (E == 10) = false := beq_eq_false_iff_ne.2 e1; clear HW HH e0 e1; go_wp2; go_roundw
     case rel => exact ⟨i + 1, cnt, _, q2, by omega, by omega, by go_num, rfl, HQ, HG2, HQ2, hA1⟩
     case measure => simp [intOf]; omega
  ·obtain rfl : i = n := by omega
   have d0 : decide ((i : Int) < (i : Int)) = false := zF (by omega); have HQ := ya (show F = jD cnt a1 from HW.trans (by rw [List.drop_of_length_le (by rw [Hn.out]; exact Nat.le_refl _)]; rfl)); by_cases hc0 : cnt = 0
   ·subst hc0; go_wp2; go_ret2; exact ⟨q1, by rw [HQ]; rfl, by rw [HQ]; exact HR1.out, yJ hst⟩
   ·have d3 : ((cnt : Int) == 0) = false := beq_eq_false_iff_ne.2 (by omega); have hs : jD cnt a1 = ⟨0, cnt, a1⟩ := by unfold jD; rw [if_neg hc0]
    have HS := ya hs; go_wp2; go_ret2; exact ⟨q1, by rw [HQ, HS]; rfl, by rw [HQ, HS]; exact HR1.out, yJ hst⟩
theorem rput_any :
  Calls Tryz.prog 73 #[.pointer (some ⟨gw, 0, none⟩), .slice ao n c, .slice bo bn bc] w fun e w' => ∃ y, e = .returned (.tuple #[.int .i64 (m.put l bs).n, .int .i64 (m.put l bs).er]) ∧ RefOk (m.put l bs).a y ∧ St w0 M w' (yg gr y ++ (yE gw gE gr D :: yC gE D m.e :: R)) := by
 by_cases h1 : bs.length = 256
 ·by_cases h2 : 0 < n
  ·cases h3 : zQ l 1 0 nones
   ·exact rput_odd hS ro hg hD ao n c l hn hA bo bn bc bs hb hN h1 h2 h3
   ·cases h4 : jF D m.a.secs l
    ·exact rput_far hS ro hg hD ao n c l hn hA bo bn bc bs hb hN h1 h2 h3 h4
    ·exact rput_ok hS ro hg hD ao n c l hn hA bo bn bc bs hb hN h1 h2 h3 h4
  ·exact rput_none hS ro hg hD ao n c l hn hA bo bn bc bs hb hN h1 h2
 ·exact rput_len hS ro hg hD ao n c l hn hA bo bn bc bs hb hN h1
end
end
section
theorem loadedIb (A : Addr) : loadVar 3 A = yn 3 A := rfl
theorem loadedUb (A : Addr) : loadVar 5 A = yn 5 A := rfl
theorem loadedBb (A : Addr) : loadVar 28 A = yn 28 A := rfl
theorem loadedLb (A : Addr) : loadVar 47 A = yn 47 A := rfl
attribute [local go_sem ↓] loadedIb loadedUb loadedBb loadedLb
attribute [local irreducible] Hp.Loads
end
end
section
open Go.RowKit Hp
theorem dl_heals {b : List UInt8} : ∀ (l : List (Int × Int)) (m : MV), (m.heals l b).a.devs.length = m.a.devs.length
 | [], _ => rfl
 | x :: l, m => (dl_heals l (m.healed x.1 x.2 b)).trans (yaF m.a x.1 x.2 b)
theorem yaZ {S : List UInt8} {but : Int} : ∀ (l ill : List (Int × Int)) (m : MV), (yB S but m l ill).m.a.devs.length = m.a.devs.length
 | [], _, _ => rfl
 | x :: l, ill, m => by
  have h : (m.looked x.1 x.2 S).a.devs.length = m.a.devs.length := dl_read m.a x.1 x.2; unfold yB; split
  ·exact yaZ l ill m
  ·split
   ·exact h
   ·split
    ·exact (yaZ l _ _).trans h
    ·split
     ·exact h
     ·exact (yaZ l _ _).trans h
theorem dl_get (m : MV) (P : PV) : (m.get P).m.a.devs.length = m.a.devs.length := by
 unfold MV.get; split
 ·rfl
 ·split
  ·exact yaZ _ _ _
  ·exact (dl_heals _ _).trans (yaZ _ _ _)
theorem dl_look {S : List UInt8} : ∀ (l : List (Int × Int)) (c : CR), (l.foldl (CR.next S) c).m.a.devs.length = c.m.a.devs.length
 | [], _ => rfl
 | x :: l, c => by
  rw [List.foldl_cons]; refine (dl_look l _).trans ?_; unfold CR.next; split
  ·rfl
  ·split
   ·exact dl_read c.m.a x.1 x.2
   ·split
    ·exact dl_read c.m.a x.1 x.2
    ·split
     ·exact dl_read c.m.a x.1 x.2
     ·exact dl_read c.m.a x.1 x.2
theorem dl_mend {any : Bool} {b : List UInt8} : ∀ (l : List (Int × Int)) (h : HR), (l.foldl (HR.next any b) h).m.a.devs.length = h.m.a.devs.length
 | [], _ => rfl
 | x :: l, h => by
  rw [List.foldl_cons]; refine (dl_mend l _).trans ?_; unfold HR.next; split
  ·exact yaF h.m.a x.1 x.2 b
  ·dsimp only; split
   ·exact yaF h.m.a x.1 x.2 b
   ·rfl
theorem dl_scan (m : MV) (P : PV) : (m.scan P).m.a.devs.length = m.a.devs.length := by
 unfold MV.scan; split
 ·rfl
 ·split
  ·exact dl_look _ _
  ·exact (dl_mend _ _).trans (dl_look _ _)
theorem dl_restore (m : MV) (P : PV) (dev : Int) : (m.restore P dev).m.a.devs.length = m.a.devs.length := by
 unfold MV.restore; split
 ·rfl
 ·split
  ·rfl
  ·split
   ·rfl
   ·split
    ·exact yaZ _ _ _
    ·exact (yaF _ _ _ _).trans (yaZ _ _ _)
theorem dl_some (n : Nat) (a : AR) : (jD n a).a = a := by unfold jD; split <;> rfl
theorem dl_wrote {b : List UInt8} : ∀ (l : List (Int × Int)) (a : AR) (n : Nat), (zU b a n l).a.devs.length = a.devs.length
 | [], a, n => by unfold zU; rw [dl_some]
 | x :: l, a, n => by
  have h := yaF a x.1 x.2 b; unfold zU; split
  ·exact (dl_wrote l _ _).trans h
  ·split
   ·exact h
   ·exact (dl_wrote l _ _).trans h
theorem dl_put (m : MV) (l : List (Int × Int)) (b : List UInt8) : (m.put l b).a.devs.length = m.a.devs.length := by
 unfold MV.put; split
 ·exact dl_wrote _ _ _
 ·rfl
theorem dl_flushed {d : Nat} : ∀ (k : Nat) (a : AR) (n : Nat), (zr d k a n).a.devs.length = a.devs.length
 | 0, a, n => by unfold zr; rw [dl_some]
 | k + 1, a, n => by
  have h := dl_flush a ((d - (k + 1) : Nat) : Int); unfold zr; split
  ·exact dl_flushed k _ _
  ·split
   ·exact (dl_flushed k _ _).trans h
   ·split
    ·exact h
    ·exact (dl_flushed k _ _).trans h
theorem dl_mflush (m : MV) : m.flush.a.devs.length = m.a.devs.length := by
 unfold MV.flush; split
 ·rfl
 ·exact dl_flushed _ _ _
theorem restore_good {m : MV} {N : Nat} (h : MGood m N) (P : PV) (dev : Int) : MGood (m.restore P dev).m (N + P.l.length + 1) := by
 unfold MV.restore; split
 ·exact h.mono (by omega)
 ·split
  ·exact h.mono (by omega)
  ·split
   ·exact h.mono (by omega)
   ·have hf := qC (S := P.S) (but := dev) (l := P.l) (ill := []) h; split
    ·exact hf.mono (by omega)
    ·exact hf.arr (hf.sc.ok.write _ _ _) (Stays.write _ _ _ _)
end
end Go.Proofs.YtmdfbdfijnmhkaaGreat
