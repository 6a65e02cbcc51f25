import Derived.Test.YtmdfbdfijnmhkaaJMirrorHealse
import Derived.Test.YtmdfbdfijnmhkaaSepE
import Derived.Test.YtmdfbdfijnmhkaaKTy
import Derived.Test.YtmdfbdfijnmhkaaSepQ
import Derived.IntWalk
namespace Go.Proofs.Ytmdfbdfijnmhkaa
set_option linter.unusedVariables false
set_option linter.unusedSimpArgs false
open Go.RowKit Hp
attribute [local irreducible] Go.Calls Go.wpList
set_option maxRecDepth 100000
set_option maxHeartbeats 4000000
theorem flushed_step {d k cnt : Nat} {a : AR} (hk : k < d) : flushed16 d (d - k) a cnt = (if a.up (k : Int) = false then flushed16 d (d - (k + 1)) a cnt
    else if a.flushE (k : Int) = 0 then flushed16 d (d - (k + 1)) (a.flush (k : Int)) (cnt + 1)
    else if a.flushE (k : Int) = 10 then ⟨10, 0, a.flush (k : Int)⟩
    else flushed16 d (d - (k + 1)) (a.flush (k : Int)) cnt) := by
  have e : d - k = (d - (k + 1)) + 1 := by omega
  rw [e]
  conv => lhs; unfold flushed16
  have e2 : d - (d - (k + 1) + 1) = k := by omega
  rw [e2]
theorem flush_out {w0 w : World} {M : List Nat} {R : List HA} {gm ga : Nat} {x : GA} {m : MV} {N : Nat} (hS : St w0 M w (mP gm ga x m ++ R)) (hg : MGood m N) (hN : N ≤ 800000) (h1 : m.a.out = true) :
    Calls Try.prog 21 #[PM gm] w fun e w' => ∃ x', e = .returned (.tuple #[.int .i64 m.flush.n, .int .i64 m.flush.er]) ∧ St w0 M w' (mP gm ga x' (m.withA m.flush.a) ++ R) := by
  have hr : m.flush = ⟨10, 0, m.a⟩ := by unfold MV.flush; rw [h1]; rfl
  rw [hr]
  have hst := hS
  have HG := hid hg
  have HO := hid h1
  clear hS hg h1 hr
  unfold PM
  go_enter Try.func21, Try.ntmps21
  go_wp2_with (first | go_big_skip | go_big_guard | (go_at_call 43; refine (mirNone_any (St.mat hst HG.out.sc.ok.d0)).mono ?_; rintro _ w2 ⟨rfl, h4⟩; replace hst := St.call0 hst h4; clear h4) | (go_at_call 50; have HC := broken_any hst HG.out (by omega); rw [HO.out] at HC; refine HC.mono ?_; clear HC; rintro _ w2 ⟨rfl, h4⟩; replace hst := h4; clear h4))
  go_ret2
  exact ⟨x, rfl, hst⟩
theorem flush_on {w0 w : World} {M : List Nat} {R : List HA} {gm ga : Nat} {x : GA} {m : MV} {N : Nat} (hS : St w0 M w (mP gm ga x m ++ R)) (hg : MGood m N) (hN : N ≤ 800000) (h1 : m.a.out = false) :
    Calls Try.prog 21 #[PM gm] w fun e w' => ∃ x', e = .returned (.tuple #[.int .i64 m.flush.n, .int .i64 m.flush.er]) ∧ St w0 M w' (mP gm ga x' (m.withA m.flush.a) ++ R) := by
  have hr : m.flush = flushed16 m.a.devs.length m.a.devs.length m.a 0 := by unfold MV.flush; rw [h1]; rfl
  rw [hr]
  have hst := hS
  have HG := hid hg
  have HO := hid h1
  obtain ⟨d, hd⟩ : ∃ d, d = m.a.devs.length := ⟨_, rfl⟩
  have HD := hid hd
  have hd8 : d ≤ 8 := by rw [hd]; exact hg.sc.ok.dn
  rw [← hd]
  obtain ⟨F, hF⟩ : ∃ F, F = flushed16 d d m.a 0 := ⟨_, rfl⟩
  have HF := hid hF
  rw [← hF]
  clear hS hg h1 hr hd hF
  unfold PM
  go_enter Try.func21, Try.ntmps21
  go_wp2_with (first | go_big_skip | go_big_guard | (go_at_call 43; refine (mirNone_any (St.mat hst HG.out.sc.ok.d0)).mono ?_; rintro _ w2 ⟨rfl, h4⟩; replace hst := St.call0 hst h4; clear h4) | (go_at_call 50; have HC := broken_any hst HG.out (by omega); rw [HO.out] at HC; refine HC.mono ?_; clear HC; rintro _ w2 ⟨rfl, h4⟩; replace hst := h4; clear h4) | (refine wl_loadE rfl rfl rfl ?_; refine ⟨_, Loads.at (P := Try.prog) [] hst rfl, ?_⟩) | (go_at_call 44; have HC := devs_any (St.mat hst HG.out.sc.ok.d0).arr.toArrAt; rw [← HD.out] at HC; refine HC.mono ?_; clear HC; rintro _ w3 ⟨rfl, h4⟩; replace hst := St.call0 hst h4; clear h4))
  go_loopw [4, 17] (fun q i wr => ∃ (k cnt : Nat) (x' : GA) (a' : AR), k ≤ d ∧ cnt ≤ k ∧ i = .int .i64 k ∧ q = .int .i64 cnt ∧ Hid (F = flushed16 d (d - k) a' cnt) ∧ Hid (MGood (m.withA a') (N + k)) ∧ St w0 M wr (mP gm ga x' (m.withA a') ++ R)) (fun _ i _ => d - (intOf i).toNat)
  case atStart => exact ⟨0, 0, x, m.a, Nat.zero_le _, Nat.zero_le _, rfl, rfl, HF, HG, hst⟩
  case round =>
    clear hst
    obtain ⟨k, cnt, x1, a1, hk, hck, rfl, rfl, HW, HGK, hst⟩ := hrel
    by_cases hlt : k < d
    · have d0 : decide ((k : Int) < (d : Int)) = true := decide_eq_true (by omega)
      have HH := hid (flushed_step (a := a1) (cnt := cnt) hlt)
      cases hup : a1.up (k : Int)
      · have HUP := hid hup
        have HQ := hid (HW.out.trans (HH.out.trans (if_pos hup)))
        clear HW HH hup
        go_wp2_with (first | go_big_skip | go_big_guard | (refine wl_loadE rfl rfl rfl ?_; refine ⟨_, Loads.at (P := Try.prog) [] hst rfl, ?_⟩) | (go_at_call 32; refine (up_any (a := a1) (St.mat hst HGK.out.sc.ok.d0).arr.toArrAt (k : Int)).mono ?_; rw [HUP.out]; rintro _ w3 ⟨rfl, h4⟩; have hst3 := St.call0 hst h4; clear h4 hst))
        go_roundw
        case rel => exact ⟨k + 1, cnt, x1, a1, by omega, by omega, by go_num, rfl, HQ, hid (HGK.out.mono (by omega)), hst3⟩
        case measure => simp [intOf]; omega
      · have HUP := hid hup
        obtain ⟨E, hE⟩ : ∃ E, E = a1.flushE (k : Int) := ⟨_, rfl⟩
        obtain ⟨A', hA'⟩ : ∃ A', A' = a1.flush (k : Int) := ⟨_, rfl⟩
        have HE := hid hE.symm
        have HA' := hid hA'.symm
        rw [← hE, ← hA', hup] at HH
        have HG2 := hid (show MGood (m.withA A') (N + k + 1) from by rw [hA']; exact HGK.out.arr (HGK.out.sc.ok.flush _) (Stays.flush _ _))
        have HW2 := hid (HW.out.trans (HH.out.trans (if_neg (by decide))))
        clear HW HH hup hE hA'
        by_cases e0 : E = 0
        · subst e0
          have HQ := hid (HW2.out.trans (if_pos rfl))
          clear HW2
          go_wp2_with (first | go_big_skip | go_big_guard | (refine wl_loadE rfl rfl rfl ?_; first | refine ⟨_, Loads.at (P := Try.prog) [] hst rfl, ?_⟩ | refine ⟨_, Loads.at (P := Try.prog) [] hst3 rfl, ?_⟩) | (go_at_call 32; refine (up_any (a := a1) (St.mat hst HGK.out.sc.ok.d0).arr.toArrAt (k : Int)).mono ?_; rw [HUP.out]; rintro _ w3 ⟨rfl, h4⟩; have hst3 := St.call0 hst h4; clear h4 hst) | (go_at_call 51; have HC := flushM_any (mid_in (P := []) (Bs := [_]) hst3) HGK.out.sc.ok (HGK.out.st (by omega)) (HGK.out.ll (by omega)) (k : Int); rw [show (m.withA a1).a = a1 from rfl, HE.out, HA'.out] at HC; refine HC.mono ?_; clear HC; rintro _ w4 ⟨rfl, x2, h4⟩; have hst4 : St w0 M w4 (mP gm ga x2 (m.withA A') ++ R) := mid_out (P := []) (Bs := [_]) hst3 h4; clear h4 hst3))
          go_roundw
          case rel => exact ⟨k + 1, cnt + 1, x2, A', by omega, by omega, by go_num, by go_num, HQ, HG2, hst4⟩
          case measure => simp [intOf]; omega
        by_cases e1 : E = 10
        · subst e1
          have HQ := hid (HW2.out.trans ((if_neg (by decide)).trans (if_pos rfl)))
          clear HW2
          go_wp2_with (first | go_big_skip | go_big_guard | (refine wl_loadE rfl rfl rfl ?_; first | refine ⟨_, Loads.at (P := Try.prog) [] hst rfl, ?_⟩ | refine ⟨_, Loads.at (P := Try.prog) [] hst3 rfl, ?_⟩) | (go_at_call 32; refine (up_any (a := a1) (St.mat hst HGK.out.sc.ok.d0).arr.toArrAt (k : Int)).mono ?_; rw [HUP.out]; rintro _ w3 ⟨rfl, h4⟩; have hst3 := St.call0 hst h4; clear h4 hst) | (go_at_call 51; have HC := flushM_any (mid_in (P := []) (Bs := [_]) hst3) HGK.out.sc.ok (HGK.out.st (by omega)) (HGK.out.ll (by omega)) (k : Int); rw [show (m.withA a1).a = a1 from rfl, HE.out, HA'.out] at HC; refine HC.mono ?_; clear HC; rintro _ w4 ⟨rfl, x2, h4⟩; have hst4 : St w0 M w4 (mP gm ga x2 (m.withA A') ++ R) := mid_out (P := []) (Bs := [_]) hst3 h4; clear h4 hst3))
          go_ret2
          exact ⟨x2, by rw [HQ.out]; rfl, by rw [HQ.out]; exact hst4⟩
        have HQ := hid (HW2.out.trans ((if_neg e0).trans (if_neg e1)))
        have f0 : (E == 0) = false := beq_eq_false_iff_ne.2 e0
        have f1 : (E == 10) = false := beq_eq_false_iff_ne.2 e1
        clear e0 e1
        clear HW2
        go_wp2_with (first | go_big_skip | go_big_guard | (refine wl_loadE rfl rfl rfl ?_; first | refine ⟨_, Loads.at (P := Try.prog) [] hst rfl, ?_⟩ | refine ⟨_, Loads.at (P := Try.prog) [] hst3 rfl, ?_⟩) | (go_at_call 32; refine (up_any (a := a1) (St.mat hst HGK.out.sc.ok.d0).arr.toArrAt (k : Int)).mono ?_; rw [HUP.out]; rintro _ w3 ⟨rfl, h4⟩; have hst3 := St.call0 hst h4; clear h4 hst) | (go_at_call 51; have HC := flushM_any (mid_in (P := []) (Bs := [_]) hst3) HGK.out.sc.ok (HGK.out.st (by omega)) (HGK.out.ll (by omega)) (k : Int); rw [show (m.withA a1).a = a1 from rfl, HE.out, HA'.out] at HC; refine HC.mono ?_; clear HC; rintro _ w4 ⟨rfl, x2, h4⟩; have hst4 : St w0 M w4 (mP gm ga x2 (m.withA A') ++ R) := mid_out (P := []) (Bs := [_]) hst3 h4; clear h4 hst3))
        go_roundw
        case rel => exact ⟨k + 1, cnt, x2, A', by omega, by omega, by go_num, rfl, HQ, HG2, hst4⟩
        case measure => simp [intOf]; omega
    · obtain rfl : k = d := by omega
      have d0 : decide ((k : Int) < (k : Int)) = false := decide_eq_false (by omega)
      have HQ := hid (show F = some16 cnt a1 from HW.out.trans (by rw [Nat.sub_self]; rfl))
      by_cases hc : cnt = 0
      · subst hc
        have HQ2 := hid (HQ.out.trans (show some16 0 a1 = ⟨13, 0, a1⟩ from rfl))
        clear HQ
        rw [show ((0 : Nat) : Int) = 0 from rfl]
        go_wp2_with (first | go_big_skip | go_big_guard | (go_at_call 49; refine (some16_any 0 (by omega) _).mono ?_; rw [if_pos rfl]; rintro _ w9 ⟨rfl, h4⟩; have hst9 := St.call0 hst h4; clear h4 hst))
        go_ret2
        exact ⟨x1, by rw [HQ2.out]; rfl, by rw [HQ2.out]; exact hst9⟩
      · have HC0 := hid hc
        have HQ2 := hid (HQ.out.trans (show some16 cnt a1 = ⟨0, cnt, a1⟩ by unfold some16; rw [if_neg hc]))
        clear HQ
        go_wp2_with (first | go_big_skip | go_big_guard | (go_at_call 49; refine (some16_any cnt (by omega) _).mono ?_; rw [if_neg HC0.out]; rintro _ w9 ⟨rfl, h4⟩; have hst9 := St.call0 hst h4; clear h4 hst))
        go_ret2
        exact ⟨x1, by rw [HQ2.out]; rfl, by rw [HQ2.out]; exact hst9⟩
theorem mflush_any {w0 w : World} {M : List Nat} {R : List HA} {gm ga : Nat} {x : GA} {m : MV} {N : Nat} (hS : St w0 M w (mP gm ga x m ++ R)) (hg : MGood m N) (hN : N ≤ 800000) :
    Calls Try.prog 21 #[PM gm] w fun e w' => ∃ x', e = .returned (.tuple #[.int .i64 m.flush.n, .int .i64 m.flush.er]) ∧ St w0 M w' (mP gm ga x' (m.withA m.flush.a) ++ R) := by
  cases h1 : m.a.out
  · exact flush_on hS hg hN h1
  · exact flush_out hS hg hN h1
end Go.Proofs.Ytmdfbdfijnmhkaa
namespace Go.Proofs.Ytmdfbdfijnmhkaa
set_option linter.unusedVariables false
set_option linter.unusedSimpArgs false
open Go.RowKit Hp
attribute [local irreducible] Go.Calls Go.wpList
set_option maxRecDepth 100000
set_option maxHeartbeats 8000000
theorem fold_succ {α : Type} {f : α → Int × Int → α} {c : α} {l : List (Int × Int)} {k : Nat} (hk : k < l.length) : (l.take (k + 1)).foldl f c = f ((l.take k).foldl f c) (l.getD k (0, 0)) := by
  rw [List.take_succ_eq_append_getElem hk, List.foldl_append, List.getD_eq_getElem?_getD, List.getElem?_eq_getElem hk]
  rfl
theorem look_succ {S : List UInt8} {c : CR} {l : List (Int × Int)} {k : Nat} (hk : k < l.length) : (l.take (k + 1)).foldl (CR.next S) c = ((l.take k).foldl (CR.next S) c).next S (l.getD k (0, 0)) := by
  rw [List.take_succ_eq_append_getElem hk, List.foldl_append, List.getD_eq_getElem?_getD, List.getElem?_eq_getElem hk]
  rfl
theorem look_stays {S : List UInt8} : ∀ {l : List (Int × Int)} {c : CR}, c.out = true → l.foldl (CR.next S) c = c
  | [], _, _ => rfl
  | z :: l, c, h => by
    rw [List.foldl_cons, show c.next S z = c by unfold CR.next; rw [if_pos h]]
    exact look_stays h
theorem scan_stop {S : List UInt8} {c : CR} {l : List (Int × Int)} {k : Nat} (hk : k < l.length) (h : (((l.take k).foldl (CR.next S) c).next S (l.getD k (0, 0))).out = true) : l.foldl (CR.next S) c = ((l.take k).foldl (CR.next S) c).next S (l.getD k (0, 0)) := by
  rw [← look_succ hk] at h ⊢
  conv => lhs; rw [← List.take_append_drop (k + 1) l, List.foldl_append]
  exact look_stays h
def sX (g9 g8 g7 g5 g4 g3 : Nat) (pc : List Value) (R : List HA) (wv bv : Value) (c : CR) : List HA :=
  .row wv 83 2 c.ill.length (addrsV c.ill) :: .blk g9 30 [bv] :: .rowP isB bv 5 1 c.b.length (bytesV c.b) :: .blk g8 32 [wv] :: .blk g7 48 [.int .i64 c.good, .int .i64 0, .int .i64 0, .int .i64 c.lost] :: .blk g5 39 [.int .i64 0] :: .blk g4 48 [.int .i64 0, .int .i64 0, .int .i64 0, .int .i64 0] :: .blk g3 36 pc :: R
def sXp (g9 g8 g7 g5 g4 g3 : Nat) (pc : List Value) (R : List HA) (S : List UInt8) (l : List (Int × Int)) (c0 : CR) (k : Nat) (m : MV) (X : List HA) : Prop :=
  ∃ wv bv c, (c.good ≤ k ∧ c.lost ≤ k ∧ c.ill.length ≤ k) ∧ c = (l.take k).foldl (CR.next S) c0 ∧ c.out = false ∧ c.m = m ∧ X = sX g9 g8 g7 g5 g4 g3 pc R wv bv c
def sIx (w0 : World) (M : List Nat) (gm ga : Nat) (x : GA) (g5 g4 : Nat) (R : List HA) (F : CR) (cc : Code) (W : World) : Prop :=
  cc = .ret ∧ F.out = true ∧ St w0 M W (.blk g5 39 [.int .i64 10] :: .blk g4 48 [.int .i64 0, .int .i64 0, .int .i64 0, .int .i64 0] :: (mP gm ga x F.m ++ R))
def sB (w0 : World) (M : List Nat) (gm ga : Nat) (x : GA) (bx : List HA) (l : List (Int × Int)) (but : Int) (S : List UInt8) (N0 : Nat) (Xp : Nat → MV → List HA → Prop) (A : Act) (y : YV) (a' : Act) (W : World) : Prop :=
  ∃ g10 g11, a' = { tmps := (((A.tmps.setIfInBounds 24 (cE l S y).1).setIfInBounds 25 (cE l S y).2).setIfInBounds 10 (.pointer (some ⟨g10, 0, none⟩))).setIfInBounds 11 (.pointer (some ⟨g11, 0, none⟩)), defers := [] } ∧
    y.k < l.length ∧ (y.pl l).1 ≠ but ∧ MGood y.m (N0 + y.k) ∧ ∃ X, Xp y.k y.m X ∧
    St w0 M W (.blk g11 114 [.int .i64 (y.m.kind (y.pl l).1 (y.pl l).2 S), y.v] :: .blk g10 83 [.int .i64 (y.pl l).1, .int .i64 (y.pl l).2] :: .rowP isB y.v 5 1 (y.B l S).length (bytesV (y.B l S)) :: (mP gm ga x (y.next l S) ++ (bx ++ X)))
theorem s_back {w0 w : World} {M : List Nat} {a1 a2 a3 a4 a5 a6 a7 a8 : HA} {P B R T : List HA} (h : St w0 M w (a1 :: a2 :: a3 :: a4 :: a5 :: a6 :: a7 :: a8 :: (T ++ (P ++ (B ++ R))))) : St w0 M w (P ++ (B ++ (a1 :: a2 :: a3 :: a4 :: a5 :: a6 :: a7 :: a8 :: R))) := by
  have h1 : St w0 M w ([a1, a2, a3, a4, a5, a6, a7, a8] ++ ([] ++ (P ++ (B ++ R)))) := St.sub h (.cons_cons _ (.cons_cons _ (.cons_cons _ (.cons_cons _ (.cons_cons _ (.cons_cons _ (.cons_cons _ (.cons_cons _ (List.sublist_append_right _ _)))))))))
  exact St.perm h1 (pull4 [] P B [a1, a2, a3, a4, a5, a6, a7, a8] R).symm
theorem s_new {w0 w : World} {M : List Nat} {a1 a2 a3 a4 a5 a6 a7 a8 b1 b2 rp : HA} {P B R : List HA} (h : St w0 M w (a1 :: a2 :: a3 :: a4 :: a5 :: a6 :: a7 :: a8 :: b1 :: b2 :: rp :: (P ++ (B ++ R)))) : St w0 M w (P ++ (B ++ (a1 :: a2 :: rp :: a4 :: a5 :: a6 :: a7 :: a8 :: R))) := by
  have h1 : St w0 M w ([a1, a2] ++ ([a4, a5, a6, a7, a8] ++ rp :: (P ++ (B ++ R)))) := St.sub h (.cons_cons _ (.cons_cons _ (.cons _ (.cons_cons _ (.cons_cons _ (.cons_cons _ (.cons_cons _ (.cons_cons _ (.cons _ (.cons _ (List.Sublist.refl _)))))))))))
  have h2 : St w0 M w ([a1, a2] ++ (rp :: ([a4, a5, a6, a7, a8] ++ (P ++ (B ++ R))))) := St.perm h1 (List.Perm.append_left _ List.perm_middle)
  have h3 : St w0 M w ([a1, a2, rp, a4, a5, a6, a7, a8] ++ ([] ++ (P ++ (B ++ R)))) := h2
  exact St.perm h3 (pull4 [] P B [a1, a2, rp, a4, a5, a6, a7, a8] R).symm
theorem s_out {w0 w : World} {M : List Nat} {a1 a2 a3 a4 a5 a6 a7 a8 : HA} {P B R T : List HA} (h : St w0 M w (a1 :: a2 :: a3 :: a4 :: a5 :: a6 :: a7 :: a8 :: (T ++ (P ++ (B ++ R))))) : St w0 M w (a6 :: a7 :: (P ++ R)) := by
  exact St.sub h (.cons _ (.cons _ (.cons _ (.cons _ (.cons _ (.cons_cons _ (.cons_cons _ (.cons _ (show (P ++ R).Sublist (T ++ (P ++ (B ++ R))) from (List.Sublist.append_left (List.sublist_append_right B R) P).trans (List.sublist_append_right T _))))))))))
theorem mbytes_slice {w0 w : World} {M : List Nat} {A P B R : List HA} {g9 g8 g7 g5 g4 g3 : Nat} {pc : List Value} {wv bv : Value} {c : CR} (h : St w0 M w (A ++ (P ++ (B ++ sX g9 g8 g7 g5 g4 g3 pc R wv bv c)))) : (∃ a k, wv = .slice a c.ill.length k) ∧ ∃ a k, bv = .slice a c.b.length k := by
  have h1 : St w0 M w (sX g9 g8 g7 g5 g4 g3 pc R wv bv c) := St.sub h (((List.sublist_append_right _ _).trans (List.sublist_append_right _ _)).trans (List.sublist_append_right _ _))
  exact ⟨St.rowSliceAt [] h1, St.rowPSlice [_, _] h1⟩
def c0of (m : MV) : CR := ⟨0, 0, [], [], m, false⟩
end Go.Proofs.Ytmdfbdfijnmhkaa
namespace Go.Proofs.Ytmdfbdfijnmhkaa
set_option linter.unusedVariables false
set_option linter.unusedSimpArgs false
open Go.RowKit Hp
attribute [local irreducible] Go.Calls Go.wpList
set_option maxRecDepth 100000
set_option maxHeartbeats 8000000
def SR.cells (s : SR) : List Value := [.int .i64 s.good, .int .i64 s.he, .int .i64 s.bad, .int .i64 s.lost]
theorem lies_dev {m : MV} {l : List (Int × Int)} (h : m.lies l = true) {k : Nat} (hk : k < l.length) : (l.getD k (0, 0)).1 ≠ -1 := by
  unfold MV.lies at h
  rw [List.all_eq_true] at h
  have := h _ (List.getElem_mem hk)
  rw [in_parts] at this
  have h2 := of_decide_eq_true this
  rw [List.getD_eq_getElem?_getD, List.getElem?_eq_getElem hk]
  show (l[k]).1 ≠ -1
  omega
theorem ask_lies {m : MV} {p : PV} (h : m.askE p = 0) : m.lies p.l = true := by
  unfold MV.askE at h
  split at h
  · rename_i h1
    exact (Bool.and_eq_true_iff.1 h1).2
  · cases h
section
attribute [local go_sem ↓] loadedBs8 loadedAs8
attribute [local go_sem] Oper.semAt_some
theorem scan_odd {w0 w : World} {M : List Nat} {R : List HA} {gm ga : Nat} {x : GA} {m : MV} {N : Nat} (hS : St w0 M w (mP gm ga x m ++ R)) (hg : MGood m N) (ao : Option Addr) (n c : Nat) (l : List (Int × Int)) (b v : Int) (S : List UInt8) (hL : L32 S) (hn : l.length = n) (hA : ∀ w, St w0 M w R → Rd w (.slice ao n c) 2 n (addrsV l)) (hN : N + 2 * n ≤ 900000) (h1 : m.askE (PVof ao n c l b v S) ≠ 0) :
    Calls Try.prog 16 #[PM gm, .agg (ptrCells (.slice ao n c) b v S).toArray] w fun e w' => ∃ x', e = .returned (.tuple #[.agg (List.toArray (m.scan (PVof ao n c l b v S)).cells), .int .i64 (m.scan (PVof ao n c l b v S)).er]) ∧ St w0 M w' (mP gm ga x' (m.scan (PVof ao n c l b v S)).m ++ R) := by
  have hr : m.scan (PVof ao n c l b v S) = ⟨m.askE (PVof ao n c l b v S), 0, 0, 0, 0, m⟩ := by unfold MV.scan; rw [if_pos h1]
  rw [hr]
  have hst := hS
  have HG := hid hg
  have HL := hid hL
  have Hn := hid hn
  have HA := hid hA
  obtain ⟨E, hE⟩ : ∃ E, E = m.askE (PVof ao n c l b v S) := ⟨_, rfl⟩
  rw [← hE] at h1 ⊢
  have HAS : Hid (m.askE ⟨.slice ao n c, l, b, v, S⟩ = E) := hid hE.symm
  have d1 : (E != 0) = true := by simpa using h1
  clear hS hg hL hn hA hr hE h1
  unfold PM
  go_enter Try.func16, Try.ntmps16
  go_wp2_with (first | go_big_skip | go_big_guard | (refine wl_boxA hst rfl rfl rfl ?_; intro g3 w1 hst1; clear hst) | (refine wl_alloc (T := 48) hst1 rfl rfl ?_; intro g4 w2 hst2; clear hst1) | (refine wl_alloc (T := 39) hst2 rfl rfl ?_; intro g5 w3 hst3; clear hst2) | (refine wl_loadE rfl rfl rfl ?_; refine ⟨_, Loads.atA (P := Try.prog) (ptrCells (.slice ao n c) b v S) [_, _] hst3 (ptr_len HL.out _ _ _) (ptr_all _ _ _ _), ?_⟩) | (go_at_call 38; refine (asked_any (St.mat (St.perm hst3 (List.perm_append_comm_assoc [_, _, _] (mP gm ga x m) R)) HG.out.sc.ok.d0) ao n c l b v S HL.out (HA.out _ (St.sub hst3 (.cons _ (.cons _ (.cons _ (List.sublist_append_right _ _)))))) Hn.out).mono ?_; rw [HAS.out]; rintro _ w4 ⟨rfl, h4⟩; replace hst3 := St.call0 hst3 h4; clear h4) | (refine wl_build0 rfl rfl ?_) | (refine wl_storeA [_] hst3 rfl rfl rfl rfl rfl rfl rfl ?_; intro _ hst6; clear hst3) | (refine wl_store [] hst6 rfl rfl rfl (v := .int _ _) rfl rfl rfl ?_ ?_; (exact Nat.le_refl _); intro _ hst7; clear hst6))
  have l1 := Loads.atA (P := Try.prog) (T := 48) (off := 0) [.int .i64 0, .int .i64 0, .int .i64 0, .int .i64 0] [_] hst7 rfl rfl
  have l2 := Loads.at (P := Try.prog) (T := 39) (off := 0) [] hst7 rfl
  refine bodyPost_ret (results_cell2L rfl rfl rfl l1 l2) rfl ⟨x, rfl, St.sub hst7 (.cons _ (.cons _ (.cons _ (List.Sublist.refl _))))⟩
theorem scan_ok {w0 w : World} {M : List Nat} {R : List HA} {gm ga : Nat} {x : GA} {m : MV} {N : Nat} (hS : St w0 M w (mP gm ga x m ++ R)) (hg : MGood m N) (ao : Option Addr) (n c : Nat) (l : List (Int × Int)) (b v : Int) (S : List UInt8) (hL : L32 S) (hn : l.length = n) (hA : ∀ w, St w0 M w R → Rd w (.slice ao n c) 2 n (addrsV l)) (hN : N + 2 * n ≤ 900000) (h1 : m.askE (PVof ao n c l b v S) = 0) :
    Calls Try.prog 16 #[PM gm, .agg (ptrCells (.slice ao n c) b v S).toArray] w fun e w' => ∃ x', e = .returned (.tuple #[.agg (List.toArray (m.scan (PVof ao n c l b v S)).cells), .int .i64 (m.scan (PVof ao n c l b v S)).er]) ∧ St w0 M w' (mP gm ga x' (m.scan (PVof ao n c l b v S)).m ++ R) := by
  obtain ⟨F, hF⟩ : ∃ F, F = l.foldl (CR.next S) (c0of m) := ⟨_, rfl⟩
  have hlook : m.look (PVof ao n c l b v S) = F := hF.symm
  have hr : m.scan (PVof ao n c l b v S) = if F.out then ⟨10, 0, 0, 0, 0, F.m⟩ else ⟨0, F.good, F.mend.he, F.mend.bad, F.lost, F.mend.m⟩ := by
    unfold MV.scan
    rw [if_neg (by rw [h1]; decide), hlook]
  rw [hr]
  obtain ⟨RES, hRES⟩ : ∃ RES : SR, RES = if F.out then ⟨10, 0, 0, 0, 0, F.m⟩ else ⟨0, F.good, F.mend.he, F.mend.bad, F.lost, F.mend.m⟩ := ⟨_, rfl⟩
  rw [← hRES]
  have HRES := hid hRES
  have hst := hS
  have HG := hid hg
  have HL := hid hL
  have Hn := hid hn
  have HA := hid hA
  have HAS : Hid (m.askE ⟨.slice ao n c, l, b, v, S⟩ = 0) := hid h1
  have HF := hid hF
  have HLI : Hid (m.lies l = true) := hid (ask_lies h1)
  clear hS hg hL hn hA hr h1 hlook hF hRES
  refine (callsIn_wide (n := 5)).1 ?_
  refine callsIn_of_wp_marks Try.func16 rfl trivial ?_ rfl
  simp only [PM, Try.ntmps16, List.size_toArray, List.length_cons, List.length_nil, Nat.reduceAdd, Nat.reduceSub, Array.replicate_succ, Array.replicate_zero, List.push_toArray, List.append_toArray, List.nil_append, List.cons_append]
  refine wpIn_wide.2 ?_
  go_wp2_with (first | go_big_skip | go_big_guard | (refine wl_boxA hst rfl rfl rfl ?_; intro g3 w1 hst1; clear hst) | (refine wl_alloc (T := 48) hst1 rfl rfl ?_; intro g4 w2 hst2; clear hst1) | (refine wl_alloc (T := 39) hst2 rfl rfl ?_; intro g5 w3 hst3; clear hst2) | (refine wl_loadE rfl rfl rfl ?_; first | refine ⟨_, Loads.atA (P := Try.prog) (ptrCells (.slice ao n c) b v S) [_, _] hst3 (ptr_len HL.out _ _ _) (ptr_all _ _ _ _), ?_⟩ | refine ⟨_, Loads.atA (P := Try.prog) (ptrCells (.slice ao n c) b v S) [_, _, _, _, _] hst6 (ptr_len HL.out _ _ _) (ptr_all _ _ _ _), ?_⟩) | (go_at_call 38; refine (asked_any (St.mat (St.perm hst3 (List.perm_append_comm_assoc [_, _, _] (mP gm ga x m) R)) HG.out.sc.ok.d0) ao n c l b v S HL.out (HA.out _ (St.sub hst3 (.cons _ (.cons _ (.cons _ (List.sublist_append_right _ _)))))) Hn.out).mono ?_; rw [HAS.out]; rintro _ w4 ⟨rfl, h4⟩; replace hst3 := St.call0 hst3 h4; clear h4) | (refine wl_alloc (T := 48) hst3 rfl rfl ?_; intro g7 w5 hst4; clear hst3) | (refine wl_alloc (T := 32) hst4 rfl rfl ?_; intro g8 w6 hst5; clear hst4) | (refine wl_alloc (T := 30) hst5 rfl rfl ?_; intro g9 w7 hst6; clear hst5) | (go_at_call 41; refine (copies_any hst6 gm (-1) ao n c b v S).mono ?_; rintro _ w8 ⟨q3, q4, q5, rfl, h4⟩; have hst7 := h4; clear h4 hst6))
  have hst9 : St w0 M w8 (mP gm ga x m ++ (bxP q3 q4 q5 gm (-1) (ptrCells (.slice ao n c) b v S) ++ sX g9 g8 g7 g5 g4 g3 (ptrCells (.slice ao n c) b v S) R (.slice none 0 0) (.slice none 0 0) (c0of m))) := by
    have e1 := St.nilPQ isB 5 1 (St.nilRow 83 2 hst7)
    refine St.perm e1 ?_
    have p1 := List.perm_append_comm_assoc [Hp.HA.rowP isB (.slice none 0 0) 5 1 0 [], .row (.slice none 0 0) 83 2 0 []] (bxP q3 q4 q5 gm (-1) (ptrCells (.slice ao n c) b v S)) (.blk g9 30 [.slice none 0 0] :: .blk g8 32 [.slice none 0 0] :: .blk g7 48 [.int .i64 0, .int .i64 0, .int .i64 0, .int .i64 0] :: .blk g5 39 [.int .i64 0] :: .blk g4 48 [.int .i64 0, .int .i64 0, .int .i64 0, .int .i64 0] :: .blk g3 36 (ptrCells (.slice ao n c) b v S) :: (mP gm ga x m ++ R))
    refine p1.trans ?_
    refine (List.Perm.append_left _ ((List.Perm.swap _ _ _).trans (List.Perm.cons _ (List.Perm.swap _ _ _)))).trans ?_
    exact List.perm_append_comm_assoc (bxP q3 q4 q5 gm (-1) (ptrCells (.slice ao n c) b v S) ++ [.row (.slice none 0 0) 83 2 0 [], .blk g9 30 [.slice none 0 0], .rowP isB (.slice none 0 0) 5 1 0 [], .blk g8 32 [.slice none 0 0], .blk g7 48 [.int .i64 0, .int .i64 0, .int .i64 0, .int .i64 0], .blk g5 39 [.int .i64 0], .blk g4 48 [.int .i64 0, .int .i64 0, .int .i64 0, .int .i64 0], .blk g3 36 (ptrCells (.slice ao n c) b v S)]) (mP gm ga x m) R
  clear hst7
  have HSZ := hid hst9.size
  have hI0 : cI w0 M gm ga x (bxP q3 q4 q5 gm (-1) (ptrCells (.slice ao n c) b v S)) l N (sXp g9 g8 g7 g5 g4 g3 (ptrCells (.slice ao n c) b v S) R S l (c0of m)) (0, m) w8 := ⟨Nat.zero_le _, HG.out, _, ⟨_, _, c0of m, ⟨Nat.zero_le _, Nat.zero_le _, Nat.zero_le _⟩, rfl, rfl, rfl, rfl⟩, hst9⟩
  clear hst9
  refine wp_rangeM 24 25 (gf := 70) rfl (enters_of Try.func70 (by kernel_rfl) rfl) (enc := fun y => cE l S y) _ _ (sB w0 M gm ga x (bxP q3 q4 q5 gm (-1) (ptrCells (.slice ao n c) b v S)) l (-1) S N (sXp g9 g8 g7 g5 g4 g3 (ptrCells (.slice ao n c) b v S) R S l (c0of m))) (sIx w0 M gm ga x g5 g4 R F) _ _ _
    (copies1_seq l ao n c b v S (-1) N m HL.out Hn.out (by omega) (sXp g9 g8 g7 g5 g4 g3 (ptrCells (.slice ao n c) b v S) R S l (c0of m)) ?rd ?skip) ?ownI ?ownB ?ownX hI0 ?assign ?body ?done ?stop
  case rd =>
    rintro k m' X W ⟨wv, bv, cc, _, _, _, _, rfl⟩ hst
    exact HA.out W (St.sub hst (.cons _ (.cons _ (.cons _ (.cons _ (.cons _ (.cons _ (.cons _ (.cons _ (List.Sublist.refl _))))))))))
  case skip =>
    rintro k m' X hk he _
    exact absurd he (lies_dev HLI.out (by rw [Hn.out]; exact hk))
  case ownI =>
    rintro s A B row ⟨h1, h2, X, hX, hst⟩ hg hr
    exact ⟨h1, h2, X, hX, St.ownFrom HSZ.out hst hg hr⟩
  case ownB =>
    rintro y a' _ A B row ⟨g10, g11, h0, h1, h2, h3, X, hX, hst⟩ hg hr
    exact ⟨g10, g11, h0, h1, h2, h3, X, hX, St.ownFrom HSZ.out hst hg hr⟩
  case ownX =>
    rintro cc A B row ⟨h1, h2, hst⟩ hg hr
    exact ⟨h1, h2, St.ownFrom HSZ.out hst hg hr⟩
  case assign =>
    rintro lq y W K ⟨h1, h2, h3, X, hX, hst⟩ hK
    have hs := hst.selfM
    have HK := hid hK
    have HX := hid hX
    have HST := hid hst
    clear hK hX hst hI0
    obtain ⟨V1, hV1⟩ : ∃ V1, V1 = cE l S y := ⟨_, rfl⟩
    have e1 : V1.1 = .agg (List.toArray [.int .i64 (y.pl l).1, .int .i64 (y.pl l).2]) := by rw [hV1]; rfl
    have e2 : V1.2 = .agg (List.toArray [.int .i64 (y.m.kind (y.pl l).1 (y.pl l).2 S), y.v]) := by rw [hV1]; rfl
    have HV1 := hid hV1
    rw [← hV1]
    clear hV1
    obtain ⟨v1, hv1⟩ : ∃ v1, v1 = V1.1 := ⟨_, rfl⟩
    obtain ⟨v2, hv2⟩ : ∃ v2, v2 = V1.2 := ⟨_, rfl⟩
    rw [← hv1, ← hv2]
    have E1 := hid (hv1.trans e1)
    have E2 := hid (hv2.trans e2)
    have HV2 := hid (show V1 = (v1, v2) by rw [hv1, hv2])
    clear e1 e2 hv1 hv2
    have hone : Hid (y.v.oneCell' = true ∧ y.v.cells.size = 1) := hid (by
      obtain ⟨ua, uc, hu⟩ := St.rowPSlice [] HST.out
      rw [hu]
      exact ⟨rfl, rfl⟩)
    simp only [List.setIfInBounds_toArray, List.set_cons_zero, List.set_cons_succ]
    gi_upto_region 8 with (fail)
    apply wpIn_region_lit
    refine list_round rfl ?_
    go_wp2_with (first | go_big_skip | go_big_guard | (refine wl_alloc (T := 83) hs rfl rfl ?_; intro g10 w1 hs1; clear hs) | (refine wl_storeA [] hs1 rfl rfl rfl E1.out rfl rfl rfl ?_; intro w2 hs2; clear hs1))
    refine QT_intro ?_
    gi_upto_region 9 with (fail)
    apply wpIn_region_lit
    refine list_round rfl ?_
    go_wp2_with (first | go_big_skip | go_big_guard | (refine wl_alloc (T := 114) hs2 rfl rfl ?_; intro g11 w3 hs3; clear hs2) | (refine wl_storeA [] hs3 rfl rfl rfl E2.out rfl (by simp [List.all, hone.out.1]; rfl) rfl ?_; intro w4 hs4; clear hs3))
    refine QT_intro ?_
    gi_wp2
    refine HK.out _ _ (St.keeps HST.out hs4) ⟨g10, g11, ?_, h1, h2, h3, X, HX.out, St.joinAll HST.out hs4⟩
    rw [← HV1.out, HV2.out]
    simp only [List.setIfInBounds_toArray, List.set_cons_zero, List.set_cons_succ]
  case body =>
    rintro lq ⟨yk, ym, yv⟩ a' W ⟨g10, g11, rfl, h1, h2, h3, X, ⟨wv, bv, ⟨gd, lo, ill, cb, cm, co⟩, ⟨hb1, hb2, hb3⟩, hcf, hco, hcm, rfl⟩, hst⟩
    unfold YV.pl at h2
    dsimp only at h1 h2 h3 hb1 hb2 hb3 hco hcm
    subst hcm hco
    obtain ⟨⟨wa, wc, rfl⟩, ba, bc, rfl⟩ := mbytes_slice (A := [_, _, _]) (P := mP gm ga x _) (B := bxP q3 q4 q5 gm (-1) (ptrCells (.slice ao n c) b v S)) hst
    have hls := look_succ (S := S) (c := c0of m) h1
    rw [← hcf] at hls
    obtain ⟨z, hz⟩ : ∃ z, z = l.getD yk (0, 0) := ⟨_, rfl⟩
    have HZ := hid hz
    have HKL := hid h1
    have HST := hid hst
    have HCF := hid hcf
    have HB3 := hid (show gd ≤ yk ∧ lo ≤ yk ∧ ill.length ≤ yk from ⟨hb1, hb2, hb3⟩)
    have HNX := hid (h3.looked z.1 z.2 S)
    have HLS := hid hls
    obtain ⟨V1, hV1⟩ : ∃ V1, V1 = cE l S ⟨yk, cm, yv⟩ := ⟨_, rfl⟩
    rw [← hV1]
    have hs := St.perm hst.selfM (pull4 [_, _, _] (mP gm ga x _) (bxP q3 q4 q5 gm (-1) (ptrCells (.slice ao n c) b v S)) (sX g9 g8 g7 g5 g4 g3 (ptrCells (.slice ao n c) b v S) [] (.slice wa ill.length wc) (.slice ba cb.length bc) ⟨gd, lo, ill, cb, cm, false⟩) R)
    change St W _ W (.row (.slice wa ill.length wc) 83 2 ill.length (addrsV ill) :: .blk g9 30 [.slice ba cb.length bc] :: .rowP isB (.slice ba cb.length bc) 5 1 cb.length (bytesV cb) :: .blk g8 32 [.slice wa ill.length wc] :: .blk g7 48 [.int .i64 (gd : Int), .int .i64 0, .int .i64 0, .int .i64 (lo : Int)] :: .blk g5 39 [.int .i64 0] :: .blk g4 48 [.int .i64 0, .int .i64 0, .int .i64 0, .int .i64 0] :: .blk g3 36 (ptrCells (.slice ao n c) b v S) :: (.blk g11 114 [.int .i64 (cm.kind (l.getD yk (0, 0)).1 (l.getD yk (0, 0)).2 S), yv] :: .blk g10 83 [.int .i64 (l.getD yk (0, 0)).1, .int .i64 (l.getD yk (0, 0)).2] :: .rowP isB yv 5 1 (cm.lookB (l.getD yk (0, 0)).1 (l.getD yk (0, 0)).2 S).length (bytesV (cm.lookB (l.getD yk (0, 0)).1 (l.getD yk (0, 0)).2 S)) :: (mP gm ga x (cm.looked (l.getD yk (0, 0)).1 (l.getD yk (0, 0)).2 S) ++ (bxP q3 q4 q5 gm (-1) (ptrCells (.slice ao n c) b v S) ++ R)))) at hs
    rw [← hz] at hs
    obtain ⟨ua, uc, rfl⟩ := St.rowPSlice [_, _, _, _, _, _, _, _, _, _] hs
    have c11 : W.cell? ⟨g11, 0, none⟩ = some (.int .i64 (cm.kind z.1 z.2 S)) := hs.cell (T := 114) (cs := [.int .i64 (cm.kind z.1 z.2 S), .slice ua (cm.lookB z.1 z.2 S).length uc]) (.tail _ (.tail _ (.tail _ (.tail _ (.tail _ (.tail _ (.tail _ (.tail _ (.head _))))))))) rfl
    have hgd : gd ≤ 900000 := by have := Hn.out; omega
    have hlo : lo ≤ 900000 := by have := Hn.out; omega
    clear hz h1 h2 h3 hb1 hb2 hb3 hcf hst hV1 hI0 hls
    simp only [List.setIfInBounds_toArray, List.set_cons_zero, List.set_cons_succ]
    rcases kind_ways cm z.1 z.2 S with hk | hk | hk | hk
    · rw [hk] at hs c11
      have HC9 := hid (show CR.next S ⟨gd, lo, ill, cb, cm, false⟩ z = ⟨gd + 1, lo, ill, if gd = 0 then cm.lookB z.1 z.2 S else cb, cm.looked z.1 z.2 S, false⟩ by unfold CR.next; rw [if_neg Bool.false_ne_true, if_pos hk])
      clear hk
      by_cases h0 : gd = 0
      · subst h0
        rw [if_pos rfl] at HC9
        rw [show ((0 : Nat) : Int) = 0 from rfl] at hs
        gi_upto_region 12 with (fail)
        apply wpIn_region_lit
        refine list_round rfl ?_
        go_wp2_with (first | go_big_skip | go_big_guard | (refine wl_loadE rfl rfl rfl ?_; refine ⟨_, Loads.at (P := Try.prog) [_, _, _, _] hs rfl, ?_⟩) | (refine wl_store [_, _, _, _] hs rfl rfl rfl (off := 0) (v := .int .i64 1) rfl rfl rfl ?_ ?_; (show (0 : Nat) + 1 ≤ 4; decide); intro _ hs2; clear hs))
        refine QT_intro ?_
        gi_upto_region 13 with (fail)
        apply wpIn_region_lit
        refine list_round rfl ?_
        go_wp2_with (first | go_big_skip | go_big_guard | (refine wl_loadE rfl rfl rfl ?_; refine ⟨_, Loads.at (P := Try.prog) [_, _, _, _] hs2 rfl, ?_⟩))
        refine QT_intro ?_
        gi_upto_region 14 with (fail)
        apply wpIn_region_lit
        refine list_round rfl ?_
        go_wp2_with (first | go_big_skip | go_big_guard | (refine wl_loadE rfl rfl rfl ?_; refine ⟨_, Loads.at (P := Try.prog) [_, _, _, _, _, _, _, _] hs2 rfl, ?_⟩) | (refine wl_store [_] hs2 rfl rfl rfl (off := 0) (v := .slice _ _ _) rfl rfl rfl ?_ ?_; (show (0 : Nat) + 1 ≤ 1; decide); intro _ hs3; clear hs2))
        refine QT_intro ?_
        gi_wp2
        refine ⟨St.keeps HST.out hs3, (yk + 1, cm.looked z.1 z.2 S), by unfold cN YV.next YV.pl; dsimp only; rw [← HZ.out], by show yk + 1 ≤ _; have := HKL.out; omega, HNX.out, _, ⟨.slice wa ill.length wc, .slice ua (cm.lookB z.1 z.2 S).length uc, ⟨1, lo, ill, cm.lookB z.1 z.2 S, cm.looked z.1 z.2 S, false⟩, ⟨by have := HB3.out; dsimp only; omega, by have := HB3.out; dsimp only; omega, by have := HB3.out; dsimp only; omega⟩, (by rw [HLS.out, ← HZ.out, HC9.out]), rfl, rfl, rfl⟩, ?_⟩
        exact s_new (St.joinAll HST.out hs3)
      · rw [if_neg h0] at HC9
        have z1 : IntKind.i64.wrap ((gd : Int) + 1) = (gd : Int) + 1 := IntWalk.i64_in _ (by omega)
        have e1 : ((gd : Int) + 1 == 1) = false := by simp; omega
        clear h0
        gi_upto_region 12 with (fail)
        apply wpIn_region_lit
        refine list_round rfl ?_
        go_wp2_with (first | go_big_skip | go_big_guard | (refine wl_loadE rfl rfl rfl ?_; refine ⟨_, Loads.at (P := Try.prog) [_, _, _, _] hs rfl, ?_⟩) | (refine wl_store [_, _, _, _] hs rfl rfl rfl (off := 0) (v := .int .i64 ((gd : Int) + 1)) rfl rfl rfl ?_ ?_; (show (0 : Nat) + 1 ≤ 4; decide); intro _ hs2; clear hs))
        refine QT_intro ?_
        gi_upto_region 13 with (fail)
        apply wpIn_region_lit
        refine list_round rfl ?_
        go_wp2_with (first | go_big_skip | go_big_guard | (refine wl_loadE rfl rfl rfl ?_; refine ⟨_, Loads.at (P := Try.prog) [_, _, _, _] hs2 rfl, ?_⟩))
        refine QT_intro ?_
        gi_wp2
        refine ⟨St.keeps HST.out hs2, (yk + 1, cm.looked z.1 z.2 S), by unfold cN YV.next YV.pl; dsimp only; rw [← HZ.out], by show yk + 1 ≤ _; have := HKL.out; omega, HNX.out, _, ⟨.slice wa ill.length wc, .slice ba cb.length bc, ⟨gd + 1, lo, ill, cb, cm.looked z.1 z.2 S, false⟩, ⟨by have := HB3.out; dsimp only; omega, by have := HB3.out; dsimp only; omega, by have := HB3.out; dsimp only; omega⟩, (by rw [HLS.out, ← HZ.out, HC9.out]), rfl, rfl, rfl⟩, ?_⟩
        exact s_back (T := [_, _, _]) (St.joinAll HST.out hs2)
    · rw [hk] at hs c11
      have HC9 := hid (show CR.next S ⟨gd, lo, ill, cb, cm, false⟩ z = ⟨gd, lo, ill ++ [z], cb, cm.looked z.1 z.2 S, false⟩ by unfold CR.next; rw [if_neg Bool.false_ne_true, if_neg (by rw [hk]; decide), if_pos hk])
      clear hk
      gi_upto_region 16 with (fail)
      apply wpIn_region_lit
      refine list_round rfl ?_
      go_wp2_with (first | go_big_skip | go_big_guard | (refine wl_loadE rfl rfl rfl ?_; first | refine ⟨_, Loads.at (P := Try.prog) [_, _, _] hs rfl, ?_⟩ | refine ⟨_, Loads.atA (P := Try.prog) [.int .i64 z.1, .int .i64 z.2] [_, _, _, _, _, _, _, _, _] hs rfl rfl, ?_⟩) | (apply wl_bsX [.agg (List.toArray [.int .i64 z.1, .int .i64 z.2])] [.int .i64 z.1, .int .i64 z.2] hs; rfl; rfl; exact rfl; exact rfl; infer_instance; infer_instance; rfl; rfl; rfl; intro g12 w2 hs2; clear hs) | (apply wl_appX [_] hs2; rfl; rfl; exact rfl; exact rfl; infer_instance; infer_instance; infer_instance; exact (Rd.blk0 hs2 rfl (by decide)); exact rfl; (have := HB3.out; have := HKL.out; have := Hn.out; unfold maxLen; omega); intro v1 w3 hs3 _; clear hs2; obtain ⟨a4, c4, rfl⟩ := St.rowSliceAt [_] hs3) | (refine wl_store [_, _, _, _] hs3 rfl rfl rfl (off := 0) (v := .slice _ _ _) rfl rfl rfl ?_ ?_; (show (0 : Nat) + 1 ≤ 1; decide); intro _ hs4; clear hs3))
      refine QT_intro ?_
      gi_wp2
      refine ⟨St.keeps HST.out hs4, (yk + 1, cm.looked z.1 z.2 S), by unfold cN YV.next YV.pl; dsimp only; rw [← HZ.out], by show yk + 1 ≤ _; have := HKL.out; omega, HNX.out, _, ⟨.slice a4 (ill.length + 1) c4, .slice ba cb.length bc, ⟨gd, lo, ill ++ [z], cb, cm.looked z.1 z.2 S, false⟩, ⟨by have := HB3.out; simp only [List.length_append, List.length_singleton]; omega, by have := HB3.out; simp only [List.length_append, List.length_singleton]; omega, by have := HB3.out; simp only [List.length_append, List.length_singleton]; omega⟩, (by rw [HLS.out, ← HZ.out, HC9.out]), rfl, rfl, rfl⟩, ?_⟩
      have h8 := St.joinAll HST.out hs4
      have h9 := s_back (T := [_, _, _]) (P := mP gm ga x (cm.looked z.1 z.2 S)) (B := bxP q3 q4 q5 gm (-1) (ptrCells (.slice ao n c) b v S)) (R := R) (St.tl h8)
      unfold sX
      dsimp only
      rw [addrsV_snoc, List.length_append]
      exact h9
    · rw [hk] at hs c11
      have HC9 := hid (show CR.next S ⟨gd, lo, ill, cb, cm, false⟩ z = ⟨gd, lo + 1, ill, cb, cm.looked z.1 z.2 S, false⟩ by unfold CR.next; rw [if_neg Bool.false_ne_true, if_neg (by rw [hk]; decide), if_neg (by rw [hk]; decide), if_pos hk])
      clear hk
      have z1 : IntKind.i64.wrap ((lo : Int) + 1) = (lo : Int) + 1 := IntWalk.i64_in _ (by omega)
      gi_upto_region 18 with (fail)
      apply wpIn_region_lit
      refine list_round rfl ?_
      go_wp2_with (first | go_big_skip | go_big_guard | (refine wl_loadE rfl rfl rfl ?_; refine ⟨_, Loads.at (P := Try.prog) [_, _, _, _] hs rfl, ?_⟩) | (refine wl_store [_, _, _, _] hs rfl rfl rfl (off := 3) (v := .int .i64 ((lo : Int) + 1)) rfl rfl rfl ?_ ?_; (show (3 : Nat) + 1 ≤ 4; decide); intro _ hs2; clear hs))
      refine QT_intro ?_
      gi_wp2
      refine ⟨St.keeps HST.out hs2, (yk + 1, cm.looked z.1 z.2 S), by unfold cN YV.next YV.pl; dsimp only; rw [← HZ.out], by show yk + 1 ≤ _; have := HKL.out; omega, HNX.out, _, ⟨.slice wa ill.length wc, .slice ba cb.length bc, ⟨gd, lo + 1, ill, cb, cm.looked z.1 z.2 S, false⟩, ⟨by have := HB3.out; dsimp only; omega, by have := HB3.out; dsimp only; omega, by have := HB3.out; dsimp only; omega⟩, (by rw [HLS.out, ← HZ.out, HC9.out]), rfl, rfl, rfl⟩, ?_⟩
      exact s_back (T := [_, _, _]) (St.joinAll HST.out hs2)
    · rw [hk] at hs c11
      have HC9 := hid (show CR.next S ⟨gd, lo, ill, cb, cm, false⟩ z = ⟨gd, lo, ill, cb, cm.looked z.1 z.2 S, true⟩ by unfold CR.next; rw [if_neg Bool.false_ne_true, if_neg (by rw [hk]; decide), if_neg (by rw [hk]; decide), if_neg (by rw [hk]; decide)])
      clear hk
      have HFE := hid (show F = ⟨gd, lo, ill, cb, cm.looked z.1 z.2 S, true⟩ by
        have hw := scan_stop (S := S) (c := c0of m) HKL.out (by rw [← HCF.out, ← HZ.out, HC9.out])
        rw [HF.out, hw, ← HCF.out, ← HZ.out, HC9.out])
      gi_upto_region 20 with (fail)
      apply wpIn_region_lit
      refine list_round rfl ?_
      go_wp2_with (first | go_big_skip | go_big_guard | (refine wl_build0 rfl rfl ?_) | (refine wl_storeA [_, _, _, _, _, _] hs rfl rfl rfl rfl rfl rfl rfl ?_; intro _ hs2; clear hs) | (refine wl_store [_, _, _, _, _] hs2 rfl rfl rfl (off := 0) (v := .int _ _) rfl rfl rfl ?_ ?_; (show (0 : Nat) + 1 ≤ 1; decide); intro _ hs3; clear hs2))
      refine QT_intro ?_
      gi_wp2
      exact ⟨St.keeps HST.out hs3, rfl, by rw [HFE.out], by rw [HFE.out]; exact s_out (T := [_, _, _]) (St.joinAll HST.out hs3)⟩
  case done =>
    rintro D ⟨sk, sm⟩ W hD hE ⟨h1, h2, X, ⟨wv, bv, ⟨gd, lo, ill, cb, cm, co⟩, ⟨hb1, hb2, hb3⟩, hcf, hco, hcm, rfl⟩, hst⟩ hK
    dsimp only at hE hb1 hb2 hb3 hco hcm h2
    subst hcm hco
    obtain ⟨⟨wa, wc, rfl⟩, ba, bc, rfl⟩ := mbytes_slice (A := []) (P := mP gm ga x _) (B := bxP q3 q4 q5 gm (-1) (ptrCells (.slice ao n c) b v S)) hst
    rw [hE, List.take_length] at hcf
    have HFE := hid (HF.out.trans hcf.symm)
    have hs0 : St w0 M W (.row (.slice wa ill.length wc) 83 2 ill.length (addrsV ill) :: .blk g9 30 [.slice ba cb.length bc] :: .rowP isB (.slice ba cb.length bc) 5 1 cb.length (bytesV cb) :: .blk g8 32 [.slice wa ill.length wc] :: .blk g7 48 [.int .i64 (gd : Int), .int .i64 0, .int .i64 0, .int .i64 lo] :: .blk g5 39 [.int .i64 0] :: .blk g4 48 [.int .i64 0, .int .i64 0, .int .i64 0, .int .i64 0] :: .blk g3 36 (ptrCells (.slice ao n c) b v S) ::  (mP gm ga x cm ++ R)) := by
      have h9 := St.perm hst (pull4 [] (mP gm ga x cm) (bxP q3 q4 q5 gm (-1) (ptrCells (.slice ao n c) b v S)) (sX g9 g8 g7 g5 g4 g3 (ptrCells (.slice ao n c) b v S) [] (.slice wa ill.length wc) (.slice ba cb.length bc) ⟨gd, lo, ill, cb, cm, false⟩) R)
      have h10 := St.sub h9 (List.Sublist.append_left (List.Sublist.append_left (List.Sublist.append_left (List.sublist_append_right (bxP q3 q4 q5 gm (-1) (ptrCells (.slice ao n c) b v S)) R) (mP gm ga x cm)) []) (sX g9 g8 g7 g5 g4 g3 (ptrCells (.slice ao n c) b v S) [] (.slice wa ill.length wc) (.slice ba cb.length bc) ⟨gd, lo, ill, cb, cm, false⟩))
      exact h10
    have HG2 := hid (show MGood cm (N + n) from by rw [← Hn.out, ← hE]; exact h2)
    have HD := hid hD
    have HKD := hid hK
    have hcn : ill.length ≤ n := by have := Hn.out; omega
    obtain ⟨cnt, hcnt⟩ : ∃ cnt, cnt = ill.length := ⟨_, rfl⟩
    have HCN := hid hcnt
    rw [← hcnt] at hs0 hcn
    clear hst hK hD hcf hE h1 h2 hb1 hb2 hb3 hI0 hcnt
    by_cases h0 : gd = 0
    · have HANY := hid (show decide (0 < gd) = false from decide_eq_false (by omega))
      have HME : Hid (F.mend = ill.foldl (HR.next false cb) ⟨0, 0, cm⟩) := hid (by rw [HFE.out]; unfold CR.mend; dsimp only; rw [HANY.out])
      subst h0
      rw [show ((0 : Nat) : Int) = 0 from rfl] at hs0
      go_wp2_with (first | go_big_skip | go_big_guard | (refine wl_loadE rfl rfl rfl ?_; refine ⟨_, Loads.at (P := Try.prog) [_, _, _] hs0 rfl, ?_⟩))
      go_loopw [56] (fun i wr => ∃ (k : Nat) (x' : GA) (h : HR), k ≤ cnt ∧ i = .int .i64 k ∧ Hid (h.he ≤ k ∧ h.bad ≤ k) ∧ Hid (h = (ill.take k).foldl (HR.next false cb) ⟨0, 0, cm⟩) ∧ Hid (MGood h.m (N + n + k)) ∧ Hid (wr.heap[D]? = some (.deferred (some []))) ∧ St w0 M wr (.row (.slice wa cnt wc) 83 2 cnt (addrsV ill) :: .blk g9 30 [.slice ba cb.length bc] :: .rowP isB (.slice ba cb.length bc) 5 1 cb.length (bytesV cb) :: .blk g8 32 [.slice wa cnt wc] :: .blk g7 48 [.int .i64 0, .int .i64 h.he, .int .i64 h.bad, .int .i64 lo] :: .blk g5 39 [.int .i64 0] :: .blk g4 48 [.int .i64 0, .int .i64 0, .int .i64 0, .int .i64 0] :: .blk g3 36 (ptrCells (.slice ao n c) b v S) ::  (mP gm ga x' h.m ++ R))) (fun i _ => cnt - (intOf i).toNat)
      case atStart => exact ⟨0, x, ⟨0, 0, cm⟩, Nat.zero_le _, rfl, hid ⟨Nat.zero_le _, Nat.zero_le _⟩, hid rfl, HG2, HKD, hs0⟩
      case round =>
        clear hs0
        obtain ⟨k, x1, h, hk, rfl, HB, HH, HGK, HKW, hst⟩ := hrel
        by_cases hlt : k < cnt
        · have d0 : decide ((k : Int) < (cnt : Int)) = true := decide_eq_true (by omega)
          obtain ⟨bb, off, rfl, hr⟩ := (Rd.row hst (.head _)).at hlt
          obtain ⟨z, hz⟩ : ∃ z, z = ill.getD k (0, 0) := ⟨_, rfl⟩
          have hb := addr_both hr (k := k) (by rw [← HCN.out]; exact hlt)
          rw [← hz] at hb
          have HAD := hid hb
          have HFS := hid (fold_succ (f := HR.next false cb) (c := ⟨0, 0, cm⟩) (l := ill) (k := k) (by rw [← HCN.out]; exact hlt))
          rw [← hz, ← HH.out] at HFS
          have HST := hid hst
          have hs := hst.selfM
          have zh : IntKind.i64.wrap ((h.he : Int) + 1) = (h.he : Int) + 1 := IntWalk.i64_in _ (by have := HB.out; omega)
          have zb : IntKind.i64.wrap ((h.bad : Int) + 1) = (h.bad : Int) + 1 := IntWalk.i64_in _ (by have := HB.out; omega)
          clear hz hb hr hst
          have HN9 := hid (show HR.next false cb h z = ⟨h.he, h.bad + 1, h.m⟩ from rfl)
          have HG3 := hid (HGK.out.mono (show N + n + k ≤ N + n + (k + 1) by omega))
          go_wp2_with (first | go_big_skip | go_big_guard | (refine wl_index rfl rfl rfl rfl (hlt) ?_) | (refine wl_loadE rfl rfl rfl ?_; first | refine ⟨_, Loads.range (P := Try.prog) (cs := [.int .i64 z.1, .int .i64 z.2]) (TyA.out (n := 2)) HAD.out, ?_⟩ | refine ⟨_, Loads.at (P := Try.prog) [_, _, _, _, _] hs2 rfl, ?_⟩ | refine ⟨_, Loads.at (P := Try.prog) [_, _, _, _, _] hs3 rfl, ?_⟩ | refine ⟨_, Loads.at (P := Try.prog) [_, _] hs2 rfl, ?_⟩ | refine ⟨_, Loads.atA (P := Try.prog) [.int .i64 z.1, .int .i64 z.2] [] hs2 rfl rfl, ?_⟩) | (refine wl_alloc hs rfl rfl ?_; intro g13 w4 hs1; clear hs) | (refine wl_storeA [] hs1 rfl rfl rfl rfl rfl rfl rfl ?_; intro w5 hs2; clear hs1) | (refine wl_store [_, _, _, _, _] hs2 rfl rfl rfl (off := 2) (v := .int .i64 ((h.bad : Int) + 1)) rfl rfl rfl ?_ ?_; (show (2 : Nat) + 1 ≤ 4; decide); intro _ hs4; clear hs2))
          go_roundw
          case rel => exact ⟨k + 1, x1, ⟨h.he, h.bad + 1, h.m⟩, by omega, by go_num, hid (by have := HB.out; dsimp only; omega), hid (by rw [HFS.out, HN9.out]), HG3, hid ((St.keeps HST.out hs4).same _ _ HKW.out rfl), St.tl (St.joinAll HST.out hs4)⟩
          case measure => simp [intOf]; omega
        · obtain rfl : k = cnt := by omega
          have d0 : decide ((k : Int) < (k : Int)) = false := decide_eq_false (by omega)
          have HMF : Hid (F.mend = h) := hid (by rw [HME.out, HH.out, HCN.out, List.take_length])
          have HST := hid hst
          have hs := hst.selfM
          clear hst
          go_wp2_with (first | go_big_skip | go_big_guard | (refine wl_loadE rfl rfl rfl ?_; refine ⟨_, Loads.atA (P := Try.prog) (T := 48) [.int .i64 0, .int .i64 h.he, .int .i64 h.bad, .int .i64 lo] [_, _, _, _] hs rfl rfl, ?_⟩) | (refine wl_storeA [_, _, _, _, _, _] hs rfl rfl rfl rfl rfl rfl rfl ?_; intro _ hs2; clear hs) | (refine wl_store [_, _, _, _, _] hs2 rfl rfl rfl (off := 0) (v := .int _ _) rfl rfl rfl ?_ ?_; (show (0 : Nat) + 1 ≤ 1; decide); intro _ hs3; clear hs2))
          have hK2 := (St.keeps HST.out hs3).same _ _ HKW.out rfl
          refine ⟨by simp, .inl ⟨_, _, rfl, run_takeDeferred hK2, ?_⟩⟩
          have hs7 := St.putObj (o' := .deferred none) (Nat.le_trans HSZ.out HD.out) (St.joinAll HST.out hs3) hK2 rfl
          have l1 := Loads.atA (P := Try.prog) (T := 48) (off := 0) [.int .i64 0, .int .i64 h.he, .int .i64 h.bad, .int .i64 lo] [_, _, _, _, _, _] hs7 rfl rfl
          have l2 := Loads.at (P := Try.prog) (T := 39) (off := 0) [_, _, _, _, _] hs7 rfl
          have hres : RES = ⟨0, 0, h.he, h.bad, lo, h.m⟩ := by
            rw [HRES.out, HMF.out, HFE.out]
            rfl
          rw [hres]
          exact ⟨_, results_cell2L rfl rfl rfl l1 l2, x1, rfl, St.sub hs7 (.cons _ (.cons _ (.cons _ (.cons _ (.cons _ (.cons _ (.cons _ (.cons _ (List.Sublist.refl _)))))))))⟩
    · have HANY := hid (show decide (0 < gd) = true from decide_eq_true (by omega))
      have hpos : 0 < gd := by omega
      have d1 : decide ((gd : Int) > 0) = true := decide_eq_true (by omega)
      have HME : Hid (F.mend = ill.foldl (HR.next true cb) ⟨0, 0, cm⟩) := hid (by rw [HFE.out]; unfold CR.mend; dsimp only; rw [HANY.out])
      clear h0
      go_wp2_with (first | go_big_skip | go_big_guard | (refine wl_loadE rfl rfl rfl ?_; refine ⟨_, Loads.at (P := Try.prog) [_, _, _] hs0 rfl, ?_⟩))
      go_loopw [56] (fun i wr => ∃ (k : Nat) (x' : GA) (h : HR), k ≤ cnt ∧ i = .int .i64 k ∧ Hid (h.he ≤ k ∧ h.bad ≤ k) ∧ Hid (h = (ill.take k).foldl (HR.next true cb) ⟨0, 0, cm⟩) ∧ Hid (MGood h.m (N + n + k)) ∧ Hid (wr.heap[D]? = some (.deferred (some []))) ∧ St w0 M wr (.row (.slice wa cnt wc) 83 2 cnt (addrsV ill) :: .blk g9 30 [.slice ba cb.length bc] :: .rowP isB (.slice ba cb.length bc) 5 1 cb.length (bytesV cb) :: .blk g8 32 [.slice wa cnt wc] :: .blk g7 48 [.int .i64 (gd : Int), .int .i64 h.he, .int .i64 h.bad, .int .i64 lo] :: .blk g5 39 [.int .i64 0] :: .blk g4 48 [.int .i64 0, .int .i64 0, .int .i64 0, .int .i64 0] :: .blk g3 36 (ptrCells (.slice ao n c) b v S) ::  (mP gm ga x' h.m ++ R))) (fun i _ => cnt - (intOf i).toNat)
      case atStart => exact ⟨0, x, ⟨0, 0, cm⟩, Nat.zero_le _, rfl, hid ⟨Nat.zero_le _, Nat.zero_le _⟩, hid rfl, HG2, HKD, hs0⟩
      case round =>
        clear hs0
        obtain ⟨k, x1, h, hk, rfl, HB, HH, HGK, HKW, hst⟩ := hrel
        by_cases hlt : k < cnt
        · have d0 : decide ((k : Int) < (cnt : Int)) = true := decide_eq_true (by omega)
          obtain ⟨bb, off, rfl, hr⟩ := (Rd.row hst (.head _)).at hlt
          obtain ⟨z, hz⟩ : ∃ z, z = ill.getD k (0, 0) := ⟨_, rfl⟩
          have hb := addr_both hr (k := k) (by rw [← HCN.out]; exact hlt)
          rw [← hz] at hb
          have HAD := hid hb
          have HFS := hid (fold_succ (f := HR.next true cb) (c := ⟨0, 0, cm⟩) (l := ill) (k := k) (by rw [← HCN.out]; exact hlt))
          rw [← hz, ← HH.out] at HFS
          have HST := hid hst
          have hs := hst.selfM
          have zh : IntKind.i64.wrap ((h.he : Int) + 1) = (h.he : Int) + 1 := IntWalk.i64_in _ (by have := HB.out; omega)
          have zb : IntKind.i64.wrap ((h.bad : Int) + 1) = (h.bad : Int) + 1 := IntWalk.i64_in _ (by have := HB.out; omega)
          clear hz hb hr hst
          have HG3 := hid (HGK.out.healed z.1 z.2 cb)
          by_cases e0 : h.m.a.writeE z.1 z.2 cb = 0
          · have HQ := hid (show (h.m.a.writeE z.1 z.2 cb == 0) = true from beq_iff_eq.2 e0)
            have HN9 := hid (show HR.next true cb h z = ⟨h.he + 1, h.bad, h.m.healed z.1 z.2 cb⟩ by unfold HR.next; rw [HQ.out]; rfl)
            clear e0
            go_wp2_with (first | go_big_skip | go_big_guard | (refine wl_index rfl rfl rfl rfl (hlt) ?_) | (refine wl_loadE rfl rfl rfl ?_; first | refine ⟨_, Loads.range (P := Try.prog) (cs := [.int .i64 z.1, .int .i64 z.2]) (TyA.out (n := 2)) HAD.out, ?_⟩ | refine ⟨_, Loads.at (P := Try.prog) [_, _, _, _, _] hs2 rfl, ?_⟩ | refine ⟨_, Loads.at (P := Try.prog) [_, _, _, _, _] hs3 rfl, ?_⟩ | refine ⟨_, Loads.at (P := Try.prog) [_, _] hs2 rfl, ?_⟩ | refine ⟨_, Loads.atA (P := Try.prog) [.int .i64 z.1, .int .i64 z.2] [] hs2 rfl rfl, ?_⟩) | (refine wl_alloc hs rfl rfl ?_; intro g13 w4 hs1; clear hs) | (refine wl_storeA [] hs1 rfl rfl rfl rfl rfl rfl rfl ?_; intro w5 hs2; clear hs1) | (go_at_call 40; have HC := heal_any (St.perm hs2 (List.perm_append_comm_assoc ([.blk g13 83 [.int .i64 z.1, .int .i64 z.2], .row (.slice (some ⟨bb, off, none⟩) cnt wc) 83 2 cnt (addrsV ill), .blk g9 30 [.slice ba cb.length bc], .rowP isB (.slice ba cb.length bc) 5 1 cb.length (bytesV cb), .blk g8 32 [.slice (some ⟨bb, off, none⟩) cnt wc], .blk g7 48 [.int .i64 (gd : Int), .int .i64 h.he, .int .i64 h.bad, .int .i64 lo], .blk g5 39 [.int .i64 0], .blk g4 48 [.int .i64 0, .int .i64 0, .int .i64 0, .int .i64 0], .blk g3 36 (ptrCells (.slice ao n c) b v S)] : List Hp.HA) (mP gm ga x1 h.m) R)) HGK.out (by omega) z.1 z.2 ba cb.length bc cb (GB.row (.tail _ (.tail _ (.tail _ (.head _)))) rfl); rw [HQ.out] at HC; refine HC.mono ?_; clear HC; rintro _ w6 ⟨x2, rfl, h4⟩; have hs3 := St.perm h4 (List.perm_append_comm_assoc (mP gm ga x2 (h.m.healed z.1 z.2 cb)) ([.blk g13 83 [.int .i64 z.1, .int .i64 z.2], .row (.slice (some ⟨bb, off, none⟩) cnt wc) 83 2 cnt (addrsV ill), .blk g9 30 [.slice ba cb.length bc], .rowP isB (.slice ba cb.length bc) 5 1 cb.length (bytesV cb), .blk g8 32 [.slice (some ⟨bb, off, none⟩) cnt wc], .blk g7 48 [.int .i64 (gd : Int), .int .i64 h.he, .int .i64 h.bad, .int .i64 lo], .blk g5 39 [.int .i64 0], .blk g4 48 [.int .i64 0, .int .i64 0, .int .i64 0, .int .i64 0], .blk g3 36 (ptrCells (.slice ao n c) b v S)] : List Hp.HA) R); clear h4 hs2) | (refine wl_store [_, _, _, _, _] hs3 rfl rfl rfl (off := 1) (v := .int .i64 ((h.he : Int) + 1)) rfl rfl rfl ?_ ?_; (show (1 : Nat) + 1 ≤ 4; decide); intro _ hs4; clear hs3))
            go_roundw
            case rel => exact ⟨k + 1, x2, ⟨h.he + 1, h.bad, h.m.healed z.1 z.2 cb⟩, by omega, by go_num, hid (by have := HB.out; dsimp only; omega), hid (by rw [HFS.out, HN9.out]), HG3, hid ((St.keeps HST.out hs4).same _ _ HKW.out rfl), St.tl (St.joinAll HST.out hs4)⟩
            case measure => simp [intOf]; omega
          · have HQ := hid (show (h.m.a.writeE z.1 z.2 cb == 0) = false from beq_eq_false_iff_ne.2 e0)
            have HN9 := hid (show HR.next true cb h z = ⟨h.he, h.bad + 1, h.m.healed z.1 z.2 cb⟩ by unfold HR.next; rw [HQ.out]; rfl)
            clear e0
            go_wp2_with (first | go_big_skip | go_big_guard | (refine wl_index rfl rfl rfl rfl (hlt) ?_) | (refine wl_loadE rfl rfl rfl ?_; first | refine ⟨_, Loads.range (P := Try.prog) (cs := [.int .i64 z.1, .int .i64 z.2]) (TyA.out (n := 2)) HAD.out, ?_⟩ | refine ⟨_, Loads.at (P := Try.prog) [_, _, _, _, _] hs2 rfl, ?_⟩ | refine ⟨_, Loads.at (P := Try.prog) [_, _, _, _, _] hs3 rfl, ?_⟩ | refine ⟨_, Loads.at (P := Try.prog) [_, _] hs2 rfl, ?_⟩ | refine ⟨_, Loads.atA (P := Try.prog) [.int .i64 z.1, .int .i64 z.2] [] hs2 rfl rfl, ?_⟩) | (refine wl_alloc hs rfl rfl ?_; intro g13 w4 hs1; clear hs) | (refine wl_storeA [] hs1 rfl rfl rfl rfl rfl rfl rfl ?_; intro w5 hs2; clear hs1) | (go_at_call 40; have HC := heal_any (St.perm hs2 (List.perm_append_comm_assoc ([.blk g13 83 [.int .i64 z.1, .int .i64 z.2], .row (.slice (some ⟨bb, off, none⟩) cnt wc) 83 2 cnt (addrsV ill), .blk g9 30 [.slice ba cb.length bc], .rowP isB (.slice ba cb.length bc) 5 1 cb.length (bytesV cb), .blk g8 32 [.slice (some ⟨bb, off, none⟩) cnt wc], .blk g7 48 [.int .i64 (gd : Int), .int .i64 h.he, .int .i64 h.bad, .int .i64 lo], .blk g5 39 [.int .i64 0], .blk g4 48 [.int .i64 0, .int .i64 0, .int .i64 0, .int .i64 0], .blk g3 36 (ptrCells (.slice ao n c) b v S)] : List Hp.HA) (mP gm ga x1 h.m) R)) HGK.out (by omega) z.1 z.2 ba cb.length bc cb (GB.row (.tail _ (.tail _ (.tail _ (.head _)))) rfl); rw [HQ.out] at HC; refine HC.mono ?_; clear HC; rintro _ w6 ⟨x2, rfl, h4⟩; have hs3 := St.perm h4 (List.perm_append_comm_assoc (mP gm ga x2 (h.m.healed z.1 z.2 cb)) ([.blk g13 83 [.int .i64 z.1, .int .i64 z.2], .row (.slice (some ⟨bb, off, none⟩) cnt wc) 83 2 cnt (addrsV ill), .blk g9 30 [.slice ba cb.length bc], .rowP isB (.slice ba cb.length bc) 5 1 cb.length (bytesV cb), .blk g8 32 [.slice (some ⟨bb, off, none⟩) cnt wc], .blk g7 48 [.int .i64 (gd : Int), .int .i64 h.he, .int .i64 h.bad, .int .i64 lo], .blk g5 39 [.int .i64 0], .blk g4 48 [.int .i64 0, .int .i64 0, .int .i64 0, .int .i64 0], .blk g3 36 (ptrCells (.slice ao n c) b v S)] : List Hp.HA) R); clear h4 hs2) | (refine wl_store [_, _, _, _, _] hs3 rfl rfl rfl (off := 2) (v := .int .i64 ((h.bad : Int) + 1)) rfl rfl rfl ?_ ?_; (show (2 : Nat) + 1 ≤ 4; decide); intro _ hs4; clear hs3))
            go_roundw
            case rel => exact ⟨k + 1, x2, ⟨h.he, h.bad + 1, h.m.healed z.1 z.2 cb⟩, by omega, by go_num, hid (by have := HB.out; dsimp only; omega), hid (by rw [HFS.out, HN9.out]), HG3, hid ((St.keeps HST.out hs4).same _ _ HKW.out rfl), St.tl (St.joinAll HST.out hs4)⟩
            case measure => simp [intOf]; omega
        · obtain rfl : k = cnt := by omega
          have d0 : decide ((k : Int) < (k : Int)) = false := decide_eq_false (by omega)
          have HMF : Hid (F.mend = h) := hid (by rw [HME.out, HH.out, HCN.out, List.take_length])
          have HST := hid hst
          have hs := hst.selfM
          clear hst
          go_wp2_with (first | go_big_skip | go_big_guard | (refine wl_loadE rfl rfl rfl ?_; refine ⟨_, Loads.atA (P := Try.prog) (T := 48) [.int .i64 (gd : Int), .int .i64 h.he, .int .i64 h.bad, .int .i64 lo] [_, _, _, _] hs rfl rfl, ?_⟩) | (refine wl_storeA [_, _, _, _, _, _] hs rfl rfl rfl rfl rfl rfl rfl ?_; intro _ hs2; clear hs) | (refine wl_store [_, _, _, _, _] hs2 rfl rfl rfl (off := 0) (v := .int _ _) rfl rfl rfl ?_ ?_; (show (0 : Nat) + 1 ≤ 1; decide); intro _ hs3; clear hs2))
          have hK2 := (St.keeps HST.out hs3).same _ _ HKW.out rfl
          refine ⟨by simp, .inl ⟨_, _, rfl, run_takeDeferred hK2, ?_⟩⟩
          have hs7 := St.putObj (o' := .deferred none) (Nat.le_trans HSZ.out HD.out) (St.joinAll HST.out hs3) hK2 rfl
          have l1 := Loads.atA (P := Try.prog) (T := 48) (off := 0) [.int .i64 (gd : Int), .int .i64 h.he, .int .i64 h.bad, .int .i64 lo] [_, _, _, _, _, _] hs7 rfl rfl
          have l2 := Loads.at (P := Try.prog) (T := 39) (off := 0) [_, _, _, _, _] hs7 rfl
          have hres : RES = ⟨0, gd, h.he, h.bad, lo, h.m⟩ := by
            rw [HRES.out, HMF.out, HFE.out]
            rfl
          rw [hres]
          exact ⟨_, results_cell2L rfl rfl rfl l1 l2, x1, rfl, St.sub hs7 (.cons _ (.cons _ (.cons _ (.cons _ (.cons _ (.cons _ (.cons _ (.cons _ (List.Sublist.refl _)))))))))⟩
  case stop =>
    rintro D cc W hD ⟨rfl, hFo, hst⟩ hK
    have HD := hid hD
    clear hD hI0
    go_wp2_with (first | go_big_skip | go_big_guard | fail)
    refine ⟨by simp, .inl ⟨_, _, rfl, run_takeDeferred hK, ?_⟩⟩
    have hs7 := St.putObj (o' := .deferred none) (Nat.le_trans HSZ.out HD.out) hst hK rfl
    have l1 := Loads.atA (P := Try.prog) (T := 48) (off := 0) [.int .i64 0, .int .i64 0, .int .i64 0, .int .i64 0] [_] hs7 rfl rfl
    have l2 := Loads.at (P := Try.prog) (T := 39) (off := 0) [] hs7 rfl
    rw [show RES = ⟨10, 0, 0, 0, 0, F.m⟩ from HRES.out.trans (if_pos hFo)]
    exact ⟨_, results_cell2L rfl rfl rfl l1 l2, x, rfl, St.sub hs7 (.cons _ (.cons _ (List.Sublist.refl _)))⟩
theorem scan_any {w0 w : World} {M : List Nat} {R : List HA} {gm ga : Nat} {x : GA} {m : MV} {N : Nat} (hS : St w0 M w (mP gm ga x m ++ R)) (hg : MGood m N) (ao : Option Addr) (n c : Nat) (l : List (Int × Int)) (b v : Int) (S : List UInt8) (hL : L32 S) (hn : l.length = n) (hA : ∀ w, St w0 M w R → Rd w (.slice ao n c) 2 n (addrsV l)) (hN : N + 2 * n ≤ 900000) :
    Calls Try.prog 16 #[PM gm, .agg (ptrCells (.slice ao n c) b v S).toArray] w fun e w' => ∃ x', e = .returned (.tuple #[.agg (List.toArray (m.scan (PVof ao n c l b v S)).cells), .int .i64 (m.scan (PVof ao n c l b v S)).er]) ∧ St w0 M w' (mP gm ga x' (m.scan (PVof ao n c l b v S)).m ++ R) := by
  by_cases h1 : m.askE (PVof ao n c l b v S) = 0
  · exact scan_ok hS hg ao n c l b v S hL hn hA hN h1
  · exact scan_odd hS hg ao n c l b v S hL hn hA hN h1
end
end Go.Proofs.Ytmdfbdfijnmhkaa
namespace Go.Proofs.Ytmdfbdfijnmhkaa
set_option linter.unusedVariables false
set_option linter.unusedSimpArgs false
open Go.RowKit Hp
attribute [local irreducible] Go.Calls Go.wpList
set_option maxRecDepth 100000
set_option maxHeartbeats 4000000
def sect (b : UInt8) : List UInt8 := List.replicate 256 b
theorem sect_len (b : UInt8) : (sect b).length = 256 := List.length_replicate
theorem rep_put16 (j n : Nat) (b z : Value) (h : j < n) : putAt (List.replicate j b ++ List.replicate (n - j) z) j [b] = List.replicate (j + 1) b ++ List.replicate (n - (j + 1)) z := by
  have key : n - j = (n - (j + 1)) + 1 := by omega
  rw [putAt_many, key, List.replicate_succ]
  rw [List.take_append_of_le_length (by simp), List.take_of_length_le (by simp), List.drop_append, List.drop_of_length_le (by simp), List.nil_append, List.length_replicate, List.length_singleton, show j + 1 - j = 1 by omega, List.drop_one, List.tail_cons, ← List.append_assoc, List.replicate_succ']
theorem of16_any (b : UInt8) (w : World) : Calls Try.prog 8 #[.int .u8 b.toNat] w fun e w' => ∃ g, e = .returned (.slice (some ⟨g, 0, none⟩) 256 256) ∧ St w [] w' [.blk g 5 (bytesV (sect b))] := by
  have hst0 := St.refl w
  go_enter Try.func8, Try.ntmps8
  go_wp2_with (first | go_big_skip | go_big_guard | (apply wl_make 256 256 hst0; rfl; rfl; exact rfl; exact rfl; infer_instance; infer_instance; infer_instance; exact rfl; exact rfl; decide; decide; intro g _ hst1; clear hst0))
  go_loopw [4] (fun i wr => ∃ j : Nat, j ≤ 256 ∧ i = .int .i64 (j : Int) ∧ St w [] wr [.blk g 5 (List.replicate j (.int .u8 b.toNat) ++ List.replicate (256 - j) (.int .u8 0))]) (fun i _ => 256 - (intOf i).toNat)
  case atStart => exact ⟨0, by decide, rfl, hst1⟩
  case round =>
    clear hst1
    obtain ⟨j, hj, rfl, hst⟩ := hrel
    by_cases hlj : j < 256
    · have d1 : decide ((j : Int) < 256) = true := decide_eq_true (by omega)
      have z1 : IntKind.i64.wrap ((j : Int) + 1) = (j : Int) + 1 := IntWalk.i64_in _ (by omega)
      have HP := hid (rep_put16 j 256 (.int .u8 b.toNat) (.int .u8 0) hlj)
      have HL := hid (show j * 1 + 1 ≤ (List.replicate j (Value.int .u8 b.toNat) ++ List.replicate (256 - j) (Value.int .u8 0)).length by rw [List.length_append, List.length_replicate, List.length_replicate]; omega)
      obtain ⟨CS, hCS⟩ : ∃ CS, CS = List.replicate j (Value.int .u8 b.toNat) ++ List.replicate (256 - j) (Value.int .u8 0) := ⟨_, rfl⟩
      rw [← hCS] at hst HP HL
      clear hCS
      go_wp2_with (first | go_big_skip | go_big_guard | (refine wl_index (k := j) rfl rfl rfl rfl hlj ?_) | (refine wl_store [] hst rfl rfl rfl (v := .int _ _) rfl rfl rfl (by rw [Nat.zero_add]; exact HL.out) ?_; intro w5 hst2; clear hst))
      go_roundw
      case rel =>
        refine ⟨j + 1, by omega, rfl, ?_⟩
        rw [← HP.out]
        rw [Nat.zero_add, Nat.mul_one] at hst2
        exact hst2
      case measure => simp [intOf]; omega
    · have d1 : decide ((j : Int) < 256) = false := decide_eq_false (by omega)
      have hjn : j = 256 := by omega
      subst hjn
      go_wp2_with (first | go_big_skip | go_big_guard | fail)
      go_ret
      refine ⟨g, rfl, ?_⟩
      have e : bytesV (sect b) = List.replicate 256 (.int .u8 b.toNat) := by simp [bytesV, sect]
      rw [e]
      have := hst
      rw [Nat.sub_self, List.replicate_zero, List.append_nil] at this
      exact this
def onDevs (k : Nat) : List (Int × Int) := (List.range k).map fun (i : Nat) => ((i : Int), (5 : Int))
theorem onDevs_len (k : Nat) : (onDevs k).length = k := by simp [onDevs]
theorem onDevs_succ (k : Nat) : onDevs (k + 1) = onDevs k ++ [((k : Int), 5)] := by simp [onDevs, List.range_succ]
theorem ptr_places (ps : List (Nat × Value)) : Try.prog.built 36 ps = Instr.fill (#[(0, 1), (1, 1), (2, 1), (3, 32)][·]?) (Array.mk (.slice none 0 0 :: .int .i64 0 :: .int .i64 0 :: List.replicate 32 (.int .u8 0))) ps := by kernel_rfl
theorem built_ptr {d : Int} {S : List UInt8} (hb : S.length = 32) : Try.prog.built 36 [(1, .int .i64 d), (3, .agg (bytesV S).toArray)] = some (ptrCells (.slice none 0 0) d 0 S).toArray := by
  rw [ptr_places]
  have h1 := fold_set 3 (bytesV S) 0 [.slice none 0 0, .int .i64 d, .int .i64 0] (List.replicate 32 (.int .u8 0)) rfl (by rw [length_bytesV, hb, List.length_replicate]; exact Nat.le_refl _)
  have hl : (bytesV S).length = 32 := by rw [length_bytesV, hb]
  obtain ⟨Z, hZ⟩ : ∃ Z : List Value, Z = List.replicate 32 (.int .u8 0) := ⟨_, rfl⟩
  have hz : Z.length = 32 := by rw [hZ, List.length_replicate]
  rw [← hZ] at h1 ⊢
  have hc : (Value.agg (bytesV S).toArray).cells = (bytesV S).toArray := rfl
  have e0 : Instr.fill (#[(0, 1), (1, 1), (2, 1), (3, 32)][·]?) (Array.mk (.slice none 0 0 :: .int .i64 0 :: .int .i64 0 :: Z)) [(1, .int .i64 d), (3, .agg (bytesV S).toArray)] = Instr.fill (#[(0, 1), (1, 1), (2, 1), (3, 32)][·]?) (Array.mk (.slice none 0 0 :: .int .i64 d :: .int .i64 0 :: Z)) [(3, .agg (bytesV S).toArray)] := by
    simp [Instr.fill, Value.cells]
    omega
  rw [e0]
  simp only [Instr.fill, hc]
  rw [show (#[(0, 1), (1, 1), (2, 1), (3, 32)] : Array (Nat × Nat))[3]? = some (3, 32) from rfl]
  dsimp only
  rw [if_neg (by simp [hb, hz])]
  rw [← Array.foldl_toList, Array.toList_zipIdx]
  have h2 : List.foldl (fun (cs : Array Value) (x : Value × Nat) => match x with | (c, j) => cs.setIfInBounds (3 + j) c) (Array.mk (Value.slice none 0 0 :: Value.int .i64 d :: Value.int .i64 0 :: Z)) (bytesV S).zipIdx = ([Value.slice none 0 0, Value.int .i64 d, Value.int .i64 0] ++ (bytesV S ++ Z.drop (bytesV S).length)).toArray := h1
  rw [List.toList_toArray, h2, hl, List.drop_of_length_le (by omega), List.append_nil]
  rfl
theorem results_cellQ {fn : Func} {p : Tmp} {ty : TypeId} {tmps : Array Value} {P : Program} {w : World} {A : Addr} {v : Value} (h : fn.results = #[.cell p ty]) (hp : tmps.getD p undef = .pointer (some A)) (hl : Loads P w ty A v) :
    (results fn tmps).run P w = .ok v w := by
  have hl' : (loadVar ty A).run P w = .ok v w := hl
  have hp' : tmps[p]?.getD undef = .pointer (some A) := by simpa using hp
  simp [results, h, hp', asAddr, hl', Sem.run_bind]
section
theorem storedPt (A : Addr) (v : Value) : storeVar 36 A v = storeVarH 36 A v := rfl
theorem loadedPt (A : Addr) : loadVar 36 A = loadVarH 36 A := rfl
attribute [local go_sem ↓] storedPt loadedPt
theorem points_any {w0 w : World} {M : List Nat} {L : List HA} (hS : St w0 M w L) (ao : Option Addr) (n c : Nat) (bs : List UInt8) (hr : ∀ w, St w0 M w L → Rd w (.slice ao n c) 1 n (bytesV bs)) (hn : bs.length = n) (hb : n ≤ 100000) (k : Nat) (hk : k ≤ 1000) :
    Calls Try.prog 9 #[.slice ao n c, .int .i64 k] w fun e w' => ∃ sa sc, e = .returned (.agg (ptrCells (.slice sa k sc) 1 0 (sumB bs)).toArray) ∧ St w0 M w' (.row (.slice sa k sc) 83 2 k (addrsV (onDevs k)) :: L) := by
  have hst := hS
  have HR := hid hr
  have HN := hid hn
  obtain ⟨S, hS2⟩ : ∃ S, S = sumB bs := ⟨_, rfl⟩
  have HS2 := hid hS2.symm
  have hs32 : S.length = 32 := by rw [hS2]; exact length_bytesS _
  have HL := hid (show L32 S from hs32)
  have HB := hid (built_ptr (d := 1) hs32)
  rw [← hS2]
  clear hS hr hn hS2 hs32
  go_enter Try.func9, Try.ntmps9
  go_wp2_with (first | go_big_skip | go_big_guard | (refine wl_alloc (T := 36) hst rfl rfl ?_; intro g4 w1 hst1; clear hst) | (go_at_call 14; refine (sum_any ao n c bs _ (HR.out _ (St.tl hst1)) HN.out hb).mono ?_; rw [HS2.out]; rintro _ w2 ⟨rfl, h4⟩; have hst2 := St.call0 hst1 h4; clear h4 hst1) | (refine wl_buildX (cs := ptrCells (.slice none 0 0) 1 0 S) [(1, .int .i64 1), (3, .agg (List.toArray (bytesV S)))] rfl rfl (by exact rfl) (by exact HB.out) ?_) | (refine wl_alloc (T := 36) hst2 rfl rfl ?_; intro g5 w3 hst3; clear hst2) | (refine wl_storeA [] hst3 rfl rfl rfl rfl (ptr_len HL.out _ _ _) (ptr_ones _ _ _ _ _ _) (ptr_len L32.nones _ _ _) ?_; intro w4 hst4; clear hst3))
  have hst5 := St.nilRow 83 2 hst4
  clear hst4
  go_loopw [6] (fun i wr => ∃ j : Nat, j ≤ k ∧ i = .int .i64 (j : Int) ∧ ∃ sv, St w0 M wr (.row sv 83 2 j (addrsV (onDevs j)) :: .blk g5 36 (ptrCells sv 1 0 S) :: .blk g4 36 (ptrCells (.slice none 0 0) 0 0 nones) :: L)) (fun i _ => k - (intOf i).toNat)
  case atStart => exact ⟨0, Nat.zero_le _, rfl, _, hst5⟩
  case round =>
    clear hst5
    obtain ⟨j, hj, rfl, sv, hst⟩ := hrel
    obtain ⟨sa, sc, rfl⟩ := St.rowSliceAt [] hst
    by_cases hlj : j < k
    · have d1 : decide ((j : Int) < (k : Int)) = true := decide_eq_true (by omega)
      have z1 : IntKind.i64.wrap ((j : Int) + 1) = (j : Int) + 1 := IntWalk.i64_in _ (by omega)
      go_wp2_with (first | go_big_skip | go_big_guard | (refine wl_loadE rfl rfl rfl ?_; refine ⟨_, Loads.at (P := Try.prog) [_] hst rfl, ?_⟩) | (refine wl_buildX (cs := [.int .i64 (j : Int), .int .i64 5]) [(0, .int .i64 (j : Int)), (1, .int .i64 5)] rfl rfl (by exact rfl) (by kernel_rfl) ?_) | (apply wl_bsX [.agg (List.toArray [.int .i64 (j : Int), .int .i64 5])] [.int .i64 (j : Int), .int .i64 5] hst; rfl; rfl; exact rfl; exact rfl; infer_instance; infer_instance; rfl; rfl; rfl; intro g12 w2 hs2; clear hst) | (apply wl_appX [_] hs2; rfl; rfl; exact rfl; exact rfl; infer_instance; infer_instance; infer_instance; exact (Rd.blk0 hs2 rfl (by decide)); exact rfl; (unfold maxLen; omega); intro v1 w3 hs3 _; clear hs2; obtain ⟨a4, c4, rfl⟩ := St.rowSliceAt [_] hs3) | (refine wl_store [_, _] hs3 rfl rfl rfl (v := .slice _ _ _) rfl rfl rfl ?_ ?_; exact Nat.le_add_left _ _; intro w4 hs4; clear hs3))
      go_roundw
      case rel =>
        refine ⟨j + 1, by omega, rfl, .slice a4 (j + 1) c4, ?_⟩
        rw [onDevs_succ, addrsV_snoc]
        exact St.tl hs4
      case measure => simp [intOf]; omega
    · have d1 : decide ((j : Int) < (k : Int)) = false := decide_eq_false (by omega)
      have hjn : j = k := by omega
      subst hjn
      go_wp2_with (first | go_big_skip | go_big_guard | (refine wl_loadE rfl rfl rfl ?_; refine ⟨_, Loads.atA (P := Try.prog) (ptrCells (.slice sa j sc) 1 0 S) [_] hst (ptr_len HL.out _ _ _) (ptr_all _ _ _ _), ?_⟩) | (refine wl_storeA [_, _] hst rfl rfl rfl rfl (ptr_len HL.out _ _ _) (ptr_ones _ _ _ _ _ _) (ptr_len L32.nones _ _ _) ?_; intro w4 hst4; clear hst))
      refine bodyPost_ret (results_cellQ rfl rfl (Loads.atA (P := Try.prog) (ptrCells (.slice sa j sc) 1 0 S) [_, _] hst4 (ptr_len HL.out _ _ _) (ptr_all _ _ _ _))) rfl ⟨sa, sc, rfl, St.sub hst4 (.cons_cons _ (.cons _ (.cons _ (List.Sublist.refl _))))⟩
end
end Go.Proofs.Ytmdfbdfijnmhkaa
namespace Go.Proofs.Ytmdfbdfijnmhkaa
set_option linter.unusedVariables false
set_option linter.unusedSimpArgs false
open Go.RowKit Hp
attribute [local irreducible] Go.Calls Go.wpList
set_option maxRecDepth 100000
set_option maxHeartbeats 4000000
theorem wrote_good {m : MV} {b : List UInt8} : ∀ {l : List (Int × Int)} {a : AR} {k N : Nat}, MGood (m.withA a) N → MGood (m.withA (wrote16 b a k l).a) (N + l.length)
  | [], a, k, N, h => by
    unfold wrote16 some16
    split <;> exact h
  | z :: l, a, k, N, h => by
    have h1 : MGood (m.withA (a.write z.1 z.2 b)) (N + 1) := h.arr (h.sc.ok.write _ _ _) (Stays.write _ _ _ _)
    rw [show N + (z :: l).length = N + 1 + l.length by rw [List.length_cons]; omega]
    unfold wrote16
    split
    · exact wrote_good h1
    · split
      · exact h1.mono (Nat.le_add_right _ _)
      · exact wrote_good h1
theorem put_good {m : MV} {N : Nat} (h : MGood m N) (l : List (Int × Int)) (b : List UInt8) : MGood (m.withA (m.put l b).a) (N + l.length) := by
  unfold MV.put
  split
  · exact wrote_good h
  · exact MGood.mono h (Nat.le_add_right _ _)
theorem made16_any (w : World) : Calls Try.prog 6 #[] w fun e w' => ∃ gm ga x gs, e = .returned (.tuple #[.pointer (some ⟨ga, 0, none⟩), PM gm]) ∧ gs.length = 3 ∧ St w [] w' (mP gm ga x ⟨newA 8 gs, zeroE⟩) := by
  have hst0 := St.refl w
  go_enter Try.func6, Try.ntmps6
  go_wp2_with (first | go_big_skip | go_big_guard | (go_at_call 26; refine (newM_any 3 8 (by decide) (by decide) _).mono ?_; rintro _ w1 ⟨ga, x, gs, rfl, hgl, h4⟩; have hst1 : St w [] w1 (arP ga x (newA 8 gs) ++ []) := St.call hst0 h4; have HGL := hid hgl; clear h4 hgl hst0) | (go_at_call 22; refine (mirNew_any hst1 (by intro h; have h2 := congrArg List.length h; rw [show (newA 8 gs).devs.length = 3 from (List.length_map _).trans HGL.out] at h2; cases h2)).mono ?_; rintro _ w2 ⟨gm, rfl, h4⟩; have hst2 : St w [] w2 (mP gm ga x ⟨newA 8 gs, zeroE⟩) := (by rw [List.append_nil] at h4; exact h4); clear h4 hst1; unfold PM))
  go_ret2
  exact ⟨gm, ga, x, gs, rfl, HGL.out, hst2⟩
section
theorem loadedPt2 (A : Addr) : loadVar 36 A = loadVarH 36 A := rfl
attribute [local go_sem ↓] loadedPt2 loadedAs8
theorem puts_any {w0 w : World} {M : List Nat} {R : List HA} {gm ga : Nat} {x : GA} {m : MV} {N : Nat} (hS : St w0 M w (mP gm ga x m ++ R)) (hg : MGood m N) (ao : Option Addr) (n c : Nat) (l : List (Int × Int)) (b v : Int) (S : List UInt8) (hL : L32 S) (hA : ∀ w, St w0 M w R → Rd w (.slice ao n c) 2 n (addrsV l)) (hn : l.length = n) (bo : Option Addr) (bn bc : Nat) (bs : List UInt8) (hb : GB w0 M R (.slice bo bn bc) bn bs) (hN : N + n ≤ 800000) (A1 A2 : AR) (h1 : m.put l bs = ⟨0, n, A1⟩) (h2 : (m.withA A1).flush = ⟨0, 3, A2⟩) :
    Calls Try.prog 10 #[PM gm, .agg (ptrCells (.slice ao n c) b v S).toArray, .slice bo bn bc] w fun e w' => ∃ x', e = .returned (.bool true) ∧ St w0 M w' (mP gm ga x' (m.withA A2) ++ R) := by
  have hst := hS
  have HG := hid hg
  have HL := hid hL
  have HN := hid hn
  have HA := hid hA
  have HB := hid hb
  have HG2 := hid (show MGood (m.withA A1) (N + n) from by have := put_good hg l bs; rw [h1, hn] at this; exact this)
  have H1 := hid h1
  have H2 := hid h2
  clear hS hg hL hn hA hb h1 h2
  unfold PM
  go_enter Try.func10, Try.ntmps10
  go_wp2_with (first | go_big_skip | go_big_guard | (refine wl_boxA hst rfl rfl rfl ?_; intro g3 w1 hst0; clear hst; have hst1 : St w0 M w1 (mP gm ga x m ++ (.blk g3 36 (ptrCells (.slice ao n c) b v S) :: R)) := St.behind (A := mP gm ga x m) hst0; clear hst0) | (refine wl_loadE rfl rfl rfl ?_; first | refine ⟨_, Loads.at (P := Try.prog) [] hst0 rfl, ?_⟩ | refine ⟨_, Loads.blk (P := Try.prog) hst1 TyS.out (List.mem_append_right _ (.head _)) rfl, ?_⟩ | refine ⟨_, Loads.blk (P := Try.prog) hst2 TyS.out (List.mem_append_right _ (.head _)) rfl, ?_⟩ | refine ⟨_, Loads.blk (P := Try.prog) hst3 TyS.out (List.mem_append_right _ (.head _)) rfl, ?_⟩) | (go_at_call 20; have HC := put_any hst1 HG.out ao n c l (fun w h => HA.out w (St.sub h (List.sublist_cons_self _ _))) HN.out bo bn bc bs (GB.more (P := [_]) HB.out) (by omega); rw [H1.out] at HC; refine HC.mono ?_; clear HC; rintro _ w2 ⟨x2, rfl, h4⟩; have hst2 := h4; clear h4 hst1) | (go_at_call 21; have HC := mflush_any hst2 HG2.out hN; rw [H2.out] at HC; refine HC.mono ?_; clear HC; rintro _ w3 ⟨x3, rfl, h4⟩; have hst3 : St w0 M w3 (mP gm ga x3 (m.withA A2) ++ _) := h4; clear h4 hst2))
  go_ret
  exact ⟨x3, rfl, sub_x hst3⟩
theorem gets_any {w0 w : World} {M : List Nat} {R : List HA} {gm ga : Nat} {x : GA} {m : MV} {N : Nat} (hS : St w0 M w (mP gm ga x m ++ R)) (hg : MGood m N) (ao : Option Addr) (n c : Nat) (l : List (Int × Int)) (b v : Int) (S : List UInt8) (hL : L32 S) (hA : ∀ w, St w0 M w R → Rd w (.slice ao n c) 2 n (addrsV l)) (hn : l.length = n) (bo : Option Addr) (bn bc : Nat) (bs : List UInt8) (hb : GB w0 M R (.slice bo bn bc) bn bs) (hN : N + 2 * n ≤ 900000) (hbn : bn ≤ 100000) (m' : MV) (h1 : m.get (PVof ao n c l b v S) = ⟨0, bs, m'⟩) :
    Calls Try.prog 24 #[PM gm, .agg (ptrCells (.slice ao n c) b v S).toArray, .slice bo bn bc] w fun e w' => ∃ x', e = .returned (.bool true) ∧ St w0 M w' (mP gm ga x' m' ++ R) := by
  have hst := hS
  have HG := hid hg
  have HL := hid hL
  have HN := hid hn
  have HA := hid hA
  have HB := hid hb
  have H1 := hid h1
  clear hS hg hL hn hA hb h1
  unfold PM
  go_enter Try.func24, Try.ntmps24
  go_wp2_with (first | go_big_skip | go_big_guard | (refine wl_boxA hst rfl rfl rfl ?_; intro g3 w1 hst0; clear hst; have hst1 : St w0 M w1 (mP gm ga x m ++ (.blk g3 36 (ptrCells (.slice ao n c) b v S) :: R)) := St.behind (A := mP gm ga x m) hst0; clear hst0) | (refine wl_loadE rfl rfl rfl ?_; refine ⟨_, Loads.blkA (P := Try.prog) (T := 36) (vs := ptrCells (.slice ao n c) b v S) hst1 (by rw [ptr_len HL.out]; exact TyA.out) (List.mem_append_right _ (.head _)) (ptr_all _ _ _ _), ?_⟩) | (go_at_call 15; have HC := get_any hst1 HG.out ao n c l b v S HL.out HN.out (fun w h => HA.out w (St.sub h (List.sublist_cons_self _ _))) hN; rw [H1.out] at HC; refine HC.mono ?_; clear HC; rintro _ w2 ⟨u, x2, rfl, h4⟩; obtain ⟨ua, uc, rfl⟩ := St.rowPSlice [] h4; have hst2 := h4; clear h4 hst1) | (go_at_call 13; refine (sameBytes_any _ _ _ _ bs bs _ (Rd.rowP hst2 (.head _)) (HB.out.rd _ (St.sub hst2 (.cons _ ((List.sublist_cons_self _ _).trans (List.sublist_append_right _ _)))))).mono ?_; rw [beq_self_eq_true]; rintro _ w3 ⟨rfl, h4⟩; have hst3 := St.call0 hst2 h4; clear h4 hst2))
  go_ret
  exact ⟨x2, rfl, sub_x (St.tl hst3)⟩
end
end Go.Proofs.Ytmdfbdfijnmhkaa
namespace Go.Proofs.Ytmdfbdfijnmhkaa
set_option linter.unusedVariables false
set_option linter.unusedSimpArgs false
open Go.RowKit Hp
set_option maxRecDepth 100000
set_option maxHeartbeats 4000000
def dk (g : Nat) (s : List UInt8) : DV := ⟨g, [sect 0, sect 0, sect 0, sect 0, sect 0, s, sect 0, sect 0], false, false, false, 0, 0⟩
def AK (p q r : Nat) (a b c : List UInt8) (L : List LW) (st : Int) : AR := ⟨[dk p a, dk q b, dk r c], L, -1, false, st⟩
theorem newA_ak (p q r : Nat) : newA 8 [p, q, r] = AK p q r (sect 0) (sect 0) (sect 0) [] 0 := by kernel_rfl
theorem ak_rE0 (p q r : Nat) (a b c : List UInt8) (L : List LW) (st : Int) : (AK p q r a b c L st).readE 0 5 = 0 := by kernel_rfl
theorem ak_rd0 (p q r : Nat) (a b c : List UInt8) (L : List LW) (st : Int) : (AK p q r a b c L st).read 0 5 = AK p q r a b c L st := by kernel_rfl
theorem ak_rB0 (p q r : Nat) (a b c : List UInt8) (L : List LW) (st : Int) : (AK p q r a b c L st).readB 0 5 = L.foldl (pickW 0 5) a := by kernel_rfl
theorem ak_rE1 (p q r : Nat) (a b c : List UInt8) (L : List LW) (st : Int) : (AK p q r a b c L st).readE 1 5 = 0 := by kernel_rfl
theorem ak_rd1 (p q r : Nat) (a b c : List UInt8) (L : List LW) (st : Int) : (AK p q r a b c L st).read 1 5 = AK p q r a b c L st := by kernel_rfl
theorem ak_rB1 (p q r : Nat) (a b c : List UInt8) (L : List LW) (st : Int) : (AK p q r a b c L st).readB 1 5 = L.foldl (pickW 1 5) b := by kernel_rfl
theorem ak_rE2 (p q r : Nat) (a b c : List UInt8) (L : List LW) (st : Int) : (AK p q r a b c L st).readE 2 5 = 0 := by kernel_rfl
theorem ak_rd2 (p q r : Nat) (a b c : List UInt8) (L : List LW) (st : Int) : (AK p q r a b c L st).read 2 5 = AK p q r a b c L st := by kernel_rfl
theorem ak_rB2 (p q r : Nat) (a b c : List UInt8) (L : List LW) (st : Int) : (AK p q r a b c L st).readB 2 5 = L.foldl (pickW 2 5) c := by kernel_rfl
theorem ak_ask1 (p q r : Nat) (a b c : List UInt8) (L : List LW) (st : Int) (e : List ER) (ao : Option Addr) (cc : Nat) (S : List UInt8) : (⟨AK p q r a b c L st, e⟩ : MV).askE (PVof ao 1 cc (onDevs 1) 1 0 S) = 0 := by kernel_rfl
theorem ak_put1 (p q r : Nat) (a b c : List UInt8) (st : Int) (e : List ER) (x : UInt8) : (⟨AK p q r a b c [] st, e⟩ : MV).put (onDevs 1) (sect x) = ⟨0, 1, AK p q r a b c [⟨0, 5, sect x⟩] (st + 1)⟩ := by kernel_rfl
theorem ak_flush1 (p q r : Nat) (a b c : List UInt8) (st : Int) (e : List ER) (x : UInt8) : (⟨AK p q r a b c [⟨0, 5, sect x⟩] st, e⟩ : MV).flush = ⟨0, 3, AK p q r (sect x) b c [] (st + 1 + 1 + 1)⟩ := by kernel_rfl
theorem ak_ask2 (p q r : Nat) (a b c : List UInt8) (L : List LW) (st : Int) (e : List ER) (ao : Option Addr) (cc : Nat) (S : List UInt8) : (⟨AK p q r a b c L st, e⟩ : MV).askE (PVof ao 2 cc (onDevs 2) 1 0 S) = 0 := by kernel_rfl
theorem ak_put2 (p q r : Nat) (a b c : List UInt8) (st : Int) (e : List ER) (x : UInt8) : (⟨AK p q r a b c [] st, e⟩ : MV).put (onDevs 2) (sect x) = ⟨0, 2, AK p q r a b c [⟨0, 5, sect x⟩, ⟨1, 5, sect x⟩] (st + 1 + 1)⟩ := by kernel_rfl
theorem ak_flush2 (p q r : Nat) (a b c : List UInt8) (st : Int) (e : List ER) (x : UInt8) : (⟨AK p q r a b c [⟨0, 5, sect x⟩, ⟨1, 5, sect x⟩] st, e⟩ : MV).flush = ⟨0, 3, AK p q r (sect x) (sect x) c [] (st + 1 + 1 + 1)⟩ := by kernel_rfl
theorem ak_ask3 (p q r : Nat) (a b c : List UInt8) (L : List LW) (st : Int) (e : List ER) (ao : Option Addr) (cc : Nat) (S : List UInt8) : (⟨AK p q r a b c L st, e⟩ : MV).askE (PVof ao 3 cc (onDevs 3) 1 0 S) = 0 := by kernel_rfl
theorem ak_put3 (p q r : Nat) (a b c : List UInt8) (st : Int) (e : List ER) (x : UInt8) : (⟨AK p q r a b c [] st, e⟩ : MV).put (onDevs 3) (sect x) = ⟨0, 3, AK p q r a b c [⟨0, 5, sect x⟩, ⟨1, 5, sect x⟩, ⟨2, 5, sect x⟩] (st + 1 + 1 + 1)⟩ := by kernel_rfl
theorem ak_flush3 (p q r : Nat) (a b c : List UInt8) (st : Int) (e : List ER) (x : UInt8) : (⟨AK p q r a b c [⟨0, 5, sect x⟩, ⟨1, 5, sect x⟩, ⟨2, 5, sect x⟩] st, e⟩ : MV).flush = ⟨0, 3, AK p q r (sect x) (sect x) (sect x) [] (st + 1 + 1 + 1)⟩ := by kernel_rfl
theorem kind_good {m : MV} {dev pl : Int} {S : List UInt8} (h1 : m.a.readE dev pl = 0) (h2 : sumB (m.a.readB dev pl) = S) : m.kind dev pl S = 0 := by
  unfold MV.kind
  rw [h1, if_neg (by decide), if_neg (by simp), if_pos h2]
theorem kind_ill {m : MV} {dev pl : Int} {S : List UInt8} (h1 : m.a.readE dev pl = 0) (h2 : sumB (m.a.readB dev pl) ≠ S) : m.kind dev pl S = 1 := by
  unfold MV.kind
  rw [h1, if_neg (by decide), if_neg (by simp), if_neg h2]
theorem lookd_good {m : MV} {dev pl : Int} {S : List UInt8} (h1 : m.a.readE dev pl = 0) (h2 : sumB (m.a.readB dev pl) = S) (h3 : m.a.read dev pl = m.a) : m.looked dev pl S = m := by
  unfold MV.looked
  rw [kind_good h1 h2, h1, if_neg (by decide), if_neg (by decide), h3]
theorem lookd_ill {m : MV} {dev pl : Int} {S : List UInt8} (h1 : m.a.readE dev pl = 0) (h2 : sumB (m.a.readB dev pl) ≠ S) (h3 : m.a.read dev pl = m.a) : m.looked dev pl S = ⟨m.a, m.e.modify dev.toNat fSm⟩ := by
  unfold MV.looked
  rw [kind_ill h1 h2, h1, if_neg (by decide), if_pos rfl, h3]
theorem found_hit {m : MV} {S : List UInt8} {but : Int} {x : Int × Int} {l ill : List (Int × Int)} (hb : x.1 ≠ but) (h1 : m.a.readE x.1 x.2 = 0) (h2 : sumB (m.a.readB x.1 x.2) = S) (h3 : m.a.read x.1 x.2 = m.a) : found S but m (x :: l) ill = ⟨0, m.a.readB x.1 x.2, ill, m⟩ := by
  conv => lhs; unfold found
  rw [if_neg hb, if_pos (kind_good h1 h2), lookd_good h1 h2 h3]
  unfold MV.lookB
  rw [if_pos (kind_good h1 h2)]
theorem found_miss {m : MV} {S : List UInt8} {but : Int} {x : Int × Int} {l ill : List (Int × Int)} (hb : x.1 ≠ but) (h1 : m.a.readE x.1 x.2 = 0) (h2 : sumB (m.a.readB x.1 x.2) ≠ S) (h3 : m.a.read x.1 x.2 = m.a) : found S but m (x :: l) ill = found S but ⟨m.a, m.e.modify x.1.toNat fSm⟩ l (ill ++ [x]) := by
  conv => lhs; unfold found
  rw [if_neg hb, kind_ill h1 h2, if_neg (by decide), if_pos rfl, lookd_ill h1 h2 h3]
theorem get_eq {m m' : MV} {P : PV} {B : List UInt8} {ill : List (Int × Int)} (ha : m.askE P = 0) (hf : found P.S (-1) m P.l [] = ⟨0, B, ill, m'⟩) : m.get P = ⟨0, B, m'.heals ill B⟩ := by
  unfold MV.get
  rw [ha, if_neg (by simp), hf, if_neg (by simp)]
def spo (s : List UInt8) (place : Nat) (m : UInt8) : List UInt8 := s.set place (s.getD place 0 ^^^ m)
def W2 (p q r : Nat) : MV := ⟨AK p q r (sect 2) (sect 2) (sect 0) [] 5, zeroE⟩
def W3 (p q r : Nat) : MV := ⟨AK p q r (spo (sect 2) 0 1) (sect 2) (sect 0) [] 5, zeroE⟩
def W4 (p q r : Nat) : MV := ⟨AK p q r (spo (sect 2) 0 1) (sect 2) (sect 0) [⟨0, 5, sect 2⟩] 6, [⟨0, 1, 1⟩, ⟨0, 0, 0⟩, ⟨0, 0, 0⟩, ⟨0, 0, 0⟩, ⟨0, 0, 0⟩, ⟨0, 0, 0⟩, ⟨0, 0, 0⟩, ⟨0, 0, 0⟩]⟩
theorem spo_bad : sumB (spo (sect 2) 0 1) ≠ sumB (sect 2) := by decide +kernel
theorem w2_get (p q r : Nat) (ao : Option Addr) (c : Nat) {S : List UInt8} (hS : sumB (sect 2) = S) : (W2 p q r).get (PVof ao 2 c (onDevs 2) 1 0 S) = ⟨0, sect 2, W2 p q r⟩ :=
  get_eq (ak_ask2 ..) (found_hit (x := (0, 5)) (l := [(1, 5)]) (by decide) (ak_rE0 ..) ((congrArg sumB (show (W2 p q r).a.readB 0 5 = sect 2 from ak_rB0 ..)).trans hS) (ak_rd0 ..))
theorem w2_spoil (p q r : Nat) : (W2 p q r).a.spoil 0 5 0 1 = (W3 p q r).a := by kernel_rfl
theorem w2_spoilE (p q r : Nat) : (W2 p q r).a.spoilE 0 5 0 = 0 := by kernel_rfl
theorem w3_get (p q r : Nat) (ao : Option Addr) (c : Nat) {S : List UInt8} (hS : sumB (sect 2) = S) : (W3 p q r).get (PVof ao 2 c (onDevs 2) 1 0 S) = ⟨0, sect 2, W4 p q r⟩ := by
  have h1 : found S (-1) (W3 p q r) (onDevs 2) [] = ⟨0, sect 2, [(0, 5)], ⟨(W3 p q r).a, (W3 p q r).e.modify 0 fSm⟩⟩ := by
    refine (found_miss (x := (0, 5)) (l := [(1, 5)]) (by decide) (ak_rE0 ..) (by rw [show (W3 p q r).a.readB 0 5 = spo (sect 2) 0 1 from ak_rB0 .., ← hS]; exact spo_bad) (ak_rd0 ..)).trans ?_
    exact found_hit (x := (1, 5)) (l := []) (by decide) (ak_rE1 ..) ((congrArg sumB (show (W3 p q r).a.readB 1 5 = sect 2 from ak_rB1 ..)).trans hS) (ak_rd1 ..)
  refine (get_eq (ak_ask2 ..) h1).trans ?_
  kernel_rfl
theorem w4_rE (p q r : Nat) : (W4 p q r).a.readE 0 5 = 0 := ak_rE0 ..
theorem w4_rB (p q r : Nat) : (W4 p q r).a.readB 0 5 = sect 2 := by kernel_rfl
theorem w4_rd (p q r : Nat) : (W4 p q r).a.read 0 5 = (W4 p q r).a := ak_rd0 ..
theorem w4_e0 (p q r : Nat) : (W4 p q r).errs 0 = ⟨0, 1, 1⟩ := by kernel_rfl
theorem w4_e1 (p q r : Nat) : (W4 p q r).errs 1 = ⟨0, 0, 0⟩ := by kernel_rfl
end Go.Proofs.Ytmdfbdfijnmhkaa
namespace Go.Proofs.Ytmdfbdfijnmhkaa
set_option linter.unusedVariables false
set_option linter.unusedSimpArgs false
open Go.RowKit
namespace Hp
variable {P : Program}
theorem eqFields_ints {w : World} {q : IntKind} (d : Nat) (l k : List Int) : ∀ (fs : List Field) (s : Nat), (∀ i f, fs[i]? = some f → f.name ≠ "_" ∧ f.offset = s + i ∧ ∃ c, P.underlying f.type = some (.int c)) → l.length = s + fs.length → k.length = s + fs.length →
    (Op.eqFields (d + 1) (intsV q l).toArray (intsV q k).toArray fs).run P w = .ok (l.drop s == k.drop s) w
  | [], s, _, h1, h2 => by
    rw [List.drop_of_length_le (by simp at h1; omega), List.drop_of_length_le (by simp at h2; omega)]
    simp [Op.eqFields]
  | f :: fs, s, hall, h1, h2 => by
    obtain ⟨n1, o1, c, u1⟩ := hall 0 f rfl
    have ih := eqFields_ints (w := w) (q := q) d l k fs (s + 1) (fun i g hg => by
      have := hall (i + 1) g (by simpa using hg)
      rw [show s + 1 + i = s + (i + 1) by omega]; exact this) (by simp at h1; omega) (by simp at h2; omega)
    have hs1 : s < l.length := by simp at h1; omega
    have hs2 : s < k.length := by simp at h2; omega
    have hl : l.drop s = l.getD s 0 :: l.drop (s + 1) := by rw [List.drop_eq_getElem_cons hs1]; simp [List.getD, hs1]
    have hk : k.drop s = k.getD s 0 :: k.drop (s + 1) := by rw [List.drop_eq_getElem_cons hs2]; simp [List.getD, hs2]
    have hp : ∀ u : List Int, s < u.length → (part f.type (intsV q u).toArray s).run P w = .ok (.int q (u.getD s 0)) w := fun u hu =>
      run_part_int u1 (by simp [intsV, List.getD, hu])
    rw [hl, hk]
    simp only [Op.eqFields, n1, ne_eq, not_false_eq_true, if_true, Sem.run_bind, o1, Nat.add_zero, hp l hs1, hp k hs2, Result.andThen_ok, run_equalIn_int w d f.type q c _ _ u1]
    rw [List.cons_beq_cons]
    cases hb : (l.getD s 0 == k.getD s 0)
    · simp
    · simp [ih]
def siok (P : Program) (T : TypeId) (n : Nat) : Bool := match P.underlying T with
  | some (.struct fs) => fs.toList.length == n && ((List.range n).all (fun i => match fs.toList[i]? with
    | some f => f.name != "_" && f.offset == i && (match P.underlying f.type with | some (.int _) => true | _ => false)
    | none => false)) && !(P.stoodInHeld T) && !(P.eqGuardType P.depth T)
  | _ => false
class TySI (P : Program) (T : TypeId) (n : outParam Nat) : Prop where
  out : siok P T n = true
theorem si_spec {T : TypeId} {n : Nat} (h : siok P T n = true) : P.underlying T = some (.struct (P.fieldsOf T)) ∧ (P.fieldsOf T).toList.length = n ∧ (∀ i f, (P.fieldsOf T).toList[i]? = some f → f.name ≠ "_" ∧ f.offset = 0 + i ∧ ∃ c, P.underlying f.type = some (.int c)) ∧ P.stoodInHeld T = false ∧ P.eqGuardType P.depth T = false := by
  unfold siok at h
  cases hu : P.underlying T with
  | none => simp [hu] at h
  | some d =>
    cases d with
    | struct fs =>
      have hf : P.fieldsOf T = fs := by simp [Program.fieldsOf, hu]
      simp only [hu] at h
      rw [hf]
      simp only [Bool.and_eq_true, beq_iff_eq, Bool.not_eq_true'] at h
      obtain ⟨⟨⟨h1, h2⟩, h3⟩, h4⟩ := h
      refine ⟨rfl, h1, fun i f hi => ?_, h3, h4⟩
      have hlt := (List.getElem?_eq_some_iff.1 hi).1
      have := List.all_eq_true.1 h2 i (by rw [List.mem_range]; omega)
      rw [hi] at this
      simp only [Bool.and_eq_true, bne_iff_ne, ne_eq, beq_iff_eq] at this
      refine ⟨this.1.1, by omega, ?_⟩
      cases hk : P.underlying f.type with
      | none => simp [hk] at this
      | some q => cases q <;> first | (simp [hk] at this; done) | exact ⟨_, rfl⟩
    | _ => simp [hu] at h
theorem run_eqlSI {w : World} {T : TypeId} {n : Nat} {q : IntKind} [h : TySI P T n] (l k : List Int) (hl : l.length = n) (hk : k.length = n) :
    (binOp .eql T (.agg (intsV q l).toArray) (.agg (intsV q k).toArray)).run P w = .ok (.bool (l == k)) w := by
  obtain ⟨hu, h1, h2, h3, _⟩ := si_spec h.out
  rw [run_eql_struct, show (10000 : Nat) = 9999 + 1 from rfl, run_equalIn_struct w 9999 T _ _ hu h3, eqFields_ints 9998 l k _ 0 h2 (by omega) (by omega)]
  rfl
theorem run_guardSI {w : World} {T : TypeId} {n : Nat} [h : TySI P T n] (op : BinOp) (x y : Operand) (xs ys : Array Value) : (eqGuard op T x y (.agg xs) (.agg ys)).run P w = .ok () w := by
  obtain ⟨hu, h1, h2, h3, hg⟩ := si_spec h.out
  unfold eqGuard
  cases op <;> simp [Sem.run_bind, hg]
end Hp
end Go.Proofs.Ytmdfbdfijnmhkaa
namespace Go.Proofs.Ytmdfbdfijnmhkaa
set_option linter.unusedVariables false
set_option linter.unusedSimpArgs false
open Go.RowKit Hp
attribute [local irreducible] Go.Calls Go.wpList
set_option maxRecDepth 100000
set_option maxHeartbeats 8000000
theorem gb_sect {w0 : World} {M : List Nat} {R : List HA} {g : Nat} {b : UInt8} (hm : HA.blk g 5 (bytesV (sect b)) ∈ R) : GB w0 M R (.slice (some ⟨g, 0, none⟩) 256 256) 256 (sect b) :=
  GB.blk hm (sect_len b) (List.take_of_length_le (by rw [sect_len]; exact Nat.le_refl _)) (Nat.le_refl _) (by decide)
theorem dk_fine {g : Nat} {s : List UInt8} (h : s.length = 256) : (dk g s).Fine 8 := by
  refine ⟨rfl, fun t ht => ?_, (fun h => by cases h), Int.le_refl _, by show (0 : Int) ≤ _; decide⟩
  have h0 := sect_len 0
  simp only [dk, List.mem_cons, List.not_mem_nil, or_false] at ht
  rcases ht with rfl | rfl | rfl | rfl | rfl | rfl | rfl | rfl <;> assumption
theorem ak_ok {p q r : Nat} {a b c : List UInt8} {L : List LW} {st : Int} (ha : a.length = 256) (hb : b.length = 256) (hc : c.length = 256) (hL : ∀ w ∈ L, w.dev < 3 ∧ w.pl < 8 ∧ w.b.length = 256) : (AK p q r a b c L st).Ok := by
  refine ⟨(fun h => by cases h), by show 3 ≤ 8; decide, by show 8 ≤ 4096; decide, fun d hd => ?_, hL, ⟨Int.le_refl _, by show (-1 : Int) ≤ _; decide⟩⟩
  simp only [AK, List.mem_cons, List.not_mem_nil, or_false] at hd
  rcases hd with rfl | rfl | rfl
  · exact dk_fine ha
  · exact dk_fine hb
  · exact dk_fine hc
theorem ak_good {p q r : Nat} {a b c : List UInt8} {L : List LW} {st : Int} {e : List ER} {N : Nat} (ha : a.length = 256) (hb : b.length = 256) (hc : c.length = 256) (hL : ∀ w ∈ L, w.dev < 3 ∧ w.pl < 8 ∧ w.b.length = 256) (hs : 0 ≤ st ∧ st ≤ (N : Int)) (hl : L.length ≤ N) (he : e.length = 8) (hn : ∀ x ∈ e, 0 ≤ x.rd ∧ x.rd ≤ N ∧ 0 ≤ x.sm ∧ x.sm ≤ N ∧ 0 ≤ x.he ∧ x.he ≤ N) : MGood ⟨AK p q r a b c L st, e⟩ N :=
  ⟨⟨ak_ok ha hb hc hL, by show 8 ≤ 8; decide, hs, hl⟩, he, hn⟩
theorem spo_len {s : List UInt8} {k : Nat} {m : UInt8} (h : s.length = 256) : (spo s k m).length = 256 := by unfold spo; rw [List.length_set, h]
theorem zeroE_ok (N : Nat) : ∀ x ∈ zeroE, 0 ≤ x.rd ∧ x.rd ≤ N ∧ 0 ≤ x.sm ∧ x.sm ≤ N ∧ 0 ≤ x.he ∧ x.he ≤ N := by
  intro x hx
  rw [List.eq_of_mem_replicate hx]
  exact ⟨Int.le_refl _, Int.natCast_nonneg _, Int.le_refl _, Int.natCast_nonneg _, Int.le_refl _, Int.natCast_nonneg _⟩
def W0 (p q r : Nat) : MV := ⟨AK p q r (sect 0) (sect 0) (sect 0) [] 0, zeroE⟩
theorem w0_good (p q r : Nat) : MGood (W0 p q r) 10 := ak_good (sect_len _) (sect_len _) (sect_len _) (by simp) (by decide) (by decide) rfl (zeroE_ok _)
theorem w2_good (p q r : Nat) : MGood (W2 p q r) 10 := ak_good (sect_len _) (sect_len _) (sect_len _) (by simp) (by decide) (by decide) rfl (zeroE_ok _)
theorem w3_good (p q r : Nat) : MGood (W3 p q r) 10 := ak_good (spo_len (sect_len _)) (sect_len _) (sect_len _) (by simp) (by decide) (by decide) rfl (zeroE_ok _)
theorem w4_good (p q r : Nat) : MGood (W4 p q r) 10 := ak_good (spo_len (sect_len _)) (sect_len _) (sect_len _) (by intro w hw; rw [List.mem_singleton.1 hw]; exact ⟨by decide, by decide, sect_len _⟩) (by decide) (by decide) rfl (by
  intro x hx
  simp only [List.mem_cons, List.not_mem_nil, or_false] at hx
  rcases hx with rfl | rfl | rfl | rfl | rfl | rfl | rfl | rfl <;> decide)
instance sI16e : TySI Try.prog 53 3 := ⟨by kernel_rfl⟩
theorem eqlErr (a b c a' b' c' : Int) (w : World) : (binOp .eql 53 (.agg #[.int .i64 a, .int .i64 b, .int .i64 c]) (.agg #[.int .i64 a', .int .i64 b', .int .i64 c'])).run Try.prog w = .ok (.bool (([a, b, c] : List Int) == [a', b', c'])) w := run_eqlSI (P := Try.prog) (T := 53) (q := .i64) [a, b, c] [a', b', c'] rfl rfl
theorem guardErr (op : BinOp) (x y : Operand) (xs ys : Array Value) (w : World) : (eqGuard op 53 x y (.agg xs) (.agg ys)).run Try.prog w = .ok () w := run_guardSI op x y xs ys
section
attribute [local go_sem ↓] loadedPt storedPt eqlErr guardErr
theorem awake16_any (w : World) : Calls Try.prog 5 #[] w fun e w' => e = .returned (.bool true) ∧ St w [] w' [] := by
  have hst := St.refl w
  obtain ⟨S, hS⟩ : ∃ S, S = sumB (sect 2) := ⟨_, rfl⟩
  have HS := hid hS.symm
  have HL := hid (show L32 S from by rw [hS]; exact length_bytesS _)
  clear hS
  go_enter Try.func5, Try.ntmps5
  go_wp2_with (first | go_big_skip | go_big_guard | (go_at_call 6; refine (made16_any _).mono ?_; rintro _ _ ⟨gm, ga, x0, gs, rfl, hg, h4⟩; obtain ⟨p, q, r, rfl⟩ : ∃ p q r, gs = [p, q, r] := (match gs, hg with | [p, q, r], _ => ⟨p, q, r, rfl⟩); have hm0 : St w [] _ (mP gm ga x0 (W0 p q r) ++ []) := (by have h5 := St.call hst h4; rw [newA_ak] at h5; exact h5); clear h4 hg hst; unfold PM))
  go_wp2_with (first | go_big_skip | go_big_guard | (go_at_call 8; refine (of16_any 2 _).mono ?_; rintro _ _ ⟨gb, rfl, h4⟩; have hm1 := St.behind (A := (mP gm ga x0 (W0 p q r))) (St.call hm0 h4); clear h4 hm0) | (go_at_call 9; have HC := points_any hm1 (some ⟨gb, 0, none⟩) 256 256 (sect 2) (gb_sect (List.mem_append_right _ (.head _))).rd (sect_len _) (by decide) 2 (by omega); rw [HS.out] at HC; refine HC.mono ?_; clear HC; rintro _ _ ⟨sa, sc, rfl, h4⟩; have hm2 := St.behind (A := (mP gm ga x0 (W0 p q r))) h4; clear h4 hm1) | (refine wl_alloc (T := 36) hm2 rfl rfl ?_; intro gp _ hm3; clear hm2) | (refine wl_storeA [] hm3 rfl rfl rfl rfl (ptr_len HL.out _ _ _) (ptr_ones _ _ _ _ _ _) (ptr_len L32.nones _ _ _) ?_; intro _ hm4; clear hm3; have hm5 := St.behind (A := (mP gm ga x0 (W0 p q r))) hm4; clear hm4))
  have hX := hm5.drew
  clear hm5
  refine wp_region_held_drew (S := (fun w' => (loadVarH 36 ⟨gp, 0, none⟩).run Try.prog w' = .ok (.agg (List.toArray (ptrCells (.slice sa 2 sc) 1 0 S))) w')) (by kernel_rfl) (by exact Loads.blkA (P := Try.prog) (T := 36) (vs := (ptrCells (.slice sa 2 sc) 1 0 S)) hX (by rw [ptr_len HL.out]; exact TyA.out) (List.mem_append_right _ (.head _)) (ptr_all _ _ _ _)) (fun hHeld => ?_)
  refine wpAnyH_take (i := 0) (oi := ⟨some 18, _, _, _, _, _⟩) (v := ?_) rfl (by kernel_rfl) (by kernel_rfl) (by kernel_rfl) (fun _ _ _ h => h) (Or.inl ⟨by rfl, ?_⟩) (by assumption) ?_
  rotate_left
  · intro w hSw; (try dsimp only at hSw); go_simp; try with_reducible rfl
  (try simp only [Act.put, List.setIfInBounds_toArray, List.set_cons_zero, List.set_cons_succ])
  refine wpAnyH_take (i := 1) (oi := ⟨some 19, _, _, _, _, _⟩) (v := ?_) rfl (by kernel_rfl) (by kernel_rfl) (by kernel_rfl) (fun _ _ _ h => h) (Or.inl ⟨by rfl, ?_⟩) (by assumption) ?_
  rotate_left
  · intro w hSw; (try dsimp only at hSw); go_simp; try with_reducible rfl
  (try simp only [Act.put, List.setIfInBounds_toArray, List.set_cons_zero, List.set_cons_succ])
  refine wpAnyH_ready (rs := [2]) (by kernel_rfl) (by simp) ?_
  refine (AllReadyH.cons (o := ⟨some 20, _, _, _, _, _⟩) rfl (fun K hK => ?_) AllReadyH.nil)
  rw [if_pos (by rfl)]
  go_simp
  go_at_call 8
  refine (of16_any 2 _).mono ?_
  rintro _ _ ⟨g1, rfl, h4⟩
  have hm6 := St.behind (A := (mP gm ga x0 (W0 p q r))) (St.call hX h4)
  clear h4 hX
  refine hK.out _ _ ?_ (fun hHeld => ?_)
  · exact Loads.blkA (P := Try.prog) (T := 36) (vs := (ptrCells (.slice sa 2 sc) 1 0 S)) hm6 (by rw [ptr_len HL.out]; exact TyA.out) (List.mem_append_right _ (.tail _ (.head _))) (ptr_all _ _ _ _)
  clear hK K
  (try simp only [Act.put, List.setIfInBounds_toArray, List.set_cons_zero, List.set_cons_succ])
  refine wpAnyH_ready (rs := [3]) (by kernel_rfl) (by simp) ?_
  refine (AllReadyH.cons (o := ⟨some 21, _, _, _, _, _⟩) rfl (fun K hK => ?_) AllReadyH.nil)
  rw [if_pos (by rfl)]
  go_simp
  go_at_call 10
  have HC := puts_any hm6 (w0_good p q r) sa 2 sc (onDevs 2) 1 0 S HL.out (fun _ h => Rd.row h (.tail _ (.tail _ (.head _)))) (onDevs_len _) (some ⟨g1, 0, none⟩) 256 256 _ (gb_sect (.head _)) (by omega) _ _ (ak_put2 ..) (ak_flush2 ..)
  refine HC.mono ?_
  clear HC
  rintro _ _ ⟨y7, rfl, h4⟩
  have hm8 : St _ _ _ ((mP gm ga y7 (W2 p q r)) ++ _) := h4
  clear h4 hm6
  refine hK.out _ _ ?_ (fun hHeld => ?_)
  · exact Loads.blkA (P := Try.prog) (T := 36) (vs := (ptrCells (.slice sa 2 sc) 1 0 S)) hm8 (by rw [ptr_len HL.out]; exact TyA.out) (List.mem_append_right _ (.tail _ (.head _))) (ptr_all _ _ _ _)
  clear hK K
  (try simp only [Act.put, List.setIfInBounds_toArray, List.set_cons_zero, List.set_cons_succ])
  refine wpAnyH_take (i := 4) (oi := ⟨some 22, _, _, _, _, _⟩) (v := ?_) rfl (by kernel_rfl) (by kernel_rfl) (by kernel_rfl) (fun _ _ _ h => h) (Or.inl ⟨by rfl, ?_⟩) (by assumption) ?_
  rotate_left
  · intro w hSw; (try dsimp only at hSw); go_simp; try with_reducible rfl
  (try simp only [Act.put, List.setIfInBounds_toArray, List.set_cons_zero, List.set_cons_succ])
  refine wpAnyH_take (i := 5) (oi := ⟨some 23, _, _, _, _, _⟩) (v := ?_) rfl (by kernel_rfl) (by kernel_rfl) (by kernel_rfl) (fun _ _ _ h => h) (Or.inl ⟨by rfl, ?_⟩) (by assumption) ?_
  rotate_left
  · intro w hSw; (try dsimp only at hSw); go_simp; try with_reducible rfl
  (try simp only [Act.put, List.setIfInBounds_toArray, List.set_cons_zero, List.set_cons_succ])
  refine wpAnyH_take (i := 6) (oi := ⟨some 24, _, _, _, _, _⟩) (v := ?_) rfl (by kernel_rfl) (by kernel_rfl) (by kernel_rfl) (fun _ _ _ h => h) (Or.inl ⟨by rfl, ?_⟩) (by assumption) ?_
  rotate_left
  · intro w hSw; (try dsimp only at hSw); go_simp; try with_reducible rfl
  (try simp only [Act.put, List.setIfInBounds_toArray, List.set_cons_zero, List.set_cons_succ])
  refine wpAnyH_take (i := 7) (oi := ⟨some 25, _, _, _, _, _⟩) (v := ?_) rfl (by kernel_rfl) (by kernel_rfl) (by kernel_rfl) (fun _ _ _ h => h) (Or.inl ⟨by rfl, ?_⟩) (by assumption) ?_
  rotate_left
  · intro w hSw; (try dsimp only at hSw); go_simp; try with_reducible rfl
  (try simp only [Act.put, List.setIfInBounds_toArray, List.set_cons_zero, List.set_cons_succ])
  refine wpAnyH_ready (rs := [8]) (by kernel_rfl) (by simp) ?_
  refine (AllReadyH.cons (o := ⟨some 26, _, _, _, _, _⟩) rfl (fun K hK => ?_) AllReadyH.nil)
  rw [if_pos (by rfl)]
  go_simp
  go_at_call 8
  refine (of16_any 2 _).mono ?_
  rintro _ _ ⟨g2, rfl, h4⟩
  have hm9 := St.behind (A := (mP gm ga y7 (W2 p q r))) (St.call hm8 h4)
  clear h4 hm8
  refine hK.out _ _ ?_ (fun hHeld => ?_)
  · exact Loads.blkA (P := Try.prog) (T := 36) (vs := (ptrCells (.slice sa 2 sc) 1 0 S)) hm9 (by rw [ptr_len HL.out]; exact TyA.out) (List.mem_append_right _ (.tail _ (.tail _ (.head _)))) (ptr_all _ _ _ _)
  clear hK K
  (try simp only [Act.put, List.setIfInBounds_toArray, List.set_cons_zero, List.set_cons_succ])
  refine wpAnyH_ready (rs := [9]) (by kernel_rfl) (by simp) ?_
  refine (AllReadyH.cons (o := ⟨some 27, _, _, _, _, _⟩) rfl (fun K hK => ?_) AllReadyH.nil)
  rw [if_pos (by rfl)]
  go_simp
  go_at_call 24
  have HC := gets_any hm9 (w2_good p q r) sa 2 sc (onDevs 2) 1 0 S HL.out (fun _ h => Rd.row h (.tail _ (.tail _ (.tail _ (.head _))))) (onDevs_len _) (some ⟨g2, 0, none⟩) 256 256 _ (gb_sect (.head _)) (by omega) (by decide) _ (w2_get p q r _ _ HS.out)
  refine HC.mono ?_
  clear HC
  rintro _ _ ⟨y10, rfl, h4⟩
  have hm11 : St _ _ _ ((mP gm ga y10 (W2 p q r)) ++ _) := h4
  clear h4 hm9
  refine hK.out _ _ ?_ (fun hHeld => ?_)
  · exact Loads.blkA (P := Try.prog) (T := 36) (vs := (ptrCells (.slice sa 2 sc) 1 0 S)) hm11 (by rw [ptr_len HL.out]; exact TyA.out) (List.mem_append_right _ (.tail _ (.tail _ (.head _)))) (ptr_all _ _ _ _)
  clear hK K
  (try simp only [Act.put, List.setIfInBounds_toArray, List.set_cons_zero, List.set_cons_succ])
  refine wpAnyH_take (i := 10) (oi := ⟨some 28, _, _, _, _, _⟩) (v := ?_) rfl (by kernel_rfl) (by kernel_rfl) (by kernel_rfl) (fun _ _ _ h => h) (Or.inl ⟨by rfl, ?_⟩) (by assumption) ?_
  rotate_left
  · intro w hSw; (try dsimp only at hSw); go_simp; try with_reducible rfl
  (try simp only [Act.put, List.setIfInBounds_toArray, List.set_cons_zero, List.set_cons_succ])
  refine wpAnyH_take (i := 11) (oi := ⟨some 29, _, _, _, _, _⟩) (v := ?_) rfl (by kernel_rfl) (by kernel_rfl) (by kernel_rfl) (fun _ _ _ h => h) (Or.inl ⟨by rfl, ?_⟩) (by assumption) ?_
  rotate_left
  · intro w hSw; (try dsimp only at hSw); go_simp; try with_reducible rfl
  (try simp only [Act.put, List.setIfInBounds_toArray, List.set_cons_zero, List.set_cons_succ])
  refine wpAnyH_take (i := 12) (oi := ⟨some 30, _, _, _, _, _⟩) (v := ?_) rfl (by kernel_rfl) (by kernel_rfl) (by kernel_rfl) (fun _ _ _ h => h) (Or.inl ⟨by rfl, ?_⟩) (by assumption) ?_
  rotate_left
  · intro w hSw; (try dsimp only at hSw); go_simp; try with_reducible rfl
  (try simp only [Act.put, List.setIfInBounds_toArray, List.set_cons_zero, List.set_cons_succ])
  refine wpAnyH_take (i := 13) (oi := ⟨some 31, _, _, _, _, _⟩) (v := ?_) rfl (by kernel_rfl) (by kernel_rfl) (by kernel_rfl) (fun _ _ _ h => h) (Or.inl ⟨by rfl, ?_⟩) (by assumption) ?_
  rotate_left
  · intro w hSw; (try dsimp only at hSw); go_simp; try with_reducible rfl
  (try simp only [Act.put, List.setIfInBounds_toArray, List.set_cons_zero, List.set_cons_succ])
  refine wpAnyH_ready (rs := [14]) (by kernel_rfl) (by simp) ?_
  refine (AllReadyH.cons (o := ⟨some 32, _, _, _, _, _⟩) rfl (fun K hK => ?_) AllReadyH.nil)
  rw [if_pos (by rfl)]
  go_simp
  go_at_call 11
  have HC := spoilM_any (mid_in (P := [_]) (Bs := []) hm11) (w2_good p q r).sc.ok 0 5 0 1
  rw [w2_spoil, w2_spoilE] at HC
  refine HC.mono ?_
  clear HC
  rintro _ _ ⟨rfl, xs, h4⟩
  have hm12 : St _ _ _ ((mP gm ga xs (W3 p q r)) ++ _) := mid_out (P := [_]) (Bs := []) hm11 h4
  clear h4 hm11
  refine hK.out _ _ ?_ (fun hHeld => ?_)
  · exact Loads.blkA (P := Try.prog) (T := 36) (vs := (ptrCells (.slice sa 2 sc) 1 0 S)) hm12 (by rw [ptr_len HL.out]; exact TyA.out) (List.mem_append_right _ (.tail _ (.tail _ (.head _)))) (ptr_all _ _ _ _)
  clear hK K
  (try simp only [Act.put, List.setIfInBounds_toArray, List.set_cons_zero, List.set_cons_succ])
  refine wpAnyH_take (i := 15) (oi := ⟨some 33, _, _, _, _, _⟩) (v := ?_) rfl (by kernel_rfl) (by kernel_rfl) (by kernel_rfl) (fun _ _ _ h => h) (Or.inl ⟨by rfl, ?_⟩) (by assumption) ?_
  rotate_left
  · intro w hSw; (try dsimp only at hSw); go_simp; try with_reducible rfl
  (try simp only [Act.put, List.setIfInBounds_toArray, List.set_cons_zero, List.set_cons_succ])
  refine wpAnyH_take (i := 16) (oi := ⟨some 34, _, _, _, _, _⟩) (v := ?_) rfl (by kernel_rfl) (by kernel_rfl) (by kernel_rfl) (fun _ _ _ h => h) (Or.inl ⟨by rfl, ?_⟩) (by assumption) ?_
  rotate_left
  · intro w hSw; (try dsimp only at hSw); go_simp; try with_reducible rfl
  (try simp only [Act.put, List.setIfInBounds_toArray, List.set_cons_zero, List.set_cons_succ])
  refine wpAnyH_take (i := 17) (oi := ⟨some 35, _, _, _, _, _⟩) (v := ?_) rfl (by kernel_rfl) (by kernel_rfl) (by kernel_rfl) (fun _ _ _ h => h) (Or.inl ⟨by rfl, ?_⟩) (by assumption) ?_
  rotate_left
  · intro w hSw; (try dsimp only at hSw); go_simp; try with_reducible rfl
  (try simp only [Act.put, List.setIfInBounds_toArray, List.set_cons_zero, List.set_cons_succ])
  refine wpAnyH_take (i := 18) (oi := ⟨some 36, _, _, _, _, _⟩) (v := ?_) rfl (by kernel_rfl) (by kernel_rfl) (by kernel_rfl) (fun _ _ _ h => h) (Or.inl ⟨by rfl, ?_⟩) (by assumption) ?_
  rotate_left
  · intro w hSw; (try dsimp only at hSw); go_simp; try with_reducible rfl
  (try simp only [Act.put, List.setIfInBounds_toArray, List.set_cons_zero, List.set_cons_succ])
  refine wpAnyH_take (i := 19) (oi := ⟨some 37, _, _, _, _, _⟩) (v := ?_) rfl (by kernel_rfl) (by kernel_rfl) (by kernel_rfl) (fun _ _ _ h => h) (Or.inl ⟨by rfl, ?_⟩) (by assumption) ?_
  rotate_left
  · intro w hSw; (try dsimp only at hSw); go_simp; try with_reducible rfl
  (try simp only [Act.put, List.setIfInBounds_toArray, List.set_cons_zero, List.set_cons_succ])
  refine wpAnyH_ready (rs := [20]) (by kernel_rfl) (by simp) ?_
  refine (AllReadyH.cons (o := ⟨some 38, _, _, _, _, _⟩) rfl (fun K hK => ?_) AllReadyH.nil)
  rw [if_pos (by rfl)]
  go_simp
  go_at_call 8
  refine (of16_any 2 _).mono ?_
  rintro _ _ ⟨g3, rfl, h4⟩
  have hm13 := St.behind (A := (mP gm ga xs (W3 p q r))) (St.call hm12 h4)
  clear h4 hm12
  refine hK.out _ _ ?_ (fun hHeld => ?_)
  · exact Loads.blkA (P := Try.prog) (T := 36) (vs := (ptrCells (.slice sa 2 sc) 1 0 S)) hm13 (by rw [ptr_len HL.out]; exact TyA.out) (List.mem_append_right _ (.tail _ (.tail _ (.tail _ (.head _))))) (ptr_all _ _ _ _)
  clear hK K
  (try simp only [Act.put, List.setIfInBounds_toArray, List.set_cons_zero, List.set_cons_succ])
  refine wpAnyH_ready (rs := [21]) (by kernel_rfl) (by simp) ?_
  refine (AllReadyH.cons (o := ⟨some 39, _, _, _, _, _⟩) rfl (fun K hK => ?_) AllReadyH.nil)
  rw [if_pos (by rfl)]
  go_simp
  go_at_call 24
  have HC := gets_any hm13 (w3_good p q r) sa 2 sc (onDevs 2) 1 0 S HL.out (fun _ h => Rd.row h (.tail _ (.tail _ (.tail _ (.tail _ (.head _)))))) (onDevs_len _) (some ⟨g3, 0, none⟩) 256 256 _ (gb_sect (.head _)) (by omega) (by decide) _ (w3_get p q r _ _ HS.out)
  refine HC.mono ?_
  clear HC
  rintro _ _ ⟨y14, rfl, h4⟩
  have hm15 : St _ _ _ ((mP gm ga y14 (W4 p q r)) ++ _) := h4
  clear h4 hm13
  refine hK.out _ _ ?_ (fun hHeld => ?_)
  · exact Loads.blkA (P := Try.prog) (T := 36) (vs := (ptrCells (.slice sa 2 sc) 1 0 S)) hm15 (by rw [ptr_len HL.out]; exact TyA.out) (List.mem_append_right _ (.tail _ (.tail _ (.tail _ (.head _))))) (ptr_all _ _ _ _)
  clear hK K
  (try simp only [Act.put, List.setIfInBounds_toArray, List.set_cons_zero, List.set_cons_succ])
  refine wpAnyH_take (i := 22) (oi := ⟨some 40, _, _, _, _, _⟩) (v := ?_) rfl (by kernel_rfl) (by kernel_rfl) (by kernel_rfl) (fun _ _ _ h => h) (Or.inl ⟨by rfl, ?_⟩) (by assumption) ?_
  rotate_left
  · intro w hSw; (try dsimp only at hSw); go_simp; try with_reducible rfl
  (try simp only [Act.put, List.setIfInBounds_toArray, List.set_cons_zero, List.set_cons_succ])
  refine wpAnyH_take (i := 23) (oi := ⟨some 41, _, _, _, _, _⟩) (v := ?_) rfl (by kernel_rfl) (by kernel_rfl) (by kernel_rfl) (fun _ _ _ h => h) (Or.inl ⟨by rfl, ?_⟩) (by assumption) ?_
  rotate_left
  · intro w hSw; (try dsimp only at hSw); go_simp; try with_reducible rfl
  (try simp only [Act.put, List.setIfInBounds_toArray, List.set_cons_zero, List.set_cons_succ])
  refine wpAnyH_done (by kernel_rfl) ?_ _
  clear hHeld
  go_wp2_with (first | go_big_skip | go_big_guard | (go_at_call 25; have HC := readM_any (mid_in (P := [_]) (Bs := []) hm15) (w4_good p q r).sc.ok (Nat.lt_of_le_of_lt (w4_good p q r).sc.ll (by decide)) 0 5; rw [w4_rE, w4_rB, w4_rd] at HC; refine HC.mono ?_; clear HC; rintro _ _ ⟨u, rfl, h4⟩; have hm16 := St.behind (A := (mP gm ga y14 (W4 p q r))) (mid_outp (Q := [_]) (P := [_]) (Bs := []) hm15 h4); clear h4 hm15) | (go_at_call 8; refine (of16_any 2 _).mono ?_; rintro _ _ ⟨g4, rfl, h4⟩; have hm17 := St.behind (A := (mP gm ga y14 (W4 p q r))) (St.call hm16 h4); clear h4 hm16) | (go_at_call 13; have HC := sameBytes_any _ _ _ _ (sect 2) (sect 2) _ (Rd.row hm17 (List.mem_append_right _ (.tail _ (.head _)))) (((gb_sect (.head _)) : GB w [] _ _ _ _).rd _ (St.sub hm17 (List.sublist_append_right _ _))); rw [beq_self_eq_true] at HC; refine HC.mono ?_; clear HC; rintro _ _ ⟨rfl, h4⟩; have hm18 := St.call0 hm17 h4; clear h4 hm17) | (go_at_call 18; have HC := errs_any hm18 (w4_good p q r) 0; rw [w4_e0] at HC; refine HC.mono ?_; clear HC; unfold ER.cells; rintro _ _ ⟨rfl, h4⟩; have hm19 := St.call0 hm18 h4; clear h4 hm18) | (refine wl_buildX (cs := [.int .i64 0, .int .i64 1, .int .i64 1]) [(1, .int .i64 1), (2, .int .i64 1)] rfl rfl (by exact rfl) (by kernel_rfl) ?_) | (refine wl_build0 rfl rfl ?_) | (go_at_call 18; have HC := errs_any hm19 (w4_good p q r) 1; rw [w4_e1] at HC; refine HC.mono ?_; clear HC; unfold ER.cells; rintro _ _ ⟨rfl, h4⟩; have hm20 := St.call0 hm19 h4; clear h4 hm19))
  go_ret
  exact ⟨rfl, hm20.nil⟩
end
end Go.Proofs.Ytmdfbdfijnmhkaa
namespace Go.Proofs.Ytmdfbdfijnmhkaa
set_option linter.unusedVariables false
set_option linter.unusedSimpArgs false
open Go.RowKit Hp
set_option maxRecDepth 100000
set_option maxHeartbeats 4000000
theorem found_hit2 {m : MV} {S T : List UInt8} {but : Int} {x : Int × Int} {l ill : List (Int × Int)} (hb : x.1 ≠ but) (h1 : m.a.readE x.1 x.2 = 0) (hT : m.a.readB x.1 x.2 = T) (h2 : sumB T = S) (h3 : m.a.read x.1 x.2 = m.a) : found S but m (x :: l) ill = ⟨0, T, ill, m⟩ := by
  subst hT
  exact found_hit hb h1 h2 h3
theorem found_miss2 {m : MV} {S T : List UInt8} {but : Int} {x : Int × Int} {l ill : List (Int × Int)} (hb : x.1 ≠ but) (h1 : m.a.readE x.1 x.2 = 0) (hT : m.a.readB x.1 x.2 = T) (h2 : sumB T ≠ S) (h3 : m.a.read x.1 x.2 = m.a) : found S but m (x :: l) ill = found S but ⟨m.a, m.e.modify x.1.toNat fSm⟩ l (ill ++ [x]) := by
  subst hT
  exact found_miss hb h1 h2 h3
theorem next_good {S T : List UInt8} {gd lo : Nat} {ill : List (Int × Int)} {cb : List UInt8} {m : MV} {x : Int × Int} (h1 : m.a.readE x.1 x.2 = 0) (hT : m.a.readB x.1 x.2 = T) (h2 : sumB T = S) (h3 : m.a.read x.1 x.2 = m.a) : CR.next S ⟨gd, lo, ill, cb, m, false⟩ x = ⟨gd + 1, lo, ill, if gd = 0 then T else cb, m, false⟩ := by
  subst hT
  have hk := kind_good h1 h2
  unfold CR.next
  rw [if_neg Bool.false_ne_true, if_pos hk, lookd_good h1 h2 h3]
  unfold MV.lookB
  rw [if_pos hk]
theorem next_ill {S T : List UInt8} {gd lo : Nat} {ill : List (Int × Int)} {cb : List UInt8} {m : MV} {x : Int × Int} (h1 : m.a.readE x.1 x.2 = 0) (hT : m.a.readB x.1 x.2 = T) (h2 : sumB T ≠ S) (h3 : m.a.read x.1 x.2 = m.a) : CR.next S ⟨gd, lo, ill, cb, m, false⟩ x = ⟨gd, lo, ill ++ [x], cb, ⟨m.a, m.e.modify x.1.toNat fSm⟩, false⟩ := by
  subst hT
  have hk := kind_ill h1 h2
  unfold CR.next
  rw [if_neg Bool.false_ne_true, hk, if_neg (by decide), if_pos rfl, lookd_ill h1 h2 h3]
theorem scan_eq {m : MV} {P : PV} {F : CR} (ha : m.askE P = 0) (hl : m.look P = F) (ho : F.out = false) : m.scan P = ⟨0, F.good, F.mend.he, F.mend.bad, F.lost, F.mend.m⟩ := by
  unfold MV.scan
  rw [ha, if_neg (by simp), hl, ho, if_neg Bool.false_ne_true]
theorem get_bad {m m' : MV} {P : PV} {e : Int} (ha : m.askE P = 0) (hf : found P.S (-1) m P.l [] = ⟨e, [], [], m'⟩) (he : e ≠ 0) : m.get P = ⟨e, [], m'⟩ := by
  unfold MV.get
  rw [ha, if_neg (by simp), hf, if_pos he]
def hsum (m : MV) (k : Nat) : Int := ((List.range k).map fun (j : Nat) => (m.errs (j : Int)).he).sum
def Healed (k : Nat) (b : List UInt8) (P : PV) (m : MV) (ill : Nat) : Prop :=
  ∃ m1 m2 g h, m.get P = ⟨0, b, m1⟩ ∧ m1.scan P = ⟨0, g, h, 0, 0, m2⟩ ∧ g + h = k ∧ m2.scan P = ⟨0, k, 0, 0, 0, m2⟩ ∧ (∀ i : Nat, i < k → m2.a.peekB i 5 = true ∧ m2.a.peekL i 5 = b ∧ ((m2.errs i).he = 0 ∨ (m2.errs i).he = 1)) ∧ hsum m2 k = ill ∧ m2.a.loose.length = ill
def Spoilt (k : Nat) (P : PV) (m : MV) : Prop := ∃ m1 m2, m.get P = ⟨12, [], m1⟩ ∧ m1.scan P = ⟨0, 0, 0, k, 0, m2⟩ ∧ m2.a.loose.length = 0
theorem heal_g {p q r : Nat} {st : Int} {c : UInt8} {S : List UInt8} {ao : Option Addr} {cc : Nat} (hS : sumB (sect c) = S)  : Healed 1 (sect c) (PVof ao 1 cc (onDevs 1) 1 0 S) (⟨AK p q r (sect c) (sect 0) (sect 0) [] st, zeroE⟩ : MV) 0 := by
  have f1 : found S (-1) (⟨AK p q r (sect c) (sect 0) (sect 0) [] st, zeroE⟩ : MV) (onDevs 1) [] = ⟨0, sect c, [], ⟨AK p q r (sect c) (sect 0) (sect 0) [] st, zeroE⟩⟩ := by
    exact found_hit2 (x := (0, 5)) (l := []) (by decide) (ak_rE0 ..) (ak_rB0 ..) hS (ak_rd0 ..)
  have g1 : (⟨AK p q r (sect c) (sect 0) (sect 0) [] st, zeroE⟩ : MV).get (PVof ao 1 cc (onDevs 1) 1 0 S) = ⟨0, sect c, ⟨(AK p q r (sect c) (sect 0) (sect 0) [] (st)), [⟨0, 0, 0⟩, ⟨0, 0, 0⟩, ⟨0, 0, 0⟩, ⟨0, 0, 0⟩, ⟨0, 0, 0⟩, ⟨0, 0, 0⟩, ⟨0, 0, 0⟩, ⟨0, 0, 0⟩]⟩⟩ := (get_eq (ak_ask1 ..) f1).trans (by kernel_rfl)
  have l1 : (⟨(AK p q r (sect c) (sect 0) (sect 0) [] (st)), [⟨0, 0, 0⟩, ⟨0, 0, 0⟩, ⟨0, 0, 0⟩, ⟨0, 0, 0⟩, ⟨0, 0, 0⟩, ⟨0, 0, 0⟩, ⟨0, 0, 0⟩, ⟨0, 0, 0⟩]⟩ : MV).look (PVof ao 1 cc (onDevs 1) 1 0 S) = ⟨1, 0, [], sect c, ⟨(AK p q r (sect c) (sect 0) (sect 0) [] (st)), ([⟨0, 0, 0⟩, ⟨0, 0, 0⟩, ⟨0, 0, 0⟩, ⟨0, 0, 0⟩, ⟨0, 0, 0⟩, ⟨0, 0, 0⟩, ⟨0, 0, 0⟩, ⟨0, 0, 0⟩] : List ER)⟩, false⟩ := by
    unfold MV.look
    show List.foldl (CR.next S) ⟨0, 0, [], [], _, false⟩ [(0, 5)] = _
    rw [List.foldl_cons, next_good (x := (0, 5)) (T := (sect c)) (ak_rE0 ..) (ak_rB0 ..) hS (ak_rd0 ..)]
    kernel_rfl
  have s1 : (⟨(AK p q r (sect c) (sect 0) (sect 0) [] (st)), [⟨0, 0, 0⟩, ⟨0, 0, 0⟩, ⟨0, 0, 0⟩, ⟨0, 0, 0⟩, ⟨0, 0, 0⟩, ⟨0, 0, 0⟩, ⟨0, 0, 0⟩, ⟨0, 0, 0⟩]⟩ : MV).scan (PVof ao 1 cc (onDevs 1) 1 0 S) = ⟨0, 1, 0, 0, 0, ⟨(AK p q r (sect c) (sect 0) (sect 0) [] (st)), [⟨0, 0, 0⟩, ⟨0, 0, 0⟩, ⟨0, 0, 0⟩, ⟨0, 0, 0⟩, ⟨0, 0, 0⟩, ⟨0, 0, 0⟩, ⟨0, 0, 0⟩, ⟨0, 0, 0⟩]⟩⟩ := (scan_eq (ak_ask1 ..) l1 rfl).trans (by kernel_rfl)
  have l2 : (⟨(AK p q r (sect c) (sect 0) (sect 0) [] (st)), [⟨0, 0, 0⟩, ⟨0, 0, 0⟩, ⟨0, 0, 0⟩, ⟨0, 0, 0⟩, ⟨0, 0, 0⟩, ⟨0, 0, 0⟩, ⟨0, 0, 0⟩, ⟨0, 0, 0⟩]⟩ : MV).look (PVof ao 1 cc (onDevs 1) 1 0 S) = ⟨1, 0, [], sect c, ⟨(AK p q r (sect c) (sect 0) (sect 0) [] (st)), ([⟨0, 0, 0⟩, ⟨0, 0, 0⟩, ⟨0, 0, 0⟩, ⟨0, 0, 0⟩, ⟨0, 0, 0⟩, ⟨0, 0, 0⟩, ⟨0, 0, 0⟩, ⟨0, 0, 0⟩] : List ER)⟩, false⟩ := by
    unfold MV.look
    show List.foldl (CR.next S) ⟨0, 0, [], [], _, false⟩ [(0, 5)] = _
    rw [List.foldl_cons, next_good (x := (0, 5)) (T := (sect c)) (ak_rE0 ..) (ak_rB0 ..) hS (ak_rd0 ..)]
    kernel_rfl
  have s2 : (⟨(AK p q r (sect c) (sect 0) (sect 0) [] (st)), [⟨0, 0, 0⟩, ⟨0, 0, 0⟩, ⟨0, 0, 0⟩, ⟨0, 0, 0⟩, ⟨0, 0, 0⟩, ⟨0, 0, 0⟩, ⟨0, 0, 0⟩, ⟨0, 0, 0⟩]⟩ : MV).scan (PVof ao 1 cc (onDevs 1) 1 0 S) = ⟨0, 1, 0, 0, 0, ⟨(AK p q r (sect c) (sect 0) (sect 0) [] (st)), [⟨0, 0, 0⟩, ⟨0, 0, 0⟩, ⟨0, 0, 0⟩, ⟨0, 0, 0⟩, ⟨0, 0, 0⟩, ⟨0, 0, 0⟩, ⟨0, 0, 0⟩, ⟨0, 0, 0⟩]⟩⟩ := (scan_eq (ak_ask1 ..) l2 rfl).trans (by kernel_rfl)
  refine ⟨_, _, _, _, g1, s1, rfl, s2, fun i hi => ?_, by kernel_rfl, by kernel_rfl⟩
  rcases (by omega : i = 0) with rfl
  · exact ⟨by kernel_rfl, by kernel_rfl, .inl (by kernel_rfl)⟩
theorem spoilt_i {p q r : Nat} {st : Int} {S : List UInt8} {ao : Option Addr} {cc : Nat} {t0 : List UInt8} (h0 : sumB t0 ≠ S) : Spoilt 1 (PVof ao 1 cc (onDevs 1) 1 0 S) (⟨AK p q r t0 (sect 0) (sect 0) [] st, zeroE⟩ : MV) := by
  have f1 : found S (-1) (⟨AK p q r t0 (sect 0) (sect 0) [] st, zeroE⟩ : MV) (onDevs 1) [] = ⟨12, [], [], ⟨AK p q r t0 (sect 0) (sect 0) [] st, (zeroE.modify (0 : Int).toNat fSm)⟩⟩ := by
    refine (found_miss2 (x := (0, 5)) (l := []) (by decide) (ak_rE0 ..) (ak_rB0 ..) h0 (ak_rd0 ..)).trans ?_
    rfl
  have g1 := get_bad (P := (PVof ao 1 cc (onDevs 1) 1 0 S)) (ak_ask1 ..) f1 (by decide)
  have l1 : (⟨AK p q r t0 (sect 0) (sect 0) [] st, (zeroE.modify (0 : Int).toNat fSm)⟩ : MV).look (PVof ao 1 cc (onDevs 1) 1 0 S) = ⟨0, 0, [(0, 5)], [], ⟨AK p q r t0 (sect 0) (sect 0) [] st, ((zeroE.modify (0 : Int).toNat fSm).modify (0 : Int).toNat fSm)⟩, false⟩ := by
    unfold MV.look
    show List.foldl (CR.next S) ⟨0, 0, [], [], _, false⟩ [(0, 5)] = _
    rw [List.foldl_cons, next_ill (x := (0, 5)) (T := t0) (ak_rE0 ..) (ak_rB0 ..) h0 (ak_rd0 ..)]
    kernel_rfl
  have s1 := scan_eq (ak_ask1 ..) l1 rfl
  exact ⟨_, _, g1, s1, by kernel_rfl⟩
theorem heal_gg {p q r : Nat} {st : Int} {c : UInt8} {S : List UInt8} {ao : Option Addr} {cc : Nat} (hS : sumB (sect c) = S)  : Healed 2 (sect c) (PVof ao 2 cc (onDevs 2) 1 0 S) (⟨AK p q r (sect c) (sect c) (sect 0) [] st, zeroE⟩ : MV) 0 := by
  have f1 : found S (-1) (⟨AK p q r (sect c) (sect c) (sect 0) [] st, zeroE⟩ : MV) (onDevs 2) [] = ⟨0, sect c, [], ⟨AK p q r (sect c) (sect c) (sect 0) [] st, zeroE⟩⟩ := by
    exact found_hit2 (x := (0, 5)) (l := [(1, 5)]) (by decide) (ak_rE0 ..) (ak_rB0 ..) hS (ak_rd0 ..)
  have g1 : (⟨AK p q r (sect c) (sect c) (sect 0) [] st, zeroE⟩ : MV).get (PVof ao 2 cc (onDevs 2) 1 0 S) = ⟨0, sect c, ⟨(AK p q r (sect c) (sect c) (sect 0) [] (st)), [⟨0, 0, 0⟩, ⟨0, 0, 0⟩, ⟨0, 0, 0⟩, ⟨0, 0, 0⟩, ⟨0, 0, 0⟩, ⟨0, 0, 0⟩, ⟨0, 0, 0⟩, ⟨0, 0, 0⟩]⟩⟩ := (get_eq (ak_ask2 ..) f1).trans (by kernel_rfl)
  have l1 : (⟨(AK p q r (sect c) (sect c) (sect 0) [] (st)), [⟨0, 0, 0⟩, ⟨0, 0, 0⟩, ⟨0, 0, 0⟩, ⟨0, 0, 0⟩, ⟨0, 0, 0⟩, ⟨0, 0, 0⟩, ⟨0, 0, 0⟩, ⟨0, 0, 0⟩]⟩ : MV).look (PVof ao 2 cc (onDevs 2) 1 0 S) = ⟨2, 0, [], sect c, ⟨(AK p q r (sect c) (sect c) (sect 0) [] (st)), ([⟨0, 0, 0⟩, ⟨0, 0, 0⟩, ⟨0, 0, 0⟩, ⟨0, 0, 0⟩, ⟨0, 0, 0⟩, ⟨0, 0, 0⟩, ⟨0, 0, 0⟩, ⟨0, 0, 0⟩] : List ER)⟩, false⟩ := by
    unfold MV.look
    show List.foldl (CR.next S) ⟨0, 0, [], [], _, false⟩ [(0, 5), (1, 5)] = _
    rw [List.foldl_cons, next_good (x := (0, 5)) (T := (sect c)) (ak_rE0 ..) (ak_rB0 ..) hS (ak_rd0 ..)]
    rw [List.foldl_cons, next_good (x := (1, 5)) (T := (sect c)) (ak_rE1 ..) (ak_rB1 ..) hS (ak_rd1 ..)]
    kernel_rfl
  have s1 : (⟨(AK p q r (sect c) (sect c) (sect 0) [] (st)), [⟨0, 0, 0⟩, ⟨0, 0, 0⟩, ⟨0, 0, 0⟩, ⟨0, 0, 0⟩, ⟨0, 0, 0⟩, ⟨0, 0, 0⟩, ⟨0, 0, 0⟩, ⟨0, 0, 0⟩]⟩ : MV).scan (PVof ao 2 cc (onDevs 2) 1 0 S) = ⟨0, 2, 0, 0, 0, ⟨(AK p q r (sect c) (sect c) (sect 0) [] (st)), [⟨0, 0, 0⟩, ⟨0, 0, 0⟩, ⟨0, 0, 0⟩, ⟨0, 0, 0⟩, ⟨0, 0, 0⟩, ⟨0, 0, 0⟩, ⟨0, 0, 0⟩, ⟨0, 0, 0⟩]⟩⟩ := (scan_eq (ak_ask2 ..) l1 rfl).trans (by kernel_rfl)
  have l2 : (⟨(AK p q r (sect c) (sect c) (sect 0) [] (st)), [⟨0, 0, 0⟩, ⟨0, 0, 0⟩, ⟨0, 0, 0⟩, ⟨0, 0, 0⟩, ⟨0, 0, 0⟩, ⟨0, 0, 0⟩, ⟨0, 0, 0⟩, ⟨0, 0, 0⟩]⟩ : MV).look (PVof ao 2 cc (onDevs 2) 1 0 S) = ⟨2, 0, [], sect c, ⟨(AK p q r (sect c) (sect c) (sect 0) [] (st)), ([⟨0, 0, 0⟩, ⟨0, 0, 0⟩, ⟨0, 0, 0⟩, ⟨0, 0, 0⟩, ⟨0, 0, 0⟩, ⟨0, 0, 0⟩, ⟨0, 0, 0⟩, ⟨0, 0, 0⟩] : List ER)⟩, false⟩ := by
    unfold MV.look
    show List.foldl (CR.next S) ⟨0, 0, [], [], _, false⟩ [(0, 5), (1, 5)] = _
    rw [List.foldl_cons, next_good (x := (0, 5)) (T := (sect c)) (ak_rE0 ..) (ak_rB0 ..) hS (ak_rd0 ..)]
    rw [List.foldl_cons, next_good (x := (1, 5)) (T := (sect c)) (ak_rE1 ..) (ak_rB1 ..) hS (ak_rd1 ..)]
    kernel_rfl
  have s2 : (⟨(AK p q r (sect c) (sect c) (sect 0) [] (st)), [⟨0, 0, 0⟩, ⟨0, 0, 0⟩, ⟨0, 0, 0⟩, ⟨0, 0, 0⟩, ⟨0, 0, 0⟩, ⟨0, 0, 0⟩, ⟨0, 0, 0⟩, ⟨0, 0, 0⟩]⟩ : MV).scan (PVof ao 2 cc (onDevs 2) 1 0 S) = ⟨0, 2, 0, 0, 0, ⟨(AK p q r (sect c) (sect c) (sect 0) [] (st)), [⟨0, 0, 0⟩, ⟨0, 0, 0⟩, ⟨0, 0, 0⟩, ⟨0, 0, 0⟩, ⟨0, 0, 0⟩, ⟨0, 0, 0⟩, ⟨0, 0, 0⟩, ⟨0, 0, 0⟩]⟩⟩ := (scan_eq (ak_ask2 ..) l2 rfl).trans (by kernel_rfl)
  refine ⟨_, _, _, _, g1, s1, rfl, s2, fun i hi => ?_, by kernel_rfl, by kernel_rfl⟩
  rcases (by omega : i = 0 ∨ i = 1) with rfl | rfl
  · exact ⟨by kernel_rfl, by kernel_rfl, .inl (by kernel_rfl)⟩
  · exact ⟨by kernel_rfl, by kernel_rfl, .inl (by kernel_rfl)⟩
theorem heal_gi {p q r : Nat} {st : Int} {c : UInt8} {S : List UInt8} {ao : Option Addr} {cc : Nat} (hS : sumB (sect c) = S) {t1 : List UInt8} (h1 : sumB t1 ≠ S) : Healed 2 (sect c) (PVof ao 2 cc (onDevs 2) 1 0 S) (⟨AK p q r (sect c) t1 (sect 0) [] st, zeroE⟩ : MV) 1 := by
  have f1 : found S (-1) (⟨AK p q r (sect c) t1 (sect 0) [] st, zeroE⟩ : MV) (onDevs 2) [] = ⟨0, sect c, [], ⟨AK p q r (sect c) t1 (sect 0) [] st, zeroE⟩⟩ := by
    exact found_hit2 (x := (0, 5)) (l := [(1, 5)]) (by decide) (ak_rE0 ..) (ak_rB0 ..) hS (ak_rd0 ..)
  have g1 : (⟨AK p q r (sect c) t1 (sect 0) [] st, zeroE⟩ : MV).get (PVof ao 2 cc (onDevs 2) 1 0 S) = ⟨0, sect c, ⟨(AK p q r (sect c) t1 (sect 0) [] (st)), [⟨0, 0, 0⟩, ⟨0, 0, 0⟩, ⟨0, 0, 0⟩, ⟨0, 0, 0⟩, ⟨0, 0, 0⟩, ⟨0, 0, 0⟩, ⟨0, 0, 0⟩, ⟨0, 0, 0⟩]⟩⟩ := (get_eq (ak_ask2 ..) f1).trans (by kernel_rfl)
  have l1 : (⟨(AK p q r (sect c) t1 (sect 0) [] (st)), [⟨0, 0, 0⟩, ⟨0, 0, 0⟩, ⟨0, 0, 0⟩, ⟨0, 0, 0⟩, ⟨0, 0, 0⟩, ⟨0, 0, 0⟩, ⟨0, 0, 0⟩, ⟨0, 0, 0⟩]⟩ : MV).look (PVof ao 2 cc (onDevs 2) 1 0 S) = ⟨1, 0, [(1, 5)], sect c, ⟨(AK p q r (sect c) t1 (sect 0) [] (st)), (([⟨0, 0, 0⟩, ⟨0, 0, 0⟩, ⟨0, 0, 0⟩, ⟨0, 0, 0⟩, ⟨0, 0, 0⟩, ⟨0, 0, 0⟩, ⟨0, 0, 0⟩, ⟨0, 0, 0⟩] : List ER).modify (1 : Int).toNat fSm)⟩, false⟩ := by
    unfold MV.look
    show List.foldl (CR.next S) ⟨0, 0, [], [], _, false⟩ [(0, 5), (1, 5)] = _
    rw [List.foldl_cons, next_good (x := (0, 5)) (T := (sect c)) (ak_rE0 ..) (ak_rB0 ..) hS (ak_rd0 ..)]
    rw [List.foldl_cons, next_ill (x := (1, 5)) (T := t1) (ak_rE1 ..) (ak_rB1 ..) h1 (ak_rd1 ..)]
    kernel_rfl
  have s1 : (⟨(AK p q r (sect c) t1 (sect 0) [] (st)), [⟨0, 0, 0⟩, ⟨0, 0, 0⟩, ⟨0, 0, 0⟩, ⟨0, 0, 0⟩, ⟨0, 0, 0⟩, ⟨0, 0, 0⟩, ⟨0, 0, 0⟩, ⟨0, 0, 0⟩]⟩ : MV).scan (PVof ao 2 cc (onDevs 2) 1 0 S) = ⟨0, 1, 1, 0, 0, ⟨(AK p q r (sect c) t1 (sect 0) [⟨1, 5, sect c⟩] (st + 1)), [⟨0, 0, 0⟩, ⟨0, 1, 1⟩, ⟨0, 0, 0⟩, ⟨0, 0, 0⟩, ⟨0, 0, 0⟩, ⟨0, 0, 0⟩, ⟨0, 0, 0⟩, ⟨0, 0, 0⟩]⟩⟩ := (scan_eq (ak_ask2 ..) l1 rfl).trans (by kernel_rfl)
  have l2 : (⟨(AK p q r (sect c) t1 (sect 0) [⟨1, 5, sect c⟩] (st + 1)), [⟨0, 0, 0⟩, ⟨0, 1, 1⟩, ⟨0, 0, 0⟩, ⟨0, 0, 0⟩, ⟨0, 0, 0⟩, ⟨0, 0, 0⟩, ⟨0, 0, 0⟩, ⟨0, 0, 0⟩]⟩ : MV).look (PVof ao 2 cc (onDevs 2) 1 0 S) = ⟨2, 0, [], sect c, ⟨(AK p q r (sect c) t1 (sect 0) [⟨1, 5, sect c⟩] (st + 1)), ([⟨0, 0, 0⟩, ⟨0, 1, 1⟩, ⟨0, 0, 0⟩, ⟨0, 0, 0⟩, ⟨0, 0, 0⟩, ⟨0, 0, 0⟩, ⟨0, 0, 0⟩, ⟨0, 0, 0⟩] : List ER)⟩, false⟩ := by
    unfold MV.look
    show List.foldl (CR.next S) ⟨0, 0, [], [], _, false⟩ [(0, 5), (1, 5)] = _
    rw [List.foldl_cons, next_good (x := (0, 5)) (T := (sect c)) (ak_rE0 ..) (by kernel_rfl) hS (ak_rd0 ..)]
    rw [List.foldl_cons, next_good (x := (1, 5)) (T := (sect c)) (ak_rE1 ..) (by kernel_rfl) hS (ak_rd1 ..)]
    kernel_rfl
  have s2 : (⟨(AK p q r (sect c) t1 (sect 0) [⟨1, 5, sect c⟩] (st + 1)), [⟨0, 0, 0⟩, ⟨0, 1, 1⟩, ⟨0, 0, 0⟩, ⟨0, 0, 0⟩, ⟨0, 0, 0⟩, ⟨0, 0, 0⟩, ⟨0, 0, 0⟩, ⟨0, 0, 0⟩]⟩ : MV).scan (PVof ao 2 cc (onDevs 2) 1 0 S) = ⟨0, 2, 0, 0, 0, ⟨(AK p q r (sect c) t1 (sect 0) [⟨1, 5, sect c⟩] (st + 1)), [⟨0, 0, 0⟩, ⟨0, 1, 1⟩, ⟨0, 0, 0⟩, ⟨0, 0, 0⟩, ⟨0, 0, 0⟩, ⟨0, 0, 0⟩, ⟨0, 0, 0⟩, ⟨0, 0, 0⟩]⟩⟩ := (scan_eq (ak_ask2 ..) l2 rfl).trans (by kernel_rfl)
  refine ⟨_, _, _, _, g1, s1, rfl, s2, fun i hi => ?_, by kernel_rfl, by kernel_rfl⟩
  rcases (by omega : i = 0 ∨ i = 1) with rfl | rfl
  · exact ⟨by kernel_rfl, by kernel_rfl, .inl (by kernel_rfl)⟩
  · exact ⟨by kernel_rfl, by kernel_rfl, .inr (by kernel_rfl)⟩
theorem heal_ig {p q r : Nat} {st : Int} {c : UInt8} {S : List UInt8} {ao : Option Addr} {cc : Nat} (hS : sumB (sect c) = S) {t0 : List UInt8} (h0 : sumB t0 ≠ S) : Healed 2 (sect c) (PVof ao 2 cc (onDevs 2) 1 0 S) (⟨AK p q r t0 (sect c) (sect 0) [] st, zeroE⟩ : MV) 1 := by
  have f1 : found S (-1) (⟨AK p q r t0 (sect c) (sect 0) [] st, zeroE⟩ : MV) (onDevs 2) [] = ⟨0, sect c, [(0, 5)], ⟨AK p q r t0 (sect c) (sect 0) [] st, (zeroE.modify (0 : Int).toNat fSm)⟩⟩ := by
    refine (found_miss2 (x := (0, 5)) (l := [(1, 5)]) (by decide) (ak_rE0 ..) (ak_rB0 ..) h0 (ak_rd0 ..)).trans ?_
    exact found_hit2 (x := (1, 5)) (l := []) (by decide) (ak_rE1 ..) (ak_rB1 ..) hS (ak_rd1 ..)
  have g1 : (⟨AK p q r t0 (sect c) (sect 0) [] st, zeroE⟩ : MV).get (PVof ao 2 cc (onDevs 2) 1 0 S) = ⟨0, sect c, ⟨(AK p q r t0 (sect c) (sect 0) [⟨0, 5, sect c⟩] (st + 1)), [⟨0, 1, 1⟩, ⟨0, 0, 0⟩, ⟨0, 0, 0⟩, ⟨0, 0, 0⟩, ⟨0, 0, 0⟩, ⟨0, 0, 0⟩, ⟨0, 0, 0⟩, ⟨0, 0, 0⟩]⟩⟩ := (get_eq (ak_ask2 ..) f1).trans (by kernel_rfl)
  have l1 : (⟨(AK p q r t0 (sect c) (sect 0) [⟨0, 5, sect c⟩] (st + 1)), [⟨0, 1, 1⟩, ⟨0, 0, 0⟩, ⟨0, 0, 0⟩, ⟨0, 0, 0⟩, ⟨0, 0, 0⟩, ⟨0, 0, 0⟩, ⟨0, 0, 0⟩, ⟨0, 0, 0⟩]⟩ : MV).look (PVof ao 2 cc (onDevs 2) 1 0 S) = ⟨2, 0, [], sect c, ⟨(AK p q r t0 (sect c) (sect 0) [⟨0, 5, sect c⟩] (st + 1)), ([⟨0, 1, 1⟩, ⟨0, 0, 0⟩, ⟨0, 0, 0⟩, ⟨0, 0, 0⟩, ⟨0, 0, 0⟩, ⟨0, 0, 0⟩, ⟨0, 0, 0⟩, ⟨0, 0, 0⟩] : List ER)⟩, false⟩ := by
    unfold MV.look
    show List.foldl (CR.next S) ⟨0, 0, [], [], _, false⟩ [(0, 5), (1, 5)] = _
    rw [List.foldl_cons, next_good (x := (0, 5)) (T := (sect c)) (ak_rE0 ..) (by kernel_rfl) hS (ak_rd0 ..)]
    rw [List.foldl_cons, next_good (x := (1, 5)) (T := (sect c)) (ak_rE1 ..) (by kernel_rfl) hS (ak_rd1 ..)]
    kernel_rfl
  have s1 : (⟨(AK p q r t0 (sect c) (sect 0) [⟨0, 5, sect c⟩] (st + 1)), [⟨0, 1, 1⟩, ⟨0, 0, 0⟩, ⟨0, 0, 0⟩, ⟨0, 0, 0⟩, ⟨0, 0, 0⟩, ⟨0, 0, 0⟩, ⟨0, 0, 0⟩, ⟨0, 0, 0⟩]⟩ : MV).scan (PVof ao 2 cc (onDevs 2) 1 0 S) = ⟨0, 2, 0, 0, 0, ⟨(AK p q r t0 (sect c) (sect 0) [⟨0, 5, sect c⟩] (st + 1)), [⟨0, 1, 1⟩, ⟨0, 0, 0⟩, ⟨0, 0, 0⟩, ⟨0, 0, 0⟩, ⟨0, 0, 0⟩, ⟨0, 0, 0⟩, ⟨0, 0, 0⟩, ⟨0, 0, 0⟩]⟩⟩ := (scan_eq (ak_ask2 ..) l1 rfl).trans (by kernel_rfl)
  have l2 : (⟨(AK p q r t0 (sect c) (sect 0) [⟨0, 5, sect c⟩] (st + 1)), [⟨0, 1, 1⟩, ⟨0, 0, 0⟩, ⟨0, 0, 0⟩, ⟨0, 0, 0⟩, ⟨0, 0, 0⟩, ⟨0, 0, 0⟩, ⟨0, 0, 0⟩, ⟨0, 0, 0⟩]⟩ : MV).look (PVof ao 2 cc (onDevs 2) 1 0 S) = ⟨2, 0, [], sect c, ⟨(AK p q r t0 (sect c) (sect 0) [⟨0, 5, sect c⟩] (st + 1)), ([⟨0, 1, 1⟩, ⟨0, 0, 0⟩, ⟨0, 0, 0⟩, ⟨0, 0, 0⟩, ⟨0, 0, 0⟩, ⟨0, 0, 0⟩, ⟨0, 0, 0⟩, ⟨0, 0, 0⟩] : List ER)⟩, false⟩ := by
    unfold MV.look
    show List.foldl (CR.next S) ⟨0, 0, [], [], _, false⟩ [(0, 5), (1, 5)] = _
    rw [List.foldl_cons, next_good (x := (0, 5)) (T := (sect c)) (ak_rE0 ..) (by kernel_rfl) hS (ak_rd0 ..)]
    rw [List.foldl_cons, next_good (x := (1, 5)) (T := (sect c)) (ak_rE1 ..) (by kernel_rfl) hS (ak_rd1 ..)]
    kernel_rfl
  have s2 : (⟨(AK p q r t0 (sect c) (sect 0) [⟨0, 5, sect c⟩] (st + 1)), [⟨0, 1, 1⟩, ⟨0, 0, 0⟩, ⟨0, 0, 0⟩, ⟨0, 0, 0⟩, ⟨0, 0, 0⟩, ⟨0, 0, 0⟩, ⟨0, 0, 0⟩, ⟨0, 0, 0⟩]⟩ : MV).scan (PVof ao 2 cc (onDevs 2) 1 0 S) = ⟨0, 2, 0, 0, 0, ⟨(AK p q r t0 (sect c) (sect 0) [⟨0, 5, sect c⟩] (st + 1)), [⟨0, 1, 1⟩, ⟨0, 0, 0⟩, ⟨0, 0, 0⟩, ⟨0, 0, 0⟩, ⟨0, 0, 0⟩, ⟨0, 0, 0⟩, ⟨0, 0, 0⟩, ⟨0, 0, 0⟩]⟩⟩ := (scan_eq (ak_ask2 ..) l2 rfl).trans (by kernel_rfl)
  refine ⟨_, _, _, _, g1, s1, rfl, s2, fun i hi => ?_, by kernel_rfl, by kernel_rfl⟩
  rcases (by omega : i = 0 ∨ i = 1) with rfl | rfl
  · exact ⟨by kernel_rfl, by kernel_rfl, .inr (by kernel_rfl)⟩
  · exact ⟨by kernel_rfl, by kernel_rfl, .inl (by kernel_rfl)⟩
theorem spoilt_ii {p q r : Nat} {st : Int} {S : List UInt8} {ao : Option Addr} {cc : Nat} {t0 : List UInt8} (h0 : sumB t0 ≠ S) {t1 : List UInt8} (h1 : sumB t1 ≠ S) : Spoilt 2 (PVof ao 2 cc (onDevs 2) 1 0 S) (⟨AK p q r t0 t1 (sect 0) [] st, zeroE⟩ : MV) := by
  have f1 : found S (-1) (⟨AK p q r t0 t1 (sect 0) [] st, zeroE⟩ : MV) (onDevs 2) [] = ⟨12, [], [], ⟨AK p q r t0 t1 (sect 0) [] st, ((zeroE.modify (0 : Int).toNat fSm).modify (1 : Int).toNat fSm)⟩⟩ := by
    refine (found_miss2 (x := (0, 5)) (l := [(1, 5)]) (by decide) (ak_rE0 ..) (ak_rB0 ..) h0 (ak_rd0 ..)).trans ?_
    refine (found_miss2 (x := (1, 5)) (l := []) (by decide) (ak_rE1 ..) (ak_rB1 ..) h1 (ak_rd1 ..)).trans ?_
    rfl
  have g1 := get_bad (P := (PVof ao 2 cc (onDevs 2) 1 0 S)) (ak_ask2 ..) f1 (by decide)
  have l1 : (⟨AK p q r t0 t1 (sect 0) [] st, ((zeroE.modify (0 : Int).toNat fSm).modify (1 : Int).toNat fSm)⟩ : MV).look (PVof ao 2 cc (onDevs 2) 1 0 S) = ⟨0, 0, [(0, 5), (1, 5)], [], ⟨AK p q r t0 t1 (sect 0) [] st, ((((zeroE.modify (0 : Int).toNat fSm).modify (1 : Int).toNat fSm).modify (0 : Int).toNat fSm).modify (1 : Int).toNat fSm)⟩, false⟩ := by
    unfold MV.look
    show List.foldl (CR.next S) ⟨0, 0, [], [], _, false⟩ [(0, 5), (1, 5)] = _
    rw [List.foldl_cons, next_ill (x := (0, 5)) (T := t0) (ak_rE0 ..) (ak_rB0 ..) h0 (ak_rd0 ..)]
    rw [List.foldl_cons, next_ill (x := (1, 5)) (T := t1) (ak_rE1 ..) (ak_rB1 ..) h1 (ak_rd1 ..)]
    kernel_rfl
  have s1 := scan_eq (ak_ask2 ..) l1 rfl
  exact ⟨_, _, g1, s1, by kernel_rfl⟩
theorem heal_ggg {p q r : Nat} {st : Int} {c : UInt8} {S : List UInt8} {ao : Option Addr} {cc : Nat} (hS : sumB (sect c) = S)  : Healed 3 (sect c) (PVof ao 3 cc (onDevs 3) 1 0 S) (⟨AK p q r (sect c) (sect c) (sect c) [] st, zeroE⟩ : MV) 0 := by
  have f1 : found S (-1) (⟨AK p q r (sect c) (sect c) (sect c) [] st, zeroE⟩ : MV) (onDevs 3) [] = ⟨0, sect c, [], ⟨AK p q r (sect c) (sect c) (sect c) [] st, zeroE⟩⟩ := by
    exact found_hit2 (x := (0, 5)) (l := [(1, 5), (2, 5)]) (by decide) (ak_rE0 ..) (ak_rB0 ..) hS (ak_rd0 ..)
  have g1 : (⟨AK p q r (sect c) (sect c) (sect c) [] st, zeroE⟩ : MV).get (PVof ao 3 cc (onDevs 3) 1 0 S) = ⟨0, sect c, ⟨(AK p q r (sect c) (sect c) (sect c) [] (st)), [⟨0, 0, 0⟩, ⟨0, 0, 0⟩, ⟨0, 0, 0⟩, ⟨0, 0, 0⟩, ⟨0, 0, 0⟩, ⟨0, 0, 0⟩, ⟨0, 0, 0⟩, ⟨0, 0, 0⟩]⟩⟩ := (get_eq (ak_ask3 ..) f1).trans (by kernel_rfl)
  have l1 : (⟨(AK p q r (sect c) (sect c) (sect c) [] (st)), [⟨0, 0, 0⟩, ⟨0, 0, 0⟩, ⟨0, 0, 0⟩, ⟨0, 0, 0⟩, ⟨0, 0, 0⟩, ⟨0, 0, 0⟩, ⟨0, 0, 0⟩, ⟨0, 0, 0⟩]⟩ : MV).look (PVof ao 3 cc (onDevs 3) 1 0 S) = ⟨3, 0, [], sect c, ⟨(AK p q r (sect c) (sect c) (sect c) [] (st)), ([⟨0, 0, 0⟩, ⟨0, 0, 0⟩, ⟨0, 0, 0⟩, ⟨0, 0, 0⟩, ⟨0, 0, 0⟩, ⟨0, 0, 0⟩, ⟨0, 0, 0⟩, ⟨0, 0, 0⟩] : List ER)⟩, false⟩ := by
    unfold MV.look
    show List.foldl (CR.next S) ⟨0, 0, [], [], _, false⟩ [(0, 5), (1, 5), (2, 5)] = _
    rw [List.foldl_cons, next_good (x := (0, 5)) (T := (sect c)) (ak_rE0 ..) (ak_rB0 ..) hS (ak_rd0 ..)]
    rw [List.foldl_cons, next_good (x := (1, 5)) (T := (sect c)) (ak_rE1 ..) (ak_rB1 ..) hS (ak_rd1 ..)]
    rw [List.foldl_cons, next_good (x := (2, 5)) (T := (sect c)) (ak_rE2 ..) (ak_rB2 ..) hS (ak_rd2 ..)]
    kernel_rfl
  have s1 : (⟨(AK p q r (sect c) (sect c) (sect c) [] (st)), [⟨0, 0, 0⟩, ⟨0, 0, 0⟩, ⟨0, 0, 0⟩, ⟨0, 0, 0⟩, ⟨0, 0, 0⟩, ⟨0, 0, 0⟩, ⟨0, 0, 0⟩, ⟨0, 0, 0⟩]⟩ : MV).scan (PVof ao 3 cc (onDevs 3) 1 0 S) = ⟨0, 3, 0, 0, 0, ⟨(AK p q r (sect c) (sect c) (sect c) [] (st)), [⟨0, 0, 0⟩, ⟨0, 0, 0⟩, ⟨0, 0, 0⟩, ⟨0, 0, 0⟩, ⟨0, 0, 0⟩, ⟨0, 0, 0⟩, ⟨0, 0, 0⟩, ⟨0, 0, 0⟩]⟩⟩ := (scan_eq (ak_ask3 ..) l1 rfl).trans (by kernel_rfl)
  have l2 : (⟨(AK p q r (sect c) (sect c) (sect c) [] (st)), [⟨0, 0, 0⟩, ⟨0, 0, 0⟩, ⟨0, 0, 0⟩, ⟨0, 0, 0⟩, ⟨0, 0, 0⟩, ⟨0, 0, 0⟩, ⟨0, 0, 0⟩, ⟨0, 0, 0⟩]⟩ : MV).look (PVof ao 3 cc (onDevs 3) 1 0 S) = ⟨3, 0, [], sect c, ⟨(AK p q r (sect c) (sect c) (sect c) [] (st)), ([⟨0, 0, 0⟩, ⟨0, 0, 0⟩, ⟨0, 0, 0⟩, ⟨0, 0, 0⟩, ⟨0, 0, 0⟩, ⟨0, 0, 0⟩, ⟨0, 0, 0⟩, ⟨0, 0, 0⟩] : List ER)⟩, false⟩ := by
    unfold MV.look
    show List.foldl (CR.next S) ⟨0, 0, [], [], _, false⟩ [(0, 5), (1, 5), (2, 5)] = _
    rw [List.foldl_cons, next_good (x := (0, 5)) (T := (sect c)) (ak_rE0 ..) (ak_rB0 ..) hS (ak_rd0 ..)]
    rw [List.foldl_cons, next_good (x := (1, 5)) (T := (sect c)) (ak_rE1 ..) (ak_rB1 ..) hS (ak_rd1 ..)]
    rw [List.foldl_cons, next_good (x := (2, 5)) (T := (sect c)) (ak_rE2 ..) (ak_rB2 ..) hS (ak_rd2 ..)]
    kernel_rfl
  have s2 : (⟨(AK p q r (sect c) (sect c) (sect c) [] (st)), [⟨0, 0, 0⟩, ⟨0, 0, 0⟩, ⟨0, 0, 0⟩, ⟨0, 0, 0⟩, ⟨0, 0, 0⟩, ⟨0, 0, 0⟩, ⟨0, 0, 0⟩, ⟨0, 0, 0⟩]⟩ : MV).scan (PVof ao 3 cc (onDevs 3) 1 0 S) = ⟨0, 3, 0, 0, 0, ⟨(AK p q r (sect c) (sect c) (sect c) [] (st)), [⟨0, 0, 0⟩, ⟨0, 0, 0⟩, ⟨0, 0, 0⟩, ⟨0, 0, 0⟩, ⟨0, 0, 0⟩, ⟨0, 0, 0⟩, ⟨0, 0, 0⟩, ⟨0, 0, 0⟩]⟩⟩ := (scan_eq (ak_ask3 ..) l2 rfl).trans (by kernel_rfl)
  refine ⟨_, _, _, _, g1, s1, rfl, s2, fun i hi => ?_, by kernel_rfl, by kernel_rfl⟩
  rcases (by omega : i = 0 ∨ i = 1 ∨ i = 2) with rfl | rfl | rfl
  · exact ⟨by kernel_rfl, by kernel_rfl, .inl (by kernel_rfl)⟩
  · exact ⟨by kernel_rfl, by kernel_rfl, .inl (by kernel_rfl)⟩
  · exact ⟨by kernel_rfl, by kernel_rfl, .inl (by kernel_rfl)⟩
theorem heal_ggi {p q r : Nat} {st : Int} {c : UInt8} {S : List UInt8} {ao : Option Addr} {cc : Nat} (hS : sumB (sect c) = S) {t2 : List UInt8} (h2 : sumB t2 ≠ S) : Healed 3 (sect c) (PVof ao 3 cc (onDevs 3) 1 0 S) (⟨AK p q r (sect c) (sect c) t2 [] st, zeroE⟩ : MV) 1 := by
  have f1 : found S (-1) (⟨AK p q r (sect c) (sect c) t2 [] st, zeroE⟩ : MV) (onDevs 3) [] = ⟨0, sect c, [], ⟨AK p q r (sect c) (sect c) t2 [] st, zeroE⟩⟩ := by
    exact found_hit2 (x := (0, 5)) (l := [(1, 5), (2, 5)]) (by decide) (ak_rE0 ..) (ak_rB0 ..) hS (ak_rd0 ..)
  have g1 : (⟨AK p q r (sect c) (sect c) t2 [] st, zeroE⟩ : MV).get (PVof ao 3 cc (onDevs 3) 1 0 S) = ⟨0, sect c, ⟨(AK p q r (sect c) (sect c) t2 [] (st)), [⟨0, 0, 0⟩, ⟨0, 0, 0⟩, ⟨0, 0, 0⟩, ⟨0, 0, 0⟩, ⟨0, 0, 0⟩, ⟨0, 0, 0⟩, ⟨0, 0, 0⟩, ⟨0, 0, 0⟩]⟩⟩ := (get_eq (ak_ask3 ..) f1).trans (by kernel_rfl)
  have l1 : (⟨(AK p q r (sect c) (sect c) t2 [] (st)), [⟨0, 0, 0⟩, ⟨0, 0, 0⟩, ⟨0, 0, 0⟩, ⟨0, 0, 0⟩, ⟨0, 0, 0⟩, ⟨0, 0, 0⟩, ⟨0, 0, 0⟩, ⟨0, 0, 0⟩]⟩ : MV).look (PVof ao 3 cc (onDevs 3) 1 0 S) = ⟨2, 0, [(2, 5)], sect c, ⟨(AK p q r (sect c) (sect c) t2 [] (st)), (([⟨0, 0, 0⟩, ⟨0, 0, 0⟩, ⟨0, 0, 0⟩, ⟨0, 0, 0⟩, ⟨0, 0, 0⟩, ⟨0, 0, 0⟩, ⟨0, 0, 0⟩, ⟨0, 0, 0⟩] : List ER).modify (2 : Int).toNat fSm)⟩, false⟩ := by
    unfold MV.look
    show List.foldl (CR.next S) ⟨0, 0, [], [], _, false⟩ [(0, 5), (1, 5), (2, 5)] = _
    rw [List.foldl_cons, next_good (x := (0, 5)) (T := (sect c)) (ak_rE0 ..) (ak_rB0 ..) hS (ak_rd0 ..)]
    rw [List.foldl_cons, next_good (x := (1, 5)) (T := (sect c)) (ak_rE1 ..) (ak_rB1 ..) hS (ak_rd1 ..)]
    rw [List.foldl_cons, next_ill (x := (2, 5)) (T := t2) (ak_rE2 ..) (ak_rB2 ..) h2 (ak_rd2 ..)]
    kernel_rfl
  have s1 : (⟨(AK p q r (sect c) (sect c) t2 [] (st)), [⟨0, 0, 0⟩, ⟨0, 0, 0⟩, ⟨0, 0, 0⟩, ⟨0, 0, 0⟩, ⟨0, 0, 0⟩, ⟨0, 0, 0⟩, ⟨0, 0, 0⟩, ⟨0, 0, 0⟩]⟩ : MV).scan (PVof ao 3 cc (onDevs 3) 1 0 S) = ⟨0, 2, 1, 0, 0, ⟨(AK p q r (sect c) (sect c) t2 [⟨2, 5, sect c⟩] (st + 1)), [⟨0, 0, 0⟩, ⟨0, 0, 0⟩, ⟨0, 1, 1⟩, ⟨0, 0, 0⟩, ⟨0, 0, 0⟩, ⟨0, 0, 0⟩, ⟨0, 0, 0⟩, ⟨0, 0, 0⟩]⟩⟩ := (scan_eq (ak_ask3 ..) l1 rfl).trans (by kernel_rfl)
  have l2 : (⟨(AK p q r (sect c) (sect c) t2 [⟨2, 5, sect c⟩] (st + 1)), [⟨0, 0, 0⟩, ⟨0, 0, 0⟩, ⟨0, 1, 1⟩, ⟨0, 0, 0⟩, ⟨0, 0, 0⟩, ⟨0, 0, 0⟩, ⟨0, 0, 0⟩, ⟨0, 0, 0⟩]⟩ : MV).look (PVof ao 3 cc (onDevs 3) 1 0 S) = ⟨3, 0, [], sect c, ⟨(AK p q r (sect c) (sect c) t2 [⟨2, 5, sect c⟩] (st + 1)), ([⟨0, 0, 0⟩, ⟨0, 0, 0⟩, ⟨0, 1, 1⟩, ⟨0, 0, 0⟩, ⟨0, 0, 0⟩, ⟨0, 0, 0⟩, ⟨0, 0, 0⟩, ⟨0, 0, 0⟩] : List ER)⟩, false⟩ := by
    unfold MV.look
    show List.foldl (CR.next S) ⟨0, 0, [], [], _, false⟩ [(0, 5), (1, 5), (2, 5)] = _
    rw [List.foldl_cons, next_good (x := (0, 5)) (T := (sect c)) (ak_rE0 ..) (by kernel_rfl) hS (ak_rd0 ..)]
    rw [List.foldl_cons, next_good (x := (1, 5)) (T := (sect c)) (ak_rE1 ..) (by kernel_rfl) hS (ak_rd1 ..)]
    rw [List.foldl_cons, next_good (x := (2, 5)) (T := (sect c)) (ak_rE2 ..) (by kernel_rfl) hS (ak_rd2 ..)]
    kernel_rfl
  have s2 : (⟨(AK p q r (sect c) (sect c) t2 [⟨2, 5, sect c⟩] (st + 1)), [⟨0, 0, 0⟩, ⟨0, 0, 0⟩, ⟨0, 1, 1⟩, ⟨0, 0, 0⟩, ⟨0, 0, 0⟩, ⟨0, 0, 0⟩, ⟨0, 0, 0⟩, ⟨0, 0, 0⟩]⟩ : MV).scan (PVof ao 3 cc (onDevs 3) 1 0 S) = ⟨0, 3, 0, 0, 0, ⟨(AK p q r (sect c) (sect c) t2 [⟨2, 5, sect c⟩] (st + 1)), [⟨0, 0, 0⟩, ⟨0, 0, 0⟩, ⟨0, 1, 1⟩, ⟨0, 0, 0⟩, ⟨0, 0, 0⟩, ⟨0, 0, 0⟩, ⟨0, 0, 0⟩, ⟨0, 0, 0⟩]⟩⟩ := (scan_eq (ak_ask3 ..) l2 rfl).trans (by kernel_rfl)
  refine ⟨_, _, _, _, g1, s1, rfl, s2, fun i hi => ?_, by kernel_rfl, by kernel_rfl⟩
  rcases (by omega : i = 0 ∨ i = 1 ∨ i = 2) with rfl | rfl | rfl
  · exact ⟨by kernel_rfl, by kernel_rfl, .inl (by kernel_rfl)⟩
  · exact ⟨by kernel_rfl, by kernel_rfl, .inl (by kernel_rfl)⟩
  · exact ⟨by kernel_rfl, by kernel_rfl, .inr (by kernel_rfl)⟩
theorem heal_gig {p q r : Nat} {st : Int} {c : UInt8} {S : List UInt8} {ao : Option Addr} {cc : Nat} (hS : sumB (sect c) = S) {t1 : List UInt8} (h1 : sumB t1 ≠ S) : Healed 3 (sect c) (PVof ao 3 cc (onDevs 3) 1 0 S) (⟨AK p q r (sect c) t1 (sect c) [] st, zeroE⟩ : MV) 1 := by
  have f1 : found S (-1) (⟨AK p q r (sect c) t1 (sect c) [] st, zeroE⟩ : MV) (onDevs 3) [] = ⟨0, sect c, [], ⟨AK p q r (sect c) t1 (sect c) [] st, zeroE⟩⟩ := by
    exact found_hit2 (x := (0, 5)) (l := [(1, 5), (2, 5)]) (by decide) (ak_rE0 ..) (ak_rB0 ..) hS (ak_rd0 ..)
  have g1 : (⟨AK p q r (sect c) t1 (sect c) [] st, zeroE⟩ : MV).get (PVof ao 3 cc (onDevs 3) 1 0 S) = ⟨0, sect c, ⟨(AK p q r (sect c) t1 (sect c) [] (st)), [⟨0, 0, 0⟩, ⟨0, 0, 0⟩, ⟨0, 0, 0⟩, ⟨0, 0, 0⟩, ⟨0, 0, 0⟩, ⟨0, 0, 0⟩, ⟨0, 0, 0⟩, ⟨0, 0, 0⟩]⟩⟩ := (get_eq (ak_ask3 ..) f1).trans (by kernel_rfl)
  have l1 : (⟨(AK p q r (sect c) t1 (sect c) [] (st)), [⟨0, 0, 0⟩, ⟨0, 0, 0⟩, ⟨0, 0, 0⟩, ⟨0, 0, 0⟩, ⟨0, 0, 0⟩, ⟨0, 0, 0⟩, ⟨0, 0, 0⟩, ⟨0, 0, 0⟩]⟩ : MV).look (PVof ao 3 cc (onDevs 3) 1 0 S) = ⟨2, 0, [(1, 5)], sect c, ⟨(AK p q r (sect c) t1 (sect c) [] (st)), (([⟨0, 0, 0⟩, ⟨0, 0, 0⟩, ⟨0, 0, 0⟩, ⟨0, 0, 0⟩, ⟨0, 0, 0⟩, ⟨0, 0, 0⟩, ⟨0, 0, 0⟩, ⟨0, 0, 0⟩] : List ER).modify (1 : Int).toNat fSm)⟩, false⟩ := by
    unfold MV.look
    show List.foldl (CR.next S) ⟨0, 0, [], [], _, false⟩ [(0, 5), (1, 5), (2, 5)] = _
    rw [List.foldl_cons, next_good (x := (0, 5)) (T := (sect c)) (ak_rE0 ..) (ak_rB0 ..) hS (ak_rd0 ..)]
    rw [List.foldl_cons, next_ill (x := (1, 5)) (T := t1) (ak_rE1 ..) (ak_rB1 ..) h1 (ak_rd1 ..)]
    rw [List.foldl_cons, next_good (x := (2, 5)) (T := (sect c)) (ak_rE2 ..) (ak_rB2 ..) hS (ak_rd2 ..)]
    kernel_rfl
  have s1 : (⟨(AK p q r (sect c) t1 (sect c) [] (st)), [⟨0, 0, 0⟩, ⟨0, 0, 0⟩, ⟨0, 0, 0⟩, ⟨0, 0, 0⟩, ⟨0, 0, 0⟩, ⟨0, 0, 0⟩, ⟨0, 0, 0⟩, ⟨0, 0, 0⟩]⟩ : MV).scan (PVof ao 3 cc (onDevs 3) 1 0 S) = ⟨0, 2, 1, 0, 0, ⟨(AK p q r (sect c) t1 (sect c) [⟨1, 5, sect c⟩] (st + 1)), [⟨0, 0, 0⟩, ⟨0, 1, 1⟩, ⟨0, 0, 0⟩, ⟨0, 0, 0⟩, ⟨0, 0, 0⟩, ⟨0, 0, 0⟩, ⟨0, 0, 0⟩, ⟨0, 0, 0⟩]⟩⟩ := (scan_eq (ak_ask3 ..) l1 rfl).trans (by kernel_rfl)
  have l2 : (⟨(AK p q r (sect c) t1 (sect c) [⟨1, 5, sect c⟩] (st + 1)), [⟨0, 0, 0⟩, ⟨0, 1, 1⟩, ⟨0, 0, 0⟩, ⟨0, 0, 0⟩, ⟨0, 0, 0⟩, ⟨0, 0, 0⟩, ⟨0, 0, 0⟩, ⟨0, 0, 0⟩]⟩ : MV).look (PVof ao 3 cc (onDevs 3) 1 0 S) = ⟨3, 0, [], sect c, ⟨(AK p q r (sect c) t1 (sect c) [⟨1, 5, sect c⟩] (st + 1)), ([⟨0, 0, 0⟩, ⟨0, 1, 1⟩, ⟨0, 0, 0⟩, ⟨0, 0, 0⟩, ⟨0, 0, 0⟩, ⟨0, 0, 0⟩, ⟨0, 0, 0⟩, ⟨0, 0, 0⟩] : List ER)⟩, false⟩ := by
    unfold MV.look
    show List.foldl (CR.next S) ⟨0, 0, [], [], _, false⟩ [(0, 5), (1, 5), (2, 5)] = _
    rw [List.foldl_cons, next_good (x := (0, 5)) (T := (sect c)) (ak_rE0 ..) (by kernel_rfl) hS (ak_rd0 ..)]
    rw [List.foldl_cons, next_good (x := (1, 5)) (T := (sect c)) (ak_rE1 ..) (by kernel_rfl) hS (ak_rd1 ..)]
    rw [List.foldl_cons, next_good (x := (2, 5)) (T := (sect c)) (ak_rE2 ..) (by kernel_rfl) hS (ak_rd2 ..)]
    kernel_rfl
  have s2 : (⟨(AK p q r (sect c) t1 (sect c) [⟨1, 5, sect c⟩] (st + 1)), [⟨0, 0, 0⟩, ⟨0, 1, 1⟩, ⟨0, 0, 0⟩, ⟨0, 0, 0⟩, ⟨0, 0, 0⟩, ⟨0, 0, 0⟩, ⟨0, 0, 0⟩, ⟨0, 0, 0⟩]⟩ : MV).scan (PVof ao 3 cc (onDevs 3) 1 0 S) = ⟨0, 3, 0, 0, 0, ⟨(AK p q r (sect c) t1 (sect c) [⟨1, 5, sect c⟩] (st + 1)), [⟨0, 0, 0⟩, ⟨0, 1, 1⟩, ⟨0, 0, 0⟩, ⟨0, 0, 0⟩, ⟨0, 0, 0⟩, ⟨0, 0, 0⟩, ⟨0, 0, 0⟩, ⟨0, 0, 0⟩]⟩⟩ := (scan_eq (ak_ask3 ..) l2 rfl).trans (by kernel_rfl)
  refine ⟨_, _, _, _, g1, s1, rfl, s2, fun i hi => ?_, by kernel_rfl, by kernel_rfl⟩
  rcases (by omega : i = 0 ∨ i = 1 ∨ i = 2) with rfl | rfl | rfl
  · exact ⟨by kernel_rfl, by kernel_rfl, .inl (by kernel_rfl)⟩
  · exact ⟨by kernel_rfl, by kernel_rfl, .inr (by kernel_rfl)⟩
  · exact ⟨by kernel_rfl, by kernel_rfl, .inl (by kernel_rfl)⟩
theorem heal_gii {p q r : Nat} {st : Int} {c : UInt8} {S : List UInt8} {ao : Option Addr} {cc : Nat} (hS : sumB (sect c) = S) {t1 : List UInt8} (h1 : sumB t1 ≠ S) {t2 : List UInt8} (h2 : sumB t2 ≠ S) : Healed 3 (sect c) (PVof ao 3 cc (onDevs 3) 1 0 S) (⟨AK p q r (sect c) t1 t2 [] st, zeroE⟩ : MV) 2 := by
  have f1 : found S (-1) (⟨AK p q r (sect c) t1 t2 [] st, zeroE⟩ : MV) (onDevs 3) [] = ⟨0, sect c, [], ⟨AK p q r (sect c) t1 t2 [] st, zeroE⟩⟩ := by
    exact found_hit2 (x := (0, 5)) (l := [(1, 5), (2, 5)]) (by decide) (ak_rE0 ..) (ak_rB0 ..) hS (ak_rd0 ..)
  have g1 : (⟨AK p q r (sect c) t1 t2 [] st, zeroE⟩ : MV).get (PVof ao 3 cc (onDevs 3) 1 0 S) = ⟨0, sect c, ⟨(AK p q r (sect c) t1 t2 [] (st)), [⟨0, 0, 0⟩, ⟨0, 0, 0⟩, ⟨0, 0, 0⟩, ⟨0, 0, 0⟩, ⟨0, 0, 0⟩, ⟨0, 0, 0⟩, ⟨0, 0, 0⟩, ⟨0, 0, 0⟩]⟩⟩ := (get_eq (ak_ask3 ..) f1).trans (by kernel_rfl)
  have l1 : (⟨(AK p q r (sect c) t1 t2 [] (st)), [⟨0, 0, 0⟩, ⟨0, 0, 0⟩, ⟨0, 0, 0⟩, ⟨0, 0, 0⟩, ⟨0, 0, 0⟩, ⟨0, 0, 0⟩, ⟨0, 0, 0⟩, ⟨0, 0, 0⟩]⟩ : MV).look (PVof ao 3 cc (onDevs 3) 1 0 S) = ⟨1, 0, [(1, 5), (2, 5)], sect c, ⟨(AK p q r (sect c) t1 t2 [] (st)), ((([⟨0, 0, 0⟩, ⟨0, 0, 0⟩, ⟨0, 0, 0⟩, ⟨0, 0, 0⟩, ⟨0, 0, 0⟩, ⟨0, 0, 0⟩, ⟨0, 0, 0⟩, ⟨0, 0, 0⟩] : List ER).modify (1 : Int).toNat fSm).modify (2 : Int).toNat fSm)⟩, false⟩ := by
    unfold MV.look
    show List.foldl (CR.next S) ⟨0, 0, [], [], _, false⟩ [(0, 5), (1, 5), (2, 5)] = _
    rw [List.foldl_cons, next_good (x := (0, 5)) (T := (sect c)) (ak_rE0 ..) (ak_rB0 ..) hS (ak_rd0 ..)]
    rw [List.foldl_cons, next_ill (x := (1, 5)) (T := t1) (ak_rE1 ..) (ak_rB1 ..) h1 (ak_rd1 ..)]
    rw [List.foldl_cons, next_ill (x := (2, 5)) (T := t2) (ak_rE2 ..) (ak_rB2 ..) h2 (ak_rd2 ..)]
    kernel_rfl
  have s1 : (⟨(AK p q r (sect c) t1 t2 [] (st)), [⟨0, 0, 0⟩, ⟨0, 0, 0⟩, ⟨0, 0, 0⟩, ⟨0, 0, 0⟩, ⟨0, 0, 0⟩, ⟨0, 0, 0⟩, ⟨0, 0, 0⟩, ⟨0, 0, 0⟩]⟩ : MV).scan (PVof ao 3 cc (onDevs 3) 1 0 S) = ⟨0, 1, 2, 0, 0, ⟨(AK p q r (sect c) t1 t2 [⟨1, 5, sect c⟩, ⟨2, 5, sect c⟩] (st + 1 + 1)), [⟨0, 0, 0⟩, ⟨0, 1, 1⟩, ⟨0, 1, 1⟩, ⟨0, 0, 0⟩, ⟨0, 0, 0⟩, ⟨0, 0, 0⟩, ⟨0, 0, 0⟩, ⟨0, 0, 0⟩]⟩⟩ := (scan_eq (ak_ask3 ..) l1 rfl).trans (by kernel_rfl)
  have l2 : (⟨(AK p q r (sect c) t1 t2 [⟨1, 5, sect c⟩, ⟨2, 5, sect c⟩] (st + 1 + 1)), [⟨0, 0, 0⟩, ⟨0, 1, 1⟩, ⟨0, 1, 1⟩, ⟨0, 0, 0⟩, ⟨0, 0, 0⟩, ⟨0, 0, 0⟩, ⟨0, 0, 0⟩, ⟨0, 0, 0⟩]⟩ : MV).look (PVof ao 3 cc (onDevs 3) 1 0 S) = ⟨3, 0, [], sect c, ⟨(AK p q r (sect c) t1 t2 [⟨1, 5, sect c⟩, ⟨2, 5, sect c⟩] (st + 1 + 1)), ([⟨0, 0, 0⟩, ⟨0, 1, 1⟩, ⟨0, 1, 1⟩, ⟨0, 0, 0⟩, ⟨0, 0, 0⟩, ⟨0, 0, 0⟩, ⟨0, 0, 0⟩, ⟨0, 0, 0⟩] : List ER)⟩, false⟩ := by
    unfold MV.look
    show List.foldl (CR.next S) ⟨0, 0, [], [], _, false⟩ [(0, 5), (1, 5), (2, 5)] = _
    rw [List.foldl_cons, next_good (x := (0, 5)) (T := (sect c)) (ak_rE0 ..) (by kernel_rfl) hS (ak_rd0 ..)]
    rw [List.foldl_cons, next_good (x := (1, 5)) (T := (sect c)) (ak_rE1 ..) (by kernel_rfl) hS (ak_rd1 ..)]
    rw [List.foldl_cons, next_good (x := (2, 5)) (T := (sect c)) (ak_rE2 ..) (by kernel_rfl) hS (ak_rd2 ..)]
    kernel_rfl
  have s2 : (⟨(AK p q r (sect c) t1 t2 [⟨1, 5, sect c⟩, ⟨2, 5, sect c⟩] (st + 1 + 1)), [⟨0, 0, 0⟩, ⟨0, 1, 1⟩, ⟨0, 1, 1⟩, ⟨0, 0, 0⟩, ⟨0, 0, 0⟩, ⟨0, 0, 0⟩, ⟨0, 0, 0⟩, ⟨0, 0, 0⟩]⟩ : MV).scan (PVof ao 3 cc (onDevs 3) 1 0 S) = ⟨0, 3, 0, 0, 0, ⟨(AK p q r (sect c) t1 t2 [⟨1, 5, sect c⟩, ⟨2, 5, sect c⟩] (st + 1 + 1)), [⟨0, 0, 0⟩, ⟨0, 1, 1⟩, ⟨0, 1, 1⟩, ⟨0, 0, 0⟩, ⟨0, 0, 0⟩, ⟨0, 0, 0⟩, ⟨0, 0, 0⟩, ⟨0, 0, 0⟩]⟩⟩ := (scan_eq (ak_ask3 ..) l2 rfl).trans (by kernel_rfl)
  refine ⟨_, _, _, _, g1, s1, rfl, s2, fun i hi => ?_, by kernel_rfl, by kernel_rfl⟩
  rcases (by omega : i = 0 ∨ i = 1 ∨ i = 2) with rfl | rfl | rfl
  · exact ⟨by kernel_rfl, by kernel_rfl, .inl (by kernel_rfl)⟩
  · exact ⟨by kernel_rfl, by kernel_rfl, .inr (by kernel_rfl)⟩
  · exact ⟨by kernel_rfl, by kernel_rfl, .inr (by kernel_rfl)⟩
theorem heal_igg {p q r : Nat} {st : Int} {c : UInt8} {S : List UInt8} {ao : Option Addr} {cc : Nat} (hS : sumB (sect c) = S) {t0 : List UInt8} (h0 : sumB t0 ≠ S) : Healed 3 (sect c) (PVof ao 3 cc (onDevs 3) 1 0 S) (⟨AK p q r t0 (sect c) (sect c) [] st, zeroE⟩ : MV) 1 := by
  have f1 : found S (-1) (⟨AK p q r t0 (sect c) (sect c) [] st, zeroE⟩ : MV) (onDevs 3) [] = ⟨0, sect c, [(0, 5)], ⟨AK p q r t0 (sect c) (sect c) [] st, (zeroE.modify (0 : Int).toNat fSm)⟩⟩ := by
    refine (found_miss2 (x := (0, 5)) (l := [(1, 5), (2, 5)]) (by decide) (ak_rE0 ..) (ak_rB0 ..) h0 (ak_rd0 ..)).trans ?_
    exact found_hit2 (x := (1, 5)) (l := [(2, 5)]) (by decide) (ak_rE1 ..) (ak_rB1 ..) hS (ak_rd1 ..)
  have g1 : (⟨AK p q r t0 (sect c) (sect c) [] st, zeroE⟩ : MV).get (PVof ao 3 cc (onDevs 3) 1 0 S) = ⟨0, sect c, ⟨(AK p q r t0 (sect c) (sect c) [⟨0, 5, sect c⟩] (st + 1)), [⟨0, 1, 1⟩, ⟨0, 0, 0⟩, ⟨0, 0, 0⟩, ⟨0, 0, 0⟩, ⟨0, 0, 0⟩, ⟨0, 0, 0⟩, ⟨0, 0, 0⟩, ⟨0, 0, 0⟩]⟩⟩ := (get_eq (ak_ask3 ..) f1).trans (by kernel_rfl)
  have l1 : (⟨(AK p q r t0 (sect c) (sect c) [⟨0, 5, sect c⟩] (st + 1)), [⟨0, 1, 1⟩, ⟨0, 0, 0⟩, ⟨0, 0, 0⟩, ⟨0, 0, 0⟩, ⟨0, 0, 0⟩, ⟨0, 0, 0⟩, ⟨0, 0, 0⟩, ⟨0, 0, 0⟩]⟩ : MV).look (PVof ao 3 cc (onDevs 3) 1 0 S) = ⟨3, 0, [], sect c, ⟨(AK p q r t0 (sect c) (sect c) [⟨0, 5, sect c⟩] (st + 1)), ([⟨0, 1, 1⟩, ⟨0, 0, 0⟩, ⟨0, 0, 0⟩, ⟨0, 0, 0⟩, ⟨0, 0, 0⟩, ⟨0, 0, 0⟩, ⟨0, 0, 0⟩, ⟨0, 0, 0⟩] : List ER)⟩, false⟩ := by
    unfold MV.look
    show List.foldl (CR.next S) ⟨0, 0, [], [], _, false⟩ [(0, 5), (1, 5), (2, 5)] = _
    rw [List.foldl_cons, next_good (x := (0, 5)) (T := (sect c)) (ak_rE0 ..) (by kernel_rfl) hS (ak_rd0 ..)]
    rw [List.foldl_cons, next_good (x := (1, 5)) (T := (sect c)) (ak_rE1 ..) (by kernel_rfl) hS (ak_rd1 ..)]
    rw [List.foldl_cons, next_good (x := (2, 5)) (T := (sect c)) (ak_rE2 ..) (by kernel_rfl) hS (ak_rd2 ..)]
    kernel_rfl
  have s1 : (⟨(AK p q r t0 (sect c) (sect c) [⟨0, 5, sect c⟩] (st + 1)), [⟨0, 1, 1⟩, ⟨0, 0, 0⟩, ⟨0, 0, 0⟩, ⟨0, 0, 0⟩, ⟨0, 0, 0⟩, ⟨0, 0, 0⟩, ⟨0, 0, 0⟩, ⟨0, 0, 0⟩]⟩ : MV).scan (PVof ao 3 cc (onDevs 3) 1 0 S) = ⟨0, 3, 0, 0, 0, ⟨(AK p q r t0 (sect c) (sect c) [⟨0, 5, sect c⟩] (st + 1)), [⟨0, 1, 1⟩, ⟨0, 0, 0⟩, ⟨0, 0, 0⟩, ⟨0, 0, 0⟩, ⟨0, 0, 0⟩, ⟨0, 0, 0⟩, ⟨0, 0, 0⟩, ⟨0, 0, 0⟩]⟩⟩ := (scan_eq (ak_ask3 ..) l1 rfl).trans (by kernel_rfl)
  have l2 : (⟨(AK p q r t0 (sect c) (sect c) [⟨0, 5, sect c⟩] (st + 1)), [⟨0, 1, 1⟩, ⟨0, 0, 0⟩, ⟨0, 0, 0⟩, ⟨0, 0, 0⟩, ⟨0, 0, 0⟩, ⟨0, 0, 0⟩, ⟨0, 0, 0⟩, ⟨0, 0, 0⟩]⟩ : MV).look (PVof ao 3 cc (onDevs 3) 1 0 S) = ⟨3, 0, [], sect c, ⟨(AK p q r t0 (sect c) (sect c) [⟨0, 5, sect c⟩] (st + 1)), ([⟨0, 1, 1⟩, ⟨0, 0, 0⟩, ⟨0, 0, 0⟩, ⟨0, 0, 0⟩, ⟨0, 0, 0⟩, ⟨0, 0, 0⟩, ⟨0, 0, 0⟩, ⟨0, 0, 0⟩] : List ER)⟩, false⟩ := by
    unfold MV.look
    show List.foldl (CR.next S) ⟨0, 0, [], [], _, false⟩ [(0, 5), (1, 5), (2, 5)] = _
    rw [List.foldl_cons, next_good (x := (0, 5)) (T := (sect c)) (ak_rE0 ..) (by kernel_rfl) hS (ak_rd0 ..)]
    rw [List.foldl_cons, next_good (x := (1, 5)) (T := (sect c)) (ak_rE1 ..) (by kernel_rfl) hS (ak_rd1 ..)]
    rw [List.foldl_cons, next_good (x := (2, 5)) (T := (sect c)) (ak_rE2 ..) (by kernel_rfl) hS (ak_rd2 ..)]
    kernel_rfl
  have s2 : (⟨(AK p q r t0 (sect c) (sect c) [⟨0, 5, sect c⟩] (st + 1)), [⟨0, 1, 1⟩, ⟨0, 0, 0⟩, ⟨0, 0, 0⟩, ⟨0, 0, 0⟩, ⟨0, 0, 0⟩, ⟨0, 0, 0⟩, ⟨0, 0, 0⟩, ⟨0, 0, 0⟩]⟩ : MV).scan (PVof ao 3 cc (onDevs 3) 1 0 S) = ⟨0, 3, 0, 0, 0, ⟨(AK p q r t0 (sect c) (sect c) [⟨0, 5, sect c⟩] (st + 1)), [⟨0, 1, 1⟩, ⟨0, 0, 0⟩, ⟨0, 0, 0⟩, ⟨0, 0, 0⟩, ⟨0, 0, 0⟩, ⟨0, 0, 0⟩, ⟨0, 0, 0⟩, ⟨0, 0, 0⟩]⟩⟩ := (scan_eq (ak_ask3 ..) l2 rfl).trans (by kernel_rfl)
  refine ⟨_, _, _, _, g1, s1, rfl, s2, fun i hi => ?_, by kernel_rfl, by kernel_rfl⟩
  rcases (by omega : i = 0 ∨ i = 1 ∨ i = 2) with rfl | rfl | rfl
  · exact ⟨by kernel_rfl, by kernel_rfl, .inr (by kernel_rfl)⟩
  · exact ⟨by kernel_rfl, by kernel_rfl, .inl (by kernel_rfl)⟩
  · exact ⟨by kernel_rfl, by kernel_rfl, .inl (by kernel_rfl)⟩
theorem heal_igi {p q r : Nat} {st : Int} {c : UInt8} {S : List UInt8} {ao : Option Addr} {cc : Nat} (hS : sumB (sect c) = S) {t0 : List UInt8} (h0 : sumB t0 ≠ S) {t2 : List UInt8} (h2 : sumB t2 ≠ S) : Healed 3 (sect c) (PVof ao 3 cc (onDevs 3) 1 0 S) (⟨AK p q r t0 (sect c) t2 [] st, zeroE⟩ : MV) 2 := by
  have f1 : found S (-1) (⟨AK p q r t0 (sect c) t2 [] st, zeroE⟩ : MV) (onDevs 3) [] = ⟨0, sect c, [(0, 5)], ⟨AK p q r t0 (sect c) t2 [] st, (zeroE.modify (0 : Int).toNat fSm)⟩⟩ := by
    refine (found_miss2 (x := (0, 5)) (l := [(1, 5), (2, 5)]) (by decide) (ak_rE0 ..) (ak_rB0 ..) h0 (ak_rd0 ..)).trans ?_
    exact found_hit2 (x := (1, 5)) (l := [(2, 5)]) (by decide) (ak_rE1 ..) (ak_rB1 ..) hS (ak_rd1 ..)
  have g1 : (⟨AK p q r t0 (sect c) t2 [] st, zeroE⟩ : MV).get (PVof ao 3 cc (onDevs 3) 1 0 S) = ⟨0, sect c, ⟨(AK p q r t0 (sect c) t2 [⟨0, 5, sect c⟩] (st + 1)), [⟨0, 1, 1⟩, ⟨0, 0, 0⟩, ⟨0, 0, 0⟩, ⟨0, 0, 0⟩, ⟨0, 0, 0⟩, ⟨0, 0, 0⟩, ⟨0, 0, 0⟩, ⟨0, 0, 0⟩]⟩⟩ := (get_eq (ak_ask3 ..) f1).trans (by kernel_rfl)
  have l1 : (⟨(AK p q r t0 (sect c) t2 [⟨0, 5, sect c⟩] (st + 1)), [⟨0, 1, 1⟩, ⟨0, 0, 0⟩, ⟨0, 0, 0⟩, ⟨0, 0, 0⟩, ⟨0, 0, 0⟩, ⟨0, 0, 0⟩, ⟨0, 0, 0⟩, ⟨0, 0, 0⟩]⟩ : MV).look (PVof ao 3 cc (onDevs 3) 1 0 S) = ⟨2, 0, [(2, 5)], sect c, ⟨(AK p q r t0 (sect c) t2 [⟨0, 5, sect c⟩] (st + 1)), (([⟨0, 1, 1⟩, ⟨0, 0, 0⟩, ⟨0, 0, 0⟩, ⟨0, 0, 0⟩, ⟨0, 0, 0⟩, ⟨0, 0, 0⟩, ⟨0, 0, 0⟩, ⟨0, 0, 0⟩] : List ER).modify (2 : Int).toNat fSm)⟩, false⟩ := by
    unfold MV.look
    show List.foldl (CR.next S) ⟨0, 0, [], [], _, false⟩ [(0, 5), (1, 5), (2, 5)] = _
    rw [List.foldl_cons, next_good (x := (0, 5)) (T := (sect c)) (ak_rE0 ..) (by kernel_rfl) hS (ak_rd0 ..)]
    rw [List.foldl_cons, next_good (x := (1, 5)) (T := (sect c)) (ak_rE1 ..) (by kernel_rfl) hS (ak_rd1 ..)]
    rw [List.foldl_cons, next_ill (x := (2, 5)) (T := t2) (ak_rE2 ..) (by kernel_rfl) h2 (ak_rd2 ..)]
    kernel_rfl
  have s1 : (⟨(AK p q r t0 (sect c) t2 [⟨0, 5, sect c⟩] (st + 1)), [⟨0, 1, 1⟩, ⟨0, 0, 0⟩, ⟨0, 0, 0⟩, ⟨0, 0, 0⟩, ⟨0, 0, 0⟩, ⟨0, 0, 0⟩, ⟨0, 0, 0⟩, ⟨0, 0, 0⟩]⟩ : MV).scan (PVof ao 3 cc (onDevs 3) 1 0 S) = ⟨0, 2, 1, 0, 0, ⟨(AK p q r t0 (sect c) t2 [⟨0, 5, sect c⟩, ⟨2, 5, sect c⟩] (st + 1 + 1)), [⟨0, 1, 1⟩, ⟨0, 0, 0⟩, ⟨0, 1, 1⟩, ⟨0, 0, 0⟩, ⟨0, 0, 0⟩, ⟨0, 0, 0⟩, ⟨0, 0, 0⟩, ⟨0, 0, 0⟩]⟩⟩ := (scan_eq (ak_ask3 ..) l1 rfl).trans (by kernel_rfl)
  have l2 : (⟨(AK p q r t0 (sect c) t2 [⟨0, 5, sect c⟩, ⟨2, 5, sect c⟩] (st + 1 + 1)), [⟨0, 1, 1⟩, ⟨0, 0, 0⟩, ⟨0, 1, 1⟩, ⟨0, 0, 0⟩, ⟨0, 0, 0⟩, ⟨0, 0, 0⟩, ⟨0, 0, 0⟩, ⟨0, 0, 0⟩]⟩ : MV).look (PVof ao 3 cc (onDevs 3) 1 0 S) = ⟨3, 0, [], sect c, ⟨(AK p q r t0 (sect c) t2 [⟨0, 5, sect c⟩, ⟨2, 5, sect c⟩] (st + 1 + 1)), ([⟨0, 1, 1⟩, ⟨0, 0, 0⟩, ⟨0, 1, 1⟩, ⟨0, 0, 0⟩, ⟨0, 0, 0⟩, ⟨0, 0, 0⟩, ⟨0, 0, 0⟩, ⟨0, 0, 0⟩] : List ER)⟩, false⟩ := by
    unfold MV.look
    show List.foldl (CR.next S) ⟨0, 0, [], [], _, false⟩ [(0, 5), (1, 5), (2, 5)] = _
    rw [List.foldl_cons, next_good (x := (0, 5)) (T := (sect c)) (ak_rE0 ..) (by kernel_rfl) hS (ak_rd0 ..)]
    rw [List.foldl_cons, next_good (x := (1, 5)) (T := (sect c)) (ak_rE1 ..) (by kernel_rfl) hS (ak_rd1 ..)]
    rw [List.foldl_cons, next_good (x := (2, 5)) (T := (sect c)) (ak_rE2 ..) (by kernel_rfl) hS (ak_rd2 ..)]
    kernel_rfl
  have s2 : (⟨(AK p q r t0 (sect c) t2 [⟨0, 5, sect c⟩, ⟨2, 5, sect c⟩] (st + 1 + 1)), [⟨0, 1, 1⟩, ⟨0, 0, 0⟩, ⟨0, 1, 1⟩, ⟨0, 0, 0⟩, ⟨0, 0, 0⟩, ⟨0, 0, 0⟩, ⟨0, 0, 0⟩, ⟨0, 0, 0⟩]⟩ : MV).scan (PVof ao 3 cc (onDevs 3) 1 0 S) = ⟨0, 3, 0, 0, 0, ⟨(AK p q r t0 (sect c) t2 [⟨0, 5, sect c⟩, ⟨2, 5, sect c⟩] (st + 1 + 1)), [⟨0, 1, 1⟩, ⟨0, 0, 0⟩, ⟨0, 1, 1⟩, ⟨0, 0, 0⟩, ⟨0, 0, 0⟩, ⟨0, 0, 0⟩, ⟨0, 0, 0⟩, ⟨0, 0, 0⟩]⟩⟩ := (scan_eq (ak_ask3 ..) l2 rfl).trans (by kernel_rfl)
  refine ⟨_, _, _, _, g1, s1, rfl, s2, fun i hi => ?_, by kernel_rfl, by kernel_rfl⟩
  rcases (by omega : i = 0 ∨ i = 1 ∨ i = 2) with rfl | rfl | rfl
  · exact ⟨by kernel_rfl, by kernel_rfl, .inr (by kernel_rfl)⟩
  · exact ⟨by kernel_rfl, by kernel_rfl, .inl (by kernel_rfl)⟩
  · exact ⟨by kernel_rfl, by kernel_rfl, .inr (by kernel_rfl)⟩
theorem heal_iig {p q r : Nat} {st : Int} {c : UInt8} {S : List UInt8} {ao : Option Addr} {cc : Nat} (hS : sumB (sect c) = S) {t0 : List UInt8} (h0 : sumB t0 ≠ S) {t1 : List UInt8} (h1 : sumB t1 ≠ S) : Healed 3 (sect c) (PVof ao 3 cc (onDevs 3) 1 0 S) (⟨AK p q r t0 t1 (sect c) [] st, zeroE⟩ : MV) 2 := by
  have f1 : found S (-1) (⟨AK p q r t0 t1 (sect c) [] st, zeroE⟩ : MV) (onDevs 3) [] = ⟨0, sect c, [(0, 5), (1, 5)], ⟨AK p q r t0 t1 (sect c) [] st, ((zeroE.modify (0 : Int).toNat fSm).modify (1 : Int).toNat fSm)⟩⟩ := by
    refine (found_miss2 (x := (0, 5)) (l := [(1, 5), (2, 5)]) (by decide) (ak_rE0 ..) (ak_rB0 ..) h0 (ak_rd0 ..)).trans ?_
    refine (found_miss2 (x := (1, 5)) (l := [(2, 5)]) (by decide) (ak_rE1 ..) (ak_rB1 ..) h1 (ak_rd1 ..)).trans ?_
    exact found_hit2 (x := (2, 5)) (l := []) (by decide) (ak_rE2 ..) (ak_rB2 ..) hS (ak_rd2 ..)
  have g1 : (⟨AK p q r t0 t1 (sect c) [] st, zeroE⟩ : MV).get (PVof ao 3 cc (onDevs 3) 1 0 S) = ⟨0, sect c, ⟨(AK p q r t0 t1 (sect c) [⟨0, 5, sect c⟩, ⟨1, 5, sect c⟩] (st + 1 + 1)), [⟨0, 1, 1⟩, ⟨0, 1, 1⟩, ⟨0, 0, 0⟩, ⟨0, 0, 0⟩, ⟨0, 0, 0⟩, ⟨0, 0, 0⟩, ⟨0, 0, 0⟩, ⟨0, 0, 0⟩]⟩⟩ := (get_eq (ak_ask3 ..) f1).trans (by kernel_rfl)
  have l1 : (⟨(AK p q r t0 t1 (sect c) [⟨0, 5, sect c⟩, ⟨1, 5, sect c⟩] (st + 1 + 1)), [⟨0, 1, 1⟩, ⟨0, 1, 1⟩, ⟨0, 0, 0⟩, ⟨0, 0, 0⟩, ⟨0, 0, 0⟩, ⟨0, 0, 0⟩, ⟨0, 0, 0⟩, ⟨0, 0, 0⟩]⟩ : MV).look (PVof ao 3 cc (onDevs 3) 1 0 S) = ⟨3, 0, [], sect c, ⟨(AK p q r t0 t1 (sect c) [⟨0, 5, sect c⟩, ⟨1, 5, sect c⟩] (st + 1 + 1)), ([⟨0, 1, 1⟩, ⟨0, 1, 1⟩, ⟨0, 0, 0⟩, ⟨0, 0, 0⟩, ⟨0, 0, 0⟩, ⟨0, 0, 0⟩, ⟨0, 0, 0⟩, ⟨0, 0, 0⟩] : List ER)⟩, false⟩ := by
    unfold MV.look
    show List.foldl (CR.next S) ⟨0, 0, [], [], _, false⟩ [(0, 5), (1, 5), (2, 5)] = _
    rw [List.foldl_cons, next_good (x := (0, 5)) (T := (sect c)) (ak_rE0 ..) (by kernel_rfl) hS (ak_rd0 ..)]
    rw [List.foldl_cons, next_good (x := (1, 5)) (T := (sect c)) (ak_rE1 ..) (by kernel_rfl) hS (ak_rd1 ..)]
    rw [List.foldl_cons, next_good (x := (2, 5)) (T := (sect c)) (ak_rE2 ..) (by kernel_rfl) hS (ak_rd2 ..)]
    kernel_rfl
  have s1 : (⟨(AK p q r t0 t1 (sect c) [⟨0, 5, sect c⟩, ⟨1, 5, sect c⟩] (st + 1 + 1)), [⟨0, 1, 1⟩, ⟨0, 1, 1⟩, ⟨0, 0, 0⟩, ⟨0, 0, 0⟩, ⟨0, 0, 0⟩, ⟨0, 0, 0⟩, ⟨0, 0, 0⟩, ⟨0, 0, 0⟩]⟩ : MV).scan (PVof ao 3 cc (onDevs 3) 1 0 S) = ⟨0, 3, 0, 0, 0, ⟨(AK p q r t0 t1 (sect c) [⟨0, 5, sect c⟩, ⟨1, 5, sect c⟩] (st + 1 + 1)), [⟨0, 1, 1⟩, ⟨0, 1, 1⟩, ⟨0, 0, 0⟩, ⟨0, 0, 0⟩, ⟨0, 0, 0⟩, ⟨0, 0, 0⟩, ⟨0, 0, 0⟩, ⟨0, 0, 0⟩]⟩⟩ := (scan_eq (ak_ask3 ..) l1 rfl).trans (by kernel_rfl)
  have l2 : (⟨(AK p q r t0 t1 (sect c) [⟨0, 5, sect c⟩, ⟨1, 5, sect c⟩] (st + 1 + 1)), [⟨0, 1, 1⟩, ⟨0, 1, 1⟩, ⟨0, 0, 0⟩, ⟨0, 0, 0⟩, ⟨0, 0, 0⟩, ⟨0, 0, 0⟩, ⟨0, 0, 0⟩, ⟨0, 0, 0⟩]⟩ : MV).look (PVof ao 3 cc (onDevs 3) 1 0 S) = ⟨3, 0, [], sect c, ⟨(AK p q r t0 t1 (sect c) [⟨0, 5, sect c⟩, ⟨1, 5, sect c⟩] (st + 1 + 1)), ([⟨0, 1, 1⟩, ⟨0, 1, 1⟩, ⟨0, 0, 0⟩, ⟨0, 0, 0⟩, ⟨0, 0, 0⟩, ⟨0, 0, 0⟩, ⟨0, 0, 0⟩, ⟨0, 0, 0⟩] : List ER)⟩, false⟩ := by
    unfold MV.look
    show List.foldl (CR.next S) ⟨0, 0, [], [], _, false⟩ [(0, 5), (1, 5), (2, 5)] = _
    rw [List.foldl_cons, next_good (x := (0, 5)) (T := (sect c)) (ak_rE0 ..) (by kernel_rfl) hS (ak_rd0 ..)]
    rw [List.foldl_cons, next_good (x := (1, 5)) (T := (sect c)) (ak_rE1 ..) (by kernel_rfl) hS (ak_rd1 ..)]
    rw [List.foldl_cons, next_good (x := (2, 5)) (T := (sect c)) (ak_rE2 ..) (by kernel_rfl) hS (ak_rd2 ..)]
    kernel_rfl
  have s2 : (⟨(AK p q r t0 t1 (sect c) [⟨0, 5, sect c⟩, ⟨1, 5, sect c⟩] (st + 1 + 1)), [⟨0, 1, 1⟩, ⟨0, 1, 1⟩, ⟨0, 0, 0⟩, ⟨0, 0, 0⟩, ⟨0, 0, 0⟩, ⟨0, 0, 0⟩, ⟨0, 0, 0⟩, ⟨0, 0, 0⟩]⟩ : MV).scan (PVof ao 3 cc (onDevs 3) 1 0 S) = ⟨0, 3, 0, 0, 0, ⟨(AK p q r t0 t1 (sect c) [⟨0, 5, sect c⟩, ⟨1, 5, sect c⟩] (st + 1 + 1)), [⟨0, 1, 1⟩, ⟨0, 1, 1⟩, ⟨0, 0, 0⟩, ⟨0, 0, 0⟩, ⟨0, 0, 0⟩, ⟨0, 0, 0⟩, ⟨0, 0, 0⟩, ⟨0, 0, 0⟩]⟩⟩ := (scan_eq (ak_ask3 ..) l2 rfl).trans (by kernel_rfl)
  refine ⟨_, _, _, _, g1, s1, rfl, s2, fun i hi => ?_, by kernel_rfl, by kernel_rfl⟩
  rcases (by omega : i = 0 ∨ i = 1 ∨ i = 2) with rfl | rfl | rfl
  · exact ⟨by kernel_rfl, by kernel_rfl, .inr (by kernel_rfl)⟩
  · exact ⟨by kernel_rfl, by kernel_rfl, .inr (by kernel_rfl)⟩
  · exact ⟨by kernel_rfl, by kernel_rfl, .inl (by kernel_rfl)⟩
theorem spoilt_iii {p q r : Nat} {st : Int} {S : List UInt8} {ao : Option Addr} {cc : Nat} {t0 : List UInt8} (h0 : sumB t0 ≠ S) {t1 : List UInt8} (h1 : sumB t1 ≠ S) {t2 : List UInt8} (h2 : sumB t2 ≠ S) : Spoilt 3 (PVof ao 3 cc (onDevs 3) 1 0 S) (⟨AK p q r t0 t1 t2 [] st, zeroE⟩ : MV) := by
  have f1 : found S (-1) (⟨AK p q r t0 t1 t2 [] st, zeroE⟩ : MV) (onDevs 3) [] = ⟨12, [], [], ⟨AK p q r t0 t1 t2 [] st, (((zeroE.modify (0 : Int).toNat fSm).modify (1 : Int).toNat fSm).modify (2 : Int).toNat fSm)⟩⟩ := by
    refine (found_miss2 (x := (0, 5)) (l := [(1, 5), (2, 5)]) (by decide) (ak_rE0 ..) (ak_rB0 ..) h0 (ak_rd0 ..)).trans ?_
    refine (found_miss2 (x := (1, 5)) (l := [(2, 5)]) (by decide) (ak_rE1 ..) (ak_rB1 ..) h1 (ak_rd1 ..)).trans ?_
    refine (found_miss2 (x := (2, 5)) (l := []) (by decide) (ak_rE2 ..) (ak_rB2 ..) h2 (ak_rd2 ..)).trans ?_
    rfl
  have g1 := get_bad (P := (PVof ao 3 cc (onDevs 3) 1 0 S)) (ak_ask3 ..) f1 (by decide)
  have l1 : (⟨AK p q r t0 t1 t2 [] st, (((zeroE.modify (0 : Int).toNat fSm).modify (1 : Int).toNat fSm).modify (2 : Int).toNat fSm)⟩ : MV).look (PVof ao 3 cc (onDevs 3) 1 0 S) = ⟨0, 0, [(0, 5), (1, 5), (2, 5)], [], ⟨AK p q r t0 t1 t2 [] st, ((((((zeroE.modify (0 : Int).toNat fSm).modify (1 : Int).toNat fSm).modify (2 : Int).toNat fSm).modify (0 : Int).toNat fSm).modify (1 : Int).toNat fSm).modify (2 : Int).toNat fSm)⟩, false⟩ := by
    unfold MV.look
    show List.foldl (CR.next S) ⟨0, 0, [], [], _, false⟩ [(0, 5), (1, 5), (2, 5)] = _
    rw [List.foldl_cons, next_ill (x := (0, 5)) (T := t0) (ak_rE0 ..) (ak_rB0 ..) h0 (ak_rd0 ..)]
    rw [List.foldl_cons, next_ill (x := (1, 5)) (T := t1) (ak_rE1 ..) (ak_rB1 ..) h1 (ak_rd1 ..)]
    rw [List.foldl_cons, next_ill (x := (2, 5)) (T := t2) (ak_rE2 ..) (ak_rB2 ..) h2 (ak_rd2 ..)]
    kernel_rfl
  have s1 := scan_eq (ak_ask3 ..) l1 rfl
  exact ⟨_, _, g1, s1, by kernel_rfl⟩
end Go.Proofs.Ytmdfbdfijnmhkaa
namespace Go.Proofs.Ytmdfbdfijnmhkaa
set_option linter.unusedVariables false
set_option linter.unusedSimpArgs false
open Go.RowKit Hp
set_option maxRecDepth 100000
set_option maxHeartbeats 4000000
theorem spo_id {s : List UInt8} {p : Nat} {m : UInt8} (h : m = 0) : spo s p m = s := by
  unfold spo
  rw [h, UInt8.xor_zero, List.getD_eq_getElem?_getD]
  by_cases hp : p < s.length
  · rw [List.getElem?_eq_getElem hp]
    simp
  · rw [List.set_eq_of_length_le (by omega)]
theorem spo_same (c : UInt8) {p : Nat} (m : UInt8) (hp : p < 256) : (spo (sect c) p m == sect c) = (m == 0) := by
  by_cases h : m = 0
  · rw [spo_id h, h, beq_self_eq_true, beq_self_eq_true]
  · rw [beq_eq_false_iff_ne.2 h, beq_eq_false_iff_ne]
    intro he
    have h1 := congrArg (fun l => l.getD p 0) he
    have hc : (sect c).getD p 0 = c := by
      unfold sect
      rw [List.getD_eq_getElem?_getD, List.getElem?_replicate, if_pos hp]
      rfl
    have hl : p < (sect c).length := by rw [sect_len]; exact hp
    unfold spo at h1
    rw [hc, List.getD_eq_getElem?_getD, List.getElem?_set_self hl] at h1
    have h2 : c ^^^ m = c := h1
    apply h
    have h3 : c ^^^ (c ^^^ m) = c ^^^ c := by rw [h2]
    rwa [← UInt8.xor_assoc, UInt8.xor_self, UInt8.zero_xor] at h3
def cont (b : List UInt8) (π : Nat → Nat) (μ : Nat → UInt8) (k i j : Nat) : List UInt8 := if j < i then spo b (π j) (μ j) else if j < k then b else sect 0
def H16 (p q r : Nat) (c : UInt8) (π : Nat → Nat) (μ : Nat → UInt8) (st : Int) (k i : Nat) : MV := ⟨AK p q r (cont (sect c) π μ k i 0) (cont (sect c) π μ k i 1) (cont (sect c) π μ k i 2) [] st, zeroE⟩
def illN (μ : Nat → UInt8) (i : Nat) : Nat := ((List.range i).filter fun j => μ j != 0).length
theorem illN_succ (μ : Nat → UInt8) (i : Nat) : illN μ (i + 1) = illN μ i + if μ i = 0 then 0 else 1 := by
  unfold illN
  rw [List.range_succ, List.filter_append, List.length_append]
  congr 1
  by_cases h : μ i = 0
  · rw [if_pos h, List.filter_cons_of_neg (by simp [h])]
    rfl
  · rw [if_neg h, List.filter_cons_of_pos (by simp [h])]
    rfl
theorem illN_le (μ : Nat → UInt8) (i : Nat) : illN μ i ≤ i := by
  unfold illN
  exact Nat.le_trans (List.length_filter_le _ _) (by rw [List.length_range]; exact Nat.le_refl _)
theorem cont_len {c : UInt8} {π : Nat → Nat} {μ : Nat → UInt8} {k i j : Nat} : (cont (sect c) π μ k i j).length = 256 := by
  unfold cont
  split
  · exact spo_len (sect_len _)
  · split <;> exact sect_len _
theorem h16_good {p q r : Nat} {c : UInt8} {π : Nat → Nat} {μ : Nat → UInt8} {st : Int} {k i : Nat} (h : 0 ≤ st ∧ st ≤ 10) : MGood (H16 p q r c π μ st k i) 10 :=
  ak_good cont_len cont_len cont_len (by simp) (by exact ⟨h.1, h.2⟩) (by decide) rfl (zeroE_ok _)
theorem spoE_1_0 {p q r : Nat} {c : UInt8} {π : Nat → Nat} {μ : Nat → UInt8} {st : Int} (h : π 0 < 256) : (H16 p q r c π μ st 1 0).a.spoilE (0 : Nat) 5 (π 0 : Nat) = 0 := by
  have hp : (decide (0 ≤ ((π 0 : Nat) : Int)) && decide (((π 0 : Nat) : Int) < 256)) = true := by simp; omega
  unfold AR.spoilE AR.spoilL
  rw [hp]
  rfl
theorem spo_1_0 {p q r : Nat} {c : UInt8} {π : Nat → Nat} {μ : Nat → UInt8} {st : Int} (h : π 0 < 256) : (H16 p q r c π μ st 1 0).a.spoil (0 : Nat) 5 (π 0 : Nat) (μ 0) = (H16 p q r c π μ st 1 1).a := by
  unfold AR.spoil
  rw [if_pos (spoE_1_0 h)]
  kernel_rfl
theorem spoE_2_0 {p q r : Nat} {c : UInt8} {π : Nat → Nat} {μ : Nat → UInt8} {st : Int} (h : π 0 < 256) : (H16 p q r c π μ st 2 0).a.spoilE (0 : Nat) 5 (π 0 : Nat) = 0 := by
  have hp : (decide (0 ≤ ((π 0 : Nat) : Int)) && decide (((π 0 : Nat) : Int) < 256)) = true := by simp; omega
  unfold AR.spoilE AR.spoilL
  rw [hp]
  rfl
theorem spo_2_0 {p q r : Nat} {c : UInt8} {π : Nat → Nat} {μ : Nat → UInt8} {st : Int} (h : π 0 < 256) : (H16 p q r c π μ st 2 0).a.spoil (0 : Nat) 5 (π 0 : Nat) (μ 0) = (H16 p q r c π μ st 2 1).a := by
  unfold AR.spoil
  rw [if_pos (spoE_2_0 h)]
  kernel_rfl
theorem spoE_2_1 {p q r : Nat} {c : UInt8} {π : Nat → Nat} {μ : Nat → UInt8} {st : Int} (h : π 1 < 256) : (H16 p q r c π μ st 2 1).a.spoilE (1 : Nat) 5 (π 1 : Nat) = 0 := by
  have hp : (decide (0 ≤ ((π 1 : Nat) : Int)) && decide (((π 1 : Nat) : Int) < 256)) = true := by simp; omega
  unfold AR.spoilE AR.spoilL
  rw [hp]
  rfl
theorem spo_2_1 {p q r : Nat} {c : UInt8} {π : Nat → Nat} {μ : Nat → UInt8} {st : Int} (h : π 1 < 256) : (H16 p q r c π μ st 2 1).a.spoil (1 : Nat) 5 (π 1 : Nat) (μ 1) = (H16 p q r c π μ st 2 2).a := by
  unfold AR.spoil
  rw [if_pos (spoE_2_1 h)]
  kernel_rfl
theorem spoE_3_0 {p q r : Nat} {c : UInt8} {π : Nat → Nat} {μ : Nat → UInt8} {st : Int} (h : π 0 < 256) : (H16 p q r c π μ st 3 0).a.spoilE (0 : Nat) 5 (π 0 : Nat) = 0 := by
  have hp : (decide (0 ≤ ((π 0 : Nat) : Int)) && decide (((π 0 : Nat) : Int) < 256)) = true := by simp; omega
  unfold AR.spoilE AR.spoilL
  rw [hp]
  rfl
theorem spo_3_0 {p q r : Nat} {c : UInt8} {π : Nat → Nat} {μ : Nat → UInt8} {st : Int} (h : π 0 < 256) : (H16 p q r c π μ st 3 0).a.spoil (0 : Nat) 5 (π 0 : Nat) (μ 0) = (H16 p q r c π μ st 3 1).a := by
  unfold AR.spoil
  rw [if_pos (spoE_3_0 h)]
  kernel_rfl
theorem spoE_3_1 {p q r : Nat} {c : UInt8} {π : Nat → Nat} {μ : Nat → UInt8} {st : Int} (h : π 1 < 256) : (H16 p q r c π μ st 3 1).a.spoilE (1 : Nat) 5 (π 1 : Nat) = 0 := by
  have hp : (decide (0 ≤ ((π 1 : Nat) : Int)) && decide (((π 1 : Nat) : Int) < 256)) = true := by simp; omega
  unfold AR.spoilE AR.spoilL
  rw [hp]
  rfl
theorem spo_3_1 {p q r : Nat} {c : UInt8} {π : Nat → Nat} {μ : Nat → UInt8} {st : Int} (h : π 1 < 256) : (H16 p q r c π μ st 3 1).a.spoil (1 : Nat) 5 (π 1 : Nat) (μ 1) = (H16 p q r c π μ st 3 2).a := by
  unfold AR.spoil
  rw [if_pos (spoE_3_1 h)]
  kernel_rfl
theorem spoE_3_2 {p q r : Nat} {c : UInt8} {π : Nat → Nat} {μ : Nat → UInt8} {st : Int} (h : π 2 < 256) : (H16 p q r c π μ st 3 2).a.spoilE (2 : Nat) 5 (π 2 : Nat) = 0 := by
  have hp : (decide (0 ≤ ((π 2 : Nat) : Int)) && decide (((π 2 : Nat) : Int) < 256)) = true := by simp; omega
  unfold AR.spoilE AR.spoilL
  rw [hp]
  rfl
theorem spo_3_2 {p q r : Nat} {c : UInt8} {π : Nat → Nat} {μ : Nat → UInt8} {st : Int} (h : π 2 < 256) : (H16 p q r c π μ st 3 2).a.spoil (2 : Nat) 5 (π 2 : Nat) (μ 2) = (H16 p q r c π μ st 3 3).a := by
  unfold AR.spoil
  rw [if_pos (spoE_3_2 h)]
  kernel_rfl
theorem h16_spoE {p q r : Nat} {c : UInt8} {π : Nat → Nat} {μ : Nat → UInt8} {st : Int} {k i : Nat} (hk : k ≤ 3) (hi : i < k) (h : π i < 256) : (H16 p q r c π μ st k i).a.spoilE (i : Nat) 5 (π i : Nat) = 0 := by
  rcases (by omega : (k = 1 ∧ i = 0) ∨ (k = 2 ∧ i = 0) ∨ (k = 2 ∧ i = 1) ∨ (k = 3 ∧ i = 0) ∨ (k = 3 ∧ i = 1) ∨ (k = 3 ∧ i = 2)) with ⟨rfl, rfl⟩ | ⟨rfl, rfl⟩ | ⟨rfl, rfl⟩ | ⟨rfl, rfl⟩ | ⟨rfl, rfl⟩ | ⟨rfl, rfl⟩
  · exact spoE_1_0 h
  · exact spoE_2_0 h
  · exact spoE_2_1 h
  · exact spoE_3_0 h
  · exact spoE_3_1 h
  · exact spoE_3_2 h
theorem h16_spo {p q r : Nat} {c : UInt8} {π : Nat → Nat} {μ : Nat → UInt8} {st : Int} {k i : Nat} (hk : k ≤ 3) (hi : i < k) (h : π i < 256) : (H16 p q r c π μ st k i).a.spoil (i : Nat) 5 (π i : Nat) (μ i) = (H16 p q r c π μ st k (i + 1)).a := by
  rcases (by omega : (k = 1 ∧ i = 0) ∨ (k = 2 ∧ i = 0) ∨ (k = 2 ∧ i = 1) ∨ (k = 3 ∧ i = 0) ∨ (k = 3 ∧ i = 1) ∨ (k = 3 ∧ i = 2)) with ⟨rfl, rfl⟩ | ⟨rfl, rfl⟩ | ⟨rfl, rfl⟩ | ⟨rfl, rfl⟩ | ⟨rfl, rfl⟩ | ⟨rfl, rfl⟩
  · exact spo_1_0 h
  · exact spo_2_0 h
  · exact spo_2_1 h
  · exact spo_3_0 h
  · exact spo_3_1 h
  · exact spo_3_2 h
theorem h16_peekB {p q r : Nat} {c : UInt8} {π : Nat → Nat} {μ : Nat → UInt8} {st : Int} {k i : Nat} (hk : k ≤ 3) (hi : i < k) : (H16 p q r c π μ st k (i + 1)).a.peekB (i : Nat) 5 = true := by
  rcases (by omega : (k = 1 ∧ i = 0) ∨ (k = 2 ∧ i = 0) ∨ (k = 2 ∧ i = 1) ∨ (k = 3 ∧ i = 0) ∨ (k = 3 ∧ i = 1) ∨ (k = 3 ∧ i = 2)) with ⟨rfl, rfl⟩ | ⟨rfl, rfl⟩ | ⟨rfl, rfl⟩ | ⟨rfl, rfl⟩ | ⟨rfl, rfl⟩ | ⟨rfl, rfl⟩
  · exact by kernel_rfl
  · exact by kernel_rfl
  · exact by kernel_rfl
  · exact by kernel_rfl
  · exact by kernel_rfl
  · exact by kernel_rfl
theorem h16_peekL {p q r : Nat} {c : UInt8} {π : Nat → Nat} {μ : Nat → UInt8} {st : Int} {k i : Nat} (hk : k ≤ 3) (hi : i < k) : (H16 p q r c π μ st k (i + 1)).a.peekL (i : Nat) 5 = spo (sect c) (π i) (μ i) := by
  rcases (by omega : (k = 1 ∧ i = 0) ∨ (k = 2 ∧ i = 0) ∨ (k = 2 ∧ i = 1) ∨ (k = 3 ∧ i = 0) ∨ (k = 3 ∧ i = 1) ∨ (k = 3 ∧ i = 2)) with ⟨rfl, rfl⟩ | ⟨rfl, rfl⟩ | ⟨rfl, rfl⟩ | ⟨rfl, rfl⟩ | ⟨rfl, rfl⟩ | ⟨rfl, rfl⟩
  · exact by kernel_rfl
  · exact by kernel_rfl
  · exact by kernel_rfl
  · exact by kernel_rfl
  · exact by kernel_rfl
  · exact by kernel_rfl
theorem h16_done1 {p q r : Nat} {c : UInt8} {π : Nat → Nat} {μ : Nat → UInt8} {st : Int} {S : List UInt8} {ao : Option Addr} {cc : Nat} (hS : sumB (sect c) = S) (hg : ∀ j, j < 1 → μ j = 0 ∨ sumB (spo (sect c) (π j) (μ j)) ≠ S) : if illN μ 1 = 1 then Spoilt 1 (PVof ao 1 cc (onDevs 1) 1 0 S) (H16 p q r c π μ st 1 1) else Healed 1 (sect c) (PVof ao 1 cc (onDevs 1) 1 0 S) (H16 p q r c π μ st 1 1) (illN μ 1) := by
  rw [show (H16 p q r c π μ st 1 1) = (⟨AK p q r (spo (sect c) (π 0) (μ 0)) (sect 0) (sect 0) [] st, zeroE⟩ : MV) from rfl]
  have g0 := hg 0 (by decide)
  clear hg
  by_cases z0 : μ 0 = 0
  · skip
    have hn : illN μ 1 = 0 := by simp [illN, List.range_succ, z0]
    rw [hn, if_neg (by decide)]
    rw [spo_id z0]
    exact heal_g hS
  · skip
    have hn : illN μ 1 = 1 := by simp [illN, List.range_succ, z0]
    rw [hn, if_pos rfl]
    exact spoilt_i (g0.resolve_left z0)
theorem h16_done2 {p q r : Nat} {c : UInt8} {π : Nat → Nat} {μ : Nat → UInt8} {st : Int} {S : List UInt8} {ao : Option Addr} {cc : Nat} (hS : sumB (sect c) = S) (hg : ∀ j, j < 2 → μ j = 0 ∨ sumB (spo (sect c) (π j) (μ j)) ≠ S) : if illN μ 2 = 2 then Spoilt 2 (PVof ao 2 cc (onDevs 2) 1 0 S) (H16 p q r c π μ st 2 2) else Healed 2 (sect c) (PVof ao 2 cc (onDevs 2) 1 0 S) (H16 p q r c π μ st 2 2) (illN μ 2) := by
  rw [show (H16 p q r c π μ st 2 2) = (⟨AK p q r (spo (sect c) (π 0) (μ 0)) (spo (sect c) (π 1) (μ 1)) (sect 0) [] st, zeroE⟩ : MV) from rfl]
  have g0 := hg 0 (by decide)
  have g1 := hg 1 (by decide)
  clear hg
  by_cases z0 : μ 0 = 0
  · skip
    by_cases z1 : μ 1 = 0
    · skip
      have hn : illN μ 2 = 0 := by simp [illN, List.range_succ, z0, z1]
      rw [hn, if_neg (by decide)]
      rw [spo_id z0, spo_id z1]
      exact heal_gg hS
    · skip
      have hn : illN μ 2 = 1 := by simp [illN, List.range_succ, z0, z1]
      rw [hn, if_neg (by decide)]
      rw [spo_id z0]
      exact heal_gi hS (g1.resolve_left z1)
  · skip
    by_cases z1 : μ 1 = 0
    · skip
      have hn : illN μ 2 = 1 := by simp [illN, List.range_succ, z0, z1]
      rw [hn, if_neg (by decide)]
      rw [spo_id z1]
      exact heal_ig hS (g0.resolve_left z0)
    · skip
      have hn : illN μ 2 = 2 := by simp [illN, List.range_succ, z0, z1]
      rw [hn, if_pos rfl]
      exact spoilt_ii (g0.resolve_left z0) (g1.resolve_left z1)
theorem h16_done3 {p q r : Nat} {c : UInt8} {π : Nat → Nat} {μ : Nat → UInt8} {st : Int} {S : List UInt8} {ao : Option Addr} {cc : Nat} (hS : sumB (sect c) = S) (hg : ∀ j, j < 3 → μ j = 0 ∨ sumB (spo (sect c) (π j) (μ j)) ≠ S) : if illN μ 3 = 3 then Spoilt 3 (PVof ao 3 cc (onDevs 3) 1 0 S) (H16 p q r c π μ st 3 3) else Healed 3 (sect c) (PVof ao 3 cc (onDevs 3) 1 0 S) (H16 p q r c π μ st 3 3) (illN μ 3) := by
  rw [show (H16 p q r c π μ st 3 3) = (⟨AK p q r (spo (sect c) (π 0) (μ 0)) (spo (sect c) (π 1) (μ 1)) (spo (sect c) (π 2) (μ 2)) [] st, zeroE⟩ : MV) from rfl]
  have g0 := hg 0 (by decide)
  have g1 := hg 1 (by decide)
  have g2 := hg 2 (by decide)
  clear hg
  by_cases z0 : μ 0 = 0
  · skip
    by_cases z1 : μ 1 = 0
    · skip
      by_cases z2 : μ 2 = 0
      · skip
        have hn : illN μ 3 = 0 := by simp [illN, List.range_succ, z0, z1, z2]
        rw [hn, if_neg (by decide)]
        rw [spo_id z0, spo_id z1, spo_id z2]
        exact heal_ggg hS
      · skip
        have hn : illN μ 3 = 1 := by simp [illN, List.range_succ, z0, z1, z2]
        rw [hn, if_neg (by decide)]
        rw [spo_id z0, spo_id z1]
        exact heal_ggi hS (g2.resolve_left z2)
    · skip
      by_cases z2 : μ 2 = 0
      · skip
        have hn : illN μ 3 = 1 := by simp [illN, List.range_succ, z0, z1, z2]
        rw [hn, if_neg (by decide)]
        rw [spo_id z0, spo_id z2]
        exact heal_gig hS (g1.resolve_left z1)
      · skip
        have hn : illN μ 3 = 2 := by simp [illN, List.range_succ, z0, z1, z2]
        rw [hn, if_neg (by decide)]
        rw [spo_id z0]
        exact heal_gii hS (g1.resolve_left z1) (g2.resolve_left z2)
  · skip
    by_cases z1 : μ 1 = 0
    · skip
      by_cases z2 : μ 2 = 0
      · skip
        have hn : illN μ 3 = 1 := by simp [illN, List.range_succ, z0, z1, z2]
        rw [hn, if_neg (by decide)]
        rw [spo_id z1, spo_id z2]
        exact heal_igg hS (g0.resolve_left z0)
      · skip
        have hn : illN μ 3 = 2 := by simp [illN, List.range_succ, z0, z1, z2]
        rw [hn, if_neg (by decide)]
        rw [spo_id z1]
        exact heal_igi hS (g0.resolve_left z0) (g2.resolve_left z2)
    · skip
      by_cases z2 : μ 2 = 0
      · skip
        have hn : illN μ 3 = 2 := by simp [illN, List.range_succ, z0, z1, z2]
        rw [hn, if_neg (by decide)]
        rw [spo_id z2]
        exact heal_iig hS (g0.resolve_left z0) (g1.resolve_left z1)
      · skip
        have hn : illN μ 3 = 3 := by simp [illN, List.range_succ, z0, z1, z2]
        rw [hn, if_pos rfl]
        exact spoilt_iii (g0.resolve_left z0) (g1.resolve_left z1) (g2.resolve_left z2)
theorem h16_done {p q r : Nat} {c : UInt8} {π : Nat → Nat} {μ : Nat → UInt8} {st : Int} {S : List UInt8} {ao : Option Addr} {cc k : Nat} (h1 : 1 ≤ k) (h3 : k ≤ 3) (hS : sumB (sect c) = S) (hg : ∀ j, j < k → μ j = 0 ∨ sumB (spo (sect c) (π j) (μ j)) ≠ S) : if illN μ k = k then Spoilt k (PVof ao k cc (onDevs k) 1 0 S) (H16 p q r c π μ st k k) else Healed k (sect c) (PVof ao k cc (onDevs k) 1 0 S) (H16 p q r c π μ st k k) (illN μ k) := by
  rcases (by omega : k = 1 ∨ k = 2 ∨ k = 3) with rfl | rfl | rfl
  · exact h16_done1 hS hg
  · exact h16_done2 hS hg
  · exact h16_done3 hS hg
end Go.Proofs.Ytmdfbdfijnmhkaa
namespace Go.Proofs.Ytmdfbdfijnmhkaa
set_option linter.unusedVariables false
set_option linter.unusedSimpArgs false
open Go.RowKit Hp
attribute [local irreducible] Go.Calls
set_option maxHeartbeats 1000000
def pickI (x n : Int) : Int := if n < 1 then 0 else x % n
theorem pickI_nat {x : Int} {n : Nat} (h : 0 < n) : ∃ k : Nat, k < n ∧ pickI x n = k := by
  have h1 := Int.emod_nonneg x (show (n : Int) ≠ 0 by omega)
  have h2 := Int.emod_lt_of_pos x (show (0 : Int) < n by omega)
  refine ⟨(x % n).toNat, by omega, ?_⟩
  unfold pickI
  rw [if_neg (by omega)]
  omega
theorem pick_spec (x n : Int) (w : World) (hx : -9223372036854775808 ≤ x ∧ x ≤ 9223372036854775807) (hn : -9223372036854775808 ≤ n ∧ n ≤ 9223372036854775807) :
    Calls Try.prog 7 #[.int .i64 x, .int .i64 n] w fun e w' => e = .returned (.int .i64 (pickI x n)) ∧ St w [] w' [] := by
  have hst := St.refl w
  by_cases h1 : n < 1
  · have d1 : decide (n < 1) = true := decide_eq_true h1
    have e : pickI x n = 0 := by unfold pickI; rw [if_pos h1]
    rw [e]
    clear h1 e
    go_enter Try.func7, Try.ntmps7
    go_wp2_with (first | go_big_skip | go_big_guard | fail)
    go_ret
    exact ⟨rfl, hst⟩
  · have d1 : decide (n < 1) = false := decide_eq_false h1
    obtain ⟨r, hr⟩ : ∃ r, r = Int.tmod x n := ⟨_, rfl⟩
    have q1 := Int.tmod_lt_of_pos x (show (0 : Int) < n by omega)
    have q2 := Int.lt_tmod_of_pos x (show (0 : Int) < n by omega)
    rw [← hr] at q1 q2
    have hw : IntKind.i64.wrap r = r := IntWalk.i64_in _ (by omega)
    have f1 : ∀ T, binOp .rem T (.int .i64 x) (.int .i64 n) = pure (.int .i64 r) := by
      intro T
      have hn0 : n ≠ 0 := by omega
      simp only [binOp]
      simp [Op.intDiv, hn0, ← hr, hw]
    have em : x % n = if r < 0 then r + n else r := by
      rw [hr, Int.tmod_eq_emod]
      have := Int.emod_nonneg x (show n ≠ 0 by omega)
      have := Int.emod_lt_of_pos x (show (0 : Int) < n by omega)
      split <;> (split <;> omega)
    have e : pickI x n = if r < 0 then r + n else r := by unfold pickI; rw [if_neg h1, em]
    rw [e]
    clear em e hr h1
    by_cases h2 : r < 0
    · have d2 : decide (r < 0) = true := decide_eq_true h2
      have z0 : IntKind.i64.wrap (r + n) = r + n := IntWalk.i64_in _ (by omega)
      rw [if_pos h2]
      clear h2
      go_enter Try.func7, Try.ntmps7
      go_wp2_with (first | go_big_skip | go_big_guard | fail)
      go_ret
      exact ⟨rfl, hst⟩
    · have d2 : decide (r < 0) = false := decide_eq_false h2
      rw [if_neg h2]
      clear h2
      go_enter Try.func7, Try.ntmps7
      go_wp2_with (first | go_big_skip | go_big_guard | fail)
      go_ret
      exact ⟨rfl, hst⟩
end Go.Proofs.Ytmdfbdfijnmhkaa
