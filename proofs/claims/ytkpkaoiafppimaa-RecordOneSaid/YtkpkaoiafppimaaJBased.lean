/- Nodes of sectors, as plain data. No program in sight. -/
import Derived.Test.YtkpkaoiafppimaaJBasec
import Derived.Test.YtkpkaoiafppimaaOpenB
import Derived.Test.YtkpkaoiafppimaaOpenP
import Derived.Deep.Slices
import Derived.Test.YtkpkaoiafppimaaPtrR
import Derived.Test.YtkpkaoiafppimaaPtrL
import Derived.Test.YtkpkaoiafppimaaD1
import Derived.Test.YtkpkaoiafppimaaNum
import Derived.Test.YtkpkaoiafppimaaSepP
import Derived.Test.YtkpkaoiafppimaaSepQ
import Derived.Test.YtkpkaoiafppimaaJBasea
import Derived.Test.YtkpkaoiafppimaaSepN
namespace Go.Proofs.Ytkpkaoiafppimaa
set_option linter.unusedVariables false
set_option linter.unusedSimpArgs false
open Go.RowKit Hp
attribute [local irreducible] Go.Calls Go.wpList
set_option maxRecDepth 100000
set_option maxHeartbeats 8000000
/-- A table lies in memory: its records at ar, its lives at al. -/
structure TabIn (w : World) (t : TC) (ar : Option Addr) (nr cr : Nat) (al : Option Addr) (nl cl : Nat) (xs : List (Value × RC)) : Prop where
  R : RecsIn w (.slice ar nr cr) nr xs
  eq : xs.map (·.2) = t.recs
  L : Rd w (.slice al nl cl) 1 nl (numsV t.lives)
  ln : t.lives.length = nl
  br : nr ≤ 1000000
  bl : nl ≤ 1000000
theorem TabIn.old {w0 w : World} {Ls : List HA} {t : TC} {ar al : Option Addr} {nr cr nl cl : Nat} {xs : List (Value × RC)} (hst : St w0 [] w Ls) (h : TabIn w0 t ar nr cr al nl cl xs) : TabIn w t ar nr cr al nl cl xs := ⟨h.R.old hst, h.eq, Rd.old hst h.L, h.ln, h.br, h.bl⟩
theorem TabIn.len {w : World} {t : TC} {ar al : Option Addr} {nr cr nl cl : Nat} {xs : List (Value × RC)} (h : TabIn w t ar nr cr al nl cl xs) : t.recs.length = nr := by rw [← h.eq, List.length_map, h.R.len]
theorem recs_at {w : World} {t : TC} {ar al : Option Addr} {nr cr nl cl j : Nat} {xs : List (Value × RC)} {x : Value × RC} (h : TabIn w t ar nr cr al nl cl xs) (hx : xs[j]? = some x) : t.recs[j]? = some x.2 := by rw [← h.eq]; exact map_at hx
theorem recs_all {l k : List RC} {xs ys : List (Value × RC)} {n : Nat} (hx : xs.map (·.2) = l) (hy : ys.map (·.2) = k) (hl : l.length = n) (hk : k.length = n) (h : ∀ (i : Nat) (x y : Value × RC), i < n → xs[i]? = some x → ys[i]? = some y → x.2.sameB y.2 = true) : recsB l k = true := by
  subst hx hy
  refine recsB_all (by rw [hl, hk]) (fun i x y hx hy => ?_)
  have hi : i < n := by rw [← hl]; exact (List.getElem?_eq_some_iff.1 hx).1
  rw [List.getElem?_map] at hx hy
  cases hx' : xs[i]? with
  | none => rw [hx'] at hx; cases hx
  | some u =>
    cases hy' : ys[i]? with
    | none => rw [hy'] at hy; cases hy
    | some v =>
      rw [hx'] at hx; rw [hy'] at hy
      cases hx; cases hy
      exact h i u v hi hx' hy'
theorem same12_any (t u : TC) (ar al ar' al' : Option Addr) (nr cr nl cl nr' cr' nl' cl' : Nat) (xs ys : List (Value × RC)) (w : World) (ht : TabIn w t ar nr cr al nl cl xs) (hu : TabIn w u ar' nr' cr' al' nl' cl' ys) :
    Calls Try.prog 28 #[.agg (tabC t (.slice ar nr cr) (.slice al nl cl)).toArray, .agg (tabC u (.slice ar' nr' cr') (.slice al' nl' cl')).toArray] w fun e w' => e = .returned (.bool (t.sameB u)) ∧ St w [] w' [] := by
  have hst0 := St.refl w
  have HT := hid ht
  have HU := hid hu
  have hbr := ht.br
  have hbr' := hu.br
  have hbl := ht.bl
  have hbl' := hu.bl
  obtain ⟨E, hE⟩ : ∃ E, E = t.sameB u := ⟨_, rfl⟩
  rw [← hE]
  have HE := hid hE
  clear ht hu hE
  cases d1 : (t.next == u.next)
  · have d1' : (t.next != u.next) = true := by rw [bne, d1]; rfl
    have hv : E = false := by rw [HE.out]; exact TC.same1 d1
    rw [hv]
    clear hv
    go_enter Try.func28, Try.ntmps28
    go_wp2_with (first | go_big_skip | go_big_guard | (refine wl_boxA hst0 rfl rfl rfl ?_; intro g2 w1 hst1; clear hst0) | (refine wl_boxA hst1 rfl rfl rfl ?_; intro g3 w2 hst; clear hst1) | (refine wl_loadE rfl rfl rfl ?_; first | refine ⟨_, Loads.at [] hst rfl, ?_⟩ | refine ⟨_, Loads.at [_] hst rfl, ?_⟩ | refine ⟨_, Loads.atA [.int .i64 u.kind, .int .i64 u.dev, .int .i64 u.at_, .int .i64 u.txg] [] hst rfl rfl, ?_⟩ | refine ⟨_, Loads.atA [.int .i64 t.kind, .int .i64 t.dev, .int .i64 t.at_, .int .i64 t.txg] [_] hst rfl rfl, ?_⟩))
    go_ret
    exact ⟨rfl, hst.nil⟩
  · have d1' : (t.next != u.next) = false := by rw [bne, d1]; rfl
    cases d2 : ([t.kind, t.dev, t.at_, t.txg] == [u.kind, u.dev, u.at_, u.txg])
    · skip
      have hv : E = false := by rw [HE.out]; exact TC.same2 d2
      rw [hv]
      clear hv
      go_enter Try.func28, Try.ntmps28
      go_wp2_with (first | go_big_skip | go_big_guard | (refine wl_boxA hst0 rfl rfl rfl ?_; intro g2 w1 hst1; clear hst0) | (refine wl_boxA hst1 rfl rfl rfl ?_; intro g3 w2 hst; clear hst1) | (refine wl_loadE rfl rfl rfl ?_; first | refine ⟨_, Loads.at [] hst rfl, ?_⟩ | refine ⟨_, Loads.at [_] hst rfl, ?_⟩ | refine ⟨_, Loads.atA [.int .i64 u.kind, .int .i64 u.dev, .int .i64 u.at_, .int .i64 u.txg] [] hst rfl rfl, ?_⟩ | refine ⟨_, Loads.atA [.int .i64 t.kind, .int .i64 t.dev, .int .i64 t.at_, .int .i64 t.txg] [_] hst rfl rfl, ?_⟩))
      go_ret
      exact ⟨rfl, hst.nil⟩
    · cases h3 : (t.lives == u.lives)
      · have H3 := hid h3
        have hv0 := TC.same3 (u := u) h3
        have HV := hid hv0
        clear h3 hv0
        have hv : E = false := by rw [HE.out]; exact HV.out
        rw [hv]
        clear hv
        go_enter Try.func28, Try.ntmps28
        go_wp2_with (first | go_big_skip | go_big_guard | (refine wl_boxA hst0 rfl rfl rfl ?_; intro g2 w1 hst1; clear hst0) | (refine wl_boxA hst1 rfl rfl rfl ?_; intro g3 w2 hst; clear hst1) | (refine wl_loadE rfl rfl rfl ?_; first | refine ⟨_, Loads.at [] hst rfl, ?_⟩ | refine ⟨_, Loads.at [_] hst rfl, ?_⟩ | refine ⟨_, Loads.atA [.int .i64 u.kind, .int .i64 u.dev, .int .i64 u.at_, .int .i64 u.txg] [] hst rfl rfl, ?_⟩ | refine ⟨_, Loads.atA [.int .i64 t.kind, .int .i64 t.dev, .int .i64 t.at_, .int .i64 t.txg] [_] hst rfl rfl, ?_⟩) | (go_at_call 60; refine (eqInts_any al al' nl cl nl' cl' t.lives u.lives _ (Rd.old hst HT.out.L) (Rd.old hst HU.out.L) HT.out.ln HU.out.ln hbl hbl').mono ?_; rw [H3.out]; rintro _ w9 ⟨rfl, h4⟩; replace hst := St.call0 hst h4; clear h4) | (go_at_call 61; refine (eqRecs_any ar ar' nr cr nr' cr' xs ys _ (HT.out.R.old hst) (HU.out.R.old hst) hbr hbr').mono ?_; rw [HT.out.eq, HU.out.eq, H4.out]; rintro _ w9 ⟨rfl, h4⟩; replace hst := St.call0 hst h4; clear h4))
        go_ret
        exact ⟨rfl, hst.nil⟩
      · have H3 := hid h3
        cases h4 : recsB t.recs u.recs
        · have H4 := hid h4
          have hv0 := TC.same4 (t := t) (u := u) h4
          have HV := hid hv0
          clear h3 h4 hv0
          have hv : E = false := by rw [HE.out]; exact HV.out
          rw [hv]
          clear hv
          go_enter Try.func28, Try.ntmps28
          go_wp2_with (first | go_big_skip | go_big_guard | (refine wl_boxA hst0 rfl rfl rfl ?_; intro g2 w1 hst1; clear hst0) | (refine wl_boxA hst1 rfl rfl rfl ?_; intro g3 w2 hst; clear hst1) | (refine wl_loadE rfl rfl rfl ?_; first | refine ⟨_, Loads.at [] hst rfl, ?_⟩ | refine ⟨_, Loads.at [_] hst rfl, ?_⟩ | refine ⟨_, Loads.atA [.int .i64 u.kind, .int .i64 u.dev, .int .i64 u.at_, .int .i64 u.txg] [] hst rfl rfl, ?_⟩ | refine ⟨_, Loads.atA [.int .i64 t.kind, .int .i64 t.dev, .int .i64 t.at_, .int .i64 t.txg] [_] hst rfl rfl, ?_⟩) | (go_at_call 60; refine (eqInts_any al al' nl cl nl' cl' t.lives u.lives _ (Rd.old hst HT.out.L) (Rd.old hst HU.out.L) HT.out.ln HU.out.ln hbl hbl').mono ?_; rw [H3.out]; rintro _ w9 ⟨rfl, h4⟩; replace hst := St.call0 hst h4; clear h4) | (go_at_call 61; refine (eqRecs_any ar ar' nr cr nr' cr' xs ys _ (HT.out.R.old hst) (HU.out.R.old hst) hbr hbr').mono ?_; rw [HT.out.eq, HU.out.eq, H4.out]; rintro _ w9 ⟨rfl, h4⟩; replace hst := St.call0 hst h4; clear h4))
          go_ret
          exact ⟨rfl, hst.nil⟩
        · have H4 := hid h4
          have HV := hid (TC.same0 d1 d2 h3 h4)
          clear h3 h4
          have hv : E = true := by rw [HE.out]; exact HV.out
          rw [hv]
          clear hv
          go_enter Try.func28, Try.ntmps28
          go_wp2_with (first | go_big_skip | go_big_guard | (refine wl_boxA hst0 rfl rfl rfl ?_; intro g2 w1 hst1; clear hst0) | (refine wl_boxA hst1 rfl rfl rfl ?_; intro g3 w2 hst; clear hst1) | (refine wl_loadE rfl rfl rfl ?_; first | refine ⟨_, Loads.at [] hst rfl, ?_⟩ | refine ⟨_, Loads.at [_] hst rfl, ?_⟩ | refine ⟨_, Loads.atA [.int .i64 u.kind, .int .i64 u.dev, .int .i64 u.at_, .int .i64 u.txg] [] hst rfl rfl, ?_⟩ | refine ⟨_, Loads.atA [.int .i64 t.kind, .int .i64 t.dev, .int .i64 t.at_, .int .i64 t.txg] [_] hst rfl rfl, ?_⟩) | (go_at_call 60; refine (eqInts_any al al' nl cl nl' cl' t.lives u.lives _ (Rd.old hst HT.out.L) (Rd.old hst HU.out.L) HT.out.ln HU.out.ln hbl hbl').mono ?_; rw [H3.out]; rintro _ w9 ⟨rfl, h4⟩; replace hst := St.call0 hst h4; clear h4) | (go_at_call 61; refine (eqRecs_any ar ar' nr cr nr' cr' xs ys _ (HT.out.R.old hst) (HU.out.R.old hst) hbr hbr').mono ?_; rw [HT.out.eq, HU.out.eq, H4.out]; rintro _ w9 ⟨rfl, h4⟩; replace hst := St.call0 hst h4; clear h4))
          go_ret
          exact ⟨rfl, hst.nil⟩
attribute [local go_sem ↓] heldInt heldInts heldRecs heldRec
theorem kitTable_any (t u : TC) (ar al ar' al' : Option Addr) (nr cr nl cl nr' cr' nl' cl' : Nat) (xs ys : List (Value × RC)) (w : World) (ht : TabIn w t ar nr cr al nl cl xs) (hu : TabIn w u ar' nr' cr' al' nl' cl' ys) :
    Calls Try.prog 12 #[.agg (tabC t (.slice ar nr cr) (.slice al nl cl)).toArray, .agg (tabC u (.slice ar' nr' cr') (.slice al' nl' cl')).toArray] w fun e w' => e = .returned (.bool (t.sameB u)) ∧ St w [] w' [] := by
  have hst0 := St.refl w
  have HT := hid ht
  have HU := hid hu
  have hbr := ht.br
  have hbr' := hu.br
  have hbl := ht.bl
  have hbl' := hu.bl
  obtain ⟨E, hE⟩ : ∃ E, E = t.sameB u := ⟨_, rfl⟩
  rw [← hE]
  have HE := hid hE
  clear ht hu hE
  cases d1 : (t.next == u.next)
  · have d1' : (t.next != u.next) = true := by rw [bne, d1]; rfl
    have hv : E = false := by rw [HE.out]; exact TC.same1 d1
    rw [hv]
    clear hv
    go_enter Try.func12, Try.ntmps12
    go_wp2_with (first | go_big_skip | go_big_guard | (refine wl_boxA hst0 rfl rfl rfl ?_; intro g2 w1 hst1; clear hst0) | (refine wl_boxA hst1 rfl rfl rfl ?_; intro g3 w2 hst; clear hst1) | (refine wl_loadE rfl rfl rfl ?_; first | refine ⟨_, Loads.at [] hst rfl, ?_⟩ | refine ⟨_, Loads.at [_] hst rfl, ?_⟩ | refine ⟨_, Loads.atA [.int .i64 u.kind, .int .i64 u.dev, .int .i64 u.at_, .int .i64 u.txg] [] hst rfl rfl, ?_⟩ | refine ⟨_, Loads.atA [.int .i64 t.kind, .int .i64 t.dev, .int .i64 t.at_, .int .i64 t.txg] [_] hst rfl rfl, ?_⟩))
    go_ret
    exact ⟨rfl, hst.nil⟩
  · have d1' : (t.next != u.next) = false := by rw [bne, d1]; rfl
    cases d2 : ([t.kind, t.dev, t.at_, t.txg] == [u.kind, u.dev, u.at_, u.txg])
    · skip
      have hv : E = false := by rw [HE.out]; exact TC.same2 d2
      rw [hv]
      clear hv
      go_enter Try.func12, Try.ntmps12
      go_wp2_with (first | go_big_skip | go_big_guard | (refine wl_boxA hst0 rfl rfl rfl ?_; intro g2 w1 hst1; clear hst0) | (refine wl_boxA hst1 rfl rfl rfl ?_; intro g3 w2 hst; clear hst1) | (refine wl_loadE rfl rfl rfl ?_; first | refine ⟨_, Loads.at [] hst rfl, ?_⟩ | refine ⟨_, Loads.at [_] hst rfl, ?_⟩ | refine ⟨_, Loads.atA [.int .i64 u.kind, .int .i64 u.dev, .int .i64 u.at_, .int .i64 u.txg] [] hst rfl rfl, ?_⟩ | refine ⟨_, Loads.atA [.int .i64 t.kind, .int .i64 t.dev, .int .i64 t.at_, .int .i64 t.txg] [_] hst rfl rfl, ?_⟩))
      go_ret
      exact ⟨rfl, hst.nil⟩
    · by_cases hnn : nr = nr'
      · subst hnn
        have d5 : ((nr : Int) != (nr : Int)) = false := by simp
        cases h3 : (t.lives == u.lives)
        · have H3 := hid h3
          have hv0 := TC.same3 (u := u) h3
          have HV := hid hv0
          clear h3 hv0
          have hv : E = false := by rw [HE.out]; exact HV.out
          rw [hv]
          clear hv
          go_enter Try.func12, Try.ntmps12
          go_wp2_with (first | go_big_skip | go_big_guard | (refine wl_boxA hst0 rfl rfl rfl ?_; intro g2 w1 hst1; clear hst0) | (refine wl_boxA hst1 rfl rfl rfl ?_; intro g3 w2 hst; clear hst1) | (refine wl_loadE rfl rfl rfl ?_; first | refine ⟨_, Loads.at [] hst rfl, ?_⟩ | refine ⟨_, Loads.at [_] hst rfl, ?_⟩ | refine ⟨_, Loads.atA [.int .i64 u.kind, .int .i64 u.dev, .int .i64 u.at_, .int .i64 u.txg] [] hst rfl rfl, ?_⟩ | refine ⟨_, Loads.atA [.int .i64 t.kind, .int .i64 t.dev, .int .i64 t.at_, .int .i64 t.txg] [_] hst rfl rfl, ?_⟩) | (go_at_call 37; refine (kitInts_any al al' nl cl nl' cl' t.lives u.lives _ (Rd.old hst HT.out.L) (Rd.old hst HU.out.L) HT.out.ln HU.out.ln hbl hbl').mono ?_; rw [H3.out]; rintro _ w9 ⟨rfl, h4⟩; replace hst := St.call0 hst h4; clear h4))
          go_ret
          exact ⟨rfl, hst.nil⟩
        · have H3 := hid h3
          have H12 := hid (And.intro d1 (And.intro (show (t.curL == u.curL) = true from d2) h3))
          clear h3
          go_enter Try.func12, Try.ntmps12
          go_wp2_with (first | go_big_skip | go_big_guard | (refine wl_boxA hst0 rfl rfl rfl ?_; intro g2 w1 hst1; clear hst0) | (refine wl_boxA hst1 rfl rfl rfl ?_; intro g3 w2 hst; clear hst1) | (refine wl_loadE rfl rfl rfl ?_; first | refine ⟨_, Loads.at [] hst rfl, ?_⟩ | refine ⟨_, Loads.at [_] hst rfl, ?_⟩ | refine ⟨_, Loads.atA [.int .i64 u.kind, .int .i64 u.dev, .int .i64 u.at_, .int .i64 u.txg] [] hst rfl rfl, ?_⟩ | refine ⟨_, Loads.atA [.int .i64 t.kind, .int .i64 t.dev, .int .i64 t.at_, .int .i64 t.txg] [_] hst rfl rfl, ?_⟩) | (go_at_call 37; refine (kitInts_any al al' nl cl nl' cl' t.lives u.lives _ (Rd.old hst HT.out.L) (Rd.old hst HU.out.L) HT.out.ln HU.out.ln hbl hbl').mono ?_; rw [H3.out]; rintro _ w9 ⟨rfl, h4⟩; replace hst := St.call0 hst h4; clear h4))
          go_loopw [5] (fun i wr => ∃ j : Nat, j ≤ nr ∧ i = .int .i64 (j : Int) ∧ St w [] wr [.blk g3 30 (tabC u (.slice ar' nr cr') (.slice al' nl' cl')), .blk g2 30 (tabC t (.slice ar nr cr) (.slice al nl cl))] ∧ Hid (∀ (i : Nat) (x y : Value × RC), i < j → xs[i]? = some x → ys[i]? = some y → x.2.sameB y.2 = true)) (fun i _ => nr - (intOf i).toNat)
          case atStart => exact ⟨0, Nat.zero_le _, rfl, hst, hid (fun i x y hi _ _ => by omega)⟩
          case round =>
            clear hst
            obtain ⟨j, hj, rfl, hst, HP⟩ := hrel
            by_cases hlt : j < nr
            · have e1 : decide ((j : Int) < (nr : Int)) = true := decide_eq_true (by omega)
              have z1 : IntKind.i64.wrap ((j : Int) + 1) = (j : Int) + 1 := IntWalk.i64_in _ (by omega)
              obtain ⟨x, lb, lo, hx, rfl, hin, hr⟩ := RecsIn.at HT.out.R hlt
              obtain ⟨y, lb2, lo2, hy, rfl, hin2, hr2⟩ := RecsIn.at HU.out.R hlt
              have HX := hid hx
              have HY := hid hy
              have HIX := hid hin
              have HIY := hid hin2
              have HLX := hid (cellsR_len hin.L)
              have HLY := hid (cellsR_len hin2.L)
              have HRX := hid hr
              have HRY := hid hr2
              clear hx hy hr hr2 hin hin2
              obtain ⟨q, hq⟩ : ∃ q, q = x.2.sameB y.2 := ⟨_, rfl⟩
              have HQ := hid hq
              clear hq
              cases q
              · go_wp2_with (first | go_big_skip | go_big_guard | (refine wl_loadE rfl rfl rfl ?_; first | refine ⟨_, Loads.at [] hst rfl, ?_⟩ | refine ⟨_, Loads.at [_] hst rfl, ?_⟩ | refine ⟨_, Loads.atA [.int .i64 u.kind, .int .i64 u.dev, .int .i64 u.at_, .int .i64 u.txg] [] hst rfl rfl, ?_⟩ | refine ⟨_, Loads.atA [.int .i64 t.kind, .int .i64 t.dev, .int .i64 t.at_, .int .i64 t.txg] [_] hst rfl rfl, ?_⟩))
                have hX := hst.drew
                clear hst
                refine wp_region_held_drew (S := (fun w' => (loadVarH 25 ⟨g2, 1, none⟩).run Try.prog w' = .ok (.slice (some ⟨lb, lo, none⟩) nr cr) w' ∧ (loadVarH 25 ⟨g3, 1, none⟩).run Try.prog w' = .ok (.slice (some ⟨lb2, lo2, none⟩) nr cr') w' ∧ (loadVarH 47 ⟨lb, lo + j * 44, none⟩).run Try.prog w' = .ok (.agg (cellsR x).toArray) w' ∧ (loadVarH 47 ⟨lb2, lo2 + j * 44, none⟩).run Try.prog w' = .ok (.agg (cellsR y).toArray) w')) (by kernel_rfl) (by exact ⟨ldS [_] hX rfl, ldS [] hX rfl, ldOA hX HLX.out HRX.out, ldOA hX HLY.out HRY.out⟩) (fun hHeld => ?_)
                refine tk 0 42 ?_
                (try simp only [Act.put, List.setIfInBounds_toArray, List.set_cons_zero, List.set_cons_succ])
                refine tk 2 44 ?_
                (try simp only [Act.put, List.setIfInBounds_toArray, List.set_cons_zero, List.set_cons_succ])
                refine tk 5 47 ?_
                (try simp only [Act.put, List.setIfInBounds_toArray, List.set_cons_zero, List.set_cons_succ])
                refine tk 7 49 ?_
                (try simp only [Act.put, List.setIfInBounds_toArray, List.set_cons_zero, List.set_cons_succ])
                refine tk 1 43 ?_
                (try simp only [Act.put, List.setIfInBounds_toArray, List.set_cons_zero, List.set_cons_succ])
                refine tk 6 48 ?_
                (try simp only [Act.put, List.setIfInBounds_toArray, List.set_cons_zero, List.set_cons_succ])
                refine tk 3 45 ?_
                (try simp only [Act.put, List.setIfInBounds_toArray, List.set_cons_zero, List.set_cons_succ])
                refine tk 8 50 ?_
                (try simp only [Act.put, List.setIfInBounds_toArray, List.set_cons_zero, List.set_cons_succ])
                refine tk 4 46 ?_
                (try simp only [Act.put, List.setIfInBounds_toArray, List.set_cons_zero, List.set_cons_succ])
                refine tk 9 51 ?_
                (try simp only [Act.put, List.setIfInBounds_toArray, List.set_cons_zero, List.set_cons_succ])
                refine wpAnyH_ready (rs := [10]) (by kernel_rfl) (by simp) ?_
                refine (AllReadyH.cons (o := ⟨some 52, _, _, _, _, _⟩) rfl (fun K hK => ?_) AllReadyH.nil)
                rw [if_pos (by rfl)]
                go_simp
                go_at_call 38
                refine (kitRec_any x y _ (RC.In.old hX.nil HIX.out) (RC.In.old hX.nil HIY.out)).mono ?_
                rw [← HQ.out]
                rintro _ w9 ⟨rfl, h4⟩
                have hA6 := St.call0 hX h4
                clear h4
                refine hK.out _ _ ?_ (fun hHeld => ?_)
                · exact ⟨ldS [_] hA6 rfl, ldS [] hA6 rfl, ldOA hA6 HLX.out HRX.out, ldOA hA6 HLY.out HRY.out⟩
                clear hK K
                (try simp only [Act.put, List.setIfInBounds_toArray, List.set_cons_zero, List.set_cons_succ])
                refine tk 11 53 ?_
                (try simp only [Act.put, List.setIfInBounds_toArray, List.set_cons_zero, List.set_cons_succ])
                refine wpAnyH_done (by kernel_rfl) ?_ _
                clear hHeld
                go_wp2_with (first | go_big_skip | go_big_guard | fail)
                go_ret
                exact ⟨by rw [HE.out, TC.same4 (recsB_no (recs_at HT.out HX.out) (recs_at HU.out HY.out) HQ.out.symm)]; rfl, hA6.nil⟩
              · go_wp2_with (first | go_big_skip | go_big_guard | (refine wl_loadE rfl rfl rfl ?_; first | refine ⟨_, Loads.at [] hst rfl, ?_⟩ | refine ⟨_, Loads.at [_] hst rfl, ?_⟩ | refine ⟨_, Loads.atA [.int .i64 u.kind, .int .i64 u.dev, .int .i64 u.at_, .int .i64 u.txg] [] hst rfl rfl, ?_⟩ | refine ⟨_, Loads.atA [.int .i64 t.kind, .int .i64 t.dev, .int .i64 t.at_, .int .i64 t.txg] [_] hst rfl rfl, ?_⟩))
                have hX := hst.drew
                clear hst
                refine wp_region_held_drew (S := (fun w' => (loadVarH 25 ⟨g2, 1, none⟩).run Try.prog w' = .ok (.slice (some ⟨lb, lo, none⟩) nr cr) w' ∧ (loadVarH 25 ⟨g3, 1, none⟩).run Try.prog w' = .ok (.slice (some ⟨lb2, lo2, none⟩) nr cr') w' ∧ (loadVarH 47 ⟨lb, lo + j * 44, none⟩).run Try.prog w' = .ok (.agg (cellsR x).toArray) w' ∧ (loadVarH 47 ⟨lb2, lo2 + j * 44, none⟩).run Try.prog w' = .ok (.agg (cellsR y).toArray) w')) (by kernel_rfl) (by exact ⟨ldS [_] hX rfl, ldS [] hX rfl, ldOA hX HLX.out HRX.out, ldOA hX HLY.out HRY.out⟩) (fun hHeld => ?_)
                refine tk 0 42 ?_
                (try simp only [Act.put, List.setIfInBounds_toArray, List.set_cons_zero, List.set_cons_succ])
                refine tk 2 44 ?_
                (try simp only [Act.put, List.setIfInBounds_toArray, List.set_cons_zero, List.set_cons_succ])
                refine tk 5 47 ?_
                (try simp only [Act.put, List.setIfInBounds_toArray, List.set_cons_zero, List.set_cons_succ])
                refine tk 7 49 ?_
                (try simp only [Act.put, List.setIfInBounds_toArray, List.set_cons_zero, List.set_cons_succ])
                refine tk 1 43 ?_
                (try simp only [Act.put, List.setIfInBounds_toArray, List.set_cons_zero, List.set_cons_succ])
                refine tk 6 48 ?_
                (try simp only [Act.put, List.setIfInBounds_toArray, List.set_cons_zero, List.set_cons_succ])
                refine tk 3 45 ?_
                (try simp only [Act.put, List.setIfInBounds_toArray, List.set_cons_zero, List.set_cons_succ])
                refine tk 8 50 ?_
                (try simp only [Act.put, List.setIfInBounds_toArray, List.set_cons_zero, List.set_cons_succ])
                refine tk 4 46 ?_
                (try simp only [Act.put, List.setIfInBounds_toArray, List.set_cons_zero, List.set_cons_succ])
                refine tk 9 51 ?_
                (try simp only [Act.put, List.setIfInBounds_toArray, List.set_cons_zero, List.set_cons_succ])
                refine wpAnyH_ready (rs := [10]) (by kernel_rfl) (by simp) ?_
                refine (AllReadyH.cons (o := ⟨some 52, _, _, _, _, _⟩) rfl (fun K hK => ?_) AllReadyH.nil)
                rw [if_pos (by rfl)]
                go_simp
                go_at_call 38
                refine (kitRec_any x y _ (RC.In.old hX.nil HIX.out) (RC.In.old hX.nil HIY.out)).mono ?_
                rw [← HQ.out]
                rintro _ w9 ⟨rfl, h4⟩
                have hA6 := St.call0 hX h4
                clear h4
                refine hK.out _ _ ?_ (fun hHeld => ?_)
                · exact ⟨ldS [_] hA6 rfl, ldS [] hA6 rfl, ldOA hA6 HLX.out HRX.out, ldOA hA6 HLY.out HRY.out⟩
                clear hK K
                (try simp only [Act.put, List.setIfInBounds_toArray, List.set_cons_zero, List.set_cons_succ])
                refine tk 11 53 ?_
                (try simp only [Act.put, List.setIfInBounds_toArray, List.set_cons_zero, List.set_cons_succ])
                refine wpAnyH_done (by kernel_rfl) ?_ _
                clear hHeld
                go_wp2_with (first | go_big_skip | go_big_guard | fail)
                go_roundw
                case rel => exact ⟨j + 1, by omega, rfl, hA6, hid (fun i a b hi ha hb => by
                  by_cases e : i = j
                  · subst e
                    rw [HX.out] at ha; rw [HY.out] at hb
                    cases ha; cases hb
                    exact HQ.out.symm
                  · exact HP.out i a b (by omega) ha hb)⟩
                case measure => simp [intOf]; omega
            · have e1 : decide ((j : Int) < (nr : Int)) = false := decide_eq_false (by omega)
              obtain rfl : j = nr := by omega
              have H4 := hid (recs_all HT.out.eq HU.out.eq HT.out.len HU.out.len HP.out)
              clear HP
              go_wp2_with (first | go_big_skip | go_big_guard | (refine wl_loadE rfl rfl rfl ?_; first | refine ⟨_, Loads.at [] hst rfl, ?_⟩ | refine ⟨_, Loads.at [_] hst rfl, ?_⟩ | refine ⟨_, Loads.atA [.int .i64 u.kind, .int .i64 u.dev, .int .i64 u.at_, .int .i64 u.txg] [] hst rfl rfl, ?_⟩ | refine ⟨_, Loads.atA [.int .i64 t.kind, .int .i64 t.dev, .int .i64 t.at_, .int .i64 t.txg] [_] hst rfl rfl, ?_⟩))
              go_ret
              exact ⟨by rw [HE.out, TC.same0 H12.out.1 H12.out.2.1 H12.out.2.2 H4.out]; rfl, hst.nil⟩
      · have d5 : ((nr : Int) != (nr' : Int)) = true := by rw [bne_iff_ne]; omega
        have hv0 := TC.same4 (t := t) (u := u) (recsB_len (by rw [HT.out.len, HU.out.len]; exact hnn))
        have HV := hid hv0
        clear hv0 hnn
        have hv : E = false := by rw [HE.out]; exact HV.out
        rw [hv]
        clear hv
        go_enter Try.func12, Try.ntmps12
        go_wp2_with (first | go_big_skip | go_big_guard | (refine wl_boxA hst0 rfl rfl rfl ?_; intro g2 w1 hst1; clear hst0) | (refine wl_boxA hst1 rfl rfl rfl ?_; intro g3 w2 hst; clear hst1) | (refine wl_loadE rfl rfl rfl ?_; first | refine ⟨_, Loads.at [] hst rfl, ?_⟩ | refine ⟨_, Loads.at [_] hst rfl, ?_⟩ | refine ⟨_, Loads.atA [.int .i64 u.kind, .int .i64 u.dev, .int .i64 u.at_, .int .i64 u.txg] [] hst rfl rfl, ?_⟩ | refine ⟨_, Loads.atA [.int .i64 t.kind, .int .i64 t.dev, .int .i64 t.at_, .int .i64 t.txg] [_] hst rfl rfl, ?_⟩))
        go_ret
        exact ⟨rfl, hst.nil⟩
theorem refSame12_any (t u : TC) (ar al ar' al' : Option Addr) (nr cr nl cl nr' cr' nl' cl' : Nat) (xs ys : List (Value × RC)) (w : World) (ht : TabIn w t ar nr cr al nl cl xs) (hu : TabIn w u ar' nr' cr' al' nl' cl' ys) :
    Calls Try.prog 29 #[.agg (tabC t (.slice ar nr cr) (.slice al nl cl)).toArray, .agg (tabC u (.slice ar' nr' cr') (.slice al' nl' cl')).toArray] w fun e w' => e = .returned (.bool (t.sameB u)) ∧ St w [] w' [] := by
  have hst0 := St.refl w
  have HT := hid ht
  have HU := hid hu
  have hbr := ht.br
  have hbr' := hu.br
  have hbl := ht.bl
  have hbl' := hu.bl
  obtain ⟨E, hE⟩ : ∃ E, E = t.sameB u := ⟨_, rfl⟩
  rw [← hE]
  have HE := hid hE
  clear ht hu hE
  cases d1 : (t.next == u.next)
  · have d1' : (t.next != u.next) = true := by rw [bne, d1]; rfl
    have hv : E = false := by rw [HE.out]; exact TC.same1 d1
    rw [hv]
    clear hv
    go_enter Try.func29, Try.ntmps29
    go_wp2_with (first | go_big_skip | go_big_guard | (refine wl_boxA hst0 rfl rfl rfl ?_; intro g2 w1 hst1; clear hst0) | (refine wl_boxA hst1 rfl rfl rfl ?_; intro g3 w2 hst; clear hst1) | (refine wl_loadE rfl rfl rfl ?_; first | refine ⟨_, Loads.at [] hst rfl, ?_⟩ | refine ⟨_, Loads.at [_] hst rfl, ?_⟩ | refine ⟨_, Loads.atA [.int .i64 u.kind, .int .i64 u.dev, .int .i64 u.at_, .int .i64 u.txg] [] hst rfl rfl, ?_⟩ | refine ⟨_, Loads.atA [.int .i64 t.kind, .int .i64 t.dev, .int .i64 t.at_, .int .i64 t.txg] [_] hst rfl rfl, ?_⟩))
    go_ret
    exact ⟨rfl, hst.nil⟩
  · have d1' : (t.next != u.next) = false := by rw [bne, d1]; rfl
    cases d2 : ([t.kind, t.dev, t.at_, t.txg] == [u.kind, u.dev, u.at_, u.txg])
    · skip
      have hv : E = false := by rw [HE.out]; exact TC.same2 d2
      rw [hv]
      clear hv
      go_enter Try.func29, Try.ntmps29
      go_wp2_with (first | go_big_skip | go_big_guard | (refine wl_boxA hst0 rfl rfl rfl ?_; intro g2 w1 hst1; clear hst0) | (refine wl_boxA hst1 rfl rfl rfl ?_; intro g3 w2 hst; clear hst1) | (refine wl_loadE rfl rfl rfl ?_; first | refine ⟨_, Loads.at [] hst rfl, ?_⟩ | refine ⟨_, Loads.at [_] hst rfl, ?_⟩ | refine ⟨_, Loads.atA [.int .i64 u.kind, .int .i64 u.dev, .int .i64 u.at_, .int .i64 u.txg] [] hst rfl rfl, ?_⟩ | refine ⟨_, Loads.atA [.int .i64 t.kind, .int .i64 t.dev, .int .i64 t.at_, .int .i64 t.txg] [_] hst rfl rfl, ?_⟩))
      go_ret
      exact ⟨rfl, hst.nil⟩
    · by_cases hnn : nr = nr'
      · subst hnn
        have d5 : ((nr : Int) != (nr : Int)) = false := by simp
        by_cases hll : nl = nl'
        · subst hll
          have d6 : ((nl : Int) != (nl : Int)) = false := by simp
          have H12 := hid (And.intro d1 (show (t.curL == u.curL) = true from d2))
          go_enter Try.func29, Try.ntmps29
          go_wp2_with (first | go_big_skip | go_big_guard | (refine wl_boxA hst0 rfl rfl rfl ?_; intro g2 w1 hst1; clear hst0) | (refine wl_boxA hst1 rfl rfl rfl ?_; intro g3 w2 hst; clear hst1) | (refine wl_loadE rfl rfl rfl ?_; first | refine ⟨_, Loads.at [] hst rfl, ?_⟩ | refine ⟨_, Loads.at [_] hst rfl, ?_⟩ | refine ⟨_, Loads.atA [.int .i64 u.kind, .int .i64 u.dev, .int .i64 u.at_, .int .i64 u.txg] [] hst rfl rfl, ?_⟩ | refine ⟨_, Loads.atA [.int .i64 t.kind, .int .i64 t.dev, .int .i64 t.at_, .int .i64 t.txg] [_] hst rfl rfl, ?_⟩))
          go_loopw [5] (fun i wr => ∃ j : Nat, j ≤ nr ∧ i = .int .i64 (j : Int) ∧ St w [] wr [.blk g3 30 (tabC u (.slice ar' nr cr') (.slice al' nl cl')), .blk g2 30 (tabC t (.slice ar nr cr) (.slice al nl cl))] ∧ Hid (∀ (i : Nat) (x y : Value × RC), i < j → xs[i]? = some x → ys[i]? = some y → x.2.sameB y.2 = true)) (fun i _ => nr - (intOf i).toNat)
          case atStart => exact ⟨0, Nat.zero_le _, rfl, hst, hid (fun i x y hi _ _ => by omega)⟩
          case round =>
            clear hst
            obtain ⟨j, hj, rfl, hst, HP⟩ := hrel
            by_cases hlt : j < nr
            · have e1 : decide ((j : Int) < (nr : Int)) = true := decide_eq_true (by omega)
              have z1 : IntKind.i64.wrap ((j : Int) + 1) = (j : Int) + 1 := IntWalk.i64_in _ (by omega)
              obtain ⟨x, lb, lo, hx, rfl, hin, hr⟩ := RecsIn.at HT.out.R hlt
              obtain ⟨y, lb2, lo2, hy, rfl, hin2, hr2⟩ := RecsIn.at HU.out.R hlt
              have HX := hid hx
              have HY := hid hy
              have HIX := hid hin
              have HIY := hid hin2
              have HLX := hid (cellsR_len hin.L)
              have HLY := hid (cellsR_len hin2.L)
              have HRX := hid hr
              have HRY := hid hr2
              clear hx hy hr hr2 hin hin2
              obtain ⟨q, hq⟩ : ∃ q, q = x.2.sameB y.2 := ⟨_, rfl⟩
              have HQ := hid hq
              clear hq
              cases q
              · go_wp2_with (first | go_big_skip | go_big_guard | (refine wl_loadE rfl rfl rfl ?_; first | refine ⟨_, Loads.at [] hst rfl, ?_⟩ | refine ⟨_, Loads.at [_] hst rfl, ?_⟩ | refine ⟨_, Loads.atA [.int .i64 u.kind, .int .i64 u.dev, .int .i64 u.at_, .int .i64 u.txg] [] hst rfl rfl, ?_⟩ | refine ⟨_, Loads.atA [.int .i64 t.kind, .int .i64 t.dev, .int .i64 t.at_, .int .i64 t.txg] [_] hst rfl rfl, ?_⟩))
                have hX := hst.drew
                clear hst
                refine wp_region_held_drew (S := (fun w' => (loadVarH 25 ⟨g2, 1, none⟩).run Try.prog w' = .ok (.slice (some ⟨lb, lo, none⟩) nr cr) w' ∧ (loadVarH 25 ⟨g3, 1, none⟩).run Try.prog w' = .ok (.slice (some ⟨lb2, lo2, none⟩) nr cr') w' ∧ (loadVarH 47 ⟨lb, lo + j * 44, none⟩).run Try.prog w' = .ok (.agg (cellsR x).toArray) w' ∧ (loadVarH 47 ⟨lb2, lo2 + j * 44, none⟩).run Try.prog w' = .ok (.agg (cellsR y).toArray) w')) (by kernel_rfl) (by exact ⟨ldS [_] hX rfl, ldS [] hX rfl, ldOA hX HLX.out HRX.out, ldOA hX HLY.out HRY.out⟩) (fun hHeld => ?_)
                refine tk 0 44 ?_
                (try simp only [Act.put, List.setIfInBounds_toArray, List.set_cons_zero, List.set_cons_succ])
                refine tk 2 46 ?_
                (try simp only [Act.put, List.setIfInBounds_toArray, List.set_cons_zero, List.set_cons_succ])
                refine tk 5 49 ?_
                (try simp only [Act.put, List.setIfInBounds_toArray, List.set_cons_zero, List.set_cons_succ])
                refine tk 7 51 ?_
                (try simp only [Act.put, List.setIfInBounds_toArray, List.set_cons_zero, List.set_cons_succ])
                refine tk 1 45 ?_
                (try simp only [Act.put, List.setIfInBounds_toArray, List.set_cons_zero, List.set_cons_succ])
                refine tk 6 50 ?_
                (try simp only [Act.put, List.setIfInBounds_toArray, List.set_cons_zero, List.set_cons_succ])
                refine tk 3 47 ?_
                (try simp only [Act.put, List.setIfInBounds_toArray, List.set_cons_zero, List.set_cons_succ])
                refine tk 8 52 ?_
                (try simp only [Act.put, List.setIfInBounds_toArray, List.set_cons_zero, List.set_cons_succ])
                refine tk 4 48 ?_
                (try simp only [Act.put, List.setIfInBounds_toArray, List.set_cons_zero, List.set_cons_succ])
                refine tk 9 53 ?_
                (try simp only [Act.put, List.setIfInBounds_toArray, List.set_cons_zero, List.set_cons_succ])
                refine wpAnyH_ready (rs := [10]) (by kernel_rfl) (by simp) ?_
                refine (AllReadyH.cons (o := ⟨some 54, _, _, _, _, _⟩) rfl (fun K hK => ?_) AllReadyH.nil)
                rw [if_pos (by rfl)]
                go_simp
                go_at_call 62
                refine (alike_any x y _ (RC.In.old hX.nil HIX.out) (RC.In.old hX.nil HIY.out)).mono ?_
                rw [← HQ.out]
                rintro _ w9 ⟨rfl, h4⟩
                have hA6 := St.call0 hX h4
                clear h4
                refine hK.out _ _ ?_ (fun hHeld => ?_)
                · exact ⟨ldS [_] hA6 rfl, ldS [] hA6 rfl, ldOA hA6 HLX.out HRX.out, ldOA hA6 HLY.out HRY.out⟩
                clear hK K
                (try simp only [Act.put, List.setIfInBounds_toArray, List.set_cons_zero, List.set_cons_succ])
                refine tk 11 55 ?_
                (try simp only [Act.put, List.setIfInBounds_toArray, List.set_cons_zero, List.set_cons_succ])
                refine wpAnyH_done (by kernel_rfl) ?_ _
                clear hHeld
                go_wp2_with (first | go_big_skip | go_big_guard | fail)
                go_ret
                exact ⟨by rw [HE.out, TC.same4 (recsB_no (recs_at HT.out HX.out) (recs_at HU.out HY.out) HQ.out.symm)]; rfl, hA6.nil⟩
              · go_wp2_with (first | go_big_skip | go_big_guard | (refine wl_loadE rfl rfl rfl ?_; first | refine ⟨_, Loads.at [] hst rfl, ?_⟩ | refine ⟨_, Loads.at [_] hst rfl, ?_⟩ | refine ⟨_, Loads.atA [.int .i64 u.kind, .int .i64 u.dev, .int .i64 u.at_, .int .i64 u.txg] [] hst rfl rfl, ?_⟩ | refine ⟨_, Loads.atA [.int .i64 t.kind, .int .i64 t.dev, .int .i64 t.at_, .int .i64 t.txg] [_] hst rfl rfl, ?_⟩))
                have hX := hst.drew
                clear hst
                refine wp_region_held_drew (S := (fun w' => (loadVarH 25 ⟨g2, 1, none⟩).run Try.prog w' = .ok (.slice (some ⟨lb, lo, none⟩) nr cr) w' ∧ (loadVarH 25 ⟨g3, 1, none⟩).run Try.prog w' = .ok (.slice (some ⟨lb2, lo2, none⟩) nr cr') w' ∧ (loadVarH 47 ⟨lb, lo + j * 44, none⟩).run Try.prog w' = .ok (.agg (cellsR x).toArray) w' ∧ (loadVarH 47 ⟨lb2, lo2 + j * 44, none⟩).run Try.prog w' = .ok (.agg (cellsR y).toArray) w')) (by kernel_rfl) (by exact ⟨ldS [_] hX rfl, ldS [] hX rfl, ldOA hX HLX.out HRX.out, ldOA hX HLY.out HRY.out⟩) (fun hHeld => ?_)
                refine tk 0 44 ?_
                (try simp only [Act.put, List.setIfInBounds_toArray, List.set_cons_zero, List.set_cons_succ])
                refine tk 2 46 ?_
                (try simp only [Act.put, List.setIfInBounds_toArray, List.set_cons_zero, List.set_cons_succ])
                refine tk 5 49 ?_
                (try simp only [Act.put, List.setIfInBounds_toArray, List.set_cons_zero, List.set_cons_succ])
                refine tk 7 51 ?_
                (try simp only [Act.put, List.setIfInBounds_toArray, List.set_cons_zero, List.set_cons_succ])
                refine tk 1 45 ?_
                (try simp only [Act.put, List.setIfInBounds_toArray, List.set_cons_zero, List.set_cons_succ])
                refine tk 6 50 ?_
                (try simp only [Act.put, List.setIfInBounds_toArray, List.set_cons_zero, List.set_cons_succ])
                refine tk 3 47 ?_
                (try simp only [Act.put, List.setIfInBounds_toArray, List.set_cons_zero, List.set_cons_succ])
                refine tk 8 52 ?_
                (try simp only [Act.put, List.setIfInBounds_toArray, List.set_cons_zero, List.set_cons_succ])
                refine tk 4 48 ?_
                (try simp only [Act.put, List.setIfInBounds_toArray, List.set_cons_zero, List.set_cons_succ])
                refine tk 9 53 ?_
                (try simp only [Act.put, List.setIfInBounds_toArray, List.set_cons_zero, List.set_cons_succ])
                refine wpAnyH_ready (rs := [10]) (by kernel_rfl) (by simp) ?_
                refine (AllReadyH.cons (o := ⟨some 54, _, _, _, _, _⟩) rfl (fun K hK => ?_) AllReadyH.nil)
                rw [if_pos (by rfl)]
                go_simp
                go_at_call 62
                refine (alike_any x y _ (RC.In.old hX.nil HIX.out) (RC.In.old hX.nil HIY.out)).mono ?_
                rw [← HQ.out]
                rintro _ w9 ⟨rfl, h4⟩
                have hA6 := St.call0 hX h4
                clear h4
                refine hK.out _ _ ?_ (fun hHeld => ?_)
                · exact ⟨ldS [_] hA6 rfl, ldS [] hA6 rfl, ldOA hA6 HLX.out HRX.out, ldOA hA6 HLY.out HRY.out⟩
                clear hK K
                (try simp only [Act.put, List.setIfInBounds_toArray, List.set_cons_zero, List.set_cons_succ])
                refine tk 11 55 ?_
                (try simp only [Act.put, List.setIfInBounds_toArray, List.set_cons_zero, List.set_cons_succ])
                refine wpAnyH_done (by kernel_rfl) ?_ _
                clear hHeld
                go_wp2_with (first | go_big_skip | go_big_guard | fail)
                go_roundw
                case rel => exact ⟨j + 1, by omega, rfl, hA6, hid (fun i a b hi ha hb => by
                  by_cases e : i = j
                  · subst e
                    rw [HX.out] at ha; rw [HY.out] at hb
                    cases ha; cases hb
                    exact HQ.out.symm
                  · exact HP.out i a b (by omega) ha hb)⟩
                case measure => simp [intOf]; omega
            · have e1 : decide ((j : Int) < (nr : Int)) = false := decide_eq_false (by omega)
              obtain rfl : j = nr := by omega
              have H4 := hid (recs_all HT.out.eq HU.out.eq HT.out.len HU.out.len HP.out)
              clear HP
              go_wp2_with (first | go_big_skip | go_big_guard | (refine wl_loadE rfl rfl rfl ?_; first | refine ⟨_, Loads.at [] hst rfl, ?_⟩ | refine ⟨_, Loads.at [_] hst rfl, ?_⟩ | refine ⟨_, Loads.atA [.int .i64 u.kind, .int .i64 u.dev, .int .i64 u.at_, .int .i64 u.txg] [] hst rfl rfl, ?_⟩ | refine ⟨_, Loads.atA [.int .i64 t.kind, .int .i64 t.dev, .int .i64 t.at_, .int .i64 t.txg] [_] hst rfl rfl, ?_⟩))
              go_loopw [6] (fun i wr => ∃ k : Nat, k ≤ nl ∧ i = .int .i64 (k : Int) ∧ St w [] wr [.blk g3 30 (tabC u (.slice ar' j cr') (.slice al' nl cl')), .blk g2 30 (tabC t (.slice ar j cr) (.slice al nl cl))] ∧ Hid (∀ (i : Nat) (x y : Int), i < k → t.lives[i]? = some x → u.lives[i]? = some y → x = y)) (fun i _ => nl - (intOf i).toNat)
              case atStart => exact ⟨0, Nat.zero_le _, rfl, hst, hid (fun i x y hi _ _ => by omega)⟩
              case round =>
                clear hst
                obtain ⟨k, hk, rfl, hst, HP⟩ := hrel
                by_cases hltk : k < nl
                · have e2 : decide ((k : Int) < (nl : Int)) = true := decide_eq_true (by omega)
                  have z1 : IntKind.i64.wrap ((k : Int) + 1) = (k : Int) + 1 := IntWalk.i64_in _ (by omega)
                  obtain ⟨x, hx⟩ : ∃ x, t.lives[k]? = some x := ⟨_, List.getElem?_eq_getElem (by rw [HT.out.ln]; exact hltk)⟩
                  obtain ⟨y, hy⟩ : ∃ y, u.lives[k]? = some y := ⟨_, List.getElem?_eq_getElem (by rw [HU.out.ln]; exact hltk)⟩
                  obtain ⟨lb, lo, rfl, hr⟩ := Rd.at HT.out.L hltk
                  obtain ⟨lb2, lo2, rfl, hr2⟩ := Rd.at HU.out.L hltk
                  have HX := hid hx
                  have HY := hid hy
                  have HCX := hid (hr k _ (numsV_get hx))
                  have HCY := hid (hr2 k _ (numsV_get hy))
                  clear hx hy hr hr2
                  by_cases hxy : x = y
                  · have d7 : (x != y) = false := by rw [hxy]; simp
                    have HXY := hid hxy
                    clear hxy
                    go_wp2_with (first | go_big_skip | go_big_guard | (refine wl_loadE rfl rfl rfl ?_; first | refine ⟨_, Loads.at [] hst rfl, ?_⟩ | refine ⟨_, Loads.at [_] hst rfl, ?_⟩ | refine ⟨_, Loads.atA [.int .i64 u.kind, .int .i64 u.dev, .int .i64 u.at_, .int .i64 u.txg] [] hst rfl rfl, ?_⟩ | refine ⟨_, Loads.atA [.int .i64 t.kind, .int .i64 t.dev, .int .i64 t.at_, .int .i64 t.txg] [_] hst rfl rfl, ?_⟩))
                    have hX := hst.drew
                    clear hst
                    refine wp_region_held_drew (S := (fun w' => (loadVarH 28 ⟨g2, 6, none⟩).run Try.prog w' = .ok (.slice (some ⟨lb, lo, none⟩) nl cl) w' ∧ (loadVarH 28 ⟨g3, 6, none⟩).run Try.prog w' = .ok (.slice (some ⟨lb2, lo2, none⟩) nl cl') w' ∧ (loadVarH 3 ⟨lb, lo + k, none⟩).run Try.prog w' = .ok (.int .i64 x) w' ∧ (loadVarH 3 ⟨lb2, lo2 + k, none⟩).run Try.prog w' = .ok (.int .i64 y) w')) (by kernel_rfl) (by exact ⟨ldS [_] hX rfl, ldS [] hX rfl, ldO hX HCX.out, ldO hX HCY.out⟩) (fun hHeld => ?_)
                    refine tk 0 63 ?_
                    (try simp only [Act.put, List.setIfInBounds_toArray, List.set_cons_zero, List.set_cons_succ])
                    refine tk 2 65 ?_
                    (try simp only [Act.put, List.setIfInBounds_toArray, List.set_cons_zero, List.set_cons_succ])
                    refine tk 5 68 ?_
                    (try simp only [Act.put, List.setIfInBounds_toArray, List.set_cons_zero, List.set_cons_succ])
                    refine tk 7 70 ?_
                    (try simp only [Act.put, List.setIfInBounds_toArray, List.set_cons_zero, List.set_cons_succ])
                    refine tk 1 64 ?_
                    (try simp only [Act.put, List.setIfInBounds_toArray, List.set_cons_zero, List.set_cons_succ])
                    refine tk 6 69 ?_
                    (try simp only [Act.put, List.setIfInBounds_toArray, List.set_cons_zero, List.set_cons_succ])
                    refine tk 3 66 ?_
                    (try simp only [Act.put, List.setIfInBounds_toArray, List.set_cons_zero, List.set_cons_succ])
                    refine tk 8 71 ?_
                    (try simp only [Act.put, List.setIfInBounds_toArray, List.set_cons_zero, List.set_cons_succ])
                    refine tk 4 67 ?_
                    (try simp only [Act.put, List.setIfInBounds_toArray, List.set_cons_zero, List.set_cons_succ])
                    refine tk 9 72 ?_
                    (try simp only [Act.put, List.setIfInBounds_toArray, List.set_cons_zero, List.set_cons_succ])
                    refine tk 10 73 ?_
                    (try simp only [Act.put, List.setIfInBounds_toArray, List.set_cons_zero, List.set_cons_succ])
                    refine wpAnyH_done (by kernel_rfl) ?_ _
                    clear hHeld
                    go_wp2_with (first | go_big_skip | go_big_guard | fail)
                    go_roundw
                    case rel => exact ⟨k + 1, by omega, rfl, hX, hid (fun i a b hi ha hb => by
                      by_cases e : i = k
                      · subst e
                        rw [HX.out] at ha; rw [HY.out] at hb
                        cases ha; cases hb
                        exact HXY.out
                      · exact HP.out i a b (by omega) ha hb)⟩
                    case measure => simp [intOf]; omega
                  · have d7 : (x != y) = true := by rw [bne_iff_ne]; exact hxy
                    have HXY := hid hxy
                    clear hxy
                    go_wp2_with (first | go_big_skip | go_big_guard | (refine wl_loadE rfl rfl rfl ?_; first | refine ⟨_, Loads.at [] hst rfl, ?_⟩ | refine ⟨_, Loads.at [_] hst rfl, ?_⟩ | refine ⟨_, Loads.atA [.int .i64 u.kind, .int .i64 u.dev, .int .i64 u.at_, .int .i64 u.txg] [] hst rfl rfl, ?_⟩ | refine ⟨_, Loads.atA [.int .i64 t.kind, .int .i64 t.dev, .int .i64 t.at_, .int .i64 t.txg] [_] hst rfl rfl, ?_⟩))
                    have hX := hst.drew
                    clear hst
                    refine wp_region_held_drew (S := (fun w' => (loadVarH 28 ⟨g2, 6, none⟩).run Try.prog w' = .ok (.slice (some ⟨lb, lo, none⟩) nl cl) w' ∧ (loadVarH 28 ⟨g3, 6, none⟩).run Try.prog w' = .ok (.slice (some ⟨lb2, lo2, none⟩) nl cl') w' ∧ (loadVarH 3 ⟨lb, lo + k, none⟩).run Try.prog w' = .ok (.int .i64 x) w' ∧ (loadVarH 3 ⟨lb2, lo2 + k, none⟩).run Try.prog w' = .ok (.int .i64 y) w')) (by kernel_rfl) (by exact ⟨ldS [_] hX rfl, ldS [] hX rfl, ldO hX HCX.out, ldO hX HCY.out⟩) (fun hHeld => ?_)
                    refine tk 0 63 ?_
                    (try simp only [Act.put, List.setIfInBounds_toArray, List.set_cons_zero, List.set_cons_succ])
                    refine tk 2 65 ?_
                    (try simp only [Act.put, List.setIfInBounds_toArray, List.set_cons_zero, List.set_cons_succ])
                    refine tk 5 68 ?_
                    (try simp only [Act.put, List.setIfInBounds_toArray, List.set_cons_zero, List.set_cons_succ])
                    refine tk 7 70 ?_
                    (try simp only [Act.put, List.setIfInBounds_toArray, List.set_cons_zero, List.set_cons_succ])
                    refine tk 1 64 ?_
                    (try simp only [Act.put, List.setIfInBounds_toArray, List.set_cons_zero, List.set_cons_succ])
                    refine tk 6 69 ?_
                    (try simp only [Act.put, List.setIfInBounds_toArray, List.set_cons_zero, List.set_cons_succ])
                    refine tk 3 66 ?_
                    (try simp only [Act.put, List.setIfInBounds_toArray, List.set_cons_zero, List.set_cons_succ])
                    refine tk 8 71 ?_
                    (try simp only [Act.put, List.setIfInBounds_toArray, List.set_cons_zero, List.set_cons_succ])
                    refine tk 4 67 ?_
                    (try simp only [Act.put, List.setIfInBounds_toArray, List.set_cons_zero, List.set_cons_succ])
                    refine tk 9 72 ?_
                    (try simp only [Act.put, List.setIfInBounds_toArray, List.set_cons_zero, List.set_cons_succ])
                    refine tk 10 73 ?_
                    (try simp only [Act.put, List.setIfInBounds_toArray, List.set_cons_zero, List.set_cons_succ])
                    refine wpAnyH_done (by kernel_rfl) ?_ _
                    clear hHeld
                    go_wp2_with (first | go_big_skip | go_big_guard | fail)
                    go_ret
                    exact ⟨by rw [HE.out, TC.same3 (ints_no HX.out HY.out HXY.out)]; rfl, hX.nil⟩
                · have e2 : decide ((k : Int) < (nl : Int)) = false := decide_eq_false (by omega)
                  have H3 := hid (ints_all (by rw [HT.out.ln, HU.out.ln]) (fun i x y hx hy => HP.out i x y (by have := (List.getElem?_eq_some_iff.1 hx).1; have := HT.out.ln; omega) hx hy))
                  go_wp2_with (first | go_big_skip | go_big_guard | (refine wl_loadE rfl rfl rfl ?_; first | refine ⟨_, Loads.at [] hst rfl, ?_⟩ | refine ⟨_, Loads.at [_] hst rfl, ?_⟩ | refine ⟨_, Loads.atA [.int .i64 u.kind, .int .i64 u.dev, .int .i64 u.at_, .int .i64 u.txg] [] hst rfl rfl, ?_⟩ | refine ⟨_, Loads.atA [.int .i64 t.kind, .int .i64 t.dev, .int .i64 t.at_, .int .i64 t.txg] [_] hst rfl rfl, ?_⟩))
                  go_ret
                  exact ⟨by rw [HE.out, TC.same0 H12.out.1 H12.out.2 H3.out H4.out]; rfl, hst.nil⟩
        · have d6 : ((nl : Int) != (nl' : Int)) = true := by rw [bne_iff_ne]; omega
          have hv0 := TC.same3 (t := t) (u := u) (ints_len (by rw [HT.out.ln, HU.out.ln]; exact hll))
          have HV := hid hv0
          clear hv0 hll
          have hv : E = false := by rw [HE.out]; exact HV.out
          rw [hv]
          clear hv
          go_enter Try.func29, Try.ntmps29
          go_wp2_with (first | go_big_skip | go_big_guard | (refine wl_boxA hst0 rfl rfl rfl ?_; intro g2 w1 hst1; clear hst0) | (refine wl_boxA hst1 rfl rfl rfl ?_; intro g3 w2 hst; clear hst1) | (refine wl_loadE rfl rfl rfl ?_; first | refine ⟨_, Loads.at [] hst rfl, ?_⟩ | refine ⟨_, Loads.at [_] hst rfl, ?_⟩ | refine ⟨_, Loads.atA [.int .i64 u.kind, .int .i64 u.dev, .int .i64 u.at_, .int .i64 u.txg] [] hst rfl rfl, ?_⟩ | refine ⟨_, Loads.atA [.int .i64 t.kind, .int .i64 t.dev, .int .i64 t.at_, .int .i64 t.txg] [_] hst rfl rfl, ?_⟩))
          go_ret
          exact ⟨rfl, hst.nil⟩
      · have d5 : ((nr : Int) != (nr' : Int)) = true := by rw [bne_iff_ne]; omega
        have hv0 := TC.same4 (t := t) (u := u) (recsB_len (by rw [HT.out.len, HU.out.len]; exact hnn))
        have HV := hid hv0
        clear hv0 hnn
        have hv : E = false := by rw [HE.out]; exact HV.out
        rw [hv]
        clear hv
        go_enter Try.func29, Try.ntmps29
        go_wp2_with (first | go_big_skip | go_big_guard | (refine wl_boxA hst0 rfl rfl rfl ?_; intro g2 w1 hst1; clear hst0) | (refine wl_boxA hst1 rfl rfl rfl ?_; intro g3 w2 hst; clear hst1) | (refine wl_loadE rfl rfl rfl ?_; first | refine ⟨_, Loads.at [] hst rfl, ?_⟩ | refine ⟨_, Loads.at [_] hst rfl, ?_⟩ | refine ⟨_, Loads.atA [.int .i64 u.kind, .int .i64 u.dev, .int .i64 u.at_, .int .i64 u.txg] [] hst rfl rfl, ?_⟩ | refine ⟨_, Loads.atA [.int .i64 t.kind, .int .i64 t.dev, .int .i64 t.at_, .int .i64 t.txg] [_] hst rfl rfl, ?_⟩))
        go_ret
        exact ⟨rfl, hst.nil⟩
end Go.Proofs.Ytkpkaoiafppimaa
namespace Go.Proofs.Ytkpkaoiafppimaa
set_option linter.unusedVariables false
set_option linter.unusedSimpArgs false
open Go.RowKit Hp
attribute [local irreducible] Go.Calls Go.wpList
set_option maxRecDepth 100000
set_option maxHeartbeats 8000000
def RC.longB (r : RC) : Bool := decide ((100 : Int) < (r.name.length : Int)) || decide ((20 : Int) < (r.l.length : Int))
def TC.longB (t : TC) : Bool := (t.recs.take 21).any RC.longB || (decide ((20 : Int) < (t.recs.length : Int)) || decide ((20 : Int) < (t.lives.length : Int)))
theorem TC.long_no {t : TC} (h : t.longB = false) : t.recs.length ≤ 20 ∧ t.lives.length ≤ 20 ∧ ∀ r ∈ t.recs, r.name.length ≤ 100 ∧ r.l.length ≤ 20 := by
  unfold TC.longB at h
  rw [Bool.or_eq_false_iff, Bool.or_eq_false_iff, decide_eq_false_iff_not, decide_eq_false_iff_not] at h
  obtain ⟨h1, h2, h3⟩ := h
  refine ⟨by omega, by omega, fun r hr => ?_⟩
  rw [List.take_of_length_le (by omega)] at h1
  have := List.any_eq_false.1 h1 r hr
  unfold RC.longB at this
  simp only [Bool.or_eq_true, decide_eq_true_eq, not_or] at this
  omega
theorem any_take {l : List RC} {p : RC → Bool} {j : Nat} {x : RC} (hx : l[j]? = some x) (h : (l.take j).any p = false) (hp : p x = false) : (l.take (j + 1)).any p = false := by
  rw [List.take_add_one, hx, List.any_append, h]
  simp [hp]
theorem any_hit {l : List RC} {p : RC → Bool} {j : Nat} {x : RC} (hx : l[j]? = some x) (hj : j < 21) (hp : p x = true) : (l.take 21).any p = true := by
  rw [List.any_eq_true]
  obtain ⟨hlt, hg⟩ := List.getElem?_eq_some_iff.1 hx
  exact ⟨x, by rw [List.mem_take_iff_getElem]; exact ⟨j, by omega, hg⟩, hp⟩
/-- A table lies in memory, however long. -/
structure TabAny (w : World) (t : TC) (ar : Option Addr) (nr cr : Nat) (al : Option Addr) (nl cl : Nat) (xs : List (Value × RC)) : Prop where
  R : RecsIn w (.slice ar nr cr) nr xs
  eq : xs.map (·.2) = t.recs
  L : Rd w (.slice al nl cl) 1 nl (numsV t.lives)
  ln : t.lives.length = nl
theorem TabAny.len {w : World} {t : TC} {ar al : Option Addr} {nr cr nl cl : Nat} {xs : List (Value × RC)} (h : TabAny w t ar nr cr al nl cl xs) : t.recs.length = nr := by rw [← h.eq, List.length_map, h.R.len]
theorem TabAny.old {w0 w : World} {Ls : List HA} {t : TC} {ar al : Option Addr} {nr cr nl cl : Nat} {xs : List (Value × RC)} (hst : St w0 [] w Ls) (h : TabAny w0 t ar nr cr al nl cl xs) : TabAny w t ar nr cr al nl cl xs := ⟨h.R.old hst, h.eq, Rd.old hst h.L, h.ln⟩
theorem TabAny.tab {w : World} {t : TC} {ar al : Option Addr} {nr cr nl cl : Nat} {xs : List (Value × RC)} (h : TabAny w t ar nr cr al nl cl xs) (hl : t.longB = false) : TabIn w t ar nr cr al nl cl xs := by
  obtain ⟨h1, h2, _⟩ := TC.long_no hl
  exact ⟨h.R, h.eq, h.L, h.ln, by have := h.len; omega, by have := h.ln; omega⟩
theorem recs_atA {w : World} {t : TC} {ar al : Option Addr} {nr cr nl cl j : Nat} {xs : List (Value × RC)} {x : Value × RC} (h : TabAny w t ar nr cr al nl cl xs) (hx : xs[j]? = some x) : t.recs[j]? = some x.2 := by rw [← h.eq]; exact map_at hx
theorem longTable_any (t : TC) (ar al : Option Addr) (nr cr nl cl : Nat) (xs : List (Value × RC)) (w : World) (ht : TabAny w t ar nr cr al nl cl xs) :
    Calls Try.prog 21 #[.agg (tabC t (.slice ar nr cr) (.slice al nl cl)).toArray] w fun e w' => e = .returned (.bool t.longB) ∧ St w [] w' [] := by
  have hst0 := St.refl w
  have HT := hid ht
  obtain ⟨E, hE⟩ : ∃ E, E = t.longB := ⟨_, rfl⟩
  rw [← hE]
  have HE := hid hE
  clear ht hE
  go_enter Try.func21, Try.ntmps21
  go_wp2_with (first | go_big_skip | go_big_guard | (refine wl_boxA hst0 rfl rfl rfl ?_; intro g1 w1 hst; clear hst0) | (refine wl_loadE rfl rfl rfl ?_; first | refine ⟨_, Loads.at [] hst rfl, ?_⟩ | refine ⟨_, Loads.old hst HCN.out, ?_⟩ | refine ⟨_, Loads.old hst HCS.out, ?_⟩))
  go_loopw [3] (fun i wr => ∃ j : Nat, j ≤ nr ∧ j ≤ 21 ∧ i = .int .i64 (j : Int) ∧ St w [] wr [.blk g1 30 (tabC t (.slice ar nr cr) (.slice al nl cl))] ∧ Hid ((t.recs.take j).any RC.longB = false)) (fun i _ => nr - (intOf i).toNat)
  case atStart => exact ⟨0, Nat.zero_le _, Nat.zero_le _, rfl, hst, hid rfl⟩
  case round =>
    clear hst
    obtain ⟨j, hj, hj21, rfl, hst, HP⟩ := hrel
    by_cases hlt : j < nr
    · have e1 : decide ((j : Int) < (nr : Int)) = true := decide_eq_true (by omega)
      by_cases h21 : j < 21
      · have e2 : decide ((j : Int) < 21) = true := decide_eq_true (by omega)
        have z1 : IntKind.i64.wrap ((j : Int) + 1) = (j : Int) + 1 := IntWalk.i64_in _ (by omega)
        obtain ⟨x, lb, lo, hx, rfl, hin, hr⟩ := RecsIn.at HT.out.R hlt
        obtain ⟨⟨_, so, sn, sc, hsv, hsr, hsl⟩, _⟩ := hin
        have HX := hid (recs_atA HT.out hx)
        have HCN := hid (show w.cell? ⟨lb, lo + j * 44 + 1, none⟩ = some (.string ⟨x.2.name.toArray⟩) from hr 1 _ rfl)
        have HCS := hid (show w.cell? ⟨lb, lo + j * 44 + 4, none⟩ = some (.slice so sn sc) by
          have := hr 4 x.1 rfl
          rw [show x.1 = .slice so sn sc from hsv] at this
          exact this)
        have hsz : (⟨x.2.name.toArray⟩ : ByteArray).size = x.2.name.length := by simp [ByteArray.size]
        have HSL := hid (show x.2.l.length = sn from hsl)
        clear hx hr hsv hsr hsl
        by_cases hn : 100 < x.2.name.length
        · have e3 : decide ((x.2.name.length : Int) > 100) = true := decide_eq_true (by omega)
          have e3' : decide ((100 : Int) < (x.2.name.length : Int)) = true := e3
          have HL := hid (show x.2.longB = true by unfold RC.longB; rw [e3']; rfl)
          go_wp2_with (first | go_big_skip | go_big_guard | (refine wl_loadE rfl rfl rfl ?_; first | refine ⟨_, Loads.at [] hst rfl, ?_⟩ | refine ⟨_, Loads.old hst HCN.out, ?_⟩ | refine ⟨_, Loads.old hst HCS.out, ?_⟩) | (refine wl_index rfl rfl rfl rfl hlt ?_))
          go_ret
          exact ⟨by rw [HE.out, TC.longB, any_hit HX.out h21 HL.out]; rfl, hst.nil⟩
        · have e3 : decide ((x.2.name.length : Int) > 100) = false := decide_eq_false (by omega)
          have e3' : decide ((100 : Int) < (x.2.name.length : Int)) = false := e3
          by_cases hs : 20 < sn
          · have e4 : decide ((sn : Int) > 20) = true := decide_eq_true (by omega)
            have e4' : decide ((20 : Int) < (sn : Int)) = true := e4
            have HL := hid (show x.2.longB = true by unfold RC.longB; rw [HSL.out, e4']; simp)
            go_wp2_with (first | go_big_skip | go_big_guard | (refine wl_loadE rfl rfl rfl ?_; first | refine ⟨_, Loads.at [] hst rfl, ?_⟩ | refine ⟨_, Loads.old hst HCN.out, ?_⟩ | refine ⟨_, Loads.old hst HCS.out, ?_⟩) | (refine wl_index rfl rfl rfl rfl hlt ?_))
            go_ret
            exact ⟨by rw [HE.out, TC.longB, any_hit HX.out h21 HL.out]; rfl, hst.nil⟩
          · have e4 : decide ((sn : Int) > 20) = false := decide_eq_false (by omega)
            have e4' : decide ((20 : Int) < (sn : Int)) = false := e4
            have HL := hid (show x.2.longB = false by unfold RC.longB; rw [HSL.out, e4', e3']; rfl)
            go_wp2_with (first | go_big_skip | go_big_guard | (refine wl_loadE rfl rfl rfl ?_; first | refine ⟨_, Loads.at [] hst rfl, ?_⟩ | refine ⟨_, Loads.old hst HCN.out, ?_⟩ | refine ⟨_, Loads.old hst HCS.out, ?_⟩) | (refine wl_index rfl rfl rfl rfl hlt ?_))
            go_roundw
            case rel => exact ⟨j + 1, by omega, by omega, rfl, hst, hid (any_take HX.out HP.out HL.out)⟩
            case measure => simp [intOf]; omega
      · have e2 : decide ((j : Int) < 21) = false := decide_eq_false (by omega)
        have e3 : decide ((nr : Int) > 20) = true := decide_eq_true (by omega)
        have e3' : decide ((20 : Int) < (nr : Int)) = true := e3
        go_wp2_with (first | go_big_skip | go_big_guard | (refine wl_loadE rfl rfl rfl ?_; first | refine ⟨_, Loads.at [] hst rfl, ?_⟩ | refine ⟨_, Loads.old hst HCN.out, ?_⟩ | refine ⟨_, Loads.old hst HCS.out, ?_⟩))
        go_ret
        refine ⟨?_, hst.nil⟩
        rw [HE.out, TC.longB, HT.out.len, e3', Bool.true_or, Bool.or_true]
        rfl
    · have e1 : decide ((j : Int) < (nr : Int)) = false := decide_eq_false (by omega)
      have H0 := hid (show (t.recs.take 21).any RC.longB = false by
        have h := HP.out
        have hl := HT.out.len
        rw [List.take_of_length_le (by omega)] at h
        have : (t.recs.take 21) = t.recs := List.take_of_length_le (by omega)
        rw [this]; exact h)
      by_cases h20 : 20 < nr
      · have e3 : decide ((nr : Int) > 20) = true := decide_eq_true (by omega)
        have e3' : decide ((20 : Int) < (nr : Int)) = true := e3
        go_wp2_with (first | go_big_skip | go_big_guard | (refine wl_loadE rfl rfl rfl ?_; first | refine ⟨_, Loads.at [] hst rfl, ?_⟩ | refine ⟨_, Loads.old hst HCN.out, ?_⟩ | refine ⟨_, Loads.old hst HCS.out, ?_⟩))
        go_ret
        refine ⟨?_, hst.nil⟩
        rw [HE.out, TC.longB, HT.out.len, e3', Bool.true_or, Bool.or_true]
        rfl
      · have e3 : decide ((nr : Int) > 20) = false := decide_eq_false (by omega)
        have e3' : decide ((20 : Int) < (nr : Int)) = false := e3
        go_wp2_with (first | go_big_skip | go_big_guard | (refine wl_loadE rfl rfl rfl ?_; first | refine ⟨_, Loads.at [] hst rfl, ?_⟩ | refine ⟨_, Loads.old hst HCN.out, ?_⟩ | refine ⟨_, Loads.old hst HCS.out, ?_⟩))
        go_ret
        refine ⟨?_, hst.nil⟩
        rw [HE.out, TC.longB, HT.out.len, HT.out.ln, e3', H0.out]
        rfl
end Go.Proofs.Ytkpkaoiafppimaa
namespace Go.Proofs.Ytkpkaoiafppimaa
set_option linter.unusedVariables false
set_option linter.unusedSimpArgs false
open Go.ChangeShapes Go.WideShapes Go.ChangeAt Go.RowKit Go.Deep Go.Lib Go.Joins Hp
set_option maxRecDepth 100000
theorem flat_invD {α : Type} {f : α → List Value} {sz : Nat} (hl : ∀ a, (f a).length = sz) : ∀ (ks : List α) (k : Nat) (v : Value), (ks.flatMap f)[k]? = some v → ∃ i j x, ks[i]? = some x ∧ k = i * sz + j ∧ (f x)[j]? = some v ∧ j < sz
  | [], k, v, h => by simp at h
  | x :: ks, k, v, h => by
    rw [List.flatMap_cons] at h
    by_cases hk : k < sz
    · rw [List.getElem?_append_left (by rw [hl]; exact hk)] at h
      exact ⟨0, k, x, rfl, by omega, h, hk⟩
    · rw [List.getElem?_append_right (by rw [hl]; omega), hl] at h
      obtain ⟨i, j, y, h1, h2, h3, h4⟩ := flat_invD hl ks (k - sz) v h
      refine ⟨i + 1, j, y, by simpa using h1, ?_, h3, h4⟩
      rw [Nat.succ_mul]
      omega
theorem flat_lenD {α : Type} {f : α → List Value} {sz : Nat} (hl : ∀ a, (f a).length = sz) (ks : List α) : (ks.flatMap f).length = ks.length * sz := by
  induction ks with
  | nil => simp
  | cons x ks ih => rw [List.flatMap_cons, List.length_append, ih, hl, List.length_cons, Nat.succ_mul]; omega
theorem spot_addD {a : Addr} (h : (a.add 0).spot = none) : a.spot = none := by
  simpa [Addr.add] using h
theorem spot_cellD {W : World} {a : Addr} {v : Value} (h1 : W.cell? a = some v) : a.spot = none := by
  unfold World.cell? at h1
  split at h1
  · by_cases hs : a.spot = none
    · exact hs
    · have : (a.spot).isSome = true := by
        cases hq : a.spot with
        | none => exact absurd hq hs
        | some q => rfl
      rw [if_pos this] at h1
      cases h1
  · cases h1
/-- A slice of structs within a handed value. -/
theorem open_structsD {α : Type} [Inhabited α] {f : α → List Value} {sz : Nat} (hl : ∀ a, (f a).length = sz) (hsz : 0 < sz) (ok : α → World → Prop) {H : Type} {enc : TypeId × Value → H} {W : World} {fuel : Nat} {T e : TypeId} {cs : List Value} {x : DataW H × List MemPlace} (hT : Try.prog.underlying T = some (.slice e)) (he : Try.prog.cellsOf e = sz)
    (hop : ∀ (fuel : Nat) (cs : List Value) (x : DataW H × List MemPlace), cs.length = sz → DataW.trod enc Try.prog W 0 (fun _ => true) true fuel e cs = some x → ∃ k : α, cs = f k ∧ ok k W)
    (h : DataW.trod enc Try.prog W 0 (fun _ => true) true fuel T cs = some x) : ∃ ao n c, ∃ ks : List α, cs = [.slice ao n c] ∧ Rd W (.slice ao n c) sz n (ks.flatMap f) ∧ ks.length = n ∧ ∀ x ∈ ks, ok x W := by
  rcases open_slice hT h with ⟨hc, _⟩ | ⟨a', len, cap, m, n, D, Pl, hc, _, hll, hm, hmm, _, hx⟩
  · exact ⟨none, 0, 0, [], hc, Rd.nil _ _, rfl, by simp⟩
  · by_cases h0 : cap = 0
    · subst h0
      obtain rfl : len = 0 := by omega
      exact ⟨some a', 0, 0, [], hc, Rd.empty _ _ _, rfl, by simp⟩
    · simp only [if_true] at hmm
      rw [he] at hx
      obtain ⟨cs0, h1, h2⟩ := hx 0 (by omega)
      obtain ⟨_, hlen0, hcell0⟩ := World.cells?_some h1
      have hspot : a'.spot = none := by
        have h3 := hcell0 0 hsz
        rw [Nat.zero_mul] at h3
        have : cs0[0]? = some cs0[0] := List.getElem?_eq_getElem (by omega)
        rw [this] at h3
        exact spot_addD (spot_addD (spot_cellD h3))
      obtain ⟨b, off, rfl⟩ : ∃ b off, a' = ⟨b, off, none⟩ := ⟨a'.block, a'.off, by cases a'; simp_all⟩
      obtain ⟨K, hK⟩ := choose_lt (α := α) (p := fun i k => ok k W ∧ ∀ j, j < sz → W.cell? ⟨b, off + i * sz + j, none⟩ = (f k)[j]?) (fun i hi => by
        obtain ⟨cs', h1, h2⟩ := hx i hi
        obtain ⟨_, hlen, hcell⟩ := World.cells?_some h1
        obtain ⟨k, rfl, hk⟩ := hop _ _ _ hlen h2
        refine ⟨k, hk, fun j hj => ?_⟩
        have := hcell j hj
        rwa [Addr.add_mid, Addr.add_mid] at this)
      refine ⟨_, len, cap, (List.range len).map K, hc, Rd.mk hll hm (by rw [flat_lenD hl, List.length_map, List.length_range]) (fun k v hk => ?_), by simp, fun x hx => ?_⟩
      · obtain ⟨i, j, y, h1, rfl, h3, h4⟩ := flat_invD hl _ _ _ hk
        have hi : i < len := by
          have := (List.getElem?_eq_some_iff.1 h1).1
          simpa using this
        rw [List.getElem?_map, List.getElem?_range hi] at h1
        simp at h1
        subst h1
        rw [← Nat.add_assoc, (hK i (by omega)).2 j h4, h3]
      · obtain ⟨i, hi, rfl⟩ := List.mem_map.1 hx
        exact (hK i (by have := List.mem_range.1 hi; omega)).1
theorem open_addrsD {H : Type} {enc : TypeId × Value → H} {W : World} {fuel : Nat} {cs : List Value} {x : DataW H × List MemPlace}
    (h : DataW.trod enc Try.prog W 0 (fun _ => true) true fuel 41 cs = some x) : ∃ ao n c l, cs = [.slice ao n c] ∧ Rd W (.slice ao n c) 2 n (addrsV l) ∧ l.length = n := by
  obtain ⟨ao, n, c, ks, e, hr, hl, -⟩ := open_structsD (α := Int × Int) (f := fun a => [.int .i64 a.1, .int .i64 a.2]) (sz := 2) (fun _ => rfl) (by decide) (fun _ _ => True) Try.underlying41 cellsE (fun fuel cs x hl h => by
    match cs, hl with
    | [a, b], _ =>
      obtain ⟨y0, y1, n, _, _, h0, h1⟩ := trod_struct2 Try.underlying98 h
      simp only [cellsI, List.drop_zero, List.drop_succ_cons, List.take_succ_cons, List.take_zero] at h0 h1
      obtain ⟨z0, e0, _⟩ := DataW.trod_int Try.underlying3 h0
      obtain ⟨z1, e1, _⟩ := DataW.trod_int Try.underlying3 h1
      cases e0; cases e1
      exact ⟨(z0, z1), rfl, trivial⟩) h
  refine ⟨ao, n, c, ks, e, ?_, hl⟩
  have : ks.flatMap (fun a => [.int .i64 a.1, .int .i64 a.2]) = addrsV ks := by
    clear hr hl
    induction ks with
    | nil => rfl
    | cons a ks ih => rw [List.flatMap_cons, ih]; rfl
  rw [← this]
  exact hr
theorem open_ptrD {H : Type} {enc : TypeId × Value → H} {W : World} {fuel : Nat} {L : List Value} {x : DataW H × List MemPlace} (hL : L.length = 35)
    (h : DataW.trod enc Try.prog W 0 (fun _ => true) true fuel 45 L = some x) : ∃ p : PV, L = p.cells ∧ p.In W := by
  match L, hL with
  | a :: b :: c :: T, hL =>
    have hT : T.length = 32 := by simpa using hL
    obtain ⟨y0, y1, y2, y3, n, _, _, h0, h1, h2, h3⟩ := trod_struct4 Try.underlying45 h
    simp only [cellsA, cellsI, cellsD, List.drop_zero, List.drop_succ_cons, List.take_succ_cons, List.take_zero] at h0 h1 h2 h3
    rw [List.take_of_length_le (by omega)] at h3
    obtain ⟨zb, eb, _⟩ := DataW.trod_int Try.underlying3 h1
    obtain ⟨zc, ec, _⟩ := DataW.trod_int Try.underlying3 h2
    obtain ⟨S, rfl, hS⟩ := open_id hT h3
    cases eb; cases ec
    obtain ⟨ao, len, cap, l, e, hR, hl⟩ := open_addrsD h0
    cases e
    exact ⟨⟨.slice ao len cap, l, zb, zc, S⟩, rfl, hS, ao, len, cap, rfl, hR, hl⟩
theorem cellsRd : Try.prog.cellsOf 47 = 44 := by kernel_rfl
theorem cellsSd : Try.prog.cellsOf 9 = 1 := by kernel_rfl
theorem cellsSR : Try.prog.cellsOf 25 = 1 := by kernel_rfl
theorem cellsSI : Try.prog.cellsOf 28 = 1 := by kernel_rfl
theorem cellsCu : Try.prog.cellsOf 27 = 4 := by kernel_rfl
theorem cellsTa : Try.prog.cellsOf 30 = 7 := by kernel_rfl
def RCL : Type := { x : Value × RC // L32 x.2.S }
instance inhRCL : Inhabited RCL := ⟨⟨(.slice none 0 0, { id := 1, kind := 1, size := 1, made := 1, own := 0, origin := 0, quota := 0, reserve := 0, name := [], l := [], b := 0, v := 0, S := nones }), L32.nones⟩⟩
theorem open_recD {H : Type} {enc : TypeId × Value → H} {W : World} (fuel : Nat) (cs : List Value) (x : DataW H × List MemPlace) (hl : cs.length = 44)
    (h : DataW.trod enc Try.prog W 0 (fun _ => true) true fuel 47 cs = some x) : ∃ k : RCL, cs = cellsR k.1 ∧ RC.In W k.1 := by
  obtain ⟨xs, n, _, _, _, hlen, hf⟩ := DataW.trod_struct Try.underlying47 h
  have hlen' : xs.length = 10 := hlen
  have g0 := hf 0 _ rfl
  have g1 := hf 1 _ rfl
  have g2 := hf 2 _ rfl
  have g3 := hf 3 _ rfl
  have g4 := hf 4 _ rfl
  have g5 := hf 5 _ rfl
  have g6 := hf 6 _ rfl
  have g7 := hf 7 _ rfl
  have g8 := hf 8 _ rfl
  have g9 := hf 9 _ rfl
  clear hf h
  match xs, hlen' with
  | [y0, y1, y2, y3, y4, y5, y6, y7, y8, y9], _ =>
    match cs, hl with
    | a :: b :: c :: d :: T, hl =>
      have hT : T.length = 40 := by simpa using hl
      obtain ⟨P, hP⟩ : ∃ P, P = T.take 35 := ⟨_, rfl⟩
      obtain ⟨E, hE⟩ : ∃ E, E = T.drop 35 := ⟨_, rfl⟩
      have hTE : T = P ++ E := by rw [hP, hE, List.take_append_drop]
      have hPl : P.length = 35 := by rw [hP, List.length_take]; omega
      have hEl : E.length = 5 := by rw [hE, List.length_drop]; omega
      clear hP hE
      subst hTE
      match E, hEl with
      | [e0, e1, e2, e3, e4], _ =>
        have dr : ∀ k, ((a :: b :: c :: d :: (P ++ [e0, e1, e2, e3, e4])).drop (39 + k)) = [e0, e1, e2, e3, e4].drop k := fun k => by
          rw [show 39 + k = (35 + k) + 1 + 1 + 1 + 1 by omega]
          simp only [List.drop_succ_cons]
          rw [List.drop_append, List.drop_of_length_le (by omega), List.nil_append, hPl]
          congr 1
          omega
        have q4 : (((a :: b :: c :: d :: (P ++ [e0, e1, e2, e3, e4])).drop 4).take 35) = P := by
          simp only [List.drop_succ_cons, List.drop_zero]
          rw [List.take_append_of_le_length (by omega), List.take_of_length_le (by omega)]
        have f0 : DataW.trod enc Try.prog W 0 (fun _ => true) true n 3 (List.take (Try.prog.cellsOf 3) (List.drop 0 (a :: b :: c :: d :: (P ++ [e0, e1, e2, e3, e4])))) = some y0 := g0
        have f1 : DataW.trod enc Try.prog W 0 (fun _ => true) true n 9 (List.take (Try.prog.cellsOf 9) (List.drop 1 (a :: b :: c :: d :: (P ++ [e0, e1, e2, e3, e4])))) = some y1 := g1
        have f2 : DataW.trod enc Try.prog W 0 (fun _ => true) true n 3 (List.take (Try.prog.cellsOf 3) (List.drop 2 (a :: b :: c :: d :: (P ++ [e0, e1, e2, e3, e4])))) = some y2 := g2
        have f3 : DataW.trod enc Try.prog W 0 (fun _ => true) true n 3 (List.take (Try.prog.cellsOf 3) (List.drop 3 (a :: b :: c :: d :: (P ++ [e0, e1, e2, e3, e4])))) = some y3 := g3
        have f4 : DataW.trod enc Try.prog W 0 (fun _ => true) true n 45 (List.take (Try.prog.cellsOf 45) (List.drop 4 (a :: b :: c :: d :: (P ++ [e0, e1, e2, e3, e4])))) = some y4 := g4
        have f5 : DataW.trod enc Try.prog W 0 (fun _ => true) true n 3 (List.take (Try.prog.cellsOf 3) (List.drop 39 (a :: b :: c :: d :: (P ++ [e0, e1, e2, e3, e4])))) = some y5 := g5
        have f6 : DataW.trod enc Try.prog W 0 (fun _ => true) true n 3 (List.take (Try.prog.cellsOf 3) (List.drop 40 (a :: b :: c :: d :: (P ++ [e0, e1, e2, e3, e4])))) = some y6 := g6
        have f7 : DataW.trod enc Try.prog W 0 (fun _ => true) true n 3 (List.take (Try.prog.cellsOf 3) (List.drop 41 (a :: b :: c :: d :: (P ++ [e0, e1, e2, e3, e4])))) = some y7 := g7
        have f8 : DataW.trod enc Try.prog W 0 (fun _ => true) true n 3 (List.take (Try.prog.cellsOf 3) (List.drop 42 (a :: b :: c :: d :: (P ++ [e0, e1, e2, e3, e4])))) = some y8 := g8
        have f9 : DataW.trod enc Try.prog W 0 (fun _ => true) true n 3 (List.take (Try.prog.cellsOf 3) (List.drop 43 (a :: b :: c :: d :: (P ++ [e0, e1, e2, e3, e4])))) = some y9 := g9
        obtain ⟨z0, w0, _⟩ := DataW.trod_int Try.underlying3 (show DataW.trod enc Try.prog W 0 (fun _ => true) true n 3 [a] = some y0 from by rw [cellsI] at f0; exact f0)
        obtain ⟨s1, w1, _, hs1⟩ := DataW.trod_string Try.underlying9 (show DataW.trod enc Try.prog W 0 (fun _ => true) true n 9 [b] = some y1 from by rw [cellsSd] at f1; exact f1)
        obtain ⟨z2, w2, _⟩ := DataW.trod_int Try.underlying3 (show DataW.trod enc Try.prog W 0 (fun _ => true) true n 3 [c] = some y2 from by rw [cellsI] at f2; exact f2)
        obtain ⟨z3, w3, _⟩ := DataW.trod_int Try.underlying3 (show DataW.trod enc Try.prog W 0 (fun _ => true) true n 3 [d] = some y3 from by rw [cellsI] at f3; exact f3)
        obtain ⟨p, w4, hp⟩ := open_ptrD (W := W) (x := y4) (L := P) hPl (by rw [cellsP] at f4; exact (congrArg (fun l => DataW.trod enc Try.prog W 0 (fun _ => true) true n 45 l) q4).symm.trans f4)
        obtain ⟨z5, w5, _⟩ := DataW.trod_int Try.underlying3 (show DataW.trod enc Try.prog W 0 (fun _ => true) true n 3 [e0] = some y5 from by rw [cellsI] at f5; exact (congrArg (fun l => DataW.trod enc Try.prog W 0 (fun _ => true) true n 3 (l.take 1)) (dr 0)).symm.trans f5)
        obtain ⟨z6, w6, _⟩ := DataW.trod_int Try.underlying3 (show DataW.trod enc Try.prog W 0 (fun _ => true) true n 3 [e1] = some y6 from by rw [cellsI] at f6; exact (congrArg (fun l => DataW.trod enc Try.prog W 0 (fun _ => true) true n 3 (l.take 1)) (dr 1)).symm.trans f6)
        obtain ⟨z7, w7, _⟩ := DataW.trod_int Try.underlying3 (show DataW.trod enc Try.prog W 0 (fun _ => true) true n 3 [e2] = some y7 from by rw [cellsI] at f7; exact (congrArg (fun l => DataW.trod enc Try.prog W 0 (fun _ => true) true n 3 (l.take 1)) (dr 2)).symm.trans f7)
        obtain ⟨z8, w8, _⟩ := DataW.trod_int Try.underlying3 (show DataW.trod enc Try.prog W 0 (fun _ => true) true n 3 [e3] = some y8 from by rw [cellsI] at f8; exact (congrArg (fun l => DataW.trod enc Try.prog W 0 (fun _ => true) true n 3 (l.take 1)) (dr 3)).symm.trans f8)
        obtain ⟨z9, w9, _⟩ := DataW.trod_int Try.underlying3 (show DataW.trod enc Try.prog W 0 (fun _ => true) true n 3 [e4] = some y9 from by rw [cellsI] at f9; exact (congrArg (fun l => DataW.trod enc Try.prog W 0 (fun _ => true) true n 3 (l.take 1)) (dr 4)).symm.trans f9)
        cases w0; cases w1; cases w2; cases w3; cases w5; cases w6; cases w7; cases w8; cases w9
        subst w4
        obtain ⟨hS, ao, pn, pc, hsv, hpr, hpl⟩ := hp
        refine ⟨⟨(p.sv, { id := z0, kind := z2, size := z3, made := z5, own := z6, origin := z7, quota := z8, reserve := z9, name := s1.data.toList, l := p.l, b := p.b, v := p.v, S := p.S }), hS⟩, ?_, ⟨hS, ao, pn, pc, hsv, hpr, hpl⟩, ?_⟩
        · show _ = Value.int IntKind.i64 z0 :: Value.string ⟨s1.data.toList.toArray⟩ :: Value.int IntKind.i64 z2 :: Value.int IntKind.i64 z3 :: (p.cells ++ _)
          rfl
        · show s1.data.toList.length ≤ _
          rw [Array.length_toList]
          exact hs1
theorem open_intsD {H : Type} {enc : TypeId × Value → H} {W : World} {fuel : Nat} {cs : List Value} {x : DataW H × List MemPlace}
    (h : DataW.trod enc Try.prog W 0 (fun _ => true) true fuel 28 cs = some x) : ∃ ao n c l, cs = [.slice ao n c] ∧ Rd W (.slice ao n c) 1 n (numsV l) ∧ l.length = n := by
  obtain ⟨ao, n, c, ks, e, hr, hl, -⟩ := open_structsD (α := Int) (f := fun a => [.int .i64 a]) (sz := 1) (fun _ => rfl) (by decide) (fun _ _ => True) Try.underlying28 cellsI (fun fuel cs x hl h => by
    match cs, hl with
    | [a], _ =>
      obtain ⟨z0, e0, _⟩ := DataW.trod_int Try.underlying3 h
      cases e0
      exact ⟨z0, rfl, trivial⟩) h
  refine ⟨ao, n, c, ks, e, ?_, hl⟩
  have : ks.flatMap (fun a => [Value.int .i64 a]) = numsV ks := by
    clear hr hl
    induction ks with
    | nil => rfl
    | cons a ks ih => rw [List.flatMap_cons, ih]; rfl
  rw [← this]
  exact hr
theorem open_tableD {H : Type} {enc : TypeId × Value → H} {W : World} {base fuel : Nat} {v : Value} {x : DataW H × List MemPlace} (hv : Value.okWide Try.prog W .any base 30 v)
    (h : DataW.trod enc Try.prog W 0 (fun _ => true) true fuel 30 v.cells.toList = some x) : ∃ (t : TC) (ar : Option Addr) (nr cr : Nat) (al : Option Addr) (nl cl : Nat) (xs : List (Value × RC)), v = .agg (tabC t (.slice ar nr cr) (.slice al nl cl)).toArray ∧ TabAny W t ar nr cr al nl cl xs := by
  unfold Value.okWide at hv
  rw [Try.underlying30] at hv
  obtain ⟨cs, rfl, hsz, _⟩ := hv
  rw [cellsTa] at hsz
  obtain ⟨L, rfl⟩ : ∃ L : List Value, cs = L.toArray := ⟨cs.toList, rfl⟩
  have hL : L.length = 7 := by simpa using hsz
  obtain ⟨y0, y1, y2, y3, n, _, _, h0, h1, h2, h3⟩ := trod_struct4 Try.underlying30 h
  match L, hL with
  | [a, b, c, d, e, f, g], _ =>
    simp only [Value.cells, cellsI, cellsSR, cellsCu, cellsSI, List.drop_zero, List.drop_succ_cons, List.take_succ_cons, List.take_zero] at h0 h1 h2 h3
    obtain ⟨q0, q1, q2, q3, m, _, _, k0, k1, k2, k3⟩ := trod_struct4 Try.underlying27 h2
    simp only [cellsI, List.drop_zero, List.drop_succ_cons, List.take_succ_cons, List.take_zero] at k0 k1 k2 k3
    obtain ⟨z0, w0, _⟩ := DataW.trod_int Try.underlying3 h0
    obtain ⟨z1, w1, _⟩ := DataW.trod_int Try.underlying3 k0
    obtain ⟨z2, w2, _⟩ := DataW.trod_int Try.underlying3 k1
    obtain ⟨z3, w3, _⟩ := DataW.trod_int Try.underlying3 k2
    obtain ⟨z4, w4, _⟩ := DataW.trod_int Try.underlying3 k3
    obtain ⟨al, nl, cl, lv, w5, hlr, hll⟩ := open_intsD h3
    obtain ⟨ar, nr, cr, ks, w6, hrr, hrl, hri⟩ := open_structsD (α := RCL) (f := fun k => cellsR k.1) (sz := 44) (fun k => cellsR_len k.2) (by decide) (fun k W => RC.In W k.1) Try.underlying25 cellsRd open_recD h1
    cases w0; cases w1; cases w2; cases w3; cases w4; cases w5; cases w6
    have er : ks.flatMap (fun k => cellsR k.1) = recsV (ks.map (·.1)) := by unfold recsV; rw [List.flatMap_map]
    rw [er] at hrr
    refine ⟨⟨z0, ks.map (·.1.2), z1, z2, z3, z4, lv⟩, ar, nr, cr, al, nl, cl, ks.map (·.1), rfl, ⟨⟨hrr, by rw [List.length_map]; exact hrl, fun x hx => ?_⟩, by rw [List.map_map]; rfl, hlr, hll⟩⟩
    obtain ⟨k, hk, rfl⟩ := List.mem_map.1 hx
    exact hri k hk
end Go.Proofs.Ytkpkaoiafppimaa
namespace Go.Proofs.Ytkpkaoiafppimaa
set_option linter.unusedVariables false
set_option linter.unusedSimpArgs false
open Go.RowKit Hp
def R64 (z : Int) : Prop := -9223372036854775808 ≤ z ∧ z ≤ 9223372036854775807
/-- A number of at most 31 bits and one more. -/
def R31 (z : Int) : Prop := 0 ≤ z ∧ z ≤ 2147483648
theorem R31.r64 {z : Int} (h : R31 z) : R64 z := ⟨by have := h.1; omega, by have := h.2; omega⟩
theorem inB_31 {z lo hi : Int} (h : inB z lo hi = true) (h0 : 0 ≤ lo) (h1 : hi ≤ 2147483648) : R31 z := by
  unfold inB at h
  simp only [Bool.and_eq_true, decide_eq_true_eq] at h
  exact ⟨by omega, by omega⟩
theorem eq_31 {z k : Int} (h : (z == k) = true) (hk : R31 k) : R31 z := by
  rw [beq_iff_eq] at h
  rw [h]; exact hk
structure RC.Bd (r : RC) : Prop where
  id : R31 r.id
  kind : R31 r.kind
  size : R31 r.size
  made : R31 r.made
  own : R31 r.own
  origin : R31 r.origin
  quota : R31 r.quota
  reserve : R31 r.reserve
  name : r.name.length ≤ 41
  root : (r.pv undef).ok = true
theorem snapB_len {l : List UInt8} (h : snapB l = true) : l.length ≤ 41 := by
  unfold snapB at h
  obtain ⟨⟨a, b, f⟩, hs⟩ : ∃ p, splitL l = p := ⟨_, rfl⟩
  rw [hs] at h
  simp at h
  subst h
  obtain ⟨e, ha, hb⟩ := split_true hs
  have h1 := (part_bd ha).2
  have h2 := (part_bd hb).2
  rw [e]
  simp
  omega
theorem rootB_ok {p : PV} (h : rootB p = true) : p.ok = true := by
  unfold rootB at h
  rcases Bool.or_eq_true_iff.1 h with h | h
  · exact PV.hole_ok h
  · exact (Bool.and_eq_true_iff.1 h).1
theorem alone_bd {r : RC} (h : r.aloneB = true) : r.Bd := by
  unfold RC.aloneB at h
  simp only [Bool.and_eq_true] at h
  obtain ⟨⟨⟨⟨h1, h2⟩, h3⟩, h4⟩, h5⟩ := h
  unfold RC.kindB at h5
  have z : R31 0 := ⟨by decide, by decide⟩
  have one : R31 1 := ⟨by decide, by decide⟩
  have two : R31 2 := ⟨by decide, by decide⟩
  by_cases k1 : (r.kind == 1) = true
  · rw [if_pos k1] at h5
    simp only [Bool.and_eq_true] at h5
    obtain ⟨⟨⟨⟨a1, a2⟩, a3⟩, a4⟩, a5⟩ := h5
    exact ⟨inB_31 h1 (by decide) (by decide), eq_31 k1 one, inB_31 h2 (by decide) (by decide), inB_31 h3 (by decide) (by decide), eq_31 a2 z, inB_31 a3 (by decide) (by decide), inB_31 a4 (by decide) (by decide), inB_31 a5 (by decide) (by decide), by have := (part_bd a1).2; omega, rootB_ok h4⟩
  · rw [if_neg k1] at h5
    by_cases k2 : (r.kind == 2) = true
    · rw [if_pos k2] at h5
      simp only [Bool.and_eq_true] at h5
      obtain ⟨⟨⟨⟨⟨a1, a2⟩, a3⟩, a4⟩, a5⟩, a6⟩ := h5
      exact ⟨inB_31 h1 (by decide) (by decide), eq_31 k2 two, inB_31 h2 (by decide) (by decide), inB_31 h3 (by decide) (by decide), inB_31 a2 (by decide) (by decide), eq_31 a3 z, eq_31 a4 z, eq_31 a5 z, snapB_len a1, rootB_ok h4⟩
    · rw [if_neg k2] at h5
      cases h5
structure TC.Bd (t : TC) : Prop where
  next : R31 t.next
  kind : R31 t.kind
  dev : R31 t.dev
  at_ : R31 t.at_
  txg : R31 t.txg
  many : t.recs.length ≤ 16
  lives : t.lives.length ≤ 8
  recs : ∀ r ∈ t.recs, r.Bd
  live : ∀ z ∈ t.lives, R31 z
theorem cur_bd {t : TC} (h : t.curB = true) (hl : t.lives.length ≤ 8) : R31 t.kind ∧ R31 t.dev ∧ R31 t.at_ ∧ R31 t.txg := by
  have z : R31 0 := ⟨by decide, by decide⟩
  have one : R31 1 := ⟨by decide, by decide⟩
  have two : R31 2 := ⟨by decide, by decide⟩
  unfold TC.curB at h
  rcases Bool.or_eq_true_iff.1 h with h | h
  · unfold TC.cur0 at h
    simp at h
    obtain ⟨h1, h2, h3, h4⟩ := h
    rw [h1, h2, h3, h4]
    exact ⟨z, z, z, z⟩
  · simp only [Bool.and_eq_true] at h
    obtain ⟨⟨h1, h2⟩, h3⟩ := h
    have a1 := inB_31 h1 (by decide) (by decide)
    have a2 := inB_31 h2 (by decide) (by decide)
    rcases Bool.or_eq_true_iff.1 h3 with h | h
    · simp only [Bool.and_eq_true] at h
      exact ⟨eq_31 h.1 one, eq_31 h.2 z, a1, a2⟩
    · simp only [Bool.and_eq_true] at h
      exact ⟨eq_31 h.1 two, inB_31 h.2 (by decide) (by omega), a1, a2⟩
theorem ok_bd {t : TC} (h : t.ok = true) : t.Bd := by
  unfold TC.ok at h
  simp only [Bool.and_eq_true] at h
  obtain ⟨⟨⟨⟨h1, h2⟩, h3⟩, h4⟩, h5⟩ := h
  unfold TC.sizeB at h1
  simp only [Bool.and_eq_true, decide_eq_true_eq] at h1
  obtain ⟨⟨a1, a2⟩, a3⟩ := h1
  have hl : t.lives.length ≤ 8 := by
    unfold inB at a3
    simp only [Bool.and_eq_true, decide_eq_true_eq] at a3
    omega
  obtain ⟨c1, c2, c3, c4⟩ := cur_bd h2 hl
  refine ⟨inB_31 a1 (by decide) (by decide), c1, c2, c3, c4, by omega, hl, fun r hr => ?_, fun z hz => ?_⟩
  · obtain ⟨i, hi⟩ := List.getElem?_of_mem hr
    have := allAt_at h4 hi
    unfold eachB at this
    exact alone_bd (Bool.and_eq_true_iff.1 this).1
  · unfold TC.livesB at h3
    exact inB_31 (List.all_eq_true.1 h3 z hz) (by decide) (by decide)
theorem flat_step {α : Type} (f : α → List UInt8) {l : List α} {j : Nat} {x : α} (h : l[j]? = some x) : (l.take (j + 1)).flatMap f = (l.take j).flatMap f ++ f x := by
  rw [List.take_add_one, h, List.flatMap_append]
  simp
end Go.Proofs.Ytkpkaoiafppimaa
namespace Go.Proofs.Ytkpkaoiafppimaa
set_option linter.unusedVariables false
set_option linter.unusedSimpArgs false
open Go.RowKit Hp
/-- Where a reader stands; whether the bytes ended within a field. -/
structure GS where
  pos : Nat
  short : Bool
def GS.stop (N n : Nat) (s : GS) : Bool := s.short || decide (N < s.pos + n)
def GS.go (N n : Nat) (s : GS) : GS := if s.stop N n then ⟨s.pos, true⟩ else ⟨s.pos + n, false⟩
/-- The bytes that are taken; none, or noughts, where they are not all there. -/
def gotG (z : Bool) (B : List UInt8) (n : Nat) (s : GS) : List UInt8 := if s.stop B.length n then (if z then List.replicate n 0 else []) else (B.drop s.pos).take n
def numG (B : List UInt8) (n : Nat) (s : GS) : Nat := beN (gotG false B n s)
theorem beN_zeros (n : Nat) : beN (List.replicate n 0) = 0 := by
  induction n with
  | zero => rfl
  | succ n ih => rw [List.replicate_succ', beN_snoc, ih]; rfl
theorem numG_z (z : Bool) (B : List UInt8) (n : Nat) (s : GS) : beN (gotG z B n s) = numG B n s := by
  unfold numG gotG
  cases s.stop B.length n <;> cases z <;> simp [beN_zeros] <;> rfl
theorem gotG_stop {z : Bool} {B : List UInt8} {n : Nat} {s : GS} (h : s.stop B.length n = true) : gotG z B n s = if z then List.replicate n 0 else [] := by unfold gotG; rw [if_pos h]
theorem gotG_go {z : Bool} {B : List UInt8} {n : Nat} {s : GS} (h : s.stop B.length n = false) : gotG z B n s = (B.drop s.pos).take n := by unfold gotG; rw [h]; rfl
theorem GS.go_stop {N n : Nat} {s : GS} (h : s.stop N n = true) : s.go N n = ⟨s.pos, true⟩ := by unfold GS.go; rw [if_pos h]
theorem GS.go_go {N n : Nat} {s : GS} (h : s.stop N n = false) : s.go N n = ⟨s.pos + n, false⟩ := by unfold GS.go; rw [h]; rfl
theorem GS.stop_yes {N n : Nat} {s : GS} (h : s.stop N n = false) : s.short = false ∧ s.pos + n ≤ N := by
  unfold GS.stop at h
  simp at h
  exact ⟨h.1, h.2⟩
theorem GS.go_no {N n : Nat} {s : GS} (h : (s.go N n).short = false) : s.stop N n = false := by
  cases hs : s.stop N n with
  | false => rfl
  | true => rw [GS.go_stop hs] at h; cases h
theorem GS.go_short {N n : Nat} {s : GS} (h : s.short = true) : (s.go N n).short = true := by
  have : s.stop N n = true := by unfold GS.stop; rw [h]; rfl
  rw [GS.go_stop this]
theorem GS.go_ok {N n : Nat} {s : GS} (h : (s.go N n).short = false) : s.short = false ∧ s.go N n = ⟨s.pos + n, false⟩ ∧ s.pos + n ≤ N := ⟨(GS.stop_yes (GS.go_no h)).1, GS.go_go (GS.go_no h), (GS.stop_yes (GS.go_no h)).2⟩
theorem gotG_len {z : Bool} {B : List UInt8} {n : Nat} {s : GS} (h : (s.go B.length n).short = false) : (gotG z B n s).length = n := by
  rw [gotG_go (GS.go_no h), List.length_take, List.length_drop]
  have := (GS.go_ok h).2.2
  omega
theorem gotG_same {z : Bool} {B : List UInt8} {n : Nat} {s : GS} (h : (s.go B.length n).short = false) : gotG z B n s = gotG false B n s := by
  rw [gotG_go (GS.go_no h), gotG_go (GS.go_no h)]
theorem GS.go_pos {N n : Nat} {s : GS} (h : s.pos ≤ N) : (s.go N n).pos ≤ N := by
  unfold GS.go
  split
  · exact h
  · rename_i h1
    exact (GS.stop_yes (by simpa using h1)).2
/-- A record's states, field by field. -/
def rS1 (B : List UInt8) (s : GS) : GS := s.go B.length 4
def rS2 (B : List UInt8) (s : GS) : GS := (rS1 B s).go B.length 1
def rS3 (B : List UInt8) (s : GS) : GS := (rS2 B s).go B.length (numG B 1 (rS1 B s))
def rS4 (B : List UInt8) (s : GS) : GS := (rS3 B s).go B.length 1
def rS5 (B : List UInt8) (s : GS) : GS := (rS4 B s).go B.length 1
def rS6 (B : List UInt8) (s : GS) : GS := (rS5 B s).go B.length 47
def rS7 (B : List UInt8) (s : GS) : GS := (rS6 B s).go B.length 4
def rS8 (B : List UInt8) (s : GS) : GS := (rS7 B s).go B.length 4
def rS9 (B : List UInt8) (s : GS) : GS := (rS8 B s).go B.length 4
def rS10 (B : List UInt8) (s : GS) : GS := (rS9 B s).go B.length 1
def rS11 (B : List UInt8) (s : GS) : GS := (rS10 B s).go B.length 1
def recS (B : List UInt8) (s : GS) : Nat → GS
  | 0 => s
  | 1 => rS1 B s
  | 2 => rS2 B s
  | 3 => rS3 B s
  | 4 => rS4 B s
  | 5 => rS5 B s
  | 6 => rS6 B s
  | 7 => rS7 B s
  | 8 => rS8 B s
  | 9 => rS9 B s
  | 10 => rS10 B s
  | _ => rS11 B s
/-- What a root's bytes tell. -/
structure RT where
  l : List (Int × Int)
  (b v : Int)
  S : List UInt8
def rootG (bs : List UInt8) : RT := if rOK bs then ⟨rAddrs bs 3, rBirth bs, rLevel bs, rSum bs⟩ else ⟨[], 0, 0, nones⟩
theorem rootG_L (bs : List UInt8) : L32 (rootG bs).S := by
  unfold rootG
  split
  · rename_i h
    exact rSum_len (rOK_len h)
  · exact L32.nones
def recG (z : Bool) (B : List UInt8) (s : GS) : RC :=
  { id := numG B 4 s, name := gotG z B (numG B 1 (recS B s 1)) (recS B s 2), kind := numG B 1 (recS B s 3), size := numG B 1 (recS B s 4),
    l := (rootG (gotG z B 47 (recS B s 5))).l, b := (rootG (gotG z B 47 (recS B s 5))).b, v := (rootG (gotG z B 47 (recS B s 5))).v, S := (rootG (gotG z B 47 (recS B s 5))).S,
    made := numG B 4 (recS B s 6), own := numG B 4 (recS B s 7), origin := numG B 4 (recS B s 8), quota := numG B 1 (recS B s 9), reserve := numG B 1 (recS B s 10) }
def rootOk (z : Bool) (B : List UInt8) (s : GS) : Bool := rOK (gotG z B 47 (recS B s 5))
def recE (B : List UInt8) (s : GS) : GS := recS B s 11
/-- Where it stands behind j records. -/
def stG (B : List UInt8) (s : GS) : Nat → GS
  | 0 => s
  | j + 1 => recE B (stG B s j)
def rcsG (z : Bool) (B : List UInt8) (s : GS) (j : Nat) : List RC := (List.range j).map fun i => recG z B (stG B s i)
def oksG (z : Bool) (B : List UInt8) (s : GS) (j : Nat) : Bool := (List.range j).all fun i => rootOk z B (stG B s i)
def lvS (B : List UInt8) (s : GS) : Nat → GS
  | 0 => s
  | j + 1 => (lvS B s j).go B.length 4
def lvsG (B : List UInt8) (s : GS) (j : Nat) : List Int := (List.range j).map fun i => ((numG B 4 (lvS B s i) : Nat) : Int)
theorem rcsG_succ (z : Bool) (B : List UInt8) (s : GS) (j : Nat) : rcsG z B s (j + 1) = rcsG z B s j ++ [recG z B (stG B s j)] := by simp [rcsG, List.range_succ]
theorem oksG_succ (z : Bool) (B : List UInt8) (s : GS) (j : Nat) : oksG z B s (j + 1) = (oksG z B s j && rootOk z B (stG B s j)) := by simp [oksG, List.range_succ]
theorem lvsG_succ (B : List UInt8) (s : GS) (j : Nat) : lvsG B s (j + 1) = lvsG B s j ++ [((numG B 4 (lvS B s j) : Nat) : Int)] := by simp [lvsG, List.range_succ]
theorem length_rcsG (z : Bool) (B : List UInt8) (s : GS) (j : Nat) : (rcsG z B s j).length = j := by simp [rcsG]
theorem length_lvsG (B : List UInt8) (s : GS) (j : Nat) : (lvsG B s j).length = j := by simp [lvsG]
/-! The states of a table. -/
def tS1 (B : List UInt8) : GS := (GS.mk 0 false).go B.length 4
def tMany (B : List UInt8) : Nat := numG B 1 (tS1 B)
def tS2 (B : List UInt8) : GS := (tS1 B).go B.length 1
def tS3 (B : List UInt8) : GS := stG B (tS2 B) (tMany B)
def tS4 (B : List UInt8) : GS := (tS3 B).go B.length 1
def tS5 (B : List UInt8) : GS := (tS4 B).go B.length 1
def tS6 (B : List UInt8) : GS := (tS5 B).go B.length 4
def tS7 (B : List UInt8) : GS := (tS6 B).go B.length 4
def tS8 (B : List UInt8) : GS := (tS7 B).go B.length 1
def tLives (B : List UInt8) : Nat := numG B 1 (tS7 B)
def tS9 (B : List UInt8) : GS := lvS B (tS8 B) (tLives B)
def tabG (z : Bool) (B : List UInt8) : TC := { next := numG B 4 ⟨0, false⟩, recs := rcsG z B (tS2 B) (tMany B), kind := numG B 1 (tS3 B), dev := numG B 1 (tS4 B), at_ := numG B 4 (tS5 B), txg := numG B 4 (tS6 B), lives := lvsG B (tS8 B) (tLives B) }
def rootsG (B : List UInt8) : Bool := oksG false B (tS2 B) (tMany B)
/-- Are bytes a table's? -/
def gOK (B : List UInt8) : Bool := ((!(tS9 B).short && ((tS9 B).pos == B.length)) && rootsG B) && (tabG false B).ok
def gErr (B : List UInt8) : Int := if (tS9 B).short then 4 else if (tS9 B).pos < B.length then 4 else if rootsG B && (tabG false B).ok then 0 else 2
def gAt (B : List UInt8) : Int := if (tS9 B).short then B.length else if (tS9 B).pos < B.length then (tS9 B).pos else 0
theorem recS_short {B : List UInt8} {s : GS} : ∀ k, s.short = true → (recS B s k).short = true := by
  intro k h
  have h1 : (rS1 B s).short = true := GS.go_short h
  have h2 : (rS2 B s).short = true := GS.go_short h1
  have h3 : (rS3 B s).short = true := GS.go_short h2
  have h4 : (rS4 B s).short = true := GS.go_short h3
  have h5 : (rS5 B s).short = true := GS.go_short h4
  have h6 : (rS6 B s).short = true := GS.go_short h5
  have h7 : (rS7 B s).short = true := GS.go_short h6
  have h8 : (rS8 B s).short = true := GS.go_short h7
  have h9 : (rS9 B s).short = true := GS.go_short h8
  have h10 : (rS10 B s).short = true := GS.go_short h9
  have h11 : (rS11 B s).short = true := GS.go_short h10
  match k with
  | 0 => exact h
  | 1 => exact h1
  | 2 => exact h2
  | 3 => exact h3
  | 4 => exact h4
  | 5 => exact h5
  | 6 => exact h6
  | 7 => exact h7
  | 8 => exact h8
  | 9 => exact h9
  | 10 => exact h10
  | _ + 11 => exact h11
theorem stG_short {B : List UInt8} {s : GS} {i j : Nat} (hij : i ≤ j) (h : (stG B s i).short = true) : (stG B s j).short = true := by
  induction j with
  | zero =>
    have : i = 0 := by omega
    subst this; exact h
  | succ j ih =>
    by_cases e : i = j + 1
    · subst e; exact h
    · exact recS_short 11 (ih (by omega))
theorem lvS_short {B : List UInt8} {s : GS} {i j : Nat} (hij : i ≤ j) (h : (lvS B s i).short = true) : (lvS B s j).short = true := by
  induction j with
  | zero =>
    have : i = 0 := by omega
    subst this; exact h
  | succ j ih =>
    by_cases e : i = j + 1
    · subst e; exact h
    · exact GS.go_short (ih (by omega))
theorem no_short {s t : GS} (h : s.short = true → t.short = true) (ht : t.short = false) : s.short = false := by
  cases hs : s.short with
  | false => rfl
  | true => rw [h hs] at ht; cases ht
/-- Behind a record that is all there, each field was there. -/
theorem recE_ok {B : List UInt8} {s : GS} (h : (recE B s).short = false) : (recS B s 1).short = false ∧ (recS B s 2).short = false ∧ (recS B s 3).short = false ∧ (recS B s 4).short = false ∧ (recS B s 5).short = false ∧ (recS B s 6).short = false ∧ (recS B s 7).short = false ∧ (recS B s 8).short = false ∧ (recS B s 9).short = false ∧ (recS B s 10).short = false := by
  have h10 := (GS.go_ok (s := recS B s 10) h).1
  have h9 := (GS.go_ok (s := recS B s 9) h10).1
  have h8 := (GS.go_ok (s := recS B s 8) h9).1
  have h7 := (GS.go_ok (s := recS B s 7) h8).1
  have h6 := (GS.go_ok (s := recS B s 6) h7).1
  have h5 := (GS.go_ok (s := recS B s 5) h6).1
  have h4 := (GS.go_ok (s := recS B s 4) h5).1
  have h3 := (GS.go_ok (s := recS B s 3) h4).1
  have h2 := (GS.go_ok (s := recS B s 2) h3).1
  have h1 := (GS.go_ok (s := recS B s 1) h2).1
  exact ⟨h1, h2, h3, h4, h5, h6, h7, h8, h9, h10⟩
theorem recG_z {z : Bool} {B : List UInt8} {s : GS} (h : (recE B s).short = false) : recG z B s = recG false B s ∧ rootOk z B s = rootOk false B s := by
  obtain ⟨h1, h2, h3, h4, h5, h6, _⟩ := recE_ok h
  have e1 : gotG z B (numG B 1 (recS B s 1)) (recS B s 2) = gotG false B (numG B 1 (recS B s 1)) (recS B s 2) := gotG_same (z := z) (s := recS B s 2) h3
  have e2 := gotG_same (z := z) (s := recS B s 5) h6
  unfold recG rootOk
  rw [e1, e2]
  exact ⟨rfl, rfl⟩
theorem rcsG_z {z : Bool} {B : List UInt8} {s : GS} {j : Nat} (h : (stG B s j).short = false) : rcsG z B s j = rcsG false B s j ∧ oksG z B s j = oksG false B s j := by
  induction j with
  | zero => exact ⟨rfl, rfl⟩
  | succ j ih =>
    have hj : (stG B s j).short = false := no_short (recS_short 11) h
    obtain ⟨e1, e2⟩ := ih hj
    obtain ⟨e3, e4⟩ := recG_z (z := z) (s := stG B s j) h
    rw [rcsG_succ, rcsG_succ, oksG_succ, oksG_succ, e1, e2, e3, e4]
    exact ⟨rfl, rfl⟩
/-- Behind a table that is all there, each field was there. -/
theorem tab_there {B : List UInt8} (h : (tS9 B).short = false) : (tS1 B).short = false ∧ (tS2 B).short = false ∧ (tS3 B).short = false ∧ (tS4 B).short = false ∧ (tS5 B).short = false ∧ (tS6 B).short = false ∧ (tS7 B).short = false ∧ (tS8 B).short = false := by
  have h8 : (tS8 B).short = false := no_short (fun h => lvS_short (i := 0) (Nat.zero_le _) h) h
  have h7 := (GS.go_ok (s := tS7 B) h8).1
  have h6 := (GS.go_ok (s := tS6 B) h7).1
  have h5 := (GS.go_ok (s := tS5 B) h6).1
  have h4 := (GS.go_ok (s := tS4 B) h5).1
  have h3 := (GS.go_ok (s := tS3 B) h4).1
  have h2 : (tS2 B).short = false := no_short (fun h => stG_short (i := 0) (Nat.zero_le _) h) h3
  have h1 := (GS.go_ok (s := tS1 B) h2).1
  exact ⟨h1, h2, h3, h4, h5, h6, h7, h8⟩
theorem tabG_z {z : Bool} {B : List UInt8} (h : (tS9 B).short = false) : tabG z B = tabG false B ∧ oksG z B (tS2 B) (tMany B) = rootsG B := by
  obtain ⟨e1, e2⟩ := rcsG_z (z := z) (s := tS2 B) (j := tMany B) (tab_there h).2.2.1
  unfold tabG rootsG
  rw [e1]
  exact ⟨rfl, e2⟩
end Go.Proofs.Ytkpkaoiafppimaa
namespace Go.Proofs.Ytkpkaoiafppimaa
set_option linter.unusedVariables false
set_option linter.unusedSimpArgs false
open Go.RowKit Hp
attribute [local irreducible] Go.Calls Go.wpList
set_option maxRecDepth 100000
set_option maxHeartbeats 4000000
instance dNW : TyN Try.prog 77 1 := ⟨by kernel_rfl⟩
instance dZW : TyZ Try.prog 77 [.slice none 0 0] := ⟨by kernel_rfl⟩
instance dBW : TyB Try.prog 77 [.slice none 0 0] := ⟨by kernel_rfl⟩
theorem rowP_at {w0 w : World} {M : List Nat} {p : Value → Bool} {v : Value} {T : TypeId} {sz n : Nat} {xs : List Value} (L1 : List HA) {L2 : List HA} (h : St w0 M w (L1 ++ .rowP p v T sz n xs :: L2)) : ∃ ao c, v = .slice ao n c := by
  obtain ⟨ao, c, e, _⟩ := rowP_form h (List.mem_append.2 (.inr (.head _)))
  exact ⟨ao, c, e⟩
theorem wnum_w {w0 w : World} {M : List Nat} {R : List HA} {gw m : Nat} {wv : Value} {B : List UInt8} (hS : St w0 M w (.blk gw 77 [wv] :: .rowP isB wv 5 1 m (bytesV B) :: R)) (z : Int) (k : Nat) (hk : k ≤ 8) (hm : m ≤ 100000) (hz : -9223372036854775808 ≤ z ∧ z ≤ 9223372036854775807) :
    Calls Try.prog 40 #[.pointer (some ⟨gw, 0, none⟩), .int .i64 z, .int .i64 k] w fun e w' => e = .returned (.pointer (some ⟨gw, 0, none⟩)) ∧ ∃ wv', St w0 M w' (.blk gw 77 [wv'] :: .rowP isB wv' 5 1 (m + k) (bytesV (B ++ numB z k)) :: R) := by
  have hst := hS
  clear hS
  go_enter Try.func40, Try.ntmps40
  go_wp2_with (first | go_big_skip | go_big_guard | fail)
  go_loopw [7] (fun i wr => ∃ (j : Nat) (wv : Value), j ≤ k ∧ i = .int .i64 ((j : Int) - 1) ∧ St w0 M wr (.blk gw 77 [wv] :: .rowP isB wv 5 1 (m + (k - j)) (bytesV (B ++ (numB z k).take (k - j))) :: R)) (fun i _ => ((intOf i) + 1).toNat)
  case atStart => exact ⟨k, wv, Nat.le_refl _, rfl, by simpa using hst⟩
  case round =>
    clear hst
    obtain ⟨j, wv, hj, rfl, hst⟩ := hrel
    by_cases hlt : 0 < j
    · have y8 : IntKind.i64.wrap (8 * ((j : Int) - 1)) = ((8 * (j - 1) : Nat) : Int) := by rw [IntWalk.i64_in _ (by omega)]; omega
      go_wp2_with (first | go_big_skip | go_big_guard | fail)
      have hX := hst.drew
      clear hst
      refine wp_region_held_drew (S := (fun w' => True)) (by kernel_rfl) (by exact trivial) (fun hHeld => ?_)
      refine tk 0 14 ?_
      (try simp only [Act.put, List.setIfInBounds_toArray, List.set_cons_zero, List.set_cons_succ])
      refine tk 1 15 ?_
      (try simp only [Act.put, List.setIfInBounds_toArray, List.set_cons_zero, List.set_cons_succ])
      refine tk 5 19 ?_
      (try simp only [Act.put, List.setIfInBounds_toArray, List.set_cons_zero, List.set_cons_succ])
      refine tk 6 20 ?_
      (try simp only [Act.put, List.setIfInBounds_toArray, List.set_cons_zero, List.set_cons_succ])
      refine tk 2 16 ?_
      (try simp only [Act.put, List.setIfInBounds_toArray, List.set_cons_zero, List.set_cons_succ])
      refine tk 7 21 ?_
      (try simp only [Act.put, List.setIfInBounds_toArray, List.set_cons_zero, List.set_cons_succ])
      refine tk 3 17 ?_
      (try simp only [Act.put, List.setIfInBounds_toArray, List.set_cons_zero, List.set_cons_succ])
      refine tk 8 22 ?_
      (try simp only [Act.put, List.setIfInBounds_toArray, List.set_cons_zero, List.set_cons_succ])
      refine tk 9 23 ?_
      (try simp only [Act.put, List.setIfInBounds_toArray, List.set_cons_zero, List.set_cons_succ])
      refine wpAnyH_ready (rs := [4, 10]) (by kernel_rfl) (by simp) ?_
      refine (AllReadyH.cons (o := ⟨some 18, _, _, _, _, _⟩) rfl (fun K hK => ?_) (AllReadyH.cons (o := ⟨some 24, _, _, _, _, _⟩) rfl (fun K hK => ?_) AllReadyH.nil))
      · rw [if_pos (by rfl)]
        refine ow_of_wl (ops := #[]) (by rfl) ?_
        refine wl_loadE rfl rfl rfl ?_
        refine ⟨_, Loads.at [] hX rfl, ?_⟩
        refine q0_nil ?_
        refine hK.out _ _ ?_ (fun hHeld => ?_)
        · exact trivial
        clear hK K
        (try simp only [Act.put, List.setIfInBounds_toArray, List.set_cons_zero, List.set_cons_succ])
        refine wpAnyH_ready (rs := [10]) (by kernel_rfl) (by simp) ?_
        refine (AllReadyH.cons (o := ⟨some 24, _, _, _, _, _⟩) rfl (fun K hK => ?_) AllReadyH.nil)
        rw [if_pos (by rfl)]
        refine ow_of_wl (ops := #[]) (by rfl) ?_
        apply wl_bsX [.int _ _] [.int _ _] hX
        rfl
        rfl
        exact rfl
        exact rfl
        infer_instance
        infer_instance
        rfl
        rfl
        rfl
        intro gb w5 hB2
        refine q0_nil ?_
        refine hK.out _ _ ?_ (fun hHeld => ?_)
        · exact trivial
        clear hK K
        (try simp only [Act.put, List.setIfInBounds_toArray, List.set_cons_zero, List.set_cons_succ])
        refine wpAnyH_ready (rs := [11]) (by kernel_rfl) (by simp) ?_
        refine (AllReadyH.cons (o := ⟨some 25, _, _, _, _, _⟩) rfl (fun K hK => ?_) AllReadyH.nil)
        rw [if_pos (by rfl)]
        refine ow_of_wl (ops := #[]) (by rfl) ?_
        apply wl_appP [_, _] hB2
        rfl
        rfl
        exact rfl
        exact rfl
        infer_instance
        infer_instance
        infer_instance
        infer_instance
        exact (Rd.blk0 hB2 rfl (by decide))
        exact rfl
        rfl
        exact isB_one _
        (unfold maxLen; omega)
        intro v9 w6 hB3 _
        obtain ⟨vo, vc, rfl⟩ := rowP_at [_, _] hB3
        refine q0_nil ?_
        refine hK.out _ _ ?_ (fun hHeld => ?_)
        · exact trivial
        clear hK K
        (try simp only [Act.put, List.setIfInBounds_toArray, List.set_cons_zero, List.set_cons_succ])
        refine tk 12 26 ?_
        (try simp only [Act.put, List.setIfInBounds_toArray, List.set_cons_zero, List.set_cons_succ])
        refine tk 13 27 ?_
        (try simp only [Act.put, List.setIfInBounds_toArray, List.set_cons_zero, List.set_cons_succ])
        refine wpAnyH_ready (rs := [14]) (by kernel_rfl) (by simp) ?_
        refine (AllReadyH.cons (o := ⟨none, _, _, _, _, _⟩) rfl (fun K hK => ?_) AllReadyH.nil)
        rw [if_pos (by rfl)]
        refine ow_of_wl (ops := #[]) (by rfl) ?_
        refine wl_store [_] hB3 rfl rfl rfl (v := .slice _ _ _) rfl rfl rfl (by show (0 : Nat) + 1 ≤ 1; decide) ?_
        intro w7 hB4
        refine q0_nil ?_
        refine hK.out _ _ ?_ (fun hHeld => ?_)
        · exact trivial
        clear hK K
        (try simp only [Act.put, List.setIfInBounds_toArray, List.set_cons_zero, List.set_cons_succ])
        refine wpAnyH_done (by kernel_rfl) ?_ _
        clear hHeld
        have h5 : St w0 M w7 (.blk gw 77 [.slice vo (m + (k - j) + 1) vc] :: .rowP isB (.slice vo (m + (k - j) + 1) vc) 5 1 (m + (k - j) + 1) (bytesV (B ++ (numB z k).take (k - j)) ++ [.int .u8 (z / 2 ^ (8 * (j - 1)) % 256)]) :: R) := St.sub hB4 (List.sublist_cons_self _ _)
        clear hB4
        rw [byteV, show m + (k - j) + 1 = m + (k - (j - 1)) by omega] at h5
        have e9 : bytesV (B ++ (numB z k).take (k - (j - 1))) = bytesV (B ++ (numB z k).take (k - j)) ++ [.int .u8 (byteAt z (j - 1)).toNat] := by
          rw [show k - (j - 1) = (k - j) + 1 by omega, numB_take _ _ _ (by omega), ← List.append_assoc, bytesV_append _ [_], show k - 1 - (k - j) = j - 1 by omega]
          rfl
        rw [← e9] at h5
        clear e9
        go_wp2_with (first | go_big_skip | go_big_guard | fail)
        go_roundw
        case rel => exact ⟨j - 1, _, by omega, by go_num, h5⟩
        case measure => simp [intOf]; omega
      · rw [if_pos (by rfl)]
        refine ow_of_wl (ops := #[]) (by rfl) ?_
        apply wl_bsX [.int _ _] [.int _ _] hX
        rfl
        rfl
        exact rfl
        exact rfl
        infer_instance
        infer_instance
        rfl
        rfl
        rfl
        intro gb w5 hB2
        refine q0_nil ?_
        refine hK.out _ _ ?_ (fun hHeld => ?_)
        · exact trivial
        clear hK K
        (try simp only [Act.put, List.setIfInBounds_toArray, List.set_cons_zero, List.set_cons_succ])
        refine wpAnyH_ready (rs := [4]) (by kernel_rfl) (by simp) ?_
        refine (AllReadyH.cons (o := ⟨some 18, _, _, _, _, _⟩) rfl (fun K hK => ?_) AllReadyH.nil)
        rw [if_pos (by rfl)]
        refine ow_of_wl (ops := #[]) (by rfl) ?_
        refine wl_loadE rfl rfl rfl ?_
        refine ⟨_, Loads.at [_] hB2 rfl, ?_⟩
        refine q0_nil ?_
        refine hK.out _ _ ?_ (fun hHeld => ?_)
        · exact trivial
        clear hK K
        (try simp only [Act.put, List.setIfInBounds_toArray, List.set_cons_zero, List.set_cons_succ])
        refine wpAnyH_ready (rs := [11]) (by kernel_rfl) (by simp) ?_
        refine (AllReadyH.cons (o := ⟨some 25, _, _, _, _, _⟩) rfl (fun K hK => ?_) AllReadyH.nil)
        rw [if_pos (by rfl)]
        refine ow_of_wl (ops := #[]) (by rfl) ?_
        apply wl_appP [_, _] hB2
        rfl
        rfl
        exact rfl
        exact rfl
        infer_instance
        infer_instance
        infer_instance
        infer_instance
        exact (Rd.blk0 hB2 rfl (by decide))
        exact rfl
        rfl
        exact isB_one _
        (unfold maxLen; omega)
        intro v9 w6 hB3 _
        obtain ⟨vo, vc, rfl⟩ := rowP_at [_, _] hB3
        refine q0_nil ?_
        refine hK.out _ _ ?_ (fun hHeld => ?_)
        · exact trivial
        clear hK K
        (try simp only [Act.put, List.setIfInBounds_toArray, List.set_cons_zero, List.set_cons_succ])
        refine tk 12 26 ?_
        (try simp only [Act.put, List.setIfInBounds_toArray, List.set_cons_zero, List.set_cons_succ])
        refine tk 13 27 ?_
        (try simp only [Act.put, List.setIfInBounds_toArray, List.set_cons_zero, List.set_cons_succ])
        refine wpAnyH_ready (rs := [14]) (by kernel_rfl) (by simp) ?_
        refine (AllReadyH.cons (o := ⟨none, _, _, _, _, _⟩) rfl (fun K hK => ?_) AllReadyH.nil)
        rw [if_pos (by rfl)]
        refine ow_of_wl (ops := #[]) (by rfl) ?_
        refine wl_store [_] hB3 rfl rfl rfl (v := .slice _ _ _) rfl rfl rfl (by show (0 : Nat) + 1 ≤ 1; decide) ?_
        intro w7 hB4
        refine q0_nil ?_
        refine hK.out _ _ ?_ (fun hHeld => ?_)
        · exact trivial
        clear hK K
        (try simp only [Act.put, List.setIfInBounds_toArray, List.set_cons_zero, List.set_cons_succ])
        refine wpAnyH_done (by kernel_rfl) ?_ _
        clear hHeld
        have h5 : St w0 M w7 (.blk gw 77 [.slice vo (m + (k - j) + 1) vc] :: .rowP isB (.slice vo (m + (k - j) + 1) vc) 5 1 (m + (k - j) + 1) (bytesV (B ++ (numB z k).take (k - j)) ++ [.int .u8 (z / 2 ^ (8 * (j - 1)) % 256)]) :: R) := St.sub hB4 (List.sublist_cons_self _ _)
        clear hB4
        rw [byteV, show m + (k - j) + 1 = m + (k - (j - 1)) by omega] at h5
        have e9 : bytesV (B ++ (numB z k).take (k - (j - 1))) = bytesV (B ++ (numB z k).take (k - j)) ++ [.int .u8 (byteAt z (j - 1)).toNat] := by
          rw [show k - (j - 1) = (k - j) + 1 by omega, numB_take _ _ _ (by omega), ← List.append_assoc, bytesV_append _ [_], show k - 1 - (k - j) = j - 1 by omega]
          rfl
        rw [← e9] at h5
        clear e9
        go_wp2_with (first | go_big_skip | go_big_guard | fail)
        go_roundw
        case rel => exact ⟨j - 1, _, by omega, by go_num, h5⟩
        case measure => simp [intOf]; omega
    · have hj0 : j = 0 := by omega
      subst hj0
      go_wp2_with (first | go_big_skip | go_big_guard | fail)
      go_ret
      exact ⟨rfl, wv, by simpa [length_numB, List.take_of_length_le] using hst⟩
theorem wraw_w {w0 w : World} {M : List Nat} {R : List HA} {gw m n : Nat} {wv bv : Value} {B bs : List UInt8} (hS : St w0 M w (.blk gw 77 [wv] :: .rowP isB wv 5 1 m (bytesV B) :: R)) (hb : Rd w bv 1 n (bytesV bs)) (hm : m ≤ 100000) (hn : n ≤ 100000) :
    Calls Try.prog 42 #[.pointer (some ⟨gw, 0, none⟩), bv] w fun e w' => e = .returned (.pointer (some ⟨gw, 0, none⟩)) ∧ ∃ wv', St w0 M w' (.blk gw 77 [wv'] :: .rowP isB wv' 5 1 (m + n) (bytesV (B ++ bs)) :: R) := by
  have hst := hS
  have HB := hid hb
  clear hS hb
  go_enter Try.func42, Try.ntmps42
  go_wp2_with (first | go_big_skip | go_big_guard | (refine wl_loadE rfl rfl rfl ?_; refine ⟨_, Loads.at [] hst rfl, ?_⟩) | (apply wl_appP [_] hst; rfl; rfl; exact rfl; exact rfl; infer_instance; infer_instance; infer_instance; infer_instance; exact HB.out; exact ones_bytesV _; rfl; exact isB_bytes _; (unfold maxLen; omega); intro v9 w6 hst3 _; obtain ⟨vo, vc, rfl⟩ := rowP_at [_] hst3; clear hst) | (refine wl_store [] hst3 rfl rfl rfl (v := .slice _ _ _) rfl rfl rfl (by show (0 : Nat) + 1 ≤ 1; decide) ?_; intro w7 hst4; clear hst3))
  go_ret
  exact ⟨rfl, _, by rw [bytesV_append]; exact hst4⟩
end Go.Proofs.Ytkpkaoiafppimaa
namespace Go.Proofs.Ytkpkaoiafppimaa
set_option linter.unusedVariables false
set_option linter.unusedSimpArgs false
open Go.RowKit Hp
attribute [local irreducible] Go.Calls Go.wpList
set_option maxRecDepth 100000
set_option maxHeartbeats 4000000
attribute [local go_sem ↓] heldInt heldBool heldBytes
/-- A reader, as cells: the bytes, how far it has come, whether they ended within a field. -/
def rdC (bv : Value) (s : GS) : List Value := [bv, .int .i64 (s.pos : Int), .bool s.short]
theorem graw_was {w0 w : World} {R : List HA} {gr : Nat} (ao : Option Addr) (N c : Nat) (p n : Int) (hS : St w0 [] w (.blk gr 62 [.slice ao N c, .int .i64 p, .bool true] :: R))  :
    Calls Try.prog 63 #[.pointer (some ⟨gr, 0, none⟩), .int .i64 n] w fun e w' => e = .returned (.slice none 0 0) ∧ St w0 [] w' (.blk gr 62 [.slice ao N c, .int .i64 p, .bool true] :: R) := by
  have hst := hS
  clear hS
  go_enter Try.func63, Try.ntmps63
  go_wp2_with (first | go_big_skip | go_big_guard | fail)
  have hX := hst.drew
  clear hst
  refine wp_region_held_drew (S := (fun w' => (loadVarH 22 ⟨gr, 0, none⟩).run Try.prog w' = .ok (.slice ao N c) w' ∧ (loadVarH 3 ⟨gr, 1, none⟩).run Try.prog w' = .ok (.int .i64 p) w' ∧ (loadVarH 4 ⟨gr, 2, none⟩).run Try.prog w' = .ok (.bool true) w')) (by kernel_rfl) (by exact ⟨ldS [] hX rfl, ldS [] hX rfl, ldS [] hX rfl⟩) (fun hHeld => ?_)
  refine tk 0 5 ?_
  (try simp only [Act.put, List.setIfInBounds_toArray, List.set_cons_zero, List.set_cons_succ])
  refine tk 1 6 ?_
  (try simp only [Act.put, List.setIfInBounds_toArray, List.set_cons_zero, List.set_cons_succ])
  refine tk 2 7 ?_
  (try simp only [Act.put, List.setIfInBounds_toArray, List.set_cons_zero, List.set_cons_succ])
  refine tk 3 8 ?_
  (try simp only [Act.put, List.setIfInBounds_toArray, List.set_cons_zero, List.set_cons_succ])
  refine tk 4 9 ?_
  (try simp only [Act.put, List.setIfInBounds_toArray, List.set_cons_zero, List.set_cons_succ])
  refine wpAnyH_take (i := 5) (oi := ⟨some 10, _, _, _, _, _⟩) (v := undef) rfl (by kernel_rfl) (by kernel_rfl) (by kernel_rfl) (fun _ _ _ h => h) (Or.inr ⟨by rfl, rfl⟩) (by assumption) ?_
  (try simp only [Act.put, List.setIfInBounds_toArray, List.set_cons_zero, List.set_cons_succ])
  refine wpAnyH_take (i := 6) (oi := ⟨some 11, _, _, _, _, _⟩) (v := undef) rfl (by kernel_rfl) (by kernel_rfl) (by kernel_rfl) (fun _ _ _ h => h) (Or.inr ⟨by rfl, rfl⟩) (by assumption) ?_
  (try simp only [Act.put, List.setIfInBounds_toArray, List.set_cons_zero, List.set_cons_succ])
  refine wpAnyH_take (i := 11) (oi := ⟨some 16, _, _, _, _, _⟩) (v := undef) rfl (by kernel_rfl) (by kernel_rfl) (by kernel_rfl) (fun _ _ _ h => h) (Or.inr ⟨by rfl, rfl⟩) (by assumption) ?_
  (try simp only [Act.put, List.setIfInBounds_toArray, List.set_cons_zero, List.set_cons_succ])
  refine wpAnyH_take (i := 7) (oi := ⟨some 12, _, _, _, _, _⟩) (v := undef) rfl (by kernel_rfl) (by kernel_rfl) (by kernel_rfl) (fun _ _ _ h => h) (Or.inr ⟨by rfl, rfl⟩) (by assumption) ?_
  (try simp only [Act.put, List.setIfInBounds_toArray, List.set_cons_zero, List.set_cons_succ])
  refine wpAnyH_take (i := 12) (oi := ⟨some 17, _, _, _, _, _⟩) (v := undef) rfl (by kernel_rfl) (by kernel_rfl) (by kernel_rfl) (fun _ _ _ h => h) (Or.inr ⟨by rfl, rfl⟩) (by assumption) ?_
  (try simp only [Act.put, List.setIfInBounds_toArray, List.set_cons_zero, List.set_cons_succ])
  refine wpAnyH_take (i := 8) (oi := ⟨some 13, _, _, _, _, _⟩) (v := undef) rfl (by kernel_rfl) (by kernel_rfl) (by kernel_rfl) (fun _ _ _ h => h) (Or.inr ⟨by rfl, rfl⟩) (by assumption) ?_
  (try simp only [Act.put, List.setIfInBounds_toArray, List.set_cons_zero, List.set_cons_succ])
  refine wpAnyH_take (i := 13) (oi := ⟨some 18, _, _, _, _, _⟩) (v := undef) rfl (by kernel_rfl) (by kernel_rfl) (by kernel_rfl) (fun _ _ _ h => h) (Or.inr ⟨by rfl, rfl⟩) (by assumption) ?_
  (try simp only [Act.put, List.setIfInBounds_toArray, List.set_cons_zero, List.set_cons_succ])
  refine wpAnyH_take (i := 9) (oi := ⟨some 14, _, _, _, _, _⟩) (v := undef) rfl (by kernel_rfl) (by kernel_rfl) (by kernel_rfl) (fun _ _ _ h => h) (Or.inr ⟨by rfl, rfl⟩) (by assumption) ?_
  (try simp only [Act.put, List.setIfInBounds_toArray, List.set_cons_zero, List.set_cons_succ])
  refine wpAnyH_take (i := 14) (oi := ⟨some 19, _, _, _, _, _⟩) (v := undef) rfl (by kernel_rfl) (by kernel_rfl) (by kernel_rfl) (fun _ _ _ h => h) (Or.inr ⟨by rfl, rfl⟩) (by assumption) ?_
  (try simp only [Act.put, List.setIfInBounds_toArray, List.set_cons_zero, List.set_cons_succ])
  refine wpAnyH_take (i := 10) (oi := ⟨some 15, _, _, _, _, _⟩) (v := undef) rfl (by kernel_rfl) (by kernel_rfl) (by kernel_rfl) (fun _ _ _ h => h) (Or.inr ⟨by rfl, rfl⟩) (by assumption) ?_
  (try simp only [Act.put, List.setIfInBounds_toArray, List.set_cons_zero, List.set_cons_succ])
  refine wpAnyH_take (i := 15) (oi := ⟨some 20, _, _, _, _, _⟩) (v := undef) rfl (by kernel_rfl) (by kernel_rfl) (by kernel_rfl) (fun _ _ _ h => h) (Or.inr ⟨by rfl, rfl⟩) (by assumption) ?_
  (try simp only [Act.put, List.setIfInBounds_toArray, List.set_cons_zero, List.set_cons_succ])
  refine wpAnyH_take (i := 16) (oi := ⟨some 21, _, _, _, _, _⟩) (v := undef) rfl (by kernel_rfl) (by kernel_rfl) (by kernel_rfl) (fun _ _ _ h => h) (Or.inr ⟨by rfl, rfl⟩) (by assumption) ?_
  (try simp only [Act.put, List.setIfInBounds_toArray, List.set_cons_zero, List.set_cons_succ])
  refine tk 17 22 ?_
  (try simp only [Act.put, List.setIfInBounds_toArray, List.set_cons_zero, List.set_cons_succ])
  refine wpAnyH_done (by kernel_rfl) ?_ _
  clear hHeld
  go_wp2_with (first | go_big_skip | go_big_guard | (refine wl_store [] hX rfl rfl rfl (v := .bool true) rfl rfl rfl (by show (2 : Nat) + 1 ≤ 3; decide) ?_; intro w7 hst7; clear hX))
  go_ret
  exact ⟨rfl, hst7⟩
theorem graw_ends {w0 w : World} {R : List HA} {gr : Nat} (ao : Option Addr) (N c p n : Nat) (hS : St w0 [] w (.blk gr 62 [.slice ao N c, .int .i64 p, .bool false] :: R)) (hp : p ≤ N) (hN : N ≤ 100000) (hn : n ≤ 100000) (hs : N < p + n) :
    Calls Try.prog 63 #[.pointer (some ⟨gr, 0, none⟩), .int .i64 n] w fun e w' => e = .returned (.slice none 0 0) ∧ St w0 [] w' (.blk gr 62 [.slice ao N c, .int .i64 p, .bool true] :: R) := by
  have hst := hS
  clear hS
  have z1 : IntKind.i64.wrap ((N : Int) - (p : Int)) = (N : Int) - (p : Int) := IntWalk.i64_in _ (by omega)
  have d1 : decide ((n : Int) > (N : Int) - (p : Int)) = true := decide_eq_true (by omega)
  have d2 : decide ((N : Int) - (p : Int) < (n : Int)) = true := d1
  go_enter Try.func63, Try.ntmps63
  go_wp2_with (first | go_big_skip | go_big_guard | fail)
  have hX := hst.drew
  clear hst
  refine wp_region_held_drew (S := (fun w' => (loadVarH 22 ⟨gr, 0, none⟩).run Try.prog w' = .ok (.slice ao N c) w' ∧ (loadVarH 3 ⟨gr, 1, none⟩).run Try.prog w' = .ok (.int .i64 p) w' ∧ (loadVarH 4 ⟨gr, 2, none⟩).run Try.prog w' = .ok (.bool false) w')) (by kernel_rfl) (by exact ⟨ldS [] hX rfl, ldS [] hX rfl, ldS [] hX rfl⟩) (fun hHeld => ?_)
  refine tk 0 5 ?_
  (try simp only [Act.put, List.setIfInBounds_toArray, List.set_cons_zero, List.set_cons_succ])
  refine tk 1 6 ?_
  (try simp only [Act.put, List.setIfInBounds_toArray, List.set_cons_zero, List.set_cons_succ])
  refine tk 2 7 ?_
  (try simp only [Act.put, List.setIfInBounds_toArray, List.set_cons_zero, List.set_cons_succ])
  refine tk 3 8 ?_
  (try simp only [Act.put, List.setIfInBounds_toArray, List.set_cons_zero, List.set_cons_succ])
  refine tk 4 9 ?_
  (try simp only [Act.put, List.setIfInBounds_toArray, List.set_cons_zero, List.set_cons_succ])
  refine tk 5 10 ?_
  (try simp only [Act.put, List.setIfInBounds_toArray, List.set_cons_zero, List.set_cons_succ])
  refine tk 6 11 ?_
  (try simp only [Act.put, List.setIfInBounds_toArray, List.set_cons_zero, List.set_cons_succ])
  refine tk 11 16 ?_
  (try simp only [Act.put, List.setIfInBounds_toArray, List.set_cons_zero, List.set_cons_succ])
  refine tk 7 12 ?_
  (try simp only [Act.put, List.setIfInBounds_toArray, List.set_cons_zero, List.set_cons_succ])
  refine tk 12 17 ?_
  (try simp only [Act.put, List.setIfInBounds_toArray, List.set_cons_zero, List.set_cons_succ])
  refine tk 8 13 ?_
  (try simp only [Act.put, List.setIfInBounds_toArray, List.set_cons_zero, List.set_cons_succ])
  refine tk 13 18 ?_
  (try simp only [Act.put, List.setIfInBounds_toArray, List.set_cons_zero, List.set_cons_succ])
  refine tk 9 14 ?_
  (try simp only [Act.put, List.setIfInBounds_toArray, List.set_cons_zero, List.set_cons_succ])
  refine tk 14 19 ?_
  (try simp only [Act.put, List.setIfInBounds_toArray, List.set_cons_zero, List.set_cons_succ])
  refine tk 10 15 ?_
  (try simp only [Act.put, List.setIfInBounds_toArray, List.set_cons_zero, List.set_cons_succ])
  refine tk 15 20 ?_
  (try simp only [Act.put, List.setIfInBounds_toArray, List.set_cons_zero, List.set_cons_succ])
  refine tk 16 21 ?_
  (try simp only [Act.put, List.setIfInBounds_toArray, List.set_cons_zero, List.set_cons_succ])
  refine tk 17 22 ?_
  (try simp only [Act.put, List.setIfInBounds_toArray, List.set_cons_zero, List.set_cons_succ])
  refine wpAnyH_done (by kernel_rfl) ?_ _
  clear hHeld
  go_wp2_with (first | go_big_skip | go_big_guard | (refine wl_store [] hX rfl rfl rfl (v := .bool true) rfl rfl rfl (by show (2 : Nat) + 1 ≤ 3; decide) ?_; intro w7 hst7; clear hX))
  go_ret
  exact ⟨rfl, hst7⟩
theorem graw_nil {w0 w : World} {R : List HA} {gr : Nat}  (hS : St w0 [] w (.blk gr 62 [.slice none 0 0, .int .i64 0, .bool false] :: R))  :
    Calls Try.prog 63 #[.pointer (some ⟨gr, 0, none⟩), .int .i64 0] w fun e w' => e = .returned (.slice none 0 0) ∧ St w0 [] w' (.blk gr 62 [.slice none 0 0, .int .i64 0, .bool false] :: R) := by
  have hst := hS
  clear hS
  have zw : IntKind.i64.wrap 0 = 0 := rfl
  go_enter Try.func63, Try.ntmps63
  go_wp2_with (first | go_big_skip | go_big_guard | fail)
  have hX := hst.drew
  clear hst
  refine wp_region_held_drew (S := (fun w' => (loadVarH 22 ⟨gr, 0, none⟩).run Try.prog w' = .ok (.slice none 0 0) w' ∧ (loadVarH 3 ⟨gr, 1, none⟩).run Try.prog w' = .ok (.int .i64 0) w' ∧ (loadVarH 4 ⟨gr, 2, none⟩).run Try.prog w' = .ok (.bool false) w')) (by kernel_rfl) (by exact ⟨ldS [] hX rfl, ldS [] hX rfl, ldS [] hX rfl⟩) (fun hHeld => ?_)
  refine tk 0 5 ?_
  (try simp only [Act.put, List.setIfInBounds_toArray, List.set_cons_zero, List.set_cons_succ])
  refine tk 1 6 ?_
  (try simp only [Act.put, List.setIfInBounds_toArray, List.set_cons_zero, List.set_cons_succ])
  refine tk 2 7 ?_
  (try simp only [Act.put, List.setIfInBounds_toArray, List.set_cons_zero, List.set_cons_succ])
  refine tk 3 8 ?_
  (try simp only [Act.put, List.setIfInBounds_toArray, List.set_cons_zero, List.set_cons_succ])
  refine tk 4 9 ?_
  (try simp only [Act.put, List.setIfInBounds_toArray, List.set_cons_zero, List.set_cons_succ])
  refine tk 5 10 ?_
  (try simp only [Act.put, List.setIfInBounds_toArray, List.set_cons_zero, List.set_cons_succ])
  refine tk 6 11 ?_
  (try simp only [Act.put, List.setIfInBounds_toArray, List.set_cons_zero, List.set_cons_succ])
  refine tk 11 16 ?_
  (try simp only [Act.put, List.setIfInBounds_toArray, List.set_cons_zero, List.set_cons_succ])
  refine tk 7 12 ?_
  (try simp only [Act.put, List.setIfInBounds_toArray, List.set_cons_zero, List.set_cons_succ])
  refine tk 12 17 ?_
  (try simp only [Act.put, List.setIfInBounds_toArray, List.set_cons_zero, List.set_cons_succ])
  refine tk 8 13 ?_
  (try simp only [Act.put, List.setIfInBounds_toArray, List.set_cons_zero, List.set_cons_succ])
  refine tk 13 18 ?_
  (try simp only [Act.put, List.setIfInBounds_toArray, List.set_cons_zero, List.set_cons_succ])
  refine tk 9 14 ?_
  (try simp only [Act.put, List.setIfInBounds_toArray, List.set_cons_zero, List.set_cons_succ])
  refine tk 14 19 ?_
  (try simp only [Act.put, List.setIfInBounds_toArray, List.set_cons_zero, List.set_cons_succ])
  refine tk 10 15 ?_
  (try simp only [Act.put, List.setIfInBounds_toArray, List.set_cons_zero, List.set_cons_succ])
  refine tk 15 20 ?_
  (try simp only [Act.put, List.setIfInBounds_toArray, List.set_cons_zero, List.set_cons_succ])
  refine tk 16 21 ?_
  (try simp only [Act.put, List.setIfInBounds_toArray, List.set_cons_zero, List.set_cons_succ])
  refine tk 17 22 ?_
  (try simp only [Act.put, List.setIfInBounds_toArray, List.set_cons_zero, List.set_cons_succ])
  refine wpAnyH_done (by kernel_rfl) ?_ _
  clear hHeld
  go_wp2_with (first | go_big_skip | go_big_guard | (refine wl_loadE rfl rfl rfl ?_; first | refine ⟨_, Loads.at [] hX rfl, ?_⟩) | (refine wl_store [] hX rfl rfl rfl (v := .int .i64 0) rfl rfl rfl (by show (1 : Nat) + 1 ≤ 3; decide) ?_; intro w7 hst7; clear hX))
  have hst8 : St w0 [] w7 (.blk gr 62 [.slice none 0 0, .int .i64 0, .bool false] :: R) := hst7
  clear hst7
  have hY := hst8.drew
  clear hst8
  refine wp_region_held_drew (S := (fun w' => (loadVarH 22 ⟨gr, 0, none⟩).run Try.prog w' = .ok (.slice none 0 0) w' ∧ (loadVarH 3 ⟨gr, 1, none⟩).run Try.prog w' = .ok (.int .i64 0) w' ∧ (loadVarH 4 ⟨gr, 2, none⟩).run Try.prog w' = .ok (.bool false) w')) (by kernel_rfl) (by exact ⟨ldS [] hY rfl, ldS [] hY rfl, ldS [] hY rfl⟩) (fun hHeld => ?_)
  refine tk 0 34 ?_
  (try simp only [Act.put, List.setIfInBounds_toArray, List.set_cons_zero, List.set_cons_succ])
  refine tk 4 38 ?_
  (try simp only [Act.put, List.setIfInBounds_toArray, List.set_cons_zero, List.set_cons_succ])
  refine tk 8 42 ?_
  (try simp only [Act.put, List.setIfInBounds_toArray, List.set_cons_zero, List.set_cons_succ])
  refine tk 10 44 ?_
  (try simp only [Act.put, List.setIfInBounds_toArray, List.set_cons_zero, List.set_cons_succ])
  refine tk 1 35 ?_
  (try simp only [Act.put, List.setIfInBounds_toArray, List.set_cons_zero, List.set_cons_succ])
  refine tk 5 39 ?_
  (try simp only [Act.put, List.setIfInBounds_toArray, List.set_cons_zero, List.set_cons_succ])
  refine tk 11 45 ?_
  (try simp only [Act.put, List.setIfInBounds_toArray, List.set_cons_zero, List.set_cons_succ])
  refine tk 2 36 ?_
  (try simp only [Act.put, List.setIfInBounds_toArray, List.set_cons_zero, List.set_cons_succ])
  refine tk 6 40 ?_
  (try simp only [Act.put, List.setIfInBounds_toArray, List.set_cons_zero, List.set_cons_succ])
  refine tk 12 46 ?_
  (try simp only [Act.put, List.setIfInBounds_toArray, List.set_cons_zero, List.set_cons_succ])
  refine tk 3 37 ?_
  (try simp only [Act.put, List.setIfInBounds_toArray, List.set_cons_zero, List.set_cons_succ])
  refine tk 7 41 ?_
  (try simp only [Act.put, List.setIfInBounds_toArray, List.set_cons_zero, List.set_cons_succ])
  refine tk 13 47 ?_
  (try simp only [Act.put, List.setIfInBounds_toArray, List.set_cons_zero, List.set_cons_succ])
  refine tk 9 43 ?_
  (try simp only [Act.put, List.setIfInBounds_toArray, List.set_cons_zero, List.set_cons_succ])
  refine tk 14 48 ?_
  (try simp only [Act.put, List.setIfInBounds_toArray, List.set_cons_zero, List.set_cons_succ])
  refine tk 15 4 ?_
  (try simp only [Act.put, List.setIfInBounds_toArray, List.set_cons_zero, List.set_cons_succ])
  refine wpAnyH_done (by kernel_rfl) ?_ _
  clear hHeld
  go_wp2_with (first | go_big_skip | go_big_guard | fail)
  go_ret
  exact ⟨rfl, hY⟩
theorem graw_end {w0 w : World} {R : List HA} {gr : Nat} (AA : Addr) (N c : Nat) (hS : St w0 [] w (.blk gr 62 [.slice (some AA) N c, .int .i64 (c : Int), .bool false] :: R)) (hp : c ≤ N) (hN : N ≤ 100000) :
    Calls Try.prog 63 #[.pointer (some ⟨gr, 0, none⟩), .int .i64 0] w fun e w' => e = .returned (.slice (some AA) 0 0) ∧ St w0 [] w' (.blk gr 62 [.slice (some AA) N c, .int .i64 (c : Int), .bool false] :: R) := by
  have hst := hS
  clear hS
  have z0 : IntKind.i64.wrap (c : Int) = (c : Int) := IntWalk.i64_in _ (by omega)
  have z1 : IntKind.i64.wrap ((N : Int) - (c : Int)) = (N : Int) - (c : Int) := IntWalk.i64_in _ (by omega)
  have d1 : decide ((0 : Int) > (N : Int) - (c : Int)) = false := decide_eq_false (by omega)
  have d2 : decide ((N : Int) - (c : Int) < (0 : Int)) = false := d1
  have d3 : decide ((N : Int) < (c : Int)) = false := decide_eq_false (by omega)
  have d4 : decide (N < c) = false := decide_eq_false (by omega)
  have n1 : (c : Int).toNat = c := by omega
  have n5 : 0 ≤ (c : Int) := by omega
  have n8 : (c : Int) ≤ (c : Int) := Int.le_refl _
  have zp0 : IntKind.i64.wrap ((c : Int) + 0) = (c : Int) := by rw [Int.add_zero]; exact z0
  have zp1 : IntKind.i64.wrap ((c : Int) - 0) = (c : Int) := by rw [Int.sub_zero]; exact z0
  go_enter Try.func63, Try.ntmps63
  go_wp2_with (first | go_big_skip | go_big_guard | fail)
  have hX := hst.drew
  clear hst
  refine wp_region_held_drew (S := (fun w' => (loadVarH 22 ⟨gr, 0, none⟩).run Try.prog w' = .ok (.slice (some AA) N c) w' ∧ (loadVarH 3 ⟨gr, 1, none⟩).run Try.prog w' = .ok (.int .i64 (c : Int)) w' ∧ (loadVarH 4 ⟨gr, 2, none⟩).run Try.prog w' = .ok (.bool false) w')) (by kernel_rfl) (by exact ⟨ldS [] hX rfl, ldS [] hX rfl, ldS [] hX rfl⟩) (fun hHeld => ?_)
  refine tk 0 5 ?_
  (try simp only [Act.put, List.setIfInBounds_toArray, List.set_cons_zero, List.set_cons_succ])
  refine tk 1 6 ?_
  (try simp only [Act.put, List.setIfInBounds_toArray, List.set_cons_zero, List.set_cons_succ])
  refine tk 2 7 ?_
  (try simp only [Act.put, List.setIfInBounds_toArray, List.set_cons_zero, List.set_cons_succ])
  refine tk 3 8 ?_
  (try simp only [Act.put, List.setIfInBounds_toArray, List.set_cons_zero, List.set_cons_succ])
  refine tk 4 9 ?_
  (try simp only [Act.put, List.setIfInBounds_toArray, List.set_cons_zero, List.set_cons_succ])
  refine tk 5 10 ?_
  (try simp only [Act.put, List.setIfInBounds_toArray, List.set_cons_zero, List.set_cons_succ])
  refine tk 6 11 ?_
  (try simp only [Act.put, List.setIfInBounds_toArray, List.set_cons_zero, List.set_cons_succ])
  refine tk 11 16 ?_
  (try simp only [Act.put, List.setIfInBounds_toArray, List.set_cons_zero, List.set_cons_succ])
  refine tk 7 12 ?_
  (try simp only [Act.put, List.setIfInBounds_toArray, List.set_cons_zero, List.set_cons_succ])
  refine tk 12 17 ?_
  (try simp only [Act.put, List.setIfInBounds_toArray, List.set_cons_zero, List.set_cons_succ])
  refine tk 8 13 ?_
  (try simp only [Act.put, List.setIfInBounds_toArray, List.set_cons_zero, List.set_cons_succ])
  refine tk 13 18 ?_
  (try simp only [Act.put, List.setIfInBounds_toArray, List.set_cons_zero, List.set_cons_succ])
  refine tk 9 14 ?_
  (try simp only [Act.put, List.setIfInBounds_toArray, List.set_cons_zero, List.set_cons_succ])
  refine tk 14 19 ?_
  (try simp only [Act.put, List.setIfInBounds_toArray, List.set_cons_zero, List.set_cons_succ])
  refine tk 10 15 ?_
  (try simp only [Act.put, List.setIfInBounds_toArray, List.set_cons_zero, List.set_cons_succ])
  refine tk 15 20 ?_
  (try simp only [Act.put, List.setIfInBounds_toArray, List.set_cons_zero, List.set_cons_succ])
  refine tk 16 21 ?_
  (try simp only [Act.put, List.setIfInBounds_toArray, List.set_cons_zero, List.set_cons_succ])
  refine tk 17 22 ?_
  (try simp only [Act.put, List.setIfInBounds_toArray, List.set_cons_zero, List.set_cons_succ])
  refine wpAnyH_done (by kernel_rfl) ?_ _
  clear hHeld
  go_wp2_with (first | go_big_skip | go_big_guard | (refine wl_loadE rfl rfl rfl ?_; first | refine ⟨_, Loads.at [] hX rfl, ?_⟩) | (refine wl_store [] hX rfl rfl rfl (v := .int .i64 (c : Int)) rfl rfl rfl (by show (1 : Nat) + 1 ≤ 3; decide) ?_; intro w7 hst7; clear hX))
  have hst8 : St w0 [] w7 (.blk gr 62 [.slice (some AA) N c, .int .i64 (c : Int), .bool false] :: R) := hst7
  clear hst7
  have hY := hst8.drew
  clear hst8
  refine wp_region_held_drew (S := (fun w' => (loadVarH 22 ⟨gr, 0, none⟩).run Try.prog w' = .ok (.slice (some AA) N c) w' ∧ (loadVarH 3 ⟨gr, 1, none⟩).run Try.prog w' = .ok (.int .i64 (c : Int)) w' ∧ (loadVarH 4 ⟨gr, 2, none⟩).run Try.prog w' = .ok (.bool false) w')) (by kernel_rfl) (by exact ⟨ldS [] hY rfl, ldS [] hY rfl, ldS [] hY rfl⟩) (fun hHeld => ?_)
  refine tk 0 34 ?_
  (try simp only [Act.put, List.setIfInBounds_toArray, List.set_cons_zero, List.set_cons_succ])
  refine tk 4 38 ?_
  (try simp only [Act.put, List.setIfInBounds_toArray, List.set_cons_zero, List.set_cons_succ])
  refine tk 8 42 ?_
  (try simp only [Act.put, List.setIfInBounds_toArray, List.set_cons_zero, List.set_cons_succ])
  refine tk 10 44 ?_
  (try simp only [Act.put, List.setIfInBounds_toArray, List.set_cons_zero, List.set_cons_succ])
  refine tk 1 35 ?_
  (try simp only [Act.put, List.setIfInBounds_toArray, List.set_cons_zero, List.set_cons_succ])
  refine tk 5 39 ?_
  (try simp only [Act.put, List.setIfInBounds_toArray, List.set_cons_zero, List.set_cons_succ])
  refine tk 11 45 ?_
  (try simp only [Act.put, List.setIfInBounds_toArray, List.set_cons_zero, List.set_cons_succ])
  refine tk 2 36 ?_
  (try simp only [Act.put, List.setIfInBounds_toArray, List.set_cons_zero, List.set_cons_succ])
  refine tk 6 40 ?_
  (try simp only [Act.put, List.setIfInBounds_toArray, List.set_cons_zero, List.set_cons_succ])
  refine tk 12 46 ?_
  (try simp only [Act.put, List.setIfInBounds_toArray, List.set_cons_zero, List.set_cons_succ])
  refine tk 3 37 ?_
  (try simp only [Act.put, List.setIfInBounds_toArray, List.set_cons_zero, List.set_cons_succ])
  refine tk 7 41 ?_
  (try simp only [Act.put, List.setIfInBounds_toArray, List.set_cons_zero, List.set_cons_succ])
  refine tk 13 47 ?_
  (try simp only [Act.put, List.setIfInBounds_toArray, List.set_cons_zero, List.set_cons_succ])
  refine tk 9 43 ?_
  (try simp only [Act.put, List.setIfInBounds_toArray, List.set_cons_zero, List.set_cons_succ])
  refine tk 14 48 ?_
  (try simp only [Act.put, List.setIfInBounds_toArray, List.set_cons_zero, List.set_cons_succ])
  refine tk 15 4 ?_
  (try simp only [Act.put, List.setIfInBounds_toArray, List.set_cons_zero, List.set_cons_succ])
  refine wpAnyH_done (by kernel_rfl) ?_ _
  clear hHeld
  go_wp2_with (first | go_big_skip | go_big_guard | fail)
  go_ret
  exact ⟨rfl, hY⟩
theorem graw_ok {w0 w : World} {R : List HA} {gr : Nat} (b off N c p n : Nat) (hS : St w0 [] w (.blk gr 62 [.slice (some ⟨b, off, none⟩) N c, .int .i64 (p : Int), .bool false] :: R)) (hN : N ≤ 100000) (hc : N ≤ c) (hc2 : c ≤ 9223372036854775807) (hs : p + n ≤ N) (hcp : ¬ c = p) :
    Calls Try.prog 63 #[.pointer (some ⟨gr, 0, none⟩), .int .i64 n] w fun e w' => e = .returned (.slice (some ⟨b, off + p, none⟩) n (c - p)) ∧ St w0 [] w' (.blk gr 62 [.slice (some ⟨b, off, none⟩) N c, .int .i64 ((p : Int) + (n : Int)), .bool false] :: R) := by
  have hst := hS
  clear hS
  have z1 : IntKind.i64.wrap ((N : Int) - (p : Int)) = (N : Int) - (p : Int) := IntWalk.i64_in _ (by omega)
  have z2 : IntKind.i64.wrap ((p : Int) + (n : Int)) = (p : Int) + (n : Int) := IntWalk.i64_in _ (by omega)
  have z3 : IntKind.i64.wrap (p : Int) = (p : Int) := IntWalk.i64_in _ (by omega)
  have z4 : IntKind.i64.wrap ((p : Int) + (n : Int) - (n : Int)) = (p : Int) := by rw [show (p : Int) + (n : Int) - (n : Int) = (p : Int) by omega]; exact z3
  have d1 : decide ((n : Int) > (N : Int) - (p : Int)) = false := decide_eq_false (by omega)
  have d2 : decide ((N : Int) - (p : Int) < (n : Int)) = false := d1
  have n1 : (p : Int).toNat = p := by omega
  have n2 : ((p : Int) + (n : Int)).toNat = p + n := by omega
  have n3 : (p : Int) + (n : Int) ≤ (c : Int) := by omega
  have n4 : (p : Int) ≤ (p : Int) + (n : Int) := by omega
  have n5 : 0 ≤ (p : Int) := by omega
  have n6 : 0 ≤ (p : Int) + (n : Int) := by omega
  have n7 : p + n - p = n := by omega
  go_enter Try.func63, Try.ntmps63
  go_wp2_with (first | go_big_skip | go_big_guard | fail)
  have hX := hst.drew
  clear hst
  refine wp_region_held_drew (S := (fun w' => (loadVarH 22 ⟨gr, 0, none⟩).run Try.prog w' = .ok (.slice (some ⟨b, off, none⟩) N c) w' ∧ (loadVarH 3 ⟨gr, 1, none⟩).run Try.prog w' = .ok (.int .i64 (p : Int)) w' ∧ (loadVarH 4 ⟨gr, 2, none⟩).run Try.prog w' = .ok (.bool false) w')) (by kernel_rfl) (by exact ⟨ldS [] hX rfl, ldS [] hX rfl, ldS [] hX rfl⟩) (fun hHeld => ?_)
  refine tk 0 5 ?_
  (try simp only [Act.put, List.setIfInBounds_toArray, List.set_cons_zero, List.set_cons_succ])
  refine tk 1 6 ?_
  (try simp only [Act.put, List.setIfInBounds_toArray, List.set_cons_zero, List.set_cons_succ])
  refine tk 2 7 ?_
  (try simp only [Act.put, List.setIfInBounds_toArray, List.set_cons_zero, List.set_cons_succ])
  refine tk 3 8 ?_
  (try simp only [Act.put, List.setIfInBounds_toArray, List.set_cons_zero, List.set_cons_succ])
  refine tk 4 9 ?_
  (try simp only [Act.put, List.setIfInBounds_toArray, List.set_cons_zero, List.set_cons_succ])
  refine tk 5 10 ?_
  (try simp only [Act.put, List.setIfInBounds_toArray, List.set_cons_zero, List.set_cons_succ])
  refine tk 6 11 ?_
  (try simp only [Act.put, List.setIfInBounds_toArray, List.set_cons_zero, List.set_cons_succ])
  refine tk 11 16 ?_
  (try simp only [Act.put, List.setIfInBounds_toArray, List.set_cons_zero, List.set_cons_succ])
  refine tk 7 12 ?_
  (try simp only [Act.put, List.setIfInBounds_toArray, List.set_cons_zero, List.set_cons_succ])
  refine tk 12 17 ?_
  (try simp only [Act.put, List.setIfInBounds_toArray, List.set_cons_zero, List.set_cons_succ])
  refine tk 8 13 ?_
  (try simp only [Act.put, List.setIfInBounds_toArray, List.set_cons_zero, List.set_cons_succ])
  refine tk 13 18 ?_
  (try simp only [Act.put, List.setIfInBounds_toArray, List.set_cons_zero, List.set_cons_succ])
  refine tk 9 14 ?_
  (try simp only [Act.put, List.setIfInBounds_toArray, List.set_cons_zero, List.set_cons_succ])
  refine tk 14 19 ?_
  (try simp only [Act.put, List.setIfInBounds_toArray, List.set_cons_zero, List.set_cons_succ])
  refine tk 10 15 ?_
  (try simp only [Act.put, List.setIfInBounds_toArray, List.set_cons_zero, List.set_cons_succ])
  refine tk 15 20 ?_
  (try simp only [Act.put, List.setIfInBounds_toArray, List.set_cons_zero, List.set_cons_succ])
  refine tk 16 21 ?_
  (try simp only [Act.put, List.setIfInBounds_toArray, List.set_cons_zero, List.set_cons_succ])
  refine tk 17 22 ?_
  (try simp only [Act.put, List.setIfInBounds_toArray, List.set_cons_zero, List.set_cons_succ])
  refine wpAnyH_done (by kernel_rfl) ?_ _
  clear hHeld
  go_wp2_with (first | go_big_skip | go_big_guard | (refine wl_loadE rfl rfl rfl ?_; first | refine ⟨_, Loads.at [] hX rfl, ?_⟩) | (refine wl_store [] hX rfl rfl rfl (v := .int .i64 ((p : Int) + (n : Int))) rfl rfl rfl (by show (1 : Nat) + 1 ≤ 3; decide) ?_; intro w7 hst7; clear hX))
  have hst8 : St w0 [] w7 (.blk gr 62 [.slice (some ⟨b, off, none⟩) N c, .int .i64 ((p : Int) + (n : Int)), .bool false] :: R) := hst7
  clear hst7
  have hY := hst8.drew
  clear hst8
  refine wp_region_held_drew (S := (fun w' => (loadVarH 22 ⟨gr, 0, none⟩).run Try.prog w' = .ok (.slice (some ⟨b, off, none⟩) N c) w' ∧ (loadVarH 3 ⟨gr, 1, none⟩).run Try.prog w' = .ok (.int .i64 ((p : Int) + (n : Int))) w' ∧ (loadVarH 4 ⟨gr, 2, none⟩).run Try.prog w' = .ok (.bool false) w')) (by kernel_rfl) (by exact ⟨ldS [] hY rfl, ldS [] hY rfl, ldS [] hY rfl⟩) (fun hHeld => ?_)
  refine tk 0 34 ?_
  (try simp only [Act.put, List.setIfInBounds_toArray, List.set_cons_zero, List.set_cons_succ])
  refine tk 4 38 ?_
  (try simp only [Act.put, List.setIfInBounds_toArray, List.set_cons_zero, List.set_cons_succ])
  refine tk 8 42 ?_
  (try simp only [Act.put, List.setIfInBounds_toArray, List.set_cons_zero, List.set_cons_succ])
  refine tk 10 44 ?_
  (try simp only [Act.put, List.setIfInBounds_toArray, List.set_cons_zero, List.set_cons_succ])
  refine tk 1 35 ?_
  (try simp only [Act.put, List.setIfInBounds_toArray, List.set_cons_zero, List.set_cons_succ])
  refine tk 5 39 ?_
  (try simp only [Act.put, List.setIfInBounds_toArray, List.set_cons_zero, List.set_cons_succ])
  refine tk 11 45 ?_
  (try simp only [Act.put, List.setIfInBounds_toArray, List.set_cons_zero, List.set_cons_succ])
  refine tk 2 36 ?_
  (try simp only [Act.put, List.setIfInBounds_toArray, List.set_cons_zero, List.set_cons_succ])
  refine tk 6 40 ?_
  (try simp only [Act.put, List.setIfInBounds_toArray, List.set_cons_zero, List.set_cons_succ])
  refine tk 12 46 ?_
  (try simp only [Act.put, List.setIfInBounds_toArray, List.set_cons_zero, List.set_cons_succ])
  refine tk 3 37 ?_
  (try simp only [Act.put, List.setIfInBounds_toArray, List.set_cons_zero, List.set_cons_succ])
  refine tk 7 41 ?_
  (try simp only [Act.put, List.setIfInBounds_toArray, List.set_cons_zero, List.set_cons_succ])
  refine tk 13 47 ?_
  (try simp only [Act.put, List.setIfInBounds_toArray, List.set_cons_zero, List.set_cons_succ])
  refine tk 9 43 ?_
  (try simp only [Act.put, List.setIfInBounds_toArray, List.set_cons_zero, List.set_cons_succ])
  refine tk 14 48 ?_
  (try simp only [Act.put, List.setIfInBounds_toArray, List.set_cons_zero, List.set_cons_succ])
  refine tk 15 4 ?_
  (try simp only [Act.put, List.setIfInBounds_toArray, List.set_cons_zero, List.set_cons_succ])
  refine wpAnyH_done (by kernel_rfl) ?_ _
  clear hHeld
  go_wp2_with (first | go_big_skip | go_big_guard | fail)
  go_ret
  exact ⟨rfl, hY⟩
theorem graw_any {w0 w : World} {R : List HA} {gr : Nat} (ao : Option Addr) (N c : Nat) (B : List UInt8) (s : GS) (n : Nat) (z : Int) (hz : z = (n : Int)) (hS : St w0 [] w (.blk gr 62 (rdC (.slice ao N c) s) :: R)) (hB : Rd w0 (.slice ao N c) 1 N (bytesV B)) (hL : B.length = N) (hN : N ≤ 100000) (hn : n ≤ 100000) (hp : s.pos ≤ N) :
    Calls Try.prog 63 #[.pointer (some ⟨gr, 0, none⟩), .int .i64 z] w fun e w' => ∃ ao' c', e = .returned (.slice ao' (gotG false B n s).length c') ∧ Rd w0 (.slice ao' (gotG false B n s).length c') 1 (gotG false B n s).length (bytesV (gotG false B n s)) ∧ St w0 [] w' (.blk gr 62 (rdC (.slice ao N c) (s.go N n)) :: R) := by
  subst hz
  obtain ⟨p, sh⟩ := s
  have hp' : p ≤ N := hp
  cases hst : (GS.mk p sh).stop N n with
  | true =>
    have e1 : (GS.mk p sh).go N n = ⟨p, true⟩ := GS.go_stop hst
    have e2 : gotG false B n ⟨p, sh⟩ = [] := by rw [gotG_stop (by rw [hL]; exact hst)]; rfl
    rw [e1, e2]
    cases sh with
    | true => exact (graw_was ao N c p n hS).mono fun e w' ⟨he, h⟩ => ⟨none, 0, he, Rd.nil _ _, h⟩
    | false =>
      have hs : N < p + n := by
        unfold GS.stop at hst
        simpa using hst
      exact (graw_ends ao N c p n hS hp' hN hn hs).mono fun e w' ⟨he, h⟩ => ⟨none, 0, he, Rd.nil _ _, h⟩
  | false =>
    obtain ⟨h0, hs⟩ := GS.stop_yes hst
    have h0' : sh = false := h0
    subst h0'
    have hs' : p + n ≤ N := hs
    have e1 : (GS.mk p false).go N n = ⟨p + n, false⟩ := GS.go_go hst
    have e2 : gotG false B n ⟨p, false⟩ = (B.drop p).take n := gotG_go (by rw [hL]; exact hst)
    have hlen : ((B.drop p).take n).length = n := by rw [List.length_take, List.length_drop]; omega
    rw [e1, e2, hlen]
    rcases hB.casesF with ⟨he, hn0, hb0⟩ | ⟨AA, c', he, hnc9, hcm, _⟩
    · simp only [Value.slice.injEq] at he
      obtain ⟨rfl, rfl, rfl⟩ := he
      have hB0 : B = [] := by simpa [bytesV] using hb0
      subst hB0
      have hp0 : p = 0 := by omega
      have hk0 : n = 0 := by omega
      subst hp0
      subst hk0
      exact (graw_nil hS).mono fun e w' ⟨he, h⟩ => ⟨none, 0, he, Rd.nil _ _, h⟩
    · simp only [Value.slice.injEq, true_and] at he
      obtain ⟨rfl, rfl⟩ := he
      by_cases hcp : c = p
      · subst hcp
        have hk0 : n = 0 := by omega
        subst hk0
        exact (graw_end AA N c hS hp' hN).mono fun e w' ⟨he, h⟩ => ⟨some AA, 0, he, Rd.empty _ _ _, h⟩
      · obtain ⟨b, off, rfl⟩ := hB.addr (by omega)
        unfold maxLen at hcm
        exact (graw_ok b off N c p n hS hN hnc9 hcm hs' hcp).mono fun e w' ⟨he, h⟩ => ⟨_, _, he, Rd.win (m := n) p hB rfl (by omega) (by omega), h⟩
end Go.Proofs.Ytkpkaoiafppimaa
namespace Go.Proofs.Ytkpkaoiafppimaa
set_option linter.unusedVariables false
set_option linter.unusedSimpArgs false
open Go.RowKit Hp
attribute [local irreducible] Go.Calls Go.wpList
set_option maxRecDepth 100000
set_option maxHeartbeats 4000000
theorem gnum_any {w0 w : World} {R : List HA} {gr gx off : Nat} {T : TypeId} {cs : List Value} (ao : Option Addr) (N c : Nat) (B : List UInt8) (s : GS) (n : Nat) (z : Int) (hz : z = (n : Int)) (hS : St w0 [] w (.blk gr 62 (rdC (.slice ao N c) s) :: .blk gx T cs :: R)) (hoff : off + 1 ≤ cs.length) (hB : Rd w0 (.slice ao N c) 1 N (bytesV B)) (hL : B.length = N) (hN : N ≤ 100000) (hn : n ≤ 4) (hp : s.pos ≤ N) :
    Calls Try.prog 32 #[.pointer (some ⟨gr, 0, none⟩), .pointer (some ⟨gx, off, none⟩), .int .i64 z] w fun e w' => e = .returned (.pointer (some ⟨gr, 0, none⟩)) ∧ St w0 [] w' (.blk gr 62 (rdC (.slice ao N c) (s.go N n)) :: .blk gx T (putAt cs off [.int .i64 (numG B n s : Nat)]) :: R) := by
  subst hz
  have hst := hS
  have HB := hid hB
  have HL := hid hL
  have HP := hid hp
  obtain ⟨l, hl⟩ : ∃ l, l = gotG false B n s := ⟨_, rfl⟩
  obtain ⟨m, hm⟩ : ∃ m, m = l.length := ⟨_, rfl⟩
  obtain ⟨q, hq⟩ : ∃ q, q = numG B n s := ⟨_, rfl⟩
  have hm4 : m ≤ 4 := by
    rw [hm, hl]
    unfold gotG
    split
    · simp
    · rw [List.length_take]; omega
  have HLL := hid hl
  have HM := hid hm
  have HQ := hid hq
  have HQ2 := hid (show beN l = q by rw [hq, hl]; rfl)
  rw [← hq]
  clear hS hB hL hp hl hm hq
  go_enter Try.func32, Try.ntmps32
  go_wp2_with (first | go_big_skip | go_big_guard | (go_at_call 63; refine (graw_any ao N c B s n n rfl hst HB.out HL.out hN (by omega) HP.out).mono ?_; rw [← HLL.out, ← HM.out]; rintro _ w3 ⟨ao', c', rfl, hrd, h4⟩; have HRD := hid hrd; have hst2 := h4; clear hrd h4 hst))
  go_loopw [7, 14] (fun v i wr => ∃ j : Nat, j ≤ m ∧ i = .int .i64 (j : Int) ∧ v = .int .i64 (beN (l.take j) : Nat) ∧ St w0 [] wr (.blk gr 62 (rdC (.slice ao N c) (s.go N n)) :: .blk gx T cs :: R)) (fun _ i _ => m - (intOf i).toNat)
  case atStart => exact ⟨0, Nat.zero_le _, rfl, by simp [beN], hst2⟩
  case round =>
    clear hst2
    obtain ⟨j, hj, rfl, rfl, hst⟩ := hrel
    by_cases hlt : j < m
    · have e1 : decide ((j : Int) < (m : Int)) = true := decide_eq_true (by omega)
      have y1 : IntKind.i64.wrap ((j : Int) + 1) = (j : Int) + 1 := IntWalk.i64_in _ (by omega)
      have hjl : j < l.length := by rw [← HM.out]; exact hlt
      obtain ⟨b, o, rfl, hr⟩ := HRD.out.at hlt
      have hx := byte_cell hr (k := j) hjl
      have hsucc := beN_take_succ l j hjl
      have hqlt := beN_lt (l.take j)
      have hq3 : beN (l.take j) < 16777216 := by
        refine Nat.lt_of_lt_of_le hqlt ?_
        have : (l.take j).length ≤ 3 := by rw [List.length_take]; omega
        calc 256 ^ (l.take j).length ≤ 256 ^ 3 := Nat.pow_le_pow_right (by decide) this
          _ = 16777216 := by decide
      obtain ⟨x, hxx⟩ : ∃ x, x = l.getD j 0 := ⟨_, rfl⟩
      rw [← hxx] at hx hsucc
      obtain ⟨q, hqq⟩ : ∃ q, q = beN (l.take j) := ⟨_, rfl⟩
      rw [← hqq] at hsucc hq3
      rw [← hqq]
      have Hs := hid hsucc
      have HX := hid hx
      clear hsucc hqq hxx hqlt hr hjl hx
      have hxb := x.toNat_lt
      have hor := or256 q x.toNat (by omega) (by omega) (by omega) (by omega)
      go_wp2_with (first | go_big_skip | go_big_guard | (refine wl_index rfl rfl rfl rfl hlt ?_) | (refine wl_loadE rfl rfl rfl ?_; first | refine ⟨_, Loads.old hst (by rw [Nat.mul_one]; exact HX.out), ?_⟩))
      go_roundw
      case rel => exact ⟨j + 1, by omega, rfl, by rw [Hs.out]; go_num, hst⟩
      case measure => simp [intOf]; omega
    · have e1 : decide ((j : Int) < (m : Int)) = false := decide_eq_false (by omega)
      have e2 : beN (l.take j) = q := by rw [List.take_of_length_le (by rw [← HM.out]; omega), HQ2.out]
      rw [e2]
      clear e2
      go_wp2_with (first | go_big_skip | go_big_guard | (refine wl_store [_] hst rfl rfl rfl (v := .int .i64 (q : Int)) rfl rfl rfl hoff ?_; intro w7 hst7; clear hst))
      go_ret
      exact ⟨rfl, hst7⟩
end Go.Proofs.Ytkpkaoiafppimaa
namespace Go.Proofs.Ytkpkaoiafppimaa
set_option linter.unusedVariables false
set_option linter.unusedSimpArgs false
open Go.RowKit Hp
attribute [local irreducible] Go.Calls
set_option maxHeartbeats 2000000
theorem loadedI (A : Addr) : loadVar 3 A = loadVarH 3 A := rfl
theorem NV.at_v {x : NV} (h : x.Ln) {k : Nat} (hk : k < 4) : x.cells[1 + k * 35 + 2]? = some (.int .i64 (x.get k).v) := by
  have h1 := NV.at' h hk
  have h2 : ((x.cells.drop (1 + k * 35)).take (x.get k).cells.length)[2]? = (x.get k).cells[2]? := by rw [h1]
  rw [List.getElem?_take_of_lt (by rw [PV.len (h k)]; omega), List.getElem?_drop] at h2
  rw [h2]; rfl
theorem NV.at_sv {x : NV} (h : x.Ln) {k : Nat} (hk : k < 4) : x.cells[1 + k * 35]? = some (x.get k).sv := by
  have h1 := NV.at' h hk
  have h2 : ((x.cells.drop (1 + k * 35)).take (x.get k).cells.length)[0]? = (x.get k).cells[0]? := by rw [h1]
  rw [List.getElem?_take_of_lt (by rw [PV.len (h k)]; omega), List.getElem?_drop, Nat.add_zero] at h2
  rw [h2]; rfl
end Go.Proofs.Ytkpkaoiafppimaa
namespace Go.Proofs.Ytkpkaoiafppimaa
set_option linter.unusedVariables false
set_option linter.unusedSimpArgs false
open Go.RowKit Hp
attribute [local irreducible] Go.Calls
set_option maxHeartbeats 20000000
attribute [local go_sem ↓] loadedP loadedI
theorem NV.err_ok {x : NV} (h : x.ok = true) : x.err = 0 := by simp [NV.err, h]
theorem NV.err_no {x : NV} (h : x.ok = false) : x.err = 2 := by simp [NV.err, h]
theorem NV.ok_lv {x : NV} (h : ¬ (1 ≤ x.lv ∧ x.lv ≤ 3)) : x.ok = false := by simp [NV.ok, h]
theorem NV.ok_fit {x : NV} {k : Nat} (hk : k < 4) (h : (x.get k).fits x.lv = false) : x.ok = false := by
  rw [NV.ok, NV.fitsAll, all4_no (f := fun p => p.fits x.lv) hk h, Bool.and_false]
theorem NV.ok_all {x : NV} (h1 : 1 ≤ x.lv) (h3 : x.lv ≤ 3) (h : ∀ j, j < 4 → (x.get j).fits x.lv = true) : x.ok = true := by
  rw [NV.ok, NV.fitsAll, (all4 (f := fun p => p.fits x.lv)).2 h]
  simp [h1, h3]
end Go.Proofs.Ytkpkaoiafppimaa
namespace Go.Proofs.Ytkpkaoiafppimaa
set_option linter.unusedVariables false
set_option linter.unusedSimpArgs false
open Go.RowKit Hp
attribute [local irreducible] Go.Calls
set_option maxHeartbeats 4000000
def lvB (lv : Int) : UInt8 := UInt8.ofNat lv.toNat
def packTo (x : NV) (k : Nat) : List UInt8 := (lvB x.lv :: ((List.range k).map fun j => (x.get j).bytes).flatten) ++ List.replicate (255 - 47 * k) 0
def NV.bytes (x : NV) : List UInt8 := packTo x 4
theorem PV.length_bytes {p : PV} (h : L32 p.S) : p.bytes.length = 47 := length_bytesP p.l p.b p.v h
theorem length_flat {x : NV} (h : x.Ln) (k : Nat) : (((List.range k).map fun j => (x.get j).bytes).flatten).length = 47 * k := by
  induction k with
  | zero => rfl
  | succ k ih => rw [List.range_succ, List.map_append, List.flatten_append, List.length_append, ih]; simp [PV.length_bytes (h k)]; omega
theorem length_packTo {x : NV} (h : x.Ln) {k : Nat} (hk : k ≤ 4) : (packTo x k).length = 256 := by
  simp only [packTo, List.length_append, List.length_cons, length_flat h, List.length_replicate]; omega
theorem put_pack {x : NV} (h : x.Ln) {k : Nat} (hk : k < 4) : putAt (bytesV (packTo x k)) (1 + 47 * k) (bytesV (x.get k).bytes) = bytesV (packTo x (k + 1)) := by
  have e1 : bytesV (packTo x k) = bytesV (lvB x.lv :: ((List.range k).map fun j => (x.get j).bytes).flatten) ++ bytesV (List.replicate (255 - 47 * k) 0) := by rw [packTo, bytesV_append]
  have e2 : (bytesV (lvB x.lv :: ((List.range k).map fun j => (x.get j).bytes).flatten)).length = 1 + 47 * k := by rw [length_bytesV, List.length_cons, length_flat h]; omega
  have := put_app (bytesV (lvB x.lv :: ((List.range k).map fun j => (x.get j).bytes).flatten)) (bytesV (List.replicate (255 - 47 * k) 0)) 0 (bytesV (x.get k).bytes)
  rw [e2, Nat.add_zero] at this
  rw [e1, this, packTo, List.range_succ, List.map_append, List.flatten_append]
  have e3 : List.replicate (255 - 47 * k) (0 : UInt8) = List.replicate 47 0 ++ List.replicate (255 - 47 * (k + 1)) 0 := by rw [List.replicate_append_replicate]; congr 1; omega
  rw [e3]
  have e4 : (bytesV (x.get k).bytes).length = 47 := by rw [length_bytesV, PV.length_bytes (h k)]
  simp only [putAt, List.take_zero, List.nil_append, e4, Nat.zero_add, bytesV_append, ← List.cons_append, List.append_assoc]
  congr 1
  simp [bytesV, List.drop_append]
theorem packTo_zero (x : NV) : packTo x 0 = lvB x.lv :: List.replicate 255 0 := rfl
theorem lvB_val {lv : Int} (h1 : 1 ≤ lv) (h3 : lv ≤ 3) : ((lvB lv).toNat : Int) = lv := by
  unfold lvB; rw [UInt8.toNat_ofNat']; omega
theorem NV.at_tail {x : NV} (h : x.Ln) {k : Nat} (hk : k < 4) : ((x.cells.drop 1).drop (k * 35)).take 35 = (x.get k).cells := by
  have := NV.at' h hk
  rw [PV.len (h k)] at this
  rwa [List.drop_drop]
theorem NV.ok_parts {x : NV} (h : x.ok = true) : 1 ≤ x.lv ∧ x.lv ≤ 3 ∧ ∀ k, k < 4 → (x.get k).ok = true := by
  simp only [NV.ok, Bool.and_eq_true, decide_eq_true_eq] at h
  refine ⟨h.1.1, h.1.2, fun k hk => ?_⟩
  have := (all4 (f := fun p => p.fits x.lv)).1 h.2 k hk
  simp only [PV.fits, Bool.or_eq_true, Bool.and_eq_true] at this
  rcases this with h1 | h1
  · exact PV.hole_ok h1
  · exact h1.1
end Go.Proofs.Ytkpkaoiafppimaa
namespace Go.Proofs.Ytkpkaoiafppimaa
set_option linter.unusedVariables false
set_option linter.unusedSimpArgs false
open Go.RowKit Hp
def NV.set (x : NV) : Nat → PV → NV
  | 0, p => { x with p0 := p }
  | 1, p => { x with p1 := p }
  | 2, p => { x with p2 := p }
  | _, p => { x with p3 := p }
theorem NV.get_set_same (x : NV) {k : Nat} (hk : k < 4) (p : PV) : (x.set k p).get k = p := by
  obtain rfl | rfl | rfl | rfl : k = 0 ∨ k = 1 ∨ k = 2 ∨ k = 3 := by omega
  all_goals rfl
theorem NV.get_set_other (x : NV) {k j : Nat} (hk : k < 4) (hj : j < 4) (h : j ≠ k) (p : PV) : (x.set k p).get j = x.get j := by
  obtain rfl | rfl | rfl | rfl : k = 0 ∨ k = 1 ∨ k = 2 ∨ k = 3 := by omega
  all_goals
    obtain rfl | rfl | rfl | rfl : j = 0 ∨ j = 1 ∨ j = 2 ∨ j = 3 := by omega
  all_goals first | rfl | exact absurd rfl h
theorem NV.lv_set (x : NV) (k : Nat) (p : PV) : (x.set k p).lv = x.lv := by
  match k with
  | 0 => rfl
  | 1 => rfl
  | 2 => rfl
  | _ + 3 => rfl
theorem put_at (a b c v : List Value) (h : b.length = v.length) {n : Nat} (hn : n = a.length) : putAt (a ++ (b ++ c)) n v = a ++ (v ++ c) := by
  subst hn
  have := put_app a (b ++ c) 0 v
  rw [Nat.add_zero] at this
  rw [this]
  simp [putAt, ← h]
theorem put_node {x : NV} (h : x.Ln) {k : Nat} (hk : k < 4) {p : PV} (hp : L32 p.S) : putAt x.cells (1 + k * 35) p.cells = (x.set k p).cells := by
  have h0 : x.p0.cells.length = 35 := PV.len (h 0)
  have h1 : x.p1.cells.length = 35 := PV.len (h 1)
  have h2 : x.p2.cells.length = 35 := PV.len (h 2)
  have h3 : x.p3.cells.length = 35 := PV.len (h 3)
  have h4 := PV.len hp
  unfold NV.cells
  obtain rfl | rfl | rfl | rfl : k = 0 ∨ k = 1 ∨ k = 2 ∨ k = 3 := by omega
  · exact put_at [.int .i64 x.lv] x.p0.cells (x.p1.cells ++ (x.p2.cells ++ x.p3.cells)) p.cells (by omega) rfl
  · have := put_at (.int .i64 x.lv :: x.p0.cells) x.p1.cells (x.p2.cells ++ x.p3.cells) p.cells (n := 1 + 1 * 35) (by omega) (by simp [h0])
    simpa [NV.set] using this
  · have := put_at (.int .i64 x.lv :: (x.p0.cells ++ x.p1.cells)) x.p2.cells x.p3.cells p.cells (n := 1 + 2 * 35) (by omega) (by simp [h0, h1])
    simpa [NV.set] using this
  · have := put_at (.int .i64 x.lv :: (x.p0.cells ++ (x.p1.cells ++ x.p2.cells))) x.p3.cells [] p.cells (n := 1 + 3 * 35) (by omega) (by simp [h0, h1, h2])
    simpa [NV.set] using this
def uP (bs : List UInt8) (k : Nat) : List UInt8 := (bs.take (1 + 47 * (k + 1))).drop (1 + 47 * k)
theorem length_uP {bs : List UInt8} (h : bs.length = 256) {k : Nat} (hk : k < 4) : (uP bs k).length = 47 := by simp [uP, h]; omega
def uPV (bs : List UInt8) (k : Nat) : PV := ⟨.slice none 0 0, rAddrs (uP bs k) 3, rBirth (uP bs k), rLevel (uP bs k), rSum (uP bs k)⟩
def PV.eqd (p q : PV) : Prop := p.l = q.l ∧ p.b = q.b ∧ p.v = q.v ∧ p.S = q.S
def uNV (bs : List UInt8) : NV := ⟨((bs.getD 0 0).toNat : Int), uPV bs 0, uPV bs 1, uPV bs 2, uPV bs 3⟩
def uRd (bs : List UInt8) : Bool := rOK (uP bs 0) && (rOK (uP bs 1) && (rOK (uP bs 2) && rOK (uP bs 3)))
def uOK (bs : List UInt8) : Bool := decide (bs.length = 256) && (uRd bs && ((uNV bs).ok && ((uNV bs).bytes == bs)))
def zP : PV := ⟨.slice none 0 0, [], 0, 0, nones⟩
def zN (lv : Int) : NV := ⟨lv, zP, zP, zP, zP⟩
theorem zP_in (w : World) : zP.In w := ⟨L32.nones, none, 0, 0, rfl, Rd.nil w 2, rfl⟩
theorem zN_in (lv : Int) (w : World) : (zN lv).In w := by
  intro k
  match k with
  | 0 => exact zP_in w
  | 1 => exact zP_in w
  | 2 => exact zP_in w
  | _ + 3 => exact zP_in w
theorem uRd_at {bs : List UInt8} : uRd bs = true ↔ ∀ j, j < 4 → rOK (uP bs j) = true := by
  simp only [uRd, Bool.and_eq_true]
  constructor
  · rintro ⟨h0, h1, h2, h3⟩ j hj
    obtain rfl | rfl | rfl | rfl : j = 0 ∨ j = 1 ∨ j = 2 ∨ j = 3 := by omega
    · exact h0
    · exact h1
    · exact h2
    · exact h3
  · intro h
    exact ⟨h 0 (by omega), h 1 (by omega), h 2 (by omega), h 3 (by omega)⟩
theorem uOK_rd {bs : List UInt8} {j : Nat} (hj : j < 4) (h : rOK (uP bs j) = false) : uOK bs = false := by
  have : uRd bs = false := by
    rw [← Bool.not_eq_true, uRd_at]
    intro ha
    rw [ha j hj] at h; cases h
  simp [uOK, this]
theorem PV.eqd.ok {p q : PV} (h : p.eqd q) : p.ok = q.ok ∧ p.hole = q.hole ∧ p.bytes = q.bytes ∧ ∀ lv, p.fits lv = q.fits lv := by
  obtain ⟨h1, h2, h3, h4⟩ := h
  simp only [PV.ok, PV.hole, PV.bytes, PV.fits, h1, h2, h3, h4, and_self, implies_true]
theorem NV.eqd {x y : NV} (hl : x.lv = y.lv) (h : ∀ j, j < 4 → (x.get j).eqd (y.get j)) : x.ok = y.ok ∧ x.bytes = y.bytes := by
  have e0 := (h 0 (by omega)).ok
  have e1 := (h 1 (by omega)).ok
  have e2 := (h 2 (by omega)).ok
  have e3 := (h 3 (by omega)).ok
  simp only [NV.get] at e0 e1 e2 e3
  constructor
  · simp only [NV.ok, NV.fitsAll, hl, e0.2.2.2, e1.2.2.2, e2.2.2.2, e3.2.2.2]
  · simp only [NV.bytes, packTo, hl, List.range, List.range.loop, List.map_cons, List.map_nil, NV.get, e0.2.2.1, e1.2.2.1, e2.2.2.1, e3.2.2.1]
/-- What is read of a sector: the node, and its pointers' addresses among the pieces R. -/
def NV.isU (E : TypeId) (x : NV) (bs : List UInt8) (R : List HA) (k : Nat) : Prop := ∀ j, j < k → (x.get j).eqd (uPV bs j) ∧ ∃ ao n c, (x.get j).sv = .slice ao n c ∧ HA.row (.slice ao n c) E 2 n (addrsV (x.get j).l) ∈ R ∧ (x.get j).l.length = n
def unOut (bs : List UInt8) (w : World) (E : TypeId) (e : Ending) (w' : World) : Prop :=
  if uOK bs then ∃ (x : NV) (R : List HA), e = .returned (.tuple #[.agg x.cells.toArray, .int .i64 0]) ∧ St w [] w' R ∧ x.lv = (uNV bs).lv ∧ x.isU E bs R 4
  else e = .returned (.tuple #[.agg (zN 0).cells.toArray, .int .i64 (if bs.length = 256 then 2 else 4)]) ∧ St w [] w' []
theorem NV.isU.in {E : TypeId} {x : NV} {bs : List UInt8} {R L : List HA} {w0 w : World} {M : List Nat} {k : Nat} (h : x.isU E bs R k) (hst : St w0 M w L) (hR : ∀ y ∈ R, y ∈ L) (hS : ∀ j, j < k → L32 (uPV bs j).S) (hz : ∀ j, k ≤ j → j < 4 → x.get j = zP) : x.In w := by
  have main : ∀ j, j < 4 → (x.get j).In w := by
    intro j hj
    by_cases hk : j < k
    · obtain ⟨⟨h1, h2, h3, h4⟩, ao, n, c, h5, h6, h7⟩ := h j hk
      exact ⟨by rw [h4]; exact hS j hk, ao, n, c, h5, Rd.row hst (hR _ h6), h7⟩
    · rw [hz j (by omega) hj]; exact zP_in w
  intro j
  match j with
  | 0 => exact main 0 (by omega)
  | 1 => exact main 1 (by omega)
  | 2 => exact main 2 (by omega)
  | _ + 3 => exact main 3 (by omega)
end Go.Proofs.Ytkpkaoiafppimaa
