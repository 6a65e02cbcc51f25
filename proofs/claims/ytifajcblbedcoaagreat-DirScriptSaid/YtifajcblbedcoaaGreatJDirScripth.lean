/- The document's Make, Snap and Clone. -/
import Derived.Test.YtifajcblbedcoaaGreatJDirScriptg
import Derived.Test.YtifajcblbedcoaaGreatJDirScriptf
import Derived.Test.YtifajcblbedcoaaGreatJDirScripte
import Derived.Deep.DeepCutAuto
import Derived.Test.YtifajcblbedcoaaGreatJDirScriptc
import Derived.Test.YtifajcblbedcoaaGreatJDirScriptb
namespace Go.Proofs.YtifajcblbedcoaaGreat
set_option linter.unusedVariables false
set_option linter.unusedSimpArgs false
open Go.RowKit Hp
attribute [local irreducible] Go.Calls Go.wpList
set_option maxRecDepth 100000
set_option maxHeartbeats 8000000
/-- A table lies among the pieces. -/
structure InP (P : List HA) (t : TC) (ar al : Option Addr) (cr cl : Nat) (xs : List (Value × RC)) : Prop where
  rr : HA.row (.slice ar xs.length cr) 53 44 xs.length (recsV xs) ∈ P
  ll : HA.row (.slice al t.lives.length cl) 3 1 t.lives.length (numsV t.lives) ∈ P
  roots : ∀ x ∈ xs, rootH x ∈ P
  ok : Okx xs t
theorem InP.mono {P P' : List HA} {t : TC} {ar al : Option Addr} {cr cl : Nat} {xs : List (Value × RC)} (h : InP P t ar al cr cl xs) (hs : ∀ y ∈ P, y ∈ P') : InP P' t ar al cr cl xs := ⟨hs _ h.rr, hs _ h.ll, fun x hx => hs _ (h.roots x hx), h.ok⟩
theorem InP.own {P : List HA} {t : TC} {ar al : Option Addr} {cr cl : Nat} {xs : List (Value × RC)} (h : InP P t ar al cr cl xs) : OwnX P xs := fun x hx => ⟨h.roots x hx, h.ok.ok x hx⟩
theorem InP.recs {w0 w : World} {M : List Nat} {B P : List HA} {t : TC} {ar al : Option Addr} {cr cl : Nat} {xs : List (Value × RC)} (h : InP P t ar al cr cl xs) (hst : St w0 M w (B ++ P)) : RecsIn w (.slice ar xs.length cr) xs.length xs :=
  recs_inL hst (List.mem_append_right _ h.rr) rfl (h.own.sub fun _ hy => List.mem_append_right _ hy)
theorem InP.tab {w0 w : World} {M : List Nat} {B P : List HA} {t : TC} {ar al : Option Addr} {cr cl : Nat} {xs : List (Value × RC)} (h : InP P t ar al cr cl xs) (hst : St w0 M w (B ++ P)) (hb : t.recs.length ≤ 1000000 ∧ t.lives.length ≤ 1000000) : TabIn w t ar xs.length cr al t.lives.length cl xs :=
  ⟨h.recs hst, h.ok.eq, Rd.row hst (List.mem_append_right _ h.ll), rfl, by rw [h.ok.len]; exact hb.1, hb.2⟩
/-- What a call told, among what was known. -/
theorem ret_pool {w w1 w2 : World} {B P : List HA} {z : Int} {u : TC} {e : Ending} (hst : St w [] w1 (B ++ P)) (h : TabRet (z, u) w1 e w2) :
    ∃ (a a' : Option Addr) (c c' : Nat) (P' : List HA) (xs' : List (Value × RC)), e = .returned (.tuple #[.agg (tabC u (.slice a xs'.length c) (.slice a' u.lives.length c')).toArray, .int .i64 z]) ∧ InP P' u a a' c c' xs' ∧ (∀ y ∈ P, y ∈ P') ∧ St w [] w2 (B ++ P') := by
  obtain ⟨rv, lv, xs, rfl, hok, h4⟩ := h
  have h5 := St.call hst h4
  obtain ⟨a9, c9, rfl, _, _⟩ := rowS [] h5
  obtain ⟨a8, c8, rfl, _, _⟩ := rowS [_] h5
  refine ⟨a9, a8, c9, c8, (.row (.slice a9 xs.length c9) 53 44 xs.length (recsV xs) :: .row (.slice a8 u.lives.length c8) 3 1 u.lives.length (numsV u.lives) :: xs.map rootH) ++ P, xs, rfl, ⟨by simp, by simp, fun x hx => List.mem_append_left _ (.tail _ (.tail _ (List.mem_map_of_mem hx))), hok⟩, fun y hy => List.mem_append_right _ hy, St.perm h5 ?_⟩
  rw [← List.append_assoc, ← List.append_assoc]
  exact List.perm_append_comm.append_right P
def namesOf (t : TC) : List (List UInt8) := t.recs.map (·.name)
def strsW (l : List (List UInt8)) : List Value := l.map fun s => .string ⟨s.toArray⟩
theorem strsW_get {l : List (List UInt8)} {k : Nat} {s : List UInt8} (h : l[k]? = some s) : (strsW l)[k]? = some (.string ⟨s.toArray⟩) := by simp [strsW, h]
attribute [local go_sem ↓] heldInt heldInts heldRecs heldRec heldStr heldTab heldPtr heldFn
instance slStr : TySl Tryz.prog 82 9 := ⟨by kernel_rfl⟩
instance elStr : TyE Tryz.prog 9 1 16 := ⟨by kernel_rfl⟩
theorem list_no {l k : List (List UInt8)} {j : Nat} {a b : List UInt8} (ha : l[j]? = some a) (hb : k[j]? = some b) (h : a ≠ b) : (l == k) = false := by
  rw [beq_eq_false_iff_ne]
  rintro rfl
  rw [ha] at hb
  exact h (Option.some.inj hb)
theorem list_all {l k : List (List UInt8)} (hl : l.length = k.length) (h : ∀ (j : Nat) (a b : List UInt8), l[j]? = some a → k[j]? = some b → a = b) : (l == k) = true := by
  rw [beq_iff_eq]
  apply List.ext_getElem hl
  intro j h1 h2
  exact h j _ _ (List.getElem?_eq_getElem h1) (List.getElem?_eq_getElem h2)
theorem list_len {l k : List (List UInt8)} (h : l.length ≠ k.length) : (l == k) = false := by
  rw [beq_eq_false_iff_ne]
  exact fun e => h (by rw [e])
theorem names13_any (t : TC) (ar : Option Addr) (nr cr : Nat) (lv : Value) (xs : List (Value × RC)) (so' : Option Addr) (k ck : Nat) (want : List (List UInt8)) (w : World) (hR : RecsIn w (.slice ar nr cr) nr xs) (he : xs.map (·.2) = t.recs) (hb : nr ≤ 1000) (hs : Rd w (.slice so' k ck) 1 k (strsW want)) (hk : want.length = k) (hkb : k ≤ 1000) :
    Calls Tryz.prog 24 #[.agg (tabC t (.slice ar nr cr) lv).toArray, .slice so' k ck] w fun e w' => e = .returned (.bool (namesOf t == want)) ∧ St w [] w' [] := by
  have hst0 := St.refl w
  have HR := hid hR
  have HSR := hid hs
  have HK := hid hk
  have hnl : (namesOf t).length = nr := by unfold namesOf; rw [List.length_map, ← he, List.length_map, hR.len]
  have HNL := hid hnl
  have HNE := hid he
  obtain ⟨E, hE⟩ : ∃ E, E = (namesOf t == want) := ⟨_, rfl⟩
  rw [← hE]
  have HE := hid hE
  clear hR hs hk hE hnl he
  by_cases hnk : nr = k
  · subst hnk
    have d1 : ((nr : Int) != (nr : Int)) = false := by simp
    go_enter Tryz.func24, Tryz.ntmps24
    go_wp2_with (first | go_big_skip | go_big_guard | (refine wl_boxA hst0 rfl rfl rfl ?_; intro g2 w1 hst; clear hst0) | (refine wl_loadE rfl rfl rfl ?_; refine ⟨_, Loads.at [] hst rfl, ?_⟩))
    go_loopw [5] (fun i wr => ∃ j : Nat, j ≤ nr ∧ i = .int .i64 (j : Int) ∧ St w [] wr [.blk g2 27 (tabC t (.slice ar nr cr) lv)] ∧ Hid (∀ (i : Nat) (a b : List UInt8), i < j → (namesOf t)[i]? = some a → want[i]? = some b → a = b)) (fun i _ => nr - (intOf i).toNat)
    case atStart => exact ⟨0, Nat.zero_le _, rfl, hst, hid (fun i a b hi _ _ => by omega)⟩
    case round =>
      clear hst
      obtain ⟨j, hj, rfl, hst, HP⟩ := hrel
      by_cases hlt : j < nr
      · have e1 : decide ((j : Int) < (nr : Int)) = true := decide_eq_true (by omega)
        have z1 : IntKind.i64.wrap ((j : Int) + 1) = (j : Int) + 1 := IntWalk.i64_in _ (by omega)
        obtain ⟨x, lb, lo, hx, har, hin, hr⟩ := RecsIn.at HR.out hlt
        subst har
        obtain ⟨s, hs⟩ : ∃ s, want[j]? = some s := ⟨_, List.getElem?_eq_getElem (by rw [HK.out]; exact hlt)⟩
        obtain ⟨sb, so, hso, hr2⟩ := Rd.at HSR.out hlt
        subst hso
        have HX : Hid ((namesOf t)[j]? = some x.2.name) := hid (by unfold namesOf; rw [← HNE.out, List.getElem?_map, List.getElem?_map, hx]; rfl)
        have HS := hid hs
        have HNX := hid (show w.cell? ⟨lb, lo + j * 44 + 1, none⟩ = some (.string ⟨x.2.name.toArray⟩) from hr 1 _ rfl)
        have HNS := hid (show w.cell? ⟨sb, so + j, none⟩ = some (.string ⟨s.toArray⟩) from hr2 j _ (strsW_get hs))
        clear hx hs hr hr2 hin
        go_wp2_with (first | go_big_skip | go_big_guard | fail)
        cases hq : (x.2.name == s)
        · have HQ := hid hq
          have hX := hst.drew
          clear hst
          refine wp_region_held_drew (S := (fun w' => (loadVarH 22 ⟨g2, 1, none⟩).run Tryz.prog w' = .ok (.slice (some ⟨lb, lo, none⟩) nr cr) w' ∧ (loadVarH 9 ⟨lb, lo + j * 44 + 1, none⟩).run Tryz.prog w' = .ok (.string ⟨x.2.name.toArray⟩) w' ∧ (loadVarH 9 ⟨sb, so + j, none⟩).run Tryz.prog w' = .ok (.string ⟨s.toArray⟩) w')) (by kernel_rfl) (by exact ⟨ldS [] hX rfl, ldO hX HNX.out, ldO hX HNS.out⟩) (fun hHeld => ?_)
          refine tq 0 18 ?_
          refine tq 2 20 ?_
          refine tq 6 24 ?_
          refine tq 7 25 ?_
          refine tq 1 19 ?_
          refine tq 8 26 ?_
          refine tq 3 21 ?_
          refine tq 9 27 ?_
          refine tq 4 22 ?_
          refine tq 5 23 ?_
          refine tq 10 28 ?_
          refine wpAnyH_done (by kernel_rfl) ?_ _
          clear hHeld
          go_wp2_with (first | go_big_skip | go_big_guard | fail)
          go_ret
          exact ⟨by rw [HE.out, list_no HX.out HS.out (by simpa using HQ.out)]; rfl, hX.nil⟩
        · have HQ := hid hq
          have hX := hst.drew
          clear hst
          refine wp_region_held_drew (S := (fun w' => (loadVarH 22 ⟨g2, 1, none⟩).run Tryz.prog w' = .ok (.slice (some ⟨lb, lo, none⟩) nr cr) w' ∧ (loadVarH 9 ⟨lb, lo + j * 44 + 1, none⟩).run Tryz.prog w' = .ok (.string ⟨x.2.name.toArray⟩) w' ∧ (loadVarH 9 ⟨sb, so + j, none⟩).run Tryz.prog w' = .ok (.string ⟨s.toArray⟩) w')) (by kernel_rfl) (by exact ⟨ldS [] hX rfl, ldO hX HNX.out, ldO hX HNS.out⟩) (fun hHeld => ?_)
          refine tq 0 18 ?_
          refine tq 2 20 ?_
          refine tq 6 24 ?_
          refine tq 7 25 ?_
          refine tq 1 19 ?_
          refine tq 8 26 ?_
          refine tq 3 21 ?_
          refine tq 9 27 ?_
          refine tq 4 22 ?_
          refine tq 5 23 ?_
          refine tq 10 28 ?_
          refine wpAnyH_done (by kernel_rfl) ?_ _
          clear hHeld
          go_wp2_with (first | go_big_skip | go_big_guard | fail)
          go_roundw
          case rel => exact ⟨j + 1, by omega, rfl, hX, hid (fun i a b hi ha hb => by
            by_cases e : i = j
            · subst e
              rw [HX.out] at ha; rw [HS.out] at hb
              cases ha; cases hb
              simpa using HQ.out
            · exact HP.out i a b (by omega) ha hb)⟩
          case measure => simp [intOf]; omega
      · have e1 : decide ((j : Int) < (nr : Int)) = false := decide_eq_false (by omega)
        go_wp2_with (first | go_big_skip | go_big_guard | fail)
        go_ret
        exact ⟨by rw [HE.out, list_all (by rw [HNL.out, HK.out]) (fun i a b ha hb => HP.out i a b (by have := (List.getElem?_eq_some_iff.1 ha).1; have := HNL.out; omega) ha hb)]; rfl, hst.nil⟩
  · have d1 : ((nr : Int) != (k : Int)) = true := by rw [bne_iff_ne]; omega
    have HNN := hid hnk
    clear hnk
    go_enter Tryz.func24, Tryz.ntmps24
    go_wp2_with (first | go_big_skip | go_big_guard | (refine wl_boxA hst0 rfl rfl rfl ?_; intro g2 w1 hst; clear hst0) | (refine wl_loadE rfl rfl rfl ?_; refine ⟨_, Loads.at [] hst rfl, ?_⟩))
    go_ret
    exact ⟨by rw [HE.out, list_len (by rw [HNL.out, HK.out]; exact HNN.out)]; rfl, hst.nil⟩
end Go.Proofs.YtifajcblbedcoaaGreat
namespace Go.Proofs.YtifajcblbedcoaaGreat
set_option linter.unusedVariables false
set_option linter.unusedSimpArgs false
open Go.RowKit Hp
attribute [local irreducible] Go.Calls Go.wpList
set_option maxHeartbeats 1000000
theorem keeps_refl {t : TC} (h : OkP t) (txg : Int) : Keeps t t txg := ⟨h, .inl ⟨rfl, rfl⟩, fun e => by omega⟩
/-- What an act that is done keeps. -/
structure KeepsA (t u : TC) (x : AD) : Prop where
  k : Keeps t u x.txg
  froms : x.kind ≠ 8 → x.kind ≠ 0 → Froms t u
  tos : x.kind ≠ 8 → x.kind ≠ 3 → x.kind ≠ 4 → Tos t u
theorem do_keeps {t : TC} {x : AD} (h : OkP t) (hz : (doR t x).1 = 0) : KeepsA t (doR t x).2 x := by
  have hk := okP_iff.2 h
  obtain ⟨k, z, txg, nm, tn, p⟩ := x
  unfold doR at hz ⊢
  simp only at hz ⊢
  split at hz
  next e =>
    subst e
    rw [if_pos rfl]
    obtain ⟨h1, h2⟩ := op_zero hk hz
    rw [h2]
    have q := make_keeps h h1
    exact ⟨q.1, fun _ e => absurd rfl e, fun _ _ _ => q.2⟩
  next e0 =>
  rw [if_neg e0]
  split at hz
  next e =>
    rw [if_pos e]
    obtain ⟨h1, h2⟩ := op_zero hk hz
    rw [h2]
    have q := snap_keeps h h1
    exact ⟨q.1, fun _ _ => q.2.1, fun _ _ _ => q.2.2⟩
  next e1 =>
  rw [if_neg e1]
  split at hz
  next e =>
    rw [if_pos e]
    obtain ⟨h1, h2⟩ := op_zero hk hz
    rw [h2]
    have q := clone_keeps h h1
    exact ⟨q.1, fun _ _ => q.2.1, fun _ _ _ => q.2.2⟩
  next e2 =>
  rw [if_neg e2]
  split at hz
  next e =>
    rw [if_pos e]
    obtain ⟨h1, h2⟩ := op_zero hk hz
    rw [h2]
    have q := roll_keeps txg h h1
    exact ⟨q.1, fun _ _ => q.2, fun _ e' => absurd e e'⟩
  next e3 =>
  rw [if_neg e3]
  split at hz
  next e =>
    rw [if_pos e]
    obtain ⟨h1, h2⟩ := op_zero hk hz
    rw [h2]
    have q := dropT_keeps txg h h1
    exact ⟨q.1, fun _ _ => q.2, fun _ _ e' => absurd e e'⟩
  next e4 =>
  rw [if_neg e4]
  split at hz
  next e =>
    rw [if_pos e]
    obtain ⟨h1, h2⟩ := op_zero hk hz
    rw [h2]
    have q := renT_keeps txg h h1
    exact ⟨q.1, fun _ _ => q.2.1, fun _ _ _ => q.2.2⟩
  next e5 =>
  rw [if_neg e5]
  split at hz
  next e =>
    rw [if_pos e]
    obtain ⟨h1, h2⟩ := op_zero hk hz
    rw [h2]
    have q := resize_keeps txg h h1
    exact ⟨q.1, fun _ _ => q.2.1, fun _ _ _ => q.2.2⟩
  next e6 =>
  rw [if_neg e6]
  split at hz
  next e =>
    rw [if_pos e]
    obtain ⟨h1, h2⟩ := op_zero hk hz
    rw [h2]
    have q := limit_keeps txg h h1
    exact ⟨q.1, fun _ _ => q.2.1, fun _ _ _ => q.2.2⟩
  next e7 =>
  rw [if_neg e7]
  split at hz
  next e =>
    rw [if_pos e]
    obtain ⟨h1, h2⟩ := op_zero hk hz
    rw [h2]
    exact ⟨rootT_keeps txg h h1, fun e' => absurd e e', fun e' => absurd e e'⟩
  next e8 =>
  rw [if_neg e8]
  exact ⟨keeps_refl h txg, fun _ _ y hy => ⟨y, hy, Rt.refl y⟩, fun _ _ _ y hy => ⟨y, hy, Rt.refl y⟩⟩
theorem op_bad {t : TC} {r : TR} (h : (opR t r).1 ≠ 0) : (opR t r).2 = noTab := by
  unfold opR at h ⊢
  cases hk : t.ok with
  | false => rfl
  | true =>
    rw [hk] at h
    by_cases e : (r.1 == 0) = true
    · rw [if_pos rfl, if_pos e] at h
      exact absurd (by simpa using e) h
    · rw [if_pos rfl, if_neg e]
      rfl
theorem do_bad {t : TC} {x : AD} (h : (doR t x).1 ≠ 0) : (doR t x).2 = noTab := by
  unfold doR at h ⊢
  split at h
  next e => rw [if_pos e]; exact op_bad h
  next e0 =>
  rw [if_neg e0]
  split at h
  next e => rw [if_pos e]; exact op_bad h
  next e1 =>
  rw [if_neg e1]
  split at h
  next e => rw [if_pos e]; exact op_bad h
  next e2 =>
  rw [if_neg e2]
  split at h
  next e => rw [if_pos e]; exact op_bad h
  next e3 =>
  rw [if_neg e3]
  split at h
  next e => rw [if_pos e]; exact op_bad h
  next e4 =>
  rw [if_neg e4]
  split at h
  next e => rw [if_pos e]; exact op_bad h
  next e5 =>
  rw [if_neg e5]
  split at h
  next e => rw [if_pos e]; exact op_bad h
  next e6 =>
  rw [if_neg e6]
  split at h
  next e => rw [if_pos e]; exact op_bad h
  next e7 =>
  rw [if_neg e7]
  split at h
  next e => rw [if_pos e]; exact op_bad h
  next e8 => exact absurd rfl h
theorem idle_do {t : TC} {x : AD} (h : x.idle = true) : doR t x = (0, t) := by
  unfold AD.idle at h
  simp only [Bool.or_eq_true, decide_eq_true_eq] at h
  unfold doR
  rw [if_neg (by omega), if_neg (by omega), if_neg (by omega), if_neg (by omega), if_neg (by omega), if_neg (by omega), if_neg (by omega), if_neg (by omega), if_neg (by omega)]
/-- An act done to a table of the pool: what it tells lies in the pool too. -/
theorem does_pool {w w1 : World} {B P : List HA} {t : TC} {ar al : Option Addr} {cr cl : Nat} {xs : List (Value × RC)} (hst : St w [] w1 (B ++ P)) (hin : InP P t ar al cr cl xs) (hb : t.recs.length ≤ 1000000 ∧ t.lives.length ≤ 1000000) {x : AD} (hx : x.Few w1) :
    Calls Tryz.prog 11 #[.agg (tabC t (.slice ar xs.length cr) (.slice al t.lives.length cl)).toArray, .agg x.cells.toArray] w1 fun e w2 =>
      ∃ (a a' : Option Addr) (c c' : Nat) (P' : List HA) (xs' : List (Value × RC)), e = .returned (.tuple #[.agg (tabC (doR t x).2 (.slice a xs'.length c) (.slice a' (doR t x).2.lives.length c')).toArray, .int .i64 (doR t x).1]) ∧ InP P' (doR t x).2 a a' c c' xs' ∧ (∀ y ∈ P, y ∈ P') ∧ St w [] w2 (B ++ P') := by
  cases hi : x.idle
  · exact (does13_any t ar al xs.length cr t.lives.length cl xs w1 (hin.tab hst hb) x hx hi).mono fun e w2 h => ret_pool hst h
  · refine (does_none t ar al xs.length cr t.lives.length cl xs w1 (hin.tab hst hb) x hx hi).mono fun e w2 ⟨he, h4⟩ => ?_
    rw [idle_do hi]
    exact ⟨ar, al, cr, cl, P, xs, he, hin, fun y hy => hy, St.call0 hst h4⟩
theorem new_ok {k : Nat} (hk : k < 7) : newR (2 + (k : Int)) = (0, ⟨1, [], 0, 0, 0, 0, List.replicate (2 + k) 0⟩) ∧ OkP ⟨1, [], 0, 0, 0, 0, List.replicate (2 + k) 0⟩ := by
  have h : ∀ k : Fin 7, TC.ok ⟨1, [], 0, 0, 0, 0, List.replicate (2 + k.val) 0⟩ = true := by decide +kernel
  refine ⟨?_, okP_iff.1 (h ⟨k, hk⟩)⟩
  unfold newR
  rw [if_pos (by unfold inB; simp; omega)]
  have e : (2 + (k : Int)).toNat = 2 + k := by omega
  rw [e]
end Go.Proofs.YtifajcblbedcoaaGreat
namespace Go.Proofs.YtifajcblbedcoaaGreat
set_option linter.unusedVariables false
set_option linter.unusedSimpArgs false
open Go.RowKit Hp
attribute [local irreducible] Go.Calls Go.wpList
set_option maxRecDepth 100000
set_option maxHeartbeats 8000000
attribute [local go_sem ↓] heldInt heldInts heldCur
theorem wl_storeC {ops : Array Oper} {rest : List Oper} {o : Oper} {a : Act} {w0 w : World} {M : List Nat} {Q : Exit → Act → World → Prop} {T T' : TypeId} {x y : Operand} {g off : Nat} {v : Value} {cs cs' : List Value} (L1 : List HA) {L2 : List HA} (hst : St w0 M w (L1 ++ .blk g T' cs :: L2)) (hop : o.op = .store T x y)
    (hw : Region.wanted o (yielded ops a.tmps) = true) (hx : a.eval x = .pointer (some ⟨g, off, none⟩)) (hy : a.eval y = v) [hi : TyN Tryz.prog T 1] (hv : v.cells = #[v]) (h1 : v.oneCell' = true) (hf : off + 1 ≤ cs.length) (he : putAt cs off [v] = cs')
    (h : ∀ w', St w0 M w' (L1 ++ .blk g T' cs' :: L2) → wpList Tryz.prog ops Q rest (a.put o.dst undef) w') : wpList Tryz.prog ops Q (o :: rest) a w := by
  refine wl_store L1 hst hop hw hx hy (n := 1) (by rw [hv]; rfl) (by rw [hv]; simpa using h1) (by rw [hv]; exact hf) fun w' hst' => h w' ?_
  rw [← he]
  rw [hv] at hst'
  exact hst'
theorem row_tidy {w0 w : World} {M : List Nat} (L1 : List HA) {L2 : List HA} {ao : Option Addr} {n c : Nat} {T : TypeId} {sz : Nat} {xs : List Value} (h : St w0 M w (L1 ++ .row (.slice ao (0 + n) c) T sz (0 + n) (List.take (0 * sz) [] ++ xs) :: L2)) : St w0 M w (L1 ++ .row (.slice ao n c) T sz n xs :: L2) := by
  simpa using h
theorem refOwn13_any (t : TC) (ar al : Option Addr) (nr cr nl cl : Nat) (xs : List (Value × RC)) (w : World) (ht : TabIn w t ar nr cr al nl cl xs) (hn : nr ≤ 100) (hl : nl ≤ 100) (ha : ∀ r ∈ t.recs, r.l.length ≤ 100000) :
    Calls Tryz.prog 94 #[.agg (tabC t (.slice ar nr cr) (.slice al nl cl)).toArray] w fun e w' => ∃ ro rc lo lc ys, e = .returned (.agg (tabC t (.slice ro nr rc) (.slice lo nl lc)).toArray) ∧ ys.map (·.2) = t.recs ∧ St w [] w' (.row (.slice ro nr rc) 53 44 nr (recsV ys) :: .row (.slice lo nl lc) 3 1 nl (numsV t.lives) :: rootRows 102 ys) := by
  have hst0 := St.refl w
  have HT := hid ht
  clear ht
  go_enter Tryz.func94, Tryz.ntmps94
  go_upto_region 1 with (first | go_big_skip | go_big_guard | (refine wl_boxA hst0 rfl rfl rfl ?_; intro g1 w1 hst1; clear hst0) | (refine wl_alloc hst1 rfl rfl ?_; intro g2 w2 hst; clear hst1))
  (try simp only [Act.put, List.setIfInBounds_toArray, List.set_cons_zero, List.set_cons_succ])
  go_cut [3, 10, 13, 14] (fun a b c d wx => ∃ g3 lo lc, a = .pointer (some ⟨g3, 0, none⟩) ∧ St w [] wx (.blk g3 27 [.int .i64 t.next, .slice none 0 0, .int .i64 t.kind, .int .i64 t.dev, .int .i64 t.at_, .int .i64 t.txg, .slice lo nl lc] :: .row (.slice none 0 0) 53 44 0 (recsV []) :: .row (.slice lo nl lc) 3 1 nl (numsV t.lives) :: .blk g1 27 (tabC t (.slice ar nr cr) (.slice al nl cl)) :: .blk g2 27 tab0 :: rootRows 102 []))
  case first =>
    have hX := hst.drew
    clear hst
    refine wp_region_held_drew (S := (fun w' => (loadVarH 3 ⟨g1, 0, none⟩).run Tryz.prog w' = .ok (.int .i64 t.next) w' ∧ (loadVarH 24 ⟨g1, 2, none⟩).run Tryz.prog w' = .ok (.agg (List.toArray ([.int .i64 t.kind, .int .i64 t.dev, .int .i64 t.at_, .int .i64 t.txg]))) w' ∧ (loadVarH 25 ⟨g1, 6, none⟩).run Tryz.prog w' = .ok (.slice al nl cl) w')) (by kernel_rfl) (by exact ⟨ldS [_] hX rfl, ldA ([.int .i64 t.kind, .int .i64 t.dev, .int .i64 t.at_, .int .i64 t.txg]) [_] hX (rfl) (rfl), ldS [_] hX rfl⟩) (fun hHeld => ?_)
    refine tq 0 6 ?_
    refine tq 2 8 ?_
    refine tq 5 11 ?_
    refine tq 1 7 ?_
    refine tq 3 9 ?_
    refine tq 6 12 ?_
    refine wpAnyH_ready (rs := [4, 9]) (by kernel_rfl) (by simp) ?_
    refine (AllReadyH.cons (o := ⟨some 10, _, _, _, _, _⟩) rfl (fun K hK => ?_) (AllReadyH.cons (o := ⟨some 3, _, _, _, _, _⟩) rfl (fun K hK => ?_) AllReadyH.nil))
    · rw [if_pos (by rfl)]
      refine ow_of_wl (ops := #[]) (by rfl) ?_
      apply wl_bsX [] [] hX
      · rfl
      · rfl
      · exact rfl
      · exact rfl
      · infer_instance
      · infer_instance
      · rfl
      · rfl
      · rfl
      intro g7 w8 h8
      have hP1 := St.toRow (n := 0) (cap := 0) (sz := 1) h8 rfl (by decide) (by decide)
      clear h8
      refine q0_nil ?_
      refine hK.out _ _ ?_ (fun hHeld => ?_)
      · exact ⟨ldS [_, _] hP1 rfl, ldA ([.int .i64 t.kind, .int .i64 t.dev, .int .i64 t.at_, .int .i64 t.txg]) [_, _] hP1 (rfl) (rfl), ldS [_, _] hP1 rfl⟩
      clear hK K
      (try simp only [Act.put, List.setIfInBounds_toArray, List.set_cons_zero, List.set_cons_succ])
      refine wpAnyH_ready (rs := [7, 9]) (by kernel_rfl) (by simp) ?_
      refine (AllReadyH.cons (o := ⟨some 13, _, _, _, _, _⟩) rfl (fun K hK => ?_) (AllReadyH.cons (o := ⟨some 3, _, _, _, _, _⟩) rfl (fun K hK => ?_) AllReadyH.nil))
      · rw [if_pos (by rfl)]
        refine ow_of_wl (ops := #[]) (by rfl) ?_
        apply wl_appX (m := nl) (ys := numsV t.lives) [] hP1
        · rfl
        · rfl
        · exact rfl
        · exact rfl
        · infer_instance
        · infer_instance
        · infer_instance
        · exact Rd.old hP1 HT.out.L
        · exact ones_numsV _
        · exact ⟨by decide, by unfold maxLen; omega, by omega⟩
        intro lv2 w6 hP2 _
        obtain ⟨lo, lc, rfl, _, _⟩ := row_sliceC [] hP2
        refine q0_nil ?_
        refine hK.out _ _ ?_ (fun hHeld => ?_)
        · exact ⟨ldS [_, _] hP2 rfl, ldA ([.int .i64 t.kind, .int .i64 t.dev, .int .i64 t.at_, .int .i64 t.txg]) [_, _] hP2 (rfl) (rfl), ldS [_, _] hP2 rfl⟩
        clear hK K
        (try simp only [Act.put, List.setIfInBounds_toArray, List.set_cons_zero, List.set_cons_succ])
        refine wpAnyH_ready (rs := [8, 9]) (by kernel_rfl) (by simp) ?_
        refine (AllReadyH.cons (o := ⟨some 14, _, _, _, _, _⟩) rfl (fun K hK => ?_) (AllReadyH.cons (o := ⟨some 3, _, _, _, _, _⟩) rfl (fun K hK => ?_) AllReadyH.nil))
        · rw [if_pos (by rfl)]
          refine ow_of_wl (ops := #[]) (by rfl) ?_
          refine wl_buildX (cs := [.int .i64 t.next, .slice none 0 0, .int .i64 t.kind, .int .i64 t.dev, .int .i64 t.at_, .int .i64 t.txg, .slice lo (0 + nl) lc]) [(0, .int .i64 t.next), (2, .agg #[.int .i64 t.kind, .int .i64 t.dev, .int .i64 t.at_, .int .i64 t.txg]), (3, .slice lo (0 + nl) lc)] rfl rfl (by exact rfl) (bldT3 _ _ _ _ _ _ _ _) ?_
          refine q0_nil ?_
          refine hK.out _ _ ?_ (fun hHeld => ?_)
          · exact ⟨ldS [_, _] hP2 rfl, ldA ([.int .i64 t.kind, .int .i64 t.dev, .int .i64 t.at_, .int .i64 t.txg]) [_, _] hP2 (rfl) (rfl), ldS [_, _] hP2 rfl⟩
          clear hK K
          (try simp only [Act.put, List.setIfInBounds_toArray, List.set_cons_zero, List.set_cons_succ])
          refine wpAnyH_ready (rs := [9]) (by kernel_rfl) (by simp) ?_
          refine (AllReadyH.cons (o := ⟨some 3, _, _, _, _, _⟩) rfl (fun K hK => ?_) AllReadyH.nil)
          rw [if_pos (by rfl)]
          refine ow_of_wl (ops := #[]) (by rfl) ?_
          refine wl_alloc hP2 rfl rfl ?_
          intro g3 w7 hP3
          refine q0_nil ?_
          refine hK.out _ _ ?_ (fun hHeld => ?_)
          · exact ⟨ldS [_, _, _] hP3 rfl, ldA ([.int .i64 t.kind, .int .i64 t.dev, .int .i64 t.at_, .int .i64 t.txg]) [_, _, _] hP3 (rfl) (rfl), ldS [_, _, _] hP3 rfl⟩
          clear hK K
          (try simp only [Act.put, List.setIfInBounds_toArray, List.set_cons_zero, List.set_cons_succ])
          refine wpAnyH_ready (rs := [10]) (by kernel_rfl) (by simp) ?_
          refine (AllReadyH.cons (o := ⟨none, _, _, _, _, _⟩) rfl (fun K hK => ?_) AllReadyH.nil)
          rw [if_pos (by rfl)]
          refine ow_of_wl (ops := #[]) (by rfl) ?_
          refine wl_storeA [] hP3 rfl rfl rfl rfl rfl rfl rfl ?_
          intro w7 hP4
          refine q0_nil ?_
          refine hK.out _ _ ?_ (fun hHeld => ?_)
          · exact ⟨ldS [_, _, _] hP4 rfl, ldA ([.int .i64 t.kind, .int .i64 t.dev, .int .i64 t.at_, .int .i64 t.txg]) [_, _, _] hP4 (rfl) (rfl), ldS [_, _, _] hP4 rfl⟩
          clear hK K
          (try simp only [Act.put, List.setIfInBounds_toArray, List.set_cons_zero, List.set_cons_succ])
          refine wpAnyH_done (by kernel_rfl) ?_ _
          clear hHeld
          have hQ0 := St.nilRow 53 44 hP4
          have hQ1 : St w [] w7 (.blk g3 27 [.int .i64 t.next, .slice none 0 0, .int .i64 t.kind, .int .i64 t.dev, .int .i64 t.at_, .int .i64 t.txg, .slice lo nl lc] :: .row (.slice none 0 0) 53 44 0 (recsV []) :: .row (.slice lo nl lc) 3 1 nl (numsV t.lives) :: .blk g1 27 (tabC t (.slice ar nr cr) (.slice al nl cl)) :: .blk g2 27 tab0 :: rootRows 102 []) := by
            have h := (St.front (L1 := [_, _, _, _]) (St.front (L1 := [_, _, _]) (St.front (L1 := [_, _, _, _]) (St.front (L1 := [_, _, _, _]) (St.front (L1 := [_, _, _]) hQ0)))))
            rw [Nat.zero_add, List.take_zero, List.nil_append] at h
            exact h
          clear hQ0 hP4
          rw [Nat.zero_add]
          go_wp2_with (first | go_big_skip | go_big_guard | fail)
          go_meet
          exact ⟨g3, lo, lc, rfl, hQ1⟩
        · rw [if_pos (by rfl)]
          refine ow_of_wl (ops := #[]) (by rfl) ?_
          refine wl_alloc hP2 rfl rfl ?_
          intro g3 w7 hP5
          refine q0_nil ?_
          refine hK.out _ _ ?_ (fun hHeld => ?_)
          · exact ⟨ldS [_, _, _] hP5 rfl, ldA ([.int .i64 t.kind, .int .i64 t.dev, .int .i64 t.at_, .int .i64 t.txg]) [_, _, _] hP5 (rfl) (rfl), ldS [_, _, _] hP5 rfl⟩
          clear hK K
          (try simp only [Act.put, List.setIfInBounds_toArray, List.set_cons_zero, List.set_cons_succ])
          refine wpAnyH_ready (rs := [8]) (by kernel_rfl) (by simp) ?_
          refine (AllReadyH.cons (o := ⟨some 14, _, _, _, _, _⟩) rfl (fun K hK => ?_) AllReadyH.nil)
          rw [if_pos (by rfl)]
          refine ow_of_wl (ops := #[]) (by rfl) ?_
          refine wl_buildX (cs := [.int .i64 t.next, .slice none 0 0, .int .i64 t.kind, .int .i64 t.dev, .int .i64 t.at_, .int .i64 t.txg, .slice lo (0 + nl) lc]) [(0, .int .i64 t.next), (2, .agg #[.int .i64 t.kind, .int .i64 t.dev, .int .i64 t.at_, .int .i64 t.txg]), (3, .slice lo (0 + nl) lc)] rfl rfl (by exact rfl) (bldT3 _ _ _ _ _ _ _ _) ?_
          refine q0_nil ?_
          refine hK.out _ _ ?_ (fun hHeld => ?_)
          · exact ⟨ldS [_, _, _] hP5 rfl, ldA ([.int .i64 t.kind, .int .i64 t.dev, .int .i64 t.at_, .int .i64 t.txg]) [_, _, _] hP5 (rfl) (rfl), ldS [_, _, _] hP5 rfl⟩
          clear hK K
          (try simp only [Act.put, List.setIfInBounds_toArray, List.set_cons_zero, List.set_cons_succ])
          refine wpAnyH_ready (rs := [10]) (by kernel_rfl) (by simp) ?_
          refine (AllReadyH.cons (o := ⟨none, _, _, _, _, _⟩) rfl (fun K hK => ?_) AllReadyH.nil)
          rw [if_pos (by rfl)]
          refine ow_of_wl (ops := #[]) (by rfl) ?_
          refine wl_storeA [] hP5 rfl rfl rfl rfl rfl rfl rfl ?_
          intro w7 hP6
          refine q0_nil ?_
          refine hK.out _ _ ?_ (fun hHeld => ?_)
          · exact ⟨ldS [_, _, _] hP6 rfl, ldA ([.int .i64 t.kind, .int .i64 t.dev, .int .i64 t.at_, .int .i64 t.txg]) [_, _, _] hP6 (rfl) (rfl), ldS [_, _, _] hP6 rfl⟩
          clear hK K
          (try simp only [Act.put, List.setIfInBounds_toArray, List.set_cons_zero, List.set_cons_succ])
          refine wpAnyH_done (by kernel_rfl) ?_ _
          clear hHeld
          have hQ0 := St.nilRow 53 44 hP6
          have hQ1 : St w [] w7 (.blk g3 27 [.int .i64 t.next, .slice none 0 0, .int .i64 t.kind, .int .i64 t.dev, .int .i64 t.at_, .int .i64 t.txg, .slice lo nl lc] :: .row (.slice none 0 0) 53 44 0 (recsV []) :: .row (.slice lo nl lc) 3 1 nl (numsV t.lives) :: .blk g1 27 (tabC t (.slice ar nr cr) (.slice al nl cl)) :: .blk g2 27 tab0 :: rootRows 102 []) := by
            have h := (St.front (L1 := [_, _, _, _]) (St.front (L1 := [_, _, _]) (St.front (L1 := [_, _, _, _]) (St.front (L1 := [_, _, _, _]) (St.front (L1 := [_, _, _]) hQ0)))))
            rw [Nat.zero_add, List.take_zero, List.nil_append] at h
            exact h
          clear hQ0 hP6
          rw [Nat.zero_add]
          go_wp2_with (first | go_big_skip | go_big_guard | fail)
          go_meet
          exact ⟨g3, lo, lc, rfl, hQ1⟩
      · rw [if_pos (by rfl)]
        refine ow_of_wl (ops := #[]) (by rfl) ?_
        refine wl_alloc hP1 rfl rfl ?_
        intro g3 w7 hP7
        refine q0_nil ?_
        refine hK.out _ _ ?_ (fun hHeld => ?_)
        · exact ⟨ldS [_, _, _] hP7 rfl, ldA ([.int .i64 t.kind, .int .i64 t.dev, .int .i64 t.at_, .int .i64 t.txg]) [_, _, _] hP7 (rfl) (rfl), ldS [_, _, _] hP7 rfl⟩
        clear hK K
        (try simp only [Act.put, List.setIfInBounds_toArray, List.set_cons_zero, List.set_cons_succ])
        refine wpAnyH_ready (rs := [7]) (by kernel_rfl) (by simp) ?_
        refine (AllReadyH.cons (o := ⟨some 13, _, _, _, _, _⟩) rfl (fun K hK => ?_) AllReadyH.nil)
        rw [if_pos (by rfl)]
        refine ow_of_wl (ops := #[]) (by rfl) ?_
        apply wl_appX (m := nl) (ys := numsV t.lives) [_] hP7
        · rfl
        · rfl
        · exact rfl
        · exact rfl
        · infer_instance
        · infer_instance
        · infer_instance
        · exact Rd.old hP7 HT.out.L
        · exact ones_numsV _
        · exact ⟨by decide, by unfold maxLen; omega, by omega⟩
        intro lv2 w6 hP8 _
        obtain ⟨lo, lc, rfl, _, _⟩ := row_sliceC [_] hP8
        refine q0_nil ?_
        refine hK.out _ _ ?_ (fun hHeld => ?_)
        · exact ⟨ldS [_, _, _] hP8 rfl, ldA ([.int .i64 t.kind, .int .i64 t.dev, .int .i64 t.at_, .int .i64 t.txg]) [_, _, _] hP8 (rfl) (rfl), ldS [_, _, _] hP8 rfl⟩
        clear hK K
        (try simp only [Act.put, List.setIfInBounds_toArray, List.set_cons_zero, List.set_cons_succ])
        refine wpAnyH_ready (rs := [8]) (by kernel_rfl) (by simp) ?_
        refine (AllReadyH.cons (o := ⟨some 14, _, _, _, _, _⟩) rfl (fun K hK => ?_) AllReadyH.nil)
        rw [if_pos (by rfl)]
        refine ow_of_wl (ops := #[]) (by rfl) ?_
        refine wl_buildX (cs := [.int .i64 t.next, .slice none 0 0, .int .i64 t.kind, .int .i64 t.dev, .int .i64 t.at_, .int .i64 t.txg, .slice lo (0 + nl) lc]) [(0, .int .i64 t.next), (2, .agg #[.int .i64 t.kind, .int .i64 t.dev, .int .i64 t.at_, .int .i64 t.txg]), (3, .slice lo (0 + nl) lc)] rfl rfl (by exact rfl) (bldT3 _ _ _ _ _ _ _ _) ?_
        refine q0_nil ?_
        refine hK.out _ _ ?_ (fun hHeld => ?_)
        · exact ⟨ldS [_, _, _] hP8 rfl, ldA ([.int .i64 t.kind, .int .i64 t.dev, .int .i64 t.at_, .int .i64 t.txg]) [_, _, _] hP8 (rfl) (rfl), ldS [_, _, _] hP8 rfl⟩
        clear hK K
        (try simp only [Act.put, List.setIfInBounds_toArray, List.set_cons_zero, List.set_cons_succ])
        refine wpAnyH_ready (rs := [10]) (by kernel_rfl) (by simp) ?_
        refine (AllReadyH.cons (o := ⟨none, _, _, _, _, _⟩) rfl (fun K hK => ?_) AllReadyH.nil)
        rw [if_pos (by rfl)]
        refine ow_of_wl (ops := #[]) (by rfl) ?_
        refine wl_storeA [] hP8 rfl rfl rfl rfl rfl rfl rfl ?_
        intro w7 hP9
        refine q0_nil ?_
        refine hK.out _ _ ?_ (fun hHeld => ?_)
        · exact ⟨ldS [_, _, _] hP9 rfl, ldA ([.int .i64 t.kind, .int .i64 t.dev, .int .i64 t.at_, .int .i64 t.txg]) [_, _, _] hP9 (rfl) (rfl), ldS [_, _, _] hP9 rfl⟩
        clear hK K
        (try simp only [Act.put, List.setIfInBounds_toArray, List.set_cons_zero, List.set_cons_succ])
        refine wpAnyH_done (by kernel_rfl) ?_ _
        clear hHeld
        have hQ0 := St.nilRow 53 44 hP9
        have hQ1 : St w [] w7 (.blk g3 27 [.int .i64 t.next, .slice none 0 0, .int .i64 t.kind, .int .i64 t.dev, .int .i64 t.at_, .int .i64 t.txg, .slice lo nl lc] :: .row (.slice none 0 0) 53 44 0 (recsV []) :: .row (.slice lo nl lc) 3 1 nl (numsV t.lives) :: .blk g1 27 (tabC t (.slice ar nr cr) (.slice al nl cl)) :: .blk g2 27 tab0 :: rootRows 102 []) := by
          have h := (St.front (L1 := [_, _, _, _]) (St.front (L1 := [_, _, _]) (St.front (L1 := [_, _, _, _]) (St.front (L1 := [_, _, _, _]) (St.front (L1 := [_, _, _]) hQ0)))))
          rw [Nat.zero_add, List.take_zero, List.nil_append] at h
          exact h
        clear hQ0 hP9
        rw [Nat.zero_add]
        go_wp2_with (first | go_big_skip | go_big_guard | fail)
        go_meet
        exact ⟨g3, lo, lc, rfl, hQ1⟩
    · rw [if_pos (by rfl)]
      refine ow_of_wl (ops := #[]) (by rfl) ?_
      refine wl_alloc hX rfl rfl ?_
      intro g3 w7 hP10
      refine q0_nil ?_
      refine hK.out _ _ ?_ (fun hHeld => ?_)
      · exact ⟨ldS [_, _] hP10 rfl, ldA ([.int .i64 t.kind, .int .i64 t.dev, .int .i64 t.at_, .int .i64 t.txg]) [_, _] hP10 (rfl) (rfl), ldS [_, _] hP10 rfl⟩
      clear hK K
      (try simp only [Act.put, List.setIfInBounds_toArray, List.set_cons_zero, List.set_cons_succ])
      refine wpAnyH_ready (rs := [4]) (by kernel_rfl) (by simp) ?_
      refine (AllReadyH.cons (o := ⟨some 10, _, _, _, _, _⟩) rfl (fun K hK => ?_) AllReadyH.nil)
      rw [if_pos (by rfl)]
      refine ow_of_wl (ops := #[]) (by rfl) ?_
      apply wl_bsX [] [] hP10
      · rfl
      · rfl
      · exact rfl
      · exact rfl
      · infer_instance
      · infer_instance
      · rfl
      · rfl
      · rfl
      intro g7 w8 h8
      have hP11 := St.toRow (n := 0) (cap := 0) (sz := 1) h8 rfl (by decide) (by decide)
      clear h8
      refine q0_nil ?_
      refine hK.out _ _ ?_ (fun hHeld => ?_)
      · exact ⟨ldS [_, _, _] hP11 rfl, ldA ([.int .i64 t.kind, .int .i64 t.dev, .int .i64 t.at_, .int .i64 t.txg]) [_, _, _] hP11 (rfl) (rfl), ldS [_, _, _] hP11 rfl⟩
      clear hK K
      (try simp only [Act.put, List.setIfInBounds_toArray, List.set_cons_zero, List.set_cons_succ])
      refine wpAnyH_ready (rs := [7]) (by kernel_rfl) (by simp) ?_
      refine (AllReadyH.cons (o := ⟨some 13, _, _, _, _, _⟩) rfl (fun K hK => ?_) AllReadyH.nil)
      rw [if_pos (by rfl)]
      refine ow_of_wl (ops := #[]) (by rfl) ?_
      apply wl_appX (m := nl) (ys := numsV t.lives) [] hP11
      · rfl
      · rfl
      · exact rfl
      · exact rfl
      · infer_instance
      · infer_instance
      · infer_instance
      · exact Rd.old hP11 HT.out.L
      · exact ones_numsV _
      · exact ⟨by decide, by unfold maxLen; omega, by omega⟩
      intro lv2 w6 hP12 _
      obtain ⟨lo, lc, rfl, _, _⟩ := row_sliceC [] hP12
      refine q0_nil ?_
      refine hK.out _ _ ?_ (fun hHeld => ?_)
      · exact ⟨ldS [_, _, _] hP12 rfl, ldA ([.int .i64 t.kind, .int .i64 t.dev, .int .i64 t.at_, .int .i64 t.txg]) [_, _, _] hP12 (rfl) (rfl), ldS [_, _, _] hP12 rfl⟩
      clear hK K
      (try simp only [Act.put, List.setIfInBounds_toArray, List.set_cons_zero, List.set_cons_succ])
      refine wpAnyH_ready (rs := [8]) (by kernel_rfl) (by simp) ?_
      refine (AllReadyH.cons (o := ⟨some 14, _, _, _, _, _⟩) rfl (fun K hK => ?_) AllReadyH.nil)
      rw [if_pos (by rfl)]
      refine ow_of_wl (ops := #[]) (by rfl) ?_
      refine wl_buildX (cs := [.int .i64 t.next, .slice none 0 0, .int .i64 t.kind, .int .i64 t.dev, .int .i64 t.at_, .int .i64 t.txg, .slice lo (0 + nl) lc]) [(0, .int .i64 t.next), (2, .agg #[.int .i64 t.kind, .int .i64 t.dev, .int .i64 t.at_, .int .i64 t.txg]), (3, .slice lo (0 + nl) lc)] rfl rfl (by exact rfl) (bldT3 _ _ _ _ _ _ _ _) ?_
      refine q0_nil ?_
      refine hK.out _ _ ?_ (fun hHeld => ?_)
      · exact ⟨ldS [_, _, _] hP12 rfl, ldA ([.int .i64 t.kind, .int .i64 t.dev, .int .i64 t.at_, .int .i64 t.txg]) [_, _, _] hP12 (rfl) (rfl), ldS [_, _, _] hP12 rfl⟩
      clear hK K
      (try simp only [Act.put, List.setIfInBounds_toArray, List.set_cons_zero, List.set_cons_succ])
      refine wpAnyH_ready (rs := [10]) (by kernel_rfl) (by simp) ?_
      refine (AllReadyH.cons (o := ⟨none, _, _, _, _, _⟩) rfl (fun K hK => ?_) AllReadyH.nil)
      rw [if_pos (by rfl)]
      refine ow_of_wl (ops := #[]) (by rfl) ?_
      refine wl_storeA [_] hP12 rfl rfl rfl rfl rfl rfl rfl ?_
      intro w7 hP13
      refine q0_nil ?_
      refine hK.out _ _ ?_ (fun hHeld => ?_)
      · exact ⟨ldS [_, _, _] hP13 rfl, ldA ([.int .i64 t.kind, .int .i64 t.dev, .int .i64 t.at_, .int .i64 t.txg]) [_, _, _] hP13 (rfl) (rfl), ldS [_, _, _] hP13 rfl⟩
      clear hK K
      (try simp only [Act.put, List.setIfInBounds_toArray, List.set_cons_zero, List.set_cons_succ])
      refine wpAnyH_done (by kernel_rfl) ?_ _
      clear hHeld
      have hQ0 := St.nilRow 53 44 hP13
      have hQ1 : St w [] w7 (.blk g3 27 [.int .i64 t.next, .slice none 0 0, .int .i64 t.kind, .int .i64 t.dev, .int .i64 t.at_, .int .i64 t.txg, .slice lo nl lc] :: .row (.slice none 0 0) 53 44 0 (recsV []) :: .row (.slice lo nl lc) 3 1 nl (numsV t.lives) :: .blk g1 27 (tabC t (.slice ar nr cr) (.slice al nl cl)) :: .blk g2 27 tab0 :: rootRows 102 []) := by
        have h := (St.front (L1 := [_, _, _, _]) (St.front (L1 := [_, _, _]) (St.front (L1 := [_, _, _]) (St.front (L1 := [_, _, _, _]) (St.front (L1 := [_, _, _]) hQ0)))))
        rw [Nat.zero_add, List.take_zero, List.nil_append] at h
        exact h
      clear hQ0 hP13
      rw [Nat.zero_add]
      go_wp2_with (first | go_big_skip | go_big_guard | fail)
      go_meet
      exact ⟨g3, lo, lc, rfl, hQ1⟩
  case rest =>
    clear hst
    obtain ⟨g3, lo, lc, rfl, hQ1⟩ := hcut
    go_wp2_with (first | go_big_skip | go_big_guard | fail)
    go_loopw [4] (fun i wr => ∃ (j : Nat) (rv : Value) (ys : List (Value × RC)), j ≤ nr ∧ i = .int .i64 (j : Int) ∧ ys.map (·.2) = t.recs.take j ∧ St w [] wr (.blk g3 27 [.int .i64 t.next, rv, .int .i64 t.kind, .int .i64 t.dev, .int .i64 t.at_, .int .i64 t.txg, .slice lo nl lc] :: .row rv 53 44 j (recsV ys) :: .row (.slice lo nl lc) 3 1 nl (numsV t.lives) :: .blk g1 27 (tabC t (.slice ar nr cr) (.slice al nl cl)) :: .blk g2 27 tab0 :: rootRows 102 ys)) (fun i _ => nr - (intOf i).toNat)
    case atStart => exact ⟨0, _, [], Nat.zero_le _, rfl, rfl, hQ1⟩
    case round =>
      clear hQ1
      obtain ⟨j, rv, ys, hj, rfl, hy, hst⟩ := hrel
      have HY := hid hy
      clear hy
      by_cases hlt : j < nr
      · have e1 : decide ((j : Int) < (nr : Int)) = true := decide_eq_true (by omega)
        have z1 : IntKind.i64.wrap ((j : Int) + 1) = (j : Int) + 1 := IntWalk.i64_in _ (by omega)
        obtain ⟨x, lb, lo3, hx, har, hin, hr⟩ := RecsIn.at HT.out.R hlt
        subst har
        have HXJ := hid (recs_at HT.out hx)
        have HIN := hid hin
        have HL := hid hin.L
        have HL44 := hid (cellsR_len hin.L)
        have H35 := hid (PV.len (p := x.2.pv x.1) hin.L)
        have HRX := hid hr
        have HLQ := hid (show ∀ v : Value, (cellsR (v, x.2)).length = 44 from fun _ => cellsR_len hin.L)
        obtain ⟨_, ao2, mm, cc, hsv, hrd, hml⟩ := hin.1
        subst hml
        have HSV := hid (show x.1 = .slice ao2 (x.2.pv x.1).l.length cc from hsv)
        have HRD := hid (show Rd w (.slice ao2 (x.2.pv x.1).l.length cc) 2 (x.2.pv x.1).l.length (addrsV x.2.l) from hrd)
        have hmm : (x.2.pv x.1).l.length ≤ 100000 := ha x.2 (List.mem_of_getElem? HXJ.out)
        clear hsv hrd
        clear hx hr hin
        go_wp2_with (first | go_big_skip | go_big_guard | (refine wl_loadE rfl rfl rfl ?_; first | refine ⟨_, Loads.at [_, _, _] hst rfl, ?_⟩ | refine ⟨_, Loads.oldA (cs := cellsR x) hst HL44.out HRX.out, ?_⟩ | refine ⟨_, (by have h9 := Loads.at (P := Tryz.prog) (T := 28) (off := 4) [_] hst4 rfl; rw [HSV.out] at h9; exact h9), ?_⟩ | refine ⟨_, Loads.at [_, _] hst5 rfl, ?_⟩ | refine ⟨_, Loads.atA (cellsR (.slice ao9 (x.2.pv x.1).l.length c9, x.2)) [_] hst5 (HLQ.out _) (cellsR_all _), ?_⟩) | (refine wl_index rfl rfl rfl rfl hlt ?_) | (refine wl_alloc hst rfl rfl ?_; intro g5 w2 hst2; clear hst) | (refine wl_storeA [] hst2 rfl rfl rfl rfl (by exact HL44.out) (cellsR_ones HIN.out) rfl ?_; intro w3 hst3; clear hst2) | (apply wl_bsX [] [] hst3; rfl; rfl; exact rfl; exact rfl; infer_instance; infer_instance; rfl; rfl; rfl; intro g7 w8 h8; have hst4 := St.toRow (n := 0) (cap := 0) (sz := 2) h8 rfl (by decide) (by decide); clear h8 hst3) | (apply wl_appX (m := (x.2.pv x.1).l.length) (ys := addrsV x.2.l) [] hst4; rfl; rfl; exact rfl; exact rfl; infer_instance; infer_instance; infer_instance; exact Rd.old hst4 HRD.out; exact addrs_ones _; exact ⟨by decide, by unfold maxLen; omega, by omega⟩; intro v9 w6 h9 _; obtain ⟨ao9, c9, rfl, _, _⟩ := row_sliceC [] h9; have hst4b := row_tidy [] h9; clear h9 hst4) | (refine wl_storeC [_] hst4b rfl rfl rfl rfl (off := 4) (v := .slice ao9 (x.2.pv x.1).l.length c9) rfl rfl (by rw [HL44.out]; decide) (cs' := cellsR (.slice ao9 (x.2.pv x.1).l.length c9, x.2)) rfl ?_; intro w5 h5; have hst5 := h5; clear h5 hst4b) | (apply wl_bsX [.agg (List.toArray (cellsR (.slice ao9 (x.2.pv x.1).l.length c9, x.2)))] (cellsR (.slice ao9 (x.2.pv x.1).l.length c9, x.2)) hst5; rfl; rfl; exact rfl; exact (List.append_nil _); infer_instance; infer_instance; (show (((List.toArray (cellsR (.slice ao9 (x.2.pv x.1).l.length c9, x.2))).size == 44) && true) = true; rw [List.size_toArray, HLQ.out _]; rfl); rfl; rfl; intro gb w5 hst6; have HINR := hid (root_in (x := (.slice ao9 (x.2.pv x.1).l.length c9, x.2)) hst6 (.tail _ (.head _)) HL.out HIN.out.2); clear hst5) | (apply wl_appX (m := 1) (ys := cellsR (.slice ao9 (x.2.pv x.1).l.length c9, x.2)) [_, _, _, _] hst6; rfl; rfl; exact rfl; exact rfl; infer_instance; infer_instance; infer_instance; exact Rd.blk (n := 1) hst6 (.head _) (Nat.le_refl _) (by decide) (by rw [HLQ.out _]) (by rw [List.drop_zero, List.take_length]); exact cellsR_ones HINR.out; exact ⟨by decide, by unfold maxLen; omega, by omega⟩; intro rv2 w6 hst7 _; obtain ⟨ro, rc, rfl, _, _⟩ := row_sliceC [_, _, _, _] hst7; clear hst6) | (refine wl_store [_, _, _] hst7 rfl rfl rfl (off := 1) (v := .slice _ _ _) rfl rfl rfl (by show (1 : Nat) + 1 ≤ 7; decide) ?_; intro w7 hst8; clear hst7))
        have hst9 := Hp.St.root (A := [_, _, _, _]) (sv := .slice ao9 (x.2.pv x.1).l.length c9) (x := x.2) (by exact St.perm (St.sub hst8 (.cons _ (.cons_cons _ (.cons _ (List.Sublist.refl _))))) (.swap _ _ _))
        clear hst8
        go_roundw
        case rel =>
          have hD7 : St w [] w7 (.blk g3 27 [.int .i64 t.next, .slice ro (j + 1) rc, .int .i64 t.kind, .int .i64 t.dev, .int .i64 t.at_, .int .i64 t.txg, .slice lo nl lc] :: .row (.slice ro (j + 1) rc) 53 44 (j + 1) (recsV (ys ++ [(.slice ao9 (x.2.pv x.1).l.length c9, x.2)])) :: .row (.slice lo nl lc) 3 1 nl (numsV t.lives) :: .blk g1 27 (tabC t (.slice (some ⟨lb, lo3, none⟩) nr cr) (.slice al nl cl)) :: .blk g2 27 tab0 :: rootRows 102 (ys ++ [(.slice ao9 (x.2.pv x.1).l.length c9, x.2)])) := by
            rw [recsV_append, show recsV [((.slice ao9 (x.2.pv x.1).l.length c9 : Value), x.2)] = cellsR (.slice ao9 (x.2.pv x.1).l.length c9, x.2) from List.append_nil _]
            exact hst9
          refine ⟨j + 1, .slice ro (j + 1) rc, ys ++ [(.slice ao9 (x.2.pv x.1).l.length c9, x.2)], by omega, rfl, ?_, hD7⟩
          rw [List.map_append, HY.out, List.take_add_one, HXJ.out]; rfl
        case measure => simp [intOf]; omega
      · have e1 : decide ((j : Int) < (nr : Int)) = false := decide_eq_false (by omega)
        obtain rfl : j = nr := by omega
        obtain ⟨ro, rc, rfl, _, _⟩ := row_sliceC [_] hst
        have HYT := hid (show ys.map (·.2) = t.recs by rw [HY.out, List.take_of_length_le (by have := HT.out.len; omega)])
        go_wp2_with (first | go_big_skip | go_big_guard | (refine wl_loadE rfl rfl rfl ?_; first | refine ⟨_, Loads.at [_, _, _] hst rfl, ?_⟩ | refine ⟨_, Loads.atA (tabC t (.slice ro j rc) (.slice lo nl lc)) [] hst rfl rfl, ?_⟩) | (refine wl_storeA [_, _, _, _] hst rfl rfl rfl rfl (vs := tabC t (.slice ro j rc) (.slice lo nl lc)) rfl rfl rfl ?_; intro w7 hst8; clear hst))
        have hl := Loads.atA (P := Tryz.prog) (off := 0) (T := 27) (tabC t (.slice ro j rc) (.slice lo nl lc)) [_, _, _, _] hst8 rfl rfl
        refine bodyPost_ret (results_cellC rfl rfl hl) rfl ?_
        refine ⟨ro, rc, lo, lc, ys, rfl, HYT.out, ?_⟩
        exact St.sub hst8 (.cons _ (.cons_cons _ (.cons_cons _ (.cons _ (.cons _ (List.Sublist.refl _))))))
end Go.Proofs.YtifajcblbedcoaaGreat
namespace Go.Proofs.YtifajcblbedcoaaGreat
set_option linter.unusedVariables false
set_option linter.unusedSimpArgs false
open Go.RowKit Hp
attribute [local irreducible] Go.Calls Go.wpList tailS
set_option maxRecDepth 100000
set_option maxHeartbeats 8000000
attribute [local go_sem ↓] heldInt heldInts heldRecs heldRec heldStr heldTab
theorem sliceR_hm (ao : Option Addr) (n c k : Nat) (hk : k ≤ c) (w : World) : (Instr.sliceAt 22 (.slice ao n c) none (some (.int .i64 (k : Int))) (some (.int .i64 (k : Int)))).run Tryz.prog w = .ok (.slice ao k k) w := by
  rw [run_sliceAt_slice _ _ _ _ _ _ (by kernel_rfl)]
  have hz : ∀ w, (sizeOf (Tryz.prog.elem 22)).run Tryz.prog w = .ok 44 w := fun w => by kernel_rfl
  rw [run_slice_hm w 22 _ _ _ (by kernel_rfl) .i64 .i64 (k : Int) (k : Int) (by omega) (by omega) (by omega), hz]
  have : (if k = 0 then ao else ao.map (·.add (0 * 44))) = ao := by
    split
    · rfl
    · cases ao <;> simp [Addr.add]
  simp only [sliced, Result.andThen_ok, Int.toNat_natCast, this, Nat.sub_zero]
theorem sliceR_l (ao : Option Addr) (n c k : Nat) (hk : k ≤ n) (w : World) : (Instr.sliceAt 22 (.slice ao n c) (some (.int .i64 (k : Int))) none none).run Tryz.prog w = .ok (tailS ao n c k 44) w := by
  rw [run_sliceAt_slice _ _ _ _ _ _ (by kernel_rfl)]
  have hz : ∀ w, (sizeOf (Tryz.prog.elem 22)).run Tryz.prog w = .ok 44 w := fun w => by kernel_rfl
  rw [run_slice_l w 22 _ _ _ (by kernel_rfl) .i64 (k : Int) (by omega) (by omega), hz]
  simp only [sliced, Result.andThen_ok, Int.toNat_natCast, tailS]
theorem rowCell {w0 w : World} {M : List Nat} {L : List HA} {g n c k d : Nat} {y : Value × RC} {ys : List (Value × RC)} {T : TypeId} {v : Value} (h : St w0 M w L) (hm : HA.row (.slice (some ⟨g, 0, none⟩) n c) T 44 n (recsV ys) ∈ L) (hl : LX ys) (hy : ys[k]? = some y) (hd : (cellsR y)[d]? = some v) : w.cell? ⟨g, k * 44 + d, none⟩ = some v := by
  have := (Rd.row h hm).range (k * 44 + d) v (recsV_at hl hy hd)
  rwa [Nat.zero_add] at this
theorem recsV_ones' {xs : List (Value × RC)} (h : ∀ x ∈ xs, (cellsR x).all (·.oneCell') = true) : (recsV xs).all (·.oneCell') = true := by
  rw [recsV, List.all_flatMap, List.all_eq_true]
  exact h
theorem lay_perm (x : Value × RC) (k : Nat) {ys zs : List (Value × RC)} (h : ys.Perm zs) : (ys.take k ++ x :: ys.drop k).Perm (zs ++ [x]) := by
  have h1 : (ys.take k ++ x :: ys.drop k).Perm (x :: ys) := by
    have := List.perm_middle (a := x) (l₁ := ys.take k) (l₂ := ys.drop k)
    rwa [List.take_append_drop] at this
  exact h1.trans ((List.Perm.cons x h).trans (List.perm_append_singleton x zs).symm)
theorem map_get {xs : List (Value × RC)} {i : Nat} {r : RC} (h : (xs.map (·.2))[i]? = some r) : ∃ x, xs[i]? = some x ∧ x.2 = r := by
  rw [List.getElem?_map] at h
  cases hx : xs[i]? with
  | none => rw [hx] at h; cases h
  | some x => rw [hx] at h; exact ⟨x, rfl, Option.some.inj h⟩
theorem refSorted_any (ao : Option Addr) (n c : Nat) (xs : List (Value × RC)) (w : World) (hR : Rd w (.slice ao n c) 44 n (recsV xs)) (hN : xs.length = n) (hl : LX xs) (h1 : ∀ x ∈ xs, (cellsR x).all (·.oneCell') = true) (hnm : ∀ x ∈ xs, x.2.name.length ≤ 1000000) (hn : n ≤ 1000) :
    Calls Tryz.prog 97 #[.slice ao n c] w fun e w' => ∃ (rv : Value) (ys : List (Value × RC)), e = .returned rv ∧ ys.map (·.2) = sortL (xs.map (·.2)) ∧ ys.Perm xs ∧ St w [] w' [.row rv 53 44 n (recsV ys)] := by
  have hst0 := St.nilRow 53 44 (St.refl w)
  have HR := hid hR
  have HN := hid hN
  have HLX := hid hl
  have HON := hid h1
  have HNB := hid hnm
  clear hR hN hl h1 hnm
  go_enter Tryz.func97, Tryz.ntmps97
  go_wp2_with (first | go_big_skip | go_big_guard | fail)
  go_loopw [3, 4] (fun v i wr => ∃ (j : Nat) (ys : List (Value × RC)), j ≤ n ∧ i = .int .i64 (j : Int) ∧ ys.map (·.2) = sortL ((xs.take j).map (·.2)) ∧ ys.Perm (xs.take j) ∧ St w [] wr [.row v 53 44 j (recsV ys)]) (fun _ i _ => n - (intOf i).toNat)
  case atStart => exact ⟨0, [], Nat.zero_le _, rfl, rfl, List.Perm.refl _, hst0⟩
  case round =>
    clear hst0
    obtain ⟨j, ys, hj, rfl, hye, hyp, hst⟩ := hrel
    obtain ⟨ar, cr, rfl, hcr, hcr2⟩ := rowS [] hst
    have HYE := hid hye
    have HYP := hid hyp
    have HYN := hid (show ys.length = j by rw [hyp.length_eq, List.length_take, HN.out]; omega)
    have HYB := hid (show ∀ y ∈ ys, y ∈ xs from fun y hy => List.mem_of_mem_take (hyp.subset hy))
    have HLY := hid (show LX ys from fun y hy => HLX.out y (HYB.out y hy))
    clear hye hyp
    by_cases hlt : j < n
    · have e1 : decide ((j : Int) < (n : Int)) = true := decide_eq_true (by omega)
      have z1 : IntKind.i64.wrap ((j : Int) + 1) = (j : Int) + 1 := IntWalk.i64_in _ (by omega)
      obtain ⟨x, hx⟩ : ∃ x, xs[j]? = some x := ⟨_, List.getElem?_eq_getElem (by rw [HN.out]; exact hlt)⟩
      obtain ⟨lb, lo, rfl, hr0⟩ := Rd.at HR.out hlt
      have hrx : w.rangeAt lb (lo + j * 44) (cellsR x) := fun d v hv => by
        have := hr0 (j * 44 + d) v (recsV_at HLX.out hx hv)
        rwa [← Nat.add_assoc] at this
      have HX := hid hx
      have HRX := hid hrx
      have HNX := hid (show w.cell? ⟨lb, lo + j * 44 + 1, none⟩ = some (.string ⟨x.2.name.toArray⟩) from hrx 1 _ rfl)
      have H44 := hid (cellsR_len (HLX.out x (List.mem_of_getElem? hx)))
      clear hx hr0 hrx
      go_wp2_with (first | go_big_skip | go_big_guard | fail)
      go_loopw [5] (fun i wr => ∃ k : Nat, k ≤ j ∧ i = .int .i64 (k : Int) ∧ St w [] wr [.row (.slice ar j cr) 53 44 j (recsV ys)] ∧ Hid (∀ (i : Nat) (z : Value × RC), i < k → ys[i]? = some z → lessL z.2.name x.2.name = true)) (fun i _ => j - (intOf i).toNat)
      case atStart => exact ⟨0, Nat.zero_le _, rfl, hst, hid (fun i z hi _ => by omega)⟩
      case round =>
        clear hst
        obtain ⟨k, hkj, rfl, hst, HA⟩ := hrel
        by_cases hlk : k < j
        · have ek : decide ((k : Int) < (j : Int)) = true := decide_eq_true (by omega)
          have z2 : IntKind.i64.wrap ((k : Int) + 1) = (k : Int) + 1 := IntWalk.i64_in _ (by omega)
          obtain ⟨y, hy⟩ : ∃ y, ys[k]? = some y := ⟨_, List.getElem?_eq_getElem (by rw [HYN.out]; exact hlk)⟩
          have HYK := hid hy
          obtain ⟨g, c9, he, _⟩ := row_spot hst (.head _) (by omega)
          obtain ⟨he1, _, he3⟩ : ar = some ⟨g, 0, none⟩ ∧ j = j ∧ cr = c9 := by simpa using he
          subst he1
          clear hy he he3
          cases hq : lessL y.2.name x.2.name
          · have HQ := hid hq
            clear hq
            go_wp2_with (first | go_big_skip | go_big_guard | fail)
            have hX := hst.drew
            clear hst
            refine wp_region_held_drew (S := (fun w' => (loadVarH 9 ⟨g, k * 44 + 1, none⟩).run Tryz.prog w' = .ok (.string ⟨y.2.name.toArray⟩) w' ∧ (loadVarH 9 ⟨lb, lo + j * 44 + 1, none⟩).run Tryz.prog w' = .ok (.string ⟨x.2.name.toArray⟩) w')) (by kernel_rfl) (by exact ⟨ldO (St.refl _) (rowCell hX (.head _) HLY.out HYK.out (d := 1) rfl), ldO hX HNX.out⟩) (fun hHeld => ?_)
            refine tq 0 12 ?_
            refine tq 1 13 ?_
            refine tq 2 14 ?_
            refine tq 3 15 ?_
            refine tq 4 16 ?_
            refine tq 5 17 ?_
            refine tq 6 18 ?_
            refine tq 10 22 ?_
            refine tq 11 23 ?_
            refine tq 7 19 ?_
            refine tq 12 24 ?_
            refine tq 8 20 ?_
            refine tq 13 25 ?_
            refine tq 9 21 ?_
            refine tq 14 26 ?_
            refine wpAnyH_ready (rs := [15]) (by kernel_rfl) (by simp) ?_
            refine (AllReadyH.cons (o := ⟨some 27, _, _, _, _, _⟩) rfl (fun K hK => ?_) AllReadyH.nil)
            rw [if_pos (by rfl)]
            go_simp
            go_at_call 127
            refine (refLess_any y.2.name x.2.name _ (by have := HNB.out y (HYB.out y (List.mem_of_getElem? HYK.out)); omega) (by have := HNB.out x (List.mem_of_getElem? HX.out); omega)).mono ?_
            rw [HQ.out]
            rintro _ w9 ⟨rfl, h4⟩
            have hC := St.call0 hX h4
            clear h4
            refine hK.out _ _ ?_ (fun hHeld => ?_)
            · exact ⟨ldO (St.refl _) (rowCell hC (.head _) HLY.out HYK.out (d := 1) rfl), ldO hC HNX.out⟩
            clear hK K
            (try simp only [Act.put, List.setIfInBounds_toArray, List.set_cons_zero, List.set_cons_succ])
            refine tq 16 28 ?_
            refine wpAnyH_done (by kernel_rfl) ?_ _
            clear hHeld
            go_wp2_with (first | go_big_skip | go_big_guard | fail)
            have HNL := hid (show nLess x.2 (ys.map (·.2)) = k from nLess_of (by rw [List.length_map, HYN.out]; exact hkj) (fun i z hi hz => by
              obtain ⟨z', hz', rfl⟩ := map_get hz
              exact HA.out i z' hi hz') (fun z hz => by
              obtain ⟨z', hz', rfl⟩ := map_get hz
              rw [HYK.out] at hz'
              cases hz'
              exact HQ.out))
            clear HA
            have hsl1 := fun w => sliceR_hm (some ⟨g, 0, none⟩) j cr k (by omega) w
            have hsl2 := fun w => sliceR_l (some ⟨g, 0, none⟩) j cr k hkj w
            have hY := hC.drew
            clear hC
            refine wp_region_held_drew (S := (fun w' => (loadVarH 53 ⟨lb, lo + j * 44, none⟩).run Tryz.prog w' = .ok (.agg (cellsR x).toArray) w')) (by kernel_rfl) (by exact ldOA hY H44.out HRX.out) (fun hHeld => ?_)
            refine tq 0 31 ?_
            refine tq 1 32 ?_
            refine tq 2 33 ?_
            refine tq 4 35 ?_
            refine tq 5 36 ?_
            refine tq 9 40 ?_
            refine tq 10 41 ?_
            refine tq 3 34 ?_
            refine tq 6 37 ?_
            refine tq 11 42 ?_
            refine tq 7 38 ?_
            refine wpAnyH_ready (rs := [8]) (by kernel_rfl) (by simp) ?_
            refine (AllReadyH.cons (o := ⟨some 39, _, _, _, _, _⟩) rfl (fun K hK => ?_) AllReadyH.nil)
            rw [if_pos (by rfl)]
            refine ow_of_wl (ops := #[]) (by rfl) ?_
            apply wl_bsX [.agg (List.toArray (cellsR x))] (cellsR x) hY
            · rfl
            · rfl
            · exact rfl
            · exact (List.append_nil _)
            · infer_instance
            · infer_instance
            · (show (((List.toArray (cellsR x)).size == 44) && true) = true; rw [List.size_toArray, H44.out]; rfl)
            · rfl
            · rfl
            intro gb w5 h5
            have hM1 := St.toRow (n := 1) (cap := 1) (sz := 44) h5 (by rw [H44.out]) (by decide) (by decide)
            clear h5
            rw [show List.take (1 * 44) (cellsR x) = cellsR x from List.take_of_length_le (by rw [H44.out]; decide)] at hM1
            refine q0_nil ?_
            refine hK.out _ _ ?_ (fun hHeld => ?_)
            · exact ldOA hM1 H44.out HRX.out
            clear hK K
            (try simp only [Act.put, List.setIfInBounds_toArray, List.set_cons_zero, List.set_cons_succ])
            refine wpAnyH_ready (rs := [12]) (by kernel_rfl) (by simp) ?_
            refine (AllReadyH.cons (o := ⟨some 43, _, _, _, _, _⟩) rfl (fun K hK => ?_) AllReadyH.nil)
            rw [if_pos (by rfl)]
            refine ow_of_wl (ops := #[]) (by rfl) ?_
            apply wl_appX (m := j - k) (ys := recsV (ys.drop k)) [] hM1
            · rfl
            · rfl
            · exact rfl
            · exact rfl
            · infer_instance
            · infer_instance
            · infer_instance
            · exact (by have h := Rd.tailA (k := k) (Rd.row hM1 (.tail _ (.head _))) hkj; rw [(recsV_takeL HLY.out (k := k) (by rw [HYN.out]; exact hkj)).2] at h; exact h)
            · exact recsV_ones' (fun z hz => HON.out z (HYB.out z (List.mem_of_mem_drop hz)))
            · exact ⟨by decide, by unfold maxLen; omega, by omega⟩
            intro v9 w6 h9 _
            have hM2 := h9
            clear h9
            refine q0_nil ?_
            refine hK.out _ _ ?_ (fun hHeld => ?_)
            · exact ldOA hM2 H44.out HRX.out
            clear hK K
            (try simp only [Act.put, List.setIfInBounds_toArray, List.set_cons_zero, List.set_cons_succ])
            refine wpAnyH_ready (rs := [13]) (by kernel_rfl) (by simp) ?_
            refine (AllReadyH.cons (o := ⟨some 44, _, _, _, _, _⟩) rfl (fun K hK => ?_) AllReadyH.nil)
            rw [if_pos (by rfl)]
            refine ow_of_wl (ops := #[]) (by rfl) ?_
            apply wl_appFull (n := k) (m := 1 + (j - k)) (xs := recsV (ys.take k)) (ys := cellsR x ++ recsV (ys.drop k)) hM2
            · rfl
            · rfl
            · exact rfl
            · exact rfl
            · infer_instance
            · infer_instance
            · infer_instance
            · exact (by have h := Rd.frontA (k := k) (Rd.row hM2 (.tail _ (.head _))) hkj; rw [(recsV_takeL HLY.out (k := k) (by rw [HYN.out]; exact hkj)).1] at h; exact h)
            · exact Rd.row hM2 (.head _)
            · omega
            · exact ⟨by unfold maxLen; omega, by omega⟩
            intro v8 w7 h9
            have hM3 := h9
            clear h9
            refine q0_nil ?_
            refine hK.out _ _ ?_ (fun hHeld => ?_)
            · exact ldOA hM3 H44.out HRX.out
            clear hK K
            (try simp only [Act.put, List.setIfInBounds_toArray, List.set_cons_zero, List.set_cons_succ])
            refine tq 14 3 ?_
            refine wpAnyH_done (by kernel_rfl) ?_ _
            clear hHeld
            go_wp2_with (first | go_big_skip | go_big_guard | fail)
            go_roundw
            case rel =>
              refine ⟨j + 1, ys.take k ++ x :: ys.drop k, by omega, rfl, ?_, ?_, ?_⟩
              · rw [← HNL.out, lay_map, HYE.out, List.take_add_one, HX.out, List.map_append]
                exact (sortL_snoc _ _).symm
              · rw [List.take_add_one, HX.out]
                exact lay_perm x k HYP.out
              · have e1 : k + (1 + (j - k)) = j + 1 := by omega
                have h := St.sub hM3 (.cons_cons _ (List.nil_sublist _))
                rw [e1] at h
                rw [recsV_append]
                exact h
            case measure => simp [intOf]; omega
          · have HQ := hid hq
            clear hq
            go_wp2_with (first | go_big_skip | go_big_guard | fail)
            have hX := hst.drew
            clear hst
            refine wp_region_held_drew (S := (fun w' => (loadVarH 9 ⟨g, k * 44 + 1, none⟩).run Tryz.prog w' = .ok (.string ⟨y.2.name.toArray⟩) w' ∧ (loadVarH 9 ⟨lb, lo + j * 44 + 1, none⟩).run Tryz.prog w' = .ok (.string ⟨x.2.name.toArray⟩) w')) (by kernel_rfl) (by exact ⟨ldO (St.refl _) (rowCell hX (.head _) HLY.out HYK.out (d := 1) rfl), ldO hX HNX.out⟩) (fun hHeld => ?_)
            refine tq 0 12 ?_
            refine tq 1 13 ?_
            refine tq 2 14 ?_
            refine tq 3 15 ?_
            refine tq 4 16 ?_
            refine tq 5 17 ?_
            refine tq 6 18 ?_
            refine tq 10 22 ?_
            refine tq 11 23 ?_
            refine tq 7 19 ?_
            refine tq 12 24 ?_
            refine tq 8 20 ?_
            refine tq 13 25 ?_
            refine tq 9 21 ?_
            refine tq 14 26 ?_
            refine wpAnyH_ready (rs := [15]) (by kernel_rfl) (by simp) ?_
            refine (AllReadyH.cons (o := ⟨some 27, _, _, _, _, _⟩) rfl (fun K hK => ?_) AllReadyH.nil)
            rw [if_pos (by rfl)]
            go_simp
            go_at_call 127
            refine (refLess_any y.2.name x.2.name _ (by have := HNB.out y (HYB.out y (List.mem_of_getElem? HYK.out)); omega) (by have := HNB.out x (List.mem_of_getElem? HX.out); omega)).mono ?_
            rw [HQ.out]
            rintro _ w9 ⟨rfl, h4⟩
            have hC := St.call0 hX h4
            clear h4
            refine hK.out _ _ ?_ (fun hHeld => ?_)
            · exact ⟨ldO (St.refl _) (rowCell hC (.head _) HLY.out HYK.out (d := 1) rfl), ldO hC HNX.out⟩
            clear hK K
            (try simp only [Act.put, List.setIfInBounds_toArray, List.set_cons_zero, List.set_cons_succ])
            refine tq 16 28 ?_
            refine wpAnyH_done (by kernel_rfl) ?_ _
            clear hHeld
            go_wp2_with (first | go_big_skip | go_big_guard | fail)
            go_roundw
            case rel => exact ⟨k + 1, by omega, rfl, hC, hid (fun i z hi hz => by
              by_cases e : i = k
              · subst e
                rw [HYK.out] at hz
                cases hz
                exact HQ.out
              · exact HA.out i z (by omega) hz)⟩
            case measure => simp [intOf]; omega
        · have ek : decide ((k : Int) < (j : Int)) = false := decide_eq_false (by omega)
          go_wp2_with (first | go_big_skip | go_big_guard | fail)
          have hX := hst.drew
          clear hst
          refine wp_region_held_drew (S := (fun w' => True)) (by kernel_rfl) (by exact trivial) (fun hHeld => ?_)
          refine tq 0 12 ?_
          refine tq 1 13 ?_
          refine tq 2 14 ?_
          refine tq 3 15 ?_
          refine tq 4 16 ?_
          refine tu 5 17 ?_
          refine tu 6 18 ?_
          refine tu 10 22 ?_
          refine tu 11 23 ?_
          refine tu 7 19 ?_
          refine tu 12 24 ?_
          refine tu 8 20 ?_
          refine tu 13 25 ?_
          refine tu 9 21 ?_
          refine tu 14 26 ?_
          refine wpAnyH_ready (rs := [15]) (by kernel_rfl) (by simp) ?_
          refine (AllReadyH.cons (o := ⟨some 27, _, _, _, _, _⟩) rfl (fun K hK => ?_) AllReadyH.nil)
          rw [if_neg (by rw [show Region.wanted _ _ = false from rfl]; exact Bool.false_ne_true)]
          refine hK.out _ _ ?_ (fun hHeld => ?_)
          · exact trivial
          clear hK K
          (try simp only [Act.put, List.setIfInBounds_toArray, List.set_cons_zero, List.set_cons_succ])
          refine tq 16 28 ?_
          refine wpAnyH_done (by kernel_rfl) ?_ _
          clear hHeld
          go_wp2_with (first | go_big_skip | go_big_guard | fail)
          have HNL := hid (show nLess x.2 (ys.map (·.2)) = k from nLess_of (by rw [List.length_map, HYN.out]; exact hkj) (fun i z hi hz => by
            obtain ⟨z', hz', rfl⟩ := map_get hz
            exact HA.out i z' hi hz') (fun z hz => by
            have h9 := (List.getElem?_eq_some_iff.1 hz).1
            rw [List.length_map, HYN.out] at h9
            omega))
          clear HA
          have hsl1 := fun w => sliceR_hm ar j cr k (by omega) w
          have hsl2 := fun w => sliceR_l ar j cr k hkj w
          have hY := hX.drew
          clear hX
          refine wp_region_held_drew (S := (fun w' => (loadVarH 53 ⟨lb, lo + j * 44, none⟩).run Tryz.prog w' = .ok (.agg (cellsR x).toArray) w')) (by kernel_rfl) (by exact ldOA hY H44.out HRX.out) (fun hHeld => ?_)
          refine tq 0 31 ?_
          refine tq 1 32 ?_
          refine tq 2 33 ?_
          refine tq 4 35 ?_
          refine tq 5 36 ?_
          refine tq 9 40 ?_
          refine tq 10 41 ?_
          refine tq 3 34 ?_
          refine tq 6 37 ?_
          refine tq 11 42 ?_
          refine tq 7 38 ?_
          refine wpAnyH_ready (rs := [8]) (by kernel_rfl) (by simp) ?_
          refine (AllReadyH.cons (o := ⟨some 39, _, _, _, _, _⟩) rfl (fun K hK => ?_) AllReadyH.nil)
          rw [if_pos (by rfl)]
          refine ow_of_wl (ops := #[]) (by rfl) ?_
          apply wl_bsX [.agg (List.toArray (cellsR x))] (cellsR x) hY
          · rfl
          · rfl
          · exact rfl
          · exact (List.append_nil _)
          · infer_instance
          · infer_instance
          · (show (((List.toArray (cellsR x)).size == 44) && true) = true; rw [List.size_toArray, H44.out]; rfl)
          · rfl
          · rfl
          intro gb w5 h5
          have hM1 := St.toRow (n := 1) (cap := 1) (sz := 44) h5 (by rw [H44.out]) (by decide) (by decide)
          clear h5
          rw [show List.take (1 * 44) (cellsR x) = cellsR x from List.take_of_length_le (by rw [H44.out]; decide)] at hM1
          refine q0_nil ?_
          refine hK.out _ _ ?_ (fun hHeld => ?_)
          · exact ldOA hM1 H44.out HRX.out
          clear hK K
          (try simp only [Act.put, List.setIfInBounds_toArray, List.set_cons_zero, List.set_cons_succ])
          refine wpAnyH_ready (rs := [12]) (by kernel_rfl) (by simp) ?_
          refine (AllReadyH.cons (o := ⟨some 43, _, _, _, _, _⟩) rfl (fun K hK => ?_) AllReadyH.nil)
          rw [if_pos (by rfl)]
          refine ow_of_wl (ops := #[]) (by rfl) ?_
          apply wl_appX (m := j - k) (ys := recsV (ys.drop k)) [] hM1
          · rfl
          · rfl
          · exact rfl
          · exact rfl
          · infer_instance
          · infer_instance
          · infer_instance
          · exact (by have h := Rd.tailA (k := k) (Rd.row hM1 (.tail _ (.head _))) hkj; rw [(recsV_takeL HLY.out (k := k) (by rw [HYN.out]; exact hkj)).2] at h; exact h)
          · exact recsV_ones' (fun z hz => HON.out z (HYB.out z (List.mem_of_mem_drop hz)))
          · exact ⟨by decide, by unfold maxLen; omega, by omega⟩
          intro v9 w6 h9 _
          have hM2 := h9
          clear h9
          refine q0_nil ?_
          refine hK.out _ _ ?_ (fun hHeld => ?_)
          · exact ldOA hM2 H44.out HRX.out
          clear hK K
          (try simp only [Act.put, List.setIfInBounds_toArray, List.set_cons_zero, List.set_cons_succ])
          refine wpAnyH_ready (rs := [13]) (by kernel_rfl) (by simp) ?_
          refine (AllReadyH.cons (o := ⟨some 44, _, _, _, _, _⟩) rfl (fun K hK => ?_) AllReadyH.nil)
          rw [if_pos (by rfl)]
          refine ow_of_wl (ops := #[]) (by rfl) ?_
          apply wl_appFull (n := k) (m := 1 + (j - k)) (xs := recsV (ys.take k)) (ys := cellsR x ++ recsV (ys.drop k)) hM2
          · rfl
          · rfl
          · exact rfl
          · exact rfl
          · infer_instance
          · infer_instance
          · infer_instance
          · exact (by have h := Rd.frontA (k := k) (Rd.row hM2 (.tail _ (.head _))) hkj; rw [(recsV_takeL HLY.out (k := k) (by rw [HYN.out]; exact hkj)).1] at h; exact h)
          · exact Rd.row hM2 (.head _)
          · omega
          · exact ⟨by unfold maxLen; omega, by omega⟩
          intro v8 w7 h9
          have hM3 := h9
          clear h9
          refine q0_nil ?_
          refine hK.out _ _ ?_ (fun hHeld => ?_)
          · exact ldOA hM3 H44.out HRX.out
          clear hK K
          (try simp only [Act.put, List.setIfInBounds_toArray, List.set_cons_zero, List.set_cons_succ])
          refine tq 14 3 ?_
          refine wpAnyH_done (by kernel_rfl) ?_ _
          clear hHeld
          go_wp2_with (first | go_big_skip | go_big_guard | fail)
          go_roundw
          case rel =>
            refine ⟨j + 1, ys.take k ++ x :: ys.drop k, by omega, rfl, ?_, ?_, ?_⟩
            · rw [← HNL.out, lay_map, HYE.out, List.take_add_one, HX.out, List.map_append]
              exact (sortL_snoc _ _).symm
            · rw [List.take_add_one, HX.out]
              exact lay_perm x k HYP.out
            · have e1 : k + (1 + (j - k)) = j + 1 := by omega
              have h := St.sub hM3 (.cons_cons _ (List.nil_sublist _))
              rw [e1] at h
              rw [recsV_append]
              exact h
          case measure => simp [intOf]; omega
    · have e1 : decide ((j : Int) < (n : Int)) = false := decide_eq_false (by omega)
      obtain rfl : j = n := by omega
      go_wp2_with (first | go_big_skip | go_big_guard | fail)
      go_ret
      refine ⟨_, rfl, ys, ?_⟩
      exact ⟨by rw [HYE.out, List.take_of_length_le (by rw [HN.out]; exact Nat.le_refl _)], by have h := HYP.out; rwa [List.take_of_length_le (by rw [HN.out]; exact Nat.le_refl _)] at h, hst⟩
end Go.Proofs.YtifajcblbedcoaaGreat
namespace Go.Proofs.YtifajcblbedcoaaGreat
set_option linter.unusedVariables false
set_option linter.unusedSimpArgs false
open Go.RowKit Hp
attribute [local irreducible] Go.Calls
set_option maxRecDepth 100000
set_option maxHeartbeats 4000000
attribute [local go_sem ↓] heldInt heldRecs heldStr
theorem any_step {p : RC → Bool} {xs : List (Value × RC)} {j : Nat} {y : Value × RC} (h : xs[j]? = some y) : ((xs.take (j + 1)).map (·.2)).any p = (((xs.take j).map (·.2)).any p || p y.2) := by
  rw [List.take_add_one, h, List.map_append, List.any_append]
  simp
theorem kin_any_r (t : TC) (lv : Value) (ar : Option Addr) (nr cr : Nat) (xs : List (Value × RC)) (w : World) (hR : RecsIn w (.slice ar nr cr) nr xs) (hb : nr ≤ 1000000) (x : Value × RC) (hin : RC.In w x) :
    Calls Tryz.prog 136 #[.agg (tabC t (.slice ar nr cr) lv).toArray, .agg (cellsR x).toArray] w fun e w' => e = .returned (.bool (kinB (xs.map (·.2)) x.2)) ∧ St w [] w' [] := by
  have hst0 := St.refl w
  have hcr : nr ≤ cr ∧ cr ≤ maxLen := by
    obtain ⟨_, ao', c0, he, hn, hcm, _⟩ := hR.rd
    cases he
    exact ⟨hn, hcm⟩
  have HR := hid hR
  have HIN := hid hin
  have HLL := hid hin.L
  clear hR hin
  obtain ⟨RR, hRR⟩ : ∃ RR, RR = kinB (xs.map (·.2)) x.2 := ⟨_, rfl⟩
  rw [← hRR]
  have HV := hid hRR
  clear hRR
  obtain ⟨hc1, hc2⟩ := hcr
  unfold maxLen at hc2
  cases d5 : (x.2.kind == 2)
  · have hv : RR = ((x.2.origin == 0) || (xs.map (·.2)).any fun y => (y.id == x.2.origin) && (y.kind == 2)) := by rw [HV.out]; unfold kinB; rw [d5]; rfl
    have HW := hid hv
    clear hv
    go_enter Tryz.func136, Tryz.ntmps136
    go_wp2_with (first | go_big_skip | go_big_guard | (refine wl_boxA hst0 rfl rfl rfl ?_; intro g1 w1 hst1; clear hst0) | (refine wl_boxA hst1 rfl rfl rfl ?_; intro gx w2 hst; clear hst1) | (refine wl_loadE rfl rfl rfl ?_; first | refine ⟨_, Loads.atA (tabC t (.slice ar nr cr) lv) [_] hst rfl rfl, ?_⟩ | refine ⟨_, Loads.at [] hst rfl, ?_⟩ | refine ⟨_, Loads.at [] hst (cellsR_41 HLL.out), ?_⟩ | refine ⟨_, Loads.at [_] hst rfl, ?_⟩) | (go_at_call 90; refine (refSplit_any x.2.name _ HIN.out.2).mono ?_; rintro _ w9 ⟨rfl, h4⟩; replace hst := St.call0 hst h4; clear h4) | (go_at_call 91; refine (refFind_any t lv (splitL x.2.name).1 _ nr cr xs _ (HR.out.old hst.nil) hb).mono ?_; rw [HF.out]; rintro _ w9 ⟨rfl, h4⟩; replace hst := St.call0 hst h4; clear h4))
    go_loopw [10, 11] (fun q i wr => ∃ j : Nat, j ≤ nr ∧ i = .int .i64 (j : Int) ∧ q = .bool ((x.2.origin == 0) || ((xs.take j).map (·.2)).any fun y => (y.id == x.2.origin) && (y.kind == 2)) ∧ St w [] wr [.blk gx 53 (cellsR x), .blk g1 27 (tabC t (.slice ar nr cr) lv)]) (fun _ i _ => nr - (intOf i).toNat)
    case atStart => exact ⟨0, Nat.zero_le _, rfl, by simp, hst⟩
    case round =>
      clear hst
      obtain ⟨j, hj, rfl, rfl, hst⟩ := hrel
      by_cases hlt : j < nr
      · have e1 : decide ((j : Int) < (nr : Int)) = true := decide_eq_true (by omega)
        have z1 : IntKind.i64.wrap ((j : Int) + 1) = (j : Int) + 1 := IntWalk.i64_in _ (by omega)
        obtain ⟨y, lb, lo, hyj, rfl, hiny, hr⟩ := RecsIn.at HR.out hlt
        have HYJ := hid hyj
        have HYI := hid (show w.cell? ⟨lb, lo + j * 44, none⟩ = some (.int .i64 y.2.id) from hr 0 _ rfl)
        have HYK := hid (show w.cell? ⟨lb, lo + j * 44 + 2, none⟩ = some (.int .i64 y.2.kind) from hr 2 _ rfl)
        clear hyj hiny hr
        obtain ⟨a, ha⟩ : ∃ a, a = ((x.2.origin == 0) || ((xs.take j).map (·.2)).any fun y => (y.id == x.2.origin) && (y.kind == 2)) := ⟨_, rfl⟩
        rw [← ha]
        have HAC := hid ha
        clear ha
        cases a
        · cases c1 : (y.2.id == x.2.origin)
          · go_wp2_with (first | go_big_skip | go_big_guard | (refine wl_loadE rfl rfl rfl ?_; first | refine ⟨_, Loads.atA (tabC t (.slice ar nr cr) lv) [_] hst rfl rfl, ?_⟩ | refine ⟨_, Loads.at [] hst rfl, ?_⟩ | refine ⟨_, Loads.at [] hst (cellsR_41 HLL.out), ?_⟩ | refine ⟨_, Loads.at [_] hst rfl, ?_⟩))
            have hX := hst.drew
            clear hst
            refine wp_region_held_drew (S := (fun w' => (loadVarH 22 ⟨g1, 1, none⟩).run Tryz.prog w' = .ok (.slice (some ⟨lb, lo, none⟩) nr cr) w' ∧ (loadVarH 3 ⟨gx, 41, none⟩).run Tryz.prog w' = .ok (.int .i64 x.2.origin) w' ∧ (loadVarH 3 ⟨lb, lo + j * 44, none⟩).run Tryz.prog w' = .ok (.int .i64 y.2.id) w' ∧ (loadVarH 3 ⟨lb, lo + j * 44 + 2, none⟩).run Tryz.prog w' = .ok (.int .i64 y.2.kind) w')) (by kernel_rfl) (by exact ⟨ldS [_] hX rfl, ldS [] hX (cellsR_41 HLL.out), ldO hX (HYI.out), ldO hX (HYK.out)⟩) (fun hHeld => ?_)
            refine tq 0 50 ?_
            refine tq 1 51 ?_
            refine tq 2 52 ?_
            refine tq 4 54 ?_
            refine tq 8 58 ?_
            refine tq 3 53 ?_
            refine tq 9 59 ?_
            refine tq 5 55 ?_
            refine tq 6 56 ?_
            refine tq 7 57 ?_
            refine tq 10 60 ?_
            refine tq 11 61 ?_
            refine tu 12 62 ?_
            refine tu 14 64 ?_
            refine tu 13 63 ?_
            refine tu 15 65 ?_
            refine tu 16 66 ?_
            refine tu 17 67 ?_
            refine tu 18 68 ?_
            refine tq 19 69 ?_
            refine tq 20 70 ?_
            refine tq 21 10 ?_
            refine wpAnyH_done (by kernel_rfl) ?_ _
            clear hHeld
            go_wp2_with (first | go_big_skip | go_big_guard | fail)
            go_roundw
            case rel => exact ⟨j + 1, by omega, rfl, by rw [any_step HYJ.out, ← Bool.or_assoc, ← HAC.out]; simp [c1], hX⟩
            case measure => simp [intOf]; omega
          · go_wp2_with (first | go_big_skip | go_big_guard | (refine wl_loadE rfl rfl rfl ?_; first | refine ⟨_, Loads.atA (tabC t (.slice ar nr cr) lv) [_] hst rfl rfl, ?_⟩ | refine ⟨_, Loads.at [] hst rfl, ?_⟩ | refine ⟨_, Loads.at [] hst (cellsR_41 HLL.out), ?_⟩ | refine ⟨_, Loads.at [_] hst rfl, ?_⟩))
            have hX := hst.drew
            clear hst
            refine wp_region_held_drew (S := (fun w' => (loadVarH 22 ⟨g1, 1, none⟩).run Tryz.prog w' = .ok (.slice (some ⟨lb, lo, none⟩) nr cr) w' ∧ (loadVarH 3 ⟨gx, 41, none⟩).run Tryz.prog w' = .ok (.int .i64 x.2.origin) w' ∧ (loadVarH 3 ⟨lb, lo + j * 44, none⟩).run Tryz.prog w' = .ok (.int .i64 y.2.id) w' ∧ (loadVarH 3 ⟨lb, lo + j * 44 + 2, none⟩).run Tryz.prog w' = .ok (.int .i64 y.2.kind) w')) (by kernel_rfl) (by exact ⟨ldS [_] hX rfl, ldS [] hX (cellsR_41 HLL.out), ldO hX (HYI.out), ldO hX (HYK.out)⟩) (fun hHeld => ?_)
            refine tq 0 50 ?_
            refine tq 1 51 ?_
            refine tq 2 52 ?_
            refine tq 4 54 ?_
            refine tq 8 58 ?_
            refine tq 3 53 ?_
            refine tq 9 59 ?_
            refine tq 5 55 ?_
            refine tq 6 56 ?_
            refine tq 7 57 ?_
            refine tq 10 60 ?_
            refine tq 11 61 ?_
            refine tq 12 62 ?_
            refine tq 14 64 ?_
            refine tq 13 63 ?_
            refine tq 15 65 ?_
            refine tq 16 66 ?_
            refine tq 17 67 ?_
            refine tq 18 68 ?_
            refine tq 19 69 ?_
            refine tq 20 70 ?_
            refine tq 21 10 ?_
            refine wpAnyH_done (by kernel_rfl) ?_ _
            clear hHeld
            go_wp2_with (first | go_big_skip | go_big_guard | fail)
            go_roundw
            case rel => exact ⟨j + 1, by omega, rfl, by rw [any_step HYJ.out, ← Bool.or_assoc, ← HAC.out]; simp [c1], hX⟩
            case measure => simp [intOf]; omega
        · go_wp2_with (first | go_big_skip | go_big_guard | (refine wl_loadE rfl rfl rfl ?_; first | refine ⟨_, Loads.atA (tabC t (.slice ar nr cr) lv) [_] hst rfl rfl, ?_⟩ | refine ⟨_, Loads.at [] hst rfl, ?_⟩ | refine ⟨_, Loads.at [] hst (cellsR_41 HLL.out), ?_⟩ | refine ⟨_, Loads.at [_] hst rfl, ?_⟩))
          have hX := hst.drew
          clear hst
          refine wp_region_held_drew (S := (fun w' => (loadVarH 22 ⟨g1, 1, none⟩).run Tryz.prog w' = .ok (.slice (some ⟨lb, lo, none⟩) nr cr) w' ∧ (loadVarH 3 ⟨gx, 41, none⟩).run Tryz.prog w' = .ok (.int .i64 x.2.origin) w' ∧ (loadVarH 3 ⟨lb, lo + j * 44, none⟩).run Tryz.prog w' = .ok (.int .i64 y.2.id) w' ∧ (loadVarH 3 ⟨lb, lo + j * 44 + 2, none⟩).run Tryz.prog w' = .ok (.int .i64 y.2.kind) w')) (by kernel_rfl) (by exact ⟨ldS [_] hX rfl, ldS [] hX (cellsR_41 HLL.out), ldO hX (HYI.out), ldO hX (HYK.out)⟩) (fun hHeld => ?_)
          refine tq 0 50 ?_
          refine tq 1 51 ?_
          refine tu 2 52 ?_
          refine tu 4 54 ?_
          refine tu 8 58 ?_
          refine tu 3 53 ?_
          refine tu 9 59 ?_
          refine tu 5 55 ?_
          refine tu 6 56 ?_
          refine tu 7 57 ?_
          refine tu 10 60 ?_
          refine tu 11 61 ?_
          refine tu 12 62 ?_
          refine tu 14 64 ?_
          refine tu 13 63 ?_
          refine tu 15 65 ?_
          refine tu 16 66 ?_
          refine tu 17 67 ?_
          refine tu 18 68 ?_
          refine tu 19 69 ?_
          refine tq 20 70 ?_
          refine tq 21 10 ?_
          refine wpAnyH_done (by kernel_rfl) ?_ _
          clear hHeld
          go_wp2_with (first | go_big_skip | go_big_guard | fail)
          go_roundw
          case rel => exact ⟨j + 1, by omega, rfl, by rw [any_step HYJ.out, ← Bool.or_assoc, ← HAC.out]; rfl, hX⟩
          case measure => simp [intOf]; omega
      · have e1 : decide ((j : Int) < (nr : Int)) = false := decide_eq_false (by omega)
        have hv : RR = ((x.2.origin == 0) || ((xs.take j).map (·.2)).any fun y => (y.id == x.2.origin) && (y.kind == 2)) := by rw [HW.out, List.take_of_length_le (by have := HR.out.len; omega)]
        rw [← hv]
        clear hv
        go_wp2_with (first | go_big_skip | go_big_guard | (refine wl_loadE rfl rfl rfl ?_; first | refine ⟨_, Loads.atA (tabC t (.slice ar nr cr) lv) [_] hst rfl rfl, ?_⟩ | refine ⟨_, Loads.at [] hst rfl, ?_⟩ | refine ⟨_, Loads.at [] hst (cellsR_41 HLL.out), ?_⟩ | refine ⟨_, Loads.at [_] hst rfl, ?_⟩))
        go_ret
        exact ⟨rfl, hst.nil⟩
  · have hv : RR = volB (xs.map (·.2)) x.2 := by rw [HV.out]; unfold kinB; rw [d5]; rfl
    obtain ⟨⟨z, is⟩, hf⟩ : ∃ p, findP (splitL x.2.name).1 (xs.map (·.2)) = p := ⟨_, rfl⟩
    have HF := hid hf
    cases is
    · have hv2 := hv.trans (volB_no hf)
      rw [hv2]
      clear hv hv2 hf
      go_enter Tryz.func136, Tryz.ntmps136
      go_wp2_with (first | go_big_skip | go_big_guard | (refine wl_boxA hst0 rfl rfl rfl ?_; intro g1 w1 hst1; clear hst0) | (refine wl_boxA hst1 rfl rfl rfl ?_; intro gx w2 hst; clear hst1) | (refine wl_loadE rfl rfl rfl ?_; first | refine ⟨_, Loads.atA (tabC t (.slice ar nr cr) lv) [_] hst rfl rfl, ?_⟩ | refine ⟨_, Loads.at [] hst rfl, ?_⟩ | refine ⟨_, Loads.at [] hst (cellsR_41 HLL.out), ?_⟩ | refine ⟨_, Loads.at [_] hst rfl, ?_⟩) | (go_at_call 90; refine (refSplit_any x.2.name _ HIN.out.2).mono ?_; rintro _ w9 ⟨rfl, h4⟩; replace hst := St.call0 hst h4; clear h4) | (go_at_call 91; refine (refFind_any t lv (splitL x.2.name).1 _ nr cr xs _ (HR.out.old hst.nil) hb).mono ?_; rw [HF.out]; rintro _ w9 ⟨rfl, h4⟩; replace hst := St.call0 hst h4; clear h4))
      have hD := hst.drew
      clear hst
      refine wp_region_held_drew (S := (fun w' => (loadVarH 22 ⟨g1, 1, none⟩).run Tryz.prog w' = .ok (.slice ar nr cr) w' ∧ (loadVarH 3 ⟨gx, 40, none⟩).run Tryz.prog w' = .ok (.int .i64 x.2.own) w')) (by kernel_rfl) (by exact ⟨ldS [_] hD rfl, ldS [] hD (cellsR_40 HLL.out)⟩) (fun hHeld => ?_)
      refine tq 0 28 ?_
      refine tq 1 29 ?_
      refine tu 2 30 ?_
      refine tu 4 32 ?_
      refine tu 8 36 ?_
      refine tu 3 31 ?_
      refine tu 9 37 ?_
      refine tu 5 33 ?_
      refine tu 6 34 ?_
      refine tu 7 35 ?_
      refine tu 10 38 ?_
      refine tq 11 39 ?_
      refine tq 12 4 ?_
      refine wpAnyH_done (by kernel_rfl) ?_ _
      clear hHeld
      go_wp2_with (first | go_big_skip | go_big_guard | fail)
      go_ret
      exact ⟨rfl, hD.nil⟩
    · obtain ⟨j, y, rfl, hy, hfn⟩ := findP_yes hf
      have hv2 := hv.trans (volB_yes hfn hy)
      rw [hv2]
      have hjlt : j < nr := by rw [← HR.out.len]; exact (List.getElem?_eq_some_iff.1 hy).1
      obtain ⟨y', lb, lo, hy', rfl, hiny, hry⟩ := RecsIn.at HR.out hjlt
      obtain rfl : y = y' := Option.some.inj (hy.symm.trans hy')
      have HY := hid (show w.cell? ⟨lb, lo + j * 44, none⟩ = some (.int .i64 y.2.id) from hry 0 _ rfl)
      clear hv hv2 hf hy hfn hy' hiny hry
      go_enter Tryz.func136, Tryz.ntmps136
      go_wp2_with (first | go_big_skip | go_big_guard | (refine wl_boxA hst0 rfl rfl rfl ?_; intro g1 w1 hst1; clear hst0) | (refine wl_boxA hst1 rfl rfl rfl ?_; intro gx w2 hst; clear hst1) | (refine wl_loadE rfl rfl rfl ?_; first | refine ⟨_, Loads.atA (tabC t (.slice (some ⟨lb, lo, none⟩) nr cr) lv) [_] hst rfl rfl, ?_⟩ | refine ⟨_, Loads.at [] hst rfl, ?_⟩ | refine ⟨_, Loads.at [] hst (cellsR_41 HLL.out), ?_⟩ | refine ⟨_, Loads.at [_] hst rfl, ?_⟩) | (go_at_call 90; refine (refSplit_any x.2.name _ HIN.out.2).mono ?_; rintro _ w9 ⟨rfl, h4⟩; replace hst := St.call0 hst h4; clear h4) | (go_at_call 91; refine (refFind_any t lv (splitL x.2.name).1 _ nr cr xs _ (HR.out.old hst.nil) hb).mono ?_; rw [HF.out]; rintro _ w9 ⟨rfl, h4⟩; replace hst := St.call0 hst h4; clear h4))
      have hD := hst.drew
      clear hst
      refine wp_region_held_drew (S := (fun w' => (loadVarH 22 ⟨g1, 1, none⟩).run Tryz.prog w' = .ok (.slice (some ⟨lb, lo, none⟩) nr cr) w' ∧ (loadVarH 3 ⟨gx, 40, none⟩).run Tryz.prog w' = .ok (.int .i64 x.2.own) w' ∧ (loadVarH 3 ⟨lb, lo + j * 44, none⟩).run Tryz.prog w' = .ok (.int .i64 y.2.id) w')) (by kernel_rfl) (by exact ⟨ldS [_] hD rfl, ldS [] hD (cellsR_40 HLL.out), ldO hD (HY.out)⟩) (fun hHeld => ?_)
      refine tq 0 28 ?_
      refine tq 1 29 ?_
      refine tq 2 30 ?_
      refine tq 4 32 ?_
      refine tq 8 36 ?_
      refine tq 3 31 ?_
      refine tq 9 37 ?_
      refine tq 5 33 ?_
      refine tq 6 34 ?_
      refine tq 7 35 ?_
      refine tq 10 38 ?_
      refine tq 11 39 ?_
      refine tq 12 4 ?_
      refine wpAnyH_done (by kernel_rfl) ?_ _
      clear hHeld
      go_wp2_with (first | go_big_skip | go_big_guard | fail)
      go_ret
      exact ⟨rfl, hD.nil⟩
end Go.Proofs.YtifajcblbedcoaaGreat
namespace Go.Proofs.YtifajcblbedcoaaGreat
set_option linter.unusedVariables false
set_option linter.unusedSimpArgs false
open Go.RowKit Hp
attribute [local irreducible] Go.Calls Go.wpList Hp.gvV Hp.gB Hp.gA Hp.bOr Hp.bAnd Hp.bNot inB rootB partB snapB
set_option maxRecDepth 100000
set_option maxHeartbeats 4000000
theorem rootB_ref (p : PV) : rootB p = (p.ok && (p.hole || (p.v == 3))) := by
  unfold rootB
  cases hh : p.hole
  · simp
  · rw [PV.hole_ok hh]; rfl
theorem may_any_r (x : Value × RC) (w : World) (hx : RC.In w x) : Calls Tryz.prog 135 #[.agg (cellsR x).toArray] w fun e w' => e = .returned (.bool x.2.aloneB) ∧ St w [] w' [] := by
  have hst0 := St.refl w
  have HX := hid hx
  have HL := hid hx.L
  have H35 := hid (PV.len (p := x.2.pv x.1) hx.L)
  clear hx
  obtain ⟨k, hk⟩ : ∃ k, k = (x.2.pv x.1).ok := ⟨_, rfl⟩
  have HK := hid hk
  clear hk
  cases k
  all_goals
    go_enter Tryz.func135, Tryz.ntmps135
    go_wp2_with (first | go_big_skip | (refine wl_boxA hst0 rfl rfl rfl ?_; intro g4 w1 hst; clear hst0) | (show wpList _ _ _ (Oper.mk _ (.fieldAddr 32 _ 2) _ _ _ (some _) :: _) _ _; refine wl_gfld (d := 2) rfl (by first | exact wanted_b rfl rfl | exact wanted_g rfl rfl) (by first | exact (fun hg => gvV_on hg) | exact (fun hg => gvV_gA hg) | exact (fun _ => rfl)) (by kernel_rfl) ?_; (try simp only [Act.put, List.setIfInBounds_toArray, List.set_cons_zero, List.set_cons_succ])) | (show wpList _ _ _ (Oper.mk _ (.fieldAddr 53 _ _) _ _ _ (some _) :: _) _ _; refine wl_gfldR rfl (by first | exact wanted_b rfl rfl | exact wanted_g rfl rfl) (by first | exact (fun hg => gvV_on hg) | exact (fun hg => gvV_gA hg) | exact (fun _ => rfl)) rfl ?_; (try simp only [Act.put, List.setIfInBounds_toArray, List.set_cons_zero, List.set_cons_succ])) | (show wpList _ _ _ (Oper.mk _ (.fieldAddr 32 _ 1) _ _ _ (some _) :: _) _ _; refine wl_gfld (d := 1) rfl (by first | exact wanted_b rfl rfl | exact wanted_g rfl rfl) (by first | exact (fun hg => gvV_on hg) | exact (fun hg => gvV_gA hg) | exact (fun _ => rfl)) (by kernel_rfl) ?_; (try simp only [Act.put, List.setIfInBounds_toArray, List.set_cons_zero, List.set_cons_succ])) | (show wpList _ _ _ (Oper.mk _ (.load _ _) _ _ _ (some _) :: _) _ _; refine wl_gloadE rfl (by first | exact wanted_b rfl rfl | exact wanted_g rfl rfl) (by first | exact (fun hg => gvV_on hg) | exact (fun hg => gvV_gA hg) | exact (fun _ => rfl)) ?_; (first | refine ⟨_, Loads.atA ((x.2.pv x.1).cells) [] hst H35.out (cellsR_root HL.out), ?_⟩ | refine ⟨_, Loads.at [] hst (cellsR_39 HL.out), ?_⟩ | refine ⟨_, Loads.at [] hst (cellsR_40 HL.out), ?_⟩ | refine ⟨_, Loads.at [] hst (cellsR_41 HL.out), ?_⟩ | refine ⟨_, Loads.at [] hst (cellsR_42 HL.out), ?_⟩ | refine ⟨_, Loads.at [] hst (cellsR_43 HL.out), ?_⟩ | refine ⟨_, Loads.at [] hst rfl, ?_⟩); (try simp only [Act.put, List.setIfInBounds_toArray, List.set_cons_zero, List.set_cons_succ]); (repeat ((first | (show wpList _ _ _ (Oper.mk _ (.move _) _ _ _ none :: _) _ _; refine wl_mv rfl rfl rfl ?_) | (show wpList _ _ _ (Oper.mk _ (.pick _ _ _) _ _ _ none :: _) _ _; (first | (refine wl_pickOr rfl rfl rfl rfl rfl ?_; intro q hq) | (refine wl_pickAnd rfl rfl rfl rfl rfl ?_; intro q hq))) | (show wpList _ _ _ (Oper.mk _ (.pick _ _ _) _ _ _ (some _) :: _) _ _; (first | (refine wl_gpickOr rfl (by first | exact wanted_b rfl rfl | exact wanted_g rfl rfl) rfl rfl rfl ?_; intro q hq) | (refine wl_gpickAnd rfl (by first | exact wanted_b rfl rfl | exact wanted_g rfl rfl) rfl rfl rfl ?_; intro q hq))) | (show wpList _ _ _ (Oper.mk _ (.move _) _ _ _ (some _) :: _) _ _; refine wl_gmove rfl (by first | exact wanted_b rfl rfl | exact wanted_g rfl rfl) (by first | exact (fun hg => gvV_on hg) | exact (fun hg => gvV_gA hg) | exact (fun _ => rfl)) ?_)); (try simp only [Act.put, List.setIfInBounds_toArray, List.set_cons_zero, List.set_cons_succ])))) | (show wpList _ _ _ (Oper.mk _ (.binOp _ 3 _ _ _) _ _ _ (some _) :: _) _ _; refine wl_gcmp rfl (by first | exact wanted_b rfl rfl | exact wanted_g rfl rfl) (by first | exact (fun hg => gvV_on hg) | exact (fun hg => gvV_gA hg) | exact (fun _ => rfl)) (by first | exact (fun hg => gvV_on hg) | exact (fun hg => gvV_gA hg) | exact (fun _ => rfl)) rfl ?_; (try simp only [Act.put, List.setIfInBounds_toArray, List.set_cons_zero, List.set_cons_succ]); (repeat ((first | (show wpList _ _ _ (Oper.mk _ (.move _) _ _ _ none :: _) _ _; refine wl_mv rfl rfl rfl ?_) | (show wpList _ _ _ (Oper.mk _ (.pick _ _ _) _ _ _ none :: _) _ _; (first | (refine wl_pickOr rfl rfl rfl rfl rfl ?_; intro q hq) | (refine wl_pickAnd rfl rfl rfl rfl rfl ?_; intro q hq))) | (show wpList _ _ _ (Oper.mk _ (.pick _ _ _) _ _ _ (some _) :: _) _ _; (first | (refine wl_gpickOr rfl (by first | exact wanted_b rfl rfl | exact wanted_g rfl rfl) rfl rfl rfl ?_; intro q hq) | (refine wl_gpickAnd rfl (by first | exact wanted_b rfl rfl | exact wanted_g rfl rfl) rfl rfl rfl ?_; intro q hq))) | (show wpList _ _ _ (Oper.mk _ (.move _) _ _ _ (some _) :: _) _ _; refine wl_gmove rfl (by first | exact wanted_b rfl rfl | exact wanted_g rfl rfl) (by first | exact (fun hg => gvV_on hg) | exact (fun hg => gvV_gA hg) | exact (fun _ => rfl)) ?_)); (try simp only [Act.put, List.setIfInBounds_toArray, List.set_cons_zero, List.set_cons_succ])))) | (show wpList _ _ _ (Oper.mk _ (.unOp .not _ _) _ _ _ (some _) :: _) _ _; refine wl_gnot rfl (by first | exact wanted_b rfl rfl | exact wanted_g rfl rfl) (by first | exact (fun hg => gvV_on hg) | exact (fun hg => gvV_gA hg) | exact (fun _ => rfl)) ?_; (try simp only [Act.put, List.setIfInBounds_toArray, List.set_cons_zero, List.set_cons_succ]); (repeat ((first | (show wpList _ _ _ (Oper.mk _ (.move _) _ _ _ none :: _) _ _; refine wl_mv rfl rfl rfl ?_) | (show wpList _ _ _ (Oper.mk _ (.pick _ _ _) _ _ _ none :: _) _ _; (first | (refine wl_pickOr rfl rfl rfl rfl rfl ?_; intro q hq) | (refine wl_pickAnd rfl rfl rfl rfl rfl ?_; intro q hq))) | (show wpList _ _ _ (Oper.mk _ (.pick _ _ _) _ _ _ (some _) :: _) _ _; (first | (refine wl_gpickOr rfl (by first | exact wanted_b rfl rfl | exact wanted_g rfl rfl) rfl rfl rfl ?_; intro q hq) | (refine wl_gpickAnd rfl (by first | exact wanted_b rfl rfl | exact wanted_g rfl rfl) rfl rfl rfl ?_; intro q hq))) | (show wpList _ _ _ (Oper.mk _ (.move _) _ _ _ (some _) :: _) _ _; refine wl_gmove rfl (by first | exact wanted_b rfl rfl | exact wanted_g rfl rfl) (by first | exact (fun hg => gvV_on hg) | exact (fun hg => gvV_gA hg) | exact (fun _ => rfl)) ?_)); (try simp only [Act.put, List.setIfInBounds_toArray, List.set_cons_zero, List.set_cons_succ])))) | (refine wl_loadE rfl rfl rfl ?_; first | refine ⟨_, Loads.atA ((x.2.pv x.1).cells) [] hst H35.out (cellsR_root HL.out), ?_⟩ | refine ⟨_, Loads.at [] hst (cellsR_39 HL.out), ?_⟩ | refine ⟨_, Loads.at [] hst (cellsR_40 HL.out), ?_⟩ | refine ⟨_, Loads.at [] hst (cellsR_41 HL.out), ?_⟩ | refine ⟨_, Loads.at [] hst (cellsR_42 HL.out), ?_⟩ | refine ⟨_, Loads.at [] hst (cellsR_43 HL.out), ?_⟩ | refine ⟨_, Loads.at [] hst rfl, ?_⟩) | (show wpList _ _ _ (Oper.mk _ (.call (Call.mk (.value (.func 122)) _ _)) _ _ _ (some _) :: _) _ _; refine wl_gcall (v := .bool (inB x.2.size 1 64)) hst (by first | exact wanted_b rfl rfl | exact wanted_g rfl rfl) ?_ ?_; (intro hg K hK; have Hg := hid hg; clear hg; go_simp; go_at_call 122; (try (conv => (arg 3; simp only [gvV_on Hg.out]))); refine (refWithin_any x.2.size 1 64 _).mono ?_; rintro _ w9 ⟨rfl, h4⟩; have hk := hK _ (St.call0 hst h4); simp only [Act.put, List.setIfInBounds_toArray, List.set_cons_zero, List.set_cons_succ] at hk; dsimp only; exact hk); (intro w5 hst5; replace hst := hst5; clear hst5; (try simp only [Act.put, List.setIfInBounds_toArray, List.set_cons_zero, List.set_cons_succ]); (repeat ((first | (show wpList _ _ _ (Oper.mk _ (.move _) _ _ _ none :: _) _ _; refine wl_mv rfl rfl rfl ?_) | (show wpList _ _ _ (Oper.mk _ (.pick _ _ _) _ _ _ none :: _) _ _; (first | (refine wl_pickOr rfl rfl rfl rfl rfl ?_; intro q hq) | (refine wl_pickAnd rfl rfl rfl rfl rfl ?_; intro q hq))) | (show wpList _ _ _ (Oper.mk _ (.pick _ _ _) _ _ _ (some _) :: _) _ _; (first | (refine wl_gpickOr rfl (by first | exact wanted_b rfl rfl | exact wanted_g rfl rfl) rfl rfl rfl ?_; intro q hq) | (refine wl_gpickAnd rfl (by first | exact wanted_b rfl rfl | exact wanted_g rfl rfl) rfl rfl rfl ?_; intro q hq))) | (show wpList _ _ _ (Oper.mk _ (.move _) _ _ _ (some _) :: _) _ _; refine wl_gmove rfl (by first | exact wanted_b rfl rfl | exact wanted_g rfl rfl) (by first | exact (fun hg => gvV_on hg) | exact (fun hg => gvV_gA hg) | exact (fun _ => rfl)) ?_)); (try simp only [Act.put, List.setIfInBounds_toArray, List.set_cons_zero, List.set_cons_succ]))))) | (show wpList _ _ _ (Oper.mk _ (.call (Call.mk (.value (.func 122)) _ _)) _ _ _ (some _) :: _) _ _; refine wl_gcall (v := .bool (inB x.2.made 1 2147483648)) hst (by first | exact wanted_b rfl rfl | exact wanted_g rfl rfl) ?_ ?_; (intro hg K hK; have Hg := hid hg; clear hg; go_simp; go_at_call 122; (try (conv => (arg 3; simp only [gvV_on Hg.out]))); refine (refWithin_any x.2.made 1 2147483648 _).mono ?_; rintro _ w9 ⟨rfl, h4⟩; have hk := hK _ (St.call0 hst h4); simp only [Act.put, List.setIfInBounds_toArray, List.set_cons_zero, List.set_cons_succ] at hk; dsimp only; exact hk); (intro w5 hst5; replace hst := hst5; clear hst5; (try simp only [Act.put, List.setIfInBounds_toArray, List.set_cons_zero, List.set_cons_succ]); (repeat ((first | (show wpList _ _ _ (Oper.mk _ (.move _) _ _ _ none :: _) _ _; refine wl_mv rfl rfl rfl ?_) | (show wpList _ _ _ (Oper.mk _ (.pick _ _ _) _ _ _ none :: _) _ _; (first | (refine wl_pickOr rfl rfl rfl rfl rfl ?_; intro q hq) | (refine wl_pickAnd rfl rfl rfl rfl rfl ?_; intro q hq))) | (show wpList _ _ _ (Oper.mk _ (.pick _ _ _) _ _ _ (some _) :: _) _ _; (first | (refine wl_gpickOr rfl (by first | exact wanted_b rfl rfl | exact wanted_g rfl rfl) rfl rfl rfl ?_; intro q hq) | (refine wl_gpickAnd rfl (by first | exact wanted_b rfl rfl | exact wanted_g rfl rfl) rfl rfl rfl ?_; intro q hq))) | (show wpList _ _ _ (Oper.mk _ (.move _) _ _ _ (some _) :: _) _ _; refine wl_gmove rfl (by first | exact wanted_b rfl rfl | exact wanted_g rfl rfl) (by first | exact (fun hg => gvV_on hg) | exact (fun hg => gvV_gA hg) | exact (fun _ => rfl)) ?_)); (try simp only [Act.put, List.setIfInBounds_toArray, List.set_cons_zero, List.set_cons_succ]))))) | (show wpList _ _ _ (Oper.mk _ (.call (Call.mk (.value (.func 122)) _ _)) _ _ _ (some _) :: _) _ _; refine wl_gcall (v := .bool (inB x.2.origin 0 2147483647)) hst (by first | exact wanted_b rfl rfl | exact wanted_g rfl rfl) ?_ ?_; (intro hg K hK; have Hg := hid hg; clear hg; go_simp; go_at_call 122; (try (conv => (arg 3; simp only [gvV_on Hg.out]))); refine (refWithin_any x.2.origin 0 2147483647 _).mono ?_; rintro _ w9 ⟨rfl, h4⟩; have hk := hK _ (St.call0 hst h4); simp only [Act.put, List.setIfInBounds_toArray, List.set_cons_zero, List.set_cons_succ] at hk; dsimp only; exact hk); (intro w5 hst5; replace hst := hst5; clear hst5; (try simp only [Act.put, List.setIfInBounds_toArray, List.set_cons_zero, List.set_cons_succ]); (repeat ((first | (show wpList _ _ _ (Oper.mk _ (.move _) _ _ _ none :: _) _ _; refine wl_mv rfl rfl rfl ?_) | (show wpList _ _ _ (Oper.mk _ (.pick _ _ _) _ _ _ none :: _) _ _; (first | (refine wl_pickOr rfl rfl rfl rfl rfl ?_; intro q hq) | (refine wl_pickAnd rfl rfl rfl rfl rfl ?_; intro q hq))) | (show wpList _ _ _ (Oper.mk _ (.pick _ _ _) _ _ _ (some _) :: _) _ _; (first | (refine wl_gpickOr rfl (by first | exact wanted_b rfl rfl | exact wanted_g rfl rfl) rfl rfl rfl ?_; intro q hq) | (refine wl_gpickAnd rfl (by first | exact wanted_b rfl rfl | exact wanted_g rfl rfl) rfl rfl rfl ?_; intro q hq))) | (show wpList _ _ _ (Oper.mk _ (.move _) _ _ _ (some _) :: _) _ _; refine wl_gmove rfl (by first | exact wanted_b rfl rfl | exact wanted_g rfl rfl) (by first | exact (fun hg => gvV_on hg) | exact (fun hg => gvV_gA hg) | exact (fun _ => rfl)) ?_)); (try simp only [Act.put, List.setIfInBounds_toArray, List.set_cons_zero, List.set_cons_succ]))))) | (show wpList _ _ _ (Oper.mk _ (.call (Call.mk (.value (.func 122)) _ _)) _ _ _ (some _) :: _) _ _; refine wl_gcall (v := .bool (inB x.2.quota 0 64)) hst (by first | exact wanted_b rfl rfl | exact wanted_g rfl rfl) ?_ ?_; (intro hg K hK; have Hg := hid hg; clear hg; go_simp; go_at_call 122; (try (conv => (arg 3; simp only [gvV_on Hg.out]))); refine (refWithin_any x.2.quota 0 64 _).mono ?_; rintro _ w9 ⟨rfl, h4⟩; have hk := hK _ (St.call0 hst h4); simp only [Act.put, List.setIfInBounds_toArray, List.set_cons_zero, List.set_cons_succ] at hk; dsimp only; exact hk); (intro w5 hst5; replace hst := hst5; clear hst5; (try simp only [Act.put, List.setIfInBounds_toArray, List.set_cons_zero, List.set_cons_succ]); (repeat ((first | (show wpList _ _ _ (Oper.mk _ (.move _) _ _ _ none :: _) _ _; refine wl_mv rfl rfl rfl ?_) | (show wpList _ _ _ (Oper.mk _ (.pick _ _ _) _ _ _ none :: _) _ _; (first | (refine wl_pickOr rfl rfl rfl rfl rfl ?_; intro q hq) | (refine wl_pickAnd rfl rfl rfl rfl rfl ?_; intro q hq))) | (show wpList _ _ _ (Oper.mk _ (.pick _ _ _) _ _ _ (some _) :: _) _ _; (first | (refine wl_gpickOr rfl (by first | exact wanted_b rfl rfl | exact wanted_g rfl rfl) rfl rfl rfl ?_; intro q hq) | (refine wl_gpickAnd rfl (by first | exact wanted_b rfl rfl | exact wanted_g rfl rfl) rfl rfl rfl ?_; intro q hq))) | (show wpList _ _ _ (Oper.mk _ (.move _) _ _ _ (some _) :: _) _ _; refine wl_gmove rfl (by first | exact wanted_b rfl rfl | exact wanted_g rfl rfl) (by first | exact (fun hg => gvV_on hg) | exact (fun hg => gvV_gA hg) | exact (fun _ => rfl)) ?_)); (try simp only [Act.put, List.setIfInBounds_toArray, List.set_cons_zero, List.set_cons_succ]))))) | (show wpList _ _ _ (Oper.mk _ (.call (Call.mk (.value (.func 122)) _ _)) _ _ _ (some _) :: _) _ _; refine wl_gcall (v := .bool (inB x.2.reserve 0 64)) hst (by first | exact wanted_b rfl rfl | exact wanted_g rfl rfl) ?_ ?_; (intro hg K hK; have Hg := hid hg; clear hg; go_simp; go_at_call 122; (try (conv => (arg 3; simp only [gvV_on Hg.out]))); refine (refWithin_any x.2.reserve 0 64 _).mono ?_; rintro _ w9 ⟨rfl, h4⟩; have hk := hK _ (St.call0 hst h4); simp only [Act.put, List.setIfInBounds_toArray, List.set_cons_zero, List.set_cons_succ] at hk; dsimp only; exact hk); (intro w5 hst5; replace hst := hst5; clear hst5; (try simp only [Act.put, List.setIfInBounds_toArray, List.set_cons_zero, List.set_cons_succ]); (repeat ((first | (show wpList _ _ _ (Oper.mk _ (.move _) _ _ _ none :: _) _ _; refine wl_mv rfl rfl rfl ?_) | (show wpList _ _ _ (Oper.mk _ (.pick _ _ _) _ _ _ none :: _) _ _; (first | (refine wl_pickOr rfl rfl rfl rfl rfl ?_; intro q hq) | (refine wl_pickAnd rfl rfl rfl rfl rfl ?_; intro q hq))) | (show wpList _ _ _ (Oper.mk _ (.pick _ _ _) _ _ _ (some _) :: _) _ _; (first | (refine wl_gpickOr rfl (by first | exact wanted_b rfl rfl | exact wanted_g rfl rfl) rfl rfl rfl ?_; intro q hq) | (refine wl_gpickAnd rfl (by first | exact wanted_b rfl rfl | exact wanted_g rfl rfl) rfl rfl rfl ?_; intro q hq))) | (show wpList _ _ _ (Oper.mk _ (.move _) _ _ _ (some _) :: _) _ _; refine wl_gmove rfl (by first | exact wanted_b rfl rfl | exact wanted_g rfl rfl) (by first | exact (fun hg => gvV_on hg) | exact (fun hg => gvV_gA hg) | exact (fun _ => rfl)) ?_)); (try simp only [Act.put, List.setIfInBounds_toArray, List.set_cons_zero, List.set_cons_succ]))))) | (show wpList _ _ _ (Oper.mk _ (.call (Call.mk (.value (.func 122)) _ _)) _ _ _ (some _) :: _) _ _; refine wl_gcall (v := .bool (inB x.2.own 1 2147483647)) hst (by first | exact wanted_b rfl rfl | exact wanted_g rfl rfl) ?_ ?_; (intro hg K hK; have Hg := hid hg; clear hg; go_simp; go_at_call 122; (try (conv => (arg 3; simp only [gvV_on Hg.out]))); refine (refWithin_any x.2.own 1 2147483647 _).mono ?_; rintro _ w9 ⟨rfl, h4⟩; have hk := hK _ (St.call0 hst h4); simp only [Act.put, List.setIfInBounds_toArray, List.set_cons_zero, List.set_cons_succ] at hk; dsimp only; exact hk); (intro w5 hst5; replace hst := hst5; clear hst5; (try simp only [Act.put, List.setIfInBounds_toArray, List.set_cons_zero, List.set_cons_succ]); (repeat ((first | (show wpList _ _ _ (Oper.mk _ (.move _) _ _ _ none :: _) _ _; refine wl_mv rfl rfl rfl ?_) | (show wpList _ _ _ (Oper.mk _ (.pick _ _ _) _ _ _ none :: _) _ _; (first | (refine wl_pickOr rfl rfl rfl rfl rfl ?_; intro q hq) | (refine wl_pickAnd rfl rfl rfl rfl rfl ?_; intro q hq))) | (show wpList _ _ _ (Oper.mk _ (.pick _ _ _) _ _ _ (some _) :: _) _ _; (first | (refine wl_gpickOr rfl (by first | exact wanted_b rfl rfl | exact wanted_g rfl rfl) rfl rfl rfl ?_; intro q hq) | (refine wl_gpickAnd rfl (by first | exact wanted_b rfl rfl | exact wanted_g rfl rfl) rfl rfl rfl ?_; intro q hq))) | (show wpList _ _ _ (Oper.mk _ (.move _) _ _ _ (some _) :: _) _ _; refine wl_gmove rfl (by first | exact wanted_b rfl rfl | exact wanted_g rfl rfl) (by first | exact (fun hg => gvV_on hg) | exact (fun hg => gvV_gA hg) | exact (fun _ => rfl)) ?_)); (try simp only [Act.put, List.setIfInBounds_toArray, List.set_cons_zero, List.set_cons_succ]))))) | (go_at_call 99; refine (refCheck_pv (x.2.pv x.1) _ (PV.In.old hst HX.out.1)).mono ?_; rw [← HK.out]; rintro _ w9 ⟨rfl, h4⟩; replace hst := St.call0 hst h4; clear h4; (try simp only [Act.put, List.setIfInBounds_toArray, List.set_cons_zero, List.set_cons_succ]); (repeat ((first | (show wpList _ _ _ (Oper.mk _ (.move _) _ _ _ none :: _) _ _; refine wl_mv rfl rfl rfl ?_) | (show wpList _ _ _ (Oper.mk _ (.pick _ _ _) _ _ _ none :: _) _ _; (first | (refine wl_pickOr rfl rfl rfl rfl rfl ?_; intro q hq) | (refine wl_pickAnd rfl rfl rfl rfl rfl ?_; intro q hq))) | (show wpList _ _ _ (Oper.mk _ (.pick _ _ _) _ _ _ (some _) :: _) _ _; (first | (refine wl_gpickOr rfl (by first | exact wanted_b rfl rfl | exact wanted_g rfl rfl) rfl rfl rfl ?_; intro q hq) | (refine wl_gpickAnd rfl (by first | exact wanted_b rfl rfl | exact wanted_g rfl rfl) rfl rfl rfl ?_; intro q hq))) | (show wpList _ _ _ (Oper.mk _ (.move _) _ _ _ (some _) :: _) _ _; refine wl_gmove rfl (by first | exact wanted_b rfl rfl | exact wanted_g rfl rfl) (by first | exact (fun hg => gvV_on hg) | exact (fun hg => gvV_gA hg) | exact (fun _ => rfl)) ?_)); (try simp only [Act.put, List.setIfInBounds_toArray, List.set_cons_zero, List.set_cons_succ])))) | (show wpList _ _ _ (Oper.mk _ (.call (Call.mk (.value (.func 100)) _ _)) _ _ _ (some _) :: _) _ _; refine wl_gcall (v := .bool (x.2.pv x.1).hole) hst (by first | exact wanted_b rfl rfl | exact wanted_g rfl rfl) ?_ ?_; (intro hg K hK; have Hg := hid hg; clear hg; go_simp; go_at_call 100; (try (conv => (arg 3; simp only [gvV_on Hg.out]))); refine (refHole_pv (x.2.pv x.1) _ (PV.In.old hst HX.out.1)).mono ?_; rintro _ w9 ⟨rfl, h4⟩; have hk := hK _ (St.call0 hst h4); simp only [Act.put, List.setIfInBounds_toArray, List.set_cons_zero, List.set_cons_succ] at hk; dsimp only; exact hk); (intro w5 hst5; replace hst := hst5; clear hst5; (try simp only [Act.put, List.setIfInBounds_toArray, List.set_cons_zero, List.set_cons_succ]); (repeat ((first | (show wpList _ _ _ (Oper.mk _ (.move _) _ _ _ none :: _) _ _; refine wl_mv rfl rfl rfl ?_) | (show wpList _ _ _ (Oper.mk _ (.pick _ _ _) _ _ _ none :: _) _ _; (first | (refine wl_pickOr rfl rfl rfl rfl rfl ?_; intro q hq) | (refine wl_pickAnd rfl rfl rfl rfl rfl ?_; intro q hq))) | (show wpList _ _ _ (Oper.mk _ (.pick _ _ _) _ _ _ (some _) :: _) _ _; (first | (refine wl_gpickOr rfl (by first | exact wanted_b rfl rfl | exact wanted_g rfl rfl) rfl rfl rfl ?_; intro q hq) | (refine wl_gpickAnd rfl (by first | exact wanted_b rfl rfl | exact wanted_g rfl rfl) rfl rfl rfl ?_; intro q hq))) | (show wpList _ _ _ (Oper.mk _ (.move _) _ _ _ (some _) :: _) _ _; refine wl_gmove rfl (by first | exact wanted_b rfl rfl | exact wanted_g rfl rfl) (by first | exact (fun hg => gvV_on hg) | exact (fun hg => gvV_gA hg) | exact (fun _ => rfl)) ?_)); (try simp only [Act.put, List.setIfInBounds_toArray, List.set_cons_zero, List.set_cons_succ]))))) | (go_at_call 100; refine (refHole_pv (x.2.pv x.1) _ (PV.In.old hst HX.out.1)).mono ?_; rintro _ w9 ⟨rfl, h4⟩; replace hst := St.call0 hst h4; clear h4; (try simp only [Act.put, List.setIfInBounds_toArray, List.set_cons_zero, List.set_cons_succ]); (repeat ((first | (show wpList _ _ _ (Oper.mk _ (.move _) _ _ _ none :: _) _ _; refine wl_mv rfl rfl rfl ?_) | (show wpList _ _ _ (Oper.mk _ (.pick _ _ _) _ _ _ none :: _) _ _; (first | (refine wl_pickOr rfl rfl rfl rfl rfl ?_; intro q hq) | (refine wl_pickAnd rfl rfl rfl rfl rfl ?_; intro q hq))) | (show wpList _ _ _ (Oper.mk _ (.pick _ _ _) _ _ _ (some _) :: _) _ _; (first | (refine wl_gpickOr rfl (by first | exact wanted_b rfl rfl | exact wanted_g rfl rfl) rfl rfl rfl ?_; intro q hq) | (refine wl_gpickAnd rfl (by first | exact wanted_b rfl rfl | exact wanted_g rfl rfl) rfl rfl rfl ?_; intro q hq))) | (show wpList _ _ _ (Oper.mk _ (.move _) _ _ _ (some _) :: _) _ _; refine wl_gmove rfl (by first | exact wanted_b rfl rfl | exact wanted_g rfl rfl) (by first | exact (fun hg => gvV_on hg) | exact (fun hg => gvV_gA hg) | exact (fun _ => rfl)) ?_)); (try simp only [Act.put, List.setIfInBounds_toArray, List.set_cons_zero, List.set_cons_succ])))) | (go_at_call 122; refine (refWithin_any x.2.id _ _ _).mono ?_; rintro _ w9 ⟨rfl, h4⟩; replace hst := St.call0 hst h4; clear h4; (try simp only [Act.put, List.setIfInBounds_toArray, List.set_cons_zero, List.set_cons_succ]); (repeat ((first | (show wpList _ _ _ (Oper.mk _ (.move _) _ _ _ none :: _) _ _; refine wl_mv rfl rfl rfl ?_) | (show wpList _ _ _ (Oper.mk _ (.pick _ _ _) _ _ _ none :: _) _ _; (first | (refine wl_pickOr rfl rfl rfl rfl rfl ?_; intro q hq) | (refine wl_pickAnd rfl rfl rfl rfl rfl ?_; intro q hq))) | (show wpList _ _ _ (Oper.mk _ (.pick _ _ _) _ _ _ (some _) :: _) _ _; (first | (refine wl_gpickOr rfl (by first | exact wanted_b rfl rfl | exact wanted_g rfl rfl) rfl rfl rfl ?_; intro q hq) | (refine wl_gpickAnd rfl (by first | exact wanted_b rfl rfl | exact wanted_g rfl rfl) rfl rfl rfl ?_; intro q hq))) | (show wpList _ _ _ (Oper.mk _ (.move _) _ _ _ (some _) :: _) _ _; refine wl_gmove rfl (by first | exact wanted_b rfl rfl | exact wanted_g rfl rfl) (by first | exact (fun hg => gvV_on hg) | exact (fun hg => gvV_gA hg) | exact (fun _ => rfl)) ?_)); (try simp only [Act.put, List.setIfInBounds_toArray, List.set_cons_zero, List.set_cons_succ])))) | (go_at_call 87; refine (refVolume_any x.2.name _ HX.out.2).mono ?_; rintro _ w9 ⟨rfl, h4⟩; replace hst := St.call0 hst h4; clear h4; (try simp only [Act.put, List.setIfInBounds_toArray, List.set_cons_zero, List.set_cons_succ]); (repeat ((first | (show wpList _ _ _ (Oper.mk _ (.move _) _ _ _ none :: _) _ _; refine wl_mv rfl rfl rfl ?_) | (show wpList _ _ _ (Oper.mk _ (.pick _ _ _) _ _ _ none :: _) _ _; (first | (refine wl_pickOr rfl rfl rfl rfl rfl ?_; intro q hq) | (refine wl_pickAnd rfl rfl rfl rfl rfl ?_; intro q hq))) | (show wpList _ _ _ (Oper.mk _ (.pick _ _ _) _ _ _ (some _) :: _) _ _; (first | (refine wl_gpickOr rfl (by first | exact wanted_b rfl rfl | exact wanted_g rfl rfl) rfl rfl rfl ?_; intro q hq) | (refine wl_gpickAnd rfl (by first | exact wanted_b rfl rfl | exact wanted_g rfl rfl) rfl rfl rfl ?_; intro q hq))) | (show wpList _ _ _ (Oper.mk _ (.move _) _ _ _ (some _) :: _) _ _; refine wl_gmove rfl (by first | exact wanted_b rfl rfl | exact wanted_g rfl rfl) (by first | exact (fun hg => gvV_on hg) | exact (fun hg => gvV_gA hg) | exact (fun _ => rfl)) ?_)); (try simp only [Act.put, List.setIfInBounds_toArray, List.set_cons_zero, List.set_cons_succ])))) | (go_at_call 92; refine (refSnap_any x.2.name _ HX.out.2).mono ?_; rintro _ w9 ⟨rfl, h4⟩; replace hst := St.call0 hst h4; clear h4; (try simp only [Act.put, List.setIfInBounds_toArray, List.set_cons_zero, List.set_cons_succ]); (repeat ((first | (show wpList _ _ _ (Oper.mk _ (.move _) _ _ _ none :: _) _ _; refine wl_mv rfl rfl rfl ?_) | (show wpList _ _ _ (Oper.mk _ (.pick _ _ _) _ _ _ none :: _) _ _; (first | (refine wl_pickOr rfl rfl rfl rfl rfl ?_; intro q hq) | (refine wl_pickAnd rfl rfl rfl rfl rfl ?_; intro q hq))) | (show wpList _ _ _ (Oper.mk _ (.pick _ _ _) _ _ _ (some _) :: _) _ _; (first | (refine wl_gpickOr rfl (by first | exact wanted_b rfl rfl | exact wanted_g rfl rfl) rfl rfl rfl ?_; intro q hq) | (refine wl_gpickAnd rfl (by first | exact wanted_b rfl rfl | exact wanted_g rfl rfl) rfl rfl rfl ?_; intro q hq))) | (show wpList _ _ _ (Oper.mk _ (.move _) _ _ _ (some _) :: _) _ _; refine wl_gmove rfl (by first | exact wanted_b rfl rfl | exact wanted_g rfl rfl) (by first | exact (fun hg => gvV_on hg) | exact (fun hg => gvV_gA hg) | exact (fun _ => rfl)) ?_)); (try simp only [Act.put, List.setIfInBounds_toArray, List.set_cons_zero, List.set_cons_succ])))))
    all_goals go_ret
    all_goals refine ⟨congrArg (fun z => Ending.returned (Value.bool z)) (?_ : (_ : Bool) = x.2.aloneB), hst.nil⟩
    all_goals
      have e := alone_eq x
      have e2 : (x.2.pv x.1).v = x.2.v := rfl
      have hk := HK.out
      clear HX HL H35 hst HK
      rw [e, RC.kindB, rootB_ref, e2, ← hk]
      simp only [hid_iff, bNot_eq, e2] at *
      clear e e2 hk
      (simp_all only [← Bool.not_and, ← Bool.not_or, bne, Bool.not_eq_true', Bool.not_eq_false', Bool.false_or, Bool.true_or, Bool.or_false, Bool.or_true, Bool.not_true, Bool.not_false, Bool.and_true, Bool.and_false, Bool.true_and, Bool.false_and, if_true, if_false, Bool.false_eq_true]) <;> rfl
end Go.Proofs.YtifajcblbedcoaaGreat
namespace Go.Proofs.YtifajcblbedcoaaGreat
set_option linter.unusedVariables false
set_option linter.unusedSimpArgs false
open Go.RowKit Hp
attribute [local irreducible] Go.Calls
set_option maxRecDepth 100000
set_option maxHeartbeats 4000000
attribute [local go_sem ↓] heldInt heldRecs heldStr heldRec
def bothB (next : Int) (l : List RC) (i : Nat) (r : RC) : Bool := eachB l i r && relB next l i r
theorem both_all (next : Int) (l : List RC) : allAt (bothB next l) l = (allAt (eachB l) l && allAt (relB next l) l) := by
  rw [Bool.eq_iff_iff, Bool.and_eq_true]
  constructor
  · intro h
    exact ⟨allAt_all fun i r hi => (Bool.and_eq_true_iff.1 (allAt_at h hi)).1, allAt_all fun i r hi => (Bool.and_eq_true_iff.1 (allAt_at h hi)).2⟩
  · rintro ⟨h1, h2⟩
    exact allAt_all fun i r hi => by unfold bothB; rw [allAt_at h1 hi, allAt_at h2 hi]; rfl
theorem records_any_r (t : TC) (lv : Value) (ar : Option Addr) (nr cr : Nat) (xs : List (Value × RC)) (w : World) (hR : RecsIn w (.slice ar nr cr) nr xs) (hb : nr ≤ 1000000) :
    Calls Tryz.prog 123 #[.agg (tabC t (.slice ar nr cr) lv).toArray] w fun e w' => e = .returned (.bool (allAt (bothB t.next (xs.map (·.2))) (xs.map (·.2)))) ∧ St w [] w' [] := by
  have hst0 := St.refl w
  have hcr : nr ≤ cr ∧ cr ≤ maxLen := by
    obtain ⟨_, ao', c0, he, hn, hcm, _⟩ := hR.rd
    cases he
    exact ⟨hn, hcm⟩
  have HR := hid hR
  clear hR
  obtain ⟨hc1, hc2⟩ := hcr
  unfold maxLen at hc2
  obtain ⟨E, hE⟩ : ∃ E, E = allAt (bothB t.next (xs.map (·.2))) (xs.map (·.2)) := ⟨_, rfl⟩
  rw [← hE]
  have HE := hid hE
  clear hE
  go_enter Tryz.func123, Tryz.ntmps123
  go_wp2_with (first | go_big_skip | go_big_guard | (refine wl_boxA hst0 rfl rfl rfl ?_; intro g1 w1 hst; clear hst0))
  go_loopw [3] (fun i wr => ∃ j : Nat, j ≤ nr ∧ i = .int .i64 (j : Int) ∧ St w [] wr [.blk g1 27 (tabC t (.slice ar nr cr) lv)] ∧ Hid (∀ i y, i < j → xs[i]? = some y → bothB t.next (xs.map (·.2)) i y.2 = true)) (fun i _ => nr - (intOf i).toNat)
  case atStart => exact ⟨0, Nat.zero_le _, rfl, hst, hid (fun i y hi _ => by omega)⟩
  case round =>
    clear hst
    obtain ⟨j, hj, rfl, hst, HP⟩ := hrel
    by_cases hlt : j < nr
    · have e1 : decide ((j : Int) < (nr : Int)) = true := decide_eq_true (by omega)
      have z1 : IntKind.i64.wrap ((j : Int) + 1) = (j : Int) + 1 := IntWalk.i64_in _ (by omega)
      obtain ⟨x, lb, lo, hxj, rfl, hin, hr⟩ := RecsIn.at HR.out hlt
      have HXJ := hid hxj
      have HIN := hid hin
      have HL := hid (cellsR_len hin.L)
      have HWR := hid hr
      clear hxj hin hr
      obtain ⟨q, hq⟩ : ∃ q, q = x.2.aloneB := ⟨_, rfl⟩
      have HQ := hid hq
      clear hq
      cases q
      · go_wp2_with (first | go_big_skip | go_big_guard | (refine wl_loadE rfl rfl rfl ?_; first | refine ⟨_, Loads.at [] hst rfl, ?_⟩) | (refine wl_index rfl rfl rfl rfl hlt ?_) | (refine wl_loadE rfl rfl rfl ?_; first | refine ⟨_, Loads.oldA (cs := cellsR x) hst HL.out HWR.out, ?_⟩) | (refine wl_alloc hst rfl rfl ?_; intro gx w2 hst2; clear hst) | (refine wl_storeA [] hst2 rfl rfl rfl rfl (by exact HL.out) (cellsR_ones HIN.out) rfl ?_; intro w3 hst3; clear hst2))
        have hX := hst3.drew
        clear hst3
        refine wp_region_held_drew (S := (fun w' => (loadVarH 53 ⟨gx, 0, none⟩).run Tryz.prog w' = .ok (.agg (List.toArray (cellsR x))) w' ∧ (loadVarH 3 ⟨gx, 0, none⟩).run Tryz.prog w' = .ok (.int .i64 x.2.id) w' ∧ (loadVarH 3 ⟨g1, 0, none⟩).run Tryz.prog w' = .ok (.int .i64 t.next) w')) (by kernel_rfl) (by exact ⟨ldA (cellsR x) [] hX (HL.out) (by simp), ldS [] hX rfl, ldS [_] hX rfl⟩) (fun hHeld => ?_)
        refine tq 0 18 ?_
        refine wpAnyH_ready (rs := [1]) (by kernel_rfl) (by simp) ?_
        refine (AllReadyH.cons (o := ⟨some 19, _, _, _, _, _⟩) rfl (fun K hK => ?_) AllReadyH.nil)
        rw [if_pos (by rfl)]
        go_simp
        go_at_call 135
        refine (may_any_r x _ (RC.In.old hX HIN.out)).mono ?_
        rw [← HQ.out]
        rintro _ w4 ⟨rfl, h4⟩
        have hA1 := St.call0 hX h4
        clear h4
        refine hK.out _ _ ?_ (fun hHeld => ?_)
        · exact ⟨ldA (cellsR x) [] hA1 (HL.out) (by simp), ldS [] hA1 rfl, ldS [_] hA1 rfl⟩
        clear hK K
        (try simp only [Act.put, List.setIfInBounds_toArray, List.set_cons_zero, List.set_cons_succ])
        refine tq 2 20 ?_
        refine tq 3 21 ?_
        refine tu 4 22 ?_
        refine tu 6 24 ?_
        refine tu 5 23 ?_
        refine tu 7 25 ?_
        refine tu 8 26 ?_
        refine tq 9 27 ?_
        refine tq 10 28 ?_
        refine tu 11 29 ?_
        refine tu 12 30 ?_
        refine tu 13 31 ?_
        refine tu 14 32 ?_
        refine tu 16 34 ?_
        refine tu 21 39 ?_
        refine tu 15 33 ?_
        refine tu 17 35 ?_
        refine tu 22 40 ?_
        refine tu 18 36 ?_
        refine tu 19 37 ?_
        refine tu 20 38 ?_
        refine wpAnyH_ready (rs := [23]) (by kernel_rfl) (by simp) ?_
        refine (AllReadyH.cons (o := ⟨some 41, _, _, _, _, _⟩) rfl (fun K hK => ?_) AllReadyH.nil)
        rw [if_neg (by rw [show Region.wanted _ _ = false from rfl]; exact Bool.false_ne_true)]
        refine hK.out _ _ ?_ (fun hHeld => ?_)
        · exact ⟨ldA (cellsR x) [] hA1 (HL.out) (by simp), ldS [] hA1 rfl, ldS [_] hA1 rfl⟩
        clear hK K
        (try simp only [Act.put, List.setIfInBounds_toArray, List.set_cons_zero, List.set_cons_succ])
        refine tu 24 42 ?_
        refine tu 25 43 ?_
        refine tq 26 44 ?_
        refine wpAnyH_done (by kernel_rfl) ?_ _
        clear hHeld
        have hv : E = false := by rw [HE.out]; exact allAt_no (map_at HXJ.out) (by unfold bothB eachB relB; rw [← HQ.out]; rfl)
        have HV := hid hv
        clear hv
        go_wp2_with (first | go_big_skip | go_big_guard | fail)
        go_ret
        exact ⟨by have h := HV.out; subst h; rfl, hA1.nil⟩
      · by_cases k2 : x.2.id < t.next
        · have d3 : decide (x.2.id ≥ t.next) = false := decide_eq_false (by omega)
          have d4 : decide (t.next ≤ x.2.id) = false := d3
          have HLT := hid (decide_eq_true k2)
          clear k2
          by_cases k3 : j = 0
          · have z7 : decide (0 < j) = false := decide_eq_false (by omega)
            have z4 : decide ((0 : Int) < (j : Int)) = false := decide_eq_false (by omega)
            have z5 : decide ((j : Int) > 0) = false := z4
            have HJ := hid k3
            clear k3
            go_wp2_with (first | go_big_skip | go_big_guard | (refine wl_loadE rfl rfl rfl ?_; first | refine ⟨_, Loads.at [] hst rfl, ?_⟩) | (refine wl_index rfl rfl rfl rfl hlt ?_) | (refine wl_loadE rfl rfl rfl ?_; first | refine ⟨_, Loads.oldA (cs := cellsR x) hst HL.out HWR.out, ?_⟩) | (refine wl_alloc hst rfl rfl ?_; intro gx w2 hst2; clear hst) | (refine wl_storeA [] hst2 rfl rfl rfl rfl (by exact HL.out) (cellsR_ones HIN.out) rfl ?_; intro w3 hst3; clear hst2))
            have hX := hst3.drew
            clear hst3
            refine wp_region_held_drew (S := (fun w' => (loadVarH 53 ⟨gx, 0, none⟩).run Tryz.prog w' = .ok (.agg (List.toArray (cellsR x))) w' ∧ (loadVarH 3 ⟨gx, 0, none⟩).run Tryz.prog w' = .ok (.int .i64 x.2.id) w' ∧ (loadVarH 3 ⟨g1, 0, none⟩).run Tryz.prog w' = .ok (.int .i64 t.next) w')) (by kernel_rfl) (by exact ⟨ldA (cellsR x) [] hX (HL.out) (by simp), ldS [] hX rfl, ldS [_] hX rfl⟩) (fun hHeld => ?_)
            refine tq 0 18 ?_
            refine wpAnyH_ready (rs := [1]) (by kernel_rfl) (by simp) ?_
            refine (AllReadyH.cons (o := ⟨some 19, _, _, _, _, _⟩) rfl (fun K hK => ?_) AllReadyH.nil)
            rw [if_pos (by rfl)]
            go_simp
            go_at_call 135
            refine (may_any_r x _ (RC.In.old hX HIN.out)).mono ?_
            rw [← HQ.out]
            rintro _ w4 ⟨rfl, h4⟩
            have hA1 := St.call0 hX h4
            clear h4
            refine hK.out _ _ ?_ (fun hHeld => ?_)
            · exact ⟨ldA (cellsR x) [] hA1 (HL.out) (by simp), ldS [] hA1 rfl, ldS [_] hA1 rfl⟩
            clear hK K
            (try simp only [Act.put, List.setIfInBounds_toArray, List.set_cons_zero, List.set_cons_succ])
            refine tq 2 20 ?_
            refine tq 3 21 ?_
            refine tq 4 22 ?_
            refine tq 6 24 ?_
            refine tq 5 23 ?_
            refine tq 7 25 ?_
            refine tq 8 26 ?_
            refine tq 9 27 ?_
            refine tq 10 28 ?_
            refine tq 11 29 ?_
            refine tq 12 30 ?_
            refine tq 13 31 ?_
            refine tu 14 32 ?_
            refine tu 16 34 ?_
            refine tu 21 39 ?_
            refine tu 15 33 ?_
            refine tu 17 35 ?_
            refine tu 22 40 ?_
            refine tu 18 36 ?_
            refine tu 19 37 ?_
            refine tu 20 38 ?_
            refine wpAnyH_ready (rs := [23]) (by kernel_rfl) (by simp) ?_
            refine (AllReadyH.cons (o := ⟨some 41, _, _, _, _, _⟩) rfl (fun K hK => ?_) AllReadyH.nil)
            rw [if_neg (by rw [show Region.wanted _ _ = false from rfl]; exact Bool.false_ne_true)]
            refine hK.out _ _ ?_ (fun hHeld => ?_)
            · exact ⟨ldA (cellsR x) [] hA1 (HL.out) (by simp), ldS [] hA1 rfl, ldS [_] hA1 rfl⟩
            clear hK K
            (try simp only [Act.put, List.setIfInBounds_toArray, List.set_cons_zero, List.set_cons_succ])
            refine tu 24 42 ?_
            refine tq 25 43 ?_
            refine tq 26 44 ?_
            refine wpAnyH_done (by kernel_rfl) ?_ _
            clear hHeld
            go_wp2_with (first | go_big_skip | go_big_guard | fail)
            go_loopw [5] (fun i wr => ∃ m : Nat, m ≤ j ∧ i = .int .i64 (m : Int) ∧ St w [] wr [.blk gx 53 (cellsR x), .blk g1 27 (tabC t (.slice (some ⟨lb, lo, none⟩) nr cr) lv)] ∧ Hid (((xs.take m).map (·.2)).any (fun y => y.id == x.2.id) = false)) (fun i _ => j - (intOf i).toNat)
            case atStart => exact ⟨0, Nat.zero_le _, rfl, hA1, hid rfl⟩
            case round =>
              clear hA1
              obtain ⟨m, hm, rfl, hsm, HM⟩ := hrel
              by_cases hmj : m < j
              · have f1 : decide ((m : Int) < (j : Int)) = true := decide_eq_true (by omega)
                have y1 : IntKind.i64.wrap ((m : Int) + 1) = (m : Int) + 1 := IntWalk.i64_in _ (by omega)
                have hltm : m < nr := by omega
                obtain ⟨z, b', o', hz', he, hinz, hrz⟩ := RecsIn.at HR.out hltm
                cases he
                have HZ := hid hz'
                have HZI := hid (show w.cell? ⟨lb, lo + m * 44, none⟩ = some (.int .i64 z.2.id) from hrz 0 _ rfl)
                clear hz' hinz hrz
                cases c1 : (z.2.id == x.2.id)
                · go_wp2_with (first | go_big_skip | go_big_guard | fail)
                  have hY := hsm.drew
                  clear hsm
                  refine wp_region_held_drew (S := (fun w' => (loadVarH 22 ⟨g1, 1, none⟩).run Tryz.prog w' = .ok (.slice (some ⟨lb, lo, none⟩) nr cr) w' ∧ (loadVarH 3 ⟨gx, 0, none⟩).run Tryz.prog w' = .ok (.int .i64 x.2.id) w' ∧ (loadVarH 3 ⟨lb, lo + m * 44, none⟩).run Tryz.prog w' = .ok (.int .i64 z.2.id) w')) (by kernel_rfl) (by exact ⟨ldS [_] hY rfl, ldS [] hY rfl, ldO hY (HZI.out)⟩) (fun hHeld => ?_)
                  refine tq 0 50 ?_
                  refine tq 2 52 ?_
                  refine tq 6 56 ?_
                  refine tq 1 51 ?_
                  refine tq 7 57 ?_
                  refine tq 3 53 ?_
                  refine tq 4 54 ?_
                  refine tq 5 55 ?_
                  refine tq 8 58 ?_
                  refine wpAnyH_done (by kernel_rfl) ?_ _
                  clear hHeld
                  go_wp2_with (first | go_big_skip | go_big_guard | fail)
                  go_roundw
                  case rel => exact ⟨m + 1, by omega, rfl, hY, hid (by rw [any_step HZ.out, HM.out, c1]; rfl)⟩
                  case measure => simp [intOf]; omega
                · go_wp2_with (first | go_big_skip | go_big_guard | fail)
                  have hY := hsm.drew
                  clear hsm
                  refine wp_region_held_drew (S := (fun w' => (loadVarH 22 ⟨g1, 1, none⟩).run Tryz.prog w' = .ok (.slice (some ⟨lb, lo, none⟩) nr cr) w' ∧ (loadVarH 3 ⟨gx, 0, none⟩).run Tryz.prog w' = .ok (.int .i64 x.2.id) w' ∧ (loadVarH 3 ⟨lb, lo + m * 44, none⟩).run Tryz.prog w' = .ok (.int .i64 z.2.id) w')) (by kernel_rfl) (by exact ⟨ldS [_] hY rfl, ldS [] hY rfl, ldO hY (HZI.out)⟩) (fun hHeld => ?_)
                  refine tq 0 50 ?_
                  refine tq 2 52 ?_
                  refine tq 6 56 ?_
                  refine tq 1 51 ?_
                  refine tq 7 57 ?_
                  refine tq 3 53 ?_
                  refine tq 4 54 ?_
                  refine tq 5 55 ?_
                  refine tq 8 58 ?_
                  refine wpAnyH_done (by kernel_rfl) ?_ _
                  clear hHeld
                  have hv : E = false := by rw [HE.out]; exact allAt_no (map_at HXJ.out) (by unfold bothB eachB relB; rw [List.any_eq_true.2 ⟨z.2, by rw [← List.map_take]; exact List.mem_map_of_mem (List.mem_take_iff_getElem.2 ⟨m, by have := HR.out.len; omega, (List.getElem?_eq_some_iff.1 HZ.out).2⟩), c1⟩]; simp)
                  have HV := hid hv
                  clear hv
                  go_wp2_with (first | go_big_skip | go_big_guard | fail)
                  go_ret
                  exact ⟨by have h := HV.out; subst h; rfl, hY.nil⟩
              · have f1 : decide ((m : Int) < (j : Int)) = false := decide_eq_false (by omega)
                obtain rfl : m = j := by omega
                obtain ⟨c, hc⟩ : ∃ c, c = kinB (xs.map (·.2)) x.2 := ⟨_, rfl⟩
                have HK := hid hc
                have HRE := hid (show relB t.next (xs.map (·.2)) m x.2 = c by unfold relB; rw [← List.map_take, HM.out, HLT.out, hc]; rfl)
                clear hc
                cases c
                · have hv : E = false := by rw [HE.out]; exact allAt_no (map_at HXJ.out) (by unfold bothB; rw [HRE.out, Bool.and_false])
                  have HV := hid hv
                  clear hv
                  go_wp2_with (first | go_big_skip | go_big_guard | (refine wl_loadE rfl rfl rfl ?_; first | refine ⟨_, Loads.atA (tabC t (.slice (some ⟨lb, lo, none⟩) nr cr) lv) [_] hsm rfl rfl, ?_⟩ | refine ⟨_, Loads.atA (cellsR x) [] hsm HL.out (by simp), ?_⟩) | (go_at_call 136; refine (kin_any_r t lv (some ⟨lb, lo, none⟩) nr cr xs _ (HR.out.old hsm) hb x (RC.In.old hsm HIN.out)).mono ?_; rw [← HK.out]; rintro _ w9 ⟨rfl, h4⟩; replace hsm := St.call0 hsm h4; clear h4))
                  go_ret
                  exact ⟨by have h := HV.out; subst h; rfl, hsm.nil⟩
                · go_wp2_with (first | go_big_skip | go_big_guard | (refine wl_loadE rfl rfl rfl ?_; first | refine ⟨_, Loads.atA (tabC t (.slice (some ⟨lb, lo, none⟩) nr cr) lv) [_] hsm rfl rfl, ?_⟩ | refine ⟨_, Loads.atA (cellsR x) [] hsm HL.out (by simp), ?_⟩) | (go_at_call 136; refine (kin_any_r t lv (some ⟨lb, lo, none⟩) nr cr xs _ (HR.out.old hsm) hb x (RC.In.old hsm HIN.out)).mono ?_; rw [← HK.out]; rintro _ w9 ⟨rfl, h4⟩; replace hsm := St.call0 hsm h4; clear h4))
                  go_roundw
                  case rel => exact ⟨m + 1, by omega, rfl, St.drop (L1 := []) hsm, hid (all_steps HP.out HXJ.out (by unfold bothB eachB; rw [HRE.out, ← HQ.out, (show lessAt (xs.map (·.2)) m x.2 = true by rw [HJ.out]; rfl)]; rfl))⟩
                  case measure => simp [intOf]; omega
          · obtain ⟨k, hk⟩ : ∃ k, j = k + 1 := ⟨j - 1, by omega⟩
            obtain ⟨y, b', o', hy', he, hiny, hry⟩ := RecsIn.at HR.out (k := k) (by omega)
            cases he
            have HYK := hid hy'
            have HINY := hid hiny
            have HY := hid (show w.cell? ⟨lb, lo + k * 44 + 1, none⟩ = some (.string ⟨y.2.name.toArray⟩) from hry 1 _ rfl)
            clear hy' hiny hry
            have z2 : IntKind.i64.wrap ((j : Int) - 1) = (k : Int) := by rw [IntWalk.i64_in _ (by omega)]; omega
            have z6 : IntKind.i64.wrap (k : Int) = (k : Int) := IntWalk.i64_in _ (by omega)
            have z7 : decide (0 < j) = true := decide_eq_true (by omega)
            have z4 : decide ((0 : Int) < (j : Int)) = true := decide_eq_true (by omega)
            have z5 : decide ((j : Int) > 0) = true := z4
            have hltk : k < nr := by omega
            obtain ⟨r, hr⟩ : ∃ r, r = lessL y.2.name x.2.name := ⟨_, rfl⟩
            have HLE := hid hr
            have HLA := hid (show lessAt (xs.map (·.2)) j x.2 = lessL y.2.name x.2.name by rw [hk]; exact less_at HYK.out)
            clear hr hk k3
            cases r
            · go_wp2_with (first | go_big_skip | go_big_guard | (refine wl_loadE rfl rfl rfl ?_; first | refine ⟨_, Loads.at [] hst rfl, ?_⟩) | (refine wl_index rfl rfl rfl rfl hlt ?_) | (refine wl_loadE rfl rfl rfl ?_; first | refine ⟨_, Loads.oldA (cs := cellsR x) hst HL.out HWR.out, ?_⟩) | (refine wl_alloc hst rfl rfl ?_; intro gx w2 hst2; clear hst) | (refine wl_storeA [] hst2 rfl rfl rfl rfl (by exact HL.out) (cellsR_ones HIN.out) rfl ?_; intro w3 hst3; clear hst2))
              have hX := hst3.drew
              clear hst3
              refine wp_region_held_drew (S := (fun w' => (loadVarH 53 ⟨gx, 0, none⟩).run Tryz.prog w' = .ok (.agg (List.toArray (cellsR x))) w' ∧ (loadVarH 3 ⟨gx, 0, none⟩).run Tryz.prog w' = .ok (.int .i64 x.2.id) w' ∧ (loadVarH 3 ⟨g1, 0, none⟩).run Tryz.prog w' = .ok (.int .i64 t.next) w' ∧ (loadVarH 22 ⟨g1, 1, none⟩).run Tryz.prog w' = .ok (.slice (some ⟨lb, lo, none⟩) nr cr) w' ∧ (loadVarH 9 ⟨gx, 1, none⟩).run Tryz.prog w' = .ok (.string ⟨x.2.name.toArray⟩) w' ∧ (loadVarH 9 ⟨lb, lo + k * 44 + 1, none⟩).run Tryz.prog w' = .ok (.string ⟨y.2.name.toArray⟩) w')) (by kernel_rfl) (by exact ⟨ldA (cellsR x) [] hX (HL.out) (by simp), ldS [] hX rfl, ldS [_] hX rfl, ldS [_] hX rfl, ldS [] hX rfl, ldO hX (HY.out)⟩) (fun hHeld => ?_)
              refine tq 0 18 ?_
              refine wpAnyH_ready (rs := [1]) (by kernel_rfl) (by simp) ?_
              refine (AllReadyH.cons (o := ⟨some 19, _, _, _, _, _⟩) rfl (fun K hK => ?_) AllReadyH.nil)
              rw [if_pos (by rfl)]
              go_simp
              go_at_call 135
              refine (may_any_r x _ (RC.In.old hX HIN.out)).mono ?_
              rw [← HQ.out]
              rintro _ w4 ⟨rfl, h4⟩
              have hA1 := St.call0 hX h4
              clear h4
              refine hK.out _ _ ?_ (fun hHeld => ?_)
              · exact ⟨ldA (cellsR x) [] hA1 (HL.out) (by simp), ldS [] hA1 rfl, ldS [_] hA1 rfl, ldS [_] hA1 rfl, ldS [] hA1 rfl, ldO hA1 (HY.out)⟩
              clear hK K
              (try simp only [Act.put, List.setIfInBounds_toArray, List.set_cons_zero, List.set_cons_succ])
              refine tq 2 20 ?_
              refine tq 3 21 ?_
              refine tq 4 22 ?_
              refine tq 6 24 ?_
              refine tq 5 23 ?_
              refine tq 7 25 ?_
              refine tq 8 26 ?_
              refine tq 9 27 ?_
              refine tq 10 28 ?_
              refine tq 11 29 ?_
              refine tq 12 30 ?_
              refine tq 13 31 ?_
              refine tq 14 32 ?_
              refine tq 16 34 ?_
              refine tq 21 39 ?_
              refine tq 15 33 ?_
              refine tq 17 35 ?_
              refine tq 22 40 ?_
              refine tq 18 36 ?_
              refine tq 19 37 ?_
              refine tq 20 38 ?_
              refine wpAnyH_ready (rs := [23]) (by kernel_rfl) (by simp) ?_
              refine (AllReadyH.cons (o := ⟨some 41, _, _, _, _, _⟩) rfl (fun K hK => ?_) AllReadyH.nil)
              rw [if_pos (by rfl)]
              go_simp
              go_at_call 127
              refine (refLess_any y.2.name x.2.name _ HINY.out.2 HIN.out.2).mono ?_
              rw [← HLE.out]
              rintro _ w5 ⟨rfl, h4⟩
              have hA2 := St.call0 hA1 h4
              clear h4
              refine hK.out _ _ ?_ (fun hHeld => ?_)
              · exact ⟨ldA (cellsR x) [] hA2 (HL.out) (by simp), ldS [] hA2 rfl, ldS [_] hA2 rfl, ldS [_] hA2 rfl, ldS [] hA2 rfl, ldO hA2 (HY.out)⟩
              clear hK K
              (try simp only [Act.put, List.setIfInBounds_toArray, List.set_cons_zero, List.set_cons_succ])
              refine tq 24 42 ?_
              refine tq 25 43 ?_
              refine tq 26 44 ?_
              refine wpAnyH_done (by kernel_rfl) ?_ _
              clear hHeld
              have hv : E = false := by rw [HE.out]; exact allAt_no (map_at HXJ.out) (by unfold bothB eachB relB; rw [HLA.out, ← HLE.out]; simp)
              have HV := hid hv
              clear hv
              go_wp2_with (first | go_big_skip | go_big_guard | fail)
              go_ret
              exact ⟨by have h := HV.out; subst h; rfl, hA2.nil⟩
            · go_wp2_with (first | go_big_skip | go_big_guard | (refine wl_loadE rfl rfl rfl ?_; first | refine ⟨_, Loads.at [] hst rfl, ?_⟩) | (refine wl_index rfl rfl rfl rfl hlt ?_) | (refine wl_loadE rfl rfl rfl ?_; first | refine ⟨_, Loads.oldA (cs := cellsR x) hst HL.out HWR.out, ?_⟩) | (refine wl_alloc hst rfl rfl ?_; intro gx w2 hst2; clear hst) | (refine wl_storeA [] hst2 rfl rfl rfl rfl (by exact HL.out) (cellsR_ones HIN.out) rfl ?_; intro w3 hst3; clear hst2))
              have hX := hst3.drew
              clear hst3
              refine wp_region_held_drew (S := (fun w' => (loadVarH 53 ⟨gx, 0, none⟩).run Tryz.prog w' = .ok (.agg (List.toArray (cellsR x))) w' ∧ (loadVarH 3 ⟨gx, 0, none⟩).run Tryz.prog w' = .ok (.int .i64 x.2.id) w' ∧ (loadVarH 3 ⟨g1, 0, none⟩).run Tryz.prog w' = .ok (.int .i64 t.next) w' ∧ (loadVarH 22 ⟨g1, 1, none⟩).run Tryz.prog w' = .ok (.slice (some ⟨lb, lo, none⟩) nr cr) w' ∧ (loadVarH 9 ⟨gx, 1, none⟩).run Tryz.prog w' = .ok (.string ⟨x.2.name.toArray⟩) w' ∧ (loadVarH 9 ⟨lb, lo + k * 44 + 1, none⟩).run Tryz.prog w' = .ok (.string ⟨y.2.name.toArray⟩) w')) (by kernel_rfl) (by exact ⟨ldA (cellsR x) [] hX (HL.out) (by simp), ldS [] hX rfl, ldS [_] hX rfl, ldS [_] hX rfl, ldS [] hX rfl, ldO hX (HY.out)⟩) (fun hHeld => ?_)
              refine tq 0 18 ?_
              refine wpAnyH_ready (rs := [1]) (by kernel_rfl) (by simp) ?_
              refine (AllReadyH.cons (o := ⟨some 19, _, _, _, _, _⟩) rfl (fun K hK => ?_) AllReadyH.nil)
              rw [if_pos (by rfl)]
              go_simp
              go_at_call 135
              refine (may_any_r x _ (RC.In.old hX HIN.out)).mono ?_
              rw [← HQ.out]
              rintro _ w4 ⟨rfl, h4⟩
              have hA1 := St.call0 hX h4
              clear h4
              refine hK.out _ _ ?_ (fun hHeld => ?_)
              · exact ⟨ldA (cellsR x) [] hA1 (HL.out) (by simp), ldS [] hA1 rfl, ldS [_] hA1 rfl, ldS [_] hA1 rfl, ldS [] hA1 rfl, ldO hA1 (HY.out)⟩
              clear hK K
              (try simp only [Act.put, List.setIfInBounds_toArray, List.set_cons_zero, List.set_cons_succ])
              refine tq 2 20 ?_
              refine tq 3 21 ?_
              refine tq 4 22 ?_
              refine tq 6 24 ?_
              refine tq 5 23 ?_
              refine tq 7 25 ?_
              refine tq 8 26 ?_
              refine tq 9 27 ?_
              refine tq 10 28 ?_
              refine tq 11 29 ?_
              refine tq 12 30 ?_
              refine tq 13 31 ?_
              refine tq 14 32 ?_
              refine tq 16 34 ?_
              refine tq 21 39 ?_
              refine tq 15 33 ?_
              refine tq 17 35 ?_
              refine tq 22 40 ?_
              refine tq 18 36 ?_
              refine tq 19 37 ?_
              refine tq 20 38 ?_
              refine wpAnyH_ready (rs := [23]) (by kernel_rfl) (by simp) ?_
              refine (AllReadyH.cons (o := ⟨some 41, _, _, _, _, _⟩) rfl (fun K hK => ?_) AllReadyH.nil)
              rw [if_pos (by rfl)]
              go_simp
              go_at_call 127
              refine (refLess_any y.2.name x.2.name _ HINY.out.2 HIN.out.2).mono ?_
              rw [← HLE.out]
              rintro _ w5 ⟨rfl, h4⟩
              have hA2 := St.call0 hA1 h4
              clear h4
              refine hK.out _ _ ?_ (fun hHeld => ?_)
              · exact ⟨ldA (cellsR x) [] hA2 (HL.out) (by simp), ldS [] hA2 rfl, ldS [_] hA2 rfl, ldS [_] hA2 rfl, ldS [] hA2 rfl, ldO hA2 (HY.out)⟩
              clear hK K
              (try simp only [Act.put, List.setIfInBounds_toArray, List.set_cons_zero, List.set_cons_succ])
              refine tq 24 42 ?_
              refine tq 25 43 ?_
              refine tq 26 44 ?_
              refine wpAnyH_done (by kernel_rfl) ?_ _
              clear hHeld
              go_wp2_with (first | go_big_skip | go_big_guard | fail)
              go_loopw [5] (fun i wr => ∃ m : Nat, m ≤ j ∧ i = .int .i64 (m : Int) ∧ St w [] wr [.blk gx 53 (cellsR x), .blk g1 27 (tabC t (.slice (some ⟨lb, lo, none⟩) nr cr) lv)] ∧ Hid (((xs.take m).map (·.2)).any (fun y => y.id == x.2.id) = false)) (fun i _ => j - (intOf i).toNat)
              case atStart => exact ⟨0, Nat.zero_le _, rfl, hA2, hid rfl⟩
              case round =>
                clear hA2
                obtain ⟨m, hm, rfl, hsm, HM⟩ := hrel
                by_cases hmj : m < j
                · have f1 : decide ((m : Int) < (j : Int)) = true := decide_eq_true (by omega)
                  have y1 : IntKind.i64.wrap ((m : Int) + 1) = (m : Int) + 1 := IntWalk.i64_in _ (by omega)
                  have hltm : m < nr := by omega
                  obtain ⟨z, b', o', hz', he, hinz, hrz⟩ := RecsIn.at HR.out hltm
                  cases he
                  have HZ := hid hz'
                  have HZI := hid (show w.cell? ⟨lb, lo + m * 44, none⟩ = some (.int .i64 z.2.id) from hrz 0 _ rfl)
                  clear hz' hinz hrz
                  cases c1 : (z.2.id == x.2.id)
                  · go_wp2_with (first | go_big_skip | go_big_guard | fail)
                    have hY := hsm.drew
                    clear hsm
                    refine wp_region_held_drew (S := (fun w' => (loadVarH 22 ⟨g1, 1, none⟩).run Tryz.prog w' = .ok (.slice (some ⟨lb, lo, none⟩) nr cr) w' ∧ (loadVarH 3 ⟨gx, 0, none⟩).run Tryz.prog w' = .ok (.int .i64 x.2.id) w' ∧ (loadVarH 3 ⟨lb, lo + m * 44, none⟩).run Tryz.prog w' = .ok (.int .i64 z.2.id) w')) (by kernel_rfl) (by exact ⟨ldS [_] hY rfl, ldS [] hY rfl, ldO hY (HZI.out)⟩) (fun hHeld => ?_)
                    refine tq 0 50 ?_
                    refine tq 2 52 ?_
                    refine tq 6 56 ?_
                    refine tq 1 51 ?_
                    refine tq 7 57 ?_
                    refine tq 3 53 ?_
                    refine tq 4 54 ?_
                    refine tq 5 55 ?_
                    refine tq 8 58 ?_
                    refine wpAnyH_done (by kernel_rfl) ?_ _
                    clear hHeld
                    go_wp2_with (first | go_big_skip | go_big_guard | fail)
                    go_roundw
                    case rel => exact ⟨m + 1, by omega, rfl, hY, hid (by rw [any_step HZ.out, HM.out, c1]; rfl)⟩
                    case measure => simp [intOf]; omega
                  · go_wp2_with (first | go_big_skip | go_big_guard | fail)
                    have hY := hsm.drew
                    clear hsm
                    refine wp_region_held_drew (S := (fun w' => (loadVarH 22 ⟨g1, 1, none⟩).run Tryz.prog w' = .ok (.slice (some ⟨lb, lo, none⟩) nr cr) w' ∧ (loadVarH 3 ⟨gx, 0, none⟩).run Tryz.prog w' = .ok (.int .i64 x.2.id) w' ∧ (loadVarH 3 ⟨lb, lo + m * 44, none⟩).run Tryz.prog w' = .ok (.int .i64 z.2.id) w')) (by kernel_rfl) (by exact ⟨ldS [_] hY rfl, ldS [] hY rfl, ldO hY (HZI.out)⟩) (fun hHeld => ?_)
                    refine tq 0 50 ?_
                    refine tq 2 52 ?_
                    refine tq 6 56 ?_
                    refine tq 1 51 ?_
                    refine tq 7 57 ?_
                    refine tq 3 53 ?_
                    refine tq 4 54 ?_
                    refine tq 5 55 ?_
                    refine tq 8 58 ?_
                    refine wpAnyH_done (by kernel_rfl) ?_ _
                    clear hHeld
                    have hv : E = false := by rw [HE.out]; exact allAt_no (map_at HXJ.out) (by unfold bothB eachB relB; rw [List.any_eq_true.2 ⟨z.2, by rw [← List.map_take]; exact List.mem_map_of_mem (List.mem_take_iff_getElem.2 ⟨m, by have := HR.out.len; omega, (List.getElem?_eq_some_iff.1 HZ.out).2⟩), c1⟩]; simp)
                    have HV := hid hv
                    clear hv
                    go_wp2_with (first | go_big_skip | go_big_guard | fail)
                    go_ret
                    exact ⟨by have h := HV.out; subst h; rfl, hY.nil⟩
                · have f1 : decide ((m : Int) < (j : Int)) = false := decide_eq_false (by omega)
                  obtain rfl : m = j := by omega
                  obtain ⟨c, hc⟩ : ∃ c, c = kinB (xs.map (·.2)) x.2 := ⟨_, rfl⟩
                  have HK := hid hc
                  have HRE := hid (show relB t.next (xs.map (·.2)) m x.2 = c by unfold relB; rw [← List.map_take, HM.out, HLT.out, hc]; rfl)
                  clear hc
                  cases c
                  · have hv : E = false := by rw [HE.out]; exact allAt_no (map_at HXJ.out) (by unfold bothB; rw [HRE.out, Bool.and_false])
                    have HV := hid hv
                    clear hv
                    go_wp2_with (first | go_big_skip | go_big_guard | (refine wl_loadE rfl rfl rfl ?_; first | refine ⟨_, Loads.atA (tabC t (.slice (some ⟨lb, lo, none⟩) nr cr) lv) [_] hsm rfl rfl, ?_⟩ | refine ⟨_, Loads.atA (cellsR x) [] hsm HL.out (by simp), ?_⟩) | (go_at_call 136; refine (kin_any_r t lv (some ⟨lb, lo, none⟩) nr cr xs _ (HR.out.old hsm) hb x (RC.In.old hsm HIN.out)).mono ?_; rw [← HK.out]; rintro _ w9 ⟨rfl, h4⟩; replace hsm := St.call0 hsm h4; clear h4))
                    go_ret
                    exact ⟨by have h := HV.out; subst h; rfl, hsm.nil⟩
                  · go_wp2_with (first | go_big_skip | go_big_guard | (refine wl_loadE rfl rfl rfl ?_; first | refine ⟨_, Loads.atA (tabC t (.slice (some ⟨lb, lo, none⟩) nr cr) lv) [_] hsm rfl rfl, ?_⟩ | refine ⟨_, Loads.atA (cellsR x) [] hsm HL.out (by simp), ?_⟩) | (go_at_call 136; refine (kin_any_r t lv (some ⟨lb, lo, none⟩) nr cr xs _ (HR.out.old hsm) hb x (RC.In.old hsm HIN.out)).mono ?_; rw [← HK.out]; rintro _ w9 ⟨rfl, h4⟩; replace hsm := St.call0 hsm h4; clear h4))
                    go_roundw
                    case rel => exact ⟨m + 1, by omega, rfl, St.drop (L1 := []) hsm, hid (all_steps HP.out HXJ.out (by unfold bothB eachB; rw [HRE.out, ← HQ.out, HLA.out, ← HLE.out]; rfl))⟩
                    case measure => simp [intOf]; omega
        · have d3 : decide (x.2.id ≥ t.next) = true := decide_eq_true (by omega)
          have d4 : decide (t.next ≤ x.2.id) = true := d3
          have HNL := hid (decide_eq_false k2)
          clear k2
          go_wp2_with (first | go_big_skip | go_big_guard | (refine wl_loadE rfl rfl rfl ?_; first | refine ⟨_, Loads.at [] hst rfl, ?_⟩) | (refine wl_index rfl rfl rfl rfl hlt ?_) | (refine wl_loadE rfl rfl rfl ?_; first | refine ⟨_, Loads.oldA (cs := cellsR x) hst HL.out HWR.out, ?_⟩) | (refine wl_alloc hst rfl rfl ?_; intro gx w2 hst2; clear hst) | (refine wl_storeA [] hst2 rfl rfl rfl rfl (by exact HL.out) (cellsR_ones HIN.out) rfl ?_; intro w3 hst3; clear hst2))
          have hX := hst3.drew
          clear hst3
          refine wp_region_held_drew (S := (fun w' => (loadVarH 53 ⟨gx, 0, none⟩).run Tryz.prog w' = .ok (.agg (List.toArray (cellsR x))) w' ∧ (loadVarH 3 ⟨gx, 0, none⟩).run Tryz.prog w' = .ok (.int .i64 x.2.id) w' ∧ (loadVarH 3 ⟨g1, 0, none⟩).run Tryz.prog w' = .ok (.int .i64 t.next) w')) (by kernel_rfl) (by exact ⟨ldA (cellsR x) [] hX (HL.out) (by simp), ldS [] hX rfl, ldS [_] hX rfl⟩) (fun hHeld => ?_)
          refine tq 0 18 ?_
          refine wpAnyH_ready (rs := [1]) (by kernel_rfl) (by simp) ?_
          refine (AllReadyH.cons (o := ⟨some 19, _, _, _, _, _⟩) rfl (fun K hK => ?_) AllReadyH.nil)
          rw [if_pos (by rfl)]
          go_simp
          go_at_call 135
          refine (may_any_r x _ (RC.In.old hX HIN.out)).mono ?_
          rw [← HQ.out]
          rintro _ w4 ⟨rfl, h4⟩
          have hA1 := St.call0 hX h4
          clear h4
          refine hK.out _ _ ?_ (fun hHeld => ?_)
          · exact ⟨ldA (cellsR x) [] hA1 (HL.out) (by simp), ldS [] hA1 rfl, ldS [_] hA1 rfl⟩
          clear hK K
          (try simp only [Act.put, List.setIfInBounds_toArray, List.set_cons_zero, List.set_cons_succ])
          refine tq 2 20 ?_
          refine tq 3 21 ?_
          refine tq 4 22 ?_
          refine tq 6 24 ?_
          refine tq 5 23 ?_
          refine tq 7 25 ?_
          refine tq 8 26 ?_
          refine tq 9 27 ?_
          refine tq 10 28 ?_
          refine tu 11 29 ?_
          refine tu 12 30 ?_
          refine tu 13 31 ?_
          refine tu 14 32 ?_
          refine tu 16 34 ?_
          refine tu 21 39 ?_
          refine tu 15 33 ?_
          refine tu 17 35 ?_
          refine tu 22 40 ?_
          refine tu 18 36 ?_
          refine tu 19 37 ?_
          refine tu 20 38 ?_
          refine wpAnyH_ready (rs := [23]) (by kernel_rfl) (by simp) ?_
          refine (AllReadyH.cons (o := ⟨some 41, _, _, _, _, _⟩) rfl (fun K hK => ?_) AllReadyH.nil)
          rw [if_neg (by rw [show Region.wanted _ _ = false from rfl]; exact Bool.false_ne_true)]
          refine hK.out _ _ ?_ (fun hHeld => ?_)
          · exact ⟨ldA (cellsR x) [] hA1 (HL.out) (by simp), ldS [] hA1 rfl, ldS [_] hA1 rfl⟩
          clear hK K
          (try simp only [Act.put, List.setIfInBounds_toArray, List.set_cons_zero, List.set_cons_succ])
          refine tu 24 42 ?_
          refine tu 25 43 ?_
          refine tq 26 44 ?_
          refine wpAnyH_done (by kernel_rfl) ?_ _
          clear hHeld
          have hv : E = false := by rw [HE.out]; exact allAt_no (map_at HXJ.out) (by unfold bothB eachB relB; rw [HNL.out]; simp)
          have HV := hid hv
          clear hv
          go_wp2_with (first | go_big_skip | go_big_guard | fail)
          go_ret
          exact ⟨by have h := HV.out; subst h; rfl, hA1.nil⟩
    · have e1 : decide ((j : Int) < (nr : Int)) = false := decide_eq_false (by omega)
      have hv : E = true := by rw [HE.out]; exact all_end (fun i y hi hy => HP.out i y (by have := HR.out.len; omega) hy)
      have HV := hid hv
      clear hv
      go_wp2_with (first | go_big_skip | go_big_guard | (refine wl_loadE rfl rfl rfl ?_; first | refine ⟨_, Loads.at [] hst rfl, ?_⟩))
      go_ret
      exact ⟨by have h := HV.out; subst h; rfl, hst.nil⟩
end Go.Proofs.YtifajcblbedcoaaGreat
namespace Go.Proofs.YtifajcblbedcoaaGreat
set_option linter.unusedVariables false
set_option linter.unusedSimpArgs false
open Go.RowKit Hp
attribute [local irreducible] Go.Calls
set_option maxRecDepth 100000
set_option maxHeartbeats 4000000
theorem lives_no {l : List Int} {j : Nat} {x : Int} (h : l[j]? = some x) (hx : inB x 0 2147483647 = false) : (l.all fun n => inB n 0 2147483647) = false := by
  rw [List.all_eq_false]
  exact ⟨x, List.mem_of_getElem? h, by rw [hx]; simp⟩
theorem lives_all {l : List Int} (h : ∀ (i : Nat) (x : Int), l[i]? = some x → inB x 0 2147483647 = true) : (l.all fun n => inB n 0 2147483647) = true := by
  rw [List.all_eq_true]
  intro x hx
  obtain ⟨i, hi⟩ := List.getElem?_of_mem hx
  exact h i x hi
theorem refCheck12_any (t : TC) (ar al : Option Addr) (nr cr nl cl : Nat) (xs : List (Value × RC)) (w : World) (hR : RecsIn w (.slice ar nr cr) nr xs) (hx : xs.map (·.2) = t.recs) (hb : nr ≤ 1000000) (hl : Rd w (.slice al nl cl) 1 nl (numsV t.lives)) (hnl : t.lives.length = nl) (hbl : nl ≤ 1000000) :
    Calls Tryz.prog 86 #[.agg (tabC t (.slice ar nr cr) (.slice al nl cl)).toArray] w fun e w' => e = .returned (.int .i64 t.err) ∧ St w [] w' [] := by
  have hst0 := St.refl w
  have HR := hid hR
  have HX := hid hx
  have HLV := hid hl
  have HNL := hid hnl
  have hlen : t.recs.length = nr := by rw [← hx, List.length_map, hR.len]
  have HLN := hid hlen
  obtain ⟨E, hE⟩ : ∃ E, E = t.err := ⟨_, rfl⟩
  rw [← hE]
  have HE := hid hE
  have hsz : t.sizeB = ((inB t.next 1 2147483648 && decide ((nr : Int) ≤ 16)) && inB (nl : Int) 2 8) := by unfold TC.sizeB; rw [hlen, hnl]
  have HSZ := hid hsz
  have hrec : allAt (bothB t.next (xs.map (·.2))) (xs.map (·.2)) = (allAt (eachB t.recs) t.recs && allAt (relB t.next t.recs) t.recs) := by rw [both_all, hx]
  clear hR hx hl hnl hlen hE hsz
  obtain ⟨R, hRR⟩ : ∃ R, R = allAt (bothB t.next (xs.map (·.2))) (xs.map (·.2)) := ⟨_, rfl⟩
  have HRR := hid hRR
  rw [← hRR] at hrec
  have HREC := hid hrec
  clear hRR hrec
  cases d1 : inB t.next 1 2147483648
  · skip
    have hv : E = 2 := by rw [HE.out]; exact err_no (ok_size (by rw [HSZ.out, d1]; rfl))
    rw [hv]
    clear hv
    go_enter Tryz.func86, Tryz.ntmps86
    go_wp2_with (first | go_big_skip | go_big_guard | (refine wl_boxA hst0 rfl rfl rfl ?_; intro g1 w1 hst; clear hst0) | (refine wl_loadE rfl rfl rfl ?_; first | refine ⟨_, Loads.at [] hst rfl, ?_⟩ | refine ⟨_, Loads.atA (tabC t (.slice ar nr cr) (.slice al nl cl)) [] hst rfl rfl, ?_⟩ | refine ⟨_, Loads.atA [.int .i64 t.kind, .int .i64 t.dev, .int .i64 t.at_, .int .i64 t.txg] [] hst rfl rfl, ?_⟩) | (go_at_call 122; refine (refWithin_any _ _ _ _).mono ?_; rintro _ w9 ⟨rfl, h4⟩; replace hst := St.call0 hst h4; clear h4))
    go_ret
    exact ⟨rfl, hst.nil⟩
  · by_cases k2 : (16 : Int) < (nr : Int)
    · have d2 : decide ((16 : Int) < (nr : Int)) = true := decide_eq_true k2
      have d2' : decide ((nr : Int) > 16) = true := d2
      have hv : E = 2 := by rw [HE.out]; exact err_no (ok_size (by rw [HSZ.out, d1, decide_eq_false (by omega)]; rfl))
      rw [hv]
      clear hv
      go_enter Tryz.func86, Tryz.ntmps86
      go_wp2_with (first | go_big_skip | go_big_guard | (refine wl_boxA hst0 rfl rfl rfl ?_; intro g1 w1 hst; clear hst0) | (refine wl_loadE rfl rfl rfl ?_; first | refine ⟨_, Loads.at [] hst rfl, ?_⟩ | refine ⟨_, Loads.atA (tabC t (.slice ar nr cr) (.slice al nl cl)) [] hst rfl rfl, ?_⟩ | refine ⟨_, Loads.atA [.int .i64 t.kind, .int .i64 t.dev, .int .i64 t.at_, .int .i64 t.txg] [] hst rfl rfl, ?_⟩) | (go_at_call 122; refine (refWithin_any _ _ _ _).mono ?_; rintro _ w9 ⟨rfl, h4⟩; replace hst := St.call0 hst h4; clear h4))
      go_ret
      exact ⟨rfl, hst.nil⟩
    · have d2 : decide ((16 : Int) < (nr : Int)) = false := decide_eq_false k2
      have d2' : decide ((nr : Int) > 16) = false := d2
      have d3 : decide ((nr : Int) ≤ 16) = true := decide_eq_true (by omega)
      cases d4 : inB (nl : Int) 2 8
      · skip
        have hv : E = 2 := by rw [HE.out]; exact err_no (ok_size (by rw [HSZ.out, d1, d3, d4]; rfl))
        rw [hv]
        clear hv
        go_enter Tryz.func86, Tryz.ntmps86
        go_wp2_with (first | go_big_skip | go_big_guard | (refine wl_boxA hst0 rfl rfl rfl ?_; intro g1 w1 hst; clear hst0) | (refine wl_loadE rfl rfl rfl ?_; first | refine ⟨_, Loads.at [] hst rfl, ?_⟩ | refine ⟨_, Loads.atA (tabC t (.slice ar nr cr) (.slice al nl cl)) [] hst rfl rfl, ?_⟩ | refine ⟨_, Loads.atA [.int .i64 t.kind, .int .i64 t.dev, .int .i64 t.at_, .int .i64 t.txg] [] hst rfl rfl, ?_⟩) | (go_at_call 122; refine (refWithin_any _ _ _ _).mono ?_; rintro _ w9 ⟨rfl, h4⟩; replace hst := St.call0 hst h4; clear h4))
        go_ret
        exact ⟨rfl, hst.nil⟩
      · have HSZ1 : Hid (t.sizeB = true) := hid (by rw [HSZ.out, d1, d3, d4]; rfl)
        go_enter Tryz.func86, Tryz.ntmps86
        go_wp2_with (first | go_big_skip | go_big_guard | (refine wl_boxA hst0 rfl rfl rfl ?_; intro g1 w1 hst; clear hst0) | (refine wl_loadE rfl rfl rfl ?_; first | refine ⟨_, Loads.at [] hst rfl, ?_⟩ | refine ⟨_, Loads.atA (tabC t (.slice ar nr cr) (.slice al nl cl)) [] hst rfl rfl, ?_⟩ | refine ⟨_, Loads.atA [.int .i64 t.kind, .int .i64 t.dev, .int .i64 t.at_, .int .i64 t.txg] [] hst rfl rfl, ?_⟩) | (go_at_call 122; refine (refWithin_any _ _ _ _).mono ?_; rintro _ w9 ⟨rfl, h4⟩; replace hst := St.call0 hst h4; clear h4))
        go_loopw [3] (fun i wr => ∃ j : Nat, j ≤ nl ∧ i = .int .i64 (j : Int) ∧ St w [] wr [.blk g1 27 (tabC t (.slice ar nr cr) (.slice al nl cl))] ∧ Hid (∀ i x, i < j → t.lives[i]? = some x → inB x 0 2147483647 = true)) (fun i _ => nl - (intOf i).toNat)
        case atStart => exact ⟨0, Nat.zero_le _, rfl, hst, hid (fun i y hi _ => by omega)⟩
        case round =>
          clear hst
          obtain ⟨j, hj, rfl, hst, HP⟩ := hrel
          by_cases hlt : j < nl
          · have e1 : decide ((j : Int) < (nl : Int)) = true := decide_eq_true (by omega)
            have z1 : IntKind.i64.wrap ((j : Int) + 1) = (j : Int) + 1 := IntWalk.i64_in _ (by omega)
            obtain ⟨x, hx⟩ : ∃ x, t.lives[j]? = some x := ⟨_, List.getElem?_eq_getElem (by rw [HNL.out]; exact hlt)⟩
            have HXJ := hid hx
            obtain ⟨lb, lo, rfl, hr⟩ := Rd.at HLV.out hlt
            have HC := hid (hr j _ (numsV_get hx))
            clear hx hr
            cases k4 : inB x 0 2147483647
            · have HV : Hid (E = 2) := hid (by rw [HE.out]; exact err_no (ok_lives (lives_no HXJ.out k4)))
              go_wp2_with (first | go_big_skip | go_big_guard | (refine wl_index rfl rfl rfl rfl hlt ?_) | (refine wl_loadE rfl rfl rfl ?_; first | refine ⟨_, Loads.old hst (by rw [Nat.mul_one]; exact HC.out), ?_⟩ | refine ⟨_, Loads.at [] hst rfl, ?_⟩) | (go_at_call 122; refine (refWithin_any _ _ _ _).mono ?_; rintro _ w9 ⟨rfl, h4⟩; replace hst := St.call0 hst h4; clear h4))
              go_ret
              exact ⟨by have h := HV.out; subst h; rfl, hst.nil⟩
            · go_wp2_with (first | go_big_skip | go_big_guard | (refine wl_index rfl rfl rfl rfl hlt ?_) | (refine wl_loadE rfl rfl rfl ?_; first | refine ⟨_, Loads.old hst (by rw [Nat.mul_one]; exact HC.out), ?_⟩ | refine ⟨_, Loads.at [] hst rfl, ?_⟩) | (go_at_call 122; refine (refWithin_any _ _ _ _).mono ?_; rintro _ w9 ⟨rfl, h4⟩; replace hst := St.call0 hst h4; clear h4))
              go_roundw
              case rel =>
                refine ⟨j + 1, by omega, rfl, hst, hid (fun i y hi hy => ?_)⟩
                by_cases e : i = j
                · subst e
                  rw [HXJ.out] at hy
                  cases hy
                  exact k4
                · exact HP.out i y (by omega) hy
              case measure => simp [intOf]; omega
          · have e1 : decide ((j : Int) < (nl : Int)) = false := decide_eq_false (by omega)
            have HL1 : Hid (t.livesB = true) := hid (lives_all fun i x hi => HP.out i x (by have := (List.getElem?_eq_some_iff.1 hi).1; have := HNL.out; omega) hi)
            clear HP
            cases R
            · have hrec := HREC.out
              have hk : t.ok = false := by
                unfold TC.ok
                rw [Bool.and_assoc _ _ (allAt (relB t.next t.recs) t.recs), ← hrec, Bool.and_false]
              clear hrec
              have HV : Hid (E = 2) := hid (by rw [HE.out]; exact err_no hk)
              go_wp2_with (first | go_big_skip | go_big_guard | (refine wl_loadE rfl rfl rfl ?_; first | refine ⟨_, Loads.at [] hst rfl, ?_⟩ | refine ⟨_, Loads.atA (tabC t (.slice ar nr cr) (.slice al nl cl)) [] hst rfl rfl, ?_⟩ | refine ⟨_, Loads.atA [.int .i64 t.kind, .int .i64 t.dev, .int .i64 t.at_, .int .i64 t.txg] [] hst rfl rfl, ?_⟩) | (go_at_call 123; refine (records_any_r t (.slice al nl cl) ar nr cr xs _ (HR.out.old hst) hb).mono ?_; rw [← HRR.out]; rintro _ w9 ⟨rfl, h4⟩; replace hst := St.call0 hst h4; clear h4) | (go_at_call 124; refine (refCursor_any t nl HNL.out hbl _).mono ?_; rintro _ w9 ⟨rfl, h4⟩; replace hst := St.call0 hst h4; clear h4))
              go_ret
              exact ⟨by have h := HV.out; subst h; rfl, hst.nil⟩
            · cases k5 : t.curB
              · skip
                have HV : Hid (E = 2) := hid (by rw [HE.out]; exact err_no (ok_cur k5))
                go_wp2_with (first | go_big_skip | go_big_guard | (refine wl_loadE rfl rfl rfl ?_; first | refine ⟨_, Loads.at [] hst rfl, ?_⟩ | refine ⟨_, Loads.atA (tabC t (.slice ar nr cr) (.slice al nl cl)) [] hst rfl rfl, ?_⟩ | refine ⟨_, Loads.atA [.int .i64 t.kind, .int .i64 t.dev, .int .i64 t.at_, .int .i64 t.txg] [] hst rfl rfl, ?_⟩) | (go_at_call 123; refine (records_any_r t (.slice al nl cl) ar nr cr xs _ (HR.out.old hst) hb).mono ?_; rw [← HRR.out]; rintro _ w9 ⟨rfl, h4⟩; replace hst := St.call0 hst h4; clear h4) | (go_at_call 124; refine (refCursor_any t nl HNL.out hbl _).mono ?_; rintro _ w9 ⟨rfl, h4⟩; replace hst := St.call0 hst h4; clear h4))
                go_ret
                exact ⟨by have h := HV.out; subst h; rfl, hst.nil⟩
              · have hrec := Bool.and_eq_true_iff.1 HREC.out.symm
                have HV : Hid (E = 0) := hid (by rw [HE.out]; exact err_yes (ok_all HSZ1.out k5 HL1.out hrec.1 hrec.2))
                clear hrec
                go_wp2_with (first | go_big_skip | go_big_guard | (refine wl_loadE rfl rfl rfl ?_; first | refine ⟨_, Loads.at [] hst rfl, ?_⟩ | refine ⟨_, Loads.atA (tabC t (.slice ar nr cr) (.slice al nl cl)) [] hst rfl rfl, ?_⟩ | refine ⟨_, Loads.atA [.int .i64 t.kind, .int .i64 t.dev, .int .i64 t.at_, .int .i64 t.txg] [] hst rfl rfl, ?_⟩) | (go_at_call 123; refine (records_any_r t (.slice al nl cl) ar nr cr xs _ (HR.out.old hst) hb).mono ?_; rw [← HRR.out]; rintro _ w9 ⟨rfl, h4⟩; replace hst := St.call0 hst h4; clear h4) | (go_at_call 124; refine (refCursor_any t nl HNL.out hbl _).mono ?_; rintro _ w9 ⟨rfl, h4⟩; replace hst := St.call0 hst h4; clear h4))
                go_ret
                exact ⟨by have h := HV.out; subst h; rfl, hst.nil⟩
end Go.Proofs.YtifajcblbedcoaaGreat
namespace Go.Proofs.YtifajcblbedcoaaGreat
set_option linter.unusedVariables false
set_option linter.unusedSimpArgs false
open Go.RowKit Hp
def noT : TC := ⟨0, [], 0, 0, 0, 0, []⟩
theorem noIn (w : World) : TabIn w noT none 0 0 none 0 0 [] := ⟨⟨Rd.nil _ _, rfl, fun _ h => by cases h⟩, rfl, Rd.nil _ _, rfl, by decide, by decide⟩
end Go.Proofs.YtifajcblbedcoaaGreat
namespace Go.Proofs.YtifajcblbedcoaaGreat
set_option linter.unusedVariables false
set_option linter.unusedSimpArgs false
open Go.RowKit Hp
attribute [local irreducible] Go.Calls
set_option maxHeartbeats 2000000
theorem split_at {l a b : List UInt8} {f : Bool} (hx : splitL l = (a, b, f)) (w : World) (hl : l.length ≤ 9223372036854775807) :
    Calls Tryz.prog 68 #[str l] w fun e w' => e = .returned (.tuple #[str a, str b, .bool f]) ∧ St w [] w' [] := by
  have := split_any l w hl
  rwa [hx] at this
theorem refSplit_at {l a b : List UInt8} {f : Bool} (hx : splitL l = (a, b, f)) (w : World) (hl : l.length ≤ 9223372036854775807) :
    Calls Tryz.prog 90 #[str l] w fun e w' => e = .returned (.tuple #[str a, str b, .bool f]) ∧ St w [] w' [] := by
  have := refSplit_any l w hl
  rwa [hx] at this
theorem snap_at {l a b : List UInt8} {f : Bool} (hx : splitL l = (a, b, f)) (w : World) (hl : l.length ≤ 9223372036854775807) :
    Calls Tryz.prog 71 #[str l] w fun e w' => e = .returned (.bool f) ∧ St w [] w' [] := by
  have := snap_any l w hl
  rwa [snapB, hx] at this
theorem refSnap_at {l a b : List UInt8} {f : Bool} (hx : splitL l = (a, b, f)) (w : World) (hl : l.length ≤ 9223372036854775807) :
    Calls Tryz.prog 92 #[str l] w fun e w' => e = .returned (.bool f) ∧ St w [] w' [] := by
  have := refSnap_any l w hl
  rwa [snapB, hx] at this
theorem join_at {a b j : List UInt8} {g : Bool} (hx : joinL a b = (j, g)) (w : World) (ha : a.length ≤ 9223372036854775807) (hb : b.length ≤ 9223372036854775807) :
    Calls Tryz.prog 77 #[str a, str b] w fun e w' => e = .returned (.tuple #[str j, .bool g]) ∧ St w [] w' [] := by
  have := join_any a b w ha hb
  rwa [hx] at this
end Go.Proofs.YtifajcblbedcoaaGreat
namespace Go.Proofs.YtifajcblbedcoaaGreat
set_option linter.unusedVariables false
set_option linter.unusedSimpArgs false
open Go.RowKit Hp
attribute [local irreducible] Go.Calls Go.wpList
set_option maxRecDepth 100000
set_option maxHeartbeats 8000000
attribute [local go_sem ↓] heldInt heldInts heldRecs heldRec heldStr heldTab heldPtr heldFn
/-- A table lies among the pieces: wherever these are, it can be read. -/
def Held (L : List HA) (t : TC) (ar al : Option Addr) (nr cr nl cl : Nat) (xs : List (Value × RC)) : Prop := ∀ (w0 w : World) (M : List Nat) (L' : List HA), St w0 M w L' → (∀ y ∈ L, y ∈ L') → TabIn w t ar nr cr al nl cl xs
/-- What a call of the document's tells: a table that can be read. -/
def RefRet (r : TR) (w : World) (e : Ending) (w' : World) : Prop := ∃ (ar al : Option Addr) (nr cr nl cl : Nat) (xs : List (Value × RC)) (L : List HA), e = .returned (.tuple #[.agg (tabC r.2 (.slice ar nr cr) (.slice al nl cl)).toArray, .int .i64 r.1]) ∧ Held L r.2 ar al nr cr nl cl xs ∧ St w [] w' L
theorem refRet_bad {w w' : World} {L : List HA} (h : St w [] w' L) (z : Int) : RefRet (badR z) w (.returned (.tuple #[.agg tab0.toArray, .int .i64 z])) w' :=
  ⟨none, none, 0, 0, 0, 0, [], [], rfl, fun _ w _ _ _ _ => noIn w, h.nil⟩
theorem own_tab {w0 w : World} {M : List Nat} {L : List HA} {u : TC} {ro lo : Option Addr} {n m rc lc : Nat} {ys : List (Value × RC)} (hst : St w0 M w L) (h1 : HA.row (.slice ro n rc) 53 44 n (recsV ys) ∈ L) (h2 : HA.row (.slice lo m lc) 3 1 m (numsV u.lives) ∈ L) (hn : ys.length = n) (hm : u.lives.length = m) (ho : OwnX L ys) (he : ys.map (·.2) = u.recs) (hb : n ≤ 1000000 ∧ m ≤ 1000000) : TabIn w u ro n rc lo m lc ys :=
  ⟨recs_inL hst h1 hn ho, he, Rd.row hst h2, hm, hb.1, hb.2⟩
theorem refOwn_ok (t : TC) (ar al : Option Addr) (nr cr nl cl : Nat) (xs : List (Value × RC)) (w : World) (ht : TabIn w t ar nr cr al nl cl xs) (hok : OkP t) :
    Calls Tryz.prog 94 #[.agg (tabC t (.slice ar nr cr) (.slice al nl cl)).toArray] w fun e w' => ∃ (ro : Option Addr) (rc : Nat) (lo : Option Addr) (lc : Nat) (ys : List (Value × RC)) (K : List HA), e = .returned (.agg (tabC t (.slice ro nr rc) (.slice lo nl lc)).toArray) ∧ ys.map (·.2) = t.recs ∧ ys.length = nr ∧ OwnX K ys ∧ St w [] w' (.row (.slice ro nr rc) 53 44 nr (recsV ys) :: .row (.slice lo nl lc) 3 1 nl (numsV t.lives) :: K) := by
  have hbd := ok_bd (okP_iff.2 hok)
  have b1 := hok.many
  have b2 := hok.devs
  have b3 := ht.len
  have b4 := ht.ln
  refine (refOwn13_any t ar al nr cr nl cl xs w ht (by omega) (by omega) (fun r hr => by have := (hbd.recs r hr).rootLen; omega)).mono fun e w' h => ?_
  obtain ⟨ro, rc, lo, lc, ys, he, hy, hst⟩ := h
  refine ⟨ro, rc, lo, lc, ys, rootRows 102 ys, he, hy, by rw [← List.length_map (f := (·.2)), hy]; exact b3, fun y hyy => ⟨rootRows_mem hyy, ?_⟩, hst⟩
  have h2 : y.2 ∈ t.recs := by rw [← hy]; exact List.mem_map_of_mem hyy
  have h3 : y.2 ∈ xs.map (·.2) := by rw [ht.eq]; exact h2
  obtain ⟨x, hx, hxe⟩ := List.mem_map.1 h3
  have hL := (ht.R.each x hx).L
  rw [hxe] at hL
  have hn := (hbd.recs _ h2).name
  exact ⟨hL, by omega⟩
theorem refWithin13 (n lo hi : Int) (w : World) : Calls Tryz.prog 42 #[.int .i64 n, .int .i64 lo, .int .i64 hi] w fun e w' => e = .returned (.bool (inB n lo hi)) ∧ St w [] w' [] := by
  have hst := St.refl w
  unfold inB
  by_cases h1 : lo ≤ n
  · have d1 : decide (n ≥ lo) = true := decide_eq_true h1
    have d2 : decide (lo ≤ n) = true := d1
    rw [d2]
    clear h1
    go_enter Tryz.func42, Tryz.ntmps42
    go_wp2_with (first | go_big_skip | go_big_guard | fail)
    go_ret
    exact ⟨rfl, hst⟩
  · have d1 : decide (n ≥ lo) = false := decide_eq_false h1
    have d2 : decide (lo ≤ n) = false := d1
    rw [d2]
    clear h1
    go_enter Tryz.func42, Tryz.ntmps42
    go_wp2_with (first | go_big_skip | go_big_guard | fail)
    go_ret
    exact ⟨rfl, hst⟩
theorem refNamed13 (nm : List UInt8) (w : World) (hl : nm.length ≤ 9223372036854775807) : Calls Tryz.prog 95 #[str nm] w fun e w' => e = .returned (.bool (namedB nm)) ∧ St w [] w' [] := by
  have hst := St.refl w
  have HL := hid hl
  unfold namedB
  obtain ⟨a, ha⟩ : ∃ a, a = partB nm := ⟨_, rfl⟩
  obtain ⟨b, hb⟩ : ∃ b, b = snapB nm := ⟨_, rfl⟩
  rw [← ha, ← hb]
  have HA := hid ha
  have HB := hid hb
  clear ha hb hl
  cases a
  all_goals
    go_enter Tryz.func95, Tryz.ntmps95
    go_wp2_with (first | go_big_skip | go_big_guard | (go_at_call 87; refine (refVolume_any nm _ HL.out).mono ?_; rw [← HA.out]; rintro _ w9 ⟨rfl, h4⟩; replace hst := St.call0 hst h4; clear h4) | (go_at_call 92; refine (refSnap_any nm _ HL.out).mono ?_; rw [← HB.out]; rintro _ w9 ⟨rfl, h4⟩; replace hst := St.call0 hst h4; clear h4))
    go_ret
    exact ⟨rfl, hst⟩
theorem refRoom13 (t : TC) (ar al : Option Addr) (nr cr nl cl : Nat) (xs : List (Value × RC)) (w : World) (nm : List UInt8) (ht : TabIn w t ar nr cr al nl cl xs) :
    Calls Tryz.prog 88 #[.agg (tabC t (.slice ar nr cr) (.slice al nl cl)).toArray, str nm] w fun e w' => e = .returned (.int .i64 (roomE t nm)) ∧ St w [] w' [] := by
  have hst0 := St.refl w
  have HT := hid ht
  have hb := ht.br
  obtain ⟨E, hE⟩ : ∃ E, E = roomE t nm := ⟨_, rfl⟩
  rw [← hE]
  have HEE := hid hE
  obtain ⟨⟨z, is⟩, hf⟩ : ∃ p, findP nm (xs.map (·.2)) = p := ⟨_, rfl⟩
  have HF := hid hf
  have hi : isAt nm t.recs = is := by rw [← findP_is, ← ht.eq, hf]
  have hl : (t.recs.length : Int) = nr := by rw [ht.len]
  have HL := hid hl
  have HI := hid hi
  clear ht hE hf hi hl
  cases is
  · by_cases h1 : 16 ≤ nr
    · have d1 : decide ((nr : Int) ≥ 16) = true := decide_eq_true (by omega)
      have d2 : decide ((16 : Int) ≤ (nr : Int)) = true := d1
      have HE := hid (show E = 8 by rw [HEE.out]; unfold roomE fullB; rw [HI.out, HL.out, d1]; rfl)
      go_enter Tryz.func88, Tryz.ntmps88
      go_wp2_with (first | go_big_skip | go_big_guard | (refine wl_boxA hst0 rfl rfl rfl ?_; intro g2 w1 hst; clear hst0) | (refine wl_loadE rfl rfl rfl ?_; first | refine ⟨_, Loads.atA (tabC t (.slice ar nr cr) (.slice al nl cl)) [] hst rfl rfl, ?_⟩ | refine ⟨_, Loads.at [] hst rfl, ?_⟩) | (go_at_call 91; refine (refFind_any t (.slice al nl cl) nm ar nr cr xs _ (HT.out.R.old hst) (by omega)).mono ?_; rw [HF.out]; rintro _ w9 ⟨rfl, h4⟩; replace hst := St.call0 hst h4; clear h4))
      go_ret
      exact ⟨by rw [HE.out]; rfl, hst.nil⟩
    · have d1 : decide ((nr : Int) ≥ 16) = false := decide_eq_false (by omega)
      have d2 : decide ((16 : Int) ≤ (nr : Int)) = false := d1
      by_cases h2 : t.next ≥ 2147483648
      · have d3 : decide (t.next ≥ 2147483648) = true := decide_eq_true h2
        have HE := hid (show E = 8 by rw [HEE.out]; unfold roomE fullB; rw [HI.out, HL.out, d1, d3]; rfl)
        have d4 : decide (2147483648 ≤ t.next) = true := d3
        go_enter Tryz.func88, Tryz.ntmps88
        go_wp2_with (first | go_big_skip | go_big_guard | (refine wl_boxA hst0 rfl rfl rfl ?_; intro g2 w1 hst; clear hst0) | (refine wl_loadE rfl rfl rfl ?_; first | refine ⟨_, Loads.atA (tabC t (.slice ar nr cr) (.slice al nl cl)) [] hst rfl rfl, ?_⟩ | refine ⟨_, Loads.at [] hst rfl, ?_⟩) | (go_at_call 91; refine (refFind_any t (.slice al nl cl) nm ar nr cr xs _ (HT.out.R.old hst) (by omega)).mono ?_; rw [HF.out]; rintro _ w9 ⟨rfl, h4⟩; replace hst := St.call0 hst h4; clear h4))
        go_ret
        exact ⟨by rw [HE.out]; rfl, hst.nil⟩
      · have d3 : decide (t.next ≥ 2147483648) = false := decide_eq_false h2
        have HE := hid (show E = 0 by rw [HEE.out]; unfold roomE fullB; rw [HI.out, HL.out, d1, d3]; rfl)
        have d4 : decide (2147483648 ≤ t.next) = false := d3
        go_enter Tryz.func88, Tryz.ntmps88
        go_wp2_with (first | go_big_skip | go_big_guard | (refine wl_boxA hst0 rfl rfl rfl ?_; intro g2 w1 hst; clear hst0) | (refine wl_loadE rfl rfl rfl ?_; first | refine ⟨_, Loads.atA (tabC t (.slice ar nr cr) (.slice al nl cl)) [] hst rfl rfl, ?_⟩ | refine ⟨_, Loads.at [] hst rfl, ?_⟩) | (go_at_call 91; refine (refFind_any t (.slice al nl cl) nm ar nr cr xs _ (HT.out.R.old hst) (by omega)).mono ?_; rw [HF.out]; rintro _ w9 ⟨rfl, h4⟩; replace hst := St.call0 hst h4; clear h4))
        go_ret
        exact ⟨by rw [HE.out]; rfl, hst.nil⟩
  · have HE := hid (show E = 7 by rw [HEE.out]; unfold roomE; rw [HI.out]; rfl)
    go_enter Tryz.func88, Tryz.ntmps88
    go_wp2_with (first | go_big_skip | go_big_guard | (refine wl_boxA hst0 rfl rfl rfl ?_; intro g2 w1 hst; clear hst0) | (refine wl_loadE rfl rfl rfl ?_; first | refine ⟨_, Loads.atA (tabC t (.slice ar nr cr) (.slice al nl cl)) [] hst rfl rfl, ?_⟩ | refine ⟨_, Loads.at [] hst rfl, ?_⟩) | (go_at_call 91; refine (refFind_any t (.slice al nl cl) nm ar nr cr xs _ (HT.out.R.old hst) (by omega)).mono ?_; rw [HF.out]; rintro _ w9 ⟨rfl, h4⟩; replace hst := St.call0 hst h4; clear h4))
    go_ret
    exact ⟨by rw [HE.out]; rfl, hst.nil⟩
theorem perm_put (a b c d e f : HA) {K : List HA} : (d :: a :: b :: c :: e :: f :: K).Perm (b :: c :: e :: d :: a :: f :: K) := by
  have h1 : (d :: a :: b :: c :: e :: f :: K).Perm (b :: d :: a :: c :: e :: f :: K) := (List.Perm.cons d (List.Perm.swap b a _)).trans (List.Perm.swap b d _)
  have h2 : (d :: a :: c :: e :: f :: K).Perm (c :: d :: a :: e :: f :: K) := (List.Perm.cons d (List.Perm.swap c a _)).trans (List.Perm.swap c d _)
  have h3 : (d :: a :: e :: f :: K).Perm (e :: d :: a :: f :: K) := (List.Perm.cons d (List.Perm.swap e a _)).trans (List.Perm.swap e d _)
  exact h1.trans (.cons _ (h2.trans (.cons _ h3)))
theorem refPut13 (t : TC) (ar al : Option Addr) (nr cr nl cl : Nat) (xs : List (Value × RC)) (w : World) (y : Value × RC) (ht : TabIn w t ar nr cr al nl cl xs) (hok : OkP t) (hy : RC.In w y) (hyl : y.2.l.length ≤ 100000) (hyn : y.2.name.length ≤ 1000000) :
    Calls Tryz.prog 89 #[.agg (tabC t (.slice ar nr cr) (.slice al nl cl)).toArray, .agg (cellsR y).toArray] w fun e w' => ∃ (ar' al' : Option Addr) (nr' cr' nl' cl' : Nat) (xs' : List (Value × RC)) (L : List HA), e = .returned (.agg (tabC (putT t y.2) (.slice ar' nr' cr') (.slice al' nl' cl')).toArray) ∧ Held L (putT t y.2) ar' al' nr' cr' nl' cl' xs' ∧ St w [] w' L := by
  have hst0 := St.refl w
  have HT := hid ht
  have HOK := hid hok
  have b1 := hok.many
  have b2 := hok.next
  have b3 := ht.len
  have b5 := hok.devs
  have b4 := ht.ln
  have hnr : nr ≤ 16 := by omega
  have hnl : nl ≤ 8 := by omega
  have H44 := hid (cellsR_len hy.L)
  have H44b := hid (show (cellsR (idR y t.next)).length = 44 from cellsR_len hy.L)
  have HLY := hid hy.L
  have HNY := hid hy.2
  have HNM := hid hyn
  have HZL := hid (show ∀ v : Value, (cellsR (v, (idR y t.next).2)).length = 44 from fun v => cellsR_len hy.L)
  obtain ⟨_, ao2, mm, cc, hsv, hrd, hml⟩ := hy.1
  have HSV := hid (show y.1 = .slice ao2 mm cc from hsv)
  have HRD := hid (show Rd w (.slice ao2 mm cc) 2 mm (addrsV y.2.l) from hrd)
  have hmm : mm ≤ 100000 := by
    have e : y.2.l.length = mm := hml
    omega
  have z1 : IntKind.i64.wrap (t.next + 1) = t.next + 1 := IntWalk.i64_in _ (by omega)
  have HNX := hid b3
  have HLV := hid b4
  clear ht hok hy hyn hsv hrd b1 b2 b3 b4 b5
  obtain rfl : y.2.l.length = mm := hml
  have HALL : Hid (∀ (ys : List (Value × RC)) (K : List HA) (a9 : Option Addr) (c9 : Nat), OwnX K ys → ∀ z ∈ ys ++ [((.slice a9 y.2.l.length c9 : Value), (idR y t.next).2)], L32 z.2.S ∧ (∀ {w0 w1 : World} {q1 q2 q3 q4 q5 q6 : HA}, St w0 [] w1 (q1 :: .row (.slice a9 y.2.l.length c9) 102 2 y.2.l.length (addrsV y.2.l) :: q2 :: q3 :: q4 :: q5 :: q6 :: K) → RC.In w1 z) ∧ z.2.name.length ≤ 1000000 ∧ (rootH z ∈ K ∨ rootH z = .row (.slice a9 y.2.l.length c9) 102 2 y.2.l.length (addrsV y.2.l))) := hid (by
    intro ys K a9 c9 ho z hz
    rcases List.mem_append.1 hz with hz | hz
    · have h := ho z hz
      exact ⟨h.2.1, fun hs => ((((((((h.cons _).cons _).cons _).cons _).cons _).cons _).cons _)).In hs, h.2.2, .inl h.1⟩
    · rw [List.mem_singleton] at hz
      subst hz
      exact ⟨HLY.out, fun hs => root_in (E := 102) hs (.tail _ (.head _)) HLY.out HNY.out, HNM.out, .inr rfl⟩)
  go_enter Tryz.func89, Tryz.ntmps89
  go_wp2_with (first | go_big_skip | go_big_guard | (refine wl_boxA hst0 rfl rfl rfl ?_; intro g2 w1 hA0; clear hst0) | (refine wl_boxA hA0 rfl rfl rfl ?_; intro g3 w1 hA1; clear hA0) | (refine wl_alloc hA1 rfl rfl ?_; intro g4 w1 hst; clear hA1) | (refine wl_loadE rfl rfl rfl ?_; first | refine ⟨_, Loads.at [_, _] hst rfl, ?_⟩ | refine ⟨_, Loads.atA (tabC t (.slice ar nr cr) (.slice al nl cl)) [_, _] hB1 rfl rfl, ?_⟩ | refine ⟨_, Loads.at [_, _] hB3 rfl, ?_⟩ | refine ⟨_, (by have h9 := Loads.at (P := Tryz.prog) (T := 28) (off := 4) [_, _] hB5 rfl; exact (show Loads Tryz.prog _ _ _ (.slice ao2 y.2.l.length cc) from (by rw [← HSV.out]; exact h9))), ?_⟩ | refine ⟨_, Loads.at [_, _, _] hB7 rfl, ?_⟩ | refine ⟨_, Loads.atA (cellsR ((.slice a9 y.2.l.length c9 : Value), (idR y t.next).2)) [_, _] hB7 (HZL.out _) (cellsR_all _), ?_⟩ | refine ⟨_, Loads.atA (tabC (nextT t) (.slice r2 (nr + 1) c2) (.slice lo nl lc)) [_, _] hC2 rfl rfl, ?_⟩) | (refine wl_storeC [_] hst rfl rfl rfl rfl (off := 0) (v := .int .i64 t.next) rfl rfl (by rw [H44.out]; decide) (cs' := cellsR (idR y t.next)) rfl ?_; intro w1 h4; have hB1 : St w [] w1 (.blk g4 27 tab0 :: .blk g3 53 (cellsR (idR y t.next)) :: .blk g2 27 (tabC t (.slice ar nr cr) (.slice al nl cl)) :: []) := h4; clear h4 hst) | (go_at_call 94; refine (refOwn_ok t ar al nr cr nl cl xs _ (HT.out.old hB1.nil) HOK.out).mono ?_; rintro _ w9 ⟨ro, rc, lo, lc, ys, K, rfl, hye, hyn, hyo, h4⟩; have hB2 : St w [] w9 (.blk g4 27 tab0 :: .blk g3 53 (cellsR (idR y t.next)) :: .blk g2 27 (tabC t (.slice ar nr cr) (.slice al nl cl)) :: .row (.slice ro nr rc) 53 44 nr (recsV ys) :: .row (.slice lo nl lc) 3 1 nl (numsV t.lives) :: K) := St.perm (St.call hB1 h4) List.perm_append_comm; have HYE := hid hye; have HYN := hid hyn; have HYO := hid hyo; clear h4 hB1 hye hyn hyo) | (refine wl_storeA [_, _] hB2 rfl rfl rfl rfl (vs := (tabC t (.slice ro nr rc) (.slice lo nl lc))) rfl rfl rfl ?_; intro w1 h4; have hB3 : St w [] w1 (.blk g4 27 tab0 :: .blk g3 53 (cellsR (idR y t.next)) :: .blk g2 27 (tabC t (.slice ro nr rc) (.slice lo nl lc)) :: .row (.slice ro nr rc) 53 44 nr (recsV ys) :: .row (.slice lo nl lc) 3 1 nl (numsV t.lives) :: K) := h4; clear h4 hB2) | (refine wl_storeC [_, _] hB3 rfl rfl rfl rfl (off := 0) (v := .int .i64 (t.next + 1)) rfl rfl (by show 0 + 1 ≤ 7; decide) (cs' := (tabC (nextT t) (.slice ro nr rc) (.slice lo nl lc))) rfl ?_; intro w1 h4; have hB4 : St w [] w1 (.blk g4 27 tab0 :: .blk g3 53 (cellsR (idR y t.next)) :: .blk g2 27 (tabC (nextT t) (.slice ro nr rc) (.slice lo nl lc)) :: .row (.slice ro nr rc) 53 44 nr (recsV ys) :: .row (.slice lo nl lc) 3 1 nl (numsV t.lives) :: K) := h4; clear h4 hB3) | (apply wl_bsX [] [] hB4; rfl; rfl; exact rfl; exact rfl; infer_instance; infer_instance; rfl; rfl; rfl; intro g7 w8 h8; have h7 := St.toRow (n := 0) (cap := 0) (sz := 2) h8 rfl (by decide) (by decide); have hB5 : St w [] w8 (.row (.slice (some ⟨g7, 0, none⟩) 0 0) 102 2 0 (List.take (0 * 2) []) :: .blk g4 27 tab0 :: .blk g3 53 (cellsR (idR y t.next)) :: .blk g2 27 (tabC (nextT t) (.slice ro nr rc) (.slice lo nl lc)) :: .row (.slice ro nr rc) 53 44 nr (recsV ys) :: .row (.slice lo nl lc) 3 1 nl (numsV t.lives) :: K) := h7; clear h8 h7 hB4) | (apply wl_appX (m := y.2.l.length) (ys := addrsV y.2.l) [] hB5; rfl; rfl; exact rfl; exact rfl; infer_instance; infer_instance; infer_instance; exact Rd.old hB5 HRD.out; exact addrs_ones _; exact ⟨by decide, by unfold maxLen; omega, by omega⟩; intro v9 w6 h9 _; obtain ⟨a9, c9, rfl, _, _⟩ := row_sliceC [] h9; have h8 := row_tidy [] h9; have hB6 : St w [] w6 (.row (.slice a9 y.2.l.length c9) 102 2 y.2.l.length (addrsV y.2.l) :: .blk g4 27 tab0 :: .blk g3 53 (cellsR (idR y t.next)) :: .blk g2 27 (tabC (nextT t) (.slice ro nr rc) (.slice lo nl lc)) :: .row (.slice ro nr rc) 53 44 nr (recsV ys) :: .row (.slice lo nl lc) 3 1 nl (numsV t.lives) :: K) := h8; clear h9 h8 hB5) | (refine wl_storeC [_, _] hB6 rfl rfl rfl rfl (off := 4) (v := .slice a9 y.2.l.length c9) rfl rfl (by rw [H44b.out]; decide) (cs' := cellsR ((.slice a9 y.2.l.length c9 : Value), (idR y t.next).2)) rfl ?_; intro w1 h4; have hB7 : St w [] w1 (.row (.slice a9 y.2.l.length c9) 102 2 y.2.l.length (addrsV y.2.l) :: .blk g4 27 tab0 :: .blk g3 53 (cellsR ((.slice a9 y.2.l.length c9 : Value), (idR y t.next).2)) :: .blk g2 27 (tabC (nextT t) (.slice ro nr rc) (.slice lo nl lc)) :: .row (.slice ro nr rc) 53 44 nr (recsV ys) :: .row (.slice lo nl lc) 3 1 nl (numsV t.lives) :: K) := h4; clear h4 hB6) | (apply wl_bsX [.agg (List.toArray (cellsR ((.slice a9 y.2.l.length c9 : Value), (idR y t.next).2)))] (cellsR ((.slice a9 y.2.l.length c9 : Value), (idR y t.next).2)) hB7; rfl; rfl; exact rfl; exact (List.append_nil _); infer_instance; infer_instance; (show (((List.toArray (cellsR ((.slice a9 y.2.l.length c9 : Value), (idR y t.next).2))).size == 44) && true) = true; rw [List.size_toArray, HZL.out _]; rfl); rfl; rfl; intro gb w5 h4; have hB8 : St w [] w5 (.blk gb 53 (cellsR ((.slice a9 y.2.l.length c9 : Value), (idR y t.next).2)) :: .row (.slice a9 y.2.l.length c9) 102 2 y.2.l.length (addrsV y.2.l) :: .blk g4 27 tab0 :: .blk g3 53 (cellsR ((.slice a9 y.2.l.length c9 : Value), (idR y t.next).2)) :: .blk g2 27 (tabC (nextT t) (.slice ro nr rc) (.slice lo nl lc)) :: .row (.slice ro nr rc) 53 44 nr (recsV ys) :: .row (.slice lo nl lc) 3 1 nl (numsV t.lives) :: K) := h4; have HZI := hid (root_in (E := 102) (x := ((.slice a9 y.2.l.length c9 : Value), (idR y t.next).2)) hB8 (.tail _ (.head _)) HLY.out HNY.out); clear h4 hB7) | (apply wl_appX (m := 1) (ys := cellsR ((.slice a9 y.2.l.length c9 : Value), (idR y t.next).2)) [_, _, _, _, _] hB8; rfl; rfl; exact rfl; exact rfl; infer_instance; infer_instance; infer_instance; exact Rd.blk (n := 1) hB8 (.head _) (Nat.le_refl _) (by decide) (by rw [HZL.out _]) (by rw [List.drop_zero, List.take_length]); exact cellsR_ones HZI.out; exact ⟨by decide, by unfold maxLen; omega, by omega⟩; intro rv2 w6 h4 _; obtain ⟨r1, c1, rfl, _, _⟩ := row_sliceC [_, _, _, _, _] h4; have hB9 : St w [] w6 (.blk gb 53 (cellsR ((.slice a9 y.2.l.length c9 : Value), (idR y t.next).2)) :: .row (.slice a9 y.2.l.length c9) 102 2 y.2.l.length (addrsV y.2.l) :: .blk g4 27 tab0 :: .blk g3 53 (cellsR ((.slice a9 y.2.l.length c9 : Value), (idR y t.next).2)) :: .blk g2 27 (tabC (nextT t) (.slice ro nr rc) (.slice lo nl lc)) :: .row (.slice r1 (nr + 1) c1) 53 44 (nr + 1) (recsV (ys ++ [((.slice a9 y.2.l.length c9 : Value), (idR y t.next).2)])) :: .row (.slice lo nl lc) 3 1 nl (numsV t.lives) :: K) := (by rw [recsV_append, show recsV [((.slice a9 y.2.l.length c9 : Value), (idR y t.next).2)] = cellsR ((.slice a9 y.2.l.length c9 : Value), (idR y t.next).2) from List.append_nil _]; exact h4); clear h4 hB8) | (go_at_call 97; refine (refSorted_any r1 (nr + 1) c1 (ys ++ [((.slice a9 y.2.l.length c9 : Value), (idR y t.next).2)]) _ (Rd.row hB9 (.tail _ (.tail _ (.tail _ (.tail _ (.tail _ (.head _))))))) (by rw [List.length_append, HYN.out]; rfl) (fun z hz => (HALL.out ys K a9 c9 HYO.out z hz).1) (fun z hz => cellsR_ones ((HALL.out ys K a9 c9 HYO.out z hz).2.1 hB9)) (fun z hz => (HALL.out ys K a9 c9 HYO.out z hz).2.2.1) (by omega)).mono ?_; rintro _ w9 ⟨rv9, zs, rfl, hze, hzp, h4⟩; have h5 := St.call hB9 h4; obtain ⟨r2, c2, rfl, _, _⟩ := row_sliceC [] h5; have hC1 : St w [] w9 (.blk g4 27 tab0 :: .blk g3 53 (cellsR ((.slice a9 y.2.l.length c9 : Value), (idR y t.next).2)) :: .blk g2 27 (tabC (nextT t) (.slice ro nr rc) (.slice lo nl lc)) :: .row (.slice r2 (nr + 1) c2) 53 44 (nr + 1) (recsV zs) :: .row (.slice a9 y.2.l.length c9) 102 2 y.2.l.length (addrsV y.2.l) :: .row (.slice lo nl lc) 3 1 nl (numsV t.lives) :: K) := St.perm (St.sub h5 (.cons_cons _ (.cons _ (.cons_cons _ (.cons_cons _ (.cons_cons _ (.cons_cons _ (.cons _ (List.Sublist.refl _))))))))) (perm_put _ _ _ _ _ _); have HZE := hid hze; have HZP := hid hzp; clear h4 h5 hB9 hze hzp) | (refine wl_store [_, _] hC1 rfl rfl rfl (off := 1) (v := .slice r2 (nr + 1) c2) rfl rfl rfl (by show (1 : Nat) + 1 ≤ 7; decide) ?_; intro w7 h4; have hC2 : St w [] w7 (.blk g4 27 tab0 :: .blk g3 53 (cellsR ((.slice a9 y.2.l.length c9 : Value), (idR y t.next).2)) :: .blk g2 27 (tabC (nextT t) (.slice r2 (nr + 1) c2) (.slice lo nl lc)) :: .row (.slice r2 (nr + 1) c2) 53 44 (nr + 1) (recsV zs) :: .row (.slice a9 y.2.l.length c9) 102 2 y.2.l.length (addrsV y.2.l) :: .row (.slice lo nl lc) 3 1 nl (numsV t.lives) :: K) := h4; clear h4 hC1) | (refine wl_storeA [] hC2 rfl rfl rfl rfl (vs := (tabC (nextT t) (.slice r2 (nr + 1) c2) (.slice lo nl lc))) rfl rfl rfl ?_; intro w7 h4; have hC3 : St w [] w7 (.blk g4 27 (tabC (nextT t) (.slice r2 (nr + 1) c2) (.slice lo nl lc)) :: .blk g3 53 (cellsR ((.slice a9 y.2.l.length c9 : Value), (idR y t.next).2)) :: .blk g2 27 (tabC (nextT t) (.slice r2 (nr + 1) c2) (.slice lo nl lc)) :: .row (.slice r2 (nr + 1) c2) 53 44 (nr + 1) (recsV zs) :: .row (.slice a9 y.2.l.length c9) 102 2 y.2.l.length (addrsV y.2.l) :: .row (.slice lo nl lc) 3 1 nl (numsV t.lives) :: K) := h4; clear h4 hC2))
  have hl := Loads.atA (P := Tryz.prog) (off := 0) (T := 27) (tabC (nextT t) (.slice r2 (nr + 1) c2) (.slice lo nl lc)) [] hC3 rfl rfl
  refine bodyPost_ret (results_cellC rfl rfl hl) rfl ?_
  have hze : zs.map (·.2) = layL (idR y t.next).2 t.recs := by
    rw [HZE.out, List.map_append, HYE.out]
    show sortL (t.recs ++ [(idR y t.next).2]) = _
    rw [sortL_snoc, sortL_id HOK.out.lt]
  have hzn : zs.length = nr + 1 := by rw [HZP.out.length_eq, List.length_append, HYN.out]; rfl
  refine ⟨r2, lo, nr + 1, c2, nl, lc, zs, _, rfl, fun _ w2 _ L' hs hsub => own_tab (u := putT t y.2) hs (hsub _ (.tail _ (.tail _ (.tail _ (.head _))))) (hsub _ (.tail _ (.tail _ (.tail _ (.tail _ (.tail _ (.head _))))))) hzn HLV.out (fun z hz => ?_) hze ⟨by omega, by omega⟩, hC3⟩
  have h := HALL.out ys K a9 c9 HYO.out z (HZP.out.subset hz)
  refine ⟨hsub _ ?_, h.1, h.2.2.1⟩
  rcases h.2.2.2 with h | h
  · exact .tail _ (.tail _ (.tail _ (.tail _ (.tail _ (.tail _ h)))))
  · rw [h]; exact .tail _ (.tail _ (.tail _ (.tail _ (.head _))))
end Go.Proofs.YtifajcblbedcoaaGreat
namespace Go.Proofs.YtifajcblbedcoaaGreat
set_option linter.unusedVariables false
set_option linter.unusedSimpArgs false
open Go.RowKit Hp
attribute [local irreducible] Go.Calls Go.wpList
set_option maxRecDepth 100000
set_option maxHeartbeats 8000000
attribute [local go_sem ↓] heldInt heldInts heldRecs heldRec heldStr heldTab heldPtr heldFn
theorem opR_0 {t u : TC} (h : t.ok = true) : opR t (0, u) = (0, u) := by
  unfold opR
  rw [h]
  rfl
theorem opR_z {t : TC} {z : Int} (h : t.ok = true) : opR t (badR z) = badR z := by
  unfold opR
  rw [h]
  show (if (z == 0) then badR z else badR z) = _
  split <;> rfl
theorem opR_no {t : TC} {r : TR} (h : t.ok = false) : opR t r = badR 2 := by
  unfold opR
  rw [h]
  rfl
/-- A record that is found. -/
theorem found_at {w : World} {t : TC} {ar al : Option Addr} {nr cr nl cl : Nat} {xs : List (Value × RC)} (ht : TabIn w t ar nr cr al nl cl xs) {nm : List UInt8} {y : RC} (h : recAt nm t.recs = some y) :
    ∃ (j : Nat) (v : Value) (lb lo : Nat), findP nm t.recs = ((j : Int), true) ∧ xs[j]? = some (v, y) ∧ j < nr ∧ ar = some ⟨lb, lo, none⟩ ∧ RC.In w (v, y) ∧ w.rangeAt lb (lo + j * 44) (cellsR (v, y)) := by
  rcases find_split (nm := nm) (l := t.recs) with ⟨h1, _⟩ | ⟨j, y', h1, h2, _, h4, _⟩
  · rw [h1] at h; cases h
  · rw [h2] at h
    cases h
    have hj : j < nr := by rw [← ht.len]; exact (List.getElem?_eq_some_iff.1 h1).1
    obtain ⟨x, lb, lo, hx, har, hin, hr⟩ := RecsIn.at ht.R hj
    have e := recs_at ht hx
    rw [h1] at e
    cases e
    exact ⟨j, x.1, lb, lo, h4, hx, hj, har, hin, hr⟩
theorem Hp.St.shift1 {w0 w : World} {M : List Nat} {L K : List HA} {a : HA} (h : St w0 M w (L ++ (a :: K))) : St w0 M w ((L ++ [a]) ++ K) := by simpa using h
theorem found_no {t : TC} {nm : List UInt8} (h : recAt nm t.recs = none) : findP nm t.recs = (0, false) := by
  rcases find_split (nm := nm) (l := t.recs) with ⟨_, h1⟩ | ⟨j, y', _, h2, _, _, _⟩
  · exact h1
  · rw [h2] at h; cases h
theorem refMake13 (t : TC) (ar al : Option Addr) (nr cr nl cl : Nat) (xs : List (Value × RC)) (w : World) (ht : TabIn w t ar nr cr al nl cl xs) (nm : List UInt8) (size txg : Int) (hnm : nm.length ≤ 1000000) :
    Calls Tryz.prog 33 #[.agg (tabC t (.slice ar nr cr) (.slice al nl cl)).toArray, .string ⟨nm.toArray⟩, .int .i64 size, .int .i64 txg] w (RefRet (opR t (makeR t nm size txg)) w) := by
  have hst0 := St.refl w
  have HT := hid ht
  have b1 := ht.br
  have b2 := ht.bl
  obtain ⟨r, hr⟩ : ∃ r, r = opR t (makeR t nm size txg) := ⟨_, rfl⟩
  rw [← hr]
  cases hok : t.ok
  · have HE := hid (err_no hok)
    have HB := hid (show r = badR 2 by rw [hr]; exact opR_no hok)
    clear ht hr hok
    go_enter Tryz.func33, Tryz.ntmps33
    go_wp2_with (first | go_big_skip | go_big_guard | (refine wl_boxA hst0 rfl rfl rfl ?_; intro gb w1 hA0; clear hst0) | (refine wl_alloc hA0 rfl rfl ?_; intro gz w2 hst; clear hA0) | (refine wl_loadE rfl rfl rfl ?_; first | refine ⟨_, Loads.atA (tabC t (.slice ar nr cr) (.slice al nl cl)) [_] hst rfl rfl, ?_⟩ | refine ⟨_, Loads.at [_] hst rfl, ?_⟩) | (go_at_call 86; refine (refCheck12_any t ar al nr cr nl cl xs _ (HT.out.R.old hst.nil) HT.out.eq (by omega) (Rd.old hst.nil HT.out.L) HT.out.ln (by omega)).mono ?_; rw [HE.out]; rintro _ w9 ⟨rfl, h4⟩; replace hst := St.call0 hst h4; clear h4) | (refine wl_build0 rfl rfl ?_) | (refine wl_storeA [] hst rfl rfl rfl rfl rfl rfl rfl ?_; intro w7 hZ; clear hst))
    have hl := Loads.atA (P := Tryz.prog) (off := 0) (T := 27) tab0 [] hZ rfl rfl
    refine bodyPost_ret (results_cellR rfl rfl rfl hl) rfl ?_
    rw [HB.out]
    exact refRet_bad hZ _
  · have HE := hid (err_yes hok)
    have HOK := hid (okP_iff.1 hok)
    clear ht
    obtain ⟨p, hp⟩ : ∃ p, partB nm = p := ⟨_, rfl⟩
    obtain ⟨q, hq⟩ : ∃ q, inB size 1 64 = q := ⟨_, rfl⟩
    obtain ⟨s, hs⟩ : ∃ s, inB txg 1 2147483648 = s := ⟨_, rfl⟩
    obtain ⟨z, hz⟩ : ∃ z, roomE t nm = z := ⟨_, rfl⟩
    have hv : r = opR t (if (p && q) && s then (if z == 0 then (0, putT t (volR nm size txg)) else badR z) else badR 2) := by rw [hr]; unfold makeR txgB; rw [hp, hq, hs, hz]
    have HP := hid hp
    have HQ := hid hq
    have HS := hid hs
    have HZ := hid hz
    clear hr hp hq hs hz
    cases p <;> cases q <;> cases s
    case true.true.true =>
      cases hzz : (z == 0)
      · have dz : (z != 0) = true := by unfold bne; rw [hzz]; rfl
        have HB := hid (show r = badR z by rw [hv]; show opR t (if z == 0 then _ else badR z) = _; rw [hzz]; exact opR_z hok)
        clear hv hok hzz
        go_enter Tryz.func33, Tryz.ntmps33
        go_wp2_with (first | go_big_skip | go_big_guard | (refine wl_boxA hst0 rfl rfl rfl ?_; intro gb w1 hA0; clear hst0) | (refine wl_alloc hA0 rfl rfl ?_; intro gz w2 hst; clear hA0) | (refine wl_loadE rfl rfl rfl ?_; first | refine ⟨_, Loads.atA (tabC t (.slice ar nr cr) (.slice al nl cl)) [_] hst rfl rfl, ?_⟩ | refine ⟨_, Loads.at [_] hst rfl, ?_⟩) | (go_at_call 86; refine (refCheck12_any t ar al nr cr nl cl xs _ (HT.out.R.old hst.nil) HT.out.eq (by omega) (Rd.old hst.nil HT.out.L) HT.out.ln (by omega)).mono ?_; rw [HE.out]; rintro _ w9 ⟨rfl, h4⟩; replace hst := St.call0 hst h4; clear h4) | (go_at_call 87; refine (refVolume_any nm _ (by omega)).mono ?_; rw [HP.out]; rintro _ w9 ⟨rfl, h4⟩; replace hst := St.call0 hst h4; clear h4) | (go_at_call 42; refine (refWithin13 _ _ _ _).mono ?_; (first | rw [HQ.out] | rw [HS.out]); rintro _ w9 ⟨rfl, h4⟩; replace hst := St.call0 hst h4; clear h4) | (go_at_call 88; refine (refRoom13 t ar al nr cr nl cl xs _ nm (HT.out.old hst.nil)).mono ?_; rw [HZ.out]; rintro _ w9 ⟨rfl, h4⟩; replace hst := St.call0 hst h4; clear h4) | (refine wl_build0 rfl rfl ?_) | (refine wl_storeA [] hst rfl rfl rfl rfl rfl rfl rfl ?_; intro w7 hZ; clear hst))
        have hl := Loads.atA (P := Tryz.prog) (off := 0) (T := 27) tab0 [] hZ rfl rfl
        refine bodyPost_ret (results_cellR rfl rfl rfl hl) rfl ?_
        rw [HB.out]
        exact refRet_bad hZ _
      · have dz : (z != 0) = false := by unfold bne; rw [hzz]; rfl
        have HB := hid (show r = (0, putT t (volR nm size txg)) by rw [hv]; show opR t (if z == 0 then _ else badR z) = _; rw [hzz]; exact opR_0 hok)
        clear hv hok hzz
        go_enter Tryz.func33, Tryz.ntmps33
        go_wp2_with (first | go_big_skip | go_big_guard | (refine wl_boxA hst0 rfl rfl rfl ?_; intro gb w1 hA0; clear hst0) | (refine wl_alloc hA0 rfl rfl ?_; intro gz w2 hst; clear hA0) | (refine wl_loadE rfl rfl rfl ?_; first | refine ⟨_, Loads.atA (tabC t (.slice ar nr cr) (.slice al nl cl)) [_] hst rfl rfl, ?_⟩ | refine ⟨_, Loads.at [_] hst rfl, ?_⟩) | (go_at_call 86; refine (refCheck12_any t ar al nr cr nl cl xs _ (HT.out.R.old hst.nil) HT.out.eq (by omega) (Rd.old hst.nil HT.out.L) HT.out.ln (by omega)).mono ?_; rw [HE.out]; rintro _ w9 ⟨rfl, h4⟩; replace hst := St.call0 hst h4; clear h4) | (go_at_call 87; refine (refVolume_any nm _ (by omega)).mono ?_; rw [HP.out]; rintro _ w9 ⟨rfl, h4⟩; replace hst := St.call0 hst h4; clear h4) | (go_at_call 42; refine (refWithin13 _ _ _ _).mono ?_; (first | rw [HQ.out] | rw [HS.out]); rintro _ w9 ⟨rfl, h4⟩; replace hst := St.call0 hst h4; clear h4) | (go_at_call 88; refine (refRoom13 t ar al nr cr nl cl xs _ nm (HT.out.old hst.nil)).mono ?_; rw [HZ.out]; rintro _ w9 ⟨rfl, h4⟩; replace hst := St.call0 hst h4; clear h4) | (refine wl_buildX (cs := cellsR ((.slice none 0 0 : Value), volR nm size txg)) [(1, .string ⟨nm.toArray⟩), (2, .int .i64 1), (3, .int .i64 size), (5, .int .i64 txg)] rfl rfl (by exact rfl) (bldV _ _ _) ?_) | (go_at_call 89; refine (refPut13 t ar al nr cr nl cl xs _ ((.slice none 0 0 : Value), volR nm size txg) (HT.out.old hst.nil) HOK.out ⟨⟨L32.nones, none, 0, 0, rfl, Rd.nil _ _, rfl⟩, by show nm.length ≤ _; omega⟩ (by show 0 ≤ _; omega) hnm).mono ?_; rintro _ w9 ⟨a9, l9, n9, c9, m9, d9, xs9, L9, rfl, hin9, h4⟩; have hP := St.call hst h4; have HIN := hid hin9; clear h4 hin9 hst) | (refine wl_storeA L9 hP rfl rfl rfl rfl (vs := tabC (putT t (volR nm size txg)) (.slice a9 n9 c9) (.slice l9 m9 d9)) rfl rfl rfl ?_; intro w7 hZ; clear hP))
        have hl := Loads.atA (P := Tryz.prog) (off := 0) (T := 27) (tabC (putT t (volR nm size txg)) (.slice a9 n9 c9) (.slice l9 m9 d9)) L9 hZ rfl rfl
        refine bodyPost_ret (results_cellR rfl rfl rfl hl) rfl ?_
        rw [HB.out]
        exact ⟨a9, l9, n9, c9, m9, d9, xs9, _, rfl, fun w0 w8 M L' hs hsub => HIN.out w0 w8 M L' hs (fun y hy => hsub y (List.mem_append_left _ hy)), hZ⟩
    all_goals
      have HB := hid (show r = badR 2 by rw [hv]; exact opR_z hok)
      clear hv hok
      go_enter Tryz.func33, Tryz.ntmps33
      go_wp2_with (first | go_big_skip | go_big_guard | (refine wl_boxA hst0 rfl rfl rfl ?_; intro gb w1 hA0; clear hst0) | (refine wl_alloc hA0 rfl rfl ?_; intro gz w2 hst; clear hA0) | (refine wl_loadE rfl rfl rfl ?_; first | refine ⟨_, Loads.atA (tabC t (.slice ar nr cr) (.slice al nl cl)) [_] hst rfl rfl, ?_⟩ | refine ⟨_, Loads.at [_] hst rfl, ?_⟩) | (go_at_call 86; refine (refCheck12_any t ar al nr cr nl cl xs _ (HT.out.R.old hst.nil) HT.out.eq (by omega) (Rd.old hst.nil HT.out.L) HT.out.ln (by omega)).mono ?_; rw [HE.out]; rintro _ w9 ⟨rfl, h4⟩; replace hst := St.call0 hst h4; clear h4) | (go_at_call 87; refine (refVolume_any nm _ (by omega)).mono ?_; rw [HP.out]; rintro _ w9 ⟨rfl, h4⟩; replace hst := St.call0 hst h4; clear h4) | (go_at_call 42; refine (refWithin13 _ _ _ _).mono ?_; (first | rw [HQ.out] | rw [HS.out]); rintro _ w9 ⟨rfl, h4⟩; replace hst := St.call0 hst h4; clear h4) | (refine wl_build0 rfl rfl ?_) | (refine wl_storeA [] hst rfl rfl rfl rfl rfl rfl rfl ?_; intro w7 hZ; clear hst))
      have hl := Loads.atA (P := Tryz.prog) (off := 0) (T := 27) tab0 [] hZ rfl rfl
      refine bodyPost_ret (results_cellR rfl rfl rfl hl) rfl ?_
      rw [HB.out]
      exact refRet_bad hZ _
theorem refSnap13 (t : TC) (ar al : Option Addr) (nr cr nl cl : Nat) (xs : List (Value × RC)) (w : World) (ht : TabIn w t ar nr cr al nl cl xs) (nm : List UInt8) (txg : Int) (hnm : nm.length ≤ 1000000) :
    Calls Tryz.prog 34 #[.agg (tabC t (.slice ar nr cr) (.slice al nl cl)).toArray, .string ⟨nm.toArray⟩, .int .i64 txg] w (RefRet (opR t (snapT t nm txg)) w) := by
  have hst0 := St.refl w
  have HT := hid ht
  have b1 := ht.br
  have b2 := ht.bl
  obtain ⟨r, hr⟩ : ∃ r, r = opR t (snapT t nm txg) := ⟨_, rfl⟩
  rw [← hr]
  obtain ⟨⟨a, b, f⟩, hx⟩ : ∃ p, splitL nm = p := ⟨_, rfl⟩
  have hal : a.length ≤ 1000000 := by have := (split_in nm hnm).1; rw [hx] at this; exact this
  have HX := hid hx
  cases hok : t.ok
  · have HE := hid (err_no hok)
    have HB := hid (show r = badR 2 by rw [hr]; exact opR_no hok)
    clear ht hr hok hx
    go_enter Tryz.func34, Tryz.ntmps34
    go_wp2_with (first | go_big_skip | go_big_guard | (refine wl_boxA hst0 rfl rfl rfl ?_; intro gb w1 hA0; clear hst0) | (refine wl_alloc hA0 rfl rfl ?_; intro gz w2 hst; clear hA0) | (go_at_call 90; refine (refSplit_any nm _ (by omega)).mono ?_; rw [HX.out]; rintro _ w9 ⟨rfl, h4⟩; replace hst := St.call0 hst h4; clear h4) | (refine wl_loadE rfl rfl rfl ?_; first | refine ⟨_, Loads.atA (tabC t (.slice ar nr cr) (.slice al nl cl)) [_] hst rfl rfl, ?_⟩ | refine ⟨_, Loads.at [_] hst rfl, ?_⟩) | (go_at_call 86; refine (refCheck12_any t ar al nr cr nl cl xs _ (HT.out.R.old hst.nil) HT.out.eq (by omega) (Rd.old hst.nil HT.out.L) HT.out.ln (by omega)).mono ?_; rw [HE.out]; rintro _ w9 ⟨rfl, h4⟩; replace hst := St.call0 hst h4; clear h4) | (refine wl_build0 rfl rfl ?_) | (refine wl_storeA [] hst rfl rfl rfl rfl rfl rfl rfl ?_; intro w7 hZ; clear hst))
    have hl := Loads.atA (P := Tryz.prog) (off := 0) (T := 27) tab0 [] hZ rfl rfl
    refine bodyPost_ret (results_cellR rfl rfl rfl hl) rfl ?_
    rw [HB.out]
    exact refRet_bad hZ _
  · have HE := hid (err_yes hok)
    have HOK := hid (okP_iff.1 hok)
    clear ht
    obtain ⟨s, hs⟩ : ∃ s, inB txg 1 2147483648 = s := ⟨_, rfl⟩
    obtain ⟨z, hz⟩ : ∃ z, roomE t nm = z := ⟨_, rfl⟩
    have he : r = opR t (if f && s then (match recAt a t.recs with
      | none => badR 6
      | some v => if z == 0 then (if decide (txg < v.b) then badR 2 else (0, putT t (snapR v nm txg))) else badR z) else badR 2) := by
      rw [hr]; unfold snapT snapB txgB; rw [hx, hs, hz]; rfl
    have HS := hid hs
    have HZ := hid hz
    clear hr hs hz hx
    cases f <;> cases s
    case true.true =>
      cases hv : recAt a t.recs with
      | none =>
        have HB := hid (show r = badR 6 by rw [he, hv]; exact opR_z hok)
        have HF := hid (found_no hv)
        clear he hok hv
        go_enter Tryz.func34, Tryz.ntmps34
        go_wp2_with (first | go_big_skip | go_big_guard | (refine wl_boxA hst0 rfl rfl rfl ?_; intro gb w1 hA0; clear hst0) | (refine wl_alloc hA0 rfl rfl ?_; intro gz w2 hst; clear hA0) | (go_at_call 90; refine (refSplit_any nm _ (by omega)).mono ?_; rw [HX.out]; rintro _ w9 ⟨rfl, h4⟩; replace hst := St.call0 hst h4; clear h4) | (refine wl_loadE rfl rfl rfl ?_; first | refine ⟨_, Loads.atA (tabC t (.slice ar nr cr) (.slice al nl cl)) [_] hst rfl rfl, ?_⟩ | refine ⟨_, Loads.at [_] hst rfl, ?_⟩) | (go_at_call 86; refine (refCheck12_any t ar al nr cr nl cl xs _ (HT.out.R.old hst.nil) HT.out.eq (by omega) (Rd.old hst.nil HT.out.L) HT.out.ln (by omega)).mono ?_; rw [HE.out]; rintro _ w9 ⟨rfl, h4⟩; replace hst := St.call0 hst h4; clear h4) | (go_at_call 42; refine (refWithin13 _ _ _ _).mono ?_; rw [HS.out]; rintro _ w9 ⟨rfl, h4⟩; replace hst := St.call0 hst h4; clear h4) | (go_at_call 91; refine (refFind_any t (.slice al nl cl) a ar nr cr xs _ (HT.out.R.old hst) (by omega)).mono ?_; rw [HT.out.eq, HF.out]; rintro _ w9 ⟨rfl, h4⟩; replace hst := St.call0 hst h4; clear h4) | (refine wl_build0 rfl rfl ?_) | (refine wl_storeA [] hst rfl rfl rfl rfl rfl rfl rfl ?_; intro w7 hZ; clear hst))
        have hl := Loads.atA (P := Tryz.prog) (off := 0) (T := 27) tab0 [] hZ rfl rfl
        refine bodyPost_ret (results_cellR rfl rfl rfl hl) rfl ?_
        rw [HB.out]
        exact refRet_bad hZ _
      | some v =>
        rw [hv] at he
        obtain ⟨j, sv, lb, lo, hf, hx, hlt, har, hin, hrx⟩ := found_at HT.out hv
        subst har
        have HF := hid hf
        have HRX := hid hrx
        have HIX := hid hin
        have HLL := hid hin.L
        have HL44 := hid (cellsR_len hin.L)
        have H35 := hid (PV.len (p := v.pv sv) hin.L)
        have HVL := hid (birth_le hok (List.mem_of_find?_eq_some hv)).1
        clear hf hx hrx hin
        cases hzz : (z == 0)
        · have dz : (z != 0) = true := by unfold bne; rw [hzz]; rfl
          have HB := hid (show r = badR z by rw [he]; show opR t (if z == 0 then _ else badR z) = _; rw [hzz]; exact opR_z hok)
          clear he hok hv hzz
          go_enter Tryz.func34, Tryz.ntmps34
          go_wp2_with (first | go_big_skip | go_big_guard | (refine wl_boxA hst0 rfl rfl rfl ?_; intro gb w1 hA0; clear hst0) | (refine wl_alloc hA0 rfl rfl ?_; intro gz w2 hst; clear hA0) | (go_at_call 90; refine (refSplit_any nm _ (by omega)).mono ?_; rw [HX.out]; rintro _ w9 ⟨rfl, h4⟩; replace hst := St.call0 hst h4; clear h4) | (refine wl_loadE rfl rfl rfl ?_; first | refine ⟨_, Loads.atA (tabC t (.slice (some ⟨lb, lo, none⟩) nr cr) (.slice al nl cl)) [_] hst rfl rfl, ?_⟩ | refine ⟨_, Loads.at [_] hst rfl, ?_⟩ | refine ⟨_, Loads.oldA (cs := cellsR (sv, v)) hst HL44.out HRX.out, ?_⟩ | refine ⟨.int .i64 v.b, Loads.at [] hst4 rfl, ?_⟩ | refine ⟨.int .i64 v.size, Loads.at [] hst4 rfl, ?_⟩ | refine ⟨.int .i64 v.id, Loads.at [] hst4 rfl, ?_⟩ | refine ⟨_, Loads.atA (tabC t (.slice (some ⟨lb, lo, none⟩) nr cr) (.slice al nl cl)) [_, _] hst4 rfl rfl, ?_⟩ | refine ⟨_, Loads.atA (PV.cells (v.pv sv)) [] hst4 H35.out (cellsR_root (x := (sv, v)) HLL.out), ?_⟩) | (go_at_call 86; refine (refCheck12_any t (some ⟨lb, lo, none⟩) al nr cr nl cl xs _ (HT.out.R.old hst.nil) HT.out.eq (by omega) (Rd.old hst.nil HT.out.L) HT.out.ln (by omega)).mono ?_; rw [HE.out]; rintro _ w9 ⟨rfl, h4⟩; replace hst := St.call0 hst h4; clear h4) | (go_at_call 42; refine (refWithin13 _ _ _ _).mono ?_; rw [HS.out]; rintro _ w9 ⟨rfl, h4⟩; replace hst := St.call0 hst h4; clear h4) | (go_at_call 91; refine (refFind_any t (.slice al nl cl) a (some ⟨lb, lo, none⟩) nr cr xs _ (HT.out.R.old hst) (by omega)).mono ?_; rw [HT.out.eq, HF.out]; rintro _ w9 ⟨rfl, h4⟩; replace hst := St.call0 hst h4; clear h4) | (go_at_call 88; refine (refRoom13 t (some ⟨lb, lo, none⟩) al nr cr nl cl xs _ nm (HT.out.old hst.nil)).mono ?_; rw [HZ.out]; rintro _ w9 ⟨rfl, h4⟩; replace hst := St.call0 hst h4; clear h4) | (refine wl_build0 rfl rfl ?_) | (refine wl_storeA [] hst rfl rfl rfl rfl rfl rfl rfl ?_; intro w7 hZ; clear hst))
          have hl := Loads.atA (P := Tryz.prog) (off := 0) (T := 27) tab0 [] hZ rfl rfl
          refine bodyPost_ret (results_cellR rfl rfl rfl hl) rfl ?_
          rw [HB.out]
          exact refRet_bad hZ _
        · have dz : (z != 0) = false := by unfold bne; rw [hzz]; rfl
          by_cases hb : txg < v.b
          · have db : decide (txg < v.b) = true := decide_eq_true hb
            have HB := hid (show r = badR 2 by rw [he]; show opR t (if z == 0 then (if decide (txg < v.b) then _ else _) else badR z) = _; rw [hzz, db]; exact opR_z hok)
            clear he hok hv hzz hb
            go_enter Tryz.func34, Tryz.ntmps34
            go_wp2_with (first | go_big_skip | go_big_guard | (refine wl_boxA hst0 rfl rfl rfl ?_; intro gb w1 hA0; clear hst0) | (refine wl_alloc hA0 rfl rfl ?_; intro gz w2 hst; clear hA0) | (go_at_call 90; refine (refSplit_any nm _ (by omega)).mono ?_; rw [HX.out]; rintro _ w9 ⟨rfl, h4⟩; replace hst := St.call0 hst h4; clear h4) | (refine wl_loadE rfl rfl rfl ?_; first | refine ⟨_, Loads.atA (tabC t (.slice (some ⟨lb, lo, none⟩) nr cr) (.slice al nl cl)) [_] hst rfl rfl, ?_⟩ | refine ⟨_, Loads.at [_] hst rfl, ?_⟩ | refine ⟨_, Loads.oldA (cs := cellsR (sv, v)) hst HL44.out HRX.out, ?_⟩ | refine ⟨.int .i64 v.b, Loads.at [] hst4 rfl, ?_⟩ | refine ⟨.int .i64 v.size, Loads.at [] hst4 rfl, ?_⟩ | refine ⟨.int .i64 v.id, Loads.at [] hst4 rfl, ?_⟩ | refine ⟨_, Loads.atA (tabC t (.slice (some ⟨lb, lo, none⟩) nr cr) (.slice al nl cl)) [_, _] hst4 rfl rfl, ?_⟩ | refine ⟨_, Loads.atA (PV.cells (v.pv sv)) [] hst4 H35.out (cellsR_root (x := (sv, v)) HLL.out), ?_⟩) | (go_at_call 86; refine (refCheck12_any t (some ⟨lb, lo, none⟩) al nr cr nl cl xs _ (HT.out.R.old hst.nil) HT.out.eq (by omega) (Rd.old hst.nil HT.out.L) HT.out.ln (by omega)).mono ?_; rw [HE.out]; rintro _ w9 ⟨rfl, h4⟩; replace hst := St.call0 hst h4; clear h4) | (go_at_call 42; refine (refWithin13 _ _ _ _).mono ?_; rw [HS.out]; rintro _ w9 ⟨rfl, h4⟩; replace hst := St.call0 hst h4; clear h4) | (go_at_call 91; refine (refFind_any t (.slice al nl cl) a (some ⟨lb, lo, none⟩) nr cr xs _ (HT.out.R.old hst) (by omega)).mono ?_; rw [HT.out.eq, HF.out]; rintro _ w9 ⟨rfl, h4⟩; replace hst := St.call0 hst h4; clear h4) | (go_at_call 88; refine (refRoom13 t (some ⟨lb, lo, none⟩) al nr cr nl cl xs _ nm (HT.out.old hst.nil)).mono ?_; rw [HZ.out]; rintro _ w9 ⟨rfl, h4⟩; replace hst := St.call0 hst h4; clear h4) | (refine wl_index rfl rfl rfl rfl hlt ?_) | (refine wl_alloc hst rfl rfl ?_; intro g9 w3 hst3; clear hst) | (refine wl_storeA [] hst3 rfl rfl rfl rfl (by exact HL44.out) (cellsR_ones HIX.out) rfl ?_; intro w4 hst4; clear hst3) | (refine wl_build0 rfl rfl ?_) | (refine wl_storeA [_] hst4 rfl rfl rfl rfl rfl rfl rfl ?_; intro w7 hZ; clear hst4))
            have hl := Loads.atA (P := Tryz.prog) (off := 0) (T := 27) tab0 [_] hZ rfl rfl
            refine bodyPost_ret (results_cellR rfl rfl rfl hl) rfl ?_
            rw [HB.out]
            exact refRet_bad hZ _
          · have db : decide (txg < v.b) = false := decide_eq_false hb
            have HB := hid (show r = (0, putT t (snapR v nm txg)) by rw [he]; show opR t (if z == 0 then (if decide (txg < v.b) then _ else _) else badR z) = _; rw [hzz, db]; exact opR_0 hok)
            clear he hok hv hzz hb
            go_enter Tryz.func34, Tryz.ntmps34
            go_wp2_with (first | go_big_skip | go_big_guard | (refine wl_boxA hst0 rfl rfl rfl ?_; intro gb w1 hA0; clear hst0) | (refine wl_alloc hA0 rfl rfl ?_; intro gz w2 hst; clear hA0) | (go_at_call 90; refine (refSplit_any nm _ (by omega)).mono ?_; rw [HX.out]; rintro _ w9 ⟨rfl, h4⟩; replace hst := St.call0 hst h4; clear h4) | (refine wl_loadE rfl rfl rfl ?_; first | refine ⟨_, Loads.atA (tabC t (.slice (some ⟨lb, lo, none⟩) nr cr) (.slice al nl cl)) [_] hst rfl rfl, ?_⟩ | refine ⟨_, Loads.at [_] hst rfl, ?_⟩ | refine ⟨_, Loads.oldA (cs := cellsR (sv, v)) hst HL44.out HRX.out, ?_⟩ | refine ⟨.int .i64 v.b, Loads.at [] hst4 rfl, ?_⟩ | refine ⟨.int .i64 v.size, Loads.at [] hst4 rfl, ?_⟩ | refine ⟨.int .i64 v.id, Loads.at [] hst4 rfl, ?_⟩ | refine ⟨_, Loads.atA (tabC t (.slice (some ⟨lb, lo, none⟩) nr cr) (.slice al nl cl)) [_, _] hst4 rfl rfl, ?_⟩ | refine ⟨_, Loads.atA (PV.cells (v.pv sv)) [] hst4 H35.out (cellsR_root (x := (sv, v)) HLL.out), ?_⟩) | (go_at_call 86; refine (refCheck12_any t (some ⟨lb, lo, none⟩) al nr cr nl cl xs _ (HT.out.R.old hst.nil) HT.out.eq (by omega) (Rd.old hst.nil HT.out.L) HT.out.ln (by omega)).mono ?_; rw [HE.out]; rintro _ w9 ⟨rfl, h4⟩; replace hst := St.call0 hst h4; clear h4) | (go_at_call 42; refine (refWithin13 _ _ _ _).mono ?_; rw [HS.out]; rintro _ w9 ⟨rfl, h4⟩; replace hst := St.call0 hst h4; clear h4) | (go_at_call 91; refine (refFind_any t (.slice al nl cl) a (some ⟨lb, lo, none⟩) nr cr xs _ (HT.out.R.old hst) (by omega)).mono ?_; rw [HT.out.eq, HF.out]; rintro _ w9 ⟨rfl, h4⟩; replace hst := St.call0 hst h4; clear h4) | (go_at_call 88; refine (refRoom13 t (some ⟨lb, lo, none⟩) al nr cr nl cl xs _ nm (HT.out.old hst.nil)).mono ?_; rw [HZ.out]; rintro _ w9 ⟨rfl, h4⟩; replace hst := St.call0 hst h4; clear h4) | (refine wl_index rfl rfl rfl rfl hlt ?_) | (refine wl_alloc hst rfl rfl ?_; intro g9 w3 hst3; clear hst) | (refine wl_storeA [] hst3 rfl rfl rfl rfl (by exact HL44.out) (cellsR_ones HIX.out) rfl ?_; intro w4 hst4; clear hst3) | (refine wl_buildX (cs := cellsR ((sv : Value), snapR v nm txg)) [(1, .string ⟨nm.toArray⟩), (2, .int .i64 2), (3, .int .i64 v.size), (4, .agg (PV.cells ((v.pv undef).re sv)).toArray), (5, .int .i64 txg), (6, .int .i64 v.id)] rfl rfl (by exact rfl) (bldSnap HLL.out _ _ _) ?_) | (go_at_call 89; refine (refPut13 t (some ⟨lb, lo, none⟩) al nr cr nl cl xs _ ((sv : Value), snapR v nm txg) (HT.out.old hst4.nil) HOK.out ⟨(HIX.out.old hst4).1, by show nm.length ≤ _; omega⟩ (by have := HVL.out; show v.l.length ≤ _; omega) (by show nm.length ≤ _; omega)).mono ?_; rintro _ w9 ⟨a9, l9, n9, c9, m9, d9, xs9, L9, rfl, hin9, h4⟩; have hP := St.call hst4 h4; have HIN := hid hin9; clear h4 hin9 hst4) | (refine wl_storeA (L9 ++ [_]) (Hp.St.shift1 hP) rfl rfl rfl rfl (vs := tabC (putT t (snapR v nm txg)) (.slice a9 n9 c9) (.slice l9 m9 d9)) rfl rfl rfl ?_; intro w7 hZ; clear hP))
            have hl := Loads.atA (P := Tryz.prog) (off := 0) (T := 27) (tabC (putT t (snapR v nm txg)) (.slice a9 n9 c9) (.slice l9 m9 d9)) (L9 ++ [_]) hZ rfl rfl
            refine bodyPost_ret (results_cellR rfl rfl rfl hl) rfl ?_
            rw [HB.out]
            exact ⟨a9, l9, n9, c9, m9, d9, xs9, _, rfl, fun w0 w8 M L' hs hsub => HIN.out w0 w8 M L' hs (fun y hy => hsub y (List.mem_append_left _ (List.mem_append_left _ hy))), hZ⟩
    all_goals
      have HB := hid (show r = badR 2 by rw [he]; exact opR_z hok)
      clear he hok
      go_enter Tryz.func34, Tryz.ntmps34
      go_wp2_with (first | go_big_skip | go_big_guard | (refine wl_boxA hst0 rfl rfl rfl ?_; intro gb w1 hA0; clear hst0) | (refine wl_alloc hA0 rfl rfl ?_; intro gz w2 hst; clear hA0) | (go_at_call 90; refine (refSplit_any nm _ (by omega)).mono ?_; rw [HX.out]; rintro _ w9 ⟨rfl, h4⟩; replace hst := St.call0 hst h4; clear h4) | (refine wl_loadE rfl rfl rfl ?_; first | refine ⟨_, Loads.atA (tabC t (.slice ar nr cr) (.slice al nl cl)) [_] hst rfl rfl, ?_⟩ | refine ⟨_, Loads.at [_] hst rfl, ?_⟩) | (go_at_call 86; refine (refCheck12_any t ar al nr cr nl cl xs _ (HT.out.R.old hst.nil) HT.out.eq (by omega) (Rd.old hst.nil HT.out.L) HT.out.ln (by omega)).mono ?_; rw [HE.out]; rintro _ w9 ⟨rfl, h4⟩; replace hst := St.call0 hst h4; clear h4) | (go_at_call 42; refine (refWithin13 _ _ _ _).mono ?_; rw [HS.out]; rintro _ w9 ⟨rfl, h4⟩; replace hst := St.call0 hst h4; clear h4) | (refine wl_build0 rfl rfl ?_) | (refine wl_storeA [] hst rfl rfl rfl rfl rfl rfl rfl ?_; intro w7 hZ; clear hst))
      have hl := Loads.atA (P := Tryz.prog) (off := 0) (T := 27) tab0 [] hZ rfl rfl
      refine bodyPost_ret (results_cellR rfl rfl rfl hl) rfl ?_
      rw [HB.out]
      exact refRet_bad hZ _
theorem refClone13 (t : TC) (ar al : Option Addr) (nr cr nl cl : Nat) (xs : List (Value × RC)) (w : World) (ht : TabIn w t ar nr cr al nl cl xs) (sp nm : List UInt8) (txg : Int) (hsp : sp.length ≤ 1000000) (hnm : nm.length ≤ 1000000) :
    Calls Tryz.prog 35 #[.agg (tabC t (.slice ar nr cr) (.slice al nl cl)).toArray, .string ⟨sp.toArray⟩, .string ⟨nm.toArray⟩, .int .i64 txg] w (RefRet (opR t (cloneT t sp nm txg)) w) := by
  have hst0 := St.refl w
  have HT := hid ht
  have b1 := ht.br
  have b2 := ht.bl
  obtain ⟨r, hr⟩ : ∃ r, r = opR t (cloneT t sp nm txg) := ⟨_, rfl⟩
  rw [← hr]
  cases hok : t.ok
  · have HE := hid (err_no hok)
    have HB := hid (show r = badR 2 by rw [hr]; exact opR_no hok)
    clear ht hr hok
    go_enter Tryz.func35, Tryz.ntmps35
    go_wp2_with (first | go_big_skip | go_big_guard | (refine wl_boxA hst0 rfl rfl rfl ?_; intro gb w1 hA0; clear hst0) | (refine wl_alloc hA0 rfl rfl ?_; intro gz w2 hst; clear hA0) | (refine wl_loadE rfl rfl rfl ?_; first | refine ⟨_, Loads.atA (tabC t (.slice ar nr cr) (.slice al nl cl)) [_] hst rfl rfl, ?_⟩ | refine ⟨_, Loads.at [_] hst rfl, ?_⟩) | (go_at_call 86; refine (refCheck12_any t ar al nr cr nl cl xs _ (HT.out.R.old hst.nil) HT.out.eq (by omega) (Rd.old hst.nil HT.out.L) HT.out.ln (by omega)).mono ?_; rw [HE.out]; rintro _ w9 ⟨rfl, h4⟩; replace hst := St.call0 hst h4; clear h4) | (refine wl_build0 rfl rfl ?_) | (refine wl_storeA [] hst rfl rfl rfl rfl rfl rfl rfl ?_; intro w7 hZ; clear hst))
    have hl := Loads.atA (P := Tryz.prog) (off := 0) (T := 27) tab0 [] hZ rfl rfl
    refine bodyPost_ret (results_cellR rfl rfl rfl hl) rfl ?_
    rw [HB.out]
    exact refRet_bad hZ _
  · have HE := hid (err_yes hok)
    have HOK := hid (okP_iff.1 hok)
    clear ht
    obtain ⟨p, hp⟩ : ∃ p, snapB sp = p := ⟨_, rfl⟩
    obtain ⟨q, hq⟩ : ∃ q, partB nm = q := ⟨_, rfl⟩
    obtain ⟨s, hs⟩ : ∃ s, inB txg 1 2147483648 = s := ⟨_, rfl⟩
    obtain ⟨z, hz⟩ : ∃ z, roomE t nm = z := ⟨_, rfl⟩
    have he : r = opR t (if (p && q) && s then (match recAt sp t.recs with
      | none => badR 6
      | some v => if z == 0 then (0, putT t (cloneR v nm txg)) else badR z) else badR 2) := by
      rw [hr]; unfold cloneT txgB; rw [hp, hq, hs, hz]; rfl
    have HP := hid hp
    have HQ := hid hq
    have HS := hid hs
    have HZ := hid hz
    clear hr hp hq hs hz
    cases p <;> cases q <;> cases s
    case true.true.true =>
      cases hv : recAt sp t.recs with
      | none =>
        have HB := hid (show r = badR 6 by rw [he, hv]; exact opR_z hok)
        have HF := hid (found_no hv)
        clear he hok hv
        go_enter Tryz.func35, Tryz.ntmps35
        go_wp2_with (first | go_big_skip | go_big_guard | (refine wl_boxA hst0 rfl rfl rfl ?_; intro gb w1 hA0; clear hst0) | (refine wl_alloc hA0 rfl rfl ?_; intro gz w2 hst; clear hA0) | (refine wl_loadE rfl rfl rfl ?_; first | refine ⟨_, Loads.atA (tabC t (.slice ar nr cr) (.slice al nl cl)) [_] hst rfl rfl, ?_⟩ | refine ⟨_, Loads.at [_] hst rfl, ?_⟩) | (go_at_call 86; refine (refCheck12_any t ar al nr cr nl cl xs _ (HT.out.R.old hst.nil) HT.out.eq (by omega) (Rd.old hst.nil HT.out.L) HT.out.ln (by omega)).mono ?_; rw [HE.out]; rintro _ w9 ⟨rfl, h4⟩; replace hst := St.call0 hst h4; clear h4) | (go_at_call 92; refine (refSnap_any sp _ (by omega)).mono ?_; rw [HP.out]; rintro _ w9 ⟨rfl, h4⟩; replace hst := St.call0 hst h4; clear h4) | (go_at_call 87; refine (refVolume_any nm _ (by omega)).mono ?_; rw [HQ.out]; rintro _ w9 ⟨rfl, h4⟩; replace hst := St.call0 hst h4; clear h4) | (go_at_call 42; refine (refWithin13 _ _ _ _).mono ?_; rw [HS.out]; rintro _ w9 ⟨rfl, h4⟩; replace hst := St.call0 hst h4; clear h4) | (go_at_call 91; refine (refFind_any t (.slice al nl cl) sp ar nr cr xs _ (HT.out.R.old hst) (by omega)).mono ?_; rw [HT.out.eq, HF.out]; rintro _ w9 ⟨rfl, h4⟩; replace hst := St.call0 hst h4; clear h4) | (refine wl_build0 rfl rfl ?_) | (refine wl_storeA [] hst rfl rfl rfl rfl rfl rfl rfl ?_; intro w7 hZ; clear hst))
        have hl := Loads.atA (P := Tryz.prog) (off := 0) (T := 27) tab0 [] hZ rfl rfl
        refine bodyPost_ret (results_cellR rfl rfl rfl hl) rfl ?_
        rw [HB.out]
        exact refRet_bad hZ _
      | some v =>
        rw [hv] at he
        obtain ⟨j, sv, lb, lo, hf, hx, hlt, har, hin, hrx⟩ := found_at HT.out hv
        subst har
        have HF := hid hf
        have HRX := hid hrx
        have HIX := hid hin
        have HLL := hid hin.L
        have HL44 := hid (cellsR_len hin.L)
        have H35 := hid (PV.len (p := v.pv sv) hin.L)
        have HVL := hid (birth_le hok (List.mem_of_find?_eq_some hv)).1
        clear hf hx hrx hin
        cases hzz : (z == 0)
        · have dz : (z != 0) = true := by unfold bne; rw [hzz]; rfl
          have HB := hid (show r = badR z by rw [he]; show opR t (if z == 0 then _ else badR z) = _; rw [hzz]; exact opR_z hok)
          clear he hok hv hzz
          go_enter Tryz.func35, Tryz.ntmps35
          go_wp2_with (first | go_big_skip | go_big_guard | (refine wl_boxA hst0 rfl rfl rfl ?_; intro gb w1 hA0; clear hst0) | (refine wl_alloc hA0 rfl rfl ?_; intro gz w2 hst; clear hA0) | (refine wl_loadE rfl rfl rfl ?_; first | refine ⟨_, Loads.atA (tabC t (.slice (some ⟨lb, lo, none⟩) nr cr) (.slice al nl cl)) [_] hst rfl rfl, ?_⟩ | refine ⟨_, Loads.at [_] hst rfl, ?_⟩ | refine ⟨_, Loads.oldA (cs := cellsR (sv, v)) hst HL44.out HRX.out, ?_⟩ | refine ⟨.int .i64 v.b, Loads.at [] hst4 rfl, ?_⟩ | refine ⟨.int .i64 v.size, Loads.at [] hst4 rfl, ?_⟩ | refine ⟨.int .i64 v.id, Loads.at [] hst4 rfl, ?_⟩ | refine ⟨_, Loads.atA (tabC t (.slice (some ⟨lb, lo, none⟩) nr cr) (.slice al nl cl)) [_, _] hst4 rfl rfl, ?_⟩ | refine ⟨_, Loads.atA (PV.cells (v.pv sv)) [] hst4 H35.out (cellsR_root (x := (sv, v)) HLL.out), ?_⟩) | (go_at_call 86; refine (refCheck12_any t (some ⟨lb, lo, none⟩) al nr cr nl cl xs _ (HT.out.R.old hst.nil) HT.out.eq (by omega) (Rd.old hst.nil HT.out.L) HT.out.ln (by omega)).mono ?_; rw [HE.out]; rintro _ w9 ⟨rfl, h4⟩; replace hst := St.call0 hst h4; clear h4) | (go_at_call 92; refine (refSnap_any sp _ (by omega)).mono ?_; rw [HP.out]; rintro _ w9 ⟨rfl, h4⟩; replace hst := St.call0 hst h4; clear h4) | (go_at_call 87; refine (refVolume_any nm _ (by omega)).mono ?_; rw [HQ.out]; rintro _ w9 ⟨rfl, h4⟩; replace hst := St.call0 hst h4; clear h4) | (go_at_call 42; refine (refWithin13 _ _ _ _).mono ?_; rw [HS.out]; rintro _ w9 ⟨rfl, h4⟩; replace hst := St.call0 hst h4; clear h4) | (go_at_call 91; refine (refFind_any t (.slice al nl cl) sp (some ⟨lb, lo, none⟩) nr cr xs _ (HT.out.R.old hst) (by omega)).mono ?_; rw [HT.out.eq, HF.out]; rintro _ w9 ⟨rfl, h4⟩; replace hst := St.call0 hst h4; clear h4) | (go_at_call 88; refine (refRoom13 t (some ⟨lb, lo, none⟩) al nr cr nl cl xs _ nm (HT.out.old hst.nil)).mono ?_; rw [HZ.out]; rintro _ w9 ⟨rfl, h4⟩; replace hst := St.call0 hst h4; clear h4) | (refine wl_build0 rfl rfl ?_) | (refine wl_storeA [] hst rfl rfl rfl rfl rfl rfl rfl ?_; intro w7 hZ; clear hst))
          have hl := Loads.atA (P := Tryz.prog) (off := 0) (T := 27) tab0 [] hZ rfl rfl
          refine bodyPost_ret (results_cellR rfl rfl rfl hl) rfl ?_
          rw [HB.out]
          exact refRet_bad hZ _
        · have dz : (z != 0) = false := by unfold bne; rw [hzz]; rfl
          have HB := hid (show r = (0, putT t (cloneR v nm txg)) by rw [he]; show opR t (if z == 0 then _ else badR z) = _; rw [hzz]; exact opR_0 hok)
          clear he hok hv hzz
          go_enter Tryz.func35, Tryz.ntmps35
          go_wp2_with (first | go_big_skip | go_big_guard | (refine wl_boxA hst0 rfl rfl rfl ?_; intro gb w1 hA0; clear hst0) | (refine wl_alloc hA0 rfl rfl ?_; intro gz w2 hst; clear hA0) | (refine wl_loadE rfl rfl rfl ?_; first | refine ⟨_, Loads.atA (tabC t (.slice (some ⟨lb, lo, none⟩) nr cr) (.slice al nl cl)) [_] hst rfl rfl, ?_⟩ | refine ⟨_, Loads.at [_] hst rfl, ?_⟩ | refine ⟨_, Loads.oldA (cs := cellsR (sv, v)) hst HL44.out HRX.out, ?_⟩ | refine ⟨.int .i64 v.b, Loads.at [] hst4 rfl, ?_⟩ | refine ⟨.int .i64 v.size, Loads.at [] hst4 rfl, ?_⟩ | refine ⟨.int .i64 v.id, Loads.at [] hst4 rfl, ?_⟩ | refine ⟨_, Loads.atA (tabC t (.slice (some ⟨lb, lo, none⟩) nr cr) (.slice al nl cl)) [_, _] hst4 rfl rfl, ?_⟩ | refine ⟨_, Loads.atA (PV.cells (v.pv sv)) [] hst4 H35.out (cellsR_root (x := (sv, v)) HLL.out), ?_⟩) | (go_at_call 86; refine (refCheck12_any t (some ⟨lb, lo, none⟩) al nr cr nl cl xs _ (HT.out.R.old hst.nil) HT.out.eq (by omega) (Rd.old hst.nil HT.out.L) HT.out.ln (by omega)).mono ?_; rw [HE.out]; rintro _ w9 ⟨rfl, h4⟩; replace hst := St.call0 hst h4; clear h4) | (go_at_call 92; refine (refSnap_any sp _ (by omega)).mono ?_; rw [HP.out]; rintro _ w9 ⟨rfl, h4⟩; replace hst := St.call0 hst h4; clear h4) | (go_at_call 87; refine (refVolume_any nm _ (by omega)).mono ?_; rw [HQ.out]; rintro _ w9 ⟨rfl, h4⟩; replace hst := St.call0 hst h4; clear h4) | (go_at_call 42; refine (refWithin13 _ _ _ _).mono ?_; rw [HS.out]; rintro _ w9 ⟨rfl, h4⟩; replace hst := St.call0 hst h4; clear h4) | (go_at_call 91; refine (refFind_any t (.slice al nl cl) sp (some ⟨lb, lo, none⟩) nr cr xs _ (HT.out.R.old hst) (by omega)).mono ?_; rw [HT.out.eq, HF.out]; rintro _ w9 ⟨rfl, h4⟩; replace hst := St.call0 hst h4; clear h4) | (go_at_call 88; refine (refRoom13 t (some ⟨lb, lo, none⟩) al nr cr nl cl xs _ nm (HT.out.old hst.nil)).mono ?_; rw [HZ.out]; rintro _ w9 ⟨rfl, h4⟩; replace hst := St.call0 hst h4; clear h4) | (refine wl_index rfl rfl rfl rfl hlt ?_) | (refine wl_alloc hst rfl rfl ?_; intro g9 w3 hst3; clear hst) | (refine wl_storeA [] hst3 rfl rfl rfl rfl (by exact HL44.out) (cellsR_ones HIX.out) rfl ?_; intro w4 hst4; clear hst3) | (refine wl_buildX (cs := cellsR ((sv : Value), cloneR v nm txg)) [(1, .string ⟨nm.toArray⟩), (2, .int .i64 1), (3, .int .i64 v.size), (4, .agg (PV.cells ((v.pv undef).re sv)).toArray), (5, .int .i64 txg), (7, .int .i64 v.id)] rfl rfl (by exact rfl) (bldClone HLL.out _ _ _) ?_) | (go_at_call 89; refine (refPut13 t (some ⟨lb, lo, none⟩) al nr cr nl cl xs _ ((sv : Value), cloneR v nm txg) (HT.out.old hst4.nil) HOK.out ⟨(HIX.out.old hst4).1, by show nm.length ≤ _; omega⟩ (by have := HVL.out; show v.l.length ≤ _; omega) (by show nm.length ≤ _; omega)).mono ?_; rintro _ w9 ⟨a9, l9, n9, c9, m9, d9, xs9, L9, rfl, hin9, h4⟩; have hP := St.call hst4 h4; have HIN := hid hin9; clear h4 hin9 hst4) | (refine wl_storeA (L9 ++ [_]) (Hp.St.shift1 hP) rfl rfl rfl rfl (vs := tabC (putT t (cloneR v nm txg)) (.slice a9 n9 c9) (.slice l9 m9 d9)) rfl rfl rfl ?_; intro w7 hZ; clear hP))
          have hl := Loads.atA (P := Tryz.prog) (off := 0) (T := 27) (tabC (putT t (cloneR v nm txg)) (.slice a9 n9 c9) (.slice l9 m9 d9)) (L9 ++ [_]) hZ rfl rfl
          refine bodyPost_ret (results_cellR rfl rfl rfl hl) rfl ?_
          rw [HB.out]
          exact ⟨a9, l9, n9, c9, m9, d9, xs9, _, rfl, fun w0 w8 M L' hs hsub => HIN.out w0 w8 M L' hs (fun y hy => hsub y (List.mem_append_left _ (List.mem_append_left _ hy))), hZ⟩
    all_goals
      have HB := hid (show r = badR 2 by rw [he]; exact opR_z hok)
      clear he hok
      go_enter Tryz.func35, Tryz.ntmps35
      go_wp2_with (first | go_big_skip | go_big_guard | (refine wl_boxA hst0 rfl rfl rfl ?_; intro gb w1 hA0; clear hst0) | (refine wl_alloc hA0 rfl rfl ?_; intro gz w2 hst; clear hA0) | (refine wl_loadE rfl rfl rfl ?_; first | refine ⟨_, Loads.atA (tabC t (.slice ar nr cr) (.slice al nl cl)) [_] hst rfl rfl, ?_⟩ | refine ⟨_, Loads.at [_] hst rfl, ?_⟩) | (go_at_call 86; refine (refCheck12_any t ar al nr cr nl cl xs _ (HT.out.R.old hst.nil) HT.out.eq (by omega) (Rd.old hst.nil HT.out.L) HT.out.ln (by omega)).mono ?_; rw [HE.out]; rintro _ w9 ⟨rfl, h4⟩; replace hst := St.call0 hst h4; clear h4) | (go_at_call 92; refine (refSnap_any sp _ (by omega)).mono ?_; rw [HP.out]; rintro _ w9 ⟨rfl, h4⟩; replace hst := St.call0 hst h4; clear h4) | (go_at_call 87; refine (refVolume_any nm _ (by omega)).mono ?_; rw [HQ.out]; rintro _ w9 ⟨rfl, h4⟩; replace hst := St.call0 hst h4; clear h4) | (go_at_call 42; refine (refWithin13 _ _ _ _).mono ?_; rw [HS.out]; rintro _ w9 ⟨rfl, h4⟩; replace hst := St.call0 hst h4; clear h4) | (refine wl_build0 rfl rfl ?_) | (refine wl_storeA [] hst rfl rfl rfl rfl rfl rfl rfl ?_; intro w7 hZ; clear hst))
      have hl := Loads.atA (P := Tryz.prog) (off := 0) (T := 27) tab0 [] hZ rfl rfl
      refine bodyPost_ret (results_cellR rfl rfl rfl hl) rfl ?_
      rw [HB.out]
      exact refRet_bad hZ _
end Go.Proofs.YtifajcblbedcoaaGreat
