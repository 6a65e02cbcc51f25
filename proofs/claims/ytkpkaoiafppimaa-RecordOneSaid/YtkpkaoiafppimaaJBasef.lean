/- A table written over: the verifier's OverTable. -/
import Derived.Test.YtkpkaoiafppimaaJBasee
import Derived.Test.YtkpkaoiafppimaaNum
import Derived.Test.YtkpkaoiafppimaaJBased
import Derived.Test.YtkpkaoiafppimaaPtrM
import Derived.Test.YtkpkaoiafppimaaSepQ
import Derived.Test.YtkpkaoiafppimaaJBasec
import Derived.Test.YtkpkaoiafppimaaT18
import Derived.Test.YtkpkaoiafppimaaT5
import Derived.Test.YtkpkaoiafppimaaJBasea
import Derived.Test.YtkpkaoiafppimaaSepP
import Derived.Deep.DeepCutAuto
namespace Go.Proofs.Ytkpkaoiafppimaa
set_option linter.unusedVariables false
set_option linter.unusedSimpArgs false
open Go.RowKit Hp
attribute [local irreducible] Go.Calls
set_option maxRecDepth 100000
set_option maxHeartbeats 4000000
theorem lives_no {l : List Int} {j : Nat} {x : Int} (h : l[j]? = some x) (hx : inB x 0 2147483647 = false) : (l.all fun n => inB n 0 2147483647) = false := by
  rw [List.all_eq_false]
  exact ⟨x, List.mem_of_getElem? h, by rw [hx]; simp⟩
theorem lives_all {l : List Int} (h : ∀ (i : Nat) (x : Int), l[i]? = some x → inB x 0 2147483647 = true) : (l.all fun n => inB n 0 2147483647) = true := by
  rw [List.all_eq_true]
  intro x hx
  obtain ⟨i, hi⟩ := List.getElem?_of_mem hx
  exact h i x hi
theorem refCheck12_any (t : TC) (ar al : Option Addr) (nr cr nl cl : Nat) (xs : List (Value × RC)) (w : World) (hR : RecsIn w (.slice ar nr cr) nr xs) (hx : xs.map (·.2) = t.recs) (hb : nr ≤ 1000000) (hl : Rd w (.slice al nl cl) 1 nl (numsV t.lives)) (hnl : t.lives.length = nl) (hbl : nl ≤ 1000000) :
    Calls Try.prog 27 #[.agg (tabC t (.slice ar nr cr) (.slice al nl cl)).toArray] w fun e w' => e = .returned (.int .i64 t.err) ∧ St w [] w' [] := by
  have hst0 := St.refl w
  have HR := hid hR
  have HX := hid hx
  have HLV := hid hl
  have HNL := hid hnl
  have hlen : t.recs.length = nr := by rw [← hx, List.length_map, hR.len]
  have HLN := hid hlen
  obtain ⟨E, hE⟩ : ∃ E, E = t.err := ⟨_, rfl⟩
  rw [← hE]
  have HE := hid hE
  have hsz : t.sizeB = ((inB t.next 1 2147483648 && decide ((nr : Int) ≤ 16)) && inB (nl : Int) 2 8) := by unfold TC.sizeB; rw [hlen, hnl]
  have HSZ := hid hsz
  have hrec : allAt (bothB t.next (xs.map (·.2))) (xs.map (·.2)) = (allAt (eachB t.recs) t.recs && allAt (relB t.next t.recs) t.recs) := by rw [both_all, hx]
  clear hR hx hl hnl hlen hE hsz
  obtain ⟨R, hRR⟩ : ∃ R, R = allAt (bothB t.next (xs.map (·.2))) (xs.map (·.2)) := ⟨_, rfl⟩
  have HRR := hid hRR
  rw [← hRR] at hrec
  have HREC := hid hrec
  clear hRR hrec
  cases d1 : inB t.next 1 2147483648
  · skip
    have hv : E = 2 := by rw [HE.out]; exact err_no (ok_size (by rw [HSZ.out, d1]; rfl))
    rw [hv]
    clear hv
    go_enter Try.func27, Try.ntmps27
    go_wp2_with (first | go_big_skip | go_big_guard | (refine wl_boxA hst0 rfl rfl rfl ?_; intro g1 w1 hst; clear hst0) | (refine wl_loadE rfl rfl rfl ?_; first | refine ⟨_, Loads.at [] hst rfl, ?_⟩ | refine ⟨_, Loads.atA (tabC t (.slice ar nr cr) (.slice al nl cl)) [] hst rfl rfl, ?_⟩ | refine ⟨_, Loads.atA [.int .i64 t.kind, .int .i64 t.dev, .int .i64 t.at_, .int .i64 t.txg] [] hst rfl rfl, ?_⟩) | (go_at_call 55; refine (refWithin_any _ _ _ _).mono ?_; rintro _ w9 ⟨rfl, h4⟩; replace hst := St.call0 hst h4; clear h4))
    go_ret
    exact ⟨rfl, hst.nil⟩
  · by_cases k2 : (16 : Int) < (nr : Int)
    · have d2 : decide ((16 : Int) < (nr : Int)) = true := decide_eq_true k2
      have d2' : decide ((nr : Int) > 16) = true := d2
      have hv : E = 2 := by rw [HE.out]; exact err_no (ok_size (by rw [HSZ.out, d1, decide_eq_false (by omega)]; rfl))
      rw [hv]
      clear hv
      go_enter Try.func27, Try.ntmps27
      go_wp2_with (first | go_big_skip | go_big_guard | (refine wl_boxA hst0 rfl rfl rfl ?_; intro g1 w1 hst; clear hst0) | (refine wl_loadE rfl rfl rfl ?_; first | refine ⟨_, Loads.at [] hst rfl, ?_⟩ | refine ⟨_, Loads.atA (tabC t (.slice ar nr cr) (.slice al nl cl)) [] hst rfl rfl, ?_⟩ | refine ⟨_, Loads.atA [.int .i64 t.kind, .int .i64 t.dev, .int .i64 t.at_, .int .i64 t.txg] [] hst rfl rfl, ?_⟩) | (go_at_call 55; refine (refWithin_any _ _ _ _).mono ?_; rintro _ w9 ⟨rfl, h4⟩; replace hst := St.call0 hst h4; clear h4))
      go_ret
      exact ⟨rfl, hst.nil⟩
    · have d2 : decide ((16 : Int) < (nr : Int)) = false := decide_eq_false k2
      have d2' : decide ((nr : Int) > 16) = false := d2
      have d3 : decide ((nr : Int) ≤ 16) = true := decide_eq_true (by omega)
      cases d4 : inB (nl : Int) 2 8
      · skip
        have hv : E = 2 := by rw [HE.out]; exact err_no (ok_size (by rw [HSZ.out, d1, d3, d4]; rfl))
        rw [hv]
        clear hv
        go_enter Try.func27, Try.ntmps27
        go_wp2_with (first | go_big_skip | go_big_guard | (refine wl_boxA hst0 rfl rfl rfl ?_; intro g1 w1 hst; clear hst0) | (refine wl_loadE rfl rfl rfl ?_; first | refine ⟨_, Loads.at [] hst rfl, ?_⟩ | refine ⟨_, Loads.atA (tabC t (.slice ar nr cr) (.slice al nl cl)) [] hst rfl rfl, ?_⟩ | refine ⟨_, Loads.atA [.int .i64 t.kind, .int .i64 t.dev, .int .i64 t.at_, .int .i64 t.txg] [] hst rfl rfl, ?_⟩) | (go_at_call 55; refine (refWithin_any _ _ _ _).mono ?_; rintro _ w9 ⟨rfl, h4⟩; replace hst := St.call0 hst h4; clear h4))
        go_ret
        exact ⟨rfl, hst.nil⟩
      · have HSZ1 : Hid (t.sizeB = true) := hid (by rw [HSZ.out, d1, d3, d4]; rfl)
        go_enter Try.func27, Try.ntmps27
        go_wp2_with (first | go_big_skip | go_big_guard | (refine wl_boxA hst0 rfl rfl rfl ?_; intro g1 w1 hst; clear hst0) | (refine wl_loadE rfl rfl rfl ?_; first | refine ⟨_, Loads.at [] hst rfl, ?_⟩ | refine ⟨_, Loads.atA (tabC t (.slice ar nr cr) (.slice al nl cl)) [] hst rfl rfl, ?_⟩ | refine ⟨_, Loads.atA [.int .i64 t.kind, .int .i64 t.dev, .int .i64 t.at_, .int .i64 t.txg] [] hst rfl rfl, ?_⟩) | (go_at_call 55; refine (refWithin_any _ _ _ _).mono ?_; rintro _ w9 ⟨rfl, h4⟩; replace hst := St.call0 hst h4; clear h4))
        go_loopw [3] (fun i wr => ∃ j : Nat, j ≤ nl ∧ i = .int .i64 (j : Int) ∧ St w [] wr [.blk g1 30 (tabC t (.slice ar nr cr) (.slice al nl cl))] ∧ Hid (∀ i x, i < j → t.lives[i]? = some x → inB x 0 2147483647 = true)) (fun i _ => nl - (intOf i).toNat)
        case atStart => exact ⟨0, Nat.zero_le _, rfl, hst, hid (fun i y hi _ => by omega)⟩
        case round =>
          clear hst
          obtain ⟨j, hj, rfl, hst, HP⟩ := hrel
          by_cases hlt : j < nl
          · have e1 : decide ((j : Int) < (nl : Int)) = true := decide_eq_true (by omega)
            have z1 : IntKind.i64.wrap ((j : Int) + 1) = (j : Int) + 1 := IntWalk.i64_in _ (by omega)
            obtain ⟨x, hx⟩ : ∃ x, t.lives[j]? = some x := ⟨_, List.getElem?_eq_getElem (by rw [HNL.out]; exact hlt)⟩
            have HXJ := hid hx
            obtain ⟨lb, lo, rfl, hr⟩ := Rd.at HLV.out hlt
            have HC := hid (hr j _ (numsV_get hx))
            clear hx hr
            cases k4 : inB x 0 2147483647
            · have HV : Hid (E = 2) := hid (by rw [HE.out]; exact err_no (ok_lives (lives_no HXJ.out k4)))
              go_wp2_with (first | go_big_skip | go_big_guard | (refine wl_index rfl rfl rfl rfl hlt ?_) | (refine wl_loadE rfl rfl rfl ?_; first | refine ⟨_, Loads.old hst (by rw [Nat.mul_one]; exact HC.out), ?_⟩ | refine ⟨_, Loads.at [] hst rfl, ?_⟩) | (go_at_call 55; refine (refWithin_any _ _ _ _).mono ?_; rintro _ w9 ⟨rfl, h4⟩; replace hst := St.call0 hst h4; clear h4))
              go_ret
              exact ⟨by have h := HV.out; subst h; rfl, hst.nil⟩
            · go_wp2_with (first | go_big_skip | go_big_guard | (refine wl_index rfl rfl rfl rfl hlt ?_) | (refine wl_loadE rfl rfl rfl ?_; first | refine ⟨_, Loads.old hst (by rw [Nat.mul_one]; exact HC.out), ?_⟩ | refine ⟨_, Loads.at [] hst rfl, ?_⟩) | (go_at_call 55; refine (refWithin_any _ _ _ _).mono ?_; rintro _ w9 ⟨rfl, h4⟩; replace hst := St.call0 hst h4; clear h4))
              go_roundw
              case rel =>
                refine ⟨j + 1, by omega, rfl, hst, hid (fun i y hi hy => ?_)⟩
                by_cases e : i = j
                · subst e
                  rw [HXJ.out] at hy
                  cases hy
                  exact k4
                · exact HP.out i y (by omega) hy
              case measure => simp [intOf]; omega
          · have e1 : decide ((j : Int) < (nl : Int)) = false := decide_eq_false (by omega)
            have HL1 : Hid (t.livesB = true) := hid (lives_all fun i x hi => HP.out i x (by have := (List.getElem?_eq_some_iff.1 hi).1; have := HNL.out; omega) hi)
            clear HP
            cases R
            · have hrec := HREC.out
              have hk : t.ok = false := by
                unfold TC.ok
                rw [Bool.and_assoc _ _ (allAt (relB t.next t.recs) t.recs), ← hrec, Bool.and_false]
              clear hrec
              have HV : Hid (E = 2) := hid (by rw [HE.out]; exact err_no hk)
              go_wp2_with (first | go_big_skip | go_big_guard | (refine wl_loadE rfl rfl rfl ?_; first | refine ⟨_, Loads.at [] hst rfl, ?_⟩ | refine ⟨_, Loads.atA (tabC t (.slice ar nr cr) (.slice al nl cl)) [] hst rfl rfl, ?_⟩ | refine ⟨_, Loads.atA [.int .i64 t.kind, .int .i64 t.dev, .int .i64 t.at_, .int .i64 t.txg] [] hst rfl rfl, ?_⟩) | (go_at_call 56; refine (records_any_r t (.slice al nl cl) ar nr cr xs _ (HR.out.old hst) hb).mono ?_; rw [← HRR.out]; rintro _ w9 ⟨rfl, h4⟩; replace hst := St.call0 hst h4; clear h4) | (go_at_call 57; refine (refCursor_any t nl HNL.out hbl _).mono ?_; rintro _ w9 ⟨rfl, h4⟩; replace hst := St.call0 hst h4; clear h4))
              go_ret
              exact ⟨by have h := HV.out; subst h; rfl, hst.nil⟩
            · cases k5 : t.curB
              · skip
                have HV : Hid (E = 2) := hid (by rw [HE.out]; exact err_no (ok_cur k5))
                go_wp2_with (first | go_big_skip | go_big_guard | (refine wl_loadE rfl rfl rfl ?_; first | refine ⟨_, Loads.at [] hst rfl, ?_⟩ | refine ⟨_, Loads.atA (tabC t (.slice ar nr cr) (.slice al nl cl)) [] hst rfl rfl, ?_⟩ | refine ⟨_, Loads.atA [.int .i64 t.kind, .int .i64 t.dev, .int .i64 t.at_, .int .i64 t.txg] [] hst rfl rfl, ?_⟩) | (go_at_call 56; refine (records_any_r t (.slice al nl cl) ar nr cr xs _ (HR.out.old hst) hb).mono ?_; rw [← HRR.out]; rintro _ w9 ⟨rfl, h4⟩; replace hst := St.call0 hst h4; clear h4) | (go_at_call 57; refine (refCursor_any t nl HNL.out hbl _).mono ?_; rintro _ w9 ⟨rfl, h4⟩; replace hst := St.call0 hst h4; clear h4))
                go_ret
                exact ⟨by have h := HV.out; subst h; rfl, hst.nil⟩
              · have hrec := Bool.and_eq_true_iff.1 HREC.out.symm
                have HV : Hid (E = 0) := hid (by rw [HE.out]; exact err_yes (ok_all HSZ1.out k5 HL1.out hrec.1 hrec.2))
                clear hrec
                go_wp2_with (first | go_big_skip | go_big_guard | (refine wl_loadE rfl rfl rfl ?_; first | refine ⟨_, Loads.at [] hst rfl, ?_⟩ | refine ⟨_, Loads.atA (tabC t (.slice ar nr cr) (.slice al nl cl)) [] hst rfl rfl, ?_⟩ | refine ⟨_, Loads.atA [.int .i64 t.kind, .int .i64 t.dev, .int .i64 t.at_, .int .i64 t.txg] [] hst rfl rfl, ?_⟩) | (go_at_call 56; refine (records_any_r t (.slice al nl cl) ar nr cr xs _ (HR.out.old hst) hb).mono ?_; rw [← HRR.out]; rintro _ w9 ⟨rfl, h4⟩; replace hst := St.call0 hst h4; clear h4) | (go_at_call 57; refine (refCursor_any t nl HNL.out hbl _).mono ?_; rintro _ w9 ⟨rfl, h4⟩; replace hst := St.call0 hst h4; clear h4))
                go_ret
                exact ⟨by have h := HV.out; subst h; rfl, hst.nil⟩
end Go.Proofs.Ytkpkaoiafppimaa
namespace Go.Proofs.Ytkpkaoiafppimaa
set_option linter.unusedVariables false
set_option linter.unusedSimpArgs false
open Go.RowKit Hp
theorem beN_numB_take (n : Int) (k i : Nat) (h0 : 0 ≤ n) (h : n < 2 ^ (8 * k)) (hi : i ≤ k) : (beN ((numB n k).take i) : Int) = n / 2 ^ (8 * (k - i)) := by
  induction i with
  | zero =>
    rw [List.take_zero, Nat.sub_zero, Int.ediv_eq_zero_of_lt h0 h]
    rfl
  | succ i ih =>
    rw [numB_take n k i hi, beN_snoc]
    have h1 := ih (by omega)
    rw [Int.natCast_add, Int.natCast_mul, h1, byteAt_int, show k - 1 - i = k - (i + 1) by omega, show ((256 : Nat) : Int) = 256 from rfl]
    have h2 : (2 : Int) ^ (8 * (k - i)) = 2 ^ (8 * (k - (i + 1))) * 256 := by
      rw [show 8 * (k - i) = 8 * (k - (i + 1)) + 8 by omega, Int.pow_add]
      rfl
    rw [h2, ← Int.ediv_ediv_of_nonneg (Int.le_of_lt (Int.pow_pos (by decide)))]
    omega
theorem beN_numB (n : Int) (k : Nat) (h0 : 0 ≤ n) (h : n < 2 ^ (8 * k)) : (beN (numB n k) : Int) = n := by
  have := beN_numB_take n k k h0 h (Nat.le_refl _)
  rw [List.take_of_length_le (by rw [length_numB]; exact Nat.le_refl _), Nat.sub_self, Nat.mul_zero] at this
  rw [this]
  simp
theorem numB_beN (l : List UInt8) : numB (beN l) l.length = l := by
  suffices h : ∀ (k : Nat) (l : List UInt8), l.length = k → ∀ m : Nat, numB ((m * 256 ^ k + beN l : Nat) : Int) k = l by
    have := h l.length l rfl 0
    simpa using this
  intro k
  induction k with
  | zero => intro l hl m; rw [List.eq_nil_of_length_eq_zero hl]; rfl
  | succ k ih =>
    intro l hl m
    match l, hl with
    | x :: l, hl =>
      have hl' : l.length = k := by simpa using hl
      have hb : beN (x :: l) = x.toNat * 256 ^ k + beN l := by
        have : ∀ (l : List UInt8) (a : Nat), l.foldl (fun a x => a * 256 + x.toNat) a = a * 256 ^ l.length + beN l := by
          intro l
          induction l with
          | nil => intro a; simp [beN]
          | cons y l ih =>
            intro a
            unfold beN
            rw [List.foldl_cons, List.foldl_cons, ih, ih (0 * 256 + y.toNat), List.length_cons, Nat.pow_succ]
            simp only [Nat.zero_mul, Nat.zero_add, Nat.add_mul, Nat.mul_assoc, Nat.mul_comm 256]
            omega
        have h9 := this l (0 * 256 + x.toNat)
        rw [hl', Nat.zero_mul, Nat.zero_add] at h9
        unfold beN at h9 ⊢
        rw [List.foldl_cons, Nat.zero_mul, Nat.zero_add]
        exact h9
      have hlt := beN_lt l
      rw [hl'] at hlt
      have hcast : ((m * 256 ^ (k + 1) + beN (x :: l) : Nat) : Int) = (((m * 256 + x.toNat) * 256 ^ k + beN l : Nat) : Int) := by
        congr 1
        rw [hb, Nat.pow_succ, Nat.add_mul, Nat.mul_assoc, Nat.mul_comm 256]
        omega
      rw [hcast]
      show byteAt _ k :: numB _ k = x :: l
      congr 1
      · have h1 := byteAt_int (((m * 256 + x.toNat) * 256 ^ k + beN l : Nat) : Int) k
        have h2 : (2 : Int) ^ (8 * k) = ((256 ^ k : Nat) : Int) := by
          rw [Int.pow_mul, Int.natCast_pow, show (2 : Int) ^ 8 = ((256 : Nat) : Int) from rfl]
        have hdiv : ((m * 256 + x.toNat) * 256 ^ k + beN l) / 256 ^ k = m * 256 + x.toNat := by
          rw [Nat.add_comm, Nat.add_mul_div_right _ _ (Nat.pow_pos (by decide)), Nat.div_eq_of_lt hlt, Nat.zero_add]
        rw [h2, ← Int.natCast_ediv, hdiv] at h1
        have hx := x.toNat_lt
        apply UInt8.toNat_inj.1
        omega
      · exact ih l hl' (m * 256 + x.toNat)
end Go.Proofs.Ytkpkaoiafppimaa
namespace Go.Proofs.Ytkpkaoiafppimaa
set_option linter.unusedVariables false
set_option linter.unusedSimpArgs false
open Go.RowKit Hp
set_option maxRecDepth 100000
/-! ### What is read is written as it was read -/
theorem take_go {B : List UInt8} {n : Nat} {s : GS} (z : Bool) (h : (s.go B.length n).short = false) : B.take (s.go B.length n).pos = B.take s.pos ++ gotG z B n s := by
  obtain ⟨_, e, hl⟩ := GS.go_ok h
  rw [gotG_go (GS.go_no h), e]
  show B.take (s.pos + n) = _
  rw [List.take_add]
theorem num_go {B : List UInt8} {n : Nat} {s : GS} (h : (s.go B.length n).short = false) : numB ((numG B n s : Nat) : Int) n = gotG false B n s := by
  have hl := gotG_len (z := false) h
  have := numB_beN (gotG false B n s)
  rw [hl] at this
  exact this
theorem take_num {B : List UInt8} {n : Nat} {s : GS} (h : (s.go B.length n).short = false) : B.take (s.go B.length n).pos = B.take s.pos ++ numB ((numG B n s : Nat) : Int) n := by rw [take_go false h, num_go h]
theorem take_rec {B : List UInt8} {s : GS} (h : (recE B s).short = false) (hr : rootOk false B s = true) : B.take (recE B s).pos = B.take s.pos ++ (recG false B s).bytes := by
  obtain ⟨h1, h2, h3, h4, h5, h6, h7, h8, h9, h10⟩ := recE_ok h
  have e1 := take_num (s := recS B s 0) h1
  have e2 := take_num (s := recS B s 1) h2
  have e3 : B.take ((recS B s 2).go B.length (numG B 1 (recS B s 1))).pos = B.take (recS B s 2).pos ++ gotG false B (numG B 1 (recS B s 1)) (recS B s 2) := take_go (s := recS B s 2) false h3
  have e4 := take_num (s := recS B s 3) h4
  have e5 := take_num (s := recS B s 4) h5
  have e6 := take_go (s := recS B s 5) false h6
  have e7 := take_num (s := recS B s 6) h7
  have e8 := take_num (s := recS B s 7) h8
  have e9 := take_num (s := recS B s 8) h9
  have e10 := take_num (s := recS B s 9) h10
  have e11 := take_num (s := recS B s 10) h
  have hn : (recG false B s).name.length = numG B 1 (recS B s 1) := gotG_len h3
  have hb : ((recG false B s).pv undef).bytes = gotG false B 47 (recS B s 5) := by
    have h' := hr
    unfold rootOk at h'
    have hp := (rOK_parts h').2
    rw [beq_iff_eq] at hp
    show bytesP (rootG (gotG false B 47 (recS B s 5))).l (rootG (gotG false B 47 (recS B s 5))).b (rootG (gotG false B 47 (recS B s 5))).v (rootG (gotG false B 47 (recS B s 5))).S = _
    unfold rootG
    rw [if_pos h']
    exact hp
  unfold RC.bytes
  rw [hn, hb]
  show B.take ((recS B s 10).go B.length 1).pos = _
  rw [e11]
  show B.take ((recS B s 9).go B.length 1).pos ++ _ = _
  rw [e10]
  show B.take ((recS B s 8).go B.length 4).pos ++ _ ++ _ = _
  rw [e9]
  show B.take ((recS B s 7).go B.length 4).pos ++ _ ++ _ ++ _ = _
  rw [e8]
  show B.take ((recS B s 6).go B.length 4).pos ++ _ ++ _ ++ _ ++ _ = _
  rw [e7]
  show B.take ((recS B s 5).go B.length 47).pos ++ _ ++ _ ++ _ ++ _ ++ _ = _
  rw [e6]
  show B.take ((recS B s 4).go B.length 1).pos ++ _ ++ _ ++ _ ++ _ ++ _ ++ _ = _
  rw [e5]
  show B.take ((recS B s 3).go B.length 1).pos ++ _ ++ _ ++ _ ++ _ ++ _ ++ _ ++ _ = _
  rw [e4]
  show B.take ((recS B s 2).go B.length (numG B 1 (recS B s 1))).pos ++ _ ++ _ ++ _ ++ _ ++ _ ++ _ ++ _ ++ _ = _
  rw [e3]
  show B.take ((recS B s 1).go B.length 1).pos ++ _ ++ _ ++ _ ++ _ ++ _ ++ _ ++ _ ++ _ ++ _ = _
  rw [e2]
  show B.take ((recS B s 0).go B.length 4).pos ++ _ ++ _ ++ _ ++ _ ++ _ ++ _ ++ _ ++ _ ++ _ ++ _ = _
  rw [e1]
  simp only [List.append_assoc]
  rfl
theorem take_recs {B : List UInt8} {s : GS} {j : Nat} (h : (stG B s j).short = false) (hr : oksG false B s j = true) : B.take (stG B s j).pos = B.take s.pos ++ (rcsG false B s j).flatMap RC.bytes := by
  induction j with
  | zero => simp [stG, rcsG]
  | succ j ih =>
    rw [oksG_succ, Bool.and_eq_true] at hr
    have hj : (stG B s j).short = false := no_short (recS_short 11) h
    rw [rcsG_succ, List.flatMap_append, ← List.append_assoc, ← ih hj hr.1]
    show B.take (recE B (stG B s j)).pos = _
    rw [take_rec h hr.2]
    simp
theorem take_lives {B : List UInt8} {s : GS} {j : Nat} (h : (lvS B s j).short = false) : B.take (lvS B s j).pos = B.take s.pos ++ (lvsG B s j).flatMap fun n => numB n 4 := by
  induction j with
  | zero => simp [lvS, lvsG]
  | succ j ih =>
    have hj : (lvS B s j).short = false := no_short GS.go_short h
    rw [lvsG_succ, List.flatMap_append, ← List.append_assoc, ← ih hj]
    show B.take ((lvS B s j).go B.length 4).pos = _
    rw [take_num h]
    simp
theorem read_write {B : List UInt8} (h : (tS9 B).short = false) (hp : (tS9 B).pos = B.length) (hr : rootsG B = true) : (tabG false B).bytes = B := by
  obtain ⟨h1, h2, h3, h4, h5, h6, h7, h8⟩ := tab_there h
  have e1 := take_num (s := GS.mk 0 false) h1
  have e2 := take_num (s := tS1 B) h2
  have e3 := take_recs (s := tS2 B) (j := tMany B) h3 hr
  have e4 := take_num (s := tS3 B) h4
  have e5 := take_num (s := tS4 B) h5
  have e6 := take_num (s := tS5 B) h6
  have e7 := take_num (s := tS6 B) h7
  have e8 := take_num (s := tS7 B) h8
  have e9 := take_lives (s := tS8 B) (j := tLives B) h
  have e : B.take (tS9 B).pos = B := by rw [hp, List.take_length]
  have hm : (tabG false B).recs.length = numG B 1 (tS1 B) := length_rcsG _ _ _ _
  have hl : (tabG false B).lives.length = numG B 1 (tS7 B) := length_lvsG _ _ _
  unfold TC.bytes
  rw [hm, hl]
  refine Eq.trans ?_ e
  show _ = B.take (lvS B (tS8 B) (tLives B)).pos
  rw [e9]
  show _ = B.take ((tS7 B).go B.length 1).pos ++ _
  rw [e8]
  show _ = B.take ((tS6 B).go B.length 4).pos ++ _ ++ _
  rw [e7]
  show _ = B.take ((tS5 B).go B.length 4).pos ++ _ ++ _ ++ _
  rw [e6]
  show _ = B.take ((tS4 B).go B.length 1).pos ++ _ ++ _ ++ _ ++ _
  rw [e5]
  show _ = B.take ((tS3 B).go B.length 1).pos ++ _ ++ _ ++ _ ++ _ ++ _
  rw [e4]
  show _ = B.take (stG B (tS2 B) (tMany B)).pos ++ _ ++ _ ++ _ ++ _ ++ _ ++ _
  rw [e3]
  show _ = B.take ((tS1 B).go B.length 1).pos ++ _ ++ _ ++ _ ++ _ ++ _ ++ _ ++ _
  rw [e2]
  show _ = B.take ((GS.mk 0 false).go B.length 4).pos ++ _ ++ _ ++ _ ++ _ ++ _ ++ _ ++ _ ++ _
  rw [e1]
  simp only [List.append_assoc, List.take_zero, List.nil_append]
  rfl
theorem gOK_bytes {B : List UInt8} (h : gOK B = true) : (tabG false B).bytes = B ∧ (tabG false B).ok = true := by
  unfold gOK at h
  simp only [Bool.and_eq_true, beq_iff_eq, Bool.not_eq_true'] at h
  exact ⟨read_write h.1.1.1 h.1.1.2 h.1.2, h.2⟩
/-! ### What is written is read back -/
theorem go_at (z : Bool) (A P C : List UInt8) {n : Nat} (hn : P.length = n) : gotG z (A ++ (P ++ C)) n ⟨A.length, false⟩ = P ∧ (GS.mk A.length false).go (A ++ (P ++ C)).length n = ⟨(A ++ P).length, false⟩ := by
  have hs : (GS.mk A.length false).stop (A ++ (P ++ C)).length n = false := by
    unfold GS.stop
    simp
    omega
  refine ⟨?_, ?_⟩
  · rw [gotG_go hs]
    show ((A ++ (P ++ C)).drop A.length).take n = P
    rw [List.drop_left, ← hn, List.take_left]
  · rw [GS.go_go hs, List.length_append, hn]
theorem num_at (A C : List UInt8) {x : Int} {n : Nat} (h0 : 0 ≤ x) (h : x < 2 ^ (8 * n)) : ((numG (A ++ (numB x n ++ C)) n ⟨A.length, false⟩ : Nat) : Int) = x ∧ (GS.mk A.length false).go (A ++ (numB x n ++ C)).length n = ⟨(A ++ numB x n).length, false⟩ := by
  obtain ⟨e1, e2⟩ := go_at false A (numB x n) C (length_numB x n)
  refine ⟨?_, e2⟩
  unfold numG
  rw [e1]
  exact beN_numB x n h0 h
theorem root_back {p : PV} (h : p.ok = true) (hS : L32 p.S) : rOK p.bytes = true ∧ rootG p.bytes = ⟨p.l, p.b, p.v, p.S⟩ := by
  have hr : rOK p.bytes = true := rOK_bytes h hS
  refine ⟨hr, ?_⟩
  obtain ⟨e1, e2, e3, e4⟩ := read_bytes (S := p.S) h
  unfold rootG
  rw [if_pos hr]
  show RT.mk (rAddrs (bytesP p.l p.b p.v p.S) 3) (rBirth (bytesP p.l p.b p.v p.S)) (rLevel (bytesP p.l p.b p.v p.S)) (rSum (bytesP p.l p.b p.v p.S)) = _
  rw [e1, e2, e3, e4]
theorem R31.lt {z : Int} (h : R31 z) : 0 ≤ z ∧ z < 2 ^ (8 * 4) := ⟨h.1, by have := h.2; omega⟩
theorem lt1 {z k : Int} (h : inB z 0 k = true) (hk : k < 256) : 0 ≤ z ∧ z < 2 ^ (8 * 1) := by
  unfold inB at h
  simp only [Bool.and_eq_true, decide_eq_true_eq] at h
  exact ⟨h.1, by have := h.2; omega⟩
/-- The numbers of one byte are less than 256. -/
structure RC.Sm (r : RC) : Prop where
  kind : 0 ≤ r.kind ∧ r.kind < 2 ^ (8 * 1)
  size : 0 ≤ r.size ∧ r.size < 2 ^ (8 * 1)
  quota : 0 ≤ r.quota ∧ r.quota < 2 ^ (8 * 1)
  reserve : 0 ≤ r.reserve ∧ r.reserve < 2 ^ (8 * 1)
  name : 0 ≤ (r.name.length : Int) ∧ (r.name.length : Int) < 2 ^ (8 * 1)
theorem eq_sm {z k : Int} (h : (z == k) = true) (h0 : 0 ≤ k) (hk : k < 256) : 0 ≤ z ∧ z < 2 ^ (8 * 1) := by
  rw [beq_iff_eq] at h
  subst h
  exact ⟨h0, by omega⟩
theorem inB_sm {z a k : Int} (h : inB z a k = true) (h0 : 0 ≤ a) (hk : k < 256) : 0 ≤ z ∧ z < 2 ^ (8 * 1) := by
  unfold inB at h
  simp only [Bool.and_eq_true, decide_eq_true_eq] at h
  exact ⟨by omega, by have := h.2; omega⟩
theorem alone_sm {r : RC} (h : r.aloneB = true) : r.Sm := by
  have hn := (alone_bd h).name
  have hn' : 0 ≤ (r.name.length : Int) ∧ (r.name.length : Int) < 2 ^ (8 * 1) := ⟨by omega, by omega⟩
  unfold RC.aloneB at h
  simp only [Bool.and_eq_true] at h
  obtain ⟨⟨⟨⟨h1, h2⟩, h3⟩, h4⟩, h5⟩ := h
  unfold RC.kindB at h5
  by_cases k1 : (r.kind == 1) = true
  · rw [if_pos k1] at h5
    simp only [Bool.and_eq_true] at h5
    obtain ⟨⟨⟨⟨a1, a2⟩, a3⟩, a4⟩, a5⟩ := h5
    exact ⟨eq_sm k1 (by decide) (by decide), inB_sm h2 (by decide) (by decide), inB_sm a4 (by decide) (by decide), inB_sm a5 (by decide) (by decide), hn'⟩
  · rw [if_neg k1] at h5
    by_cases k2 : (r.kind == 2) = true
    · rw [if_pos k2] at h5
      simp only [Bool.and_eq_true] at h5
      obtain ⟨⟨⟨⟨⟨a1, a2⟩, a3⟩, a4⟩, a5⟩, a6⟩ := h5
      exact ⟨eq_sm k2 (by decide) (by decide), inB_sm h2 (by decide) (by decide), eq_sm a4 (by decide) (by decide), eq_sm a5 (by decide) (by decide), hn'⟩
    · rw [if_neg k2] at h5
      cases h5
theorem num_at' {B : List UInt8} (A C : List UInt8) {x : Int} {n : Nat} {s : GS} (hB : B = A ++ (numB x n ++ C)) (hs : s = ⟨A.length, false⟩) (h : 0 ≤ x ∧ x < 2 ^ (8 * n)) : ((numG B n s : Nat) : Int) = x ∧ s.go B.length n = ⟨(A ++ numB x n).length, false⟩ := by
  subst hB; subst hs
  exact num_at A C h.1 h.2
theorem got_at' {B : List UInt8} (A P C : List UInt8) {n : Nat} {s : GS} (hB : B = A ++ (P ++ C)) (hs : s = ⟨A.length, false⟩) (hn : P.length = n) : gotG false B n s = P ∧ s.go B.length n = ⟨(A ++ P).length, false⟩ := by
  subst hB; subst hs
  exact go_at false A P C hn
theorem rec_back {B : List UInt8} (A C : List UInt8) {r : RC} (hB : B = A ++ (r.bytes ++ C)) (hb : r.Bd) (hs : r.Sm) (hS : L32 r.S) :
    recG false B ⟨A.length, false⟩ = r ∧ rootOk false B ⟨A.length, false⟩ = true ∧ recE B ⟨A.length, false⟩ = ⟨(A ++ r.bytes).length, false⟩ := by
  unfold RC.bytes at hB
  simp only [List.append_assoc] at hB
  have h47 : ((r.pv undef).bytes).length = 47 := length_bytesP _ _ _ (S := (r.pv undef).S) hS
  obtain ⟨n1, s1⟩ := num_at' (B := B) (n := 4) (s := (GS.mk A.length false)) (A) _ hB rfl hb.id.lt
  obtain ⟨n2, s2⟩ := num_at' (B := B) (n := 1) (s := (rS1 B ⟨A.length, false⟩)) (A ++ numB r.id 4) _ (by simp only [List.append_assoc]; exact hB) s1 hs.name
  have hN : numG B 1 (rS1 B ⟨A.length, false⟩) = r.name.length := by
    have : ((numG B 1 (rS1 B ⟨A.length, false⟩) : Nat) : Int) = (r.name.length : Int) := n2
    omega
  obtain ⟨n3, s3⟩ := got_at' (B := B) (n := r.name.length) (s := (rS2 B ⟨A.length, false⟩)) (A ++ numB r.id 4 ++ numB (r.name.length : Int) 1) (r.name) _ (by simp only [List.append_assoc]; exact hB) s2 rfl
  have s3' : rS3 B ⟨A.length, false⟩ = ⟨(A ++ numB r.id 4 ++ numB (r.name.length : Int) 1 ++ r.name).length, false⟩ := by
    show (rS2 B ⟨A.length, false⟩).go B.length (numG B 1 (rS1 B ⟨A.length, false⟩)) = _
    rw [hN]
    exact s3
  obtain ⟨n4, s4⟩ := num_at' (B := B) (n := 1) (s := (rS3 B ⟨A.length, false⟩)) (A ++ numB r.id 4 ++ numB (r.name.length : Int) 1 ++ r.name) _ (by simp only [List.append_assoc]; exact hB) s3' hs.kind
  obtain ⟨n5, s5⟩ := num_at' (B := B) (n := 1) (s := (rS4 B ⟨A.length, false⟩)) (A ++ numB r.id 4 ++ numB (r.name.length : Int) 1 ++ r.name ++ numB r.kind 1) _ (by simp only [List.append_assoc]; exact hB) s4 hs.size
  obtain ⟨n6, s6⟩ := got_at' (B := B) (n := 47) (s := (rS5 B ⟨A.length, false⟩)) (A ++ numB r.id 4 ++ numB (r.name.length : Int) 1 ++ r.name ++ numB r.kind 1 ++ numB r.size 1) ((r.pv undef).bytes) _ (by simp only [List.append_assoc]; exact hB) s5 h47
  obtain ⟨n7, s7⟩ := num_at' (B := B) (n := 4) (s := (rS6 B ⟨A.length, false⟩)) (A ++ numB r.id 4 ++ numB (r.name.length : Int) 1 ++ r.name ++ numB r.kind 1 ++ numB r.size 1 ++ (r.pv undef).bytes) _ (by simp only [List.append_assoc]; exact hB) s6 hb.made.lt
  obtain ⟨n8, s8⟩ := num_at' (B := B) (n := 4) (s := (rS7 B ⟨A.length, false⟩)) (A ++ numB r.id 4 ++ numB (r.name.length : Int) 1 ++ r.name ++ numB r.kind 1 ++ numB r.size 1 ++ (r.pv undef).bytes ++ numB r.made 4) _ (by simp only [List.append_assoc]; exact hB) s7 hb.own.lt
  obtain ⟨n9, s9⟩ := num_at' (B := B) (n := 4) (s := (rS8 B ⟨A.length, false⟩)) (A ++ numB r.id 4 ++ numB (r.name.length : Int) 1 ++ r.name ++ numB r.kind 1 ++ numB r.size 1 ++ (r.pv undef).bytes ++ numB r.made 4 ++ numB r.own 4) _ (by simp only [List.append_assoc]; exact hB) s8 hb.origin.lt
  obtain ⟨n10, s10⟩ := num_at' (B := B) (n := 1) (s := (rS9 B ⟨A.length, false⟩)) (A ++ numB r.id 4 ++ numB (r.name.length : Int) 1 ++ r.name ++ numB r.kind 1 ++ numB r.size 1 ++ (r.pv undef).bytes ++ numB r.made 4 ++ numB r.own 4 ++ numB r.origin 4) _ (by simp only [List.append_assoc]; exact hB) s9 hs.quota
  obtain ⟨n11, s11⟩ := num_at' (B := B) (n := 1) (s := (rS10 B ⟨A.length, false⟩)) (A ++ numB r.id 4 ++ numB (r.name.length : Int) 1 ++ r.name ++ numB r.kind 1 ++ numB r.size 1 ++ (r.pv undef).bytes ++ numB r.made 4 ++ numB r.own 4 ++ numB r.origin 4 ++ numB r.quota 1) _ (by simp only [List.append_assoc]; exact hB) s10 hs.reserve
  obtain ⟨hr, hg⟩ := root_back (p := r.pv undef) hb.root hS
  have n3' : gotG false B (numG B 1 (rS1 B ⟨A.length, false⟩)) (rS2 B ⟨A.length, false⟩) = r.name := by rw [hN]; exact n3
  refine ⟨?_, ?_, ?_⟩
  · show RC.mk _ _ _ _ _ _ _ _ (gotG false B (numG B 1 (rS1 B ⟨A.length, false⟩)) (rS2 B ⟨A.length, false⟩)) (rootG (gotG false B 47 (rS5 B ⟨A.length, false⟩))).l (rootG (gotG false B 47 (rS5 B ⟨A.length, false⟩))).b (rootG (gotG false B 47 (rS5 B ⟨A.length, false⟩))).v (rootG (gotG false B 47 (rS5 B ⟨A.length, false⟩))).S = r
    rw [n3', n6, hg]
    show RC.mk ((numG B 4 ⟨A.length, false⟩ : Nat) : Int) ((numG B 1 (rS3 B ⟨A.length, false⟩) : Nat) : Int) ((numG B 1 (rS4 B ⟨A.length, false⟩) : Nat) : Int) ((numG B 4 (rS6 B ⟨A.length, false⟩) : Nat) : Int) ((numG B 4 (rS7 B ⟨A.length, false⟩) : Nat) : Int) ((numG B 4 (rS8 B ⟨A.length, false⟩) : Nat) : Int) ((numG B 1 (rS9 B ⟨A.length, false⟩) : Nat) : Int) ((numG B 1 (rS10 B ⟨A.length, false⟩) : Nat) : Int) r.name r.l r.b r.v r.S = r
    rw [n1, n4, n5, n7, n8, n9, n10, n11]
  · show rOK (gotG false B 47 (rS5 B ⟨A.length, false⟩)) = true
    rw [n6]
    exact hr
  · show rS11 B ⟨A.length, false⟩ = _
    unfold RC.bytes
    simp only [List.append_assoc] at s11 ⊢
    exact s11
theorem recs_back {B : List UInt8} : ∀ (l : List RC) (A C : List UInt8), B = A ++ (l.flatMap RC.bytes ++ C) → (∀ r ∈ l, r.Bd ∧ r.Sm ∧ L32 r.S) → ∀ j, j ≤ l.length → rcsG false B ⟨A.length, false⟩ j = l.take j ∧ oksG false B ⟨A.length, false⟩ j = true ∧ stG B ⟨A.length, false⟩ j = ⟨(A ++ (l.take j).flatMap RC.bytes).length, false⟩ := by
  intro l A C hB hl j
  induction j with
  | zero => intro _; exact ⟨by simp [rcsG], rfl, by simp [stG]⟩
  | succ j ih =>
    intro hj
    obtain ⟨e1, e2, e3⟩ := ih (by omega)
    obtain ⟨r, hr⟩ : ∃ r, l[j]? = some r := ⟨_, List.getElem?_eq_getElem (by omega)⟩
    obtain ⟨b1, b2, b3⟩ := hl r (List.mem_of_getElem? hr)
    have hd : l.drop j = r :: l.drop (j + 1) := by
      obtain ⟨hlt, hg⟩ := List.getElem?_eq_some_iff.1 hr
      rw [List.drop_eq_getElem_cons hlt, hg]
    have hB' : B = (A ++ (l.take j).flatMap RC.bytes) ++ (r.bytes ++ ((l.drop (j + 1)).flatMap RC.bytes ++ C)) := by
      have hs : l.flatMap RC.bytes = (l.take j).flatMap RC.bytes ++ (r.bytes ++ (l.drop (j + 1)).flatMap RC.bytes) := by
        rw [← List.flatMap_cons, ← hd, ← List.flatMap_append, List.take_append_drop]
      rw [hB, hs]
      simp only [List.append_assoc]
    obtain ⟨q1, q2, q3⟩ := rec_back _ _ hB' b1 b2 b3
    refine ⟨?_, ?_, ?_⟩
    · rw [rcsG_succ, e1, e3, q1, List.take_add_one, hr]; rfl
    · rw [oksG_succ, e2, e3, q2]; rfl
    · show recE B (stG B ⟨A.length, false⟩ j) = _
      rw [e3, q3, flat_step RC.bytes hr, List.append_assoc]
theorem lives_back {B : List UInt8} : ∀ (l : List Int) (A C : List UInt8), B = A ++ ((l.flatMap fun n => numB n 4) ++ C) → (∀ z ∈ l, R31 z) → ∀ j, j ≤ l.length → lvsG B ⟨A.length, false⟩ j = l.take j ∧ lvS B ⟨A.length, false⟩ j = ⟨(A ++ (l.take j).flatMap fun n => numB n 4).length, false⟩ := by
  intro l A C hB hl j
  induction j with
  | zero => intro _; exact ⟨by simp [lvsG], by simp [lvS]⟩
  | succ j ih =>
    intro hj
    obtain ⟨e1, e3⟩ := ih (by omega)
    obtain ⟨r, hr⟩ : ∃ r, l[j]? = some r := ⟨_, List.getElem?_eq_getElem (by omega)⟩
    have b := hl r (List.mem_of_getElem? hr)
    have hd : l.drop j = r :: l.drop (j + 1) := by
      obtain ⟨hlt, hg⟩ := List.getElem?_eq_some_iff.1 hr
      rw [List.drop_eq_getElem_cons hlt, hg]
    have hB' : B = (A ++ (l.take j).flatMap fun n => numB n 4) ++ (numB r 4 ++ (((l.drop (j + 1)).flatMap fun n => numB n 4) ++ C)) := by
      have hs : (l.flatMap fun n => numB n 4) = ((l.take j).flatMap fun n => numB n 4) ++ (numB r 4 ++ (l.drop (j + 1)).flatMap fun n => numB n 4) := by
        rw [show numB r 4 ++ ((l.drop (j + 1)).flatMap fun n => numB n 4) = (l.drop j).flatMap fun n => numB n 4 by rw [hd, List.flatMap_cons], ← List.flatMap_append, List.take_append_drop]
      rw [hB, hs]
      simp only [List.append_assoc]
    obtain ⟨q1, q2⟩ := num_at' (n := 4) _ _ hB' e3 b.lt
    refine ⟨?_, ?_⟩
    · rw [lvsG_succ, e1, q1, List.take_add_one, hr]; rfl
    · show (lvS B ⟨A.length, false⟩ j).go B.length 4 = _
      rw [q2, flat_step _ hr, List.append_assoc]
theorem tab_back {t : TC} (h : t.ok = true) (hS : ∀ r ∈ t.recs, L32 r.S) : tabG false t.bytes = t ∧ rootsG t.bytes = true ∧ tS9 t.bytes = ⟨t.bytes.length, false⟩ := by
  have hb := ok_bd h
  have hsm : ∀ r ∈ t.recs, r.Bd ∧ r.Sm ∧ L32 r.S := fun r hr => by
    refine ⟨hb.recs r hr, ?_, hS r hr⟩
    unfold TC.ok at h
    simp only [Bool.and_eq_true] at h
    obtain ⟨i, hi⟩ := List.getElem?_of_mem hr
    have := allAt_at h.1.2 hi
    unfold eachB at this
    exact alone_sm (Bool.and_eq_true_iff.1 this).1
  have hcur : (0 ≤ t.kind ∧ t.kind < 2 ^ (8 * 1)) ∧ (0 ≤ t.dev ∧ t.dev < 2 ^ (8 * 1)) := by
    have hc : t.curB = true := by
      unfold TC.ok at h
      simp only [Bool.and_eq_true] at h
      exact h.1.1.1.2
    unfold TC.curB at hc
    rcases Bool.or_eq_true_iff.1 hc with hc | hc
    · unfold TC.cur0 at hc
      simp at hc
      obtain ⟨h1, h2, _⟩ := hc
      rw [h1, h2]
      decide
    · simp only [Bool.and_eq_true] at hc
      have hl := hb.lives
      rcases Bool.or_eq_true_iff.1 hc.2 with hc | hc
      · simp only [Bool.and_eq_true] at hc
        exact ⟨eq_sm hc.1 (by decide) (by decide), eq_sm hc.2 (by decide) (by decide)⟩
      · simp only [Bool.and_eq_true] at hc
        exact ⟨eq_sm hc.1 (by decide) (by decide), inB_sm hc.2 (by decide) (by omega)⟩
  have hm := hb.many
  have hv := hb.lives
  obtain ⟨B, hB⟩ : ∃ B, B = t.bytes := ⟨_, rfl⟩
  rw [← hB]
  unfold TC.bytes at hB
  simp only [List.append_assoc] at hB
  obtain ⟨n1, s1⟩ := num_at' (B := B) (n := 4) (s := (GS.mk ([] : List UInt8).length false)) ([]) _ (by simp only [List.nil_append]; exact hB) rfl hb.next.lt
  obtain ⟨n2, s2⟩ := num_at' (B := B) (n := 1) (s := (tS1 B)) ([] ++ numB t.next 4) _ (by simp only [List.append_assoc, List.nil_append]; exact hB) s1 ⟨by omega, by omega⟩
  have hN : tMany B = t.recs.length := by
    have : ((numG B 1 (tS1 B) : Nat) : Int) = (t.recs.length : Int) := n2
    unfold tMany
    omega
  have s2' : tS2 B = ⟨([] ++ numB t.next 4 ++ numB (t.recs.length : Int) 1).length, false⟩ := s2
  obtain ⟨r1, r2, r3⟩ := recs_back (B := B) t.recs ([] ++ numB t.next 4 ++ numB (t.recs.length : Int) 1) _ (by simp only [List.append_assoc, List.nil_append]; exact hB) hsm t.recs.length (Nat.le_refl _)
  rw [List.take_length] at r1 r3
  have s3 : tS3 B = ⟨([] ++ numB t.next 4 ++ numB (t.recs.length : Int) 1 ++ t.recs.flatMap RC.bytes).length, false⟩ := by
    unfold tS3
    rw [hN, s2', r3]
  obtain ⟨n4, s4⟩ := num_at' (B := B) (n := 1) (s := (tS3 B)) ([] ++ numB t.next 4 ++ numB (t.recs.length : Int) 1 ++ t.recs.flatMap RC.bytes) _ (by simp only [List.append_assoc, List.nil_append]; exact hB) s3 hcur.1
  obtain ⟨n5, s5⟩ := num_at' (B := B) (n := 1) (s := (tS4 B)) ([] ++ numB t.next 4 ++ numB (t.recs.length : Int) 1 ++ t.recs.flatMap RC.bytes ++ numB t.kind 1) _ (by simp only [List.append_assoc, List.nil_append]; exact hB) s4 hcur.2
  obtain ⟨n6, s6⟩ := num_at' (B := B) (n := 4) (s := (tS5 B)) ([] ++ numB t.next 4 ++ numB (t.recs.length : Int) 1 ++ t.recs.flatMap RC.bytes ++ numB t.kind 1 ++ numB t.dev 1) _ (by simp only [List.append_assoc, List.nil_append]; exact hB) s5 hb.at_.lt
  obtain ⟨n7, s7⟩ := num_at' (B := B) (n := 4) (s := (tS6 B)) ([] ++ numB t.next 4 ++ numB (t.recs.length : Int) 1 ++ t.recs.flatMap RC.bytes ++ numB t.kind 1 ++ numB t.dev 1 ++ numB t.at_ 4) _ (by simp only [List.append_assoc, List.nil_append]; exact hB) s6 hb.txg.lt
  obtain ⟨n8, s8⟩ := num_at' (B := B) (n := 1) (s := (tS7 B)) ([] ++ numB t.next 4 ++ numB (t.recs.length : Int) 1 ++ t.recs.flatMap RC.bytes ++ numB t.kind 1 ++ numB t.dev 1 ++ numB t.at_ 4 ++ numB t.txg 4) _ (by simp only [List.append_assoc, List.nil_append]; exact hB) s7 ⟨by omega, by omega⟩
  have hL : tLives B = t.lives.length := by
    have : ((numG B 1 (tS7 B) : Nat) : Int) = (t.lives.length : Int) := n8
    unfold tLives
    omega
  have s8' : tS8 B = ⟨([] ++ numB t.next 4 ++ numB (t.recs.length : Int) 1 ++ t.recs.flatMap RC.bytes ++ numB t.kind 1 ++ numB t.dev 1 ++ numB t.at_ 4 ++ numB t.txg 4 ++ numB (t.lives.length : Int) 1).length, false⟩ := s8
  obtain ⟨l1, l3⟩ := lives_back (B := B) t.lives ([] ++ numB t.next 4 ++ numB (t.recs.length : Int) 1 ++ t.recs.flatMap RC.bytes ++ numB t.kind 1 ++ numB t.dev 1 ++ numB t.at_ 4 ++ numB t.txg 4 ++ numB (t.lives.length : Int) 1) [] (by simp only [List.append_assoc, List.nil_append, List.append_nil]; exact hB) hb.live t.lives.length (Nat.le_refl _)
  rw [List.take_length] at l1 l3
  have q1 : rcsG false B (tS2 B) (tMany B) = t.recs := by rw [hN, s2', r1]
  have q2 : lvsG B (tS8 B) (tLives B) = t.lives := by rw [hL, s8', l1]
  refine ⟨?_, ?_, ?_⟩
  · show TC.mk ((numG B 4 ⟨0, false⟩ : Nat) : Int) (rcsG false B (tS2 B) (tMany B)) ((numG B 1 (tS3 B) : Nat) : Int) ((numG B 1 (tS4 B) : Nat) : Int) ((numG B 4 (tS5 B) : Nat) : Int) ((numG B 4 (tS6 B) : Nat) : Int) (lvsG B (tS8 B) (tLives B)) = t
    have n1' : ((numG B 4 ⟨0, false⟩ : Nat) : Int) = t.next := n1
    rw [q1, q2, n1', n4, n5, n6, n7]
  · unfold rootsG
    rw [hN, s2', r2]
  · unfold tS9
    rw [hL, s8', l3, hB]
    simp only [List.append_assoc, List.nil_append]
theorem back_ok {t : TC} (h : t.ok = true) (hS : ∀ r ∈ t.recs, L32 r.S) : gOK t.bytes = true ∧ tabG false t.bytes = t := by
  obtain ⟨e1, e2, e3⟩ := tab_back h hS
  refine ⟨?_, e1⟩
  unfold gOK
  rw [e1, e2, e3, h]
  simp
theorem tab_one {t u : TC} (ht : t.ok = true) (hu : u.ok = true) (hS : ∀ r ∈ t.recs, L32 r.S) (hS' : ∀ r ∈ u.recs, L32 r.S) (h : t.bytes = u.bytes) : t = u := by
  have e1 := (back_ok ht hS).2
  have e2 := (back_ok hu hS').2
  rw [← e1, ← e2, h]
/-! ### Bytes that are cut short -/
theorem cut_go {N N' n : Nat} {s : GS} (hN : N' ≤ N) (h : (s.go N' n).short = false) : s.go N n = s.go N' n := by
  obtain ⟨h0, e, hl⟩ := GS.go_ok h
  rw [e]
  refine GS.go_go ?_
  unfold GS.stop
  rw [h0]
  simp
  omega
theorem cut_got {B : List UInt8} {k n : Nat} {s : GS} (hk : k ≤ B.length) (h : (s.go (B.take k).length n).short = false) : gotG false (B.take k) n s = gotG false B n s := by
  have h' := cut_go (N := B.length) (by rw [List.length_take]; omega) h
  obtain ⟨h0, e, hl⟩ := GS.go_ok h
  rw [gotG_go (GS.go_no h), gotG_go (GS.go_no (by rw [h']; exact h))]
  rw [List.length_take] at hl
  rw [List.drop_take, List.take_take, Nat.min_eq_left (by omega)]
theorem cut_num {B : List UInt8} {k n : Nat} {s : GS} (hk : k ≤ B.length) (h : (s.go (B.take k).length n).short = false) : numG (B.take k) n s = numG B n s := by
  unfold numG
  rw [cut_got hk h]
theorem cut_rec {B : List UInt8} {k : Nat} {s : GS} (hk : k ≤ B.length) (h : (recE (B.take k) s).short = false) : recE B s = recE (B.take k) s := by
  have hl : (B.take k).length ≤ B.length := by rw [List.length_take]; omega
  obtain ⟨h1, h2, h3, h4, h5, h6, h7, h8, h9, h10⟩ := recE_ok h
  have e1 : rS1 B s = rS1 (B.take k) s := cut_go hl h1
  have e2 : rS2 B s = rS2 (B.take k) s := by unfold rS2; rw [e1]; exact cut_go hl h2
  have en : numG B 1 (rS1 B s) = numG (B.take k) 1 (rS1 (B.take k) s) := by rw [e1]; exact (cut_num hk h2).symm
  have e3 : rS3 B s = rS3 (B.take k) s := by unfold rS3; rw [e2, en]; exact cut_go hl h3
  have e4 : rS4 B s = rS4 (B.take k) s := by unfold rS4; rw [e3]; exact cut_go hl h4
  have e5 : rS5 B s = rS5 (B.take k) s := by unfold rS5; rw [e4]; exact cut_go hl h5
  have e6 : rS6 B s = rS6 (B.take k) s := by unfold rS6; rw [e5]; exact cut_go hl h6
  have e7 : rS7 B s = rS7 (B.take k) s := by unfold rS7; rw [e6]; exact cut_go hl h7
  have e8 : rS8 B s = rS8 (B.take k) s := by unfold rS8; rw [e7]; exact cut_go hl h8
  have e9 : rS9 B s = rS9 (B.take k) s := by unfold rS9; rw [e8]; exact cut_go hl h9
  have e10 : rS10 B s = rS10 (B.take k) s := by unfold rS10; rw [e9]; exact cut_go hl h10
  show rS11 B s = rS11 (B.take k) s
  unfold rS11
  rw [e10]
  exact cut_go hl h
theorem cut_st {B : List UInt8} {k : Nat} {s : GS} (hk : k ≤ B.length) {j : Nat} (h : (stG (B.take k) s j).short = false) : stG B s j = stG (B.take k) s j := by
  induction j with
  | zero => rfl
  | succ j ih =>
    have hj : (stG (B.take k) s j).short = false := no_short (recS_short 11) h
    show recE B (stG B s j) = _
    rw [ih hj]
    exact cut_rec hk h
theorem cut_lv {B : List UInt8} {k : Nat} {s : GS} (hk : k ≤ B.length) {j : Nat} (h : (lvS (B.take k) s j).short = false) : lvS B s j = lvS (B.take k) s j := by
  have hl : (B.take k).length ≤ B.length := by rw [List.length_take]; omega
  induction j with
  | zero => rfl
  | succ j ih =>
    have hj : (lvS (B.take k) s j).short = false := no_short GS.go_short h
    show (lvS B s j).go B.length 4 = _
    rw [ih hj]
    exact cut_go hl h
theorem go_le {N n : Nat} {s : GS} (h : s.pos ≤ N) : (s.go N n).pos ≤ N := GS.go_pos h
theorem rec_le {B : List UInt8} {s : GS} (h : s.pos ≤ B.length) : (recE B s).pos ≤ B.length :=
  go_le (go_le (go_le (go_le (go_le (go_le (go_le (go_le (go_le (go_le (go_le h))))))))))
theorem st_le {B : List UInt8} {s : GS} (h : s.pos ≤ B.length) : ∀ j, (stG B s j).pos ≤ B.length
  | 0 => h
  | j + 1 => rec_le (st_le h j)
theorem lv_le {B : List UInt8} {s : GS} (h : s.pos ≤ B.length) : ∀ j, (lvS B s j).pos ≤ B.length
  | 0 => h
  | j + 1 => go_le (lv_le h j)
theorem tS2_le (B : List UInt8) : (tS2 B).pos ≤ B.length := go_le (go_le (Nat.zero_le _))
theorem tS8_le (B : List UInt8) : (tS8 B).pos ≤ B.length := go_le (go_le (go_le (go_le (go_le (st_le (tS2_le B) _)))))
theorem tS9_le (B : List UInt8) : (tS9 B).pos ≤ B.length := lv_le (tS8_le B) _
theorem cut_tab {B : List UInt8} {k : Nat} (hk : k < B.length) (hp : tS9 B = ⟨B.length, false⟩) : (tS9 (B.take k)).short = true := by
  cases h : (tS9 (B.take k)).short with
  | true => rfl
  | false =>
    exfalso
    have hk' : k ≤ B.length := by omega
    have hl : (B.take k).length ≤ B.length := by rw [List.length_take]; omega
    obtain ⟨h1, h2, h3, h4, h5, h6, h7, h8⟩ := tab_there h
    have e1 : tS1 B = tS1 (B.take k) := cut_go hl h1
    have e2 : tS2 B = tS2 (B.take k) := by unfold tS2; rw [e1]; exact cut_go hl h2
    have em : tMany B = tMany (B.take k) := by unfold tMany; rw [e1]; exact (cut_num hk' h2).symm
    have e3 : tS3 B = tS3 (B.take k) := by unfold tS3; rw [e2, em]; exact cut_st hk' h3
    have e4 : tS4 B = tS4 (B.take k) := by unfold tS4; rw [e3]; exact cut_go hl h4
    have e5 : tS5 B = tS5 (B.take k) := by unfold tS5; rw [e4]; exact cut_go hl h5
    have e6 : tS6 B = tS6 (B.take k) := by unfold tS6; rw [e5]; exact cut_go hl h6
    have e7 : tS7 B = tS7 (B.take k) := by unfold tS7; rw [e6]; exact cut_go hl h7
    have e8 : tS8 B = tS8 (B.take k) := by unfold tS8; rw [e7]; exact cut_go hl h8
    have el : tLives B = tLives (B.take k) := by unfold tLives; rw [e7]; exact (cut_num hk' h8).symm
    have e9 : tS9 B = tS9 (B.take k) := by unfold tS9; rw [e8, el]; exact cut_lv hk' h
    have := tS9_le (B.take k)
    rw [← e9, hp, List.length_take] at this
    simp at this
    omega
theorem cut_err {t : TC} (h : t.ok = true) (hS : ∀ r ∈ t.recs, L32 r.S) {k : Nat} (hk : k < t.bytes.length) : gErr (t.bytes.take k) = 4 ∧ gAt (t.bytes.take k) = k ∧ gOK (t.bytes.take k) = false := by
  have hs := cut_tab hk (tab_back h hS).2.2
  refine ⟨?_, ?_, ?_⟩
  · unfold gErr; rw [if_pos hs]
  · unfold gAt; rw [if_pos hs, List.length_take]; omega
  · unfold gOK; rw [hs]; rfl
end Go.Proofs.Ytkpkaoiafppimaa
namespace Go.Proofs.Ytkpkaoiafppimaa
set_option linter.unusedVariables false
set_option linter.unusedSimpArgs false
open Go.RowKit Hp
/-- The rows of the records' addresses. -/
def rootRows (E : TypeId) (xs : List (Value × RC)) : List HA := xs.reverse.map fun x => .row x.1 E 2 x.2.l.length (addrsV x.2.l)
theorem rootRows_add (E : TypeId) (xs : List (Value × RC)) (x : Value × RC) : rootRows E (xs ++ [x]) = .row x.1 E 2 x.2.l.length (addrsV x.2.l) :: rootRows E xs := by simp [rootRows]
theorem rootRows_mem {E : TypeId} {xs : List (Value × RC)} {x : Value × RC} (h : x ∈ xs) : HA.row x.1 E 2 x.2.l.length (addrsV x.2.l) ∈ rootRows E xs := by
  unfold rootRows
  rw [List.mem_map]
  exact ⟨x, by simpa using h, rfl⟩
theorem Hp.St.root {w0 w : World} {M : List Nat} {g : HA} {A : List HA} {E : TypeId} {xs : List (Value × RC)} {sv : Value} {x : RC} (h : St w0 M w (g :: .row sv E 2 x.l.length (addrsV x.l) :: (A ++ rootRows E xs))) : St w0 M w (g :: (A ++ rootRows E (xs ++ [(sv, x)]))) := by
  rw [rootRows_add]
  exact St.perm h (.cons _ List.perm_middle.symm)
/-- What a table's bytes come to. -/
def tabOut (rT : TypeId) (aT : TypeId) (iT : TypeId) (B : List UInt8) (w : World) (e : Ending) (w' : World) : Prop :=
  if gOK B then ∃ rv lv xs, e = .returned (.tuple #[.agg (tabC (tabG false B) rv lv).toArray, .agg #[.int .i64 0, .int .i64 0]]) ∧ xs.map (·.2) = (tabG false B).recs ∧ St w [] w' (.row rv rT 44 (tabG false B).recs.length (recsV xs) :: .row lv iT 1 (tabG false B).lives.length (numsV (tabG false B).lives) :: rootRows aT xs)
  else e = .returned (.tuple #[.agg #[.int .i64 0, .slice none 0 0, .int .i64 0, .int .i64 0, .int .i64 0, .int .i64 0, .slice none 0 0], .agg #[.int .i64 (gErr B), .int .i64 (gAt B)]]) ∧ St w [] w' []
theorem gOK_no_short {B : List UInt8} (h : (tS9 B).short = true) : gOK B = false ∧ gErr B = 4 ∧ gAt B = B.length := by
  refine ⟨by unfold gOK; rw [h]; rfl, by unfold gErr; rw [if_pos h], by unfold gAt; rw [if_pos h]⟩
theorem gOK_no_end {B : List UInt8} (h : (tS9 B).short = false) (h2 : (tS9 B).pos < B.length) : gOK B = false ∧ gErr B = 4 ∧ gAt B = (tS9 B).pos := by
  refine ⟨?_, ?_, ?_⟩
  · unfold gOK
    have : ((tS9 B).pos == B.length) = false := by rw [beq_eq_false_iff_ne]; omega
    rw [this]; simp
  · unfold gErr; rw [if_neg (by rw [h]; decide), if_pos h2]
  · unfold gAt; rw [if_neg (by rw [h]; decide), if_pos h2]
theorem gOK_no_fit {B : List UInt8} (h : (tS9 B).short = false) (h2 : ¬ (tS9 B).pos < B.length) (h3 : (rootsG B && (tabG false B).ok) = false) : gOK B = false ∧ gErr B = 2 ∧ gAt B = 0 := by
  refine ⟨?_, ?_, ?_⟩
  · unfold gOK
    rw [Bool.and_assoc, h3]; simp
  · unfold gErr; rw [if_neg (by rw [h]; decide), if_neg h2, h3]; rfl
  · unfold gAt; rw [if_neg (by rw [h]; decide), if_neg h2]
theorem gOK_yes {B : List UInt8} (h : (tS9 B).short = false) (h2 : ¬ (tS9 B).pos < B.length) (h3 : rootsG B = true) (h4 : (tabG false B).ok = true) : gOK B = true ∧ (tabG false B).bytes = B := by
  have hp : (tS9 B).pos = B.length := by have := tS9_le B; omega
  refine ⟨?_, read_write h hp h3⟩
  unfold gOK
  rw [h, hp, h3, h4]
  simp
/-- A record that lies among the pieces is in memory. -/
theorem root_in {w0 w : World} {M : List Nat} {L : List HA} {E : TypeId} {x : Value × RC} (hst : St w0 M w L) (hm : HA.row x.1 E 2 x.2.l.length (addrsV x.2.l) ∈ L) (hS : L32 x.2.S) (hn : x.2.name.length ≤ 9223372036854775807) : RC.In w x := by
  obtain ⟨ao, c, e, h1, h2, h3⟩ := row_form hst hm
  have hr := Rd.row hst hm
  refine ⟨⟨hS, ao, _, c, e, ?_, rfl⟩, hn⟩
  rw [e] at hr
  exact hr
theorem name_le {B : List UInt8} (z : Bool) (s : GS) : (recG z B s).name.length ≤ 255 := by
  show (gotG z B (numG B 1 (rS1 B s)) (rS2 B s)).length ≤ 255
  have := numG1_lt B (rS1 B s)
  unfold gotG
  split
  · cases z
    · simp
    · simp; omega
  · rw [List.length_take]; omega
theorem recs_in {w0 w : World} {M : List Nat} {L : List HA} {rT E : TypeId} {rv : Value} {n : Nat} {B : List UInt8} {z : Bool} {s : GS} {xs : List (Value × RC)} (hst : St w0 M w L) (hr : HA.row rv rT 44 n (recsV xs) ∈ L) (hx : xs.map (·.2) = rcsG z B s n) (hm : ∀ x ∈ xs, HA.row x.1 E 2 x.2.l.length (addrsV x.2.l) ∈ L) : RecsIn w rv n xs := by
  refine ⟨Rd.row hst hr, by rw [← List.length_map (f := (·.2)), hx, length_rcsG], fun x hxm => ?_⟩
  have h2 : x.2 ∈ rcsG z B s n := by rw [← hx]; exact List.mem_map_of_mem hxm
  unfold rcsG at h2
  rw [List.mem_map] at h2
  obtain ⟨i, _, hi⟩ := h2
  refine root_in hst (hm x hxm) ?_ ?_
  · rw [← hi]; exact rec_S _ _ _
  · rw [← hi]; have := name_le z (B := B) (stG B s i); omega
end Go.Proofs.Ytkpkaoiafppimaa
namespace Go.Proofs.Ytkpkaoiafppimaa
set_option linter.unusedVariables false
set_option linter.unusedSimpArgs false
open Go.RowKit Hp
attribute [local irreducible] Go.Calls Go.wpList
set_option maxRecDepth 100000
set_option maxHeartbeats 8000000
attribute [local go_sem ↓] heldInt
theorem grec_any {w0 w : World} {R : List HA} {gr : Nat} (ao : Option Addr) (c : Nat) (B : List UInt8) (s : GS) (hS : St w0 [] w (.blk gr 62 (rdC (.slice ao B.length c) s) :: R)) (hB : Rd w0 (.slice ao B.length c) 1 B.length (bytesV B)) (hN : B.length ≤ 100000) (hp : s.pos ≤ B.length) :
    Calls Try.prog 33 #[.pointer (some ⟨gr, 0, none⟩)] w fun e w' => ∃ sv, e = .returned (.tuple #[.agg (cellsR (sv, recG false B s)).toArray, .bool (rootOk false B s)]) ∧ St w0 [] w' (.blk gr 62 (rdC (.slice ao B.length c) (recE B s)) :: .row sv 98 2 (recG false B s).l.length (addrsV (recG false B s).l) :: R) := by
  cases h : rOK (gotG false B 47 (rS5 B s)) with
  | true => exact grec_ok ao c B s hS hB hN hp h
  | false => exact grec_no ao c B s hS hB hN hp h
theorem row_slice {w0 w : World} {M : List Nat} (L1 : List HA) {L2 : List HA} {v : Value} {T : TypeId} {sz n : Nat} {xs : List Value} (h : St w0 M w (L1 ++ .row v T sz n xs :: L2)) : ∃ ao c, v = .slice ao n c ∧ n ≤ c ∧ c ≤ 9223372036854775807 := by
  obtain ⟨ao, c, e, h1, h2, _⟩ := row_form h (List.mem_append.2 (.inr (.head _)))
  exact ⟨ao, c, e, h1, h2⟩
instance dNRD : TyN Try.prog 62 3 := ⟨by kernel_rfl⟩
instance dZF : TyZ Try.prog 33 [.int .i64 0, .int .i64 0] := ⟨by kernel_rfl⟩
instance dBF : TyB Try.prog 33 [.int .i64 0, .int .i64 0] := ⟨by kernel_rfl⟩
theorem bldRD (ao : Option Addr) (n c : Nat) : Try.prog.built 62 [(0, .slice ao n c)] = some #[.slice ao n c, .int .i64 0, .bool false] := by kernel_rfl
theorem bldF2 (x y : Int) : Try.prog.built 33 [(0, .int .i64 x), (1, .int .i64 y)] = some #[.int .i64 x, .int .i64 y] := by kernel_rfl
theorem bldF1 (x : Int) : Try.prog.built 33 [(0, .int .i64 x)] = some #[.int .i64 x, .int .i64 0] := by kernel_rfl
theorem read12_any (ao : Option Addr) (c : Nat) (B : List UInt8) (w : World) (hB : Rd w (.slice ao B.length c) 1 B.length (bytesV B)) (hN : B.length ≤ 100000) :
    Calls Try.prog 10 #[(.slice ao B.length c)] w (tabOut 47 98 3 B w) := by
  have hst0 := St.refl w
  have HB := hid hB
  have HP0 := hid (show (GS.mk 0 false).pos ≤ B.length from Nat.zero_le _)
  have HP1 := hid (show (tS1 B).pos ≤ B.length from GS.go_pos (Nat.zero_le _))
  have HP2 := hid (tS2_le B)
  have HP3 := hid (show (tS3 B).pos ≤ B.length from st_le (tS2_le B) _)
  have HP4 := hid (show (tS4 B).pos ≤ B.length from GS.go_pos HP3.out)
  have HP5 := hid (show (tS5 B).pos ≤ B.length from GS.go_pos HP4.out)
  have HP6 := hid (show (tS6 B).pos ≤ B.length from GS.go_pos HP5.out)
  have HP7 := hid (show (tS7 B).pos ≤ B.length from GS.go_pos HP6.out)
  have HP8 := hid (tS8_le B)
  clear hB
  go_enter Try.func10, Try.ntmps10
  go_wp2_with (first | go_big_skip | go_big_guard | (refine wl_alloc hst0 rfl rfl ?_; intro g2 w1 hA1; clear hst0) | (refine wl_alloc hA1 rfl rfl ?_; intro g3 w1 hA2; clear hA1) | (refine wl_buildX (cs := [(.slice ao B.length c), .int .i64 0, .bool false]) [(0, (.slice ao B.length c))] rfl rfl (by exact rfl) (bldRD _ _ _) ?_) | (refine wl_boxA hA2 rfl rfl rfl ?_; intro gr w1 h4; have hA3 : St w [] w1 [.blk gr 62 (rdC (.slice ao B.length c) ⟨0, false⟩), .blk g3 33 [.int .i64 0, .int .i64 0], .blk g2 30 tab0] := h4; clear h4 hA2) | (refine wl_alloc hA3 rfl rfl ?_; intro g5 w1 hA4; clear hA3) | (refine wl_alloc hA4 rfl rfl ?_; intro g6 w1 hA5; clear hA4) | (refine wl_alloc hA5 rfl rfl ?_; intro g7 w1 hA6; clear hA5) | (refine wl_store [_] hA6 rfl rfl rfl (v := .int .i64 0) rfl rfl rfl (by show (0 : Nat) + 1 ≤ 1; decide) ?_; intro w1 h4; have hA7 : St w [] w1 [.blk g7 3 [.int .i64 0], .blk g6 3 [.int .i64 0], .blk g5 30 [.int .i64 0, .slice none 0 0, .int .i64 0, .int .i64 0, .int .i64 0, .int .i64 0, .slice none 0 0], .blk gr 62 (rdC (.slice ao B.length c) ⟨0, false⟩), .blk g3 33 [.int .i64 0, .int .i64 0], .blk g2 30 tab0] := h4; clear h4 hA6) | (refine wl_store [] hA7 rfl rfl rfl (v := .int .i64 0) rfl rfl rfl (by show (0 : Nat) + 1 ≤ 1; decide) ?_; intro w1 h4; have hA8 : St w [] w1 [.blk g7 3 [.int .i64 0], .blk g6 3 [.int .i64 0], .blk g5 30 [.int .i64 0, .slice none 0 0, .int .i64 0, .int .i64 0, .int .i64 0, .int .i64 0, .slice none 0 0], .blk gr 62 (rdC (.slice ao B.length c) ⟨0, false⟩), .blk g3 33 [.int .i64 0, .int .i64 0], .blk g2 30 tab0] := h4; clear h4 hA7) | (go_at_call 32; refine (gnum_any (gx := g5) (off := 0) ao B.length c B ⟨0, false⟩ 4 4 rfl (St.front (L1 := [_, _, _]) (St.front (L1 := [_, _]) hA8)) (by show (0 : Nat) + 1 ≤ 7; decide) HB.out rfl hN (by decide) HP0.out).mono ?_; rintro _ w9 ⟨rfl, h4⟩; have hA9 : St w [] w9 (.blk gr 62 (rdC (.slice ao B.length c) (tS1 B)) :: .blk g5 30 [.int .i64 (numG B 4 ⟨0, false⟩ : Nat), .slice none 0 0, .int .i64 0, .int .i64 0, .int .i64 0, .int .i64 0, .slice none 0 0] :: .blk g7 3 [.int .i64 0] :: .blk g6 3 [.int .i64 0] :: .blk g3 33 [.int .i64 0, .int .i64 0] :: .blk g2 30 tab0 :: []) := h4; clear h4 hA8) | (go_at_call 32; refine (gnum_any (gx := g6) (off := 0) ao B.length c B (tS1 B) 1 1 rfl (St.front (L1 := [_]) (St.front (L1 := [_, _, _]) hA9)) (by show (0 : Nat) + 1 ≤ 1; decide) HB.out rfl hN (by decide) HP1.out).mono ?_; rintro _ w9 ⟨rfl, h4⟩; have hA10 : St w [] w9 (.blk gr 62 (rdC (.slice ao B.length c) (tS2 B)) :: .blk g6 3 [.int .i64 (numG B 1 (tS1 B) : Nat)] :: .blk g5 30 [.int .i64 (numG B 4 ⟨0, false⟩ : Nat), .slice none 0 0, .int .i64 0, .int .i64 0, .int .i64 0, .int .i64 0, .slice none 0 0] :: .blk g7 3 [.int .i64 0] :: .blk g3 33 [.int .i64 0, .int .i64 0] :: .blk g2 30 tab0 :: []) := h4; clear h4 hA9) | (refine wl_loadE rfl rfl rfl ?_; refine ⟨_, Loads.at [_] hA10 rfl, ?_⟩))
  have hB0 := St.nilRow 47 44 hA10
  have hB1 : St w [] w9 (.blk gr 62 (rdC (.slice ao B.length c) (tS2 B)) :: .blk g5 30 [.int .i64 (numG B 4 ⟨0, false⟩ : Nat), .slice none 0 0, .int .i64 0, .int .i64 0, .int .i64 0, .int .i64 0, .slice none 0 0] :: .row (.slice none 0 0) 47 44 0 [] :: .blk g6 3 [.int .i64 (numG B 1 (tS1 B) : Nat)] :: .blk g7 3 [.int .i64 0] :: .blk g3 33 [.int .i64 0, .int .i64 0] :: .blk g2 30 tab0 :: []) := (St.front (L1 := [_, _, _, _, _, _]) (St.front (L1 := [_, _, _, _, _, _]) (St.front (L1 := [_, _, _, _]) (St.front (L1 := [_, _, _, _, _]) (St.front (L1 := [_, _, _, _, _, _]) (St.front (L1 := [_, _, _, _, _, _]) (St.front (L1 := [_, _, _, _, _, _]) hB0)))))))
  clear hA10 hB0
  obtain ⟨many, hmany⟩ : ∃ m, m = tMany B := ⟨_, rfl⟩
  have HM := hid hmany
  have hm9 : numG B 1 (tS1 B) = many := hmany.symm
  have HM9 := hid hm9
  have hm255 : many ≤ 255 := by rw [hmany]; have := numG1_lt B (tS1 B); unfold tMany; omega
  rw [hm9] at hB1 ⊢
  clear hmany hm9
  go_loopw [8, 22] (fun f i wr => ∃ (j : Nat) (rv : Value) (xs : List (Value × RC)), j ≤ many ∧ i = .int .i64 (j : Int) ∧ f = .bool (oksG false B (tS2 B) j) ∧ xs.map (·.2) = rcsG false B (tS2 B) j ∧ St w [] wr (.blk gr 62 (rdC (.slice ao B.length c) (stG B (tS2 B) j)) :: .blk g5 30 [.int .i64 (numG B 4 ⟨0, false⟩ : Nat), rv, .int .i64 0, .int .i64 0, .int .i64 0, .int .i64 0, .slice none 0 0] :: .row rv 47 44 j (recsV xs) :: .blk g6 3 [.int .i64 (many : Nat)] :: .blk g7 3 [.int .i64 0] :: .blk g3 33 [.int .i64 0, .int .i64 0] :: .blk g2 30 tab0 :: rootRows 98 xs)) (fun _ i _ => many - (intOf i).toNat)
  case atStart => exact ⟨0, _, [], Nat.zero_le _, rfl, rfl, rfl, hB1⟩
  case round =>
    clear hB1
    obtain ⟨j, rv, xs, hj, rfl, rfl, hx, hst⟩ := hrel
    have HX := hid hx
    clear hx
    obtain ⟨f, hf⟩ : ∃ f, f = oksG false B (tS2 B) j := ⟨_, rfl⟩
    rw [← hf]
    have HF := hid hf.symm
    clear hf
    by_cases hlt : j < many
    · have e1 : decide ((j : Int) < (many : Int)) = true := decide_eq_true (by omega)
      have z1 : IntKind.i64.wrap ((j : Int) + 1) = (j : Int) + 1 := IntWalk.i64_in _ (by omega)
      have HL44 := hid (show ∀ sv : Value, (cellsR (sv, recG false B (stG B (tS2 B) j))).length = 44 from fun _ => cellsR_len (rec_S _ _ _))
      cases f
      · skip
        go_wp2_with (first | go_big_skip | go_big_guard | (go_at_call 33; refine (grec_any ao c B (stG B (tS2 B) j) hst HB.out hN (st_le HP2.out j)).mono ?_; rintro _ w9 ⟨sv, rfl, h4⟩; have hD1 := Hp.St.root (A := [_, _, _, _, _, _]) h4; have HINR := hid (root_in (x := (sv, recG false B (stG B (tS2 B) j))) h4 (.tail _ (.head _)) (rec_S _ _ _) (by have := name_le (B := B) false (stG B (tS2 B) j); exact Nat.le_trans this (by decide))); clear h4 hst) | (refine wl_alloc hD1 rfl rfl ?_; intro g9 w1 hD2; clear hD1) | (refine wl_storeA [] hD2 rfl rfl rfl rfl (HL44.out _) (cellsR_ones HINR.out) rfl ?_; intro w1 hD3; clear hD2) | (refine wl_loadE rfl rfl rfl ?_; first | refine ⟨_, Loads.atA (cellsR (sv, recG false B (stG B (tS2 B) j))) [] hD3 (HL44.out _) (cellsR_all _), ?_⟩ | refine ⟨_, Loads.at [_, _] hD3 rfl, ?_⟩) | (apply wl_bsX [.agg (List.toArray (cellsR (sv, recG false B (stG B (tS2 B) j))))] (cellsR (sv, recG false B (stG B (tS2 B) j))) hD3; rfl; rfl; exact rfl; exact (List.append_nil _); infer_instance; infer_instance; (show (((List.toArray (cellsR (sv, recG false B (stG B (tS2 B) j)))).size == 44) && true) = true; rw [List.size_toArray, HL44.out _]; rfl); rfl; rfl; intro gb w5 hD4; clear hD3) | (apply wl_appX (m := 1) (ys := cellsR (sv, recG false B (stG B (tS2 B) j))) [_, _, _, _] hD4; rfl; rfl; exact rfl; exact rfl; infer_instance; infer_instance; infer_instance; exact Rd.blk (n := 1) hD4 (.head _) (Nat.le_refl _) (by decide) (by rw [HL44.out _]) (by rw [List.drop_zero, List.take_length]); exact cellsR_ones HINR.out; exact ⟨by decide, by unfold maxLen; omega, by omega⟩; intro rv2 w6 hD5 _; obtain ⟨ro, rc, rfl, _, _⟩ := row_slice [_, _, _, _] hD5; clear hD4) | (refine wl_store [_, _, _] hD5 rfl rfl rfl (off := 1) (v := .slice _ _ _) rfl rfl rfl (by show (1 : Nat) + 1 ≤ 7; decide) ?_; intro w7 hD6; clear hD5))
        go_roundw
        case rel =>
          have hD7 : St w [] w7 (.blk gr 62 (rdC (.slice ao B.length c) (stG B (tS2 B) (j + 1))) :: .blk g5 30 [.int .i64 (numG B 4 ⟨0, false⟩ : Nat), .slice ro (j + 1) rc, .int .i64 0, .int .i64 0, .int .i64 0, .int .i64 0, .slice none 0 0] :: .row (.slice ro (j + 1) rc) 47 44 (j + 1) (recsV (xs ++ [(sv, recG false B (stG B (tS2 B) j))])) :: .blk g6 3 [.int .i64 (many : Nat)] :: .blk g7 3 [.int .i64 0] :: .blk g3 33 [.int .i64 0, .int .i64 0] :: .blk g2 30 tab0 :: rootRows 98 (xs ++ [(sv, recG false B (stG B (tS2 B) j))])) := by
            rw [recsV_append, show recsV [(sv, recG false B (stG B (tS2 B) j))] = cellsR (sv, recG false B (stG B (tS2 B) j)) from List.append_nil _]
            exact St.sub hD6 (.cons _ (.cons _ (List.Sublist.refl _)))
          refine ⟨j + 1, .slice ro (j + 1) rc, xs ++ [(sv, recG false B (stG B (tS2 B) j))], by omega, rfl, ?_, ?_, hD7⟩
          · rw [oksG_succ, HF.out]; rfl
          · rw [List.map_append, HX.out, rcsG_succ]; rfl
        case measure => simp [intOf]; omega
      · skip
        go_wp2_with (first | go_big_skip | go_big_guard | (go_at_call 33; refine (grec_any ao c B (stG B (tS2 B) j) hst HB.out hN (st_le HP2.out j)).mono ?_; rintro _ w9 ⟨sv, rfl, h4⟩; have hD1 := Hp.St.root (A := [_, _, _, _, _, _]) h4; have HINR := hid (root_in (x := (sv, recG false B (stG B (tS2 B) j))) h4 (.tail _ (.head _)) (rec_S _ _ _) (by have := name_le (B := B) false (stG B (tS2 B) j); exact Nat.le_trans this (by decide))); clear h4 hst) | (refine wl_alloc hD1 rfl rfl ?_; intro g9 w1 hD2; clear hD1) | (refine wl_storeA [] hD2 rfl rfl rfl rfl (HL44.out _) (cellsR_ones HINR.out) rfl ?_; intro w1 hD3; clear hD2) | (refine wl_loadE rfl rfl rfl ?_; first | refine ⟨_, Loads.atA (cellsR (sv, recG false B (stG B (tS2 B) j))) [] hD3 (HL44.out _) (cellsR_all _), ?_⟩ | refine ⟨_, Loads.at [_, _] hD3 rfl, ?_⟩) | (apply wl_bsX [.agg (List.toArray (cellsR (sv, recG false B (stG B (tS2 B) j))))] (cellsR (sv, recG false B (stG B (tS2 B) j))) hD3; rfl; rfl; exact rfl; exact (List.append_nil _); infer_instance; infer_instance; (show (((List.toArray (cellsR (sv, recG false B (stG B (tS2 B) j)))).size == 44) && true) = true; rw [List.size_toArray, HL44.out _]; rfl); rfl; rfl; intro gb w5 hD4; clear hD3) | (apply wl_appX (m := 1) (ys := cellsR (sv, recG false B (stG B (tS2 B) j))) [_, _, _, _] hD4; rfl; rfl; exact rfl; exact rfl; infer_instance; infer_instance; infer_instance; exact Rd.blk (n := 1) hD4 (.head _) (Nat.le_refl _) (by decide) (by rw [HL44.out _]) (by rw [List.drop_zero, List.take_length]); exact cellsR_ones HINR.out; exact ⟨by decide, by unfold maxLen; omega, by omega⟩; intro rv2 w6 hD5 _; obtain ⟨ro, rc, rfl, _, _⟩ := row_slice [_, _, _, _] hD5; clear hD4) | (refine wl_store [_, _, _] hD5 rfl rfl rfl (off := 1) (v := .slice _ _ _) rfl rfl rfl (by show (1 : Nat) + 1 ≤ 7; decide) ?_; intro w7 hD6; clear hD5))
        go_roundw
        case rel =>
          have hD7 : St w [] w7 (.blk gr 62 (rdC (.slice ao B.length c) (stG B (tS2 B) (j + 1))) :: .blk g5 30 [.int .i64 (numG B 4 ⟨0, false⟩ : Nat), .slice ro (j + 1) rc, .int .i64 0, .int .i64 0, .int .i64 0, .int .i64 0, .slice none 0 0] :: .row (.slice ro (j + 1) rc) 47 44 (j + 1) (recsV (xs ++ [(sv, recG false B (stG B (tS2 B) j))])) :: .blk g6 3 [.int .i64 (many : Nat)] :: .blk g7 3 [.int .i64 0] :: .blk g3 33 [.int .i64 0, .int .i64 0] :: .blk g2 30 tab0 :: rootRows 98 (xs ++ [(sv, recG false B (stG B (tS2 B) j))])) := by
            rw [recsV_append, show recsV [(sv, recG false B (stG B (tS2 B) j))] = cellsR (sv, recG false B (stG B (tS2 B) j)) from List.append_nil _]
            exact St.sub hD6 (.cons _ (.cons _ (List.Sublist.refl _)))
          refine ⟨j + 1, .slice ro (j + 1) rc, xs ++ [(sv, recG false B (stG B (tS2 B) j))], by omega, rfl, ?_, ?_, hD7⟩
          · rw [oksG_succ, HF.out]; rfl
          · rw [List.map_append, HX.out, rcsG_succ]; rfl
        case measure => simp [intOf]; omega
    · have e1 : decide ((j : Int) < (many : Int)) = false := decide_eq_false (by omega)
      obtain rfl : j = many := by omega
      have HXT := hid (show xs.map (·.2) = (tabG false B).recs by rw [HX.out, HM.out]; rfl)
      have HFR := hid (show rootsG B = f by rw [← HF.out, HM.out]; rfl)
      obtain ⟨ro, rc, rfl, _, _⟩ := row_slice [_, _] hst
      have hC0 : St w [] wr (.blk gr 62 (rdC (.slice ao B.length c) (tS3 B)) :: .blk g5 30 [.int .i64 (numG B 4 ⟨0, false⟩ : Nat), .slice ro j rc, .int .i64 0, .int .i64 0, .int .i64 0, .int .i64 0, .slice none 0 0] :: .row (.slice ro j rc) 47 44 j (recsV xs) :: .blk g6 3 [.int .i64 (j : Nat)] :: .blk g7 3 [.int .i64 0] :: .blk g3 33 [.int .i64 0, .int .i64 0] :: .blk g2 30 tab0 :: rootRows 98 xs) := by rw [show tS3 B = stG B (tS2 B) j by unfold tS3; rw [HM.out]]; exact hst
      clear hst
      go_wp2_with (first | go_big_skip | go_big_guard | (go_at_call 32; refine (gnum_any (gx := g5) (off := 2) ao B.length c B (tS3 B) 1 1 rfl (St.front (L1 := [_]) (St.front (L1 := [_]) hC0)) (by show (2 : Nat) + 1 ≤ 7; decide) HB.out rfl hN (by decide) HP3.out).mono ?_; rintro _ w9 ⟨rfl, h4⟩; have hC1 : St w [] w9 (.blk gr 62 (rdC (.slice ao B.length c) (tS4 B)) :: .blk g5 30 [.int .i64 (numG B 4 ⟨0, false⟩ : Nat), .slice ro j rc, .int .i64 (numG B 1 (tS3 B) : Nat), .int .i64 0, .int .i64 0, .int .i64 0, .slice none 0 0] :: .row (.slice ro j rc) 47 44 j (recsV xs) :: .blk g6 3 [.int .i64 (j : Nat)] :: .blk g7 3 [.int .i64 0] :: .blk g3 33 [.int .i64 0, .int .i64 0] :: .blk g2 30 tab0 :: rootRows 98 xs) := h4; clear h4 hC0) | (go_at_call 32; refine (gnum_any (gx := g5) (off := 3) ao B.length c B (tS4 B) 1 1 rfl (St.front (L1 := [_]) (St.front (L1 := [_]) hC1)) (by show (3 : Nat) + 1 ≤ 7; decide) HB.out rfl hN (by decide) HP4.out).mono ?_; rintro _ w9 ⟨rfl, h4⟩; have hC2 : St w [] w9 (.blk gr 62 (rdC (.slice ao B.length c) (tS5 B)) :: .blk g5 30 [.int .i64 (numG B 4 ⟨0, false⟩ : Nat), .slice ro j rc, .int .i64 (numG B 1 (tS3 B) : Nat), .int .i64 (numG B 1 (tS4 B) : Nat), .int .i64 0, .int .i64 0, .slice none 0 0] :: .row (.slice ro j rc) 47 44 j (recsV xs) :: .blk g6 3 [.int .i64 (j : Nat)] :: .blk g7 3 [.int .i64 0] :: .blk g3 33 [.int .i64 0, .int .i64 0] :: .blk g2 30 tab0 :: rootRows 98 xs) := h4; clear h4 hC1) | (go_at_call 32; refine (gnum_any (gx := g5) (off := 4) ao B.length c B (tS5 B) 4 4 rfl (St.front (L1 := [_]) (St.front (L1 := [_]) hC2)) (by show (4 : Nat) + 1 ≤ 7; decide) HB.out rfl hN (by decide) HP5.out).mono ?_; rintro _ w9 ⟨rfl, h4⟩; have hC3 : St w [] w9 (.blk gr 62 (rdC (.slice ao B.length c) (tS6 B)) :: .blk g5 30 [.int .i64 (numG B 4 ⟨0, false⟩ : Nat), .slice ro j rc, .int .i64 (numG B 1 (tS3 B) : Nat), .int .i64 (numG B 1 (tS4 B) : Nat), .int .i64 (numG B 4 (tS5 B) : Nat), .int .i64 0, .slice none 0 0] :: .row (.slice ro j rc) 47 44 j (recsV xs) :: .blk g6 3 [.int .i64 (j : Nat)] :: .blk g7 3 [.int .i64 0] :: .blk g3 33 [.int .i64 0, .int .i64 0] :: .blk g2 30 tab0 :: rootRows 98 xs) := h4; clear h4 hC2) | (go_at_call 32; refine (gnum_any (gx := g5) (off := 5) ao B.length c B (tS6 B) 4 4 rfl (St.front (L1 := [_]) (St.front (L1 := [_]) hC3)) (by show (5 : Nat) + 1 ≤ 7; decide) HB.out rfl hN (by decide) HP6.out).mono ?_; rintro _ w9 ⟨rfl, h4⟩; have hC4 : St w [] w9 (.blk gr 62 (rdC (.slice ao B.length c) (tS7 B)) :: .blk g5 30 [.int .i64 (numG B 4 ⟨0, false⟩ : Nat), .slice ro j rc, .int .i64 (numG B 1 (tS3 B) : Nat), .int .i64 (numG B 1 (tS4 B) : Nat), .int .i64 (numG B 4 (tS5 B) : Nat), .int .i64 (numG B 4 (tS6 B) : Nat), .slice none 0 0] :: .row (.slice ro j rc) 47 44 j (recsV xs) :: .blk g6 3 [.int .i64 (j : Nat)] :: .blk g7 3 [.int .i64 0] :: .blk g3 33 [.int .i64 0, .int .i64 0] :: .blk g2 30 tab0 :: rootRows 98 xs) := h4; clear h4 hC3) | (go_at_call 32; refine (gnum_any (gx := g7) (off := 0) ao B.length c B (tS7 B) 1 1 rfl (St.front (L1 := [_]) (St.front (L1 := [_, _, _, _]) hC4)) (by show (0 : Nat) + 1 ≤ 1; decide) HB.out rfl hN (by decide) HP7.out).mono ?_; rintro _ w9 ⟨rfl, h4⟩; have hC5 : St w [] w9 (.blk gr 62 (rdC (.slice ao B.length c) (tS8 B)) :: .blk g7 3 [.int .i64 (numG B 1 (tS7 B) : Nat)] :: .blk g5 30 [.int .i64 (numG B 4 ⟨0, false⟩ : Nat), .slice ro j rc, .int .i64 (numG B 1 (tS3 B) : Nat), .int .i64 (numG B 1 (tS4 B) : Nat), .int .i64 (numG B 4 (tS5 B) : Nat), .int .i64 (numG B 4 (tS6 B) : Nat), .slice none 0 0] :: .row (.slice ro j rc) 47 44 j (recsV xs) :: .blk g6 3 [.int .i64 (j : Nat)] :: .blk g3 33 [.int .i64 0, .int .i64 0] :: .blk g2 30 tab0 :: rootRows 98 xs) := h4; clear h4 hC4) | (refine wl_loadE rfl rfl rfl ?_; refine ⟨_, Loads.at [_] hC5 rfl, ?_⟩))
      have hD0 := St.nilRow 3 1 hC5
      have hD1 : St w [] w9 (.blk gr 62 (rdC (.slice ao B.length c) (tS8 B)) :: .blk g5 30 [.int .i64 (numG B 4 ⟨0, false⟩ : Nat), .slice ro j rc, .int .i64 (numG B 1 (tS3 B) : Nat), .int .i64 (numG B 1 (tS4 B) : Nat), .int .i64 (numG B 4 (tS5 B) : Nat), .int .i64 (numG B 4 (tS6 B) : Nat), .slice none 0 0] :: .row (.slice ro j rc) 47 44 j (recsV xs) :: .row (.slice none 0 0) 3 1 0 [] :: .blk g6 3 [.int .i64 (j : Nat)] :: .blk g7 3 [.int .i64 (numG B 1 (tS7 B) : Nat)] :: .blk g3 33 [.int .i64 0, .int .i64 0] :: .blk g2 30 tab0 :: rootRows 98 xs) := (St.front (L1 := [_, _, _, _, _, _, _]) (St.front (L1 := [_, _, _, _, _, _, _]) (St.front (L1 := [_, _, _, _, _, _, _]) (St.front (L1 := [_, _, _, _]) (St.front (L1 := [_, _, _, _, _, _, _]) (St.front (L1 := [_, _, _, _]) (St.front (L1 := [_, _, _, _, _, _, _]) (St.front (L1 := [_, _, _, _, _, _, _]) hD0))))))))
      clear hC5 hD0
      obtain ⟨nl, hnl⟩ : ∃ m, m = tLives B := ⟨_, rfl⟩
      have HNL := hid hnl
      have hl9 : numG B 1 (tS7 B) = nl := hnl.symm
      have hl255 : nl ≤ 255 := by rw [hnl]; have := numG1_lt B (tS7 B); unfold tLives; omega
      rw [hl9] at hD1 ⊢
      clear hnl hl9
      go_loopw [55] (fun i wr => ∃ (k : Nat) (lv : Value), k ≤ nl ∧ i = .int .i64 (k : Int) ∧ St w [] wr (.blk gr 62 (rdC (.slice ao B.length c) (lvS B (tS8 B) k)) :: .blk g5 30 [.int .i64 (numG B 4 ⟨0, false⟩ : Nat), .slice ro j rc, .int .i64 (numG B 1 (tS3 B) : Nat), .int .i64 (numG B 1 (tS4 B) : Nat), .int .i64 (numG B 4 (tS5 B) : Nat), .int .i64 (numG B 4 (tS6 B) : Nat), lv] :: .row (.slice ro j rc) 47 44 j (recsV xs) :: .row (lv) 3 1 k (numsV (lvsG B (tS8 B) k)) :: .blk g6 3 [.int .i64 (j : Nat)] :: .blk g7 3 [.int .i64 (nl : Nat)] :: .blk g3 33 [.int .i64 0, .int .i64 0] :: .blk g2 30 tab0 :: rootRows 98 xs)) (fun i _ => nl - (intOf i).toNat)
      case atStart => exact ⟨0, _, Nat.zero_le _, rfl, hD1⟩
      case round =>
        clear hD1
        obtain ⟨k, lv, hk, rfl, hst⟩ := hrel
        by_cases hltk : k < nl
        · have e2 : decide ((k : Int) < (nl : Int)) = true := decide_eq_true (by omega)
          have z2 : IntKind.i64.wrap ((k : Int) + 1) = (k : Int) + 1 := IntWalk.i64_in _ (by omega)
          go_wp2_with (first | go_big_skip | go_big_guard | (refine wl_alloc hst rfl rfl ?_; intro g11 w1 hE1; clear hst) | (refine wl_store [] hE1 rfl rfl rfl (v := .int .i64 0) rfl rfl rfl (by show (0 : Nat) + 1 ≤ 1; decide) ?_; intro w1 h4; have hE2 : St w [] w1 (.blk g11 3 [.int .i64 0] :: .blk gr 62 (rdC (.slice ao B.length c) (lvS B (tS8 B) k)) :: .blk g5 30 [.int .i64 (numG B 4 ⟨0, false⟩ : Nat), .slice ro j rc, .int .i64 (numG B 1 (tS3 B) : Nat), .int .i64 (numG B 1 (tS4 B) : Nat), .int .i64 (numG B 4 (tS5 B) : Nat), .int .i64 (numG B 4 (tS6 B) : Nat), lv] :: .row (.slice ro j rc) 47 44 j (recsV xs) :: .row (lv) 3 1 k (numsV (lvsG B (tS8 B) k)) :: .blk g6 3 [.int .i64 (j : Nat)] :: .blk g7 3 [.int .i64 (nl : Nat)] :: .blk g3 33 [.int .i64 0, .int .i64 0] :: .blk g2 30 tab0 :: rootRows 98 xs) := h4; clear h4 hE1) | (go_at_call 32; refine (gnum_any (gx := g11) (off := 0) ao B.length c B (lvS B (tS8 B) k) 4 4 rfl (St.front (L1 := [_]) hE2) (by decide) HB.out rfl hN (by decide) (lv_le HP8.out k)).mono ?_; rintro _ w9 ⟨rfl, h4⟩; have hE3 : St w [] w9 (.blk gr 62 (rdC (.slice ao B.length c) (lvS B (tS8 B) (k + 1))) :: .blk g11 3 [.int .i64 (numG B 4 (lvS B (tS8 B) k) : Nat)] :: .blk g5 30 [.int .i64 (numG B 4 ⟨0, false⟩ : Nat), .slice ro j rc, .int .i64 (numG B 1 (tS3 B) : Nat), .int .i64 (numG B 1 (tS4 B) : Nat), .int .i64 (numG B 4 (tS5 B) : Nat), .int .i64 (numG B 4 (tS6 B) : Nat), lv] :: .row (.slice ro j rc) 47 44 j (recsV xs) :: .row (lv) 3 1 k (numsV (lvsG B (tS8 B) k)) :: .blk g6 3 [.int .i64 (j : Nat)] :: .blk g7 3 [.int .i64 (nl : Nat)] :: .blk g3 33 [.int .i64 0, .int .i64 0] :: .blk g2 30 tab0 :: rootRows 98 xs) := h4; clear h4 hE2) | (refine wl_loadE rfl rfl rfl ?_; first | refine ⟨_, Loads.at [_, _] hE3 rfl, ?_⟩ | refine ⟨_, Loads.at [_] hE3 rfl, ?_⟩) | (apply wl_bsX [.int .i64 (numG B 4 (lvS B (tS8 B) k) : Nat)] [.int .i64 (numG B 4 (lvS B (tS8 B) k) : Nat)] hE3; rfl; rfl; exact rfl; exact rfl; infer_instance; infer_instance; rfl; rfl; rfl; intro gb w5 hE4; clear hE3) | (apply wl_appX (m := 1) (ys := [.int .i64 (numG B 4 (lvS B (tS8 B) k) : Nat)]) [_, _, _, _, _] hE4; rfl; rfl; exact rfl; exact rfl; infer_instance; infer_instance; infer_instance; exact (Rd.blk0 hE4 rfl (by decide)); exact rfl; exact ⟨by decide, by unfold maxLen; omega, by omega⟩; intro lv2 w6 hE5 _; obtain ⟨lo, lc, rfl, _, _⟩ := row_slice [_, _, _, _, _] hE5; clear hE4) | (refine wl_store [_, _, _] hE5 rfl rfl rfl (off := 6) (v := .slice _ _ _) rfl rfl rfl (by show (6 : Nat) + 1 ≤ 7; decide) ?_; intro w7 hE6; clear hE5))
          go_roundw
          case rel =>
            have hE7 : St w [] w7 (.blk gr 62 (rdC (.slice ao B.length c) (lvS B (tS8 B) (k + 1))) :: .blk g5 30 [.int .i64 (numG B 4 ⟨0, false⟩ : Nat), .slice ro j rc, .int .i64 (numG B 1 (tS3 B) : Nat), .int .i64 (numG B 1 (tS4 B) : Nat), .int .i64 (numG B 4 (tS5 B) : Nat), .int .i64 (numG B 4 (tS6 B) : Nat), .slice lo (k + 1) lc] :: .row (.slice ro j rc) 47 44 j (recsV xs) :: .row (.slice lo (k + 1) lc) 3 1 (k + 1) (numsV (lvsG B (tS8 B) (k + 1))) :: .blk g6 3 [.int .i64 (j : Nat)] :: .blk g7 3 [.int .i64 (nl : Nat)] :: .blk g3 33 [.int .i64 0, .int .i64 0] :: .blk g2 30 tab0 :: rootRows 98 xs) := by
              rw [lvsG_succ, numsV_append]
              exact St.sub hE6 (.cons _ (.cons_cons _ (.cons _ (List.Sublist.refl _))))
            exact ⟨k + 1, .slice lo (k + 1) lc, by omega, rfl, hE7⟩
          case measure => simp [intOf]; omega
        · have e2 : decide ((k : Int) < (nl : Int)) = false := decide_eq_false (by omega)
          obtain rfl : k = nl := by omega
          obtain ⟨lo, lc, rfl, _, _⟩ := row_slice [_, _, _] hst
          obtain ⟨⟨p, sh⟩, h9⟩ : ∃ q : GS, tS9 B = q := ⟨_, rfl⟩
          have H9 := hid h9
          have hX : St w [] wr (.blk gr 62 [(.slice ao B.length c), .int .i64 (p : Int), .bool sh] :: .blk g5 30 [.int .i64 (numG B 4 ⟨0, false⟩ : Nat), .slice ro j rc, .int .i64 (numG B 1 (tS3 B) : Nat), .int .i64 (numG B 1 (tS4 B) : Nat), .int .i64 (numG B 4 (tS5 B) : Nat), .int .i64 (numG B 4 (tS6 B) : Nat), .slice lo k lc] :: .row (.slice ro j rc) 47 44 j (recsV xs) :: .row (.slice lo k lc) 3 1 k (numsV (lvsG B (tS8 B) k)) :: .blk g6 3 [.int .i64 (j : Nat)] :: .blk g7 3 [.int .i64 (k : Nat)] :: .blk g3 33 [.int .i64 0, .int .i64 0] :: .blk g2 30 tab0 :: rootRows 98 xs) := by
            have e9 : lvS B (tS8 B) k = ⟨p, sh⟩ := by rw [← h9, HNL.out]; rfl
            rw [e9] at hst
            exact hst
          clear hst h9
          have HLT := hid (show (tabG false B).lives = lvsG B (tS8 B) k by rw [HNL.out]; rfl)
          have HLN := hid (show (tabG false B).lives.length = k by rw [HLT.out, length_lvsG])
          cases sh
          · by_cases hpl : p < B.length
            · skip
              have d3 : decide ((p : Int) < (B.length : Int)) = true := decide_eq_true (by omega)
              go_wp2_with (first | go_big_skip | go_big_guard | (refine wl_loadE rfl rfl rfl ?_; refine ⟨_, Loads.at [] hX rfl, ?_⟩))
              have hY := hX.drew
              clear hX
              refine wp_region_held_drew (S := (fun w' => (loadVarH 3 ⟨gr, 1, none⟩).run Try.prog w' = .ok (.int .i64 (p : Int)) w')) (by kernel_rfl) (by exact ldS [] hY rfl) (fun hHeld => ?_)
              refine tk 0 83 ?_
              (try simp only [Act.put, List.setIfInBounds_toArray, List.set_cons_zero, List.set_cons_succ])
              refine tk 1 84 ?_
              (try simp only [Act.put, List.setIfInBounds_toArray, List.set_cons_zero, List.set_cons_succ])
              refine tk 2 85 ?_
              (try simp only [Act.put, List.setIfInBounds_toArray, List.set_cons_zero, List.set_cons_succ])
              refine tk 3 86 ?_
              (try simp only [Act.put, List.setIfInBounds_toArray, List.set_cons_zero, List.set_cons_succ])
              refine tk 4 87 ?_
              (try simp only [Act.put, List.setIfInBounds_toArray, List.set_cons_zero, List.set_cons_succ])
              refine wpAnyH_ready (rs := [5, 6]) (by kernel_rfl) (by simp) ?_
              refine (AllReadyH.cons (o := ⟨some 88, _, _, _, _, _⟩) rfl (fun K hK => ?_) (AllReadyH.cons (o := ⟨none, _, _, _, _, _⟩) rfl (fun K hK => ?_) AllReadyH.nil))
              · rw [if_pos (by rfl)]
                refine ow_of_wl (ops := #[]) (by rfl) ?_
                refine wl_buildX (cs := [.int .i64 4, .int .i64 (p : Int)]) [(0, .int .i64 4), (1, .int .i64 (p : Int))] rfl rfl (by exact rfl) (bldF2 _ _) ?_
                refine q0_nil ?_
                refine hK.out _ _ ?_ (fun hHeld => ?_)
                · exact ldS [] hY rfl
                clear hK K
                (try simp only [Act.put, List.setIfInBounds_toArray, List.set_cons_zero, List.set_cons_succ])
                refine wpAnyH_ready (rs := [6]) (by kernel_rfl) (by simp) ?_
                refine (AllReadyH.cons (o := ⟨none, _, _, _, _, _⟩) rfl (fun K hK => ?_) AllReadyH.nil)
                rw [if_pos (by rfl)]
                refine ow_of_wl (ops := #[]) (by rfl) ?_
                refine wl_storeA [_, _, _, _, _, _, _] hY rfl rfl rfl rfl rfl rfl rfl ?_
                intro w7 hX2
                refine q0_nil ?_
                refine hK.out _ _ ?_ (fun hHeld => ?_)
                · exact ldS [] hX2 rfl
                clear hK K
                (try simp only [Act.put, List.setIfInBounds_toArray, List.set_cons_zero, List.set_cons_succ])
                refine wpAnyH_ready (rs := [7]) (by kernel_rfl) (by simp) ?_
                refine (AllReadyH.cons (o := ⟨none, _, _, _, _, _⟩) rfl (fun K hK => ?_) AllReadyH.nil)
                rw [if_pos (by rfl)]
                refine ow_of_wl (ops := #[]) (by rfl) ?_
                refine wl_storeA [_, _, _, _, _, _] hX2 rfl rfl rfl rfl rfl rfl rfl ?_
                intro w7 hX3
                refine q0_nil ?_
                refine hK.out _ _ ?_ (fun hHeld => ?_)
                · exact ldS [] hX3 rfl
                clear hK K
                (try simp only [Act.put, List.setIfInBounds_toArray, List.set_cons_zero, List.set_cons_succ])
                refine wpAnyH_done (by kernel_rfl) ?_ _
                clear hHeld
                go_wp2_with (first | go_big_skip | go_big_guard | fail)
                have hl := Loads.atA (P := Try.prog) (off := 0) (T := 30) tab0 [_, _, _, _, _, _, _] hX3 rfl rfl
                have hk := Loads.atA (P := Try.prog) (off := 0) (T := 33) [.int .i64 4, .int .i64 p] [_, _, _, _, _, _] hX3 rfl rfl
                refine bodyPost_ret (results_cell2L rfl rfl rfl hl hk) rfl ?_
                unfold tabOut
                obtain ⟨q1, q2, q3⟩ := gOK_no_end (by rw [H9.out]) (by rw [H9.out]; exact hpl)
                rw [H9.out] at q3
                rw [if_neg (by rw [q1]; decide), q2, q3]
                exact ⟨rfl, hX3.nil⟩
              · rw [if_pos (by rfl)]
                refine ow_of_wl (ops := #[]) (by rfl) ?_
                refine wl_storeA [_, _, _, _, _, _, _] hY rfl rfl rfl rfl rfl rfl rfl ?_
                intro w7 hX2
                refine q0_nil ?_
                refine hK.out _ _ ?_ (fun hHeld => ?_)
                · exact ldS [] hX2 rfl
                clear hK K
                (try simp only [Act.put, List.setIfInBounds_toArray, List.set_cons_zero, List.set_cons_succ])
                refine wpAnyH_ready (rs := [5]) (by kernel_rfl) (by simp) ?_
                refine (AllReadyH.cons (o := ⟨some 88, _, _, _, _, _⟩) rfl (fun K hK => ?_) AllReadyH.nil)
                rw [if_pos (by rfl)]
                refine ow_of_wl (ops := #[]) (by rfl) ?_
                refine wl_buildX (cs := [.int .i64 4, .int .i64 (p : Int)]) [(0, .int .i64 4), (1, .int .i64 (p : Int))] rfl rfl (by exact rfl) (bldF2 _ _) ?_
                refine q0_nil ?_
                refine hK.out _ _ ?_ (fun hHeld => ?_)
                · exact ldS [] hX2 rfl
                clear hK K
                (try simp only [Act.put, List.setIfInBounds_toArray, List.set_cons_zero, List.set_cons_succ])
                refine wpAnyH_ready (rs := [7]) (by kernel_rfl) (by simp) ?_
                refine (AllReadyH.cons (o := ⟨none, _, _, _, _, _⟩) rfl (fun K hK => ?_) AllReadyH.nil)
                rw [if_pos (by rfl)]
                refine ow_of_wl (ops := #[]) (by rfl) ?_
                refine wl_storeA [_, _, _, _, _, _] hX2 rfl rfl rfl rfl rfl rfl rfl ?_
                intro w7 hX3
                refine q0_nil ?_
                refine hK.out _ _ ?_ (fun hHeld => ?_)
                · exact ldS [] hX3 rfl
                clear hK K
                (try simp only [Act.put, List.setIfInBounds_toArray, List.set_cons_zero, List.set_cons_succ])
                refine wpAnyH_done (by kernel_rfl) ?_ _
                clear hHeld
                go_wp2_with (first | go_big_skip | go_big_guard | fail)
                have hl := Loads.atA (P := Try.prog) (off := 0) (T := 30) tab0 [_, _, _, _, _, _, _] hX3 rfl rfl
                have hk := Loads.atA (P := Try.prog) (off := 0) (T := 33) [.int .i64 4, .int .i64 p] [_, _, _, _, _, _] hX3 rfl rfl
                refine bodyPost_ret (results_cell2L rfl rfl rfl hl hk) rfl ?_
                unfold tabOut
                obtain ⟨q1, q2, q3⟩ := gOK_no_end (by rw [H9.out]) (by rw [H9.out]; exact hpl)
                rw [H9.out] at q3
                rw [if_neg (by rw [q1]; decide), q2, q3]
                exact ⟨rfl, hX3.nil⟩
            · have d3 : decide ((p : Int) < (B.length : Int)) = false := decide_eq_false (by omega)
              obtain ⟨q, hq⟩ : ∃ q, (tabG false B).ok = q := ⟨_, rfl⟩
              have HOK := hid hq
              cases q
              · cases f
                · skip
                  go_wp2_with (first | go_big_skip | go_big_guard | (refine wl_loadE rfl rfl rfl ?_; first | refine ⟨_, Loads.at [] hX rfl, ?_⟩ | refine ⟨_, Loads.atA (tabC (tabG false B) (.slice ro j rc) (.slice lo k lc)) [_] hX rfl rfl, ?_⟩ | refine ⟨_, Loads.atA (tabC (tabG false B) (.slice ro j rc) (.slice lo k lc)) [_] hX9 rfl rfl, ?_⟩) | (go_at_call 17; refine (bytes12_no (tabG false B) ro lo j rc k lc xs _ (recs_in hX (.tail _ (.tail _ (.head _))) (by rw [HX.out]) (fun x hx => (.tail _ (.tail _ (.tail _ (.tail _ (.tail _ (.tail _ (.tail _ (.tail _ (rootRows_mem hx))))))))))) HXT.out (by omega) (by rw [HLT.out]; exact (Rd.row hX (.tail _ (.tail _ (.tail _ (.head _)))))) HLN.out (by omega) HOK.out).mono ?_; rintro _ w9 ⟨rfl, h4⟩; have hX9 := St.call0 hX h4; clear h4 hX) | (refine wl_build0 rfl rfl ?_) | (refine wl_buildX (cs := [.int .i64 2, .int .i64 0]) [(0, .int .i64 2)] rfl rfl (by exact rfl) (bldF1 _) ?_) | (refine wl_storeA [_, _, _, _, _, _, _] hX9 rfl rfl rfl rfl rfl rfl rfl ?_; intro w1 hX2; clear hX9) | (refine wl_storeA [_, _, _, _, _, _] hX2 rfl rfl rfl rfl rfl rfl rfl ?_; intro w1 hX3; clear hX2))
                  have hl := Loads.atA (P := Try.prog) (off := 0) (T := 30) tab0 [_, _, _, _, _, _, _] hX3 rfl rfl
                  have hk := Loads.atA (P := Try.prog) (off := 0) (T := 33) [.int .i64 2, .int .i64 0] [_, _, _, _, _, _] hX3 rfl rfl
                  refine bodyPost_ret (results_cell2L rfl rfl rfl hl hk) rfl ?_
                  unfold tabOut
                  obtain ⟨q1, q2, q3⟩ := gOK_no_fit (by rw [H9.out]) (by rw [H9.out]; exact hpl) (by rw [HFR.out]; rfl)
                  rw [if_neg (by rw [q1]; decide), q2, q3]
                  exact ⟨rfl, hX3.nil⟩
                · skip
                  go_wp2_with (first | go_big_skip | go_big_guard | (refine wl_loadE rfl rfl rfl ?_; first | refine ⟨_, Loads.at [] hX rfl, ?_⟩ | refine ⟨_, Loads.atA (tabC (tabG false B) (.slice ro j rc) (.slice lo k lc)) [_] hX rfl rfl, ?_⟩ | refine ⟨_, Loads.atA (tabC (tabG false B) (.slice ro j rc) (.slice lo k lc)) [_] hX9 rfl rfl, ?_⟩) | (go_at_call 17; refine (bytes12_no (tabG false B) ro lo j rc k lc xs _ (recs_in hX (.tail _ (.tail _ (.head _))) (by rw [HX.out]) (fun x hx => (.tail _ (.tail _ (.tail _ (.tail _ (.tail _ (.tail _ (.tail _ (.tail _ (rootRows_mem hx))))))))))) HXT.out (by omega) (by rw [HLT.out]; exact (Rd.row hX (.tail _ (.tail _ (.tail _ (.head _)))))) HLN.out (by omega) HOK.out).mono ?_; rintro _ w9 ⟨rfl, h4⟩; have hX9 := St.call0 hX h4; clear h4 hX) | (refine wl_build0 rfl rfl ?_) | (refine wl_buildX (cs := [.int .i64 2, .int .i64 0]) [(0, .int .i64 2)] rfl rfl (by exact rfl) (bldF1 _) ?_) | (refine wl_storeA [_, _, _, _, _, _, _] hX9 rfl rfl rfl rfl rfl rfl rfl ?_; intro w1 hX2; clear hX9) | (refine wl_storeA [_, _, _, _, _, _] hX2 rfl rfl rfl rfl rfl rfl rfl ?_; intro w1 hX3; clear hX2))
                  have hl := Loads.atA (P := Try.prog) (off := 0) (T := 30) tab0 [_, _, _, _, _, _, _] hX3 rfl rfl
                  have hk := Loads.atA (P := Try.prog) (off := 0) (T := 33) [.int .i64 2, .int .i64 0] [_, _, _, _, _, _] hX3 rfl rfl
                  refine bodyPost_ret (results_cell2L rfl rfl rfl hl hk) rfl ?_
                  unfold tabOut
                  obtain ⟨q1, q2, q3⟩ := gOK_no_fit (by rw [H9.out]) (by rw [H9.out]; exact hpl) (by rw [HFR.out, HOK.out]; rfl)
                  rw [if_neg (by rw [q1]; decide), q2, q3]
                  exact ⟨rfl, hX3.nil⟩
              · cases f
                · skip
                  go_wp2_with (first | go_big_skip | go_big_guard | (refine wl_loadE rfl rfl rfl ?_; first | refine ⟨_, Loads.at [] hX rfl, ?_⟩ | refine ⟨_, Loads.atA (tabC (tabG false B) (.slice ro j rc) (.slice lo k lc)) [_] hX rfl rfl, ?_⟩ | refine ⟨_, Loads.atA (tabC (tabG false B) (.slice ro j rc) (.slice lo k lc)) [_, _] hX9 rfl rfl, ?_⟩) | (go_at_call 17; refine (bytes12_ok (tabG false B) ro lo j rc k lc xs _ (recs_in hX (.tail _ (.tail _ (.head _))) (by rw [HX.out]) (fun x hx => (.tail _ (.tail _ (.tail _ (.tail _ (.tail _ (.tail _ (.tail _ (.tail _ (rootRows_mem hx))))))))))) HXT.out (by rw [HLT.out]; exact (Rd.row hX (.tail _ (.tail _ (.tail _ (.head _)))))) HLN.out HOK.out).mono ?_; rintro _ w9 ⟨u, m, rfl, hm, h4⟩; have hX9 := St.call hX h4; clear h4 hX) | (refine wl_build0 rfl rfl ?_) | (refine wl_buildX (cs := [.int .i64 2, .int .i64 0]) [(0, .int .i64 2)] rfl rfl (by exact rfl) (bldF1 _) ?_) | (refine wl_storeA [_, _, _, _, _, _, _, _] hX9 rfl rfl rfl rfl rfl rfl rfl ?_; intro w1 hX2; clear hX9) | (refine wl_storeA [_, _, _, _, _, _, _] hX2 rfl rfl rfl rfl rfl rfl rfl ?_; intro w1 hX3; clear hX2))
                  have hl := Loads.atA (P := Try.prog) (off := 0) (T := 30) tab0 [_, _, _, _, _, _, _, _] hX3 rfl rfl
                  have hk := Loads.atA (P := Try.prog) (off := 0) (T := 33) [.int .i64 2, .int .i64 0] [_, _, _, _, _, _, _] hX3 rfl rfl
                  refine bodyPost_ret (results_cell2L rfl rfl rfl hl hk) rfl ?_
                  unfold tabOut
                  obtain ⟨q1, q2, q3⟩ := gOK_no_fit (by rw [H9.out]) (by rw [H9.out]; exact hpl) (by rw [HFR.out]; rfl)
                  rw [if_neg (by rw [q1]; decide), q2, q3]
                  exact ⟨rfl, hX3.nil⟩
                · obtain ⟨hg1, hg2⟩ := gOK_yes (B := B) (by rw [H9.out]) (by rw [H9.out]; exact hpl) HFR.out hq
                  have HGK := hid hg1
                  have HEQ := hid (show ((tabG false B).bytes == B) = true by rw [hg2]; exact beq_self_eq_true B)
                  clear hg1 hg2
                  go_wp2_with (first | go_big_skip | go_big_guard | (refine wl_loadE rfl rfl rfl ?_; first | refine ⟨_, Loads.at [] hX rfl, ?_⟩ | refine ⟨_, Loads.atA (tabC (tabG false B) (.slice ro j rc) (.slice lo k lc)) [_] hX rfl rfl, ?_⟩ | refine ⟨_, Loads.atA (tabC (tabG false B) (.slice ro j rc) (.slice lo k lc)) [_, _] hX9 rfl rfl, ?_⟩) | (go_at_call 17; refine (bytes12_ok (tabG false B) ro lo j rc k lc xs _ (recs_in hX (.tail _ (.tail _ (.head _))) (by rw [HX.out]) (fun x hx => (.tail _ (.tail _ (.tail _ (.tail _ (.tail _ (.tail _ (.tail _ (.tail _ (rootRows_mem hx))))))))))) HXT.out (by rw [HLT.out]; exact (Rd.row hX (.tail _ (.tail _ (.tail _ (.head _)))))) HLN.out HOK.out).mono ?_; rintro _ w9 ⟨u, m, rfl, hm, h4⟩; have hX9 := St.call hX h4; clear h4 hX) | (go_at_call 34; refine (beq_any _ _ _ _ (tabG false B).bytes B _ (Rd.rowP hX9 (.head _)) (Rd.old hX9 HB.out)).mono ?_; rw [HEQ.out]; rintro _ w9 ⟨rfl, h4⟩; replace hX9 := St.call0 hX9 h4; clear h4) | (refine wl_build0 rfl rfl ?_) | (refine wl_buildX (cs := [.int .i64 2, .int .i64 0]) [(0, .int .i64 2)] rfl rfl (by exact rfl) (bldF1 _) ?_) | (refine wl_storeA [_, _, _, _, _, _, _, _] hX9 rfl rfl rfl rfl rfl rfl rfl ?_; intro w1 hX2; clear hX9) | (refine wl_storeA [_, _, _, _, _, _, _] hX2 rfl rfl rfl rfl rfl rfl rfl ?_; intro w1 hX3; clear hX2))
                  have hl := Loads.atA (P := Try.prog) (off := 0) (T := 30) (tabC (tabG false B) (.slice ro j rc) (.slice lo k lc)) [_, _, _, _, _, _, _, _] hX3 rfl rfl
                  have hk := Loads.atA (P := Try.prog) (off := 0) (T := 33) [.int .i64 0, .int .i64 0] [_, _, _, _, _, _, _] hX3 rfl rfl
                  refine bodyPost_ret (results_cell2L rfl rfl rfl hl hk) rfl ?_
                  unfold tabOut
                  rw [if_pos HGK.out]
                  refine ⟨.slice ro j rc, .slice lo k lc, xs, rfl, HXT.out, ?_⟩
                  have hrl : (tabG false B).recs.length = j := by rw [HM.out]; exact length_rcsG _ _ _ _
                  rw [hrl, HLN.out, HLT.out]
                  exact St.sub hX3 (.cons _ (.cons _ (.cons _ (.cons_cons _ (.cons_cons _ (.cons _ (.cons _ (.cons _ (.cons _ (List.Sublist.refl _))))))))))
          · skip
            go_wp2_with (first | go_big_skip | go_big_guard | (refine wl_loadE rfl rfl rfl ?_; refine ⟨_, Loads.at [] hX rfl, ?_⟩) | (refine wl_build0 rfl rfl ?_) | (refine wl_buildX (cs := [.int .i64 4, .int .i64 B.length]) [(0, .int .i64 4), (1, .int .i64 B.length)] rfl rfl (by exact rfl) (bldF2 _ _) ?_) | (refine wl_storeA [_, _, _, _, _, _, _] hX rfl rfl rfl rfl rfl rfl rfl ?_; intro w1 hX2; clear hX) | (refine wl_storeA [_, _, _, _, _, _] hX2 rfl rfl rfl rfl rfl rfl rfl ?_; intro w1 hX3; clear hX2))
            have hl := Loads.atA (P := Try.prog) (off := 0) (T := 30) tab0 [_, _, _, _, _, _, _] hX3 rfl rfl
            have hk := Loads.atA (P := Try.prog) (off := 0) (T := 33) [.int .i64 4, .int .i64 B.length] [_, _, _, _, _, _] hX3 rfl rfl
            refine bodyPost_ret (results_cell2L rfl rfl rfl hl hk) rfl ?_
            unfold tabOut
            obtain ⟨q1, q2, q3⟩ := gOK_no_short (by rw [H9.out])
            rw [if_neg (by rw [q1]; decide), q2, q3]
            exact ⟨rfl, hX3.nil⟩
end Go.Proofs.Ytkpkaoiafppimaa
namespace Go.Proofs.Ytkpkaoiafppimaa
set_option linter.unusedVariables false
set_option linter.unusedSimpArgs false
open Go.RowKit Hp
attribute [local irreducible] Go.Calls Go.wpList
set_option maxRecDepth 100000
set_option maxHeartbeats 8000000
instance dP2 : TyP2 Try.prog 33 := ⟨by kernel_rfl⟩
@[go_sem ↓] theorem eqlFaultD (a b c d : Int) (w : World) : (binOp .eql 33 (.agg #[.int .i64 a, .int .i64 b]) (.agg #[.int .i64 c, .int .i64 d])).run Try.prog w = .ok (.bool ((a == c) && (b == d))) w := run_eql_p2 dP2 a b c d .i64 .i64 w
@[go_sem ↓] theorem neqFaultD (a b c d : Int) (w : World) : (binOp .neq 33 (.agg #[.int .i64 a, .int .i64 b]) (.agg #[.int .i64 c, .int .i64 d])).run Try.prog w = .ok (.bool (!((a == c) && (b == d)))) w := run_neq_p2 dP2 a b c d .i64 .i64 w
@[go_sem ↓] theorem guardFaultD (op : BinOp) (x y : Operand) (xs ys : Array Value) (w : World) : (eqGuard op 33 x y (.agg xs) (.agg ys)).run Try.prog w = .ok () w := run_guard_p2 dP2 op x y xs ys w
def bareT : TC := ⟨2, [], 0, 0, 0, 0, [0, 0]⟩
def oneR : RC := { id := 1, kind := 1, size := 1, made := 1, own := 0, origin := 0, quota := 0, reserve := 0, name := [97], l := [], b := 0, v := 0, S := nones }
def oneT : TC := ⟨2, [oneR], 0, 0, 0, 0, [0, 0]⟩
def noT : TC := ⟨0, [], 0, 0, 0, 0, []⟩
theorem bare_ok : bareT.ok = true := by decide +kernel
theorem one_ok : oneT.ok = true := by decide +kernel
def bareB : List UInt8 := [0, 0, 0, 2, 0, 0, 0, 0, 0, 0, 0, 0, 0, 0, 0, 2, 0, 0, 0, 0, 0, 0, 0, 0]
theorem bare_bytes : bareT.bytes = bareB := by decide +kernel
theorem one_len : oneT.bytes.length = 93 := by decide +kernel
theorem one_a : findP [97] oneT.recs = (0, true) := by decide +kernel
theorem one_b : findP [98] oneT.recs = (0, false) := by decide +kernel
theorem nil_err : gErr [] = 4 ∧ gAt [] = 0 ∧ gOK [] = false := by decide +kernel
def oneC : List Value := cellsR (.slice none 0 0, oneR)
theorem bldBare (ao : Option Addr) (n c : Nat) : Try.prog.built 30 [(0, .int .i64 2), (3, .slice ao n c)] = some #[.int .i64 2, .slice none 0 0, .int .i64 0, .int .i64 0, .int .i64 0, .int .i64 0, .slice ao n c] := by kernel_rfl
theorem bldOne : Try.prog.built 47 [(0, .int .i64 1), (1, .string ⟨#[97]⟩), (2, .int .i64 1), (3, .int .i64 1), (5, .int .i64 1)] = some oneC.toArray := by kernel_rfl
theorem oneC_len : oneC.length = 44 := rfl
theorem oneC_ones : oneC.all (·.oneCell') = true := rfl
theorem results_cellD {fn : Func} {p : Tmp} {ty : TypeId} {tmps : Array Value} {P : Program} {w : World} {A : Addr} {v : Value} (h : fn.results = #[.cell p ty]) (hp : tmps.getD p undef = .pointer (some A)) (hl : Loads P w ty A v) :
    (results fn tmps).run P w = .ok v w := by
  have hl' : (loadVar ty A).run P w = .ok v w := hl
  have hp' : tmps[p]?.getD undef = .pointer (some A) := by simpa using hp
  simp [results, h, hp', asAddr, hl', Sem.run_bind]
theorem oneIn (w : World) : RC.In w ((.slice none 0 0 : Value), oneR) := ⟨⟨L32.nones, none, 0, 0, rfl, Rd.nil _ _, rfl⟩, by decide⟩
theorem noIn (w : World) : TabIn w noT none 0 0 none 0 0 [] := ⟨⟨Rd.nil _ _, rfl, fun _ h => by cases h⟩, rfl, Rd.nil _ _, rfl, by decide, by decide⟩
theorem bare_any (w : World) : Calls Try.prog 15 #[] w fun e w' => ∃ g, e = .returned (.agg (tabC bareT (.slice none 0 0) (.slice (some ⟨g, 0, none⟩) 2 2)).toArray) ∧ St w [] w' [.blk g 3 (numsV [0, 0])] := by
  have hst0 := St.refl w
  go_enter Try.func15, Try.ntmps15
  go_wp2_with (first | go_big_skip | go_big_guard | (refine wl_alloc hst0 rfl rfl ?_; intro g0 w1 hst; clear hst0) | (apply wl_bsX [.int .i64 0, .int .i64 0] [.int .i64 0, .int .i64 0] hst; rfl; rfl; exact rfl; exact rfl; infer_instance; infer_instance; rfl; rfl; rfl; intro g w5 hst2; clear hst) | (refine wl_buildX (cs := tabC bareT (.slice none 0 0) (.slice (some ⟨g, 0, none⟩) 2 2)) [(0, .int .i64 2), (3, .slice (some ⟨g, 0, none⟩) 2 2)] rfl rfl (by exact rfl) (bldBare _ _ _) ?_) | (refine wl_storeA [_] hst2 rfl rfl rfl rfl (vs := tabC bareT (.slice none 0 0) (.slice (some ⟨g, 0, none⟩) 2 2)) rfl rfl rfl ?_; intro w7 hst3; clear hst2))
  have hl := Loads.atA (P := Try.prog) (off := 0) (T := 30) (tabC bareT (.slice none 0 0) (.slice (some ⟨g, 0, none⟩) 2 2)) [_] hst3 rfl rfl
  refine bodyPost_ret (results_cellD rfl rfl hl) rfl ?_
  exact ⟨g, rfl, St.sub hst3 (.cons_cons _ (.cons _ .slnil))⟩
theorem one_any (w : World) : Calls Try.prog 16 #[] w fun e w' => ∃ g h, e = .returned (.agg (tabC oneT (.slice (some ⟨g, 0, none⟩) 1 1) (.slice (some ⟨h, 0, none⟩) 2 2)).toArray) ∧ St w [] w' [.blk g 47 oneC, .blk h 3 (numsV [0, 0])] := by
  have hst0 := St.refl w
  go_enter Try.func16, Try.ntmps16
  go_wp2_with (first | go_big_skip | go_big_guard | (refine wl_alloc hst0 rfl rfl ?_; intro g0 w1 hst; clear hst0) | (go_at_call 15; refine (bare_any _).mono ?_; rintro _ w9 ⟨h, rfl, h4⟩; have hst1 := St.call hst h4; clear h4 hst) | (refine wl_alloc hst1 rfl rfl ?_; intro g1 w1 hst2; clear hst1) | (refine wl_storeA [] hst2 rfl rfl rfl rfl (vs := tabC bareT (.slice none 0 0) (.slice (some ⟨h, 0, none⟩) 2 2)) rfl rfl rfl ?_; intro w7 hst3; clear hst2) | (refine wl_buildX (cs := oneC) [(0, .int .i64 1), (1, .string ⟨#[97]⟩), (2, .int .i64 1), (3, .int .i64 1), (5, .int .i64 1)] rfl rfl (by exact rfl) bldOne ?_) | (apply wl_bsX [.agg (List.toArray oneC)] oneC hst3; rfl; rfl; exact rfl; exact (List.append_nil _); infer_instance; infer_instance; rfl; rfl; rfl; intro g w5 hst4; clear hst3) | (refine wl_store [_] hst4 rfl rfl rfl (off := 1) (v := .slice _ _ _) rfl rfl rfl (by show (1 : Nat) + 1 ≤ 7; decide) ?_; intro w7 hst5; clear hst4) | (refine wl_loadE rfl rfl rfl ?_; refine ⟨_, Loads.atA (tabC oneT (.slice (some ⟨g, 0, none⟩) 1 1) (.slice (some ⟨h, 0, none⟩) 2 2)) [_] hst5 rfl rfl, ?_⟩) | (refine wl_storeA [_, _, _] hst5 rfl rfl rfl rfl (vs := tabC oneT (.slice (some ⟨g, 0, none⟩) 1 1) (.slice (some ⟨h, 0, none⟩) 2 2)) rfl rfl rfl ?_; intro w7 hst6; clear hst5))
  have hl := Loads.atA (P := Try.prog) (off := 0) (T := 30) (tabC oneT (.slice (some ⟨g, 0, none⟩) 1 1) (.slice (some ⟨h, 0, none⟩) 2 2)) [_, _, _] hst6 rfl rfl
  refine bodyPost_ret (results_cellD rfl rfl hl) rfl ?_
  exact ⟨g, h, rfl, St.sub hst6 (.cons_cons _ (.cons _ (.cons_cons _ (.cons _ .slnil))))⟩
theorem bareIn {w0 w : World} {M : List Nat} {L : List HA} {h : Nat} (hst : St w0 M w L) (h2 : HA.blk h 3 (numsV [0, 0]) ∈ L) : TabIn w bareT none 0 0 (some ⟨h, 0, none⟩) 2 2 [] :=
  ⟨⟨Rd.nil _ _, rfl, fun _ h => by cases h⟩, rfl, Rd.blk hst h2 (Nat.le_refl _) (by decide) rfl rfl, rfl, by decide, by decide⟩
theorem one2In {w0 w : World} {M : List Nat} {L : List HA} {g h : Nat} (hst : St w0 M w L) (h1 : HA.blk g 47 oneC ∈ L) (h2 : HA.blk h 3 (numsV [0, 0]) ∈ L) : TabIn w oneT (some ⟨g, 0, none⟩) 1 1 (some ⟨h, 0, none⟩) 2 2 [(.slice none 0 0, oneR)] :=
  ⟨⟨Rd.blk hst h1 (Nat.le_refl _) (by decide) rfl rfl, rfl, fun x hx => by
    rw [List.mem_singleton] at hx
    subst hx
    exact oneIn w⟩, rfl, Rd.blk hst h2 (Nat.le_refl _) (by decide) rfl rfl, rfl, by decide, by decide⟩
theorem fails12_no (ao : Option Addr) (c : Nat) (B : List UInt8) (x y : Int) (w : World) (hB : Rd w (.slice ao B.length c) 1 B.length (bytesV B)) (hN : B.length ≤ 100000) (hno : gOK B = false) :
    Calls Try.prog 20 #[.slice ao B.length c, .int .i64 x, .int .i64 y] w fun e w' => e = .returned (.bool ((gErr B == x) && (gAt B == y))) ∧ St w [] w' [] := by
  have hst0 := St.refl w
  have HB := hid hB
  have HNO := hid hno
  obtain ⟨q, hq⟩ : ∃ q, q = ((gErr B == x) && (gAt B == y)) := ⟨_, rfl⟩
  rw [← hq]
  have HS := hid (show noT.sameB noT = true from rfl)
  clear hB hno
  cases q
  all_goals
    have d1 := hq.symm
    clear hq
    go_enter Try.func20, Try.ntmps20
    go_wp2_with (first | go_big_skip | go_big_guard | (go_at_call 10; refine (read12_any ao c B _ (Rd.old hst0 HB.out) hN).mono ?_; intro e9 w9 hr; unfold tabOut at hr; rw [if_neg (by rw [HNO.out]; decide)] at hr; obtain ⟨rfl, h4⟩ := hr; have hst := St.call0 hst0 h4; clear h4 hst0) | (refine wl_alloc hst rfl rfl ?_; intro g7 w1 hst1; clear hst) | (refine wl_alloc hst1 rfl rfl ?_; intro g8 w1 hst2; clear hst1) | (refine wl_storeA [_] hst2 rfl rfl rfl rfl (vs := tab0) rfl rfl rfl ?_; intro w7 hst3; clear hst2) | (refine wl_storeA [] hst3 rfl rfl rfl rfl (vs := [.int .i64 (gErr B), .int .i64 (gAt B)]) rfl rfl rfl ?_; intro w7 hst4; clear hst3) | (refine wl_loadE rfl rfl rfl ?_; first | refine ⟨_, Loads.atA [.int .i64 (gErr B), .int .i64 (gAt B)] [] hst4 rfl rfl, ?_⟩ | refine ⟨_, Loads.atA tab0 [_] hst4 rfl rfl, ?_⟩) | (refine wl_buildX (cs := [.int .i64 x, .int .i64 y]) [(0, .int .i64 x), (1, .int .i64 y)] rfl rfl (by exact rfl) (bldF2 _ _) ?_) | (refine wl_build0 rfl rfl ?_) | (go_at_call 12; refine (kitTable_any noT noT none none none none 0 0 0 0 0 0 0 0 [] [] _ (noIn _) (noIn _)).mono ?_; rw [HS.out]; rintro _ w9 ⟨rfl, h4⟩; have hst5 := St.call0 hst4 h4; clear h4))
    go_ret
    first | exact ⟨rfl, hst5.nil⟩ | exact ⟨rfl, hst4.nil⟩
end Go.Proofs.Ytkpkaoiafppimaa
namespace Go.Proofs.Ytkpkaoiafppimaa
set_option linter.unusedVariables false
set_option linter.unusedSimpArgs false
open Go.RowKit Hp
attribute [local irreducible] Go.Calls Go.wpList
set_option maxRecDepth 100000
set_option maxHeartbeats 8000000
theorem bytes_form {w0 w : World} {M : List Nat} {L : List HA} {u : Value} {m : Nat} {T : TypeId} {B : List UInt8} (h : St w0 M w (.rowP isB u T 1 m (bytesV B) :: L)) (hB : 0 < B.length) : ∃ b c, u = .slice (some ⟨b, 0, none⟩) B.length c ∧ m = B.length ∧ B.length ≤ c ∧ c ≤ 9223372036854775807 ∧ Rd w (.slice (some ⟨b, 0, none⟩) B.length c) 1 B.length (bytesV B) := by
  have hr := Rd.rowP h (.head _)
  obtain ⟨ao, c, e, h1, h2, h3⟩ := rowP_form h (.head _)
  have hm : m = B.length := by rw [length_bytesV] at h3; omega
  subst hm
  rcases St.openP (L1 := []) h with ⟨_, h0, _⟩ | ⟨g, cap, cs, e2, _⟩
  · omega
  · rw [e] at e2
    cases e2
    refine ⟨g, c, e, rfl, h1, h2, ?_⟩
    rw [e] at hr
    exact hr
theorem tab_in {w0 w : World} {M : List Nat} {L : List HA} {rT iT E : TypeId} {ro lo : Option Addr} {rc lc : Nat} {B : List UInt8} {xs : List (Value × RC)} (hst : St w0 M w L) (h1 : HA.row (.slice ro (tabG false B).recs.length rc) rT 44 (tabG false B).recs.length (recsV xs) ∈ L) (h2 : HA.row (.slice lo (tabG false B).lives.length lc) iT 1 (tabG false B).lives.length (numsV (tabG false B).lives) ∈ L)
    (hx : xs.map (·.2) = (tabG false B).recs) (hm : ∀ x ∈ xs, HA.row x.1 E 2 x.2.l.length (addrsV x.2.l) ∈ L) : TabIn w (tabG false B) ro (tabG false B).recs.length rc lo (tabG false B).lives.length lc xs := by
  have hn : (tabG false B).recs.length = tMany B := length_rcsG _ _ _ _
  have hl : (tabG false B).lives.length = tLives B := length_lvsG _ _ _
  have b1 : tMany B < 256 := numG1_lt B _
  have b2 : tLives B < 256 := numG1_lt B _
  refine ⟨?_, hx, Rd.row hst h2, rfl, by omega, by omega⟩
  refine recs_in (z := false) (B := B) (s := tS2 B) hst h1 ?_ hm
  rw [hx, hn]
  rfl
theorem tab_L {B : List UInt8} {xs : List (Value × RC)} (hx : xs.map (·.2) = (tabG false B).recs) : ∀ x ∈ xs, L32 x.2.S := fun x hxm => by
  have h2 : x.2 ∈ rcsG false B (tS2 B) (tMany B) := by
    have : x.2 ∈ (tabG false B).recs := by rw [← hx]; exact List.mem_map_of_mem hxm
    exact this
  unfold rcsG at h2
  rw [List.mem_map] at h2
  obtain ⟨i, _, hi⟩ := h2
  rw [← hi]
  exact rec_S _ _ _
theorem awake12_any (w : World) : Calls Try.prog 8 #[] w fun e w' => e = .returned (.bool true) ∧ St w [] w' [] := by
  have hst0 := St.refl w
  go_enter Try.func8, Try.ntmps8
  (try simp only [List.append])
  go_wp2_with (first | go_big_skip | go_big_guard | (go_at_call 15; refine (bare_any _).mono ?_; rintro _ w9 ⟨h0, rfl, h4⟩; have hst1 := St.call hst0 h4; clear h4 hst0) | (go_at_call 17; refine (bytes12_ok bareT none (some ⟨h0, 0, none⟩) 0 0 2 2 [] _ (bareIn hst1 (.head _)).R rfl (bareIn hst1 (.head _)).L rfl bare_ok).mono ?_; rintro _ w9 ⟨u, m, rfl, hm, h4⟩; rw [bare_bytes] at h4; obtain ⟨b1, c1, rfl, rfl, hc1, hc1', hr⟩ := bytes_form h4 (by decide); have hst2 := St.call hst1 h4; clear h4 hst1 hr hm) | (go_at_call 16; refine (one_any _).mono ?_; rintro _ w9 ⟨g3, h3, rfl, h4⟩; have hst3 := St.call hst2 h4; clear h4 hst2) | (go_at_call 17; refine (bytes12_ok oneT (some ⟨g3, 0, none⟩) (some ⟨h3, 0, none⟩) 1 1 2 2 [(.slice none 0 0, oneR)] _ (one2In hst3 (.head _) (.tail _ (.head _))).R rfl (one2In hst3 (.head _) (.tail _ (.head _))).L rfl one_ok).mono ?_; rintro _ w9 ⟨u, m, rfl, hm, h4⟩; obtain ⟨b2, c2, rfl, hm2, _⟩ := bytes_form h4 (by rw [one_len]; decide); have hst4 := St.call hst3 h4; (rw [one_len]); clear h4 hst3 hm hm2) | (go_at_call 16; refine (one_any _).mono ?_; rintro _ w9 ⟨g5, h5, rfl, h4⟩; have hst5 := St.call hst4 h4; clear h4 hst4) | (go_at_call 24; refine (find_any oneT (.slice (some ⟨h5, 0, none⟩) 2 2) [97] (some ⟨g5, 0, none⟩) 1 1 [(.slice none 0 0, oneR)] _ (one2In hst5 (.head _) (.tail _ (.head _))).R (by decide)).mono ?_; rw [show findP [97] (([(.slice none 0 0, oneR)] : List (Value × RC)).map (·.2)) = _ from one_a]; rintro _ w9 ⟨rfl, h4⟩; have hst6 := St.call0 hst5 h4; clear h4 hst5) | (go_at_call 16; refine (one_any _).mono ?_; rintro _ w9 ⟨g7, h7, rfl, h4⟩; have hst7 := St.call hst6 h4; clear h4 hst6) | (go_at_call 24; refine (find_any oneT (.slice (some ⟨h7, 0, none⟩) 2 2) [98] (some ⟨g7, 0, none⟩) 1 1 [(.slice none 0 0, oneR)] _ (one2In hst7 (.head _) (.tail _ (.head _))).R (by decide)).mono ?_; rw [show findP [98] (([(.slice none 0 0, oneR)] : List (Value × RC)).map (·.2)) = _ from one_b]; rintro _ w9 ⟨rfl, h4⟩; have hst8 := St.call0 hst7 h4; clear h4 hst7) | (apply wl_bsX [.int .u8 0, .int .u8 0, .int .u8 0, .int .u8 2, .int .u8 0] (bytesV [0, 0, 0, 2, 0]) hst8; rfl; rfl; exact rfl; exact rfl; infer_instance; infer_instance; rfl; rfl; rfl; intro gb w5 hst9; clear hst8) | (go_at_call 26; refine (sameBytes_any _ _ 5 5 (bareB.take 5) [0, 0, 0, 2, 0] _ (Rd.takeN (n := 24) (Rd.rowP hst9 (.tail _ (.tail _ (.tail _ (.tail _ (.tail _ (.tail _ (.tail _ (.tail _ (.head _)))))))))) (by decide)) (Rd.blk (off := 0) (n := 5) hst9 (.head _) (Nat.le_refl _) (by decide) rfl rfl)).mono ?_; rw [show (bareB.take 5 == [0, 0, 0, 2, 0]) = true from rfl]; rintro _ w9 ⟨rfl, h4⟩; have hst10 := St.call0 hst9 h4; clear h4 hst9) | (apply wl_bsX [.int .u8 2, .int .u8 0, .int .u8 0, .int .u8 0, .int .u8 0, .int .u8 0, .int .u8 0, .int .u8 0, .int .u8 0] (bytesV [2, 0, 0, 0, 0, 0, 0, 0, 0]) hst10; rfl; rfl; exact rfl; exact rfl; infer_instance; infer_instance; rfl; rfl; rfl; intro gc w5 hst11; clear hst10) | (go_at_call 26; refine (sameBytes_any _ _ 9 9 ((bareB.drop 15).take 9) [2, 0, 0, 0, 0, 0, 0, 0, 0] _ (Rd.win (n := 24) (c := c1) (m := 9) 15 (Rd.rowP hst11 (.tail _ (.tail _ (.tail _ (.tail _ (.tail _ (.tail _ (.tail _ (.tail _ (.tail _ (.head _))))))))))) rfl (by decide) (by omega)) (Rd.blk (off := 0) (n := 9) hst11 (.head _) (Nat.le_refl _) (by decide) rfl rfl)).mono ?_; rw [show ((bareB.drop 15).take 9 == [2, 0, 0, 0, 0, 0, 0, 0, 0]) = true from rfl]; rintro _ w9 ⟨rfl, h4⟩; have hst12 := St.call0 hst11 h4; clear h4 hst11) | (go_at_call 20; refine (fails12_no none 0 [] 4 0 _ (Rd.nil _ _) (by decide) nil_err.2.2).mono ?_; rw [show ((gErr [] == 4) && (gAt [] == 0)) = true by rw [nil_err.1, nil_err.2.1]; rfl]; rintro _ w9 ⟨rfl, h4⟩; have hst13 := St.call0 hst12 h4; clear h4 hst12))
  go_ret
  exact ⟨rfl, hst13.nil⟩
end Go.Proofs.Ytkpkaoiafppimaa
namespace Go.Proofs.Ytkpkaoiafppimaa
set_option linter.unusedVariables false
set_option linter.unusedSimpArgs false
open Go.RowKit Hp
attribute [local irreducible] Go.Calls
set_option maxHeartbeats 4000000
/-- y is x with address lists of its own (rows of R) for the first k pointers. -/
def NV.isO (E : TypeId) (y x : NV) (R : List HA) (k : Nat) : Prop := ∀ j, j < k → (y.get j).eqd (x.get j) ∧ ∃ ao n c, (y.get j).sv = .slice ao n c ∧ HA.row (.slice ao n c) E 2 n (addrsV (y.get j).l) ∈ R ∧ (y.get j).l.length = n
def ownOut (x : NV) (w : World) (E : TypeId) (e : Ending) (w' : World) : Prop :=
  ∃ (y : NV) (R : List HA), e = .returned (.agg y.cells.toArray) ∧ St w [] w' R ∧ y.lv = x.lv ∧ y.isO E x R 4
theorem put_sv {x : NV} (h : x.Ln) {k : Nat} (hk : k < 4) (v : Value) : putAt x.cells (1 + k * 35) [v] = (x.set k { x.get k with sv := v }).cells := by
  have h0 : x.p0.cells.length = 35 := PV.len (h 0)
  have h1 : x.p1.cells.length = 35 := PV.len (h 1)
  have h2 : x.p2.cells.length = 35 := PV.len (h 2)
  have go : ∀ (a c : List Value) (s : Value) (n : Nat) (X Y : List Value), X = a ++ ([s] ++ c) → Y = a ++ ([v] ++ c) → n = a.length → putAt X n [v] = Y := by
    intro a c s n X Y e1 e2 e3
    rw [e1, e2]
    exact put_at a [s] c [v] rfl e3
  obtain rfl | rfl | rfl | rfl : k = 0 ∨ k = 1 ∨ k = 2 ∨ k = 3 := by omega
  · exact go [.int .i64 x.lv] (x.p0.cells.tail ++ (x.p1.cells ++ (x.p2.cells ++ x.p3.cells))) x.p0.sv _ _ _ rfl rfl rfl
  · exact go (.int .i64 x.lv :: x.p0.cells) (x.p1.cells.tail ++ (x.p2.cells ++ x.p3.cells)) x.p1.sv _ _ _ rfl rfl (by simp [h0])
  · refine go (.int .i64 x.lv :: (x.p0.cells ++ x.p1.cells)) (x.p2.cells.tail ++ x.p3.cells) x.p2.sv _ _ _ ?_ ?_ (by simp [h0, h1])
    · rw [List.cons_append, List.append_assoc]; rfl
    · rw [List.cons_append, List.append_assoc]; rfl
  · refine go (.int .i64 x.lv :: (x.p0.cells ++ (x.p1.cells ++ x.p2.cells))) x.p3.cells.tail x.p3.sv _ _ _ ?_ ?_ (by simp [h0, h1, h2])
    · rw [List.cons_append, List.append_assoc, List.append_assoc]; rfl
    · rw [List.cons_append, List.append_assoc, List.append_assoc]; rfl
theorem set_ln {y : NV} (h : y.Ln) {k : Nat} (hk : k < 4) {p : PV} (hp : L32 p.S) : ∀ j, L32 ((y.set k p).get j).S := by
  have main : ∀ j, j < 4 → L32 ((y.set k p).get j).S := by
    intro j hj
    by_cases e : j = k
    · subst e; rw [NV.get_set_same y hk]; exact hp
    · rw [NV.get_set_other y hk hj e]; exact h j
  intro j
  match j with
  | 0 => exact main 0 (by omega)
  | 1 => exact main 1 (by omega)
  | 2 => exact main 2 (by omega)
  | _ + 3 => exact main 3 (by omega)
theorem PV.ones_of {p : PV} {ao : Option Addr} {n c : Nat} (h : p.sv = .slice ao n c) : p.cells.all (·.oneCell') = true := by
  rw [PV.cells, h]
  exact ptr_ones _ _ _ _ _ _
theorem NV.isO.ones {E : TypeId} {y x : NV} {R : List HA} (h : y.isO E x R 4) (_hl : y.lv = x.lv) : y.cells.all (·.oneCell') = true := by
  have g : ∀ j, j < 4 → (y.get j).cells.all (·.oneCell') = true := fun j hj => by
    obtain ⟨_, ao, n, c, h2, _⟩ := h j hj
    exact PV.ones_of h2
  have h0 : y.p0.cells.all (·.oneCell') = true := g 0 (by omega)
  have h1 : y.p1.cells.all (·.oneCell') = true := g 1 (by omega)
  have h2 : y.p2.cells.all (·.oneCell') = true := g 2 (by omega)
  have h3 : y.p3.cells.all (·.oneCell') = true := g 3 (by omega)
  rw [NV.cells, List.all_cons, List.all_append, List.all_append, List.all_append, h0, h1, h2, h3]
  rfl
theorem addrs_ones (l : List (Int × Int)) : (addrsV l).all (·.oneCell') = true := by
  induction l with
  | nil => rfl
  | cons a l ih =>
    rw [addrsV, List.all_cons, List.all_cons, ih]
    rfl
end Go.Proofs.Ytkpkaoiafppimaa
namespace Go.Proofs.Ytkpkaoiafppimaa
set_option linter.unusedVariables false
set_option linter.unusedSimpArgs false
open Go.RowKit Hp
attribute [local irreducible] Go.Calls
set_option maxHeartbeats 4000000
set_option maxRecDepth 100000
theorem xor_u8 (x y : UInt8) : bits .xor .u8 (x.toNat : Int) (y.toNat : Int) = ((x ^^^ y).toNat : Int) := by
  have hx := x.toNat_lt
  have hy := y.toNat_lt
  have h : x.toNat ^^^ y.toNat < 2 ^ 8 := Nat.xor_lt_two_pow hx hy
  have e : (BitVec.ofInt 8 (x.toNat : Int) ^^^ BitVec.ofInt 8 (y.toNat : Int)).toNat = x.toNat ^^^ y.toNat := by
    rw [BitVec.toNat_xor, BitVec.ofInt_natCast, BitVec.ofInt_natCast, BitVec.toNat_ofNat, BitVec.toNat_ofNat, Nat.mod_eq_of_lt (by omega), Nat.mod_eq_of_lt (by omega)]
  show IntKind.u8.wrap ((BitVec.ofInt 8 (x.toNat : Int) ^^^ BitVec.ofInt 8 (y.toNat : Int)).toNat : Int) = _
  rw [e, UInt8.toNat_xor]
  show ((x.toNat ^^^ y.toNat : Nat) : Int) % 256 = _
  omega
/-- p with other addresses' slice. -/
abbrev PV.re (p : PV) (s : Value) : PV := ⟨s, p.l, p.b, p.v, p.S⟩
theorem copyPtr_any (p : PV) (w : World) (hp : p.In w) (hl : p.l.length ≤ 100000) : Calls Try.prog 50 #[.agg p.cells.toArray] w fun e w' =>
    ∃ ao n c, e = .returned (.agg (PV.cells (p.re (.slice ao n c))).toArray) ∧ St w [] w' [.row (.slice ao n c) 98 2 n (addrsV p.l)] ∧ p.l.length = n := by
  have hst := St.refl w
  have hS := hp.1
  obtain ⟨_, ao, n, c, h2, h3, h4⟩ := hp
  have hPL := hid (PV.len (p := p) hS)
  have H2 := hid h2
  have hn : n ≤ 100000 := by rw [← h4]; exact hl
  have H4 := hid h4
  have hRd := hid h3
  have hat := hid (show p.cells[0]? = some (.slice ao n c) by rw [PV.cells, h2]; rfl)
  clear h2 h3 h4 hl
  go_enter Try.func50, Try.ntmps50
  go_wp2_with (first | go_big_skip | go_big_guard | (refine wl_boxA hst rfl rfl rfl ?_; intro g w1 hst1; clear hst) | (refine wl_alloc hst1 rfl rfl ?_; intro g2 w2 hst2; clear hst1) | (apply wl_bsX [] [] hst2; rfl; rfl; exact rfl; exact rfl; infer_instance; infer_instance; rfl; rfl; rfl; intro g3 w3 hst3; clear hst2; have hst4 := St.toRow (n := 0) (cap := 0) (sz := 2) hst3 rfl (by decide) (by decide); clear hst3) | (refine wl_loadE rfl rfl rfl ?_; refine ⟨_, Loads.at (off := 0) [_, _] hst4 hat.out, ?_⟩) | (apply wl_appX [] hst4; rfl; rfl; exact rfl; exact rfl; infer_instance; infer_instance; infer_instance; exact Rd.old hst4 hRd.out; exact addrs_ones _; (unfold maxLen; omega); intro v9 w9 hst9 _; clear hst4; obtain ⟨ao9, c9, rfl⟩ := St.rowSliceAt [] hst9; rw [Nat.zero_add] at hst9) | (refine wl_store [_, _] hst9 rfl rfl rfl (v := .slice _ _ _) rfl rfl rfl (by show _ + 1 ≤ _; rw [hPL.out]; omega) ?_; intro w10 hst10; clear hst9; have hst11 : St w [] w10 [.row (.slice ao9 n c9) 98 2 n (addrsV p.l), .blk g2 45 (ptrCells (.slice none 0 0) 0 0 nones), .blk g 45 (PV.cells (p.re (.slice ao9 n c9)))] := hst10; clear hst10) | (refine wl_loadE rfl rfl rfl ?_; first | refine ⟨_, Loads.atA (PV.cells (p.re (.slice ao9 n c9))) [_, _] hst11 (PV.len (p := p.re (.slice ao9 n c9)) hS) (by simp), ?_⟩) | (refine wl_storeA [_] hst11 rfl rfl rfl rfl (PV.len (p := p.re (.slice ao9 n c9)) hS) (PV.ones_of (p := p.re (.slice ao9 n c9)) rfl) rfl ?_; intro w12 hst12; clear hst11))
  have hl := Loads.atA (P := Try.prog) (off := 0) (T := 45) (PV.cells (p.re (.slice ao9 n c9))) [_] hst12 (PV.len (p := p.re (.slice ao9 n c9)) hS) (by simp)
  refine bodyPost_ret (results_cellL rfl rfl hl) rfl ?_
  exact ⟨ao9, n, c9, rfl, hst12.sub (.cons_cons _ (List.nil_sublist _)), H4.out⟩
def overB (l : List UInt8) : List UInt8 := l.map (· ^^^ 90)
theorem over_none (w : World) : Calls Try.prog 30 #[.slice none 0 0] w fun e w' => e = .returned (.tuple #[]) ∧ St w [] w' [] := by
  have hst := St.refl w
  go_enter Try.func30, Try.ntmps30
  go_wp2_with (first | go_big_skip | go_big_guard | fail)
  go_loopw [3] (fun i wr => i = .int .i64 0 ∧ St w [] wr []) (fun i _ => 0)
  case atStart => exact ⟨rfl, hst⟩
  case round =>
    clear hst
    obtain ⟨rfl, hst⟩ := hrel
    go_wp2_with (first | go_big_skip | go_big_guard | fail)
    go_end0
    exact ⟨rfl, hst⟩
theorem over_step (bs : List UInt8) {k : Nat} (hk : k < bs.length) (x : UInt8) (hx : x = bs.getD k 0) : putAt (bytesV (overB (bs.take k) ++ bs.drop k)) k [.int .u8 ((x ^^^ 90).toNat : Int)] = bytesV (overB (bs.take (k + 1)) ++ bs.drop (k + 1)) := by
  have e : bs.drop k = bs.getD k 0 :: bs.drop (k + 1) := by rw [List.drop_eq_getElem_cons hk]; simp [List.getD, hk]
  have e2 : bs.take (k + 1) = bs.take k ++ [bs.getD k 0] := by rw [List.take_succ_eq_append_getElem hk]; simp [List.getD, hk]
  have hl : (bytesV (overB (bs.take k))).length = k := by simp [overB]; omega
  rw [e2, bytesV_append]
  have := put_at (bytesV (overB (bs.take k))) (bytesV [bs.getD k 0]) (bytesV (bs.drop (k + 1))) [.int .u8 ((x ^^^ 90).toNat : Int)] rfl hl.symm
  rw [e]
  have h3 : bytesV (bs.getD k 0 :: bs.drop (k + 1)) = bytesV [bs.getD k 0] ++ bytesV (bs.drop (k + 1)) := by simp [bytesV]
  rw [h3, this]
  simp [overB, bytesV, hx]
theorem over_get (bs : List UInt8) {k : Nat} (hk : k < bs.length) : (bytesV (overB (bs.take k) ++ bs.drop k))[k]? = some (.int .u8 ((bs.getD k 0).toNat : Int)) := by
  have hl : (overB (bs.take k)).length = k := by simp [overB]; omega
  rw [bytesV, List.getElem?_map, List.getElem?_append_right (by omega), hl, Nat.sub_self, List.getElem?_drop]
  simp [List.getD, hk]
theorem over_blk (g n : Nat) (bs : List UInt8) (w : World) (hg : w.heap[g]? = some (.cells (bytesV bs).toArray 5 (0, 0))) (hn : n ≤ bs.length) (hb : bs.length ≤ 9223372036854775807) :
    Calls Try.prog 30 #[.slice (some ⟨g, 0, none⟩) n bs.length] w fun e w' => e = .returned (.tuple #[]) ∧ St w [g] w' [.blk g 5 (bytesV (overB bs))] := by
  have hst := St.one w g _ _ hg
  go_enter Try.func30, Try.ntmps30
  go_wp2_with (first | go_big_skip | go_big_guard | fail)
  go_loopw [3] (fun i wr => ∃ k : Nat, k ≤ bs.length ∧ i = .int .i64 k ∧ St w [g] wr [.blk g 5 (bytesV (overB (bs.take k) ++ bs.drop k))]) (fun i _ => bs.length - (intOf i).toNat)
  case atStart => exact ⟨0, by omega, rfl, hst⟩
  case round =>
    clear hst
    obtain ⟨k, hk, rfl, hst⟩ := hrel
    by_cases hlt : k < bs.length
    · obtain ⟨x, hx⟩ : ∃ x, x = bs.getD k 0 := ⟨_, rfl⟩
      have hget := hid (over_get bs hlt)
      rw [← hx] at hget
      have hput := hid (over_step bs hlt x hx)
      have hxor : bits .xor .u8 (x.toNat : Int) 90 = ((x ^^^ 90).toNat : Int) := xor_u8 x 90
      have hlen := hid (show (bytesV (overB (bs.take k) ++ bs.drop k)).length = bs.length by simp [overB]; omega)
      clear hx
      go_wp2_with (first | go_big_skip | go_big_guard | (refine wl_index rfl rfl rfl rfl hlt ?_) | (refine wl_loadE rfl rfl rfl ?_; refine ⟨_, Loads.at [] hst (by simpa using hget.out), ?_⟩) | (refine wl_store [] hst rfl rfl rfl (v := .int _ _) rfl rfl rfl (by rw [hlen.out]; simp [Value.cells]; omega) ?_; intro w5 hst4; clear hst))
      have hst5 : St w [g] w5 [.blk g 5 (bytesV (overB (bs.take (k + 1)) ++ bs.drop (k + 1)))] := by
        rw [← hput.out]
        simpa [Value.cells] using hst4
      clear hst4
      go_roundw
      case rel => exact ⟨k + 1, by omega, by go_num, hst5⟩
      case measure => simp [intOf]; omega
    · have e : k = bs.length := by omega
      subst e
      go_wp2_with (first | go_big_skip | go_big_guard | fail)
      go_end0
      refine ⟨rfl, ?_⟩
      rw [List.take_length, List.drop_length, List.append_nil] at hst
      exact hst
theorem over_addrs (ao : Option Addr) (n c : Nat) (xs : List Value) (w : World) (hv : w.ownsRow 0 98 2 (.slice ao n c) n xs) :
    Calls Try.prog 39 #[.slice ao n c] w fun e w' => ∃ ys, e = .returned (.tuple #[]) ∧ St w (Value.slice ao n c).ownBlock.toList w' [.row (.slice ao n c) 98 2 n ys] := by
  have hst := St.ofRow w hv
  obtain ⟨hl, ho⟩ := hv
  rcases ho with ⟨he, rfl⟩ | ⟨g, cap, cur, he, hg0, hg, hnc, hcm, hcs, htake⟩
  · cases he
    go_enter Try.func39, Try.ntmps39
    go_wp2_with (first | go_big_skip | go_big_guard | fail)
    go_loopw [2] (fun i wr => i = .int .i64 0 ∧ St w (Value.slice none 0 0).ownBlock.toList wr [.row (.slice none 0 0) 98 2 0 xs]) (fun i _ => 0)
    case atStart => exact ⟨rfl, hst⟩
    case round =>
      clear hst
      obtain ⟨rfl, hst⟩ := hrel
      go_wp2_with (first | go_big_skip | go_big_guard | fail)
      go_end0
      exact ⟨xs, rfl, hst⟩
  · cases he
    have hst2 := St.one w g 98 cur.toList hg
    have hc2 : cur.toList.length = c * 2 := by simpa using hcs
    have hcb : c ≤ 9223372036854775807 := hcm
    clear hg hl htake hst hcs hcm
    have Hc2 := hid hc2; clear hc2
    go_enter Try.func39, Try.ntmps39
    go_wp2_with (first | go_big_skip | go_big_guard | fail)
    go_loopw [2] (fun i wr => ∃ k : Nat, k ≤ n ∧ i = .int .i64 k ∧ ∃ cs : List Value, Hid (cs.length = c * 2) ∧ St w [g] wr [.blk g 98 cs]) (fun i _ => n - (intOf i).toNat)
    case atStart => exact ⟨0, by omega, rfl, _, Hc2, hst2⟩
    case round =>
      clear hst2 Hc2
      obtain ⟨k, hk, rfl, cs, hcl, hst⟩ := hrel
      by_cases hlt : k < n
      · go_wp2_with (first | go_big_skip | go_big_guard | (refine wl_buildS (cs := [.int .i64 (-7), .int .i64 (-7)]) rfl rfl (by kernel_rfl) ?_) | (refine wl_index rfl rfl rfl rfl hlt ?_) | (refine wl_store [] hst rfl rfl rfl (v := .agg (List.toArray _)) rfl rfl rfl (by rw [hcl.out]; simp [Value.cells]; omega) ?_; intro w5 hst4; clear hst))
        have hl4 := hid (show (putAt cs (0 + k * 2) [.int .i64 (-7), .int .i64 (-7)]).length = c * 2 by
          have := hcl.out
          simp [putAt]; omega)
        have hst5 : St w [g] w5 [.blk g 98 (putAt cs (0 + k * 2) [.int .i64 (-7), .int .i64 (-7)])] := hst4
        clear hst4
        go_roundw
        case rel => exact ⟨k + 1, by omega, by go_num, _, hl4, hst5⟩
        case measure => simp [intOf]; omega
      · have e : k = n := by omega
        subst e
        go_wp2_with (first | go_big_skip | go_big_guard | fail)
        go_end0
        exact ⟨_, rfl, hst.toRow hcl.out hnc hcb⟩
end Go.Proofs.Ytkpkaoiafppimaa
namespace Go.Proofs.Ytkpkaoiafppimaa
set_option linter.unusedVariables false
set_option linter.unusedSimpArgs false
open Go.RowKit Hp
attribute [local irreducible] Go.Calls Go.wpList
set_option maxRecDepth 100000
set_option maxHeartbeats 8000000
attribute [local go_sem ↓] heldInt heldInts heldCur
theorem bldT3 (z a b c d : Int) (ao : Option Addr) (n k : Nat) : Try.prog.built 30 [(0, .int .i64 z), (2, .agg #[.int .i64 a, .int .i64 b, .int .i64 c, .int .i64 d]), (3, .slice ao n k)] = some #[.int .i64 z, .slice none 0 0, .int .i64 a, .int .i64 b, .int .i64 c, .int .i64 d, .slice ao n k] := by kernel_rfl
theorem put_root (x : Value × RC) (hL : L32 x.2.S) (v : Value) : putAt (cellsR x) 4 (PV.cells ((x.2.pv x.1).re v)) = cellsR (v, x.2) :=
  xC_put4 (p := x.2.pv x.1) (q := (x.2.pv x.1).re v) hL hL
theorem row_sliceC {w0 w : World} {M : List Nat} (L1 : List HA) {L2 : List HA} {v : Value} {T : TypeId} {sz n : Nat} {xs : List Value} (h : St w0 M w (L1 ++ .row v T sz n xs :: L2)) : ∃ ao c, v = .slice ao n c ∧ n ≤ c ∧ c ≤ 9223372036854775807 := by
  obtain ⟨ao, c, e, h1, h2, _⟩ := row_form h (List.mem_append.2 (.inr (.head _)))
  exact ⟨ao, c, e, h1, h2⟩
theorem results_cellC {fn : Func} {p : Tmp} {ty : TypeId} {tmps : Array Value} {P : Program} {w : World} {A : Addr} {v : Value} (h : fn.results = #[.cell p ty]) (hp : tmps.getD p undef = .pointer (some A)) (hl : Loads P w ty A v) :
    (results fn tmps).run P w = .ok v w := by
  have hl' : (loadVar ty A).run P w = .ok v w := hl
  have hp' : tmps[p]?.getD undef = .pointer (some A) := by simpa using hp
  simp [results, h, hp', asAddr, hl', Sem.run_bind]
theorem copyTable_any (t : TC) (ar al : Option Addr) (nr cr nl cl : Nat) (xs : List (Value × RC)) (w : World) (ht : TabIn w t ar nr cr al nl cl xs) (hn : nr ≤ 100) (hl : nl ≤ 100) (ha : ∀ r ∈ t.recs, r.l.length ≤ 100000) :
    Calls Try.prog 22 #[.agg (tabC t (.slice ar nr cr) (.slice al nl cl)).toArray] w fun e w' => ∃ ro rc lo lc ys, e = .returned (.agg (tabC t (.slice ro nr rc) (.slice lo nl lc)).toArray) ∧ ys.map (·.2) = t.recs ∧ St w [] w' (.row (.slice ro nr rc) 47 44 nr (recsV ys) :: .row (.slice lo nl lc) 3 1 nl (numsV t.lives) :: rootRows 98 ys) := by
  have hst0 := St.refl w
  have HT := hid ht
  clear ht
  go_enter Try.func22, Try.ntmps22
  go_upto_region 1 with (first | go_big_skip | go_big_guard | (refine wl_boxA hst0 rfl rfl rfl ?_; intro g1 w1 hst1; clear hst0) | (refine wl_alloc hst1 rfl rfl ?_; intro g2 w2 hst; clear hst1))
  (try simp only [Act.put, List.setIfInBounds_toArray, List.set_cons_zero, List.set_cons_succ])
  go_cut [3, 10, 13, 14] (fun a b c d wx => ∃ g3 lo lc, a = .pointer (some ⟨g3, 0, none⟩) ∧ St w [] wx (.blk g3 30 [.int .i64 t.next, .slice none 0 0, .int .i64 t.kind, .int .i64 t.dev, .int .i64 t.at_, .int .i64 t.txg, .slice lo nl lc] :: .row (.slice none 0 0) 47 44 0 (recsV []) :: .row (.slice lo nl lc) 3 1 nl (numsV t.lives) :: .blk g1 30 (tabC t (.slice ar nr cr) (.slice al nl cl)) :: .blk g2 30 tab0 :: rootRows 98 []))
  case first =>
    have hX := hst.drew
    clear hst
    refine wp_region_held_drew (S := (fun w' => (loadVarH 3 ⟨g1, 0, none⟩).run Try.prog w' = .ok (.int .i64 t.next) w' ∧ (loadVarH 27 ⟨g1, 2, none⟩).run Try.prog w' = .ok (.agg (List.toArray ([.int .i64 t.kind, .int .i64 t.dev, .int .i64 t.at_, .int .i64 t.txg]))) w' ∧ (loadVarH 28 ⟨g1, 6, none⟩).run Try.prog w' = .ok (.slice al nl cl) w')) (by kernel_rfl) (by exact ⟨ldS [_] hX rfl, ldA ([.int .i64 t.kind, .int .i64 t.dev, .int .i64 t.at_, .int .i64 t.txg]) [_] hX (rfl) (rfl), ldS [_] hX rfl⟩) (fun hHeld => ?_)
    refine tk 0 6 ?_
    (try simp only [Act.put, List.setIfInBounds_toArray, List.set_cons_zero, List.set_cons_succ])
    refine tk 2 8 ?_
    (try simp only [Act.put, List.setIfInBounds_toArray, List.set_cons_zero, List.set_cons_succ])
    refine tk 5 11 ?_
    (try simp only [Act.put, List.setIfInBounds_toArray, List.set_cons_zero, List.set_cons_succ])
    refine tk 1 7 ?_
    (try simp only [Act.put, List.setIfInBounds_toArray, List.set_cons_zero, List.set_cons_succ])
    refine tk 3 9 ?_
    (try simp only [Act.put, List.setIfInBounds_toArray, List.set_cons_zero, List.set_cons_succ])
    refine tk 6 12 ?_
    (try simp only [Act.put, List.setIfInBounds_toArray, List.set_cons_zero, List.set_cons_succ])
    refine wpAnyH_ready (rs := [4, 9]) (by kernel_rfl) (by simp) ?_
    refine (AllReadyH.cons (o := ⟨some 10, _, _, _, _, _⟩) rfl (fun K hK => ?_) (AllReadyH.cons (o := ⟨some 3, _, _, _, _, _⟩) rfl (fun K hK => ?_) AllReadyH.nil))
    · rw [if_pos (by rfl)]
      refine ow_of_wl (ops := #[]) (by rfl) ?_
      apply wl_bsX [] [] hX
      · rfl
      · rfl
      · exact rfl
      · exact rfl
      · infer_instance
      · infer_instance
      · rfl
      · rfl
      · rfl
      intro g7 w8 h8
      have hP1 := St.toRow (n := 0) (cap := 0) (sz := 1) h8 rfl (by decide) (by decide)
      clear h8
      refine q0_nil ?_
      refine hK.out _ _ ?_ (fun hHeld => ?_)
      · exact ⟨ldS [_, _] hP1 rfl, ldA ([.int .i64 t.kind, .int .i64 t.dev, .int .i64 t.at_, .int .i64 t.txg]) [_, _] hP1 (rfl) (rfl), ldS [_, _] hP1 rfl⟩
      clear hK K
      (try simp only [Act.put, List.setIfInBounds_toArray, List.set_cons_zero, List.set_cons_succ])
      refine wpAnyH_ready (rs := [7, 9]) (by kernel_rfl) (by simp) ?_
      refine (AllReadyH.cons (o := ⟨some 13, _, _, _, _, _⟩) rfl (fun K hK => ?_) (AllReadyH.cons (o := ⟨some 3, _, _, _, _, _⟩) rfl (fun K hK => ?_) AllReadyH.nil))
      · rw [if_pos (by rfl)]
        refine ow_of_wl (ops := #[]) (by rfl) ?_
        apply wl_appX (m := nl) (ys := numsV t.lives) [] hP1
        · rfl
        · rfl
        · exact rfl
        · exact rfl
        · infer_instance
        · infer_instance
        · infer_instance
        · exact Rd.old hP1 HT.out.L
        · exact ones_numsV _
        · exact ⟨by decide, by unfold maxLen; omega, by omega⟩
        intro lv2 w6 hP2 _
        obtain ⟨lo, lc, rfl, _, _⟩ := row_sliceC [] hP2
        refine q0_nil ?_
        refine hK.out _ _ ?_ (fun hHeld => ?_)
        · exact ⟨ldS [_, _] hP2 rfl, ldA ([.int .i64 t.kind, .int .i64 t.dev, .int .i64 t.at_, .int .i64 t.txg]) [_, _] hP2 (rfl) (rfl), ldS [_, _] hP2 rfl⟩
        clear hK K
        (try simp only [Act.put, List.setIfInBounds_toArray, List.set_cons_zero, List.set_cons_succ])
        refine wpAnyH_ready (rs := [8, 9]) (by kernel_rfl) (by simp) ?_
        refine (AllReadyH.cons (o := ⟨some 14, _, _, _, _, _⟩) rfl (fun K hK => ?_) (AllReadyH.cons (o := ⟨some 3, _, _, _, _, _⟩) rfl (fun K hK => ?_) AllReadyH.nil))
        · rw [if_pos (by rfl)]
          refine ow_of_wl (ops := #[]) (by rfl) ?_
          refine wl_buildX (cs := [.int .i64 t.next, .slice none 0 0, .int .i64 t.kind, .int .i64 t.dev, .int .i64 t.at_, .int .i64 t.txg, .slice lo (0 + nl) lc]) [(0, .int .i64 t.next), (2, .agg #[.int .i64 t.kind, .int .i64 t.dev, .int .i64 t.at_, .int .i64 t.txg]), (3, .slice lo (0 + nl) lc)] rfl rfl (by exact rfl) (bldT3 _ _ _ _ _ _ _ _) ?_
          refine q0_nil ?_
          refine hK.out _ _ ?_ (fun hHeld => ?_)
          · exact ⟨ldS [_, _] hP2 rfl, ldA ([.int .i64 t.kind, .int .i64 t.dev, .int .i64 t.at_, .int .i64 t.txg]) [_, _] hP2 (rfl) (rfl), ldS [_, _] hP2 rfl⟩
          clear hK K
          (try simp only [Act.put, List.setIfInBounds_toArray, List.set_cons_zero, List.set_cons_succ])
          refine wpAnyH_ready (rs := [9]) (by kernel_rfl) (by simp) ?_
          refine (AllReadyH.cons (o := ⟨some 3, _, _, _, _, _⟩) rfl (fun K hK => ?_) AllReadyH.nil)
          rw [if_pos (by rfl)]
          refine ow_of_wl (ops := #[]) (by rfl) ?_
          refine wl_alloc hP2 rfl rfl ?_
          intro g3 w7 hP3
          refine q0_nil ?_
          refine hK.out _ _ ?_ (fun hHeld => ?_)
          · exact ⟨ldS [_, _, _] hP3 rfl, ldA ([.int .i64 t.kind, .int .i64 t.dev, .int .i64 t.at_, .int .i64 t.txg]) [_, _, _] hP3 (rfl) (rfl), ldS [_, _, _] hP3 rfl⟩
          clear hK K
          (try simp only [Act.put, List.setIfInBounds_toArray, List.set_cons_zero, List.set_cons_succ])
          refine wpAnyH_ready (rs := [10]) (by kernel_rfl) (by simp) ?_
          refine (AllReadyH.cons (o := ⟨none, _, _, _, _, _⟩) rfl (fun K hK => ?_) AllReadyH.nil)
          rw [if_pos (by rfl)]
          refine ow_of_wl (ops := #[]) (by rfl) ?_
          refine wl_storeA [] hP3 rfl rfl rfl rfl rfl rfl rfl ?_
          intro w7 hP4
          refine q0_nil ?_
          refine hK.out _ _ ?_ (fun hHeld => ?_)
          · exact ⟨ldS [_, _, _] hP4 rfl, ldA ([.int .i64 t.kind, .int .i64 t.dev, .int .i64 t.at_, .int .i64 t.txg]) [_, _, _] hP4 (rfl) (rfl), ldS [_, _, _] hP4 rfl⟩
          clear hK K
          (try simp only [Act.put, List.setIfInBounds_toArray, List.set_cons_zero, List.set_cons_succ])
          refine wpAnyH_done (by kernel_rfl) ?_ _
          clear hHeld
          have hQ0 := St.nilRow 47 44 hP4
          have hQ1 : St w [] w7 (.blk g3 30 [.int .i64 t.next, .slice none 0 0, .int .i64 t.kind, .int .i64 t.dev, .int .i64 t.at_, .int .i64 t.txg, .slice lo nl lc] :: .row (.slice none 0 0) 47 44 0 (recsV []) :: .row (.slice lo nl lc) 3 1 nl (numsV t.lives) :: .blk g1 30 (tabC t (.slice ar nr cr) (.slice al nl cl)) :: .blk g2 30 tab0 :: rootRows 98 []) := by
            have h := (St.front (L1 := [_, _, _, _]) (St.front (L1 := [_, _, _]) (St.front (L1 := [_, _, _, _]) (St.front (L1 := [_, _, _, _]) (St.front (L1 := [_, _, _]) hQ0)))))
            rw [Nat.zero_add, List.take_zero, List.nil_append] at h
            exact h
          clear hQ0 hP4
          rw [Nat.zero_add]
          go_wp2_with (first | go_big_skip | go_big_guard | fail)
          go_meet
          exact ⟨g3, lo, lc, rfl, hQ1⟩
        · rw [if_pos (by rfl)]
          refine ow_of_wl (ops := #[]) (by rfl) ?_
          refine wl_alloc hP2 rfl rfl ?_
          intro g3 w7 hP5
          refine q0_nil ?_
          refine hK.out _ _ ?_ (fun hHeld => ?_)
          · exact ⟨ldS [_, _, _] hP5 rfl, ldA ([.int .i64 t.kind, .int .i64 t.dev, .int .i64 t.at_, .int .i64 t.txg]) [_, _, _] hP5 (rfl) (rfl), ldS [_, _, _] hP5 rfl⟩
          clear hK K
          (try simp only [Act.put, List.setIfInBounds_toArray, List.set_cons_zero, List.set_cons_succ])
          refine wpAnyH_ready (rs := [8]) (by kernel_rfl) (by simp) ?_
          refine (AllReadyH.cons (o := ⟨some 14, _, _, _, _, _⟩) rfl (fun K hK => ?_) AllReadyH.nil)
          rw [if_pos (by rfl)]
          refine ow_of_wl (ops := #[]) (by rfl) ?_
          refine wl_buildX (cs := [.int .i64 t.next, .slice none 0 0, .int .i64 t.kind, .int .i64 t.dev, .int .i64 t.at_, .int .i64 t.txg, .slice lo (0 + nl) lc]) [(0, .int .i64 t.next), (2, .agg #[.int .i64 t.kind, .int .i64 t.dev, .int .i64 t.at_, .int .i64 t.txg]), (3, .slice lo (0 + nl) lc)] rfl rfl (by exact rfl) (bldT3 _ _ _ _ _ _ _ _) ?_
          refine q0_nil ?_
          refine hK.out _ _ ?_ (fun hHeld => ?_)
          · exact ⟨ldS [_, _, _] hP5 rfl, ldA ([.int .i64 t.kind, .int .i64 t.dev, .int .i64 t.at_, .int .i64 t.txg]) [_, _, _] hP5 (rfl) (rfl), ldS [_, _, _] hP5 rfl⟩
          clear hK K
          (try simp only [Act.put, List.setIfInBounds_toArray, List.set_cons_zero, List.set_cons_succ])
          refine wpAnyH_ready (rs := [10]) (by kernel_rfl) (by simp) ?_
          refine (AllReadyH.cons (o := ⟨none, _, _, _, _, _⟩) rfl (fun K hK => ?_) AllReadyH.nil)
          rw [if_pos (by rfl)]
          refine ow_of_wl (ops := #[]) (by rfl) ?_
          refine wl_storeA [] hP5 rfl rfl rfl rfl rfl rfl rfl ?_
          intro w7 hP6
          refine q0_nil ?_
          refine hK.out _ _ ?_ (fun hHeld => ?_)
          · exact ⟨ldS [_, _, _] hP6 rfl, ldA ([.int .i64 t.kind, .int .i64 t.dev, .int .i64 t.at_, .int .i64 t.txg]) [_, _, _] hP6 (rfl) (rfl), ldS [_, _, _] hP6 rfl⟩
          clear hK K
          (try simp only [Act.put, List.setIfInBounds_toArray, List.set_cons_zero, List.set_cons_succ])
          refine wpAnyH_done (by kernel_rfl) ?_ _
          clear hHeld
          have hQ0 := St.nilRow 47 44 hP6
          have hQ1 : St w [] w7 (.blk g3 30 [.int .i64 t.next, .slice none 0 0, .int .i64 t.kind, .int .i64 t.dev, .int .i64 t.at_, .int .i64 t.txg, .slice lo nl lc] :: .row (.slice none 0 0) 47 44 0 (recsV []) :: .row (.slice lo nl lc) 3 1 nl (numsV t.lives) :: .blk g1 30 (tabC t (.slice ar nr cr) (.slice al nl cl)) :: .blk g2 30 tab0 :: rootRows 98 []) := by
            have h := (St.front (L1 := [_, _, _, _]) (St.front (L1 := [_, _, _]) (St.front (L1 := [_, _, _, _]) (St.front (L1 := [_, _, _, _]) (St.front (L1 := [_, _, _]) hQ0)))))
            rw [Nat.zero_add, List.take_zero, List.nil_append] at h
            exact h
          clear hQ0 hP6
          rw [Nat.zero_add]
          go_wp2_with (first | go_big_skip | go_big_guard | fail)
          go_meet
          exact ⟨g3, lo, lc, rfl, hQ1⟩
      · rw [if_pos (by rfl)]
        refine ow_of_wl (ops := #[]) (by rfl) ?_
        refine wl_alloc hP1 rfl rfl ?_
        intro g3 w7 hP7
        refine q0_nil ?_
        refine hK.out _ _ ?_ (fun hHeld => ?_)
        · exact ⟨ldS [_, _, _] hP7 rfl, ldA ([.int .i64 t.kind, .int .i64 t.dev, .int .i64 t.at_, .int .i64 t.txg]) [_, _, _] hP7 (rfl) (rfl), ldS [_, _, _] hP7 rfl⟩
        clear hK K
        (try simp only [Act.put, List.setIfInBounds_toArray, List.set_cons_zero, List.set_cons_succ])
        refine wpAnyH_ready (rs := [7]) (by kernel_rfl) (by simp) ?_
        refine (AllReadyH.cons (o := ⟨some 13, _, _, _, _, _⟩) rfl (fun K hK => ?_) AllReadyH.nil)
        rw [if_pos (by rfl)]
        refine ow_of_wl (ops := #[]) (by rfl) ?_
        apply wl_appX (m := nl) (ys := numsV t.lives) [_] hP7
        · rfl
        · rfl
        · exact rfl
        · exact rfl
        · infer_instance
        · infer_instance
        · infer_instance
        · exact Rd.old hP7 HT.out.L
        · exact ones_numsV _
        · exact ⟨by decide, by unfold maxLen; omega, by omega⟩
        intro lv2 w6 hP8 _
        obtain ⟨lo, lc, rfl, _, _⟩ := row_sliceC [_] hP8
        refine q0_nil ?_
        refine hK.out _ _ ?_ (fun hHeld => ?_)
        · exact ⟨ldS [_, _, _] hP8 rfl, ldA ([.int .i64 t.kind, .int .i64 t.dev, .int .i64 t.at_, .int .i64 t.txg]) [_, _, _] hP8 (rfl) (rfl), ldS [_, _, _] hP8 rfl⟩
        clear hK K
        (try simp only [Act.put, List.setIfInBounds_toArray, List.set_cons_zero, List.set_cons_succ])
        refine wpAnyH_ready (rs := [8]) (by kernel_rfl) (by simp) ?_
        refine (AllReadyH.cons (o := ⟨some 14, _, _, _, _, _⟩) rfl (fun K hK => ?_) AllReadyH.nil)
        rw [if_pos (by rfl)]
        refine ow_of_wl (ops := #[]) (by rfl) ?_
        refine wl_buildX (cs := [.int .i64 t.next, .slice none 0 0, .int .i64 t.kind, .int .i64 t.dev, .int .i64 t.at_, .int .i64 t.txg, .slice lo (0 + nl) lc]) [(0, .int .i64 t.next), (2, .agg #[.int .i64 t.kind, .int .i64 t.dev, .int .i64 t.at_, .int .i64 t.txg]), (3, .slice lo (0 + nl) lc)] rfl rfl (by exact rfl) (bldT3 _ _ _ _ _ _ _ _) ?_
        refine q0_nil ?_
        refine hK.out _ _ ?_ (fun hHeld => ?_)
        · exact ⟨ldS [_, _, _] hP8 rfl, ldA ([.int .i64 t.kind, .int .i64 t.dev, .int .i64 t.at_, .int .i64 t.txg]) [_, _, _] hP8 (rfl) (rfl), ldS [_, _, _] hP8 rfl⟩
        clear hK K
        (try simp only [Act.put, List.setIfInBounds_toArray, List.set_cons_zero, List.set_cons_succ])
        refine wpAnyH_ready (rs := [10]) (by kernel_rfl) (by simp) ?_
        refine (AllReadyH.cons (o := ⟨none, _, _, _, _, _⟩) rfl (fun K hK => ?_) AllReadyH.nil)
        rw [if_pos (by rfl)]
        refine ow_of_wl (ops := #[]) (by rfl) ?_
        refine wl_storeA [] hP8 rfl rfl rfl rfl rfl rfl rfl ?_
        intro w7 hP9
        refine q0_nil ?_
        refine hK.out _ _ ?_ (fun hHeld => ?_)
        · exact ⟨ldS [_, _, _] hP9 rfl, ldA ([.int .i64 t.kind, .int .i64 t.dev, .int .i64 t.at_, .int .i64 t.txg]) [_, _, _] hP9 (rfl) (rfl), ldS [_, _, _] hP9 rfl⟩
        clear hK K
        (try simp only [Act.put, List.setIfInBounds_toArray, List.set_cons_zero, List.set_cons_succ])
        refine wpAnyH_done (by kernel_rfl) ?_ _
        clear hHeld
        have hQ0 := St.nilRow 47 44 hP9
        have hQ1 : St w [] w7 (.blk g3 30 [.int .i64 t.next, .slice none 0 0, .int .i64 t.kind, .int .i64 t.dev, .int .i64 t.at_, .int .i64 t.txg, .slice lo nl lc] :: .row (.slice none 0 0) 47 44 0 (recsV []) :: .row (.slice lo nl lc) 3 1 nl (numsV t.lives) :: .blk g1 30 (tabC t (.slice ar nr cr) (.slice al nl cl)) :: .blk g2 30 tab0 :: rootRows 98 []) := by
          have h := (St.front (L1 := [_, _, _, _]) (St.front (L1 := [_, _, _]) (St.front (L1 := [_, _, _, _]) (St.front (L1 := [_, _, _, _]) (St.front (L1 := [_, _, _]) hQ0)))))
          rw [Nat.zero_add, List.take_zero, List.nil_append] at h
          exact h
        clear hQ0 hP9
        rw [Nat.zero_add]
        go_wp2_with (first | go_big_skip | go_big_guard | fail)
        go_meet
        exact ⟨g3, lo, lc, rfl, hQ1⟩
    · rw [if_pos (by rfl)]
      refine ow_of_wl (ops := #[]) (by rfl) ?_
      refine wl_alloc hX rfl rfl ?_
      intro g3 w7 hP10
      refine q0_nil ?_
      refine hK.out _ _ ?_ (fun hHeld => ?_)
      · exact ⟨ldS [_, _] hP10 rfl, ldA ([.int .i64 t.kind, .int .i64 t.dev, .int .i64 t.at_, .int .i64 t.txg]) [_, _] hP10 (rfl) (rfl), ldS [_, _] hP10 rfl⟩
      clear hK K
      (try simp only [Act.put, List.setIfInBounds_toArray, List.set_cons_zero, List.set_cons_succ])
      refine wpAnyH_ready (rs := [4]) (by kernel_rfl) (by simp) ?_
      refine (AllReadyH.cons (o := ⟨some 10, _, _, _, _, _⟩) rfl (fun K hK => ?_) AllReadyH.nil)
      rw [if_pos (by rfl)]
      refine ow_of_wl (ops := #[]) (by rfl) ?_
      apply wl_bsX [] [] hP10
      · rfl
      · rfl
      · exact rfl
      · exact rfl
      · infer_instance
      · infer_instance
      · rfl
      · rfl
      · rfl
      intro g7 w8 h8
      have hP11 := St.toRow (n := 0) (cap := 0) (sz := 1) h8 rfl (by decide) (by decide)
      clear h8
      refine q0_nil ?_
      refine hK.out _ _ ?_ (fun hHeld => ?_)
      · exact ⟨ldS [_, _, _] hP11 rfl, ldA ([.int .i64 t.kind, .int .i64 t.dev, .int .i64 t.at_, .int .i64 t.txg]) [_, _, _] hP11 (rfl) (rfl), ldS [_, _, _] hP11 rfl⟩
      clear hK K
      (try simp only [Act.put, List.setIfInBounds_toArray, List.set_cons_zero, List.set_cons_succ])
      refine wpAnyH_ready (rs := [7]) (by kernel_rfl) (by simp) ?_
      refine (AllReadyH.cons (o := ⟨some 13, _, _, _, _, _⟩) rfl (fun K hK => ?_) AllReadyH.nil)
      rw [if_pos (by rfl)]
      refine ow_of_wl (ops := #[]) (by rfl) ?_
      apply wl_appX (m := nl) (ys := numsV t.lives) [] hP11
      · rfl
      · rfl
      · exact rfl
      · exact rfl
      · infer_instance
      · infer_instance
      · infer_instance
      · exact Rd.old hP11 HT.out.L
      · exact ones_numsV _
      · exact ⟨by decide, by unfold maxLen; omega, by omega⟩
      intro lv2 w6 hP12 _
      obtain ⟨lo, lc, rfl, _, _⟩ := row_sliceC [] hP12
      refine q0_nil ?_
      refine hK.out _ _ ?_ (fun hHeld => ?_)
      · exact ⟨ldS [_, _, _] hP12 rfl, ldA ([.int .i64 t.kind, .int .i64 t.dev, .int .i64 t.at_, .int .i64 t.txg]) [_, _, _] hP12 (rfl) (rfl), ldS [_, _, _] hP12 rfl⟩
      clear hK K
      (try simp only [Act.put, List.setIfInBounds_toArray, List.set_cons_zero, List.set_cons_succ])
      refine wpAnyH_ready (rs := [8]) (by kernel_rfl) (by simp) ?_
      refine (AllReadyH.cons (o := ⟨some 14, _, _, _, _, _⟩) rfl (fun K hK => ?_) AllReadyH.nil)
      rw [if_pos (by rfl)]
      refine ow_of_wl (ops := #[]) (by rfl) ?_
      refine wl_buildX (cs := [.int .i64 t.next, .slice none 0 0, .int .i64 t.kind, .int .i64 t.dev, .int .i64 t.at_, .int .i64 t.txg, .slice lo (0 + nl) lc]) [(0, .int .i64 t.next), (2, .agg #[.int .i64 t.kind, .int .i64 t.dev, .int .i64 t.at_, .int .i64 t.txg]), (3, .slice lo (0 + nl) lc)] rfl rfl (by exact rfl) (bldT3 _ _ _ _ _ _ _ _) ?_
      refine q0_nil ?_
      refine hK.out _ _ ?_ (fun hHeld => ?_)
      · exact ⟨ldS [_, _, _] hP12 rfl, ldA ([.int .i64 t.kind, .int .i64 t.dev, .int .i64 t.at_, .int .i64 t.txg]) [_, _, _] hP12 (rfl) (rfl), ldS [_, _, _] hP12 rfl⟩
      clear hK K
      (try simp only [Act.put, List.setIfInBounds_toArray, List.set_cons_zero, List.set_cons_succ])
      refine wpAnyH_ready (rs := [10]) (by kernel_rfl) (by simp) ?_
      refine (AllReadyH.cons (o := ⟨none, _, _, _, _, _⟩) rfl (fun K hK => ?_) AllReadyH.nil)
      rw [if_pos (by rfl)]
      refine ow_of_wl (ops := #[]) (by rfl) ?_
      refine wl_storeA [_] hP12 rfl rfl rfl rfl rfl rfl rfl ?_
      intro w7 hP13
      refine q0_nil ?_
      refine hK.out _ _ ?_ (fun hHeld => ?_)
      · exact ⟨ldS [_, _, _] hP13 rfl, ldA ([.int .i64 t.kind, .int .i64 t.dev, .int .i64 t.at_, .int .i64 t.txg]) [_, _, _] hP13 (rfl) (rfl), ldS [_, _, _] hP13 rfl⟩
      clear hK K
      (try simp only [Act.put, List.setIfInBounds_toArray, List.set_cons_zero, List.set_cons_succ])
      refine wpAnyH_done (by kernel_rfl) ?_ _
      clear hHeld
      have hQ0 := St.nilRow 47 44 hP13
      have hQ1 : St w [] w7 (.blk g3 30 [.int .i64 t.next, .slice none 0 0, .int .i64 t.kind, .int .i64 t.dev, .int .i64 t.at_, .int .i64 t.txg, .slice lo nl lc] :: .row (.slice none 0 0) 47 44 0 (recsV []) :: .row (.slice lo nl lc) 3 1 nl (numsV t.lives) :: .blk g1 30 (tabC t (.slice ar nr cr) (.slice al nl cl)) :: .blk g2 30 tab0 :: rootRows 98 []) := by
        have h := (St.front (L1 := [_, _, _, _]) (St.front (L1 := [_, _, _]) (St.front (L1 := [_, _, _]) (St.front (L1 := [_, _, _, _]) (St.front (L1 := [_, _, _]) hQ0)))))
        rw [Nat.zero_add, List.take_zero, List.nil_append] at h
        exact h
      clear hQ0 hP13
      rw [Nat.zero_add]
      go_wp2_with (first | go_big_skip | go_big_guard | fail)
      go_meet
      exact ⟨g3, lo, lc, rfl, hQ1⟩
  case rest =>
    clear hst
    obtain ⟨g3, lo, lc, rfl, hQ1⟩ := hcut
    go_wp2_with (first | go_big_skip | go_big_guard | fail)
    go_loopw [4] (fun i wr => ∃ (j : Nat) (rv : Value) (ys : List (Value × RC)), j ≤ nr ∧ i = .int .i64 (j : Int) ∧ ys.map (·.2) = t.recs.take j ∧ St w [] wr (.blk g3 30 [.int .i64 t.next, rv, .int .i64 t.kind, .int .i64 t.dev, .int .i64 t.at_, .int .i64 t.txg, .slice lo nl lc] :: .row rv 47 44 j (recsV ys) :: .row (.slice lo nl lc) 3 1 nl (numsV t.lives) :: .blk g1 30 (tabC t (.slice ar nr cr) (.slice al nl cl)) :: .blk g2 30 tab0 :: rootRows 98 ys)) (fun i _ => nr - (intOf i).toNat)
    case atStart => exact ⟨0, _, [], Nat.zero_le _, rfl, rfl, hQ1⟩
    case round =>
      clear hQ1
      obtain ⟨j, rv, ys, hj, rfl, hy, hst⟩ := hrel
      have HY := hid hy
      clear hy
      by_cases hlt : j < nr
      · have e1 : decide ((j : Int) < (nr : Int)) = true := decide_eq_true (by omega)
        have z1 : IntKind.i64.wrap ((j : Int) + 1) = (j : Int) + 1 := IntWalk.i64_in _ (by omega)
        obtain ⟨x, lb, lo3, hx, har, hin, hr⟩ := RecsIn.at HT.out.R hlt
        subst har
        have HXJ := hid (recs_at HT.out hx)
        have HIN := hid hin
        have HL := hid hin.L
        have HL44 := hid (cellsR_len hin.L)
        have H35 := hid (PV.len (p := x.2.pv x.1) hin.L)
        have HRX := hid hr
        have HLQ := hid (show ∀ v : Value, (cellsR (v, x.2)).length = 44 from fun _ => cellsR_len hin.L)
        have HAD := hid (ha x.2 (List.mem_of_getElem? HXJ.out))
        clear hx hr hin
        go_wp2_with (first | go_big_skip | go_big_guard | (refine wl_loadE rfl rfl rfl ?_; first | refine ⟨_, Loads.at [_, _, _] hst rfl, ?_⟩ | refine ⟨_, Loads.oldA (cs := cellsR x) hst HL44.out HRX.out, ?_⟩ | refine ⟨_, Loads.atA ((x.2.pv x.1).cells) [] hst3 H35.out (cellsR_root HL.out), ?_⟩ | refine ⟨_, Loads.at [_, _] hst5 rfl, ?_⟩ | refine ⟨_, Loads.atA (cellsR (.slice ao9 (x.2.pv x.1).l.length c9, x.2)) [_] hst5 (HLQ.out _) (cellsR_all _), ?_⟩) | (refine wl_index rfl rfl rfl rfl hlt ?_) | (refine wl_alloc hst rfl rfl ?_; intro g5 w2 hst2; clear hst) | (refine wl_storeA [] hst2 rfl rfl rfl rfl (by exact HL44.out) (cellsR_ones HIN.out) rfl ?_; intro w3 hst3; clear hst2) | (go_at_call 50; refine (copyPtr_any (x.2.pv x.1) _ (PV.In.old hst3.nil HIN.out.1) HAD.out).mono ?_; rintro _ w9 ⟨ao9, n9, c9, rfl, h4, hl4⟩; subst hl4; have hst4 := St.call hst3 h4; clear h4 hst3) | (refine wl_storeO [_] hst4 rfl rfl rfl rfl (off := 4) (vs := PV.cells ((x.2.pv x.1).re (.slice ao9 (x.2.pv x.1).l.length c9))) (by exact H35.out) (PV.ones_of rfl) (by rw [HL44.out]; decide) (put_root x HL.out _) ?_; intro w5 hst5; clear hst4) | (apply wl_bsX [.agg (List.toArray (cellsR (.slice ao9 (x.2.pv x.1).l.length c9, x.2)))] (cellsR (.slice ao9 (x.2.pv x.1).l.length c9, x.2)) hst5; rfl; rfl; exact rfl; exact (List.append_nil _); infer_instance; infer_instance; (show (((List.toArray (cellsR (.slice ao9 (x.2.pv x.1).l.length c9, x.2))).size == 44) && true) = true; rw [List.size_toArray, HLQ.out _]; rfl); rfl; rfl; intro gb w5 hst6; have HINR := hid (root_in (x := (.slice ao9 (x.2.pv x.1).l.length c9, x.2)) hst6 (.tail _ (.head _)) HL.out HIN.out.2); clear hst5) | (apply wl_appX (m := 1) (ys := cellsR (.slice ao9 (x.2.pv x.1).l.length c9, x.2)) [_, _, _, _] hst6; rfl; rfl; exact rfl; exact rfl; infer_instance; infer_instance; infer_instance; exact Rd.blk (n := 1) hst6 (.head _) (Nat.le_refl _) (by decide) (by rw [HLQ.out _]) (by rw [List.drop_zero, List.take_length]); exact cellsR_ones HINR.out; exact ⟨by decide, by unfold maxLen; omega, by omega⟩; intro rv2 w6 hst7 _; obtain ⟨ro, rc, rfl, _, _⟩ := row_sliceC [_, _, _, _] hst7; clear hst6) | (refine wl_store [_, _, _] hst7 rfl rfl rfl (off := 1) (v := .slice _ _ _) rfl rfl rfl (by show (1 : Nat) + 1 ≤ 7; decide) ?_; intro w7 hst8; clear hst7))
        have hst9 := Hp.St.root (A := [_, _, _, _]) (sv := .slice ao9 (x.2.pv x.1).l.length c9) (x := x.2) (St.perm (St.sub hst8 (.cons _ (.cons_cons _ (.cons _ (List.Sublist.refl _))))) (.swap _ _ _))
        clear hst8
        go_roundw
        case rel =>
          have hD7 : St w [] w7 (.blk g3 30 [.int .i64 t.next, .slice ro (j + 1) rc, .int .i64 t.kind, .int .i64 t.dev, .int .i64 t.at_, .int .i64 t.txg, .slice lo nl lc] :: .row (.slice ro (j + 1) rc) 47 44 (j + 1) (recsV (ys ++ [(.slice ao9 (x.2.pv x.1).l.length c9, x.2)])) :: .row (.slice lo nl lc) 3 1 nl (numsV t.lives) :: .blk g1 30 (tabC t (.slice (some ⟨lb, lo3, none⟩) nr cr) (.slice al nl cl)) :: .blk g2 30 tab0 :: rootRows 98 (ys ++ [(.slice ao9 (x.2.pv x.1).l.length c9, x.2)])) := by
            rw [recsV_append, show recsV [((.slice ao9 (x.2.pv x.1).l.length c9 : Value), x.2)] = cellsR (.slice ao9 (x.2.pv x.1).l.length c9, x.2) from List.append_nil _]
            exact hst9
          refine ⟨j + 1, .slice ro (j + 1) rc, ys ++ [(.slice ao9 (x.2.pv x.1).l.length c9, x.2)], by omega, rfl, ?_, hD7⟩
          rw [List.map_append, HY.out, List.take_add_one, HXJ.out]; rfl
        case measure => simp [intOf]; omega
      · have e1 : decide ((j : Int) < (nr : Int)) = false := decide_eq_false (by omega)
        obtain rfl : j = nr := by omega
        obtain ⟨ro, rc, rfl, _, _⟩ := row_sliceC [_] hst
        have HYT := hid (show ys.map (·.2) = t.recs by rw [HY.out, List.take_of_length_le (by have := HT.out.len; omega)])
        go_wp2_with (first | go_big_skip | go_big_guard | (refine wl_loadE rfl rfl rfl ?_; first | refine ⟨_, Loads.at [_, _, _] hst rfl, ?_⟩ | refine ⟨_, Loads.atA (tabC t (.slice ro j rc) (.slice lo nl lc)) [] hst rfl rfl, ?_⟩) | (refine wl_storeA [_, _, _, _] hst rfl rfl rfl rfl (vs := tabC t (.slice ro j rc) (.slice lo nl lc)) rfl rfl rfl ?_; intro w7 hst8; clear hst))
        have hl := Loads.atA (P := Try.prog) (off := 0) (T := 30) (tabC t (.slice ro j rc) (.slice lo nl lc)) [_, _, _, _] hst8 rfl rfl
        refine bodyPost_ret (results_cellC rfl rfl hl) rfl ?_
        refine ⟨ro, rc, lo, lc, ys, rfl, HYT.out, ?_⟩
        exact St.sub hst8 (.cons _ (.cons_cons _ (.cons_cons _ (.cons _ (.cons _ (List.Sublist.refl _))))))
end Go.Proofs.Ytkpkaoiafppimaa
namespace Go.Proofs.Ytkpkaoiafppimaa
set_option linter.unusedVariables false
set_option linter.unusedSimpArgs false
open Go.RowKit
namespace Hp
variable {P : Program}
theorem row_openV {w0 w : World} {M : List Nat} {L1 L2 : List HA} {v : Value} {T : TypeId} {sz n : Nat} {xs : List Value} (h : St w0 M w (L1 ++ .row v T sz n xs :: L2)) (hn : 0 < n) : ∃ g c rest, v = .slice (some ⟨g, 0, none⟩) n c ∧ n ≤ c ∧ c ≤ 9223372036854775807 ∧ (xs ++ rest).length = c * sz ∧ xs.length = n * sz ∧ St w0 M w (L1 ++ .blk g T (xs ++ rest) :: L2) := by
  obtain ⟨hl, h2⟩ := h.owns (v := v) (T := T) (sz := sz) (n := n) (xs := xs) (by simp)
  rcases h2 with ⟨_, hz⟩ | ⟨g, cap, cur, rfl, _, hh, hnc, hcm, hs, hp⟩
  · omega
  · have e : xs ++ cur.toList.drop (n * sz) = cur.toList := by rw [← hp, List.take_append_drop]
    refine ⟨g, cap, cur.toList.drop (n * sz), rfl, hnc, hcm, by rw [e]; simpa using hs, hl, h.rep (y := .blk g T (xs ++ cur.toList.drop (n * sz))) rfl fun _ => ?_⟩
    show w.heap[g]? = _
    rw [hh, e]
/-- A slice of one's own that is not empty: where it lies. -/
theorem row_spot {w0 w : World} {M : List Nat} {L : List HA} {v : Value} {T : TypeId} {sz n : Nat} {xs : List Value} (h : St w0 M w L) (hm : HA.row v T sz n xs ∈ L) (hn : 0 < n) : ∃ g c, v = .slice (some ⟨g, 0, none⟩) n c ∧ w.rangeAt g 0 xs := by
  have hr := Rd.row h hm
  obtain ⟨L1, L2, rfl⟩ := List.append_of_mem hm
  obtain ⟨g, c, rest, rfl, _⟩ := row_openV h hn
  exact ⟨g, c, rfl, hr.range⟩
theorem put_left {l r vs : List Value} {k : Nat} (h : k + vs.length ≤ l.length) : putAt (l ++ r) k vs = putAt l k vs ++ r := by
  unfold putAt
  rw [List.take_append_of_le_length (by omega), List.drop_append_of_le_length (by omega), List.append_assoc, List.append_assoc]
theorem length_putAt {l vs : List Value} {k : Nat} (h : k + vs.length ≤ l.length) : (putAt l k vs).length = l.length := by
  unfold putAt
  simp
  omega
theorem wl_storeRow {ops : Array Oper} {rest : List Oper} {o : Oper} {a : Act} {w0 w : World} {M : List Nat} {Q : Exit → Act → World → Prop} {T T' : TypeId} {x y : Operand} {g sz n m c off : Nat} {vs xs : List Value} (L1 : List HA) {L2 : List HA} (hst : St w0 M w (L1 ++ .row (.slice (some ⟨g, 0, none⟩) n c) T' sz n xs :: L2)) (hop : o.op = .store T x y)
    (hw : Region.wanted o (yielded ops a.tmps) = true) (hx : a.eval x = .pointer (some ⟨g, off, none⟩)) (hy : a.eval y = .agg vs.toArray) [hi : TyN P T m] (hm : vs.length = m)
    (h1 : vs.all (·.oneCell') = true) (hf : off + m ≤ n * sz) (hn0 : 0 < n)
    (h : ∀ w', St w0 M w' (L1 ++ .row (.slice (some ⟨g, 0, none⟩) n c) T' sz n (putAt xs off vs) :: L2) → wpList P ops Q rest (a.put o.dst undef) w') : wpList P ops Q (o :: rest) a w := by
  obtain ⟨g', c', rs, e, hnc, hcm, hl, hxl, h2⟩ := row_openV hst hn0
  cases e
  refine wl_storeO L1 h2 hop hw hx hy (n := m) hm h1 (by rw [List.length_append, hxl]; omega) rfl fun w' h3 => h w' ?_
  rw [put_left (by rw [hm, hxl]; exact hf)] at h3
  have hpl : (putAt xs off vs).length = xs.length := length_putAt (by rw [hm, hxl]; exact hf)
  have h4 := St.toRow (n := n) (cap := c) (sz := sz) (St.front L1 h3) (by rw [List.length_append, hpl, ← List.length_append, hl]) hnc hcm
  rw [List.take_append_of_le_length (by rw [hpl, hxl]; exact Nat.le_refl _), List.take_of_length_le (by rw [hpl, hxl]; exact Nat.le_refl _)] at h4
  exact St.perm h4 List.perm_middle.symm
theorem wl_storeRow1 {ops : Array Oper} {rest : List Oper} {o : Oper} {a : Act} {w0 w : World} {M : List Nat} {Q : Exit → Act → World → Prop} {T T' : TypeId} {x y : Operand} {g sz n c off : Nat} {v : Value} {xs : List Value} (L1 : List HA) {L2 : List HA} (hst : St w0 M w (L1 ++ .row (.slice (some ⟨g, 0, none⟩) n c) T' sz n xs :: L2)) (hop : o.op = .store T x y)
    (hw : Region.wanted o (yielded ops a.tmps) = true) (hx : a.eval x = .pointer (some ⟨g, off, none⟩)) (hy : a.eval y = v) [hi : TyN P T 1] (hv : v.cells = #[v]) (h1 : v.oneCell' = true) (hf : off + 1 ≤ n * sz) (hn0 : 0 < n)
    (h : ∀ w', St w0 M w' (L1 ++ .row (.slice (some ⟨g, 0, none⟩) n c) T' sz n (putAt xs off [v]) :: L2) → wpList P ops Q rest (a.put o.dst undef) w') : wpList P ops Q (o :: rest) a w := by
  obtain ⟨g', c', rs, e, hnc, hcm, hl, hxl, h2⟩ := row_openV hst hn0
  cases e
  refine wl_store L1 h2 hop hw hx hy (n := 1) (by rw [hv]; rfl) (by rw [hv]; simpa using h1) (by rw [hv, List.length_append, hxl]; show off + 1 ≤ _; omega) fun w' h3 => h w' ?_
  rw [hv, show (#[v] : Array Value).toList = [v] from rfl, put_left (by rw [hxl]; exact hf)] at h3
  have hpl : (putAt xs off [v]).length = xs.length := length_putAt (by rw [hxl]; exact hf)
  have h4 := St.toRow (n := n) (cap := c) (sz := sz) (St.front L1 h3) (by rw [List.length_append, hpl, ← List.length_append, hl]) hnc hcm
  rw [List.take_append_of_le_length (by rw [hpl, hxl]; exact Nat.le_refl _), List.take_of_length_le (by rw [hpl, hxl]; exact Nat.le_refl _)] at h4
  exact St.perm h4 List.perm_middle.symm
theorem Loads.inRow {w0 w : World} {M : List Nat} {L : List HA} {T T' : TypeId} {g n sz c k : Nat} {v : Value} {xs : List Value} (h : St w0 M w L) (hm : HA.row (.slice (some ⟨g, 0, none⟩) n c) T' sz n xs ∈ L) [ht : TyS P T] (hk : xs[k]? = some v) : Loads P w T ⟨g, k, none⟩ v := by
  have hr := (Rd.row h hm).range
  have := hr k v hk
  rw [Nat.zero_add] at this
  exact Loads.cell ht.out this
theorem drop_putAt {l vs : List Value} {k d : Nat} (h : k + vs.length ≤ l.length) (hd : k + vs.length ≤ d) : (putAt l k vs).drop d = l.drop d := by
  unfold putAt
  have e1 : (l.take k).length = k := by rw [List.length_take]; omega
  rw [← List.append_assoc, List.drop_append, List.drop_of_length_le (by simp; omega), List.nil_append, List.drop_drop]
  congr 1
  simp
  omega
end Hp
end Go.Proofs.Ytkpkaoiafppimaa
namespace Go.Proofs.Ytkpkaoiafppimaa
set_option linter.unusedVariables false
set_option linter.unusedSimpArgs false
open Go.RowKit Hp
attribute [local irreducible] Go.Calls Go.wpList
set_option maxRecDepth 100000
set_option maxHeartbeats 8000000
def overR : List Value := xC (-7) [111, 118, 101, 114] 0 0 zP 0 0 0 0 0
theorem bldOver : Try.prog.built 47 [(0, .int .i64 (-7)), (1, .string ⟨#[111, 118, 101, 114]⟩)] = some overR.toArray := by kernel_rfl
theorem overR_len : overR.length = 44 := rfl
theorem overR_ones : overR.all (·.oneCell') = true := rfl
def rowOf (E : TypeId) (x : Value × RC) : HA := .row x.1 E 2 x.2.l.length (addrsV x.2.l)
theorem rootRows_perm (E : TypeId) (xs : List (Value × RC)) : (rootRows E xs).Perm (xs.map (rowOf E)) := by
  unfold rootRows
  exact (List.reverse_perm xs).map _
theorem drop_recs {xs : List (Value × RC)} {zs : List Value} {j : Nat} {x : Value × RC} (hx : xs[j]? = some x) (hL : (cellsR x).length = 44) (h : zs.drop (j * 44) = recsV (xs.drop j)) : zs[j * 44 + 4]? = some x.1 ∧ zs.drop ((j + 1) * 44) = recsV (xs.drop (j + 1)) ∧ xs.drop j = x :: xs.drop (j + 1) := by
  have hd : xs.drop j = x :: xs.drop (j + 1) := by
    obtain ⟨hlt, hg⟩ := List.getElem?_eq_some_iff.1 hx
    rw [List.drop_eq_getElem_cons hlt, hg]
  have hr : recsV (xs.drop j) = cellsR x ++ recsV (xs.drop (j + 1)) := by rw [hd]; rfl
  refine ⟨?_, ?_, hd⟩
  · rw [← List.getElem?_drop, h, hr, List.getElem?_append_left (by omega)]
    rfl
  · rw [show (j + 1) * 44 = j * 44 + 44 by omega, ← List.drop_drop, h, hr, List.drop_left' hL]
theorem overTable_any {w0 w : World} {M : List Nat} {R : List HA} (t : TC) (ro lo : Option Addr) (nr rc nl lc : Nat) (xs : List (Value × RC)) (zs : List Value) (hS : St w0 M w (.row (.slice ro nr rc) 47 44 nr (recsV xs) :: .row (.slice lo nl lc) 3 1 nl zs :: (rootRows 98 xs ++ R))) (hx : ∀ x ∈ xs, L32 x.2.S) (hlen : xs.length = nr) (hnr : nr ≤ 100000) (hnl : nl ≤ 100000) :
    Calls Try.prog 13 #[.agg (tabC t (.slice ro nr rc) (.slice lo nl lc)).toArray] w fun e w' => e = .returned (.tuple #[]) ∧ St w0 M w' R := by
  have hst0 : St w0 M w (.row (.slice ro nr rc) 47 44 nr (recsV xs) :: .row (.slice lo nl lc) 3 1 nl zs :: (xs.map (rowOf 98) ++ R)) := St.perm hS (.cons _ (.cons _ ((rootRows_perm _ xs).append_right R)))
  have HLN := hid hlen
  have HXL := hid hx
  clear hS hx hlen
  go_enter Try.func13, Try.ntmps13
  go_wp2_with (first | go_big_skip | go_big_guard | (refine wl_boxA hst0 rfl rfl rfl ?_; intro g1 w1 hst; clear hst0))
  go_loopw [2] (fun i wr => ∃ (j : Nat) (ys : List Value), j ≤ nr ∧ i = .int .i64 (j : Int) ∧ Hid (ys.drop (j * 44) = recsV (xs.drop j)) ∧ St w0 M wr (.blk g1 30 (tabC t (.slice ro nr rc) (.slice lo nl lc)) :: .row (.slice ro nr rc) 47 44 nr ys :: .row (.slice lo nl lc) 3 1 nl zs :: ((xs.drop j).map (rowOf 98) ++ R))) (fun i _ => nr - (intOf i).toNat)
  case atStart => exact ⟨0, _, Nat.zero_le _, rfl, hid (by rw [Nat.zero_mul, List.drop_zero, List.drop_zero]), hst⟩
  case round =>
    clear hst
    obtain ⟨j, ys, hj, rfl, HY, hst⟩ := hrel
    by_cases hlt : j < nr
    · have e1 : decide ((j : Int) < (nr : Int)) = true := decide_eq_true (by omega)
      have z1 : IntKind.i64.wrap ((j : Int) + 1) = (j : Int) + 1 := IntWalk.i64_in _ (by omega)
      obtain ⟨⟨xv, xr⟩, hxj⟩ : ∃ x, xs[j]? = some x := ⟨_, List.getElem?_eq_getElem (by rw [HLN.out]; exact hlt)⟩
      obtain ⟨q1, q2, q3⟩ := drop_recs hxj (cellsR_len (HXL.out _ (List.mem_of_getElem? hxj))) HY.out
      rw [q3, List.map_cons, List.cons_append] at hst
      obtain ⟨g, c, he, _⟩ := row_spot hst (.tail _ (.head _)) (by omega)
      cases he
      obtain ⟨xo, xc, hxe, _, _, _⟩ := row_form hst (.tail _ (.tail _ (.tail _ (.head _))))
      have hxe' : xv = .slice xo xr.l.length xc := hxe
      subst hxe'
      have HC := hid q1
      obtain ⟨_, _, _, _, _, hyl⟩ := row_form hst (.tail _ (.head _))
      have HYL := hid hyl
      clear hyl
      have HD := hid q2
      clear q1 q2 q3 hxe hxj
      go_wp2_with (first | go_big_skip | go_big_guard | (refine wl_loadE rfl rfl rfl ?_; first | refine ⟨_, Loads.at [] hst rfl, ?_⟩ | refine ⟨_, Loads.inRow (k := j * 44 + 4) hst (.tail _ (.head _)) HC.out, ?_⟩ | refine ⟨_, (by rw [Nat.zero_add]; exact Loads.inRow (k := j * 44 + 4) hst (.tail _ (.head _)) HC.out), ?_⟩ | refine ⟨_, Loads.at [_] hst2 rfl, ?_⟩) | (refine wl_index rfl rfl rfl rfl hlt ?_) | (go_at_call 39; refine (over_addrs xo xr.l.length xc (addrsV xr.l) _ (hst.owns (.tail _ (.tail _ (.tail _ (.head _)))))).mono ?_; rintro _ w9 ⟨ys9, rfl, h4⟩; have hst2 := St.callRow (St.front (L1 := [_, _, _]) hst) h4; clear h4 hst) | (refine wl_buildX (cs := overR) [(0, .int .i64 (-7)), (1, .string ⟨#[111, 118, 101, 114]⟩)] rfl rfl (by exact rfl) bldOver ?_) | (refine wl_storeRow [_, _] hst2 rfl rfl rfl rfl (vs := overR) overR_len overR_ones (by omega) (by omega) ?_; intro w7 hst3; clear hst2))
      have HD2 := hid (show (putAt ys (0 + j * 44) overR).drop ((j + 1) * 44) = recsV (xs.drop (j + 1)) by
        rw [drop_putAt (by rw [overR_len, HYL.out]; omega) (by rw [overR_len]; omega), HD.out])
      go_roundw
      case rel => exact ⟨j + 1, _, by omega, rfl, HD2, St.drop (L1 := []) hst3⟩
      case measure => simp [intOf]; omega
    · have e1 : decide ((j : Int) < (nr : Int)) = false := decide_eq_false (by omega)
      have hst5 : St w0 M wr (.blk g1 30 (tabC t (.slice ro nr rc) (.slice lo nl lc)) :: .row (.slice lo nl lc) 3 1 nl zs :: R) := by
        have h0 : xs.drop j = [] := List.drop_eq_nil_of_le (by rw [HLN.out]; omega)
        rw [h0] at hst
        exact St.sub hst (.cons_cons _ (.cons _ (.cons_cons _ (List.Sublist.refl _))))
      clear hst
      go_wp2_with (first | go_big_skip | go_big_guard | (refine wl_loadE rfl rfl rfl ?_; refine ⟨_, Loads.at [] hst5 rfl, ?_⟩))
      go_loopw [3] (fun i wr => ∃ (k : Nat) (ys : List Value), k ≤ nl ∧ i = .int .i64 (k : Int) ∧ St w0 M wr (.blk g1 30 (tabC t (.slice ro nr rc) (.slice lo nl lc)) :: .row (.slice lo nl lc) 3 1 nl ys :: R)) (fun i _ => nl - (intOf i).toNat)
      case atStart => exact ⟨0, _, Nat.zero_le _, rfl, hst5⟩
      case round =>
        clear hst5
        obtain ⟨k, ys, hk, rfl, hst⟩ := hrel
        by_cases hltk : k < nl
        · have e2 : decide ((k : Int) < (nl : Int)) = true := decide_eq_true (by omega)
          have z1 : IntKind.i64.wrap ((k : Int) + 1) = (k : Int) + 1 := IntWalk.i64_in _ (by omega)
          obtain ⟨g, c, he, _⟩ := row_spot hst (.tail _ (.head _)) (by omega)
          cases he
          go_wp2_with (first | go_big_skip | go_big_guard | (refine wl_loadE rfl rfl rfl ?_; refine ⟨_, Loads.at [] hst rfl, ?_⟩) | (refine wl_index rfl rfl rfl rfl hltk ?_) | (refine wl_storeRow1 [_] hst rfl rfl rfl rfl (v := .int .i64 (-7)) rfl rfl (by omega) (by omega) ?_; intro w7 hst3; clear hst))
          go_roundw
          case rel => exact ⟨k + 1, _, by omega, rfl, hst3⟩
          case measure => simp [intOf]; omega
        · have e2 : decide ((k : Int) < (nl : Int)) = false := decide_eq_false (by omega)
          go_wp2_with (first | go_big_skip | go_big_guard | (refine wl_loadE rfl rfl rfl ?_; refine ⟨_, Loads.at [] hst rfl, ?_⟩))
          go_end0
          exact ⟨rfl, St.sub hst (.cons _ (.cons _ (List.Sublist.refl _)))⟩
end Go.Proofs.Ytkpkaoiafppimaa
