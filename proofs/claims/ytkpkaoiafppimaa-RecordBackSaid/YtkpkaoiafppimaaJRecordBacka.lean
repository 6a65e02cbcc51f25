/- PROVED: the law RecordBack returns true at any input, and nothing that was there has turned. No condition. -/
import Derived.Test.YtkpkaoiafppimaaJBasef
import Derived.Test.YtkpkaoiafppimaaJBased
import Derived.Test.YtkpkaoiafppimaaJBaseg
import Derived.Test.YtkpkaoiafppimaaPost
import Derived.Test.YtkpkaoiafppimaaOpenB
namespace Go.Proofs.Ytkpkaoiafppimaa
set_option linter.unusedVariables false
set_option linter.unusedSimpArgs false
open Go.RowKit Hp
attribute [local irreducible] Go.Calls Go.wpList
set_option maxRecDepth 100000
set_option maxHeartbeats 8000000
theorem copyBytes12_any (v : Value) (n : Nat) (l : List UInt8) (w : World) (hv : Rd w v 1 n (bytesV l)) (hb : n ≤ 100000000) :
    Calls Try.prog 18 #[v] w fun e w' => ∃ u, e = .returned u ∧ St w [] w' [.rowP isB u 5 1 n (bytesV l)] := by
  have hst := St.refl w
  go_enter Try.func18, Try.ntmps18
  go_wp2_with (first | go_big_skip | go_big_guard | (apply wl_bsX [] [] hst; rfl; rfl; exact rfl; exact rfl; infer_instance; infer_instance; rfl; rfl; rfl; intro g w1 hst1; clear hst; have hst2 := St.toRowP (n := 0) (cap := 0) (sz := 1) isB hst1 rfl (Nat.le_refl _) (by decide) rfl; clear hst1) | (apply wl_appP (p := isB) [] hst2; rfl; rfl; exact rfl; exact rfl; infer_instance; infer_instance; infer_instance; infer_instance; exact Rd.old hst2 hv; exact ones_bytesV l; rfl; exact isB_bytes l; (refine ⟨by decide, by unfold maxLen; omega, by omega⟩); intro v2 w2 hst3 _; clear hst2))
  go_ret
  refine ⟨v2, rfl, ?_⟩
  rw [Nat.zero_add] at hst3
  exact hst3
def greatR : RC := { oneR with name := [65] }
def largeR : RC := { oneR with size := 65 }
def fewT : TC := { bareT with lives := [0] }
def lowT : TC := { oneT with next := 1 }
def greatT : TC := { oneT with recs := [greatR] }
def largeT : TC := { oneT with recs := [largeR] }
def greatC : List Value := cellsR (.slice none 0 0, greatR)
def largeC : List Value := cellsR (.slice none 0 0, largeR)
theorem few_no : fewT.ok = false := by decide +kernel
theorem low_no : lowT.ok = false := by decide +kernel
theorem great_no : greatT.ok = false := by decide +kernel
theorem large_no : largeT.ok = false := by decide +kernel
def moreB : List UInt8 := bareB ++ [0]
def wildB : List UInt8 := 255 :: bareB.drop 1
theorem more_err : gErr moreB = 4 ∧ gAt moreB = 24 ∧ gOK moreB = false := by decide +kernel
theorem wild_err : gErr wildB = 2 ∧ gAt wildB = 0 ∧ gOK wildB = false := by decide +kernel
theorem greatIn (w : World) : RC.In w ((.slice none 0 0 : Value), greatR) := ⟨⟨L32.nones, none, 0, 0, rfl, Rd.nil _ _, rfl⟩, by decide⟩
theorem largeIn (w : World) : RC.In w ((.slice none 0 0 : Value), largeR) := ⟨⟨L32.nones, none, 0, 0, rfl, Rd.nil _ _, rfl⟩, by decide⟩
theorem fewIn {w0 w : World} {M : List Nat} {L : List HA} {h : Nat} (hst : St w0 M w L) (h2 : HA.blk h 3 (numsV [0, 0]) ∈ L) : TabIn w fewT none 0 0 (some ⟨h, 0, none⟩) 1 2 [] :=
  ⟨⟨Rd.nil _ _, rfl, fun _ h => by cases h⟩, rfl, Rd.blk hst h2 (by decide) (by decide) rfl rfl, rfl, by decide, by decide⟩
theorem recIn1 {r : RC} {nx : Nat} {w0 w : World} {M : List Nat} {L : List HA} {g h : Nat} (hst : St w0 M w L) (hr : RC.In w ((.slice none 0 0 : Value), r)) (hl : (cellsR ((.slice none 0 0 : Value), r)).length = 1 * 44) (h1 : HA.blk g 47 (cellsR (.slice none 0 0, r)) ∈ L) (h2 : HA.blk h 3 (numsV [0, 0]) ∈ L) : TabIn w ⟨nx, [r], 0, 0, 0, 0, [0, 0]⟩ (some ⟨g, 0, none⟩) 1 1 (some ⟨h, 0, none⟩) 2 2 [(.slice none 0 0, r)] :=
  ⟨⟨Rd.blk hst h1 (Nat.le_refl _) (by decide) (by unfold recsV; rw [List.flatMap_cons, List.flatMap_nil, List.append_nil, hl]) (by unfold recsV; rw [List.flatMap_cons, List.flatMap_nil, List.append_nil, List.drop_zero, List.take_length]), rfl, fun x hx => by
    rw [List.mem_singleton] at hx
    subst hx
    exact hr⟩, rfl, Rd.blk hst h2 (Nat.le_refl _) (by decide) rfl rfl, rfl, by decide, by decide⟩
theorem recordKnown_law (w : World) : Calls Try.prog 4 #[] w fun e w' => e = .returned (.bool true) ∧ St w [] w' [] := by
  have hst0 := St.refl w
  go_enter Try.func4, Try.ntmps4
  (try simp only [List.append])
  go_wp2_with (first | go_big_skip | go_big_guard | (go_at_call 15; refine (bare_any _).mono ?_; rintro _ w9 ⟨h0, rfl, h4⟩; have hst1 := St.call hst0 h4; clear h4 hst0) | (go_at_call 16; refine (one_any _).mono ?_; rintro _ w9 ⟨g1, h1, rfl, h4⟩; have hst2 := St.call hst1 h4; clear h4 hst1) | (go_at_call 16; refine (one_any _).mono ?_; rintro _ w9 ⟨g2, h2, rfl, h4⟩; have hst3 := St.call hst2 h4; clear h4 hst2) | (go_at_call 16; refine (one_any _).mono ?_; rintro _ w9 ⟨g3, h3, rfl, h4⟩; have hst4 := St.call hst3 h4; clear h4 hst3) | (refine wl_alloc hst4 rfl rfl ?_; intro aa w1 hst5; clear hst4) | (refine wl_alloc hst5 rfl rfl ?_; intro ab w1 hst6; clear hst5) | (refine wl_alloc hst6 rfl rfl ?_; intro ac w1 hst7; clear hst6) | (refine wl_alloc hst7 rfl rfl ?_; intro ad w1 hst8; clear hst7) | (refine wl_storeA [_, _, _] hst8 rfl rfl rfl rfl (vs := (tabC bareT (.slice none 0 0) (.slice (some ⟨h0, 0, none⟩) 2 2))) rfl rfl rfl ?_; intro w7 hst9; clear hst8) | (refine wl_storeA [_, _] hst9 rfl rfl rfl rfl (vs := (tabC oneT (.slice (some ⟨g1, 0, none⟩) 1 1) (.slice (some ⟨h1, 0, none⟩) 2 2))) rfl rfl rfl ?_; intro w7 hst10; clear hst9) | (refine wl_storeA [_] hst10 rfl rfl rfl rfl (vs := (tabC oneT (.slice (some ⟨g2, 0, none⟩) 1 1) (.slice (some ⟨h2, 0, none⟩) 2 2))) rfl rfl rfl ?_; intro w7 hst11; clear hst10) | (refine wl_storeA [] hst11 rfl rfl rfl rfl (vs := (tabC oneT (.slice (some ⟨g3, 0, none⟩) 1 1) (.slice (some ⟨h3, 0, none⟩) 2 2))) rfl rfl rfl ?_; intro w7 hst12; clear hst11) | (refine wl_loadE rfl rfl rfl ?_; refine ⟨_, Loads.at [_, _, _] hst12 rfl, ?_⟩) | (refine wl_store [_, _, _] hst12 rfl rfl rfl (off := 6) (v := .slice (some ⟨h0, 0, none⟩) 1 2) rfl rfl rfl (by show (6 : Nat) + 1 ≤ 7; decide) ?_; intro w7 hst13; clear hst12) | (refine wl_store [_, _] hst13 rfl rfl rfl (off := 0) (v := .int .i64 1) rfl rfl rfl (by show (0 : Nat) + 1 ≤ 7; decide) ?_; intro w7 hst14; clear hst13) | (refine wl_loadE rfl rfl rfl ?_; refine ⟨_, Loads.at [_] hst14 rfl, ?_⟩) | (refine wl_store [_, _, _, _, _, _] hst14 rfl rfl rfl (off := 1) (v := .string ⟨#[65]⟩) rfl rfl rfl (by show (1 : Nat) + 1 ≤ 44; decide) ?_; intro w7 hst15; clear hst14) | (refine wl_loadE rfl rfl rfl ?_; refine ⟨_, Loads.at [] hst15 rfl, ?_⟩) | (refine wl_store [_, _, _, _] hst15 rfl rfl rfl (off := 3) (v := .int .i64 65) rfl rfl rfl (by show (3 : Nat) + 1 ≤ 44; decide) ?_; intro w7 hst16; clear hst15) | (go_at_call 15; refine (bare_any _).mono ?_; rintro _ w9 ⟨h5, rfl, h4⟩; have hst17 := St.call hst16 h4; clear h4 hst16) | (go_at_call 17; refine (bytes12_ok bareT none (some ⟨h5, 0, none⟩) 0 0 2 2 [] _ (bareIn hst17 (.head _)).R rfl (bareIn hst17 (.head _)).L rfl bare_ok).mono ?_; rintro _ w9 ⟨u, m, rfl, hm, h4⟩; rw [bare_bytes] at h4; obtain ⟨b1, c1, rfl, rfl, hc1, hc1', hr⟩ := bytes_form h4 (by decide); have hst18 := St.call hst17 h4; clear h4 hst17 hr hm) | (go_at_call 18; refine (copyBytes12_any _ 24 bareB _ (Rd.rowP hst18 (.head _)) (by decide)).mono ?_; rintro _ w9 ⟨u2, rfl, h4⟩; have hst19 := St.call hst18 h4; clear h4 hst18) | (apply wl_bsX [.int .u8 0] (bytesV [0]) hst19; rfl; rfl; exact rfl; exact rfl; infer_instance; infer_instance; rfl; rfl; rfl; intro gb w5 hst20; clear hst19) | (apply wl_appP (p := isB) [_] hst20; rfl; rfl; exact rfl; exact rfl; infer_instance; infer_instance; infer_instance; infer_instance; exact Rd.blk (off := 0) (n := 1) (c := 1) (xs := bytesV [0]) hst20 (.head _) (Nat.le_refl _) (by decide) rfl rfl; exact ones_bytesV [0]; rfl; exact isB_bytes [0]; (refine ⟨by decide, by decide, by decide⟩); intro v2 w2 hst21 hz2; clear hz2 hst20; have hst22 := St.sub hst21 (.cons _ (List.Sublist.refl _)); clear hst21; obtain ⟨b2, c2, e2, _, hc2, hc2', hr2⟩ := bytes_form (B := moreB) hst22 (by decide); subst e2; have hst23 := St.unP (L1 := [_]) hst22; clear hst22 hr2) | (refine wl_index (k := 0) rfl rfl rfl rfl (show 0 < bareB.length by decide) ?_) | (refine wl_storeRow1 [_] hst23 rfl rfl rfl rfl (off := 0 + 0 * 1) (v := .int .u8 255) rfl rfl (by decide) (by decide) ?_; intro w7 hst24; clear hst23) | (go_at_call 8; refine (awake12_any _).mono ?_; rintro _ w9 ⟨rfl, h4⟩; have hst25 := St.call0 hst24 h4; clear h4 hst24) | (refine wl_loadE rfl rfl rfl ?_; refine ⟨_, Loads.atA (tabC fewT (.slice none 0 0) (.slice (some ⟨h0, 0, none⟩) 1 2)) [_, _, _, _, _, _] hst25 rfl rfl, ?_⟩) | (go_at_call 19; refine (check12_any fewT none (some ⟨h0, 0, none⟩) 0 0 1 2 [] _ (fewIn hst25 (.tail _ (.tail _ (.tail _ (.tail _ (.tail _ (.tail _ (.tail _ (.tail _ (.tail _ (.tail _ (.tail _ (.tail _ (.tail _ (.head _))))))))))))))).R rfl (by decide) (fewIn hst25 (.tail _ (.tail _ (.tail _ (.tail _ (.tail _ (.tail _ (.tail _ (.tail _ (.tail _ (.tail _ (.tail _ (.tail _ (.tail _ (.head _))))))))))))))).L rfl (by decide)).mono ?_; rw [err_no few_no]; rintro _ w9 ⟨rfl, h4⟩; have hst26 := St.call0 hst25 h4; clear h4 hst25) | (refine wl_loadE rfl rfl rfl ?_; refine ⟨_, Loads.atA (tabC lowT (.slice (some ⟨g1, 0, none⟩) 1 1) (.slice (some ⟨h1, 0, none⟩) 2 2)) [_, _, _, _, _] hst26 rfl rfl, ?_⟩) | (go_at_call 19; refine (check12_any lowT (some ⟨g1, 0, none⟩) (some ⟨h1, 0, none⟩) 1 1 2 2 [(.slice none 0 0, oneR)] _ (recIn1 (r := oneR) (nx := 0) hst26 (oneIn _) rfl (.tail _ (.tail _ (.tail _ (.tail _ (.tail _ (.tail _ (.tail _ (.tail _ (.tail _ (.tail _ (.tail _ (.head _)))))))))))) (.tail _ (.tail _ (.tail _ (.tail _ (.tail _ (.tail _ (.tail _ (.tail _ (.tail _ (.tail _ (.tail _ (.tail _ (.head _)))))))))))))).R rfl (by decide) (recIn1 (r := oneR) (nx := 0) hst26 (oneIn _) rfl (.tail _ (.tail _ (.tail _ (.tail _ (.tail _ (.tail _ (.tail _ (.tail _ (.tail _ (.tail _ (.tail _ (.head _)))))))))))) (.tail _ (.tail _ (.tail _ (.tail _ (.tail _ (.tail _ (.tail _ (.tail _ (.tail _ (.tail _ (.tail _ (.tail _ (.head _)))))))))))))).L rfl (by decide)).mono ?_; rw [err_no low_no]; rintro _ w9 ⟨rfl, h4⟩; have hst27 := St.call0 hst26 h4; clear h4 hst26) | (refine wl_loadE rfl rfl rfl ?_; refine ⟨_, Loads.atA (tabC greatT (.slice (some ⟨g2, 0, none⟩) 1 1) (.slice (some ⟨h2, 0, none⟩) 2 2)) [_, _, _, _] hst27 rfl rfl, ?_⟩) | (go_at_call 19; refine (check12_any greatT (some ⟨g2, 0, none⟩) (some ⟨h2, 0, none⟩) 1 1 2 2 [(.slice none 0 0, greatR)] _ (recIn1 (r := greatR) (nx := 0) hst27 (greatIn _) rfl (.tail _ (.tail _ (.tail _ (.tail _ (.tail _ (.tail _ (.tail _ (.tail _ (.tail _ (.head _)))))))))) (.tail _ (.tail _ (.tail _ (.tail _ (.tail _ (.tail _ (.tail _ (.tail _ (.tail _ (.tail _ (.head _)))))))))))).R rfl (by decide) (recIn1 (r := greatR) (nx := 0) hst27 (greatIn _) rfl (.tail _ (.tail _ (.tail _ (.tail _ (.tail _ (.tail _ (.tail _ (.tail _ (.tail _ (.head _)))))))))) (.tail _ (.tail _ (.tail _ (.tail _ (.tail _ (.tail _ (.tail _ (.tail _ (.tail _ (.tail _ (.head _)))))))))))).L rfl (by decide)).mono ?_; rw [err_no great_no]; rintro _ w9 ⟨rfl, h4⟩; have hst28 := St.call0 hst27 h4; clear h4 hst27) | (refine wl_loadE rfl rfl rfl ?_; refine ⟨_, Loads.atA (tabC largeT (.slice (some ⟨g3, 0, none⟩) 1 1) (.slice (some ⟨h3, 0, none⟩) 2 2)) [_, _, _] hst28 rfl rfl, ?_⟩) | (go_at_call 19; refine (check12_any largeT (some ⟨g3, 0, none⟩) (some ⟨h3, 0, none⟩) 1 1 2 2 [(.slice none 0 0, largeR)] _ (recIn1 (r := largeR) (nx := 0) hst28 (largeIn _) rfl (.tail _ (.tail _ (.tail _ (.tail _ (.tail _ (.tail _ (.tail _ (.head _)))))))) (.tail _ (.tail _ (.tail _ (.tail _ (.tail _ (.tail _ (.tail _ (.tail _ (.head _)))))))))).R rfl (by decide) (recIn1 (r := largeR) (nx := 0) hst28 (largeIn _) rfl (.tail _ (.tail _ (.tail _ (.tail _ (.tail _ (.tail _ (.tail _ (.head _)))))))) (.tail _ (.tail _ (.tail _ (.tail _ (.tail _ (.tail _ (.tail _ (.tail _ (.head _)))))))))).L rfl (by decide)).mono ?_; rw [err_no large_no]; rintro _ w9 ⟨rfl, h4⟩; have hst29 := St.call0 hst28 h4; clear h4 hst28) | (go_at_call 20; refine (fails12_no (some ⟨b2, 0, none⟩) c2 moreB 4 24 _ (Rd.rowP hst29 (.head _)) (by decide) more_err.2.2).mono ?_; rw [show ((gErr moreB == 4) && (gAt moreB == 24)) = true by rw [more_err.1, more_err.2.1]; rfl]; rintro _ w9 ⟨rfl, h4⟩; have hst30 := St.call0 hst29 h4; clear h4 hst29) | (go_at_call 20; refine (fails12_no (some ⟨b1, 0, none⟩) c1 wildB 2 0 _ (Rd.row hst30 (.tail _ (.head _))) (by decide) wild_err.2.2).mono ?_; rw [show ((gErr wildB == 2) && (gAt wildB == 0)) = true by rw [wild_err.1, wild_err.2.1]; rfl]; rintro _ w9 ⟨rfl, h4⟩; have hst31 := St.call0 hst30 h4; clear h4 hst30))
  go_ret
  exact ⟨rfl, hst31.nil⟩
end Go.Proofs.Ytkpkaoiafppimaa
namespace Go.Proofs.Ytkpkaoiafppimaa
set_option linter.unusedVariables false
set_option linter.unusedSimpArgs false
open Go.RowKit Hp
attribute [local irreducible] Go.Calls Go.wpList
set_option maxRecDepth 100000
set_option maxHeartbeats 8000000
theorem bytes_24 {t : TC} (h : t.ok = true) : 24 ≤ t.bytes.length := by
  have hl : 2 ≤ t.lives.length := by
    unfold TC.ok at h
    simp only [Bool.and_eq_true] at h
    obtain ⟨⟨⟨⟨h1, _⟩, _⟩, _⟩, _⟩ := h
    unfold TC.sizeB inB at h1
    simp only [Bool.and_eq_true, decide_eq_true_eq] at h1
    omega
  have hf : ∀ l : List Int, (l.flatMap fun n => numB n 4).length = 4 * l.length := by
    intro l
    induction l with
    | nil => rfl
    | cons a l ih => rw [List.flatMap_cons, List.length_append, ih, length_numB, List.length_cons]; omega
  unfold TC.bytes
  simp only [List.length_append, length_numB, hf]
  omega
theorem gErr_ne {B : List UInt8} (h : gOK B = false) : gErr B ≠ 0 := by
  unfold gErr
  split
  · decide
  split
  · decide
  · rename_i h1 h2
    rw [if_neg ?_]
    · decide
    · intro h3
      have hp := tS9_le B
      have h4 : (tS9 B).pos = B.length := by omega
      have h5 : (tS9 B).short = false := by simpa using h1
      obtain ⟨h6, h7⟩ := Bool.and_eq_true_iff.1 h3
      unfold gOK at h
      rw [h5, h4, h6, h7] at h
      simp at h
theorem gAt_bd (B : List UInt8) : 0 ≤ gAt B ∧ gAt B ≤ B.length := by
  have hp := tS9_le B
  unfold gAt
  split
  · omega
  split
  · omega
  · omega
theorem tab_inT {t : TC} {B : List UInt8} (hT : tabG false B = t) {w0 w : World} {M : List Nat} {L : List HA} {rT iT E : TypeId} {ro lo : Option Addr} {rc lc : Nat} {xs : List (Value × RC)} (hst : St w0 M w L) (h1 : HA.row (.slice ro t.recs.length rc) rT 44 t.recs.length (recsV xs) ∈ L) (h2 : HA.row (.slice lo t.lives.length lc) iT 1 t.lives.length (numsV t.lives) ∈ L)
    (hx : xs.map (·.2) = t.recs) (hm : ∀ x ∈ xs, HA.row x.1 E 2 x.2.l.length (addrsV x.2.l) ∈ L) : TabIn w t ro t.recs.length rc lo t.lives.length lc xs := by
  subst hT
  exact tab_in hst h1 h2 hx hm
theorem fails12_cut {t : TC} (h : t.ok = true) (hS : ∀ r ∈ t.recs, L32 r.S) (ao : Option Addr) (c k : Nat) (w : World) (hk : k < t.bytes.length) (hn : t.bytes.length ≤ 100000) (hB : Rd w (.slice ao t.bytes.length c) 1 t.bytes.length (bytesV t.bytes)) :
    Calls Try.prog 20 #[.slice ao k c, .int .i64 4, .int .i64 (k : Int)] w fun e w' => e = .returned (.bool true) ∧ St w [] w' [] := by
  obtain ⟨e1, e2, e3⟩ := cut_err h hS hk
  have hl : (t.bytes.take k).length = k := by rw [List.length_take]; omega
  have h2 := fails12_no ao c (t.bytes.take k) 4 k w (by rw [hl]; exact Rd.takeN hB (by omega)) (by omega) e3
  rw [e1, e2, hl, show (((4 : Int) == 4) && ((k : Int) == (k : Int))) = true by simp] at h2
  exact h2
theorem read12_yes {t : TC} {B : List UInt8} (h : gOK B = true) (hT : tabG false B = t) (ao : Option Addr) (c : Nat) (w : World) (hB : Rd w (.slice ao B.length c) 1 B.length (bytesV B)) (hN : B.length ≤ 100000) :
    Calls Try.prog 10 #[.slice ao B.length c] w fun e w' => ∃ rv lv xs, e = .returned (.tuple #[.agg (tabC t rv lv).toArray, .agg #[.int .i64 0, .int .i64 0]]) ∧ xs.map (·.2) = t.recs ∧ St w [] w' (.row rv 47 44 t.recs.length (recsV xs) :: .row lv 3 1 t.lives.length (numsV t.lives) :: rootRows 98 xs) := by
  refine (read12_any ao c B w hB hN).mono ?_
  intro e w' hr
  unfold tabOut at hr
  rw [if_pos h, hT] at hr
  exact hr
theorem back12_long (t : TC) (ar al : Option Addr) (nr cr nl cl : Nat) (xs : List (Value × RC)) (ao : Option Addr) (c : Nat) (B : List UInt8) (z : Int) (w : World) (HT : Hid (TabAny w t ar nr cr al nl cl xs)) (HB : Hid (Rd w (.slice ao B.length c) 1 B.length (bytesV B))) (hbd : B.length ≤ c) (hbd2 : c ≤ 9223372036854775807) (hz : -9223372036854775808 ≤ z ∧ z ≤ 9223372036854775807) (H1 : Hid (t.longB = true)) : Calls Try.prog 6 #[.agg (tabC t (.slice ar nr cr) (.slice al nl cl)).toArray, .slice ao B.length c, .int .i64 z] w fun e w' => e = .returned (.bool true) ∧ St w [] w' [] := by
  have hst0 := St.refl w
  go_enter Try.func6, Try.ntmps6
  go_wp2_with (first | go_big_skip | go_big_guard | (refine wl_boxA hst0 rfl rfl rfl ?_; intro g3 w1 hst1; clear hst0) | (go_at_call 4; refine (recordKnown_law _).mono ?_; rintro _ w9 ⟨rfl, h4⟩; have hst2 := St.call0 hst1 h4; clear h4 hst1) | (refine wl_loadE rfl rfl rfl ?_; refine ⟨_, Loads.atA (tabC t (.slice ar nr cr) (.slice al nl cl)) [] hst2 rfl rfl, ?_⟩) | (go_at_call 21; refine (longTable_any t ar al nr cr nl cl xs _ (HT.out.old hst2.nil)).mono ?_; rw [H1.out]; rintro _ w9 ⟨rfl, h4⟩; have hst3 := St.call0 hst2 h4; clear h4 hst2))
  go_ret
  exact ⟨rfl, hst3.nil⟩
theorem back12_big (t : TC) (ar al : Option Addr) (nr cr nl cl : Nat) (xs : List (Value × RC)) (ao : Option Addr) (c : Nat) (B : List UInt8) (z : Int) (w : World) (HT : Hid (TabAny w t ar nr cr al nl cl xs)) (HB : Hid (Rd w (.slice ao B.length c) 1 B.length (bytesV B))) (hbd : B.length ≤ c) (hbd2 : c ≤ 9223372036854775807) (hz : -9223372036854775808 ≤ z ∧ z ≤ 9223372036854775807) (H1 : Hid (t.longB = false)) (h5 : 5000 < B.length) : Calls Try.prog 6 #[.agg (tabC t (.slice ar nr cr) (.slice al nl cl)).toArray, .slice ao B.length c, .int .i64 z] w fun e w' => e = .returned (.bool true) ∧ St w [] w' [] := by
  have hst0 := St.refl w
  have d1 : decide ((B.length : Int) > 5000) = true := decide_eq_true (by omega)
  have d1' : decide ((5000 : Int) < (B.length : Int)) = true := d1
  go_enter Try.func6, Try.ntmps6
  go_wp2_with (first | go_big_skip | go_big_guard | (refine wl_boxA hst0 rfl rfl rfl ?_; intro g3 w1 hst1; clear hst0) | (go_at_call 4; refine (recordKnown_law _).mono ?_; rintro _ w9 ⟨rfl, h4⟩; have hst2 := St.call0 hst1 h4; clear h4 hst1) | (refine wl_loadE rfl rfl rfl ?_; refine ⟨_, Loads.atA (tabC t (.slice ar nr cr) (.slice al nl cl)) [] hst2 rfl rfl, ?_⟩) | (go_at_call 21; refine (longTable_any t ar al nr cr nl cl xs _ (HT.out.old hst2.nil)).mono ?_; rw [H1.out]; rintro _ w9 ⟨rfl, h4⟩; have hst3 := St.call0 hst2 h4; clear h4 hst2))
  go_ret
  exact ⟨rfl, hst3.nil⟩
theorem back12_nn (t : TC) (ar al : Option Addr) (nr cr nl cl : Nat) (xs : List (Value × RC)) (ao : Option Addr) (c : Nat) (B : List UInt8) (z : Int) (w : World) (HT : Hid (TabAny w t ar nr cr al nl cl xs)) (HB : Hid (Rd w (.slice ao B.length c) 1 B.length (bytesV B))) (hbd : B.length ≤ c) (hbd2 : c ≤ 9223372036854775807) (hz : -9223372036854775808 ≤ z ∧ z ≤ 9223372036854775807) (H1 : Hid (t.longB = false)) (h5 : ¬ 5000 < B.length) (HOK : Hid (t.ok = false)) (HG : Hid (gOK B = false)) : Calls Try.prog 6 #[.agg (tabC t (.slice ar nr cr) (.slice al nl cl)).toArray, .slice ao B.length c, .int .i64 z] w fun e w' => e = .returned (.bool true) ∧ St w [] w' [] := by
  have hst0 := St.refl w
  have d1 : decide ((B.length : Int) > 5000) = false := decide_eq_false (by omega)
  have d1' : decide ((5000 : Int) < (B.length : Int)) = false := d1
  have hlt := TC.long_no H1.out
  have hti := HT.out.tab H1.out
  have HTI := hid hti
  have hnr : nr ≤ 20 := by rw [← HT.out.len]; exact hlt.1
  have hnl : nl ≤ 20 := by rw [← HT.out.ln]; exact hlt.2.1
  have STT := hid (show t.sameB t = true from TC.sameB_iff.2 rfl)
  have S5 := hid (show (B == B) = true from beq_self_eq_true _)
  have hS : ∀ r ∈ t.recs, L32 r.S := fun r hr => by
    rw [← hti.eq] at hr
    obtain ⟨x, hx, rfl⟩ := List.mem_map.1 hr
    exact (hti.R.each x hx).L
  have HS := hid hS
  have HLR := hid (show (tabG false B).recs.length < 256 from (by rw [show (tabG false B).recs.length = tMany B from length_rcsG _ _ _ _]; exact numG1_lt B _))
  have HLL := hid (show (tabG false B).lives.length < 256 from (by rw [show (tabG false B).lives.length = tLives B from length_lvsG _ _ _]; exact numG1_lt B _))
  have s1 : (gErr B != 0) = true := by simpa using gErr_ne HG.out
  have s2 : decide (gAt B ≥ 0) = true := decide_eq_true (gAt_bd B).1
  have s2' : decide (0 ≤ gAt B) = true := s2
  have s3 : decide (gAt B ≤ (B.length : Int)) = true := decide_eq_true (gAt_bd B).2
  clear hlt hti hS
  go_enter Try.func6, Try.ntmps6
  go_wp2_with (first | go_big_skip | go_big_guard | (refine wl_boxA hst0 rfl rfl rfl ?_; intro g3 w1 hst1; clear hst0) | (go_at_call 4; refine (recordKnown_law _).mono ?_; rintro _ w9 ⟨rfl, h4⟩; have hst2 := St.call0 hst1 h4; clear h4 hst1) | (refine wl_loadE rfl rfl rfl ?_; refine ⟨_, Loads.atA (tabC t (.slice ar nr cr) (.slice al nl cl)) [] hst2 rfl rfl, ?_⟩) | (go_at_call 21; refine (longTable_any t ar al nr cr nl cl xs _ (HT.out.old hst2.nil)).mono ?_; rw [H1.out]; rintro _ w9 ⟨rfl, h4⟩; have hst3 := St.call0 hst2 h4; clear h4 hst2) | (refine wl_loadE rfl rfl rfl ?_; refine ⟨_, Loads.atA (tabC t (.slice ar nr cr) (.slice al nl cl)) [] hst3 rfl rfl, ?_⟩) | (go_at_call 17; refine (bytes12_no t ar al nr cr nl cl xs _ (HTI.out.old hst3.nil).R HTI.out.eq (by omega) (HTI.out.old hst3.nil).L HTI.out.ln (by omega) HOK.out).mono ?_; rintro _ w9 ⟨rfl, h4⟩; have hst4 := St.call0 hst3 h4; clear h4 hst3) | (refine wl_loadE rfl rfl rfl ?_; refine ⟨_, Loads.atA (tabC t (.slice ar nr cr) (.slice al nl cl)) [] hst4 rfl rfl, ?_⟩) | (go_at_call 19; refine (check12_any t ar al nr cr nl cl xs _ (HTI.out.old hst4.nil).R HTI.out.eq (by omega) (HTI.out.old hst4.nil).L HTI.out.ln (by omega)).mono ?_; rw [err_no HOK.out]; rintro _ w9 ⟨rfl, h4⟩; have hst5 := St.call0 hst4 h4; clear h4 hst4) | (go_at_call 10; refine (read12_any ao c B _ (Rd.old hst5 HB.out) (by omega)).mono ?_; intro e9 w9 hr; unfold tabOut at hr; rw [if_neg (by rw [HG.out]; decide)] at hr; obtain ⟨rfl, h4⟩ := hr; have hst6 := (St.call0 hst5 h4).nil; clear h4 hst5) | (refine wl_alloc hst6 rfl rfl ?_; intro g12 w1 hst7; clear hst6) | (refine wl_alloc hst7 rfl rfl ?_; intro g13 w1 hst8; clear hst7) | (refine wl_storeA [_] hst8 rfl rfl rfl rfl (vs := tab0) rfl rfl rfl ?_; intro w7 hst9; clear hst8) | (refine wl_storeA [] hst9 rfl rfl rfl rfl (vs := [.int .i64 (gErr B), .int .i64 (gAt B)]) rfl rfl rfl ?_; intro w7 hst10; clear hst9) | (refine wl_loadE rfl rfl rfl ?_; refine ⟨_, Loads.at [] hst10 rfl, ?_⟩))
  go_ret
  exact ⟨rfl, hst10.nil⟩
theorem back12_ny (t : TC) (ar al : Option Addr) (nr cr nl cl : Nat) (xs : List (Value × RC)) (ao : Option Addr) (c : Nat) (B : List UInt8) (z : Int) (w : World) (HT : Hid (TabAny w t ar nr cr al nl cl xs)) (HB : Hid (Rd w (.slice ao B.length c) 1 B.length (bytesV B))) (hbd : B.length ≤ c) (hbd2 : c ≤ 9223372036854775807) (hz : -9223372036854775808 ≤ z ∧ z ≤ 9223372036854775807) (H1 : Hid (t.longB = false)) (h5 : ¬ 5000 < B.length) (HOK : Hid (t.ok = false)) (HG : Hid (gOK B = true)) : Calls Try.prog 6 #[.agg (tabC t (.slice ar nr cr) (.slice al nl cl)).toArray, .slice ao B.length c, .int .i64 z] w fun e w' => e = .returned (.bool true) ∧ St w [] w' [] := by
  have hst0 := St.refl w
  have d1 : decide ((B.length : Int) > 5000) = false := decide_eq_false (by omega)
  have d1' : decide ((5000 : Int) < (B.length : Int)) = false := d1
  have hlt := TC.long_no H1.out
  have hti := HT.out.tab H1.out
  have HTI := hid hti
  have hnr : nr ≤ 20 := by rw [← HT.out.len]; exact hlt.1
  have hnl : nl ≤ 20 := by rw [← HT.out.ln]; exact hlt.2.1
  have STT := hid (show t.sameB t = true from TC.sameB_iff.2 rfl)
  have S5 := hid (show (B == B) = true from beq_self_eq_true _)
  have hS : ∀ r ∈ t.recs, L32 r.S := fun r hr => by
    rw [← hti.eq] at hr
    obtain ⟨x, hx, rfl⟩ := List.mem_map.1 hr
    exact (hti.R.each x hx).L
  have HS := hid hS
  have HLR := hid (show (tabG false B).recs.length < 256 from (by rw [show (tabG false B).recs.length = tMany B from length_rcsG _ _ _ _]; exact numG1_lt B _))
  have HLL := hid (show (tabG false B).lives.length < 256 from (by rw [show (tabG false B).lives.length = tLives B from length_lvsG _ _ _]; exact numG1_lt B _))
  have HGB := hid (gOK_bytes HG.out)
  clear hlt hti hS
  go_enter Try.func6, Try.ntmps6
  go_wp2_with (first | go_big_skip | go_big_guard | (refine wl_boxA hst0 rfl rfl rfl ?_; intro g3 w1 hst1; clear hst0) | (go_at_call 4; refine (recordKnown_law _).mono ?_; rintro _ w9 ⟨rfl, h4⟩; have hst2 := St.call0 hst1 h4; clear h4 hst1) | (refine wl_loadE rfl rfl rfl ?_; refine ⟨_, Loads.atA (tabC t (.slice ar nr cr) (.slice al nl cl)) [] hst2 rfl rfl, ?_⟩) | (go_at_call 21; refine (longTable_any t ar al nr cr nl cl xs _ (HT.out.old hst2.nil)).mono ?_; rw [H1.out]; rintro _ w9 ⟨rfl, h4⟩; have hst3 := St.call0 hst2 h4; clear h4 hst2) | (refine wl_loadE rfl rfl rfl ?_; refine ⟨_, Loads.atA (tabC t (.slice ar nr cr) (.slice al nl cl)) [] hst3 rfl rfl, ?_⟩) | (go_at_call 17; refine (bytes12_no t ar al nr cr nl cl xs _ (HTI.out.old hst3.nil).R HTI.out.eq (by omega) (HTI.out.old hst3.nil).L HTI.out.ln (by omega) HOK.out).mono ?_; rintro _ w9 ⟨rfl, h4⟩; have hst4 := St.call0 hst3 h4; clear h4 hst3) | (refine wl_loadE rfl rfl rfl ?_; refine ⟨_, Loads.atA (tabC t (.slice ar nr cr) (.slice al nl cl)) [] hst4 rfl rfl, ?_⟩) | (go_at_call 19; refine (check12_any t ar al nr cr nl cl xs _ (HTI.out.old hst4.nil).R HTI.out.eq (by omega) (HTI.out.old hst4.nil).L HTI.out.ln (by omega)).mono ?_; rw [err_no HOK.out]; rintro _ w9 ⟨rfl, h4⟩; have hst5 := St.call0 hst4 h4; clear h4 hst4) | (go_at_call 10; refine (read12_any ao c B _ (Rd.old hst5 HB.out) (by omega)).mono ?_; intro e9 w9 hr; unfold tabOut at hr; rw [if_pos HG.out] at hr; obtain ⟨rv, lv, xs2, rfl, hx2, h4⟩ := hr; obtain ⟨r2, rc2, rfl, _, _⟩ := row_slice [] h4; obtain ⟨l2, lc2, rfl, _, _⟩ := row_slice [_] h4; have HX2 := hid hx2; have hst6 : St w [] w9 (.row (.slice r2 (tabG false B).recs.length rc2) 47 44 (tabG false B).recs.length (recsV xs2) :: .row (.slice l2 (tabG false B).lives.length lc2) 3 1 (tabG false B).lives.length (numsV (tabG false B).lives) :: rootRows 98 xs2) := (by have h5 := St.call hst5.nil h4; rw [List.append_nil] at h5; exact h5); clear h4 hx2 hst5) | (refine wl_alloc hst6 rfl rfl ?_; intro g12 w1 hst7; clear hst6) | (refine wl_alloc hst7 rfl rfl ?_; intro g13 w1 hst8; clear hst7) | (refine wl_storeA [_] hst8 rfl rfl rfl rfl (vs := (tabC (tabG false B) (.slice r2 (tabG false B).recs.length rc2) (.slice l2 (tabG false B).lives.length lc2))) rfl rfl rfl ?_; intro w7 hst9; clear hst8) | (refine wl_storeA [] hst9 rfl rfl rfl rfl (vs := [.int .i64 0, .int .i64 0]) rfl rfl rfl ?_; intro w7 hst10; clear hst9) | (refine wl_loadE rfl rfl rfl ?_; refine ⟨_, Loads.at [] hst10 rfl, ?_⟩) | (refine wl_loadE rfl rfl rfl ?_; refine ⟨_, Loads.atA (tabC (tabG false B) (.slice r2 (tabG false B).recs.length rc2) (.slice l2 (tabG false B).lives.length lc2)) [_] hst10 rfl rfl, ?_⟩) | (go_at_call 17; refine (bytes12_ok (tabG false B) r2 l2 _ rc2 _ lc2 xs2 _ (tab_in (rT := 47) (iT := 3) (E := 98) hst10 (.tail _ (.tail _ (.head _))) (.tail _ (.tail _ (.tail _ (.head _)))) HX2.out (fun x hx => (.tail _ (.tail _ (.tail _ (.tail _ (rootRows_mem hx))))))).R HX2.out (tab_in (rT := 47) (iT := 3) (E := 98) hst10 (.tail _ (.tail _ (.head _))) (.tail _ (.tail _ (.tail _ (.head _)))) HX2.out (fun x hx => (.tail _ (.tail _ (.tail _ (.tail _ (rootRows_mem hx))))))).L rfl HGB.out.2).mono ?_; rintro _ w9 ⟨u8, m8, rfl, hm8, h4⟩; rw [HGB.out.1] at h4; have hst11 := St.call hst10 h4; clear h4 hst10) | (refine wl_loadE rfl rfl rfl ?_; refine ⟨_, Loads.atA (tabC (tabG false B) (.slice r2 (tabG false B).recs.length rc2) (.slice l2 (tabG false B).lives.length lc2)) [_, _] hst11 rfl rfl, ?_⟩) | (go_at_call 19; refine (check12_any (tabG false B) r2 l2 _ rc2 _ lc2 xs2 _ (tab_in (rT := 47) (iT := 3) (E := 98) hst11 (.tail _ (.tail _ (.tail _ (.head _)))) (.tail _ (.tail _ (.tail _ (.tail _ (.head _))))) HX2.out (fun x hx => (.tail _ (.tail _ (.tail _ (.tail _ (.tail _ (rootRows_mem hx)))))))).R HX2.out (by have := HLR.out; omega) (tab_in (rT := 47) (iT := 3) (E := 98) hst11 (.tail _ (.tail _ (.tail _ (.head _)))) (.tail _ (.tail _ (.tail _ (.tail _ (.head _))))) HX2.out (fun x hx => (.tail _ (.tail _ (.tail _ (.tail _ (.tail _ (rootRows_mem hx)))))))).L rfl (by have := HLL.out; omega)).mono ?_; rw [err_yes HGB.out.2]; rintro _ w9 ⟨rfl, h4⟩; have hst12 := St.call0 hst11 h4; clear h4 hst11) | (go_at_call 26; refine (sameBytes_any u8 (.slice ao B.length c) m8 B.length B B _ (Rd.rowP hst12 (.head _)) (Rd.old hst12 HB.out)).mono ?_; rw [S5.out]; rintro _ w9 ⟨rfl, h4⟩; have hst13 := St.call0 hst12 h4; clear h4 hst12))
  go_ret
  exact ⟨rfl, hst13.nil⟩
theorem back12_yn (t : TC) (ar al : Option Addr) (nr cr nl cl : Nat) (xs : List (Value × RC)) (ao : Option Addr) (c : Nat) (B : List UInt8) (z : Int) (w : World) (HT : Hid (TabAny w t ar nr cr al nl cl xs)) (HB : Hid (Rd w (.slice ao B.length c) 1 B.length (bytesV B))) (hbd : B.length ≤ c) (hbd2 : c ≤ 9223372036854775807) (hz : -9223372036854775808 ≤ z ∧ z ≤ 9223372036854775807) (H1 : Hid (t.longB = false)) (h5 : ¬ 5000 < B.length) (HOK : Hid (t.ok = true)) (HG : Hid (gOK B = false)) : Calls Try.prog 6 #[.agg (tabC t (.slice ar nr cr) (.slice al nl cl)).toArray, .slice ao B.length c, .int .i64 z] w fun e w' => e = .returned (.bool true) ∧ St w [] w' [] := by
  have hst0 := St.refl w
  have d1 : decide ((B.length : Int) > 5000) = false := decide_eq_false (by omega)
  have d1' : decide ((5000 : Int) < (B.length : Int)) = false := d1
  have hlt := TC.long_no H1.out
  have hti := HT.out.tab H1.out
  have HTI := hid hti
  have hnr : nr ≤ 20 := by rw [← HT.out.len]; exact hlt.1
  have hnl : nl ≤ 20 := by rw [← HT.out.ln]; exact hlt.2.1
  have STT := hid (show t.sameB t = true from TC.sameB_iff.2 rfl)
  have S5 := hid (show (B == B) = true from beq_self_eq_true _)
  have hS : ∀ r ∈ t.recs, L32 r.S := fun r hr => by
    rw [← hti.eq] at hr
    obtain ⟨x, hx, rfl⟩ := List.mem_map.1 hr
    exact (hti.R.each x hx).L
  have HS := hid hS
  have HLR := hid (show (tabG false B).recs.length < 256 from (by rw [show (tabG false B).recs.length = tMany B from length_rcsG _ _ _ _]; exact numG1_lt B _))
  have HLL := hid (show (tabG false B).lives.length < 256 from (by rw [show (tabG false B).lives.length = tLives B from length_lvsG _ _ _]; exact numG1_lt B _))
  have h24 := bytes_24 HOK.out
  have H24 := hid h24
  have HGT := hid (back_ok HOK.out hS).1
  have HTB := hid (back_ok HOK.out hS).2
  have d3 : decide ((t.bytes.length : Int) < 24) = false := decide_eq_false (by omega)
  obtain ⟨k, hk, ek⟩ := pickI_nat (x := z) (n := t.bytes.length) (by omega)
  have EK := hid ek
  clear ek
  have s1 : (gErr B != 0) = true := by simpa using gErr_ne HG.out
  have s2 : decide (gAt B ≥ 0) = true := decide_eq_true (gAt_bd B).1
  have s2' : decide (0 ≤ gAt B) = true := s2
  have s3 : decide (gAt B ≤ (B.length : Int)) = true := decide_eq_true (gAt_bd B).2
  clear hlt hti hS
  go_enter Try.func6, Try.ntmps6
  go_wp2_with (first | go_big_skip | go_big_guard | (refine wl_boxA hst0 rfl rfl rfl ?_; intro g3 w1 hst1; clear hst0) | (go_at_call 4; refine (recordKnown_law _).mono ?_; rintro _ w9 ⟨rfl, h4⟩; have hst2 := St.call0 hst1 h4; clear h4 hst1) | (refine wl_loadE rfl rfl rfl ?_; refine ⟨_, Loads.atA (tabC t (.slice ar nr cr) (.slice al nl cl)) [] hst2 rfl rfl, ?_⟩) | (go_at_call 21; refine (longTable_any t ar al nr cr nl cl xs _ (HT.out.old hst2.nil)).mono ?_; rw [H1.out]; rintro _ w9 ⟨rfl, h4⟩; have hst3 := St.call0 hst2 h4; clear h4 hst2) | (refine wl_loadE rfl rfl rfl ?_; refine ⟨_, Loads.atA (tabC t (.slice ar nr cr) (.slice al nl cl)) [] hst3 rfl rfl, ?_⟩) | (go_at_call 17; refine (bytes12_ok t ar al nr cr nl cl xs _ (HTI.out.old hst3.nil).R HTI.out.eq (HTI.out.old hst3.nil).L HTI.out.ln HOK.out).mono ?_; rintro _ w9 ⟨u, m, rfl, hm, h4⟩; obtain ⟨b1, c1, rfl, rfl, hc1, hc1', hr⟩ := bytes_form h4 (by have := H24.out; omega); clear hr; have hst4 := St.call hst3 h4; clear h4 hst3) | (refine wl_loadE rfl rfl rfl ?_; refine ⟨_, Loads.atA (tabC t (.slice ar nr cr) (.slice al nl cl)) [_] hst4 rfl rfl, ?_⟩) | (go_at_call 19; refine (check12_any t ar al nr cr nl cl xs _ (HTI.out.old hst4.nil).R HTI.out.eq (by omega) (HTI.out.old hst4.nil).L HTI.out.ln (by omega)).mono ?_; rw [err_yes HOK.out]; rintro _ w9 ⟨rfl, h4⟩; have hst5 := St.call0 hst4 h4; clear h4 hst4) | (go_at_call 10; refine (read12_yes HGT.out HTB.out (some ⟨b1, 0, none⟩) c1 _ (Rd.rowP hst5 (.head _)) (by omega)).mono ?_; rintro _ w9 ⟨rv, lv, xs1, rfl, hx1, h4⟩; obtain ⟨r1, rc1, rfl, _, _⟩ := row_slice [] h4; obtain ⟨l1, lc1, rfl, _, _⟩ := row_slice [_] h4; have HX1 := hid hx1; have hst6 : St w [] w9 (.rowP isB (.slice (some ⟨b1, 0, none⟩) t.bytes.length c1) 5 1 t.bytes.length (bytesV t.bytes) :: .blk g3 30 (tabC t (.slice ar nr cr) (.slice al nl cl)) :: .row (.slice r1 t.recs.length rc1) 47 44 t.recs.length (recsV xs1) :: .row (.slice l1 t.lives.length lc1) 3 1 t.lives.length (numsV t.lives) :: rootRows 98 xs1) := St.perm (St.call hst5 h4) List.perm_append_comm; clear h4 hx1 hst5) | (refine wl_alloc hst6 rfl rfl ?_; intro g10 w1 hst7; clear hst6) | (refine wl_alloc hst7 rfl rfl ?_; intro g11 w1 hst8; clear hst7) | (refine wl_storeA [_] hst8 rfl rfl rfl rfl (vs := (tabC t (.slice r1 t.recs.length rc1) (.slice l1 t.lives.length lc1))) rfl rfl rfl ?_; intro w7 hst9; clear hst8) | (refine wl_storeA [] hst9 rfl rfl rfl rfl (vs := [.int .i64 0, .int .i64 0]) rfl rfl rfl ?_; intro w7 hst10; clear hst9) | (refine wl_loadE rfl rfl rfl ?_; refine ⟨_, Loads.at [] hst10 rfl, ?_⟩) | (refine wl_loadE rfl rfl rfl ?_; refine ⟨_, Loads.atA (tabC t (.slice r1 t.recs.length rc1) (.slice l1 t.lives.length lc1)) [_] hst10 rfl rfl, ?_⟩) | (refine wl_loadE rfl rfl rfl ?_; refine ⟨_, Loads.atA (tabC t (.slice ar nr cr) (.slice al nl cl)) [_, _, _] hst10 rfl rfl, ?_⟩) | (go_at_call 12; refine (kitTable_any t t r1 l1 ar al _ rc1 _ lc1 nr cr nl cl xs1 xs _ (tab_inT (rT := 47) (iT := 3) (E := 98) HTB.out hst10 (.tail _ (.tail _ (.tail _ (.tail _ (.head _))))) (.tail _ (.tail _ (.tail _ (.tail _ (.tail _ (.head _)))))) HX1.out (fun x hx => (.tail _ (.tail _ (.tail _ (.tail _ (.tail _ (.tail _ (rootRows_mem hx))))))))) (HTI.out.old hst10.nil)).mono ?_; rw [STT.out]; rintro _ w9 ⟨rfl, h4⟩; have hst11 := St.call0 hst10 h4; clear h4 hst10) | (refine wl_loadE rfl rfl rfl ?_; refine ⟨_, Loads.atA (tabC t (.slice r1 t.recs.length rc1) (.slice l1 t.lives.length lc1)) [_] hst11 rfl rfl, ?_⟩) | (refine wl_loadE rfl rfl rfl ?_; refine ⟨_, Loads.atA (tabC t (.slice ar nr cr) (.slice al nl cl)) [_, _, _] hst11 rfl rfl, ?_⟩) | (go_at_call 28; refine (same12_any t t r1 l1 ar al _ rc1 _ lc1 nr cr nl cl xs1 xs _ (tab_inT (rT := 47) (iT := 3) (E := 98) HTB.out hst11 (.tail _ (.tail _ (.tail _ (.tail _ (.head _))))) (.tail _ (.tail _ (.tail _ (.tail _ (.tail _ (.head _)))))) HX1.out (fun x hx => (.tail _ (.tail _ (.tail _ (.tail _ (.tail _ (.tail _ (rootRows_mem hx))))))))) (HTI.out.old hst11.nil)).mono ?_; rw [STT.out]; rintro _ w9 ⟨rfl, h4⟩; have hst12 := St.call0 hst11 h4; clear h4 hst11) | (go_at_call 31; refine (pick_spec z t.bytes.length _ hz ⟨by omega, by omega⟩).mono ?_; rw [EK.out]; rintro _ w9 ⟨rfl, h4⟩; have hst13 := St.call0 hst12 h4; clear h4 hst12) | (go_at_call 20; refine (fails12_cut HOK.out HS.out (some ⟨b1, 0, none⟩) c1 k _ hk (by omega) (Rd.rowP hst13 (.tail _ (.tail _ (.head _))))).mono ?_; rintro _ w9 ⟨rfl, h4⟩; have hst14 := St.call0 hst13 h4; clear h4 hst13) | (go_at_call 10; refine (read12_any ao c B _ (Rd.old hst14 HB.out) (by omega)).mono ?_; intro e9 w9 hr; unfold tabOut at hr; rw [if_neg (by rw [HG.out]; decide)] at hr; obtain ⟨rfl, h4⟩ := hr; have hst15 := (St.call0 hst14 h4).nil; clear h4 hst14) | (refine wl_alloc hst15 rfl rfl ?_; intro g12 w1 hst16; clear hst15) | (refine wl_alloc hst16 rfl rfl ?_; intro g13 w1 hst17; clear hst16) | (refine wl_storeA [_] hst17 rfl rfl rfl rfl (vs := tab0) rfl rfl rfl ?_; intro w7 hst18; clear hst17) | (refine wl_storeA [] hst18 rfl rfl rfl rfl (vs := [.int .i64 (gErr B), .int .i64 (gAt B)]) rfl rfl rfl ?_; intro w7 hst19; clear hst18) | (refine wl_loadE rfl rfl rfl ?_; refine ⟨_, Loads.at [] hst19 rfl, ?_⟩))
  go_ret
  exact ⟨rfl, hst19.nil⟩
theorem back12_yy (t : TC) (ar al : Option Addr) (nr cr nl cl : Nat) (xs : List (Value × RC)) (ao : Option Addr) (c : Nat) (B : List UInt8) (z : Int) (w : World) (HT : Hid (TabAny w t ar nr cr al nl cl xs)) (HB : Hid (Rd w (.slice ao B.length c) 1 B.length (bytesV B))) (hbd : B.length ≤ c) (hbd2 : c ≤ 9223372036854775807) (hz : -9223372036854775808 ≤ z ∧ z ≤ 9223372036854775807) (H1 : Hid (t.longB = false)) (h5 : ¬ 5000 < B.length) (HOK : Hid (t.ok = true)) (HG : Hid (gOK B = true)) : Calls Try.prog 6 #[.agg (tabC t (.slice ar nr cr) (.slice al nl cl)).toArray, .slice ao B.length c, .int .i64 z] w fun e w' => e = .returned (.bool true) ∧ St w [] w' [] := by
  have hst0 := St.refl w
  have d1 : decide ((B.length : Int) > 5000) = false := decide_eq_false (by omega)
  have d1' : decide ((5000 : Int) < (B.length : Int)) = false := d1
  have hlt := TC.long_no H1.out
  have hti := HT.out.tab H1.out
  have HTI := hid hti
  have hnr : nr ≤ 20 := by rw [← HT.out.len]; exact hlt.1
  have hnl : nl ≤ 20 := by rw [← HT.out.ln]; exact hlt.2.1
  have STT := hid (show t.sameB t = true from TC.sameB_iff.2 rfl)
  have S5 := hid (show (B == B) = true from beq_self_eq_true _)
  have hS : ∀ r ∈ t.recs, L32 r.S := fun r hr => by
    rw [← hti.eq] at hr
    obtain ⟨x, hx, rfl⟩ := List.mem_map.1 hr
    exact (hti.R.each x hx).L
  have HS := hid hS
  have HLR := hid (show (tabG false B).recs.length < 256 from (by rw [show (tabG false B).recs.length = tMany B from length_rcsG _ _ _ _]; exact numG1_lt B _))
  have HLL := hid (show (tabG false B).lives.length < 256 from (by rw [show (tabG false B).lives.length = tLives B from length_lvsG _ _ _]; exact numG1_lt B _))
  have h24 := bytes_24 HOK.out
  have H24 := hid h24
  have HGT := hid (back_ok HOK.out hS).1
  have HTB := hid (back_ok HOK.out hS).2
  have d3 : decide ((t.bytes.length : Int) < 24) = false := decide_eq_false (by omega)
  obtain ⟨k, hk, ek⟩ := pickI_nat (x := z) (n := t.bytes.length) (by omega)
  have EK := hid ek
  clear ek
  have HGB := hid (gOK_bytes HG.out)
  clear hlt hti hS
  go_enter Try.func6, Try.ntmps6
  go_wp2_with (first | go_big_skip | go_big_guard | (refine wl_boxA hst0 rfl rfl rfl ?_; intro g3 w1 hst1; clear hst0) | (go_at_call 4; refine (recordKnown_law _).mono ?_; rintro _ w9 ⟨rfl, h4⟩; have hst2 := St.call0 hst1 h4; clear h4 hst1) | (refine wl_loadE rfl rfl rfl ?_; refine ⟨_, Loads.atA (tabC t (.slice ar nr cr) (.slice al nl cl)) [] hst2 rfl rfl, ?_⟩) | (go_at_call 21; refine (longTable_any t ar al nr cr nl cl xs _ (HT.out.old hst2.nil)).mono ?_; rw [H1.out]; rintro _ w9 ⟨rfl, h4⟩; have hst3 := St.call0 hst2 h4; clear h4 hst2) | (refine wl_loadE rfl rfl rfl ?_; refine ⟨_, Loads.atA (tabC t (.slice ar nr cr) (.slice al nl cl)) [] hst3 rfl rfl, ?_⟩) | (go_at_call 17; refine (bytes12_ok t ar al nr cr nl cl xs _ (HTI.out.old hst3.nil).R HTI.out.eq (HTI.out.old hst3.nil).L HTI.out.ln HOK.out).mono ?_; rintro _ w9 ⟨u, m, rfl, hm, h4⟩; obtain ⟨b1, c1, rfl, rfl, hc1, hc1', hr⟩ := bytes_form h4 (by have := H24.out; omega); clear hr; have hst4 := St.call hst3 h4; clear h4 hst3) | (refine wl_loadE rfl rfl rfl ?_; refine ⟨_, Loads.atA (tabC t (.slice ar nr cr) (.slice al nl cl)) [_] hst4 rfl rfl, ?_⟩) | (go_at_call 19; refine (check12_any t ar al nr cr nl cl xs _ (HTI.out.old hst4.nil).R HTI.out.eq (by omega) (HTI.out.old hst4.nil).L HTI.out.ln (by omega)).mono ?_; rw [err_yes HOK.out]; rintro _ w9 ⟨rfl, h4⟩; have hst5 := St.call0 hst4 h4; clear h4 hst4) | (go_at_call 10; refine (read12_yes HGT.out HTB.out (some ⟨b1, 0, none⟩) c1 _ (Rd.rowP hst5 (.head _)) (by omega)).mono ?_; rintro _ w9 ⟨rv, lv, xs1, rfl, hx1, h4⟩; obtain ⟨r1, rc1, rfl, _, _⟩ := row_slice [] h4; obtain ⟨l1, lc1, rfl, _, _⟩ := row_slice [_] h4; have HX1 := hid hx1; have hst6 : St w [] w9 (.rowP isB (.slice (some ⟨b1, 0, none⟩) t.bytes.length c1) 5 1 t.bytes.length (bytesV t.bytes) :: .blk g3 30 (tabC t (.slice ar nr cr) (.slice al nl cl)) :: .row (.slice r1 t.recs.length rc1) 47 44 t.recs.length (recsV xs1) :: .row (.slice l1 t.lives.length lc1) 3 1 t.lives.length (numsV t.lives) :: rootRows 98 xs1) := St.perm (St.call hst5 h4) List.perm_append_comm; clear h4 hx1 hst5) | (refine wl_alloc hst6 rfl rfl ?_; intro g10 w1 hst7; clear hst6) | (refine wl_alloc hst7 rfl rfl ?_; intro g11 w1 hst8; clear hst7) | (refine wl_storeA [_] hst8 rfl rfl rfl rfl (vs := (tabC t (.slice r1 t.recs.length rc1) (.slice l1 t.lives.length lc1))) rfl rfl rfl ?_; intro w7 hst9; clear hst8) | (refine wl_storeA [] hst9 rfl rfl rfl rfl (vs := [.int .i64 0, .int .i64 0]) rfl rfl rfl ?_; intro w7 hst10; clear hst9) | (refine wl_loadE rfl rfl rfl ?_; refine ⟨_, Loads.at [] hst10 rfl, ?_⟩) | (refine wl_loadE rfl rfl rfl ?_; refine ⟨_, Loads.atA (tabC t (.slice r1 t.recs.length rc1) (.slice l1 t.lives.length lc1)) [_] hst10 rfl rfl, ?_⟩) | (refine wl_loadE rfl rfl rfl ?_; refine ⟨_, Loads.atA (tabC t (.slice ar nr cr) (.slice al nl cl)) [_, _, _] hst10 rfl rfl, ?_⟩) | (go_at_call 12; refine (kitTable_any t t r1 l1 ar al _ rc1 _ lc1 nr cr nl cl xs1 xs _ (tab_inT (rT := 47) (iT := 3) (E := 98) HTB.out hst10 (.tail _ (.tail _ (.tail _ (.tail _ (.head _))))) (.tail _ (.tail _ (.tail _ (.tail _ (.tail _ (.head _)))))) HX1.out (fun x hx => (.tail _ (.tail _ (.tail _ (.tail _ (.tail _ (.tail _ (rootRows_mem hx))))))))) (HTI.out.old hst10.nil)).mono ?_; rw [STT.out]; rintro _ w9 ⟨rfl, h4⟩; have hst11 := St.call0 hst10 h4; clear h4 hst10) | (refine wl_loadE rfl rfl rfl ?_; refine ⟨_, Loads.atA (tabC t (.slice r1 t.recs.length rc1) (.slice l1 t.lives.length lc1)) [_] hst11 rfl rfl, ?_⟩) | (refine wl_loadE rfl rfl rfl ?_; refine ⟨_, Loads.atA (tabC t (.slice ar nr cr) (.slice al nl cl)) [_, _, _] hst11 rfl rfl, ?_⟩) | (go_at_call 28; refine (same12_any t t r1 l1 ar al _ rc1 _ lc1 nr cr nl cl xs1 xs _ (tab_inT (rT := 47) (iT := 3) (E := 98) HTB.out hst11 (.tail _ (.tail _ (.tail _ (.tail _ (.head _))))) (.tail _ (.tail _ (.tail _ (.tail _ (.tail _ (.head _)))))) HX1.out (fun x hx => (.tail _ (.tail _ (.tail _ (.tail _ (.tail _ (.tail _ (rootRows_mem hx))))))))) (HTI.out.old hst11.nil)).mono ?_; rw [STT.out]; rintro _ w9 ⟨rfl, h4⟩; have hst12 := St.call0 hst11 h4; clear h4 hst11) | (go_at_call 31; refine (pick_spec z t.bytes.length _ hz ⟨by omega, by omega⟩).mono ?_; rw [EK.out]; rintro _ w9 ⟨rfl, h4⟩; have hst13 := St.call0 hst12 h4; clear h4 hst12) | (go_at_call 20; refine (fails12_cut HOK.out HS.out (some ⟨b1, 0, none⟩) c1 k _ hk (by omega) (Rd.rowP hst13 (.tail _ (.tail _ (.head _))))).mono ?_; rintro _ w9 ⟨rfl, h4⟩; have hst14 := St.call0 hst13 h4; clear h4 hst13) | (go_at_call 10; refine (read12_any ao c B _ (Rd.old hst14 HB.out) (by omega)).mono ?_; intro e9 w9 hr; unfold tabOut at hr; rw [if_pos HG.out] at hr; obtain ⟨rv, lv, xs2, rfl, hx2, h4⟩ := hr; obtain ⟨r2, rc2, rfl, _, _⟩ := row_slice [] h4; obtain ⟨l2, lc2, rfl, _, _⟩ := row_slice [_] h4; have HX2 := hid hx2; have hst15 : St w [] w9 (.row (.slice r2 (tabG false B).recs.length rc2) 47 44 (tabG false B).recs.length (recsV xs2) :: .row (.slice l2 (tabG false B).lives.length lc2) 3 1 (tabG false B).lives.length (numsV (tabG false B).lives) :: rootRows 98 xs2) := (by have h5 := St.call hst14.nil h4; rw [List.append_nil] at h5; exact h5); clear h4 hx2 hst14) | (refine wl_alloc hst15 rfl rfl ?_; intro g12 w1 hst16; clear hst15) | (refine wl_alloc hst16 rfl rfl ?_; intro g13 w1 hst17; clear hst16) | (refine wl_storeA [_] hst17 rfl rfl rfl rfl (vs := (tabC (tabG false B) (.slice r2 (tabG false B).recs.length rc2) (.slice l2 (tabG false B).lives.length lc2))) rfl rfl rfl ?_; intro w7 hst18; clear hst17) | (refine wl_storeA [] hst18 rfl rfl rfl rfl (vs := [.int .i64 0, .int .i64 0]) rfl rfl rfl ?_; intro w7 hst19; clear hst18) | (refine wl_loadE rfl rfl rfl ?_; refine ⟨_, Loads.at [] hst19 rfl, ?_⟩) | (refine wl_loadE rfl rfl rfl ?_; refine ⟨_, Loads.atA (tabC (tabG false B) (.slice r2 (tabG false B).recs.length rc2) (.slice l2 (tabG false B).lives.length lc2)) [_] hst19 rfl rfl, ?_⟩) | (go_at_call 17; refine (bytes12_ok (tabG false B) r2 l2 _ rc2 _ lc2 xs2 _ (tab_in (rT := 47) (iT := 3) (E := 98) hst19 (.tail _ (.tail _ (.head _))) (.tail _ (.tail _ (.tail _ (.head _)))) HX2.out (fun x hx => (.tail _ (.tail _ (.tail _ (.tail _ (rootRows_mem hx))))))).R HX2.out (tab_in (rT := 47) (iT := 3) (E := 98) hst19 (.tail _ (.tail _ (.head _))) (.tail _ (.tail _ (.tail _ (.head _)))) HX2.out (fun x hx => (.tail _ (.tail _ (.tail _ (.tail _ (rootRows_mem hx))))))).L rfl HGB.out.2).mono ?_; rintro _ w9 ⟨u8, m8, rfl, hm8, h4⟩; rw [HGB.out.1] at h4; have hst20 := St.call hst19 h4; clear h4 hst19) | (refine wl_loadE rfl rfl rfl ?_; refine ⟨_, Loads.atA (tabC (tabG false B) (.slice r2 (tabG false B).recs.length rc2) (.slice l2 (tabG false B).lives.length lc2)) [_, _] hst20 rfl rfl, ?_⟩) | (go_at_call 19; refine (check12_any (tabG false B) r2 l2 _ rc2 _ lc2 xs2 _ (tab_in (rT := 47) (iT := 3) (E := 98) hst20 (.tail _ (.tail _ (.tail _ (.head _)))) (.tail _ (.tail _ (.tail _ (.tail _ (.head _))))) HX2.out (fun x hx => (.tail _ (.tail _ (.tail _ (.tail _ (.tail _ (rootRows_mem hx)))))))).R HX2.out (by have := HLR.out; omega) (tab_in (rT := 47) (iT := 3) (E := 98) hst20 (.tail _ (.tail _ (.tail _ (.head _)))) (.tail _ (.tail _ (.tail _ (.tail _ (.head _))))) HX2.out (fun x hx => (.tail _ (.tail _ (.tail _ (.tail _ (.tail _ (rootRows_mem hx)))))))).L rfl (by have := HLL.out; omega)).mono ?_; rw [err_yes HGB.out.2]; rintro _ w9 ⟨rfl, h4⟩; have hst21 := St.call0 hst20 h4; clear h4 hst20) | (go_at_call 26; refine (sameBytes_any u8 (.slice ao B.length c) m8 B.length B B _ (Rd.rowP hst21 (.head _)) (Rd.old hst21 HB.out)).mono ?_; rw [S5.out]; rintro _ w9 ⟨rfl, h4⟩; have hst22 := St.call0 hst21 h4; clear h4 hst21))
  go_ret
  exact ⟨rfl, hst22.nil⟩
theorem recordBack_law (t : TC) (ar al : Option Addr) (nr cr nl cl : Nat) (xs : List (Value × RC)) (ao : Option Addr) (n c : Nat) (B : List UInt8) (z : Int) (w : World) (ht : TabAny w t ar nr cr al nl cl xs) (hB : Rd w (.slice ao n c) 1 n (bytesV B)) (hn : B.length = n) (hz : -9223372036854775808 ≤ z ∧ z ≤ 9223372036854775807) :
    Calls Try.prog 6 #[.agg (tabC t (.slice ar nr cr) (.slice al nl cl)).toArray, .slice ao n c, .int .i64 z] w fun e w' => e = .returned (.bool true) ∧ St w [] w' [] := by
  subst hn
  have b1 := hB.bd.1
  have b2 := hB.bd.2.1
  have HB := hid hB
  have HT := hid ht
  cases h1 : t.longB
  · by_cases h5 : 5000 < B.length
    · exact back12_big t ar al nr cr nl cl xs ao c B z w HT HB b1 b2 hz (hid h1) h5
    · cases hok : t.ok <;> cases hq : gOK B
      · exact back12_nn t ar al nr cr nl cl xs ao c B z w HT HB b1 b2 hz (hid h1) h5 (hid hok) (hid hq)
      · exact back12_ny t ar al nr cr nl cl xs ao c B z w HT HB b1 b2 hz (hid h1) h5 (hid hok) (hid hq)
      · exact back12_yn t ar al nr cr nl cl xs ao c B z w HT HB b1 b2 hz (hid h1) h5 (hid hok) (hid hq)
      · exact back12_yy t ar al nr cr nl cl xs ao c B z w HT HB b1 b2 hz (hid h1) h5 (hid hok) (hid hq)
  · exact back12_long t ar al nr cr nl cl xs ao c B z w HT HB b1 b2 hz (hid h1)
end Go.Proofs.Ytkpkaoiafppimaa
namespace Go.Proofs.Ytkpkaoiafppimaa
set_option linter.unusedVariables false
set_option linter.unusedSimpArgs false
open Go.ChangeShapes Go.WideShapes Go.ChangeAt Go.RowKit Hp
set_option maxRecDepth 100000 in
theorem recordBack_lifted (os : Os) (started : os.Started) (H : Type) (enc : TypeId × Value → H) :
    ReturnsInHanded {} Try.checked os 6 .any (Rows.recordBackSpec.pre6 enc Try.prog Try.f6 Rows.recordBackRow.domain false) (Rows.recordBackSpec.post enc Try.prog Try.f6 false true false false) := by
  refine returnsInHanded_of_change (C := Try.checked) own started (by kernel_rfl) Try.func6
    (ChangeSpec.witness6 (enc := enc) (C := Try.checked) false ⟨#[], #[.agg #[.int .i64 0, .slice none 0 0, .int .i64 0, .int .i64 0, .int .i64 0, .int .i64 0, .slice none 0 0], .slice none 0 0, .int .i64 0], []⟩ 8 (by kernel_rfl) (by kernel_rfl) (by kernel_rfl) (by kernel_rfl)) ?_
  intro W base args ds gs before hval0 hW hcnd _
  have hval : ∀ (j : Nat) t v, Try.f6.params[j]? = some t → args[j]? = some v → Value.okWide Try.prog W .any base t v := hval0
  have hW' := hW
  obtain ⟨p, q, hAA0, hV, rfl, hfz, hnd⟩ := hW
  have hA : DataW.TrodAll enc Try.prog W 0 (fun _ => true) true Try.f6.params.toList args.toList ds p := hAA0
  rw [Try.params6] at hA hval
  have hk := hA
  obtain ⟨v0, v1, v2, d0, d1, d2, p0, p1, p2, rfl, rfl, rfl, h0, h1, h2⟩ := trodAll_three hA
  obtain ⟨rfl, rfl⟩ := trodVars_none hV
  obtain ⟨n0, h0⟩ := h0
  obtain ⟨t0, ar0, nr0, cr0, al0, nl0, cl0, xs0, rfl, hT0⟩ := open_tableD (hval 0 _ v0 rfl rfl) h0
  obtain ⟨n1, h1⟩ := h1
  obtain ⟨ao1, n1, c1, bs1, rfl, hA1, hn1⟩ := open_bytes (hval 1 _ v1 rfl rfl) h1
  obtain ⟨n2, h2⟩ := h2
  obtain ⟨z2, rfl, hl2, hu2⟩ := open_int (hval 2 _ v2 rfl rfl) h2
  clear hAA0 hval0
  simp only [List.append_nil] at hW'
  refine (recordBack_law t0 ar0 al0 nr0 cr0 nl0 cl0 xs0 ao1 n1 c1 bs1 z2 W hT0 hA1 hn1 ⟨hl2, hu2⟩).mono fun e W' ⟨he, hg⟩ => ?_
  subst he
  exact ⟨_, rfl, post_of_kept (pv := []) hW' (fun _ _ _ => (trodAll_cons_mk (shut_bool Try.underlying4 _) trodAll_mk0)) (fun sp hsp => by
      rw [Try.params6]
      exact args_kept (by decide) hk hg.below (fun p hp => hW'.lt p hp) sp hsp) (fun _ _ => rfl) (by simp)
    (hg.below.frame _)⟩
theorem recordBack_over : Rows.recordBackRow.holds Try.pinned (OpenSpec.ofChange Rows.recordBackSpec) :=
  OpenClaim.holds_of_wide 6 Try.f6 rfl rfl rfl rfl rfl rfl rfl ⟨rfl, rfl, rfl, rfl, rfl⟩ rfl rfl rfl rfl rfl (by kernel_rfl) Try.func6 (by kernel_rfl)
    (of_decide_eq_true (by kernel_rfl)) (by unfold Func.isWrapper; first | (rw [if_pos (by decide +kernel)]; kernel_rfl) | (rw [if_neg (by decide +kernel)]; exact ⟨rfl, rfl⟩))
    (fun os started H enc _ => recordBack_lifted os started H enc)

theorem recordBack_proved : Rows.RecordBackSaid :=
  recordBack_over
end Go.Proofs.Ytkpkaoiafppimaa
