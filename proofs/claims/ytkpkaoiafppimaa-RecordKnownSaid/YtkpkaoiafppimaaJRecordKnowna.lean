/- PROVED: the law RecordKnown returns true at any input, and nothing that was there has turned. No condition. -/
import Derived.Test.YtkpkaoiafppimaaJBasef
import Derived.Test.YtkpkaoiafppimaaPost
namespace Go.Proofs.Ytkpkaoiafppimaa
set_option linter.unusedVariables false
set_option linter.unusedSimpArgs false
open Go.RowKit Hp
attribute [local irreducible] Go.Calls Go.wpList
set_option maxRecDepth 100000
set_option maxHeartbeats 8000000
theorem copyBytes12_any (v : Value) (n : Nat) (l : List UInt8) (w : World) (hv : Rd w v 1 n (bytesV l)) (hb : n ≤ 100000000) :
    Calls Try.prog 18 #[v] w fun e w' => ∃ u, e = .returned u ∧ St w [] w' [.rowP isB u 5 1 n (bytesV l)] := by
  have hst := St.refl w
  go_enter Try.func18, Try.ntmps18
  go_wp2_with (first | go_big_skip | go_big_guard | (apply wl_bsX [] [] hst; rfl; rfl; exact rfl; exact rfl; infer_instance; infer_instance; rfl; rfl; rfl; intro g w1 hst1; clear hst; have hst2 := St.toRowP (n := 0) (cap := 0) (sz := 1) isB hst1 rfl (Nat.le_refl _) (by decide) rfl; clear hst1) | (apply wl_appP (p := isB) [] hst2; rfl; rfl; exact rfl; exact rfl; infer_instance; infer_instance; infer_instance; infer_instance; exact Rd.old hst2 hv; exact ones_bytesV l; rfl; exact isB_bytes l; (refine ⟨by decide, by unfold maxLen; omega, by omega⟩); intro v2 w2 hst3 _; clear hst2))
  go_ret
  refine ⟨v2, rfl, ?_⟩
  rw [Nat.zero_add] at hst3
  exact hst3
def greatR : RC := { oneR with name := [65] }
def largeR : RC := { oneR with size := 65 }
def fewT : TC := { bareT with lives := [0] }
def lowT : TC := { oneT with next := 1 }
def greatT : TC := { oneT with recs := [greatR] }
def largeT : TC := { oneT with recs := [largeR] }
def greatC : List Value := cellsR (.slice none 0 0, greatR)
def largeC : List Value := cellsR (.slice none 0 0, largeR)
theorem few_no : fewT.ok = false := by decide +kernel
theorem low_no : lowT.ok = false := by decide +kernel
theorem great_no : greatT.ok = false := by decide +kernel
theorem large_no : largeT.ok = false := by decide +kernel
def moreB : List UInt8 := bareB ++ [0]
def wildB : List UInt8 := 255 :: bareB.drop 1
theorem more_err : gErr moreB = 4 ∧ gAt moreB = 24 ∧ gOK moreB = false := by decide +kernel
theorem wild_err : gErr wildB = 2 ∧ gAt wildB = 0 ∧ gOK wildB = false := by decide +kernel
theorem greatIn (w : World) : RC.In w ((.slice none 0 0 : Value), greatR) := ⟨⟨L32.nones, none, 0, 0, rfl, Rd.nil _ _, rfl⟩, by decide⟩
theorem largeIn (w : World) : RC.In w ((.slice none 0 0 : Value), largeR) := ⟨⟨L32.nones, none, 0, 0, rfl, Rd.nil _ _, rfl⟩, by decide⟩
theorem fewIn {w0 w : World} {M : List Nat} {L : List HA} {h : Nat} (hst : St w0 M w L) (h2 : HA.blk h 3 (numsV [0, 0]) ∈ L) : TabIn w fewT none 0 0 (some ⟨h, 0, none⟩) 1 2 [] :=
  ⟨⟨Rd.nil _ _, rfl, fun _ h => by cases h⟩, rfl, Rd.blk hst h2 (by decide) (by decide) rfl rfl, rfl, by decide, by decide⟩
theorem recIn1 {r : RC} {nx : Nat} {w0 w : World} {M : List Nat} {L : List HA} {g h : Nat} (hst : St w0 M w L) (hr : RC.In w ((.slice none 0 0 : Value), r)) (hl : (cellsR ((.slice none 0 0 : Value), r)).length = 1 * 44) (h1 : HA.blk g 47 (cellsR (.slice none 0 0, r)) ∈ L) (h2 : HA.blk h 3 (numsV [0, 0]) ∈ L) : TabIn w ⟨nx, [r], 0, 0, 0, 0, [0, 0]⟩ (some ⟨g, 0, none⟩) 1 1 (some ⟨h, 0, none⟩) 2 2 [(.slice none 0 0, r)] :=
  ⟨⟨Rd.blk hst h1 (Nat.le_refl _) (by decide) (by unfold recsV; rw [List.flatMap_cons, List.flatMap_nil, List.append_nil, hl]) (by unfold recsV; rw [List.flatMap_cons, List.flatMap_nil, List.append_nil, List.drop_zero, List.take_length]), rfl, fun x hx => by
    rw [List.mem_singleton] at hx
    subst hx
    exact hr⟩, rfl, Rd.blk hst h2 (Nat.le_refl _) (by decide) rfl rfl, rfl, by decide, by decide⟩
theorem recordKnown_law (w : World) : Calls Try.prog 4 #[] w fun e w' => e = .returned (.bool true) ∧ St w [] w' [] := by
  have hst0 := St.refl w
  go_enter Try.func4, Try.ntmps4
  (try simp only [List.append])
  go_wp2_with (first | go_big_skip | go_big_guard | (go_at_call 15; refine (bare_any _).mono ?_; rintro _ w9 ⟨h0, rfl, h4⟩; have hst1 := St.call hst0 h4; clear h4 hst0) | (go_at_call 16; refine (one_any _).mono ?_; rintro _ w9 ⟨g1, h1, rfl, h4⟩; have hst2 := St.call hst1 h4; clear h4 hst1) | (go_at_call 16; refine (one_any _).mono ?_; rintro _ w9 ⟨g2, h2, rfl, h4⟩; have hst3 := St.call hst2 h4; clear h4 hst2) | (go_at_call 16; refine (one_any _).mono ?_; rintro _ w9 ⟨g3, h3, rfl, h4⟩; have hst4 := St.call hst3 h4; clear h4 hst3) | (refine wl_alloc hst4 rfl rfl ?_; intro aa w1 hst5; clear hst4) | (refine wl_alloc hst5 rfl rfl ?_; intro ab w1 hst6; clear hst5) | (refine wl_alloc hst6 rfl rfl ?_; intro ac w1 hst7; clear hst6) | (refine wl_alloc hst7 rfl rfl ?_; intro ad w1 hst8; clear hst7) | (refine wl_storeA [_, _, _] hst8 rfl rfl rfl rfl (vs := (tabC bareT (.slice none 0 0) (.slice (some ⟨h0, 0, none⟩) 2 2))) rfl rfl rfl ?_; intro w7 hst9; clear hst8) | (refine wl_storeA [_, _] hst9 rfl rfl rfl rfl (vs := (tabC oneT (.slice (some ⟨g1, 0, none⟩) 1 1) (.slice (some ⟨h1, 0, none⟩) 2 2))) rfl rfl rfl ?_; intro w7 hst10; clear hst9) | (refine wl_storeA [_] hst10 rfl rfl rfl rfl (vs := (tabC oneT (.slice (some ⟨g2, 0, none⟩) 1 1) (.slice (some ⟨h2, 0, none⟩) 2 2))) rfl rfl rfl ?_; intro w7 hst11; clear hst10) | (refine wl_storeA [] hst11 rfl rfl rfl rfl (vs := (tabC oneT (.slice (some ⟨g3, 0, none⟩) 1 1) (.slice (some ⟨h3, 0, none⟩) 2 2))) rfl rfl rfl ?_; intro w7 hst12; clear hst11) | (refine wl_loadE rfl rfl rfl ?_; refine ⟨_, Loads.at [_, _, _] hst12 rfl, ?_⟩) | (refine wl_store [_, _, _] hst12 rfl rfl rfl (off := 6) (v := .slice (some ⟨h0, 0, none⟩) 1 2) rfl rfl rfl (by show (6 : Nat) + 1 ≤ 7; decide) ?_; intro w7 hst13; clear hst12) | (refine wl_store [_, _] hst13 rfl rfl rfl (off := 0) (v := .int .i64 1) rfl rfl rfl (by show (0 : Nat) + 1 ≤ 7; decide) ?_; intro w7 hst14; clear hst13) | (refine wl_loadE rfl rfl rfl ?_; refine ⟨_, Loads.at [_] hst14 rfl, ?_⟩) | (refine wl_store [_, _, _, _, _, _] hst14 rfl rfl rfl (off := 1) (v := .string ⟨#[65]⟩) rfl rfl rfl (by show (1 : Nat) + 1 ≤ 44; decide) ?_; intro w7 hst15; clear hst14) | (refine wl_loadE rfl rfl rfl ?_; refine ⟨_, Loads.at [] hst15 rfl, ?_⟩) | (refine wl_store [_, _, _, _] hst15 rfl rfl rfl (off := 3) (v := .int .i64 65) rfl rfl rfl (by show (3 : Nat) + 1 ≤ 44; decide) ?_; intro w7 hst16; clear hst15) | (go_at_call 15; refine (bare_any _).mono ?_; rintro _ w9 ⟨h5, rfl, h4⟩; have hst17 := St.call hst16 h4; clear h4 hst16) | (go_at_call 17; refine (bytes12_ok bareT none (some ⟨h5, 0, none⟩) 0 0 2 2 [] _ (bareIn hst17 (.head _)).R rfl (bareIn hst17 (.head _)).L rfl bare_ok).mono ?_; rintro _ w9 ⟨u, m, rfl, hm, h4⟩; rw [bare_bytes] at h4; obtain ⟨b1, c1, rfl, rfl, hc1, hc1', hr⟩ := bytes_form h4 (by decide); have hst18 := St.call hst17 h4; clear h4 hst17 hr hm) | (go_at_call 18; refine (copyBytes12_any _ 24 bareB _ (Rd.rowP hst18 (.head _)) (by decide)).mono ?_; rintro _ w9 ⟨u2, rfl, h4⟩; have hst19 := St.call hst18 h4; clear h4 hst18) | (apply wl_bsX [.int .u8 0] (bytesV [0]) hst19; rfl; rfl; exact rfl; exact rfl; infer_instance; infer_instance; rfl; rfl; rfl; intro gb w5 hst20; clear hst19) | (apply wl_appP (p := isB) [_] hst20; rfl; rfl; exact rfl; exact rfl; infer_instance; infer_instance; infer_instance; infer_instance; exact Rd.blk (off := 0) (n := 1) (c := 1) (xs := bytesV [0]) hst20 (.head _) (Nat.le_refl _) (by decide) rfl rfl; exact ones_bytesV [0]; rfl; exact isB_bytes [0]; (refine ⟨by decide, by decide, by decide⟩); intro v2 w2 hst21 hz2; clear hz2 hst20; have hst22 := St.sub hst21 (.cons _ (List.Sublist.refl _)); clear hst21; obtain ⟨b2, c2, e2, _, hc2, hc2', hr2⟩ := bytes_form (B := moreB) hst22 (by decide); subst e2; have hst23 := St.unP (L1 := [_]) hst22; clear hst22 hr2) | (refine wl_index (k := 0) rfl rfl rfl rfl (show 0 < bareB.length by decide) ?_) | (refine wl_storeRow1 [_] hst23 rfl rfl rfl rfl (off := 0 + 0 * 1) (v := .int .u8 255) rfl rfl (by decide) (by decide) ?_; intro w7 hst24; clear hst23) | (go_at_call 8; refine (awake12_any _).mono ?_; rintro _ w9 ⟨rfl, h4⟩; have hst25 := St.call0 hst24 h4; clear h4 hst24) | (refine wl_loadE rfl rfl rfl ?_; refine ⟨_, Loads.atA (tabC fewT (.slice none 0 0) (.slice (some ⟨h0, 0, none⟩) 1 2)) [_, _, _, _, _, _] hst25 rfl rfl, ?_⟩) | (go_at_call 19; refine (check12_any fewT none (some ⟨h0, 0, none⟩) 0 0 1 2 [] _ (fewIn hst25 (.tail _ (.tail _ (.tail _ (.tail _ (.tail _ (.tail _ (.tail _ (.tail _ (.tail _ (.tail _ (.tail _ (.tail _ (.tail _ (.head _))))))))))))))).R rfl (by decide) (fewIn hst25 (.tail _ (.tail _ (.tail _ (.tail _ (.tail _ (.tail _ (.tail _ (.tail _ (.tail _ (.tail _ (.tail _ (.tail _ (.tail _ (.head _))))))))))))))).L rfl (by decide)).mono ?_; rw [err_no few_no]; rintro _ w9 ⟨rfl, h4⟩; have hst26 := St.call0 hst25 h4; clear h4 hst25) | (refine wl_loadE rfl rfl rfl ?_; refine ⟨_, Loads.atA (tabC lowT (.slice (some ⟨g1, 0, none⟩) 1 1) (.slice (some ⟨h1, 0, none⟩) 2 2)) [_, _, _, _, _] hst26 rfl rfl, ?_⟩) | (go_at_call 19; refine (check12_any lowT (some ⟨g1, 0, none⟩) (some ⟨h1, 0, none⟩) 1 1 2 2 [(.slice none 0 0, oneR)] _ (recIn1 (r := oneR) (nx := 0) hst26 (oneIn _) rfl (.tail _ (.tail _ (.tail _ (.tail _ (.tail _ (.tail _ (.tail _ (.tail _ (.tail _ (.tail _ (.tail _ (.head _)))))))))))) (.tail _ (.tail _ (.tail _ (.tail _ (.tail _ (.tail _ (.tail _ (.tail _ (.tail _ (.tail _ (.tail _ (.tail _ (.head _)))))))))))))).R rfl (by decide) (recIn1 (r := oneR) (nx := 0) hst26 (oneIn _) rfl (.tail _ (.tail _ (.tail _ (.tail _ (.tail _ (.tail _ (.tail _ (.tail _ (.tail _ (.tail _ (.tail _ (.head _)))))))))))) (.tail _ (.tail _ (.tail _ (.tail _ (.tail _ (.tail _ (.tail _ (.tail _ (.tail _ (.tail _ (.tail _ (.tail _ (.head _)))))))))))))).L rfl (by decide)).mono ?_; rw [err_no low_no]; rintro _ w9 ⟨rfl, h4⟩; have hst27 := St.call0 hst26 h4; clear h4 hst26) | (refine wl_loadE rfl rfl rfl ?_; refine ⟨_, Loads.atA (tabC greatT (.slice (some ⟨g2, 0, none⟩) 1 1) (.slice (some ⟨h2, 0, none⟩) 2 2)) [_, _, _, _] hst27 rfl rfl, ?_⟩) | (go_at_call 19; refine (check12_any greatT (some ⟨g2, 0, none⟩) (some ⟨h2, 0, none⟩) 1 1 2 2 [(.slice none 0 0, greatR)] _ (recIn1 (r := greatR) (nx := 0) hst27 (greatIn _) rfl (.tail _ (.tail _ (.tail _ (.tail _ (.tail _ (.tail _ (.tail _ (.tail _ (.tail _ (.head _)))))))))) (.tail _ (.tail _ (.tail _ (.tail _ (.tail _ (.tail _ (.tail _ (.tail _ (.tail _ (.tail _ (.head _)))))))))))).R rfl (by decide) (recIn1 (r := greatR) (nx := 0) hst27 (greatIn _) rfl (.tail _ (.tail _ (.tail _ (.tail _ (.tail _ (.tail _ (.tail _ (.tail _ (.tail _ (.head _)))))))))) (.tail _ (.tail _ (.tail _ (.tail _ (.tail _ (.tail _ (.tail _ (.tail _ (.tail _ (.tail _ (.head _)))))))))))).L rfl (by decide)).mono ?_; rw [err_no great_no]; rintro _ w9 ⟨rfl, h4⟩; have hst28 := St.call0 hst27 h4; clear h4 hst27) | (refine wl_loadE rfl rfl rfl ?_; refine ⟨_, Loads.atA (tabC largeT (.slice (some ⟨g3, 0, none⟩) 1 1) (.slice (some ⟨h3, 0, none⟩) 2 2)) [_, _, _] hst28 rfl rfl, ?_⟩) | (go_at_call 19; refine (check12_any largeT (some ⟨g3, 0, none⟩) (some ⟨h3, 0, none⟩) 1 1 2 2 [(.slice none 0 0, largeR)] _ (recIn1 (r := largeR) (nx := 0) hst28 (largeIn _) rfl (.tail _ (.tail _ (.tail _ (.tail _ (.tail _ (.tail _ (.tail _ (.head _)))))))) (.tail _ (.tail _ (.tail _ (.tail _ (.tail _ (.tail _ (.tail _ (.tail _ (.head _)))))))))).R rfl (by decide) (recIn1 (r := largeR) (nx := 0) hst28 (largeIn _) rfl (.tail _ (.tail _ (.tail _ (.tail _ (.tail _ (.tail _ (.tail _ (.head _)))))))) (.tail _ (.tail _ (.tail _ (.tail _ (.tail _ (.tail _ (.tail _ (.tail _ (.head _)))))))))).L rfl (by decide)).mono ?_; rw [err_no large_no]; rintro _ w9 ⟨rfl, h4⟩; have hst29 := St.call0 hst28 h4; clear h4 hst28) | (go_at_call 20; refine (fails12_no (some ⟨b2, 0, none⟩) c2 moreB 4 24 _ (Rd.rowP hst29 (.head _)) (by decide) more_err.2.2).mono ?_; rw [show ((gErr moreB == 4) && (gAt moreB == 24)) = true by rw [more_err.1, more_err.2.1]; rfl]; rintro _ w9 ⟨rfl, h4⟩; have hst30 := St.call0 hst29 h4; clear h4 hst29) | (go_at_call 20; refine (fails12_no (some ⟨b1, 0, none⟩) c1 wildB 2 0 _ (Rd.row hst30 (.tail _ (.head _))) (by decide) wild_err.2.2).mono ?_; rw [show ((gErr wildB == 2) && (gAt wildB == 0)) = true by rw [wild_err.1, wild_err.2.1]; rfl]; rintro _ w9 ⟨rfl, h4⟩; have hst31 := St.call0 hst30 h4; clear h4 hst30))
  go_ret
  exact ⟨rfl, hst31.nil⟩
end Go.Proofs.Ytkpkaoiafppimaa
namespace Go.Proofs.Ytkpkaoiafppimaa
set_option linter.unusedVariables false
set_option linter.unusedSimpArgs false
open Go.ChangeShapes Go.WideShapes Go.ChangeAt Go.RowKit Hp
set_option maxRecDepth 100000 in
theorem recordKnown_lifted (os : Os) (started : os.Started) (H : Type) (enc : TypeId × Value → H) :
    ReturnsInHanded {} Try.checked os 4 .any (Rows.recordKnownSpec.pre6 enc Try.prog Try.f4 Rows.recordKnownRow.domain false) (Rows.recordKnownSpec.post enc Try.prog Try.f4 false true false false) := by
  refine returnsInHanded_of_change (C := Try.checked) own started (by kernel_rfl) Try.func4
    (ChangeSpec.witness6 (enc := enc) (C := Try.checked) false ⟨#[], #[], []⟩ 8 (by kernel_rfl) (by kernel_rfl) (by kernel_rfl) (by kernel_rfl)) ?_
  intro W base args ds gs before hval0 hW hcnd _
  have hval : ∀ (j : Nat) t v, Try.f4.params[j]? = some t → args[j]? = some v → Value.okWide Try.prog W .any base t v := hval0
  have hW' := hW
  obtain ⟨p, q, hAA0, hV, rfl, hfz, hnd⟩ := hW
  have hA : DataW.TrodAll enc Try.prog W 0 (fun _ => true) true Try.f4.params.toList args.toList ds p := hAA0
  rw [Try.params4] at hA hval
  obtain ⟨rfl, rfl, rfl⟩ := trodAll_none hA
  obtain ⟨rfl, rfl⟩ := trodVars_none hV
  clear hAA0 hval0
  simp only [List.append_nil] at hW'
  refine (recordKnown_law W).mono fun e W' ⟨he, hg⟩ => ?_
  subst he
  exact ⟨_, rfl, post_of_kept (pa := []) (pv := []) hW' (fun _ _ _ => (trodAll_cons_mk (shut_bool Try.underlying4 _) trodAll_mk0)) (fun sp _ => rfl) (fun _ _ => rfl) rfl
    (hg.below.frame _)⟩
theorem recordKnown_over : Rows.recordKnownRow.holds Try.pinned (OpenSpec.ofChange Rows.recordKnownSpec) :=
  OpenClaim.holds_of_wide 4 Try.f4 rfl rfl rfl rfl rfl rfl rfl ⟨rfl, rfl, rfl, rfl, rfl⟩ rfl rfl rfl rfl rfl (by kernel_rfl) Try.func4 (by kernel_rfl)
    (of_decide_eq_true (by kernel_rfl)) (by unfold Func.isWrapper; first | (rw [if_pos (by decide +kernel)]; kernel_rfl) | (rw [if_neg (by decide +kernel)]; exact ⟨rfl, rfl⟩))
    (fun os started H enc _ => recordKnown_lifted os started H enc)

theorem recordKnown_proved : Rows.RecordKnownSaid :=
  recordKnown_over
end Go.Proofs.Ytkpkaoiafppimaa
