/- PROVED: the law RecordTells returns true at any input, and nothing that was there has turned. No condition. -/
import Derived.Test.YtkpkaoiafppimaaJBasef
import Derived.Test.YtkpkaoiafppimaaJBased
import Derived.Test.YtkpkaoiafppimaaJBaseg
import Derived.Test.YtkpkaoiafppimaaJBasec
import Derived.Test.YtkpkaoiafppimaaPost
import Derived.Test.YtkpkaoiafppimaaOpenS
namespace Go.Proofs.Ytkpkaoiafppimaa
set_option linter.unusedVariables false
set_option linter.unusedSimpArgs false
open Go.RowKit Hp
attribute [local irreducible] Go.Calls Go.wpList
set_option maxRecDepth 100000
set_option maxHeartbeats 8000000
attribute [local go_sem ↓] heldTab
theorem copy_in {w0 w1 w : World} {M : List Nat} {L : List HA} {rT iT E : TypeId} {t : TC} {ar al ro lo : Option Addr} {nr cr nl cl rc lc : Nat} {xs ys : List (Value × RC)} (ht : TabIn w1 t ar nr cr al nl cl xs) (hst : St w0 M w L) (h1 : HA.row (.slice ro nr rc) rT 44 nr (recsV ys) ∈ L) (h2 : HA.row (.slice lo nl lc) iT 1 nl (numsV t.lives) ∈ L)
    (hy : ys.map (·.2) = t.recs) (hm : ∀ y ∈ ys, HA.row y.1 E 2 y.2.l.length (addrsV y.2.l) ∈ L) : TabIn w t ro nr rc lo nl lc ys := by
  refine ⟨⟨Rd.row hst h1, by rw [← List.length_map (f := (·.2)), hy, ht.len], fun y hyy => ?_⟩, hy, Rd.row hst h2, ht.ln, ht.br, ht.bl⟩
  have h3 : y.2 ∈ xs.map (·.2) := by rw [ht.eq, ← hy]; exact List.mem_map_of_mem hyy
  obtain ⟨x, hx, he⟩ := List.mem_map.1 h3
  have hin := ht.R.each x hx
  exact root_in hst (hm y hyy) (by rw [← he]; exact hin.L) (by rw [← he]; exact hin.2)
theorem recordTells_law (t u : TC) (ar al ar' al' : Option Addr) (nr cr nl cl nr' cr' nl' cl' : Nat) (xs ys' : List (Value × RC)) (nm : List UInt8) (w : World) (ht : TabAny w t ar nr cr al nl cl xs) (hu : TabAny w u ar' nr' cr' al' nl' cl' ys') (hnm : nm.length ≤ 9223372036854775807) :
    Calls Try.prog 5 #[.agg (tabC t (.slice ar nr cr) (.slice al nl cl)).toArray, .agg (tabC u (.slice ar' nr' cr') (.slice al' nl' cl')).toArray, .string ⟨nm.toArray⟩] w fun e w' => e = .returned (.bool true) ∧ St w [] w' [] := by
  have hst0 := St.refl w
  have HT := hid ht
  have HU := hid hu
  have hsz : (⟨nm.toArray⟩ : ByteArray).size = nm.length := by simp [ByteArray.size]
  cases h1 : t.longB
  · have H1 := hid h1
    cases h2 : u.longB
    · have H2 := hid h2
      by_cases hn : 100 < nm.length
      · have d1 : decide ((nm.length : Int) > 100) = true := decide_eq_true (by omega)
        have d1' : decide ((100 : Int) < (nm.length : Int)) = true := d1
        clear ht hu h1 h2
        go_enter Try.func5, Try.ntmps5
        go_wp2_with (first | go_big_skip | go_big_guard | (refine wl_boxA hst0 rfl rfl rfl ?_; intro g3 w1 hst1; clear hst0) | (refine wl_boxA hst1 rfl rfl rfl ?_; intro g4 w2 hst; clear hst1) | (refine wl_loadE rfl rfl rfl ?_; first | refine ⟨_, Loads.atA (tabC t (.slice ar nr cr) (.slice al nl cl)) [_] hst rfl rfl, ?_⟩ | refine ⟨_, Loads.atA (tabC u (.slice ar' nr' cr') (.slice al' nl' cl')) [] hst rfl rfl, ?_⟩) | (go_at_call 21; first | (refine (longTable_any t ar al nr cr nl cl xs _ (HT.out.old hst.nil)).mono ?_; rw [H1.out]; rintro _ w9 ⟨rfl, h4⟩; replace hst := St.call0 hst h4; clear h4) | (refine (longTable_any u ar' al' nr' cr' nl' cl' ys' _ (HU.out.old hst.nil)).mono ?_; rw [H2.out]; rintro _ w9 ⟨rfl, h4⟩; replace hst := St.call0 hst h4; clear h4)) | (go_at_call 8; refine (awake12_any _).mono ?_; rintro _ w9 ⟨rfl, h4⟩; have hst9 := St.call0 hst h4; clear h4))
        go_ret
        exact ⟨rfl, hst9.nil⟩
      · have d1 : decide ((nm.length : Int) > 100) = false := decide_eq_false (by omega)
        have d1' : decide ((100 : Int) < (nm.length : Int)) = false := d1
        have hlt := TC.long_no h1
        have hti := ht.tab h1
        have hui := hu.tab h2
        have HTI := hid hti
        have HUI := hid hui
        have hnr : nr ≤ 20 := by rw [← ht.len]; exact hlt.1
        have hnl : nl ≤ 20 := by rw [← ht.ln]; exact hlt.2.1
        have HAD := hid (show ∀ r ∈ t.recs, r.l.length ≤ 100000 from fun r hr => by have := (hlt.2.2 r hr).2; omega)
        have s1 : (t.err == t.err) = true := beq_self_eq_true _
        obtain ⟨FP, hFP⟩ : ∃ F, F = findP nm t.recs := ⟨_, rfl⟩
        have HFP := hid hFP.symm
        have s2 : (FP.1 == FP.1) = true := beq_self_eq_true _
        have s3 : (FP.2 == FP.2) = true := beq_self_eq_true _
        have s4 : (t.sameB u == t.sameB u) = true := beq_self_eq_true _
        have S4 := hid (show (t.bytes == t.bytes) = true from beq_self_eq_true _)
        cases hok : t.ok
        · have HOK := hid hok
          clear ht hu h1 h2 hn hlt hti hui hFP hok
          go_enter Try.func5, Try.ntmps5
          go_wp2_with (first | go_big_skip | go_big_guard | (refine wl_boxA hst0 rfl rfl rfl ?_; intro g3 w1 hst1; clear hst0) | (refine wl_boxA hst1 rfl rfl rfl ?_; intro g4 w2 hst; clear hst1) | (refine wl_loadE rfl rfl rfl ?_; first | refine ⟨_, Loads.atA (tabC t (.slice ar nr cr) (.slice al nl cl)) [_] hst rfl rfl, ?_⟩ | refine ⟨_, Loads.atA (tabC u (.slice ar' nr' cr') (.slice al' nl' cl')) [] hst rfl rfl, ?_⟩) | (go_at_call 21; first | (refine (longTable_any t ar al nr cr nl cl xs _ (HT.out.old hst.nil)).mono ?_; rw [H1.out]; rintro _ w9 ⟨rfl, h4⟩; replace hst := St.call0 hst h4; clear h4) | (refine (longTable_any u ar' al' nr' cr' nl' cl' ys' _ (HU.out.old hst.nil)).mono ?_; rw [H2.out]; rintro _ w9 ⟨rfl, h4⟩; replace hst := St.call0 hst h4; clear h4)) | (go_at_call 22; refine (copyTable_any t ar al nr cr nl cl xs _ (HTI.out.old hst.nil) (by omega) (by omega) HAD.out).mono ?_; rintro _ w9 ⟨ro, rc, lo, lc, ys, rfl, hys, h4⟩; have HYS := hid hys; have hst2 : St w [] w9 (.blk g4 30 (tabC u (.slice ar' nr' cr') (.slice al' nl' cl')) :: .blk g3 30 (tabC t (.slice ar nr cr) (.slice al nl cl)) :: .row (.slice ro nr rc) 47 44 nr (recsV ys) :: .row (.slice lo nl lc) 3 1 nl (numsV t.lives) :: rootRows 98 ys) := St.perm (St.call hst h4) List.perm_append_comm; clear h4 hst hys) | (refine wl_alloc hst2 rfl rfl ?_; intro g7 w1 hst3; clear hst2) | (refine wl_storeA [] hst3 rfl rfl rfl rfl (vs := (tabC t (.slice ro nr rc) (.slice lo nl lc))) rfl rfl rfl ?_; intro w7 hst4; clear hst3) | (refine wl_loadE rfl rfl rfl ?_; first | refine ⟨_, Loads.atA (tabC t (.slice ro nr rc) (.slice lo nl lc)) [] hst4 rfl rfl, ?_⟩ | refine ⟨_, Loads.atA (tabC t (.slice ar nr cr) (.slice al nl cl)) [_, _] hst4 rfl rfl, ?_⟩) | (go_at_call 17; refine (bytes12_no t ro lo nr rc nl lc ys _ (copy_in (rT := 47) (iT := 3) (E := 98) HTI.out hst4 (.tail _ (.tail _ (.tail _ (.head _)))) (.tail _ (.tail _ (.tail _ (.tail _ (.head _))))) HYS.out (fun y hy => (.tail _ (.tail _ (.tail _ (.tail _ (.tail _ (rootRows_mem hy)))))))).R HYS.out (by omega) (copy_in (rT := 47) (iT := 3) (E := 98) HTI.out hst4 (.tail _ (.tail _ (.tail _ (.head _)))) (.tail _ (.tail _ (.tail _ (.tail _ (.head _))))) HYS.out (fun y hy => (.tail _ (.tail _ (.tail _ (.tail _ (.tail _ (rootRows_mem hy)))))))).L HTI.out.ln (by omega) HOK.out).mono ?_; rintro _ w9 ⟨rfl, h4⟩; replace hst4 := St.call0 hst4 h4; clear h4) | (go_at_call 23; refine (refBytes12_no t ar al nr cr nl cl xs _ (HTI.out.old hst4.nil).R HTI.out.eq (by omega) (HTI.out.old hst4.nil).L HTI.out.ln (by omega) HOK.out).mono ?_; rintro _ w9 ⟨rfl, h4⟩; replace hst4 := St.call0 hst4 h4; clear h4) | (go_at_call 24; refine (find_any t (.slice lo nl lc) nm ro nr rc ys _ (copy_in (rT := 47) (iT := 3) (E := 98) HTI.out hst4 (.tail _ (.tail _ (.tail _ (.head _)))) (.tail _ (.tail _ (.tail _ (.tail _ (.head _))))) HYS.out (fun y hy => (.tail _ (.tail _ (.tail _ (.tail _ (.tail _ (rootRows_mem hy)))))))).R (by omega)).mono ?_; rw [HYS.out, HFP.out]; rintro _ w9 ⟨rfl, h4⟩; replace hst4 := St.call0 hst4 h4; clear h4) | (go_at_call 25; refine (refFind_any t (.slice al nl cl) nm ar nr cr xs _ (HTI.out.old hst4.nil).R (by omega)).mono ?_; rw [HTI.out.eq, HFP.out]; rintro _ w9 ⟨rfl, h4⟩; replace hst4 := St.call0 hst4 h4; clear h4))
          have hX := hst4.drew
          clear hst4
          refine wp_region_held_drew (S := (fun w' => (loadVarH 30 ⟨g7, 0, none⟩).run Try.prog w' = .ok (.agg (List.toArray ((tabC t (.slice ro nr rc) (.slice lo nl lc))))) w' ∧ (loadVarH 30 ⟨g3, 0, none⟩).run Try.prog w' = .ok (.agg (List.toArray ((tabC t (.slice ar nr cr) (.slice al nl cl))))) w' ∧ (loadVarH 30 ⟨g4, 0, none⟩).run Try.prog w' = .ok (.agg (List.toArray ((tabC u (.slice ar' nr' cr') (.slice al' nl' cl'))))) w')) (by kernel_rfl) (by exact ⟨ldA ((tabC t (.slice ro nr rc) (.slice lo nl lc))) [] hX (rfl) (rfl), ldA ((tabC t (.slice ar nr cr) (.slice al nl cl))) [_, _] hX (rfl) (rfl), ldA ((tabC u (.slice ar' nr' cr') (.slice al' nl' cl'))) [_] hX (rfl) (rfl)⟩) (fun hHeld => ?_)
          refine tk 0 53 ?_
          (try simp only [Act.put, List.setIfInBounds_toArray, List.set_cons_zero, List.set_cons_succ])
          refine tk 1 54 ?_
          (try simp only [Act.put, List.setIfInBounds_toArray, List.set_cons_zero, List.set_cons_succ])
          refine wpAnyH_ready (rs := [2]) (by kernel_rfl) (by simp) ?_
          refine (AllReadyH.cons (o := ⟨some 55, _, _, _, _, _⟩) rfl (fun K hK => ?_) AllReadyH.nil)
          rw [if_pos (by rfl)]
          go_simp
          go_at_call 26
          refine (sameBytes_any _ _ 0 0 [] [] _ (Rd.nil _ _) (Rd.nil _ _)).mono ?_
          rw [show (([] : List UInt8) == []) = true from rfl]
          rintro _ w9 ⟨rfl, h4⟩
          have hA1 := St.call0 hX h4
          clear h4 hX
          refine hK.out _ _ ?_ (fun hHeld => ?_)
          · exact ⟨ldA ((tabC t (.slice ro nr rc) (.slice lo nl lc))) [] hA1 (rfl) (rfl), ldA ((tabC t (.slice ar nr cr) (.slice al nl cl))) [_, _] hA1 (rfl) (rfl), ldA ((tabC u (.slice ar' nr' cr') (.slice al' nl' cl'))) [_] hA1 (rfl) (rfl)⟩
          clear hK K
          (try simp only [Act.put, List.setIfInBounds_toArray, List.set_cons_zero, List.set_cons_succ])
          refine tk 3 56 ?_
          (try simp only [Act.put, List.setIfInBounds_toArray, List.set_cons_zero, List.set_cons_succ])
          refine tk 4 57 ?_
          (try simp only [Act.put, List.setIfInBounds_toArray, List.set_cons_zero, List.set_cons_succ])
          refine tk 5 58 ?_
          (try simp only [Act.put, List.setIfInBounds_toArray, List.set_cons_zero, List.set_cons_succ])
          refine tk 6 59 ?_
          (try simp only [Act.put, List.setIfInBounds_toArray, List.set_cons_zero, List.set_cons_succ])
          refine tk 7 60 ?_
          (try simp only [Act.put, List.setIfInBounds_toArray, List.set_cons_zero, List.set_cons_succ])
          refine tk 8 61 ?_
          (try simp only [Act.put, List.setIfInBounds_toArray, List.set_cons_zero, List.set_cons_succ])
          refine tk 9 62 ?_
          (try simp only [Act.put, List.setIfInBounds_toArray, List.set_cons_zero, List.set_cons_succ])
          refine tk 10 63 ?_
          (try simp only [Act.put, List.setIfInBounds_toArray, List.set_cons_zero, List.set_cons_succ])
          refine tk 11 64 ?_
          (try simp only [Act.put, List.setIfInBounds_toArray, List.set_cons_zero, List.set_cons_succ])
          refine tk 12 65 ?_
          (try simp only [Act.put, List.setIfInBounds_toArray, List.set_cons_zero, List.set_cons_succ])
          refine tk 13 66 ?_
          (try simp only [Act.put, List.setIfInBounds_toArray, List.set_cons_zero, List.set_cons_succ])
          refine tk 14 67 ?_
          (try simp only [Act.put, List.setIfInBounds_toArray, List.set_cons_zero, List.set_cons_succ])
          refine tk 15 68 ?_
          (try simp only [Act.put, List.setIfInBounds_toArray, List.set_cons_zero, List.set_cons_succ])
          refine tk 16 69 ?_
          (try simp only [Act.put, List.setIfInBounds_toArray, List.set_cons_zero, List.set_cons_succ])
          refine tk 17 70 ?_
          (try simp only [Act.put, List.setIfInBounds_toArray, List.set_cons_zero, List.set_cons_succ])
          refine tk 18 71 ?_
          (try simp only [Act.put, List.setIfInBounds_toArray, List.set_cons_zero, List.set_cons_succ])
          refine tk 19 72 ?_
          (try simp only [Act.put, List.setIfInBounds_toArray, List.set_cons_zero, List.set_cons_succ])
          refine tk 21 74 ?_
          (try simp only [Act.put, List.setIfInBounds_toArray, List.set_cons_zero, List.set_cons_succ])
          refine wpAnyH_ready (rs := [20]) (by kernel_rfl) (by simp) ?_
          refine (AllReadyH.cons (o := ⟨some 73, _, _, _, _, _⟩) rfl (fun K hK => ?_) AllReadyH.nil)
          rw [if_pos (by rfl)]
          go_simp
          go_at_call 19
          refine (check12_any t ro lo nr rc nl lc ys _ (copy_in (rT := 47) (iT := 3) (E := 98) HTI.out hA1 (.tail _ (.tail _ (.tail _ (.head _)))) (.tail _ (.tail _ (.tail _ (.tail _ (.head _))))) HYS.out (fun y hy => (.tail _ (.tail _ (.tail _ (.tail _ (.tail _ (rootRows_mem hy)))))))).R HYS.out (by omega) (copy_in (rT := 47) (iT := 3) (E := 98) HTI.out hA1 (.tail _ (.tail _ (.tail _ (.head _)))) (.tail _ (.tail _ (.tail _ (.tail _ (.head _))))) HYS.out (fun y hy => (.tail _ (.tail _ (.tail _ (.tail _ (.tail _ (rootRows_mem hy)))))))).L HTI.out.ln (by omega)).mono ?_
          rintro _ w9 ⟨rfl, h4⟩
          have hA2 := St.call0 hA1 h4
          clear h4 hA1
          refine hK.out _ _ ?_ (fun hHeld => ?_)
          · exact ⟨ldA ((tabC t (.slice ro nr rc) (.slice lo nl lc))) [] hA2 (rfl) (rfl), ldA ((tabC t (.slice ar nr cr) (.slice al nl cl))) [_, _] hA2 (rfl) (rfl), ldA ((tabC u (.slice ar' nr' cr') (.slice al' nl' cl'))) [_] hA2 (rfl) (rfl)⟩
          clear hK K
          (try simp only [Act.put, List.setIfInBounds_toArray, List.set_cons_zero, List.set_cons_succ])
          refine wpAnyH_ready (rs := [22]) (by kernel_rfl) (by simp) ?_
          refine (AllReadyH.cons (o := ⟨some 75, _, _, _, _, _⟩) rfl (fun K hK => ?_) AllReadyH.nil)
          rw [if_pos (by rfl)]
          go_simp
          go_at_call 27
          refine (refCheck12_any t ar al nr cr nl cl xs _ (HTI.out.old hA2.nil).R HTI.out.eq (by omega) (HTI.out.old hA2.nil).L HTI.out.ln (by omega)).mono ?_
          rintro _ w9 ⟨rfl, h4⟩
          have hA3 := St.call0 hA2 h4
          clear h4 hA2
          refine hK.out _ _ ?_ (fun hHeld => ?_)
          · exact ⟨ldA ((tabC t (.slice ro nr rc) (.slice lo nl lc))) [] hA3 (rfl) (rfl), ldA ((tabC t (.slice ar nr cr) (.slice al nl cl))) [_, _] hA3 (rfl) (rfl), ldA ((tabC u (.slice ar' nr' cr') (.slice al' nl' cl'))) [_] hA3 (rfl) (rfl)⟩
          clear hK K
          (try simp only [Act.put, List.setIfInBounds_toArray, List.set_cons_zero, List.set_cons_succ])
          refine tk 23 76 ?_
          (try simp only [Act.put, List.setIfInBounds_toArray, List.set_cons_zero, List.set_cons_succ])
          refine tk 24 77 ?_
          (try simp only [Act.put, List.setIfInBounds_toArray, List.set_cons_zero, List.set_cons_succ])
          refine tk 25 78 ?_
          (try simp only [Act.put, List.setIfInBounds_toArray, List.set_cons_zero, List.set_cons_succ])
          refine tk 26 79 ?_
          (try simp only [Act.put, List.setIfInBounds_toArray, List.set_cons_zero, List.set_cons_succ])
          refine tk 27 80 ?_
          (try simp only [Act.put, List.setIfInBounds_toArray, List.set_cons_zero, List.set_cons_succ])
          refine tk 29 82 ?_
          (try simp only [Act.put, List.setIfInBounds_toArray, List.set_cons_zero, List.set_cons_succ])
          refine tk 30 83 ?_
          (try simp only [Act.put, List.setIfInBounds_toArray, List.set_cons_zero, List.set_cons_succ])
          refine wpAnyH_ready (rs := [28]) (by kernel_rfl) (by simp) ?_
          refine (AllReadyH.cons (o := ⟨some 81, _, _, _, _, _⟩) rfl (fun K hK => ?_) AllReadyH.nil)
          rw [if_pos (by rfl)]
          go_simp
          go_at_call 28
          refine (same12_any t u ro lo ar' al' nr rc nl lc nr' cr' nl' cl' ys ys' _ (copy_in (rT := 47) (iT := 3) (E := 98) HTI.out hA3 (.tail _ (.tail _ (.tail _ (.head _)))) (.tail _ (.tail _ (.tail _ (.tail _ (.head _))))) HYS.out (fun y hy => (.tail _ (.tail _ (.tail _ (.tail _ (.tail _ (rootRows_mem hy)))))))) (HUI.out.old hA3.nil)).mono ?_
          rintro _ w9 ⟨rfl, h4⟩
          have hA4 := St.call0 hA3 h4
          clear h4 hA3
          refine hK.out _ _ ?_ (fun hHeld => ?_)
          · exact ⟨ldA ((tabC t (.slice ro nr rc) (.slice lo nl lc))) [] hA4 (rfl) (rfl), ldA ((tabC t (.slice ar nr cr) (.slice al nl cl))) [_, _] hA4 (rfl) (rfl), ldA ((tabC u (.slice ar' nr' cr') (.slice al' nl' cl'))) [_] hA4 (rfl) (rfl)⟩
          clear hK K
          (try simp only [Act.put, List.setIfInBounds_toArray, List.set_cons_zero, List.set_cons_succ])
          refine wpAnyH_ready (rs := [31]) (by kernel_rfl) (by simp) ?_
          refine (AllReadyH.cons (o := ⟨some 84, _, _, _, _, _⟩) rfl (fun K hK => ?_) AllReadyH.nil)
          rw [if_pos (by rfl)]
          go_simp
          go_at_call 29
          refine (refSame12_any t u ar al ar' al' nr cr nl cl nr' cr' nl' cl' xs ys' _ (HTI.out.old hA4.nil) (HUI.out.old hA4.nil)).mono ?_
          rintro _ w9 ⟨rfl, h4⟩
          have hA5 := St.call0 hA4 h4
          clear h4 hA4
          refine hK.out _ _ ?_ (fun hHeld => ?_)
          · exact ⟨ldA ((tabC t (.slice ro nr rc) (.slice lo nl lc))) [] hA5 (rfl) (rfl), ldA ((tabC t (.slice ar nr cr) (.slice al nl cl))) [_, _] hA5 (rfl) (rfl), ldA ((tabC u (.slice ar' nr' cr') (.slice al' nl' cl'))) [_] hA5 (rfl) (rfl)⟩
          clear hK K
          (try simp only [Act.put, List.setIfInBounds_toArray, List.set_cons_zero, List.set_cons_succ])
          refine tk 32 85 ?_
          (try simp only [Act.put, List.setIfInBounds_toArray, List.set_cons_zero, List.set_cons_succ])
          refine tk 33 86 ?_
          (try simp only [Act.put, List.setIfInBounds_toArray, List.set_cons_zero, List.set_cons_succ])
          refine tk 34 16 ?_
          (try simp only [Act.put, List.setIfInBounds_toArray, List.set_cons_zero, List.set_cons_succ])
          refine wpAnyH_done (by kernel_rfl) ?_ _
          clear hHeld
          go_wp2_with (first | go_big_skip | go_big_guard | (go_at_call 30; refine (over_none _).mono ?_; rintro _ w9 ⟨rfl, h4⟩; have hB1 := St.call0 hA5 h4; clear h4 hA5) | (refine wl_loadE rfl rfl rfl ?_; first | refine ⟨_, Loads.atA (tabC t (.slice ro nr rc) (.slice lo nl lc)) [] hB1 rfl rfl, ?_⟩ | refine ⟨_, Loads.atA (tabC t (.slice ar nr cr) (.slice al nl cl)) [_, _] hB1 rfl rfl, ?_⟩) | (go_at_call 12; refine (kitTable_any t t ro lo ar al nr rc nl lc nr cr nl cl ys xs _ (copy_in (rT := 47) (iT := 3) (E := 98) HTI.out hB1 (.tail _ (.tail _ (.tail _ (.head _)))) (.tail _ (.tail _ (.tail _ (.tail _ (.head _))))) HYS.out (fun y hy => (.tail _ (.tail _ (.tail _ (.tail _ (.tail _ (rootRows_mem hy)))))))) (HTI.out.old hB1.nil)).mono ?_; rw [show t.sameB t = true from TC.sameB_iff.2 rfl]; rintro _ w9 ⟨rfl, h4⟩; replace hB1 := St.call0 hB1 h4; clear h4) | (go_at_call 8; refine (awake12_any _).mono ?_; rintro _ w9 ⟨rfl, h4⟩; have hst9 := St.call0 hB1 h4; clear h4))
          go_ret
          exact ⟨rfl, hst9.nil⟩
        · have HOK := hid hok
          clear ht hu h1 h2 hn hlt hti hui hFP hok
          go_enter Try.func5, Try.ntmps5
          go_wp2_with (first | go_big_skip | go_big_guard | (refine wl_boxA hst0 rfl rfl rfl ?_; intro g3 w1 hst1; clear hst0) | (refine wl_boxA hst1 rfl rfl rfl ?_; intro g4 w2 hst; clear hst1) | (refine wl_loadE rfl rfl rfl ?_; first | refine ⟨_, Loads.atA (tabC t (.slice ar nr cr) (.slice al nl cl)) [_] hst rfl rfl, ?_⟩ | refine ⟨_, Loads.atA (tabC u (.slice ar' nr' cr') (.slice al' nl' cl')) [] hst rfl rfl, ?_⟩) | (go_at_call 21; first | (refine (longTable_any t ar al nr cr nl cl xs _ (HT.out.old hst.nil)).mono ?_; rw [H1.out]; rintro _ w9 ⟨rfl, h4⟩; replace hst := St.call0 hst h4; clear h4) | (refine (longTable_any u ar' al' nr' cr' nl' cl' ys' _ (HU.out.old hst.nil)).mono ?_; rw [H2.out]; rintro _ w9 ⟨rfl, h4⟩; replace hst := St.call0 hst h4; clear h4)) | (go_at_call 22; refine (copyTable_any t ar al nr cr nl cl xs _ (HTI.out.old hst.nil) (by omega) (by omega) HAD.out).mono ?_; rintro _ w9 ⟨ro, rc, lo, lc, ys, rfl, hys, h4⟩; have HYS := hid hys; have hst2 : St w [] w9 (.blk g4 30 (tabC u (.slice ar' nr' cr') (.slice al' nl' cl')) :: .blk g3 30 (tabC t (.slice ar nr cr) (.slice al nl cl)) :: .row (.slice ro nr rc) 47 44 nr (recsV ys) :: .row (.slice lo nl lc) 3 1 nl (numsV t.lives) :: rootRows 98 ys) := St.perm (St.call hst h4) List.perm_append_comm; clear h4 hst hys) | (refine wl_alloc hst2 rfl rfl ?_; intro g7 w1 hst3; clear hst2) | (refine wl_storeA [] hst3 rfl rfl rfl rfl (vs := (tabC t (.slice ro nr rc) (.slice lo nl lc))) rfl rfl rfl ?_; intro w7 hst4; clear hst3) | (refine wl_loadE rfl rfl rfl ?_; first | refine ⟨_, Loads.atA (tabC t (.slice ro nr rc) (.slice lo nl lc)) [] hst4 rfl rfl, ?_⟩ | refine ⟨_, Loads.atA (tabC t (.slice ar nr cr) (.slice al nl cl)) [_, _] hst4 rfl rfl, ?_⟩ | refine ⟨_, Loads.atA (tabC t (.slice ar nr cr) (.slice al nl cl)) [_, _, _] hst5 rfl rfl, ?_⟩ | refine ⟨_, Loads.atA (tabC t (.slice ro nr rc) (.slice lo nl lc)) [_, _] hst6 rfl rfl, ?_⟩ | refine ⟨_, Loads.atA (tabC t (.slice ar nr cr) (.slice al nl cl)) [_, _, _, _] hst6 rfl rfl, ?_⟩) | (go_at_call 17; refine (bytes12_ok t ro lo nr rc nl lc ys _ (copy_in (rT := 47) (iT := 3) (E := 98) HTI.out hst4 (.tail _ (.tail _ (.tail _ (.head _)))) (.tail _ (.tail _ (.tail _ (.tail _ (.head _))))) HYS.out (fun y hy => (.tail _ (.tail _ (.tail _ (.tail _ (.tail _ (rootRows_mem hy)))))))).R HYS.out (copy_in (rT := 47) (iT := 3) (E := 98) HTI.out hst4 (.tail _ (.tail _ (.tail _ (.head _)))) (.tail _ (.tail _ (.tail _ (.tail _ (.head _))))) HYS.out (fun y hy => (.tail _ (.tail _ (.tail _ (.tail _ (.tail _ (rootRows_mem hy)))))))).L HTI.out.ln HOK.out).mono ?_; rintro _ w9 ⟨u1, m1, rfl, hm1, h4⟩; have hst5 := St.call hst4 h4; clear h4 hst4) | (go_at_call 23; refine (refBytes12_ok t ar al nr cr nl cl xs _ (HTI.out.old hst5.nil).R HTI.out.eq (HTI.out.old hst5.nil).L HTI.out.ln HOK.out).mono ?_; rintro _ w9 ⟨u2, m2, rfl, hm2, h4⟩; have hst6 := St.call hst5 h4; clear h4 hst5) | (go_at_call 24; refine (find_any t (.slice lo nl lc) nm ro nr rc ys _ (copy_in (rT := 47) (iT := 3) (E := 98) HTI.out hst6 (.tail _ (.tail _ (.tail _ (.tail _ (.tail _ (.head _)))))) (.tail _ (.tail _ (.tail _ (.tail _ (.tail _ (.tail _ (.head _))))))) HYS.out (fun y hy => (.tail _ (.tail _ (.tail _ (.tail _ (.tail _ (.tail _ (.tail _ (rootRows_mem hy)))))))))).R (by omega)).mono ?_; rw [HYS.out, HFP.out]; rintro _ w9 ⟨rfl, h4⟩; replace hst6 := St.call0 hst6 h4; clear h4) | (go_at_call 25; refine (refFind_any t (.slice al nl cl) nm ar nr cr xs _ (HTI.out.old hst6.nil).R (by omega)).mono ?_; rw [HTI.out.eq, HFP.out]; rintro _ w9 ⟨rfl, h4⟩; replace hst6 := St.call0 hst6 h4; clear h4))
          have hX := hst6.drew
          clear hst6
          refine wp_region_held_drew (S := (fun w' => (loadVarH 30 ⟨g7, 0, none⟩).run Try.prog w' = .ok (.agg (List.toArray ((tabC t (.slice ro nr rc) (.slice lo nl lc))))) w' ∧ (loadVarH 30 ⟨g3, 0, none⟩).run Try.prog w' = .ok (.agg (List.toArray ((tabC t (.slice ar nr cr) (.slice al nl cl))))) w' ∧ (loadVarH 30 ⟨g4, 0, none⟩).run Try.prog w' = .ok (.agg (List.toArray ((tabC u (.slice ar' nr' cr') (.slice al' nl' cl'))))) w')) (by kernel_rfl) (by exact ⟨ldA ((tabC t (.slice ro nr rc) (.slice lo nl lc))) [_, _] hX (rfl) (rfl), ldA ((tabC t (.slice ar nr cr) (.slice al nl cl))) [_, _, _, _] hX (rfl) (rfl), ldA ((tabC u (.slice ar' nr' cr') (.slice al' nl' cl'))) [_, _, _] hX (rfl) (rfl)⟩) (fun hHeld => ?_)
          refine tk 0 53 ?_
          (try simp only [Act.put, List.setIfInBounds_toArray, List.set_cons_zero, List.set_cons_succ])
          refine tk 1 54 ?_
          (try simp only [Act.put, List.setIfInBounds_toArray, List.set_cons_zero, List.set_cons_succ])
          refine wpAnyH_ready (rs := [2]) (by kernel_rfl) (by simp) ?_
          refine (AllReadyH.cons (o := ⟨some 55, _, _, _, _, _⟩) rfl (fun K hK => ?_) AllReadyH.nil)
          rw [if_pos (by rfl)]
          go_simp
          go_at_call 26
          refine (sameBytes_any _ _ _ _ t.bytes t.bytes _ (Rd.rowP hX (.tail _ (.head _))) (Rd.rowP hX (.head _))).mono ?_
          rw [S4.out]
          rintro _ w9 ⟨rfl, h4⟩
          have hA1 := St.call0 hX h4
          clear h4 hX
          refine hK.out _ _ ?_ (fun hHeld => ?_)
          · exact ⟨ldA ((tabC t (.slice ro nr rc) (.slice lo nl lc))) [_, _] hA1 (rfl) (rfl), ldA ((tabC t (.slice ar nr cr) (.slice al nl cl))) [_, _, _, _] hA1 (rfl) (rfl), ldA ((tabC u (.slice ar' nr' cr') (.slice al' nl' cl'))) [_, _, _] hA1 (rfl) (rfl)⟩
          clear hK K
          (try simp only [Act.put, List.setIfInBounds_toArray, List.set_cons_zero, List.set_cons_succ])
          refine tk 3 56 ?_
          (try simp only [Act.put, List.setIfInBounds_toArray, List.set_cons_zero, List.set_cons_succ])
          refine tk 4 57 ?_
          (try simp only [Act.put, List.setIfInBounds_toArray, List.set_cons_zero, List.set_cons_succ])
          refine tk 5 58 ?_
          (try simp only [Act.put, List.setIfInBounds_toArray, List.set_cons_zero, List.set_cons_succ])
          refine tk 6 59 ?_
          (try simp only [Act.put, List.setIfInBounds_toArray, List.set_cons_zero, List.set_cons_succ])
          refine tk 7 60 ?_
          (try simp only [Act.put, List.setIfInBounds_toArray, List.set_cons_zero, List.set_cons_succ])
          refine tk 8 61 ?_
          (try simp only [Act.put, List.setIfInBounds_toArray, List.set_cons_zero, List.set_cons_succ])
          refine tk 9 62 ?_
          (try simp only [Act.put, List.setIfInBounds_toArray, List.set_cons_zero, List.set_cons_succ])
          refine tk 10 63 ?_
          (try simp only [Act.put, List.setIfInBounds_toArray, List.set_cons_zero, List.set_cons_succ])
          refine tk 11 64 ?_
          (try simp only [Act.put, List.setIfInBounds_toArray, List.set_cons_zero, List.set_cons_succ])
          refine tk 12 65 ?_
          (try simp only [Act.put, List.setIfInBounds_toArray, List.set_cons_zero, List.set_cons_succ])
          refine tk 13 66 ?_
          (try simp only [Act.put, List.setIfInBounds_toArray, List.set_cons_zero, List.set_cons_succ])
          refine tk 14 67 ?_
          (try simp only [Act.put, List.setIfInBounds_toArray, List.set_cons_zero, List.set_cons_succ])
          refine tk 15 68 ?_
          (try simp only [Act.put, List.setIfInBounds_toArray, List.set_cons_zero, List.set_cons_succ])
          refine tk 16 69 ?_
          (try simp only [Act.put, List.setIfInBounds_toArray, List.set_cons_zero, List.set_cons_succ])
          refine tk 17 70 ?_
          (try simp only [Act.put, List.setIfInBounds_toArray, List.set_cons_zero, List.set_cons_succ])
          refine tk 18 71 ?_
          (try simp only [Act.put, List.setIfInBounds_toArray, List.set_cons_zero, List.set_cons_succ])
          refine tk 19 72 ?_
          (try simp only [Act.put, List.setIfInBounds_toArray, List.set_cons_zero, List.set_cons_succ])
          refine tk 21 74 ?_
          (try simp only [Act.put, List.setIfInBounds_toArray, List.set_cons_zero, List.set_cons_succ])
          refine wpAnyH_ready (rs := [20]) (by kernel_rfl) (by simp) ?_
          refine (AllReadyH.cons (o := ⟨some 73, _, _, _, _, _⟩) rfl (fun K hK => ?_) AllReadyH.nil)
          rw [if_pos (by rfl)]
          go_simp
          go_at_call 19
          refine (check12_any t ro lo nr rc nl lc ys _ (copy_in (rT := 47) (iT := 3) (E := 98) HTI.out hA1 (.tail _ (.tail _ (.tail _ (.tail _ (.tail _ (.head _)))))) (.tail _ (.tail _ (.tail _ (.tail _ (.tail _ (.tail _ (.head _))))))) HYS.out (fun y hy => (.tail _ (.tail _ (.tail _ (.tail _ (.tail _ (.tail _ (.tail _ (rootRows_mem hy)))))))))).R HYS.out (by omega) (copy_in (rT := 47) (iT := 3) (E := 98) HTI.out hA1 (.tail _ (.tail _ (.tail _ (.tail _ (.tail _ (.head _)))))) (.tail _ (.tail _ (.tail _ (.tail _ (.tail _ (.tail _ (.head _))))))) HYS.out (fun y hy => (.tail _ (.tail _ (.tail _ (.tail _ (.tail _ (.tail _ (.tail _ (rootRows_mem hy)))))))))).L HTI.out.ln (by omega)).mono ?_
          rintro _ w9 ⟨rfl, h4⟩
          have hA2 := St.call0 hA1 h4
          clear h4 hA1
          refine hK.out _ _ ?_ (fun hHeld => ?_)
          · exact ⟨ldA ((tabC t (.slice ro nr rc) (.slice lo nl lc))) [_, _] hA2 (rfl) (rfl), ldA ((tabC t (.slice ar nr cr) (.slice al nl cl))) [_, _, _, _] hA2 (rfl) (rfl), ldA ((tabC u (.slice ar' nr' cr') (.slice al' nl' cl'))) [_, _, _] hA2 (rfl) (rfl)⟩
          clear hK K
          (try simp only [Act.put, List.setIfInBounds_toArray, List.set_cons_zero, List.set_cons_succ])
          refine wpAnyH_ready (rs := [22]) (by kernel_rfl) (by simp) ?_
          refine (AllReadyH.cons (o := ⟨some 75, _, _, _, _, _⟩) rfl (fun K hK => ?_) AllReadyH.nil)
          rw [if_pos (by rfl)]
          go_simp
          go_at_call 27
          refine (refCheck12_any t ar al nr cr nl cl xs _ (HTI.out.old hA2.nil).R HTI.out.eq (by omega) (HTI.out.old hA2.nil).L HTI.out.ln (by omega)).mono ?_
          rintro _ w9 ⟨rfl, h4⟩
          have hA3 := St.call0 hA2 h4
          clear h4 hA2
          refine hK.out _ _ ?_ (fun hHeld => ?_)
          · exact ⟨ldA ((tabC t (.slice ro nr rc) (.slice lo nl lc))) [_, _] hA3 (rfl) (rfl), ldA ((tabC t (.slice ar nr cr) (.slice al nl cl))) [_, _, _, _] hA3 (rfl) (rfl), ldA ((tabC u (.slice ar' nr' cr') (.slice al' nl' cl'))) [_, _, _] hA3 (rfl) (rfl)⟩
          clear hK K
          (try simp only [Act.put, List.setIfInBounds_toArray, List.set_cons_zero, List.set_cons_succ])
          refine tk 23 76 ?_
          (try simp only [Act.put, List.setIfInBounds_toArray, List.set_cons_zero, List.set_cons_succ])
          refine tk 24 77 ?_
          (try simp only [Act.put, List.setIfInBounds_toArray, List.set_cons_zero, List.set_cons_succ])
          refine tk 25 78 ?_
          (try simp only [Act.put, List.setIfInBounds_toArray, List.set_cons_zero, List.set_cons_succ])
          refine tk 26 79 ?_
          (try simp only [Act.put, List.setIfInBounds_toArray, List.set_cons_zero, List.set_cons_succ])
          refine tk 27 80 ?_
          (try simp only [Act.put, List.setIfInBounds_toArray, List.set_cons_zero, List.set_cons_succ])
          refine tk 29 82 ?_
          (try simp only [Act.put, List.setIfInBounds_toArray, List.set_cons_zero, List.set_cons_succ])
          refine tk 30 83 ?_
          (try simp only [Act.put, List.setIfInBounds_toArray, List.set_cons_zero, List.set_cons_succ])
          refine wpAnyH_ready (rs := [28]) (by kernel_rfl) (by simp) ?_
          refine (AllReadyH.cons (o := ⟨some 81, _, _, _, _, _⟩) rfl (fun K hK => ?_) AllReadyH.nil)
          rw [if_pos (by rfl)]
          go_simp
          go_at_call 28
          refine (same12_any t u ro lo ar' al' nr rc nl lc nr' cr' nl' cl' ys ys' _ (copy_in (rT := 47) (iT := 3) (E := 98) HTI.out hA3 (.tail _ (.tail _ (.tail _ (.tail _ (.tail _ (.head _)))))) (.tail _ (.tail _ (.tail _ (.tail _ (.tail _ (.tail _ (.head _))))))) HYS.out (fun y hy => (.tail _ (.tail _ (.tail _ (.tail _ (.tail _ (.tail _ (.tail _ (rootRows_mem hy)))))))))) (HUI.out.old hA3.nil)).mono ?_
          rintro _ w9 ⟨rfl, h4⟩
          have hA4 := St.call0 hA3 h4
          clear h4 hA3
          refine hK.out _ _ ?_ (fun hHeld => ?_)
          · exact ⟨ldA ((tabC t (.slice ro nr rc) (.slice lo nl lc))) [_, _] hA4 (rfl) (rfl), ldA ((tabC t (.slice ar nr cr) (.slice al nl cl))) [_, _, _, _] hA4 (rfl) (rfl), ldA ((tabC u (.slice ar' nr' cr') (.slice al' nl' cl'))) [_, _, _] hA4 (rfl) (rfl)⟩
          clear hK K
          (try simp only [Act.put, List.setIfInBounds_toArray, List.set_cons_zero, List.set_cons_succ])
          refine wpAnyH_ready (rs := [31]) (by kernel_rfl) (by simp) ?_
          refine (AllReadyH.cons (o := ⟨some 84, _, _, _, _, _⟩) rfl (fun K hK => ?_) AllReadyH.nil)
          rw [if_pos (by rfl)]
          go_simp
          go_at_call 29
          refine (refSame12_any t u ar al ar' al' nr cr nl cl nr' cr' nl' cl' xs ys' _ (HTI.out.old hA4.nil) (HUI.out.old hA4.nil)).mono ?_
          rintro _ w9 ⟨rfl, h4⟩
          have hA5 := St.call0 hA4 h4
          clear h4 hA4
          refine hK.out _ _ ?_ (fun hHeld => ?_)
          · exact ⟨ldA ((tabC t (.slice ro nr rc) (.slice lo nl lc))) [_, _] hA5 (rfl) (rfl), ldA ((tabC t (.slice ar nr cr) (.slice al nl cl))) [_, _, _, _] hA5 (rfl) (rfl), ldA ((tabC u (.slice ar' nr' cr') (.slice al' nl' cl'))) [_, _, _] hA5 (rfl) (rfl)⟩
          clear hK K
          (try simp only [Act.put, List.setIfInBounds_toArray, List.set_cons_zero, List.set_cons_succ])
          refine tk 32 85 ?_
          (try simp only [Act.put, List.setIfInBounds_toArray, List.set_cons_zero, List.set_cons_succ])
          refine tk 33 86 ?_
          (try simp only [Act.put, List.setIfInBounds_toArray, List.set_cons_zero, List.set_cons_succ])
          refine tk 34 16 ?_
          (try simp only [Act.put, List.setIfInBounds_toArray, List.set_cons_zero, List.set_cons_succ])
          refine wpAnyH_done (by kernel_rfl) ?_ _
          clear hHeld
          go_wp2_with (first | go_big_skip | go_big_guard | (go_at_call 30; refine (over_rowP _ _ _ _ (hA5.ownsP (.tail _ (.head _))).1 (hA5.ownsP (.tail _ (.head _))).2).mono ?_; rintro _ w9 ⟨rfl, h4⟩; have hB1 := St.callRowP (St.front (L1 := [_]) hA5) h4; clear h4 hA5) | (refine wl_loadE rfl rfl rfl ?_; first | refine ⟨_, Loads.atA (tabC t (.slice ro nr rc) (.slice lo nl lc)) [_] hB1 rfl rfl, ?_⟩ | refine ⟨_, Loads.atA (tabC t (.slice ar nr cr) (.slice al nl cl)) [_, _, _] hB1 rfl rfl, ?_⟩) | (go_at_call 12; refine (kitTable_any t t ro lo ar al nr rc nl lc nr cr nl cl ys xs _ (copy_in (rT := 47) (iT := 3) (E := 98) HTI.out hB1 (.tail _ (.tail _ (.tail _ (.tail _ (.head _))))) (.tail _ (.tail _ (.tail _ (.tail _ (.tail _ (.head _)))))) HYS.out (fun y hy => (.tail _ (.tail _ (.tail _ (.tail _ (.tail _ (.tail _ (rootRows_mem hy))))))))) (HTI.out.old hB1.nil)).mono ?_; rw [show t.sameB t = true from TC.sameB_iff.2 rfl]; rintro _ w9 ⟨rfl, h4⟩; replace hB1 := St.call0 hB1 h4; clear h4) | (go_at_call 8; refine (awake12_any _).mono ?_; rintro _ w9 ⟨rfl, h4⟩; have hst9 := St.call0 hB1 h4; clear h4))
          go_ret
          exact ⟨rfl, hst9.nil⟩
    · have H2 := hid h2
      clear ht hu h1 h2
      go_enter Try.func5, Try.ntmps5
      go_wp2_with (first | go_big_skip | go_big_guard | (refine wl_boxA hst0 rfl rfl rfl ?_; intro g3 w1 hst1; clear hst0) | (refine wl_boxA hst1 rfl rfl rfl ?_; intro g4 w2 hst; clear hst1) | (refine wl_loadE rfl rfl rfl ?_; first | refine ⟨_, Loads.atA (tabC t (.slice ar nr cr) (.slice al nl cl)) [_] hst rfl rfl, ?_⟩ | refine ⟨_, Loads.atA (tabC u (.slice ar' nr' cr') (.slice al' nl' cl')) [] hst rfl rfl, ?_⟩) | (go_at_call 21; first | (refine (longTable_any t ar al nr cr nl cl xs _ (HT.out.old hst.nil)).mono ?_; rw [H1.out]; rintro _ w9 ⟨rfl, h4⟩; replace hst := St.call0 hst h4; clear h4) | (refine (longTable_any u ar' al' nr' cr' nl' cl' ys' _ (HU.out.old hst.nil)).mono ?_; rw [H2.out]; rintro _ w9 ⟨rfl, h4⟩; replace hst := St.call0 hst h4; clear h4)) | (go_at_call 8; refine (awake12_any _).mono ?_; rintro _ w9 ⟨rfl, h4⟩; have hst9 := St.call0 hst h4; clear h4))
      go_ret
      exact ⟨rfl, hst9.nil⟩
  · have H1 := hid h1
    cases h2 : u.longB
    all_goals
      have H2 := hid h2
      clear ht hu h1 h2
      go_enter Try.func5, Try.ntmps5
      go_wp2_with (first | go_big_skip | go_big_guard | (refine wl_boxA hst0 rfl rfl rfl ?_; intro g3 w1 hst1; clear hst0) | (refine wl_boxA hst1 rfl rfl rfl ?_; intro g4 w2 hst; clear hst1) | (refine wl_loadE rfl rfl rfl ?_; first | refine ⟨_, Loads.atA (tabC t (.slice ar nr cr) (.slice al nl cl)) [_] hst rfl rfl, ?_⟩ | refine ⟨_, Loads.atA (tabC u (.slice ar' nr' cr') (.slice al' nl' cl')) [] hst rfl rfl, ?_⟩) | (go_at_call 21; first | (refine (longTable_any t ar al nr cr nl cl xs _ (HT.out.old hst.nil)).mono ?_; rw [H1.out]; rintro _ w9 ⟨rfl, h4⟩; replace hst := St.call0 hst h4; clear h4) | (refine (longTable_any u ar' al' nr' cr' nl' cl' ys' _ (HU.out.old hst.nil)).mono ?_; rw [H2.out]; rintro _ w9 ⟨rfl, h4⟩; replace hst := St.call0 hst h4; clear h4)) | (go_at_call 8; refine (awake12_any _).mono ?_; rintro _ w9 ⟨rfl, h4⟩; have hst9 := St.call0 hst h4; clear h4))
      go_ret
      exact ⟨rfl, hst9.nil⟩
end Go.Proofs.Ytkpkaoiafppimaa
namespace Go.Proofs.Ytkpkaoiafppimaa
set_option linter.unusedVariables false
set_option linter.unusedSimpArgs false
open Go.ChangeShapes Go.WideShapes Go.ChangeAt Go.RowKit Hp
set_option maxRecDepth 100000 in
theorem recordTells_lifted (os : Os) (started : os.Started) (H : Type) (enc : TypeId × Value → H) :
    ReturnsInHanded {} Try.checked os 5 .any (Rows.recordTellsSpec.pre6 enc Try.prog Try.f5 Rows.recordTellsRow.domain false) (Rows.recordTellsSpec.post enc Try.prog Try.f5 false true false false) := by
  refine returnsInHanded_of_change (C := Try.checked) own started (by kernel_rfl) Try.func5
    (ChangeSpec.witness6 (enc := enc) (C := Try.checked) false ⟨#[], #[.agg #[.int .i64 0, .slice none 0 0, .int .i64 0, .int .i64 0, .int .i64 0, .int .i64 0, .slice none 0 0], .agg #[.int .i64 0, .slice none 0 0, .int .i64 0, .int .i64 0, .int .i64 0, .int .i64 0, .slice none 0 0], .string ⟨#[]⟩], []⟩ 8 (by kernel_rfl) (by kernel_rfl) (by kernel_rfl) (by kernel_rfl)) ?_
  intro W base args ds gs before hval0 hW hcnd _
  have hval : ∀ (j : Nat) t v, Try.f5.params[j]? = some t → args[j]? = some v → Value.okWide Try.prog W .any base t v := hval0
  have hW' := hW
  obtain ⟨p, q, hAA0, hV, rfl, hfz, hnd⟩ := hW
  have hA : DataW.TrodAll enc Try.prog W 0 (fun _ => true) true Try.f5.params.toList args.toList ds p := hAA0
  rw [Try.params5] at hA hval
  have hk := hA
  obtain ⟨v0, v1, v2, d0, d1, d2, p0, p1, p2, rfl, rfl, rfl, h0, h1, h2⟩ := trodAll_three hA
  obtain ⟨rfl, rfl⟩ := trodVars_none hV
  obtain ⟨n0, h0⟩ := h0
  obtain ⟨t0, ar0, nr0, cr0, al0, nl0, cl0, xs0, rfl, hT0⟩ := open_tableD (hval 0 _ v0 rfl rfl) h0
  obtain ⟨n1, h1⟩ := h1
  obtain ⟨t1, ar1, nr1, cr1, al1, nl1, cl1, xs1, rfl, hT1⟩ := open_tableD (hval 1 _ v1 rfl rfl) h1
  obtain ⟨s2, rfl, hs2⟩ := open_str (hval 2 _ v2 rfl rfl)
  clear hAA0 hval0
  simp only [List.append_nil] at hW'
  refine (recordTells_law t0 t1 ar0 al0 ar1 al1 nr0 cr0 nl0 cl0 nr1 cr1 nl1 cl1 xs0 xs1 s2 W hT0 hT1 (by exact hs2)).mono fun e W' ⟨he, hg⟩ => ?_
  subst he
  exact ⟨_, rfl, post_of_kept (pv := []) hW' (fun _ _ _ => (trodAll_cons_mk (shut_bool Try.underlying4 _) trodAll_mk0)) (fun sp hsp => by
      rw [Try.params5]
      exact args_kept (by decide) hk hg.below (fun p hp => hW'.lt p hp) sp hsp) (fun _ _ => rfl) (by simp)
    (hg.below.frame _)⟩
theorem recordTells_over : Rows.recordTellsRow.holds Try.pinned (OpenSpec.ofChange Rows.recordTellsSpec) :=
  OpenClaim.holds_of_wide 5 Try.f5 rfl rfl rfl rfl rfl rfl rfl ⟨rfl, rfl, rfl, rfl, rfl⟩ rfl rfl rfl rfl rfl (by kernel_rfl) Try.func5 (by kernel_rfl)
    (of_decide_eq_true (by kernel_rfl)) (by unfold Func.isWrapper; first | (rw [if_pos (by decide +kernel)]; kernel_rfl) | (rw [if_neg (by decide +kernel)]; exact ⟨rfl, rfl⟩))
    (fun os started H enc _ => recordTells_lifted os started H enc)

theorem recordTells_proved : Rows.RecordTellsSaid :=
  recordTells_over
end Go.Proofs.Ytkpkaoiafppimaa
