import Derived.Test.YtmdfbdfijnmhkaaGreatR12
namespace Go.Proofs.YtmdfbdfijnmhkaaGreat
set_option linter.unusedVariables false
set_option linter.unusedSimpArgs false
open Go.RowKit Hp
attribute [local irreducible] Go.Calls Go.wpList
set_option maxRecDepth 100000
set_option maxHeartbeats 4000000
def AR.up (a : AR) (dev : Int) : Bool := (!a.out && a.inD dev) && !(a.dv dev).gone
theorem ArrAll.later {w0 w : World} {L : List HA} {ga : Nat} {x : GA} {a : AR} (hst : St w0 [] w L) (h : ArrAll w0 ga x a) : ArrAll w ga x a :=
  ⟨h.toArrAt.later hst, Rd.old hst h.loo, fun d hd j v hj => hst.old_cell (h.frm d hd j v hj) (by simp)⟩
theorem up_any {w : World} {ga : Nat} {x : GA} {a : AR} (h : ArrAt w ga x a) (dev : Int) : Calls Tryz.prog 42 #[.pointer (some ⟨ga, 0, none⟩), .int .i64 dev] w fun e w' => e = .returned (.bool (a.up dev)) ∧ St w [] w' [] := by
  have hst := St.refl w
  have H := hid h
  have H0 := hid h.c0
  have H3 := hid h.c3
  unfold AR.up
  cases ho : a.out
  · rw [Bool.not_false, Bool.true_and]
    rw [ho] at H3
    cases hin : a.inD dev
    · rw [Bool.false_and]
      have HI := hid hin
      clear h ho hin
      go_enter Tryz.func42, Tryz.ntmps42
      go_wp2_with (first | go_big_skip | go_big_guard | (go_at_call 51; refine (none_any (ArrAt.later hst H.out)).mono ?_; rintro _ w9 ⟨rfl, h4⟩; replace hst := St.call0 hst h4; clear h4) | (refine wl_loadE rfl rfl rfl ?_; first | refine ⟨_, Loads.old hst H0.out, ?_⟩ | refine ⟨_, Loads.old hst H3.out, ?_⟩) | (go_at_call 94; have HD := device_any (ArrAt.later hst H.out) dev; rw [HI.out] at HD; refine (HD).mono ?_; rintro _ w9 ⟨rfl, h4⟩; replace hst := St.call0 hst h4; clear h4))
      go_ret
      exact ⟨rfl, hst⟩
    · rw [Bool.true_and]
      have HI := hid hin
      have hdg := devs_get hin
      obtain ⟨k, rfl⟩ : ∃ k : Nat, dev = k := ⟨dev.toNat, by have := (inD_dev hin).1; omega⟩
      have hlt : k < a.devs.length := by have := (inD_dev hin).2; omega
      have HG := hid (show w.cell? ⟨x.gd, k * 5 + 1, none⟩ = some (.bool (a.dv (k : Int)).gone) from h.dcell hdg (i := 1) rfl (by decide))
      obtain ⟨a9, ha9⟩ : ∃ a9, a9 = (a.dv (k : Int)).gone := ⟨_, rfl⟩
      rw [← ha9] at HG ⊢
      clear h ho hin hdg ha9
      go_enter Tryz.func42, Tryz.ntmps42
      go_wp2_with (first | go_big_skip | go_big_guard | (go_at_call 51; refine (none_any (ArrAt.later hst H.out)).mono ?_; rintro _ w9 ⟨rfl, h4⟩; replace hst := St.call0 hst h4; clear h4) | (refine wl_loadE rfl rfl rfl ?_; first | refine ⟨_, Loads.old hst H0.out, ?_⟩ | refine ⟨_, Loads.old hst H3.out, ?_⟩ | refine ⟨_, Loads.old hst HG.out, ?_⟩) | (go_at_call 94; have HD := device_any (ArrAt.later hst H.out) (k : Int); rw [HI.out] at HD; refine (HD).mono ?_; rintro _ w9 ⟨rfl, h4⟩; replace hst := St.call0 hst h4; clear h4) | (refine wl_index (k := k) rfl rfl rfl rfl hlt ?_))
      go_ret
      exact ⟨rfl, hst⟩
  · rw [Bool.not_true, Bool.false_and, Bool.false_and]
    rw [ho] at H3
    clear h ho
    go_enter Tryz.func42, Tryz.ntmps42
    go_wp2_with (first | go_big_skip | go_big_guard | (go_at_call 51; refine (none_any (ArrAt.later hst H.out)).mono ?_; rintro _ w9 ⟨rfl, h4⟩; replace hst := St.call0 hst h4; clear h4) | (refine wl_loadE rfl rfl rfl ?_; first | refine ⟨_, Loads.old hst H0.out, ?_⟩ | refine ⟨_, Loads.old hst H3.out, ?_⟩))
    go_ret
    exact ⟨rfl, hst⟩
end Go.Proofs.YtmdfbdfijnmhkaaGreat
