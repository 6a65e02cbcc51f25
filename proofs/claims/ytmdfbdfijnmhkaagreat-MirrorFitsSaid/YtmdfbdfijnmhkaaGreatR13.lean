import Derived.Test.YtmdfbdfijnmhkaaGreatR12
namespace Go.Proofs.YtmdfbdfijnmhkaaGreat
set_option linter.unusedVariables false
set_option linter.unusedSimpArgs false
open Go.RowKit Hp
attribute [local irreducible] Go.Calls Go.wpList
set_option maxRecDepth 100000
set_option maxHeartbeats 4000000
def AR.up (a : AR) (dev : Int) : Bool := (!a.out && a.inD dev) && !(a.dv dev).gone
def AR.peekB (a : AR) (dev pl : Int) : Bool := a.up dev && a.inS dev pl
def AR.peekL (a : AR) (dev pl : Int) : List UInt8 := if a.peekB dev pl then a.tells dev pl else []
theorem ArrAll.later {w0 w : World} {L : List HA} {ga : Nat} {x : GA} {a : AR} (hst : St w0 [] w L) (h : ArrAll w0 ga x a) : ArrAll w ga x a :=
  ⟨h.toArrAt.later hst, Rd.old hst h.loo, fun d hd j v hj => hst.old_cell (h.frm d hd j v hj) (by simp)⟩
theorem up_any {w : World} {ga : Nat} {x : GA} {a : AR} (h : ArrAt w ga x a) (dev : Int) : Calls Tryz.prog 42 #[.pointer (some ⟨ga, 0, none⟩), .int .i64 dev] w fun e w' => e = .returned (.bool (a.up dev)) ∧ St w [] w' [] := by
  have hst := St.refl w
  have H := hid h
  have H0 := hid h.c0
  have H3 := hid h.c3
  unfold AR.up
  cases ho : a.out
  · rw [Bool.not_false, Bool.true_and]
    rw [ho] at H3
    cases hin : a.inD dev
    · rw [Bool.false_and]
      have HI := hid hin
      clear h ho hin
      go_enter Tryz.func42, Tryz.ntmps42
      go_wp2_with (first | go_big_skip | go_big_guard | (go_at_call 51; refine (none_any (ArrAt.later hst H.out)).mono ?_; rintro _ w9 ⟨rfl, h4⟩; replace hst := St.call0 hst h4; clear h4) | (refine wl_loadE rfl rfl rfl ?_; first | refine ⟨_, Loads.old hst H0.out, ?_⟩ | refine ⟨_, Loads.old hst H3.out, ?_⟩) | (go_at_call 94; have HD := device_any (ArrAt.later hst H.out) dev; rw [HI.out] at HD; refine (HD).mono ?_; rintro _ w9 ⟨rfl, h4⟩; replace hst := St.call0 hst h4; clear h4))
      go_ret
      exact ⟨rfl, hst⟩
    · rw [Bool.true_and]
      have HI := hid hin
      have hdg := devs_get hin
      obtain ⟨k, rfl⟩ : ∃ k : Nat, dev = k := ⟨dev.toNat, by have := (inD_dev hin).1; omega⟩
      have hlt : k < a.devs.length := by have := (inD_dev hin).2; omega
      have HG := hid (show w.cell? ⟨x.gd, k * 5 + 1, none⟩ = some (.bool (a.dv (k : Int)).gone) from h.dcell hdg (i := 1) rfl (by decide))
      obtain ⟨a9, ha9⟩ : ∃ a9, a9 = (a.dv (k : Int)).gone := ⟨_, rfl⟩
      rw [← ha9] at HG ⊢
      clear h ho hin hdg ha9
      go_enter Tryz.func42, Tryz.ntmps42
      go_wp2_with (first | go_big_skip | go_big_guard | (go_at_call 51; refine (none_any (ArrAt.later hst H.out)).mono ?_; rintro _ w9 ⟨rfl, h4⟩; replace hst := St.call0 hst h4; clear h4) | (refine wl_loadE rfl rfl rfl ?_; first | refine ⟨_, Loads.old hst H0.out, ?_⟩ | refine ⟨_, Loads.old hst H3.out, ?_⟩ | refine ⟨_, Loads.old hst HG.out, ?_⟩) | (go_at_call 94; have HD := device_any (ArrAt.later hst H.out) (k : Int); rw [HI.out] at HD; refine (HD).mono ?_; rintro _ w9 ⟨rfl, h4⟩; replace hst := St.call0 hst h4; clear h4) | (refine wl_index (k := k) rfl rfl rfl rfl hlt ?_))
      go_ret
      exact ⟨rfl, hst⟩
  · rw [Bool.not_true, Bool.false_and, Bool.false_and]
    rw [ho] at H3
    clear h ho
    go_enter Tryz.func42, Tryz.ntmps42
    go_wp2_with (first | go_big_skip | go_big_guard | (go_at_call 51; refine (none_any (ArrAt.later hst H.out)).mono ?_; rintro _ w9 ⟨rfl, h4⟩; replace hst := St.call0 hst h4; clear h4) | (refine wl_loadE rfl rfl rfl ?_; first | refine ⟨_, Loads.old hst H0.out, ?_⟩ | refine ⟨_, Loads.old hst H3.out, ?_⟩))
    go_ret
    exact ⟨rfl, hst⟩
theorem loose_any {w : World} {ga : Nat} {x : GA} {a : AR} (h : ArrAll w ga x a) : Calls Tryz.prog 19 #[.pointer (some ⟨ga, 0, none⟩)] w fun e w' => e = .returned (.int .i64 a.loose.length) ∧ St w [] w' [] := by
  have hst := St.refl w
  have H := hid h.toArrAt
  have H1 := hid h.c1
  obtain ⟨nl, hnl⟩ : ∃ nl, nl = a.loose.length := ⟨_, rfl⟩
  have HL := h.loo
  rw [← hnl] at HL ⊢
  obtain ⟨lao, lc, hlv⟩ : ∃ ao c, x.lv = .slice ao nl c := by
    rcases HL.casesF with ⟨e, e2, _⟩ | ⟨A, c, e, _⟩
    · exact ⟨none, 0, by rw [e, e2]⟩
    · exact ⟨some A, c, e⟩
  rw [hlv] at H1
  clear h hnl HL hlv
  go_enter Tryz.func19, Tryz.ntmps19
  go_wp2_with (first | go_big_skip | go_big_guard | (go_at_call 51; refine (none_any (ArrAt.later hst H.out)).mono ?_; rintro _ w9 ⟨rfl, h4⟩; replace hst := St.call0 hst h4; clear h4) | (refine wl_loadE rfl rfl rfl ?_; first | refine ⟨_, Loads.old hst H1.out, ?_⟩))
  go_ret
  exact ⟨rfl, hst⟩
theorem peek_any {w : World} {ga : Nat} {x : GA} {a : AR} (h : ArrAll w ga x a) (ok : a.Ok) (hll : a.loose.length < 1000000) (dev pl : Int) :
    Calls Tryz.prog 17 #[.pointer (some ⟨ga, 0, none⟩), .int .i64 dev, .int .i64 pl] w fun e w' => ∃ u, e = .returned (.tuple #[u, .bool (a.peekB dev pl)]) ∧ St w [] w' [.row u 5 1 (a.peekL dev pl).length (bytesV (a.peekL dev pl))] := by
  have hst := St.refl w
  have H := hid h
  have OK := hid ok
  unfold AR.peekL AR.peekB
  cases hu : a.up dev
  · rw [Bool.false_and]
    have HU := hid hu
    clear h ok hu
    go_enter Tryz.func17, Tryz.ntmps17
    go_wp2_with (first | go_big_skip | go_big_guard | (go_at_call 42; have HD := up_any (ArrAt.later hst H.out.toArrAt) dev; rw [HU.out] at HD; refine (HD).mono ?_; rintro _ w9 ⟨rfl, h4⟩; replace hst := St.call0 hst h4; clear h4))
    go_ret2
    exact ⟨.slice none 0 0, rfl, St.nilR _ 1 hst⟩
  · rw [Bool.true_and]
    cases hs : a.inS dev pl
    · have HU := hid hu
      have HS := hid hs
      clear h ok hu hs
      go_enter Tryz.func17, Tryz.ntmps17
      go_wp2_with (first | go_big_skip | go_big_guard | (go_at_call 42; have HD := up_any (ArrAt.later hst H.out.toArrAt) dev; rw [HU.out] at HD; refine (HD).mono ?_; rintro _ w9 ⟨rfl, h4⟩; replace hst := St.call0 hst h4; clear h4) | (go_at_call 49; have HD := sector_any (ArrAt.later hst H.out.toArrAt) dev pl; rw [HS.out] at HD; refine (HD).mono ?_; rintro _ w9 ⟨rfl, h4⟩; replace hst := St.call0 hst h4; clear h4))
      go_ret2
      exact ⟨.slice none 0 0, rfl, St.nilR _ 1 hst⟩
    · have HU := hid hu
      have HS := hid hs
      obtain ⟨k, rfl⟩ : ∃ k : Nat, dev = k := ⟨dev.toNat, by have := (inD_dev (inS_inD hs)).1; omega⟩
      obtain ⟨p, rfl⟩ : ∃ p : Nat, pl = p := ⟨pl.toNat, by have := (inS_pl hs).1; omega⟩
      have hT := tells_len ok hs a.loose.length
      rw [List.take_length] at hT
      have HT := hid (show (a.tells (k : Int) (p : Int)).length = 256 from hT)
      rw [if_pos rfl]
      obtain ⟨R, hR⟩ : ∃ R, R = a.tells (k : Int) (p : Int) := ⟨_, rfl⟩
      have HR := hid hR
      rw [← hR] at HT ⊢
      clear h ok hu hs hT hR
      go_enter Tryz.func17, Tryz.ntmps17
      go_wp2_with (first | go_big_skip | go_big_guard | (go_at_call 42; have HD := up_any (ArrAt.later hst H.out.toArrAt) (k : Int); rw [HU.out] at HD; refine (HD).mono ?_; rintro _ w9 ⟨rfl, h4⟩; replace hst := St.call0 hst h4; clear h4) | (go_at_call 49; have HD := sector_any (ArrAt.later hst H.out.toArrAt) (k : Int) (p : Int); rw [HS.out] at HD; refine (HD).mono ?_; rintro _ w9 ⟨rfl, h4⟩; replace hst := St.call0 hst h4; clear h4) | (go_at_call 50; refine (tells_any (ArrAll.later hst H.out) OK.out hll k p HS.out).mono ?_; rw [← HR.out]; rintro _ w8 ⟨u, rfl, h4⟩; have hst2 := St.call hst h4; clear h4 hst))
      go_ret2
      refine ⟨u, rfl, ?_⟩
      rw [HT.out]
      exact hst2
end Go.Proofs.YtmdfbdfijnmhkaaGreat
