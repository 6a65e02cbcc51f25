import Derived.Test.YtmdfbdfijnmhkaaGreatR24
namespace Go.Proofs.YtmdfbdfijnmhkaaGreat
set_option linter.unusedVariables false
set_option linter.unusedSimpArgs false
open Go.RowKit Hp
set_option maxRecDepth 100000
theorem secs_eq (a : AR) : a.secs = ((a.devs[0]?).map fun d => d.firm.length).getD 0 := by
  unfold AR.secs
  cases a.devs <;> rfl
theorem upd_secs {a : AR} {dev : Int} {f : DV → DV} (hin : a.inD dev = true) (hl : (f (a.dv dev)).firm.length = (a.dv dev).firm.length) : (a.upd dev f).secs = a.secs := by
  have hd := devs_get hin
  rw [secs_eq, secs_eq]
  unfold AR.upd
  rw [modify_get]
  by_cases h0 : dev.toNat = 0
  · rw [if_pos h0, ← h0, hd, Option.map_some, Option.map_some, Option.map_some, hl]
  · rw [if_neg h0]
theorem mem_upd {a : AR} {dev : Int} {f : DV → DV} {d : DV} (hin : a.inD dev = true) (hd : d ∈ (a.upd dev f).devs) : d = f (a.dv dev) ∨ d ∈ a.devs := by
  unfold AR.upd at hd
  obtain ⟨j, hj⟩ := List.getElem?_of_mem hd
  rw [modify_get] at hj
  by_cases h0 : dev.toNat = j
  · subst h0
    rw [if_pos rfl, devs_get hin, Option.map_some] at hj
    exact .inl (Option.some.inj hj).symm
  · rw [if_neg h0] at hj
    exact .inr (List.mem_of_getElem? hj)
def DV.Fine (s : Nat) (d : DV) : Prop := d.firm.length = s ∧ (∀ t ∈ d.firm, t.length = 256) ∧ (d.st = true → 0 ≤ d.to ∧ d.to < s) ∧ 0 ≤ d.fail ∧ d.fail ≤ 9223372036854775807
theorem AR.Ok.dv {a : AR} (ok : a.Ok) {dev : Int} (hin : a.inD dev = true) : (a.dv dev).Fine a.secs := ok.fm _ (List.mem_of_getElem? (devs_get hin))
theorem AR.Ok.upd {a : AR} (ok : a.Ok) {dev : Int} {f : DV → DV} (hin : a.inD dev = true) (hf : (f (a.dv dev)).Fine a.secs) : (a.upd dev f).Ok := by
  have hs : (a.upd dev f).secs = a.secs := upd_secs hin (by rw [hf.1, (ok.dv hin).1])
  have hl : (a.upd dev f).devs.length = a.devs.length := upd_len _ _ _
  refine ⟨?_, by rw [hl]; exact ok.dn, by rw [hs]; exact ok.sn, fun d hd => ?_, ?_, ok.fu⟩
  · intro h
    rw [h] at hl
    exact ok.d0 (List.eq_nil_of_length_eq_zero hl.symm)
  · rw [hs]
    rcases mem_upd hin hd with rfl | h
    · exact hf
    · exact ok.fm d h
  · intro w hw
    rw [hl, hs]
    exact ok.lw w hw
theorem AR.Ok.loose {a : AR} (ok : a.Ok) {l : List LW} (h : ∀ w ∈ l, w.dev < a.devs.length ∧ w.pl < a.secs ∧ w.b.length = 256) : ({ a with loose := l } : AR).Ok := ⟨ok.d0, ok.dn, ok.sn, ok.fm, h, ok.fu⟩
theorem AR.Ok.step {a : AR} (ok : a.Ok) : a.step.Ok := by
  have h := ok.fu
  unfold AR.step
  split
  · exact ⟨ok.d0, ok.dn, ok.sn, ok.fm, ok.lw, ok.fu⟩
  · refine ⟨ok.d0, ok.dn, ok.sn, ok.fm, ok.lw, ?_⟩
    show -1 ≤ (if 0 < a.fuse then a.fuse - 1 else a.fuse) ∧ (if 0 < a.fuse then a.fuse - 1 else a.fuse) ≤ 9223372036854775807
    split <;> omega
theorem AR.Ok.lay {a : AR} (ok : a.Ok) {dev pl : Int} {b : List UInt8} (hs : a.inS dev pl = true) (hb : b.length = 256) : (a.lay dev pl b).Ok := by
  have hin := inS_inD hs
  have hf := ok.dv hin
  have hd := inD_dev hin
  have hp := inS_pl hs
  unfold AR.lay
  split
  · exact ok.upd hin hf
  · split
    · rename_i hst
      have ok2 := ok.upd (f := fun d => { d with st := false }) hin ⟨hf.1, hf.2.1, (fun h => by cases h), hf.2.2.2⟩
      refine ok2.loose fun w hw => ?_
      rcases List.mem_append.1 hw with h | h
      · have := ok2.lw w h
        exact this
      · simp only [List.mem_singleton] at h
        subst h
        have hto := hf.2.2.1 hst
        rw [upd_len, upd_secs hin rfl]
        exact ⟨by show dev.toNat < _; omega, by show ((a.dv dev).to).toNat < _; omega, hb⟩
    · refine ok.loose fun w hw => ?_
      rcases List.mem_append.1 hw with h | h
      · exact ok.lw w h
      · simp only [List.mem_singleton] at h
        subst h
        exact ⟨by show dev.toNat < _; omega, by show pl.toNat < _; omega, hb⟩
theorem AR.Ok.write {a : AR} (ok : a.Ok) (dev pl : Int) (b : List UInt8) : (a.write dev pl b).Ok := by
  unfold AR.write
  split
  · exact ok
  · rename_i h
    split
    · exact ok.step
    · have hs : a.inS dev pl = true := by
        cases hh : a.inS dev pl
        · exact absurd (.inr (.inr (.inl hh))) h
        · rfl
      have hb : b.length = 256 := by
        by_cases hh : b.length = 256
        · exact hh
        · exact absurd (.inr (.inr (.inr (.inl hh)))) h
      refine ok.step.lay ?_ hb
      unfold AR.inS at hs ⊢
      rw [step_inD, step_secs]
      exact hs
theorem AR.Ok.read {a : AR} (ok : a.Ok) (dev pl : Int) : (a.read dev pl).Ok := by
  unfold AR.read
  split
  · rename_i h
    have hs : a.inS dev pl = true ∧ 0 < (a.dv dev).fail := by
      unfold AR.readE at h
      split at h
      · cases h
      · split at h
        · cases h
        · split at h
          · cases h
          · rename_i hh
            split at h
            · cases h
            · split at h
              · rename_i h5
                exact ⟨by simpa using hh, h5⟩
              · cases h
    have hf := ok.dv (inS_inD hs.1)
    exact ok.upd (inS_inD hs.1) ⟨hf.1, hf.2.1, hf.2.2.1, by show 0 ≤ (a.dv dev).fail - 1; omega, by show (a.dv dev).fail - 1 ≤ _; have := hf.2.2.2.2; omega⟩
  · exact ok
theorem AR.Ok.firms {a : AR} (ok : a.Ok) {k : Nat} (hin : a.inD (k : Int) = true) : (a.firms k).Ok := by
  have hf := ok.dv hin
  have ok2 := ok.upd (f := fun d => { d with firm := (a.loose.filter fun w => w.dev == k).foldl setS d.firm }) hin
    ⟨by rw [show ({ (a.dv (k : Int)) with firm := (a.loose.filter fun w => w.dev == k).foldl setS (a.dv (k : Int)).firm } : DV).firm.length = (a.dv (k : Int)).firm.length from foldS_len _ _]; exact hf.1,
      foldS_all hf.2.1 (fun w hw => (ok.lw w (List.mem_filter.1 hw).1).2.2), hf.2.2⟩
  exact ok2.loose fun w hw => ok2.lw w (List.mem_filter.1 hw).1
theorem AR.Ok.flush {a : AR} (ok : a.Ok) (dev : Int) : (a.flush dev).Ok := by
  unfold AR.flush
  split
  · exact ok
  · rename_i h
    split
    · exact ok.step
    · have hs : a.inD dev = true := by
        cases hh : a.inD dev
        · exact absurd (.inr (.inr (.inl hh))) h
        · rfl
      have h0 := inD_dev hs
      refine ok.step.firms ?_
      rw [step_inD, Int.toNat_of_nonneg h0.1]
      exact hs
theorem AR.Ok.fell {a : AR} (ok : a.Ok) {dev : Int} {rs : List Int} {f : DV → DV} (hf : firstE rs = 0 → a.inD dev = true ∧ (f (a.dv dev)).Fine a.secs) : (a.fell dev rs f).Ok := by
  unfold AR.fell
  split
  · rename_i h
    rw [firstE_snoc] at h
    by_cases h1 : firstE rs = 0
    · exact ok.upd (hf h1).1 (hf h1).2
    · rw [if_neg h1] at h
      exact absurd h h1
  · exact ok
theorem AR.Ok.lose {a : AR} (ok : a.Ok) (dev : Int) : (a.lose dev).Ok := ok.fell fun h => by
  have hin : a.inD dev = true := orE_zero (by decide) (firstE_all h _ (.head _))
  exact ⟨hin, ok.dv hin⟩
theorem AR.Ok.stray {a : AR} (ok : a.Ok) (dev pl : Int) : (a.stray dev pl).Ok := ok.fell fun h => by
  have hs : a.inS dev pl = true := orE_zero (by decide) (firstE_all h _ (.head _))
  have hf := ok.dv (inS_inD hs)
  exact ⟨inS_inD hs, hf.1, hf.2.1, fun _ => inS_pl hs, hf.2.2.2⟩
theorem AR.Ok.fails {a : AR} (ok : a.Ok) (dev n : Int) (hn : n ≤ 9223372036854775807) : (a.fails dev n).Ok := ok.fell fun h => by
  have hin : a.inD dev = true := orE_zero (by decide) (firstE_all h _ (.head _))
  have h0 : decide (0 ≤ n) = true := orE_zero (by decide) (firstE_all h _ (.tail _ (.head _)))
  have hf := ok.dv hin
  exact ⟨hin, hf.1, hf.2.1, hf.2.2.1, of_decide_eq_true h0, hn⟩
theorem AR.Ok.crash {a : AR} (ok : a.Ok) (keep : List Bool) (torn : Int) : (a.crash keep torn).Ok := by
  unfold AR.crash
  split
  · rename_i h
    have ht : torn.toNat ≤ 256 := by
      unfold AR.crashE at h
      rw [if_neg ok.d0] at h
      have := orE_zero (by decide) h
      simp only [Bool.and_eq_true, decide_eq_true_eq] at this
      omega
    have hg := crashN_good ok keep ht a.loose.length
    have hs : (a.crashed keep torn.toNat).secs = a.secs := by
      have h0 : (crashN a keep torn.toNat a.loose.length).1.devs ≠ [] := by
        intro he
        have := hg.len
        rw [he] at this
        exact ok.d0 (List.eq_nil_of_length_eq_zero this.symm)
      unfold AR.secs AR.crashed
      cases hd : (crashN a keep torn.toNat a.loose.length).1.devs with
      | nil => exact absurd hd h0
      | cons d l =>
        show (clean d).firm.length = _
        have := (hg.fm d (by rw [hd]; exact .head _)).1
        exact this
    have hl : (a.crashed keep torn.toNat).devs.length = a.devs.length := by
      unfold AR.crashed
      rw [List.length_map, hg.len]
    refine ⟨?_, by rw [hl]; exact ok.dn, by rw [hs]; exact ok.sn, fun d hd => ?_, (fun w hw => by cases hw), (by show (-1 : Int) ≤ -1 ∧ (-1 : Int) ≤ 9223372036854775807; decide)⟩
    · intro he
      rw [he] at hl
      exact ok.d0 (List.eq_nil_of_length_eq_zero hl.symm)
    · unfold AR.crashed at hd
      obtain ⟨d0, hd0, rfl⟩ := List.mem_map.1 hd
      have := hg.fm d0 hd0
      rw [hs]
      exact ⟨this.1, this.2, (fun h => by cases h), (by show (0 : Int) ≤ 0; decide), (by show (0 : Int) ≤ 9223372036854775807; decide)⟩
  · exact ok
theorem St.behind {w0 w : World} {M : List Nat} {A R : List HA} {p : HA} (h : St w0 M w (p :: (A ++ R))) : St w0 M w (A ++ p :: R) := St.perm h (List.perm_middle.symm)
theorem St.arr {w0 w : World} {M : List Nat} {R : List HA} {ga : Nat} {x : GA} {a : AR} (h : St w0 M w (arP ga x a ++ R)) : St w (arF ga x a) w (arP ga x a) := (St.sub h (List.sublist_append_left _ _)).selfF
end Go.Proofs.YtmdfbdfijnmhkaaGreat
