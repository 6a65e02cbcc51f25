import Derived.Test.YtmdfbdfijnmhkaaGreatJMirrorScriptj
import Derived.Test.YtmdfbdfijnmhkaaGreatJMirrorScripte
import Derived.Test.YtmdfbdfijnmhkaaGreatJMirrorScripth
import Derived.Test.YtmdfbdfijnmhkaaGreatJMirrorScripti
namespace Go.Proofs.YtmdfbdfijnmhkaaGreat
set_option linter.unusedVariables false
set_option linter.unusedSimpArgs false
set_option maxRecDepth 100000
set_option maxHeartbeats 8000000
section
open Go.RowKit Hp
attribute [local irreducible] Go.Calls Go.wpList
theorem spoil_set {a : AR} {k p q : Nat} {m : UInt8} (hk : k < a.devs.length) : a.upd (k : Int) (jX p q m) = a.upd (k : Int) (qE p (((a.dv (k : Int)).firm.getD p []).set q (((a.dv (k : Int)).firm.getD p []).getD q 0 ^^^ m))) := by
 unfold AR.upd
 congr 1
 apply List.ext_getElem?; intro j; rw [yS, yS, Int.toNat_natCast]; split
 ·rename_i h
  subst h; have e : a.devs[k]? = some (a.dv (k : Int)) := by
   unfold AR.dv; rw [Int.toNat_natCast, List.getD_eq_getElem?_getD, List.getElem?_eq_getElem hk]; rfl
  rw [e]; rfl
 ·rfl
theorem bytes_q {W : List UInt8} {q : Nat} (hq : q < W.length) (rest : List Value) : (yb W ++ rest)[q]? = some (.int .u8 (u8I (W.getD q 0))) := by
 rw [List.getElem?_append_left (by rw [length_bytesV]; exact hq)]; unfold yb; rw [List.getElem?_map, List.getElem?_eq_getElem hq, List.getD_eq_getElem?_getD, List.getElem?_eq_getElem hq]; rfl
theorem bytes_putq {W : List UInt8} {q : Nat} (hq : q < W.length) (hl : W.length = 256) (b : UInt8) (rest : List Value) : List.take (256 * 1) (yw (yb W ++ rest) q [.int .u8 (u8I b)]) = yb (W.set q b) := by
 rw [putAt_one _ _ _ (by rw [List.length_append, length_bytesV]; omega), List.set_append_left _ _ (by rw [length_bytesV]; exact hq), List.take_append_of_le_length (by rw [List.length_set, length_bytesV]; omega), List.take_of_length_le (by rw [List.length_set, length_bytesV]; omega)]; unfold yb; rw [List.map_set]; rfl
section
attribute [local go_sem 5000] xor8 xor8r
theorem length_putAt1 (l : List Value) (i : Nat) (v : Value) (hi : i < l.length) : (yw l i [v]).length = l.length := by rw [putAt_one _ _ _ hi, List.length_set]
section
variable {w0 w : World} {M : List Nat} {R : List HA} {gr : Nat} {a : AR} {x : RX} (hS : St w0 M w (yg gr x ++ R)) (ro : RefOk a x) (dev pl place : Int) (m : UInt8)
include hS ro dev pl place m
theorem spoil_far_r (hc : a.inS dev pl = false) (ok : a.Ok) : Calls Tryz.prog 133 #[.pointer (some ⟨gr, 0, none⟩), .int .i64 dev, .int .i64 pl, .int .i64 place, .int .u8 (u8I m)] w fun e w' => e = .returned (.int .i64 (a.spoilE dev pl place)) ∧ ∃ y, RefOk (a.spoil dev pl place m) y ∧ St w0 M w' (yg gr y ++ R) := by
 have hst : St w0 M w (.blk gr 180 x.hdr :: .blk x.gd 182 x.dc :: .row x.lv 201 3 x.loose.length x.lc :: (x.tail ++ R)) := hS; have RO := ya ro; clear hS ro; have hE : a.spoilE dev pl place = 5 := by unfold AR.spoilE AR.spoilL AR.fellE; rw [hc]; rfl
 have hR : a.spoil dev pl place m = a := by unfold AR.spoil; rw [hE]; rfl
 rw [hE, hR]; clear hE hR; have HS := ya hc; clear hc; go_enter Tryz.func133, Tryz.ntmps133; go_wp2_with (first | (go_at_call 152; refine (zL (R := R) hst RO.out dev pl).mono ?_; rw [HS]; rintro _ w1 ⟨rfl, hst⟩)); go_ret; exact ⟨rfl, x, RO.out, hst⟩
theorem spoil_low_r (hc : a.inS dev pl = true) (hp : place < 0) (ok : a.Ok) : Calls Tryz.prog 133 #[.pointer (some ⟨gr, 0, none⟩), .int .i64 dev, .int .i64 pl, .int .i64 place, .int .u8 (u8I m)] w fun e w' => e = .returned (.int .i64 (a.spoilE dev pl place)) ∧ ∃ y, RefOk (a.spoil dev pl place m) y ∧ St w0 M w' (yg gr y ++ R) := by
 have hst : St w0 M w (.blk gr 180 x.hdr :: .blk x.gd 182 x.dc :: .row x.lv 201 3 x.loose.length x.lc :: (x.tail ++ R)) := hS; have RO := ya ro; clear hS ro; have hE : a.spoilE dev pl place = 5 := by unfold AR.spoilE AR.spoilL AR.fellE; rw [hc, zF (show ¬ 0 ≤ place by omega)]; rfl
 have hR : a.spoil dev pl place m = a := by unfold AR.spoil; rw [hE]; rfl
 rw [hE, hR]; clear hE hR; have HS := ya hc; have d1 : decide (place < 0) = true := zD hp; clear hp; clear hc; go_enter Tryz.func133, Tryz.ntmps133; go_wp2_with (first | (go_at_call 152; refine (zL (R := R) hst RO.out dev pl).mono ?_; rw [HS]; rintro _ w1 ⟨rfl, hst⟩)); go_ret; exact ⟨rfl, x, RO.out, hst⟩
theorem spoil_high_r (hc : a.inS dev pl = true) (hp : ¬ place < 0) (hq : ¬ place < 256) (ok : a.Ok) : Calls Tryz.prog 133 #[.pointer (some ⟨gr, 0, none⟩), .int .i64 dev, .int .i64 pl, .int .i64 place, .int .u8 (u8I m)] w fun e w' => e = .returned (.int .i64 (a.spoilE dev pl place)) ∧ ∃ y, RefOk (a.spoil dev pl place m) y ∧ St w0 M w' (yg gr y ++ R) := by
 have hst : St w0 M w (.blk gr 180 x.hdr :: .blk x.gd 182 x.dc :: .row x.lv 201 3 x.loose.length x.lc :: (x.tail ++ R)) := hS; have RO := ya ro; clear hS ro; have hE : a.spoilE dev pl place = 5 := by unfold AR.spoilE AR.spoilL AR.fellE; rw [hc, zD (show 0 ≤ place by omega), zF hq]; rfl
 have hR : a.spoil dev pl place m = a := by unfold AR.spoil; rw [hE]; rfl
 rw [hE, hR]; clear hE hR; have HS := ya hc; have d1 : decide (place < 0) = false := zF hp; have d2 : decide (place ≥ 256) = true := zD (by omega); have d3 : decide (256 ≤ place) = true := d2; clear hp hq; clear hc; go_enter Tryz.func133, Tryz.ntmps133; go_wp2_with (first | (go_at_call 152; refine (zL (R := R) hst RO.out dev pl).mono ?_; rw [HS]; rintro _ w1 ⟨rfl, hst⟩)); go_ret; exact ⟨rfl, x, RO.out, hst⟩
theorem spoil_gone_r (hc : a.inS dev pl = true) (hp : ¬ place < 0) (hq : place < 256) (hg : (a.dv dev).gone = true) (ok : a.Ok) : Calls Tryz.prog 133 #[.pointer (some ⟨gr, 0, none⟩), .int .i64 dev, .int .i64 pl, .int .i64 place, .int .u8 (u8I m)] w fun e w' => e = .returned (.int .i64 (a.spoilE dev pl place)) ∧ ∃ y, RefOk (a.spoil dev pl place m) y ∧ St w0 M w' (yg gr y ++ R) := by
 have hst : St w0 M w (.blk gr 180 x.hdr :: .blk x.gd 182 x.dc :: .row x.lv 201 3 x.loose.length x.lc :: (x.tail ++ R)) := hS; have RO := ya ro; clear hS ro; have hE : a.spoilE dev pl place = 14 := by unfold AR.spoilE AR.spoilL AR.fellE; rw [hc, zD (show 0 ≤ place by omega), zD hq, hg]; rfl
 have hR : a.spoil dev pl place m = a := by unfold AR.spoil; rw [hE]; rfl
 rw [hE, hR]; clear hE hR; have HS := ya hc; have d1 : decide (place < 0) = false := zF hp; have d2 : decide (place ≥ 256) = false := zF (by omega); have d3 : decide (256 ≤ place) = false := d2; obtain ⟨k, rfl, hka⟩ := zV (yG hc); have hkx : k < x.devs.length := by rw [RO.out.dn]; exact hka
 have HC := ya (RO.out.cells hka); have HG : Hid (x.dc[k * 5 + 4]? = some (.bool true)) := ya (by rw [HC.2.2.2.2, hg]); clear hp hq hg hc; go_enter Tryz.func133, Tryz.ntmps133; go_wp2_with (first | (refine jl (Loads.at [_] hst HG.out) ?_) | (refine jl (Loads.at [] hst rfl) ?_) | (refine yA hkx ?_) | (go_at_call 152; refine (zL (R := R) hst RO.out (k : Int) pl).mono ?_; rw [HS]; rintro _ w1 ⟨rfl, hst⟩)); go_ret; exact ⟨rfl, x, RO.out, hst⟩
theorem spoil_fine_r (hc : a.inS dev pl = true) (hp : ¬ place < 0) (hq : place < 256) (hg : (a.dv dev).gone = false) (ok : a.Ok) : Calls Tryz.prog 133 #[.pointer (some ⟨gr, 0, none⟩), .int .i64 dev, .int .i64 pl, .int .i64 place, .int .u8 (u8I m)] w fun e w' => e = .returned (.int .i64 (a.spoilE dev pl place)) ∧ ∃ y, RefOk (a.spoil dev pl place m) y ∧ St w0 M w' (yg gr y ++ R) := by
 have hst : St w0 M w (.blk gr 180 x.hdr :: .blk x.gd 182 x.dc :: .row x.lv 201 3 x.loose.length x.lc :: (x.tail ++ R)) := hS; have RO := ya ro; clear hS ro; have hE : a.spoilE dev pl place = 0 := by unfold AR.spoilE AR.spoilL AR.fellE; rw [hc, zD (show 0 ≤ place by omega), zD hq, hg]; rfl
 have hR : a.spoil dev pl place m = a.upd dev (jX pl.toNat place.toNat m) := by unfold AR.spoil; rw [hE]; rfl
 rw [hE, hR]; clear hE hR; have HS := ya hc; have d1 : decide (place < 0) = false := zF hp; have d2 : decide (place ≥ 256) = false := zF (by omega); have d3 : decide (256 ≤ place) = false := d2; obtain ⟨k, rfl, hka⟩ := zV (yG hc); have hkx : k < x.devs.length := by rw [RO.out.dn]; exact hka
 have HC := ya (RO.out.cells hka); have HG : Hid (x.dc[k * 5 + 4]? = some (.bool false)) := ya (by rw [HC.2.2.2.2, hg]); obtain ⟨p, rfl⟩ : ∃ p : Nat, pl = p := ⟨pl.toNat, by have := (jE hc).1; omega⟩; obtain ⟨q, rfl⟩ : ∃ q : Nat, place = q := ⟨place.toNat, by omega⟩; have hin := yG hc; have hf := ok.dv hin; have hpl : p < (a.dv (k : Int)).firm.length := by have := (jE hc).2; rw [hf.1]; omega
 obtain ⟨v0, hv0, hs0⟩ := RO.out.sect hka hpl; have hlp : p < (x.dv k).f.sv.length := by rw [(RO.out.dv k hka).len]; exact hpl
 obtain ⟨WB, hWB⟩ : ∃ WB, WB = (a.dv (k : Int)).firm.getD p [] := ⟨_, rfl⟩; have hWL : WB.length = 256 := by
  rw [hWB, List.getD_eq_getElem?_getD, List.getElem?_eq_getElem hpl]; exact hf.2.1 _ (List.getElem_mem hpl)
 have HWL := ya hWL; rw [← hWB] at hs0; have HUP := ya (spoil_set (p := p) (q := q) (m := m) hka); rw [← hWB] at HUP; obtain ⟨V, hV⟩ : ∃ V, V = WB.getD q 0 := ⟨_, rfl⟩; rw [← hV] at HUP; obtain ⟨NB, hNB⟩ : ∃ NB, NB = WB.set q (V ^^^ m) := ⟨_, rfl⟩; have HNB := ya hNB; rw [← hNB] at HUP; have hq256 : q < 256 := by omega
 have hqw0 : q < WB.length := by omega
 have HQW := ya hqw0; have HQV : Hid (∀ rest, (yb WB ++ rest)[q]? = some (.int .u8 (u8I V))) := ya (fun rest => by rw [hV]; exact bytes_q hqw0 rest); clear hV hqw0; obtain ⟨nf, hnf⟩ : ∃ nf, nf = (a.dv (k : Int)).firm.length := ⟨_, rfl⟩; have HLAY : Hid (∀ (v : Value) (z : RX), z = addP x (.row v 5 1 256 (yb NB)) → RefOk (a.upd (k : Int) (qE p NB)) (z.lay k p v)) := ya (fun v z hz => by
  rw [hz]; exact (RO.out.more (q := x.pool ++ [.row v 5 1 256 (yb NB)]) (fun y hy => List.mem_append_left _ hy)).lay hka hpl (zR zH) hin)
 have HC0 : Hid (x.dc[k * 5]? = some (.slice (some ⟨(x.dv k).f.g, 0, none⟩) nf (x.dv k).f.cap)) := ya (by rw [hnf]; exact HC.1); have hpn : p < nf := by rw [hnf]; exact hpl
 obtain ⟨D, hD⟩ : ∃ D, D = x.dv k := ⟨_, rfl⟩; rw [← hD] at HC0 hlp hv0; obtain ⟨FS1, hF1⟩ : ∃ FS1, FS1 = (x.devs.take k).map zE := ⟨_, rfl⟩; obtain ⟨FS2, hF2⟩ : ∃ FS2, FS2 = (x.devs.drop (k + 1)).map zE ++ x.pool := ⟨_, rfl⟩; have hT : x.tail = FS1 ++ zE D :: FS2 := by
  unfold RX.tail; rw [hF1, hF2, hD]
  conv => lhs; rw [dev_split hkx]
  rw [List.map_append, List.append_assoc]; rfl
 have HSP : Hid (HA.row v0 5 1 256 (yb WB) ∈ FS2) := ya (by rw [hF2]; exact zR hs0); have HT2 : Hid (∀ (v : Value) (r : HA), ((addP x r).lay k p v).tail = FS1 ++ .blk D.f.g 28 (D.f.sv.set p v ++ D.f.rest) :: (FS2 ++ [r])) := ya (fun v r => by
  unfold RX.tail RX.lay; rw [mod_split (show k < (addP x r).devs.length from hkx), hF1, hF2, hD, List.map_append, List.append_assoc]; show _ ++ (_ :: _ ++ (x.pool ++ [r])) = _; rw [List.append_assoc]; rfl)
 have hs1 : St w0 M w (.blk gr 180 x.hdr :: .blk x.gd 182 x.dc :: .row x.lv 201 3 x.loose.length x.lc :: (FS1 ++ .blk D.f.g 28 (D.f.sv ++ D.f.rest) :: (FS2 ++ R))) := by
  rw [hT] at hst; simpa [zE] using hst
 have HHL := ya (fun (v : Value) (r : HA) => lay_hdr (addP x r) k p v); have HDL := ya (fun (v : Value) (r : HA) => lay_dc (addP x r) k p v); have HPUT : Hid (∀ v : Value, yw (D.f.sv ++ D.f.rest) p [v] = D.f.sv.set p v ++ D.f.rest) := ya (fun v => by
  rw [putAt_one _ _ _ (by rw [List.length_append]; omega), List.set_append_left _ _ hlp])
 have HFIT : Hid (p + 1 ≤ (D.f.sv ++ D.f.rest).length) := ya (by rw [List.length_append]; omega); have HV0 := ya hv0; have HSPL : Hid (∀ w', St w0 M w' (yg gr x ++ R) → St w0 M w' (.blk gr 180 x.hdr :: .blk x.gd 182 x.dc :: .row x.lv 201 3 x.loose.length x.lc :: (FS1 ++ .blk D.f.g 28 (D.f.sv ++ D.f.rest) :: (FS2 ++ R)))) := ya (fun w' h => by
  unfold yg at h; rw [hT] at h; simpa [zE] using h)
 have HST := ya hst; clear hst hT hF1 hF2 hD hlp hs0 hv0 hf hin hpl hWB hnf hWL hc hp hq hg ok; go_enter Tryz.func133, Tryz.ntmps133; go_wp2_with (first | (go_at_call 152; refine (zL (R := R) HST.out RO.out (k : Int) (p : Int)).mono ?_; rw [HS]; rintro _ w1 ⟨rfl, h4⟩; have hs2 := HSPL.out _ h4; clear h4 hs1) | (refine jl (Loads.at [_] hs2 HG.out) ?_) | (refine jl (Loads.at [_] hs2 HC0.out) ?_) | (refine jl (Loads.cell (T := 28) TyS.out (by rw [Nat.zero_add, Nat.mul_one]; exact St.cell hs2 (off := p) (zT (zT (zT (List.mem_append_right FS1 zH)))) HV0.out)) ?_) | (refine jl (Loads.at [] hs2 rfl) ?_) | (refine jl (Loads.at [_] hs3 HC0.out) ?_) | (refine jl (Loads.at [_, _] hs3 HC0.out) ?_) | (refine jl (Loads.at [_] hs3 rfl) ?_) | (refine jl (Loads.cell (T := 28) TyS.out (by rw [Nat.zero_add, Nat.mul_one]; exact St.cell hs3 (off := p) (zT (zT (zT (zT (List.mem_append_right FS1 zH))))) HV0.out)) ?_) | (refine jl (Loads.cell (T := 5) TyS.out (by rw [Nat.zero_add, Nat.mul_one]; exact St.cell hs4 (off := q) zH (HQV.out _))) ?_) | (refine jl (Loads.at [_, _] hs5 HC0.out) ?_) | (refine jl (Loads.at [_] hs5 rfl) ?_) | (first | (refine yA hkx ?_) | (refine yA hpn ?_) | (refine yA hq256 ?_)) | (refine za (T := 28) [] [] hs2 (h:=fun g1 w6 hB0 => ?_); clear hs2; have hs3 := St.toRow (n := 0) (cap := 0) (sz := 1) hB0 rfl (Nat.le_refl _) (by decide); clear hB0) | (refine jf (m := 256) (ys := yb WB) [] hs3 (hr:=Rd.row hs3 (zT (zT (zT (zT (List.mem_append_right FS1 (zT (List.mem_append_left R HSP.out)))))))) (h1:=yD _) (hb:=by refine ⟨by decide, by decide, by decide⟩) (h:=fun v1 w7 hB2 _ => ?_); clear hs3; obtain ⟨ng, nc, rest9, rfl, hnc1, hnc2, hnc3, hs4⟩ := row_openL (L1 := []) hB2 (by decide); simp only [Nat.zero_mul, List.take_nil, List.nil_append] at hs4 hnc3; clear hB2) | (first | (refine ye [] hs4 rfl rfl rfl (v := .int _ _) rfl rfl rfl (by rw [Nat.zero_add, Nat.mul_one]; show q + 1 ≤ _; rw [List.length_append, length_bytesV, HWL]; omega) ?_; intro w8 hs5; clear hs4) | (refine ye (_ :: _ :: _ :: _ :: FS1) hs5 rfl rfl rfl (v := .slice _ _ _) rfl rfl rfl (by rw [Nat.zero_add, Nat.mul_one]; exact HFIT.out) ?_; intro w9 hs6; clear hs5))); go_ret; rw [Nat.zero_add, Nat.mul_one] at hs6; have h7 : St w0 M w9 (.blk ng 5 (yw (yb WB ++ rest9) q [.int .u8 (u8I (V ^^^ m))]) :: .blk gr 180 x.hdr :: .blk x.gd 182 x.dc :: .row x.lv 201 3 x.loose.length x.lc :: (FS1 ++ .blk D.f.g 28 (yw (D.f.sv ++ D.f.rest) p [.slice (some ⟨ng, 0, none⟩) 256 nc]) :: (FS2 ++ R))) := by
  rw [Nat.zero_add, Nat.mul_one] at hs6; exact hs6
 have h8 := St.toRow (n := 256) (cap := nc) (sz := 1) h7 (by rw [length_putAt1 _ _ _ (by rw [List.length_append, length_bytesV]; exact Nat.lt_of_lt_of_le HQW.out (Nat.le_add_right _ _))]; exact hnc3) hnc1 hnc2; rw [bytes_putq HQW.out HWL.out, ← HNB, HPUT] at h8; have hL := HLAY.out (.slice (some ⟨ng, 0, none⟩) 256 nc) _ rfl; rw [← HUP] at hL; refine ⟨rfl, _, hL, ?_⟩; unfold yg; rw [HT2, HHL, HDL]; show St w0 M w9 (_ :: _ :: _ :: ((FS1 ++ _ :: (FS2 ++ [_])) ++ R)); rw [show (FS1 ++ HA.blk D.f.g 28 (D.f.sv.set p (.slice (some ⟨ng, 0, none⟩) 256 nc) ++ D.f.rest) :: (FS2 ++ [HA.row (.slice (some ⟨ng, 0, none⟩) 256 nc) 5 1 256 (yb NB)])) ++ R = (FS1 ++ HA.blk D.f.g 28 (D.f.sv.set p (.slice (some ⟨ng, 0, none⟩) 256 nc) ++ D.f.rest) :: FS2) ++ (HA.row (.slice (some ⟨ng, 0, none⟩) 256 nc) 5 1 256 (yb NB) :: R) by simp]; refine St.perm h8 ?_; rw [show FS1 ++ HA.blk D.f.g 28 (D.f.sv.set p (.slice (some ⟨ng, 0, none⟩) 256 nc) ++ D.f.rest) :: (FS2 ++ R) = (FS1 ++ HA.blk D.f.g 28 (D.f.sv.set p (.slice (some ⟨ng, 0, none⟩) 256 nc) ++ D.f.rest) :: FS2) ++ R by simp]; exact (List.perm_middle (l₁ := _ :: _ :: _ :: (FS1 ++ HA.blk D.f.g 28 (D.f.sv.set p (.slice (some ⟨ng, 0, none⟩) 256 nc) ++ D.f.rest) :: FS2))).symm
theorem spoil_r (ok : a.Ok) : Calls Tryz.prog 133 #[.pointer (some ⟨gr, 0, none⟩), .int .i64 dev, .int .i64 pl, .int .i64 place, .int .u8 (u8I m)] w fun e w' => e = .returned (.int .i64 (a.spoilE dev pl place)) ∧ ∃ y, RefOk (a.spoil dev pl place m) y ∧ St w0 M w' (yg gr y ++ R) := by
 cases hc : a.inS dev pl
 ·exact spoil_far_r hS ro dev pl place m hc ok
 ·by_cases hp : place < 0
  ·exact spoil_low_r hS ro dev pl place m hc hp ok
  ·by_cases hq : place < 256
   ·cases hg : (a.dv dev).gone
    ·exact spoil_fine_r hS ro dev pl place m hc hp hq hg ok
    ·exact spoil_gone_r hS ro dev pl place m hc hp hq hg ok
   ·exact spoil_high_r hS ro dev pl place m hc hp hq ok
end
end
def zeroB : List UInt8 := List.replicate 256 0
theorem results_cell1 {fn : Func} {p : Tmp} {T : TypeId} {tmps : Array Value} {P : Program} {w : World} {A : Addr} {v : Value} (h : fn.results = #[.cell p T]) (hp : tmps.getD p undef = .pointer (some A)) (hl : Loads P w T A v) :
  (results fn tmps).run P w = .ok v w := by
 have h1 : (loadVar T A).run P w = .ok v w := hl; have hp' : tmps[p]?.getD undef = .pointer (some A) := by simpa using hp
 simp [results, h, hp', asAddr, h1, Sem.run_bind]
theorem zero_take : List.take (256 * 1) (List.replicate 256 (Value.int .u8 0)) = yb zeroB := by kernel_rfl
section
theorem blank_r {w0 w : World} {M : List Nat} {L : List HA} (hS : St w0 M w L) (s : Nat) (hs : 0 < s ∧ s ≤ 4096) : Calls Tryz.prog 119 #[.int .i64 (s : Int)] w fun e w' => ∃ fg fc sv rest P, e = .returned (.agg (List.toArray [.slice (some ⟨fg, 0, none⟩) s fc, .bool false, .int .i64 (-1), .int .i64 0, .bool false])) ∧ sv.length = s ∧ (∀ v ∈ sv, Sec P v zeroB) ∧ St w0 M w' (.blk fg 28 (sv ++ rest) :: (P ++ L)) := by
 have hst := hS; clear hS; go_enter Tryz.func119, Tryz.ntmps119; go_wp2_with (first | (refine yH (cs := [.slice none 0 0, .bool false, .int .i64 (-1), .int .i64 0, .bool false]) [(2, _)] rfl rfl (by exact rfl) (by kernel_rfl) ?_) | (first | (refine yN hst fun g2 w1 hst1 => ?_; clear hst) | (refine yN hst1 fun g3 w2 hst2 => ?_; clear hst1)) | (refine yx (T := 182) (vs := [.slice none 0 0, .bool false, .int .i64 (-1), .int .i64 0, .bool false]) [] hst2 rfl rfl rfl rfl rfl rfl rfl ?_; intro w3 hst3; clear hst2)); have hst4 : St w0 M w3 (.blk g3 182 [(.slice none 0 0), .bool false, .int .i64 (-1), .int .i64 0, .bool false] :: .row (.slice none 0 0) 28 1 0 [] :: ([] ++ (.blk g2 182 [.slice none 0 0, .bool false, .int .i64 0, .int .i64 0, .bool false] :: L))) := St.perm (zt 28 1 hst3) (List.Perm.swap _ _ _); clear hst3; go_loopw [4] (fun i wr => ∃ (j : Nat) (sv : List Value) (P : List HA) (fv : Value), j ≤ s ∧ i = .int .i64 (j : Int) ∧ sv.length = j ∧ Hid (∀ v ∈ sv, Sec P v zeroB) ∧ St w0 M wr (.blk g3 182 [fv, .bool false, .int .i64 (-1), .int .i64 0, .bool false] :: .row fv 28 1 j sv :: (P ++ (.blk g2 182 [.slice none 0 0, .bool false, .int .i64 0, .int .i64 0, .bool false] :: L)))) (fun i _ => s - (intOf i).toNat)
 case atStart => exact ⟨0, [], [], .slice none 0 0, Nat.zero_le _, rfl, rfl, ya (fun v hv => by cases hv), hst4⟩
 case round =>
  clear hst4; obtain ⟨j, sv, P, fv, hj, rfl, hsl, HSV, hst⟩ := hrel; have HSL := ya hsl; clear hsl; by_cases hlj : j < s
  ·have d1 : decide ((j : Int) < (s : Int)) = true := zD (by omega); have z1 : IntKind.i64.wrap ((j : Int) + 1) = (j : Int) + 1 := IntWalk.i64_in _ (by omega); go_wp2; have hX := hst.drew; clear hst; refine wD (S := fun w' => True) trivial fun hHeld => ?_; refine jt 0 (h:=?_); refine jx2 1 2 (h0:=fun K hK => ?_) (h1:=fun K hK => ?_)
   ·refine oW ?_; refine jl (Loads.at [] hX rfl) ?_; refine kQ hK trivial (h:=fun hHeld => ?_); refine rW 2 (h:=fun K hK => ?_); apply wl_make 256 256 hX; rfl; rfl; exact rfl; exact rfl; infer_instance; infer_instance; infer_instance; exact rfl; exact rfl; decide; decide; intro gm w4 hB1; refine kQ hK trivial (h:=fun hHeld => ?_); refine rW 3 (h:=fun K hK => ?_); refine za [.slice (some ⟨gm, 0, none⟩) 256 256] [.slice (some ⟨gm, 0, none⟩) 256 256] hB1 (h:=fun gb w5 hB2 => ?_); refine kQ hK trivial (h:=fun hHeld => ?_); refine rW 4 (h:=fun K hK => ?_); refine jf (m := 1) (ys := [.slice (some ⟨gm, 0, none⟩) 256 256]) [_, _, _] hB2 (hr:=Rd.blk (n := 1) hB2 zH (Nat.le_refl _) (by decide) rfl rfl) (hb:=by refine ⟨by decide, by unfold maxLen; omega, by omega⟩) (h:=fun v9 w6 hB3 _ => ?_); obtain ⟨vo, vc, rfl, _, _, _⟩ := yV hB3 (zT (zT (zT zH))); refine kQ hK trivial (h:=fun hHeld => ?_); refine jt 5 (h:=?_); refine rW 6 (h:=fun K hK => ?_); refine ye [_, _] hB3 rfl rfl rfl (v := .slice _ _ _) rfl rfl rfl (by show (0 : Nat) + 1 ≤ 5; decide) ?_; intro w7 hB4; refine kQ hK trivial (h:=fun hHeld => ?_); refine jn ?_; clear hHeld; have h9 := (yy (L1 := [_, _, _]) (yy (L1 := [_, _, _]) (yy (L1 := [_, _, _]) hB4))); have h10 := St.toRow (n := 256) (cap := 256) (sz := 1) h9 rfl (Nat.le_refl _) (by decide); rw [zero_take] at h10; have h11 := St.sub h10 (.cons_cons _ (.cons_cons _ (.cons_cons _ (.cons _ (List.Sublist.refl _))))); have h12 := St.perm h11 ((List.Perm.swap _ _ _).trans (List.Perm.cons _ (List.Perm.swap _ _ _))); clear h9 h10 h11 hB4; go_wp2; go_roundw
    case rel => exact ⟨j + 1, sv ++ [Value.slice (some ⟨gm, 0, none⟩) 256 256], HA.row (Value.slice (some ⟨gm, 0, none⟩) 256 256) 5 1 256 (yb zeroB) :: P, Value.slice vo (j + 1) vc, by omega, rfl, by rw [List.length_append, HSL]; rfl, ya (fun v hv => by
     rcases List.mem_append.1 hv with h | h
     ·exact (HSV.out v h).mono (fun y hy => zT hy)
     ·rw [List.mem_singleton] at h; rw [h]; exact .head _), h12⟩
    case measure => simp [intOf]; omega
   ·refine oW ?_; apply wl_make 256 256 hX; rfl; rfl; exact rfl; exact rfl; infer_instance; infer_instance; infer_instance; exact rfl; exact rfl; decide; decide; intro gm w4 hB1; refine kQ hK trivial (h:=fun hHeld => ?_); refine jx2 1 3 (h0:=fun K hK => ?_) (h1:=fun K hK => ?_)
    ·refine oW ?_; refine jl (Loads.at [_] hB1 rfl) ?_; refine kQ hK trivial (h:=fun hHeld => ?_); refine rW 3 (h:=fun K hK => ?_); refine za [.slice (some ⟨gm, 0, none⟩) 256 256] [.slice (some ⟨gm, 0, none⟩) 256 256] hB1 (h:=fun gb w5 hB2 => ?_); refine kQ hK trivial (h:=fun hHeld => ?_); refine rW 4 (h:=fun K hK => ?_); refine jf (m := 1) (ys := [.slice (some ⟨gm, 0, none⟩) 256 256]) [_, _, _] hB2 (hr:=Rd.blk (n := 1) hB2 zH (Nat.le_refl _) (by decide) rfl rfl) (hb:=by refine ⟨by decide, by unfold maxLen; omega, by omega⟩) (h:=fun v9 w6 hB3 _ => ?_); obtain ⟨vo, vc, rfl, _, _, _⟩ := yV hB3 (zT (zT (zT zH))); refine kQ hK trivial (h:=fun hHeld => ?_); refine jt 5 (h:=?_); refine rW 6 (h:=fun K hK => ?_); refine ye [_, _] hB3 rfl rfl rfl (v := .slice _ _ _) rfl rfl rfl (by show (0 : Nat) + 1 ≤ 5; decide) ?_; intro w7 hB4; refine kQ hK trivial (h:=fun hHeld => ?_); refine jn ?_; clear hHeld; have h9 := (yy (L1 := [_, _, _]) (yy (L1 := [_, _, _]) (yy (L1 := [_, _, _]) hB4))); have h10 := St.toRow (n := 256) (cap := 256) (sz := 1) h9 rfl (Nat.le_refl _) (by decide); rw [zero_take] at h10; have h11 := St.sub h10 (.cons_cons _ (.cons_cons _ (.cons_cons _ (.cons _ (List.Sublist.refl _))))); have h12 := St.perm h11 ((List.Perm.swap _ _ _).trans (List.Perm.cons _ (List.Perm.swap _ _ _))); clear h9 h10 h11 hB4; go_wp2; go_roundw
     case rel => exact ⟨j + 1, sv ++ [Value.slice (some ⟨gm, 0, none⟩) 256 256], HA.row (Value.slice (some ⟨gm, 0, none⟩) 256 256) 5 1 256 (yb zeroB) :: P, Value.slice vo (j + 1) vc, by omega, rfl, by rw [List.length_append, HSL]; rfl, ya (fun v hv => by
      rcases List.mem_append.1 hv with h | h
      ·exact (HSV.out v h).mono (fun y hy => zT hy)
      ·rw [List.mem_singleton] at h; rw [h]; exact .head _), h12⟩
     case measure => simp [intOf]; omega
    ·refine oW ?_; refine za [.slice (some ⟨gm, 0, none⟩) 256 256] [.slice (some ⟨gm, 0, none⟩) 256 256] hB1 (h:=fun gb w5 hB2 => ?_); refine kQ hK trivial (h:=fun hHeld => ?_); refine rW 1 (h:=fun K hK => ?_); refine jl (Loads.at [_, _] hB2 rfl) ?_; refine kQ hK trivial (h:=fun hHeld => ?_); refine rW 4 (h:=fun K hK => ?_); refine jf (m := 1) (ys := [.slice (some ⟨gm, 0, none⟩) 256 256]) [_, _, _] hB2 (hr:=Rd.blk (n := 1) hB2 zH (Nat.le_refl _) (by decide) rfl rfl) (hb:=by refine ⟨by decide, by unfold maxLen; omega, by omega⟩) (h:=fun v9 w6 hB3 _ => ?_); obtain ⟨vo, vc, rfl, _, _, _⟩ := yV hB3 (zT (zT (zT zH))); refine kQ hK trivial (h:=fun hHeld => ?_); refine jt 5 (h:=?_); refine rW 6 (h:=fun K hK => ?_); refine ye [_, _] hB3 rfl rfl rfl (v := .slice _ _ _) rfl rfl rfl (by show (0 : Nat) + 1 ≤ 5; decide) ?_; intro w7 hB4; refine kQ hK trivial (h:=fun hHeld => ?_); refine jn ?_; clear hHeld; have h9 := (yy (L1 := [_, _, _]) (yy (L1 := [_, _, _]) (yy (L1 := [_, _, _]) hB4))); have h10 := St.toRow (n := 256) (cap := 256) (sz := 1) h9 rfl (Nat.le_refl _) (by decide); rw [zero_take] at h10; have h11 := St.sub h10 (.cons_cons _ (.cons_cons _ (.cons_cons _ (.cons _ (List.Sublist.refl _))))); have h12 := St.perm h11 ((List.Perm.swap _ _ _).trans (List.Perm.cons _ (List.Perm.swap _ _ _))); clear h9 h10 h11 hB4; go_wp2; go_roundw
     case rel => exact ⟨j + 1, sv ++ [Value.slice (some ⟨gm, 0, none⟩) 256 256], HA.row (Value.slice (some ⟨gm, 0, none⟩) 256 256) 5 1 256 (yb zeroB) :: P, Value.slice vo (j + 1) vc, by omega, rfl, by rw [List.length_append, HSL]; rfl, ya (fun v hv => by
      rcases List.mem_append.1 hv with h | h
      ·exact (HSV.out v h).mono (fun y hy => zT hy)
      ·rw [List.mem_singleton] at h; rw [h]; exact .head _), h12⟩
     case measure => simp [intOf]; omega
  ·obtain rfl : j = s := by omega
   have d1 : decide ((j : Int) < (j : Int)) = false := zF (by omega); obtain ⟨fg, fc, rest, rfl, _, _, _, hst1⟩ := row_openL (L1 := [_]) hst hs.1; clear hst; go_wp2_with (first | (refine jl (yl (T := 182) [.slice (some ⟨fg, 0, none⟩) j fc, .bool false, .int .i64 (-1), .int .i64 0, .bool false] [] hst1 rfl rfl) ?_) | (refine yx (T := 182) (vs := [.slice (some ⟨fg, 0, none⟩) j fc, .bool false, .int .i64 (-1), .int .i64 0, .bool false]) (_ :: _ :: P) hst1 rfl rfl rfl rfl rfl rfl rfl ?_; intro w8 hst2; clear hst1)); have hl := yl (P := Tryz.prog) (off := 0) (T := 182) [.slice (some ⟨fg, 0, none⟩) j fc, .bool false, .int .i64 (-1), .int .i64 0, .bool false] (_ :: _ :: P) hst2 rfl rfl; refine bodyPost_ret (results_cell1 rfl rfl hl) rfl ?_; refine ⟨fg, fc, sv, rest, P, rfl, HSL.out, HSV.out, ?_⟩; exact St.sub hst2 (.cons _ (.cons_cons _ (List.Sublist.append_left zC _)))
end
structure NewOk (P : List HA) (s : Nat) (r : RDv) : Prop where
 lo : r.lo = false
 ay : r.ay = -1
 fail : r.fail = 0
 gone : r.gone = false
 len : r.f.sv.length = s
 sec : ∀ v ∈ r.f.sv, Sec P v zeroB
theorem NewOk.mono {p q : List HA} {s : Nat} {r : RDv} (h : NewOk p s r) (hq : ∀ y ∈ p, y ∈ q) : NewOk q s r := ⟨h.lo, h.ay, h.fail, h.gone, h.len, fun v hv => (h.sec v hv).mono hq⟩
theorem NewOk.dok {P : List HA} {s : Nat} {r : RDv} (h : NewOk P s r) (g : Nat) : DOk P (yM s g) r := by
 refine ⟨h.lo, h.ay, h.fail, h.gone, by rw [h.len]; exact (List.length_replicate).symm, fun i hi => ?_⟩; have hi2 : i < s := by
  have e : (yM s g).firm.length = s := List.length_replicate; omega
 have hi3 : i < r.f.sv.length := by rw [h.len]; exact hi2
 refine ⟨r.f.sv[i], List.getElem?_eq_getElem hi3, ?_⟩; have e : (yM s g).firm.getD i [] = zeroB := by
  show (List.replicate s (List.replicate 256 (0 : UInt8))).getD i [] = _; rw [List.getD_eq_getElem?_getD, List.getElem?_replicate, if_pos hi2]; rfl
 rw [e]; exact h.sec _ (List.getElem_mem hi3)
theorem newA_ref {s d : Nat} {gs : List Nat} {rds : List RDv} {P : List HA} {gd cd : Nat} {rest : List Value} {lv : Value} (hd : 0 < d) (hg : gs.length = d) (hr : rds.length = d) (hn : ∀ r ∈ rds, NewOk P s r) : RefOk (zX s gs) ⟨rds, s, [], -1, false, 0, gd, cd, rest, lv, P⟩ := by
 have hdl : (zX s gs).devs.length = d := by show (gs.map (yM s)).length = d; rw [List.length_map, hg]
 have hdv : ∀ k : Nat, k < d → (zX s gs).dv (k : Int) = yM s (gs.getD k 0) := fun k hk => by
  show (gs.map (yM s)).getD (k : Int).toNat DV.zero = _; rw [Int.toNat_natCast, List.getD_eq_getElem?_getD, List.getElem?_map, List.getElem?_eq_getElem (by omega), List.getD_eq_getElem?_getD, List.getElem?_eq_getElem (by omega)]; rfl
 refine ⟨by rw [hdl]; exact hr, fun k hk => ?_, ?_, rfl, (fun i v hv => by simp [zX] at hv), rfl, rfl, rfl⟩
 ·rw [hdl] at hk; rw [hdv k hk]; have hkr : k < rds.length := by omega
  have : (⟨rds, s, [], -1, false, 0, gd, cd, rest, lv, P⟩ : RX).dv k = rds[k] := by
   unfold RX.dv; rw [List.getD_eq_getElem?_getD, List.getElem?_eq_getElem hkr]; rfl
  rw [this]; exact (hn _ (List.getElem_mem hkr)).dok _
 ·have h0 : (zX s gs).devs ≠ [] := fun h => by rw [h] at hdl; simp at hdl; omega
  have : (zX s gs).secs = s := by
   unfold AR.secs; cases hq : (zX s gs).devs with
   | nil => exact absurd hq h0
   | cons D l =>
    have := hdv 0 hd; unfold AR.dv at this; rw [hq] at this; show D.firm.length = s; rw [show D = yM s (gs.getD 0 0) from this]; exact List.length_replicate
  exact this.symm
theorem set_dc {x : RX} {k : Nat} (h : k < x.devs.length) (r : RDv) : yw x.dc (k * 5) r.cells = (x.upd k fun _ => r).dc := by
 have := flat_putAll (f := RDv.cells) (sz := 5) (l := x.devs) (k := k) (d' := r) (fun d => rfl) h x.rest; unfold RX.dc; rw [this]; show _ = (x.devs.modify k _).flatMap RDv.cells ++ x.rest
 congr 2
 apply List.ext_getElem?; intro j; rw [yS, List.getElem?_set]; by_cases hj : k = j
 ·subst hj; rw [if_pos rfl, if_pos rfl, RX.dget h, if_pos h, Option.map_some]
 ·rw [if_neg hj, if_neg hj]
theorem fit_fin {w0 w : World} {M : List Nat} {R : List HA} {gr k : Nat} {x : RX} {r : RDv} {P : List HA} (hk : k < x.devs.length) (h : St w0 M w (.blk gr 180 x.hdr :: .blk x.gd 182 (yw x.dc (k * 5) r.cells) :: .row x.lv 201 3 x.loose.length x.lc :: (x.tail ++ (zE r :: (P ++ R))))) : St w0 M w (yg gr { (x.upd k fun _ => r) with pool := x.pool ++ P } ++ R) := by
 rw [set_dc hk] at h; have hT : x.tail = (x.devs.take k).map zE ++ zE (x.dv k) :: ((x.devs.drop (k + 1)).map zE ++ x.pool) := by
  unfold RX.tail
  conv => lhs; rw [dev_split hk]
  rw [List.map_append, List.append_assoc]; rfl
 have hT2 : ({ (x.upd k fun _ => r) with pool := x.pool ++ P } : RX).tail = (x.devs.take k).map zE ++ zE r :: ((x.devs.drop (k + 1)).map zE ++ (x.pool ++ P)) := by
  unfold RX.tail; show ((x.upd k fun _ => r).devs.map zE) ++ (x.pool ++ P) = _; rw [mod_split hk, List.map_append, List.append_assoc]; rfl
 have hH : ({ (x.upd k fun _ => r) with pool := x.pool ++ P } : RX).hdr = x.hdr := by
  unfold RX.hdr; show [Value.slice (some ⟨x.gd, 0, none⟩) (x.upd k fun _ => r).devs.length x.cd, _, _, _, _, _] = _; rw [RX.upd_len]; rfl
 unfold yg; rw [hT2, hH]; rw [hT] at h; generalize (x.devs.take k).map zE = F1 at h ⊢; generalize (x.devs.drop (k + 1)).map zE = F2 at h ⊢; have h1 := St.sub h (.cons_cons _ (.cons_cons _ (.cons_cons _ (List.Sublist.append_right (List.Sublist.append_left zC F1) _)))); refine St.perm h1 (List.Perm.cons _ (List.Perm.cons _ (List.Perm.cons _ ?_))); have e1 : (F1 ++ (F2 ++ x.pool)) ++ (zE r :: (P ++ R)) = F1 ++ ((F2 ++ x.pool) ++ zE r :: (P ++ R)) := by simp
 have e2 : (F1 ++ zE r :: (F2 ++ (x.pool ++ P))) ++ R = F1 ++ (zE r :: ((F2 ++ x.pool) ++ (P ++ R))) := by simp
 show ((F1 ++ (F2 ++ x.pool)) ++ (zE r :: (P ++ R))).Perm ((F1 ++ zE r :: (F2 ++ (x.pool ++ P))) ++ R); rw [e1, e2]; exact List.Perm.append_left _ List.perm_middle
theorem new_perm {w0 w : World} {M : List Nat} {A B : HA} {rds : List RDv} {r : RDv} {P P9 L : List HA} (h : St w0 M w (.blk r.f.g 28 (r.f.sv ++ r.f.rest) :: (P9 ++ (A :: B :: (rds.map zE ++ (P ++ L)))))) : St w0 M w (A :: B :: ((rds ++ [r]).map zE ++ ((P9 ++ P) ++ L))) := by
 rw [show (rds ++ [r]).map zE ++ ((P9 ++ P) ++ L) = rds.map zE ++ (zE r :: (P9 ++ (P ++ L))) by simp]; refine St.perm h ?_; refine List.Perm.trans (List.Perm.cons _ (List.perm_append_comm_assoc P9 (A :: B :: rds.map zE) (P ++ L))) ?_; exact (List.perm_middle (l₁ := A :: B :: rds.map zE) (a := zE r) (l₂ := P9 ++ (P ++ L))).symm
theorem fit_perm {w0 w : World} {M : List Nat} {A B C : HA} {T : List HA} {fb : HA} {P9 R : List HA} (h : St w0 M w (fb :: (P9 ++ (A :: B :: C :: (T ++ R))))) : St w0 M w (A :: B :: C :: (T ++ (fb :: (P9 ++ R)))) :=
 St.perm h (List.perm_append_comm_assoc (fb :: P9) (A :: B :: C :: T) R)
section
theorem loadedD12 (A : Addr) : loadVar 177 A = yn 177 A := rfl
theorem loadedI12 (A : Addr) : loadVar 3 A = yn 3 A := rfl
attribute [local go_sem ↓] loadedD12 loadedI12
theorem new_r {w0 w : World} {M : List Nat} {L : List HA} (hS : St w0 M w L) (d s : Nat) (hd : 2 ≤ d ∧ d ≤ 8) (hs : 8 ≤ s ∧ s ≤ 4096) : Calls Tryz.prog 69 #[.int .i64 (d : Int), .int .i64 (s : Int)] w fun e w' => ∃ gr x, e = .returned (.tuple #[.pointer (some ⟨gr, 0, none⟩), .int .i64 0]) ∧ (∀ gs : List Nat, gs.length = d → RefOk (zX s gs) x) ∧ St w0 M w' (yg gr x ++ L) := by
 have hst := hS; have d1 : decide ((d : Int) < 2) = false := zF (by omega); have d2 : decide ((8 : Int) < (d : Int)) = false := zF (by omega); have d3 : decide ((d : Int) > 8) = false := d2; have d4 : decide ((s : Int) < 8) = false := zF (by omega); have d5 : decide ((4096 : Int) < (s : Int)) = false := zF (by omega); have d6 : decide ((s : Int) > 4096) = false := d5; clear hS; go_enter Tryz.func69, Tryz.ntmps69; go_wp2_with (first | (refine yH (cs := [(.slice none 0 0), .int .i64 (s : Int), .slice none 0 0, .int .i64 (-1), .bool false, .int .i64 0]) [(1, _), (3, _)] rfl rfl (by exact rfl) (by kernel_rfl) ?_) | (refine zj hst fun gr _ hst1 => ?_; clear hst)); have hst3 := St.perm (zt 182 5 hst1) (List.Perm.swap _ _ _); clear hst1; go_loopw [7] (fun i wr => ∃ (j : Nat) (rds : List RDv) (P : List HA) (dv : Value), j ≤ d ∧ i = .int .i64 (j : Int) ∧ rds.length = j ∧ Hid (∀ r ∈ rds, NewOk P s r) ∧ St w0 M wr (.blk gr 180 [dv, .int .i64 (s : Int), .slice none 0 0, .int .i64 (-1), .bool false, .int .i64 0] :: .row dv 182 5 j (rds.flatMap RDv.cells) :: (rds.map zE ++ (P ++ L)))) (fun i _ => d - (intOf i).toNat)
 case atStart => exact ⟨0, [], [], .slice none 0 0, Nat.zero_le _, rfl, rfl, ya (fun v hv => by cases hv), hst3⟩
 case round =>
  clear hst3; obtain ⟨j, rds, P, dv, hj, rfl, hrl, HNO, hst⟩ := hrel; have HRL := ya hrl; clear hrl; by_cases hlj : j < d
  ·have e1 : decide ((j : Int) < (d : Int)) = true := zD (by omega); have z1 : IntKind.i64.wrap ((j : Int) + 1) = (j : Int) + 1 := IntWalk.i64_in _ (by omega); go_wp2; have hX := hst.drew; clear hst; refine wD (S := fun w' => True) trivial fun hHeld => ?_; refine jt 0 (h:=jt 1 (h:=jt 5 (h:=jt 2 (h:=jt 3 (h:=?_))))); refine jx2 4 6 (h0:=fun K hK => ?_) (h1:=fun K hK => ?_)
   ·refine oW ?_; refine jl (Loads.at [] hX rfl) ?_; refine kQ hK trivial (h:=fun hHeld => ?_); refine yF 6 (h0:=fun K hK => ?_); go_simp; go_at_call 119; refine (blank_r hX s (by omega)).mono ?_; rintro _ w4 ⟨fg, fc, sv, rest, P9, rfl, hsv, hsec, h4⟩; have hB1 : St w0 M w4 (.blk gr 180 [dv, .int .i64 (s : Int), .slice none 0 0, .int .i64 (-1), .bool false, .int .i64 0] :: .row dv 182 5 j (rds.flatMap RDv.cells) :: ((rds ++ [(⟨⟨fg, fc, sv, rest⟩, false, -1, 0, false⟩ : RDv)]).map zE ++ ((P9 ++ P) ++ L))) := new_perm (r := (⟨⟨fg, fc, sv, rest⟩, false, -1, 0, false⟩ : RDv)) h4; have HSV := ya hsv; have HSE := ya hsec; clear h4 hsv hsec; refine kD hK trivial (h:=fun hHeld => ?_); refine rW 7 (h:=fun K hK => ?_); refine za [.agg (List.toArray [.slice (some ⟨fg, 0, none⟩) s fc, .bool false, .int .i64 (-1), .int .i64 0, .bool false])] ([.slice (some ⟨fg, 0, none⟩) s fc, .bool false, .int .i64 (-1), .int .i64 0, .bool false]) hB1 (h:=fun gb w5 hB2 => ?_); refine kQ hK trivial (h:=fun hHeld => ?_); refine rW 8 (h:=fun K hK => ?_); refine jf (m := 1) (ys := [.slice (some ⟨fg, 0, none⟩) s fc, .bool false, .int .i64 (-1), .int .i64 0, .bool false]) [_, _] hB2 (hr:=Rd.blk (n := 1) hB2 zH (Nat.le_refl _) (by decide) rfl rfl) (hb:=by refine ⟨by decide, by unfold maxLen; omega, by omega⟩) (h:=fun v9 w6 hB3 _ => ?_); obtain ⟨vo, vc, rfl, _, _, _⟩ := yV hB3 (zT (zT zH)); refine kQ hK trivial (h:=fun hHeld => ?_); refine jt 9 (h:=jt 10 (h:=?_)); refine rW 11 (h:=fun K hK => ?_); refine ye [_] hB3 rfl rfl rfl (v := .slice _ _ _) rfl rfl rfl (by show (0 : Nat) + 1 ≤ 6; decide) ?_; intro w7 hB4; refine kQ hK trivial (h:=fun hHeld => ?_); refine jn ?_; clear hHeld; have h12 := St.sub hB4 zC; clear hB4; go_wp2; go_roundw
    case rel =>
     refine ⟨j + 1, rds ++ [(⟨⟨fg, fc, sv, rest⟩, false, -1, 0, false⟩ : RDv)], P9 ++ P, .slice vo (j + 1) vc, by omega, rfl, by rw [List.length_append, HRL]; rfl, ya (fun r hr => ?_), ?_⟩
     ·rcases List.mem_append.1 hr with h | h
      ·exact (HNO.out r h).mono (fun y hy => zR hy)
      ·rw [List.mem_singleton] at h; rw [h]; exact ⟨rfl, rfl, rfl, rfl, HSV.out, fun v hv => (HSE.out v hv).mono (fun y hy => List.mem_append_left _ hy)⟩
     ·have e : (rds ++ [(⟨⟨fg, fc, sv, rest⟩, false, -1, 0, false⟩ : RDv)]).flatMap RDv.cells = rds.flatMap RDv.cells ++ [.slice (some ⟨fg, 0, none⟩) s fc, .bool false, .int .i64 (-1), .int .i64 0, .bool false] := by
       rw [List.flatMap_append]
       congr 1
       show [Value.slice (some ⟨fg, 0, none⟩) sv.length fc, _, _, _, _] = _; rw [HSV]
      rw [e]; exact h12
    case measure => simp [intOf]; omega
   ·go_simp; go_at_call 119; refine (blank_r hX s (by omega)).mono ?_; rintro _ w4 ⟨fg, fc, sv, rest, P9, rfl, hsv, hsec, h4⟩; have hB1 : St w0 M w4 (.blk gr 180 [dv, .int .i64 (s : Int), .slice none 0 0, .int .i64 (-1), .bool false, .int .i64 0] :: .row dv 182 5 j (rds.flatMap RDv.cells) :: ((rds ++ [(⟨⟨fg, fc, sv, rest⟩, false, -1, 0, false⟩ : RDv)]).map zE ++ ((P9 ++ P) ++ L))) := new_perm (r := (⟨⟨fg, fc, sv, rest⟩, false, -1, 0, false⟩ : RDv)) h4; have HSV := ya hsv; have HSE := ya hsec; clear h4 hsv hsec; refine kD hK trivial (h:=fun hHeld => ?_); refine jx2 4 7 (h0:=fun K hK => ?_) (h1:=fun K hK => ?_)
    ·refine oW ?_; refine jl (Loads.at [] hB1 rfl) ?_; refine kQ hK trivial (h:=fun hHeld => ?_); refine rW 7 (h:=fun K hK => ?_); refine za [.agg (List.toArray [.slice (some ⟨fg, 0, none⟩) s fc, .bool false, .int .i64 (-1), .int .i64 0, .bool false])] ([.slice (some ⟨fg, 0, none⟩) s fc, .bool false, .int .i64 (-1), .int .i64 0, .bool false]) hB1 (h:=fun gb w5 hB2 => ?_); refine kQ hK trivial (h:=fun hHeld => ?_); refine rW 8 (h:=fun K hK => ?_); refine jf (m := 1) (ys := [.slice (some ⟨fg, 0, none⟩) s fc, .bool false, .int .i64 (-1), .int .i64 0, .bool false]) [_, _] hB2 (hr:=Rd.blk (n := 1) hB2 zH (Nat.le_refl _) (by decide) rfl rfl) (hb:=by refine ⟨by decide, by unfold maxLen; omega, by omega⟩) (h:=fun v9 w6 hB3 _ => ?_); obtain ⟨vo, vc, rfl, _, _, _⟩ := yV hB3 (zT (zT zH)); refine kQ hK trivial (h:=fun hHeld => ?_); refine jt 9 (h:=jt 10 (h:=?_)); refine rW 11 (h:=fun K hK => ?_); refine ye [_] hB3 rfl rfl rfl (v := .slice _ _ _) rfl rfl rfl (by show (0 : Nat) + 1 ≤ 6; decide) ?_; intro w7 hB4; refine kQ hK trivial (h:=fun hHeld => ?_); refine jn ?_; clear hHeld; have h12 := St.sub hB4 zC; clear hB4; go_wp2; go_roundw
     case rel =>
      refine ⟨j + 1, rds ++ [(⟨⟨fg, fc, sv, rest⟩, false, -1, 0, false⟩ : RDv)], P9 ++ P, .slice vo (j + 1) vc, by omega, rfl, by rw [List.length_append, HRL]; rfl, ya (fun r hr => ?_), ?_⟩
      ·rcases List.mem_append.1 hr with h | h
       ·exact (HNO.out r h).mono (fun y hy => zR hy)
       ·rw [List.mem_singleton] at h; rw [h]; exact ⟨rfl, rfl, rfl, rfl, HSV.out, fun v hv => (HSE.out v hv).mono (fun y hy => List.mem_append_left _ hy)⟩
      ·have e : (rds ++ [(⟨⟨fg, fc, sv, rest⟩, false, -1, 0, false⟩ : RDv)]).flatMap RDv.cells = rds.flatMap RDv.cells ++ [.slice (some ⟨fg, 0, none⟩) s fc, .bool false, .int .i64 (-1), .int .i64 0, .bool false] := by
        rw [List.flatMap_append]
        congr 1
        show [Value.slice (some ⟨fg, 0, none⟩) sv.length fc, _, _, _, _] = _; rw [HSV]
       rw [e]; exact h12
     case measure => simp [intOf]; omega
    ·refine oW ?_; refine za [.agg (List.toArray [.slice (some ⟨fg, 0, none⟩) s fc, .bool false, .int .i64 (-1), .int .i64 0, .bool false])] ([.slice (some ⟨fg, 0, none⟩) s fc, .bool false, .int .i64 (-1), .int .i64 0, .bool false]) hB1 (h:=fun gb w5 hB2 => ?_); refine kQ hK trivial (h:=fun hHeld => ?_); refine rW 4 (h:=fun K hK => ?_); refine jl (Loads.at [_] hB2 rfl) ?_; refine kQ hK trivial (h:=fun hHeld => ?_); refine rW 8 (h:=fun K hK => ?_); refine jf (m := 1) (ys := [.slice (some ⟨fg, 0, none⟩) s fc, .bool false, .int .i64 (-1), .int .i64 0, .bool false]) [_, _] hB2 (hr:=Rd.blk (n := 1) hB2 zH (Nat.le_refl _) (by decide) rfl rfl) (hb:=by refine ⟨by decide, by unfold maxLen; omega, by omega⟩) (h:=fun v9 w6 hB3 _ => ?_); obtain ⟨vo, vc, rfl, _, _, _⟩ := yV hB3 (zT (zT zH)); refine kQ hK trivial (h:=fun hHeld => ?_); refine jt 9 (h:=jt 10 (h:=?_)); refine rW 11 (h:=fun K hK => ?_); refine ye [_] hB3 rfl rfl rfl (v := .slice _ _ _) rfl rfl rfl (by show (0 : Nat) + 1 ≤ 6; decide) ?_; intro w7 hB4; refine kQ hK trivial (h:=fun hHeld => ?_); refine jn ?_; clear hHeld; have h12 := St.sub hB4 zC; clear hB4; go_wp2; go_roundw
     case rel =>
      refine ⟨j + 1, rds ++ [(⟨⟨fg, fc, sv, rest⟩, false, -1, 0, false⟩ : RDv)], P9 ++ P, .slice vo (j + 1) vc, by omega, rfl, by rw [List.length_append, HRL]; rfl, ya (fun r hr => ?_), ?_⟩
      ·rcases List.mem_append.1 hr with h | h
       ·exact (HNO.out r h).mono (fun y hy => zR hy)
       ·rw [List.mem_singleton] at h; rw [h]; exact ⟨rfl, rfl, rfl, rfl, HSV.out, fun v hv => (HSE.out v hv).mono (fun y hy => List.mem_append_left _ hy)⟩
      ·have e : (rds ++ [(⟨⟨fg, fc, sv, rest⟩, false, -1, 0, false⟩ : RDv)]).flatMap RDv.cells = rds.flatMap RDv.cells ++ [.slice (some ⟨fg, 0, none⟩) s fc, .bool false, .int .i64 (-1), .int .i64 0, .bool false] := by
        rw [List.flatMap_append]
        congr 1
        show [Value.slice (some ⟨fg, 0, none⟩) sv.length fc, _, _, _, _] = _; rw [HSV]
       rw [e]; exact h12
     case measure => simp [intOf]; omega
  ·obtain rfl : j = d := by omega
   have e1 : decide ((j : Int) < (j : Int)) = false := zF (by omega); go_wp2; go_ret2; obtain ⟨gd, cd, rest, rfl, _, _, _, hst1⟩ := row_openL (L1 := [_]) hst (by omega); refine ⟨gr, ⟨rds, s, [], -1, false, 0, gd, cd, rest, .slice none 0 0, P⟩, rfl, fun gs hg => newA_ref (by omega) hg HRL.out HNO.out, ?_⟩; have h2 := zt 201 3 hst1; have h3 := St.perm h2 ((List.Perm.swap _ _ _).trans (List.Perm.cons _ (List.Perm.swap _ _ _))); unfold yg RX.tail RX.hdr RX.dc; rw [show (⟨rds, s, [], -1, false, 0, gd, cd, rest, .slice none 0 0, P⟩ : RX).devs.length = j from HRL.out]; show St w0 M _ (_ :: _ :: _ :: ((rds.map zE ++ P) ++ L)); rw [List.append_assoc]; exact h3
section
variable {w0 w : World} {M : List Nat} {R : List HA} {gr : Nat} {a : AR} {x : RX} (hS : St w0 M w (yg gr x ++ R)) (ro : RefOk a x) (dev : Int) (g : Nat)
include hS ro dev g
theorem fit_far_r (hc : a.inD dev = false) : Calls Tryz.prog 164 #[.pointer (some ⟨gr, 0, none⟩), .int .i64 dev] w fun e w' => e = .returned (.int .i64 (a.fitE dev)) ∧ ∃ y, RefOk (a.fit dev g) y ∧ St w0 M w' (yg gr y ++ R) := by
 have hst : St w0 M w (.blk gr 180 x.hdr :: .blk x.gd 182 x.dc :: .row x.lv 201 3 x.loose.length x.lc :: (x.tail ++ R)) := hS; have RO := ya ro; clear hS ro; have hE : a.fitE dev = 5 := by unfold AR.fitE; rw [hc]; rfl
 have hR : a.fit dev g = a := by unfold AR.fit; rw [hc]; rfl
 rw [hE, hR]; clear hE hR; have HS := ya hc; clear hc; go_enter Tryz.func164, Tryz.ntmps164; go_wp2_with (first | (go_at_call 154; refine (zN (R := R) hst RO.out dev).mono ?_; rw [HS]; rintro _ w1 ⟨rfl, hst⟩)); go_ret; exact ⟨rfl, x, RO.out, hst⟩
theorem fit_fine_r (hc : a.inD dev = true) (ok : a.Ok) (hll : a.loose.length < 1000000) (h0 : 0 < a.secs) : Calls Tryz.prog 164 #[.pointer (some ⟨gr, 0, none⟩), .int .i64 dev] w fun e w' => e = .returned (.int .i64 (a.fitE dev)) ∧ ∃ y, RefOk (a.fit dev g) y ∧ St w0 M w' (yg gr y ++ R) := by
 have hst : St w0 M w (.blk gr 180 x.hdr :: .blk x.gd 182 x.dc :: .row x.lv 201 3 x.loose.length x.lc :: (x.tail ++ R)) := hS; have RO := ya ro; clear hS ro; have hE : a.fitE dev = 0 := by unfold AR.fitE; rw [hc]; rfl
 have hR : a.fit dev g = (a.upd dev fun _ => yM a.secs g).rest dev.toNat := by unfold AR.fit; rw [hc]; rfl
 rw [hE, hR]; clear hE hR; have HS := ya hc; obtain ⟨k, rfl, hka⟩ := zV hc; have hkx : k < x.devs.length := by rw [RO.out.dn]; exact hka
 have HLX : Hid (x.loose.length < 1000000) := ya (by rw [RO.out.ln]; exact hll); have HM : Hid (0 < x.many ∧ x.many ≤ 4096) := ya (by rw [RO.out.mn]; exact ⟨h0, ok.sn⟩); have HFIT : Hid (k * 5 + 5 ≤ x.dc.length) := ya (qR hkx (i := 4) (by decide)); have HMK : Hid (∀ (P : List HA) (r : RDv), NewOk P x.many r → RefOk (a.upd (k : Int) fun _ => yM a.secs g) { (x.upd k fun _ => r) with pool := x.pool ++ P }) := ya (fun P r hn => by
  have h1 := RO.out.more (q := x.pool ++ P) (fun y hy => List.mem_append_left _ hy); have hlen : (yM a.secs g).firm.length = (a.dv (k : Int)).firm.length := by
   rw [(ok.dv hc).1]; exact List.length_replicate
  refine h1.upd (f := fun _ => yM a.secs g) (r := fun _ => r) hka ?_ (jT hc hlen); have h2 := (hn.mono (q := x.pool ++ P) (fun y hy => zR hy)).dok g; rw [RO.out.mn] at h2; exact h2)
 clear hc ok hll h0; go_enter Tryz.func164, Tryz.ntmps164; go_wp2_with (first | (go_at_call 154; refine (zN (R := R) hst RO.out (k : Int)).mono ?_; rw [HS]; rintro _ w1 ⟨rfl, hst⟩)); have hX := hst.drew; clear hst; refine wD (S := fun w' => Ld 177 gr 0 (.slice (some ⟨x.gd, 0, none⟩) x.devs.length x.cd) w' ∧ Ld 3 gr 1 (.int .i64 (x.many : Int)) w') ⟨yp [] hX rfl, yp [] hX rfl⟩ fun hHeld => ?_; refine jt 0 (h:=jt 4 (h:=jt 5 (h:=jt 1 (h:=jt 6 (h:=jt 2 (h:=jt 7 (h:=jt 3 (h:=jt 8 (h:=?_))))))))); refine yF 9 (h0:=fun K hK => ?_); go_simp; go_at_call 119; refine (blank_r hX x.many HM.out).mono ?_; rintro _ w4 ⟨fg, fc, sv, rest, P9, rfl, hsv, hsec, h4⟩; have hB1 : St w0 M w4 (.blk gr 180 x.hdr :: .blk x.gd 182 x.dc :: .row x.lv 201 3 x.loose.length x.lc :: (x.tail ++ (zE (⟨⟨fg, fc, sv, rest⟩, false, -1, 0, false⟩ : RDv) :: (P9 ++ R)))) := fit_perm h4; have HSV := ya hsv; have HSE := ya hsec; clear h4 hsv hsec; refine kD hK ⟨yp [] hB1 rfl, yp [] hB1 rfl⟩ (h:=fun hHeld => ?_); refine jt 10 (h:=?_); refine rW 11 (h:=fun K hK => ?_); refine ye [_] hB1 rfl rfl rfl (v := .agg (List.toArray [.slice (some ⟨fg, 0, none⟩) x.many fc, .bool false, .int .i64 (-1), .int .i64 0, .bool false])) (n := 5) rfl rfl rfl HFIT.out ?_; intro w7 hB4; refine kQ hK ⟨yp [] hB4 rfl, yp [] hB4 rfl⟩ (h:=fun hHeld => ?_); refine jn ?_; clear hHeld; have hnew : NewOk P9 x.many (⟨⟨fg, fc, sv, rest⟩, false, -1, 0, false⟩ : RDv) := ⟨rfl, rfl, rfl, rfl, HSV.out, HSE.out⟩; have hB5 : St w0 M w7 (.blk gr 180 x.hdr :: .blk x.gd 182 (yw x.dc (k * 5) ((⟨⟨fg, fc, sv, rest⟩, false, -1, 0, false⟩ : RDv)).cells) :: .row x.lv 201 3 x.loose.length x.lc :: (x.tail ++ (zE (⟨⟨fg, fc, sv, rest⟩, false, -1, 0, false⟩ : RDv) :: (P9 ++ R)))) := by
  have e : ((⟨⟨fg, fc, sv, rest⟩, false, -1, 0, false⟩ : RDv)).cells = [.slice (some ⟨fg, 0, none⟩) x.many fc, .bool false, .int .i64 (-1), .int .i64 0, .bool false] := by
   show [Value.slice (some ⟨fg, 0, none⟩) sv.length fc, _, _, _, _] = _; rw [HSV]
  rw [e]; exact hB4
 clear hB4; have hs8 := fit_fin hkx hB5; have HRX := ya (HMK.out P9 (⟨⟨fg, fc, sv, rest⟩, false, -1, 0, false⟩ : RDv) hnew); clear hB5 hnew; have HXL : Hid (x.loose.length < 1000000) := HLX; go_wp2_with (first | (go_at_call 156; refine (rest_r (R := R) hs8 HRX.out k HXL.out).mono ?_; rintro _ w5 ⟨u, rfl, h4⟩; have hs5 := h4; clear h4 hs8; obtain ⟨uo, uc, rfl, _, _, _⟩ := yV hs5 zH) | (refine ye [_] hs5 rfl rfl rfl (v := .slice _ _ _) rfl rfl rfl (by show (2 : Nat) + 1 ≤ 6; decide) ?_; intro w6 hs6; clear hs5)); go_ret; refine ⟨rfl, _, HRX.out.rest k (.slice uo (j2 k x.loose).length uc), ?_⟩; exact fin_rest hs6
theorem fit_r (ok : a.Ok) (hll : a.loose.length < 1000000) (h0 : 0 < a.secs) : Calls Tryz.prog 164 #[.pointer (some ⟨gr, 0, none⟩), .int .i64 dev] w fun e w' => e = .returned (.int .i64 (a.fitE dev)) ∧ ∃ y, RefOk (a.fit dev g) y ∧ St w0 M w' (yg gr y ++ R) := by
 cases hc : a.inD dev
 ·exact fit_far_r hS ro dev g hc
 ·exact fit_fine_r hS ro dev g hc ok hll h0
end
end
end
section
open Go.RowKit Hp
attribute [local irreducible] Go.Calls
instance bSl : TySl Tryz.prog 47 4 := ⟨by kernel_rfl⟩
instance bEb : TyE Tryz.prog 4 1 1 := ⟨by kernel_rfl⟩
instance bZb : TyZ Tryz.prog 4 [.bool false] := ⟨by kernel_rfl⟩
instance bNb : TyN Tryz.prog 4 1 := ⟨by kernel_rfl⟩
instance bSb : TyS Tryz.prog 4 := ⟨by kernel_rfl⟩
instance bSs : TyS Tryz.prog 47 := ⟨by kernel_rfl⟩
instance bNs : TyN Tryz.prog 47 1 := ⟨by kernel_rfl⟩
def markL (i : Nat) : Bool := i % 2 == 0
def lentL (ks : List Bool) : List Bool := ks ++ [markL ks.length, markL (ks.length + 1), markL (ks.length + 2)]
def lentS (n : Nat) : Nat → List Value
 | 0 => [.bool false, .bool false, .bool false]
 | 1 => [.bool (markL n), .bool false, .bool false]
 | 2 => [.bool (markL n), .bool (markL (n + 1)), .bool false]
 | _ => [.bool (markL n), .bool (markL (n + 1)), .bool (markL (n + 2))]
theorem yaR (ks : List Bool) : (yU ks).length = ks.length := by simp [yU]
theorem lentL_V (ks : List Bool) : yU (lentL ks) = yU ks ++ lentS ks.length 3 := by simp [lentL, yU, lentS]
theorem lentL_len (ks : List Bool) : (lentL ks).length = ks.length + 3 := by simp [lentL]
theorem lentS_len (n j : Nat) : (lentS n j).length = 3 := by
 match j with
 | 0 => rfl
 | 1 => rfl
 | 2 => rfl
 | _ + 3 => rfl
theorem ones_boolsV (l : List Bool) : (yU l).all (·.oneCell') = true := by
 rw [List.all_eq_true]; intro v hv; simp only [yU, List.mem_map] at hv; obtain ⟨x, _, rfl⟩ := hv; rfl
theorem put_lentS (ks : List Bool) (k j : Nat) (hk : k = ks.length + j) (hj : j < 3) : yw (yU ks ++ lentS ks.length j) k [.bool (markL k)] = yU ks ++ lentS ks.length (j + 1) := by
 subst hk; have := put_app (yU ks) (lentS ks.length j) j [.bool (markL (ks.length + j))]; rw [yaR] at this; rw [this]
 congr 1
 match j, hj with
 | 0, _ => rfl
 | 1, _ => rfl
 | 2, _ => rfl
theorem rem2 {k : Nat} (hk : k < 1000000) (T : TypeId) : binOp .rem T (.int .i64 (k : Int)) (.int .i64 2) = pure (.int .i64 ((k % 2 : Nat) : Int)) := by
 have hq : (k : Int).tmod 2 = ((k % 2 : Nat) : Int) := by rw [Int.tmod_eq_emod_of_nonneg (by omega)]; omega
 have zd : IntKind.i64.wrap ((k % 2 : Nat) : Int) = ((k % 2 : Nat) : Int) := IntWalk.i64_in _ (by omega); simp only [binOp]; simp [Op.intDiv, hq, zd]
theorem lentL_any (ao : Option Addr) (n c : Nat) (ks : List Bool) (w : World) (hA : Rd w (.slice ao n c) 1 n (yU ks)) (hn : ks.length = n) (hb : n ≤ 100000) :
  Calls Tryz.prog 129 #[.slice ao n c] w fun e w' => ∃ g, e = .returned (.slice (some ⟨g, 0, none⟩) n (n + 3)) ∧ St w [] w' [.blk g 4 (yU (lentL ks))] := by
 have hst := St.refl w; have Hn := ya hn; clear hn; go_enter Tryz.func129, Tryz.ntmps129; go_wp2_with (first | (apply wl_make (n + 3) (n + 3) hst; rfl; rfl; exact rfl; exact rfl; infer_instance; infer_instance; infer_instance; (push_cast; rfl); (push_cast; rfl); exact Nat.le_refl _; (constructor <;> omega); intro g _ hst1; clear hst) | (apply wl_copy [] hst1; rfl; rfl; exact rfl; exact rfl; infer_instance; infer_instance; exact Rd.old hst1 hA; exact ones_boolsV ks; omega; (simp <;> omega); intro w2 hst2; clear hst1)); have e : yw (List.replicate (n + 3) (Value.bool false)) 0 (yU ks) = yU ks ++ lentS n 0 := by
  simp only [yw, List.take_zero, List.nil_append, yaR, Hn.out, List.drop_replicate, Nat.zero_add]
  congr 1
  rw [show n + 3 - n = 3 by omega]; rfl
 rw [e] at hst2; clear e; have hst3 : St w [] w2 [.blk g 4 (yU ks ++ lentS n 0)] := hst2; clear hst2; go_loopw [4] (fun i wr => ∃ k j : Nat, i = .int .i64 k ∧ Hid (k = n + j) ∧ j ≤ 3 ∧ St w [] wr [.blk g 4 (yU ks ++ lentS n j)]) (fun i _ => n + 3 - (intOf i).toNat)
 case atStart => exact ⟨n, 0, rfl, ya rfl, by omega, hst3⟩
 case round =>
  clear hst3; obtain ⟨k, j, rfl, hkj, hj, hst⟩ := hrel; by_cases hj3 : j < 3
  ·have hk : k < n + 3 := by rw [hkj.out]; omega
   have f1 := rem2 (k := k) (by omega); obtain ⟨B, hB⟩ : ∃ B, B = markL k := ⟨_, rfl⟩; have HB := ya hB; have f2 : (((k % 2 : Nat) : Int) == 0) = B := by
    rw [hB]; unfold markL; by_cases h : k % 2 = 0
    ·rw [h]; rfl
    ·rw [beq_eq_false_iff_ne.2 (by omega), beq_eq_false_iff_ne.2 h]
   obtain ⟨r, hr⟩ : ∃ r : Int, r = ((k % 2 : Nat) : Int) := ⟨_, rfl⟩; rw [← hr] at f1 f2; clear hr hB; go_wp2_with (first | (refine yA hk ?_) | (refine ye [] hst rfl rfl rfl (v := .bool B) rfl rfl rfl (by rw [Nat.zero_add, Nat.mul_one]; show k + 1 ≤ _; rw [List.length_append, yaR, lentS_len, Hn]; omega) ?_; intro w5 hst4; clear hst)); have e := put_lentS ks k j (by rw [Hn]; exact hkj.out) hj3; rw [Hn, ← HB] at e; rw [Nat.zero_add, Nat.mul_one] at hst4; have e2 : yw (yU ks ++ lentS n j) k (Value.bool B).cells.toList = yU ks ++ lentS n (j + 1) := e; rw [e2] at hst4; clear e e2; have hst5 : St w [] w5 [.blk g 4 (yU ks ++ lentS n (j + 1))] := hst4; clear hst4; have Hk1 := ya (show k + 1 = n + (j + 1) by rw [hkj.out]; omega); go_roundw
   case rel => exact ⟨k + 1, j + 1, by go_num, Hk1, by omega, hst5⟩
   case measure => simp [intOf]; omega
  ·have e : k = n + 3 := by rw [hkj.out]; omega
   have ej : j = 3 := by omega
   subst ej; clear hkj hj hj3; subst e; go_wp2; go_ret; refine ⟨g, rfl, ?_⟩; have e : yU (lentL ks) = yU ks ++ lentS n 3 := by rw [lentL_V, Hn]
   rw [e]; exact hst
section
theorem loadedBB (A : Addr) : loadVar 4 A = yn 4 A := rfl
attribute [local go_sem ↓] loadedBB
theorem sameL_any (v0 u0 : Nat) (o1 o2 n c d : Nat) (l : List Bool) (w : World) (hv : Rd w (.slice (some ⟨v0, o1, none⟩) n c) 1 n (yU l)) (hu : Rd w (.slice (some ⟨u0, o2, none⟩) n d) 1 n (yU l)) (hn : l.length = n) (hb : n ≤ 1000000) :
  Calls Tryz.prog 159 #[.slice (some ⟨v0, o1, none⟩) n c, .slice (some ⟨u0, o2, none⟩) n d] w fun e w' => e = .returned (.bool true) ∧ St w [] w' [] := by
 have hst := St.refl w; have HN := ya hn; clear hn; go_enter Tryz.func159, Tryz.ntmps159; go_wp2; go_loopw [5] (fun i wr => ∃ j : Nat, j ≤ n ∧ i = .int .i64 (j : Int) ∧ St w [] wr []) (fun i _ => n - (intOf i).toNat)
 case atStart => exact ⟨0, Nat.zero_le _, rfl, hst⟩
 case round =>
  clear hst; obtain ⟨j, hj, rfl, hst⟩ := hrel; by_cases hlj : j < n
  ·have d1 : decide ((j : Int) < (n : Int)) = true := zD (by omega); have z1 : IntKind.i64.wrap ((j : Int) + 1) = (j : Int) + 1 := IntWalk.i64_in _ (by omega); have hji : (j : Int) < (n : Int) := by omega
   obtain ⟨b, hb⟩ : ∃ b, l[j]? = some b := ⟨_, List.getElem?_eq_getElem (by rw [HN]; exact hlj)⟩; have H1 : Hid (w.cell? ⟨v0, o1 + j, none⟩ = some (.bool b)) := ya (hv.range j _ (by unfold yU; rw [List.getElem?_map, hb]; rfl)); have H2 : Hid (w.cell? ⟨u0, o2 + j, none⟩ = some (.bool b)) := ya (hu.range j _ (by unfold yU; rw [List.getElem?_map, hb]; rfl)); have f3 : (b != b) = false := by simp
   clear hb; go_wp2; have hX := hst.drew; clear hst; refine wD (S := fun w' => Ld 4 v0 (o1 + j) (.bool b) w' ∧ Ld 4 u0 (o2 + j) (.bool b) w') ⟨ldO hX (H1.out), ldO hX (H2.out)⟩ fun hHeld => ?_; refine jt 0 (h:=jt 1 (h:=jt 4 (h:=jt 5 (h:=jt 2 (h:=jt 6 (h:=jt 3 (h:=jt 7 (h:=jt 8 (h:=?_))))))))); refine jn ?_; clear hHeld; go_wp2; go_roundw
   case rel => exact ⟨j + 1, by omega, rfl, hX⟩
   case measure => simp [intOf]; omega
  ·obtain rfl : j = n := by omega
   have d1 : decide ((j : Int) < (j : Int)) = false := zF (by omega); go_wp2; go_ret; exact ⟨rfl, hst⟩
end
theorem keptL_any (ao : Option Addr) (g n c : Nat) (ks : List Bool) (w : World) (L : List HA) (w0 : World) (M : List Nat) (hst0 : St w0 M w L) (hg : HA.blk g 4 (yU (lentL ks)) ∈ L) (hA : Rd w (.slice ao n c) 1 n (yU ks)) (hn : ks.length = n) (hb : n ≤ 100000) :
  Calls Tryz.prog 131 #[.slice (some ⟨g, 0, none⟩) n (n + 3), .slice ao n c] w fun e w' => e = .returned (.bool true) ∧ St w [] w' [] := by
 have hl : Rd w (.slice (some ⟨g, 0, none⟩) (n + 3) (n + 3)) 1 (n + 3) (yU (lentL ks)) := Rd.blk hst0 hg (Nat.le_refl _) (by unfold maxLen; omega) (by rw [yaR, lentL_len, hn]; omega) (by rw [List.drop_zero, List.take_length]); clear hst0 hg; have Hn := ya hn; clear hn; have hst := St.refl w; have a0 : (0 : Int) ≤ (n : Int) + 3 := by omega
 have a1 : ((n : Int) + 3).toNat = n + 3 := by omega
 have a2 : IntKind.i64.wrap ((n : Int) + 3) = (n : Int) + 3 := IntWalk.i64_in _ (by omega); have a3 : ((n + 3 : Nat) : Int) = (n : Int) + 3 := by omega
 have a4 : (n : Int) + 3 ≤ 9223372036854775807 := by omega
 go_enter Tryz.func131, Tryz.ntmps131; go_wp2; have hD := hst.drew; clear hst
 go_region_held3 (fun _ => True) (trivial) (first
  | (go_at_call 129; refine (lentL_any ao n c ks _ (Rd.old hD hA) Hn.out hb).mono ?_; rintro _ _ ⟨g2, rfl, h4⟩; have hst2 := St.call hD h4; clear h4 hD)
  | (go_at_call 159; refine jc hst2 (sameL_any g g2 0 0 (n + 3) (n + 3) (n + 3) (lentL ks) _ (Rd.old hst2 hl) (j3 hst2 (by rw [yaR, lentL_len, Hn]; omega) (by omega)) (by rw [lentL_len, Hn]) (by omega)) fun _ hst3 => ?_; clear hst2))
 go_goals
 all_goals (go_wp2; go_ret; exact ⟨rfl, hst3.nil⟩)
end
section
open Go.RowKit Hp
attribute [local irreducible] Go.Calls Go.wpList
section
theorem loadedI16 (A : Addr) : loadVar 3 A = yn 3 A := rfl
attribute [local go_sem ↓] loadedI16
theorem off_g5 {w0 w : World} {M : List Nat} {P R : List HA} {b : HA} (h : St w0 M w (P ++ (b :: R))) : St w0 M w (P ++ R) := St.sub h (List.Sublist.append_left zC _)
section
variable {w : World} {w1 : World} {R : List HA} {gr ga : Nat} {a : AR} {x : GA} {q : RX} (y : AC) (hS : St w [] w1 (yg gr q ++ (yj ga x a ++ R))) (ro : RefOk a q) (ok : a.Ok) (hll : a.loose.length < 1000000) (hst0 : 0 ≤ a.steps ∧ a.steps < 4611686018427387904) (h0 : 0 < a.secs) (hy : y.Ok w)
include y hS ro ok hll hst0 h0 hy
theorem bef_6 (hk : y.k = 6) : Calls Tryz.prog 134 #[.pointer (some ⟨ga, 0, none⟩), .pointer (some ⟨gr, 0, none⟩), .agg (List.toArray y.cells)] w1 fun e w' => ∃ b, e = .returned (.bool true) ∧ ∃ (x' : GA) (a' : AR) (q' : RX), b = a' ∧ Next a a' ∧ RefOk a' q' ∧ St w [] w' (yg gr q' ++ (yj ga x' a' ++ R)) := by
 have _ := hst0; have hst := hS; have RO := ya ro; have OK := ya ok; have HLL := ya hll; have H0 := ya h0; have HY := ya hy; have e6 : (y.k == 6) = true := by rw [hk]; rfl
 have HNX : Hid (Next a (a.lose y.dev)) := ya ⟨ok.lose _, Stays.fell _ _ _ fun _ => rfl⟩; obtain ⟨E, hE⟩ : ∃ E, E = a.loseE y.dev := ⟨_, rfl⟩; have HE := ya hE; have eE : (E == E) = true := beq_self_eq_true E; clear hS ro ok hll h0 hy hk hE hst0; go_enter Tryz.func134, Tryz.ntmps134; go_wp2_with (first | (refine zj hst fun g5 w2 hst1 => ?_; clear hst; have hst2 : St w [] w2 (yg gr q ++ (.blk g5 49 y.cells :: (yj ga x a ++ R))) := St.perm hst1 List.perm_middle.symm; clear hst1) | (refine jl (Loads.at _ hst2 rfl) ?_)); have hX := hst2.drew; clear hst2; refine wD (S := fun w' => Ld 3 g5 1 (.int .i64 y.dev) w') (Loads.at _ hX rfl) fun hHeld => ?_; refine jt 0 (h:=jt 1 (h:=jt 4 (h:=jt 5 (h:=jt 2 (h:=jt 6 (h:=?_)))))); refine yF 3 (h0:=fun K hK => ?_); go_simp; go_at_call 55; refine (loseM_any (zJ (Bs := [_]) hX) OK.out y.dev).mono ?_; rw [← HE]; rintro _ w4 ⟨rfl, h4⟩; have hA1 : St w [] w4 (yg gr q ++ (.blk g5 49 y.cells :: (yj ga x (a.lose y.dev) ++ R))) := jg (Bs := [_]) hX h4; clear h4; refine kD hK (Loads.at _ hA1 rfl) (h:=fun hHeld => ?_); refine yF 7 (h0:=fun K hK => ?_); go_simp; go_at_call 160; refine (lose_r (R := (.blk g5 49 y.cells :: (yj ga x (a.lose y.dev) ++ R))) hA1 RO.out y.dev).mono ?_; rw [← HE]; rintro _ w5 ⟨rfl, q2, hq, h4⟩; have hA2 : St w [] w5 (yg gr q2 ++ (.blk g5 49 y.cells :: (yj ga x (a.lose y.dev) ++ R))) := h4; have HQ := ya hq; clear h4 hq; refine kD hK (Loads.at _ hA2 rfl) (h:=fun hHeld => ?_); refine jt 8 (h:=jt 9 (h:=?_)); refine jn ?_; clear hHeld; go_wp2; go_ret; exact ⟨(a.lose y.dev), rfl, x, (a.lose y.dev), q2, rfl, HNX.out, HQ.out, off_g5 hA2⟩
theorem bef_7 (hk : y.k = 7) : Calls Tryz.prog 134 #[.pointer (some ⟨ga, 0, none⟩), .pointer (some ⟨gr, 0, none⟩), .agg (List.toArray y.cells)] w1 fun e w' => ∃ b, e = .returned (.bool true) ∧ ∃ (x' : GA) (a' : AR) (q' : RX), b = a' ∧ Next a a' ∧ RefOk a' q' ∧ St w [] w' (yg gr q' ++ (yj ga x' a' ++ R)) := by
 have _ := hst0; have hst := hS; have RO := ya ro; have OK := ya ok; have HLL := ya hll; have H0 := ya h0; have HY := ya hy; have e6 : (y.k == 6) = false := by rw [hk]; rfl
 have e7 : (y.k == 7) = true := by rw [hk]; rfl
 have HNX : Hid (Next a (a.stray y.dev y.pl)) := ya ⟨ok.stray _ _, Stays.fell _ _ _ fun _ => rfl⟩; obtain ⟨E, hE⟩ : ∃ E, E = a.strayE y.dev y.pl := ⟨_, rfl⟩; have HE := ya hE; have eE : (E == E) = true := beq_self_eq_true E; clear hS ro ok hll h0 hy hk hE hst0; go_enter Tryz.func134, Tryz.ntmps134; go_wp2_with (first | (refine zj hst fun g5 w2 hst1 => ?_; clear hst; have hst2 : St w [] w2 (yg gr q ++ (.blk g5 49 y.cells :: (yj ga x a ++ R))) := St.perm hst1 List.perm_middle.symm; clear hst1) | (refine jl (Loads.at _ hst2 rfl) ?_)); have hX := hst2.drew; clear hst2; refine wD (S := fun w' => Ld 3 g5 1 (.int .i64 y.dev) w' ∧ Ld 3 g5 2 (.int .i64 y.pl) w') ⟨Loads.at _ hX rfl, Loads.at _ hX rfl⟩ fun hHeld => ?_; refine jt 0 (h:=jt 1 (h:=jt 3 (h:=jt 6 (h:=jt 7 (h:=jt 9 (h:=jt 2 (h:=jt 4 (h:=jt 8 (h:=jt 10 (h:=?_)))))))))); refine yF 5 (h0:=fun K hK => ?_); go_simp; go_at_call 56; refine (strayM_any (zJ (Bs := [_]) hX) OK.out y.dev y.pl).mono ?_; rw [← HE]; rintro _ w4 ⟨rfl, h4⟩; have hA1 : St w [] w4 (yg gr q ++ (.blk g5 49 y.cells :: (yj ga x (a.stray y.dev y.pl) ++ R))) := jg (Bs := [_]) hX h4; clear h4; refine kD hK ⟨Loads.at _ hA1 rfl, Loads.at _ hA1 rfl⟩ (h:=fun hHeld => ?_); refine yF 11 (h0:=fun K hK => ?_); go_simp; go_at_call 161; refine (stray_r (R := (.blk g5 49 y.cells :: (yj ga x (a.stray y.dev y.pl) ++ R))) hA1 RO.out y.dev y.pl).mono ?_; rw [← HE]; rintro _ w5 ⟨rfl, q2, hq, h4⟩; have hA2 : St w [] w5 (yg gr q2 ++ (.blk g5 49 y.cells :: (yj ga x (a.stray y.dev y.pl) ++ R))) := h4; have HQ := ya hq; clear h4 hq; refine kD hK ⟨Loads.at _ hA2 rfl, Loads.at _ hA2 rfl⟩ (h:=fun hHeld => ?_); refine jt 12 (h:=jt 13 (h:=?_)); refine jn ?_; clear hHeld; go_wp2; go_ret; exact ⟨(a.stray y.dev y.pl), rfl, x, (a.stray y.dev y.pl), q2, rfl, HNX.out, HQ.out, off_g5 hA2⟩
theorem bef_8 (hk : y.k = 8) : Calls Tryz.prog 134 #[.pointer (some ⟨ga, 0, none⟩), .pointer (some ⟨gr, 0, none⟩), .agg (List.toArray y.cells)] w1 fun e w' => ∃ b, e = .returned (.bool true) ∧ ∃ (x' : GA) (a' : AR) (q' : RX), b = a' ∧ Next a a' ∧ RefOk a' q' ∧ St w [] w' (yg gr q' ++ (yj ga x' a' ++ R)) := by
 have _ := hst0; have hst := hS; have RO := ya ro; have OK := ya ok; have HLL := ya hll; have H0 := ya h0; have HY := ya hy; have e6 : (y.k == 6) = false := by rw [hk]; rfl
 have e7 : (y.k == 7) = false := by rw [hk]; rfl
 have e8 : (y.k == 8) = true := by rw [hk]; rfl
 have HNX : Hid (Next a (a.fails y.dev y.n)) := ya ⟨ok.fails _ _ hy.n.2, Stays.fell _ _ _ fun _ => rfl⟩; obtain ⟨E, hE⟩ : ∃ E, E = a.failsE y.dev y.n := ⟨_, rfl⟩; have HE := ya hE; have eE : (E == E) = true := beq_self_eq_true E; clear hS ro ok hll h0 hy hk hE hst0; go_enter Tryz.func134, Tryz.ntmps134; go_wp2_with (first | (refine zj hst fun g5 w2 hst1 => ?_; clear hst; have hst2 : St w [] w2 (yg gr q ++ (.blk g5 49 y.cells :: (yj ga x a ++ R))) := St.perm hst1 List.perm_middle.symm; clear hst1) | (refine jl (Loads.at _ hst2 rfl) ?_)); have hX := hst2.drew; clear hst2; refine wD (S := fun w' => Ld 3 g5 1 (.int .i64 y.dev) w' ∧ Ld 3 g5 3 (.int .i64 y.n) w') ⟨Loads.at _ hX rfl, Loads.at _ hX rfl⟩ fun hHeld => ?_; refine jt 0 (h:=jt 1 (h:=jt 3 (h:=jt 6 (h:=jt 7 (h:=jt 9 (h:=jt 2 (h:=jt 4 (h:=jt 8 (h:=jt 10 (h:=?_)))))))))); refine yF 5 (h0:=fun K hK => ?_); go_simp; go_at_call 57; refine (failsM_any (zJ (Bs := [_]) hX) OK.out y.dev y.n).mono ?_; rw [← HE]; rintro _ w4 ⟨rfl, h4⟩; have hA1 : St w [] w4 (yg gr q ++ (.blk g5 49 y.cells :: (yj ga x (a.fails y.dev y.n) ++ R))) := jg (Bs := [_]) hX h4; clear h4; refine kD hK ⟨Loads.at _ hA1 rfl, Loads.at _ hA1 rfl⟩ (h:=fun hHeld => ?_); refine yF 11 (h0:=fun K hK => ?_); go_simp; go_at_call 162; refine (fails_r (R := (.blk g5 49 y.cells :: (yj ga x (a.fails y.dev y.n) ++ R))) hA1 RO.out y.dev y.n).mono ?_; rw [← HE]; rintro _ w5 ⟨rfl, q2, hq, h4⟩; have hA2 : St w [] w5 (yg gr q2 ++ (.blk g5 49 y.cells :: (yj ga x (a.fails y.dev y.n) ++ R))) := h4; have HQ := ya hq; clear h4 hq; refine kD hK ⟨Loads.at _ hA2 rfl, Loads.at _ hA2 rfl⟩ (h:=fun hHeld => ?_); refine jt 12 (h:=jt 13 (h:=?_)); refine jn ?_; clear hHeld; go_wp2; go_ret; exact ⟨(a.fails y.dev y.n), rfl, x, (a.fails y.dev y.n), q2, rfl, HNX.out, HQ.out, off_g5 hA2⟩
theorem bef_9 (hk : y.k = 9) : Calls Tryz.prog 134 #[.pointer (some ⟨ga, 0, none⟩), .pointer (some ⟨gr, 0, none⟩), .agg (List.toArray y.cells)] w1 fun e w' => ∃ b, e = .returned (.bool true) ∧ ∃ (x' : GA) (a' : AR) (q' : RX), b = a' ∧ Next a a' ∧ RefOk a' q' ∧ St w [] w' (yg gr q' ++ (yj ga x' a' ++ R)) := by
 have _ := hst0; have hst := hS; have RO := ya ro; have OK := ya ok; have HLL := ya hll; have H0 := ya h0; have HY := ya hy; have e6 : (y.k == 6) = false := by rw [hk]; rfl
 have e7 : (y.k == 7) = false := by rw [hk]; rfl
 have e8 : (y.k == 8) = false := by rw [hk]; rfl
 have e9 : (y.k == 9) = true := by rw [hk]; rfl
 have HNX : Hid (Next a (a.pull y.dev)) := ya ⟨ok.pull _, Stays.pull _ _⟩; obtain ⟨E, hE⟩ : ∃ E, E = a.pullE y.dev := ⟨_, rfl⟩; have HE := ya hE; have eE : (E == E) = true := beq_self_eq_true E; clear hS ro ok hll h0 hy hk hE hst0; go_enter Tryz.func134, Tryz.ntmps134; go_wp2_with (first | (refine zj hst fun g5 w2 hst1 => ?_; clear hst; have hst2 : St w [] w2 (yg gr q ++ (.blk g5 49 y.cells :: (yj ga x a ++ R))) := St.perm hst1 List.perm_middle.symm; clear hst1) | (refine jl (Loads.at _ hst2 rfl) ?_)); have hX := hst2.drew; clear hst2; refine wD (S := fun w' => Ld 3 g5 1 (.int .i64 y.dev) w') (Loads.at _ hX rfl) fun hHeld => ?_; refine jt 0 (h:=jt 1 (h:=jt 4 (h:=jt 5 (h:=jt 2 (h:=jt 6 (h:=?_)))))); refine yF 3 (h0:=fun K hK => ?_); go_simp; go_at_call 14; refine (pullM_any (zJ (Bs := [_]) hX) OK.out HLL.out y.dev).mono ?_; rw [← HE]; rintro _ w4 ⟨rfl, x2, h4⟩; have hA1 : St w [] w4 (yg gr q ++ (.blk g5 49 y.cells :: (yj ga x2 (a.pull y.dev) ++ R))) := jg (Bs := [_]) hX h4; clear h4; refine kD hK (Loads.at _ hA1 rfl) (h:=fun hHeld => ?_); refine yF 7 (h0:=fun K hK => ?_); go_simp; go_at_call 163; refine (pull_r (R := (.blk g5 49 y.cells :: (yj ga x2 (a.pull y.dev) ++ R))) hA1 RO.out y.dev HLL.out).mono ?_; rw [← HE]; rintro _ w5 ⟨rfl, q2, hq, h4⟩; have hA2 : St w [] w5 (yg gr q2 ++ (.blk g5 49 y.cells :: (yj ga x2 (a.pull y.dev) ++ R))) := h4; have HQ := ya hq; clear h4 hq; refine kD hK (Loads.at _ hA2 rfl) (h:=fun hHeld => ?_); refine jt 8 (h:=jt 9 (h:=?_)); refine jn ?_; clear hHeld; go_wp2; go_ret; exact ⟨(a.pull y.dev), rfl, x2, (a.pull y.dev), q2, rfl, HNX.out, HQ.out, off_g5 hA2⟩
theorem bef_10 (hk : y.k = 10) : Calls Tryz.prog 134 #[.pointer (some ⟨ga, 0, none⟩), .pointer (some ⟨gr, 0, none⟩), .agg (List.toArray y.cells)] w1 fun e w' => ∃ b, e = .returned (.bool true) ∧ ∃ (x' : GA) (a' : AR) (q' : RX), b = a' ∧ Next a a' ∧ RefOk a' q' ∧ St w [] w' (yg gr q' ++ (yj ga x' a' ++ R)) := by
 have _ := hst0; have hst := hS; have RO := ya ro; have OK := ya ok; have HLL := ya hll; have H0 := ya h0; have HY := ya hy; have e6 : (y.k == 6) = false := by rw [hk]; rfl
 have e7 : (y.k == 7) = false := by rw [hk]; rfl
 have e8 : (y.k == 8) = false := by rw [hk]; rfl
 have e9 : (y.k == 9) = false := by rw [hk]; rfl
 have e10 : (y.k == 10) = true := by rw [hk]; rfl
 have HNX : Hid (∀ g9, Next a (a.fit y.dev g9)) := ya (fun g9 => ⟨ok.fit _ _, Stays.fit ok _ _⟩); obtain ⟨E, hE⟩ : ∃ E, E = a.fitE y.dev := ⟨_, rfl⟩; have HE := ya hE; have eE : (E == E) = true := beq_self_eq_true E; clear hS ro ok hll h0 hy hk hE hst0; go_enter Tryz.func134, Tryz.ntmps134; go_wp2_with (first | (refine zj hst fun g5 w2 hst1 => ?_; clear hst; have hst2 : St w [] w2 (yg gr q ++ (.blk g5 49 y.cells :: (yj ga x a ++ R))) := St.perm hst1 List.perm_middle.symm; clear hst1) | (refine jl (Loads.at _ hst2 rfl) ?_)); have hX := hst2.drew; clear hst2; refine wD (S := fun w' => Ld 3 g5 1 (.int .i64 y.dev) w') (Loads.at _ hX rfl) fun hHeld => ?_; refine jt 0 (h:=jt 1 (h:=jt 4 (h:=jt 5 (h:=jt 2 (h:=jt 6 (h:=?_)))))); refine yF 3 (h0:=fun K hK => ?_); go_simp; go_at_call 16; refine (fitM_any (zJ (Bs := [_]) hX) OK.out HLL.out y.dev).mono ?_; rw [← HE]; rintro _ w4 ⟨rfl, x2, g9, h4⟩; have hA1 : St w [] w4 (yg gr q ++ (.blk g5 49 y.cells :: (yj ga x2 (a.fit y.dev g9) ++ R))) := jg (Bs := [_]) hX h4; clear h4; refine kD hK (Loads.at _ hA1 rfl) (h:=fun hHeld => ?_); refine yF 7 (h0:=fun K hK => ?_); go_simp; go_at_call 164; refine (fit_r (R := (.blk g5 49 y.cells :: (yj ga x2 (a.fit y.dev g9) ++ R))) hA1 RO.out y.dev g9 OK.out HLL.out H0.out).mono ?_; rw [← HE]; rintro _ w5 ⟨rfl, q2, hq, h4⟩; have hA2 : St w [] w5 (yg gr q2 ++ (.blk g5 49 y.cells :: (yj ga x2 (a.fit y.dev g9) ++ R))) := h4; have HQ := ya hq; clear h4 hq; refine kD hK (Loads.at _ hA2 rfl) (h:=fun hHeld => ?_); refine jt 8 (h:=jt 9 (h:=?_)); refine jn ?_; clear hHeld; go_wp2; go_ret; exact ⟨(a.fit y.dev g9), rfl, x2, (a.fit y.dev g9), q2, rfl, HNX.out g9, HQ.out, off_g5 hA2⟩
theorem bef_none (k6 : y.k ≠ 6) (k7 : y.k ≠ 7) (k8 : y.k ≠ 8) (k9 : y.k ≠ 9) (k10 : y.k ≠ 10) : Calls Tryz.prog 134 #[.pointer (some ⟨ga, 0, none⟩), .pointer (some ⟨gr, 0, none⟩), .agg (List.toArray y.cells)] w1 fun e w' => ∃ b, e = .returned (.bool true) ∧ ∃ (x' : GA) (a' : AR) (q' : RX), b = a' ∧ Next a a' ∧ RefOk a' q' ∧ St w [] w' (yg gr q' ++ (yj ga x' a' ++ R)) := by
 have _ := hst0; have hst := hS; have RO := ya ro; have OK := ya ok; have HLL := ya hll; have H0 := ya h0; have HY := ya hy; have e6 : (y.k == 6) = false := beq_eq_false_iff_ne.2 k6; have e7 : (y.k == 7) = false := beq_eq_false_iff_ne.2 k7; have e8 : (y.k == 8) = false := beq_eq_false_iff_ne.2 k8; have e9 : (y.k == 9) = false := beq_eq_false_iff_ne.2 k9; have e10 : (y.k == 10) = false := beq_eq_false_iff_ne.2 k10; clear hS ro ok hll h0 hy k6 k7 k8 k9 k10 hst0; go_enter Tryz.func134, Tryz.ntmps134; go_wp2_with (first | (refine zj hst fun g5 w2 hst1 => ?_; clear hst; have hst2 : St w [] w2 (yg gr q ++ (.blk g5 49 y.cells :: (yj ga x a ++ R))) := St.perm hst1 List.perm_middle.symm; clear hst1) | (refine jl (Loads.at _ hst2 rfl) ?_)); go_ret; exact ⟨a, rfl, x, a, q, rfl, Next.refl OK.out, RO.out, off_g5 hst2⟩
theorem befalls2 : Calls Tryz.prog 134 #[.pointer (some ⟨ga, 0, none⟩), .pointer (some ⟨gr, 0, none⟩), .agg (List.toArray y.cells)] w1 fun e w' => ∃ b, e = .returned (.bool true) ∧ ∃ (x' : GA) (a' : AR) (q' : RX), b = a' ∧ Next a a' ∧ RefOk a' q' ∧ St w [] w' (yg gr q' ++ (yj ga x' a' ++ R)) := by
 by_cases k6 : y.k = 6
 ·exact bef_6 y hS ro ok hll hst0 h0 hy k6
 by_cases k7 : y.k = 7
 ·exact bef_7 y hS ro ok hll hst0 h0 hy k7
 by_cases k8 : y.k = 8
 ·exact bef_8 y hS ro ok hll hst0 h0 hy k8
 by_cases k9 : y.k = 9
 ·exact bef_9 y hS ro ok hll hst0 h0 hy k9
 by_cases k10 : y.k = 10
 ·exact bef_10 y hS ro ok hll hst0 h0 hy k10
 exact bef_none y hS ro ok hll hst0 h0 hy k6 k7 k8 k9 k10
end
end
theorem put2 {w0 w : World} {M : List Nat} {P T : List HA} {p b : HA} (h : St w0 M w (p :: (P ++ (b :: T)))) : St w0 M w (P ++ (b :: p :: T)) := by
 refine St.perm h ?_; have h1 : (p :: (P ++ (b :: T))).Perm (P ++ (p :: b :: T)) := (List.perm_middle (l₁ := P) (a := p) (l₂ := b :: T)).symm; exact h1.trans (List.Perm.append_left _ (List.Perm.swap _ _ _))
theorem get2 {w0 w : World} {M : List Nat} {P T : List HA} {p b : HA} (h : St w0 M w (P ++ (b :: p :: T))) : St w0 M w (p :: (P ++ (b :: T))) := by
 refine St.perm h ?_; have h1 : (P ++ (p :: b :: T)).Perm (p :: (P ++ (b :: T))) := List.perm_middle; exact (List.Perm.append_left _ (List.Perm.swap _ _ _)).trans h1
theorem off_mid {w0 w : World} {M : List Nat} {P Bs R : List HA} {ga : Nat} {x : GA} {a : AR} (h : St w0 M w (P ++ (Bs ++ (yj ga x a ++ R)))) {g : Nat} {T : TypeId} {cs : List Value} (hm : HA.blk g T cs ∈ Bs) (o n c : Nat) : Off (.slice (some ⟨g, o, none⟩) n c) (yT ga x a) := by
 have h1 : St w0 M w (Bs ++ yj ga x a) := St.sub h ((List.Sublist.append_left (List.sublist_append_left _ _) _).trans zA); intro A n' c' he _ hF; cases he; exact arr_off h1 hm hF
theorem to_behind {w0 w : World} {M : List Nat} {P A R : List HA} {b : HA} (h : St w0 M w (P ++ (b :: (A ++ R)))) : St w0 M w (P ++ (A ++ (b :: R))) := St.perm h (List.Perm.append_left _ List.perm_middle.symm)
theorem off_behind2 {w0 w : World} {M : List Nat} {P A R : List HA} {b : HA} (h : St w0 M w (P ++ (A ++ (b :: R)))) : St w0 M w (P ++ (A ++ R)) := St.sub h (List.Sublist.append_left (List.Sublist.append_left zC _) _)
section
theorem loadedI18 (A : Addr) : loadVar 3 A = yn 3 A := rfl
theorem loadedU18 (A : Addr) : loadVar 5 A = yn 5 A := rfl
theorem loadedS18 (A : Addr) : loadVar 28 A = yn 28 A := rfl
theorem loadedL18 (A : Addr) : loadVar 47 A = yn 47 A := rfl
attribute [local go_sem ↓] loadedI18 loadedU18 loadedS18 loadedL18
section
variable {w : World} {w1 : World} {R : List HA} {gr ga : Nat} {a : AR} {x : GA} {q : RX} (y : AC) (hS : St w [] w1 (yg gr q ++ (yj ga x a ++ R))) (ro : RefOk a q) (ok : a.Ok) (hll : a.loose.length < 1000000) (hst0 : 0 ≤ a.steps ∧ a.steps < 4611686018427387904) (h0 : 0 < a.secs) (hy : y.Ok w) (hbn : y.bn ≤ 300) (hkn : y.kn ≤ 200)
include y hS ro ok hll hst0 h0 hy hbn hkn
theorem does_0 (hk : y.k = 0) : Calls Tryz.prog 80 #[.pointer (some ⟨ga, 0, none⟩), .pointer (some ⟨gr, 0, none⟩), .agg (List.toArray y.cells)] w1 fun e w' => ∃ b, e = .returned (.bool true) ∧ ∃ (x' : GA) (a' : AR) (q' : RX), b = a' ∧ Next a a' ∧ RefOk a' q' ∧ St w [] w' (yg gr q' ++ (yj ga x' a' ++ R)) := by
 have hst := hS; have RO := ya ro; have OK := ya ok; have HLL := ya hll; have H0 := ya h0; have HY := ya hy; have HST0 := ya hst0; have HBN := ya hbn; have HKN := ya hkn; have HLB := ya hy.lb; have HLK := ya hy.lk; have e0 : (y.k == 0) = true := by rw [hk]; rfl
 have HNX : Hid (Next a (a.write y.dev y.pl y.B)) := ya ⟨ok.write _ _ _, Stays.write _ _ _ _⟩; obtain ⟨E, hE⟩ : ∃ E, E = a.writeE y.dev y.pl y.B := ⟨_, rfl⟩; have HE := ya hE; have eE : (E == E) = true := beq_self_eq_true E; have HTK : Hid (((yb (jh y.B)).drop 0).take (yb y.B).length = yb y.B) := ya (by rw [List.drop_zero]; unfold jh; rw [bytesV_app, List.take_left]); clear hS ro ok hll h0 hy hk hE hst0 hbn hkn; go_enter Tryz.func80, Tryz.ntmps80; go_wp2_with (first | (refine zj hst fun g5 w2 hst1 => ?_; clear hst; have hst2 : St w [] w2 (yg gr q ++ (.blk g5 49 y.cells :: (yj ga x a ++ R))) := St.perm hst1 List.perm_middle.symm; clear hst1) | (refine jl (Loads.at _ hst2 rfl) ?_) | (go_at_call 72; refine (lent_any y.bo y.bn y.bc y.B _ (Rd.old hst2 HY.out.rb) HLB.out (by have := HBN.out; omega)).mono ?_; rintro _ w3 ⟨g7, rfl, h4⟩; have hst3 : St w [] w3 (yg gr q ++ (.blk g5 49 y.cells :: .blk g7 5 (yb (jh y.B)) :: (yj ga x a ++ R))) := put2 (St.call hst2 h4); clear h4 hst2)); have hX := hst3.drew; clear hst3; refine wD (S := fun w' => Ld 3 g5 1 (.int .i64 y.dev) w' ∧ Ld 3 g5 2 (.int .i64 y.pl) w' ∧ Ld 28 g5 5 (.slice y.bo y.bn y.bc) w') ⟨Loads.at _ hX rfl, Loads.at _ hX rfl, Loads.at _ hX rfl⟩ fun hHeld => ?_; refine jt 0 (h:=jt 1 (h:=jt 3 (h:=jt 5 (h:=jt 7 (h:=jt 8 (h:=jt 10 (h:=jt 12 (h:=jt 2 (h:=jt 4 (h:=jt 9 (h:=jt 11 (h:=jt 13 (h:=?_))))))))))))); refine yF 6 (h0:=fun K hK => ?_); go_simp; go_at_call 44; refine (yai (zJ (Bs := [_, _]) hX) OK.out HST0.out HLL.out y.dev y.pl (some ⟨g7, 0, none⟩) y.bn (y.bn + 3) y.B (Rd.blk hX (zR (zT zH)) (by omega) (by unfold maxLen; have := HBN.out; omega) (by rw [length_bytesV, HLB, Nat.mul_one]) HTK.out) HLB.out (off_mid (Bs := [_, _]) hX (zT zH) 0 y.bn (y.bn + 3))).mono ?_; rw [← HE]; rintro _ w4 ⟨rfl, x2, h4⟩; have hA1 : St w [] w4 (yg gr q ++ (.blk g5 49 y.cells :: .blk g7 5 (yb (jh y.B)) :: (yj ga x2 (a.write y.dev y.pl y.B) ++ R))) := jg (Bs := [_, _]) hX h4; clear h4; refine kD hK ⟨Loads.at _ hA1 rfl, Loads.at _ hA1 rfl, Loads.at _ hA1 rfl⟩ (h:=fun hHeld => ?_); refine yF 14 (h0:=fun K hK => ?_); go_simp; go_at_call 122; refine (write_r (R := (.blk g5 49 y.cells :: .blk g7 5 (yb (jh y.B)) :: (yj ga x2 (a.write y.dev y.pl y.B) ++ R))) hA1 RO.out y.dev y.pl y.bo y.bn y.bc y.B (fun w9 L9 h9 => Rd.old h9 HY.out.rb) HLB.out OK.out HLL.out HST0.out).mono ?_; rw [← HE]; rintro _ w5 ⟨rfl, q2, hq, h4⟩; have hA2 : St w [] w5 (yg gr q2 ++ (.blk g5 49 y.cells :: .blk g7 5 (yb (jh y.B)) :: (yj ga x2 (a.write y.dev y.pl y.B) ++ R))) := h4; have HQ := ya hq; clear h4 hq; refine kD hK ⟨Loads.at _ hA2 rfl, Loads.at _ hA2 rfl, Loads.at _ hA2 rfl⟩ (h:=fun hHeld => ?_); refine jt 15 (h:=jt 16 (h:=jt 17 (h:=jt 18 (h:=jt 19 (h:=?_))))); refine yF 20 (h0:=fun K hK => ?_); go_simp; go_at_call 74; refine jc hA2 (kept_any y.bo g7 y.bn y.bc y.B _ _ w hA2 (zR (zT zH)) (Rd.old hA2 HY.out.rb) HLB.out (by have := HBN.out; omega)) fun w6 hA3 => ?_; refine kD hK ⟨Loads.at _ hA3 rfl, Loads.at _ hA3 rfl, Loads.at _ hA3 rfl⟩ (h:=fun hHeld => ?_); refine jt 21 (h:=jt 22 (h:=?_)); refine jn ?_; clear hHeld; go_wp2_with (first | (go_at_call 75; refine (over_blkL g7 y.bn (y.bn + 3) (jh y.B) _ (St.all hA3 (.blk g7 5 (yb (jh y.B))) (zR (zT zH))) (by rw [j0, HLB]) (by rw [j0, HLB]; omega) (by rw [j0, HLB]; have := HBN.out; omega)).mono ?_; rintro _ w7 ⟨rfl, h4⟩; have hst9 := St.sub (qp [] (get2 hA3) h4) zC; clear h4)); go_ret; exact ⟨(a.write y.dev y.pl y.B), rfl, x2, (a.write y.dev y.pl y.B), q2, rfl, HNX.out, HQ.out, off_g5 hst9⟩
theorem does_1 (hk : y.k = 1) : Calls Tryz.prog 80 #[.pointer (some ⟨ga, 0, none⟩), .pointer (some ⟨gr, 0, none⟩), .agg (List.toArray y.cells)] w1 fun e w' => ∃ b, e = .returned (.bool true) ∧ ∃ (x' : GA) (a' : AR) (q' : RX), b = a' ∧ Next a a' ∧ RefOk a' q' ∧ St w [] w' (yg gr q' ++ (yj ga x' a' ++ R)) := by
 have hst := hS; have RO := ya ro; have OK := ya ok; have HLL := ya hll; have H0 := ya h0; have HY := ya hy; have HST0 := ya hst0; have HBN := ya hbn; have HKN := ya hkn; have HLB := ya hy.lb; have HLK := ya hy.lk; have e0 : (y.k == 0) = false := by rw [hk]; rfl
 have e1 : (y.k == 1) = true := by rw [hk]; rfl
 have HNX : Hid (Next a (a.flush y.dev)) := ya ⟨ok.flush _, Stays.flush _ _⟩; obtain ⟨E, hE⟩ : ∃ E, E = a.flushE y.dev := ⟨_, rfl⟩; have HE := ya hE; have eE : (E == E) = true := beq_self_eq_true E; clear hS ro ok hll h0 hy hk hE hst0 hbn hkn; go_enter Tryz.func80, Tryz.ntmps80; go_wp2_with (first | (refine zj hst fun g5 w2 hst1 => ?_; clear hst; have hst2 : St w [] w2 (yg gr q ++ (.blk g5 49 y.cells :: (yj ga x a ++ R))) := St.perm hst1 List.perm_middle.symm; clear hst1) | (refine jl (Loads.at _ hst2 rfl) ?_)); have hX := hst2.drew; clear hst2; refine wD (S := fun w' => Ld 3 g5 1 (.int .i64 y.dev) w') (Loads.at _ hX rfl) fun hHeld => ?_; refine jt 0 (h:=jt 1 (h:=jt 4 (h:=jt 5 (h:=jt 2 (h:=jt 6 (h:=?_)))))); refine yF 3 (h0:=fun K hK => ?_); go_simp; go_at_call 52; refine (flushM_any (zJ (Bs := [_]) hX) OK.out HST0.out HLL.out y.dev).mono ?_; rw [← HE]; rintro _ w4 ⟨rfl, x2, h4⟩; have hA1 : St w [] w4 (yg gr q ++ (.blk g5 49 y.cells :: (yj ga x2 (a.flush y.dev) ++ R))) := jg (Bs := [_]) hX h4; clear h4; refine kD hK (Loads.at _ hA1 rfl) (h:=fun hHeld => ?_); refine yF 7 (h0:=fun K hK => ?_); go_simp; go_at_call 123; refine (flush_r (R := (.blk g5 49 y.cells :: (yj ga x2 (a.flush y.dev) ++ R))) hA1 RO.out y.dev OK.out HLL.out HST0.out).mono ?_; rw [← HE]; rintro _ w5 ⟨rfl, q2, hq, h4⟩; have hA2 : St w [] w5 (yg gr q2 ++ (.blk g5 49 y.cells :: (yj ga x2 (a.flush y.dev) ++ R))) := h4; have HQ := ya hq; clear h4 hq; refine kD hK (Loads.at _ hA2 rfl) (h:=fun hHeld => ?_); refine jt 8 (h:=jt 9 (h:=?_)); refine jn ?_; clear hHeld; go_wp2; go_ret; exact ⟨(a.flush y.dev), rfl, x2, (a.flush y.dev), q2, rfl, HNX.out, HQ.out, off_g5 hA2⟩
theorem does_2 (hk : y.k = 2) : Calls Tryz.prog 80 #[.pointer (some ⟨ga, 0, none⟩), .pointer (some ⟨gr, 0, none⟩), .agg (List.toArray y.cells)] w1 fun e w' => ∃ b, e = .returned (.bool true) ∧ ∃ (x' : GA) (a' : AR) (q' : RX), b = a' ∧ Next a a' ∧ RefOk a' q' ∧ St w [] w' (yg gr q' ++ (yj ga x' a' ++ R)) := by
 have hst := hS; have RO := ya ro; have OK := ya ok; have HLL := ya hll; have H0 := ya h0; have HY := ya hy; have HST0 := ya hst0; have HBN := ya hbn; have HKN := ya hkn; have HLB := ya hy.lb; have HLK := ya hy.lk; have e0 : (y.k == 0) = false := by rw [hk]; rfl
 have e1 : (y.k == 1) = false := by rw [hk]; rfl
 have e2 : (y.k == 2) = true := by rw [hk]; rfl
 have HNX : Hid (Next a (a.read y.dev y.pl)) := ya ⟨ok.read _ _, Stays.read _ _ _⟩; obtain ⟨E, hE⟩ : ∃ E, E = a.readE y.dev y.pl := ⟨_, rfl⟩; have HE := ya hE; obtain ⟨BB9, hB9⟩ : ∃ BB9, BB9 = a.readB y.dev y.pl := ⟨_, rfl⟩; have HB9 := ya hB9; have eE : (E == E) = true := beq_self_eq_true E; have eB : (BB9 == BB9) = true := beq_self_eq_true BB9; clear hS ro ok hll h0 hy hk hE hB9 hst0 hbn hkn; go_enter Tryz.func80, Tryz.ntmps80; go_wp2_with (first | (refine zj hst fun g5 w2 hst1 => ?_; clear hst; have hst2 : St w [] w2 (yg gr q ++ (.blk g5 49 y.cells :: (yj ga x a ++ R))) := St.perm hst1 List.perm_middle.symm; clear hst1) | (refine jl (Loads.at _ hst2 rfl) ?_) | (refine jl (Loads.at _ hst3 rfl) ?_) | (go_at_call 36; refine (qi (zJ (Bs := [_]) hst2) OK.out HLL.out y.dev y.pl).mono ?_; rw [← HE, ← HB9]; rintro _ w3 ⟨u, rfl, h4⟩; have hst3 : St w [] w3 (yg gr q ++ (.blk g5 49 y.cells :: .rowP yP u 5 1 BB9.length (yb BB9) :: (yj ga x (a.read y.dev y.pl) ++ R))) := put2 (qJ (Q := [_]) (Bs := [_]) hst2 h4); clear h4 hst2) | (go_at_call 128; refine (read_r (R := .blk g5 49 y.cells :: .rowP yP u 5 1 BB9.length (yb BB9) :: (yj ga x (a.read y.dev y.pl) ++ R)) hst3 RO.out y.dev y.pl OK.out HLL.out).mono ?_; rw [← HE, ← HB9]; rintro _ w4 ⟨v, q2, rfl, hq, h4⟩; have hst4 : St w [] w4 (.row v 5 1 BB9.length (yb BB9) :: (yg gr q2 ++ (.blk g5 49 y.cells :: .rowP yP u 5 1 BB9.length (yb BB9) :: (yj ga x (a.read y.dev y.pl) ++ R)))) := h4; have HQ := ya hq; clear h4 hq hst3) | (go_at_call 18; refine (qy u v BB9.length BB9.length BB9 BB9 _ (Rd.rowP hst4 (zT (zR (zT zH)))) (Rd.row hst4 zH)).mono ?_; rw [beq_self_eq_true]; rintro _ w5 ⟨rfl, h4⟩; have hst5 : St w [] w5 (.rowP yP u 5 1 BB9.length (yb BB9) :: (yg gr q2 ++ (.blk g5 49 y.cells :: (yj ga x (a.read y.dev y.pl) ++ R)))) := get2 (St.sub (St.call0 hst4 h4) zC); clear h4 hst4) | (go_at_call 75; refine (over_rowP u BB9.length (yb BB9) _ (St.ownsP hst5 zH).1 (St.ownsP hst5 zH).2).mono ?_; rintro _ w6 ⟨rfl, h4⟩; have hst6 := St.callRowP hst5 h4; clear h4 hst5)); go_ret; exact ⟨_, rfl, x, _, q2, rfl, HNX.out, HQ.out, off_g5 hst6⟩
theorem does_3 (hk : y.k = 3) : Calls Tryz.prog 80 #[.pointer (some ⟨ga, 0, none⟩), .pointer (some ⟨gr, 0, none⟩), .agg (List.toArray y.cells)] w1 fun e w' => ∃ b, e = .returned (.bool true) ∧ ∃ (x' : GA) (a' : AR) (q' : RX), b = a' ∧ Next a a' ∧ RefOk a' q' ∧ St w [] w' (yg gr q' ++ (yj ga x' a' ++ R)) := by
 have hst := hS; have RO := ya ro; have OK := ya ok; have HLL := ya hll; have H0 := ya h0; have HY := ya hy; have HST0 := ya hst0; have HBN := ya hbn; have HKN := ya hkn; have HLB := ya hy.lb; have HLK := ya hy.lk; have e0 : (y.k == 0) = false := by rw [hk]; rfl
 have e1 : (y.k == 1) = false := by rw [hk]; rfl
 have e2 : (y.k == 2) = false := by rw [hk]; rfl
 have e3 : (y.k == 3) = true := by rw [hk]; rfl
 have HNX : Hid (Next a (a.crash y.K y.n)) := ya ⟨ok.crash _ _, Stays.crash ok _ _⟩; obtain ⟨E, hE⟩ : ∃ E, E = a.crashE y.n := ⟨_, rfl⟩; have HE := ya hE; have eE : (E == E) = true := beq_self_eq_true E; have HTK : Hid (((yU (lentL y.K)).drop 0).take (yU y.K).length = yU y.K) := ya (by rw [List.drop_zero, lentL_V, List.take_left]); clear hS ro ok hll h0 hy hk hE hst0 hbn hkn; go_enter Tryz.func80, Tryz.ntmps80; go_wp2_with (first | (refine zj hst fun g5 w2 hst1 => ?_; clear hst; have hst2 : St w [] w2 (yg gr q ++ (.blk g5 49 y.cells :: (yj ga x a ++ R))) := St.perm hst1 List.perm_middle.symm; clear hst1) | (refine jl (Loads.at _ hst2 rfl) ?_) | (go_at_call 129; refine (lentL_any y.ko y.kn y.kc y.K _ (Rd.old hst2 HY.out.rk) HLK.out (by have := HKN.out; omega)).mono ?_; rintro _ w3 ⟨g7, rfl, h4⟩; have hst3 : St w [] w3 (yg gr q ++ (.blk g5 49 y.cells :: .blk g7 4 (yU (lentL y.K)) :: (yj ga x a ++ R))) := put2 (St.call hst2 h4); clear h4 hst2)); have hX := hst3.drew; clear hst3; refine wD (S := fun w' => Ld 3 g5 3 (.int .i64 y.n) w' ∧ Ld 47 g5 6 (.slice y.ko y.kn y.kc) w') ⟨Loads.at _ hX rfl, Loads.at _ hX rfl⟩ fun hHeld => ?_; refine jt 0 (h:=jt 1 (h:=jt 2 (h:=jt 5 (h:=jt 6 (h:=jt 8 (h:=jt 3 (h:=jt 7 (h:=jt 9 (h:=?_))))))))); refine yF 4 (h0:=fun K hK => ?_); go_simp; go_at_call 53; refine (crashM_any (zJ (Bs := [_, _]) hX) OK.out HLL.out (some ⟨g7, 0, none⟩) y.kn (y.kn + 3) y.K (Rd.blk hX (zR (zT zH)) (by omega) (by unfold maxLen; have := HKN.out; omega) (by rw [yaR, HLK, Nat.mul_one]) HTK.out) HLK.out (off_mid (Bs := [_, _]) hX (zT zH) 0 y.kn (y.kn + 3)) y.n).mono ?_; rw [← HE]; rintro _ w4 ⟨rfl, x2, h4⟩; have hA1 : St w [] w4 (yg gr q ++ (.blk g5 49 y.cells :: .blk g7 4 (yU (lentL y.K)) :: (yj ga x2 (a.crash y.K y.n) ++ R))) := jg (Bs := [_, _]) hX h4; clear h4; refine kD hK ⟨Loads.at _ hA1 rfl, Loads.at _ hA1 rfl⟩ (h:=fun hHeld => ?_); refine yF 10 (h0:=fun K hK => ?_); go_simp; go_at_call 130; refine (crash_r (R := (.blk g5 49 y.cells :: .blk g7 4 (yU (lentL y.K)) :: (yj ga x2 (a.crash y.K y.n) ++ R))) hA1 RO.out y.ko y.kn y.kc y.K (fun w9 L9 h9 => Rd.old h9 HY.out.rk) HLK.out y.n OK.out HLL.out).mono ?_; rw [← HE]; rintro _ w5 ⟨rfl, q2, hq, h4⟩; have hA2 : St w [] w5 (yg gr q2 ++ (.blk g5 49 y.cells :: .blk g7 4 (yU (lentL y.K)) :: (yj ga x2 (a.crash y.K y.n) ++ R))) := h4; have HQ := ya hq; clear h4 hq; refine kD hK ⟨Loads.at _ hA2 rfl, Loads.at _ hA2 rfl⟩ (h:=fun hHeld => ?_); refine jt 11 (h:=jt 12 (h:=jt 13 (h:=jt 14 (h:=jt 15 (h:=?_))))); refine yF 16 (h0:=fun K hK => ?_); go_simp; go_at_call 131; refine jc hA2 (keptL_any y.ko g7 y.kn y.kc y.K _ _ w [] hA2 (zR (zT zH)) (Rd.old hA2 HY.out.rk) HLK.out (by have := HKN.out; omega)) fun w6 hA3 => ?_; refine kD hK ⟨Loads.at _ hA3 rfl, Loads.at _ hA3 rfl⟩ (h:=fun hHeld => ?_); refine jt 17 (h:=jt 18 (h:=?_)); refine jn ?_; clear hHeld; go_wp2; go_ret; exact ⟨(a.crash y.K y.n), rfl, x2, (a.crash y.K y.n), q2, rfl, HNX.out, HQ.out, off_g5 (St.sub (get2 hA3) zC)⟩
theorem does_4 (hk : y.k = 4) : Calls Tryz.prog 80 #[.pointer (some ⟨ga, 0, none⟩), .pointer (some ⟨gr, 0, none⟩), .agg (List.toArray y.cells)] w1 fun e w' => ∃ b, e = .returned (.bool true) ∧ ∃ (x' : GA) (a' : AR) (q' : RX), b = a' ∧ Next a a' ∧ RefOk a' q' ∧ St w [] w' (yg gr q' ++ (yj ga x' a' ++ R)) := by
 have hst := hS; have RO := ya ro; have OK := ya ok; have HLL := ya hll; have H0 := ya h0; have HY := ya hy; have HST0 := ya hst0; have HBN := ya hbn; have HKN := ya hkn; have HLB := ya hy.lb; have HLK := ya hy.lk; have e0 : (y.k == 0) = false := by rw [hk]; rfl
 have e1 : (y.k == 1) = false := by rw [hk]; rfl
 have e2 : (y.k == 2) = false := by rw [hk]; rfl
 have e3 : (y.k == 3) = false := by rw [hk]; rfl
 have e4 : (y.k == 4) = true := by rw [hk]; rfl
 have HNX : Hid (Next a (a.fused y.n)) := ya ⟨ok.fused hy.n.2, Stays.fused _ _⟩; obtain ⟨E, hE⟩ : ∃ E, E = a.fuseE y.n := ⟨_, rfl⟩; have HE := ya hE; have eE : (E == E) = true := beq_self_eq_true E; clear hS ro ok hll h0 hy hk hE hst0 hbn hkn; go_enter Tryz.func80, Tryz.ntmps80; go_wp2_with (first | (refine zj hst fun g5 w2 hst1 => ?_; clear hst; have hst2 : St w [] w2 (yg gr q ++ (.blk g5 49 y.cells :: (yj ga x a ++ R))) := St.perm hst1 List.perm_middle.symm; clear hst1) | (refine jl (Loads.at _ hst2 rfl) ?_)); have hX := hst2.drew; clear hst2; refine wD (S := fun w' => Ld 3 g5 3 (.int .i64 y.n) w') (Loads.at _ hX rfl) fun hHeld => ?_; refine jt 0 (h:=jt 1 (h:=jt 4 (h:=jt 5 (h:=jt 2 (h:=jt 6 (h:=?_)))))); refine yF 3 (h0:=fun K hK => ?_); go_simp; go_at_call 54; refine (fuseM_any (zJ (Bs := [_]) hX) OK.out y.n).mono ?_; rw [← HE]; rintro _ w4 ⟨rfl, h4⟩; have hA1 : St w [] w4 (yg gr q ++ (.blk g5 49 y.cells :: (yj ga x (a.fused y.n) ++ R))) := jg (Bs := [_]) hX h4; clear h4; refine kD hK (Loads.at _ hA1 rfl) (h:=fun hHeld => ?_); refine yF 7 (h0:=fun K hK => ?_); go_simp; go_at_call 132; refine (fuse_r (R := (.blk g5 49 y.cells :: (yj ga x (a.fused y.n) ++ R))) hA1 RO.out y.n OK.out).mono ?_; rw [← HE]; rintro _ w5 ⟨rfl, q2, hq, h4⟩; have hA2 : St w [] w5 (yg gr q2 ++ (.blk g5 49 y.cells :: (yj ga x (a.fused y.n) ++ R))) := h4; have HQ := ya hq; clear h4 hq; refine kD hK (Loads.at _ hA2 rfl) (h:=fun hHeld => ?_); refine jt 8 (h:=jt 9 (h:=?_)); refine jn ?_; clear hHeld; go_wp2; go_ret; exact ⟨(a.fused y.n), rfl, x, (a.fused y.n), q2, rfl, HNX.out, HQ.out, off_g5 hA2⟩
theorem does_5 (hk : y.k = 5) : Calls Tryz.prog 80 #[.pointer (some ⟨ga, 0, none⟩), .pointer (some ⟨gr, 0, none⟩), .agg (List.toArray y.cells)] w1 fun e w' => ∃ b, e = .returned (.bool true) ∧ ∃ (x' : GA) (a' : AR) (q' : RX), b = a' ∧ Next a a' ∧ RefOk a' q' ∧ St w [] w' (yg gr q' ++ (yj ga x' a' ++ R)) := by
 have hst := hS; have RO := ya ro; have OK := ya ok; have HLL := ya hll; have H0 := ya h0; have HY := ya hy; have HST0 := ya hst0; have HBN := ya hbn; have HKN := ya hkn; have HLB := ya hy.lb; have HLK := ya hy.lk; have e0 : (y.k == 0) = false := by rw [hk]; rfl
 have e1 : (y.k == 1) = false := by rw [hk]; rfl
 have e2 : (y.k == 2) = false := by rw [hk]; rfl
 have e3 : (y.k == 3) = false := by rw [hk]; rfl
 have e4 : (y.k == 4) = false := by rw [hk]; rfl
 have e5 : (y.k == 5) = true := by rw [hk]; rfl
 have HNX : Hid (Next a (a.spoil y.dev y.pl y.n y.mask)) := ya ⟨ok.spoil _ _ _ _, Stays.spoil _ _ _ _ _⟩; obtain ⟨E, hE⟩ : ∃ E, E = a.spoilE y.dev y.pl y.n := ⟨_, rfl⟩; have HE := ya hE; have eE : (E == E) = true := beq_self_eq_true E; clear hS ro ok hll h0 hy hk hE hst0 hbn hkn; go_enter Tryz.func80, Tryz.ntmps80; go_wp2_with (first | (refine zj hst fun g5 w2 hst1 => ?_; clear hst; have hst2 : St w [] w2 (yg gr q ++ (.blk g5 49 y.cells :: (yj ga x a ++ R))) := St.perm hst1 List.perm_middle.symm; clear hst1) | (refine jl (Loads.at _ hst2 rfl) ?_)); have hX := hst2.drew; clear hst2; refine wD (S := fun w' => Ld 3 g5 1 (.int .i64 y.dev) w' ∧ Ld 3 g5 2 (.int .i64 y.pl) w' ∧ Ld 3 g5 3 (.int .i64 y.n) w' ∧ Ld 5 g5 4 (.int .u8 (y.mask.toNat : Int)) w') ⟨Loads.at _ hX rfl, Loads.at _ hX rfl, Loads.at _ hX rfl, Loads.at _ hX rfl⟩ fun hHeld => ?_; refine jt 0 (h:=jt 1 (h:=jt 3 (h:=jt 5 (h:=jt 7 (h:=jt 10 (h:=jt 11 (h:=jt 13 (h:=jt 15 (h:=jt 17 (h:=jt 2 (h:=jt 4 (h:=jt 6 (h:=jt 8 (h:=jt 12 (h:=jt 14 (h:=jt 16 (h:=jt 18 (h:=?_)))))))))))))))))); refine yF 9 (h0:=fun K hK => ?_); go_simp; go_at_call 35; refine (spoilM_any (zJ (Bs := [_]) hX) OK.out y.dev y.pl y.n y.mask).mono ?_; rw [← HE]; rintro _ w4 ⟨rfl, x2, h4⟩; have hA1 : St w [] w4 (yg gr q ++ (.blk g5 49 y.cells :: (yj ga x2 (a.spoil y.dev y.pl y.n y.mask) ++ R))) := jg (Bs := [_]) hX h4; clear h4; refine kD hK ⟨Loads.at _ hA1 rfl, Loads.at _ hA1 rfl, Loads.at _ hA1 rfl, Loads.at _ hA1 rfl⟩ (h:=fun hHeld => ?_); refine yF 19 (h0:=fun K hK => ?_); go_simp; go_at_call 133; refine (spoil_r (R := (.blk g5 49 y.cells :: (yj ga x2 (a.spoil y.dev y.pl y.n y.mask) ++ R))) hA1 RO.out y.dev y.pl y.n y.mask OK.out).mono ?_; rw [← HE]; rintro _ w5 ⟨rfl, q2, hq, h4⟩; have hA2 : St w [] w5 (yg gr q2 ++ (.blk g5 49 y.cells :: (yj ga x2 (a.spoil y.dev y.pl y.n y.mask) ++ R))) := h4; have HQ := ya hq; clear h4 hq; refine kD hK ⟨Loads.at _ hA2 rfl, Loads.at _ hA2 rfl, Loads.at _ hA2 rfl, Loads.at _ hA2 rfl⟩ (h:=fun hHeld => ?_); refine jt 20 (h:=jt 21 (h:=?_)); refine jn ?_; clear hHeld; go_wp2; go_ret; exact ⟨(a.spoil y.dev y.pl y.n y.mask), rfl, x2, (a.spoil y.dev y.pl y.n y.mask), q2, rfl, HNX.out, HQ.out, off_g5 hA2⟩
theorem does_none (k0 : y.k ≠ 0) (k1 : y.k ≠ 1) (k2 : y.k ≠ 2) (k3 : y.k ≠ 3) (k4 : y.k ≠ 4) (k5 : y.k ≠ 5) : Calls Tryz.prog 80 #[.pointer (some ⟨ga, 0, none⟩), .pointer (some ⟨gr, 0, none⟩), .agg (List.toArray y.cells)] w1 fun e w' => ∃ b, e = .returned (.bool true) ∧ ∃ (x' : GA) (a' : AR) (q' : RX), b = a' ∧ Next a a' ∧ RefOk a' q' ∧ St w [] w' (yg gr q' ++ (yj ga x' a' ++ R)) := by
 have hst := hS; have RO := ya ro; have OK := ya ok; have HLL := ya hll; have H0 := ya h0; have HY := ya hy; have HST0 := ya hst0; have HBN := ya hbn; have HKN := ya hkn; have HLB := ya hy.lb; have HLK := ya hy.lk; have e0 : (y.k == 0) = false := beq_eq_false_iff_ne.2 k0; have e1 : (y.k == 1) = false := beq_eq_false_iff_ne.2 k1; have e2 : (y.k == 2) = false := beq_eq_false_iff_ne.2 k2; have e3 : (y.k == 3) = false := beq_eq_false_iff_ne.2 k3; have e4 : (y.k == 4) = false := beq_eq_false_iff_ne.2 k4; have e5 : (y.k == 5) = false := beq_eq_false_iff_ne.2 k5; clear hS ro ok hll h0 hy hbn hkn k0 k1 k2 k3 k4 k5 hst0; go_enter Tryz.func80, Tryz.ntmps80; go_wp2_with (first | (refine zj hst fun g5 w2 hst1 => ?_; clear hst; have hst2 : St w [] w2 (yg gr q ++ (.blk g5 49 y.cells :: (yj ga x a ++ R))) := St.perm hst1 List.perm_middle.symm; clear hst1) | (refine jl (Loads.at _ hst2 rfl) ?_) | (refine jl (yl (T := 49) y.cells _ hst2 rfl rfl) ?_) | (go_at_call 134; refine (befalls2 (R := .blk g5 49 y.cells :: R) y (to_behind hst2) RO.out OK.out HLL.out HST0.out H0.out HY.out).mono ?_; rintro _ w3 ⟨a2, rfl, x2, a3, q2, rfl, hn, hq, h4⟩; have HN := ya hn; have HQ := ya hq; have hst3 := off_behind2 h4; clear h4 hn hq hst2)); go_ret; exact ⟨_, rfl, x2, _, q2, rfl, HN.out, HQ.out, hst3⟩
theorem does2 : Calls Tryz.prog 80 #[.pointer (some ⟨ga, 0, none⟩), .pointer (some ⟨gr, 0, none⟩), .agg (List.toArray y.cells)] w1 fun e w' => ∃ b, e = .returned (.bool true) ∧ ∃ (x' : GA) (a' : AR) (q' : RX), b = a' ∧ Next a a' ∧ RefOk a' q' ∧ St w [] w' (yg gr q' ++ (yj ga x' a' ++ R)) := by
 by_cases k0 : y.k = 0
 ·exact does_0 y hS ro ok hll hst0 h0 hy hbn hkn k0
 by_cases k1 : y.k = 1
 ·exact does_1 y hS ro ok hll hst0 h0 hy hbn hkn k1
 by_cases k2 : y.k = 2
 ·exact does_2 y hS ro ok hll hst0 h0 hy hbn hkn k2
 by_cases k3 : y.k = 3
 ·exact does_3 y hS ro ok hll hst0 h0 hy hbn hkn k3
 by_cases k4 : y.k = 4
 ·exact does_4 y hS ro ok hll hst0 h0 hy hbn hkn k4
 by_cases k5 : y.k = 5
 ·exact does_5 y hS ro ok hll hst0 h0 hy hbn hkn k5
 exact does_none y hS ro ok hll hst0 h0 hy hbn hkn k0 k1 k2 k3 k4 k5
end
end
section
theorem loadedI19 (A : Addr) : loadVar 3 A = yn 3 A := rfl
theorem loadedD19 (A : Addr) : loadVar 177 A = yn 177 A := rfl
theorem loadedW19 (A : Addr) : loadVar 178 A = yn 178 A := rfl
attribute [local go_sem ↓] loadedI19 loadedD19 loadedW19
theorem alike2 {w : World} {w1 : World} {R : List HA} {gr ga : Nat} {a : AR} {x : GA} {q : RX} (hS : St w [] w1 (yg gr q ++ (yj ga x a ++ R))) (ro : RefOk a q) (ok : a.Ok) (hll : a.loose.length < 1000000) :
  Calls Tryz.prog 83 #[.pointer (some ⟨ga, 0, none⟩), .pointer (some ⟨gr, 0, none⟩)] w1 fun e w' => e = .returned (.bool true) ∧ St w [] w' (yg gr q ++ (yj ga x a ++ R)) := by
 have hst : St w [] w1 (.blk gr 180 q.hdr :: .blk q.gd 182 q.dc :: .row q.lv 201 3 q.loose.length q.lc :: (q.tail ++ (yj ga x a ++ R))) := hS; have RO := ya ro; have OK := ya ok; have HLL := ya hll; have e1 : ((q.devs.length : Int) != (q.devs.length : Int)) = false := by simp
 have e2 : ((q.many : Int) != (q.many : Int)) = false := by simp
 have e3 : ((q.loose.length : Int) != (q.loose.length : Int)) = false := by simp
 have e4 : (q.steps != q.steps) = false := by simp
 have hnd : q.devs.length < 100 := by rw [ro.dn]; have := ok.dn; omega
 have hmn : q.many ≤ 4096 := by rw [ro.mn]; exact ok.sn
 obtain ⟨lao, lc, hlv, _, _, _⟩ := yV hst (zT (zT zH)); have HH2 : Hid (q.hdr[2]? = some (.slice lao q.loose.length lc)) := ya (by show some q.lv = _; rw [hlv]); clear hlv hS ro ok hll; go_enter Tryz.func83, Tryz.ntmps83; go_wp2; have hX := hst.drew; clear hst; refine wD (S := fun w' => Ld 177 gr 0 (.slice (some ⟨q.gd, 0, none⟩) q.devs.length q.cd) w' ∧ Ld 3 gr 1 (.int .i64 (q.many : Int)) w' ∧ Ld 178 gr 2 (.slice lao q.loose.length lc) w' ∧ Ld 3 gr 5 (.int .i64 q.steps) w') ⟨yp [] hX rfl, yp [] hX rfl, yp [] hX HH2.out, yp [] hX rfl⟩ fun hHeld => ?_; refine jt 0 (h:=jt 2 (h:=jt 3 (h:=jt 4 (h:=jt 5 (h:=jt 6 (h:=?_)))))); refine yF 1 (h0:=fun K hK => ?_); go_simp; go_at_call 67; refine (yag (ArrAt.of hX (fun p hp => zT (zT (zT (zR (List.mem_append_left _ hp))))) OK.out.d0)).mono ?_; rw [← RO.out.dn]; rintro _ w9 ⟨rfl, h4⟩; have hA1 := St.call0 hX h4; clear h4; refine kD hK ⟨yp [] hA1 rfl, yp [] hA1 rfl, yp [] hA1 HH2.out, yp [] hA1 rfl⟩ (h:=fun hHeld => ?_); refine jt 7 (h:=jt 8 (h:=jt 9 (h:=jt 11 (h:=jt 12 (h:=jt 13 (h:=jt 14 (h:=?_))))))); refine yF 10 (h0:=fun K hK => ?_); go_simp; go_at_call 48; refine (yaU (ArrAt.of hA1 (fun p hp => zT (zT (zT (zR (List.mem_append_left _ hp))))) OK.out.d0)).mono ?_; rw [← RO.out.mn]; rintro _ w9 ⟨rfl, h4⟩; have hA2 := St.call0 hA1 h4; clear h4; refine kD hK ⟨yp [] hA2 rfl, yp [] hA2 rfl, yp [] hA2 HH2.out, yp [] hA2 rfl⟩ (h:=fun hHeld => ?_); refine jt 15 (h:=jt 16 (h:=jt 17 (h:=jt 18 (h:=jt 20 (h:=jt 21 (h:=jt 22 (h:=jt 23 (h:=jt 24 (h:=?_))))))))); refine yF 19 (h0:=fun K hK => ?_); go_simp; go_at_call 19; refine (loose_any (ArrAll.of hA2 (fun p hp => zT (zT (zT (zR (List.mem_append_left _ hp))))) OK.out.d0)).mono ?_; rw [← RO.out.ln]; rintro _ w9 ⟨rfl, h4⟩; have hA3 := St.call0 hA2 h4; clear h4; refine kD hK ⟨yp [] hA3 rfl, yp [] hA3 rfl, yp [] hA3 HH2.out, yp [] hA3 rfl⟩ (h:=fun hHeld => ?_); refine jt 25 (h:=jt 26 (h:=jt 27 (h:=jt 28 (h:=jt 30 (h:=jt 31 (h:=jt 32 (h:=jt 33 (h:=?_)))))))); refine yF 29 (h0:=fun K hK => ?_); go_simp; go_at_call 136; refine (steps_any (ArrAt.of hA3 (fun p hp => zT (zT (zT (zR (List.mem_append_left _ hp))))) OK.out.d0)).mono ?_; rw [← RO.out.steps]; rintro _ w9 ⟨rfl, h4⟩; have hA4 := St.call0 hA3 h4; clear h4; refine kD hK ⟨yp [] hA4 rfl, yp [] hA4 rfl, yp [] hA4 HH2.out, yp [] hA4 rfl⟩ (h:=fun hHeld => ?_); refine jt 34 (h:=jt 35 (h:=?_)); refine jn ?_; clear hHeld; have hs0 : St w [] _ (yg gr q ++ (yj ga x a ++ R)) := hA4; clear hA4; go_wp2; go_loopw [5] (fun i wr => ∃ m : Nat, m ≤ q.devs.length ∧ i = .int .i64 (m : Int) ∧ St w [] wr (yg gr q ++ (yj ga x a ++ R))) (fun i _ => q.devs.length - (intOf i).toNat)
 case atStart => exact ⟨0, Nat.zero_le _, rfl, hs0⟩
 case round =>
  clear hs0; obtain ⟨m, hm, rfl, hs1⟩ := hrel; by_cases hlm : m < q.devs.length
  ·have d1 : decide ((m : Int) < (q.devs.length : Int)) = true := zD (by omega); have z1 : IntKind.i64.wrap ((m : Int) + 1) = (m : Int) + 1 := IntWalk.i64_in _ (by omega); obtain ⟨B, hB⟩ : ∃ B, B = a.up (m : Int) := ⟨_, rfl⟩; have HB := ya hB; have f1 : (B != B) = false := by simp
   clear hB; go_wp2_with (first | (refine jl (Loads.at [] hs1 rfl) ?_) | (go_at_call 42; refine (up_any (ArrAt.of hs1 (fun p hp => zR (List.mem_append_left _ hp)) OK.out.d0) (m : Int)).mono ?_; rw [← HB]; rintro _ w4 ⟨rfl, h4⟩; have hs2 := St.call0 hs1 h4; clear h4 hs1) | (go_at_call 127; refine (up_r (R := (yj ga x a ++ R)) hs2 RO.out (m : Int)).mono ?_; rw [← HB]; rintro _ w5 ⟨rfl, hs3⟩; clear hs2)); go_loopw [6] (fun i wr => ∃ k : Nat, k ≤ 20 ∧ i = .int .i64 (k : Int) ∧ St w [] wr (yg gr q ++ (yj ga x a ++ R))) (fun i _ => 20 - (intOf i).toNat)
   case atStart => exact ⟨0, by decide, rfl, hs3⟩
   case round =>
    clear hs3; obtain ⟨k, hk, rfl, hs4⟩ := hrel; by_cases hkm : k < q.many
    ·have d2 : decide ((k : Int) < (q.many : Int)) = true := zD (by omega); by_cases hk20 : k < 20
     ·have d3 : decide ((k : Int) < 20) = true := zD (by omega); have z2 : IntKind.i64.wrap ((k : Int) + 1) = (k : Int) + 1 := IntWalk.i64_in _ (by omega); obtain ⟨PB, hPB⟩ : ∃ PB, PB = a.peekB (m : Int) (k : Int) := ⟨_, rfl⟩; obtain ⟨BB9, hPL⟩ : ∃ BB9, BB9 = a.peekL (m : Int) (k : Int) := ⟨_, rfl⟩; have HPB := ya hPB; have HPL := ya hPL; have f2 : (PB != PB) = false := by simp
      clear hPB hPL; go_wp2_with (first | (refine jl (Loads.at [] hs4 rfl) ?_) | (go_at_call 17; refine (peek_any (ArrAll.of hs4 (fun p hp => zR (List.mem_append_left _ hp)) OK.out.d0) OK.out HLL.out (m : Int) (k : Int)).mono ?_; rw [← HPB, ← HPL]; rintro _ w6 ⟨u, rfl, h4⟩; have hs5 := St.toR (St.call hs4 h4); clear h4 hs4) | (go_at_call 137; refine (peek_r (R := .row u 5 1 BB9.length (yb BB9) :: (yj ga x a ++ R)) hs5 RO.out (m : Int) (k : Int) OK.out HLL.out).mono ?_; rw [← HPB, ← HPL]; rintro _ w7 ⟨v, rfl, h4⟩; have hs6 := h4; clear h4 hs5) | (go_at_call 18; refine (qy u v BB9.length BB9.length BB9 BB9 _ (Rd.row hs6 (zT (zR zH))) (Rd.row hs6 zH)).mono ?_; rw [beq_self_eq_true]; rintro _ w8 ⟨rfl, h4⟩; have hs7 := St.offR (St.sub (St.call0 hs6 h4) zC); clear h4 hs6)); go_roundw
      case rel => exact ⟨k + 1, by omega, rfl, hs7⟩
      case measure => simp [intOf]; omega
     ·have d3 : decide ((k : Int) < 20) = false := zF (by omega); go_wp2_with (first | (refine jl (Loads.at [] hs4 rfl) ?_)); go_roundw
      case rel => exact ⟨m + 1, by omega, rfl, hs4⟩
      case measure => simp [intOf]; omega
    ·have d2 : decide ((k : Int) < (q.many : Int)) = false := zF (by omega); go_wp2_with (first | (refine jl (Loads.at [] hs4 rfl) ?_)); go_roundw
     case rel => exact ⟨m + 1, by omega, rfl, hs4⟩
     case measure => simp [intOf]; omega
  ·obtain rfl : m = q.devs.length := by omega
   have d1 : decide ((q.devs.length : Int) < (q.devs.length : Int)) = false := zF (by omega); go_wp2_with (first | (refine jl (Loads.at [] hs1 rfl) ?_)); go_ret; exact ⟨rfl, hs1⟩
end
instance uES : TySl Tryz.prog 137 71 := ⟨by kernel_rfl⟩
instance uEE : TyE Tryz.prog 71 3 24 := ⟨by kernel_rfl⟩
instance uEN : TyN Tryz.prog 71 3 := ⟨by kernel_rfl⟩
instance uMA : TyS Tryz.prog 129 := ⟨by kernel_rfl⟩
instance uMS : TyS Tryz.prog 137 := ⟨by kernel_rfl⟩
def yE (gw gE gr D : Nat) : HA := .blk gw 139 [.pointer (some ⟨gr, 0, none⟩), .slice (some ⟨gE, 0, none⟩) D D]
def yC (gE D : Nat) (e : List ER) : HA := .blk gE 71 ((e.take D).flatMap ER.cells)
theorem yX {w0 w : World} {M : List Nat} {X R : List HA} {p a b : HA} (h : St w0 M w (p :: (X ++ (a :: b :: R)))) : St w0 M w (X ++ (a :: b :: p :: R)) := by
 refine St.perm h ((List.perm_middle (l₁ := X) (a := p) (l₂ := a :: b :: R)).symm.trans (List.Perm.append_left _ ?_)); exact (List.perm_middle (l₁ := [a, b]) (a := p) (l₂ := R)).symm
theorem putW {w0 w : World} {M : List Nat} {X R : List HA} {a b : HA} (h : St w0 M w (a :: b :: (X ++ R))) : St w0 M w (X ++ (a :: b :: R)) := St.perm h (List.perm_append_comm_assoc [a, b] X R)
theorem qd {w0 w : World} {M : List Nat} {X R : List HA} {a b : HA} (h : St w0 M w (X ++ (a :: b :: R))) : St w0 M w R := St.sub h ((zC.trans zC).trans zA)
theorem yJ {w0 w : World} {M : List Nat} {X R : List HA} {p a b : HA} (h : St w0 M w (X ++ (a :: b :: p :: R))) : St w0 M w (X ++ (a :: b :: R)) := St.sub h (List.Sublist.append_left (.cons_cons _ (.cons_cons _ zC)) _)
section
variable {w : World} {b off n c i : Nat} {l : List (Int × Int)} (h : Rd w (.slice (some ⟨b, off, none⟩) n c) 2 n (yu l)) (hi : i < l.length)
include h hi
theorem yaY : Loads Tryz.prog w 3 ⟨b, off + i * 2, none⟩ (.int .i64 (l.getD i (0, 0)).1) :=
 Loads.cell (TyS.out (P := Tryz.prog)) (z7 h.range hi 0 _ rfl)
theorem ld_addr1 : Loads Tryz.prog w 3 ⟨b, off + i * 2 + 1, none⟩ (.int .i64 (l.getD i (0, 0)).2) :=
 Loads.cell (TyS.out (P := Tryz.prog)) (z7 h.range hi 1 _ rfl)
theorem ld_addrA : Loads Tryz.prog w 83 ⟨b, off + i * 2, none⟩ (.agg #[.int .i64 (l.getD i (0, 0)).1, .int .i64 (l.getD i (0, 0)).2]) :=
 Loads.range (cs := [.int .i64 (l.getD i (0, 0)).1, .int .i64 (l.getD i (0, 0)).2]) (TyA.out (n := 2)) (z7 h.range hi)
end
theorem yr {P : Program} {w : World} {T : TypeId} {A : Addr} {v : Value} (h : Loads P w T A v) : (yn T A).run P w = .ok v w := h
theorem re_zero {D : Nat} (h : D ≤ 8) : (zeroE.take D).flatMap ER.cells = List.replicate (D * 3) (.int .i64 0) := by
 rcases (by omega : D = 0 ∨ D = 1 ∨ D = 2 ∨ D = 3 ∨ D = 4 ∨ D = 5 ∨ D = 6 ∨ D = 7 ∨ D = 8) with rfl | rfl | rfl | rfl | rfl | rfl | rfl | rfl | rfl <;> rfl
theorem re_get {m : MV} {N : Nat} (hg : MGood m N) {k : Nat} (hk : k < m.a.devs.length) : (m.e.take m.a.devs.length)[k]? = some (m.er (k : Int)) := by
 rw [List.getElem?_take, if_pos hk]; exact er_get hg hk
def jF (d s : Nat) (l : List (Int × Int)) : Bool := l.all fun x => decide (x.1 < (d : Int)) && decide (x.2 < (s : Int))
section
theorem j7 (A : Addr) : loadVar 3 A = yn 3 A := rfl
theorem j6 (A : Addr) : loadVar 129 A = yn 129 A := rfl
theorem j9 (A : Addr) : loadVar 177 A = yn 177 A := rfl
theorem j8 (A : Addr) : loadVar 137 A = yn 137 A := rfl
theorem j5 (A : Addr) : loadVar 71 A = yn 71 A := rfl
attribute [local go_sem ↓] j7 j6 j9 j8 j5
attribute [local irreducible] Hp.Loads
theorem new16_r {w0 w : World} {M : List Nat} {R : List HA} {gr D : Nat} {q : RX} (hS : St w0 M w (yg gr q ++ R)) (hD : q.devs.length = D) (h8 : D ≤ 8) :
  Calls Tryz.prog 70 #[.pointer (some ⟨gr, 0, none⟩)] w fun e w' => ∃ gw gE, e = .returned (.pointer (some ⟨gw, 0, none⟩)) ∧ St w0 M w' (yg gr q ++ (yE gw gE gr D :: yC gE D zeroE :: R)) := by
 have hst := hS; have HRE := ya (re_zero h8); clear hS; subst hD; go_enter Tryz.func70, Tryz.ntmps70; go_wp2_with (first | (refine jl (Loads.blk (T := 177) (off := 0) (v := .slice (some ⟨q.gd, 0, none⟩) q.devs.length q.cd) hst TyS.out (List.mem_append_left _ zH) rfl) ?_) | (apply wl_makeR q.devs.length q.devs.length (sz := 3) (z := .int .i64 0) hst; rfl; rfl; exact rfl; exact rfl; infer_instance; infer_instance; exact mZE; decide; exact rfl; exact rfl; exact Nat.le_refl _; (constructor <;> omega); intro gE _ hst1; clear hst) | (refine yH (cs := [.pointer (some ⟨gr, 0, none⟩), .slice (some ⟨gE, 0, none⟩) q.devs.length q.devs.length]) [(0, _), (1, _)] rfl rfl (by exact rfl) (by kernel_rfl) ?_) | (refine zj hst1 fun gw _ hst2 => ?_; clear hst1)); go_ret; refine ⟨gw, gE, rfl, ?_⟩; unfold yC; rw [HRE]; exact putW hst2
section
variable {w0 w : World} {M : List Nat} {R : List HA} {gw gE gr D : Nat} {q : RX} {m : MV} {N : Nat} (hS : St w0 M w (yg gr q ++ (yE gw gE gr D :: yC gE D m.e :: R))) (ro : RefOk m.a q) (hg : MGood m N) (hD : m.a.devs.length = D) (dev : Int)
include hS ro hg hD dev
theorem rerrs_lo (h0 : dev < 0) :
  Calls Tryz.prog 82 #[.pointer (some ⟨gw, 0, none⟩), .int .i64 dev] w fun e w' => e = .returned (.agg (List.toArray (m.errs dev).cells)) ∧ St w [] w' [] := by
 have _ := ro; have hs : m.errs dev = ⟨0, 0, 0⟩ := by
  unfold MV.errs; rw [show m.a.inD dev = false from by unfold AR.inD; simp; omega]; rfl
 rw [hs]; clear hs; have h8 : D ≤ 8 := by have := hg.sc.ok.dn; omega
 have H0 := ya (St.cell hS (T := 139) (cs := [.pointer (some ⟨gr, 0, none⟩), .slice (some ⟨gE, 0, none⟩) D D]) (zR zH) (off := 1) rfl); have hst := St.refl w; have d1 : decide (dev < 0) = true := zD h0; clear hS ro hg hD; go_enter Tryz.func82, Tryz.ntmps82; go_wp2_with (first | (refine yN (T := 71) hst fun g4 w1 hst1 => ?_; clear hst) | (refine jl (Loads.old (T := 137) hst1 H0.out) ?_) | (refine jP rfl rfl ?_) | (refine ji [] hst1 fun w2 hst2 => ?_; clear hst1)); have hl := yl (P := Tryz.prog) (off := 0) (T := 71) ([.int .i64 0, .int .i64 0, .int .i64 0]) [] hst2 rfl rfl; refine bodyPost_ret (yW rfl rfl hl) rfl ⟨rfl, hst2.nil⟩
theorem rerrs_hi (h0 : ¬ dev < 0) (h1 : (D : Int) ≤ dev) :
  Calls Tryz.prog 82 #[.pointer (some ⟨gw, 0, none⟩), .int .i64 dev] w fun e w' => e = .returned (.agg (List.toArray (m.errs dev).cells)) ∧ St w [] w' [] := by
 have _ := ro; have hs : m.errs dev = ⟨0, 0, 0⟩ := by
  unfold MV.errs; rw [show m.a.inD dev = false from by unfold AR.inD; simp; omega]; rfl
 rw [hs]; clear hs; have h8 : D ≤ 8 := by have := hg.sc.ok.dn; omega
 have H0 := ya (St.cell hS (T := 139) (cs := [.pointer (some ⟨gr, 0, none⟩), .slice (some ⟨gE, 0, none⟩) D D]) (zR zH) (off := 1) rfl); have hst := St.refl w; have d1 : decide (dev < 0) = false := zF h0; have d2 : decide ((D : Int) ≤ dev) = true := zD h1; have d3 : decide (dev ≥ (D : Int)) = true := d2; clear hS ro hg hD; go_enter Tryz.func82, Tryz.ntmps82; go_wp2_with (first | (refine yN (T := 71) hst fun g4 w1 hst1 => ?_; clear hst) | (refine jl (Loads.old (T := 137) hst1 H0.out) ?_) | (refine jP rfl rfl ?_) | (refine ji [] hst1 fun w2 hst2 => ?_; clear hst1)); have hl := yl (P := Tryz.prog) (off := 0) (T := 71) ([.int .i64 0, .int .i64 0, .int .i64 0]) [] hst2 rfl rfl; refine bodyPost_ret (yW rfl rfl hl) rfl ⟨rfl, hst2.nil⟩
theorem rerrs_ok (h0 : ¬ dev < 0) (h1 : ¬ (D : Int) ≤ dev) :
  Calls Tryz.prog 82 #[.pointer (some ⟨gw, 0, none⟩), .int .i64 dev] w fun e w' => e = .returned (.agg (List.toArray (m.errs dev).cells)) ∧ St w [] w' [] := by
 have _ := ro; obtain ⟨k, rfl⟩ : ∃ k : Nat, dev = k := ⟨dev.toNat, by omega⟩; have hin : m.a.inD (k : Int) = true := by unfold AR.inD; simp; omega
 have hs : m.errs (k : Int) = m.er (k : Int) := by unfold MV.errs; rw [hin]; rfl
 have hkD : k < D := by omega
 have hge := re_get hg (k := k) (by omega); rw [hD] at hge; rw [hs]; obtain ⟨y, hy⟩ : ∃ y, y = m.er (k : Int) := ⟨_, rfl⟩; rw [← hy] at hge ⊢; have HRG : Hid (w.rangeAt gE (0 + k * 3) y.cells) := ya (by
  intro j v hj; rw [Nat.zero_add]; have h3 := yaf (sz := 3) (f := ER.cells) (fun d => rfl) hge j (List.getElem?_eq_some_iff.1 hj).1; rw [hj] at h3; exact St.cell hS (T := 71) (cs := (m.e.take D).flatMap ER.cells) (zR (zT zH)) h3)
 clear hge hy hs hin; have h8 : D ≤ 8 := by have := hg.sc.ok.dn; omega
 have H0 := ya (St.cell hS (T := 139) (cs := [.pointer (some ⟨gr, 0, none⟩), .slice (some ⟨gE, 0, none⟩) D D]) (zR zH) (off := 1) rfl); have hst := St.refl w; have d1 : decide ((k : Int) < 0) = false := zF h0; have d2 : decide ((D : Int) ≤ (k : Int)) = false := zF h1; have d3 : decide ((k : Int) ≥ (D : Int)) = false := d2; clear hS ro hg hD; go_enter Tryz.func82, Tryz.ntmps82; go_wp2_with (first | (refine yN (T := 71) hst fun g4 w1 hst1 => ?_; clear hst) | (refine jl (Loads.old (T := 137) hst1 H0.out) ?_) | (refine jl (zf (T := 71) (cs := y.cells) hst1 rfl HRG.out) ?_) | (refine yA hkD ?_) | (refine ji [] hst1 fun w2 hst2 => ?_; clear hst1)); have hl := yl (P := Tryz.prog) (off := 0) (T := 71) (y.cells) [] hst2 rfl rfl; refine bodyPost_ret (yW rfl rfl hl) rfl ⟨rfl, hst2.nil⟩
theorem rerrs_any :
  Calls Tryz.prog 82 #[.pointer (some ⟨gw, 0, none⟩), .int .i64 dev] w fun e w' => e = .returned (.agg (List.toArray (m.errs dev).cells)) ∧ St w [] w' [] := by
 by_cases h0 : dev < 0
 ·exact rerrs_lo hS ro hg hD dev h0
 ·by_cases h1 : (D : Int) ≤ dev
  ·exact rerrs_hi hS ro hg hD dev h0 h1
  ·exact rerrs_ok hS ro hg hD dev h0 h1
end
end
def sect (b : UInt8) : List UInt8 := List.replicate 256 b
theorem jj (b : UInt8) : (sect b).length = 256 := List.length_replicate
theorem rep_put16 (j n : Nat) (b z : Value) (h : j < n) : yw (List.replicate j b ++ List.replicate (n - j) z) j [b] = List.replicate (j + 1) b ++ List.replicate (n - (j + 1)) z := by
 have key : n - j = (n - (j + 1)) + 1 := by omega
 rw [ya8, key, List.replicate_succ]; rw [List.take_append_of_le_length (by simp), List.take_of_length_le (by simp), List.drop_append, List.drop_of_length_le (by simp), List.nil_append, List.length_replicate, List.length_singleton, show j + 1 - j = 1 by omega, List.drop_one, List.tail_cons, ← List.append_assoc, List.replicate_succ']
theorem of16_any (b : UInt8) (w : World) : Calls Tryz.prog 11 #[.int .u8 b.toNat] w fun e w' => ∃ g, e = .returned (.slice (some ⟨g, 0, none⟩) 256 256) ∧ St w [] w' [.blk g 5 (yb (sect b))] := by
 have hst0 := St.refl w; go_enter Tryz.func11, Tryz.ntmps11; go_wp2_with (first | (apply wl_make 256 256 hst0; rfl; rfl; exact rfl; exact rfl; infer_instance; infer_instance; infer_instance; exact rfl; exact rfl; decide; decide; intro g _ hst1; clear hst0)); go_loopw [4] (fun i wr => ∃ j : Nat, j ≤ 256 ∧ i = .int .i64 (j : Int) ∧ St w [] wr [.blk g 5 (List.replicate j (.int .u8 b.toNat) ++ List.replicate (256 - j) (.int .u8 0))]) (fun i _ => 256 - (intOf i).toNat)
 case atStart => exact ⟨0, by decide, rfl, hst1⟩
 case round =>
  clear hst1; obtain ⟨j, hj, rfl, hst⟩ := hrel; by_cases hlj : j < 256
  ·have d1 : decide ((j : Int) < 256) = true := zD (by omega); have z1 : IntKind.i64.wrap ((j : Int) + 1) = (j : Int) + 1 := IntWalk.i64_in _ (by omega); have HP := ya (rep_put16 j 256 (.int .u8 b.toNat) (.int .u8 0) hlj); have HL := ya (show j * 1 + 1 ≤ (List.replicate j (Value.int .u8 b.toNat) ++ List.replicate (256 - j) (Value.int .u8 0)).length by rw [List.length_append, List.length_replicate, List.length_replicate]; omega); obtain ⟨CS, hCS⟩ : ∃ CS, CS = List.replicate j (Value.int .u8 b.toNat) ++ List.replicate (256 - j) (Value.int .u8 0) := ⟨_, rfl⟩; rw [← hCS] at hst HP HL; clear hCS; go_wp2_with (first | (refine yA hlj ?_) | (refine ye [] hst rfl rfl rfl (v := .int _ _) rfl rfl rfl (by rw [Nat.zero_add]; exact HL.out) ?_; intro w5 hst2; clear hst)); go_roundw
   case rel =>
    refine ⟨j + 1, by omega, rfl, ?_⟩; rw [← HP]; rw [Nat.zero_add, Nat.mul_one] at hst2; exact hst2
   case measure => simp [intOf]; omega
  ·have d1 : decide ((j : Int) < 256) = false := zF (by omega); have hjn : j = 256 := by omega
   subst hjn; go_wp2; go_ret; refine ⟨g, rfl, ?_⟩; have e : yb (sect b) = List.replicate 256 (.int .u8 b.toNat) := by simp [yb, sect]
   rw [e]; have := hst; rw [Nat.sub_self, List.replicate_zero, List.append_nil] at this; exact this
def qn (k : Nat) : List (Int × Int) := (List.range k).map fun (i : Nat) => ((i : Int), (5 : Int))
theorem onDevs_len (k : Nat) : (qn k).length = k := by simp [qn]
theorem onDevs_succ (k : Nat) : qn (k + 1) = qn k ++ [((k : Int), 5)] := by simp [qn, List.range_succ]
theorem ptr_places (ps : List (Nat × Value)) : Tryz.prog.built 34 ps = Instr.fill (#[(0, 1), (1, 1), (2, 1), (3, 32)][·]?) (Array.mk (.slice none 0 0 :: .int .i64 0 :: .int .i64 0 :: List.replicate 32 (.int .u8 0))) ps := by kernel_rfl
theorem built_ptr {d : Int} {S : List UInt8} (hb : S.length = 32) : Tryz.prog.built 34 [(1, .int .i64 d), (3, .agg (yb S).toArray)] = some (yd (.slice none 0 0) d 0 S).toArray := by
 rw [ptr_places]; have h1 := fold_set 3 (yb S) 0 [.slice none 0 0, .int .i64 d, .int .i64 0] (List.replicate 32 (.int .u8 0)) rfl (by rw [length_bytesV, hb, List.length_replicate]; exact Nat.le_refl _); have hl : (yb S).length = 32 := by rw [length_bytesV, hb]
 obtain ⟨Z, hZ⟩ : ∃ Z : List Value, Z = List.replicate 32 (.int .u8 0) := ⟨_, rfl⟩; have hz : Z.length = 32 := by rw [hZ, List.length_replicate]
 rw [← hZ] at h1 ⊢; have hc : (Value.agg (yb S).toArray).cells = (yb S).toArray := rfl; have e0 : Instr.fill (#[(0, 1), (1, 1), (2, 1), (3, 32)][·]?) (Array.mk (.slice none 0 0 :: .int .i64 0 :: .int .i64 0 :: Z)) [(1, .int .i64 d), (3, .agg (yb S).toArray)] = Instr.fill (#[(0, 1), (1, 1), (2, 1), (3, 32)][·]?) (Array.mk (.slice none 0 0 :: .int .i64 d :: .int .i64 0 :: Z)) [(3, .agg (yb S).toArray)] := by
  simp [Instr.fill, Value.cells]; omega
 rw [e0]; simp only [Instr.fill, hc]; rw [show (#[(0, 1), (1, 1), (2, 1), (3, 32)] : Array (Nat × Nat))[3]? = some (3, 32) from rfl]; dsimp only; rw [if_neg (by simp [hb, hz])]; rw [← Array.foldl_toList, Array.toList_zipIdx]; have h2 : List.foldl (fun (cs : Array Value) (x : Value × Nat) => match x with | (c, j) => cs.setIfInBounds (3 + j) c) (Array.mk (Value.slice none 0 0 :: Value.int .i64 d :: Value.int .i64 0 :: Z)) (yb S).zipIdx = ([Value.slice none 0 0, Value.int .i64 d, Value.int .i64 0] ++ (yb S ++ Z.drop (yb S).length)).toArray := h1; rw [List.toList_toArray, h2, hl, List.drop_of_length_le (by omega), List.append_nil]; rfl
theorem results_cellQ {fn : Func} {p : Tmp} {ty : TypeId} {tmps : Array Value} {P : Program} {w : World} {A : Addr} {v : Value} (h : fn.results = #[.cell p ty]) (hp : tmps.getD p undef = .pointer (some A)) (hl : Loads P w ty A v) :
  (results fn tmps).run P w = .ok v w := by
 have hl' : (loadVar ty A).run P w = .ok v w := hl; have hp' : tmps[p]?.getD undef = .pointer (some A) := by simpa using hp
 simp [results, h, hp', asAddr, hl', Sem.run_bind]
section
theorem storedPt (A : Addr) (v : Value) : storeVar 34 A v = storeVarH 34 A v := rfl
theorem loadedPt (A : Addr) : loadVar 34 A = yn 34 A := rfl
attribute [local go_sem ↓] storedPt loadedPt
theorem points_any {w0 w : World} {M : List Nat} {L : List HA} (hS : St w0 M w L) (ao : Option Addr) (n c : Nat) (bs : List UInt8) (hr : ∀ w, St w0 M w L → Rd w (.slice ao n c) 1 n (yb bs)) (hn : bs.length = n) (hb : n ≤ 100000) (k : Nat) (hk : k ≤ 1000) :
  Calls Tryz.prog 12 #[.slice ao n c, .int .i64 k] w fun e w' => ∃ sa sc, e = .returned (.agg (yd (.slice sa k sc) 1 0 (z8 bs)).toArray) ∧ St w0 M w' (.row (.slice sa k sc) 83 2 k (yu (qn k)) :: L) := by
 have hst := hS; have HR := ya hr; have HN := ya hn; obtain ⟨S, hS2⟩ : ∃ S, S = z8 bs := ⟨_, rfl⟩; have HS2 := ya hS2.symm; have hs32 : S.length = 32 := by rw [hS2]; exact zZ _
 have HL := ya (show L32 S from hs32); have HB := ya (built_ptr (d := 1) hs32); rw [← hS2]; clear hS hr hn hS2 hs32; go_enter Tryz.func12, Tryz.ntmps12; go_wp2_with (first | (refine yN (T := 34) hst fun g4 w1 hst1 => ?_; clear hst) | (go_at_call 23; refine (sum_any ao n c bs _ (HR.out _ (ze hst1)) HN.out hb).mono ?_; rw [HS2]; rintro _ w2 ⟨rfl, h4⟩; have hst2 := St.call0 hst1 h4; clear h4 hst1) | (refine yH (cs := yd (.slice none 0 0) 1 0 S) [(1, .int .i64 1), (3, .agg (List.toArray (yb S)))] rfl rfl (by exact rfl) (by exact HB.out) ?_) | (refine yN (T := 34) hst2 fun g5 w3 hst3 => ?_; clear hst2) | (refine yx [] hst3 rfl rfl rfl rfl (yo HL.out _ _ _) (qH _ _ _ _ _ _) (yo L32.nones _ _ _) ?_; intro w4 hst4; clear hst3)); have hst5 := jY 83 2 hst4; clear hst4; go_loopw [6] (fun i wr => ∃ j : Nat, j ≤ k ∧ i = .int .i64 (j : Int) ∧ ∃ sv, St w0 M wr (.row sv 83 2 j (yu (qn j)) :: .blk g5 34 (yd sv 1 0 S) :: .blk g4 34 (yd (.slice none 0 0) 0 0 nones) :: L)) (fun i _ => k - (intOf i).toNat)
 case atStart => exact ⟨0, Nat.zero_le _, rfl, _, hst5⟩
 case round =>
  clear hst5; obtain ⟨j, hj, rfl, sv, hst⟩ := hrel; obtain ⟨sa, sc, rfl⟩ := yZ [] hst; by_cases hlj : j < k
  ·have d1 : decide ((j : Int) < (k : Int)) = true := zD (by omega); have z1 : IntKind.i64.wrap ((j : Int) + 1) = (j : Int) + 1 := IntWalk.i64_in _ (by omega); go_wp2_with (first | (refine jl (Loads.at [_] hst rfl) ?_) | (refine yH (cs := [.int .i64 (j : Int), .int .i64 5]) [(0, .int .i64 (j : Int)), (1, .int .i64 5)] rfl rfl (by exact rfl) (by kernel_rfl) ?_) | (refine za [.agg (List.toArray [.int .i64 (j : Int), .int .i64 5])] [.int .i64 (j : Int), .int .i64 5] hst (h:=fun g12 w2 hs2 => ?_); clear hst) | (refine jf [_] hs2 (hr:=j3 hs2 rfl (by decide)) (hb:=by unfold maxLen; omega) (h:=fun v1 w3 hs3 _ => ?_); clear hs2; obtain ⟨a4, c4, rfl⟩ := yZ [_] hs3) | (refine ye [_, _] hs3 rfl rfl rfl (v := .slice _ _ _) rfl rfl rfl ?_ ?_; exact Nat.le_add_left _ _; intro w4 hs4; clear hs3)); go_roundw
   case rel =>
    refine ⟨j + 1, by omega, rfl, .slice a4 (j + 1) c4, ?_⟩; rw [onDevs_succ, yaV]; exact ze hs4
   case measure => simp [intOf]; omega
  ·have d1 : decide ((j : Int) < (k : Int)) = false := zF (by omega); have hjn : j = k := by omega
   subst hjn; go_wp2_with (first | (refine jl (yl (yd (.slice sa j sc) 1 0 S) [_] hst (yo HL.out _ _ _) (yz _ _ _ _)) ?_) | (refine yx [_, _] hst rfl rfl rfl rfl (yo HL.out _ _ _) (qH _ _ _ _ _ _) (yo L32.nones _ _ _) ?_; intro w4 hst4; clear hst)); refine bodyPost_ret (results_cellQ rfl rfl (yl (yd (.slice sa j sc) 1 0 S) [_, _] hst4 (yo HL.out _ _ _) (yz _ _ _ _))) rfl ⟨sa, sc, rfl, St.sub hst4 (.cons_cons _ (.cons _ (.cons _ (List.Sublist.refl _))))⟩
end
end
end Go.Proofs.YtmdfbdfijnmhkaaGreat
