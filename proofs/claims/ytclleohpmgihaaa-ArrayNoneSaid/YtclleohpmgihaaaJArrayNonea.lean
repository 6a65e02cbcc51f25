/- What befalls the device 0 changes nothing of the device 1: plain data. -/
import Derived.Test.YtclleohpmgihaaaR35
import Derived.Test.YtclleohpmgihaaaKTy
import Derived.Test.YtclleohpmgihaaaSepQ
import Derived.IntWalk
import Derived.Test.YtclleohpmgihaaaR41
import Derived.Test.YtclleohpmgihaaaOpenB
import Derived.Deep.Slices
namespace Go.Proofs.Ytclleohpmgihaaa
set_option linter.unusedVariables false
set_option linter.unusedSimpArgs false
open Go.RowKit Hp
attribute [local irreducible] Go.Calls Go.wpList
set_option maxRecDepth 100000
set_option maxHeartbeats 4000000
/-- A byte as the walk meets it. -/
def u8I (b : UInt8) : Int := (b.toNat : Int)
theorem ofInt8 (x : UInt8) : BitVec.ofInt 8 (x.toNat : Int) = x.toBitVec := by
  rw [BitVec.ofInt_natCast]
  exact BitVec.ofNat_toNat (n := 8) 8 x.toBitVec ▸ (by rw [BitVec.setWidth_eq])
theorem xor8 (T : TypeId) (x y : UInt8) : binOp .xor T (.int .u8 (u8I x)) (.int .u8 (u8I y)) = pure (.int .u8 (u8I (x ^^^ y))) := by
  show pure (Value.int .u8 (IntKind.u8.wrap ((BitVec.ofInt 8 (x.toNat : Int) ^^^ BitVec.ofInt 8 (y.toNat : Int)).toNat : Int))) = _
  rw [ofInt8, ofInt8]
  have h : (x.toBitVec ^^^ y.toBitVec).toNat = (x ^^^ y).toNat := rfl
  have hl : (x ^^^ y).toNat < 256 := (x ^^^ y).toNat_lt
  rw [h]
  have h9 : IntKind.u8.wrap (((x ^^^ y).toNat : Nat) : Int) = ((x ^^^ y).toNat : Int) := by
    show (((x ^^^ y).toNat : Nat) : Int) % 256 = _
    omega
  rw [h9]
  rfl
theorem xor8r (T : TypeId) (x y : UInt8) (w : World) : (binOp .xor T (.int .u8 (u8I x)) (.int .u8 (u8I y))).run Try.prog w = .ok (.int .u8 (u8I (x ^^^ y))) w := by rw [xor8]; rfl
/-- A byte of a sector, turned. -/
def fSpoil (p q : Nat) (m : UInt8) : DV → DV := fun d => { d with firm := d.firm.set p ((d.firm.getD p []).set q ((d.firm.getD p []).getD q 0 ^^^ m)) }
def AR.spoilL (a : AR) (dev pl place : Int) : List Int := [orE (a.inS dev pl) 5, orE (decide (0 ≤ place) && decide (place < 256)) 5]
def AR.spoilE (a : AR) (dev pl place : Int) : Int := a.fellE dev (a.spoilL dev pl place)
def AR.spoil (a : AR) (dev pl place : Int) (m : UInt8) : AR := if a.spoilE dev pl place = 0 then a.upd dev (fSpoil pl.toNat place.toNat m) else a
theorem fSpoil_fine {s : Nat} {d : DV} (h : d.Fine s) {p q : Nat} (m : UInt8) (hp : p < s) : (fSpoil p q m d).Fine s := by
  refine ⟨by unfold fSpoil; simp [h.1], fun t ht => ?_, h.2.2.1, h.2.2.2⟩
  unfold fSpoil at ht
  rcases List.mem_or_eq_of_mem_set ht with h1 | rfl
  · exact h.2.1 t h1
  · rw [List.length_set, List.getD_eq_getElem?_getD, List.getElem?_eq_getElem (by rw [h.1]; exact hp)]
    exact h.2.1 _ (List.getElem_mem _)
theorem AR.Ok.spoil {a : AR} (ok : a.Ok) (dev pl place : Int) (m : UInt8) : (a.spoil dev pl place m).Ok := by
  unfold AR.spoil
  split
  · rename_i h
    have hs : a.inS dev pl = true := fellE_in (by decide) (.head _) h
    have hp := inS_pl hs
    exact ok.upd (f := fSpoil pl.toNat place.toNat m) (inS_inD hs) (fSpoil_fine (ok.dv (inS_inD hs)) m (by omega))
  · exact ok
theorem putAt_one (l : List Value) (i : Nat) (v : Value) (hi : i < l.length) : putAt l i [v] = l.set i v := by
  rw [List.set_eq_take_append_cons_drop, if_pos hi]
  rfl
theorem secs_get {l : List (List UInt8)} {p q : Nat} (hl : ∀ s ∈ l, s.length = 256) (hp : p < l.length) (hq : q < 256) : (secsV l)[p * 256 + q]? = some (.int .u8 (u8I ((l.getD p []).getD q 0))) := by
  have h := flat_at (f := bytesV) (sz := 256) (fun d hd => by rw [length_bytesV]; exact hl d hd) (List.getElem?_eq_getElem hp)
  have h1 : ((secsV l).drop (p * 256))[q]? = (bytesV l[p])[q]? := by
    have h2 : (((l.flatMap bytesV).drop (p * 256)).take 256)[q]? = (bytesV l[p])[q]? := by rw [h]
    rw [List.getElem?_take, if_pos hq] at h2
    exact h2
  have hs : l[p].length = 256 := hl _ (List.getElem_mem hp)
  rw [List.getElem?_drop] at h1
  rw [h1, List.getD_eq_getElem?_getD (l := l), List.getElem?_eq_getElem hp]
  show (l[p].map _)[q]? = some (Value.int .u8 (u8I (l[p].getD q 0)))
  rw [List.getElem?_map, List.getD_eq_getElem?_getD, List.getElem?_eq_getElem (by omega)]
  rfl
theorem secs_putq {l : List (List UInt8)} {p q : Nat} (b : UInt8) (hl : ∀ s ∈ l, s.length = 256) (hp : p < l.length) (hq : q < 256) : putAt (secsV l) (p * 256 + q) [.int .u8 (u8I b)] = secsV (l.set p ((l.getD p []).set q b)) := by
  have hlen := secsV_len hl
  have hb : p * 256 + q < (secsV l).length := by
    rw [hlen]
    have : (p + 1) * 256 ≤ l.length * 256 := Nat.mul_le_mul_right _ hp
    omega
  rw [putAt_one _ _ _ hb]
  clear hb hlen
  induction l generalizing p with
  | nil => simp at hp
  | cons s l ih =>
    have hs : (bytesV s).length = 256 := by rw [length_bytesV]; exact hl s (.head _)
    unfold secsV at ih ⊢
    cases p with
    | zero =>
      rw [List.set_cons_zero, List.flatMap_cons, List.flatMap_cons, Nat.zero_mul, Nat.zero_add, List.set_append_left _ _ (by omega)]
      congr 1
      show (s.map _).set q _ = (s.set q b).map _
      rw [List.map_set]
      rfl
    | succ p =>
      have := ih (p := p) (fun s hs => hl s (.tail _ hs)) (by simpa using hp)
      rw [List.set_cons_succ, List.flatMap_cons, List.flatMap_cons, List.getD_cons_succ, ← this, show (p + 1) * 256 + q = 256 + (p * 256 + q) by omega, List.set_append_right _ _ (by omega), hs, show 256 + (p * 256 + q) - 256 = p * 256 + q by omega]
section
theorem loadedU8 (A : Addr) : loadVar 5 A = loadVarH 5 A := rfl
attribute [local go_sem ↓] loadedSS loadedIn loadedU8
attribute [local go_sem 5000] xor8 xor8r
theorem spoil2_any {w : World} {ga : Nat} {x : GA} {a : AR} {k p q gA gB gC : Nat} {m : UInt8} (hS : St w (arF ga x a) w (arP ga x a)) (ok : a.Ok) (hs : a.inS (k : Int) (p : Int) = true) (hq : q < 256)
    (hA : w.cell? ⟨gA, 0, none⟩ = some (.int .i64 (p : Int))) (hA2 : gA ∉ arF ga x a) (hB : w.cell? ⟨gB, 0, none⟩ = some (.int .i64 (q : Int))) (hB2 : gB ∉ arF ga x a) (hC : w.cell? ⟨gC, 0, none⟩ = some (.int .u8 (u8I m))) (hC2 : gC ∉ arF ga x a) :
    Calls Try.prog 63 #[.pointer (some ⟨x.gd, k * 5, none⟩), ptrV gA, ptrV gB, ptrV gC] w fun e w' => e = .returned (.tuple #[]) ∧ ∃ x', St w (arF ga x a) w' (arP ga x' (a.upd (k : Int) (fSpoil p q m))) := by
  have hin := inS_inD hs
  have hf := ok.dv hin
  have hp : p < (a.dv (k : Int)).firm.length := by have := inS_pl hs; rw [hf.1]; omega
  obtain ⟨D, hD⟩ : ∃ D, D = a.dv (k : Int) := ⟨_, rfl⟩
  rw [← hD] at hf hp
  obtain ⟨FS1, hFS1⟩ : ∃ FS1, FS1 = (a.devs.take k).map blkD := ⟨_, rfl⟩
  obtain ⟨FS2, hFS2⟩ : ∃ FS2, FS2 = (a.devs.drop (k + 1)).map blkD := ⟨_, rfl⟩
  have HFS : Hid (a.devs.map (fun d => HA.blk d.g 82 (secsV d.firm)) = FS1 ++ .blk D.g 82 (secsV D.firm) :: FS2) := hid (by rw [hFS1, hFS2, hD]; exact devs_split0 hin)
  have HG := hid (secs_get hf.2.1 hp hq)
  have HPUT := hid (secs_putq ((D.firm.getD p []).getD q 0 ^^^ m) hf.2.1 hp hq)
  have HFIT : Hid (p * 256 + q + 1 ≤ (secsV D.firm).length) := hid (by
    rw [secsV_len hf.2.1]
    have : (p + 1) * 256 ≤ D.firm.length * 256 := Nat.mul_le_mul_right _ hp
    omega)
  have HDC : Hid ((devC a ++ x.rest)[k * 5 + 0]? = some (.slice (some ⟨D.g, 0, none⟩) D.firm.length D.firm.length)) := hid (by rw [hD]; exact devC_get (rest := x.rest) hin (i := 0) rfl (by decide))
  have HFIN : Hid (arP ga x (a.upd (k : Int) (fSpoil p q m)) = .blk ga 64 (arrC x a) :: .blk x.gd 79 (devC a ++ x.rest) :: .row x.lv 84 258 a.loose.length (looC a) :: (FS1 ++ .blk D.g 82 (secsV (fSpoil p q m D).firm) :: FS2)) := hid (by
    have h1 := devs_split hin (fSpoil p q m)
    have h2 := devC_firm (a := a) (k : Int) (f := fSpoil p q m) (fun d => by unfold DV.cells fSpoil; rw [List.length_set]; rfl)
    rw [hFS1, hFS2, hD]
    unfold arP arrC
    rw [h2, upd_len]
    rw [show (a.upd (k : Int) (fSpoil p q m)).devs.map (fun d => HA.blk d.g 82 (secsV d.firm)) = _ from h1]
    rfl)
  have hst0 : St w (arF ga x a) w (.blk ga 64 (arrC x a) :: .blk x.gd 79 (devC a ++ x.rest) :: .row x.lv 84 258 a.loose.length (looC a) :: (FS1 ++ .blk D.g 82 (secsV D.firm) :: FS2)) := by rw [← HFS.out]; exact hS
  obtain ⟨V, hV⟩ : ∃ V : UInt8, V = (D.firm.getD p []).getD q 0 := ⟨_, rfl⟩
  have HV := hid hV
  rw [← hV] at HG HPUT
  have HA := hid hA
  have HA2 := hid hA2
  have HB := hid hB
  have HB2 := hid hB2
  have HC := hid hC
  have HC2 := hid hC2
  clear hs hin hf hD hFS1 hFS2 hV hA hA2 hB hB2 hC hC2 ok hS
  unfold ptrV
  go_enter Try.func63, Try.ntmps63
  have hq2 : (q : Int) < 256 := by omega
  have hX := hst0.drew
  clear hst0
  refine wp_region_held_drew (S := (fun w' => (loadVarH 76 ⟨x.gd, k * 5, none⟩).run Try.prog w' = .ok (.slice (some ⟨D.g, 0, none⟩) D.firm.length D.firm.length) w' ∧ (loadVarH 3 ⟨gA, 0, none⟩).run Try.prog w' = .ok (.int .i64 (p : Int)) w' ∧ (loadVarH 3 ⟨gB, 0, none⟩).run Try.prog w' = .ok (.int .i64 (q : Int)) w' ∧ (loadVarH 5 ⟨gC, 0, none⟩).run Try.prog w' = .ok (.int .u8 (u8I m)) w')) (by kernel_rfl) (by exact ⟨ldS [_] hX HDC.out, ldOMx hX HA.out HA2.out, ldOMx hX HB.out HB2.out, ldOMx hX HC.out HC2.out⟩) (fun hHeld => ?_)
  refine wpAnyH_take (i := 0) (oi := ⟨some 5, _, _, _, _, _⟩) (v := ?_) rfl (by kernel_rfl) (by kernel_rfl) (by kernel_rfl) (fun _ _ _ h => h) (Or.inl ⟨by rfl, ?_⟩) (by assumption) ?_
  rotate_left
  · intro w hSw; (try dsimp only at hSw); go_simp; try with_reducible rfl
  (try simp only [Act.put, List.setIfInBounds_toArray, List.set_cons_zero, List.set_cons_succ])
  refine wpAnyH_take (i := 4) (oi := ⟨some 9, _, _, _, _, _⟩) (v := ?_) rfl (by kernel_rfl) (by kernel_rfl) (by kernel_rfl) (fun _ _ _ h => h) (Or.inl ⟨by rfl, ?_⟩) (by assumption) ?_
  rotate_left
  · intro w hSw; (try dsimp only at hSw); go_simp; try with_reducible rfl
  (try simp only [Act.put, List.setIfInBounds_toArray, List.set_cons_zero, List.set_cons_succ])
  refine wpAnyH_take (i := 5) (oi := ⟨some 10, _, _, _, _, _⟩) (v := ?_) rfl (by kernel_rfl) (by kernel_rfl) (by kernel_rfl) (fun _ _ _ h => h) (Or.inl ⟨by rfl, ?_⟩) (by assumption) ?_
  rotate_left
  · intro w hSw; (try dsimp only at hSw); go_simp; try with_reducible rfl
  (try simp only [Act.put, List.setIfInBounds_toArray, List.set_cons_zero, List.set_cons_succ])
  refine wpAnyH_take (i := 9) (oi := ⟨some 14, _, _, _, _, _⟩) (v := ?_) rfl (by kernel_rfl) (by kernel_rfl) (by kernel_rfl) (fun _ _ _ h => h) (Or.inl ⟨by rfl, ?_⟩) (by assumption) ?_
  rotate_left
  · intro w hSw; (try dsimp only at hSw); go_simp; try with_reducible rfl
  (try simp only [Act.put, List.setIfInBounds_toArray, List.set_cons_zero, List.set_cons_succ])
  refine wpAnyH_take (i := 1) (oi := ⟨some 6, _, _, _, _, _⟩) (v := ?_) rfl (by kernel_rfl) (by kernel_rfl) (by kernel_rfl) (fun _ _ _ h => h) (Or.inl ⟨by rfl, ?_⟩) (by assumption) ?_
  rotate_left
  · intro w hSw; (try dsimp only at hSw); go_simp; try with_reducible rfl
  (try simp only [Act.put, List.setIfInBounds_toArray, List.set_cons_zero, List.set_cons_succ])
  refine wpAnyH_take (i := 2) (oi := ⟨some 7, _, _, _, _, _⟩) (v := ?_) rfl (by kernel_rfl) (by kernel_rfl) (by kernel_rfl) (fun _ _ _ h => h) (Or.inl ⟨by rfl, ?_⟩) (by assumption) ?_
  rotate_left
  · intro w hSw; (try dsimp only at hSw); go_simp; try with_reducible rfl
  (try simp only [Act.put, List.setIfInBounds_toArray, List.set_cons_zero, List.set_cons_succ])
  refine wpAnyH_take (i := 3) (oi := ⟨some 8, _, _, _, _, _⟩) (v := ?_) rfl (by kernel_rfl) (by kernel_rfl) (by kernel_rfl) (fun _ _ _ h => h) (Or.inl ⟨by rfl, ?_⟩) (by assumption) ?_
  rotate_left
  · intro w hSw; (try dsimp only at hSw); go_simp; try with_reducible rfl
  (try simp only [Act.put, List.setIfInBounds_toArray, List.set_cons_zero, List.set_cons_succ])
  refine wpAnyH_take (i := 6) (oi := ⟨some 11, _, _, _, _, _⟩) (v := ?_) rfl (by kernel_rfl) (by kernel_rfl) (by kernel_rfl) (fun _ _ _ h => h) (Or.inl ⟨by rfl, ?_⟩) (by assumption) ?_
  rotate_left
  · intro w hSw; (try dsimp only at hSw); go_simp; try with_reducible rfl
  (try simp only [Act.put, List.setIfInBounds_toArray, List.set_cons_zero, List.set_cons_succ])
  refine wpAnyH_take (i := 11) (oi := ⟨some 16, _, _, _, _, _⟩) (v := ?_) rfl (by kernel_rfl) (by kernel_rfl) (by kernel_rfl) (fun _ _ _ h => h) (Or.inl ⟨by rfl, ?_⟩) (by assumption) ?_
  rotate_left
  · intro w hSw; (try dsimp only at hSw); go_simp; try with_reducible rfl
  (try simp only [Act.put, List.setIfInBounds_toArray, List.set_cons_zero, List.set_cons_succ])
  refine wpAnyH_take (i := 7) (oi := ⟨some 12, _, _, _, _, _⟩) (v := ?_) rfl (by kernel_rfl) (by kernel_rfl) (by kernel_rfl) (fun _ _ _ h => h) (Or.inl ⟨by rfl, ?_⟩) (by assumption) ?_
  rotate_left
  · intro w hSw; (try dsimp only at hSw); go_simp; try with_reducible rfl
  (try simp only [Act.put, List.setIfInBounds_toArray, List.set_cons_zero, List.set_cons_succ])
  refine wpAnyH_ready (rs := [8]) (by kernel_rfl) (by simp) ?_
  refine (AllReadyH.cons (o := ⟨some 13, _, _, _, _, _⟩) rfl (fun K hK => ?_) AllReadyH.nil)
  rw [if_pos (by rfl)]
  refine ow_of_wl (ops := #[]) (by rfl) ?_
  refine wl_loadE rfl rfl rfl ?_
  refine ⟨_, Loads.cell (v := .int .u8 (u8I V)) TyS.out (St.cell hX (off := p * 256 + q) (.tail _ (.tail _ (.tail _ (List.mem_append_right _ (.head _))))) HG.out), ?_⟩
  refine q0_nil ?_
  refine hK.out _ _ ?_ (fun hHeld => ?_)
  · exact ⟨ldS [_] hX HDC.out, ldOMx hX HA.out HA2.out, ldOMx hX HB.out HB2.out, ldOMx hX HC.out HC2.out⟩
  clear hK K
  (try simp only [Act.put, List.setIfInBounds_toArray, List.set_cons_zero, List.set_cons_succ])
  refine wpAnyH_take (i := 10) (oi := ⟨some 15, _, _, _, _, _⟩) (v := ?_) rfl (by kernel_rfl) (by kernel_rfl) (by kernel_rfl) (fun _ _ _ h => h) (Or.inl ⟨by rfl, ?_⟩) (by assumption) ?_
  rotate_left
  · intro w hSw; (try dsimp only at hSw); go_simp; try with_reducible rfl
  (try simp only [Act.put, List.setIfInBounds_toArray, List.set_cons_zero, List.set_cons_succ])
  refine wpAnyH_take (i := 12) (oi := ⟨some 17, _, _, _, _, _⟩) (v := ?_) rfl (by kernel_rfl) (by kernel_rfl) (by kernel_rfl) (fun _ _ _ h => h) (Or.inl ⟨by rfl, ?_⟩) (by assumption) ?_
  rotate_left
  · intro w hSw; (try dsimp only at hSw); go_simp; try with_reducible rfl
  (try simp only [Act.put, List.setIfInBounds_toArray, List.set_cons_zero, List.set_cons_succ])
  refine wpAnyH_ready (rs := [13]) (by kernel_rfl) (by simp) ?_
  refine (AllReadyH.cons (o := ⟨none, _, _, _, _, _⟩) rfl (fun K hK => ?_) AllReadyH.nil)
  rw [if_pos (by rfl)]
  refine ow_of_wl (ops := #[]) (by rfl) ?_
  refine wl_store (_ :: _ :: _ :: FS1) hX rfl rfl rfl (v := .int _ _) rfl rfl rfl HFIT.out ?_
  intro w9 hA3
  refine q0_nil ?_
  refine hK.out _ _ ?_ (fun hHeld => ?_)
  · exact ⟨ldS [_] hA3 HDC.out, ldOMx hA3 HA.out HA2.out, ldOMx hA3 HB.out HB2.out, ldOMx hA3 HC.out HC2.out⟩
  clear hK K
  (try simp only [Act.put, List.setIfInBounds_toArray, List.set_cons_zero, List.set_cons_succ])
  refine wpAnyH_done (by kernel_rfl) ?_ _
  clear hHeld
  go_end0
  refine ⟨rfl, x, ?_⟩
  rw [HFIN.out]
  unfold fSpoil
  rw [← HV.out, ← HPUT.out]
  exact hA3
end
end Go.Proofs.Ytclleohpmgihaaa
namespace Go.Proofs.Ytclleohpmgihaaa
set_option linter.unusedVariables false
set_option linter.unusedSimpArgs false
open Go.RowKit Hp
attribute [local irreducible] Go.Calls Go.wpList
set_option maxRecDepth 100000
set_option maxHeartbeats 4000000
theorem spoilM_any {w : World} {ga : Nat} {x : GA} {a : AR} (hS : St w (arF ga x a) w (arP ga x a)) (ok : a.Ok) (dev pl place : Int) (m : UInt8) :
    Calls Try.prog 28 #[.pointer (some ⟨ga, 0, none⟩), .int .i64 dev, .int .i64 pl, .int .i64 place, .int .u8 (u8I m)] w fun e w' => e = .returned (.int .i64 (a.spoilE dev pl place)) ∧ ∃ x', St w (arF ga x a) w' (arP ga x' (a.spoil dev pl place m)) := by
  have hst0 := hS
  have OK := hid ok
  have hmf := rmf
  clear hS ok
  go_enter Try.func28, Try.ntmps28
  go_wp2_with (first | go_big_skip | go_big_guard | (refine wl_box hst0 rfl rfl rfl ?_; intro g7 w1 hst1; clear hst0) | (refine wl_box hst1 rfl rfl rfl ?_; intro g8 w2 hst2; clear hst1) | (refine wl_box hst2 rfl rfl rfl ?_; intro g9 w3 hst3; clear hst2) | (refine wl_loadE rfl rfl rfl ?_; first | refine ⟨_, Loads.at [_, _] hst3 rfl, ?_⟩) | (go_at_call 44; refine (isSector_any ga dev pl _).mono ?_; rintro _ w4 ⟨g0, g1, g2, rfl, h4⟩; have hst4 := St.call hst3 h4; clear h4 hst3) | (apply wl_bsX ([cloV 68 [ptrV g0, ptrV g1, ptrV g2], cloV 62 [ptrV g8]]) ([cloV 68 [ptrV g0, ptrV g1, ptrV g2], cloV 62 [ptrV g8]]) hst4; rfl; rfl; exact rfl; exact rfl; infer_instance; infer_instance; rfl; rfl; rfl; intro gs w5 hst5; clear hst4) | (go_at_call 54; have hQ := St.selfF (L := ([HA.blk gs 70 [cloV 68 [ptrV g0, ptrV g1, ptrV g2], cloV 62 [ptrV g8]], .blk g2 3 [.int .i64 pl], .blk g1 3 [.int .i64 dev], .blk g0 24 [.pointer (some ⟨ga, 0, none⟩)], .blk g9 5 [.int .u8 (u8I m)], .blk g8 3 [.int .i64 place], .blk g7 3 [.int .i64 pl]] : List HA) ++ arP ga x a) hst5; refine (befallsE_any hQ OK.out dev 63 [ptrV g7, ptrV g8, ptrV g9] (.slice (some ⟨gs, 0, none⟩) 2 2) 2 [cloV 68 [ptrV g0, ptrV g1, ptrV g2], cloV 62 [ptrV g8]] (a.spoilL dev pl place) (a.upd dev (fSpoil pl.toNat place.toNat m)) (fun _ _ => rfl) (fun X w' h => Rd.blk h (List.mem_append_right _ (.head _)) (Nat.le_refl _) (by decide) rfl rfl) rfl rfl (by decide) rfl (fun X j f e hf he _ => (match j, hf, he with | 0, hf, he => (by cases hf; cases he; exact probe_isSector (fun _ h => ArrAt.of h (fun p hp => List.mem_append_right _ (List.mem_append_right _ hp)) OK.out.d0) keeps_st (fun _ h => St.cell h (off := 0) (List.mem_append_right _ (.tail _ (.tail _ (.tail _ (.head _))))) rfl) (fun _ h => St.cell h (off := 0) (List.mem_append_right _ (.tail _ (.tail _ (.head _)))) rfl) (fun _ h => St.cell h (off := 0) (List.mem_append_right _ (.tail _ (.head _))) rfl)) | 1, hf, he => (by cases hf; cases he; exact probe_clo (fun _ _ => rfl) fun w h => (spoil1_any ((fun _ h => St.cell h (off := 0) (List.mem_append_right _ (.tail _ (.tail _ (.tail _ (.tail _ (.tail _ (.head _))))))) rfl) w h)).mono fun _ _ ⟨e, h4⟩ => ⟨e, keeps_st _ _ h h4⟩) | j + 2, hf, _ => (by simp at hf))) (fun h => inS_inD (orE_zero (by decide) (firstE_all h _ (.head _)))) (fun e he => (by unfold AR.spoilL at he; simp only [List.mem_cons, List.not_mem_nil, or_false] at he; rcases he with rfl | rfl <;> exact orE_isE _ _ (by unfold isE; decide))) (fun h1 _ w' hb h9 => (by have hs : a.inS dev pl = true := orE_zero (by decide) (firstE_all h1 _ (.head _)); have hq : (decide (0 ≤ place) && decide (place < 256)) = true := orE_zero (by decide) (firstE_all h1 _ (.tail _ (.head _))); simp only [Bool.and_eq_true, decide_eq_true_eq] at hq; obtain ⟨k, rfl⟩ : ∃ k : Nat, dev = k := ⟨dev.toNat, by have := (inD_dev (inS_inD hs)).1; omega⟩; obtain ⟨p, rfl⟩ : ∃ p : Nat, pl = p := ⟨pl.toNat, by have := (inS_pl hs).1; omega⟩; obtain ⟨q, rfl⟩ : ∃ q : Nat, place = q := ⟨place.toNat, by omega⟩; have hq2 : q < 256 := (by omega); exact spoil2_any h9 OK.out hs hq2 (cell_blk (hb g7 _ _ (.tail _ (.tail _ (.tail _ (.tail _ (.tail _ (.tail _ (.head _)))))))).1) (hb g7 _ _ (.tail _ (.tail _ (.tail _ (.tail _ (.tail _ (.tail _ (.head _)))))))).2 (cell_blk (hb g8 _ _ (.tail _ (.tail _ (.tail _ (.tail _ (.tail _ (.head _))))))).1) (hb g8 _ _ (.tail _ (.tail _ (.tail _ (.tail _ (.tail _ (.head _))))))).2 (cell_blk (hb g9 _ _ (.tail _ (.tail _ (.tail _ (.tail _ (.head _)))))).1) (hb g9 _ _ (.tail _ (.tail _ (.tail _ (.tail _ (.head _)))))).2))).mono ?_; rintro _ w9 ⟨rfl, X, x', h4⟩; have hst6 := St.thenF (L := ([HA.blk gs 70 [cloV 68 [ptrV g0, ptrV g1, ptrV g2], cloV 62 [ptrV g8]], .blk g2 3 [.int .i64 pl], .blk g1 3 [.int .i64 dev], .blk g0 24 [.pointer (some ⟨ga, 0, none⟩)], .blk g9 5 [.int .u8 (u8I m)], .blk g8 3 [.int .i64 place], .blk g7 3 [.int .i64 pl]] : List HA) ++ arP ga x a) hst5 h4; clear h4 hQ hst5))
  go_ret
  exact ⟨rfl, x', St.sub hst6 (.trans (List.sublist_append_right _ _) (List.sublist_append_right _ _))⟩
end Go.Proofs.Ytclleohpmgihaaa
namespace Go.Proofs.Ytclleohpmgihaaa
set_option linter.unusedVariables false
set_option linter.unusedSimpArgs false
open Go.RowKit Hp
attribute [local irreducible] Go.Calls
set_option maxHeartbeats 1000000
/-- The number below n that x says. -/
def pickI (x n : Int) : Int := if n < 1 then 0 else x % n
theorem pickI_nat {x : Int} {n : Nat} (h : 0 < n) : ∃ k : Nat, k < n ∧ pickI x n = k := by
  have h1 := Int.emod_nonneg x (show (n : Int) ≠ 0 by omega)
  have h2 := Int.emod_lt_of_pos x (show (0 : Int) < n by omega)
  refine ⟨(x % n).toNat, by omega, ?_⟩
  unfold pickI
  rw [if_neg (by omega)]
  omega
theorem pick_spec (x n : Int) (w : World) (hx : -9223372036854775808 ≤ x ∧ x ≤ 9223372036854775807) (hn : -9223372036854775808 ≤ n ∧ n ≤ 9223372036854775807) :
    Calls Try.prog 11 #[.int .i64 x, .int .i64 n] w fun e w' => e = .returned (.int .i64 (pickI x n)) ∧ St w [] w' [] := by
  have hst := St.refl w
  by_cases h1 : n < 1
  · have d1 : decide (n < 1) = true := decide_eq_true h1
    have e : pickI x n = 0 := by unfold pickI; rw [if_pos h1]
    rw [e]
    clear h1 e
    go_enter Try.func11, Try.ntmps11
    go_wp2_with (first | go_big_skip | go_big_guard | fail)
    go_ret
    exact ⟨rfl, hst⟩
  · have d1 : decide (n < 1) = false := decide_eq_false h1
    obtain ⟨r, hr⟩ : ∃ r, r = Int.tmod x n := ⟨_, rfl⟩
    have q1 := Int.tmod_lt_of_pos x (show (0 : Int) < n by omega)
    have q2 := Int.lt_tmod_of_pos x (show (0 : Int) < n by omega)
    rw [← hr] at q1 q2
    have hw : IntKind.i64.wrap r = r := IntWalk.i64_in _ (by omega)
    have f1 : ∀ T, binOp .rem T (.int .i64 x) (.int .i64 n) = pure (.int .i64 r) := by
      intro T
      have hn0 : n ≠ 0 := by omega
      simp only [binOp]
      simp [Op.intDiv, hn0, ← hr, hw]
    have em : x % n = if r < 0 then r + n else r := by
      rw [hr, Int.tmod_eq_emod]
      have := Int.emod_nonneg x (show n ≠ 0 by omega)
      have := Int.emod_lt_of_pos x (show (0 : Int) < n by omega)
      split <;> (split <;> omega)
    have e : pickI x n = if r < 0 then r + n else r := by unfold pickI; rw [if_neg h1, em]
    rw [e]
    clear em e hr h1
    by_cases h2 : r < 0
    · have d2 : decide (r < 0) = true := decide_eq_true h2
      have z0 : IntKind.i64.wrap (r + n) = r + n := IntWalk.i64_in _ (by omega)
      rw [if_pos h2]
      clear h2
      go_enter Try.func11, Try.ntmps11
      go_wp2_with (first | go_big_skip | go_big_guard | fail)
      go_ret
      exact ⟨rfl, hst⟩
    · have d2 : decide (r < 0) = false := decide_eq_false h2
      rw [if_neg h2]
      clear h2
      go_enter Try.func11, Try.ntmps11
      go_wp2_with (first | go_big_skip | go_big_guard | fail)
      go_ret
      exact ⟨rfl, hst⟩
end Go.Proofs.Ytclleohpmgihaaa
namespace Go.Proofs.Ytclleohpmgihaaa
set_option linter.unusedVariables false
set_option linter.unusedSimpArgs false
open Go.RowKit Hp
set_option maxRecDepth 100000
instance lyA8 : TyA Try.prog 29 8 := ⟨by kernel_rfl⟩
instance lyN8 : TyN Try.prog 29 8 := ⟨by kernel_rfl⟩
instance lyA16 : TyA Try.prog 30 16 := ⟨by kernel_rfl⟩
instance lyN16 : TyN Try.prog 30 16 := ⟨by kernel_rfl⟩
instance lyZ16 : TyZ Try.prog 30 (List.replicate 16 (.int .u8 0)) := ⟨by kernel_rfl⟩
instance lyAL : TyA Try.prog 32 4 := ⟨by kernel_rfl⟩
instance lyNL : TyN Try.prog 32 4 := ⟨by kernel_rfl⟩
instance lySlL : TySl Try.prog 22 32 := ⟨by kernel_rfl⟩
/-- A write of a sector of one byte, and whether the device is flushed behind it. -/
structure LY where
  dev : Int
  pl : Int
  b : UInt8
  fl : Bool
def LY.cells (y : LY) : List Value := [.int .i64 y.dev, .int .i64 y.pl, .int .u8 y.b.toNat, .bool y.fl]
structure LY.Ok (y : LY) : Prop where
  d : -9223372036854775808 ≤ y.dev ∧ y.dev ≤ 9223372036854775807
  p : -9223372036854775808 ≤ y.pl ∧ y.pl ≤ 9223372036854775807
instance : Inhabited LY := ⟨⟨0, 0, 0, false⟩⟩
theorem lys_at : ∀ {xs : List LY} {k : Nat} {x : LY}, xs[k]? = some x → ∀ j v, x.cells[j]? = some v → (xs.flatMap LY.cells)[k * 4 + j]? = some v
  | y :: xs, 0, x, h, j, v, hj => by
    cases h
    rw [List.flatMap_cons, Nat.zero_mul, Nat.zero_add, List.getElem?_append_left (List.getElem?_eq_some_iff.1 hj).1]
    exact hj
  | y :: xs, k + 1, x, h, j, v, hj => by
    have hl : y.cells.length = 4 := rfl
    rw [List.flatMap_cons, List.getElem?_append_right (by rw [hl]; omega), hl, show (k + 1) * 4 + j - 4 = k * 4 + j by omega]
    exact lys_at (by simpa using h) j v hj
  | [], _, _, h, _, _, _ => by cases h
theorem lys_cell {w : World} {b off n c k : Nat} {xs : List LY} {x : LY} (h : Rd w (.slice (some ⟨b, off, none⟩) n c) 4 n (xs.flatMap LY.cells)) (hk : xs[k]? = some x) {j : Nat} {v : Value} (hj : x.cells[j]? = some v) : w.cell? ⟨b, off + k * 4 + j, none⟩ = some v := by
  have := h.range (k * 4 + j) v (lys_at hk j v hj)
  rwa [← Nat.add_assoc] at this
theorem off_x {w0 w : World} {M : List Nat} {X : List HA} {ga : Nat} {x : GA} {a : AR} (h : St w0 M w (X ++ arP ga x a)) {p : HA} (hm : p ∈ X) {v : Value} (hk : ∀ A n c, v = .slice (some A) n c → 0 < n → p.foot = some A.block) : Off v (arF ga x a) := by
  intro A n c he h0 hF
  have hap := h.apart
  unfold Apart at hap
  rw [List.pairwise_append] at hap
  obtain ⟨y, hy, hk2⟩ := List.mem_filterMap.1 hF
  exact hap.2.2 _ hm y hy A.block (hk A n c he h0) hk2
theorem off_blk {w0 w : World} {M : List Nat} {X : List HA} {ga : Nat} {x : GA} {a : AR} (h : St w0 M w (X ++ arP ga x a)) {g : Nat} {T : TypeId} {cs : List Value} (hm : HA.blk g T cs ∈ X) (o n c : Nat) : Off (.slice (some ⟨g, o, none⟩) n c) (arF ga x a) :=
  off_x h hm (fun _ _ _ he _ => by cases he; rfl)
theorem off_row {w0 w : World} {M : List Nat} {X : List HA} {ga : Nat} {x : GA} {a : AR} (h : St w0 M w (X ++ arP ga x a)) {v : Value} {T : TypeId} {sz n : Nat} {cs : List Value} (hm : HA.row v T sz n cs ∈ X) : Off v (arF ga x a) :=
  off_x h hm (fun A n' c he h0 => by
    obtain ⟨_, h2⟩ := h.owns (v := v) (T := T) (sz := sz) (n := n) (xs := cs) (List.mem_append_left _ hm)
    rcases h2 with ⟨h3, _⟩ | ⟨g, cap, cur, h3, _⟩
    · rw [h3] at he; cases he
    · rw [h3] at he
      cases he
      show v.ownBlock = _
      rw [h3]
      rfl)
theorem fused_K0 (p q n : Nat) : (K0 p q).fuseE (n : Int) = 0 ∧ (K0 p q).fused (n : Int) = ⟨(K0 p q).devs, [], (n : Int), false, 0⟩ := by
  have hE : (K0 p q).fuseE (n : Int) = 0 := by
    unfold AR.fuseE
    rw [if_neg (K0_ok p q).d0, show (K0 p q).out = false from rfl, if_neg (by decide), if_neg (by omega)]
  refine ⟨hE, ?_⟩
  unfold AR.fused
  rw [if_pos hE]
  rfl
end Go.Proofs.Ytclleohpmgihaaa
namespace Go.Proofs.Ytclleohpmgihaaa
set_option linter.unusedVariables false
set_option linter.unusedSimpArgs false
open Go.ChangeShapes Go.WideShapes Go.ChangeAt Go.RowKit Go.Deep Go.Lib Go.Joins Hp
set_option maxRecDepth 100000
theorem flat_inv {α : Type} {f : α → List Value} {sz : Nat} (hl : ∀ a, (f a).length = sz) : ∀ (ks : List α) (k : Nat) (v : Value), (ks.flatMap f)[k]? = some v → ∃ i j x, ks[i]? = some x ∧ k = i * sz + j ∧ (f x)[j]? = some v ∧ j < sz
  | [], k, v, h => by simp at h
  | x :: ks, k, v, h => by
    rw [List.flatMap_cons] at h
    by_cases hk : k < sz
    · rw [List.getElem?_append_left (by rw [hl]; exact hk)] at h
      exact ⟨0, k, x, rfl, by omega, h, hk⟩
    · rw [List.getElem?_append_right (by rw [hl]; omega), hl] at h
      obtain ⟨i, j, y, h1, h2, h3, h4⟩ := flat_inv hl ks (k - sz) v h
      refine ⟨i + 1, j, y, by simpa using h1, ?_, h3, h4⟩
      rw [Nat.succ_mul]
      omega
theorem flat_len {α : Type} {f : α → List Value} {sz : Nat} (hl : ∀ a, (f a).length = sz) (ks : List α) : (ks.flatMap f).length = ks.length * sz := by
  induction ks with
  | nil => simp
  | cons x ks ih => rw [List.flatMap_cons, List.length_append, ih, hl, List.length_cons, Nat.succ_mul]; omega
theorem open_structs {α : Type} [Inhabited α] {f : α → List Value} {sz : Nat} (hl : ∀ a, (f a).length = sz) (ok : α → World → Prop) {H : Type} {enc : TypeId × Value → H} {W : World} {base fuel : Nat} {T e : TypeId} {v : Value} {x : DataW H × List MemPlace} (hT : Try.prog.underlying T = some (.slice e)) (he : Try.prog.cellsOf e = sz)
    (hop : ∀ (fuel : Nat) (cs : List Value) (x : DataW H × List MemPlace), cs.length = sz → DataW.trod enc Try.prog W 0 (fun _ => true) true fuel e cs = some x → ∃ k : α, cs = f k ∧ ok k W) (hv : Value.okWide Try.prog W .any base T v)
    (h : DataW.trod enc Try.prog W 0 (fun _ => true) true fuel T v.cells.toList = some x) : ∃ ao n c, ∃ ks : List α, v = .slice ao n c ∧ Rd W (.slice ao n c) sz n (ks.flatMap f) ∧ ks.length = n ∧ ∀ x ∈ ks, ok x W := by
  obtain ⟨a, len, cap, rfl⟩ := okWide_slice hT hv
  rcases open_slice hT h with ⟨hc, _⟩ | ⟨a', len', cap', m, n, D, Pl, hc, _, hll, hm, hmm, _, hx⟩
  · simp [Value.cells] at hc
    obtain ⟨rfl, rfl, rfl⟩ := hc
    exact ⟨none, 0, 0, [], rfl, Rd.nil _ _, rfl, by simp⟩
  · simp [Value.cells] at hc
    obtain ⟨rfl, rfl, rfl⟩ := hc
    have hs := slice_spotV hT hv
    obtain ⟨b, off, rfl⟩ : ∃ b off, a' = ⟨b, off, none⟩ := ⟨a'.block, a'.off, by cases a'; simp_all⟩
    simp only [if_true] at hmm
    rw [he] at hx
    obtain ⟨K, hK⟩ := choose_lt (α := α) (p := fun i k => ok k W ∧ ∀ j, j < sz → W.cell? ⟨b, off + i * sz + j, none⟩ = (f k)[j]?) (fun i hi => by
      obtain ⟨cs', h1, h2⟩ := hx i hi
      obtain ⟨_, hlen, hcell⟩ := World.cells?_some h1
      obtain ⟨k, rfl, hk⟩ := hop _ _ _ hlen h2
      refine ⟨k, hk, fun j hj => ?_⟩
      have := hcell j hj
      rwa [Addr.add_mid, Addr.add_mid] at this)
    refine ⟨_, len, cap, (List.range len).map K, rfl, Rd.mk hll hm (by rw [flat_len hl, List.length_map, List.length_range]) (fun k v hk => ?_), by simp, fun x hx => ?_⟩
    · obtain ⟨i, j, y, h1, rfl, h3, h4⟩ := flat_inv hl _ _ _ hk
      have hi : i < len := by
        have := (List.getElem?_eq_some_iff.1 h1).1
        simpa using this
      rw [List.getElem?_map, List.getElem?_range hi] at h1
      simp at h1
      subst h1
      rw [← Nat.add_assoc, (hK i (by omega)).2 j h4, h3]
    · obtain ⟨i, hi, rfl⟩ := List.mem_map.1 hx
      exact (hK i (by have := List.mem_range.1 hi; omega)).1
theorem trod_struct4 {H : Type} {enc : TypeId × Value → H} {P : Program} {w : World} {base : Nat} {spare : Nat → Bool} {held : Bool} {t : TypeId} {f0 f1 f2 f3 : Field} {fuel : Nat} {cs : List Value} {x : DataW H × List MemPlace} (ht : P.underlying t = some (.struct #[f0, f1, f2, f3])) (h : DataW.trod enc P w base spare held fuel t cs = some x) :
    ∃ y0 y1 y2 y3 n, DataW.trod enc P w base spare held n f0.type ((cs.drop f0.offset).take (P.cellsOf f0.type)) = some y0 ∧
      DataW.trod enc P w base spare held n f1.type ((cs.drop f1.offset).take (P.cellsOf f1.type)) = some y1 ∧ DataW.trod enc P w base spare held n f2.type ((cs.drop f2.offset).take (P.cellsOf f2.type)) = some y2 ∧
      DataW.trod enc P w base spare held n f3.type ((cs.drop f3.offset).take (P.cellsOf f3.type)) = some y3 := by
  obtain ⟨xs, n, _, rfl, hl, hlen, hf⟩ := DataW.trod_struct ht h
  match xs, hlen with
  | [y0, y1, y2, y3], _ => exact ⟨y0, y1, y2, y3, n, by simpa using hf 0 f0 rfl, by simpa using hf 1 f1 rfl, by simpa using hf 2 f2 rfl, by simpa using hf 3 f3 rfl⟩
theorem cellsLi : Try.prog.cellsOf 3 = 1 := by kernel_rfl
theorem cellsLu : Try.prog.cellsOf 5 = 1 := by kernel_rfl
theorem cellsLb : Try.prog.cellsOf 4 = 1 := by kernel_rfl
theorem i64_wfL {z : Int} (hw : (Lit.int .i64 z).wf = true) : -9223372036854775808 ≤ z ∧ z ≤ 9223372036854775807 := by
  simp only [Lit.wf, Bool.and_eq_true, decide_eq_true_eq] at hw
  have h3 : IntKind.i64.min = -9223372036854775808 := rfl
  have h4 : IntKind.i64.max = 9223372036854775807 := rfl
  omega
theorem u8_wfL {z : Int} (hw : (Lit.int .u8 z).wf = true) : ∃ b : UInt8, z = (b.toNat : Int) := by
  simp only [Lit.wf, Bool.and_eq_true, decide_eq_true_eq] at hw
  have h3 : IntKind.u8.min = 0 := rfl
  have h4 : IntKind.u8.max = 255 := rfl
  refine ⟨UInt8.ofNat z.toNat, ?_⟩
  rw [UInt8.toNat_ofNat', Nat.mod_eq_of_lt (by omega)]
  omega
theorem open_lay {H : Type} {enc : TypeId × Value → H} {W : World} (fuel : Nat) (cs : List Value) (x : DataW H × List MemPlace) (hl : cs.length = 4)
    (h : DataW.trod enc Try.prog W 0 (fun _ => true) true fuel 32 cs = some x) : ∃ k : LY, cs = k.cells ∧ k.Ok := by
  match cs, hl with
  | [a, b, c, d], _ =>
    obtain ⟨y0, y1, y2, y3, n, h0, h1, h2, h3⟩ := trod_struct4 Try.underlying32 h
    simp only [cellsLi, cellsLu, cellsLb, List.drop_zero, List.drop_succ_cons, List.take_succ_cons, List.take_zero] at h0 h1 h2 h3
    obtain ⟨z0, e0, _, w0⟩ := DataW.trod_int Try.underlying3 h0
    obtain ⟨z1, e1, _, w1⟩ := DataW.trod_int Try.underlying3 h1
    obtain ⟨z2, e2, _, w2⟩ := DataW.trod_int Try.underlying5 h2
    obtain ⟨z3, e3, _⟩ := DataW.trod_bool Try.underlying4 h3
    cases e0; cases e1; cases e2; cases e3
    obtain ⟨u, rfl⟩ := u8_wfL w2
    exact ⟨⟨z0, z1, u, z3⟩, rfl, ⟨i64_wfL w0, i64_wfL w1⟩⟩
theorem cellsLL : Try.prog.cellsOf 32 = 4 := by kernel_rfl
theorem open_lays {H : Type} {enc : TypeId × Value → H} {W : World} {base fuel : Nat} {v : Value} {x : DataW H × List MemPlace} (hv : Value.okWide Try.prog W .any base 22 v)
    (h : DataW.trod enc Try.prog W 0 (fun _ => true) true fuel 22 v.cells.toList = some x) : ∃ ao n c, ∃ ks : List LY, v = .slice ao n c ∧ Rd W (.slice ao n c) 4 n (ks.flatMap LY.cells) ∧ ks.length = n ∧ ∀ x ∈ ks, x.Ok :=
  open_structs (f := LY.cells) (fun _ => rfl) (fun k _ => k.Ok) Try.underlying22 cellsLL open_lay hv h
end Go.Proofs.Ytclleohpmgihaaa
namespace Go.Proofs.Ytclleohpmgihaaa
set_option linter.unusedVariables false
set_option linter.unusedSimpArgs false
open Go.ChangeShapes Go.WideShapes Go.ChangeAt Go.RowKit Go.Deep Go.Lib Go.Joins Hp
set_option maxRecDepth 100000
def boolC (b : Bool) : List Value := [.bool b]
theorem boolC_all (l : List Bool) : l.flatMap boolC = boolsV l := by
  induction l with
  | nil => rfl
  | cons b l ih => rw [List.flatMap_cons, ih]; rfl
theorem open_bools {H : Type} {enc : TypeId × Value → H} {W : World} {base fuel : Nat} {v : Value} {x : DataW H × List MemPlace} (hv : Value.okWide Try.prog W .any base 36 v)
    (h : DataW.trod enc Try.prog W 0 (fun _ => true) true fuel 36 v.cells.toList = some x) : ∃ ao n c, ∃ ks : List Bool, v = .slice ao n c ∧ Rd W (.slice ao n c) 1 n (boolsV ks) ∧ ks.length = n := by
  obtain ⟨ao, n, c, ks, h1, h2, h3, _⟩ := open_structs (f := boolC) (sz := 1) (fun _ => rfl) (fun _ _ => True) Try.underlying36 cellsLb (fun fuel cs x _ hc => by
    obtain ⟨b, e, _⟩ := DataW.trod_bool Try.underlying4 hc
    exact ⟨b, e, trivial⟩) hv h
  exact ⟨ao, n, c, ks, h1, by rw [← boolC_all]; exact h2, h3⟩
end Go.Proofs.Ytclleohpmgihaaa
namespace Go.Proofs.Ytclleohpmgihaaa
set_option linter.unusedVariables false
set_option linter.unusedSimpArgs false
open Go.RowKit Hp
set_option maxRecDepth 100000
def laidY (d s : Nat) (c : UInt8) (y : LY) : Bool := (pickI y.dev 2 == (d : Int) && pickI y.pl 8 == (s : Int)) && y.b == c
/-- Is a byte that which a sector had firm, or that of a write to it? -/
def laidB (xs : List LY) (f : UInt8) (d s : Nat) (c : UInt8) : Bool := c == f || xs.any (laidY d s c)
def laidN (xs : List LY) (f : UInt8) (d s : Nat) (c : UInt8) (m : Nat) : Bool := c == f || (xs.take m).any (laidY d s c)
theorem laidN_zero (xs : List LY) (f : UInt8) (d s : Nat) (c : UInt8) : laidN xs f d s c 0 = (c == f) := by simp [laidN]
theorem laidN_succ {xs : List LY} {f : UInt8} {d s : Nat} {c : UInt8} {m : Nat} {y : LY} (h : xs[m]? = some y) : laidN xs f d s c (m + 1) = (laidN xs f d s c m || laidY d s c y) := by
  unfold laidN
  rw [List.take_add_one, h, List.any_append, Bool.or_assoc]
  simp
theorem laidN_all (xs : List LY) (f : UInt8) (d s : Nat) (c : UInt8) : laidN xs f d s c xs.length = laidB xs f d s c := by
  unfold laidN laidB
  rw [List.take_length]
def vv (b : AR) (d s : Nat) : List UInt8 := (b.dv (d : Int)).firm.getD s []
def Pl (P : Nat → Nat → UInt8 → Prop) (d s : Nat) (v : List UInt8) : Prop := ∃ c, v = BB c ∧ P d s c
def To (P : Nat → Nat → UInt8 → Prop) (t d s : Nat) (v : List UInt8) : Prop := ∃ c1 c2, v = (BB c1).take t ++ (BB c2).drop t ∧ P d s c1 ∧ P d s c2
theorem vv_upd {b : AR} {e p d s : Nat} {f : DV → DV} {x : List UInt8} (he : e < b.devs.length) (hf : ∀ D : DV, (f D).firm = D.firm.set p x) (hs : s < (b.dv (d : Int)).firm.length) : vv (b.upd (e : Int) f) d s = if e = d ∧ p = s then x else vv b d s := by
  unfold vv
  rw [dv_modify he]
  by_cases h : e = d
  · subst h
    rw [if_pos rfl, hf, List.getD_eq_getElem?_getD, List.getElem?_set]
    by_cases hp : p = s
    · rw [if_pos hp, if_pos (by rw [hp]; exact hs), if_pos ⟨rfl, hp⟩]; rfl
    · rw [if_neg hp, if_neg (fun hh => hp hh.2), List.getD_eq_getElem?_getD]
  · rw [if_neg h, if_neg (fun hh => h hh.1)]
theorem crash_gone {a : AR} {F L : List UInt8} (h : Laid a F L) (keep : List Bool) (t : Nat) : ∀ j, ∀ e : Nat, e < 2 → ((crashN a keep t j).1.dv (e : Int)).gone = false
  | 0, e, he => (h.live e he).1
  | j + 1, e, he => by
    have ih := crash_gone h keep t j
    cases hw : a.loose[j]? with
    | none =>
      have : crashN a keep t (j + 1) = crashN a keep t j := by
        show (match a.loose[j]? with | none => _ | some w => _) = _
        rw [hw]
      rw [this]
      exact ih e he
    | some v =>
      rw [crashN_succ hw]
      have key : ∀ f : DV → DV, (∀ D, (f D).gone = D.gone) → (((crashN a keep t j).1.upd (v.dev : Int) f).dv (e : Int)).gone = false := by
        intro f hf
        by_cases hd : v.dev < (crashN a keep t j).1.devs.length
        · rw [dv_modify hd]
          split
          · subst_vars
            rw [hf]
            exact ih _ he
          · exact ih e he
        · have : (crashN a keep t j).1.upd (v.dev : Int) f = (crashN a keep t j).1 := by
            unfold AR.upd
            rw [Int.toNat_natCast, List.modify_eq_self (by omega)]
          rw [this]
          exact ih e he
      unfold crashF
      split
      · exact key _ (fun _ => rfl)
      · split
        · exact key _ (fun _ => rfl)
        · exact ih e he
theorem crash_sec {a : AR} {F L : List UInt8} (h : Laid a F L) {P : Nat → Nat → UInt8 → Prop} (hF : ∀ d s, d < 2 → s < 8 → P d s (F.getD (d * 8 + s) 0)) (hw : ∀ v ∈ a.loose, ∃ c, v.b = BB c ∧ P v.dev v.pl c) (keep : List Bool) {t : Nat} (ht : t ≤ 256) :
    ∀ j, ((crashN a keep t j).2 = true ∧ ∀ d s, d < 2 → s < 8 → Pl P d s (vv (crashN a keep t j).1 d s)) ∨ (a.loose ≠ [] ∧ (crashN a keep t j).2 = false ∧ ∃ d0 s0, ∀ d s, d < 2 → s < 8 → Pl P d s (vv (crashN a keep t j).1 d s) ∨ (d = d0 ∧ s = s0 ∧ To P t d s (vv (crashN a keep t j).1 d s)))
  | 0 => .inl ⟨rfl, fun d s hd hs => ⟨_, h.fm d s hd hs, hF d s hd hs⟩⟩
  | j + 1 => by
    have ih := crash_sec h hF hw keep ht j
    cases hv : a.loose[j]? with
    | none =>
      have : crashN a keep t (j + 1) = crashN a keep t j := by
        show (match a.loose[j]? with | none => _ | some w => _) = _
        rw [hv]
      rw [this]
      exact ih
    | some v =>
      have hvm := List.mem_of_getElem? hv
      have hlw := h.ok.lw v hvm
      rw [h.len, h.sec] at hlw
      obtain ⟨c, hc, hP⟩ := hw v hvm
      have hne : a.loose ≠ [] := fun he => by rw [he] at hvm; cases hvm
      have hg := crashN_good h.ok keep ht j
      have hlen : (crashN a keep t j).1.devs.length = 2 := hg.len.trans h.len
      have hfl : ∀ d : Nat, d < 2 → ((crashN a keep t j).1.dv (d : Int)).firm.length = 8 := fun d hd => by
        have hin : (crashN a keep t j).1.inD (d : Int) = true := by rw [hg.inD]; exact h.inD hd
        rw [(hg.fm _ (List.mem_of_getElem? (devs_get hin))).1, h.sec]
      rw [crashN_succ hv]
      obtain ⟨R, hR⟩ : ∃ R, R = crashN a keep t j := ⟨_, rfl⟩
      rw [← hR] at ih hlen hfl ⊢
      cases hk : keep.getD j false
      · cases hfst : R.2
        · have e : crashF t R v false = R := by
            unfold crashF
            rw [if_neg (by decide), if_neg (by rw [hfst]; decide)]
          rw [e]
          exact ih
        · have e : crashF t R v false = (R.1.upd (v.dev : Int) (tornF v.pl v.b t), false) := by
            unfold crashF
            rw [if_neg (by decide), if_pos hfst]
          rw [e]
          have hpl : ∀ d s, d < 2 → s < 8 → Pl P d s (vv R.1 d s) := by
            rcases ih with ih | ih
            · exact ih.2
            · rw [ih.2.1] at hfst; cases hfst
          refine .inr ⟨hne, rfl, v.dev, v.pl, fun d s hd hs => ?_⟩
          have hq : vv (R.1.upd (v.dev : Int) (tornF v.pl v.b t)) d s = if v.dev = d ∧ v.pl = s then v.b.take t ++ (vv R.1 d s).drop t else vv R.1 d s := by
            unfold vv
            rw [dv_modify (by omega)]
            by_cases hde : v.dev = d
            · subst hde
              rw [if_pos rfl]
              show List.getD (List.set _ _ _) s [] = _
              rw [List.getD_eq_getElem?_getD, List.getElem?_set]
              by_cases hp : v.pl = s
              · subst hp
                rw [if_pos rfl, if_pos (by rw [hfl _ hd]; exact hs), if_pos ⟨rfl, rfl⟩]
                rfl
              · rw [if_neg hp, if_neg (fun hh => hp hh.2), List.getD_eq_getElem?_getD]
            · rw [if_neg hde, if_neg (fun hh => hde hh.1)]
          show Pl P d s (vv (R.1.upd (v.dev : Int) (tornF v.pl v.b t)) d s) ∨ _ ∧ _ ∧ To P t d s (vv (R.1.upd (v.dev : Int) (tornF v.pl v.b t)) d s)
          rw [hq]
          by_cases hm : v.dev = d ∧ v.pl = s
          · rw [if_pos hm]
            obtain ⟨c2, h2, hP2⟩ := hpl d s hd hs
            right
            refine ⟨hm.1.symm, hm.2.symm, c, c2, by rw [h2, hc], ?_, hP2⟩
            rw [← hm.1, ← hm.2]
            exact hP
          · rw [if_neg hm]
            exact .inl (hpl d s hd hs)
      · have e : crashF t R v true = (R.1.upd (v.dev : Int) (setF v.pl v.b), R.2) := by
          unfold crashF
          rw [if_pos rfl]
        rw [e]
        have hq : ∀ d s, d < 2 → s < 8 → vv (R.1.upd (v.dev : Int) (setF v.pl v.b)) d s = if v.dev = d ∧ v.pl = s then v.b else vv R.1 d s := fun d s hd hs => vv_upd (by omega) (fun _ => rfl) (by rw [hfl d hd]; exact hs)
        rcases ih with ⟨h1, h2⟩ | ⟨h0, h1, d0, s0, h2⟩
        · refine .inl ⟨h1, fun d s hd hs => ?_⟩
          show Pl P d s (vv (R.1.upd (v.dev : Int) (setF v.pl v.b)) d s)
          rw [hq d s hd hs]
          split
          · rename_i hm
            exact ⟨c, hc, by rw [← hm.1, ← hm.2]; exact hP⟩
          · exact h2 d s hd hs
        · refine .inr ⟨h0, h1, d0, s0, fun d s hd hs => ?_⟩
          show Pl P d s (vv (R.1.upd (v.dev : Int) (setF v.pl v.b)) d s) ∨ _ ∧ _ ∧ To P t d s (vv (R.1.upd (v.dev : Int) (setF v.pl v.b)) d s)
          rw [hq d s hd hs]
          split
          · rename_i hm
            exact .inl ⟨c, hc, by rw [← hm.1, ← hm.2]; exact hP⟩
          · exact h2 d s hd hs
/-- What a sector has behind a crash. -/
def AR.oddS (b : AR) (j : Nat) : Bool := !((b.peekL ((j / 8 : Nat) : Int) ((j % 8 : Nat) : Int)) == BB ((b.peekL ((j / 8 : Nat) : Int) ((j % 8 : Nat) : Int)).getD 0 0))
def oddN (f : Nat → Bool) (m : Nat) : Nat := ((List.range m).filter f).length
theorem oddN_succ (f : Nat → Bool) (m : Nat) : oddN f (m + 1) = oddN f m + if f m then 1 else 0 := by
  unfold oddN
  rw [List.range_succ, List.filter_append, List.length_append]
  cases hf : f m <;> simp [hf]
theorem oddN_none {f : Nat → Bool} : ∀ {m : Nat}, (∀ j, j < m → f j = false) → oddN f m = 0
  | 0, _ => rfl
  | m + 1, h => by
    rw [oddN_succ, oddN_none fun j hj => h j (by omega), h m (by omega)]
    rfl
theorem oddN_one {f : Nat → Bool} {j0 : Nat} : ∀ {m : Nat}, (∀ j, j < m → f j = true → j = j0) → oddN f m ≤ if j0 < m then 1 else 0
  | 0, _ => Nat.zero_le _
  | m + 1, h => by
    have ih := oddN_one (m := m) fun j hj => h j (by omega)
    rw [oddN_succ]
    cases hf : f m
    · rw [if_neg (by decide)]
      split at ih
      · rw [if_pos (by omega)]; omega
      · have : oddN f m = 0 := by omega
        rw [this]
        exact Nat.zero_le _
    · have hm := h m (by omega) hf
      rw [if_pos rfl]
      rw [if_neg (by omega)] at ih
      rw [if_pos (by omega)]
      omega
theorem BB_get (c : UInt8) {i : Nat} (hi : i < 256) : (BB c).getD i 0 = c := by
  unfold BB
  rw [List.getD_eq_getElem?_getD, List.getElem?_replicate, if_pos hi]
  rfl
theorem BB_take (c : UInt8) (t : Nat) : (BB c).take t = List.replicate (min t 256) c := by unfold BB; rw [List.take_replicate]
theorem BB_drop (c : UInt8) (t : Nat) : (BB c).drop t = List.replicate (256 - t) c := by unfold BB; rw [List.drop_replicate]
theorem torn_get {c1 c2 : UInt8} {t i : Nat} (ht : t < 256) (hi : i < 256) : ((BB c1).take t ++ (BB c2).drop t).getD i 0 = if i < t then c1 else c2 := by
  rw [BB_take, BB_drop, List.getD_eq_getElem?_getD]
  by_cases h : i < t
  · rw [if_pos h, List.getElem?_append_left (by rw [List.length_replicate]; omega), List.getElem?_replicate, if_pos (by omega)]
    rfl
  · rw [if_neg h, List.getElem?_append_right (by rw [List.length_replicate]; omega), List.getElem?_replicate, if_pos (by rw [List.length_replicate]; omega)]
    rfl
structure Crashed (a b : AR) (P : Nat → Nat → UInt8 → Prop) : Prop where
  ok : b.Ok
  loose : b.loose = []
  pk : ∀ d s : Nat, d < 2 → s < 8 → b.peekB d s = true
  len : ∀ d s : Nat, d < 2 → s < 8 → (b.peekL d s).length = 256
  lo : ∀ d s : Nat, d < 2 → s < 8 → P d s ((b.peekL d s).getD 0 0)
  hi : ∀ d s : Nat, d < 2 → s < 8 → P d s ((b.peekL d s).getD 255 0)
  one : oddN b.oddS 16 ≤ 1
  none : a.loose = [] → oddN b.oddS 16 = 0
theorem Laid.crash_any {a : AR} {F L : List UInt8} (h : Laid a F L) {P : Nat → Nat → UInt8 → Prop} (hF : ∀ d s, d < 2 → s < 8 → P d s (F.getD (d * 8 + s) 0)) (hw : ∀ v ∈ a.loose, ∃ c, v.b = BB c ∧ P v.dev v.pl c) (keep : List Bool) {t : Nat} (ht : t < 256) : Crashed a (a.crash keep (t : Int)) P := by
  have ok := h.ok.crash keep (t : Int)
  rw [h.crash_eq keep ht] at ok ⊢
  have hg := crashN_good h.ok keep (Nat.le_of_lt ht) a.loose.length
  have hlen : (crashN a keep t a.loose.length).1.devs.length = 2 := hg.len.trans h.len
  have hdv : ∀ e : Nat, e < 2 → (a.crashed keep t).dv (e : Int) = clean ((crashN a keep t a.loose.length).1.dv (e : Int)) := fun e he => by
    unfold AR.crashed
    rw [dv_clean (by omega)]
    rfl
  have hin : ∀ e : Nat, e < 2 → (a.crashed keep t).inD (e : Int) = true := fun e he => by
    unfold AR.inD AR.crashed
    rw [List.length_map, hlen]
    simp only [Bool.and_eq_true, decide_eq_true_eq]
    omega
  have hsec : (a.crashed keep t).secs = 8 := by
    rw [secs_dv ok.d0]
    show ((a.crashed keep t).dv ((0 : Nat) : Int)).firm.length = 8
    rw [hdv 0 (by decide)]
    show ((crashN a keep t a.loose.length).1.dv ((0 : Nat) : Int)).firm.length = 8
    have hin0 : (crashN a keep t a.loose.length).1.inD ((0 : Nat) : Int) = true := by rw [hg.inD]; exact h.inD (by decide)
    rw [(hg.fm _ (List.mem_of_getElem? (devs_get hin0))).1, h.sec]
  have hpk : ∀ d s : Nat, d < 2 → s < 8 → (a.crashed keep t).peekB d s = true := fun d s hd hs => by
    unfold AR.peekB AR.up AR.inS
    rw [show (a.crashed keep t).out = false from rfl, hin d hd, hsec, hdv d hd, show (clean ((crashN a keep t a.loose.length).1.dv (d : Int))).gone = false from crash_gone h keep t _ d hd]
    simp only [Bool.not_false, Bool.true_and, Bool.and_eq_true, decide_eq_true_eq]
    omega
  have hpl : ∀ d s : Nat, d < 2 → s < 8 → (a.crashed keep t).peekL d s = vv (crashN a keep t a.loose.length).1 d s := fun d s hd hs => by
    unfold AR.peekL
    rw [hpk d s hd hs, if_pos rfl]
    show ((a.crashed keep t).dv (d : Int)).firm.getD s [] = _
    rw [hdv d hd]
    rfl
  have key : ∀ d s : Nat, d < 2 → s < 8 → Pl P d s (vv (crashN a keep t a.loose.length).1 d s) ∨ To P t d s (vv (crashN a keep t a.loose.length).1 d s) := fun d s hd hs => by
    rcases crash_sec h hF hw keep (Nat.le_of_lt ht) a.loose.length with hh | ⟨_, _, d0, s0, hh⟩
    · exact .inl (hh.2 d s hd hs)
    · rcases hh d s hd hs with h1 | h1
      · exact .inl h1
      · exact .inr h1.2.2
  have plain : ∀ j, j < 16 → Pl P (j / 8) (j % 8) (vv (crashN a keep t a.loose.length).1 (j / 8) (j % 8)) → (a.crashed keep t).oddS j = false := fun j hj ⟨c, hc, _⟩ => by
    unfold AR.oddS
    rw [hpl _ _ (by omega) (by omega), hc, BB_get c (by decide), beq_self_eq_true]
    rfl
  refine ⟨ok, rfl, hpk, fun d s hd hs => ?_, fun d s hd hs => ?_, fun d s hd hs => ?_, ?_, fun hl => ?_⟩
  · rw [hpl d s hd hs]
    rcases key d s hd hs with ⟨c, hc, _⟩ | ⟨c1, c2, hc, _⟩
    · rw [hc]; exact BB_len c
    · rw [hc, BB_take, BB_drop, List.length_append, List.length_replicate, List.length_replicate]; omega
  · rw [hpl d s hd hs]
    rcases key d s hd hs with ⟨c, hc, hp⟩ | ⟨c1, c2, hc, h1, h2⟩
    · rw [hc, BB_get c (by decide)]; exact hp
    · rw [hc, torn_get ht (by decide)]
      split
      · exact h1
      · exact h2
  · rw [hpl d s hd hs]
    rcases key d s hd hs with ⟨c, hc, hp⟩ | ⟨c1, c2, hc, h1, h2⟩
    · rw [hc, BB_get c (by decide)]; exact hp
    · rw [hc, torn_get ht (by decide), if_neg (by omega)]
      exact h2
  · rcases crash_sec h hF hw keep (Nat.le_of_lt ht) a.loose.length with hh | ⟨_, _, d0, s0, hh⟩
    · rw [oddN_none fun j hj => plain j hj (hh.2 _ _ (by omega) (by omega))]
      decide
    · have := oddN_one (f := (a.crashed keep t).oddS) (j0 := d0 * 8 + s0) (m := 16) fun j hj hf => by
        rcases hh (j / 8) (j % 8) (by omega) (by omega) with h1 | h1
        · rw [plain j hj h1] at hf; cases hf
        · omega
      split at this <;> omega
  · rcases crash_sec h hF hw keep (Nat.le_of_lt ht) a.loose.length with hh | ⟨h0, _⟩
    · exact oddN_none fun j hj => plain j hj (hh.2 _ _ (by omega) (by omega))
    · exact absurd hl h0
end Go.Proofs.Ytclleohpmgihaaa
namespace Go.Proofs.Ytclleohpmgihaaa
set_option linter.unusedVariables false
set_option linter.unusedSimpArgs false
open Go.RowKit Hp
attribute [local irreducible] Go.Calls Go.wpList
set_option maxRecDepth 100000
set_option maxHeartbeats 8000000
theorem u8_eq (a b : UInt8) : ((a.toNat : Int) == (b.toNat : Int)) = (a == b) := by
  by_cases h : a = b
  · subst h
    rw [beq_self_eq_true, beq_self_eq_true]
  · have h1 : ¬ a.toNat = b.toNat := fun hh => h (UInt8.toNat_inj.1 hh)
    rw [beq_eq_false_iff_ne.2 h, beq_eq_false_iff_ne]
    intro hh
    exact h1 (by exact_mod_cast hh)
theorem laid_any (ao : Option Addr) (N c : Nat) (xs : List LY) (f b : UInt8) (d s : Nat) (w : World) (hv : Rd w (.slice ao N c) 4 N (xs.flatMap LY.cells)) (hN : xs.length = N) (hx : ∀ y ∈ xs, y.Ok) (hN6 : N ≤ 60) :
    Calls Try.prog 33 #[.slice ao N c, .int .u8 f.toNat, .int .i64 (d : Int), .int .i64 (s : Int), .int .u8 b.toNat] w fun e w' => e = .returned (.bool (laidB xs f d s b)) ∧ St w [] w' [] := by
  have hst := St.refl w
  have HXX := hid hx
  have HN := hid hN
  have HL0 := hid (laidN_zero xs f d s b)
  obtain ⟨A0, hA0⟩ : ∃ A0, A0 = laidN xs f d s b 0 := ⟨_, rfl⟩
  have HA0 := hid hA0
  have e0 : ((b.toNat : Int) == (f.toNat : Int)) = A0 := by rw [u8_eq, hA0, HL0.out]
  clear hN hx hA0
  go_enter Try.func33, Try.ntmps33
  go_wp2_with (first | go_big_skip | go_big_guard | fail)
  go_loopw [11, 12] (fun v i wr => ∃ m : Nat, m ≤ N ∧ v = .bool (laidN xs f d s b m) ∧ i = .int .i64 (m : Int) ∧ St w [] wr []) (fun _ i _ => N - (intOf i).toNat)
  case atStart => exact ⟨0, Nat.zero_le _, by rw [HA0.out], rfl, hst⟩
  case round =>
    clear hst
    obtain ⟨m, hm, rfl, rfl, hs0⟩ := hrel
    clear e0
    obtain ⟨A, hA⟩ : ∃ A, A = laidN xs f d s b m := ⟨_, rfl⟩
    have HA := hid hA
    rw [← hA]
    clear hA
    by_cases hmN : m < N
    · obtain ⟨y, hy⟩ : ∃ y, xs[m]? = some y := ⟨_, List.getElem?_eq_getElem (by rw [HN.out]; exact hmN)⟩
      obtain ⟨bb, off, rfl, _⟩ := hv.at hmN
      have HY := hid (HXX.out y (List.mem_of_getElem? hy))
      have HR0 := hid (lys_cell hv hy (j := 0) rfl)
      have HR1 := hid (lys_cell hv hy (j := 1) rfl)
      have HR2 := hid (lys_cell hv hy (j := 2) rfl)
      have HSU := hid (laidN_succ (f := f) (d := d) (s := s) (c := b) hy)
      have d2 : decide ((m : Int) < (N : Int)) = true := decide_eq_true (by omega)
      have z1 : IntKind.i64.wrap ((m : Int) + 1) = (m : Int) + 1 := IntWalk.i64_in _ (by omega)
      clear hy
      cases A
      · by_cases h1 : (pickI y.dev 2 == (d : Int)) = true
        · by_cases h2 : (pickI y.pl 8 == (s : Int)) = true
          · have HLY : Hid (laidY d s b y = (y.b == b)) := hid (by unfold laidY; rw [h1, h2]; rfl)
            obtain ⟨E, hE⟩ : ∃ E, E = (y.b == b) := ⟨_, rfl⟩
            have HE := hid hE
            have e3 : ((y.b.toNat : Int) == (b.toNat : Int)) = E := by rw [u8_eq, hE]
            clear hE
            go_wp2_with (first | go_big_skip | go_big_guard | (refine wl_loadE rfl rfl rfl ?_; refine ⟨_, Loads.old hs0 HR0.out, ?_⟩) | (go_at_call 11; refine (pick_spec y.dev 2 _ HY.out.d (by decide)).mono ?_; rintro _ w3 ⟨rfl, h4⟩; have hs1 := St.call0 hs0 h4; clear h4 hs0) | (refine wl_loadE rfl rfl rfl ?_; refine ⟨_, Loads.old hs1 HR1.out, ?_⟩) | (go_at_call 11; refine (pick_spec y.pl 8 _ HY.out.p (by decide)).mono ?_; rintro _ w4 ⟨rfl, h4⟩; have hs2 := St.call0 hs1 h4; clear h4 hs1) | (refine wl_loadE rfl rfl rfl ?_; refine ⟨_, Loads.old hs2 HR2.out, ?_⟩))
            go_roundw
            case rel => exact ⟨m + 1, by omega, by rw [HSU.out, ← HA.out, HLY.out, ← HE.out]; rfl, rfl, hs2⟩
            case measure => simp [intOf]; omega
          · replace h2 : (pickI y.pl 8 == (s : Int)) = false := by simpa using h2
            have HLY : Hid (laidY d s b y = false) := hid (by unfold laidY; rw [h1, h2]; rfl)
            go_wp2_with (first | go_big_skip | go_big_guard | (refine wl_loadE rfl rfl rfl ?_; refine ⟨_, Loads.old hs0 HR0.out, ?_⟩) | (go_at_call 11; refine (pick_spec y.dev 2 _ HY.out.d (by decide)).mono ?_; rintro _ w3 ⟨rfl, h4⟩; have hs1 := St.call0 hs0 h4; clear h4 hs0) | (refine wl_loadE rfl rfl rfl ?_; refine ⟨_, Loads.old hs1 HR1.out, ?_⟩) | (go_at_call 11; refine (pick_spec y.pl 8 _ HY.out.p (by decide)).mono ?_; rintro _ w4 ⟨rfl, h4⟩; have hs2 := St.call0 hs1 h4; clear h4 hs1))
            go_roundw
            case rel => exact ⟨m + 1, by omega, by rw [HSU.out, ← HA.out, HLY.out]; rfl, rfl, hs2⟩
            case measure => simp [intOf]; omega
        · replace h1 : (pickI y.dev 2 == (d : Int)) = false := by simpa using h1
          have HLY : Hid (laidY d s b y = false) := hid (by unfold laidY; rw [h1]; rfl)
          go_wp2_with (first | go_big_skip | go_big_guard | (refine wl_loadE rfl rfl rfl ?_; refine ⟨_, Loads.old hs0 HR0.out, ?_⟩) | (go_at_call 11; refine (pick_spec y.dev 2 _ HY.out.d (by decide)).mono ?_; rintro _ w3 ⟨rfl, h4⟩; have hs1 := St.call0 hs0 h4; clear h4 hs0))
          go_roundw
          case rel => exact ⟨m + 1, by omega, by rw [HSU.out, ← HA.out, HLY.out]; rfl, rfl, hs1⟩
          case measure => simp [intOf]; omega
      · go_wp2_with (first | go_big_skip | go_big_guard | fail)
        go_roundw
        case rel => exact ⟨m + 1, by omega, by rw [HSU.out, ← HA.out]; rfl, rfl, hs0⟩
        case measure => simp [intOf]; omega
    · obtain rfl : m = N := by omega
      have d2 : decide ((m : Int) < (m : Int)) = false := decide_eq_false (by omega)
      go_wp2_with (first | go_big_skip | go_big_guard | fail)
      go_ret
      refine ⟨?_, hs0⟩
      rw [HA.out, ← laidN_all, HN.out]
      rfl
/-- What is known of an array on which writes are laid. -/
structure Lz (a : AR) (xs : List LY) (m : Nat) : Prop where
  fu : a.fuse = -1
  ou : a.out = false
  st : 0 ≤ a.steps ∧ a.steps ≤ 2 * (m : Int)
  ll : a.loose.length ≤ m
  fr : ∀ v ∈ a.loose, ∃ y ∈ xs, pickI y.dev 2 = (v.dev : Int) ∧ pickI y.pl 8 = (v.pl : Int) ∧ v.b = BB y.b
theorem results_cct {fn : Func} {p q r : Tmp} {T U : TypeId} {tmps : Array Value} {P : Program} {w : World} {A B : Addr} {v u : Value} (h : fn.results = #[.cell p T, .cell q U, .tmp r]) (hp : tmps.getD p undef = .pointer (some A)) (hq : tmps.getD q undef = .pointer (some B)) (hl : Loads P w T A v) (hl2 : Loads P w U B u) :
    (results fn tmps).run P w = .ok (.tuple #[v, u, tmps.getD r undef]) w := by
  have h1 : (loadVar T A).run P w = .ok v w := hl
  have h2 : (loadVar U B).run P w = .ok u w := hl2
  have hp' : tmps[p]?.getD undef = .pointer (some A) := by simpa using hp
  have hq' : tmps[q]?.getD undef = .pointer (some B) := by simpa using hq
  simp [results, h, hp', hq', asAddr, h1, h2, Sem.run_bind]
section
theorem loadedU8l (A : Addr) : loadVar 5 A = loadVarH 5 A := rfl
theorem loadedI8l (A : Addr) : loadVar 3 A = loadVarH 3 A := rfl
theorem loadedAl (A : Addr) : loadVar 30 A = loadVarH 30 A := rfl
attribute [local go_sem ↓] loadedU8l loadedI8l loadedAl
theorem lays_any {w : World} {ga p q : Nat} {x0 : GA} (hS : St w (arF ga x0 (K0 p q)) w (arP ga x0 (K0 p q))) (ao : Option Addr) (N c : Nat) (xs : List LY) (hv : Rd w (.slice ao N c) 4 N (xs.flatMap LY.cells)) (hN : xs.length = N) (hx : ∀ y ∈ xs, y.Ok) (hN6 : N ≤ 60) (ho : Off (.slice ao N c) (arF ga x0 (K0 p q))) :
    Calls Try.prog 27 #[.pointer (some ⟨ga, 0, none⟩), .slice ao N c] w fun e w' => ∃ x a F L, e = .returned (.tuple #[.agg (bytesV F).toArray, .agg (bytesV L).toArray, .bool true]) ∧ Laid a F L ∧ Lz a xs N ∧ St w (arF ga x0 (K0 p q)) w' (arP ga x a) := by
  have HXX := hid hx
  have HN := hid hN
  have HO := hid ho
  have hL0 := Laid.start p q
  have hz0 : Lz (K0 p q) xs 0 := ⟨rfl, rfl, ⟨by rw [K0_st]; decide, by rw [K0_st]; decide⟩, by rw [K0_ll]; decide, fun v hv => by
    have := K0_ll p q
    rw [List.eq_nil_of_length_eq_zero this] at hv
    cases hv⟩
  obtain ⟨M, hM⟩ : ∃ M, M = arF ga x0 (K0 p q) := ⟨_, rfl⟩
  rw [← hM] at hS HO ⊢
  obtain ⟨a0, ha0⟩ : ∃ a0, a0 = K0 p q := ⟨_, rfl⟩
  rw [← ha0] at hS hL0 hz0
  clear hN hx ho hM ha0
  go_enter Try.func27, Try.ntmps27
  go_wp2_with (first | go_big_skip | go_big_guard | (first | (refine wl_alloc hS rfl rfl ?_; intro g4 w1 hp1; clear hS) | (refine wl_alloc hp1 rfl rfl ?_; intro g5 w2 hp2; clear hp1) | (refine wl_alloc hp2 rfl rfl ?_; intro g7 w3 hp3; clear hp2) | (refine wl_alloc hp3 rfl rfl ?_; intro g8 w4 hp4; clear hp3)))
  go_loopw [9] (fun i wr => ∃ (m : Nat) (a : AR) (x : GA) (F L : List UInt8), m ≤ N ∧ i = .int .i64 (m : Int) ∧ Laid a F L ∧ Lz a xs m ∧ St w M wr (.blk g8 30 (bytesV L) :: .blk g7 30 (bytesV F) :: .blk g5 30 (List.replicate 16 (.int .u8 0)) :: .blk g4 30 (List.replicate 16 (.int .u8 0)) :: arP ga x a)) (fun i _ => N - (intOf i).toNat)
  case atStart => exact ⟨0, a0, x0, _, _, Nat.zero_le _, rfl, hL0, hz0, hp4⟩
  case round =>
    clear hp4 hL0 hz0
    obtain ⟨m, a, x, F, L, hm, rfl, hL, hz, hs0⟩ := hrel
    by_cases hmN : m < N
    · obtain ⟨y, hy⟩ : ∃ y, xs[m]? = some y := ⟨_, List.getElem?_eq_getElem (by rw [HN.out]; exact hmN)⟩
      obtain ⟨b, off, rfl, _⟩ := hv.at hmN
      have HB : Hid (b ∉ M) := hid (HO.out ⟨b, off, none⟩ N c rfl (by omega))
      have HYM := hid (List.mem_of_getElem? hy)
      have HY := hid (HXX.out y HYM.out)
      have HR0 := hid (lys_cell hv hy (j := 0) rfl)
      have HR1 := hid (lys_cell hv hy (j := 1) rfl)
      have HR2 := hid (lys_cell hv hy (j := 2) rfl)
      have HR3 := hid (lys_cell hv hy (j := 3) rfl)
      obtain ⟨d, hd, ed⟩ := pickI_nat (x := y.dev) (n := 2) (by decide)
      obtain ⟨s, hs, es⟩ := pickI_nat (x := y.pl) (n := 8) (by decide)
      have ED : Hid (pickI y.dev 2 = (d : Int)) := hid ed
      have ES : Hid (pickI y.pl 8 = (s : Int)) := hid es
      have d2 : decide ((m : Int) < (N : Int)) = true := decide_eq_true (by omega)
      have z1 : IntKind.i64.wrap ((m : Int) + 1) = (m : Int) + 1 := IntWalk.i64_in _ (by omega)
      have hd2 : (d : Int) < 2 := by omega
      have hs2 : (s : Int) < 8 := by omega
      have hf1 : a.fuse ≠ 0 := by rw [hz.fu]; decide
      have HE1 := hid (hL.write_eq hd hs hf1 hz.ou y.b).1
      obtain ⟨a2, ha2⟩ : ∃ a2, a2 = a.write (d : Int) (s : Int) (BB y.b) := ⟨_, rfl⟩
      have HA2 := hid ha2
      have hq := (hL.write_eq hd hs hf1 hz.ou y.b).2
      rw [← ha2] at hq
      have hL2 : Laid a2 F (L.set (d * 8 + s) y.b) := by rw [ha2]; exact hL.write hd hs hf1 hz.ou y.b
      have hz2s := hz.st
      have hz2 : a2.fuse = -1 ∧ a2.out = false ∧ (0 ≤ a2.steps ∧ a2.steps ≤ 2 * (m : Int) + 1) ∧ a2.loose.length ≤ m + 1 ∧ ∀ v ∈ a2.loose, ∃ y ∈ xs, pickI y.dev 2 = (v.dev : Int) ∧ pickI y.pl 8 = (v.pl : Int) ∧ v.b = BB y.b := by
        rw [hq]
        refine ⟨by show fuseS a.fuse = -1; rw [hz.fu]; rfl, rfl, ⟨by show 0 ≤ a.steps + 1; omega, by show a.steps + 1 ≤ _; omega⟩, by show (a.loose ++ [_]).length ≤ _; rw [List.length_append]; exact Nat.succ_le_succ hz.ll, fun v hv => ?_⟩
        rcases List.mem_append.1 hv with h1 | h1
        · exact hz.fr v h1
        · simp only [List.mem_singleton] at h1
          subst h1
          exact ⟨y, HYM.out, ed, es, rfl⟩
      have HPUT := hid (bytesV_set y.b (i := d * 8 + s) (L := L) (by rw [hL.ll]; omega))
      have HFIT : Hid (d * 8 + s + 1 ≤ (bytesV L).length) := hid (by rw [length_bytesV, hL.ll]; omega)
      have HL := hid hL
      have HZ := hid hz
      have HL2 := hid hL2
      have HZ2 := hid hz2
      have HDB := hid hd
      clear hy ed es hL hz hL2 hz2 hq ha2 hf1 hz2s hs
      go_wp2_with (first | go_big_skip | go_big_guard | fail)
      have hX := hs0.drew
      clear hs0
      refine wp_region_held_drew (S := (fun w' => (loadVarH 3 ⟨b, off + m * 4, none⟩).run Try.prog w' = .ok (.int .i64 y.dev) w' ∧ (loadVarH 3 ⟨b, off + m * 4 + 1, none⟩).run Try.prog w' = .ok (.int .i64 y.pl) w')) (by kernel_rfl) (by exact ⟨ldOMx hX HR0.out HB.out, ldOMx hX HR1.out HB.out⟩) (fun hHeld => ?_)
      refine wpAnyH_take (i := 0) (oi := ⟨some 18, _, _, _, _, _⟩) (v := ?_) rfl (by kernel_rfl) (by kernel_rfl) (by kernel_rfl) (fun _ _ _ h => h) (Or.inl ⟨by rfl, ?_⟩) (by assumption) ?_
      rotate_left
      · intro w hSw; (try dsimp only at hSw); go_simp; try with_reducible rfl
      (try simp only [Act.put, List.setIfInBounds_toArray, List.set_cons_zero, List.set_cons_succ])
      refine wpAnyH_take (i := 1) (oi := ⟨some 19, _, _, _, _, _⟩) (v := ?_) rfl (by kernel_rfl) (by kernel_rfl) (by kernel_rfl) (fun _ _ _ h => h) (Or.inl ⟨by rfl, ?_⟩) (by assumption) ?_
      rotate_left
      · intro w hSw; (try dsimp only at hSw); go_simp; try with_reducible rfl
      (try simp only [Act.put, List.setIfInBounds_toArray, List.set_cons_zero, List.set_cons_succ])
      refine wpAnyH_take (i := 6) (oi := ⟨some 24, _, _, _, _, _⟩) (v := ?_) rfl (by kernel_rfl) (by kernel_rfl) (by kernel_rfl) (fun _ _ _ h => h) (Or.inl ⟨by rfl, ?_⟩) (by assumption) ?_
      rotate_left
      · intro w hSw; (try dsimp only at hSw); go_simp; try with_reducible rfl
      (try simp only [Act.put, List.setIfInBounds_toArray, List.set_cons_zero, List.set_cons_succ])
      refine wpAnyH_take (i := 7) (oi := ⟨some 25, _, _, _, _, _⟩) (v := ?_) rfl (by kernel_rfl) (by kernel_rfl) (by kernel_rfl) (fun _ _ _ h => h) (Or.inl ⟨by rfl, ?_⟩) (by assumption) ?_
      rotate_left
      · intro w hSw; (try dsimp only at hSw); go_simp; try with_reducible rfl
      (try simp only [Act.put, List.setIfInBounds_toArray, List.set_cons_zero, List.set_cons_succ])
      refine wpAnyH_take (i := 2) (oi := ⟨some 20, _, _, _, _, _⟩) (v := ?_) rfl (by kernel_rfl) (by kernel_rfl) (by kernel_rfl) (fun _ _ _ h => h) (Or.inl ⟨by rfl, ?_⟩) (by assumption) ?_
      rotate_left
      · intro w hSw; (try dsimp only at hSw); go_simp; try with_reducible rfl
      (try simp only [Act.put, List.setIfInBounds_toArray, List.set_cons_zero, List.set_cons_succ])
      refine wpAnyH_take (i := 8) (oi := ⟨some 26, _, _, _, _, _⟩) (v := ?_) rfl (by kernel_rfl) (by kernel_rfl) (by kernel_rfl) (fun _ _ _ h => h) (Or.inl ⟨by rfl, ?_⟩) (by assumption) ?_
      rotate_left
      · intro w hSw; (try dsimp only at hSw); go_simp; try with_reducible rfl
      (try simp only [Act.put, List.setIfInBounds_toArray, List.set_cons_zero, List.set_cons_succ])
      refine wpAnyH_take (i := 3) (oi := ⟨some 21, _, _, _, _, _⟩) (v := ?_) rfl (by kernel_rfl) (by kernel_rfl) (by kernel_rfl) (fun _ _ _ h => h) (Or.inl ⟨by rfl, ?_⟩) (by assumption) ?_
      rotate_left
      · intro w hSw; (try dsimp only at hSw); go_simp; try with_reducible rfl
      (try simp only [Act.put, List.setIfInBounds_toArray, List.set_cons_zero, List.set_cons_succ])
      refine wpAnyH_take (i := 9) (oi := ⟨some 27, _, _, _, _, _⟩) (v := ?_) rfl (by kernel_rfl) (by kernel_rfl) (by kernel_rfl) (fun _ _ _ h => h) (Or.inl ⟨by rfl, ?_⟩) (by assumption) ?_
      rotate_left
      · intro w hSw; (try dsimp only at hSw); go_simp; try with_reducible rfl
      (try simp only [Act.put, List.setIfInBounds_toArray, List.set_cons_zero, List.set_cons_succ])
      refine wpAnyH_take (i := 4) (oi := ⟨some 22, _, _, _, _, _⟩) (v := ?_) rfl (by kernel_rfl) (by kernel_rfl) (by kernel_rfl) (fun _ _ _ h => h) (Or.inl ⟨by rfl, ?_⟩) (by assumption) ?_
      rotate_left
      · intro w hSw; (try dsimp only at hSw); go_simp; try with_reducible rfl
      (try simp only [Act.put, List.setIfInBounds_toArray, List.set_cons_zero, List.set_cons_succ])
      refine wpAnyH_take (i := 10) (oi := ⟨some 28, _, _, _, _, _⟩) (v := ?_) rfl (by kernel_rfl) (by kernel_rfl) (by kernel_rfl) (fun _ _ _ h => h) (Or.inl ⟨by rfl, ?_⟩) (by assumption) ?_
      rotate_left
      · intro w hSw; (try dsimp only at hSw); go_simp; try with_reducible rfl
      (try simp only [Act.put, List.setIfInBounds_toArray, List.set_cons_zero, List.set_cons_succ])
      refine wpAnyH_ready (rs := [5]) (by kernel_rfl) (by simp) ?_
      refine (AllReadyH.cons (o := ⟨some 23, _, _, _, _, _⟩) rfl (fun K hK => ?_) AllReadyH.nil)
      rw [if_pos (by rfl)]
      go_simp
      go_at_call 11
      refine (pick_spec y.dev 2 _ HY.out.d (by decide)).mono ?_
      rw [ED.out]
      rintro _ w3 ⟨rfl, h4⟩
      have hA1 := St.call0 hX h4
      clear h4
      refine hK.out _ _ ?_ (fun hHeld => ?_)
      · exact ⟨ldOMx hA1 HR0.out HB.out, ldOMx hA1 HR1.out HB.out⟩
      clear hK K
      (try simp only [Act.put, List.setIfInBounds_toArray, List.set_cons_zero, List.set_cons_succ])
      refine wpAnyH_ready (rs := [11]) (by kernel_rfl) (by simp) ?_
      refine (AllReadyH.cons (o := ⟨some 29, _, _, _, _, _⟩) rfl (fun K hK => ?_) AllReadyH.nil)
      rw [if_pos (by rfl)]
      go_simp
      go_at_call 11
      refine (pick_spec y.pl 8 _ HY.out.p (by decide)).mono ?_
      rw [ES.out]
      rintro _ w4 ⟨rfl, h4⟩
      have hA2 := St.call0 hA1 h4
      clear h4
      refine hK.out _ _ ?_ (fun hHeld => ?_)
      · exact ⟨ldOMx hA2 HR0.out HB.out, ldOMx hA2 HR1.out HB.out⟩
      clear hK K
      (try simp only [Act.put, List.setIfInBounds_toArray, List.set_cons_zero, List.set_cons_succ])
      refine wpAnyH_take (i := 12) (oi := ⟨some 10, _, _, _, _, _⟩) (v := ?_) rfl (by kernel_rfl) (by kernel_rfl) (by kernel_rfl) (fun _ _ _ h => h) (Or.inl ⟨by rfl, ?_⟩) (by assumption) ?_
      rotate_left
      · intro w hSw; (try dsimp only at hSw); go_simp; try with_reducible rfl
      (try simp only [Act.put, List.setIfInBounds_toArray, List.set_cons_zero, List.set_cons_succ])
      refine wpAnyH_take (i := 13) (oi := ⟨some 11, _, _, _, _, _⟩) (v := ?_) rfl (by kernel_rfl) (by kernel_rfl) (by kernel_rfl) (fun _ _ _ h => h) (Or.inl ⟨by rfl, ?_⟩) (by assumption) ?_
      rotate_left
      · intro w hSw; (try dsimp only at hSw); go_simp; try with_reducible rfl
      (try simp only [Act.put, List.setIfInBounds_toArray, List.set_cons_zero, List.set_cons_succ])
      refine wpAnyH_done (by kernel_rfl) ?_ _
      clear hHeld
      have hs1 := hA2
      clear hA2
      go_wp2_with (first | go_big_skip | go_big_guard | (refine wl_loadE rfl rfl rfl ?_; refine ⟨_, Loads.oldM hs1 HR2.out HB.out, ?_⟩) | (go_at_call 14; refine (of_any y.b _).mono ?_; rintro _ w5 ⟨g9, rfl, h4⟩; have hs3 := St.call hs1 h4; clear h4 hs1) | (go_at_call 13; refine (writeM_any (arr_in (X := [_, _, _, _, _]) hs3) HL.out.ok (by have := HZ.out.st; omega) (by have := HZ.out.ll; omega) (d : Int) (s : Int) (some ⟨g9, 0, none⟩) 256 256 (BB y.b) (Rd.blk hs3 (.head _) (Nat.le_refl _) (by decide) (by rw [length_bytesV]; exact BB_len _) (by rw [List.drop_zero]; exact List.take_length)) (BB_len _) (off_blk (X := [_, _, _, _, _]) hs3 (.head _) 0 256 256)).mono ?_; rw [HE1.out, ← HA2.out]; rintro _ w6 ⟨rfl, x2, h4⟩; have hs4 : St w M w6 (.blk g8 30 (bytesV L) :: .blk g7 30 (bytesV F) :: .blk g5 30 (List.replicate 16 (.int .u8 0)) :: .blk g4 30 (List.replicate 16 (.int .u8 0)) :: arP ga x2 a2) := St.sub (arr_out (X := [_, _, _, _, _]) hs3 h4) (List.sublist_cons_self _ _); clear h4 hs3))
      have hX := hs4.drew
      clear hs4
      refine wp_region_held_drew (S := (fun w' => (loadVarH 5 ⟨b, off + m * 4 + 2, none⟩).run Try.prog w' = .ok (.int .u8 (y.b.toNat : Int)) w')) (by kernel_rfl) (by exact ldOMx hX HR2.out HB.out) (fun hHeld => ?_)
      refine wpAnyH_take (i := 0) (oi := ⟨some 43, _, _, _, _, _⟩) (v := ?_) rfl (by kernel_rfl) (by kernel_rfl) (by kernel_rfl) (fun _ _ _ h => h) (Or.inl ⟨by rfl, ?_⟩) (by assumption) ?_
      rotate_left
      · intro w hSw; (try dsimp only at hSw); go_simp; try with_reducible rfl
      (try simp only [Act.put, List.setIfInBounds_toArray, List.set_cons_zero, List.set_cons_succ])
      refine wpAnyH_take (i := 1) (oi := ⟨some 44, _, _, _, _, _⟩) (v := ?_) rfl (by kernel_rfl) (by kernel_rfl) (by kernel_rfl) (fun _ _ _ h => h) (Or.inl ⟨by rfl, ?_⟩) (by assumption) ?_
      rotate_left
      · intro w hSw; (try dsimp only at hSw); go_simp; try with_reducible rfl
      (try simp only [Act.put, List.setIfInBounds_toArray, List.set_cons_zero, List.set_cons_succ])
      refine wpAnyH_take (i := 2) (oi := ⟨some 45, _, _, _, _, _⟩) (v := ?_) rfl (by kernel_rfl) (by kernel_rfl) (by kernel_rfl) (fun _ _ _ h => h) (Or.inl ⟨by rfl, ?_⟩) (by assumption) ?_
      rotate_left
      · intro w hSw; (try dsimp only at hSw); go_simp; try with_reducible rfl
      (try simp only [Act.put, List.setIfInBounds_toArray, List.set_cons_zero, List.set_cons_succ])
      refine wpAnyH_take (i := 3) (oi := ⟨some 46, _, _, _, _, _⟩) (v := ?_) rfl (by kernel_rfl) (by kernel_rfl) (by kernel_rfl) (fun _ _ _ h => h) (Or.inl ⟨by rfl, ?_⟩) (by assumption) ?_
      rotate_left
      · intro w hSw; (try dsimp only at hSw); go_simp; try with_reducible rfl
      (try simp only [Act.put, List.setIfInBounds_toArray, List.set_cons_zero, List.set_cons_succ])
      refine wpAnyH_take (i := 4) (oi := ⟨some 47, _, _, _, _, _⟩) (v := ?_) rfl (by kernel_rfl) (by kernel_rfl) (by kernel_rfl) (fun _ _ _ h => h) (Or.inl ⟨by rfl, ?_⟩) (by assumption) ?_
      rotate_left
      · intro w hSw; (try dsimp only at hSw); go_simp; try with_reducible rfl
      (try simp only [Act.put, List.setIfInBounds_toArray, List.set_cons_zero, List.set_cons_succ])
      refine wpAnyH_take (i := 7) (oi := ⟨some 50, _, _, _, _, _⟩) (v := ?_) rfl (by kernel_rfl) (by kernel_rfl) (by kernel_rfl) (fun _ _ _ h => h) (Or.inl ⟨by rfl, ?_⟩) (by assumption) ?_
      rotate_left
      · intro w hSw; (try dsimp only at hSw); go_simp; try with_reducible rfl
      (try simp only [Act.put, List.setIfInBounds_toArray, List.set_cons_zero, List.set_cons_succ])
      refine wpAnyH_take (i := 5) (oi := ⟨some 48, _, _, _, _, _⟩) (v := ?_) rfl (by kernel_rfl) (by kernel_rfl) (by kernel_rfl) (fun _ _ _ h => h) (Or.inl ⟨by rfl, ?_⟩) (by assumption) ?_
      rotate_left
      · intro w hSw; (try dsimp only at hSw); go_simp; try with_reducible rfl
      (try simp only [Act.put, List.setIfInBounds_toArray, List.set_cons_zero, List.set_cons_succ])
      refine wpAnyH_take (i := 6) (oi := ⟨some 49, _, _, _, _, _⟩) (v := ?_) rfl (by kernel_rfl) (by kernel_rfl) (by kernel_rfl) (fun _ _ _ h => h) (Or.inl ⟨by rfl, ?_⟩) (by assumption) ?_
      rotate_left
      · intro w hSw; (try dsimp only at hSw); go_simp; try with_reducible rfl
      (try simp only [Act.put, List.setIfInBounds_toArray, List.set_cons_zero, List.set_cons_succ])
      refine wpAnyH_take (i := 8) (oi := ⟨some 51, _, _, _, _, _⟩) (v := ?_) rfl (by kernel_rfl) (by kernel_rfl) (by kernel_rfl) (fun _ _ _ h => h) (Or.inl ⟨by rfl, ?_⟩) (by assumption) ?_
      rotate_left
      · intro w hSw; (try dsimp only at hSw); go_simp; try with_reducible rfl
      (try simp only [Act.put, List.setIfInBounds_toArray, List.set_cons_zero, List.set_cons_succ])
      refine wpAnyH_ready (rs := [9]) (by kernel_rfl) (by simp) ?_
      refine (AllReadyH.cons (o := ⟨none, _, _, _, _, _⟩) rfl (fun K hK => ?_) AllReadyH.nil)
      rw [if_pos (by rfl)]
      refine ow_of_wl (ops := #[]) (by rfl) ?_
      refine wl_store [] hX rfl rfl rfl (v := .int _ _) rfl rfl rfl HFIT.out ?_
      show ∀ w', St w M w' ([] ++ .blk g8 30 (putAt (bytesV L) (d * 8 + s) [.int .u8 (y.b.toNat : Int)]) :: _) → _
      rw [HPUT.out]
      intro w9 hA3
      refine q0_nil ?_
      refine hK.out _ _ ?_ (fun hHeld => ?_)
      · exact ldOMx hA3 HR2.out HB.out
      clear hK K
      (try simp only [Act.put, List.setIfInBounds_toArray, List.set_cons_zero, List.set_cons_succ])
      refine wpAnyH_done (by kernel_rfl) ?_ _
      clear hHeld
      have hs5 : St w M w9 (.blk g8 30 (bytesV (L.set (d * 8 + s) y.b)) :: .blk g7 30 (bytesV F) :: .blk g5 30 (List.replicate 16 (.int .u8 0)) :: .blk g4 30 (List.replicate 16 (.int .u8 0)) :: arP ga x2 a2) := hA3
      clear hA3
      cases hfl : y.fl
      · have HFL : Hid (y.fl = false) := hid hfl
        rw [hfl] at HR3
        clear hfl
        go_wp2_with (first | go_big_skip | go_big_guard | (refine wl_loadE rfl rfl rfl ?_; refine ⟨_, Loads.oldM hs5 HR3.out HB.out, ?_⟩))
        go_roundw
        case rel => exact ⟨m + 1, a2, x2, F, (L.set (d * 8 + s) y.b), by omega, rfl, HL2.out, ⟨HZ2.out.1, HZ2.out.2.1, ⟨HZ2.out.2.2.1.1, by have := HZ2.out.2.2.1.2; omega⟩, HZ2.out.2.2.2.1, HZ2.out.2.2.2.2⟩, hs5⟩
        case measure => simp [intOf]; omega
      · have HFL : Hid (y.fl = true) := hid hfl
        rw [hfl] at HR3
        clear hfl
        have hf2 : a2.fuse ≠ 0 := by rw [HZ2.out.1]; decide
        have hq2 := HL2.out.flush_eq HDB.out hf2 HZ2.out.2.1
        have HE2 := hid hq2.1
        obtain ⟨a3, ha3⟩ : ∃ a3, a3 = a2.flush (d : Int) := ⟨_, rfl⟩
        have HA3 := hid ha3
        have HL3 : Hid (Laid a3 (rowput F (L.set (d * 8 + s) y.b) d) (L.set (d * 8 + s) y.b)) := hid (by rw [ha3]; exact HL2.out.flush HDB.out hf2 HZ2.out.2.1)
        have hq3 := hq2.2
        rw [← ha3] at hq3
        have HZ3 : Hid (Lz a3 xs (m + 1)) := hid (by
          have h1 := HZ2.out.2.2.1
          rw [hq3]
          refine ⟨by show fuseS a2.fuse = -1; rw [HZ2.out.1]; rfl, rfl, ⟨by show 0 ≤ a2.steps + 1; omega, by show a2.steps + 1 ≤ _; omega⟩, Nat.le_trans (List.length_filter_le _ _) HZ2.out.2.2.2.1, fun v hv => HZ2.out.2.2.2.2 v (List.mem_filter.1 hv).1⟩)
        have HROW := hid (bytesV_row HL2.out.fl HL2.out.ll HDB.out)
        have HRL : Hid ((bytesV (((L.set (d * 8 + s) y.b).drop (d * 8)).take 8)).length = 8) := hid (by rw [length_bytesV, List.length_take, List.length_drop, HL2.out.ll]; omega)
        have HRT : Hid (((bytesV (L.set (d * 8 + s) y.b)).drop (d * 8)).take (bytesV (((L.set (d * 8 + s) y.b).drop (d * 8)).take 8)).length = bytesV (((L.set (d * 8 + s) y.b).drop (d * 8)).take 8)) := hid (by rw [HRL.out]; unfold bytesV; rw [List.map_take, List.map_drop])
        have HRF : Hid (d * 8 + 8 ≤ (bytesV F).length) := hid (by rw [length_bytesV, HL2.out.fl]; omega)
        clear hf2 hq2 hq3 ha3
        go_wp2_with (first | go_big_skip | go_big_guard | (refine wl_loadE rfl rfl rfl ?_; refine ⟨_, Loads.oldM hs5 HR3.out HB.out, ?_⟩) | (go_at_call 15; refine (flushM_any (arr_in (X := [_, _, _, _]) hs5) HL2.out.ok (by have := HZ2.out.2.2.1; omega) (by have := HZ2.out.2.2.2.1; omega) (d : Int)).mono ?_; rw [HE2.out, ← HA3.out]; rintro _ w8 ⟨rfl, x3, h4⟩; have hs6 : St w M w8 (.blk g8 30 (bytesV (L.set (d * 8 + s) y.b)) :: .blk g7 30 (bytesV F) :: .blk g5 30 (List.replicate 16 (.int .u8 0)) :: .blk g4 30 (List.replicate 16 (.int .u8 0)) :: arP ga x3 a3) := arr_out (X := [_, _, _, _]) hs5 h4; clear h4 hs5) | (refine wl_loadE rfl rfl rfl ?_; refine ⟨_, Loads.atA (bytesV (((L.set (d * 8 + s) y.b).drop (d * 8)).take 8)) [] hs6 HRL.out HRT.out, ?_⟩) | (refine wl_store [_] hs6 rfl rfl rfl (v := .agg (List.toArray (bytesV (((L.set (d * 8 + s) y.b).drop (d * 8)).take 8)))) (n := 8) rfl (by simpa [Value.cells] using HRL.out) (by simpa [Value.cells] using ones_bytesV _) (by simpa [Value.cells, HRL.out] using HRF.out) ?_; (show ∀ w', St w M w' ([_] ++ .blk g7 30 (putAt (bytesV F) (d * 8) (Value.agg (List.toArray (bytesV (((L.set (d * 8 + s) y.b).drop (d * 8)).take 8)))).cells.toList) :: _) → _); (rw [show (Value.agg (List.toArray (bytesV (((L.set (d * 8 + s) y.b).drop (d * 8)).take 8)))).cells.toList = bytesV (((L.set (d * 8 + s) y.b).drop (d * 8)).take 8) from by simp [Value.cells], HROW.out]); intro w10 hs7; clear hs6))
        go_roundw
        case rel => exact ⟨m + 1, a3, x3, (rowput F (L.set (d * 8 + s) y.b) d), (L.set (d * 8 + s) y.b), by omega, rfl, HL3.out, HZ3.out, hs7⟩
        case measure => simp [intOf]; omega
    · obtain rfl : m = N := by omega
      have d2 : decide ((m : Int) < (m : Int)) = false := decide_eq_false (by omega)
      have HL := hid hL
      have HZ := hid hz
      have HLF : Hid ((bytesV F).length = 16) := hid (by rw [length_bytesV, hL.fl])
      have HLL : Hid ((bytesV L).length = 16) := hid (by rw [length_bytesV, hL.ll])
      clear hL hz
      go_wp2_with (first | go_big_skip | go_big_guard | fail)
      have hY := hs0.drew
      clear hs0
      refine wp_region_held_drew (S := (fun w' => (loadVarH 30 ⟨g7, 0, none⟩).run Try.prog w' = .ok (.agg (List.toArray (bytesV F))) w' ∧ (loadVarH 30 ⟨g8, 0, none⟩).run Try.prog w' = .ok (.agg (List.toArray (bytesV L))) w')) (by kernel_rfl) (by exact ⟨ldA (bytesV F) [_] hY (HLF.out) (by rw [List.drop_zero]; exact List.take_length), ldA (bytesV L) [] hY (HLL.out) (by rw [List.drop_zero]; exact List.take_length)⟩) (fun hHeld => ?_)
      refine wpAnyH_take (i := 0) (oi := ⟨some 68, _, _, _, _, _⟩) (v := ?_) rfl (by kernel_rfl) (by kernel_rfl) (by kernel_rfl) (fun _ _ _ h => h) (Or.inl ⟨by rfl, ?_⟩) (by assumption) ?_
      rotate_left
      · intro w hSw; (try dsimp only at hSw); go_simp; try with_reducible rfl
      (try simp only [Act.put, List.setIfInBounds_toArray, List.set_cons_zero, List.set_cons_succ])
      refine wpAnyH_take (i := 1) (oi := ⟨some 69, _, _, _, _, _⟩) (v := ?_) rfl (by kernel_rfl) (by kernel_rfl) (by kernel_rfl) (fun _ _ _ h => h) (Or.inl ⟨by rfl, ?_⟩) (by assumption) ?_
      rotate_left
      · intro w hSw; (try dsimp only at hSw); go_simp; try with_reducible rfl
      (try simp only [Act.put, List.setIfInBounds_toArray, List.set_cons_zero, List.set_cons_succ])
      refine wpAnyH_ready (rs := [2]) (by kernel_rfl) (by simp) ?_
      refine (AllReadyH.cons (o := ⟨none, _, _, _, _, _⟩) rfl (fun K hK => ?_) AllReadyH.nil)
      rw [if_pos (by rfl)]
      refine ow_of_wl (ops := #[]) (by rfl) ?_
      refine wl_storeA [_, _, _] hY rfl rfl rfl rfl HLF.out (ones_bytesV _) rfl ?_
      intro w7 hA1
      refine q0_nil ?_
      refine hK.out _ _ ?_ (fun hHeld => ?_)
      · exact ⟨ldA (bytesV F) [_] hA1 (HLF.out) (by rw [List.drop_zero]; exact List.take_length), ldA (bytesV L) [] hA1 (HLL.out) (by rw [List.drop_zero]; exact List.take_length)⟩
      clear hK K
      (try simp only [Act.put, List.setIfInBounds_toArray, List.set_cons_zero, List.set_cons_succ])
      refine wpAnyH_ready (rs := [3]) (by kernel_rfl) (by simp) ?_
      refine (AllReadyH.cons (o := ⟨none, _, _, _, _, _⟩) rfl (fun K hK => ?_) AllReadyH.nil)
      rw [if_pos (by rfl)]
      refine ow_of_wl (ops := #[]) (by rfl) ?_
      refine wl_storeA [_, _] hA1 rfl rfl rfl rfl HLL.out (ones_bytesV _) rfl ?_
      intro w8 hA2
      refine q0_nil ?_
      refine hK.out _ _ ?_ (fun hHeld => ?_)
      · exact ⟨ldA (bytesV F) [_] hA2 (HLF.out) (by rw [List.drop_zero]; exact List.take_length), ldA (bytesV L) [] hA2 (HLL.out) (by rw [List.drop_zero]; exact List.take_length)⟩
      clear hK K
      (try simp only [Act.put, List.setIfInBounds_toArray, List.set_cons_zero, List.set_cons_succ])
      refine wpAnyH_take (i := 4) (oi := ⟨some 6, _, _, _, _, _⟩) (v := ?_) rfl (by kernel_rfl) (by kernel_rfl) (by kernel_rfl) (fun _ _ _ h => h) (Or.inl ⟨by rfl, ?_⟩) (by assumption) ?_
      rotate_left
      · intro w hSw; (try dsimp only at hSw); go_simp; try with_reducible rfl
      (try simp only [Act.put, List.setIfInBounds_toArray, List.set_cons_zero, List.set_cons_succ])
      refine wpAnyH_done (by kernel_rfl) ?_ _
      clear hHeld
      go_wp2_with (first | go_big_skip | go_big_guard | fail)
      have hl1 := Loads.atA (P := Try.prog) (off := 0) (T := 30) (bytesV F) [_, _, _] hA2 HLF.out (by rw [List.drop_zero]; exact List.take_length)
      have hl2 := Loads.atA (P := Try.prog) (off := 0) (T := 30) (bytesV L) [_, _] hA2 HLL.out (by rw [List.drop_zero]; exact List.take_length)
      refine bodyPost_ret (results_cct rfl rfl rfl hl1 hl2) rfl ?_
      exact ⟨x, a, F, L, rfl, HL.out, HZ.out, St.sub hA2 (.cons _ (.cons _ (.cons _ (.cons _ (List.Sublist.refl _)))))⟩
end
end Go.Proofs.Ytclleohpmgihaaa
namespace Go.Proofs.Ytclleohpmgihaaa
set_option linter.unusedVariables false
set_option linter.unusedSimpArgs false
open Go.RowKit Hp
set_option maxRecDepth 100000
/-- The device 1 is as it was. -/
structure Same1 (a b : AR) : Prop where
  len : b.devs.length = a.devs.length
  dev : b.dv ((1 : Nat) : Int) = a.dv ((1 : Nat) : Int)
  loo : (b.loose.filter fun w => w.dev == 1) = a.loose.filter fun w => w.dev == 1
  fu : b.fuse = a.fuse
  ou : b.out = a.out
  st : a.steps ≤ b.steps ∧ b.steps ≤ a.steps + 1
  ll : b.loose.length ≤ a.loose.length + 1
theorem Same1.refl (a : AR) : Same1 a a := ⟨rfl, rfl, rfl, rfl, rfl, ⟨Int.le_refl _, by omega⟩, Nat.le_succ _⟩
theorem dv1_upd (a : AR) (f : DV → DV) : (a.upd 0 f).dv ((1 : Nat) : Int) = a.dv ((1 : Nat) : Int) := by
  unfold AR.dv AR.upd
  simp only [Int.toNat_natCast, List.getD_eq_getElem?_getD, modify_get]
  rw [if_neg (by decide)]
theorem Same1.upd (a : AR) (f : DV → DV) : Same1 a (a.upd 0 f) := ⟨upd_len _ _ _, dv1_upd a f, rfl, rfl, rfl, ⟨Int.le_refl _, by show a.steps ≤ _; omega⟩, Nat.le_succ _⟩
theorem filter_10 (l : List LW) : ((l.filter fun w => w.dev != 0).filter fun w => w.dev == 1) = l.filter fun w => w.dev == 1 := by
  rw [List.filter_filter]
  apply List.filter_congr
  intro w _
  by_cases hq : w.dev = 1
  · simp [hq]
  · simp [hq]
theorem Same1.rest (a : AR) : Same1 a (a.rest 0) := ⟨rfl, rfl, filter_10 _, rfl, rfl, ⟨Int.le_refl _, by show a.steps ≤ _; omega⟩, Nat.le_trans (List.length_filter_le _ _) (Nat.le_succ _)⟩
theorem Same1.restupd (a : AR) (f : DV → DV) : Same1 a ((a.upd 0 f).rest 0) := ⟨upd_len _ _ _, dv1_upd a f, filter_10 _, rfl, rfl, ⟨Int.le_refl _, by show a.steps ≤ _; omega⟩, Nat.le_trans (List.length_filter_le _ _) (Nat.le_succ _)⟩
theorem Same1.updrest (a : AR) (f : DV → DV) : Same1 a ((a.rest 0).upd 0 f) := ⟨upd_len _ _ _, dv1_upd (a.rest 0) f, filter_10 _, rfl, rfl, ⟨Int.le_refl _, by show a.steps ≤ _; omega⟩, Nat.le_trans (List.length_filter_le _ _) (Nat.le_succ _)⟩
theorem Same1.fell (a : AR) (rs : List Int) (f : DV → DV) : Same1 a (a.fell 0 rs f) := by
  unfold AR.fell
  split
  · exact Same1.upd a f
  · exact Same1.refl a
theorem Same1.read (a : AR) (pl : Int) : Same1 a (a.read 0 pl) := by
  unfold AR.read
  split
  · exact Same1.upd a _
  · exact Same1.refl a
theorem Same1.spoil (a : AR) (pl place : Int) (m : UInt8) : Same1 a (a.spoil 0 pl place m) := by
  unfold AR.spoil
  split
  · exact Same1.upd a _
  · exact Same1.refl a
theorem Same1.pull (a : AR) : Same1 a (a.pull 0) := by
  unfold AR.pull
  split
  · exact Same1.restupd a _
  · exact Same1.refl a
theorem Same1.fit (a : AR) (g : Nat) : Same1 a (a.fit 0 g) := by
  unfold AR.fit
  split
  · exact Same1.updrest a _
  · exact Same1.refl a
theorem step_live {a : AR} (hf : a.fuse = -1) : a.step = ⟨a.devs, a.loose, -1, a.out, a.steps + 1⟩ := by
  unfold AR.step
  rw [if_neg (by rw [hf]; decide), hf]
  rfl
theorem Same1.write {a : AR} (hf : a.fuse = -1) (pl : Int) (b : List UInt8) : Same1 a (a.write 0 pl b) := by
  unfold AR.write
  split
  · exact Same1.refl a
  · rw [if_neg (by rw [hf]; decide), step_live hf]
    unfold AR.lay
    split
    · exact ⟨upd_len _ _ _, dv1_upd a _, rfl, hf.symm, rfl, ⟨by show a.steps ≤ a.steps + 1; omega, Int.le_refl _⟩, Nat.le_succ _⟩
    · split
      · refine ⟨upd_len _ _ _, dv1_upd a _, ?_, hf.symm, rfl, ⟨by show a.steps ≤ a.steps + 1; omega, Int.le_refl _⟩, ?_⟩
        · show ((a.loose ++ [_]).filter _) = _
          rw [List.filter_append]
          simp
        · show (a.loose ++ [_]).length ≤ _
          rw [List.length_append]
          exact Nat.le_refl _
      · refine ⟨rfl, rfl, ?_, hf.symm, rfl, ⟨by show a.steps ≤ a.steps + 1; omega, Int.le_refl _⟩, ?_⟩
        · show ((a.loose ++ [_]).filter _) = _
          rw [List.filter_append]
          simp
        · show (a.loose ++ [_]).length ≤ _
          rw [List.length_append]
          exact Nat.le_refl _
theorem Same1.flush {a : AR} (hf : a.fuse = -1) : Same1 a (a.flush 0) := by
  unfold AR.flush
  split
  · exact Same1.refl a
  · rw [if_neg (by rw [hf]; decide), step_live hf]
    exact ⟨upd_len _ _ _, dv1_upd a _, filter_10 _, hf.symm, rfl, ⟨by show a.steps ≤ a.steps + 1; omega, Int.le_refl _⟩, Nat.le_trans (List.length_filter_le _ _) (Nat.le_succ _)⟩
/-- What is known of the device 1, so many acts behind the writes. -/
structure Ap (a : AR) (F L : List UInt8) (m : Nat) : Prop where
  ok : a.Ok
  len : a.devs.length = 2
  sec : a.secs = 8
  fl : F.length = 16
  ll : L.length = 16
  gone : (a.dv ((1 : Nat) : Int)).gone = false
  fail : (a.dv ((1 : Nat) : Int)).fail = 0
  fm : ∀ s : Nat, s < 8 → (a.dv ((1 : Nat) : Int)).firm.getD s [] = BB (F.getD (8 + s) 0)
  tl : ∀ s : Nat, s < 8 → a.tells ((1 : Nat) : Int) s = BB (L.getD (8 + s) 0)
  fu : a.fuse = -1
  ou : a.out = false
  st : 0 ≤ a.steps ∧ a.steps ≤ 120 + (m : Int)
  lo : a.loose.length ≤ 60 + m
theorem Ap.start {a : AR} {F L : List UInt8} {xs : List LY} {N : Nat} (h : Laid a F L) (z : Lz a xs N) (hN : N ≤ 60) : Ap a F L 0 :=
  ⟨h.ok, h.len, h.sec, h.fl, h.ll, (h.live 1 (by decide)).1, (h.live 1 (by decide)).2.2.2, fun s hs => h.fm 1 s (by decide) hs, fun s hs => h.tl 1 s (by decide) hs, z.fu, z.ou, ⟨z.st.1, by have := z.st.2; omega⟩, by have := z.ll; omega⟩
theorem Ap.in1 {a : AR} {F L : List UInt8} {m : Nat} (h : Ap a F L m) : a.inD ((1 : Nat) : Int) = true := by
  unfold AR.inD
  rw [h.len]
  decide
theorem Ap.next {a b : AR} {F L : List UInt8} {m : Nat} (h : Ap a F L m) (hs : Same1 a b) (ok : b.Ok) : Ap b F L (m + 1) := by
  have hlen : b.devs.length = 2 := hs.len.trans h.len
  have hin : b.inD ((1 : Nat) : Int) = true := by unfold AR.inD; rw [hlen]; decide
  have hst := h.st
  have hss := hs.st
  have hlo := h.lo
  have hll := hs.ll
  refine ⟨ok, hlen, ?_, h.fl, h.ll, by rw [hs.dev]; exact h.gone, by rw [hs.dev]; exact h.fail, fun s h8 => by rw [hs.dev]; exact h.fm s h8, fun s h8 => ?_, hs.fu.trans h.fu, hs.ou.trans h.ou, ⟨by omega, by omega⟩, by omega⟩
  · rw [← (ok.dv hin).1, hs.dev, (h.ok.dv h.in1).1, h.sec]
  · rw [← h.tl s h8]
    unfold AR.tells
    rw [hs.dev, foldP_filter, foldP_filter ((1 : Nat) : Int).toNat _ a.loose]
    exact congrArg (List.foldl _ _) hs.loo
theorem Ap.in0 {a : AR} {F L : List UInt8} {m : Nat} (h : Ap a F L m) : a.inD 0 = true := by
  unfold AR.inD
  rw [h.len]
  decide
theorem Ap.reads {a : AR} {F L : List UInt8} {m : Nat} (h : Ap a F L m) {s : Nat} (hs : s < 8) : (a.readE 1 s == 0 && a.readB 1 s == BB (L.getD (8 + s) 0)) = true ∧ a.read 1 s = a := by
  have hS : a.inS 1 s = true := by
    unfold AR.inS
    rw [show a.inD 1 = true from h.in1, h.sec, Bool.true_and]
    simp only [Bool.and_eq_true, decide_eq_true_eq]
    omega
  have hE : a.readE 1 s = 0 := by
    unfold AR.readE
    rw [if_neg h.ok.d0, h.ou, if_neg (by decide), hS, if_neg (by decide), show (a.dv 1).gone = false from h.gone, if_neg (by decide), show (a.dv 1).fail = 0 from h.fail, if_neg (by decide)]
  constructor
  · unfold AR.readB
    rw [hE, if_pos rfl, show a.tells 1 s = _ from h.tl s hs, beq_self_eq_true, beq_self_eq_true]
    rfl
  · unfold AR.read
    rw [hE]
    rfl
theorem Ap.pullE {a : AR} {F L : List UInt8} {m : Nat} (h : Ap a F L m) : a.pullE 0 = 0 ∨ (a.pullE 0 ≠ 0 ∧ (a.pull 0).up 0 = false) := by
  unfold AR.pullE AR.fellE AR.pull AR.fellE
  rw [h.in0]
  cases hg : (a.dv 0).gone
  · exact .inl rfl
  · right
    refine ⟨by decide, ?_⟩
    rw [if_neg (by decide)]
    unfold AR.up
    rw [hg]
    simp
/-- Behind a crash of which nothing stays. -/
theorem crash_none {a : AR} {F L : List UInt8} {m : Nat} (h : Ap a F L m) : ∀ j, (crashN a [] 0 j).1.devs.length = 2 ∧ ((crashN a [] 0 j).1.dv ((1 : Nat) : Int)).gone = false ∧ ∀ s : Nat, s < 8 → ((crashN a [] 0 j).1.dv ((1 : Nat) : Int)).firm.getD s [] = BB (F.getD (8 + s) 0)
  | 0 => ⟨h.len, h.gone, h.fm⟩
  | j + 1 => by
    obtain ⟨h1, h2, h3⟩ := crash_none h j
    cases hv : a.loose[j]? with
    | none =>
      have : crashN a [] 0 (j + 1) = crashN a [] 0 j := by
        show (match a.loose[j]? with | none => _ | some w => _) = _
        rw [hv]
      rw [this]
      exact ⟨h1, h2, h3⟩
    | some v =>
      rw [crashN_succ hv]
      have hlw := (h.ok.lw v (List.mem_of_getElem? hv)).1
      rw [h.len] at hlw
      unfold crashF
      rw [if_neg (by simp)]
      split
      · refine ⟨(upd_len _ _ _).trans h1, ?_, fun s hs => ?_⟩
        · show (((crashN a [] 0 j).1.upd (v.dev : Int) (tornF v.pl v.b 0)).dv ((1 : Nat) : Int)).gone = false
          rw [dv_modify (by omega)]
          split
          · subst_vars
            rename_i he
            rw [he]
            exact h2
          · exact h2
        · show (((crashN a [] 0 j).1.upd (v.dev : Int) (tornF v.pl v.b 0)).dv ((1 : Nat) : Int)).firm.getD s [] = _
          rw [dv_modify (by omega)]
          split
          · rename_i he
            rw [he]
            show (List.set _ _ _).getD s [] = _
            rw [List.getD_eq_getElem?_getD, List.getElem?_set]
            have h9 := h3 s hs
            split
            · rename_i hp
              rw [hp]
              split
              · rw [List.take_zero, List.nil_append, List.drop_zero]
                exact h9
              · rename_i hq
                rw [List.getD_eq_getElem?_getD, List.getElem?_eq_none (by omega)] at h9
                exact h9
            · rw [← List.getD_eq_getElem?_getD]
              exact h9
          · exact h3 s hs
      · exact ⟨h1, h2, h3⟩
theorem Ap.crash {a : AR} {F L : List UInt8} {m : Nat} (h : Ap a F L m) : a.crashE 0 = 0 ∧ (a.crash [] 0).loose = [] ∧ ∀ s : Nat, s < 8 → ((a.crash [] 0).readE 1 s == 0 && (a.crash [] 0).readB 1 s == BB (F.getD (8 + s) 0)) = true ∧ (a.crash [] 0).read 1 s = a.crash [] 0 := by
  have hE : a.crashE 0 = 0 := by
    unfold AR.crashE
    rw [if_neg h.ok.d0]
    rfl
  have ok := h.ok.crash [] 0
  have hc : a.crash [] 0 = a.crashed [] 0 := by
    unfold AR.crash
    rw [if_pos hE]
    rfl
  refine ⟨hE, by rw [hc]; rfl, fun s hs => ?_⟩
  rw [hc] at ok ⊢
  obtain ⟨h1, h2, h3⟩ := crash_none h a.loose.length
  have hdv : (a.crashed [] 0).dv 1 = clean ((crashN a [] 0 a.loose.length).1.dv ((1 : Nat) : Int)) := by
    unfold AR.crashed
    exact (dv_clean (e := 1) (by omega)).trans rfl
  have hin : (a.crashed [] 0).inD 1 = true := by
    unfold AR.inD AR.crashed
    rw [List.length_map, h1]
    decide
  have hsec : (a.crashed [] 0).secs = 8 := by
    have hg := crashN_good h.ok [] (t := 0) (by decide) a.loose.length
    have hin1 : (crashN a [] 0 a.loose.length).1.inD ((1 : Nat) : Int) = true := by rw [hg.inD]; exact h.in1
    have := (ok.dv hin).1
    rw [← this, hdv]
    show ((crashN a [] 0 a.loose.length).1.dv ((1 : Nat) : Int)).firm.length = 8
    rw [(hg.fm _ (List.mem_of_getElem? (devs_get hin1))).1, h.sec]
  have hS : (a.crashed [] 0).inS 1 s = true := by
    unfold AR.inS
    rw [hin, hsec, Bool.true_and]
    simp only [Bool.and_eq_true, decide_eq_true_eq]
    omega
  have hR : (a.crashed [] 0).readE 1 s = 0 := by
    unfold AR.readE
    rw [if_neg ok.d0, show (a.crashed [] 0).out = false from rfl, if_neg (by decide), hS, if_neg (by decide), hdv, show (clean ((crashN a [] 0 a.loose.length).1.dv ((1 : Nat) : Int))).gone = false from h2, if_neg (by decide), show (clean ((crashN a [] 0 a.loose.length).1.dv ((1 : Nat) : Int))).fail = 0 from rfl, if_neg (by decide)]
  constructor
  · have ht : (a.crashed [] 0).tells 1 s = BB (F.getD (8 + s) 0) := by
      show ((a.crashed [] 0).dv 1).firm.getD s [] = _
      rw [hdv]
      exact h3 s hs
    unfold AR.readB
    rw [hR, if_pos rfl, ht, beq_self_eq_true, beq_self_eq_true]
    rfl
  · unfold AR.read
    rw [hR]
    rfl
end Go.Proofs.Ytclleohpmgihaaa
