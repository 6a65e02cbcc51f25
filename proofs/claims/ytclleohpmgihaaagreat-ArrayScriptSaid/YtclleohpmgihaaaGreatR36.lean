/- Spoil. -/
import Derived.Test.YtclleohpmgihaaaGreatR35
namespace Go.Proofs.YtclleohpmgihaaaGreat
set_option linter.unusedVariables false
set_option linter.unusedSimpArgs false
open Go.RowKit Hp
attribute [local irreducible] Go.Calls Go.wpList
set_option maxRecDepth 100000
set_option maxHeartbeats 4000000
/-- A byte as the walk meets it. -/
def u8I (b : UInt8) : Int := (b.toNat : Int)
theorem ofInt8 (x : UInt8) : BitVec.ofInt 8 (x.toNat : Int) = x.toBitVec := by
  rw [BitVec.ofInt_natCast]
  exact BitVec.ofNat_toNat (n := 8) 8 x.toBitVec ▸ (by rw [BitVec.setWidth_eq])
theorem xor8 (T : TypeId) (x y : UInt8) : binOp .xor T (.int .u8 (u8I x)) (.int .u8 (u8I y)) = pure (.int .u8 (u8I (x ^^^ y))) := by
  show pure (Value.int .u8 (IntKind.u8.wrap ((BitVec.ofInt 8 (x.toNat : Int) ^^^ BitVec.ofInt 8 (y.toNat : Int)).toNat : Int))) = _
  rw [ofInt8, ofInt8]
  have h : (x.toBitVec ^^^ y.toBitVec).toNat = (x ^^^ y).toNat := rfl
  have hl : (x ^^^ y).toNat < 256 := (x ^^^ y).toNat_lt
  rw [h]
  have h9 : IntKind.u8.wrap (((x ^^^ y).toNat : Nat) : Int) = ((x ^^^ y).toNat : Int) := by
    show (((x ^^^ y).toNat : Nat) : Int) % 256 = _
    omega
  rw [h9]
  rfl
theorem xor8r (T : TypeId) (x y : UInt8) (w : World) : (binOp .xor T (.int .u8 (u8I x)) (.int .u8 (u8I y))).run Tryz.prog w = .ok (.int .u8 (u8I (x ^^^ y))) w := by rw [xor8]; rfl
/-- A byte of a sector, turned. -/
def fSpoil (p q : Nat) (m : UInt8) : DV → DV := fun d => { d with firm := d.firm.set p ((d.firm.getD p []).set q ((d.firm.getD p []).getD q 0 ^^^ m)) }
def AR.spoilL (a : AR) (dev pl place : Int) : List Int := [orE (a.inS dev pl) 5, orE (decide (0 ≤ place) && decide (place < 256)) 5]
def AR.spoilE (a : AR) (dev pl place : Int) : Int := a.fellE dev (a.spoilL dev pl place)
def AR.spoil (a : AR) (dev pl place : Int) (m : UInt8) : AR := if a.spoilE dev pl place = 0 then a.upd dev (fSpoil pl.toNat place.toNat m) else a
theorem fSpoil_fine {s : Nat} {d : DV} (h : d.Fine s) {p q : Nat} (m : UInt8) (hp : p < s) : (fSpoil p q m d).Fine s := by
  refine ⟨by unfold fSpoil; simp [h.1], fun t ht => ?_, h.2.2.1, h.2.2.2⟩
  unfold fSpoil at ht
  rcases List.mem_or_eq_of_mem_set ht with h1 | rfl
  · exact h.2.1 t h1
  · rw [List.length_set, List.getD_eq_getElem?_getD, List.getElem?_eq_getElem (by rw [h.1]; exact hp)]
    exact h.2.1 _ (List.getElem_mem _)
theorem AR.Ok.spoil {a : AR} (ok : a.Ok) (dev pl place : Int) (m : UInt8) : (a.spoil dev pl place m).Ok := by
  unfold AR.spoil
  split
  · rename_i h
    have hs : a.inS dev pl = true := fellE_in (by decide) (.head _) h
    have hp := inS_pl hs
    exact ok.upd (f := fSpoil pl.toNat place.toNat m) (inS_inD hs) (fSpoil_fine (ok.dv (inS_inD hs)) m (by omega))
  · exact ok
theorem putAt_one (l : List Value) (i : Nat) (v : Value) (hi : i < l.length) : putAt l i [v] = l.set i v := by
  rw [List.set_eq_take_append_cons_drop, if_pos hi]
  rfl
theorem secs_get {l : List (List UInt8)} {p q : Nat} (hl : ∀ s ∈ l, s.length = 256) (hp : p < l.length) (hq : q < 256) : (secsV l)[p * 256 + q]? = some (.int .u8 (u8I ((l.getD p []).getD q 0))) := by
  have h := flat_at (f := bytesV) (sz := 256) (fun d hd => by rw [length_bytesV]; exact hl d hd) (List.getElem?_eq_getElem hp)
  have h1 : ((secsV l).drop (p * 256))[q]? = (bytesV l[p])[q]? := by
    have h2 : (((l.flatMap bytesV).drop (p * 256)).take 256)[q]? = (bytesV l[p])[q]? := by rw [h]
    rw [List.getElem?_take, if_pos hq] at h2
    exact h2
  have hs : l[p].length = 256 := hl _ (List.getElem_mem hp)
  rw [List.getElem?_drop] at h1
  rw [h1, List.getD_eq_getElem?_getD (l := l), List.getElem?_eq_getElem hp]
  show (l[p].map _)[q]? = some (Value.int .u8 (u8I (l[p].getD q 0)))
  rw [List.getElem?_map, List.getD_eq_getElem?_getD, List.getElem?_eq_getElem (by omega)]
  rfl
theorem secs_putq {l : List (List UInt8)} {p q : Nat} (b : UInt8) (hl : ∀ s ∈ l, s.length = 256) (hp : p < l.length) (hq : q < 256) : putAt (secsV l) (p * 256 + q) [.int .u8 (u8I b)] = secsV (l.set p ((l.getD p []).set q b)) := by
  have hlen := secsV_len hl
  have hb : p * 256 + q < (secsV l).length := by
    rw [hlen]
    have : (p + 1) * 256 ≤ l.length * 256 := Nat.mul_le_mul_right _ hp
    omega
  rw [putAt_one _ _ _ hb]
  clear hb hlen
  induction l generalizing p with
  | nil => simp at hp
  | cons s l ih =>
    have hs : (bytesV s).length = 256 := by rw [length_bytesV]; exact hl s (.head _)
    unfold secsV at ih ⊢
    cases p with
    | zero =>
      rw [List.set_cons_zero, List.flatMap_cons, List.flatMap_cons, Nat.zero_mul, Nat.zero_add, List.set_append_left _ _ (by omega)]
      congr 1
      show (s.map _).set q _ = (s.set q b).map _
      rw [List.map_set]
      rfl
    | succ p =>
      have := ih (p := p) (fun s hs => hl s (.tail _ hs)) (by simpa using hp)
      rw [List.set_cons_succ, List.flatMap_cons, List.flatMap_cons, List.getD_cons_succ, ← this, show (p + 1) * 256 + q = 256 + (p * 256 + q) by omega, List.set_append_right _ _ (by omega), hs, show 256 + (p * 256 + q) - 256 = p * 256 + q by omega]
section
theorem loadedU8 (A : Addr) : loadVar 5 A = loadVarH 5 A := rfl
attribute [local go_sem ↓] loadedSS loadedIn loadedU8
attribute [local go_sem 5000] xor8 xor8r
theorem spoil2_any {w : World} {ga : Nat} {x : GA} {a : AR} {k p q gA gB gC : Nat} {m : UInt8} (hS : St w (arF ga x a) w (arP ga x a)) (ok : a.Ok) (hs : a.inS (k : Int) (p : Int) = true) (hq : q < 256)
    (hA : w.cell? ⟨gA, 0, none⟩ = some (.int .i64 (p : Int))) (hA2 : gA ∉ arF ga x a) (hB : w.cell? ⟨gB, 0, none⟩ = some (.int .i64 (q : Int))) (hB2 : gB ∉ arF ga x a) (hC : w.cell? ⟨gC, 0, none⟩ = some (.int .u8 (u8I m))) (hC2 : gC ∉ arF ga x a) :
    Calls Tryz.prog 71 #[.pointer (some ⟨x.gd, k * 5, none⟩), ptrV gA, ptrV gB, ptrV gC] w fun e w' => e = .returned (.tuple #[]) ∧ ∃ x', St w (arF ga x a) w' (arP ga x' (a.upd (k : Int) (fSpoil p q m))) := by
  have hin := inS_inD hs
  have hf := ok.dv hin
  have hp : p < (a.dv (k : Int)).firm.length := by have := inS_pl hs; rw [hf.1]; omega
  obtain ⟨D, hD⟩ : ∃ D, D = a.dv (k : Int) := ⟨_, rfl⟩
  rw [← hD] at hf hp
  obtain ⟨FS1, hFS1⟩ : ∃ FS1, FS1 = (a.devs.take k).map blkD := ⟨_, rfl⟩
  obtain ⟨FS2, hFS2⟩ : ∃ FS2, FS2 = (a.devs.drop (k + 1)).map blkD := ⟨_, rfl⟩
  have HFS : Hid (a.devs.map (fun d => HA.blk d.g 84 (secsV d.firm)) = FS1 ++ .blk D.g 84 (secsV D.firm) :: FS2) := hid (by rw [hFS1, hFS2, hD]; exact devs_split0 hin)
  have HG := hid (secs_get hf.2.1 hp hq)
  have HPUT := hid (secs_putq ((D.firm.getD p []).getD q 0 ^^^ m) hf.2.1 hp hq)
  have HFIT : Hid (p * 256 + q + 1 ≤ (secsV D.firm).length) := hid (by
    rw [secsV_len hf.2.1]
    have : (p + 1) * 256 ≤ D.firm.length * 256 := Nat.mul_le_mul_right _ hp
    omega)
  have HDC : Hid ((devC a ++ x.rest)[k * 5 + 0]? = some (.slice (some ⟨D.g, 0, none⟩) D.firm.length D.firm.length)) := hid (by rw [hD]; exact devC_get (rest := x.rest) hin (i := 0) rfl (by decide))
  have HFIN : Hid (arP ga x (a.upd (k : Int) (fSpoil p q m)) = .blk ga 49 (arrC x a) :: .blk x.gd 53 (devC a ++ x.rest) :: .row x.lv 86 258 a.loose.length (looC a) :: (FS1 ++ .blk D.g 84 (secsV (fSpoil p q m D).firm) :: FS2)) := hid (by
    have h1 := devs_split hin (fSpoil p q m)
    have h2 := devC_firm (a := a) (k : Int) (f := fSpoil p q m) (fun d => by unfold DV.cells fSpoil; rw [List.length_set]; rfl)
    rw [hFS1, hFS2, hD]
    unfold arP arrC
    rw [h2, upd_len]
    rw [show (a.upd (k : Int) (fSpoil p q m)).devs.map (fun d => HA.blk d.g 84 (secsV d.firm)) = _ from h1]
    rfl)
  have hst0 : St w (arF ga x a) w (.blk ga 49 (arrC x a) :: .blk x.gd 53 (devC a ++ x.rest) :: .row x.lv 86 258 a.loose.length (looC a) :: (FS1 ++ .blk D.g 84 (secsV D.firm) :: FS2)) := by rw [← HFS.out]; exact hS
  obtain ⟨V, hV⟩ : ∃ V : UInt8, V = (D.firm.getD p []).getD q 0 := ⟨_, rfl⟩
  have HV := hid hV
  rw [← hV] at HG HPUT
  have HA := hid hA
  have HA2 := hid hA2
  have HB := hid hB
  have HB2 := hid hB2
  have HC := hid hC
  have HC2 := hid hC2
  clear hs hin hf hD hFS1 hFS2 hV hA hA2 hB hB2 hC hC2 ok hS
  unfold ptrV
  go_enter Tryz.func71, Tryz.ntmps71
  have hq2 : (q : Int) < 256 := by omega
  have hX := hst0.drew
  clear hst0
  refine wp_region_held_drew (S := (fun w' => (loadVarH 50 ⟨x.gd, k * 5, none⟩).run Tryz.prog w' = .ok (.slice (some ⟨D.g, 0, none⟩) D.firm.length D.firm.length) w' ∧ (loadVarH 3 ⟨gA, 0, none⟩).run Tryz.prog w' = .ok (.int .i64 (p : Int)) w' ∧ (loadVarH 3 ⟨gB, 0, none⟩).run Tryz.prog w' = .ok (.int .i64 (q : Int)) w' ∧ (loadVarH 5 ⟨gC, 0, none⟩).run Tryz.prog w' = .ok (.int .u8 (u8I m)) w')) (by kernel_rfl) (by exact ⟨ldS [_] hX HDC.out, ldOMx hX HA.out HA2.out, ldOMx hX HB.out HB2.out, ldOMx hX HC.out HC2.out⟩) (fun hHeld => ?_)
  refine wpAnyH_take (i := 0) (oi := ⟨some 5, _, _, _, _, _⟩) (v := ?_) rfl (by kernel_rfl) (by kernel_rfl) (by kernel_rfl) (fun _ _ _ h => h) (Or.inl ⟨by rfl, ?_⟩) (by assumption) ?_
  rotate_left
  · intro w hSw; (try dsimp only at hSw); go_simp; try with_reducible rfl
  (try simp only [Act.put, List.setIfInBounds_toArray, List.set_cons_zero, List.set_cons_succ])
  refine wpAnyH_take (i := 4) (oi := ⟨some 9, _, _, _, _, _⟩) (v := ?_) rfl (by kernel_rfl) (by kernel_rfl) (by kernel_rfl) (fun _ _ _ h => h) (Or.inl ⟨by rfl, ?_⟩) (by assumption) ?_
  rotate_left
  · intro w hSw; (try dsimp only at hSw); go_simp; try with_reducible rfl
  (try simp only [Act.put, List.setIfInBounds_toArray, List.set_cons_zero, List.set_cons_succ])
  refine wpAnyH_take (i := 5) (oi := ⟨some 10, _, _, _, _, _⟩) (v := ?_) rfl (by kernel_rfl) (by kernel_rfl) (by kernel_rfl) (fun _ _ _ h => h) (Or.inl ⟨by rfl, ?_⟩) (by assumption) ?_
  rotate_left
  · intro w hSw; (try dsimp only at hSw); go_simp; try with_reducible rfl
  (try simp only [Act.put, List.setIfInBounds_toArray, List.set_cons_zero, List.set_cons_succ])
  refine wpAnyH_take (i := 9) (oi := ⟨some 14, _, _, _, _, _⟩) (v := ?_) rfl (by kernel_rfl) (by kernel_rfl) (by kernel_rfl) (fun _ _ _ h => h) (Or.inl ⟨by rfl, ?_⟩) (by assumption) ?_
  rotate_left
  · intro w hSw; (try dsimp only at hSw); go_simp; try with_reducible rfl
  (try simp only [Act.put, List.setIfInBounds_toArray, List.set_cons_zero, List.set_cons_succ])
  refine wpAnyH_take (i := 1) (oi := ⟨some 6, _, _, _, _, _⟩) (v := ?_) rfl (by kernel_rfl) (by kernel_rfl) (by kernel_rfl) (fun _ _ _ h => h) (Or.inl ⟨by rfl, ?_⟩) (by assumption) ?_
  rotate_left
  · intro w hSw; (try dsimp only at hSw); go_simp; try with_reducible rfl
  (try simp only [Act.put, List.setIfInBounds_toArray, List.set_cons_zero, List.set_cons_succ])
  refine wpAnyH_take (i := 2) (oi := ⟨some 7, _, _, _, _, _⟩) (v := ?_) rfl (by kernel_rfl) (by kernel_rfl) (by kernel_rfl) (fun _ _ _ h => h) (Or.inl ⟨by rfl, ?_⟩) (by assumption) ?_
  rotate_left
  · intro w hSw; (try dsimp only at hSw); go_simp; try with_reducible rfl
  (try simp only [Act.put, List.setIfInBounds_toArray, List.set_cons_zero, List.set_cons_succ])
  refine wpAnyH_take (i := 3) (oi := ⟨some 8, _, _, _, _, _⟩) (v := ?_) rfl (by kernel_rfl) (by kernel_rfl) (by kernel_rfl) (fun _ _ _ h => h) (Or.inl ⟨by rfl, ?_⟩) (by assumption) ?_
  rotate_left
  · intro w hSw; (try dsimp only at hSw); go_simp; try with_reducible rfl
  (try simp only [Act.put, List.setIfInBounds_toArray, List.set_cons_zero, List.set_cons_succ])
  refine wpAnyH_take (i := 6) (oi := ⟨some 11, _, _, _, _, _⟩) (v := ?_) rfl (by kernel_rfl) (by kernel_rfl) (by kernel_rfl) (fun _ _ _ h => h) (Or.inl ⟨by rfl, ?_⟩) (by assumption) ?_
  rotate_left
  · intro w hSw; (try dsimp only at hSw); go_simp; try with_reducible rfl
  (try simp only [Act.put, List.setIfInBounds_toArray, List.set_cons_zero, List.set_cons_succ])
  refine wpAnyH_take (i := 11) (oi := ⟨some 16, _, _, _, _, _⟩) (v := ?_) rfl (by kernel_rfl) (by kernel_rfl) (by kernel_rfl) (fun _ _ _ h => h) (Or.inl ⟨by rfl, ?_⟩) (by assumption) ?_
  rotate_left
  · intro w hSw; (try dsimp only at hSw); go_simp; try with_reducible rfl
  (try simp only [Act.put, List.setIfInBounds_toArray, List.set_cons_zero, List.set_cons_succ])
  refine wpAnyH_take (i := 7) (oi := ⟨some 12, _, _, _, _, _⟩) (v := ?_) rfl (by kernel_rfl) (by kernel_rfl) (by kernel_rfl) (fun _ _ _ h => h) (Or.inl ⟨by rfl, ?_⟩) (by assumption) ?_
  rotate_left
  · intro w hSw; (try dsimp only at hSw); go_simp; try with_reducible rfl
  (try simp only [Act.put, List.setIfInBounds_toArray, List.set_cons_zero, List.set_cons_succ])
  refine wpAnyH_ready (rs := [8]) (by kernel_rfl) (by simp) ?_
  refine (AllReadyH.cons (o := ⟨some 13, _, _, _, _, _⟩) rfl (fun K hK => ?_) AllReadyH.nil)
  rw [if_pos (by rfl)]
  refine ow_of_wl (ops := #[]) (by rfl) ?_
  refine wl_loadE rfl rfl rfl ?_
  refine ⟨_, Loads.cell (v := .int .u8 (u8I V)) TyS.out (St.cell hX (off := p * 256 + q) (.tail _ (.tail _ (.tail _ (List.mem_append_right _ (.head _))))) HG.out), ?_⟩
  refine q0_nil ?_
  refine hK.out _ _ ?_ (fun hHeld => ?_)
  · exact ⟨ldS [_] hX HDC.out, ldOMx hX HA.out HA2.out, ldOMx hX HB.out HB2.out, ldOMx hX HC.out HC2.out⟩
  clear hK K
  (try simp only [Act.put, List.setIfInBounds_toArray, List.set_cons_zero, List.set_cons_succ])
  refine wpAnyH_take (i := 10) (oi := ⟨some 15, _, _, _, _, _⟩) (v := ?_) rfl (by kernel_rfl) (by kernel_rfl) (by kernel_rfl) (fun _ _ _ h => h) (Or.inl ⟨by rfl, ?_⟩) (by assumption) ?_
  rotate_left
  · intro w hSw; (try dsimp only at hSw); go_simp; try with_reducible rfl
  (try simp only [Act.put, List.setIfInBounds_toArray, List.set_cons_zero, List.set_cons_succ])
  refine wpAnyH_take (i := 12) (oi := ⟨some 17, _, _, _, _, _⟩) (v := ?_) rfl (by kernel_rfl) (by kernel_rfl) (by kernel_rfl) (fun _ _ _ h => h) (Or.inl ⟨by rfl, ?_⟩) (by assumption) ?_
  rotate_left
  · intro w hSw; (try dsimp only at hSw); go_simp; try with_reducible rfl
  (try simp only [Act.put, List.setIfInBounds_toArray, List.set_cons_zero, List.set_cons_succ])
  refine wpAnyH_ready (rs := [13]) (by kernel_rfl) (by simp) ?_
  refine (AllReadyH.cons (o := ⟨none, _, _, _, _, _⟩) rfl (fun K hK => ?_) AllReadyH.nil)
  rw [if_pos (by rfl)]
  refine ow_of_wl (ops := #[]) (by rfl) ?_
  refine wl_store (_ :: _ :: _ :: FS1) hX rfl rfl rfl (v := .int _ _) rfl rfl rfl HFIT.out ?_
  intro w9 hA3
  refine q0_nil ?_
  refine hK.out _ _ ?_ (fun hHeld => ?_)
  · exact ⟨ldS [_] hA3 HDC.out, ldOMx hA3 HA.out HA2.out, ldOMx hA3 HB.out HB2.out, ldOMx hA3 HC.out HC2.out⟩
  clear hK K
  (try simp only [Act.put, List.setIfInBounds_toArray, List.set_cons_zero, List.set_cons_succ])
  refine wpAnyH_done (by kernel_rfl) ?_ _
  clear hHeld
  go_end0
  refine ⟨rfl, x, ?_⟩
  rw [HFIN.out]
  unfold fSpoil
  rw [← HV.out, ← HPUT.out]
  exact hA3
end
end Go.Proofs.YtclleohpmgihaaaGreat
