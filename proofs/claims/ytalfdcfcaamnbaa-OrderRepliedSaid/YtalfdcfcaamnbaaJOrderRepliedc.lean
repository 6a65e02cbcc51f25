import Derived.Test.YtalfdcfcaamnbaaJOrderReplieda
import Derived.Test.YtalfdcfcaamnbaaJOrderRepliedb
import Derived.Test.YtalfdcfcaamnbaaKB
import Derived.Test.YtalfdcfcaamnbaaF10
import Derived.Test.YtalfdcfcaamnbaaF28
namespace Go.Proofs.Ytalfdcfcaamnbaa
set_option linter.unusedVariables false
set_option linter.unusedSimpArgs false
open Go.RowKit Hp
attribute [local irreducible] Go.Calls Go.wpList
set_option maxRecDepth 100000
set_option maxHeartbeats 4000000
/-- How a reply's fields are read, one behind the other. -/
def getRF (B : List UInt8) : List (RS × RV → RS × RV) := [
  fun y => ((stepR y.1 (numRR B y.1.pos 2 0 999) 0).1, { y.2 with err := (stepR y.1 (numRR B y.1.pos 2 0 999) 0).2 }),
  fun y => ((listR (wideF B) B 2 2000 y.1).1, { y.2 with n := (listR (wideF B) B 2 2000 y.1).2 }),
  fun y => ((rawS B y.1).1, { y.2 with b := (rawS B y.1).2 })]
theorem rawR_pos' {B : List UInt8} {s : RS} (hp : s.pos ≤ B.length) : (rawS B s).1.pos ≤ B.length := raw_pos (num_pos hp)
theorem wideR_pos {B : List UInt8} (s : RS) (hp : s.pos ≤ B.length) : (wideF B s).1.pos ≤ B.length := num_pos hp
theorem listW_pos {B : List UInt8} {s : RS} (hp : s.pos ≤ B.length) : (listR (wideF B) B 2 2000 s).1.pos ≤ B.length := manyS_pos (num_pos hp) wideR_pos _
theorem getRF_pos (B : List UInt8) : ∀ f ∈ getRF B, ∀ y : RS × RV, y.1.pos ≤ B.length → (f y).1.pos ≤ B.length := by
  intro f hf y hy
  unfold getRF at hf
  simp only [List.mem_cons, List.not_mem_nil, or_false] at hf
  rcases hf with rfl | rfl | rfl
  · exact num_pos hy
  · exact listW_pos hy
  · exact rawR_pos' hy
def RV.none : RV := ⟨0, [], []⟩
/-- The reply that bytes are, its fault. -/
def getR (B : List UInt8) : RV × Int × Int :=
  let S := goAll ((⟨0, 0, 0⟩, RV.none) : RS × RV) (getRF B)
  let e := if (endR B S.1).1 = 0 then (if S.2.fine = true then 0 else 2) else (endR B S.1).1
  if e = 0 then (S.2, e, (endR B S.1).2) else (RV.none, e, (endR B S.1).2)
/-- A reply under way. -/
def repM (go ge k : Nat) (x : RV) (a : Value × Value) : List HA := match k with
  | 2 => [.blk go 49 [.int .i64 0, a.1, .slice none 0 0], .rowP isI a.1 3 1 x.n.length (intsV x.n), .blk ge 3 [.int .i64 x.err]]
  | 3 => [.rowP isB a.2 5 1 x.b.length (bytesV x.b), .blk go 49 [.int .i64 0, a.1, a.2], .rowP isI a.1 3 1 x.n.length (intsV x.n), .blk ge 3 [.int .i64 x.err]]
  | _ => [.blk go 49 [.int .i64 0, .slice none 0 0, .slice none 0 0], .blk ge 3 [.int .i64 x.err]]
theorem replies_off {w0 w : World} {M0 : List Nat} {L : List HA} {gp go ge : Nat} {n0 z0 l0 h0 n1 z1 m1 f1 n2 : Nat}
    (h : St w0 M0 w ((.blk gp 89 (partsC (repliesPs n0 z0 l0 h0 n1 z1 m1 f1 n2)) :: repliesBoxes go ge n0 z0 l0 h0 n1 z1 m1 f1 n2) ++ .blk go 49 [.int .i64 0, .slice none 0 0, .slice none 0 0] :: .blk ge 3 [.int .i64 0] :: L)) :
    ∀ (i : Nat) (q : Nat) (T : TypeId) (cs : List Value), (HA.blk gp 89 (partsC (repliesPs n0 z0 l0 h0 n1 z1 m1 f1 n2)) :: repliesBoxes go ge n0 z0 l0 h0 n1 z1 m1 f1 n2)[i]? = some (.blk q T cs) → q ∉ [go, ge] := by
  intro i q T cs hx hq
  have hap := h.apart
  unfold Apart at hap
  rw [List.pairwise_append] at hap
  simp only [List.mem_cons, List.not_mem_nil, or_false] at hq
  rcases hq with hq | hq
  · exact hap.2.2 _ (List.mem_of_getElem? hx) _ List.mem_cons_self q rfl (by rw [hq]; rfl)
  · exact hap.2.2 _ (List.mem_of_getElem? hx) _ (List.mem_cons_of_mem _ List.mem_cons_self) q rfl (by rw [hq]; rfl)
theorem replies_gok {w0 w : World} {M0 : List Nat} {L : List HA} {B : List UInt8} (hB : B.length ≤ 100000) {gp go ge : Nat} {n0 z0 l0 h0 n1 z1 m1 f1 n2 : Nat}
    (h : St w0 M0 w ((.blk gp 89 (partsC (repliesPs n0 z0 l0 h0 n1 z1 m1 f1 n2)) :: repliesBoxes go ge n0 z0 l0 h0 n1 z1 m1 f1 n2) ++ .blk go 49 [.int .i64 0, .slice none 0 0, .slice none 0 0] :: .blk ge 3 [.int .i64 0] :: L)) :
    ∀ (k : Nat) (p : PartV) (f : RS × RV → RS × RV), (repliesPs n0 z0 l0 h0 n1 z1 m1 f1 n2)[k]? = some p → (getRF B)[k]? = some f → GetOk w [go, ge] (repM go ge k) (repM go ge (k + 1)) p.gf p.gc B f := by
  have hh := h
  unfold repliesBoxes at hh
  have hd := replies_off h
  have hne_n0 : n0 ∉ [go, ge] := hd 9 _ _ _ rfl
  have hne_z0 : z0 ∉ [go, ge] := hd 8 _ _ _ rfl
  have hne_l0 : l0 ∉ [go, ge] := hd 7 _ _ _ rfl
  have hne_h0 : h0 ∉ [go, ge] := hd 6 _ _ _ rfl
  have hne_n1 : n1 ∉ [go, ge] := hd 5 _ _ _ rfl
  have hne_z1 : z1 ∉ [go, ge] := hd 4 _ _ _ rfl
  have hne_m1 : m1 ∉ [go, ge] := hd 3 _ _ _ rfl
  have hne_f1 : f1 ∉ [go, ge] := hd 2 _ _ _ rfl
  have hne_n2 : n2 ∉ [go, ge] := hd 1 _ _ _ rfl
  clear hd
  intro k p f hp hf
  match k, hp, hf with
  | 0, hp, hf => cases hp; cases hf; exact fun g bv s x a w9 hw hs => (num2_at g bv B s _ [.blk go 49 [.int .i64 0, .slice none 0 0, .slice none 0 0]] [] ge 0 _ [.int .i64 x.err] w9 hw.selfF hs hB (by show (0 : Nat) < 1; decide) (hw.old_cell (hh.cell (off := 0) (.tail _ (.tail _ (.tail _ (.tail _ (.tail _ (.tail _ (.tail _ (.tail _ (.tail _ (.head _)))))))))) rfl) (hne_n0)) (elem_off hw (World.block_lt_of_cell? w _ (hh.cell (off := 0) (.tail _ (.tail _ (.tail _ (.tail _ (.tail _ (.tail _ (.tail _ (.tail _ (.tail _ (.head _)))))))))) rfl)) (hne_n0)) (hw.old_cell (hh.cell (off := 0) (.tail _ (.tail _ (.tail _ (.tail _ (.tail _ (.tail _ (.tail _ (.tail _ (.head _))))))))) rfl) (hne_z0)) (elem_off hw (World.block_lt_of_cell? w _ (hh.cell (off := 0) (.tail _ (.tail _ (.tail _ (.tail _ (.tail _ (.tail _ (.tail _ (.tail _ (.head _))))))))) rfl)) (hne_z0)) (hw.old_cell (hh.cell (off := 0) (.tail _ (.tail _ (.tail _ (.tail _ (.tail _ (.tail _ (.tail _ (.head _)))))))) rfl) (hne_l0)) (elem_off hw (World.block_lt_of_cell? w _ (hh.cell (off := 0) (.tail _ (.tail _ (.tail _ (.tail _ (.tail _ (.tail _ (.tail _ (.head _)))))))) rfl)) (hne_l0)) (hw.old_cell (hh.cell (off := 0) (.tail _ (.tail _ (.tail _ (.tail _ (.tail _ (.tail _ (.head _))))))) rfl) (hne_h0)) (elem_off hw (World.block_lt_of_cell? w _ (hh.cell (off := 0) (.tail _ (.tail _ (.tail _ (.tail _ (.tail _ (.tail _ (.head _))))))) rfl)) (hne_h0)) (by decide)).mono fun e w8 ⟨he, h8⟩ => ⟨he, a, h8⟩
  | 1, hp, hf => cases hp; cases hf; exact fun g bv s x a w9 hw hs => (listI_at g bv B s _ [.blk ge 3 [.int .i64 x.err]] go 1 _ [.int .i64 0, .slice none 0 0, .slice none 0 0] w9 hw.selfF hs hB (by show (1 : Nat) < 3; decide) rfl (hw.old_cell (hh.cell (off := 0) (.tail _ (.tail _ (.tail _ (.tail _ (.tail _ (.head _)))))) rfl) (hne_n1)) (elem_off hw (World.block_lt_of_cell? w _ (hh.cell (off := 0) (.tail _ (.tail _ (.tail _ (.tail _ (.tail _ (.head _)))))) rfl)) (hne_n1)) (hw.old_cell (hh.cell (off := 0) (.tail _ (.tail _ (.tail _ (.tail _ (.head _))))) rfl) (hne_z1)) (elem_off hw (World.block_lt_of_cell? w _ (hh.cell (off := 0) (.tail _ (.tail _ (.tail _ (.tail _ (.head _))))) rfl)) (hne_z1)) (hw.old_cell (hh.cell (off := 0) (.tail _ (.tail _ (.tail _ (.head _)))) rfl) (hne_m1)) (elem_off hw (World.block_lt_of_cell? w _ (hh.cell (off := 0) (.tail _ (.tail _ (.tail _ (.head _)))) rfl)) (hne_m1)) (hw.old_cell (hh.cell (off := 0) (.tail _ (.tail _ (.head _))) rfl) (hne_f1)) (elem_off hw (World.block_lt_of_cell? w _ (hh.cell (off := 0) (.tail _ (.tail _ (.head _))) rfl)) (hne_f1)) (by decide) (by decide)).mono fun e w8 ⟨he, lv, h8⟩ => ⟨he, (lv, a.2), h8⟩
  | 2, hp, hf => cases hp; cases hf; exact fun g bv s x a w9 hw hs => (raw2_at g bv B s _ [] [.rowP isI a.1 3 1 x.n.length (intsV x.n), .blk ge 3 [.int .i64 x.err]] go 2 _ [.int .i64 0, a.1, .slice none 0 0] w9 hw.selfF hs hB (by show (2 : Nat) < 3; decide) (hw.old_cell (hh.cell (off := 0) (.tail _ (.head _)) rfl) (hne_n2)) (elem_off hw (World.block_lt_of_cell? w _ (hh.cell (off := 0) (.tail _ (.head _)) rfl)) (hne_n2)) (num_pos hs) (by have := num_in (B := B) (s := s) (size := 3) (low := 0) (high := 16384) ⟨by decide, by decide⟩; omega)).mono fun e w8 ⟨he, u, h8⟩ => ⟨he, (a.1, u), h8⟩
  | k + 3, hp, _ => simp [repliesPs] at hp
theorem replies_gfn {n0 z0 l0 h0 n1 z1 m1 f1 n2 : Nat} : ∀ p ∈ repliesPs n0 z0 l0 h0 n1 z1 m1 f1 n2, ∀ (a : Array Value) (w : World), (callFunc p.gf a).run Try.prog w = .ok (.enter p.gf a) w := by
  intro p hp a w
  unfold repliesPs at hp
  simp only [List.mem_cons, List.not_mem_nil, or_false] at hp
  rcases hp with rfl | rfl | rfl <;> rfl
end Go.Proofs.Ytalfdcfcaamnbaa
namespace Go.Proofs.Ytalfdcfcaamnbaa
set_option linter.unusedVariables false
set_option linter.unusedSimpArgs false
open Go.RowKit Hp
attribute [local irreducible] Go.Calls Go.wpList
set_option maxRecDepth 100000
set_option maxHeartbeats 4000000
theorem loadedRyy (A : Addr) : loadVar 49 A = loadVarH 49 A := rfl
theorem Hp.St.newOffs {w0 w : World} {L : List HA} (h : St w0 [] w L) {ks : List Nat} (hk : ∀ k ∈ ks, ∃ T cs, HA.blk k T cs ∈ L) {v : Value} {sz n : Nat} {xs : List Value} (hr : Rd w0 v sz n xs) (hs : 0 < sz) : Off v ks := by
  refine Off.old hr hs fun k hm => ?_
  obtain ⟨T, cs, hx⟩ := hk k hm
  rcases h.own _ hx k rfl with h1 | h1
  · exact h1
  · cases h1
/-- What GetReply tells. -/
def GetRP (w : World) (r : RV × Int × Int) (e : Ending) (w' : World) : Prop := ∃ lv bv, e = .returned (.tuple #[.agg (r.1.cells lv bv).toArray, .agg #[.int .i64 r.2.1, .int .i64 r.2.2]]) ∧
  St w [] w' [.rowP isI lv 3 1 r.1.n.length (intsV r.1.n), .rowP isB bv 5 1 r.1.b.length (bytesV r.1.b)]
section
attribute [local go_sem ↓] loadedRyy loadedFt
theorem ogetR_bad (ao : Option Addr) (n c : Nat) (B : List UInt8) (w : World) (hr : Rd w (.slice ao n c) 1 n (bytesV B)) (hn : B.length = n) (hb : n ≤ 100000) (h0 : (endR B (goAll ((⟨0, 0, 0⟩, RV.none) : RS × RV) (getRF B)).1).1 ≠ 0) :
    Calls Try.prog 30 #[.slice ao n c] w (GetRP w (getR B)) := by
  have hst0 := St.refl w
  have HR := hid hr
  have HN := hid hn
  have hBl : B.length ≤ 100000 := by rw [hn]; exact hb
  obtain ⟨S, hS⟩ : ∃ S, S = (goAll ((⟨0, 0, 0⟩, RV.none) : RS × RV) (getRF B)) := ⟨_, rfl⟩
  have HS := hid hS
  obtain ⟨f, hf⟩ : ∃ f, f = endR B S.1 := ⟨_, rfl⟩
  have HF := hid hf
  rw [← hS] at h0
  rw [← hf] at h0
  obtain ⟨R, hR⟩ : ∃ R, R = getR B := ⟨_, rfl⟩
  rw [← hR]
  have e : R = (RV.none, f.1, f.2) := by
    rw [hR]; unfold getR; simp only [← hS, ← hf]
    rw [if_neg h0, if_neg h0]
  have d0 : (f.1 == 0) = false := by simpa using h0
  have d1 : (f.1 != 0) = true := by simpa using h0
  have HE := hid e
  clear hS hf hR e h0 hr hn
  go_enter Try.func30, Try.ntmps30
  go_wp2_with (first | go_big_skip | go_big_guard | (refine wl_alloc (T := 49) hst0 rfl rfl ?_; intro g2 _ hst1; clear hst0) | (refine wl_alloc hst1 rfl rfl ?_; intro g3 _ hst2; clear hst1) | (refine wl_alloc (T := 49) hst2 rfl rfl ?_; intro go _ hst3; clear hst2) | (refine wl_alloc (T := 3) hst3 rfl rfl ?_; intro ge _ hst3a; clear hst3) | (refine wl_store [] hst3a rfl rfl rfl (v := .int _ _) rfl rfl rfl (by show (1 : Nat) ≤ 1; decide) ?_; intro w9 hst3b; clear hst3a; have hst3c : St w [] w9 [.blk go 49 [.int .i64 0, .slice none 0 0, .slice none 0 0], .blk ge 3 [.int .i64 0], .blk g3 42 [.int .i64 0, .int .i64 0], .blk g2 49 [.int .i64 0, .slice none 0 0, .slice none 0 0]] := St.front [_] hst3b; clear hst3b) | (go_at_call 51; refine (replies_any go ge _).mono ?_; rintro _ w10 ⟨gp, n0, z0, l0, h0, n1, z1, m1, f1, n2, rfl, hh⟩; have hst4 := St.call hst3c hh; clear hh hst3c) | (go_at_call 44; have hSel := (St.sub hst4 ((List.Sublist.trans (List.Sublist.cons_cons _ (List.Sublist.cons_cons _ (List.nil_sublist _))) (List.sublist_append_right _ _)) : List.Sublist [_, _] _)).selfF; refine (parts_get (σ := RV) (τ := Value × Value) ao n c B (some ⟨gp, 0, none⟩) 3 3 (repliesPs n0 z0 l0 h0 n1 z1 m1 f1 n2) (getRF B) (repM go ge) [go, ge] RV.none (.slice none 0 0, .slice none 0 0) w10 hSel (Rd.old hst4 HR.out) HN.out hb (Rd.blk hst4 (.head _) (Nat.le_refl _) (by decide) rfl rfl) (fun b off hbo => by cases hbo; exact replies_off hst4 0 _ _ _ rfl) (St.newOffs hst4 (fun k hk => by simp only [List.mem_cons, List.not_mem_nil, or_false] at hk; rcases hk with rfl | rfl; exact ⟨_, _, List.mem_append_right _ (.head _)⟩; exact ⟨_, _, List.mem_append_right _ (.tail _ (.head _))⟩) HR.out (by decide)) rfl rfl (by decide) replies_gfn (replies_gok hBl hst4) (getRF_pos B)).mono ?_; rw [← HS.out, ← HF.out]; rintro _ w11 ⟨a1, rfl, hh⟩; have hst4p := St.perm hst4 (List.perm_append_comm (l₁ := .blk gp 89 (partsC (repliesPs n0 z0 l0 h0 n1 z1 m1 f1 n2)) :: repliesBoxes go ge n0 z0 l0 h0 n1 z1 m1 f1 n2)); have hst5 := St.sub (St.callF [_, _] hst4p hh) (List.Sublist.append (List.Sublist.refl _) (List.sublist_append_left [_, _] _)); clear hh hst4 hst4p hSel) | (refine wl_alloc hst5 rfl rfl ?_; intro g5 w12 hst6; clear hst5) | (refine wl_storeA [] hst6 rfl rfl rfl rfl rfl rfl rfl ?_; intro w13 hst7; clear hst6; obtain ⟨lv, bv⟩ := a1; unfold repM at hst7; obtain ⟨ab, cb, rfl⟩ := St.rowPSliceF [_] hst7; obtain ⟨al, cl, rfl⟩ := St.rowPSliceF [_, _, _] hst7) | (refine wl_loadE rfl rfl rfl ?_; first | refine ⟨_, Loads.at [_, _, _, _] hst7 rfl, ?_⟩ | refine ⟨_, Loads.at [] hst9 rfl, ?_⟩ | refine ⟨_, Loads.at [] hst12 rfl, ?_⟩) | (refine wl_store [_, _] hst7 rfl rfl rfl (v := .int _ _) rfl rfl rfl (by show (1 : Nat) ≤ 3; decide) ?_; intro w15 hst8; clear hst7; have hst9 : St w [] w15 [.blk g5 42 [.int .i64 f.1, .int .i64 f.2], .rowP isB (.slice ab S.2.b.length cb) 5 1 S.2.b.length (bytesV S.2.b), .blk go 49 (S.2.cells (.slice al S.2.n.length cl) (.slice ab S.2.b.length cb)), .rowP isI (.slice al S.2.n.length cl) 3 1 S.2.n.length (intsV S.2.n), .blk ge 3 [.int .i64 S.2.err], .blk g3 42 [.int .i64 0, .int .i64 0], .blk g2 49 [.int .i64 0, .slice none 0 0, .slice none 0 0]] := hst8; clear hst8))
  have hX := hst9.drew
  clear hst9
  refine wp_region_held_drew (S := (fun w' => (loadVarH 42 ⟨g5, 0, none⟩).run Try.prog w' = .ok (.agg (List.toArray ([.int .i64 f.1, .int .i64 f.2]))) w')) (by kernel_rfl) (by exact ldA ([.int .i64 f.1, .int .i64 f.2]) [] hX (rfl) (rfl)) (fun hHeld => ?_)
  refine wpAnyH_take (i := 0) (oi := ⟨some 24, _, _, _, _, _⟩) (v := ?_) rfl (by kernel_rfl) (by kernel_rfl) (by kernel_rfl) (fun _ _ _ h => h) (Or.inl ⟨by rfl, ?_⟩) (by assumption) ?_
  rotate_left
  · intro w hSw; (try dsimp only at hSw); go_simp; try with_reducible rfl
  (try simp only [Act.put, List.setIfInBounds_toArray, List.set_cons_zero, List.set_cons_succ])
  refine wpAnyH_take (i := 1) (oi := ⟨some 25, _, _, _, _, _⟩) (v := ?_) rfl (by kernel_rfl) (by kernel_rfl) (by kernel_rfl) (fun _ _ _ h => h) (Or.inl ⟨by rfl, ?_⟩) (by assumption) ?_
  rotate_left
  · intro w hSw; (try dsimp only at hSw); go_simp; try with_reducible rfl
  (try simp only [Act.put, List.setIfInBounds_toArray, List.set_cons_zero, List.set_cons_succ])
  refine wpAnyH_ready (rs := [2]) (by kernel_rfl) (by simp) ?_
  refine (AllReadyH.cons (o := ⟨none, _, _, _, _, _⟩) rfl (fun K hK => ?_) AllReadyH.nil)
  rw [if_pos (by rfl)]
  refine ow_of_wl (ops := #[]) (by rfl) ?_
  refine wl_storeA [_, _, _, _, _, _] hX rfl rfl rfl rfl rfl rfl rfl ?_
  intro w26 hZ6
  refine q0_nil ?_
  refine hK.out _ _ ?_ (fun hHeld => ?_)
  · exact ldA ([.int .i64 f.1, .int .i64 f.2]) [] hZ6 (rfl) (rfl)
  clear hK K
  (try simp only [Act.put, List.setIfInBounds_toArray, List.set_cons_zero, List.set_cons_succ])
  refine wpAnyH_ready (rs := [3]) (by kernel_rfl) (by simp) ?_
  refine (AllReadyH.cons (o := ⟨none, _, _, _, _, _⟩) rfl (fun K hK => ?_) AllReadyH.nil)
  rw [if_pos (by rfl)]
  refine ow_of_wl (ops := #[]) (by rfl) ?_
  refine wl_storeA [_, _, _, _, _] hZ6 rfl rfl rfl rfl rfl rfl rfl ?_
  intro w25 hZ5
  refine q0_nil ?_
  refine hK.out _ _ ?_ (fun hHeld => ?_)
  · exact ldA ([.int .i64 f.1, .int .i64 f.2]) [] hZ5 (rfl) (rfl)
  clear hK K
  (try simp only [Act.put, List.setIfInBounds_toArray, List.set_cons_zero, List.set_cons_succ])
  refine wpAnyH_done (by kernel_rfl) ?_ _
  clear hHeld
  go_wp2_with (first | go_big_skip | go_big_guard | fail)
  refine bodyPost_ret (results_cell2L rfl rfl rfl (Loads.whole (T := 49) [_, _, _, _, _, _] hZ5 rfl) (Loads.whole (T := 42) [_, _, _, _, _] hZ5 rfl)) rfl ?_
  rw [HE.out]
  exact ⟨.slice none 0 0, .slice none 0 0, rfl, St.nilPQ isI _ 1 (St.nilPQ isB _ 1 hZ5.nil)⟩
theorem ogetR_odd (ao : Option Addr) (n c : Nat) (B : List UInt8) (w : World) (hr : Rd w (.slice ao n c) 1 n (bytesV B)) (hn : B.length = n) (hb : n ≤ 100000) (h0 : (endR B (goAll ((⟨0, 0, 0⟩, RV.none) : RS × RV) (getRF B)).1).1 = 0) (h1 : (goAll ((⟨0, 0, 0⟩, RV.none) : RS × RV) (getRF B)).2.fine = false) :
    Calls Try.prog 30 #[.slice ao n c] w (GetRP w (getR B)) := by
  have hst0 := St.refl w
  have HR := hid hr
  have HN := hid hn
  have hBl : B.length ≤ 100000 := by rw [hn]; exact hb
  obtain ⟨S, hS⟩ : ∃ S, S = (goAll ((⟨0, 0, 0⟩, RV.none) : RS × RV) (getRF B)) := ⟨_, rfl⟩
  have HS := hid hS
  obtain ⟨f, hf⟩ : ∃ f, f = endR B S.1 := ⟨_, rfl⟩
  have HF := hid hf
  rw [← hS] at h0 h1
  rw [← hf] at h0
  obtain ⟨R, hR⟩ : ∃ R, R = getR B := ⟨_, rfl⟩
  rw [← hR]
  have e : R = (RV.none, 2, f.2) := by
    rw [hR]; unfold getR; simp only [← hS, ← hf]
    rw [if_pos h0, h1]; rfl
  have d0 : (f.1 == 0) = true := by simpa using h0
  have H1 := hid h1
  have HE := hid e
  clear hS hf hR e h0 h1 hr hn
  go_enter Try.func30, Try.ntmps30
  go_wp2_with (first | go_big_skip | go_big_guard | (refine wl_alloc (T := 49) hst0 rfl rfl ?_; intro g2 _ hst1; clear hst0) | (refine wl_alloc hst1 rfl rfl ?_; intro g3 _ hst2; clear hst1) | (refine wl_alloc (T := 49) hst2 rfl rfl ?_; intro go _ hst3; clear hst2) | (refine wl_alloc (T := 3) hst3 rfl rfl ?_; intro ge _ hst3a; clear hst3) | (refine wl_store [] hst3a rfl rfl rfl (v := .int _ _) rfl rfl rfl (by show (1 : Nat) ≤ 1; decide) ?_; intro w9 hst3b; clear hst3a; have hst3c : St w [] w9 [.blk go 49 [.int .i64 0, .slice none 0 0, .slice none 0 0], .blk ge 3 [.int .i64 0], .blk g3 42 [.int .i64 0, .int .i64 0], .blk g2 49 [.int .i64 0, .slice none 0 0, .slice none 0 0]] := St.front [_] hst3b; clear hst3b) | (go_at_call 51; refine (replies_any go ge _).mono ?_; rintro _ w10 ⟨gp, n0, z0, l0, h0, n1, z1, m1, f1, n2, rfl, hh⟩; have hst4 := St.call hst3c hh; clear hh hst3c) | (go_at_call 44; have hSel := (St.sub hst4 ((List.Sublist.trans (List.Sublist.cons_cons _ (List.Sublist.cons_cons _ (List.nil_sublist _))) (List.sublist_append_right _ _)) : List.Sublist [_, _] _)).selfF; refine (parts_get (σ := RV) (τ := Value × Value) ao n c B (some ⟨gp, 0, none⟩) 3 3 (repliesPs n0 z0 l0 h0 n1 z1 m1 f1 n2) (getRF B) (repM go ge) [go, ge] RV.none (.slice none 0 0, .slice none 0 0) w10 hSel (Rd.old hst4 HR.out) HN.out hb (Rd.blk hst4 (.head _) (Nat.le_refl _) (by decide) rfl rfl) (fun b off hbo => by cases hbo; exact replies_off hst4 0 _ _ _ rfl) (St.newOffs hst4 (fun k hk => by simp only [List.mem_cons, List.not_mem_nil, or_false] at hk; rcases hk with rfl | rfl; exact ⟨_, _, List.mem_append_right _ (.head _)⟩; exact ⟨_, _, List.mem_append_right _ (.tail _ (.head _))⟩) HR.out (by decide)) rfl rfl (by decide) replies_gfn (replies_gok hBl hst4) (getRF_pos B)).mono ?_; rw [← HS.out, ← HF.out]; rintro _ w11 ⟨a1, rfl, hh⟩; have hst4p := St.perm hst4 (List.perm_append_comm (l₁ := .blk gp 89 (partsC (repliesPs n0 z0 l0 h0 n1 z1 m1 f1 n2)) :: repliesBoxes go ge n0 z0 l0 h0 n1 z1 m1 f1 n2)); have hst5 := St.sub (St.callF [_, _] hst4p hh) (List.Sublist.append (List.Sublist.refl _) (List.sublist_append_left [_, _] _)); clear hh hst4 hst4p hSel) | (refine wl_alloc hst5 rfl rfl ?_; intro g5 w12 hst6; clear hst5) | (refine wl_storeA [] hst6 rfl rfl rfl rfl rfl rfl rfl ?_; intro w13 hst7; clear hst6; obtain ⟨lv, bv⟩ := a1; unfold repM at hst7; obtain ⟨ab, cb, rfl⟩ := St.rowPSliceF [_] hst7; obtain ⟨al, cl, rfl⟩ := St.rowPSliceF [_, _, _] hst7) | (refine wl_loadE rfl rfl rfl ?_; first | refine ⟨_, Loads.at [_, _, _, _] hst7 rfl, ?_⟩ | refine ⟨_, Loads.at [] hst9 rfl, ?_⟩ | refine ⟨_, Loads.at [] hst12 rfl, ?_⟩) | (refine wl_store [_, _] hst7 rfl rfl rfl (v := .int _ _) rfl rfl rfl (by show (1 : Nat) ≤ 3; decide) ?_; intro w15 hst8; clear hst7; have hst9 : St w [] w15 [.blk g5 42 [.int .i64 f.1, .int .i64 f.2], .rowP isB (.slice ab S.2.b.length cb) 5 1 S.2.b.length (bytesV S.2.b), .blk go 49 (S.2.cells (.slice al S.2.n.length cl) (.slice ab S.2.b.length cb)), .rowP isI (.slice al S.2.n.length cl) 3 1 S.2.n.length (intsV S.2.n), .blk ge 3 [.int .i64 S.2.err], .blk g3 42 [.int .i64 0, .int .i64 0], .blk g2 49 [.int .i64 0, .slice none 0 0, .slice none 0 0]] := hst8; clear hst8) | (refine wl_loadE rfl rfl rfl ?_; refine ⟨_, Loads.whole (T := 49) [_, _] hst9 rfl, ?_⟩) | (go_at_call 50; refine (fine_any S.2 al ab S.2.n.length cl S.2.b.length cb _ (Rd.rowP hst9 (.tail _ (.tail _ (.tail _ (.head _))))) rfl rfl).mono ?_; rw [H1.out]; rintro _ w16 ⟨rfl, h4⟩; have hst10 := St.call0 hst9 h4; clear h4 hst9) | (refine wl_store [] hst10 rfl rfl rfl (v := .int _ _) rfl rfl rfl (by show (1 : Nat) ≤ 2; decide) ?_; intro w17 hst11; clear hst10; have hst12 : St w [] w17 [.blk g5 42 [.int .i64 2, .int .i64 f.2], .rowP isB (.slice ab S.2.b.length cb) 5 1 S.2.b.length (bytesV S.2.b), .blk go 49 (S.2.cells (.slice al S.2.n.length cl) (.slice ab S.2.b.length cb)), .rowP isI (.slice al S.2.n.length cl) 3 1 S.2.n.length (intsV S.2.n), .blk ge 3 [.int .i64 S.2.err], .blk g3 42 [.int .i64 0, .int .i64 0], .blk g2 49 [.int .i64 0, .slice none 0 0, .slice none 0 0]] := hst11; clear hst11))
  have hX := hst12.drew
  clear hst12
  refine wp_region_held_drew (S := (fun w' => (loadVarH 42 ⟨g5, 0, none⟩).run Try.prog w' = .ok (.agg (List.toArray ([.int .i64 2, .int .i64 f.2]))) w')) (by kernel_rfl) (by exact ldA ([.int .i64 2, .int .i64 f.2]) [] hX (rfl) (rfl)) (fun hHeld => ?_)
  refine wpAnyH_take (i := 0) (oi := ⟨some 24, _, _, _, _, _⟩) (v := ?_) rfl (by kernel_rfl) (by kernel_rfl) (by kernel_rfl) (fun _ _ _ h => h) (Or.inl ⟨by rfl, ?_⟩) (by assumption) ?_
  rotate_left
  · intro w hSw; (try dsimp only at hSw); go_simp; try with_reducible rfl
  (try simp only [Act.put, List.setIfInBounds_toArray, List.set_cons_zero, List.set_cons_succ])
  refine wpAnyH_take (i := 1) (oi := ⟨some 25, _, _, _, _, _⟩) (v := ?_) rfl (by kernel_rfl) (by kernel_rfl) (by kernel_rfl) (fun _ _ _ h => h) (Or.inl ⟨by rfl, ?_⟩) (by assumption) ?_
  rotate_left
  · intro w hSw; (try dsimp only at hSw); go_simp; try with_reducible rfl
  (try simp only [Act.put, List.setIfInBounds_toArray, List.set_cons_zero, List.set_cons_succ])
  refine wpAnyH_ready (rs := [2]) (by kernel_rfl) (by simp) ?_
  refine (AllReadyH.cons (o := ⟨none, _, _, _, _, _⟩) rfl (fun K hK => ?_) AllReadyH.nil)
  rw [if_pos (by rfl)]
  refine ow_of_wl (ops := #[]) (by rfl) ?_
  refine wl_storeA [_, _, _, _, _, _] hX rfl rfl rfl rfl rfl rfl rfl ?_
  intro w26 hZ6
  refine q0_nil ?_
  refine hK.out _ _ ?_ (fun hHeld => ?_)
  · exact ldA ([.int .i64 2, .int .i64 f.2]) [] hZ6 (rfl) (rfl)
  clear hK K
  (try simp only [Act.put, List.setIfInBounds_toArray, List.set_cons_zero, List.set_cons_succ])
  refine wpAnyH_ready (rs := [3]) (by kernel_rfl) (by simp) ?_
  refine (AllReadyH.cons (o := ⟨none, _, _, _, _, _⟩) rfl (fun K hK => ?_) AllReadyH.nil)
  rw [if_pos (by rfl)]
  refine ow_of_wl (ops := #[]) (by rfl) ?_
  refine wl_storeA [_, _, _, _, _] hZ6 rfl rfl rfl rfl rfl rfl rfl ?_
  intro w25 hZ5
  refine q0_nil ?_
  refine hK.out _ _ ?_ (fun hHeld => ?_)
  · exact ldA ([.int .i64 2, .int .i64 f.2]) [] hZ5 (rfl) (rfl)
  clear hK K
  (try simp only [Act.put, List.setIfInBounds_toArray, List.set_cons_zero, List.set_cons_succ])
  refine wpAnyH_done (by kernel_rfl) ?_ _
  clear hHeld
  go_wp2_with (first | go_big_skip | go_big_guard | fail)
  refine bodyPost_ret (results_cell2L rfl rfl rfl (Loads.whole (T := 49) [_, _, _, _, _, _] hZ5 rfl) (Loads.whole (T := 42) [_, _, _, _, _] hZ5 rfl)) rfl ?_
  rw [HE.out]
  exact ⟨.slice none 0 0, .slice none 0 0, rfl, St.nilPQ isI _ 1 (St.nilPQ isB _ 1 hZ5.nil)⟩
theorem ogetR_ok (ao : Option Addr) (n c : Nat) (B : List UInt8) (w : World) (hr : Rd w (.slice ao n c) 1 n (bytesV B)) (hn : B.length = n) (hb : n ≤ 100000) (h0 : (endR B (goAll ((⟨0, 0, 0⟩, RV.none) : RS × RV) (getRF B)).1).1 = 0) (h1 : (goAll ((⟨0, 0, 0⟩, RV.none) : RS × RV) (getRF B)).2.fine = true) :
    Calls Try.prog 30 #[.slice ao n c] w (GetRP w (getR B)) := by
  have hst0 := St.refl w
  have HR := hid hr
  have HN := hid hn
  have hBl : B.length ≤ 100000 := by rw [hn]; exact hb
  obtain ⟨S, hS⟩ : ∃ S, S = (goAll ((⟨0, 0, 0⟩, RV.none) : RS × RV) (getRF B)) := ⟨_, rfl⟩
  have HS := hid hS
  obtain ⟨f, hf⟩ : ∃ f, f = endR B S.1 := ⟨_, rfl⟩
  have HF := hid hf
  rw [← hS] at h0 h1
  rw [← hf] at h0
  obtain ⟨R, hR⟩ : ∃ R, R = getR B := ⟨_, rfl⟩
  rw [← hR]
  have e : R = (S.2, f.1, f.2) := by
    rw [hR]; unfold getR; simp only [← hS, ← hf]
    rw [if_pos h0, if_pos h1, if_pos rfl, h0]
  have d0 : (f.1 == 0) = true := by simpa using h0
  have d1 : (f.1 != 0) = false := by simpa using h0
  have H1 := hid h1
  have HE := hid e
  clear hS hf hR e h0 h1 hr hn
  go_enter Try.func30, Try.ntmps30
  go_wp2_with (first | go_big_skip | go_big_guard | (refine wl_alloc (T := 49) hst0 rfl rfl ?_; intro g2 _ hst1; clear hst0) | (refine wl_alloc hst1 rfl rfl ?_; intro g3 _ hst2; clear hst1) | (refine wl_alloc (T := 49) hst2 rfl rfl ?_; intro go _ hst3; clear hst2) | (refine wl_alloc (T := 3) hst3 rfl rfl ?_; intro ge _ hst3a; clear hst3) | (refine wl_store [] hst3a rfl rfl rfl (v := .int _ _) rfl rfl rfl (by show (1 : Nat) ≤ 1; decide) ?_; intro w9 hst3b; clear hst3a; have hst3c : St w [] w9 [.blk go 49 [.int .i64 0, .slice none 0 0, .slice none 0 0], .blk ge 3 [.int .i64 0], .blk g3 42 [.int .i64 0, .int .i64 0], .blk g2 49 [.int .i64 0, .slice none 0 0, .slice none 0 0]] := St.front [_] hst3b; clear hst3b) | (go_at_call 51; refine (replies_any go ge _).mono ?_; rintro _ w10 ⟨gp, n0, z0, l0, h0, n1, z1, m1, f1, n2, rfl, hh⟩; have hst4 := St.call hst3c hh; clear hh hst3c) | (go_at_call 44; have hSel := (St.sub hst4 ((List.Sublist.trans (List.Sublist.cons_cons _ (List.Sublist.cons_cons _ (List.nil_sublist _))) (List.sublist_append_right _ _)) : List.Sublist [_, _] _)).selfF; refine (parts_get (σ := RV) (τ := Value × Value) ao n c B (some ⟨gp, 0, none⟩) 3 3 (repliesPs n0 z0 l0 h0 n1 z1 m1 f1 n2) (getRF B) (repM go ge) [go, ge] RV.none (.slice none 0 0, .slice none 0 0) w10 hSel (Rd.old hst4 HR.out) HN.out hb (Rd.blk hst4 (.head _) (Nat.le_refl _) (by decide) rfl rfl) (fun b off hbo => by cases hbo; exact replies_off hst4 0 _ _ _ rfl) (St.newOffs hst4 (fun k hk => by simp only [List.mem_cons, List.not_mem_nil, or_false] at hk; rcases hk with rfl | rfl; exact ⟨_, _, List.mem_append_right _ (.head _)⟩; exact ⟨_, _, List.mem_append_right _ (.tail _ (.head _))⟩) HR.out (by decide)) rfl rfl (by decide) replies_gfn (replies_gok hBl hst4) (getRF_pos B)).mono ?_; rw [← HS.out, ← HF.out]; rintro _ w11 ⟨a1, rfl, hh⟩; have hst4p := St.perm hst4 (List.perm_append_comm (l₁ := .blk gp 89 (partsC (repliesPs n0 z0 l0 h0 n1 z1 m1 f1 n2)) :: repliesBoxes go ge n0 z0 l0 h0 n1 z1 m1 f1 n2)); have hst5 := St.sub (St.callF [_, _] hst4p hh) (List.Sublist.append (List.Sublist.refl _) (List.sublist_append_left [_, _] _)); clear hh hst4 hst4p hSel) | (refine wl_alloc hst5 rfl rfl ?_; intro g5 w12 hst6; clear hst5) | (refine wl_storeA [] hst6 rfl rfl rfl rfl rfl rfl rfl ?_; intro w13 hst7; clear hst6; obtain ⟨lv, bv⟩ := a1; unfold repM at hst7; obtain ⟨ab, cb, rfl⟩ := St.rowPSliceF [_] hst7; obtain ⟨al, cl, rfl⟩ := St.rowPSliceF [_, _, _] hst7) | (refine wl_loadE rfl rfl rfl ?_; first | refine ⟨_, Loads.at [_, _, _, _] hst7 rfl, ?_⟩ | refine ⟨_, Loads.at [] hst9 rfl, ?_⟩ | refine ⟨_, Loads.at [] hst10 rfl, ?_⟩) | (refine wl_store [_, _] hst7 rfl rfl rfl (v := .int _ _) rfl rfl rfl (by show (1 : Nat) ≤ 3; decide) ?_; intro w15 hst8; clear hst7; have hst9 : St w [] w15 [.blk g5 42 [.int .i64 f.1, .int .i64 f.2], .rowP isB (.slice ab S.2.b.length cb) 5 1 S.2.b.length (bytesV S.2.b), .blk go 49 (S.2.cells (.slice al S.2.n.length cl) (.slice ab S.2.b.length cb)), .rowP isI (.slice al S.2.n.length cl) 3 1 S.2.n.length (intsV S.2.n), .blk ge 3 [.int .i64 S.2.err], .blk g3 42 [.int .i64 0, .int .i64 0], .blk g2 49 [.int .i64 0, .slice none 0 0, .slice none 0 0]] := hst8; clear hst8) | (refine wl_loadE rfl rfl rfl ?_; refine ⟨_, Loads.whole (T := 49) [_, _] hst9 rfl, ?_⟩) | (go_at_call 50; refine (fine_any S.2 al ab S.2.n.length cl S.2.b.length cb _ (Rd.rowP hst9 (.tail _ (.tail _ (.tail _ (.head _))))) rfl rfl).mono ?_; rw [H1.out]; rintro _ w16 ⟨rfl, h4⟩; have hst10 := St.call0 hst9 h4; clear h4 hst9))
  have hX := hst10.drew
  clear hst10
  refine wp_region_held_drew (S := (fun w' => (loadVarH 42 ⟨g5, 0, none⟩).run Try.prog w' = .ok (.agg (List.toArray ([.int .i64 f.1, .int .i64 f.2]))) w' ∧ (loadVarH 49 ⟨go, 0, none⟩).run Try.prog w' = .ok (.agg (List.toArray (S.2.cells (.slice al S.2.n.length cl) (.slice ab S.2.b.length cb)))) w')) (by kernel_rfl) (by exact ⟨ldA ([.int .i64 f.1, .int .i64 f.2]) [] hX (rfl) (rfl), ldA (S.2.cells (.slice al S.2.n.length cl) (.slice ab S.2.b.length cb)) [_, _] hX (rfl) (rfl)⟩) (fun hHeld => ?_)
  refine wpAnyH_take (i := 0) (oi := ⟨some 26, _, _, _, _, _⟩) (v := ?_) rfl (by kernel_rfl) (by kernel_rfl) (by kernel_rfl) (fun _ _ _ h => h) (Or.inl ⟨by rfl, ?_⟩) (by assumption) ?_
  rotate_left
  · intro w hSw; (try dsimp only at hSw); go_simp; try with_reducible rfl
  (try simp only [Act.put, List.setIfInBounds_toArray, List.set_cons_zero, List.set_cons_succ])
  refine wpAnyH_take (i := 1) (oi := ⟨some 27, _, _, _, _, _⟩) (v := ?_) rfl (by kernel_rfl) (by kernel_rfl) (by kernel_rfl) (fun _ _ _ h => h) (Or.inl ⟨by rfl, ?_⟩) (by assumption) ?_
  rotate_left
  · intro w hSw; (try dsimp only at hSw); go_simp; try with_reducible rfl
  (try simp only [Act.put, List.setIfInBounds_toArray, List.set_cons_zero, List.set_cons_succ])
  refine wpAnyH_ready (rs := [2]) (by kernel_rfl) (by simp) ?_
  refine (AllReadyH.cons (o := ⟨none, _, _, _, _, _⟩) rfl (fun K hK => ?_) AllReadyH.nil)
  rw [if_pos (by rfl)]
  refine ow_of_wl (ops := #[]) (by rfl) ?_
  refine wl_storeA [_, _, _, _, _, _] hX rfl rfl rfl rfl rfl rfl rfl ?_
  intro w26 hZ6
  refine q0_nil ?_
  refine hK.out _ _ ?_ (fun hHeld => ?_)
  · exact ⟨ldA ([.int .i64 f.1, .int .i64 f.2]) [] hZ6 (rfl) (rfl), ldA (S.2.cells (.slice al S.2.n.length cl) (.slice ab S.2.b.length cb)) [_, _] hZ6 (rfl) (rfl)⟩
  clear hK K
  (try simp only [Act.put, List.setIfInBounds_toArray, List.set_cons_zero, List.set_cons_succ])
  refine wpAnyH_ready (rs := [3]) (by kernel_rfl) (by simp) ?_
  refine (AllReadyH.cons (o := ⟨none, _, _, _, _, _⟩) rfl (fun K hK => ?_) AllReadyH.nil)
  rw [if_pos (by rfl)]
  refine ow_of_wl (ops := #[]) (by rfl) ?_
  refine wl_storeA [_, _, _, _, _] hZ6 rfl rfl rfl rfl rfl rfl rfl ?_
  intro w25 hZ5
  refine q0_nil ?_
  refine hK.out _ _ ?_ (fun hHeld => ?_)
  · exact ⟨ldA ([.int .i64 f.1, .int .i64 f.2]) [] hZ5 (rfl) (rfl), ldA (S.2.cells (.slice al S.2.n.length cl) (.slice ab S.2.b.length cb)) [_, _] hZ5 (rfl) (rfl)⟩
  clear hK K
  (try simp only [Act.put, List.setIfInBounds_toArray, List.set_cons_zero, List.set_cons_succ])
  refine wpAnyH_done (by kernel_rfl) ?_ _
  clear hHeld
  go_wp2_with (first | go_big_skip | go_big_guard | fail)
  refine bodyPost_ret (results_cell2L rfl rfl rfl (Loads.whole (T := 49) [_, _, _, _, _, _] hZ5 rfl) (Loads.whole (T := 42) [_, _, _, _, _] hZ5 rfl)) rfl ?_
  rw [HE.out]
  refine ⟨_, _, rfl, ?_⟩
  exact St.sub (St.front (L1 := [_, _, _, _, _, _]) (St.front (L1 := [_, _, _, _, _]) (St.front (L1 := [_, _, _, _]) (St.front (L1 := [_, _, _, _, _]) (St.front (L1 := [_, _, _, _, _, _]) (St.front (L1 := [_, _, _, _, _, _]) (St.front (L1 := [_, _, _, _, _, _]) hZ5))))))) (.cons_cons _ (.cons_cons _ (List.nil_sublist _)))
theorem ogetR_any (ao : Option Addr) (n c : Nat) (B : List UInt8) (w : World) (hr : Rd w (.slice ao n c) 1 n (bytesV B)) (hn : B.length = n) (hb : n ≤ 100000) :
    Calls Try.prog 30 #[.slice ao n c] w (GetRP w (getR B)) := by
  by_cases h0 : (endR B (goAll ((⟨0, 0, 0⟩, RV.none) : RS × RV) (getRF B)).1).1 = 0
  · cases h1 : (goAll ((⟨0, 0, 0⟩, RV.none) : RS × RV) (getRF B)).2.fine
    · exact ogetR_odd ao n c B w hr hn hb h0 h1
    · exact ogetR_ok ao n c B w hr hn hb h0 h1
  · exact ogetR_bad ao n c B w hr hn hb h0
end
end Go.Proofs.Ytalfdcfcaamnbaa
namespace Go.Proofs.Ytalfdcfcaamnbaa
set_option linter.unusedVariables false
set_option linter.unusedSimpArgs false
open Go.RowKit Hp
attribute [local irreducible] Go.Calls Go.wpList
set_option maxRecDepth 100000
set_option maxHeartbeats 4000000
section
attribute [local go_sem ↓] loadedStr loadedInt
theorem sameS_eq (ao bo : Option Addr) (n c d : Nat) (l : List (List UInt8)) (w : World) (hA : Rd w (.slice ao n c) 1 n (strsV l)) (hB : Rd w (.slice bo n d) 1 n (strsV l)) :
    Calls Try.prog 43 #[.slice ao n c, .slice bo n d] w fun e w' => e = .returned (.bool true) ∧ St w [] w' [] := by
  have hst := St.refl w
  have hN := hA.bd.2.1
  have hN2 := hA.bd.1
  have hlen : l.length = n := by have := hA.1; cases l <;> simp_all [strsV]
  have HN := hid hlen
  have d0 : ((n : Int) != (n : Int)) = false := by simp
  clear hlen
  go_enter Try.func43, Try.ntmps43
  go_wp2_with (first | go_big_skip | go_big_guard | fail)
  go_loopw [5] (fun q wr => ∃ k : Nat, k ≤ n ∧ q = .int .i64 k ∧ St w [] wr []) (fun q _ => n - (intOf q).toNat)
  case atStart => exact ⟨0, by omega, rfl, hst⟩
  case round =>
    clear hst
    obtain ⟨k, hk, rfl, hst⟩ := hrel
    by_cases hkN : k < n
    · have hkl : k < l.length := by rw [HN.out]; exact hkN
      obtain ⟨x, hx⟩ : ∃ x, l[k]? = some x := ⟨_, List.getElem?_eq_getElem hkl⟩
      obtain ⟨b, off, rfl, hr⟩ := hA.at hkN
      obtain ⟨b', off', rfl, hr'⟩ := hB.at hkN
      have h1 := hid (show w.cell? ⟨b, off + k, none⟩ = some (.string ⟨x.toArray⟩) from hr k _ (strsV_get hx))
      have h2 := hid (show w.cell? ⟨b', off' + k, none⟩ = some (.string ⟨x.toArray⟩) from hr' k _ (strsV_get hx))
      have hk2 : (k : Int) < (n : Int) := by omega
      have d1 : decide ((k : Int) < (n : Int)) = true := decide_eq_true hk2
      have n1 : (k : Int).toNat = k := by omega
      have n2 : (0 : Int) ≤ (k : Int) := by omega
      have z1 : IntKind.i64.wrap ((k : Int) + 1) = (k : Int) + 1 := IntWalk.i64_in _ (by omega)
      clear hr hr' hx hkl
      go_wp2_with (first | go_big_skip | go_big_guard | fail)
      have hD := hst.drew
      clear hst
      refine wp_region_held_drew (S := (fun w' => (loadVarH 9 ⟨b, off + k, none⟩).run Try.prog w' = .ok (.string ⟨x.toArray⟩) w' ∧ (loadVarH 9 ⟨b', off' + k, none⟩).run Try.prog w' = .ok (.string ⟨x.toArray⟩) w')) (by kernel_rfl) (by exact ⟨ldO hD (h1.out), ldO hD (h2.out)⟩) (fun hHeld => ?_)
      refine wpAnyH_take (i := 0) (oi := ⟨some 17, _, _, _, _, _⟩) (v := ?_) rfl (by kernel_rfl) (by kernel_rfl) (by kernel_rfl) (fun _ _ _ h => h) (Or.inl ⟨by rfl, ?_⟩) (by assumption) ?_
      rotate_left
      · intro w hSw; (try dsimp only at hSw); go_simp; try with_reducible rfl
      (try simp only [Act.put, List.setIfInBounds_toArray, List.set_cons_zero, List.set_cons_succ])
      refine wpAnyH_take (i := 1) (oi := ⟨some 18, _, _, _, _, _⟩) (v := ?_) rfl (by kernel_rfl) (by kernel_rfl) (by kernel_rfl) (fun _ _ _ h => h) (Or.inl ⟨by rfl, ?_⟩) (by assumption) ?_
      rotate_left
      · intro w hSw; (try dsimp only at hSw); go_simp; try with_reducible rfl
      (try simp only [Act.put, List.setIfInBounds_toArray, List.set_cons_zero, List.set_cons_succ])
      refine wpAnyH_take (i := 4) (oi := ⟨some 21, _, _, _, _, _⟩) (v := ?_) rfl (by kernel_rfl) (by kernel_rfl) (by kernel_rfl) (fun _ _ _ h => h) (Or.inl ⟨by rfl, ?_⟩) (by assumption) ?_
      rotate_left
      · intro w hSw; (try dsimp only at hSw); go_simp; try with_reducible rfl
      (try simp only [Act.put, List.setIfInBounds_toArray, List.set_cons_zero, List.set_cons_succ])
      refine wpAnyH_take (i := 5) (oi := ⟨some 22, _, _, _, _, _⟩) (v := ?_) rfl (by kernel_rfl) (by kernel_rfl) (by kernel_rfl) (fun _ _ _ h => h) (Or.inl ⟨by rfl, ?_⟩) (by assumption) ?_
      rotate_left
      · intro w hSw; (try dsimp only at hSw); go_simp; try with_reducible rfl
      (try simp only [Act.put, List.setIfInBounds_toArray, List.set_cons_zero, List.set_cons_succ])
      refine wpAnyH_take (i := 2) (oi := ⟨some 19, _, _, _, _, _⟩) (v := ?_) rfl (by kernel_rfl) (by kernel_rfl) (by kernel_rfl) (fun _ _ _ h => h) (Or.inl ⟨by rfl, ?_⟩) (by assumption) ?_
      rotate_left
      · intro w hSw; (try dsimp only at hSw); go_simp; try with_reducible rfl
      (try simp only [Act.put, List.setIfInBounds_toArray, List.set_cons_zero, List.set_cons_succ])
      refine wpAnyH_take (i := 6) (oi := ⟨some 23, _, _, _, _, _⟩) (v := ?_) rfl (by kernel_rfl) (by kernel_rfl) (by kernel_rfl) (fun _ _ _ h => h) (Or.inl ⟨by rfl, ?_⟩) (by assumption) ?_
      rotate_left
      · intro w hSw; (try dsimp only at hSw); go_simp; try with_reducible rfl
      (try simp only [Act.put, List.setIfInBounds_toArray, List.set_cons_zero, List.set_cons_succ])
      refine wpAnyH_take (i := 3) (oi := ⟨some 20, _, _, _, _, _⟩) (v := ?_) rfl (by kernel_rfl) (by kernel_rfl) (by kernel_rfl) (fun _ _ _ h => h) (Or.inl ⟨by rfl, ?_⟩) (by assumption) ?_
      rotate_left
      · intro w hSw; (try dsimp only at hSw); go_simp; try with_reducible rfl
      (try simp only [Act.put, List.setIfInBounds_toArray, List.set_cons_zero, List.set_cons_succ])
      refine wpAnyH_take (i := 7) (oi := ⟨some 24, _, _, _, _, _⟩) (v := ?_) rfl (by kernel_rfl) (by kernel_rfl) (by kernel_rfl) (fun _ _ _ h => h) (Or.inl ⟨by rfl, ?_⟩) (by assumption) ?_
      rotate_left
      · intro w hSw; (try dsimp only at hSw); go_simp; try with_reducible rfl
      (try simp only [Act.put, List.setIfInBounds_toArray, List.set_cons_zero, List.set_cons_succ])
      refine wpAnyH_take (i := 8) (oi := ⟨some 25, _, _, _, _, _⟩) (v := ?_) rfl (by kernel_rfl) (by kernel_rfl) (by kernel_rfl) (fun _ _ _ h => h) (Or.inl ⟨by rfl, ?_⟩) (by assumption) ?_
      rotate_left
      · intro w hSw; (try dsimp only at hSw); go_simp; try with_reducible rfl
      (try simp only [Act.put, List.setIfInBounds_toArray, List.set_cons_zero, List.set_cons_succ])
      refine wpAnyH_done (by kernel_rfl) ?_ _
      clear hHeld
      skip
      go_wp2_with (first | go_big_skip | go_big_guard | fail)
      go_roundw
      case rel => exact ⟨k + 1, by omega, by go_num, hD⟩
      case measure => simp [intOf]; omega
    · have e : k = n := by omega
      subst e
      have d1 : decide ((k : Int) < (k : Int)) = false := by simp
      go_wp2_with (first | go_big_skip | go_big_guard | fail)
      go_ret
      exact ⟨rfl, hst⟩
theorem sameI_eq (ao bo : Option Addr) (n c d : Nat) (l : List (Int)) (w : World) (hA : Rd w (.slice ao n c) 1 n (intsV l)) (hB : Rd w (.slice bo n d) 1 n (intsV l)) :
    Calls Try.prog 53 #[.slice ao n c, .slice bo n d] w fun e w' => e = .returned (.bool true) ∧ St w [] w' [] := by
  have hst := St.refl w
  have hN := hA.bd.2.1
  have hN2 := hA.bd.1
  have hlen : l.length = n := by have := hA.1; cases l <;> simp_all [intsV]
  have HN := hid hlen
  have d0 : ((n : Int) != (n : Int)) = false := by simp
  clear hlen
  go_enter Try.func53, Try.ntmps53
  go_wp2_with (first | go_big_skip | go_big_guard | fail)
  go_loopw [5] (fun q wr => ∃ k : Nat, k ≤ n ∧ q = .int .i64 k ∧ St w [] wr []) (fun q _ => n - (intOf q).toNat)
  case atStart => exact ⟨0, by omega, rfl, hst⟩
  case round =>
    clear hst
    obtain ⟨k, hk, rfl, hst⟩ := hrel
    by_cases hkN : k < n
    · have hkl : k < l.length := by rw [HN.out]; exact hkN
      obtain ⟨x, hx⟩ : ∃ x, l[k]? = some x := ⟨_, List.getElem?_eq_getElem hkl⟩
      obtain ⟨b, off, rfl, hr⟩ := hA.at hkN
      obtain ⟨b', off', rfl, hr'⟩ := hB.at hkN
      have h1 := hid (show w.cell? ⟨b, off + k, none⟩ = some (.int .i64 x) from hr k _ (intsV_get hx))
      have h2 := hid (show w.cell? ⟨b', off' + k, none⟩ = some (.int .i64 x) from hr' k _ (intsV_get hx))
      have hk2 : (k : Int) < (n : Int) := by omega
      have d1 : decide ((k : Int) < (n : Int)) = true := decide_eq_true hk2
      have n1 : (k : Int).toNat = k := by omega
      have n2 : (0 : Int) ≤ (k : Int) := by omega
      have z1 : IntKind.i64.wrap ((k : Int) + 1) = (k : Int) + 1 := IntWalk.i64_in _ (by omega)
      clear hr hr' hx hkl
      go_wp2_with (first | go_big_skip | go_big_guard | fail)
      have hD := hst.drew
      clear hst
      refine wp_region_held_drew (S := (fun w' => (loadVarH 3 ⟨b, off + k, none⟩).run Try.prog w' = .ok (.int .i64 x) w' ∧ (loadVarH 3 ⟨b', off' + k, none⟩).run Try.prog w' = .ok (.int .i64 x) w')) (by kernel_rfl) (by exact ⟨ldO hD (h1.out), ldO hD (h2.out)⟩) (fun hHeld => ?_)
      refine wpAnyH_take (i := 0) (oi := ⟨some 17, _, _, _, _, _⟩) (v := ?_) rfl (by kernel_rfl) (by kernel_rfl) (by kernel_rfl) (fun _ _ _ h => h) (Or.inl ⟨by rfl, ?_⟩) (by assumption) ?_
      rotate_left
      · intro w hSw; (try dsimp only at hSw); go_simp; try with_reducible rfl
      (try simp only [Act.put, List.setIfInBounds_toArray, List.set_cons_zero, List.set_cons_succ])
      refine wpAnyH_take (i := 1) (oi := ⟨some 18, _, _, _, _, _⟩) (v := ?_) rfl (by kernel_rfl) (by kernel_rfl) (by kernel_rfl) (fun _ _ _ h => h) (Or.inl ⟨by rfl, ?_⟩) (by assumption) ?_
      rotate_left
      · intro w hSw; (try dsimp only at hSw); go_simp; try with_reducible rfl
      (try simp only [Act.put, List.setIfInBounds_toArray, List.set_cons_zero, List.set_cons_succ])
      refine wpAnyH_take (i := 4) (oi := ⟨some 21, _, _, _, _, _⟩) (v := ?_) rfl (by kernel_rfl) (by kernel_rfl) (by kernel_rfl) (fun _ _ _ h => h) (Or.inl ⟨by rfl, ?_⟩) (by assumption) ?_
      rotate_left
      · intro w hSw; (try dsimp only at hSw); go_simp; try with_reducible rfl
      (try simp only [Act.put, List.setIfInBounds_toArray, List.set_cons_zero, List.set_cons_succ])
      refine wpAnyH_take (i := 5) (oi := ⟨some 22, _, _, _, _, _⟩) (v := ?_) rfl (by kernel_rfl) (by kernel_rfl) (by kernel_rfl) (fun _ _ _ h => h) (Or.inl ⟨by rfl, ?_⟩) (by assumption) ?_
      rotate_left
      · intro w hSw; (try dsimp only at hSw); go_simp; try with_reducible rfl
      (try simp only [Act.put, List.setIfInBounds_toArray, List.set_cons_zero, List.set_cons_succ])
      refine wpAnyH_take (i := 2) (oi := ⟨some 19, _, _, _, _, _⟩) (v := ?_) rfl (by kernel_rfl) (by kernel_rfl) (by kernel_rfl) (fun _ _ _ h => h) (Or.inl ⟨by rfl, ?_⟩) (by assumption) ?_
      rotate_left
      · intro w hSw; (try dsimp only at hSw); go_simp; try with_reducible rfl
      (try simp only [Act.put, List.setIfInBounds_toArray, List.set_cons_zero, List.set_cons_succ])
      refine wpAnyH_take (i := 6) (oi := ⟨some 23, _, _, _, _, _⟩) (v := ?_) rfl (by kernel_rfl) (by kernel_rfl) (by kernel_rfl) (fun _ _ _ h => h) (Or.inl ⟨by rfl, ?_⟩) (by assumption) ?_
      rotate_left
      · intro w hSw; (try dsimp only at hSw); go_simp; try with_reducible rfl
      (try simp only [Act.put, List.setIfInBounds_toArray, List.set_cons_zero, List.set_cons_succ])
      refine wpAnyH_take (i := 3) (oi := ⟨some 20, _, _, _, _, _⟩) (v := ?_) rfl (by kernel_rfl) (by kernel_rfl) (by kernel_rfl) (fun _ _ _ h => h) (Or.inl ⟨by rfl, ?_⟩) (by assumption) ?_
      rotate_left
      · intro w hSw; (try dsimp only at hSw); go_simp; try with_reducible rfl
      (try simp only [Act.put, List.setIfInBounds_toArray, List.set_cons_zero, List.set_cons_succ])
      refine wpAnyH_take (i := 7) (oi := ⟨some 24, _, _, _, _, _⟩) (v := ?_) rfl (by kernel_rfl) (by kernel_rfl) (by kernel_rfl) (fun _ _ _ h => h) (Or.inl ⟨by rfl, ?_⟩) (by assumption) ?_
      rotate_left
      · intro w hSw; (try dsimp only at hSw); go_simp; try with_reducible rfl
      (try simp only [Act.put, List.setIfInBounds_toArray, List.set_cons_zero, List.set_cons_succ])
      refine wpAnyH_take (i := 8) (oi := ⟨some 25, _, _, _, _, _⟩) (v := ?_) rfl (by kernel_rfl) (by kernel_rfl) (by kernel_rfl) (fun _ _ _ h => h) (Or.inl ⟨by rfl, ?_⟩) (by assumption) ?_
      rotate_left
      · intro w hSw; (try dsimp only at hSw); go_simp; try with_reducible rfl
      (try simp only [Act.put, List.setIfInBounds_toArray, List.set_cons_zero, List.set_cons_succ])
      refine wpAnyH_done (by kernel_rfl) ?_ _
      clear hHeld
      skip
      go_wp2_with (first | go_big_skip | go_big_guard | fail)
      go_roundw
      case rel => exact ⟨k + 1, by omega, by go_num, hD⟩
      case measure => simp [intOf]; omega
    · have e : k = n := by omega
      subst e
      have d1 : decide ((k : Int) < (k : Int)) = false := by simp
      go_wp2_with (first | go_big_skip | go_big_guard | fail)
      go_ret
      exact ⟨rfl, hst⟩
end
theorem sameOrder_eq (o : OV) (al bl ab bb : Option Addr) (cl dl cb db : Nat) (w : World) (hl : Rd w (.slice al o.l.length cl) 1 o.l.length (strsV o.l)) (hk : Rd w (.slice bl o.l.length dl) 1 o.l.length (strsV o.l)) (hb : Rd w (.slice ab o.b.length cb) 1 o.b.length (bytesV o.b)) (hc : Rd w (.slice bb o.b.length db) 1 o.b.length (bytesV o.b)) :
    Calls Try.prog 20 #[.agg (o.cells (.slice al o.l.length cl) (.slice ab o.b.length cb)).toArray, .agg (o.cells (.slice bl o.l.length dl) (.slice bb o.b.length db)).toArray] w fun e w' => e = .returned (.bool true) ∧ St w [] w' [] := by
  have hst0 := St.refl w
  have HL := hid hl
  have HK := hid hk
  have HB := hid hb
  have HC := hid hc
  obtain ⟨nl, hnl⟩ : ∃ nl, nl = o.l.length := ⟨_, rfl⟩
  obtain ⟨nb, hnb⟩ : ∃ nb, nb = o.b.length := ⟨_, rfl⟩
  rw [← hnl] at HL HK ⊢
  rw [← hnb] at HB HC ⊢
  clear hl hk hb hc hnl hnb
  show Calls Try.prog 20 #[.agg (List.toArray [.int .i64 o.op, .string ⟨o.name.toArray⟩, .string ⟨o.dest.toArray⟩, .int .i64 o.n, .int .i64 o.m, .slice al nl cl, .slice ab nb cb]), .agg (List.toArray [.int .i64 o.op, .string ⟨o.name.toArray⟩, .string ⟨o.dest.toArray⟩, .int .i64 o.n, .int .i64 o.m, .slice bl nl dl, .slice bb nb db])] w _
  go_enter Try.func20, Try.ntmps20
  go_wp2_with (first | go_big_skip | go_big_guard | (refine wl_boxA hst0 rfl rfl rfl ?_; intro g1 _ hst1; clear hst0) | (refine wl_boxA hst1 rfl rfl rfl ?_; intro g2 _ hst; clear hst1) | (refine wl_loadE rfl rfl rfl ?_; first | refine ⟨_, Loads.at [_] hst rfl, ?_⟩ | refine ⟨_, Loads.at [] hst rfl, ?_⟩) | (go_at_call 43; refine (sameS_eq al bl nl cl dl o.l _ (Rd.old hst HL.out) (Rd.old hst HK.out)).mono ?_; rintro _ w9 ⟨rfl, h4⟩; replace hst := St.call0 hst h4; clear h4) | (go_at_call 14; refine (sameBytes_any _ _ nb nb o.b o.b _ (Rd.old hst HB.out) (Rd.old hst HC.out)).mono ?_; rw [beq_self_eq_true]; rintro _ w9 ⟨rfl, h4⟩; replace hst := St.call0 hst h4; clear h4))
  go_ret
  exact ⟨rfl, hst.nil⟩
end Go.Proofs.Ytalfdcfcaamnbaa
namespace Go.Proofs.Ytalfdcfcaamnbaa
set_option linter.unusedVariables false
set_option linter.unusedSimpArgs false
open Go.RowKit Hp
attribute [local irreducible] Go.Calls Go.wpList
set_option maxRecDepth 100000
set_option maxHeartbeats 4000000
def markI (i : Nat) : Value := .int .i64 (-77 - (i : Int))
def lentTI (n : Nat) : Nat → List Value
  | 0 => [.int .i64 0, .int .i64 0, .int .i64 0]
  | 1 => [markI n, .int .i64 0, .int .i64 0]
  | 2 => [markI n, markI (n + 1), .int .i64 0]
  | _ => [markI n, markI (n + 1), markI (n + 2)]
def lentI (l : List Int) : List Int := l ++ [-77 - (l.length : Int), -77 - ((l.length + 1 : Nat) : Int), -77 - ((l.length + 2 : Nat) : Int)]
theorem lentI_V (l : List Int) : intsV (lentI l) = intsV l ++ lentTI l.length 3 := by simp [lentI, intsV, lentTI, markI]
theorem length_lentI (l : List Int) : (lentI l).length = l.length + 3 := by simp [lentI]
theorem len_lentTI (n j : Nat) : (lentTI n j).length = 3 := by
  match j with
  | 0 => rfl
  | 1 => rfl
  | 2 => rfl
  | _ + 3 => rfl
theorem put_lentI (l : List Int) (k j : Nat) (hk : k = l.length + j) (hj : j < 3) : putAt (intsV l ++ lentTI l.length j) k [markI k] = intsV l ++ lentTI l.length (j + 1) := by
  subst hk
  have := put_app (intsV l) (lentTI l.length j) j [markI (l.length + j)]
  rw [length_intsV] at this
  rw [this]
  congr 1
  match j, hj with
  | 0, _ => rfl
  | 1, _ => rfl
  | 2, _ => rfl
theorem lentInts_any (ao : Option Addr) (n c : Nat) (l : List Int) (w : World) (hA : Rd w (.slice ao n c) 1 n (intsV l)) (hn : l.length = n) (hb : n ≤ 100000) :
    Calls Try.prog 26 #[.slice ao n c] w fun e w' => ∃ g, e = .returned (.slice (some ⟨g, 0, none⟩) n (n + 3)) ∧ St w [] w' [.blk g 3 (intsV (lentI l))] := by
  have hst := St.refl w
  have Hn := hid hn; clear hn
  go_enter Try.func26, Try.ntmps26
  go_wp2_with (first | go_big_skip | go_big_guard | (apply wl_make (n + 3) (n + 3) hst; rfl; rfl; exact rfl; exact rfl; infer_instance; infer_instance; infer_instance; (push_cast; rfl); (push_cast; rfl); exact Nat.le_refl _; (constructor <;> omega); intro g _ hst1; clear hst) | (apply wl_copy [] hst1; rfl; rfl; exact rfl; exact rfl; infer_instance; infer_instance; exact Rd.old hst1 hA; exact ones_intsV l; omega; (simp <;> omega); intro w2 hst2; clear hst1))
  have e : putAt (List.replicate (n + 3) (Value.int .i64 0)) 0 (intsV l) = intsV l ++ lentTI n 0 := by
    simp only [putAt, List.take_zero, List.nil_append, length_intsV, Hn.out, List.drop_replicate, Nat.zero_add]
    congr 1
    rw [show n + 3 - n = 3 by omega]
    rfl
  rw [e] at hst2
  clear e
  have hst3 : St w [] w2 [.blk g 3 (intsV l ++ lentTI n 0)] := hst2
  clear hst2
  go_loopw [4] (fun i wr => ∃ k j : Nat, i = .int .i64 k ∧ Hid (k = n + j) ∧ j ≤ 3 ∧ St w [] wr [.blk g 3 (intsV l ++ lentTI n j)]) (fun i _ => n + 3 - (intOf i).toNat)
  case atStart => exact ⟨n, 0, rfl, hid rfl, by omega, hst3⟩
  case round =>
    clear hst3
    obtain ⟨k, j, rfl, hkj, hj, hst⟩ := hrel
    by_cases hj3 : j < 3
    · have hk : k < n + 3 := by rw [hkj.out]; omega
      have hk2 : n ≤ k := by rw [hkj.out]; omega
      have z2 : IntKind.i64.wrap (-77 - (k : Int)) = -77 - (k : Int) := IntWalk.i64_in _ (by omega)
      go_wp2_with (first | go_big_skip | go_big_guard | (refine wl_index rfl rfl rfl rfl hk ?_) | (refine wl_store [] hst rfl rfl rfl (v := .int _ _) rfl rfl rfl (by simp [Value.cells, len_lentTI, Hn.out]; omega) ?_; intro w5 hst4; clear hst))
      have e := put_lentI l k j (by rw [Hn.out]; exact hkj.out) hj3
      rw [Hn.out] at e
      rw [Nat.zero_add, Nat.mul_one] at hst4
      have e2 : putAt (intsV l ++ lentTI n j) k (markI k).cells.toList = intsV l ++ lentTI n (j + 1) := e
      have hst6 : St w [] w5 [.blk g 3 (putAt (intsV l ++ lentTI n j) k (markI k).cells.toList)] := hst4
      rw [e2] at hst6
      clear e e2 hst4 z2
      have hst5 : St w [] w5 [.blk g 3 (intsV l ++ lentTI n (j + 1))] := hst6
      clear hst6
      have Hk1 := hid (show k + 1 = n + (j + 1) by rw [hkj.out]; omega)
      go_roundw
      case rel => exact ⟨k + 1, j + 1, by go_num, Hk1, by omega, hst5⟩
      case measure => simp [intOf]; omega
    · have e : k = n + 3 := by rw [hkj.out]; omega
      have ej : j = 3 := by omega
      subst ej
      clear hkj hj hj3
      subst e
      go_wp2_with (first | go_big_skip | go_big_guard | fail)
      go_ret
      refine ⟨g, rfl, ?_⟩
      have e : intsV (lentI l) = intsV l ++ lentTI n 3 := by rw [lentI_V, Hn.out]
      rw [e]; exact hst
theorem keptI_any (ao : Option Addr) (g n c : Nat) (l : List Int) (w : World) (L : List HA) (w0 : World) (hst0 : St w0 [] w L) (hg : HA.blk g 3 (intsV (lentI l)) ∈ L) (hA : Rd w (.slice ao n c) 1 n (intsV l)) (hn : l.length = n) (hb : n ≤ 100000) :
    Calls Try.prog 29 #[.slice (some ⟨g, 0, none⟩) n (n + 3), .slice ao n c] w fun e w' => e = .returned (.bool true) ∧ St w [] w' [] := by
  have hl : Rd w (.slice (some ⟨g, 0, none⟩) (n + 3) (n + 3)) 1 (n + 3) (intsV (lentI l)) := Rd.blk hst0 hg (Nat.le_refl _) (by unfold maxLen; omega) (by rw [length_intsV, length_lentI, hn]; omega) (by rw [List.drop_zero, List.take_length])
  clear hst0 hg
  have Hn := hid hn; clear hn
  have hst := St.refl w
  have a0 : (0 : Int) ≤ (n : Int) + 3 := by omega
  have a1 : ((n : Int) + 3).toNat = n + 3 := by omega
  have a2 : IntKind.i64.wrap ((n : Int) + 3) = (n : Int) + 3 := IntWalk.i64_in _ (by omega)
  have a3 : ((n + 3 : Nat) : Int) = (n : Int) + 3 := by omega
  have a4 : (n : Int) + 3 ≤ 9223372036854775807 := by omega
  go_enter Try.func29, Try.ntmps29
  go_wp2_with (first | go_big_skip | go_big_guard | fail)
  have hD := hst.drew; clear hst
  go_region_held3 (fun _ => True) (trivial) (first
    | (go_at_call 26; refine (lentInts_any ao n c l _ (Rd.old hD hA) Hn.out hb).mono ?_; rintro _ _ ⟨g2, rfl, h4⟩; have hst2 := St.call hD h4; clear h4 hD)
    | (go_at_call 53; refine (sameI_eq _ _ (n + 3) _ _ (lentI l) _ (Rd.old hst2 hl) (Rd.blk0 hst2 (by rw [length_intsV, length_lentI, Hn.out]; omega) (by omega))).mono ?_; rintro _ _ ⟨rfl, h4⟩; have hst3 := St.call0 hst2 h4; clear h4 hst2))
  go_goals
  all_goals (go_wp2; go_ret; exact ⟨rfl, hst3.nil⟩)
theorem sameReply_eq (r : RV) (al bl ab bb : Option Addr) (cl dl cb db : Nat) (w : World) (hl : Rd w (.slice al r.n.length cl) 1 r.n.length (intsV r.n)) (hk : Rd w (.slice bl r.n.length dl) 1 r.n.length (intsV r.n)) (hb : Rd w (.slice ab r.b.length cb) 1 r.b.length (bytesV r.b)) (hc : Rd w (.slice bb r.b.length db) 1 r.b.length (bytesV r.b)) :
    Calls Try.prog 32 #[.agg (r.cells (.slice al r.n.length cl) (.slice ab r.b.length cb)).toArray, .agg (r.cells (.slice bl r.n.length dl) (.slice bb r.b.length db)).toArray] w fun e w' => e = .returned (.bool true) ∧ St w [] w' [] := by
  have hst0 := St.refl w
  have HL := hid hl
  have HK := hid hk
  have HB := hid hb
  have HC := hid hc
  obtain ⟨nl, hnl⟩ : ∃ nl, nl = r.n.length := ⟨_, rfl⟩
  obtain ⟨nb, hnb⟩ : ∃ nb, nb = r.b.length := ⟨_, rfl⟩
  rw [← hnl] at HL HK ⊢
  rw [← hnb] at HB HC ⊢
  clear hl hk hb hc hnl hnb
  show Calls Try.prog 32 #[.agg (List.toArray [.int .i64 r.err, .slice al nl cl, .slice ab nb cb]), .agg (List.toArray [.int .i64 r.err, .slice bl nl dl, .slice bb nb db])] w _
  go_enter Try.func32, Try.ntmps32
  go_wp2_with (first | go_big_skip | go_big_guard | (refine wl_boxA hst0 rfl rfl rfl ?_; intro g1 _ hst1; clear hst0) | (refine wl_boxA hst1 rfl rfl rfl ?_; intro g2 _ hst; clear hst1) | (refine wl_loadE rfl rfl rfl ?_; first | refine ⟨_, Loads.at [_] hst rfl, ?_⟩ | refine ⟨_, Loads.at [] hst rfl, ?_⟩) | (go_at_call 53; refine (sameI_eq al bl nl cl dl r.n _ (Rd.old hst HL.out) (Rd.old hst HK.out)).mono ?_; rintro _ w9 ⟨rfl, h4⟩; replace hst := St.call0 hst h4; clear h4) | (go_at_call 14; refine (sameBytes_any _ _ nb nb r.b r.b _ (Rd.old hst HB.out) (Rd.old hst HC.out)).mono ?_; rw [beq_self_eq_true]; rintro _ w9 ⟨rfl, h4⟩; replace hst := St.call0 hst h4; clear h4))
  go_ret
  exact ⟨rfl, hst.nil⟩
end Go.Proofs.Ytalfdcfcaamnbaa
namespace Go.Proofs.Ytalfdcfcaamnbaa
set_option linter.unusedVariables false
set_option linter.unusedSimpArgs false
open Go.RowKit Hp
theorem beN_numB_take (n : Int) (k i : Nat) (h0 : 0 ≤ n) (h : n < 2 ^ (8 * k)) (hi : i ≤ k) : (beN ((numB n k).take i) : Int) = n / 2 ^ (8 * (k - i)) := by
  induction i with
  | zero =>
    rw [List.take_zero, Nat.sub_zero, Int.ediv_eq_zero_of_lt h0 h]
    rfl
  | succ i ih =>
    rw [numB_take n k i hi, beN_snoc]
    have h1 := ih (by omega)
    rw [Int.natCast_add, Int.natCast_mul, h1, byteAt_int, show k - 1 - i = k - (i + 1) by omega, show ((256 : Nat) : Int) = 256 from rfl]
    have h2 : (2 : Int) ^ (8 * (k - i)) = 2 ^ (8 * (k - (i + 1))) * 256 := by
      rw [show 8 * (k - i) = 8 * (k - (i + 1)) + 8 by omega, Int.pow_add]
      rfl
    rw [h2, ← Int.ediv_ediv_of_nonneg (Int.le_of_lt (Int.pow_pos (by decide)))]
    omega
theorem beN_numB (n : Int) (k : Nat) (h0 : 0 ≤ n) (h : n < 2 ^ (8 * k)) : (beN (numB n k) : Int) = n := by
  have := beN_numB_take n k k h0 h (Nat.le_refl _)
  rw [List.take_of_length_le (by rw [length_numB]; exact Nat.le_refl _), Nat.sub_self, Nat.mul_zero] at this
  rw [this]
  simp
theorem nz_zeros (k : Nat) : nz (List.replicate k 0) = none := nz_eq_none (fun i hi => by
  rw [List.length_replicate] at hi
  simp [List.getD, hi])
theorem nz_zeros' {l : List UInt8} (h : nz l = none) : l = List.replicate l.length 0 := by
  apply List.ext_getElem (by simp)
  intro i h1 h2
  have := nz_none h i h1
  simp [List.getD, h1] at this
  simpa using this
theorem numB_beN (l : List UInt8) : numB (beN l) l.length = l := by
  suffices h : ∀ (k : Nat) (l : List UInt8), l.length = k → ∀ m : Nat, numB ((m * 256 ^ k + beN l : Nat) : Int) k = l by
    have := h l.length l rfl 0
    simpa using this
  intro k
  induction k with
  | zero => intro l hl m; rw [List.eq_nil_of_length_eq_zero hl]; rfl
  | succ k ih =>
    intro l hl m
    match l, hl with
    | x :: l, hl =>
      have hl' : l.length = k := by simpa using hl
      have hb : beN (x :: l) = x.toNat * 256 ^ k + beN l := by
        have : ∀ (l : List UInt8) (a : Nat), l.foldl (fun a x => a * 256 + x.toNat) a = a * 256 ^ l.length + beN l := by
          intro l
          induction l with
          | nil => intro a; simp [beN]
          | cons y l ih =>
            intro a
            unfold beN
            rw [List.foldl_cons, List.foldl_cons, ih, ih (0 * 256 + y.toNat), List.length_cons, Nat.pow_succ]
            simp only [Nat.zero_mul, Nat.zero_add, Nat.add_mul, Nat.mul_assoc, Nat.mul_comm 256]
            omega
        have h9 := this l (0 * 256 + x.toNat)
        rw [hl', Nat.zero_mul, Nat.zero_add] at h9
        unfold beN at h9 ⊢
        rw [List.foldl_cons, Nat.zero_mul, Nat.zero_add]
        exact h9
      have hlt := beN_lt l
      rw [hl'] at hlt
      have hcast : ((m * 256 ^ (k + 1) + beN (x :: l) : Nat) : Int) = (((m * 256 + x.toNat) * 256 ^ k + beN l : Nat) : Int) := by
        congr 1
        rw [hb, Nat.pow_succ, Nat.add_mul, Nat.mul_assoc, Nat.mul_comm 256]
        omega
      rw [hcast]
      show byteAt _ k :: numB _ k = x :: l
      congr 1
      · have h1 := byteAt_int (((m * 256 + x.toNat) * 256 ^ k + beN l : Nat) : Int) k
        have h2 : (2 : Int) ^ (8 * k) = ((256 ^ k : Nat) : Int) := by
          rw [Int.pow_mul, Int.natCast_pow, show (2 : Int) ^ 8 = ((256 : Nat) : Int) from rfl]
        have hdiv : ((m * 256 + x.toNat) * 256 ^ k + beN l) / 256 ^ k = m * 256 + x.toNat := by
          rw [Nat.add_comm, Nat.add_mul_div_right _ _ (Nat.pow_pos (by decide)), Nat.div_eq_of_lt hlt, Nat.zero_add]
        rw [h2, ← Int.natCast_ediv, hdiv] at h1
        have hx := x.toNat_lt
        apply UInt8.toNat_inj.1
        omega
      · exact ih l hl' (m * 256 + x.toNat)
/-- The bytes of a text of at most 48. -/
def textT (s : List UInt8) : List UInt8 := UInt8.ofNat s.length :: (s ++ List.replicate (48 - s.length) 0)
theorem length_textT {s : List UInt8} (h : s.length ≤ 48) : (textT s).length = 49 := by
  unfold textT
  rw [List.length_cons, List.length_append, List.length_replicate]
  omega
theorem numR_fit {n : Int} {k : Nat} (h1 : 1 ≤ k ∧ k ≤ 7) (h0 : 0 ≤ n) (h : n < 2 ^ (8 * k)) : numR n (k : Int) = (0, numB n k) := by
  unfold numR
  rw [if_neg (by omega), if_neg (by
    rw [show (8 * (k : Int)).toNat = 8 * k by omega]
    have := Int.ediv_eq_zero_of_lt h0 h
    omega), Int.toNat_natCast]
theorem textR_fit {s : List UInt8} (h : s.length ≤ 48) : textR s 48 = (0, textT s) := by
  unfold textR textT
  rw [if_neg (by decide), if_neg (by omega)]
  rfl
theorem num_fwd {A C : List UInt8} {n low high : Int} {k : Nat} (h1 : 1 ≤ k ∧ k ≤ 7) (h0 : 0 ≤ n) (h : n < 2 ^ (8 * k)) (hl : low ≤ n) (hh : n ≤ high) : numRR (A ++ (numB n k ++ C)) A.length (k : Int) low high = .ok n (A.length + k) := by
  have hk : (numB n k).length = k := length_numB _ _
  have hd : ((A ++ (numB n k ++ C)).drop A.length).take k = numB n k := by
    rw [List.drop_left, List.take_append_of_le_length (by omega), List.take_of_length_le (by omega)]
  have hb := beN_numB n k h0 h
  unfold numRR
  rw [Int.toNat_natCast, if_neg (by omega), if_neg (by rw [List.length_append, List.length_append]; omega), hd, hb, if_neg (by omega)]
theorem text_fwd {A C s : List UInt8} (h : s.length ≤ 48) : textRR (A ++ (textT s ++ C)) A.length 48 = .ok s (A.length + 49) := by
  have hl := length_textT h
  have hg : ((A ++ (textT s ++ C)).getD A.length 0).toNat = s.length := by
    unfold textT
    rw [List.getD_eq_getElem?_getD, List.getElem?_append_right (Nat.le_refl _), Nat.sub_self]
    simp
    omega
  have hd1 : (A ++ (textT s ++ C)).drop (A.length + 1) = s ++ (List.replicate (48 - s.length) 0 ++ C) := by
    rw [List.drop_append, List.drop_of_length_le (by omega), List.nil_append, show A.length + 1 - A.length = 1 by omega]
    simp [textT]
  have hd2 : (A ++ (textT s ++ C)).drop (A.length + 1 + s.length) = List.replicate (48 - s.length) 0 ++ C := by
    rw [← List.drop_drop, hd1, List.drop_left]
  unfold textRR
  rw [if_neg (by decide), if_neg (by rw [List.length_append, List.length_append]; omega), if_neg (by rw [hg]; omega), hg, hd1, hd2, show (48 : Int).toNat = 48 from rfl,
    List.take_append_of_le_length (by rw [List.length_replicate]; exact Nat.le_refl _), List.take_of_length_le (by rw [List.length_replicate]; exact Nat.le_refl _), nz_zeros, List.take_left]
theorem raw_fwd {A C b : List UInt8} : rawRR (A ++ (b ++ C)) A.length (b.length : Int) = .ok b (A.length + b.length) := by
  unfold rawRR
  rw [if_neg (by omega), if_neg (by rw [List.length_append, List.length_append]; omega), List.drop_left, Int.toNat_natCast, List.take_left]
theorem num_rev {B : List UInt8} {p p' k : Nat} {low high v : Int} (h : numRR B p (k : Int) low high = .ok v p') : numR v (k : Int) = (0, (B.drop p).take k) ∧ p' = p + k ∧ p' ≤ B.length ∧ low ≤ v ∧ v ≤ high := by
  unfold numRR at h
  rw [Int.toNat_natCast] at h
  split at h
  · cases h
  · split at h
    · cases h
    · split at h
      · cases h
      · cases h
        have hl : ((B.drop p).take k).length = k := by rw [List.length_take, List.length_drop]; omega
        have hlt := beN_lt ((B.drop p).take k)
        rw [hl] at hlt
        refine ⟨?_, rfl, by omega, by omega, by omega⟩
        rw [numR_fit (by omega) (by omega) (by
          rw [Int.pow_mul, show (2 : Int) ^ 8 = ((256 : Nat) : Int) from rfl, ← Int.natCast_pow]
          exact Int.ofNat_lt.2 hlt)]
        have h9 := numB_beN ((B.drop p).take k)
        rw [hl] at h9
        rw [h9]
theorem raw_rev {B v : List UInt8} {p p' : Nat} {m : Int} (h : rawRR B p m = .ok v p') : v = (B.drop p).take m.toNat ∧ p' = p + m.toNat ∧ p' ≤ B.length ∧ (v.length : Int) = m := by
  unfold rawRR at h
  split at h
  · cases h
  · split at h
    · cases h
    · cases h
      refine ⟨rfl, rfl, by omega, ?_⟩
      rw [List.length_take, List.length_drop]
      omega
end Go.Proofs.Ytalfdcfcaamnbaa
namespace Go.Proofs.Ytalfdcfcaamnbaa
set_option linter.unusedVariables false
set_option linter.unusedSimpArgs false
open Go.RowKit Hp
theorem putAll_fit {α : Type} {f : α → WR} {g : α → List UInt8} : ∀ (l : List α) (S : List UInt8), (∀ x ∈ l, f x = (0, g x)) → S.length + (l.flatMap g).length ≤ 65536 → putAll (0, S) (l.map f) = (0, S ++ l.flatMap g)
  | [], S, _, _ => by simp [putAll]
  | x :: l, S, h, hl => by
    have hx := h x List.mem_cons_self
    rw [List.flatMap_cons, List.length_append] at hl
    show putAll (putW (0, S) (f x)) (l.map f) = _
    rw [hx, putW_ok rfl (by show ¬ 65536 < S.length + (g x).length; omega), putAll_fit l _ (fun y hy => h y (List.mem_cons_of_mem _ hy)) (by rw [List.length_append]; show S.length + (g x).length + _ ≤ _; omega), List.flatMap_cons, List.append_assoc]
def RV.parts (r : RV) : List UInt8 := numB r.err 2 ++ (numB (r.n.length : Int) 2 ++ (r.n.flatMap (fun t => numB t 5) ++ (numB (r.b.length : Int) 3 ++ r.b)))
theorem RV.fine_is {r : RV} (h : r.fine = true) : 0 ≤ r.err ∧ r.err ≤ 999 ∧ r.n.length ≤ 2000 ∧ r.b.length ≤ 16384 ∧ ∀ t ∈ r.n, 0 ≤ t ∧ t ≤ 1099511627775 := by
  unfold RV.fine at h
  split at h
  · cases h
  · rename_i hh
    refine ⟨by omega, by omega, by omega, by omega, fun t ht => ?_⟩
    have h1 : ¬ r.n.any oddW = true := fun hc => hh (.inr (.inr (.inr (.inr hc))))
    have h2 : oddW t = false := by
      cases ho : oddW t
      · rfl
      · exact absurd (List.any_eq_true.2 ⟨t, ht, ho⟩) h1
    unfold oddW at h2
    simp only [Bool.or_eq_false_iff, decide_eq_false_iff_not] at h2
    omega
theorem length_nums (l : List Int) : (l.flatMap fun t => numB t 5).length = 5 * l.length := by
  induction l with
  | nil => rfl
  | cons t l ih => rw [List.flatMap_cons, List.length_append, length_numB, ih, List.length_cons]; omega
theorem putR_fine {r : RV} (h : r.fine = true) : putR r = (0, r.parts) := by
  obtain ⟨h1, h2, h3, h4, h5⟩ := RV.fine_is h
  have e1 : numR r.err 2 = (0, numB r.err 2) := numR_fit (k := 2) (by decide) h1 (by show r.err < 65536; omega)
  have e2 : numR (r.n.length : Int) 2 = (0, numB (r.n.length : Int) 2) := numR_fit (k := 2) (by decide) (by omega) (by show (r.n.length : Int) < 65536; omega)
  have e3 : ∀ t ∈ r.n, (fun t => numR t 5) t = (0, (fun t => numB t 5) t) := fun t ht => numR_fit (k := 5) (by decide) (h5 t ht).1 (by have := (h5 t ht).2; show t < 1099511627776; omega)
  have e4 : numR (r.b.length : Int) 3 = (0, numB (r.b.length : Int) 3) := numR_fit (k := 3) (by decide) (by omega) (by show (r.b.length : Int) < 16777216; omega)
  have l2 : ∀ z : Int, (numB z 2).length = 2 := fun z => length_numB z 2
  have l3 : ∀ z : Int, (numB z 3).length = 3 := fun z => length_numB z 3
  have ln := length_nums r.n
  unfold putR
  rw [if_pos h]
  show putW (putW (putAll (putW (putW (0, []) (numR r.err 2)) (numR (r.n.length : Int) 2)) (r.n.map fun t => numR t 5)) (numR (r.b.length : Int) 3)) (0, r.b) = _
  rw [e1, putW_ok rfl (by show ¬ 65536 < 0 + (numB r.err 2).length; rw [l2]; decide), List.nil_append, e2, putW_ok rfl (by show ¬ 65536 < (numB r.err 2).length + (numB (r.n.length : Int) 2).length; rw [l2, l2]; decide)]
  rw [putAll_fit r.n _ e3 (by rw [List.length_append, ln]; show (numB r.err 2).length + (numB (r.n.length : Int) 2).length + _ ≤ _; rw [l2, l2]; omega)]
  rw [e4, putW_ok rfl (by rw [List.length_append, List.length_append, ln]; show ¬ 65536 < (numB r.err 2).length + (numB (r.n.length : Int) 2).length + _ + (numB (r.b.length : Int) 3).length; rw [l2, l2, l3]; omega)]
  rw [putW_ok rfl (by rw [List.length_append, List.length_append, List.length_append, ln]; show ¬ 65536 < (numB r.err 2).length + (numB (r.n.length : Int) 2).length + _ + (numB (r.b.length : Int) 3).length + r.b.length; rw [l2, l2, l3]; omega)]
  unfold RV.parts
  simp only [List.append_assoc]
theorem length_parts (r : RV) : r.parts.length = 7 + 5 * r.n.length + r.b.length := by
  unfold RV.parts
  rw [List.length_append, List.length_append, List.length_append, List.length_append, length_numB, length_numB, length_numB, length_nums]
  omega
end Go.Proofs.Ytalfdcfcaamnbaa
namespace Go.Proofs.Ytalfdcfcaamnbaa
set_option linter.unusedVariables false
set_option linter.unusedSimpArgs false
open Go.RowKit Hp
theorem stepR_ok {α : Type} {p p' : Nat} {r : RR α} {v d : α} (h : r = .ok v p') : stepR ⟨p, 0, 0⟩ r d = (⟨p', 0, 0⟩, v) := by
  rw [h]; rfl
theorem many_fwd {A C : List UInt8} {l : List Int} (h : ∀ t ∈ l, 0 ≤ t ∧ t ≤ 1099511627775) : ∀ k, k ≤ l.length → manyS (wideF (A ++ ((l.flatMap fun t => numB t 5) ++ C))) ⟨A.length, 0, 0⟩ k = (⟨A.length + 5 * k, 0, 0⟩, l.take k)
  | 0, _ => by simp [manyS]
  | k + 1, hk => by
    have ih := many_fwd (A := A) (C := C) h k (by omega)
    obtain ⟨t, ht⟩ : ∃ t, l[k]? = some t := ⟨_, List.getElem?_eq_getElem (by omega)⟩
    have hb := h t (List.mem_of_getElem? ht)
    have hl : l = l.take k ++ t :: l.drop (k + 1) := by
      have h1 := List.drop_eq_getElem_cons (l := l) (i := k) (by omega)
      rw [(List.getElem?_eq_some_iff.1 ht).2] at h1
      rw [← h1, List.take_append_drop]
    have hB : A ++ ((l.flatMap fun t => numB t 5) ++ C) = (A ++ ((l.take k).flatMap fun t => numB t 5)) ++ (numB t 5 ++ (((l.drop (k + 1)).flatMap fun t => numB t 5) ++ C)) := by
      conv => lhs; rw [hl]
      simp only [List.flatMap_append, List.flatMap_cons, List.append_assoc]
    have hp : (A ++ ((l.take k).flatMap fun t => numB t 5)).length = A.length + 5 * k := by rw [List.length_append, length_nums, List.length_take]; omega
    have e := num_fwd (A := A ++ ((l.take k).flatMap fun t => numB t 5)) (C := ((l.drop (k + 1)).flatMap fun t => numB t 5) ++ C) (n := t) (low := 0) (high := 1099511627775) (k := 5) (by decide) hb.1 (by have := hb.2; show t < 1099511627776; omega) hb.1 hb.2
    rw [← hB, hp] at e
    have e' : wideF (A ++ ((l.flatMap fun t => numB t 5) ++ C)) ⟨A.length + 5 * k, 0, 0⟩ = (⟨A.length + 5 * k + 5, 0, 0⟩, t) := stepR_ok e
    show ((wideF _ (manyS _ _ k).1).1, (manyS _ _ k).2 ++ [(wideF _ (manyS _ _ k).1).2]) = _
    rw [ih, e', List.take_add_one, ht]
    simp only [Option.toList_some]
    rw [show A.length + 5 * (k + 1) = A.length + 5 * k + 5 by omega]
theorem getR_parts {r : RV} (h : r.fine = true) : getR r.parts = (r, 0, 0) := by
  obtain ⟨h1, h2, h3, h4, h5⟩ := RV.fine_is h
  obtain ⟨B, hB⟩ : ∃ B, B = r.parts := ⟨_, rfl⟩
  have l2 : ∀ z : Int, (numB z 2).length = 2 := fun z => length_numB z 2
  have l3 : ∀ z : Int, (numB z 3).length = 3 := fun z => length_numB z 3
  have ln := length_nums r.n
  have lB : B.length = 7 + 5 * r.n.length + r.b.length := by rw [hB]; exact length_parts r
  have e1 : numRR B 0 2 0 999 = .ok r.err 2 := by
    have e := num_fwd (A := []) (C := numB (r.n.length : Int) 2 ++ ((r.n.flatMap fun t => numB t 5) ++ (numB (r.b.length : Int) 3 ++ r.b))) (n := r.err) (low := 0) (high := 999) (k := 2) (by decide) h1 (by show r.err < 65536; omega) h1 h2
    rw [hB]; exact e
  have e2 : numRR B 2 2 0 2000 = .ok (r.n.length : Int) 4 := by
    have e := num_fwd (A := numB r.err 2) (C := (r.n.flatMap fun t => numB t 5) ++ (numB (r.b.length : Int) 3 ++ r.b)) (n := (r.n.length : Int)) (low := 0) (high := 2000) (k := 2) (by decide) (by omega) (by show (r.n.length : Int) < 65536; omega) (by omega) (by omega)
    rw [l2] at e
    rw [hB]; exact e
  have e3 : manyS (wideF B) ⟨4, 0, 0⟩ r.n.length = (⟨4 + 5 * r.n.length, 0, 0⟩, r.n) := by
    have e := many_fwd (A := numB r.err 2 ++ numB (r.n.length : Int) 2) (C := numB (r.b.length : Int) 3 ++ r.b) h5 r.n.length (Nat.le_refl _)
    rw [List.length_append, l2, l2, List.take_length] at e
    rw [hB]
    unfold RV.parts
    rw [← List.append_assoc]
    exact e
  have e4 : numRR B (4 + 5 * r.n.length) 3 0 16384 = .ok (r.b.length : Int) (4 + 5 * r.n.length + 3) := by
    have e := num_fwd (A := numB r.err 2 ++ (numB (r.n.length : Int) 2 ++ (r.n.flatMap fun t => numB t 5))) (C := r.b) (n := (r.b.length : Int)) (low := 0) (high := 16384) (k := 3) (by decide) (by omega) (by show (r.b.length : Int) < 16777216; omega) (by omega) (by omega)
    rw [List.length_append, List.length_append, l2, l2, ln, ← Nat.add_assoc] at e
    rw [hB]
    unfold RV.parts
    simp only [List.append_assoc] at e ⊢
    exact e
  have e5 : rawRR B (4 + 5 * r.n.length + 3) (r.b.length : Int) = .ok r.b (4 + 5 * r.n.length + 3 + r.b.length) := by
    have e := raw_fwd (A := numB r.err 2 ++ (numB (r.n.length : Int) 2 ++ ((r.n.flatMap fun t => numB t 5) ++ numB (r.b.length : Int) 3))) (C := []) (b := r.b)
    rw [List.length_append, List.length_append, List.length_append, l2, l2, l3, ln, List.append_nil, show 2 + (2 + (5 * r.n.length + 3)) = 4 + 5 * r.n.length + 3 by omega] at e
    rw [hB]
    unfold RV.parts
    simp only [List.append_assoc] at e ⊢
    exact e
  have hS : goAll ((⟨0, 0, 0⟩, RV.none) : RS × RV) (getRF B) = (⟨B.length, 0, 0⟩, r) := by
    have s1 : (stepR (⟨0, 0, 0⟩ : RS) (numRR B 0 2 0 999) 0) = (⟨2, 0, 0⟩, r.err) := stepR_ok e1
    have s2 : listR (wideF B) B 2 2000 ⟨2, 0, 0⟩ = (⟨4 + 5 * r.n.length, 0, 0⟩, r.n) := by
      unfold listR
      rw [stepR_ok (p := 2) e2]
      exact e3
    have s3 : rawS B ⟨4 + 5 * r.n.length, 0, 0⟩ = (⟨B.length, 0, 0⟩, r.b) := by
      unfold rawS
      rw [stepR_ok (p := 4 + 5 * r.n.length) e4]
      show stepR ⟨4 + 5 * r.n.length + 3, 0, 0⟩ (rawRR B (4 + 5 * r.n.length + 3) (r.b.length : Int)) [] = _
      rw [stepR_ok e5, lB, show 4 + 5 * r.n.length + 3 + r.b.length = 7 + 5 * r.n.length + r.b.length by omega]
    show ((rawS B (listR (wideF B) B 2 2000 (stepR (⟨0, 0, 0⟩ : RS) (numRR B 0 2 0 999) 0).1).1).1, RV.mk (stepR (⟨0, 0, 0⟩ : RS) (numRR B 0 2 0 999) 0).2 (listR (wideF B) B 2 2000 (stepR (⟨0, 0, 0⟩ : RS) (numRR B 0 2 0 999) 0).1).2 (rawS B (listR (wideF B) B 2 2000 (stepR (⟨0, 0, 0⟩ : RS) (numRR B 0 2 0 999) 0).1).1).2) = _
    rw [s1, s2, s3]
  rw [← hB]
  unfold getR
  rw [hS]
  have hE : endR B ⟨B.length, 0, 0⟩ = (0, 0) := by unfold endR; rw [if_neg (fun hh => Nat.lt_irrefl _ hh.2)]
  simp only [hE, h, if_true]
end Go.Proofs.Ytalfdcfcaamnbaa
namespace Go.Proofs.Ytalfdcfcaamnbaa
set_option linter.unusedVariables false
set_option linter.unusedSimpArgs false
open Go.RowKit Hp
attribute [local irreducible] Go.Calls Go.wpList Hp.gvV Hp.gB Hp.gA Hp.bOr Hp.bAnd Hp.bNot us withinB longB
set_option maxRecDepth 100000
set_option maxHeartbeats 4000000
def OV.qA (o : OV) (nl nb : Nat) : Bool := ((((((decide (o.op < 1) || decide (24 < o.op)) || longB o.name) || longB o.dest) || !withinB o.n) || !withinB o.m) || decide (16 < (nl : Int))) || decide (16384 < (nb : Int))
def OV.qC (o : OV) (nl nb : Nat) : Bool := (((((!us o.op 0 && !(o.name == [])) || (!us o.op 1 && !(o.dest == []))) || (!us o.op 2 && (o.n != 0))) || (!us o.op 3 && (o.m != 0))) || (!us o.op 4 && decide (0 < (nl : Int)))) || (!us o.op 5 && decide (0 < (nb : Int)))
theorem OV.qcheck (o : OV) {nl nb : Nat} (hl : o.l.length = nl) (hb : o.b.length = nb) : o.check = if o.qA nl nb then 2 else if o.l.any longB then 2 else if o.qC nl nb then 2 else 0 := by
  unfold OV.check OV.oddA OV.oddB OV.oddC OV.qA OV.qC
  rw [hl, hb]
  generalize decide (o.op < 1) = a1
  generalize decide (24 < o.op) = a2
  generalize withinB o.n = a3
  generalize withinB o.m = a4
  generalize decide (16 < (nl : Int)) = a5
  generalize decide (16384 < (nb : Int)) = a6
  generalize longB o.name = a7
  generalize longB o.dest = a8
  generalize o.l.any longB = a9
  rw [Bool.and_comm (!us o.op 0), Bool.and_comm (!us o.op 1), Bool.and_comm (!us o.op 2), Bool.and_comm (!us o.op 3), Bool.and_comm (!us o.op 4), Bool.and_comm (!us o.op 5)]
  cases a1 <;> cases a2 <;> cases a7 <;> cases a8 <;> cases a3 <;> cases a4 <;> cases a5 <;> cases a6 <;> simp
theorem wl_glong {ops : Array Oper} {rest : List Oper} {o : Oper} {a : Act} {w : World} {Q : Exit → Act → World → Prop} {g : Bool} {T T' : TypeId} {x y : Operand} {s : List UInt8} (hop : o.op = .binOp .gtr T x y T') (hw : Region.wanted o (yielded ops a.tmps) = g) (hx : g = true → evL a x = .int .i64 (s.length : Int)) (hy : evL a y = .int .i64 48)
    (h : wpList Try.prog ops Q rest (a.put o.dst (gvV g (.bool (longB s)))) w) : wpList Try.prog ops Q (o :: rest) a w :=
  wl_gcmp hop hw hx (fun _ => hy) (by unfold longB; rfl) h
theorem qcheck_any (o : OV) (al ab : Option Addr) (nl cl nb cb : Nat) (w : World) (hl : Rd w (.slice al nl cl) 1 nl (strsV o.l)) (hnl : o.l.length = nl) (hnb : o.b.length = nb) (hb : nl ≤ 1000000) :
    Calls Try.prog 16 #[.agg (o.cells (.slice al nl cl) (.slice ab nb cb)).toArray] w fun e w' => e = .returned (.int .i64 o.check) ∧ St w [] w' [] := by
  have hst0 := St.refl w
  obtain ⟨R, hR⟩ : ∃ R, R = o.check := ⟨_, rfl⟩
  rw [← hR]
  have HR := hid (hR.trans (OV.qcheck o hnl hnb))
  have HLn := hid hnl
  clear hR
  clear hnl hnb
  show Calls Try.prog 16 #[.agg (List.toArray [.int .i64 o.op, strV o.name, strV o.dest, .int .i64 o.n, .int .i64 o.m, .slice al nl cl, .slice ab nb cb])] w _
  go_enter Try.func16, Try.ntmps16
  go_wp2_with (first | go_big_skip | (refine wl_boxA hst0 rfl rfl rfl ?_; intro g1 _ hst1; clear hst0) | (refine wl_loadE rfl rfl rfl ?_; first | refine ⟨_, Loads.at [] hst1 rfl, ?_⟩) | (go_at_call 18; refine (quses_any o.op _).mono ?_; rintro _ w9 ⟨rfl, h4⟩; have hst2 := St.call0 hst1 h4; clear h4 hst1) | (refine wl_alloc hst2 rfl rfl ?_; intro g3 _ hst3; clear hst2) | (refine wl_storeA [] hst3 rfl rfl rfl rfl rfl rfl rfl ?_; intro w6 hst; clear hst3) | (show wpList _ _ _ (Oper.mk _ (.binOp .gtr 3 _ _ _) _ _ _ (some _) :: _) _ _; refine wl_glong rfl (by first | exact wanted_b rfl rfl | exact wanted_g rfl rfl) (by first | exact (fun hg => gvV_on hg) | exact (fun hg => gvV_gA hg) | exact (fun _ => rfl)) rfl ?_; (try simp only [Act.put, List.setIfInBounds_toArray, List.set_cons_zero, List.set_cons_succ]); (repeat ((first | (show wpList _ _ _ (Oper.mk _ (.move _) _ _ _ none :: _) _ _; refine wl_mv rfl rfl rfl ?_) | (show wpList _ _ _ (Oper.mk _ (.pick _ _ _) _ _ _ none :: _) _ _; (first | (refine wl_pickOr rfl rfl rfl rfl rfl ?_; intro q hq) | (refine wl_pickAnd rfl rfl rfl rfl rfl ?_; intro q hq))) | (show wpList _ _ _ (Oper.mk _ (.pick _ _ _) _ _ _ (some _) :: _) _ _; (first | (refine wl_gpickOr rfl (by first | exact wanted_b rfl rfl | exact wanted_g rfl rfl) rfl rfl rfl ?_; intro q hq) | (refine wl_gpickAnd rfl (by first | exact wanted_b rfl rfl | exact wanted_g rfl rfl) rfl rfl rfl ?_; intro q hq))) | (show wpList _ _ _ (Oper.mk _ (.move _) _ _ _ (some _) :: _) _ _; refine wl_gmove rfl (by first | exact wanted_b rfl rfl | exact wanted_g rfl rfl) (by first | exact (fun hg => gvV_on hg) | exact (fun hg => gvV_gA hg) | exact (fun _ => rfl)) ?_)); (try simp only [Act.put, List.setIfInBounds_toArray, List.set_cons_zero, List.set_cons_succ])))) | (show wpList _ _ _ (Oper.mk _ (.fieldAddr _ _ _) _ _ _ (some _) :: _) _ _; refine wl_gfld1 rfl (by first | exact wanted_b rfl rfl | exact wanted_g rfl rfl) (by first | exact (fun hg => gvV_on hg) | exact (fun hg => gvV_gA hg) | exact (fun _ => rfl)) (by kernel_rfl) ?_; (try simp only [Act.put, List.setIfInBounds_toArray, List.set_cons_zero, List.set_cons_succ])) | (show wpList _ _ _ (Oper.mk _ (.load _ _) _ _ _ (some _) :: _) _ _; refine wl_gloadE rfl (by first | exact wanted_b rfl rfl | exact wanted_g rfl rfl) (by first | exact (fun hg => gvV_on hg) | exact (fun hg => gvV_gA hg) | exact (fun _ => rfl)) ?_; (first | refine ⟨_, Loads.at [_] hst rfl, ?_⟩ | refine ⟨_, Loads.at [] hst rfl, ?_⟩); (try simp only [Act.put, List.setIfInBounds_toArray, List.set_cons_zero, List.set_cons_succ]); (repeat ((first | (show wpList _ _ _ (Oper.mk _ (.move _) _ _ _ none :: _) _ _; refine wl_mv rfl rfl rfl ?_) | (show wpList _ _ _ (Oper.mk _ (.pick _ _ _) _ _ _ none :: _) _ _; (first | (refine wl_pickOr rfl rfl rfl rfl rfl ?_; intro q hq) | (refine wl_pickAnd rfl rfl rfl rfl rfl ?_; intro q hq))) | (show wpList _ _ _ (Oper.mk _ (.pick _ _ _) _ _ _ (some _) :: _) _ _; (first | (refine wl_gpickOr rfl (by first | exact wanted_b rfl rfl | exact wanted_g rfl rfl) rfl rfl rfl ?_; intro q hq) | (refine wl_gpickAnd rfl (by first | exact wanted_b rfl rfl | exact wanted_g rfl rfl) rfl rfl rfl ?_; intro q hq))) | (show wpList _ _ _ (Oper.mk _ (.move _) _ _ _ (some _) :: _) _ _; refine wl_gmove rfl (by first | exact wanted_b rfl rfl | exact wanted_g rfl rfl) (by first | exact (fun hg => gvV_on hg) | exact (fun hg => gvV_gA hg) | exact (fun _ => rfl)) ?_)); (try simp only [Act.put, List.setIfInBounds_toArray, List.set_cons_zero, List.set_cons_succ])))) | (show wpList _ _ _ (Oper.mk _ (.binOp _ 3 _ _ _) _ _ _ (some _) :: _) _ _; refine wl_gcmp rfl (by first | exact wanted_b rfl rfl | exact wanted_g rfl rfl) (by first | exact (fun hg => gvV_on hg) | exact (fun hg => gvV_gA hg) | exact (fun _ => rfl)) (by first | exact (fun hg => gvV_on hg) | exact (fun hg => gvV_gA hg) | exact (fun _ => rfl)) rfl ?_; (try simp only [Act.put, List.setIfInBounds_toArray, List.set_cons_zero, List.set_cons_succ]); (repeat ((first | (show wpList _ _ _ (Oper.mk _ (.move _) _ _ _ none :: _) _ _; refine wl_mv rfl rfl rfl ?_) | (show wpList _ _ _ (Oper.mk _ (.pick _ _ _) _ _ _ none :: _) _ _; (first | (refine wl_pickOr rfl rfl rfl rfl rfl ?_; intro q hq) | (refine wl_pickAnd rfl rfl rfl rfl rfl ?_; intro q hq))) | (show wpList _ _ _ (Oper.mk _ (.pick _ _ _) _ _ _ (some _) :: _) _ _; (first | (refine wl_gpickOr rfl (by first | exact wanted_b rfl rfl | exact wanted_g rfl rfl) rfl rfl rfl ?_; intro q hq) | (refine wl_gpickAnd rfl (by first | exact wanted_b rfl rfl | exact wanted_g rfl rfl) rfl rfl rfl ?_; intro q hq))) | (show wpList _ _ _ (Oper.mk _ (.move _) _ _ _ (some _) :: _) _ _; refine wl_gmove rfl (by first | exact wanted_b rfl rfl | exact wanted_g rfl rfl) (by first | exact (fun hg => gvV_on hg) | exact (fun hg => gvV_gA hg) | exact (fun _ => rfl)) ?_)); (try simp only [Act.put, List.setIfInBounds_toArray, List.set_cons_zero, List.set_cons_succ])))) | (show wpList _ _ _ (Oper.mk _ (.binOp .neq 9 _ _ _) _ _ _ (some _) :: _) _ _; refine wl_gneqS rfl (by first | exact wanted_b rfl rfl | exact wanted_g rfl rfl) (by first | exact (fun hg => gvV_on hg) | exact (fun hg => gvV_gA hg) | exact (fun _ => rfl)) (by first | exact (fun hg => gvV_on hg) | exact (fun hg => gvV_gA hg) | exact (fun _ => rfl)) ?_; (try simp only [Act.put, List.setIfInBounds_toArray, List.set_cons_zero, List.set_cons_succ]); (repeat ((first | (show wpList _ _ _ (Oper.mk _ (.move _) _ _ _ none :: _) _ _; refine wl_mv rfl rfl rfl ?_) | (show wpList _ _ _ (Oper.mk _ (.pick _ _ _) _ _ _ none :: _) _ _; (first | (refine wl_pickOr rfl rfl rfl rfl rfl ?_; intro q hq) | (refine wl_pickAnd rfl rfl rfl rfl rfl ?_; intro q hq))) | (show wpList _ _ _ (Oper.mk _ (.pick _ _ _) _ _ _ (some _) :: _) _ _; (first | (refine wl_gpickOr rfl (by first | exact wanted_b rfl rfl | exact wanted_g rfl rfl) rfl rfl rfl ?_; intro q hq) | (refine wl_gpickAnd rfl (by first | exact wanted_b rfl rfl | exact wanted_g rfl rfl) rfl rfl rfl ?_; intro q hq))) | (show wpList _ _ _ (Oper.mk _ (.move _) _ _ _ (some _) :: _) _ _; refine wl_gmove rfl (by first | exact wanted_b rfl rfl | exact wanted_g rfl rfl) (by first | exact (fun hg => gvV_on hg) | exact (fun hg => gvV_gA hg) | exact (fun _ => rfl)) ?_)); (try simp only [Act.put, List.setIfInBounds_toArray, List.set_cons_zero, List.set_cons_succ])))) | (show wpList _ _ _ (Oper.mk _ (.binOp .eql 9 _ _ _) _ _ _ (some _) :: _) _ _; refine wl_geqS rfl (by first | exact wanted_b rfl rfl | exact wanted_g rfl rfl) (by first | exact (fun hg => gvV_on hg) | exact (fun hg => gvV_gA hg) | exact (fun _ => rfl)) (by first | exact (fun hg => gvV_on hg) | exact (fun hg => gvV_gA hg) | exact (fun _ => rfl)) ?_; (try simp only [Act.put, List.setIfInBounds_toArray, List.set_cons_zero, List.set_cons_succ]); (repeat ((first | (show wpList _ _ _ (Oper.mk _ (.move _) _ _ _ none :: _) _ _; refine wl_mv rfl rfl rfl ?_) | (show wpList _ _ _ (Oper.mk _ (.pick _ _ _) _ _ _ none :: _) _ _; (first | (refine wl_pickOr rfl rfl rfl rfl rfl ?_; intro q hq) | (refine wl_pickAnd rfl rfl rfl rfl rfl ?_; intro q hq))) | (show wpList _ _ _ (Oper.mk _ (.pick _ _ _) _ _ _ (some _) :: _) _ _; (first | (refine wl_gpickOr rfl (by first | exact wanted_b rfl rfl | exact wanted_g rfl rfl) rfl rfl rfl ?_; intro q hq) | (refine wl_gpickAnd rfl (by first | exact wanted_b rfl rfl | exact wanted_g rfl rfl) rfl rfl rfl ?_; intro q hq))) | (show wpList _ _ _ (Oper.mk _ (.move _) _ _ _ (some _) :: _) _ _; refine wl_gmove rfl (by first | exact wanted_b rfl rfl | exact wanted_g rfl rfl) (by first | exact (fun hg => gvV_on hg) | exact (fun hg => gvV_gA hg) | exact (fun _ => rfl)) ?_)); (try simp only [Act.put, List.setIfInBounds_toArray, List.set_cons_zero, List.set_cons_succ])))) | (show wpList _ _ _ (Oper.mk _ (.binOp .neq 9 _ _ _) _ _ _ none :: _) _ _; refine wl_neqS rfl rfl rfl rfl ?_; (try simp only [Act.put, List.setIfInBounds_toArray, List.set_cons_zero, List.set_cons_succ]); (repeat ((first | (show wpList _ _ _ (Oper.mk _ (.move _) _ _ _ none :: _) _ _; refine wl_mv rfl rfl rfl ?_) | (show wpList _ _ _ (Oper.mk _ (.pick _ _ _) _ _ _ none :: _) _ _; (first | (refine wl_pickOr rfl rfl rfl rfl rfl ?_; intro q hq) | (refine wl_pickAnd rfl rfl rfl rfl rfl ?_; intro q hq))) | (show wpList _ _ _ (Oper.mk _ (.pick _ _ _) _ _ _ (some _) :: _) _ _; (first | (refine wl_gpickOr rfl (by first | exact wanted_b rfl rfl | exact wanted_g rfl rfl) rfl rfl rfl ?_; intro q hq) | (refine wl_gpickAnd rfl (by first | exact wanted_b rfl rfl | exact wanted_g rfl rfl) rfl rfl rfl ?_; intro q hq))) | (show wpList _ _ _ (Oper.mk _ (.move _) _ _ _ (some _) :: _) _ _; refine wl_gmove rfl (by first | exact wanted_b rfl rfl | exact wanted_g rfl rfl) (by first | exact (fun hg => gvV_on hg) | exact (fun hg => gvV_gA hg) | exact (fun _ => rfl)) ?_)); (try simp only [Act.put, List.setIfInBounds_toArray, List.set_cons_zero, List.set_cons_succ])))) | (show wpList _ _ _ (Oper.mk _ (.binOp .eql 9 _ _ _) _ _ _ none :: _) _ _; refine wl_eqS rfl rfl rfl rfl ?_; (try simp only [Act.put, List.setIfInBounds_toArray, List.set_cons_zero, List.set_cons_succ]); (repeat ((first | (show wpList _ _ _ (Oper.mk _ (.move _) _ _ _ none :: _) _ _; refine wl_mv rfl rfl rfl ?_) | (show wpList _ _ _ (Oper.mk _ (.pick _ _ _) _ _ _ none :: _) _ _; (first | (refine wl_pickOr rfl rfl rfl rfl rfl ?_; intro q hq) | (refine wl_pickAnd rfl rfl rfl rfl rfl ?_; intro q hq))) | (show wpList _ _ _ (Oper.mk _ (.pick _ _ _) _ _ _ (some _) :: _) _ _; (first | (refine wl_gpickOr rfl (by first | exact wanted_b rfl rfl | exact wanted_g rfl rfl) rfl rfl rfl ?_; intro q hq) | (refine wl_gpickAnd rfl (by first | exact wanted_b rfl rfl | exact wanted_g rfl rfl) rfl rfl rfl ?_; intro q hq))) | (show wpList _ _ _ (Oper.mk _ (.move _) _ _ _ (some _) :: _) _ _; refine wl_gmove rfl (by first | exact wanted_b rfl rfl | exact wanted_g rfl rfl) (by first | exact (fun hg => gvV_on hg) | exact (fun hg => gvV_gA hg) | exact (fun _ => rfl)) ?_)); (try simp only [Act.put, List.setIfInBounds_toArray, List.set_cons_zero, List.set_cons_succ])))) | (show wpList _ _ _ (Oper.mk _ (.call (Call.mk (.builtin .len) _ #[9])) _ _ _ (some _) :: _) _ _; refine wl_glenS rfl (by first | exact wanted_b rfl rfl | exact wanted_g rfl rfl) (by first | exact (fun hg => gvV_on hg) | exact (fun hg => gvV_gA hg) | exact (fun _ => rfl)) ?_; (try simp only [Act.put, List.setIfInBounds_toArray, List.set_cons_zero, List.set_cons_succ])) | (show wpList _ _ _ (Oper.mk _ (.call (Call.mk (.builtin .len) _ #[23])) _ _ _ (some _) :: _) _ _; refine wl_glen rfl (by first | exact wanted_b rfl rfl | exact wanted_g rfl rfl) (by first | exact (fun hg => gvV_on hg) | exact (fun hg => gvV_gA hg) | exact (fun _ => rfl)) ?_; (try simp only [Act.put, List.setIfInBounds_toArray, List.set_cons_zero, List.set_cons_succ])) | (show wpList _ _ _ (Oper.mk _ (.call (Call.mk (.builtin .len) _ #[22])) _ _ _ (some _) :: _) _ _; refine wl_glen rfl (by first | exact wanted_b rfl rfl | exact wanted_g rfl rfl) (by first | exact (fun hg => gvV_on hg) | exact (fun hg => gvV_gA hg) | exact (fun _ => rfl)) ?_; (try simp only [Act.put, List.setIfInBounds_toArray, List.set_cons_zero, List.set_cons_succ])) | (show wpList _ _ _ (Oper.mk _ (.unOp .not _ _) _ _ _ (some _) :: _) _ _; refine wl_gnot rfl (by first | exact wanted_b rfl rfl | exact wanted_g rfl rfl) (by first | exact (fun hg => gvV_on hg) | exact (fun hg => gvV_gA hg) | exact (fun _ => rfl)) ?_; (try simp only [Act.put, List.setIfInBounds_toArray, List.set_cons_zero, List.set_cons_succ]); (repeat ((first | (show wpList _ _ _ (Oper.mk _ (.move _) _ _ _ none :: _) _ _; refine wl_mv rfl rfl rfl ?_) | (show wpList _ _ _ (Oper.mk _ (.pick _ _ _) _ _ _ none :: _) _ _; (first | (refine wl_pickOr rfl rfl rfl rfl rfl ?_; intro q hq) | (refine wl_pickAnd rfl rfl rfl rfl rfl ?_; intro q hq))) | (show wpList _ _ _ (Oper.mk _ (.pick _ _ _) _ _ _ (some _) :: _) _ _; (first | (refine wl_gpickOr rfl (by first | exact wanted_b rfl rfl | exact wanted_g rfl rfl) rfl rfl rfl ?_; intro q hq) | (refine wl_gpickAnd rfl (by first | exact wanted_b rfl rfl | exact wanted_g rfl rfl) rfl rfl rfl ?_; intro q hq))) | (show wpList _ _ _ (Oper.mk _ (.move _) _ _ _ (some _) :: _) _ _; refine wl_gmove rfl (by first | exact wanted_b rfl rfl | exact wanted_g rfl rfl) (by first | exact (fun hg => gvV_on hg) | exact (fun hg => gvV_gA hg) | exact (fun _ => rfl)) ?_)); (try simp only [Act.put, List.setIfInBounds_toArray, List.set_cons_zero, List.set_cons_succ])))) | (show wpList _ _ _ (Oper.mk _ (.call (Call.mk (.value (.func 42)) _ _)) _ _ _ (some _) :: _) _ _; refine wl_gcall (v := .bool (withinB o.n)) hst (by first | exact wanted_b rfl rfl | exact wanted_g rfl rfl) ?_ ?_; (intro hg K hK; have Hg := hid hg; clear hg; go_simp; go_at_call 42; (try (conv => (arg 3; simp only [gvV_on Hg.out]))); refine (number_any o.n _).mono ?_; rintro _ w9 ⟨rfl, h4⟩; have hk := hK _ (St.call0 hst h4); simp only [Act.put, List.setIfInBounds_toArray, List.set_cons_zero, List.set_cons_succ] at hk; dsimp only; exact hk); (intro w5 hst5; replace hst := hst5; clear hst5; (try simp only [Act.put, List.setIfInBounds_toArray, List.set_cons_zero, List.set_cons_succ]); (repeat ((first | (show wpList _ _ _ (Oper.mk _ (.move _) _ _ _ none :: _) _ _; refine wl_mv rfl rfl rfl ?_) | (show wpList _ _ _ (Oper.mk _ (.pick _ _ _) _ _ _ none :: _) _ _; (first | (refine wl_pickOr rfl rfl rfl rfl rfl ?_; intro q hq) | (refine wl_pickAnd rfl rfl rfl rfl rfl ?_; intro q hq))) | (show wpList _ _ _ (Oper.mk _ (.pick _ _ _) _ _ _ (some _) :: _) _ _; (first | (refine wl_gpickOr rfl (by first | exact wanted_b rfl rfl | exact wanted_g rfl rfl) rfl rfl rfl ?_; intro q hq) | (refine wl_gpickAnd rfl (by first | exact wanted_b rfl rfl | exact wanted_g rfl rfl) rfl rfl rfl ?_; intro q hq))) | (show wpList _ _ _ (Oper.mk _ (.move _) _ _ _ (some _) :: _) _ _; refine wl_gmove rfl (by first | exact wanted_b rfl rfl | exact wanted_g rfl rfl) (by first | exact (fun hg => gvV_on hg) | exact (fun hg => gvV_gA hg) | exact (fun _ => rfl)) ?_)); (try simp only [Act.put, List.setIfInBounds_toArray, List.set_cons_zero, List.set_cons_succ]))))) | (show wpList _ _ _ (Oper.mk _ (.call (Call.mk (.value (.func 42)) _ _)) _ _ _ (some _) :: _) _ _; refine wl_gcall (v := .bool (withinB o.m)) hst (by first | exact wanted_b rfl rfl | exact wanted_g rfl rfl) ?_ ?_; (intro hg K hK; have Hg := hid hg; clear hg; go_simp; go_at_call 42; (try (conv => (arg 3; simp only [gvV_on Hg.out]))); refine (number_any o.m _).mono ?_; rintro _ w9 ⟨rfl, h4⟩; have hk := hK _ (St.call0 hst h4); simp only [Act.put, List.setIfInBounds_toArray, List.set_cons_zero, List.set_cons_succ] at hk; dsimp only; exact hk); (intro w5 hst5; replace hst := hst5; clear hst5; (try simp only [Act.put, List.setIfInBounds_toArray, List.set_cons_zero, List.set_cons_succ]); (repeat ((first | (show wpList _ _ _ (Oper.mk _ (.move _) _ _ _ none :: _) _ _; refine wl_mv rfl rfl rfl ?_) | (show wpList _ _ _ (Oper.mk _ (.pick _ _ _) _ _ _ none :: _) _ _; (first | (refine wl_pickOr rfl rfl rfl rfl rfl ?_; intro q hq) | (refine wl_pickAnd rfl rfl rfl rfl rfl ?_; intro q hq))) | (show wpList _ _ _ (Oper.mk _ (.pick _ _ _) _ _ _ (some _) :: _) _ _; (first | (refine wl_gpickOr rfl (by first | exact wanted_b rfl rfl | exact wanted_g rfl rfl) rfl rfl rfl ?_; intro q hq) | (refine wl_gpickAnd rfl (by first | exact wanted_b rfl rfl | exact wanted_g rfl rfl) rfl rfl rfl ?_; intro q hq))) | (show wpList _ _ _ (Oper.mk _ (.move _) _ _ _ (some _) :: _) _ _; refine wl_gmove rfl (by first | exact wanted_b rfl rfl | exact wanted_g rfl rfl) (by first | exact (fun hg => gvV_on hg) | exact (fun hg => gvV_gA hg) | exact (fun _ => rfl)) ?_)); (try simp only [Act.put, List.setIfInBounds_toArray, List.set_cons_zero, List.set_cons_succ]))))) | (refine wl_loadE rfl rfl rfl ?_; first | refine ⟨_, Loads.at [_] hst rfl, ?_⟩ | refine ⟨_, Loads.at [] hst rfl, ?_⟩))
  · go_ret
    refine ⟨congrArg (fun z => Ending.returned (Value.int .i64 z)) (?_ : (_ : Int) = R), hst.nil⟩
    have eA : OV.qA o nl nb = ((((((((decide (o.op < 1) || decide (24 < o.op)) || longB o.name) || longB o.dest) || !withinB o.n) || !withinB o.m) || decide (16 < (nl : Int))) || decide (16384 < (nb : Int)))) := rfl
    have hR := HR.out
    clear HR HLn hst hl
    simp only [hid_iff, bNot_eq] at *
    simp_all only [Bool.false_or, Bool.true_or, if_true, if_false, Bool.false_eq_true]
  · rename q = false => hq0
    have hA : OV.qA o nl nb = false := by
      have eA : OV.qA o nl nb = ((((((((decide (o.op < 1) || decide (24 < o.op)) || longB o.name) || longB o.dest) || !withinB o.n) || !withinB o.m) || decide (16 < (nl : Int))) || decide (16384 < (nb : Int)))) := rfl
      clear HR HLn hst hl
      simp only [hid_iff, bNot_eq] at *
      simp_all only [Bool.false_or, Bool.true_or, if_true, if_false, Bool.false_eq_true]
    have HA := hid hA
    have hsz : ∀ x : List UInt8, (⟨x.toArray⟩ : ByteArray).size = x.length := fun x => by simp [ByteArray.size]
    clear hA hq0
    go_loopw [4] (fun i wr => ∃ j : Nat, j ≤ nl ∧ i = .int .i64 (j : Int) ∧ St w [] wr [.blk g3 35 (usesC o.op), .blk g1 25 [.int .i64 o.op, strV o.name, strV o.dest, .int .i64 o.n, .int .i64 o.m, .slice al nl cl, .slice ab nb cb]] ∧ Hid (∀ x ∈ o.l.take j, longB x = false)) (fun i _ => nl - (intOf i).toNat)
    case atStart => exact ⟨0, Nat.zero_le _, rfl, hst, hid (by simp)⟩
    case round =>
      clear hst
      obtain ⟨j, hj, rfl, hst, HP⟩ := hrel
      by_cases hlt : j < nl
      · have d1 : decide ((j : Int) < (nl : Int)) = true := decide_eq_true (by omega)
        have z1 : IntKind.i64.wrap ((j : Int) + 1) = (j : Int) + 1 := IntWalk.i64_in _ (by omega)
        have hjl : j < o.l.length := by rw [HLn.out]; exact hlt
        obtain ⟨x, hx⟩ : ∃ x, o.l[j]? = some x := ⟨_, List.getElem?_eq_getElem hjl⟩
        have HX := hid hx
        obtain ⟨b, off, rfl, hr⟩ := Rd.at hl hlt
        have hcell := hid (show w.cell? ⟨b, off + j, none⟩ = some (.string ⟨x.toArray⟩) from hr j _ (strsV_get hx))
        have HS := hid (hsz x)
        obtain ⟨q5, hq5⟩ : ∃ q, q = longB x := ⟨_, rfl⟩
        have HQ := hid hq5
        have d2 : decide ((48 : Int) < (x.length : Int)) = q5 := by rw [hq5]; unfold longB; rfl
        clear hx hq5 hr hjl
        cases q5
        · go_wp2_with (first | go_big_skip | go_big_guard | (refine wl_loadE rfl rfl rfl ?_; first | refine ⟨_, Loads.at [_] hst rfl, ?_⟩) | (refine wl_index rfl rfl rfl rfl hlt ?_) | (refine wl_loadE rfl rfl rfl ?_; refine ⟨_, Loads.old hst (by rw [Nat.mul_one]; exact hcell.out), ?_⟩))
          go_roundw
          case rel =>
            refine ⟨j + 1, by omega, rfl, hst, hid (fun y hy => ?_)⟩
            rw [List.take_add_one, HX.out] at hy
            rcases List.mem_append.1 hy with hy | hy
            · exact HP.out y hy
            · simp at hy
              rw [hy, ← HQ.out]
          case measure => simp [intOf]; omega
        · go_wp2_with (first | go_big_skip | go_big_guard | (refine wl_loadE rfl rfl rfl ?_; first | refine ⟨_, Loads.at [_] hst rfl, ?_⟩) | (refine wl_index rfl rfl rfl rfl hlt ?_) | (refine wl_loadE rfl rfl rfl ?_; refine ⟨_, Loads.old hst (by rw [Nat.mul_one]; exact hcell.out), ?_⟩))
          go_ret
          refine ⟨congrArg (fun z => Ending.returned (Value.int .i64 z)) (?_ : (_ : Int) = R), hst.nil⟩
          have hany : o.l.any longB = true := List.any_eq_true.2 ⟨x, List.mem_of_getElem? HX.out, HQ.out.symm⟩
          rw [HR.out, HA.out, hany]
          rfl
      · have hjn : j = nl := by omega
        have d1 : decide ((j : Int) < (nl : Int)) = false := decide_eq_false (by omega)
        have hany : o.l.any longB = false := by
          rw [List.any_eq_false]
          intro x hx
          rw [HP.out x (by rw [List.take_of_length_le (by rw [HLn.out]; omega)]; exact hx)]
          exact Bool.false_ne_true
        have HN := hid hany
        clear hany hjn
        go_wp2_with (first | go_big_skip | (show wpList _ _ _ (Oper.mk _ (.fieldAddr _ _ _) _ _ _ (some _) :: _) _ _; refine wl_gfld1 rfl (by first | exact wanted_b rfl rfl | exact wanted_g rfl rfl) (by first | exact (fun hg => gvV_on hg) | exact (fun hg => gvV_gA hg) | exact (fun _ => rfl)) (by kernel_rfl) ?_; (try simp only [Act.put, List.setIfInBounds_toArray, List.set_cons_zero, List.set_cons_succ])) | (show wpList _ _ _ (Oper.mk _ (.load _ _) _ _ _ (some _) :: _) _ _; refine wl_gloadE rfl (by first | exact wanted_b rfl rfl | exact wanted_g rfl rfl) (by first | exact (fun hg => gvV_on hg) | exact (fun hg => gvV_gA hg) | exact (fun _ => rfl)) ?_; (first | refine ⟨_, Loads.at [_] hst rfl, ?_⟩ | refine ⟨_, Loads.at [] hst rfl, ?_⟩); (try simp only [Act.put, List.setIfInBounds_toArray, List.set_cons_zero, List.set_cons_succ]); (repeat ((first | (show wpList _ _ _ (Oper.mk _ (.move _) _ _ _ none :: _) _ _; refine wl_mv rfl rfl rfl ?_) | (show wpList _ _ _ (Oper.mk _ (.pick _ _ _) _ _ _ none :: _) _ _; (first | (refine wl_pickOr rfl rfl rfl rfl rfl ?_; intro q hq) | (refine wl_pickAnd rfl rfl rfl rfl rfl ?_; intro q hq))) | (show wpList _ _ _ (Oper.mk _ (.pick _ _ _) _ _ _ (some _) :: _) _ _; (first | (refine wl_gpickOr rfl (by first | exact wanted_b rfl rfl | exact wanted_g rfl rfl) rfl rfl rfl ?_; intro q hq) | (refine wl_gpickAnd rfl (by first | exact wanted_b rfl rfl | exact wanted_g rfl rfl) rfl rfl rfl ?_; intro q hq))) | (show wpList _ _ _ (Oper.mk _ (.move _) _ _ _ (some _) :: _) _ _; refine wl_gmove rfl (by first | exact wanted_b rfl rfl | exact wanted_g rfl rfl) (by first | exact (fun hg => gvV_on hg) | exact (fun hg => gvV_gA hg) | exact (fun _ => rfl)) ?_)); (try simp only [Act.put, List.setIfInBounds_toArray, List.set_cons_zero, List.set_cons_succ])))) | (show wpList _ _ _ (Oper.mk _ (.binOp _ 3 _ _ _) _ _ _ (some _) :: _) _ _; refine wl_gcmp rfl (by first | exact wanted_b rfl rfl | exact wanted_g rfl rfl) (by first | exact (fun hg => gvV_on hg) | exact (fun hg => gvV_gA hg) | exact (fun _ => rfl)) (by first | exact (fun hg => gvV_on hg) | exact (fun hg => gvV_gA hg) | exact (fun _ => rfl)) rfl ?_; (try simp only [Act.put, List.setIfInBounds_toArray, List.set_cons_zero, List.set_cons_succ]); (repeat ((first | (show wpList _ _ _ (Oper.mk _ (.move _) _ _ _ none :: _) _ _; refine wl_mv rfl rfl rfl ?_) | (show wpList _ _ _ (Oper.mk _ (.pick _ _ _) _ _ _ none :: _) _ _; (first | (refine wl_pickOr rfl rfl rfl rfl rfl ?_; intro q hq) | (refine wl_pickAnd rfl rfl rfl rfl rfl ?_; intro q hq))) | (show wpList _ _ _ (Oper.mk _ (.pick _ _ _) _ _ _ (some _) :: _) _ _; (first | (refine wl_gpickOr rfl (by first | exact wanted_b rfl rfl | exact wanted_g rfl rfl) rfl rfl rfl ?_; intro q hq) | (refine wl_gpickAnd rfl (by first | exact wanted_b rfl rfl | exact wanted_g rfl rfl) rfl rfl rfl ?_; intro q hq))) | (show wpList _ _ _ (Oper.mk _ (.move _) _ _ _ (some _) :: _) _ _; refine wl_gmove rfl (by first | exact wanted_b rfl rfl | exact wanted_g rfl rfl) (by first | exact (fun hg => gvV_on hg) | exact (fun hg => gvV_gA hg) | exact (fun _ => rfl)) ?_)); (try simp only [Act.put, List.setIfInBounds_toArray, List.set_cons_zero, List.set_cons_succ])))) | (show wpList _ _ _ (Oper.mk _ (.binOp .neq 9 _ _ _) _ _ _ (some _) :: _) _ _; refine wl_gneqS rfl (by first | exact wanted_b rfl rfl | exact wanted_g rfl rfl) (by first | exact (fun hg => gvV_on hg) | exact (fun hg => gvV_gA hg) | exact (fun _ => rfl)) (by first | exact (fun hg => gvV_on hg) | exact (fun hg => gvV_gA hg) | exact (fun _ => rfl)) ?_; (try simp only [Act.put, List.setIfInBounds_toArray, List.set_cons_zero, List.set_cons_succ]); (repeat ((first | (show wpList _ _ _ (Oper.mk _ (.move _) _ _ _ none :: _) _ _; refine wl_mv rfl rfl rfl ?_) | (show wpList _ _ _ (Oper.mk _ (.pick _ _ _) _ _ _ none :: _) _ _; (first | (refine wl_pickOr rfl rfl rfl rfl rfl ?_; intro q hq) | (refine wl_pickAnd rfl rfl rfl rfl rfl ?_; intro q hq))) | (show wpList _ _ _ (Oper.mk _ (.pick _ _ _) _ _ _ (some _) :: _) _ _; (first | (refine wl_gpickOr rfl (by first | exact wanted_b rfl rfl | exact wanted_g rfl rfl) rfl rfl rfl ?_; intro q hq) | (refine wl_gpickAnd rfl (by first | exact wanted_b rfl rfl | exact wanted_g rfl rfl) rfl rfl rfl ?_; intro q hq))) | (show wpList _ _ _ (Oper.mk _ (.move _) _ _ _ (some _) :: _) _ _; refine wl_gmove rfl (by first | exact wanted_b rfl rfl | exact wanted_g rfl rfl) (by first | exact (fun hg => gvV_on hg) | exact (fun hg => gvV_gA hg) | exact (fun _ => rfl)) ?_)); (try simp only [Act.put, List.setIfInBounds_toArray, List.set_cons_zero, List.set_cons_succ])))) | (show wpList _ _ _ (Oper.mk _ (.binOp .eql 9 _ _ _) _ _ _ (some _) :: _) _ _; refine wl_geqS rfl (by first | exact wanted_b rfl rfl | exact wanted_g rfl rfl) (by first | exact (fun hg => gvV_on hg) | exact (fun hg => gvV_gA hg) | exact (fun _ => rfl)) (by first | exact (fun hg => gvV_on hg) | exact (fun hg => gvV_gA hg) | exact (fun _ => rfl)) ?_; (try simp only [Act.put, List.setIfInBounds_toArray, List.set_cons_zero, List.set_cons_succ]); (repeat ((first | (show wpList _ _ _ (Oper.mk _ (.move _) _ _ _ none :: _) _ _; refine wl_mv rfl rfl rfl ?_) | (show wpList _ _ _ (Oper.mk _ (.pick _ _ _) _ _ _ none :: _) _ _; (first | (refine wl_pickOr rfl rfl rfl rfl rfl ?_; intro q hq) | (refine wl_pickAnd rfl rfl rfl rfl rfl ?_; intro q hq))) | (show wpList _ _ _ (Oper.mk _ (.pick _ _ _) _ _ _ (some _) :: _) _ _; (first | (refine wl_gpickOr rfl (by first | exact wanted_b rfl rfl | exact wanted_g rfl rfl) rfl rfl rfl ?_; intro q hq) | (refine wl_gpickAnd rfl (by first | exact wanted_b rfl rfl | exact wanted_g rfl rfl) rfl rfl rfl ?_; intro q hq))) | (show wpList _ _ _ (Oper.mk _ (.move _) _ _ _ (some _) :: _) _ _; refine wl_gmove rfl (by first | exact wanted_b rfl rfl | exact wanted_g rfl rfl) (by first | exact (fun hg => gvV_on hg) | exact (fun hg => gvV_gA hg) | exact (fun _ => rfl)) ?_)); (try simp only [Act.put, List.setIfInBounds_toArray, List.set_cons_zero, List.set_cons_succ])))) | (show wpList _ _ _ (Oper.mk _ (.binOp .neq 9 _ _ _) _ _ _ none :: _) _ _; refine wl_neqS rfl rfl rfl rfl ?_; (try simp only [Act.put, List.setIfInBounds_toArray, List.set_cons_zero, List.set_cons_succ]); (repeat ((first | (show wpList _ _ _ (Oper.mk _ (.move _) _ _ _ none :: _) _ _; refine wl_mv rfl rfl rfl ?_) | (show wpList _ _ _ (Oper.mk _ (.pick _ _ _) _ _ _ none :: _) _ _; (first | (refine wl_pickOr rfl rfl rfl rfl rfl ?_; intro q hq) | (refine wl_pickAnd rfl rfl rfl rfl rfl ?_; intro q hq))) | (show wpList _ _ _ (Oper.mk _ (.pick _ _ _) _ _ _ (some _) :: _) _ _; (first | (refine wl_gpickOr rfl (by first | exact wanted_b rfl rfl | exact wanted_g rfl rfl) rfl rfl rfl ?_; intro q hq) | (refine wl_gpickAnd rfl (by first | exact wanted_b rfl rfl | exact wanted_g rfl rfl) rfl rfl rfl ?_; intro q hq))) | (show wpList _ _ _ (Oper.mk _ (.move _) _ _ _ (some _) :: _) _ _; refine wl_gmove rfl (by first | exact wanted_b rfl rfl | exact wanted_g rfl rfl) (by first | exact (fun hg => gvV_on hg) | exact (fun hg => gvV_gA hg) | exact (fun _ => rfl)) ?_)); (try simp only [Act.put, List.setIfInBounds_toArray, List.set_cons_zero, List.set_cons_succ])))) | (show wpList _ _ _ (Oper.mk _ (.binOp .eql 9 _ _ _) _ _ _ none :: _) _ _; refine wl_eqS rfl rfl rfl rfl ?_; (try simp only [Act.put, List.setIfInBounds_toArray, List.set_cons_zero, List.set_cons_succ]); (repeat ((first | (show wpList _ _ _ (Oper.mk _ (.move _) _ _ _ none :: _) _ _; refine wl_mv rfl rfl rfl ?_) | (show wpList _ _ _ (Oper.mk _ (.pick _ _ _) _ _ _ none :: _) _ _; (first | (refine wl_pickOr rfl rfl rfl rfl rfl ?_; intro q hq) | (refine wl_pickAnd rfl rfl rfl rfl rfl ?_; intro q hq))) | (show wpList _ _ _ (Oper.mk _ (.pick _ _ _) _ _ _ (some _) :: _) _ _; (first | (refine wl_gpickOr rfl (by first | exact wanted_b rfl rfl | exact wanted_g rfl rfl) rfl rfl rfl ?_; intro q hq) | (refine wl_gpickAnd rfl (by first | exact wanted_b rfl rfl | exact wanted_g rfl rfl) rfl rfl rfl ?_; intro q hq))) | (show wpList _ _ _ (Oper.mk _ (.move _) _ _ _ (some _) :: _) _ _; refine wl_gmove rfl (by first | exact wanted_b rfl rfl | exact wanted_g rfl rfl) (by first | exact (fun hg => gvV_on hg) | exact (fun hg => gvV_gA hg) | exact (fun _ => rfl)) ?_)); (try simp only [Act.put, List.setIfInBounds_toArray, List.set_cons_zero, List.set_cons_succ])))) | (show wpList _ _ _ (Oper.mk _ (.call (Call.mk (.builtin .len) _ #[9])) _ _ _ (some _) :: _) _ _; refine wl_glenS rfl (by first | exact wanted_b rfl rfl | exact wanted_g rfl rfl) (by first | exact (fun hg => gvV_on hg) | exact (fun hg => gvV_gA hg) | exact (fun _ => rfl)) ?_; (try simp only [Act.put, List.setIfInBounds_toArray, List.set_cons_zero, List.set_cons_succ])) | (show wpList _ _ _ (Oper.mk _ (.call (Call.mk (.builtin .len) _ #[23])) _ _ _ (some _) :: _) _ _; refine wl_glen rfl (by first | exact wanted_b rfl rfl | exact wanted_g rfl rfl) (by first | exact (fun hg => gvV_on hg) | exact (fun hg => gvV_gA hg) | exact (fun _ => rfl)) ?_; (try simp only [Act.put, List.setIfInBounds_toArray, List.set_cons_zero, List.set_cons_succ])) | (show wpList _ _ _ (Oper.mk _ (.call (Call.mk (.builtin .len) _ #[22])) _ _ _ (some _) :: _) _ _; refine wl_glen rfl (by first | exact wanted_b rfl rfl | exact wanted_g rfl rfl) (by first | exact (fun hg => gvV_on hg) | exact (fun hg => gvV_gA hg) | exact (fun _ => rfl)) ?_; (try simp only [Act.put, List.setIfInBounds_toArray, List.set_cons_zero, List.set_cons_succ])) | (show wpList _ _ _ (Oper.mk _ (.unOp .not _ _) _ _ _ (some _) :: _) _ _; refine wl_gnot rfl (by first | exact wanted_b rfl rfl | exact wanted_g rfl rfl) (by first | exact (fun hg => gvV_on hg) | exact (fun hg => gvV_gA hg) | exact (fun _ => rfl)) ?_; (try simp only [Act.put, List.setIfInBounds_toArray, List.set_cons_zero, List.set_cons_succ]); (repeat ((first | (show wpList _ _ _ (Oper.mk _ (.move _) _ _ _ none :: _) _ _; refine wl_mv rfl rfl rfl ?_) | (show wpList _ _ _ (Oper.mk _ (.pick _ _ _) _ _ _ none :: _) _ _; (first | (refine wl_pickOr rfl rfl rfl rfl rfl ?_; intro q hq) | (refine wl_pickAnd rfl rfl rfl rfl rfl ?_; intro q hq))) | (show wpList _ _ _ (Oper.mk _ (.pick _ _ _) _ _ _ (some _) :: _) _ _; (first | (refine wl_gpickOr rfl (by first | exact wanted_b rfl rfl | exact wanted_g rfl rfl) rfl rfl rfl ?_; intro q hq) | (refine wl_gpickAnd rfl (by first | exact wanted_b rfl rfl | exact wanted_g rfl rfl) rfl rfl rfl ?_; intro q hq))) | (show wpList _ _ _ (Oper.mk _ (.move _) _ _ _ (some _) :: _) _ _; refine wl_gmove rfl (by first | exact wanted_b rfl rfl | exact wanted_g rfl rfl) (by first | exact (fun hg => gvV_on hg) | exact (fun hg => gvV_gA hg) | exact (fun _ => rfl)) ?_)); (try simp only [Act.put, List.setIfInBounds_toArray, List.set_cons_zero, List.set_cons_succ])))) | (show wpList _ _ _ (Oper.mk _ (.call (Call.mk (.value (.func 42)) _ _)) _ _ _ (some _) :: _) _ _; refine wl_gcall (v := .bool (withinB o.n)) hst (by first | exact wanted_b rfl rfl | exact wanted_g rfl rfl) ?_ ?_; (intro hg K hK; have Hg := hid hg; clear hg; go_simp; go_at_call 42; (try (conv => (arg 3; simp only [gvV_on Hg.out]))); refine (number_any o.n _).mono ?_; rintro _ w9 ⟨rfl, h4⟩; have hk := hK _ (St.call0 hst h4); simp only [Act.put, List.setIfInBounds_toArray, List.set_cons_zero, List.set_cons_succ] at hk; dsimp only; exact hk); (intro w5 hst5; replace hst := hst5; clear hst5; (try simp only [Act.put, List.setIfInBounds_toArray, List.set_cons_zero, List.set_cons_succ]); (repeat ((first | (show wpList _ _ _ (Oper.mk _ (.move _) _ _ _ none :: _) _ _; refine wl_mv rfl rfl rfl ?_) | (show wpList _ _ _ (Oper.mk _ (.pick _ _ _) _ _ _ none :: _) _ _; (first | (refine wl_pickOr rfl rfl rfl rfl rfl ?_; intro q hq) | (refine wl_pickAnd rfl rfl rfl rfl rfl ?_; intro q hq))) | (show wpList _ _ _ (Oper.mk _ (.pick _ _ _) _ _ _ (some _) :: _) _ _; (first | (refine wl_gpickOr rfl (by first | exact wanted_b rfl rfl | exact wanted_g rfl rfl) rfl rfl rfl ?_; intro q hq) | (refine wl_gpickAnd rfl (by first | exact wanted_b rfl rfl | exact wanted_g rfl rfl) rfl rfl rfl ?_; intro q hq))) | (show wpList _ _ _ (Oper.mk _ (.move _) _ _ _ (some _) :: _) _ _; refine wl_gmove rfl (by first | exact wanted_b rfl rfl | exact wanted_g rfl rfl) (by first | exact (fun hg => gvV_on hg) | exact (fun hg => gvV_gA hg) | exact (fun _ => rfl)) ?_)); (try simp only [Act.put, List.setIfInBounds_toArray, List.set_cons_zero, List.set_cons_succ]))))) | (show wpList _ _ _ (Oper.mk _ (.call (Call.mk (.value (.func 42)) _ _)) _ _ _ (some _) :: _) _ _; refine wl_gcall (v := .bool (withinB o.m)) hst (by first | exact wanted_b rfl rfl | exact wanted_g rfl rfl) ?_ ?_; (intro hg K hK; have Hg := hid hg; clear hg; go_simp; go_at_call 42; (try (conv => (arg 3; simp only [gvV_on Hg.out]))); refine (number_any o.m _).mono ?_; rintro _ w9 ⟨rfl, h4⟩; have hk := hK _ (St.call0 hst h4); simp only [Act.put, List.setIfInBounds_toArray, List.set_cons_zero, List.set_cons_succ] at hk; dsimp only; exact hk); (intro w5 hst5; replace hst := hst5; clear hst5; (try simp only [Act.put, List.setIfInBounds_toArray, List.set_cons_zero, List.set_cons_succ]); (repeat ((first | (show wpList _ _ _ (Oper.mk _ (.move _) _ _ _ none :: _) _ _; refine wl_mv rfl rfl rfl ?_) | (show wpList _ _ _ (Oper.mk _ (.pick _ _ _) _ _ _ none :: _) _ _; (first | (refine wl_pickOr rfl rfl rfl rfl rfl ?_; intro q hq) | (refine wl_pickAnd rfl rfl rfl rfl rfl ?_; intro q hq))) | (show wpList _ _ _ (Oper.mk _ (.pick _ _ _) _ _ _ (some _) :: _) _ _; (first | (refine wl_gpickOr rfl (by first | exact wanted_b rfl rfl | exact wanted_g rfl rfl) rfl rfl rfl ?_; intro q hq) | (refine wl_gpickAnd rfl (by first | exact wanted_b rfl rfl | exact wanted_g rfl rfl) rfl rfl rfl ?_; intro q hq))) | (show wpList _ _ _ (Oper.mk _ (.move _) _ _ _ (some _) :: _) _ _; refine wl_gmove rfl (by first | exact wanted_b rfl rfl | exact wanted_g rfl rfl) (by first | exact (fun hg => gvV_on hg) | exact (fun hg => gvV_gA hg) | exact (fun _ => rfl)) ?_)); (try simp only [Act.put, List.setIfInBounds_toArray, List.set_cons_zero, List.set_cons_succ]))))) | (refine wl_loadE rfl rfl rfl ?_; first | refine ⟨_, Loads.at [_] hst rfl, ?_⟩ | refine ⟨_, Loads.at [] hst rfl, ?_⟩))
        all_goals go_ret
        all_goals refine ⟨congrArg (fun z => Ending.returned (Value.int .i64 z)) (?_ : (_ : Int) = R), hst.nil⟩
        all_goals
          have hR := HR.out
          have hA := HA.out
          have hN := HN.out
          have eC : OV.qC o nl nb = ((((((!us o.op 0 && !(o.name == [])) || (!us o.op 1 && !(o.dest == []))) || (!us o.op 2 && (o.n != 0))) || (!us o.op 3 && (o.m != 0))) || (!us o.op 4 && decide (0 < (nl : Int)))) || (!us o.op 5 && decide (0 < (nb : Int)))) := rfl
          rw [hA, hN, eC] at hR
          clear HR HLn HA HN HP hst hl hA hN eC
          simp only [hid_iff, bNot_eq] at *
          simp_all only [Bool.false_or, Bool.true_or, if_true, if_false, Bool.false_eq_true]
end Go.Proofs.Ytalfdcfcaamnbaa
namespace Go.Proofs.Ytalfdcfcaamnbaa
set_option linter.unusedVariables false
set_option linter.unusedSimpArgs false
open Go.RowKit Hp
attribute [local irreducible] Go.Calls Go.wpList
set_option maxRecDepth 100000
set_option maxHeartbeats 4000000
/-- Without a fault there is no place of one. -/
def RS.Fine (s : RS) : Prop := s.e = 0 → s.fa = 0
theorem stepR_fine {α : Type} {s : RS} {r : RR α} {d : α} (h : s.Fine) (hr : ∀ e a, r = .stop e a → e ≠ 0) : (stepR s r d).1.Fine := by
  unfold stepR
  split
  · exact h
  · split
    · rename_i e a
      intro he
      exact absurd he (hr e a rfl)
    · exact h
theorem numRR_stop {B : List UInt8} {p : Nat} {size low high : Int} (e a : Int) (h : numRR B p size low high = .stop e a) : e ≠ 0 := by
  unfold numRR at h
  split at h
  · cases h; decide
  · split at h
    · cases h; decide
    · split at h
      · cases h; decide
      · cases h
theorem textRR_stop {B : List UInt8} {p : Nat} {most : Int} (e a : Int) (h : textRR B p most = .stop e a) : e ≠ 0 := by
  unfold textRR at h
  split at h
  · cases h; decide
  · split at h
    · cases h; decide
    · split at h
      · cases h; decide
      · split at h
        · cases h; decide
        · cases h
theorem rawRR_stop {B : List UInt8} {p : Nat} {m : Int} (e a : Int) (h : rawRR B p m = .stop e a) : e ≠ 0 := by
  unfold rawRR at h
  split at h
  · cases h; decide
  · split at h
    · cases h; decide
    · cases h
theorem manyS_fine {α : Type} {f : RS → RS × α} {s : RS} (h0 : s.Fine) (h : ∀ s : RS, s.Fine → (f s).1.Fine) (k : Nat) : (manyS f s k).1.Fine := by
  induction k with
  | zero => exact h0
  | succ k ih => exact h _ ih
theorem getF_fine (B : List UInt8) : ∀ f ∈ getF B, ∀ y : RS × OV, y.1.Fine → (f y).1.Fine := by
  intro f hf y hy
  unfold getF at hf
  simp only [List.mem_cons, List.not_mem_nil, or_false] at hf
  rcases hf with rfl | rfl | rfl | rfl | rfl | rfl | rfl
  · exact stepR_fine hy numRR_stop
  · exact stepR_fine hy textRR_stop
  · exact stepR_fine hy textRR_stop
  · exact stepR_fine hy numRR_stop
  · exact stepR_fine hy numRR_stop
  · exact manyS_fine (stepR_fine hy numRR_stop) (fun s hs => stepR_fine hs textRR_stop) _
  · exact stepR_fine (stepR_fine hy numRR_stop) rawRR_stop
theorem endR_fine {B : List UInt8} {s : RS} (h : s.Fine) (h0 : (endR B s).1 = 0) : (endR B s).2 = 0 := by
  unfold endR at h0 ⊢
  split at h0
  · cases h0
  · rename_i hh
    rw [if_neg hh]
    exact h h0
theorem get_fine (B : List UInt8) : (goAll ((⟨0, 0, 0⟩, OV.none) : RS × OV) (getF B)).1.Fine := goAll_inv (P := fun y : RS × OV => y.1.Fine) (fun _ => rfl) (getF_fine B)
theorem check_two (o : OV) : o.check = 2 ∨ o.check = 0 := by
  unfold OV.check
  split
  · exact .inl rfl
  · split
    · exact .inl rfl
    · split
      · exact .inl rfl
      · exact .inr rfl
section
attribute [local go_sem ↓] loadedOr loadedFt
theorem qget_bad (ao : Option Addr) (n c : Nat) (B : List UInt8) (w : World) (hr : Rd w (.slice ao n c) 1 n (bytesV B)) (hn : B.length = n) (hb : n ≤ 100000) (h0 : (endR B (goAll ((⟨0, 0, 0⟩, OV.none) : RS × OV) (getF B)).1).1 ≠ 0) :
    Calls Try.prog 23 #[.slice ao n c] w (GetP w (getO B)) := by
  have hst0 := St.refl w
  have HR := hid hr
  have HN := hid hn
  have hBl : B.length ≤ 100000 := by rw [hn]; exact hb
  obtain ⟨S, hS⟩ : ∃ S, S = goAll ((⟨0, 0, 0⟩, OV.none) : RS × OV) (getF B) := ⟨_, rfl⟩
  have HS := hid hS
  have HL16 := hid (show S.2.l.length ≤ 16 by rw [hS]; exact get_len B)
  obtain ⟨f, hf⟩ : ∃ f, f = endR B S.1 := ⟨_, rfl⟩
  have HF := hid hf
  obtain ⟨ck, hck⟩ : ∃ ck, ck = S.2.check := ⟨_, rfl⟩
  have HCK := hid hck
  rw [← hS] at h0
  rw [← hf] at h0
  obtain ⟨R, hR⟩ : ∃ R, R = getO B := ⟨_, rfl⟩
  rw [← hR]
  have e : R = (OV.none, f.1, f.2) := by
    rw [hR]; unfold getO; simp only [← hS, ← hf]
    rw [if_neg h0, if_neg h0]
  have d1 : (f.1 != 0) = true := by simpa using h0
  have HE := hid e
  clear hS hf hck hR e h0 hr hn
  go_enter Try.func23, Try.ntmps23
  go_wp2_with (first | go_big_skip | go_big_guard | (refine wl_alloc (T := 25) hst0 rfl rfl ?_; intro g2 w1 hst1; clear hst0) | (refine wl_alloc hst1 rfl rfl ?_; intro g3 w2 hst2; clear hst1) | (go_at_call 45; refine (qopen_any ao n c _).mono ?_; rintro _ w3 ⟨gq, rfl, h4⟩; have hst3 := St.call hst2 h4; clear h4 hst2; have hoff := hid (St.newOff (L1 := []) hst3 HR.out (by decide))) | (refine wl_alloc (T := 25) hst3 rfl rfl ?_; intro go w4 hst4; clear hst3; obtain ⟨y0, hy0⟩ : ∃ y : RS × OV, y = (⟨0, 0, 0⟩, OV.none) := ⟨_, rfl⟩; have HY0 := hid hy0; have hS0 : St w [] w4 (qP gq (.slice ao n c) y0.1 ++ .blk go 25 (y0.2.cells (.slice none 0 0) (.slice none 0 0)) :: [.blk g3 42 [.int .i64 0, .int .i64 0], .blk g2 25 [.int .i64 0, .string ⟨#[]⟩, .string ⟨#[]⟩, .int .i64 0, .int .i64 0, .slice none 0 0, .slice none 0 0]]) := (by rw [hy0]; exact St.front [_] hst4); have HP0 := hid (show y0.1.pos ≤ B.length by rw [hy0]; exact Nat.zero_le _); clear hst4 hy0) | (go_at_call 46; refine (qnum_any gq ao n c B y0.1 1 1 24 _ (St.sub hS0 (List.sublist_append_left _ _)) (Rd.old hS0 HR.out) hoff.out HN.out (by rw [← HN.out]; exact HP0.out) hb (by decide)).mono ?_; rintro _ w9 ⟨rfl, h4⟩; have hC0 := St.callF (qP gq (.slice ao n c) y0.1) hS0 h4; clear h4 hS0) | (refine wl_store [_] hC0 rfl rfl rfl (v := .int _ _) rfl rfl rfl (by show (1 : Nat) ≤ 7; decide) ?_; intro w20 hT; obtain ⟨y1, hy1⟩ : ∃ y : RS × OV, y = ((stepR y0.1 (numRR B y0.1.pos 1 1 24) 0).1, OV.mk ((stepR y0.1 (numRR B y0.1.pos 1 1 24) 0).2) y0.2.n y0.2.m y0.2.name y0.2.dest y0.2.l y0.2.b) := ⟨_, rfl⟩; have HY1 := hid hy1; have hS1 : St w [] w20 (qP gq (.slice ao n c) y1.1 ++ .blk go 25 (y1.2.cells (.slice none 0 0) (.slice none 0 0)) :: [.blk g3 42 [.int .i64 0, .int .i64 0], .blk g2 25 [.int .i64 0, .string ⟨#[]⟩, .string ⟨#[]⟩, .int .i64 0, .int .i64 0, .slice none 0 0, .slice none 0 0]]) := (by rw [hy1]; exact hT); have HP1 := hid (show y1.1.pos ≤ B.length by rw [hy1]; exact num_pos HP0.out); clear hT hC0 hy1) | (go_at_call 47; refine (qtext_any gq ao n c B y1.1 48 _ (St.sub hS1 (List.sublist_append_left _ _)) (Rd.old hS1 HR.out) hoff.out HN.out (by rw [← HN.out]; exact HP1.out) hb (by decide)).mono ?_; rintro _ w9 ⟨rfl, h4⟩; have hC1 := St.callF (qP gq (.slice ao n c) y1.1) hS1 h4; clear h4 hS1) | (refine wl_store [_] hC1 rfl rfl rfl (v := .string _) rfl rfl rfl (by show (2 : Nat) ≤ 7; decide) ?_; intro w21 hT; obtain ⟨y2, hy2⟩ : ∃ y : RS × OV, y = ((textF B y1.1).1, OV.mk y1.2.op y1.2.n y1.2.m ((textF B y1.1).2) y1.2.dest y1.2.l y1.2.b) := ⟨_, rfl⟩; have HY2 := hid hy2; have hS2 : St w [] w21 (qP gq (.slice ao n c) y2.1 ++ .blk go 25 (y2.2.cells (.slice none 0 0) (.slice none 0 0)) :: [.blk g3 42 [.int .i64 0, .int .i64 0], .blk g2 25 [.int .i64 0, .string ⟨#[]⟩, .string ⟨#[]⟩, .int .i64 0, .int .i64 0, .slice none 0 0, .slice none 0 0]]) := (by rw [hy2]; exact hT); have HP2 := hid (show y2.1.pos ≤ B.length by rw [hy2]; exact text_pos HP1.out); clear hT hC1 hy2) | (go_at_call 47; refine (qtext_any gq ao n c B y2.1 48 _ (St.sub hS2 (List.sublist_append_left _ _)) (Rd.old hS2 HR.out) hoff.out HN.out (by rw [← HN.out]; exact HP2.out) hb (by decide)).mono ?_; rintro _ w9 ⟨rfl, h4⟩; have hC2 := St.callF (qP gq (.slice ao n c) y2.1) hS2 h4; clear h4 hS2) | (refine wl_store [_] hC2 rfl rfl rfl (v := .string _) rfl rfl rfl (by show (3 : Nat) ≤ 7; decide) ?_; intro w22 hT; obtain ⟨y3, hy3⟩ : ∃ y : RS × OV, y = ((textF B y2.1).1, OV.mk y2.2.op y2.2.n y2.2.m y2.2.name ((textF B y2.1).2) y2.2.l y2.2.b) := ⟨_, rfl⟩; have HY3 := hid hy3; have hS3 : St w [] w22 (qP gq (.slice ao n c) y3.1 ++ .blk go 25 (y3.2.cells (.slice none 0 0) (.slice none 0 0)) :: [.blk g3 42 [.int .i64 0, .int .i64 0], .blk g2 25 [.int .i64 0, .string ⟨#[]⟩, .string ⟨#[]⟩, .int .i64 0, .int .i64 0, .slice none 0 0, .slice none 0 0]]) := (by rw [hy3]; exact hT); have HP3 := hid (show y3.1.pos ≤ B.length by rw [hy3]; exact text_pos HP2.out); clear hT hC2 hy3) | (go_at_call 46; refine (qnum_any gq ao n c B y3.1 4 0 2147483647 _ (St.sub hS3 (List.sublist_append_left _ _)) (Rd.old hS3 HR.out) hoff.out HN.out (by rw [← HN.out]; exact HP3.out) hb (by decide)).mono ?_; rintro _ w9 ⟨rfl, h4⟩; have hC3 := St.callF (qP gq (.slice ao n c) y3.1) hS3 h4; clear h4 hS3) | (refine wl_store [_] hC3 rfl rfl rfl (v := .int _ _) rfl rfl rfl (by show (4 : Nat) ≤ 7; decide) ?_; intro w23 hT; obtain ⟨y4, hy4⟩ : ∃ y : RS × OV, y = ((stepR y3.1 (numRR B y3.1.pos 4 0 2147483647) 0).1, OV.mk y3.2.op ((stepR y3.1 (numRR B y3.1.pos 4 0 2147483647) 0).2) y3.2.m y3.2.name y3.2.dest y3.2.l y3.2.b) := ⟨_, rfl⟩; have HY4 := hid hy4; have hS4 : St w [] w23 (qP gq (.slice ao n c) y4.1 ++ .blk go 25 (y4.2.cells (.slice none 0 0) (.slice none 0 0)) :: [.blk g3 42 [.int .i64 0, .int .i64 0], .blk g2 25 [.int .i64 0, .string ⟨#[]⟩, .string ⟨#[]⟩, .int .i64 0, .int .i64 0, .slice none 0 0, .slice none 0 0]]) := (by rw [hy4]; exact hT); have HP4 := hid (show y4.1.pos ≤ B.length by rw [hy4]; exact num_pos HP3.out); clear hT hC3 hy4) | (go_at_call 46; refine (qnum_any gq ao n c B y4.1 4 0 2147483647 _ (St.sub hS4 (List.sublist_append_left _ _)) (Rd.old hS4 HR.out) hoff.out HN.out (by rw [← HN.out]; exact HP4.out) hb (by decide)).mono ?_; rintro _ w9 ⟨rfl, h4⟩; have hC4 := St.callF (qP gq (.slice ao n c) y4.1) hS4 h4; clear h4 hS4) | (refine wl_store [_] hC4 rfl rfl rfl (v := .int _ _) rfl rfl rfl (by show (5 : Nat) ≤ 7; decide) ?_; intro w24 hT; obtain ⟨y5, hy5⟩ : ∃ y : RS × OV, y = ((stepR y4.1 (numRR B y4.1.pos 4 0 2147483647) 0).1, OV.mk y4.2.op y4.2.n ((stepR y4.1 (numRR B y4.1.pos 4 0 2147483647) 0).2) y4.2.name y4.2.dest y4.2.l y4.2.b) := ⟨_, rfl⟩; have HY5 := hid hy5; have hS5 : St w [] w24 (qP gq (.slice ao n c) y5.1 ++ .blk go 25 (y5.2.cells (.slice none 0 0) (.slice none 0 0)) :: [.blk g3 42 [.int .i64 0, .int .i64 0], .blk g2 25 [.int .i64 0, .string ⟨#[]⟩, .string ⟨#[]⟩, .int .i64 0, .int .i64 0, .slice none 0 0, .slice none 0 0]]) := (by rw [hy5]; exact hT); have HP5 := hid (show y5.1.pos ≤ B.length by rw [hy5]; exact num_pos HP4.out); clear hT hC4 hy5) | (go_at_call 46; obtain ⟨N1, hN1⟩ : ∃ N1, N1 = stepR y5.1 (numRR B y5.1.pos 1 0 16) 0 := ⟨_, rfl⟩; obtain ⟨k, hk⟩ : ∃ k : Nat, N1.2 = (k : Int) := ⟨N1.2.toNat, by rw [hN1]; exact (Int.toNat_of_nonneg (num_in ⟨by decide, by decide⟩).1).symm⟩; have hk16 : k ≤ 16 := (by have h9 := (num_in (B := B) (s := y5.1) (size := 1) (low := 0) (high := 16) ⟨by decide, by decide⟩).2; rw [← hN1, hk] at h9; omega); have HN1 := hid hN1; have HK := hid hk; refine (qnum_any gq ao n c B y5.1 1 0 16 _ (St.sub hS5 (List.sublist_append_left _ _)) (Rd.old hS5 HR.out) hoff.out HN.out (by rw [← HN.out]; exact HP5.out) hb (by decide)).mono ?_; rw [← HN1.out, HK.out]; rintro _ w9 ⟨rfl, h4⟩; have hC5 := St.callF (qP gq (.slice ao n c) y5.1) hS5 h4; clear h4 hS5 hN1 hk))
  have hPJ := hid (fun j : Nat => manyS_pos (f := textF B) (s := N1.1) (N := B.length) (by rw [HN1.out]; exact num_pos HP5.out) (fun s hs => textF_pos s hs) j)
  have hL0 : St w [] w9 (qP gq (.slice ao n c) (manyS (textF B) N1.1 0).1 ++ .blk go 25 (y5.2.cells (.slice none 0 0) (.slice none 0 0)) :: .rowP isS (.slice none 0 0) 9 1 0 (strsV (manyS (textF B) N1.1 0).2) :: [.blk g3 42 [.int .i64 0, .int .i64 0], .blk g2 25 [.int .i64 0, .string ⟨#[]⟩, .string ⟨#[]⟩, .int .i64 0, .int .i64 0, .slice none 0 0, .slice none 0 0]]) := by
    have h1 := St.nilPQ isS 9 1 hC5
    exact (St.front (L1 := [_, _, _, _]) (St.front (L1 := [_, _, _, _]) (St.front (L1 := [_, _]) (St.front (L1 := [_, _, _, _]) (St.front (L1 := [_, _, _, _]) h1)))))
  clear hC5
  go_loopw [7] (fun i wr => ∃ (j : Nat) (lv : Value), j ≤ k ∧ i = .int .i64 (j : Int) ∧ St w [] wr (qP gq (.slice ao n c) (manyS (textF B) N1.1 j).1 ++ .blk go 25 (y5.2.cells lv (.slice none 0 0)) :: .rowP isS lv 9 1 j (strsV (manyS (textF B) N1.1 j).2) :: [.blk g3 42 [.int .i64 0, .int .i64 0], .blk g2 25 [.int .i64 0, .string ⟨#[]⟩, .string ⟨#[]⟩, .int .i64 0, .int .i64 0, .slice none 0 0, .slice none 0 0]])) (fun i _ => k - (intOf i).toNat)
  case atStart => exact ⟨0, _, Nat.zero_le _, rfl, hL0⟩
  case round =>
    clear hL0
    obtain ⟨j, lv, hj, rfl, hst⟩ := hrel
    obtain ⟨al, cl, rfl⟩ := St.rowPSliceF [_, _] hst
    have hposj := hPJ.out j
    by_cases hlt : j < k
    · have d1 : decide ((j : Int) < (k : Int)) = true := decide_eq_true (by omega)
      have z1 : IntKind.i64.wrap ((j : Int) + 1) = (j : Int) + 1 := IntWalk.i64_in _ (by omega)
      have hsucc : manyS (textF B) N1.1 (j + 1) = ((textF B (manyS (textF B) N1.1 j).1).1, (manyS (textF B) N1.1 j).2 ++ [(textF B (manyS (textF B) N1.1 j).1).2]) := rfl
      obtain ⟨S1, hS1⟩ : ∃ S1, S1 = manyS (textF B) N1.1 j := ⟨_, rfl⟩
      rw [← hS1] at hst hposj hsucc
      obtain ⟨S2, hS2⟩ : ∃ S2, S2 = textF B S1.1 := ⟨_, rfl⟩
      rw [← hS2] at hsucc
      have HS2 := hid (show stepR S1.1 (textRR B S1.1.pos 48) [] = S2 from hS2.symm)
      have HSU := hid hsucc
      have HPj := hid hposj
      clear hS1 hS2 hsucc hposj
      go_wp2_with (first | go_big_skip | go_big_guard | (go_at_call 47; refine (qtext_any gq ao n c B S1.1 48 _ (St.sub hst (List.sublist_append_left _ _)) (Rd.old hst HR.out) hoff.out HN.out (by rw [← HN.out]; exact HPj.out) hb (by decide)).mono ?_; rw [HS2.out]; rintro _ w10 ⟨rfl, h4⟩; have hC := St.callF (qP gq (.slice ao n c) S1.1) hst h4; clear h4 hst) | (refine wl_loadE rfl rfl rfl ?_; refine ⟨_, Loads.at [_] hC rfl, ?_⟩) | (apply wl_bsX [strV S2.2] [strV S2.2] hC; rfl; rfl; exact rfl; exact rfl; infer_instance; infer_instance; rfl; rfl; rfl; intro gs w11 hD; clear hC) | (apply wl_appP (ys := [strV S2.2]) [_, _, _] hD; rfl; rfl; exact rfl; exact rfl; infer_instance; infer_instance; infer_instance; infer_instance; exact (Rd.blk0 hD rfl (by decide)); exact rfl; rfl; exact isS_one (by rw [← HS2.out]; exact textF_len _ _); (unfold maxLen; omega); intro v2 w12 hE _; clear hD; obtain ⟨a2, c2, rfl⟩ := St.rowPSliceF [_, _, _] hE) | (refine wl_store [_, _] hE rfl rfl rfl (v := .slice _ _ _) rfl rfl rfl (by show (6 : Nat) ≤ 7; decide) ?_; intro w13 hG; clear hE))
      go_roundw
      case rel =>
        refine ⟨j + 1, .slice a2 (j + 1) c2, by omega, rfl, ?_⟩
        rw [HSU.out]
        have e2 : strsV (S1.2 ++ [S2.2]) = strsV S1.2 ++ [strV S2.2] := by rw [strsV_append]; rfl
        show St w [] _ (qP gq (.slice ao n c) S2.1 ++ .blk go 25 (y5.2.cells (.slice a2 (j + 1) c2) (.slice none 0 0)) :: .rowP isS (.slice a2 (j + 1) c2) 9 1 (j + 1) (strsV (S1.2 ++ [S2.2])) :: [.blk g3 42 [.int .i64 0, .int .i64 0], .blk g2 25 [.int .i64 0, .string ⟨#[]⟩, .string ⟨#[]⟩, .int .i64 0, .int .i64 0, .slice none 0 0, .slice none 0 0]])
        rw [e2]
        exact St.sub hG (.cons _ (List.Sublist.refl _))
      case measure => simp [intOf]; omega
    · have hjk : j = k := by omega
      have d1' : decide ((j : Int) < (k : Int)) = false := decide_eq_false (by omega)
      have eL : listR (textF B) B 1 16 y5.1 = manyS (textF B) N1.1 j := by
        unfold listR
        rw [← HN1.out, HK.out, Int.toNat_natCast, hjk]
      obtain ⟨y6, hy6⟩ : ∃ y : RS × OV, y = ((listR (textF B) B 1 16 y5.1).1, OV.mk y5.2.op y5.2.n y5.2.m y5.2.name y5.2.dest (listR (textF B) B 1 16 y5.1).2 y5.2.b) := ⟨_, rfl⟩
      have HY6 := hid hy6
      have ej : j = y6.2.l.length := by rw [hy6, eL]; exact (manyS_len _ _ _).symm
      have hS6 : St w [] wr (qP gq (.slice ao n c) y6.1 ++ .blk go 25 (y6.2.cells (.slice al j cl) (.slice none 0 0)) :: .rowP isS (.slice al j cl) 9 1 j (strsV y6.2.l) :: [.blk g3 42 [.int .i64 0, .int .i64 0], .blk g2 25 [.int .i64 0, .string ⟨#[]⟩, .string ⟨#[]⟩, .int .i64 0, .int .i64 0, .slice none 0 0, .slice none 0 0]]) := by
        rw [hy6, eL]
        exact hst
      have HP6 := hid (show y6.1.pos ≤ B.length by rw [hy6]; exact listR_pos textF_pos HP5.out)
      have HJ := hid ej
      clear hst hjk eL hy6 hposj ej
      go_wp2_with (first | go_big_skip | go_big_guard | (go_at_call 46; obtain ⟨M1, hM1⟩ : ∃ M1, M1 = stepR y6.1 (numRR B y6.1.pos 3 0 16384) 0 := ⟨_, rfl⟩; have HM1 := hid hM1; have HPM := hid (show M1.1.pos ≤ B.length by rw [hM1]; exact num_pos HP6.out); refine (qnum_any gq ao n c B y6.1 3 0 16384 _ (St.sub hS6 (List.sublist_append_left _ _)) (Rd.old hS6 HR.out) hoff.out HN.out (by rw [← HN.out]; exact HP6.out) hb (by decide)).mono ?_; rw [← HM1.out]; rintro _ w14 ⟨rfl, h4⟩; have hC6 := St.callF (qP gq (.slice ao n c) y6.1) hS6 h4; clear h4 hS6 hM1) | (go_at_call 48; obtain ⟨M2, hM2⟩ : ∃ M2, M2 = stepR M1.1 (rawRR B M1.1.pos M1.2) [] := ⟨_, rfl⟩; have HM2 := hid hM2; refine (qraw_any gq ao n c B M1.1 M1.2 _ (St.sub hC6 (List.sublist_append_left _ _)) (Rd.old hC6 HR.out) hoff.out HN.out (by rw [← HN.out]; exact HPM.out) hb).mono ?_; rw [← HM2.out]; rintro _ w15 ⟨u, rfl, h4⟩; have hC7 := St.callF (qP gq (.slice ao n c) M1.1) hC6 h4; clear h4 hC6 hM2; obtain ⟨ab, cb, rfl⟩ := St.rowPSliceF [_] hC7) | (refine wl_store [_, _] hC7 rfl rfl rfl (v := .slice _ _ _) rfl rfl rfl (by show (7 : Nat) ≤ 7; decide) ?_; intro w16 hT; clear hC7; obtain ⟨y7, hy7⟩ : ∃ y : RS × OV, y = ((rawS B y6.1).1, OV.mk y6.2.op y6.2.n y6.2.m y6.2.name y6.2.dest y6.2.l (rawS B y6.1).2) := ⟨_, rfl⟩; have eM : rawS B y6.1 = M2 := (by rw [HM2.out, HM1.out]; rfl); have eS : y7 = S := (by rw [hy7, HY6.out, HY5.out, HY4.out, HY3.out, HY2.out, HY1.out, HY0.out, HS.out]; rfl); have hS7 : St w [] w16 (qP gq (.slice ao n c) S.1 ++ .rowP isB (.slice ab M2.2.length cb) 5 1 M2.2.length (bytesV M2.2) :: .blk go 25 (S.2.cells (.slice al j cl) (.slice ab M2.2.length cb)) :: .rowP isS (.slice al j cl) 9 1 j (strsV S.2.l) :: [.blk g3 42 [.int .i64 0, .int .i64 0], .blk g2 25 [.int .i64 0, .string ⟨#[]⟩, .string ⟨#[]⟩, .int .i64 0, .int .i64 0, .slice none 0 0, .slice none 0 0]]) := (by rw [← eS, hy7, eM]; exact hT); have HB2 := hid (show M2.2 = S.2.b by rw [← eS, hy7, eM]); have HP7 := hid (show S.1.pos ≤ B.length by rw [← eS, hy7]; exact rawS_pos HP6.out); have HJ2 := hid (show j = S.2.l.length by rw [HJ.out, ← eS, hy7]); clear hT hy7 eM eS) | (go_at_call 49; refine (qend_any gq ao n c S.1 B _ (St.sub hS7 (List.sublist_append_left _ _)) HN.out (by omega) (by rw [← HN.out]; exact HP7.out)).mono ?_; rw [← HF.out]; rintro _ w17 ⟨rfl, h4⟩; have hS8 := St.call0 hS7 h4; clear h4 hS7) | (refine wl_alloc hS8 rfl rfl ?_; intro g9 w18 hS9; clear hS8) | (refine wl_storeA [] hS9 rfl rfl rfl rfl rfl rfl rfl ?_; intro w19 hX; clear hS9) | (refine wl_loadE rfl rfl rfl ?_; first | refine ⟨_, Loads.at [] hX rfl, ?_⟩))
      have hY := hX.drew
      clear hX
      refine wp_region_held_drew (S := (fun w' => (loadVarH 42 ⟨g9, 0, none⟩).run Try.prog w' = .ok (.agg (List.toArray ([.int .i64 f.1, .int .i64 f.2]))) w')) (by kernel_rfl) (by exact ldA ([.int .i64 f.1, .int .i64 f.2]) [] hY (rfl) (rfl)) (fun hHeld => ?_)
      refine wpAnyH_take (i := 0) (oi := ⟨some 52, _, _, _, _, _⟩) (v := ?_) rfl (by kernel_rfl) (by kernel_rfl) (by kernel_rfl) (fun _ _ _ h => h) (Or.inl ⟨by rfl, ?_⟩) (by assumption) ?_
      rotate_left
      · intro w hSw; (try dsimp only at hSw); go_simp; try with_reducible rfl
      (try simp only [Act.put, List.setIfInBounds_toArray, List.set_cons_zero, List.set_cons_succ])
      refine wpAnyH_take (i := 1) (oi := ⟨some 53, _, _, _, _, _⟩) (v := ?_) rfl (by kernel_rfl) (by kernel_rfl) (by kernel_rfl) (fun _ _ _ h => h) (Or.inl ⟨by rfl, ?_⟩) (by assumption) ?_
      rotate_left
      · intro w hSw; (try dsimp only at hSw); go_simp; try with_reducible rfl
      (try simp only [Act.put, List.setIfInBounds_toArray, List.set_cons_zero, List.set_cons_succ])
      refine wpAnyH_ready (rs := [2]) (by kernel_rfl) (by simp) ?_
      refine (AllReadyH.cons (o := ⟨none, _, _, _, _, _⟩) rfl (fun K hK => ?_) AllReadyH.nil)
      rw [if_pos (by rfl)]
      refine ow_of_wl (ops := #[]) (by rfl) ?_
      refine wl_storeA [_, _, _, _, _, _] hY rfl rfl rfl rfl rfl rfl rfl ?_
      intro w46 hZ6
      refine q0_nil ?_
      refine hK.out _ _ ?_ (fun hHeld => ?_)
      · exact ldA ([.int .i64 f.1, .int .i64 f.2]) [] hZ6 (rfl) (rfl)
      clear hK K
      (try simp only [Act.put, List.setIfInBounds_toArray, List.set_cons_zero, List.set_cons_succ])
      refine wpAnyH_ready (rs := [3]) (by kernel_rfl) (by simp) ?_
      refine (AllReadyH.cons (o := ⟨none, _, _, _, _, _⟩) rfl (fun K hK => ?_) AllReadyH.nil)
      rw [if_pos (by rfl)]
      refine ow_of_wl (ops := #[]) (by rfl) ?_
      refine wl_storeA [_, _, _, _, _] hZ6 rfl rfl rfl rfl rfl rfl rfl ?_
      intro w45 hZ5
      refine q0_nil ?_
      refine hK.out _ _ ?_ (fun hHeld => ?_)
      · exact ldA ([.int .i64 f.1, .int .i64 f.2]) [] hZ5 (rfl) (rfl)
      clear hK K
      (try simp only [Act.put, List.setIfInBounds_toArray, List.set_cons_zero, List.set_cons_succ])
      refine wpAnyH_done (by kernel_rfl) ?_ _
      clear hHeld
      go_wp2_with (first | go_big_skip | go_big_guard | fail)
      refine bodyPost_ret (results_cell2L rfl rfl rfl (Loads.whole (T := 25) [_, _, _, _, _, _] hZ5 rfl) (Loads.whole (T := 42) [_, _, _, _, _] hZ5 rfl)) rfl ?_
      rw [HE.out]
      exact ⟨.slice none 0 0, .slice none 0 0, rfl, St.nilPQ isS _ 1 (St.nilPQ isB _ 1 hZ5.nil)⟩
theorem qget_odd (ao : Option Addr) (n c : Nat) (B : List UInt8) (w : World) (hr : Rd w (.slice ao n c) 1 n (bytesV B)) (hn : B.length = n) (hb : n ≤ 100000) (h0 : (endR B (goAll ((⟨0, 0, 0⟩, OV.none) : RS × OV) (getF B)).1).1 = 0) (h1 : (goAll ((⟨0, 0, 0⟩, OV.none) : RS × OV) (getF B)).2.check ≠ 0) :
    Calls Try.prog 23 #[.slice ao n c] w (GetP w (getO B)) := by
  have hst0 := St.refl w
  have HR := hid hr
  have HN := hid hn
  have hBl : B.length ≤ 100000 := by rw [hn]; exact hb
  obtain ⟨S, hS⟩ : ∃ S, S = goAll ((⟨0, 0, 0⟩, OV.none) : RS × OV) (getF B) := ⟨_, rfl⟩
  have HS := hid hS
  have HL16 := hid (show S.2.l.length ≤ 16 by rw [hS]; exact get_len B)
  obtain ⟨f, hf⟩ : ∃ f, f = endR B S.1 := ⟨_, rfl⟩
  have HF := hid hf
  obtain ⟨ck, hck⟩ : ∃ ck, ck = S.2.check := ⟨_, rfl⟩
  have HCK := hid hck
  rw [← hS] at h0 h1
  rw [← hf] at h0
  rw [← hck] at h1
  obtain ⟨R, hR⟩ : ∃ R, R = getO B := ⟨_, rfl⟩
  rw [← hR]
  have e : R = (OV.none, 2, 0) := by
    have e2 : f.2 = 0 := by rw [hf]; refine endR_fine (by rw [hS]; exact get_fine B) (by rw [← hf]; exact h0)
    have e3 : ck = 2 := by
      rcases check_two S.2 with h | h
      · rw [hck]; exact h
      · rw [hck] at h1; exact absurd h h1
    rw [hR]; unfold getO; simp only [← hS, ← hf, ← hck]
    rw [if_pos h0, if_neg h1, e2, e3]
  have d1 : (f.1 != 0) = false := by simpa using h0
  have d2 : (ck != 0) = true := by simpa using h1
  have HE := hid e
  clear hS hf hck hR e h0 h1 hr hn
  go_enter Try.func23, Try.ntmps23
  go_wp2_with (first | go_big_skip | go_big_guard | (refine wl_alloc (T := 25) hst0 rfl rfl ?_; intro g2 w1 hst1; clear hst0) | (refine wl_alloc hst1 rfl rfl ?_; intro g3 w2 hst2; clear hst1) | (go_at_call 45; refine (qopen_any ao n c _).mono ?_; rintro _ w3 ⟨gq, rfl, h4⟩; have hst3 := St.call hst2 h4; clear h4 hst2; have hoff := hid (St.newOff (L1 := []) hst3 HR.out (by decide))) | (refine wl_alloc (T := 25) hst3 rfl rfl ?_; intro go w4 hst4; clear hst3; obtain ⟨y0, hy0⟩ : ∃ y : RS × OV, y = (⟨0, 0, 0⟩, OV.none) := ⟨_, rfl⟩; have HY0 := hid hy0; have hS0 : St w [] w4 (qP gq (.slice ao n c) y0.1 ++ .blk go 25 (y0.2.cells (.slice none 0 0) (.slice none 0 0)) :: [.blk g3 42 [.int .i64 0, .int .i64 0], .blk g2 25 [.int .i64 0, .string ⟨#[]⟩, .string ⟨#[]⟩, .int .i64 0, .int .i64 0, .slice none 0 0, .slice none 0 0]]) := (by rw [hy0]; exact St.front [_] hst4); have HP0 := hid (show y0.1.pos ≤ B.length by rw [hy0]; exact Nat.zero_le _); clear hst4 hy0) | (go_at_call 46; refine (qnum_any gq ao n c B y0.1 1 1 24 _ (St.sub hS0 (List.sublist_append_left _ _)) (Rd.old hS0 HR.out) hoff.out HN.out (by rw [← HN.out]; exact HP0.out) hb (by decide)).mono ?_; rintro _ w9 ⟨rfl, h4⟩; have hC0 := St.callF (qP gq (.slice ao n c) y0.1) hS0 h4; clear h4 hS0) | (refine wl_store [_] hC0 rfl rfl rfl (v := .int _ _) rfl rfl rfl (by show (1 : Nat) ≤ 7; decide) ?_; intro w20 hT; obtain ⟨y1, hy1⟩ : ∃ y : RS × OV, y = ((stepR y0.1 (numRR B y0.1.pos 1 1 24) 0).1, OV.mk ((stepR y0.1 (numRR B y0.1.pos 1 1 24) 0).2) y0.2.n y0.2.m y0.2.name y0.2.dest y0.2.l y0.2.b) := ⟨_, rfl⟩; have HY1 := hid hy1; have hS1 : St w [] w20 (qP gq (.slice ao n c) y1.1 ++ .blk go 25 (y1.2.cells (.slice none 0 0) (.slice none 0 0)) :: [.blk g3 42 [.int .i64 0, .int .i64 0], .blk g2 25 [.int .i64 0, .string ⟨#[]⟩, .string ⟨#[]⟩, .int .i64 0, .int .i64 0, .slice none 0 0, .slice none 0 0]]) := (by rw [hy1]; exact hT); have HP1 := hid (show y1.1.pos ≤ B.length by rw [hy1]; exact num_pos HP0.out); clear hT hC0 hy1) | (go_at_call 47; refine (qtext_any gq ao n c B y1.1 48 _ (St.sub hS1 (List.sublist_append_left _ _)) (Rd.old hS1 HR.out) hoff.out HN.out (by rw [← HN.out]; exact HP1.out) hb (by decide)).mono ?_; rintro _ w9 ⟨rfl, h4⟩; have hC1 := St.callF (qP gq (.slice ao n c) y1.1) hS1 h4; clear h4 hS1) | (refine wl_store [_] hC1 rfl rfl rfl (v := .string _) rfl rfl rfl (by show (2 : Nat) ≤ 7; decide) ?_; intro w21 hT; obtain ⟨y2, hy2⟩ : ∃ y : RS × OV, y = ((textF B y1.1).1, OV.mk y1.2.op y1.2.n y1.2.m ((textF B y1.1).2) y1.2.dest y1.2.l y1.2.b) := ⟨_, rfl⟩; have HY2 := hid hy2; have hS2 : St w [] w21 (qP gq (.slice ao n c) y2.1 ++ .blk go 25 (y2.2.cells (.slice none 0 0) (.slice none 0 0)) :: [.blk g3 42 [.int .i64 0, .int .i64 0], .blk g2 25 [.int .i64 0, .string ⟨#[]⟩, .string ⟨#[]⟩, .int .i64 0, .int .i64 0, .slice none 0 0, .slice none 0 0]]) := (by rw [hy2]; exact hT); have HP2 := hid (show y2.1.pos ≤ B.length by rw [hy2]; exact text_pos HP1.out); clear hT hC1 hy2) | (go_at_call 47; refine (qtext_any gq ao n c B y2.1 48 _ (St.sub hS2 (List.sublist_append_left _ _)) (Rd.old hS2 HR.out) hoff.out HN.out (by rw [← HN.out]; exact HP2.out) hb (by decide)).mono ?_; rintro _ w9 ⟨rfl, h4⟩; have hC2 := St.callF (qP gq (.slice ao n c) y2.1) hS2 h4; clear h4 hS2) | (refine wl_store [_] hC2 rfl rfl rfl (v := .string _) rfl rfl rfl (by show (3 : Nat) ≤ 7; decide) ?_; intro w22 hT; obtain ⟨y3, hy3⟩ : ∃ y : RS × OV, y = ((textF B y2.1).1, OV.mk y2.2.op y2.2.n y2.2.m y2.2.name ((textF B y2.1).2) y2.2.l y2.2.b) := ⟨_, rfl⟩; have HY3 := hid hy3; have hS3 : St w [] w22 (qP gq (.slice ao n c) y3.1 ++ .blk go 25 (y3.2.cells (.slice none 0 0) (.slice none 0 0)) :: [.blk g3 42 [.int .i64 0, .int .i64 0], .blk g2 25 [.int .i64 0, .string ⟨#[]⟩, .string ⟨#[]⟩, .int .i64 0, .int .i64 0, .slice none 0 0, .slice none 0 0]]) := (by rw [hy3]; exact hT); have HP3 := hid (show y3.1.pos ≤ B.length by rw [hy3]; exact text_pos HP2.out); clear hT hC2 hy3) | (go_at_call 46; refine (qnum_any gq ao n c B y3.1 4 0 2147483647 _ (St.sub hS3 (List.sublist_append_left _ _)) (Rd.old hS3 HR.out) hoff.out HN.out (by rw [← HN.out]; exact HP3.out) hb (by decide)).mono ?_; rintro _ w9 ⟨rfl, h4⟩; have hC3 := St.callF (qP gq (.slice ao n c) y3.1) hS3 h4; clear h4 hS3) | (refine wl_store [_] hC3 rfl rfl rfl (v := .int _ _) rfl rfl rfl (by show (4 : Nat) ≤ 7; decide) ?_; intro w23 hT; obtain ⟨y4, hy4⟩ : ∃ y : RS × OV, y = ((stepR y3.1 (numRR B y3.1.pos 4 0 2147483647) 0).1, OV.mk y3.2.op ((stepR y3.1 (numRR B y3.1.pos 4 0 2147483647) 0).2) y3.2.m y3.2.name y3.2.dest y3.2.l y3.2.b) := ⟨_, rfl⟩; have HY4 := hid hy4; have hS4 : St w [] w23 (qP gq (.slice ao n c) y4.1 ++ .blk go 25 (y4.2.cells (.slice none 0 0) (.slice none 0 0)) :: [.blk g3 42 [.int .i64 0, .int .i64 0], .blk g2 25 [.int .i64 0, .string ⟨#[]⟩, .string ⟨#[]⟩, .int .i64 0, .int .i64 0, .slice none 0 0, .slice none 0 0]]) := (by rw [hy4]; exact hT); have HP4 := hid (show y4.1.pos ≤ B.length by rw [hy4]; exact num_pos HP3.out); clear hT hC3 hy4) | (go_at_call 46; refine (qnum_any gq ao n c B y4.1 4 0 2147483647 _ (St.sub hS4 (List.sublist_append_left _ _)) (Rd.old hS4 HR.out) hoff.out HN.out (by rw [← HN.out]; exact HP4.out) hb (by decide)).mono ?_; rintro _ w9 ⟨rfl, h4⟩; have hC4 := St.callF (qP gq (.slice ao n c) y4.1) hS4 h4; clear h4 hS4) | (refine wl_store [_] hC4 rfl rfl rfl (v := .int _ _) rfl rfl rfl (by show (5 : Nat) ≤ 7; decide) ?_; intro w24 hT; obtain ⟨y5, hy5⟩ : ∃ y : RS × OV, y = ((stepR y4.1 (numRR B y4.1.pos 4 0 2147483647) 0).1, OV.mk y4.2.op y4.2.n ((stepR y4.1 (numRR B y4.1.pos 4 0 2147483647) 0).2) y4.2.name y4.2.dest y4.2.l y4.2.b) := ⟨_, rfl⟩; have HY5 := hid hy5; have hS5 : St w [] w24 (qP gq (.slice ao n c) y5.1 ++ .blk go 25 (y5.2.cells (.slice none 0 0) (.slice none 0 0)) :: [.blk g3 42 [.int .i64 0, .int .i64 0], .blk g2 25 [.int .i64 0, .string ⟨#[]⟩, .string ⟨#[]⟩, .int .i64 0, .int .i64 0, .slice none 0 0, .slice none 0 0]]) := (by rw [hy5]; exact hT); have HP5 := hid (show y5.1.pos ≤ B.length by rw [hy5]; exact num_pos HP4.out); clear hT hC4 hy5) | (go_at_call 46; obtain ⟨N1, hN1⟩ : ∃ N1, N1 = stepR y5.1 (numRR B y5.1.pos 1 0 16) 0 := ⟨_, rfl⟩; obtain ⟨k, hk⟩ : ∃ k : Nat, N1.2 = (k : Int) := ⟨N1.2.toNat, by rw [hN1]; exact (Int.toNat_of_nonneg (num_in ⟨by decide, by decide⟩).1).symm⟩; have hk16 : k ≤ 16 := (by have h9 := (num_in (B := B) (s := y5.1) (size := 1) (low := 0) (high := 16) ⟨by decide, by decide⟩).2; rw [← hN1, hk] at h9; omega); have HN1 := hid hN1; have HK := hid hk; refine (qnum_any gq ao n c B y5.1 1 0 16 _ (St.sub hS5 (List.sublist_append_left _ _)) (Rd.old hS5 HR.out) hoff.out HN.out (by rw [← HN.out]; exact HP5.out) hb (by decide)).mono ?_; rw [← HN1.out, HK.out]; rintro _ w9 ⟨rfl, h4⟩; have hC5 := St.callF (qP gq (.slice ao n c) y5.1) hS5 h4; clear h4 hS5 hN1 hk))
  have hPJ := hid (fun j : Nat => manyS_pos (f := textF B) (s := N1.1) (N := B.length) (by rw [HN1.out]; exact num_pos HP5.out) (fun s hs => textF_pos s hs) j)
  have hL0 : St w [] w9 (qP gq (.slice ao n c) (manyS (textF B) N1.1 0).1 ++ .blk go 25 (y5.2.cells (.slice none 0 0) (.slice none 0 0)) :: .rowP isS (.slice none 0 0) 9 1 0 (strsV (manyS (textF B) N1.1 0).2) :: [.blk g3 42 [.int .i64 0, .int .i64 0], .blk g2 25 [.int .i64 0, .string ⟨#[]⟩, .string ⟨#[]⟩, .int .i64 0, .int .i64 0, .slice none 0 0, .slice none 0 0]]) := by
    have h1 := St.nilPQ isS 9 1 hC5
    exact (St.front (L1 := [_, _, _, _]) (St.front (L1 := [_, _, _, _]) (St.front (L1 := [_, _]) (St.front (L1 := [_, _, _, _]) (St.front (L1 := [_, _, _, _]) h1)))))
  clear hC5
  go_loopw [7] (fun i wr => ∃ (j : Nat) (lv : Value), j ≤ k ∧ i = .int .i64 (j : Int) ∧ St w [] wr (qP gq (.slice ao n c) (manyS (textF B) N1.1 j).1 ++ .blk go 25 (y5.2.cells lv (.slice none 0 0)) :: .rowP isS lv 9 1 j (strsV (manyS (textF B) N1.1 j).2) :: [.blk g3 42 [.int .i64 0, .int .i64 0], .blk g2 25 [.int .i64 0, .string ⟨#[]⟩, .string ⟨#[]⟩, .int .i64 0, .int .i64 0, .slice none 0 0, .slice none 0 0]])) (fun i _ => k - (intOf i).toNat)
  case atStart => exact ⟨0, _, Nat.zero_le _, rfl, hL0⟩
  case round =>
    clear hL0
    obtain ⟨j, lv, hj, rfl, hst⟩ := hrel
    obtain ⟨al, cl, rfl⟩ := St.rowPSliceF [_, _] hst
    have hposj := hPJ.out j
    by_cases hlt : j < k
    · have d1 : decide ((j : Int) < (k : Int)) = true := decide_eq_true (by omega)
      have z1 : IntKind.i64.wrap ((j : Int) + 1) = (j : Int) + 1 := IntWalk.i64_in _ (by omega)
      have hsucc : manyS (textF B) N1.1 (j + 1) = ((textF B (manyS (textF B) N1.1 j).1).1, (manyS (textF B) N1.1 j).2 ++ [(textF B (manyS (textF B) N1.1 j).1).2]) := rfl
      obtain ⟨S1, hS1⟩ : ∃ S1, S1 = manyS (textF B) N1.1 j := ⟨_, rfl⟩
      rw [← hS1] at hst hposj hsucc
      obtain ⟨S2, hS2⟩ : ∃ S2, S2 = textF B S1.1 := ⟨_, rfl⟩
      rw [← hS2] at hsucc
      have HS2 := hid (show stepR S1.1 (textRR B S1.1.pos 48) [] = S2 from hS2.symm)
      have HSU := hid hsucc
      have HPj := hid hposj
      clear hS1 hS2 hsucc hposj
      go_wp2_with (first | go_big_skip | go_big_guard | (go_at_call 47; refine (qtext_any gq ao n c B S1.1 48 _ (St.sub hst (List.sublist_append_left _ _)) (Rd.old hst HR.out) hoff.out HN.out (by rw [← HN.out]; exact HPj.out) hb (by decide)).mono ?_; rw [HS2.out]; rintro _ w10 ⟨rfl, h4⟩; have hC := St.callF (qP gq (.slice ao n c) S1.1) hst h4; clear h4 hst) | (refine wl_loadE rfl rfl rfl ?_; refine ⟨_, Loads.at [_] hC rfl, ?_⟩) | (apply wl_bsX [strV S2.2] [strV S2.2] hC; rfl; rfl; exact rfl; exact rfl; infer_instance; infer_instance; rfl; rfl; rfl; intro gs w11 hD; clear hC) | (apply wl_appP (ys := [strV S2.2]) [_, _, _] hD; rfl; rfl; exact rfl; exact rfl; infer_instance; infer_instance; infer_instance; infer_instance; exact (Rd.blk0 hD rfl (by decide)); exact rfl; rfl; exact isS_one (by rw [← HS2.out]; exact textF_len _ _); (unfold maxLen; omega); intro v2 w12 hE _; clear hD; obtain ⟨a2, c2, rfl⟩ := St.rowPSliceF [_, _, _] hE) | (refine wl_store [_, _] hE rfl rfl rfl (v := .slice _ _ _) rfl rfl rfl (by show (6 : Nat) ≤ 7; decide) ?_; intro w13 hG; clear hE))
      go_roundw
      case rel =>
        refine ⟨j + 1, .slice a2 (j + 1) c2, by omega, rfl, ?_⟩
        rw [HSU.out]
        have e2 : strsV (S1.2 ++ [S2.2]) = strsV S1.2 ++ [strV S2.2] := by rw [strsV_append]; rfl
        show St w [] _ (qP gq (.slice ao n c) S2.1 ++ .blk go 25 (y5.2.cells (.slice a2 (j + 1) c2) (.slice none 0 0)) :: .rowP isS (.slice a2 (j + 1) c2) 9 1 (j + 1) (strsV (S1.2 ++ [S2.2])) :: [.blk g3 42 [.int .i64 0, .int .i64 0], .blk g2 25 [.int .i64 0, .string ⟨#[]⟩, .string ⟨#[]⟩, .int .i64 0, .int .i64 0, .slice none 0 0, .slice none 0 0]])
        rw [e2]
        exact St.sub hG (.cons _ (List.Sublist.refl _))
      case measure => simp [intOf]; omega
    · have hjk : j = k := by omega
      have d1' : decide ((j : Int) < (k : Int)) = false := decide_eq_false (by omega)
      have eL : listR (textF B) B 1 16 y5.1 = manyS (textF B) N1.1 j := by
        unfold listR
        rw [← HN1.out, HK.out, Int.toNat_natCast, hjk]
      obtain ⟨y6, hy6⟩ : ∃ y : RS × OV, y = ((listR (textF B) B 1 16 y5.1).1, OV.mk y5.2.op y5.2.n y5.2.m y5.2.name y5.2.dest (listR (textF B) B 1 16 y5.1).2 y5.2.b) := ⟨_, rfl⟩
      have HY6 := hid hy6
      have ej : j = y6.2.l.length := by rw [hy6, eL]; exact (manyS_len _ _ _).symm
      have hS6 : St w [] wr (qP gq (.slice ao n c) y6.1 ++ .blk go 25 (y6.2.cells (.slice al j cl) (.slice none 0 0)) :: .rowP isS (.slice al j cl) 9 1 j (strsV y6.2.l) :: [.blk g3 42 [.int .i64 0, .int .i64 0], .blk g2 25 [.int .i64 0, .string ⟨#[]⟩, .string ⟨#[]⟩, .int .i64 0, .int .i64 0, .slice none 0 0, .slice none 0 0]]) := by
        rw [hy6, eL]
        exact hst
      have HP6 := hid (show y6.1.pos ≤ B.length by rw [hy6]; exact listR_pos textF_pos HP5.out)
      have HJ := hid ej
      clear hst hjk eL hy6 hposj ej
      go_wp2_with (first | go_big_skip | go_big_guard | (go_at_call 46; obtain ⟨M1, hM1⟩ : ∃ M1, M1 = stepR y6.1 (numRR B y6.1.pos 3 0 16384) 0 := ⟨_, rfl⟩; have HM1 := hid hM1; have HPM := hid (show M1.1.pos ≤ B.length by rw [hM1]; exact num_pos HP6.out); refine (qnum_any gq ao n c B y6.1 3 0 16384 _ (St.sub hS6 (List.sublist_append_left _ _)) (Rd.old hS6 HR.out) hoff.out HN.out (by rw [← HN.out]; exact HP6.out) hb (by decide)).mono ?_; rw [← HM1.out]; rintro _ w14 ⟨rfl, h4⟩; have hC6 := St.callF (qP gq (.slice ao n c) y6.1) hS6 h4; clear h4 hS6 hM1) | (go_at_call 48; obtain ⟨M2, hM2⟩ : ∃ M2, M2 = stepR M1.1 (rawRR B M1.1.pos M1.2) [] := ⟨_, rfl⟩; have HM2 := hid hM2; refine (qraw_any gq ao n c B M1.1 M1.2 _ (St.sub hC6 (List.sublist_append_left _ _)) (Rd.old hC6 HR.out) hoff.out HN.out (by rw [← HN.out]; exact HPM.out) hb).mono ?_; rw [← HM2.out]; rintro _ w15 ⟨u, rfl, h4⟩; have hC7 := St.callF (qP gq (.slice ao n c) M1.1) hC6 h4; clear h4 hC6 hM2; obtain ⟨ab, cb, rfl⟩ := St.rowPSliceF [_] hC7) | (refine wl_store [_, _] hC7 rfl rfl rfl (v := .slice _ _ _) rfl rfl rfl (by show (7 : Nat) ≤ 7; decide) ?_; intro w16 hT; clear hC7; obtain ⟨y7, hy7⟩ : ∃ y : RS × OV, y = ((rawS B y6.1).1, OV.mk y6.2.op y6.2.n y6.2.m y6.2.name y6.2.dest y6.2.l (rawS B y6.1).2) := ⟨_, rfl⟩; have eM : rawS B y6.1 = M2 := (by rw [HM2.out, HM1.out]; rfl); have eS : y7 = S := (by rw [hy7, HY6.out, HY5.out, HY4.out, HY3.out, HY2.out, HY1.out, HY0.out, HS.out]; rfl); have hS7 : St w [] w16 (qP gq (.slice ao n c) S.1 ++ .rowP isB (.slice ab M2.2.length cb) 5 1 M2.2.length (bytesV M2.2) :: .blk go 25 (S.2.cells (.slice al j cl) (.slice ab M2.2.length cb)) :: .rowP isS (.slice al j cl) 9 1 j (strsV S.2.l) :: [.blk g3 42 [.int .i64 0, .int .i64 0], .blk g2 25 [.int .i64 0, .string ⟨#[]⟩, .string ⟨#[]⟩, .int .i64 0, .int .i64 0, .slice none 0 0, .slice none 0 0]]) := (by rw [← eS, hy7, eM]; exact hT); have HB2 := hid (show M2.2 = S.2.b by rw [← eS, hy7, eM]); have HP7 := hid (show S.1.pos ≤ B.length by rw [← eS, hy7]; exact rawS_pos HP6.out); have HJ2 := hid (show j = S.2.l.length by rw [HJ.out, ← eS, hy7]); clear hT hy7 eM eS) | (go_at_call 49; refine (qend_any gq ao n c S.1 B _ (St.sub hS7 (List.sublist_append_left _ _)) HN.out (by omega) (by rw [← HN.out]; exact HP7.out)).mono ?_; rw [← HF.out]; rintro _ w17 ⟨rfl, h4⟩; have hS8 := St.call0 hS7 h4; clear h4 hS7) | (refine wl_alloc hS8 rfl rfl ?_; intro g9 w18 hS9; clear hS8) | (refine wl_storeA [] hS9 rfl rfl rfl rfl rfl rfl rfl ?_; intro w19 hX; clear hS9) | (refine wl_loadE rfl rfl rfl ?_; first | refine ⟨_, Loads.at [] hX rfl, ?_⟩) | (refine wl_loadE rfl rfl rfl ?_; refine ⟨_, Loads.whole (T := 25) [_, _, _] hX rfl, ?_⟩) | (go_at_call 16; refine (qcheck_any S.2 al ab j cl M2.2.length cb _ (Rd.rowP hX (.tail _ (.tail _ (.tail _ (.tail _ (.head _)))))) HJ2.out.symm (by rw [HB2.out]) (by have h9 := HL16.out; rw [HJ2.out]; omega)).mono ?_; rw [← HCK.out]; rintro _ w20' ⟨rfl, h4⟩; have hX2 := St.call0 hX h4; clear h4 hX) | (refine wl_build0 rfl rfl ?_) | (refine wl_buildX (cs := [.int .i64 2, .int .i64 0]) [(0, .int .i64 2)] rfl rfl (by exact rfl) (by kernel_rfl) ?_) | (refine wl_storeA (T := 25) [_, _, _, _, _, _] hX2 rfl rfl rfl rfl rfl rfl rfl ?_; intro w31 hX3; clear hX2) | (refine wl_storeA (T := 42) [_, _, _, _, _] hX3 rfl rfl rfl rfl rfl rfl rfl ?_; intro w32 hX4; clear hX3))
      refine bodyPost_ret (results_cell2L rfl rfl rfl (Loads.whole (T := 25) [_, _, _, _, _, _] hX4 rfl) (Loads.whole (T := 42) [_, _, _, _, _] hX4 rfl)) rfl ?_
      rw [HE.out]
      exact ⟨.slice none 0 0, .slice none 0 0, rfl, St.nilPQ isS _ 1 (St.nilPQ isB _ 1 hX4.nil)⟩
theorem qget_ok (ao : Option Addr) (n c : Nat) (B : List UInt8) (w : World) (hr : Rd w (.slice ao n c) 1 n (bytesV B)) (hn : B.length = n) (hb : n ≤ 100000) (h0 : (endR B (goAll ((⟨0, 0, 0⟩, OV.none) : RS × OV) (getF B)).1).1 = 0) (h1 : (goAll ((⟨0, 0, 0⟩, OV.none) : RS × OV) (getF B)).2.check = 0) :
    Calls Try.prog 23 #[.slice ao n c] w (GetP w (getO B)) := by
  have hst0 := St.refl w
  have HR := hid hr
  have HN := hid hn
  have hBl : B.length ≤ 100000 := by rw [hn]; exact hb
  obtain ⟨S, hS⟩ : ∃ S, S = goAll ((⟨0, 0, 0⟩, OV.none) : RS × OV) (getF B) := ⟨_, rfl⟩
  have HS := hid hS
  have HL16 := hid (show S.2.l.length ≤ 16 by rw [hS]; exact get_len B)
  obtain ⟨f, hf⟩ : ∃ f, f = endR B S.1 := ⟨_, rfl⟩
  have HF := hid hf
  obtain ⟨ck, hck⟩ : ∃ ck, ck = S.2.check := ⟨_, rfl⟩
  have HCK := hid hck
  rw [← hS] at h0 h1
  rw [← hf] at h0
  rw [← hck] at h1
  obtain ⟨R, hR⟩ : ∃ R, R = getO B := ⟨_, rfl⟩
  rw [← hR]
  have e : R = (S.2, f.1, f.2) := by
    rw [hR]; unfold getO; simp only [← hS, ← hf, ← hck]
    rw [if_pos h0, if_pos h1, h0, h1]
  have d1 : (f.1 != 0) = false := by simpa using h0
  have d2 : (ck != 0) = false := by simpa using h1
  have HE := hid e
  clear hS hf hck hR e h0 h1 hr hn
  go_enter Try.func23, Try.ntmps23
  go_wp2_with (first | go_big_skip | go_big_guard | (refine wl_alloc (T := 25) hst0 rfl rfl ?_; intro g2 w1 hst1; clear hst0) | (refine wl_alloc hst1 rfl rfl ?_; intro g3 w2 hst2; clear hst1) | (go_at_call 45; refine (qopen_any ao n c _).mono ?_; rintro _ w3 ⟨gq, rfl, h4⟩; have hst3 := St.call hst2 h4; clear h4 hst2; have hoff := hid (St.newOff (L1 := []) hst3 HR.out (by decide))) | (refine wl_alloc (T := 25) hst3 rfl rfl ?_; intro go w4 hst4; clear hst3; obtain ⟨y0, hy0⟩ : ∃ y : RS × OV, y = (⟨0, 0, 0⟩, OV.none) := ⟨_, rfl⟩; have HY0 := hid hy0; have hS0 : St w [] w4 (qP gq (.slice ao n c) y0.1 ++ .blk go 25 (y0.2.cells (.slice none 0 0) (.slice none 0 0)) :: [.blk g3 42 [.int .i64 0, .int .i64 0], .blk g2 25 [.int .i64 0, .string ⟨#[]⟩, .string ⟨#[]⟩, .int .i64 0, .int .i64 0, .slice none 0 0, .slice none 0 0]]) := (by rw [hy0]; exact St.front [_] hst4); have HP0 := hid (show y0.1.pos ≤ B.length by rw [hy0]; exact Nat.zero_le _); clear hst4 hy0) | (go_at_call 46; refine (qnum_any gq ao n c B y0.1 1 1 24 _ (St.sub hS0 (List.sublist_append_left _ _)) (Rd.old hS0 HR.out) hoff.out HN.out (by rw [← HN.out]; exact HP0.out) hb (by decide)).mono ?_; rintro _ w9 ⟨rfl, h4⟩; have hC0 := St.callF (qP gq (.slice ao n c) y0.1) hS0 h4; clear h4 hS0) | (refine wl_store [_] hC0 rfl rfl rfl (v := .int _ _) rfl rfl rfl (by show (1 : Nat) ≤ 7; decide) ?_; intro w20 hT; obtain ⟨y1, hy1⟩ : ∃ y : RS × OV, y = ((stepR y0.1 (numRR B y0.1.pos 1 1 24) 0).1, OV.mk ((stepR y0.1 (numRR B y0.1.pos 1 1 24) 0).2) y0.2.n y0.2.m y0.2.name y0.2.dest y0.2.l y0.2.b) := ⟨_, rfl⟩; have HY1 := hid hy1; have hS1 : St w [] w20 (qP gq (.slice ao n c) y1.1 ++ .blk go 25 (y1.2.cells (.slice none 0 0) (.slice none 0 0)) :: [.blk g3 42 [.int .i64 0, .int .i64 0], .blk g2 25 [.int .i64 0, .string ⟨#[]⟩, .string ⟨#[]⟩, .int .i64 0, .int .i64 0, .slice none 0 0, .slice none 0 0]]) := (by rw [hy1]; exact hT); have HP1 := hid (show y1.1.pos ≤ B.length by rw [hy1]; exact num_pos HP0.out); clear hT hC0 hy1) | (go_at_call 47; refine (qtext_any gq ao n c B y1.1 48 _ (St.sub hS1 (List.sublist_append_left _ _)) (Rd.old hS1 HR.out) hoff.out HN.out (by rw [← HN.out]; exact HP1.out) hb (by decide)).mono ?_; rintro _ w9 ⟨rfl, h4⟩; have hC1 := St.callF (qP gq (.slice ao n c) y1.1) hS1 h4; clear h4 hS1) | (refine wl_store [_] hC1 rfl rfl rfl (v := .string _) rfl rfl rfl (by show (2 : Nat) ≤ 7; decide) ?_; intro w21 hT; obtain ⟨y2, hy2⟩ : ∃ y : RS × OV, y = ((textF B y1.1).1, OV.mk y1.2.op y1.2.n y1.2.m ((textF B y1.1).2) y1.2.dest y1.2.l y1.2.b) := ⟨_, rfl⟩; have HY2 := hid hy2; have hS2 : St w [] w21 (qP gq (.slice ao n c) y2.1 ++ .blk go 25 (y2.2.cells (.slice none 0 0) (.slice none 0 0)) :: [.blk g3 42 [.int .i64 0, .int .i64 0], .blk g2 25 [.int .i64 0, .string ⟨#[]⟩, .string ⟨#[]⟩, .int .i64 0, .int .i64 0, .slice none 0 0, .slice none 0 0]]) := (by rw [hy2]; exact hT); have HP2 := hid (show y2.1.pos ≤ B.length by rw [hy2]; exact text_pos HP1.out); clear hT hC1 hy2) | (go_at_call 47; refine (qtext_any gq ao n c B y2.1 48 _ (St.sub hS2 (List.sublist_append_left _ _)) (Rd.old hS2 HR.out) hoff.out HN.out (by rw [← HN.out]; exact HP2.out) hb (by decide)).mono ?_; rintro _ w9 ⟨rfl, h4⟩; have hC2 := St.callF (qP gq (.slice ao n c) y2.1) hS2 h4; clear h4 hS2) | (refine wl_store [_] hC2 rfl rfl rfl (v := .string _) rfl rfl rfl (by show (3 : Nat) ≤ 7; decide) ?_; intro w22 hT; obtain ⟨y3, hy3⟩ : ∃ y : RS × OV, y = ((textF B y2.1).1, OV.mk y2.2.op y2.2.n y2.2.m y2.2.name ((textF B y2.1).2) y2.2.l y2.2.b) := ⟨_, rfl⟩; have HY3 := hid hy3; have hS3 : St w [] w22 (qP gq (.slice ao n c) y3.1 ++ .blk go 25 (y3.2.cells (.slice none 0 0) (.slice none 0 0)) :: [.blk g3 42 [.int .i64 0, .int .i64 0], .blk g2 25 [.int .i64 0, .string ⟨#[]⟩, .string ⟨#[]⟩, .int .i64 0, .int .i64 0, .slice none 0 0, .slice none 0 0]]) := (by rw [hy3]; exact hT); have HP3 := hid (show y3.1.pos ≤ B.length by rw [hy3]; exact text_pos HP2.out); clear hT hC2 hy3) | (go_at_call 46; refine (qnum_any gq ao n c B y3.1 4 0 2147483647 _ (St.sub hS3 (List.sublist_append_left _ _)) (Rd.old hS3 HR.out) hoff.out HN.out (by rw [← HN.out]; exact HP3.out) hb (by decide)).mono ?_; rintro _ w9 ⟨rfl, h4⟩; have hC3 := St.callF (qP gq (.slice ao n c) y3.1) hS3 h4; clear h4 hS3) | (refine wl_store [_] hC3 rfl rfl rfl (v := .int _ _) rfl rfl rfl (by show (4 : Nat) ≤ 7; decide) ?_; intro w23 hT; obtain ⟨y4, hy4⟩ : ∃ y : RS × OV, y = ((stepR y3.1 (numRR B y3.1.pos 4 0 2147483647) 0).1, OV.mk y3.2.op ((stepR y3.1 (numRR B y3.1.pos 4 0 2147483647) 0).2) y3.2.m y3.2.name y3.2.dest y3.2.l y3.2.b) := ⟨_, rfl⟩; have HY4 := hid hy4; have hS4 : St w [] w23 (qP gq (.slice ao n c) y4.1 ++ .blk go 25 (y4.2.cells (.slice none 0 0) (.slice none 0 0)) :: [.blk g3 42 [.int .i64 0, .int .i64 0], .blk g2 25 [.int .i64 0, .string ⟨#[]⟩, .string ⟨#[]⟩, .int .i64 0, .int .i64 0, .slice none 0 0, .slice none 0 0]]) := (by rw [hy4]; exact hT); have HP4 := hid (show y4.1.pos ≤ B.length by rw [hy4]; exact num_pos HP3.out); clear hT hC3 hy4) | (go_at_call 46; refine (qnum_any gq ao n c B y4.1 4 0 2147483647 _ (St.sub hS4 (List.sublist_append_left _ _)) (Rd.old hS4 HR.out) hoff.out HN.out (by rw [← HN.out]; exact HP4.out) hb (by decide)).mono ?_; rintro _ w9 ⟨rfl, h4⟩; have hC4 := St.callF (qP gq (.slice ao n c) y4.1) hS4 h4; clear h4 hS4) | (refine wl_store [_] hC4 rfl rfl rfl (v := .int _ _) rfl rfl rfl (by show (5 : Nat) ≤ 7; decide) ?_; intro w24 hT; obtain ⟨y5, hy5⟩ : ∃ y : RS × OV, y = ((stepR y4.1 (numRR B y4.1.pos 4 0 2147483647) 0).1, OV.mk y4.2.op y4.2.n ((stepR y4.1 (numRR B y4.1.pos 4 0 2147483647) 0).2) y4.2.name y4.2.dest y4.2.l y4.2.b) := ⟨_, rfl⟩; have HY5 := hid hy5; have hS5 : St w [] w24 (qP gq (.slice ao n c) y5.1 ++ .blk go 25 (y5.2.cells (.slice none 0 0) (.slice none 0 0)) :: [.blk g3 42 [.int .i64 0, .int .i64 0], .blk g2 25 [.int .i64 0, .string ⟨#[]⟩, .string ⟨#[]⟩, .int .i64 0, .int .i64 0, .slice none 0 0, .slice none 0 0]]) := (by rw [hy5]; exact hT); have HP5 := hid (show y5.1.pos ≤ B.length by rw [hy5]; exact num_pos HP4.out); clear hT hC4 hy5) | (go_at_call 46; obtain ⟨N1, hN1⟩ : ∃ N1, N1 = stepR y5.1 (numRR B y5.1.pos 1 0 16) 0 := ⟨_, rfl⟩; obtain ⟨k, hk⟩ : ∃ k : Nat, N1.2 = (k : Int) := ⟨N1.2.toNat, by rw [hN1]; exact (Int.toNat_of_nonneg (num_in ⟨by decide, by decide⟩).1).symm⟩; have hk16 : k ≤ 16 := (by have h9 := (num_in (B := B) (s := y5.1) (size := 1) (low := 0) (high := 16) ⟨by decide, by decide⟩).2; rw [← hN1, hk] at h9; omega); have HN1 := hid hN1; have HK := hid hk; refine (qnum_any gq ao n c B y5.1 1 0 16 _ (St.sub hS5 (List.sublist_append_left _ _)) (Rd.old hS5 HR.out) hoff.out HN.out (by rw [← HN.out]; exact HP5.out) hb (by decide)).mono ?_; rw [← HN1.out, HK.out]; rintro _ w9 ⟨rfl, h4⟩; have hC5 := St.callF (qP gq (.slice ao n c) y5.1) hS5 h4; clear h4 hS5 hN1 hk))
  have hPJ := hid (fun j : Nat => manyS_pos (f := textF B) (s := N1.1) (N := B.length) (by rw [HN1.out]; exact num_pos HP5.out) (fun s hs => textF_pos s hs) j)
  have hL0 : St w [] w9 (qP gq (.slice ao n c) (manyS (textF B) N1.1 0).1 ++ .blk go 25 (y5.2.cells (.slice none 0 0) (.slice none 0 0)) :: .rowP isS (.slice none 0 0) 9 1 0 (strsV (manyS (textF B) N1.1 0).2) :: [.blk g3 42 [.int .i64 0, .int .i64 0], .blk g2 25 [.int .i64 0, .string ⟨#[]⟩, .string ⟨#[]⟩, .int .i64 0, .int .i64 0, .slice none 0 0, .slice none 0 0]]) := by
    have h1 := St.nilPQ isS 9 1 hC5
    exact (St.front (L1 := [_, _, _, _]) (St.front (L1 := [_, _, _, _]) (St.front (L1 := [_, _]) (St.front (L1 := [_, _, _, _]) (St.front (L1 := [_, _, _, _]) h1)))))
  clear hC5
  go_loopw [7] (fun i wr => ∃ (j : Nat) (lv : Value), j ≤ k ∧ i = .int .i64 (j : Int) ∧ St w [] wr (qP gq (.slice ao n c) (manyS (textF B) N1.1 j).1 ++ .blk go 25 (y5.2.cells lv (.slice none 0 0)) :: .rowP isS lv 9 1 j (strsV (manyS (textF B) N1.1 j).2) :: [.blk g3 42 [.int .i64 0, .int .i64 0], .blk g2 25 [.int .i64 0, .string ⟨#[]⟩, .string ⟨#[]⟩, .int .i64 0, .int .i64 0, .slice none 0 0, .slice none 0 0]])) (fun i _ => k - (intOf i).toNat)
  case atStart => exact ⟨0, _, Nat.zero_le _, rfl, hL0⟩
  case round =>
    clear hL0
    obtain ⟨j, lv, hj, rfl, hst⟩ := hrel
    obtain ⟨al, cl, rfl⟩ := St.rowPSliceF [_, _] hst
    have hposj := hPJ.out j
    by_cases hlt : j < k
    · have d1 : decide ((j : Int) < (k : Int)) = true := decide_eq_true (by omega)
      have z1 : IntKind.i64.wrap ((j : Int) + 1) = (j : Int) + 1 := IntWalk.i64_in _ (by omega)
      have hsucc : manyS (textF B) N1.1 (j + 1) = ((textF B (manyS (textF B) N1.1 j).1).1, (manyS (textF B) N1.1 j).2 ++ [(textF B (manyS (textF B) N1.1 j).1).2]) := rfl
      obtain ⟨S1, hS1⟩ : ∃ S1, S1 = manyS (textF B) N1.1 j := ⟨_, rfl⟩
      rw [← hS1] at hst hposj hsucc
      obtain ⟨S2, hS2⟩ : ∃ S2, S2 = textF B S1.1 := ⟨_, rfl⟩
      rw [← hS2] at hsucc
      have HS2 := hid (show stepR S1.1 (textRR B S1.1.pos 48) [] = S2 from hS2.symm)
      have HSU := hid hsucc
      have HPj := hid hposj
      clear hS1 hS2 hsucc hposj
      go_wp2_with (first | go_big_skip | go_big_guard | (go_at_call 47; refine (qtext_any gq ao n c B S1.1 48 _ (St.sub hst (List.sublist_append_left _ _)) (Rd.old hst HR.out) hoff.out HN.out (by rw [← HN.out]; exact HPj.out) hb (by decide)).mono ?_; rw [HS2.out]; rintro _ w10 ⟨rfl, h4⟩; have hC := St.callF (qP gq (.slice ao n c) S1.1) hst h4; clear h4 hst) | (refine wl_loadE rfl rfl rfl ?_; refine ⟨_, Loads.at [_] hC rfl, ?_⟩) | (apply wl_bsX [strV S2.2] [strV S2.2] hC; rfl; rfl; exact rfl; exact rfl; infer_instance; infer_instance; rfl; rfl; rfl; intro gs w11 hD; clear hC) | (apply wl_appP (ys := [strV S2.2]) [_, _, _] hD; rfl; rfl; exact rfl; exact rfl; infer_instance; infer_instance; infer_instance; infer_instance; exact (Rd.blk0 hD rfl (by decide)); exact rfl; rfl; exact isS_one (by rw [← HS2.out]; exact textF_len _ _); (unfold maxLen; omega); intro v2 w12 hE _; clear hD; obtain ⟨a2, c2, rfl⟩ := St.rowPSliceF [_, _, _] hE) | (refine wl_store [_, _] hE rfl rfl rfl (v := .slice _ _ _) rfl rfl rfl (by show (6 : Nat) ≤ 7; decide) ?_; intro w13 hG; clear hE))
      go_roundw
      case rel =>
        refine ⟨j + 1, .slice a2 (j + 1) c2, by omega, rfl, ?_⟩
        rw [HSU.out]
        have e2 : strsV (S1.2 ++ [S2.2]) = strsV S1.2 ++ [strV S2.2] := by rw [strsV_append]; rfl
        show St w [] _ (qP gq (.slice ao n c) S2.1 ++ .blk go 25 (y5.2.cells (.slice a2 (j + 1) c2) (.slice none 0 0)) :: .rowP isS (.slice a2 (j + 1) c2) 9 1 (j + 1) (strsV (S1.2 ++ [S2.2])) :: [.blk g3 42 [.int .i64 0, .int .i64 0], .blk g2 25 [.int .i64 0, .string ⟨#[]⟩, .string ⟨#[]⟩, .int .i64 0, .int .i64 0, .slice none 0 0, .slice none 0 0]])
        rw [e2]
        exact St.sub hG (.cons _ (List.Sublist.refl _))
      case measure => simp [intOf]; omega
    · have hjk : j = k := by omega
      have d1' : decide ((j : Int) < (k : Int)) = false := decide_eq_false (by omega)
      have eL : listR (textF B) B 1 16 y5.1 = manyS (textF B) N1.1 j := by
        unfold listR
        rw [← HN1.out, HK.out, Int.toNat_natCast, hjk]
      obtain ⟨y6, hy6⟩ : ∃ y : RS × OV, y = ((listR (textF B) B 1 16 y5.1).1, OV.mk y5.2.op y5.2.n y5.2.m y5.2.name y5.2.dest (listR (textF B) B 1 16 y5.1).2 y5.2.b) := ⟨_, rfl⟩
      have HY6 := hid hy6
      have ej : j = y6.2.l.length := by rw [hy6, eL]; exact (manyS_len _ _ _).symm
      have hS6 : St w [] wr (qP gq (.slice ao n c) y6.1 ++ .blk go 25 (y6.2.cells (.slice al j cl) (.slice none 0 0)) :: .rowP isS (.slice al j cl) 9 1 j (strsV y6.2.l) :: [.blk g3 42 [.int .i64 0, .int .i64 0], .blk g2 25 [.int .i64 0, .string ⟨#[]⟩, .string ⟨#[]⟩, .int .i64 0, .int .i64 0, .slice none 0 0, .slice none 0 0]]) := by
        rw [hy6, eL]
        exact hst
      have HP6 := hid (show y6.1.pos ≤ B.length by rw [hy6]; exact listR_pos textF_pos HP5.out)
      have HJ := hid ej
      clear hst hjk eL hy6 hposj ej
      go_wp2_with (first | go_big_skip | go_big_guard | (go_at_call 46; obtain ⟨M1, hM1⟩ : ∃ M1, M1 = stepR y6.1 (numRR B y6.1.pos 3 0 16384) 0 := ⟨_, rfl⟩; have HM1 := hid hM1; have HPM := hid (show M1.1.pos ≤ B.length by rw [hM1]; exact num_pos HP6.out); refine (qnum_any gq ao n c B y6.1 3 0 16384 _ (St.sub hS6 (List.sublist_append_left _ _)) (Rd.old hS6 HR.out) hoff.out HN.out (by rw [← HN.out]; exact HP6.out) hb (by decide)).mono ?_; rw [← HM1.out]; rintro _ w14 ⟨rfl, h4⟩; have hC6 := St.callF (qP gq (.slice ao n c) y6.1) hS6 h4; clear h4 hS6 hM1) | (go_at_call 48; obtain ⟨M2, hM2⟩ : ∃ M2, M2 = stepR M1.1 (rawRR B M1.1.pos M1.2) [] := ⟨_, rfl⟩; have HM2 := hid hM2; refine (qraw_any gq ao n c B M1.1 M1.2 _ (St.sub hC6 (List.sublist_append_left _ _)) (Rd.old hC6 HR.out) hoff.out HN.out (by rw [← HN.out]; exact HPM.out) hb).mono ?_; rw [← HM2.out]; rintro _ w15 ⟨u, rfl, h4⟩; have hC7 := St.callF (qP gq (.slice ao n c) M1.1) hC6 h4; clear h4 hC6 hM2; obtain ⟨ab, cb, rfl⟩ := St.rowPSliceF [_] hC7) | (refine wl_store [_, _] hC7 rfl rfl rfl (v := .slice _ _ _) rfl rfl rfl (by show (7 : Nat) ≤ 7; decide) ?_; intro w16 hT; clear hC7; obtain ⟨y7, hy7⟩ : ∃ y : RS × OV, y = ((rawS B y6.1).1, OV.mk y6.2.op y6.2.n y6.2.m y6.2.name y6.2.dest y6.2.l (rawS B y6.1).2) := ⟨_, rfl⟩; have eM : rawS B y6.1 = M2 := (by rw [HM2.out, HM1.out]; rfl); have eS : y7 = S := (by rw [hy7, HY6.out, HY5.out, HY4.out, HY3.out, HY2.out, HY1.out, HY0.out, HS.out]; rfl); have hS7 : St w [] w16 (qP gq (.slice ao n c) S.1 ++ .rowP isB (.slice ab M2.2.length cb) 5 1 M2.2.length (bytesV M2.2) :: .blk go 25 (S.2.cells (.slice al j cl) (.slice ab M2.2.length cb)) :: .rowP isS (.slice al j cl) 9 1 j (strsV S.2.l) :: [.blk g3 42 [.int .i64 0, .int .i64 0], .blk g2 25 [.int .i64 0, .string ⟨#[]⟩, .string ⟨#[]⟩, .int .i64 0, .int .i64 0, .slice none 0 0, .slice none 0 0]]) := (by rw [← eS, hy7, eM]; exact hT); have HB2 := hid (show M2.2 = S.2.b by rw [← eS, hy7, eM]); have HP7 := hid (show S.1.pos ≤ B.length by rw [← eS, hy7]; exact rawS_pos HP6.out); have HJ2 := hid (show j = S.2.l.length by rw [HJ.out, ← eS, hy7]); clear hT hy7 eM eS) | (go_at_call 49; refine (qend_any gq ao n c S.1 B _ (St.sub hS7 (List.sublist_append_left _ _)) HN.out (by omega) (by rw [← HN.out]; exact HP7.out)).mono ?_; rw [← HF.out]; rintro _ w17 ⟨rfl, h4⟩; have hS8 := St.call0 hS7 h4; clear h4 hS7) | (refine wl_alloc hS8 rfl rfl ?_; intro g9 w18 hS9; clear hS8) | (refine wl_storeA [] hS9 rfl rfl rfl rfl rfl rfl rfl ?_; intro w19 hX; clear hS9) | (refine wl_loadE rfl rfl rfl ?_; first | refine ⟨_, Loads.at [] hX rfl, ?_⟩) | (refine wl_loadE rfl rfl rfl ?_; refine ⟨_, Loads.whole (T := 25) [_, _, _] hX rfl, ?_⟩) | (go_at_call 16; refine (qcheck_any S.2 al ab j cl M2.2.length cb _ (Rd.rowP hX (.tail _ (.tail _ (.tail _ (.tail _ (.head _)))))) HJ2.out.symm (by rw [HB2.out]) (by have h9 := HL16.out; rw [HJ2.out]; omega)).mono ?_; rw [← HCK.out]; rintro _ w20' ⟨rfl, h4⟩; have hX2 := St.call0 hX h4; clear h4 hX))
      have hY := hX2.drew
      clear hX2
      refine wp_region_held_drew (S := (fun w' => (loadVarH 42 ⟨g9, 0, none⟩).run Try.prog w' = .ok (.agg (List.toArray ([.int .i64 f.1, .int .i64 f.2]))) w' ∧ (loadVarH 25 ⟨go, 0, none⟩).run Try.prog w' = .ok (.agg (List.toArray (S.2.cells (.slice al j cl) (.slice ab M2.2.length cb)))) w')) (by kernel_rfl) (by exact ⟨ldA ([.int .i64 f.1, .int .i64 f.2]) [] hY (rfl) (rfl), ldA (S.2.cells (.slice al j cl) (.slice ab M2.2.length cb)) [_, _, _] hY (rfl) (rfl)⟩) (fun hHeld => ?_)
      refine wpAnyH_take (i := 0) (oi := ⟨some 59, _, _, _, _, _⟩) (v := ?_) rfl (by kernel_rfl) (by kernel_rfl) (by kernel_rfl) (fun _ _ _ h => h) (Or.inl ⟨by rfl, ?_⟩) (by assumption) ?_
      rotate_left
      · intro w hSw; (try dsimp only at hSw); go_simp; try with_reducible rfl
      (try simp only [Act.put, List.setIfInBounds_toArray, List.set_cons_zero, List.set_cons_succ])
      refine wpAnyH_take (i := 1) (oi := ⟨some 60, _, _, _, _, _⟩) (v := ?_) rfl (by kernel_rfl) (by kernel_rfl) (by kernel_rfl) (fun _ _ _ h => h) (Or.inl ⟨by rfl, ?_⟩) (by assumption) ?_
      rotate_left
      · intro w hSw; (try dsimp only at hSw); go_simp; try with_reducible rfl
      (try simp only [Act.put, List.setIfInBounds_toArray, List.set_cons_zero, List.set_cons_succ])
      refine wpAnyH_ready (rs := [2]) (by kernel_rfl) (by simp) ?_
      refine (AllReadyH.cons (o := ⟨none, _, _, _, _, _⟩) rfl (fun K hK => ?_) AllReadyH.nil)
      rw [if_pos (by rfl)]
      refine ow_of_wl (ops := #[]) (by rfl) ?_
      refine wl_storeA [_, _, _, _, _, _] hY rfl rfl rfl rfl rfl rfl rfl ?_
      intro w46 hZ6
      refine q0_nil ?_
      refine hK.out _ _ ?_ (fun hHeld => ?_)
      · exact ⟨ldA ([.int .i64 f.1, .int .i64 f.2]) [] hZ6 (rfl) (rfl), ldA (S.2.cells (.slice al j cl) (.slice ab M2.2.length cb)) [_, _, _] hZ6 (rfl) (rfl)⟩
      clear hK K
      (try simp only [Act.put, List.setIfInBounds_toArray, List.set_cons_zero, List.set_cons_succ])
      refine wpAnyH_ready (rs := [3]) (by kernel_rfl) (by simp) ?_
      refine (AllReadyH.cons (o := ⟨none, _, _, _, _, _⟩) rfl (fun K hK => ?_) AllReadyH.nil)
      rw [if_pos (by rfl)]
      refine ow_of_wl (ops := #[]) (by rfl) ?_
      refine wl_storeA [_, _, _, _, _] hZ6 rfl rfl rfl rfl rfl rfl rfl ?_
      intro w45 hZ5
      refine q0_nil ?_
      refine hK.out _ _ ?_ (fun hHeld => ?_)
      · exact ⟨ldA ([.int .i64 f.1, .int .i64 f.2]) [] hZ5 (rfl) (rfl), ldA (S.2.cells (.slice al j cl) (.slice ab M2.2.length cb)) [_, _, _] hZ5 (rfl) (rfl)⟩
      clear hK K
      (try simp only [Act.put, List.setIfInBounds_toArray, List.set_cons_zero, List.set_cons_succ])
      refine wpAnyH_done (by kernel_rfl) ?_ _
      clear hHeld
      go_wp2_with (first | go_big_skip | go_big_guard | fail)
      refine bodyPost_ret (results_cell2L rfl rfl rfl (Loads.whole (T := 25) [_, _, _, _, _, _] hZ5 rfl) (Loads.whole (T := 42) [_, _, _, _, _] hZ5 rfl)) rfl ?_
      rw [HE.out]
      refine ⟨.slice al j cl, .slice ab M2.2.length cb, rfl, ?_⟩
      rw [← HJ2.out, ← HB2.out]
      exact St.sub (St.front (L1 := [_, _, _, _, _, _]) (St.front (L1 := [_, _, _, _, _]) (St.front (L1 := [_, _, _, _]) (St.front (L1 := [_, _, _, _]) (St.front (L1 := [_, _, _, _, _]) (St.front (L1 := [_, _, _, _, _, _]) (St.front (L1 := [_, _, _, _, _, _]) hZ5))))))) (.cons_cons _ (.cons_cons _ (List.nil_sublist _)))
theorem qget_any (ao : Option Addr) (n c : Nat) (B : List UInt8) (w : World) (hr : Rd w (.slice ao n c) 1 n (bytesV B)) (hn : B.length = n) (hb : n ≤ 100000) :
    Calls Try.prog 23 #[.slice ao n c] w (GetP w (getO B)) := by
  by_cases h0 : (endR B (goAll ((⟨0, 0, 0⟩, OV.none) : RS × OV) (getF B)).1).1 = 0
  · by_cases h1 : (goAll ((⟨0, 0, 0⟩, OV.none) : RS × OV) (getF B)).2.check = 0
    · exact qget_ok ao n c B w hr hn hb h0 h1
    · exact qget_odd ao n c B w hr hn hb h0 h1
  · exact qget_bad ao n c B w hr hn hb h0
end
end Go.Proofs.Ytalfdcfcaamnbaa
