/- PROVED: the law MirrorNone returns true at any input, and nothing that was there has turned. No condition. -/
import Derived.Test.YtmdfbdfijnmhkaaJMirrorNonef
import Derived.Test.YtmdfbdfijnmhkaaPost
namespace Go.Proofs.Ytmdfbdfijnmhkaa
set_option linter.unusedVariables false
set_option linter.unusedSimpArgs false
open Go.RowKit Hp
attribute [local irreducible] Go.Calls Go.wpList
set_option maxRecDepth 100000
set_option maxHeartbeats 4000000
instance mnSl : TySl Try.prog 62 60 := ⟨by kernel_rfl⟩
instance mnE : TyE Try.prog 60 45 200 := ⟨by kernel_rfl⟩
instance mnA : TyA Try.prog 60 45 := ⟨by kernel_rfl⟩
instance mnN : TyN Try.prog 60 45 := ⟨by kernel_rfl⟩
instance mnSlM : TySl Try.prog 66 26 := ⟨by kernel_rfl⟩
instance mnEM : TyE Try.prog 26 1 8 := ⟨by kernel_rfl⟩
instance mnSlA : TySl Try.prog 71 25 := ⟨by kernel_rfl⟩
instance mnEA : TyE Try.prog 25 1 8 := ⟨by kernel_rfl⟩
def zMir : List Value := .pointer none :: List.replicate 24 (.int .i64 0)
instance mnB : TyB Try.prog 65 zMir := ⟨by kernel_rfl⟩
instance mnSc : TySI Try.prog 48 4 := ⟨by kernel_rfl⟩
theorem neqScan (a b c d a' b' c' d' : Int) (w : World) : (binOp .neq 48 (.agg #[.int .i64 a, .int .i64 b, .int .i64 c, .int .i64 d]) (.agg #[.int .i64 a', .int .i64 b', .int .i64 c', .int .i64 d'])).run Try.prog w = .ok (.bool (!(([a, b, c, d] : List Int) == [a', b', c', d']))) w := run_neqSI (P := Try.prog) (T := 48) (q := .i64) [a, b, c, d] [a', b', c', d'] rfl rfl
theorem guardScn (op : BinOp) (x y : Operand) (xs ys : Array Value) (w : World) : (eqGuard op 48 x y (.agg xs) (.agg ys)).run Try.prog w = .ok () w := run_guardSI op x y xs ys
theorem neqErr (a b c a' b' c' : Int) (w : World) : (binOp .neq 53 (.agg #[.int .i64 a, .int .i64 b, .int .i64 c]) (.agg #[.int .i64 a', .int .i64 b', .int .i64 c'])).run Try.prog w = .ok (.bool (!(([a, b, c] : List Int) == [a', b', c']))) w := run_neqSI (P := Try.prog) (T := 53) (q := .i64) [a, b, c] [a', b', c'] rfl rfl
theorem longM_is (ao : Option Addr) (N c : Nat) (ys : List MC) (w : World) (hv : Rd w (.slice ao N c) 45 N (ys.flatMap MC.cells)) (hN : ys.length = N) (hy : ∀ y ∈ ys, y.Ok w) (b : Bool) (hb : b = false ↔ shortM ys N) :
    Calls Try.prog 19 #[.slice ao N c] w fun e w' => e = .returned (.bool b) ∧ St w [] w' [] :=
  (longM_any ao N c ys w hv hN hy).mono fun e w' h => by
    obtain ⟨⟨b', rfl, h1⟩, h4⟩ := h
    refine ⟨?_, h4⟩
    have : b' = b := by
      cases b <;> cases b' <;> simp_all
    rw [this]
section
theorem loadedPt3 (A : Addr) : loadVar 36 A = loadVarH 36 A := rfl
theorem loadedS3 (A : Addr) : loadVar 48 A = loadVarH 48 A := rfl
theorem loadedA3 (A : Addr) : loadVar 60 A = loadVarH 60 A := rfl
attribute [local go_sem ↓] loadedPt3 loadedS3 loadedA3 neqScan guardScn neqErr guardErr
attribute [local irreducible] Hp.Loads
theorem mirrorNone_any (y : MC) (w : World) (hy : y.Ok w) : Calls Try.prog 4 #[.agg (List.toArray y.cells)] w fun e w' => e = .returned (.bool true) ∧ St w [] w' [] := by
  have hst := St.refl w
  obtain ⟨hL, po, pn, pc, he, hpr, hpl⟩ := hy.p
  obtain ⟨CS, hCS⟩ : ∃ CS, CS = y.cells := ⟨_, rfl⟩
  have HY := hid hy
  have HL := hid hL
  have HLEN := hid (show CS.length = 45 from by rw [hCS]; exact MC.len hL)
  have HC := hid (show [y].flatMap MC.cells = CS from by rw [hCS, List.flatMap_cons, List.flatMap_nil, List.append_nil])
  have HONE := hid (show CS.all (·.oneCell') = true from by rw [hCS]; exact MC.ones hy)
  have c1 := hid (show CS[1]? = some (.int .i64 y.dev) from by rw [hCS]; rfl)
  have c2 := hid (show CS[2]? = some (.slice po pn pc) from by rw [hCS, MC.pc hL (j := 0) rfl, he])
  have c37 := hid (show CS[37]? = some (.slice y.bo y.bn y.bc) from by rw [hCS]; exact MC.qc hL 0)
  have cP := hid (show (CS.drop 2).take (ptrCells (.slice po pn pc) y.p.b y.p.v y.p.S).length = ptrCells (.slice po pn pc) y.p.b y.p.v y.p.S from by
    rw [hCS, ← he]
    show ((y.p.cells ++ _).take y.p.cells.length) = y.p.cells
    rw [List.take_left'] <;> rfl)
  rw [← hCS]
  clear hy hL he hpr hpl hCS
  go_enter Try.func4, Try.ntmps4
  by_cases hsh : shortM [y] 1
  rotate_left
  · have HSH := hid hsh
    clear hsh
    go_wp2_with (first | go_big_skip | go_big_guard | (refine wl_boxA hst rfl rfl rfl ?_; intro g1 w1 hst1; clear hst) | (refine wl_loadE rfl rfl rfl ?_; refine ⟨_, Loads.atA (P := Try.prog) (T := 60) CS [] hst1 HLEN.out (by rw [List.drop_zero, List.take_length]), ?_⟩) | (refine wl_bsX [.agg (List.toArray CS)] CS hst1 rfl rfl rfl (by simp [Value.cells]) inferInstance inferInstance (by simp [Value.cells, HLEN.out]) rfl rfl ?_; intro g2 w2 hst2; clear hst1) | (go_at_call 19; refine (longM_is (some ⟨g2, 0, none⟩) 1 1 [y] _ (by rw [HC.out]; exact Rd.blk0 hst2 HLEN.out (by decide)) rfl (fun z hz => by rw [List.mem_singleton] at hz; rw [hz]; exact HY.out.old hst2) true ⟨fun h => (by cases h), fun h => absurd h HSH.out⟩).mono ?_; rintro _ w3 ⟨rfl, h4⟩; have hst3 := St.call0 hst2 h4; clear h4 hst2) | (go_at_call 5; refine (awake16_any _).mono ?_; rintro _ w80 ⟨rfl, h4⟩; have hst9 := St.call0 hst3 h4; clear h4 hst3))
    go_ret
    exact ⟨rfl, hst9.nil⟩
  · have HSH := hid hsh
    clear hsh
    go_wp2_with (first | go_big_skip | go_big_guard | (refine wl_boxA hst rfl rfl rfl ?_; intro g1 w1 hst1; clear hst) | (refine wl_loadE rfl rfl rfl ?_; refine ⟨_, Loads.atA (P := Try.prog) (T := 60) CS [] hst1 HLEN.out (by rw [List.drop_zero, List.take_length]), ?_⟩) | (refine wl_bsX [.agg (List.toArray CS)] CS hst1 rfl rfl rfl (by simp [Value.cells]) inferInstance inferInstance (by simp [Value.cells, HLEN.out]) rfl rfl ?_; intro g2 w2 hst2; clear hst1) | (go_at_call 19; refine (longM_is (some ⟨g2, 0, none⟩) 1 1 [y] _ (by rw [HC.out]; exact Rd.blk0 hst2 HLEN.out (by decide)) rfl (fun z hz => by rw [List.mem_singleton] at hz; rw [hz]; exact HY.out.old hst2) false ⟨fun _ => HSH.out, fun _ => rfl⟩).mono ?_; rintro _ w3 ⟨rfl, h4⟩; have hst3 := St.call0 hst2 h4; clear h4 hst2) | (refine wl_build0 rfl rfl ?_) | (refine wl_boxA (T := 65) hst3 rfl rfl rfl ?_; intro g4 w4 hst4; clear hst3) | (apply wl_bsX ([.pointer none, .pointer (some ⟨g4, 0, none⟩)]) ([.pointer none, .pointer (some ⟨g4, 0, none⟩)]) hst4; rfl; rfl; exact rfl; exact rfl; infer_instance; infer_instance; rfl; rfl; rfl; intro g5 w5 hst5; clear hst4) | (refine wl_boxA (T := 70) hst5 rfl rfl rfl ?_; intro g6 w6 hst6; clear hst5) | (apply wl_bsX ([.pointer none, .pointer (some ⟨g6, 0, none⟩)]) ([.pointer none, .pointer (some ⟨g6, 0, none⟩)]) hst6; rfl; rfl; exact rfl; exact rfl; infer_instance; infer_instance; rfl; rfl; rfl; intro g7 w7 hst7; clear hst6))
    have hst8 : St w [] w7 (HA.blk g7 25 [.pointer none, .pointer (some ⟨g6, 0, none⟩)] :: HA.blk g6 70 [.slice none 0 0, .slice none 0 0, .int .i64 0, .bool false, .int .i64 0] :: HA.blk g5 26 [.pointer none, .pointer (some ⟨g4, 0, none⟩)] :: HA.blk g4 65 zMir :: HA.blk g2 60 CS :: HA.blk g1 60 CS :: ([] : List Hp.HA)) := hst7
    clear hst7
    go_loopw [5] (fun i wr => ∃ m : Nat, m ≤ 2 ∧ i = .int .i64 (m : Int) ∧ St w [] wr (HA.blk g7 25 [.pointer none, .pointer (some ⟨g6, 0, none⟩)] :: HA.blk g6 70 [.slice none 0 0, .slice none 0 0, .int .i64 0, .bool false, .int .i64 0] :: HA.blk g5 26 [.pointer none, .pointer (some ⟨g4, 0, none⟩)] :: HA.blk g4 65 zMir :: HA.blk g2 60 CS :: HA.blk g1 60 CS :: ([] : List Hp.HA))) (fun i _ => 2 - (intOf i).toNat)
    case atStart => exact ⟨0, by decide, rfl, hst8⟩
    case round =>
      clear hst8
      obtain ⟨m, hm, rfl, hst⟩ := hrel
      by_cases hm2 : m = 2
      · subst hm2
        go_wp2_with (first | go_big_skip | go_big_guard | (go_at_call 5; refine (awake16_any _).mono ?_; rintro _ w80 ⟨rfl, h4⟩; have hst9 := St.call0 hst h4; clear h4 hst))
        go_ret
        exact ⟨rfl, hst9.nil⟩
      · by_cases hm0 : m = 0
        · subst hm0
          go_wp2_with (first | go_big_skip | go_big_guard | (refine wl_loadE rfl rfl rfl ?_; refine ⟨_, Loads.blk (P := Try.prog) (T := 26) (off := 0) (v := .pointer none) hst TyS.out (.tail _ (.tail _ (.head _))) rfl, ?_⟩) | (refine wl_loadE rfl rfl rfl ?_; refine ⟨_, Loads.blk (P := Try.prog) (T := 32) (off := 2) (v := .slice po pn pc) hst TyS.out (.tail _ (.tail _ (.tail _ (.tail _ (.tail _ (.head _)))))) c2.out, ?_⟩) | (refine wl_loadE rfl rfl rfl ?_; refine ⟨_, Loads.blk (P := Try.prog) (T := 30) (off := 37) (v := .slice y.bo y.bn y.bc) hst TyS.out (.tail _ (.tail _ (.tail _ (.tail _ (.tail _ (.head _)))))) c37.out, ?_⟩) | (go_at_call 20; refine (put_n16 (.inl rfl) _ _).mono ?_; rintro _ _ ⟨rfl, h4⟩; have hst11 := St.call0 hst h4; clear h4 hst) | (go_at_call 21; refine (flush_n16 (.inl rfl)).mono ?_; rintro _ _ ⟨rfl, h4⟩; have hst12 := St.call0 hst11 h4; clear h4 hst11) | (refine wl_loadE rfl rfl rfl ?_; refine ⟨_, Loads.blkA (P := Try.prog) (T := 36) (off := 2) (vs := (ptrCells (.slice po pn pc) y.p.b y.p.v y.p.S)) hst12 (by rw [ptr_len HL.out]; exact TyA.out) (.tail _ (.tail _ (.tail _ (.tail _ (.tail _ (.head _)))))) cP.out, ?_⟩) | (go_at_call 15; refine (get_n16 (.inl rfl) (.slice po pn pc) y.p.b y.p.v y.p.S HL.out ⟨po, pn, pc, rfl⟩).mono ?_; rintro _ _ ⟨rfl, h4⟩; have hst13 := St.call0 hst12 h4; clear h4 hst12) | (refine wl_loadE rfl rfl rfl ?_; refine ⟨_, Loads.blkA (P := Try.prog) (T := 36) (off := 2) (vs := (ptrCells (.slice po pn pc) y.p.b y.p.v y.p.S)) hst13 (by rw [ptr_len HL.out]; exact TyA.out) (.tail _ (.tail _ (.tail _ (.tail _ (.tail _ (.head _)))))) cP.out, ?_⟩) | (go_at_call 16; refine (scan_n16 (.inl rfl) (.slice po pn pc) y.p.b y.p.v y.p.S HL.out ⟨po, pn, pc, rfl⟩).mono ?_; rintro _ _ ⟨rfl, h4⟩; have hst14 := St.call0 hst13 h4; clear h4 hst13) | (refine wl_alloc (T := 48) hst14 rfl rfl ?_; intro g13 _ hst15; clear hst14) | (refine wl_storeA [] hst15 rfl rfl rfl rfl rfl rfl rfl ?_; intro _ hst16; clear hst15) | (refine wl_loadE rfl rfl rfl ?_; refine ⟨_, Loads.blk (P := Try.prog) (T := 25) (off := 0) (v := .pointer none) hst16 TyS.out (.tail _ (.head _)) rfl, ?_⟩) | (go_at_call 22; refine (mirNew_n (.inl rfl)).mono ?_; rintro _ _ ⟨rfl, h4⟩; have hst17 := St.call0 hst16 h4; clear h4 hst16) | (refine wl_loadE rfl rfl rfl ?_; refine ⟨_, Loads.blkA (P := Try.prog) (T := 48) (off := 0) (vs := [.int .i64 0, .int .i64 0, .int .i64 0, .int .i64 0]) hst17 (TyA.out (n := 4)) (.head _) rfl, ?_⟩) | (refine wl_build0 rfl rfl ?_) | (refine wl_loadE rfl rfl rfl ?_; refine ⟨_, Loads.blkA (P := Try.prog) (T := 36) (off := 2) (vs := (ptrCells (.slice po pn pc) y.p.b y.p.v y.p.S)) hst17 (by rw [ptr_len HL.out]; exact TyA.out) (.tail _ (.tail _ (.tail _ (.tail _ (.tail _ (.tail _ (.head _))))))) cP.out, ?_⟩) | (refine wl_loadE rfl rfl rfl ?_; refine ⟨_, Loads.blk (P := Try.prog) (T := 3) (off := 1) (v := .int .i64 y.dev) hst17 TyS.out (.tail _ (.tail _ (.tail _ (.tail _ (.tail _ (.tail _ (.head _))))))) c1.out, ?_⟩) | (go_at_call 23; refine (restore_n16 (.inl rfl) (.slice po pn pc) y.p.b y.p.v y.p.S HL.out ⟨po, pn, pc, rfl⟩ y.dev).mono ?_; rintro _ _ ⟨rfl, h4⟩; have hst18 := St.call0 hst17 h4; clear h4 hst17) | (refine wl_loadE rfl rfl rfl ?_; refine ⟨_, Loads.blk (P := Try.prog) (T := 3) (off := 1) (v := .int .i64 y.dev) hst18 TyS.out (.tail _ (.tail _ (.tail _ (.tail _ (.tail _ (.tail _ (.head _))))))) c1.out, ?_⟩) | (go_at_call 18; refine (errs_n16 (.inl rfl) y.dev).mono ?_; rintro _ _ ⟨rfl, h4⟩; have hst19 := St.call0 hst18 h4; clear h4 hst18))
          go_roundw
          case rel => exact ⟨1, by decide, rfl, St.sub hst19 (List.sublist_cons_self _ _)⟩
          case measure => simp [intOf]
        · obtain rfl : m = 1 := by omega
          go_wp2_with (first | go_big_skip | go_big_guard | (refine wl_loadE rfl rfl rfl ?_; refine ⟨_, Loads.blk (P := Try.prog) (T := 26) (off := 1) (v := .pointer (some ⟨g4, 0, none⟩)) hst TyS.out (.tail _ (.tail _ (.head _))) rfl, ?_⟩) | (refine wl_loadE rfl rfl rfl ?_; refine ⟨_, Loads.blk (P := Try.prog) (T := 32) (off := 2) (v := .slice po pn pc) hst TyS.out (.tail _ (.tail _ (.tail _ (.tail _ (.tail _ (.head _)))))) c2.out, ?_⟩) | (refine wl_loadE rfl rfl rfl ?_; refine ⟨_, Loads.blk (P := Try.prog) (T := 30) (off := 37) (v := .slice y.bo y.bn y.bc) hst TyS.out (.tail _ (.tail _ (.tail _ (.tail _ (.tail _ (.head _)))))) c37.out, ?_⟩) | (go_at_call 20; refine (put_n16 (.inr ⟨g4, rfl, St.cell hst (off := 0) (.tail _ (.tail _ (.tail _ (.head _)))) rfl⟩) _ _).mono ?_; rintro _ _ ⟨rfl, h4⟩; have hst11 := St.call0 hst h4; clear h4 hst) | (go_at_call 21; refine (flush_n16 (.inr ⟨g4, rfl, St.cell hst11 (off := 0) (.tail _ (.tail _ (.tail _ (.head _)))) rfl⟩)).mono ?_; rintro _ _ ⟨rfl, h4⟩; have hst12 := St.call0 hst11 h4; clear h4 hst11) | (refine wl_loadE rfl rfl rfl ?_; refine ⟨_, Loads.blkA (P := Try.prog) (T := 36) (off := 2) (vs := (ptrCells (.slice po pn pc) y.p.b y.p.v y.p.S)) hst12 (by rw [ptr_len HL.out]; exact TyA.out) (.tail _ (.tail _ (.tail _ (.tail _ (.tail _ (.head _)))))) cP.out, ?_⟩) | (go_at_call 15; refine (get_n16 (.inr ⟨g4, rfl, St.cell hst12 (off := 0) (.tail _ (.tail _ (.tail _ (.head _)))) rfl⟩) (.slice po pn pc) y.p.b y.p.v y.p.S HL.out ⟨po, pn, pc, rfl⟩).mono ?_; rintro _ _ ⟨rfl, h4⟩; have hst13 := St.call0 hst12 h4; clear h4 hst12) | (refine wl_loadE rfl rfl rfl ?_; refine ⟨_, Loads.blkA (P := Try.prog) (T := 36) (off := 2) (vs := (ptrCells (.slice po pn pc) y.p.b y.p.v y.p.S)) hst13 (by rw [ptr_len HL.out]; exact TyA.out) (.tail _ (.tail _ (.tail _ (.tail _ (.tail _ (.head _)))))) cP.out, ?_⟩) | (go_at_call 16; refine (scan_n16 (.inr ⟨g4, rfl, St.cell hst13 (off := 0) (.tail _ (.tail _ (.tail _ (.head _)))) rfl⟩) (.slice po pn pc) y.p.b y.p.v y.p.S HL.out ⟨po, pn, pc, rfl⟩).mono ?_; rintro _ _ ⟨rfl, h4⟩; have hst14 := St.call0 hst13 h4; clear h4 hst13) | (refine wl_alloc (T := 48) hst14 rfl rfl ?_; intro g13 _ hst15; clear hst14) | (refine wl_storeA [] hst15 rfl rfl rfl rfl rfl rfl rfl ?_; intro _ hst16; clear hst15) | (refine wl_loadE rfl rfl rfl ?_; refine ⟨_, Loads.blk (P := Try.prog) (T := 25) (off := 1) (v := .pointer (some ⟨g6, 0, none⟩)) hst16 TyS.out (.tail _ (.head _)) rfl, ?_⟩) | (go_at_call 22; refine (mirNew_n (.inr ⟨g6, rfl, St.cell hst16 (off := 0) (.tail _ (.tail _ (.head _))) rfl⟩)).mono ?_; rintro _ _ ⟨rfl, h4⟩; have hst17 := St.call0 hst16 h4; clear h4 hst16) | (refine wl_loadE rfl rfl rfl ?_; refine ⟨_, Loads.blkA (P := Try.prog) (T := 48) (off := 0) (vs := [.int .i64 0, .int .i64 0, .int .i64 0, .int .i64 0]) hst17 (TyA.out (n := 4)) (.head _) rfl, ?_⟩) | (refine wl_build0 rfl rfl ?_) | (refine wl_loadE rfl rfl rfl ?_; refine ⟨_, Loads.blkA (P := Try.prog) (T := 36) (off := 2) (vs := (ptrCells (.slice po pn pc) y.p.b y.p.v y.p.S)) hst17 (by rw [ptr_len HL.out]; exact TyA.out) (.tail _ (.tail _ (.tail _ (.tail _ (.tail _ (.tail _ (.head _))))))) cP.out, ?_⟩) | (refine wl_loadE rfl rfl rfl ?_; refine ⟨_, Loads.blk (P := Try.prog) (T := 3) (off := 1) (v := .int .i64 y.dev) hst17 TyS.out (.tail _ (.tail _ (.tail _ (.tail _ (.tail _ (.tail _ (.head _))))))) c1.out, ?_⟩) | (go_at_call 23; refine (restore_n16 (.inr ⟨g4, rfl, St.cell hst17 (off := 0) (.tail _ (.tail _ (.tail _ (.tail _ (.head _))))) rfl⟩) (.slice po pn pc) y.p.b y.p.v y.p.S HL.out ⟨po, pn, pc, rfl⟩ y.dev).mono ?_; rintro _ _ ⟨rfl, h4⟩; have hst18 := St.call0 hst17 h4; clear h4 hst17) | (refine wl_loadE rfl rfl rfl ?_; refine ⟨_, Loads.blk (P := Try.prog) (T := 3) (off := 1) (v := .int .i64 y.dev) hst18 TyS.out (.tail _ (.tail _ (.tail _ (.tail _ (.tail _ (.tail _ (.head _))))))) c1.out, ?_⟩) | (go_at_call 18; refine (errs_n16 (.inr ⟨g4, rfl, St.cell hst18 (off := 0) (.tail _ (.tail _ (.tail _ (.tail _ (.head _))))) rfl⟩) y.dev).mono ?_; rintro _ _ ⟨rfl, h4⟩; have hst19 := St.call0 hst18 h4; clear h4 hst18))
          go_roundw
          case rel => exact ⟨2, by decide, rfl, St.sub hst19 (List.sublist_cons_self _ _)⟩
          case measure => simp [intOf]
end
end Go.Proofs.Ytmdfbdfijnmhkaa
namespace Go.Proofs.Ytmdfbdfijnmhkaa
set_option linter.unusedVariables false
set_option linter.unusedSimpArgs false
open Go.ChangeShapes Go.WideShapes Go.ChangeAt Go.RowKit Hp
set_option maxRecDepth 100000 in
theorem mirrorNone_lifted (os : Os) (started : os.Started) (H : Type) (enc : TypeId × Value → H) :
    ReturnsInHanded {} Try.checked os 4 .any (Rows.mirrorNoneSpec.pre6 enc Try.prog Try.f4 Rows.mirrorNoneRow.domain false) (Rows.mirrorNoneSpec.post enc Try.prog Try.f4 false true false false) := by
  refine returnsInHanded_of_change (C := Try.checked) own started (by kernel_rfl) Try.func4
    (ChangeSpec.witness6 (enc := enc) (C := Try.checked) false ⟨#[], #[.agg #[.int .i64 0, .int .i64 0, .slice none 0 0, .int .i64 0, .int .i64 0, .int .u8 0, .int .u8 0, .int .u8 0, .int .u8 0, .int .u8 0, .int .u8 0, .int .u8 0, .int .u8 0, .int .u8 0, .int .u8 0, .int .u8 0, .int .u8 0, .int .u8 0, .int .u8 0, .int .u8 0, .int .u8 0, .int .u8 0, .int .u8 0, .int .u8 0, .int .u8 0, .int .u8 0, .int .u8 0, .int .u8 0, .int .u8 0, .int .u8 0, .int .u8 0, .int .u8 0, .int .u8 0, .int .u8 0, .int .u8 0, .int .u8 0, .int .u8 0, .slice none 0 0, .int .i64 0, .int .i64 0, .int .i64 0, .int .i64 0, .int .u8 0, .slice none 0 0, .slice none 0 0]], []⟩ 8 (by kernel_rfl) (by kernel_rfl) (by kernel_rfl) (by kernel_rfl)) ?_
  intro W base args ds gs before hval0 hW hcnd _
  have hval : ∀ (j : Nat) t v, Try.f4.params[j]? = some t → args[j]? = some v → Value.okWide Try.prog W .any base t v := hval0
  have hW' := hW
  obtain ⟨p, q, hAA0, hV, rfl, hfz, hnd⟩ := hW
  have hA : DataW.TrodAll enc Try.prog W 0 (fun _ => true) true Try.f4.params.toList args.toList ds p := hAA0
  rw [Try.params4] at hA hval
  have hk := hA
  obtain ⟨v0, d0, rfl, rfl, h0⟩ := trodAll_one hA
  obtain ⟨rfl, rfl⟩ := trodVars_none hV
  obtain ⟨n0, h0⟩ := h0
  obtain ⟨x0, rfl, hx0⟩ := open_actMV (hval 0 _ v0 rfl rfl) h0
  clear hAA0 hval0
  simp only [List.append_nil] at hW'
  refine (mirrorNone_any x0 W hx0).mono fun e W' ⟨he, hg⟩ => ?_
  subst he
  exact ⟨_, rfl, post_of_kept (pv := []) hW' (fun _ _ _ => (trodAll_cons_mk (shut_bool Try.underlying4 _) trodAll_mk0)) (fun sp hsp => by
      rw [Try.params4]
      exact args_kept (by decide) hk hg.below (fun p hp => hW'.lt p hp) sp hsp) (fun _ _ => rfl) (by simp)
    (hg.below.frame _)⟩
theorem mirrorNone_over : Rows.mirrorNoneRow.holds Try.pinned (OpenSpec.ofChange Rows.mirrorNoneSpec) :=
  OpenClaim.holds_of_wide 4 Try.f4 rfl rfl rfl rfl rfl rfl rfl ⟨rfl, rfl, rfl, rfl, rfl⟩ rfl rfl rfl rfl rfl (by kernel_rfl) Try.func4 (by kernel_rfl)
    (of_decide_eq_true (by kernel_rfl)) (by unfold Func.isWrapper; first | (rw [if_pos (by decide +kernel)]; kernel_rfl) | (rw [if_neg (by decide +kernel)]; exact ⟨rfl, rfl⟩))
    (fun os started H enc _ => mirrorNone_lifted os started H enc)
theorem mirrorNone_proved : Rows.MirrorNoneSaid :=
  mirrorNone_over
end Go.Proofs.Ytmdfbdfijnmhkaa
