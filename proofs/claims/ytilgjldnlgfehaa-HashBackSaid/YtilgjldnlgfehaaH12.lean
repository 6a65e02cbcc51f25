import Derived.Test.YtilgjldnlgfehaaH11
import Derived.Test.YtilgjldnlgfehaaSepM
namespace Go.Proofs.Ytilgjldnlgfehaa
set_option linter.unusedVariables false
set_option linter.unusedSimpArgs false
open Go.RowKit Go.Shelf Hp
attribute [local irreducible] Go.Calls
set_option maxRecDepth 100000
set_option maxHeartbeats 4000000
theorem pieces_nil : pieces [] = [128 :: List.replicate 63 0] := by decide +kernel
theorem len1 {vs : List Value} (h : vs.length = 1) : ∃ v, vs = [v] := List.length_eq_one_iff.1 h
theorem awake_facts {w w5 : World} {out : Value} {vs : List Value} {P : List UInt8} (hl : vs.length = 1) (h64 : P.length = 64) (h : St w [] w5 (.row out 22 1 vs.length vs :: rowsB 5 vs [P])) :
    ∃ b off c bq cq, out = .slice (some ⟨b, off, none⟩) 1 c ∧ w5.cell? ⟨b, off, none⟩ = some (.slice (some ⟨bq, 0, none⟩) 64 cq) ∧ ∀ k v, (bytesV P)[k]? = some v → w5.cell? ⟨bq, k, none⟩ = some v := by
  obtain ⟨v, rfl⟩ := len1 hl
  have h2 : St w [] w5 [.row out 22 1 1 [v], .rowP isB v 5 1 P.length (bytesV P)] := h
  rw [h64] at h2
  obtain ⟨bq, cq, rfl, _, _⟩ := rowP_some h2 (.tail _ (.head _)) (by decide)
  obtain ⟨ao, c, rfl⟩ := St.rowSliceAt [] h2
  obtain ⟨b, off, rfl, hr⟩ := (Rd.row h2 (.head _)).at (k := 0) (by decide)
  obtain ⟨b', off', e, hq⟩ := (Rd.rowP h2 (.tail _ (.head _))).at (k := 0) (by decide)
  cases e
  refine ⟨b, off, c, bq, cq, rfl, hr 0 _ rfl, fun k v hk => ?_⟩
  have := hq k v hk
  rwa [Nat.zero_add] at this
theorem awake_any (w : World) : Calls Try.prog 9 #[] w fun e w' => e = .returned (.bool true) ∧ St w [] w' [] := by
  have hst := St.refl w
  obtain ⟨D, hD⟩ : ∃ D, D = sumB abcB := ⟨_, rfl⟩
  have hD4 : (D.take 4 == [186, 120, 22, 191] && D.drop 28 == [242, 0, 21, 173]) = true := by rw [hD]; exact sum_abc
  have HD := hid hD
  have H4 := hid hD4
  have H32 := hid (show D.length = 32 by rw [hD]; rfl)
  clear hD hD4
  obtain ⟨P, hP⟩ : ∃ P : List UInt8, P = 128 :: List.replicate 63 0 := ⟨_, rfl⟩
  have HP := hid hP
  have hpc : pieces [] = [P] := by rw [pieces_nil, hP]
  have HC := hid hpc
  have h64 := hid (show P.length = 64 by rw [hP]; rfl)
  have p0 := hid (show (bytesV P)[0]? = some (.int .u8 128) by rw [hP]; rfl)
  have p1 := hid (show (bytesV P)[1]? = some (.int .u8 0) by rw [hP]; rfl)
  have p63 := hid (show (bytesV P)[63]? = some (.int .u8 0) by rw [hP]; rfl)
  clear hP hpc
  go_enter Try.func9, Try.ntmps9
  go_wp2_with (first | go_big_skip | go_big_guard | (go_at_call 11; refine (fill_any none 0 0 [] _ (Rd.old hst (Rd.nil w 1)) rfl (by decide)).mono ?_; rw [HC.out]; rintro _ w5 ⟨out, vs, rfl, hvl, h4⟩; have hst1 := St.call hst h4; clear hst; obtain ⟨b, off, c, bq, cq, rfl, c0, cb⟩ := awake_facts hvl h64.out h4; have k0 := cb 0 _ p0.out; have k1 := cb 1 _ p1.out; have k63 := cb 63 _ p63.out; clear cb hvl h4) | (apply wl_bsX [.int _ _, .int _ _, .int _ _] [.int _ _, .int _ _, .int _ _] hst1; rfl; rfl; exact rfl; exact rfl; infer_instance; infer_instance; rfl; rfl; rfl; intro g2 w6 hst2a; clear hst1) | (refine wl_convSS (L1 := []) hst2a rfl rfl rfl ?_; intro w6 hst2; clear hst2a) | (go_at_call 14; refine (sum_any (some ⟨g2, 0, none⟩) 3 3 abcB _ (Rd.frz0 hst2 (.head _) rfl (by decide)) rfl (by decide)).mono ?_; rw [← HD.out]; rintro _ _ ⟨rfl, h4⟩; have hst3 := St.call0 hst2 h4; clear h4 hst2) | (apply wl_bsX [.int _ _, .int _ _, .int _ _, .int _ _] [.int _ _, .int _ _, .int _ _, .int _ _] hst3; rfl; rfl; exact rfl; exact rfl; infer_instance; infer_instance; rfl; rfl; rfl; intro g4 w7 hst4; clear hst3) | (apply wl_bsX [.int _ _, .int _ _, .int _ _, .int _ _] [.int _ _, .int _ _, .int _ _, .int _ _] hst4; rfl; rfl; exact rfl; exact rfl; infer_instance; infer_instance; rfl; rfl; rfl; intro g5 w8 hst5; clear hst4) | (go_at_call 28; refine (ends_any D [186, 120, 22, 191] [242, 0, 21, 173] _ _ 4 4 _ H32.out (Rd.blk hst5 (.tail _ (.head _)) (by decide) (by decide) rfl rfl) (Rd.blk0 hst5 rfl (by decide))).mono ?_; rw [H4.out]; rintro _ _ ⟨rfl, h4⟩; have hst6 := St.call0 hst5 h4; clear h4 hst5))
  go_ret
  exact ⟨rfl, hst6.nil⟩
end Go.Proofs.Ytilgjldnlgfehaa
