import Derived.Test.YtlgioloanjjndaaF21
namespace Go.Proofs.Ytlgioloanjjndaa
set_option linter.unusedVariables false
set_option linter.unusedSimpArgs false
open Go.RowKit Hp
attribute [local irreducible] Go.Calls
set_option maxRecDepth 100000
set_option maxHeartbeats 4000000
instance fP2 : TyP2 Try.prog 50 := ⟨by kernel_rfl⟩
@[go_sem ↓] theorem eqlFault (a b c d : Int) (w : World) : (binOp .eql 50 (.agg #[.int .i64 a, .int .i64 b]) (.agg #[.int .i64 c, .int .i64 d])).run Try.prog w = .ok (.bool ((a == c) && (b == d))) w := run_eql_p2 fP2 a b c d .i64 .i64 w
@[go_sem ↓] theorem neqFault (a b c d : Int) (w : World) : (binOp .neq 50 (.agg #[.int .i64 a, .int .i64 b]) (.agg #[.int .i64 c, .int .i64 d])).run Try.prog w = .ok (.bool (!((a == c) && (b == d)))) w := run_neq_p2 fP2 a b c d .i64 .i64 w
@[go_sem ↓] theorem guardFault (op : BinOp) (x y : Operand) (xs ys : Array Value) (w : World) : (eqGuard op 50 x y (.agg xs) (.agg ys)).run Try.prog w = .ok () w := run_guard_p2 fP2 op x y xs ys w
def aw0 : AV := ⟨0, 258, 2, [], none, 0, 0, []⟩
def aw1 : AV := ⟨1, 0, 3, [97, 98], none, 0, 0, []⟩
def aw2 : AV := ⟨3, 0, 8, [], none, 0, 0, []⟩
def awB : List UInt8 := [1, 2, 2, 97, 98, 0]
theorem aw_fold : foldS (0, []) [aw0, aw1, aw2] 3 = (0, [1, 2, 2, 97, 98, 0, 0, 0]) := by rfl
theorem aw_out : outW (foldS (0, []) [aw0, aw1, aw2] 3) = [1, 2, 2, 97, 98, 0, 0, 0] := by rfl
theorem aw_num : stepR ⟨0, 0, 0⟩ (numRR awB 0 2 0 999) 0 = (⟨2, 0, 0⟩, 258) := by rfl
theorem aw_text : stepR ⟨2, 0, 0⟩ (textRR awB 2 3) [] = (⟨6, 0, 0⟩, [97, 98]) := by rfl
theorem aw_end : endR awB ⟨6, 0, 0⟩ = (0, 0) := by rfl
theorem aw_ok (w : World) (x : AV) (h : x = aw0 ∨ x = aw1 ∨ x = aw2) : x.Ok w := by
  rcases h with rfl | rfl | rfl <;> exact ⟨Rd.nil _ _, rfl, by decide, by decide, by decide, by decide⟩
theorem awake_any (w : World) : Calls Try.prog 12 #[] w fun e w' => e = .returned (.bool true) ∧ St w [] w' [] := by
  have hst := St.refl w
  obtain ⟨U, hU⟩ : ∃ U : List UInt8, U = [1, 2, 2, 97, 98, 0, 0, 0] := ⟨_, rfl⟩
  have HU := hid hU
  obtain ⟨B, hB⟩ : ∃ B, B = awB := ⟨_, rfl⟩
  have HB := hid hB
  have HBV := hid (show bytesV B = [.int .u8 1, .int .u8 2, .int .u8 2, .int .u8 97, .int .u8 98, .int .u8 0] by rw [hB]; rfl)
  have HUV := hid (show bytesV U = [.int .u8 1, .int .u8 2, .int .u8 2, .int .u8 97, .int .u8 98, .int .u8 0, .int .u8 0, .int .u8 0] by rw [hU]; rfl)
  have HBl := hid (show B.length = 6 by rw [hB]; rfl)
  clear hU hB
  go_enter Try.func12, Try.ntmps12
  go_wp2_with (first | go_big_skip | go_big_guard | (refine wl_buildX (cs := [.int .i64 0, .int .i64 258, .int .i64 2, .string ⟨#[]⟩, .slice none 0 0]) [(0, .int .i64 0), (1, .int .i64 258), (2, .int .i64 2)] rfl rfl (by exact rfl) (by kernel_rfl) ?_) | (refine wl_buildX (cs := [.int .i64 1, .int .i64 0, .int .i64 3, .string ⟨#[97, 98]⟩, .slice none 0 0]) [(0, .int .i64 1), (3, .string ⟨#[97, 98]⟩), (2, .int .i64 3)] rfl rfl (by exact rfl) (by kernel_rfl) ?_) | (refine wl_buildX (cs := [.int .i64 3, .int .i64 0, .int .i64 8, .string ⟨#[]⟩, .slice none 0 0]) [(0, .int .i64 3), (2, .int .i64 8)] rfl rfl (by exact rfl) (by kernel_rfl) ?_) | (apply wl_bsX [.agg (List.toArray _), .agg (List.toArray _), .agg (List.toArray _)] ([aw0, aw1, aw2].flatMap AV.cells) hst; rfl; rfl; exact rfl; exact rfl; infer_instance; infer_instance; rfl; rfl; rfl; intro g8 w1 hst1; clear hst) | (go_at_call 40; refine (told_any (some ⟨g8, 0, none⟩) 3 3 [aw0, aw1, aw2] _ (Rd.blk0 hst1 rfl (by decide)) rfl (fun x hx => aw_ok _ x (by simpa using hx)) (by decide)).mono ?_; rintro _ w2 ⟨u, he, h4⟩; rw [aw_out, ← HU.out] at h4; rw [aw_fold] at he; subst he; have hst2 := St.call hst1 h4; clear h4 hst1; obtain ⟨au, cu, rfl⟩ := St.rowPSliceF [] hst2) | (apply wl_bsX [.int _ _, .int _ _, .int _ _, .int _ _, .int _ _, .int _ _] [.int _ _, .int _ _, .int _ _, .int _ _, .int _ _, .int _ _] hst2; rfl; rfl; exact rfl; exact rfl; infer_instance; infer_instance; rfl; rfl; rfl; intro g12 w3 hst3; clear hst2) | (go_at_call 22; refine (open_any (some ⟨g12, 0, none⟩) 6 6 B _ (by rw [HBV.out]; exact Rd.blk0 hst3 rfl (by decide)) HBl.out (by decide)).mono ?_; rintro _ w4 ⟨g3, bv, rfl, h4⟩; have hst4 := St.call hst3 h4; clear h4 hst3) | (apply wl_bsX [.int _ _, .int _ _, .int _ _, .int _ _, .int _ _, .int _ _, .int _ _, .int _ _] [.int _ _, .int _ _, .int _ _, .int _ _, .int _ _, .int _ _, .int _ _, .int _ _] hst4; rfl; rfl; exact rfl; exact rfl; infer_instance; infer_instance; rfl; rfl; rfl; intro g18 w5 hst5; clear hst4) | (go_at_call 17; refine (sameBytes_any _ _ U.length 8 U U _ (Rd.rowP hst5 (.tail _ (.tail _ (.tail _ (.tail _ (.head _)))))) (by rw [HUV.out]; exact Rd.blk0 hst5 rfl (by decide))).mono ?_; rw [beq_self_eq_true]; rintro _ _ ⟨rfl, h4⟩; have hst6 : St w [] _ (rP g3 bv B ⟨0, 0, 0⟩) := St.sub (St.call0 hst5 h4) (.cons _ (.cons_cons _ (.cons_cons _ (List.nil_sublist _)))); clear h4 hst5) | (go_at_call 23; refine (rNum_any g3 bv B ⟨0, 0, 0⟩ 2 0 999 _ hst6.selfF (Nat.zero_le _) (by rw [HBl.out]; decide) (by decide)).mono ?_; rw [HB.out, aw_num, ← HB.out]; rintro _ _ ⟨rfl, h4⟩; have hst7 := St.thenF hst6 h4; clear h4 hst6) | (go_at_call 24; refine (rText_any g3 bv B ⟨2, 0, 0⟩ 3 _ hst7.selfF (by rw [HBl.out]; decide) (by rw [HBl.out]; decide) (by decide)).mono ?_; rw [HB.out, aw_text, ← HB.out]; rintro _ _ ⟨rfl, h4⟩; have hst8 := St.thenF hst7 h4; clear h4 hst7) | (go_at_call 27; refine (end_any g3 bv B ⟨6, 0, 0⟩ _ hst8 (by rw [HBl.out]; decide) (by rw [HBl.out]; decide)).mono ?_; rw [HB.out, aw_end]; (try dsimp only); rintro _ _ ⟨rfl, h4⟩; have hst9 := St.call0 hst8 h4; clear h4 hst8) | (refine wl_buildX (cs := [.int .i64 0, .int .i64 0]) [] rfl rfl (by exact rfl) (by kernel_rfl) ?_) | (go_at_call 31; refine (at_any g3 bv B ⟨6, 0, 0⟩ _ hst9).mono ?_; rintro _ _ ⟨rfl, h4⟩; have hst10 := St.call0 hst9 h4; clear h4 hst9))
  go_ret
  exact ⟨rfl, hst10.nil⟩
end Go.Proofs.Ytlgioloanjjndaa
