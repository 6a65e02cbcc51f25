import Derived.Test.YtalfdcfcaamnbaaF8
import Derived.Test.YtalfdcfcaamnbaaFRy
namespace Go.Proofs.Ytalfdcfcaamnbaa
set_option linter.unusedVariables false
set_option linter.unusedSimpArgs false
open Go.RowKit Hp
attribute [local irreducible] Go.Calls
set_option maxRecDepth 100000
set_option maxHeartbeats 4000000
theorem loadedRp (A : Addr) : loadVar 99 A = loadVarH 99 A := rfl
theorem loadedFt (A : Addr) : loadVar 42 A = loadVarH 42 A := rfl
theorem rP_form {w0 w : World} {M : List Nat} {g : Nat} {bv : Value} {B : List UInt8} {s : RS} (h : St w0 M w (rP g bv B s)) : ∃ ao c, bv = .slice ao B.length c ∧ B.length ≤ c ∧ c ≤ 9223372036854775807 := by
  obtain ⟨ao, c, e, h1, h2, _⟩ := rowP_form h (.tail _ (.head _))
  exact ⟨ao, c, e, h1, h2⟩
theorem Hp.Loads.oldAN {P : Program} {w0 w : World} {L : List HA} {T : TypeId} {b off n : Nat} {cs : List Value} (hst : St w0 [] w (L)) [ht : TyA P T n] (hn : cs.length = n) (h : w0.rangeAt b off cs) : Loads P w T ⟨b, off, none⟩ (.agg cs.toArray) := Loads.oldA hst hn h
/-- What was known ahead of a call's own work is known still. -/
theorem Hp.St.of {w0 w w' : World} {M : List Nat} {L R : List HA} (h' : St w [] w' R) (h : St w0 M w L) : St w0 M w' L :=
  St.sub (St.call h h') (List.sublist_append_right _ _)
theorem open_any (ao : Option Addr) (n c : Nat) (B : List UInt8) (w : World) (hA : Rd w (.slice ao n c) 1 n (bytesV B)) (hn : B.length = n) (hb : n ≤ 100000) :
    Calls Try.prog 63 #[.slice ao n c] w fun e w' => ∃ g bv, e = .returned (.pointer (some ⟨g, 0, none⟩)) ∧ St w [] w' (rP g bv B ⟨0, 0, 0⟩) := by
  have hst := St.refl w
  have Hn := hid hn
  clear hn
  go_enter Try.func63, Try.ntmps63
  go_wp2_with (first | go_big_skip | go_big_guard | (go_at_call 71; refine (bclone_any ao n c B _ (Rd.old hst hA) Hn.out hb).mono ?_; rintro _ _ ⟨v, rfl, h4⟩; have hst1 := St.call hst h4; clear h4 hst; obtain ⟨av, cv, rfl⟩ := St.rowPSliceF [] hst1) | (refine wl_buildS (cs := [.bool true, .slice av n cv, .int .i64 0, .int .i64 0, .int .i64 0]) rfl rfl (by kernel_rfl) ?_) | (refine wl_boxA hst1 rfl rfl rfl ?_; intro g _ hst2; clear hst1))
  go_ret
  refine ⟨g, .slice av n cv, rfl, ?_⟩
  unfold rP
  rw [Hn.out]
  exact hst2
theorem none_any {w0 : World} {M : List Nat} (g : Nat) (bv : Value) (B : List UInt8) (s : RS) (w : World) (h : St w0 M w (rP g bv B s))  :
    Calls Try.prog 99 #[.pointer (some ⟨g, 0, none⟩)] w fun e w' => e = .returned (.bool false) ∧ St w [] w' [] := by
  have hst := St.refl w
  have c0 := h.cell (off := 0) (.head _) rfl
  have c1 := h.cell (off := 1) (.head _) rfl
  have c2 := h.cell (off := 2) (.head _) rfl
  have c3 := h.cell (off := 3) (.head _) rfl
  have c4 := h.cell (off := 4) (.head _) rfl
  go_enter Try.func99, Try.ntmps99
  go_wp2_with (first | go_big_skip | go_big_guard | (refine wl_loadE rfl rfl rfl ?_; first | refine ⟨_, Loads.old hst (c0), ?_⟩ | refine ⟨_, Loads.old hst (c1), ?_⟩ | refine ⟨_, Loads.old hst (c2), ?_⟩ | refine ⟨_, Loads.old hst (c3), ?_⟩ | refine ⟨_, Loads.old hst (c4), ?_⟩ | refine ⟨_, Loads.oldA hst rfl (fr), ?_⟩))
  go_ret
  exact ⟨rfl, hst⟩
theorem fault_any {w0 : World} {M : List Nat} (g : Nat) (bv : Value) (B : List UInt8) (s : RS) (w : World) (h : St w0 M w (rP g bv B s))  :
    Calls Try.prog 86 #[.pointer (some ⟨g, 0, none⟩)] w fun e w' => e = .returned (.agg #[.int .i64 s.e, .int .i64 s.fa]) ∧ St w [] w' [] := by
  have hst := St.refl w
  have c0 := h.cell (off := 0) (.head _) rfl
  have c1 := h.cell (off := 1) (.head _) rfl
  have c2 := h.cell (off := 2) (.head _) rfl
  have c3 := h.cell (off := 3) (.head _) rfl
  have c4 := h.cell (off := 4) (.head _) rfl
  have fr : w.rangeAt g 3 [.int .i64 s.e, .int .i64 s.fa] := by
    intro j v hv
    rcases j with _ | _ | j
    · cases hv; exact c3
    · cases hv; exact c4
    · cases hv
  have FR := hid fr
  clear c0 c1 c2 c3 c4 fr
  go_enter Try.func86, Try.ntmps86
  go_wp2_with (first | go_big_skip | go_big_guard | (refine wl_alloc hst rfl rfl ?_; intro g2 _ hst1; clear hst) | (go_at_call 99; refine (none_any g bv B s _ (St.of hst1 h)).mono ?_; rintro _ _ ⟨rfl, h4⟩; have hst2 := St.call0 hst1 h4; clear h4 hst1) | (refine wl_loadE rfl rfl rfl ?_; refine ⟨_, Loads.oldAN (cs := [.int .i64 s.e, .int .i64 s.fa]) (n := 2) hst2 rfl FR.out, ?_⟩) | (refine wl_storeA [] hst2 rfl rfl rfl rfl rfl rfl rfl ?_; intro w6 hst3; clear hst2))
  have hl := Loads.atA (P := Try.prog) (off := 0) (T := 42) [.int .i64 s.e, .int .i64 s.fa] [] hst3 rfl rfl
  refine bodyPost_ret (results_cellL rfl rfl hl) rfl ⟨rfl, hst3.nil⟩
end Go.Proofs.Ytalfdcfcaamnbaa
