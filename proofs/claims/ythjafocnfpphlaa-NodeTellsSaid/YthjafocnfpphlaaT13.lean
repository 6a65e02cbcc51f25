import Derived.Test.YthjafocnfpphlaaT12
namespace Go.Proofs.Ythjafocnfpphlaa
open Go.RowKit Hp
attribute [local irreducible] Go.Calls
set_option maxHeartbeats 1000000
theorem Read_any (ao : Option Addr) (n c : Nat) (bs : List UInt8) (w : World) (hA : Rd w (.slice ao n c) 1 n (bytesV bs)) (hn : bs.length = n) :
    Calls Try.prog 15 #[.slice ao n c] w (readOut bs w 42) := by
  have hmf : ∀ (fn : Fn) (first cap : Array Value) (w : World), (Instr.makeFunc fn first cap).run Try.prog w = .ok (.func fn first cap) w := fun _ _ _ _ => rfl
  have hst := St.refl w
  have Hn := hid hn; clear hn
  by_cases hok : rOK bs = true
  · have hS := rSum_len (rOK_len hok)
    go_enter_defers Try.func15, Try.ntmps15
    go_wp2_with (first | go_big_skip | go_big_guard | (refine wl_alloc hst rfl rfl ?_; intro g0 w1 hst1; clear hst) | (refine wl_alloc hst1 rfl rfl ?_; intro g1 w2 hst2; clear hst1) | (go_at_call 51; refine (read_any ao n c bs _ (Rd.old hst2 hA) Hn.out).mono ?_; rintro _ _ hr; obtain ⟨ao3, m3, c3, rfl, h3, hl3⟩ := readEnd.ok hok hr; clear hr; have hst3 := St.call hst2 h3; clear h3) | (refine wl_storeA [_, _] hst3 rfl rfl rfl rfl (ptr_len hS _ _ _) (ptr_ones _ _ _ _ _ _) (rfl) ?_; intro w4 hst4; clear hst3) | (refine wl_storeA [_] hst4 rfl rfl rfl rfl (rfl) (rfl) (rfl) ?_; intro w5 hst5; clear hst4))
    refine leaves_cons (f := 50) (args := #[.pointer (some ⟨g0, 0, none⟩), .pointer (some ⟨g1, 0, none⟩)]) (by simp) (by simp [go_sem]) ?_
    refine (catch_idle _ _ _).mono ?_
    rintro e u' w'' ⟨rfl, rfl, rfl⟩
    have hl := Loads.atA (P := Try.prog) (off := 0) (T := 29) (ptrCells (.slice ao3 m3 c3) (rBirth bs) (rLevel bs) (rSum bs)) [_, _] hst5 (ptr_len hS _ _ _) (ptr_all _ _ _ _)
    have hk := Loads.atA (P := Try.prog) (off := 0) (T := 32) [.int .i64 0, .int .i64 0] [_] hst5 rfl rfl
    refine ⟨_, results_cell2L rfl rfl rfl hl hk, ?_⟩
    unfold readOut
    rw [if_pos hok]
    exact ⟨ao3, m3, c3, rfl, St.sub (L := [_, _, _]) hst5 (List.Sublist.cons_cons _ (List.nil_sublist _)), hl3⟩
  · have hno : rOK bs = false := Bool.eq_false_iff.2 hok
    go_enter_defers Try.func15, Try.ntmps15
    go_wp2_with (first | go_big_skip | go_big_guard | (refine wl_alloc hst rfl rfl ?_; intro g0 w1 hst1; clear hst) | (refine wl_alloc hst1 rfl rfl ?_; intro g1 w2 hst2; clear hst1) | (go_at_call 51; refine (read_any ao n c bs _ (Rd.old hst2 hA) Hn.out).mono ?_; rintro _ _ hr; obtain ⟨rfl, h3⟩ := readEnd.no hno hr; clear hr; have hst3 := St.call0 hst2 h3; clear h3))
    refine leaves_cons (f := 50) (args := #[.pointer (some ⟨g0, 0, none⟩), .pointer (some ⟨g1, 0, none⟩)]) (by simp) (by simp [go_sem]) ?_
    have hst4 := St.perm hst3 (List.Perm.swap _ _ _)
    refine (catch_wrong [] g0 g1 (rErr bs) (rAt bs) _ _ w _ [] [] hst4 rfl rfl).mono ?_
    rintro e u' w'' ⟨rfl, rfl, hst5⟩
    have hl := Loads.atA (P := Try.prog) (off := 0) (T := 29) (ptrCells (.slice none 0 0) 0 0 nones) [] hst5 rfl rfl
    have hk := Loads.atA (P := Try.prog) (off := 0) (T := 32) [.int .i64 (rErr bs), .int .i64 (rAt bs)] [_] hst5 rfl rfl
    have hr := results_cell2L (P := Try.prog) (fn := Try.f15) (tmps := #[.slice ao n c, undef, .pointer (some ⟨g0, 0, none⟩), .pointer (some ⟨g1, 0, none⟩), .func (.func 50) #[] #[.pointer (some ⟨g0, 0, none⟩), .pointer (some ⟨g1, 0, none⟩)], .slice ao n c, undef, undef]) rfl rfl rfl hl hk
    have hq : readOut bs w 42 (.returned (.tuple #[.agg (ptrCells (.slice none 0 0) 0 0 nones).toArray, .agg #[.int .i64 (rErr bs), .int .i64 (rAt bs)]])) w'' := by
      unfold readOut
      rw [hno, if_neg (by decide)]
      exact ⟨rfl, hst5.nil⟩
    simp [Leaves, settle]
    exact ⟨_, hr, hq⟩
end Go.Proofs.Ythjafocnfpphlaa
