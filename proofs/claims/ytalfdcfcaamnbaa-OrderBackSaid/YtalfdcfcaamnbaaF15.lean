import Derived.Test.YtalfdcfcaamnbaaF14
namespace Go.Proofs.Ytalfdcfcaamnbaa
set_option linter.unusedVariables false
set_option linter.unusedSimpArgs false
open Go.RowKit Hp
attribute [local irreducible] Go.Calls
set_option maxRecDepth 100000
set_option maxHeartbeats 4000000
def rF (g : Nat) (bv : Value) (B : List UInt8) (s : RS) (X : List HA) : List Nat := (rL g bv B s X).filterMap HA.foot
/-- What reading leaves. -/
def readPost {α : Type} (w : World) (F : List Nat) (g : Nat) (bv : Value) (B : List UInt8) (s : RS) (X : List HA) (r : RR α) (QL : α → Nat → List HA → Prop) (e : Ending) (w' : World) : Prop :=
  e = .returned (.tuple #[]) ∧ (if s.e ≠ 0 then St w F w' (rL g bv B s X) else match r with
    | .stop f a => St w F w' (rL g bv B ⟨s.pos, f, a⟩ X)
    | .ok v p => ∃ L', QL v p L' ∧ St w F w' L')
theorem read_bad {α : Type} (g : Nat) (bv : Value) (B : List UInt8) (s : RS) (X : List HA) (fn : Nat) (cap : Array Value) (r : RR α) (QL : α → Nat → List HA → Prop) (w : World) (h : St w (rF g bv B s X) w (rL g bv B s X)) (hfn : ∀ (a : Array Value) (w : World), (callFunc fn a).run Try.prog w = .ok (.enter fn a) w) (h0 : s.e ≠ 0) :
    Calls Try.prog 92 #[.pointer (some ⟨g, 0, none⟩), .func (.func fn) #[] cap] w (readPost w (rF g bv B s X) g bv B s X r QL) := by
  have hmf : ∀ (fn : Fn) (first cap : Array Value) (w : World), (Instr.makeFunc fn first cap).run Try.prog w = .ok (.func fn first cap) w := fun _ _ _ _ => rfl
  have d0 : (s.e != 0) = true := by simpa using h0
  have hst := h
  have H0 := hid h0
  clear h h0
  go_enter_defers Try.func92, Try.ntmps92
  go_wp2_with (first | go_big_skip | go_big_guard | (refine wl_box hst rfl rfl rfl ?_; intro gq w1 hst1; clear hst) | (refine wl_loadE rfl rfl rfl ?_; first | refine ⟨_, Loads.at [] hst1 rfl, ?_⟩ | refine ⟨_, Loads.at [] hst2 rfl, ?_⟩ | refine ⟨_, Loads.at [_] hst2 rfl, ?_⟩) | (go_at_call 99; refine (none_any g bv B s _ (rL_sub (St.sub hst1 (.cons _ (List.Sublist.refl _))))).mono ?_; rintro _ _ ⟨rfl, h4⟩; have hst2 : St w _ _ (.blk gq 99 [.pointer (some ⟨g, 0, none⟩)] :: .blk g 111 [.bool true, bv, .int .i64 s.pos, .int .i64 s.e, .int .i64 s.fa] :: .rowP isB bv 5 1 B.length (bytesV B) :: X) := St.call0 hst1 h4; clear h4 hst1))
  exact ⟨.tuple #[], results_none rfl _ _ _, rfl, by rw [if_pos H0.out]; exact St.sub hst2 (.cons _ (List.Sublist.refl _))⟩
theorem read_stop {α : Type} (g : Nat) (bv : Value) (B : List UInt8) (s : RS) (X : List HA) (fn : Nat) (cap : Array Value) (QL : α → Nat → List HA → Prop) (w : World) (h : St w (rF g bv B s X) w (rL g bv B s X)) (hfn : ∀ (a : Array Value) (w : World), (callFunc fn a).run Try.prog w = .ok (.enter fn a) w) (h0 : s.e = 0) (f a : Int) (hcl : ∀ w1, St w (rF g bv B s X) w1 (rL g bv B s X) → Calls Try.prog fn cap w1 (ReadP w1 (rF g bv B s X) 115 (.stop f a) (rL g bv B s X) (fun v p w' => ∃ L', QL v p L' ∧ St w1 (rF g bv B s X) w' L'))) :
    Calls Try.prog 92 #[.pointer (some ⟨g, 0, none⟩), .func (.func fn) #[] cap] w (readPost w (rF g bv B s X) g bv B s X (.stop f a) QL) := by
  have hmf : ∀ (fn : Fn) (first cap : Array Value) (w : World), (Instr.makeFunc fn first cap).run Try.prog w = .ok (.func fn first cap) w := fun _ _ _ _ => rfl
  have d0 : (s.e != 0) = false := by simpa using h0
  have hst := h
  have H0 := hid h0
  clear h h0
  go_enter_defers Try.func92, Try.ntmps92
  go_wp2_with (first | go_big_skip | go_big_guard | (refine wl_box hst rfl rfl rfl ?_; intro gq w1 hst1; clear hst) | (refine wl_loadE rfl rfl rfl ?_; first | refine ⟨_, Loads.at [] hst1 rfl, ?_⟩ | refine ⟨_, Loads.at [] hst2 rfl, ?_⟩ | refine ⟨_, Loads.at [_] hst2 rfl, ?_⟩) | (go_at_call 99; refine (none_any g bv B s _ (rL_sub (St.sub hst1 (.cons _ (List.Sublist.refl _))))).mono ?_; rintro _ _ ⟨rfl, h4⟩; have hst2 : St w _ _ (.blk gq 99 [.pointer (some ⟨g, 0, none⟩)] :: .blk g 111 [.bool true, bv, .int .i64 s.pos, .int .i64 s.e, .int .i64 s.fa] :: .rowP isB bv 5 1 B.length (bytesV B) :: X) := St.call0 hst1 h4; clear h4 hst1) | (have hS := St.sub hst2 (.cons _ (List.Sublist.refl _)); have hQ : St w _ _ (rL g bv B s X ++ [.blk gq 99 [.pointer (some ⟨g, 0, none⟩)]]) := St.perm hst2 (List.perm_append_comm (l₁ := [_]) (l₂ := rL g bv B s X)); refine (hcl _ hS).mono ?_; rintro e w3 ⟨he, h4⟩; unfold stopE at he; subst he; have hst3 : St w _ w3 (.blk gq 99 [.pointer (some ⟨g, 0, none⟩)] :: rL g bv B s X) := St.perm (St.callF (rL g bv B s X) hQ h4) (List.perm_append_comm (l₂ := [_])); clear h4 hQ hS hst2))
  refine leaves_cons (f := 100) (args := #[.pointer (some ⟨gq, 0, none⟩)]) (by simp) (by simp [go_sem]) ?_
  refine (rcatch_stop _ gq g f a bv B s X w _ [] hst3).mono ?_
  rintro e u' w'' ⟨rfl, rfl, hst5⟩
  show Leaves _ _ _ _ [] .returning _
  exact ⟨.tuple #[], results_none rfl _ _ _, rfl, by rw [if_neg (fun hh => hh H0.out)]; exact St.sub hst5 (.cons _ (List.Sublist.refl _))⟩
theorem read_ok {α : Type} (g : Nat) (bv : Value) (B : List UInt8) (s : RS) (X : List HA) (fn : Nat) (cap : Array Value) (QL : α → Nat → List HA → Prop) (w : World) (h : St w (rF g bv B s X) w (rL g bv B s X)) (hfn : ∀ (a : Array Value) (w : World), (callFunc fn a).run Try.prog w = .ok (.enter fn a) w) (h0 : s.e = 0) (v : α) (p : Nat) (hcl : ∀ w1, St w (rF g bv B s X) w1 (rL g bv B s X) → Calls Try.prog fn cap w1 (ReadP w1 (rF g bv B s X) 115 (.ok v p) (rL g bv B s X) (fun v p w' => ∃ L', QL v p L' ∧ St w1 (rF g bv B s X) w' L'))) :
    Calls Try.prog 92 #[.pointer (some ⟨g, 0, none⟩), .func (.func fn) #[] cap] w (readPost w (rF g bv B s X) g bv B s X (.ok v p) QL) := by
  have hmf : ∀ (fn : Fn) (first cap : Array Value) (w : World), (Instr.makeFunc fn first cap).run Try.prog w = .ok (.func fn first cap) w := fun _ _ _ _ => rfl
  have d0 : (s.e != 0) = false := by simpa using h0
  have hst := h
  have H0 := hid h0
  clear h h0
  go_enter_defers Try.func92, Try.ntmps92
  go_wp2_with (first | go_big_skip | go_big_guard | (refine wl_box hst rfl rfl rfl ?_; intro gq w1 hst1; clear hst) | (refine wl_loadE rfl rfl rfl ?_; first | refine ⟨_, Loads.at [] hst1 rfl, ?_⟩ | refine ⟨_, Loads.at [] hst2 rfl, ?_⟩ | refine ⟨_, Loads.at [_] hst2 rfl, ?_⟩) | (go_at_call 99; refine (none_any g bv B s _ (rL_sub (St.sub hst1 (.cons _ (List.Sublist.refl _))))).mono ?_; rintro _ _ ⟨rfl, h4⟩; have hst2 : St w _ _ (.blk gq 99 [.pointer (some ⟨g, 0, none⟩)] :: .blk g 111 [.bool true, bv, .int .i64 s.pos, .int .i64 s.e, .int .i64 s.fa] :: .rowP isB bv 5 1 B.length (bytesV B) :: X) := St.call0 hst1 h4; clear h4 hst1) | (have hS := St.sub hst2 (.cons _ (List.Sublist.refl _)); have hQ : St w _ _ (rL g bv B s X ++ [.blk gq 99 [.pointer (some ⟨g, 0, none⟩)]]) := St.perm hst2 (List.perm_append_comm (l₁ := [_]) (l₂ := rL g bv B s X)); refine (hcl _ hS).mono ?_; rintro e w3 ⟨rfl, L', hql, h4⟩; have hst3 := St.callF (rL g bv B s X) hQ h4; clear h4 hQ hS hst2))
  refine leaves_cons (f := 100) (args := #[.pointer (some ⟨gq, 0, none⟩)]) (by simp) (by simp [go_sem]) ?_
  refine (rcatch_idle _ _).mono ?_
  rintro e u' w'' ⟨rfl, rfl, rfl⟩
  show Leaves _ _ _ _ [] .returning _
  exact ⟨.tuple #[], results_none rfl _ _ _, rfl, by rw [if_neg (fun hh => hh H0.out)]; exact ⟨L', hql, St.sub hst3 (List.sublist_append_left _ _)⟩⟩
theorem read_any {α : Type} (g : Nat) (bv : Value) (B : List UInt8) (s : RS) (X : List HA) (fn : Nat) (cap : Array Value) (r : RR α) (QL : α → Nat → List HA → Prop) (w : World) (h : St w (rF g bv B s X) w (rL g bv B s X)) (hfn : ∀ (a : Array Value) (w : World), (callFunc fn a).run Try.prog w = .ok (.enter fn a) w) (hcl : s.e = 0 → ∀ w1, St w (rF g bv B s X) w1 (rL g bv B s X) → Calls Try.prog fn cap w1 (ReadP w1 (rF g bv B s X) 115 r (rL g bv B s X) (fun v p w' => ∃ L', QL v p L' ∧ St w1 (rF g bv B s X) w' L'))) :
    Calls Try.prog 92 #[.pointer (some ⟨g, 0, none⟩), .func (.func fn) #[] cap] w (readPost w (rF g bv B s X) g bv B s X r QL) := by
  by_cases h0 : s.e = 0
  · cases r with
    | stop f a => exact read_stop g bv B s X fn cap QL w h hfn h0 f a (hcl h0)
    | ok v p => exact read_ok g bv B s X fn cap QL w h hfn h0 v p (hcl h0)
  · exact read_bad g bv B s X fn cap r QL w h hfn h0
end Go.Proofs.Ytalfdcfcaamnbaa
