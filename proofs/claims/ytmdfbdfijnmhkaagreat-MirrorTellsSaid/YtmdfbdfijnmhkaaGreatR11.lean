import Derived.Test.YtmdfbdfijnmhkaaGreatR10
namespace Go.Proofs.YtmdfbdfijnmhkaaGreat
set_option linter.unusedVariables false
set_option linter.unusedSimpArgs false
open Go.RowKit Hp
attribute [local irreducible] Go.Calls Go.wpList
set_option maxRecDepth 100000
set_option maxHeartbeats 4000000
theorem writeM_any {w : World} {ga : Nat} {x : GA} {a : AR} (hS : St w (arF ga x a) w (arP ga x a)) (ok : a.Ok) (hs : 0 ≤ a.steps ∧ a.steps < 4611686018427387904) (hll : a.loose.length < 1000000) (dev pl : Int) (ao : Option Addr) (n c : Nat) (bs : List UInt8) (hr : Rd w (.slice ao n c) 1 n (bytesV bs)) (hn : bs.length = n) (ho : Off (.slice ao n c) (arF ga x a)) :
    Calls Tryz.prog 44 #[.pointer (some ⟨ga, 0, none⟩), .int .i64 dev, .int .i64 pl, .slice ao n c] w fun e w' => e = .returned (.int .i64 (a.writeE dev pl bs)) ∧ ∃ x', St w (arF ga x a) w' (arP ga x' (a.write dev pl bs)) := by
  by_cases h1 : firstE (writeL a dev pl n) = 0
  · by_cases h2 : a.fuse = 0
    · exact write_out hS ok hs dev pl ao n c bs hr hn ho h1 h2
    · have hb := write_ok (b := bs) (dev := dev) (pl := pl) ok.d0 (by rw [hn]; exact h1)
      obtain ⟨k, rfl⟩ : ∃ k : Nat, dev = k := ⟨dev.toNat, by have := (inD_dev (inS_inD hb.2.1)).1; omega⟩
      obtain ⟨p, rfl⟩ : ∃ p : Nat, pl = p := ⟨pl.toNat, by have := (inS_pl hb.2.1).1; omega⟩
      cases h3 : (a.dv (k : Int)).lo
      · cases h5 : (a.dv (k : Int)).st
        · exact write_at hS ok hs hll k p ao n c bs hr hn ho h1 h2 h3 h5
        · exact write_st hS ok hs hll k p ao n c bs hr hn ho h1 h2 h3 h5
      · exact write_lo hS ok hs hll k p ao n c bs hr hn ho h1 h2 h3
  · exact write_no hS ok hs dev pl ao n c bs hr hn ho h1
structure ArrAll (w : World) (ga : Nat) (x : GA) (a : AR) : Prop extends ArrAt w ga x a where
  loo : Rd w x.lv 258 a.loose.length (looC a)
  frm : ∀ d ∈ a.devs, w.rangeAt d.g 0 (secsV d.firm)
theorem ArrAll.of {w0 w : World} {M : List Nat} {L : List HA} {ga : Nat} {x : GA} {a : AR} (h : St w0 M w L) (hm : ∀ p ∈ arP ga x a, p ∈ L) (hn : a.devs ≠ []) : ArrAll w ga x a := by
  refine ⟨ArrAt.of h hm hn, ?_, fun d hd => ?_⟩
  · exact Rd.row h (hm (.row x.lv 149 258 a.loose.length (looC a)) (by simp [arP]))
  · have := h.range (off := 0) (hm (.blk d.g 144 (secsV d.firm)) (by simp only [arP, List.mem_cons, List.mem_map]; exact .inr (.inr (.inr ⟨d, hd, rfl⟩))))
    rwa [List.drop_zero] at this
theorem flat_at {α : Type} {f : α → List Value} {sz : Nat} {l : List α} {k : Nat} {d : α} (hf : ∀ d ∈ l, (f d).length = sz) (h : l[k]? = some d) : ((l.flatMap f).drop (k * sz)).take sz = f d := by
  induction l generalizing k with
  | nil => simp at h
  | cons q l ih =>
    rw [List.flatMap_cons]
    have hq := hf q (.head _)
    cases k with
    | zero =>
      simp at h
      subst h
      rw [Nat.zero_mul, List.drop_zero, List.take_append_of_le_length (by omega), List.take_of_length_le (by omega)]
    | succ k =>
      rw [show (k + 1) * sz = sz + k * sz by rw [Nat.add_mul]; omega, List.drop_append, List.drop_of_length_le (by omega), List.nil_append, hq, show sz + k * sz - sz = k * sz by omega]
      exact ih (fun d hd => hf d (.tail _ hd)) (by simpa using h)
theorem range_flat {α : Type} {f : α → List Value} {sz : Nat} {l : List α} {k : Nat} {d : α} {w : World} {b off : Nat} (hf : ∀ d ∈ l, (f d).length = sz) (h : l[k]? = some d) (hr : w.rangeAt b off (l.flatMap f)) : w.rangeAt b (off + k * sz) (f d) := by
  have e := flat_at hf h
  intro j v hv
  rw [← e, List.getElem?_take] at hv
  split at hv
  · rw [List.getElem?_drop] at hv
    have := hr (k * sz + j) v hv
    rwa [← Nat.add_assoc] at this
  · cases hv
theorem tells_len {a : AR} (ok : a.Ok) {k p : Nat} (hd : a.inS (k : Int) (p : Int) = true) (j : Nat) : ((a.loose.take j).foldl (pickW k p) ((a.dv (k : Int)).firm.getD p [])).length = 256 := by
  have hin := inS_inD hd
  have hf := ok.fm _ (List.mem_of_getElem? (devs_get hin))
  have hp := inS_pl hd
  have h0 : ((a.dv (k : Int)).firm.getD p []).length = 256 := by
    have hlt : p < (a.dv (k : Int)).firm.length := by rw [hf.1]; omega
    rw [List.getD_eq_getElem?_getD, List.getElem?_eq_getElem hlt]
    exact hf.2.1 _ (List.getElem_mem hlt)
  have key : ∀ (l : List LW) (b : List UInt8), (∀ w ∈ l, w.b.length = 256) → b.length = 256 → (l.foldl (pickW k p) b).length = 256 := by
    intro l
    induction l with
    | nil => intro b _ h; exact h
    | cons w l ih =>
      intro b hl hb
      refine ih _ (fun w hw => hl w (.tail _ hw)) ?_
      unfold pickW
      split
      · exact hl w (.head _)
      · exact hb
  exact key _ _ (fun w hw => (ok.lw w (List.mem_of_mem_take hw)).2.2) h0
end Go.Proofs.YtmdfbdfijnmhkaaGreat
