/- What each call keeps. No program in sight. -/
import Derived.Test.YtifajcblbedcoaaGreatJDirScriptf
import Derived.Test.YtifajcblbedcoaaGreatJDirScriptc
import Derived.Test.YtifajcblbedcoaaGreatJDirScriptd
namespace Go.Proofs.YtifajcblbedcoaaGreat
set_option linter.unusedVariables false
set_option linter.unusedSimpArgs false
open Go.RowKit Hp
attribute [local irreducible] Go.Calls Go.wpList
set_option maxRecDepth 100000
set_option maxHeartbeats 8000000
attribute [local go_sem ↓] heldInt heldInts heldRecs heldRec heldStr heldTab heldPtr heldFn
theorem wl_mkFunc {P : Program} {ops : Array Oper} {rest : List Oper} {o : Oper} {a : Act} {w : World} {Q : Exit → Act → World → Prop} {f : Fn} {ts xs : Array Operand} (hop : o.op = .makeFunc f ts xs) (hw : Region.wanted o (yielded ops a.tmps) = true)
    (h : wpList P ops Q rest (a.put o.dst (.func f (ts.map a.eval) (xs.map a.eval))) w) : wpList P ops Q (o :: rest) a w := by
  refine wl_run hw ?_ h
  unfold execOp
  simp only [hop]
  rfl
theorem opR_badR (t : TC) (z : Int) (hz : (z == 0) = false) (h : t.ok = true) : opR t (badR z) = badR z := by
  unfold opR
  rw [h]
  show (if (z == 0) then badR z else badR z) = _
  rw [hz]
  rfl
theorem make13_any (t : TC) (ar al : Option Addr) (nr cr nl cl : Nat) (xs : List (Value × RC)) (w : World) (ht : TabIn w t ar nr cr al nl cl xs) (nm : List UInt8) (size : Int) (txg : Int) (hnm : nm.length ≤ 1000000) :
    Calls Tryz.prog 25 #[.agg (tabC t (.slice ar nr cr) (.slice al nl cl)).toArray, .string ⟨nm.toArray⟩, .int .i64 size, .int .i64 txg] w (TabRet (opR t (makeR t nm size txg)) w) := by
  have hst0 := St.refl w
  have HT := hid ht
  clear ht
  obtain ⟨r, hr⟩ : ∃ r, r = opR t (makeR t nm size txg) := ⟨_, rfl⟩
  rw [← hr]
  have HR := hid hr
  clear hr
  go_enter Tryz.func25, Tryz.ntmps25
  go_wp2_with (first | go_big_skip | go_big_guard | (refine wl_boxA hst0 rfl rfl rfl ?_; intro g4 w1 hA0; clear hst0) | (refine wl_box hA0 rfl rfl rfl ?_; intro g5 _ hA1; clear hA0) | (refine wl_box hA1 rfl rfl rfl ?_; intro g6 _ hA2; clear hA1) | (refine wl_box hA2 rfl rfl rfl ?_; intro g7 _ hA3; clear hA2) | (refine wl_alloc hA3 rfl rfl ?_; intro gz _ hst; clear hA3) | (refine wl_loadE rfl rfl rfl ?_; refine ⟨_, Loads.atA (tabC t (.slice ar nr cr) (.slice al nl cl)) [_, _, _, _] hst rfl rfl, ?_⟩) | (go_at_call 54; refine (owned_any 61 #[.pointer (some ⟨g5, 0, none⟩), .pointer (some ⟨g6, 0, none⟩), .pointer (some ⟨g7, 0, none⟩)] (fun _ _ => rfl) t ar al nr cr nl cl xs _ (HT.out.old hst.nil) (makeR t nm size txg) (fun hk => make_does nm size txg (hst.cell (g := g5) (off := 0) (.tail _ (.tail _ (.tail _ (.head _)))) rfl) (hst.cell (g := g6) (off := 0) (.tail _ (.tail _ (.head _))) rfl) (hst.cell (g := g7) (off := 0) (.tail _ (.head _)) rfl) hnm t hk)).mono ?_; rw [← HR.out]; rintro _ w9 ⟨rv9, lv9, xs9, rfl, hok9, h4⟩; have hst2 := St.call hst h4; clear h4 hst; obtain ⟨a9, c9, rfl, _, _⟩ := rowS [] hst2; obtain ⟨a8, c8, rfl, _, _⟩ := rowS [_] hst2; have HOK := hid hok9; clear hok9) | (refine wl_storeA (_ :: _ :: List.map rootH xs9) hst2 rfl rfl rfl rfl (vs := tabC r.2 (.slice a9 xs9.length c9) (.slice a8 r.2.lives.length c8)) rfl rfl rfl ?_; intro w7 hst3; clear hst2))
  have hl := Loads.atA (P := Tryz.prog) (off := 0) (T := 27) (tabC r.2 (.slice a9 xs9.length c9) (.slice a8 r.2.lives.length c8)) (_ :: _ :: List.map rootH xs9) hst3 rfl rfl
  refine bodyPost_ret (results_cellR rfl rfl rfl hl) rfl ?_
  exact ⟨_, _, xs9, rfl, HOK.out, St.sub hst3 (.cons_cons _ (.cons_cons _ (List.sublist_append_left _ _)))⟩
theorem snap13_any (t : TC) (ar al : Option Addr) (nr cr nl cl : Nat) (xs : List (Value × RC)) (w : World) (ht : TabIn w t ar nr cr al nl cl xs) (nm : List UInt8) (txg : Int) (hnm : nm.length ≤ 1000000) :
    Calls Tryz.prog 26 #[.agg (tabC t (.slice ar nr cr) (.slice al nl cl)).toArray, .string ⟨nm.toArray⟩, .int .i64 txg] w (TabRet (opR t (snapT t nm txg)) w) := by
  have hst0 := St.refl w
  have HT := hid ht
  clear ht
  obtain ⟨r, hr⟩ : ∃ r, r = opR t (snapT t nm txg) := ⟨_, rfl⟩
  rw [← hr]
  have HR := hid hr
  clear hr
  go_enter Tryz.func26, Tryz.ntmps26
  go_wp2_with (first | go_big_skip | go_big_guard | (refine wl_boxA hst0 rfl rfl rfl ?_; intro g4 w1 hA0; clear hst0) | (refine wl_box hA0 rfl rfl rfl ?_; intro g5 _ hA1; clear hA0) | (refine wl_box hA1 rfl rfl rfl ?_; intro g6 _ hA2; clear hA1) | (refine wl_alloc hA2 rfl rfl ?_; intro gz _ hst; clear hA2) | (refine wl_loadE rfl rfl rfl ?_; refine ⟨_, Loads.atA (tabC t (.slice ar nr cr) (.slice al nl cl)) [_, _, _] hst rfl rfl, ?_⟩) | (go_at_call 54; refine (owned_any 67 #[.pointer (some ⟨g5, 0, none⟩), .pointer (some ⟨g6, 0, none⟩)] (fun _ _ => rfl) t ar al nr cr nl cl xs _ (HT.out.old hst.nil) (snapT t nm txg) (fun hk => snap_does nm txg (hst.cell (g := g5) (off := 0) (.tail _ (.tail _ (.head _))) rfl) (hst.cell (g := g6) (off := 0) (.tail _ (.head _)) rfl) hnm t hk)).mono ?_; rw [← HR.out]; rintro _ w9 ⟨rv9, lv9, xs9, rfl, hok9, h4⟩; have hst2 := St.call hst h4; clear h4 hst; obtain ⟨a9, c9, rfl, _, _⟩ := rowS [] hst2; obtain ⟨a8, c8, rfl, _, _⟩ := rowS [_] hst2; have HOK := hid hok9; clear hok9) | (refine wl_storeA (_ :: _ :: List.map rootH xs9) hst2 rfl rfl rfl rfl (vs := tabC r.2 (.slice a9 xs9.length c9) (.slice a8 r.2.lives.length c8)) rfl rfl rfl ?_; intro w7 hst3; clear hst2))
  have hl := Loads.atA (P := Tryz.prog) (off := 0) (T := 27) (tabC r.2 (.slice a9 xs9.length c9) (.slice a8 r.2.lives.length c8)) (_ :: _ :: List.map rootH xs9) hst3 rfl rfl
  refine bodyPost_ret (results_cellR rfl rfl rfl hl) rfl ?_
  exact ⟨_, _, xs9, rfl, HOK.out, St.sub hst3 (.cons_cons _ (.cons_cons _ (List.sublist_append_left _ _)))⟩
theorem clone13_any (t : TC) (ar al : Option Addr) (nr cr nl cl : Nat) (xs : List (Value × RC)) (w : World) (ht : TabIn w t ar nr cr al nl cl xs) (sp : List UInt8) (nm : List UInt8) (txg : Int) (hsp : sp.length ≤ 1000000) (hnm : nm.length ≤ 1000000) :
    Calls Tryz.prog 27 #[.agg (tabC t (.slice ar nr cr) (.slice al nl cl)).toArray, .string ⟨sp.toArray⟩, .string ⟨nm.toArray⟩, .int .i64 txg] w (TabRet (opR t (cloneT t sp nm txg)) w) := by
  have hst0 := St.refl w
  have HT := hid ht
  clear ht
  obtain ⟨r, hr⟩ : ∃ r, r = opR t (cloneT t sp nm txg) := ⟨_, rfl⟩
  rw [← hr]
  have HR := hid hr
  clear hr
  go_enter Tryz.func27, Tryz.ntmps27
  go_wp2_with (first | go_big_skip | go_big_guard | (refine wl_boxA hst0 rfl rfl rfl ?_; intro g4 w1 hA0; clear hst0) | (refine wl_box hA0 rfl rfl rfl ?_; intro g5 _ hA1; clear hA0) | (refine wl_box hA1 rfl rfl rfl ?_; intro g6 _ hA2; clear hA1) | (refine wl_box hA2 rfl rfl rfl ?_; intro g7 _ hA3; clear hA2) | (refine wl_alloc hA3 rfl rfl ?_; intro gz _ hst; clear hA3) | (refine wl_loadE rfl rfl rfl ?_; refine ⟨_, Loads.atA (tabC t (.slice ar nr cr) (.slice al nl cl)) [_, _, _, _] hst rfl rfl, ?_⟩) | (go_at_call 54; refine (owned_any 70 #[.pointer (some ⟨g5, 0, none⟩), .pointer (some ⟨g6, 0, none⟩), .pointer (some ⟨g7, 0, none⟩)] (fun _ _ => rfl) t ar al nr cr nl cl xs _ (HT.out.old hst.nil) (cloneT t sp nm txg) (fun hk => clone_does sp nm txg (hst.cell (g := g5) (off := 0) (.tail _ (.tail _ (.tail _ (.head _)))) rfl) (hst.cell (g := g6) (off := 0) (.tail _ (.tail _ (.head _))) rfl) (hst.cell (g := g7) (off := 0) (.tail _ (.head _)) rfl) hsp hnm t hk)).mono ?_; rw [← HR.out]; rintro _ w9 ⟨rv9, lv9, xs9, rfl, hok9, h4⟩; have hst2 := St.call hst h4; clear h4 hst; obtain ⟨a9, c9, rfl, _, _⟩ := rowS [] hst2; obtain ⟨a8, c8, rfl, _, _⟩ := rowS [_] hst2; have HOK := hid hok9; clear hok9) | (refine wl_storeA (_ :: _ :: List.map rootH xs9) hst2 rfl rfl rfl rfl (vs := tabC r.2 (.slice a9 xs9.length c9) (.slice a8 r.2.lives.length c8)) rfl rfl rfl ?_; intro w7 hst3; clear hst2))
  have hl := Loads.atA (P := Tryz.prog) (off := 0) (T := 27) (tabC r.2 (.slice a9 xs9.length c9) (.slice a8 r.2.lives.length c8)) (_ :: _ :: List.map rootH xs9) hst3 rfl rfl
  refine bodyPost_ret (results_cellR rfl rfl rfl hl) rfl ?_
  exact ⟨_, _, xs9, rfl, HOK.out, St.sub hst3 (.cons_cons _ (.cons_cons _ (List.sublist_append_left _ _)))⟩
theorem roll13_any (t : TC) (ar al : Option Addr) (nr cr nl cl : Nat) (xs : List (Value × RC)) (w : World) (ht : TabIn w t ar nr cr al nl cl xs) (sp : List UInt8) (hsp : sp.length ≤ 1000000) :
    Calls Tryz.prog 28 #[.agg (tabC t (.slice ar nr cr) (.slice al nl cl)).toArray, .string ⟨sp.toArray⟩] w (TabRet (opR t (rollT t sp)) w) := by
  have hst0 := St.refl w
  have HT := hid ht
  clear ht
  obtain ⟨r, hr⟩ : ∃ r, r = opR t (rollT t sp) := ⟨_, rfl⟩
  rw [← hr]
  have HR := hid hr
  clear hr
  go_enter Tryz.func28, Tryz.ntmps28
  go_wp2_with (first | go_big_skip | go_big_guard | (refine wl_boxA hst0 rfl rfl rfl ?_; intro g4 w1 hA0; clear hst0) | (refine wl_box hA0 rfl rfl rfl ?_; intro g5 _ hA1; clear hA0) | (refine wl_alloc hA1 rfl rfl ?_; intro gz _ hst; clear hA1) | (refine wl_loadE rfl rfl rfl ?_; refine ⟨_, Loads.atA (tabC t (.slice ar nr cr) (.slice al nl cl)) [_, _] hst rfl rfl, ?_⟩) | (go_at_call 54; refine (owned_any 72 #[.pointer (some ⟨g5, 0, none⟩)] (fun _ _ => rfl) t ar al nr cr nl cl xs _ (HT.out.old hst.nil) (rollT t sp) (fun hk => roll_does sp (hst.cell (g := g5) (off := 0) (.tail _ (.head _)) rfl) hsp t hk)).mono ?_; rw [← HR.out]; rintro _ w9 ⟨rv9, lv9, xs9, rfl, hok9, h4⟩; have hst2 := St.call hst h4; clear h4 hst; obtain ⟨a9, c9, rfl, _, _⟩ := rowS [] hst2; obtain ⟨a8, c8, rfl, _, _⟩ := rowS [_] hst2; have HOK := hid hok9; clear hok9) | (refine wl_storeA (_ :: _ :: List.map rootH xs9) hst2 rfl rfl rfl rfl (vs := tabC r.2 (.slice a9 xs9.length c9) (.slice a8 r.2.lives.length c8)) rfl rfl rfl ?_; intro w7 hst3; clear hst2))
  have hl := Loads.atA (P := Tryz.prog) (off := 0) (T := 27) (tabC r.2 (.slice a9 xs9.length c9) (.slice a8 r.2.lives.length c8)) (_ :: _ :: List.map rootH xs9) hst3 rfl rfl
  refine bodyPost_ret (results_cellR rfl rfl rfl hl) rfl ?_
  exact ⟨_, _, xs9, rfl, HOK.out, St.sub hst3 (.cons_cons _ (.cons_cons _ (List.sublist_append_left _ _)))⟩
theorem drop13_any (t : TC) (ar al : Option Addr) (nr cr nl cl : Nat) (xs : List (Value × RC)) (w : World) (ht : TabIn w t ar nr cr al nl cl xs) (nm : List UInt8) (hnm : nm.length ≤ 1000000) :
    Calls Tryz.prog 23 #[.agg (tabC t (.slice ar nr cr) (.slice al nl cl)).toArray, .string ⟨nm.toArray⟩] w (TabRet (opR t (dropT t nm)) w) := by
  have hst0 := St.refl w
  have HT := hid ht
  clear ht
  obtain ⟨r, hr⟩ : ∃ r, r = opR t (dropT t nm) := ⟨_, rfl⟩
  rw [← hr]
  have HR := hid hr
  clear hr
  go_enter Tryz.func23, Tryz.ntmps23
  go_wp2_with (first | go_big_skip | go_big_guard | (refine wl_boxA hst0 rfl rfl rfl ?_; intro g4 w1 hA0; clear hst0) | (refine wl_box hA0 rfl rfl rfl ?_; intro g5 _ hA1; clear hA0) | (refine wl_alloc hA1 rfl rfl ?_; intro gz _ hst; clear hA1) | (refine wl_loadE rfl rfl rfl ?_; refine ⟨_, Loads.atA (tabC t (.slice ar nr cr) (.slice al nl cl)) [_, _] hst rfl rfl, ?_⟩) | (go_at_call 54; refine (owned_any 55 #[.pointer (some ⟨g5, 0, none⟩)] (fun _ _ => rfl) t ar al nr cr nl cl xs _ (HT.out.old hst.nil) (dropT t nm) (fun hk => drop_does nm (hst.cell (g := g5) (off := 0) (.tail _ (.head _)) rfl) hnm t hk)).mono ?_; rw [← HR.out]; rintro _ w9 ⟨rv9, lv9, xs9, rfl, hok9, h4⟩; have hst2 := St.call hst h4; clear h4 hst; obtain ⟨a9, c9, rfl, _, _⟩ := rowS [] hst2; obtain ⟨a8, c8, rfl, _, _⟩ := rowS [_] hst2; have HOK := hid hok9; clear hok9) | (refine wl_storeA (_ :: _ :: List.map rootH xs9) hst2 rfl rfl rfl rfl (vs := tabC r.2 (.slice a9 xs9.length c9) (.slice a8 r.2.lives.length c8)) rfl rfl rfl ?_; intro w7 hst3; clear hst2))
  have hl := Loads.atA (P := Tryz.prog) (off := 0) (T := 27) (tabC r.2 (.slice a9 xs9.length c9) (.slice a8 r.2.lives.length c8)) (_ :: _ :: List.map rootH xs9) hst3 rfl rfl
  refine bodyPost_ret (results_cellR rfl rfl rfl hl) rfl ?_
  exact ⟨_, _, xs9, rfl, HOK.out, St.sub hst3 (.cons_cons _ (.cons_cons _ (List.sublist_append_left _ _)))⟩
theorem DoesV.old {w w1 : World} {L : List HA} {F : FuncId} {caps : Array Value} {f : RC → RC} (hst : St w [] w1 L) (h : ∀ (w2 : World), St w [] w2 [] → DoesV F caps w2 f) : DoesV F caps w1 f := h w1 hst.nil
theorem change13_any (t : TC) (ar al : Option Addr) (nr cr nl cl : Nat) (xs : List (Value × RC)) (w : World) (ht : TabIn w t ar nr cr al nl cl xs) (nm : List UInt8) (fine : Bool) (F : FuncId) (caps : Array Value) (f : RC → RC) (hF : ∀ (a : Array Value) (w : World), (callFunc F a).run Tryz.prog w = .ok (.enter F a) w) (hdv : ∀ (w2 : World), St w [] w2 [] → DoesV F caps w2 f) (hnm : nm.length ≤ 1000000) :
    Calls Tryz.prog 79 #[.agg (tabC t (.slice ar nr cr) (.slice al nl cl)).toArray, .string ⟨nm.toArray⟩, .bool fine, .func (.func F) #[] caps] w (TabRet (opR t (changeT t nm fine f)) w) := by
  have hst0 := St.refl w
  have HT := hid ht
  have HDV := hid hdv
  clear ht hdv
  obtain ⟨r, hr⟩ : ∃ r, r = opR t (changeT t nm fine f) := ⟨_, rfl⟩
  rw [← hr]
  have HR := hid hr
  clear hr
  go_enter Tryz.func79, Tryz.ntmps79
  go_wp2_with (first | go_big_skip | go_big_guard | (refine wl_boxA hst0 rfl rfl rfl ?_; intro g4 w1 hA0; clear hst0) | (refine wl_box hA0 rfl rfl rfl ?_; intro g5 _ hA1; clear hA0) | (refine wl_box hA1 rfl rfl rfl ?_; intro g6 _ hA2; clear hA1) | (refine wl_box hA2 rfl rfl rfl ?_; intro g7 _ hA3; clear hA2) | (refine wl_alloc hA3 rfl rfl ?_; intro gz _ hst; clear hA3) | (refine wl_loadE rfl rfl rfl ?_; refine ⟨_, Loads.atA (tabC t (.slice ar nr cr) (.slice al nl cl)) [_, _, _, _] hst rfl rfl, ?_⟩) | (go_at_call 54; refine (owned_any 119 #[.pointer (some ⟨g6, 0, none⟩), .pointer (some ⟨g5, 0, none⟩), .pointer (some ⟨g7, 0, none⟩)] (fun _ _ => rfl) t ar al nr cr nl cl xs _ (HT.out.old hst.nil) (changeT t nm fine f) (fun hk => change_does nm fine F caps f hF (DoesV.old hst.nil HDV.out) (hst.cell (g := g6) (off := 0) (.tail _ (.tail _ (.head _))) rfl) (hst.cell (g := g5) (off := 0) (.tail _ (.tail _ (.tail _ (.head _)))) rfl) (hst.cell (g := g7) (off := 0) (.tail _ (.head _)) rfl) hnm t hk)).mono ?_; rw [← HR.out]; rintro _ w9 ⟨rv9, lv9, xs9, rfl, hok9, h4⟩; have hst2 := St.call hst h4; clear h4 hst; obtain ⟨a9, c9, rfl, _, _⟩ := rowS [] hst2; obtain ⟨a8, c8, rfl, _, _⟩ := rowS [_] hst2; have HOK := hid hok9; clear hok9) | (refine wl_storeA (_ :: _ :: List.map rootH xs9) hst2 rfl rfl rfl rfl (vs := tabC r.2 (.slice a9 xs9.length c9) (.slice a8 r.2.lives.length c8)) rfl rfl rfl ?_; intro w7 hst3; clear hst2))
  have hl := Loads.atA (P := Tryz.prog) (off := 0) (T := 27) (tabC r.2 (.slice a9 xs9.length c9) (.slice a8 r.2.lives.length c8)) (_ :: _ :: List.map rootH xs9) hst3 rfl rfl
  refine bodyPost_ret (results_cellR rfl rfl rfl hl) rfl ?_
  exact ⟨_, _, xs9, rfl, HOK.out, St.sub hst3 (.cons_cons _ (.cons_cons _ (List.sublist_append_left _ _)))⟩
end Go.Proofs.YtifajcblbedcoaaGreat
namespace Go.Proofs.YtifajcblbedcoaaGreat
set_option linter.unusedVariables false
set_option linter.unusedSimpArgs false
open Go.RowKit Hp
attribute [local irreducible] Go.Calls Go.wpList
set_option maxRecDepth 100000
set_option maxHeartbeats 8000000
attribute [local go_sem ↓] heldInt heldInts heldRecs heldRec heldStr heldTab heldPtr heldFn
theorem bldNew (ao : Option Addr) (n c : Nat) : Tryz.prog.built 27 [(0, .int .i64 1), (3, .slice ao n c)] = some #[.int .i64 1, .slice none 0 0, .int .i64 0, .int .i64 0, .int .i64 0, .int .i64 0, .slice ao n c] := by kernel_rfl
theorem resize13_any (t : TC) (ar al : Option Addr) (nr cr nl cl : Nat) (xs : List (Value × RC)) (w : World) (ht : TabIn w t ar nr cr al nl cl xs) (nm : List UInt8) (size : Int) (hnm : nm.length ≤ 1000000) : Calls Tryz.prog 30 #[.agg (tabC t (.slice ar nr cr) (.slice al nl cl)).toArray, .string ⟨nm.toArray⟩, .int .i64 size] w (TabRet (opR t (resizeT t nm size)) w) := by
  have hst0 := St.refl w
  have HT := hid ht
  clear ht
  obtain ⟨r, hr⟩ : ∃ r, r = opR t (resizeT t nm size) := ⟨_, rfl⟩
  rw [← hr]
  have HR := hid (show r = opR t (changeT t nm (inB size 1 64) fun v => { v with size := size }) from hr)
  clear hr
  go_enter Tryz.func30, Tryz.ntmps30
  go_wp2_with (first | go_big_skip | go_big_guard | (refine wl_boxA hst0 rfl rfl rfl ?_; intro g3 w1 hA0; clear hst0) | (refine wl_box hA0 rfl rfl rfl ?_; intro g5 _ hA1; clear hA0) | (refine wl_alloc hA1 rfl rfl ?_; intro g6 _ hst; clear hA1))
  have hX := hst.drew
  clear hst
  refine wp_region_held_drew (S := (fun w' => (loadVarH 27 ⟨g3, 0, none⟩).run Tryz.prog w' = .ok (.agg (List.toArray ((tabC t (.slice ar nr cr) (.slice al nl cl))))) w' ∧ (loadVarH 3 ⟨g5, 0, none⟩).run Tryz.prog w' = .ok (.int .i64 size) w')) (by kernel_rfl) (by exact ⟨ldA ((tabC t (.slice ar nr cr) (.slice al nl cl))) [_, _] hX (rfl) (rfl), ldS [_] hX rfl⟩) (fun hHeld => ?_)
  refine tq 0 8 ?_
  refine tq 1 9 ?_
  refine tq 2 10 ?_
  refine wpAnyH_ready (rs := [3, 4]) (by kernel_rfl) (by simp) ?_
  refine (AllReadyH.cons (o := ⟨some 11, _, _, _, _, _⟩) rfl (fun K hK => ?_) (AllReadyH.cons (o := ⟨some 12, _, _, _, _, _⟩) rfl (fun K hK => ?_) AllReadyH.nil))
  · rw [if_pos (by rfl)]
    go_simp
    go_at_call 63
    refine (sized_any size _).mono ?_
    rintro _ w5 ⟨rfl, h4⟩
    have hC1 := St.call0 hX h4
    clear h4
    refine hK.out _ _ ?_ (fun hHeld => ?_)
    · exact ⟨ldA ((tabC t (.slice ar nr cr) (.slice al nl cl))) [_, _] hC1 (rfl) (rfl), ldS [_] hC1 rfl⟩
    clear hK K
    (try simp only [Act.put, List.setIfInBounds_toArray, List.set_cons_zero, List.set_cons_succ])
    refine wpAnyH_ready (rs := [4]) (by kernel_rfl) (by simp) ?_
    refine (AllReadyH.cons (o := ⟨some 12, _, _, _, _, _⟩) rfl (fun K hK => ?_) AllReadyH.nil)
    rw [if_pos (by rfl)]
    refine ow_of_wl (ops := #[]) (by rfl) ?_
    refine wl_mkFunc rfl rfl ?_
    refine q0_nil ?_
    refine hK.out _ _ ?_ (fun hHeld => ?_)
    · exact ⟨ldA ((tabC t (.slice ar nr cr) (.slice al nl cl))) [_, _] hC1 (rfl) (rfl), ldS [_] hC1 rfl⟩
    clear hK K
    (try simp only [Act.put, List.setIfInBounds_toArray, List.set_cons_zero, List.set_cons_succ])
    refine wpAnyH_ready (rs := [5]) (by kernel_rfl) (by simp) ?_
    refine (AllReadyH.cons (o := ⟨some 13, _, _, _, _, _⟩) rfl (fun K hK => ?_) AllReadyH.nil)
    rw [if_pos (by rfl)]
    go_simp
    go_at_call 79
    refine (change13_any t ar al nr cr nl cl xs _ (HT.out.old hC1.nil) nm (inB size 1 64) 80 #[.pointer (some ⟨g5, 0, none⟩)] (fun v => { v with size := size }) (fun _ _ => rfl) (fun w2 h => resizeV size (St.old_cell h (hC1.cell (g := g5) (off := 0) (.tail _ (.head _)) rfl) (by simp))) hnm).mono ?_
    rw [← HR.out]
    rintro _ w9 ⟨rv9, lv9, xs9, rfl, hok9, h4⟩
    have h5 := St.call hC1 h4
    obtain ⟨a9, c9, rfl, _, _⟩ := rowS [] h5
    obtain ⟨a8, c8, rfl, _, _⟩ := rowS [_] h5
    have hD2 := St.perm h5 List.perm_append_comm
    have HOK := hid hok9
    clear hok9 h4 h5
    refine hK.out _ _ ?_ (fun hHeld => ?_)
    · exact ⟨ldA ((tabC t (.slice ar nr cr) (.slice al nl cl))) [_, _] hD2 (rfl) (rfl), ldS [_] hD2 rfl⟩
    clear hK K
    (try simp only [Act.put, List.setIfInBounds_toArray, List.set_cons_zero, List.set_cons_succ])
    refine tq 6 14 ?_
    refine tq 7 15 ?_
    refine wpAnyH_ready (rs := [8]) (by kernel_rfl) (by simp) ?_
    refine (AllReadyH.cons (o := ⟨none, _, _, _, _, _⟩) rfl (fun K hK => ?_) AllReadyH.nil)
    rw [if_pos (by rfl)]
    refine ow_of_wl (ops := #[]) (by rfl) ?_
    refine wl_storeA [] hD2 rfl rfl rfl rfl (vs := tabC r.2 (.slice a9 xs9.length c9) (.slice a8 r.2.lives.length c8)) rfl rfl rfl ?_
    intro w7 hst3
    refine q0_nil ?_
    refine hK.out _ _ ?_ (fun hHeld => ?_)
    · exact ⟨ldA ((tabC t (.slice ar nr cr) (.slice al nl cl))) [_, _] hst3 (rfl) (rfl), ldS [_] hst3 rfl⟩
    clear hK K
    (try simp only [Act.put, List.setIfInBounds_toArray, List.set_cons_zero, List.set_cons_succ])
    refine tq 9 7 ?_
    refine wpAnyH_done (by kernel_rfl) ?_ _
    clear hHeld
    go_wp2_with (first | go_big_skip | go_big_guard | fail)
    have hl := Loads.atA (P := Tryz.prog) (off := 0) (T := 27) (tabC r.2 (.slice a9 xs9.length c9) (.slice a8 r.2.lives.length c8)) [] hst3 rfl rfl
    refine bodyPost_ret (results_cellR rfl rfl rfl hl) rfl ?_
    exact ⟨_, _, xs9, rfl, HOK.out, St.sub hst3 (List.sublist_append_right [_, _, _] _)⟩
  · rw [if_pos (by rfl)]
    refine ow_of_wl (ops := #[]) (by rfl) ?_
    refine wl_mkFunc rfl rfl ?_
    refine q0_nil ?_
    refine hK.out _ _ ?_ (fun hHeld => ?_)
    · exact ⟨ldA ((tabC t (.slice ar nr cr) (.slice al nl cl))) [_, _] hX (rfl) (rfl), ldS [_] hX rfl⟩
    clear hK K
    (try simp only [Act.put, List.setIfInBounds_toArray, List.set_cons_zero, List.set_cons_succ])
    refine wpAnyH_ready (rs := [3]) (by kernel_rfl) (by simp) ?_
    refine (AllReadyH.cons (o := ⟨some 11, _, _, _, _, _⟩) rfl (fun K hK => ?_) AllReadyH.nil)
    rw [if_pos (by rfl)]
    go_simp
    go_at_call 63
    refine (sized_any size _).mono ?_
    rintro _ w5 ⟨rfl, h4⟩
    have hC3 := St.call0 hX h4
    clear h4
    refine hK.out _ _ ?_ (fun hHeld => ?_)
    · exact ⟨ldA ((tabC t (.slice ar nr cr) (.slice al nl cl))) [_, _] hC3 (rfl) (rfl), ldS [_] hC3 rfl⟩
    clear hK K
    (try simp only [Act.put, List.setIfInBounds_toArray, List.set_cons_zero, List.set_cons_succ])
    refine wpAnyH_ready (rs := [5]) (by kernel_rfl) (by simp) ?_
    refine (AllReadyH.cons (o := ⟨some 13, _, _, _, _, _⟩) rfl (fun K hK => ?_) AllReadyH.nil)
    rw [if_pos (by rfl)]
    go_simp
    go_at_call 79
    refine (change13_any t ar al nr cr nl cl xs _ (HT.out.old hC3.nil) nm (inB size 1 64) 80 #[.pointer (some ⟨g5, 0, none⟩)] (fun v => { v with size := size }) (fun _ _ => rfl) (fun w2 h => resizeV size (St.old_cell h (hC3.cell (g := g5) (off := 0) (.tail _ (.head _)) rfl) (by simp))) hnm).mono ?_
    rw [← HR.out]
    rintro _ w9 ⟨rv9, lv9, xs9, rfl, hok9, h4⟩
    have h5 := St.call hC3 h4
    obtain ⟨a9, c9, rfl, _, _⟩ := rowS [] h5
    obtain ⟨a8, c8, rfl, _, _⟩ := rowS [_] h5
    have hD4 := St.perm h5 List.perm_append_comm
    have HOK := hid hok9
    clear hok9 h4 h5
    refine hK.out _ _ ?_ (fun hHeld => ?_)
    · exact ⟨ldA ((tabC t (.slice ar nr cr) (.slice al nl cl))) [_, _] hD4 (rfl) (rfl), ldS [_] hD4 rfl⟩
    clear hK K
    (try simp only [Act.put, List.setIfInBounds_toArray, List.set_cons_zero, List.set_cons_succ])
    refine tq 6 14 ?_
    refine tq 7 15 ?_
    refine wpAnyH_ready (rs := [8]) (by kernel_rfl) (by simp) ?_
    refine (AllReadyH.cons (o := ⟨none, _, _, _, _, _⟩) rfl (fun K hK => ?_) AllReadyH.nil)
    rw [if_pos (by rfl)]
    refine ow_of_wl (ops := #[]) (by rfl) ?_
    refine wl_storeA [] hD4 rfl rfl rfl rfl (vs := tabC r.2 (.slice a9 xs9.length c9) (.slice a8 r.2.lives.length c8)) rfl rfl rfl ?_
    intro w7 hst3
    refine q0_nil ?_
    refine hK.out _ _ ?_ (fun hHeld => ?_)
    · exact ⟨ldA ((tabC t (.slice ar nr cr) (.slice al nl cl))) [_, _] hst3 (rfl) (rfl), ldS [_] hst3 rfl⟩
    clear hK K
    (try simp only [Act.put, List.setIfInBounds_toArray, List.set_cons_zero, List.set_cons_succ])
    refine tq 9 7 ?_
    refine wpAnyH_done (by kernel_rfl) ?_ _
    clear hHeld
    go_wp2_with (first | go_big_skip | go_big_guard | fail)
    have hl := Loads.atA (P := Tryz.prog) (off := 0) (T := 27) (tabC r.2 (.slice a9 xs9.length c9) (.slice a8 r.2.lives.length c8)) [] hst3 rfl rfl
    refine bodyPost_ret (results_cellR rfl rfl rfl hl) rfl ?_
    exact ⟨_, _, xs9, rfl, HOK.out, St.sub hst3 (List.sublist_append_right [_, _, _] _)⟩
theorem limits13_any (t : TC) (ar al : Option Addr) (nr cr nl cl : Nat) (xs : List (Value × RC)) (w : World) (ht : TabIn w t ar nr cr al nl cl xs) (nm : List UInt8) (q z : Int) (hnm : nm.length ≤ 1000000) : Calls Tryz.prog 31 #[.agg (tabC t (.slice ar nr cr) (.slice al nl cl)).toArray, .string ⟨nm.toArray⟩, .int .i64 q, .int .i64 z] w (TabRet (opR t (limitT t nm q z)) w) := by
  have hst0 := St.refl w
  have HT := hid ht
  clear ht
  obtain ⟨r, hr⟩ : ∃ r, r = opR t (limitT t nm q z) := ⟨_, rfl⟩
  rw [← hr]
  cases hq : limB q
  · have HL := hid hq
    have HR := hid (show r = opR t (changeT t nm false fun v => { v with quota := q, reserve := z }) by rw [hr]; unfold limitT; rw [hq]; rfl)
    clear hr hq
    go_enter Tryz.func31, Tryz.ntmps31
    go_wp2_with (first | go_big_skip | go_big_guard | (refine wl_boxA hst0 rfl rfl rfl ?_; intro g4 w1 hA0; clear hst0) | (refine wl_box hA0 rfl rfl rfl ?_; intro g6 _ hA1; clear hA0) | (refine wl_box hA1 rfl rfl rfl ?_; intro g7 _ hA2; clear hA1) | (refine wl_alloc hA2 rfl rfl ?_; intro g8 _ hst; clear hA2))
    have hX := hst.drew
    clear hst
    refine wp_region_held_drew (S := (fun w' => (loadVarH 27 ⟨g4, 0, none⟩).run Tryz.prog w' = .ok (.agg (List.toArray ((tabC t (.slice ar nr cr) (.slice al nl cl))))) w' ∧ (loadVarH 3 ⟨g6, 0, none⟩).run Tryz.prog w' = .ok (.int .i64 q) w' ∧ (loadVarH 3 ⟨g7, 0, none⟩).run Tryz.prog w' = .ok (.int .i64 z) w')) (by kernel_rfl) (by exact ⟨ldA ((tabC t (.slice ar nr cr) (.slice al nl cl))) [_, _, _] hX (rfl) (rfl), ldS [_, _] hX rfl, ldS [_] hX rfl⟩) (fun hHeld => ?_)
    refine tq 0 10 ?_
    refine tq 1 11 ?_
    refine tq 2 12 ?_
    refine wpAnyH_ready (rs := [3, 8]) (by kernel_rfl) (by simp) ?_
    refine (AllReadyH.cons (o := ⟨some 13, _, _, _, _, _⟩) rfl (fun K hK => ?_) (AllReadyH.cons (o := ⟨some 18, _, _, _, _, _⟩) rfl (fun K hK => ?_) AllReadyH.nil))
    · rw [if_pos (by rfl)]
      go_simp
      go_at_call 81
      refine (limit13_any q _).mono ?_
      rw [HL.out]
      rintro _ w5 ⟨rfl, h4⟩
      have hC5 := St.call0 hX h4
      clear h4
      refine hK.out _ _ ?_ (fun hHeld => ?_)
      · exact ⟨ldA ((tabC t (.slice ar nr cr) (.slice al nl cl))) [_, _, _] hC5 (rfl) (rfl), ldS [_, _] hC5 rfl, ldS [_] hC5 rfl⟩
      clear hK K
      (try simp only [Act.put, List.setIfInBounds_toArray, List.set_cons_zero, List.set_cons_succ])
      refine tq 4 14 ?_
      refine tu 5 15 ?_
      refine wpAnyH_ready (rs := [6, 8]) (by kernel_rfl) (by simp) ?_
      refine (AllReadyH.cons (o := ⟨some 16, _, _, _, _, _⟩) rfl (fun K hK => ?_) (AllReadyH.cons (o := ⟨some 18, _, _, _, _, _⟩) rfl (fun K hK => ?_) AllReadyH.nil))
      · rw [if_neg (by rw [show Region.wanted _ _ = false from rfl]; exact Bool.false_ne_true)]
        refine hK.out _ _ ?_ (fun hHeld => ?_)
        · exact ⟨ldA ((tabC t (.slice ar nr cr) (.slice al nl cl))) [_, _, _] hC5 (rfl) (rfl), ldS [_, _] hC5 rfl, ldS [_] hC5 rfl⟩
        clear hK K
        (try simp only [Act.put, List.setIfInBounds_toArray, List.set_cons_zero, List.set_cons_succ])
        refine tq 7 17 ?_
        refine wpAnyH_ready (rs := [8]) (by kernel_rfl) (by simp) ?_
        refine (AllReadyH.cons (o := ⟨some 18, _, _, _, _, _⟩) rfl (fun K hK => ?_) AllReadyH.nil)
        rw [if_pos (by rfl)]
        refine ow_of_wl (ops := #[]) (by rfl) ?_
        refine wl_mkFunc rfl rfl ?_
        refine q0_nil ?_
        refine hK.out _ _ ?_ (fun hHeld => ?_)
        · exact ⟨ldA ((tabC t (.slice ar nr cr) (.slice al nl cl))) [_, _, _] hC5 (rfl) (rfl), ldS [_, _] hC5 rfl, ldS [_] hC5 rfl⟩
        clear hK K
        (try simp only [Act.put, List.setIfInBounds_toArray, List.set_cons_zero, List.set_cons_succ])
        refine wpAnyH_ready (rs := [9]) (by kernel_rfl) (by simp) ?_
        refine (AllReadyH.cons (o := ⟨some 19, _, _, _, _, _⟩) rfl (fun K hK => ?_) AllReadyH.nil)
        rw [if_pos (by rfl)]
        go_simp
        go_at_call 79
        refine (change13_any t ar al nr cr nl cl xs _ (HT.out.old hC5.nil) nm (false) 82 #[.pointer (some ⟨g6, 0, none⟩), .pointer (some ⟨g7, 0, none⟩)] (fun v => { v with quota := q, reserve := z }) (fun _ _ => rfl) (fun w2 h => limitV q z (St.old_cell h (hC5.cell (g := g6) (off := 0) (.tail _ (.tail _ (.head _))) rfl) (by simp)) (St.old_cell h (hC5.cell (g := g7) (off := 0) (.tail _ (.head _)) rfl) (by simp))) hnm).mono ?_
        rw [← HR.out]
        rintro _ w9 ⟨rv9, lv9, xs9, rfl, hok9, h4⟩
        have h5 := St.call hC5 h4
        obtain ⟨a9, c9, rfl, _, _⟩ := rowS [] h5
        obtain ⟨a8, c8, rfl, _, _⟩ := rowS [_] h5
        have hD6 := St.perm h5 List.perm_append_comm
        have HOK := hid hok9
        clear hok9 h4 h5
        refine hK.out _ _ ?_ (fun hHeld => ?_)
        · exact ⟨ldA ((tabC t (.slice ar nr cr) (.slice al nl cl))) [_, _, _] hD6 (rfl) (rfl), ldS [_, _] hD6 rfl, ldS [_] hD6 rfl⟩
        clear hK K
        (try simp only [Act.put, List.setIfInBounds_toArray, List.set_cons_zero, List.set_cons_succ])
        refine tq 10 20 ?_
        refine tq 11 21 ?_
        refine wpAnyH_ready (rs := [12]) (by kernel_rfl) (by simp) ?_
        refine (AllReadyH.cons (o := ⟨none, _, _, _, _, _⟩) rfl (fun K hK => ?_) AllReadyH.nil)
        rw [if_pos (by rfl)]
        refine ow_of_wl (ops := #[]) (by rfl) ?_
        refine wl_storeA [] hD6 rfl rfl rfl rfl (vs := tabC r.2 (.slice a9 xs9.length c9) (.slice a8 r.2.lives.length c8)) rfl rfl rfl ?_
        intro w7 hst3
        refine q0_nil ?_
        refine hK.out _ _ ?_ (fun hHeld => ?_)
        · exact ⟨ldA ((tabC t (.slice ar nr cr) (.slice al nl cl))) [_, _, _] hst3 (rfl) (rfl), ldS [_, _] hst3 rfl, ldS [_] hst3 rfl⟩
        clear hK K
        (try simp only [Act.put, List.setIfInBounds_toArray, List.set_cons_zero, List.set_cons_succ])
        refine tq 13 9 ?_
        refine wpAnyH_done (by kernel_rfl) ?_ _
        clear hHeld
        go_wp2_with (first | go_big_skip | go_big_guard | fail)
        have hl := Loads.atA (P := Tryz.prog) (off := 0) (T := 27) (tabC r.2 (.slice a9 xs9.length c9) (.slice a8 r.2.lives.length c8)) [] hst3 rfl rfl
        refine bodyPost_ret (results_cellR rfl rfl rfl hl) rfl ?_
        exact ⟨_, _, xs9, rfl, HOK.out, St.sub hst3 (List.sublist_append_right [_, _, _, _] _)⟩
      · rw [if_pos (by rfl)]
        refine ow_of_wl (ops := #[]) (by rfl) ?_
        refine wl_mkFunc rfl rfl ?_
        refine q0_nil ?_
        refine hK.out _ _ ?_ (fun hHeld => ?_)
        · exact ⟨ldA ((tabC t (.slice ar nr cr) (.slice al nl cl))) [_, _, _] hC5 (rfl) (rfl), ldS [_, _] hC5 rfl, ldS [_] hC5 rfl⟩
        clear hK K
        (try simp only [Act.put, List.setIfInBounds_toArray, List.set_cons_zero, List.set_cons_succ])
        refine wpAnyH_ready (rs := [6]) (by kernel_rfl) (by simp) ?_
        refine (AllReadyH.cons (o := ⟨some 16, _, _, _, _, _⟩) rfl (fun K hK => ?_) AllReadyH.nil)
        rw [if_neg (by rw [show Region.wanted _ _ = false from rfl]; exact Bool.false_ne_true)]
        refine hK.out _ _ ?_ (fun hHeld => ?_)
        · exact ⟨ldA ((tabC t (.slice ar nr cr) (.slice al nl cl))) [_, _, _] hC5 (rfl) (rfl), ldS [_, _] hC5 rfl, ldS [_] hC5 rfl⟩
        clear hK K
        (try simp only [Act.put, List.setIfInBounds_toArray, List.set_cons_zero, List.set_cons_succ])
        refine tq 7 17 ?_
        refine wpAnyH_ready (rs := [9]) (by kernel_rfl) (by simp) ?_
        refine (AllReadyH.cons (o := ⟨some 19, _, _, _, _, _⟩) rfl (fun K hK => ?_) AllReadyH.nil)
        rw [if_pos (by rfl)]
        go_simp
        go_at_call 79
        refine (change13_any t ar al nr cr nl cl xs _ (HT.out.old hC5.nil) nm (false) 82 #[.pointer (some ⟨g6, 0, none⟩), .pointer (some ⟨g7, 0, none⟩)] (fun v => { v with quota := q, reserve := z }) (fun _ _ => rfl) (fun w2 h => limitV q z (St.old_cell h (hC5.cell (g := g6) (off := 0) (.tail _ (.tail _ (.head _))) rfl) (by simp)) (St.old_cell h (hC5.cell (g := g7) (off := 0) (.tail _ (.head _)) rfl) (by simp))) hnm).mono ?_
        rw [← HR.out]
        rintro _ w9 ⟨rv9, lv9, xs9, rfl, hok9, h4⟩
        have h5 := St.call hC5 h4
        obtain ⟨a9, c9, rfl, _, _⟩ := rowS [] h5
        obtain ⟨a8, c8, rfl, _, _⟩ := rowS [_] h5
        have hD7 := St.perm h5 List.perm_append_comm
        have HOK := hid hok9
        clear hok9 h4 h5
        refine hK.out _ _ ?_ (fun hHeld => ?_)
        · exact ⟨ldA ((tabC t (.slice ar nr cr) (.slice al nl cl))) [_, _, _] hD7 (rfl) (rfl), ldS [_, _] hD7 rfl, ldS [_] hD7 rfl⟩
        clear hK K
        (try simp only [Act.put, List.setIfInBounds_toArray, List.set_cons_zero, List.set_cons_succ])
        refine tq 10 20 ?_
        refine tq 11 21 ?_
        refine wpAnyH_ready (rs := [12]) (by kernel_rfl) (by simp) ?_
        refine (AllReadyH.cons (o := ⟨none, _, _, _, _, _⟩) rfl (fun K hK => ?_) AllReadyH.nil)
        rw [if_pos (by rfl)]
        refine ow_of_wl (ops := #[]) (by rfl) ?_
        refine wl_storeA [] hD7 rfl rfl rfl rfl (vs := tabC r.2 (.slice a9 xs9.length c9) (.slice a8 r.2.lives.length c8)) rfl rfl rfl ?_
        intro w7 hst3
        refine q0_nil ?_
        refine hK.out _ _ ?_ (fun hHeld => ?_)
        · exact ⟨ldA ((tabC t (.slice ar nr cr) (.slice al nl cl))) [_, _, _] hst3 (rfl) (rfl), ldS [_, _] hst3 rfl, ldS [_] hst3 rfl⟩
        clear hK K
        (try simp only [Act.put, List.setIfInBounds_toArray, List.set_cons_zero, List.set_cons_succ])
        refine tq 13 9 ?_
        refine wpAnyH_done (by kernel_rfl) ?_ _
        clear hHeld
        go_wp2_with (first | go_big_skip | go_big_guard | fail)
        have hl := Loads.atA (P := Tryz.prog) (off := 0) (T := 27) (tabC r.2 (.slice a9 xs9.length c9) (.slice a8 r.2.lives.length c8)) [] hst3 rfl rfl
        refine bodyPost_ret (results_cellR rfl rfl rfl hl) rfl ?_
        exact ⟨_, _, xs9, rfl, HOK.out, St.sub hst3 (List.sublist_append_right [_, _, _, _] _)⟩
    · rw [if_pos (by rfl)]
      refine ow_of_wl (ops := #[]) (by rfl) ?_
      refine wl_mkFunc rfl rfl ?_
      refine q0_nil ?_
      refine hK.out _ _ ?_ (fun hHeld => ?_)
      · exact ⟨ldA ((tabC t (.slice ar nr cr) (.slice al nl cl))) [_, _, _] hX (rfl) (rfl), ldS [_, _] hX rfl, ldS [_] hX rfl⟩
      clear hK K
      (try simp only [Act.put, List.setIfInBounds_toArray, List.set_cons_zero, List.set_cons_succ])
      refine wpAnyH_ready (rs := [3]) (by kernel_rfl) (by simp) ?_
      refine (AllReadyH.cons (o := ⟨some 13, _, _, _, _, _⟩) rfl (fun K hK => ?_) AllReadyH.nil)
      rw [if_pos (by rfl)]
      go_simp
      go_at_call 81
      refine (limit13_any q _).mono ?_
      rw [HL.out]
      rintro _ w5 ⟨rfl, h4⟩
      have hC8 := St.call0 hX h4
      clear h4
      refine hK.out _ _ ?_ (fun hHeld => ?_)
      · exact ⟨ldA ((tabC t (.slice ar nr cr) (.slice al nl cl))) [_, _, _] hC8 (rfl) (rfl), ldS [_, _] hC8 rfl, ldS [_] hC8 rfl⟩
      clear hK K
      (try simp only [Act.put, List.setIfInBounds_toArray, List.set_cons_zero, List.set_cons_succ])
      refine tq 4 14 ?_
      refine tu 5 15 ?_
      refine wpAnyH_ready (rs := [6]) (by kernel_rfl) (by simp) ?_
      refine (AllReadyH.cons (o := ⟨some 16, _, _, _, _, _⟩) rfl (fun K hK => ?_) AllReadyH.nil)
      rw [if_neg (by rw [show Region.wanted _ _ = false from rfl]; exact Bool.false_ne_true)]
      refine hK.out _ _ ?_ (fun hHeld => ?_)
      · exact ⟨ldA ((tabC t (.slice ar nr cr) (.slice al nl cl))) [_, _, _] hC8 (rfl) (rfl), ldS [_, _] hC8 rfl, ldS [_] hC8 rfl⟩
      clear hK K
      (try simp only [Act.put, List.setIfInBounds_toArray, List.set_cons_zero, List.set_cons_succ])
      refine tq 7 17 ?_
      refine wpAnyH_ready (rs := [9]) (by kernel_rfl) (by simp) ?_
      refine (AllReadyH.cons (o := ⟨some 19, _, _, _, _, _⟩) rfl (fun K hK => ?_) AllReadyH.nil)
      rw [if_pos (by rfl)]
      go_simp
      go_at_call 79
      refine (change13_any t ar al nr cr nl cl xs _ (HT.out.old hC8.nil) nm (false) 82 #[.pointer (some ⟨g6, 0, none⟩), .pointer (some ⟨g7, 0, none⟩)] (fun v => { v with quota := q, reserve := z }) (fun _ _ => rfl) (fun w2 h => limitV q z (St.old_cell h (hC8.cell (g := g6) (off := 0) (.tail _ (.tail _ (.head _))) rfl) (by simp)) (St.old_cell h (hC8.cell (g := g7) (off := 0) (.tail _ (.head _)) rfl) (by simp))) hnm).mono ?_
      rw [← HR.out]
      rintro _ w9 ⟨rv9, lv9, xs9, rfl, hok9, h4⟩
      have h5 := St.call hC8 h4
      obtain ⟨a9, c9, rfl, _, _⟩ := rowS [] h5
      obtain ⟨a8, c8, rfl, _, _⟩ := rowS [_] h5
      have hD9 := St.perm h5 List.perm_append_comm
      have HOK := hid hok9
      clear hok9 h4 h5
      refine hK.out _ _ ?_ (fun hHeld => ?_)
      · exact ⟨ldA ((tabC t (.slice ar nr cr) (.slice al nl cl))) [_, _, _] hD9 (rfl) (rfl), ldS [_, _] hD9 rfl, ldS [_] hD9 rfl⟩
      clear hK K
      (try simp only [Act.put, List.setIfInBounds_toArray, List.set_cons_zero, List.set_cons_succ])
      refine tq 10 20 ?_
      refine tq 11 21 ?_
      refine wpAnyH_ready (rs := [12]) (by kernel_rfl) (by simp) ?_
      refine (AllReadyH.cons (o := ⟨none, _, _, _, _, _⟩) rfl (fun K hK => ?_) AllReadyH.nil)
      rw [if_pos (by rfl)]
      refine ow_of_wl (ops := #[]) (by rfl) ?_
      refine wl_storeA [] hD9 rfl rfl rfl rfl (vs := tabC r.2 (.slice a9 xs9.length c9) (.slice a8 r.2.lives.length c8)) rfl rfl rfl ?_
      intro w7 hst3
      refine q0_nil ?_
      refine hK.out _ _ ?_ (fun hHeld => ?_)
      · exact ⟨ldA ((tabC t (.slice ar nr cr) (.slice al nl cl))) [_, _, _] hst3 (rfl) (rfl), ldS [_, _] hst3 rfl, ldS [_] hst3 rfl⟩
      clear hK K
      (try simp only [Act.put, List.setIfInBounds_toArray, List.set_cons_zero, List.set_cons_succ])
      refine tq 13 9 ?_
      refine wpAnyH_done (by kernel_rfl) ?_ _
      clear hHeld
      go_wp2_with (first | go_big_skip | go_big_guard | fail)
      have hl := Loads.atA (P := Tryz.prog) (off := 0) (T := 27) (tabC r.2 (.slice a9 xs9.length c9) (.slice a8 r.2.lives.length c8)) [] hst3 rfl rfl
      refine bodyPost_ret (results_cellR rfl rfl rfl hl) rfl ?_
      exact ⟨_, _, xs9, rfl, HOK.out, St.sub hst3 (List.sublist_append_right [_, _, _, _] _)⟩
  · have HL := hid hq
    have HR := hid (show r = opR t (changeT t nm (limB z) fun v => { v with quota := q, reserve := z }) by rw [hr]; unfold limitT; rw [hq]; rfl)
    clear hr hq
    go_enter Tryz.func31, Tryz.ntmps31
    go_wp2_with (first | go_big_skip | go_big_guard | (refine wl_boxA hst0 rfl rfl rfl ?_; intro g4 w1 hA0; clear hst0) | (refine wl_box hA0 rfl rfl rfl ?_; intro g6 _ hA1; clear hA0) | (refine wl_box hA1 rfl rfl rfl ?_; intro g7 _ hA2; clear hA1) | (refine wl_alloc hA2 rfl rfl ?_; intro g8 _ hst; clear hA2))
    have hX := hst.drew
    clear hst
    refine wp_region_held_drew (S := (fun w' => (loadVarH 27 ⟨g4, 0, none⟩).run Tryz.prog w' = .ok (.agg (List.toArray ((tabC t (.slice ar nr cr) (.slice al nl cl))))) w' ∧ (loadVarH 3 ⟨g6, 0, none⟩).run Tryz.prog w' = .ok (.int .i64 q) w' ∧ (loadVarH 3 ⟨g7, 0, none⟩).run Tryz.prog w' = .ok (.int .i64 z) w')) (by kernel_rfl) (by exact ⟨ldA ((tabC t (.slice ar nr cr) (.slice al nl cl))) [_, _, _] hX (rfl) (rfl), ldS [_, _] hX rfl, ldS [_] hX rfl⟩) (fun hHeld => ?_)
    refine tq 0 10 ?_
    refine tq 1 11 ?_
    refine tq 2 12 ?_
    refine wpAnyH_ready (rs := [3, 8]) (by kernel_rfl) (by simp) ?_
    refine (AllReadyH.cons (o := ⟨some 13, _, _, _, _, _⟩) rfl (fun K hK => ?_) (AllReadyH.cons (o := ⟨some 18, _, _, _, _, _⟩) rfl (fun K hK => ?_) AllReadyH.nil))
    · rw [if_pos (by rfl)]
      go_simp
      go_at_call 81
      refine (limit13_any q _).mono ?_
      rw [HL.out]
      rintro _ w5 ⟨rfl, h4⟩
      have hC10 := St.call0 hX h4
      clear h4
      refine hK.out _ _ ?_ (fun hHeld => ?_)
      · exact ⟨ldA ((tabC t (.slice ar nr cr) (.slice al nl cl))) [_, _, _] hC10 (rfl) (rfl), ldS [_, _] hC10 rfl, ldS [_] hC10 rfl⟩
      clear hK K
      (try simp only [Act.put, List.setIfInBounds_toArray, List.set_cons_zero, List.set_cons_succ])
      refine tq 4 14 ?_
      refine tq 5 15 ?_
      refine wpAnyH_ready (rs := [6, 8]) (by kernel_rfl) (by simp) ?_
      refine (AllReadyH.cons (o := ⟨some 16, _, _, _, _, _⟩) rfl (fun K hK => ?_) (AllReadyH.cons (o := ⟨some 18, _, _, _, _, _⟩) rfl (fun K hK => ?_) AllReadyH.nil))
      · rw [if_pos (by rfl)]
        go_simp
        go_at_call 81
        refine (limit13_any z _).mono ?_
        rintro _ w5 ⟨rfl, h4⟩
        have hC11 := St.call0 hC10 h4
        clear h4
        refine hK.out _ _ ?_ (fun hHeld => ?_)
        · exact ⟨ldA ((tabC t (.slice ar nr cr) (.slice al nl cl))) [_, _, _] hC11 (rfl) (rfl), ldS [_, _] hC11 rfl, ldS [_] hC11 rfl⟩
        clear hK K
        (try simp only [Act.put, List.setIfInBounds_toArray, List.set_cons_zero, List.set_cons_succ])
        refine tq 7 17 ?_
        refine wpAnyH_ready (rs := [8]) (by kernel_rfl) (by simp) ?_
        refine (AllReadyH.cons (o := ⟨some 18, _, _, _, _, _⟩) rfl (fun K hK => ?_) AllReadyH.nil)
        rw [if_pos (by rfl)]
        refine ow_of_wl (ops := #[]) (by rfl) ?_
        refine wl_mkFunc rfl rfl ?_
        refine q0_nil ?_
        refine hK.out _ _ ?_ (fun hHeld => ?_)
        · exact ⟨ldA ((tabC t (.slice ar nr cr) (.slice al nl cl))) [_, _, _] hC11 (rfl) (rfl), ldS [_, _] hC11 rfl, ldS [_] hC11 rfl⟩
        clear hK K
        (try simp only [Act.put, List.setIfInBounds_toArray, List.set_cons_zero, List.set_cons_succ])
        refine wpAnyH_ready (rs := [9]) (by kernel_rfl) (by simp) ?_
        refine (AllReadyH.cons (o := ⟨some 19, _, _, _, _, _⟩) rfl (fun K hK => ?_) AllReadyH.nil)
        rw [if_pos (by rfl)]
        go_simp
        go_at_call 79
        refine (change13_any t ar al nr cr nl cl xs _ (HT.out.old hC11.nil) nm (limB z) 82 #[.pointer (some ⟨g6, 0, none⟩), .pointer (some ⟨g7, 0, none⟩)] (fun v => { v with quota := q, reserve := z }) (fun _ _ => rfl) (fun w2 h => limitV q z (St.old_cell h (hC11.cell (g := g6) (off := 0) (.tail _ (.tail _ (.head _))) rfl) (by simp)) (St.old_cell h (hC11.cell (g := g7) (off := 0) (.tail _ (.head _)) rfl) (by simp))) hnm).mono ?_
        rw [← HR.out]
        rintro _ w9 ⟨rv9, lv9, xs9, rfl, hok9, h4⟩
        have h5 := St.call hC11 h4
        obtain ⟨a9, c9, rfl, _, _⟩ := rowS [] h5
        obtain ⟨a8, c8, rfl, _, _⟩ := rowS [_] h5
        have hD12 := St.perm h5 List.perm_append_comm
        have HOK := hid hok9
        clear hok9 h4 h5
        refine hK.out _ _ ?_ (fun hHeld => ?_)
        · exact ⟨ldA ((tabC t (.slice ar nr cr) (.slice al nl cl))) [_, _, _] hD12 (rfl) (rfl), ldS [_, _] hD12 rfl, ldS [_] hD12 rfl⟩
        clear hK K
        (try simp only [Act.put, List.setIfInBounds_toArray, List.set_cons_zero, List.set_cons_succ])
        refine tq 10 20 ?_
        refine tq 11 21 ?_
        refine wpAnyH_ready (rs := [12]) (by kernel_rfl) (by simp) ?_
        refine (AllReadyH.cons (o := ⟨none, _, _, _, _, _⟩) rfl (fun K hK => ?_) AllReadyH.nil)
        rw [if_pos (by rfl)]
        refine ow_of_wl (ops := #[]) (by rfl) ?_
        refine wl_storeA [] hD12 rfl rfl rfl rfl (vs := tabC r.2 (.slice a9 xs9.length c9) (.slice a8 r.2.lives.length c8)) rfl rfl rfl ?_
        intro w7 hst3
        refine q0_nil ?_
        refine hK.out _ _ ?_ (fun hHeld => ?_)
        · exact ⟨ldA ((tabC t (.slice ar nr cr) (.slice al nl cl))) [_, _, _] hst3 (rfl) (rfl), ldS [_, _] hst3 rfl, ldS [_] hst3 rfl⟩
        clear hK K
        (try simp only [Act.put, List.setIfInBounds_toArray, List.set_cons_zero, List.set_cons_succ])
        refine tq 13 9 ?_
        refine wpAnyH_done (by kernel_rfl) ?_ _
        clear hHeld
        go_wp2_with (first | go_big_skip | go_big_guard | fail)
        have hl := Loads.atA (P := Tryz.prog) (off := 0) (T := 27) (tabC r.2 (.slice a9 xs9.length c9) (.slice a8 r.2.lives.length c8)) [] hst3 rfl rfl
        refine bodyPost_ret (results_cellR rfl rfl rfl hl) rfl ?_
        exact ⟨_, _, xs9, rfl, HOK.out, St.sub hst3 (List.sublist_append_right [_, _, _, _] _)⟩
      · rw [if_pos (by rfl)]
        refine ow_of_wl (ops := #[]) (by rfl) ?_
        refine wl_mkFunc rfl rfl ?_
        refine q0_nil ?_
        refine hK.out _ _ ?_ (fun hHeld => ?_)
        · exact ⟨ldA ((tabC t (.slice ar nr cr) (.slice al nl cl))) [_, _, _] hC10 (rfl) (rfl), ldS [_, _] hC10 rfl, ldS [_] hC10 rfl⟩
        clear hK K
        (try simp only [Act.put, List.setIfInBounds_toArray, List.set_cons_zero, List.set_cons_succ])
        refine wpAnyH_ready (rs := [6]) (by kernel_rfl) (by simp) ?_
        refine (AllReadyH.cons (o := ⟨some 16, _, _, _, _, _⟩) rfl (fun K hK => ?_) AllReadyH.nil)
        rw [if_pos (by rfl)]
        go_simp
        go_at_call 81
        refine (limit13_any z _).mono ?_
        rintro _ w5 ⟨rfl, h4⟩
        have hC13 := St.call0 hC10 h4
        clear h4
        refine hK.out _ _ ?_ (fun hHeld => ?_)
        · exact ⟨ldA ((tabC t (.slice ar nr cr) (.slice al nl cl))) [_, _, _] hC13 (rfl) (rfl), ldS [_, _] hC13 rfl, ldS [_] hC13 rfl⟩
        clear hK K
        (try simp only [Act.put, List.setIfInBounds_toArray, List.set_cons_zero, List.set_cons_succ])
        refine tq 7 17 ?_
        refine wpAnyH_ready (rs := [9]) (by kernel_rfl) (by simp) ?_
        refine (AllReadyH.cons (o := ⟨some 19, _, _, _, _, _⟩) rfl (fun K hK => ?_) AllReadyH.nil)
        rw [if_pos (by rfl)]
        go_simp
        go_at_call 79
        refine (change13_any t ar al nr cr nl cl xs _ (HT.out.old hC13.nil) nm (limB z) 82 #[.pointer (some ⟨g6, 0, none⟩), .pointer (some ⟨g7, 0, none⟩)] (fun v => { v with quota := q, reserve := z }) (fun _ _ => rfl) (fun w2 h => limitV q z (St.old_cell h (hC13.cell (g := g6) (off := 0) (.tail _ (.tail _ (.head _))) rfl) (by simp)) (St.old_cell h (hC13.cell (g := g7) (off := 0) (.tail _ (.head _)) rfl) (by simp))) hnm).mono ?_
        rw [← HR.out]
        rintro _ w9 ⟨rv9, lv9, xs9, rfl, hok9, h4⟩
        have h5 := St.call hC13 h4
        obtain ⟨a9, c9, rfl, _, _⟩ := rowS [] h5
        obtain ⟨a8, c8, rfl, _, _⟩ := rowS [_] h5
        have hD14 := St.perm h5 List.perm_append_comm
        have HOK := hid hok9
        clear hok9 h4 h5
        refine hK.out _ _ ?_ (fun hHeld => ?_)
        · exact ⟨ldA ((tabC t (.slice ar nr cr) (.slice al nl cl))) [_, _, _] hD14 (rfl) (rfl), ldS [_, _] hD14 rfl, ldS [_] hD14 rfl⟩
        clear hK K
        (try simp only [Act.put, List.setIfInBounds_toArray, List.set_cons_zero, List.set_cons_succ])
        refine tq 10 20 ?_
        refine tq 11 21 ?_
        refine wpAnyH_ready (rs := [12]) (by kernel_rfl) (by simp) ?_
        refine (AllReadyH.cons (o := ⟨none, _, _, _, _, _⟩) rfl (fun K hK => ?_) AllReadyH.nil)
        rw [if_pos (by rfl)]
        refine ow_of_wl (ops := #[]) (by rfl) ?_
        refine wl_storeA [] hD14 rfl rfl rfl rfl (vs := tabC r.2 (.slice a9 xs9.length c9) (.slice a8 r.2.lives.length c8)) rfl rfl rfl ?_
        intro w7 hst3
        refine q0_nil ?_
        refine hK.out _ _ ?_ (fun hHeld => ?_)
        · exact ⟨ldA ((tabC t (.slice ar nr cr) (.slice al nl cl))) [_, _, _] hst3 (rfl) (rfl), ldS [_, _] hst3 rfl, ldS [_] hst3 rfl⟩
        clear hK K
        (try simp only [Act.put, List.setIfInBounds_toArray, List.set_cons_zero, List.set_cons_succ])
        refine tq 13 9 ?_
        refine wpAnyH_done (by kernel_rfl) ?_ _
        clear hHeld
        go_wp2_with (first | go_big_skip | go_big_guard | fail)
        have hl := Loads.atA (P := Tryz.prog) (off := 0) (T := 27) (tabC r.2 (.slice a9 xs9.length c9) (.slice a8 r.2.lives.length c8)) [] hst3 rfl rfl
        refine bodyPost_ret (results_cellR rfl rfl rfl hl) rfl ?_
        exact ⟨_, _, xs9, rfl, HOK.out, St.sub hst3 (List.sublist_append_right [_, _, _, _] _)⟩
    · rw [if_pos (by rfl)]
      refine ow_of_wl (ops := #[]) (by rfl) ?_
      refine wl_mkFunc rfl rfl ?_
      refine q0_nil ?_
      refine hK.out _ _ ?_ (fun hHeld => ?_)
      · exact ⟨ldA ((tabC t (.slice ar nr cr) (.slice al nl cl))) [_, _, _] hX (rfl) (rfl), ldS [_, _] hX rfl, ldS [_] hX rfl⟩
      clear hK K
      (try simp only [Act.put, List.setIfInBounds_toArray, List.set_cons_zero, List.set_cons_succ])
      refine wpAnyH_ready (rs := [3]) (by kernel_rfl) (by simp) ?_
      refine (AllReadyH.cons (o := ⟨some 13, _, _, _, _, _⟩) rfl (fun K hK => ?_) AllReadyH.nil)
      rw [if_pos (by rfl)]
      go_simp
      go_at_call 81
      refine (limit13_any q _).mono ?_
      rw [HL.out]
      rintro _ w5 ⟨rfl, h4⟩
      have hC15 := St.call0 hX h4
      clear h4
      refine hK.out _ _ ?_ (fun hHeld => ?_)
      · exact ⟨ldA ((tabC t (.slice ar nr cr) (.slice al nl cl))) [_, _, _] hC15 (rfl) (rfl), ldS [_, _] hC15 rfl, ldS [_] hC15 rfl⟩
      clear hK K
      (try simp only [Act.put, List.setIfInBounds_toArray, List.set_cons_zero, List.set_cons_succ])
      refine tq 4 14 ?_
      refine tq 5 15 ?_
      refine wpAnyH_ready (rs := [6]) (by kernel_rfl) (by simp) ?_
      refine (AllReadyH.cons (o := ⟨some 16, _, _, _, _, _⟩) rfl (fun K hK => ?_) AllReadyH.nil)
      rw [if_pos (by rfl)]
      go_simp
      go_at_call 81
      refine (limit13_any z _).mono ?_
      rintro _ w5 ⟨rfl, h4⟩
      have hC16 := St.call0 hC15 h4
      clear h4
      refine hK.out _ _ ?_ (fun hHeld => ?_)
      · exact ⟨ldA ((tabC t (.slice ar nr cr) (.slice al nl cl))) [_, _, _] hC16 (rfl) (rfl), ldS [_, _] hC16 rfl, ldS [_] hC16 rfl⟩
      clear hK K
      (try simp only [Act.put, List.setIfInBounds_toArray, List.set_cons_zero, List.set_cons_succ])
      refine tq 7 17 ?_
      refine wpAnyH_ready (rs := [9]) (by kernel_rfl) (by simp) ?_
      refine (AllReadyH.cons (o := ⟨some 19, _, _, _, _, _⟩) rfl (fun K hK => ?_) AllReadyH.nil)
      rw [if_pos (by rfl)]
      go_simp
      go_at_call 79
      refine (change13_any t ar al nr cr nl cl xs _ (HT.out.old hC16.nil) nm (limB z) 82 #[.pointer (some ⟨g6, 0, none⟩), .pointer (some ⟨g7, 0, none⟩)] (fun v => { v with quota := q, reserve := z }) (fun _ _ => rfl) (fun w2 h => limitV q z (St.old_cell h (hC16.cell (g := g6) (off := 0) (.tail _ (.tail _ (.head _))) rfl) (by simp)) (St.old_cell h (hC16.cell (g := g7) (off := 0) (.tail _ (.head _)) rfl) (by simp))) hnm).mono ?_
      rw [← HR.out]
      rintro _ w9 ⟨rv9, lv9, xs9, rfl, hok9, h4⟩
      have h5 := St.call hC16 h4
      obtain ⟨a9, c9, rfl, _, _⟩ := rowS [] h5
      obtain ⟨a8, c8, rfl, _, _⟩ := rowS [_] h5
      have hD17 := St.perm h5 List.perm_append_comm
      have HOK := hid hok9
      clear hok9 h4 h5
      refine hK.out _ _ ?_ (fun hHeld => ?_)
      · exact ⟨ldA ((tabC t (.slice ar nr cr) (.slice al nl cl))) [_, _, _] hD17 (rfl) (rfl), ldS [_, _] hD17 rfl, ldS [_] hD17 rfl⟩
      clear hK K
      (try simp only [Act.put, List.setIfInBounds_toArray, List.set_cons_zero, List.set_cons_succ])
      refine tq 10 20 ?_
      refine tq 11 21 ?_
      refine wpAnyH_ready (rs := [12]) (by kernel_rfl) (by simp) ?_
      refine (AllReadyH.cons (o := ⟨none, _, _, _, _, _⟩) rfl (fun K hK => ?_) AllReadyH.nil)
      rw [if_pos (by rfl)]
      refine ow_of_wl (ops := #[]) (by rfl) ?_
      refine wl_storeA [] hD17 rfl rfl rfl rfl (vs := tabC r.2 (.slice a9 xs9.length c9) (.slice a8 r.2.lives.length c8)) rfl rfl rfl ?_
      intro w7 hst3
      refine q0_nil ?_
      refine hK.out _ _ ?_ (fun hHeld => ?_)
      · exact ⟨ldA ((tabC t (.slice ar nr cr) (.slice al nl cl))) [_, _, _] hst3 (rfl) (rfl), ldS [_, _] hst3 rfl, ldS [_] hst3 rfl⟩
      clear hK K
      (try simp only [Act.put, List.setIfInBounds_toArray, List.set_cons_zero, List.set_cons_succ])
      refine tq 13 9 ?_
      refine wpAnyH_done (by kernel_rfl) ?_ _
      clear hHeld
      go_wp2_with (first | go_big_skip | go_big_guard | fail)
      have hl := Loads.atA (P := Tryz.prog) (off := 0) (T := 27) (tabC r.2 (.slice a9 xs9.length c9) (.slice a8 r.2.lives.length c8)) [] hst3 rfl rfl
      refine bodyPost_ret (results_cellR rfl rfl rfl hl) rfl ?_
      exact ⟨_, _, xs9, rfl, HOK.out, St.sub hst3 (List.sublist_append_right [_, _, _, _] _)⟩
theorem root13_any (t : TC) (ar al : Option Addr) (nr cr nl cl : Nat) (xs : List (Value × RC)) (w : World) (ht : TabIn w t ar nr cr al nl cl xs) (nm : List UInt8) (p : PV) (hp : p.In w) (hpl : p.l.length ≤ 100000) (hnm : nm.length ≤ 1000000) : Calls Tryz.prog 32 #[.agg (tabC t (.slice ar nr cr) (.slice al nl cl)).toArray, .string ⟨nm.toArray⟩, .agg p.cells.toArray] w (TabRet (opR t (rootT t nm p)) w) := by
  have HP := hid hp
  have H35 := hid (PV.len hp.1)
  clear hp
  have hst0 := St.refl w
  have HT := hid ht
  clear ht
  obtain ⟨r, hr⟩ : ∃ r, r = opR t (rootT t nm p) := ⟨_, rfl⟩
  rw [← hr]
  cases hh : p.hole <;> cases hk : p.ok
  · have H1 := hid hh
    have H2 := hid hk
    have HR := hid (show r = opR t (changeT t nm false (rootOf p)) by rw [hr]; unfold rootT rootB; rw [hh, hk]; rfl)
    clear hr hh hk
    go_enter Tryz.func32, Tryz.ntmps32
    go_wp2_with (first | go_big_skip | go_big_guard | (refine wl_boxA hst0 rfl rfl rfl ?_; intro g3 w1 hA0; clear hst0) | (refine wl_boxA hA0 rfl rfl rfl ?_; intro g5 _ hA1; clear hA0) | (refine wl_alloc hA1 rfl rfl ?_; intro g6 _ hst; clear hA1) | (refine wl_loadE rfl rfl rfl ?_; first | refine ⟨_, Loads.atA p.cells [_] hst H35.out (by simp), ?_⟩ | refine ⟨_, Loads.atA (tabC t (.slice ar nr cr) (.slice al nl cl)) [_, _] hst rfl rfl, ?_⟩ | refine ⟨_, Loads.at [_] hst rfl, ?_⟩) | (go_at_call 83; refine (hole_pv p _ (PV.In.old hst.nil HP.out)).mono ?_; rw [H1.out]; rintro _ w9 ⟨rfl, h4⟩; replace hst := St.call0 hst h4; clear h4) | (go_at_call 84; refine (check_pv p _ (PV.In.old hst.nil HP.out)).mono ?_; rw [H2.out]; rintro _ w9 ⟨rfl, h4⟩; replace hst := St.call0 hst h4; clear h4) | (go_at_call 79; refine (change13_any t ar al nr cr nl cl xs _ (HT.out.old hst.nil) nm (false) 85 #[.pointer (some ⟨g5, 0, none⟩)] (rootOf p) (fun _ _ => rfl) (fun w2 h => rootV p (fun j v hv => St.old_cell h (by have := hst.range (g := g5) (.tail _ (.head _)) j v (by rw [List.drop_zero]; exact hv); rwa [Nat.zero_add] at this ⊢) (by simp)) (PV.In.old h (PV.In.old hst.nil HP.out)) hpl) hnm).mono ?_; rw [← HR.out]; rintro _ w9 ⟨rv9, lv9, xs9, rfl, hok9, h4⟩; have h5 := St.call hst h4; obtain ⟨a9, c9, rfl, _, _⟩ := rowS [] h5; obtain ⟨a8, c8, rfl, _, _⟩ := rowS [_] h5; have hD2 := St.perm h5 List.perm_append_comm; have HOK := hid hok9; clear hok9 h4 h5 hst) | (refine wl_storeA [] hD2 rfl rfl rfl rfl (vs := tabC r.2 (.slice a9 xs9.length c9) (.slice a8 r.2.lives.length c8)) rfl rfl rfl ?_; intro w7 hst3; clear hD2))
    have hl := Loads.atA (P := Tryz.prog) (off := 0) (T := 27) (tabC r.2 (.slice a9 xs9.length c9) (.slice a8 r.2.lives.length c8)) [] hst3 rfl rfl
    refine bodyPost_ret (results_cellR rfl rfl rfl hl) rfl ?_
    exact ⟨_, _, xs9, rfl, HOK.out, St.sub hst3 (List.sublist_append_right [_, _, _] _)⟩
  · have H1 := hid hh
    have H2 := hid hk
    have HR := hid (show r = opR t (changeT t nm (p.v == 3) (rootOf p)) by rw [hr]; unfold rootT rootB; rw [hh, hk]; rfl)
    clear hr hh hk
    go_enter Tryz.func32, Tryz.ntmps32
    go_wp2_with (first | go_big_skip | go_big_guard | (refine wl_boxA hst0 rfl rfl rfl ?_; intro g3 w1 hA0; clear hst0) | (refine wl_boxA hA0 rfl rfl rfl ?_; intro g5 _ hA1; clear hA0) | (refine wl_alloc hA1 rfl rfl ?_; intro g6 _ hst; clear hA1) | (refine wl_loadE rfl rfl rfl ?_; first | refine ⟨_, Loads.atA p.cells [_] hst H35.out (by simp), ?_⟩ | refine ⟨_, Loads.atA (tabC t (.slice ar nr cr) (.slice al nl cl)) [_, _] hst rfl rfl, ?_⟩ | refine ⟨_, Loads.at [_] hst rfl, ?_⟩) | (go_at_call 83; refine (hole_pv p _ (PV.In.old hst.nil HP.out)).mono ?_; rw [H1.out]; rintro _ w9 ⟨rfl, h4⟩; replace hst := St.call0 hst h4; clear h4) | (go_at_call 84; refine (check_pv p _ (PV.In.old hst.nil HP.out)).mono ?_; rw [H2.out]; rintro _ w9 ⟨rfl, h4⟩; replace hst := St.call0 hst h4; clear h4) | (go_at_call 79; refine (change13_any t ar al nr cr nl cl xs _ (HT.out.old hst.nil) nm ((p.v == 3)) 85 #[.pointer (some ⟨g5, 0, none⟩)] (rootOf p) (fun _ _ => rfl) (fun w2 h => rootV p (fun j v hv => St.old_cell h (by have := hst.range (g := g5) (.tail _ (.head _)) j v (by rw [List.drop_zero]; exact hv); rwa [Nat.zero_add] at this ⊢) (by simp)) (PV.In.old h (PV.In.old hst.nil HP.out)) hpl) hnm).mono ?_; rw [← HR.out]; rintro _ w9 ⟨rv9, lv9, xs9, rfl, hok9, h4⟩; have h5 := St.call hst h4; obtain ⟨a9, c9, rfl, _, _⟩ := rowS [] h5; obtain ⟨a8, c8, rfl, _, _⟩ := rowS [_] h5; have hD2 := St.perm h5 List.perm_append_comm; have HOK := hid hok9; clear hok9 h4 h5 hst) | (refine wl_storeA [] hD2 rfl rfl rfl rfl (vs := tabC r.2 (.slice a9 xs9.length c9) (.slice a8 r.2.lives.length c8)) rfl rfl rfl ?_; intro w7 hst3; clear hD2))
    have hl := Loads.atA (P := Tryz.prog) (off := 0) (T := 27) (tabC r.2 (.slice a9 xs9.length c9) (.slice a8 r.2.lives.length c8)) [] hst3 rfl rfl
    refine bodyPost_ret (results_cellR rfl rfl rfl hl) rfl ?_
    exact ⟨_, _, xs9, rfl, HOK.out, St.sub hst3 (List.sublist_append_right [_, _, _] _)⟩
  · have H1 := hid hh
    have H2 := hid hk
    have HR := hid (show r = opR t (changeT t nm true (rootOf p)) by rw [hr]; unfold rootT rootB; rw [hh, hk]; rfl)
    clear hr hh hk
    go_enter Tryz.func32, Tryz.ntmps32
    go_wp2_with (first | go_big_skip | go_big_guard | (refine wl_boxA hst0 rfl rfl rfl ?_; intro g3 w1 hA0; clear hst0) | (refine wl_boxA hA0 rfl rfl rfl ?_; intro g5 _ hA1; clear hA0) | (refine wl_alloc hA1 rfl rfl ?_; intro g6 _ hst; clear hA1) | (refine wl_loadE rfl rfl rfl ?_; first | refine ⟨_, Loads.atA p.cells [_] hst H35.out (by simp), ?_⟩ | refine ⟨_, Loads.atA (tabC t (.slice ar nr cr) (.slice al nl cl)) [_, _] hst rfl rfl, ?_⟩ | refine ⟨_, Loads.at [_] hst rfl, ?_⟩) | (go_at_call 83; refine (hole_pv p _ (PV.In.old hst.nil HP.out)).mono ?_; rw [H1.out]; rintro _ w9 ⟨rfl, h4⟩; replace hst := St.call0 hst h4; clear h4) | (go_at_call 84; refine (check_pv p _ (PV.In.old hst.nil HP.out)).mono ?_; rw [H2.out]; rintro _ w9 ⟨rfl, h4⟩; replace hst := St.call0 hst h4; clear h4) | (go_at_call 79; refine (change13_any t ar al nr cr nl cl xs _ (HT.out.old hst.nil) nm (true) 85 #[.pointer (some ⟨g5, 0, none⟩)] (rootOf p) (fun _ _ => rfl) (fun w2 h => rootV p (fun j v hv => St.old_cell h (by have := hst.range (g := g5) (.tail _ (.head _)) j v (by rw [List.drop_zero]; exact hv); rwa [Nat.zero_add] at this ⊢) (by simp)) (PV.In.old h (PV.In.old hst.nil HP.out)) hpl) hnm).mono ?_; rw [← HR.out]; rintro _ w9 ⟨rv9, lv9, xs9, rfl, hok9, h4⟩; have h5 := St.call hst h4; obtain ⟨a9, c9, rfl, _, _⟩ := rowS [] h5; obtain ⟨a8, c8, rfl, _, _⟩ := rowS [_] h5; have hD2 := St.perm h5 List.perm_append_comm; have HOK := hid hok9; clear hok9 h4 h5 hst) | (refine wl_storeA [] hD2 rfl rfl rfl rfl (vs := tabC r.2 (.slice a9 xs9.length c9) (.slice a8 r.2.lives.length c8)) rfl rfl rfl ?_; intro w7 hst3; clear hD2))
    have hl := Loads.atA (P := Tryz.prog) (off := 0) (T := 27) (tabC r.2 (.slice a9 xs9.length c9) (.slice a8 r.2.lives.length c8)) [] hst3 rfl rfl
    refine bodyPost_ret (results_cellR rfl rfl rfl hl) rfl ?_
    exact ⟨_, _, xs9, rfl, HOK.out, St.sub hst3 (List.sublist_append_right [_, _, _] _)⟩
  · have H1 := hid hh
    have H2 := hid hk
    have HR := hid (show r = opR t (changeT t nm true (rootOf p)) by rw [hr]; unfold rootT rootB; rw [hh, hk]; rfl)
    clear hr hh hk
    go_enter Tryz.func32, Tryz.ntmps32
    go_wp2_with (first | go_big_skip | go_big_guard | (refine wl_boxA hst0 rfl rfl rfl ?_; intro g3 w1 hA0; clear hst0) | (refine wl_boxA hA0 rfl rfl rfl ?_; intro g5 _ hA1; clear hA0) | (refine wl_alloc hA1 rfl rfl ?_; intro g6 _ hst; clear hA1) | (refine wl_loadE rfl rfl rfl ?_; first | refine ⟨_, Loads.atA p.cells [_] hst H35.out (by simp), ?_⟩ | refine ⟨_, Loads.atA (tabC t (.slice ar nr cr) (.slice al nl cl)) [_, _] hst rfl rfl, ?_⟩ | refine ⟨_, Loads.at [_] hst rfl, ?_⟩) | (go_at_call 83; refine (hole_pv p _ (PV.In.old hst.nil HP.out)).mono ?_; rw [H1.out]; rintro _ w9 ⟨rfl, h4⟩; replace hst := St.call0 hst h4; clear h4) | (go_at_call 84; refine (check_pv p _ (PV.In.old hst.nil HP.out)).mono ?_; rw [H2.out]; rintro _ w9 ⟨rfl, h4⟩; replace hst := St.call0 hst h4; clear h4) | (go_at_call 79; refine (change13_any t ar al nr cr nl cl xs _ (HT.out.old hst.nil) nm (true) 85 #[.pointer (some ⟨g5, 0, none⟩)] (rootOf p) (fun _ _ => rfl) (fun w2 h => rootV p (fun j v hv => St.old_cell h (by have := hst.range (g := g5) (.tail _ (.head _)) j v (by rw [List.drop_zero]; exact hv); rwa [Nat.zero_add] at this ⊢) (by simp)) (PV.In.old h (PV.In.old hst.nil HP.out)) hpl) hnm).mono ?_; rw [← HR.out]; rintro _ w9 ⟨rv9, lv9, xs9, rfl, hok9, h4⟩; have h5 := St.call hst h4; obtain ⟨a9, c9, rfl, _, _⟩ := rowS [] h5; obtain ⟨a8, c8, rfl, _, _⟩ := rowS [_] h5; have hD2 := St.perm h5 List.perm_append_comm; have HOK := hid hok9; clear hok9 h4 h5 hst) | (refine wl_storeA [] hD2 rfl rfl rfl rfl (vs := tabC r.2 (.slice a9 xs9.length c9) (.slice a8 r.2.lives.length c8)) rfl rfl rfl ?_; intro w7 hst3; clear hD2))
    have hl := Loads.atA (P := Tryz.prog) (off := 0) (T := 27) (tabC r.2 (.slice a9 xs9.length c9) (.slice a8 r.2.lives.length c8)) [] hst3 rfl rfl
    refine bodyPost_ret (results_cellR rfl rfl rfl hl) rfl ?_
    exact ⟨_, _, xs9, rfl, HOK.out, St.sub hst3 (List.sublist_append_right [_, _, _] _)⟩
theorem new13_any (devs : Int) (w : World) : Calls Tryz.prog 13 #[.int .i64 devs] w (TabRet (newR devs) w) := by
  have hst0 := St.refl w
  obtain ⟨r, hr⟩ : ∃ r, r = newR devs := ⟨_, rfl⟩
  rw [← hr]
  by_cases h1 : devs < 2
  · have d1 : decide (devs < 2) = true := decide_eq_true h1
    have HB := hid (show r = badR 2 by rw [hr]; unfold newR inB; rw [decide_eq_false (by omega : ¬ (2 ≤ devs))]; rfl)
    clear h1 hr
    go_enter Tryz.func13, Tryz.ntmps13
    go_wp2_with (first | go_big_skip | go_big_guard | (refine wl_alloc hst0 rfl rfl ?_; intro g2 w1 hst; clear hst0) | (refine wl_build0 rfl rfl ?_) | (refine wl_storeA [] hst rfl rfl rfl rfl rfl rfl rfl ?_; intro w7 hst2; clear hst))
    have hl := Loads.atA (P := Tryz.prog) (off := 0) (T := 27) tab0 [] hst2 rfl rfl
    refine bodyPost_ret (results_cellR rfl rfl rfl hl) rfl ?_
    rw [HB.out]
    exact tabRet_bad hst2 2
  · have d1 : decide (devs < 2) = false := decide_eq_false h1
    by_cases h2 : devs > 8
    · have d2 : decide (devs > 8) = true := decide_eq_true h2
      have d3 : decide (8 < devs) = true := d2
      have HB := hid (show r = badR 2 by rw [hr]; unfold newR inB; rw [decide_eq_false (by omega : ¬ (devs ≤ 8)), Bool.and_false]; rfl)
      clear h1 h2 hr
      go_enter Tryz.func13, Tryz.ntmps13
      go_wp2_with (first | go_big_skip | go_big_guard | (refine wl_alloc hst0 rfl rfl ?_; intro g2 w1 hst; clear hst0) | (refine wl_build0 rfl rfl ?_) | (refine wl_storeA [] hst rfl rfl rfl rfl rfl rfl rfl ?_; intro w7 hst2; clear hst))
      have hl := Loads.atA (P := Tryz.prog) (off := 0) (T := 27) tab0 [] hst2 rfl rfl
      refine bodyPost_ret (results_cellR rfl rfl rfl hl) rfl ?_
      rw [HB.out]
      exact tabRet_bad hst2 2
    · have d2 : decide (devs > 8) = false := decide_eq_false h2
      have d3 : decide (8 < devs) = false := d2
      obtain ⟨n, rfl⟩ : ∃ n : Nat, devs = (n : Int) := ⟨devs.toNat, by omega⟩
      have HB := hid (show r = (0, ⟨1, [], 0, 0, 0, 0, List.replicate n 0⟩) by rw [hr]; unfold newR inB; rw [decide_eq_true (by omega : (2 : Int) ≤ (n : Int)), decide_eq_true (by omega : (n : Int) ≤ 8)]; rfl)
      have hn8 : n ≤ 8 := by omega
      clear h1 h2 hr
      go_enter Tryz.func13, Tryz.ntmps13
      go_wp2_with (first | go_big_skip | go_big_guard | (refine wl_alloc hst0 rfl rfl ?_; intro g2 w1 hst; clear hst0) | (apply wl_make n n hst; rfl; rfl; exact rfl; exact rfl; infer_instance; infer_instance; infer_instance; rfl; rfl; exact Nat.le_refl _; exact ⟨by omega, by omega⟩; intro g3 w2 hst2; clear hst) | (refine wl_buildX (cs := [.int .i64 1, .slice none 0 0, .int .i64 0, .int .i64 0, .int .i64 0, .int .i64 0, .slice (some ⟨g3, 0, none⟩) n n]) [(0, .int .i64 1), (3, .slice (some ⟨g3, 0, none⟩) n n)] rfl rfl (by exact rfl) (bldNew _ _ _) ?_) | (refine wl_storeA [_] hst2 rfl rfl rfl rfl rfl rfl rfl ?_; intro w7 hst3; clear hst2))
      have hl := Loads.atA (P := Tryz.prog) (off := 0) (T := 27) [.int .i64 1, .slice none 0 0, .int .i64 0, .int .i64 0, .int .i64 0, .int .i64 0, .slice (some ⟨g3, 0, none⟩) n n] [_] hst3 rfl rfl
      refine bodyPost_ret (results_cellR rfl rfl rfl hl) rfl ?_
      rw [HB.out]
      refine ⟨.slice none 0 0, .slice (some ⟨g3, 0, none⟩) n n, [], rfl, ⟨rfl, fun _ h => by cases h⟩, ?_⟩
      have h5 := St.toRow (n := n) (cap := n) (sz := 1) hst3 (by rw [List.length_replicate, Nat.mul_one]) (Nat.le_refl _) (by omega)
      rw [Nat.mul_one, List.take_of_length_le (by rw [List.length_replicate]; exact Nat.le_refl _)] at h5
      have e1 : numsV (List.replicate n 0) = List.replicate n (.int .i64 0) := by unfold numsV; rw [List.map_replicate]
      have h6 := St.nilR 53 44 (St.sub h5 (.cons_cons _ (List.nil_sublist _)))
      show St w [] _ [.row _ _ 44 0 _, .row _ _ 1 (List.replicate n (0 : Int)).length (numsV (List.replicate n 0))]
      rw [List.length_replicate, e1]
      exact h6
end Go.Proofs.YtifajcblbedcoaaGreat
namespace Go.Proofs.YtifajcblbedcoaaGreat
set_option linter.unusedVariables false
set_option linter.unusedSimpArgs false
open Go.RowKit Hp
def NameLt (x y : RC) : Prop := lessL x.name y.name = true
theorem sorted_iff {l : List RC} : Sorted l ↔ l.Pairwise NameLt := by
  rw [List.pairwise_iff_getElem]
  constructor
  · intro h i j hi hj hij
    exact h i j _ _ hij (List.getElem?_eq_getElem hi) (List.getElem?_eq_getElem hj)
  · intro h i j x y hij hx hy
    obtain ⟨hi, hx⟩ := List.getElem?_eq_some_iff.1 hx
    obtain ⟨hj, hy⟩ := List.getElem?_eq_some_iff.1 hy
    subst hx hy
    exact h i j hi hj hij
theorem NameLt.trans {x y z : RC} (h : NameLt x y) (h' : NameLt y z) : NameLt x z := less_trans h h'
theorem NameLt.ne {x y : RC} (h : NameLt x y) : x.name ≠ y.name := by
  intro e
  unfold NameLt at h
  rw [e, less_self] at h
  cases h
theorem name_other {x y : RC} (h : lessL y.name x.name = false) (hn : y.name ≠ x.name) : NameLt x y := by
  rcases less_tri y.name x.name with ⟨h1, _, _⟩ | ⟨_, h2, _⟩ | ⟨h3, _, _⟩
  · rw [h1] at h; cases h
  · exact h2
  · exact absurd h3 hn
theorem layL_perm (x : RC) (l : List RC) : (layL x l).Perm (x :: l) := by
  unfold layL
  have := List.perm_middle (a := x) (l₁ := l.takeWhile fun y => lessL y.name x.name) (l₂ := l.dropWhile fun y => lessL y.name x.name)
  rwa [List.takeWhile_append_dropWhile] at this
theorem dropWhile_all {x : RC} : ∀ {l : List RC}, l.Pairwise NameLt → ∀ y ∈ l.dropWhile (fun y => lessL y.name x.name), lessL y.name x.name = false
  | [], _, y, hy => by simp at hy
  | z :: l, h, y, hy => by
    rw [List.pairwise_cons] at h
    rw [List.dropWhile_cons] at hy
    split at hy
    · exact dropWhile_all h.2 y hy
    · rename_i hz
      have hz' : lessL z.name x.name = false := by simpa using hz
      rcases List.mem_cons.1 hy with rfl | hy
      · exact hz'
      · cases hq : lessL y.name x.name with
        | false => rfl
        | true =>
          have := less_trans (h.1 y hy) hq
          rw [hz'] at this
          cases this
theorem layL_sorted {x : RC} {l : List RC} (h : l.Pairwise NameLt) (hx : ∀ y ∈ l, y.name ≠ x.name) : (layL x l).Pairwise NameLt := by
  unfold layL
  have hs := h
  rw [← List.takeWhile_append_dropWhile (p := fun y : RC => lessL y.name x.name) (l := l), List.pairwise_append] at hs
  obtain ⟨h1, h2, h3⟩ := hs
  have hA : ∀ y ∈ l.takeWhile (fun y : RC => lessL y.name x.name), NameLt y x := fun y hy => List.all_eq_true.1 (List.all_takeWhile (p := fun y : RC => lessL y.name x.name) (l := l)) y hy
  have hB : ∀ y ∈ l.dropWhile (fun y : RC => lessL y.name x.name), NameLt x y := fun y hy => name_other (dropWhile_all h y hy) (hx y ((List.dropWhile_sublist _).subset hy))
  rw [List.pairwise_append, List.pairwise_cons]
  refine ⟨h1, ⟨hB, h2⟩, fun a ha b hb => ?_⟩
  rcases List.mem_cons.1 hb with rfl | hb
  · exact hA a ha
  · exact h3 a ha b hb
theorem sortL_snoc (l : List RC) (x : RC) : sortL (l ++ [x]) = layL x (sortL l) := by
  unfold sortL
  rw [List.foldl_append]
  rfl
theorem snoc_ind {p : List RC → Prop} (h0 : p []) (h1 : ∀ l x, p l → p (l ++ [x])) (l : List RC) : p l := by
  have : ∀ k : List RC, p k.reverse := by
    intro k
    induction k with
    | nil => exact h0
    | cons x k ih => rw [List.reverse_cons]; exact h1 _ _ ih
  have h := this l.reverse
  rwa [List.reverse_reverse] at h
theorem sortL_perm (l : List RC) : (sortL l).Perm l := by
  refine snoc_ind (p := fun l => (sortL l).Perm l) (List.Perm.refl _) (fun l x ih => ?_) l
  rw [sortL_snoc]
  exact (layL_perm x _).trans ((List.Perm.cons x ih).trans (List.perm_append_singleton x l).symm)
def Distinct (l : List RC) : Prop := l.Pairwise fun x y => x.name ≠ y.name
theorem sortL_sorted {l : List RC} (h : Distinct l) : (sortL l).Pairwise NameLt := by
  revert h
  refine snoc_ind (p := fun l => Distinct l → (sortL l).Pairwise NameLt) (fun _ => List.Pairwise.nil) (fun l x ih h => ?_) l
  unfold Distinct at h
  rw [List.pairwise_append] at h
  rw [sortL_snoc]
  exact layL_sorted (ih h.1) fun y hy => h.2.2 y ((sortL_perm l).subset hy) x (by simp)
theorem layL_last {x : RC} {l : List RC} (h : ∀ y ∈ l, NameLt y x) : layL x l = l ++ [x] := by
  have e : nLess x l = l.length := nLess_of (Nat.le_refl _) (fun i y _ hy => h y (List.mem_of_getElem? hy)) (fun y hy => by
    have := (List.getElem?_eq_some_iff.1 hy).1
    omega)
  rw [layL_at, e, List.take_length, List.drop_length]
/-- A list that is in order stays. -/
theorem sortL_id {l : List RC} (h : l.Pairwise NameLt) : sortL l = l := by
  revert h
  refine snoc_ind (p := fun l => l.Pairwise NameLt → sortL l = l) (fun _ => rfl) (fun l x ih h => ?_) l
  rw [List.pairwise_append] at h
  rw [sortL_snoc, ih h.1, layL_last fun y hy => h.2.2 y hy x (by simp)]
theorem ok_lt {t : TC} (h : t.ok = true) : t.recs.Pairwise NameLt := sorted_iff.1 (ok_sorted h)
theorem ok_distinct {t : TC} (h : t.ok = true) : Distinct t.recs := (ok_lt h).imp NameLt.ne
/-! ### Names changed -/
theorem isAt_no {nm : List UInt8} {l : List RC} (h : isAt nm l = false) : ∀ x ∈ l, x.name ≠ nm := fun x hx e => by
  unfold isAt recAt at h
  have h2 : l.find? (fun x => x.name == nm) = none := by
    cases hf : l.find? (fun x => x.name == nm) with
    | none => rfl
    | some y => rw [hf] at h; cases h
  rw [List.find?_eq_none] at h2
  have := h2 x hx
  simp [e] at this
theorem isAt_yes {nm : List UInt8} {l : List RC} {x : RC} (hx : x ∈ l) (h : x.name = nm) : isAt nm l = true := by
  cases hq : isAt nm l with
  | true => rfl
  | false => exact absurd h (isAt_no hq x hx)
/-- A record that may be: a snapshot's name is a snapshot's. -/
theorem alone_kind {r : RC} (h : r.aloneB = true) : (r.kind = 1 ∧ partB r.name = true) ∨ (r.kind = 2 ∧ snapB r.name = true) := by
  unfold RC.aloneB at h
  have h4 : r.kindB = true := (Bool.and_eq_true_iff.1 h).2
  unfold RC.kindB at h4
  by_cases k1 : (r.kind == 1) = true
  · rw [if_pos k1] at h4
    simp only [Bool.and_eq_true] at h4
    exact .inl ⟨by simpa using k1, h4.1.1.1.1⟩
  · rw [if_neg k1] at h4
    by_cases k2 : (r.kind == 2) = true
    · rw [if_pos k2] at h4
      simp only [Bool.and_eq_true] at h4
      exact .inr ⟨by simpa using k2, h4.1.1.1.1.1⟩
    · rw [if_neg k2] at h4; cases h4
theorem snap_form {s : List UInt8} (h : snapB s = true) : ∃ a b, splitL s = (a, b, true) ∧ s = a ++ 64 :: b ∧ partB a = true ∧ partB b = true := by
  unfold snapB at h
  obtain ⟨⟨a, b, f⟩, hs⟩ : ∃ p, splitL s = p := ⟨_, rfl⟩
  rw [hs] at h
  have hf : f = true := h
  subst hf
  exact ⟨a, b, hs, split_true hs⟩
theorem part_split {s : List UInt8} (h : partB s = true) : splitL s = ([], [], false) := by
  have hc : cutL s = (s, [], false) := cutL_none (part_no h)
  unfold splitL
  rw [hc]
  rfl
theorem ok_alone {t : TC} (h : t.ok = true) {x : RC} (hx : x ∈ t.recs) : x.aloneB = true := by
  obtain ⟨i, hi⟩ := List.getElem?_of_mem hx
  unfold TC.ok at h
  simp only [Bool.and_eq_true] at h
  have a1 := allAt_at h.1.2 hi
  unfold eachB at a1
  exact (Bool.and_eq_true_iff.1 a1).1
theorem ok_rel_at {t : TC} (h : t.ok = true) {x : RC} {i : Nat} (hi : t.recs[i]? = some x) : relB t.next t.recs i x = true := by
  unfold TC.ok at h
  simp only [Bool.and_eq_true] at h
  exact allAt_at h.2 hi
/-- A snapshot of a volume: that one is there. -/
theorem snap_has {t : TC} (h : t.ok = true) {x : RC} (hx : x ∈ t.recs) {a b : List UInt8} (hn : x.name = a ++ 64 :: b) (ha : partB a = true) (hb : partB b = true) : isAt a t.recs = true := by
  have hsp := split_joined ha hb
  have hk : snapB x.name = true := by unfold snapB; rw [hn, hsp]
  have hra : recAt x.name t.recs = some x ∨ ∃ y, recAt x.name t.recs = some y := by
    have := isAt_yes hx rfl
    unfold isAt at this
    cases hq : recAt x.name t.recs with
    | none => rw [hq] at this; cases this
    | some y => exact .inr ⟨y, rfl⟩
  obtain ⟨y, hy⟩ : ∃ y, recAt x.name t.recs = some y := by
    rcases hra with h | h
    · exact ⟨x, h⟩
    · exact h
  obtain ⟨k, v, hv, hr, _⟩ := snap_vol h hk hy
  rw [hn, hsp] at hr
  unfold isAt
  rw [hr]
  rfl
theorem join_len (a b : List UInt8) : (joinL a b).1.length ≤ 41 := by
  unfold joinL
  split
  · rename_i h
    obtain ⟨h1, h2⟩ := Bool.and_eq_true_iff.1 h
    have := (part_bd h1).2
    have := (part_bd h2).2
    simp
    omega
  · simp
/-- How a name is changed. -/
theorem ren_ways {t : TC} (h : t.ok = true) {nm tn : List UInt8} (ha : alikeB nm tn = true) {x : RC} (hx : x ∈ t.recs) :
    (x.name = nm ∧ renR nm tn x = { x with name := tn }) ∨ (x.name ≠ nm ∧ ∃ p, partB nm = true ∧ partB tn = true ∧ partB p = true ∧ x.name = nm ++ 64 :: p ∧ renR nm tn x = { x with name := tn ++ 64 :: p }) ∨ (x.name ≠ nm ∧ renR nm tn x = x ∧ ¬ ((splitL x.name).2.2 = true ∧ (splitL x.name).1 = nm)) := by
  by_cases h1 : x.name = nm
  · left
    refine ⟨h1, ?_⟩
    unfold renR
    rw [if_pos (by simpa using h1)]
  right
  have h1' : ¬ ((x.name == nm) = true) := by simpa using h1
  by_cases h2 : (splitL x.name).2.2 = true ∧ (splitL x.name).1 = nm
  · left
    refine ⟨h1, ?_⟩
    obtain ⟨a, b, hs, he, hpa, hpb⟩ := snap_form (s := x.name) h2.1
    rw [hs] at h2
    obtain rfl : a = nm := h2.2
    have hto : partB tn = true := by
      unfold alikeB at ha
      rcases Bool.or_eq_true_iff.1 ha with h3 | h3
      · exact (Bool.and_eq_true_iff.1 h3).2
      · rw [part_split hpa] at h3
        simp at h3
    refine ⟨b, hpa, hto, hpb, he, ?_⟩
    unfold renR
    rw [if_neg h1', hs, if_pos (by simp), join_of hto hpb]
  · right
    refine ⟨h1, ?_, h2⟩
    unfold renR
    rw [if_neg h1', if_neg (by simpa using h2)]
theorem at_no {a b p : List UInt8} (h : partB a = true) : a ≠ b ++ 64 :: p := by
  intro e
  have := part_no h
  rw [e] at this
  simp at this
theorem ren_distinct {t : TC} (h : t.ok = true) {nm tn : List UInt8} (ha : alikeB nm tn = true) (hto : isAt tn t.recs = false) : Distinct (t.recs.map (renR nm tn)) := by
  unfold Distinct
  rw [List.pairwise_map]
  have hd := ok_distinct h
  refine List.Pairwise.imp_of_mem (fun {x y} hx hy hxy => ?_) hd
  have nt := isAt_no hto
  have key : ∀ u ∈ t.recs, ∀ p, partB tn = true → partB p = true → u.name ≠ tn ++ 64 :: p := fun u hu p h1 h2 e => by
    have := snap_has h hu e h1 h2
    rw [hto] at this
    cases this
  rcases ren_ways h ha hx with ⟨e1, r1⟩ | ⟨e1, p, a1, a2, a3, a4, r1⟩ | ⟨e1, r1, _⟩ <;> rcases ren_ways h ha hy with ⟨e2, r2⟩ | ⟨e2, q, b1, b2, b3, b4, r2⟩ | ⟨e2, r2, _⟩ <;> rw [r1, r2]
  · exact absurd (e1.trans e2.symm) hxy
  · exact at_no b2
  · exact fun e => nt y hy e.symm
  · exact fun e => at_no a2 e.symm
  · intro e
    have e' : tn ++ 64 :: p = tn ++ 64 :: q := e
    have : p = q := by simpa using e'
    subst this
    exact hxy (a4.trans b4.symm)
  · exact fun e => key y hy p a2 a3 e.symm
  · exact fun e => nt x hx e
  · exact fun e => key x hx q b2 b3 e
  · exact hxy
end Go.Proofs.YtifajcblbedcoaaGreat
namespace Go.Proofs.YtifajcblbedcoaaGreat
set_option linter.unusedVariables false
set_option linter.unusedSimpArgs false
open Go.RowKit Hp
attribute [local irreducible] Go.Calls Go.wpList
set_option maxRecDepth 100000
set_option maxHeartbeats 8000000
attribute [local go_sem ↓] heldInt heldInts heldRecs heldRec heldStr heldTab heldPtr heldFn
theorem put_name (v : Value × RC) (z : List UInt8) : putAt (cellsR v) 1 [.string ⟨z.toArray⟩] = cellsR (v.1, { v.2 with name := z }) := rfl
def nameX (x : Value × RC) (z : List UInt8) : Value × RC := (x.1, { x.2 with name := z })
def renX (nm tn : List UInt8) (x : Value × RC) : Value × RC := (x.1, renR nm tn x.2)
theorem renR_root (nm tn : List UInt8) (x : RC) : (renR nm tn x).S = x.S ∧ (renR nm tn x).l = x.l := by
  unfold renR
  split
  · exact ⟨rfl, rfl⟩
  · split <;> exact ⟨rfl, rfl⟩
theorem renX_root (nm tn : List UInt8) (x : Value × RC) : rootH (renX nm tn x) = rootH x := by
  unfold rootH renX
  rw [(renR_root nm tn x.2).2]
theorem renR_len {nm tn : List UInt8} (h : tn.length ≤ 1000000) {x : RC} (hx : x.name.length ≤ 1000000) : (renR nm tn x).name.length ≤ 1000000 := by
  unfold renR
  split
  · exact h
  · split
    · have := join_len tn (splitL x.name).2.1
      show (joinL tn (splitL x.name).2.1).1.length ≤ 1000000
      omega
    · exact hx
theorem rowLoad {w0 w : World} {M : List Nat} {L : List HA} {g2 n c j : Nat} {xs : List (Value × RC)} {x : Value × RC} (hst : St w0 M w L) (hm : HA.row (.slice (some ⟨g2, 0, none⟩) n c) 53 44 n (recsV xs) ∈ L) (hn : xs.length = n) (hl : LX xs) (hx : xs[j]? = some x) : Loads Tryz.prog w 53 ⟨g2, 0 + j * 44, none⟩ (.agg (cellsR x).toArray) := by
  have hr := (Rd.row hst hm).range
  have h2 := range_flat (f := cellsR) (sz := 44) (fun d hd => cellsR_len (hl d hd)) hx hr
  exact Loads.range (by rw [cellsR_len (hl x (List.mem_of_getElem? hx))]; exact (inferInstance : TyA Tryz.prog 53 44).out) h2
/-- Where the loop stands: so many records are laid anew. -/
structure RenS (w w1 : World) (g : Nat) (t : TC) (rv lv : Value) (g2 c : Nat) (xs ys : List (Value × RC)) (j : Nat) (nm tn : List UInt8) (R : List HA) : Prop where
  st : St w [] w1 (.blk g 27 (tabC t rv lv) :: .row rv 53 44 j (recsV ys) :: .row (.slice (some ⟨g2, 0, none⟩) xs.length c) 53 44 xs.length (recsV xs) :: .row lv 3 1 t.lives.length (numsV t.lives) :: (xs.map rootH ++ R))
  len : ys.length = j
  eq : ys.map (·.2) = sortL ((t.recs.take j).map (renR nm tn))
  roots : (ys.map rootH).Perm ((xs.take j).map rootH)
  ok : ∀ y ∈ ys, L32 y.2.S ∧ y.2.name.length ≤ 1000000
theorem RenS.own {w w1 : World} {g : Nat} {t : TC} {rv lv : Value} {g2 c : Nat} {xs ys : List (Value × RC)} {j : Nat} {nm tn : List UInt8} {R : List HA} (h : RenS w w1 g t rv lv g2 c xs ys j nm tn R) (a b : HA) : OwnX (a :: b :: (xs.map rootH ++ R)) ys := fun y hy => by
  refine ⟨.tail _ (.tail _ (List.mem_append_left _ ?_)), h.ok y hy⟩
  have h1 : rootH y ∈ ys.map rootH := List.mem_map_of_mem hy
  have h2 := h.roots.subset h1
  rw [List.map_take] at h2
  exact List.mem_of_mem_take h2
theorem RenS.sorted {w w1 : World} {g : Nat} {t : TC} {rv lv : Value} {g2 c : Nat} {xs ys : List (Value × RC)} {j : Nat} {nm tn : List UInt8} {R : List HA} (h : RenS w w1 g t rv lv g2 c xs ys j nm tn R) (hk : t.ok = true) (ha : alikeB nm tn = true) (ht : isAt tn t.recs = false) : Sorted (ys.map (·.2)) := by
  rw [h.eq, sorted_iff]
  refine sortL_sorted ?_
  have := ren_distinct hk ha ht
  unfold Distinct at this ⊢
  rw [List.map_take]
  exact this.sublist (List.take_sublist _ _)
theorem RenS.next {w w1 : World} {g : Nat} {t : TC} {rv lv : Value} {g2 c : Nat} {xs ys : List (Value × RC)} {j : Nat} {nm tn : List UInt8} {R : List HA} {x : Value × RC} (h : RenS w w1 g t rv lv g2 c xs ys j nm tn R) (hok : Okx xs t) (hx : xs[j]? = some x) (htn : tn.length ≤ 1000000) {w2 : World} {rv' : Value}
    (hst : St w [] w2 (.blk g 27 (tabC t rv' lv) :: .row rv' 53 44 (j + 1) (recsV (ys.take (nLess (renX nm tn x).2 (ys.map (·.2))) ++ renX nm tn x :: ys.drop (nLess (renX nm tn x).2 (ys.map (·.2))))) :: .row (.slice (some ⟨g2, 0, none⟩) xs.length c) 53 44 xs.length (recsV xs) :: .row lv 3 1 t.lives.length (numsV t.lives) :: (xs.map rootH ++ R))) :
    RenS w w2 g t rv' lv g2 c xs (ys.take (nLess (renX nm tn x).2 (ys.map (·.2))) ++ renX nm tn x :: ys.drop (nLess (renX nm tn x).2 (ys.map (·.2)))) (j + 1) nm tn R := by
  have hxr : t.recs[j]? = some x.2 := by rw [← hok.eq, List.getElem?_map, hx]; rfl
  refine ⟨hst, ?_, ?_, ?_, ?_⟩
  · have hle := nLess_le (renX nm tn x).2 (ys.map (·.2))
    rw [List.length_map] at hle
    rw [List.length_append, List.length_cons, List.length_take, List.length_drop, ← h.len]
    omega
  · rw [lay_map, h.eq, List.take_add_one, hxr, List.map_append]
    exact (sortL_snoc _ _).symm
  · refine (lay_roots rootH (renX nm tn x) ys _).trans ?_
    rw [renX_root, List.take_add_one, hx, List.map_append]
    exact (List.Perm.cons _ h.roots).trans (List.perm_append_singleton _ _).symm
  · intro y hy
    rcases List.mem_append.1 hy with hy | hy
    · exact h.ok y (List.mem_of_mem_take hy)
    · rcases List.mem_cons.1 hy with rfl | hy
      · have := hok.ok x (List.mem_of_getElem? hx)
        exact ⟨by show L32 (renR nm tn x.2).S; rw [(renR_root nm tn x.2).1]; exact this.1, renR_len htn this.2⟩
      · exact h.ok y (List.mem_of_mem_drop hy)
theorem ren_done {w w1 : World} {g : Nat} {al : Option Addr} {cl : Nat} {t : TC} {rv : Value} {g2 c : Nat} {xs ys : List (Value × RC)} {nm tn : List UInt8} {R : List HA} {r : TR} (h : RenS w w1 g t rv (.slice al t.lives.length cl) g2 c xs ys xs.length nm tn R) (hok : Okx xs t) (hr : r = (0, { t with recs := sortL (t.recs.map (renR nm tn)) })) : DoesPost g al cl w t r R (.returned (.int .i64 0)) w1 := by
  subst hr
  have e : t.recs.take xs.length = t.recs := List.take_of_length_le (by rw [hok.len]; exact Nat.le_refl _)
  refine ⟨rfl, fun _ => ⟨rv, ys, ⟨?_, h.ok⟩, ?_, rfl⟩, fun h0 => by cases h0⟩
  · have := h.eq
    rwa [e] at this
  · have hp := h.roots
    rw [List.take_length] at hp
    unfold TP
    rw [h.len]
    exact St.perm (St.sub h.st (.cons_cons _ (.cons_cons _ (.cons _ (.cons_cons _ (List.Sublist.refl _)))))) (.cons _ (.cons _ (.cons _ (hp.symm.append_right R))))
theorem rename_does {w : World} {g1 gt : Nat} (nm tn : List UInt8) (h1 : w.cell? ⟨g1, 0, none⟩ = some (.string ⟨nm.toArray⟩)) (h2 : w.cell? ⟨gt, 0, none⟩ = some (.string ⟨tn.toArray⟩)) (hl : nm.length ≤ 1000000) (hln : tn.length ≤ 1000000) (t : TC) (hk : t.ok = true) :
    Does 75 #[.pointer (some ⟨g1, 0, none⟩), .pointer (some ⟨gt, 0, none⟩)] w t (renameT t nm tn) := by
  intro g ao c al cl xs R w1 hok hst0
  show Calls _ _ #[.pointer (some ⟨g, 0, none⟩), .pointer (some ⟨g1, 0, none⟩), .pointer (some ⟨gt, 0, none⟩)] _ _
  have hst := hst0
  have H1 := hid h1
  have H2 := hid h2
  have HOK := hid hok
  have HK := hid hk
  have b2 : xs.length ≤ 16 := by rw [hok.len]; exact ok_many hk
  clear hst0 hok hk h1 h2
  obtain ⟨r, hr⟩ : ∃ r, r = renameT t nm tn := ⟨_, rfl⟩
  rw [← hr]
  obtain ⟨e, hal⟩ : ∃ e, alikeB nm tn = e := ⟨_, rfl⟩
  have HAL := hid hal
  have HV := hid (show r = if e then (if isAt nm t.recs then (if isAt tn t.recs then badR 7 else (0, { t with recs := sortL (t.recs.map (renR nm tn)) })) else badR 6) else badR 2 by rw [hr]; unfold renameT; rw [hal])
  clear hr hal
  cases e
  · have HB := hid (show r = badR 2 from HV.out)
    clear HV
    go_enter Tryz.func75, Tryz.ntmps75
    go_wp2_with (first | go_big_skip | go_big_guard | (refine wl_loadE rfl rfl rfl ?_; first | refine ⟨_, Loads.old hst H1.out, ?_⟩ | refine ⟨_, Loads.old hst H2.out, ?_⟩) | (go_at_call 76; refine (alike13_any nm tn _ (by omega) (by omega)).mono ?_; rw [HAL.out]; rintro _ w9 ⟨rfl, h4⟩; replace hst := St.call0 hst h4; clear h4))
    go_ret
    exact does_bad (L := []) HB.out (by decide) hst
  · have HALB : Hid (alikeB nm tn = true) := HAL
    rcases find_split (nm := nm) (l := t.recs) with ⟨hra, hf⟩ | ⟨j, y, hy, hra, hfn, hf, hnm⟩
    · have HF := hid hf
      have hi : isAt nm t.recs = false := by unfold isAt; rw [hra]; rfl
      have HB := hid (show r = badR 6 by rw [HV.out, hi]; rfl)
      clear HV hf hra hi
      go_enter Tryz.func75, Tryz.ntmps75
      go_wp2_with (first | go_big_skip | go_big_guard | (refine wl_loadE rfl rfl rfl ?_; first | refine ⟨_, Loads.old hst H1.out, ?_⟩ | refine ⟨_, Loads.old hst H2.out, ?_⟩) | (go_at_call 76; refine (alike13_any nm tn _ (by omega) (by omega)).mono ?_; rw [HAL.out]; rintro _ w9 ⟨rfl, h4⟩; replace hst := St.call0 hst h4; clear h4))
      have hX := hst.drew
      clear hst
      refine wp_region_held_drew (S := (fun w' => (loadVarH 27 ⟨g, 0, none⟩).run Tryz.prog w' = .ok (.agg (List.toArray ((tabC t (.slice ao xs.length c) (.slice al t.lives.length cl))))) w' ∧ (loadVarH 9 ⟨g1, 0, none⟩).run Tryz.prog w' = .ok (.string ⟨nm.toArray⟩) w')) (by kernel_rfl) (by exact ⟨ldA ((tabC t (.slice ao xs.length c) (.slice al t.lives.length cl))) [] hX (rfl) (rfl), ldO hX (H1.out)⟩) (fun hHeld => ?_)
      refine tq 0 20 ?_
      refine tq 3 23 ?_
      refine tq 1 21 ?_
      refine tq 2 22 ?_
      refine wpAnyH_ready (rs := [4]) (by kernel_rfl) (by simp) ?_
      refine (AllReadyH.cons (o := ⟨some 24, _, _, _, _, _⟩) rfl (fun K hK => ?_) AllReadyH.nil)
      rw [if_pos (by rfl)]
      go_simp
      go_at_call 57
      refine (find_any t _ nm ao xs.length c xs _ (tp_recs [] HOK.out hX) (by omega)).mono ?_
      rw [HOK.out.eq, HF.out]
      rintro _ w5 ⟨rfl, h4⟩
      have hstF := St.call0 hX h4
      clear h4
      refine hK.out _ _ ?_ (fun hHeld => ?_)
      · exact ⟨ldA ((tabC t (.slice ao xs.length c) (.slice al t.lives.length cl))) [] hstF (rfl) (rfl), ldO hstF (H1.out)⟩
      clear hK K
      (try simp only [Act.put, List.setIfInBounds_toArray, List.set_cons_zero, List.set_cons_succ])
      refine tq 5 19 ?_
      refine tq 6 25 ?_
      refine tq 7 26 ?_
      refine tq 8 5 ?_
      refine tq 9 6 ?_
      refine wpAnyH_done (by kernel_rfl) ?_ _
      clear hHeld
      have hst : St w [] _ (TP g t (.slice ao xs.length c) (.slice al t.lives.length cl) xs R) := hstF
      clear hstF
      go_wp2_with (first | go_big_skip | go_big_guard | fail)
      go_ret
      exact does_bad (L := []) HB.out (by decide) hst
    · have HF := hid hf
      have hi : isAt nm t.recs = true := by unfold isAt; rw [hra]; rfl
      have hn0 : 0 < xs.length := by rw [HOK.out.len]; have := (List.getElem?_eq_some_iff.1 hy).1; omega
      obtain ⟨g2, c2, he⟩ := tp_spot [] hst hn0
      cases he
      rcases find_split (nm := tn) (l := t.recs) with ⟨hra2, hf2⟩ | ⟨j2, y2, hy2, hra2, hfn2, hf2, hnm2⟩
      · have HF2 := hid hf2
        have hi2 : isAt tn t.recs = false := by unfold isAt; rw [hra2]; rfl
        have HTN := hid hi2
        have HB := hid (show r = (0, { t with recs := sortL (t.recs.map (renR nm tn)) }) by rw [HV.out, hi, hi2]; rfl)
        clear HV hf hra hi hy hfn hnm hf2 hra2 hi2
        go_enter Tryz.func75, Tryz.ntmps75
        go_wp2_with (first | go_big_skip | go_big_guard | (refine wl_loadE rfl rfl rfl ?_; first | refine ⟨_, Loads.old hst H1.out, ?_⟩ | refine ⟨_, Loads.old hst H2.out, ?_⟩) | (go_at_call 76; refine (alike13_any nm tn _ (by omega) (by omega)).mono ?_; rw [HAL.out]; rintro _ w9 ⟨rfl, h4⟩; replace hst := St.call0 hst h4; clear h4))
        have hX := hst.drew
        clear hst
        refine wp_region_held_drew (S := (fun w' => (loadVarH 27 ⟨g, 0, none⟩).run Tryz.prog w' = .ok (.agg (List.toArray ((tabC t (.slice (some ⟨g2, 0, none⟩) xs.length c) (.slice al t.lives.length cl))))) w' ∧ (loadVarH 9 ⟨g1, 0, none⟩).run Tryz.prog w' = .ok (.string ⟨nm.toArray⟩) w')) (by kernel_rfl) (by exact ⟨ldA ((tabC t (.slice (some ⟨g2, 0, none⟩) xs.length c) (.slice al t.lives.length cl))) [] hX (rfl) (rfl), ldO hX (H1.out)⟩) (fun hHeld => ?_)
        refine tq 0 20 ?_
        refine tq 3 23 ?_
        refine tq 1 21 ?_
        refine tq 2 22 ?_
        refine wpAnyH_ready (rs := [4]) (by kernel_rfl) (by simp) ?_
        refine (AllReadyH.cons (o := ⟨some 24, _, _, _, _, _⟩) rfl (fun K hK => ?_) AllReadyH.nil)
        rw [if_pos (by rfl)]
        go_simp
        go_at_call 57
        refine (find_any t _ nm (some ⟨g2, 0, none⟩) xs.length c xs _ (tp_recs [] HOK.out hX) (by omega)).mono ?_
        rw [HOK.out.eq, HF.out]
        rintro _ w5 ⟨rfl, h4⟩
        have hstF := St.call0 hX h4
        clear h4
        refine hK.out _ _ ?_ (fun hHeld => ?_)
        · exact ⟨ldA ((tabC t (.slice (some ⟨g2, 0, none⟩) xs.length c) (.slice al t.lives.length cl))) [] hstF (rfl) (rfl), ldO hstF (H1.out)⟩
        clear hK K
        (try simp only [Act.put, List.setIfInBounds_toArray, List.set_cons_zero, List.set_cons_succ])
        refine tq 5 19 ?_
        refine tq 6 25 ?_
        refine tq 7 26 ?_
        refine tq 8 5 ?_
        refine tq 9 6 ?_
        refine wpAnyH_done (by kernel_rfl) ?_ _
        clear hHeld
        have hst : St w [] _ (TP g t (.slice (some ⟨g2, 0, none⟩) xs.length c) (.slice al t.lives.length cl) xs R) := hstF
        clear hstF
        go_wp2_with (first | go_big_skip | go_big_guard | fail)
        have hZ := hst.drew
        clear hst
        refine wp_region_held_drew (S := (fun w' => (loadVarH 27 ⟨g, 0, none⟩).run Tryz.prog w' = .ok (.agg (List.toArray ((tabC t (.slice (some ⟨g2, 0, none⟩) xs.length c) (.slice al t.lives.length cl))))) w' ∧ (loadVarH 9 ⟨gt, 0, none⟩).run Tryz.prog w' = .ok (.string ⟨tn.toArray⟩) w')) (by kernel_rfl) (by exact ⟨ldA ((tabC t (.slice (some ⟨g2, 0, none⟩) xs.length c) (.slice al t.lives.length cl))) [] hZ (rfl) (rfl), ldO hZ (H2.out)⟩) (fun hHeld => ?_)
        refine tq 0 30 ?_
        refine tq 3 33 ?_
        refine tq 1 31 ?_
        refine tq 2 32 ?_
        refine wpAnyH_ready (rs := [4]) (by kernel_rfl) (by simp) ?_
        refine (AllReadyH.cons (o := ⟨some 34, _, _, _, _, _⟩) rfl (fun K hK => ?_) AllReadyH.nil)
        rw [if_pos (by rfl)]
        go_simp
        go_at_call 57
        refine (find_any t _ tn (some ⟨g2, 0, none⟩) xs.length c xs _ (tp_recs [] HOK.out hZ) (by omega)).mono ?_
        rw [HOK.out.eq, HF2.out]
        rintro _ w5 ⟨rfl, h4⟩
        have hstG := St.call0 hZ h4
        clear h4
        refine hK.out _ _ ?_ (fun hHeld => ?_)
        · exact ⟨ldA ((tabC t (.slice (some ⟨g2, 0, none⟩) xs.length c) (.slice al t.lives.length cl))) [] hstG (rfl) (rfl), ldO hstG (H2.out)⟩
        clear hK K
        (try simp only [Act.put, List.setIfInBounds_toArray, List.set_cons_zero, List.set_cons_succ])
        refine tq 5 29 ?_
        refine tq 6 35 ?_
        refine tq 7 36 ?_
        refine tq 8 7 ?_
        refine tq 9 8 ?_
        refine wpAnyH_done (by kernel_rfl) ?_ _
        clear hHeld
        have hst : St w [] _ (TP g t (.slice (some ⟨g2, 0, none⟩) xs.length c) (.slice al t.lives.length cl) xs R) := hstG
        clear hstG
        go_wp2_with (first | go_big_skip | go_big_guard | (refine wl_loadE rfl rfl rfl ?_; first | refine ⟨_, Loads.at [] hst rfl, ?_⟩) | (refine wl_store [] hst rfl rfl rfl (off := 1) (v := .slice none 0 0) rfl rfl rfl (by show (1 : Nat) + 1 ≤ 7; decide) ?_; intro w7 h4; have h5 := St.nilR 53 44 h4; have hstS : St w [] w7 (.blk g 27 (tabC t (.slice none 0 0) (.slice al t.lives.length cl)) :: .row (.slice none 0 0) 53 44 0 (recsV []) :: .row (.slice (some ⟨g2, 0, none⟩) xs.length c) 53 44 xs.length (recsV xs) :: .row (.slice al t.lives.length cl) 3 1 t.lives.length (numsV t.lives) :: (xs.map rootH ++ R)) := St.perm h5 (.swap _ _ _); clear h4 h5 hst))
        go_loopw [47] (fun i wr => ∃ (j : Nat) (rv : Value) (ys : List (Value × RC)), j ≤ xs.length ∧ i = .int .i64 (j : Int) ∧ RenS w wr g t rv (.slice al t.lives.length cl) g2 c xs ys j nm tn R) (fun i _ => xs.length - (intOf i).toNat)
        case atStart =>
          refine ⟨0, .slice none 0 0, [], Nat.zero_le _, rfl, ⟨?_, rfl, rfl, List.Perm.refl _, fun _ h => by cases h⟩⟩
          exact hstS
        case round =>
          clear hstS
          obtain ⟨j, rv, ys, hj, rfl, hS⟩ := hrel
          obtain ⟨ar, cr, rfl, _, _⟩ := rowS [_] hS.st
          have HS := hid hS
          clear hS
          by_cases hlt : j < xs.length
          · have e1 : decide ((j : Int) < (xs.length : Int)) = true := decide_eq_true (by omega)
            have z1 : IntKind.i64.wrap ((j : Int) + 1) = (j : Int) + 1 := IntWalk.i64_in _ (by omega)
            obtain ⟨x, hx⟩ : ∃ x, xs[j]? = some x := ⟨_, List.getElem?_eq_getElem hlt⟩
            have hxm := List.mem_of_getElem? hx
            have hxt : x.2 ∈ t.recs := by rw [← HOK.out.eq]; exact List.mem_map_of_mem hxm
            have HX := hid hx
            have HLX := hid (cellsR_len (HOK.out.ok x hxm).1)
            have HON := hid (cellsR_ones (OwnR.In (L := xs.map rootH ++ R) ⟨List.mem_append_left _ (List.mem_map_of_mem hxm), HOK.out.ok x hxm⟩ (St.sub HS.out.st (.cons _ (.cons _ (.cons _ (.cons _ (List.Sublist.refl _))))))))
            have hnl : x.2.name.length ≤ 1000000 := (HOK.out.ok x hxm).2
            have HNL := hid (show x.2.name.length ≤ 9223372036854775807 by omega)
            have HOR : Hid (OwnR (.row (.slice (some ⟨g2, 0, none⟩) xs.length c) 53 44 xs.length (recsV xs) :: .row (.slice al t.lives.length cl) 3 1 t.lives.length (numsV t.lives) :: (xs.map rootH ++ R)) (renX nm tn x)) := hid ⟨.tail _ (.tail _ (List.mem_append_left _ (by rw [renX_root]; exact List.mem_map_of_mem hxm))), by show L32 (renR nm tn x.2).S; rw [(renR_root nm tn x.2).1]; exact (HOK.out.ok x hxm).1, renR_len hln hnl⟩
            have HLY := hid (HOR.out.L)
            obtain ⟨⟨v, u, f⟩, hsp⟩ : ∃ p, splitL x.2.name = p := ⟨_, rfl⟩
            have HSP := hid hsp
            have HUL := hid (show u.length ≤ 9223372036854775807 by have := (split_in x.2.name hnl).2; rw [hsp] at this; have h2 : u.length ≤ 1000000 := this; omega)
            cases d1 : (x.2.name == nm)
            · cases d2 : (f && (v == nm))
              · have HRN := hid (show renX nm tn x = x by unfold renX renR; rw [if_neg (by rw [d1]; decide), hsp, if_neg (by rw [d2]; decide)])
                cases f
                · clear hx hxm hxt hsp d2 hnl
                  
                  go_wp2_with (first | go_big_skip | go_big_guard | (refine wl_index rfl rfl rfl rfl hlt ?_) | (refine wl_loadE rfl rfl rfl ?_; first | refine ⟨_, rowLoad HS.out.st (.tail _ (.tail _ (.head _))) rfl HOK.out.LX HX.out, ?_⟩ | refine ⟨.string ⟨x.2.name.toArray⟩, Loads.at [] hst3 rfl, ?_⟩ | refine ⟨_, Loads.old hst3 H1.out, ?_⟩ | refine ⟨_, Loads.old hst3 H2.out, ?_⟩ | refine ⟨_, (show Loads _ _ _ _ (.agg (cellsR (renX nm tn x)).toArray) from by rw [HRN.out]; exact Loads.atA (cellsR x) [] hst3 HLX.out (cellsR_all x)), ?_⟩) | (refine wl_alloc HS.out.st rfl rfl ?_; intro g9 w3 hst2) | (refine wl_storeA [] hst2 rfl rfl rfl rfl (by exact HLX.out) HON.out rfl ?_; intro w4 hst3; clear hst2) | (go_at_call 68; refine (split_any x.2.name _ HNL.out).mono ?_; rw [HSP.out]; rintro _ w9 ⟨rfl, h4⟩; replace hst3 := St.call0 hst3 h4; clear h4) | (go_at_call 77; refine (join_any tn u _ (by omega) HUL.out).mono ?_; rintro _ w9 ⟨rfl, h4⟩; replace hst3 := St.call0 hst3 h4; clear h4) | (go_at_call 78; refine (lay_any g t ar j cr (.slice al t.lives.length cl) ys (renX nm tn x) (St.sub hst3 (.cons _ (List.Sublist.refl _))) (HS.out.own _ _) HOR.out HS.out.len (HS.out.sorted HK.out HALB.out HTN.out) (by omega)).mono ?_; rintro _ w9 ⟨rv9, rfl, h4⟩; have hst5 := HS.out.next HOK.out HX.out hln h4; clear h4 hst3))
                  go_roundw
                  case rel => exact ⟨j + 1, rv9, _, by omega, rfl, hst5⟩
                  case measure => simp [intOf]; omega
                · have d3 : (v == nm) = false := by simpa using d2
                  clear hx hxm hxt hsp d2 hnl
                  
                  go_wp2_with (first | go_big_skip | go_big_guard | (refine wl_index rfl rfl rfl rfl hlt ?_) | (refine wl_loadE rfl rfl rfl ?_; first | refine ⟨_, rowLoad HS.out.st (.tail _ (.tail _ (.head _))) rfl HOK.out.LX HX.out, ?_⟩ | refine ⟨.string ⟨x.2.name.toArray⟩, Loads.at [] hst3 rfl, ?_⟩ | refine ⟨_, Loads.old hst3 H1.out, ?_⟩ | refine ⟨_, Loads.old hst3 H2.out, ?_⟩ | refine ⟨_, (show Loads _ _ _ _ (.agg (cellsR (renX nm tn x)).toArray) from by rw [HRN.out]; exact Loads.atA (cellsR x) [] hst3 HLX.out (cellsR_all x)), ?_⟩) | (refine wl_alloc HS.out.st rfl rfl ?_; intro g9 w3 hst2) | (refine wl_storeA [] hst2 rfl rfl rfl rfl (by exact HLX.out) HON.out rfl ?_; intro w4 hst3; clear hst2) | (go_at_call 68; refine (split_any x.2.name _ HNL.out).mono ?_; rw [HSP.out]; rintro _ w9 ⟨rfl, h4⟩; replace hst3 := St.call0 hst3 h4; clear h4) | (go_at_call 77; refine (join_any tn u _ (by omega) HUL.out).mono ?_; rintro _ w9 ⟨rfl, h4⟩; replace hst3 := St.call0 hst3 h4; clear h4) | (go_at_call 78; refine (lay_any g t ar j cr (.slice al t.lives.length cl) ys (renX nm tn x) (St.sub hst3 (.cons _ (List.Sublist.refl _))) (HS.out.own _ _) HOR.out HS.out.len (HS.out.sorted HK.out HALB.out HTN.out) (by omega)).mono ?_; rintro _ w9 ⟨rv9, rfl, h4⟩; have hst5 := HS.out.next HOK.out HX.out hln h4; clear h4 hst3))
                  go_roundw
                  case rel => exact ⟨j + 1, rv9, _, by omega, rfl, hst5⟩
                  case measure => simp [intOf]; omega
              · have h3 : f = true ∧ (v == nm) = true := by revert d2; cases f <;> cases (v == nm) <;> decide
                obtain ⟨rfl, d3⟩ := h3
                have HRN := hid (show renX nm tn x = nameX x (joinL tn u).1 by unfold renX renR; rw [if_neg (by rw [d1]; decide), hsp, if_pos (by rw [d3]; rfl)]; rfl)
                clear hx hxm hxt hsp d2 hnl
                
                go_wp2_with (first | go_big_skip | go_big_guard | (refine wl_index rfl rfl rfl rfl hlt ?_) | (refine wl_loadE rfl rfl rfl ?_; first | refine ⟨_, rowLoad HS.out.st (.tail _ (.tail _ (.head _))) rfl HOK.out.LX HX.out, ?_⟩ | refine ⟨.string ⟨x.2.name.toArray⟩, Loads.at [] hst3 rfl, ?_⟩ | refine ⟨_, Loads.old hst3 H1.out, ?_⟩ | refine ⟨_, Loads.old hst3 H2.out, ?_⟩ | refine ⟨_, Loads.atA (cellsR (renX nm tn x)) [] hst4 HLY.out (cellsR_all _), ?_⟩) | (refine wl_alloc HS.out.st rfl rfl ?_; intro g9 w3 hst2) | (refine wl_storeA [] hst2 rfl rfl rfl rfl (by exact HLX.out) HON.out rfl ?_; intro w4 hst3; clear hst2) | (go_at_call 68; refine (split_any x.2.name _ HNL.out).mono ?_; rw [HSP.out]; rintro _ w9 ⟨rfl, h4⟩; replace hst3 := St.call0 hst3 h4; clear h4) | (go_at_call 77; refine (join_any tn u _ (by omega) HUL.out).mono ?_; rintro _ w9 ⟨rfl, h4⟩; replace hst3 := St.call0 hst3 h4; clear h4) | (refine wl_store [] hst3 rfl rfl rfl (off := 1) (v := .string ⟨(joinL tn u).1.toArray⟩) rfl rfl rfl (by rw [HLX.out]; show (1 : Nat) + 1 ≤ 44; decide) ?_; intro w7 h4; have hst4 : St w [] w7 (.blk g9 53 (cellsR (renX nm tn x)) :: .blk g 27 (tabC t (.slice ar j cr) (.slice al t.lives.length cl)) :: .row (.slice ar j cr) 53 44 j (recsV ys) :: .row (.slice (some ⟨g2, 0, none⟩) xs.length c) 53 44 xs.length (recsV xs) :: .row (.slice al t.lives.length cl) 3 1 t.lives.length (numsV t.lives) :: (xs.map rootH ++ R)) := (by have e : cellsR (renX nm tn x) = cellsR (nameX x (joinL tn u).1) := (by rw [HRN.out]); rw [e]; exact h4); clear h4 hst3) | (go_at_call 78; refine (lay_any g t ar j cr (.slice al t.lives.length cl) ys (renX nm tn x) (St.sub hst4 (.cons _ (List.Sublist.refl _))) (HS.out.own _ _) HOR.out HS.out.len (HS.out.sorted HK.out HALB.out HTN.out) (by omega)).mono ?_; rintro _ w9 ⟨rv9, rfl, h4⟩; have hst5 := HS.out.next HOK.out HX.out hln h4; clear h4 hst4))
                go_roundw
                case rel => exact ⟨j + 1, rv9, _, by omega, rfl, hst5⟩
                case measure => simp [intOf]; omega
            · have HRN := hid (show renX nm tn x = nameX x tn by unfold renX renR; rw [if_pos d1]; rfl)
              clear hx hxm hxt hsp hnl
              
              go_wp2_with (first | go_big_skip | go_big_guard | (refine wl_index rfl rfl rfl rfl hlt ?_) | (refine wl_loadE rfl rfl rfl ?_; first | refine ⟨_, rowLoad HS.out.st (.tail _ (.tail _ (.head _))) rfl HOK.out.LX HX.out, ?_⟩ | refine ⟨.string ⟨x.2.name.toArray⟩, Loads.at [] hst3 rfl, ?_⟩ | refine ⟨_, Loads.old hst3 H1.out, ?_⟩ | refine ⟨_, Loads.old hst3 H2.out, ?_⟩ | refine ⟨_, Loads.atA (cellsR (renX nm tn x)) [] hst4 HLY.out (cellsR_all _), ?_⟩) | (refine wl_alloc HS.out.st rfl rfl ?_; intro g9 w3 hst2) | (refine wl_storeA [] hst2 rfl rfl rfl rfl (by exact HLX.out) HON.out rfl ?_; intro w4 hst3; clear hst2) | (go_at_call 68; refine (split_any x.2.name _ HNL.out).mono ?_; rw [HSP.out]; rintro _ w9 ⟨rfl, h4⟩; replace hst3 := St.call0 hst3 h4; clear h4) | (go_at_call 77; refine (join_any tn u _ (by omega) HUL.out).mono ?_; rintro _ w9 ⟨rfl, h4⟩; replace hst3 := St.call0 hst3 h4; clear h4) | (refine wl_store [] hst3 rfl rfl rfl (off := 1) (v := .string ⟨tn.toArray⟩) rfl rfl rfl (by rw [HLX.out]; show (1 : Nat) + 1 ≤ 44; decide) ?_; intro w7 h4; have hst4 : St w [] w7 (.blk g9 53 (cellsR (renX nm tn x)) :: .blk g 27 (tabC t (.slice ar j cr) (.slice al t.lives.length cl)) :: .row (.slice ar j cr) 53 44 j (recsV ys) :: .row (.slice (some ⟨g2, 0, none⟩) xs.length c) 53 44 xs.length (recsV xs) :: .row (.slice al t.lives.length cl) 3 1 t.lives.length (numsV t.lives) :: (xs.map rootH ++ R)) := (by have e : cellsR (renX nm tn x) = cellsR (nameX x tn) := (by rw [HRN.out]); rw [e]; exact h4); clear h4 hst3) | (go_at_call 78; refine (lay_any g t ar j cr (.slice al t.lives.length cl) ys (renX nm tn x) (St.sub hst4 (.cons _ (List.Sublist.refl _))) (HS.out.own _ _) HOR.out HS.out.len (HS.out.sorted HK.out HALB.out HTN.out) (by omega)).mono ?_; rintro _ w9 ⟨rv9, rfl, h4⟩; have hst5 := HS.out.next HOK.out HX.out hln h4; clear h4 hst4))
              go_roundw
              case rel => exact ⟨j + 1, rv9, _, by omega, rfl, hst5⟩
              case measure => simp [intOf]; omega
          · have e1 : decide ((j : Int) < (xs.length : Int)) = false := decide_eq_false (by omega)
            obtain rfl : j = xs.length := by omega
            go_wp2_with (first | go_big_skip | go_big_guard | fail)
            go_ret
            exact ren_done HS.out HOK.out HB.out
      · have HF2 := hid hf2
        have hi2 : isAt tn t.recs = true := by unfold isAt; rw [hra2]; rfl
        have HB := hid (show r = badR 7 by rw [HV.out, hi, hi2]; rfl)
        clear HV hf hra hi hy hfn hnm hf2 hra2 hi2 hy2 hfn2 hnm2
        go_enter Tryz.func75, Tryz.ntmps75
        go_wp2_with (first | go_big_skip | go_big_guard | (refine wl_loadE rfl rfl rfl ?_; first | refine ⟨_, Loads.old hst H1.out, ?_⟩ | refine ⟨_, Loads.old hst H2.out, ?_⟩) | (go_at_call 76; refine (alike13_any nm tn _ (by omega) (by omega)).mono ?_; rw [HAL.out]; rintro _ w9 ⟨rfl, h4⟩; replace hst := St.call0 hst h4; clear h4))
        have hX := hst.drew
        clear hst
        refine wp_region_held_drew (S := (fun w' => (loadVarH 27 ⟨g, 0, none⟩).run Tryz.prog w' = .ok (.agg (List.toArray ((tabC t (.slice (some ⟨g2, 0, none⟩) xs.length c) (.slice al t.lives.length cl))))) w' ∧ (loadVarH 9 ⟨g1, 0, none⟩).run Tryz.prog w' = .ok (.string ⟨nm.toArray⟩) w')) (by kernel_rfl) (by exact ⟨ldA ((tabC t (.slice (some ⟨g2, 0, none⟩) xs.length c) (.slice al t.lives.length cl))) [] hX (rfl) (rfl), ldO hX (H1.out)⟩) (fun hHeld => ?_)
        refine tq 0 20 ?_
        refine tq 3 23 ?_
        refine tq 1 21 ?_
        refine tq 2 22 ?_
        refine wpAnyH_ready (rs := [4]) (by kernel_rfl) (by simp) ?_
        refine (AllReadyH.cons (o := ⟨some 24, _, _, _, _, _⟩) rfl (fun K hK => ?_) AllReadyH.nil)
        rw [if_pos (by rfl)]
        go_simp
        go_at_call 57
        refine (find_any t _ nm (some ⟨g2, 0, none⟩) xs.length c xs _ (tp_recs [] HOK.out hX) (by omega)).mono ?_
        rw [HOK.out.eq, HF.out]
        rintro _ w5 ⟨rfl, h4⟩
        have hstF := St.call0 hX h4
        clear h4
        refine hK.out _ _ ?_ (fun hHeld => ?_)
        · exact ⟨ldA ((tabC t (.slice (some ⟨g2, 0, none⟩) xs.length c) (.slice al t.lives.length cl))) [] hstF (rfl) (rfl), ldO hstF (H1.out)⟩
        clear hK K
        (try simp only [Act.put, List.setIfInBounds_toArray, List.set_cons_zero, List.set_cons_succ])
        refine tq 5 19 ?_
        refine tq 6 25 ?_
        refine tq 7 26 ?_
        refine tq 8 5 ?_
        refine tq 9 6 ?_
        refine wpAnyH_done (by kernel_rfl) ?_ _
        clear hHeld
        have hst : St w [] _ (TP g t (.slice (some ⟨g2, 0, none⟩) xs.length c) (.slice al t.lives.length cl) xs R) := hstF
        clear hstF
        go_wp2_with (first | go_big_skip | go_big_guard | fail)
        have hZ := hst.drew
        clear hst
        refine wp_region_held_drew (S := (fun w' => (loadVarH 27 ⟨g, 0, none⟩).run Tryz.prog w' = .ok (.agg (List.toArray ((tabC t (.slice (some ⟨g2, 0, none⟩) xs.length c) (.slice al t.lives.length cl))))) w' ∧ (loadVarH 9 ⟨gt, 0, none⟩).run Tryz.prog w' = .ok (.string ⟨tn.toArray⟩) w')) (by kernel_rfl) (by exact ⟨ldA ((tabC t (.slice (some ⟨g2, 0, none⟩) xs.length c) (.slice al t.lives.length cl))) [] hZ (rfl) (rfl), ldO hZ (H2.out)⟩) (fun hHeld => ?_)
        refine tq 0 30 ?_
        refine tq 3 33 ?_
        refine tq 1 31 ?_
        refine tq 2 32 ?_
        refine wpAnyH_ready (rs := [4]) (by kernel_rfl) (by simp) ?_
        refine (AllReadyH.cons (o := ⟨some 34, _, _, _, _, _⟩) rfl (fun K hK => ?_) AllReadyH.nil)
        rw [if_pos (by rfl)]
        go_simp
        go_at_call 57
        refine (find_any t _ tn (some ⟨g2, 0, none⟩) xs.length c xs _ (tp_recs [] HOK.out hZ) (by omega)).mono ?_
        rw [HOK.out.eq, HF2.out]
        rintro _ w5 ⟨rfl, h4⟩
        have hstG := St.call0 hZ h4
        clear h4
        refine hK.out _ _ ?_ (fun hHeld => ?_)
        · exact ⟨ldA ((tabC t (.slice (some ⟨g2, 0, none⟩) xs.length c) (.slice al t.lives.length cl))) [] hstG (rfl) (rfl), ldO hstG (H2.out)⟩
        clear hK K
        (try simp only [Act.put, List.setIfInBounds_toArray, List.set_cons_zero, List.set_cons_succ])
        refine tq 5 29 ?_
        refine tq 6 35 ?_
        refine tq 7 36 ?_
        refine tq 8 7 ?_
        refine tq 9 8 ?_
        refine wpAnyH_done (by kernel_rfl) ?_ _
        clear hHeld
        have hst : St w [] _ (TP g t (.slice (some ⟨g2, 0, none⟩) xs.length c) (.slice al t.lives.length cl) xs R) := hstG
        clear hstG
        go_wp2_with (first | go_big_skip | go_big_guard | fail)
        go_ret
        exact does_bad (L := []) HB.out (by decide) hst
end Go.Proofs.YtifajcblbedcoaaGreat
namespace Go.Proofs.YtifajcblbedcoaaGreat
set_option linter.unusedVariables false
set_option linter.unusedSimpArgs false
open Go.RowKit Hp
attribute [local irreducible] Go.Calls Go.wpList
set_option maxRecDepth 100000
set_option maxHeartbeats 8000000
attribute [local go_sem ↓] heldInt heldInts heldRecs heldRec heldStr heldTab heldPtr heldFn
theorem rename13_any (t : TC) (ar al : Option Addr) (nr cr nl cl : Nat) (xs : List (Value × RC)) (w : World) (ht : TabIn w t ar nr cr al nl cl xs) (nm : List UInt8) (tn : List UInt8) (hnm : nm.length ≤ 1000000) (htn : tn.length ≤ 1000000) :
    Calls Tryz.prog 29 #[.agg (tabC t (.slice ar nr cr) (.slice al nl cl)).toArray, .string ⟨nm.toArray⟩, .string ⟨tn.toArray⟩] w (TabRet (opR t (renameT t nm tn)) w) := by
  have hst0 := St.refl w
  have HT := hid ht
  clear ht
  obtain ⟨r, hr⟩ : ∃ r, r = opR t (renameT t nm tn) := ⟨_, rfl⟩
  rw [← hr]
  have HR := hid hr
  clear hr
  go_enter Tryz.func29, Tryz.ntmps29
  go_wp2_with (first | go_big_skip | go_big_guard | (refine wl_boxA hst0 rfl rfl rfl ?_; intro g4 w1 hA0; clear hst0) | (refine wl_box hA0 rfl rfl rfl ?_; intro g5 _ hA1; clear hA0) | (refine wl_box hA1 rfl rfl rfl ?_; intro g6 _ hA2; clear hA1) | (refine wl_alloc hA2 rfl rfl ?_; intro gz _ hst; clear hA2) | (refine wl_loadE rfl rfl rfl ?_; refine ⟨_, Loads.atA (tabC t (.slice ar nr cr) (.slice al nl cl)) [_, _, _] hst rfl rfl, ?_⟩) | (go_at_call 54; refine (owned_any 75 #[.pointer (some ⟨g5, 0, none⟩), .pointer (some ⟨g6, 0, none⟩)] (fun _ _ => rfl) t ar al nr cr nl cl xs _ (HT.out.old hst.nil) (renameT t nm tn) (fun hk => rename_does nm tn (hst.cell (g := g5) (off := 0) (.tail _ (.tail _ (.head _))) rfl) (hst.cell (g := g6) (off := 0) (.tail _ (.head _)) rfl) hnm htn t hk)).mono ?_; rw [← HR.out]; rintro _ w9 ⟨rv9, lv9, xs9, rfl, hok9, h4⟩; have hst2 := St.call hst h4; clear h4 hst; obtain ⟨a9, c9, rfl, _, _⟩ := rowS [] hst2; obtain ⟨a8, c8, rfl, _, _⟩ := rowS [_] hst2; have HOK := hid hok9; clear hok9) | (refine wl_storeA (_ :: _ :: List.map rootH xs9) hst2 rfl rfl rfl rfl (vs := tabC r.2 (.slice a9 xs9.length c9) (.slice a8 r.2.lives.length c8)) rfl rfl rfl ?_; intro w7 hst3; clear hst2))
  have hl := Loads.atA (P := Tryz.prog) (off := 0) (T := 27) (tabC r.2 (.slice a9 xs9.length c9) (.slice a8 r.2.lives.length c8)) (_ :: _ :: List.map rootH xs9) hst3 rfl rfl
  refine bodyPost_ret (results_cellR rfl rfl rfl hl) rfl ?_
  exact ⟨_, _, xs9, rfl, HOK.out, St.sub hst3 (.cons_cons _ (.cons_cons _ (List.sublist_append_left _ _)))⟩
end Go.Proofs.YtifajcblbedcoaaGreat
namespace Go.Proofs.YtifajcblbedcoaaGreat
set_option linter.unusedVariables false
set_option linter.unusedSimpArgs false
open Go.RowKit Hp
attribute [local irreducible] Go.Calls Go.wpList
set_option maxRecDepth 100000
set_option maxHeartbeats 8000000
attribute [local go_sem ↓] heldInt heldInts heldRecs heldRec heldStr heldTab heldPtr heldFn
/-- A call on a table, as plain data. -/
structure AD where
  (kind n txg : Int)
  nm : List UInt8
  tn : List UInt8
  p : PV
def AD.cells (x : AD) : List Value := .int .i64 x.kind :: .string ⟨x.nm.toArray⟩ :: .string ⟨x.tn.toArray⟩ :: .int .i64 x.n :: .int .i64 x.txg :: x.p.cells
/-- No more than is gone through. -/
structure AD.Few (x : AD) (w : World) : Prop where
  nm : x.nm.length ≤ 1000000
  tn : x.tn.length ≤ 1000000
  p : x.p.In w
  l : x.p.l.length ≤ 100000
def doR (t : TC) (x : AD) : TR :=
  if x.kind = 0 then opR t (makeR t x.nm x.n x.txg) else if x.kind = 1 then opR t (snapT t x.nm x.txg) else if x.kind = 2 then opR t (cloneT t x.nm x.tn x.txg) else if x.kind = 3 then opR t (rollT t x.nm)
  else if x.kind = 4 then opR t (dropT t x.nm) else if x.kind = 5 then opR t (renameT t x.nm x.tn) else if x.kind = 6 then opR t (resizeT t x.nm x.n) else if x.kind = 7 then opR t (limitT t x.nm x.n x.txg) else if x.kind = 8 then opR t (rootT t x.nm x.p) else (0, t)
def AD.idle (x : AD) : Bool := decide (x.kind < 0) || decide (8 < x.kind)
theorem does_all (t : TC) (ar al : Option Addr) (nr cr nl cl : Nat) (xs : List (Value × RC)) (w : World) (ht : TabIn w t ar nr cr al nl cl xs) (x : AD) (hx : x.Few w) (hk : x.kind = 0 ∨ x.kind = 1 ∨ x.kind = 2 ∨ x.kind = 3 ∨ x.kind = 4 ∨ x.kind = 5 ∨ x.kind = 6 ∨ x.kind = 7 ∨ x.kind = 8) :
    Calls Tryz.prog 11 #[.agg (tabC t (.slice ar nr cr) (.slice al nl cl)).toArray, .agg x.cells.toArray] w (TabRet (doR t x) w) := by
  have hst0 := St.refl w
  have HT := hid ht
  have HX := hid hx
  have H35 := hid (PV.len hx.p.1)
  clear ht hx
  obtain ⟨r, hr⟩ : ∃ r, r = doR t x := ⟨_, rfl⟩
  rw [← hr]
  obtain ⟨k, z, txg, nm, tn, p⟩ := x
  simp only at hk
  rcases hk with rfl | rfl | rfl | rfl | rfl | rfl | rfl | rfl | rfl
  all_goals
    have HR := hid hr
    clear hr
    go_enter Tryz.func11, Tryz.ntmps11
    go_wp2_with (first | go_big_skip | go_big_guard | (refine wl_boxA hst0 rfl rfl rfl ?_; intro g2 w1 hA0; clear hst0) | (refine wl_boxA hA0 rfl rfl rfl ?_; intro g3 w2 hA1; clear hA0) | (refine wl_alloc hA1 rfl rfl ?_; intro g4 w3 hst; clear hA1) | (refine wl_loadE rfl rfl rfl ?_; first | refine ⟨_, Loads.atA p.cells [_] hst H35.out (by show List.take p.cells.length p.cells = p.cells; exact List.take_length), ?_⟩ | refine ⟨_, Loads.atA (tabC t (.slice ar nr cr) (.slice al nl cl)) [_, _] hst rfl rfl, ?_⟩ | refine ⟨_, Loads.at [_] hst rfl, ?_⟩) | (go_at_call 25; refine (make13_any t ar al nr cr nl cl xs _ (HT.out.old hst.nil) nm z txg HX.out.nm).mono ?_; rw [show opR t (makeR t nm z txg) = r from HR.out.symm]; rintro _ w9 ⟨rv9, lv9, xs9, rfl, hok9, h4⟩; have hst2 := St.call hst h4; clear h4 hst; obtain ⟨a9, c9, rfl, _, _⟩ := rowS [] hst2; obtain ⟨a8, c8, rfl, _, _⟩ := rowS [_] hst2; have HOK := hid hok9; clear hok9) | (go_at_call 26; refine (snap13_any t ar al nr cr nl cl xs _ (HT.out.old hst.nil) nm txg HX.out.nm).mono ?_; rw [show opR t (snapT t nm txg) = r from HR.out.symm]; rintro _ w9 ⟨rv9, lv9, xs9, rfl, hok9, h4⟩; have hst2 := St.call hst h4; clear h4 hst; obtain ⟨a9, c9, rfl, _, _⟩ := rowS [] hst2; obtain ⟨a8, c8, rfl, _, _⟩ := rowS [_] hst2; have HOK := hid hok9; clear hok9) | (go_at_call 27; refine (clone13_any t ar al nr cr nl cl xs _ (HT.out.old hst.nil) nm tn txg HX.out.nm HX.out.tn).mono ?_; rw [show opR t (cloneT t nm tn txg) = r from HR.out.symm]; rintro _ w9 ⟨rv9, lv9, xs9, rfl, hok9, h4⟩; have hst2 := St.call hst h4; clear h4 hst; obtain ⟨a9, c9, rfl, _, _⟩ := rowS [] hst2; obtain ⟨a8, c8, rfl, _, _⟩ := rowS [_] hst2; have HOK := hid hok9; clear hok9) | (go_at_call 28; refine (roll13_any t ar al nr cr nl cl xs _ (HT.out.old hst.nil) nm HX.out.nm).mono ?_; rw [show opR t (rollT t nm) = r from HR.out.symm]; rintro _ w9 ⟨rv9, lv9, xs9, rfl, hok9, h4⟩; have hst2 := St.call hst h4; clear h4 hst; obtain ⟨a9, c9, rfl, _, _⟩ := rowS [] hst2; obtain ⟨a8, c8, rfl, _, _⟩ := rowS [_] hst2; have HOK := hid hok9; clear hok9) | (go_at_call 23; refine (drop13_any t ar al nr cr nl cl xs _ (HT.out.old hst.nil) nm HX.out.nm).mono ?_; rw [show opR t (dropT t nm) = r from HR.out.symm]; rintro _ w9 ⟨rv9, lv9, xs9, rfl, hok9, h4⟩; have hst2 := St.call hst h4; clear h4 hst; obtain ⟨a9, c9, rfl, _, _⟩ := rowS [] hst2; obtain ⟨a8, c8, rfl, _, _⟩ := rowS [_] hst2; have HOK := hid hok9; clear hok9) | (go_at_call 29; refine (rename13_any t ar al nr cr nl cl xs _ (HT.out.old hst.nil) nm tn HX.out.nm HX.out.tn).mono ?_; rw [show opR t (renameT t nm tn) = r from HR.out.symm]; rintro _ w9 ⟨rv9, lv9, xs9, rfl, hok9, h4⟩; have hst2 := St.call hst h4; clear h4 hst; obtain ⟨a9, c9, rfl, _, _⟩ := rowS [] hst2; obtain ⟨a8, c8, rfl, _, _⟩ := rowS [_] hst2; have HOK := hid hok9; clear hok9) | (go_at_call 30; refine (resize13_any t ar al nr cr nl cl xs _ (HT.out.old hst.nil) nm z HX.out.nm).mono ?_; rw [show opR t (resizeT t nm z) = r from HR.out.symm]; rintro _ w9 ⟨rv9, lv9, xs9, rfl, hok9, h4⟩; have hst2 := St.call hst h4; clear h4 hst; obtain ⟨a9, c9, rfl, _, _⟩ := rowS [] hst2; obtain ⟨a8, c8, rfl, _, _⟩ := rowS [_] hst2; have HOK := hid hok9; clear hok9) | (go_at_call 31; refine (limits13_any t ar al nr cr nl cl xs _ (HT.out.old hst.nil) nm z txg HX.out.nm).mono ?_; rw [show opR t (limitT t nm z txg) = r from HR.out.symm]; rintro _ w9 ⟨rv9, lv9, xs9, rfl, hok9, h4⟩; have hst2 := St.call hst h4; clear h4 hst; obtain ⟨a9, c9, rfl, _, _⟩ := rowS [] hst2; obtain ⟨a8, c8, rfl, _, _⟩ := rowS [_] hst2; have HOK := hid hok9; clear hok9) | (go_at_call 32; refine (root13_any t ar al nr cr nl cl xs _ (HT.out.old hst.nil) nm p (HX.out.p.old hst.nil) HX.out.l HX.out.nm).mono ?_; rw [show opR t (rootT t nm p) = r from HR.out.symm]; rintro _ w9 ⟨rv9, lv9, xs9, rfl, hok9, h4⟩; have hst2 := St.call hst h4; clear h4 hst; obtain ⟨a9, c9, rfl, _, _⟩ := rowS [] hst2; obtain ⟨a8, c8, rfl, _, _⟩ := rowS [_] hst2; have HOK := hid hok9; clear hok9) | (refine wl_storeA (_ :: _ :: List.map rootH xs9) hst2 rfl rfl rfl rfl (vs := tabC r.2 (.slice a9 xs9.length c9) (.slice a8 r.2.lives.length c8)) rfl rfl rfl ?_; intro w7 hst3; clear hst2))
    have hl := Loads.atA (P := Tryz.prog) (off := 0) (T := 27) (tabC r.2 (.slice a9 xs9.length c9) (.slice a8 r.2.lives.length c8)) (_ :: _ :: List.map rootH xs9) hst3 rfl rfl
    refine bodyPost_ret (results_cellR rfl rfl rfl hl) rfl ?_
    exact ⟨_, _, xs9, rfl, HOK.out, St.sub hst3 (.cons_cons _ (.cons_cons _ (List.sublist_append_left _ _)))⟩
theorem does_none (t : TC) (ar al : Option Addr) (nr cr nl cl : Nat) (xs : List (Value × RC)) (w : World) (ht : TabIn w t ar nr cr al nl cl xs) (x : AD) (hx : x.Few w) (hk : x.idle = true) :
    Calls Tryz.prog 11 #[.agg (tabC t (.slice ar nr cr) (.slice al nl cl)).toArray, .agg x.cells.toArray] w fun e w' => e = .returned (.tuple #[.agg (tabC t (.slice ar nr cr) (.slice al nl cl)).toArray, .int .i64 0]) ∧ St w [] w' [] := by
  have hst0 := St.refl w
  have H35 := hid (PV.len hx.p.1)
  obtain ⟨k, z, txg, nm, tn, p⟩ := x
  unfold AD.idle at hk
  simp only [Bool.or_eq_true, decide_eq_true_eq] at hk
  have d0 : (k == 0) = false := by rw [beq_eq_false_iff_ne]; omega
  have d1 : (k == 1) = false := by rw [beq_eq_false_iff_ne]; omega
  have d2 : (k == 2) = false := by rw [beq_eq_false_iff_ne]; omega
  have d3 : (k == 3) = false := by rw [beq_eq_false_iff_ne]; omega
  have d4 : (k == 4) = false := by rw [beq_eq_false_iff_ne]; omega
  have d5 : (k == 5) = false := by rw [beq_eq_false_iff_ne]; omega
  have d6 : (k == 6) = false := by rw [beq_eq_false_iff_ne]; omega
  have d7 : (k == 7) = false := by rw [beq_eq_false_iff_ne]; omega
  have d8 : (k == 8) = false := by rw [beq_eq_false_iff_ne]; omega
  clear hk hx
  go_enter Tryz.func11, Tryz.ntmps11
  go_wp2_with (first | go_big_skip | go_big_guard | (refine wl_boxA hst0 rfl rfl rfl ?_; intro g2 w1 hA0; clear hst0) | (refine wl_boxA hA0 rfl rfl rfl ?_; intro g3 w2 hA1; clear hA0) | (refine wl_alloc hA1 rfl rfl ?_; intro g4 w3 hst; clear hA1) | (refine wl_loadE rfl rfl rfl ?_; first | refine ⟨_, Loads.atA p.cells [_] hst H35.out (by show List.take p.cells.length p.cells = p.cells; exact List.take_length), ?_⟩ | refine ⟨_, Loads.atA (tabC t (.slice ar nr cr) (.slice al nl cl)) [_, _] hst rfl rfl, ?_⟩ | refine ⟨_, Loads.at [_] hst rfl, ?_⟩) | (refine wl_storeA [] hst rfl rfl rfl rfl (vs := (tabC t (.slice ar nr cr) (.slice al nl cl))) rfl rfl rfl ?_; intro w7 hst3; clear hst))
  have hl := Loads.atA (P := Tryz.prog) (off := 0) (T := 27) (tabC t (.slice ar nr cr) (.slice al nl cl)) [] hst3 rfl rfl
  refine bodyPost_ret (results_cellR rfl rfl rfl hl) rfl ?_
  exact ⟨rfl, hst3.nil⟩
theorem does13_any (t : TC) (ar al : Option Addr) (nr cr nl cl : Nat) (xs : List (Value × RC)) (w : World) (ht : TabIn w t ar nr cr al nl cl xs) (x : AD) (hx : x.Few w) (hk : x.idle = false) :
    Calls Tryz.prog 11 #[.agg (tabC t (.slice ar nr cr) (.slice al nl cl)).toArray, .agg x.cells.toArray] w (TabRet (doR t x) w) := by
  unfold AD.idle at hk
  simp only [Bool.or_eq_false_iff, decide_eq_false_iff_not] at hk
  exact does_all t ar al nr cr nl cl xs w ht x hx (by omega)
end Go.Proofs.YtifajcblbedcoaaGreat
namespace Go.Proofs.YtifajcblbedcoaaGreat
set_option linter.unusedVariables false
set_option linter.unusedSimpArgs false
open Go.RowKit Hp
attribute [local irreducible] Go.Calls Go.wpList
set_option maxRecDepth 100000
set_option maxHeartbeats 8000000
def in64D (z : Int) : Prop := -9223372036854775808 ≤ z ∧ z ≤ 9223372036854775807
/-- What is known of an act that was handed in. -/
structure AD.Ok (y : AD) (w : World) : Prop where
  kind : in64D y.kind
  n : in64D y.n
  txg : in64D y.txg
  p : y.p.In w
instance adA : TyA Tryz.prog 34 40 := ⟨by kernel_rfl⟩
instance adN : TyN Tryz.prog 34 40 := ⟨by kernel_rfl⟩
instance adSl : TySl Tryz.prog 37 34 := ⟨by kernel_rfl⟩
theorem AD.len {y : AD} (h : L32 y.p.S) : y.cells.length = 40 := by
  show (y.p.cells).length + 5 = 40
  rw [PV.len h]
theorem ads_at : ∀ {xs : List AD} {k : Nat} {x : AD}, (∀ y ∈ xs, L32 y.p.S) → xs[k]? = some x → ∀ j v, x.cells[j]? = some v → (xs.flatMap AD.cells)[k * 40 + j]? = some v
  | y :: xs, 0, x, _, h, j, v, hj => by
    cases h
    rw [List.flatMap_cons, Nat.zero_mul, Nat.zero_add, List.getElem?_append_left (List.getElem?_eq_some_iff.1 hj).1]
    exact hj
  | y :: xs, k + 1, x, hl, h, j, v, hj => by
    have hl' : y.cells.length = 40 := AD.len (hl y (.head _))
    rw [List.flatMap_cons, List.getElem?_append_right (by rw [hl']; omega), hl', show (k + 1) * 40 + j - 40 = k * 40 + j by omega]
    exact ads_at (fun z hz => hl z (.tail _ hz)) (by simpa using h) j v hj
  | [], _, _, _, h, _, _, _ => by cases h
theorem ads_range {w : World} {b off n c k : Nat} {xs : List AD} {x : AD} (h : Rd w (.slice (some ⟨b, off, none⟩) n c) 40 n (xs.flatMap AD.cells)) (hl : ∀ y ∈ xs, L32 y.p.S) (hk : xs[k]? = some x) : w.rangeAt b (off + k * 40) x.cells := by
  intro j v hj
  have := h.range (k * 40 + j) v (ads_at hl hk j v hj)
  rwa [← Nat.add_assoc] at this
/-- Acts of names of at most 100 bytes and 20 addresses each, at most 60. -/
def shortD (xs : List AD) (N : Nat) : Prop := N ≤ 60 ∧ ∀ x ∈ xs, x.nm.length ≤ 100 ∧ x.tn.length ≤ 100 ∧ x.p.l.length ≤ 20
def longD (xs : List AD) (N : Nat) (e : Ending) : Prop := ∃ b, e = .returned (.bool b) ∧ (b = false ↔ shortD xs N)
theorem longD_any (ao : Option Addr) (N c : Nat) (xs : List AD) (w : World) (hv : Rd w (.slice ao N c) 40 N (xs.flatMap AD.cells)) (hN : xs.length = N) (hx : ∀ x ∈ xs, x.Ok w) (hnb : ∀ x ∈ xs, x.nm.length ≤ 9223372036854775807 ∧ x.tn.length ≤ 9223372036854775807) :
    Calls Tryz.prog 7 #[.slice ao N c] w fun e w' => longD xs N e ∧ St w [] w' [] := by
  have hst := St.refl w
  have HN := hid hN
  have HXX := hid hx
  have HNB := hid hnb
  have hb1 := hv.bd.1
  have hb2 := hv.bd.2.1
  clear hN hx hnb
  go_enter Tryz.func7, Tryz.ntmps7
  go_wp2_with (first | go_big_skip | go_big_guard | fail)
  go_loop [3] (fun q => ∃ k : Nat, k ≤ N ∧ k ≤ 61 ∧ q = .int .i64 k ∧ Hid (∀ j x, j < k → xs[j]? = some x → x.nm.length ≤ 100 ∧ x.tn.length ≤ 100 ∧ x.p.l.length ≤ 20)) (fun q => 61 - (intOf q).toNat)
  case atStart => exact ⟨0, by omega, by omega, rfl, hid (fun j x hj => absurd hj (Nat.not_lt_zero _))⟩
  case round =>
    obtain ⟨k, hk, hk1, rfl, hall⟩ := hrel
    by_cases hkN : k < N
    · by_cases hk2 : k < 61
      · obtain ⟨x, hxk⟩ : ∃ x, xs[k]? = some x := ⟨_, List.getElem?_eq_getElem (by rw [HN.out]; exact hkN)⟩
        obtain ⟨b, off, rfl, _⟩ := hv.at hkN
        have hok := HXX.out x (List.mem_of_getElem? hxk)
        have hra := ads_range hv (fun y hy => (HXX.out y hy).p.1) hxk
        obtain ⟨hm1, hm2⟩ := HNB.out x (List.mem_of_getElem? hxk)
        obtain ⟨_, po, pn, pc, hps, hpr, hpl⟩ := hok.p
        have hpb1 := hpr.bd.1
        have hpb2 := hpr.bd.2.1
        have h3 := hid (show w.cell? ⟨b, off + k * 40 + 1, none⟩ = some (.string ⟨x.nm.toArray⟩) from hra 1 _ rfl)
        have h4 := hid (show w.cell? ⟨b, off + k * 40 + 2, none⟩ = some (.string ⟨x.tn.toArray⟩) from hra 2 _ rfl)
        have h5 := hid (show w.cell? ⟨b, off + k * 40 + 5, none⟩ = some (.slice po pn pc) from hra 5 _ (by show some x.p.sv = _; rw [hps]))
        have HXK := hid hxk
        have d1 : decide ((k : Int) < (N : Int)) = true := decide_eq_true (by omega)
        have d0 : decide ((k : Int) < 61) = true := decide_eq_true (by omega)
        clear hra hxk hok hps hpr
        by_cases g1 : 100 < x.nm.length
        · have d2 : decide (100 < (x.nm.length : Int)) = true := decide_eq_true (by omega)
          go_wp2_with (first | go_big_skip | go_big_guard | (refine wl_loadE rfl rfl rfl ?_; first | refine ⟨_, Loads.old hst (h3.out), ?_⟩ | refine ⟨_, Loads.old hst (h4.out), ?_⟩ | refine ⟨_, Loads.old hst (h5.out), ?_⟩))
          go_ret
          exact ⟨⟨true, rfl, ⟨fun h => (by cases h), fun h => by have := (h.2 x (List.mem_of_getElem? HXK.out)); omega⟩⟩, hst⟩
        · have d2 : decide (100 < (x.nm.length : Int)) = false := decide_eq_false (by omega)
          by_cases g2 : 100 < x.tn.length
          · have d3 : decide (100 < (x.tn.length : Int)) = true := decide_eq_true (by omega)
            go_wp2_with (first | go_big_skip | go_big_guard | (refine wl_loadE rfl rfl rfl ?_; first | refine ⟨_, Loads.old hst (h3.out), ?_⟩ | refine ⟨_, Loads.old hst (h4.out), ?_⟩ | refine ⟨_, Loads.old hst (h5.out), ?_⟩))
            go_ret
            exact ⟨⟨true, rfl, ⟨fun h => (by cases h), fun h => by have := (h.2 x (List.mem_of_getElem? HXK.out)); omega⟩⟩, hst⟩
          · have d3 : decide (100 < (x.tn.length : Int)) = false := decide_eq_false (by omega)
            by_cases g3 : 20 < pn
            · have d4 : decide (20 < (pn : Int)) = true := decide_eq_true (by omega)
              go_wp2_with (first | go_big_skip | go_big_guard | (refine wl_loadE rfl rfl rfl ?_; first | refine ⟨_, Loads.old hst (h3.out), ?_⟩ | refine ⟨_, Loads.old hst (h4.out), ?_⟩ | refine ⟨_, Loads.old hst (h5.out), ?_⟩))
              go_ret
              exact ⟨⟨true, rfl, ⟨fun h => (by cases h), fun h => by have := (h.2 x (List.mem_of_getElem? HXK.out)); omega⟩⟩, hst⟩
            · have d4 : decide (20 < (pn : Int)) = false := decide_eq_false (by omega)
              have z1 : IntKind.i64.wrap ((k : Int) + 1) = (k : Int) + 1 := IntWalk.i64_in _ (by omega)
              go_wp2_with (first | go_big_skip | go_big_guard | (refine wl_loadE rfl rfl rfl ?_; first | refine ⟨_, Loads.old hst (h3.out), ?_⟩ | refine ⟨_, Loads.old hst (h4.out), ?_⟩ | refine ⟨_, Loads.old hst (h5.out), ?_⟩))
              go_round
              case rel =>
                refine ⟨k + 1, by omega, by omega, rfl, hid (fun j y hj hy => ?_)⟩
                rcases Nat.lt_or_ge j k with h9 | h9
                · exact hall.out j y h9 hy
                · obtain rfl : j = k := by omega
                  rw [HXK.out] at hy
                  cases hy
                  omega
              case measure => simp [intOf]; omega
      · have d1 : decide ((k : Int) < (N : Int)) = true := decide_eq_true (by omega)
        have d0 : decide ((k : Int) < 61) = false := decide_eq_false (by omega)
        have d2 : decide (60 < (N : Int)) = true := decide_eq_true (by omega)
        go_wp2_with (first | go_big_skip | go_big_guard | fail)
        go_ret
        exact ⟨⟨true, rfl, ⟨fun h => (by cases h), fun h => by have := h.1; omega⟩⟩, hst⟩
    · have e : k = N := by omega
      subst e
      have d1 : decide ((k : Int) < (k : Int)) = false := by simp
      have hs : ∀ x ∈ xs, x.nm.length ≤ 100 ∧ x.tn.length ≤ 100 ∧ x.p.l.length ≤ 20 := fun x hx => by
        obtain ⟨j, hj⟩ := List.getElem?_of_mem hx
        have hjl := (List.getElem?_eq_some_iff.1 hj).1
        have := HN.out
        exact hall.out j x (by omega) hj
      have HS := hid hs
      clear hs
      by_cases h60 : 60 < k
      · have d2 : decide (60 < (k : Int)) = true := decide_eq_true (by omega)
        go_wp2_with (first | go_big_skip | go_big_guard | fail)
        go_ret
        exact ⟨⟨true, rfl, ⟨fun h => (by cases h), fun h => by have := h.1; omega⟩⟩, hst⟩
      · have d2 : decide (60 < (k : Int)) = false := decide_eq_false (by omega)
        go_wp2_with (first | go_big_skip | go_big_guard | fail)
        go_ret
        exact ⟨⟨false, rfl, ⟨fun _ => ⟨by omega, HS.out⟩, fun _ => rfl⟩⟩, hst⟩
end Go.Proofs.YtifajcblbedcoaaGreat
namespace Go.Proofs.YtifajcblbedcoaaGreat
set_option linter.unusedVariables false
set_option linter.unusedSimpArgs false
open Go.ChangeShapes Go.WideShapes Go.ChangeAt Go.RowKit Go.Deep Go.Lib Go.Joins Hp
set_option maxRecDepth 100000
theorem i64_wfQ {z : Int} (hw : (Lit.int .i64 z).wf = true) : in64D z := by
  simp only [Lit.wf, Bool.and_eq_true, decide_eq_true_eq] at hw
  have h3 : IntKind.i64.min = -9223372036854775808 := rfl
  have h4 : IntKind.i64.max = 9223372036854775807 := rfl
  unfold in64D
  omega
theorem cellsAd : Tryz.prog.cellsOf 34 = 40 := by kernel_rfl
def ADL : Type := { x : AD // L32 x.p.S }
instance inhADL : Inhabited ADL := ⟨⟨⟨0, 0, 0, [], [], ⟨.slice none 0 0, [], 0, 0, nones⟩⟩, L32.nones⟩⟩
def OkNm (k : AD) (W : World) : Prop := k.Ok W ∧ k.nm.length ≤ 9223372036854775807 ∧ k.tn.length ≤ 9223372036854775807
theorem open_actD {H : Type} {enc : TypeId × Value → H} {W : World} (fuel : Nat) (cs : List Value) (x : DataW H × List MemPlace) (hl : cs.length = 40)
    (h : DataW.trod enc Tryz.prog W 0 (fun _ => true) true fuel 34 cs = some x) : ∃ k : ADL, cs = k.1.cells ∧ OkNm k.1 W := by
  obtain ⟨xs, n, _, _, _, hlen, hf⟩ := DataW.trod_struct Tryz.underlying34 h
  have hlen' : xs.length = 6 := hlen
  have g0 := hf 0 _ rfl
  have g1 := hf 1 _ rfl
  have g2 := hf 2 _ rfl
  have g3 := hf 3 _ rfl
  have g4 := hf 4 _ rfl
  have g5 := hf 5 _ rfl
  clear hf h
  match xs, hlen' with
  | [y0, y1, y2, y3, y4, y5], _ =>
    match cs, hl with
    | a :: b :: c :: d :: e :: P, hl =>
      have hPl : P.length = 35 := by simpa using hl
      have f0 : DataW.trod enc Tryz.prog W 0 (fun _ => true) true n 3 (List.take (Tryz.prog.cellsOf 3) (List.drop 0 (a :: b :: c :: d :: e :: P))) = some y0 := g0
      have f1 : DataW.trod enc Tryz.prog W 0 (fun _ => true) true n 9 (List.take (Tryz.prog.cellsOf 9) (List.drop 1 (a :: b :: c :: d :: e :: P))) = some y1 := g1
      have f2 : DataW.trod enc Tryz.prog W 0 (fun _ => true) true n 9 (List.take (Tryz.prog.cellsOf 9) (List.drop 2 (a :: b :: c :: d :: e :: P))) = some y2 := g2
      have f3 : DataW.trod enc Tryz.prog W 0 (fun _ => true) true n 3 (List.take (Tryz.prog.cellsOf 3) (List.drop 3 (a :: b :: c :: d :: e :: P))) = some y3 := g3
      have f4 : DataW.trod enc Tryz.prog W 0 (fun _ => true) true n 3 (List.take (Tryz.prog.cellsOf 3) (List.drop 4 (a :: b :: c :: d :: e :: P))) = some y4 := g4
      have f5 : DataW.trod enc Tryz.prog W 0 (fun _ => true) true n 32 (List.take (Tryz.prog.cellsOf 32) (List.drop 5 (a :: b :: c :: d :: e :: P))) = some y5 := g5
      obtain ⟨z0, w0, _, u0⟩ := DataW.trod_int Tryz.underlying3 (show DataW.trod enc Tryz.prog W 0 (fun _ => true) true n 3 [a] = some y0 from by rw [cellsI] at f0; exact f0)
      obtain ⟨s1, w1, _, hs1⟩ := DataW.trod_string Tryz.underlying9 (show DataW.trod enc Tryz.prog W 0 (fun _ => true) true n 9 [b] = some y1 from by rw [cellsSd] at f1; exact f1)
      obtain ⟨s2, w2, _, hs2⟩ := DataW.trod_string Tryz.underlying9 (show DataW.trod enc Tryz.prog W 0 (fun _ => true) true n 9 [c] = some y2 from by rw [cellsSd] at f2; exact f2)
      obtain ⟨z3, w3, _, u3⟩ := DataW.trod_int Tryz.underlying3 (show DataW.trod enc Tryz.prog W 0 (fun _ => true) true n 3 [d] = some y3 from by rw [cellsI] at f3; exact f3)
      obtain ⟨z4, w4, _, u4⟩ := DataW.trod_int Tryz.underlying3 (show DataW.trod enc Tryz.prog W 0 (fun _ => true) true n 3 [e] = some y4 from by rw [cellsI] at f4; exact f4)
      obtain ⟨p, w5, hp⟩ := open_ptrD (W := W) (x := y5) (L := P) hPl (by
        rw [cellsP] at f5
        simp only [List.drop_succ_cons, List.drop_zero] at f5
        rwa [List.take_of_length_le (by omega)] at f5)
      cases w0; cases w1; cases w2; cases w3; cases w4
      subst w5
      refine ⟨⟨⟨z0, z3, z4, s1.data.toList, s2.data.toList, p⟩, hp.1⟩, ?_, ⟨i64_wfQ u0, i64_wfQ u3, i64_wfQ u4, hp⟩, ?_, ?_⟩
      · show _ = Value.int IntKind.i64 z0 :: Value.string ⟨s1.data.toList.toArray⟩ :: Value.string ⟨s2.data.toList.toArray⟩ :: Value.int IntKind.i64 z3 :: Value.int IntKind.i64 z4 :: p.cells
        rfl
      · show s1.data.toList.length ≤ _
        rw [Array.length_toList]
        exact hs1
      · show s2.data.toList.length ≤ _
        rw [Array.length_toList]
        exact hs2
theorem open_actsD {H : Type} {enc : TypeId × Value → H} {W : World} {base fuel : Nat} {v : Value} {x : DataW H × List MemPlace} (hv : Value.okWide Tryz.prog W .any base 37 v)
    (h : DataW.trod enc Tryz.prog W 0 (fun _ => true) true fuel 37 v.cells.toList = some x) : ∃ ao n c, ∃ ks : List AD, v = .slice ao n c ∧ Rd W (.slice ao n c) 40 n (ks.flatMap AD.cells) ∧ ks.length = n ∧ (∀ x ∈ ks, x.Ok W) ∧ ∀ x ∈ ks, x.nm.length ≤ 9223372036854775807 ∧ x.tn.length ≤ 9223372036854775807 := by
  obtain ⟨ao, n, c, ks, e, hr, hl, hk⟩ := open_structsD (α := ADL) (f := fun k => k.1.cells) (sz := 40) (fun k => AD.len k.2) (by decide) (fun k W => OkNm k.1 W) Tryz.underlying37 cellsAd open_actD h
  have er : ks.flatMap (fun k => k.1.cells) = (ks.map (·.1)).flatMap AD.cells := by rw [List.flatMap_map]
  rw [er] at hr
  refine ⟨ao, n, c, ks.map (·.1), ?_, hr, by rw [List.length_map]; exact hl, fun x hx => ?_, fun x hx => ?_⟩
  · obtain ⟨a, l, q, rfl⟩ := okWide_slice Tryz.underlying37 hv
    have e' : [Value.slice a l q] = [.slice ao n c] := e
    cases e'
    rfl
  · obtain ⟨k, hk', rfl⟩ := List.mem_map.1 hx
    exact (hk k hk').1
  · obtain ⟨k, hk', rfl⟩ := List.mem_map.1 hx
    exact (hk k hk').2
end Go.Proofs.YtifajcblbedcoaaGreat
namespace Go.Proofs.YtifajcblbedcoaaGreat
set_option linter.unusedVariables false
set_option linter.unusedSimpArgs false
open Go.RowKit
namespace Hp
variable {P : Program}
theorem Rd.three {w : World} {v : Value} {sz n : Nat} {xs : List Value} (hrd : Rd w v sz n xs) : (v = .slice none 0 0 ∧ n = 0 ∧ xs = []) ∨ ∃ A c, v = .slice (some A) n c ∧ xs.length = n * sz ∧ ∀ j u, xs[j]? = some u → w.cell? (A.add j) = some u := by
  rcases hrd.cases with h | ⟨A, rfl, rfl, rfl⟩ | ⟨b, off, c, rfl, hmc, hcm, hyl, hr⟩
  · exact .inl h
  · exact .inr ⟨A, 0, rfl, by simp, fun j u hu => by cases hu⟩
  · exact .inr ⟨_, c, rfl, hyl, fun j u hu => by rw [Addr.add_mid]; exact hr j u hu⟩
theorem run_appFull {w0 w : World} {M : List Nat} {L : List HA} {ao : Option Addr} {u : Value} {n m sz bytes : Nat} {xs ys : List Value} {t ty e : TypeId} (hst : St w0 M w L) (ht : P.underlying t = some (.slice e)) (he : tyE P e sz bytes = true)
    (hv : Rd w (.slice ao n n) sz n xs) (hu : Rd w u sz m ys) (hm : 0 < m) (h63 : n + m ≤ maxLen) (hbytes : (n + m) * bytes ≤ 140737488355328) :
    ∃ v' w', (Builtin.append_ #[t, t] ty #[.slice ao n n, u]).run P w = .ok v' w' ∧ St w0 M w' (.row v' e sz (n + m) (xs ++ ys) :: L) := by
  obtain ⟨i, z, hi, hz, hs, hb, hzs⟩ := tyE_spec he
  subst hs hb
  rcases hu.three with ⟨_, h, _⟩ | ⟨AA, c, rfl, hyl, hnews⟩
  · omega
  have hxl : xs.length = n * i.size := hv.1
  have key : ∀ old, St w0 M (w.drew.alloc (.cells (xs.toArray ++ ys.toArray ++ Builtin.zeroCells z.cells (grownCap w (n + m) old e - (n + m))) e)) (.row (.slice (some ⟨w.heap.size, 0, none⟩) (n + m) (grownCap w (n + m) old e)) e i.size (n + m) (xs ++ ys) :: L) := by
    intro old
    have hge := grownCap_ge w (n + m) old e
    have hcm := grownCap_le_maxLen w (n + m) old e h63
    have h2 := St.alloc hst.drew e ((xs ++ ys) ++ (Builtin.zeroCells z.cells (grownCap w (n + m) old e - (n + m))).toList)
    have e2 : ((xs ++ ys) ++ (Builtin.zeroCells z.cells (grownCap w (n + m) old e - (n + m))).toList).toArray = xs.toArray ++ ys.toArray ++ Builtin.zeroCells z.cells (grownCap w (n + m) old e - (n + m)) := by
      apply Array.ext'
      simp
    rw [e2] at h2
    have hlen : ((xs ++ ys) ++ (Builtin.zeroCells z.cells (grownCap w (n + m) old e - (n + m))).toList).length = grownCap w (n + m) old e * i.size := by
      rw [List.length_append, List.length_append, hxl, hyl, Array.length_toList, size_zeroCells, hzs, ← Nat.add_mul, ← Nat.add_mul]
      congr 1
      omega
    have h3 := St.toRow (n := n + m) (cap := grownCap w (n + m) old e) (sz := i.size) h2 hlen hge (by unfold maxLen at hcm; omega)
    rw [List.take_append_of_le_length (by rw [List.length_append, hxl, hyl, ← Nat.add_mul]; exact Nat.le_refl _), List.take_of_length_le (by rw [List.length_append, hxl, hyl, ← Nat.add_mul]; exact Nat.le_refl _)] at h3
    exact h3
  rcases hv.three with ⟨hn, h0, rfl⟩ | ⟨A, c', hn, hl, holds⟩
  · cases hn
    have hrun := run_append_nil (P := P) w t ty e i z ht hi hz AA m c ys hyl hnews (by omega) (by simp only [maxLen] at h63; omega) (by simp only [Nat.zero_add] at hbytes; omega)
    have hk := key 0
    simp only [Nat.zero_add, List.nil_append, Array.empty_append] at hk ⊢
    exact ⟨_, _, hrun, hk⟩
  · cases hn
    have hrun := run_append_grow (P := P) w t ty e i z ht hi hz A n n xs hl holds AA m c ys hyl hnews (by omega) (by simp only [maxLen] at h63; omega) (growslice_fits (by omega) hbytes)
    exact ⟨_, _, hrun, key n⟩
theorem wl_appFull {ops : Array Oper} {rest : List Oper} {o : Oper} {a : Act} {w0 w : World} {M : List Nat} {L : List HA} {Q : Exit → Act → World → Prop} {s x : Operand} {t t' e : TypeId} {ao : Option Addr} {u : Value} {sz bytes n m : Nat} {xs ys : List Value} (hst : St w0 M w L)
    (hop : o.op = .call { callee := .builtin .append, args := #[s, x], argTypes := #[t, t'] }) (hw : Region.wanted o (yielded ops a.tmps) = true) (hs : a.eval s = .slice ao n n) (hx : a.eval x = u)
    (ht : TySl P t e) (ht' : TySl P t' e) (he : TyE P e sz bytes) (hv : Rd w (.slice ao n n) sz n xs) (hrd : Rd w u sz m ys) (hm : 0 < m) (hb : n + m ≤ maxLen ∧ (n + m) * bytes ≤ 140737488355328)
    (h : ∀ v' w', St w0 M w' (.row v' e sz (n + m) (xs ++ ys) :: L) → wpList P ops Q rest (a.put o.dst v') w') : wpList P ops Q (o :: rest) a w := by
  obtain ⟨v', w', hr, h2⟩ := run_appFull (P := P) (t := t) (ty := o.type) hst ht.out he.out hv hrd hm hb.1 hb.2
  refine wl_run hw ?_ (h v' w' h2)
  unfold execOp
  simp only [hop, resolve, invoke, builtin, Sem.run_bind, Sem.run_pure, Result.andThen_ok, List.map_toArray, List.map_cons, List.map_nil, hs, hx]
  rw [run_append_types ht.out ht'.out, hr]
  rfl
/-- What s[k:] is. -/
def tailS (ao : Option Addr) (n c k sz : Nat) : Value := .slice (if c = k then ao else ao.map (·.add (k * sz))) (n - k) (c - k)
theorem Rd.tailA {w : World} {ao : Option Addr} {n c k sz : Nat} {xs : List Value} (h : Rd w (.slice ao n c) sz n xs) (hk : k ≤ n) : Rd w (tailS ao n c k sz) sz (n - k) (xs.drop (k * sz)) := by
  obtain ⟨hl, ao', c', he, hn, hc, hnone, hsome⟩ := h
  simp only [Value.slice.injEq, true_and] at he
  obtain ⟨rfl, rfl⟩ := he
  unfold tailS
  refine ⟨by rw [List.length_drop, hl, Nat.sub_mul], _, _, rfl, by omega, by omega, fun hh => ?_, fun A hA h0 => ?_⟩
  · by_cases e : c = k
    · exact ⟨by omega, by omega⟩
    · rw [if_neg e] at hh
      have : ao = none := by cases ao <;> simp_all
      have := hnone this
      omega
  · have e : ¬ c = k := by omega
    rw [if_neg e] at hA
    cases ao with
    | none => simp at hA
    | some B =>
      obtain ⟨b, off, rfl, hr⟩ := hsome B rfl (by omega)
      simp only [Option.map_some, Option.some.injEq] at hA
      subst hA
      refine ⟨b, off + k * sz, Addr.add_mid .., fun j v hv => ?_⟩
      rw [List.getElem?_drop] at hv
      have := hr _ _ hv
      rwa [← Nat.add_assoc] at this
theorem Rd.frontA {w : World} {ao : Option Addr} {n c k sz : Nat} {xs : List Value} (h : Rd w (.slice ao n c) sz n xs) (hk : k ≤ n) : Rd w (.slice ao k k) sz k (xs.take (k * sz)) := by
  obtain ⟨hl, ao', c', he, hn, hc, hnone, hsome⟩ := h
  simp only [Value.slice.injEq, true_and] at he
  obtain ⟨rfl, rfl⟩ := he
  refine ⟨?_, _, _, rfl, Nat.le_refl _, by omega, fun hh => ?_, fun A hA h0 => ?_⟩
  · rw [List.length_take, hl, Nat.min_eq_left (Nat.mul_le_mul_right _ hk)]
  · have := hnone hh
    omega
  · obtain ⟨b, off, rfl, hr⟩ := hsome A hA (by omega)
    exact ⟨b, off, rfl, fun j v hv => by
      have hj := (List.getElem?_eq_some_iff.1 hv).1
      rw [List.length_take] at hj
      rw [List.getElem?_take_of_lt (by omega)] at hv
      exact hr j v hv⟩
end Hp
end Go.Proofs.YtifajcblbedcoaaGreat
namespace Go.Proofs.YtifajcblbedcoaaGreat
set_option linter.unusedVariables false
set_option linter.unusedSimpArgs false
open Go.RowKit Hp
def kinP (l : List RC) (x : RC) : Prop := if x.kind = 2 then ∃ v ∈ l, v.name = (splitL x.name).1 ∧ v.id = x.own else (x.origin = 0 ∨ ∃ y ∈ l, y.id = x.origin ∧ y.kind = 2)
structure OkP (t : TC) : Prop where
  next : 1 ≤ t.next ∧ t.next ≤ 2147483648
  many : t.recs.length ≤ 16
  devs : 2 ≤ t.lives.length ∧ t.lives.length ≤ 8
  cur : t.curB = true
  lives : t.livesB = true
  alone : ∀ x ∈ t.recs, x.aloneB = true
  lt : t.recs.Pairwise NameLt
  ids : t.recs.Pairwise fun x y => x.id ≠ y.id
  low : ∀ x ∈ t.recs, x.id < t.next
  kin : ∀ x ∈ t.recs, kinP t.recs x
theorem inB_iff {n lo hi : Int} : inB n lo hi = true ↔ lo ≤ n ∧ n ≤ hi := by unfold inB; simp
theorem find_name {l : List RC} (h : l.Pairwise NameLt) {nm : List UInt8} {v : RC} (hv : v ∈ l) (hn : v.name = nm) : ∃ k : Nat, findN nm l = (k : Int) ∧ l[k]? = some v := by
  rcases find_split (nm := nm) (l := l) with ⟨h1, _⟩ | ⟨j, y, hy, _, hf, _, hyn⟩
  · unfold recAt at h1
    rw [List.find?_eq_none] at h1
    have := h1 v hv
    simp [hn] at this
  · refine ⟨j, hf, ?_⟩
    obtain ⟨i, hi⟩ := List.getElem?_of_mem hv
    have hs := sorted_iff.2 h
    by_cases hij : i = j
    · subst hij; exact hi
    · exfalso
      rcases Nat.lt_or_gt_of_ne hij with hlt | hlt
      · exact NameLt.ne (hs i j v y hlt hi hy) (hn.trans hyn.symm)
      · exact NameLt.ne (hs j i y v hlt hy hi) (hyn.trans hn.symm)
theorem volB_iff {l : List RC} (h : l.Pairwise NameLt) {r : RC} : volB l r = true ↔ ∃ v ∈ l, v.name = (splitL r.name).1 ∧ v.id = r.own := by
  unfold volB
  rw [Bool.and_eq_true, decide_eq_true_eq]
  constructor
  · rintro ⟨h1, h2⟩
    rcases find_split (nm := (splitL r.name).1) (l := l) with ⟨_, hf⟩ | ⟨j, y, hy, _, hf, _, hyn⟩
    · exfalso
      unfold findP at hf
      rw [if_neg (by omega)] at hf
      exact absurd (congrArg Prod.snd hf) (by simp)
    · unfold idAt at h2
      rw [hf, Int.toNat_natCast, hy] at h2
      exact ⟨y, List.mem_of_getElem? hy, hyn, by simpa using h2⟩
  · rintro ⟨v, hv, hn, hi⟩
    obtain ⟨k, hf, hk⟩ := find_name h hv hn
    refine ⟨by omega, ?_⟩
    unfold idAt
    rw [hf, Int.toNat_natCast, hk]
    simpa using hi
theorem kinB_iff {l : List RC} (h : l.Pairwise NameLt) {r : RC} : kinB l r = true ↔ kinP l r := by
  unfold kinB kinP
  by_cases hk : r.kind = 2
  · rw [if_pos (by simpa using hk), if_pos hk, volB_iff h]
  · rw [if_neg (by simpa using hk), if_neg hk]
    simp
theorem ids_iff {l : List RC} : (∀ (i : Nat) (x : RC), l[i]? = some x → ((l.take i).any fun y => y.id == x.id) = false) ↔ l.Pairwise fun x y => x.id ≠ y.id := by
  rw [List.pairwise_iff_getElem]
  constructor
  · intro h i j hi hj hij e
    have := h j l[j] (List.getElem?_eq_getElem hj)
    rw [List.any_eq_false] at this
    have h2 := this l[i] (by rw [List.mem_take_iff_getElem]; exact ⟨i, by omega, rfl⟩)
    simp at h2
    exact h2 e
  · intro h i x hx
    obtain ⟨hi, rfl⟩ := List.getElem?_eq_some_iff.1 hx
    rw [List.any_eq_false]
    intro y hy
    obtain ⟨k, hk, rfl⟩ := List.mem_take_iff_getElem.1 hy
    simpa using h k i (by omega) hi (by omega)
theorem less_step {l : List RC} : (∀ (i : Nat) (x : RC), l[i]? = some x → lessAt l i x = true) ↔ l.Pairwise NameLt := by
  constructor
  · intro h
    rw [← sorted_iff]
    have step : ∀ (i : Nat) (x y : RC), l[i]? = some x → l[i + 1]? = some y → lessL x.name y.name = true := fun i x y hx hy => by
      have h2 := h (i + 1) y hy
      have e : lessAt l (i + 1) y = lessL x.name y.name := by
        show (match l[i]? with
          | some u => lessL u.name y.name
          | none => true) = _
        rw [hx]
      rwa [e] at h2
    intro i j x y hij hx hy
    obtain ⟨d, rfl⟩ : ∃ d, j = i + 1 + d := ⟨j - (i + 1), by omega⟩
    induction d generalizing y with
    | zero => exact step i x y hx hy
    | succ d ih =>
      have hlt := (List.getElem?_eq_some_iff.1 hy).1
      have hz : l[i + 1 + d]? = some l[i + 1 + d] := List.getElem?_eq_getElem (by omega)
      exact less_trans (ih _ (by omega) hz) (step (i + 1 + d) _ y hz hy)
  · intro h i x hx
    have hs := sorted_iff.2 h
    cases i with
    | zero => rfl
    | succ i =>
      show (match l[i]? with
        | some u => lessL u.name x.name
        | none => true) = true
      cases hy : l[i]? with
      | none => rfl
      | some y => exact hs i (i + 1) y x (by omega) hy hx
theorem okP_iff {t : TC} : t.ok = true ↔ OkP t := by
  constructor
  · intro h
    have hlt := ok_lt h
    have hbd := ok_bd h
    have h0 := h
    unfold TC.ok at h0
    simp only [Bool.and_eq_true] at h0
    obtain ⟨⟨⟨⟨h1, h2⟩, h3⟩, h4⟩, h5⟩ := h0
    unfold TC.sizeB at h1
    simp only [Bool.and_eq_true, decide_eq_true_eq] at h1
    have hrel : ∀ (i : Nat) (x : RC), t.recs[i]? = some x → relB t.next t.recs i x = true := fun i x hx => allAt_at h5 hx
    refine ⟨inB_iff.1 h1.1.1, hbd.many, ?_, h2, h3, fun x hx => ok_alone h hx, hlt, ids_iff.1 fun i x hx => ?_, fun x hx => ?_, fun x hx => ?_⟩
    · have := inB_iff.1 h1.2
      omega
    · have := hrel i x hx
      unfold relB at this
      have h6 := (Bool.and_eq_true_iff.1 (Bool.and_eq_true_iff.1 this).1).1
      simpa using h6
    · obtain ⟨i, hi⟩ := List.getElem?_of_mem hx
      have := hrel i x hi
      unfold relB at this
      simpa using (Bool.and_eq_true_iff.1 (Bool.and_eq_true_iff.1 this).1).2
    · obtain ⟨i, hi⟩ := List.getElem?_of_mem hx
      have := hrel i x hi
      unfold relB at this
      exact (kinB_iff hlt).1 (Bool.and_eq_true_iff.1 this).2
  · intro h
    refine ok_all ?_ h.cur h.lives (allAt_all fun i x hx => ?_) (allAt_all fun i x hx => ?_)
    · unfold TC.sizeB
      rw [inB_iff.2 h.next, inB_iff.2 (by have := h.devs; omega), decide_eq_true (by have := h.many; omega)]
      rfl
    · unfold eachB
      rw [h.alone x (List.mem_of_getElem? hx), less_step.2 h.lt i x hx]
      rfl
    · unfold relB
      rw [ids_iff.2 h.ids i x hx, decide_eq_true (h.low x (List.mem_of_getElem? hx)), (kinB_iff h.lt).2 (h.kin x (List.mem_of_getElem? hx))]
      rfl
end Go.Proofs.YtifajcblbedcoaaGreat
namespace Go.Proofs.YtifajcblbedcoaaGreat
set_option linter.unusedVariables false
set_option linter.unusedSimpArgs false
open Go.RowKit Hp
theorem kinP.mono {l l' : List RC} {x : RC} (h : kinP l x) (hs : ∀ y ∈ l, ∃ y' ∈ l', y'.name = y.name ∧ y'.id = y.id ∧ y'.kind = y.kind) : kinP l' x := by
  unfold kinP at h ⊢
  split
  · rename_i hk
    rw [if_pos hk] at h
    obtain ⟨v, hv, h1, h2⟩ := h
    obtain ⟨v', hv', q1, q2, _⟩ := hs v hv
    exact ⟨v', hv', q1.trans h1, q2.trans h2⟩
  · rename_i hk
    rw [if_neg hk] at h
    rcases h with h | ⟨y, hy, h1, h2⟩
    · exact .inl h
    · obtain ⟨y', hy', _, q2, q3⟩ := hs y hy
      exact .inr ⟨y', hy', q2.trans h1, q3.trans h2⟩
theorem perm_pair {α : Type} {R : α → α → Prop} (hs : ∀ x y, R x y → R y x) {l k : List α} (h : l.Perm k) (hl : l.Pairwise R) : k.Pairwise R := (h.pairwise_iff fun {x y} => hs x y).1 hl
theorem put_ok {t : TC} {x : RC} (h : OkP t) (hm : t.recs.length < 16) (hn : t.next < 2147483648) (hx : isAt x.name t.recs = false) (ha : ({ x with id := t.next } : RC).aloneB = true) (hk : kinP t.recs { x with id := t.next }) : OkP (putT t x) := by
  have hp : (layL { x with id := t.next } t.recs).Perm ({ x with id := t.next } :: t.recs) := layL_perm _ _
  have hsub : ∀ y ∈ t.recs, ∃ y' ∈ layL { x with id := t.next } t.recs, y'.name = y.name ∧ y'.id = y.id ∧ y'.kind = y.kind := fun y hy => ⟨y, hp.symm.subset (.tail _ hy), rfl, rfl, rfl⟩
  refine ⟨⟨by have := h.next.1; show 1 ≤ t.next + 1; omega, by show t.next + 1 ≤ 2147483648; omega⟩, ?_, h.devs, h.cur, h.lives, fun y hy => ?_, ?_, ?_, fun y hy => ?_, fun y hy => ?_⟩
  · show (layL _ t.recs).length ≤ 16
    rw [layL_length]
    omega
  · rcases List.mem_cons.1 (hp.subset hy) with rfl | hy
    · exact ha
    · exact h.alone y hy
  · exact layL_sorted h.lt fun y hy => isAt_no hx y hy
  · refine perm_pair (fun x y hxy => Ne.symm hxy) hp.symm (List.pairwise_cons.2 ⟨fun y hy => ?_, h.ids⟩)
    have := h.low y hy
    show t.next ≠ y.id
    omega
  · show y.id < t.next + 1
    rcases List.mem_cons.1 (hp.subset hy) with rfl | hy
    · show t.next < t.next + 1
      omega
    · have := h.low y hy
      omega
  · rcases List.mem_cons.1 (hp.subset hy) with rfl | hy
    · exact hk.mono hsub
    · exact (h.kin y hy).mono hsub
theorem set_same {α : Type} {l : List α} {k : Nat} {a : α} (h : l[k]? = some a) : l.set k a = l := by
  obtain ⟨hk, rfl⟩ := List.getElem?_eq_some_iff.1 h
  exact List.set_getElem_self hk
theorem set_pair {α β : Type} {f : α → β} {S : β → β → Prop} {l : List α} {k : Nat} {v y : α} (hk : l[k]? = some v) (hf : f y = f v) (h : l.Pairwise fun a b => S (f a) (f b)) : (l.set k y).Pairwise fun a b => S (f a) (f b) := by
  rw [← List.pairwise_map (f := f)] at h ⊢
  rw [List.map_set, set_same (by rw [List.getElem?_map, hk, hf]; rfl)]
  exact h
theorem set_ok {t : TC} {k : Nat} {v y : RC} (h : OkP t) (hv : t.recs[k]? = some v) (hi : y.id = v.id) (hn : y.name = v.name) (hkd : y.kind = v.kind) (ho : y.own = v.own) (hg : y.origin = v.origin) (ha : y.aloneB = true) : OkP { t with recs := t.recs.set k y } := by
  have hvm := List.mem_of_getElem? hv
  have hlt : k < t.recs.length := (List.getElem?_eq_some_iff.1 hv).1
  have hmem : ∀ x ∈ t.recs.set k y, x ∈ t.recs ∨ x = y := fun x hx => List.mem_or_eq_of_mem_set hx
  have hym : y ∈ t.recs.set k y := List.mem_of_getElem? (List.getElem?_set_self hlt)
  have hsub : ∀ u ∈ t.recs, ∃ u' ∈ t.recs.set k y, u'.name = u.name ∧ u'.id = u.id ∧ u'.kind = u.kind := fun u hu => by
    obtain ⟨i, hu⟩ := List.getElem?_of_mem hu
    by_cases e : i = k
    · subst e
      rw [hv] at hu
      cases hu
      exact ⟨y, hym, hn, hi, hkd⟩
    · exact ⟨u, List.mem_of_getElem? (by rw [List.getElem?_set_ne (Ne.symm e)]; exact hu), rfl, rfl, rfl⟩
  refine ⟨h.next, by show (t.recs.set k y).length ≤ 16; rw [List.length_set]; exact h.many, h.devs, h.cur, h.lives, fun x hx => ?_, set_pair (f := fun r : RC => r.name) (S := fun a b => lessL a b = true) hv hn h.lt, set_pair (f := fun r : RC => r.id) (S := fun a b => a ≠ b) hv hi h.ids, fun x hx => ?_, fun x hx => ?_⟩
  · rcases hmem x hx with hx | rfl
    · exact h.alone x hx
    · exact ha
  · rcases hmem x hx with hx | rfl
    · exact h.low x hx
    · rw [hi]; exact h.low v hvm
  · rcases hmem x hx with hx | rfl
    · exact (h.kin x hx).mono hsub
    · have := (h.kin v hvm).mono hsub
      unfold kinP at this ⊢
      rw [hkd, hn, ho, hg]
      exact this
theorem mem_erase {l : List RC} {k : Nat} {r u : RC} (hr : l[k]? = some r) (hu : u ∈ l) (hne : u ≠ r) : u ∈ l.eraseIdx k := by
  obtain ⟨i, hi⟩ := List.getElem?_of_mem hu
  have hik : i ≠ k := by
    rintro rfl
    rw [hr] at hi
    exact hne (Option.some.inj hi).symm
  rw [List.mem_eraseIdx_iff_getElem?]
  exact ⟨i, hik, hi⟩
theorem drop_ok {t : TC} {k : Nat} {r : RC} (h : OkP t) (hr : t.recs[k]? = some r) (hb : ∀ x ∈ t.recs, x.own ≠ r.id ∧ x.origin ≠ r.id) : OkP { t with recs := t.recs.eraseIdx k } := by
  have hs := List.eraseIdx_sublist t.recs k
  refine ⟨h.next, Nat.le_trans hs.length_le h.many, h.devs, h.cur, h.lives, fun x hx => h.alone x (hs.subset hx), h.lt.sublist hs, h.ids.sublist hs, fun x hx => h.low x (hs.subset hx), fun x hx => ?_⟩
  have hx' := hs.subset hx
  have hk := h.kin x hx'
  unfold kinP at hk ⊢
  split
  · rename_i h2
    rw [if_pos h2] at hk
    obtain ⟨v, hv, h3, h4⟩ := hk
    exact ⟨v, mem_erase hr hv (fun e => (hb x hx').1 (by rw [← h4, e])), h3, h4⟩
  · rename_i h2
    rw [if_neg h2] at hk
    rcases hk with hk | ⟨y, hy, h3, h4⟩
    · exact .inl hk
    · exact .inr ⟨y, mem_erase hr hy (fun e => (hb x hx').2 (by rw [← h3, e])), h3, h4⟩
theorem alone_name {r : RC} {z : List UInt8} (h : r.aloneB = true) (h1 : r.kind = 1 → partB z = true) (h2 : r.kind = 2 → snapB z = true) : ({ r with name := z } : RC).aloneB = true := by
  have hk := alone_kind h
  unfold RC.aloneB at h ⊢
  rw [Bool.and_eq_true] at h ⊢
  refine ⟨h.1, ?_⟩
  have h4 := h.2
  unfold RC.kindB at h4 ⊢
  rcases hk with ⟨k1, _⟩ | ⟨k2, _⟩
  · rw [if_pos (by simpa using k1)] at h4 ⊢
    simp only [Bool.and_eq_true] at h4 ⊢
    exact ⟨⟨⟨⟨h1 k1, h4.1.1.1.2⟩, h4.1.1.2⟩, h4.1.2⟩, h4.2⟩
  · rw [if_neg (by simp [k2]), if_pos (by simpa using k2)] at h4 ⊢
    simp only [Bool.and_eq_true] at h4 ⊢
    exact ⟨⟨⟨⟨⟨h2 k2, h4.1.1.1.1.2⟩, h4.1.1.1.2⟩, h4.1.1.2⟩, h4.1.2⟩, h4.2⟩
theorem ren_same (nm tn : List UInt8) (x : RC) : (renR nm tn x).id = x.id ∧ (renR nm tn x).kind = x.kind ∧ (renR nm tn x).own = x.own ∧ (renR nm tn x).origin = x.origin ∧ (renR nm tn x).made = x.made ∧ (renR nm tn x).l = x.l ∧ (renR nm tn x).b = x.b ∧ (renR nm tn x).v = x.v ∧ (renR nm tn x).S = x.S := by
  unfold renR
  split
  · exact ⟨rfl, rfl, rfl, rfl, rfl, rfl, rfl, rfl, rfl⟩
  · split <;> exact ⟨rfl, rfl, rfl, rfl, rfl, rfl, rfl, rfl, rfl⟩
theorem part_not_snap {s : List UInt8} (h : partB s = true) : snapB s = false := by unfold snapB; rw [part_split h]
theorem alike_part {nm tn : List UInt8} (h : alikeB nm tn = true) (hp : partB nm = true) : partB tn = true := by
  unfold alikeB at h
  rcases Bool.or_eq_true_iff.1 h with h | h
  · exact (Bool.and_eq_true_iff.1 h).2
  · rw [part_split hp] at h
    simp at h
theorem alike_snap {nm tn : List UInt8} (h : alikeB nm tn = true) (hp : snapB nm = true) : snapB tn = true ∧ (splitL tn).1 = (splitL nm).1 := by
  unfold alikeB at h
  rcases Bool.or_eq_true_iff.1 h with h | h
  · have := part_not_snap (Bool.and_eq_true_iff.1 h).1
    rw [hp] at this
    cases this
  · simp only [Bool.and_eq_true, beq_iff_eq] at h
    exact ⟨h.1.2, h.2.symm⟩
theorem rename_ok {t : TC} {nm tn : List UInt8} (h : OkP t) (ha : alikeB nm tn = true) (ht : isAt tn t.recs = false) : OkP { t with recs := sortL (t.recs.map (renR nm tn)) } := by
  have hok := okP_iff.2 h
  have hp := sortL_perm (t.recs.map (renR nm tn))
  have hmem : ∀ y ∈ sortL (t.recs.map (renR nm tn)), ∃ x ∈ t.recs, y = renR nm tn x := fun y hy => by
    obtain ⟨x, hx, e⟩ := List.mem_map.1 (hp.subset hy)
    exact ⟨x, hx, e.symm⟩
  have hto : ∀ x ∈ t.recs, renR nm tn x ∈ sortL (t.recs.map (renR nm tn)) := fun x hx => hp.symm.subset (List.mem_map_of_mem hx)
  have hpart : ∀ v ∈ t.recs, partB v.name = true → v.name ≠ nm → renR nm tn v = v := fun v hv h1 h2 => by
    rcases ren_ways hok ha hv with ⟨e, _⟩ | ⟨_, p, _, _, _, e, _⟩ | ⟨_, r, _⟩
    · exact absurd e h2
    · exact absurd e (at_no h1)
    · exact r
  refine ⟨h.next, ?_, h.devs, h.cur, h.lives, fun y hy => ?_, sortL_sorted (ren_distinct hok ha ht), ?_, fun y hy => ?_, fun y hy => ?_⟩
  · show (sortL _).length ≤ 16
    rw [hp.length_eq, List.length_map]
    exact h.many
  · obtain ⟨x, hx, rfl⟩ := hmem y hy
    have hax := h.alone x hx
    rcases ren_ways hok ha hx with ⟨e, r⟩ | ⟨_, p, a1, a2, a3, e, r⟩ | ⟨_, r, _⟩
    · rw [r]
      rcases alone_kind hax with ⟨k1, n1⟩ | ⟨k2, n2⟩
      · rw [e] at n1
        exact alone_name hax (fun _ => alike_part ha n1) (fun k => by omega)
      · rw [e] at n2
        exact alone_name hax (fun k => by omega) (fun _ => (alike_snap ha n2).1)
    · rw [r]
      rcases alone_kind hax with ⟨k1, n1⟩ | ⟨k2, n2⟩
      · exact absurd e (at_no n1)
      · exact alone_name hax (fun k => by omega) (fun _ => by unfold snapB; rw [split_joined a2 a3])
    · rw [r]; exact hax
  · refine perm_pair (fun x y hxy => Ne.symm hxy) hp.symm ?_
    rw [List.pairwise_map]
    refine h.ids.imp fun {x y} hxy => ?_
    rw [(ren_same nm tn x).1, (ren_same nm tn y).1]
    exact hxy
  · obtain ⟨x, hx, rfl⟩ := hmem y hy
    show (renR nm tn x).id < t.next
    rw [(ren_same nm tn x).1]
    exact h.low x hx
  · obtain ⟨x, hx, rfl⟩ := hmem y hy
    have hk := h.kin x hx
    obtain ⟨s1, s2, s3, s4, _⟩ := ren_same nm tn x
    unfold kinP at hk ⊢
    rw [s2, s3, s4]
    split
    · rename_i k2
      rw [if_pos k2] at hk
      obtain ⟨v, hv, hvn, hvi⟩ := hk
      have hsn : snapB x.name = true := by
        rcases alone_kind (h.alone x hx) with ⟨k1, _⟩ | ⟨_, n2⟩
        · omega
        · exact n2
      obtain ⟨a, b, hs, he, hpa, hpb⟩ := snap_form hsn
      have hvp : partB v.name = true := by rw [hvn, hs]; exact hpa
      rcases ren_ways hok ha hx with ⟨e, r⟩ | ⟨e0, p, a1, a2, a3, e, r⟩ | ⟨_, r, hno⟩
      · rw [e] at hsn
        have hal := alike_snap ha hsn
        refine ⟨v, ?_, ?_, hvi⟩
        · have := hto v hv
          rwa [hpart v hv hvp (fun e2 => by rw [e2] at hvp; rw [part_not_snap hvp] at hsn; cases hsn)] at this
        · rw [r, hvn, e]
          exact hal.2.symm
      · have hvn2 : v.name = nm := by rw [hvn, e, split_joined a1 a3]
        refine ⟨renR nm tn v, hto v hv, ?_, by rw [(ren_same nm tn v).1]; exact hvi⟩
        rw [r]
        show (renR nm tn v).name = (splitL (tn ++ 64 :: p)).1
        rw [split_joined a2 a3]
        rcases ren_ways hok ha hv with ⟨_, rv⟩ | ⟨e3, _⟩ | ⟨e3, _⟩
        · rw [rv]
        · exact absurd hvn2 e3
        · exact absurd hvn2 e3
      · refine ⟨v, ?_, by rw [r]; exact hvn, hvi⟩
        have := hto v hv
        rwa [hpart v hv hvp (fun e2 => hno ⟨hsn, by rw [← hvn]; exact e2⟩)] at this
    · rename_i k2
      rw [if_neg k2] at hk
      rcases hk with hk | ⟨y, hy, h1, h2⟩
      · exact .inl hk
      · exact .inr ⟨renR nm tn y, hto y hy, by rw [(ren_same nm tn y).1]; exact h1, by rw [(ren_same nm tn y).2.1]; exact h2⟩
end Go.Proofs.YtifajcblbedcoaaGreat
namespace Go.Proofs.YtifajcblbedcoaaGreat
set_option linter.unusedVariables false
set_option linter.unusedSimpArgs false
open Go.RowKit Hp
def Rt (x y : RC) : Prop := x.l = y.l ∧ x.b = y.b ∧ x.v = y.v ∧ x.S = y.S
theorem Rt.refl (x : RC) : Rt x x := ⟨rfl, rfl, rfl, rfl⟩
structure Keeps (t u : TC) (txg : Int) : Prop where
  ok : OkP u
  grow : (u.recs.length = t.recs.length ∧ u.next = t.next) ∨ (u.recs.length = t.recs.length + 1 ∧ u.next = t.next + 1) ∨ (u.recs.length + 1 = t.recs.length ∧ u.next = t.next)
  made : u.recs.length = t.recs.length + 1 → ∀ x ∈ u.recs, x.id = t.next → x.made = txg
def Froms (t u : TC) : Prop := ∀ x ∈ u.recs, ∃ y ∈ t.recs, Rt y x
def Tos (t u : TC) : Prop := ∀ y ∈ t.recs, ∃ x ∈ u.recs, Rt x y
theorem op_zero {t : TC} {r : TR} (hk : t.ok = true) (h : (opR t r).1 = 0) : r.1 = 0 ∧ opR t r = r := by
  unfold opR at h ⊢
  rw [if_pos hk] at h ⊢
  by_cases e : (r.1 == 0) = true
  · rw [if_pos e] at h ⊢
    exact ⟨h, rfl⟩
  · rw [if_neg e] at h
    have h' : r.1 = 0 := h
    rw [h'] at e
    exact absurd rfl e
theorem room_zero {t : TC} {nm : List UInt8} (h : (roomE t nm == 0) = true) : isAt nm t.recs = false ∧ t.recs.length < 16 ∧ t.next < 2147483648 := by
  unfold roomE at h
  cases hi : isAt nm t.recs with
  | true => rw [hi] at h; simp at h
  | false =>
    rw [hi] at h
    cases hf : fullB t with
    | true => rw [hf] at h; simp at h
    | false =>
      unfold fullB at hf
      simp only [Bool.or_eq_false_iff, decide_eq_false_iff_not] at hf
      exact ⟨rfl, by omega, by omega⟩
theorem rec_mem {nm : List UInt8} {l : List RC} {x : RC} (h : recAt nm l = some x) : x ∈ l ∧ x.name = nm := ⟨List.mem_of_find?_eq_some h, by simpa using List.find?_some h⟩
/-- One is put in. -/
theorem put_keeps {t : TC} {x : RC} (h : OkP t) (hr : (roomE t x.name == 0) = true) (ha : ({ x with id := t.next } : RC).aloneB = true) (hk : kinP t.recs { x with id := t.next }) : Keeps t (putT t x) x.made ∧ Tos t (putT t x) ∧ ((∃ y ∈ t.recs, Rt y x) → Froms t (putT t x)) := by
  obtain ⟨h1, h2, h3⟩ := room_zero hr
  have hp : (layL { x with id := t.next } t.recs).Perm ({ x with id := t.next } :: t.recs) := layL_perm _ _
  refine ⟨⟨put_ok h h2 h3 h1 ha hk, .inr (.inl ⟨layL_length _ _, rfl⟩), fun _ y hy he => ?_⟩, fun y hy => ⟨y, hp.symm.subset (.tail _ hy), Rt.refl y⟩, fun hf y hy => ?_⟩
  · rcases List.mem_cons.1 (hp.subset hy) with rfl | hy
    · rfl
    · have := h.low y hy
      omega
  · rcases List.mem_cons.1 (hp.subset hy) with rfl | hy
    · obtain ⟨z, hz, q⟩ := hf
      exact ⟨z, hz, q⟩
    · exact ⟨y, hy, Rt.refl y⟩
/-- One is turned. -/
theorem set_keeps {t : TC} {k : Nat} {v y : RC} (h : OkP t) (hv : t.recs[k]? = some v) (hi : y.id = v.id) (hn : y.name = v.name) (hkd : y.kind = v.kind) (ho : y.own = v.own) (hg : y.origin = v.origin) (ha : y.aloneB = true) (txg : Int) :
    Keeps t { t with recs := t.recs.set k y } txg ∧ ((∃ z ∈ t.recs, Rt z y) → Froms t { t with recs := t.recs.set k y }) ∧ (Rt y v → Tos t { t with recs := t.recs.set k y }) := by
  refine ⟨⟨set_ok h hv hi hn hkd ho hg ha, .inl ⟨List.length_set, rfl⟩, fun hh => ?_⟩, fun hf x hx => ?_, fun hf x hx => ?_⟩
  · have hh' : (t.recs.set k y).length = t.recs.length + 1 := hh
    rw [List.length_set] at hh'
    omega
  · rcases List.mem_or_eq_of_mem_set hx with hx | rfl
    · exact ⟨x, hx, Rt.refl x⟩
    · exact hf
  · obtain ⟨j, hj⟩ := List.getElem?_of_mem hx
    by_cases e : j = k
    · subst e
      rw [hv] at hj
      cases hj
      exact ⟨y, List.mem_of_getElem? (i := j) (by rw [List.getElem?_set_self (List.getElem?_eq_some_iff.1 hv).1]), hf⟩
    · exact ⟨x, List.mem_of_getElem? (i := j) (by rw [List.getElem?_set_ne (Ne.symm e)]; exact hj), Rt.refl x⟩
theorem drop_keeps {t : TC} {k : Nat} {r : RC} (h : OkP t) (hr : t.recs[k]? = some r) (hb : ∀ x ∈ t.recs, x.own ≠ r.id ∧ x.origin ≠ r.id) (txg : Int) : Keeps t { t with recs := t.recs.eraseIdx k } txg ∧ Froms t { t with recs := t.recs.eraseIdx k } := by
  have hk := (List.getElem?_eq_some_iff.1 hr).1
  have hl : (t.recs.eraseIdx k).length + 1 = t.recs.length := by rw [List.length_eraseIdx_of_lt hk]; omega
  refine ⟨⟨drop_ok h hr hb, .inr (.inr ⟨hl, rfl⟩), fun hh => ?_⟩, fun x hx => ⟨x, List.mem_of_mem_eraseIdx hx, Rt.refl x⟩⟩
  have hh' : (t.recs.eraseIdx k).length = t.recs.length + 1 := hh
  omega
theorem rename_keeps {t : TC} {nm tn : List UInt8} (h : OkP t) (ha : alikeB nm tn = true) (ht : isAt tn t.recs = false) (txg : Int) : Keeps t { t with recs := sortL (t.recs.map (renR nm tn)) } txg ∧ Froms t { t with recs := sortL (t.recs.map (renR nm tn)) } ∧ Tos t { t with recs := sortL (t.recs.map (renR nm tn)) } := by
  have hp := sortL_perm (t.recs.map (renR nm tn))
  have hl : (sortL (t.recs.map (renR nm tn))).length = t.recs.length := by rw [hp.length_eq, List.length_map]
  have hrt : ∀ x, Rt (renR nm tn x) x := fun x => by
    have q := ren_same nm tn x
    exact ⟨q.2.2.2.2.2.1, q.2.2.2.2.2.2.1, q.2.2.2.2.2.2.2.1, q.2.2.2.2.2.2.2.2⟩
  refine ⟨⟨rename_ok h ha ht, .inl ⟨hl, rfl⟩, fun hh => ?_⟩, fun y hy => ?_, fun x hx => ⟨_, hp.symm.subset (List.mem_map_of_mem hx), hrt x⟩⟩
  · have hh' : (sortL (t.recs.map (renR nm tn))).length = t.recs.length + 1 := hh
    omega
  · obtain ⟨x, hx, rfl⟩ := List.mem_map.1 (hp.subset hy)
    have q := hrt x
    exact ⟨x, hx, q.1.symm, q.2.1.symm, q.2.2.1.symm, q.2.2.2.symm⟩

/-! ### Each call -/
theorem hole_root : rootB (PV.mk undef [] 0 0 nones) = true := by decide +kernel
theorem root_alone {r s : RC} (h : s.aloneB = true) (hr : Rt r s) : rootB (r.pv undef) = true := by
  unfold RC.aloneB at h
  have h3 : rootB (s.pv undef) = true := (Bool.and_eq_true_iff.1 (Bool.and_eq_true_iff.1 h).1).2
  unfold RC.pv at h3 ⊢
  rw [hr.1, hr.2.1, hr.2.2.1, hr.2.2.2]
  exact h3
theorem alone_mk {r : RC} (h1 : inB r.id 1 2147483647 = true) (h2 : inB r.size 1 64 = true) (h3 : inB r.made 1 2147483648 = true) (h4 : rootB (r.pv undef) = true) (h5 : r.kindB = true) : r.aloneB = true := by
  unfold RC.aloneB
  rw [h1, h2, h3, h4, h5]
  rfl
theorem alone_in {r : RC} (h : r.aloneB = true) : inB r.id 1 2147483647 = true ∧ inB r.size 1 64 = true ∧ inB r.made 1 2147483648 = true ∧ r.kindB = true := by
  unfold RC.aloneB at h
  simp only [Bool.and_eq_true] at h
  exact ⟨h.1.1.1.1, h.1.1.1.2, h.1.1.2, h.2⟩
theorem next_in {t : TC} (h : OkP t) (hn : t.next < 2147483648) : inB t.next 1 2147483647 = true := inB_iff.2 ⟨h.next.1, by omega⟩
theorem kindB_vol {r : RC} (k : r.kind = 1) (h1 : partB r.name = true) (h2 : r.own = 0) (h3 : inB r.origin 0 2147483647 = true) (h4 : inB r.quota 0 64 = true) (h5 : inB r.reserve 0 64 = true) : r.kindB = true := by
  unfold RC.kindB
  rw [k, h1, h2, h3, h4, h5]
  rfl
theorem kindB_snap {r : RC} (k : r.kind = 2) (h1 : snapB r.name = true) (h2 : inB r.own 1 2147483647 = true) (h3 : r.origin = 0) (h4 : r.quota = 0) (h5 : r.reserve = 0) (h6 : r.b ≤ r.made) : r.kindB = true := by
  unfold RC.kindB
  rw [k, h1, h2, h3, h4, h5, decide_eq_true h6]
  rfl
theorem room_no {t : TC} {nm : List UInt8} (hr : ¬ (roomE t nm == 0) = true) (hz : (badR (roomE t nm)).1 = 0) : False := by
  have hz' : roomE t nm = 0 := hz
  rw [hz'] at hr
  exact hr rfl
theorem snap_part {s : List UInt8} (h : snapB s = true) : partB (splitL s).1 = true := by
  obtain ⟨a, b, e, _, ha, _⟩ := snap_form h
  rw [e]
  exact ha
theorem bad_no {e : Int} (h : (badR e).1 = 0) (he : e ≠ 0) : False := he h
theorem in_zero2 : inB 0 0 2147483647 = true := by decide
theorem in_zero : inB 0 0 64 = true := by decide
theorem make_keeps {t : TC} {nm : List UInt8} {size txg : Int} (h : OkP t) (hz : (makeR t nm size txg).1 = 0) : Keeps t (makeR t nm size txg).2 txg ∧ Tos t (makeR t nm size txg).2 := by
  unfold makeR at hz ⊢
  by_cases hc : ((partB nm && inB size 1 64) && txgB txg) = true
  · rw [if_pos hc] at hz ⊢
    by_cases hr : (roomE t nm == 0) = true
    · rw [if_pos hr]
      simp only [Bool.and_eq_true] at hc
      have hn := (room_zero hr).2.2
      have q := put_keeps (x := volR nm size txg) h hr (alone_mk (next_in h hn) hc.1.2 hc.2 hole_root (kindB_vol rfl hc.1.1 rfl in_zero2 in_zero in_zero)) (by unfold kinP; rw [if_neg (by show ¬ (1 : Int) = 2; decide)]; exact .inl rfl)
      exact ⟨q.1, q.2.1⟩
    · rw [if_neg hr] at hz
      exact absurd hz (room_no hr)
  · rw [if_neg hc] at hz
    exact (bad_no (e := 2) hz (by decide)).elim
theorem snap_keeps {t : TC} {nm : List UInt8} {txg : Int} (h : OkP t) (hz : (snapT t nm txg).1 = 0) : Keeps t (snapT t nm txg).2 txg ∧ Froms t (snapT t nm txg).2 ∧ Tos t (snapT t nm txg).2 := by
  unfold snapT at hz ⊢
  by_cases hc : (snapB nm && txgB txg) = true
  · rw [if_pos hc] at hz ⊢
    cases hv : recAt (splitL nm).1 t.recs with
    | none => rw [hv] at hz; exact (bad_no (e := 6) hz (by decide)).elim
    | some v =>
      rw [hv] at hz
      simp only at hz ⊢
      by_cases hr : (roomE t nm == 0) = true
      · rw [if_pos hr] at hz ⊢
        by_cases hb : decide (txg < v.b) = true
        · rw [if_pos hb] at hz
          exact (bad_no (e := 2) hz (by decide)).elim
        · rw [if_neg hb]
          simp only [Bool.and_eq_true] at hc
          have hn := (room_zero hr).2.2
          obtain ⟨hm, he⟩ := rec_mem hv
          have hav := h.alone v hm
          have hpv : v.kind = 1 ∧ partB v.name = true := by
            rcases alone_kind hav with k | ⟨k2, n2⟩
            · exact k
            · rw [he] at n2
              exact absurd (part_not_snap (snap_part hc.1)) (by rw [n2]; decide)
          have q := put_keeps (x := snapR v nm txg) h hr (alone_mk (next_in h hn) (alone_in hav).2.1 hc.2 (root_alone hav ⟨rfl, rfl, rfl, rfl⟩) (kindB_snap rfl hc.1 (alone_in hav).1 rfl rfl rfl (by show v.b ≤ txg; simp at hb; omega))) (by unfold kinP; rw [if_pos (by rfl)]; exact ⟨v, hm, he, rfl⟩)
          exact ⟨q.1, q.2.2 ⟨v, hm, ⟨rfl, rfl, rfl, rfl⟩⟩, q.2.1⟩
      · rw [if_neg hr] at hz
        exact absurd hz (room_no hr)
  · rw [if_neg hc] at hz
    exact (bad_no (e := 2) hz (by decide)).elim
theorem clone_keeps {t : TC} {sp nm : List UInt8} {txg : Int} (h : OkP t) (hz : (cloneT t sp nm txg).1 = 0) : Keeps t (cloneT t sp nm txg).2 txg ∧ Froms t (cloneT t sp nm txg).2 ∧ Tos t (cloneT t sp nm txg).2 := by
  unfold cloneT at hz ⊢
  by_cases hc : ((snapB sp && partB nm) && txgB txg) = true
  · rw [if_pos hc] at hz ⊢
    cases hv : recAt sp t.recs with
    | none => rw [hv] at hz; exact (bad_no (e := 6) hz (by decide)).elim
    | some s =>
      rw [hv] at hz
      simp only at hz ⊢
      by_cases hr : (roomE t nm == 0) = true
      · rw [if_pos hr]
        simp only [Bool.and_eq_true] at hc
        have hn := (room_zero hr).2.2
        obtain ⟨hm, he⟩ := rec_mem hv
        have has := h.alone s hm
        have hk2 : s.kind = 2 := by
          rcases alone_kind has with ⟨k1, n1⟩ | ⟨k2, _⟩
          · rw [he] at n1
            exact absurd hc.1.1 (by rw [part_not_snap n1]; decide)
          · exact k2
        have hid := inB_iff.1 (alone_in has).1
        have q := put_keeps (x := cloneR s nm txg) h hr (alone_mk (next_in h hn) (alone_in has).2.1 hc.2 (root_alone has ⟨rfl, rfl, rfl, rfl⟩) (kindB_vol rfl hc.1.2 rfl (inB_iff.2 ⟨by show 0 ≤ s.id; omega, hid.2⟩) in_zero in_zero)) (by unfold kinP; rw [if_neg (by show ¬ (1 : Int) = 2; decide)]; exact .inr ⟨s, hm, rfl, hk2⟩)
        exact ⟨q.1, q.2.2 ⟨s, hm, ⟨rfl, rfl, rfl, rfl⟩⟩, q.2.1⟩
      · rw [if_neg hr] at hz
        exact absurd hz (room_no hr)
  · rw [if_neg hc] at hz
    exact (bad_no (e := 2) hz (by decide)).elim
theorem set_findN {t : TC} {nm : List UInt8} {r y : RC} (hr : recAt nm t.recs = some r) : ∃ k : Nat, t.recs[k]? = some r ∧ r.name = nm ∧ findN nm t.recs = (k : Int) ∧ setN nm t.recs y = t.recs.set k y := by
  rcases find_split (nm := nm) (l := t.recs) with ⟨h1, _⟩ | ⟨j, z, h1, h2, h3, _, h5⟩
  · rw [h1] at hr
    cases hr
  · rw [h2] at hr
    cases hr
    exact ⟨j, h1, h5, h3, by unfold setN; rw [h3]; rfl⟩
theorem roll_keeps {t : TC} {sp : List UInt8} (txg : Int) (h : OkP t) (hz : (rollT t sp).1 = 0) : Keeps t (rollT t sp).2 txg ∧ Froms t (rollT t sp).2 := by
  unfold rollT at hz ⊢
  by_cases hc : snapB sp = true
  · rw [if_pos hc] at hz ⊢
    cases hv : recAt sp t.recs with
    | none => rw [hv] at hz; exact (bad_no (e := 6) hz (by decide)).elim
    | some s =>
      rw [hv] at hz
      simp only at hz ⊢
      split at hz
      next => exact (bad_no (e := 17) hz (by decide)).elim
      next hb =>
        rw [if_neg hb]
        obtain ⟨k, v, h1, h2, h3, h4, h5, h6⟩ := snap_vol (okP_iff.2 h) hc hv
        rw [h2]
        simp only
        obtain ⟨hm, he⟩ := rec_mem hv
        have has := h.alone s hm
        have hav := h.alone v (List.mem_of_getElem? h1)
        obtain ⟨k', q1, q2, q3, q4⟩ := set_findN (y := backR v s) h2
        rw [h3] at q3
        have ek : k' = k := by omega
        subst ek
        rw [q4]
        have hvk : v.kind = 1 ∧ partB v.name = true := by
          rcases alone_kind hav with q | ⟨_, n2⟩
          · exact q
          · rw [q2] at n2
            exact absurd (part_not_snap (snap_part hc)) (by rw [n2]; decide)
        have q := set_keeps (y := backR v s) h h1 rfl rfl rfl rfl rfl (alone_mk (alone_in hav).1 (alone_in has).2.1 (alone_in hav).2.2.1 (root_alone has ⟨rfl, rfl, rfl, rfl⟩) (by have e := (alone_in hav).2.2.2; unfold RC.kindB at e ⊢; rw [if_pos (by simp [hvk.1])] at e; rw [if_pos (by show (v.kind == 1) = true; simp [hvk.1])]; exact e)) txg
        exact ⟨q.1, q.2.1 ⟨s, hm, ⟨rfl, rfl, rfl, rfl⟩⟩⟩
  · rw [if_neg hc] at hz
    exact (bad_no (e := 2) hz (by decide)).elim
theorem dropT_keeps {t : TC} {nm : List UInt8} (txg : Int) (h : OkP t) (hz : (dropT t nm).1 = 0) : Keeps t (dropT t nm).2 txg ∧ Froms t (dropT t nm).2 := by
  unfold dropT at hz ⊢
  by_cases hc : namedB nm = true
  · rw [if_pos hc] at hz ⊢
    cases hv : recAt nm t.recs with
    | none => rw [hv] at hz; exact (bad_no (e := 6) hz (by decide)).elim
    | some r =>
      rw [hv] at hz
      simp only at hz ⊢
      split at hz
      next => exact (bad_no (e := 17) hz (by decide)).elim
      next hb =>
        rw [if_neg hb]
        obtain ⟨k, q1, q2, q3, _⟩ := set_findN (y := r) hv
        rw [q3]
        exact drop_keeps h q1 (fun x hx => ⟨fun e => hb (List.any_eq_true.2 ⟨x, hx, by simp [e]⟩), fun e => hb (List.any_eq_true.2 ⟨x, hx, by simp [e]⟩)⟩) txg
  · rw [if_neg hc] at hz
    exact (bad_no (e := 2) hz (by decide)).elim
theorem renT_keeps {t : TC} {nm tn : List UInt8} (txg : Int) (h : OkP t) (hz : (renameT t nm tn).1 = 0) : Keeps t (renameT t nm tn).2 txg ∧ Froms t (renameT t nm tn).2 ∧ Tos t (renameT t nm tn).2 := by
  unfold renameT at hz ⊢
  by_cases hc : alikeB nm tn = true
  · rw [if_pos hc] at hz ⊢
    by_cases h1 : isAt nm t.recs = true
    · rw [if_pos h1] at hz ⊢
      by_cases h2 : isAt tn t.recs = true
      · rw [if_pos h2] at hz
        exact (bad_no (e := 7) hz (by decide)).elim
      · rw [if_neg h2]
        exact rename_keeps h hc (by simpa using h2) txg
    · rw [if_neg h1] at hz
      exact (bad_no (e := 6) hz (by decide)).elim
  · rw [if_neg hc] at hz
    exact (bad_no (e := 2) hz (by decide)).elim
/-- A volume is turned. -/
theorem change_keeps {t : TC} {nm : List UInt8} {fine : Bool} {f : RC → RC} (txg : Int) (h : OkP t) (hf : ∀ v : RC, (f v).id = v.id ∧ (f v).name = v.name ∧ (f v).kind = v.kind ∧ (f v).own = v.own ∧ (f v).origin = v.origin) (ha : fine = true → ∀ v : RC, v.aloneB = true → v.kind = 1 → (f v).aloneB = true) (hz : (changeT t nm fine f).1 = 0) :
    Keeps t (changeT t nm fine f).2 txg ∧ ((∀ v, Rt (f v) v) → Froms t (changeT t nm fine f).2 ∧ Tos t (changeT t nm fine f).2) := by
  unfold changeT at hz ⊢
  by_cases hc : (fine && namedB nm) = true
  · rw [if_pos hc] at hz ⊢
    cases hv : recAt nm t.recs with
    | none => rw [hv] at hz; exact (bad_no (e := 6) hz (by decide)).elim
    | some r =>
      rw [hv] at hz
      simp only at hz ⊢
      by_cases h2 : (r.kind == 2) = true
      · rw [if_pos h2] at hz
        exact (bad_no (e := 18) hz (by decide)).elim
      · rw [if_neg h2]
        simp only [Bool.and_eq_true] at hc
        obtain ⟨k, q1, q2, q3, q4⟩ := set_findN (y := f r) hv
        rw [q4]
        have hm := List.mem_of_getElem? q1
        have har := h.alone r hm
        have hk : r.kind = 1 := by
          rcases alone_kind har with q | q
          · exact q.1
          · rw [q.1] at h2; exact absurd rfl h2
        obtain ⟨f1, f2, f3, f4, f5⟩ := hf r
        have q := set_keeps (y := f r) h q1 f1 f2 f3 f4 f5 (ha hc.1 r har hk) txg
        exact ⟨q.1, fun hr => ⟨q.2.1 ⟨r, hm, by have e := hr r; exact ⟨e.1.symm, e.2.1.symm, e.2.2.1.symm, e.2.2.2.symm⟩⟩, q.2.2 (hr r)⟩⟩
  · rw [if_neg hc] at hz
    exact (bad_no (e := 2) hz (by decide)).elim
theorem kindB_turn {r : RC} {sz q s : Int} {l : List (Int × Int)} {b v : Int} {S : List UInt8} (h : r.kindB = true) (k : r.kind = 1) (hq : inB q 0 64 = true) (hs : inB s 0 64 = true) : RC.kindB { r with size := sz, quota := q, reserve := s, l := l, b := b, v := v, S := S } = true := by
  unfold RC.kindB at h ⊢
  rw [if_pos (by simp [k])] at h
  rw [if_pos (by show (r.kind == 1) = true; simp [k])]
  simp only [Bool.and_eq_true] at h ⊢
  exact ⟨⟨h.1.1, hq⟩, hs⟩
theorem quota_in {r : RC} (h : r.kindB = true) (k : r.kind = 1) : inB r.quota 0 64 = true ∧ inB r.reserve 0 64 = true := by
  unfold RC.kindB at h
  rw [if_pos (by simp [k])] at h
  simp only [Bool.and_eq_true] at h
  exact ⟨h.1.2, h.2⟩
theorem resize_keeps {t : TC} {nm : List UInt8} {size : Int} (txg : Int) (h : OkP t) (hz : (resizeT t nm size).1 = 0) : Keeps t (resizeT t nm size).2 txg ∧ Froms t (resizeT t nm size).2 ∧ Tos t (resizeT t nm size).2 := by
  have q := change_keeps (fine := inB size 1 64) (f := fun v => { v with size := size }) txg h (fun v => ⟨rfl, rfl, rfl, rfl, rfl⟩) (fun hc v hv hk => alone_mk (alone_in hv).1 hc (alone_in hv).2.2.1 (root_alone hv ⟨rfl, rfl, rfl, rfl⟩) (kindB_turn (alone_in hv).2.2.2 hk (quota_in (alone_in hv).2.2.2 hk).1 (quota_in (alone_in hv).2.2.2 hk).2)) hz
  exact ⟨q.1, q.2 fun v => Rt.refl v⟩
theorem limit_keeps {t : TC} {nm : List UInt8} {a b : Int} (txg : Int) (h : OkP t) (hz : (limitT t nm a b).1 = 0) : Keeps t (limitT t nm a b).2 txg ∧ Froms t (limitT t nm a b).2 ∧ Tos t (limitT t nm a b).2 := by
  have q := change_keeps (fine := limB a && limB b) (f := fun v => { v with quota := a, reserve := b }) txg h (fun v => ⟨rfl, rfl, rfl, rfl, rfl⟩) (fun hc v hv hk => by
    simp only [Bool.and_eq_true] at hc
    exact alone_mk (alone_in hv).1 (alone_in hv).2.1 (alone_in hv).2.2.1 (root_alone hv ⟨rfl, rfl, rfl, rfl⟩) (kindB_turn (alone_in hv).2.2.2 hk hc.1 hc.2)) hz
  exact ⟨q.1, q.2 fun v => Rt.refl v⟩
theorem root_any_sv {p : PV} {sv : Value} (h : rootB p = true) : rootB { p with sv := sv } = true := h
theorem rootT_keeps {t : TC} {nm : List UInt8} {p : PV} (txg : Int) (h : OkP t) (hz : (rootT t nm p).1 = 0) : Keeps t (rootT t nm p).2 txg := by
  have q := change_keeps (fine := rootB p) (f := fun v => { v with l := p.l, b := p.b, v := p.v, S := p.S }) txg h (fun v => ⟨rfl, rfl, rfl, rfl, rfl⟩) (fun hc v hv hk => alone_mk (alone_in hv).1 (alone_in hv).2.1 (alone_in hv).2.2.1 hc (kindB_turn (alone_in hv).2.2.2 hk (quota_in (alone_in hv).2.2.2 hk).1 (quota_in (alone_in hv).2.2.2 hk).2)) hz
  exact q.1
end Go.Proofs.YtifajcblbedcoaaGreat
