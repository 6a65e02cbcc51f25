/- The chapter's examples, walked. -/
import Derived.Test.YtifajcblbedcoaaGreatJDirKeepsg
import Derived.Test.YtifajcblbedcoaaGreatJDirKeepsd
namespace Go.Proofs.YtifajcblbedcoaaGreat
set_option linter.unusedVariables false
set_option linter.unusedSimpArgs false
open Go.RowKit Hp
attribute [local irreducible] Go.Calls Go.wpList
set_option maxRecDepth 100000
set_option maxHeartbeats 8000000
attribute [local go_sem ↓] heldInt heldInts heldRecs heldRec heldStr heldTab heldPtr heldFn
/-- A call on a table, as plain data. -/
structure AD where
  (kind n txg : Int)
  nm : List UInt8
  tn : List UInt8
  p : PV
def AD.cells (x : AD) : List Value := .int .i64 x.kind :: .string ⟨x.nm.toArray⟩ :: .string ⟨x.tn.toArray⟩ :: .int .i64 x.n :: .int .i64 x.txg :: x.p.cells
/-- No more than is gone through. -/
structure AD.Few (x : AD) (w : World) : Prop where
  nm : x.nm.length ≤ 1000000
  tn : x.tn.length ≤ 1000000
  p : x.p.In w
  l : x.p.l.length ≤ 100000
def doR (t : TC) (x : AD) : TR :=
  if x.kind = 0 then opR t (makeR t x.nm x.n x.txg) else if x.kind = 1 then opR t (snapT t x.nm x.txg) else if x.kind = 2 then opR t (cloneT t x.nm x.tn x.txg) else if x.kind = 3 then opR t (rollT t x.nm)
  else if x.kind = 4 then opR t (dropT t x.nm) else if x.kind = 5 then opR t (renameT t x.nm x.tn) else if x.kind = 6 then opR t (resizeT t x.nm x.n) else if x.kind = 7 then opR t (limitT t x.nm x.n x.txg) else if x.kind = 8 then opR t (rootT t x.nm x.p) else (0, t)
def AD.idle (x : AD) : Bool := decide (x.kind < 0) || decide (8 < x.kind)
theorem does_0 (t : TC) (ar al : Option Addr) (nr cr nl cl : Nat) (xs : List (Value × RC)) (w : World) (ht : TabIn w t ar nr cr al nl cl xs) (z txg : Int) (nm tn : List UInt8) (p : PV) (hx : AD.Few ⟨0, z, txg, nm, tn, p⟩ w) :
    Calls Tryz.prog 11 #[.agg (tabC t (.slice ar nr cr) (.slice al nl cl)).toArray, .agg (AD.cells ⟨0, z, txg, nm, tn, p⟩).toArray] w (TabRet (opR t (makeR t nm z txg)) w) := by
  have hst0 := St.refl w
  have HT := hid ht
  have HX := hid hx
  have H35 := hid (PV.len hx.p.1)
  clear ht hx
  obtain ⟨r, hr⟩ : ∃ r, r = opR t (makeR t nm z txg) := ⟨_, rfl⟩
  rw [← hr]
  have HR := hid hr
  clear hr
  go_enter Tryz.func11, Tryz.ntmps11
  go_wp2_with (first | go_big_skip | go_big_guard | (refine wl_boxA hst0 rfl rfl rfl ?_; intro g2 w1 hA0; clear hst0) | (refine wl_boxA hA0 rfl rfl rfl ?_; intro g3 w2 hA1; clear hA0) | (refine wl_alloc hA1 rfl rfl ?_; intro g4 w3 hst; clear hA1) | (refine wl_loadE rfl rfl rfl ?_; first | refine ⟨_, Loads.atA p.cells [_] hst H35.out (by show List.take p.cells.length p.cells = p.cells; exact List.take_length), ?_⟩ | refine ⟨_, Loads.atA (tabC t (.slice ar nr cr) (.slice al nl cl)) [_, _] hst rfl rfl, ?_⟩ | refine ⟨_, Loads.at [_] hst rfl, ?_⟩) | (go_at_call 25; refine (make13_any t ar al nr cr nl cl xs _ (HT.out.old hst.nil) nm z txg HX.out.nm).mono ?_; rw [← HR.out]; rintro _ w9 ⟨rv9, lv9, xs9, rfl, hok9, h4⟩; have hst2 := St.call hst h4; clear h4 hst; obtain ⟨a9, c9, rfl, _, _⟩ := rowS [] hst2; obtain ⟨a8, c8, rfl, _, _⟩ := rowS [_] hst2; have HOK := hid hok9; clear hok9) | (refine wl_storeA (_ :: _ :: List.map rootH xs9) hst2 rfl rfl rfl rfl (vs := tabC r.2 (.slice a9 xs9.length c9) (.slice a8 r.2.lives.length c8)) rfl rfl rfl ?_; intro w7 hst3; clear hst2))
  have hl := Loads.atA (P := Tryz.prog) (off := 0) (T := 27) (tabC r.2 (.slice a9 xs9.length c9) (.slice a8 r.2.lives.length c8)) (_ :: _ :: List.map rootH xs9) hst3 rfl rfl
  refine bodyPost_ret (results_cellR rfl rfl rfl hl) rfl ?_
  exact ⟨_, _, xs9, rfl, HOK.out, St.sub hst3 (.cons_cons _ (.cons_cons _ (List.sublist_append_left _ _)))⟩
theorem does_1 (t : TC) (ar al : Option Addr) (nr cr nl cl : Nat) (xs : List (Value × RC)) (w : World) (ht : TabIn w t ar nr cr al nl cl xs) (z txg : Int) (nm tn : List UInt8) (p : PV) (hx : AD.Few ⟨1, z, txg, nm, tn, p⟩ w) :
    Calls Tryz.prog 11 #[.agg (tabC t (.slice ar nr cr) (.slice al nl cl)).toArray, .agg (AD.cells ⟨1, z, txg, nm, tn, p⟩).toArray] w (TabRet (opR t (snapT t nm txg)) w) := by
  have hst0 := St.refl w
  have HT := hid ht
  have HX := hid hx
  have H35 := hid (PV.len hx.p.1)
  clear ht hx
  obtain ⟨r, hr⟩ : ∃ r, r = opR t (snapT t nm txg) := ⟨_, rfl⟩
  rw [← hr]
  have HR := hid hr
  clear hr
  go_enter Tryz.func11, Tryz.ntmps11
  go_wp2_with (first | go_big_skip | go_big_guard | (refine wl_boxA hst0 rfl rfl rfl ?_; intro g2 w1 hA0; clear hst0) | (refine wl_boxA hA0 rfl rfl rfl ?_; intro g3 w2 hA1; clear hA0) | (refine wl_alloc hA1 rfl rfl ?_; intro g4 w3 hst; clear hA1) | (refine wl_loadE rfl rfl rfl ?_; first | refine ⟨_, Loads.atA p.cells [_] hst H35.out (by show List.take p.cells.length p.cells = p.cells; exact List.take_length), ?_⟩ | refine ⟨_, Loads.atA (tabC t (.slice ar nr cr) (.slice al nl cl)) [_, _] hst rfl rfl, ?_⟩ | refine ⟨_, Loads.at [_] hst rfl, ?_⟩) | (go_at_call 26; refine (snap13_any t ar al nr cr nl cl xs _ (HT.out.old hst.nil) nm txg HX.out.nm).mono ?_; rw [← HR.out]; rintro _ w9 ⟨rv9, lv9, xs9, rfl, hok9, h4⟩; have hst2 := St.call hst h4; clear h4 hst; obtain ⟨a9, c9, rfl, _, _⟩ := rowS [] hst2; obtain ⟨a8, c8, rfl, _, _⟩ := rowS [_] hst2; have HOK := hid hok9; clear hok9) | (refine wl_storeA (_ :: _ :: List.map rootH xs9) hst2 rfl rfl rfl rfl (vs := tabC r.2 (.slice a9 xs9.length c9) (.slice a8 r.2.lives.length c8)) rfl rfl rfl ?_; intro w7 hst3; clear hst2))
  have hl := Loads.atA (P := Tryz.prog) (off := 0) (T := 27) (tabC r.2 (.slice a9 xs9.length c9) (.slice a8 r.2.lives.length c8)) (_ :: _ :: List.map rootH xs9) hst3 rfl rfl
  refine bodyPost_ret (results_cellR rfl rfl rfl hl) rfl ?_
  exact ⟨_, _, xs9, rfl, HOK.out, St.sub hst3 (.cons_cons _ (.cons_cons _ (List.sublist_append_left _ _)))⟩
theorem does_2 (t : TC) (ar al : Option Addr) (nr cr nl cl : Nat) (xs : List (Value × RC)) (w : World) (ht : TabIn w t ar nr cr al nl cl xs) (z txg : Int) (nm tn : List UInt8) (p : PV) (hx : AD.Few ⟨2, z, txg, nm, tn, p⟩ w) :
    Calls Tryz.prog 11 #[.agg (tabC t (.slice ar nr cr) (.slice al nl cl)).toArray, .agg (AD.cells ⟨2, z, txg, nm, tn, p⟩).toArray] w (TabRet (opR t (cloneT t nm tn txg)) w) := by
  have hst0 := St.refl w
  have HT := hid ht
  have HX := hid hx
  have H35 := hid (PV.len hx.p.1)
  clear ht hx
  obtain ⟨r, hr⟩ : ∃ r, r = opR t (cloneT t nm tn txg) := ⟨_, rfl⟩
  rw [← hr]
  have HR := hid hr
  clear hr
  go_enter Tryz.func11, Tryz.ntmps11
  go_wp2_with (first | go_big_skip | go_big_guard | (refine wl_boxA hst0 rfl rfl rfl ?_; intro g2 w1 hA0; clear hst0) | (refine wl_boxA hA0 rfl rfl rfl ?_; intro g3 w2 hA1; clear hA0) | (refine wl_alloc hA1 rfl rfl ?_; intro g4 w3 hst; clear hA1) | (refine wl_loadE rfl rfl rfl ?_; first | refine ⟨_, Loads.atA p.cells [_] hst H35.out (by show List.take p.cells.length p.cells = p.cells; exact List.take_length), ?_⟩ | refine ⟨_, Loads.atA (tabC t (.slice ar nr cr) (.slice al nl cl)) [_, _] hst rfl rfl, ?_⟩ | refine ⟨_, Loads.at [_] hst rfl, ?_⟩) | (go_at_call 27; refine (clone13_any t ar al nr cr nl cl xs _ (HT.out.old hst.nil) nm tn txg HX.out.nm HX.out.tn).mono ?_; rw [← HR.out]; rintro _ w9 ⟨rv9, lv9, xs9, rfl, hok9, h4⟩; have hst2 := St.call hst h4; clear h4 hst; obtain ⟨a9, c9, rfl, _, _⟩ := rowS [] hst2; obtain ⟨a8, c8, rfl, _, _⟩ := rowS [_] hst2; have HOK := hid hok9; clear hok9) | (refine wl_storeA (_ :: _ :: List.map rootH xs9) hst2 rfl rfl rfl rfl (vs := tabC r.2 (.slice a9 xs9.length c9) (.slice a8 r.2.lives.length c8)) rfl rfl rfl ?_; intro w7 hst3; clear hst2))
  have hl := Loads.atA (P := Tryz.prog) (off := 0) (T := 27) (tabC r.2 (.slice a9 xs9.length c9) (.slice a8 r.2.lives.length c8)) (_ :: _ :: List.map rootH xs9) hst3 rfl rfl
  refine bodyPost_ret (results_cellR rfl rfl rfl hl) rfl ?_
  exact ⟨_, _, xs9, rfl, HOK.out, St.sub hst3 (.cons_cons _ (.cons_cons _ (List.sublist_append_left _ _)))⟩
theorem does_3 (t : TC) (ar al : Option Addr) (nr cr nl cl : Nat) (xs : List (Value × RC)) (w : World) (ht : TabIn w t ar nr cr al nl cl xs) (z txg : Int) (nm tn : List UInt8) (p : PV) (hx : AD.Few ⟨3, z, txg, nm, tn, p⟩ w) :
    Calls Tryz.prog 11 #[.agg (tabC t (.slice ar nr cr) (.slice al nl cl)).toArray, .agg (AD.cells ⟨3, z, txg, nm, tn, p⟩).toArray] w (TabRet (opR t (rollT t nm)) w) := by
  have hst0 := St.refl w
  have HT := hid ht
  have HX := hid hx
  have H35 := hid (PV.len hx.p.1)
  clear ht hx
  obtain ⟨r, hr⟩ : ∃ r, r = opR t (rollT t nm) := ⟨_, rfl⟩
  rw [← hr]
  have HR := hid hr
  clear hr
  go_enter Tryz.func11, Tryz.ntmps11
  go_wp2_with (first | go_big_skip | go_big_guard | (refine wl_boxA hst0 rfl rfl rfl ?_; intro g2 w1 hA0; clear hst0) | (refine wl_boxA hA0 rfl rfl rfl ?_; intro g3 w2 hA1; clear hA0) | (refine wl_alloc hA1 rfl rfl ?_; intro g4 w3 hst; clear hA1) | (refine wl_loadE rfl rfl rfl ?_; first | refine ⟨_, Loads.atA p.cells [_] hst H35.out (by show List.take p.cells.length p.cells = p.cells; exact List.take_length), ?_⟩ | refine ⟨_, Loads.atA (tabC t (.slice ar nr cr) (.slice al nl cl)) [_, _] hst rfl rfl, ?_⟩ | refine ⟨_, Loads.at [_] hst rfl, ?_⟩) | (go_at_call 28; refine (roll13_any t ar al nr cr nl cl xs _ (HT.out.old hst.nil) nm HX.out.nm).mono ?_; rw [← HR.out]; rintro _ w9 ⟨rv9, lv9, xs9, rfl, hok9, h4⟩; have hst2 := St.call hst h4; clear h4 hst; obtain ⟨a9, c9, rfl, _, _⟩ := rowS [] hst2; obtain ⟨a8, c8, rfl, _, _⟩ := rowS [_] hst2; have HOK := hid hok9; clear hok9) | (refine wl_storeA (_ :: _ :: List.map rootH xs9) hst2 rfl rfl rfl rfl (vs := tabC r.2 (.slice a9 xs9.length c9) (.slice a8 r.2.lives.length c8)) rfl rfl rfl ?_; intro w7 hst3; clear hst2))
  have hl := Loads.atA (P := Tryz.prog) (off := 0) (T := 27) (tabC r.2 (.slice a9 xs9.length c9) (.slice a8 r.2.lives.length c8)) (_ :: _ :: List.map rootH xs9) hst3 rfl rfl
  refine bodyPost_ret (results_cellR rfl rfl rfl hl) rfl ?_
  exact ⟨_, _, xs9, rfl, HOK.out, St.sub hst3 (.cons_cons _ (.cons_cons _ (List.sublist_append_left _ _)))⟩
theorem does_4 (t : TC) (ar al : Option Addr) (nr cr nl cl : Nat) (xs : List (Value × RC)) (w : World) (ht : TabIn w t ar nr cr al nl cl xs) (z txg : Int) (nm tn : List UInt8) (p : PV) (hx : AD.Few ⟨4, z, txg, nm, tn, p⟩ w) :
    Calls Tryz.prog 11 #[.agg (tabC t (.slice ar nr cr) (.slice al nl cl)).toArray, .agg (AD.cells ⟨4, z, txg, nm, tn, p⟩).toArray] w (TabRet (opR t (dropT t nm)) w) := by
  have hst0 := St.refl w
  have HT := hid ht
  have HX := hid hx
  have H35 := hid (PV.len hx.p.1)
  clear ht hx
  obtain ⟨r, hr⟩ : ∃ r, r = opR t (dropT t nm) := ⟨_, rfl⟩
  rw [← hr]
  have HR := hid hr
  clear hr
  go_enter Tryz.func11, Tryz.ntmps11
  go_wp2_with (first | go_big_skip | go_big_guard | (refine wl_boxA hst0 rfl rfl rfl ?_; intro g2 w1 hA0; clear hst0) | (refine wl_boxA hA0 rfl rfl rfl ?_; intro g3 w2 hA1; clear hA0) | (refine wl_alloc hA1 rfl rfl ?_; intro g4 w3 hst; clear hA1) | (refine wl_loadE rfl rfl rfl ?_; first | refine ⟨_, Loads.atA p.cells [_] hst H35.out (by show List.take p.cells.length p.cells = p.cells; exact List.take_length), ?_⟩ | refine ⟨_, Loads.atA (tabC t (.slice ar nr cr) (.slice al nl cl)) [_, _] hst rfl rfl, ?_⟩ | refine ⟨_, Loads.at [_] hst rfl, ?_⟩) | (go_at_call 23; refine (drop13_any t ar al nr cr nl cl xs _ (HT.out.old hst.nil) nm HX.out.nm).mono ?_; rw [← HR.out]; rintro _ w9 ⟨rv9, lv9, xs9, rfl, hok9, h4⟩; have hst2 := St.call hst h4; clear h4 hst; obtain ⟨a9, c9, rfl, _, _⟩ := rowS [] hst2; obtain ⟨a8, c8, rfl, _, _⟩ := rowS [_] hst2; have HOK := hid hok9; clear hok9) | (refine wl_storeA (_ :: _ :: List.map rootH xs9) hst2 rfl rfl rfl rfl (vs := tabC r.2 (.slice a9 xs9.length c9) (.slice a8 r.2.lives.length c8)) rfl rfl rfl ?_; intro w7 hst3; clear hst2))
  have hl := Loads.atA (P := Tryz.prog) (off := 0) (T := 27) (tabC r.2 (.slice a9 xs9.length c9) (.slice a8 r.2.lives.length c8)) (_ :: _ :: List.map rootH xs9) hst3 rfl rfl
  refine bodyPost_ret (results_cellR rfl rfl rfl hl) rfl ?_
  exact ⟨_, _, xs9, rfl, HOK.out, St.sub hst3 (.cons_cons _ (.cons_cons _ (List.sublist_append_left _ _)))⟩
theorem does_5 (t : TC) (ar al : Option Addr) (nr cr nl cl : Nat) (xs : List (Value × RC)) (w : World) (ht : TabIn w t ar nr cr al nl cl xs) (z txg : Int) (nm tn : List UInt8) (p : PV) (hx : AD.Few ⟨5, z, txg, nm, tn, p⟩ w) :
    Calls Tryz.prog 11 #[.agg (tabC t (.slice ar nr cr) (.slice al nl cl)).toArray, .agg (AD.cells ⟨5, z, txg, nm, tn, p⟩).toArray] w (TabRet (opR t (renameT t nm tn)) w) := by
  have hst0 := St.refl w
  have HT := hid ht
  have HX := hid hx
  have H35 := hid (PV.len hx.p.1)
  clear ht hx
  obtain ⟨r, hr⟩ : ∃ r, r = opR t (renameT t nm tn) := ⟨_, rfl⟩
  rw [← hr]
  have HR := hid hr
  clear hr
  go_enter Tryz.func11, Tryz.ntmps11
  go_wp2_with (first | go_big_skip | go_big_guard | (refine wl_boxA hst0 rfl rfl rfl ?_; intro g2 w1 hA0; clear hst0) | (refine wl_boxA hA0 rfl rfl rfl ?_; intro g3 w2 hA1; clear hA0) | (refine wl_alloc hA1 rfl rfl ?_; intro g4 w3 hst; clear hA1) | (refine wl_loadE rfl rfl rfl ?_; first | refine ⟨_, Loads.atA p.cells [_] hst H35.out (by show List.take p.cells.length p.cells = p.cells; exact List.take_length), ?_⟩ | refine ⟨_, Loads.atA (tabC t (.slice ar nr cr) (.slice al nl cl)) [_, _] hst rfl rfl, ?_⟩ | refine ⟨_, Loads.at [_] hst rfl, ?_⟩) | (go_at_call 29; refine (rename13_any t ar al nr cr nl cl xs _ (HT.out.old hst.nil) nm tn HX.out.nm HX.out.tn).mono ?_; rw [← HR.out]; rintro _ w9 ⟨rv9, lv9, xs9, rfl, hok9, h4⟩; have hst2 := St.call hst h4; clear h4 hst; obtain ⟨a9, c9, rfl, _, _⟩ := rowS [] hst2; obtain ⟨a8, c8, rfl, _, _⟩ := rowS [_] hst2; have HOK := hid hok9; clear hok9) | (refine wl_storeA (_ :: _ :: List.map rootH xs9) hst2 rfl rfl rfl rfl (vs := tabC r.2 (.slice a9 xs9.length c9) (.slice a8 r.2.lives.length c8)) rfl rfl rfl ?_; intro w7 hst3; clear hst2))
  have hl := Loads.atA (P := Tryz.prog) (off := 0) (T := 27) (tabC r.2 (.slice a9 xs9.length c9) (.slice a8 r.2.lives.length c8)) (_ :: _ :: List.map rootH xs9) hst3 rfl rfl
  refine bodyPost_ret (results_cellR rfl rfl rfl hl) rfl ?_
  exact ⟨_, _, xs9, rfl, HOK.out, St.sub hst3 (.cons_cons _ (.cons_cons _ (List.sublist_append_left _ _)))⟩
theorem does_6 (t : TC) (ar al : Option Addr) (nr cr nl cl : Nat) (xs : List (Value × RC)) (w : World) (ht : TabIn w t ar nr cr al nl cl xs) (z txg : Int) (nm tn : List UInt8) (p : PV) (hx : AD.Few ⟨6, z, txg, nm, tn, p⟩ w) :
    Calls Tryz.prog 11 #[.agg (tabC t (.slice ar nr cr) (.slice al nl cl)).toArray, .agg (AD.cells ⟨6, z, txg, nm, tn, p⟩).toArray] w (TabRet (opR t (resizeT t nm z)) w) := by
  have hst0 := St.refl w
  have HT := hid ht
  have HX := hid hx
  have H35 := hid (PV.len hx.p.1)
  clear ht hx
  obtain ⟨r, hr⟩ : ∃ r, r = opR t (resizeT t nm z) := ⟨_, rfl⟩
  rw [← hr]
  have HR := hid hr
  clear hr
  go_enter Tryz.func11, Tryz.ntmps11
  go_wp2_with (first | go_big_skip | go_big_guard | (refine wl_boxA hst0 rfl rfl rfl ?_; intro g2 w1 hA0; clear hst0) | (refine wl_boxA hA0 rfl rfl rfl ?_; intro g3 w2 hA1; clear hA0) | (refine wl_alloc hA1 rfl rfl ?_; intro g4 w3 hst; clear hA1) | (refine wl_loadE rfl rfl rfl ?_; first | refine ⟨_, Loads.atA p.cells [_] hst H35.out (by show List.take p.cells.length p.cells = p.cells; exact List.take_length), ?_⟩ | refine ⟨_, Loads.atA (tabC t (.slice ar nr cr) (.slice al nl cl)) [_, _] hst rfl rfl, ?_⟩ | refine ⟨_, Loads.at [_] hst rfl, ?_⟩) | (go_at_call 30; refine (resize13_any t ar al nr cr nl cl xs _ (HT.out.old hst.nil) nm z HX.out.nm).mono ?_; rw [← HR.out]; rintro _ w9 ⟨rv9, lv9, xs9, rfl, hok9, h4⟩; have hst2 := St.call hst h4; clear h4 hst; obtain ⟨a9, c9, rfl, _, _⟩ := rowS [] hst2; obtain ⟨a8, c8, rfl, _, _⟩ := rowS [_] hst2; have HOK := hid hok9; clear hok9) | (refine wl_storeA (_ :: _ :: List.map rootH xs9) hst2 rfl rfl rfl rfl (vs := tabC r.2 (.slice a9 xs9.length c9) (.slice a8 r.2.lives.length c8)) rfl rfl rfl ?_; intro w7 hst3; clear hst2))
  have hl := Loads.atA (P := Tryz.prog) (off := 0) (T := 27) (tabC r.2 (.slice a9 xs9.length c9) (.slice a8 r.2.lives.length c8)) (_ :: _ :: List.map rootH xs9) hst3 rfl rfl
  refine bodyPost_ret (results_cellR rfl rfl rfl hl) rfl ?_
  exact ⟨_, _, xs9, rfl, HOK.out, St.sub hst3 (.cons_cons _ (.cons_cons _ (List.sublist_append_left _ _)))⟩
theorem does_7 (t : TC) (ar al : Option Addr) (nr cr nl cl : Nat) (xs : List (Value × RC)) (w : World) (ht : TabIn w t ar nr cr al nl cl xs) (z txg : Int) (nm tn : List UInt8) (p : PV) (hx : AD.Few ⟨7, z, txg, nm, tn, p⟩ w) :
    Calls Tryz.prog 11 #[.agg (tabC t (.slice ar nr cr) (.slice al nl cl)).toArray, .agg (AD.cells ⟨7, z, txg, nm, tn, p⟩).toArray] w (TabRet (opR t (limitT t nm z txg)) w) := by
  have hst0 := St.refl w
  have HT := hid ht
  have HX := hid hx
  have H35 := hid (PV.len hx.p.1)
  clear ht hx
  obtain ⟨r, hr⟩ : ∃ r, r = opR t (limitT t nm z txg) := ⟨_, rfl⟩
  rw [← hr]
  have HR := hid hr
  clear hr
  go_enter Tryz.func11, Tryz.ntmps11
  go_wp2_with (first | go_big_skip | go_big_guard | (refine wl_boxA hst0 rfl rfl rfl ?_; intro g2 w1 hA0; clear hst0) | (refine wl_boxA hA0 rfl rfl rfl ?_; intro g3 w2 hA1; clear hA0) | (refine wl_alloc hA1 rfl rfl ?_; intro g4 w3 hst; clear hA1) | (refine wl_loadE rfl rfl rfl ?_; first | refine ⟨_, Loads.atA p.cells [_] hst H35.out (by show List.take p.cells.length p.cells = p.cells; exact List.take_length), ?_⟩ | refine ⟨_, Loads.atA (tabC t (.slice ar nr cr) (.slice al nl cl)) [_, _] hst rfl rfl, ?_⟩ | refine ⟨_, Loads.at [_] hst rfl, ?_⟩) | (go_at_call 31; refine (limits13_any t ar al nr cr nl cl xs _ (HT.out.old hst.nil) nm z txg HX.out.nm).mono ?_; rw [← HR.out]; rintro _ w9 ⟨rv9, lv9, xs9, rfl, hok9, h4⟩; have hst2 := St.call hst h4; clear h4 hst; obtain ⟨a9, c9, rfl, _, _⟩ := rowS [] hst2; obtain ⟨a8, c8, rfl, _, _⟩ := rowS [_] hst2; have HOK := hid hok9; clear hok9) | (refine wl_storeA (_ :: _ :: List.map rootH xs9) hst2 rfl rfl rfl rfl (vs := tabC r.2 (.slice a9 xs9.length c9) (.slice a8 r.2.lives.length c8)) rfl rfl rfl ?_; intro w7 hst3; clear hst2))
  have hl := Loads.atA (P := Tryz.prog) (off := 0) (T := 27) (tabC r.2 (.slice a9 xs9.length c9) (.slice a8 r.2.lives.length c8)) (_ :: _ :: List.map rootH xs9) hst3 rfl rfl
  refine bodyPost_ret (results_cellR rfl rfl rfl hl) rfl ?_
  exact ⟨_, _, xs9, rfl, HOK.out, St.sub hst3 (.cons_cons _ (.cons_cons _ (List.sublist_append_left _ _)))⟩
theorem does_8 (t : TC) (ar al : Option Addr) (nr cr nl cl : Nat) (xs : List (Value × RC)) (w : World) (ht : TabIn w t ar nr cr al nl cl xs) (z txg : Int) (nm tn : List UInt8) (p : PV) (hx : AD.Few ⟨8, z, txg, nm, tn, p⟩ w) :
    Calls Tryz.prog 11 #[.agg (tabC t (.slice ar nr cr) (.slice al nl cl)).toArray, .agg (AD.cells ⟨8, z, txg, nm, tn, p⟩).toArray] w (TabRet (opR t (rootT t nm p)) w) := by
  have hst0 := St.refl w
  have HT := hid ht
  have HX := hid hx
  have H35 := hid (PV.len hx.p.1)
  clear ht hx
  obtain ⟨r, hr⟩ : ∃ r, r = opR t (rootT t nm p) := ⟨_, rfl⟩
  rw [← hr]
  have HR := hid hr
  clear hr
  go_enter Tryz.func11, Tryz.ntmps11
  go_wp2_with (first | go_big_skip | go_big_guard | (refine wl_boxA hst0 rfl rfl rfl ?_; intro g2 w1 hA0; clear hst0) | (refine wl_boxA hA0 rfl rfl rfl ?_; intro g3 w2 hA1; clear hA0) | (refine wl_alloc hA1 rfl rfl ?_; intro g4 w3 hst; clear hA1) | (refine wl_loadE rfl rfl rfl ?_; first | refine ⟨_, Loads.atA p.cells [_] hst H35.out (by show List.take p.cells.length p.cells = p.cells; exact List.take_length), ?_⟩ | refine ⟨_, Loads.atA (tabC t (.slice ar nr cr) (.slice al nl cl)) [_, _] hst rfl rfl, ?_⟩ | refine ⟨_, Loads.at [_] hst rfl, ?_⟩) | (go_at_call 32; refine (root13_any t ar al nr cr nl cl xs _ (HT.out.old hst.nil) nm p (HX.out.p.old hst.nil) HX.out.l HX.out.nm).mono ?_; rw [← HR.out]; rintro _ w9 ⟨rv9, lv9, xs9, rfl, hok9, h4⟩; have hst2 := St.call hst h4; clear h4 hst; obtain ⟨a9, c9, rfl, _, _⟩ := rowS [] hst2; obtain ⟨a8, c8, rfl, _, _⟩ := rowS [_] hst2; have HOK := hid hok9; clear hok9) | (refine wl_storeA (_ :: _ :: List.map rootH xs9) hst2 rfl rfl rfl rfl (vs := tabC r.2 (.slice a9 xs9.length c9) (.slice a8 r.2.lives.length c8)) rfl rfl rfl ?_; intro w7 hst3; clear hst2))
  have hl := Loads.atA (P := Tryz.prog) (off := 0) (T := 27) (tabC r.2 (.slice a9 xs9.length c9) (.slice a8 r.2.lives.length c8)) (_ :: _ :: List.map rootH xs9) hst3 rfl rfl
  refine bodyPost_ret (results_cellR rfl rfl rfl hl) rfl ?_
  exact ⟨_, _, xs9, rfl, HOK.out, St.sub hst3 (.cons_cons _ (.cons_cons _ (List.sublist_append_left _ _)))⟩
theorem does_none (t : TC) (ar al : Option Addr) (nr cr nl cl : Nat) (xs : List (Value × RC)) (w : World) (ht : TabIn w t ar nr cr al nl cl xs) (x : AD) (hx : x.Few w) (hk : x.idle = true) :
    Calls Tryz.prog 11 #[.agg (tabC t (.slice ar nr cr) (.slice al nl cl)).toArray, .agg x.cells.toArray] w fun e w' => e = .returned (.tuple #[.agg (tabC t (.slice ar nr cr) (.slice al nl cl)).toArray, .int .i64 0]) ∧ St w [] w' [] := by
  have hst0 := St.refl w
  have H35 := hid (PV.len hx.p.1)
  obtain ⟨k, z, txg, nm, tn, p⟩ := x
  unfold AD.idle at hk
  simp only [Bool.or_eq_true, decide_eq_true_eq] at hk
  have d0 : (k == 0) = false := by rw [beq_eq_false_iff_ne]; omega
  have d1 : (k == 1) = false := by rw [beq_eq_false_iff_ne]; omega
  have d2 : (k == 2) = false := by rw [beq_eq_false_iff_ne]; omega
  have d3 : (k == 3) = false := by rw [beq_eq_false_iff_ne]; omega
  have d4 : (k == 4) = false := by rw [beq_eq_false_iff_ne]; omega
  have d5 : (k == 5) = false := by rw [beq_eq_false_iff_ne]; omega
  have d6 : (k == 6) = false := by rw [beq_eq_false_iff_ne]; omega
  have d7 : (k == 7) = false := by rw [beq_eq_false_iff_ne]; omega
  have d8 : (k == 8) = false := by rw [beq_eq_false_iff_ne]; omega
  clear hk hx
  go_enter Tryz.func11, Tryz.ntmps11
  go_wp2_with (first | go_big_skip | go_big_guard | (refine wl_boxA hst0 rfl rfl rfl ?_; intro g2 w1 hA0; clear hst0) | (refine wl_boxA hA0 rfl rfl rfl ?_; intro g3 w2 hA1; clear hA0) | (refine wl_alloc hA1 rfl rfl ?_; intro g4 w3 hst; clear hA1) | (refine wl_loadE rfl rfl rfl ?_; first | refine ⟨_, Loads.atA p.cells [_] hst H35.out (by show List.take p.cells.length p.cells = p.cells; exact List.take_length), ?_⟩ | refine ⟨_, Loads.atA (tabC t (.slice ar nr cr) (.slice al nl cl)) [_, _] hst rfl rfl, ?_⟩ | refine ⟨_, Loads.at [_] hst rfl, ?_⟩) | (refine wl_storeA [] hst rfl rfl rfl rfl (vs := (tabC t (.slice ar nr cr) (.slice al nl cl))) rfl rfl rfl ?_; intro w7 hst3; clear hst))
  have hl := Loads.atA (P := Tryz.prog) (off := 0) (T := 27) (tabC t (.slice ar nr cr) (.slice al nl cl)) [] hst3 rfl rfl
  refine bodyPost_ret (results_cellR rfl rfl rfl hl) rfl ?_
  exact ⟨rfl, hst3.nil⟩
theorem does13_any (t : TC) (ar al : Option Addr) (nr cr nl cl : Nat) (xs : List (Value × RC)) (w : World) (ht : TabIn w t ar nr cr al nl cl xs) (x : AD) (hx : x.Few w) (hk : x.idle = false) :
    Calls Tryz.prog 11 #[.agg (tabC t (.slice ar nr cr) (.slice al nl cl)).toArray, .agg x.cells.toArray] w (TabRet (doR t x) w) := by
  obtain ⟨k, z, txg, nm, tn, p⟩ := x
  unfold AD.idle at hk
  simp only [Bool.or_eq_false_iff, decide_eq_false_iff_not] at hk
  have hc : k = 0 ∨ k = 1 ∨ k = 2 ∨ k = 3 ∨ k = 4 ∨ k = 5 ∨ k = 6 ∨ k = 7 ∨ k = 8 := by omega
  rcases hc with rfl | rfl | rfl | rfl | rfl | rfl | rfl | rfl | rfl
  · exact does_0 t ar al nr cr nl cl xs w ht z txg nm tn p hx
  · exact does_1 t ar al nr cr nl cl xs w ht z txg nm tn p hx
  · exact does_2 t ar al nr cr nl cl xs w ht z txg nm tn p hx
  · exact does_3 t ar al nr cr nl cl xs w ht z txg nm tn p hx
  · exact does_4 t ar al nr cr nl cl xs w ht z txg nm tn p hx
  · exact does_5 t ar al nr cr nl cl xs w ht z txg nm tn p hx
  · exact does_6 t ar al nr cr nl cl xs w ht z txg nm tn p hx
  · exact does_7 t ar al nr cr nl cl xs w ht z txg nm tn p hx
  · exact does_8 t ar al nr cr nl cl xs w ht z txg nm tn p hx
end Go.Proofs.YtifajcblbedcoaaGreat
namespace Go.Proofs.YtifajcblbedcoaaGreat
set_option linter.unusedVariables false
set_option linter.unusedSimpArgs false
open Go.RowKit Hp
attribute [local irreducible] Go.Calls Go.wpList
set_option maxRecDepth 100000
set_option maxHeartbeats 8000000
def in64D (z : Int) : Prop := -9223372036854775808 ≤ z ∧ z ≤ 9223372036854775807
/-- What is known of an act that was handed in. -/
structure AD.Ok (y : AD) (w : World) : Prop where
  kind : in64D y.kind
  n : in64D y.n
  txg : in64D y.txg
  p : y.p.In w
instance adA : TyA Tryz.prog 34 40 := ⟨by kernel_rfl⟩
instance adN : TyN Tryz.prog 34 40 := ⟨by kernel_rfl⟩
instance adSl : TySl Tryz.prog 37 34 := ⟨by kernel_rfl⟩
theorem AD.len {y : AD} (h : L32 y.p.S) : y.cells.length = 40 := by
  show (y.p.cells).length + 5 = 40
  rw [PV.len h]
theorem ads_at : ∀ {xs : List AD} {k : Nat} {x : AD}, (∀ y ∈ xs, L32 y.p.S) → xs[k]? = some x → ∀ j v, x.cells[j]? = some v → (xs.flatMap AD.cells)[k * 40 + j]? = some v
  | y :: xs, 0, x, _, h, j, v, hj => by
    cases h
    rw [List.flatMap_cons, Nat.zero_mul, Nat.zero_add, List.getElem?_append_left (List.getElem?_eq_some_iff.1 hj).1]
    exact hj
  | y :: xs, k + 1, x, hl, h, j, v, hj => by
    have hl' : y.cells.length = 40 := AD.len (hl y (.head _))
    rw [List.flatMap_cons, List.getElem?_append_right (by rw [hl']; omega), hl', show (k + 1) * 40 + j - 40 = k * 40 + j by omega]
    exact ads_at (fun z hz => hl z (.tail _ hz)) (by simpa using h) j v hj
  | [], _, _, _, h, _, _, _ => by cases h
theorem ads_range {w : World} {b off n c k : Nat} {xs : List AD} {x : AD} (h : Rd w (.slice (some ⟨b, off, none⟩) n c) 40 n (xs.flatMap AD.cells)) (hl : ∀ y ∈ xs, L32 y.p.S) (hk : xs[k]? = some x) : w.rangeAt b (off + k * 40) x.cells := by
  intro j v hj
  have := h.range (k * 40 + j) v (ads_at hl hk j v hj)
  rwa [← Nat.add_assoc] at this
/-- Acts of names of at most 100 bytes and 20 addresses each, at most 60. -/
def shortD (xs : List AD) (N : Nat) : Prop := N ≤ 60 ∧ ∀ x ∈ xs, x.nm.length ≤ 100 ∧ x.tn.length ≤ 100 ∧ x.p.l.length ≤ 20
def longD (xs : List AD) (N : Nat) (e : Ending) : Prop := ∃ b, e = .returned (.bool b) ∧ (b = false ↔ shortD xs N)
theorem longD_any (ao : Option Addr) (N c : Nat) (xs : List AD) (w : World) (hv : Rd w (.slice ao N c) 40 N (xs.flatMap AD.cells)) (hN : xs.length = N) (hx : ∀ x ∈ xs, x.Ok w) (hnb : ∀ x ∈ xs, x.nm.length ≤ 9223372036854775807 ∧ x.tn.length ≤ 9223372036854775807) :
    Calls Tryz.prog 7 #[.slice ao N c] w fun e w' => longD xs N e ∧ St w [] w' [] := by
  have hst := St.refl w
  have HN := hid hN
  have HXX := hid hx
  have HNB := hid hnb
  have hb1 := hv.bd.1
  have hb2 := hv.bd.2.1
  clear hN hx hnb
  go_enter Tryz.func7, Tryz.ntmps7
  go_wp2_with (first | go_big_skip | go_big_guard | fail)
  go_loop [3] (fun q => ∃ k : Nat, k ≤ N ∧ k ≤ 61 ∧ q = .int .i64 k ∧ Hid (∀ j x, j < k → xs[j]? = some x → x.nm.length ≤ 100 ∧ x.tn.length ≤ 100 ∧ x.p.l.length ≤ 20)) (fun q => 61 - (intOf q).toNat)
  case atStart => exact ⟨0, by omega, by omega, rfl, hid (fun j x hj => absurd hj (Nat.not_lt_zero _))⟩
  case round =>
    obtain ⟨k, hk, hk1, rfl, hall⟩ := hrel
    by_cases hkN : k < N
    · by_cases hk2 : k < 61
      · obtain ⟨x, hxk⟩ : ∃ x, xs[k]? = some x := ⟨_, List.getElem?_eq_getElem (by rw [HN.out]; exact hkN)⟩
        obtain ⟨b, off, rfl, _⟩ := hv.at hkN
        have hok := HXX.out x (List.mem_of_getElem? hxk)
        have hra := ads_range hv (fun y hy => (HXX.out y hy).p.1) hxk
        obtain ⟨hm1, hm2⟩ := HNB.out x (List.mem_of_getElem? hxk)
        obtain ⟨_, po, pn, pc, hps, hpr, hpl⟩ := hok.p
        have hpb1 := hpr.bd.1
        have hpb2 := hpr.bd.2.1
        have h3 := hid (show w.cell? ⟨b, off + k * 40 + 1, none⟩ = some (.string ⟨x.nm.toArray⟩) from hra 1 _ rfl)
        have h4 := hid (show w.cell? ⟨b, off + k * 40 + 2, none⟩ = some (.string ⟨x.tn.toArray⟩) from hra 2 _ rfl)
        have h5 := hid (show w.cell? ⟨b, off + k * 40 + 5, none⟩ = some (.slice po pn pc) from hra 5 _ (by show some x.p.sv = _; rw [hps]))
        have HXK := hid hxk
        have d1 : decide ((k : Int) < (N : Int)) = true := decide_eq_true (by omega)
        have d0 : decide ((k : Int) < 61) = true := decide_eq_true (by omega)
        clear hra hxk hok hps hpr
        by_cases g1 : 100 < x.nm.length
        · have d2 : decide (100 < (x.nm.length : Int)) = true := decide_eq_true (by omega)
          go_wp2_with (first | go_big_skip | go_big_guard | (refine wl_loadE rfl rfl rfl ?_; first | refine ⟨_, Loads.old hst (h3.out), ?_⟩ | refine ⟨_, Loads.old hst (h4.out), ?_⟩ | refine ⟨_, Loads.old hst (h5.out), ?_⟩))
          go_ret
          exact ⟨⟨true, rfl, ⟨fun h => (by cases h), fun h => by have := (h.2 x (List.mem_of_getElem? HXK.out)); omega⟩⟩, hst⟩
        · have d2 : decide (100 < (x.nm.length : Int)) = false := decide_eq_false (by omega)
          by_cases g2 : 100 < x.tn.length
          · have d3 : decide (100 < (x.tn.length : Int)) = true := decide_eq_true (by omega)
            go_wp2_with (first | go_big_skip | go_big_guard | (refine wl_loadE rfl rfl rfl ?_; first | refine ⟨_, Loads.old hst (h3.out), ?_⟩ | refine ⟨_, Loads.old hst (h4.out), ?_⟩ | refine ⟨_, Loads.old hst (h5.out), ?_⟩))
            go_ret
            exact ⟨⟨true, rfl, ⟨fun h => (by cases h), fun h => by have := (h.2 x (List.mem_of_getElem? HXK.out)); omega⟩⟩, hst⟩
          · have d3 : decide (100 < (x.tn.length : Int)) = false := decide_eq_false (by omega)
            by_cases g3 : 20 < pn
            · have d4 : decide (20 < (pn : Int)) = true := decide_eq_true (by omega)
              go_wp2_with (first | go_big_skip | go_big_guard | (refine wl_loadE rfl rfl rfl ?_; first | refine ⟨_, Loads.old hst (h3.out), ?_⟩ | refine ⟨_, Loads.old hst (h4.out), ?_⟩ | refine ⟨_, Loads.old hst (h5.out), ?_⟩))
              go_ret
              exact ⟨⟨true, rfl, ⟨fun h => (by cases h), fun h => by have := (h.2 x (List.mem_of_getElem? HXK.out)); omega⟩⟩, hst⟩
            · have d4 : decide (20 < (pn : Int)) = false := decide_eq_false (by omega)
              have z1 : IntKind.i64.wrap ((k : Int) + 1) = (k : Int) + 1 := IntWalk.i64_in _ (by omega)
              go_wp2_with (first | go_big_skip | go_big_guard | (refine wl_loadE rfl rfl rfl ?_; first | refine ⟨_, Loads.old hst (h3.out), ?_⟩ | refine ⟨_, Loads.old hst (h4.out), ?_⟩ | refine ⟨_, Loads.old hst (h5.out), ?_⟩))
              go_round
              case rel =>
                refine ⟨k + 1, by omega, by omega, rfl, hid (fun j y hj hy => ?_)⟩
                rcases Nat.lt_or_ge j k with h9 | h9
                · exact hall.out j y h9 hy
                · obtain rfl : j = k := by omega
                  rw [HXK.out] at hy
                  cases hy
                  omega
              case measure => simp [intOf]; omega
      · have d1 : decide ((k : Int) < (N : Int)) = true := decide_eq_true (by omega)
        have d0 : decide ((k : Int) < 61) = false := decide_eq_false (by omega)
        have d2 : decide (60 < (N : Int)) = true := decide_eq_true (by omega)
        go_wp2_with (first | go_big_skip | go_big_guard | fail)
        go_ret
        exact ⟨⟨true, rfl, ⟨fun h => (by cases h), fun h => by have := h.1; omega⟩⟩, hst⟩
    · have e : k = N := by omega
      subst e
      have d1 : decide ((k : Int) < (k : Int)) = false := by simp
      have hs : ∀ x ∈ xs, x.nm.length ≤ 100 ∧ x.tn.length ≤ 100 ∧ x.p.l.length ≤ 20 := fun x hx => by
        obtain ⟨j, hj⟩ := List.getElem?_of_mem hx
        have hjl := (List.getElem?_eq_some_iff.1 hj).1
        have := HN.out
        exact hall.out j x (by omega) hj
      have HS := hid hs
      clear hs
      by_cases h60 : 60 < k
      · have d2 : decide (60 < (k : Int)) = true := decide_eq_true (by omega)
        go_wp2_with (first | go_big_skip | go_big_guard | fail)
        go_ret
        exact ⟨⟨true, rfl, ⟨fun h => (by cases h), fun h => by have := h.1; omega⟩⟩, hst⟩
      · have d2 : decide (60 < (k : Int)) = false := decide_eq_false (by omega)
        go_wp2_with (first | go_big_skip | go_big_guard | fail)
        go_ret
        exact ⟨⟨false, rfl, ⟨fun _ => ⟨by omega, HS.out⟩, fun _ => rfl⟩⟩, hst⟩
end Go.Proofs.YtifajcblbedcoaaGreat
namespace Go.Proofs.YtifajcblbedcoaaGreat
set_option linter.unusedVariables false
set_option linter.unusedSimpArgs false
open Go.ChangeShapes Go.WideShapes Go.ChangeAt Go.RowKit Go.Deep Go.Lib Go.Joins Hp
set_option maxRecDepth 100000
theorem i64_wfQ {z : Int} (hw : (Lit.int .i64 z).wf = true) : in64D z := by
  simp only [Lit.wf, Bool.and_eq_true, decide_eq_true_eq] at hw
  have h3 : IntKind.i64.min = -9223372036854775808 := rfl
  have h4 : IntKind.i64.max = 9223372036854775807 := rfl
  unfold in64D
  omega
theorem cellsAd : Tryz.prog.cellsOf 34 = 40 := by kernel_rfl
def ADL : Type := { x : AD // L32 x.p.S }
instance inhADL : Inhabited ADL := ⟨⟨⟨0, 0, 0, [], [], ⟨.slice none 0 0, [], 0, 0, nones⟩⟩, L32.nones⟩⟩
def OkNm (k : AD) (W : World) : Prop := k.Ok W ∧ k.nm.length ≤ 9223372036854775807 ∧ k.tn.length ≤ 9223372036854775807
theorem open_actD {H : Type} {enc : TypeId × Value → H} {W : World} (fuel : Nat) (cs : List Value) (x : DataW H × List MemPlace) (hl : cs.length = 40)
    (h : DataW.trod enc Tryz.prog W 0 (fun _ => true) true fuel 34 cs = some x) : ∃ k : ADL, cs = k.1.cells ∧ OkNm k.1 W := by
  obtain ⟨xs, n, _, _, _, hlen, hf⟩ := DataW.trod_struct Tryz.underlying34 h
  have hlen' : xs.length = 6 := hlen
  have g0 := hf 0 _ rfl
  have g1 := hf 1 _ rfl
  have g2 := hf 2 _ rfl
  have g3 := hf 3 _ rfl
  have g4 := hf 4 _ rfl
  have g5 := hf 5 _ rfl
  clear hf h
  match xs, hlen' with
  | [y0, y1, y2, y3, y4, y5], _ =>
    match cs, hl with
    | a :: b :: c :: d :: e :: P, hl =>
      have hPl : P.length = 35 := by simpa using hl
      have f0 : DataW.trod enc Tryz.prog W 0 (fun _ => true) true n 3 (List.take (Tryz.prog.cellsOf 3) (List.drop 0 (a :: b :: c :: d :: e :: P))) = some y0 := g0
      have f1 : DataW.trod enc Tryz.prog W 0 (fun _ => true) true n 9 (List.take (Tryz.prog.cellsOf 9) (List.drop 1 (a :: b :: c :: d :: e :: P))) = some y1 := g1
      have f2 : DataW.trod enc Tryz.prog W 0 (fun _ => true) true n 9 (List.take (Tryz.prog.cellsOf 9) (List.drop 2 (a :: b :: c :: d :: e :: P))) = some y2 := g2
      have f3 : DataW.trod enc Tryz.prog W 0 (fun _ => true) true n 3 (List.take (Tryz.prog.cellsOf 3) (List.drop 3 (a :: b :: c :: d :: e :: P))) = some y3 := g3
      have f4 : DataW.trod enc Tryz.prog W 0 (fun _ => true) true n 3 (List.take (Tryz.prog.cellsOf 3) (List.drop 4 (a :: b :: c :: d :: e :: P))) = some y4 := g4
      have f5 : DataW.trod enc Tryz.prog W 0 (fun _ => true) true n 32 (List.take (Tryz.prog.cellsOf 32) (List.drop 5 (a :: b :: c :: d :: e :: P))) = some y5 := g5
      obtain ⟨z0, w0, _, u0⟩ := DataW.trod_int Tryz.underlying3 (show DataW.trod enc Tryz.prog W 0 (fun _ => true) true n 3 [a] = some y0 from by rw [cellsI] at f0; exact f0)
      obtain ⟨s1, w1, _, hs1⟩ := DataW.trod_string Tryz.underlying9 (show DataW.trod enc Tryz.prog W 0 (fun _ => true) true n 9 [b] = some y1 from by rw [cellsSd] at f1; exact f1)
      obtain ⟨s2, w2, _, hs2⟩ := DataW.trod_string Tryz.underlying9 (show DataW.trod enc Tryz.prog W 0 (fun _ => true) true n 9 [c] = some y2 from by rw [cellsSd] at f2; exact f2)
      obtain ⟨z3, w3, _, u3⟩ := DataW.trod_int Tryz.underlying3 (show DataW.trod enc Tryz.prog W 0 (fun _ => true) true n 3 [d] = some y3 from by rw [cellsI] at f3; exact f3)
      obtain ⟨z4, w4, _, u4⟩ := DataW.trod_int Tryz.underlying3 (show DataW.trod enc Tryz.prog W 0 (fun _ => true) true n 3 [e] = some y4 from by rw [cellsI] at f4; exact f4)
      obtain ⟨p, w5, hp⟩ := open_ptrD (W := W) (x := y5) (L := P) hPl (by
        rw [cellsP] at f5
        simp only [List.drop_succ_cons, List.drop_zero] at f5
        rwa [List.take_of_length_le (by omega)] at f5)
      cases w0; cases w1; cases w2; cases w3; cases w4
      subst w5
      refine ⟨⟨⟨z0, z3, z4, s1.data.toList, s2.data.toList, p⟩, hp.1⟩, ?_, ⟨i64_wfQ u0, i64_wfQ u3, i64_wfQ u4, hp⟩, ?_, ?_⟩
      · show _ = Value.int IntKind.i64 z0 :: Value.string ⟨s1.data.toList.toArray⟩ :: Value.string ⟨s2.data.toList.toArray⟩ :: Value.int IntKind.i64 z3 :: Value.int IntKind.i64 z4 :: p.cells
        rfl
      · show s1.data.toList.length ≤ _
        rw [Array.length_toList]
        exact hs1
      · show s2.data.toList.length ≤ _
        rw [Array.length_toList]
        exact hs2
theorem open_actsD {H : Type} {enc : TypeId × Value → H} {W : World} {base fuel : Nat} {v : Value} {x : DataW H × List MemPlace} (hv : Value.okWide Tryz.prog W .any base 37 v)
    (h : DataW.trod enc Tryz.prog W 0 (fun _ => true) true fuel 37 v.cells.toList = some x) : ∃ ao n c, ∃ ks : List AD, v = .slice ao n c ∧ Rd W (.slice ao n c) 40 n (ks.flatMap AD.cells) ∧ ks.length = n ∧ (∀ x ∈ ks, x.Ok W) ∧ ∀ x ∈ ks, x.nm.length ≤ 9223372036854775807 ∧ x.tn.length ≤ 9223372036854775807 := by
  obtain ⟨ao, n, c, ks, e, hr, hl, hk⟩ := open_structsD (α := ADL) (f := fun k => k.1.cells) (sz := 40) (fun k => AD.len k.2) (by decide) (fun k W => OkNm k.1 W) Tryz.underlying37 cellsAd open_actD h
  have er : ks.flatMap (fun k => k.1.cells) = (ks.map (·.1)).flatMap AD.cells := by rw [List.flatMap_map]
  rw [er] at hr
  refine ⟨ao, n, c, ks.map (·.1), ?_, hr, by rw [List.length_map]; exact hl, fun x hx => ?_, fun x hx => ?_⟩
  · obtain ⟨a, l, q, rfl⟩ := okWide_slice Tryz.underlying37 hv
    have e' : [Value.slice a l q] = [.slice ao n c] := e
    cases e'
    rfl
  · obtain ⟨k, hk', rfl⟩ := List.mem_map.1 hx
    exact (hk k hk').1
  · obtain ⟨k, hk', rfl⟩ := List.mem_map.1 hx
    exact (hk k hk').2
end Go.Proofs.YtifajcblbedcoaaGreat
namespace Go.Proofs.YtifajcblbedcoaaGreat
set_option linter.unusedVariables false
set_option linter.unusedSimpArgs false
open Go.RowKit Hp
attribute [local irreducible] Go.Calls Go.wpList
set_option maxRecDepth 100000
set_option maxHeartbeats 8000000
/-- A table lies among the pieces. -/
structure InP (P : List HA) (t : TC) (ar al : Option Addr) (cr cl : Nat) (xs : List (Value × RC)) : Prop where
  rr : HA.row (.slice ar xs.length cr) 53 44 xs.length (recsV xs) ∈ P
  ll : HA.row (.slice al t.lives.length cl) 3 1 t.lives.length (numsV t.lives) ∈ P
  roots : ∀ x ∈ xs, rootH x ∈ P
  ok : Okx xs t
theorem InP.mono {P P' : List HA} {t : TC} {ar al : Option Addr} {cr cl : Nat} {xs : List (Value × RC)} (h : InP P t ar al cr cl xs) (hs : ∀ y ∈ P, y ∈ P') : InP P' t ar al cr cl xs := ⟨hs _ h.rr, hs _ h.ll, fun x hx => hs _ (h.roots x hx), h.ok⟩
theorem InP.own {P : List HA} {t : TC} {ar al : Option Addr} {cr cl : Nat} {xs : List (Value × RC)} (h : InP P t ar al cr cl xs) : OwnX P xs := fun x hx => ⟨h.roots x hx, h.ok.ok x hx⟩
theorem InP.recs {w0 w : World} {M : List Nat} {B P : List HA} {t : TC} {ar al : Option Addr} {cr cl : Nat} {xs : List (Value × RC)} (h : InP P t ar al cr cl xs) (hst : St w0 M w (B ++ P)) : RecsIn w (.slice ar xs.length cr) xs.length xs :=
  recs_inL hst (List.mem_append_right _ h.rr) rfl (h.own.sub fun _ hy => List.mem_append_right _ hy)
theorem InP.tab {w0 w : World} {M : List Nat} {B P : List HA} {t : TC} {ar al : Option Addr} {cr cl : Nat} {xs : List (Value × RC)} (h : InP P t ar al cr cl xs) (hst : St w0 M w (B ++ P)) (hb : t.recs.length ≤ 1000000 ∧ t.lives.length ≤ 1000000) : TabIn w t ar xs.length cr al t.lives.length cl xs :=
  ⟨h.recs hst, h.ok.eq, Rd.row hst (List.mem_append_right _ h.ll), rfl, by rw [h.ok.len]; exact hb.1, hb.2⟩
/-- What a call told, among what was known. -/
theorem ret_pool {w w1 w2 : World} {B P : List HA} {z : Int} {u : TC} {e : Ending} (hst : St w [] w1 (B ++ P)) (h : TabRet (z, u) w1 e w2) :
    ∃ (a a' : Option Addr) (c c' : Nat) (P' : List HA) (xs' : List (Value × RC)), e = .returned (.tuple #[.agg (tabC u (.slice a xs'.length c) (.slice a' u.lives.length c')).toArray, .int .i64 z]) ∧ InP P' u a a' c c' xs' ∧ (∀ y ∈ P, y ∈ P') ∧ St w [] w2 (B ++ P') := by
  obtain ⟨rv, lv, xs, rfl, hok, h4⟩ := h
  have h5 := St.call hst h4
  obtain ⟨a9, c9, rfl, _, _⟩ := rowS [] h5
  obtain ⟨a8, c8, rfl, _, _⟩ := rowS [_] h5
  refine ⟨a9, a8, c9, c8, (.row (.slice a9 xs.length c9) 53 44 xs.length (recsV xs) :: .row (.slice a8 u.lives.length c8) 3 1 u.lives.length (numsV u.lives) :: xs.map rootH) ++ P, xs, rfl, ⟨by simp, by simp, fun x hx => List.mem_append_left _ (.tail _ (.tail _ (List.mem_map_of_mem hx))), hok⟩, fun y hy => List.mem_append_right _ hy, St.perm h5 ?_⟩
  rw [← List.append_assoc, ← List.append_assoc]
  exact List.perm_append_comm.append_right P
def namesOf (t : TC) : List (List UInt8) := t.recs.map (·.name)
def strsW (l : List (List UInt8)) : List Value := l.map fun s => .string ⟨s.toArray⟩
theorem strsW_get {l : List (List UInt8)} {k : Nat} {s : List UInt8} (h : l[k]? = some s) : (strsW l)[k]? = some (.string ⟨s.toArray⟩) := by simp [strsW, h]
attribute [local go_sem ↓] heldInt heldInts heldRecs heldRec heldStr heldTab heldPtr heldFn
instance slStr : TySl Tryz.prog 82 9 := ⟨by kernel_rfl⟩
instance elStr : TyE Tryz.prog 9 1 16 := ⟨by kernel_rfl⟩
theorem list_no {l k : List (List UInt8)} {j : Nat} {a b : List UInt8} (ha : l[j]? = some a) (hb : k[j]? = some b) (h : a ≠ b) : (l == k) = false := by
  rw [beq_eq_false_iff_ne]
  rintro rfl
  rw [ha] at hb
  exact h (Option.some.inj hb)
theorem list_all {l k : List (List UInt8)} (hl : l.length = k.length) (h : ∀ (j : Nat) (a b : List UInt8), l[j]? = some a → k[j]? = some b → a = b) : (l == k) = true := by
  rw [beq_iff_eq]
  apply List.ext_getElem hl
  intro j h1 h2
  exact h j _ _ (List.getElem?_eq_getElem h1) (List.getElem?_eq_getElem h2)
theorem list_len {l k : List (List UInt8)} (h : l.length ≠ k.length) : (l == k) = false := by
  rw [beq_eq_false_iff_ne]
  exact fun e => h (by rw [e])
theorem names13_any (t : TC) (ar : Option Addr) (nr cr : Nat) (lv : Value) (xs : List (Value × RC)) (so' : Option Addr) (k ck : Nat) (want : List (List UInt8)) (w : World) (hR : RecsIn w (.slice ar nr cr) nr xs) (he : xs.map (·.2) = t.recs) (hb : nr ≤ 1000) (hs : Rd w (.slice so' k ck) 1 k (strsW want)) (hk : want.length = k) (hkb : k ≤ 1000) :
    Calls Tryz.prog 24 #[.agg (tabC t (.slice ar nr cr) lv).toArray, .slice so' k ck] w fun e w' => e = .returned (.bool (namesOf t == want)) ∧ St w [] w' [] := by
  have hst0 := St.refl w
  have HR := hid hR
  have HSR := hid hs
  have HK := hid hk
  have hnl : (namesOf t).length = nr := by unfold namesOf; rw [List.length_map, ← he, List.length_map, hR.len]
  have HNL := hid hnl
  have HNE := hid he
  obtain ⟨E, hE⟩ : ∃ E, E = (namesOf t == want) := ⟨_, rfl⟩
  rw [← hE]
  have HE := hid hE
  clear hR hs hk hE hnl he
  by_cases hnk : nr = k
  · subst hnk
    have d1 : ((nr : Int) != (nr : Int)) = false := by simp
    go_enter Tryz.func24, Tryz.ntmps24
    go_wp2_with (first | go_big_skip | go_big_guard | (refine wl_boxA hst0 rfl rfl rfl ?_; intro g2 w1 hst; clear hst0) | (refine wl_loadE rfl rfl rfl ?_; refine ⟨_, Loads.at [] hst rfl, ?_⟩))
    go_loopw [5] (fun i wr => ∃ j : Nat, j ≤ nr ∧ i = .int .i64 (j : Int) ∧ St w [] wr [.blk g2 27 (tabC t (.slice ar nr cr) lv)] ∧ Hid (∀ (i : Nat) (a b : List UInt8), i < j → (namesOf t)[i]? = some a → want[i]? = some b → a = b)) (fun i _ => nr - (intOf i).toNat)
    case atStart => exact ⟨0, Nat.zero_le _, rfl, hst, hid (fun i a b hi _ _ => by omega)⟩
    case round =>
      clear hst
      obtain ⟨j, hj, rfl, hst, HP⟩ := hrel
      by_cases hlt : j < nr
      · have e1 : decide ((j : Int) < (nr : Int)) = true := decide_eq_true (by omega)
        have z1 : IntKind.i64.wrap ((j : Int) + 1) = (j : Int) + 1 := IntWalk.i64_in _ (by omega)
        obtain ⟨x, lb, lo, hx, har, hin, hr⟩ := RecsIn.at HR.out hlt
        subst har
        obtain ⟨s, hs⟩ : ∃ s, want[j]? = some s := ⟨_, List.getElem?_eq_getElem (by rw [HK.out]; exact hlt)⟩
        obtain ⟨sb, so, hso, hr2⟩ := Rd.at HSR.out hlt
        subst hso
        have HX : Hid ((namesOf t)[j]? = some x.2.name) := hid (by unfold namesOf; rw [← HNE.out, List.getElem?_map, List.getElem?_map, hx]; rfl)
        have HS := hid hs
        have HNX := hid (show w.cell? ⟨lb, lo + j * 44 + 1, none⟩ = some (.string ⟨x.2.name.toArray⟩) from hr 1 _ rfl)
        have HNS := hid (show w.cell? ⟨sb, so + j, none⟩ = some (.string ⟨s.toArray⟩) from hr2 j _ (strsW_get hs))
        clear hx hs hr hr2 hin
        go_wp2_with (first | go_big_skip | go_big_guard | fail)
        cases hq : (x.2.name == s)
        · have HQ := hid hq
          have hX := hst.drew
          clear hst
          refine wp_region_held_drew (S := (fun w' => (loadVarH 22 ⟨g2, 1, none⟩).run Tryz.prog w' = .ok (.slice (some ⟨lb, lo, none⟩) nr cr) w' ∧ (loadVarH 9 ⟨lb, lo + j * 44 + 1, none⟩).run Tryz.prog w' = .ok (.string ⟨x.2.name.toArray⟩) w' ∧ (loadVarH 9 ⟨sb, so + j, none⟩).run Tryz.prog w' = .ok (.string ⟨s.toArray⟩) w')) (by kernel_rfl) (by exact ⟨ldS [] hX rfl, ldO hX HNX.out, ldO hX HNS.out⟩) (fun hHeld => ?_)
          refine tq 0 18 ?_
          refine tq 2 20 ?_
          refine tq 6 24 ?_
          refine tq 7 25 ?_
          refine tq 1 19 ?_
          refine tq 8 26 ?_
          refine tq 3 21 ?_
          refine tq 9 27 ?_
          refine tq 4 22 ?_
          refine tq 5 23 ?_
          refine tq 10 28 ?_
          refine wpAnyH_done (by kernel_rfl) ?_ _
          clear hHeld
          go_wp2_with (first | go_big_skip | go_big_guard | fail)
          go_ret
          exact ⟨by rw [HE.out, list_no HX.out HS.out (by simpa using HQ.out)]; rfl, hX.nil⟩
        · have HQ := hid hq
          have hX := hst.drew
          clear hst
          refine wp_region_held_drew (S := (fun w' => (loadVarH 22 ⟨g2, 1, none⟩).run Tryz.prog w' = .ok (.slice (some ⟨lb, lo, none⟩) nr cr) w' ∧ (loadVarH 9 ⟨lb, lo + j * 44 + 1, none⟩).run Tryz.prog w' = .ok (.string ⟨x.2.name.toArray⟩) w' ∧ (loadVarH 9 ⟨sb, so + j, none⟩).run Tryz.prog w' = .ok (.string ⟨s.toArray⟩) w')) (by kernel_rfl) (by exact ⟨ldS [] hX rfl, ldO hX HNX.out, ldO hX HNS.out⟩) (fun hHeld => ?_)
          refine tq 0 18 ?_
          refine tq 2 20 ?_
          refine tq 6 24 ?_
          refine tq 7 25 ?_
          refine tq 1 19 ?_
          refine tq 8 26 ?_
          refine tq 3 21 ?_
          refine tq 9 27 ?_
          refine tq 4 22 ?_
          refine tq 5 23 ?_
          refine tq 10 28 ?_
          refine wpAnyH_done (by kernel_rfl) ?_ _
          clear hHeld
          go_wp2_with (first | go_big_skip | go_big_guard | fail)
          go_roundw
          case rel => exact ⟨j + 1, by omega, rfl, hX, hid (fun i a b hi ha hb => by
            by_cases e : i = j
            · subst e
              rw [HX.out] at ha; rw [HS.out] at hb
              cases ha; cases hb
              simpa using HQ.out
            · exact HP.out i a b (by omega) ha hb)⟩
          case measure => simp [intOf]; omega
      · have e1 : decide ((j : Int) < (nr : Int)) = false := decide_eq_false (by omega)
        go_wp2_with (first | go_big_skip | go_big_guard | fail)
        go_ret
        exact ⟨by rw [HE.out, list_all (by rw [HNL.out, HK.out]) (fun i a b ha hb => HP.out i a b (by have := (List.getElem?_eq_some_iff.1 ha).1; have := HNL.out; omega) ha hb)]; rfl, hst.nil⟩
  · have d1 : ((nr : Int) != (k : Int)) = true := by rw [bne_iff_ne]; omega
    have HNN := hid hnk
    clear hnk
    go_enter Tryz.func24, Tryz.ntmps24
    go_wp2_with (first | go_big_skip | go_big_guard | (refine wl_boxA hst0 rfl rfl rfl ?_; intro g2 w1 hst; clear hst0) | (refine wl_loadE rfl rfl rfl ?_; refine ⟨_, Loads.at [] hst rfl, ?_⟩))
    go_ret
    exact ⟨by rw [HE.out, list_len (by rw [HNL.out, HK.out]; exact HNN.out)]; rfl, hst.nil⟩
end Go.Proofs.YtifajcblbedcoaaGreat
namespace Go.Proofs.YtifajcblbedcoaaGreat
set_option linter.unusedVariables false
set_option linter.unusedSimpArgs false
open Go.RowKit Hp
attribute [local irreducible] Go.Calls Go.wpList PV.same
set_option maxRecDepth 100000
set_option maxHeartbeats 8000000
attribute [local go_sem ↓] heldInt heldInts heldRecs heldRec heldStr heldTab heldPtr heldFn
def hasB (l : List RC) (p : PV) : Bool := l.any fun r => (r.pv undef).same p
theorem rangeR_root {w : World} {b off : Nat} {x : Value × RC} (h : w.rangeAt b off (cellsR x)) : w.rangeAt b (off + 4) (x.2.pv x.1).cells := fun d v hv => by
  have := h (d + 4) v (by
    show (_ :: _ :: _ :: _ :: ((x.2.pv x.1).cells ++ x.2.tail))[d + 4]? = some v
    simp only [List.getElem?_cons_succ]
    rw [List.getElem?_append_left (List.getElem?_eq_some_iff.1 hv).1]
    exact hv)
  rwa [show off + (d + 4) = off + 4 + d by omega] at this
theorem pv_same_sv (r : RC) (sv sv' : Value) (p : PV) : (r.pv sv).same p = (r.pv sv').same p := by
  unfold PV.same RC.pv
  rfl
theorem has_yes {xs : List (Value × RC)} {l : List RC} (he : xs.map (·.2) = l) {j : Nat} {x : Value × RC} {p : PV} (hx : xs[j]? = some x) (h : (x.2.pv x.1).same p = true) : hasB l p = true := by
  subst he
  unfold hasB
  rw [List.any_eq_true]
  exact ⟨x.2, List.mem_map_of_mem (List.mem_of_getElem? hx), by rw [pv_same_sv x.2 undef x.1]; exact h⟩
theorem has_no {xs : List (Value × RC)} {l : List RC} (he : xs.map (·.2) = l) {p : PV} (h : ∀ (j : Nat) (x : Value × RC), j < xs.length → xs[j]? = some x → (x.2.pv x.1).same p = false) : hasB l p = false := by
  subst he
  unfold hasB
  rw [List.any_eq_false]
  intro r hr
  obtain ⟨x, hx, rfl⟩ := List.mem_map.1 hr
  obtain ⟨j, hj⟩ := List.getElem?_of_mem hx
  rw [pv_same_sv x.2 undef x.1, h j x (List.getElem?_eq_some_iff.1 hj).1 hj]
  decide
theorem has13_any (t : TC) (ar : Option Addr) (nr cr : Nat) (lv : Value) (xs : List (Value × RC)) (p : PV) (w : World) (hR : RecsIn w (.slice ar nr cr) nr xs) (he : xs.map (·.2) = t.recs) (hb : nr ≤ 1000) (hp : p.In w) :
    Calls Tryz.prog 21 #[.agg (tabC t (.slice ar nr cr) lv).toArray, .agg p.cells.toArray] w fun e w' => e = .returned (.bool (hasB t.recs p)) ∧ St w [] w' [] := by
  have hst0 := St.refl w
  have HR := hid hR
  have HP := hid hp
  have H35 := hid (PV.len hp.1)
  have HEQ := hid he
  obtain ⟨E, hE⟩ : ∃ E, E = hasB t.recs p := ⟨_, rfl⟩
  rw [← hE]
  have HE := hid hE
  clear hR he hp hE
  go_enter Tryz.func21, Tryz.ntmps21
  go_wp2_with (first | go_big_skip | go_big_guard | (refine wl_boxA hst0 rfl rfl rfl ?_; intro g2 w1 hA0; clear hst0) | (refine wl_boxA hA0 rfl rfl rfl ?_; intro g3 w2 hst; clear hA0) | (refine wl_loadE rfl rfl rfl ?_; refine ⟨_, Loads.at [_] hst rfl, ?_⟩))
  go_loopw [5] (fun i wr => ∃ j : Nat, j ≤ nr ∧ i = .int .i64 (j : Int) ∧ St w [] wr [.blk g3 32 p.cells, .blk g2 27 (tabC t (.slice ar nr cr) lv)] ∧ Hid (∀ (i : Nat) (x : Value × RC), i < j → xs[i]? = some x → (x.2.pv x.1).same p = false)) (fun i _ => nr - (intOf i).toNat)
  case atStart => exact ⟨0, Nat.zero_le _, rfl, hst, hid (fun i x hi _ => by omega)⟩
  case round =>
    clear hst
    obtain ⟨j, hj, rfl, hst, HA⟩ := hrel
    by_cases hlt : j < nr
    · have e1 : decide ((j : Int) < (nr : Int)) = true := decide_eq_true (by omega)
      have z1 : IntKind.i64.wrap ((j : Int) + 1) = (j : Int) + 1 := IntWalk.i64_in _ (by omega)
      obtain ⟨x, lb, lo, hx, rfl, hin, hr⟩ := RecsIn.at HR.out hlt
      have HX := hid hx
      have HIX := hid hin
      have HLX := hid (PV.len (p := x.2.pv x.1) hin.L)
      have HRX := hid (rangeR_root hr)
      clear hx hr hin
      obtain ⟨q, hq⟩ : ∃ q, q = (x.2.pv x.1).same p := ⟨_, rfl⟩
      have HQ := hid hq
      clear hq
      cases q
      · go_wp2_with (first | go_big_skip | go_big_guard | (refine wl_loadE rfl rfl rfl ?_; refine ⟨_, Loads.at [_] hst rfl, ?_⟩))
        have hX := hst.drew
        clear hst
        refine wp_region_held_drew (S := (fun w' => (loadVarH 22 ⟨g2, 1, none⟩).run Tryz.prog w' = .ok (.slice (some ⟨lb, lo, none⟩) nr cr) w' ∧ (loadVarH 32 ⟨lb, lo + j * 44 + 4, none⟩).run Tryz.prog w' = .ok (.agg (x.2.pv x.1).cells.toArray) w' ∧ (loadVarH 32 ⟨g3, 0, none⟩).run Tryz.prog w' = .ok (.agg (List.toArray (p.cells))) w')) (by kernel_rfl) (by exact ⟨ldS [_] hX rfl, ldOA hX HLX.out HRX.out, ldA (p.cells) [] hX (H35.out) ((by simp))⟩) (fun hHeld => ?_)
        refine tq 0 13 ?_
        refine tq 2 15 ?_
        refine tq 6 19 ?_
        refine tq 1 14 ?_
        refine tq 3 16 ?_
        refine tq 4 17 ?_
        refine tq 5 18 ?_
        refine wpAnyH_ready (rs := [7]) (by kernel_rfl) (by simp) ?_
        refine (AllReadyH.cons (o := ⟨some 20, _, _, _, _, _⟩) rfl (fun K hK => ?_) AllReadyH.nil)
        rw [if_pos (by rfl)]
        go_simp
        go_at_call 17
        refine (same_pv (x.2.pv x.1) p _ (PV.In.old hX.nil HIX.out.1) (PV.In.old hX.nil HP.out)).mono ?_
        rw [← HQ.out]
        rintro _ w9 ⟨rfl, h4⟩
        have hA6 := St.call0 hX h4
        clear h4
        refine hK.out _ _ ?_ (fun hHeld => ?_)
        · exact ⟨ldS [_] hA6 rfl, ldOA hA6 HLX.out HRX.out, ldA (p.cells) [] hA6 (H35.out) ((by simp))⟩
        clear hK K
        (try simp only [Act.put, List.setIfInBounds_toArray, List.set_cons_zero, List.set_cons_succ])
        refine wpAnyH_done (by kernel_rfl) ?_ _
        clear hHeld
        go_wp2_with (first | go_big_skip | go_big_guard | fail)
        go_roundw
        case rel => exact ⟨j + 1, by omega, rfl, hA6, hid (fun i a hi ha => by
          by_cases e : i = j
          · subst e
            rw [HX.out] at ha
            cases ha
            exact HQ.out.symm
          · exact HA.out i a (by omega) ha)⟩
        case measure => simp [intOf]; omega
      · go_wp2_with (first | go_big_skip | go_big_guard | (refine wl_loadE rfl rfl rfl ?_; refine ⟨_, Loads.at [_] hst rfl, ?_⟩))
        have hX := hst.drew
        clear hst
        refine wp_region_held_drew (S := (fun w' => (loadVarH 22 ⟨g2, 1, none⟩).run Tryz.prog w' = .ok (.slice (some ⟨lb, lo, none⟩) nr cr) w' ∧ (loadVarH 32 ⟨lb, lo + j * 44 + 4, none⟩).run Tryz.prog w' = .ok (.agg (x.2.pv x.1).cells.toArray) w' ∧ (loadVarH 32 ⟨g3, 0, none⟩).run Tryz.prog w' = .ok (.agg (List.toArray (p.cells))) w')) (by kernel_rfl) (by exact ⟨ldS [_] hX rfl, ldOA hX HLX.out HRX.out, ldA (p.cells) [] hX (H35.out) ((by simp))⟩) (fun hHeld => ?_)
        refine tq 0 13 ?_
        refine tq 2 15 ?_
        refine tq 6 19 ?_
        refine tq 1 14 ?_
        refine tq 3 16 ?_
        refine tq 4 17 ?_
        refine tq 5 18 ?_
        refine wpAnyH_ready (rs := [7]) (by kernel_rfl) (by simp) ?_
        refine (AllReadyH.cons (o := ⟨some 20, _, _, _, _, _⟩) rfl (fun K hK => ?_) AllReadyH.nil)
        rw [if_pos (by rfl)]
        go_simp
        go_at_call 17
        refine (same_pv (x.2.pv x.1) p _ (PV.In.old hX.nil HIX.out.1) (PV.In.old hX.nil HP.out)).mono ?_
        rw [← HQ.out]
        rintro _ w9 ⟨rfl, h4⟩
        have hA6 := St.call0 hX h4
        clear h4
        refine hK.out _ _ ?_ (fun hHeld => ?_)
        · exact ⟨ldS [_] hA6 rfl, ldOA hA6 HLX.out HRX.out, ldA (p.cells) [] hA6 (H35.out) ((by simp))⟩
        clear hK K
        (try simp only [Act.put, List.setIfInBounds_toArray, List.set_cons_zero, List.set_cons_succ])
        refine wpAnyH_done (by kernel_rfl) ?_ _
        clear hHeld
        go_wp2_with (first | go_big_skip | go_big_guard | fail)
        go_ret
        exact ⟨by rw [HE.out, has_yes HEQ.out HX.out HQ.out.symm]; rfl, hA6.nil⟩
    · have e1 : decide ((j : Int) < (nr : Int)) = false := decide_eq_false (by omega)
      obtain rfl : j = nr := by omega
      have HF := hid (has_no HEQ.out fun i x hi hx => HA.out i x (by have := HR.out.len; omega) hx)
      clear HA
      go_wp2_with (first | go_big_skip | go_big_guard | (refine wl_loadE rfl rfl rfl ?_; refine ⟨_, Loads.at [_] hst rfl, ?_⟩))
      go_ret
      exact ⟨by rw [HE.out, HF.out]; rfl, hst.nil⟩
end Go.Proofs.YtifajcblbedcoaaGreat
namespace Go.Proofs.YtifajcblbedcoaaGreat
set_option linter.unusedVariables false
set_option linter.unusedSimpArgs false
open Go.RowKit Hp
def kinP (l : List RC) (x : RC) : Prop := if x.kind = 2 then ∃ v ∈ l, v.name = (splitL x.name).1 ∧ v.id = x.own else (x.origin = 0 ∨ ∃ y ∈ l, y.id = x.origin ∧ y.kind = 2)
structure OkP (t : TC) : Prop where
  next : 1 ≤ t.next ∧ t.next ≤ 2147483648
  many : t.recs.length ≤ 16
  devs : 2 ≤ t.lives.length ∧ t.lives.length ≤ 8
  cur : t.curB = true
  lives : t.livesB = true
  alone : ∀ x ∈ t.recs, x.aloneB = true
  lt : t.recs.Pairwise NameLt
  ids : t.recs.Pairwise fun x y => x.id ≠ y.id
  low : ∀ x ∈ t.recs, x.id < t.next
  kin : ∀ x ∈ t.recs, kinP t.recs x
theorem inB_iff {n lo hi : Int} : inB n lo hi = true ↔ lo ≤ n ∧ n ≤ hi := by unfold inB; simp
theorem find_name {l : List RC} (h : l.Pairwise NameLt) {nm : List UInt8} {v : RC} (hv : v ∈ l) (hn : v.name = nm) : ∃ k : Nat, findN nm l = (k : Int) ∧ l[k]? = some v := by
  rcases find_split (nm := nm) (l := l) with ⟨h1, _⟩ | ⟨j, y, hy, _, hf, _, hyn⟩
  · unfold recAt at h1
    rw [List.find?_eq_none] at h1
    have := h1 v hv
    simp [hn] at this
  · refine ⟨j, hf, ?_⟩
    obtain ⟨i, hi⟩ := List.getElem?_of_mem hv
    have hs := sorted_iff.2 h
    by_cases hij : i = j
    · subst hij; exact hi
    · exfalso
      rcases Nat.lt_or_gt_of_ne hij with hlt | hlt
      · exact NameLt.ne (hs i j v y hlt hi hy) (hn.trans hyn.symm)
      · exact NameLt.ne (hs j i y v hlt hy hi) (hyn.trans hn.symm)
theorem volB_iff {l : List RC} (h : l.Pairwise NameLt) {r : RC} : volB l r = true ↔ ∃ v ∈ l, v.name = (splitL r.name).1 ∧ v.id = r.own := by
  unfold volB
  rw [Bool.and_eq_true, decide_eq_true_eq]
  constructor
  · rintro ⟨h1, h2⟩
    rcases find_split (nm := (splitL r.name).1) (l := l) with ⟨_, hf⟩ | ⟨j, y, hy, _, hf, _, hyn⟩
    · exfalso
      unfold findP at hf
      rw [if_neg (by omega)] at hf
      exact absurd (congrArg Prod.snd hf) (by simp)
    · unfold idAt at h2
      rw [hf, Int.toNat_natCast, hy] at h2
      exact ⟨y, List.mem_of_getElem? hy, hyn, by simpa using h2⟩
  · rintro ⟨v, hv, hn, hi⟩
    obtain ⟨k, hf, hk⟩ := find_name h hv hn
    refine ⟨by omega, ?_⟩
    unfold idAt
    rw [hf, Int.toNat_natCast, hk]
    simpa using hi
theorem kinB_iff {l : List RC} (h : l.Pairwise NameLt) {r : RC} : kinB l r = true ↔ kinP l r := by
  unfold kinB kinP
  by_cases hk : r.kind = 2
  · rw [if_pos (by simpa using hk), if_pos hk, volB_iff h]
  · rw [if_neg (by simpa using hk), if_neg hk]
    simp
theorem ids_iff {l : List RC} : (∀ (i : Nat) (x : RC), l[i]? = some x → ((l.take i).any fun y => y.id == x.id) = false) ↔ l.Pairwise fun x y => x.id ≠ y.id := by
  rw [List.pairwise_iff_getElem]
  constructor
  · intro h i j hi hj hij e
    have := h j l[j] (List.getElem?_eq_getElem hj)
    rw [List.any_eq_false] at this
    have h2 := this l[i] (by rw [List.mem_take_iff_getElem]; exact ⟨i, by omega, rfl⟩)
    simp at h2
    exact h2 e
  · intro h i x hx
    obtain ⟨hi, rfl⟩ := List.getElem?_eq_some_iff.1 hx
    rw [List.any_eq_false]
    intro y hy
    obtain ⟨k, hk, rfl⟩ := List.mem_take_iff_getElem.1 hy
    simpa using h k i (by omega) hi (by omega)
theorem less_step {l : List RC} : (∀ (i : Nat) (x : RC), l[i]? = some x → lessAt l i x = true) ↔ l.Pairwise NameLt := by
  constructor
  · intro h
    rw [← sorted_iff]
    have step : ∀ (i : Nat) (x y : RC), l[i]? = some x → l[i + 1]? = some y → lessL x.name y.name = true := fun i x y hx hy => by
      have h2 := h (i + 1) y hy
      have e : lessAt l (i + 1) y = lessL x.name y.name := by
        show (match l[i]? with
          | some u => lessL u.name y.name
          | none => true) = _
        rw [hx]
      rwa [e] at h2
    intro i j x y hij hx hy
    obtain ⟨d, rfl⟩ : ∃ d, j = i + 1 + d := ⟨j - (i + 1), by omega⟩
    induction d generalizing y with
    | zero => exact step i x y hx hy
    | succ d ih =>
      have hlt := (List.getElem?_eq_some_iff.1 hy).1
      have hz : l[i + 1 + d]? = some l[i + 1 + d] := List.getElem?_eq_getElem (by omega)
      exact less_trans (ih _ (by omega) hz) (step (i + 1 + d) _ y hz hy)
  · intro h i x hx
    have hs := sorted_iff.2 h
    cases i with
    | zero => rfl
    | succ i =>
      show (match l[i]? with
        | some u => lessL u.name x.name
        | none => true) = true
      cases hy : l[i]? with
      | none => rfl
      | some y => exact hs i (i + 1) y x (by omega) hy hx
theorem okP_iff {t : TC} : t.ok = true ↔ OkP t := by
  constructor
  · intro h
    have hlt := ok_lt h
    have hbd := ok_bd h
    have h0 := h
    unfold TC.ok at h0
    simp only [Bool.and_eq_true] at h0
    obtain ⟨⟨⟨⟨h1, h2⟩, h3⟩, h4⟩, h5⟩ := h0
    unfold TC.sizeB at h1
    simp only [Bool.and_eq_true, decide_eq_true_eq] at h1
    have hrel : ∀ (i : Nat) (x : RC), t.recs[i]? = some x → relB t.next t.recs i x = true := fun i x hx => allAt_at h5 hx
    refine ⟨inB_iff.1 h1.1.1, hbd.many, ?_, h2, h3, fun x hx => ok_alone h hx, hlt, ids_iff.1 fun i x hx => ?_, fun x hx => ?_, fun x hx => ?_⟩
    · have := inB_iff.1 h1.2
      omega
    · have := hrel i x hx
      unfold relB at this
      have h6 := (Bool.and_eq_true_iff.1 (Bool.and_eq_true_iff.1 this).1).1
      simpa using h6
    · obtain ⟨i, hi⟩ := List.getElem?_of_mem hx
      have := hrel i x hi
      unfold relB at this
      simpa using (Bool.and_eq_true_iff.1 (Bool.and_eq_true_iff.1 this).1).2
    · obtain ⟨i, hi⟩ := List.getElem?_of_mem hx
      have := hrel i x hi
      unfold relB at this
      exact (kinB_iff hlt).1 (Bool.and_eq_true_iff.1 this).2
  · intro h
    refine ok_all ?_ h.cur h.lives (allAt_all fun i x hx => ?_) (allAt_all fun i x hx => ?_)
    · unfold TC.sizeB
      rw [inB_iff.2 h.next, inB_iff.2 (by have := h.devs; omega), decide_eq_true (by have := h.many; omega)]
      rfl
    · unfold eachB
      rw [h.alone x (List.mem_of_getElem? hx), less_step.2 h.lt i x hx]
      rfl
    · unfold relB
      rw [ids_iff.2 h.ids i x hx, decide_eq_true (h.low x (List.mem_of_getElem? hx)), (kinB_iff h.lt).2 (h.kin x (List.mem_of_getElem? hx))]
      rfl
end Go.Proofs.YtifajcblbedcoaaGreat
namespace Go.Proofs.YtifajcblbedcoaaGreat
set_option linter.unusedVariables false
set_option linter.unusedSimpArgs false
open Go.RowKit Hp
theorem kinP.mono {l l' : List RC} {x : RC} (h : kinP l x) (hs : ∀ y ∈ l, ∃ y' ∈ l', y'.name = y.name ∧ y'.id = y.id ∧ y'.kind = y.kind) : kinP l' x := by
  unfold kinP at h ⊢
  split
  · rename_i hk
    rw [if_pos hk] at h
    obtain ⟨v, hv, h1, h2⟩ := h
    obtain ⟨v', hv', q1, q2, _⟩ := hs v hv
    exact ⟨v', hv', q1.trans h1, q2.trans h2⟩
  · rename_i hk
    rw [if_neg hk] at h
    rcases h with h | ⟨y, hy, h1, h2⟩
    · exact .inl h
    · obtain ⟨y', hy', _, q2, q3⟩ := hs y hy
      exact .inr ⟨y', hy', q2.trans h1, q3.trans h2⟩
theorem perm_pair {α : Type} {R : α → α → Prop} (hs : ∀ x y, R x y → R y x) {l k : List α} (h : l.Perm k) (hl : l.Pairwise R) : k.Pairwise R := (h.pairwise_iff fun {x y} => hs x y).1 hl
theorem put_ok {t : TC} {x : RC} (h : OkP t) (hm : t.recs.length < 16) (hn : t.next < 2147483648) (hx : isAt x.name t.recs = false) (ha : ({ x with id := t.next } : RC).aloneB = true) (hk : kinP t.recs { x with id := t.next }) : OkP (putT t x) := by
  have hp : (layL { x with id := t.next } t.recs).Perm ({ x with id := t.next } :: t.recs) := layL_perm _ _
  have hsub : ∀ y ∈ t.recs, ∃ y' ∈ layL { x with id := t.next } t.recs, y'.name = y.name ∧ y'.id = y.id ∧ y'.kind = y.kind := fun y hy => ⟨y, hp.symm.subset (.tail _ hy), rfl, rfl, rfl⟩
  refine ⟨⟨by have := h.next.1; show 1 ≤ t.next + 1; omega, by show t.next + 1 ≤ 2147483648; omega⟩, ?_, h.devs, h.cur, h.lives, fun y hy => ?_, ?_, ?_, fun y hy => ?_, fun y hy => ?_⟩
  · show (layL _ t.recs).length ≤ 16
    rw [layL_length]
    omega
  · rcases List.mem_cons.1 (hp.subset hy) with rfl | hy
    · exact ha
    · exact h.alone y hy
  · exact layL_sorted h.lt fun y hy => isAt_no hx y hy
  · refine perm_pair (fun x y hxy => Ne.symm hxy) hp.symm (List.pairwise_cons.2 ⟨fun y hy => ?_, h.ids⟩)
    have := h.low y hy
    show t.next ≠ y.id
    omega
  · show y.id < t.next + 1
    rcases List.mem_cons.1 (hp.subset hy) with rfl | hy
    · show t.next < t.next + 1
      omega
    · have := h.low y hy
      omega
  · rcases List.mem_cons.1 (hp.subset hy) with rfl | hy
    · exact hk.mono hsub
    · exact (h.kin y hy).mono hsub
theorem set_same {α : Type} {l : List α} {k : Nat} {a : α} (h : l[k]? = some a) : l.set k a = l := by
  obtain ⟨hk, rfl⟩ := List.getElem?_eq_some_iff.1 h
  exact List.set_getElem_self hk
theorem set_pair {α β : Type} {f : α → β} {S : β → β → Prop} {l : List α} {k : Nat} {v y : α} (hk : l[k]? = some v) (hf : f y = f v) (h : l.Pairwise fun a b => S (f a) (f b)) : (l.set k y).Pairwise fun a b => S (f a) (f b) := by
  rw [← List.pairwise_map (f := f)] at h ⊢
  rw [List.map_set, set_same (by rw [List.getElem?_map, hk, hf]; rfl)]
  exact h
theorem set_ok {t : TC} {k : Nat} {v y : RC} (h : OkP t) (hv : t.recs[k]? = some v) (hi : y.id = v.id) (hn : y.name = v.name) (hkd : y.kind = v.kind) (ho : y.own = v.own) (hg : y.origin = v.origin) (ha : y.aloneB = true) : OkP { t with recs := t.recs.set k y } := by
  have hvm := List.mem_of_getElem? hv
  have hlt : k < t.recs.length := (List.getElem?_eq_some_iff.1 hv).1
  have hmem : ∀ x ∈ t.recs.set k y, x ∈ t.recs ∨ x = y := fun x hx => List.mem_or_eq_of_mem_set hx
  have hym : y ∈ t.recs.set k y := List.mem_of_getElem? (List.getElem?_set_self hlt)
  have hsub : ∀ u ∈ t.recs, ∃ u' ∈ t.recs.set k y, u'.name = u.name ∧ u'.id = u.id ∧ u'.kind = u.kind := fun u hu => by
    obtain ⟨i, hu⟩ := List.getElem?_of_mem hu
    by_cases e : i = k
    · subst e
      rw [hv] at hu
      cases hu
      exact ⟨y, hym, hn, hi, hkd⟩
    · exact ⟨u, List.mem_of_getElem? (by rw [List.getElem?_set_ne (Ne.symm e)]; exact hu), rfl, rfl, rfl⟩
  refine ⟨h.next, by show (t.recs.set k y).length ≤ 16; rw [List.length_set]; exact h.many, h.devs, h.cur, h.lives, fun x hx => ?_, set_pair (f := fun r : RC => r.name) (S := fun a b => lessL a b = true) hv hn h.lt, set_pair (f := fun r : RC => r.id) (S := fun a b => a ≠ b) hv hi h.ids, fun x hx => ?_, fun x hx => ?_⟩
  · rcases hmem x hx with hx | rfl
    · exact h.alone x hx
    · exact ha
  · rcases hmem x hx with hx | rfl
    · exact h.low x hx
    · rw [hi]; exact h.low v hvm
  · rcases hmem x hx with hx | rfl
    · exact (h.kin x hx).mono hsub
    · have := (h.kin v hvm).mono hsub
      unfold kinP at this ⊢
      rw [hkd, hn, ho, hg]
      exact this
theorem mem_erase {l : List RC} {k : Nat} {r u : RC} (hr : l[k]? = some r) (hu : u ∈ l) (hne : u ≠ r) : u ∈ l.eraseIdx k := by
  obtain ⟨i, hi⟩ := List.getElem?_of_mem hu
  have hik : i ≠ k := by
    rintro rfl
    rw [hr] at hi
    exact hne (Option.some.inj hi).symm
  rw [List.mem_eraseIdx_iff_getElem?]
  exact ⟨i, hik, hi⟩
theorem drop_ok {t : TC} {k : Nat} {r : RC} (h : OkP t) (hr : t.recs[k]? = some r) (hb : ∀ x ∈ t.recs, x.own ≠ r.id ∧ x.origin ≠ r.id) : OkP { t with recs := t.recs.eraseIdx k } := by
  have hs := List.eraseIdx_sublist t.recs k
  refine ⟨h.next, Nat.le_trans hs.length_le h.many, h.devs, h.cur, h.lives, fun x hx => h.alone x (hs.subset hx), h.lt.sublist hs, h.ids.sublist hs, fun x hx => h.low x (hs.subset hx), fun x hx => ?_⟩
  have hx' := hs.subset hx
  have hk := h.kin x hx'
  unfold kinP at hk ⊢
  split
  · rename_i h2
    rw [if_pos h2] at hk
    obtain ⟨v, hv, h3, h4⟩ := hk
    exact ⟨v, mem_erase hr hv (fun e => (hb x hx').1 (by rw [← h4, e])), h3, h4⟩
  · rename_i h2
    rw [if_neg h2] at hk
    rcases hk with hk | ⟨y, hy, h3, h4⟩
    · exact .inl hk
    · exact .inr ⟨y, mem_erase hr hy (fun e => (hb x hx').2 (by rw [← h3, e])), h3, h4⟩
theorem alone_name {r : RC} {z : List UInt8} (h : r.aloneB = true) (h1 : r.kind = 1 → partB z = true) (h2 : r.kind = 2 → snapB z = true) : ({ r with name := z } : RC).aloneB = true := by
  have hk := alone_kind h
  unfold RC.aloneB at h ⊢
  rw [Bool.and_eq_true] at h ⊢
  refine ⟨h.1, ?_⟩
  have h4 := h.2
  unfold RC.kindB at h4 ⊢
  rcases hk with ⟨k1, _⟩ | ⟨k2, _⟩
  · rw [if_pos (by simpa using k1)] at h4 ⊢
    simp only [Bool.and_eq_true] at h4 ⊢
    exact ⟨⟨⟨⟨h1 k1, h4.1.1.1.2⟩, h4.1.1.2⟩, h4.1.2⟩, h4.2⟩
  · rw [if_neg (by simp [k2]), if_pos (by simpa using k2)] at h4 ⊢
    simp only [Bool.and_eq_true] at h4 ⊢
    exact ⟨⟨⟨⟨⟨h2 k2, h4.1.1.1.1.2⟩, h4.1.1.1.2⟩, h4.1.1.2⟩, h4.1.2⟩, h4.2⟩
theorem ren_same (nm tn : List UInt8) (x : RC) : (renR nm tn x).id = x.id ∧ (renR nm tn x).kind = x.kind ∧ (renR nm tn x).own = x.own ∧ (renR nm tn x).origin = x.origin ∧ (renR nm tn x).made = x.made ∧ (renR nm tn x).l = x.l ∧ (renR nm tn x).b = x.b ∧ (renR nm tn x).v = x.v ∧ (renR nm tn x).S = x.S := by
  unfold renR
  split
  · exact ⟨rfl, rfl, rfl, rfl, rfl, rfl, rfl, rfl, rfl⟩
  · split <;> exact ⟨rfl, rfl, rfl, rfl, rfl, rfl, rfl, rfl, rfl⟩
theorem part_not_snap {s : List UInt8} (h : partB s = true) : snapB s = false := by unfold snapB; rw [part_split h]
theorem alike_part {nm tn : List UInt8} (h : alikeB nm tn = true) (hp : partB nm = true) : partB tn = true := by
  unfold alikeB at h
  rcases Bool.or_eq_true_iff.1 h with h | h
  · exact (Bool.and_eq_true_iff.1 h).2
  · rw [part_split hp] at h
    simp at h
theorem alike_snap {nm tn : List UInt8} (h : alikeB nm tn = true) (hp : snapB nm = true) : snapB tn = true ∧ (splitL tn).1 = (splitL nm).1 := by
  unfold alikeB at h
  rcases Bool.or_eq_true_iff.1 h with h | h
  · have := part_not_snap (Bool.and_eq_true_iff.1 h).1
    rw [hp] at this
    cases this
  · simp only [Bool.and_eq_true, beq_iff_eq] at h
    exact ⟨h.1.2, h.2.symm⟩
theorem rename_ok {t : TC} {nm tn : List UInt8} (h : OkP t) (ha : alikeB nm tn = true) (ht : isAt tn t.recs = false) : OkP { t with recs := sortL (t.recs.map (renR nm tn)) } := by
  have hok := okP_iff.2 h
  have hp := sortL_perm (t.recs.map (renR nm tn))
  have hmem : ∀ y ∈ sortL (t.recs.map (renR nm tn)), ∃ x ∈ t.recs, y = renR nm tn x := fun y hy => by
    obtain ⟨x, hx, e⟩ := List.mem_map.1 (hp.subset hy)
    exact ⟨x, hx, e.symm⟩
  have hto : ∀ x ∈ t.recs, renR nm tn x ∈ sortL (t.recs.map (renR nm tn)) := fun x hx => hp.symm.subset (List.mem_map_of_mem hx)
  have hpart : ∀ v ∈ t.recs, partB v.name = true → v.name ≠ nm → renR nm tn v = v := fun v hv h1 h2 => by
    rcases ren_ways hok ha hv with ⟨e, _⟩ | ⟨_, p, _, _, _, e, _⟩ | ⟨_, r, _⟩
    · exact absurd e h2
    · exact absurd e (at_no h1)
    · exact r
  refine ⟨h.next, ?_, h.devs, h.cur, h.lives, fun y hy => ?_, sortL_sorted (ren_distinct hok ha ht), ?_, fun y hy => ?_, fun y hy => ?_⟩
  · show (sortL _).length ≤ 16
    rw [hp.length_eq, List.length_map]
    exact h.many
  · obtain ⟨x, hx, rfl⟩ := hmem y hy
    have hax := h.alone x hx
    rcases ren_ways hok ha hx with ⟨e, r⟩ | ⟨_, p, a1, a2, a3, e, r⟩ | ⟨_, r, _⟩
    · rw [r]
      rcases alone_kind hax with ⟨k1, n1⟩ | ⟨k2, n2⟩
      · rw [e] at n1
        exact alone_name hax (fun _ => alike_part ha n1) (fun k => by omega)
      · rw [e] at n2
        exact alone_name hax (fun k => by omega) (fun _ => (alike_snap ha n2).1)
    · rw [r]
      rcases alone_kind hax with ⟨k1, n1⟩ | ⟨k2, n2⟩
      · exact absurd e (at_no n1)
      · exact alone_name hax (fun k => by omega) (fun _ => by unfold snapB; rw [split_joined a2 a3])
    · rw [r]; exact hax
  · refine perm_pair (fun x y hxy => Ne.symm hxy) hp.symm ?_
    rw [List.pairwise_map]
    refine h.ids.imp fun {x y} hxy => ?_
    rw [(ren_same nm tn x).1, (ren_same nm tn y).1]
    exact hxy
  · obtain ⟨x, hx, rfl⟩ := hmem y hy
    show (renR nm tn x).id < t.next
    rw [(ren_same nm tn x).1]
    exact h.low x hx
  · obtain ⟨x, hx, rfl⟩ := hmem y hy
    have hk := h.kin x hx
    obtain ⟨s1, s2, s3, s4, _⟩ := ren_same nm tn x
    unfold kinP at hk ⊢
    rw [s2, s3, s4]
    split
    · rename_i k2
      rw [if_pos k2] at hk
      obtain ⟨v, hv, hvn, hvi⟩ := hk
      have hsn : snapB x.name = true := by
        rcases alone_kind (h.alone x hx) with ⟨k1, _⟩ | ⟨_, n2⟩
        · omega
        · exact n2
      obtain ⟨a, b, hs, he, hpa, hpb⟩ := snap_form hsn
      have hvp : partB v.name = true := by rw [hvn, hs]; exact hpa
      rcases ren_ways hok ha hx with ⟨e, r⟩ | ⟨e0, p, a1, a2, a3, e, r⟩ | ⟨_, r, hno⟩
      · rw [e] at hsn
        have hal := alike_snap ha hsn
        refine ⟨v, ?_, ?_, hvi⟩
        · have := hto v hv
          rwa [hpart v hv hvp (fun e2 => by rw [e2] at hvp; rw [part_not_snap hvp] at hsn; cases hsn)] at this
        · rw [r, hvn, e]
          exact hal.2.symm
      · have hvn2 : v.name = nm := by rw [hvn, e, split_joined a1 a3]
        refine ⟨renR nm tn v, hto v hv, ?_, by rw [(ren_same nm tn v).1]; exact hvi⟩
        rw [r]
        show (renR nm tn v).name = (splitL (tn ++ 64 :: p)).1
        rw [split_joined a2 a3]
        rcases ren_ways hok ha hv with ⟨_, rv⟩ | ⟨e3, _⟩ | ⟨e3, _⟩
        · rw [rv]
        · exact absurd hvn2 e3
        · exact absurd hvn2 e3
      · refine ⟨v, ?_, by rw [r]; exact hvn, hvi⟩
        have := hto v hv
        rwa [hpart v hv hvp (fun e2 => hno ⟨hsn, by rw [← hvn]; exact e2⟩)] at this
    · rename_i k2
      rw [if_neg k2] at hk
      rcases hk with hk | ⟨y, hy, h1, h2⟩
      · exact .inl hk
      · exact .inr ⟨renR nm tn y, hto y hy, by rw [(ren_same nm tn y).1]; exact h1, by rw [(ren_same nm tn y).2.1]; exact h2⟩
end Go.Proofs.YtifajcblbedcoaaGreat
namespace Go.Proofs.YtifajcblbedcoaaGreat
set_option linter.unusedVariables false
set_option linter.unusedSimpArgs false
open Go.RowKit Hp
def Rt (x y : RC) : Prop := x.l = y.l ∧ x.b = y.b ∧ x.v = y.v ∧ x.S = y.S
theorem Rt.refl (x : RC) : Rt x x := ⟨rfl, rfl, rfl, rfl⟩
structure Keeps (t u : TC) (txg : Int) : Prop where
  ok : OkP u
  grow : (u.recs.length = t.recs.length ∧ u.next = t.next) ∨ (u.recs.length = t.recs.length + 1 ∧ u.next = t.next + 1) ∨ (u.recs.length + 1 = t.recs.length ∧ u.next = t.next)
  made : u.recs.length = t.recs.length + 1 → ∀ x ∈ u.recs, x.id = t.next → x.made = txg
def Froms (t u : TC) : Prop := ∀ x ∈ u.recs, ∃ y ∈ t.recs, Rt y x
def Tos (t u : TC) : Prop := ∀ y ∈ t.recs, ∃ x ∈ u.recs, Rt x y
theorem op_zero {t : TC} {r : TR} (hk : t.ok = true) (h : (opR t r).1 = 0) : r.1 = 0 ∧ opR t r = r := by
  unfold opR at h ⊢
  rw [if_pos hk] at h ⊢
  by_cases e : (r.1 == 0) = true
  · rw [if_pos e] at h ⊢
    exact ⟨h, rfl⟩
  · rw [if_neg e] at h
    have h' : r.1 = 0 := h
    rw [h'] at e
    exact absurd rfl e
theorem room_zero {t : TC} {nm : List UInt8} (h : (roomE t nm == 0) = true) : isAt nm t.recs = false ∧ t.recs.length < 16 ∧ t.next < 2147483648 := by
  unfold roomE at h
  cases hi : isAt nm t.recs with
  | true => rw [hi] at h; simp at h
  | false =>
    rw [hi] at h
    cases hf : fullB t with
    | true => rw [hf] at h; simp at h
    | false =>
      unfold fullB at hf
      simp only [Bool.or_eq_false_iff, decide_eq_false_iff_not] at hf
      exact ⟨rfl, by omega, by omega⟩
theorem rec_mem {nm : List UInt8} {l : List RC} {x : RC} (h : recAt nm l = some x) : x ∈ l ∧ x.name = nm := ⟨List.mem_of_find?_eq_some h, by simpa using List.find?_some h⟩
/-- One is put in. -/
theorem put_keeps {t : TC} {x : RC} (h : OkP t) (hr : (roomE t x.name == 0) = true) (ha : ({ x with id := t.next } : RC).aloneB = true) (hk : kinP t.recs { x with id := t.next }) : Keeps t (putT t x) x.made ∧ Tos t (putT t x) ∧ ((∃ y ∈ t.recs, Rt y x) → Froms t (putT t x)) := by
  obtain ⟨h1, h2, h3⟩ := room_zero hr
  have hp : (layL { x with id := t.next } t.recs).Perm ({ x with id := t.next } :: t.recs) := layL_perm _ _
  refine ⟨⟨put_ok h h2 h3 h1 ha hk, .inr (.inl ⟨layL_length _ _, rfl⟩), fun _ y hy he => ?_⟩, fun y hy => ⟨y, hp.symm.subset (.tail _ hy), Rt.refl y⟩, fun hf y hy => ?_⟩
  · rcases List.mem_cons.1 (hp.subset hy) with rfl | hy
    · rfl
    · have := h.low y hy
      omega
  · rcases List.mem_cons.1 (hp.subset hy) with rfl | hy
    · obtain ⟨z, hz, q⟩ := hf
      exact ⟨z, hz, q⟩
    · exact ⟨y, hy, Rt.refl y⟩
/-- One is turned. -/
theorem set_keeps {t : TC} {k : Nat} {v y : RC} (h : OkP t) (hv : t.recs[k]? = some v) (hi : y.id = v.id) (hn : y.name = v.name) (hkd : y.kind = v.kind) (ho : y.own = v.own) (hg : y.origin = v.origin) (ha : y.aloneB = true) (txg : Int) :
    Keeps t { t with recs := t.recs.set k y } txg ∧ ((∃ z ∈ t.recs, Rt z y) → Froms t { t with recs := t.recs.set k y }) ∧ (Rt y v → Tos t { t with recs := t.recs.set k y }) := by
  refine ⟨⟨set_ok h hv hi hn hkd ho hg ha, .inl ⟨List.length_set, rfl⟩, fun hh => ?_⟩, fun hf x hx => ?_, fun hf x hx => ?_⟩
  · have hh' : (t.recs.set k y).length = t.recs.length + 1 := hh
    rw [List.length_set] at hh'
    omega
  · rcases List.mem_or_eq_of_mem_set hx with hx | rfl
    · exact ⟨x, hx, Rt.refl x⟩
    · exact hf
  · obtain ⟨j, hj⟩ := List.getElem?_of_mem hx
    by_cases e : j = k
    · subst e
      rw [hv] at hj
      cases hj
      exact ⟨y, List.mem_of_getElem? (i := j) (by rw [List.getElem?_set_self (List.getElem?_eq_some_iff.1 hv).1]), hf⟩
    · exact ⟨x, List.mem_of_getElem? (i := j) (by rw [List.getElem?_set_ne (Ne.symm e)]; exact hj), Rt.refl x⟩
theorem drop_keeps {t : TC} {k : Nat} {r : RC} (h : OkP t) (hr : t.recs[k]? = some r) (hb : ∀ x ∈ t.recs, x.own ≠ r.id ∧ x.origin ≠ r.id) (txg : Int) : Keeps t { t with recs := t.recs.eraseIdx k } txg ∧ Froms t { t with recs := t.recs.eraseIdx k } := by
  have hk := (List.getElem?_eq_some_iff.1 hr).1
  have hl : (t.recs.eraseIdx k).length + 1 = t.recs.length := by rw [List.length_eraseIdx_of_lt hk]; omega
  refine ⟨⟨drop_ok h hr hb, .inr (.inr ⟨hl, rfl⟩), fun hh => ?_⟩, fun x hx => ⟨x, List.mem_of_mem_eraseIdx hx, Rt.refl x⟩⟩
  have hh' : (t.recs.eraseIdx k).length = t.recs.length + 1 := hh
  omega
theorem rename_keeps {t : TC} {nm tn : List UInt8} (h : OkP t) (ha : alikeB nm tn = true) (ht : isAt tn t.recs = false) (txg : Int) : Keeps t { t with recs := sortL (t.recs.map (renR nm tn)) } txg ∧ Froms t { t with recs := sortL (t.recs.map (renR nm tn)) } ∧ Tos t { t with recs := sortL (t.recs.map (renR nm tn)) } := by
  have hp := sortL_perm (t.recs.map (renR nm tn))
  have hl : (sortL (t.recs.map (renR nm tn))).length = t.recs.length := by rw [hp.length_eq, List.length_map]
  have hrt : ∀ x, Rt (renR nm tn x) x := fun x => by
    have q := ren_same nm tn x
    exact ⟨q.2.2.2.2.2.1, q.2.2.2.2.2.2.1, q.2.2.2.2.2.2.2.1, q.2.2.2.2.2.2.2.2⟩
  refine ⟨⟨rename_ok h ha ht, .inl ⟨hl, rfl⟩, fun hh => ?_⟩, fun y hy => ?_, fun x hx => ⟨_, hp.symm.subset (List.mem_map_of_mem hx), hrt x⟩⟩
  · have hh' : (sortL (t.recs.map (renR nm tn))).length = t.recs.length + 1 := hh
    omega
  · obtain ⟨x, hx, rfl⟩ := List.mem_map.1 (hp.subset hy)
    have q := hrt x
    exact ⟨x, hx, q.1.symm, q.2.1.symm, q.2.2.1.symm, q.2.2.2.symm⟩

/-! ### Each call -/
theorem hole_root : rootB (PV.mk undef [] 0 0 nones) = true := by decide +kernel
theorem root_alone {r s : RC} (h : s.aloneB = true) (hr : Rt r s) : rootB (r.pv undef) = true := by
  unfold RC.aloneB at h
  have h3 : rootB (s.pv undef) = true := (Bool.and_eq_true_iff.1 (Bool.and_eq_true_iff.1 h).1).2
  unfold RC.pv at h3 ⊢
  rw [hr.1, hr.2.1, hr.2.2.1, hr.2.2.2]
  exact h3
theorem alone_mk {r : RC} (h1 : inB r.id 1 2147483647 = true) (h2 : inB r.size 1 64 = true) (h3 : inB r.made 1 2147483648 = true) (h4 : rootB (r.pv undef) = true) (h5 : r.kindB = true) : r.aloneB = true := by
  unfold RC.aloneB
  rw [h1, h2, h3, h4, h5]
  rfl
theorem alone_in {r : RC} (h : r.aloneB = true) : inB r.id 1 2147483647 = true ∧ inB r.size 1 64 = true ∧ inB r.made 1 2147483648 = true ∧ r.kindB = true := by
  unfold RC.aloneB at h
  simp only [Bool.and_eq_true] at h
  exact ⟨h.1.1.1.1, h.1.1.1.2, h.1.1.2, h.2⟩
theorem next_in {t : TC} (h : OkP t) (hn : t.next < 2147483648) : inB t.next 1 2147483647 = true := inB_iff.2 ⟨h.next.1, by omega⟩
theorem kindB_vol {r : RC} (k : r.kind = 1) (h1 : partB r.name = true) (h2 : r.own = 0) (h3 : inB r.origin 0 2147483647 = true) (h4 : inB r.quota 0 64 = true) (h5 : inB r.reserve 0 64 = true) : r.kindB = true := by
  unfold RC.kindB
  rw [k, h1, h2, h3, h4, h5]
  rfl
theorem kindB_snap {r : RC} (k : r.kind = 2) (h1 : snapB r.name = true) (h2 : inB r.own 1 2147483647 = true) (h3 : r.origin = 0) (h4 : r.quota = 0) (h5 : r.reserve = 0) (h6 : r.b ≤ r.made) : r.kindB = true := by
  unfold RC.kindB
  rw [k, h1, h2, h3, h4, h5, decide_eq_true h6]
  rfl
theorem room_no {t : TC} {nm : List UInt8} (hr : ¬ (roomE t nm == 0) = true) (hz : (badR (roomE t nm)).1 = 0) : False := by
  have hz' : roomE t nm = 0 := hz
  rw [hz'] at hr
  exact hr rfl
theorem snap_part {s : List UInt8} (h : snapB s = true) : partB (splitL s).1 = true := by
  obtain ⟨a, b, e, _, ha, _⟩ := snap_form h
  rw [e]
  exact ha
theorem bad_no {e : Int} (h : (badR e).1 = 0) (he : e ≠ 0) : False := he h
theorem in_zero2 : inB 0 0 2147483647 = true := by decide
theorem in_zero : inB 0 0 64 = true := by decide
theorem make_keeps {t : TC} {nm : List UInt8} {size txg : Int} (h : OkP t) (hz : (makeR t nm size txg).1 = 0) : Keeps t (makeR t nm size txg).2 txg ∧ Tos t (makeR t nm size txg).2 := by
  unfold makeR at hz ⊢
  by_cases hc : ((partB nm && inB size 1 64) && txgB txg) = true
  · rw [if_pos hc] at hz ⊢
    by_cases hr : (roomE t nm == 0) = true
    · rw [if_pos hr]
      simp only [Bool.and_eq_true] at hc
      have hn := (room_zero hr).2.2
      have q := put_keeps (x := volR nm size txg) h hr (alone_mk (next_in h hn) hc.1.2 hc.2 hole_root (kindB_vol rfl hc.1.1 rfl in_zero2 in_zero in_zero)) (by unfold kinP; rw [if_neg (by show ¬ (1 : Int) = 2; decide)]; exact .inl rfl)
      exact ⟨q.1, q.2.1⟩
    · rw [if_neg hr] at hz
      exact absurd hz (room_no hr)
  · rw [if_neg hc] at hz
    exact (bad_no (e := 2) hz (by decide)).elim
theorem snap_keeps {t : TC} {nm : List UInt8} {txg : Int} (h : OkP t) (hz : (snapT t nm txg).1 = 0) : Keeps t (snapT t nm txg).2 txg ∧ Froms t (snapT t nm txg).2 ∧ Tos t (snapT t nm txg).2 := by
  unfold snapT at hz ⊢
  by_cases hc : (snapB nm && txgB txg) = true
  · rw [if_pos hc] at hz ⊢
    cases hv : recAt (splitL nm).1 t.recs with
    | none => rw [hv] at hz; exact (bad_no (e := 6) hz (by decide)).elim
    | some v =>
      rw [hv] at hz
      simp only at hz ⊢
      by_cases hr : (roomE t nm == 0) = true
      · rw [if_pos hr] at hz ⊢
        by_cases hb : decide (txg < v.b) = true
        · rw [if_pos hb] at hz
          exact (bad_no (e := 2) hz (by decide)).elim
        · rw [if_neg hb]
          simp only [Bool.and_eq_true] at hc
          have hn := (room_zero hr).2.2
          obtain ⟨hm, he⟩ := rec_mem hv
          have hav := h.alone v hm
          have hpv : v.kind = 1 ∧ partB v.name = true := by
            rcases alone_kind hav with k | ⟨k2, n2⟩
            · exact k
            · rw [he] at n2
              exact absurd (part_not_snap (snap_part hc.1)) (by rw [n2]; decide)
          have q := put_keeps (x := snapR v nm txg) h hr (alone_mk (next_in h hn) (alone_in hav).2.1 hc.2 (root_alone hav ⟨rfl, rfl, rfl, rfl⟩) (kindB_snap rfl hc.1 (alone_in hav).1 rfl rfl rfl (by show v.b ≤ txg; simp at hb; omega))) (by unfold kinP; rw [if_pos (by rfl)]; exact ⟨v, hm, he, rfl⟩)
          exact ⟨q.1, q.2.2 ⟨v, hm, ⟨rfl, rfl, rfl, rfl⟩⟩, q.2.1⟩
      · rw [if_neg hr] at hz
        exact absurd hz (room_no hr)
  · rw [if_neg hc] at hz
    exact (bad_no (e := 2) hz (by decide)).elim
theorem clone_keeps {t : TC} {sp nm : List UInt8} {txg : Int} (h : OkP t) (hz : (cloneT t sp nm txg).1 = 0) : Keeps t (cloneT t sp nm txg).2 txg ∧ Froms t (cloneT t sp nm txg).2 ∧ Tos t (cloneT t sp nm txg).2 := by
  unfold cloneT at hz ⊢
  by_cases hc : ((snapB sp && partB nm) && txgB txg) = true
  · rw [if_pos hc] at hz ⊢
    cases hv : recAt sp t.recs with
    | none => rw [hv] at hz; exact (bad_no (e := 6) hz (by decide)).elim
    | some s =>
      rw [hv] at hz
      simp only at hz ⊢
      by_cases hr : (roomE t nm == 0) = true
      · rw [if_pos hr]
        simp only [Bool.and_eq_true] at hc
        have hn := (room_zero hr).2.2
        obtain ⟨hm, he⟩ := rec_mem hv
        have has := h.alone s hm
        have hk2 : s.kind = 2 := by
          rcases alone_kind has with ⟨k1, n1⟩ | ⟨k2, _⟩
          · rw [he] at n1
            exact absurd hc.1.1 (by rw [part_not_snap n1]; decide)
          · exact k2
        have hid := inB_iff.1 (alone_in has).1
        have q := put_keeps (x := cloneR s nm txg) h hr (alone_mk (next_in h hn) (alone_in has).2.1 hc.2 (root_alone has ⟨rfl, rfl, rfl, rfl⟩) (kindB_vol rfl hc.1.2 rfl (inB_iff.2 ⟨by show 0 ≤ s.id; omega, hid.2⟩) in_zero in_zero)) (by unfold kinP; rw [if_neg (by show ¬ (1 : Int) = 2; decide)]; exact .inr ⟨s, hm, rfl, hk2⟩)
        exact ⟨q.1, q.2.2 ⟨s, hm, ⟨rfl, rfl, rfl, rfl⟩⟩, q.2.1⟩
      · rw [if_neg hr] at hz
        exact absurd hz (room_no hr)
  · rw [if_neg hc] at hz
    exact (bad_no (e := 2) hz (by decide)).elim
theorem set_findN {t : TC} {nm : List UInt8} {r y : RC} (hr : recAt nm t.recs = some r) : ∃ k : Nat, t.recs[k]? = some r ∧ r.name = nm ∧ findN nm t.recs = (k : Int) ∧ setN nm t.recs y = t.recs.set k y := by
  rcases find_split (nm := nm) (l := t.recs) with ⟨h1, _⟩ | ⟨j, z, h1, h2, h3, _, h5⟩
  · rw [h1] at hr
    cases hr
  · rw [h2] at hr
    cases hr
    exact ⟨j, h1, h5, h3, by unfold setN; rw [h3]; rfl⟩
theorem roll_keeps {t : TC} {sp : List UInt8} (txg : Int) (h : OkP t) (hz : (rollT t sp).1 = 0) : Keeps t (rollT t sp).2 txg ∧ Froms t (rollT t sp).2 := by
  unfold rollT at hz ⊢
  by_cases hc : snapB sp = true
  · rw [if_pos hc] at hz ⊢
    cases hv : recAt sp t.recs with
    | none => rw [hv] at hz; exact (bad_no (e := 6) hz (by decide)).elim
    | some s =>
      rw [hv] at hz
      simp only at hz ⊢
      split at hz
      next => exact (bad_no (e := 17) hz (by decide)).elim
      next hb =>
        rw [if_neg hb]
        obtain ⟨k, v, h1, h2, h3, h4, h5, h6⟩ := snap_vol (okP_iff.2 h) hc hv
        rw [h2]
        simp only
        obtain ⟨hm, he⟩ := rec_mem hv
        have has := h.alone s hm
        have hav := h.alone v (List.mem_of_getElem? h1)
        obtain ⟨k', q1, q2, q3, q4⟩ := set_findN (y := backR v s) h2
        rw [h3] at q3
        have ek : k' = k := by omega
        subst ek
        rw [q4]
        have hvk : v.kind = 1 ∧ partB v.name = true := by
          rcases alone_kind hav with q | ⟨_, n2⟩
          · exact q
          · rw [q2] at n2
            exact absurd (part_not_snap (snap_part hc)) (by rw [n2]; decide)
        have q := set_keeps (y := backR v s) h h1 rfl rfl rfl rfl rfl (alone_mk (alone_in hav).1 (alone_in has).2.1 (alone_in hav).2.2.1 (root_alone has ⟨rfl, rfl, rfl, rfl⟩) (by have e := (alone_in hav).2.2.2; unfold RC.kindB at e ⊢; rw [if_pos (by simp [hvk.1])] at e; rw [if_pos (by show (v.kind == 1) = true; simp [hvk.1])]; exact e)) txg
        exact ⟨q.1, q.2.1 ⟨s, hm, ⟨rfl, rfl, rfl, rfl⟩⟩⟩
  · rw [if_neg hc] at hz
    exact (bad_no (e := 2) hz (by decide)).elim
theorem dropT_keeps {t : TC} {nm : List UInt8} (txg : Int) (h : OkP t) (hz : (dropT t nm).1 = 0) : Keeps t (dropT t nm).2 txg ∧ Froms t (dropT t nm).2 := by
  unfold dropT at hz ⊢
  by_cases hc : namedB nm = true
  · rw [if_pos hc] at hz ⊢
    cases hv : recAt nm t.recs with
    | none => rw [hv] at hz; exact (bad_no (e := 6) hz (by decide)).elim
    | some r =>
      rw [hv] at hz
      simp only at hz ⊢
      split at hz
      next => exact (bad_no (e := 17) hz (by decide)).elim
      next hb =>
        rw [if_neg hb]
        obtain ⟨k, q1, q2, q3, _⟩ := set_findN (y := r) hv
        rw [q3]
        exact drop_keeps h q1 (fun x hx => ⟨fun e => hb (List.any_eq_true.2 ⟨x, hx, by simp [e]⟩), fun e => hb (List.any_eq_true.2 ⟨x, hx, by simp [e]⟩)⟩) txg
  · rw [if_neg hc] at hz
    exact (bad_no (e := 2) hz (by decide)).elim
theorem renT_keeps {t : TC} {nm tn : List UInt8} (txg : Int) (h : OkP t) (hz : (renameT t nm tn).1 = 0) : Keeps t (renameT t nm tn).2 txg ∧ Froms t (renameT t nm tn).2 ∧ Tos t (renameT t nm tn).2 := by
  unfold renameT at hz ⊢
  by_cases hc : alikeB nm tn = true
  · rw [if_pos hc] at hz ⊢
    by_cases h1 : isAt nm t.recs = true
    · rw [if_pos h1] at hz ⊢
      by_cases h2 : isAt tn t.recs = true
      · rw [if_pos h2] at hz
        exact (bad_no (e := 7) hz (by decide)).elim
      · rw [if_neg h2]
        exact rename_keeps h hc (by simpa using h2) txg
    · rw [if_neg h1] at hz
      exact (bad_no (e := 6) hz (by decide)).elim
  · rw [if_neg hc] at hz
    exact (bad_no (e := 2) hz (by decide)).elim
/-- A volume is turned. -/
theorem change_keeps {t : TC} {nm : List UInt8} {fine : Bool} {f : RC → RC} (txg : Int) (h : OkP t) (hf : ∀ v : RC, (f v).id = v.id ∧ (f v).name = v.name ∧ (f v).kind = v.kind ∧ (f v).own = v.own ∧ (f v).origin = v.origin) (ha : fine = true → ∀ v : RC, v.aloneB = true → v.kind = 1 → (f v).aloneB = true) (hz : (changeT t nm fine f).1 = 0) :
    Keeps t (changeT t nm fine f).2 txg ∧ ((∀ v, Rt (f v) v) → Froms t (changeT t nm fine f).2 ∧ Tos t (changeT t nm fine f).2) := by
  unfold changeT at hz ⊢
  by_cases hc : (fine && namedB nm) = true
  · rw [if_pos hc] at hz ⊢
    cases hv : recAt nm t.recs with
    | none => rw [hv] at hz; exact (bad_no (e := 6) hz (by decide)).elim
    | some r =>
      rw [hv] at hz
      simp only at hz ⊢
      by_cases h2 : (r.kind == 2) = true
      · rw [if_pos h2] at hz
        exact (bad_no (e := 18) hz (by decide)).elim
      · rw [if_neg h2]
        simp only [Bool.and_eq_true] at hc
        obtain ⟨k, q1, q2, q3, q4⟩ := set_findN (y := f r) hv
        rw [q4]
        have hm := List.mem_of_getElem? q1
        have har := h.alone r hm
        have hk : r.kind = 1 := by
          rcases alone_kind har with q | q
          · exact q.1
          · rw [q.1] at h2; exact absurd rfl h2
        obtain ⟨f1, f2, f3, f4, f5⟩ := hf r
        have q := set_keeps (y := f r) h q1 f1 f2 f3 f4 f5 (ha hc.1 r har hk) txg
        exact ⟨q.1, fun hr => ⟨q.2.1 ⟨r, hm, by have e := hr r; exact ⟨e.1.symm, e.2.1.symm, e.2.2.1.symm, e.2.2.2.symm⟩⟩, q.2.2 (hr r)⟩⟩
  · rw [if_neg hc] at hz
    exact (bad_no (e := 2) hz (by decide)).elim
theorem kindB_turn {r : RC} {sz q s : Int} {l : List (Int × Int)} {b v : Int} {S : List UInt8} (h : r.kindB = true) (k : r.kind = 1) (hq : inB q 0 64 = true) (hs : inB s 0 64 = true) : RC.kindB { r with size := sz, quota := q, reserve := s, l := l, b := b, v := v, S := S } = true := by
  unfold RC.kindB at h ⊢
  rw [if_pos (by simp [k])] at h
  rw [if_pos (by show (r.kind == 1) = true; simp [k])]
  simp only [Bool.and_eq_true] at h ⊢
  exact ⟨⟨h.1.1, hq⟩, hs⟩
theorem quota_in {r : RC} (h : r.kindB = true) (k : r.kind = 1) : inB r.quota 0 64 = true ∧ inB r.reserve 0 64 = true := by
  unfold RC.kindB at h
  rw [if_pos (by simp [k])] at h
  simp only [Bool.and_eq_true] at h
  exact ⟨h.1.2, h.2⟩
theorem resize_keeps {t : TC} {nm : List UInt8} {size : Int} (txg : Int) (h : OkP t) (hz : (resizeT t nm size).1 = 0) : Keeps t (resizeT t nm size).2 txg ∧ Froms t (resizeT t nm size).2 ∧ Tos t (resizeT t nm size).2 := by
  have q := change_keeps (fine := inB size 1 64) (f := fun v => { v with size := size }) txg h (fun v => ⟨rfl, rfl, rfl, rfl, rfl⟩) (fun hc v hv hk => alone_mk (alone_in hv).1 hc (alone_in hv).2.2.1 (root_alone hv ⟨rfl, rfl, rfl, rfl⟩) (kindB_turn (alone_in hv).2.2.2 hk (quota_in (alone_in hv).2.2.2 hk).1 (quota_in (alone_in hv).2.2.2 hk).2)) hz
  exact ⟨q.1, q.2 fun v => Rt.refl v⟩
theorem limit_keeps {t : TC} {nm : List UInt8} {a b : Int} (txg : Int) (h : OkP t) (hz : (limitT t nm a b).1 = 0) : Keeps t (limitT t nm a b).2 txg ∧ Froms t (limitT t nm a b).2 ∧ Tos t (limitT t nm a b).2 := by
  have q := change_keeps (fine := limB a && limB b) (f := fun v => { v with quota := a, reserve := b }) txg h (fun v => ⟨rfl, rfl, rfl, rfl, rfl⟩) (fun hc v hv hk => by
    simp only [Bool.and_eq_true] at hc
    exact alone_mk (alone_in hv).1 (alone_in hv).2.1 (alone_in hv).2.2.1 (root_alone hv ⟨rfl, rfl, rfl, rfl⟩) (kindB_turn (alone_in hv).2.2.2 hk hc.1 hc.2)) hz
  exact ⟨q.1, q.2 fun v => Rt.refl v⟩
theorem root_any_sv {p : PV} {sv : Value} (h : rootB p = true) : rootB { p with sv := sv } = true := h
theorem rootT_keeps {t : TC} {nm : List UInt8} {p : PV} (txg : Int) (h : OkP t) (hz : (rootT t nm p).1 = 0) : Keeps t (rootT t nm p).2 txg := by
  have q := change_keeps (fine := rootB p) (f := fun v => { v with l := p.l, b := p.b, v := p.v, S := p.S }) txg h (fun v => ⟨rfl, rfl, rfl, rfl, rfl⟩) (fun hc v hv hk => alone_mk (alone_in hv).1 (alone_in hv).2.1 (alone_in hv).2.2.1 hc (kindB_turn (alone_in hv).2.2.2 hk (quota_in (alone_in hv).2.2.2 hk).1 (quota_in (alone_in hv).2.2.2 hk).2)) hz
  exact q.1
end Go.Proofs.YtifajcblbedcoaaGreat
namespace Go.Proofs.YtifajcblbedcoaaGreat
set_option linter.unusedVariables false
set_option linter.unusedSimpArgs false
open Go.RowKit Hp
attribute [local irreducible] Go.Calls Go.wpList
set_option maxHeartbeats 1000000
theorem keeps_refl {t : TC} (h : OkP t) (txg : Int) : Keeps t t txg := ⟨h, .inl ⟨rfl, rfl⟩, fun e => by omega⟩
/-- What an act that is done keeps. -/
structure KeepsA (t u : TC) (x : AD) : Prop where
  k : Keeps t u x.txg
  froms : x.kind ≠ 8 → x.kind ≠ 0 → Froms t u
  tos : x.kind ≠ 8 → x.kind ≠ 3 → x.kind ≠ 4 → Tos t u
theorem do_keeps {t : TC} {x : AD} (h : OkP t) (hz : (doR t x).1 = 0) : KeepsA t (doR t x).2 x := by
  have hk := okP_iff.2 h
  obtain ⟨k, z, txg, nm, tn, p⟩ := x
  unfold doR at hz ⊢
  simp only at hz ⊢
  split at hz
  next e =>
    subst e
    rw [if_pos rfl]
    obtain ⟨h1, h2⟩ := op_zero hk hz
    rw [h2]
    have q := make_keeps h h1
    exact ⟨q.1, fun _ e => absurd rfl e, fun _ _ _ => q.2⟩
  next e0 =>
  rw [if_neg e0]
  split at hz
  next e =>
    rw [if_pos e]
    obtain ⟨h1, h2⟩ := op_zero hk hz
    rw [h2]
    have q := snap_keeps h h1
    exact ⟨q.1, fun _ _ => q.2.1, fun _ _ _ => q.2.2⟩
  next e1 =>
  rw [if_neg e1]
  split at hz
  next e =>
    rw [if_pos e]
    obtain ⟨h1, h2⟩ := op_zero hk hz
    rw [h2]
    have q := clone_keeps h h1
    exact ⟨q.1, fun _ _ => q.2.1, fun _ _ _ => q.2.2⟩
  next e2 =>
  rw [if_neg e2]
  split at hz
  next e =>
    rw [if_pos e]
    obtain ⟨h1, h2⟩ := op_zero hk hz
    rw [h2]
    have q := roll_keeps txg h h1
    exact ⟨q.1, fun _ _ => q.2, fun _ e' => absurd e e'⟩
  next e3 =>
  rw [if_neg e3]
  split at hz
  next e =>
    rw [if_pos e]
    obtain ⟨h1, h2⟩ := op_zero hk hz
    rw [h2]
    have q := dropT_keeps txg h h1
    exact ⟨q.1, fun _ _ => q.2, fun _ _ e' => absurd e e'⟩
  next e4 =>
  rw [if_neg e4]
  split at hz
  next e =>
    rw [if_pos e]
    obtain ⟨h1, h2⟩ := op_zero hk hz
    rw [h2]
    have q := renT_keeps txg h h1
    exact ⟨q.1, fun _ _ => q.2.1, fun _ _ _ => q.2.2⟩
  next e5 =>
  rw [if_neg e5]
  split at hz
  next e =>
    rw [if_pos e]
    obtain ⟨h1, h2⟩ := op_zero hk hz
    rw [h2]
    have q := resize_keeps txg h h1
    exact ⟨q.1, fun _ _ => q.2.1, fun _ _ _ => q.2.2⟩
  next e6 =>
  rw [if_neg e6]
  split at hz
  next e =>
    rw [if_pos e]
    obtain ⟨h1, h2⟩ := op_zero hk hz
    rw [h2]
    have q := limit_keeps txg h h1
    exact ⟨q.1, fun _ _ => q.2.1, fun _ _ _ => q.2.2⟩
  next e7 =>
  rw [if_neg e7]
  split at hz
  next e =>
    rw [if_pos e]
    obtain ⟨h1, h2⟩ := op_zero hk hz
    rw [h2]
    exact ⟨rootT_keeps txg h h1, fun e' => absurd e e', fun e' => absurd e e'⟩
  next e8 =>
  rw [if_neg e8]
  exact ⟨keeps_refl h txg, fun _ _ y hy => ⟨y, hy, Rt.refl y⟩, fun _ _ _ y hy => ⟨y, hy, Rt.refl y⟩⟩
theorem op_bad {t : TC} {r : TR} (h : (opR t r).1 ≠ 0) : (opR t r).2 = noTab := by
  unfold opR at h ⊢
  cases hk : t.ok with
  | false => rfl
  | true =>
    rw [hk] at h
    by_cases e : (r.1 == 0) = true
    · rw [if_pos rfl, if_pos e] at h
      exact absurd (by simpa using e) h
    · rw [if_pos rfl, if_neg e]
      rfl
theorem do_bad {t : TC} {x : AD} (h : (doR t x).1 ≠ 0) : (doR t x).2 = noTab := by
  unfold doR at h ⊢
  split at h
  next e => rw [if_pos e]; exact op_bad h
  next e0 =>
  rw [if_neg e0]
  split at h
  next e => rw [if_pos e]; exact op_bad h
  next e1 =>
  rw [if_neg e1]
  split at h
  next e => rw [if_pos e]; exact op_bad h
  next e2 =>
  rw [if_neg e2]
  split at h
  next e => rw [if_pos e]; exact op_bad h
  next e3 =>
  rw [if_neg e3]
  split at h
  next e => rw [if_pos e]; exact op_bad h
  next e4 =>
  rw [if_neg e4]
  split at h
  next e => rw [if_pos e]; exact op_bad h
  next e5 =>
  rw [if_neg e5]
  split at h
  next e => rw [if_pos e]; exact op_bad h
  next e6 =>
  rw [if_neg e6]
  split at h
  next e => rw [if_pos e]; exact op_bad h
  next e7 =>
  rw [if_neg e7]
  split at h
  next e => rw [if_pos e]; exact op_bad h
  next e8 => exact absurd rfl h
theorem idle_do {t : TC} {x : AD} (h : x.idle = true) : doR t x = (0, t) := by
  unfold AD.idle at h
  simp only [Bool.or_eq_true, decide_eq_true_eq] at h
  unfold doR
  rw [if_neg (by omega), if_neg (by omega), if_neg (by omega), if_neg (by omega), if_neg (by omega), if_neg (by omega), if_neg (by omega), if_neg (by omega), if_neg (by omega)]
/-- An act done to a table of the pool: what it tells lies in the pool too. -/
theorem does_pool {w w1 : World} {B P : List HA} {t : TC} {ar al : Option Addr} {cr cl : Nat} {xs : List (Value × RC)} (hst : St w [] w1 (B ++ P)) (hin : InP P t ar al cr cl xs) (hb : t.recs.length ≤ 1000000 ∧ t.lives.length ≤ 1000000) {x : AD} (hx : x.Few w1) :
    Calls Tryz.prog 11 #[.agg (tabC t (.slice ar xs.length cr) (.slice al t.lives.length cl)).toArray, .agg x.cells.toArray] w1 fun e w2 =>
      ∃ (a a' : Option Addr) (c c' : Nat) (P' : List HA) (xs' : List (Value × RC)), e = .returned (.tuple #[.agg (tabC (doR t x).2 (.slice a xs'.length c) (.slice a' (doR t x).2.lives.length c')).toArray, .int .i64 (doR t x).1]) ∧ InP P' (doR t x).2 a a' c c' xs' ∧ (∀ y ∈ P, y ∈ P') ∧ St w [] w2 (B ++ P') := by
  cases hi : x.idle
  · exact (does13_any t ar al xs.length cr t.lives.length cl xs w1 (hin.tab hst hb) x hx hi).mono fun e w2 h => ret_pool hst h
  · refine (does_none t ar al xs.length cr t.lives.length cl xs w1 (hin.tab hst hb) x hx hi).mono fun e w2 ⟨he, h4⟩ => ?_
    rw [idle_do hi]
    exact ⟨ar, al, cr, cl, P, xs, he, hin, fun y hy => hy, St.call0 hst h4⟩
end Go.Proofs.YtifajcblbedcoaaGreat
namespace Go.Proofs.YtifajcblbedcoaaGreat
set_option linter.unusedVariables false
set_option linter.unusedSimpArgs false
open Go.RowKit Hp
theorem rt_same {x y : RC} (h : Rt y x) (sv sv' : Value) : (y.pv sv).same (x.pv sv') = true := by
  unfold PV.same RC.pv
  simp only
  rw [h.1, h.2.1, h.2.2.1, h.2.2.2]
  exact sameB_refl _ _ _ _
theorem froms_has {t u : TC} (h : Froms t u) {x : RC} (hx : x ∈ u.recs) (sv : Value) : hasB t.recs (x.pv sv) = true := by
  obtain ⟨y, hy, q⟩ := h x hx
  unfold hasB
  rw [List.any_eq_true]
  exact ⟨y, hy, rt_same q _ _⟩
theorem tos_has {t u : TC} (h : Tos t u) {x : RC} (hx : x ∈ t.recs) (sv : Value) : hasB u.recs (x.pv sv) = true := by
  obtain ⟨y, hy, q⟩ := h x hx
  unfold hasB
  rw [List.any_eq_true]
  exact ⟨y, hy, rt_same q _ _⟩
/-- How many more. -/
def moreOf (t u : TC) : Int := (u.recs.length : Int) - (t.recs.length : Int)
theorem more_facts {t u : TC} {x : AD} (h : KeepsA t u x) : ¬ (u.next < t.next) ∧ u.next - t.next = max (moreOf t u) 0 ∧ ¬ (1 < moreOf t u) ∧ ¬ (moreOf t u < -1) := by
  unfold moreOf
  rcases h.k.grow with ⟨h1, h2⟩ | ⟨h1, h2⟩ | ⟨h1, h2⟩ <;> omega
theorem made_facts {t u : TC} {x : AD} (h : KeepsA t u x) (hm : moreOf t u = 1) {r : RC} (hr : r ∈ u.recs) (hi : r.id = t.next) : r.made = x.txg := by
  unfold moreOf at hm
  exact h.k.made (by omega) r hr hi
theorem new_ok {k : Nat} (hk : k < 7) : newR (2 + (k : Int)) = (0, ⟨1, [], 0, 0, 0, 0, List.replicate (2 + k) 0⟩) ∧ OkP ⟨1, [], 0, 0, 0, 0, List.replicate (2 + k) 0⟩ := by
  have h : ∀ k : Fin 7, TC.ok ⟨1, [], 0, 0, 0, 0, List.replicate (2 + k.val) 0⟩ = true := by decide +kernel
  refine ⟨?_, okP_iff.1 (h ⟨k, hk⟩)⟩
  unfold newR
  rw [if_pos (by unfold inB; simp; omega)]
  have e : (2 + (k : Int)).toNat = 2 + k := by omega
  rw [e]
end Go.Proofs.YtifajcblbedcoaaGreat
namespace Go.Proofs.YtifajcblbedcoaaGreat
set_option linter.unusedVariables false
set_option linter.unusedSimpArgs false
open Go.RowKit Hp
theorem tr_fst {r : TR} {z : Int} (h : (r.1 == z) = true) : r = (z, r.2) := by
  obtain ⟨a, b⟩ := r
  have : a = z := by simpa using h
  rw [this]
def tN : TC := (newR 2).2
theorem tN_eq : newR 2 = (0, tN) := tr_fst (by decide +kernel)
theorem tN_bd : tN.recs.length ≤ 1000000 ∧ tN.lives.length ≤ 1000000 := by decide +kernel
theorem tN_rl : tN.recs.length ≤ 1000 := by decide +kernel
def tA : TC := (opR tN (makeR tN [97] 4 1)).2
theorem tA_eq : opR tN (makeR tN [97] 4 1) = (0, tA) := tr_fst (by decide +kernel)
theorem tA_bd : tA.recs.length ≤ 1000000 ∧ tA.lives.length ≤ 1000000 := by decide +kernel
theorem tA_rl : tA.recs.length ≤ 1000 := by decide +kernel
def tAX : TC := (opR tA (snapT tA [97, 64, 120] 2)).2
theorem tAX_eq : opR tA (snapT tA [97, 64, 120] 2) = (0, tAX) := tr_fst (by decide +kernel)
theorem tAX_bd : tAX.recs.length ≤ 1000000 ∧ tAX.lives.length ≤ 1000000 := by decide +kernel
theorem tAX_rl : tAX.recs.length ≤ 1000 := by decide +kernel
def tS : TC := (opR tAX (cloneT tAX [97, 64, 120] [98] 3)).2
theorem tS_eq : opR tAX (cloneT tAX [97, 64, 120] [98] 3) = (0, tS) := tr_fst (by decide +kernel)
theorem tS_bd : tS.recs.length ≤ 1000000 ∧ tS.lives.length ≤ 1000000 := by decide +kernel
theorem tS_rl : tS.recs.length ≤ 1000 := by decide +kernel
def tD1 : TC := (opR tS (dropT tS [97])).2
theorem tD1_eq : opR tS (dropT tS [97]) = (17, tD1) := tr_fst (by decide +kernel)
theorem tD1_bd : tD1.recs.length ≤ 1000000 ∧ tD1.lives.length ≤ 1000000 := by decide +kernel
theorem tD1_rl : tD1.recs.length ≤ 1000 := by decide +kernel
def tD2 : TC := (opR tS (dropT tS [97, 64, 120])).2
theorem tD2_eq : opR tS (dropT tS [97, 64, 120]) = (17, tD2) := tr_fst (by decide +kernel)
theorem tD2_bd : tD2.recs.length ≤ 1000000 ∧ tD2.lives.length ≤ 1000000 := by decide +kernel
theorem tD2_rl : tD2.recs.length ≤ 1000 := by decide +kernel
def tD3 : TC := (opR tS (dropT tS [98])).2
theorem tD3_eq : opR tS (dropT tS [98]) = (0, tD3) := tr_fst (by decide +kernel)
theorem tD3_bd : tD3.recs.length ≤ 1000000 ∧ tD3.lives.length ≤ 1000000 := by decide +kernel
theorem tD3_rl : tD3.recs.length ≤ 1000 := by decide +kernel
def tD4 : TC := (opR tD3 (dropT tD3 [97, 64, 120])).2
theorem tD4_eq : opR tD3 (dropT tD3 [97, 64, 120]) = (0, tD4) := tr_fst (by decide +kernel)
theorem tD4_bd : tD4.recs.length ≤ 1000000 ∧ tD4.lives.length ≤ 1000000 := by decide +kernel
theorem tD4_rl : tD4.recs.length ≤ 1000 := by decide +kernel
theorem tS_names : (namesOf tS == [[97], [97, 64, 120], [98]]) = true := by decide +kernel
theorem tD4_names : (namesOf tD4 == [[97]]) = true := by decide +kernel
theorem tS_next : tS.next = 4 := by decide +kernel
theorem tS_len : tS.recs.length = 3 := by decide +kernel
def sR0 : RC := tS.recs.getD 0 (volR [] 0 0)
def sR1 : RC := tS.recs.getD 1 (volR [] 0 0)
def sR2 : RC := tS.recs.getD 2 (volR [] 0 0)
theorem tS_recs : tS.recs = [sR0, sR1, sR2] := by
  have h := tS_len
  unfold sR0 sR1 sR2
  generalize tS.recs = l at h ⊢
  match l, h with
  | [a, b, c], _ => rfl
theorem tS_vals : sR0.id = 1 ∧ sR1.own = 1 ∧ sR1.id = 2 ∧ sR2.origin = 2 := by decide +kernel
def tK1 : TC := (opR tS (renameT tS [97] [99])).2
theorem tK1_eq : opR tS (renameT tS [97] [99]) = (0, tK1) := tr_fst (by decide +kernel)
theorem tK1_bd : tK1.recs.length ≤ 1000000 ∧ tK1.lives.length ≤ 1000000 := by decide +kernel
theorem tK1_rl : tK1.recs.length ≤ 1000 := by decide +kernel
def tK2 : TC := (opR tS (renameT tS [97] [98])).2
theorem tK2_eq : opR tS (renameT tS [97] [98]) = (7, tK2) := tr_fst (by decide +kernel)
theorem tK2_bd : tK2.recs.length ≤ 1000000 ∧ tK2.lives.length ≤ 1000000 := by decide +kernel
theorem tK2_rl : tK2.recs.length ≤ 1000 := by decide +kernel
def tK3 : TC := (opR tS (renameT tS [97, 64, 120] [98, 64, 120])).2
theorem tK3_eq : opR tS (renameT tS [97, 64, 120] [98, 64, 120]) = (2, tK3) := tr_fst (by decide +kernel)
theorem tK3_bd : tK3.recs.length ≤ 1000000 ∧ tK3.lives.length ≤ 1000000 := by decide +kernel
theorem tK3_rl : tK3.recs.length ≤ 1000 := by decide +kernel
def tK4 : TC := (opR tS (renameT tS [97] [97])).2
theorem tK4_eq : opR tS (renameT tS [97] [97]) = (7, tK4) := tr_fst (by decide +kernel)
theorem tK4_bd : tK4.recs.length ≤ 1000000 ∧ tK4.lives.length ≤ 1000000 := by decide +kernel
theorem tK4_rl : tK4.recs.length ≤ 1000 := by decide +kernel
def tK5 : TC := (opR tS (resizeT tS [97, 64, 120] 5)).2
theorem tK5_eq : opR tS (resizeT tS [97, 64, 120] 5) = (18, tK5) := tr_fst (by decide +kernel)
theorem tK5_bd : tK5.recs.length ≤ 1000000 ∧ tK5.lives.length ≤ 1000000 := by decide +kernel
theorem tK5_rl : tK5.recs.length ≤ 1000 := by decide +kernel
def tK6 : TC := (opR tS (limitT tS [97] 65 0)).2
theorem tK6_eq : opR tS (limitT tS [97] 65 0) = (2, tK6) := tr_fst (by decide +kernel)
theorem tK6_bd : tK6.recs.length ≤ 1000000 ∧ tK6.lives.length ≤ 1000000 := by decide +kernel
theorem tK6_rl : tK6.recs.length ≤ 1000 := by decide +kernel
def tK7 : TC := (opR tS (makeR tS [97, 64, 98] 1 1)).2
theorem tK7_eq : opR tS (makeR tS [97, 64, 98] 1 1) = (2, tK7) := tr_fst (by decide +kernel)
theorem tK7_bd : tK7.recs.length ≤ 1000000 ∧ tK7.lives.length ≤ 1000000 := by decide +kernel
theorem tK7_rl : tK7.recs.length ≤ 1000 := by decide +kernel
def tK8 : TC := (opR tS (snapT tS [122, 64, 120] 1)).2
theorem tK8_eq : opR tS (snapT tS [122, 64, 120] 1) = (6, tK8) := tr_fst (by decide +kernel)
theorem tK8_bd : tK8.recs.length ≤ 1000000 ∧ tK8.lives.length ≤ 1000000 := by decide +kernel
theorem tK8_rl : tK8.recs.length ≤ 1000 := by decide +kernel
def tK9 : TC := (opR tS (makeR tS [98] 4 4)).2
theorem tK9_eq : opR tS (makeR tS [98] 4 4) = (7, tK9) := tr_fst (by decide +kernel)
theorem tK9_bd : tK9.recs.length ≤ 1000000 ∧ tK9.lives.length ≤ 1000000 := by decide +kernel
theorem tK9_rl : tK9.recs.length ≤ 1000 := by decide +kernel
def tV : TC := (opR tS (snapT tS [97, 64, 121] 4)).2
theorem tV_eq : opR tS (snapT tS [97, 64, 121] 4) = (0, tV) := tr_fst (by decide +kernel)
theorem tV_bd : tV.recs.length ≤ 1000000 ∧ tV.lives.length ≤ 1000000 := by decide +kernel
theorem tV_rl : tV.recs.length ≤ 1000 := by decide +kernel
def tV1 : TC := (opR tV (rollT tV [97, 64, 120])).2
theorem tV1_eq : opR tV (rollT tV [97, 64, 120]) = (17, tV1) := tr_fst (by decide +kernel)
theorem tV1_bd : tV1.recs.length ≤ 1000000 ∧ tV1.lives.length ≤ 1000000 := by decide +kernel
theorem tV1_rl : tV1.recs.length ≤ 1000 := by decide +kernel
def tV2 : TC := (opR tV (rollT tV [97, 64, 121])).2
theorem tV2_eq : opR tV (rollT tV [97, 64, 121]) = (0, tV2) := tr_fst (by decide +kernel)
theorem tV2_bd : tV2.recs.length ≤ 1000000 ∧ tV2.lives.length ≤ 1000000 := by decide +kernel
theorem tV2_rl : tV2.recs.length ≤ 1000 := by decide +kernel
theorem tK1_names : (namesOf tK1 == [[98], [99], [99, 64, 120]]) = true := by decide +kernel
end Go.Proofs.YtifajcblbedcoaaGreat
namespace Go.Proofs.YtifajcblbedcoaaGreat
set_option linter.unusedVariables false
set_option linter.unusedSimpArgs false
open Go.RowKit Hp
attribute [local irreducible] Go.Calls Go.wpList tN tA tAX tS tD1 tD2 tD3 tD4
set_option maxRecDepth 100000
set_option maxHeartbeats 8000000
attribute [local go_sem ↓] heldInt heldInts heldRecs heldRec heldStr heldTab heldPtr heldFn
theorem ow_if {P : Program} {ops : Array Oper} {o : Oper} {a : Act} {w : World} {K : Act → World → Prop} {Q : Exit → Act → World → Prop} {E : Prop} (hw : Region.wanted o (yielded ops a.tmps) = true) (h : wpList P ops (Q0 K Q) [o] a w) : if Region.wanted o (yielded ops a.tmps) = true then o.wp P a w K Q else E := by
  rw [if_pos hw]
  exact ow_of_wl hw h
theorem InP.spot {w0 w : World} {M : List Nat} {B P : List HA} {t : TC} {ar al : Option Addr} {cr cl : Nat} {xs : List (Value × RC)} (h : InP P t ar al cr cl xs) (hst : St w0 M w (B ++ P)) (hn : 0 < xs.length) : ∃ g2, ar = some ⟨g2, 0, none⟩ := by
  obtain ⟨g2, c, e, _⟩ := row_spot hst (List.mem_append_right _ h.rr) hn
  cases e
  exact ⟨g2, rfl⟩
theorem InP.range {w0 w : World} {M : List Nat} {B P : List HA} {t : TC} {g2 : Nat} {al : Option Addr} {cr cl j : Nat} {xs : List (Value × RC)} {x : Value × RC} (h : InP P t (some ⟨g2, 0, none⟩) al cr cl xs) (hst : St w0 M w (B ++ P)) (hx : xs[j]? = some x) : w.rangeAt g2 (j * 44) (cellsR x) := by
  have hlt := (List.getElem?_eq_some_iff.1 hx).1
  obtain ⟨x', b, off, hx', he, _, hr⟩ := RecsIn.at (h.recs hst) hlt
  cases he
  rw [hx] at hx'
  cases hx'
  rwa [Nat.zero_add] at hr
/-- A number within an element. -/
theorem InP.cell {w0 w : World} {M : List Nat} {B P : List HA} {t : TC} {g2 : Nat} {al : Option Addr} {cr cl j d o : Nat} {xs : List (Value × RC)} {x : Value × RC} {v : Value} (h : InP P t (some ⟨g2, 0, none⟩) al cr cl xs) (hst : St w0 M w (B ++ P)) (hx : xs[j]? = some x) (hd : (cellsR x)[d]? = some v) (ho : o = j * 44 + d) : w.cell? ⟨g2, o, none⟩ = some v := by
  subst ho
  exact h.range hst hx d v hd
/-- The chapter's table, told. -/
def SmpPost (w : World) (e : Ending) (w' : World) : Prop := ∃ (a b : Option Addr) (c d : Nat) (P : List HA) (xs : List (Value × RC)), e = .returned (.tuple #[.agg (tabC tS (.slice a xs.length c) (.slice b tS.lives.length d)).toArray, .bool true]) ∧ InP P tS a b c d xs ∧ St w [] w' P
theorem sample13_any (w : World) : Calls Tryz.prog 22 #[] w (SmpPost w) := by
  obtain ⟨P0, hP0⟩ : ∃ P0 : List HA, P0 = [] := ⟨_, rfl⟩
  have hS0 : St w [] w ([] ++ P0) := by rw [hP0]; exact St.refl w
  clear hP0
  go_enter Tryz.func22, Tryz.ntmps22
  go_wp2_with (first | go_big_skip | go_big_guard | (refine wl_alloc hS0 rfl rfl ?_; intro g0 w1 h4; have hS1 : St w [] w1 ([.blk g0 27 (tab0)] ++ P0) := h4; clear h4 hS0) | (go_at_call 13; refine (new13_any 2 _).mono ?_; rw [tN_eq]; intro e9 w9 hret; obtain ⟨a1, b1, c1, d1, P1, xs1, rfl, hin, hsub, h4⟩ := ret_pool (B := [.blk g0 27 (tab0)]) hS1 hret; have hS2 : St w [] w9 ([.blk g0 27 (tab0)] ++ P1) := h4; clear hret h4 hS1; have HT1 := hid hin; clear hin hsub) | (refine wl_alloc hS2 rfl rfl ?_; intro g2 w1 h4; have hS3 : St w [] w1 ([.blk g2 27 (tab0), .blk g0 27 (tab0)] ++ P1) := h4; clear h4 hS2) | (refine wl_storeA [] hS3 rfl rfl rfl rfl (vs := tabC tN (.slice a1 xs1.length c1) (.slice b1 tN.lives.length d1)) rfl rfl rfl ?_; intro w1 h4; have hS4 : St w [] w1 ([.blk g2 27 (tabC tN (.slice a1 xs1.length c1) (.slice b1 tN.lives.length d1)), .blk g0 27 (tab0)] ++ P1) := h4; clear h4 hS3) | (refine wl_loadE rfl rfl rfl ?_; refine ⟨_, Loads.atA (tabC tN (.slice a1 xs1.length c1) (.slice b1 tN.lives.length d1)) [] hS4 rfl rfl, ?_⟩) | (go_at_call 25; refine (make13_any tN a1 b1 xs1.length c1 tN.lives.length d1 xs1 _ (HT1.out.tab hS4 tN_bd) [97] 4 1 (by decide)).mono ?_; rw [tA_eq]; intro e9 w9 hret; obtain ⟨a2, b2, c2, d2, P2, xs2, rfl, hin, hsub, h4⟩ := ret_pool (B := [.blk g2 27 (tabC tN (.slice a1 xs1.length c1) (.slice b1 tN.lives.length d1)), .blk g0 27 (tab0)]) hS4 hret; have hS5 : St w [] w9 ([.blk g2 27 (tabC tN (.slice a1 xs1.length c1) (.slice b1 tN.lives.length d1)), .blk g0 27 (tab0)] ++ P2) := h4; clear hret h4 hS4; replace HT1 := hid (HT1.out.mono hsub); have HT2 := hid hin; clear hin hsub) | (refine wl_storeA [] hS5 rfl rfl rfl rfl (vs := tabC tA (.slice a2 xs2.length c2) (.slice b2 tA.lives.length d2)) rfl rfl rfl ?_; intro w1 h4; have hS6 : St w [] w1 ([.blk g2 27 (tabC tA (.slice a2 xs2.length c2) (.slice b2 tA.lives.length d2)), .blk g0 27 (tab0)] ++ P2) := h4; clear h4 hS5) | (refine wl_loadE rfl rfl rfl ?_; refine ⟨_, Loads.atA (tabC tA (.slice a2 xs2.length c2) (.slice b2 tA.lives.length d2)) [] hS6 rfl rfl, ?_⟩) | (go_at_call 26; refine (snap13_any tA a2 b2 xs2.length c2 tA.lives.length d2 xs2 _ (HT2.out.tab hS6 tA_bd) [97, 64, 120] 2 (by decide)).mono ?_; rw [tAX_eq]; intro e9 w9 hret; obtain ⟨a3, b3, c3, d3, P3, xs3, rfl, hin, hsub, h4⟩ := ret_pool (B := [.blk g2 27 (tabC tA (.slice a2 xs2.length c2) (.slice b2 tA.lives.length d2)), .blk g0 27 (tab0)]) hS6 hret; have hS7 : St w [] w9 ([.blk g2 27 (tabC tA (.slice a2 xs2.length c2) (.slice b2 tA.lives.length d2)), .blk g0 27 (tab0)] ++ P3) := h4; clear hret h4 hS6; replace HT1 := hid (HT1.out.mono hsub); replace HT2 := hid (HT2.out.mono hsub); have HT3 := hid hin; clear hin hsub) | (refine wl_storeA [] hS7 rfl rfl rfl rfl (vs := tabC tAX (.slice a3 xs3.length c3) (.slice b3 tAX.lives.length d3)) rfl rfl rfl ?_; intro w1 h4; have hS8 : St w [] w1 ([.blk g2 27 (tabC tAX (.slice a3 xs3.length c3) (.slice b3 tAX.lives.length d3)), .blk g0 27 (tab0)] ++ P3) := h4; clear h4 hS7) | (refine wl_loadE rfl rfl rfl ?_; refine ⟨_, Loads.atA (tabC tAX (.slice a3 xs3.length c3) (.slice b3 tAX.lives.length d3)) [] hS8 rfl rfl, ?_⟩) | (go_at_call 27; refine (clone13_any tAX a3 b3 xs3.length c3 tAX.lives.length d3 xs3 _ (HT3.out.tab hS8 tAX_bd) [97, 64, 120] [98] 3 (by decide) (by decide)).mono ?_; rw [tS_eq]; intro e9 w9 hret; obtain ⟨a4, b4, c4, d4, P4, xs4, rfl, hin, hsub, h4⟩ := ret_pool (B := [.blk g2 27 (tabC tAX (.slice a3 xs3.length c3) (.slice b3 tAX.lives.length d3)), .blk g0 27 (tab0)]) hS8 hret; have hS9 : St w [] w9 ([.blk g2 27 (tabC tAX (.slice a3 xs3.length c3) (.slice b3 tAX.lives.length d3)), .blk g0 27 (tab0)] ++ P4) := h4; clear hret h4 hS8; replace HT1 := hid (HT1.out.mono hsub); replace HT2 := hid (HT2.out.mono hsub); replace HT3 := hid (HT3.out.mono hsub); have HT4 := hid hin; clear hin hsub) | (refine wl_storeA [] hS9 rfl rfl rfl rfl (vs := tabC tS (.slice a4 xs4.length c4) (.slice b4 tS.lives.length d4)) rfl rfl rfl ?_; intro w1 h4; have hS10 : St w [] w1 ([.blk g2 27 (tabC tS (.slice a4 xs4.length c4) (.slice b4 tS.lives.length d4)), .blk g0 27 (tab0)] ++ P4) := h4; clear h4 hS9))
  have hX := hS10.drew
  clear hS10
  refine wp_region_held_drew (S := (fun w' => (loadVarH 27 ⟨g2, 0, none⟩).run Tryz.prog w' = .ok (.agg (List.toArray (tabC tS (.slice a4 xs4.length c4) (.slice b4 tS.lives.length d4)))) w')) (by kernel_rfl) (by exact ldA (tabC tS (.slice a4 xs4.length c4) (.slice b4 tS.lives.length d4)) [] hX (rfl) (rfl)) (fun hHeld => ?_)
  refine tq 0 26 ?_
  refine tq 1 27 ?_
  refine tq 2 28 ?_
  refine tq 3 29 ?_
  refine tq 4 30 ?_
  refine tq 5 31 ?_
  refine tq 6 32 ?_
  refine tq 7 33 ?_
  refine tq 8 34 ?_
  refine tq 9 35 ?_
  refine tq 10 36 ?_
  refine tq 11 37 ?_
  refine tq 12 38 ?_
  refine tq 13 39 ?_
  refine tq 14 40 ?_
  refine tq 15 41 ?_
  refine tq 16 42 ?_
  refine wpAnyH_ready (rs := [17]) (by kernel_rfl) (by simp) ?_
  refine (AllReadyH.cons (o := ⟨some 43, _, _, _, _, _⟩) rfl (fun K hK => ?_) AllReadyH.nil)
  refine ow_if (by rfl) ?_
  apply wl_bsX [.string ⟨([97] : List UInt8).toArray⟩, .string ⟨([97, 64, 120] : List UInt8).toArray⟩, .string ⟨([98] : List UInt8).toArray⟩] [.string ⟨([97] : List UInt8).toArray⟩, .string ⟨([97, 64, 120] : List UInt8).toArray⟩, .string ⟨([98] : List UInt8).toArray⟩] hX
  · rfl
  · rfl
  · exact rfl
  · exact rfl
  · infer_instance
  · infer_instance
  · rfl
  · rfl
  · rfl
  intro gw w5 h4
  have hW1 : St w [] w5 ([.blk gw 9 [.string ⟨([97] : List UInt8).toArray⟩, .string ⟨([97, 64, 120] : List UInt8).toArray⟩, .string ⟨([98] : List UInt8).toArray⟩], .blk g2 27 (tabC tS (.slice a4 xs4.length c4) (.slice b4 tS.lives.length d4)), .blk g0 27 tab0] ++ P4) := h4
  clear h4
  refine q0_nil ?_
  refine hK.out _ _ ?_ (fun hHeld => ?_)
  · exact ldA (tabC tS (.slice a4 xs4.length c4) (.slice b4 tS.lives.length d4)) [_] hW1 (rfl) (rfl)
  clear hK K
  (try simp only [Act.put, List.setIfInBounds_toArray, List.set_cons_zero, List.set_cons_succ])
  refine wpAnyH_ready (rs := [18]) (by kernel_rfl) (by simp) ?_
  refine (AllReadyH.cons (o := ⟨some 44, _, _, _, _, _⟩) rfl (fun K hK => ?_) AllReadyH.nil)
  rw [if_pos (by rfl)]
  go_simp
  go_at_call 24
  refine (names13_any tS a4 xs4.length c4 _ xs4 _ 3 3 [[97], [97, 64, 120], [98]] _ (HT4.out.recs hW1) HT4.out.ok.eq (by rw [HT4.out.ok.len]; exact tS_rl) (Rd.blk hW1 (.head _) (Nat.le_refl _) (by decide) rfl rfl) rfl (by decide)).mono ?_
  rw [tS_names]
  rintro _ w6 ⟨rfl, h4⟩
  have hW2 : St w [] w6 ([.blk gw 9 [.string ⟨([97] : List UInt8).toArray⟩, .string ⟨([97, 64, 120] : List UInt8).toArray⟩, .string ⟨([98] : List UInt8).toArray⟩], .blk g2 27 (tabC tS (.slice a4 xs4.length c4) (.slice b4 tS.lives.length d4)), .blk g0 27 tab0] ++ P4) := St.call0 hW1 h4
  clear h4
  refine hK.out _ _ ?_ (fun hHeld => ?_)
  · exact ldA (tabC tS (.slice a4 xs4.length c4) (.slice b4 tS.lives.length d4)) [_] hW2 (rfl) (rfl)
  clear hK K
  (try simp only [Act.put, List.setIfInBounds_toArray, List.set_cons_zero, List.set_cons_succ])
  refine tq 19 45 ?_
  refine wpAnyH_ready (rs := [20]) (by kernel_rfl) (by simp) ?_
  refine (AllReadyH.cons (o := ⟨none, _, _, _, _, _⟩) rfl (fun K hK => ?_) AllReadyH.nil)
  refine ow_if (by rfl) ?_
  refine wl_storeA [_, _] hW2 rfl rfl rfl rfl (vs := tabC tS (.slice a4 xs4.length c4) (.slice b4 tS.lives.length d4)) rfl rfl rfl ?_
  intro w7 hW3
  refine q0_nil ?_
  refine hK.out _ _ ?_ (fun hHeld => ?_)
  · exact ldA (tabC tS (.slice a4 xs4.length c4) (.slice b4 tS.lives.length d4)) [_] hW3 (rfl) (rfl)
  clear hK K
  (try simp only [Act.put, List.setIfInBounds_toArray, List.set_cons_zero, List.set_cons_succ])
  refine tq 21 1 ?_
  refine wpAnyH_done (by kernel_rfl) ?_ _
  clear hHeld
  go_wp2_with (first | go_big_skip | go_big_guard | fail)
  have hl := Loads.atA (P := Tryz.prog) (off := 0) (T := 27) (tabC tS (.slice a4 xs4.length c4) (.slice b4 tS.lives.length d4)) [_, _] hW3 rfl rfl
  refine bodyPost_ret (results_cellR rfl rfl rfl hl) rfl ?_
  exact ⟨_, _, _, _, _, _, rfl, HT4.out, St.sub hW3 (.cons _ (.cons _ (.cons _ (List.Sublist.refl _))))⟩
theorem smp_parts {w0 w : World} {M : List Nat} {B P : List HA} {ar al : Option Addr} {cr cl : Nat} {xs : List (Value × RC)} (h : InP P tS ar al cr cl xs) (hst : St w0 M w (B ++ P)) :
    xs.length = 3 ∧ (∃ g9, ar = some ⟨g9, 0, none⟩) ∧ (∃ v : Value, xs[0]? = some (v, sR0)) ∧ (∃ v : Value, xs[1]? = some (v, sR1)) ∧ (∃ v : Value, xs[2]? = some (v, sR2)) := by
  have hl : xs.length = 3 := by rw [h.ok.len, tS_len]
  have key : ∀ (j : Nat) (r : RC), tS.recs[j]? = some r → ∃ v : Value, xs[j]? = some (v, r) := fun j r hr => by
    obtain ⟨x, hx, he⟩ := okx_at h.ok hr
    subst he
    exact ⟨x.1, hx⟩
  exact ⟨hl, h.spot hst (by omega), key 0 sR0 (by rw [tS_recs]; rfl), key 1 sR1 (by rw [tS_recs]; rfl), key 2 sR2 (by rw [tS_recs]; rfl)⟩
attribute [local irreducible] sR0 sR1 sR2
theorem awake13_any (w : World) : Calls Tryz.prog 8 #[] w fun e w' => e = .returned (.bool true) ∧ St w [] w' [] := by
  obtain ⟨P0, hP0⟩ : ∃ P0 : List HA, P0 = [] := ⟨_, rfl⟩
  have hS0 : St w [] w ([] ++ P0) := by rw [hP0]; exact St.refl w
  clear hP0
  have hn4 := tS_next
  obtain ⟨v1, v2, v3, v4⟩ := tS_vals
  go_enter Tryz.func8, Tryz.ntmps8
  go_wp2_with (first | go_big_skip | go_big_guard | (go_at_call 22; refine (sample13_any _).mono ?_; intro e9 w9 hret; obtain ⟨a0, b0, c0, d0, P1, xs0, rfl, hin, h4⟩ := hret; have hS1 : St w [] w9 ([] ++ P1) := St.sub (St.call hS0 h4) (List.sublist_append_left _ _); have HT0 := hid hin; clear h4 hin hS0; obtain ⟨hn3, ⟨g9, hg9⟩, ⟨x0, hx0⟩, ⟨x1, hx1⟩, ⟨x2, hx2⟩⟩ := smp_parts HT0.out hS1; subst hg9; have HX0 := hid hx0; have HX1 := hid hx1; have HX2 := hid hx2; have HL1 := hid (HT0.out.ok.ok _ (List.mem_of_getElem? hx1)).1; have HL2 := hid (HT0.out.ok.ok _ (List.mem_of_getElem? hx2)).1; have HN3 := hid hn3; clear hx0 hx1 hx2 hn3) | (refine wl_alloc hS1 rfl rfl ?_; intro g1 w1 h4; have hS2 : St w [] w1 ([.blk g1 27 (tab0)] ++ P1) := h4; clear h4 hS1) | (refine wl_storeA [] hS2 rfl rfl rfl rfl (vs := tabC tS (.slice (some ⟨g9, 0, none⟩) xs0.length c0) (.slice b0 tS.lives.length d0)) rfl rfl rfl ?_; intro w1 h4; have hS3 : St w [] w1 ([.blk g1 27 (tabC tS (.slice (some ⟨g9, 0, none⟩) xs0.length c0) (.slice b0 tS.lives.length d0))] ++ P1) := h4; clear h4 hS2) | (refine wl_loadE rfl rfl rfl ?_; first | refine ⟨.int .i64 tS.next, Loads.at [] hS3 rfl, ?_⟩ | refine ⟨_, Loads.at [] hS3 rfl, ?_⟩ | refine ⟨.int .i64 sR0.id, Loads.cell (inferInstance : TyS Tryz.prog 3).out (HT0.out.cell hS3 HX0.out (d := 0) (rfl) (by decide)), ?_⟩ | refine ⟨.int .i64 sR1.own, Loads.cell (inferInstance : TyS Tryz.prog 3).out (HT0.out.cell hS3 HX1.out (d := 40) (cellsR_40 HL1.out) (by decide)), ?_⟩ | refine ⟨.int .i64 sR1.id, Loads.cell (inferInstance : TyS Tryz.prog 3).out (HT0.out.cell hS3 HX1.out (d := 0) (rfl) (by decide)), ?_⟩ | refine ⟨.int .i64 sR2.origin, Loads.cell (inferInstance : TyS Tryz.prog 3).out (HT0.out.cell hS3 HX2.out (d := 41) (cellsR_41 HL2.out) (by decide)), ?_⟩) | (refine wl_index (k := 0) rfl rfl rfl rfl (by have := HN3.out; omega) ?_) | (refine wl_index (k := 1) rfl rfl rfl rfl (by have := HN3.out; omega) ?_) | (refine wl_index (k := 2) rfl rfl rfl rfl (by have := HN3.out; omega) ?_) | (refine wl_loadE rfl rfl rfl ?_; refine ⟨_, Loads.atA (tabC tS (.slice (some ⟨g9, 0, none⟩) xs0.length c0) (.slice b0 tS.lives.length d0)) [] hS3 rfl rfl, ?_⟩) | (go_at_call 23; refine (drop13_any tS (some ⟨g9, 0, none⟩) b0 xs0.length c0 tS.lives.length d0 xs0 _ (HT0.out.tab hS3 tS_bd) [97] (by decide)).mono ?_; rw [tD1_eq]; intro e9 w9 hret; obtain ⟨a1, b1, c1, d1, P2, xs1, rfl, hin, hsub, h4⟩ := ret_pool (B := [.blk g1 27 (tabC tS (.slice (some ⟨g9, 0, none⟩) xs0.length c0) (.slice b0 tS.lives.length d0))]) hS3 hret; have hS4 : St w [] w9 ([.blk g1 27 (tabC tS (.slice (some ⟨g9, 0, none⟩) xs0.length c0) (.slice b0 tS.lives.length d0))] ++ P2) := h4; clear hret h4 hS3; replace HT0 := hid (HT0.out.mono hsub); have HT1 := hid hin; clear hin hsub) | (refine wl_alloc hS4 rfl rfl ?_; intro g3 w1 h4; have hS5 : St w [] w1 ([.blk g3 27 (tab0), .blk g1 27 (tabC tS (.slice (some ⟨g9, 0, none⟩) xs0.length c0) (.slice b0 tS.lives.length d0))] ++ P2) := h4; clear h4 hS4) | (refine wl_storeA [] hS5 rfl rfl rfl rfl (vs := tabC tD1 (.slice a1 xs1.length c1) (.slice b1 tD1.lives.length d1)) rfl rfl rfl ?_; intro w1 h4; have hS6 : St w [] w1 ([.blk g3 27 (tabC tD1 (.slice a1 xs1.length c1) (.slice b1 tD1.lives.length d1)), .blk g1 27 (tabC tS (.slice (some ⟨g9, 0, none⟩) xs0.length c0) (.slice b0 tS.lives.length d0))] ++ P2) := h4; clear h4 hS5) | (refine wl_loadE rfl rfl rfl ?_; refine ⟨_, Loads.atA (tabC tS (.slice (some ⟨g9, 0, none⟩) xs0.length c0) (.slice b0 tS.lives.length d0)) [_] hS6 rfl rfl, ?_⟩) | (go_at_call 23; refine (drop13_any tS (some ⟨g9, 0, none⟩) b0 xs0.length c0 tS.lives.length d0 xs0 _ (HT0.out.tab hS6 tS_bd) [97, 64, 120] (by decide)).mono ?_; rw [tD2_eq]; intro e9 w9 hret; obtain ⟨a2, b2, c2, d2, P3, xs2, rfl, hin, hsub, h4⟩ := ret_pool (B := [.blk g3 27 (tabC tD1 (.slice a1 xs1.length c1) (.slice b1 tD1.lives.length d1)), .blk g1 27 (tabC tS (.slice (some ⟨g9, 0, none⟩) xs0.length c0) (.slice b0 tS.lives.length d0))]) hS6 hret; have hS7 : St w [] w9 ([.blk g3 27 (tabC tD1 (.slice a1 xs1.length c1) (.slice b1 tD1.lives.length d1)), .blk g1 27 (tabC tS (.slice (some ⟨g9, 0, none⟩) xs0.length c0) (.slice b0 tS.lives.length d0))] ++ P3) := h4; clear hret h4 hS6; replace HT0 := hid (HT0.out.mono hsub); replace HT1 := hid (HT1.out.mono hsub); have HT2 := hid hin; clear hin hsub) | (refine wl_alloc hS7 rfl rfl ?_; intro g5 w1 h4; have hS8 : St w [] w1 ([.blk g5 27 (tab0), .blk g3 27 (tabC tD1 (.slice a1 xs1.length c1) (.slice b1 tD1.lives.length d1)), .blk g1 27 (tabC tS (.slice (some ⟨g9, 0, none⟩) xs0.length c0) (.slice b0 tS.lives.length d0))] ++ P3) := h4; clear h4 hS7) | (refine wl_storeA [] hS8 rfl rfl rfl rfl (vs := tabC tD2 (.slice a2 xs2.length c2) (.slice b2 tD2.lives.length d2)) rfl rfl rfl ?_; intro w1 h4; have hS9 : St w [] w1 ([.blk g5 27 (tabC tD2 (.slice a2 xs2.length c2) (.slice b2 tD2.lives.length d2)), .blk g3 27 (tabC tD1 (.slice a1 xs1.length c1) (.slice b1 tD1.lives.length d1)), .blk g1 27 (tabC tS (.slice (some ⟨g9, 0, none⟩) xs0.length c0) (.slice b0 tS.lives.length d0))] ++ P3) := h4; clear h4 hS8) | (refine wl_loadE rfl rfl rfl ?_; refine ⟨_, Loads.atA (tabC tS (.slice (some ⟨g9, 0, none⟩) xs0.length c0) (.slice b0 tS.lives.length d0)) [_, _] hS9 rfl rfl, ?_⟩) | (go_at_call 23; refine (drop13_any tS (some ⟨g9, 0, none⟩) b0 xs0.length c0 tS.lives.length d0 xs0 _ (HT0.out.tab hS9 tS_bd) [98] (by decide)).mono ?_; rw [tD3_eq]; intro e9 w9 hret; obtain ⟨a3, b3, c3, d3, P4, xs3, rfl, hin, hsub, h4⟩ := ret_pool (B := [.blk g5 27 (tabC tD2 (.slice a2 xs2.length c2) (.slice b2 tD2.lives.length d2)), .blk g3 27 (tabC tD1 (.slice a1 xs1.length c1) (.slice b1 tD1.lives.length d1)), .blk g1 27 (tabC tS (.slice (some ⟨g9, 0, none⟩) xs0.length c0) (.slice b0 tS.lives.length d0))]) hS9 hret; have hS10 : St w [] w9 ([.blk g5 27 (tabC tD2 (.slice a2 xs2.length c2) (.slice b2 tD2.lives.length d2)), .blk g3 27 (tabC tD1 (.slice a1 xs1.length c1) (.slice b1 tD1.lives.length d1)), .blk g1 27 (tabC tS (.slice (some ⟨g9, 0, none⟩) xs0.length c0) (.slice b0 tS.lives.length d0))] ++ P4) := h4; clear hret h4 hS9; replace HT0 := hid (HT0.out.mono hsub); replace HT1 := hid (HT1.out.mono hsub); replace HT2 := hid (HT2.out.mono hsub); have HT3 := hid hin; clear hin hsub) | (refine wl_alloc hS10 rfl rfl ?_; intro g7 w1 h4; have hS11 : St w [] w1 ([.blk g7 27 (tab0), .blk g5 27 (tabC tD2 (.slice a2 xs2.length c2) (.slice b2 tD2.lives.length d2)), .blk g3 27 (tabC tD1 (.slice a1 xs1.length c1) (.slice b1 tD1.lives.length d1)), .blk g1 27 (tabC tS (.slice (some ⟨g9, 0, none⟩) xs0.length c0) (.slice b0 tS.lives.length d0))] ++ P4) := h4; clear h4 hS10) | (refine wl_storeA [] hS11 rfl rfl rfl rfl (vs := tabC tD3 (.slice a3 xs3.length c3) (.slice b3 tD3.lives.length d3)) rfl rfl rfl ?_; intro w1 h4; have hS12 : St w [] w1 ([.blk g7 27 (tabC tD3 (.slice a3 xs3.length c3) (.slice b3 tD3.lives.length d3)), .blk g5 27 (tabC tD2 (.slice a2 xs2.length c2) (.slice b2 tD2.lives.length d2)), .blk g3 27 (tabC tD1 (.slice a1 xs1.length c1) (.slice b1 tD1.lives.length d1)), .blk g1 27 (tabC tS (.slice (some ⟨g9, 0, none⟩) xs0.length c0) (.slice b0 tS.lives.length d0))] ++ P4) := h4; clear h4 hS11) | (refine wl_loadE rfl rfl rfl ?_; refine ⟨_, Loads.atA (tabC tD3 (.slice a3 xs3.length c3) (.slice b3 tD3.lives.length d3)) [] hS12 rfl rfl, ?_⟩) | (go_at_call 23; refine (drop13_any tD3 a3 b3 xs3.length c3 tD3.lives.length d3 xs3 _ (HT3.out.tab hS12 tD3_bd) [97, 64, 120] (by decide)).mono ?_; rw [tD4_eq]; intro e9 w9 hret; obtain ⟨a4, b4, c4, d4, P5, xs4, rfl, hin, hsub, h4⟩ := ret_pool (B := [.blk g7 27 (tabC tD3 (.slice a3 xs3.length c3) (.slice b3 tD3.lives.length d3)), .blk g5 27 (tabC tD2 (.slice a2 xs2.length c2) (.slice b2 tD2.lives.length d2)), .blk g3 27 (tabC tD1 (.slice a1 xs1.length c1) (.slice b1 tD1.lives.length d1)), .blk g1 27 (tabC tS (.slice (some ⟨g9, 0, none⟩) xs0.length c0) (.slice b0 tS.lives.length d0))]) hS12 hret; have hS13 : St w [] w9 ([.blk g7 27 (tabC tD3 (.slice a3 xs3.length c3) (.slice b3 tD3.lives.length d3)), .blk g5 27 (tabC tD2 (.slice a2 xs2.length c2) (.slice b2 tD2.lives.length d2)), .blk g3 27 (tabC tD1 (.slice a1 xs1.length c1) (.slice b1 tD1.lives.length d1)), .blk g1 27 (tabC tS (.slice (some ⟨g9, 0, none⟩) xs0.length c0) (.slice b0 tS.lives.length d0))] ++ P5) := h4; clear hret h4 hS12; replace HT0 := hid (HT0.out.mono hsub); replace HT1 := hid (HT1.out.mono hsub); replace HT2 := hid (HT2.out.mono hsub); replace HT3 := hid (HT3.out.mono hsub); have HT4 := hid hin; clear hin hsub) | (refine wl_alloc hS13 rfl rfl ?_; intro g8 w1 h4; have hS14 : St w [] w1 ([.blk g8 27 (tab0), .blk g7 27 (tabC tD3 (.slice a3 xs3.length c3) (.slice b3 tD3.lives.length d3)), .blk g5 27 (tabC tD2 (.slice a2 xs2.length c2) (.slice b2 tD2.lives.length d2)), .blk g3 27 (tabC tD1 (.slice a1 xs1.length c1) (.slice b1 tD1.lives.length d1)), .blk g1 27 (tabC tS (.slice (some ⟨g9, 0, none⟩) xs0.length c0) (.slice b0 tS.lives.length d0))] ++ P5) := h4; clear h4 hS13) | (refine wl_storeA [] hS14 rfl rfl rfl rfl (vs := tabC tD4 (.slice a4 xs4.length c4) (.slice b4 tD4.lives.length d4)) rfl rfl rfl ?_; intro w1 h4; have hS15 : St w [] w1 ([.blk g8 27 (tabC tD4 (.slice a4 xs4.length c4) (.slice b4 tD4.lives.length d4)), .blk g7 27 (tabC tD3 (.slice a3 xs3.length c3) (.slice b3 tD3.lives.length d3)), .blk g5 27 (tabC tD2 (.slice a2 xs2.length c2) (.slice b2 tD2.lives.length d2)), .blk g3 27 (tabC tD1 (.slice a1 xs1.length c1) (.slice b1 tD1.lives.length d1)), .blk g1 27 (tabC tS (.slice (some ⟨g9, 0, none⟩) xs0.length c0) (.slice b0 tS.lives.length d0))] ++ P5) := h4; clear h4 hS14) | (refine wl_loadE rfl rfl rfl ?_; refine ⟨_, Loads.atA (tabC tD4 (.slice a4 xs4.length c4) (.slice b4 tD4.lives.length d4)) [] hS15 rfl rfl, ?_⟩) | (apply wl_bsX [.string ⟨([97] : List UInt8).toArray⟩] [.string ⟨([97] : List UInt8).toArray⟩] hS15; rfl; rfl; exact rfl; exact rfl; infer_instance; infer_instance; rfl; rfl; rfl; intro gw w5 h4; have hS16 : St w [] w5 ([.blk gw 9 ([.string ⟨([97] : List UInt8).toArray⟩]), .blk g8 27 (tabC tD4 (.slice a4 xs4.length c4) (.slice b4 tD4.lives.length d4)), .blk g7 27 (tabC tD3 (.slice a3 xs3.length c3) (.slice b3 tD3.lives.length d3)), .blk g5 27 (tabC tD2 (.slice a2 xs2.length c2) (.slice b2 tD2.lives.length d2)), .blk g3 27 (tabC tD1 (.slice a1 xs1.length c1) (.slice b1 tD1.lives.length d1)), .blk g1 27 (tabC tS (.slice (some ⟨g9, 0, none⟩) xs0.length c0) (.slice b0 tS.lives.length d0))] ++ P5) := h4; clear h4 hS15) | (go_at_call 24; refine (names13_any tD4 a4 xs4.length c4 _ xs4 _ 1 1 [[97]] _ (HT4.out.recs hS16) HT4.out.ok.eq (by rw [HT4.out.ok.len]; exact tD4_rl) (Rd.blk hS16 (.head _) (Nat.le_refl _) (by decide) rfl rfl) rfl (by decide)).mono ?_; rw [tD4_names]; rintro _ w9 ⟨rfl, h4⟩; have hS17 : St w [] w9 ([.blk gw 9 ([.string ⟨([97] : List UInt8).toArray⟩]), .blk g8 27 (tabC tD4 (.slice a4 xs4.length c4) (.slice b4 tD4.lives.length d4)), .blk g7 27 (tabC tD3 (.slice a3 xs3.length c3) (.slice b3 tD3.lives.length d3)), .blk g5 27 (tabC tD2 (.slice a2 xs2.length c2) (.slice b2 tD2.lives.length d2)), .blk g3 27 (tabC tD1 (.slice a1 xs1.length c1) (.slice b1 tD1.lives.length d1)), .blk g1 27 (tabC tS (.slice (some ⟨g9, 0, none⟩) xs0.length c0) (.slice b0 tS.lives.length d0))] ++ P5) := St.call0 hS16 h4; clear h4 hS16))
  go_ret
  exact ⟨rfl, hS17.nil⟩
end Go.Proofs.YtifajcblbedcoaaGreat
