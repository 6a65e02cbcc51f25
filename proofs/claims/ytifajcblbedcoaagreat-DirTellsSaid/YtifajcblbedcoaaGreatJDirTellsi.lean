import Derived.Test.YtifajcblbedcoaaGreatJDirTellsb
import Derived.Test.YtifajcblbedcoaaGreatJDirTellsh
import Derived.Test.YtifajcblbedcoaaGreatJDirTellsa
namespace Go.Proofs.YtifajcblbedcoaaGreat
set_option linter.unusedVariables false
set_option linter.unusedSimpArgs false
open Go.RowKit Hp
attribute [local irreducible] Go.Calls
set_option maxHeartbeats 2000000
end Go.Proofs.YtifajcblbedcoaaGreat
namespace Go.Proofs.YtifajcblbedcoaaGreat
set_option linter.unusedVariables false
set_option linter.unusedSimpArgs false
open Go.RowKit Hp
attribute [local irreducible] Go.Calls Go.wpList
set_option maxRecDepth 100000
set_option maxHeartbeats 8000000
attribute [local go_sem ↓] heldInt heldInts heldRecs heldRec heldStr heldTab heldPtr heldFn
def Held (L : List HA) (t : TC) (ar al : Option Addr) (nr cr nl cl : Nat) (xs : List (Value × RC)) : Prop := ∀ (w0 w : World) (M : List Nat) (L' : List HA), St w0 M w L' → (∀ y ∈ L, y ∈ L') → TabIn w t ar nr cr al nl cl xs
def RefRet (r : TR) (w : World) (e : Ending) (w' : World) : Prop := ∃ (ar al : Option Addr) (nr cr nl cl : Nat) (xs : List (Value × RC)) (L : List HA), e = .returned (.tuple #[.agg (tabC r.2 (.slice ar nr cr) (.slice al nl cl)).toArray, .int .i64 r.1]) ∧ Held L r.2 ar al nr cr nl cl xs ∧ St w [] w' L
theorem refRet_bad {w w' : World} {L : List HA} (h : St w [] w' L) (z : Int) : RefRet (badR z) w (.returned (.tuple #[.agg tab0.toArray, .int .i64 z])) w' :=
 ⟨none, none, 0, 0, 0, 0, [], [], rfl, fun _ w _ _ _ _ => noIn w, h.nil⟩
theorem own_tab {w0 w : World} {M : List Nat} {L : List HA} {u : TC} {ro lo : Option Addr} {n m rc lc : Nat} {ys : List (Value × RC)} (hst : St w0 M w L) (h1 : HA.row (.slice ro n rc) 53 44 n (recsV ys) ∈ L) (h2 : HA.row (.slice lo m lc) 3 1 m (numsV u.lives) ∈ L) (hn : ys.length = n) (hm : u.lives.length = m) (ho : OwnX L ys) (he : ys.map (·.2) = u.recs) (hb : n ≤ 1000000 ∧ m ≤ 1000000) : TabIn w u ro n rc lo m lc ys :=
 ⟨recs_inL hst h1 hn ho, he, Rd.row hst h2, hm, hb.1, hb.2⟩
theorem refOwn_ok (t : TC) (ar al : Option Addr) (nr cr nl cl : Nat) (xs : List (Value × RC)) (w : World) (ht : TabIn w t ar nr cr al nl cl xs) (hok : OkP t) :
  Calls Tryz.prog 94 #[.agg (tabC t (.slice ar nr cr) (.slice al nl cl)).toArray] w fun e w' => ∃ (ro : Option Addr) (rc : Nat) (lo : Option Addr) (lc : Nat) (ys : List (Value × RC)) (K : List HA), e = .returned (.agg (tabC t (.slice ro nr rc) (.slice lo nl lc)).toArray) ∧ ys.map (·.2) = t.recs ∧ ys.length = nr ∧ OwnX K ys ∧ St w [] w' (.row (.slice ro nr rc) 53 44 nr (recsV ys) :: .row (.slice lo nl lc) 3 1 nl (numsV t.lives) :: K) := by
 have hbd := ok_bd (okP_iff.2 hok)
 have b1 := hok.many
 have b2 := hok.devs
 have b3 := ht.len
 have b4 := ht.ln
 refine (refOwn13_any t ar al nr cr nl cl xs w ht (by omega) (by omega) (fun r hr => by have := (hbd.recs r hr).rootLen; omega)).mono fun e w' h => ?_
 obtain ⟨ro, rc, lo, lc, ys, he, hy, hst⟩ := h
 refine ⟨ro, rc, lo, lc, ys, rootRows 102 ys, he, hy, by rw [← List.length_map (f := (·.2)), hy]; exact b3, fun y hyy => ⟨rootRows_mem hyy, ?_⟩, hst⟩
 have h2 : y.2 ∈ t.recs := by rw [← hy]; exact List.mem_map_of_mem hyy
 have h3 : y.2 ∈ xs.map (·.2) := by rw [ht.eq]; exact h2
 obtain ⟨x, hx, hxe⟩ := List.mem_map.1 h3
 have hL := (ht.R.each x hx).L
 rw [hxe] at hL
 have hn := (hbd.recs _ h2).name
 exact ⟨hL, by omega⟩
theorem refWithin13 (n lo hi : Int) (w : World) : Calls Tryz.prog 42 #[.int .i64 n, .int .i64 lo, .int .i64 hi] w fun e w' => e = .returned (.bool (inB n lo hi)) ∧ St w [] w' [] := by
 have hst := St.refl w
 unfold inB
 by_cases h1 : lo ≤ n
 ·have d1 : decide (n ≥ lo) = true := decide_eq_true h1
  have d2 : decide (lo ≤ n) = true := d1
  rw [d2]
  clear h1
  go_enter Tryz.func42, Tryz.ntmps42
  go_wp2_with (first | go_big_skip | go_big_guard | fail)
  go_ret
  exact ⟨rfl, hst⟩
 ·have d1 : decide (n ≥ lo) = false := decide_eq_false h1
  have d2 : decide (lo ≤ n) = false := d1
  rw [d2]
  clear h1
  go_enter Tryz.func42, Tryz.ntmps42
  go_wp2_with (first | go_big_skip | go_big_guard | fail)
  go_ret
  exact ⟨rfl, hst⟩
theorem refNamed13 (nm : List UInt8) (w : World) (hl : nm.length ≤ 9223372036854775807) : Calls Tryz.prog 95 #[str nm] w fun e w' => e = .returned (.bool (namedB nm)) ∧ St w [] w' [] := by
 have hst := St.refl w
 have HL := hid hl
 unfold namedB
 obtain ⟨a, ha⟩ : ∃ a, a = partB nm := ⟨_, rfl⟩
 obtain ⟨b, hb⟩ : ∃ b, b = snapB nm := ⟨_, rfl⟩
 rw [← ha, ← hb]
 have HA := hid ha
 have HB := hid hb
 clear ha hb hl
 cases a
 all_goals
  go_enter Tryz.func95, Tryz.ntmps95
  go_wp2_with (first | go_big_skip | go_big_guard | (go_at_call 87; refine (refVolume_any nm _ HL.out).mono ?_; rw [← HA.out]; rintro _ w9 ⟨rfl, h4⟩; replace hst := St.call0 hst h4; clear h4) | (go_at_call 92; refine (refSnap_any nm _ HL.out).mono ?_; rw [← HB.out]; rintro _ w9 ⟨rfl, h4⟩; replace hst := St.call0 hst h4; clear h4))
  go_ret
  exact ⟨rfl, hst⟩
theorem refRoom13 (t : TC) (ar al : Option Addr) (nr cr nl cl : Nat) (xs : List (Value × RC)) (w : World) (nm : List UInt8) (ht : TabIn w t ar nr cr al nl cl xs) :
  Calls Tryz.prog 88 #[.agg (tabC t (.slice ar nr cr) (.slice al nl cl)).toArray, str nm] w fun e w' => e = .returned (.int .i64 (roomE t nm)) ∧ St w [] w' [] := by
 have hst0 := St.refl w
 have HT := hid ht
 have hb := ht.br
 obtain ⟨E, hE⟩ : ∃ E, E = roomE t nm := ⟨_, rfl⟩
 rw [← hE]
 have HEE := hid hE
 obtain ⟨⟨z, is⟩, hf⟩ : ∃ p, findP nm (xs.map (·.2)) = p := ⟨_, rfl⟩
 have HF := hid hf
 have hi : isAt nm t.recs = is := by rw [← findP_is, ← ht.eq, hf]
 have hl : (t.recs.length : Int) = nr := by rw [ht.len]
 have HL := hid hl
 have HI := hid hi
 clear ht hE hf hi hl
 cases is
 ·by_cases h1 : 16 ≤ nr
  ·have d1 : decide ((nr : Int) ≥ 16) = true := decide_eq_true (by omega)
   have d2 : decide ((16 : Int) ≤ (nr : Int)) = true := d1
   have HE := hid (show E = 8 by rw [HEE.out]; unfold roomE fullB; rw [HI.out, HL.out, d1]; rfl)
   go_enter Tryz.func88, Tryz.ntmps88
   go_wp2_with (first | go_big_skip | go_big_guard | (refine wl_boxA hst0 rfl rfl rfl ?_; intro g2 w1 hst; clear hst0) | (refine wl_loadE rfl rfl rfl ?_; first | refine ⟨_, Loads.atA (tabC t (.slice ar nr cr) (.slice al nl cl)) [] hst rfl rfl, ?_⟩ | refine ⟨_, Loads.at [] hst rfl, ?_⟩) | (go_at_call 91; refine (refFind_any t (.slice al nl cl) nm ar nr cr xs _ (HT.out.R.old hst) (by omega)).mono ?_; rw [HF.out]; rintro _ w9 ⟨rfl, h4⟩; replace hst := St.call0 hst h4; clear h4))
   go_ret
   exact ⟨by rw [HE.out]; rfl, hst.nil⟩
  ·have d1 : decide ((nr : Int) ≥ 16) = false := decide_eq_false (by omega)
   have d2 : decide ((16 : Int) ≤ (nr : Int)) = false := d1
   by_cases h2 : t.next ≥ 2147483648
   ·have d3 : decide (t.next ≥ 2147483648) = true := decide_eq_true h2
    have HE := hid (show E = 8 by rw [HEE.out]; unfold roomE fullB; rw [HI.out, HL.out, d1, d3]; rfl)
    have d4 : decide (2147483648 ≤ t.next) = true := d3
    go_enter Tryz.func88, Tryz.ntmps88
    go_wp2_with (first | go_big_skip | go_big_guard | (refine wl_boxA hst0 rfl rfl rfl ?_; intro g2 w1 hst; clear hst0) | (refine wl_loadE rfl rfl rfl ?_; first | refine ⟨_, Loads.atA (tabC t (.slice ar nr cr) (.slice al nl cl)) [] hst rfl rfl, ?_⟩ | refine ⟨_, Loads.at [] hst rfl, ?_⟩) | (go_at_call 91; refine (refFind_any t (.slice al nl cl) nm ar nr cr xs _ (HT.out.R.old hst) (by omega)).mono ?_; rw [HF.out]; rintro _ w9 ⟨rfl, h4⟩; replace hst := St.call0 hst h4; clear h4))
    go_ret
    exact ⟨by rw [HE.out]; rfl, hst.nil⟩
   ·have d3 : decide (t.next ≥ 2147483648) = false := decide_eq_false h2
    have HE := hid (show E = 0 by rw [HEE.out]; unfold roomE fullB; rw [HI.out, HL.out, d1, d3]; rfl)
    have d4 : decide (2147483648 ≤ t.next) = false := d3
    go_enter Tryz.func88, Tryz.ntmps88
    go_wp2_with (first | go_big_skip | go_big_guard | (refine wl_boxA hst0 rfl rfl rfl ?_; intro g2 w1 hst; clear hst0) | (refine wl_loadE rfl rfl rfl ?_; first | refine ⟨_, Loads.atA (tabC t (.slice ar nr cr) (.slice al nl cl)) [] hst rfl rfl, ?_⟩ | refine ⟨_, Loads.at [] hst rfl, ?_⟩) | (go_at_call 91; refine (refFind_any t (.slice al nl cl) nm ar nr cr xs _ (HT.out.R.old hst) (by omega)).mono ?_; rw [HF.out]; rintro _ w9 ⟨rfl, h4⟩; replace hst := St.call0 hst h4; clear h4))
    go_ret
    exact ⟨by rw [HE.out]; rfl, hst.nil⟩
 ·have HE := hid (show E = 7 by rw [HEE.out]; unfold roomE; rw [HI.out]; rfl)
  go_enter Tryz.func88, Tryz.ntmps88
  go_wp2_with (first | go_big_skip | go_big_guard | (refine wl_boxA hst0 rfl rfl rfl ?_; intro g2 w1 hst; clear hst0) | (refine wl_loadE rfl rfl rfl ?_; first | refine ⟨_, Loads.atA (tabC t (.slice ar nr cr) (.slice al nl cl)) [] hst rfl rfl, ?_⟩ | refine ⟨_, Loads.at [] hst rfl, ?_⟩) | (go_at_call 91; refine (refFind_any t (.slice al nl cl) nm ar nr cr xs _ (HT.out.R.old hst) (by omega)).mono ?_; rw [HF.out]; rintro _ w9 ⟨rfl, h4⟩; replace hst := St.call0 hst h4; clear h4))
  go_ret
  exact ⟨by rw [HE.out]; rfl, hst.nil⟩
theorem perm_put (a b c d e f : HA) {K : List HA} : (d :: a :: b :: c :: e :: f :: K).Perm (b :: c :: e :: d :: a :: f :: K) := by
 have h1 : (d :: a :: b :: c :: e :: f :: K).Perm (b :: d :: a :: c :: e :: f :: K) := (List.Perm.cons d (List.Perm.swap b a _)).trans (List.Perm.swap b d _)
 have h2 : (d :: a :: c :: e :: f :: K).Perm (c :: d :: a :: e :: f :: K) := (List.Perm.cons d (List.Perm.swap c a _)).trans (List.Perm.swap c d _)
 have h3 : (d :: a :: e :: f :: K).Perm (e :: d :: a :: f :: K) := (List.Perm.cons d (List.Perm.swap e a _)).trans (List.Perm.swap e d _)
 exact h1.trans (.cons _ (h2.trans (.cons _ h3)))
theorem refPut13 (t : TC) (ar al : Option Addr) (nr cr nl cl : Nat) (xs : List (Value × RC)) (w : World) (y : Value × RC) (ht : TabIn w t ar nr cr al nl cl xs) (hok : OkP t) (hy : RC.In w y) (hyl : y.2.l.length ≤ 100000) (hyn : y.2.name.length ≤ 1000000) :
  Calls Tryz.prog 89 #[.agg (tabC t (.slice ar nr cr) (.slice al nl cl)).toArray, .agg (cellsR y).toArray] w fun e w' => ∃ (ar' al' : Option Addr) (nr' cr' nl' cl' : Nat) (xs' : List (Value × RC)) (L : List HA), e = .returned (.agg (tabC (putT t y.2) (.slice ar' nr' cr') (.slice al' nl' cl')).toArray) ∧ Held L (putT t y.2) ar' al' nr' cr' nl' cl' xs' ∧ St w [] w' L := by
 have hst0 := St.refl w
 have HT := hid ht
 have HOK := hid hok
 have b1 := hok.many
 have b2 := hok.next
 have b3 := ht.len
 have b5 := hok.devs
 have b4 := ht.ln
 have hnr : nr ≤ 16 := by omega
 have hnl : nl ≤ 8 := by omega
 have H44 := hid (cellsR_len hy.L)
 have H44b := hid (show (cellsR (idR y t.next)).length = 44 from cellsR_len hy.L)
 have HLY := hid hy.L
 have HNY := hid hy.2
 have HNM := hid hyn
 have HZL := hid (show ∀ v : Value, (cellsR (v, (idR y t.next).2)).length = 44 from fun v => cellsR_len hy.L)
 obtain ⟨_, ao2, mm, cc, hsv, hrd, hml⟩ := hy.1
 have HSV := hid (show y.1 = .slice ao2 mm cc from hsv)
 have HRD := hid (show Rd w (.slice ao2 mm cc) 2 mm (addrsV y.2.l) from hrd)
 have hmm : mm ≤ 100000 := by
  have e : y.2.l.length = mm := hml
  omega
 have z1 : IntKind.i64.wrap (t.next + 1) = t.next + 1 := IntWalk.i64_in _ (by omega)
 have HNX := hid b3
 have HLV := hid b4
 clear ht hok hy hyn hsv hrd b1 b2 b3 b4 b5
 obtain rfl : y.2.l.length = mm := hml
 have HALL : Hid (∀ (ys : List (Value × RC)) (K : List HA) (a9 : Option Addr) (c9 : Nat), OwnX K ys → ∀ z ∈ ys ++ [((.slice a9 y.2.l.length c9 : Value), (idR y t.next).2)], L32 z.2.S ∧ (∀ {w0 w1 : World} {q1 q2 q3 q4 q5 q6 : HA}, St w0 [] w1 (q1 :: .row (.slice a9 y.2.l.length c9) 102 2 y.2.l.length (addrsV y.2.l) :: q2 :: q3 :: q4 :: q5 :: q6 :: K) → RC.In w1 z) ∧ z.2.name.length ≤ 1000000 ∧ (rootH z ∈ K ∨ rootH z = .row (.slice a9 y.2.l.length c9) 102 2 y.2.l.length (addrsV y.2.l))) := hid (by
  intro ys K a9 c9 ho z hz
  rcases List.mem_append.1 hz with hz | hz
  ·have h := ho z hz
   exact ⟨h.2.1, fun hs => ((((((((h.cons _).cons _).cons _).cons _).cons _).cons _).cons _)).In hs, h.2.2, .inl h.1⟩
  ·rw [List.mem_singleton] at hz
   subst hz
   exact ⟨HLY.out, fun hs => root_in (E := 102) hs (.tail _ (.head _)) HLY.out HNY.out, HNM.out, .inr rfl⟩)
 go_enter Tryz.func89, Tryz.ntmps89
 go_wp2_with (first | go_big_skip | go_big_guard | (refine wl_boxA hst0 rfl rfl rfl ?_; intro g2 w1 hA0; clear hst0) | (refine wl_boxA hA0 rfl rfl rfl ?_; intro g3 w1 hA1; clear hA0) | (refine wl_alloc hA1 rfl rfl ?_; intro g4 w1 hst; clear hA1) | (refine wl_loadE rfl rfl rfl ?_; first | refine ⟨_, Loads.at [_, _] hst rfl, ?_⟩ | refine ⟨_, Loads.atA (tabC t (.slice ar nr cr) (.slice al nl cl)) [_, _] hB1 rfl rfl, ?_⟩ | refine ⟨_, Loads.at [_, _] hB3 rfl, ?_⟩ | refine ⟨_, (by have h9 := Loads.at (P := Tryz.prog) (T := 28) (off := 4) [_, _] hB5 rfl; exact (show Loads Tryz.prog _ _ _ (.slice ao2 y.2.l.length cc) from (by rw [← HSV.out]; exact h9))), ?_⟩ | refine ⟨_, Loads.at [_, _, _] hB7 rfl, ?_⟩ | refine ⟨_, Loads.atA (cellsR ((.slice a9 y.2.l.length c9 : Value), (idR y t.next).2)) [_, _] hB7 (HZL.out _) (cellsR_all _), ?_⟩ | refine ⟨_, Loads.atA (tabC (nextT t) (.slice r2 (nr + 1) c2) (.slice lo nl lc)) [_, _] hC2 rfl rfl, ?_⟩) | (refine wl_storeC [_] hst rfl rfl rfl rfl (off := 0) (v := .int .i64 t.next) rfl rfl (by rw [H44.out]; decide) (cs' := cellsR (idR y t.next)) rfl ?_; intro w1 h4; have hB1 : St w [] w1 (.blk g4 27 tab0 :: .blk g3 53 (cellsR (idR y t.next)) :: .blk g2 27 (tabC t (.slice ar nr cr) (.slice al nl cl)) :: []) := h4; clear h4 hst) | (go_at_call 94; refine (refOwn_ok t ar al nr cr nl cl xs _ (HT.out.old hB1.nil) HOK.out).mono ?_; rintro _ w9 ⟨ro, rc, lo, lc, ys, K, rfl, hye, hyn, hyo, h4⟩; have hB2 : St w [] w9 (.blk g4 27 tab0 :: .blk g3 53 (cellsR (idR y t.next)) :: .blk g2 27 (tabC t (.slice ar nr cr) (.slice al nl cl)) :: .row (.slice ro nr rc) 53 44 nr (recsV ys) :: .row (.slice lo nl lc) 3 1 nl (numsV t.lives) :: K) := St.perm (St.call hB1 h4) List.perm_append_comm; have HYE := hid hye; have HYN := hid hyn; have HYO := hid hyo; clear h4 hB1 hye hyn hyo) | (refine wl_storeA [_, _] hB2 rfl rfl rfl rfl (vs := (tabC t (.slice ro nr rc) (.slice lo nl lc))) rfl rfl rfl ?_; intro w1 h4; have hB3 : St w [] w1 (.blk g4 27 tab0 :: .blk g3 53 (cellsR (idR y t.next)) :: .blk g2 27 (tabC t (.slice ro nr rc) (.slice lo nl lc)) :: .row (.slice ro nr rc) 53 44 nr (recsV ys) :: .row (.slice lo nl lc) 3 1 nl (numsV t.lives) :: K) := h4; clear h4 hB2) | (refine wl_storeC [_, _] hB3 rfl rfl rfl rfl (off := 0) (v := .int .i64 (t.next + 1)) rfl rfl (by show 0 + 1 ≤ 7; decide) (cs' := (tabC (nextT t) (.slice ro nr rc) (.slice lo nl lc))) rfl ?_; intro w1 h4; have hB4 : St w [] w1 (.blk g4 27 tab0 :: .blk g3 53 (cellsR (idR y t.next)) :: .blk g2 27 (tabC (nextT t) (.slice ro nr rc) (.slice lo nl lc)) :: .row (.slice ro nr rc) 53 44 nr (recsV ys) :: .row (.slice lo nl lc) 3 1 nl (numsV t.lives) :: K) := h4; clear h4 hB3) | (apply wl_bsX [] [] hB4; rfl; rfl; exact rfl; exact rfl; infer_instance; infer_instance; rfl; rfl; rfl; intro g7 w8 h8; have h7 := St.toRow (n := 0) (cap := 0) (sz := 2) h8 rfl (by decide) (by decide); have hB5 : St w [] w8 (.row (.slice (some ⟨g7, 0, none⟩) 0 0) 102 2 0 (List.take (0 * 2) []) :: .blk g4 27 tab0 :: .blk g3 53 (cellsR (idR y t.next)) :: .blk g2 27 (tabC (nextT t) (.slice ro nr rc) (.slice lo nl lc)) :: .row (.slice ro nr rc) 53 44 nr (recsV ys) :: .row (.slice lo nl lc) 3 1 nl (numsV t.lives) :: K) := h7; clear h8 h7 hB4) | (apply wl_appX (m := y.2.l.length) (ys := addrsV y.2.l) [] hB5; rfl; rfl; exact rfl; exact rfl; infer_instance; infer_instance; infer_instance; exact Rd.old hB5 HRD.out; exact addrs_ones _; exact ⟨by decide, by unfold maxLen; omega, by omega⟩; intro v9 w6 h9 _; obtain ⟨a9, c9, rfl, _, _⟩ := row_sliceC [] h9; have h8 := row_tidy [] h9; have hB6 : St w [] w6 (.row (.slice a9 y.2.l.length c9) 102 2 y.2.l.length (addrsV y.2.l) :: .blk g4 27 tab0 :: .blk g3 53 (cellsR (idR y t.next)) :: .blk g2 27 (tabC (nextT t) (.slice ro nr rc) (.slice lo nl lc)) :: .row (.slice ro nr rc) 53 44 nr (recsV ys) :: .row (.slice lo nl lc) 3 1 nl (numsV t.lives) :: K) := h8; clear h9 h8 hB5) | (refine wl_storeC [_, _] hB6 rfl rfl rfl rfl (off := 4) (v := .slice a9 y.2.l.length c9) rfl rfl (by rw [H44b.out]; decide) (cs' := cellsR ((.slice a9 y.2.l.length c9 : Value), (idR y t.next).2)) rfl ?_; intro w1 h4; have hB7 : St w [] w1 (.row (.slice a9 y.2.l.length c9) 102 2 y.2.l.length (addrsV y.2.l) :: .blk g4 27 tab0 :: .blk g3 53 (cellsR ((.slice a9 y.2.l.length c9 : Value), (idR y t.next).2)) :: .blk g2 27 (tabC (nextT t) (.slice ro nr rc) (.slice lo nl lc)) :: .row (.slice ro nr rc) 53 44 nr (recsV ys) :: .row (.slice lo nl lc) 3 1 nl (numsV t.lives) :: K) := h4; clear h4 hB6) | (apply wl_bsX [.agg (List.toArray (cellsR ((.slice a9 y.2.l.length c9 : Value), (idR y t.next).2)))] (cellsR ((.slice a9 y.2.l.length c9 : Value), (idR y t.next).2)) hB7; rfl; rfl; exact rfl; exact (List.append_nil _); infer_instance; infer_instance; (show (((List.toArray (cellsR ((.slice a9 y.2.l.length c9 : Value), (idR y t.next).2))).size == 44) && true) = true; rw [List.size_toArray, HZL.out _]; rfl); rfl; rfl; intro gb w5 h4; have hB8 : St w [] w5 (.blk gb 53 (cellsR ((.slice a9 y.2.l.length c9 : Value), (idR y t.next).2)) :: .row (.slice a9 y.2.l.length c9) 102 2 y.2.l.length (addrsV y.2.l) :: .blk g4 27 tab0 :: .blk g3 53 (cellsR ((.slice a9 y.2.l.length c9 : Value), (idR y t.next).2)) :: .blk g2 27 (tabC (nextT t) (.slice ro nr rc) (.slice lo nl lc)) :: .row (.slice ro nr rc) 53 44 nr (recsV ys) :: .row (.slice lo nl lc) 3 1 nl (numsV t.lives) :: K) := h4; have HZI := hid (root_in (E := 102) (x := ((.slice a9 y.2.l.length c9 : Value), (idR y t.next).2)) hB8 (.tail _ (.head _)) HLY.out HNY.out); clear h4 hB7) | (apply wl_appX (m := 1) (ys := cellsR ((.slice a9 y.2.l.length c9 : Value), (idR y t.next).2)) [_, _, _, _, _] hB8; rfl; rfl; exact rfl; exact rfl; infer_instance; infer_instance; infer_instance; exact Rd.blk (n := 1) hB8 (.head _) (Nat.le_refl _) (by decide) (by rw [HZL.out _]) (by rw [List.drop_zero, List.take_length]); exact cellsR_ones HZI.out; exact ⟨by decide, by unfold maxLen; omega, by omega⟩; intro rv2 w6 h4 _; obtain ⟨r1, c1, rfl, _, _⟩ := row_sliceC [_, _, _, _, _] h4; have hB9 : St w [] w6 (.blk gb 53 (cellsR ((.slice a9 y.2.l.length c9 : Value), (idR y t.next).2)) :: .row (.slice a9 y.2.l.length c9) 102 2 y.2.l.length (addrsV y.2.l) :: .blk g4 27 tab0 :: .blk g3 53 (cellsR ((.slice a9 y.2.l.length c9 : Value), (idR y t.next).2)) :: .blk g2 27 (tabC (nextT t) (.slice ro nr rc) (.slice lo nl lc)) :: .row (.slice r1 (nr + 1) c1) 53 44 (nr + 1) (recsV (ys ++ [((.slice a9 y.2.l.length c9 : Value), (idR y t.next).2)])) :: .row (.slice lo nl lc) 3 1 nl (numsV t.lives) :: K) := (by rw [recsV_append, show recsV [((.slice a9 y.2.l.length c9 : Value), (idR y t.next).2)] = cellsR ((.slice a9 y.2.l.length c9 : Value), (idR y t.next).2) from List.append_nil _]; exact h4); clear h4 hB8) | (go_at_call 97; refine (refSorted_any r1 (nr + 1) c1 (ys ++ [((.slice a9 y.2.l.length c9 : Value), (idR y t.next).2)]) _ (Rd.row hB9 (.tail _ (.tail _ (.tail _ (.tail _ (.tail _ (.head _))))))) (by rw [List.length_append, HYN.out]; rfl) (fun z hz => (HALL.out ys K a9 c9 HYO.out z hz).1) (fun z hz => cellsR_ones ((HALL.out ys K a9 c9 HYO.out z hz).2.1 hB9)) (fun z hz => (HALL.out ys K a9 c9 HYO.out z hz).2.2.1) (by omega)).mono ?_; rintro _ w9 ⟨rv9, zs, rfl, hze, hzp, h4⟩; have h5 := St.call hB9 h4; obtain ⟨r2, c2, rfl, _, _⟩ := row_sliceC [] h5; have hC1 : St w [] w9 (.blk g4 27 tab0 :: .blk g3 53 (cellsR ((.slice a9 y.2.l.length c9 : Value), (idR y t.next).2)) :: .blk g2 27 (tabC (nextT t) (.slice ro nr rc) (.slice lo nl lc)) :: .row (.slice r2 (nr + 1) c2) 53 44 (nr + 1) (recsV zs) :: .row (.slice a9 y.2.l.length c9) 102 2 y.2.l.length (addrsV y.2.l) :: .row (.slice lo nl lc) 3 1 nl (numsV t.lives) :: K) := St.perm (St.sub h5 (.cons_cons _ (.cons _ (.cons_cons _ (.cons_cons _ (.cons_cons _ (.cons_cons _ (.cons _ (List.Sublist.refl _))))))))) (perm_put _ _ _ _ _ _); have HZE := hid hze; have HZP := hid hzp; clear h4 h5 hB9 hze hzp) | (refine wl_store [_, _] hC1 rfl rfl rfl (off := 1) (v := .slice r2 (nr + 1) c2) rfl rfl rfl (by show (1 : Nat) + 1 ≤ 7; decide) ?_; intro w7 h4; have hC2 : St w [] w7 (.blk g4 27 tab0 :: .blk g3 53 (cellsR ((.slice a9 y.2.l.length c9 : Value), (idR y t.next).2)) :: .blk g2 27 (tabC (nextT t) (.slice r2 (nr + 1) c2) (.slice lo nl lc)) :: .row (.slice r2 (nr + 1) c2) 53 44 (nr + 1) (recsV zs) :: .row (.slice a9 y.2.l.length c9) 102 2 y.2.l.length (addrsV y.2.l) :: .row (.slice lo nl lc) 3 1 nl (numsV t.lives) :: K) := h4; clear h4 hC1) | (refine wl_storeA [] hC2 rfl rfl rfl rfl (vs := (tabC (nextT t) (.slice r2 (nr + 1) c2) (.slice lo nl lc))) rfl rfl rfl ?_; intro w7 h4; have hC3 : St w [] w7 (.blk g4 27 (tabC (nextT t) (.slice r2 (nr + 1) c2) (.slice lo nl lc)) :: .blk g3 53 (cellsR ((.slice a9 y.2.l.length c9 : Value), (idR y t.next).2)) :: .blk g2 27 (tabC (nextT t) (.slice r2 (nr + 1) c2) (.slice lo nl lc)) :: .row (.slice r2 (nr + 1) c2) 53 44 (nr + 1) (recsV zs) :: .row (.slice a9 y.2.l.length c9) 102 2 y.2.l.length (addrsV y.2.l) :: .row (.slice lo nl lc) 3 1 nl (numsV t.lives) :: K) := h4; clear h4 hC2))
 have hl := Loads.atA (P := Tryz.prog) (off := 0) (T := 27) (tabC (nextT t) (.slice r2 (nr + 1) c2) (.slice lo nl lc)) [] hC3 rfl rfl
 refine bodyPost_ret (results_cellC rfl rfl hl) rfl ?_
 have hze : zs.map (·.2) = layL (idR y t.next).2 t.recs := by
  rw [HZE.out, List.map_append, HYE.out]
  show sortL (t.recs ++ [(idR y t.next).2]) = _
  rw [sortL_snoc, sortL_id HOK.out.lt]
 have hzn : zs.length = nr + 1 := by rw [HZP.out.length_eq, List.length_append, HYN.out]; rfl
 refine ⟨r2, lo, nr + 1, c2, nl, lc, zs, _, rfl, fun _ w2 _ L' hs hsub => own_tab (u := putT t y.2) hs (hsub _ (.tail _ (.tail _ (.tail _ (.head _))))) (hsub _ (.tail _ (.tail _ (.tail _ (.tail _ (.tail _ (.head _))))))) hzn HLV.out (fun z hz => ?_) hze ⟨by omega, by omega⟩, hC3⟩
 have h := HALL.out ys K a9 c9 HYO.out z (HZP.out.subset hz)
 refine ⟨hsub _ ?_, h.1, h.2.2.1⟩
 rcases h.2.2.2 with h | h
 ·exact .tail _ (.tail _ (.tail _ (.tail _ (.tail _ (.tail _ h)))))
 ·rw [h]; exact .tail _ (.tail _ (.tail _ (.tail _ (.head _))))
end Go.Proofs.YtifajcblbedcoaaGreat
namespace Go.Proofs.YtifajcblbedcoaaGreat
set_option linter.unusedVariables false
set_option linter.unusedSimpArgs false
open Go.RowKit Hp
attribute [local irreducible] Go.Calls Go.wpList
set_option maxRecDepth 100000
set_option maxHeartbeats 8000000
attribute [local go_sem ↓] heldInt heldInts heldRecs heldRec heldStr heldTab heldPtr heldFn
theorem opR_0 {t u : TC} (h : t.ok = true) : opR t (0, u) = (0, u) := by
 unfold opR
 rw [h]
 rfl
theorem opR_z {t : TC} {z : Int} (h : t.ok = true) : opR t (badR z) = badR z := by
 unfold opR
 rw [h]
 show (if (z == 0) then badR z else badR z) = _
 split <;> rfl
theorem opR_no {t : TC} {r : TR} (h : t.ok = false) : opR t r = badR 2 := by
 unfold opR
 rw [h]
 rfl
theorem found_at {w : World} {t : TC} {ar al : Option Addr} {nr cr nl cl : Nat} {xs : List (Value × RC)} (ht : TabIn w t ar nr cr al nl cl xs) {nm : List UInt8} {y : RC} (h : recAt nm t.recs = some y) :
  ∃ (j : Nat) (v : Value) (lb lo : Nat), findP nm t.recs = ((j : Int), true) ∧ xs[j]? = some (v, y) ∧ j < nr ∧ ar = some ⟨lb, lo, none⟩ ∧ RC.In w (v, y) ∧ w.rangeAt lb (lo + j * 44) (cellsR (v, y)) := by
 rcases find_split (nm := nm) (l := t.recs) with ⟨h1, _⟩ | ⟨j, y', h1, h2, _, h4, _⟩
 ·rw [h1] at h; cases h
 ·rw [h2] at h
  cases h
  have hj : j < nr := by rw [← ht.len]; exact (List.getElem?_eq_some_iff.1 h1).1
  obtain ⟨x, lb, lo, hx, har, hin, hr⟩ := RecsIn.at ht.R hj
  have e := recs_at ht hx
  rw [h1] at e
  cases e
  exact ⟨j, x.1, lb, lo, h4, hx, hj, har, hin, hr⟩
theorem Hp.St.shift1 {w0 w : World} {M : List Nat} {L K : List HA} {a : HA} (h : St w0 M w (L ++ (a :: K))) : St w0 M w ((L ++ [a]) ++ K) := by simpa using h
theorem found_no {t : TC} {nm : List UInt8} (h : recAt nm t.recs = none) : findP nm t.recs = (0, false) := by
 rcases find_split (nm := nm) (l := t.recs) with ⟨_, h1⟩ | ⟨j, y', _, h2, _, _, _⟩
 ·exact h1
 ·rw [h2] at h; cases h
theorem refMake13 (t : TC) (ar al : Option Addr) (nr cr nl cl : Nat) (xs : List (Value × RC)) (w : World) (ht : TabIn w t ar nr cr al nl cl xs) (nm : List UInt8) (size txg : Int) (hnm : nm.length ≤ 1000000) :
  Calls Tryz.prog 33 #[.agg (tabC t (.slice ar nr cr) (.slice al nl cl)).toArray, .string ⟨nm.toArray⟩, .int .i64 size, .int .i64 txg] w (RefRet (opR t (makeR t nm size txg)) w) := by
 have hst0 := St.refl w
 have HT := hid ht
 have b1 := ht.br
 have b2 := ht.bl
 obtain ⟨r, hr⟩ : ∃ r, r = opR t (makeR t nm size txg) := ⟨_, rfl⟩
 rw [← hr]
 cases hok : t.ok
 ·have HE := hid (err_no hok)
  have HB := hid (show r = badR 2 by rw [hr]; exact opR_no hok)
  clear ht hr hok
  go_enter Tryz.func33, Tryz.ntmps33
  go_wp2_with (first | go_big_skip | go_big_guard | (refine wl_boxA hst0 rfl rfl rfl ?_; intro gb w1 hA0; clear hst0) | (refine wl_alloc hA0 rfl rfl ?_; intro gz w2 hst; clear hA0) | (refine wl_loadE rfl rfl rfl ?_; first | refine ⟨_, Loads.atA (tabC t (.slice ar nr cr) (.slice al nl cl)) [_] hst rfl rfl, ?_⟩ | refine ⟨_, Loads.at [_] hst rfl, ?_⟩) | (go_at_call 86; refine (refCheck12_any t ar al nr cr nl cl xs _ (HT.out.R.old hst.nil) HT.out.eq (by omega) (Rd.old hst.nil HT.out.L) HT.out.ln (by omega)).mono ?_; rw [HE.out]; rintro _ w9 ⟨rfl, h4⟩; replace hst := St.call0 hst h4; clear h4) | (refine wl_build0 rfl rfl ?_) | (refine wl_storeA [] hst rfl rfl rfl rfl rfl rfl rfl ?_; intro w7 hZ; clear hst))
  have hl := Loads.atA (P := Tryz.prog) (off := 0) (T := 27) tab0 [] hZ rfl rfl
  refine bodyPost_ret (results_cellR rfl rfl rfl hl) rfl ?_
  rw [HB.out]
  exact refRet_bad hZ _
 ·have HE := hid (err_yes hok)
  have HOK := hid (okP_iff.1 hok)
  clear ht
  obtain ⟨p, hp⟩ : ∃ p, partB nm = p := ⟨_, rfl⟩
  obtain ⟨q, hq⟩ : ∃ q, inB size 1 64 = q := ⟨_, rfl⟩
  obtain ⟨s, hs⟩ : ∃ s, inB txg 1 2147483648 = s := ⟨_, rfl⟩
  obtain ⟨z, hz⟩ : ∃ z, roomE t nm = z := ⟨_, rfl⟩
  have hv : r = opR t (if (p && q) && s then (if z == 0 then (0, putT t (volR nm size txg)) else badR z) else badR 2) := by rw [hr]; unfold makeR txgB; rw [hp, hq, hs, hz]
  have HP := hid hp
  have HQ := hid hq
  have HS := hid hs
  have HZ := hid hz
  clear hr hp hq hs hz
  cases p <;> cases q <;> cases s
  case true.true.true =>
   cases hzz : (z == 0)
   ·have dz : (z != 0) = true := by unfold bne; rw [hzz]; rfl
    have HB := hid (show r = badR z by rw [hv]; show opR t (if z == 0 then _ else badR z) = _; rw [hzz]; exact opR_z hok)
    clear hv hok hzz
    go_enter Tryz.func33, Tryz.ntmps33
    go_wp2_with (first | go_big_skip | go_big_guard | (refine wl_boxA hst0 rfl rfl rfl ?_; intro gb w1 hA0; clear hst0) | (refine wl_alloc hA0 rfl rfl ?_; intro gz w2 hst; clear hA0) | (refine wl_loadE rfl rfl rfl ?_; first | refine ⟨_, Loads.atA (tabC t (.slice ar nr cr) (.slice al nl cl)) [_] hst rfl rfl, ?_⟩ | refine ⟨_, Loads.at [_] hst rfl, ?_⟩) | (go_at_call 86; refine (refCheck12_any t ar al nr cr nl cl xs _ (HT.out.R.old hst.nil) HT.out.eq (by omega) (Rd.old hst.nil HT.out.L) HT.out.ln (by omega)).mono ?_; rw [HE.out]; rintro _ w9 ⟨rfl, h4⟩; replace hst := St.call0 hst h4; clear h4) | (go_at_call 87; refine (refVolume_any nm _ (by omega)).mono ?_; rw [HP.out]; rintro _ w9 ⟨rfl, h4⟩; replace hst := St.call0 hst h4; clear h4) | (go_at_call 42; refine (refWithin13 _ _ _ _).mono ?_; (first | rw [HQ.out] | rw [HS.out]); rintro _ w9 ⟨rfl, h4⟩; replace hst := St.call0 hst h4; clear h4) | (go_at_call 88; refine (refRoom13 t ar al nr cr nl cl xs _ nm (HT.out.old hst.nil)).mono ?_; rw [HZ.out]; rintro _ w9 ⟨rfl, h4⟩; replace hst := St.call0 hst h4; clear h4) | (refine wl_build0 rfl rfl ?_) | (refine wl_storeA [] hst rfl rfl rfl rfl rfl rfl rfl ?_; intro w7 hZ; clear hst))
    have hl := Loads.atA (P := Tryz.prog) (off := 0) (T := 27) tab0 [] hZ rfl rfl
    refine bodyPost_ret (results_cellR rfl rfl rfl hl) rfl ?_
    rw [HB.out]
    exact refRet_bad hZ _
   ·have dz : (z != 0) = false := by unfold bne; rw [hzz]; rfl
    have HB := hid (show r = (0, putT t (volR nm size txg)) by rw [hv]; show opR t (if z == 0 then _ else badR z) = _; rw [hzz]; exact opR_0 hok)
    clear hv hok hzz
    go_enter Tryz.func33, Tryz.ntmps33
    go_wp2_with (first | go_big_skip | go_big_guard | (refine wl_boxA hst0 rfl rfl rfl ?_; intro gb w1 hA0; clear hst0) | (refine wl_alloc hA0 rfl rfl ?_; intro gz w2 hst; clear hA0) | (refine wl_loadE rfl rfl rfl ?_; first | refine ⟨_, Loads.atA (tabC t (.slice ar nr cr) (.slice al nl cl)) [_] hst rfl rfl, ?_⟩ | refine ⟨_, Loads.at [_] hst rfl, ?_⟩) | (go_at_call 86; refine (refCheck12_any t ar al nr cr nl cl xs _ (HT.out.R.old hst.nil) HT.out.eq (by omega) (Rd.old hst.nil HT.out.L) HT.out.ln (by omega)).mono ?_; rw [HE.out]; rintro _ w9 ⟨rfl, h4⟩; replace hst := St.call0 hst h4; clear h4) | (go_at_call 87; refine (refVolume_any nm _ (by omega)).mono ?_; rw [HP.out]; rintro _ w9 ⟨rfl, h4⟩; replace hst := St.call0 hst h4; clear h4) | (go_at_call 42; refine (refWithin13 _ _ _ _).mono ?_; (first | rw [HQ.out] | rw [HS.out]); rintro _ w9 ⟨rfl, h4⟩; replace hst := St.call0 hst h4; clear h4) | (go_at_call 88; refine (refRoom13 t ar al nr cr nl cl xs _ nm (HT.out.old hst.nil)).mono ?_; rw [HZ.out]; rintro _ w9 ⟨rfl, h4⟩; replace hst := St.call0 hst h4; clear h4) | (refine wl_buildX (cs := cellsR ((.slice none 0 0 : Value), volR nm size txg)) [(1, .string ⟨nm.toArray⟩), (2, .int .i64 1), (3, .int .i64 size), (5, .int .i64 txg)] rfl rfl (by exact rfl) (bldV _ _ _) ?_) | (go_at_call 89; refine (refPut13 t ar al nr cr nl cl xs _ ((.slice none 0 0 : Value), volR nm size txg) (HT.out.old hst.nil) HOK.out ⟨⟨L32.nones, none, 0, 0, rfl, Rd.nil _ _, rfl⟩, by show nm.length ≤ _; omega⟩ (by show 0 ≤ _; omega) hnm).mono ?_; rintro _ w9 ⟨a9, l9, n9, c9, m9, d9, xs9, L9, rfl, hin9, h4⟩; have hP := St.call hst h4; have HIN := hid hin9; clear h4 hin9 hst) | (refine wl_storeA L9 hP rfl rfl rfl rfl (vs := tabC (putT t (volR nm size txg)) (.slice a9 n9 c9) (.slice l9 m9 d9)) rfl rfl rfl ?_; intro w7 hZ; clear hP))
    have hl := Loads.atA (P := Tryz.prog) (off := 0) (T := 27) (tabC (putT t (volR nm size txg)) (.slice a9 n9 c9) (.slice l9 m9 d9)) L9 hZ rfl rfl
    refine bodyPost_ret (results_cellR rfl rfl rfl hl) rfl ?_
    rw [HB.out]
    exact ⟨a9, l9, n9, c9, m9, d9, xs9, _, rfl, fun w0 w8 M L' hs hsub => HIN.out w0 w8 M L' hs (fun y hy => hsub y (List.mem_append_left _ hy)), hZ⟩
  all_goals
   have HB := hid (show r = badR 2 by rw [hv]; exact opR_z hok)
   clear hv hok
   go_enter Tryz.func33, Tryz.ntmps33
   go_wp2_with (first | go_big_skip | go_big_guard | (refine wl_boxA hst0 rfl rfl rfl ?_; intro gb w1 hA0; clear hst0) | (refine wl_alloc hA0 rfl rfl ?_; intro gz w2 hst; clear hA0) | (refine wl_loadE rfl rfl rfl ?_; first | refine ⟨_, Loads.atA (tabC t (.slice ar nr cr) (.slice al nl cl)) [_] hst rfl rfl, ?_⟩ | refine ⟨_, Loads.at [_] hst rfl, ?_⟩) | (go_at_call 86; refine (refCheck12_any t ar al nr cr nl cl xs _ (HT.out.R.old hst.nil) HT.out.eq (by omega) (Rd.old hst.nil HT.out.L) HT.out.ln (by omega)).mono ?_; rw [HE.out]; rintro _ w9 ⟨rfl, h4⟩; replace hst := St.call0 hst h4; clear h4) | (go_at_call 87; refine (refVolume_any nm _ (by omega)).mono ?_; rw [HP.out]; rintro _ w9 ⟨rfl, h4⟩; replace hst := St.call0 hst h4; clear h4) | (go_at_call 42; refine (refWithin13 _ _ _ _).mono ?_; (first | rw [HQ.out] | rw [HS.out]); rintro _ w9 ⟨rfl, h4⟩; replace hst := St.call0 hst h4; clear h4) | (refine wl_build0 rfl rfl ?_) | (refine wl_storeA [] hst rfl rfl rfl rfl rfl rfl rfl ?_; intro w7 hZ; clear hst))
   have hl := Loads.atA (P := Tryz.prog) (off := 0) (T := 27) tab0 [] hZ rfl rfl
   refine bodyPost_ret (results_cellR rfl rfl rfl hl) rfl ?_
   rw [HB.out]
   exact refRet_bad hZ _
theorem refSnap13 (t : TC) (ar al : Option Addr) (nr cr nl cl : Nat) (xs : List (Value × RC)) (w : World) (ht : TabIn w t ar nr cr al nl cl xs) (nm : List UInt8) (txg : Int) (hnm : nm.length ≤ 1000000) :
  Calls Tryz.prog 34 #[.agg (tabC t (.slice ar nr cr) (.slice al nl cl)).toArray, .string ⟨nm.toArray⟩, .int .i64 txg] w (RefRet (opR t (snapT t nm txg)) w) := by
 have hst0 := St.refl w
 have HT := hid ht
 have b1 := ht.br
 have b2 := ht.bl
 obtain ⟨r, hr⟩ : ∃ r, r = opR t (snapT t nm txg) := ⟨_, rfl⟩
 rw [← hr]
 obtain ⟨⟨a, b, f⟩, hx⟩ : ∃ p, splitL nm = p := ⟨_, rfl⟩
 have hal : a.length ≤ 1000000 := by have := (split_in nm hnm).1; rw [hx] at this; exact this
 have HX := hid hx
 cases hok : t.ok
 ·have HE := hid (err_no hok)
  have HB := hid (show r = badR 2 by rw [hr]; exact opR_no hok)
  clear ht hr hok hx
  go_enter Tryz.func34, Tryz.ntmps34
  go_wp2_with (first | go_big_skip | go_big_guard | (refine wl_boxA hst0 rfl rfl rfl ?_; intro gb w1 hA0; clear hst0) | (refine wl_alloc hA0 rfl rfl ?_; intro gz w2 hst; clear hA0) | (go_at_call 90; refine (refSplit_any nm _ (by omega)).mono ?_; rw [HX.out]; rintro _ w9 ⟨rfl, h4⟩; replace hst := St.call0 hst h4; clear h4) | (refine wl_loadE rfl rfl rfl ?_; first | refine ⟨_, Loads.atA (tabC t (.slice ar nr cr) (.slice al nl cl)) [_] hst rfl rfl, ?_⟩ | refine ⟨_, Loads.at [_] hst rfl, ?_⟩) | (go_at_call 86; refine (refCheck12_any t ar al nr cr nl cl xs _ (HT.out.R.old hst.nil) HT.out.eq (by omega) (Rd.old hst.nil HT.out.L) HT.out.ln (by omega)).mono ?_; rw [HE.out]; rintro _ w9 ⟨rfl, h4⟩; replace hst := St.call0 hst h4; clear h4) | (refine wl_build0 rfl rfl ?_) | (refine wl_storeA [] hst rfl rfl rfl rfl rfl rfl rfl ?_; intro w7 hZ; clear hst))
  have hl := Loads.atA (P := Tryz.prog) (off := 0) (T := 27) tab0 [] hZ rfl rfl
  refine bodyPost_ret (results_cellR rfl rfl rfl hl) rfl ?_
  rw [HB.out]
  exact refRet_bad hZ _
 ·have HE := hid (err_yes hok)
  have HOK := hid (okP_iff.1 hok)
  clear ht
  obtain ⟨s, hs⟩ : ∃ s, inB txg 1 2147483648 = s := ⟨_, rfl⟩
  obtain ⟨z, hz⟩ : ∃ z, roomE t nm = z := ⟨_, rfl⟩
  have he : r = opR t (if f && s then (match recAt a t.recs with
   | none => badR 6
   | some v => if z == 0 then (if decide (txg < v.b) then badR 2 else (0, putT t (snapR v nm txg))) else badR z) else badR 2) := by
   rw [hr]; unfold snapT snapB txgB; rw [hx, hs, hz]; rfl
  have HS := hid hs
  have HZ := hid hz
  clear hr hs hz hx
  cases f <;> cases s
  case true.true =>
   cases hv : recAt a t.recs with
   | none =>
    have HB := hid (show r = badR 6 by rw [he, hv]; exact opR_z hok)
    have HF := hid (found_no hv)
    clear he hok hv
    go_enter Tryz.func34, Tryz.ntmps34
    go_wp2_with (first | go_big_skip | go_big_guard | (refine wl_boxA hst0 rfl rfl rfl ?_; intro gb w1 hA0; clear hst0) | (refine wl_alloc hA0 rfl rfl ?_; intro gz w2 hst; clear hA0) | (go_at_call 90; refine (refSplit_any nm _ (by omega)).mono ?_; rw [HX.out]; rintro _ w9 ⟨rfl, h4⟩; replace hst := St.call0 hst h4; clear h4) | (refine wl_loadE rfl rfl rfl ?_; first | refine ⟨_, Loads.atA (tabC t (.slice ar nr cr) (.slice al nl cl)) [_] hst rfl rfl, ?_⟩ | refine ⟨_, Loads.at [_] hst rfl, ?_⟩) | (go_at_call 86; refine (refCheck12_any t ar al nr cr nl cl xs _ (HT.out.R.old hst.nil) HT.out.eq (by omega) (Rd.old hst.nil HT.out.L) HT.out.ln (by omega)).mono ?_; rw [HE.out]; rintro _ w9 ⟨rfl, h4⟩; replace hst := St.call0 hst h4; clear h4) | (go_at_call 42; refine (refWithin13 _ _ _ _).mono ?_; rw [HS.out]; rintro _ w9 ⟨rfl, h4⟩; replace hst := St.call0 hst h4; clear h4) | (go_at_call 91; refine (refFind_any t (.slice al nl cl) a ar nr cr xs _ (HT.out.R.old hst) (by omega)).mono ?_; rw [HT.out.eq, HF.out]; rintro _ w9 ⟨rfl, h4⟩; replace hst := St.call0 hst h4; clear h4) | (refine wl_build0 rfl rfl ?_) | (refine wl_storeA [] hst rfl rfl rfl rfl rfl rfl rfl ?_; intro w7 hZ; clear hst))
    have hl := Loads.atA (P := Tryz.prog) (off := 0) (T := 27) tab0 [] hZ rfl rfl
    refine bodyPost_ret (results_cellR rfl rfl rfl hl) rfl ?_
    rw [HB.out]
    exact refRet_bad hZ _
   | some v =>
    rw [hv] at he
    obtain ⟨j, sv, lb, lo, hf, hx, hlt, har, hin, hrx⟩ := found_at HT.out hv
    subst har
    have HF := hid hf
    have HRX := hid hrx
    have HIX := hid hin
    have HLL := hid hin.L
    have HL44 := hid (cellsR_len hin.L)
    have H35 := hid (PV.len (p := v.pv sv) hin.L)
    have HVL := hid (birth_le hok (List.mem_of_find?_eq_some hv)).1
    clear hf hx hrx hin
    cases hzz : (z == 0)
    ·have dz : (z != 0) = true := by unfold bne; rw [hzz]; rfl
     have HB := hid (show r = badR z by rw [he]; show opR t (if z == 0 then _ else badR z) = _; rw [hzz]; exact opR_z hok)
     clear he hok hv hzz
     go_enter Tryz.func34, Tryz.ntmps34
     go_wp2_with (first | go_big_skip | go_big_guard | (refine wl_boxA hst0 rfl rfl rfl ?_; intro gb w1 hA0; clear hst0) | (refine wl_alloc hA0 rfl rfl ?_; intro gz w2 hst; clear hA0) | (go_at_call 90; refine (refSplit_any nm _ (by omega)).mono ?_; rw [HX.out]; rintro _ w9 ⟨rfl, h4⟩; replace hst := St.call0 hst h4; clear h4) | (refine wl_loadE rfl rfl rfl ?_; first | refine ⟨_, Loads.atA (tabC t (.slice (some ⟨lb, lo, none⟩) nr cr) (.slice al nl cl)) [_] hst rfl rfl, ?_⟩ | refine ⟨_, Loads.at [_] hst rfl, ?_⟩ | refine ⟨_, Loads.oldA (cs := cellsR (sv, v)) hst HL44.out HRX.out, ?_⟩ | refine ⟨.int .i64 v.b, Loads.at [] hst4 rfl, ?_⟩ | refine ⟨.int .i64 v.size, Loads.at [] hst4 rfl, ?_⟩ | refine ⟨.int .i64 v.id, Loads.at [] hst4 rfl, ?_⟩ | refine ⟨_, Loads.atA (tabC t (.slice (some ⟨lb, lo, none⟩) nr cr) (.slice al nl cl)) [_, _] hst4 rfl rfl, ?_⟩ | refine ⟨_, Loads.atA (PV.cells (v.pv sv)) [] hst4 H35.out (cellsR_root (x := (sv, v)) HLL.out), ?_⟩) | (go_at_call 86; refine (refCheck12_any t (some ⟨lb, lo, none⟩) al nr cr nl cl xs _ (HT.out.R.old hst.nil) HT.out.eq (by omega) (Rd.old hst.nil HT.out.L) HT.out.ln (by omega)).mono ?_; rw [HE.out]; rintro _ w9 ⟨rfl, h4⟩; replace hst := St.call0 hst h4; clear h4) | (go_at_call 42; refine (refWithin13 _ _ _ _).mono ?_; rw [HS.out]; rintro _ w9 ⟨rfl, h4⟩; replace hst := St.call0 hst h4; clear h4) | (go_at_call 91; refine (refFind_any t (.slice al nl cl) a (some ⟨lb, lo, none⟩) nr cr xs _ (HT.out.R.old hst) (by omega)).mono ?_; rw [HT.out.eq, HF.out]; rintro _ w9 ⟨rfl, h4⟩; replace hst := St.call0 hst h4; clear h4) | (go_at_call 88; refine (refRoom13 t (some ⟨lb, lo, none⟩) al nr cr nl cl xs _ nm (HT.out.old hst.nil)).mono ?_; rw [HZ.out]; rintro _ w9 ⟨rfl, h4⟩; replace hst := St.call0 hst h4; clear h4) | (refine wl_build0 rfl rfl ?_) | (refine wl_storeA [] hst rfl rfl rfl rfl rfl rfl rfl ?_; intro w7 hZ; clear hst))
     have hl := Loads.atA (P := Tryz.prog) (off := 0) (T := 27) tab0 [] hZ rfl rfl
     refine bodyPost_ret (results_cellR rfl rfl rfl hl) rfl ?_
     rw [HB.out]
     exact refRet_bad hZ _
    ·have dz : (z != 0) = false := by unfold bne; rw [hzz]; rfl
     by_cases hb : txg < v.b
     ·have db : decide (txg < v.b) = true := decide_eq_true hb
      have HB := hid (show r = badR 2 by rw [he]; show opR t (if z == 0 then (if decide (txg < v.b) then _ else _) else badR z) = _; rw [hzz, db]; exact opR_z hok)
      clear he hok hv hzz hb
      go_enter Tryz.func34, Tryz.ntmps34
      go_wp2_with (first | go_big_skip | go_big_guard | (refine wl_boxA hst0 rfl rfl rfl ?_; intro gb w1 hA0; clear hst0) | (refine wl_alloc hA0 rfl rfl ?_; intro gz w2 hst; clear hA0) | (go_at_call 90; refine (refSplit_any nm _ (by omega)).mono ?_; rw [HX.out]; rintro _ w9 ⟨rfl, h4⟩; replace hst := St.call0 hst h4; clear h4) | (refine wl_loadE rfl rfl rfl ?_; first | refine ⟨_, Loads.atA (tabC t (.slice (some ⟨lb, lo, none⟩) nr cr) (.slice al nl cl)) [_] hst rfl rfl, ?_⟩ | refine ⟨_, Loads.at [_] hst rfl, ?_⟩ | refine ⟨_, Loads.oldA (cs := cellsR (sv, v)) hst HL44.out HRX.out, ?_⟩ | refine ⟨.int .i64 v.b, Loads.at [] hst4 rfl, ?_⟩ | refine ⟨.int .i64 v.size, Loads.at [] hst4 rfl, ?_⟩ | refine ⟨.int .i64 v.id, Loads.at [] hst4 rfl, ?_⟩ | refine ⟨_, Loads.atA (tabC t (.slice (some ⟨lb, lo, none⟩) nr cr) (.slice al nl cl)) [_, _] hst4 rfl rfl, ?_⟩ | refine ⟨_, Loads.atA (PV.cells (v.pv sv)) [] hst4 H35.out (cellsR_root (x := (sv, v)) HLL.out), ?_⟩) | (go_at_call 86; refine (refCheck12_any t (some ⟨lb, lo, none⟩) al nr cr nl cl xs _ (HT.out.R.old hst.nil) HT.out.eq (by omega) (Rd.old hst.nil HT.out.L) HT.out.ln (by omega)).mono ?_; rw [HE.out]; rintro _ w9 ⟨rfl, h4⟩; replace hst := St.call0 hst h4; clear h4) | (go_at_call 42; refine (refWithin13 _ _ _ _).mono ?_; rw [HS.out]; rintro _ w9 ⟨rfl, h4⟩; replace hst := St.call0 hst h4; clear h4) | (go_at_call 91; refine (refFind_any t (.slice al nl cl) a (some ⟨lb, lo, none⟩) nr cr xs _ (HT.out.R.old hst) (by omega)).mono ?_; rw [HT.out.eq, HF.out]; rintro _ w9 ⟨rfl, h4⟩; replace hst := St.call0 hst h4; clear h4) | (go_at_call 88; refine (refRoom13 t (some ⟨lb, lo, none⟩) al nr cr nl cl xs _ nm (HT.out.old hst.nil)).mono ?_; rw [HZ.out]; rintro _ w9 ⟨rfl, h4⟩; replace hst := St.call0 hst h4; clear h4) | (refine wl_index rfl rfl rfl rfl hlt ?_) | (refine wl_alloc hst rfl rfl ?_; intro g9 w3 hst3; clear hst) | (refine wl_storeA [] hst3 rfl rfl rfl rfl (by exact HL44.out) (cellsR_ones HIX.out) rfl ?_; intro w4 hst4; clear hst3) | (refine wl_build0 rfl rfl ?_) | (refine wl_storeA [_] hst4 rfl rfl rfl rfl rfl rfl rfl ?_; intro w7 hZ; clear hst4))
      have hl := Loads.atA (P := Tryz.prog) (off := 0) (T := 27) tab0 [_] hZ rfl rfl
      refine bodyPost_ret (results_cellR rfl rfl rfl hl) rfl ?_
      rw [HB.out]
      exact refRet_bad hZ _
     ·have db : decide (txg < v.b) = false := decide_eq_false hb
      have HB := hid (show r = (0, putT t (snapR v nm txg)) by rw [he]; show opR t (if z == 0 then (if decide (txg < v.b) then _ else _) else badR z) = _; rw [hzz, db]; exact opR_0 hok)
      clear he hok hv hzz hb
      go_enter Tryz.func34, Tryz.ntmps34
      go_wp2_with (first | go_big_skip | go_big_guard | (refine wl_boxA hst0 rfl rfl rfl ?_; intro gb w1 hA0; clear hst0) | (refine wl_alloc hA0 rfl rfl ?_; intro gz w2 hst; clear hA0) | (go_at_call 90; refine (refSplit_any nm _ (by omega)).mono ?_; rw [HX.out]; rintro _ w9 ⟨rfl, h4⟩; replace hst := St.call0 hst h4; clear h4) | (refine wl_loadE rfl rfl rfl ?_; first | refine ⟨_, Loads.atA (tabC t (.slice (some ⟨lb, lo, none⟩) nr cr) (.slice al nl cl)) [_] hst rfl rfl, ?_⟩ | refine ⟨_, Loads.at [_] hst rfl, ?_⟩ | refine ⟨_, Loads.oldA (cs := cellsR (sv, v)) hst HL44.out HRX.out, ?_⟩ | refine ⟨.int .i64 v.b, Loads.at [] hst4 rfl, ?_⟩ | refine ⟨.int .i64 v.size, Loads.at [] hst4 rfl, ?_⟩ | refine ⟨.int .i64 v.id, Loads.at [] hst4 rfl, ?_⟩ | refine ⟨_, Loads.atA (tabC t (.slice (some ⟨lb, lo, none⟩) nr cr) (.slice al nl cl)) [_, _] hst4 rfl rfl, ?_⟩ | refine ⟨_, Loads.atA (PV.cells (v.pv sv)) [] hst4 H35.out (cellsR_root (x := (sv, v)) HLL.out), ?_⟩) | (go_at_call 86; refine (refCheck12_any t (some ⟨lb, lo, none⟩) al nr cr nl cl xs _ (HT.out.R.old hst.nil) HT.out.eq (by omega) (Rd.old hst.nil HT.out.L) HT.out.ln (by omega)).mono ?_; rw [HE.out]; rintro _ w9 ⟨rfl, h4⟩; replace hst := St.call0 hst h4; clear h4) | (go_at_call 42; refine (refWithin13 _ _ _ _).mono ?_; rw [HS.out]; rintro _ w9 ⟨rfl, h4⟩; replace hst := St.call0 hst h4; clear h4) | (go_at_call 91; refine (refFind_any t (.slice al nl cl) a (some ⟨lb, lo, none⟩) nr cr xs _ (HT.out.R.old hst) (by omega)).mono ?_; rw [HT.out.eq, HF.out]; rintro _ w9 ⟨rfl, h4⟩; replace hst := St.call0 hst h4; clear h4) | (go_at_call 88; refine (refRoom13 t (some ⟨lb, lo, none⟩) al nr cr nl cl xs _ nm (HT.out.old hst.nil)).mono ?_; rw [HZ.out]; rintro _ w9 ⟨rfl, h4⟩; replace hst := St.call0 hst h4; clear h4) | (refine wl_index rfl rfl rfl rfl hlt ?_) | (refine wl_alloc hst rfl rfl ?_; intro g9 w3 hst3; clear hst) | (refine wl_storeA [] hst3 rfl rfl rfl rfl (by exact HL44.out) (cellsR_ones HIX.out) rfl ?_; intro w4 hst4; clear hst3) | (refine wl_buildX (cs := cellsR ((sv : Value), snapR v nm txg)) [(1, .string ⟨nm.toArray⟩), (2, .int .i64 2), (3, .int .i64 v.size), (4, .agg (PV.cells ((v.pv undef).re sv)).toArray), (5, .int .i64 txg), (6, .int .i64 v.id)] rfl rfl (by exact rfl) (bldSnap HLL.out _ _ _) ?_) | (go_at_call 89; refine (refPut13 t (some ⟨lb, lo, none⟩) al nr cr nl cl xs _ ((sv : Value), snapR v nm txg) (HT.out.old hst4.nil) HOK.out ⟨(HIX.out.old hst4).1, by show nm.length ≤ _; omega⟩ (by have := HVL.out; show v.l.length ≤ _; omega) (by show nm.length ≤ _; omega)).mono ?_; rintro _ w9 ⟨a9, l9, n9, c9, m9, d9, xs9, L9, rfl, hin9, h4⟩; have hP := St.call hst4 h4; have HIN := hid hin9; clear h4 hin9 hst4) | (refine wl_storeA (L9 ++ [_]) (Hp.St.shift1 hP) rfl rfl rfl rfl (vs := tabC (putT t (snapR v nm txg)) (.slice a9 n9 c9) (.slice l9 m9 d9)) rfl rfl rfl ?_; intro w7 hZ; clear hP))
      have hl := Loads.atA (P := Tryz.prog) (off := 0) (T := 27) (tabC (putT t (snapR v nm txg)) (.slice a9 n9 c9) (.slice l9 m9 d9)) (L9 ++ [_]) hZ rfl rfl
      refine bodyPost_ret (results_cellR rfl rfl rfl hl) rfl ?_
      rw [HB.out]
      exact ⟨a9, l9, n9, c9, m9, d9, xs9, _, rfl, fun w0 w8 M L' hs hsub => HIN.out w0 w8 M L' hs (fun y hy => hsub y (List.mem_append_left _ (List.mem_append_left _ hy))), hZ⟩
  all_goals
   have HB := hid (show r = badR 2 by rw [he]; exact opR_z hok)
   clear he hok
   go_enter Tryz.func34, Tryz.ntmps34
   go_wp2_with (first | go_big_skip | go_big_guard | (refine wl_boxA hst0 rfl rfl rfl ?_; intro gb w1 hA0; clear hst0) | (refine wl_alloc hA0 rfl rfl ?_; intro gz w2 hst; clear hA0) | (go_at_call 90; refine (refSplit_any nm _ (by omega)).mono ?_; rw [HX.out]; rintro _ w9 ⟨rfl, h4⟩; replace hst := St.call0 hst h4; clear h4) | (refine wl_loadE rfl rfl rfl ?_; first | refine ⟨_, Loads.atA (tabC t (.slice ar nr cr) (.slice al nl cl)) [_] hst rfl rfl, ?_⟩ | refine ⟨_, Loads.at [_] hst rfl, ?_⟩) | (go_at_call 86; refine (refCheck12_any t ar al nr cr nl cl xs _ (HT.out.R.old hst.nil) HT.out.eq (by omega) (Rd.old hst.nil HT.out.L) HT.out.ln (by omega)).mono ?_; rw [HE.out]; rintro _ w9 ⟨rfl, h4⟩; replace hst := St.call0 hst h4; clear h4) | (go_at_call 42; refine (refWithin13 _ _ _ _).mono ?_; rw [HS.out]; rintro _ w9 ⟨rfl, h4⟩; replace hst := St.call0 hst h4; clear h4) | (refine wl_build0 rfl rfl ?_) | (refine wl_storeA [] hst rfl rfl rfl rfl rfl rfl rfl ?_; intro w7 hZ; clear hst))
   have hl := Loads.atA (P := Tryz.prog) (off := 0) (T := 27) tab0 [] hZ rfl rfl
   refine bodyPost_ret (results_cellR rfl rfl rfl hl) rfl ?_
   rw [HB.out]
   exact refRet_bad hZ _
theorem refClone13 (t : TC) (ar al : Option Addr) (nr cr nl cl : Nat) (xs : List (Value × RC)) (w : World) (ht : TabIn w t ar nr cr al nl cl xs) (sp nm : List UInt8) (txg : Int) (hsp : sp.length ≤ 1000000) (hnm : nm.length ≤ 1000000) :
  Calls Tryz.prog 35 #[.agg (tabC t (.slice ar nr cr) (.slice al nl cl)).toArray, .string ⟨sp.toArray⟩, .string ⟨nm.toArray⟩, .int .i64 txg] w (RefRet (opR t (cloneT t sp nm txg)) w) := by
 have hst0 := St.refl w
 have HT := hid ht
 have b1 := ht.br
 have b2 := ht.bl
 obtain ⟨r, hr⟩ : ∃ r, r = opR t (cloneT t sp nm txg) := ⟨_, rfl⟩
 rw [← hr]
 cases hok : t.ok
 ·have HE := hid (err_no hok)
  have HB := hid (show r = badR 2 by rw [hr]; exact opR_no hok)
  clear ht hr hok
  go_enter Tryz.func35, Tryz.ntmps35
  go_wp2_with (first | go_big_skip | go_big_guard | (refine wl_boxA hst0 rfl rfl rfl ?_; intro gb w1 hA0; clear hst0) | (refine wl_alloc hA0 rfl rfl ?_; intro gz w2 hst; clear hA0) | (refine wl_loadE rfl rfl rfl ?_; first | refine ⟨_, Loads.atA (tabC t (.slice ar nr cr) (.slice al nl cl)) [_] hst rfl rfl, ?_⟩ | refine ⟨_, Loads.at [_] hst rfl, ?_⟩) | (go_at_call 86; refine (refCheck12_any t ar al nr cr nl cl xs _ (HT.out.R.old hst.nil) HT.out.eq (by omega) (Rd.old hst.nil HT.out.L) HT.out.ln (by omega)).mono ?_; rw [HE.out]; rintro _ w9 ⟨rfl, h4⟩; replace hst := St.call0 hst h4; clear h4) | (refine wl_build0 rfl rfl ?_) | (refine wl_storeA [] hst rfl rfl rfl rfl rfl rfl rfl ?_; intro w7 hZ; clear hst))
  have hl := Loads.atA (P := Tryz.prog) (off := 0) (T := 27) tab0 [] hZ rfl rfl
  refine bodyPost_ret (results_cellR rfl rfl rfl hl) rfl ?_
  rw [HB.out]
  exact refRet_bad hZ _
 ·have HE := hid (err_yes hok)
  have HOK := hid (okP_iff.1 hok)
  clear ht
  obtain ⟨p, hp⟩ : ∃ p, snapB sp = p := ⟨_, rfl⟩
  obtain ⟨q, hq⟩ : ∃ q, partB nm = q := ⟨_, rfl⟩
  obtain ⟨s, hs⟩ : ∃ s, inB txg 1 2147483648 = s := ⟨_, rfl⟩
  obtain ⟨z, hz⟩ : ∃ z, roomE t nm = z := ⟨_, rfl⟩
  have he : r = opR t (if (p && q) && s then (match recAt sp t.recs with
   | none => badR 6
   | some v => if z == 0 then (0, putT t (cloneR v nm txg)) else badR z) else badR 2) := by
   rw [hr]; unfold cloneT txgB; rw [hp, hq, hs, hz]; rfl
  have HP := hid hp
  have HQ := hid hq
  have HS := hid hs
  have HZ := hid hz
  clear hr hp hq hs hz
  cases p <;> cases q <;> cases s
  case true.true.true =>
   cases hv : recAt sp t.recs with
   | none =>
    have HB := hid (show r = badR 6 by rw [he, hv]; exact opR_z hok)
    have HF := hid (found_no hv)
    clear he hok hv
    go_enter Tryz.func35, Tryz.ntmps35
    go_wp2_with (first | go_big_skip | go_big_guard | (refine wl_boxA hst0 rfl rfl rfl ?_; intro gb w1 hA0; clear hst0) | (refine wl_alloc hA0 rfl rfl ?_; intro gz w2 hst; clear hA0) | (refine wl_loadE rfl rfl rfl ?_; first | refine ⟨_, Loads.atA (tabC t (.slice ar nr cr) (.slice al nl cl)) [_] hst rfl rfl, ?_⟩ | refine ⟨_, Loads.at [_] hst rfl, ?_⟩) | (go_at_call 86; refine (refCheck12_any t ar al nr cr nl cl xs _ (HT.out.R.old hst.nil) HT.out.eq (by omega) (Rd.old hst.nil HT.out.L) HT.out.ln (by omega)).mono ?_; rw [HE.out]; rintro _ w9 ⟨rfl, h4⟩; replace hst := St.call0 hst h4; clear h4) | (go_at_call 92; refine (refSnap_any sp _ (by omega)).mono ?_; rw [HP.out]; rintro _ w9 ⟨rfl, h4⟩; replace hst := St.call0 hst h4; clear h4) | (go_at_call 87; refine (refVolume_any nm _ (by omega)).mono ?_; rw [HQ.out]; rintro _ w9 ⟨rfl, h4⟩; replace hst := St.call0 hst h4; clear h4) | (go_at_call 42; refine (refWithin13 _ _ _ _).mono ?_; rw [HS.out]; rintro _ w9 ⟨rfl, h4⟩; replace hst := St.call0 hst h4; clear h4) | (go_at_call 91; refine (refFind_any t (.slice al nl cl) sp ar nr cr xs _ (HT.out.R.old hst) (by omega)).mono ?_; rw [HT.out.eq, HF.out]; rintro _ w9 ⟨rfl, h4⟩; replace hst := St.call0 hst h4; clear h4) | (refine wl_build0 rfl rfl ?_) | (refine wl_storeA [] hst rfl rfl rfl rfl rfl rfl rfl ?_; intro w7 hZ; clear hst))
    have hl := Loads.atA (P := Tryz.prog) (off := 0) (T := 27) tab0 [] hZ rfl rfl
    refine bodyPost_ret (results_cellR rfl rfl rfl hl) rfl ?_
    rw [HB.out]
    exact refRet_bad hZ _
   | some v =>
    rw [hv] at he
    obtain ⟨j, sv, lb, lo, hf, hx, hlt, har, hin, hrx⟩ := found_at HT.out hv
    subst har
    have HF := hid hf
    have HRX := hid hrx
    have HIX := hid hin
    have HLL := hid hin.L
    have HL44 := hid (cellsR_len hin.L)
    have H35 := hid (PV.len (p := v.pv sv) hin.L)
    have HVL := hid (birth_le hok (List.mem_of_find?_eq_some hv)).1
    clear hf hx hrx hin
    cases hzz : (z == 0)
    ·have dz : (z != 0) = true := by unfold bne; rw [hzz]; rfl
     have HB := hid (show r = badR z by rw [he]; show opR t (if z == 0 then _ else badR z) = _; rw [hzz]; exact opR_z hok)
     clear he hok hv hzz
     go_enter Tryz.func35, Tryz.ntmps35
     go_wp2_with (first | go_big_skip | go_big_guard | (refine wl_boxA hst0 rfl rfl rfl ?_; intro gb w1 hA0; clear hst0) | (refine wl_alloc hA0 rfl rfl ?_; intro gz w2 hst; clear hA0) | (refine wl_loadE rfl rfl rfl ?_; first | refine ⟨_, Loads.atA (tabC t (.slice (some ⟨lb, lo, none⟩) nr cr) (.slice al nl cl)) [_] hst rfl rfl, ?_⟩ | refine ⟨_, Loads.at [_] hst rfl, ?_⟩ | refine ⟨_, Loads.oldA (cs := cellsR (sv, v)) hst HL44.out HRX.out, ?_⟩ | refine ⟨.int .i64 v.b, Loads.at [] hst4 rfl, ?_⟩ | refine ⟨.int .i64 v.size, Loads.at [] hst4 rfl, ?_⟩ | refine ⟨.int .i64 v.id, Loads.at [] hst4 rfl, ?_⟩ | refine ⟨_, Loads.atA (tabC t (.slice (some ⟨lb, lo, none⟩) nr cr) (.slice al nl cl)) [_, _] hst4 rfl rfl, ?_⟩ | refine ⟨_, Loads.atA (PV.cells (v.pv sv)) [] hst4 H35.out (cellsR_root (x := (sv, v)) HLL.out), ?_⟩) | (go_at_call 86; refine (refCheck12_any t (some ⟨lb, lo, none⟩) al nr cr nl cl xs _ (HT.out.R.old hst.nil) HT.out.eq (by omega) (Rd.old hst.nil HT.out.L) HT.out.ln (by omega)).mono ?_; rw [HE.out]; rintro _ w9 ⟨rfl, h4⟩; replace hst := St.call0 hst h4; clear h4) | (go_at_call 92; refine (refSnap_any sp _ (by omega)).mono ?_; rw [HP.out]; rintro _ w9 ⟨rfl, h4⟩; replace hst := St.call0 hst h4; clear h4) | (go_at_call 87; refine (refVolume_any nm _ (by omega)).mono ?_; rw [HQ.out]; rintro _ w9 ⟨rfl, h4⟩; replace hst := St.call0 hst h4; clear h4) | (go_at_call 42; refine (refWithin13 _ _ _ _).mono ?_; rw [HS.out]; rintro _ w9 ⟨rfl, h4⟩; replace hst := St.call0 hst h4; clear h4) | (go_at_call 91; refine (refFind_any t (.slice al nl cl) sp (some ⟨lb, lo, none⟩) nr cr xs _ (HT.out.R.old hst) (by omega)).mono ?_; rw [HT.out.eq, HF.out]; rintro _ w9 ⟨rfl, h4⟩; replace hst := St.call0 hst h4; clear h4) | (go_at_call 88; refine (refRoom13 t (some ⟨lb, lo, none⟩) al nr cr nl cl xs _ nm (HT.out.old hst.nil)).mono ?_; rw [HZ.out]; rintro _ w9 ⟨rfl, h4⟩; replace hst := St.call0 hst h4; clear h4) | (refine wl_build0 rfl rfl ?_) | (refine wl_storeA [] hst rfl rfl rfl rfl rfl rfl rfl ?_; intro w7 hZ; clear hst))
     have hl := Loads.atA (P := Tryz.prog) (off := 0) (T := 27) tab0 [] hZ rfl rfl
     refine bodyPost_ret (results_cellR rfl rfl rfl hl) rfl ?_
     rw [HB.out]
     exact refRet_bad hZ _
    ·have dz : (z != 0) = false := by unfold bne; rw [hzz]; rfl
     have HB := hid (show r = (0, putT t (cloneR v nm txg)) by rw [he]; show opR t (if z == 0 then _ else badR z) = _; rw [hzz]; exact opR_0 hok)
     clear he hok hv hzz
     go_enter Tryz.func35, Tryz.ntmps35
     go_wp2_with (first | go_big_skip | go_big_guard | (refine wl_boxA hst0 rfl rfl rfl ?_; intro gb w1 hA0; clear hst0) | (refine wl_alloc hA0 rfl rfl ?_; intro gz w2 hst; clear hA0) | (refine wl_loadE rfl rfl rfl ?_; first | refine ⟨_, Loads.atA (tabC t (.slice (some ⟨lb, lo, none⟩) nr cr) (.slice al nl cl)) [_] hst rfl rfl, ?_⟩ | refine ⟨_, Loads.at [_] hst rfl, ?_⟩ | refine ⟨_, Loads.oldA (cs := cellsR (sv, v)) hst HL44.out HRX.out, ?_⟩ | refine ⟨.int .i64 v.b, Loads.at [] hst4 rfl, ?_⟩ | refine ⟨.int .i64 v.size, Loads.at [] hst4 rfl, ?_⟩ | refine ⟨.int .i64 v.id, Loads.at [] hst4 rfl, ?_⟩ | refine ⟨_, Loads.atA (tabC t (.slice (some ⟨lb, lo, none⟩) nr cr) (.slice al nl cl)) [_, _] hst4 rfl rfl, ?_⟩ | refine ⟨_, Loads.atA (PV.cells (v.pv sv)) [] hst4 H35.out (cellsR_root (x := (sv, v)) HLL.out), ?_⟩) | (go_at_call 86; refine (refCheck12_any t (some ⟨lb, lo, none⟩) al nr cr nl cl xs _ (HT.out.R.old hst.nil) HT.out.eq (by omega) (Rd.old hst.nil HT.out.L) HT.out.ln (by omega)).mono ?_; rw [HE.out]; rintro _ w9 ⟨rfl, h4⟩; replace hst := St.call0 hst h4; clear h4) | (go_at_call 92; refine (refSnap_any sp _ (by omega)).mono ?_; rw [HP.out]; rintro _ w9 ⟨rfl, h4⟩; replace hst := St.call0 hst h4; clear h4) | (go_at_call 87; refine (refVolume_any nm _ (by omega)).mono ?_; rw [HQ.out]; rintro _ w9 ⟨rfl, h4⟩; replace hst := St.call0 hst h4; clear h4) | (go_at_call 42; refine (refWithin13 _ _ _ _).mono ?_; rw [HS.out]; rintro _ w9 ⟨rfl, h4⟩; replace hst := St.call0 hst h4; clear h4) | (go_at_call 91; refine (refFind_any t (.slice al nl cl) sp (some ⟨lb, lo, none⟩) nr cr xs _ (HT.out.R.old hst) (by omega)).mono ?_; rw [HT.out.eq, HF.out]; rintro _ w9 ⟨rfl, h4⟩; replace hst := St.call0 hst h4; clear h4) | (go_at_call 88; refine (refRoom13 t (some ⟨lb, lo, none⟩) al nr cr nl cl xs _ nm (HT.out.old hst.nil)).mono ?_; rw [HZ.out]; rintro _ w9 ⟨rfl, h4⟩; replace hst := St.call0 hst h4; clear h4) | (refine wl_index rfl rfl rfl rfl hlt ?_) | (refine wl_alloc hst rfl rfl ?_; intro g9 w3 hst3; clear hst) | (refine wl_storeA [] hst3 rfl rfl rfl rfl (by exact HL44.out) (cellsR_ones HIX.out) rfl ?_; intro w4 hst4; clear hst3) | (refine wl_buildX (cs := cellsR ((sv : Value), cloneR v nm txg)) [(1, .string ⟨nm.toArray⟩), (2, .int .i64 1), (3, .int .i64 v.size), (4, .agg (PV.cells ((v.pv undef).re sv)).toArray), (5, .int .i64 txg), (7, .int .i64 v.id)] rfl rfl (by exact rfl) (bldClone HLL.out _ _ _) ?_) | (go_at_call 89; refine (refPut13 t (some ⟨lb, lo, none⟩) al nr cr nl cl xs _ ((sv : Value), cloneR v nm txg) (HT.out.old hst4.nil) HOK.out ⟨(HIX.out.old hst4).1, by show nm.length ≤ _; omega⟩ (by have := HVL.out; show v.l.length ≤ _; omega) (by show nm.length ≤ _; omega)).mono ?_; rintro _ w9 ⟨a9, l9, n9, c9, m9, d9, xs9, L9, rfl, hin9, h4⟩; have hP := St.call hst4 h4; have HIN := hid hin9; clear h4 hin9 hst4) | (refine wl_storeA (L9 ++ [_]) (Hp.St.shift1 hP) rfl rfl rfl rfl (vs := tabC (putT t (cloneR v nm txg)) (.slice a9 n9 c9) (.slice l9 m9 d9)) rfl rfl rfl ?_; intro w7 hZ; clear hP))
     have hl := Loads.atA (P := Tryz.prog) (off := 0) (T := 27) (tabC (putT t (cloneR v nm txg)) (.slice a9 n9 c9) (.slice l9 m9 d9)) (L9 ++ [_]) hZ rfl rfl
     refine bodyPost_ret (results_cellR rfl rfl rfl hl) rfl ?_
     rw [HB.out]
     exact ⟨a9, l9, n9, c9, m9, d9, xs9, _, rfl, fun w0 w8 M L' hs hsub => HIN.out w0 w8 M L' hs (fun y hy => hsub y (List.mem_append_left _ (List.mem_append_left _ hy))), hZ⟩
  all_goals
   have HB := hid (show r = badR 2 by rw [he]; exact opR_z hok)
   clear he hok
   go_enter Tryz.func35, Tryz.ntmps35
   go_wp2_with (first | go_big_skip | go_big_guard | (refine wl_boxA hst0 rfl rfl rfl ?_; intro gb w1 hA0; clear hst0) | (refine wl_alloc hA0 rfl rfl ?_; intro gz w2 hst; clear hA0) | (refine wl_loadE rfl rfl rfl ?_; first | refine ⟨_, Loads.atA (tabC t (.slice ar nr cr) (.slice al nl cl)) [_] hst rfl rfl, ?_⟩ | refine ⟨_, Loads.at [_] hst rfl, ?_⟩) | (go_at_call 86; refine (refCheck12_any t ar al nr cr nl cl xs _ (HT.out.R.old hst.nil) HT.out.eq (by omega) (Rd.old hst.nil HT.out.L) HT.out.ln (by omega)).mono ?_; rw [HE.out]; rintro _ w9 ⟨rfl, h4⟩; replace hst := St.call0 hst h4; clear h4) | (go_at_call 92; refine (refSnap_any sp _ (by omega)).mono ?_; rw [HP.out]; rintro _ w9 ⟨rfl, h4⟩; replace hst := St.call0 hst h4; clear h4) | (go_at_call 87; refine (refVolume_any nm _ (by omega)).mono ?_; rw [HQ.out]; rintro _ w9 ⟨rfl, h4⟩; replace hst := St.call0 hst h4; clear h4) | (go_at_call 42; refine (refWithin13 _ _ _ _).mono ?_; rw [HS.out]; rintro _ w9 ⟨rfl, h4⟩; replace hst := St.call0 hst h4; clear h4) | (refine wl_build0 rfl rfl ?_) | (refine wl_storeA [] hst rfl rfl rfl rfl rfl rfl rfl ?_; intro w7 hZ; clear hst))
   have hl := Loads.atA (P := Tryz.prog) (off := 0) (T := 27) tab0 [] hZ rfl rfl
   refine bodyPost_ret (results_cellR rfl rfl rfl hl) rfl ?_
   rw [HB.out]
   exact refRet_bad hZ _
end Go.Proofs.YtifajcblbedcoaaGreat
namespace Go.Proofs.YtifajcblbedcoaaGreat
set_option linter.unusedVariables false
set_option linter.unusedSimpArgs false
open Go.RowKit Hp
attribute [local irreducible] Go.Calls Go.wpList
set_option maxRecDepth 100000
set_option maxHeartbeats 8000000
attribute [local go_sem ↓] heldInt heldInts heldRecs heldRec heldStr heldTab heldPtr heldFn
def newB (s x : RC) : Bool := (x.kind == 2) && ((x.own == s.own) && newerB x s)
theorem new_any {t : TC} (h : OkP t) {s : RC} (hs : s ∈ t.recs) (hk : s.kind = 2) : t.recs.any (newB s) = t.recs.any fun x => (x.own == s.own) && newerB x s := by
 have key : ∀ x ∈ t.recs, newB s x = ((x.own == s.own) && newerB x s) := fun x hx => by
  unfold newB
  by_cases e : x.kind = 2
  ·rw [show (x.kind == 2) = true by rw [e]; rfl, Bool.true_and]
  ·rw [show (x.kind == 2) = false by rw [beq_eq_false_iff_ne]; exact e, Bool.false_and]
   have h1 : x.own = 0 := by
    have hb := (alone_in (h.alone x hx)).2.2.2
    unfold RC.kindB at hb
    by_cases e1 : x.kind = 1
    ·rw [if_pos (by simpa using e1)] at hb
     simp only [Bool.and_eq_true] at hb
     simpa using hb.1.1.1.2
    ·rw [if_neg (by simpa using e1), if_neg (by simpa using e)] at hb
     cases hb
   have h2 : 1 ≤ s.own := by
    have hb := (alone_in (h.alone s hs)).2.2.2
    unfold RC.kindB at hb
    rw [if_neg (by rw [hk]; decide), if_pos (by rw [hk]; rfl)] at hb
    simp only [Bool.and_eq_true] at hb
    exact (inB_iff.1 hb.1.1.1.1.2).1
   rw [show (x.own == s.own) = false by rw [beq_eq_false_iff_ne]; omega]
   rfl
 generalize t.recs = l at key
 induction l with
 | nil => rfl
 | cons a l ih => rw [List.any_cons, List.any_cons, key a (.head _), ih (fun x hx => key x (.tail _ hx))]
theorem any_map_no {xs : List (Value × RC)} {p : RC → Bool} (h : ∀ (j : Nat) (x : Value × RC), j < xs.length → xs[j]? = some x → p x.2 = false) : (xs.map (·.2)).any p = false := by
 rw [List.any_eq_false]
 intro r hr
 obtain ⟨x, hx, rfl⟩ := List.mem_map.1 hr
 obtain ⟨j, hj⟩ := List.getElem?_of_mem hx
 rw [h j x (List.getElem?_eq_some_iff.1 hj).1 hj]
 decide
theorem any_map_yes {xs : List (Value × RC)} {p : RC → Bool} {j : Nat} {x : Value × RC} (hx : xs[j]? = some x) (h : p x.2 = true) : (xs.map (·.2)).any p = true := by
 rw [List.any_eq_true]
 exact ⟨x.2, List.mem_map_of_mem (List.mem_of_getElem? hx), h⟩
theorem refNewest13 (t : TC) (ar al : Option Addr) (nr cr nl cl : Nat) (xs : List (Value × RC)) (w : World) (ht : TabIn w t ar nr cr al nl cl xs) (y : Value × RC) (hy : RC.In w y) :
  Calls Tryz.prog 93 #[.agg (tabC t (.slice ar nr cr) (.slice al nl cl)).toArray, .agg (cellsR y).toArray] w fun e w' => e = .returned (.bool (!(t.recs.any (newB y.2)))) ∧ St w [] w' [] := by
 have hst0 := St.refl w
 have HT := hid ht
 have hb := ht.br
 have HLY := hid hy.L
 obtain ⟨E, hE⟩ : ∃ E, E = !(t.recs.any (newB y.2)) := ⟨_, rfl⟩
 rw [← hE]
 have HEE := hid (show E = !((xs.map (·.2)).any (newB y.2)) by rw [hE, ht.eq])
 clear ht hE hy
 go_enter Tryz.func93, Tryz.ntmps93
 go_wp2_with (first | go_big_skip | go_big_guard | (refine wl_boxA hst0 rfl rfl rfl ?_; intro g2 w1 hA0; clear hst0) | (refine wl_boxA hA0 rfl rfl rfl ?_; intro g3 w2 hst; clear hA0))
 go_loopw [5] (fun i wr => ∃ j : Nat, j ≤ nr ∧ i = .int .i64 (j : Int) ∧ St w [] wr [.blk g3 53 (cellsR y), .blk g2 27 (tabC t (.slice ar nr cr) (.slice al nl cl))] ∧ Hid (∀ (i : Nat) (x : Value × RC), i < j → xs[i]? = some x → newB y.2 x.2 = false)) (fun i _ => nr - (intOf i).toNat)
 case atStart => exact ⟨0, Nat.zero_le _, rfl, hst, hid (fun i x hi _ => by omega)⟩
 case round =>
  clear hst
  obtain ⟨j, hj, rfl, hst, HA⟩ := hrel
  by_cases hlt : j < nr
  ·have e1 : decide ((j : Int) < (nr : Int)) = true := decide_eq_true (by omega)
   have z1 : IntKind.i64.wrap ((j : Int) + 1) = (j : Int) + 1 := IntWalk.i64_in _ (by omega)
   obtain ⟨x, lb, lo, hx, rfl, hin, hr⟩ := RecsIn.at HT.out.R hlt
   have HX := hid hx
   have HIX := hid hin
   have HLX := hid hin.L
   have H44 := hid (cellsR_len hin.L)
   have HRX := hid hr
   clear hx hr hin
   cases q1 : (x.2.kind == 2)
   ·skip
    have HQ := hid (show newB y.2 x.2 = false by unfold newB newerB; rw [q1]; simp)
    go_wp2_with (first | go_big_skip | go_big_guard | (refine wl_loadE rfl rfl rfl ?_; first | refine ⟨_, Loads.at [_] hst rfl, ?_⟩ | refine ⟨_, Loads.oldA (cs := cellsR x) hst H44.out HRX.out, ?_⟩ | refine ⟨.int .i64 x.2.kind, Loads.at [] hst3 rfl, ?_⟩ | refine ⟨.int .i64 x.2.own, Loads.at [] hst3 (cellsR_40 HLX.out), ?_⟩ | refine ⟨.int .i64 x.2.made, Loads.at [] hst3 (cellsR_39 HLX.out), ?_⟩ | refine ⟨.int .i64 x.2.id, Loads.at [] hst3 rfl, ?_⟩ | refine ⟨.int .i64 y.2.own, Loads.at [_] hst3 (cellsR_40 HLY.out), ?_⟩ | refine ⟨.int .i64 y.2.made, Loads.at [_] hst3 (cellsR_39 HLY.out), ?_⟩ | refine ⟨.int .i64 y.2.id, Loads.at [_] hst3 rfl, ?_⟩) | (refine wl_index rfl rfl rfl rfl hlt ?_) | (refine wl_alloc hst rfl rfl ?_; intro g9 w3 hst2; clear hst) | (refine wl_storeA [] hst2 rfl rfl rfl rfl (by exact H44.out) (cellsR_ones HIX.out) rfl ?_; intro w4 hst3; clear hst2))
    go_roundw
    case rel => exact ⟨j + 1, by omega, rfl, St.sub hst3 (.cons _ (List.Sublist.refl _)), hid (fun i a hi ha => by
     by_cases e : i = j
     ·subst e
      rw [HX.out] at ha
      cases ha
      exact HQ.out
     ·exact HA.out i a (by omega) ha)⟩
    case measure => simp [intOf]; omega
   ·cases q2 : (x.2.own == y.2.own)
    ·skip
     have HQ := hid (show newB y.2 x.2 = false by unfold newB newerB; rw [q1, q2]; simp)
     go_wp2_with (first | go_big_skip | go_big_guard | (refine wl_loadE rfl rfl rfl ?_; first | refine ⟨_, Loads.at [_] hst rfl, ?_⟩ | refine ⟨_, Loads.oldA (cs := cellsR x) hst H44.out HRX.out, ?_⟩ | refine ⟨.int .i64 x.2.kind, Loads.at [] hst3 rfl, ?_⟩ | refine ⟨.int .i64 x.2.own, Loads.at [] hst3 (cellsR_40 HLX.out), ?_⟩ | refine ⟨.int .i64 x.2.made, Loads.at [] hst3 (cellsR_39 HLX.out), ?_⟩ | refine ⟨.int .i64 x.2.id, Loads.at [] hst3 rfl, ?_⟩ | refine ⟨.int .i64 y.2.own, Loads.at [_] hst3 (cellsR_40 HLY.out), ?_⟩ | refine ⟨.int .i64 y.2.made, Loads.at [_] hst3 (cellsR_39 HLY.out), ?_⟩ | refine ⟨.int .i64 y.2.id, Loads.at [_] hst3 rfl, ?_⟩) | (refine wl_index rfl rfl rfl rfl hlt ?_) | (refine wl_alloc hst rfl rfl ?_; intro g9 w3 hst2; clear hst) | (refine wl_storeA [] hst2 rfl rfl rfl rfl (by exact H44.out) (cellsR_ones HIX.out) rfl ?_; intro w4 hst3; clear hst2))
     go_roundw
     case rel => exact ⟨j + 1, by omega, rfl, St.sub hst3 (.cons _ (List.Sublist.refl _)), hid (fun i a hi ha => by
      by_cases e : i = j
      ·subst e
       rw [HX.out] at ha
       cases ha
       exact HQ.out
      ·exact HA.out i a (by omega) ha)⟩
     case measure => simp [intOf]; omega
    ·cases q3 : decide (y.2.made < x.2.made)
     ·cases q4 : (x.2.made == y.2.made)
      ·skip
       have HQ := hid (show newB y.2 x.2 = false by unfold newB newerB; rw [q1, q2, q3, q4]; simp)
       go_wp2_with (first | go_big_skip | go_big_guard | (refine wl_loadE rfl rfl rfl ?_; first | refine ⟨_, Loads.at [_] hst rfl, ?_⟩ | refine ⟨_, Loads.oldA (cs := cellsR x) hst H44.out HRX.out, ?_⟩ | refine ⟨.int .i64 x.2.kind, Loads.at [] hst3 rfl, ?_⟩ | refine ⟨.int .i64 x.2.own, Loads.at [] hst3 (cellsR_40 HLX.out), ?_⟩ | refine ⟨.int .i64 x.2.made, Loads.at [] hst3 (cellsR_39 HLX.out), ?_⟩ | refine ⟨.int .i64 x.2.id, Loads.at [] hst3 rfl, ?_⟩ | refine ⟨.int .i64 y.2.own, Loads.at [_] hst3 (cellsR_40 HLY.out), ?_⟩ | refine ⟨.int .i64 y.2.made, Loads.at [_] hst3 (cellsR_39 HLY.out), ?_⟩ | refine ⟨.int .i64 y.2.id, Loads.at [_] hst3 rfl, ?_⟩) | (refine wl_index rfl rfl rfl rfl hlt ?_) | (refine wl_alloc hst rfl rfl ?_; intro g9 w3 hst2; clear hst) | (refine wl_storeA [] hst2 rfl rfl rfl rfl (by exact H44.out) (cellsR_ones HIX.out) rfl ?_; intro w4 hst3; clear hst2))
       go_roundw
       case rel => exact ⟨j + 1, by omega, rfl, St.sub hst3 (.cons _ (List.Sublist.refl _)), hid (fun i a hi ha => by
        by_cases e : i = j
        ·subst e
         rw [HX.out] at ha
         cases ha
         exact HQ.out
        ·exact HA.out i a (by omega) ha)⟩
       case measure => simp [intOf]; omega
      ·cases q5 : decide (y.2.id < x.2.id)
       ·skip
        have HQ := hid (show newB y.2 x.2 = false by unfold newB newerB; rw [q1, q2, q3, q4, q5]; simp)
        go_wp2_with (first | go_big_skip | go_big_guard | (refine wl_loadE rfl rfl rfl ?_; first | refine ⟨_, Loads.at [_] hst rfl, ?_⟩ | refine ⟨_, Loads.oldA (cs := cellsR x) hst H44.out HRX.out, ?_⟩ | refine ⟨.int .i64 x.2.kind, Loads.at [] hst3 rfl, ?_⟩ | refine ⟨.int .i64 x.2.own, Loads.at [] hst3 (cellsR_40 HLX.out), ?_⟩ | refine ⟨.int .i64 x.2.made, Loads.at [] hst3 (cellsR_39 HLX.out), ?_⟩ | refine ⟨.int .i64 x.2.id, Loads.at [] hst3 rfl, ?_⟩ | refine ⟨.int .i64 y.2.own, Loads.at [_] hst3 (cellsR_40 HLY.out), ?_⟩ | refine ⟨.int .i64 y.2.made, Loads.at [_] hst3 (cellsR_39 HLY.out), ?_⟩ | refine ⟨.int .i64 y.2.id, Loads.at [_] hst3 rfl, ?_⟩) | (refine wl_index rfl rfl rfl rfl hlt ?_) | (refine wl_alloc hst rfl rfl ?_; intro g9 w3 hst2; clear hst) | (refine wl_storeA [] hst2 rfl rfl rfl rfl (by exact H44.out) (cellsR_ones HIX.out) rfl ?_; intro w4 hst3; clear hst2))
        go_roundw
        case rel => exact ⟨j + 1, by omega, rfl, St.sub hst3 (.cons _ (List.Sublist.refl _)), hid (fun i a hi ha => by
         by_cases e : i = j
         ·subst e
          rw [HX.out] at ha
          cases ha
          exact HQ.out
         ·exact HA.out i a (by omega) ha)⟩
        case measure => simp [intOf]; omega
       ·skip
        have HQ := hid (show newB y.2 x.2 = true by unfold newB newerB; rw [q1, q2, q3, q4, q5]; simp)
        go_wp2_with (first | go_big_skip | go_big_guard | (refine wl_loadE rfl rfl rfl ?_; first | refine ⟨_, Loads.at [_] hst rfl, ?_⟩ | refine ⟨_, Loads.oldA (cs := cellsR x) hst H44.out HRX.out, ?_⟩ | refine ⟨.int .i64 x.2.kind, Loads.at [] hst3 rfl, ?_⟩ | refine ⟨.int .i64 x.2.own, Loads.at [] hst3 (cellsR_40 HLX.out), ?_⟩ | refine ⟨.int .i64 x.2.made, Loads.at [] hst3 (cellsR_39 HLX.out), ?_⟩ | refine ⟨.int .i64 x.2.id, Loads.at [] hst3 rfl, ?_⟩ | refine ⟨.int .i64 y.2.own, Loads.at [_] hst3 (cellsR_40 HLY.out), ?_⟩ | refine ⟨.int .i64 y.2.made, Loads.at [_] hst3 (cellsR_39 HLY.out), ?_⟩ | refine ⟨.int .i64 y.2.id, Loads.at [_] hst3 rfl, ?_⟩) | (refine wl_index rfl rfl rfl rfl hlt ?_) | (refine wl_alloc hst rfl rfl ?_; intro g9 w3 hst2; clear hst) | (refine wl_storeA [] hst2 rfl rfl rfl rfl (by exact H44.out) (cellsR_ones HIX.out) rfl ?_; intro w4 hst3; clear hst2))
        go_ret
        exact ⟨by rw [HEE.out, any_map_yes HX.out HQ.out]; rfl, hst3.nil⟩
     ·skip
      have HQ := hid (show newB y.2 x.2 = true by unfold newB newerB; rw [q1, q2, q3]; simp)
      go_wp2_with (first | go_big_skip | go_big_guard | (refine wl_loadE rfl rfl rfl ?_; first | refine ⟨_, Loads.at [_] hst rfl, ?_⟩ | refine ⟨_, Loads.oldA (cs := cellsR x) hst H44.out HRX.out, ?_⟩ | refine ⟨.int .i64 x.2.kind, Loads.at [] hst3 rfl, ?_⟩ | refine ⟨.int .i64 x.2.own, Loads.at [] hst3 (cellsR_40 HLX.out), ?_⟩ | refine ⟨.int .i64 x.2.made, Loads.at [] hst3 (cellsR_39 HLX.out), ?_⟩ | refine ⟨.int .i64 x.2.id, Loads.at [] hst3 rfl, ?_⟩ | refine ⟨.int .i64 y.2.own, Loads.at [_] hst3 (cellsR_40 HLY.out), ?_⟩ | refine ⟨.int .i64 y.2.made, Loads.at [_] hst3 (cellsR_39 HLY.out), ?_⟩ | refine ⟨.int .i64 y.2.id, Loads.at [_] hst3 rfl, ?_⟩) | (refine wl_index rfl rfl rfl rfl hlt ?_) | (refine wl_alloc hst rfl rfl ?_; intro g9 w3 hst2; clear hst) | (refine wl_storeA [] hst2 rfl rfl rfl rfl (by exact H44.out) (cellsR_ones HIX.out) rfl ?_; intro w4 hst3; clear hst2))
      go_ret
      exact ⟨by rw [HEE.out, any_map_yes HX.out HQ.out]; rfl, hst3.nil⟩
  ·have e1 : decide ((j : Int) < (nr : Int)) = false := decide_eq_false (by omega)
   have HF := hid (any_map_no (xs := xs) (p := newB y.2) fun i x hi hx => HA.out i x (by have := HT.out.R.len; omega) hx)
   clear HA
   go_wp2_with (first | go_big_skip | go_big_guard | (refine wl_loadE rfl rfl rfl ?_; refine ⟨_, Loads.at [_] hst rfl, ?_⟩))
   go_ret
   exact ⟨by rw [HEE.out, HF.out]; rfl, hst.nil⟩
end Go.Proofs.YtifajcblbedcoaaGreat
namespace Go.Proofs.YtifajcblbedcoaaGreat
set_option linter.unusedVariables false
set_option linter.unusedSimpArgs false
open Go.RowKit Hp
attribute [local irreducible] Go.Calls Go.wpList
set_option maxRecDepth 100000
set_option maxHeartbeats 8000000
attribute [local go_sem ↓] heldInt heldInts heldRecs heldRec heldStr heldTab heldPtr heldFn
theorem rangeR_root5 {w : World} {b off : Nat} {x : Value × RC} (h : w.rangeAt b off (cellsR x)) : w.rangeAt b (off + 4) (x.2.pv x.1).cells := fun d v hv => by
 have := h (d + 4) v (by
  show (_ :: _ :: _ :: _ :: ((x.2.pv x.1).cells ++ x.2.tail))[d + 4]? = some v
  simp only [List.getElem?_cons_succ]
  rw [List.getElem?_append_left (List.getElem?_eq_some_iff.1 hv).1]
  exact hv)
 rwa [show off + (d + 4) = off + 4 + d by omega] at this
theorem row_spotA {w0 w : World} {M : List Nat} {L : List HA} {ao : Option Addr} {T : TypeId} {sz n c : Nat} {xs : List Value} (h : St w0 M w L) (hm : HA.row (.slice ao n c) T sz n xs ∈ L) (hn : 0 < n) : ∃ g, ao = some ⟨g, 0, none⟩ := by
 obtain ⟨g, c', e, _⟩ := row_spot h hm hn
 simp only [Value.slice.injEq] at e
 exact ⟨g, e.1⟩
theorem map_get2 {xs : List (Value × RC)} {l : List RC} (he : xs.map (·.2) = l) {j : Nat} {r : RC} (h : l[j]? = some r) : ∃ u : Value, xs[j]? = some (u, r) := by
 subst he
 obtain ⟨x, hx, rfl⟩ := map_get h
 exact ⟨x.1, hx⟩
theorem rowRange {w0 w : World} {M : List Nat} {L : List HA} {g n c k : Nat} {y : Value × RC} {ys : List (Value × RC)} {T : TypeId} (h : St w0 M w L) (hm : HA.row (.slice (some ⟨g, 0, none⟩) n c) T 44 n (recsV ys) ∈ L) (hl : LX ys) (hy : ys[k]? = some y) : w.rangeAt g (k * 44) (cellsR y) := fun d v hv => rowCell h hm hl hy hv
theorem ref_fin {w w' : World} {u : TC} {ra la : Option Addr} {nr rc nl lc : Nat} {ys : List (Value × RC)} {K L : List HA} (hz : St w [] w' L) (h1 : HA.row (.slice ra nr rc) 53 44 nr (recsV ys) ∈ L) (h2 : HA.row (.slice la nl lc) 3 1 nl (numsV u.lives) ∈ L) (hK : ∀ y ∈ K, y ∈ L) (ho : OwnX K ys) (hn : ys.length = nr) (hm : u.lives.length = nl) (he : ys.map (·.2) = u.recs) (hb : nr ≤ 1000000 ∧ nl ≤ 1000000) :
  RefRet (0, u) w (.returned (.tuple #[.agg (tabC u (.slice ra nr rc) (.slice la nl lc)).toArray, .int .i64 0])) w' :=
 ⟨ra, la, nr, rc, nl, lc, ys, L, rfl, fun _ _ _ _ hs hsub => own_tab hs (hsub _ h1) (hsub _ h2) hn hm (fun y hy => (ho y hy).sub fun z hz => hsub _ (hK z hz)) he hb, hz⟩
theorem set_LX {ys : List (Value × RC)} (h : LX ys) {k : Nat} {y : Value × RC} (hy : L32 y.2.S) : LX (ys.set k y) := fun q hq => by
 rcases List.mem_or_eq_of_mem_set hq with h1 | rfl
 ·exact h q h1
 ·exact hy
def sizeR (r : RC) (z : Int) : RC := { r with size := z }
theorem put_sizeR (v : Value × RC) (z : Int) : putAt (cellsR v) 3 [.int .i64 z] = cellsR (v.1, sizeR v.2 z) := put_size v z
theorem put_backR (v : Value × RC) (s : RC) (sv : Value) (h : L32 v.2.S) (hs : L32 s.S) : putAt (cellsR (v.1, sizeR v.2 s.size)) 4 (PV.cells (s.pv sv)) = cellsR (sv, backR v.2 s) :=
 put_p (v.1, sizeR v.2 s.size) (s.pv undef) sv h hs
def recsT (t : TC) (l : List RC) : TC := { t with recs := l }
theorem refRoll13 (t : TC) (ar al : Option Addr) (nr cr nl cl : Nat) (xs : List (Value × RC)) (w : World) (ht : TabIn w t ar nr cr al nl cl xs) (sp : List UInt8) (hsp : sp.length ≤ 1000000) :
  Calls Tryz.prog 36 #[.agg (tabC t (.slice ar nr cr) (.slice al nl cl)).toArray, .string ⟨sp.toArray⟩] w (RefRet (opR t (rollT t sp)) w) := by
 have hst0 := St.refl w
 have HT := hid ht
 have b1 := ht.br
 have b2 := ht.bl
 obtain ⟨r, hr⟩ : ∃ r, r = opR t (rollT t sp) := ⟨_, rfl⟩
 rw [← hr]
 obtain ⟨⟨a, b, f⟩, hx⟩ : ∃ p, splitL sp = p := ⟨_, rfl⟩
 have hal : a.length ≤ 1000000 := by have := (split_in sp hsp).1; rw [hx] at this; exact this
 have HX := hid hx
 have HSB := hid (show snapB sp = f by unfold snapB; rw [hx])
 cases hok : t.ok
 ·have HE := hid (err_no hok)
  have HB := hid (show r = badR 2 by rw [hr]; exact opR_no hok)
  clear ht hr hok hx
  go_enter Tryz.func36, Tryz.ntmps36
  go_wp2_with (first | go_big_skip | go_big_guard | (refine wl_boxA hst0 rfl rfl rfl ?_; intro gb w1 hA0; clear hst0) | (refine wl_alloc hA0 rfl rfl ?_; intro gz w2 hst; clear hA0) | (go_at_call 90; refine (refSplit_any sp _ (by omega)).mono ?_; rw [HX.out]; rintro _ w9 ⟨rfl, h4⟩; replace hst := St.call0 hst h4; clear h4) | (refine wl_loadE rfl rfl rfl ?_; first | refine ⟨_, Loads.atA (tabC t (.slice ar nr cr) (.slice al nl cl)) [_] hst rfl rfl, ?_⟩ | refine ⟨_, Loads.at [_] hst rfl, ?_⟩) | (go_at_call 86; refine (refCheck12_any t ar al nr cr nl cl xs _ (HT.out.R.old hst.nil) HT.out.eq (by omega) (Rd.old hst.nil HT.out.L) HT.out.ln (by omega)).mono ?_; rw [HE.out]; rintro _ w9 ⟨rfl, h4⟩; replace hst := St.call0 hst h4; clear h4) | (refine wl_build0 rfl rfl ?_) | (refine wl_storeA [] hst rfl rfl rfl rfl rfl rfl rfl ?_; intro w7 hZ; clear hst))
  have hl := Loads.atA (P := Tryz.prog) (off := 0) (T := 27) tab0 [] hZ rfl rfl
  refine bodyPost_ret (results_cellR rfl rfl rfl hl) rfl ?_
  rw [HB.out]
  exact refRet_bad hZ _
 ·have HE := hid (err_yes hok)
  have HOK := hid (okP_iff.1 hok)
  clear ht
  have he : r = opR t (if f then (match recAt sp t.recs with
   | none => badR 6
   | some v => if t.recs.any (fun x => (x.own == v.own) && newerB x v) then badR 17 else (match recAt a t.recs with
    | none => badR 0
    | some vk => (0, { t with recs := setN a t.recs (backR vk v) }))) else badR 2) := by
   rw [hr]; unfold rollT; rw [HSB.out, hx]; rfl
  have hroll : f = true → rollT t sp = (match recAt sp t.recs with
   | none => badR 6
   | some v => if t.recs.any (fun x => (x.own == v.own) && newerB x v) then badR 17 else (match recAt a t.recs with
    | none => badR 0
    | some vk => (0, { t with recs := setN a t.recs (backR vk v) }))) := by
   intro e; unfold rollT; rw [HSB.out, hx, e]; rfl
  clear hr
  cases f
  ·have HB := hid (show r = badR 2 by rw [he]; exact opR_z hok)
   clear he hok hx hroll
   go_enter Tryz.func36, Tryz.ntmps36
   go_wp2_with (first | go_big_skip | go_big_guard | (refine wl_boxA hst0 rfl rfl rfl ?_; intro gb w1 hA0; clear hst0) | (refine wl_alloc hA0 rfl rfl ?_; intro gz w2 hst; clear hA0) | (go_at_call 90; refine (refSplit_any sp _ (by omega)).mono ?_; rw [HX.out]; rintro _ w9 ⟨rfl, h4⟩; replace hst := St.call0 hst h4; clear h4) | (refine wl_loadE rfl rfl rfl ?_; first | refine ⟨_, Loads.atA (tabC t (.slice ar nr cr) (.slice al nl cl)) [_] hst rfl rfl, ?_⟩ | refine ⟨_, Loads.at [_] hst rfl, ?_⟩) | (go_at_call 86; refine (refCheck12_any t ar al nr cr nl cl xs _ (HT.out.R.old hst.nil) HT.out.eq (by omega) (Rd.old hst.nil HT.out.L) HT.out.ln (by omega)).mono ?_; rw [HE.out]; rintro _ w9 ⟨rfl, h4⟩; replace hst := St.call0 hst h4; clear h4) | (refine wl_build0 rfl rfl ?_) | (refine wl_storeA [] hst rfl rfl rfl rfl rfl rfl rfl ?_; intro w7 hZ; clear hst))
   have hl := Loads.atA (P := Tryz.prog) (off := 0) (T := 27) tab0 [] hZ rfl rfl
   refine bodyPost_ret (results_cellR rfl rfl rfl hl) rfl ?_
   rw [HB.out]
   exact refRet_bad hZ _
  ·cases hv : recAt sp t.recs with
   | none =>
    have HB := hid (show r = badR 6 by rw [he, hv]; exact opR_z hok)
    have HF := hid (found_no hv)
    clear he hok hv hx hroll
    go_enter Tryz.func36, Tryz.ntmps36
    go_wp2_with (first | go_big_skip | go_big_guard | (refine wl_boxA hst0 rfl rfl rfl ?_; intro gb w1 hA0; clear hst0) | (refine wl_alloc hA0 rfl rfl ?_; intro gz w2 hst; clear hA0) | (go_at_call 90; refine (refSplit_any sp _ (by omega)).mono ?_; rw [HX.out]; rintro _ w9 ⟨rfl, h4⟩; replace hst := St.call0 hst h4; clear h4) | (refine wl_loadE rfl rfl rfl ?_; first | refine ⟨_, Loads.atA (tabC t (.slice ar nr cr) (.slice al nl cl)) [_] hst rfl rfl, ?_⟩ | refine ⟨_, Loads.at [_] hst rfl, ?_⟩) | (go_at_call 86; refine (refCheck12_any t ar al nr cr nl cl xs _ (HT.out.R.old hst.nil) HT.out.eq (by omega) (Rd.old hst.nil HT.out.L) HT.out.ln (by omega)).mono ?_; rw [HE.out]; rintro _ w9 ⟨rfl, h4⟩; replace hst := St.call0 hst h4; clear h4) | (go_at_call 91; refine (refFind_any t (.slice al nl cl) sp ar nr cr xs _ (HT.out.R.old hst) (by omega)).mono ?_; rw [HT.out.eq, HF.out]; rintro _ w9 ⟨rfl, h4⟩; replace hst := St.call0 hst h4; clear h4) | (refine wl_build0 rfl rfl ?_) | (refine wl_storeA [] hst rfl rfl rfl rfl rfl rfl rfl ?_; intro w7 hZ; clear hst))
    have hl := Loads.atA (P := Tryz.prog) (off := 0) (T := 27) tab0 [] hZ rfl rfl
    refine bodyPost_ret (results_cellR rfl rfl rfl hl) rfl ?_
    rw [HB.out]
    exact refRet_bad hZ _
   | some v =>
    rw [hv] at he
    have hroll := hroll rfl
    rw [hv] at hroll
    replace he : r = opR t (if t.recs.any (fun x => (x.own == v.own) && newerB x v) then badR 17 else (match recAt a t.recs with
     | none => badR 0
     | some vk => (0, { t with recs := setN a t.recs (backR vk v) }))) := he
    replace hroll : rollT t sp = (if t.recs.any (fun x => (x.own == v.own) && newerB x v) then badR 17 else (match recAt a t.recs with
     | none => badR 0
     | some vk => (0, { t with recs := setN a t.recs (backR vk v) }))) := hroll
    have hvm : v ∈ t.recs := List.mem_of_find?_eq_some hv
    obtain ⟨k, vk, hrk, hra, hfn, hfp, hvi, hv2⟩ := snap_vol hok HSB.out hv
    rw [hx] at hra hfn hfp
    simp only at hra hfn hfp
    have hkl : k < nr := by rw [← HT.out.len]; exact (List.getElem?_eq_some_iff.1 hrk).1
    have HLK := hid (show L32 vk.S by
     obtain ⟨q, hq⟩ := map_get2 HT.out.eq hrk
     exact (HT.out.R.each _ (List.mem_of_getElem? hq)).L)
    have hnw := new_any HOK.out hvm hv2
    obtain ⟨j, sv, lb, lo, hf, hx9, hlt, har, hin, hrx⟩ := found_at HT.out hv
    subst har
    have HF := hid hf
    have HX9 := hid hx9
    have HRX := hid hrx
    have HIX := hid hin
    have HLL := hid hin.L
    have HL44 := hid (cellsR_len hin.L)
    have H35 := hid (PV.len (p := v.pv sv) hin.L)
    have HVL := hid (birth_le hok (List.mem_of_find?_eq_some hv)).1
    clear hf hx9 hrx hin
    have hrj := recs_at HT.out HX9.out
    have HRJ := hid (show t.recs[j]? = some v from hrj)
    have HRK := hid hrk
    have HF2 := hid hfp
    have HJK := hid (show j ≠ k from fun e => by
     subst e
     rw [hrj] at hrk
     have e2 : v = vk := by simpa using hrk
     subst e2
     have h1 := rec_mem hra
     have h2 := rec_mem hv
     have h3 : a = sp := h1.2.symm.trans h2.2
     have h4 := snap_part HSB.out
     rw [hx] at h4
     simp only at h4
     rw [h3] at h4
     have h5 := part_not_snap h4
     rw [HSB.out] at h5
     cases h5)
    have HLV := hid HT.out.ln
    have HBD := hid (show nr ≤ 1000000 ∧ nl ≤ 1000000 from ⟨b1, b2⟩)
    obtain ⟨a9, ha9⟩ : ∃ q, t.recs.any (newB v) = q := ⟨_, rfl⟩
    have HNW := hid ha9
    rw [← hnw, ha9] at he hroll
    cases a9
    ·have hu : rollT t sp = (0, (recsT t (t.recs.set k (backR vk v)))) := by rw [hroll, hra]; show ((0 : Int), { t with recs := setN a t.recs (backR vk v) }) = _; unfold setN recsT; rw [hfn]; rfl
     have HB := hid (show r = (0, (recsT t (t.recs.set k (backR vk v)))) by
      rw [he, hra]
      show opR t ((0 : Int), { t with recs := setN a t.recs (backR vk v) }) = _
      unfold setN recsT
      rw [hfn]
      exact opR_0 hok)
     have HOK1 := hid (show OkP (recsT t (t.recs.set k (backR vk v))) by
      have h9 := (roll_keeps (sp := sp) 0 HOK.out (by rw [hu])).1.ok
      rwa [hu] at h9)
     clear he hok hv hx hroll hvm hrk hra hfn hfp hvi hv2 hnw hrj ha9 hu
     go_enter Tryz.func36, Tryz.ntmps36
     go_wp2_with (first | go_big_skip | go_big_guard | (refine wl_boxA hst0 rfl rfl rfl ?_; intro gb w1 hA0; clear hst0) | (refine wl_alloc hA0 rfl rfl ?_; intro gz w2 hst; clear hA0) | (go_at_call 90; refine (refSplit_any sp _ (by omega)).mono ?_; rw [HX.out]; rintro _ w9 ⟨rfl, h4⟩; replace hst := St.call0 hst h4; clear h4) | (refine wl_loadE rfl rfl rfl ?_; first | refine ⟨_, Loads.atA (tabC t (.slice (some ⟨lb, lo, none⟩) nr cr) (.slice al nl cl)) [_] hst rfl rfl, ?_⟩ | refine ⟨_, Loads.at [_] hst rfl, ?_⟩) | (go_at_call 86; refine (refCheck12_any t (some ⟨lb, lo, none⟩) al nr cr nl cl xs _ (HT.out.R.old hst.nil) HT.out.eq (by omega) (Rd.old hst.nil HT.out.L) HT.out.ln (by omega)).mono ?_; rw [HE.out]; rintro _ w9 ⟨rfl, h4⟩; replace hst := St.call0 hst h4; clear h4) | (go_at_call 91; refine (refFind_any t (.slice al nl cl) sp (some ⟨lb, lo, none⟩) nr cr xs _ (HT.out.R.old hst) (by omega)).mono ?_; rw [HT.out.eq, HF.out]; rintro _ w9 ⟨rfl, h4⟩; replace hst := St.call0 hst h4; clear h4))
     have hX := hst.drew
     clear hst
     refine wp_region_held_drew (S := (fun w' => (loadVarH 27 ⟨gb, 0, none⟩).run Tryz.prog w' = .ok (.agg (List.toArray ((tabC t (.slice (some ⟨lb, lo, none⟩) nr cr) (.slice al nl cl))))) w' ∧ (loadVarH 22 ⟨gb, 1, none⟩).run Tryz.prog w' = .ok (.slice (some ⟨lb, lo, none⟩) nr cr) w' ∧ (loadVarH 53 ⟨lb, lo + j * 44, none⟩).run Tryz.prog w' = .ok (.agg (cellsR (sv, v)).toArray) w')) (by kernel_rfl) (by exact ⟨ldA ((tabC t (.slice (some ⟨lb, lo, none⟩) nr cr) (.slice al nl cl))) [_] hX (rfl) (rfl), ldS [_] hX rfl, ldOA hX HL44.out HRX.out⟩) (fun hHeld => ?_)
     refine tq 0 37 ?_
     refine tq 1 38 ?_
     refine tq 3 40 ?_
     refine tq 2 39 ?_
     refine tq 4 41 ?_
     refine tq 5 42 ?_
     refine wpAnyH_ready (rs := [6]) (by kernel_rfl) (by simp) ?_
     refine (AllReadyH.cons (o := ⟨some 43, _, _, _, _, _⟩) rfl (fun K hK => ?_) AllReadyH.nil)
     rw [if_pos (by rfl)]
     go_simp
     go_at_call 93
     refine (refNewest13 t (some ⟨lb, lo, none⟩) al nr cr nl cl xs _ (HT.out.old hX.nil) (sv, v) (HIX.out.old hX)).mono ?_
     rw [show t.recs.any (newB ((sv, v) : Value × RC).2) = _ from HNW.out]
     rintro _ w9 ⟨rfl, h4⟩
     have hN : St w [] w9 [.blk gz 27 tab0, .blk gb 27 (tabC t (.slice (some ⟨lb, lo, none⟩) nr cr) (.slice al nl cl))] := St.call0 hX h4
     clear h4
     refine hK.out _ _ ?_ (fun hHeld => ?_)
     ·exact ⟨ldA ((tabC t (.slice (some ⟨lb, lo, none⟩) nr cr) (.slice al nl cl))) [_] hN (rfl) (rfl), ldS [_] hN rfl, ldOA hN HL44.out HRX.out⟩
     clear hK K
     (try simp only [Act.put, List.setIfInBounds_toArray, List.set_cons_zero, List.set_cons_succ])
     refine tq 7 44 ?_
     refine wpAnyH_done (by kernel_rfl) ?_ _
     clear hHeld
     go_wp2_with (first | go_big_skip | go_big_guard | (refine wl_loadE rfl rfl rfl ?_; refine ⟨_, Loads.atA (tabC t (.slice (some ⟨lb, lo, none⟩) nr cr) (.slice al nl cl)) [_] hN rfl rfl, ?_⟩) | (go_at_call 91; refine (refFind_any t (.slice al nl cl) a (some ⟨lb, lo, none⟩) nr cr xs _ (HT.out.R.old hN) (by omega)).mono ?_; rw [HT.out.eq, HF2.out]; rintro _ w9 ⟨rfl, h4⟩; replace hN := St.call0 hN h4; clear h4) | (go_at_call 94; refine (refOwn_ok t (some ⟨lb, lo, none⟩) al nr cr nl cl xs _ (HT.out.old hN.nil) HOK.out).mono ?_; rintro _ w9 ⟨ra, rc, la, lc, ys, KK, rfl, hye, hyn, hyo, h4⟩; have hO0 := St.perm (St.call hN h4) List.perm_append_comm; obtain ⟨gr, rfl⟩ := row_spotA hO0 (.tail _ (.tail _ (.head _))) (by omega); have hO1 : St w [] w9 (.blk gz 27 tab0 :: .blk gb 27 (tabC t (.slice (some ⟨lb, lo, none⟩) nr cr) (.slice al nl cl)) :: .row (.slice (some ⟨gr, 0, none⟩) nr rc) 53 44 nr (recsV ys) :: .row (.slice la nl lc) 3 1 nl (numsV t.lives) :: KK) := hO0; have HYE := hid hye; have HYN := hid hyn; have HYO := hid hyo; clear h4 hO0 hN hye hyn hyo) | (refine wl_alloc hO1 rfl rfl ?_; intro g13 w1 hO2; clear hO1) | (refine wl_storeA [] hO2 rfl rfl rfl rfl (vs := (tabC t (.slice (some ⟨gr, 0, none⟩) nr rc) (.slice la nl lc))) rfl rfl rfl ?_; intro w1 h4; have hU1 : St w [] w1 (.blk g13 27 (tabC t (.slice (some ⟨gr, 0, none⟩) nr rc) (.slice la nl lc)) :: .blk gz 27 tab0 :: .blk gb 27 (tabC t (.slice (some ⟨lb, lo, none⟩) nr cr) (.slice al nl cl)) :: .row (.slice (some ⟨gr, 0, none⟩) nr rc) 53 44 nr (recsV ys) :: .row (.slice la nl lc) 3 1 nl (numsV t.lives) :: KK) := h4; clear h4 hO2))
     obtain ⟨u, hyj⟩ := map_get2 HYE.out HRJ.out
     obtain ⟨uk, hyk⟩ := map_get2 HYE.out HRK.out
     have HYJ := hid hyj
     have HYK := hid hyk
     have HLY := hid (show LX ys from fun q hq => (HYO.out q hq).2.1)
     have H35b := hid (PV.len (p := v.pv u) HLL.out)
     obtain ⟨_, uo, un, uc, hus, _⟩ := ((HYO.out _ (List.mem_of_getElem? hyj)).In (hU1.sub (.cons _ (.cons _ (.cons _ (.cons _ (.cons _ (List.Sublist.refl _)))))))).1
     have HUS := hid (show (v.pv u).sv = .slice uo un uc from hus)
     clear hyj hyk hus
     have hlj : j ≠ k := HJK.out
     have HYJ2 := hid (show (ys.set k (uk, sizeR vk v.size))[j]? = some (u, v) by rw [List.getElem?_set_ne (Ne.symm hlj)]; exact HYJ.out)
     have HLY2 := hid (set_LX HLY.out (k := k) (y := (uk, sizeR vk v.size)) HLK.out)
     have HYJ3 := hid (show ((ys.set k (uk, sizeR vk v.size)).set k (u, backR vk v))[j]? = some (u, v) by rw [List.getElem?_set_ne (Ne.symm hlj)]; exact HYJ2.out)
     have HLY3 := hid (set_LX HLY2.out (k := k) (y := (u, backR vk v)) HLL.out)
     have HYN3 := hid (show ((ys.set k (uk, sizeR vk v.size)).set k (u, backR vk v)).length = nr by rw [List.length_set, List.length_set]; exact HYN.out)
     have HYE3 := hid (show ((ys.set k (uk, sizeR vk v.size)).set k (u, backR vk v)).map (·.2) = t.recs.set k (backR vk v) by rw [List.map_set, List.map_set, HYE.out, List.set_set])
     have HYO3 := hid (show OwnX KK ((ys.set k (uk, sizeR vk v.size)).set k (u, backR vk v)) from fun q hq => by
      rcases List.mem_or_eq_of_mem_set hq with h | rfl
      ·rcases List.mem_or_eq_of_mem_set h with h | rfl
       ·exact HYO.out q h
       ·have h9 := HYO.out _ (List.mem_of_getElem? HYK.out)
        exact ⟨h9.1, h9.2⟩
      ·have h9 := HYO.out _ (List.mem_of_getElem? HYJ.out)
       exact ⟨h9.1, h9.2.1, (HYO.out _ (List.mem_of_getElem? HYK.out)).2.2⟩)
     clear hlj
     have hE := hU1.drew
     clear hU1
     refine wp_region_held_drew (S := (fun w' => (loadVarH 22 ⟨g13, 1, none⟩).run Tryz.prog w' = .ok (.slice (some ⟨gr, 0, none⟩) nr rc) w' ∧ (loadVarH 3 ⟨gr, j * 44 + 3, none⟩).run Tryz.prog w' = .ok (.int .i64 v.size) w')) (by kernel_rfl) (by exact ⟨ldS [] hE rfl, ldO (St.refl _) (rowCell hE (.tail _ (.tail _ (.tail _ (.head _)))) HLY.out HYJ.out (d := 3) rfl)⟩) (fun hHeld => ?_)
     refine tq 0 54 ?_
     refine tq 2 56 ?_
     refine tq 3 57 ?_
     refine tq 5 59 ?_
     refine tq 1 55 ?_
     refine tq 4 58 ?_
     refine tq 6 60 ?_
     refine tq 7 61 ?_
     refine tq 8 62 ?_
     refine tq 9 63 ?_
     refine tq 10 64 ?_
     refine wpAnyH_ready (rs := [11]) (by kernel_rfl) (by simp) ?_
     refine (AllReadyH.cons (o := ⟨none, _, _, _, _, _⟩) rfl (fun K hK => ?_) AllReadyH.nil)
     rw [if_pos (by rfl)]
     refine ow_of_wl (ops := #[]) (by rfl) ?_
     refine wl_storeRow1 [_, _, _] hE rfl rfl rfl rfl (v := .int .i64 v.size) rfl rfl (by omega) (by omega) ?_
     intro w6 h6
     rw [recsV_put HLY.out HYK.out (d := 3) (by show 3 + 1 ≤ 44; decide) (put_sizeR (uk, vk) v.size)] at h6
     have hU2 : St w [] w6 (.blk g13 27 (tabC t (.slice (some ⟨gr, 0, none⟩) nr rc) (.slice la nl lc)) :: .blk gz 27 tab0 :: .blk gb 27 (tabC t (.slice (some ⟨lb, lo, none⟩) nr cr) (.slice al nl cl)) :: .row (.slice (some ⟨gr, 0, none⟩) nr rc) 53 44 nr (recsV (ys.set k (uk, sizeR vk v.size))) :: .row (.slice la nl lc) 3 1 nl (numsV t.lives) :: KK) := h6
     clear h6
     refine q0_nil ?_
     refine hK.out _ _ ?_ (fun hHeld => ?_)
     ·exact ⟨ldS [] hU2 rfl, ldO (St.refl _) (rowCell hU2 (.tail _ (.tail _ (.tail _ (.head _)))) HLY2.out HYJ2.out (d := 3) rfl)⟩
     clear hK K
     (try simp only [Act.put, List.setIfInBounds_toArray, List.set_cons_zero, List.set_cons_succ])
     refine wpAnyH_done (by kernel_rfl) ?_ _
     clear hHeld
     go_wp2_with (first | go_big_skip | go_big_guard | fail)
     have hY := hU2.drew
     clear hU2
     refine wp_region_held_drew (S := (fun w' => (loadVarH 22 ⟨g13, 1, none⟩).run Tryz.prog w' = .ok (.slice (some ⟨gr, 0, none⟩) nr rc) w' ∧ (loadVarH 32 ⟨gr, j * 44 + 4, none⟩).run Tryz.prog w' = .ok (.agg (PV.cells (v.pv u)).toArray) w')) (by kernel_rfl) (by exact ⟨ldS [] hY rfl, ldOA (St.refl _) H35b.out (rangeR_root5 (rowRange hY (.tail _ (.tail _ (.tail _ (.head _)))) HLY2.out HYJ2.out))⟩) (fun hHeld => ?_)
     refine tq 0 65 ?_
     refine tq 2 67 ?_
     refine tq 3 68 ?_
     refine tq 5 70 ?_
     refine tq 1 66 ?_
     refine tq 4 69 ?_
     refine tq 6 71 ?_
     refine tq 7 72 ?_
     refine tq 8 73 ?_
     refine tq 9 74 ?_
     refine tq 10 75 ?_
     refine wpAnyH_ready (rs := [11]) (by kernel_rfl) (by simp) ?_
     refine (AllReadyH.cons (o := ⟨none, _, _, _, _, _⟩) rfl (fun K hK => ?_) AllReadyH.nil)
     rw [if_pos (by rfl)]
     refine ow_of_wl (ops := #[]) (by rfl) ?_
     refine wl_storeRow [_, _, _] hY rfl rfl rfl rfl (m := 35) (vs := PV.cells (v.pv u)) H35b.out (PV.ones_of (p := v.pv u) HUS.out) (by omega) (by omega) ?_
     intro w6 h6
     rw [recsV_put HLY2.out (by rw [List.getElem?_set_self (by rw [HYN.out]; exact hkl)]) (d := 4) (by rw [H35b.out]; decide) (put_backR (uk, vk) v u HLK.out HLL.out)] at h6
     have hU3 : St w [] w6 (.blk g13 27 (tabC t (.slice (some ⟨gr, 0, none⟩) nr rc) (.slice la nl lc)) :: .blk gz 27 tab0 :: .blk gb 27 (tabC t (.slice (some ⟨lb, lo, none⟩) nr cr) (.slice al nl cl)) :: .row (.slice (some ⟨gr, 0, none⟩) nr rc) 53 44 nr (recsV ((ys.set k (uk, sizeR vk v.size)).set k (u, backR vk v))) :: .row (.slice la nl lc) 3 1 nl (numsV t.lives) :: KK) := h6
     clear h6
     refine q0_nil ?_
     refine hK.out _ _ ?_ (fun hHeld => ?_)
     ·exact ⟨ldS [] hU3 rfl, ldOA (St.refl _) H35b.out (rangeR_root5 (rowRange hU3 (.tail _ (.tail _ (.tail _ (.head _)))) HLY3.out HYJ3.out))⟩
     clear hK K
     (try simp only [Act.put, List.setIfInBounds_toArray, List.set_cons_zero, List.set_cons_succ])
     refine wpAnyH_done (by kernel_rfl) ?_ _
     clear hHeld
     go_wp2_with (first | go_big_skip | go_big_guard | (refine wl_loadE rfl rfl rfl ?_; refine ⟨_, Loads.atA (tabC t (.slice (some ⟨gr, 0, none⟩) nr rc) (.slice la nl lc)) [] hU3 rfl rfl, ?_⟩) | (go_at_call 94; refine (refOwn_ok (recsT t (t.recs.set k (backR vk v))) (some ⟨gr, 0, none⟩) la nr rc nl lc ((ys.set k (uk, sizeR vk v.size)).set k (u, backR vk v)) _ (own_tab (u := (recsT t (t.recs.set k (backR vk v)))) hU3 (.tail _ (.tail _ (.tail _ (.head _)))) (.tail _ (.tail _ (.tail _ (.tail _ (.head _))))) HYN3.out HLV.out (fun q hq => (HYO3.out q hq).sub (fun z hz => .tail _ (.tail _ (.tail _ (.tail _ (.tail _ hz)))))) HYE3.out (by exact HBD.out)) HOK1.out).mono ?_; rintro _ w9 ⟨rb, rd, lb2, ld, zs, K3, rfl, hze, hzn, hzo, h4⟩; have hV := Hp.St.shift1 (St.call hU3 h4); have HZE := hid hze; have HZN := hid hzn; have HZO := hid hzo; clear h4 hU3 hze hzn hzo) | (refine wl_storeA ((_ :: _ :: K3) ++ [_]) hV rfl rfl rfl rfl (vs := tabC (recsT t (t.recs.set k (backR vk v))) (.slice rb nr rd) (.slice lb2 nl ld)) rfl rfl rfl ?_; intro w7 hZ; clear hV))
     have hl := Loads.atA (P := Tryz.prog) (off := 0) (T := 27) (tabC (recsT t (t.recs.set k (backR vk v))) (.slice rb nr rd) (.slice lb2 nl ld)) ((_ :: _ :: K3) ++ [_]) hZ rfl rfl
     refine bodyPost_ret (results_cellR rfl rfl rfl hl) rfl ?_
     rw [HB.out]
     exact ref_fin (K := K3) hZ (List.mem_append_left _ (List.mem_append_left _ (.head _))) (List.mem_append_left _ (List.mem_append_left _ (.tail _ (.head _)))) (fun y hy => List.mem_append_left _ (List.mem_append_left _ (.tail _ (.tail _ hy)))) HZO.out HZN.out HLV.out HZE.out HBD.out
    ·have HB := hid (show r = badR 17 by rw [he]; exact opR_z hok)
     clear he hok hv hx hroll hvm hrk hra hfn hfp hvi hv2 hnw hrj ha9
     go_enter Tryz.func36, Tryz.ntmps36
     go_wp2_with (first | go_big_skip | go_big_guard | (refine wl_boxA hst0 rfl rfl rfl ?_; intro gb w1 hA0; clear hst0) | (refine wl_alloc hA0 rfl rfl ?_; intro gz w2 hst; clear hA0) | (go_at_call 90; refine (refSplit_any sp _ (by omega)).mono ?_; rw [HX.out]; rintro _ w9 ⟨rfl, h4⟩; replace hst := St.call0 hst h4; clear h4) | (refine wl_loadE rfl rfl rfl ?_; first | refine ⟨_, Loads.atA (tabC t (.slice (some ⟨lb, lo, none⟩) nr cr) (.slice al nl cl)) [_] hst rfl rfl, ?_⟩ | refine ⟨_, Loads.at [_] hst rfl, ?_⟩) | (go_at_call 86; refine (refCheck12_any t (some ⟨lb, lo, none⟩) al nr cr nl cl xs _ (HT.out.R.old hst.nil) HT.out.eq (by omega) (Rd.old hst.nil HT.out.L) HT.out.ln (by omega)).mono ?_; rw [HE.out]; rintro _ w9 ⟨rfl, h4⟩; replace hst := St.call0 hst h4; clear h4) | (go_at_call 91; refine (refFind_any t (.slice al nl cl) sp (some ⟨lb, lo, none⟩) nr cr xs _ (HT.out.R.old hst) (by omega)).mono ?_; rw [HT.out.eq, HF.out]; rintro _ w9 ⟨rfl, h4⟩; replace hst := St.call0 hst h4; clear h4))
     have hX := hst.drew
     clear hst
     refine wp_region_held_drew (S := (fun w' => (loadVarH 27 ⟨gb, 0, none⟩).run Tryz.prog w' = .ok (.agg (List.toArray ((tabC t (.slice (some ⟨lb, lo, none⟩) nr cr) (.slice al nl cl))))) w' ∧ (loadVarH 22 ⟨gb, 1, none⟩).run Tryz.prog w' = .ok (.slice (some ⟨lb, lo, none⟩) nr cr) w' ∧ (loadVarH 53 ⟨lb, lo + j * 44, none⟩).run Tryz.prog w' = .ok (.agg (cellsR (sv, v)).toArray) w')) (by kernel_rfl) (by exact ⟨ldA ((tabC t (.slice (some ⟨lb, lo, none⟩) nr cr) (.slice al nl cl))) [_] hX (rfl) (rfl), ldS [_] hX rfl, ldOA hX HL44.out HRX.out⟩) (fun hHeld => ?_)
     refine tq 0 37 ?_
     refine tq 1 38 ?_
     refine tq 3 40 ?_
     refine tq 2 39 ?_
     refine tq 4 41 ?_
     refine tq 5 42 ?_
     refine wpAnyH_ready (rs := [6]) (by kernel_rfl) (by simp) ?_
     refine (AllReadyH.cons (o := ⟨some 43, _, _, _, _, _⟩) rfl (fun K hK => ?_) AllReadyH.nil)
     rw [if_pos (by rfl)]
     go_simp
     go_at_call 93
     refine (refNewest13 t (some ⟨lb, lo, none⟩) al nr cr nl cl xs _ (HT.out.old hX.nil) (sv, v) (HIX.out.old hX)).mono ?_
     rw [show t.recs.any (newB ((sv, v) : Value × RC).2) = _ from HNW.out]
     rintro _ w9 ⟨rfl, h4⟩
     have hN : St w [] w9 [.blk gz 27 tab0, .blk gb 27 (tabC t (.slice (some ⟨lb, lo, none⟩) nr cr) (.slice al nl cl))] := St.call0 hX h4
     clear h4
     refine hK.out _ _ ?_ (fun hHeld => ?_)
     ·exact ⟨ldA ((tabC t (.slice (some ⟨lb, lo, none⟩) nr cr) (.slice al nl cl))) [_] hN (rfl) (rfl), ldS [_] hN rfl, ldOA hN HL44.out HRX.out⟩
     clear hK K
     (try simp only [Act.put, List.setIfInBounds_toArray, List.set_cons_zero, List.set_cons_succ])
     refine tq 7 44 ?_
     refine wpAnyH_done (by kernel_rfl) ?_ _
     clear hHeld
     go_wp2_with (first | go_big_skip | go_big_guard | (refine wl_build0 rfl rfl ?_) | (refine wl_storeA [] hN rfl rfl rfl rfl rfl rfl rfl ?_; intro w7 hZ; clear hN))
     have hl := Loads.atA (P := Tryz.prog) (off := 0) (T := 27) tab0 [] hZ rfl rfl
     refine bodyPost_ret (results_cellR rfl rfl rfl hl) rfl ?_
     rw [HB.out]
     exact refRet_bad hZ _
end Go.Proofs.YtifajcblbedcoaaGreat
namespace Go.Proofs.YtifajcblbedcoaaGreat
set_option linter.unusedVariables false
set_option linter.unusedSimpArgs false
open Go.RowKit Hp
attribute [local irreducible] Go.Calls Go.wpList tailS
set_option maxRecDepth 100000
set_option maxHeartbeats 8000000
attribute [local go_sem ↓] heldInt heldInts heldRecs heldRec heldStr heldTab heldPtr heldFn
theorem run_append0 {w : World} {ao : Option Addr} {n c sz bytes : Nat} {u : Value} {t ty e : TypeId} {ys : List Value} (ht : Tryz.prog.underlying t = some (.slice e)) (he : tyE Tryz.prog e sz bytes = true) (hu : Rd w u sz 0 ys) (hn : n ≤ c) :
  (Builtin.append_ #[t, t] ty #[.slice ao n c, u]).run Tryz.prog w = .ok (.slice ao n c) w := by
 obtain ⟨i, z, hi, hz, hs, hb, hzs⟩ := tyE_spec he
 rcases hu.three with ⟨rfl, _, _⟩ | ⟨A, c', rfl, _, _⟩
 ·cases ao <;> simp [Builtin.append_, run_underlying ht, sizeOf, typeInfo, hi, Builtin.lenOf, Builtin.firstCells, hn, loadCells, storeCells]
 ·have hf := run_firstCells_some (P := Tryz.prog) w i.size 0 A 0 c' [] (by simp) (fun j v hv => by cases hv)
  cases ao <;> simp [Builtin.append_, run_underlying ht, sizeOf, typeInfo, hi, Builtin.lenOf, hn, hf, storeCells]
theorem wl_append0 {ops : Array Oper} {rest : List Oper} {o : Oper} {a : Act} {w : World} {Q : Exit → Act → World → Prop} {s x : Operand} {t t' e : TypeId} {ao : Option Addr} {u : Value} {sz bytes n c : Nat} {ys : List Value}
  (hop : o.op = .call { callee := .builtin .append, args := #[s, x], argTypes := #[t, t'] }) (hw : Region.wanted o (yielded ops a.tmps) = true) (hs : a.eval s = .slice ao n c) (hx : a.eval x = u)
  (ht : TySl Tryz.prog t e) (ht' : TySl Tryz.prog t' e) (he : TyE Tryz.prog e sz bytes) (hrd : Rd w u sz 0 ys) (hn : n ≤ c)
  (h : wpList Tryz.prog ops Q rest (a.put o.dst (.slice ao n c)) w) : wpList Tryz.prog ops Q (o :: rest) a w := by
 have hr := run_append0 (w := w) (t := t) (ty := o.type) ht.out he.out hrd (ao := ao) hn
 refine wl_run hw ?_ h
 unfold execOp
 simp only [hop, resolve, invoke, builtin, Sem.run_bind, Sem.run_pure, Result.andThen_ok, List.map_toArray, List.map_cons, List.map_nil, hs, hx]
 rw [run_append_types ht.out ht'.out, hr]
 rfl
theorem ref_finF {w w' : World} {u : TC} {ra la : Option Addr} {nr rc nl lc j : Nat} {ys : List (Value × RC)} {K L : List HA} (hz : St w [] w' L) (h1 : HA.row (.slice ra nr rc) 53 44 nr (recsV ys) ∈ L) (h2 : HA.row (.slice la nl lc) 3 1 nl (numsV u.lives) ∈ L) (hK : ∀ y ∈ K, y ∈ L) (ho : OwnX K ys) (hn : ys.length = nr) (hj : j ≤ nr) (hm : u.lives.length = nl) (he : (ys.take j).map (·.2) = u.recs) (hb : nr ≤ 1000000 ∧ nl ≤ 1000000) :
  RefRet (0, u) w (.returned (.tuple #[.agg (tabC u (.slice ra j j) (.slice la nl lc)).toArray, .int .i64 0])) w' :=
 ⟨ra, la, j, j, nl, lc, ys.take j, L, rfl, fun _ _ _ _ hs hsub => ⟨⟨by
   have h := Rd.frontA (k := j) (Rd.row hs (hsub _ h1)) hj
   rwa [(recsV_takeL (fun y hy => (ho y hy).2.1) (k := j) (by omega)).1] at h, by rw [List.length_take]; omega, fun y hy => ((ho y (List.mem_of_mem_take hy)).sub fun z hz => hsub _ (hK z hz)).In hs⟩, he, Rd.row hs (hsub _ h2), hm, by omega, hb.2⟩, hz⟩
theorem refBusy13 (t : TC) (ar al : Option Addr) (nr cr nl cl : Nat) (xs : List (Value × RC)) (w : World) (ht : TabIn w t ar nr cr al nl cl xs) (z : Int) :
  Calls Tryz.prog 96 #[.agg (tabC t (.slice ar nr cr) (.slice al nl cl)).toArray, .int .i64 z] w fun e w' => e = .returned (.bool (t.recs.any fun x => x.own == z || x.origin == z)) ∧ St w [] w' [] := by
 have hst0 := St.refl w
 have HT := hid ht
 have hb := ht.br
 obtain ⟨E, hE⟩ : ∃ E, E = t.recs.any fun x => x.own == z || x.origin == z := ⟨_, rfl⟩
 rw [← hE]
 have HEE := hid (show E = (xs.map (·.2)).any fun x => x.own == z || x.origin == z by rw [hE, ht.eq])
 clear ht hE
 go_enter Tryz.func96, Tryz.ntmps96
 go_wp2_with (first | go_big_skip | go_big_guard | (refine wl_boxA hst0 rfl rfl rfl ?_; intro g2 w1 hst; clear hst0))
 go_loopw [5] (fun i wr => ∃ j : Nat, j ≤ nr ∧ i = .int .i64 (j : Int) ∧ St w [] wr [.blk g2 27 (tabC t (.slice ar nr cr) (.slice al nl cl))] ∧ Hid (∀ (i : Nat) (x : Value × RC), i < j → xs[i]? = some x → (x.2.own == z || x.2.origin == z) = false)) (fun i _ => nr - (intOf i).toNat)
 case atStart => exact ⟨0, Nat.zero_le _, rfl, hst, hid (fun i x hi _ => by omega)⟩
 case round =>
  clear hst
  obtain ⟨j, hj, rfl, hst, HA⟩ := hrel
  by_cases hlt : j < nr
  ·have e1 : decide ((j : Int) < (nr : Int)) = true := decide_eq_true (by omega)
   have z1 : IntKind.i64.wrap ((j : Int) + 1) = (j : Int) + 1 := IntWalk.i64_in _ (by omega)
   obtain ⟨x, lb, lo, hx, rfl, hin, hr⟩ := RecsIn.at HT.out.R hlt
   have HX := hid hx
   have HO := hid (show w.cell? ⟨lb, lo + j * 44 + 40, none⟩ = some (.int .i64 x.2.own) from hr 40 _ (cellsR_40 hin.L))
   have HG := hid (show w.cell? ⟨lb, lo + j * 44 + 41, none⟩ = some (.int .i64 x.2.origin) from hr 41 _ (cellsR_41 hin.L))
   clear hx hr hin
   cases q1 : (x.2.own == z)
   ·cases q2 : (x.2.origin == z)
    ·skip
     have HQ := hid (show (x.2.own == z || x.2.origin == z) = false by rw [q1, q2]; rfl)
     go_wp2_with (first | go_big_skip | go_big_guard | (refine wl_loadE rfl rfl rfl ?_; first | refine ⟨_, Loads.at [] hst rfl, ?_⟩ | refine ⟨_, Loads.old hst HO.out, ?_⟩ | refine ⟨_, Loads.old hst HG.out, ?_⟩) | (refine wl_index rfl rfl rfl rfl hlt ?_))
     go_roundw
     case rel => exact ⟨j + 1, by omega, rfl, hst, hid (fun i a hi ha => by
      by_cases e : i = j
      ·subst e
       rw [HX.out] at ha
       cases ha
       exact HQ.out
      ·exact HA.out i a (by omega) ha)⟩
     case measure => simp [intOf]; omega
    ·skip
     have HQ := hid (show (x.2.own == z || x.2.origin == z) = true by rw [q1, q2]; simp)
     go_wp2_with (first | go_big_skip | go_big_guard | (refine wl_loadE rfl rfl rfl ?_; first | refine ⟨_, Loads.at [] hst rfl, ?_⟩ | refine ⟨_, Loads.old hst HO.out, ?_⟩ | refine ⟨_, Loads.old hst HG.out, ?_⟩) | (refine wl_index rfl rfl rfl rfl hlt ?_))
     go_ret
     exact ⟨by rw [HEE.out, any_map_yes (p := fun r : RC => r.own == z || r.origin == z) HX.out HQ.out]; rfl, hst.nil⟩
   ·skip
    have HQ := hid (show (x.2.own == z || x.2.origin == z) = true by rw [q1]; simp)
    go_wp2_with (first | go_big_skip | go_big_guard | (refine wl_loadE rfl rfl rfl ?_; first | refine ⟨_, Loads.at [] hst rfl, ?_⟩ | refine ⟨_, Loads.old hst HO.out, ?_⟩ | refine ⟨_, Loads.old hst HG.out, ?_⟩) | (refine wl_index rfl rfl rfl rfl hlt ?_))
    go_ret
    exact ⟨by rw [HEE.out, any_map_yes (p := fun r : RC => r.own == z || r.origin == z) HX.out HQ.out]; rfl, hst.nil⟩
  ·have e1 : decide ((j : Int) < (nr : Int)) = false := decide_eq_false (by omega)
   have HF := hid (any_map_no (xs := xs) (p := fun r : RC => r.own == z || r.origin == z) fun i x hi hx => HA.out i x (by have := HT.out.R.len; omega) hx)
   clear HA
   go_wp2_with (first | go_big_skip | go_big_guard | (refine wl_loadE rfl rfl rfl ?_; refine ⟨_, Loads.at [] hst rfl, ?_⟩))
   go_ret
   exact ⟨by rw [HEE.out, HF.out]; rfl, hst.nil⟩
theorem refDrop13 (t : TC) (ar al : Option Addr) (nr cr nl cl : Nat) (xs : List (Value × RC)) (w : World) (ht : TabIn w t ar nr cr al nl cl xs) (nm : List UInt8) (hnm : nm.length ≤ 1000000) :
  Calls Tryz.prog 37 #[.agg (tabC t (.slice ar nr cr) (.slice al nl cl)).toArray, .string ⟨nm.toArray⟩] w (RefRet (opR t (dropT t nm)) w) := by
 have hst0 := St.refl w
 have HT := hid ht
 have b1 := ht.br
 have b2 := ht.bl
 obtain ⟨r, hr⟩ : ∃ r, r = opR t (dropT t nm) := ⟨_, rfl⟩
 rw [← hr]
 cases hok : t.ok
 ·have HE := hid (err_no hok)
  have HB := hid (show r = badR 2 by rw [hr]; exact opR_no hok)
  clear ht hr hok
  go_enter Tryz.func37, Tryz.ntmps37
  go_wp2_with (first | go_big_skip | go_big_guard | (refine wl_boxA hst0 rfl rfl rfl ?_; intro gb w1 hA0; clear hst0) | (refine wl_alloc hA0 rfl rfl ?_; intro gz w2 hst; clear hA0) | (refine wl_loadE rfl rfl rfl ?_; first | refine ⟨_, Loads.atA (tabC t (.slice ar nr cr) (.slice al nl cl)) [_] hst rfl rfl, ?_⟩ | refine ⟨_, Loads.at [_] hst rfl, ?_⟩) | (go_at_call 86; refine (refCheck12_any t ar al nr cr nl cl xs _ (HT.out.R.old hst.nil) HT.out.eq (by omega) (Rd.old hst.nil HT.out.L) HT.out.ln (by omega)).mono ?_; rw [HE.out]; rintro _ w9 ⟨rfl, h4⟩; replace hst := St.call0 hst h4; clear h4) | (refine wl_build0 rfl rfl ?_) | (refine wl_storeA [] hst rfl rfl rfl rfl rfl rfl rfl ?_; intro w7 hZ; clear hst))
  have hl := Loads.atA (P := Tryz.prog) (off := 0) (T := 27) tab0 [] hZ rfl rfl
  refine bodyPost_ret (results_cellR rfl rfl rfl hl) rfl ?_
  rw [HB.out]
  exact refRet_bad hZ _
 ·have HE := hid (err_yes hok)
  have HOK := hid (okP_iff.1 hok)
  clear ht
  obtain ⟨p, hp⟩ : ∃ p, namedB nm = p := ⟨_, rfl⟩
  have he : r = opR t (if p then (match recAt nm t.recs with
   | none => badR 6
   | some v => (if t.recs.any (fun x => (x.own == v.id) || (x.origin == v.id)) then badR 17 else (0, { t with recs := t.recs.eraseIdx (findN nm t.recs).toNat }))) else badR 2) := by
   rw [hr]; unfold dropT; rw [hp]; rfl
  have HP := hid hp
  have HRL := hid HT.out.len
  clear hr hp
  cases p
  ·have HB := hid (show r = badR 2 by rw [he]; exact opR_z hok)
   clear he hok
   go_enter Tryz.func37, Tryz.ntmps37
   go_wp2_with (first | go_big_skip | go_big_guard | (refine wl_boxA hst0 rfl rfl rfl ?_; intro gb w1 hA0; clear hst0) | (refine wl_alloc hA0 rfl rfl ?_; intro gz w2 hst; clear hA0) | (refine wl_loadE rfl rfl rfl ?_; first | refine ⟨_, Loads.atA (tabC t (.slice ar nr cr) (.slice al nl cl)) [_] hst rfl rfl, ?_⟩ | refine ⟨_, Loads.at [_] hst rfl, ?_⟩) | (go_at_call 86; refine (refCheck12_any t ar al nr cr nl cl xs _ (HT.out.R.old hst.nil) HT.out.eq (by omega) (Rd.old hst.nil HT.out.L) HT.out.ln (by omega)).mono ?_; rw [HE.out]; rintro _ w9 ⟨rfl, h4⟩; replace hst := St.call0 hst h4; clear h4) | (go_at_call 95; refine (refNamed13 nm _ (by omega)).mono ?_; rw [HP.out]; rintro _ w9 ⟨rfl, h4⟩; replace hst := St.call0 hst h4; clear h4) | (refine wl_build0 rfl rfl ?_) | (refine wl_storeA [] hst rfl rfl rfl rfl rfl rfl rfl ?_; intro w7 hZ; clear hst))
   have hl := Loads.atA (P := Tryz.prog) (off := 0) (T := 27) tab0 [] hZ rfl rfl
   refine bodyPost_ret (results_cellR rfl rfl rfl hl) rfl ?_
   rw [HB.out]
   exact refRet_bad hZ _
  ·cases hv : recAt nm t.recs with
   | none =>
    have HB := hid (show r = badR 6 by rw [he, hv]; exact opR_z hok)
    have HF := hid (found_no hv)
    clear he hok hv
    go_enter Tryz.func37, Tryz.ntmps37
    go_wp2_with (first | go_big_skip | go_big_guard | (refine wl_boxA hst0 rfl rfl rfl ?_; intro gb w1 hA0; clear hst0) | (refine wl_alloc hA0 rfl rfl ?_; intro gz w2 hst; clear hA0) | (refine wl_loadE rfl rfl rfl ?_; first | refine ⟨_, Loads.atA (tabC t (.slice ar nr cr) (.slice al nl cl)) [_] hst rfl rfl, ?_⟩ | refine ⟨_, Loads.at [_] hst rfl, ?_⟩) | (go_at_call 86; refine (refCheck12_any t ar al nr cr nl cl xs _ (HT.out.R.old hst.nil) HT.out.eq (by omega) (Rd.old hst.nil HT.out.L) HT.out.ln (by omega)).mono ?_; rw [HE.out]; rintro _ w9 ⟨rfl, h4⟩; replace hst := St.call0 hst h4; clear h4) | (go_at_call 95; refine (refNamed13 nm _ (by omega)).mono ?_; rw [HP.out]; rintro _ w9 ⟨rfl, h4⟩; replace hst := St.call0 hst h4; clear h4) | (go_at_call 91; refine (refFind_any t (.slice al nl cl) nm ar nr cr xs _ (HT.out.R.old hst) (by omega)).mono ?_; rw [HT.out.eq, HF.out]; rintro _ w9 ⟨rfl, h4⟩; replace hst := St.call0 hst h4; clear h4) | (refine wl_build0 rfl rfl ?_) | (refine wl_storeA [] hst rfl rfl rfl rfl rfl rfl rfl ?_; intro w7 hZ; clear hst))
    have hl := Loads.atA (P := Tryz.prog) (off := 0) (T := 27) tab0 [] hZ rfl rfl
    refine bodyPost_ret (results_cellR rfl rfl rfl hl) rfl ?_
    rw [HB.out]
    exact refRet_bad hZ _
   | some v =>
    rw [hv] at he
    replace he : r = opR t (if t.recs.any (fun x => (x.own == v.id) || (x.origin == v.id)) then badR 17 else (0, { t with recs := t.recs.eraseIdx (findN nm t.recs).toNat })) := he
    have hfn : findN nm t.recs = ((findP nm t.recs).1 : Int) := by
     rcases find_split (nm := nm) (l := t.recs) with ⟨h1, _⟩ | ⟨j, y', h1, h2, h3, h4, _⟩
     ·rw [hv] at h1; cases h1
     ·rw [h3, h4]
    obtain ⟨j, sv, lb, lo, hf, hx, hlt, har, hin, hrx⟩ := found_at HT.out hv
    subst har
    have HF := hid hf
    have HRX := hid hrx
    have HIX := hid hin
    have HLL := hid hin.L
    have HL44 := hid (cellsR_len hin.L)
    have H35 := hid (PV.len (p := v.pv sv) hin.L)
    have HVL := hid (birth_le hok (List.mem_of_find?_eq_some hv)).1
    clear hf hx hrx hin
    have HLV := hid HT.out.ln
    have HBD := hid (show nr ≤ 1000000 ∧ nl ≤ 1000000 from ⟨b1, b2⟩)
    have HID := hid (show w.cell? ⟨lb, lo + j * 44, none⟩ = some (.int .i64 v.id) from HRX.out 0 _ rfl)
    rw [HF.out] at hfn
    obtain ⟨a9, ha9⟩ : ∃ q, t.recs.any (fun x => (x.own == v.id) || (x.origin == v.id)) = q := ⟨_, rfl⟩
    have HBZ := hid (show (t.recs.any fun x => x.own == v.id || x.origin == v.id) = a9 from ha9)
    rw [ha9] at he
    cases a9
    ·have HB := hid (show r = (0, (recsT t (t.recs.eraseIdx j))) by
      rw [he]
      show opR t ((0 : Int), { t with recs := t.recs.eraseIdx (findN nm t.recs).toNat }) = _
      rw [hfn]
      exact opR_0 hok)
     clear he hok hv hfn ha9
     go_enter Tryz.func37, Tryz.ntmps37
     go_wp2_with (first | go_big_skip | go_big_guard | (refine wl_boxA hst0 rfl rfl rfl ?_; intro gb w1 hA0; clear hst0) | (refine wl_alloc hA0 rfl rfl ?_; intro gz w2 hst; clear hA0) | (refine wl_loadE rfl rfl rfl ?_; first | refine ⟨_, Loads.atA (tabC t (.slice (some ⟨lb, lo, none⟩) nr cr) (.slice al nl cl)) [_] hst rfl rfl, ?_⟩ | refine ⟨_, Loads.at [_] hst rfl, ?_⟩) | (go_at_call 86; refine (refCheck12_any t (some ⟨lb, lo, none⟩) al nr cr nl cl xs _ (HT.out.R.old hst.nil) HT.out.eq (by omega) (Rd.old hst.nil HT.out.L) HT.out.ln (by omega)).mono ?_; rw [HE.out]; rintro _ w9 ⟨rfl, h4⟩; replace hst := St.call0 hst h4; clear h4) | (go_at_call 95; refine (refNamed13 nm _ (by omega)).mono ?_; rw [HP.out]; rintro _ w9 ⟨rfl, h4⟩; replace hst := St.call0 hst h4; clear h4) | (go_at_call 91; refine (refFind_any t (.slice al nl cl) nm (some ⟨lb, lo, none⟩) nr cr xs _ (HT.out.R.old hst) (by omega)).mono ?_; rw [HT.out.eq, HF.out]; rintro _ w9 ⟨rfl, h4⟩; replace hst := St.call0 hst h4; clear h4))
     have hX := hst.drew
     clear hst
     refine wp_region_held_drew (S := (fun w' => (loadVarH 27 ⟨gb, 0, none⟩).run Tryz.prog w' = .ok (.agg (List.toArray ((tabC t (.slice (some ⟨lb, lo, none⟩) nr cr) (.slice al nl cl))))) w' ∧ (loadVarH 22 ⟨gb, 1, none⟩).run Tryz.prog w' = .ok (.slice (some ⟨lb, lo, none⟩) nr cr) w' ∧ (loadVarH 3 ⟨lb, lo + j * 44, none⟩).run Tryz.prog w' = .ok (.int .i64 v.id) w')) (by kernel_rfl) (by exact ⟨ldA ((tabC t (.slice (some ⟨lb, lo, none⟩) nr cr) (.slice al nl cl))) [_] hX (rfl) (rfl), ldS [_] hX rfl, ldO hX HID.out⟩) (fun hHeld => ?_)
     refine tq 0 27 ?_
     refine tq 1 28 ?_
     refine tq 3 30 ?_
     refine tq 2 29 ?_
     refine tq 4 31 ?_
     refine tq 5 32 ?_
     refine tq 6 33 ?_
     refine wpAnyH_ready (rs := [7]) (by kernel_rfl) (by simp) ?_
     refine (AllReadyH.cons (o := ⟨some 34, _, _, _, _, _⟩) rfl (fun K hK => ?_) AllReadyH.nil)
     rw [if_pos (by rfl)]
     go_simp
     go_at_call 96
     refine (refBusy13 t (some ⟨lb, lo, none⟩) al nr cr nl cl xs _ (HT.out.old hX.nil) v.id).mono ?_
     rw [HBZ.out]
     rintro _ w9 ⟨rfl, h4⟩
     have hN : St w [] w9 [.blk gz 27 tab0, .blk gb 27 (tabC t (.slice (some ⟨lb, lo, none⟩) nr cr) (.slice al nl cl))] := St.call0 hX h4
     clear h4
     refine hK.out _ _ ?_ (fun hHeld => ?_)
     ·exact ⟨ldA ((tabC t (.slice (some ⟨lb, lo, none⟩) nr cr) (.slice al nl cl))) [_] hN (rfl) (rfl), ldS [_] hN rfl, ldO hN HID.out⟩
     clear hK K
     (try simp only [Act.put, List.setIfInBounds_toArray, List.set_cons_zero, List.set_cons_succ])
     refine wpAnyH_done (by kernel_rfl) ?_ _
     clear hHeld
     go_wp2_with (first | go_big_skip | go_big_guard | (refine wl_loadE rfl rfl rfl ?_; refine ⟨_, Loads.atA (tabC t (.slice (some ⟨lb, lo, none⟩) nr cr) (.slice al nl cl)) [_] hN rfl rfl, ?_⟩) | (go_at_call 94; refine (refOwn_ok t (some ⟨lb, lo, none⟩) al nr cr nl cl xs _ (HT.out.old hN.nil) HOK.out).mono ?_; rintro _ w9 ⟨ra, rc, la, lc, ys, KK, rfl, hye, hyn, hyo, h4⟩; have hO0 := St.perm (St.call hN h4) List.perm_append_comm; obtain ⟨gr, rfl⟩ := row_spotA hO0 (.tail _ (.tail _ (.head _))) (by omega); have hO1 : St w [] w9 (.blk gz 27 tab0 :: .blk gb 27 (tabC t (.slice (some ⟨lb, lo, none⟩) nr cr) (.slice al nl cl)) :: .row (.slice (some ⟨gr, 0, none⟩) nr rc) 53 44 nr (recsV ys) :: .row (.slice la nl lc) 3 1 nl (numsV t.lives) :: KK) := hO0; have HYE := hid hye; have HYN := hid hyn; have HYO := hid hyo; clear h4 hO0 hN hye hyn hyo) | (refine wl_alloc hO1 rfl rfl ?_; intro g13 w1 hO2; clear hO1) | (refine wl_storeA [] hO2 rfl rfl rfl rfl (vs := (tabC t (.slice (some ⟨gr, 0, none⟩) nr rc) (.slice la nl lc))) rfl rfl rfl ?_; intro w1 h4; have hU1 : St w [] w1 (.blk g13 27 (tabC t (.slice (some ⟨gr, 0, none⟩) nr rc) (.slice la nl lc)) :: .blk gz 27 tab0 :: .blk gb 27 (tabC t (.slice (some ⟨lb, lo, none⟩) nr cr) (.slice al nl cl)) :: .row (.slice (some ⟨gr, 0, none⟩) nr rc) 53 44 nr (recsV ys) :: .row (.slice la nl lc) 3 1 nl (numsV t.lives) :: KK) := h4; clear h4 hO2))
     obtain ⟨hrc, hrc2⟩ : nr ≤ rc ∧ rc ≤ 9223372036854775807 := by
      obtain ⟨_, _, e, h1, h2⟩ := row_sliceC [_, _, _] hU1
      cases e
      exact ⟨h1, h2⟩
     have HLY := hid (show LX ys from fun q hq => (HYO.out q hq).2.1)
     obtain ⟨j1, hj1⟩ : ∃ q, q = j + 1 := ⟨_, rfl⟩
     have HJ1 := hid hj1
     have z1 : IntKind.i64.wrap ((j : Int) + 1) = (j1 : Int) := by rw [IntWalk.i64_in _ (by omega)]; omega
     have hsl1 := fun w => sliceR_hm (some ⟨gr, 0, none⟩) nr rc j (by omega) w
     have hsl2 := fun w => sliceR_l (some ⟨gr, 0, none⟩) nr rc j1 (by omega) w
     by_cases hlast : j1 < nr
     ·clear hj1
      have hE := hU1.drew
      clear hU1
      refine wp_region_last (S := (fun w' => (loadVarH 22 ⟨g13, 1, none⟩).run Tryz.prog w' = .ok (.slice (some ⟨gr, 0, none⟩) nr rc) w')) (by kernel_rfl) rfl (by kernel_rfl) (by exact ldS [] hE rfl) (fun hHeld => ?_)
      simp only [List.pop_toArray, List.dropLast, List.size_toArray, List.length_cons, List.length_nil]
      refine tq 0 38 ?_
      refine tq 1 39 ?_
      refine tq 2 40 ?_
      refine tq 3 41 ?_
      refine tq 4 42 ?_
      refine tq 5 43 ?_
      refine tq 6 44 ?_
      refine tq 7 45 ?_
      refine tq 8 46 ?_
      refine tq 9 47 ?_
      refine wpAnyH_ready (rs := [10]) (by kernel_rfl) (by simp) ?_
      refine (AllReadyH.cons (o := ⟨some 48, _, _, _, _, _⟩) rfl (fun K hK => ?_) AllReadyH.nil)
      rw [if_pos (by rfl)]
      refine ow_of_wl (ops := #[]) (by rfl) ?_
      apply wl_appFull (n := j) (m := nr - j1) (xs := recsV (ys.take j)) (ys := recsV (ys.drop j1)) hE
      ·rfl
      ·rfl
      ·exact rfl
      ·exact rfl
      ·infer_instance
      ·infer_instance
      ·infer_instance
      ·exact (by have h := Rd.frontA (k := j) (Rd.row hE (.tail _ (.tail _ (.tail _ (.head _))))) (by omega); rw [(recsV_takeL HLY.out (k := j) (by rw [HYN.out]; omega)).1] at h; exact h)
      ·exact (by have h := Rd.tailA (k := j1) (Rd.row hE (.tail _ (.tail _ (.tail _ (.head _))))) (by omega); rw [(recsV_takeL HLY.out (k := j1) (by rw [HYN.out]; omega)).2] at h; exact h)
      ·omega
      ·exact ⟨by unfold maxLen; omega, by omega⟩
      intro v9 w6 h9
      obtain ⟨rb, rd, rfl, _, _⟩ := row_sliceC [] h9
      have hM : St w [] w6 (.row (.slice rb (j + (nr - j1)) rd) 53 44 (j + (nr - j1)) (recsV (ys.take j) ++ recsV (ys.drop j1)) :: .blk g13 27 (tabC t (.slice (some ⟨gr, 0, none⟩) nr rc) (.slice la nl lc)) :: .blk gz 27 tab0 :: .blk gb 27 (tabC t (.slice (some ⟨lb, lo, none⟩) nr cr) (.slice al nl cl)) :: .row (.slice (some ⟨gr, 0, none⟩) nr rc) 53 44 nr (recsV ys) :: .row (.slice la nl lc) 3 1 nl (numsV t.lives) :: KK) := h9
      clear h9
      refine q0_nil ?_
      refine hK.out _ _ ?_ (fun hHeld => ?_)
      ·exact ldS [_] hM rfl
      clear hK K
      (try simp only [Act.put, List.setIfInBounds_toArray, List.set_cons_zero, List.set_cons_succ])
      refine tq 11 49 ?_
      refine wpAnyH_done (by kernel_rfl) ?_ _
      clear hHeld
      refine QL_intro ?_
      go_wp2_with (first | go_big_skip | go_big_guard | (refine wl_store [_] hM rfl rfl rfl (off := 1) (v := .slice rb (j + (nr - j1)) rd) rfl rfl rfl (by show (1 : Nat) + 1 ≤ 7; decide) ?_; intro w7 h4; have hF : St w [] w7 (.row (.slice rb (j + (nr - j1)) rd) 53 44 (j + (nr - j1)) (recsV (ys.take j) ++ recsV (ys.drop j1)) :: .blk g13 27 (tabC t (.slice rb (j + (nr - j1)) rd) (.slice la nl lc)) :: .blk gz 27 tab0 :: .blk gb 27 (tabC t (.slice (some ⟨lb, lo, none⟩) nr cr) (.slice al nl cl)) :: .row (.slice (some ⟨gr, 0, none⟩) nr rc) 53 44 nr (recsV ys) :: .row (.slice la nl lc) 3 1 nl (numsV t.lives) :: KK) := h4; clear h4 hM) | (refine wl_loadE rfl rfl rfl ?_; refine ⟨_, Loads.atA (tabC t (.slice rb (j + (nr - j1)) rd) (.slice la nl lc)) [_] hF rfl rfl, ?_⟩) | (refine wl_storeA [_, _] hF rfl rfl rfl rfl (vs := (tabC t (.slice rb (j + (nr - j1)) rd) (.slice la nl lc))) rfl rfl rfl ?_; intro w7 h4; have hZ : St w [] w7 (.row (.slice rb (j + (nr - j1)) rd) 53 44 (j + (nr - j1)) (recsV (ys.take j) ++ recsV (ys.drop j1)) :: .blk g13 27 (tabC t (.slice rb (j + (nr - j1)) rd) (.slice la nl lc)) :: .blk gz 27 (tabC t (.slice rb (j + (nr - j1)) rd) (.slice la nl lc)) :: .blk gb 27 (tabC t (.slice (some ⟨lb, lo, none⟩) nr cr) (.slice al nl cl)) :: .row (.slice (some ⟨gr, 0, none⟩) nr rc) 53 44 nr (recsV ys) :: .row (.slice la nl lc) 3 1 nl (numsV t.lives) :: KK) := h4; clear h4 hF))
      have hl := Loads.atA (P := Tryz.prog) (off := 0) (T := 27) (tabC t (.slice rb (j + (nr - j1)) rd) (.slice la nl lc)) [_, _] hZ rfl rfl
      refine bodyPost_ret (results_cellR rfl rfl rfl hl) rfl ?_
      rw [HB.out]
      refine ref_fin (u := (recsT t (t.recs.eraseIdx j))) (K := KK) (ys := ys.take j ++ ys.drop j1) hZ (by rw [recsV_append]; exact .head _) (.tail _ (.tail _ (.tail _ (.tail _ (.tail _ (.head _)))))) (fun y hy => .tail _ (.tail _ (.tail _ (.tail _ (.tail _ (.tail _ (hy))))))) (fun q hq => ?_) ?_ HLV.out ?_ ⟨by have := HBD.out.1; have := HJ1.out; omega, HBD.out.2⟩
      ·rcases List.mem_append.1 hq with h | h
       ·exact HYO.out q (List.mem_of_mem_take h)
       ·exact HYO.out q (List.mem_of_mem_drop h)
      ·rw [List.length_append, List.length_take, List.length_drop, HYN.out]; have := HJ1.out; omega
      ·show _ = t.recs.eraseIdx j
       rw [List.map_append, List.map_take, List.map_drop, HYE.out, List.eraseIdx_eq_take_drop_succ, HJ1.out]
     ·clear hj1
      have hE := hU1.drew
      clear hU1
      refine wp_region_last (S := (fun w' => (loadVarH 22 ⟨g13, 1, none⟩).run Tryz.prog w' = .ok (.slice (some ⟨gr, 0, none⟩) nr rc) w')) (by kernel_rfl) rfl (by kernel_rfl) (by exact ldS [] hE rfl) (fun hHeld => ?_)
      simp only [List.pop_toArray, List.dropLast, List.size_toArray, List.length_cons, List.length_nil]
      refine tq 0 38 ?_
      refine tq 1 39 ?_
      refine tq 2 40 ?_
      refine tq 3 41 ?_
      refine tq 4 42 ?_
      refine tq 5 43 ?_
      refine tq 6 44 ?_
      refine tq 7 45 ?_
      refine tq 8 46 ?_
      refine tq 9 47 ?_
      refine wpAnyH_ready (rs := [10]) (by kernel_rfl) (by simp) ?_
      refine (AllReadyH.cons (o := ⟨some 48, _, _, _, _, _⟩) rfl (fun K hK => ?_) AllReadyH.nil)
      rw [if_pos (by rfl)]
      refine ow_of_wl (ops := #[]) (by rfl) ?_
      apply wl_append0 (n := j) (c := j) (ao := some ⟨gr, 0, none⟩) (ys := [])
      ·rfl
      ·rfl
      ·exact rfl
      ·exact rfl
      ·infer_instance
      ·infer_instance
      ·infer_instance
      ·exact (by have h := Rd.tailA (k := j1) (Rd.row hE (.tail _ (.tail _ (.tail _ (.head _))))) (by have := HJ1.out; omega); rw [show nr - j1 = 0 by omega] at h; have h2 : List.drop (j1 * 44) (recsV ys) = [] := List.eq_nil_of_length_eq_zero (by have := h.1; omega); rw [h2] at h; exact h)
      ·exact Nat.le_refl _
      refine q0_nil ?_
      refine hK.out _ _ ?_ (fun hHeld => ?_)
      ·exact ldS [] hE rfl
      clear hK K
      (try simp only [Act.put, List.setIfInBounds_toArray, List.set_cons_zero, List.set_cons_succ])
      refine tq 11 49 ?_
      refine wpAnyH_done (by kernel_rfl) ?_ _
      clear hHeld
      refine QL_intro ?_
      go_wp2_with (first | go_big_skip | go_big_guard | (refine wl_store [] hE rfl rfl rfl (off := 1) (v := .slice (some ⟨gr, 0, none⟩) j j) rfl rfl rfl (by show (1 : Nat) + 1 ≤ 7; decide) ?_; intro w7 h4; have hF : St w [] w7 (.blk g13 27 (tabC t (.slice (some ⟨gr, 0, none⟩) j j) (.slice la nl lc)) :: .blk gz 27 tab0 :: .blk gb 27 (tabC t (.slice (some ⟨lb, lo, none⟩) nr cr) (.slice al nl cl)) :: .row (.slice (some ⟨gr, 0, none⟩) nr rc) 53 44 nr (recsV ys) :: .row (.slice la nl lc) 3 1 nl (numsV t.lives) :: KK) := h4; clear h4 hE) | (refine wl_loadE rfl rfl rfl ?_; refine ⟨_, Loads.atA (tabC t (.slice (some ⟨gr, 0, none⟩) j j) (.slice la nl lc)) [] hF rfl rfl, ?_⟩) | (refine wl_storeA [_] hF rfl rfl rfl rfl (vs := (tabC t (.slice (some ⟨gr, 0, none⟩) j j) (.slice la nl lc))) rfl rfl rfl ?_; intro w7 h4; have hZ : St w [] w7 (.blk g13 27 (tabC t (.slice (some ⟨gr, 0, none⟩) j j) (.slice la nl lc)) :: .blk gz 27 (tabC t (.slice (some ⟨gr, 0, none⟩) j j) (.slice la nl lc)) :: .blk gb 27 (tabC t (.slice (some ⟨lb, lo, none⟩) nr cr) (.slice al nl cl)) :: .row (.slice (some ⟨gr, 0, none⟩) nr rc) 53 44 nr (recsV ys) :: .row (.slice la nl lc) 3 1 nl (numsV t.lives) :: KK) := h4; clear h4 hF))
      have hl := Loads.atA (P := Tryz.prog) (off := 0) (T := 27) (tabC t (.slice (some ⟨gr, 0, none⟩) j j) (.slice la nl lc)) [_] hZ rfl rfl
      refine bodyPost_ret (results_cellR rfl rfl rfl hl) rfl ?_
      rw [HB.out]
      refine ref_finF (u := (recsT t (t.recs.eraseIdx j))) (K := KK) (ys := ys) (j := j) hZ (.tail _ (.tail _ (.tail _ (.head _)))) (.tail _ (.tail _ (.tail _ (.tail _ (.head _))))) (fun y hy => .tail _ (.tail _ (.tail _ (.tail _ (.tail _ (hy)))))) HYO.out HYN.out (by omega) HLV.out ?_ HBD.out
      show _ = t.recs.eraseIdx j
      rw [List.map_take, HYE.out, List.eraseIdx_eq_take_drop_succ, List.drop_of_length_le (by rw [HRL.out]; have := HJ1.out; omega), List.append_nil]
    ·have HB := hid (show r = badR 17 by rw [he]; exact opR_z hok)
     clear he hok hv hfn ha9
     go_enter Tryz.func37, Tryz.ntmps37
     go_wp2_with (first | go_big_skip | go_big_guard | (refine wl_boxA hst0 rfl rfl rfl ?_; intro gb w1 hA0; clear hst0) | (refine wl_alloc hA0 rfl rfl ?_; intro gz w2 hst; clear hA0) | (refine wl_loadE rfl rfl rfl ?_; first | refine ⟨_, Loads.atA (tabC t (.slice (some ⟨lb, lo, none⟩) nr cr) (.slice al nl cl)) [_] hst rfl rfl, ?_⟩ | refine ⟨_, Loads.at [_] hst rfl, ?_⟩) | (go_at_call 86; refine (refCheck12_any t (some ⟨lb, lo, none⟩) al nr cr nl cl xs _ (HT.out.R.old hst.nil) HT.out.eq (by omega) (Rd.old hst.nil HT.out.L) HT.out.ln (by omega)).mono ?_; rw [HE.out]; rintro _ w9 ⟨rfl, h4⟩; replace hst := St.call0 hst h4; clear h4) | (go_at_call 95; refine (refNamed13 nm _ (by omega)).mono ?_; rw [HP.out]; rintro _ w9 ⟨rfl, h4⟩; replace hst := St.call0 hst h4; clear h4) | (go_at_call 91; refine (refFind_any t (.slice al nl cl) nm (some ⟨lb, lo, none⟩) nr cr xs _ (HT.out.R.old hst) (by omega)).mono ?_; rw [HT.out.eq, HF.out]; rintro _ w9 ⟨rfl, h4⟩; replace hst := St.call0 hst h4; clear h4))
     have hX := hst.drew
     clear hst
     refine wp_region_held_drew (S := (fun w' => (loadVarH 27 ⟨gb, 0, none⟩).run Tryz.prog w' = .ok (.agg (List.toArray ((tabC t (.slice (some ⟨lb, lo, none⟩) nr cr) (.slice al nl cl))))) w' ∧ (loadVarH 22 ⟨gb, 1, none⟩).run Tryz.prog w' = .ok (.slice (some ⟨lb, lo, none⟩) nr cr) w' ∧ (loadVarH 3 ⟨lb, lo + j * 44, none⟩).run Tryz.prog w' = .ok (.int .i64 v.id) w')) (by kernel_rfl) (by exact ⟨ldA ((tabC t (.slice (some ⟨lb, lo, none⟩) nr cr) (.slice al nl cl))) [_] hX (rfl) (rfl), ldS [_] hX rfl, ldO hX HID.out⟩) (fun hHeld => ?_)
     refine tq 0 27 ?_
     refine tq 1 28 ?_
     refine tq 3 30 ?_
     refine tq 2 29 ?_
     refine tq 4 31 ?_
     refine tq 5 32 ?_
     refine tq 6 33 ?_
     refine wpAnyH_ready (rs := [7]) (by kernel_rfl) (by simp) ?_
     refine (AllReadyH.cons (o := ⟨some 34, _, _, _, _, _⟩) rfl (fun K hK => ?_) AllReadyH.nil)
     rw [if_pos (by rfl)]
     go_simp
     go_at_call 96
     refine (refBusy13 t (some ⟨lb, lo, none⟩) al nr cr nl cl xs _ (HT.out.old hX.nil) v.id).mono ?_
     rw [HBZ.out]
     rintro _ w9 ⟨rfl, h4⟩
     have hN : St w [] w9 [.blk gz 27 tab0, .blk gb 27 (tabC t (.slice (some ⟨lb, lo, none⟩) nr cr) (.slice al nl cl))] := St.call0 hX h4
     clear h4
     refine hK.out _ _ ?_ (fun hHeld => ?_)
     ·exact ⟨ldA ((tabC t (.slice (some ⟨lb, lo, none⟩) nr cr) (.slice al nl cl))) [_] hN (rfl) (rfl), ldS [_] hN rfl, ldO hN HID.out⟩
     clear hK K
     (try simp only [Act.put, List.setIfInBounds_toArray, List.set_cons_zero, List.set_cons_succ])
     refine wpAnyH_done (by kernel_rfl) ?_ _
     clear hHeld
     go_wp2_with (first | go_big_skip | go_big_guard | (refine wl_build0 rfl rfl ?_) | (refine wl_storeA [] hN rfl rfl rfl rfl rfl rfl rfl ?_; intro w7 hZ; clear hN))
     have hl := Loads.atA (P := Tryz.prog) (off := 0) (T := 27) tab0 [] hZ rfl rfl
     refine bodyPost_ret (results_cellR rfl rfl rfl hl) rfl ?_
     rw [HB.out]
     exact refRet_bad hZ _
end Go.Proofs.YtifajcblbedcoaaGreat
namespace Go.Proofs.YtifajcblbedcoaaGreat
set_option linter.unusedVariables false
set_option linter.unusedSimpArgs false
open Go.RowKit Hp
attribute [local irreducible] Go.Calls Go.wpList
set_option maxRecDepth 100000
set_option maxHeartbeats 8000000
attribute [local go_sem ↓] heldInt heldInts heldRecs heldRec heldStr heldTab heldPtr heldFn
def volZ (t : TC) (nm : List UInt8) (fine : Bool) : Int := if t.ok then (if fine && namedB nm then (match recAt nm t.recs with
 | none => 6
 | some r => if r.kind == 2 then 18 else 0) else 2) else 2
def volI (t : TC) (nm : List UInt8) (fine : Bool) : Int := if volZ t nm fine == 0 then findN nm t.recs else 0
theorem change_vol {t : TC} {nm : List UInt8} {fine : Bool} {f : RC → RC} (h : (volZ t nm fine == 0) = false) : opR t (changeT t nm fine f) = badR (volZ t nm fine) := by
 unfold volZ at h ⊢
 cases hok : t.ok with
 | false => exact opR_no hok
 | true =>
  rw [hok] at h
  rw [if_pos rfl] at h ⊢
  unfold changeT
  by_cases hc : (fine && namedB nm) = true
  ·rw [if_pos hc] at h ⊢
   rw [if_pos hc]
   cases hr : recAt nm t.recs with
   | none => exact opR_z hok
   | some r =>
    rw [hr] at h
    simp only at h ⊢
    by_cases hk : (r.kind == 2) = true
    ·rw [if_pos hk]
     rw [if_pos hk]
     exact opR_z hok
    ·rw [if_neg hk] at h
     exact absurd h (by decide)
  ·rw [if_neg hc]
   rw [if_neg hc]
   exact opR_z hok
theorem vol_at {t : TC} {nm : List UInt8} {fine : Bool} (h : (volZ t nm fine == 0) = true) : t.ok = true ∧ fine = true ∧ namedB nm = true ∧ ∃ v, recAt nm t.recs = some v ∧ (v.kind == 2) = false := by
 unfold volZ at h
 cases hok : t.ok with
 | false => rw [hok, if_neg (by decide)] at h; exact absurd h (by decide)
 | true =>
  rw [hok, if_pos rfl] at h
  by_cases hc : (fine && namedB nm) = true
  ·rw [if_pos hc] at h
   simp only [Bool.and_eq_true] at hc
   cases hr : recAt nm t.recs with
   | none => rw [hr] at h; exact absurd h (by decide)
   | some r =>
    rw [hr] at h
    simp only at h
    by_cases hk : (r.kind == 2) = true
    ·rw [if_pos hk] at h; exact absurd h (by decide)
    ·exact ⟨rfl, hc.1, hc.2, r, rfl, by simpa using hk⟩
  ·rw [if_neg hc] at h; exact absurd h (by decide)
theorem change_is {t : TC} {nm : List UInt8} {fine : Bool} {f : RC → RC} {v : RC} {j : Nat} (h : (volZ t nm fine == 0) = true) (hv : recAt nm t.recs = some v) (hj : findN nm t.recs = (j : Int)) : changeT t nm fine f = (0, recsT t (t.recs.set j (f v))) := by
 obtain ⟨_, h1, h2, v', h3, h4⟩ := vol_at h
 rw [hv] at h3
 cases h3
 unfold changeT
 rw [h1, h2, hv]
 show (if v.kind == 2 then badR 18 else _) = _
 rw [h4]
 show ((0 : Int), { t with recs := setN nm t.recs (f v) }) = _
 unfold setN recsT
 rw [hj]
 rfl
theorem root_fine (p : PV) : rootB p = (p.ok && (p.hole || p.v == 3)) := by
 have key : p.hole = true → p.ok = true := fun h => by
  unfold PV.ok checkB
  unfold PV.hole at h
  rw [h]
  rfl
 unfold rootB
 cases h1 : p.hole <;> cases h2 : p.ok <;> simp_all
theorem findN_of {nm : List UInt8} {l : List RC} {j : Nat} (h : findP nm l = ((j : Int), true)) : findN nm l = (j : Int) := by
 unfold findP at h
 split at h
 ·cases h
 ·simpa using h
theorem kind_two {t : TC} (h : OkP t) {v : RC} (hv : v ∈ t.recs) : (v.kind != 1) = (v.kind == 2) := by
 rcases alone_kind (h.alone v hv) with ⟨k, _⟩ | ⟨k, _⟩ <;> rw [k] <;> rfl
theorem refVol13 (t : TC) (ar al : Option Addr) (nr cr nl cl : Nat) (xs : List (Value × RC)) (w : World) (ht : TabIn w t ar nr cr al nl cl xs) (nm : List UInt8) (fine : Bool) (hnm : nm.length ≤ 1000000) :
  Calls Tryz.prog 98 #[.agg (tabC t (.slice ar nr cr) (.slice al nl cl)).toArray, .string ⟨nm.toArray⟩, .bool fine] w fun e w' => e = .returned (.tuple #[.int .i64 (volI t nm fine), .int .i64 (volZ t nm fine)]) ∧ St w [] w' [] := by
 have hst0 := St.refl w
 have HT := hid ht
 have b1 := ht.br
 have b2 := ht.bl
 obtain ⟨r, hr⟩ : ∃ r, r = (volI t nm fine, volZ t nm fine) := ⟨_, rfl⟩
 have h1 : volI t nm fine = r.1 := by rw [hr]
 have h2 : volZ t nm fine = r.2 := by rw [hr]
 rw [h1, h2]
 clear h1 h2
 cases hok : t.ok
 ·have HE := hid (err_no hok)
  have HB := hid (show r = (0, 2) by rw [hr]; unfold volI volZ; rw [hok]; rfl)
  clear ht hr hok
  go_enter Tryz.func98, Tryz.ntmps98
  go_wp2_with (first | go_big_skip | go_big_guard | (refine wl_boxA hst0 rfl rfl rfl ?_; intro gb w1 hst; clear hst0) | (refine wl_loadE rfl rfl rfl ?_; first | refine ⟨_, Loads.atA (tabC t (.slice ar nr cr) (.slice al nl cl)) [] hst rfl rfl, ?_⟩ | refine ⟨_, Loads.at [] hst rfl, ?_⟩) | (go_at_call 86; refine (refCheck12_any t ar al nr cr nl cl xs _ (HT.out.R.old hst.nil) HT.out.eq (by omega) (Rd.old hst.nil HT.out.L) HT.out.ln (by omega)).mono ?_; rw [HE.out]; rintro _ w9 ⟨rfl, h4⟩; replace hst := St.call0 hst h4; clear h4))
  go_ret2
  exact ⟨by rw [HB.out]; rfl, hst.nil⟩
 ·have HE := hid (err_yes hok)
  have HOK := hid (okP_iff.1 hok)
  clear ht
  obtain ⟨p, hp⟩ : ∃ p, namedB nm = p := ⟨_, rfl⟩
  have HP := hid hp
  cases p
  ·have HB := hid (show r = (0, 2) by rw [hr]; unfold volI volZ; rw [hok, hp]; cases fine <;> rfl)
   clear hr hok hp
   go_enter Tryz.func98, Tryz.ntmps98
   go_wp2_with (first | go_big_skip | go_big_guard | (refine wl_boxA hst0 rfl rfl rfl ?_; intro gb w1 hst; clear hst0) | (refine wl_loadE rfl rfl rfl ?_; first | refine ⟨_, Loads.atA (tabC t (.slice ar nr cr) (.slice al nl cl)) [] hst rfl rfl, ?_⟩ | refine ⟨_, Loads.at [] hst rfl, ?_⟩) | (go_at_call 86; refine (refCheck12_any t ar al nr cr nl cl xs _ (HT.out.R.old hst.nil) HT.out.eq (by omega) (Rd.old hst.nil HT.out.L) HT.out.ln (by omega)).mono ?_; rw [HE.out]; rintro _ w9 ⟨rfl, h4⟩; replace hst := St.call0 hst h4; clear h4) | (go_at_call 95; refine (refNamed13 nm _ (by omega)).mono ?_; rw [HP.out]; rintro _ w9 ⟨rfl, h4⟩; replace hst := St.call0 hst h4; clear h4))
   go_ret2
   exact ⟨by rw [HB.out]; rfl, hst.nil⟩
  ·cases fine
   ·have HB := hid (show r = (0, 2) by rw [hr]; unfold volI volZ; rw [hok, hp]; rfl)
    clear hr hok hp
    go_enter Tryz.func98, Tryz.ntmps98
    go_wp2_with (first | go_big_skip | go_big_guard | (refine wl_boxA hst0 rfl rfl rfl ?_; intro gb w1 hst; clear hst0) | (refine wl_loadE rfl rfl rfl ?_; first | refine ⟨_, Loads.atA (tabC t (.slice ar nr cr) (.slice al nl cl)) [] hst rfl rfl, ?_⟩ | refine ⟨_, Loads.at [] hst rfl, ?_⟩) | (go_at_call 86; refine (refCheck12_any t ar al nr cr nl cl xs _ (HT.out.R.old hst.nil) HT.out.eq (by omega) (Rd.old hst.nil HT.out.L) HT.out.ln (by omega)).mono ?_; rw [HE.out]; rintro _ w9 ⟨rfl, h4⟩; replace hst := St.call0 hst h4; clear h4) | (go_at_call 95; refine (refNamed13 nm _ (by omega)).mono ?_; rw [HP.out]; rintro _ w9 ⟨rfl, h4⟩; replace hst := St.call0 hst h4; clear h4))
    go_ret2
    exact ⟨by rw [HB.out]; rfl, hst.nil⟩
   ·cases hv : recAt nm t.recs with
    | none =>
     have HB := hid (show r = (0, 6) by rw [hr]; unfold volI volZ; rw [hok, hp, hv]; rfl)
     have HF := hid (found_no hv)
     clear hr hok hv hp
     go_enter Tryz.func98, Tryz.ntmps98
     go_wp2_with (first | go_big_skip | go_big_guard | (refine wl_boxA hst0 rfl rfl rfl ?_; intro gb w1 hst; clear hst0) | (refine wl_loadE rfl rfl rfl ?_; first | refine ⟨_, Loads.atA (tabC t (.slice ar nr cr) (.slice al nl cl)) [] hst rfl rfl, ?_⟩ | refine ⟨_, Loads.at [] hst rfl, ?_⟩) | (go_at_call 86; refine (refCheck12_any t ar al nr cr nl cl xs _ (HT.out.R.old hst.nil) HT.out.eq (by omega) (Rd.old hst.nil HT.out.L) HT.out.ln (by omega)).mono ?_; rw [HE.out]; rintro _ w9 ⟨rfl, h4⟩; replace hst := St.call0 hst h4; clear h4) | (go_at_call 95; refine (refNamed13 nm _ (by omega)).mono ?_; rw [HP.out]; rintro _ w9 ⟨rfl, h4⟩; replace hst := St.call0 hst h4; clear h4) | (go_at_call 91; refine (refFind_any t (.slice al nl cl) nm ar nr cr xs _ (HT.out.R.old hst) (by omega)).mono ?_; rw [HT.out.eq, HF.out]; rintro _ w9 ⟨rfl, h4⟩; replace hst := St.call0 hst h4; clear h4))
     go_ret2
     exact ⟨by rw [HB.out]; rfl, hst.nil⟩
    | some v =>
     obtain ⟨j, sv, lb, lo, hf, hx, hlt, har, hin, hrx⟩ := found_at HT.out hv
     subst har
     have HF := hid hf
     have HRX := hid hrx
     have HIX := hid hin
     have HLL := hid hin.L
     have HL44 := hid (cellsR_len hin.L)
     have H35 := hid (PV.len (p := v.pv sv) hin.L)
     have HVL := hid (birth_le hok (List.mem_of_find?_eq_some hv)).1
     clear hf hx hrx hin
     have HKD := hid (show w.cell? ⟨lb, lo + j * 44 + 2, none⟩ = some (.int .i64 v.kind) from HRX.out 2 _ rfl)
     have hfn := findN_of HF.out
     have hk2 := kind_two HOK.out (List.mem_of_find?_eq_some hv)
     cases hk : (v.kind == 2)
     ·have dk : (v.kind != 1) = false := hk2.trans hk
      have HB := hid (show r = ((j : Int), 0) by
       rw [hr]; unfold volI volZ; rw [hok, hp, hv, hfn]
       show (if (if v.kind == 2 then (18 : Int) else 0) == 0 then (j : Int) else 0, if v.kind == 2 then (18 : Int) else 0) = _
       rw [hk]; rfl)
      clear hr hok hv hp hk hk2 hfn
      go_enter Tryz.func98, Tryz.ntmps98
      go_wp2_with (first | go_big_skip | go_big_guard | (refine wl_boxA hst0 rfl rfl rfl ?_; intro gb w1 hst; clear hst0) | (refine wl_loadE rfl rfl rfl ?_; first | refine ⟨_, Loads.atA (tabC t (.slice (some ⟨lb, lo, none⟩) nr cr) (.slice al nl cl)) [] hst rfl rfl, ?_⟩ | refine ⟨_, Loads.at [] hst rfl, ?_⟩ | refine ⟨_, Loads.old hst HKD.out, ?_⟩) | (go_at_call 86; refine (refCheck12_any t (some ⟨lb, lo, none⟩) al nr cr nl cl xs _ (HT.out.R.old hst.nil) HT.out.eq (by omega) (Rd.old hst.nil HT.out.L) HT.out.ln (by omega)).mono ?_; rw [HE.out]; rintro _ w9 ⟨rfl, h4⟩; replace hst := St.call0 hst h4; clear h4) | (go_at_call 95; refine (refNamed13 nm _ (by omega)).mono ?_; rw [HP.out]; rintro _ w9 ⟨rfl, h4⟩; replace hst := St.call0 hst h4; clear h4) | (go_at_call 91; refine (refFind_any t (.slice al nl cl) nm (some ⟨lb, lo, none⟩) nr cr xs _ (HT.out.R.old hst) (by omega)).mono ?_; rw [HT.out.eq, HF.out]; rintro _ w9 ⟨rfl, h4⟩; replace hst := St.call0 hst h4; clear h4) | (refine wl_index rfl rfl rfl rfl hlt ?_))
      go_ret2
      exact ⟨by rw [HB.out]; rfl, hst.nil⟩
     ·have dk : (v.kind != 1) = true := hk2.trans hk
      have HB := hid (show r = (0, 18) by
       rw [hr]; unfold volI volZ; rw [hok, hp, hv, hfn]
       show (if (if v.kind == 2 then (18 : Int) else 0) == 0 then (j : Int) else 0, if v.kind == 2 then (18 : Int) else 0) = _
       rw [hk]; rfl)
      clear hr hok hv hp hk hk2 hfn
      go_enter Tryz.func98, Tryz.ntmps98
      go_wp2_with (first | go_big_skip | go_big_guard | (refine wl_boxA hst0 rfl rfl rfl ?_; intro gb w1 hst; clear hst0) | (refine wl_loadE rfl rfl rfl ?_; first | refine ⟨_, Loads.atA (tabC t (.slice (some ⟨lb, lo, none⟩) nr cr) (.slice al nl cl)) [] hst rfl rfl, ?_⟩ | refine ⟨_, Loads.at [] hst rfl, ?_⟩ | refine ⟨_, Loads.old hst HKD.out, ?_⟩) | (go_at_call 86; refine (refCheck12_any t (some ⟨lb, lo, none⟩) al nr cr nl cl xs _ (HT.out.R.old hst.nil) HT.out.eq (by omega) (Rd.old hst.nil HT.out.L) HT.out.ln (by omega)).mono ?_; rw [HE.out]; rintro _ w9 ⟨rfl, h4⟩; replace hst := St.call0 hst h4; clear h4) | (go_at_call 95; refine (refNamed13 nm _ (by omega)).mono ?_; rw [HP.out]; rintro _ w9 ⟨rfl, h4⟩; replace hst := St.call0 hst h4; clear h4) | (go_at_call 91; refine (refFind_any t (.slice al nl cl) nm (some ⟨lb, lo, none⟩) nr cr xs _ (HT.out.R.old hst) (by omega)).mono ?_; rw [HT.out.eq, HF.out]; rintro _ w9 ⟨rfl, h4⟩; replace hst := St.call0 hst h4; clear h4) | (refine wl_index rfl rfl rfl rfl hlt ?_))
      go_ret2
      exact ⟨by rw [HB.out]; rfl, hst.nil⟩
theorem refResize13 (t : TC) (ar al : Option Addr) (nr cr nl cl : Nat) (xs : List (Value × RC)) (w : World) (ht : TabIn w t ar nr cr al nl cl xs) (nm : List UInt8) (size : Int) (hnm : nm.length ≤ 1000000) :
  Calls Tryz.prog 39 #[.agg (tabC t (.slice ar nr cr) (.slice al nl cl)).toArray, .string ⟨nm.toArray⟩, .int .i64 size] w (RefRet (opR t (resizeT t nm size)) w) := by
 have hst0 := St.refl w
 have HT := hid ht
 have b1 := ht.br
 have b2 := ht.bl
 obtain ⟨r, hr⟩ : ∃ r, r = opR t (resizeT t nm size) := ⟨_, rfl⟩
 rw [← hr]
 obtain ⟨q, hq⟩ : ∃ q, inB size 1 64 = q := ⟨_, rfl⟩
 have HW := hid hq
 have hpl : resizeT t nm size = changeT t nm q (fun v => sizeR v size) := by rw [← hq]; rfl
 rw [hpl] at hr
 clear hq
 obtain ⟨z, hz⟩ : ∃ z, volZ t nm q = z := ⟨_, rfl⟩
 obtain ⟨i, hi⟩ : ∃ i, volI t nm q = i := ⟨_, rfl⟩
 have HVZ := hid hz
 cases hzz : (z == 0)
 ·have dz : (z != 0) = true := by unfold bne; rw [hzz]; rfl
  have HVI := hid hi
  have HB := hid (show r = badR z by rw [hr]; have h := change_vol (t := t) (nm := nm) (fine := q) (f := fun v => sizeR v size) (by rw [hz]; exact hzz); rw [hz] at h; exact h)
  clear ht hr hz hi hzz
  go_enter Tryz.func39, Tryz.ntmps39
  go_wp2_with (first | go_big_skip | go_big_guard | (refine wl_boxA hst0 rfl rfl rfl ?_; intro gb w1 hA0; clear hst0) | (refine wl_alloc hA0 rfl rfl ?_; intro gz w2 hst; clear hA0) | (refine wl_loadE rfl rfl rfl ?_; first | refine ⟨_, Loads.atA (tabC t (.slice ar nr cr) (.slice al nl cl)) [_] hst rfl rfl, ?_⟩ | refine ⟨_, Loads.at [_] hst rfl, ?_⟩))
  have hX := hst.drew
  clear hst
  refine wp_region_held_drew (S := (fun w' => (loadVarH 27 ⟨gb, 0, none⟩).run Tryz.prog w' = .ok (.agg (List.toArray ((tabC t (.slice ar nr cr) (.slice al nl cl))))) w')) (by kernel_rfl) (by exact ldA ((tabC t (.slice ar nr cr) (.slice al nl cl))) [_] hX (rfl) (rfl)) (fun hHeld => ?_)
  refine tq 0 12 ?_
  refine tq 1 13 ?_
  refine tq 2 14 ?_
  refine wpAnyH_ready (rs := [3]) (by kernel_rfl) (by simp) ?_
  refine (AllReadyH.cons (o := ⟨some 15, _, _, _, _, _⟩) rfl (fun K hK => ?_) AllReadyH.nil)
  rw [if_pos (by rfl)]
  go_simp
  go_at_call 42
  refine (refWithin13 _ _ _ _).mono ?_
  rw [HW.out]
  rintro _ w9 ⟨rfl, h4⟩
  have h5 := St.call0 hX h4
  clear h4
  refine hK.out _ _ ?_ (fun hHeld => ?_)
  ·exact ldA ((tabC t (.slice ar nr cr) (.slice al nl cl))) [_] h5 (rfl) (rfl)
  clear hK K
  (try simp only [Act.put, List.setIfInBounds_toArray, List.set_cons_zero, List.set_cons_succ])
  refine wpAnyH_ready (rs := [4]) (by kernel_rfl) (by simp) ?_
  refine (AllReadyH.cons (o := ⟨some 16, _, _, _, _, _⟩) rfl (fun K hK => ?_) AllReadyH.nil)
  rw [if_pos (by rfl)]
  go_simp
  go_at_call 98
  refine (refVol13 t ar al nr cr nl cl xs _ (HT.out.old h5.nil) nm q hnm).mono ?_
  rw [HVI.out, HVZ.out]
  rintro _ w9 ⟨rfl, h4⟩
  have hN : St w [] w9 [.blk gz 27 tab0, .blk gb 27 (tabC t (.slice ar nr cr) (.slice al nl cl))] := St.call0 h5 h4
  clear h4
  refine hK.out _ _ ?_ (fun hHeld => ?_)
  ·exact ldA ((tabC t (.slice ar nr cr) (.slice al nl cl))) [_] hN (rfl) (rfl)
  clear hK K
  (try simp only [Act.put, List.setIfInBounds_toArray, List.set_cons_zero, List.set_cons_succ])
  refine tq 5 11 ?_
  refine tq 6 17 ?_
  refine tq 7 18 ?_
  refine tq 8 8 ?_
  refine tq 9 9 ?_
  refine wpAnyH_done (by kernel_rfl) ?_ _
  clear hHeld
  go_wp2_with (first | go_big_skip | go_big_guard | (refine wl_build0 rfl rfl ?_) | (refine wl_storeA [] hN rfl rfl rfl rfl rfl rfl rfl ?_; intro w7 hZ; clear hN))
  have hl := Loads.atA (P := Tryz.prog) (off := 0) (T := 27) tab0 [] hZ rfl rfl
  refine bodyPost_ret (results_cellR rfl rfl rfl hl) rfl ?_
  rw [HB.out]
  exact refRet_bad hZ _
 ·have dz : (z != 0) = false := by unfold bne; rw [hzz]; rfl
  have hz0 : (volZ t nm q == 0) = true := by rw [hz]; exact hzz
  obtain ⟨hok, hfi, hna, v, hv, hk⟩ := vol_at hz0
  have HOK := hid (okP_iff.1 hok)
  have HFI := hid hfi
  obtain ⟨j, sv, lb, lo, hf, hx9, hlt, har, hin, hrx⟩ := found_at HT.out hv
  subst har
  have HF := hid hf
  have HX9 := hid hx9
  have HRX := hid hrx
  have HIX := hid hin
  have HLL := hid hin.L
  have HL44 := hid (cellsR_len hin.L)
  have H35 := hid (PV.len (p := v.pv sv) hin.L)
  have HVL := hid (birth_le hok (List.mem_of_find?_eq_some hv)).1
  clear hf hx9 hrx hin
  have hfn := findN_of HF.out
  have hij : i = (j : Int) := by rw [← hi]; unfold volI; rw [hz0, hfn]; rfl
  subst hij
  have HVI := hid hi
  have hch := change_is (f := fun v => sizeR v size) hz0 hv hfn
  have HRJ := hid (recs_at HT.out HX9.out)
  have HLV := hid HT.out.ln
  have HBD := hid (show nr ≤ 1000000 ∧ nl ≤ 1000000 from ⟨b1, b2⟩)
  have HB := hid (show r = (0, recsT t (t.recs.set j ((fun v => sizeR v size) v))) by
   rw [hr]
   have h := congrArg (opR t) hch
   exact h.trans (opR_0 hok))
  have HCH := hid hch
  clear ht hr hz hi hzz hz0 hv hk hfn hfi hna hok hch
  clear hpl
  go_enter Tryz.func39, Tryz.ntmps39
  go_wp2_with (first | go_big_skip | go_big_guard | (refine wl_boxA hst0 rfl rfl rfl ?_; intro gb w1 hA0; clear hst0) | (refine wl_alloc hA0 rfl rfl ?_; intro gz w2 hst; clear hA0) | (refine wl_loadE rfl rfl rfl ?_; first | refine ⟨_, Loads.atA (tabC t (.slice (some ⟨lb, lo, none⟩) nr cr) (.slice al nl cl)) [_] hst rfl rfl, ?_⟩ | refine ⟨_, Loads.at [_] hst rfl, ?_⟩))
  have hX := hst.drew
  clear hst
  refine wp_region_held_drew (S := (fun w' => (loadVarH 27 ⟨gb, 0, none⟩).run Tryz.prog w' = .ok (.agg (List.toArray ((tabC t (.slice (some ⟨lb, lo, none⟩) nr cr) (.slice al nl cl))))) w')) (by kernel_rfl) (by exact ldA ((tabC t (.slice (some ⟨lb, lo, none⟩) nr cr) (.slice al nl cl))) [_] hX (rfl) (rfl)) (fun hHeld => ?_)
  refine tq 0 12 ?_
  refine tq 1 13 ?_
  refine tq 2 14 ?_
  refine wpAnyH_ready (rs := [3]) (by kernel_rfl) (by simp) ?_
  refine (AllReadyH.cons (o := ⟨some 15, _, _, _, _, _⟩) rfl (fun K hK => ?_) AllReadyH.nil)
  rw [if_pos (by rfl)]
  go_simp
  go_at_call 42
  refine (refWithin13 _ _ _ _).mono ?_
  rw [HW.out]
  rintro _ w9 ⟨rfl, h4⟩
  have h5 := St.call0 hX h4
  clear h4
  refine hK.out _ _ ?_ (fun hHeld => ?_)
  ·exact ldA ((tabC t (.slice (some ⟨lb, lo, none⟩) nr cr) (.slice al nl cl))) [_] h5 (rfl) (rfl)
  clear hK K
  (try simp only [Act.put, List.setIfInBounds_toArray, List.set_cons_zero, List.set_cons_succ])
  refine wpAnyH_ready (rs := [4]) (by kernel_rfl) (by simp) ?_
  refine (AllReadyH.cons (o := ⟨some 16, _, _, _, _, _⟩) rfl (fun K hK => ?_) AllReadyH.nil)
  rw [if_pos (by rfl)]
  go_simp
  go_at_call 98
  refine (refVol13 t (some ⟨lb, lo, none⟩) al nr cr nl cl xs _ (HT.out.old h5.nil) nm q hnm).mono ?_
  rw [HVI.out, HVZ.out]
  rintro _ w9 ⟨rfl, h4⟩
  have hN : St w [] w9 [.blk gz 27 tab0, .blk gb 27 (tabC t (.slice (some ⟨lb, lo, none⟩) nr cr) (.slice al nl cl))] := St.call0 h5 h4
  clear h4
  refine hK.out _ _ ?_ (fun hHeld => ?_)
  ·exact ldA ((tabC t (.slice (some ⟨lb, lo, none⟩) nr cr) (.slice al nl cl))) [_] hN (rfl) (rfl)
  clear hK K
  (try simp only [Act.put, List.setIfInBounds_toArray, List.set_cons_zero, List.set_cons_succ])
  refine tq 5 11 ?_
  refine tq 6 17 ?_
  refine tq 7 18 ?_
  refine tq 8 8 ?_
  refine tq 9 9 ?_
  refine wpAnyH_done (by kernel_rfl) ?_ _
  clear hHeld
  go_wp2_with (first | go_big_skip | go_big_guard | (refine wl_loadE rfl rfl rfl ?_; first | refine ⟨_, Loads.atA (tabC t (.slice (some ⟨lb, lo, none⟩) nr cr) (.slice al nl cl)) [_] hN rfl rfl, ?_⟩ | refine ⟨_, Loads.at [] hU1 rfl, ?_⟩ | refine ⟨_, Loads.at [] hU2 rfl, ?_⟩) | (go_at_call 94; refine (refOwn_ok t (some ⟨lb, lo, none⟩) al nr cr nl cl xs _ (HT.out.old hN.nil) HOK.out).mono ?_; rintro _ w9 ⟨ra, rc, la, lc, ys, KK, rfl, hye, hyn, hyo, h4⟩; have hO0 := St.perm (St.call hN h4) List.perm_append_comm; obtain ⟨gr, rfl⟩ := row_spotA hO0 (.tail _ (.tail _ (.head _))) (by omega); have hO1 : St w [] w9 (.blk gz 27 tab0 :: .blk gb 27 (tabC t (.slice (some ⟨lb, lo, none⟩) nr cr) (.slice al nl cl)) :: .row (.slice (some ⟨gr, 0, none⟩) nr rc) 53 44 nr (recsV ys) :: .row (.slice la nl lc) 3 1 nl (numsV t.lives) :: KK) := hO0; have HYE := hid hye; have HYN := hid hyn; have HYO := hid hyo; clear h4 hO0 hN hye hyn hyo) | (refine wl_alloc hO1 rfl rfl ?_; intro g13 w1 hO2; clear hO1) | (refine wl_storeA [] hO2 rfl rfl rfl rfl (vs := (tabC t (.slice (some ⟨gr, 0, none⟩) nr rc) (.slice la nl lc))) rfl rfl rfl ?_; intro w1 h4; have hU1 : St w [] w1 (.blk g13 27 (tabC t (.slice (some ⟨gr, 0, none⟩) nr rc) (.slice la nl lc)) :: .blk gz 27 tab0 :: .blk gb 27 (tabC t (.slice (some ⟨lb, lo, none⟩) nr cr) (.slice al nl cl)) :: .row (.slice (some ⟨gr, 0, none⟩) nr rc) 53 44 nr (recsV ys) :: .row (.slice la nl lc) 3 1 nl (numsV t.lives) :: KK) := h4; clear h4 hO2; obtain ⟨u, hyj⟩ := map_get2 HYE.out HRJ.out; have HYJ := hid hyj; have HLY := hid (show LX ys from (fun q hq => (HYO.out q hq).2.1)); clear hyj) | (refine wl_index rfl rfl rfl rfl hlt ?_) | (refine wl_storeRow1 [_, _, _] hU1 rfl rfl rfl rfl (v := .int .i64 size) rfl rfl (by omega) (by omega) ?_; intro w6 h6; rw [recsV_put HLY.out HYJ.out (d := 3) (by show 3 + 1 ≤ 44; decide) (put_sizeR (u, v) size)] at h6; have hU2 : St w [] w6 (.blk g13 27 (tabC t (.slice (some ⟨gr, 0, none⟩) nr rc) (.slice la nl lc)) :: .blk gz 27 tab0 :: .blk gb 27 (tabC t (.slice (some ⟨lb, lo, none⟩) nr cr) (.slice al nl cl)) :: .row (.slice (some ⟨gr, 0, none⟩) nr rc) 53 44 nr (recsV (ys.set j (u, sizeR v size))) :: .row (.slice la nl lc) 3 1 nl (numsV t.lives) :: KK) := h6; clear h6 hU1) | (refine wl_loadE rfl rfl rfl ?_; refine ⟨_, Loads.atA (tabC t (.slice (some ⟨gr, 0, none⟩) nr rc) (.slice la nl lc)) [] hU2 rfl rfl, ?_⟩) | (refine wl_storeA [_] hU2 rfl rfl rfl rfl (vs := (tabC t (.slice (some ⟨gr, 0, none⟩) nr rc) (.slice la nl lc))) rfl rfl rfl ?_; intro w7 h4; have hZ : St w [] w7 (.blk g13 27 (tabC t (.slice (some ⟨gr, 0, none⟩) nr rc) (.slice la nl lc)) :: .blk gz 27 (tabC t (.slice (some ⟨gr, 0, none⟩) nr rc) (.slice la nl lc)) :: .blk gb 27 (tabC t (.slice (some ⟨lb, lo, none⟩) nr cr) (.slice al nl cl)) :: .row (.slice (some ⟨gr, 0, none⟩) nr rc) 53 44 nr (recsV (ys.set j (u, sizeR v size))) :: .row (.slice la nl lc) 3 1 nl (numsV t.lives) :: KK) := h4; clear h4 hU2))
  have hl := Loads.atA (P := Tryz.prog) (off := 0) (T := 27) (tabC t (.slice (some ⟨gr, 0, none⟩) nr rc) (.slice la nl lc)) [_] hZ rfl rfl
  refine bodyPost_ret (results_cellR rfl rfl rfl hl) rfl ?_
  rw [HB.out]
  refine ref_fin (u := (recsT t (t.recs.set j (sizeR v size)))) (K := KK) (ys := (ys.set j (u, sizeR v size))) hZ (.tail _ (.tail _ (.tail _ (.head _)))) (.tail _ (.tail _ (.tail _ (.tail _ (.head _))))) (fun y hy => .tail _ (.tail _ (.tail _ (.tail _ (.tail _ (hy)))))) (fun q hq => ?_) (by simp only [List.length_set]; exact HYN.out) HLV.out ?_ HBD.out
  ·have h9 := HYO.out _ (List.mem_of_getElem? HYJ.out)
   rcases List.mem_or_eq_of_mem_set hq with h | rfl
   ·exact HYO.out q h
   ·exact ⟨h9.1, h9.2⟩
  ·show _ = t.recs.set j (sizeR v size)
   simp only [List.map_set, HYE.out, List.set_set]
def quoR (r : RC) (z : Int) : RC := { r with quota := z }
def limR (r : RC) (z s : Int) : RC := { r with quota := z, reserve := s }
theorem put_quoR (v : Value × RC) (z : Int) (h : L32 v.2.S) : putAt (cellsR v) 42 [.int .i64 z] = cellsR (v.1, quoR v.2 z) := put_q v z h
theorem put_limR (v : Value × RC) (z s : Int) (h : L32 v.2.S) : putAt (cellsR (v.1, quoR v.2 z)) 43 [.int .i64 s] = cellsR (v.1, limR v.2 z s) := put_r (v.1, quoR v.2 z) s h
theorem refLimit13 (t : TC) (ar al : Option Addr) (nr cr nl cl : Nat) (xs : List (Value × RC)) (w : World) (ht : TabIn w t ar nr cr al nl cl xs) (nm : List UInt8) (q s : Int) (hnm : nm.length ≤ 1000000) :
  Calls Tryz.prog 40 #[.agg (tabC t (.slice ar nr cr) (.slice al nl cl)).toArray, .string ⟨nm.toArray⟩, .int .i64 q, .int .i64 s] w (RefRet (opR t (limitT t nm q s)) w) := by
 have hst0 := St.refl w
 have HT := hid ht
 have b1 := ht.br
 have b2 := ht.bl
 obtain ⟨r, hr⟩ : ∃ r, r = opR t (limitT t nm q s) := ⟨_, rfl⟩
 rw [← hr]
 obtain ⟨f1, hf1⟩ : ∃ f, inB q 0 64 = f := ⟨_, rfl⟩
 obtain ⟨f2, hf2⟩ : ∃ f, inB s 0 64 = f := ⟨_, rfl⟩
 have HW1 := hid hf1
 have HW2 := hid hf2
 have hpl : limitT t nm q s = changeT t nm (f1 && f2) (fun v => limR v q s) := by rw [← hf1, ← hf2]; rfl
 rw [hpl] at hr
 clear hf1 hf2
 obtain ⟨z, hz⟩ : ∃ z, volZ t nm (f1 && f2) = z := ⟨_, rfl⟩
 obtain ⟨i, hi⟩ : ∃ i, volI t nm (f1 && f2) = i := ⟨_, rfl⟩
 have HVZ := hid hz
 cases hzz : (z == 0)
 ·have dz : (z != 0) = true := by unfold bne; rw [hzz]; rfl
  have HVI := hid hi
  have HB := hid (show r = badR z by rw [hr]; have h := change_vol (t := t) (nm := nm) (fine := (f1 && f2)) (f := fun v => limR v q s) (by rw [hz]; exact hzz); rw [hz] at h; exact h)
  clear ht hr hz hi hzz
  cases f1
  ·replace HVI := hid (show volI t nm false = i from HVI.out)
   replace HVZ := hid (show volZ t nm false = z from HVZ.out)
   go_enter Tryz.func40, Tryz.ntmps40
   go_wp2_with (first | go_big_skip | go_big_guard | (refine wl_boxA hst0 rfl rfl rfl ?_; intro gb w1 hA0; clear hst0) | (refine wl_alloc hA0 rfl rfl ?_; intro gz w2 hst; clear hA0) | (refine wl_loadE rfl rfl rfl ?_; first | refine ⟨_, Loads.atA (tabC t (.slice ar nr cr) (.slice al nl cl)) [_] hst rfl rfl, ?_⟩ | refine ⟨_, Loads.at [_] hst rfl, ?_⟩))
   have hX := hst.drew
   clear hst
   refine wp_region_held_drew (S := (fun w' => (loadVarH 27 ⟨gb, 0, none⟩).run Tryz.prog w' = .ok (.agg (List.toArray ((tabC t (.slice ar nr cr) (.slice al nl cl))))) w')) (by kernel_rfl) (by exact ldA ((tabC t (.slice ar nr cr) (.slice al nl cl))) [_] hX (rfl) (rfl)) (fun hHeld => ?_)
   refine tq 0 14 ?_
   refine tq 1 15 ?_
   refine tq 2 16 ?_
   refine wpAnyH_ready (rs := [3]) (by kernel_rfl) (by simp) ?_
   refine (AllReadyH.cons (o := ⟨some 17, _, _, _, _, _⟩) rfl (fun K hK => ?_) AllReadyH.nil)
   rw [if_pos (by rfl)]
   go_simp
   go_at_call 42
   refine (refWithin13 _ _ _ _).mono ?_
   rw [HW1.out]
   rintro _ w9 ⟨rfl, h4⟩
   have h5 := St.call0 hX h4
   clear h4
   refine hK.out _ _ ?_ (fun hHeld => ?_)
   ·exact ldA ((tabC t (.slice ar nr cr) (.slice al nl cl))) [_] h5 (rfl) (rfl)
   clear hK K
   (try simp only [Act.put, List.setIfInBounds_toArray, List.set_cons_zero, List.set_cons_succ])
   refine tq 4 18 ?_
   refine tu 5 19 ?_
   refine wpAnyH_ready (rs := [6]) (by kernel_rfl) (by simp) ?_
   refine (AllReadyH.cons (o := ⟨some 20, _, _, _, _, _⟩) rfl (fun K hK => ?_) AllReadyH.nil)
   rw [if_neg (by rw [show Region.wanted _ _ = false from rfl]; exact Bool.false_ne_true)]
   refine hK.out _ _ ?_ (fun hHeld => ?_)
   ·exact ldA ((tabC t (.slice ar nr cr) (.slice al nl cl))) [_] h5 (rfl) (rfl)
   clear hK K
   (try simp only [Act.put, List.setIfInBounds_toArray, List.set_cons_zero, List.set_cons_succ])
   refine tq 7 21 ?_
   refine wpAnyH_ready (rs := [8]) (by kernel_rfl) (by simp) ?_
   refine (AllReadyH.cons (o := ⟨some 22, _, _, _, _, _⟩) rfl (fun K hK => ?_) AllReadyH.nil)
   rw [if_pos (by rfl)]
   go_simp
   go_at_call 98
   refine (refVol13 t ar al nr cr nl cl xs _ (HT.out.old h5.nil) nm false hnm).mono ?_
   rw [HVI.out, HVZ.out]
   rintro _ w9 ⟨rfl, h4⟩
   have hN : St w [] w9 [.blk gz 27 tab0, .blk gb 27 (tabC t (.slice ar nr cr) (.slice al nl cl))] := St.call0 h5 h4
   clear h4
   refine hK.out _ _ ?_ (fun hHeld => ?_)
   ·exact ldA ((tabC t (.slice ar nr cr) (.slice al nl cl))) [_] hN (rfl) (rfl)
   clear hK K
   (try simp only [Act.put, List.setIfInBounds_toArray, List.set_cons_zero, List.set_cons_succ])
   refine tq 9 13 ?_
   refine tq 10 23 ?_
   refine tq 11 24 ?_
   refine tq 12 10 ?_
   refine tq 13 11 ?_
   refine wpAnyH_done (by kernel_rfl) ?_ _
   clear hHeld
   go_wp2_with (first | go_big_skip | go_big_guard | (refine wl_build0 rfl rfl ?_) | (refine wl_storeA [] hN rfl rfl rfl rfl rfl rfl rfl ?_; intro w7 hZ; clear hN))
   have hl := Loads.atA (P := Tryz.prog) (off := 0) (T := 27) tab0 [] hZ rfl rfl
   refine bodyPost_ret (results_cellR rfl rfl rfl hl) rfl ?_
   rw [HB.out]
   exact refRet_bad hZ _
  ·replace HVI := hid (show volI t nm f2 = i from HVI.out)
   replace HVZ := hid (show volZ t nm f2 = z from HVZ.out)
   go_enter Tryz.func40, Tryz.ntmps40
   go_wp2_with (first | go_big_skip | go_big_guard | (refine wl_boxA hst0 rfl rfl rfl ?_; intro gb w1 hA0; clear hst0) | (refine wl_alloc hA0 rfl rfl ?_; intro gz w2 hst; clear hA0) | (refine wl_loadE rfl rfl rfl ?_; first | refine ⟨_, Loads.atA (tabC t (.slice ar nr cr) (.slice al nl cl)) [_] hst rfl rfl, ?_⟩ | refine ⟨_, Loads.at [_] hst rfl, ?_⟩))
   have hX := hst.drew
   clear hst
   refine wp_region_held_drew (S := (fun w' => (loadVarH 27 ⟨gb, 0, none⟩).run Tryz.prog w' = .ok (.agg (List.toArray ((tabC t (.slice ar nr cr) (.slice al nl cl))))) w')) (by kernel_rfl) (by exact ldA ((tabC t (.slice ar nr cr) (.slice al nl cl))) [_] hX (rfl) (rfl)) (fun hHeld => ?_)
   refine tq 0 14 ?_
   refine tq 1 15 ?_
   refine tq 2 16 ?_
   refine wpAnyH_ready (rs := [3]) (by kernel_rfl) (by simp) ?_
   refine (AllReadyH.cons (o := ⟨some 17, _, _, _, _, _⟩) rfl (fun K hK => ?_) AllReadyH.nil)
   rw [if_pos (by rfl)]
   go_simp
   go_at_call 42
   refine (refWithin13 _ _ _ _).mono ?_
   rw [HW1.out]
   rintro _ w9 ⟨rfl, h4⟩
   have h5 := St.call0 hX h4
   clear h4
   refine hK.out _ _ ?_ (fun hHeld => ?_)
   ·exact ldA ((tabC t (.slice ar nr cr) (.slice al nl cl))) [_] h5 (rfl) (rfl)
   clear hK K
   (try simp only [Act.put, List.setIfInBounds_toArray, List.set_cons_zero, List.set_cons_succ])
   refine tq 4 18 ?_
   refine tq 5 19 ?_
   refine wpAnyH_ready (rs := [6]) (by kernel_rfl) (by simp) ?_
   refine (AllReadyH.cons (o := ⟨some 20, _, _, _, _, _⟩) rfl (fun K hK => ?_) AllReadyH.nil)
   rw [if_pos (by rfl)]
   go_simp
   go_at_call 42
   refine (refWithin13 _ _ _ _).mono ?_
   rw [HW2.out]
   rintro _ w9 ⟨rfl, h4⟩
   have h5 := St.call0 h5 h4
   clear h4
   refine hK.out _ _ ?_ (fun hHeld => ?_)
   ·exact ldA ((tabC t (.slice ar nr cr) (.slice al nl cl))) [_] h5 (rfl) (rfl)
   clear hK K
   (try simp only [Act.put, List.setIfInBounds_toArray, List.set_cons_zero, List.set_cons_succ])
   refine tq 7 21 ?_
   refine wpAnyH_ready (rs := [8]) (by kernel_rfl) (by simp) ?_
   refine (AllReadyH.cons (o := ⟨some 22, _, _, _, _, _⟩) rfl (fun K hK => ?_) AllReadyH.nil)
   rw [if_pos (by rfl)]
   go_simp
   go_at_call 98
   refine (refVol13 t ar al nr cr nl cl xs _ (HT.out.old h5.nil) nm f2 hnm).mono ?_
   rw [HVI.out, HVZ.out]
   rintro _ w9 ⟨rfl, h4⟩
   have hN : St w [] w9 [.blk gz 27 tab0, .blk gb 27 (tabC t (.slice ar nr cr) (.slice al nl cl))] := St.call0 h5 h4
   clear h4
   refine hK.out _ _ ?_ (fun hHeld => ?_)
   ·exact ldA ((tabC t (.slice ar nr cr) (.slice al nl cl))) [_] hN (rfl) (rfl)
   clear hK K
   (try simp only [Act.put, List.setIfInBounds_toArray, List.set_cons_zero, List.set_cons_succ])
   refine tq 9 13 ?_
   refine tq 10 23 ?_
   refine tq 11 24 ?_
   refine tq 12 10 ?_
   refine tq 13 11 ?_
   refine wpAnyH_done (by kernel_rfl) ?_ _
   clear hHeld
   go_wp2_with (first | go_big_skip | go_big_guard | (refine wl_build0 rfl rfl ?_) | (refine wl_storeA [] hN rfl rfl rfl rfl rfl rfl rfl ?_; intro w7 hZ; clear hN))
   have hl := Loads.atA (P := Tryz.prog) (off := 0) (T := 27) tab0 [] hZ rfl rfl
   refine bodyPost_ret (results_cellR rfl rfl rfl hl) rfl ?_
   rw [HB.out]
   exact refRet_bad hZ _
 ·have dz : (z != 0) = false := by unfold bne; rw [hzz]; rfl
  have hz0 : (volZ t nm (f1 && f2) == 0) = true := by rw [hz]; exact hzz
  obtain ⟨hok, hfi, hna, v, hv, hk⟩ := vol_at hz0
  have HOK := hid (okP_iff.1 hok)
  have HFI := hid hfi
  obtain ⟨j, sv, lb, lo, hf, hx9, hlt, har, hin, hrx⟩ := found_at HT.out hv
  subst har
  have HF := hid hf
  have HX9 := hid hx9
  have HRX := hid hrx
  have HIX := hid hin
  have HLL := hid hin.L
  have HL44 := hid (cellsR_len hin.L)
  have H35 := hid (PV.len (p := v.pv sv) hin.L)
  have HVL := hid (birth_le hok (List.mem_of_find?_eq_some hv)).1
  clear hf hx9 hrx hin
  have hfn := findN_of HF.out
  have hij : i = (j : Int) := by rw [← hi]; unfold volI; rw [hz0, hfn]; rfl
  subst hij
  have HVI := hid hi
  have hch := change_is (f := fun v => limR v q s) hz0 hv hfn
  have HRJ := hid (recs_at HT.out HX9.out)
  have HLV := hid HT.out.ln
  have HBD := hid (show nr ≤ 1000000 ∧ nl ≤ 1000000 from ⟨b1, b2⟩)
  have HB := hid (show r = (0, recsT t (t.recs.set j ((fun v => limR v q s) v))) by
   rw [hr]
   have h := congrArg (opR t) hch
   exact h.trans (opR_0 hok))
  have HCH := hid hch
  clear ht hr hz hi hzz hz0 hv hk hfn hfi hna hok hch
  clear hpl
  obtain ⟨rfl, rfl⟩ : f1 = true ∧ f2 = true := by have h := HFI.out; simpa using h
  replace HVI := hid (show volI t nm true = _ from HVI.out)
  replace HVZ := hid (show volZ t nm true = _ from HVZ.out)
  go_enter Tryz.func40, Tryz.ntmps40
  go_wp2_with (first | go_big_skip | go_big_guard | (refine wl_boxA hst0 rfl rfl rfl ?_; intro gb w1 hA0; clear hst0) | (refine wl_alloc hA0 rfl rfl ?_; intro gz w2 hst; clear hA0) | (refine wl_loadE rfl rfl rfl ?_; first | refine ⟨_, Loads.atA (tabC t (.slice (some ⟨lb, lo, none⟩) nr cr) (.slice al nl cl)) [_] hst rfl rfl, ?_⟩ | refine ⟨_, Loads.at [_] hst rfl, ?_⟩))
  have hX := hst.drew
  clear hst
  refine wp_region_held_drew (S := (fun w' => (loadVarH 27 ⟨gb, 0, none⟩).run Tryz.prog w' = .ok (.agg (List.toArray ((tabC t (.slice (some ⟨lb, lo, none⟩) nr cr) (.slice al nl cl))))) w')) (by kernel_rfl) (by exact ldA ((tabC t (.slice (some ⟨lb, lo, none⟩) nr cr) (.slice al nl cl))) [_] hX (rfl) (rfl)) (fun hHeld => ?_)
  refine tq 0 14 ?_
  refine tq 1 15 ?_
  refine tq 2 16 ?_
  refine wpAnyH_ready (rs := [3]) (by kernel_rfl) (by simp) ?_
  refine (AllReadyH.cons (o := ⟨some 17, _, _, _, _, _⟩) rfl (fun K hK => ?_) AllReadyH.nil)
  rw [if_pos (by rfl)]
  go_simp
  go_at_call 42
  refine (refWithin13 _ _ _ _).mono ?_
  rw [HW1.out]
  rintro _ w9 ⟨rfl, h4⟩
  have h5 := St.call0 hX h4
  clear h4
  refine hK.out _ _ ?_ (fun hHeld => ?_)
  ·exact ldA ((tabC t (.slice (some ⟨lb, lo, none⟩) nr cr) (.slice al nl cl))) [_] h5 (rfl) (rfl)
  clear hK K
  (try simp only [Act.put, List.setIfInBounds_toArray, List.set_cons_zero, List.set_cons_succ])
  refine tq 4 18 ?_
  refine tq 5 19 ?_
  refine wpAnyH_ready (rs := [6]) (by kernel_rfl) (by simp) ?_
  refine (AllReadyH.cons (o := ⟨some 20, _, _, _, _, _⟩) rfl (fun K hK => ?_) AllReadyH.nil)
  rw [if_pos (by rfl)]
  go_simp
  go_at_call 42
  refine (refWithin13 _ _ _ _).mono ?_
  rw [HW2.out]
  rintro _ w9 ⟨rfl, h4⟩
  have h5 := St.call0 h5 h4
  clear h4
  refine hK.out _ _ ?_ (fun hHeld => ?_)
  ·exact ldA ((tabC t (.slice (some ⟨lb, lo, none⟩) nr cr) (.slice al nl cl))) [_] h5 (rfl) (rfl)
  clear hK K
  (try simp only [Act.put, List.setIfInBounds_toArray, List.set_cons_zero, List.set_cons_succ])
  refine tq 7 21 ?_
  refine wpAnyH_ready (rs := [8]) (by kernel_rfl) (by simp) ?_
  refine (AllReadyH.cons (o := ⟨some 22, _, _, _, _, _⟩) rfl (fun K hK => ?_) AllReadyH.nil)
  rw [if_pos (by rfl)]
  go_simp
  go_at_call 98
  refine (refVol13 t (some ⟨lb, lo, none⟩) al nr cr nl cl xs _ (HT.out.old h5.nil) nm true hnm).mono ?_
  rw [HVI.out, HVZ.out]
  rintro _ w9 ⟨rfl, h4⟩
  have hN : St w [] w9 [.blk gz 27 tab0, .blk gb 27 (tabC t (.slice (some ⟨lb, lo, none⟩) nr cr) (.slice al nl cl))] := St.call0 h5 h4
  clear h4
  refine hK.out _ _ ?_ (fun hHeld => ?_)
  ·exact ldA ((tabC t (.slice (some ⟨lb, lo, none⟩) nr cr) (.slice al nl cl))) [_] hN (rfl) (rfl)
  clear hK K
  (try simp only [Act.put, List.setIfInBounds_toArray, List.set_cons_zero, List.set_cons_succ])
  refine tq 9 13 ?_
  refine tq 10 23 ?_
  refine tq 11 24 ?_
  refine tq 12 10 ?_
  refine tq 13 11 ?_
  refine wpAnyH_done (by kernel_rfl) ?_ _
  clear hHeld
  go_wp2_with (first | go_big_skip | go_big_guard | (refine wl_loadE rfl rfl rfl ?_; first | refine ⟨_, Loads.atA (tabC t (.slice (some ⟨lb, lo, none⟩) nr cr) (.slice al nl cl)) [_] hN rfl rfl, ?_⟩ | refine ⟨_, Loads.at [] hU1 rfl, ?_⟩ | refine ⟨_, Loads.at [] hU2 rfl, ?_⟩) | (go_at_call 94; refine (refOwn_ok t (some ⟨lb, lo, none⟩) al nr cr nl cl xs _ (HT.out.old hN.nil) HOK.out).mono ?_; rintro _ w9 ⟨ra, rc, la, lc, ys, KK, rfl, hye, hyn, hyo, h4⟩; have hO0 := St.perm (St.call hN h4) List.perm_append_comm; obtain ⟨gr, rfl⟩ := row_spotA hO0 (.tail _ (.tail _ (.head _))) (by omega); have hO1 : St w [] w9 (.blk gz 27 tab0 :: .blk gb 27 (tabC t (.slice (some ⟨lb, lo, none⟩) nr cr) (.slice al nl cl)) :: .row (.slice (some ⟨gr, 0, none⟩) nr rc) 53 44 nr (recsV ys) :: .row (.slice la nl lc) 3 1 nl (numsV t.lives) :: KK) := hO0; have HYE := hid hye; have HYN := hid hyn; have HYO := hid hyo; clear h4 hO0 hN hye hyn hyo) | (refine wl_alloc hO1 rfl rfl ?_; intro g13 w1 hO2; clear hO1) | (refine wl_storeA [] hO2 rfl rfl rfl rfl (vs := (tabC t (.slice (some ⟨gr, 0, none⟩) nr rc) (.slice la nl lc))) rfl rfl rfl ?_; intro w1 h4; have hU1 : St w [] w1 (.blk g13 27 (tabC t (.slice (some ⟨gr, 0, none⟩) nr rc) (.slice la nl lc)) :: .blk gz 27 tab0 :: .blk gb 27 (tabC t (.slice (some ⟨lb, lo, none⟩) nr cr) (.slice al nl cl)) :: .row (.slice (some ⟨gr, 0, none⟩) nr rc) 53 44 nr (recsV ys) :: .row (.slice la nl lc) 3 1 nl (numsV t.lives) :: KK) := h4; clear h4 hO2; obtain ⟨u, hyj⟩ := map_get2 HYE.out HRJ.out; have HYJ := hid hyj; have HLY := hid (show LX ys from (fun q hq => (HYO.out q hq).2.1)); clear hyj) | (refine wl_index rfl rfl rfl rfl hlt ?_) | (refine wl_storeRow1 [_, _, _] hU1 rfl rfl rfl rfl (v := .int .i64 q) rfl rfl (by omega) (by omega) ?_; intro w6 h6; rw [recsV_put HLY.out HYJ.out (d := 42) (by show 42 + 1 ≤ 44; decide) (put_quoR (u, v) q HLL.out)] at h6; have hU2 : St w [] w6 (.blk g13 27 (tabC t (.slice (some ⟨gr, 0, none⟩) nr rc) (.slice la nl lc)) :: .blk gz 27 tab0 :: .blk gb 27 (tabC t (.slice (some ⟨lb, lo, none⟩) nr cr) (.slice al nl cl)) :: .row (.slice (some ⟨gr, 0, none⟩) nr rc) 53 44 nr (recsV (ys.set j (u, quoR v q))) :: .row (.slice la nl lc) 3 1 nl (numsV t.lives) :: KK) := h6; clear h6 hU1) | (refine wl_storeRow1 [_, _, _] hU2 rfl rfl rfl rfl (v := .int .i64 s) rfl rfl (by omega) (by omega) ?_; intro w6 h6; rw [recsV_put (set_LX HLY.out (k := j) (y := (u, quoR v q)) HLL.out) (by rw [List.getElem?_set_self (by rw [HYN.out]; exact hlt)]) (d := 43) (by show 43 + 1 ≤ 44; decide) (put_limR (u, v) q s HLL.out)] at h6; have hU3 : St w [] w6 (.blk g13 27 (tabC t (.slice (some ⟨gr, 0, none⟩) nr rc) (.slice la nl lc)) :: .blk gz 27 tab0 :: .blk gb 27 (tabC t (.slice (some ⟨lb, lo, none⟩) nr cr) (.slice al nl cl)) :: .row (.slice (some ⟨gr, 0, none⟩) nr rc) 53 44 nr (recsV ((ys.set j (u, quoR v q)).set j (u, limR v q s))) :: .row (.slice la nl lc) 3 1 nl (numsV t.lives) :: KK) := h6; clear h6 hU2) | (refine wl_loadE rfl rfl rfl ?_; refine ⟨_, Loads.atA (tabC t (.slice (some ⟨gr, 0, none⟩) nr rc) (.slice la nl lc)) [] hU3 rfl rfl, ?_⟩) | (refine wl_storeA [_] hU3 rfl rfl rfl rfl (vs := (tabC t (.slice (some ⟨gr, 0, none⟩) nr rc) (.slice la nl lc))) rfl rfl rfl ?_; intro w7 h4; have hZ : St w [] w7 (.blk g13 27 (tabC t (.slice (some ⟨gr, 0, none⟩) nr rc) (.slice la nl lc)) :: .blk gz 27 (tabC t (.slice (some ⟨gr, 0, none⟩) nr rc) (.slice la nl lc)) :: .blk gb 27 (tabC t (.slice (some ⟨lb, lo, none⟩) nr cr) (.slice al nl cl)) :: .row (.slice (some ⟨gr, 0, none⟩) nr rc) 53 44 nr (recsV ((ys.set j (u, quoR v q)).set j (u, limR v q s))) :: .row (.slice la nl lc) 3 1 nl (numsV t.lives) :: KK) := h4; clear h4 hU3))
  have hl := Loads.atA (P := Tryz.prog) (off := 0) (T := 27) (tabC t (.slice (some ⟨gr, 0, none⟩) nr rc) (.slice la nl lc)) [_] hZ rfl rfl
  refine bodyPost_ret (results_cellR rfl rfl rfl hl) rfl ?_
  rw [HB.out]
  refine ref_fin (u := (recsT t (t.recs.set j (limR v q s)))) (K := KK) (ys := ((ys.set j (u, quoR v q)).set j (u, limR v q s))) hZ (.tail _ (.tail _ (.tail _ (.head _)))) (.tail _ (.tail _ (.tail _ (.tail _ (.head _))))) (fun y hy => .tail _ (.tail _ (.tail _ (.tail _ (.tail _ (hy)))))) (fun q hq => ?_) (by simp only [List.length_set]; exact HYN.out) HLV.out ?_ HBD.out
  ·have h9 := HYO.out _ (List.mem_of_getElem? HYJ.out)
   rcases List.mem_or_eq_of_mem_set hq with h | rfl
   ·rcases List.mem_or_eq_of_mem_set h with h | rfl
    ·exact HYO.out q h
    ·exact ⟨h9.1, h9.2⟩
   ·exact ⟨h9.1, h9.2⟩
  ·show _ = t.recs.set j (limR v q s)
   simp only [List.map_set, HYE.out, List.set_set]
end Go.Proofs.YtifajcblbedcoaaGreat
namespace Go.Proofs.YtifajcblbedcoaaGreat
set_option linter.unusedVariables false
set_option linter.unusedSimpArgs false
open Go.RowKit Hp
attribute [local irreducible] Go.Calls Go.wpList volZ volI
set_option maxRecDepth 100000
set_option maxHeartbeats 8000000
attribute [local go_sem ↓] heldInt heldInts heldRecs heldRec heldStr heldTab heldPtr heldFn
theorem put_rootR (v : Value × RC) (p : PV) (h : L32 v.2.S) (hp : L32 p.S) : putAt (cellsR v) 4 (PV.cells p) = cellsR (p.sv, rootOf p v.2) := put_p v p p.sv h hp
theorem Held.tab {w0 w : World} {M : List Nat} {L L' : List HA} {t : TC} {ar al : Option Addr} {nr cr nl cl : Nat} {xs : List (Value × RC)} (h : Held L t ar al nr cr nl cl xs) (hst : St w0 M w L') (hs : ∀ y ∈ L, y ∈ L') : TabIn w t ar nr cr al nl cl xs := h _ _ _ _ hst hs
theorem refRoot13 (t : TC) (ar al : Option Addr) (nr cr nl cl : Nat) (xs : List (Value × RC)) (w : World) (ht : TabIn w t ar nr cr al nl cl xs) (nm : List UInt8) (p : PV) (hp : p.In w) (hnm : nm.length ≤ 1000000) :
  Calls Tryz.prog 41 #[.agg (tabC t (.slice ar nr cr) (.slice al nl cl)).toArray, .string ⟨nm.toArray⟩, .agg (PV.cells p).toArray] w (RefRet (opR t (rootT t nm p)) w) := by
 have hst0 := St.refl w
 have HT := hid ht
 have b1 := ht.br
 have b2 := ht.bl
 have HPI := hid hp
 have H35p := hid (PV.len hp.1)
 obtain ⟨_, po, pn, pc, hsv, _, _⟩ := hp
 have HSV := hid hsv
 clear hsv
 obtain ⟨r, hr⟩ : ∃ r, r = opR t (rootT t nm p) := ⟨_, rfl⟩
 rw [← hr]
 have hpl : rootT t nm p = changeT t nm (rootB p) (fun v => rootOf p v) := rfl
 obtain ⟨z, hz⟩ : ∃ z, volZ t nm (rootB p) = z := ⟨_, rfl⟩
 obtain ⟨i, hi⟩ : ∃ i, volI t nm (rootB p) = i := ⟨_, rfl⟩
 have HVZ := hid hz
 cases hzz : (z == 0)
 ·have dz : (z != 0) = true := by unfold bne; rw [hzz]; rfl
  have HVI := hid hi
  have HB := hid (show r = badR z by rw [hr, hpl]; have h := change_vol (t := t) (nm := nm) (fine := rootB p) (f := fun v => rootOf p v) (by rw [hz]; exact hzz); rw [hz] at h; exact h)
  clear ht hr hz hi hzz hpl
  cases hc : p.ok
  ·have HC := hid (show (if p.ok then (0 : Int) else 2) = 2 by rw [hc]; rfl)
   have hrb : rootB p = false := by rw [root_fine, hc]; try rfl
   replace HVI := hid (show volI t nm false = i by rw [← hrb]; exact HVI.out)
   replace HVZ := hid (show volZ t nm false = z by rw [← hrb]; exact HVZ.out)
   clear hc hrb
   go_enter Tryz.func41, Tryz.ntmps41
   go_wp2_with (first | go_big_skip | go_big_guard | (refine wl_boxA hst0 rfl rfl rfl ?_; intro gb w1 hA0; clear hst0) | (refine wl_boxA hA0 rfl rfl rfl ?_; intro gp w1 hA1; clear hA0) | (refine wl_alloc hA1 rfl rfl ?_; intro gz w2 hst; clear hA1) | (refine wl_loadE rfl rfl rfl ?_; first | refine ⟨_, Loads.atA (PV.cells p) [_] hst H35p.out (by simp), ?_⟩ | refine ⟨.int .i64 p.v, Loads.at [_] hst rfl, ?_⟩ | refine ⟨_, Loads.atA (tabC t (.slice ar nr cr) (.slice al nl cl)) [_, _] hst rfl rfl, ?_⟩ | refine ⟨_, Loads.at [] hU1 rfl, ?_⟩ | refine ⟨_, Loads.atA (PV.cells p) [_, _] hU1 H35p.out (by simp), ?_⟩) | (go_at_call 99; refine (refCheck_pv p _ (PV.In.old hst HPI.out)).mono ?_; rw [HC.out]; rintro _ w9 ⟨rfl, h4⟩; replace hst := St.call0 hst h4; clear h4) | (go_at_call 100; refine (refHole_pv p _ (PV.In.old hst HPI.out)).mono ?_; rw [HH.out]; rintro _ w9 ⟨rfl, h4⟩; replace hst := St.call0 hst h4; clear h4) | (go_at_call 98; refine (refVol13 t ar al nr cr nl cl xs _ (HT.out.old hst.nil) nm false hnm).mono ?_; rw [HVI.out, HVZ.out]; rintro _ w9 ⟨rfl, h4⟩; replace hst := St.call0 hst h4; clear h4) | (refine wl_build0 rfl rfl ?_) | (refine wl_storeA [] hst rfl rfl rfl rfl rfl rfl rfl ?_; intro w7 hZ; clear hst))
   have hl := Loads.atA (P := Tryz.prog) (off := 0) (T := 27) tab0 [] hZ rfl rfl
   refine bodyPost_ret (results_cellR rfl rfl rfl hl) rfl ?_
   rw [HB.out]
   exact refRet_bad hZ _
  ·have HC := hid (show (if p.ok then (0 : Int) else 2) = 0 by rw [hc]; rfl)
   cases hh : p.hole
   ·have HH := hid hh
    cases hl : (p.v == 3)
    ·skip
     have hrb : rootB p = false := by rw [root_fine, hc, hh, hl]; try rfl
     replace HVI := hid (show volI t nm false = i by rw [← hrb]; exact HVI.out)
     replace HVZ := hid (show volZ t nm false = z by rw [← hrb]; exact HVZ.out)
     clear hc hh hrb
     go_enter Tryz.func41, Tryz.ntmps41
     go_wp2_with (first | go_big_skip | go_big_guard | (refine wl_boxA hst0 rfl rfl rfl ?_; intro gb w1 hA0; clear hst0) | (refine wl_boxA hA0 rfl rfl rfl ?_; intro gp w1 hA1; clear hA0) | (refine wl_alloc hA1 rfl rfl ?_; intro gz w2 hst; clear hA1) | (refine wl_loadE rfl rfl rfl ?_; first | refine ⟨_, Loads.atA (PV.cells p) [_] hst H35p.out (by simp), ?_⟩ | refine ⟨.int .i64 p.v, Loads.at [_] hst rfl, ?_⟩ | refine ⟨_, Loads.atA (tabC t (.slice ar nr cr) (.slice al nl cl)) [_, _] hst rfl rfl, ?_⟩ | refine ⟨_, Loads.at [] hU1 rfl, ?_⟩ | refine ⟨_, Loads.atA (PV.cells p) [_, _] hU1 H35p.out (by simp), ?_⟩) | (go_at_call 99; refine (refCheck_pv p _ (PV.In.old hst HPI.out)).mono ?_; rw [HC.out]; rintro _ w9 ⟨rfl, h4⟩; replace hst := St.call0 hst h4; clear h4) | (go_at_call 100; refine (refHole_pv p _ (PV.In.old hst HPI.out)).mono ?_; rw [HH.out]; rintro _ w9 ⟨rfl, h4⟩; replace hst := St.call0 hst h4; clear h4) | (go_at_call 98; refine (refVol13 t ar al nr cr nl cl xs _ (HT.out.old hst.nil) nm false hnm).mono ?_; rw [HVI.out, HVZ.out]; rintro _ w9 ⟨rfl, h4⟩; replace hst := St.call0 hst h4; clear h4) | (refine wl_build0 rfl rfl ?_) | (refine wl_storeA [] hst rfl rfl rfl rfl rfl rfl rfl ?_; intro w7 hZ; clear hst))
     have hl := Loads.atA (P := Tryz.prog) (off := 0) (T := 27) tab0 [] hZ rfl rfl
     refine bodyPost_ret (results_cellR rfl rfl rfl hl) rfl ?_
     rw [HB.out]
     exact refRet_bad hZ _
    ·skip
     have hrb : rootB p = true := by rw [root_fine, hc, hh, hl]; try rfl
     replace HVI := hid (show volI t nm true = i by rw [← hrb]; exact HVI.out)
     replace HVZ := hid (show volZ t nm true = z by rw [← hrb]; exact HVZ.out)
     clear hc hh hrb
     go_enter Tryz.func41, Tryz.ntmps41
     go_wp2_with (first | go_big_skip | go_big_guard | (refine wl_boxA hst0 rfl rfl rfl ?_; intro gb w1 hA0; clear hst0) | (refine wl_boxA hA0 rfl rfl rfl ?_; intro gp w1 hA1; clear hA0) | (refine wl_alloc hA1 rfl rfl ?_; intro gz w2 hst; clear hA1) | (refine wl_loadE rfl rfl rfl ?_; first | refine ⟨_, Loads.atA (PV.cells p) [_] hst H35p.out (by simp), ?_⟩ | refine ⟨.int .i64 p.v, Loads.at [_] hst rfl, ?_⟩ | refine ⟨_, Loads.atA (tabC t (.slice ar nr cr) (.slice al nl cl)) [_, _] hst rfl rfl, ?_⟩ | refine ⟨_, Loads.at [] hU1 rfl, ?_⟩ | refine ⟨_, Loads.atA (PV.cells p) [_, _] hU1 H35p.out (by simp), ?_⟩) | (go_at_call 99; refine (refCheck_pv p _ (PV.In.old hst HPI.out)).mono ?_; rw [HC.out]; rintro _ w9 ⟨rfl, h4⟩; replace hst := St.call0 hst h4; clear h4) | (go_at_call 100; refine (refHole_pv p _ (PV.In.old hst HPI.out)).mono ?_; rw [HH.out]; rintro _ w9 ⟨rfl, h4⟩; replace hst := St.call0 hst h4; clear h4) | (go_at_call 98; refine (refVol13 t ar al nr cr nl cl xs _ (HT.out.old hst.nil) nm true hnm).mono ?_; rw [HVI.out, HVZ.out]; rintro _ w9 ⟨rfl, h4⟩; replace hst := St.call0 hst h4; clear h4) | (refine wl_build0 rfl rfl ?_) | (refine wl_storeA [] hst rfl rfl rfl rfl rfl rfl rfl ?_; intro w7 hZ; clear hst))
     have hl := Loads.atA (P := Tryz.prog) (off := 0) (T := 27) tab0 [] hZ rfl rfl
     refine bodyPost_ret (results_cellR rfl rfl rfl hl) rfl ?_
     rw [HB.out]
     exact refRet_bad hZ _
   ·have HH := hid hh
    have hrb : rootB p = true := by rw [root_fine, hc, hh]; try rfl
    replace HVI := hid (show volI t nm true = i by rw [← hrb]; exact HVI.out)
    replace HVZ := hid (show volZ t nm true = z by rw [← hrb]; exact HVZ.out)
    clear hc hh hrb
    go_enter Tryz.func41, Tryz.ntmps41
    go_wp2_with (first | go_big_skip | go_big_guard | (refine wl_boxA hst0 rfl rfl rfl ?_; intro gb w1 hA0; clear hst0) | (refine wl_boxA hA0 rfl rfl rfl ?_; intro gp w1 hA1; clear hA0) | (refine wl_alloc hA1 rfl rfl ?_; intro gz w2 hst; clear hA1) | (refine wl_loadE rfl rfl rfl ?_; first | refine ⟨_, Loads.atA (PV.cells p) [_] hst H35p.out (by simp), ?_⟩ | refine ⟨.int .i64 p.v, Loads.at [_] hst rfl, ?_⟩ | refine ⟨_, Loads.atA (tabC t (.slice ar nr cr) (.slice al nl cl)) [_, _] hst rfl rfl, ?_⟩ | refine ⟨_, Loads.at [] hU1 rfl, ?_⟩ | refine ⟨_, Loads.atA (PV.cells p) [_, _] hU1 H35p.out (by simp), ?_⟩) | (go_at_call 99; refine (refCheck_pv p _ (PV.In.old hst HPI.out)).mono ?_; rw [HC.out]; rintro _ w9 ⟨rfl, h4⟩; replace hst := St.call0 hst h4; clear h4) | (go_at_call 100; refine (refHole_pv p _ (PV.In.old hst HPI.out)).mono ?_; rw [HH.out]; rintro _ w9 ⟨rfl, h4⟩; replace hst := St.call0 hst h4; clear h4) | (go_at_call 98; refine (refVol13 t ar al nr cr nl cl xs _ (HT.out.old hst.nil) nm true hnm).mono ?_; rw [HVI.out, HVZ.out]; rintro _ w9 ⟨rfl, h4⟩; replace hst := St.call0 hst h4; clear h4) | (refine wl_build0 rfl rfl ?_) | (refine wl_storeA [] hst rfl rfl rfl rfl rfl rfl rfl ?_; intro w7 hZ; clear hst))
    have hl := Loads.atA (P := Tryz.prog) (off := 0) (T := 27) tab0 [] hZ rfl rfl
    refine bodyPost_ret (results_cellR rfl rfl rfl hl) rfl ?_
    rw [HB.out]
    exact refRet_bad hZ _
 ·have dz : (z != 0) = false := by unfold bne; rw [hzz]; rfl
  have hz0 : (volZ t nm (rootB p) == 0) = true := by rw [hz]; exact hzz
  obtain ⟨hok, hfi, hna, v, hv, hk⟩ := vol_at hz0
  have HOK := hid (okP_iff.1 hok)
  have HFI := hfi
  replace HFI := hid HFI
  obtain ⟨j, sv, lb, lo, hf, hx9, hlt, har, hin, hrx⟩ := found_at HT.out hv
  subst har
  have HF := hid hf
  have HX9 := hid hx9
  have HRX := hid hrx
  have HIX := hid hin
  have HLL := hid hin.L
  have HL44 := hid (cellsR_len hin.L)
  have H35 := hid (PV.len (p := v.pv sv) hin.L)
  have HVL := hid (birth_le hok (List.mem_of_find?_eq_some hv)).1
  clear hf hx9 hrx hin
  have hfn := findN_of HF.out
  have hij : i = (j : Int) := by rw [← hi]; unfold volI; rw [hz0, hfn]; rfl
  subst hij
  have HVI := hid hi
  have hch := change_is (f := fun v => rootOf p v) hz0 hv hfn
  have HRJ := hid (recs_at HT.out HX9.out)
  have HLV := hid HT.out.ln
  have HBD := hid (show nr ≤ 1000000 ∧ nl ≤ 1000000 from ⟨b1, b2⟩)
  have HB := hid (show r = (0, (recsT t (t.recs.set j (rootOf p v)))) by
   rw [hr, hpl]
   have h := congrArg (opR t) hch
   exact h.trans (opR_0 hok))
  have HOK1 := hid (show OkP (recsT t (t.recs.set j (rootOf p v))) by
   have h9 := (rootT_keeps (nm := nm) (p := p) 0 HOK.out (by rw [hpl]; exact congrArg Prod.fst hch)).ok
   rw [hpl, hch] at h9
   exact h9)
  have HVN := hid (show (rootOf p v).name.length ≤ 9223372036854775807 from HIX.out.2)
  clear ht hr hz hi hzz hz0 hv hk hfn hfi hna hok hch hpl
  cases hc : p.ok
  ·have HC := hid (show (if p.ok then (0 : Int) else 2) = 2 by rw [hc]; rfl)
   exfalso
   rw [root_fine, hc] at HFI
   have h := HFI.out
   simp at h
  ·have HC := hid (show (if p.ok then (0 : Int) else 2) = 0 by rw [hc]; rfl)
   cases hh : p.hole
   ·have HH := hid hh
    cases hl : (p.v == 3)
    ·skip
     exfalso
     rw [root_fine, hc, hh, hl] at HFI
     have h := HFI.out
     simp at h
    ·skip
     have hrb : rootB p = true := by rw [root_fine, hc, hh, hl]; try rfl
     replace HVI := hid (show volI t nm true = (j : Int) by rw [← hrb]; exact HVI.out)
     replace HVZ := hid (show volZ t nm true = z by rw [← hrb]; exact HVZ.out)
     clear hc hh hrb
     go_enter Tryz.func41, Tryz.ntmps41
     go_wp2_with (first | go_big_skip | go_big_guard | (refine wl_boxA hst0 rfl rfl rfl ?_; intro gb w1 hA0; clear hst0) | (refine wl_boxA hA0 rfl rfl rfl ?_; intro gp w1 hA1; clear hA0) | (refine wl_alloc hA1 rfl rfl ?_; intro gz w2 hst; clear hA1) | (refine wl_loadE rfl rfl rfl ?_; first | refine ⟨_, Loads.atA (PV.cells p) [_] hst H35p.out (by simp), ?_⟩ | refine ⟨.int .i64 p.v, Loads.at [_] hst rfl, ?_⟩ | refine ⟨_, Loads.atA (tabC t (.slice (some ⟨lb, lo, none⟩) nr cr) (.slice al nl cl)) [_, _] hst rfl rfl, ?_⟩ | refine ⟨_, Loads.at [] hU1 rfl, ?_⟩ | refine ⟨_, Loads.atA (PV.cells p) [_, _] hU1 H35p.out (by simp), ?_⟩) | (go_at_call 99; refine (refCheck_pv p _ (PV.In.old hst HPI.out)).mono ?_; rw [HC.out]; rintro _ w9 ⟨rfl, h4⟩; replace hst := St.call0 hst h4; clear h4) | (go_at_call 100; refine (refHole_pv p _ (PV.In.old hst HPI.out)).mono ?_; rw [HH.out]; rintro _ w9 ⟨rfl, h4⟩; replace hst := St.call0 hst h4; clear h4) | (go_at_call 98; refine (refVol13 t (some ⟨lb, lo, none⟩) al nr cr nl cl xs _ (HT.out.old hst.nil) nm true hnm).mono ?_; rw [HVI.out, HVZ.out]; rintro _ w9 ⟨rfl, h4⟩; replace hst := St.call0 hst h4; clear h4) | (go_at_call 94; refine (refOwn_ok t (some ⟨lb, lo, none⟩) al nr cr nl cl xs _ (HT.out.old hst.nil) HOK.out).mono ?_; rintro _ w9 ⟨ra, rc, la, lc, ys, KK, rfl, hye, hyn, hyo, h4⟩; have hO0 := St.perm (St.call hst h4) List.perm_append_comm; obtain ⟨gr, rfl⟩ := row_spotA hO0 (.tail _ (.tail _ (.tail _ (.head _)))) (by omega); have hO1 : St w [] w9 (.blk gz 27 tab0 :: .blk gp 32 (PV.cells p) :: .blk gb 27 (tabC t (.slice (some ⟨lb, lo, none⟩) nr cr) (.slice al nl cl)) :: .row (.slice (some ⟨gr, 0, none⟩) nr rc) 53 44 nr (recsV ys) :: .row (.slice la nl lc) 3 1 nl (numsV t.lives) :: KK) := hO0; have HYE := hid hye; have HYN := hid hyn; have HYO := hid hyo; clear h4 hO0 hst hye hyn hyo) | (refine wl_alloc hO1 rfl rfl ?_; intro g13 w1 hO2; clear hO1) | (refine wl_storeA [] hO2 rfl rfl rfl rfl (vs := (tabC t (.slice (some ⟨gr, 0, none⟩) nr rc) (.slice la nl lc))) rfl rfl rfl ?_; intro w1 h4; have hU1 : St w [] w1 (.blk g13 27 (tabC t (.slice (some ⟨gr, 0, none⟩) nr rc) (.slice la nl lc)) :: .blk gz 27 tab0 :: .blk gp 32 (PV.cells p) :: .blk gb 27 (tabC t (.slice (some ⟨lb, lo, none⟩) nr cr) (.slice al nl cl)) :: .row (.slice (some ⟨gr, 0, none⟩) nr rc) 53 44 nr (recsV ys) :: .row (.slice la nl lc) 3 1 nl (numsV t.lives) :: KK) := h4; clear h4 hO2; obtain ⟨u, hyj⟩ := map_get2 HYE.out HRJ.out; have HYJ := hid hyj; have HLY := hid (show LX ys from (fun q hq => (HYO.out q hq).2.1)); clear hyj) | (refine wl_index rfl rfl rfl rfl hlt ?_) | (refine wl_storeRow [_, _, _, _] hU1 rfl rfl rfl rfl (m := 35) (vs := PV.cells p) H35p.out (PV.ones_of (p := p) HSV.out) (by omega) (by omega) ?_; intro w6 h6; rw [recsV_put HLY.out HYJ.out (d := 4) (by rw [H35p.out]; decide) (put_rootR (u, v) p HLL.out HPI.out.1)] at h6; have hU2 : St w [] w6 (.blk g13 27 (tabC t (.slice (some ⟨gr, 0, none⟩) nr rc) (.slice la nl lc)) :: .blk gz 27 tab0 :: .blk gp 32 (PV.cells p) :: .blk gb 27 (tabC t (.slice (some ⟨lb, lo, none⟩) nr cr) (.slice al nl cl)) :: .row (.slice (some ⟨gr, 0, none⟩) nr rc) 53 44 nr (recsV (ys.set j (p.sv, rootOf p v))) :: .row (.slice la nl lc) 3 1 nl (numsV t.lives) :: KK) := h6; clear h6 hU1) | (refine wl_loadE rfl rfl rfl ?_; refine ⟨_, Loads.atA (tabC t (.slice (some ⟨gr, 0, none⟩) nr rc) (.slice la nl lc)) [] hU2 rfl rfl, ?_⟩) | (go_at_call 94; refine (refOwn_ok (recsT t (t.recs.set j (rootOf p v))) (some ⟨gr, 0, none⟩) la nr rc nl lc (ys.set j (p.sv, rootOf p v)) _ (⟨⟨Rd.row hU2 (.tail _ (.tail _ (.tail _ (.tail _ (.head _))))), (by rw [List.length_set]; exact HYN.out), (by intro q hq; rcases List.mem_or_eq_of_mem_set hq with h | rfl; exact ((HYO.out q h).sub (fun z hz => .tail _ (.tail _ (.tail _ (.tail _ (.tail _ (.tail _ hz))))))).In hU2; exact ⟨PV.In.old hU2 HPI.out, HVN.out⟩)⟩, (by show _ = t.recs.set j (rootOf p v); rw [List.map_set, HYE.out]), Rd.row hU2 (.tail _ (.tail _ (.tail _ (.tail _ (.tail _ (.head _)))))), HLV.out, HBD.out.1, HBD.out.2⟩) HOK1.out).mono ?_; rintro _ w9 ⟨rb, rd, lb2, ld, zs, K3, rfl, hze, hzn, hzo, h4⟩; have hV := Hp.St.shift1 (St.call hU2 h4); have HZE := hid hze; have HZN := hid hzn; have HZO := hid hzo; clear h4 hU2 hze hzn hzo) | (refine wl_storeA ((_ :: _ :: K3) ++ [_]) hV rfl rfl rfl rfl (vs := tabC (recsT t (t.recs.set j (rootOf p v))) (.slice rb nr rd) (.slice lb2 nl ld)) rfl rfl rfl ?_; intro w7 hZ; clear hV))
     have hl := Loads.atA (P := Tryz.prog) (off := 0) (T := 27) (tabC (recsT t (t.recs.set j (rootOf p v))) (.slice rb nr rd) (.slice lb2 nl ld)) ((_ :: _ :: K3) ++ [_]) hZ rfl rfl
     refine bodyPost_ret (results_cellR rfl rfl rfl hl) rfl ?_
     rw [HB.out]
     exact ref_fin (K := K3) hZ (List.mem_append_left _ (List.mem_append_left _ (.head _))) (List.mem_append_left _ (List.mem_append_left _ (.tail _ (.head _)))) (fun y hy => List.mem_append_left _ (List.mem_append_left _ (.tail _ (.tail _ hy)))) HZO.out HZN.out HLV.out HZE.out HBD.out
   ·have HH := hid hh
    have hrb : rootB p = true := by rw [root_fine, hc, hh]; try rfl
    replace HVI := hid (show volI t nm true = (j : Int) by rw [← hrb]; exact HVI.out)
    replace HVZ := hid (show volZ t nm true = z by rw [← hrb]; exact HVZ.out)
    clear hc hh hrb
    go_enter Tryz.func41, Tryz.ntmps41
    go_wp2_with (first | go_big_skip | go_big_guard | (refine wl_boxA hst0 rfl rfl rfl ?_; intro gb w1 hA0; clear hst0) | (refine wl_boxA hA0 rfl rfl rfl ?_; intro gp w1 hA1; clear hA0) | (refine wl_alloc hA1 rfl rfl ?_; intro gz w2 hst; clear hA1) | (refine wl_loadE rfl rfl rfl ?_; first | refine ⟨_, Loads.atA (PV.cells p) [_] hst H35p.out (by simp), ?_⟩ | refine ⟨.int .i64 p.v, Loads.at [_] hst rfl, ?_⟩ | refine ⟨_, Loads.atA (tabC t (.slice (some ⟨lb, lo, none⟩) nr cr) (.slice al nl cl)) [_, _] hst rfl rfl, ?_⟩ | refine ⟨_, Loads.at [] hU1 rfl, ?_⟩ | refine ⟨_, Loads.atA (PV.cells p) [_, _] hU1 H35p.out (by simp), ?_⟩) | (go_at_call 99; refine (refCheck_pv p _ (PV.In.old hst HPI.out)).mono ?_; rw [HC.out]; rintro _ w9 ⟨rfl, h4⟩; replace hst := St.call0 hst h4; clear h4) | (go_at_call 100; refine (refHole_pv p _ (PV.In.old hst HPI.out)).mono ?_; rw [HH.out]; rintro _ w9 ⟨rfl, h4⟩; replace hst := St.call0 hst h4; clear h4) | (go_at_call 98; refine (refVol13 t (some ⟨lb, lo, none⟩) al nr cr nl cl xs _ (HT.out.old hst.nil) nm true hnm).mono ?_; rw [HVI.out, HVZ.out]; rintro _ w9 ⟨rfl, h4⟩; replace hst := St.call0 hst h4; clear h4) | (go_at_call 94; refine (refOwn_ok t (some ⟨lb, lo, none⟩) al nr cr nl cl xs _ (HT.out.old hst.nil) HOK.out).mono ?_; rintro _ w9 ⟨ra, rc, la, lc, ys, KK, rfl, hye, hyn, hyo, h4⟩; have hO0 := St.perm (St.call hst h4) List.perm_append_comm; obtain ⟨gr, rfl⟩ := row_spotA hO0 (.tail _ (.tail _ (.tail _ (.head _)))) (by omega); have hO1 : St w [] w9 (.blk gz 27 tab0 :: .blk gp 32 (PV.cells p) :: .blk gb 27 (tabC t (.slice (some ⟨lb, lo, none⟩) nr cr) (.slice al nl cl)) :: .row (.slice (some ⟨gr, 0, none⟩) nr rc) 53 44 nr (recsV ys) :: .row (.slice la nl lc) 3 1 nl (numsV t.lives) :: KK) := hO0; have HYE := hid hye; have HYN := hid hyn; have HYO := hid hyo; clear h4 hO0 hst hye hyn hyo) | (refine wl_alloc hO1 rfl rfl ?_; intro g13 w1 hO2; clear hO1) | (refine wl_storeA [] hO2 rfl rfl rfl rfl (vs := (tabC t (.slice (some ⟨gr, 0, none⟩) nr rc) (.slice la nl lc))) rfl rfl rfl ?_; intro w1 h4; have hU1 : St w [] w1 (.blk g13 27 (tabC t (.slice (some ⟨gr, 0, none⟩) nr rc) (.slice la nl lc)) :: .blk gz 27 tab0 :: .blk gp 32 (PV.cells p) :: .blk gb 27 (tabC t (.slice (some ⟨lb, lo, none⟩) nr cr) (.slice al nl cl)) :: .row (.slice (some ⟨gr, 0, none⟩) nr rc) 53 44 nr (recsV ys) :: .row (.slice la nl lc) 3 1 nl (numsV t.lives) :: KK) := h4; clear h4 hO2; obtain ⟨u, hyj⟩ := map_get2 HYE.out HRJ.out; have HYJ := hid hyj; have HLY := hid (show LX ys from (fun q hq => (HYO.out q hq).2.1)); clear hyj) | (refine wl_index rfl rfl rfl rfl hlt ?_) | (refine wl_storeRow [_, _, _, _] hU1 rfl rfl rfl rfl (m := 35) (vs := PV.cells p) H35p.out (PV.ones_of (p := p) HSV.out) (by omega) (by omega) ?_; intro w6 h6; rw [recsV_put HLY.out HYJ.out (d := 4) (by rw [H35p.out]; decide) (put_rootR (u, v) p HLL.out HPI.out.1)] at h6; have hU2 : St w [] w6 (.blk g13 27 (tabC t (.slice (some ⟨gr, 0, none⟩) nr rc) (.slice la nl lc)) :: .blk gz 27 tab0 :: .blk gp 32 (PV.cells p) :: .blk gb 27 (tabC t (.slice (some ⟨lb, lo, none⟩) nr cr) (.slice al nl cl)) :: .row (.slice (some ⟨gr, 0, none⟩) nr rc) 53 44 nr (recsV (ys.set j (p.sv, rootOf p v))) :: .row (.slice la nl lc) 3 1 nl (numsV t.lives) :: KK) := h6; clear h6 hU1) | (refine wl_loadE rfl rfl rfl ?_; refine ⟨_, Loads.atA (tabC t (.slice (some ⟨gr, 0, none⟩) nr rc) (.slice la nl lc)) [] hU2 rfl rfl, ?_⟩) | (go_at_call 94; refine (refOwn_ok (recsT t (t.recs.set j (rootOf p v))) (some ⟨gr, 0, none⟩) la nr rc nl lc (ys.set j (p.sv, rootOf p v)) _ (⟨⟨Rd.row hU2 (.tail _ (.tail _ (.tail _ (.tail _ (.head _))))), (by rw [List.length_set]; exact HYN.out), (by intro q hq; rcases List.mem_or_eq_of_mem_set hq with h | rfl; exact ((HYO.out q h).sub (fun z hz => .tail _ (.tail _ (.tail _ (.tail _ (.tail _ (.tail _ hz))))))).In hU2; exact ⟨PV.In.old hU2 HPI.out, HVN.out⟩)⟩, (by show _ = t.recs.set j (rootOf p v); rw [List.map_set, HYE.out]), Rd.row hU2 (.tail _ (.tail _ (.tail _ (.tail _ (.tail _ (.head _)))))), HLV.out, HBD.out.1, HBD.out.2⟩) HOK1.out).mono ?_; rintro _ w9 ⟨rb, rd, lb2, ld, zs, K3, rfl, hze, hzn, hzo, h4⟩; have hV := Hp.St.shift1 (St.call hU2 h4); have HZE := hid hze; have HZN := hid hzn; have HZO := hid hzo; clear h4 hU2 hze hzn hzo) | (refine wl_storeA ((_ :: _ :: K3) ++ [_]) hV rfl rfl rfl rfl (vs := tabC (recsT t (t.recs.set j (rootOf p v))) (.slice rb nr rd) (.slice lb2 nl ld)) rfl rfl rfl ?_; intro w7 hZ; clear hV))
    have hl := Loads.atA (P := Tryz.prog) (off := 0) (T := 27) (tabC (recsT t (t.recs.set j (rootOf p v))) (.slice rb nr rd) (.slice lb2 nl ld)) ((_ :: _ :: K3) ++ [_]) hZ rfl rfl
    refine bodyPost_ret (results_cellR rfl rfl rfl hl) rfl ?_
    rw [HB.out]
    exact ref_fin (K := K3) hZ (List.mem_append_left _ (List.mem_append_left _ (.head _))) (List.mem_append_left _ (List.mem_append_left _ (.tail _ (.head _)))) (fun y hy => List.mem_append_left _ (List.mem_append_left _ (.tail _ (.tail _ hy)))) HZO.out HZN.out HLV.out HZE.out HBD.out
theorem refNew13 (devs : Int) (w : World) : Calls Tryz.prog 14 #[.int .i64 devs] w (TabRet (newR devs) w) := by
 have hst0 := St.refl w
 obtain ⟨r, hr⟩ : ∃ r, r = newR devs := ⟨_, rfl⟩
 rw [← hr]
 cases hq : inB devs 2 8
 ·have HW := hid hq
  have HB := hid (show r = badR 2 by rw [hr]; unfold newR; rw [hq]; rfl)
  clear hr hq
  go_enter Tryz.func14, Tryz.ntmps14
  go_wp2_with (first | go_big_skip | go_big_guard | (refine wl_alloc hst0 rfl rfl ?_; intro g2 w1 hst; clear hst0) | (go_at_call 42; refine (refWithin13 _ _ _ _).mono ?_; rw [HW.out]; rintro _ w9 ⟨rfl, h4⟩; replace hst := St.call0 hst h4; clear h4) | (refine wl_build0 rfl rfl ?_) | (refine wl_storeA [] hst rfl rfl rfl rfl rfl rfl rfl ?_; intro w7 hst2; clear hst))
  have hl := Loads.atA (P := Tryz.prog) (off := 0) (T := 27) tab0 [] hst2 rfl rfl
  refine bodyPost_ret (results_cellR rfl rfl rfl hl) rfl ?_
  rw [HB.out]
  exact tabRet_bad hst2 2
 ·have h2 := inB_iff.1 hq
  obtain ⟨n, rfl⟩ : ∃ n : Nat, devs = (n : Int) := ⟨devs.toNat, by omega⟩
  have HW := hid hq
  have HB := hid (show r = (0, ⟨1, [], 0, 0, 0, 0, List.replicate n 0⟩) by rw [hr]; unfold newR; rw [hq]; rfl)
  have hn8 : n ≤ 8 := by omega
  clear h2 hr hq
  go_enter Tryz.func14, Tryz.ntmps14
  go_wp2_with (first | go_big_skip | go_big_guard | (refine wl_alloc hst0 rfl rfl ?_; intro g2 w1 hst; clear hst0) | (go_at_call 42; refine (refWithin13 _ _ _ _).mono ?_; rw [HW.out]; rintro _ w9 ⟨rfl, h4⟩; replace hst := St.call0 hst h4; clear h4) | (apply wl_make n n hst; rfl; rfl; exact rfl; exact rfl; infer_instance; infer_instance; infer_instance; rfl; rfl; exact Nat.le_refl _; exact ⟨by omega, by omega⟩; intro g3 w2 hst2; clear hst) | (refine wl_buildX (cs := [.int .i64 1, .slice none 0 0, .int .i64 0, .int .i64 0, .int .i64 0, .int .i64 0, .slice (some ⟨g3, 0, none⟩) n n]) [(0, .int .i64 1), (3, .slice (some ⟨g3, 0, none⟩) n n)] rfl rfl (by exact rfl) (bldNew _ _ _) ?_) | (refine wl_storeA [_] hst2 rfl rfl rfl rfl rfl rfl rfl ?_; intro w7 hst3; clear hst2))
  have hl := Loads.atA (P := Tryz.prog) (off := 0) (T := 27) [.int .i64 1, .slice none 0 0, .int .i64 0, .int .i64 0, .int .i64 0, .int .i64 0, .slice (some ⟨g3, 0, none⟩) n n] [_] hst3 rfl rfl
  refine bodyPost_ret (results_cellR rfl rfl rfl hl) rfl ?_
  rw [HB.out]
  refine ⟨.slice none 0 0, .slice (some ⟨g3, 0, none⟩) n n, [], rfl, ⟨rfl, fun _ h => by cases h⟩, ?_⟩
  have h5 := St.toRow (n := n) (cap := n) (sz := 1) hst3 (by rw [List.length_replicate, Nat.mul_one]) (Nat.le_refl _) (by omega)
  rw [Nat.mul_one, List.take_of_length_le (by rw [List.length_replicate]; exact Nat.le_refl _)] at h5
  have e1 : numsV (List.replicate n 0) = List.replicate n (.int .i64 0) := by unfold numsV; rw [List.map_replicate]
  have h6 := St.nilR 53 44 (St.sub h5 (.cons_cons _ (List.nil_sublist _)))
  show St w [] _ [.row _ _ 44 0 _, .row _ _ 1 (List.replicate n (0 : Int)).length (numsV (List.replicate n 0))]
  rw [List.length_replicate, e1]
  exact h6
end Go.Proofs.YtifajcblbedcoaaGreat
