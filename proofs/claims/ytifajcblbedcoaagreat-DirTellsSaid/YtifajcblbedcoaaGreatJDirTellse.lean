import Derived.Test.YtifajcblbedcoaaGreatJDirTellsc
import Derived.Test.YtifajcblbedcoaaGreatSepQ
import Derived.Test.YtifajcblbedcoaaGreatJDirTellsd
import Derived.Test.YtifajcblbedcoaaGreatPtrR
import Derived.Test.YtifajcblbedcoaaGreatPtrL
import Derived.Test.YtifajcblbedcoaaGreatJDirTellsa
import Derived.Test.YtifajcblbedcoaaGreatSepN
import Derived.Test.YtifajcblbedcoaaGreatT8
import Derived.Test.YtifajcblbedcoaaGreatSepP
namespace Go.Proofs.YtifajcblbedcoaaGreat
set_option linter.unusedVariables false
set_option linter.unusedSimpArgs false
open Go.RowKit Hp
def rootRows (E : TypeId) (xs : List (Value × RC)) : List HA := xs.reverse.map fun x => .row x.1 E 2 x.2.l.length (addrsV x.2.l)
theorem rootRows_add (E : TypeId) (xs : List (Value × RC)) (x : Value × RC) : rootRows E (xs ++ [x]) = .row x.1 E 2 x.2.l.length (addrsV x.2.l) :: rootRows E xs := by simp [rootRows]
theorem rootRows_mem {E : TypeId} {xs : List (Value × RC)} {x : Value × RC} (h : x ∈ xs) : HA.row x.1 E 2 x.2.l.length (addrsV x.2.l) ∈ rootRows E xs := by
 unfold rootRows
 rw [List.mem_map]
 exact ⟨x, by simpa using h, rfl⟩
theorem Hp.St.root {w0 w : World} {M : List Nat} {g : HA} {A : List HA} {E : TypeId} {xs : List (Value × RC)} {sv : Value} {x : RC} (h : St w0 M w (g :: .row sv E 2 x.l.length (addrsV x.l) :: (A ++ rootRows E xs))) : St w0 M w (g :: (A ++ rootRows E (xs ++ [(sv, x)]))) := by
 rw [rootRows_add]
 exact St.perm h (.cons _ List.perm_middle.symm)
theorem root_in {w0 w : World} {M : List Nat} {L : List HA} {E : TypeId} {x : Value × RC} (hst : St w0 M w L) (hm : HA.row x.1 E 2 x.2.l.length (addrsV x.2.l) ∈ L) (hS : L32 x.2.S) (hn : x.2.name.length ≤ 9223372036854775807) : RC.In w x := by
 obtain ⟨ao, c, e, h1, h2, h3⟩ := row_form hst hm
 have hr := Rd.row hst hm
 refine ⟨⟨hS, ao, _, c, e, ?_, rfl⟩, hn⟩
 rw [e] at hr
 exact hr
end Go.Proofs.YtifajcblbedcoaaGreat
namespace Go.Proofs.YtifajcblbedcoaaGreat
set_option linter.unusedVariables false
set_option linter.unusedSimpArgs false
open Go.RowKit Hp
end Go.Proofs.YtifajcblbedcoaaGreat
namespace Go.Proofs.YtifajcblbedcoaaGreat
set_option linter.unusedVariables false
set_option linter.unusedSimpArgs false
open Go.RowKit Hp
attribute [local irreducible] Go.Calls
set_option maxHeartbeats 2000000
theorem loadedI (A : Addr) : loadVar 3 A = loadVarH 3 A := rfl
end Go.Proofs.YtifajcblbedcoaaGreat
namespace Go.Proofs.YtifajcblbedcoaaGreat
set_option linter.unusedVariables false
set_option linter.unusedSimpArgs false
open Go.RowKit Hp
attribute [local irreducible] Go.Calls
set_option maxHeartbeats 20000000
attribute [local go_sem ↓] loadedP loadedI
theorem NV.err_no {x : NV} (h : x.ok = false) : x.err = 2 := by simp [NV.err, h]
theorem NV.ok_all {x : NV} (h1 : 1 ≤ x.lv) (h3 : x.lv ≤ 3) (h : ∀ j, j < 4 → (x.get j).fits x.lv = true) : x.ok = true := by
 rw [NV.ok, NV.fitsAll, (all4 (f := fun p => p.fits x.lv)).2 h]
 simp [h1, h3]
end Go.Proofs.YtifajcblbedcoaaGreat
namespace Go.Proofs.YtifajcblbedcoaaGreat
set_option linter.unusedVariables false
set_option linter.unusedSimpArgs false
open Go.RowKit Hp
attribute [local irreducible] Go.Calls
set_option maxHeartbeats 4000000
def lvB (lv : Int) : UInt8 := UInt8.ofNat lv.toNat
def packTo (x : NV) (k : Nat) : List UInt8 := (lvB x.lv :: ((List.range k).map fun j => (x.get j).bytes).flatten) ++ List.replicate (255 - 47 * k) 0
def NV.bytes (x : NV) : List UInt8 := packTo x 4
end Go.Proofs.YtifajcblbedcoaaGreat
namespace Go.Proofs.YtifajcblbedcoaaGreat
set_option linter.unusedVariables false
set_option linter.unusedSimpArgs false
open Go.RowKit Hp
def NV.set (x : NV) : Nat → PV → NV
 | 0, p => { x with p0 := p }
 | 1, p => { x with p1 := p }
 | 2, p => { x with p2 := p }
 | _, p => { x with p3 := p }
theorem put_at (a b c v : List Value) (h : b.length = v.length) {n : Nat} (hn : n = a.length) : putAt (a ++ (b ++ c)) n v = a ++ (v ++ c) := by
 subst hn
 have := put_app a (b ++ c) 0 v
 rw [Nat.add_zero] at this
 rw [this]
 simp [putAt, ← h]
def uP (bs : List UInt8) (k : Nat) : List UInt8 := (bs.take (1 + 47 * (k + 1))).drop (1 + 47 * k)
def uPV (bs : List UInt8) (k : Nat) : PV := ⟨.slice none 0 0, rAddrs (uP bs k) 3, rBirth (uP bs k), rLevel (uP bs k), rSum (uP bs k)⟩
def PV.eqd (p q : PV) : Prop := p.l = q.l ∧ p.b = q.b ∧ p.v = q.v ∧ p.S = q.S
def zP : PV := ⟨.slice none 0 0, [], 0, 0, nones⟩
theorem zP_in (w : World) : zP.In w := ⟨L32.nones, none, 0, 0, rfl, Rd.nil w 2, rfl⟩
theorem PV.eqd.ok {p q : PV} (h : p.eqd q) : p.ok = q.ok ∧ p.hole = q.hole ∧ p.bytes = q.bytes ∧ ∀ lv, p.fits lv = q.fits lv := by
 obtain ⟨h1, h2, h3, h4⟩ := h
 simp only [PV.ok, PV.hole, PV.bytes, PV.fits, h1, h2, h3, h4, and_self, implies_true]
theorem NV.eqd {x y : NV} (hl : x.lv = y.lv) (h : ∀ j, j < 4 → (x.get j).eqd (y.get j)) : x.ok = y.ok ∧ x.bytes = y.bytes := by
 have e0 := (h 0 (by omega)).ok
 have e1 := (h 1 (by omega)).ok
 have e2 := (h 2 (by omega)).ok
 have e3 := (h 3 (by omega)).ok
 simp only [NV.get] at e0 e1 e2 e3
 constructor
 ·simp only [NV.ok, NV.fitsAll, hl, e0.2.2.2, e1.2.2.2, e2.2.2.2, e3.2.2.2]
 ·simp only [NV.bytes, packTo, hl, List.range, List.range.loop, List.map_cons, List.map_nil, NV.get, e0.2.2.1, e1.2.2.1, e2.2.2.1, e3.2.2.1]
def NV.isU (E : TypeId) (x : NV) (bs : List UInt8) (R : List HA) (k : Nat) : Prop := ∀ j, j < k → (x.get j).eqd (uPV bs j) ∧ ∃ ao n c, (x.get j).sv = .slice ao n c ∧ HA.row (.slice ao n c) E 2 n (addrsV (x.get j).l) ∈ R ∧ (x.get j).l.length = n
theorem NV.isU.in {E : TypeId} {x : NV} {bs : List UInt8} {R L : List HA} {w0 w : World} {M : List Nat} {k : Nat} (h : x.isU E bs R k) (hst : St w0 M w L) (hR : ∀ y ∈ R, y ∈ L) (hS : ∀ j, j < k → L32 (uPV bs j).S) (hz : ∀ j, k ≤ j → j < 4 → x.get j = zP) : x.In w := by
 have main : ∀ j, j < 4 → (x.get j).In w := by
  intro j hj
  by_cases hk : j < k
  ·obtain ⟨⟨h1, h2, h3, h4⟩, ao, n, c, h5, h6, h7⟩ := h j hk
   exact ⟨by rw [h4]; exact hS j hk, ao, n, c, h5, Rd.row hst (hR _ h6), h7⟩
  ·rw [hz j (by omega) hj]; exact zP_in w
 intro j
 match j with
 | 0 => exact main 0 (by omega)
 | 1 => exact main 1 (by omega)
 | 2 => exact main 2 (by omega)
 | _ + 3 => exact main 3 (by omega)
end Go.Proofs.YtifajcblbedcoaaGreat
namespace Go.Proofs.YtifajcblbedcoaaGreat
set_option linter.unusedVariables false
set_option linter.unusedSimpArgs false
open Go.RowKit Hp
set_option maxRecDepth 100000
def xC (id : Int) (nm : List UInt8) (kind size : Int) (p : PV) (a b c d e : Int) : List Value := .int .i64 id :: .string ⟨nm.toArray⟩ :: .int .i64 kind :: .int .i64 size :: (p.cells ++ [.int .i64 a, .int .i64 b, .int .i64 c, .int .i64 d, .int .i64 e])
section
variable {id : Int} {nm : List UInt8} {kind size : Int} {p : PV} {a b c d e : Int}
theorem xC_len (h : L32 p.S) : (xC id nm kind size p a b c d e).length = 44 := by simp [xC, PV.len h]
theorem xC_put1 (z : List UInt8) : putAt (xC id nm kind size p a b c d e) 1 [.string ⟨z.toArray⟩] = xC id z kind size p a b c d e := rfl
theorem xC_put2 (z : Int) : putAt (xC id nm kind size p a b c d e) 2 [.int .i64 z] = xC id nm z size p a b c d e := rfl
theorem xC_put3 (z : Int) : putAt (xC id nm kind size p a b c d e) 3 [.int .i64 z] = xC id nm kind z p a b c d e := rfl
theorem xC_put4 {q : PV} (h : L32 p.S) (h' : L32 q.S) : putAt (xC id nm kind size p a b c d e) 4 q.cells = xC id nm kind size q a b c d e :=
 put_at [.int .i64 id, .string ⟨nm.toArray⟩, .int .i64 kind, .int .i64 size] p.cells [.int .i64 a, .int .i64 b, .int .i64 c, .int .i64 d, .int .i64 e] q.cells (by rw [PV.len h, PV.len h']) rfl
theorem xC_tail (h : L32 p.S) {k : Nat} {v : Value} {t t' : List Value} (ht : putAt t k [v] = t') : putAt (.int .i64 id :: .string ⟨nm.toArray⟩ :: .int .i64 kind :: .int .i64 size :: (p.cells ++ t)) (39 + k) [v] = .int .i64 id :: .string ⟨nm.toArray⟩ :: .int .i64 kind :: .int .i64 size :: (p.cells ++ t') := by
 have hl := PV.len h
 subst ht
 unfold putAt
 have e1 : (Value.int IntKind.i64 id :: Value.string ⟨nm.toArray⟩ :: Value.int IntKind.i64 kind :: Value.int IntKind.i64 size :: (p.cells ++ t)) = ([Value.int IntKind.i64 id, Value.string ⟨nm.toArray⟩, Value.int IntKind.i64 kind, Value.int IntKind.i64 size] ++ p.cells) ++ t := by simp
 have e2 : ([Value.int IntKind.i64 id, Value.string ⟨nm.toArray⟩, Value.int IntKind.i64 kind, Value.int IntKind.i64 size] ++ p.cells).length = 39 := by simp [hl]
 rw [e1, List.take_append, List.drop_append, e2, List.take_of_length_le (by rw [e2]; omega), List.drop_of_length_le (by rw [e2]; omega)]
 simp
 congr 2
 omega
theorem xC_put39 (h : L32 p.S) (z : Int) : putAt (xC id nm kind size p a b c d e) 39 [.int .i64 z] = xC id nm kind size p z b c d e := xC_tail h (k := 0) rfl
theorem xC_put40 (h : L32 p.S) (z : Int) : putAt (xC id nm kind size p a b c d e) 40 [.int .i64 z] = xC id nm kind size p a z c d e := xC_tail h (k := 1) rfl
theorem xC_put41 (h : L32 p.S) (z : Int) : putAt (xC id nm kind size p a b c d e) 41 [.int .i64 z] = xC id nm kind size p a b z d e := xC_tail h (k := 2) rfl
theorem xC_put42 (h : L32 p.S) (z : Int) : putAt (xC id nm kind size p a b c d e) 42 [.int .i64 z] = xC id nm kind size p a b c z e := xC_tail h (k := 3) rfl
theorem xC_put43 (h : L32 p.S) (z : Int) : putAt (xC id nm kind size p a b c d e) 43 [.int .i64 z] = xC id nm kind size p a b c d z := xC_tail h (k := 4) rfl
end
end Go.Proofs.YtifajcblbedcoaaGreat
namespace Go.Proofs.YtifajcblbedcoaaGreat
set_option linter.unusedVariables false
set_option linter.unusedSimpArgs false
open Go.RowKit Hp
attribute [local irreducible] Go.Calls Go.wpList
set_option maxRecDepth 100000
set_option maxHeartbeats 8000000
attribute [local go_sem ↓] heldInt heldInts heldRecs heldRec heldStr
theorem rowS {w0 w : World} {M : List Nat} (L1 : List HA) {L2 : List HA} {v : Value} {T : TypeId} {sz n : Nat} {xs : List Value} (h : St w0 M w (L1 ++ .row v T sz n xs :: L2)) : ∃ ao c, v = .slice ao n c ∧ n ≤ c ∧ c ≤ 9223372036854775807 := by
 obtain ⟨ao, c, e, h1, h2, _⟩ := row_form h (by simp : HA.row v T sz n xs ∈ L1 ++ .row v T sz n xs :: L2)
 exact ⟨ao, c, e, h1, h2⟩
def rootH (x : Value × RC) : HA := .row x.1 102 2 x.2.l.length (addrsV x.2.l)
def OwnR (L : List HA) (x : Value × RC) : Prop := rootH x ∈ L ∧ L32 x.2.S ∧ x.2.name.length ≤ 1000000
def OwnX (L : List HA) (xs : List (Value × RC)) : Prop := ∀ x ∈ xs, OwnR L x
theorem OwnR.cons {L : List HA} {x : Value × RC} (h : OwnR L x) (y : HA) : OwnR (y :: L) x := ⟨.tail _ h.1, h.2⟩
theorem OwnX.cons {L : List HA} {xs : List (Value × RC)} (h : OwnX L xs) (y : HA) : OwnX (y :: L) xs := fun x hx => (h x hx).cons y
theorem OwnR.sub {L L' : List HA} {x : Value × RC} (h : OwnR L x) (hs : ∀ y ∈ L, y ∈ L') : OwnR L' x := ⟨hs _ h.1, h.2⟩
theorem OwnX.sub {L L' : List HA} {xs : List (Value × RC)} (h : OwnX L xs) (hs : ∀ y ∈ L, y ∈ L') : OwnX L' xs := fun x hx => (h x hx).sub hs
theorem OwnR.In {w0 w : World} {M : List Nat} {L : List HA} {x : Value × RC} (h : OwnR L x) (hst : St w0 M w L) : RC.In w x := root_in hst h.1 h.2.1 (by have := h.2.2; omega)
theorem OwnR.L {L : List HA} {x : Value × RC} (h : OwnR L x) : (cellsR x).length = 44 := cellsR_len h.2.1
theorem recs_inL {w0 w : World} {M : List Nat} {L : List HA} {rv : Value} {n : Nat} {xs : List (Value × RC)} (hst : St w0 M w L) (hr : HA.row rv 53 44 n (recsV xs) ∈ L) (hn : xs.length = n) (ho : OwnX L xs) : RecsIn w rv n xs := ⟨Rd.row hst hr, hn, fun x hx => (ho x hx).In hst⟩
theorem recsV_len {L : List HA} {xs : List (Value × RC)} (h : OwnX L xs) : (recsV xs).length = xs.length * 44 := by
 induction xs with
 | nil => rfl
 | cons x xs ih =>
  show (cellsR x ++ recsV xs).length = _
  rw [List.length_append, (h x (.head _)).L, ih (fun y hy => h y (.tail _ hy)), List.length_cons]
  omega
theorem recsV_take {L : List HA} {xs : List (Value × RC)} (h : OwnX L xs) {k : Nat} (hk : k ≤ xs.length) : (recsV xs).take (k * 44) = recsV (xs.take k) ∧ (recsV xs).drop (k * 44) = recsV (xs.drop k) := by
 have e : recsV xs = recsV (xs.take k) ++ recsV (xs.drop k) := by rw [← recsV_append, List.take_append_drop]
 have hl : (recsV (xs.take k)).length = k * 44 := by
  rw [recsV_len (L := L) (fun x hx => h x (List.mem_of_mem_take hx)), List.length_take, Nat.min_eq_left hk]
 rw [e, ← hl, List.take_left, List.drop_left]
 exact ⟨rfl, rfl⟩
theorem recsV_ones {w0 w : World} {M : List Nat} {L : List HA} {xs : List (Value × RC)} (hst : St w0 M w L) (h : OwnX L xs) : (recsV xs).all (·.oneCell') = true := by
 induction xs with
 | nil => rfl
 | cons x xs ih =>
  show (cellsR x ++ recsV xs).all (·.oneCell') = true
  rw [List.all_append, cellsR_ones ((h x (.head _)).In hst), ih (fun y hy => h y (.tail _ hy))]
  rfl
theorem insert_any {w0 w : World} {M : List Nat} {R : List HA} (ao : Option Addr) (c i n g : Nat) (C X : List Value) (hS : St w0 M w (.blk g 53 X :: .row (.slice ao n c) 53 44 n C :: R)) (hl : C.length = n * 44) (hx : X.length = 44) (hC : C.all (·.oneCell') = true) (hX : X.all (·.oneCell') = true) (hn : n ≤ 100000) (hi : i ≤ n) :
  Calls Tryz.prog 118 #[.slice ao n c, .int .i64 i, .slice (some ⟨g, 0, none⟩) 1 1] w fun e w' => ∃ v', e = .returned v' ∧ St w0 M w' (.row v' 53 44 (n + 1) (C.take (i * 44) ++ (X ++ C.drop (i * 44))) :: R) := by
 by_cases he : i = n
 ·exact insEnd ao c i n g C X hS hl hx hC hX hn he
 ·obtain ⟨b, c', rest, e, h1, h2, h3, h4, h5⟩ := row_openV (L1 := [_]) hS (by omega)
  cases e
  by_cases hr : n + 1 ≤ c
  ·exact insRoom i n g b c rest C X h5 hl hx hC hX hn (by omega) hr h2 h3
  ·exact insGrow i n g b c rest C X h5 hl hx hC hX hn (by omega) h1 (by omega) h2
theorem lay_any {w0 w : World} {M : List Nat} {R : List HA} (gt : Nat) (t : TC) (ao : Option Addr) (n c : Nat) (lv : Value) (xs : List (Value × RC)) (x : Value × RC) (hS : St w0 M w (.blk gt 27 (tabC t (.slice ao n c) lv) :: .row (.slice ao n c) 53 44 n (recsV xs) :: R)) (ho : OwnX R xs) (hx : OwnR R x) (hn : xs.length = n) (hs : Sorted (xs.map (·.2))) (hb : n ≤ 1000) :
  Calls Tryz.prog 78 #[.pointer (some ⟨gt, 0, none⟩), .agg (cellsR x).toArray] w fun e w' => ∃ rv', e = .returned (.tuple #[]) ∧ St w0 M w' (.blk gt 27 (tabC t rv' lv) :: .row rv' 53 44 (n + 1) (recsV (xs.take (nLess x.2 (xs.map (·.2))) ++ x :: xs.drop (nLess x.2 (xs.map (·.2))))) :: R) := by
 have hst0 := hS
 have HO := hid ho
 have HOX := hid hx
 have HN := hid hn
 have HS := hid hs
 have HLX := hid hx.L
 have H1 := hid (cellsR_ones ((hx.cons _ |>.cons _).In hst0))
 obtain ⟨k, hk⟩ : ∃ k, k = nLess x.2 (xs.map (·.2)) := ⟨_, rfl⟩
 have hkn : k ≤ n := by rw [hk, ← hn]; have := nLess_le x.2 (xs.map (·.2)); rwa [List.length_map] at this
 rw [← hk]
 have HK := hid hk
 clear ho hx hn hs hk hS
 go_enter Tryz.func78, Tryz.ntmps78
 go_wp2_with (first | go_big_skip | go_big_guard | (refine wl_boxA hst0 rfl rfl rfl ?_; intro g3 w1 hst; clear hst0))
 have hX := hst.drew
 clear hst
 refine wp_region_held_drew (S := (fun w' => (loadVarH 22 ⟨gt, 1, none⟩).run Tryz.prog w' = .ok (.slice ao n c) w' ∧ (loadVarH 53 ⟨g3, 0, none⟩).run Tryz.prog w' = .ok (.agg (List.toArray (cellsR x))) w')) (by kernel_rfl) (by exact ⟨ldS [_] hX rfl, ldA (cellsR x) [] hX (HLX.out) (cellsR_all x)⟩) (fun hHeld => ?_)
 refine tq 0 7 ?_
 refine tq 4 11 ?_
 refine tq 1 8 ?_
 refine tq 2 9 ?_
 refine tq 3 10 ?_
 refine wpAnyH_ready (rs := [5]) (by kernel_rfl) (by simp) ?_
 refine (AllReadyH.cons (o := ⟨some 12, _, _, _, _, _⟩) rfl (fun K hK => ?_) AllReadyH.nil)
 rw [if_pos (by rfl)]
 go_simp
 go_at_call 116
 refine (search_any ao n c xs x _ (recs_inL hX (.tail _ (.tail _ (.head _))) HN.out ((HO.out.cons _).cons _ |>.cons _)) (((HOX.out.cons _).cons _ |>.cons _).In hX) HS.out (by omega)).mono ?_
 rw [← HK.out]
 rintro _ w9 ⟨q9, rfl, h4⟩
 have hA1 := St.call0 hX h4
 clear h4
 refine hK.out _ _ ?_ (fun hHeld => ?_)
 ·exact ⟨ldS [_] hA1 rfl, ldA (cellsR x) [] hA1 (HLX.out) (cellsR_all x)⟩
 clear hK K
 (try simp only [Act.put, List.setIfInBounds_toArray, List.set_cons_zero, List.set_cons_succ])
 refine tq 6 6 ?_
 refine tq 7 13 ?_
 refine tq 8 14 ?_
 refine tq 9 4 ?_
 refine tq 10 5 ?_
 refine wpAnyH_done (by kernel_rfl) ?_ _
 clear hHeld
 go_wp2_with (first | go_big_skip | go_big_guard | fail)
 have hY := hA1.drew
 clear hA1
 refine wp_region_held_drew (S := (fun w' => True)) (by kernel_rfl) (by exact trivial) (fun hHeld => ?_)
 refine tq 0 15 ?_
 refine tq 1 16 ?_
 refine tq 5 20 ?_
 refine tq 2 17 ?_
 refine tq 3 18 ?_
 refine wpAnyH_ready (rs := [4, 6]) (by kernel_rfl) (by simp) ?_
 refine (AllReadyH.cons (o := ⟨some 19, _, _, _, _, _⟩) rfl (fun K hK => ?_) (AllReadyH.cons (o := ⟨some 21, _, _, _, _, _⟩) rfl (fun K hK => ?_) AllReadyH.nil))
 ·rw [if_pos (by rfl)]
  refine ow_of_wl (ops := #[]) (by rfl) ?_
  refine wl_loadE rfl rfl rfl ?_
  refine ⟨_, Loads.at [_] hY rfl, ?_⟩
  refine q0_nil ?_
  refine hK.out _ _ ?_ (fun hHeld => ?_)
  ·exact trivial
  clear hK K
  (try simp only [Act.put, List.setIfInBounds_toArray, List.set_cons_zero, List.set_cons_succ])
  refine wpAnyH_ready (rs := [6]) (by kernel_rfl) (by simp) ?_
  refine (AllReadyH.cons (o := ⟨some 21, _, _, _, _, _⟩) rfl (fun K hK => ?_) AllReadyH.nil)
  rw [if_pos (by rfl)]
  refine ow_of_wl (ops := #[]) (by rfl) ?_
  refine wl_loadE rfl rfl rfl ?_
  refine ⟨_, Loads.atA (cellsR x) [] hY HLX.out (cellsR_all x), ?_⟩
  refine q0_nil ?_
  refine hK.out _ _ ?_ (fun hHeld => ?_)
  ·exact trivial
  clear hK K
  (try simp only [Act.put, List.setIfInBounds_toArray, List.set_cons_zero, List.set_cons_succ])
  refine wpAnyH_ready (rs := [7]) (by kernel_rfl) (by simp) ?_
  refine (AllReadyH.cons (o := ⟨some 22, _, _, _, _, _⟩) rfl (fun K hK => ?_) AllReadyH.nil)
  rw [if_pos (by rfl)]
  refine ow_of_wl (ops := #[]) (by rfl) ?_
  apply wl_bsX [.agg (List.toArray (cellsR x))] (cellsR x) hY
  ·rfl
  ·rfl
  ·exact rfl
  ·exact (List.append_nil _)
  ·infer_instance
  ·infer_instance
  ·(show (((List.toArray (cellsR x)).size == 44) && true) = true; rw [List.size_toArray, HLX.out]; rfl)
  ·rfl
  ·rfl
  intro gb w5 hP1
  refine q0_nil ?_
  refine hK.out _ _ ?_ (fun hHeld => ?_)
  ·exact trivial
  clear hK K
  (try simp only [Act.put, List.setIfInBounds_toArray, List.set_cons_zero, List.set_cons_succ])
  refine wpAnyH_ready (rs := [8]) (by kernel_rfl) (by simp) ?_
  refine (AllReadyH.cons (o := ⟨some 23, _, _, _, _, _⟩) rfl (fun K hK => ?_) AllReadyH.nil)
  rw [if_pos (by rfl)]
  go_simp
  go_at_call 118
  refine (insert_any ao c k n gb (recsV xs) (cellsR x) ((St.front (L1 := [_]) (St.front (L1 := [_, _, _]) hP1))) (by rw [recsV_len HO.out, HN.out]) HLX.out (recsV_ones hP1 (HO.out.sub (fun y hy => (by simp [hy])))) (cellsR_ones ((HOX.out.sub (fun y hy => (by simp [hy]))).In hP1)) (by omega) (by omega)).mono ?_
  rintro _ w6 ⟨v6, rfl, h4⟩
  have hI1 := h4
  clear h4
  refine hK.out _ _ ?_ (fun hHeld => ?_)
  ·exact trivial
  clear hK K
  (try simp only [Act.put, List.setIfInBounds_toArray, List.set_cons_zero, List.set_cons_succ])
  refine tq 9 24 ?_
  refine tq 10 25 ?_
  refine wpAnyH_ready (rs := [11]) (by kernel_rfl) (by simp) ?_
  refine (AllReadyH.cons (o := ⟨none, _, _, _, _, _⟩) rfl (fun K hK => ?_) AllReadyH.nil)
  rw [if_pos (by rfl)]
  refine ow_of_wl (ops := #[]) (by rfl) ?_
  obtain ⟨a6, c6, rfl, _, _⟩ := rowS [] hI1
  refine wl_store [_, _] hI1 rfl rfl rfl (off := 1) (v := .slice _ _ _) rfl rfl rfl (by show (1 : Nat) + 1 ≤ 7; decide) ?_
  intro w7 hI2
  refine q0_nil ?_
  refine hK.out _ _ ?_ (fun hHeld => ?_)
  ·exact trivial
  clear hK K
  (try simp only [Act.put, List.setIfInBounds_toArray, List.set_cons_zero, List.set_cons_succ])
  refine wpAnyH_done (by kernel_rfl) ?_ _
  clear hHeld
  go_wp2_with (first | go_big_skip | go_big_guard | fail)
  go_end0
  refine ⟨.slice a6 (n + 1) c6, rfl, ?_⟩
  have hk := recsV_take HO.out (k := k) (by rw [HN.out]; omega)
  have e1 := (St.front (L1 := [_, _]) hI2)
  rw [hk.1, hk.2] at e1
  have e2 : recsV (xs.take k) ++ (cellsR x ++ recsV (xs.drop k)) = recsV (xs.take k ++ x :: xs.drop k) := by
   rw [recsV_append]
   rfl
  rw [e2] at e1
  exact St.sub e1 (.cons_cons _ (.cons_cons _ (.cons _ (List.Sublist.refl _))))
 ·rw [if_pos (by rfl)]
  refine ow_of_wl (ops := #[]) (by rfl) ?_
  refine wl_loadE rfl rfl rfl ?_
  refine ⟨_, Loads.atA (cellsR x) [] hY HLX.out (cellsR_all x), ?_⟩
  refine q0_nil ?_
  refine hK.out _ _ ?_ (fun hHeld => ?_)
  ·exact trivial
  clear hK K
  (try simp only [Act.put, List.setIfInBounds_toArray, List.set_cons_zero, List.set_cons_succ])
  refine wpAnyH_ready (rs := [4, 7]) (by kernel_rfl) (by simp) ?_
  refine (AllReadyH.cons (o := ⟨some 19, _, _, _, _, _⟩) rfl (fun K hK => ?_) (AllReadyH.cons (o := ⟨some 22, _, _, _, _, _⟩) rfl (fun K hK => ?_) AllReadyH.nil))
  ·rw [if_pos (by rfl)]
   refine ow_of_wl (ops := #[]) (by rfl) ?_
   refine wl_loadE rfl rfl rfl ?_
   refine ⟨_, Loads.at [_] hY rfl, ?_⟩
   refine q0_nil ?_
   refine hK.out _ _ ?_ (fun hHeld => ?_)
   ·exact trivial
   clear hK K
   (try simp only [Act.put, List.setIfInBounds_toArray, List.set_cons_zero, List.set_cons_succ])
   refine wpAnyH_ready (rs := [7]) (by kernel_rfl) (by simp) ?_
   refine (AllReadyH.cons (o := ⟨some 22, _, _, _, _, _⟩) rfl (fun K hK => ?_) AllReadyH.nil)
   rw [if_pos (by rfl)]
   refine ow_of_wl (ops := #[]) (by rfl) ?_
   apply wl_bsX [.agg (List.toArray (cellsR x))] (cellsR x) hY
   ·rfl
   ·rfl
   ·exact rfl
   ·exact (List.append_nil _)
   ·infer_instance
   ·infer_instance
   ·(show (((List.toArray (cellsR x)).size == 44) && true) = true; rw [List.size_toArray, HLX.out]; rfl)
   ·rfl
   ·rfl
   intro gb w5 hP2
   refine q0_nil ?_
   refine hK.out _ _ ?_ (fun hHeld => ?_)
   ·exact trivial
   clear hK K
   (try simp only [Act.put, List.setIfInBounds_toArray, List.set_cons_zero, List.set_cons_succ])
   refine wpAnyH_ready (rs := [8]) (by kernel_rfl) (by simp) ?_
   refine (AllReadyH.cons (o := ⟨some 23, _, _, _, _, _⟩) rfl (fun K hK => ?_) AllReadyH.nil)
   rw [if_pos (by rfl)]
   go_simp
   go_at_call 118
   refine (insert_any ao c k n gb (recsV xs) (cellsR x) ((St.front (L1 := [_]) (St.front (L1 := [_, _, _]) hP2))) (by rw [recsV_len HO.out, HN.out]) HLX.out (recsV_ones hP2 (HO.out.sub (fun y hy => (by simp [hy])))) (cellsR_ones ((HOX.out.sub (fun y hy => (by simp [hy]))).In hP2)) (by omega) (by omega)).mono ?_
   rintro _ w6 ⟨v6, rfl, h4⟩
   have hI1 := h4
   clear h4
   refine hK.out _ _ ?_ (fun hHeld => ?_)
   ·exact trivial
   clear hK K
   (try simp only [Act.put, List.setIfInBounds_toArray, List.set_cons_zero, List.set_cons_succ])
   refine tq 9 24 ?_
   refine tq 10 25 ?_
   refine wpAnyH_ready (rs := [11]) (by kernel_rfl) (by simp) ?_
   refine (AllReadyH.cons (o := ⟨none, _, _, _, _, _⟩) rfl (fun K hK => ?_) AllReadyH.nil)
   rw [if_pos (by rfl)]
   refine ow_of_wl (ops := #[]) (by rfl) ?_
   obtain ⟨a6, c6, rfl, _, _⟩ := rowS [] hI1
   refine wl_store [_, _] hI1 rfl rfl rfl (off := 1) (v := .slice _ _ _) rfl rfl rfl (by show (1 : Nat) + 1 ≤ 7; decide) ?_
   intro w7 hI2
   refine q0_nil ?_
   refine hK.out _ _ ?_ (fun hHeld => ?_)
   ·exact trivial
   clear hK K
   (try simp only [Act.put, List.setIfInBounds_toArray, List.set_cons_zero, List.set_cons_succ])
   refine wpAnyH_done (by kernel_rfl) ?_ _
   clear hHeld
   go_wp2_with (first | go_big_skip | go_big_guard | fail)
   go_end0
   refine ⟨.slice a6 (n + 1) c6, rfl, ?_⟩
   have hk := recsV_take HO.out (k := k) (by rw [HN.out]; omega)
   have e1 := (St.front (L1 := [_, _]) hI2)
   rw [hk.1, hk.2] at e1
   have e2 : recsV (xs.take k) ++ (cellsR x ++ recsV (xs.drop k)) = recsV (xs.take k ++ x :: xs.drop k) := by
    rw [recsV_append]
    rfl
   rw [e2] at e1
   exact St.sub e1 (.cons_cons _ (.cons_cons _ (.cons _ (List.Sublist.refl _))))
  ·rw [if_pos (by rfl)]
   refine ow_of_wl (ops := #[]) (by rfl) ?_
   apply wl_bsX [.agg (List.toArray (cellsR x))] (cellsR x) hY
   ·rfl
   ·rfl
   ·exact rfl
   ·exact (List.append_nil _)
   ·infer_instance
   ·infer_instance
   ·(show (((List.toArray (cellsR x)).size == 44) && true) = true; rw [List.size_toArray, HLX.out]; rfl)
   ·rfl
   ·rfl
   intro gb w5 hP3
   refine q0_nil ?_
   refine hK.out _ _ ?_ (fun hHeld => ?_)
   ·exact trivial
   clear hK K
   (try simp only [Act.put, List.setIfInBounds_toArray, List.set_cons_zero, List.set_cons_succ])
   refine wpAnyH_ready (rs := [4]) (by kernel_rfl) (by simp) ?_
   refine (AllReadyH.cons (o := ⟨some 19, _, _, _, _, _⟩) rfl (fun K hK => ?_) AllReadyH.nil)
   rw [if_pos (by rfl)]
   refine ow_of_wl (ops := #[]) (by rfl) ?_
   refine wl_loadE rfl rfl rfl ?_
   refine ⟨_, Loads.at [_, _] hP3 rfl, ?_⟩
   refine q0_nil ?_
   refine hK.out _ _ ?_ (fun hHeld => ?_)
   ·exact trivial
   clear hK K
   (try simp only [Act.put, List.setIfInBounds_toArray, List.set_cons_zero, List.set_cons_succ])
   refine wpAnyH_ready (rs := [8]) (by kernel_rfl) (by simp) ?_
   refine (AllReadyH.cons (o := ⟨some 23, _, _, _, _, _⟩) rfl (fun K hK => ?_) AllReadyH.nil)
   rw [if_pos (by rfl)]
   go_simp
   go_at_call 118
   refine (insert_any ao c k n gb (recsV xs) (cellsR x) ((St.front (L1 := [_]) (St.front (L1 := [_, _, _]) hP3))) (by rw [recsV_len HO.out, HN.out]) HLX.out (recsV_ones hP3 (HO.out.sub (fun y hy => (by simp [hy])))) (cellsR_ones ((HOX.out.sub (fun y hy => (by simp [hy]))).In hP3)) (by omega) (by omega)).mono ?_
   rintro _ w6 ⟨v6, rfl, h4⟩
   have hI1 := h4
   clear h4
   refine hK.out _ _ ?_ (fun hHeld => ?_)
   ·exact trivial
   clear hK K
   (try simp only [Act.put, List.setIfInBounds_toArray, List.set_cons_zero, List.set_cons_succ])
   refine tq 9 24 ?_
   refine tq 10 25 ?_
   refine wpAnyH_ready (rs := [11]) (by kernel_rfl) (by simp) ?_
   refine (AllReadyH.cons (o := ⟨none, _, _, _, _, _⟩) rfl (fun K hK => ?_) AllReadyH.nil)
   rw [if_pos (by rfl)]
   refine ow_of_wl (ops := #[]) (by rfl) ?_
   obtain ⟨a6, c6, rfl, _, _⟩ := rowS [] hI1
   refine wl_store [_, _] hI1 rfl rfl rfl (off := 1) (v := .slice _ _ _) rfl rfl rfl (by show (1 : Nat) + 1 ≤ 7; decide) ?_
   intro w7 hI2
   refine q0_nil ?_
   refine hK.out _ _ ?_ (fun hHeld => ?_)
   ·exact trivial
   clear hK K
   (try simp only [Act.put, List.setIfInBounds_toArray, List.set_cons_zero, List.set_cons_succ])
   refine wpAnyH_done (by kernel_rfl) ?_ _
   clear hHeld
   go_wp2_with (first | go_big_skip | go_big_guard | fail)
   go_end0
   refine ⟨.slice a6 (n + 1) c6, rfl, ?_⟩
   have hk := recsV_take HO.out (k := k) (by rw [HN.out]; omega)
   have e1 := (St.front (L1 := [_, _]) hI2)
   rw [hk.1, hk.2] at e1
   have e2 : recsV (xs.take k) ++ (cellsR x ++ recsV (xs.drop k)) = recsV (xs.take k ++ x :: xs.drop k) := by
    rw [recsV_append]
    rfl
   rw [e2] at e1
   exact St.sub e1 (.cons_cons _ (.cons_cons _ (.cons _ (List.Sublist.refl _))))
end Go.Proofs.YtifajcblbedcoaaGreat
namespace Go.Proofs.YtifajcblbedcoaaGreat
set_option linter.unusedVariables false
set_option linter.unusedSimpArgs false
open Go.RowKit Hp
attribute [local irreducible] Go.Calls Go.wpList
set_option maxRecDepth 100000
set_option maxHeartbeats 8000000
attribute [local go_sem ↓] heldInt heldInts heldRecs heldRec heldStr heldTab
def idR (x : Value × RC) (z : Int) : Value × RC := (x.1, { x.2 with id := z })
theorem idR_own {L : List HA} {x : Value × RC} (h : OwnR L x) (z : Int) : OwnR L (idR x z) := ⟨h.1, h.2⟩
def nextT (t : TC) : TC := { t with next := t.next + 1 }
theorem lay_map (x : Value × RC) (xs : List (Value × RC)) : (xs.take (nLess x.2 (xs.map (·.2))) ++ x :: xs.drop (nLess x.2 (xs.map (·.2)))).map (·.2) = layL x.2 (xs.map (·.2)) := by
 rw [layL_at, List.map_append, List.map_cons, List.map_take, List.map_drop]
theorem lay_own {L : List HA} {x : Value × RC} {xs : List (Value × RC)} (h : OwnX L xs) (hx : OwnR L x) (k : Nat) : OwnX L (xs.take k ++ x :: xs.drop k) := fun y hy => by
 rcases List.mem_append.1 hy with hy | hy
 ·exact h y (List.mem_of_mem_take hy)
 ·rcases List.mem_cons.1 hy with rfl | hy
  ·exact hx
  ·exact h y (List.mem_of_mem_drop hy)
theorem lay_roots {α : Type} (f : Value × RC → α) (x : Value × RC) (xs : List (Value × RC)) (k : Nat) : ((xs.take k ++ x :: xs.drop k).map f).Perm (f x :: xs.map f) := by
 have h : (xs.take k ++ x :: xs.drop k).Perm (x :: xs) := by
  have := List.perm_middle (a := x) (l₁ := xs.take k) (l₂ := xs.drop k)
  rwa [List.take_append_drop] at this
 exact h.map f
theorem putRec_any {w0 w : World} {M : List Nat} {R : List HA} (gt : Nat) (t : TC) (ao : Option Addr) (n c : Nat) (lv : Value) (xs : List (Value × RC)) (x : Value × RC) (hS : St w0 M w (.blk gt 27 (tabC t (.slice ao n c) lv) :: .row (.slice ao n c) 53 44 n (recsV xs) :: R)) (ho : OwnX R xs) (hx : OwnR R x) (hn : xs.length = n) (hs : Sorted (xs.map (·.2))) (hb : n ≤ 1000) (ht : 0 ≤ t.next ∧ t.next ≤ 2147483648) :
  Calls Tryz.prog 66 #[.pointer (some ⟨gt, 0, none⟩), .agg (cellsR x).toArray] w fun e w' => ∃ rv' xs', e = .returned (.int .i64 0) ∧ xs'.map (·.2) = layL { x.2 with id := t.next } (xs.map (·.2)) ∧ OwnX R xs' ∧ (xs'.map rootH).Perm (rootH x :: xs.map rootH) ∧ St w0 M w' (.blk gt 27 (tabC (nextT t) rv' lv) :: .row rv' 53 44 (n + 1) (recsV xs') :: R) := by
 have hst0 := hS
 have HO := hid ho
 have HOX := hid hx
 have HN := hid hn
 have HS := hid hs
 have HLX := hid hx.L
 have HLY := hid (idR_own hx t.next).L
 have H1 := hid (cellsR_ones ((hx.cons _ |>.cons _).In hst0))
 have z1 : IntKind.i64.wrap (t.next + 1) = t.next + 1 := IntWalk.i64_in _ (by omega)
 clear ho hx hn hs hS
 go_enter Tryz.func66, Tryz.ntmps66
 go_wp2_with (first | go_big_skip | go_big_guard | (refine wl_boxA hst0 rfl rfl rfl ?_; intro g3 w1 hst; clear hst0) | (refine wl_loadE rfl rfl rfl ?_; first | refine ⟨_, Loads.at [_] hst rfl, ?_⟩ | refine ⟨_, Loads.at [_] hst2 rfl, ?_⟩ | refine ⟨_, Loads.atA (cellsR (idR x t.next)) [] hst3 HLY.out (cellsR_all _), ?_⟩) | (refine wl_store [] hst rfl rfl rfl (off := 0) (v := .int .i64 t.next) rfl rfl rfl (by rw [HLX.out]; show (0 : Nat) + 1 ≤ 44; decide) ?_; intro w2 h4; have hst2 : St w0 M w2 (.blk g3 53 (cellsR (idR x t.next)) :: .blk gt 27 (tabC t (.slice ao n c) lv) :: .row (.slice ao n c) 53 44 n (recsV xs) :: R) := h4; clear h4 hst) | (refine wl_store [_] hst2 rfl rfl rfl (off := 0) (v := .int .i64 (t.next + 1)) rfl rfl rfl (by show (0 : Nat) + 1 ≤ 7; decide) ?_; intro w3 h4; have hst3 : St w0 M w3 (.blk g3 53 (cellsR (idR x t.next)) :: .blk gt 27 (tabC (nextT t) (.slice ao n c) lv) :: .row (.slice ao n c) 53 44 n (recsV xs) :: R) := h4; clear h4 hst2) | (go_at_call 78; refine (lay_any (R := R) gt (nextT t) ao n c lv xs (idR x t.next) (St.sub hst3 (.cons _ (List.Sublist.refl _))) HO.out (idR_own HOX.out _) HN.out HS.out hb).mono ?_; rintro _ w9 ⟨rv9, rfl, h4⟩; have hst4 := h4; clear h4 hst3))
 go_ret
 exact ⟨rv9, _, rfl, lay_map _ _, lay_own HO.out (idR_own HOX.out _) _, lay_roots rootH (idR x t.next) xs _, hst4⟩
theorem room_any {w0 w : World} {M : List Nat} {R : List HA} (gt : Nat) (t : TC) (ao : Option Addr) (n c : Nat) (lv : Value) (xs : List (Value × RC)) (nm : List UInt8) (hS : St w0 M w (.blk gt 27 (tabC t (.slice ao n c) lv) :: .row (.slice ao n c) 53 44 n (recsV xs) :: R)) (ho : OwnX R xs) (hn : xs.length = n) (he : xs.map (·.2) = t.recs) (hb : n ≤ 1000) :
  Calls Tryz.prog 65 #[.pointer (some ⟨gt, 0, none⟩), str nm] w fun e w' => e = .returned (.int .i64 (roomE t nm)) ∧ St w0 M w' (.blk gt 27 (tabC t (.slice ao n c) lv) :: .row (.slice ao n c) 53 44 n (recsV xs) :: R) := by
 have hst0 := hS
 have HO := hid ho
 have HN := hid hn
 obtain ⟨E, hE⟩ : ∃ E, E = roomE t nm := ⟨_, rfl⟩
 rw [← hE]
 have HEE := hid hE
 obtain ⟨⟨z, is⟩, hf⟩ : ∃ p, findP nm (xs.map (·.2)) = p := ⟨_, rfl⟩
 have HF := hid hf
 have hi : isAt nm t.recs = is := by rw [← findP_is, ← he, hf]
 have hl : (t.recs.length : Int) = n := by rw [← he, List.length_map, hn]
 have HL := hid hl
 have HI := hid hi
 clear ho hn hS hE hf hi he hl
 cases is
 ·by_cases h1 : 16 ≤ n
  ·have d1 : decide ((n : Int) ≥ 16) = true := decide_eq_true (by omega)
   have d2 : decide ((16 : Int) ≤ (n : Int)) = true := d1
   have HE := hid (show E = 8 by rw [HEE.out]; unfold roomE fullB; rw [HI.out, HL.out, d1]; rfl)
   go_enter Tryz.func65, Tryz.ntmps65
   go_wp2_with (first | go_big_skip | go_big_guard | (refine wl_loadE rfl rfl rfl ?_; first | refine ⟨_, Loads.atA (tabC t (.slice ao n c) lv) [] hst0 rfl rfl, ?_⟩ | refine ⟨_, Loads.at [] hst rfl, ?_⟩) | (go_at_call 57; refine (find_any t lv nm ao n c xs _ (recs_inL hst0 (.tail _ (.head _)) HN.out (HO.out.cons _ |>.cons _)) (by omega)).mono ?_; rw [HF.out]; rintro _ w9 ⟨rfl, h4⟩; have hst := St.call0 hst0 h4; clear h4 hst0))
   go_ret
   exact ⟨by rw [HE.out]; rfl, hst⟩
  ·have d1 : decide ((n : Int) ≥ 16) = false := decide_eq_false (by omega)
   have d2 : decide ((16 : Int) ≤ (n : Int)) = false := d1
   by_cases h2 : t.next ≥ 2147483648
   ·have d3 : decide (t.next ≥ 2147483648) = true := decide_eq_true h2
    have HE := hid (show E = 8 by rw [HEE.out]; unfold roomE fullB; rw [HI.out, HL.out, d1, d3]; rfl)
    have d4 : decide (2147483648 ≤ t.next) = true := d3
    go_enter Tryz.func65, Tryz.ntmps65
    go_wp2_with (first | go_big_skip | go_big_guard | (refine wl_loadE rfl rfl rfl ?_; first | refine ⟨_, Loads.atA (tabC t (.slice ao n c) lv) [] hst0 rfl rfl, ?_⟩ | refine ⟨_, Loads.at [] hst rfl, ?_⟩) | (go_at_call 57; refine (find_any t lv nm ao n c xs _ (recs_inL hst0 (.tail _ (.head _)) HN.out (HO.out.cons _ |>.cons _)) (by omega)).mono ?_; rw [HF.out]; rintro _ w9 ⟨rfl, h4⟩; have hst := St.call0 hst0 h4; clear h4 hst0))
    go_ret
    exact ⟨by rw [HE.out]; rfl, hst⟩
   ·have d3 : decide (t.next ≥ 2147483648) = false := decide_eq_false h2
    have HE := hid (show E = 0 by rw [HEE.out]; unfold roomE fullB; rw [HI.out, HL.out, d1, d3]; rfl)
    have d4 : decide (2147483648 ≤ t.next) = false := d3
    go_enter Tryz.func65, Tryz.ntmps65
    go_wp2_with (first | go_big_skip | go_big_guard | (refine wl_loadE rfl rfl rfl ?_; first | refine ⟨_, Loads.atA (tabC t (.slice ao n c) lv) [] hst0 rfl rfl, ?_⟩ | refine ⟨_, Loads.at [] hst rfl, ?_⟩) | (go_at_call 57; refine (find_any t lv nm ao n c xs _ (recs_inL hst0 (.tail _ (.head _)) HN.out (HO.out.cons _ |>.cons _)) (by omega)).mono ?_; rw [HF.out]; rintro _ w9 ⟨rfl, h4⟩; have hst := St.call0 hst0 h4; clear h4 hst0))
    go_ret
    exact ⟨by rw [HE.out]; rfl, hst⟩
 ·have HE := hid (show E = 7 by rw [HEE.out]; unfold roomE; rw [HI.out]; rfl)
  go_enter Tryz.func65, Tryz.ntmps65
  go_wp2_with (first | go_big_skip | go_big_guard | (refine wl_loadE rfl rfl rfl ?_; first | refine ⟨_, Loads.atA (tabC t (.slice ao n c) lv) [] hst0 rfl rfl, ?_⟩ | refine ⟨_, Loads.at [] hst rfl, ?_⟩) | (go_at_call 57; refine (find_any t lv nm ao n c xs _ (recs_inL hst0 (.tail _ (.head _)) HN.out (HO.out.cons _ |>.cons _)) (by omega)).mono ?_; rw [HF.out]; rintro _ w9 ⟨rfl, h4⟩; have hst := St.call0 hst0 h4; clear h4 hst0))
  go_ret
  exact ⟨by rw [HE.out]; rfl, hst⟩
end Go.Proofs.YtifajcblbedcoaaGreat
namespace Go.Proofs.YtifajcblbedcoaaGreat
set_option linter.unusedVariables false
set_option linter.unusedSimpArgs false
open Go.RowKit Hp
attribute [local irreducible] Go.Calls
set_option maxHeartbeats 4000000
end Go.Proofs.YtifajcblbedcoaaGreat
namespace Go.Proofs.YtifajcblbedcoaaGreat
set_option linter.unusedVariables false
set_option linter.unusedSimpArgs false
open Go.RowKit Hp
attribute [local irreducible] Go.Calls
set_option maxHeartbeats 4000000
def NV.isO (E : TypeId) (y x : NV) (R : List HA) (k : Nat) : Prop := ∀ j, j < k → (y.get j).eqd (x.get j) ∧ ∃ ao n c, (y.get j).sv = .slice ao n c ∧ HA.row (.slice ao n c) E 2 n (addrsV (y.get j).l) ∈ R ∧ (y.get j).l.length = n
theorem PV.ones_of {p : PV} {ao : Option Addr} {n c : Nat} (h : p.sv = .slice ao n c) : p.cells.all (·.oneCell') = true := by
 rw [PV.cells, h]
 exact ptr_ones _ _ _ _ _ _
theorem NV.isO.ones {E : TypeId} {y x : NV} {R : List HA} (h : y.isO E x R 4) (_hl : y.lv = x.lv) : y.cells.all (·.oneCell') = true := by
 have g : ∀ j, j < 4 → (y.get j).cells.all (·.oneCell') = true := fun j hj => by
  obtain ⟨_, ao, n, c, h2, _⟩ := h j hj
  exact PV.ones_of h2
 have h0 : y.p0.cells.all (·.oneCell') = true := g 0 (by omega)
 have h1 : y.p1.cells.all (·.oneCell') = true := g 1 (by omega)
 have h2 : y.p2.cells.all (·.oneCell') = true := g 2 (by omega)
 have h3 : y.p3.cells.all (·.oneCell') = true := g 3 (by omega)
 rw [NV.cells, List.all_cons, List.all_append, List.all_append, List.all_append, h0, h1, h2, h3]
 rfl
theorem addrs_ones (l : List (Int × Int)) : (addrsV l).all (·.oneCell') = true := by
 induction l with
 | nil => rfl
 | cons a l ih =>
  rw [addrsV, List.all_cons, List.all_cons, ih]
  rfl
end Go.Proofs.YtifajcblbedcoaaGreat
namespace Go.Proofs.YtifajcblbedcoaaGreat
set_option linter.unusedVariables false
set_option linter.unusedSimpArgs false
open Go.RowKit Hp
attribute [local irreducible] Go.Calls
set_option maxHeartbeats 4000000
set_option maxRecDepth 100000
abbrev PV.re (p : PV) (s : Value) : PV := ⟨s, p.l, p.b, p.v, p.S⟩
theorem copyPtr_any (p : PV) (w : World) (hp : p.In w) (hl : p.l.length ≤ 100000) : Calls Tryz.prog 10 #[.agg p.cells.toArray] w fun e w' =>
  ∃ ao n c, e = .returned (.agg (PV.cells (p.re (.slice ao n c))).toArray) ∧ St w [] w' [.row (.slice ao n c) 102 2 n (addrsV p.l)] ∧ p.l.length = n := by
 have hst := St.refl w
 have hS := hp.1
 obtain ⟨_, ao, n, c, h2, h3, h4⟩ := hp
 have hPL := hid (PV.len (p := p) hS)
 have H2 := hid h2
 have hn : n ≤ 100000 := by rw [← h4]; exact hl
 have H4 := hid h4
 have hRd := hid h3
 have hat := hid (show p.cells[0]? = some (.slice ao n c) by rw [PV.cells, h2]; rfl)
 clear h2 h3 h4 hl
 go_enter Tryz.func10, Tryz.ntmps10
 go_wp2_with (first | go_big_skip | go_big_guard | (refine wl_boxA hst rfl rfl rfl ?_; intro g w1 hst1; clear hst) | (refine wl_alloc hst1 rfl rfl ?_; intro g2 w2 hst2; clear hst1) | (apply wl_bsX [] [] hst2; rfl; rfl; exact rfl; exact rfl; infer_instance; infer_instance; rfl; rfl; rfl; intro g3 w3 hst3; clear hst2; have hst4 := St.toRow (n := 0) (cap := 0) (sz := 2) hst3 rfl (by decide) (by decide); clear hst3) | (refine wl_loadE rfl rfl rfl ?_; refine ⟨_, Loads.at (off := 0) [_, _] hst4 hat.out, ?_⟩) | (apply wl_appX [] hst4; rfl; rfl; exact rfl; exact rfl; infer_instance; infer_instance; infer_instance; exact Rd.old hst4 hRd.out; exact addrs_ones _; (unfold maxLen; omega); intro v9 w9 hst9 _; clear hst4; obtain ⟨ao9, c9, rfl⟩ := St.rowSliceAt [] hst9; rw [Nat.zero_add] at hst9) | (refine wl_store [_, _] hst9 rfl rfl rfl (v := .slice _ _ _) rfl rfl rfl (by show _ + 1 ≤ _; rw [hPL.out]; omega) ?_; intro w10 hst10; clear hst9; have hst11 : St w [] w10 [.row (.slice ao9 n c9) 102 2 n (addrsV p.l), .blk g2 32 (ptrCells (.slice none 0 0) 0 0 nones), .blk g 32 (PV.cells (p.re (.slice ao9 n c9)))] := hst10; clear hst10) | (refine wl_loadE rfl rfl rfl ?_; first | refine ⟨_, Loads.atA (PV.cells (p.re (.slice ao9 n c9))) [_, _] hst11 (PV.len (p := p.re (.slice ao9 n c9)) hS) (by simp), ?_⟩) | (refine wl_storeA [_] hst11 rfl rfl rfl rfl (PV.len (p := p.re (.slice ao9 n c9)) hS) (PV.ones_of (p := p.re (.slice ao9 n c9)) rfl) rfl ?_; intro w12 hst12; clear hst11))
 have hl := Loads.atA (P := Tryz.prog) (off := 0) (T := 32) (PV.cells (p.re (.slice ao9 n c9))) [_] hst12 (PV.len (p := p.re (.slice ao9 n c9)) hS) (by simp)
 refine bodyPost_ret (results_cellL rfl rfl hl) rfl ?_
 exact ⟨ao9, n, c9, rfl, hst12.sub (.cons_cons _ (List.nil_sublist _)), H4.out⟩
theorem over_addrs (ao : Option Addr) (n c : Nat) (xs : List Value) (w : World) (hv : w.ownsRow 0 102 2 (.slice ao n c) n xs) :
  Calls Tryz.prog 45 #[.slice ao n c] w fun e w' => ∃ ys, e = .returned (.tuple #[]) ∧ St w (Value.slice ao n c).ownBlock.toList w' [.row (.slice ao n c) 102 2 n ys] := by
 have hst := St.ofRow w hv
 obtain ⟨hl, ho⟩ := hv
 rcases ho with ⟨he, rfl⟩ | ⟨g, cap, cur, he, hg0, hg, hnc, hcm, hcs, htake⟩
 ·cases he
  go_enter Tryz.func45, Tryz.ntmps45
  go_wp2_with (first | go_big_skip | go_big_guard | fail)
  go_loopw [2] (fun i wr => i = .int .i64 0 ∧ St w (Value.slice none 0 0).ownBlock.toList wr [.row (.slice none 0 0) 102 2 0 xs]) (fun i _ => 0)
  case atStart => exact ⟨rfl, hst⟩
  case round =>
   clear hst
   obtain ⟨rfl, hst⟩ := hrel
   go_wp2_with (first | go_big_skip | go_big_guard | fail)
   go_end0
   exact ⟨xs, rfl, hst⟩
 ·cases he
  have hst2 := St.one w g 102 cur.toList hg
  have hc2 : cur.toList.length = c * 2 := by simpa using hcs
  have hcb : c ≤ 9223372036854775807 := hcm
  clear hg hl htake hst hcs hcm
  have Hc2 := hid hc2; clear hc2
  go_enter Tryz.func45, Tryz.ntmps45
  go_wp2_with (first | go_big_skip | go_big_guard | fail)
  go_loopw [2] (fun i wr => ∃ k : Nat, k ≤ n ∧ i = .int .i64 k ∧ ∃ cs : List Value, Hid (cs.length = c * 2) ∧ St w [g] wr [.blk g 102 cs]) (fun i _ => n - (intOf i).toNat)
  case atStart => exact ⟨0, by omega, rfl, _, Hc2, hst2⟩
  case round =>
   clear hst2 Hc2
   obtain ⟨k, hk, rfl, cs, hcl, hst⟩ := hrel
   by_cases hlt : k < n
   ·go_wp2_with (first | go_big_skip | go_big_guard | (refine wl_buildS (cs := [.int .i64 (-7), .int .i64 (-7)]) rfl rfl (by kernel_rfl) ?_) | (refine wl_index rfl rfl rfl rfl hlt ?_) | (refine wl_store [] hst rfl rfl rfl (v := .agg (List.toArray _)) rfl rfl rfl (by rw [hcl.out]; simp [Value.cells]; omega) ?_; intro w5 hst4; clear hst))
    have hl4 := hid (show (putAt cs (0 + k * 2) [.int .i64 (-7), .int .i64 (-7)]).length = c * 2 by
     have := hcl.out
     simp [putAt]; omega)
    have hst5 : St w [g] w5 [.blk g 102 (putAt cs (0 + k * 2) [.int .i64 (-7), .int .i64 (-7)])] := hst4
    clear hst4
    go_roundw
    case rel => exact ⟨k + 1, by omega, by go_num, _, hl4, hst5⟩
    case measure => simp [intOf]; omega
   ·have e : k = n := by omega
    subst e
    go_wp2_with (first | go_big_skip | go_big_guard | fail)
    go_end0
    exact ⟨_, rfl, hst.toRow hcl.out hnc hcb⟩
end Go.Proofs.YtifajcblbedcoaaGreat
