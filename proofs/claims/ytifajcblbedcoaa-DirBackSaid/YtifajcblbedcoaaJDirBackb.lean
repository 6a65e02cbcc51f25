import Derived.Shelf.Small.Strs
import Derived.Shelf.Strings.Search1
import Derived.Shelf.Strings.Search2
import Derived.Shelf.Strings.Cut
import Derived.Shelf.LaysM
import Derived.Shelf.Strings.Shaped
import Derived.Test.YtifajcblbedcoaaProg
import Derived.Test.YtifajcblbedcoaaNm
import Derived.Test.YtifajcblbedcoaaStr
import Derived.Outline
import Derived.Test.YtifajcblbedcoaaNmL
namespace Go.Proofs
open Go.Shelf
def Try.lays213_ren : Go.Shelf.Ren := ⟨fun | 213 => 94 | 265 => 100 | n => n, fun | 9 => 9 | 3 => 3 | n => n, fun | n => n⟩
theorem Try.lays213 : Go.Proofs.Lays.n213 Try.prog Try.lays213_ren := {
  mixed := by kernel_rfl
  f213 := Try.func94.trans (congrArg some (by kernel_rfl))
  f265 := Try.func100.trans (congrArg some (by kernel_rfl))
  t3 := Try.underlying3
  a3 := Try.isAgg3
  z3 := Try.sizeOf3
  v3 := Try.zeroValue3
  t9 := Try.underlying9
  a9 := Try.isAgg9
  z9 := Try.sizeOf9
  v9 := Try.zeroValue9 }
open Go.RowKit in
/-- internal/bytealg.CompareString (what strings.Compare calls): IT RETURNS 'Lib.compareBytes a b'; the world is as it was. (LAID: no walk: one application.) -/
theorem Try.bytealg_CompareString (a b : ByteArray) (w : World) :
    Calls Try.prog 94 #[.string a, .string b] w fun e w' => e = .returned (.int .i64 (Lib.compareBytes a.data.toList b.data.toList)) ∧ w' = w := Any.bytealg_CompareString Try.lays213 a b w
def Try.lays106_ren : Go.Shelf.Ren := ⟨fun | 106 => 84 | 213 => 94 | 265 => 100 | n => n, fun | 9 => 9 | 3 => 3 | n => n, fun | n => n⟩
theorem Try.lays106 : Go.Proofs.Lays.n106 Try.prog Try.lays106_ren := {
  mixed := by kernel_rfl
  f106 := Try.func84.trans (congrArg some (by kernel_rfl))
  f213 := Try.func94.trans (congrArg some (by kernel_rfl))
  f265 := Try.func100.trans (congrArg some (by kernel_rfl))
  t3 := Try.underlying3
  a3 := Try.isAgg3
  z3 := Try.sizeOf3
  v3 := Try.zeroValue3
  t9 := Try.underlying9
  a9 := Try.isAgg9
  z9 := Try.sizeOf9
  v9 := Try.zeroValue9 }
open Go.RowKit in
/-- strings.Compare: "Compare returns an integer comparing two strings lexicographically. The result will be 0 if a == b, -1 if a < b, and +1 if a > b.": IT RETURNS 'Lib.compareBytes a b'; the world is as it was. (LAID: no walk: one application.) -/
theorem Try.strings_Compare (a b : ByteArray) (w : World) :
    Calls Try.prog 84 #[.string a, .string b] w fun e w' => e = .returned (.int .i64 (Lib.compareBytes a.data.toList b.data.toList)) ∧ w' = w := Any.strings_Compare Try.lays106 a b w
def Try.lays137_ren : Go.Shelf.Ren := ⟨fun | 137 => 81 | 217 => 92 | 266 => 96 | n => n, fun | 9 => 9 | 5 => 5 | 3 => 3 | n => n, fun | n => n⟩
theorem Try.lays137 : Go.Proofs.Lays.n137 Try.prog Try.lays137_ren := {
  mixed := by kernel_rfl
  f137 := Try.func81.trans (congrArg some (by kernel_rfl))
  f217 := Try.func92.trans (congrArg some (by kernel_rfl))
  f266 := Try.func96.trans (congrArg some (by kernel_rfl))
  t3 := Try.underlying3
  a3 := Try.isAgg3
  z3 := Try.sizeOf3
  v3 := Try.zeroValue3
  t5 := Try.underlying5
  a5 := Try.isAgg5
  z5 := Try.sizeOf5
  v5 := Try.zeroValue5
  t9 := Try.underlying9
  a9 := Try.isAgg9
  z9 := Try.sizeOf9
  v9 := Try.zeroValue9 }
open Go.RowKit in
/-- strings.IndexByte: "IndexByte returns the index of the first instance of c in s, or -1 if c is not present in s.": IT RETURNS 'Lib.indexByte s c'; the world is as it was. (LAID: no walk: one application.) -/
theorem Try.strings_IndexByte (s : ByteArray) (c : Int) (w : World) :
    Calls Try.prog 81 #[.string s, .int .u8 c] w fun e w' => e = .returned (.int .i64 (Lib.indexByte s.data.toList c.toNat.toUInt8)) ∧ w' = w := Any.strings_IndexByte Try.lays137 s c w
def Try.lays217_ren : Go.Shelf.Ren := ⟨fun | 217 => 92 | 266 => 96 | n => n, fun | 9 => 9 | 5 => 5 | 3 => 3 | n => n, fun | n => n⟩
theorem Try.lays217 : Go.Proofs.Lays.n217 Try.prog Try.lays217_ren := {
  mixed := by kernel_rfl
  f217 := Try.func92.trans (congrArg some (by kernel_rfl))
  f266 := Try.func96.trans (congrArg some (by kernel_rfl))
  t3 := Try.underlying3
  a3 := Try.isAgg3
  z3 := Try.sizeOf3
  v3 := Try.zeroValue3
  t5 := Try.underlying5
  a5 := Try.isAgg5
  z5 := Try.sizeOf5
  v5 := Try.zeroValue5
  t9 := Try.underlying9
  a9 := Try.isAgg9
  z9 := Try.sizeOf9
  v9 := Try.zeroValue9 }
open Go.RowKit Go.Lib in
/-- internal/stringslite.IndexByte (what strings.IndexByte calls): IT RETURNS 'Lib.indexByte s c'; the world is as it was. (LAID: no walk: one application.) -/
theorem Try.stringslite_IndexByte (s : ByteArray) (c : Int) (w : World) :
    Calls Try.prog 92 #[.string s, .int .u8 c] w fun e w' => e = .returned (.int .i64 (Lib.indexByte s.data.toList c.toNat.toUInt8)) ∧ w' = w := Any.stringslite_IndexByte Try.lays217 s c w
def Try.lays224_ren : Go.Shelf.Ren := ⟨fun | 224 => 98 | n => n, fun | 3 => 3 | n => n, fun | n => n⟩
theorem Try.lays224 : Go.Proofs.Lays.n224 Try.prog Try.lays224_ren := {
  mixed := by kernel_rfl
  f224 := Try.func98.trans (congrArg some (by kernel_rfl))
  t3 := Try.underlying3
  a3 := Try.isAgg3
  z3 := Try.sizeOf3
  v3 := Try.zeroValue3 }
open Go.RowKit Go.Lib in
/-- internal/bytealg.Cutover: "Cutover reports the number of failures of IndexByte we should tolerate before switching over to Index. n is the number of bytes processed so far.": on amd64: (n + 16) / 8. (LAID: no walk: one application.) -/
theorem Try.bytealg_Cutover (n : Int) (h0 : 0 ≤ n) (h1 : n < 4611686018427387904) (w : World) :
    Calls Try.prog 98 #[.int .i64 n] w fun e w' => e = .returned (.int .i64 ((n + 16) / 8)) ∧ w' = w := Any.bytealg_Cutover Try.lays224 n h0 h1 w
def Try.lays314_ren : Go.Shelf.Ren := ⟨fun | 314 => 102 | n => n, fun | 9 => 9 | 51 => 111 | 3 => 3 | 4 => 4 | 5 => 5 | 46 => 100 | n => n, fun | n => n⟩
theorem Try.lays314 : Go.Proofs.Lays.n314 Try.prog Try.lays314_ren := {
  mixed := by kernel_rfl
  f314 := Try.func102.trans (congrArg some (by kernel_rfl))
  t3 := Try.underlying3
  a3 := Try.isAgg3
  z3 := Try.sizeOf3
  v3 := Try.zeroValue3
  t4 := Try.underlying4
  a4 := Try.isAgg4
  z4 := Try.sizeOf4
  v4 := Try.zeroValue4
  t5 := Try.underlying5
  a5 := Try.isAgg5
  z5 := Try.sizeOf5
  v5 := Try.zeroValue5
  t9 := Try.underlying9
  a9 := Try.isAgg9
  z9 := Try.sizeOf9
  v9 := Try.zeroValue9
  t46 := Try.underlying100
  a46 := Try.isAgg100
  z46 := Try.sizeOf100
  v46 := Try.zeroValue100
  t51 := Try.underlying111
  a51 := Try.isAgg111
  z51 := Try.sizeOf111
  v51 := Try.zeroValue111 }
open Go.RowKit Go.Lib in
/-- hashStr: "returns the hash and the appropriate multiplicative factor for use in Rabin-Karp algorithm": THE HASH OF ALL OF sep, AND 16777619 ^ len(sep), both in uint32. (LAID: no walk: one application.) -/
theorem Try.bytealg_hashStr (sep : ByteArray) (hs : sep.size < 4294967281) (w : World) :
    Calls Try.prog 102 #[.string sep] w fun e w' => e = .returned (.tuple #[.int .u32 (RK.H sep.data.toList % 4294967296), .int .u32 (16777619 ^ sep.size % 4294967296)]) ∧ w' = w := Any.bytealg_hashStr Try.lays314 sep hs w
def Try.lays267_ren : Go.Shelf.Ren := ⟨fun | 267 => 99 | 314 => 102 | n => n, fun | 9 => 9 | 3 => 3 | 146 => 112 | 51 => 111 | 4 => 4 | 5 => 5 | 46 => 100 | n => n, fun | n => n⟩
theorem Try.lays267 : Go.Proofs.Lays.n267 Try.prog Try.lays267_ren := {
  mixed := by kernel_rfl
  f267 := Try.func99.trans (congrArg some (by kernel_rfl))
  f314 := Try.func102.trans (congrArg some (by kernel_rfl))
  t3 := Try.underlying3
  a3 := Try.isAgg3
  z3 := Try.sizeOf3
  v3 := Try.zeroValue3
  t4 := Try.underlying4
  a4 := Try.isAgg4
  z4 := Try.sizeOf4
  v4 := Try.zeroValue4
  t5 := Try.underlying5
  a5 := Try.isAgg5
  z5 := Try.sizeOf5
  v5 := Try.zeroValue5
  t9 := Try.underlying9
  a9 := Try.isAgg9
  z9 := Try.sizeOf9
  v9 := Try.zeroValue9
  t46 := Try.underlying100
  a46 := Try.isAgg100
  z46 := Try.sizeOf100
  v46 := Try.zeroValue100
  t51 := Try.underlying111
  a51 := Try.isAgg111
  z51 := Try.sizeOf111
  v51 := Try.zeroValue111
  t146 := Try.underlying112
  a146 := Try.isAgg112
  z146 := Try.sizeOf112
  v146 := Try.zeroValue112 }
open Go.RowKit Go.Lib in
theorem Try.bytealg_IndexRabinKarp (s sep : ByteArray) (h1 : 1 ≤ sep.size) (h2 : sep.size ≤ s.size) (hs : s.size < 4294967281) (w : World) :
    Calls Try.prog 99 #[.string s, .string sep] w fun e w' => e = .returned (.int .i64 (Lib.index s.data.toList sep.data.toList)) ∧ w' = w := Any.bytealg_IndexRabinKarp Try.lays267 s sep h1 h2 hs w
def Try.lays219_ren : Go.Shelf.Ren := ⟨fun | 219 => 93 | 217 => 92 | 225 => 97 | 224 => 98 | 267 => 99 | 266 => 96 | 314 => 102 | n => n, fun | 9 => 9 | 3 => 3 | 4 => 4 | 5 => 5 | 46 => 100 | 146 => 112 | 51 => 111 | n => n, fun | 1 => 0 | n => n⟩
theorem Try.lays219 : Go.Proofs.Lays.n219 Try.prog Try.lays219_ren := {
  mixed := by kernel_rfl
  f217 := Try.func92.trans (congrArg some (by kernel_rfl))
  f219 := Try.func93.trans (congrArg some (by kernel_rfl))
  f224 := Try.func98.trans (congrArg some (by kernel_rfl))
  f225 := Try.func97.trans (congrArg some (by kernel_rfl))
  f266 := Try.func96.trans (congrArg some (by kernel_rfl))
  f267 := Try.func99.trans (congrArg some (by kernel_rfl))
  f314 := Try.func102.trans (congrArg some (by kernel_rfl))
  t3 := Try.underlying3
  a3 := Try.isAgg3
  z3 := Try.sizeOf3
  v3 := Try.zeroValue3
  t4 := Try.underlying4
  a4 := Try.isAgg4
  z4 := Try.sizeOf4
  v4 := Try.zeroValue4
  t5 := Try.underlying5
  a5 := Try.isAgg5
  z5 := Try.sizeOf5
  v5 := Try.zeroValue5
  t9 := Try.underlying9
  a9 := Try.isAgg9
  z9 := Try.sizeOf9
  v9 := Try.zeroValue9
  t46 := Try.underlying100
  a46 := Try.isAgg100
  z46 := Try.sizeOf100
  v46 := Try.zeroValue100
  t51 := Try.underlying111
  a51 := Try.isAgg111
  z51 := Try.sizeOf111
  v51 := Try.zeroValue111
  t146 := Try.underlying112
  a146 := Try.isAgg112
  z146 := Try.sizeOf112
  v146 := Try.zeroValue112
  g1 := by kernel_rfl }
open Go.RowKit Go.Lib in
/-- internal/stringslite.Index (what strings.Index calls) AT A substr OF ONE BYTE c: IT RETURNS 'Lib.indexByte s c'; the world is as it was. (LAID: no walk: one application.) -/
theorem Try.stringslite_Index_one (s : ByteArray) (c : UInt8) (w : World) :
    Calls Try.prog 93 #[.string s, .string ⟨#[c]⟩] w fun e w' => e = .returned (.int .i64 (Lib.indexByte s.data.toList c)) ∧ w' = w := Any.stringslite_Index_one Try.lays219 s c w
open Go.RowKit Go.Lib in
/-- internal/stringslite.Index (what strings.Index calls) AT A substr OF WHATEVER LENGTH: IT RETURNS 'Lib.index s substr'; the world is as it was. 'm': what internal/bytealg.MaxLen holds: whatever. (LAID: no walk: one application.) -/
theorem Try.stringslite_Index (s sub : ByteArray) (m : Int) (w : World) (hs : s.size < 4294967281) (hm : w.cell? ⟨0, 0, none⟩ = some (.int .i64 m)) :
    Calls Try.prog 93 #[.string s, .string sub] w fun e w' => e = .returned (.int .i64 (Lib.index s.data.toList sub.data.toList)) ∧ w' = w := Any.stringslite_Index Try.lays219 s sub m w hs hm
def Try.lays220_ren : Go.Shelf.Ren := ⟨fun | 220 => 82 | 219 => 93 | 217 => 92 | 225 => 97 | 224 => 98 | 267 => 99 | 266 => 96 | 314 => 102 | n => n, fun | 9 => 9 | 4 => 4 | 3 => 3 | 5 => 5 | 46 => 100 | 146 => 112 | 51 => 111 | n => n, fun | 1 => 0 | n => n⟩
theorem Try.lays220 : Go.Proofs.Lays.n220 Try.prog Try.lays220_ren := {
  mixed := by kernel_rfl
  f217 := Try.func92.trans (congrArg some (by kernel_rfl))
  f219 := Try.func93.trans (congrArg some (by kernel_rfl))
  f220 := Try.func82.trans (congrArg some (by kernel_rfl))
  f224 := Try.func98.trans (congrArg some (by kernel_rfl))
  f225 := Try.func97.trans (congrArg some (by kernel_rfl))
  f266 := Try.func96.trans (congrArg some (by kernel_rfl))
  f267 := Try.func99.trans (congrArg some (by kernel_rfl))
  f314 := Try.func102.trans (congrArg some (by kernel_rfl))
  t3 := Try.underlying3
  a3 := Try.isAgg3
  z3 := Try.sizeOf3
  v3 := Try.zeroValue3
  t4 := Try.underlying4
  a4 := Try.isAgg4
  z4 := Try.sizeOf4
  v4 := Try.zeroValue4
  t5 := Try.underlying5
  a5 := Try.isAgg5
  z5 := Try.sizeOf5
  v5 := Try.zeroValue5
  t9 := Try.underlying9
  a9 := Try.isAgg9
  z9 := Try.sizeOf9
  v9 := Try.zeroValue9
  t46 := Try.underlying100
  a46 := Try.isAgg100
  z46 := Try.sizeOf100
  v46 := Try.zeroValue100
  t51 := Try.underlying111
  a51 := Try.isAgg111
  z51 := Try.sizeOf111
  v51 := Try.zeroValue111
  t146 := Try.underlying112
  a146 := Try.isAgg112
  z146 := Try.sizeOf112
  v146 := Try.zeroValue112
  g1 := by kernel_rfl }
open Go.RowKit Go.Lib in
/-- internal/stringslite.Cut (what strings.Cut calls): IT RETURNS 'Lib.cut s sep'; the world is as it was but for the count of draws. (LAID: no walk: one application.) -/
theorem Try.stringslite_Cut (s sep : ByteArray) (m : Int) (w : World) (hs : s.size < 4294967281) (hm : w.cell? ⟨0, 0, none⟩ = some (.int .i64 m)) :
    Calls Try.prog 82 #[.string s, .string sep] w fun e w' => e = .returned (.tuple #[.string ⟨(Lib.cut s.data.toList sep.data.toList).1.toArray⟩, .string ⟨(Lib.cut s.data.toList sep.data.toList).2.1.toArray⟩, .bool (Lib.cut s.data.toList sep.data.toList).2.2]) ∧ ∃ n, w' = w.drewN n := Any.stringslite_Cut Try.lays220 s sep m w hs hm
def Try.lays145_ren : Go.Shelf.Ren := ⟨fun | 145 => 66 | 220 => 82 | 219 => 93 | 217 => 92 | 225 => 97 | 224 => 98 | 267 => 99 | 266 => 96 | 314 => 102 | n => n, fun | 9 => 9 | 4 => 4 | 59 => 68 | 3 => 3 | 5 => 5 | 46 => 100 | 146 => 112 | 51 => 111 | n => n, fun | 1 => 0 | n => n⟩
theorem Try.lays145 : Go.Proofs.Lays.n145 Try.prog Try.lays145_ren := {
  mixed := by kernel_rfl
  f145 := Try.func66.trans (congrArg some (by kernel_rfl))
  f217 := Try.func92.trans (congrArg some (by kernel_rfl))
  f219 := Try.func93.trans (congrArg some (by kernel_rfl))
  f220 := Try.func82.trans (congrArg some (by kernel_rfl))
  f224 := Try.func98.trans (congrArg some (by kernel_rfl))
  f225 := Try.func97.trans (congrArg some (by kernel_rfl))
  f266 := Try.func96.trans (congrArg some (by kernel_rfl))
  f267 := Try.func99.trans (congrArg some (by kernel_rfl))
  f314 := Try.func102.trans (congrArg some (by kernel_rfl))
  t3 := Try.underlying3
  a3 := Try.isAgg3
  z3 := Try.sizeOf3
  v3 := Try.zeroValue3
  t4 := Try.underlying4
  a4 := Try.isAgg4
  z4 := Try.sizeOf4
  v4 := Try.zeroValue4
  t5 := Try.underlying5
  a5 := Try.isAgg5
  z5 := Try.sizeOf5
  v5 := Try.zeroValue5
  t9 := Try.underlying9
  a9 := Try.isAgg9
  z9 := Try.sizeOf9
  v9 := Try.zeroValue9
  t46 := Try.underlying100
  a46 := Try.isAgg100
  z46 := Try.sizeOf100
  v46 := Try.zeroValue100
  t51 := Try.underlying111
  a51 := Try.isAgg111
  z51 := Try.sizeOf111
  v51 := Try.zeroValue111
  t59 := Try.underlying68
  a59 := Try.isAgg68
  z59 := Try.sizeOf68
  v59 := Try.zeroValue68
  t146 := Try.underlying112
  a146 := Try.isAgg112
  z146 := Try.sizeOf112
  v146 := Try.zeroValue112
  g1 := by kernel_rfl }
open Go.RowKit Go.Lib in
/-- strings.Cut: "Cut slices s around the first instance of sep, returning the text before and after sep. The found result reports whether sep appears in s. If sep does not appear in s, cut returns s, "", false.": IT RETURNS 'Lib.cut s sep'; the world is as it was but for the count of draws. (LAID: no walk: one application.) -/
theorem Try.strings_Cut (s sep : ByteArray) (m : Int) (w : World) (hs : s.size < 4294967281) (hm : w.cell? ⟨0, 0, none⟩ = some (.int .i64 m)) :
    Calls Try.prog 66 #[.string s, .string sep] w fun e w' => e = .returned (.tuple #[.string ⟨(Lib.cut s.data.toList sep.data.toList).1.toArray⟩, .string ⟨(Lib.cut s.data.toList sep.data.toList).2.1.toArray⟩, .bool (Lib.cut s.data.toList sep.data.toList).2.2]) ∧ ∃ n, w' = w.drewN n := Any.strings_Cut Try.lays145 s sep m w hs hm
def Try.laysM219_ren : Go.Shelf.Ren := ⟨fun | 219 => 93 | 217 => 92 | 225 => 97 | 224 => 98 | 267 => 99 | 266 => 96 | 314 => 102 | n => n, fun | 9 => 9 | 3 => 3 | 4 => 4 | 5 => 5 | 46 => 100 | 146 => 112 | 51 => 111 | n => n, fun | 1 => 0 | n => n⟩
theorem Try.laysM219 : Go.Proofs.LaysM.n219 Try.prog Try.laysM219_ren := {
  mixed := by kernel_rfl
  f217 := Try.func92.trans (congrArg some (by kernel_rfl))
  f219 := Try.func93.trans (congrArg some (by kernel_rfl))
  f224 := Try.func98.trans (congrArg some (by kernel_rfl))
  f225 := Try.func97.trans (congrArg some (by kernel_rfl))
  f266 := Try.func96.trans (congrArg some (by kernel_rfl))
  f267 := Try.func99.trans (congrArg some (by kernel_rfl))
  f314 := Try.func102.trans (congrArg some (by kernel_rfl))
  t3 := Try.underlying3
  a3 := Try.isAgg3
  z3 := Try.sizeOf3
  v3 := Try.zeroValue3
  t4 := Try.underlying4
  a4 := Try.isAgg4
  z4 := Try.sizeOf4
  v4 := Try.zeroValue4
  t5 := Try.underlying5
  a5 := Try.isAgg5
  z5 := Try.sizeOf5
  v5 := Try.zeroValue5
  t9 := Try.underlying9
  a9 := Try.isAgg9
  z9 := Try.sizeOf9
  v9 := Try.zeroValue9
  t46 := Try.underlying100
  a46 := Try.isAgg100
  z46 := Try.sizeOf100
  v46 := Try.zeroValue100
  t51 := Try.underlying111
  a51 := Try.isAgg111
  z51 := Try.sizeOf111
  v51 := Try.zeroValue111
  t146 := Try.underlying112
  a146 := Try.isAgg112
  z146 := Try.sizeOf112
  v146 := Try.zeroValue112
  g1 := by kernel_rfl
  i3 := by kernel_rfl
  i4 := by kernel_rfl
  i5 := by kernel_rfl
  i9 := by kernel_rfl
  i46 := by kernel_rfl
  i51 := by kernel_rfl
  i146 := by kernel_rfl
  m1 := by kernel_rfl
  s1_3 := fun w h => Go.Proofs.cell_of_shapedOpen_int (zero := #[.int .i64 0]) (t := 3) h (of_decide_eq_true (by kernel_rfl)) (by kernel_rfl) rfl (by kernel_rfl) (by kernel_rfl) Try.underlying3 }
open Go.RowKit Go.Lib in
theorem Try.stringslite_Index_shaped (s sub : ByteArray) (w : World) (h : w.ShapedOpen Try.prog) (hs : s.size < 4294967281) :
    Calls Try.prog 93 #[.string s, .string sub] w fun e w' => e = .returned (.int .i64 (Lib.index s.data.toList sub.data.toList)) ∧ w' = w := Any.stringslite_Index_shaped Try.laysM219 s sub w h hs
def Try.laysM220_ren : Go.Shelf.Ren := ⟨fun | 220 => 82 | 219 => 93 | 217 => 92 | 225 => 97 | 224 => 98 | 267 => 99 | 266 => 96 | 314 => 102 | n => n, fun | 9 => 9 | 4 => 4 | 3 => 3 | 5 => 5 | 46 => 100 | 146 => 112 | 51 => 111 | n => n, fun | 1 => 0 | n => n⟩
theorem Try.laysM220 : Go.Proofs.LaysM.n220 Try.prog Try.laysM220_ren := {
  mixed := by kernel_rfl
  f217 := Try.func92.trans (congrArg some (by kernel_rfl))
  f219 := Try.func93.trans (congrArg some (by kernel_rfl))
  f220 := Try.func82.trans (congrArg some (by kernel_rfl))
  f224 := Try.func98.trans (congrArg some (by kernel_rfl))
  f225 := Try.func97.trans (congrArg some (by kernel_rfl))
  f266 := Try.func96.trans (congrArg some (by kernel_rfl))
  f267 := Try.func99.trans (congrArg some (by kernel_rfl))
  f314 := Try.func102.trans (congrArg some (by kernel_rfl))
  t3 := Try.underlying3
  a3 := Try.isAgg3
  z3 := Try.sizeOf3
  v3 := Try.zeroValue3
  t4 := Try.underlying4
  a4 := Try.isAgg4
  z4 := Try.sizeOf4
  v4 := Try.zeroValue4
  t5 := Try.underlying5
  a5 := Try.isAgg5
  z5 := Try.sizeOf5
  v5 := Try.zeroValue5
  t9 := Try.underlying9
  a9 := Try.isAgg9
  z9 := Try.sizeOf9
  v9 := Try.zeroValue9
  t46 := Try.underlying100
  a46 := Try.isAgg100
  z46 := Try.sizeOf100
  v46 := Try.zeroValue100
  t51 := Try.underlying111
  a51 := Try.isAgg111
  z51 := Try.sizeOf111
  v51 := Try.zeroValue111
  t146 := Try.underlying112
  a146 := Try.isAgg112
  z146 := Try.sizeOf112
  v146 := Try.zeroValue112
  g1 := by kernel_rfl
  i3 := by kernel_rfl
  i4 := by kernel_rfl
  i5 := by kernel_rfl
  i9 := by kernel_rfl
  i46 := by kernel_rfl
  i51 := by kernel_rfl
  i146 := by kernel_rfl
  m1 := by kernel_rfl
  s1_3 := fun w h => Go.Proofs.cell_of_shapedOpen_int (zero := #[.int .i64 0]) (t := 3) h (of_decide_eq_true (by kernel_rfl)) (by kernel_rfl) rfl (by kernel_rfl) (by kernel_rfl) Try.underlying3 }
open Go.RowKit Go.Lib in
theorem Try.stringslite_Cut_shaped (s sep : ByteArray) (w : World) (h : w.ShapedOpen Try.prog) (hs : s.size < 4294967281) :
    Calls Try.prog 82 #[.string s, .string sep] w fun e w' => e = .returned (.tuple #[.string ⟨(Lib.cut s.data.toList sep.data.toList).1.toArray⟩, .string ⟨(Lib.cut s.data.toList sep.data.toList).2.1.toArray⟩, .bool (Lib.cut s.data.toList sep.data.toList).2.2]) ∧ ∃ n, w' = w.drewN n := Any.stringslite_Cut_shaped Try.laysM220 s sep w h hs
def Try.laysM145_ren : Go.Shelf.Ren := ⟨fun | 145 => 66 | 220 => 82 | 219 => 93 | 217 => 92 | 225 => 97 | 224 => 98 | 267 => 99 | 266 => 96 | 314 => 102 | n => n, fun | 9 => 9 | 4 => 4 | 59 => 68 | 3 => 3 | 5 => 5 | 46 => 100 | 146 => 112 | 51 => 111 | n => n, fun | 1 => 0 | n => n⟩
theorem Try.laysM145 : Go.Proofs.LaysM.n145 Try.prog Try.laysM145_ren := {
  mixed := by kernel_rfl
  f145 := Try.func66.trans (congrArg some (by kernel_rfl))
  f217 := Try.func92.trans (congrArg some (by kernel_rfl))
  f219 := Try.func93.trans (congrArg some (by kernel_rfl))
  f220 := Try.func82.trans (congrArg some (by kernel_rfl))
  f224 := Try.func98.trans (congrArg some (by kernel_rfl))
  f225 := Try.func97.trans (congrArg some (by kernel_rfl))
  f266 := Try.func96.trans (congrArg some (by kernel_rfl))
  f267 := Try.func99.trans (congrArg some (by kernel_rfl))
  f314 := Try.func102.trans (congrArg some (by kernel_rfl))
  t3 := Try.underlying3
  a3 := Try.isAgg3
  z3 := Try.sizeOf3
  v3 := Try.zeroValue3
  t4 := Try.underlying4
  a4 := Try.isAgg4
  z4 := Try.sizeOf4
  v4 := Try.zeroValue4
  t5 := Try.underlying5
  a5 := Try.isAgg5
  z5 := Try.sizeOf5
  v5 := Try.zeroValue5
  t9 := Try.underlying9
  a9 := Try.isAgg9
  z9 := Try.sizeOf9
  v9 := Try.zeroValue9
  t46 := Try.underlying100
  a46 := Try.isAgg100
  z46 := Try.sizeOf100
  v46 := Try.zeroValue100
  t51 := Try.underlying111
  a51 := Try.isAgg111
  z51 := Try.sizeOf111
  v51 := Try.zeroValue111
  t59 := Try.underlying68
  a59 := Try.isAgg68
  z59 := Try.sizeOf68
  v59 := Try.zeroValue68
  t146 := Try.underlying112
  a146 := Try.isAgg112
  z146 := Try.sizeOf112
  v146 := Try.zeroValue112
  g1 := by kernel_rfl
  i3 := by kernel_rfl
  i4 := by kernel_rfl
  i5 := by kernel_rfl
  i9 := by kernel_rfl
  i46 := by kernel_rfl
  i51 := by kernel_rfl
  i59 := by kernel_rfl
  i146 := by kernel_rfl
  m1 := by kernel_rfl
  s1_3 := fun w h => Go.Proofs.cell_of_shapedOpen_int (zero := #[.int .i64 0]) (t := 3) h (of_decide_eq_true (by kernel_rfl)) (by kernel_rfl) rfl (by kernel_rfl) (by kernel_rfl) Try.underlying3 }
open Go.RowKit Go.Lib in
theorem Try.strings_Cut_shaped (s sep : ByteArray) (w : World) (h : w.ShapedOpen Try.prog) (hs : s.size < 4294967281) :
    Calls Try.prog 66 #[.string s, .string sep] w fun e w' => e = .returned (.tuple #[.string ⟨(Lib.cut s.data.toList sep.data.toList).1.toArray⟩, .string ⟨(Lib.cut s.data.toList sep.data.toList).2.1.toArray⟩, .bool (Lib.cut s.data.toList sep.data.toList).2.2]) ∧ ∃ n, w' = w.drewN n := Any.strings_Cut_shaped Try.laysM145 s sep w h hs
end Go.Proofs
namespace Go.Proofs.Ytifajcblbedcoaa
set_option linter.unusedVariables false
set_option linter.unusedSimpArgs false
open Go.RowKit Hp
attribute [local irreducible] Go.Calls
set_option maxHeartbeats 1000000
abbrev str (l : List UInt8) : Value := .string ⟨l.toArray⟩
theorem slcut_any (l : List UInt8) (w : World) (hl : l.length ≤ 9223372036854775807) :
    Calls Try.prog 82 #[str l, .string ⟨#[64]⟩] w fun e w' => e = .returned (.tuple #[str (cutL l).1, str (cutL l).2.1, .bool (cutL l).2.2]) ∧ St w [] w' [] := by
  have hi := index_cut l
  cases hc : (cutL l).2.2 with
  | false =>
    rw [hc] at hi
    obtain ⟨h1, h2⟩ := cutL_false hc
    rw [h1, h2]
    simp only [Bool.false_eq_true, if_false] at hi
    have Hi := hid hi; clear hi hc h1 h2
    go_enter Try.func82, Try.ntmps82
    go_wp2_with (first | go_big_skip | go_big_guard | (go_at_call 93; refine (Try.stringslite_Index_one _ _ _).mono ?_; rw [show (⟨l.toArray⟩ : ByteArray).data.toList = l from rfl, Hi.out]; rintro _ _ ⟨rfl, rfl⟩))
    go_ret3
    exact ⟨rfl, St.refl _⟩
  | true =>
    rw [hc] at hi
    have e := cutL_true hc
    obtain ⟨a, ha⟩ : ∃ a, a = (cutL l).1 := ⟨_, rfl⟩
    obtain ⟨b, hb⟩ : ∃ b, b = (cutL l).2.1 := ⟨_, rfl⟩
    rw [← ha, ← hb] at e ⊢
    rw [← ha] at hi
    simp only [if_true] at hi
    have Hi := hid hi; clear hi hc ha hb
    subst e
    simp only [List.length_append, List.length_cons] at hl
    go_enter Try.func82, Try.ntmps82
    go_wp2_with (first | go_big_skip | go_big_guard | (go_at_call 93; refine (Try.stringslite_Index_one _ _ _).mono ?_; rw [show (⟨(a ++ 64 :: b).toArray⟩ : ByteArray).data.toList = a ++ 64 :: b from rfl, Hi.out]; rintro _ _ ⟨rfl, rfl⟩))
    go_quiet (fail)
    go_wp2_with (first | go_big_skip | go_big_guard | fail)
    go_ret3
    exact ⟨tup3 (by show Value.string _ = _; rw [extract_l]; simp) (by show Value.string _ = _; rw [extract_l, List.take_of_length_le (by simp)]; simp [List.drop_append]) rfl, (St.refl _).drewN _⟩
theorem cut_any (l : List UInt8) (w : World) (hl : l.length ≤ 9223372036854775807) :
    Calls Try.prog 66 #[str l, .string ⟨#[64]⟩] w fun e w' => e = .returned (.tuple #[str (cutL l).1, str (cutL l).2.1, .bool (cutL l).2.2]) ∧ St w [] w' [] := by
  have Hl := hid hl; clear hl
  have hst := St.refl w
  go_enter Try.func66, Try.ntmps66
  go_wp2_with (first | go_big_skip | go_big_guard | (go_at_call 82; refine (slcut_any l _ Hl.out).mono ?_; rintro _ _ ⟨rfl, h4⟩; replace hst := St.call0 hst h4; clear h4))
  go_ret3
  exact ⟨rfl, hst⟩
instance tyStr9 : TyStr Try.prog 9 := ⟨by kernel_rfl⟩
theorem u8ne {c : UInt8} (h : ((c.toNat : Int) == 64) = false) : c ≠ 64 := by rintro rfl; simp at h
theorem u8eq {c : UInt8} (h : ((c.toNat : Int) == 64) = true) : c = 64 := UInt8.toNat_inj.1 (by have h2 := eq_of_beq h; show c.toNat = 64; omega)
end Go.Proofs.Ytifajcblbedcoaa
namespace Go.Proofs.Ytifajcblbedcoaa
set_option linter.unusedVariables false
set_option linter.unusedSimpArgs false
open Go.RowKit Hp
attribute [local irreducible] Go.Calls
set_option maxHeartbeats 1000000
theorem ixb (c : UInt8) : Lib.indexByte [46, 45, 95] c = if c = 46 then 0 else if c = 45 then 1 else if c = 95 then 2 else -1 := by
  simp only [Lib.indexByte, beq_iff_eq, eq_comm (b := c)]
  split
  · rfl
  · split
    · simp
    · split <;> simp
theorem u8n (c : UInt8) (n : Nat) (hn : n < 256) : c = UInt8.ofNat n ↔ (c.toNat : Int) = n := by
  rw [← UInt8.toNat_inj, UInt8.toNat_ofNat']
  omega
theorem ixb_iff (c : UInt8) : Lib.indexByte [46, 45, 95] c < 0 ↔ ¬ ((c.toNat : Int) = 46 ∨ (c.toNat : Int) = 45 ∨ (c.toNat : Int) = 95) := by
  rw [ixb]
  have h1 := u8n c 46 (by decide)
  have h2 := u8n c 45 (by decide)
  have h3 := u8n c 95 (by decide)
  simp only [show UInt8.ofNat 46 = 46 from rfl, show UInt8.ofNat 45 = 45 from rfl, show UInt8.ofNat 95 = 95 from rfl] at h1 h2 h3
  simp only [h1, h2, h3]
  split
  · simp; omega
  · split
    · simp; omega
    · split <;> simp <;> omega
theorem okAt_iff {l : List UInt8} {k : Nat} {c : UInt8} (h : l.getD k 0 = c) : okAt l k = true ↔ (97 ≤ (c.toNat : Int) ∧ (c.toNat : Int) ≤ 122) ∨ (k ≠ 0 ∧ ((48 ≤ (c.toNat : Int) ∧ (c.toNat : Int) ≤ 57) ∨ (c.toNat : Int) = 46 ∨ (c.toNat : Int) = 45 ∨ (c.toNat : Int) = 95)) := by
  have h1 := u8n c 46 (by decide)
  have h2 := u8n c 45 (by decide)
  have h3 := u8n c 95 (by decide)
  simp only [show UInt8.ofNat 46 = 46 from rfl, show UInt8.ofNat 45 = 45 from rfl, show UInt8.ofNat 95 = 95 from rfl] at h1 h2 h3
  rw [okAt, h, okc]
  simp only [Bool.or_eq_true, Bool.and_eq_true, decide_eq_true_eq, Bool.not_eq_true', beq_eq_false_iff_ne, beq_iff_eq, h1, h2, h3, UInt8.le_iff_toNat_le, ne_eq]
  simp only [show (97 : UInt8).toNat = 97 from rfl, show (122 : UInt8).toNat = 122 from rfl, show (48 : UInt8).toNat = 48 from rfl, show (57 : UInt8).toNat = 57 from rfl]
  omega
theorem okAt_bad {l : List UInt8} {k : Nat} {c : UInt8} (h : l.getD k 0 = c) (hb : ¬ ((97 ≤ (c.toNat : Int) ∧ (c.toNat : Int) ≤ 122) ∨ (k ≠ 0 ∧ ((48 ≤ (c.toNat : Int) ∧ (c.toNat : Int) ≤ 57) ∨ (c.toNat : Int) = 46 ∨ (c.toNat : Int) = 45 ∨ (c.toNat : Int) = 95)))) : okAt l k = false := by
  rw [← Bool.not_eq_true, okAt_iff h]; exact hb
theorem okAt_step {l : List UInt8} {k : Nat} (hno : ∀ j, j < k → okAt l j = true) (h : okAt l k = true) : ∀ j, j < k + 1 → okAt l j = true := fun j hj => by
  by_cases e : j = k
  · rw [e]; exact h
  · exact hno j (by omega)
theorem part_any (l : List UInt8) (w : World) (hl : l.length ≤ 9223372036854775807) :
    Calls Try.prog 63 #[str l] w fun e w' => e = .returned (.bool (partB l)) ∧ St w [] w' [] := by
  by_cases hn : 1 ≤ l.length ∧ l.length ≤ 20
  · obtain ⟨hn1, hn2⟩ := hn
    go_enter Try.func63, Try.ntmps63
    go_wp2_with (first | go_big_skip | go_big_guard | fail)
    go_loop [16] (fun i => ∃ k : Nat, k ≤ l.length ∧ i = .int .i64 k ∧ Hid (∀ j, j < k → okAt l j = true)) (fun i => l.length - (intOf i).toNat)
    case atStart => exact ⟨0, Nat.zero_le _, rfl, hid (fun j hj => absurd hj (Nat.not_lt_zero _))⟩
    case round =>
      obtain ⟨k, hk, rfl, hno⟩ := hrel
      by_cases hlt : k < l.length
      · go_wp2_with (first | go_big_skip | go_big_guard | (refine wl_strIx rfl rfl rfl rfl hlt ?_; intro c hc) | (go_at_call 81; refine (Try.strings_IndexByte _ _ _).mono ?_; rintro _ _ ⟨rfl, rfl⟩))
        all_goals
          have e := ixb_iff c
          first
            | (go_ret; exact ⟨(ret_boolv (part_bad hlt (okAt_bad hc.out (by omega)))).symm, St.refl _⟩)
            | (go_round; (case rel => exact ⟨k + 1, by omega, by go_num, hid (okAt_step hno.out ((okAt_iff hc.out).2 (by omega)))⟩); (case measure => simp [intOf]; omega))
      · have hq := hid (part_all hn1 hn2 (fun j hj => hno.out j (by omega)))
        clear hno
        go_wp2_with (first | go_big_skip | go_big_guard | fail)
        go_ret
        exact ⟨(ret_boolv hq.out).symm, St.refl _⟩
  · have hq := hid (part_len hn)
    go_enter Try.func63, Try.ntmps63
    go_wp2_with (first | go_big_skip | go_big_guard | fail)
    all_goals (go_ret; exact ⟨(ret_boolv hq.out).symm, St.refl _⟩)
end Go.Proofs.Ytifajcblbedcoaa
namespace Go.Proofs.Ytifajcblbedcoaa
set_option linter.unusedVariables false
set_option linter.unusedSimpArgs false
open Go.RowKit Hp
attribute [local irreducible] Go.Calls
set_option maxHeartbeats 1000000
theorem volume_any (l : List UInt8) (w : World) (hl : l.length ≤ 9223372036854775807) :
    Calls Try.prog 26 #[str l] w fun e w' => e = .returned (.bool (partB l)) ∧ St w [] w' [] := by
  have hst := St.refl w
  have Hl := hid hl; clear hl
  go_enter Try.func26, Try.ntmps26
  go_wp2_with (first | go_big_skip | go_big_guard | (go_at_call 63; refine (part_any l _ Hl.out).mono ?_; rintro _ _ ⟨rfl, h4⟩; replace hst := St.call0 hst h4; clear h4))
  go_ret
  exact ⟨rfl, hst⟩
theorem cutL_len (l : List UInt8) : (cutL l).1.length ≤ l.length ∧ (cutL l).2.1.length ≤ l.length := by
  cases h : (cutL l).2.2
  · obtain ⟨h1, h2⟩ := cutL_false h
    rw [h1, h2]; simp
  · have := congrArg List.length (cutL_true h)
    simp at this
    omega
theorem split_to {l a b : List UInt8} {f : Bool} (hx : cutL l = (a, b, f)) : splitL l = if f && (partB a && partB b) then (a, b, true) else ([], [], false) := by rw [splitL, hx]
theorem cut_to {l a b : List UInt8} {f : Bool} (hx : cutL l = (a, b, f)) (w : World) (hl : l.length ≤ 9223372036854775807) :
    Calls Try.prog 66 #[str l, .string ⟨#[64]⟩] w fun e w' => e = .returned (.tuple #[str a, str b, .bool f]) ∧ St w [] w' [] := by
  have := cut_any l w hl
  rwa [hx] at this
theorem split_any (l : List UInt8) (w : World) (hl : l.length ≤ 9223372036854775807) :
    Calls Try.prog 39 #[str l] w fun e w' => e = .returned (.tuple #[str (splitL l).1, str (splitL l).2.1, .bool (splitL l).2.2]) ∧ St w [] w' [] := by
  have hst := St.refl w
  rcases hx : cutL l with ⟨a, b, f⟩
  have hq := hid (split_to hx)
  obtain ⟨h1, h2⟩ := cutL_len l
  rw [hx] at h1 h2
  have Ha := hid (Nat.le_trans h1 hl)
  have Hb := hid (Nat.le_trans h2 hl)
  have Hx := hid hx
  have Hl := hid hl; clear hl h1 h2 hx
  clear hq
  cases f with
  | false =>
    go_enter Try.func39, Try.ntmps39
    go_wp2_with (first | go_big_skip | go_big_guard | (go_at_call 66; refine (cut_to Hx.out _ Hl.out).mono ?_; rintro _ _ ⟨rfl, h4⟩; replace hst := St.call0 hst h4; clear h4))
    go_ret3
    exact ⟨by rw [split_to Hx.out]; rfl, hst⟩
  | true =>
    by_cases pa : partB a = true
    · by_cases pb : partB b = true
      · go_enter Try.func39, Try.ntmps39
        go_wp2_with (first | go_big_skip | go_big_guard | (go_at_call 66; refine (cut_to Hx.out _ Hl.out).mono ?_; rintro _ _ ⟨rfl, h4⟩; replace hst := St.call0 hst h4; clear h4) | (go_at_call 26; refine (volume_any a _ Ha.out).mono ?_; rintro _ _ ⟨rfl, h4⟩; replace hst := St.call0 hst h4; clear h4) | (go_at_call 63; refine (part_any b _ Hb.out).mono ?_; rintro _ _ ⟨rfl, h4⟩; replace hst := St.call0 hst h4; clear h4))
        go_ret3
        exact ⟨by rw [split_to Hx.out, pa, pb]; rfl, hst⟩
      · replace pb : partB b = false := by simpa using pb
        go_enter Try.func39, Try.ntmps39
        go_wp2_with (first | go_big_skip | go_big_guard | (go_at_call 66; refine (cut_to Hx.out _ Hl.out).mono ?_; rintro _ _ ⟨rfl, h4⟩; replace hst := St.call0 hst h4; clear h4) | (go_at_call 26; refine (volume_any a _ Ha.out).mono ?_; rintro _ _ ⟨rfl, h4⟩; replace hst := St.call0 hst h4; clear h4) | (go_at_call 63; refine (part_any b _ Hb.out).mono ?_; rintro _ _ ⟨rfl, h4⟩; replace hst := St.call0 hst h4; clear h4))
        go_ret3
        exact ⟨by rw [split_to Hx.out, pa, pb]; rfl, hst⟩
    · replace pa : partB a = false := by simpa using pa
      go_enter Try.func39, Try.ntmps39
      go_wp2_with (first | go_big_skip | go_big_guard | (go_at_call 66; refine (cut_to Hx.out _ Hl.out).mono ?_; rintro _ _ ⟨rfl, h4⟩; replace hst := St.call0 hst h4; clear h4) | (go_at_call 26; refine (volume_any a _ Ha.out).mono ?_; rintro _ _ ⟨rfl, h4⟩; replace hst := St.call0 hst h4; clear h4))
      go_ret3
      exact ⟨by rw [split_to Hx.out, pa]; rfl, hst⟩
theorem snap_any (l : List UInt8) (w : World) (hl : l.length ≤ 9223372036854775807) :
    Calls Try.prog 55 #[str l] w fun e w' => e = .returned (.bool (snapB l)) ∧ St w [] w' [] := by
  have hst := St.refl w
  have Hl := hid hl; clear hl
  go_enter Try.func55, Try.ntmps55
  go_wp2_with (first | go_big_skip | go_big_guard | (go_at_call 39; refine (split_any l _ Hl.out).mono ?_; rintro _ _ ⟨rfl, h4⟩; replace hst := St.call0 hst h4; clear h4))
  go_ret
  exact ⟨rfl, hst⟩
theorem join_any (a b : List UInt8) (w : World) (ha : a.length ≤ 9223372036854775807) (hb : b.length ≤ 9223372036854775807) :
    Calls Try.prog 40 #[str a, str b] w fun e w' => e = .returned (.tuple #[str (joinL a b).1, .bool (joinL a b).2]) ∧ St w [] w' [] := by
  have hst := St.refl w
  have Ha := hid ha; clear ha
  have Hb := hid hb; clear hb
  have Hf := hid (fun (h : partB a = true) (h' : partB b = true) => show joinL a b = ((a ++ [64]) ++ b, true) by rw [joinL, h, h']; rfl)
  have Hf2 := hid (fun (h : (partB a && partB b) = false) => show joinL a b = ([], false) by rw [joinL, h]; rfl)
  by_cases pa : partB a = true
  · by_cases pb : partB b = true
    · obtain ⟨la1, la⟩ := part_bd pa
      obtain ⟨lb1, lb⟩ := part_bd pb
      go_enter Try.func40, Try.ntmps40
      go_wp2_with (first | go_big_skip | go_big_guard | (go_at_call 26; refine (volume_any a _ Ha.out).mono ?_; rintro _ _ ⟨rfl, h4⟩; replace hst := St.call0 hst h4; clear h4) | (go_at_call 63; refine (part_any b _ Hb.out).mono ?_; rintro _ _ ⟨rfl, h4⟩; replace hst := St.call0 hst h4; clear h4))
      go_goals
      go_ret2
      exact ⟨by rw [Hf.out pa pb]; exact tup2 (by show Value.string _ = _; rw [append_l a [64], append_l]) rfl, hst⟩
    · replace pb : partB b = false := by simpa using pb
      go_enter Try.func40, Try.ntmps40
      go_wp2_with (first | go_big_skip | go_big_guard | (go_at_call 26; refine (volume_any a _ Ha.out).mono ?_; rintro _ _ ⟨rfl, h4⟩; replace hst := St.call0 hst h4; clear h4) | (go_at_call 63; refine (part_any b _ Hb.out).mono ?_; rintro _ _ ⟨rfl, h4⟩; replace hst := St.call0 hst h4; clear h4))
      go_ret2
      exact ⟨by rw [Hf2.out (by simp [pb])]; rfl, hst⟩
  · replace pa : partB a = false := by simpa using pa
    go_enter Try.func40, Try.ntmps40
    go_wp2_with (first | go_big_skip | go_big_guard | (go_at_call 26; refine (volume_any a _ Ha.out).mono ?_; rintro _ _ ⟨rfl, h4⟩; replace hst := St.call0 hst h4; clear h4))
    go_ret2
    exact ⟨by rw [Hf2.out (by simp [pa])]; rfl, hst⟩
end Go.Proofs.Ytifajcblbedcoaa
namespace Go.Proofs.Ytifajcblbedcoaa
set_option linter.unusedVariables false
set_option linter.unusedSimpArgs false
open Go.RowKit Hp
attribute [local irreducible] Go.Calls
set_option maxRecDepth 100000
set_option maxHeartbeats 1000000
instance tyS3 : TyS Try.prog 3 := ⟨by kernel_rfl⟩
instance tyE3 : TyE Try.prog 3 1 8 := ⟨by kernel_rfl⟩
instance tySl37 : TySl Try.prog 25 3 := ⟨by kernel_rfl⟩
theorem order_any (f : Bool) (w : World) : Calls Try.prog 83 #[.bool f] w fun e w' => e = .returned (str (ordL f)) ∧ w' = w := by
  cases f
  all_goals
    go_enter Try.func83, Try.ntmps83
    go_wp2_with (first | go_big_skip | go_big_guard | fail)
    go_ret
    exact ⟨rfl, rfl⟩
theorem or_any (v : Value) (a b : Int) (w : World) (hA : Rd w v 1 2 [.int .i64 a, .int .i64 b]) :
    Calls Try.prog 85 #[v] w fun e w' => e = .returned (.int .i64 (orI a b)) ∧ St w [] w' [] := by
  rcases hA.cases with ⟨_, h, _⟩ | ⟨_, _, h, _⟩ | ⟨bb, off, c, rfl, hn, hc, _, hr⟩
  · cases h
  · cases h
  have h0 : w.cell? ⟨bb, off, none⟩ = some (.int .i64 a) := hr 0 _ rfl
  have h1 : w.cell? ⟨bb, off + 1, none⟩ = some (.int .i64 b) := hr 1 _ rfl
  clear hr hA
  go_enter Try.func85, Try.ntmps85
  go_wp2_with (first | go_big_skip | go_big_guard | fail)
  go_loop [8] (fun i => ∃ k : Nat, k ≤ 2 ∧ i = .int .i64 k ∧ Hid (0 < k → a = 0) ∧ Hid (1 < k → b = 0)) (fun i => 2 - (intOf i).toNat)
  case atStart => exact ⟨0, by omega, rfl, hid (by first | trivial | (intro _; rfl) | (intro h; exact absurd h (by decide)) | simp), hid (by first | trivial | (intro _; rfl) | (intro h; exact absurd h (by decide)) | simp)⟩
  case round =>
    obtain ⟨k, hk, rfl, ha, hb⟩ := hrel
    obtain rfl | rfl | rfl : k = 0 ∨ k = 1 ∨ k = 2 := by omega
    · by_cases e : a = 0
      · subst e
        go_wp2_with (first | go_big_skip | go_big_guard | fail)
        go_round
        case rel => exact ⟨1, by omega, by go_num, hid (by first | trivial | (intro _; rfl) | (intro h; exact absurd h (by decide)) | simp), hid (by first | trivial | (intro _; rfl) | (intro h; exact absurd h (by decide)) | simp)⟩
        case measure => simp [intOf]
      · have e1 : (a != 0) = true := by simpa using e
        have e2 := hid e; clear e
        go_wp2_with (first | go_big_skip | go_big_guard | fail)
        go_ret
        exact ⟨ret_intv (by rw [orI, if_pos e2.out]), St.refl _⟩
    · have e := ha.out (by omega)
      subst e
      by_cases e : b = 0
      · subst e
        go_wp2_with (first | go_big_skip | go_big_guard | fail)
        go_round
        case rel => exact ⟨2, by omega, by go_num, hid (by first | trivial | (intro _; rfl) | (intro h; exact absurd h (by decide)) | simp), hid (by first | trivial | (intro _; rfl) | (intro h; exact absurd h (by decide)) | simp)⟩
        case measure => simp [intOf]
      · have e1 : (b != 0) = true := by simpa using e
        go_wp2_with (first | go_big_skip | go_big_guard | fail)
        go_ret
        exact ⟨ret_intv (by simp [orI]), St.refl _⟩
    · have e := ha.out (by omega)
      subst e
      have e := hb.out (by omega)
      subst e
      go_wp2_with (first | go_big_skip | go_big_guard | fail)
      go_ret
      exact ⟨ret_intv (by simp [orI]), St.refl _⟩
theorem compare_to {a b : List UInt8} {c : Int} (h : c = Lib.compareBytes a b) (w : World) : Calls Try.prog 84 #[str a, str b] w fun e w' => e = .returned (.int .i64 c) ∧ w' = w := by
  rw [h]; exact Try.strings_Compare _ _ w
theorem ix0 (a b c : Int) (w : World) : (Instr.index 103 (.agg #[.int .i64 a, .int .i64 b, .int .i64 c]) (.int .i64 0)).run Try.prog w = .ok (.int .i64 a) w := by kernel_rfl
theorem ix1 (a b c : Int) (w : World) : (Instr.index 103 (.agg #[.int .i64 a, .int .i64 b, .int .i64 c]) (.int .i64 1)).run Try.prog w = .ok (.int .i64 b) w := by kernel_rfl
theorem ix2 (a b c : Int) (w : World) : (Instr.index 103 (.agg #[.int .i64 a, .int .i64 b, .int .i64 c]) (.int .i64 2)).run Try.prog w = .ok (.int .i64 c) w := by kernel_rfl
attribute [local go_sem ↓] ix0 ix1 ix2
theorem or0 (c : Int) : orI 0 c = c := by simp [orI]
theorem less_any (p q : List UInt8) (w : World) (hp : p.length ≤ 9223372036854775807) (hq : q.length ≤ 9223372036854775807) :
    Calls Try.prog 69 #[str p, str q] w fun e w' => e = .returned (.bool (lessL p q)) ∧ St w [] w' [] := by
  have hst := St.refl w
  have Hp := hid hp; clear hp
  have Hq := hid hq; clear hq
  rcases hx : cutL p with ⟨a, b, f⟩
  rcases hy : cutL q with ⟨a', b', f'⟩
  obtain ⟨c1, h1⟩ : ∃ c, c = Lib.compareBytes a a' := ⟨_, rfl⟩
  obtain ⟨c2, h2⟩ : ∃ c, c = Lib.compareBytes (ordL f) (ordL f') := ⟨_, rfl⟩
  obtain ⟨c3, h3⟩ : ∃ c, c = Lib.compareBytes b b' := ⟨_, rfl⟩
  have HL := hid (show lessL p q = decide (orI c1 (orI c2 c3) < 0) by rw [lessL, cmp3, hx, hy, h1, h2, h3])
  have Hx := hid hx; clear hx
  have Hy := hid hy; clear hy
  have H1 := hid h1; clear h1
  have H2 := hid h2; clear h2
  have H3 := hid h3; clear h3
  go_enter Try.func69, Try.ntmps69
  go_wp2_with (first | go_big_skip | go_big_guard | fail)
  go_step3
  go_wp2_with (first | go_big_skip | go_big_guard | (go_at_call 66; first | (refine (cut_to Hx.out _ Hp.out).mono ?_; rintro _ _ ⟨rfl, h4⟩; replace hst := St.call0 hst h4; clear h4) | (refine (cut_to Hy.out _ Hq.out).mono ?_; rintro _ _ ⟨rfl, h4⟩; replace hst := St.call0 hst h4; clear h4)) | (go_at_call 83; refine (order_any _ _).mono ?_; rintro _ _ ⟨rfl, rfl⟩) | (go_at_call 84; first | (refine (compare_to H1.out _).mono ?_; rintro _ _ ⟨rfl, rfl⟩) | (refine (compare_to H2.out _).mono ?_; rintro _ _ ⟨rfl, rfl⟩) | (refine (compare_to H3.out _).mono ?_; rintro _ _ ⟨rfl, rfl⟩)))
  go_step3
  go_wp2_with (first | go_big_skip | go_big_guard | (go_at_call 83; refine (order_any _ _).mono ?_; rintro _ _ ⟨rfl, rfl⟩) | (go_at_call 84; first | (refine (compare_to H1.out _).mono ?_; rintro _ _ ⟨rfl, rfl⟩) | (refine (compare_to H2.out _).mono ?_; rintro _ _ ⟨rfl, rfl⟩) | (refine (compare_to H3.out _).mono ?_; rintro _ _ ⟨rfl, rfl⟩)))
  go_loopw [12, 41] (fun f i wr => ∃ k : Nat, k ≤ 3 ∧ i = .int .i64 k ∧ f = .int .i64 0 ∧ Hid (0 < k → c1 = 0) ∧ Hid (1 < k → c2 = 0) ∧ Hid (2 < k → c3 = 0) ∧ St w [] wr []) (fun _ i _ => 3 - (intOf i).toNat)
  case atStart => exact ⟨0, by omega, rfl, rfl, hid (by simp), hid (by simp), hid (by simp), hst⟩
  case round =>
    clear hst
    obtain ⟨k, hk, rfl, rfl, ha, hb, hc, hst⟩ := hrel
    obtain rfl | rfl | rfl | rfl : k = 0 ∨ k = 1 ∨ k = 2 ∨ k = 3 := by omega
    · skip
      by_cases e : c1 = 0
      · subst e
        go_wp2_with (first | go_big_skip | go_big_guard | (apply wl_bsX ([.int .i64 0, .int .i64 0]) ([.int .i64 0, .int .i64 0]) hst; rfl; rfl; exact rfl; exact rfl; infer_instance; infer_instance; rfl; rfl; rfl; intro g _ hst1) | (go_at_call 85; refine (or_any _ 0 0 _ (Rd.blk0 hst1 rfl (by decide))).mono ?_; rintro _ _ ⟨rfl, h4⟩; have hst2 := (St.call0 hst1 h4).nil; clear h4 hst1 hst; rw [or0]))
        go_roundw
        case rel => exact ⟨1, by omega, by go_num, rfl, hid (by first | trivial | (intro _; rfl) | exact HA | (intro h; exact absurd h (by decide)) | simp), hid (by first | trivial | (intro _; rfl) | (intro h; exact absurd h (by decide)) | simp), hid (by first | trivial | (intro _; rfl) | (intro h; exact absurd h (by decide)) | simp), hst2⟩
        case measure => simp [intOf]
      · have e1 : (c1 != 0) = true := by simpa using e
        have e2 := hid e; clear e
        go_wp2_with (first | go_big_skip | go_big_guard | (apply wl_bsX ([.int .i64 0, .int .i64 c1]) ([.int .i64 0, .int .i64 c1]) hst; rfl; rfl; exact rfl; exact rfl; infer_instance; infer_instance; rfl; rfl; rfl; intro g _ hst1) | (go_at_call 85; refine (or_any _ 0 c1 _ (Rd.blk0 hst1 rfl (by decide))).mono ?_; rintro _ _ ⟨rfl, h4⟩; have hst2 := (St.call0 hst1 h4).nil; clear h4 hst1 hst; rw [or0]))
        go_goals
        try rw [Exit.noGoto_ret]
        go_ret
        exact ⟨(ret_boolv (HL.out.trans (by simp [orI, e2.out]))).symm, hst2⟩
    · have e := ha.out (by omega)
      subst e
      by_cases e : c2 = 0
      · subst e
        go_wp2_with (first | go_big_skip | go_big_guard | (apply wl_bsX ([.int .i64 0, .int .i64 0]) ([.int .i64 0, .int .i64 0]) hst; rfl; rfl; exact rfl; exact rfl; infer_instance; infer_instance; rfl; rfl; rfl; intro g _ hst1) | (go_at_call 85; refine (or_any _ 0 0 _ (Rd.blk0 hst1 rfl (by decide))).mono ?_; rintro _ _ ⟨rfl, h4⟩; have hst2 := (St.call0 hst1 h4).nil; clear h4 hst1 hst; rw [or0]))
        go_roundw
        case rel => exact ⟨2, by omega, by go_num, rfl, hid (by first | trivial | (intro _; rfl) | exact HA | (intro h; exact absurd h (by decide)) | simp), hid (by first | trivial | (intro _; rfl) | (intro h; exact absurd h (by decide)) | simp), hid (by first | trivial | (intro _; rfl) | (intro h; exact absurd h (by decide)) | simp), hst2⟩
        case measure => simp [intOf]
      · have e1 : (c2 != 0) = true := by simpa using e
        have e2 := hid e; clear e
        go_wp2_with (first | go_big_skip | go_big_guard | (apply wl_bsX ([.int .i64 0, .int .i64 c2]) ([.int .i64 0, .int .i64 c2]) hst; rfl; rfl; exact rfl; exact rfl; infer_instance; infer_instance; rfl; rfl; rfl; intro g _ hst1) | (go_at_call 85; refine (or_any _ 0 c2 _ (Rd.blk0 hst1 rfl (by decide))).mono ?_; rintro _ _ ⟨rfl, h4⟩; have hst2 := (St.call0 hst1 h4).nil; clear h4 hst1 hst; rw [or0]))
        go_goals
        try rw [Exit.noGoto_ret]
        go_ret
        exact ⟨(ret_boolv (HL.out.trans (by simp [orI, e2.out]))).symm, hst2⟩
    · have e := ha.out (by omega)
      subst e
      have e := hb.out (by omega)
      subst e
      by_cases e : c3 = 0
      · subst e
        go_wp2_with (first | go_big_skip | go_big_guard | (apply wl_bsX ([.int .i64 0, .int .i64 0]) ([.int .i64 0, .int .i64 0]) hst; rfl; rfl; exact rfl; exact rfl; infer_instance; infer_instance; rfl; rfl; rfl; intro g _ hst1) | (go_at_call 85; refine (or_any _ 0 0 _ (Rd.blk0 hst1 rfl (by decide))).mono ?_; rintro _ _ ⟨rfl, h4⟩; have hst2 := (St.call0 hst1 h4).nil; clear h4 hst1 hst; rw [or0]))
        go_roundw
        case rel => exact ⟨3, by omega, by go_num, rfl, hid (by first | trivial | (intro _; rfl) | exact HA | (intro h; exact absurd h (by decide)) | simp), hid (by first | trivial | (intro _; rfl) | (intro h; exact absurd h (by decide)) | simp), hid (by first | trivial | (intro _; rfl) | (intro h; exact absurd h (by decide)) | simp), hst2⟩
        case measure => simp [intOf]
      · have e1 : (c3 != 0) = true := by simpa using e
        have e2 := hid e; clear e
        go_wp2_with (first | go_big_skip | go_big_guard | (apply wl_bsX ([.int .i64 0, .int .i64 c3]) ([.int .i64 0, .int .i64 c3]) hst; rfl; rfl; exact rfl; exact rfl; infer_instance; infer_instance; rfl; rfl; rfl; intro g _ hst1) | (go_at_call 85; refine (or_any _ 0 c3 _ (Rd.blk0 hst1 rfl (by decide))).mono ?_; rintro _ _ ⟨rfl, h4⟩; have hst2 := (St.call0 hst1 h4).nil; clear h4 hst1 hst; rw [or0]))
        go_goals
        try rw [Exit.noGoto_ret]
        go_ret
        exact ⟨(ret_boolv (HL.out.trans (by simp [orI, e2.out]))).symm, hst2⟩
    · have e := ha.out (by omega)
      subst e
      have e := hb.out (by omega)
      subst e
      have e := hc.out (by omega)
      subst e
      go_wp2_with (first | go_big_skip | go_big_guard | fail)
      go_goals
      try rw [Exit.noGoto_ret]
      go_ret
      exact ⟨(ret_boolv (HL.out.trans (by simp [orI]))).symm, hst⟩
end Go.Proofs.Ytifajcblbedcoaa
namespace Go.Proofs.Ytifajcblbedcoaa
set_option linter.unusedVariables false
set_option linter.unusedSimpArgs false
open Go.RowKit Hp
attribute [local irreducible] Go.Calls
set_option maxHeartbeats 1000000
theorem bytesLess_lt : ∀ (x y : List UInt8), Op.bytesLess x y = decide (x < y)
  | [], [] => by simp [Op.bytesLess]
  | _ :: _, [] => by simp [Op.bytesLess]
  | [], _ :: _ => by simp [Op.bytesLess]
  | a :: x, b :: y => by
    rw [Op.bytesLess, bytesLess_lt x y]
    simp only [List.cons_lt_cons_iff]
    by_cases h1 : a < b <;> by_cases h2 : a = b <;> by_cases h3 : x < y <;> simp [h1, h2, h3]
theorem bl (a b : List UInt8) : Op.bytesLess a b = decide (Lib.compareBytes a b < 0) := by
  rw [bytesLess_lt, Bool.eq_iff_iff]; simp [cb_lt]
theorem ref_val {p q a b a' b' : List UInt8} {f f' : Bool} (hx : cutL p = (a, b, f)) (hy : cutL q = (a', b', f')) :
    lessL p q = if a = a' then (if (!f || !f') then (!f && f') else Op.bytesLess b b') else Op.bytesLess a a' := by
  simp only [bl, lessL, cmp3, hx, hy]
  by_cases h : a = a'
  · subst h
    rw [if_pos rfl]
    cases f <;> cases f'
    · have h1 := (cutL_false (l := p) (by rw [hx])).2
      have h2 := (cutL_false (l := q) (by rw [hy])).2
      rw [hx] at h1; rw [hy] at h2
      simp only at h1 h2
      simp [cb_self, orI, ordL, h1, h2]
    · simp [cb_self, orI, ordL, Lib.compareBytes]
    · simp [cb_self, orI, ordL, Lib.compareBytes]
    · simp [cb_self, orI]
  · rw [if_neg h]
    have : Lib.compareBytes a a' ≠ 0 := fun e => h (cb_eq e)
    simp [orI, this]
end Go.Proofs.Ytifajcblbedcoaa
