/-
  Texts of this proof, joined: Shelf, CoB, CoC, CoD, TkF, TkG, TkH, TkI, TkJ.
  Conditions: none.
-/
import Derived.Shelf.Strings.Builder1
import Derived.Shelf.Strings.Builder2
import Derived.Shelf.Strings.OnBuilder
import Derived.Shelf.Strings.Trim
import Derived.Shelf.Small.Utf8
import Derived.Shelf.Small.Strs
import Derived.Shelf.Strings.BuilderF
import Derived.Shelf.Strings.BuilderK
import Derived.Shelf.Utf8.RuneCount
import Derived.Shelf.Strings.Builder2Cap
import Derived.Shelf.Strconv.Itoa0
import Derived.Shelf.Strconv.Itoa1
import Derived.Shelf.LaysM
import Derived.Shelf.Strconv.Itoa2
import Derived.Shelf.Strconv.Itoa3
import Derived.Shelf.Strings.Search1
import Derived.Shelf.Strings.Search2
import Derived.Shelf.Strings.Search3
import Derived.Shelf.Strings.Count
import Derived.Shelf.Strings.Shaped
import Derived.Shelf.GgClosure.StringsIndexFunc
import Derived.Ground.GgwProg
import Derived.Shelf.GgClosure.StringsIndexFuncTop
import Derived.Shelf.GgClosure.StringsRunes
import Derived.Shelf.Strings.Prefix
import Derived.Shelf.Strings.Split
import Derived.Shelf.Strings.Replace
import Derived.Shelf.Strings.SplitShaped
import Derived.Shelf.Unicode.Decode
import Derived.Shelf.Strings.Runes
import Derived.Shelf.Strings.RuneCount
import Derived.Shelf.Strings.AsciiSet
import Derived.Shelf.Strings.Explode
import Derived.Shelf.Bits.Mul64
import Derived.Shelf.Strings.Repeat
import Derived.Shelf.Unicode.DecodeSlow
import Derived.Shelf.Unicode.DecodeAny
import Derived.Shelf.Unicode.DecodeLast
import Derived.Shelf.Strings.FuncGrows
import Derived.Shelf.Strings.BuilderCap
import Derived.Shelf.Slices.Turned
import Derived.Test.YtmadddihphkmoaaGreatDoorProg
import Derived.Test.YtmadddihphkmoaaGreatDoorBb
import Derived.Lib.SmallJoins
import Derived.Lib.AppendIntMem
import Derived.Lib.SpaceUEq
import Derived.Lib.SplitLaws
import Derived.Lib.SlicesS
import Derived.Lib.IndexLaws
import Derived.Shelf.Strings.SlTrimAscii
set_option linter.unusedSimpArgs false
set_option linter.unnecessarySimpa false
set_option linter.unusedVariables false
/-
  DERIVED: THE SHELF's CONTRACTS AT THIS DUMP, IN PLAIN WORDS (tools/lay-plain.mjs out of 'TryzShelf.lean', which tools/lay-shelf.mjs wrote): THE SAME DECLARATIONS UNDER THE SAME NAMES: 'import', 'namespace', 'open', 'def', 'theorem' AND NOTHING ELSE: no command of the shelf's: FOR A HAND-IN. Each laying: the table of numbers ('.._ren') and one theorem, a field a fact of the dump's own or the kernel's comparison; each contract: ONE APPLICATION.
-/
namespace Go.Proofs
open Go.Shelf
open Go.RowKit in
open Go.RowKit in
open Go.RowKit in
open Go.RowKit in
open Go.RowKit in
open Go.RowKit in
def Tryz.lays156_ren : Go.Shelf.Ren := ⟨fun | 156 => 46 | 165 => 38 | 166 => 39 | 169 => 41 | 240 => 66 | 241 => 67 | 276 => 93 | 277 => 94 | n => n, fun | 31 => 64 | 9 => 9 | 3 => 3 | 4 => 4 | 0 => 0 | 20 => 20 | 72 => 99 | 76 => 103 | 70 => 96 | 37 => 97 | 75 => 102 | 127 => 131 | 164 => 153 | 5 => 5 | 80 => 106 | n => n, fun | n => n⟩
theorem Tryz.lays156 : Go.Proofs.Lays.n156 Tryz.prog Tryz.lays156_ren := {
  mixed := by kernel_rfl
  f156 := Tryz.func46.trans (congrArg some (by kernel_rfl))
  f165 := Tryz.func38.trans (congrArg some (by kernel_rfl))
  f166 := Tryz.func39.trans (congrArg some (by kernel_rfl))
  f169 := Tryz.func41.trans (congrArg some (by kernel_rfl))
  f240 := Tryz.func66.trans (congrArg some (by kernel_rfl))
  f241 := Tryz.func67.trans (congrArg some (by kernel_rfl))
  f276 := Tryz.func93.trans (congrArg some (by kernel_rfl))
  f277 := Tryz.func94.trans (congrArg some (by kernel_rfl))
  t0 := Tryz.underlying0
  a0 := Tryz.isAgg0
  z0 := Tryz.sizeOf0
  v0 := Tryz.zeroValue0
  t3 := Tryz.underlying3
  a3 := Tryz.isAgg3
  z3 := Tryz.sizeOf3
  v3 := Tryz.zeroValue3
  t4 := Tryz.underlying4
  a4 := Tryz.isAgg4
  z4 := Tryz.sizeOf4
  v4 := Tryz.zeroValue4
  t9 := Tryz.underlying9
  a9 := Tryz.isAgg9
  z9 := Tryz.sizeOf9
  v9 := Tryz.zeroValue9
  t20 := Tryz.underlying20
  a20 := Tryz.isAgg20
  z20 := Tryz.sizeOf20
  v20 := Tryz.zeroValue20
  t31 := Tryz.underlying64
  a31 := Tryz.isAgg64
  z31 := Tryz.sizeOf64
  v31 := Tryz.zeroValue64
  t37 := Tryz.underlying97
  a37 := Tryz.isAgg97
  z37 := Tryz.sizeOf97
  v37 := Tryz.zeroValue97
  t70 := Tryz.underlying96
  a70 := Tryz.isAgg96
  z70 := Tryz.sizeOf96
  v70 := Tryz.zeroValue96
  t72 := Tryz.underlying99
  a72 := Tryz.isAgg99
  z72 := Tryz.sizeOf99
  v72 := Tryz.zeroValue99
  t75 := Tryz.underlying102
  a75 := Tryz.isAgg102
  z75 := Tryz.sizeOf102
  v75 := Tryz.zeroValue102
  t76 := Tryz.underlying103
  a76 := Tryz.isAgg103
  z76 := Tryz.sizeOf103
  v76 := Tryz.zeroValue103
  t127 := Tryz.underlying131
  a127 := Tryz.isAgg131
  z127 := Tryz.sizeOf131
  v127 := Tryz.zeroValue131
  t164 := Tryz.underlying153
  a164 := Tryz.isAgg153
  z164 := Tryz.sizeOf153
  v164 := Tryz.zeroValue153 }
theorem Tryz.Builder_Extra_156 : Builder.Extra Tryz.prog Tryz.lays156_ren := {
  sizeBuilder := by kernel_rfl
  liesBuilder := by kernel_rfl
  t5 := Tryz.underlying5
  a5 := Tryz.isAgg5
  z5 := Tryz.sizeOf5
  v5 := Tryz.zeroValue5
  infoByte := by kernel_rfl
  cellsByte := by kernel_rfl
  sizeByte := by kernel_rfl
  neB5 := by decide }
open Go.RowKit in
/-- No element: the empty string; the world is as it was. (Whatever the slice's address and capacity: a nil slice too.) (LAID: no walk: one application.) -/
theorem Tryz.strings_Join_none (a : Option Addr) (c : Nat) (sep : ByteArray) (w : World) :
    Calls Tryz.prog 46 #[.slice a 0 c, .string sep] w fun e w' => e = .returned (.string ⟨#[]⟩) ∧ w' = w := Any.strings_Join_none Tryz.lays156 Tryz.Builder_Extra_156 a c sep w
open Go.RowKit in
/-- strings.Join: "Join concatenates the elements of its first argument to create a single string. The separator string sep is placed between elements in the resulting string.": HOWEVER MANY ELEMENTS. Below the heap's end the world is as it was. (LAID: no walk: one application.) -/
theorem Tryz.strings_Join (bk o c : Nat) (xs : List ByteArray) (sep : ByteArray) (w : World) (hcells : ∀ (j : Nat) x, xs[j]? = some x → w.cell? ⟨bk, o + j, none⟩ = some (.string x)) (hbk : bk < w.heap.size) (hN : xs.length ≤ 140737488355328) (hcap : xs.length ≤ c) (hlen : (Lib.join (xs.map (·.data.toList)) sep.data.toList).length ≤ 140737488355328) :
    Calls Tryz.prog 46 #[.slice (some ⟨bk, o, none⟩) xs.length c, .string sep] w fun e w' => e = .returned (.string ⟨(Lib.join (xs.map (·.data.toList)) sep.data.toList).toArray⟩) ∧ Below w.heap.size w w' := Any.strings_Join Tryz.lays156 Tryz.Builder_Extra_156 bk o c xs sep w hcells hbk hN hcap hlen
open Go.RowKit in
open Go.RowKit in
def Tryz.lays161_ren : Go.Shelf.Ren := ⟨fun | 161 => 52 | 231 => 78 | 227 => 79 | 233 => 80 | 235 => 81 | 228 => 101 | 197 => 99 | 151 => 102 | 260 => 116 | 152 => 121 | 137 => 127 | 119 => 128 | 224 => 119 | 225 => 118 | 217 => 117 | 266 => 125 | n => n, fun | 9 => 9 | 4 => 4 | 3 => 3 | 5 => 5 | 117 => 144 | 116 => 143 | 0 => 0 | 124 => 147 | 105 => 159 | 21 => 21 | 119 => 169 | 46 => 92 | 139 => 172 | 138 => 171 | n => n, fun | 3 => 1 | 4 => 2 | n => n⟩
theorem Tryz.lays161 : Go.Proofs.Lays.n161 Tryz.prog Tryz.lays161_ren := {
  mixed := by kernel_rfl
  f119 := Tryz.func128.trans (congrArg some (by kernel_rfl))
  f137 := Tryz.func127.trans (congrArg some (by kernel_rfl))
  f151 := Tryz.func102.trans (congrArg some (by kernel_rfl))
  f152 := Tryz.func121.trans (congrArg some (by kernel_rfl))
  f161 := Tryz.func52.trans (congrArg some (by kernel_rfl))
  f197 := Tryz.func99.trans (congrArg some (by kernel_rfl))
  f217 := Tryz.func117.trans (congrArg some (by kernel_rfl))
  f224 := Tryz.func119.trans (congrArg some (by kernel_rfl))
  f225 := Tryz.func118.trans (congrArg some (by kernel_rfl))
  f227 := Tryz.func79.trans (congrArg some (by kernel_rfl))
  f228 := Tryz.func101.trans (congrArg some (by kernel_rfl))
  f231 := Tryz.func78.trans (congrArg some (by kernel_rfl))
  f233 := Tryz.func80.trans (congrArg some (by kernel_rfl))
  f235 := Tryz.func81.trans (congrArg some (by kernel_rfl))
  f260 := Tryz.func116.trans (congrArg some (by kernel_rfl))
  f266 := Tryz.func125.trans (congrArg some (by kernel_rfl))
  t0 := Tryz.underlying0
  a0 := Tryz.isAgg0
  z0 := Tryz.sizeOf0
  v0 := Tryz.zeroValue0
  t3 := Tryz.underlying3
  a3 := Tryz.isAgg3
  z3 := Tryz.sizeOf3
  v3 := Tryz.zeroValue3
  t4 := Tryz.underlying4
  a4 := Tryz.isAgg4
  z4 := Tryz.sizeOf4
  v4 := Tryz.zeroValue4
  t5 := Tryz.underlying5
  a5 := Tryz.isAgg5
  z5 := Tryz.sizeOf5
  v5 := Tryz.zeroValue5
  t9 := Tryz.underlying9
  a9 := Tryz.isAgg9
  z9 := Tryz.sizeOf9
  v9 := Tryz.zeroValue9
  t21 := Tryz.underlying21
  a21 := Tryz.isAgg21
  z21 := Tryz.sizeOf21
  v21 := Tryz.zeroValue21
  t46 := Tryz.underlying92
  a46 := Tryz.isAgg92
  z46 := Tryz.sizeOf92
  v46 := Tryz.zeroValue92
  t105 := Tryz.underlying159
  a105 := Tryz.isAgg159
  z105 := Tryz.sizeOf159
  v105 := Tryz.zeroValue159
  t116 := Tryz.underlying143
  a116 := Tryz.isAgg143
  z116 := Tryz.sizeOf143
  t117 := Tryz.underlying144
  a117 := Tryz.isAgg144
  z117 := Tryz.sizeOf144
  v117 := Tryz.zeroValue144
  t119 := Tryz.underlying169
  a119 := Tryz.isAgg169
  z119 := Tryz.sizeOf169
  t124 := Tryz.underlying147
  a124 := Tryz.isAgg147
  z124 := Tryz.sizeOf147
  v124 := Tryz.zeroValue147
  t138 := Tryz.underlying171
  a138 := Tryz.isAgg171
  z138 := Tryz.sizeOf171
  v138 := Tryz.zeroValue171
  t139 := Tryz.underlying172
  a139 := Tryz.isAgg172
  z139 := Tryz.sizeOf172
  v139 := Tryz.zeroValue172
  g3 := by kernel_rfl
  g4 := by kernel_rfl }
open Go.RowKit in
/-- strings.TrimLeft: "TrimLeft returns a slice of the string s with all leading Unicode code points contained in cutset removed.": AT A cutset OF ONE ASCII BYTE. The world is as it was. (LAID: no walk: one application.) -/
theorem Tryz.strings_TrimLeft_one (s : ByteArray) (c : UInt8) (hc : c.toNat < 128) (w : World) :
    Calls Tryz.prog 52 #[.string s, .string ⟨#[c]⟩] w fun e w' => e = .returned (.string ⟨(Lib.trimLeftB s.data.toList c).toArray⟩) ∧ w' = w := Any.strings_TrimLeft_one Tryz.lays161 s c hc w
def Tryz.lays162_ren : Go.Shelf.Ren := ⟨fun | 162 => 82 | 232 => 103 | 227 => 79 | 234 => 104 | 236 => 105 | 228 => 101 | 271 => 122 | 151 => 102 | 120 => 129 | 197 => 99 | 152 => 121 | 260 => 116 | 137 => 127 | 119 => 128 | 224 => 119 | 225 => 118 | 217 => 117 | 266 => 125 | n => n, fun | 9 => 9 | 4 => 4 | 3 => 3 | 5 => 5 | 117 => 144 | 116 => 143 | 0 => 0 | 124 => 147 | 21 => 21 | 105 => 159 | 46 => 92 | 119 => 169 | 139 => 172 | 138 => 171 | n => n, fun | 3 => 1 | 4 => 2 | n => n⟩
theorem Tryz.lays162 : Go.Proofs.Lays.n162 Tryz.prog Tryz.lays162_ren := {
  mixed := by kernel_rfl
  f119 := Tryz.func128.trans (congrArg some (by kernel_rfl))
  f120 := Tryz.func129.trans (congrArg some (by kernel_rfl))
  f137 := Tryz.func127.trans (congrArg some (by kernel_rfl))
  f151 := Tryz.func102.trans (congrArg some (by kernel_rfl))
  f152 := Tryz.func121.trans (congrArg some (by kernel_rfl))
  f162 := Tryz.func82.trans (congrArg some (by kernel_rfl))
  f197 := Tryz.func99.trans (congrArg some (by kernel_rfl))
  f217 := Tryz.func117.trans (congrArg some (by kernel_rfl))
  f224 := Tryz.func119.trans (congrArg some (by kernel_rfl))
  f225 := Tryz.func118.trans (congrArg some (by kernel_rfl))
  f227 := Tryz.func79.trans (congrArg some (by kernel_rfl))
  f228 := Tryz.func101.trans (congrArg some (by kernel_rfl))
  f232 := Tryz.func103.trans (congrArg some (by kernel_rfl))
  f234 := Tryz.func104.trans (congrArg some (by kernel_rfl))
  f236 := Tryz.func105.trans (congrArg some (by kernel_rfl))
  f260 := Tryz.func116.trans (congrArg some (by kernel_rfl))
  f266 := Tryz.func125.trans (congrArg some (by kernel_rfl))
  f271 := Tryz.func122.trans (congrArg some (by kernel_rfl))
  t0 := Tryz.underlying0
  a0 := Tryz.isAgg0
  z0 := Tryz.sizeOf0
  v0 := Tryz.zeroValue0
  t3 := Tryz.underlying3
  a3 := Tryz.isAgg3
  z3 := Tryz.sizeOf3
  v3 := Tryz.zeroValue3
  t4 := Tryz.underlying4
  a4 := Tryz.isAgg4
  z4 := Tryz.sizeOf4
  v4 := Tryz.zeroValue4
  t5 := Tryz.underlying5
  a5 := Tryz.isAgg5
  z5 := Tryz.sizeOf5
  v5 := Tryz.zeroValue5
  t9 := Tryz.underlying9
  a9 := Tryz.isAgg9
  z9 := Tryz.sizeOf9
  v9 := Tryz.zeroValue9
  t21 := Tryz.underlying21
  a21 := Tryz.isAgg21
  z21 := Tryz.sizeOf21
  v21 := Tryz.zeroValue21
  t46 := Tryz.underlying92
  a46 := Tryz.isAgg92
  z46 := Tryz.sizeOf92
  v46 := Tryz.zeroValue92
  t105 := Tryz.underlying159
  a105 := Tryz.isAgg159
  z105 := Tryz.sizeOf159
  v105 := Tryz.zeroValue159
  t116 := Tryz.underlying143
  a116 := Tryz.isAgg143
  z116 := Tryz.sizeOf143
  t117 := Tryz.underlying144
  a117 := Tryz.isAgg144
  z117 := Tryz.sizeOf144
  v117 := Tryz.zeroValue144
  t119 := Tryz.underlying169
  a119 := Tryz.isAgg169
  z119 := Tryz.sizeOf169
  t124 := Tryz.underlying147
  a124 := Tryz.isAgg147
  z124 := Tryz.sizeOf147
  v124 := Tryz.zeroValue147
  t138 := Tryz.underlying171
  a138 := Tryz.isAgg171
  z138 := Tryz.sizeOf171
  v138 := Tryz.zeroValue171
  t139 := Tryz.underlying172
  a139 := Tryz.isAgg172
  z139 := Tryz.sizeOf172
  v139 := Tryz.zeroValue172
  g3 := by kernel_rfl
  g4 := by kernel_rfl }
open Go.RowKit in
/-- strings.TrimRight: "TrimRight returns a slice of the string s, with all trailing Unicode code points contained in cutset removed.": AT A cutset OF ONE ASCII BYTE. The world is as it was. (LAID: no walk: one application.) -/
theorem Tryz.strings_TrimRight_one (s : ByteArray) (c : UInt8) (hc : c.toNat < 128) (w : World) (hs : s.size ≤ 9223372036854775807) :
    Calls Tryz.prog 82 #[.string s, .string ⟨#[c]⟩] w fun e w' => e = .returned (.string ⟨(Lib.trimRightB s.data.toList c).toArray⟩) ∧ w' = w := Any.strings_TrimRight_one Tryz.lays162 s c hc w hs
def Tryz.lays160_ren : Go.Shelf.Ren := ⟨fun | 160 => 114 | 232 => 103 | 231 => 78 | 227 => 79 | 234 => 104 | 233 => 80 | 236 => 105 | 235 => 81 | 228 => 101 | 271 => 122 | 151 => 102 | 197 => 99 | 120 => 129 | 152 => 121 | 260 => 116 | 137 => 127 | 119 => 128 | 224 => 119 | 225 => 118 | 217 => 117 | 266 => 125 | n => n, fun | 9 => 9 | 4 => 4 | 3 => 3 | 5 => 5 | 117 => 144 | 116 => 143 | 0 => 0 | 124 => 147 | 21 => 21 | 105 => 159 | 46 => 92 | 119 => 169 | 139 => 172 | 138 => 171 | n => n, fun | 3 => 1 | 4 => 2 | n => n⟩
theorem Tryz.lays160 : Go.Proofs.Lays.n160 Tryz.prog Tryz.lays160_ren := {
  mixed := by kernel_rfl
  f119 := Tryz.func128.trans (congrArg some (by kernel_rfl))
  f120 := Tryz.func129.trans (congrArg some (by kernel_rfl))
  f137 := Tryz.func127.trans (congrArg some (by kernel_rfl))
  f151 := Tryz.func102.trans (congrArg some (by kernel_rfl))
  f152 := Tryz.func121.trans (congrArg some (by kernel_rfl))
  f160 := Tryz.func114.trans (congrArg some (by kernel_rfl))
  f197 := Tryz.func99.trans (congrArg some (by kernel_rfl))
  f217 := Tryz.func117.trans (congrArg some (by kernel_rfl))
  f224 := Tryz.func119.trans (congrArg some (by kernel_rfl))
  f225 := Tryz.func118.trans (congrArg some (by kernel_rfl))
  f227 := Tryz.func79.trans (congrArg some (by kernel_rfl))
  f228 := Tryz.func101.trans (congrArg some (by kernel_rfl))
  f231 := Tryz.func78.trans (congrArg some (by kernel_rfl))
  f232 := Tryz.func103.trans (congrArg some (by kernel_rfl))
  f233 := Tryz.func80.trans (congrArg some (by kernel_rfl))
  f234 := Tryz.func104.trans (congrArg some (by kernel_rfl))
  f235 := Tryz.func81.trans (congrArg some (by kernel_rfl))
  f236 := Tryz.func105.trans (congrArg some (by kernel_rfl))
  f260 := Tryz.func116.trans (congrArg some (by kernel_rfl))
  f266 := Tryz.func125.trans (congrArg some (by kernel_rfl))
  f271 := Tryz.func122.trans (congrArg some (by kernel_rfl))
  t0 := Tryz.underlying0
  a0 := Tryz.isAgg0
  z0 := Tryz.sizeOf0
  v0 := Tryz.zeroValue0
  t3 := Tryz.underlying3
  a3 := Tryz.isAgg3
  z3 := Tryz.sizeOf3
  v3 := Tryz.zeroValue3
  t4 := Tryz.underlying4
  a4 := Tryz.isAgg4
  z4 := Tryz.sizeOf4
  v4 := Tryz.zeroValue4
  t5 := Tryz.underlying5
  a5 := Tryz.isAgg5
  z5 := Tryz.sizeOf5
  v5 := Tryz.zeroValue5
  t9 := Tryz.underlying9
  a9 := Tryz.isAgg9
  z9 := Tryz.sizeOf9
  v9 := Tryz.zeroValue9
  t21 := Tryz.underlying21
  a21 := Tryz.isAgg21
  z21 := Tryz.sizeOf21
  v21 := Tryz.zeroValue21
  t46 := Tryz.underlying92
  a46 := Tryz.isAgg92
  z46 := Tryz.sizeOf92
  v46 := Tryz.zeroValue92
  t105 := Tryz.underlying159
  a105 := Tryz.isAgg159
  z105 := Tryz.sizeOf159
  v105 := Tryz.zeroValue159
  t116 := Tryz.underlying143
  a116 := Tryz.isAgg143
  z116 := Tryz.sizeOf143
  t117 := Tryz.underlying144
  a117 := Tryz.isAgg144
  z117 := Tryz.sizeOf144
  v117 := Tryz.zeroValue144
  t119 := Tryz.underlying169
  a119 := Tryz.isAgg169
  z119 := Tryz.sizeOf169
  t124 := Tryz.underlying147
  a124 := Tryz.isAgg147
  z124 := Tryz.sizeOf147
  v124 := Tryz.zeroValue147
  t138 := Tryz.underlying171
  a138 := Tryz.isAgg171
  z138 := Tryz.sizeOf171
  v138 := Tryz.zeroValue171
  t139 := Tryz.underlying172
  a139 := Tryz.isAgg172
  z139 := Tryz.sizeOf172
  v139 := Tryz.zeroValue172
  g3 := by kernel_rfl
  g4 := by kernel_rfl }
open Go.RowKit in
open Go.RowKit in
open Go.RowKit in
open Go.RowKit in
open Go.RowKit in
open Go.RowKit in
open Go.RowKit in
open Go.RowKit in
open Go.RowKit in
open Go.RowKit in
open Go.RowKit in
open Go.RowKit in
open Go.Lib in
open Go.Lib in
open Go.Lib in
open Go.Lib in
open Go.RowKit Go.Sort Go.Lib in
def Tryz.laysM246_ren : Go.Shelf.Ren := ⟨fun | 246 => 124 | 283 => 131 | 284 => 132 | 285 => 133 | 286 => 134 | 129 => 136 | 317 => 135 | 318 => 137 | 319 => 138 | 320 => 139 | 337 => 140 | 338 => 141 | n => n, fun | 2 => 2 | 3 => 3 | 9 => 9 | 4 => 4 | 171 => 175 | 0 => 0 | 53 => 128 | 37 => 97 | 5 => 5 | 173 => 178 | 212 => 181 | 51 => 125 | 20 => 20 | 213 => 182 | 46 => 92 | 232 => 186 | 233 => 187 | n => n, fun | 17 => 3 | 18 => 4 | 19 => 5 | n => n⟩
open Go.RowKit Go.Sort Go.Lib in
open Go.RowKit Go.Sort Go.Lib in
def Tryz.laysM243_ren : Go.Shelf.Ren := ⟨fun | 243 => 115 | 246 => 124 | 283 => 131 | 284 => 132 | 285 => 133 | 286 => 134 | 129 => 136 | 317 => 135 | 318 => 137 | 319 => 138 | 320 => 139 | 337 => 140 | 338 => 141 | n => n, fun | 3 => 3 | 9 => 9 | 2 => 2 | 4 => 4 | 171 => 175 | 0 => 0 | 53 => 128 | 37 => 97 | 5 => 5 | 173 => 178 | 212 => 181 | 51 => 125 | 20 => 20 | 213 => 182 | 46 => 92 | 232 => 186 | 233 => 187 | n => n, fun | 17 => 3 | 18 => 4 | 19 => 5 | n => n⟩
open Go.RowKit Go.Sort Go.Lib in
open Go.RowKit Go.Sort Go.Lib in
def Tryz.laysM171_ren : Go.Shelf.Ren := ⟨fun | 171 => 97 | 243 => 115 | 246 => 124 | 283 => 131 | 284 => 132 | 285 => 133 | 286 => 134 | 129 => 136 | 317 => 135 | 318 => 137 | 319 => 138 | 320 => 139 | 337 => 140 | 338 => 141 | n => n, fun | 3 => 3 | 9 => 9 | 2 => 2 | 4 => 4 | 171 => 175 | 0 => 0 | 53 => 128 | 37 => 97 | 5 => 5 | 173 => 178 | 212 => 181 | 51 => 125 | 20 => 20 | 213 => 182 | 46 => 92 | 232 => 186 | 233 => 187 | n => n, fun | 17 => 3 | 18 => 4 | 19 => 5 | n => n⟩
theorem Tryz.laysM171 : Go.Proofs.LaysM.n171 Tryz.prog Tryz.laysM171_ren := {
  mixed := by kernel_rfl
  f129 := Tryz.func136.trans (congrArg some (by kernel_rfl))
  f171 := Tryz.func97.trans (congrArg some (by kernel_rfl))
  f243 := Tryz.func115.trans (congrArg some (by kernel_rfl))
  f246 := Tryz.func124.trans (congrArg some (by kernel_rfl))
  f283 := Tryz.func131.trans (congrArg some (by kernel_rfl))
  f284 := Tryz.func132.trans (congrArg some (by kernel_rfl))
  f285 := Tryz.func133.trans (congrArg some (by kernel_rfl))
  f286 := Tryz.func134.trans (congrArg some (by kernel_rfl))
  f317 := Tryz.func135.trans (congrArg some (by kernel_rfl))
  f318 := Tryz.func137.trans (congrArg some (by kernel_rfl))
  f319 := Tryz.func138.trans (congrArg some (by kernel_rfl))
  f320 := Tryz.func139.trans (congrArg some (by kernel_rfl))
  f337 := Tryz.func140.trans (congrArg some (by kernel_rfl))
  f338 := Tryz.func141.trans (congrArg some (by kernel_rfl))
  t0 := Tryz.underlying0
  a0 := Tryz.isAgg0
  z0 := Tryz.sizeOf0
  v0 := Tryz.zeroValue0
  t2 := Tryz.underlying2
  a2 := Tryz.isAgg2
  z2 := Tryz.sizeOf2
  v2 := Tryz.zeroValue2
  t3 := Tryz.underlying3
  a3 := Tryz.isAgg3
  z3 := Tryz.sizeOf3
  v3 := Tryz.zeroValue3
  t4 := Tryz.underlying4
  a4 := Tryz.isAgg4
  z4 := Tryz.sizeOf4
  v4 := Tryz.zeroValue4
  t5 := Tryz.underlying5
  a5 := Tryz.isAgg5
  z5 := Tryz.sizeOf5
  v5 := Tryz.zeroValue5
  t9 := Tryz.underlying9
  a9 := Tryz.isAgg9
  z9 := Tryz.sizeOf9
  v9 := Tryz.zeroValue9
  t20 := Tryz.underlying20
  a20 := Tryz.isAgg20
  z20 := Tryz.sizeOf20
  v20 := Tryz.zeroValue20
  t37 := Tryz.underlying97
  a37 := Tryz.isAgg97
  z37 := Tryz.sizeOf97
  v37 := Tryz.zeroValue97
  t46 := Tryz.underlying92
  a46 := Tryz.isAgg92
  z46 := Tryz.sizeOf92
  v46 := Tryz.zeroValue92
  t51 := Tryz.underlying125
  a51 := Tryz.isAgg125
  z51 := Tryz.sizeOf125
  v51 := Tryz.zeroValue125
  t53 := Tryz.underlying128
  a53 := Tryz.isAgg128
  z53 := Tryz.sizeOf128
  v53 := Tryz.zeroValue128
  t171 := Tryz.underlying175
  a171 := Tryz.isAgg175
  z171 := Tryz.sizeOf175
  v171 := Tryz.zeroValue175
  t173 := Tryz.underlying178
  a173 := Tryz.isAgg178
  z173 := Tryz.sizeOf178
  v173 := Tryz.zeroValue178
  t212 := Tryz.underlying181
  a212 := Tryz.isAgg181
  z212 := Tryz.sizeOf181
  v212 := Tryz.zeroValue181
  t213 := Tryz.underlying182
  a213 := Tryz.isAgg182
  z213 := Tryz.sizeOf182
  t232 := Tryz.underlying186
  a232 := Tryz.isAgg186
  z232 := Tryz.sizeOf186
  v232 := Tryz.zeroValue186
  t233 := Tryz.underlying187
  a233 := Tryz.isAgg187
  z233 := Tryz.sizeOf187
  v233 := Tryz.zeroValue187
  g17 := by kernel_rfl
  g18 := by kernel_rfl
  g19 := by kernel_rfl
  i0 := by kernel_rfl
  i2 := by kernel_rfl
  i3 := by kernel_rfl
  i4 := by kernel_rfl
  i5 := by kernel_rfl
  i9 := by kernel_rfl
  i20 := by kernel_rfl
  i37 := by kernel_rfl
  i46 := by kernel_rfl
  i51 := by kernel_rfl
  i53 := by kernel_rfl
  i171 := by kernel_rfl
  i173 := by kernel_rfl
  i212 := by kernel_rfl
  i232 := by kernel_rfl
  i233 := by kernel_rfl
  m17 := by kernel_rfl
  m18 := by kernel_rfl
  m19 := by kernel_rfl }
open Go.RowKit Go.Sort Go.Lib in
/-- strconv.Itoa: "Itoa is equivalent to FormatInt(int64(i), 10).": i's DECIMAL NUMERAL ('Lib.itoa': a '-' where i is negative, then the digits), FOR EVERY int. The world behind the call: the world before it, new blocks behind the heap (the library's 'var a [24]byte'), draws. (LAID: no walk: one application.) -/
theorem Tryz.strconv_Itoa (n : Int) (h0 : -9223372036854775808 ≤ n) (h1 : n ≤ 9223372036854775807) (w : World) (htab : Lib.TabIs Tryz.prog w "internal/strconv.uint64pow10" .u64 Lib.pow10Tab) :
    Calls Tryz.prog 97 #[.int .i64 n] w fun e w' => e = .returned (.string ⟨(Lib.itoa n).toArray⟩) ∧ ∃ k os, w' = grow (w.drewN k) os := Any.strconv_Itoa Tryz.laysM171 n h0 h1 w htab
open Go.RowKit Go.Sort Go.Lib in
open Go.RowKit Go.Lib in
open Go.RowKit Go.Lib in
open Go.RowKit Go.Lib in
open Go.RowKit Go.Lib in
def Tryz.lays219_ren : Go.Shelf.Ren := ⟨fun | 219 => 100 | 217 => 117 | 225 => 118 | 224 => 119 | 267 => 120 | 266 => 125 | 314 => 126 | n => n, fun | 9 => 9 | 3 => 3 | 4 => 4 | 5 => 5 | 46 => 92 | 146 => 126 | 51 => 125 | n => n, fun | 1 => 0 | n => n⟩
open Go.RowKit Go.Lib in
open Go.RowKit Go.Lib in
open Go.RowKit Go.Lib in
open Go.RowKit Go.Lib in
def Tryz.lays144_ren : Go.Shelf.Ren := ⟨fun | 144 => 111 | 143 => 75 | 219 => 100 | 217 => 117 | 225 => 118 | 224 => 119 | 267 => 120 | 266 => 125 | 314 => 126 | n => n, fun | 9 => 9 | 4 => 4 | 3 => 3 | 5 => 5 | 46 => 92 | 146 => 126 | 51 => 125 | n => n, fun | 1 => 0 | n => n⟩
theorem Tryz.lays144 : Go.Proofs.Lays.n144 Tryz.prog Tryz.lays144_ren := {
  mixed := by kernel_rfl
  f143 := Tryz.func75.trans (congrArg some (by kernel_rfl))
  f144 := Tryz.func111.trans (congrArg some (by kernel_rfl))
  f217 := Tryz.func117.trans (congrArg some (by kernel_rfl))
  f219 := Tryz.func100.trans (congrArg some (by kernel_rfl))
  f224 := Tryz.func119.trans (congrArg some (by kernel_rfl))
  f225 := Tryz.func118.trans (congrArg some (by kernel_rfl))
  f266 := Tryz.func125.trans (congrArg some (by kernel_rfl))
  f267 := Tryz.func120.trans (congrArg some (by kernel_rfl))
  f314 := Tryz.func126.trans (congrArg some (by kernel_rfl))
  t3 := Tryz.underlying3
  a3 := Tryz.isAgg3
  z3 := Tryz.sizeOf3
  v3 := Tryz.zeroValue3
  t4 := Tryz.underlying4
  a4 := Tryz.isAgg4
  z4 := Tryz.sizeOf4
  v4 := Tryz.zeroValue4
  t5 := Tryz.underlying5
  a5 := Tryz.isAgg5
  z5 := Tryz.sizeOf5
  v5 := Tryz.zeroValue5
  t9 := Tryz.underlying9
  a9 := Tryz.isAgg9
  z9 := Tryz.sizeOf9
  v9 := Tryz.zeroValue9
  t46 := Tryz.underlying92
  a46 := Tryz.isAgg92
  z46 := Tryz.sizeOf92
  v46 := Tryz.zeroValue92
  t51 := Tryz.underlying125
  a51 := Tryz.isAgg125
  z51 := Tryz.sizeOf125
  v51 := Tryz.zeroValue125
  t146 := Tryz.underlying126
  a146 := Tryz.isAgg126
  z146 := Tryz.sizeOf126
  v146 := Tryz.zeroValue126
  g1 := by kernel_rfl }
open Go.RowKit Go.Lib in
/-- strings.Contains: "Contains reports whether substr is within s.": AT A substr OF ONE BYTE c: IT RETURNS 'decide (0 ≤ Lib.indexByte s c)'; the world is as it was. (LAID: no walk: one application.) -/
theorem Tryz.strings_Contains_one (s : ByteArray) (c : UInt8) (w : World) :
    Calls Tryz.prog 111 #[.string s, .string ⟨#[c]⟩] w fun e w' => e = .returned (.bool (decide (0 ≤ Lib.indexByte s.data.toList c))) ∧ w' = w := Any.strings_Contains_one Tryz.lays144 s c w
open Go.RowKit Go.Lib in
def Tryz.lays138_ren : Go.Shelf.Ren := ⟨fun | 138 => 70 | 195 => 95 | 218 => 96 | 143 => 75 | 219 => 100 | 217 => 117 | 225 => 118 | 224 => 119 | 267 => 120 | 266 => 125 | 314 => 126 | n => n, fun | 9 => 9 | 3 => 3 | 4 => 4 | 5 => 5 | 0 => 0 | 46 => 92 | 146 => 126 | 51 => 125 | n => n, fun | 1 => 0 | n => n⟩
theorem Tryz.lays138 : Go.Proofs.Lays.n138 Tryz.prog Tryz.lays138_ren := {
  mixed := by kernel_rfl
  f138 := Tryz.func70.trans (congrArg some (by kernel_rfl))
  f143 := Tryz.func75.trans (congrArg some (by kernel_rfl))
  f195 := Tryz.func95.trans (congrArg some (by kernel_rfl))
  f217 := Tryz.func117.trans (congrArg some (by kernel_rfl))
  f218 := Tryz.func96.trans (congrArg some (by kernel_rfl))
  f219 := Tryz.func100.trans (congrArg some (by kernel_rfl))
  f224 := Tryz.func119.trans (congrArg some (by kernel_rfl))
  f225 := Tryz.func118.trans (congrArg some (by kernel_rfl))
  f266 := Tryz.func125.trans (congrArg some (by kernel_rfl))
  f267 := Tryz.func120.trans (congrArg some (by kernel_rfl))
  f314 := Tryz.func126.trans (congrArg some (by kernel_rfl))
  t0 := Tryz.underlying0
  a0 := Tryz.isAgg0
  z0 := Tryz.sizeOf0
  v0 := Tryz.zeroValue0
  t3 := Tryz.underlying3
  a3 := Tryz.isAgg3
  z3 := Tryz.sizeOf3
  v3 := Tryz.zeroValue3
  t4 := Tryz.underlying4
  a4 := Tryz.isAgg4
  z4 := Tryz.sizeOf4
  v4 := Tryz.zeroValue4
  t5 := Tryz.underlying5
  a5 := Tryz.isAgg5
  z5 := Tryz.sizeOf5
  v5 := Tryz.zeroValue5
  t9 := Tryz.underlying9
  a9 := Tryz.isAgg9
  z9 := Tryz.sizeOf9
  v9 := Tryz.zeroValue9
  t46 := Tryz.underlying92
  a46 := Tryz.isAgg92
  z46 := Tryz.sizeOf92
  v46 := Tryz.zeroValue92
  t51 := Tryz.underlying125
  a51 := Tryz.isAgg125
  z51 := Tryz.sizeOf125
  v51 := Tryz.zeroValue125
  t146 := Tryz.underlying126
  a146 := Tryz.isAgg126
  z146 := Tryz.sizeOf126
  v146 := Tryz.zeroValue126
  g1 := by kernel_rfl }
open Go.RowKit Go.Lib in
/-- strings.Count AT A substr OF ONE BYTE ('hp'): "Count counts the number of non-overlapping instances of substr in s.": IT RETURNS 'Lib.countByte s (that byte)'; the world is as it was. ✋ NO CONTRACT HERE YET at an empty substr (utf8.RuneCountInString) or at a longer one (a loop over strings.Index). (LAID: no walk: one application.) -/
theorem Tryz.strings_Count_one (s : ByteArray) (c : UInt8) (w : World) :
    Calls Tryz.prog 70 #[.string s, .string ⟨#[c]⟩] w fun e w' => e = .returned (.int .i64 (Lib.countByte s.data.toList c)) ∧ w' = w := Any.strings_Count_one Tryz.lays138 s c w
open Go.RowKit Go.Lib in
open Go.RowKit Go.Lib in
open Go.RowKit Go.Lib in
open Go.RowKit Go.Lib in
open Go.RowKit Go.Lib in
open Go.RowKit Go.Lib in
def Tryz.laysGw15_ren : Go.Shelf.Ren := ⟨fun | 15 => 50 | 20 => 77 | n => n, fun | 9 => 9 | 23 => 115 | 3 => 3 | 4 => 4 | 0 => 0 | 21 => 21 | n => n, fun | n => n⟩
theorem Tryz.laysGw15 : Go.Proofs.LaysGw.n15 Tryz.prog Tryz.laysGw15_ren := {
  mixed := by kernel_rfl
  f15 := Tryz.func50.trans (congrArg some (by kernel_rfl))
  f20 := Tryz.func77.trans (congrArg some (by kernel_rfl))
  t0 := Tryz.underlying0
  a0 := Tryz.isAgg0
  z0 := Tryz.sizeOf0
  v0 := Tryz.zeroValue0
  i0 := by kernel_rfl
  t3 := Tryz.underlying3
  a3 := Tryz.isAgg3
  z3 := Tryz.sizeOf3
  v3 := Tryz.zeroValue3
  i3 := by kernel_rfl
  t4 := Tryz.underlying4
  a4 := Tryz.isAgg4
  z4 := Tryz.sizeOf4
  v4 := Tryz.zeroValue4
  i4 := by kernel_rfl
  t9 := Tryz.underlying9
  a9 := Tryz.isAgg9
  z9 := Tryz.sizeOf9
  v9 := Tryz.zeroValue9
  i9 := by kernel_rfl
  t21 := Tryz.underlying21
  a21 := Tryz.isAgg21
  z21 := Tryz.sizeOf21
  v21 := Tryz.zeroValue21
  i21 := by kernel_rfl
  t23 := Tryz.underlying115
  a23 := Tryz.isAgg115
  z23 := Tryz.sizeOf115
  v23 := Tryz.zeroValue115
  i23 := by kernel_rfl }
open Go.RowKit Go.Lib in
open Go.RowKit Go.Lib in
open Go.RowKit Go.Lib in
theorem Tryz.strings_IndexFunc_runes (g : Nat) (lb : Array Value) (eg : ∀ args w, (callFunc g args).run Tryz.prog w = .ok (.enter g args) w) (p : Nat → Bool) (s : ByteArray) (w : World) (hp : PredAtRunes Tryz.prog g lb p w) :
    Calls Tryz.prog 50 #[.string s, .func (.func g) #[] lb] w fun e w' => e = .returned (.int .i64 (Lib.idxFunc p true s)) ∧ Below w.heap.size w w' := Any.strings_IndexFunc_runes Tryz.laysGw15 g lb eg p s w hp
def Tryz.lays206_ren : Go.Shelf.Ren := ⟨fun | 206 => 65 | n => n, fun | 9 => 9 | 4 => 4 | 3 => 3 | n => n, fun | n => n⟩
open Go.RowKit Go.Lib in
def Tryz.lays99_ren : Go.Shelf.Ren := ⟨fun | 99 => 37 | 206 => 65 | n => n, fun | 9 => 9 | 4 => 4 | 3 => 3 | n => n, fun | n => n⟩
theorem Tryz.lays99 : Go.Proofs.Lays.n99 Tryz.prog Tryz.lays99_ren := {
  mixed := by kernel_rfl
  f99 := Tryz.func37.trans (congrArg some (by kernel_rfl))
  f206 := Tryz.func65.trans (congrArg some (by kernel_rfl))
  t3 := Tryz.underlying3
  a3 := Tryz.isAgg3
  z3 := Tryz.sizeOf3
  v3 := Tryz.zeroValue3
  t4 := Tryz.underlying4
  a4 := Tryz.isAgg4
  z4 := Tryz.sizeOf4
  v4 := Tryz.zeroValue4
  t9 := Tryz.underlying9
  a9 := Tryz.isAgg9
  z9 := Tryz.sizeOf9
  v9 := Tryz.zeroValue9 }
open Go.RowKit Go.Lib in
/-- strings.HasPrefix: "HasPrefix reports whether the string s begins with prefix.": IT RETURNS 'Lib.hasPrefix s prefix'; the world is as it was. (LAID: no walk: one application.) -/
theorem Tryz.strings_HasPrefix (s p : ByteArray) (w : World) :
    Calls Tryz.prog 37 #[.string s, .string p] w fun e w' => e = .returned (.bool (Lib.hasPrefix s.data.toList p.data.toList)) ∧ w' = w := Any.strings_HasPrefix Tryz.lays99 s p w
open Go.RowKit Go.Lib in
open Go.RowKit Go.Lib in
def Tryz.lays102_ren : Go.Shelf.Ren := ⟨fun | 102 => 24 | 209 => 48 | 207 => 76 | n => n, fun | 9 => 9 | 4 => 4 | 3 => 3 | n => n, fun | n => n⟩
theorem Tryz.lays102 : Go.Proofs.Lays.n102 Tryz.prog Tryz.lays102_ren := {
  mixed := by kernel_rfl
  f102 := Tryz.func24.trans (congrArg some (by kernel_rfl))
  f207 := Tryz.func76.trans (congrArg some (by kernel_rfl))
  f209 := Tryz.func48.trans (congrArg some (by kernel_rfl))
  t3 := Tryz.underlying3
  a3 := Tryz.isAgg3
  z3 := Tryz.sizeOf3
  v3 := Tryz.zeroValue3
  t4 := Tryz.underlying4
  a4 := Tryz.isAgg4
  z4 := Tryz.sizeOf4
  v4 := Tryz.zeroValue4
  t9 := Tryz.underlying9
  a9 := Tryz.isAgg9
  z9 := Tryz.sizeOf9
  v9 := Tryz.zeroValue9 }
open Go.RowKit Go.Lib in
/-- strings.TrimSuffix: "TrimSuffix returns s without the provided trailing suffix string. If s doesn't end with suffix, s is returned unchanged.": IT RETURNS 'Lib.trimSuffix s suffix'; the world is as it was. (LAID: no walk: one application.) -/
theorem Tryz.strings_TrimSuffix (s p : ByteArray) (w : World) (hs : s.size ≤ 9223372036854775807) :
    Calls Tryz.prog 24 #[.string s, .string p] w fun e w' => e = .returned (.string ⟨(Lib.trimSuffix s.data.toList p.data.toList).toArray⟩) ∧ w' = w := Any.strings_TrimSuffix Tryz.lays102 s p w hs
open Go.RowKit Go.Lib in
def Tryz.lays221_ren : Go.Shelf.Ren := ⟨fun | 221 => 47 | 268 => 74 | 138 => 70 | 143 => 75 | 195 => 95 | 197 => 99 | 218 => 96 | 219 => 100 | 260 => 116 | 217 => 117 | 225 => 118 | 224 => 119 | 267 => 120 | 266 => 125 | 314 => 126 | n => n, fun | 9 => 9 | 3 => 3 | 31 => 64 | 4 => 4 | 0 => 0 | 105 => 159 | 21 => 21 | 5 => 5 | 46 => 92 | 119 => 169 | 139 => 172 | 138 => 171 | 146 => 126 | 51 => 125 | n => n, fun | 1 => 0 | 3 => 1 | 4 => 2 | n => n⟩
open Go.RowKit Go.Lib in
def Tryz.lays146_ren : Go.Shelf.Ren := ⟨fun | 146 => 23 | 221 => 47 | 268 => 74 | 138 => 70 | 143 => 75 | 195 => 95 | 197 => 99 | 218 => 96 | 219 => 100 | 260 => 116 | 217 => 117 | 225 => 118 | 224 => 119 | 267 => 120 | 266 => 125 | 314 => 126 | n => n, fun | 9 => 9 | 31 => 64 | 3 => 3 | 4 => 4 | 0 => 0 | 105 => 159 | 21 => 21 | 5 => 5 | 46 => 92 | 119 => 169 | 139 => 172 | 138 => 171 | 146 => 126 | 51 => 125 | n => n, fun | 1 => 0 | 3 => 1 | 4 => 2 | n => n⟩
theorem Tryz.lays146 : Go.Proofs.Lays.n146 Tryz.prog Tryz.lays146_ren := {
  mixed := by kernel_rfl
  f138 := Tryz.func70.trans (congrArg some (by kernel_rfl))
  f143 := Tryz.func75.trans (congrArg some (by kernel_rfl))
  f146 := Tryz.func23.trans (congrArg some (by kernel_rfl))
  f195 := Tryz.func95.trans (congrArg some (by kernel_rfl))
  f197 := Tryz.func99.trans (congrArg some (by kernel_rfl))
  f217 := Tryz.func117.trans (congrArg some (by kernel_rfl))
  f218 := Tryz.func96.trans (congrArg some (by kernel_rfl))
  f219 := Tryz.func100.trans (congrArg some (by kernel_rfl))
  f221 := Tryz.func47.trans (congrArg some (by kernel_rfl))
  f224 := Tryz.func119.trans (congrArg some (by kernel_rfl))
  f225 := Tryz.func118.trans (congrArg some (by kernel_rfl))
  f260 := Tryz.func116.trans (congrArg some (by kernel_rfl))
  f266 := Tryz.func125.trans (congrArg some (by kernel_rfl))
  f267 := Tryz.func120.trans (congrArg some (by kernel_rfl))
  f268 := Tryz.func74.trans (congrArg some (by kernel_rfl))
  f314 := Tryz.func126.trans (congrArg some (by kernel_rfl))
  t0 := Tryz.underlying0
  a0 := Tryz.isAgg0
  z0 := Tryz.sizeOf0
  v0 := Tryz.zeroValue0
  t3 := Tryz.underlying3
  a3 := Tryz.isAgg3
  z3 := Tryz.sizeOf3
  v3 := Tryz.zeroValue3
  t4 := Tryz.underlying4
  a4 := Tryz.isAgg4
  z4 := Tryz.sizeOf4
  v4 := Tryz.zeroValue4
  t5 := Tryz.underlying5
  a5 := Tryz.isAgg5
  z5 := Tryz.sizeOf5
  v5 := Tryz.zeroValue5
  t9 := Tryz.underlying9
  a9 := Tryz.isAgg9
  z9 := Tryz.sizeOf9
  v9 := Tryz.zeroValue9
  t21 := Tryz.underlying21
  a21 := Tryz.isAgg21
  z21 := Tryz.sizeOf21
  v21 := Tryz.zeroValue21
  t31 := Tryz.underlying64
  a31 := Tryz.isAgg64
  z31 := Tryz.sizeOf64
  v31 := Tryz.zeroValue64
  t46 := Tryz.underlying92
  a46 := Tryz.isAgg92
  z46 := Tryz.sizeOf92
  v46 := Tryz.zeroValue92
  t51 := Tryz.underlying125
  a51 := Tryz.isAgg125
  z51 := Tryz.sizeOf125
  v51 := Tryz.zeroValue125
  t105 := Tryz.underlying159
  a105 := Tryz.isAgg159
  z105 := Tryz.sizeOf159
  v105 := Tryz.zeroValue159
  t119 := Tryz.underlying169
  a119 := Tryz.isAgg169
  z119 := Tryz.sizeOf169
  t138 := Tryz.underlying171
  a138 := Tryz.isAgg171
  z138 := Tryz.sizeOf171
  v138 := Tryz.zeroValue171
  t139 := Tryz.underlying172
  a139 := Tryz.isAgg172
  z139 := Tryz.sizeOf172
  v139 := Tryz.zeroValue172
  t146 := Tryz.underlying126
  a146 := Tryz.isAgg126
  z146 := Tryz.sizeOf126
  v146 := Tryz.zeroValue126
  g1 := by kernel_rfl
  g3 := by kernel_rfl
  g4 := by kernel_rfl }
open Go.RowKit Go.Lib in
/-- strings.Split. (LAID: no walk: one application.) -/
theorem Tryz.strings_Split (s sep : ByteArray) (m : Int) (w : World) (hs : s.size < 4294967281) (hm : w.cell? ⟨0, 0, none⟩ = some (.int .i64 m)) (h1 : 1 ≤ sep.size) :
    Calls Tryz.prog 23 #[.string s, .string sep] w fun e w' =>
      e = .returned (.slice (some ⟨w.heap.size, 0, none⟩) (Lib.countB s sep + 1) (Lib.countB s sep + 1)) ∧ w' = w.alloc (.cells ((Lib.splitB sep 0 (Lib.countB s sep) s).map Value.string).toArray 9) := Any.strings_Split Tryz.lays146 (by kernel_rfl) s sep m w hs hm h1
def Tryz.lays154_ren : Go.Shelf.Ren := ⟨fun | 154 => 73 | 138 => 70 | 165 => 38 | 143 => 75 | 166 => 39 | 197 => 99 | 169 => 41 | 195 => 95 | 218 => 96 | 240 => 66 | 241 => 67 | 219 => 100 | 260 => 116 | 276 => 93 | 277 => 94 | 217 => 117 | 225 => 118 | 224 => 119 | 267 => 120 | 266 => 125 | 314 => 126 | n => n, fun | 9 => 9 | 3 => 3 | 4 => 4 | 72 => 99 | 0 => 0 | 76 => 103 | 105 => 159 | 21 => 21 | 5 => 5 | 70 => 96 | 20 => 20 | 37 => 97 | 75 => 102 | 127 => 131 | 164 => 153 | 46 => 92 | 119 => 169 | 139 => 172 | 138 => 171 | 146 => 126 | 51 => 125 | 80 => 106 | n => n, fun | 1 => 0 | 3 => 1 | 4 => 2 | n => n⟩
open Go.RowKit Go.Lib in
open Go.RowKit Go.Lib in
open Go.RowKit Go.Lib in
open Go.RowKit Go.Lib in
def Tryz.lays155_ren : Go.Shelf.Ren := ⟨fun | 155 => 45 | 154 => 73 | 138 => 70 | 165 => 38 | 143 => 75 | 166 => 39 | 197 => 99 | 169 => 41 | 195 => 95 | 218 => 96 | 240 => 66 | 241 => 67 | 219 => 100 | 260 => 116 | 276 => 93 | 277 => 94 | 217 => 117 | 225 => 118 | 224 => 119 | 267 => 120 | 266 => 125 | 314 => 126 | n => n, fun | 9 => 9 | 3 => 3 | 4 => 4 | 72 => 99 | 0 => 0 | 76 => 103 | 105 => 159 | 21 => 21 | 5 => 5 | 70 => 96 | 20 => 20 | 37 => 97 | 75 => 102 | 127 => 131 | 164 => 153 | 46 => 92 | 119 => 169 | 139 => 172 | 138 => 171 | 146 => 126 | 51 => 125 | 80 => 106 | n => n, fun | 1 => 0 | 3 => 1 | 4 => 2 | n => n⟩
theorem Tryz.lays155 : Go.Proofs.Lays.n155 Tryz.prog Tryz.lays155_ren := {
  mixed := by kernel_rfl
  f138 := Tryz.func70.trans (congrArg some (by kernel_rfl))
  f143 := Tryz.func75.trans (congrArg some (by kernel_rfl))
  f154 := Tryz.func73.trans (congrArg some (by kernel_rfl))
  f155 := Tryz.func45.trans (congrArg some (by kernel_rfl))
  f165 := Tryz.func38.trans (congrArg some (by kernel_rfl))
  f166 := Tryz.func39.trans (congrArg some (by kernel_rfl))
  f169 := Tryz.func41.trans (congrArg some (by kernel_rfl))
  f195 := Tryz.func95.trans (congrArg some (by kernel_rfl))
  f197 := Tryz.func99.trans (congrArg some (by kernel_rfl))
  f217 := Tryz.func117.trans (congrArg some (by kernel_rfl))
  f218 := Tryz.func96.trans (congrArg some (by kernel_rfl))
  f219 := Tryz.func100.trans (congrArg some (by kernel_rfl))
  f224 := Tryz.func119.trans (congrArg some (by kernel_rfl))
  f225 := Tryz.func118.trans (congrArg some (by kernel_rfl))
  f240 := Tryz.func66.trans (congrArg some (by kernel_rfl))
  f241 := Tryz.func67.trans (congrArg some (by kernel_rfl))
  f260 := Tryz.func116.trans (congrArg some (by kernel_rfl))
  f266 := Tryz.func125.trans (congrArg some (by kernel_rfl))
  f267 := Tryz.func120.trans (congrArg some (by kernel_rfl))
  f276 := Tryz.func93.trans (congrArg some (by kernel_rfl))
  f277 := Tryz.func94.trans (congrArg some (by kernel_rfl))
  f314 := Tryz.func126.trans (congrArg some (by kernel_rfl))
  t0 := Tryz.underlying0
  a0 := Tryz.isAgg0
  z0 := Tryz.sizeOf0
  v0 := Tryz.zeroValue0
  t3 := Tryz.underlying3
  a3 := Tryz.isAgg3
  z3 := Tryz.sizeOf3
  v3 := Tryz.zeroValue3
  t4 := Tryz.underlying4
  a4 := Tryz.isAgg4
  z4 := Tryz.sizeOf4
  v4 := Tryz.zeroValue4
  t5 := Tryz.underlying5
  a5 := Tryz.isAgg5
  z5 := Tryz.sizeOf5
  v5 := Tryz.zeroValue5
  t9 := Tryz.underlying9
  a9 := Tryz.isAgg9
  z9 := Tryz.sizeOf9
  v9 := Tryz.zeroValue9
  t20 := Tryz.underlying20
  a20 := Tryz.isAgg20
  z20 := Tryz.sizeOf20
  v20 := Tryz.zeroValue20
  t21 := Tryz.underlying21
  a21 := Tryz.isAgg21
  z21 := Tryz.sizeOf21
  v21 := Tryz.zeroValue21
  t37 := Tryz.underlying97
  a37 := Tryz.isAgg97
  z37 := Tryz.sizeOf97
  v37 := Tryz.zeroValue97
  t46 := Tryz.underlying92
  a46 := Tryz.isAgg92
  z46 := Tryz.sizeOf92
  v46 := Tryz.zeroValue92
  t51 := Tryz.underlying125
  a51 := Tryz.isAgg125
  z51 := Tryz.sizeOf125
  v51 := Tryz.zeroValue125
  t70 := Tryz.underlying96
  a70 := Tryz.isAgg96
  z70 := Tryz.sizeOf96
  v70 := Tryz.zeroValue96
  t72 := Tryz.underlying99
  a72 := Tryz.isAgg99
  z72 := Tryz.sizeOf99
  v72 := Tryz.zeroValue99
  t75 := Tryz.underlying102
  a75 := Tryz.isAgg102
  z75 := Tryz.sizeOf102
  v75 := Tryz.zeroValue102
  t76 := Tryz.underlying103
  a76 := Tryz.isAgg103
  z76 := Tryz.sizeOf103
  v76 := Tryz.zeroValue103
  t105 := Tryz.underlying159
  a105 := Tryz.isAgg159
  z105 := Tryz.sizeOf159
  v105 := Tryz.zeroValue159
  t119 := Tryz.underlying169
  a119 := Tryz.isAgg169
  z119 := Tryz.sizeOf169
  t127 := Tryz.underlying131
  a127 := Tryz.isAgg131
  z127 := Tryz.sizeOf131
  v127 := Tryz.zeroValue131
  t138 := Tryz.underlying171
  a138 := Tryz.isAgg171
  z138 := Tryz.sizeOf171
  v138 := Tryz.zeroValue171
  t139 := Tryz.underlying172
  a139 := Tryz.isAgg172
  z139 := Tryz.sizeOf172
  v139 := Tryz.zeroValue172
  t146 := Tryz.underlying126
  a146 := Tryz.isAgg126
  z146 := Tryz.sizeOf126
  v146 := Tryz.zeroValue126
  t164 := Tryz.underlying153
  a164 := Tryz.isAgg153
  z164 := Tryz.sizeOf153
  v164 := Tryz.zeroValue153
  g1 := by kernel_rfl
  g3 := by kernel_rfl
  g4 := by kernel_rfl }
theorem Tryz.Builder_Extra_155 : Builder.Extra Tryz.prog Tryz.lays155_ren := {
  sizeBuilder := by kernel_rfl
  liesBuilder := by kernel_rfl
  t5 := Tryz.underlying5
  a5 := Tryz.isAgg5
  z5 := Tryz.sizeOf5
  v5 := Tryz.zeroValue5
  infoByte := by kernel_rfl
  cellsByte := by kernel_rfl
  sizeByte := by kernel_rfl
  neB5 := by decide }
open Go.RowKit Go.Lib in
/-- strings.ReplaceAll: "ReplaceAll returns a copy of the string s with all non-overlapping instances of old replaced by new.": AT AN old THAT IS NOT EMPTY: 'Lib.replaceAll s old new'. (LAID: no walk: one application.) -/
theorem Tryz.strings_ReplaceAll (s old new : ByteArray) (m : Int) (w : World) (hs : s.size < 4294967281) (hm : w.cell? ⟨0, 0, none⟩ = some (.int .i64 m)) (h1 : 1 ≤ old.size) (hlen : s.size + Lib.countB s old * new.size ≤ 140737488355328) :
    Calls Tryz.prog 45 #[.string s, .string old, .string new] w fun e w' =>
      e = .returned (.string ⟨(Lib.replaceAll s.data.toList old.data.toList new.data.toList).toArray⟩) ∧ Below w.heap.size w w' := Any.strings_ReplaceAll Tryz.lays155 Tryz.Builder_Extra_155 s old new m w hs hm h1 hlen
open Go.RowKit Go.Lib in
open Go.RowKit Go.Lib in
open Go.RowKit Go.Lib in
open Go.RowKit Go.Lib in
open Go.RowKit Go.Lib in
open Go.RowKit Go.Lib in
open Go.RowKit Go.Lib in
open Go.RowKit Go.Lib in
open Go.RowKit Go.Lib in
open Go.RowKit Go.Lib in
open Go.RowKit Go.Lib in
open Go.RowKit Go.Lib in
open Go.RowKit Go.Lib in
open Go.RowKit Go.Lib in
def Tryz.lays105_ren : Go.Shelf.Ren := ⟨fun | 105 => 17 | 212 => 36 | 99 => 37 | 165 => 38 | 166 => 39 | 170 => 40 | 169 => 41 | 263 => 63 | 264 => 64 | 206 => 65 | 240 => 66 | 241 => 67 | 276 => 93 | 277 => 94 | n => n, fun | 9 => 9 | 3 => 3 | 4 => 4 | 20 => 20 | 0 => 0 | 46 => 92 | 109 => 93 | 5 => 5 | 72 => 99 | 76 => 103 | 51 => 125 | 146 => 126 | 53 => 128 | 148 => 129 | 70 => 96 | 37 => 97 | 75 => 102 | 127 => 131 | 164 => 153 | 80 => 106 | n => n, fun | n => n⟩
theorem Tryz.lays105 : Go.Proofs.Lays.n105 Tryz.prog Tryz.lays105_ren := {
  mixed := by kernel_rfl
  f99 := Tryz.func37.trans (congrArg some (by kernel_rfl))
  f105 := Tryz.func17.trans (congrArg some (by kernel_rfl))
  f165 := Tryz.func38.trans (congrArg some (by kernel_rfl))
  f166 := Tryz.func39.trans (congrArg some (by kernel_rfl))
  f169 := Tryz.func41.trans (congrArg some (by kernel_rfl))
  f170 := Tryz.func40.trans (congrArg some (by kernel_rfl))
  f206 := Tryz.func65.trans (congrArg some (by kernel_rfl))
  f212 := Tryz.func36.trans (congrArg some (by kernel_rfl))
  f240 := Tryz.func66.trans (congrArg some (by kernel_rfl))
  f241 := Tryz.func67.trans (congrArg some (by kernel_rfl))
  f263 := Tryz.func63.trans (congrArg some (by kernel_rfl))
  f264 := Tryz.func64.trans (congrArg some (by kernel_rfl))
  f276 := Tryz.func93.trans (congrArg some (by kernel_rfl))
  f277 := Tryz.func94.trans (congrArg some (by kernel_rfl))
  t0 := Tryz.underlying0
  a0 := Tryz.isAgg0
  z0 := Tryz.sizeOf0
  v0 := Tryz.zeroValue0
  t3 := Tryz.underlying3
  a3 := Tryz.isAgg3
  z3 := Tryz.sizeOf3
  v3 := Tryz.zeroValue3
  t4 := Tryz.underlying4
  a4 := Tryz.isAgg4
  z4 := Tryz.sizeOf4
  v4 := Tryz.zeroValue4
  t5 := Tryz.underlying5
  a5 := Tryz.isAgg5
  z5 := Tryz.sizeOf5
  v5 := Tryz.zeroValue5
  t9 := Tryz.underlying9
  a9 := Tryz.isAgg9
  z9 := Tryz.sizeOf9
  v9 := Tryz.zeroValue9
  t20 := Tryz.underlying20
  a20 := Tryz.isAgg20
  z20 := Tryz.sizeOf20
  v20 := Tryz.zeroValue20
  t37 := Tryz.underlying97
  a37 := Tryz.isAgg97
  z37 := Tryz.sizeOf97
  v37 := Tryz.zeroValue97
  t46 := Tryz.underlying92
  a46 := Tryz.isAgg92
  z46 := Tryz.sizeOf92
  v46 := Tryz.zeroValue92
  t51 := Tryz.underlying125
  a51 := Tryz.isAgg125
  z51 := Tryz.sizeOf125
  v51 := Tryz.zeroValue125
  t53 := Tryz.underlying128
  a53 := Tryz.isAgg128
  z53 := Tryz.sizeOf128
  v53 := Tryz.zeroValue128
  t70 := Tryz.underlying96
  a70 := Tryz.isAgg96
  z70 := Tryz.sizeOf96
  v70 := Tryz.zeroValue96
  t72 := Tryz.underlying99
  a72 := Tryz.isAgg99
  z72 := Tryz.sizeOf99
  v72 := Tryz.zeroValue99
  t75 := Tryz.underlying102
  a75 := Tryz.isAgg102
  z75 := Tryz.sizeOf102
  v75 := Tryz.zeroValue102
  t76 := Tryz.underlying103
  a76 := Tryz.isAgg103
  z76 := Tryz.sizeOf103
  v76 := Tryz.zeroValue103
  t109 := Tryz.underlying93
  a109 := Tryz.isAgg93
  z109 := Tryz.sizeOf93
  v109 := Tryz.zeroValue93
  t127 := Tryz.underlying131
  a127 := Tryz.isAgg131
  z127 := Tryz.sizeOf131
  v127 := Tryz.zeroValue131
  t146 := Tryz.underlying126
  a146 := Tryz.isAgg126
  z146 := Tryz.sizeOf126
  v146 := Tryz.zeroValue126
  t148 := Tryz.underlying129
  a148 := Tryz.isAgg129
  z148 := Tryz.sizeOf129
  v148 := Tryz.zeroValue129
  t164 := Tryz.underlying153
  a164 := Tryz.isAgg153
  z164 := Tryz.sizeOf153
  v164 := Tryz.zeroValue153 }
theorem Tryz.Builder_Extra_105 : Builder.Extra Tryz.prog Tryz.lays105_ren := {
  sizeBuilder := by kernel_rfl
  liesBuilder := by kernel_rfl
  t5 := Tryz.underlying5
  a5 := Tryz.isAgg5
  z5 := Tryz.sizeOf5
  v5 := Tryz.zeroValue5
  infoByte := by kernel_rfl
  cellsByte := by kernel_rfl
  sizeByte := by kernel_rfl
  neB5 := by decide }
open Go.RowKit Go.Lib in
open Go.RowKit Go.Lib in
open Go.RowKit Go.Lib in
open Go.RowKit Go.Lib in
open Go.RowKit Go.Lib in
open Go.RowKit Go.Lib in
open Go.RowKit Go.Lib in
/-- **strings.Repeat: count ≥ 0, the result within one allocation: count copies of s.** (LAID: no walk: one application.) -/
theorem Tryz.strings_Repeat (s : ByteArray) (c : Nat) (w : World) (hc : c ≤ 9223372036854775807) (hlen : s.size * c ≤ 140737488355328) :
    Calls Tryz.prog 17 #[.string s, .int .i64 c] w fun e w' => e = .returned (.string ⟨(Lib.repeatL s.data.toList c).toArray⟩) ∧ Below w.heap.size w w' := Any.strings_Repeat Tryz.lays105 Tryz.Builder_Extra_105 s c w hc hlen
open Go.RowKit Go.Lib in
open Go.RowKit Go.Lib in
open Go.RowKit Go.Lib in
open Go.RowKit Go.Lib in
open Go.RowKit Go.Lib in
open Go.Lib in
open Go.Lib in
def Tryz.lays110_ren : Go.Shelf.Ren := ⟨fun | 110 => 123 | 109 => 130 | n => n, fun | 31 => 64 | 9 => 9 | 4 => 4 | 3 => 3 | 0 => 0 | n => n, fun | n => n⟩
theorem Tryz.lays110 : Go.Proofs.Lays.n110 Tryz.prog Tryz.lays110_ren := {
  mixed := by kernel_rfl
  f109 := Tryz.func130.trans (congrArg some (by kernel_rfl))
  f110 := Tryz.func123.trans (congrArg some (by kernel_rfl))
  t0 := Tryz.underlying0
  a0 := Tryz.isAgg0
  z0 := Tryz.sizeOf0
  v0 := Tryz.zeroValue0
  t3 := Tryz.underlying3
  a3 := Tryz.isAgg3
  z3 := Tryz.sizeOf3
  v3 := Tryz.zeroValue3
  t4 := Tryz.underlying4
  a4 := Tryz.isAgg4
  z4 := Tryz.sizeOf4
  v4 := Tryz.zeroValue4
  t9 := Tryz.underlying9
  a9 := Tryz.isAgg9
  z9 := Tryz.sizeOf9
  v9 := Tryz.zeroValue9
  t31 := Tryz.underlying64
  a31 := Tryz.isAgg64
  z31 := Tryz.sizeOf64
  v31 := Tryz.zeroValue64 }
open Go.Lib in
/-- slices.Contains at []string: "Contains reports whether v is present in s.": IT RETURNS 'Lib.containsS (the elements) v', which is true just where v is among them ('Lib.containsS_iff'); the world is as it was. ITS CALLEE slices.Index IS MET BY ITS OWN CONTRACT OFF THE SHELF (lay that first): no loop is walked here. (LAID: no walk: one application.) -/
theorem Tryz.slices_Contains_string (b off n c : Nat) (zs : List ByteArray) (x : ByteArray) (w : World) (hz : n ≤ zs.length) (hbig : n ≤ 9223372036854775807) (hc : ∀ j, j < zs.length → w.cell? ⟨b, off + j, none⟩ = some (.string (zs.getD j ByteArray.empty))) :
    Calls Tryz.prog 123 #[.slice (some ⟨b, off, none⟩) n c, .string x] w fun e w' => e = .returned (.bool (Lib.containsS (zs.take n) x)) ∧ w' = w := Any.slices_Contains_string Tryz.lays110 b off n c zs x w hz hbig hc
open Go.Lib in
/-- The same at a slice of length 0, a nil one too. (LAID: no walk: one application.) -/
theorem Tryz.slices_Contains_string_empty (a : Option Addr) (c : Nat) (x : ByteArray) (w : World) :
    Calls Tryz.prog 123 #[.slice a 0 c, .string x] w fun e w' => e = .returned (.bool false) ∧ w' = w := Any.slices_Contains_string_empty Tryz.lays110 a c x w
end Go.Proofs

/-
  Contracts of library functions, as the package columns and its statements call them.
  Conditions: none.
-/
namespace Go.Proofs.YtmadddihphkmoaaGreatDoor
open Go.AM
open Go.Proofs
open Go.Col
open Go.RowKit (Below)
set_option maxRecDepth 100000

/-- Go's table of the powers of ten lies as its initialiser lays it. -/
abbrev Tab10 (w : World) : Prop := Lib.TabIs Tryz.prog w "internal/strconv.uint64pow10" .u64 Lib.pow10Tab
theorem Tab10.later {w w' : World} (h : Tab10 w) (hb : Go.RowKit.Below w.heap.size w w') : Tab10 w' := Go.Joins.tab_stays (g := 3) (by kernel_rfl) h hb (Nat.le_refl _)
theorem c_itoa (w₀ : World) (ht : Tab10 w₀) (h : AHeap) (n : Int) (h0 : -9223372036854775808 ≤ n) (h1 : n ≤ 9223372036854775807) :
    ACall Tryz.prog w₀ 97 [.int .i64 n] h (fun v h' => v = .str (Lib.itoa n) ∧ h' = h) := by
  refine acall_of_callsB (vals := [.int .i64 n]) (val := .string ⟨(Lib.itoa n).toArray⟩) Tryz.func97 rfl rfl (fun φ vs hv => VRs_i hv) (fun φ => rfl) fun w hb => ?_
  refine (Tryz.strconv_Itoa n h0 h1 w (ht.later hb)).mono fun e w' ⟨e1, k, os, e2⟩ => ⟨e1, ?_⟩
  subst e2
  exact Go.Lib.below_grow _ w (Nat.le_refl _) k os
theorem c_trimL (w₀ : World) (h : AHeap) (s : Str) : ACall Tryz.prog w₀ 52 [.str s, .str [32]] h (fun v h' => v = .str (Xr s) ∧ h' = h) := by
  refine acall_of_calls (vals := [.string ⟨⟨s⟩⟩, .string ⟨⟨[32]⟩⟩]) (val := .string ⟨⟨Xr s⟩⟩) Tryz.func52 rfl rfl (fun φ vs hv => VRs_ss hv) (fun φ => rfl) fun w => ?_
  refine (Tryz.strings_TrimLeft_one ⟨⟨s⟩⟩ 32 (by decide) w).mono fun e w' ⟨e1, e2⟩ => ⟨e1, ?_⟩
  subst e2; exact Go.RowKit.Below.refl _ _
theorem c_trimR (w₀ : World) (h : AHeap) (s : Str) (hl : s.length ≤ 9223372036854775807) : ACall Tryz.prog w₀ 82 [.str s, .str [32]] h (fun v h' => v = .str (trimR s) ∧ h' = h) := by
  refine acall_of_calls (vals := [.string ⟨⟨s⟩⟩, .string ⟨⟨[32]⟩⟩]) (val := .string ⟨⟨trimR s⟩⟩) Tryz.func82 rfl rfl (fun φ vs hv => VRs_ss hv) (fun φ => rfl) fun w => ?_
  refine (Tryz.strings_TrimRight_one ⟨⟨s⟩⟩ 32 (by decide) w hl).mono fun e w' ⟨e1, e2⟩ => ⟨e1, ?_⟩
  subst e2; exact Go.RowKit.Below.refl _ _
theorem repeatL_one (b : UInt8) : ∀ n, Go.Lib.repeatL [b] n = List.replicate n b
  | 0 => rfl
  | n + 1 => by
    rw [Go.Lib.repeatL, repeatL_one b n]
    simp [List.replicate_succ]
theorem c_repeat (w₀ : World) (h : AHeap) (b : UInt8) (n : Nat) (hn : n ≤ 140737488355328) : ACall Tryz.prog w₀ 17 [.str [b], .int .i64 n] h (fun v h' => v = .str (List.replicate n b) ∧ h' = h) := by
  refine acall_of_calls (vals := [.string ⟨⟨[b]⟩⟩, .int .i64 n]) (val := .string ⟨⟨List.replicate n b⟩⟩) Tryz.func17 rfl rfl (fun φ vs hv => VRs_si hv) (fun φ => rfl) fun w => ?_
  have := Tryz.strings_Repeat ⟨⟨[b]⟩⟩ n w (by omega) (by show 1 * n ≤ _; omega)
  rw [repeatL_one] at this
  exact this
theorem c_count (w₀ : World) (h : AHeap) (s : Str) (b : UInt8) : ACall Tryz.prog w₀ 70 [.str s, .str [b]] h (fun v h' => v = .int .i64 (s.countP (· == b)) ∧ h' = h) := by
  refine acall_of_calls (vals := [.string ⟨⟨s⟩⟩, .string ⟨⟨[b]⟩⟩]) (val := .int .i64 (s.countP (· == b))) Tryz.func70 rfl rfl (fun φ vs hv => VRs_ss hv) (fun φ => rfl) fun w => ?_
  refine (Tryz.strings_Count_one ⟨⟨s⟩⟩ b w).mono fun e w' ⟨e1, e2⟩ => ⟨e1, ?_⟩
  subst e2; exact Go.RowKit.Below.refl _ _
theorem suffix_one : ∀ (s : Str) (b : UInt8), List.isSuffixOf [b] s = decide (s.getLast? = some b) := by
  intro s b
  rcases List.eq_nil_or_concat s with rfl | ⟨l, x, rfl⟩
  · rfl
  · rw [List.concat_eq_append]
    rw [List.getLast?_append]
    rw [Bool.eq_iff_iff, List.isSuffixOf_iff_suffix]
    simp only [List.getLast?_singleton, Option.some_or, Option.some.injEq, decide_eq_true_eq]
    constructor
    · rintro ⟨t, ht⟩
      exact (List.append_inj' ht rfl).2 |> List.singleton_inj.1 |>.symm
    · rintro rfl
      exact ⟨l, rfl⟩
theorem trimSuffix_nl (s : Str) : Lib.trimSuffix s [10] = XK s := by
  unfold Lib.trimSuffix Lib.hasSuffix XK
  rw [suffix_one]
  by_cases h : s.getLast? = some 10
  · rw [decide_eq_true h, if_pos rfl, if_pos h, List.dropLast_eq_take]
    rfl
  · rw [decide_eq_false h, if_neg (by decide), if_neg h]
theorem c_trimNL (w₀ : World) (h : AHeap) (s : Str) (hl : s.length ≤ 9223372036854775807) : ACall Tryz.prog w₀ 24 [.str s, .str [10]] h (fun v h' => v = .str (XK s) ∧ h' = h) := by
  refine acall_of_calls (vals := [.string ⟨⟨s⟩⟩, .string ⟨⟨[10]⟩⟩]) (val := .string ⟨⟨XK s⟩⟩) Tryz.func24 rfl rfl (fun φ vs hv => VRs_ss hv) (fun φ => rfl) fun w => ?_
  refine (Tryz.strings_TrimSuffix ⟨⟨s⟩⟩ ⟨⟨[10]⟩⟩ w hl).mono fun e w' ⟨e1, e2⟩ => ⟨?_, ?_⟩
  · rw [e1]
    show Ending.returned (.string ⟨(Lib.trimSuffix s [10]).toArray⟩) = _
    rw [trimSuffix_nl]
  · subst e2; exact Go.RowKit.Below.refl _ _

/-! ### Split -/
theorem index_one : ∀ (s : Str) (b : UInt8), (Lib.index s [b] = -1 ∧ b ∉ s) ∨ ∃ i : Nat, Lib.index s [b] = i ∧ i < s.length ∧ s = s.take i ++ b :: s.drop (i + 1) ∧ b ∉ s.take i
  | [], b => .inl ⟨rfl, by simp⟩
  | x :: s, b => by
    by_cases h : b = x
    · subst h
      refine .inr ⟨0, ?_, by simp, by simp, by simp⟩
      simp [Lib.index, List.isPrefixOf]
    · have hp : List.isPrefixOf [b] (x :: s) = false := by simp [List.isPrefixOf, h]
      rcases index_one s b with ⟨h1, h2⟩ | ⟨i, h1, h2, h3, h4⟩
      · refine .inl ⟨?_, ?_⟩
        · unfold Lib.index
          rw [hp, if_neg (by decide), h1, if_pos (by decide)]
        · simp [h, h2]
      · refine .inr ⟨i + 1, ?_, by simp; omega, ?_, ?_⟩
        · unfold Lib.index
          rw [hp, if_neg (by decide), h1, if_neg (by simp <;> omega)]
          omega
        · simp only [List.take_succ_cons, List.drop_succ_cons, List.cons_append, List.cons.injEq, true_and]
          exact h3
        · simp only [List.take_succ_cons, List.mem_cons, not_or]
          exact ⟨h, h4⟩
theorem splitNL_none : ∀ {s : Str}, (10 : UInt8) ∉ s → Qp s = [s]
  | [], _ => rfl
  | x :: s, h => by
    simp only [List.mem_cons, not_or] at h
    unfold Qp
    rw [if_neg (fun e => h.1 e.symm), splitNL_none h.2]
theorem splitNL_app : ∀ {a : Str} (b : Str), (10 : UInt8) ∉ a → Qp (a ++ 10 :: b) = a :: Qp b
  | [], b, _ => by
    simp only [List.nil_append]
    rw [Qp, if_pos rfl]
  | x :: a, b, h => by
    simp only [List.mem_cons, not_or] at h
    rw [List.cons_append, Qp, if_neg (fun e => h.1 e.symm), splitNL_app b h.2]
theorem extract_mk (s : Str) (a b : Nat) : ((⟨⟨s⟩⟩ : ByteArray).extract a b) = ⟨⟨(s.drop a).take (b - a)⟩⟩ := by
  apply ByteArray.ext
  apply Array.ext'
  rw [Lib.extract_data]
theorem split_nl : ∀ (n : Nat) (s : Str), s.length ≤ n → Lib.splitB ⟨⟨[10]⟩⟩ 0 (Lib.countB ⟨⟨s⟩⟩ ⟨⟨[10]⟩⟩) ⟨⟨s⟩⟩ = (Qp s).map fun l => (⟨⟨l⟩⟩ : ByteArray) := by
  intro n
  induction n with
  | zero =>
    intro s hs
    have : s = [] := List.eq_nil_of_length_eq_zero (by omega)
    subst this
    rw [Lib.splitB_miss _ _ _ _ (by decide)]
    rfl
  | succ n ih =>
    intro s hs
    rcases index_one s 10 with ⟨h1, h2⟩ | ⟨i, h1, h2, h3, h4⟩
    · rw [Lib.splitB_miss _ _ _ _ h1, splitNL_none h2]
      rfl
    · have h1' : Lib.indexB ⟨⟨s⟩⟩ ⟨⟨[10]⟩⟩ = (i : Int) := h1
      have hsz : (⟨⟨s⟩⟩ : ByteArray).size = s.length := rfl
      have h10 : (⟨⟨[10]⟩⟩ : ByteArray).size = 1 := rfl
      rw [Lib.countB_hit _ _ i (by decide) h1', Nat.add_comm 1, Lib.splitB_hit _ _ _ _ i h1', h10, hsz, extract_mk, extract_mk, List.drop_zero, Nat.sub_zero, Nat.add_zero, List.take_of_length_le (l := s.drop (i + 1)) (by simp), ih _ (by simp; omega)]
      conv => rhs; rw [h3, splitNL_app _ h4]
      rfl
/-- A call that lays one row and answers the slice of it. -/
theorem acall_of_row {P : Program} {w₀ : World} {f : FuncId} {fn : Func} {h : AHeap} {args : List AVal} {vals : List Value} {cs : List Value} {n : Nat} {e : TypeId} {xs : List AVal} (hf : P.funcs[f]? = some fn) (hname : (fn.name == "runtime.NumGoroutine") = false) (hb : fn.body.isSome = true)
    (hv : ∀ φ vs, VRs φ args vs → vs = vals) (hx : ∀ φ, VRs φ xs cs)
    (hc : ∀ w, Go.RowKit.Below w₀.heap.size w₀ w → Calls P f vals.toArray w fun en w' => en = .returned (.slice (some ⟨w.heap.size, 0, none⟩) n n) ∧ w' = w.alloc (.cells cs.toArray e)) :
    ACall P w₀ f args h (fun v h' => ∃ k, h k = none ∧ v = .slice (.own k) 0 n (.exact n) ∧ h' = h.set k ⟨xs, 0⟩) := by
  intro φ vs w hr hvs
  obtain rfl := hv φ vs hvs
  refine .inl ⟨fn, hf, hname, hb, (hc w hr.below).mono fun en w' ⟨e1, e2⟩ => ?_⟩
  obtain ⟨k, hk, hφ, ht⟩ := hr.freshN
  have hlen : xs.length = cs.length := (XC (hx φ)).symm
  obtain ⟨h1, h2⟩ := hr.alloc k hk hφ xs cs.toArray e 0 0 (by rw [hlen]; simpa using hx φ) no_frz (fun t h' => by rw [ht] at h'; cases h')
  refine ⟨_, e1, _, _, _, h1, ?_, ?_, k, hk, rfl, rfl⟩
  · rw [e2]; exact h2
  · simp only [VR]
    refine ⟨_, rfl, fun _ => ?_⟩
    simp [Xc, PMap.upd_same]
/-- The longest text that strings.Index takes whole is some number. -/
abbrev MaxL (w : World) : Prop := ∃ m, w.cell? ⟨0, 0, none⟩ = some (.int .i64 m)
theorem strs_map (φ : PMap) : ∀ l : List Str, VRs φ (l.map AVal.str) (l.map fun x => Value.string ⟨⟨x⟩⟩)
  | [] => rfl
  | x :: l => by
    simp only [List.map_cons, VRs]
    exact ⟨_, _, rfl, rfl, strs_map φ l⟩
theorem c_split (w₀ : World) (hm : MaxL w₀) (h : AHeap) (s : Str) (hl : s.length < 4294967281) : ACall Tryz.prog w₀ 23 [.str s, .str [10]] h (fun v h' => ∃ k, h k = none ∧ v = .slice (.own k) 0 (Qp s).length (.exact (Qp s).length) ∧ h' = h.set k ⟨(Qp s).map AVal.str, 0⟩) := by
  obtain ⟨m, hm⟩ := hm
  refine acall_of_row (vals := [.string ⟨⟨s⟩⟩, .string ⟨⟨[10]⟩⟩]) (cs := (Qp s).map fun x => Value.string ⟨⟨x⟩⟩) (e := 9) Tryz.func23 rfl rfl (fun φ vs hv => VRs_ss hv) (fun φ => strs_map φ _) fun w hb => ?_
  have hlt : 0 < w₀.heap.size := cell_lt hm
  have hw : w.cell? ⟨0, 0, none⟩ = some (.int .i64 m) := (hb.cell (p := ⟨0, 0, none⟩) hlt).trans hm
  refine (Tryz.strings_Split ⟨⟨s⟩⟩ ⟨⟨[10]⟩⟩ m w hl hw (by decide)).mono fun e w' ⟨e1, e2⟩ => ?_
  have hs := split_nl s.length s (Nat.le_refl _)
  have hn : Lib.countB ⟨⟨s⟩⟩ ⟨⟨[10]⟩⟩ + 1 = (Qp s).length := by
    rw [← List.length_map (f := fun l => (⟨⟨l⟩⟩ : ByteArray)), ← hs, Lib.splitB_all _ (by decide) 0 _ _ rfl]
  rw [e1, e2, hn, hs, List.map_map]
  exact ⟨rfl, rfl⟩

/-! ### Join -/
theorem VRs_strs {φ : PMap} : ∀ {l : List Str} {vs : List Value}, VRs φ (l.map AVal.str) vs → vs = l.map fun x => Value.string ⟨⟨x⟩⟩
  | [], _, h => h
  | x :: l, vs, h => by
    simp only [List.map_cons, VRs, VR] at h
    obtain ⟨v, vs', rfl, rfl, h2⟩ := h
    rw [VRs_strs h2]
    rfl
theorem locAddr_spot {φ : PMap} {l : AM.Loc} {o : Nat} {a : Addr} (h : Xc φ l o = some a) : a = ⟨a.block, a.off, none⟩ := by
  cases l with
  | base b => simp only [Xc, Option.some.injEq] at h; subst h; rfl
  | own k =>
    simp only [Xc, Option.map_eq_some_iff] at h
    obtain ⟨p, _, rfl⟩ := h
    rfl
/-- A row of texts. -/
abbrev IsStrs (w₀ : World) (h : AHeap) (v : AVal) (l : List Str) : Prop := IsL w₀ h 1 v (l.map fun s => [AVal.str s])
theorem flat_strs : ∀ l : List Str, (l.map fun s => [AVal.str s]).flatten = l.map AVal.str
  | [] => rfl
  | x :: l => by simp [flat_strs l]
theorem c_join (w₀ : World) (h : AHeap) (v : AVal) (l : List Str) (sep : Str) (hv : IsStrs w₀ h v l) (hn : l.length ≤ 140737488355328) (hl : (Lib.join l sep).length ≤ 140737488355328) :
    ACall Tryz.prog w₀ 46 [v, .str sep] h (fun r h' => r = .str (Lib.join l sep) ∧ h' = h) := by
  intro φ vals w hr hvs
  simp only [VRs, VR] at hvs
  obtain ⟨u, vs', rfl, hu, u2, vs2, rfl, rfl, rfl⟩ := hvs
  have fin : ∀ {R : Ending → World → Prop}, Calls Tryz.prog 46 #[u, .string ⟨⟨sep⟩⟩] w R → (∀ e w', R e w' → e = .returned (.string ⟨⟨Lib.join l sep⟩⟩) ∧ Below w.heap.size w w') →
      Lands Tryz.prog 46 [u, .string ⟨⟨sep⟩⟩].toArray w fun v w' => ∃ ψ x h', φ.le ψ ∧ HRel w₀ ψ h' w' ∧ VR ψ x v ∧ x = .str (Lib.join l sep) ∧ h' = h := fun hc hq =>
    .inl ⟨_, Tryz.func46, rfl, rfl, hc.mono fun e w' hR => ⟨_, (hq e w' hR).1, φ, .str (Lib.join l sep), h, φ.le_refl, hr.later (hq e w' hR).2, rfl, rfl, rfl⟩⟩
  obtain ⟨xs, hxs⟩ : ∃ xs, xs = l.map fun s => [AVal.str s] := ⟨_, rfl⟩
  unfold IsStrs at hv
  rw [← hxs] at hv
  cases hv with
  | nil =>
    have e0 : l = [] := List.map_eq_nil_iff.1 hxs.symm
    subst e0
    simp only [VR] at hu
    subst hu
    exact fin (Tryz.strings_Join_none none 0 ⟨⟨sep⟩⟩ w) fun e w' ⟨e1, e2⟩ => ⟨e1, by subst e2; exact Below.refl _ _⟩
  | mk lc o n c xs hn' hw hc hlv hcap =>
    subst hxs
    rw [List.length_map] at hn'
    subst hn'
    obtain ⟨a, cp, rfl, ha⟩ := VR_slice_addr hu
    by_cases h0 : l.length = 0
    · have e0 : l = [] := List.eq_nil_of_length_eq_zero h0
      subst e0
      exact fin (Tryz.strings_Join_none (some a) cp ⟨⟨sep⟩⟩ w) fun e w' ⟨e1, e2⟩ => ⟨e1, by subst e2; exact Below.refl _ _⟩
    · have ha' := ha h0
      obtain ⟨us, u1, u2, u3⟩ := cells_read hr lc (l.length * 1) o a ha' (by rw [hc]; exact hlv)
      rw [hc, flat_strs] at u2
      have hus := VRs_strs u2
      have has := locAddr_spot ha'
      have hcell : ∀ (j : Nat) (x : ByteArray), (l.map fun x => (⟨⟨x⟩⟩ : ByteArray))[j]? = some x → w.cell? ⟨a.block, a.off + j, none⟩ = some (.string x) := fun j x hj => by
        have := u3 j (.string x) (by rw [hus]; simp only [List.getElem?_map, Option.map_eq_some_iff] at hj ⊢; obtain ⟨y, hy, rfl⟩ := hj; exact ⟨y, hy, rfl⟩)
        rw [has] at this
        by_cases hj0 : j = 0
        · subst hj0
          simpa [Addr.add] using this
        · simpa [Addr.add, hj0] using this
      have hblk : a.block < w.heap.size := by
        cases hl0 : l with
        | nil => rw [hl0] at h0; exact absurd rfl h0
        | cons x r => exact cell_lt (hcell 0 ⟨⟨x⟩⟩ (by rw [hl0]; rfl))
      have hcp : l.length ≤ cp := by
        cases c with
        | exact c =>
          simp only [VR] at hu
          obtain ⟨a', e1, _⟩ := hu
          cases e1
          exact hcap
        | grow es =>
          simp only [VR] at hu
          obtain ⟨k, p, c', a', _, _, e1, hle, _⟩ := hu
          cases e1
          exact hle
      have hmm : (l.map fun x => (⟨⟨x⟩⟩ : ByteArray)).map (fun x => x.data.toList) = l := by rw [List.map_map]; exact List.map_id _
      have hj := Tryz.strings_Join a.block a.off cp (l.map fun x => (⟨⟨x⟩⟩ : ByteArray)) ⟨⟨sep⟩⟩ w hcell hblk (by rw [List.length_map]; exact hn) (by rw [List.length_map]; exact hcp) (by rw [hmm]; exact hl)
      rw [List.length_map, hmm, ← has] at hj
      exact fin hj fun e w' ⟨e1, e2⟩ => ⟨e1, e2⟩

/-! ### IndexFunc -/
theorem pred_read (w : World) : PredAtRunes Tryz.prog 51 #[] (fun x => decide ((x : Int) < 32) || decide (126 < (x : Int))) w := fun W x hx hb => by
  show Calls Tryz.prog 51 #[.int .i32 x] W _
  go_enter Tryz.func51, Tryz.ntmps51
  go_wp2
  all_goals (go_ret; exact ⟨by simp_all, 0, rfl⟩)
def badI (s : Str) : Int := match badAt s with | some i => (i : Int) | none => -1
theorem badAt_drop {s : Str} {pos : Nat} (hp : pos < s.length) : (badAt (s.drop pos)) = if okB (s.getD pos 0) = true then (badAt (s.drop (pos + 1))).map (· + 1) else some 0 := by
  unfold badAt
  rw [List.drop_eq_getElem_cons hp, List.findIdx?_cons]
  simp only [List.getD, List.getElem?_eq_getElem hp, Option.getD_some]
  cases okB s[pos] <;> simp
theorem idx_bad (s : Str) : ∀ (f pos : Nat), s.length ≤ pos + f → Lib.idxFuncFrom (fun x => decide ((x : Int) < 32) || decide (126 < (x : Int))) true ⟨⟨s⟩⟩ f pos = match badAt (s.drop pos) with | some i => ((pos + i : Nat) : Int) | none => -1
  | 0, pos, h => by
    rw [List.drop_of_length_le (by omega)]
    rfl
  | f + 1, pos, h => by
    unfold Lib.idxFuncFrom
    have hsz : (⟨⟨s⟩⟩ : ByteArray).size = s.length := rfl
    rw [hsz]
    by_cases hp : pos < s.length
    · rw [if_pos hp, badAt_drop hp, Lib.decode_N]
      show (if (decide ((Lib.decodeN (s.length - pos) (s.getD pos 0).toNat (s.getD (pos + 1) 0).toNat (s.getD (pos + 2) 0).toNat (s.getD (pos + 3) 0).toNat).1 < (32 : Int)) || _) = true then _ else _) = _
      by_cases ha : (s.getD pos 0).toNat < 128
      · rw [Lib.decodeN_ascii _ _ _ _ _ ha]
        simp only
        by_cases hk : okB (s.getD pos 0) = true
        · rw [if_pos hk]
          unfold okB at hk
          simp only [Bool.and_eq_true, decide_eq_true_eq] at hk
          rw [if_neg (by simp only [Bool.or_eq_true, decide_eq_true_eq]; omega), idx_bad s f (pos + 1) (by omega)]
          cases badAt (s.drop (pos + 1)) with
          | none => rfl
          | some i => simp only [Option.map_some]; congr 1; omega
        · rw [if_neg hk]
          unfold okB at hk
          simp only [Bool.and_eq_true, decide_eq_true_eq] at hk
          rw [if_pos (by simp only [Bool.or_eq_true, decide_eq_true_eq]; omega)]
          simp
      · have hk : ¬ okB (s.getD pos 0) = true := by unfold okB; simp only [Bool.and_eq_true, decide_eq_true_eq]; omega
        rw [if_neg hk, if_pos]
        · simp
        · have := Lib.decodeN_cases (s.length - pos) (s.getD pos 0).toNat (s.getD (pos + 1) 0).toNat (s.getD (pos + 2) 0).toNat (s.getD (pos + 3) 0).toNat
          rcases this with h1 | h1 | h1 | h1 | h1
          · omega
          · rw [h1.2.2.2.2]; simp only [Bool.or_eq_true, decide_eq_true_eq]; omega
          · rw [h1.2.2.2.2.2]; simp only [Bool.or_eq_true, decide_eq_true_eq]; omega
          · simp only [Bool.or_eq_true, decide_eq_true_eq]; omega
          · rw [h1]; rfl
    · rw [if_neg hp, List.drop_of_length_le (by omega)]
      rfl
theorem c_bad (w₀ : World) (h : AHeap) (s : Str) : ACall Tryz.prog w₀ 50 [.str s, .func 51 []] h (fun v h' => v = .int .i64 (badI s) ∧ h' = h) := by
  refine acall_of_calls (vals := [.string ⟨⟨s⟩⟩, .func (.func 51) #[] #[]]) (val := .int .i64 (badI s)) Tryz.func50 rfl rfl (fun φ vs hv => ?_) (fun φ => rfl) fun w => ?_
  · simp only [VRs, VR] at hv
    obtain ⟨v, vs', rfl, rfl, v2, vs2, rfl, ⟨cs, rfl, rfl⟩, rfl⟩ := hv
    rfl
  · refine (Tryz.strings_IndexFunc_runes 51 #[] (enters_of Tryz.func51 (by kernel_rfl) rfl) _ ⟨⟨s⟩⟩ w (pred_read w)).mono fun e w' ⟨e1, e2⟩ => ⟨?_, e2⟩
    rw [e1]
    unfold Lib.idxFunc
    rw [idx_bad s _ 0 (by show s.length ≤ 0 + s.length; omega), List.drop_zero]
    unfold badI
    cases badAt s with
    | none => rfl
    | some i => simp only [Nat.zero_add]
end Go.Proofs.YtmadddihphkmoaaGreatDoor

/-
  Contracts: fault, valid, At of the package columns.
  Conditions: none.
-/
namespace Go.Proofs.YtmadddihphkmoaaGreatDoor
open Go.AM
open Go.Proofs
open Go.Col
set_option maxRecDepth 100000

def QE (f : FaultC) : AVal := .agg [.int .i64 f.e, .int .i64 f.line, .int .i64 f.col]
def markC (m : MarkC) : List AVal := [.int .i64 m.frm, .int .i64 m.line, .int .i64 m.col]
def posA (line col : Int) : AVal := .agg [.int .i64 line, .int .i64 col]
def cardA (c : CardC) (mv : AVal) : AVal := .agg [.bool c.left, .str c.text, mv]

theorem c_fault (w₀ : World) (h : AHeap) (e line col : Int) : ACall Tryz.prog w₀ 49 [.int .i64 e, .int .i64 line, .int .i64 col] h (fun v h' => v = QE ⟨e, line, col⟩ ∧ h' = h) := by
  refine qY (n := 12) (rs := [.cell 6 31]) Tryz.func49 rfl rfl rfl rfl (Nat.le_of_ble_eq_true rfl) ?_
  simp only [Qf]
  refine awp_rseq [0, 1, 2, 6] (by rfl) fun K hK => ?_
  refine Qh ze31 (cs := [.int .i64 0, .int .i64 0, .int .i64 0]) (by rfl) fun k0q0 hk0q0 => ?_
  try have hf_0q0 : h k0q0 = none := by first | assumption | (simp only [AHeap.set_none] at hk0q0; simp only [hk0q0])
  simp +decide only [qa, putD, Slots.put, Slots.keep, if_true, if_false, Nat.zero_add, Nat.reduceAdd]
  apply hK; clear hK K
  refine awp_rseq [6] (by rfl) fun K hK => ?_
  simp +decide only [ev, qK, qH, putD, Slots.put, Slots.get, if_true, if_false, true_and, ↓qg, qd, ↓Qo, ↓Qa, bld29_0_1, evP, List.map_cons, List.map_nil, bld31_0_1]
  refine qp (by rfl) (by rfl) (by repeat (first | exact AHeap.set_same _ _ _ | assumption | refine (AHeap.set_ne _ _ (by first | assumption | exact Ne.symm (by assumption))).trans ?_)) QR (by rfl) (by rfl) (by first | exact Nat.le_refl _ | decide | (simp; done) | (simp; omega)) (Nat.zero_le _) (by rfl) ?_
  simp only [AHeap.set_set, AVal.cells]
  simp +decide only [qa, ev, putD, Slots.get, Slots.keep, if_true, if_false, setAt, List.set_cons_zero, List.set_cons_succ, Nat.zero_add, Nat.reduceAdd]
  apply hK; clear hK K
  refine qU ?_
  refine qO h (by repeat (first | exact Sub.refl _ | assumption | refine Sub.trans_set ?_ (by assumption))) (?_) ?_
  · simp +decide only [QF, ql, Slots.get, if_true, and_true, ql, qi XL QR, Qi, qf, List.getD_cons_zero, List.getD_cons_succ, Nat.zero_add, Nat.reduceAdd, qj, allLive, Bool.and_true, qf, List.getD_cons_zero, List.getD_cons_succ, Nat.zero_add, Nat.reduceAdd, qj, allLive, Bool.and_true]
  
  simp +decide only [Slots.get, if_true, and_true, resOfG_one, ql, qi XL QR, Qi, qf, List.getD_cons_zero, List.getD_cons_succ, Nat.zero_add, Nat.reduceAdd, qj, allLive, Bool.and_true, qf, List.getD_cons_zero, List.getD_cons_succ, Nat.zero_add, Nat.reduceAdd, qj, allLive, Bool.and_true, QE]
  all_goals first | rfl | exact ⟨rfl, rfl⟩ | (simp +decide only [if_true, if_false, *]; done) | (trace_state; fail)

theorem validC_go {c : CardC} {b : Int} {i : Nat} (hi : i < c.marks.length) : validC.go c b (c.marks.drop i) = (decide (b < (c.marks.getD i ⟨0, 0, 0⟩).frm ∧ (c.marks.getD i ⟨0, 0, 0⟩).frm < c.text.length ∧ 1 ≤ (c.marks.getD i ⟨0, 0, 0⟩).line ∧ 8 ≤ (c.marks.getD i ⟨0, 0, 0⟩).col ∧ (c.marks.getD i ⟨0, 0, 0⟩).col ≤ 72) && validC.go c (c.marks.getD i ⟨0, 0, 0⟩).frm (c.marks.drop (i + 1))) := by
  rw [List.drop_eq_getElem_cons hi]
  simp only [validC.go, List.getD, List.getElem?_eq_getElem hi, Option.getD_some]

theorem validC_eq {c : CardC} (hn : c.marks ≠ []) : validC c = (decide ((c.marks.getD 0 ⟨0, 0, 0⟩).frm = 0) && validC.go c (-1) c.marks) := by
  unfold validC
  split
  · rename_i h; exact absurd h hn
  · rename_i m ms h; rw [h]; rfl
theorem c_validN (w₀ : World) (h : AHeap) (b : Bool) (t : Str) : ACall Tryz.prog w₀ 35 [.agg [.bool b, .str t, .nilSlice]] h (fun v h' => v = .bool false ∧ h' = h) := by
  refine qY (n := 58) (rs := [.tmp 2]) Tryz.func35 rfl rfl rfl rfl (Nat.le_of_ble_eq_true rfl) ?_
  simp only [Qf]
  refine awp_rseq [1] (by rfl) fun K hK => ?_
  refine aOps_box (by rfl) (by rfl) (by rfl) fun k0q0 hk0q0 => ?_
  try have hf_0q0 : h k0q0 = none := by first | assumption | (simp only [AHeap.set_none] at hk0q0; simp only [hk0q0])
  skip
  simp +decide only [qa, ev, qK, qH, putD, Slots.put, Slots.get, Slots.keep, if_true, if_false, true_and, ↓qc, qb, AVal.cells]
  apply hK; clear hK K
  refine qN ?_
  refine awp_rseq [1, 17] (by rfl) fun K hK => ?_
  simp +decide only [qa, ev, qK, qH, putD, Slots.put, Slots.get, Slots.keep, if_true, if_false, true_and, ↓qF, qo, fa48_2, ↓qJ, Qb, qD ag46, ↓Xw, QH, pLen_nil Tryz.underlying46, ↓qw, qh, qz, cond_false, qm, Xo, ↓qg, qd, ↓XE, agP, Qm, qI, qG, qV, implies_true, decide_true, Bool.not_true, condV_false, false_implies, pickV_true, agL_deadT, ↓Zm, XY, ↓ag_indexAddrL, ↓QW, ↓QN, Qw, Qg, Xa, List.getD_cons_zero, List.getD_cons_succ, Nat.zero_add, lv_nilSlice]
  apply hK; clear hK K
  refine qM (b := _) rfl (fun hb1 => ?_) (fun hb1 => ?_)
  · try simp only at hb1
    refine awp_rseq [2] (by rfl) fun K hK => ?_
    simp +decide only [qa, ev, qK, qH, putD, Slots.put, Slots.keep, if_true, if_false, true_and, ↓qc, qb]
    apply hK; clear hK K
    refine qU ?_
    try simp only [Ql]
    refine qO h (by repeat (first | exact Sub.refl _ | assumption | refine Sub.trans_set ?_ (by assumption))) (Qd (Qe)) ?_
    simp +decide only [Slots.get, if_true, and_true, QD]
    all_goals first | rfl | exact ⟨rfl, rfl⟩ | (simp +decide only [if_true, if_false, *]; done) | (trace_state; fail)
  · exact absurd hb1 (by decide)
theorem c_validE (w₀ : World) (h : AHeap) (b : Bool) (t : Str) (l : AM.Loc) (o : Nat) (cp : Cap) : ACall Tryz.prog w₀ 35 [.agg [.bool b, .str t, .slice l o 0 cp]] h (fun v h' => v = .bool false ∧ h' = h) := by
  refine qY (n := 58) (rs := [.tmp 2]) Tryz.func35 rfl rfl rfl rfl (Nat.le_of_ble_eq_true rfl) ?_
  simp only [Qf]
  refine awp_rseq [1] (by rfl) fun K hK => ?_
  refine aOps_box (by rfl) (by rfl) (by rfl) fun k0q0 hk0q0 => ?_
  try have hf_0q0 : h k0q0 = none := by first | assumption | (simp only [AHeap.set_none] at hk0q0; simp only [hk0q0])
  skip
  simp +decide only [qa, ev, qK, qH, putD, Slots.put, Slots.get, Slots.keep, if_true, if_false, true_and, ↓qc, qb, AVal.cells]
  apply hK; clear hK K
  refine qN ?_
  refine awp_rseq [1, 17] (by rfl) fun K hK => ?_
  simp +decide only [qa, ev, qK, qH, putD, Slots.put, Slots.get, Slots.keep, if_true, if_false, true_and, ↓qF, qo, fa48_2, ↓qJ, Qb, qD ag46, ↓Xw, QH, XH Tryz.underlying46, ↓qw, qh, qz, cond_false, qm, Xo, ↓qg, qd, ↓XE, agP, Qm, qI, qG, qV, implies_true, decide_true, Bool.not_true, condV_false, false_implies, pickV_true, agL_deadT, ↓Zm, XY, ↓ag_indexAddrL, ↓QW, ↓QN, Qw, Qg, Xa, List.getD_cons_zero, List.getD_cons_succ, Nat.zero_add, lv_slice, Int.natCast_zero]
  apply hK; clear hK K
  refine qM (b := _) rfl (fun hb1 => ?_) (fun hb1 => ?_)
  · try simp only at hb1
    refine awp_rseq [2] (by rfl) fun K hK => ?_
    simp +decide only [qa, ev, qK, qH, putD, Slots.put, Slots.keep, if_true, if_false, true_and, ↓qc, qb]
    apply hK; clear hK K
    refine qU ?_
    try simp only [Ql]
    refine qO h (by repeat (first | exact Sub.refl _ | assumption | refine Sub.trans_set ?_ (by assumption))) (Qd (Qe)) ?_
    simp +decide only [Slots.get, if_true, and_true, QD]
    all_goals first | rfl | exact ⟨rfl, rfl⟩ | (simp +decide only [if_true, if_false, *]; done) | (trace_state; fail)
  · exact absurd hb1 (by decide)
theorem c_validS (w₀ : World) (h : AHeap) (c : CardC) (l : AM.Loc) (o : Nat) (cp : Cap) (hm : IsL w₀ h 3 (.slice l o c.marks.length cp) (c.marks.map markC)) (hn : c.marks ≠ []) (hl : c.marks.length ≤ 4611686018427387904) : ACall Tryz.prog w₀ 35 [cardA c (.slice l o c.marks.length cp)] h (fun v h' => v = .bool (validC c) ∧ h' = h) := by
  have hn0 : 0 < c.marks.length := List.length_pos_iff.2 hn
  have hnb : ¬ ((c.marks.length : Int) = 0) := by omega
  unfold cardA
  refine qY (n := 58) (rs := [.tmp 2]) Tryz.func35 rfl rfl rfl rfl (Nat.le_of_ble_eq_true rfl) ?_
  simp only [Qf]
  refine awp_rseq [1] (by rfl) fun K hK => ?_
  refine aOps_box (by rfl) (by rfl) (by rfl) fun k0q0 hk0q0 => ?_
  try have hf_0q0 : h k0q0 = none := by first | assumption | (simp only [AHeap.set_none] at hk0q0; simp only [hk0q0])
  skip
  simp +decide only [qa, ev, qK, qH, putD, Slots.put, Slots.get, Slots.keep, if_true, if_false, true_and, ↓qc, qb, AVal.cells]
  have hm0 := hm.mono (h' := h.set k0q0 ⟨[.bool c.left, .str c.text, .slice l o c.marks.length cp], 0⟩) (Sub.set hk0q0)
  have he0 := hm0.elem (i := 0) (by rw [List.length_map]; exact hn0)
  rw [getD_map ⟨0, 0, 0⟩ hn0] at he0
  simp only [qf, markC, List.cons.injEq, and_true] at he0
  obtain ⟨e00, e01, e02⟩ := he0
  apply hK; clear hK K
  refine qN ?_
  refine awp_rseq [1, 17] (by rfl) fun K hK => ?_
  simp +decide only [qa, ev, qK, qH, putD, Slots.put, Slots.get, Slots.keep, if_true, if_false, true_and, ↓qF, qo, fa48_2, ↓qJ, Qb, qD ag46, ↓Xw, QH, XH Tryz.underlying46, ↓qw, qh, qz, cond_false, qm, Xo, ↓qg, qd, ↓XE, agP, Qm, qI, qG, qV, implies_true, decide_false, Bool.not_false, Qs, forall_const, Bool.false_or, ↓Zm, XY, agL_mk, ↓ag_indexAddrL, Qj Tryz.underlying46 sz56, fa56_0, qD ag3, ↓QW, pI_neq, ↓QN, Qw, Qg, pickV_or, Xa, List.getD_cons_zero, List.getD_cons_succ, Nat.zero_add, qj, lv_slice, e00, hnb, decide_false, Int.toNat_zero]
  repeat (with_reducible refine And.intro ?_ ?_; · first | trivial | omega | (intro hg; simp only [Bool.and_eq_true, Bool.or_eq_true, Bool.not_eq_true', Bool.and_eq_false_iff, Bool.or_eq_false_iff, Bool.not_eq_false', decide_eq_true_eq, decide_eq_false_iff_not, XI] at hg; omega) )
  apply hK; clear hK K
  refine qM (b := _) rfl (fun hb1 => ?_) (fun hb1 => ?_)
  · try simp only [decide_eq_false_iff_not, Bool.not_eq_true'] at hb1
    refine awp_rseq [2] (by rfl) fun K hK => ?_
    simp +decide only [qa, ev, qK, qH, putD, Slots.put, Slots.keep, if_true, if_false, true_and, ↓qc, qb]
    apply hK; clear hK K
    refine qU ?_
    try simp only [Ql]
    refine qO h (by repeat (first | exact Sub.refl _ | assumption | refine Sub.trans_set ?_ (by assumption))) (Qd (Qe)) ?_
    simp +decide only [Slots.get, if_true, and_true, QD]
    rw [validC_eq hn, decide_eq_false hb1, Bool.false_and]
  · try simp only [decide_eq_true_eq, Bool.not_eq_false'] at hb1
    refine qZ ?_
    change Awp _ _ _ _ _ _ _
    refine awp_rseq [1, 3] (by rfl) fun K hK => ?_
    simp +decide only [qa, ev, qK, qH, putD, Slots.put, Slots.keep, if_true, if_false, true_and, ↓qc, qb]
    apply hK; clear hK K
    refine qN ?_
    refine awp_rseq [1, 3, 19, 20, 21] (by rfl) fun K hK => ?_
    simp +decide only [qa, ev, qK, qH, putD, Slots.put, Slots.get, Slots.keep, if_true, if_false, true_and, ↓qF, qo, fa48_2, ↓qJ, Qb, qD ag46, ↓Xw, QH, XH Tryz.underlying46, ↓qg, qd, Xa, List.getD_cons_zero, List.getD_cons_succ, Nat.zero_add, lv_slice]
    apply hK; clear hK K
    refine Qt ?_
    refine XW [1, 3, 19, 20, 21] (fun g : Nat × Int => [(1, .ptr (.own k0q0) 0), (3, .int .i64 g.2), (19, .slice l o c.marks.length cp), (20, .int .i64 c.marks.length), (21, .int .i64 g.1)]) (fun g : Nat × Int => h.set k0q0 ⟨[.bool c.left, .str c.text, .slice l o c.marks.length cp], 0⟩) (fun g : Nat × Int => g.1 ≤ c.marks.length ∧ validC.go c g.2 (c.marks.drop g.1) = validC.go c (-1) c.marks) (fun g : Nat × Int => c.marks.length - g.1) (0, -1) (by rfl) (Sub.refl _) ⟨Nat.zero_le _, rfl⟩ ?_
    rintro ⟨i, b⟩ ⟨hi, hg⟩
    simp only at hi hg ⊢
    refine awp_rseq [1, 3, 19, 20, 21, 22] (by rfl) fun K hK => ?_
    simp +decide only [qa, ev, putD, Slots.put, Slots.get, Slots.keep, if_true, if_false, true_and, ↓qw, qh, qP, cond_false, qm, pI_lss]
    apply hK; clear hK K
    refine qN (qM (b := _) rfl (fun hb2 => ?_) (fun hb2 => ?_))
    · try simp only [decide_eq_true_eq] at hb2
      have hi' : i < c.marks.length := by omega
      have he := hm0.elem (i := i) (by rw [List.length_map]; exact hi')
      rw [getD_map ⟨0, 0, 0⟩ hi'] at he
      simp only [qf, markC, List.cons.injEq, and_true] at he
      obtain ⟨e0, e1, e2⟩ := he
      refine qZ ?_
      change Awp _ _ _ _ _ _ _
      refine qN ?_
      refine Qt ?_
      refine awp_rseq [1, 3, 5, 19, 20, 21] (by rfl) fun K hK => ?_
      simp +decide only [ev, putD, Slots.put, Slots.get, if_true, if_false, true_and, ↓QT, Qb, Qj Tryz.underlying46 sz56, ↓qJ, qi ag56 sz56, qf, qj, allLive, Bool.and_true, e0, e1, e2, Int.toNat_natCast]
      repeat (with_reducible refine And.intro ?_ ?_; · first | trivial | omega | (intro hg; simp only [Bool.and_eq_true, Bool.or_eq_true, Bool.not_eq_true', Bool.and_eq_false_iff, Bool.or_eq_false_iff, Bool.not_eq_false', decide_eq_true_eq, decide_eq_false_iff_not, XI] at hg; omega) )
      refine Qh ze56 (cs := [.int .i64 0, .int .i64 0, .int .i64 0]) (by rfl) fun k6q2 hk6q2 => ?_
      have ne_6q2_0q0 : k6q2 ≠ k0q0 := by simp only [AHeap.set_none] at hk6q2; simp only [hk6q2, ne_eq, not_false_eq_true]
      try have hf_6q2 : h k6q2 = none := by first | assumption | (simp only [AHeap.set_none] at hk6q2; simp only [hk6q2])
      refine qp (by rfl) (by rfl) (by repeat (first | exact AHeap.set_same _ _ _ | assumption | refine (AHeap.set_ne _ _ (by first | assumption | exact Ne.symm (by assumption))).trans ?_)) sz56 (by rfl) (by rfl) (by first | exact Nat.le_refl _ | decide | (simp; done) | (simp; omega)) (Nat.zero_le _) (by rfl) ?_
      simp only [AHeap.set_set, AVal.cells]
      simp +decide only [qa, ev, putD, Slots.put, Slots.get, Slots.keep, if_true, if_false, setAt, List.set_cons_zero, List.set_cons_succ, Nat.zero_add, Nat.reduceAdd]
      apply hK; clear hK K
      refine qN ?_
      refine awp_rseq [1, 5, 19, 20, 21, 54] (by kernel_rfl) fun K hK => ?_
      simp +decide only [qa, ev, qK, qH, putD, Slots.put, Slots.get, Slots.keep, if_true, if_false, true_and, ↓qF, qo, fa56_0, ↓qJ, Qb, qD ag3, ↓qg, qd, ↓qw, qh, qP, cond_false, qm, pI_leq, ↓XE, agP, Qm, qI, qG, qV, implies_true, cv_fieldAddr, cp_fieldAddr, ↓Zm, XY, agL_mk, agL_ld2, fa48_1, qD ag9, ↓ag_len, QH, Zk Tryz.underlying9, cv_len, cp_len, ↓QW, XR, cv_binr, XT, cp_binr, pI_geq, ↓QN, Qw, Qg, Za, pickV_or, fa56_1, fa29_0, qz, pI_lss, fa29_1, pI_gtr, XG, ne_eq, not_false_eq_true, ne_6q2_0q0.symm, Xa, List.getD_cons_zero, List.getD_cons_succ, Nat.zero_add, Nat.reduceAdd, qj, qE]
      apply hK; clear hK K
      refine qM (b := _) rfl (fun hb3 => ?_) (fun hb3 => ?_)
      · try simp only [decide_eq_true_eq, Bool.or_eq_true] at hb3
        refine awp_rseq [2] (by rfl) fun K hK => ?_
        simp +decide only [qa, ev, qK, qH, putD, Slots.put, Slots.keep, if_true, if_false, true_and, ↓qc, qb]
        apply hK; clear hK K
        refine qU ?_
        try simp only [Ql, QA]
        refine qO h (by repeat (first | exact Sub.refl _ | assumption | refine Sub.trans_set ?_ (by assumption))) (Qd (Qe)) ?_
        simp +decide only [Slots.get, if_true, and_true, QD]
        rw [validC_eq hn, decide_eq_true hb1, Bool.true_and, ← hg, validC_go hi', decide_eq_false (by omega), Bool.false_and]
      · try simp only [decide_eq_false_iff_not, Bool.or_eq_false_iff] at hb3
        refine qZ ?_
        change Awp _ _ _ _ _ _ _
        refine Xl [1, 3, 19, 20, 21] (by rfl) ?_
        simp +decide only [qa, ev, putD, Slots.put, Slots.get, Slots.keep, if_true, if_false, true_and, ↓qF, qo, fa56_0, ↓qJ, Qb, qD ag3, ↓qc, qb, Xa, List.getD_cons_zero, Nat.zero_add, qj]
        change Awp _ _ _ _ _ _ _
        refine Xl [1, 3, 19, 20, 21] (by rfl) ?_
        simp +decide only [qa, ev, qK, qH, putD, Slots.put, Slots.get, Slots.keep, if_true, if_false, true_and, ↓qw, qh, qz, cond_false, qm, Xk, ↓qg, qd]
        try simp (disch := omega) only [wrap_i64]
        try simp only [qR]
        refine ⟨(i + 1, (c.marks.getD i ⟨0, 0, 0⟩).frm), rfl, (by repeat (first | exact Sub.refl _ | refine Sub.trans_set ?_ (by assumption))), ⟨by simp only; omega, ?_⟩, by simp only; omega⟩
        simp only
        rw [← hg, validC_go hi', decide_eq_true (by omega), Bool.true_and]
    · try simp only [decide_eq_false_iff_not] at hb2
      refine Ze ?_
      change Awp _ _ _ _ _ _ _
      refine awp_rseq [2] (by rfl) fun K hK => ?_
      simp +decide only [qa, ev, qK, qH, putD, Slots.put, Slots.keep, if_true, if_false, true_and, ↓qc, qb]
      apply hK; clear hK K
      refine qU ?_
      refine qO h (by repeat (first | exact Sub.refl _ | assumption | refine Sub.trans_set ?_ (by assumption))) (Qd (Qe)) ?_
      simp +decide only [Slots.get, if_true, and_true, QD]
      rw [validC_eq hn, decide_eq_true hb1, Bool.true_and, ← hg, show i = c.marks.length by omega, List.drop_length]
      rfl
theorem c_valid (w₀ : World) (h : AHeap) (c : CardC) (mv : AVal) (hm : IsL w₀ h 3 mv (c.marks.map markC)) (hl : c.marks.length ≤ 4611686018427387904) : ACall Tryz.prog w₀ 35 [cardA c mv] h (fun v h' => v = .bool (validC c) ∧ h' = h) := by
  by_cases hn : c.marks = []
  · have hv : validC c = false := by unfold validC; rw [hn]
    rw [hv]
    rcases hm.open' with ⟨rfl, _⟩ | ⟨l, o, cp, rfl⟩
    · exact c_validN w₀ h c.left c.text
    · rw [hn]
      exact c_validE w₀ h c.left c.text l o cp
  · obtain ⟨l, o, cp, e⟩ := hm.open (fun e => hn (List.map_eq_nil_iff.1 e))
    rw [List.length_map] at e
    subst e
    exact c_validS w₀ h c l o cp hm hn hl

theorem atGo_append (i : Int) : ∀ (a b : List MarkC) (p : Int × Int), atGo i (a ++ b) p = atGo i b (atGo i a p)
  | [], _, _ => rfl
  | m :: a, b, p => by simp only [List.cons_append, atGo]; exact atGo_append i a b _
theorem atGo_take {i : Int} {l : List MarkC} {k : Nat} (hk : k < l.length) (p : Int × Int) : atGo i (l.take (k + 1)) p = if (l.getD k ⟨0, 0, 0⟩).frm ≤ i then ((l.getD k ⟨0, 0, 0⟩).line, (l.getD k ⟨0, 0, 0⟩).col + i - (l.getD k ⟨0, 0, 0⟩).frm) else atGo i (l.take k) p := by
  have e : l.take (k + 1) = l.take k ++ [l.getD k ⟨0, 0, 0⟩] := by
    rw [List.take_add_one, List.getElem?_eq_getElem hk]
    simp [List.getD, hk]
  rw [e, atGo_append]
  rfl
theorem validC_small {c : CardC} (hv : validC c = true) : ∀ m ∈ c.marks, 0 ≤ m.frm ∧ m.frm < c.text.length ∧ 1 ≤ m.line ∧ 8 ≤ m.col ∧ m.col ≤ 72 := by
  have go : ∀ (l : List MarkC) (b : Int), -1 ≤ b → validC.go c b l = true → ∀ m ∈ l, 0 ≤ m.frm ∧ m.frm < c.text.length ∧ 1 ≤ m.line ∧ 8 ≤ m.col ∧ m.col ≤ 72 := by
    intro l
    induction l with
    | nil => intro b _ _ m hm; simp at hm
    | cons x l ih =>
      intro b hb hg m hm
      simp only [validC.go, Bool.and_eq_true, decide_eq_true_eq] at hg
      rcases List.mem_cons.1 hm with rfl | hm
      · omega
      · exact ih _ (by omega) hg.2 m hm
  by_cases hn : c.marks = []
  · rw [hn]; simp
  · rw [validC_eq hn, Bool.and_eq_true] at hv
    exact go _ _ (by omega) hv.2
theorem c_At (w₀ : World) (h : AHeap) (c : CardC) (mv : AVal) (i : Int) (hm : IsL w₀ h 3 mv (c.marks.map markC)) (hl : c.marks.length ≤ 4611686018427387904) (ht : c.text.length ≤ 4611686018427387904) (hi0 : -9223372036854775808 ≤ i) : ACall Tryz.prog w₀ 16 [cardA c mv, .int .i64 i] h (fun v h' => v = .tuple [posA (atE c i).1 (atE c i).2.1, .int .i64 (atE c i).2.2] ∧ h' = h) := by
  have hlm := hm.live
  have hlen := hm.len Tryz.underlying46
  rw [List.length_map] at hlen
  unfold cardA
  refine qY (n := 49) (rs := [.cell 4 29, .tmp 5]) Tryz.func16 rfl rfl rfl rfl (Nat.le_of_ble_eq_true rfl) ?_
  simp only [Qf]
  refine awp_rseq [1, 2, 4] (by rfl) fun K hK => ?_
  refine aOps_box (by rfl) (by rfl) (by rfl) fun k0q0 hk0q0 => ?_
  try have hf_0q0 : h k0q0 = none := by first | assumption | (simp only [AHeap.set_none] at hk0q0; simp only [hk0q0])
  skip
  refine Qh ze29 (cs := [.int .i64 0, .int .i64 0]) (by rfl) fun k0q1 hk0q1 => ?_
  have ne_0q1_0q0 : k0q1 ≠ k0q0 := by simp only [AHeap.set_none] at hk0q1; simp only [hk0q1, ne_eq, not_false_eq_true]
  try have hf_0q1 : h k0q1 = none := by first | assumption | (simp only [AHeap.set_none] at hk0q1; simp only [hk0q1])
  simp +decide only [qa, ev, qK, qH, putD, Slots.put, Slots.get, Slots.keep, if_true, if_false, true_and, ↓qc, qb, AVal.cells, Nat.zero_add]
  apply hK; clear hK K
  refine qN ?_
  refine awp_rseq [1, 2, 4, 22] (by rfl) fun K hK => ?_
  simp +decide only [ev, putD, Slots.put, Slots.get, if_true, if_false, true_and, ↓qJ, Qb, qi ag48 sz48, XG, ne_eq, not_false_eq_true, ne_0q1_0q0.symm, Xa, qf, List.getD_cons_zero, List.getD_cons_succ, Nat.zero_add, Nat.reduceAdd, qC, qE, allLive, Bool.and_true, hlm]
  refine qL (V := .bool (validC c)) (by rfl) (by rfl) (c_valid w₀ _ c mv (hm.mono (by repeat (first | exact Sub.refl _ | refine Sub.trans_set ?_ (by assumption)))) hl) ?_
  simp +decide only [qa, ev, qK, qH, putD, Slots.put, Slots.get, Slots.keep, if_true, if_false, true_and, ↓ap_unOp, pop_unOp, pU_not, ↓qg, qd, ↓Xf, agP, Qm, qI, qG, qV, implies_true, Bool.not_not, ↓QW, qh, qz, cond_false, XR, cv_binr, XT, cp_binr, qm, pI_lss, ↓QN, Qw, Qg, Za, pickV_cond_rn, pickV_or, ↓XE, qo, fa48_1, ↓Zm, XY, agL_mk, agL_ld2, qD ag9, ↓ag_len, QH, Zk Tryz.underlying9, cv_len, cp_len, qP, pI_gtr, XG, ne_eq, not_false_eq_true, ne_0q1_0q0.symm, Xa, List.getD_cons_zero, List.getD_cons_succ, Nat.zero_add, qE]
  apply hK; clear hK K
  refine qM (b := _) rfl (fun hb1 => ?_) (fun hb1 => ?_)
  · try simp only [decide_eq_true_eq, Bool.not_eq_true', Bool.or_eq_true] at hb1
    skip
    refine awp_rseq [4, 5] (by rfl) fun K hK => ?_
    simp +decide only [ev, qK, qH, putD, Slots.put, Slots.get, if_false, true_and, ↓Qo, ↓Qa, bld29_, evP, List.map_nil]
    refine qp (by rfl) (by rfl) (by repeat (first | exact AHeap.set_same _ _ _ | assumption | refine (AHeap.set_ne _ _ (by first | assumption | exact Ne.symm (by assumption))).trans ?_)) sz29 (by rfl) (by rfl) (by first | exact Nat.le_refl _ | decide | (simp; done) | (simp; omega)) (Nat.zero_le _) (by rfl) ?_
    simp only [AHeap.set_set, AVal.cells]
    simp +decide only [qa, ev, qK, qH, putD, Slots.put, Slots.get, Slots.keep, if_true, if_false, true_and, ↓qc, qb, setAt, List.set_cons_zero, List.set_cons_succ, Nat.zero_add]
    apply hK; clear hK K
    refine qU ?_
    try simp only [Ql]
    refine qO h (by repeat (first | exact Sub.refl _ | assumption | refine Sub.trans_set ?_ (by assumption))) (?_) ?_
    · simp +decide only [QF, qB, ql, Slots.get, if_true, if_false, and_true, qB, ql, qi ag29 sz29, Qi, qf, List.getD_cons_zero, List.getD_cons_succ, Nat.zero_add, qj, allLive, Bool.and_true, qf, List.getD_cons_zero, List.getD_cons_succ, Nat.zero_add, qj, allLive, Bool.and_true]
    
    simp +decide only [Slots.get, if_true, if_false, and_true, Zo, qB, ql, qi ag29 sz29, Qi, qf, List.getD_cons_zero, List.getD_cons_succ, Nat.zero_add, qj, allLive, Bool.and_true, qf, List.getD_cons_zero, List.getD_cons_succ, Nat.zero_add, qj, allLive, Bool.and_true, posA]
    rw [show atE c i = (0, 0, 1) by unfold atE; rw [if_neg (by rintro ⟨q1, q2, q3⟩; rw [q1] at hb1; simp at hb1; omega)]]
  · try simp only [decide_eq_false_iff_not, Bool.not_eq_false', Bool.or_eq_false_iff] at hb1
    have hv : validC c = true := by have := hb1.1.1; simpa using this
    have hsm := validC_small hv
    have hei : atE c i = ((atGo i c.marks (0, 0)).1, (atGo i c.marks (0, 0)).2, 0) := by unfold atE; rw [if_pos ⟨hv, by omega, by omega⟩]
    have hn : c.marks ≠ [] := fun e => by unfold validC at hv; rw [e] at hv; cases hv
    obtain ⟨l, o, cp, e⟩ := hm.open (fun e => hn (List.map_eq_nil_iff.1 e))
    rw [List.length_map] at e
    subst e
    refine qZ ?_
    change Awp _ _ _ _ _ _ _
    refine awp_rseq [1, 2, 4, 6] (by rfl) fun K hK => ?_
    refine Qh ze29 (cs := [.int .i64 0, .int .i64 0]) (by rfl) fun k3q0 hk3q0 => ?_
    have ne_3q0_0q0 : k3q0 ≠ k0q0 := by simp only [AHeap.set_none] at hk3q0; simp only [hk3q0, ne_eq, not_false_eq_true]
    have ne_3q0_0q1 : k3q0 ≠ k0q1 := by simp only [AHeap.set_none] at hk3q0; simp only [hk3q0, ne_eq, not_false_eq_true]
    try have hf_3q0 : h k3q0 = none := by first | assumption | (simp only [AHeap.set_none] at hk3q0; simp only [hk3q0])
    simp +decide only [qa, putD, Slots.put, Slots.keep, if_true, if_false]
    apply hK; clear hK K
    refine qN ?_
    refine awp_rseq [1, 4, 6, 25, 26, 27] (by rfl) fun K hK => ?_
    simp +decide only [qa, ev, qK, qH, putD, Slots.put, Slots.get, Slots.keep, if_true, if_false, true_and, ↓qF, qo, fa48_2, ↓qJ, Qb, qD ag46, ↓Xw, QH, XH Tryz.underlying46, ↓qg, qd, XG, ne_eq, not_false_eq_true, ne_0q1_0q0.symm, ne_3q0_0q0.symm, Xa, List.getD_cons_zero, List.getD_cons_succ, Nat.zero_add, hlm]
    apply hK; clear hK K
    refine Qt ?_
    refine XW [1, 4, 6, 25, 26, 27] (fun k : Nat => [(1, .int .i64 i), (4, .ptr (.own k0q1) 0), (6, .ptr (.own k3q0) 0), (25, .slice l o c.marks.length cp), (26, .int .i64 c.marks.length), (27, .int .i64 k)]) (fun k : Nat => ((h.set k0q0 ⟨[.bool c.left, .str c.text, .slice l o c.marks.length cp], 0⟩).set k0q1 ⟨[.int .i64 0, .int .i64 0], 0⟩).set k3q0 ⟨[.int .i64 (atGo i (c.marks.take k) (0, 0)).1, .int .i64 (atGo i (c.marks.take k) (0, 0)).2], 0⟩) (fun k : Nat => k ≤ c.marks.length) (fun k : Nat => c.marks.length - k) 0 (by rfl) (Sub.refl _) (Nat.zero_le _) ?_
    intro k hk
    have hmk := hm.mono (h' := ((h.set k0q0 ⟨[.bool c.left, .str c.text, .slice l o c.marks.length cp], 0⟩).set k0q1 ⟨[.int .i64 0, .int .i64 0], 0⟩).set k3q0 ⟨[.int .i64 (atGo i (c.marks.take k) (0, 0)).1, .int .i64 (atGo i (c.marks.take k) (0, 0)).2], 0⟩) (by repeat (first | exact Sub.refl _ | refine Sub.trans_set ?_ (by assumption)))
    refine awp_rseq [1, 4, 6, 25, 26, 27, 28] (by rfl) fun K hK => ?_
    simp +decide only [qa, ev, putD, Slots.put, Slots.get, Slots.keep, if_true, if_false, true_and, ↓qw, qh, qP, cond_false, qm, pI_lss]
    apply hK; clear hK K
    refine qN (qM (b := _) rfl (fun hb2 => ?_) (fun hb2 => ?_))
    · try simp only [decide_eq_true_eq] at hb2
      have hk' : k < c.marks.length := by omega
      have he := hmk.elem (i := k) (by rw [List.length_map]; exact hk')
      rw [getD_map ⟨0, 0, 0⟩ hk'] at he
      simp only [qf, markC, List.cons.injEq, and_true] at he
      obtain ⟨e0, e1, e2⟩ := he
      obtain ⟨m1, m2, m3, m4, m5⟩ := hsm (c.marks.getD k ⟨0, 0, 0⟩) (by rw [List.getD, List.getElem?_eq_getElem hk']; exact List.getElem_mem hk')
      refine qZ ?_
      change Awp _ _ _ _ _ _ _
      refine qN ?_
      refine Qt ?_
      refine awp_rseq [1, 4, 6, 8, 25, 26, 27] (by rfl) fun K hK => ?_
      simp +decide only [ev, putD, Slots.put, Slots.get, if_true, if_false, true_and, ↓QT, Qb, Qj Tryz.underlying46 sz56, ↓qJ, qi ag56 sz56, qf, qj, allLive, Bool.and_true, e0, e1, e2, Int.toNat_natCast]
      repeat (with_reducible refine And.intro ?_ ?_; · first | trivial | omega | (intro hg; simp only [Bool.and_eq_true, Bool.or_eq_true, Bool.not_eq_true', Bool.and_eq_false_iff, Bool.or_eq_false_iff, Bool.not_eq_false', decide_eq_true_eq, decide_eq_false_iff_not, XI] at hg; omega) )
      refine Qh ze56 (cs := [.int .i64 0, .int .i64 0, .int .i64 0]) (by rfl) fun k6q2 hk6q2 => ?_
      have ne_6q2_0q0 : k6q2 ≠ k0q0 := by simp only [AHeap.set_none] at hk6q2; simp only [hk6q2, ne_eq, not_false_eq_true]
      have ne_6q2_0q1 : k6q2 ≠ k0q1 := by simp only [AHeap.set_none] at hk6q2; simp only [hk6q2, ne_eq, not_false_eq_true]
      have ne_6q2_3q0 : k6q2 ≠ k3q0 := by simp only [AHeap.set_none] at hk6q2; simp only [hk6q2, ne_eq, not_false_eq_true]
      try have hf_6q2 : h k6q2 = none := by first | assumption | (simp only [AHeap.set_none] at hk6q2; simp only [hk6q2])
      refine qp (by rfl) (by rfl) (by repeat (first | exact AHeap.set_same _ _ _ | assumption | refine (AHeap.set_ne _ _ (by first | assumption | exact Ne.symm (by assumption))).trans ?_)) sz56 (by rfl) (by rfl) (by first | exact Nat.le_refl _ | decide | (simp; done) | (simp; omega)) (Nat.zero_le _) (by rfl) ?_
      simp only [AHeap.set_set, AVal.cells]
      simp +decide only [qa, ev, putD, Slots.put, Slots.get, Slots.keep, if_true, if_false, setAt, List.set_cons_zero, List.set_cons_succ, Nat.zero_add, Nat.reduceAdd]
      apply hK; clear hK K
      refine awp_rseq [1, 4, 6, 8, 25, 26, 27, 34] (by rfl) fun K hK => ?_
      simp +decide only [qa, ev, putD, Slots.put, Slots.get, Slots.keep, if_true, if_false, true_and, ↓qF, qo, fa56_0, ↓qJ, Qb, qD ag3, ↓qg, qd, ↓qw, qh, qP, cond_false, qm, pI_leq, Xa, List.getD_cons_zero, Nat.zero_add, qj]
      apply hK; clear hK K
      refine qM (b := _) rfl (fun hb3 => ?_) (fun hb3 => ?_)
      · try simp only [decide_eq_true_eq] at hb3
        refine Xl [1, 4, 6, 25, 26, 27] (by rfl) ?_
        simp +decide only [ev, qK, qH, putD, Slots.put, Slots.get, if_true, if_false, true_and, ↓qF, qo, fa56_1, fa29_0, ↓qJ, Qb, qD ag3, fa29_1, ↓qg, qd, ↓qw, qh, qP, cond_false, qm, Xk, fa56_0, pI_sub, ↓Qo, ↓Qa, bld29_0_1, evP, List.map_cons, List.map_nil, Xa, List.getD_cons_zero, List.getD_cons_succ, Nat.zero_add, Nat.reduceAdd, qj, posA]
        try simp (disch := omega) only [wrap_i64]
        refine qp (by rfl) (by rfl) (by repeat (first | exact AHeap.set_same _ _ _ | assumption | refine (AHeap.set_ne _ _ (by first | assumption | exact Ne.symm (by assumption))).trans ?_)) sz29 (by rfl) (by rfl) (by first | exact Nat.le_refl _ | decide | (simp; done) | (simp; omega)) (Nat.zero_le _) (by rfl) ?_
        simp only [AVal.cells]
        simp +decide only [qa, ev, putD, Slots.get, Slots.keep, if_true, if_false, setAt, List.set_cons_zero, List.set_cons_succ, Nat.zero_add]
        change Awp _ _ _ _ _ _ _
        refine Xl [1, 4, 6, 25, 26, 27] (by rfl) ?_
        simp +decide only [qa, ev, qK, qH, putD, Slots.put, Slots.get, Slots.keep, if_true, if_false, true_and, ↓qw, qh, qz, cond_false, qm, Xk, ↓qg, qd]
        try simp (disch := omega) only [wrap_i64]
        try simp only [qR]
        refine ⟨k + 1, rfl, ?_, by omega, by omega⟩
        (rw [atGo_take hk', if_pos hb3]; exact (by repeat (first | exact Sub.refl _ | assumption | refine Sub.set_both ?_ _ _ | refine Sub.trans_set ?_ (by repeat (first | assumption | refine (AHeap.set_ne _ _ (by first | assumption | exact Ne.symm (by assumption))).trans ?_)))))
      · try simp only [decide_eq_false_iff_not] at hb3
        refine qZ ?_
        change Awp _ _ _ _ _ _ _
        refine Xl [1, 4, 6, 25, 26, 27] (by rfl) ?_
        simp +decide only [qa, ev, qK, qH, putD, Slots.put, Slots.get, Slots.keep, if_true, if_false, true_and, ↓qw, qh, qz, cond_false, qm, Xk, ↓qg, qd, posA]
        try simp (disch := omega) only [wrap_i64]
        try simp only [qR]
        refine ⟨k + 1, rfl, ?_, by omega, by omega⟩
        (rw [atGo_take hk', if_neg hb3]; exact (by repeat (first | exact Sub.refl _ | assumption | refine Sub.set_both ?_ _ _ | refine Sub.trans_set ?_ (by repeat (first | assumption | refine (AHeap.set_ne _ _ (by first | assumption | exact Ne.symm (by assumption))).trans ?_)))))
    · try simp only [decide_eq_false_iff_not] at hb2
      refine Ze ?_
      change Awp _ _ _ _ _ _ _
      refine awp_rseq [4, 5] (by rfl) fun K hK => ?_
      simp +decide only [ev, putD, Slots.put, Slots.get, if_true, if_false, true_and, ↓qJ, Qb, qi ag29 sz29, Xa, qf, List.getD_cons_zero, List.getD_cons_succ, Nat.zero_add, qj, allLive, Bool.and_true]
      refine qp (by rfl) (by rfl) (by repeat (first | exact AHeap.set_same _ _ _ | assumption | refine (AHeap.set_ne _ _ (by first | assumption | exact Ne.symm (by assumption))).trans ?_)) sz29 (by rfl) (by rfl) (by first | exact Nat.le_refl _ | decide | (simp; done) | (simp; omega)) (Nat.zero_le _) (by rfl) ?_
      simp only [AVal.cells]
      simp +decide only [qa, ev, qK, qH, putD, Slots.put, Slots.get, Slots.keep, if_true, if_false, true_and, ↓qc, qb, setAt, List.set_cons_zero, List.set_cons_succ, Nat.zero_add]
      apply hK; clear hK K
      refine qU ?_
      refine qO h (by repeat (first | exact Sub.refl _ | assumption | refine Sub.trans_set ?_ (by assumption))) (?_) ?_
      · simp +decide only [QF, qB, ql, Slots.get, if_true, if_false, and_true, qB, ql, qi ag29 sz29, Qi, qf, List.getD_cons_zero, List.getD_cons_succ, Nat.zero_add, qj, allLive, Bool.and_true, qf, List.getD_cons_zero, List.getD_cons_succ, Nat.zero_add, qj, allLive, Bool.and_true]
      
      simp +decide only [Slots.get, if_true, if_false, and_true, Zo, qB, ql, qi ag29 sz29, Qi, qf, List.getD_cons_zero, List.getD_cons_succ, Nat.zero_add, qj, allLive, Bool.and_true, qf, List.getD_cons_zero, List.getD_cons_succ, Nat.zero_add, qj, allLive, Bool.and_true, posA]
      rw [hei, show k = c.marks.length by omega, List.take_length]
end Go.Proofs.YtmadddihphkmoaaGreatDoor

/-
  Contracts: open, read, add of the package columns.
  Conditions: none.
-/
namespace Go.Proofs.YtmadddihphkmoaaGreatDoor
open Go.AM
open Go.Proofs
open Go.Col
set_option maxRecDepth 100000

def rowA (r : RowC) : AVal := .agg [.int .i64 r.line, .bool r.more, .str r.text, .int .i64 r.col]
theorem quotes_le (s : Str) : quotes s ≤ s.length := List.countP_le_length
theorem c_open (w₀ : World) (h : AHeap) (s : Str) (hl : s.length ≤ 4611686018427387904) : ACall Tryz.prog w₀ 43 [.str s] h (fun v h' => v = .bool (Qy s) ∧ h' = h) := by
  have hq := quotes_le s
  refine qY (n := 7) (rs := [.tmp 2]) Tryz.func43 rfl rfl rfl rfl (Nat.le_of_ble_eq_true rfl) ?_
  simp only [Qf]
  refine awp_rseq [0] (by rfl) fun K hK => ?_
  simp +decide only [qa, ev, qK, qH, putD, Slots.put, Slots.keep, if_true, if_false, true_and, ↓qc, qb]
  apply hK; clear hK K
  refine awp_rseq [2] (by rfl) fun K hK => ?_
  simp +decide only [ev, putD, Slots.put, Slots.get, if_true, if_false, true_and, ↓qg, qd]
  refine qL (V := .int .i64 (quotes s)) (by rfl) (by rfl) (c_count w₀ _ s 34) ?_
  simp +decide only [qa, ev, qK, qH, putD, Slots.put, Slots.get, Slots.keep, if_true, if_false, true_and, ↓qw, qh, qz, cond_false, qm, pI_rem, Xo, ↓qc, qb]
  apply hK; clear hK K
  refine qU ?_
  refine qO _ (Sub.refl _) (Qd (Qe)) ?_
  simp +decide only [Slots.get, if_true, and_true, QD]
  unfold Qy
  congr 1
  rw [Int.tmod_eq_emod_of_nonneg (by omega)]
  apply decide_eq_decide.2
  omega

theorem dropWhile_le (p : UInt8 → Bool) (s : Str) : (s.dropWhile p).length ≤ s.length := (List.dropWhile_sublist p).length_le
theorem trimR_le (s : Str) : (trimR s).length ≤ s.length := by
  unfold trimR
  rw [List.length_reverse]
  exact Nat.le_trans (dropWhile_le _ _) (by rw [List.length_reverse]; exact Nat.le_refl _)
theorem c_add (w₀ : World) (H : AHeap) (kx kc : Nat) (D : List AVal) (m : Nat) (mb : Option Buf) (c : CardC) (xl xc : Int) (xo : Bool) (line col : Int) (t : Str)
    (hkx : H kx = some ⟨[.slice (.own kc) 0 (m + 1) (.grow 3), .int .i64 xl, .int .i64 xc, .bool xo], 0⟩) (hkc : H kc = some ⟨D ++ [.bool c.left, .str c.text, XM 3 mb], 0⟩) (hD : D.length = m * 3)
    (hok : bufOk H 3 mb) (hmb : bufC mb = (c.marks.map markC).flatten) (hl : c.text.length + t.length ≤ 1099511627776) (hml : c.marks.length ≤ 1099511627776) (hmm : m ≤ 1099511627776) :
    ACall Tryz.prog w₀ 53 [.ptr (.own kx) 0, .int .i64 line, .int .i64 col, .str t] (Xv H mb)
      (fun v h' => v = .tuple [] ∧ ∃ mb', h' = Xv ((H.set kx ⟨[.slice (.own kc) 0 (m + 1) (.grow 3), .int .i64 line, .int .i64 col, .bool (Qy (c.text ++ t))], 0⟩).set kc ⟨D ++ [.bool c.left, .str (addC c line col t).text, XM 3 mb'], 0⟩) mb' ∧
        bufOk ((H.set kx ⟨[.slice (.own kc) 0 (m + 1) (.grow 3), .int .i64 line, .int .i64 col, .bool (Qy (c.text ++ t))], 0⟩).set kc ⟨D ++ [.bool c.left, .str (addC c line col t).text, XM 3 mb'], 0⟩) 3 mb' ∧ bufC mb' = ((addC c line col t).marks.map markC).flatten) := by
  have hne : kx ≠ kc := fun e => by
    subst e
    rw [hkx] at hkc
    have := congrArg (fun o => (o.map fun b => b.cells.length).getD 0) hkc
    simp [hD] at this
    omega
  have rx := rdBuf w₀ hok hkx
  have rc := rdBuf w₀ hok hkc
  have hidx : ((((m + 1 : Nat) : Int)) - 1).toNat = m := by omega
  have hlv := bufV_live 3 mb
  refine qY (n := 72) (rs := []) Tryz.func53 rfl rfl rfl rfl (Nat.le_of_ble_eq_true rfl) ?_
  simp only [Qf]
  refine awp_dseq_all [0, 1, 2, 3, 8] mixed (by kernel_rfl) (by rfl) (by rfl) fun K hK => ?_
  simp +decide only [ev, qK, qH, putD, Slots.put, Slots.get, if_true, if_false, true_and, ↓qg, qd, ↓QC, Qc, QI, ↓qF, qo, fa72_0, ↓qJ, Qb, qD ag40, ↓Xw, QH, XH Tryz.underlying40, ↓qw, qh, qz, cond_false, qm, pI_sub, List.getD_cons_zero, Nat.zero_add, Nat.reduceAdd, lv_slice, rx]
  try simp (disch := omega) only [wrap_i64]
  try simp +decide only [qa, ev, putD, Slots.put, Slots.get, Slots.keep, if_true, if_false, true_and, ↓QT, Qb, Qj Tryz.underlying40 sz48, ↓qc, qb, Nat.zero_add, hidx]
  repeat (with_reducible refine And.intro ?_ ?_; · first | trivial | omega | (intro hg; simp only [Bool.and_eq_true, Bool.or_eq_true, Bool.not_eq_true', Bool.and_eq_false_iff, Bool.or_eq_false_iff, Bool.not_eq_false', decide_eq_true_eq, decide_eq_false_iff_not, XI] at hg; omega) )
  apply hK; clear hK K
  refine awp_rseq [0, 1, 2, 3, 8] (by rfl) fun K hK => ?_
  simp +decide only [ev, putD, Slots.put, Slots.get, if_true, if_false, true_and, ↓qg, qd, ↓QC, Qc, QI, ↓qF, qo, fa48_1, ↓qJ, Qb, qD ag9, ↓qw, qh, qP, cond_false, XN, pS_add, List.getD_cons_zero, List.getD_cons_succ, qE, rc, getD_app hD]
  repeat (with_reducible refine And.intro ?_ ?_; · first | trivial | omega | (intro hg; simp only [Bool.and_eq_true, Bool.or_eq_true, Bool.not_eq_true', Bool.and_eq_false_iff, Bool.or_eq_false_iff, Bool.not_eq_false', decide_eq_true_eq, decide_eq_false_iff_not, XI] at hg; omega) )
  refine qL (V := .bool (Qy (c.text ++ t))) (by rfl) (by rfl) (c_open w₀ _ _ (by simp; omega)) ?_
  simp +decide only [ev, putD, Slots.put, Slots.get, if_true, if_false, true_and, ↓QC, Qc, QI, ↓qF, qo, fa72_2, Nat.zero_add]
  refine qp (v := .bool (Qy (c.text ++ t))) (by rfl) (by rfl) (bufAt hok hkx) sz4 (by rfl) (by rfl) (by simp) (Nat.zero_le _) (by rfl) ?_
  simp only [setAt, AVal.cells, List.set_cons_zero, List.set_cons_succ]
  rw [bufSet hok hkx]
  simp +decide only [qa, putD, Slots.keep, if_true, if_false]
  have hok1 := bufOkSet hok hkx ⟨[.slice (.own kc) 0 (m + 1) (.grow 3), .int .i64 xl, .int .i64 xc, .bool (Qy (c.text ++ t))], 0⟩
  have hkx1 := AHeap.set_same H kx ⟨[.slice (.own kc) 0 (m + 1) (.grow 3), .int .i64 xl, .int .i64 xc, .bool (Qy (c.text ++ t))], 0⟩
  have hkc1 := (AHeap.set_ne H ⟨[.slice (.own kc) 0 (m + 1) (.grow 3), .int .i64 xl, .int .i64 xc, .bool (Qy (c.text ++ t))], 0⟩ hne.symm).trans hkc
  have rx1 := rdBuf w₀ hok1 hkx1
  apply hK; clear hK K
  refine qN ?_
  refine awp_rseq [0, 1, 2, 3, 8, 34] (by rfl) fun K hK => ?_
  simp +decide only [qa, ev, putD, Slots.put, Slots.get, Slots.keep, if_true, if_false, true_and, ↓qg, qd, ↓QC, Qc, QI, ↓qF, qo, fa72_2, ↓qJ, Qb, qD ag4, ↓ap_unOp, pop_unOp, pU_not, List.getD_cons_zero, List.getD_cons_succ, Nat.zero_add, qC, rx1]
  apply hK; clear hK K
  refine awp_joinT [0, 1, 2, 3, 8] (fun t' : Str => [(0, .ptr (.own kx) 0), (1, .int .i64 line), (2, .int .i64 col), (3, .str t'), (8, .ptr (.own kc) (m * 3))]) (fun t' : Str => Xv (H.set kx ⟨[.slice (.own kc) 0 (m + 1) (.grow 3), .int .i64 xl, .int .i64 xc, .bool (Qy (c.text ++ t))], 0⟩) mb) (fun t' : Str => t' = if Qy (c.text ++ t) = true then t else trimR t) ?_ ?_
  · refine qM (b := _) rfl (fun hb1 => ?_) (fun hb1 => ?_)
    · try simp only [Bool.not_eq_true'] at hb1
      refine Xl [0, 1, 2, 3, 8] (by rfl) ?_
      simp +decide only [ev, putD, Slots.put, Slots.get, if_true, if_false, true_and, ↓qg, qd]
      refine qL (V := .str (trimR t)) (by rfl) (by rfl) (c_trimR w₀ _ t (by omega)) ?_
      simp +decide only [qa, ev, putD, Slots.put, Slots.get, Slots.keep, if_true, if_false, true_and, ↓qc, qb]
      try simp only [qR]
      first | exact ⟨trimR t, rfl, Sub.refl _, by rw [hb1]; rfl⟩ | exact ⟨t, rfl, Sub.refl _, by rw [hb1]; rfl⟩
    · try simp only [Bool.not_eq_false'] at hb1
      refine qZ ?_
      try simp only [qR]
      first | exact ⟨trimR t, rfl, Sub.refl _, by rw [hb1]; rfl⟩ | exact ⟨t, rfl, Sub.refl _, by rw [hb1]; rfl⟩
  · intro t' ht'
    have htl : t'.length ≤ t.length := by
      rw [ht']
      have := trimR_le t
      split <;> omega
    have ha : addC c line col t = ⟨c.left, c.text ++ t', if t' = [] then c.marks else c.marks ++ [⟨c.text.length, line, col⟩]⟩ := by rw [ht']; rfl
    refine awp_rseq [0, 3, 8] (by rfl) fun K hK => ?_
    simp +decide only [ev, qK, qH, putD, Slots.put, Slots.get, if_true, if_false, true_and, ↓qg, qd, ↓Qo, ↓Qa, bld29_0_1, evP, List.map_cons, List.map_nil, ↓QC, Qc, QI, ↓qF, qo, fa72_1, Nat.zero_add]
    refine qp (v := .agg [.int .i64 line, .int .i64 col]) (by rfl) (by rfl) (bufAt hok1 hkx1) sz29 (by rfl) (by rfl) (by simp []) (Nat.zero_le _) (by rfl) ?_
    simp only [setAt, AVal.cells, List.set_cons_zero, List.set_cons_succ, Nat.reduceAdd]
    rw [bufSet hok1 hkx1, AHeap.set_set]
    simp +decide only [qa, putD, Slots.keep, if_true, if_false]
    obtain ⟨H2, hH2⟩ : ∃ H2, H2 = H.set kx ⟨[.slice (.own kc) 0 (m + 1) (.grow 3), .int .i64 line, .int .i64 col, .bool (Qy (c.text ++ t))], 0⟩ := ⟨_, rfl⟩
    have hok2 : bufOk H2 3 mb := by rw [hH2]; exact bufOkSet hok hkx _
    have hkx2 : H2 kx = some ⟨[.slice (.own kc) 0 (m + 1) (.grow 3), .int .i64 line, .int .i64 col, .bool (Qy (c.text ++ t))], 0⟩ := by rw [hH2]; exact AHeap.set_same _ _ _
    have hkc2 : H2 kc = some ⟨D ++ [.bool c.left, .str c.text, XM 3 mb], 0⟩ := by rw [hH2]; exact (AHeap.set_ne _ _ hne.symm).trans hkc
    rw [← hH2]
    have rx2 := rdBuf w₀ hok2 hkx2
    have rc2 := rdBuf w₀ hok2 hkc2
    apply hK; clear hK K
    refine qN ?_
    refine awp_rseq [0, 3, 8, 44] (by rfl) fun K hK => ?_
    simp +decide only [qa, ev, qK, qH, putD, Slots.put, Slots.get, Slots.keep, if_true, if_false, true_and, ↓qg, qd, ↓qw, qh, isNilC_str, cond_false, XN, pS_neq]
    apply hK; clear hK K
    refine qM (b := _) rfl (fun hb2 => ?_) (fun hb2 => ?_)
    · try simp only [decide_eq_false_iff_not, Bool.not_eq_true'] at hb2
      refine awp_draw_F 16 [0] mixed (by kernel_rfl) (by rfl) ?_
      simp only [List.take_succ_cons, List.take_zero, List.drop_succ_cons, List.drop_zero]
      simp +decide only [ev, qK, qH, putD, Slots.put, Slots.get, if_true, if_false, true_and, ↓fp_move, qd, ↓fp_nilCheck, Qc, QI, ↓fp_fieldAddr, qo, fa48_2, ↓fp_load, pop_load, qD ag46, fa48_1, qD ag9, ↓fp_len, QH, Zk Tryz.underlying9, fa72_1, qi ag29 sz29, ↓fp_build, ↓Qa, bld56_0_1, evP, List.map_cons, List.map_nil, qf, List.getD_cons_zero, List.getD_cons_succ, Nat.zero_add, Nat.reduceAdd, qj, qE, allLive, Bool.and_true, rx2, rc2, hlv, getD_app hD]
      refine fOps_lay (by rfl) ?_
      refine Qk (cs := [.int .i64 c.text.length, .int .i64 line, .int .i64 col]) (by kernel_rfl) fun k6q15 hk6q15 => ?_
      try have hf_6q15 : ((Xv H mb)) k6q15 = none := by first | assumption | (simp only [AHeap.set_none] at hk6q15; simp only [hk6q15])
      rw [qa]
      try simp only [fOps_nil]
      refine XF (es := 3) (zs := c.marks.map markC) (xs := [[.int .i64 c.text.length, .int .i64 line, .int .i64 col]]) (h₀ := H2) (b := mb) (by rfl) (by rfl) Tryz.underlying46 Tryz.underlying46 (fun k e => by cases e) sz56 by56 ze56 (by rfl) (by decide) (by rfl) hok2 hmb (by simp [markC]) (Sub.set hk6q15) (by rfl) (IsL.own (AHeap.set_same _ _ _) (by simp) (by rfl) (by rfl) (.exact 1) (Nat.le_refl _)) (by rfl) (by simp; omega) (by simp; omega) fun mb' h6 o1 o2 o3 => ?_
      have hlv' := bufV_live 3 mb'
      simp +decide only [ev, putD, Slots.put, Slots.get, if_true, if_false, true_and, ↓QC, Qc, QI, ↓qF, qo, fa48_2]
      refine qp (v := XM 3 mb') (by rfl) (by rfl) (o3 _ _ (bufAt o1 hkc2)) sz46 hlv' (by cases mb' <;> rfl) (by cases mb' <;> simp [hD, XM]) (Nat.zero_le _) (by cases mb' <;> rfl) ?_
      simp only []
      rw [show (XM 3 mb').cells = [XM 3 mb'] by cases mb' <;> rfl, setAt_app hD]
      simp only [setAt, List.set_cons_zero, List.set_cons_succ]
      simp +decide only [qa, putD]
      change Awp _ _ _ _ _ _ _
      refine Xl [] (by rfl) ?_
      simp +decide only [ev, putD, Slots.put, Slots.get, if_true, if_false, true_and, ↓qg, qd, ↓QC, Qc, QI, ↓qF, qo, fa48_1, ↓qJ, Qb, qD ag9, ↓qw, qh, qP, cond_false, XN, pS_add, Xa, List.getD_cons_zero, List.getD_cons_succ, qE, getD_app hD]
      repeat (with_reducible refine And.intro ?_ ?_; · first | trivial | omega | (intro hg; simp only [Bool.and_eq_true, Bool.or_eq_true, Bool.not_eq_true', Bool.and_eq_false_iff, Bool.or_eq_false_iff, Bool.not_eq_false', decide_eq_true_eq, decide_eq_false_iff_not, XI] at hg; omega) )
      skip
      first
      | refine qp (v := .str (c.text ++ t')) (by rfl) (by rfl) (AHeap.set_same _ _ _) sz9 (by rfl) (by rfl) (by simp [hD]) (Nat.zero_le _) (by rfl) ?_
      | refine qp (v := .str (c.text ++ t')) (by rfl) (by rfl) (bufAt hok2 hkc2) sz9 (by rfl) (by rfl) (by simp [AVal.cells, hD]) (Nat.zero_le _) (by rfl) ?_
      simp only [AVal.cells]
      rw [setAt_app hD]
      simp only [setAt, List.set_cons_zero, List.set_cons_succ]
      simp +decide only [qa, putD, Slots.keep, if_false]
      refine retA_endE (Qe) ?_
      simp +decide only [true_and, resOf_nil]
      refine ⟨Xv (H2.set kc ⟨D ++ [.bool c.left, .str (c.text ++ t'), XM 3 mb'], 0⟩) mb', ?_, mb', ?_, ?_, ?_⟩
      · rw [AHeap.set_set, ← bufSet o1 hkc2]
        exact Sub.set_both o3 _ _
      · rw [hH2, ha]
      · rw [ha, ← hH2]
        exact bufOkSet o1 hkc2 _
      · rw [ha, o2, if_neg hb2, List.map_append]
        rfl
    · try simp only [decide_eq_true_eq, Bool.not_eq_false'] at hb2
      refine qZ ?_
      change Awp _ _ _ _ _ _ _
      refine Xl [] (by rfl) ?_
      simp +decide only [ev, putD, Slots.put, Slots.get, if_true, if_false, true_and, ↓qg, qd, ↓QC, Qc, QI, ↓qF, qo, fa48_1, ↓qJ, Qb, qD ag9, ↓qw, qh, qP, cond_false, XN, pS_add, List.getD_cons_zero, List.getD_cons_succ, qE, rc2, getD_app hD]
      repeat (with_reducible refine And.intro ?_ ?_; · first | trivial | omega | (intro hg; simp only [Bool.and_eq_true, Bool.or_eq_true, Bool.not_eq_true', Bool.and_eq_false_iff, Bool.or_eq_false_iff, Bool.not_eq_false', decide_eq_true_eq, decide_eq_false_iff_not, XI] at hg; omega) )
      skip
      first
      | refine qp (v := .str (c.text ++ t')) (by rfl) (by rfl) (AHeap.set_same _ _ _) sz9 (by rfl) (by rfl) (by simp [AVal.cells, hD]) (Nat.zero_le _) (by rfl) ?_
      | refine qp (v := .str (c.text ++ t')) (by rfl) (by rfl) (bufAt hok2 hkc2) sz9 (by rfl) (by rfl) (by simp [hD]) (Nat.zero_le _) (by rfl) ?_
      simp only [AVal.cells]
      rw [setAt_app hD]
      simp only [setAt, List.set_cons_zero, List.set_cons_succ]
      simp +decide only [qa, putD, Slots.keep, if_false]
      refine retA_endE (Qe) ?_
      simp +decide only [true_and, resOf_nil]
      refine ⟨Xv (H2.set kc ⟨D ++ [.bool c.left, .str (c.text ++ t'), XM 3 mb], 0⟩) mb, ?_, mb, ?_, ?_, ?_⟩
      · rw [← bufSet hok2 hkc2]
        exact Sub.refl _
      · rw [hH2, ha]
      · rw [ha, ← hH2]
        exact bufOkSet hok2 hkc2 _
      · rw [ha, hmb, if_pos hb2]

theorem XB (b c : UInt8) : ((b.toNat : Int) = (c.toNat : Int)) = (b = c) := by
  apply propext
  constructor
  · intro h
    exact UInt8.toNat_inj.1 (by omega)
  · rintro rfl; rfl
theorem padE_len {s : Str} (h : s.length ≤ 80) : 72 ≤ (padE s).length ∧ (padE s).length ≤ 80 := by
  unfold padE sp
  rw [List.length_append, List.length_replicate]
  omega
theorem trimL_le (s : Str) : (Xr s).length ≤ s.length := dropWhile_le _ _
theorem badI_cases (s : Str) : (badAt s = none ∧ badI s = -1) ∨ ∃ i, badAt s = some i ∧ badI s = (i : Int) ∧ i < s.length := by
  unfold badI
  cases h : badAt s with
  | none => exact .inl ⟨rfl, rfl⟩
  | some i => exact .inr ⟨i, rfl, rfl, (List.findIdx?_eq_some_iff_findIdx_eq.1 h).1⟩
theorem lineE_none {s : Str} {line : Int} {dbg : Bool} (h80 : ¬ 80 < s.length) (hb : badAt s = none) : lineE s line dbg =
    if (padE s).getD 6 0 = 42 ∨ (padE s).getD 6 0 = 47 then (rowE s line, false, okF)
    else if (padE s).getD 6 0 = 68 ∨ (padE s).getD 6 0 = 100 then (rowE s line, dbg && !decide ((rowE s line).text = []), okF)
    else if (padE s).getD 6 0 = 32 ∨ (padE s).getD 6 0 = 45 then (rowE s line, !decide ((rowE s line).text = []), okF)
    else (rowE s line, false, ⟨4, line, 7⟩) := by
  unfold lineE
  rw [if_neg h80, hb]
theorem c_read (w₀ : World) (h : AHeap) (s : Str) (line : Int) (dbg : Bool) (hl : s.length ≤ 9223372036854775807) (l0 : 0 ≤ line) (l1 : line ≤ 1099511627776) : ACall Tryz.prog w₀ 25 [.str s, .int .i64 line, .bool dbg] h (fun v h' => v = .tuple [rowA (lineE s line dbg).1, .bool (lineE s line dbg).2.1, QE (lineE s line dbg).2.2] ∧ h' = h) := by
  have w6 : (6 : Int).toNat = 6 := rfl
  have w7 : (7 : Int).toNat = 7 := rfl
  have w72 : (72 : Int).toNat = 72 := rfl
  have w8 : (8 : Int) + ((65 : Nat) : Int) = 73 := rfl
  refine qY (n := 79) (rs := [.cell 6 76, .tmp 7, .cell 8 31]) Tryz.func25 rfl rfl rfl rfl (Nat.le_of_ble_eq_true rfl) ?_
  simp only [Qf]
  refine awp_rseq [0, 1, 2, 6, 8] (by rfl) fun K hK => ?_
  refine Qh ze76 (cs := [.int .i64 0, .bool false, .str [], .int .i64 0]) (by rfl) fun k0q0 hk0q0 => ?_
  try have hf_0q0 : h k0q0 = none := by first | assumption | (simp only [AHeap.set_none] at hk0q0; simp only [hk0q0])
  simp +decide only [ev, qK, qH, putD, Slots.put, if_false, true_and, ↓qc, qb, Nat.zero_add, Nat.reduceAdd]
  refine Qh ze31 (cs := [.int .i64 0, .int .i64 0, .int .i64 0]) (by rfl) fun k0q2 hk0q2 => ?_
  have ne_0q2_0q0 : k0q2 ≠ k0q0 := by simp only [AHeap.set_none] at hk0q2; simp only [hk0q2, ne_eq, not_false_eq_true]
  try have hf_0q2 : h k0q2 = none := by first | assumption | (simp only [AHeap.set_none] at hk0q2; simp only [hk0q2])
  simp +decide only [qa, putD, Slots.put, Slots.keep, if_true, if_false]
  apply hK; clear hK K
  refine qN ?_
  refine awp_rseq [0, 1, 2, 6, 8, 16] (by rfl) fun K hK => ?_
  simp +decide only [qa, ev, qK, qH, putD, Slots.put, Slots.get, Slots.keep, if_true, if_false, true_and, ↓qg, qd, ↓Xw, QH, Zk Tryz.underlying9, ↓qw, qh, qz, cond_false, qm, pI_gtr]
  apply hK; clear hK K
  refine qM (b := _) rfl (fun hb1 => ?_) (fun hb1 => ?_)
  · try simp only [decide_eq_true_eq] at hb1
    refine awp_rseq [6, 7, 8] (by rfl) fun K hK => ?_
    simp +decide only [ev, qK, qH, putD, Slots.put, Slots.get, if_true, if_false, true_and, ↓Qo, ↓Qa, bld76_, evP, List.map_nil, ↓qg, qd]
    refine qL (V := QE ⟨5, line, 81⟩) (by rfl) (by rfl) (c_fault w₀ _ 5 line 81) ?_
    refine qp (by rfl) (by rfl) (by repeat (first | exact AHeap.set_same _ _ _ | assumption | refine (AHeap.set_ne _ _ (by first | assumption | exact Ne.symm (by assumption))).trans ?_)) sz76 (by rfl) (by rfl) (by first | exact Nat.le_refl _ | decide | (simp; done) | (simp; omega)) (Nat.zero_le _) (by rfl) ?_
    simp only [AVal.cells]
    simp +decide only [ev, qK, qH, putD, Slots.put, Slots.get, if_true, if_false, true_and, ↓qc, qb, setAt, List.set_cons_zero, List.set_cons_succ, Nat.zero_add, Nat.reduceAdd, QE]
    refine qp (by rfl) (by rfl) (by repeat (first | exact AHeap.set_same _ _ _ | assumption | refine (AHeap.set_ne _ _ (by first | assumption | exact Ne.symm (by assumption))).trans ?_)) QR (by rfl) (by rfl) (by first | exact Nat.le_refl _ | decide | (simp; done) | (simp; omega)) (Nat.zero_le _) (by rfl) ?_
    simp only [AVal.cells]
    simp +decide only [qa, ev, putD, Slots.get, Slots.keep, if_true, if_false, setAt, List.set_cons_zero, List.set_cons_succ, Nat.zero_add, Nat.reduceAdd]
    apply hK; clear hK K
    refine qU ?_
    try simp only [Ql]
    refine qO h (by repeat (first | exact Sub.refl _ | assumption | refine Sub.trans_set ?_ (by assumption))) (?_) ?_
    · simp +decide only [QF, qB, ql, Slots.get, if_true, if_false, and_true, qB, ql, qi ag76 sz76, qi XL QR, Qi, qf, List.getD_cons_zero, List.getD_cons_succ, Nat.zero_add, Nat.reduceAdd, qC, qj, qE, allLive, Bool.and_true, XG, ne_eq, not_false_eq_true, ne_0q2_0q0.symm, qf, List.getD_cons_zero, List.getD_cons_succ, Nat.zero_add, Nat.reduceAdd, qC, qj, qE, allLive, Bool.and_true]
    
    simp +decide only [Slots.get, if_true, if_false, and_true, Qr, qB, ql, qi ag76 sz76, qi XL QR, Qi, qf, List.getD_cons_zero, List.getD_cons_succ, Nat.zero_add, Nat.reduceAdd, qC, qj, qE, allLive, Bool.and_true, XG, ne_eq, not_false_eq_true, ne_0q2_0q0.symm, qf, List.getD_cons_zero, List.getD_cons_succ, Nat.zero_add, Nat.reduceAdd, qC, qj, qE, allLive, Bool.and_true, QE, rowA]
    unfold lineE
    rw [if_pos (by omega)]
    rfl
  · try simp only [decide_eq_false_iff_not] at hb1
    have h80 : ¬ 80 < s.length := by omega
    refine qZ ?_
    change Awp _ _ _ _ _ _ _
    refine qN ?_
    refine awp_rseq [0, 1, 2, 6, 8, 9] (by rfl) fun K hK => ?_
    simp +decide only [ev, putD, Slots.put, Slots.get, if_true, if_false, true_and, ↓qg, qd]
    refine qL (V := .int .i64 (badI s)) (by rfl) (by rfl) (c_bad w₀ _ s) ?_
    simp +decide only [qa, ev, putD, Slots.put, Slots.get, Slots.keep, if_true, if_false, true_and, ↓qc, qb]
    apply hK; clear hK K
    refine awp_rseq [0, 1, 2, 6, 8, 9, 23] (by rfl) fun K hK => ?_
    simp +decide only [qa, ev, qK, qH, putD, Slots.put, Slots.get, Slots.keep, if_true, if_false, true_and, ↓qg, qd, ↓qw, qh, qz, cond_false, qm, pI_geq]
    apply hK; clear hK K
    refine qM (b := _) rfl (fun hb2 => ?_) (fun hb2 => ?_)
    · try simp only [decide_eq_true_eq] at hb2
      obtain ⟨i, hi1, hi2, hi3⟩ := (badI_cases s).resolve_left (fun e => by omega)
      rw [hi2]
      refine awp_rseq [6, 7, 8] (by rfl) fun K hK => ?_
      simp +decide only [ev, qK, qH, putD, Slots.put, Slots.get, if_true, if_false, true_and, ↓Qo, ↓Qa, bld76_, evP, List.map_nil, ↓qg, qd, ↓qw, qh, qz, cond_false, qm, Xk]
      try simp (disch := omega) only [wrap_i64]
      refine qL (V := QE ⟨4, line, (i : Int) + 1⟩) (by rfl) (by rfl) (c_fault w₀ _ 4 line ((i : Int) + 1)) ?_
      refine qp (by rfl) (by rfl) (by repeat (first | exact AHeap.set_same _ _ _ | assumption | refine (AHeap.set_ne _ _ (by first | assumption | exact Ne.symm (by assumption))).trans ?_)) sz76 (by rfl) (by rfl) (by first | exact Nat.le_refl _ | decide | (simp; done) | (simp; omega)) (Nat.zero_le _) (by rfl) ?_
      simp only [AVal.cells]
      simp +decide only [ev, qK, qH, putD, Slots.put, Slots.get, if_true, if_false, true_and, ↓qc, qb, setAt, List.set_cons_zero, List.set_cons_succ, Nat.zero_add, Nat.reduceAdd, QE]
      refine qp (by rfl) (by rfl) (by repeat (first | exact AHeap.set_same _ _ _ | assumption | refine (AHeap.set_ne _ _ (by first | assumption | exact Ne.symm (by assumption))).trans ?_)) QR (by rfl) (by rfl) (by first | exact Nat.le_refl _ | decide | (simp; done) | (simp; omega)) (Nat.zero_le _) (by rfl) ?_
      simp only [AVal.cells]
      simp +decide only [qa, ev, putD, Slots.get, Slots.keep, if_true, if_false, setAt, List.set_cons_zero, List.set_cons_succ, Nat.zero_add, Nat.reduceAdd]
      apply hK; clear hK K
      refine qU ?_
      try simp only [Ql]
      refine qO h (by repeat (first | exact Sub.refl _ | assumption | refine Sub.trans_set ?_ (by assumption))) (?_) ?_
      · simp +decide only [QF, qB, ql, Slots.get, if_true, if_false, and_true, qB, ql, qi ag76 sz76, qi XL QR, Qi, qf, List.getD_cons_zero, List.getD_cons_succ, Nat.zero_add, Nat.reduceAdd, qC, qj, qE, allLive, Bool.and_true, XG, ne_eq, not_false_eq_true, ne_0q2_0q0.symm, qf, List.getD_cons_zero, List.getD_cons_succ, Nat.zero_add, Nat.reduceAdd, qC, qj, qE, allLive, Bool.and_true]
      
      simp +decide only [Slots.get, if_true, if_false, and_true, Qr, qB, ql, qi ag76 sz76, qi XL QR, Qi, qf, List.getD_cons_zero, List.getD_cons_succ, Nat.zero_add, Nat.reduceAdd, qC, qj, qE, allLive, Bool.and_true, XG, ne_eq, not_false_eq_true, ne_0q2_0q0.symm, qf, List.getD_cons_zero, List.getD_cons_succ, Nat.zero_add, Nat.reduceAdd, qC, qj, qE, allLive, Bool.and_true, QE, rowA]
      unfold lineE
      rw [if_neg h80, hi1]
      rfl
    · try simp only [decide_eq_false_iff_not] at hb2
      have hbn : badAt s = none := by
        rcases badI_cases s with e | ⟨i, e1, e2, e3⟩
        · exact e.1
        · omega
      obtain ⟨p1, p2⟩ := padE_len (s := s) (by omega)
      have hspl : (sp (72 - s.length)).length = 72 - s.length := by simp [sp]
      have hpe : s ++ sp (72 - s.length) = padE s := rfl
      have h65 : (((padE s).drop 7).take 65).length = 65 := by simp; omega
      have htl := trimL_le (((padE s).drop 7).take 65)
      have hmr : decide ((((padE s).getD 6 0).toNat : Int) = 45) = ((padE s).getD 6 0 == 45) := by
        rw [Bool.eq_iff_iff, decide_eq_true_eq, beq_iff_eq]
        exact iff_of_eq (XB _ 45)
      have hln := lineE_none (line := line) (dbg := dbg) h80 hbn
      refine qZ ?_
      change Awp _ _ _ _ _ _ _
      refine awp_rseq [0, 1, 2, 6, 8] (by rfl) fun K hK => ?_
      simp +decide only [ev, qK, qH, putD, Slots.put, Slots.get, if_true, if_false, true_and, ↓qg, qd, ↓Xw, QH, Zk Tryz.underlying9, ↓qw, qh, qP, cond_false, qm, pI_sub, ↓ap_max, pop_max, pMax_int, evs, List.map_cons, List.map_nil]
      try simp (disch := omega) only [wrap_i64]
      rw [show max (0 : Int) (72 - (s.length : Int)) = ((72 - s.length : Nat) : Int) by omega]
      refine qL (V := .str (sp (72 - s.length))) (by rfl) (by rfl) (c_repeat w₀ _ 32 _ (by omega)) ?_
      simp +decide only [qa, ev, putD, Slots.put, Slots.get, Slots.keep, if_true, if_false, true_and, ↓qw, qh, qP, cond_false, XN, pS_add, ↓qc, qb, hpe]
      repeat (with_reducible refine And.intro ?_ ?_; · first | trivial | omega | (intro hg; simp only [Bool.and_eq_true, Bool.or_eq_true, Bool.not_eq_true', Bool.and_eq_false_iff, Bool.or_eq_false_iff, Bool.not_eq_false', decide_eq_true_eq, decide_eq_false_iff_not, XI] at hg; omega) )
      apply hK; clear hK K
      refine awp_rseq [0, 1, 2, 6, 8, 10] (by rfl) fun K hK => ?_
      simp +decide only [qa, ev, qK, qH, putD, Slots.put, Slots.get, Slots.keep, if_true, if_false, true_and, ↓qg, qd, ↓ap_index, pop_index, pIndex_str Tryz.underlying9, ↓qc, qb, w6]
      repeat (with_reducible refine And.intro ?_ ?_; · first | trivial | omega | (intro hg; simp only [Bool.and_eq_true, Bool.or_eq_true, Bool.not_eq_true', Bool.and_eq_false_iff, Bool.or_eq_false_iff, Bool.not_eq_false', decide_eq_true_eq, decide_eq_false_iff_not, XI] at hg; omega) )
      apply hK; clear hK K
      refine awp_rseq [1, 2, 6, 8, 10, 11] (by rfl) fun K hK => ?_
      simp +decide only [qa, ev, qK, qH, putD, Slots.put, Slots.get, Slots.keep, if_true, if_false, true_and, ↓qg, qd, ↓ap_slice, pop_slice, evO, pSliceS_ii Tryz.underlying9, pSliceS, bndA_int, ↓qc, qb, w7, w72, Nat.reduceSub]
      repeat (with_reducible refine And.intro ?_ ?_; · first | trivial | omega | (intro hg; simp only [Bool.and_eq_true, Bool.or_eq_true, Bool.not_eq_true', Bool.and_eq_false_iff, Bool.or_eq_false_iff, Bool.not_eq_false', decide_eq_true_eq, decide_eq_false_iff_not, XI] at hg; omega) )
      apply hK; clear hK K
      refine awp_rseq [1, 2, 6, 8, 10, 11, 12] (by rfl) fun K hK => ?_
      simp +decide only [ev, putD, Slots.put, Slots.get, if_true, if_false, true_and, ↓qg, qd]
      refine qL (V := .str (Xr (((padE s).drop 7).take 65))) (by rfl) (by rfl) (c_trimL w₀ _ _) ?_
      simp +decide only [qa, ev, putD, Slots.put, Slots.get, Slots.keep, if_true, if_false, true_and, ↓qc, qb]
      apply hK; clear hK K
      refine awp_rseq [1, 2, 6, 8, 10, 12, 13] (by rfl) fun K hK => ?_
      simp +decide only [ev, qK, qH, putD, Slots.put, Slots.get, if_true, if_false, true_and, ↓qg, qd, ↓qw, qh, qz, cond_false, qm, Xo, ↓Xw, QH, Zk Tryz.underlying9, qP, Xk, pI_sub, ↓Qo, ↓Qa, bld76_0_1_2_3, evP, List.map_cons, List.map_nil, h65, w8, hmr]
      try simp (disch := omega) only [wrap_i64]
      refine Qh ze76 (cs := [.int .i64 0, .bool false, .str [], .int .i64 0]) (by rfl) fun k10q11 hk10q11 => ?_
      have ne_10q11_0q0 : k10q11 ≠ k0q0 := by simp only [AHeap.set_none] at hk10q11; simp only [hk10q11, ne_eq, not_false_eq_true]
      have ne_10q11_0q2 : k10q11 ≠ k0q2 := by simp only [AHeap.set_none] at hk10q11; simp only [hk10q11, ne_eq, not_false_eq_true]
      try have hf_10q11 : h k10q11 = none := by first | assumption | (simp only [AHeap.set_none] at hk10q11; simp only [hk10q11])
      refine qp (by rfl) (by rfl) (by repeat (first | exact AHeap.set_same _ _ _ | assumption | refine (AHeap.set_ne _ _ (by first | assumption | exact Ne.symm (by assumption))).trans ?_)) sz76 (by rfl) (by rfl) (by first | exact Nat.le_refl _ | decide | (simp; done) | (simp; omega)) (Nat.zero_le _) (by rfl) ?_
      simp only [AHeap.set_set, AVal.cells]
      simp +decide only [qa, ev, putD, Slots.put, Slots.get, Slots.keep, if_true, if_false, setAt, List.set_cons_zero, List.set_cons_succ, Nat.zero_add, Nat.reduceAdd]
      apply hK; clear hK K
      refine qN ?_
      refine awp_rseq [1, 2, 6, 8, 12, 13, 53] (by rfl) fun K hK => ?_
      simp +decide only [qa, ev, putD, Slots.put, Slots.get, Slots.keep, if_true, if_false, true_and, ↓qg, qd]
      apply hK; clear hK K
      refine Qt ?_
      refine qN ?_
      refine awp_rseq [1, 2, 6, 8, 12, 13, 53, 54] (by rfl) fun K hK => ?_
      simp +decide only [qa, ev, qK, qH, putD, Slots.put, Slots.get, Slots.keep, if_true, if_false, true_and, ↓qw, qh, qz, cond_false, qm, Xo, ↓qc, qb]
      apply hK; clear hK K
      refine qM (b := _) rfl (fun hb3 => ?_) (fun hb3 => ?_)
      · try simp only [decide_eq_true_eq] at hb3
        refine qZ ?_
        change Awp _ _ _ _ _ _ _
        refine qM (b := _) rfl (fun hb4 => ?_) (fun hb4 => ?_)
        · try simp only [decide_eq_true_eq] at hb4
          refine awp_rseq [6, 7, 8] (by rfl) fun K hK => ?_
          simp +decide only [ev, qK, qH, putD, Slots.put, Slots.get, if_true, if_false, true_and, ↓qJ, Qb, qi ag76 sz76, ↓Qo, ↓Qa, bld31_, evP, List.map_nil, Xa, qf, List.getD_cons_zero, List.getD_cons_succ, Nat.zero_add, Nat.reduceAdd, qC, qj, qE, allLive, Bool.and_true]
          refine qp (by rfl) (by rfl) (by repeat (first | exact AHeap.set_same _ _ _ | assumption | refine (AHeap.set_ne _ _ (by first | assumption | exact Ne.symm (by assumption))).trans ?_)) sz76 (by rfl) (by rfl) (by first | exact Nat.le_refl _ | decide | (simp; done) | (simp; omega)) (Nat.zero_le _) (by rfl) ?_
          simp only [AVal.cells]
          simp +decide only [ev, qK, qH, putD, Slots.put, Slots.get, if_true, if_false, true_and, ↓qc, qb, setAt, List.set_cons_zero, List.set_cons_succ, Nat.zero_add, Nat.reduceAdd]
          refine qp (by rfl) (by rfl) (by repeat (first | exact AHeap.set_same _ _ _ | assumption | refine (AHeap.set_ne _ _ (by first | assumption | exact Ne.symm (by assumption))).trans ?_)) QR (by rfl) (by rfl) (by first | exact Nat.le_refl _ | decide | (simp; done) | (simp; omega)) (Nat.zero_le _) (by rfl) ?_
          simp only [AVal.cells]
          simp +decide only [qa, ev, putD, Slots.get, Slots.keep, if_true, if_false, setAt, List.set_cons_zero, List.set_cons_succ, Nat.zero_add, Nat.reduceAdd]
          apply hK; clear hK K
          refine qU ?_
          try simp only [Ql, QA]
          refine qO h (by repeat (first | exact Sub.refl _ | assumption | refine Sub.trans_set ?_ (by assumption))) (?_) ?_
          · simp +decide only [QF, qB, ql, Slots.get, if_true, if_false, and_true, qB, ql, qi ag76 sz76, qi XL QR, Qi, qf, List.getD_cons_zero, List.getD_cons_succ, Nat.zero_add, Nat.reduceAdd, qC, qj, qE, allLive, Bool.and_true, XG, ne_eq, not_false_eq_true, ne_0q2_0q0.symm, qf, List.getD_cons_zero, List.getD_cons_succ, Nat.zero_add, Nat.reduceAdd, qC, qj, qE, allLive, Bool.and_true]
          
          simp +decide only [Slots.get, if_true, if_false, and_true, Qr, qB, ql, qi ag76 sz76, qi XL QR, Qi, qf, List.getD_cons_zero, List.getD_cons_succ, Nat.zero_add, Nat.reduceAdd, qC, qj, qE, allLive, Bool.and_true, XG, ne_eq, not_false_eq_true, ne_0q2_0q0.symm, qf, List.getD_cons_zero, List.getD_cons_succ, Nat.zero_add, Nat.reduceAdd, qC, qj, qE, allLive, Bool.and_true, QE, rowA]
          rw [hln, if_pos (.inl ((XB _ 42).mp hb3))]
          rfl
        · try simp only [decide_eq_false_iff_not] at hb4
          exact absurd hb3 hb4
      · try simp only [decide_eq_false_iff_not] at hb3
        refine Xl [1, 2, 6, 8, 12, 13, 53, 54] (by rfl) ?_
        simp +decide only [qa, ev, qK, qH, putD, Slots.put, Slots.get, Slots.keep, if_true, if_false, true_and, ↓qw, qh, qz, cond_false, qm, Xo, ↓qc, qb, QE, rowA]
        change Awp _ _ _ _ _ _ _
        refine qM (b := _) rfl (fun hb9 => ?_) (fun hb9 => ?_)
        · try simp only [decide_eq_true_eq] at hb9
          refine awp_rseq [6, 7, 8] (by rfl) fun K hK => ?_
          simp +decide only [ev, qK, qH, putD, Slots.put, Slots.get, if_true, if_false, true_and, ↓qJ, Qb, qi ag76 sz76, ↓Qo, ↓Qa, bld31_, evP, List.map_nil, Xa, qf, List.getD_cons_zero, List.getD_cons_succ, Nat.zero_add, Nat.reduceAdd, qC, qj, qE, allLive, Bool.and_true]
          refine qp (by rfl) (by rfl) (by repeat (first | exact AHeap.set_same _ _ _ | assumption | refine (AHeap.set_ne _ _ (by first | assumption | exact Ne.symm (by assumption))).trans ?_)) sz76 (by rfl) (by rfl) (by first | exact Nat.le_refl _ | decide | (simp; done) | (simp; omega)) (Nat.zero_le _) (by rfl) ?_
          simp only [AVal.cells]
          simp +decide only [ev, qK, qH, putD, Slots.put, Slots.get, if_true, if_false, true_and, ↓qc, qb, setAt, List.set_cons_zero, List.set_cons_succ, Nat.zero_add, Nat.reduceAdd]
          refine qp (by rfl) (by rfl) (by repeat (first | exact AHeap.set_same _ _ _ | assumption | refine (AHeap.set_ne _ _ (by first | assumption | exact Ne.symm (by assumption))).trans ?_)) QR (by rfl) (by rfl) (by first | exact Nat.le_refl _ | decide | (simp; done) | (simp; omega)) (Nat.zero_le _) (by rfl) ?_
          simp only [AVal.cells]
          simp +decide only [qa, ev, putD, Slots.get, Slots.keep, if_true, if_false, setAt, List.set_cons_zero, List.set_cons_succ, Nat.zero_add, Nat.reduceAdd]
          apply hK; clear hK K
          refine qU ?_
          try simp only [Ql, QA]
          refine qO h (by repeat (first | exact Sub.refl _ | assumption | refine Sub.trans_set ?_ (by assumption))) (?_) ?_
          · simp +decide only [QF, qB, ql, Slots.get, if_true, if_false, and_true, qB, ql, qi ag76 sz76, qi XL QR, Qi, qf, List.getD_cons_zero, List.getD_cons_succ, Nat.zero_add, Nat.reduceAdd, qC, qj, qE, allLive, Bool.and_true, XG, ne_eq, not_false_eq_true, ne_0q2_0q0.symm, qf, List.getD_cons_zero, List.getD_cons_succ, Nat.zero_add, Nat.reduceAdd, qC, qj, qE, allLive, Bool.and_true]
          
          simp +decide only [Slots.get, if_true, if_false, and_true, Qr, qB, ql, qi ag76 sz76, qi XL QR, Qi, qf, List.getD_cons_zero, List.getD_cons_succ, Nat.zero_add, Nat.reduceAdd, qC, qj, qE, allLive, Bool.and_true, XG, ne_eq, not_false_eq_true, ne_0q2_0q0.symm, qf, List.getD_cons_zero, List.getD_cons_succ, Nat.zero_add, Nat.reduceAdd, qC, qj, qE, allLive, Bool.and_true]
          rw [hln, if_pos (.inr ((XB _ 47).mp hb9))]
          rfl
        · try simp only [decide_eq_false_iff_not] at hb9
          have n1 : ¬ ((padE s).getD 6 0 = 42 ∨ (padE s).getD 6 0 = 47) := by
            rintro (e | e)
            · exact hb3 ((XB _ 42).mpr e)
            · exact hb9 ((XB _ 47).mpr e)
          refine qN ?_
          refine awp_rseq [1, 2, 6, 8, 12, 13, 53, 59] (by rfl) fun K hK => ?_
          simp +decide only [qa, ev, qK, qH, putD, Slots.put, Slots.get, Slots.keep, if_true, if_false, true_and, ↓qw, qh, qz, cond_false, qm, Xo, ↓qc, qb]
          apply hK; clear hK K
          refine qM (b := _) rfl (fun hb10 => ?_) (fun hb10 => ?_)
          · try simp only [decide_eq_true_eq] at hb10
            refine qZ ?_
            change Awp _ _ _ _ _ _ _
            refine qM (b := _) rfl (fun hb11 => ?_) (fun hb11 => ?_)
            · try simp only [decide_eq_true_eq] at hb11
              refine awp_rseq [6, 7, 8] (by rfl) fun K hK => ?_
              simp +decide only [ev, qK, qH, putD, Slots.put, Slots.get, if_true, if_false, true_and, ↓qJ, Qb, qi ag76 sz76, ↓qg, qd, ↓Xf, agP, Qm, qI, qG, qy, implies_true, Bool.and_true, ↓QW, qh, isNilC_str, cond_false, XR, XT, XN, pS_neq, ↓QN, Qw, Qg, QZ, Xj, ↓Qo, ↓Qa, bld31_, evP, List.map_nil, Xa, qf, List.getD_cons_zero, List.getD_cons_succ, Nat.zero_add, Nat.reduceAdd, qC, qj, qE, allLive, Bool.and_true]
              refine qp (by rfl) (by rfl) (by repeat (first | exact AHeap.set_same _ _ _ | assumption | refine (AHeap.set_ne _ _ (by first | assumption | exact Ne.symm (by assumption))).trans ?_)) sz76 (by rfl) (by rfl) (by first | exact Nat.le_refl _ | decide | (simp; done) | (simp; omega)) (Nat.zero_le _) (by rfl) ?_
              simp only [AVal.cells]
              simp +decide only [ev, putD, Slots.put, Slots.get, if_true, if_false, true_and, ↓qc, qb, setAt, List.set_cons_zero, List.set_cons_succ, Nat.zero_add, Nat.reduceAdd]
              refine qp (by rfl) (by rfl) (by repeat (first | exact AHeap.set_same _ _ _ | assumption | refine (AHeap.set_ne _ _ (by first | assumption | exact Ne.symm (by assumption))).trans ?_)) QR (by rfl) (by rfl) (by first | exact Nat.le_refl _ | decide | (simp; done) | (simp; omega)) (Nat.zero_le _) (by rfl) ?_
              simp only [AVal.cells]
              simp +decide only [qa, ev, putD, Slots.get, Slots.keep, if_true, if_false, setAt, List.set_cons_zero, List.set_cons_succ, Nat.zero_add, Nat.reduceAdd]
              apply hK; clear hK K
              refine qU ?_
              try simp only [Ql, QA]
              refine qO h (by repeat (first | exact Sub.refl _ | assumption | refine Sub.trans_set ?_ (by assumption))) (?_) ?_
              · simp +decide only [QF, qB, ql, Slots.get, if_true, if_false, and_true, qB, ql, qi ag76 sz76, qi XL QR, Qi, qf, List.getD_cons_zero, List.getD_cons_succ, Nat.zero_add, Nat.reduceAdd, qC, qj, qE, allLive, Bool.and_true, XG, ne_eq, not_false_eq_true, ne_0q2_0q0.symm, qf, List.getD_cons_zero, List.getD_cons_succ, Nat.zero_add, Nat.reduceAdd, qC, qj, qE, allLive, Bool.and_true]
              
              simp +decide only [Slots.get, if_true, if_false, and_true, Qr, qB, ql, qi ag76 sz76, qi XL QR, Qi, qf, List.getD_cons_zero, List.getD_cons_succ, Nat.zero_add, Nat.reduceAdd, qC, qj, qE, allLive, Bool.and_true, XG, ne_eq, not_false_eq_true, ne_0q2_0q0.symm, qf, List.getD_cons_zero, List.getD_cons_succ, Nat.zero_add, Nat.reduceAdd, qC, qj, qE, allLive, Bool.and_true]
              rw [hln, if_neg n1, if_pos (.inl ((XB _ 68).mp hb10))]
              rfl
            · try simp only [decide_eq_false_iff_not] at hb11
              exact absurd hb10 hb11
          · try simp only [decide_eq_false_iff_not] at hb10
            refine Xl [1, 2, 6, 8, 12, 13, 53, 59] (by rfl) ?_
            simp +decide only [qa, ev, qK, qH, putD, Slots.put, Slots.get, Slots.keep, if_true, if_false, true_and, ↓qw, qh, qz, cond_false, qm, Xo, ↓qc, qb]
            change Awp _ _ _ _ _ _ _
            refine qM (b := _) rfl (fun hb14 => ?_) (fun hb14 => ?_)
            · try simp only [decide_eq_true_eq] at hb14
              refine awp_rseq [6, 7, 8] (by rfl) fun K hK => ?_
              simp +decide only [ev, qK, qH, putD, Slots.put, Slots.get, if_true, if_false, true_and, ↓qJ, Qb, qi ag76 sz76, ↓qg, qd, ↓Xf, agP, Qm, qI, qG, qy, implies_true, Bool.and_true, ↓QW, qh, isNilC_str, cond_false, XR, XT, XN, pS_neq, ↓QN, Qw, Qg, QZ, Xj, ↓Qo, ↓Qa, bld31_, evP, List.map_nil, Xa, qf, List.getD_cons_zero, List.getD_cons_succ, Nat.zero_add, Nat.reduceAdd, qC, qj, qE, allLive, Bool.and_true]
              refine qp (by rfl) (by rfl) (by repeat (first | exact AHeap.set_same _ _ _ | assumption | refine (AHeap.set_ne _ _ (by first | assumption | exact Ne.symm (by assumption))).trans ?_)) sz76 (by rfl) (by rfl) (by first | exact Nat.le_refl _ | decide | (simp; done) | (simp; omega)) (Nat.zero_le _) (by rfl) ?_
              simp only [AVal.cells]
              simp +decide only [ev, putD, Slots.put, Slots.get, if_true, if_false, true_and, ↓qc, qb, setAt, List.set_cons_zero, List.set_cons_succ, Nat.zero_add, Nat.reduceAdd]
              refine qp (by rfl) (by rfl) (by repeat (first | exact AHeap.set_same _ _ _ | assumption | refine (AHeap.set_ne _ _ (by first | assumption | exact Ne.symm (by assumption))).trans ?_)) QR (by rfl) (by rfl) (by first | exact Nat.le_refl _ | decide | (simp; done) | (simp; omega)) (Nat.zero_le _) (by rfl) ?_
              simp only [AVal.cells]
              simp +decide only [qa, ev, putD, Slots.get, Slots.keep, if_true, if_false, setAt, List.set_cons_zero, List.set_cons_succ, Nat.zero_add, Nat.reduceAdd]
              apply hK; clear hK K
              refine qU ?_
              try simp only [Ql, QA]
              refine qO h (by repeat (first | exact Sub.refl _ | assumption | refine Sub.trans_set ?_ (by assumption))) (?_) ?_
              · simp +decide only [QF, qB, ql, Slots.get, if_true, if_false, and_true, qB, ql, qi ag76 sz76, qi XL QR, Qi, qf, List.getD_cons_zero, List.getD_cons_succ, Nat.zero_add, Nat.reduceAdd, qC, qj, qE, allLive, Bool.and_true, XG, ne_eq, not_false_eq_true, ne_0q2_0q0.symm, qf, List.getD_cons_zero, List.getD_cons_succ, Nat.zero_add, Nat.reduceAdd, qC, qj, qE, allLive, Bool.and_true]
              
              simp +decide only [Slots.get, if_true, if_false, and_true, Qr, qB, ql, qi ag76 sz76, qi XL QR, Qi, qf, List.getD_cons_zero, List.getD_cons_succ, Nat.zero_add, Nat.reduceAdd, qC, qj, qE, allLive, Bool.and_true, XG, ne_eq, not_false_eq_true, ne_0q2_0q0.symm, qf, List.getD_cons_zero, List.getD_cons_succ, Nat.zero_add, Nat.reduceAdd, qC, qj, qE, allLive, Bool.and_true]
              rw [hln, if_neg n1, if_pos (.inr ((XB _ 100).mp hb14))]
              rfl
            · try simp only [decide_eq_false_iff_not] at hb14
              have n2 : ¬ ((padE s).getD 6 0 = 68 ∨ (padE s).getD 6 0 = 100) := by
                rintro (e | e)
                · exact hb10 ((XB _ 68).mpr e)
                · exact hb14 ((XB _ 100).mpr e)
              refine qN ?_
              refine awp_rseq [1, 6, 8, 12, 13, 53, 69] (by rfl) fun K hK => ?_
              simp +decide only [qa, ev, qK, qH, putD, Slots.put, Slots.get, Slots.keep, if_true, if_false, true_and, ↓qw, qh, qz, cond_false, qm, Xo, ↓qc, qb]
              apply hK; clear hK K
              refine qM (b := _) rfl (fun hb15 => ?_) (fun hb15 => ?_)
              · try simp only [decide_eq_true_eq] at hb15
                refine qZ ?_
                change Awp _ _ _ _ _ _ _
                refine qM (b := _) rfl (fun hb16 => ?_) (fun hb16 => ?_)
                · try simp only [decide_eq_true_eq] at hb16
                  refine awp_rseq [6, 7, 8] (by rfl) fun K hK => ?_
                  simp +decide only [ev, qK, qH, putD, Slots.put, Slots.get, if_true, if_false, true_and, ↓qJ, Qb, qi ag76 sz76, ↓qg, qd, ↓qw, qh, isNilC_str, cond_false, XN, pS_neq, ↓Qo, ↓Qa, bld31_, evP, List.map_nil, Xa, qf, List.getD_cons_zero, List.getD_cons_succ, Nat.zero_add, Nat.reduceAdd, qC, qj, qE, allLive, Bool.and_true]
                  refine qp (by rfl) (by rfl) (by repeat (first | exact AHeap.set_same _ _ _ | assumption | refine (AHeap.set_ne _ _ (by first | assumption | exact Ne.symm (by assumption))).trans ?_)) sz76 (by rfl) (by rfl) (by first | exact Nat.le_refl _ | decide | (simp; done) | (simp; omega)) (Nat.zero_le _) (by rfl) ?_
                  simp only [AVal.cells]
                  simp +decide only [ev, putD, Slots.put, Slots.get, if_true, if_false, true_and, ↓qc, qb, setAt, List.set_cons_zero, List.set_cons_succ, Nat.zero_add, Nat.reduceAdd]
                  refine qp (by rfl) (by rfl) (by repeat (first | exact AHeap.set_same _ _ _ | assumption | refine (AHeap.set_ne _ _ (by first | assumption | exact Ne.symm (by assumption))).trans ?_)) QR (by rfl) (by rfl) (by first | exact Nat.le_refl _ | decide | (simp; done) | (simp; omega)) (Nat.zero_le _) (by rfl) ?_
                  simp only [AVal.cells]
                  simp +decide only [qa, ev, putD, Slots.get, Slots.keep, if_true, if_false, setAt, List.set_cons_zero, List.set_cons_succ, Nat.zero_add, Nat.reduceAdd]
                  apply hK; clear hK K
                  refine qU ?_
                  try simp only [Ql, QA]
                  refine qO h (by repeat (first | exact Sub.refl _ | assumption | refine Sub.trans_set ?_ (by assumption))) (?_) ?_
                  · simp +decide only [QF, qB, ql, Slots.get, if_true, if_false, and_true, qB, ql, qi ag76 sz76, qi XL QR, Qi, qf, List.getD_cons_zero, List.getD_cons_succ, Nat.zero_add, Nat.reduceAdd, qC, qj, qE, allLive, Bool.and_true, XG, ne_eq, not_false_eq_true, ne_0q2_0q0.symm, qf, List.getD_cons_zero, List.getD_cons_succ, Nat.zero_add, Nat.reduceAdd, qC, qj, qE, allLive, Bool.and_true]
                  
                  simp +decide only [Slots.get, if_true, if_false, and_true, Qr, qB, ql, qi ag76 sz76, qi XL QR, Qi, qf, List.getD_cons_zero, List.getD_cons_succ, Nat.zero_add, Nat.reduceAdd, qC, qj, qE, allLive, Bool.and_true, XG, ne_eq, not_false_eq_true, ne_0q2_0q0.symm, qf, List.getD_cons_zero, List.getD_cons_succ, Nat.zero_add, Nat.reduceAdd, qC, qj, qE, allLive, Bool.and_true]
                  rw [hln, if_neg n1, if_neg n2, if_pos (.inl ((XB _ 32).mp hb15))]
                  rfl
                · try simp only [decide_eq_false_iff_not] at hb16
                  exact absurd hb15 hb16
              · try simp only [decide_eq_false_iff_not] at hb15
                refine Xl [1, 6, 8, 12, 13, 69] (by rfl) ?_
                simp +decide only [qa, ev, qK, qH, putD, Slots.put, Slots.get, Slots.keep, if_true, if_false, true_and, ↓qw, qh, qz, cond_false, qm, Xo, ↓qc, qb]
                change Awp _ _ _ _ _ _ _
                refine qM (b := _) rfl (fun hb17 => ?_) (fun hb17 => ?_)
                · try simp only [decide_eq_true_eq] at hb17
                  refine awp_rseq [6, 7, 8] (by rfl) fun K hK => ?_
                  simp +decide only [ev, qK, qH, putD, Slots.put, Slots.get, if_true, if_false, true_and, ↓qJ, Qb, qi ag76 sz76, ↓qg, qd, ↓qw, qh, isNilC_str, cond_false, XN, pS_neq, ↓Qo, ↓Qa, bld31_, evP, List.map_nil, Xa, qf, List.getD_cons_zero, List.getD_cons_succ, Nat.zero_add, Nat.reduceAdd, qC, qj, qE, allLive, Bool.and_true]
                  refine qp (by rfl) (by rfl) (by repeat (first | exact AHeap.set_same _ _ _ | assumption | refine (AHeap.set_ne _ _ (by first | assumption | exact Ne.symm (by assumption))).trans ?_)) sz76 (by rfl) (by rfl) (by first | exact Nat.le_refl _ | decide | (simp; done) | (simp; omega)) (Nat.zero_le _) (by rfl) ?_
                  simp only [AVal.cells]
                  simp +decide only [ev, putD, Slots.put, Slots.get, if_true, if_false, true_and, ↓qc, qb, setAt, List.set_cons_zero, List.set_cons_succ, Nat.zero_add, Nat.reduceAdd]
                  refine qp (by rfl) (by rfl) (by repeat (first | exact AHeap.set_same _ _ _ | assumption | refine (AHeap.set_ne _ _ (by first | assumption | exact Ne.symm (by assumption))).trans ?_)) QR (by rfl) (by rfl) (by first | exact Nat.le_refl _ | decide | (simp; done) | (simp; omega)) (Nat.zero_le _) (by rfl) ?_
                  simp only [AVal.cells]
                  simp +decide only [qa, ev, putD, Slots.get, Slots.keep, if_true, if_false, setAt, List.set_cons_zero, List.set_cons_succ, Nat.zero_add, Nat.reduceAdd]
                  apply hK; clear hK K
                  refine qU ?_
                  try simp only [Ql, QA]
                  refine qO h (by repeat (first | exact Sub.refl _ | assumption | refine Sub.trans_set ?_ (by assumption))) (?_) ?_
                  · simp +decide only [QF, qB, ql, Slots.get, if_true, if_false, and_true, qB, ql, qi ag76 sz76, qi XL QR, Qi, qf, List.getD_cons_zero, List.getD_cons_succ, Nat.zero_add, Nat.reduceAdd, qC, qj, qE, allLive, Bool.and_true, XG, ne_eq, not_false_eq_true, ne_0q2_0q0.symm, qf, List.getD_cons_zero, List.getD_cons_succ, Nat.zero_add, Nat.reduceAdd, qC, qj, qE, allLive, Bool.and_true]
                  
                  simp +decide only [Slots.get, if_true, if_false, and_true, Qr, qB, ql, qi ag76 sz76, qi XL QR, Qi, qf, List.getD_cons_zero, List.getD_cons_succ, Nat.zero_add, Nat.reduceAdd, qC, qj, qE, allLive, Bool.and_true, XG, ne_eq, not_false_eq_true, ne_0q2_0q0.symm, qf, List.getD_cons_zero, List.getD_cons_succ, Nat.zero_add, Nat.reduceAdd, qC, qj, qE, allLive, Bool.and_true]
                  rw [hln, if_neg n1, if_neg n2, if_pos (.inr ((XB _ 45).mp hb17))]
                  rfl
                · try simp only [decide_eq_false_iff_not] at hb17
                  refine qZ ?_
                  change Awp _ _ _ _ _ _ _
                  refine awp_dseq_F 3 [] [6, 7, 8] mixed (by kernel_rfl) (by rfl) fun K hK => ?_
                  simp only [List.take_succ_cons, List.take_zero, List.drop_succ_cons, List.drop_zero]
                  simp +decide only [ev, putD, Slots.put, Slots.get, if_true, if_false, true_and, ↓fp_load, pop_load, qi ag76 sz76, ↓fp_move, qd, Xa, qf, List.getD_cons_zero, List.getD_cons_succ, Nat.zero_add, Nat.reduceAdd, qC, qj, qE, allLive, Bool.and_true]
                  refine fOps_callV (V := QE ⟨4, line, 7⟩) (by rfl) (by rfl) (by first | trivial | (simp +decide only [AVal.okIn, okInL, and_true, true_and, QE, markC, posA, cardA, rowA, AHeap.set_same, Option.isSome_some]; done) | (simp [AVal.okIn, okInL, AHeap.set]; done)) (fun g hg => c_fault w₀ _ 4 line 7) ?_
                  try simp only [fOps_nil]
                  refine qp (by rfl) (by rfl) (by repeat (first | exact AHeap.set_same _ _ _ | assumption | refine (AHeap.set_ne _ _ (by first | assumption | exact Ne.symm (by assumption))).trans ?_)) sz76 (by rfl) (by rfl) (by first | exact Nat.le_refl _ | decide | (simp; done) | (simp; omega)) (Nat.zero_le _) (by rfl) ?_
                  simp only [AVal.cells]
                  simp +decide only [ev, qK, qH, putD, Slots.put, Slots.get, if_true, if_false, true_and, ↓qc, qb, setAt, List.set_cons_zero, List.set_cons_succ, Nat.zero_add, Nat.reduceAdd, QE]
                  refine qp (by rfl) (by rfl) (by repeat (first | exact AHeap.set_same _ _ _ | assumption | refine (AHeap.set_ne _ _ (by first | assumption | exact Ne.symm (by assumption))).trans ?_)) QR (by rfl) (by rfl) (by first | exact Nat.le_refl _ | decide | (simp; done) | (simp; omega)) (Nat.zero_le _) (by rfl) ?_
                  simp only [AVal.cells]
                  simp +decide only [qa, ev, putD, Slots.get, Slots.keep, if_true, if_false, setAt, List.set_cons_zero, List.set_cons_succ, Nat.zero_add, Nat.reduceAdd]
                  apply hK; clear hK K
                  refine qU ?_
                  refine qO h (by repeat (first | exact Sub.refl _ | assumption | refine Sub.trans_set ?_ (by assumption))) (?_) ?_
                  · simp +decide only [QF, qB, ql, Slots.get, if_true, if_false, and_true, qB, ql, qi ag76 sz76, qi XL QR, Qi, qf, List.getD_cons_zero, List.getD_cons_succ, Nat.zero_add, Nat.reduceAdd, qC, qj, qE, allLive, Bool.and_true, XG, ne_eq, not_false_eq_true, ne_0q2_0q0.symm, qf, List.getD_cons_zero, List.getD_cons_succ, Nat.zero_add, Nat.reduceAdd, qC, qj, qE, allLive, Bool.and_true]
                  
                  simp +decide only [Slots.get, if_true, if_false, and_true, Qr, qB, ql, qi ag76 sz76, qi XL QR, Qi, qf, List.getD_cons_zero, List.getD_cons_succ, Nat.zero_add, Nat.reduceAdd, qC, qj, qE, allLive, Bool.and_true, XG, ne_eq, not_false_eq_true, ne_0q2_0q0.symm, qf, List.getD_cons_zero, List.getD_cons_succ, Nat.zero_add, Nat.reduceAdd, qC, qj, qE, allLive, Bool.and_true]
                  rw [hln, if_neg n1, if_neg n2, if_neg]
                  · rfl
                  · rintro (e | e)
                    · exact hb15 ((XB _ 32).mpr e)
                    · exact hb17 ((XB _ 45).mpr e)
end Go.Proofs.YtmadddihphkmoaaGreatDoor

/-
  Contracts: peek, run, word, pictures, separator, skip, take of the scanner.
  Conditions: none.
-/
namespace Go.Proofs.YtmadddihphkmoaaGreatDoor
open Go.AM
open Go.Proofs
open Go.Col
open Go.Tok
open Go.RowKit (Below)
set_option maxRecDepth 100000

def Zc (t : TokC) : List AVal := [.int .u8 t.kind.toNat, .str t.text, .int .i64 t.line, .int .i64 t.col, .bool t.left]
/-- A token that was read, and how many bytes it has, and the error. -/
def nxA (t : Nx) : AVal := .agg [.int .u8 t.kind.toNat, .str t.text, .int .i64 0, .int .i64 0, .bool false]
def nxR (t : Nx) : AVal := .tuple [nxA t, .int .i64 t.n, .int .i64 t.e]
theorem c_peek (w₀ : World) (h : AHeap) (kx : Nat) (lf : Bool) (s : Str) (mv tv : AVal) (i : Nat) (n : Int) (hk : h kx = some ⟨[.bool lf, .str s, mv, .int .i64 i, tv], 0⟩) (i1 : i ≤ 4611686018427387904) (n0 : -1 ≤ n) (n1 : n ≤ 2305843009213693952) :
    ACall Tryz.prog w₀ 84 [.ptr (.own kx) 0, .int .i64 n] h (fun v h' => v = .int .u8 (qA s (i + n)).toNat ∧ h' = h) := by
  have rx := fun o => Xd w₀ hk o
  refine qY (n := 39) (rs := [.tmp 4]) Tryz.func84 rfl rfl rfl rfl (Nat.le_of_ble_eq_true rfl) ?_
  simp only [Qf]
  refine awp_rseq [0, 1] (by rfl) fun K hK => ?_
  simp +decide only [qa, ev, qK, qH, putD, Slots.put, Slots.keep, if_true, if_false, true_and, ↓qc, qb, Nat.zero_add]
  apply hK; clear hK K
  refine qN ?_
  refine awp_dseq_all [0, 1, 26] mixed (by kernel_rfl) (by rfl) (by rfl) fun K hK => ?_
  simp +decide only [qa, ev, qK, qH, putD, Slots.put, Slots.get, Slots.keep, if_true, if_false, true_and, ↓qg, qd, ↓QC, Qc, QI, ↓qF, qo, fa89_1, ↓qJ, Qb, qD ag3, ↓qw, qh, qP, cond_false, qm, Xk, qz, pI_lss, ↓Xf, agP, Qm, qI, qG, qV, implies_true, ↓ag_nilCheck, cv_nil, cp_nil, ↓XE, cv_fieldAddr, cp_fieldAddr, ↓Zm, XY, agL_mk, agL_ld2, ↓QW, XR, cv_binr, XT, cp_binr, fa89_0, fa48_1, qD ag9, ↓ag_len, QH, Zk Tryz.underlying9, cv_len, cp_len, pI_geq, ↓QN, Qw, Qg, Za, pickV_or, List.getD_cons_zero, List.getD_cons_succ, Nat.zero_add, qj, qE, rx]
  try simp (disch := omega) only [wrap_i64]
  apply hK; clear hK K
  refine qM (b := _) rfl (fun hb1 => ?_) (fun hb1 => ?_)
  · try simp only [decide_eq_true_eq, Bool.or_eq_true] at hb1
    skip
    refine awp_rseq [4] (by rfl) fun K hK => ?_
    simp +decide only [qa, ev, qK, qH, putD, Slots.put, Slots.keep, if_true, if_false, true_and, ↓qc, qb]
    apply hK; clear hK K
    refine qU ?_
    try simp only [Ql]
    refine qO h (by repeat (first | exact Sub.refl _ | assumption | refine Sub.trans_set ?_ (by assumption))) (Qd (Qe)) ?_
    simp +decide only [Slots.get, if_true, and_true, QD]
    rw [peekE_ge (by omega)]
    rfl
  · try simp only [decide_eq_false_iff_not, Bool.or_eq_false_iff] at hb1
    have hi : 0 ≤ (i : Int) + n ∧ (i : Int) + n < s.length := by omega
    refine qZ ?_
    change Awp _ _ _ _ _ _ _
    refine awp_dseq_all [4] mixed (by kernel_rfl) (by rfl) (by rfl) fun K hK => ?_
    simp +decide only [ev, putD, Slots.put, Slots.get, if_true, if_false, true_and, ↓qg, qd, ↓QC, Qc, QI, ↓qF, qo, fa89_0, fa48_1, ↓qJ, Qb, qD ag9, fa89_1, qD ag3, ↓qw, qh, qP, cond_false, qm, Xk, List.getD_cons_zero, List.getD_cons_succ, Nat.zero_add, qj, qE, rx]
    try simp (disch := omega) only [wrap_i64]
    try simp +decide only [qa, ev, putD, Slots.put, Slots.get, Slots.keep, if_true, if_false, true_and, ↓ap_index, pop_index, pIndex_str Tryz.underlying9, ↓qc, qb]
    repeat (with_reducible refine And.intro ?_ ?_; · first | trivial | omega | (intro hg; simp only [Bool.and_eq_true, Bool.or_eq_true, Bool.not_eq_true', Bool.and_eq_false_iff, Bool.or_eq_false_iff, Bool.not_eq_false', decide_eq_true_eq, decide_eq_false_iff_not, XI] at hg; omega) )
    apply hK; clear hK K
    refine qU ?_
    refine qO h (by repeat (first | exact Sub.refl _ | assumption | refine Sub.trans_set ?_ (by assumption))) (Qd (Qe)) ?_
    simp +decide only [Slots.get, if_true, and_true, QD]
    unfold qA
    rw [if_neg (by omega)]
theorem runE_next {s : Str} {i n : Nat} {p : UInt8 → Bool} (hn : n ≤ Zn s i p) : n < Zn s i p ↔ i + n < s.length ∧ p (s.getD (i + n) 0) = true := by
  constructor
  · intro h
    have h1 := runE_all (s := s) (p := p) (i := i) h n (Nat.lt_succ_self n)
    refine ⟨?_, h1⟩
    by_cases hi : i ≤ s.length
    · have := runE_le s i p hi
      omega
    · have : Zn s i p = 0 := by rw [runE_step, if_neg (by omega)]
      omega
  · rintro ⟨h1, h2⟩
    by_cases e : n = Zn s i p
    · have := runE_stop (s := s) (p := p) (f := s.length) (i := i) (by omega) (by omega)
      rw [← e, h2] at this
      cases this
    · omega
/-- What a function of a byte answers. -/
abbrev IsFn (w₀ : World) (f : FuncId) (p : UInt8 → Bool) : Prop := ∀ (g : AHeap) (b : UInt8), ACall Tryz.prog w₀ f [.int .u8 b.toNat] g (fun v h' => v = .bool (p b) ∧ h' = g)
theorem c_run (w₀ : World) (h : AHeap) (kx : Nat) (lf : Bool) (s : Str) (mv tv : AVal) (i k : Nat) (f : FuncId) (p : UInt8 → Bool) (hf : IsFn w₀ f p) (hk : h kx = some ⟨[.bool lf, .str s, mv, .int .i64 i, tv], 0⟩) (i1 : i ≤ 1099511627776) (k1 : k ≤ 1099511627776) (hs : s.length ≤ 1099511627776) :
    ACall Tryz.prog w₀ 109 [.ptr (.own kx) 0, .int .i64 k, .func f []] h (fun v h' => v = .int .i64 (Zn s (i + k) p) ∧ h' = h) := by
  have rx := fun o => Xd w₀ hk o
  have hrl := runE_len s (i + k) p
  refine qY (n := 35) (rs := [.tmp 6]) Tryz.func109 rfl rfl rfl rfl (Nat.le_of_ble_eq_true rfl) ?_
  simp only [Qf]
  refine awp_rseq [0, 1, 2] (by rfl) fun K hK => ?_
  simp +decide only [qa, ev, qK, qH, putD, Slots.put, Slots.keep, if_true, if_false, true_and, ↓qc, qb, Nat.zero_add, Nat.reduceAdd]
  apply hK; clear hK K
  refine awp_rseq [0, 1, 2, 7] (by rfl) fun K hK => ?_
  simp +decide only [qa, ev, qK, qH, putD, Slots.put, Slots.keep, if_true, if_false, true_and, ↓qc, qb]
  apply hK; clear hK K
  refine qN ?_
  refine Qt ?_
  refine XW [0, 1, 2, 7] (fun n : Nat => [(0, .ptr (.own kx) 0), (1, .int .i64 k), (2, .func f []), (7, .int .i64 n)]) (fun n : Nat => h) (fun n : Nat => n ≤ Zn s (i + k) p) (fun n : Nat => Zn s (i + k) p - n) 0 rfl (Sub.refl _) (Nat.zero_le _) ?_
  intro n hn
  have hnx := runE_next hn
  have hpk : ∀ q : (i : Int) + k + n < s.length, qA s (i + ((k : Int) + n)) = s.getD (i + k + n) 0 := fun q => by
    rw [show (i : Int) + ((k : Int) + n) = ((i + k + n : Nat) : Int) by omega, Qn (by omega)]
  refine qN ?_
  refine awp_dseq_F 24 [] [0, 1, 2, 7, 31] mixed (by kernel_rfl) (by rfl) fun K hK => ?_
  simp only [List.take_succ_cons, List.drop_succ_cons, List.take_nil, List.drop_nil]
  simp +decide only [qa, ev, putD, Slots.put, Slots.get, if_true, if_false, true_and, ↓fp_move, qd, ↓fp_nilCheck, Qc, QI, ↓fp_fieldAddr, qo, fa89_1, ↓fp_load, pop_load, qD ag3, ↓fp_binOp, qh, qP, cond_false, qm, Xk, fa89_0, fa48_1, qD ag9, ↓fp_len, QH, Zk Tryz.underlying9, pI_lss, ↓fg_move, fgP, fgQ_some, qI, qG, qy, implies_true, ↓fg_binOp, XR, cv_binr, XT, cp_binr, List.getD_cons_zero, List.getD_cons_succ, Nat.zero_add, qj, qE, rx]
  try simp (disch := omega) only [wrap_i64]
  refine fOps_gcall (V := .int .u8 (qA s (i + ((k : Int) + n))).toNat) (f := _) (cap := _) (xs := _) (by first | rfl | (simp +decide only [gv, qI, Slots.get, if_true, if_false, QV, qG])) (fun hg => ⟨rfl, ?_⟩) (by first | trivial | (simp +decide only [AVal.okIn, okInL, and_true, true_and, QE, markC, posA, cardA, nxA, nxR, AHeap.set_same, Option.isSome_some]; done) | (simp [AVal.okIn, okInL, AHeap.set]; done)) (fun hg g hsub => c_peek w₀ _ kx lf s mv tv i ((k : Int) + n) (by first | exact hk | exact hsub _ _ hk) (by omega) (by omega) (by omega)) ?_
  · try simp +decide only [gv, qI, Slots.get, if_true, if_false, qy] at hg
    simp +decide only [evs, ev, Slots.get, if_true, if_false, hg, Qs, List.append_nil, List.map_cons, List.map_nil]
  simp +decide only [putD, Slots.put, Slots.get, if_true, if_false, gv, qI, qy]
  refine fOps_gcall (V := .bool (p (qA s (i + ((k : Int) + n))))) (f := _) (cap := _) (xs := _) (by first | rfl | (simp +decide only [gv, qI, Slots.get, if_true, if_false, QV, qG])) (fun hg => ⟨by (try simp +decide only [gv, qI, Slots.get, if_true, if_false, qy] at hg); simp +decide only [ev, Slots.get, if_true, if_false, hg, Qs]; try rfl, ?_⟩) (by first | trivial | (simp +decide only [AVal.okIn, okInL, and_true, true_and, QE, markC, posA, cardA, nxA, nxR, AHeap.set_same, Option.isSome_some]; done) | (simp [AVal.okIn, okInL, AHeap.set]; done)) (fun hg g hsub => hf _ _) ?_
  · try simp +decide only [gv, qI, Slots.get, if_true, if_false, qy] at hg
    simp +decide only [evs, ev, Slots.get, if_true, if_false, hg, Qs, List.append_nil, List.map_cons, List.map_nil]
  simp +decide only [fOps_nil, ev, qK, qH, putD, Slots.put, Slots.get, Slots.keep, if_true, if_false, true_and, gv, qI, qy, ↓fp_pick, Qw, Qg, QZ, Xj]
  apply hK; clear hK K
  refine qM (b := _) rfl (fun hb1 => ?_) (fun hb1 => ?_)
  · try simp only [decide_eq_true_eq, Bool.and_eq_true] at hb1
    have h1 : n < Zn s (i + k) p := hnx.2 ⟨by omega, by rw [← hpk hb1.1]; exact hb1.2⟩
    refine qZ ?_
    change Awp _ _ _ _ _ _ _
    refine Qt ?_
    refine Xl [0, 1, 2, 7] (by rfl) ?_
    simp +decide only [qa, ev, qK, qH, putD, Slots.put, Slots.get, Slots.keep, if_true, if_false, true_and, ↓qg, qd, ↓qw, qh, qz, cond_false, qm, Xk, ↓qc, qb]
    try simp (disch := omega) only [wrap_i64]
    try simp only [qR, inBlockA_normal]
    exact ⟨n + 1, rfl, Sub.refl _, h1, by omega⟩
  · try simp only [decide_eq_false_iff_not, Bool.and_eq_false_iff] at hb1
    refine Ze ?_
    change Awp _ _ _ _ _ _ _
    refine awp_rseq [6] (by rfl) fun K hK => ?_
    simp +decide only [qa, ev, putD, Slots.put, Slots.get, Slots.keep, if_true, if_false, true_and, ↓qg, qd, ↓qc, qb]
    apply hK; clear hK K
    refine qU ?_
    refine qO h (by repeat (first | exact Sub.refl _ | assumption | refine Sub.trans_set ?_ (by assumption))) (Qd (Qe)) ?_
    simp +decide only [Slots.get, if_true, and_true, QD]
    rw [show n = Zn s (i + k) p by
      by_cases e : n < Zn s (i + k) p
      · have := hnx.1 e
        have h2 : (i : Int) + k + n < s.length := by omega
        rcases hb1 with q | q
        · omega
        · rw [hpk h2, this.2] at q
          cases q
      · omega]
theorem c_sep (w₀ : World) (h : AHeap) (b : UInt8) : ACall Tryz.prog w₀ 85 [.int .u8 b.toNat] h (fun v h' => v = .bool (sepB b) ∧ h' = h) := by
  refine qY (n := 9) (rs := [.tmp 2]) Tryz.func85 rfl rfl rfl rfl (Nat.le_of_ble_eq_true rfl) ?_
  simp only [Qf]
  refine awp_rseq [0] (by rfl) fun K hK => ?_
  simp +decide only [qa, ev, qK, qH, putD, Slots.put, Slots.keep, if_true, if_false, true_and, ↓qc, qb]
  apply hK; clear hK K
  refine awp_rseq [2] (by rfl) fun K hK => ?_
  simp +decide only [qa, ev, qK, qH, putD, Slots.put, Slots.get, Slots.keep, if_true, if_false, true_and, ↓qg, qd, ↓qw, qh, qz, cond_false, qm, Xo, ↓Xf, agP, Qm, qI, qG, qV, implies_true, ↓QW, XR, XT, ↓QN, Qw, Qg, Za, pickV_or, ↓qc, qb]
  apply hK; clear hK K
  refine qU ?_
  refine qO _ (Sub.refl _) (Qd (Qe)) ?_
  simp +decide only [Slots.get, if_true, and_true, QD]
  have e1 : decide ((b.toNat : Int) = 44) = decide (b = 44) := decide_eq_decide.2 (iff_of_eq (XB b 44))
  have e2 : decide ((b.toNat : Int) = 59) = decide (b = 59) := decide_eq_decide.2 (iff_of_eq (XB b 59))
  unfold sepB
  rw [e1, e2]
theorem c_contains (w₀ : World) (h : AHeap) (v : AVal) (l : List Str) (x : Str) (hv : IsStrs w₀ h v l) (hn : l.length ≤ 140737488355328) :
    ACall Tryz.prog w₀ 123 [v, .str x] h (fun r h' => r = .bool (l.contains x) ∧ h' = h) := by
  intro φ vals w hr hvs
  simp only [VRs, VR] at hvs
  obtain ⟨u, vs', rfl, hu, u2, vs2, rfl, rfl, rfl⟩ := hvs
  have fin : ∀ {R : Ending → World → Prop}, Calls Tryz.prog 123 #[u, .string ⟨⟨x⟩⟩] w R → (∀ e w', R e w' → e = .returned (.bool (l.contains x)) ∧ w' = w) →
      Lands Tryz.prog 123 [u, .string ⟨⟨x⟩⟩].toArray w fun v w' => ∃ ψ y h', φ.le ψ ∧ HRel w₀ ψ h' w' ∧ VR ψ y v ∧ y = .bool (l.contains x) ∧ h' = h := fun hc hq =>
    .inl ⟨_, Tryz.func123, rfl, rfl, hc.mono fun e w' hR => ⟨_, (hq e w' hR).1, φ, .bool (l.contains x), h, φ.le_refl, hr.later (by rw [(hq e w' hR).2]; exact Below.refl _ _), rfl, rfl, rfl⟩⟩
  obtain ⟨xs, hxs⟩ : ∃ xs, xs = l.map fun s => [AVal.str s] := ⟨_, rfl⟩
  unfold IsStrs at hv
  rw [← hxs] at hv
  cases hv with
  | nil =>
    have e0 : l = [] := List.map_eq_nil_iff.1 hxs.symm
    subst e0
    simp only [VR] at hu
    subst hu
    exact fin (Tryz.slices_Contains_string_empty none 0 ⟨⟨x⟩⟩ w) fun e w' ⟨e1, e2⟩ => ⟨e1, e2⟩
  | mk lc o n c xs hn' hw hc hlv hcap =>
    subst hxs
    rw [List.length_map] at hn'
    subst hn'
    obtain ⟨a, cp, rfl, ha⟩ := VR_slice_addr hu
    by_cases h0 : l.length = 0
    · have e0 : l = [] := List.eq_nil_of_length_eq_zero h0
      subst e0
      exact fin (Tryz.slices_Contains_string_empty (some a) cp ⟨⟨x⟩⟩ w) fun e w' ⟨e1, e2⟩ => ⟨e1, e2⟩
    · have ha' := ha h0
      obtain ⟨us, u1, u2, u3⟩ := cells_read hr lc (l.length * 1) o a ha' (by rw [hc]; exact hlv)
      rw [hc, flat_strs] at u2
      have hus := VRs_strs u2
      have has := locAddr_spot ha'
      have hcell : ∀ j, j < (l.map fun x => (⟨⟨x⟩⟩ : ByteArray)).length → w.cell? ⟨a.block, a.off + j, none⟩ = some (.string ((l.map fun x => (⟨⟨x⟩⟩ : ByteArray)).getD j ByteArray.empty)) := fun j hj => by
        rw [List.length_map] at hj
        have := u3 j (.string ⟨⟨l[j]⟩⟩) (by rw [hus]; simp [hj])
        rw [has] at this
        rw [show (l.map fun x => (⟨⟨x⟩⟩ : ByteArray)).getD j ByteArray.empty = ⟨⟨l[j]⟩⟩ by simp [List.getD, hj]]
        by_cases hj0 : j = 0
        · subst hj0
          simpa [Addr.add] using this
        · simpa [Addr.add, hj0] using this
      have hj := Tryz.slices_Contains_string a.block a.off l.length cp (l.map fun x => (⟨⟨x⟩⟩ : ByteArray)) ⟨⟨x⟩⟩ w (by rw [List.length_map]; exact Nat.le_refl _) (by omega) hcell
      rw [← has] at hj
      refine fin hj fun e w' ⟨e1, e2⟩ => ⟨?_, e2⟩
      rw [e1, List.take_of_length_le (by rw [List.length_map]; exact Nat.le_refl _)]
      congr 2
      rw [Bool.eq_iff_iff, Lib.containsS_iff, List.mem_map, List.contains_iff_mem]
      constructor
      · rintro ⟨y, hy, e⟩
        have : y = x := congrArg (fun z : ByteArray => z.data.toList) e
        rwa [this] at hy
      · intro hy
        exact ⟨x, hy, rfl⟩
def badT : TokC := ⟨0, [], 0, 0, false⟩
theorem wordE_lo {l : List TokC} {n : Nat} {ws : List Str} (hn : 0 < n) (h : l.length < n) : wordE l n ws = false := by
  unfold wordE
  rw [List.getElem?_eq_none (by rw [List.length_reverse]; omega)]
theorem wordE_hi {l : List TokC} {n : Nat} {ws : List Str} (hn : 0 < n) (h : n ≤ l.length) : wordE l n ws = (decide ((l.getD (l.length - n) badT).kind = 1) && ws.contains (l.getD (l.length - n) badT).text) := by
  unfold wordE
  rw [List.getElem?_reverse (by omega), show l.length - 1 - (n - 1) = l.length - n by omega, List.getElem?_eq_getElem (by omega)]
  simp [List.getD, show l.length - n < l.length by omega]
theorem c_wordLo (w₀ : World) (h : AHeap) (kx : Nat) (lf : Bool) (s : Str) (mv tv : AVal) (i : Int) (l : List TokC) (n : Nat) (v : AVal) (hv : v.live = true) (hk : h kx = some ⟨[.bool lf, .str s, mv, .int .i64 i, tv], 0⟩) (ht : IsL w₀ h 5 tv (l.map Zc)) (hn : l.length < n) (hn' : n ≤ 1000000) :
    ACall Tryz.prog w₀ 106 [.ptr (.own kx) 0, .int .i64 n, v] h (fun r h' => r = .bool false ∧ h' = h) := by
  have rx := fun o => Xd w₀ hk o
  have hlv := ht.live
  have hlen := ht.len Tryz.underlying25
  rw [List.length_map] at hlen
  have hneg : ¬ (0 ≤ (l.length : Int) - n) := by omega
  refine qY (n := 40) (rs := [.tmp 6]) Tryz.func106 rfl rfl rfl rfl (Nat.le_of_ble_eq_true rfl) ?_
  simp only [Qf]
  refine awp_rseq [0, 1, 2] (by rfl) fun K hK => ?_
  simp +decide only [qa, ev, qK, qH, putD, Slots.put, Slots.keep, if_true, if_false, true_and, ↓qc, qb, Nat.zero_add, Nat.reduceAdd]
  apply hK; clear hK K
  refine awp_rseq [0, 2, 7] (by rfl) fun K hK => ?_
  simp +decide only [qa, ev, putD, Slots.put, Slots.get, Slots.keep, if_true, if_false, true_and, ↓qg, qd, ↓QC, Qc, QI, ↓qF, qo, fa89_2, ↓qJ, Qb, qD ag25, ↓Xw, QH, ↓qw, qh, qP, cond_false, qm, pI_sub, ↓qc, qb, List.getD_cons_zero, List.getD_cons_succ, Nat.zero_add, rx, hlv, hlen]
  try simp (disch := omega) only [wrap_i64]
  apply hK; clear hK K
  refine awp_rseq [6] (by kernel_rfl) fun K hK => ?_
  simp +decide only [ev, qK, qH, putD, Slots.put, Slots.get, if_true, if_false, true_and, ↓qg, qd, ↓qw, qh, qz, cond_false, qm, pI_geq, ↓Xf, agP, Qm, qI, qG, qy, implies_true, decide_false, condV_false, false_implies, pickV_false, agL_deadF, ↓ag_nilCheck, Qc, ↓XE, qo, ↓Zm, XY, ↓ag_indexAddrL, ↓QW, ↓QN, Qw, Qg, hneg]
  (refine aOps_no (by rfl) (by rfl) ?_)
  simp +decide only [qa, ev, qK, qH, putD, Slots.put, Slots.get, Slots.keep, if_true, if_false, true_and, ↓QN, Qw, Qg, ↓qc, qb]
  apply hK; clear hK K
  refine qU ?_
  refine qO h (by repeat (first | exact Sub.refl _ | assumption | refine Sub.trans_set ?_ (by assumption))) (Qd (Qe)) ?_
  simp +decide only [Slots.get, if_true, and_true, QD]
  all_goals first | rfl | exact ⟨rfl, rfl⟩ | (simp +decide only [if_true, if_false, *]; done) | (trace_state; fail)
end Go.Proofs.YtmadddihphkmoaaGreatDoor

/-
  Contracts: word, pictures, skip, take of the scanner.
  Conditions: none.
-/
namespace Go.Proofs.YtmadddihphkmoaaGreatDoor
open Go.AM
open Go.Proofs
open Go.Col
open Go.Tok
open Go.RowKit (Below)
set_option maxRecDepth 100000

theorem c_peek0 (w₀ : World) (h : AHeap) (kx : Nat) (lf : Bool) (s : Str) (mv tv : AVal) (i : Nat) (hk : h kx = some ⟨[.bool lf, .str s, mv, .int .i64 i, tv], 0⟩) (i1 : i ≤ 4611686018427387904) :
    ACall Tryz.prog w₀ 84 [.ptr (.own kx) 0, .int .i64 0] h (fun v h' => v = .int .u8 (qA s i).toNat ∧ h' = h) := by
  have := c_peek w₀ h kx lf s mv tv i 0 hk i1 (by omega) (by omega)
  rwa [Int.add_zero] at this
theorem c_run0 (w₀ : World) (h : AHeap) (kx : Nat) (lf : Bool) (s : Str) (mv tv : AVal) (i : Nat) (f : FuncId) (p : UInt8 → Bool) (hf : IsFn w₀ f p) (hk : h kx = some ⟨[.bool lf, .str s, mv, .int .i64 i, tv], 0⟩) (i1 : i ≤ 1099511627776) (hs : s.length ≤ 1099511627776) :
    ACall Tryz.prog w₀ 109 [.ptr (.own kx) 0, .int .i64 0, .func f []] h (fun v h' => v = .int .i64 (Zn s i p) ∧ h' = h) := by
  have := c_run w₀ h kx lf s mv tv i 0 f p hf hk i1 (by omega) hs
  rwa [Nat.add_zero] at this
theorem c_wordHi (w₀ : World) (h : AHeap) (kx : Nat) (lf : Bool) (s : Str) (mv tv : AVal) (i : Int) (l : List TokC) (n : Nat) (v : AVal) (ws : List Str) (hv : IsStrs w₀ h v ws) (hws : ws.length ≤ 1000) (hk : h kx = some ⟨[.bool lf, .str s, mv, .int .i64 i, tv], 0⟩) (ht : IsL w₀ h 5 tv (l.map Zc)) (hn0 : 0 < n) (hn : n ≤ l.length) (hl : l.length ≤ 1099511627776) :
    ACall Tryz.prog w₀ 106 [.ptr (.own kx) 0, .int .i64 n, v] h (fun r h' => r = .bool (wordE l n ws) ∧ h' = h) := by
  have rx := fun o => Xd w₀ hk o
  have hvl := hv.live
  obtain ⟨lc, o, c, e⟩ := ht.open (fun e => by rw [List.map_eq_nil_iff] at e; subst e; simp at hn; omega)
  rw [List.length_map] at e
  subst e
  have hi : l.length - n < l.length := by omega
  have he := ht.elem (i := l.length - n) (by rw [List.length_map]; exact hi)
  rw [getD_map badT hi] at he
  simp only [qf, Zc, List.cons.injEq, and_true] at he
  obtain ⟨e0, e1, e2, e3, e4⟩ := he
  have hpos : (0 ≤ (l.length : Int) - n) := by omega
  have hix : ((l.length : Int) - n).toNat = l.length - n := by omega
  rw [wordE_hi hn0 hn]
  obtain ⟨t, htt⟩ : ∃ t, t = l.getD (l.length - n) badT := ⟨_, rfl⟩
  rw [← htt] at e0 e1 ⊢
  have ek : decide ((t.kind.toNat : Int) = 1) = decide (t.kind = 1) := decide_eq_decide.2 (iff_of_eq (XB t.kind 1))
  refine qY (n := 40) (rs := [.tmp 6]) Tryz.func106 rfl rfl rfl rfl (Nat.le_of_ble_eq_true rfl) ?_
  simp only [Qf]
  refine awp_rseq [0, 1, 2] (by rfl) fun K hK => ?_
  simp +decide only [qa, ev, qK, qH, putD, Slots.put, Slots.keep, if_true, if_false, true_and, ↓qc, qb, Nat.zero_add, Nat.reduceAdd]
  apply hK; clear hK K
  refine awp_rseq [0, 2, 7] (by rfl) fun K hK => ?_
  simp +decide only [qa, ev, putD, Slots.put, Slots.get, Slots.keep, if_true, if_false, true_and, ↓qg, qd, ↓QC, Qc, QI, ↓qF, qo, fa89_2, ↓qJ, Qb, qD ag25, ↓Xw, QH, XH Tryz.underlying25, ↓qw, qh, qP, cond_false, qm, pI_sub, ↓qc, qb, List.getD_cons_zero, List.getD_cons_succ, Nat.zero_add, lv_slice, rx]
  try simp (disch := omega) only [wrap_i64]
  apply hK; clear hK K
  refine awp_rseq [6] (by kernel_rfl) fun K hK => ?_
  simp +decide only [ev, qK, qH, putD, Slots.put, Slots.get, if_true, if_false, true_and, ↓qg, qd, ↓qw, qh, qz, cond_false, qm, pI_geq, ↓Xf, agP, Qm, qI, qG, qy, implies_true, decide_true, Qs, forall_const, Bool.true_and, ↓ag_nilCheck, Qc, QI, cv_nil, cp_nil, ↓XE, qo, fa89_2, cv_fieldAddr, cp_fieldAddr, ↓Zm, XY, agL_mk, agL_ld1, qD ag25, ↓ag_indexAddrL, agL_il1, agL_ir1, Qj Tryz.underlying25 Xi, fa38_0, qD ag36, ↓QW, Xo, ↓QN, Qw, Qg, Xj, fa38_1, qD ag9, List.getD_cons_zero, List.getD_cons_succ, Nat.zero_add, qj, qE, lv_slice, rx, hpos, hix, Nat.add_zero, e0, e1, ek]
  repeat (with_reducible refine And.intro ?_ ?_; · first | trivial | omega | (intro hg; simp only [Bool.and_eq_true, Bool.or_eq_true, Bool.not_eq_true', Bool.and_eq_false_iff, Bool.or_eq_false_iff, Bool.not_eq_false', decide_eq_true_eq, decide_eq_false_iff_not, XI] at hg; omega) )
  (refine XJ (V := .bool (ws.contains t.text)) (f := _) (cap := _) (xs := _) (by first | rfl | (simp +decide only [gv, qI, Slots.get, if_true, if_false, QV, qG])) (fun hg => ⟨rfl, ?_⟩) (fun hg => c_contains w₀ _ v ws t.text hv (by omega)) ?_; · (simp +decide only [gv, qI, Slots.get, if_true, if_false, qy] at hg; simp +decide only [evs, ev, Slots.get, if_true, if_false, hg, Qs, List.append_nil, List.map_cons, List.map_nil] <;> try rfl))
  simp +decide only [qa, ev, qK, qH, putD, Slots.put, Slots.get, Slots.keep, if_true, if_false, true_and, gv, qI, qy, ↓QN, Qw, Qg, QZ, Xj, ↓qc, qb]
  apply hK; clear hK K
  refine qU ?_
  refine qO h (by repeat (first | exact Sub.refl _ | assumption | refine Sub.trans_set ?_ (by assumption))) (Qd (Qe)) ?_
  simp +decide only [Slots.get, if_true, and_true, QD]
  skip
theorem c_word (w₀ : World) (h : AHeap) (kx : Nat) (lf : Bool) (s : Str) (mv tv : AVal) (i : Int) (l : List TokC) (n : Nat) (v : AVal) (ws : List Str) (hv : IsStrs w₀ h v ws) (hws : ws.length ≤ 1000) (hk : h kx = some ⟨[.bool lf, .str s, mv, .int .i64 i, tv], 0⟩) (ht : IsL w₀ h 5 tv (l.map Zc)) (hn0 : 0 < n) (hn1 : n ≤ 1000) (hl : l.length ≤ 1099511627776) :
    ACall Tryz.prog w₀ 106 [.ptr (.own kx) 0, .int .i64 n, v] h (fun r h' => r = .bool (wordE l n ws) ∧ h' = h) := by
  by_cases hn : n ≤ l.length
  · exact c_wordHi w₀ h kx lf s mv tv i l n v ws hv hws hk ht hn0 hn hl
  · rw [wordE_lo hn0 (by omega)]
    exact c_wordLo w₀ h kx lf s mv tv i l n v hv.live hk ht (by omega) (by omega)
theorem strsOwn {w₀ : World} {h : AHeap} {k : Nat} {l : List Str} (hk : h k = some ⟨l.map AVal.str, 0⟩) : IsStrs w₀ h (.slice (.own k) 0 l.length (.exact l.length)) l := by
  have := IsL.own (w₀ := w₀) (es := 1) (xs := l.map fun s => [AVal.str s]) hk (by simp) (by rw [flat_strs]) (by rw [allLive_flatten]; intro x hx; obtain ⟨y, _, rfl⟩ := List.mem_map.1 hx; rfl) (.exact l.length) (by simp)
  rw [List.length_map] at this
  exact this
theorem c_pictures1 (w₀ : World) (h : AHeap) (kx : Nat) (lf : Bool) (s : Str) (mv tv : AVal) (i : Int) (l : List TokC) (hk : h kx = some ⟨[.bool lf, .str s, mv, .int .i64 i, tv], 0⟩) (ht : IsL w₀ h 5 tv (l.map Zc)) (hl : l.length ≤ 1099511627776) (hq : wordE l 1 [IS] = true) :
    ACall Tryz.prog w₀ 83 [.ptr (.own kx) 0] h (fun r h' => r = .tuple [.bool (QM l).1, .bool (QM l).2] ∧ h' = h) := by
  refine qY (n := 15) (rs := [.tmp 2, .tmp 3]) Tryz.func83 rfl rfl rfl rfl (Nat.le_of_ble_eq_true rfl) ?_
  simp only [Qf]
  refine awp_rseq [0] (by rfl) fun K hK => ?_
  simp +decide only [qa, ev, qK, qH, putD, Slots.put, Slots.keep, if_true, if_false, true_and, ↓qc, qb]
  apply hK; clear hK K
  refine qN ?_
  refine awp_rseq [0, 6] (by rfl) fun K hK => ?_
  simp +decide only [ev, putD, Slots.put, Slots.get, if_true, if_false, true_and, ↓qg, qd]
  refine Qk (cs := [.str PIC, .str PICTURE]) (by kernel_rfl) fun k1q1 hk1q1 => ?_
  try have hf_1q1 : h k1q1 = none := by first | assumption | (simp only [AHeap.set_none] at hk1q1; simp only [hk1q1])
  refine qL (V := .bool (wordE l 1 [PIC, PICTURE])) (by rfl) (by rfl) (c_word w₀ _ kx lf s mv tv i l 1 _ [PIC, PICTURE] (strsOwn (l := [PIC, PICTURE]) (AHeap.set_same _ _ _)) (by decide) ((Sub.set hk1q1) _ _ hk) (ht.mono (Sub.set hk1q1)) (by decide) (by decide) hl) ?_
  simp +decide only [qa, putD, Slots.put, Slots.keep, if_true, if_false]
  apply hK; clear hK K
  refine qM (b := _) rfl (fun hb1 => ?_) (fun hb1 => ?_)
  · skip
    refine awp_rseq [2, 3] (by rfl) fun K hK => ?_
    simp +decide only [qa, ev, qK, qH, putD, Slots.put, Slots.keep, if_true, if_false, true_and, ↓qc, qb]
    apply hK; clear hK K
    refine qU ?_
    try simp only [Ql]
    refine qO h (by repeat (first | exact Sub.refl _ | assumption | refine Sub.trans_set ?_ (by assumption))) (Qd (Qd (Qe))) ?_
    simp +decide only [Slots.get, if_true, if_false, and_true, resOf_two]
    unfold QM
    rw [if_pos hb1]
  · skip
    have hs1 : Sub h (h.set k1q1 ⟨[.str PIC, .str PICTURE], 0⟩) := Sub.set hk1q1
    refine qZ ?_
    change Awp _ _ _ _ _ _ _
    refine awp_rseq [2, 3] (by rfl) fun K hK => ?_
    simp +decide only [ev, putD, Slots.put, Slots.get, if_true, if_false, true_and, ↓qg, qd]
    refine Qk (cs := [.str IS]) (by kernel_rfl) fun k3q1 hk3q1 => ?_
    have ne_3q1_1q1 : k3q1 ≠ k1q1 := by simp only [AHeap.set_none] at hk3q1; simp only [hk3q1, ne_eq, not_false_eq_true]
    try have hf_3q1 : h k3q1 = none := by first | assumption | (simp only [AHeap.set_none] at hk3q1; simp only [hk3q1])
    refine qL (V := .bool true) (by rfl) (by rfl) (by rw [← hq]; exact c_word w₀ _ kx lf s mv tv i l 1 _ [IS] (strsOwn (l := [IS]) (AHeap.set_same _ _ _)) (by decide) ((hs1.trans (Sub.set hk3q1)) _ _ hk) (ht.mono (hs1.trans (Sub.set hk3q1))) (by decide) (by decide) hl) ?_
    simp +decide only [ev, putD, Slots.put, Slots.get, if_true, if_false, true_and, ↓qg, qd, ↓Xf, agP, Qm, qI, qG, qy, implies_true, Qs, Qs]
    refine aOps_yes (by rfl) ?_
    refine Qk (cs := [.str PIC, .str PICTURE]) (by kernel_rfl) fun k3q5 hk3q5 => ?_
    have ne_3q5_1q1 : k3q5 ≠ k1q1 := by simp only [AHeap.set_none] at hk3q5; simp only [hk3q5, ne_eq, not_false_eq_true]
    have ne_3q5_3q1 : k3q5 ≠ k3q1 := by simp only [AHeap.set_none] at hk3q5; simp only [hk3q5, ne_eq, not_false_eq_true]
    try have hf_3q5 : h k3q5 = none := by first | assumption | (simp only [AHeap.set_none] at hk3q5; simp only [hk3q5])
    refine aOps_yes (by rfl) ?_
    refine qL (V := .bool (wordE l 2 [PIC, PICTURE])) (by rfl) (by rfl) (c_word w₀ _ kx lf s mv tv i l 2 _ [PIC, PICTURE] (strsOwn (l := [PIC, PICTURE]) (AHeap.set_same _ _ _)) (by decide) (((hs1.trans (Sub.set hk3q1)).trans (Sub.set hk3q5)) _ _ hk) (ht.mono ((hs1.trans (Sub.set hk3q1)).trans (Sub.set hk3q5))) (by decide) (by decide) hl) ?_
    simp +decide only [qa, ev, qK, qH, putD, Slots.put, Slots.get, Slots.keep, if_true, if_false, true_and, ↓QN, Qw, Qg, ↓qc, qb, pickV_bool, cond_true]
    apply hK; clear hK K
    refine qU ?_
    refine qO h (by repeat (first | exact Sub.refl _ | assumption | refine Sub.trans_set ?_ (by assumption))) (Qd (Qd (Qe))) ?_
    simp +decide only [Slots.get, if_true, if_false, and_true, resOf_two]
    unfold QM
    rw [if_neg (by rw [hb1]; decide), hq]
    rfl
theorem c_pictures0 (w₀ : World) (h : AHeap) (kx : Nat) (lf : Bool) (s : Str) (mv tv : AVal) (i : Int) (l : List TokC) (hk : h kx = some ⟨[.bool lf, .str s, mv, .int .i64 i, tv], 0⟩) (ht : IsL w₀ h 5 tv (l.map Zc)) (hl : l.length ≤ 1099511627776) (hq : wordE l 1 [IS] = false) :
    ACall Tryz.prog w₀ 83 [.ptr (.own kx) 0] h (fun r h' => r = .tuple [.bool (QM l).1, .bool (QM l).2] ∧ h' = h) := by
  refine qY (n := 15) (rs := [.tmp 2, .tmp 3]) Tryz.func83 rfl rfl rfl rfl (Nat.le_of_ble_eq_true rfl) ?_
  simp only [Qf]
  refine awp_rseq [0] (by rfl) fun K hK => ?_
  simp +decide only [qa, ev, qK, qH, putD, Slots.put, Slots.keep, if_true, if_false, true_and, ↓qc, qb]
  apply hK; clear hK K
  refine qN ?_
  refine awp_rseq [0, 6] (by rfl) fun K hK => ?_
  simp +decide only [ev, putD, Slots.put, Slots.get, if_true, if_false, true_and, ↓qg, qd]
  refine Qk (cs := [.str PIC, .str PICTURE]) (by kernel_rfl) fun k1q1 hk1q1 => ?_
  try have hf_1q1 : h k1q1 = none := by first | assumption | (simp only [AHeap.set_none] at hk1q1; simp only [hk1q1])
  refine qL (V := .bool (wordE l 1 [PIC, PICTURE])) (by rfl) (by rfl) (c_word w₀ _ kx lf s mv tv i l 1 _ [PIC, PICTURE] (strsOwn (l := [PIC, PICTURE]) (AHeap.set_same _ _ _)) (by decide) ((Sub.set hk1q1) _ _ hk) (ht.mono (Sub.set hk1q1)) (by decide) (by decide) hl) ?_
  simp +decide only [qa, putD, Slots.put, Slots.keep, if_true, if_false]
  apply hK; clear hK K
  refine qM (b := _) rfl (fun hb1 => ?_) (fun hb1 => ?_)
  · skip
    refine awp_rseq [2, 3] (by rfl) fun K hK => ?_
    simp +decide only [qa, ev, qK, qH, putD, Slots.put, Slots.keep, if_true, if_false, true_and, ↓qc, qb]
    apply hK; clear hK K
    refine qU ?_
    try simp only [Ql]
    refine qO h (by repeat (first | exact Sub.refl _ | assumption | refine Sub.trans_set ?_ (by assumption))) (Qd (Qd (Qe))) ?_
    simp +decide only [Slots.get, if_true, if_false, and_true, resOf_two]
    unfold QM
    rw [if_pos hb1]
  · skip
    have hs1 : Sub h (h.set k1q1 ⟨[.str PIC, .str PICTURE], 0⟩) := Sub.set hk1q1
    refine qZ ?_
    change Awp _ _ _ _ _ _ _
    refine awp_rseq [2, 3] (by rfl) fun K hK => ?_
    simp +decide only [ev, putD, Slots.put, Slots.get, if_true, if_false, true_and, ↓qg, qd]
    refine Qk (cs := [.str IS]) (by kernel_rfl) fun k3q1 hk3q1 => ?_
    have ne_3q1_1q1 : k3q1 ≠ k1q1 := by simp only [AHeap.set_none] at hk3q1; simp only [hk3q1, ne_eq, not_false_eq_true]
    try have hf_3q1 : h k3q1 = none := by first | assumption | (simp only [AHeap.set_none] at hk3q1; simp only [hk3q1])
    refine qL (V := .bool false) (by rfl) (by rfl) (by rw [← hq]; exact c_word w₀ _ kx lf s mv tv i l 1 _ [IS] (strsOwn (l := [IS]) (AHeap.set_same _ _ _)) (by decide) ((hs1.trans (Sub.set hk3q1)) _ _ hk) (ht.mono (hs1.trans (Sub.set hk3q1))) (by decide) (by decide) hl) ?_
    simp +decide only [ev, putD, Slots.put, Slots.get, if_true, if_false, true_and, ↓qg, qd, ↓Xf, agP, Qm, qI, qG, qy, implies_true, condV_false]
    refine aOps_no (by rfl) (by rfl) ?_
    try simp +decide only [putD, Slots.put, if_false]
    (refine aOps_no (by rfl) (by rfl) ?_)
    simp +decide only [qa, ev, qK, qH, putD, Slots.put, Slots.get, Slots.keep, if_true, if_false, true_and, ↓QN, Qw, Qg, ↓qc, qb]
    apply hK; clear hK K
    refine qU ?_
    refine qO h (by repeat (first | exact Sub.refl _ | assumption | refine Sub.trans_set ?_ (by assumption))) (Qd (Qd (Qe))) ?_
    simp +decide only [Slots.get, if_true, if_false, and_true, resOf_two]
    unfold QM
    rw [if_neg (by rw [hb1]; decide), hq]
    rfl
theorem c_pictures (w₀ : World) (h : AHeap) (kx : Nat) (lf : Bool) (s : Str) (mv tv : AVal) (i : Int) (l : List TokC) (hk : h kx = some ⟨[.bool lf, .str s, mv, .int .i64 i, tv], 0⟩) (ht : IsL w₀ h 5 tv (l.map Zc)) (hl : l.length ≤ 1099511627776) :
    ACall Tryz.prog w₀ 83 [.ptr (.own kx) 0] h (fun r h' => r = .tuple [.bool (QM l).1, .bool (QM l).2] ∧ h' = h) := by
  cases hq : wordE l 1 [IS] with
  | true => exact c_pictures1 w₀ h kx lf s mv tv i l hk ht hl hq
  | false => exact c_pictures0 w₀ h kx lf s mv tv i l hk ht hl hq
theorem c_takeT (w₀ : World) (h : AHeap) (kx : Nat) (lf : Bool) (s : Str) (mv tv : AVal) (i n : Nat) (kd : UInt8) (eb_x : h kx = some ⟨[.bool lf, .str s, mv, .int .i64 i, tv], 0⟩) (hn : i + n ≤ s.length) (hs : s.length ≤ 1099511627776) :
    ACall Tryz.prog w₀ 88 [.ptr (.own kx) 0, .int .u8 kd.toNat, .int .i64 n] h (fun r h' => r = nxR (takeE s i kd n) ∧ h' = h) := by
  have hs_h : Sub h h := Sub.refl h
  have hin : ((i : Int) + n).toNat = i + n := by omega
  have hid : i + n - i = n := by omega
  refine qY (n := 28) (rs := [.cell 6 38, .tmp 7, .tmp 8]) Tryz.func88 rfl rfl rfl rfl (Nat.le_of_ble_eq_true rfl) ?_
  simp only [Qf]
  refine awp_rseq [0, 1, 2, 6] (by rfl) fun K hK => ?_
  refine Qh ze38 (cs := [.int .u8 0, .str [], .int .i64 0, .int .i64 0, .bool false]) (by rfl) fun k0q0 hk0q0 => ?_
  have hn_0q0 : h k0q0 = none := by first | assumption | (simp only [AHeap.set_none] at hk0q0; simp only [hk0q0])
  have hf_0q0 : h k0q0 = none := Sub.none hs_h hn_0q0
  have ne_0q0_x : k0q0 ≠ kx := AHeap.ne_some hn_0q0 eb_x
  simp +decide only [qa, ev, qK, qH, putD, Slots.put, Slots.keep, if_true, if_false, true_and, ↓qc, qb, Nat.zero_add, Nat.reduceAdd]
  apply hK; clear hK K
  refine awp_dseq_F 19 [18] [6, 7, 8] mixed (by kernel_rfl) (by rfl) fun K hK => ?_
  simp only [List.take_succ_cons, List.take_zero, List.drop_succ_cons, List.drop_zero]
  simp +decide only [fOps_nil, ev, qK, qH, putD, Slots.put, Slots.get, if_true, if_false, true_and, ↓fp_move, qd, ↓fp_nilCheck, Qc, QI, ↓fp_fieldAddr, qo, fa89_0, fa48_1, ↓fp_load, pop_load, qD ag9, fa89_1, qD ag3, ↓fp_binOp, qh, qP, cond_false, qm, Xk, ↓fp_slice, pop_slice, evO, pSliceS_ii Tryz.underlying9, pSliceS, bndA_int, ↓fp_build, ↓Qa, bld38_0_1, evP, List.map_cons, List.map_nil, XG, ne_eq, not_false_eq_true, ne_0q0_x.symm, Xd w₀ eb_x, List.getD_cons_zero, List.getD_cons_succ, Nat.zero_add, qj, qE, Int.toNat_natCast]
  try simp (disch := omega) only [wrap_i64]
  repeat (with_reducible refine And.intro ?_ ?_; · first | trivial | omega | (intro hg; simp only [Bool.and_eq_true, Bool.or_eq_true, Bool.not_eq_true', Bool.and_eq_false_iff, Bool.or_eq_false_iff, Bool.not_eq_false', decide_eq_true_eq, decide_eq_false_iff_not, XI] at hg; omega) )
  refine qp (by rfl) (by rfl) (by repeat (first | exact AHeap.set_same _ _ _ | assumption | refine (AHeap.set_ne _ _ (by first | assumption | exact Ne.symm (by assumption))).trans ?_)) Xi (by rfl) (by rfl) (by first | exact Nat.le_refl _ | decide | (simp; done) | (simp; omega)) (Nat.zero_le _) (by rfl) ?_
  simp only [AHeap.set_set, AVal.cells]
  simp +decide only [qa, ev, qK, qH, putD, Slots.put, Slots.get, Slots.keep, if_true, if_false, true_and, ↓qc, qb, setAt, List.set_cons_zero, List.set_cons_succ, Nat.zero_add, Nat.reduceAdd, hin, hid]
  apply hK; clear hK K
  refine qU ?_
  refine qO h (by repeat (first | exact Sub.refl _ | assumption | refine Sub.trans_set ?_ (by assumption))) (?_) ?_
  · simp +decide only [QF, qB, ql, Slots.get, if_true, if_false, and_true, qB, ql, qi ag38 Xi, Qi, qf, List.getD_cons_zero, List.getD_cons_succ, Nat.zero_add, Nat.reduceAdd, qC, qj, qE, allLive, Bool.and_true, qf, List.getD_cons_zero, List.getD_cons_succ, Nat.zero_add, Nat.reduceAdd, qC, qj, qE, allLive, Bool.and_true]
  
  simp +decide only [Slots.get, if_true, if_false, and_true, Qr, qB, ql, qi ag38 Xi, Qi, qf, List.getD_cons_zero, List.getD_cons_succ, Nat.zero_add, Nat.reduceAdd, qC, qj, qE, allLive, Bool.and_true, qf, List.getD_cons_zero, List.getD_cons_succ, Nat.zero_add, Nat.reduceAdd, qC, qj, qE, allLive, Bool.and_true, nxA, nxR]
  all_goals first | rfl | exact ⟨rfl, rfl⟩ | (simp +decide only [if_true, if_false, *]; done) | (trace_state; fail)
theorem c_skip (w₀ : World) (h : AHeap) (kx : Nat) (lf : Bool) (s : Str) (mv tv : AVal) (i : Nat) (l : List TokC) (hk : h kx = some ⟨[.bool lf, .str s, mv, .int .i64 i, tv], 0⟩) (ht : IsL w₀ h 5 tv (l.map Zc)) (htx : ∀ c, IsL w₀ (h.set kx c) 5 tv (l.map Zc)) (hl : l.length ≤ 1099511627776) (hs : s.length ≤ 1099511627776) (hi : i ≤ s.length) :
    ACall Tryz.prog w₀ 61 [.ptr (.own kx) 0] h (fun r h' => r = .bool (decide (Xb s (QM l).1 i < s.length)) ∧ h' = h.set kx ⟨[.bool lf, .str s, mv, .int .i64 (Xb s (QM l).1 i), tv], 0⟩) := by
  obtain ⟨j, hj⟩ : ∃ j, j = Xb s (QM l).1 i := ⟨_, rfl⟩
  have hjl := skipE_le s (QM l).1 i hi
  rw [← hj] at hjl ⊢
  refine qY (n := 56) (rs := [.tmp 2]) Tryz.func61 rfl rfl rfl rfl (Nat.le_of_ble_eq_true rfl) ?_
  simp only [Qf]
  refine awp_rseq [0] (by rfl) fun K hK => ?_
  simp +decide only [qa, ev, qK, qH, putD, Slots.put, Slots.keep, if_true, if_false, true_and, ↓qc, qb]
  apply hK; clear hK K
  refine awp_scope ?_
  refine awp_rseq [0, 3] (by rfl) fun K hK => ?_
  simp +decide only [ev, putD, Slots.put, Slots.get, if_true, if_false, true_and, ↓qg, qd]
  refine qL (V := .tuple [.bool (QM l).1, .bool (QM l).2]) (by rfl) (by rfl) (c_pictures w₀ _ kx lf s mv tv i l hk ht hl) ?_
  simp +decide only [qa, ev, putD, Slots.put, Slots.get, Slots.keep, if_true, if_false, true_and, ↓qg, qd, ↓QU, QB, QL, List.length_cons, List.length_nil, List.getD_cons_zero, List.getD_cons_succ, ↓qc, qb, List.getD_cons_zero, List.getD_cons_succ, Nat.zero_add, Nat.reduceAdd]
  apply hK; clear hK K
  refine qN ?_
  refine awp_label ?_
  change Awp _ _ _ _ _ _ _
  refine qN ?_
  refine Qt ?_
  refine XW [0, 3] (fun m : Nat => [(0, .ptr (.own kx) 0), (3, .bool (QM l).1)]) (fun m : Nat => h.set kx ⟨[.bool lf, .str s, mv, .int .i64 m, tv], 0⟩) (fun m : Nat => m ≤ s.length ∧ Xb s (QM l).1 m = j) (fun m : Nat => s.length - m) i (by rfl) (by rw [Zj hk]; exact Sub.refl _) ⟨hi, hj.symm⟩ ?_
  rintro m ⟨hm1, hm2⟩
  have hkm := AHeap.set_same h kx ⟨[.bool lf, .str s, mv, .int .i64 m, tv], 0⟩
  have rx := fun o => Xd w₀ hkm o
  refine qN ?_
  refine awp_dseq_all [0, 3, 20] mixed (by kernel_rfl) (by rfl) (by rfl) fun K hK => ?_
  simp +decide only [qa, ev, putD, Slots.put, Slots.get, Slots.keep, if_true, if_false, true_and, ↓qg, qd, ↓QC, Qc, QI, ↓qF, qo, fa89_1, ↓qJ, Qb, qD ag3, fa89_0, fa48_1, qD ag9, ↓Xw, QH, Zk Tryz.underlying9, ↓qw, qh, qP, cond_false, qm, pI_lss, List.getD_cons_zero, List.getD_cons_succ, Nat.zero_add, qj, qE, rx]
  apply hK; clear hK K
  refine qM (b := _) rfl (fun hb1 => ?_) (fun hb1 => ?_)
  · try simp only [decide_eq_true_eq] at hb1
    have hml : m < s.length := by omega
    refine qZ ?_
    change Awp _ _ _ _ _ _ _
    refine Qt ?_
    refine qN ?_
    refine Qt ?_
    refine awp_rseq [0, 3, 21] (by rfl) fun K hK => ?_
    simp +decide only [ev, putD, Slots.put, Slots.get, if_true, if_false, true_and, ↓qg, qd]
    refine qL (V := .int .u8 (qA s m).toNat) (by rfl) (by rfl) (c_peek0 w₀ _ kx lf s mv tv m hkm (by omega)) ?_
    simp +decide only [qa, ev, qK, qH, putD, Slots.put, Slots.get, Slots.keep, if_true, if_false, true_and, ↓qw, qh, qz, cond_false, qm, Xo, ↓qc, qb]
    apply hK; clear hK K
    refine qM (b := _) rfl (fun hb2 => ?_) (fun hb2 => ?_)
    · try simp only [decide_eq_true_eq] at hb2
      refine qZ ?_
      change Awp _ _ _ _ _ _ _
      refine Xl [0, 3] (by rfl) ?_
      simp +decide only [ev, qK, qH, putD, Slots.put, Slots.get, if_true, if_false, true_and, ↓qg, qd, ↓QC, Qc, QI, ↓qF, qo, fa89_1, ↓qJ, Qb, qD ag3, ↓qw, qh, qz, cond_false, qm, Xk, List.getD_cons_zero, List.getD_cons_succ, Nat.zero_add, qj, rx]
      try simp (disch := omega) only [wrap_i64]
      refine qp (by rfl) (by rfl) (by repeat (first | exact AHeap.set_same _ _ _ | assumption | refine (AHeap.set_ne _ _ (by first | assumption | exact Ne.symm (by assumption))).trans ?_)) sz3 (by rfl) (by rfl) (by first | exact Nat.le_refl _ | decide | (simp; done) | (simp; omega)) (Nat.zero_le _) (by rfl) ?_
      simp only [AHeap.set_set, AVal.cells]
      simp +decide only [qa, ev, putD, Slots.get, Slots.keep, if_true, if_false, setAt, List.set_cons_zero, List.set_cons_succ]
      try simp only [qR, inBlockA_normal]
      refine ⟨m + 1, rfl, Sub.refl _, ⟨by omega, ?_⟩, by omega⟩
      rw [← hm2, Zd s (QM l).1 m, if_neg (by omega), if_pos]
      unfold skp
      first
      | exact .inl ((XB _ 32).mp hb2)
      | exact .inr ⟨hb3.1.1, hb3.1.2, (XB _ 32).mp hb3.2⟩
    · try simp only [decide_eq_false_iff_not] at hb2
      refine awp_rseq [0, 3, 25] (by rfl) fun K hK => ?_
      simp +decide only [ev, putD, Slots.put, Slots.get, if_true, if_false, true_and, ↓qg, qd, ↓ap_unOp, pop_unOp, pU_not, ↓Xf, agP, Qm, qI, qG, qy, implies_true]
      (refine XJ (V := .int .u8 (qA s m).toNat) (f := _) (cap := _) (xs := _) (by first | rfl | (simp +decide only [gv, qI, Slots.get, if_true, if_false, QV, qG])) (fun hg => ⟨rfl, ?_⟩) (fun hg => c_peek0 w₀ _ kx lf s mv tv m hkm (by omega)) ?_; · (simp +decide only [gv, qI, Slots.get, if_true, if_false, qy] at hg; simp +decide only [evs, ev, Slots.get, if_true, if_false, hg, Qs, List.append_nil, List.map_cons, List.map_nil, qK, qH] <;> try rfl))
      try simp +decide only [putD, Slots.put, Slots.get, if_true, if_false, gv, qI, qy]
      (refine XJ (V := .bool (sepB (qA s m))) (f := _) (cap := _) (xs := _) (by first | rfl | (simp +decide only [gv, qI, Slots.get, if_true, if_false, QV, qG])) (fun hg => ⟨rfl, ?_⟩) (fun hg => c_sep w₀ _ _) ?_; · (simp +decide only [gv, qI, Slots.get, if_true, if_false, qy] at hg; simp +decide only [evs, ev, Slots.get, if_true, if_false, hg, Qs, List.append_nil, List.map_cons, List.map_nil] <;> try rfl))
      simp +decide only [ev, qK, qH, putD, Slots.put, Slots.get, if_true, if_false, true_and, gv, qI, qy, ↓QN, Qw, Qg, QZ, Xj, ↓qg, qd, ↓Xf, agP, Qm, qG, implies_true]
      (refine XJ (V := .int .u8 (qA s (m + 1)).toNat) (f := _) (cap := _) (xs := _) (by first | rfl | (simp +decide only [gv, qI, Slots.get, if_true, if_false, QV, qG])) (fun hg => ⟨rfl, ?_⟩) (fun hg => c_peek w₀ _ kx lf s mv tv m 1 hkm (by omega) (by omega) (by omega)) ?_; · (simp +decide only [gv, qI, Slots.get, if_true, if_false, qy] at hg; simp +decide only [evs, ev, Slots.get, if_true, if_false, hg, Qs, List.append_nil, List.map_cons, List.map_nil, qK, qH] <;> try rfl))
      simp +decide only [qa, ev, qK, qH, putD, Slots.put, Slots.get, Slots.keep, if_true, if_false, true_and, gv, qI, qy, ↓QW, qh, agP, Qm, qG, implies_true, qz, cond_false, XR, XT, qm, Xo, ↓QN, Qw, Qg, QZ, Xj, ↓qc, qb]
      apply hK; clear hK K
      refine qM (b := _) rfl (fun hb3 => ?_) (fun hb3 => ?_)
      · try simp only [decide_eq_true_eq, Bool.not_eq_true', Bool.and_eq_true] at hb3
        refine qZ ?_
        change Awp _ _ _ _ _ _ _
        refine Xl [0, 3] (by rfl) ?_
        simp +decide only [ev, qK, qH, putD, Slots.put, Slots.get, if_true, if_false, true_and, ↓qg, qd, ↓QC, Qc, QI, ↓qF, qo, fa89_1, ↓qJ, Qb, qD ag3, ↓qw, qh, qz, cond_false, qm, Xk, List.getD_cons_zero, List.getD_cons_succ, Nat.zero_add, qj, rx]
        try simp (disch := omega) only [wrap_i64]
        refine qp (by rfl) (by rfl) (by repeat (first | exact AHeap.set_same _ _ _ | assumption | refine (AHeap.set_ne _ _ (by first | assumption | exact Ne.symm (by assumption))).trans ?_)) sz3 (by rfl) (by rfl) (by first | exact Nat.le_refl _ | decide | (simp; done) | (simp; omega)) (Nat.zero_le _) (by rfl) ?_
        simp only [AHeap.set_set, AVal.cells]
        simp +decide only [qa, ev, putD, Slots.get, Slots.keep, if_true, if_false, setAt, List.set_cons_zero, List.set_cons_succ]
        try simp only [qR, inBlockA_normal]
        refine ⟨m + 1, rfl, Sub.refl _, ⟨by omega, ?_⟩, by omega⟩
        rw [← hm2, Zd s (QM l).1 m, if_neg (by omega), if_pos]
        unfold skp
        first
        | exact .inl ((XB _ 32).mp hb2)
        | exact .inr ⟨hb3.1.1, hb3.1.2, (XB _ 32).mp hb3.2⟩
      · try simp only [decide_eq_false_iff_not, Bool.not_eq_false', Bool.and_eq_false_iff] at hb3
        refine Ze ?_
        change Awp _ _ _ _ _ _ _
        refine awp_dseq_all [2] mixed (by kernel_rfl) (by rfl) (by rfl) fun K hK => ?_
        simp +decide only [qa, ev, putD, Slots.put, Slots.get, Slots.keep, if_true, if_false, true_and, ↓qg, qd, ↓QC, Qc, QI, ↓qF, qo, fa89_1, ↓qJ, Qb, qD ag3, fa89_0, fa48_1, qD ag9, ↓Xw, QH, Zk Tryz.underlying9, ↓qw, qh, qP, cond_false, qm, pI_lss, ↓qc, qb, List.getD_cons_zero, List.getD_cons_succ, Nat.zero_add, qj, qE, rx]
        apply hK; clear hK K
        refine qU ?_
        try simp only [noGotoA_ret]
        refine retA_retE (Qd (Qe)) ?_
        simp +decide only [Slots.get, if_true, QD]
        have hns : ¬ skp s (QM l).1 m := by
          unfold skp
          rintro (q | ⟨q1, q2, q3⟩)
          · exact hb2 ((XB _ 32).mpr q)
          · rcases hb3 with (q | q) | q
            · rw [q1] at q; cases q
            · rw [q2] at q; cases q
            · exact q ((XB _ 32).mpr q3)
        have e : m = j := by
          rw [← hm2, Zd, if_neg (by omega), if_neg hns]
        rw [e]
        exact ⟨_, Sub.refl _, by simp, rfl⟩
  · try simp only [decide_eq_false_iff_not] at hb1
    refine Ze ?_
    change Awp _ _ _ _ _ _ _
    refine awp_dseq_all [2] mixed (by kernel_rfl) (by rfl) (by rfl) fun K hK => ?_
    simp +decide only [qa, ev, putD, Slots.put, Slots.get, Slots.keep, if_true, if_false, true_and, ↓qg, qd, ↓QC, Qc, QI, ↓qF, qo, fa89_1, ↓qJ, Qb, qD ag3, fa89_0, fa48_1, qD ag9, ↓Xw, QH, Zk Tryz.underlying9, ↓qw, qh, qP, cond_false, qm, pI_lss, ↓qc, qb, List.getD_cons_zero, List.getD_cons_succ, Nat.zero_add, qj, qE, rx]
    apply hK; clear hK K
    refine qU ?_
    try simp only [noGotoA_ret]
    refine retA_retE (Qd (Qe)) ?_
    simp +decide only [Slots.get, if_true, QD]
    have e : m = j := by
      rw [← hm2, Zd, if_pos (by omega)]
    rw [e]
    exact ⟨_, Sub.refl _, by simp, rfl⟩
end Go.Proofs.YtmadddihphkmoaaGreatDoor

/-
  Contracts: picture of the scanner.
  Conditions: none.
-/
namespace Go.Proofs.YtmadddihphkmoaaGreatDoor
open Go.AM
open Go.Proofs
open Go.Col
open Go.Tok
open Go.RowKit (Below)
set_option maxRecDepth 100000

def tok0 : List AVal := [.int .u8 0, .str [], .int .i64 0, .int .i64 0, .bool false]
theorem indexByte_contains : ∀ (s : Str) (c : UInt8), decide (0 ≤ Lib.indexByte s c) = s.contains c
  | [], c => rfl
  | b :: s, c => by
    have ih := indexByte_contains s c
    rw [List.contains_cons, ← ih, Lib.indexByte]
    by_cases h : b = c
    · subst h
      simp
    · have h1 : (b == c) = false := by simp [h]
      have h2 : (c == b) = false := by simp [Ne.symm h]
      rw [h1, h2, if_neg (by decide), Bool.false_or]
      apply decide_eq_decide.2
      by_cases e : Lib.indexByte s c = -1
      · rw [e, if_pos (by decide)]
      · rw [if_neg (by simpa using e)]
        have : -1 ≤ Lib.indexByte s c := by
          clear ih h h1 h2 e b
          induction s with
          | nil => show (-1 : Int) ≤ -1; decide
          | cons b s ih =>
            rw [Lib.indexByte]
            split
            · decide
            · split
              · decide
              · omega
        omega
theorem c_hasQ (w₀ : World) (h : AHeap) (s : Str) (c : UInt8) : ACall Tryz.prog w₀ 111 [.str s, .str [c]] h (fun v h' => v = .bool (s.contains c) ∧ h' = h) := by
  refine acall_of_calls (vals := [.string ⟨⟨s⟩⟩, .string ⟨⟨[c]⟩⟩]) (val := .bool (s.contains c)) Tryz.func111 rfl rfl (fun φ vs hv => VRs_ss hv) (fun φ => rfl) fun w => ?_
  refine (Tryz.strings_Contains_one ⟨⟨s⟩⟩ c w).mono fun e w' ⟨e1, e2⟩ => ⟨?_, ?_⟩
  · rw [e1]
    show Ending.returned (.bool (decide (0 ≤ Lib.indexByte s c))) = _
    rw [indexByte_contains]
  · subst e2; exact Go.RowKit.Below.refl _ _
theorem c_pref (w₀ : World) (h : AHeap) (s g : Str) : ACall Tryz.prog w₀ 37 [.str s, .str g] h (fun v h' => v = .bool (g.isPrefixOf s) ∧ h' = h) := by
  refine acall_of_calls (vals := [.string ⟨⟨s⟩⟩, .string ⟨⟨g⟩⟩]) (val := .bool (g.isPrefixOf s)) Tryz.func37 rfl rfl (fun φ vs hv => VRs_ss hv) (fun φ => rfl) fun w => ?_
  refine (Tryz.strings_HasPrefix ⟨⟨s⟩⟩ ⟨⟨g⟩⟩ w).mono fun e w' ⟨e1, e2⟩ => ⟨e1, ?_⟩
  subst e2; exact Go.RowKit.Below.refl _ _
theorem f_digit (w₀ : World) : IsFn w₀ 113 Xh := fun g b => c_digitT w₀ g b
theorem f_wordy (w₀ : World) : IsFn w₀ 90 QP := fun g b => c_wordy w₀ g b
theorem f_ends (w₀ : World) : IsFn w₀ 108 endsB := by
  intro h b
  refine qY (n := 9) (rs := [.tmp 2]) Tryz.func108 rfl rfl rfl rfl (Nat.le_of_ble_eq_true rfl) ?_
  simp only [Qf]
  refine awp_rseq [0] (by rfl) fun K hK => ?_
  simp +decide only [qa, ev, qK, qH, putD, Slots.put, Slots.keep, if_true, if_false, true_and, ↓qc, qb]
  apply hK; clear hK K
  refine awp_rseq [2] (by rfl) fun K hK => ?_
  simp +decide only [ev, qK, qH, putD, Slots.put, Slots.get, if_true, if_false, true_and, ↓qg, qd, ↓qw, qh, qz, cond_false, qm, Xo, ↓Xf, agP, Qm, qI, qG, qV, implies_true]
  (refine XJ (V := .bool (sepB b)) (f := _) (cap := _) (xs := _) (by first | rfl | (simp +decide only [gv, qI, Slots.get, if_true, if_false, QV, qG])) (fun hg => ⟨rfl, ?_⟩) (fun hg => c_sep w₀ _ b) ?_; · (simp +decide only [gv, qI, Slots.get, if_true, if_false, qV] at hg; simp +decide only [evs, ev, Slots.get, if_true, if_false, hg, Qs, List.append_nil, List.map_cons, List.map_nil] <;> try rfl))
  simp +decide only [qa, ev, qK, qH, putD, Slots.put, Slots.get, Slots.keep, if_true, if_false, true_and, gv, qI, qV, ↓QN, Qw, Qg, Za, pickV_or, ↓qc, qb]
  apply hK; clear hK K
  refine qU ?_
  refine qO _ (Sub.refl _) (Qd (Qe)) ?_
  simp +decide only [Slots.get, if_true, and_true, QD]
  have e1 : decide ((b.toNat : Int) = 46) = decide (b = 46) := decide_eq_decide.2 (iff_of_eq (XB b 46))
  unfold endsB
  rw [e1]
theorem f_nsp (w₀ : World) : IsFn w₀ 110 (fun b => !decide (b = 32)) := by
  intro h b
  refine qY (n := 5) (rs := [.tmp 2]) Tryz.func110 rfl rfl rfl rfl (Nat.le_of_ble_eq_true rfl) ?_
  simp only [Qf]
  refine awp_rseq [0] (by rfl) fun K hK => ?_
  simp +decide only [qa, ev, qK, qH, putD, Slots.put, Slots.keep, if_true, if_false, true_and, ↓qc, qb]
  apply hK; clear hK K
  refine awp_rseq [2] (by rfl) fun K hK => ?_
  simp +decide only [qa, ev, qK, qH, putD, Slots.put, Slots.get, Slots.keep, if_true, if_false, true_and, ↓qg, qd, ↓qw, qh, qz, cond_false, qm, pI_neq, ↓qc, qb]
  apply hK; clear hK K
  refine qU ?_
  refine qO _ (Sub.refl _) (Qd (Qe)) ?_
  simp +decide only [Slots.get, if_true, and_true, QD]
  have e1 : decide ((b.toNat : Int) = 32) = decide (b = 32) := decide_eq_decide.2 (iff_of_eq (XB b 32))
  rw [← e1]
theorem pictureE_no {s : Str} {i : Nat} {is : Bool} (hc : ¬ (is = true ∧ QK [qA s i, qA s (i + 1)] = IS ∧ QP (qA s (i + 2)) = false)) (n0 : Nat) (hn : n0 = Zn s i (fun b => !decide (b = 32))) (m : Nat) (hm : (m : Int) = if endsB (qA s ((i : Int) + n0 - 1)) = true then (n0 : Int) - 1 else n0) :
    Xu s i is = if m = 0 ∨ endsB (qA s ((i : Int) + m - 1)) = true then .err 4 else if (QK ((s.drop i).take m)).contains 34 = true then .err 4 else ⟨4, QK ((s.drop i).take m), m, 0⟩ := by
  unfold Xu
  rw [if_neg hc]
  simp only
  rw [← hn, ← hm, Int.toNat_natCast]
  by_cases h0 : m = 0
  · rw [if_pos (.inl (by omega)), if_pos (.inl h0)]
  · by_cases h1 : endsB (qA s ((i : Int) + m - 1)) = true
    · rw [if_pos (.inr h1), if_pos (.inr h1)]
    · have f1 : ¬ ((m : Int) = 0 ∨ endsB (qA s ((i : Int) + m - 1)) = true) := fun q => q.elim (fun q => h0 (by omega)) h1
      have f2 : ¬ (m = 0 ∨ endsB (qA s ((i : Int) + m - 1)) = true) := fun q => q.elim h0 h1
      rw [if_neg f1, if_neg f2]
theorem pictureEnd (w₀ : World) (h B : AHeap) (hs_B : Sub h B) (kx k0q0 : Nat) (lf : Bool) (s : Str) (mv tv : AVal) (i : Nat) (is : Bool) (eb_x : B kx = some ⟨[.bool lf, .str s, mv, .int .i64 i, tv], 0⟩) (eb_0q0 : B k0q0 = some ⟨tok0, 0⟩) (hf_0q0 : h k0q0 = none) (ne_0q0_x : k0q0 ≠ kx) (h32 : qA s i ≠ 32) (hs : s.length ≤ 1099511627776)
    (hc : ¬ (is = true ∧ QK [qA s i, qA s (i + 1)] = IS ∧ QP (qA s (i + 2)) = false)) :
    Awp Tryz.prog w₀ 68 (dropSeq 2 (bodyOf Tryz.f86)) (retA Tryz.prog w₀ [.cell 4 38, .tmp 5, .tmp 6] ((fun r h' => r = nxR (Xu s i is) ∧ h' = h))) [(0, .ptr (.own kx) 0), (4, .ptr (.own k0q0) 0)] (B) := by
  have hi := peekE_in h32
  have hp := run_pos32 h32
  have hrl := runE_le s i (fun b => !decide (b = 32)) (by omega)
  obtain ⟨n0, hn0⟩ : ∃ n0, n0 = Zn s i (fun b => !decide (b = 32)) := ⟨_, rfl⟩
  rw [← hn0] at hp hrl
  unfold tok0 at eb_0q0
  change Awp _ _ _ (Code.seq _ _) _ _ _
  refine awp_rseq [0, 4, 7] (by rfl) fun K hK => ?_
  simp +decide only [qa, ev, putD, Slots.put, Slots.keep, if_true, if_false, true_and, ↓qc, qb]
  apply hK; clear hK K
  refine awp_rseq [0, 4, 7, 8] (by rfl) fun K hK => ?_
  simp +decide only [ev, putD, Slots.put, Slots.get, if_true, if_false, true_and, ↓qg, qd]
  refine qL (V := .int .i64 n0) (by rfl) (by rfl) (by rw [hn0]; exact c_run0 w₀ B kx lf s mv tv i _ _ (f_nsp w₀) eb_x (by omega) hs) ?_
  simp +decide only [qa, ev, putD, Slots.put, Slots.get, Slots.keep, if_true, if_false, true_and, ↓qc, qb]
  apply hK; clear hK K
  refine qN ?_
  refine awp_rseq [0, 4, 7, 8, 36] (by rfl) fun K hK => ?_
  simp +decide only [ev, qK, qH, putD, Slots.put, Slots.get, if_true, if_false, true_and, ↓qg, qd, ↓qw, qh, qz, cond_false, qm, pI_sub]
  try simp (disch := omega) only [wrap_i64]
  refine qL (V := .int .u8 (qA s ((i : Int) + n0 - 1)).toNat) (by rfl) (by rfl) (by have := c_peek w₀ B kx lf s mv tv i ((n0 : Int) - 1) eb_x (by omega) (by omega) (by omega); rwa [← Int.add_sub_assoc] at this) ?_
  refine qL (V := .bool (endsB (qA s ((i : Int) + n0 - 1)))) (by rfl) (by rfl) (f_ends w₀ _ _) ?_
  simp +decide only [qa, putD, Slots.put, Slots.keep, if_true, if_false]
  apply hK; clear hK K
  refine awp_joinT [0, 4, 7, 8] (fun m : Nat => [(0, .ptr (.own kx) 0), (4, .ptr (.own k0q0) 0), (7, .func 108 []), (8, .int .i64 m)]) (fun m : Nat => B) (fun m : Nat => (m : Int) = if endsB (qA s ((i : Int) + n0 - 1)) = true then (n0 : Int) - 1 else n0) ?_ ?_
  · refine qM (b := _) rfl (fun hb1 => ?_) (fun hb1 => ?_)
    · skip
      refine Xl [0, 4, 7, 8] (by rfl) ?_
      simp +decide only [qa, ev, qK, qH, putD, Slots.put, Slots.get, Slots.keep, if_true, if_false, true_and, ↓qg, qd, ↓qw, qh, qz, cond_false, qm, pI_sub, ↓qc, qb, nxA, nxR]
      try simp (disch := omega) only [wrap_i64]
      try simp only [qR]
      first
      | exact ⟨n0 - 1, by rw [show ((n0 - 1 : Nat) : Int) = (n0 : Int) - 1 by omega]; rfl, Sub.refl _, by rw [if_pos hb1]; omega⟩
      | exact ⟨n0, rfl, Sub.refl _, by rw [if_neg (by rw [hb1]; decide)]⟩
    · skip
      refine qZ ?_
      try simp only [qR]
      first
      | exact ⟨n0 - 1, by rw [show ((n0 - 1 : Nat) : Int) = (n0 : Int) - 1 by omega]; rfl, Sub.refl _, by rw [if_pos hb1]; omega⟩
      | exact ⟨n0, rfl, Sub.refl _, by rw [if_neg (by rw [hb1]; decide)]⟩
  · intro m hm
    have hm1 : m ≤ n0 := by
      have : (m : Int) ≤ n0 := by rw [hm]; split <;> omega
      omega
    have hpe := pictureE_no hc n0 hn0 m hm
    rw [hpe]
    refine qN ?_
    refine awp_rseq [0, 4, 8, 48] (by rfl) fun K hK => ?_
    simp +decide only [ev, qK, qH, putD, Slots.put, Slots.get, if_true, if_false, true_and, ↓qg, qd, ↓qw, qh, qz, cond_false, qm, Xo, ↓Xf, agP, Qm, qI, qG, qV, implies_true, ↓QW, XR, XT, pI_sub]
    try simp (disch := omega) only [wrap_i64]
    (refine XJ (V := .int .u8 (qA s ((i : Int) + m - 1)).toNat) (f := _) (cap := _) (xs := _) (by first | rfl | (simp +decide only [gv, qI, Slots.get, if_true, if_false, QV, qG])) (fun hg => ⟨rfl, ?_⟩) (fun hg => by have := c_peek w₀ B kx lf s mv tv i ((m : Int) - 1) eb_x (by omega) (by omega) (by omega); rwa [← Int.add_sub_assoc] at this) ?_; · (simp +decide only [gv, qI, Slots.get, if_true, if_false, qV] at hg; simp +decide only [evs, ev, Slots.get, if_true, if_false, hg, Qs, List.append_nil, List.map_cons, List.map_nil] <;> try rfl))
    try simp +decide only [putD, Slots.put, Slots.get, if_true, if_false, gv, qI, qV]
    (refine XJ (V := .bool (endsB (qA s ((i : Int) + m - 1)))) (f := _) (cap := _) (xs := _) (by first | rfl | (simp +decide only [gv, qI, Slots.get, if_true, if_false, QV, qG])) (fun hg => ⟨by (try simp +decide only [gv, qI, Slots.get, if_true, if_false, qV] at hg); simp +decide only [ev, Slots.get, if_true, if_false, hg, Qs]; try rfl, ?_⟩) (fun hg => f_ends w₀ _ _) ?_; · (simp +decide only [gv, qI, Slots.get, if_true, if_false, qV] at hg; simp +decide only [evs, ev, Slots.get, if_true, if_false, hg, Qs, List.append_nil, List.map_cons, List.map_nil] <;> try rfl))
    simp +decide only [qa, ev, qK, qH, putD, Slots.put, Slots.get, Slots.keep, if_true, if_false, true_and, gv, qI, qV, ↓QN, Qw, Qg, Za, pickV_or]
    apply hK; clear hK K
    refine qM (b := _) rfl (fun hb2 => ?_) (fun hb2 => ?_)
    · try simp only [decide_eq_true_eq, Bool.or_eq_true] at hb2
      have hb2' : m = 0 ∨ endsB (qA s ((i : Int) + m - 1)) = true := hb2.imp (fun q => by omega) id
      rw [if_pos hb2']
      refine awp_rseq [4, 5, 6] (by rfl) fun K hK => ?_
      simp +decide only [ev, qK, qH, putD, Slots.put, Slots.get, if_false, true_and, ↓Qo, ↓Qa, bld38_, evP, List.map_nil]
      refine qp (by rfl) (by rfl) (by repeat (first | exact AHeap.set_same _ _ _ | assumption | refine (AHeap.set_ne _ _ (by first | assumption | exact Ne.symm (by assumption))).trans ?_)) Xi (by rfl) (by rfl) (by first | exact Nat.le_refl _ | decide | (simp; done) | (simp; omega)) (Nat.zero_le _) (by rfl) ?_
      simp only [AVal.cells]
      simp +decide only [qa, ev, qK, qH, putD, Slots.put, Slots.get, Slots.keep, if_true, if_false, true_and, ↓qc, qb, setAt, List.set_cons_zero, List.set_cons_succ, Nat.zero_add, Nat.reduceAdd]
      apply hK; clear hK K
      refine qU ?_
      try simp only [Ql]
      refine qO h (by repeat (first | exact Sub.refl _ | assumption | refine Sub.trans_set ?_ (by assumption))) (?_) ?_
      · simp +decide only [QF, qB, ql, Slots.get, if_true, if_false, and_true, qB, ql, qi ag38 Xi, Qi, qf, List.getD_cons_zero, List.getD_cons_succ, Nat.zero_add, Nat.reduceAdd, qC, qj, qE, allLive, Bool.and_true, qf, List.getD_cons_zero, List.getD_cons_succ, Nat.zero_add, Nat.reduceAdd, qC, qj, qE, allLive, Bool.and_true]
      
      simp +decide only [Slots.get, if_true, if_false, and_true, Qr, qB, ql, qi ag38 Xi, Qi, qf, List.getD_cons_zero, List.getD_cons_succ, Nat.zero_add, Nat.reduceAdd, qC, qj, qE, allLive, Bool.and_true, qf, List.getD_cons_zero, List.getD_cons_succ, Nat.zero_add, Nat.reduceAdd, qC, qj, qE, allLive, Bool.and_true, nxA, nxR]
      all_goals first | rfl | exact ⟨rfl, rfl⟩ | (simp +decide only [if_true, if_false, *]; done) | (trace_state; fail)
    · try simp only [decide_eq_false_iff_not, Bool.or_eq_false_iff] at hb2
      have hb2' : ¬ (m = 0 ∨ endsB (qA s ((i : Int) + m - 1)) = true) := fun q => q.elim (fun q => hb2.1 (by omega)) (fun q => by rw [hb2.2] at q; cases q)
      rw [if_neg hb2']
      refine qZ ?_
      change Awp _ _ _ _ _ _ _
      refine awp_rseq [4, 8, 9, 10] (by rfl) fun K hK => ?_
      simp +decide only [ev, putD, Slots.put, Slots.get, if_true, if_false, true_and, ↓qg, qd]
      refine qL (V := nxR (takeE s i 4 m)) (by rfl) (by rfl) (c_takeT w₀ B kx lf s mv tv i m 4 eb_x (by omega) hs) ?_
      simp +decide only [ev, putD, Slots.put, Slots.get, if_true, if_false, true_and, ↓qg, qd, ↓QU, QB, QL, List.length_cons, List.length_nil, List.getD_cons_zero, List.getD_cons_succ, List.getD_cons_zero, List.getD_cons_succ, Nat.zero_add, Nat.reduceAdd, nxA, nxR]
      refine Qh ze38 (cs := [.int .u8 0, .str [], .int .i64 0, .int .i64 0, .bool false]) (by rfl) fun k9q7 hk9q7 => ?_
      have hn_9q7 : B k9q7 = none := by first | assumption | (simp only [AHeap.set_none] at hk9q7; simp only [hk9q7])
      have hf_9q7 : h k9q7 = none := Sub.none hs_B hn_9q7
      have ne_9q7_x : k9q7 ≠ kx := AHeap.ne_some hn_9q7 eb_x
      have ne_9q7_0q0 : k9q7 ≠ k0q0 := AHeap.ne_some hn_9q7 eb_0q0
      refine qp (by rfl) (by rfl) (by repeat (first | exact AHeap.set_same _ _ _ | assumption | refine (AHeap.set_ne _ _ (by first | assumption | exact Ne.symm (by assumption))).trans ?_)) Xi (by rfl) (by rfl) (by first | exact Nat.le_refl _ | decide | (simp; done) | (simp; omega)) (Nat.zero_le _) (by rfl) ?_
      simp only [AHeap.set_set, AVal.cells]
      simp +decide only [qa, ev, putD, Slots.put, Slots.get, Slots.keep, if_true, if_false, true_and, ↓qc, qb, setAt, List.set_cons_zero, List.set_cons_succ, Nat.zero_add, Nat.reduceAdd]
      apply hK; clear hK K
      refine awp_rseq [4, 8, 9, 10] (by rfl) fun K hK => ?_
      simp +decide only [ev, putD, Slots.put, Slots.get, if_true, if_false, true_and, ↓qF, qo, fa38_1, ↓qJ, Qb, qD ag9, Xa, List.getD_cons_zero, List.getD_cons_succ, Nat.zero_add, qE]
      refine qL (V := .str (QK ((s.drop i).take m))) (by rfl) (by rfl) (by rw [← fold_eq]; exact c_fold w₀ _ ((s.drop i).take m) (by rw [List.length_take]; omega)) ?_
      simp +decide only [ev, putD, Slots.put, Slots.get, if_true, if_false, true_and, ↓qF, qo, fa38_1, Nat.zero_add]
      refine qp (by rfl) (by rfl) (by repeat (first | exact AHeap.set_same _ _ _ | assumption | refine (AHeap.set_ne _ _ (by first | assumption | exact Ne.symm (by assumption))).trans ?_)) sz9 (by rfl) (by rfl) (by first | exact Nat.le_refl _ | decide | (simp; done) | (simp; omega)) (Nat.zero_le _) (by rfl) ?_
      simp only [AHeap.set_set, AVal.cells]
      simp +decide only [qa, ev, putD, Slots.get, Slots.keep, if_true, if_false, setAt, List.set_cons_zero, List.set_cons_succ]
      apply hK; clear hK K
      refine qN ?_
      refine awp_rseq [4, 8, 9, 10, 63] (by rfl) fun K hK => ?_
      simp +decide only [ev, putD, Slots.put, Slots.get, if_true, if_false, true_and, ↓qF, qo, fa38_1, ↓qJ, Qb, qD ag9, Xa, List.getD_cons_zero, List.getD_cons_succ, Nat.zero_add, qE]
      refine qL (V := .bool ((QK ((s.drop i).take m)).contains 34)) (by rfl) (by rfl) (c_hasQ w₀ _ _ 34) ?_
      simp +decide only [qa, putD, Slots.put, Slots.keep, if_true, if_false]
      apply hK; clear hK K
      refine qM (b := _) rfl (fun hb3 => ?_) (fun hb3 => ?_)
      · skip
        refine awp_rseq [4, 5, 6] (by rfl) fun K hK => ?_
        simp +decide only [ev, qK, qH, putD, Slots.put, Slots.get, if_false, true_and, ↓Qo, ↓Qa, bld38_, evP, List.map_nil]
        refine qp (by rfl) (by rfl) (by repeat (first | exact AHeap.set_same _ _ _ | assumption | refine (AHeap.set_ne _ _ (by first | assumption | exact Ne.symm (by assumption))).trans ?_)) Xi (by rfl) (by rfl) (by first | exact Nat.le_refl _ | decide | (simp; done) | (simp; omega)) (Nat.zero_le _) (by rfl) ?_
        simp only [AVal.cells]
        simp +decide only [qa, ev, qK, qH, putD, Slots.put, Slots.get, Slots.keep, if_true, if_false, true_and, ↓qc, qb, setAt, List.set_cons_zero, List.set_cons_succ, Nat.zero_add, Nat.reduceAdd]
        apply hK; clear hK K
        refine qU ?_
        try simp only [Ql]
        refine qO h (by repeat (first | exact Sub.refl _ | assumption | refine Sub.trans_set ?_ (by assumption))) (?_) ?_
        · simp +decide only [QF, qB, ql, Slots.get, if_true, if_false, and_true, qB, ql, qi ag38 Xi, Qi, qf, List.getD_cons_zero, List.getD_cons_succ, Nat.zero_add, Nat.reduceAdd, qC, qj, qE, allLive, Bool.and_true, qf, List.getD_cons_zero, List.getD_cons_succ, Nat.zero_add, Nat.reduceAdd, qC, qj, qE, allLive, Bool.and_true]
        
        simp +decide only [Slots.get, if_true, if_false, and_true, Qr, qB, ql, qi ag38 Xi, Qi, qf, List.getD_cons_zero, List.getD_cons_succ, Nat.zero_add, Nat.reduceAdd, qC, qj, qE, allLive, Bool.and_true, qf, List.getD_cons_zero, List.getD_cons_succ, Nat.zero_add, Nat.reduceAdd, qC, qj, qE, allLive, Bool.and_true, nxA, nxR]
        rw [if_pos hb3]
        rfl
      · skip
        refine qZ ?_
        change Awp _ _ _ _ _ _ _
        refine awp_rseq [4, 5, 6] (by rfl) fun K hK => ?_
        simp +decide only [ev, putD, Slots.put, Slots.get, if_true, if_false, true_and, ↓qJ, Qb, qi ag38 Xi, ↓qg, qd, Xa, qf, List.getD_cons_zero, List.getD_cons_succ, Nat.zero_add, Nat.reduceAdd, qC, qj, qE, allLive, Bool.and_true]
        refine qp (by rfl) (by rfl) (by repeat (first | exact AHeap.set_same _ _ _ | assumption | refine (AHeap.set_ne _ _ (by first | assumption | exact Ne.symm (by assumption))).trans ?_)) Xi (by rfl) (by rfl) (by first | exact Nat.le_refl _ | decide | (simp; done) | (simp; omega)) (Nat.zero_le _) (by rfl) ?_
        simp only [AVal.cells]
        simp +decide only [qa, ev, putD, Slots.put, Slots.get, Slots.keep, if_true, if_false, true_and, ↓qc, qb, setAt, List.set_cons_zero, List.set_cons_succ, Nat.zero_add, Nat.reduceAdd]
        apply hK; clear hK K
        refine qU ?_
        refine qO h (by repeat (first | exact Sub.refl _ | assumption | refine Sub.trans_set ?_ (by assumption))) (?_) ?_
        · simp +decide only [QF, qB, ql, Slots.get, if_true, if_false, and_true, qB, ql, qi ag38 Xi, Qi, qf, List.getD_cons_zero, List.getD_cons_succ, Nat.zero_add, Nat.reduceAdd, qC, qj, qE, allLive, Bool.and_true, qf, List.getD_cons_zero, List.getD_cons_succ, Nat.zero_add, Nat.reduceAdd, qC, qj, qE, allLive, Bool.and_true]
        
        simp +decide only [Slots.get, if_true, if_false, and_true, Qr, qB, ql, qi ag38 Xi, Qi, qf, List.getD_cons_zero, List.getD_cons_succ, Nat.zero_add, Nat.reduceAdd, qC, qj, qE, allLive, Bool.and_true, qf, List.getD_cons_zero, List.getD_cons_succ, Nat.zero_add, Nat.reduceAdd, qC, qj, qE, allLive, Bool.and_true, nxA, nxR]
        rw [if_neg (by rw [hb3]; decide)]
        rfl
end Go.Proofs.YtmadddihphkmoaaGreatDoor

/-
  Contracts: picture, number of the scanner.
  Conditions: none.
-/
namespace Go.Proofs.YtmadddihphkmoaaGreatDoor
open Go.AM
open Go.Proofs
open Go.Col
open Go.Tok
open Go.RowKit (Below)
set_option maxRecDepth 100000

theorem c_pictureF (w₀ : World) (h : AHeap) (kx : Nat) (lf : Bool) (s : Str) (mv tv : AVal) (i : Nat) (eb_x : h kx = some ⟨[.bool lf, .str s, mv, .int .i64 i, tv], 0⟩) (h32 : qA s i ≠ 32) (hs : s.length ≤ 1099511627776) :
    ACall Tryz.prog w₀ 86 [.ptr (.own kx) 0, .bool false] h (fun r h' => r = nxR (Xu s i false) ∧ h' = h) := by
  have hs_h : Sub h h := Sub.refl h
  refine qY (n := 68) (rs := [.cell 4 38, .tmp 5, .tmp 6]) Tryz.func86 rfl rfl rfl rfl (Nat.le_of_ble_eq_true rfl) ?_
  simp only [Qf]
  refine awp_rseq [0, 1, 4] (by rfl) fun K hK => ?_
  refine Qh ze38 (cs := [.int .u8 0, .str [], .int .i64 0, .int .i64 0, .bool false]) (by rfl) fun k0q0 hk0q0 => ?_
  have hn_0q0 : h k0q0 = none := by first | assumption | (simp only [AHeap.set_none] at hk0q0; simp only [hk0q0])
  have hf_0q0 : h k0q0 = none := Sub.none hs_h hn_0q0
  have ne_0q0_x : k0q0 ≠ kx := AHeap.ne_some hn_0q0 eb_x
  simp +decide only [qa, ev, qK, qH, putD, Slots.put, Slots.keep, if_true, if_false, true_and, ↓qc, qb, Nat.zero_add]
  apply hK; clear hK K
  refine qN ?_
  refine awp_rseq [0, 4, 27] (by rfl) fun K hK => ?_
  simp +decide only [ev, putD, Slots.put, Slots.get, if_true, if_false, true_and, ↓qg, qd, ↓Xf, agP, Qm, qI, qG, qy, implies_true, condV_false]
  refine aOps_no (by rfl) (by rfl) ?_
  simp +decide only [ev, putD, Slots.put, Slots.get, if_true, if_false, true_and, qI, qy, ↓Xf, qd, agP, Qm, qG, implies_true, condV_false]
  refine aOps_no (by rfl) (by rfl) ?_
  try simp +decide only [putD, Slots.put, if_false]
  refine aOps_no (by rfl) (by rfl) ?_
  try simp +decide only [putD, Slots.put, if_false]
  refine aOps_no (by rfl) (by rfl) ?_
  try simp +decide only [putD, Slots.put, if_false]
  refine aOps_no (by rfl) (by rfl) ?_
  simp +decide only [ev, qK, qH, putD, Slots.put, Slots.get, if_true, if_false, true_and, qI, qy, ↓QW, qh, agP, Qm, qG, implies_true, condV_false, false_implies, pickV_false, isNilC_str, cond_false, ↓QN, Qw, Qg, ↓qg, qd, ↓Xf]
  (refine aOps_no (by rfl) (by rfl) ?_)
  try simp +decide only [putD, Slots.put, if_false]
  (refine aOps_no (by rfl) (by rfl) ?_)
  simp +decide only [qa, ev, qK, qH, putD, Slots.put, Slots.get, Slots.keep, if_true, if_false, true_and, qI, qy, ↓ag_unOp, pop_unOp, agP, Qm, qG, condV_false, false_implies, pickV_false, ↓QN, Qw, Qg]
  apply hK; clear hK K
  refine qM (b := _) rfl (fun hb1 => ?_) (fun hb1 => ?_)
  · exact absurd hb1 (by decide)
  · try simp only at hb1
    refine qZ ?_
    change Awp _ _ _ _ _ _ _
    refine Awp.keep [0, 4] ?_
    exact pictureEnd w₀ h _ (Sub.set hk0q0) kx k0q0 lf s mv tv i false ((by repeat (first | exact AHeap.set_same _ _ _ | assumption | refine (AHeap.set_ne _ _ (by first | assumption | exact Ne.symm (by assumption))).trans ?_))) ((by repeat (first | exact AHeap.set_same _ _ _ | assumption | refine (AHeap.set_ne _ _ (by first | assumption | exact Ne.symm (by assumption))).trans ?_))) hk0q0 ne_0q0_x h32 hs (by rintro ⟨q, _⟩; cases q)
theorem c_pictureT (w₀ : World) (h : AHeap) (kx : Nat) (lf : Bool) (s : Str) (mv tv : AVal) (i : Nat) (eb_x : h kx = some ⟨[.bool lf, .str s, mv, .int .i64 i, tv], 0⟩) (h32 : qA s i ≠ 32) (hs : s.length ≤ 1099511627776) :
    ACall Tryz.prog w₀ 86 [.ptr (.own kx) 0, .bool true] h (fun r h' => r = nxR (Xu s i true) ∧ h' = h) := by
  have hs_h : Sub h h := Sub.refl h
  have hi := peekE_in h32
  have hcv := fun (h : AHeap) (k : Nat) => (IsB.own (w₀ := w₀) (bs := [qA s i, qA s (i + 1)]) (f := 0) (n := 2) (AHeap.set_same h k ⟨byteCells [qA s i, qA s (i + 1)], 0⟩) rfl (c := .exact 2) (Nat.le_refl 2)).conv Tryz.underlying97 Tryz.underlying9 Tryz.underlying5
  simp only [byteCells, List.map_cons, List.map_nil] at hcv
  refine qY (n := 68) (rs := [.cell 4 38, .tmp 5, .tmp 6]) Tryz.func86 rfl rfl rfl rfl (Nat.le_of_ble_eq_true rfl) ?_
  simp only [Qf]
  refine awp_rseq [0, 1, 4] (by rfl) fun K hK => ?_
  refine Qh ze38 (cs := [.int .u8 0, .str [], .int .i64 0, .int .i64 0, .bool false]) (by rfl) fun k0q0 hk0q0 => ?_
  have hn_0q0 : h k0q0 = none := by first | assumption | (simp only [AHeap.set_none] at hk0q0; simp only [hk0q0])
  have hf_0q0 : h k0q0 = none := Sub.none hs_h hn_0q0
  have ne_0q0_x : k0q0 ≠ kx := AHeap.ne_some hn_0q0 eb_x
  simp +decide only [qa, ev, qK, qH, putD, Slots.put, Slots.keep, if_true, if_false, true_and, ↓qc, qb, Nat.zero_add]
  apply hK; clear hK K
  refine qN ?_
  refine awp_rseq [0, 4, 27] (by rfl) fun K hK => ?_
  simp +decide only [ev, putD, Slots.put, Slots.get, if_true, if_false, true_and, ↓qg, qd, ↓Xf, agP, Qm, qI, qG, qy, implies_true, Qs, Qs]
  refine aOps_yes (by rfl) ?_
  refine qL (V := .int .u8 (qA s i).toNat) (by rfl) (by rfl) (c_peek0 w₀ _ kx lf s mv tv i ((by repeat (first | exact AHeap.set_same _ _ _ | assumption | refine (AHeap.set_ne _ _ (by first | assumption | exact Ne.symm (by assumption))).trans ?_))) (by omega)) ?_
  simp +decide only [ev, putD, Slots.put, Slots.get, if_true, if_false, true_and, ↓Xf, qd, agP, Qm, qI, qG, qy, implies_true, Qs, Qs]
  refine aOps_yes (by rfl) ?_
  refine qL (V := .int .u8 (qA s (i + 1)).toNat) (by rfl) (by rfl) (c_peek w₀ _ kx lf s mv tv i 1 ((by repeat (first | exact AHeap.set_same _ _ _ | assumption | refine (AHeap.set_ne _ _ (by first | assumption | exact Ne.symm (by assumption))).trans ?_))) (by omega) (by omega) (by omega)) ?_
  refine aOps_yes (by rfl) ?_
  refine Qk (cs := [.int .u8 (qA s i).toNat, .int .u8 (qA s (i + 1)).toNat]) (by kernel_rfl) fun k1q6 hk1q6 => ?_
  have ne_1q6_0q0 : k1q6 ≠ k0q0 := by simp only [AHeap.set_none] at hk1q6; simp only [hk1q6, ne_eq, not_false_eq_true]
  have hn_1q6 : h k1q6 = none := by first | assumption | (simp only [AHeap.set_none] at hk1q6; simp only [hk1q6])
  have hf_1q6 : h k1q6 = none := Sub.none hs_h hn_1q6
  have ne_1q6_x : k1q6 ≠ kx := AHeap.ne_some hn_1q6 eb_x
  simp +decide only [ev, putD, Slots.put, Slots.get, if_true, if_false, true_and, ↓ag_convert _ _ _ (es_str Tryz.underlying97 Tryz.underlying9), pop_convert, agP, Qm, qI, qG, qy, implies_true, Qs, Qs, hcv]
  refine aOps_yes (by rfl) ?_
  refine qL (V := .str (QK [qA s i, qA s (i + 1)])) (by rfl) (by rfl) (by rw [← fold_eq]; exact c_fold w₀ _ [qA s i, qA s (i + 1)] (by simp)) ?_
  simp +decide only [ev, qK, qH, putD, Slots.put, Slots.get, if_true, if_false, true_and, ↓QW, qh, agP, Qm, qI, qG, qy, implies_true, Qs, isNilC_str, cond_false, XN, pS_eql, ↓QN, Qw, Qg, ↓qg, qd, ↓Xf, Qs, pickV_bool, cond_true, cond_false]
  (refine XJ (V := .int .u8 (qA s (i + 2)).toNat) (f := _) (cap := _) (xs := _) (by first | rfl | (simp +decide only [gv, qI, Slots.get, if_true, if_false, QV, qG])) (fun hg => ⟨rfl, ?_⟩) (fun hg => c_peek w₀ _ kx lf s mv tv i 2 ((by repeat (first | exact AHeap.set_same _ _ _ | assumption | refine (AHeap.set_ne _ _ (by first | assumption | exact Ne.symm (by assumption))).trans ?_))) (by omega) (by omega) (by omega)) ?_; · (simp +decide only [gv, qI, Slots.get, if_true, if_false, qy] at hg; simp +decide only [evs, ev, Slots.get, if_true, if_false, hg, Qs, List.append_nil, List.map_cons, List.map_nil, qK, qH] <;> try rfl))
  try simp +decide only [putD, Slots.put, Slots.get, if_true, if_false, gv, qI, qy]
  (refine XJ (V := .bool (QP (qA s (i + 2)))) (f := _) (cap := _) (xs := _) (by first | rfl | (simp +decide only [gv, qI, Slots.get, if_true, if_false, QV, qG])) (fun hg => ⟨rfl, ?_⟩) (fun hg => c_wordy w₀ _ _) ?_; · (simp +decide only [gv, qI, Slots.get, if_true, if_false, qy] at hg; simp +decide only [evs, ev, Slots.get, if_true, if_false, hg, Qs, List.append_nil, List.map_cons, List.map_nil] <;> try rfl))
  simp +decide only [qa, ev, qK, qH, putD, Slots.put, Slots.get, Slots.keep, if_true, if_false, true_and, gv, qI, qy, ↓ag_unOp, pop_unOp, agP, Qm, qG, implies_true, pU_not, cv_un, cp_un, ↓QN, Qw, Qg, QZ, pickV_bool]
  apply hK; clear hK K
  refine qM (b := _) rfl (fun hb1 => ?_) (fun hb1 => ?_)
  · skip
    refine awp_rseq [4, 5, 6] (by rfl) fun K hK => ?_
    simp +decide only [ev, qK, qH, putD, Slots.put, Slots.get, if_false, true_and, ↓Qo, ↓Qa, bld38_0_1, evP, List.map_cons, List.map_nil]
    refine qp (by rfl) (by rfl) (by repeat (first | exact AHeap.set_same _ _ _ | assumption | refine (AHeap.set_ne _ _ (by first | assumption | exact Ne.symm (by assumption))).trans ?_)) Xi (by rfl) (by rfl) (by first | exact Nat.le_refl _ | decide | (simp; done) | (simp; omega)) (Nat.zero_le _) (by rfl) ?_
    simp only [AVal.cells]
    simp +decide only [qa, ev, qK, qH, putD, Slots.put, Slots.get, Slots.keep, if_true, if_false, true_and, ↓qc, qb, setAt, List.set_cons_zero, List.set_cons_succ, Nat.zero_add, Nat.reduceAdd]
    apply hK; clear hK K
    refine qU ?_
    try simp only [Ql]
    refine qO h (by repeat (first | exact Sub.refl _ | assumption | refine Sub.trans_set ?_ (by assumption))) (?_) ?_
    · simp +decide only [QF, qB, ql, Slots.get, if_true, if_false, and_true, qB, ql, qi ag38 Xi, Qi, qf, List.getD_cons_zero, List.getD_cons_succ, Nat.zero_add, Nat.reduceAdd, qC, qj, qE, allLive, Bool.and_true, qf, List.getD_cons_zero, List.getD_cons_succ, Nat.zero_add, Nat.reduceAdd, qC, qj, qE, allLive, Bool.and_true]
    
    simp +decide only [Slots.get, if_true, if_false, and_true, Qr, qB, ql, qi ag38 Xi, Qi, qf, List.getD_cons_zero, List.getD_cons_succ, Nat.zero_add, Nat.reduceAdd, qC, qj, qE, allLive, Bool.and_true, Bool.and_true, qf, List.getD_cons_zero, List.getD_cons_succ, Nat.zero_add, Nat.reduceAdd, qC, qj, qE, allLive, Bool.and_true, nxA, nxR]
    have hq : QK [qA s i, qA s (i + 1)] = IS ∧ QP (qA s (i + 2)) = false := by
      by_cases hd : QK [qA s i, qA s (i + 1)] = IS
      · rw [decide_eq_true (show QK [qA s i, qA s (i + 1)] = [73, 83] from hd)] at hb1
        exact ⟨hd, by simpa using hb1⟩
      · rw [decide_eq_false (show ¬ QK [qA s i, qA s (i + 1)] = [73, 83] from hd)] at hb1
        cases hb1
    unfold Xu
    rw [if_pos ⟨rfl, hq.1, hq.2⟩]
    rfl
  · skip
    refine qZ ?_
    change Awp _ _ _ _ _ _ _
    refine Awp.keep [0, 4] ?_
    exact pictureEnd w₀ h _ ((by repeat (first | exact Sub.refl _ | assumption | refine Sub.set_both ?_ _ _ | refine Sub.trans_set ?_ (by repeat (first | assumption | refine (AHeap.set_ne _ _ (by first | assumption | exact Ne.symm (by assumption))).trans ?_))))) kx k0q0 lf s mv tv i true ((by repeat (first | exact AHeap.set_same _ _ _ | assumption | refine (AHeap.set_ne _ _ (by first | assumption | exact Ne.symm (by assumption))).trans ?_))) ((by repeat (first | exact AHeap.set_same _ _ _ | assumption | refine (AHeap.set_ne _ _ (by first | assumption | exact Ne.symm (by assumption))).trans ?_))) hk0q0 ne_0q0_x h32 hs (fun q => by rw [decide_eq_true (show QK [qA s i, qA s (i + 1)] = [73, 83] from q.2.1), q.2.2] at hb1; cases hb1)
theorem c_picture (w₀ : World) (h : AHeap) (kx : Nat) (lf : Bool) (s : Str) (mv tv : AVal) (i : Nat) (is : Bool) (eb_x : h kx = some ⟨[.bool lf, .str s, mv, .int .i64 i, tv], 0⟩) (h32 : qA s i ≠ 32) (hs : s.length ≤ 1099511627776) :
    ACall Tryz.prog w₀ 86 [.ptr (.own kx) 0, .bool is] h (fun r h' => r = nxR (Xu s i is) ∧ h' = h) := by
  cases is with
  | true => exact c_pictureT w₀ h kx lf s mv tv i eb_x h32 hs
  | false => exact c_pictureF w₀ h kx lf s mv tv i eb_x h32 hs
set_option maxHeartbeats 400000 in
theorem c_number (w₀ : World) (h : AHeap) (kx : Nat) (lf : Bool) (s : Str) (mv tv : AVal) (i : Nat) (eb_x : h kx = some ⟨[.bool lf, .str s, mv, .int .i64 i, tv], 0⟩) (hi : i < s.length) (hs : s.length ≤ 1099511627776) :
    ACall Tryz.prog w₀ 89 [.ptr (.own kx) 0] h (fun r h' => r = nxR (Xy s i) ∧ h' = h) := by
  have hs_h : Sub h h := Sub.refl h
  have hsg := Bool.toNat_le (Qz s i)
  have hn1 := n1_le hi
  have hnl := numLen_le hi
  obtain ⟨b0, h0⟩ : ∃ b, b = qA s i := ⟨_, rfl⟩
  obtain ⟨bm, hm⟩ : ∃ b, b = qA s ((i : Int) + -1) := ⟨_, rfl⟩
  refine qY (n := 89) (rs := [.cell 2 38, .tmp 3, .tmp 4]) Tryz.func89 rfl rfl rfl rfl (Nat.le_of_ble_eq_true rfl) ?_
  simp only [Qf]
  refine awp_rseq [0, 2] (by rfl) fun K hK => ?_
  refine Qh ze38 (cs := [.int .u8 0, .str [], .int .i64 0, .int .i64 0, .bool false]) (by rfl) fun k0q0 hk0q0 => ?_
  have hn_0q0 : h k0q0 = none := by first | assumption | (simp only [AHeap.set_none] at hk0q0; simp only [hk0q0])
  have hf_0q0 : h k0q0 = none := Sub.none hs_h hn_0q0
  have ne_0q0_x : k0q0 ≠ kx := AHeap.ne_some hn_0q0 eb_x
  simp +decide only [qa, ev, qK, qH, putD, Slots.put, Slots.keep, if_true, if_false, true_and, ↓qc, qb]
  apply hK; clear hK K
  refine awp_rseq [0, 2, 5] (by rfl) fun K hK => ?_
  simp +decide only [qa, ev, qK, qH, putD, Slots.put, Slots.keep, if_true, if_false, true_and, ↓qc, qb]
  apply hK; clear hK K
  refine awp_rseq [0, 2, 5, 6] (by rfl) fun K hK => ?_
  simp +decide only [ev, putD, Slots.put, Slots.get, if_true, if_false, true_and, ↓qg, qd]
  refine qL (V := .int .u8 b0.toNat) (by rfl) (by rfl) (by rw [h0]; exact c_peek0 w₀ _ kx lf s mv tv i ((by repeat (first | exact AHeap.set_same _ _ _ | assumption | refine (AHeap.set_ne _ _ (by first | assumption | exact Ne.symm (by assumption))).trans ?_))) (by omega)) ?_
  simp +decide only [ev, qK, qH, putD, Slots.put, Slots.get, if_true, if_false, true_and, ↓qw, qh, qz, cond_false, qm, Xo, ↓qg, qd, ↓Xf, agP, Qm, qI, qG, qV, implies_true]
  (refine XJ (V := .int .u8 b0.toNat) (f := _) (cap := _) (xs := _) (by first | rfl | (simp +decide only [gv, qI, Slots.get, if_true, if_false, QV, qG])) (fun hg => ⟨rfl, ?_⟩) (fun hg => by rw [h0]; exact c_peek0 w₀ _ kx lf s mv tv i ((by repeat (first | exact AHeap.set_same _ _ _ | assumption | refine (AHeap.set_ne _ _ (by first | assumption | exact Ne.symm (by assumption))).trans ?_))) (by omega)) ?_; · (simp +decide only [gv, qI, Slots.get, if_true, if_false, qV] at hg; simp +decide only [evs, ev, Slots.get, if_true, if_false, hg, Qs, List.append_nil, List.map_cons, List.map_nil, qK, qH] <;> try rfl))
  simp +decide only [ev, qK, qH, putD, Slots.put, Slots.get, if_true, if_false, true_and, gv, qI, qy, qV, ↓QW, qh, agP, Qm, qG, implies_true, qz, cond_false, XR, XT, qm, Xo, ↓QN, Qw, Qg, Za, pickV_or, ↓qg, qd, ↓Xf]
  (refine XJ (V := .int .u8 bm.toNat) (f := _) (cap := _) (xs := _) (by first | rfl | (simp +decide only [gv, qI, Slots.get, if_true, if_false, QV, qG])) (fun hg => ⟨rfl, ?_⟩) (fun hg => by rw [hm]; exact c_peek w₀ _ kx lf s mv tv i (-1) ((by repeat (first | exact AHeap.set_same _ _ _ | assumption | refine (AHeap.set_ne _ _ (by first | assumption | exact Ne.symm (by assumption))).trans ?_))) (by omega) (by omega) (by omega)) ?_; · (simp +decide only [gv, qI, Slots.get, if_true, if_false, qy] at hg; simp +decide only [evs, ev, Slots.get, if_true, if_false, hg, Qs, List.append_nil, List.map_cons, List.map_nil, qK, qH] <;> try rfl))
  simp +decide only [ev, qK, qH, putD, Slots.put, Slots.get, if_true, if_false, true_and, gv, qI, qy, qV, guardB_cond, ↓QW, qh, agP, Qm, qG, QV, cv_cv, implies_true, qz, cond_false, XR, XT, qm, Xo, ↓Xf, qd]
  (refine XJ (V := .int .u8 bm.toNat) (f := _) (cap := _) (xs := _) (by first | rfl | (simp +decide only [gv, qI, Slots.get, if_true, if_false, QV])) (fun hg => ⟨rfl, ?_⟩) (fun hg => by rw [hm]; exact c_peek w₀ _ kx lf s mv tv i (-1) ((by repeat (first | exact AHeap.set_same _ _ _ | assumption | refine (AHeap.set_ne _ _ (by first | assumption | exact Ne.symm (by assumption))).trans ?_))) (by omega) (by omega) (by omega)) ?_; · (simp +decide only [gv, qI, Slots.get, if_true, if_false, qV, guardB_cond] at hg; simp +decide only [evs, ev, Slots.get, if_true, if_false, hg, Qs, List.append_nil, List.map_cons, List.map_nil, qK, qH] <;> try rfl))
  simp +decide only [qa, ev, qK, qH, putD, Slots.put, Slots.get, Slots.keep, if_true, if_false, true_and, gv, qI, qy, qV, guardB_cond, ↓QW, qh, agP, Qm, qG, QV, implies_true, qz, cond_false, XR, XT, qm, Xo, ↓ag_pick, Qw, Qg, QZ, cp_nest2, Xj, pickV_or, cv_pick, cp_pick, ↓QN, ↓qc, qb]
  have hsv : ((decide ((b0.toNat : Int) = 43) || decide ((b0.toNat : Int) = 45)) && (decide ((bm.toNat : Int) = 32) || decide ((bm.toNat : Int) = 40))) = Qz s i := by
    have e43 : decide ((b0.toNat : Int) = 43) = decide (b0 = 43) := decide_eq_decide.2 (iff_of_eq (XB _ 43))
    have e45 : decide ((b0.toNat : Int) = 45) = decide (b0 = 45) := decide_eq_decide.2 (iff_of_eq (XB _ 45))
    have e32 : decide ((bm.toNat : Int) = 32) = decide (bm = 32) := decide_eq_decide.2 (iff_of_eq (XB _ 32))
    have e40 : decide ((bm.toNat : Int) = 40) = decide (bm = 40) := decide_eq_decide.2 (iff_of_eq (XB _ 40))
    rw [e43, e45, e32, e40]
    unfold Qz
    rw [h0, hm, show (i : Int) + -1 = (i : Int) - 1 by omega]
  rw [hsv]
  obtain ⟨sg, hsg'⟩ : ∃ sg, sg = Qz s i := ⟨_, rfl⟩
  rw [← hsg']
  apply hK; clear hK K
  refine qN ?_
  refine awp_rseq [0, 2, 5, 6, 27] (by rfl) fun K hK => ?_
  simp +decide only [qa, ev, putD, Slots.put, Slots.get, Slots.keep, if_true, if_false, true_and, ↓qg, qd]
  apply hK; clear hK K
  refine awp_joinT [0, 2, 5, 6] (fun z : Unit => [(0, .ptr (.own kx) 0), (2, .ptr (.own k0q0) 0), (5, .int .i64 sg.toNat), (6, .bool sg)]) (fun z : Unit => h.set k0q0 ⟨[.int .u8 0, .str [], .int .i64 0, .int .i64 0, .bool false], 0⟩) (fun z : Unit => True) ?_ ?_
  · refine qM (b := _) rfl (fun hb1 => ?_) (fun hb1 => ?_)
    · skip
      refine Xl [0, 2, 5, 6] (by rfl) ?_
      simp +decide only [qa, ev, qK, qH, putD, Slots.put, Slots.get, Slots.keep, if_true, if_false, true_and, and_true, ↓qg, qd, ↓qw, qh, qz, cond_false, qm, Xk, ↓qc, qb, nxA, nxR]
      try simp (disch := omega) only [wrap_i64]
      try simp only [qR]
      first
      | exact ⟨(), by rw [hb1]; rfl, Sub.refl _, trivial⟩
      | exact ⟨(), by rw [hb1]; rfl, Sub.refl _⟩
    · skip
      refine qZ ?_
      try simp only [qR]
      first
      | exact ⟨(), by rw [hb1]; rfl, Sub.refl _, trivial⟩
      | exact ⟨(), by rw [hb1]; rfl, Sub.refl _⟩
  · intro _ _
    rw [hsg'] at *
    have hd0 : d0E s i ≤ s.length := runE_len _ _ _
    have hq1 : ((Qz s i).toNat : Int) + d0E s i = (n1E s i : Nat) := by unfold n1E; omega
    have hnum : Xy s i = numF (QP (qA s ((i : Int) + (n1E s i : Nat)))) (QP (qA s ((i : Int) + (Zl s i : Nat)))) (Qz s i) (d0E s i) (numDig s i) (takeE s i 2 (Zl s i)) := rfl
    have hml : dotE s i = true → moreE s i ≤ s.length := fun _ => runE_len _ _ _
    refine awp_rseq [0, 2, 5, 6, 7] (by rfl) fun K hK => ?_
    simp +decide only [ev, putD, Slots.put, Slots.get, if_true, if_false, true_and, ↓qg, qd]
    refine qL (V := .int .i64 (d0E s i)) (by rfl) (by rfl) (c_run w₀ _ kx lf s mv tv i (Qz s i).toNat _ _ (f_digit w₀) ((by repeat (first | exact AHeap.set_same _ _ _ | assumption | refine (AHeap.set_ne _ _ (by first | assumption | exact Ne.symm (by assumption))).trans ?_))) (by omega) (by omega) hs) ?_
    simp +decide only [qa, ev, putD, Slots.put, Slots.get, Slots.keep, if_true, if_false, true_and, ↓qc, qb]
    apply hK; clear hK K
    refine awp_rseq [0, 2, 5, 6, 7] (by rfl) fun K hK => ?_
    simp +decide only [qa, ev, putD, Slots.put, Slots.get, Slots.keep, if_true, if_false, true_and, ↓qg, qd, ↓qw, qh, qP, cond_false, qm, Xk, ↓qc, qb]
    try simp (disch := omega) only [wrap_i64]
    rw [hq1]
    apply hK; clear hK K
    refine qN ?_
    refine awp_rseq [0, 2, 5, 6, 7, 43] (by rfl) fun K hK => ?_
    simp +decide only [ev, qK, qH, putD, Slots.put, Slots.get, if_true, if_false, true_and, ↓qg, qd, ↓qw, qh, qz, cond_false, qm, pI_gtr, ↓Xf, agP, Qm, qI, qG, qy, implies_true]
    (refine XJ (V := .int .u8 (qA s ((i : Int) + (n1E s i : Nat))).toNat) (f := _) (cap := _) (xs := _) (by first | rfl | (simp +decide only [gv, qI, Slots.get, if_true, if_false, QV, qG])) (fun hg => ⟨rfl, ?_⟩) (fun hg => c_peek w₀ _ kx lf s mv tv i _ ((by repeat (first | exact AHeap.set_same _ _ _ | assumption | refine (AHeap.set_ne _ _ (by first | assumption | exact Ne.symm (by assumption))).trans ?_))) (by omega) (by omega) (by omega)) ?_; · (simp +decide only [gv, qI, Slots.get, if_true, if_false, qy] at hg; simp +decide only [evs, ev, Slots.get, if_true, if_false, hg, Qs, List.append_nil, List.map_cons, List.map_nil] <;> try rfl))
    try simp +decide only [putD, Slots.put, Slots.get, if_true, if_false, gv, qI, qy]
    (refine XJ (V := .bool (QP (qA s ((i : Int) + (n1E s i : Nat))))) (f := _) (cap := _) (xs := _) (by first | rfl | (simp +decide only [gv, qI, Slots.get, if_true, if_false, QV, qG])) (fun hg => ⟨rfl, ?_⟩) (fun hg => c_wordy w₀ _ _) ?_; · (simp +decide only [gv, qI, Slots.get, if_true, if_false, qy] at hg; simp +decide only [evs, ev, Slots.get, if_true, if_false, hg, Qs, List.append_nil, List.map_cons, List.map_nil] <;> try rfl))
    simp +decide only [qa, ev, qK, qH, putD, Slots.put, Slots.get, Slots.keep, if_true, if_false, true_and, gv, qI, qy, ↓QN, Qw, Qg, QZ, Xj]
    apply hK; clear hK K
    refine qM (b := _) rfl (fun hb2 => ?_) (fun hb2 => ?_)
    · try simp only [decide_eq_true_eq, Bool.and_eq_true] at hb2
      have hb2' : 0 < d0E s i ∧ QP (qA s ((i : Int) + (n1E s i : Nat))) = true := ⟨by omega, hb2.2⟩
      refine qN ?_
      refine awp_rseq [2, 44] (by rfl) fun K hK => ?_
      simp +decide only [qa, ev, putD, Slots.put, Slots.get, Slots.keep, if_true, if_false, true_and, ↓qg, qd]
      apply hK; clear hK K
      refine qM (b := _) rfl (fun hb3 => ?_) (fun hb3 => ?_)
      · skip
        refine awp_rseq [2, 3, 4] (by rfl) fun K hK => ?_
        simp +decide only [ev, qK, qH, putD, Slots.put, Slots.get, if_false, true_and, ↓Qo, ↓Qa, bld38_, evP, List.map_nil]
        refine qp (by rfl) (by rfl) (by repeat (first | exact AHeap.set_same _ _ _ | assumption | refine (AHeap.set_ne _ _ (by first | assumption | exact Ne.symm (by assumption))).trans ?_)) Xi (by rfl) (by rfl) (by first | exact Nat.le_refl _ | decide | (simp; done) | (simp; omega)) (Nat.zero_le _) (by rfl) ?_
        simp only [AHeap.set_set, AVal.cells]
        simp +decide only [qa, ev, qK, qH, putD, Slots.put, Slots.get, Slots.keep, if_true, if_false, true_and, ↓qc, qb, setAt, List.set_cons_zero, List.set_cons_succ, Nat.zero_add, Nat.reduceAdd]
        apply hK; clear hK K
        refine qU ?_
        try simp only [Ql]
        refine qO h (by repeat (first | exact Sub.refl _ | assumption | refine Sub.trans_set ?_ (by assumption))) (?_) ?_
        · simp +decide only [QF, qB, ql, Slots.get, if_true, if_false, and_true, qB, ql, qi ag38 Xi, Qi, qf, List.getD_cons_zero, List.getD_cons_succ, Nat.zero_add, Nat.reduceAdd, qC, qj, qE, allLive, Bool.and_true, qf, List.getD_cons_zero, List.getD_cons_succ, Nat.zero_add, Nat.reduceAdd, qC, qj, qE, allLive, Bool.and_true]
        
        simp +decide only [Slots.get, if_true, if_false, and_true, Qr, qB, ql, qi ag38 Xi, Qi, qf, List.getD_cons_zero, List.getD_cons_succ, Nat.zero_add, Nat.reduceAdd, qC, qj, qE, allLive, Bool.and_true, qf, List.getD_cons_zero, List.getD_cons_succ, Nat.zero_add, Nat.reduceAdd, qC, qj, qE, allLive, Bool.and_true, nxA, nxR]
        rw [hnum]
        unfold numF
        rw [if_pos hb2', if_pos hb3]
        rfl
      · skip
        refine qZ ?_
        change Awp _ _ _ _ _ _ _
        refine awp_rseq [2, 3, 4] (by rfl) fun K hK => ?_
        simp +decide only [ev, qK, qH, putD, Slots.put, Slots.get, if_false, true_and, ↓Qo, ↓Qa, bld38_, evP, List.map_nil]
        refine qp (by rfl) (by rfl) (by repeat (first | exact AHeap.set_same _ _ _ | assumption | refine (AHeap.set_ne _ _ (by first | assumption | exact Ne.symm (by assumption))).trans ?_)) Xi (by rfl) (by rfl) (by first | exact Nat.le_refl _ | decide | (simp; done) | (simp; omega)) (Nat.zero_le _) (by rfl) ?_
        simp only [AHeap.set_set, AVal.cells]
        simp +decide only [qa, ev, qK, qH, putD, Slots.put, Slots.get, Slots.keep, if_true, if_false, true_and, ↓qc, qb, setAt, List.set_cons_zero, List.set_cons_succ, Nat.zero_add, Nat.reduceAdd]
        apply hK; clear hK K
        refine qU ?_
        try simp only [Ql]
        refine qO h (by repeat (first | exact Sub.refl _ | assumption | refine Sub.trans_set ?_ (by assumption))) (?_) ?_
        · simp +decide only [QF, qB, ql, Slots.get, if_true, if_false, and_true, qB, ql, qi ag38 Xi, Qi, qf, List.getD_cons_zero, List.getD_cons_succ, Nat.zero_add, Nat.reduceAdd, qC, qj, qE, allLive, Bool.and_true, qf, List.getD_cons_zero, List.getD_cons_succ, Nat.zero_add, Nat.reduceAdd, qC, qj, qE, allLive, Bool.and_true]
        
        simp +decide only [Slots.get, if_true, if_false, and_true, Qr, qB, ql, qi ag38 Xi, Qi, qf, List.getD_cons_zero, List.getD_cons_succ, Nat.zero_add, Nat.reduceAdd, qC, qj, qE, allLive, Bool.and_true, qf, List.getD_cons_zero, List.getD_cons_succ, Nat.zero_add, Nat.reduceAdd, qC, qj, qE, allLive, Bool.and_true, nxA, nxR]
        rw [hnum]
        unfold numF
        rw [if_pos hb2', if_neg (by rw [hb3]; decide)]
        rfl
    · try simp only [decide_eq_false_iff_not, Bool.and_eq_false_iff] at hb2
      have hb2' : ¬ (0 < d0E s i ∧ QP (qA s ((i : Int) + (n1E s i : Nat))) = true) := fun q => hb2.elim (fun z => z (by omega)) (fun z => by rw [q.2] at z; cases z)
      refine qZ ?_
      change Awp _ _ _ _ _ _ _
      refine qN ?_
      refine awp_rseq [0, 2, 5, 7, 57] (by rfl) fun K hK => ?_
      simp +decide only [ev, putD, Slots.put, Slots.get, if_true, if_false, true_and, ↓qg, qd]
      refine qL (V := .int .u8 (qA s ((i : Int) + (n1E s i : Nat))).toNat) (by rfl) (by rfl) (c_peek w₀ _ kx lf s mv tv i _ ((by repeat (first | exact AHeap.set_same _ _ _ | assumption | refine (AHeap.set_ne _ _ (by first | assumption | exact Ne.symm (by assumption))).trans ?_))) (by omega) (by omega) (by omega)) ?_
      simp +decide only [ev, qK, qH, putD, Slots.put, Slots.get, if_true, if_false, true_and, ↓qw, qh, qz, cond_false, qm, Xo, ↓qg, qd, ↓Xf, agP, Qm, qI, qG, qy, implies_true, ↓QW, XR, XT, Xk]
      try simp (disch := omega) only [wrap_i64]
      (refine XJ (V := .int .u8 (qA s ((i : Int) + ((n1E s i : Nat) + 1))).toNat) (f := _) (cap := _) (xs := _) (by first | rfl | (simp +decide only [gv, qI, Slots.get, if_true, if_false, QV, qG])) (fun hg => ⟨rfl, ?_⟩) (fun hg => c_peek w₀ _ kx lf s mv tv i ((n1E s i : Nat) + 1) ((by repeat (first | exact AHeap.set_same _ _ _ | assumption | refine (AHeap.set_ne _ _ (by first | assumption | exact Ne.symm (by assumption))).trans ?_))) (by omega) (by omega) (by omega)) ?_; · (simp +decide only [gv, qI, Slots.get, if_true, if_false, qy] at hg; simp +decide only [evs, ev, Slots.get, if_true, if_false, hg, Qs, List.append_nil, List.map_cons, List.map_nil] <;> try rfl))
      try simp +decide only [putD, Slots.put, Slots.get, if_true, if_false, gv, qI, qy]
      (refine XJ (V := .bool (Xh (qA s ((i : Int) + ((n1E s i : Nat) + 1))))) (f := _) (cap := _) (xs := _) (by first | rfl | (simp +decide only [gv, qI, Slots.get, if_true, if_false, QV, qG])) (fun hg => ⟨rfl, ?_⟩) (fun hg => c_digitT w₀ _ _) ?_; · (simp +decide only [gv, qI, Slots.get, if_true, if_false, qy] at hg; simp +decide only [evs, ev, Slots.get, if_true, if_false, hg, Qs, List.append_nil, List.map_cons, List.map_nil] <;> try rfl))
      simp +decide only [qa, ev, qK, qH, putD, Slots.put, Slots.get, Slots.keep, if_true, if_false, true_and, gv, qI, qy, ↓QN, Qw, Qg, QZ, Xj]
      have hdv : (decide (((qA s ((i : Int) + (n1E s i : Nat))).toNat : Int) = 46) && Xh (qA s ((i : Int) + ((n1E s i : Nat) + 1)))) = dotE s i := by
        have e46 : decide (((qA s ((i : Int) + (n1E s i : Nat))).toNat : Int) = 46) = decide (qA s ((i : Int) + (n1E s i : Nat)) = 46) := decide_eq_decide.2 (iff_of_eq (XB _ 46))
        rw [e46, ← Int.add_assoc]
        rfl
      rw [hdv]
      apply hK; clear hK K
      refine awp_joinT [0, 2, 5, 7] (fun z : Unit => [(0, .ptr (.own kx) 0), (2, .ptr (.own k0q0) 0), (5, .int .i64 (Zl s i)), (7, .int .i64 (numDig s i))]) (fun z : Unit => h.set k0q0 ⟨[.int .u8 0, .str [], .int .i64 0, .int .i64 0, .bool false], 0⟩) (fun z : Unit => True) ?_ ?_
      · refine qM (b := _) rfl (fun hb4 => ?_) (fun hb4 => ?_)
        · skip
          have hmo := hml hb4
          have hld : Zl s i = n1E s i + 1 + moreE s i := by unfold Zl; rw [if_pos hb4]
          have hdd : numDig s i = d0E s i + moreE s i := by unfold numDig; rw [if_pos hb4]
          refine awp_rseq [0, 2, 5, 7, 8] (by rfl) fun K hK => ?_
          simp +decide only [ev, qK, qH, putD, Slots.put, Slots.get, if_true, if_false, true_and, ↓qg, qd, ↓qw, qh, qz, cond_false, qm, Xk]
          try simp (disch := omega) only [wrap_i64]
          rw [show ((n1E s i : Nat) : Int) + 1 = ((n1E s i + 1 : Nat) : Int) from rfl]
          refine qL (V := .int .i64 (moreE s i)) (by rfl) (by rfl) (c_run w₀ _ kx lf s mv tv i (n1E s i + 1) _ _ (f_digit w₀) ((by repeat (first | exact AHeap.set_same _ _ _ | assumption | refine (AHeap.set_ne _ _ (by first | assumption | exact Ne.symm (by assumption))).trans ?_))) (by omega) (by omega) hs) ?_
          simp +decide only [qa, ev, putD, Slots.put, Slots.get, Slots.keep, if_true, if_false, true_and, ↓qc, qb]
          apply hK; clear hK K
          refine awp_rseq [0, 2, 5, 7, 8] (by rfl) fun K hK => ?_
          simp +decide only [qa, ev, putD, Slots.put, Slots.get, Slots.keep, if_true, if_false, true_and, ↓qg, qd, ↓qw, qh, qP, cond_false, qm, Xk, ↓qc, qb]
          try simp (disch := omega) only [wrap_i64]
          apply hK; clear hK K
          refine Xl [0, 2, 5, 7] (by rfl) ?_
          simp +decide only [qa, ev, qK, qH, putD, Slots.put, Slots.get, Slots.keep, if_true, if_false, true_and, and_true, ↓qg, qd, ↓qw, qh, qP, cond_false, qm, Xk, ↓qc, qb, nxA, nxR]
          try simp (disch := omega) only [wrap_i64]
          try simp only [qR]
          first
          | exact ⟨(), by rw [hld, hdd, show ((n1E s i : Nat) : Int) + (1 + (moreE s i : Nat)) = ((n1E s i + 1 + moreE s i : Nat) : Int) by omega]; rfl, Sub.refl _, trivial⟩
          | exact ⟨(), by rw [hld, hdd]; rfl, Sub.refl _, trivial⟩
          | exact ⟨(), by rw [hld, hdd, show ((n1E s i : Nat) : Int) + (1 + (moreE s i : Nat)) = ((n1E s i + 1 + moreE s i : Nat) : Int) by omega]; rfl, Sub.refl _⟩
          | exact ⟨(), by rw [hld, hdd]; rfl, Sub.refl _⟩
        · skip
          have hld : Zl s i = n1E s i := by unfold Zl; rw [if_neg (by rw [hb4]; decide)]
          have hdd : numDig s i = d0E s i := by unfold numDig; rw [if_neg (by rw [hb4]; decide)]
          refine qZ ?_
          try simp only [qR]
          first
          | exact ⟨(), by rw [hld, hdd, show ((n1E s i : Nat) : Int) + (1 + (moreE s i : Nat)) = ((n1E s i + 1 + moreE s i : Nat) : Int) by omega]; rfl, Sub.refl _, trivial⟩
          | exact ⟨(), by rw [hld, hdd]; rfl, Sub.refl _, trivial⟩
          | exact ⟨(), by rw [hld, hdd, show ((n1E s i : Nat) : Int) + (1 + (moreE s i : Nat)) = ((n1E s i + 1 + moreE s i : Nat) : Int) by omega]; rfl, Sub.refl _⟩
          | exact ⟨(), by rw [hld, hdd]; rfl, Sub.refl _⟩
      · intro _ _
        refine qN ?_
        refine Qt ?_
        refine awp_rseq [0, 2, 5, 7, 69] (by rfl) fun K hK => ?_
        simp +decide only [qa, ev, qK, qH, putD, Slots.put, Slots.get, Slots.keep, if_true, if_false, true_and, ↓qg, qd, ↓qw, qh, qz, cond_false, qm, Xo, ↓qc, qb]
        apply hK; clear hK K
        refine qM (b := _) rfl (fun hb5 => ?_) (fun hb5 => ?_)
        · try simp only [decide_eq_true_eq] at hb5
          refine awp_rseq [2, 3, 4] (by rfl) fun K hK => ?_
          simp +decide only [ev, qK, qH, putD, Slots.put, Slots.get, if_false, true_and, ↓Qo, ↓Qa, bld38_, evP, List.map_nil]
          refine qp (by rfl) (by rfl) (by repeat (first | exact AHeap.set_same _ _ _ | assumption | refine (AHeap.set_ne _ _ (by first | assumption | exact Ne.symm (by assumption))).trans ?_)) Xi (by rfl) (by rfl) (by first | exact Nat.le_refl _ | decide | (simp; done) | (simp; omega)) (Nat.zero_le _) (by rfl) ?_
          simp only [AHeap.set_set, AVal.cells]
          simp +decide only [qa, ev, qK, qH, putD, Slots.put, Slots.get, Slots.keep, if_true, if_false, true_and, ↓qc, qb, setAt, List.set_cons_zero, List.set_cons_succ, Nat.zero_add, Nat.reduceAdd]
          apply hK; clear hK K
          refine qU ?_
          try simp only [Ql, QA]
          refine qO h (by repeat (first | exact Sub.refl _ | assumption | refine Sub.trans_set ?_ (by assumption))) (?_) ?_
          · simp +decide only [QF, qB, ql, Slots.get, if_true, if_false, and_true, qB, ql, qi ag38 Xi, Qi, qf, List.getD_cons_zero, List.getD_cons_succ, Nat.zero_add, Nat.reduceAdd, qC, qj, qE, allLive, Bool.and_true, qf, List.getD_cons_zero, List.getD_cons_succ, Nat.zero_add, Nat.reduceAdd, qC, qj, qE, allLive, Bool.and_true]
          
          simp +decide only [Slots.get, if_true, if_false, and_true, Qr, qB, ql, qi ag38 Xi, Qi, qf, List.getD_cons_zero, List.getD_cons_succ, Nat.zero_add, Nat.reduceAdd, qC, qj, qE, allLive, Bool.and_true, qf, List.getD_cons_zero, List.getD_cons_succ, Nat.zero_add, Nat.reduceAdd, qC, qj, qE, allLive, Bool.and_true, nxA, nxR]
          rw [hnum]
          unfold numF
          rw [if_neg hb2', if_pos (by omega)]
          rfl
        · try simp only [decide_eq_false_iff_not] at hb5
          have hb5' : ¬ numDig s i = 0 := by omega
          refine awp_rseq [0, 2, 5, 7, 73] (by rfl) fun K hK => ?_
          simp +decide only [ev, putD, Slots.put, Slots.get, if_true, if_false, true_and, ↓qg, qd]
          refine qL (V := .int .u8 (qA s ((i : Int) + (Zl s i : Nat))).toNat) (by rfl) (by rfl) (c_peek w₀ _ kx lf s mv tv i _ ((by repeat (first | exact AHeap.set_same _ _ _ | assumption | refine (AHeap.set_ne _ _ (by first | assumption | exact Ne.symm (by assumption))).trans ?_))) (by omega) (by omega) (by omega)) ?_
          refine qL (V := .bool (QP (qA s ((i : Int) + (Zl s i : Nat))))) (by rfl) (by rfl) (c_wordy w₀ _ _) ?_
          simp +decide only [qa, ev, putD, Slots.put, Slots.get, Slots.keep, if_true, if_false, true_and, ↓qc, qb]
          apply hK; clear hK K
          refine qM (b := _) rfl (fun hb6 => ?_) (fun hb6 => ?_)
          · skip
            refine awp_rseq [2, 3, 4] (by rfl) fun K hK => ?_
            simp +decide only [ev, qK, qH, putD, Slots.put, Slots.get, if_false, true_and, ↓Qo, ↓Qa, bld38_, evP, List.map_nil]
            refine qp (by rfl) (by rfl) (by repeat (first | exact AHeap.set_same _ _ _ | assumption | refine (AHeap.set_ne _ _ (by first | assumption | exact Ne.symm (by assumption))).trans ?_)) Xi (by rfl) (by rfl) (by first | exact Nat.le_refl _ | decide | (simp; done) | (simp; omega)) (Nat.zero_le _) (by rfl) ?_
            simp only [AHeap.set_set, AVal.cells]
            simp +decide only [qa, ev, qK, qH, putD, Slots.put, Slots.get, Slots.keep, if_true, if_false, true_and, ↓qc, qb, setAt, List.set_cons_zero, List.set_cons_succ, Nat.zero_add, Nat.reduceAdd]
            apply hK; clear hK K
            refine qU ?_
            try simp only [Ql, QA]
            refine qO h (by repeat (first | exact Sub.refl _ | assumption | refine Sub.trans_set ?_ (by assumption))) (?_) ?_
            · simp +decide only [QF, qB, ql, Slots.get, if_true, if_false, and_true, qB, ql, qi ag38 Xi, Qi, qf, List.getD_cons_zero, List.getD_cons_succ, Nat.zero_add, Nat.reduceAdd, qC, qj, qE, allLive, Bool.and_true, qf, List.getD_cons_zero, List.getD_cons_succ, Nat.zero_add, Nat.reduceAdd, qC, qj, qE, allLive, Bool.and_true]
            
            simp +decide only [Slots.get, if_true, if_false, and_true, Qr, qB, ql, qi ag38 Xi, Qi, qf, List.getD_cons_zero, List.getD_cons_succ, Nat.zero_add, Nat.reduceAdd, qC, qj, qE, allLive, Bool.and_true, qf, List.getD_cons_zero, List.getD_cons_succ, Nat.zero_add, Nat.reduceAdd, qC, qj, qE, allLive, Bool.and_true, nxA, nxR]
            rw [hnum]
            unfold numF
            rw [if_neg hb2', if_neg hb5', if_pos hb6]
            rfl
          · skip
            have hb6' : ¬ QP (qA s ((i : Int) + (Zl s i : Nat))) = true := by rw [hb6]; decide
            refine awp_rseq [0, 2, 5, 79] (by rfl) fun K hK => ?_
            simp +decide only [qa, ev, qK, qH, putD, Slots.put, Slots.get, Slots.keep, if_true, if_false, true_and, ↓qg, qd, ↓qw, qh, qz, cond_false, qm, pI_gtr, ↓qc, qb]
            apply hK; clear hK K
            refine qM (b := _) rfl (fun hb7 => ?_) (fun hb7 => ?_)
            · try simp only [decide_eq_true_eq] at hb7
              refine awp_rseq [2, 3, 4] (by rfl) fun K hK => ?_
              simp +decide only [ev, qK, qH, putD, Slots.put, Slots.get, if_false, true_and, ↓Qo, ↓Qa, bld38_, evP, List.map_nil]
              refine qp (by rfl) (by rfl) (by repeat (first | exact AHeap.set_same _ _ _ | assumption | refine (AHeap.set_ne _ _ (by first | assumption | exact Ne.symm (by assumption))).trans ?_)) Xi (by rfl) (by rfl) (by first | exact Nat.le_refl _ | decide | (simp; done) | (simp; omega)) (Nat.zero_le _) (by rfl) ?_
              simp only [AHeap.set_set, AVal.cells]
              simp +decide only [qa, ev, qK, qH, putD, Slots.put, Slots.get, Slots.keep, if_true, if_false, true_and, ↓qc, qb, setAt, List.set_cons_zero, List.set_cons_succ, Nat.zero_add, Nat.reduceAdd]
              apply hK; clear hK K
              refine qU ?_
              try simp only [Ql, QA]
              refine qO h (by repeat (first | exact Sub.refl _ | assumption | refine Sub.trans_set ?_ (by assumption))) (?_) ?_
              · simp +decide only [QF, qB, ql, Slots.get, if_true, if_false, and_true, qB, ql, qi ag38 Xi, Qi, qf, List.getD_cons_zero, List.getD_cons_succ, Nat.zero_add, Nat.reduceAdd, qC, qj, qE, allLive, Bool.and_true, qf, List.getD_cons_zero, List.getD_cons_succ, Nat.zero_add, Nat.reduceAdd, qC, qj, qE, allLive, Bool.and_true]
              
              simp +decide only [Slots.get, if_true, if_false, and_true, Qr, qB, ql, qi ag38 Xi, Qi, qf, List.getD_cons_zero, List.getD_cons_succ, Nat.zero_add, Nat.reduceAdd, qC, qj, qE, allLive, Bool.and_true, qf, List.getD_cons_zero, List.getD_cons_succ, Nat.zero_add, Nat.reduceAdd, qC, qj, qE, allLive, Bool.and_true, nxA, nxR]
              rw [hnum]
              unfold numF
              rw [if_neg hb2', if_neg hb5', if_neg hb6', if_pos (by omega)]
              rfl
            · try simp only [decide_eq_false_iff_not] at hb7
              refine qZ ?_
              change Awp _ _ _ _ _ _ _
              refine awp_rseq [2, 3, 4] (by rfl) fun K hK => ?_
              simp +decide only [ev, putD, Slots.put, Slots.get, if_true, if_false, true_and, ↓qg, qd]
              refine qL (V := nxR (takeE s i 2 (Zl s i))) (by rfl) (by rfl) (c_takeT w₀ _ kx lf s mv tv i (Zl s i) 2 ((by repeat (first | exact AHeap.set_same _ _ _ | assumption | refine (AHeap.set_ne _ _ (by first | assumption | exact Ne.symm (by assumption))).trans ?_))) hnl hs) ?_
              simp +decide only [ev, putD, Slots.put, Slots.get, if_true, if_false, true_and, ↓QU, QB, QL, List.length_cons, List.length_nil, List.getD_cons_zero, List.getD_cons_succ, List.getD_cons_zero, List.getD_cons_succ, Nat.zero_add, Nat.reduceAdd, nxA, nxR]
              refine qp (by rfl) (by rfl) (by repeat (first | exact AHeap.set_same _ _ _ | assumption | refine (AHeap.set_ne _ _ (by first | assumption | exact Ne.symm (by assumption))).trans ?_)) Xi (by rfl) (by rfl) (by first | exact Nat.le_refl _ | decide | (simp; done) | (simp; omega)) (Nat.zero_le _) (by rfl) ?_
              simp only [AHeap.set_set, AVal.cells]
              simp +decide only [qa, ev, putD, Slots.put, Slots.get, Slots.keep, if_true, if_false, true_and, ↓qc, qb, setAt, List.set_cons_zero, List.set_cons_succ, Nat.zero_add, Nat.reduceAdd]
              apply hK; clear hK K
              refine qU ?_
              refine qO h (by repeat (first | exact Sub.refl _ | assumption | refine Sub.trans_set ?_ (by assumption))) (?_) ?_
              · simp +decide only [QF, qB, ql, Slots.get, if_true, if_false, and_true, qB, ql, qi ag38 Xi, Qi, qf, List.getD_cons_zero, List.getD_cons_succ, Nat.zero_add, Nat.reduceAdd, qC, qj, qE, allLive, Bool.and_true, qf, List.getD_cons_zero, List.getD_cons_succ, Nat.zero_add, Nat.reduceAdd, qC, qj, qE, allLive, Bool.and_true]
              
              simp +decide only [Slots.get, if_true, if_false, and_true, Qr, qB, ql, qi ag38 Xi, Qi, qf, List.getD_cons_zero, List.getD_cons_succ, Nat.zero_add, Nat.reduceAdd, qC, qj, qE, allLive, Bool.and_true, qf, List.getD_cons_zero, List.getD_cons_succ, Nat.zero_add, Nat.reduceAdd, qC, qj, qE, allLive, Bool.and_true, nxA, nxR]
              rw [hnum]
              unfold numF
              rw [if_neg hb2', if_neg hb5', if_neg hb6', if_neg (by omega)]
end Go.Proofs.YtmadddihphkmoaaGreatDoor

/-
  Contracts: name, sign of the scanner.
  Conditions: none.
-/
namespace Go.Proofs.YtmadddihphkmoaaGreatDoor
open Go.AM
open Go.Proofs
open Go.Col
open Go.Tok
open Go.RowKit (Below)
set_option maxRecDepth 100000

def digH : Str := [48, 49, 50, 51, 52, 53, 54, 55, 56, 57, 45]
theorem c_trimS (w₀ : World) (h : AHeap) (s : Str) (hs : s.length ≤ 9223372036854775807) : ACall Tryz.prog w₀ 114 [.str s, .str digH] h (fun v h' => v = .str (Lib.trimS s digH) ∧ h' = h) := by
  refine acall_of_calls (vals := [.string ⟨⟨s⟩⟩, .string ⟨⟨digH⟩⟩]) (val := .string ⟨⟨Lib.trimS s digH⟩⟩) Tryz.func114 rfl rfl (fun φ vs hv => VRs_ss hv) (fun φ => rfl) fun w => ?_
  exact Any.strings_Trim_laid Tryz.lays160 (by kernel_rfl) ⟨⟨s⟩⟩ ⟨⟨digH⟩⟩ w hs (by decide) (ascii_of_all (by decide))
theorem digH_mem (b : UInt8) : digH.contains b = (Xh b || decide (b = 45)) := by
  rw [Bool.eq_iff_iff, List.contains_iff_mem]
  unfold digH Xh
  simp only [List.mem_cons, List.not_mem_nil, or_false, Bool.or_eq_true, Bool.and_eq_true, decide_eq_true_eq]
  constructor
  · rintro (h | h | h | h | h | h | h | h | h | h | h) <;> subst h <;> decide
  · rintro (h | h)
    · have e : b = UInt8.ofNat b.toNat := (UInt8.ofNat_toNat).symm
      generalize b.toNat = n at h e
      have : n = 48 ∨ n = 49 ∨ n = 50 ∨ n = 51 ∨ n = 52 ∨ n = 53 ∨ n = 54 ∨ n = 55 ∨ n = 56 ∨ n = 57 := by omega
      rcases this with q | q | q | q | q | q | q | q | q | q <;> subst q <;> subst e <;> decide
    · subst h; decide
theorem dropW_nil {p : UInt8 → Bool} : ∀ {s : Str}, s.dropWhile p = [] ↔ s.all p = true
  | [] => by simp
  | b :: s => by
    rw [List.dropWhile_cons, List.all_cons]
    cases hp : p b with
    | true => simp only [if_true, Bool.true_and]; exact dropW_nil
    | false => simp
theorem dropW_mem {p : UInt8 → Bool} : ∀ {s : Str}, s.all p = false → (s.dropWhile p).all p = false
  | [], h => by cases h
  | b :: s, h => by
    rw [List.dropWhile_cons]
    rw [List.all_cons] at h
    cases hp : p b with
    | true =>
      rw [hp, Bool.true_and] at h
      simp only [if_true]
      exact dropW_mem h
    | false => simp [hp]
theorem trimS_nil (s : Str) : (!decide (Lib.trimS s digH = [])) = !(s.all fun b => Xh b || decide (b = 45)) := by
  rw [← decide_not]
  have hp : (fun b => Xh b || decide (b = 45)) = fun b => digH.contains b := funext fun b => (digH_mem b).symm
  rw [hp]
  unfold Lib.trimS Lib.trimLeftS Lib.trimRightS
  cases ha : s.all (fun b => digH.contains b) with
  | true =>
    have h1 : s.reverse.dropWhile (fun b => digH.contains b) = [] := dropW_nil.2 (by rw [List.all_reverse]; exact ha)
    rw [h1]
    rfl
  | false =>
    have h1 := dropW_mem (p := fun b => digH.contains b) (s := s.reverse) (by rw [List.all_reverse]; exact ha)
    have h2 : ((s.reverse.dropWhile (fun b => digH.contains b)).reverse).all (fun b => digH.contains b) = false := by rw [List.all_reverse]; exact h1
    have h3 : ¬ ((s.reverse.dropWhile (fun b => digH.contains b)).reverse).dropWhile (fun b => digH.contains b) = [] := fun e => by
      rw [dropW_nil.1 e] at h2
      cases h2
    rw [decide_eq_true h3]
    rfl
theorem c_name (w₀ : World) (h : AHeap) (kx : Nat) (lf : Bool) (s : Str) (mv tv : AVal) (i : Nat) (eb_x : h kx = some ⟨[.bool lf, .str s, mv, .int .i64 i, tv], 0⟩) (hi : i < s.length) (hw : QP (s.getD i 0) = true) (hs : s.length ≤ 1099511627776) :
    ACall Tryz.prog w₀ 91 [.ptr (.own kx) 0] h (fun r h' => r = nxR (nameE s i) ∧ h' = h) := by
  have hs_h : Sub h h := Sub.refl h
  have hp := runE_pos hi hw
  have hr := runE_le s i QP (by omega)
  obtain ⟨n, hn⟩ : ∃ n, n = Zn s i QP := ⟨_, rfl⟩
  rw [← hn] at hp hr
  obtain ⟨t, ht⟩ : ∃ t, t = QK ((s.drop i).take n) := ⟨_, rfl⟩
  have htl : t.length = n := by rw [ht]; unfold QK; rw [List.length_map, List.length_take, List.length_drop]; omega
  have hnm : nameE s i = if (t.all fun b => Xh b || decide (b = 45)) = true ∨ t.getD 0 0 = 45 ∨ t.getD (n - 1) 0 = 45 then .err 4 else if 30 < n then .err 5 else ⟨1, t, n, 0⟩ := by unfold nameE; simp only; rw [← hn, ← ht]
  have h1 : ((n : Int) - 1).toNat = n - 1 := by omega
  have h0 : (0 : Int).toNat = 0 := rfl
  refine qY (n := 51) (rs := [.cell 2 38, .tmp 3, .tmp 4]) Tryz.func91 rfl rfl rfl rfl (Nat.le_of_ble_eq_true rfl) ?_
  simp only [Qf]
  refine awp_rseq [0, 2] (by rfl) fun K hK => ?_
  refine Qh ze38 (cs := [.int .u8 0, .str [], .int .i64 0, .int .i64 0, .bool false]) (by rfl) fun k0q0 hk0q0 => ?_
  have hn_0q0 : h k0q0 = none := by first | assumption | (simp only [AHeap.set_none] at hk0q0; simp only [hk0q0])
  have hf_0q0 : h k0q0 = none := Sub.none hs_h hn_0q0
  have ne_0q0_x : k0q0 ≠ kx := AHeap.ne_some hn_0q0 eb_x
  simp +decide only [qa, ev, qK, qH, putD, Slots.put, Slots.keep, if_true, if_false, true_and, ↓qc, qb]
  apply hK; clear hK K
  refine awp_rseq [0, 2, 5] (by rfl) fun K hK => ?_
  simp +decide only [ev, putD, Slots.put, Slots.get, if_true, if_false, true_and, ↓qg, qd]
  refine qL (V := .int .i64 n) (by rfl) (by rfl) (by rw [hn]; exact c_run0 w₀ _ kx lf s mv tv i _ _ (f_wordy w₀) ((by repeat (first | exact AHeap.set_same _ _ _ | assumption | refine (AHeap.set_ne _ _ (by first | assumption | exact Ne.symm (by assumption))).trans ?_))) (by omega) hs) ?_
  simp +decide only [qa, ev, putD, Slots.put, Slots.get, Slots.keep, if_true, if_false, true_and, ↓qc, qb]
  apply hK; clear hK K
  refine awp_rseq [2, 5, 6, 7] (by rfl) fun K hK => ?_
  simp +decide only [ev, putD, Slots.put, Slots.get, if_true, if_false, true_and, ↓qg, qd]
  refine qL (V := nxR (takeE s i 1 n)) (by rfl) (by rfl) (c_takeT w₀ _ kx lf s mv tv i n 1 ((by repeat (first | exact AHeap.set_same _ _ _ | assumption | refine (AHeap.set_ne _ _ (by first | assumption | exact Ne.symm (by assumption))).trans ?_))) hr hs) ?_
  simp +decide only [ev, putD, Slots.put, Slots.get, if_true, if_false, true_and, ↓qg, qd, ↓QU, QB, QL, List.length_cons, List.length_nil, List.getD_cons_zero, List.getD_cons_succ, List.getD_cons_zero, List.getD_cons_succ, Nat.zero_add, Nat.reduceAdd, nxA, nxR, Tok.takeE]
  refine Qh ze38 (cs := [.int .u8 0, .str [], .int .i64 0, .int .i64 0, .bool false]) (by rfl) fun k2q7 hk2q7 => ?_
  have ne_2q7_0q0 : k2q7 ≠ k0q0 := by simp only [AHeap.set_none] at hk2q7; simp only [hk2q7, ne_eq, not_false_eq_true]
  have hn_2q7 : h k2q7 = none := by first | assumption | (simp only [AHeap.set_none] at hk2q7; simp only [hk2q7])
  have hf_2q7 : h k2q7 = none := Sub.none hs_h hn_2q7
  have ne_2q7_x : k2q7 ≠ kx := AHeap.ne_some hn_2q7 eb_x
  refine qp (by rfl) (by rfl) (by repeat (first | exact AHeap.set_same _ _ _ | assumption | refine (AHeap.set_ne _ _ (by first | assumption | exact Ne.symm (by assumption))).trans ?_)) Xi (by rfl) (by rfl) (by first | exact Nat.le_refl _ | decide | (simp; done) | (simp; omega)) (Nat.zero_le _) (by rfl) ?_
  simp only [AHeap.set_set, AVal.cells]
  simp +decide only [qa, ev, putD, Slots.put, Slots.get, Slots.keep, if_true, if_false, true_and, ↓qc, qb, setAt, List.set_cons_zero, List.set_cons_succ, Nat.zero_add, Nat.reduceAdd]
  apply hK; clear hK K
  refine awp_rseq [2, 5, 6, 7] (by rfl) fun K hK => ?_
  simp +decide only [ev, putD, Slots.put, Slots.get, if_true, if_false, true_and, ↓qF, qo, fa38_1, ↓qJ, Qb, qD ag9, Xa, List.getD_cons_zero, List.getD_cons_succ, Nat.zero_add, qE]
  refine qL (V := .str t) (by rfl) (by rfl) (by rw [ht, ← fold_eq]; exact c_fold w₀ _ ((s.drop i).take n) (by rw [List.length_take]; omega)) ?_
  simp +decide only [ev, putD, Slots.put, Slots.get, if_true, if_false, true_and, ↓qF, qo, fa38_1, Nat.zero_add]
  refine qp (by rfl) (by rfl) (by repeat (first | exact AHeap.set_same _ _ _ | assumption | refine (AHeap.set_ne _ _ (by first | assumption | exact Ne.symm (by assumption))).trans ?_)) sz9 (by rfl) (by rfl) (by first | exact Nat.le_refl _ | decide | (simp; done) | (simp; omega)) (Nat.zero_le _) (by rfl) ?_
  simp only [AHeap.set_set, AVal.cells]
  simp +decide only [qa, ev, putD, Slots.get, Slots.keep, if_true, if_false, setAt, List.set_cons_zero, List.set_cons_succ]
  apply hK; clear hK K
  refine awp_rseq [2, 5, 6, 7, 8] (by rfl) fun K hK => ?_
  simp +decide only [ev, putD, Slots.put, Slots.get, if_true, if_false, true_and, ↓qF, qo, fa38_1, ↓qJ, Qb, qD ag9, Xa, List.getD_cons_zero, List.getD_cons_succ, Nat.zero_add, qE]
  refine qL (V := .str (Lib.trimS t digH)) (by rfl) (by rfl) (c_trimS w₀ _ t (by omega)) ?_
  simp +decide only [qa, ev, qK, qH, putD, Slots.put, Slots.get, Slots.keep, if_true, if_false, true_and, ↓qw, qh, isNilC_str, cond_false, XN, pS_neq, ↓qc, qb]
  rw [trimS_nil]
  apply hK; clear hK K
  refine qN ?_
  refine Qt ?_
  refine awp_rseq [2, 5, 6, 7, 26] (by rfl) fun K hK => ?_
  simp +decide only [qa, ev, qK, qH, putD, Slots.put, Slots.get, Slots.keep, if_true, if_false, true_and, ↓qg, qd, ↓ap_unOp, pop_unOp, pU_not, ↓XE, qo, agP, Qm, qI, qG, qV, implies_true, Bool.not_not, fa38_1, ↓Zm, XY, agL_mk, agL_ld2, qD ag9, ↓ag_index, pop_index, pIndex_str Tryz.underlying9, cv_indexl, cv_indexr, cp_indexl, cp_indexr, ↓QW, qh, qz, cond_false, XR, XT, qm, Xo, ↓QN, Qw, Qg, Za, pickV_or, ↓Xf, pI_sub, ↓qc, qb, Xa, List.getD_cons_zero, List.getD_cons_succ, Nat.zero_add, qE, h0]
  try simp (disch := omega) only [wrap_i64]
  repeat (with_reducible refine And.intro ?_ ?_; · first | trivial | omega | (intro hg; simp only [Bool.and_eq_true, Bool.or_eq_true, Bool.not_eq_true', Bool.and_eq_false_iff, Bool.or_eq_false_iff, Bool.not_eq_false', decide_eq_true_eq, decide_eq_false_iff_not, XI] at hg; omega) )
  apply hK; clear hK K
  refine qM (b := _) rfl (fun hb1 => ?_) (fun hb1 => ?_)
  · try simp only [decide_eq_true_eq, Bool.or_eq_true] at hb1
    have hb1' : (t.all fun b => Xh b || decide (b = 45)) = true ∨ t.getD 0 0 = 45 ∨ t.getD (n - 1) 0 = 45 := by
      rcases hb1 with (q | q) | q
      · exact .inl q
      · exact .inr (.inl ((XB _ 45).mp q))
      · exact .inr (.inr (by rw [h1] at q; exact (XB _ 45).mp q))
    refine awp_rseq [2, 3, 4] (by rfl) fun K hK => ?_
    simp +decide only [ev, qK, qH, putD, Slots.put, Slots.get, if_false, true_and, ↓Qo, ↓Qa, bld38_, evP, List.map_nil]
    refine qp (by rfl) (by rfl) (by repeat (first | exact AHeap.set_same _ _ _ | assumption | refine (AHeap.set_ne _ _ (by first | assumption | exact Ne.symm (by assumption))).trans ?_)) Xi (by rfl) (by rfl) (by first | exact Nat.le_refl _ | decide | (simp; done) | (simp; omega)) (Nat.zero_le _) (by rfl) ?_
    simp only [AVal.cells]
    simp +decide only [qa, ev, qK, qH, putD, Slots.put, Slots.get, Slots.keep, if_true, if_false, true_and, ↓qc, qb, setAt, List.set_cons_zero, List.set_cons_succ, Nat.zero_add, Nat.reduceAdd]
    apply hK; clear hK K
    refine qU ?_
    try simp only [Ql, QA]
    refine qO h (by repeat (first | exact Sub.refl _ | assumption | refine Sub.trans_set ?_ (by assumption))) (?_) ?_
    · simp +decide only [QF, qB, ql, Slots.get, if_true, if_false, and_true, qB, ql, qi ag38 Xi, Qi, qf, List.getD_cons_zero, List.getD_cons_succ, Nat.zero_add, Nat.reduceAdd, qC, qj, qE, allLive, Bool.and_true, qf, List.getD_cons_zero, List.getD_cons_succ, Nat.zero_add, Nat.reduceAdd, qC, qj, qE, allLive, Bool.and_true]
    
    simp +decide only [Slots.get, if_true, if_false, and_true, Qr, qB, ql, qi ag38 Xi, Qi, qf, List.getD_cons_zero, List.getD_cons_succ, Nat.zero_add, Nat.reduceAdd, qC, qj, qE, allLive, Bool.and_true, qf, List.getD_cons_zero, List.getD_cons_succ, Nat.zero_add, Nat.reduceAdd, qC, qj, qE, allLive, Bool.and_true, nxA, nxR]
    rw [hnm, if_pos hb1']
    rfl
  · try simp only [decide_eq_false_iff_not, Bool.or_eq_false_iff] at hb1
    have hb1' : ¬ ((t.all fun b => Xh b || decide (b = 45)) = true ∨ t.getD 0 0 = 45 ∨ t.getD (n - 1) 0 = 45) := by
      rintro (q | q | q)
      · rw [q] at hb1; exact absurd hb1.1.1 (by decide)
      · exact hb1.1.2 ((XB _ 45).mpr q)
      · exact hb1.2 (by rw [h1]; exact (XB _ 45).mpr q)
    refine awp_rseq [2, 5, 6, 7, 44] (by rfl) fun K hK => ?_
    simp +decide only [qa, ev, qK, qH, putD, Slots.put, Slots.get, Slots.keep, if_true, if_false, true_and, ↓qg, qd, ↓qw, qh, qz, cond_false, qm, pI_gtr, ↓qc, qb]
    apply hK; clear hK K
    refine qM (b := _) rfl (fun hb2 => ?_) (fun hb2 => ?_)
    · try simp only [decide_eq_true_eq] at hb2
      refine awp_rseq [2, 3, 4] (by rfl) fun K hK => ?_
      simp +decide only [ev, qK, qH, putD, Slots.put, Slots.get, if_false, true_and, ↓Qo, ↓Qa, bld38_, evP, List.map_nil]
      refine qp (by rfl) (by rfl) (by repeat (first | exact AHeap.set_same _ _ _ | assumption | refine (AHeap.set_ne _ _ (by first | assumption | exact Ne.symm (by assumption))).trans ?_)) Xi (by rfl) (by rfl) (by first | exact Nat.le_refl _ | decide | (simp; done) | (simp; omega)) (Nat.zero_le _) (by rfl) ?_
      simp only [AVal.cells]
      simp +decide only [qa, ev, qK, qH, putD, Slots.put, Slots.get, Slots.keep, if_true, if_false, true_and, ↓qc, qb, setAt, List.set_cons_zero, List.set_cons_succ, Nat.zero_add, Nat.reduceAdd]
      apply hK; clear hK K
      refine qU ?_
      try simp only [Ql, QA]
      refine qO h (by repeat (first | exact Sub.refl _ | assumption | refine Sub.trans_set ?_ (by assumption))) (?_) ?_
      · simp +decide only [QF, qB, ql, Slots.get, if_true, if_false, and_true, qB, ql, qi ag38 Xi, Qi, qf, List.getD_cons_zero, List.getD_cons_succ, Nat.zero_add, Nat.reduceAdd, qC, qj, qE, allLive, Bool.and_true, qf, List.getD_cons_zero, List.getD_cons_succ, Nat.zero_add, Nat.reduceAdd, qC, qj, qE, allLive, Bool.and_true]
      
      simp +decide only [Slots.get, if_true, if_false, and_true, Qr, qB, ql, qi ag38 Xi, Qi, qf, List.getD_cons_zero, List.getD_cons_succ, Nat.zero_add, Nat.reduceAdd, qC, qj, qE, allLive, Bool.and_true, qf, List.getD_cons_zero, List.getD_cons_succ, Nat.zero_add, Nat.reduceAdd, qC, qj, qE, allLive, Bool.and_true, nxA, nxR]
      rw [hnm, if_neg hb1', if_pos (by omega)]
      rfl
    · try simp only [decide_eq_false_iff_not] at hb2
      refine qZ ?_
      change Awp _ _ _ _ _ _ _
      refine awp_rseq [2, 3, 4] (by rfl) fun K hK => ?_
      simp +decide only [ev, putD, Slots.put, Slots.get, if_true, if_false, true_and, ↓qJ, Qb, qi ag38 Xi, ↓qg, qd, Xa, qf, List.getD_cons_zero, List.getD_cons_succ, Nat.zero_add, Nat.reduceAdd, qC, qj, qE, allLive, Bool.and_true]
      refine qp (by rfl) (by rfl) (by repeat (first | exact AHeap.set_same _ _ _ | assumption | refine (AHeap.set_ne _ _ (by first | assumption | exact Ne.symm (by assumption))).trans ?_)) Xi (by rfl) (by rfl) (by first | exact Nat.le_refl _ | decide | (simp; done) | (simp; omega)) (Nat.zero_le _) (by rfl) ?_
      simp only [AVal.cells]
      simp +decide only [qa, ev, putD, Slots.put, Slots.get, Slots.keep, if_true, if_false, true_and, ↓qc, qb, setAt, List.set_cons_zero, List.set_cons_succ, Nat.zero_add, Nat.reduceAdd]
      apply hK; clear hK K
      refine qU ?_
      refine qO h (by repeat (first | exact Sub.refl _ | assumption | refine Sub.trans_set ?_ (by assumption))) (?_) ?_
      · simp +decide only [QF, qB, ql, Slots.get, if_true, if_false, and_true, qB, ql, qi ag38 Xi, Qi, qf, List.getD_cons_zero, List.getD_cons_succ, Nat.zero_add, Nat.reduceAdd, qC, qj, qE, allLive, Bool.and_true, qf, List.getD_cons_zero, List.getD_cons_succ, Nat.zero_add, Nat.reduceAdd, qC, qj, qE, allLive, Bool.and_true]
      
      simp +decide only [Slots.get, if_true, if_false, and_true, Qr, qB, ql, qi ag38 Xi, Qi, qf, List.getD_cons_zero, List.getD_cons_succ, Nat.zero_add, Nat.reduceAdd, qC, qj, qE, allLive, Bool.and_true, qf, List.getD_cons_zero, List.getD_cons_succ, Nat.zero_add, Nat.reduceAdd, qC, qj, qE, allLive, Bool.and_true, nxA, nxR]
      rw [hnm, if_neg hb1', if_neg (by omega)]
theorem find_at {P : Str → Bool} {j : Nat} (hj : j < signs.length) (h0 : (signs.take j).find? P = none) (hp : P (signs.getD j []) = true) : signs.find? P = some (signs.getD j []) := by
  have e : signs.drop j = signs.getD j [] :: signs.drop (j + 1) := by rw [List.drop_eq_getElem_cons hj]; simp [List.getD, hj]
  rw [← List.take_append_drop j signs, List.find?_append, h0, Option.none_or, List.take_append_drop, e, List.find?_cons, hp]
theorem find_next {P : Str → Bool} {j : Nat} (hj : j < signs.length) (h0 : (signs.take j).find? P = none) (hp : P (signs.getD j []) = false) : (signs.take (j + 1)).find? P = none := by
  have e : signs.take (j + 1) = signs.take j ++ [signs.getD j []] := by rw [List.take_add_one, List.getElem?_eq_getElem hj]; simp [List.getD, hj]
  rw [e, List.find?_append, h0, Option.none_or, List.find?_cons, hp]
  rfl
set_option maxHeartbeats 1000000 in
theorem c_sign (w₀ : World) (h : AHeap) (kx : Nat) (lf : Bool) (s : Str) (mv tv : AVal) (i : Nat) (eb_x : h kx = some ⟨[.bool lf, .str s, mv, .int .i64 i, tv], 0⟩) (hi : i < s.length) (hs : s.length ≤ 1099511627776) :
    ACall Tryz.prog w₀ 92 [.ptr (.own kx) 0] h (fun r h' => r = nxR (signE s i) ∧ h' = h) := by
  have hs_h : Sub h h := Sub.refl h
  obtain ⟨P, hP⟩ : ∃ P : Str → Bool, P = fun g => g.isPrefixOf (s.drop i) := ⟨_, rfl⟩
  have hse : signE s i = match signs.find? P with | some g => Tok.takeE s i 5 g.length | none => .err 4 := by rw [hP]; rfl
  have hdr : (s.drop ((i : Int)).toNat).take (((s.length : Nat) : Int).toNat - ((i : Int)).toNat) = s.drop i := by rw [Int.toNat_natCast, Int.toNat_natCast, List.take_of_length_le (by simp)]
  refine qY (n := 34) (rs := [.cell 2 38, .tmp 3, .tmp 4]) Tryz.func92 rfl rfl rfl rfl (Nat.le_of_ble_eq_true rfl) ?_
  simp only [Qf]
  refine awp_rseq [0, 2] (by rfl) fun K hK => ?_
  refine Qh ze38 (cs := [.int .u8 0, .str [], .int .i64 0, .int .i64 0, .bool false]) (by rfl) fun k0q0 hk0q0 => ?_
  have hn_0q0 : h k0q0 = none := by first | assumption | (simp only [AHeap.set_none] at hk0q0; simp only [hk0q0])
  have hf_0q0 : h k0q0 = none := Sub.none hs_h hn_0q0
  have ne_0q0_x : k0q0 ≠ kx := AHeap.ne_some hn_0q0 eb_x
  simp +decide only [qa, ev, qK, qH, putD, Slots.put, Slots.keep, if_true, if_false, true_and, ↓qc, qb]
  apply hK; clear hK K
  refine qN ?_
  refine awp_rseq [0, 2, 7, 8, 9] (by rfl) fun K hK => ?_
  refine Qk (cs := signs.map AVal.str) (by kernel_rfl) fun k1q0 hk1q0 => ?_
  have ne_1q0_0q0 : k1q0 ≠ k0q0 := by simp only [AHeap.set_none] at hk1q0; simp only [hk1q0, ne_eq, not_false_eq_true]
  have hn_1q0 : h k1q0 = none := by first | assumption | (simp only [AHeap.set_none] at hk1q0; simp only [hk1q0])
  have hf_1q0 : h k1q0 = none := Sub.none hs_h hn_1q0
  have ne_1q0_x : k1q0 ≠ kx := AHeap.ne_some hn_1q0 eb_x
  simp +decide only [qa, ev, qK, qH, putD, Slots.put, Slots.get, Slots.keep, if_true, if_false, true_and, ↓Xw, QH, XH Tryz.underlying64, ↓qg, qd]
  apply hK; clear hK K
  refine Qt ?_
  refine XW [0, 2, 7, 8, 9] (fun j : Nat => [(0, .ptr (.own kx) 0), (2, .ptr (.own k0q0) 0), (7, .slice (.own k1q0) 0 14 (.exact 14)), (8, .int .i64 14), (9, .int .i64 j)]) (fun j : Nat => (h.set k0q0 ⟨[.int .u8 0, .str [], .int .i64 0, .int .i64 0, .bool false], 0⟩).set k1q0 ⟨signs.map AVal.str, 0⟩) (fun j : Nat => j ≤ 14 ∧ (signs.take j).find? P = none) (fun j : Nat => 14 - j) 0 (by rfl) (Sub.refl _) ⟨Nat.zero_le _, rfl⟩ ?_
  rintro j ⟨hj, hf⟩
  refine awp_rseq [0, 2, 7, 8, 9, 10] (by rfl) fun K hK => ?_
  simp +decide only [qa, ev, putD, Slots.put, Slots.get, Slots.keep, if_true, if_false, true_and, ↓qw, qh, qP, cond_false, qm, pI_lss]
  apply hK; clear hK K
  refine qN (qM (b := _) rfl (fun hb1 => ?_) (fun hb1 => ?_))
  · try simp only [decide_eq_true_eq] at hb1
    have hj' : j < 14 := by omega
    obtain ⟨g, hg⟩ : ∃ g, g = signs.getD j [] := ⟨_, rfl⟩
    have he : (signs.map AVal.str).getD (j * 1) .dead = .str g := by rw [Nat.mul_one, hg]; simp [List.getD, show j < signs.length from hj']
    refine qZ ?_
    change Awp _ _ _ _ _ _ _
    refine qN ?_
    refine Qt ?_
    refine awp_rseq [0, 2, 6, 7, 8, 9] (by rfl) fun K hK => ?_
    simp +decide only [qa, ev, putD, Slots.put, Slots.get, Slots.keep, if_true, if_false, true_and, ↓QT, Qb, Qj Tryz.underlying64 sz9, ↓qJ, qD ag9, ↓qc, qb, Xa, Nat.zero_add, he, Int.toNat_natCast, AVal.live]
    repeat (with_reducible refine And.intro ?_ ?_; · first | trivial | omega | (intro hg; simp only [Bool.and_eq_true, Bool.or_eq_true, Bool.not_eq_true', Bool.and_eq_false_iff, Bool.or_eq_false_iff, Bool.not_eq_false', decide_eq_true_eq, decide_eq_false_iff_not, XI] at hg; omega) )
    apply hK; clear hK K
    refine awp_dseq_any [0, 2, 6, 7, 8, 9, 24] mixed (by kernel_rfl) (by rfl) fun K hK => ?_
    simp +decide only [ev, putD, Slots.put, Slots.get, if_true, if_false, true_and, ↓vp_move, qd, ↓vp_nilCheck, Qc, QI, ↓vp_fieldAddr, qo, fa89_0, fa48_1, ↓vp_load, pop_load, qD ag9, fa89_1, qD ag3, ↓vp_slice, pop_slice, evO, pSliceS_i0 Tryz.underlying9, pSliceS, bndA_none, bndA_int, XG, ne_eq, not_false_eq_true, ne_0q0_x.symm, ne_1q0_x.symm, Xd w₀ eb_x, List.getD_cons_zero, List.getD_cons_succ, Nat.zero_add, qj, qE, hdr]
    repeat (with_reducible refine And.intro ?_ ?_; · first | trivial | omega | (intro hg; simp only [Bool.and_eq_true, Bool.or_eq_true, Bool.not_eq_true', Bool.and_eq_false_iff, Bool.or_eq_false_iff, Bool.not_eq_false', decide_eq_true_eq, decide_eq_false_iff_not, XI] at hg; omega) )
    refine vOps_callV (V := .bool (P g)) (by rfl) (by rfl) (by rw [hP]; exact c_pref w₀ _ (s.drop i) g) ?_
    simp +decide only [vOps_nil, putD, Slots.put, Slots.keep, if_true, if_false]
    apply hK; clear hK K
    refine qM (b := _) rfl (fun hb2 => ?_) (fun hb2 => ?_)
    · skip
      have hse' : signE s i = Tok.takeE s i 5 g.length := by rw [hse, find_at hj' hf (by rw [← hg]; exact hb2), ← hg]
      have hgl : i + g.length ≤ s.length := by
        rw [hP] at hb2
        have := (List.isPrefixOf_iff_prefix.1 hb2).length_le
        rw [List.length_drop] at this
        omega
      refine awp_rseq [2, 3, 4] (by rfl) fun K hK => ?_
      simp +decide only [ev, putD, Slots.put, Slots.get, if_true, if_false, true_and, ↓qg, qd, ↓Xw, QH, Zk Tryz.underlying9]
      refine qL (V := nxR (Tok.takeE s i 5 g.length)) (by rfl) (by rfl) (c_takeT w₀ _ kx lf s mv tv i g.length 5 ((by repeat (first | exact AHeap.set_same _ _ _ | assumption | refine (AHeap.set_ne _ _ (by first | assumption | exact Ne.symm (by assumption))).trans ?_))) hgl hs) ?_
      simp +decide only [ev, putD, Slots.put, Slots.get, if_true, if_false, true_and, ↓QU, QB, QL, List.length_cons, List.length_nil, List.getD_cons_zero, List.getD_cons_succ, List.getD_cons_zero, List.getD_cons_succ, Nat.zero_add, Nat.reduceAdd, nxA, nxR, Tok.takeE]
      refine qp (by rfl) (by rfl) (by repeat (first | exact AHeap.set_same _ _ _ | assumption | refine (AHeap.set_ne _ _ (by first | assumption | exact Ne.symm (by assumption))).trans ?_)) Xi (by rfl) (by rfl) (by first | exact Nat.le_refl _ | decide | (simp; done) | (simp; omega)) (Nat.zero_le _) (by rfl) ?_
      simp only [AVal.cells]
      simp +decide only [qa, ev, putD, Slots.put, Slots.get, Slots.keep, if_true, if_false, true_and, ↓qc, qb, setAt, List.set_cons_zero, List.set_cons_succ, Nat.zero_add, Nat.reduceAdd]
      apply hK; clear hK K
      refine qU ?_
      try simp only [Ql, QA]
      refine qO h (by repeat (first | exact Sub.refl _ | assumption | refine Sub.trans_set ?_ (by assumption))) (?_) ?_
      · simp +decide only [QF, qB, ql, Slots.get, if_true, if_false, and_true, qB, ql, qi ag38 Xi, Qi, qf, List.getD_cons_zero, List.getD_cons_succ, Nat.zero_add, Nat.reduceAdd, qC, qj, qE, allLive, Bool.and_true, qf, List.getD_cons_zero, List.getD_cons_succ, Nat.zero_add, Nat.reduceAdd, qC, qj, qE, allLive, Bool.and_true]
      
      simp +decide only [Slots.get, if_true, if_false, and_true, Qr, qB, ql, qi ag38 Xi, Qi, qf, List.getD_cons_zero, List.getD_cons_succ, Nat.zero_add, Nat.reduceAdd, qC, qj, qE, allLive, Bool.and_true, qf, List.getD_cons_zero, List.getD_cons_succ, Nat.zero_add, Nat.reduceAdd, qC, qj, qE, allLive, Bool.and_true, nxA, nxR]
      rw [hse']
      rfl
    · skip
      refine qZ ?_
      change Awp _ _ _ _ _ _ _
      refine Xl [0, 2, 7, 8, 9] (by rfl) ?_
      simp +decide only [qa, ev, qK, qH, putD, Slots.put, Slots.get, Slots.keep, if_true, if_false, true_and, ↓qw, qh, qz, cond_false, qm, Xk, ↓qg, qd, nxA, nxR]
      try simp (disch := omega) only [wrap_i64]
      try simp only [qR]
      exact ⟨j + 1, rfl, Sub.refl _, ⟨hj', find_next hj' hf (by rw [← hg]; exact hb2)⟩, by omega⟩
  · try simp only [decide_eq_false_iff_not] at hb1
    have hj14 : j = 14 := by omega
    have hse' : signE s i = .err 4 := by
      rw [hse]
      rw [hj14] at hf
      rw [show signs.find? P = none from hf]
    refine Ze ?_
    change Awp _ _ _ _ _ _ _
    refine awp_rseq [2, 3, 4] (by rfl) fun K hK => ?_
    simp +decide only [ev, qK, qH, putD, Slots.put, Slots.get, if_false, true_and, ↓Qo, ↓Qa, bld38_, evP, List.map_nil]
    refine qp (by rfl) (by rfl) (by repeat (first | exact AHeap.set_same _ _ _ | assumption | refine (AHeap.set_ne _ _ (by first | assumption | exact Ne.symm (by assumption))).trans ?_)) Xi (by rfl) (by rfl) (by first | exact Nat.le_refl _ | decide | (simp; done) | (simp; omega)) (Nat.zero_le _) (by rfl) ?_
    simp only [AVal.cells]
    simp +decide only [qa, ev, qK, qH, putD, Slots.put, Slots.get, Slots.keep, if_true, if_false, true_and, ↓qc, qb, setAt, List.set_cons_zero, List.set_cons_succ, Nat.zero_add, Nat.reduceAdd]
    apply hK; clear hK K
    refine qU ?_
    refine qO h (by repeat (first | exact Sub.refl _ | assumption | refine Sub.trans_set ?_ (by assumption))) (?_) ?_
    · simp +decide only [QF, qB, ql, Slots.get, if_true, if_false, and_true, qB, ql, qi ag38 Xi, Qi, qf, List.getD_cons_zero, List.getD_cons_succ, Nat.zero_add, Nat.reduceAdd, qC, qj, qE, allLive, Bool.and_true, qf, List.getD_cons_zero, List.getD_cons_succ, Nat.zero_add, Nat.reduceAdd, qC, qj, qE, allLive, Bool.and_true]
    
    simp +decide only [Slots.get, if_true, if_false, and_true, Qr, qB, ql, qi ag38 Xi, Qi, qf, List.getD_cons_zero, List.getD_cons_succ, Nat.zero_add, Nat.reduceAdd, qC, qj, qE, allLive, Bool.and_true, qf, List.getD_cons_zero, List.getD_cons_succ, Nat.zero_add, Nat.reduceAdd, qC, qj, qE, allLive, Bool.and_true, nxA, nxR]
    rw [hse']
    rfl
end Go.Proofs.YtmadddihphkmoaaGreatDoor

