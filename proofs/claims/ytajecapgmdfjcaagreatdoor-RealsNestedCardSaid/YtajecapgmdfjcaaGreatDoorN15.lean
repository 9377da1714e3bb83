/- THE SHELF AT THIS DUMP, strings (lay.py wrote it; the contracts are the kit's). -/
import Derived.Shelf.Strings.SlTrimAscii
import Derived.Shelf.Strings.Cut
import Derived.Shelf.Small.Wraps
import Derived.Shelf.Strings.BuilderK
import Derived.Test.YtajecapgmdfjcaaGreatDoorN14
namespace Go.Proofs
open Go.Shelf
def Tryz.lays166_ren : Go.Shelf.Ren := ⟨fun | 166 => 57 | 240 => 99 | 276 => 143 | n => n, fun | 0 => 0 | 3 => 3 | 4 => 4 | 5 => 5 | 9 => 9 | 20 => 20 | 37 => 108 | 70 => 107 | 72 => 110 | 75 => 112 | 80 => 62 | 164 => 192 | n => n, fun  | n => n⟩
theorem Tryz.lays166 : Go.Proofs.Lays.n166 Tryz.prog Tryz.lays166_ren := {
 mixed := by kernel_rfl
 f166 := Tryz.func57.trans (congrArg some (by kernel_rfl))
 f240 := Tryz.func99.trans (congrArg some (by kernel_rfl))
 f276 := Tryz.func143.trans (congrArg some (by kernel_rfl))
 t0 := Tryz.underlying0
 a0 := Tryz.isAgg0
 z0 := Tryz.sizeOf0
 v0 := Tryz.zeroValue0
 t3 := Tryz.underlying3
 a3 := Tryz.isAgg3
 z3 := Tryz.sizeOf3
 v3 := Tryz.zeroValue3
 t4 := Tryz.underlying4
 a4 := Tryz.isAgg4
 z4 := Tryz.sizeOf4
 v4 := Tryz.zeroValue4
 t9 := Tryz.underlying9
 a9 := Tryz.isAgg9
 z9 := Tryz.sizeOf9
 v9 := Tryz.zeroValue9
 t20 := Tryz.underlying20
 a20 := Tryz.isAgg20
 z20 := Tryz.sizeOf20
 v20 := Tryz.zeroValue20
 t37 := Tryz.underlying108
 a37 := Tryz.isAgg108
 z37 := Tryz.sizeOf108
 v37 := Tryz.zeroValue108
 t70 := Tryz.underlying107
 a70 := Tryz.isAgg107
 z70 := Tryz.sizeOf107
 v70 := Tryz.zeroValue107
 t72 := Tryz.underlying110
 a72 := Tryz.isAgg110
 z72 := Tryz.sizeOf110
 v72 := Tryz.zeroValue110
 t75 := Tryz.underlying112
 a75 := Tryz.isAgg112
 z75 := Tryz.sizeOf112
 v75 := Tryz.zeroValue112
 t164 := Tryz.underlying192
 a164 := Tryz.isAgg192
 z164 := Tryz.sizeOf192
 v164 := Tryz.zeroValue192 }
def Tryz.lays169_ren : Go.Shelf.Ren := ⟨fun | 169 => 58 | n => n, fun | 0 => 0 | 3 => 3 | 5 => 5 | 9 => 9 | 37 => 108 | 70 => 107 | 72 => 110 | 127 => 159 | n => n, fun  | n => n⟩
theorem Tryz.lays169 : Go.Proofs.Lays.n169 Tryz.prog Tryz.lays169_ren := {
 mixed := by kernel_rfl
 f169 := Tryz.func58.trans (congrArg some (by kernel_rfl))
 t0 := Tryz.underlying0
 a0 := Tryz.isAgg0
 z0 := Tryz.sizeOf0
 v0 := Tryz.zeroValue0
 t3 := Tryz.underlying3
 a3 := Tryz.isAgg3
 z3 := Tryz.sizeOf3
 v3 := Tryz.zeroValue3
 t9 := Tryz.underlying9
 a9 := Tryz.isAgg9
 z9 := Tryz.sizeOf9
 v9 := Tryz.zeroValue9
 t37 := Tryz.underlying108
 a37 := Tryz.isAgg108
 z37 := Tryz.sizeOf108
 v37 := Tryz.zeroValue108
 t70 := Tryz.underlying107
 a70 := Tryz.isAgg107
 z70 := Tryz.sizeOf107
 v70 := Tryz.zeroValue107
 t72 := Tryz.underlying110
 a72 := Tryz.isAgg110
 z72 := Tryz.sizeOf110
 v72 := Tryz.zeroValue110
 t127 := Tryz.underlying159
 a127 := Tryz.isAgg159
 z127 := Tryz.sizeOf159
 v127 := Tryz.zeroValue159 }
def Tryz.lays145_ren : Go.Shelf.Ren := ⟨fun | 145 => 111 | 217 => 199 | 219 => 176 | 220 => 147 | 224 => 201 | 225 => 200 | 266 => 208 | 267 => 202 | 314 => 209 | n => n, fun | 3 => 3 | 4 => 4 | 5 => 5 | 9 => 9 | 46 => 101 | 51 => 100 | 59 => 164 | 146 => 188 | n => n, fun | 1 => 3 | n => n⟩
theorem Tryz.lays145 : Go.Proofs.Lays.n145 Tryz.prog Tryz.lays145_ren := {
 mixed := by kernel_rfl
 f145 := Tryz.func111.trans (congrArg some (by kernel_rfl))
 f217 := Tryz.func199.trans (congrArg some (by kernel_rfl))
 f219 := Tryz.func176.trans (congrArg some (by kernel_rfl))
 f220 := Tryz.func147.trans (congrArg some (by kernel_rfl))
 f224 := Tryz.func201.trans (congrArg some (by kernel_rfl))
 f225 := Tryz.func200.trans (congrArg some (by kernel_rfl))
 f266 := Tryz.func208.trans (congrArg some (by kernel_rfl))
 f267 := Tryz.func202.trans (congrArg some (by kernel_rfl))
 f314 := Tryz.func209.trans (congrArg some (by kernel_rfl))
 t3 := Tryz.underlying3
 a3 := Tryz.isAgg3
 z3 := Tryz.sizeOf3
 v3 := Tryz.zeroValue3
 t4 := Tryz.underlying4
 a4 := Tryz.isAgg4
 z4 := Tryz.sizeOf4
 v4 := Tryz.zeroValue4
 t5 := Tryz.underlying5
 a5 := Tryz.isAgg5
 z5 := Tryz.sizeOf5
 v5 := Tryz.zeroValue5
 t9 := Tryz.underlying9
 a9 := Tryz.isAgg9
 z9 := Tryz.sizeOf9
 v9 := Tryz.zeroValue9
 t46 := Tryz.underlying101
 a46 := Tryz.isAgg101
 z46 := Tryz.sizeOf101
 v46 := Tryz.zeroValue101
 t51 := Tryz.underlying100
 a51 := Tryz.isAgg100
 z51 := Tryz.sizeOf100
 v51 := Tryz.zeroValue100
 t59 := Tryz.underlying164
 a59 := Tryz.isAgg164
 z59 := Tryz.sizeOf164
 v59 := Tryz.zeroValue164
 t146 := Tryz.underlying188
 a146 := Tryz.isAgg188
 z146 := Tryz.sizeOf188
 v146 := Tryz.zeroValue188
 g1 := by kernel_rfl }
def Tryz.lays103_ren : Go.Shelf.Ren := ⟨fun | 103 => 110 | 206 => 141 | 210 => 146 | n => n, fun | 3 => 3 | 4 => 4 | 9 => 9 | 24 => 162 | n => n, fun  | n => n⟩
theorem Tryz.lays103 : Go.Proofs.Lays.n103 Tryz.prog Tryz.lays103_ren := {
 mixed := by kernel_rfl
 f103 := Tryz.func110.trans (congrArg some (by kernel_rfl))
 f206 := Tryz.func141.trans (congrArg some (by kernel_rfl))
 f210 := Tryz.func146.trans (congrArg some (by kernel_rfl))
 t3 := Tryz.underlying3
 a3 := Tryz.isAgg3
 z3 := Tryz.sizeOf3
 v3 := Tryz.zeroValue3
 t4 := Tryz.underlying4
 a4 := Tryz.isAgg4
 z4 := Tryz.sizeOf4
 v4 := Tryz.zeroValue4
 t9 := Tryz.underlying9
 a9 := Tryz.isAgg9
 z9 := Tryz.sizeOf9
 v9 := Tryz.zeroValue9
 t24 := Tryz.underlying162
 a24 := Tryz.isAgg162
 z24 := Tryz.sizeOf162
 v24 := Tryz.zeroValue162 }
def Tryz.lays160_ren : Go.Shelf.Ren := ⟨fun | 119 => 214 | 120 => 212 | 137 => 213 | 151 => 205 | 152 => 211 | 160 => 148 | 197 => 204 | 217 => 199 | 224 => 201 | 225 => 200 | 227 => 179 | 228 => 203 | 231 => 177 | 232 => 178 | 233 => 180 | 234 => 181 | 235 => 182 | 236 => 183 | 260 => 210 | 266 => 208 | 271 => 206 | n => n, fun | 0 => 0 | 3 => 3 | 4 => 4 | 5 => 5 | 9 => 9 | 21 => 21 | 46 => 101 | 105 => 236 | 116 => 222 | 117 => 223 | 119 => 245 | 124 => 226 | 138 => 247 | 139 => 248 | n => n, fun | 3 => 6 | 4 => 7 | n => n⟩
theorem Tryz.lays160 : Go.Proofs.Lays.n160 Tryz.prog Tryz.lays160_ren := {
 mixed := by kernel_rfl
 f119 := Tryz.func214.trans (congrArg some (by kernel_rfl))
 f120 := Tryz.func212.trans (congrArg some (by kernel_rfl))
 f137 := Tryz.func213.trans (congrArg some (by kernel_rfl))
 f151 := Tryz.func205.trans (congrArg some (by kernel_rfl))
 f152 := Tryz.func211.trans (congrArg some (by kernel_rfl))
 f160 := Tryz.func148.trans (congrArg some (by kernel_rfl))
 f197 := Tryz.func204.trans (congrArg some (by kernel_rfl))
 f217 := Tryz.func199.trans (congrArg some (by kernel_rfl))
 f224 := Tryz.func201.trans (congrArg some (by kernel_rfl))
 f225 := Tryz.func200.trans (congrArg some (by kernel_rfl))
 f227 := Tryz.func179.trans (congrArg some (by kernel_rfl))
 f228 := Tryz.func203.trans (congrArg some (by kernel_rfl))
 f231 := Tryz.func177.trans (congrArg some (by kernel_rfl))
 f232 := Tryz.func178.trans (congrArg some (by kernel_rfl))
 f233 := Tryz.func180.trans (congrArg some (by kernel_rfl))
 f234 := Tryz.func181.trans (congrArg some (by kernel_rfl))
 f235 := Tryz.func182.trans (congrArg some (by kernel_rfl))
 f236 := Tryz.func183.trans (congrArg some (by kernel_rfl))
 f260 := Tryz.func210.trans (congrArg some (by kernel_rfl))
 f266 := Tryz.func208.trans (congrArg some (by kernel_rfl))
 f271 := Tryz.func206.trans (congrArg some (by kernel_rfl))
 t0 := Tryz.underlying0
 a0 := Tryz.isAgg0
 z0 := Tryz.sizeOf0
 v0 := Tryz.zeroValue0
 t3 := Tryz.underlying3
 a3 := Tryz.isAgg3
 z3 := Tryz.sizeOf3
 v3 := Tryz.zeroValue3
 t4 := Tryz.underlying4
 a4 := Tryz.isAgg4
 z4 := Tryz.sizeOf4
 v4 := Tryz.zeroValue4
 t5 := Tryz.underlying5
 a5 := Tryz.isAgg5
 z5 := Tryz.sizeOf5
 v5 := Tryz.zeroValue5
 t9 := Tryz.underlying9
 a9 := Tryz.isAgg9
 z9 := Tryz.sizeOf9
 v9 := Tryz.zeroValue9
 t21 := Tryz.underlying21
 a21 := Tryz.isAgg21
 z21 := Tryz.sizeOf21
 v21 := Tryz.zeroValue21
 t46 := Tryz.underlying101
 a46 := Tryz.isAgg101
 z46 := Tryz.sizeOf101
 v46 := Tryz.zeroValue101
 t105 := Tryz.underlying236
 a105 := Tryz.isAgg236
 z105 := Tryz.sizeOf236
 v105 := Tryz.zeroValue236
 t116 := Tryz.underlying222
 a116 := Tryz.isAgg222
 z116 := Tryz.sizeOf222
 t117 := Tryz.underlying223
 a117 := Tryz.isAgg223
 z117 := Tryz.sizeOf223
 v117 := Tryz.zeroValue223
 t119 := Tryz.underlying245
 a119 := Tryz.isAgg245
 z119 := Tryz.sizeOf245
 t124 := Tryz.underlying226
 a124 := Tryz.isAgg226
 z124 := Tryz.sizeOf226
 v124 := Tryz.zeroValue226
 t138 := Tryz.underlying247
 a138 := Tryz.isAgg247
 z138 := Tryz.sizeOf247
 v138 := Tryz.zeroValue247
 t139 := Tryz.underlying248
 a139 := Tryz.isAgg248
 z139 := Tryz.sizeOf248
 v139 := Tryz.zeroValue248
 g3 := by kernel_rfl
 g4 := by kernel_rfl }
theorem Tryz.Extra166 : Builder.Extra Tryz.prog Tryz.lays166_ren := {
 sizeBuilder := by kernel_rfl
 liesBuilder := by kernel_rfl
 t5 := Tryz.underlying5
 a5 := Tryz.isAgg5
 z5 := Tryz.sizeOf5
 v5 := Tryz.zeroValue5
 infoByte := by kernel_rfl
 cellsByte := by kernel_rfl
 sizeByte := by kernel_rfl
 neB5 := by decide }
theorem Tryz.Extra169 : Builder.Extra Tryz.prog Tryz.lays169_ren := {
 sizeBuilder := by kernel_rfl
 liesBuilder := by kernel_rfl
 t5 := Tryz.underlying5
 a5 := Tryz.isAgg5
 z5 := Tryz.sizeOf5
 v5 := Tryz.zeroValue5
 infoByte := by kernel_rfl
 cellsByte := by kernel_rfl
 sizeByte := by kernel_rfl
 neB5 := by decide }
open Go.RowKit in
theorem Tryz.WriteString (B b : Nat) (bs : List Value) (s : ByteArray) (w : World) (h : Lib.IsBuilderF 110 5 B b bs w) (hlen : bs.length + s.size ≤ 140737488355328) (hBw : B ≤ w.heap.size) :
  Calls Tryz.prog 57 #[.pointer (some ⟨b, 0, none⟩), .string s] w fun e w' => e = .returned (.tuple #[.int .i64 s.size, .nilIface]) ∧ (Lib.BuilderAtF 110 5 B b (.pointer (some ⟨b, 0, none⟩)) (bs ++ Lib.strCells s) w' ∧ Below B w w' ∧ Lib.OthersKept 5 (some b) w w') := Any.Builder_WriteString_k Tryz.lays166 Tryz.Extra166 B b bs s w h hlen hBw
open Go.RowKit in
theorem Tryz.BString (B b : Nat) (l : List UInt8) (w : World) (h : Lib.IsBuilderF 110 5 B b (Lib.byteCells l) w) (h0 : l ≠ []) :
  Calls Tryz.prog 58 #[.pointer (some ⟨b, 0, none⟩)] w fun e w' => e = .returned (.string ⟨l.toArray⟩) ∧ Below B w w' := (Any.Builder_String_f Tryz.lays169 Tryz.Extra169 B b l w h h0).mono fun _ _ h => ⟨h.1, h.2.2⟩
open Go.RowKit in
open Go.RowKit in
theorem Tryz.sTrim (s cutset : ByteArray) (w : World) (hs : s.size ≤ 9223372036854775807) (hcs : cutset.size < 4294967281)
  (hascii : ∀ (j : Nat) b, cutset.data.toList[j]? = some b → b.toNat < 128) :
  Calls Tryz.prog 148 #[.string s, .string cutset] w fun e w' => e = .returned (.string ⟨(Lib.trimS s.data.toList cutset.data.toList).toArray⟩) ∧ Below w.heap.size w w' := Any.strings_Trim_laid Tryz.lays160 (by kernel_rfl) s cutset w hs hcs hascii
open Go.RowKit in
theorem Tryz.sCutPrefix (s p : ByteArray) (w : World) :
  Calls Tryz.prog 110 #[.string s, .string p] w fun e w' => e = .returned (.tuple #[.string ⟨(Lib.trimPrefix s.data.toList p.data.toList).toArray⟩, .bool (Lib.hasPrefix s.data.toList p.data.toList)]) ∧ w' = w := Any.strings_CutPrefix Tryz.lays103 s p w
end Go.Proofs
