/- THE SHELF AT THIS DUMP, strings (lay.py wrote it; the contracts are the kit's). -/
import Derived.Shelf.Strings.SlTrimAscii
import Derived.Shelf.Strings.Cut
import Derived.Shelf.Small.Wraps
import Derived.Shelf.Strings.BuilderK
import Derived.Test.YtoaoebimjmjpeaaGreatDoorT11
namespace Go.Proofs
open Go.Shelf
set_option maxRecDepth 100000
set_option maxHeartbeats 8000000
def Tryz.lays166_ren:Go.Shelf.Ren:=⟨fun | 166=>168 | 240=>260 | 276=>312 | n=>n,fun | 0=>0 | 3=>3 | 4=>4 | 5=>5 | 9=>9 | 20=>20 | 37=>276 | 70=>275 | 72=>278 | 75=>280 | 80=>186 | 164=>402 | n=>n,fun  | n=>n⟩
theorem Tryz.lays166:Go.Proofs.Lays.n166 Tryz.prog Tryz.lays166_ren := {
 mixed:=by kernel_rfl
 f166:=Tryz.func168.trans (congrArg some (by kernel_rfl))
 f240:=Tryz.func260.trans (congrArg some (by kernel_rfl))
 f276:=Tryz.func312.trans (congrArg some (by kernel_rfl))
 t0:=Tryz.underlying0
 a0:=Tryz.isAgg0
 z0:=Tryz.sizeOf0
 v0:=Tryz.zeroValue0
 t3:=Tryz.underlying3
 a3:=Tryz.isAgg3
 z3:=Tryz.sizeOf3
 v3:=Tryz.zeroValue3
 t4:=Tryz.underlying4
 a4:=Tryz.isAgg4
 z4:=Tryz.sizeOf4
 v4:=Tryz.zeroValue4
 t9:=Tryz.underlying9
 a9:=Tryz.isAgg9
 z9:=Tryz.sizeOf9
 v9:=Tryz.zeroValue9
 t20:=Tryz.underlying20
 a20:=Tryz.isAgg20
 z20:=Tryz.sizeOf20
 v20:=Tryz.zeroValue20
 t37:=Tryz.underlying276
 a37:=Tryz.isAgg276
 z37:=Tryz.sizeOf276
 v37:=Tryz.zeroValue276
 t70:=Tryz.underlying275
 a70:=Tryz.isAgg275
 z70:=Tryz.sizeOf275
 v70:=Tryz.zeroValue275
 t72:=Tryz.underlying278
 a72:=Tryz.isAgg278
 z72:=Tryz.sizeOf278
 v72:=Tryz.zeroValue278
 t75:=Tryz.underlying280
 a75:=Tryz.isAgg280
 z75:=Tryz.sizeOf280
 v75:=Tryz.zeroValue280
 t164:=Tryz.underlying402
 a164:=Tryz.isAgg402
 z164:=Tryz.sizeOf402
 v164:=Tryz.zeroValue402 }
def Tryz.lays169_ren:Go.Shelf.Ren:=⟨fun | 169=>169 | n=>n,fun | 0=>0 | 3=>3 | 5=>5 | 9=>9 | 37=>276 | 70=>275 | 72=>278 | 127=>352 | n=>n,fun  | n=>n⟩
theorem Tryz.lays169:Go.Proofs.Lays.n169 Tryz.prog Tryz.lays169_ren := {
 mixed:=by kernel_rfl
 f169:=Tryz.func169.trans (congrArg some (by kernel_rfl))
 t0:=Tryz.underlying0
 a0:=Tryz.isAgg0
 z0:=Tryz.sizeOf0
 v0:=Tryz.zeroValue0
 t3:=Tryz.underlying3
 a3:=Tryz.isAgg3
 z3:=Tryz.sizeOf3
 v3:=Tryz.zeroValue3
 t9:=Tryz.underlying9
 a9:=Tryz.isAgg9
 z9:=Tryz.sizeOf9
 v9:=Tryz.zeroValue9
 t37:=Tryz.underlying276
 a37:=Tryz.isAgg276
 z37:=Tryz.sizeOf276
 v37:=Tryz.zeroValue276
 t70:=Tryz.underlying275
 a70:=Tryz.isAgg275
 z70:=Tryz.sizeOf275
 v70:=Tryz.zeroValue275
 t72:=Tryz.underlying278
 a72:=Tryz.isAgg278
 z72:=Tryz.sizeOf278
 v72:=Tryz.zeroValue278
 t127:=Tryz.underlying352
 a127:=Tryz.isAgg352
 z127:=Tryz.sizeOf352
 v127:=Tryz.zeroValue352 }
def Tryz.lays145_ren:Go.Shelf.Ren:=⟨fun | 145=>175 | 217=>297 | 219=>295 | 220=>262 | 224=>344 | 225=>343 | 266=>346 | 267=>345 | 314=>373 | n=>n,fun | 3=>3 | 4=>4 | 5=>5 | 9=>9 | 46=>241 | 51=>240 | 59=>286 | 146=>398 | n=>n,fun | 1=>5 | n=>n⟩
theorem Tryz.lays145:Go.Proofs.Lays.n145 Tryz.prog Tryz.lays145_ren := {
 mixed:=by kernel_rfl
 f145:=Tryz.func175.trans (congrArg some (by kernel_rfl))
 f217:=Tryz.func297.trans (congrArg some (by kernel_rfl))
 f219:=Tryz.func295.trans (congrArg some (by kernel_rfl))
 f220:=Tryz.func262.trans (congrArg some (by kernel_rfl))
 f224:=Tryz.func344.trans (congrArg some (by kernel_rfl))
 f225:=Tryz.func343.trans (congrArg some (by kernel_rfl))
 f266:=Tryz.func346.trans (congrArg some (by kernel_rfl))
 f267:=Tryz.func345.trans (congrArg some (by kernel_rfl))
 f314:=Tryz.func373.trans (congrArg some (by kernel_rfl))
 t3:=Tryz.underlying3
 a3:=Tryz.isAgg3
 z3:=Tryz.sizeOf3
 v3:=Tryz.zeroValue3
 t4:=Tryz.underlying4
 a4:=Tryz.isAgg4
 z4:=Tryz.sizeOf4
 v4:=Tryz.zeroValue4
 t5:=Tryz.underlying5
 a5:=Tryz.isAgg5
 z5:=Tryz.sizeOf5
 v5:=Tryz.zeroValue5
 t9:=Tryz.underlying9
 a9:=Tryz.isAgg9
 z9:=Tryz.sizeOf9
 v9:=Tryz.zeroValue9
 t46:=Tryz.underlying241
 a46:=Tryz.isAgg241
 z46:=Tryz.sizeOf241
 v46:=Tryz.zeroValue241
 t51:=Tryz.underlying240
 a51:=Tryz.isAgg240
 z51:=Tryz.sizeOf240
 v51:=Tryz.zeroValue240
 t59:=Tryz.underlying286
 a59:=Tryz.isAgg286
 z59:=Tryz.sizeOf286
 v59:=Tryz.zeroValue286
 t146:=Tryz.underlying398
 a146:=Tryz.isAgg398
 z146:=Tryz.sizeOf398
 v146:=Tryz.zeroValue398
 g1:=by kernel_rfl }
def Tryz.lays103_ren:Go.Shelf.Ren:=⟨fun | 103=>174 | 206=>296 | 210=>261 | n=>n,fun | 3=>3 | 4=>4 | 9=>9 | 24=>164 | n=>n,fun  | n=>n⟩
theorem Tryz.lays103:Go.Proofs.Lays.n103 Tryz.prog Tryz.lays103_ren := {
 mixed:=by kernel_rfl
 f103:=Tryz.func174.trans (congrArg some (by kernel_rfl))
 f206:=Tryz.func296.trans (congrArg some (by kernel_rfl))
 f210:=Tryz.func261.trans (congrArg some (by kernel_rfl))
 t3:=Tryz.underlying3
 a3:=Tryz.isAgg3
 z3:=Tryz.sizeOf3
 v3:=Tryz.zeroValue3
 t4:=Tryz.underlying4
 a4:=Tryz.isAgg4
 z4:=Tryz.sizeOf4
 v4:=Tryz.zeroValue4
 t9:=Tryz.underlying9
 a9:=Tryz.isAgg9
 z9:=Tryz.sizeOf9
 v9:=Tryz.zeroValue9
 t24:=Tryz.underlying164
 a24:=Tryz.isAgg164
 z24:=Tryz.sizeOf164
 v24:=Tryz.zeroValue164 }
def Tryz.lays160_ren:Go.Shelf.Ren:=⟨fun | 119=>391 | 120=>378 | 137=>237 | 151=>356 | 152=>377 | 160=>263 | 197=>293 | 217=>297 | 224=>344 | 225=>343 | 227=>315 | 228=>355 | 231=>313 | 232=>314 | 233=>316 | 234=>317 | 235=>318 | 236=>319 | 260=>342 | 266=>346 | 271=>357 | n=>n,fun | 0=>0 | 3=>3 | 4=>4 | 5=>5 | 9=>9 | 21=>21 | 46=>241 | 105=>386 | 116=>406 | 117=>407 | 119=>450 | 124=>410 | 138=>452 | 139=>453 | n=>n,fun | 3=>7 | 4=>8 | n=>n⟩
theorem Tryz.lays160:Go.Proofs.Lays.n160 Tryz.prog Tryz.lays160_ren := {
 mixed:=by kernel_rfl
 f119:=Tryz.func391.trans (congrArg some (by kernel_rfl))
 f120:=Tryz.func378.trans (congrArg some (by kernel_rfl))
 f137:=Tryz.func237.trans (congrArg some (by kernel_rfl))
 f151:=Tryz.func356.trans (congrArg some (by kernel_rfl))
 f152:=Tryz.func377.trans (congrArg some (by kernel_rfl))
 f160:=Tryz.func263.trans (congrArg some (by kernel_rfl))
 f197:=Tryz.func293.trans (congrArg some (by kernel_rfl))
 f217:=Tryz.func297.trans (congrArg some (by kernel_rfl))
 f224:=Tryz.func344.trans (congrArg some (by kernel_rfl))
 f225:=Tryz.func343.trans (congrArg some (by kernel_rfl))
 f227:=Tryz.func315.trans (congrArg some (by kernel_rfl))
 f228:=Tryz.func355.trans (congrArg some (by kernel_rfl))
 f231:=Tryz.func313.trans (congrArg some (by kernel_rfl))
 f232:=Tryz.func314.trans (congrArg some (by kernel_rfl))
 f233:=Tryz.func316.trans (congrArg some (by kernel_rfl))
 f234:=Tryz.func317.trans (congrArg some (by kernel_rfl))
 f235:=Tryz.func318.trans (congrArg some (by kernel_rfl))
 f236:=Tryz.func319.trans (congrArg some (by kernel_rfl))
 f260:=Tryz.func342.trans (congrArg some (by kernel_rfl))
 f266:=Tryz.func346.trans (congrArg some (by kernel_rfl))
 f271:=Tryz.func357.trans (congrArg some (by kernel_rfl))
 t0:=Tryz.underlying0
 a0:=Tryz.isAgg0
 z0:=Tryz.sizeOf0
 v0:=Tryz.zeroValue0
 t3:=Tryz.underlying3
 a3:=Tryz.isAgg3
 z3:=Tryz.sizeOf3
 v3:=Tryz.zeroValue3
 t4:=Tryz.underlying4
 a4:=Tryz.isAgg4
 z4:=Tryz.sizeOf4
 v4:=Tryz.zeroValue4
 t5:=Tryz.underlying5
 a5:=Tryz.isAgg5
 z5:=Tryz.sizeOf5
 v5:=Tryz.zeroValue5
 t9:=Tryz.underlying9
 a9:=Tryz.isAgg9
 z9:=Tryz.sizeOf9
 v9:=Tryz.zeroValue9
 t21:=Tryz.underlying21
 a21:=Tryz.isAgg21
 z21:=Tryz.sizeOf21
 v21:=Tryz.zeroValue21
 t46:=Tryz.underlying241
 a46:=Tryz.isAgg241
 z46:=Tryz.sizeOf241
 v46:=Tryz.zeroValue241
 t105:=Tryz.underlying386
 a105:=Tryz.isAgg386
 z105:=Tryz.sizeOf386
 v105:=Tryz.zeroValue386
 t116:=Tryz.underlying406
 a116:=Tryz.isAgg406
 z116:=Tryz.sizeOf406
 t117:=Tryz.underlying407
 a117:=Tryz.isAgg407
 z117:=Tryz.sizeOf407
 v117:=Tryz.zeroValue407
 t119:=Tryz.underlying450
 a119:=Tryz.isAgg450
 z119:=Tryz.sizeOf450
 t124:=Tryz.underlying410
 a124:=Tryz.isAgg410
 z124:=Tryz.sizeOf410
 v124:=Tryz.zeroValue410
 t138:=Tryz.underlying452
 a138:=Tryz.isAgg452
 z138:=Tryz.sizeOf452
 v138:=Tryz.zeroValue452
 t139:=Tryz.underlying453
 a139:=Tryz.isAgg453
 z139:=Tryz.sizeOf453
 v139:=Tryz.zeroValue453
 g3:=by kernel_rfl
 g4:=by kernel_rfl }
theorem Tryz.Extra166:Builder.Extra Tryz.prog Tryz.lays166_ren := {
 sizeBuilder:=by kernel_rfl
 liesBuilder:=by kernel_rfl
 t5:=Tryz.underlying5
 a5:=Tryz.isAgg5
 z5:=Tryz.sizeOf5
 v5:=Tryz.zeroValue5
 infoByte:=by kernel_rfl
 cellsByte:=by kernel_rfl
 sizeByte:=by kernel_rfl
 neB5:=by decide }
theorem Tryz.Extra169:Builder.Extra Tryz.prog Tryz.lays169_ren := {
 sizeBuilder:=by kernel_rfl
 liesBuilder:=by kernel_rfl
 t5:=Tryz.underlying5
 a5:=Tryz.isAgg5
 z5:=Tryz.sizeOf5
 v5:=Tryz.zeroValue5
 infoByte:=by kernel_rfl
 cellsByte:=by kernel_rfl
 sizeByte:=by kernel_rfl
 neB5:=by decide }
open Go.RowKit in
theorem Tryz.WriteString (B b:Nat) (bs:List Value) (s:ByteArray) (w:World) (h:Lib.IsBuilderF 278 5 B b bs w) (hlen:bs.length+s.size≤140737488355328) (hBw:B≤w.heap.size) :
  Calls Tryz.prog 168 #[.pointer (some ⟨b,0,none⟩),.string s] w fun e w'=>e=.returned (.tuple #[.int .i64 s.size,.nilIface])∧(Lib.BuilderAtF 278 5 B b (.pointer (some ⟨b,0,none⟩)) (bs++Lib.strCells s) w'∧Below B w w'∧Lib.OthersKept 5 (some b) w w'):=Any.Builder_WriteString_k Tryz.lays166 Tryz.Extra166 B b bs s w h hlen hBw
open Go.RowKit in
theorem Tryz.BString (B b:Nat) (l:List UInt8) (w:World) (h:Lib.IsBuilderF 278 5 B b (Lib.byteCells l) w) (h0:l≠[]) :
  Calls Tryz.prog 169 #[.pointer (some ⟨b,0,none⟩)] w fun e w'=>e=.returned (.string ⟨l.toArray⟩)∧Below B w w':=(Any.Builder_String_f Tryz.lays169 Tryz.Extra169 B b l w h h0).mono fun _ _ h=>⟨h.1,h.2.2⟩
open Go.RowKit in
open Go.RowKit in
theorem Tryz.sTrim (s cutset:ByteArray) (w:World) (hs:s.size≤9223372036854775807) (hcs:cutset.size<4294967281)
  (hascii:∀ (j:Nat) b,cutset.data.toList[j]?=some b→b.toNat<128) :
  Calls Tryz.prog 263 #[.string s,.string cutset] w fun e w'=>e=.returned (.string ⟨(Lib.trimS s.data.toList cutset.data.toList).toArray⟩)∧Below w.heap.size w w':=Any.strings_Trim_laid Tryz.lays160 (by kernel_rfl) s cutset w hs hcs hascii
open Go.RowKit in
theorem Tryz.sCutPrefix (s p:ByteArray) (w:World) :
  Calls Tryz.prog 174 #[.string s,.string p] w fun e w'=>e=.returned (.tuple #[.string ⟨(Lib.trimPrefix s.data.toList p.data.toList).toArray⟩,.bool (Lib.hasPrefix s.data.toList p.data.toList)])∧w'=w:=Any.strings_CutPrefix Tryz.lays103 s p w
end Go.Proofs
