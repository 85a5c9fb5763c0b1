/- Part 4 of the proof of HouseFlowsFollowSteps. -/
import Derived.Test.YtedjhhieekileaaGreatDoorF03
import Derived.Shelf.Strings.Trim
import Derived.Shelf.Small.Utf8
import Derived.Shelf.Small.Bits
import Derived.Shelf.Small.Strs
import Derived.Shelf.Strconv.Atoi
import Derived.Shelf.Strconv.Itoa0
import Derived.Shelf.Strconv.Itoa1
import Derived.Shelf.LaysM
import Derived.Shelf.Strconv.Itoa2
import Derived.Shelf.Strconv.Itoa3
import Derived.Shelf.Strings.Search1
import Derived.Shelf.Strings.Search2
import Derived.Shelf.Strings.Search3
import Derived.Shelf.Strings.Count
import Derived.Shelf.Strings.Shaped
import Derived.Shelf.Strings.Prefix
import Derived.Shelf.Strings.Split
import Derived.Shelf.Strings.SplitShaped
import Derived.Shelf.Strings.Runes
import Derived.Shelf.Strings.AsciiSet
import Derived.Shelf.Unicode.DecodeSlow
import Derived.Shelf.SlSortCmp.WholeK
import Derived.Shelf.SlGeneric
import Derived.Ground.SlsfProg
import Derived.Shelf.Strings.SlTrimAscii
import Derived.Test.YtedjhhieekileaaGreatDoorProg
import Derived.Lib.LaidTab
import Derived.Lib.ItoaNum
set_option linter.unusedVariables false
set_option linter.unusedSimpArgs false
set_option maxRecDepth 100000
set_option maxHeartbeats 8000000
namespace Go
abbrev oD:=@Go.Proofs.Tryz.underlying3
abbrev oE:=@Go.Proofs.Tryz.isAgg3
abbrev oF:=@Go.Proofs.Tryz.sizeOf3
abbrev oG:=@Go.Proofs.Tryz.zeroValue3
abbrev iq:=@Go.Proofs.Tryz.underlying9
abbrev kq:=@Go.Proofs.Tryz.isAgg9
abbrev kr:=@Go.Proofs.Tryz.sizeOf9
abbrev ku:=@Go.Proofs.Tryz.zeroValue9
abbrev mo:=@Go.Proofs.Tryz.underlying5
abbrev mq:=@Go.Proofs.Tryz.isAgg5
abbrev mr:=@Go.Proofs.Tryz.sizeOf5
abbrev mw:=@Go.Proofs.Tryz.zeroValue5
abbrev oH:=@Go.Proofs.Tryz.underlying0
abbrev oI:=@Go.Proofs.Tryz.isAgg0
abbrev oJ:=@Go.Proofs.Tryz.sizeOf0
abbrev oK:=@Go.Proofs.Tryz.zeroValue0
abbrev rl:=@Go.Proofs.Tryz.underlying4
abbrev vZ:=@Go.Proofs.Tryz.isAgg4
abbrev aO:=@Go.Proofs.Tryz.sizeOf4
abbrev gH:=@Go.Proofs.Tryz.zeroValue4
abbrev v7:=@Go.Proofs.Tryz.underlying104
abbrev cn:=@Go.Proofs.Tryz.isAgg104
abbrev rm:=@Go.Proofs.Tryz.sizeOf104
abbrev v8:=@Go.Proofs.Tryz.zeroValue104
abbrev rq:=@Go.Proofs.Tryz.underlying133
abbrev my:=@Go.Proofs.Tryz.isAgg133
abbrev v_:=@Go.Proofs.Tryz.sizeOf133
abbrev c8:=@Go.Proofs.Tryz.zeroValue133
abbrev fU:=@Go.Proofs.Tryz.underlying135
abbrev wg:=@Go.Proofs.Tryz.underlying199
abbrev wh:=@Int.toNat_natCast
abbrev wi:=@decide_eq_false_iff_not
abbrev ry:=@List.filter_append
abbrev wj:=@List.pairwise_cons
abbrev wk:=@List.filter_cons_of_pos
abbrev wy:=@List.filter_cons_of_neg
abbrev wz:=@List.takeWhile_append_dropWhile
abbrev oW:=@List.pairwise_iff_getElem
abbrev ji:=@List.set_cons_succ
abbrev oX:=@List.drop_eq_getElem_cons
abbrev rA:=@List.map_set
abbrev Bv:=@Int.eq_ofNat_of_zero_le
abbrev mC:=@List.take_zero
abbrev Bw:=@List.map_nil
abbrev SX:=@List.flatten_cons
abbrev Uz:=@List.take_succ_cons
abbrev S7:=@List.sum_cons
abbrev Ti:=@List.set_set
end Go
namespace Go.Proofs
open Go.Shelf
def Tryz.lays106_ren:Go.Shelf.Ren:=⟨fun | 106=>64 | 213=>87 | 265=>108 | n=>n,fun | 9=>9 | 3=>3 | n=>n,fun | n=>n⟩
theorem Tryz.lays106:Go.Proofs.Lays.n106 Tryz.prog Tryz.lays106_ren:={
 mixed:=by kernel_rfl
 f106:=Tryz.func64.trans (qU some (by kernel_rfl))
 f213:=Tryz.func87.trans (qU some (by kernel_rfl))
 f265:=Tryz.func108.trans (qU some (by kernel_rfl))
 t3:=oD
 a3:=oE
 z3:=oF
 v3:=oG
 t9:=iq
 a9:=kq
 z9:=kr
 v9:=ku }
open Go.RowKit in
theorem Tryz.strings_Compare(a b:ByteArray)(w:World):
  Calls Tryz.prog 64 #[.string a,.string b] w fun e w'=>e=.returned (.int .i64 (Lib.compareBytes a.data.toList b.data.toList))/\w'=w:=Any.strings_Compare Tryz.lays106 a b w
def Tryz.lays137_ren:Go.Shelf.Ren:=⟨fun | 137=>52 | 217=>80 | 266=>93 | n=>n,fun | 9=>9 | 5=>5 | 3=>3 | n=>n,fun | n=>n⟩
theorem Tryz.lays137:Go.Proofs.Lays.n137 Tryz.prog Tryz.lays137_ren:={
 mixed:=by kernel_rfl
 f137:=Tryz.func52.trans (qU some (by kernel_rfl))
 f217:=Tryz.func80.trans (qU some (by kernel_rfl))
 f266:=Tryz.func93.trans (qU some (by kernel_rfl))
 t3:=oD
 a3:=oE
 z3:=oF
 v3:=oG
 t5:=mo
 a5:=mq
 z5:=mr
 v5:=mw
 t9:=iq
 a9:=kq
 z9:=kr
 v9:=ku }
open Go.RowKit in
theorem Tryz.strings_IndexByte(s:ByteArray)(c:Int)(w:World):
  Calls Tryz.prog 52 #[.string s,.int .u8 c] w fun e w'=>e=.returned (.int .i64 (Lib.indexByte s.data.toList c.toNat.toUInt8))/\w'=w:=Any.strings_IndexByte Tryz.lays137 s c w
def Tryz.lays172_ren:Go.Shelf.Ren:=⟨fun | 172=>84 | 244=>104 | 245=>105 | 247=>119 | 279=>120 | 280=>121 | 281=>122 | 282=>123 | 287=>130 | 316=>131 | 171=>106 | 205=>132 | 321=>135 | 322=>136 | 243=>124 | 246=>133 | 283=>137 | 284=>138 | 285=>139 | 286=>140 | 129=>77 | 317=>141 | 318=>142 | 319=>143 | 320=>144 | 337=>145 | 338=>146 | n=>n,fun | 9=>9 | 3=>3 | 75=>140 | 76=>141 | 4=>4 | 5=>5 | 167=>167 | 37=>168 | 0=>0 | 85=>169 | 2=>2 | 168=>171 | 53=>135 | 175=>177 | 46=>104 | 210=>181 | 127=>190 | 145=>193 | 143=>191 | 21=>21 | 171=>194 | 173=>196 | 212=>199 | 51=>133 | 20=>20 | 213=>200 | 232=>201 | 233=>202 | 80=>203 | n=>n,fun | 15=>1 | 16=>2 | 17=>5 | 18=>6 | 19=>7 | n=>n⟩
theorem Tryz.lays172:Go.Proofs.Lays.n172 Tryz.prog Tryz.lays172_ren:={
 mixed:=by kernel_rfl
 f129:=Tryz.func77.trans (qU some (by kernel_rfl))
 f171:=Tryz.func106.trans (qU some (by kernel_rfl))
 f172:=Tryz.func84.trans (qU some (by kernel_rfl))
 f205:=Tryz.func132.trans (qU some (by kernel_rfl))
 f243:=Tryz.func124.trans (qU some (by kernel_rfl))
 f244:=Tryz.func104.trans (qU some (by kernel_rfl))
 f245:=Tryz.func105.trans (qU some (by kernel_rfl))
 f246:=Tryz.func133.trans (qU some (by kernel_rfl))
 f247:=Tryz.func119.trans (qU some (by kernel_rfl))
 f279:=Tryz.func120.trans (qU some (by kernel_rfl))
 f280:=Tryz.func121.trans (qU some (by kernel_rfl))
 f281:=Tryz.func122.trans (qU some (by kernel_rfl))
 f282:=Tryz.func123.trans (qU some (by kernel_rfl))
 f283:=Tryz.func137.trans (qU some (by kernel_rfl))
 f284:=Tryz.func138.trans (qU some (by kernel_rfl))
 f285:=Tryz.func139.trans (qU some (by kernel_rfl))
 f286:=Tryz.func140.trans (qU some (by kernel_rfl))
 f287:=Tryz.func130.trans (qU some (by kernel_rfl))
 f316:=Tryz.func131.trans (qU some (by kernel_rfl))
 f317:=Tryz.func141.trans (qU some (by kernel_rfl))
 f318:=Tryz.func142.trans (qU some (by kernel_rfl))
 f319:=Tryz.func143.trans (qU some (by kernel_rfl))
 f320:=Tryz.func144.trans (qU some (by kernel_rfl))
 f321:=Tryz.func135.trans (qU some (by kernel_rfl))
 f322:=Tryz.func136.trans (qU some (by kernel_rfl))
 f337:=Tryz.func145.trans (qU some (by kernel_rfl))
 f338:=Tryz.func146.trans (qU some (by kernel_rfl))
 t0:=oH
 a0:=oI
 z0:=oJ
 v0:=oK
 t2:=Tryz.underlying2
 a2:=Tryz.isAgg2
 z2:=Tryz.sizeOf2
 v2:=Tryz.zeroValue2
 t3:=oD
 a3:=oE
 z3:=oF
 v3:=oG
 t4:=rl
 a4:=vZ
 z4:=aO
 v4:=gH
 t5:=mo
 a5:=mq
 z5:=mr
 v5:=mw
 t9:=iq
 a9:=kq
 z9:=kr
 v9:=ku
 t20:=Tryz.underlying20
 a20:=Tryz.isAgg20
 z20:=Tryz.sizeOf20
 v20:=Tryz.zeroValue20
 t21:=Tryz.underlying21
 a21:=Tryz.isAgg21
 z21:=Tryz.sizeOf21
 v21:=Tryz.zeroValue21
 t37:=Tryz.underlying168
 a37:=Tryz.isAgg168
 z37:=Tryz.sizeOf168
 v37:=Tryz.zeroValue168
 t46:=v7
 a46:=cn
 z46:=rm
 v46:=v8
 t51:=rq
 a51:=my
 z51:=v_
 v51:=c8
 t53:=fU
 a53:=Tryz.isAgg135
 z53:=Tryz.sizeOf135
 v53:=Tryz.zeroValue135
 t75:=Tryz.underlying140
 a75:=Tryz.isAgg140
 z75:=Tryz.sizeOf140
 v75:=Tryz.zeroValue140
 t76:=Tryz.underlying141
 a76:=Tryz.isAgg141
 z76:=Tryz.sizeOf141
 v76:=Tryz.zeroValue141
 t85:=Tryz.underlying169
 a85:=Tryz.isAgg169
 z85:=Tryz.sizeOf169
 v85:=Tryz.zeroValue169
 t127:=Tryz.underlying190
 a127:=Tryz.isAgg190
 z127:=Tryz.sizeOf190
 v127:=Tryz.zeroValue190
 t143:=Tryz.underlying191
 a143:=Tryz.isAgg191
 z143:=Tryz.sizeOf191
 v143:=Tryz.zeroValue191
 t145:=Tryz.underlying193
 a145:=Tryz.isAgg193
 z145:=Tryz.sizeOf193
 v145:=Tryz.zeroValue193
 t167:=Tryz.underlying167
 a167:=Tryz.isAgg167
 z167:=Tryz.sizeOf167
 v167:=Tryz.zeroValue167
 t168:=Tryz.underlying171
 a168:=Tryz.isAgg171
 z168:=Tryz.sizeOf171
 v168:=Tryz.zeroValue171
 t171:=Tryz.underlying194
 a171:=Tryz.isAgg194
 z171:=Tryz.sizeOf194
 v171:=Tryz.zeroValue194
 t173:=Tryz.underlying196
 a173:=Tryz.isAgg196
 z173:=Tryz.sizeOf196
 v173:=Tryz.zeroValue196
 t175:=Tryz.underlying177
 a175:=Tryz.isAgg177
 z175:=Tryz.sizeOf177
 v175:=Tryz.zeroValue177
 t210:=Tryz.underlying181
 a210:=Tryz.isAgg181
 z210:=Tryz.sizeOf181
 v210:=Tryz.zeroValue181
 t212:=wg
 a212:=Tryz.isAgg199
 z212:=Tryz.sizeOf199
 v212:=Tryz.zeroValue199
 t213:=Tryz.underlying200
 a213:=Tryz.isAgg200
 z213:=Tryz.sizeOf200
 t232:=Tryz.underlying201
 a232:=Tryz.isAgg201
 z232:=Tryz.sizeOf201
 v232:=Tryz.zeroValue201
 t233:=Tryz.underlying202
 a233:=Tryz.isAgg202
 z233:=Tryz.sizeOf202
 v233:=Tryz.zeroValue202
 g15:=by kernel_rfl
 g16:=by kernel_rfl
 g17:=by kernel_rfl
 g18:=by kernel_rfl
 g19:=by kernel_rfl }
open Go.RowKit in
theorem Tryz.strconv_Atoi(s:ByteArray)(n:Int)(hl:s.size<=18)(h:Lib.atoi s.data.toList=some n)(w:World):
  Calls Tryz.prog 84 #[.string s] w fun e w'=>e=.returned (.tuple #[.int .i64 n,.nilIface])/\∃t,w'=Lib.bytesWorld w 5 t:=Any.strconv_Atoi Tryz.lays172 s n hl h w
def Tryz.laysM171_ren:Go.Shelf.Ren:=⟨fun | 171=>106 | 243=>124 | 246=>133 | 283=>137 | 284=>138 | 285=>139 | 286=>140 | 129=>77 | 317=>141 | 318=>142 | 319=>143 | 320=>144 | 337=>145 | 338=>146 | n=>n,fun | 3=>3 | 9=>9 | 2=>2 | 4=>4 | 171=>194 | 0=>0 | 53=>135 | 37=>168 | 5=>5 | 173=>196 | 212=>199 | 51=>133 | 20=>20 | 213=>200 | 46=>104 | 232=>201 | 233=>202 | n=>n,fun | 17=>5 | 18=>6 | 19=>7 | n=>n⟩
theorem Tryz.laysM171:Go.Proofs.LaysM.n171 Tryz.prog Tryz.laysM171_ren:={
 mixed:=by kernel_rfl
 f129:=Tryz.func77.trans (qU some (by kernel_rfl))
 f171:=Tryz.func106.trans (qU some (by kernel_rfl))
 f243:=Tryz.func124.trans (qU some (by kernel_rfl))
 f246:=Tryz.func133.trans (qU some (by kernel_rfl))
 f283:=Tryz.func137.trans (qU some (by kernel_rfl))
 f284:=Tryz.func138.trans (qU some (by kernel_rfl))
 f285:=Tryz.func139.trans (qU some (by kernel_rfl))
 f286:=Tryz.func140.trans (qU some (by kernel_rfl))
 f317:=Tryz.func141.trans (qU some (by kernel_rfl))
 f318:=Tryz.func142.trans (qU some (by kernel_rfl))
 f319:=Tryz.func143.trans (qU some (by kernel_rfl))
 f320:=Tryz.func144.trans (qU some (by kernel_rfl))
 f337:=Tryz.func145.trans (qU some (by kernel_rfl))
 f338:=Tryz.func146.trans (qU some (by kernel_rfl))
 t0:=oH
 a0:=oI
 z0:=oJ
 v0:=oK
 t2:=Tryz.underlying2
 a2:=Tryz.isAgg2
 z2:=Tryz.sizeOf2
 v2:=Tryz.zeroValue2
 t3:=oD
 a3:=oE
 z3:=oF
 v3:=oG
 t4:=rl
 a4:=vZ
 z4:=aO
 v4:=gH
 t5:=mo
 a5:=mq
 z5:=mr
 v5:=mw
 t9:=iq
 a9:=kq
 z9:=kr
 v9:=ku
 t20:=Tryz.underlying20
 a20:=Tryz.isAgg20
 z20:=Tryz.sizeOf20
 v20:=Tryz.zeroValue20
 t37:=Tryz.underlying168
 a37:=Tryz.isAgg168
 z37:=Tryz.sizeOf168
 v37:=Tryz.zeroValue168
 t46:=v7
 a46:=cn
 z46:=rm
 v46:=v8
 t51:=rq
 a51:=my
 z51:=v_
 v51:=c8
 t53:=fU
 a53:=Tryz.isAgg135
 z53:=Tryz.sizeOf135
 v53:=Tryz.zeroValue135
 t171:=Tryz.underlying194
 a171:=Tryz.isAgg194
 z171:=Tryz.sizeOf194
 v171:=Tryz.zeroValue194
 t173:=Tryz.underlying196
 a173:=Tryz.isAgg196
 z173:=Tryz.sizeOf196
 v173:=Tryz.zeroValue196
 t212:=wg
 a212:=Tryz.isAgg199
 z212:=Tryz.sizeOf199
 v212:=Tryz.zeroValue199
 t213:=Tryz.underlying200
 a213:=Tryz.isAgg200
 z213:=Tryz.sizeOf200
 t232:=Tryz.underlying201
 a232:=Tryz.isAgg201
 z232:=Tryz.sizeOf201
 v232:=Tryz.zeroValue201
 t233:=Tryz.underlying202
 a233:=Tryz.isAgg202
 z233:=Tryz.sizeOf202
 v233:=Tryz.zeroValue202
 g17:=by kernel_rfl
 g18:=by kernel_rfl
 g19:=by kernel_rfl
 i0:=by kernel_rfl
 i2:=by kernel_rfl
 i3:=by kernel_rfl
 i4:=by kernel_rfl
 i5:=by kernel_rfl
 i9:=by kernel_rfl
 i20:=by kernel_rfl
 i37:=by kernel_rfl
 i46:=by kernel_rfl
 i51:=by kernel_rfl
 i53:=by kernel_rfl
 i171:=by kernel_rfl
 i173:=by kernel_rfl
 i212:=by kernel_rfl
 i232:=by kernel_rfl
 i233:=by kernel_rfl
 m17:=by kernel_rfl
 m18:=by kernel_rfl
 m19:=by kernel_rfl }
open Go.RowKit Go.Sort Go.Lib in
theorem Tryz.strconv_Itoa (n : Int) (h0 : -9223372036854775808 ≤ n) (h1 : n ≤ 9223372036854775807) (w : World) (O7 : Lib.TabIs Tryz.prog w "internal/strconv.uint64pow10" .u64 Lib.pow10Tab) :
  Calls Tryz.prog 106 #[.int .i64 n] w fun e w'=>e=.returned (.string ⟨(Lib.itoa n).toArray⟩)/\∃k os,w'=grow (w.drewN k) os:=Any.strconv_Itoa Tryz.laysM171 n h0 h1 w O7
def Tryz.lays144_ren:Go.Shelf.Ren:=⟨fun | 144=>56 | 143=>82 | 219=>96 | 217=>80 | 225=>113 | 224=>114 | 267=>115 | 266=>93 | 314=>127 | n=>n,fun | 9=>9 | 4=>4 | 3=>3 | 5=>5 | 46=>104 | 146=>174 | 51=>133 | n=>n,fun | 1=>0 | n=>n⟩
theorem Tryz.lays144:Go.Proofs.Lays.n144 Tryz.prog Tryz.lays144_ren:={
 mixed:=by kernel_rfl
 f143:=Tryz.func82.trans (qU some (by kernel_rfl))
 f144:=Tryz.func56.trans (qU some (by kernel_rfl))
 f217:=Tryz.func80.trans (qU some (by kernel_rfl))
 f219:=Tryz.func96.trans (qU some (by kernel_rfl))
 f224:=Tryz.func114.trans (qU some (by kernel_rfl))
 f225:=Tryz.func113.trans (qU some (by kernel_rfl))
 f266:=Tryz.func93.trans (qU some (by kernel_rfl))
 f267:=Tryz.func115.trans (qU some (by kernel_rfl))
 f314:=Tryz.func127.trans (qU some (by kernel_rfl))
 t3:=oD
 a3:=oE
 z3:=oF
 v3:=oG
 t4:=rl
 a4:=vZ
 z4:=aO
 v4:=gH
 t5:=mo
 a5:=mq
 z5:=mr
 v5:=mw
 t9:=iq
 a9:=kq
 z9:=kr
 v9:=ku
 t46:=v7
 a46:=cn
 z46:=rm
 v46:=v8
 t51:=rq
 a51:=my
 z51:=v_
 v51:=c8
 t146:=Tryz.underlying174
 a146:=Tryz.isAgg174
 z146:=Tryz.sizeOf174
 v146:=Tryz.zeroValue174
 g1:=by kernel_rfl }
open Go.RowKit Go.Lib in
theorem Tryz.strings_Contains(s sub:ByteArray)(m:Int)(w:World)(hs:s.size<4294967281)(hm:w.cell? ⟨0,0,none⟩=some (.int .i64 m)):
  Calls Tryz.prog 56 #[.string s,.string sub] w fun e w'=>e=.returned (.bool (Lib.contains s.data.toList sub.data.toList))/\w'=w:=Any.strings_Contains Tryz.lays144 s sub m w hs hm
def Tryz.lays99_ren:Go.Shelf.Ren:=⟨fun | 99=>33 | 206=>60 | n=>n,fun | 9=>9 | 4=>4 | 3=>3 | n=>n,fun | n=>n⟩
theorem Tryz.lays99:Go.Proofs.Lays.n99 Tryz.prog Tryz.lays99_ren:={
 mixed:=by kernel_rfl
 f99:=Tryz.func33.trans (qU some (by kernel_rfl))
 f206:=Tryz.func60.trans (qU some (by kernel_rfl))
 t3:=oD
 a3:=oE
 z3:=oF
 v3:=oG
 t4:=rl
 a4:=vZ
 z4:=aO
 v4:=gH
 t9:=iq
 a9:=kq
 z9:=kr
 v9:=ku }
open Go.RowKit Go.Lib in
theorem Tryz.strings_HasPrefix(s p:ByteArray)(w:World):
  Calls Tryz.prog 33 #[.string s,.string p] w fun e w'=>e=.returned (.bool (Lib.hasPrefix s.data.toList p.data.toList))/\w'=w:=Any.strings_HasPrefix Tryz.lays99 s p w
def Tryz.lays146_ren:Go.Shelf.Ren:=⟨fun | 146=>55 | 221=>81 | 268=>94 | 138=>95 | 143=>82 | 195=>110 | 197=>111 | 218=>112 | 219=>96 | 260=>126 | 217=>80 | 225=>113 | 224=>114 | 267=>115 | 266=>93 | 314=>127 | n=>n,fun | 9=>9 | 31=>111 | 3=>3 | 4=>4 | 0=>0 | 105=>163 | 21=>21 | 5=>5 | 46=>104 | 119=>184 | 139=>187 | 138=>186 | 146=>174 | 51=>133 | n=>n,fun | 1=>0 | 3=>3 | 4=>4 | n=>n⟩
theorem Tryz.lays146:Go.Proofs.Lays.n146 Tryz.prog Tryz.lays146_ren:={
 mixed:=by kernel_rfl
 f138:=Tryz.func95.trans (qU some (by kernel_rfl))
 f143:=Tryz.func82.trans (qU some (by kernel_rfl))
 f146:=Tryz.func55.trans (qU some (by kernel_rfl))
 f195:=Tryz.func110.trans (qU some (by kernel_rfl))
 f197:=Tryz.func111.trans (qU some (by kernel_rfl))
 f217:=Tryz.func80.trans (qU some (by kernel_rfl))
 f218:=Tryz.func112.trans (qU some (by kernel_rfl))
 f219:=Tryz.func96.trans (qU some (by kernel_rfl))
 f221:=Tryz.func81.trans (qU some (by kernel_rfl))
 f224:=Tryz.func114.trans (qU some (by kernel_rfl))
 f225:=Tryz.func113.trans (qU some (by kernel_rfl))
 f260:=Tryz.func126.trans (qU some (by kernel_rfl))
 f266:=Tryz.func93.trans (qU some (by kernel_rfl))
 f267:=Tryz.func115.trans (qU some (by kernel_rfl))
 f268:=Tryz.func94.trans (qU some (by kernel_rfl))
 f314:=Tryz.func127.trans (qU some (by kernel_rfl))
 t0:=oH
 a0:=oI
 z0:=oJ
 v0:=oK
 t3:=oD
 a3:=oE
 z3:=oF
 v3:=oG
 t4:=rl
 a4:=vZ
 z4:=aO
 v4:=gH
 t5:=mo
 a5:=mq
 z5:=mr
 v5:=mw
 t9:=iq
 a9:=kq
 z9:=kr
 v9:=ku
 t21:=Tryz.underlying21
 a21:=Tryz.isAgg21
 z21:=Tryz.sizeOf21
 v21:=Tryz.zeroValue21
 t31:=Tryz.underlying111
 a31:=Tryz.isAgg111
 z31:=Tryz.sizeOf111
 v31:=Tryz.zeroValue111
 t46:=v7
 a46:=cn
 z46:=rm
 v46:=v8
 t51:=rq
 a51:=my
 z51:=v_
 v51:=c8
 t105:=Tryz.underlying163
 a105:=Tryz.isAgg163
 z105:=Tryz.sizeOf163
 v105:=Tryz.zeroValue163
 t119:=Tryz.underlying184
 a119:=Tryz.isAgg184
 z119:=Tryz.sizeOf184
 t138:=Tryz.underlying186
 a138:=Tryz.isAgg186
 z138:=Tryz.sizeOf186
 v138:=Tryz.zeroValue186
 t139:=Tryz.underlying187
 a139:=Tryz.isAgg187
 z139:=Tryz.sizeOf187
 v139:=Tryz.zeroValue187
 t146:=Tryz.underlying174
 a146:=Tryz.isAgg174
 z146:=Tryz.sizeOf174
 v146:=Tryz.zeroValue174
 g1:=by kernel_rfl
 g3:=by kernel_rfl
 g4:=by kernel_rfl }
open Go.RowKit Go.Lib in
theorem Tryz.strings_Split(s sep:ByteArray)(m:Int)(w:World)(hs:s.size<4294967281)(hm:w.cell? ⟨0,0,none⟩=some (.int .i64 m))(h1:1<=sep.size):
  Calls Tryz.prog 55 #[.string s,.string sep] w fun e w'=>
   e=.returned (.slice (some ⟨w.heap.size,0,none⟩) (Lib.countB s sep+1) (Lib.countB s sep+1))/\w'=w.alloc (.cells ((Lib.splitB sep 0 (Lib.countB s sep) s).map Value.string).toArray 9):=Any.strings_Split Tryz.lays146 (by kernel_rfl) s sep m w hs hm h1
def Tryz.laysTrim_ren:Go.Shelf.Ren:=⟨fun | 160=>83 | 232=>98 | 231=>97 | 227=>99 | 234=>101 | 233=>100 | 236=>103 | 235=>102 | 228=>116 | 271=>118 | 151=>117 | 197=>111 | 120=>129 | 152=>128 | 260=>126 | 137=>52 | 119=>134 | 224=>114 | 225=>113 | 217=>80 | 266=>93 | n=>n,fun | 9=>9 | 4=>4 | 3=>3 | 5=>5 | 117=>154 | 116=>153 | 0=>0 | 124=>157 | 21=>21 | 105=>163 | 46=>104 | 119=>184 | 139=>187 | 138=>186 | n=>n,fun | 3=>3 | 4=>4 | n=>n⟩
theorem Tryz.laysTrim:Go.Proofs.Lays.n160 Tryz.prog Tryz.laysTrim_ren:={
 mixed:=by kernel_rfl
 f119:=Tryz.func134.trans (qU some (by kernel_rfl))
 f120:=Tryz.func129.trans (qU some (by kernel_rfl))
 f137:=Tryz.func52.trans (qU some (by kernel_rfl))
 f151:=Tryz.func117.trans (qU some (by kernel_rfl))
 f152:=Tryz.func128.trans (qU some (by kernel_rfl))
 f160:=Tryz.func83.trans (qU some (by kernel_rfl))
 f197:=Tryz.func111.trans (qU some (by kernel_rfl))
 f217:=Tryz.func80.trans (qU some (by kernel_rfl))
 f224:=Tryz.func114.trans (qU some (by kernel_rfl))
 f225:=Tryz.func113.trans (qU some (by kernel_rfl))
 f227:=Tryz.func99.trans (qU some (by kernel_rfl))
 f228:=Tryz.func116.trans (qU some (by kernel_rfl))
 f231:=Tryz.func97.trans (qU some (by kernel_rfl))
 f232:=Tryz.func98.trans (qU some (by kernel_rfl))
 f233:=Tryz.func100.trans (qU some (by kernel_rfl))
 f234:=Tryz.func101.trans (qU some (by kernel_rfl))
 f235:=Tryz.func102.trans (qU some (by kernel_rfl))
 f236:=Tryz.func103.trans (qU some (by kernel_rfl))
 f260:=Tryz.func126.trans (qU some (by kernel_rfl))
 f266:=Tryz.func93.trans (qU some (by kernel_rfl))
 f271:=Tryz.func118.trans (qU some (by kernel_rfl))
 t0:=oH
 a0:=oI
 z0:=oJ
 v0:=oK
 t3:=oD
 a3:=oE
 z3:=oF
 v3:=oG
 t4:=rl
 a4:=vZ
 z4:=aO
 v4:=gH
 t5:=mo
 a5:=mq
 z5:=mr
 v5:=mw
 t9:=iq
 a9:=kq
 z9:=kr
 v9:=ku
 t21:=Tryz.underlying21
 a21:=Tryz.isAgg21
 z21:=Tryz.sizeOf21
 v21:=Tryz.zeroValue21
 t46:=v7
 a46:=cn
 z46:=rm
 v46:=v8
 t105:=Tryz.underlying163
 a105:=Tryz.isAgg163
 z105:=Tryz.sizeOf163
 v105:=Tryz.zeroValue163
 t116:=Tryz.underlying153
 a116:=Tryz.isAgg153
 z116:=Tryz.sizeOf153
 t117:=Tryz.underlying154
 a117:=Tryz.isAgg154
 z117:=Tryz.sizeOf154
 v117:=Tryz.zeroValue154
 t119:=Tryz.underlying184
 a119:=Tryz.isAgg184
 z119:=Tryz.sizeOf184
 t124:=Tryz.underlying157
 a124:=Tryz.isAgg157
 z124:=Tryz.sizeOf157
 v124:=Tryz.zeroValue157
 t138:=Tryz.underlying186
 a138:=Tryz.isAgg186
 z138:=Tryz.sizeOf186
 v138:=Tryz.zeroValue186
 t139:=Tryz.underlying187
 a139:=Tryz.isAgg187
 z139:=Tryz.sizeOf187
 v139:=Tryz.zeroValue187
 g3:=by kernel_rfl
 g4:=by kernel_rfl }
open Go.RowKit Go.Lib in
theorem Tryz.strings_Trim_laid(O8:(Tryz.prog.info? (Tryz.laysTrim_ren.t 116)).map (fun i=>(i.zero,i.size))=some (some (.agg (Array.replicate 256 (.bool false))),256))(s sC:ByteArray)(w:World)(hs:s.size<=9223372036854775807)(js:sC.size<4294967281)
  (hascii:∀(j:Nat) b,sC.data.toList[j]?=some b->b.toNat<128):
  Calls Tryz.prog 83 #[.string s,.string sC] w fun e w'=>e=.returned (.string ⟨(Lib.trimS s.data.toList sC.data.toList).toArray⟩)/\Below w.heap.size w w':=Any.strings_Trim_laid Tryz.laysTrim O8 s sC w hs js hascii
def Tryz.laysSortDoing_ren:Go.Shelf.Ren:=⟨fun | 6=>19 | 15=>44 | 14=>43 | 28=>76 | 29=>77 | 20=>68 | 21=>69 | 22=>70 | 23=>71 | 24=>72 | 25=>73 | 26=>74 | 27=>75 | 46=>88 | 47=>89 | 48=>90 | 49=>91 | 50=>92 | 57=>109 | n=>n,fun | 22=>25 | 24=>34 | 25=>70 | 3=>3 | 39=>104 | 0=>0 | 53=>133 | 55=>135 | 4=>4 | 46=>127 | 45=>126 | 50=>100 | 5=>5 | 9=>9 | 66=>144 | 70=>148 | 76=>159 | 77=>160 | n=>n,fun | n=>n⟩
theorem Tryz.laysSortDoing:Go.Proofs.SlLaysF0.n6 Tryz.prog Tryz.laysSortDoing_ren:={
 mixed:=by kernel_rfl
 f6:=⟨Tryz.f19.name,by decide,Tryz.func19.trans (qU some (by kernel_rfl))⟩
 f14:=⟨Tryz.f43.name,by decide,Tryz.func43.trans (qU some (by kernel_rfl))⟩
 f15:=Tryz.func44.trans (qU some (by kernel_rfl))
 f20:=⟨Tryz.f68.name,by decide,Tryz.func68.trans (qU some (by kernel_rfl))⟩
 f21:=⟨Tryz.f69.name,by decide,Tryz.func69.trans (qU some (by kernel_rfl))⟩
 f22:=⟨Tryz.f70.name,by decide,Tryz.func70.trans (qU some (by kernel_rfl))⟩
 f23:=⟨Tryz.f71.name,by decide,Tryz.func71.trans (qU some (by kernel_rfl))⟩
 f24:=⟨Tryz.f72.name,by decide,Tryz.func72.trans (qU some (by kernel_rfl))⟩
 f25:=⟨Tryz.f73.name,by decide,Tryz.func73.trans (qU some (by kernel_rfl))⟩
 f26:=⟨Tryz.f74.name,by decide,Tryz.func74.trans (qU some (by kernel_rfl))⟩
 f27:=⟨Tryz.f75.name,by decide,Tryz.func75.trans (qU some (by kernel_rfl))⟩
 f28:=Tryz.func76.trans (qU some (by kernel_rfl))
 f29:=Tryz.func77.trans (qU some (by kernel_rfl))
 f46:=⟨Tryz.f88.name,by decide,Tryz.func88.trans (qU some (by kernel_rfl))⟩
 f47:=Tryz.func89.trans (qU some (by kernel_rfl))
 f48:=Tryz.func90.trans (qU some (by kernel_rfl))
 f49:=⟨Tryz.f91.name,by decide,Tryz.func91.trans (qU some (by kernel_rfl))⟩
 f50:=⟨Tryz.f92.name,by decide,Tryz.func92.trans (qU some (by kernel_rfl))⟩
 f57:=⟨Tryz.f109.name,by decide,Tryz.func109.trans (qU some (by kernel_rfl))⟩
 t0:=oH
 a0:=oI
 z0:=oJ
 v0:=oK
 t3:=oD
 a3:=oE
 z3:=oF
 v3:=oG
 t4:=rl
 a4:=vZ
 z4:=aO
 v4:=gH
 t5:=mo
 a5:=mq
 z5:=mr
 v5:=mw
 t9:=iq
 a9:=kq
 z9:=kr
 v9:=ku
 t22:=Tryz.underlying25
 a22:=Tryz.isAgg25
 z22:=Tryz.sizeOf25
 v22:=Tryz.zeroValue25
 t25:=Tryz.underlying70
 a25:=Tryz.isAgg70
 z25:=Tryz.sizeOf70
 v25:=Tryz.zeroValue70
 t39:=v7
 a39:=cn
 z39:=rm
 v39:=v8
 t45:=Tryz.underlying126
 a45:=Tryz.isAgg126
 z45:=Tryz.sizeOf126
 v45:=Tryz.zeroValue126
 t46:=Tryz.underlying127
 a46:=Tryz.isAgg127
 z46:=Tryz.sizeOf127
 v46:=Tryz.zeroValue127
 t50:=Tryz.underlying100
 a50:=Tryz.isAgg100
 z50:=Tryz.sizeOf100
 v50:=Tryz.zeroValue100
 t53:=rq
 a53:=my
 z53:=v_
 v53:=c8
 t55:=fU
 a55:=Tryz.isAgg135
 z55:=Tryz.sizeOf135
 v55:=Tryz.zeroValue135
 t66:=Tryz.underlying144
 a66:=Tryz.isAgg144
 z66:=Tryz.sizeOf144
 v66:=Tryz.zeroValue144
 t70:=Tryz.underlying148
 a70:=Tryz.isAgg148
 z70:=Tryz.sizeOf148
 v70:=Tryz.zeroValue148
 t76:=Tryz.underlying159
 a76:=Tryz.isAgg159
 z76:=Tryz.sizeOf159
 v76:=Tryz.zeroValue159
 t77:=Tryz.underlying160
 a77:=Tryz.isAgg160
 z77:=Tryz.sizeOf160
 v77:=Tryz.zeroValue160 }
end Go.Proofs
namespace Go.Proofs.YtedjhhieekileaaGreatDoor
namespace M
open Go.AM Go.RowKit
def eL:List (Nat×TI):=([40,41,57].map fun n=>(n,⟨.st [(0,1,false),(1,1,false),(2,1,false),(3,1,false)],4,40,[.string ByteArray.empty,.int .i64 0,.int .i64 0,.int .i64 0],false⟩))++(([9,10,11].map fun n=>(n,⟨.str,1,16,[.string ByteArray.empty],false⟩))++(([12,104,135,144].map fun n=>(n,⟨.int .u64,1,8,[.int .u64 0],false⟩))++(([2,3,27,126,167].map fun n=>(n,⟨.int .i64,1,8,[.int .i64 0],false⟩))++(([20,93,94,139,140].map fun n=>(n,⟨.sc,1,16,[.nilIface],false⟩))++(([15,16,17,48,61,66,71,78,148,157,159,171,190,191].map fun n=>(n,⟨.sc,1,8,[.pointer none],false⟩))++([(4,⟨.sc,1,1,[.bool false],true⟩),
 (5,⟨.int .u8,1,1,[.int .u8 0],false⟩),
 (6,⟨.int .u8,1,1,[.int .u8 0],false⟩),
 (7,⟨.st [(0,1,false),(1,1,false),(2,1,false),(3,1,false)],4,24,[.int .i64 0,.int .i64 0,.bool false,.int .u8 0],false⟩),
 (8,⟨.st [(0,1,false),(1,1,false),(2,1,false),(3,1,false)],4,24,[.int .i64 0,.int .i64 0,.bool false,.int .u8 0],false⟩),
 (13,⟨.st [(0,1,false),(1,1,false)],2,24,[.string ByteArray.empty,.int .u64 0],false⟩),
 (14,⟨.st [(0,1,false),(1,1,false)],2,24,[.string ByteArray.empty,.int .u64 0],false⟩),
 (18,⟨.st [(0,1,false)],1,8,[.pointer none],false⟩),
 (19,⟨.st [(0,1,false)],1,8,[.pointer none],false⟩),
 (21,⟨.int .i32,1,4,[.int .i32 0],false⟩),
 (22,⟨.sl 41,1,24,[.slice none 0 0],false⟩),
 (23,⟨.sl 43,1,24,[.slice none 0 0],false⟩),
 (24,⟨.sl 58,1,24,[.slice none 0 0],false⟩),
 (25,⟨.sl 34,1,24,[.slice none 0 0],false⟩),
 (26,⟨.sl 37,1,24,[.slice none 0 0],false⟩),
 (33,⟨.st [(0,1,false),(1,1,false),(2,1,false),(3,1,false),(4,1,false),(5,1,false),(6,1,false)],7,64,[.string ByteArray.empty,.int .i64 0,.int .i64 0,.int .i64 0,.int .i64 0,.int .i64 0,.bool false],false⟩),
 (34,⟨.st [(0,1,false),(1,1,false),(2,1,false),(3,1,false),(4,1,false),(5,1,false),(6,1,false)],7,64,[.string ByteArray.empty,.int .i64 0,.int .i64 0,.int .i64 0,.int .i64 0,.int .i64 0,.bool false],true⟩),
 (36,⟨.st [(0,1,false),(1,1,false),(2,1,false),(3,1,false),(4,1,false)],5,48,[.string ByteArray.empty,.int .i64 0,.bool false,.int .i64 0,.int .i64 0],false⟩),
 (37,⟨.st [(0,1,false),(1,1,false),(2,1,false),(3,1,false),(4,1,false)],5,48,[.string ByteArray.empty,.int .i64 0,.bool false,.int .i64 0,.int .i64 0],true⟩),
 (42,⟨.st [(0,1,false),(1,1,false),(2,1,false)],3,32,[.string ByteArray.empty,.int .i64 0,.int .i64 0],false⟩),
 (43,⟨.st [(0,1,false),(1,1,false),(2,1,false)],3,32,[.string ByteArray.empty,.int .i64 0,.int .i64 0],false⟩),
 (49,⟨.mp 58 4,1,8,[.map none],false⟩),
 (50,⟨.sl 53,1,24,[.slice none 0 0],false⟩),
 (51,⟨.sl 60,1,24,[.slice none 0 0],false⟩),
 (52,⟨.sl 68,1,24,[.slice none 0 0],false⟩),
 (53,⟨.sl 68,1,24,[.slice none 0 0],false⟩),
 (54,⟨.sl 59,1,24,[.slice none 0 0],false⟩),
 (55,⟨.st [(0,1,false),(1,1,false),(2,1,false),(3,1,false),(4,1,false),(5,1,false),(6,1,false),(7,1,false),(8,1,false)],9,184,[.slice none 0 0,.slice none 0 0,.map none,.slice none 0 0,.slice none 0 0,.slice none 0 0,.slice none 0 0,.int .i64 0,.slice none 0 0],false⟩),
 (56,⟨.st [(0,1,false),(1,1,false),(2,1,false),(3,1,false),(4,1,false),(5,1,false),(6,1,false),(7,1,false),(8,1,false)],9,184,[.slice none 0 0,.slice none 0 0,.map none,.slice none 0 0,.slice none 0 0,.slice none 0 0,.slice none 0 0,.int .i64 0,.slice none 0 0],false⟩),
 (58,⟨.st [(0,1,false),(1,1,false),(2,1,false),(3,1,false)],4,40,[.string ByteArray.empty,.int .i64 0,.int .i64 0,.int .i64 0],true⟩),
 (59,⟨.sl 4,1,24,[.slice none 0 0],false⟩),
 (60,⟨.sl 61,1,24,[.slice none 0 0],false⟩),
 (62,⟨.sl 3,1,24,[.slice none 0 0],false⟩),
 (63,⟨.st [(0,1,false),(1,1,false),(2,1,false),(3,1,false),(4,5,true)],9,96,[.int .i64 0,.int .i64 0,.int .i64 0,.slice none 0 0,.string ByteArray.empty,.int .i64 0,.bool false,.int .i64 0,.int .i64 0],false⟩),
 (64,⟨.st [(0,1,false),(1,1,false),(2,1,false),(3,1,false),(4,5,true)],9,96,[.int .i64 0,.int .i64 0,.int .i64 0,.slice none 0 0,.string ByteArray.empty,.int .i64 0,.bool false,.int .i64 0,.int .i64 0],false⟩),
 (67,⟨.st [(0,1,false),(1,1,false),(2,1,false)],3,24,[.int .i64 0,.int .i64 0,.int .i64 0],false⟩),
 (68,⟨.st [(0,1,false),(1,1,false),(2,1,false)],3,24,[.int .i64 0,.int .i64 0,.int .i64 0],false⟩),
 (72,⟨.sl 76,1,24,[.slice none 0 0],false⟩),
 (73,⟨.st [(0,1,false),(1,1,false),(2,1,false),(3,1,false)],4,96,[.slice none 0 0,.slice none 0 0,.slice none 0 0,.slice none 0 0],false⟩),
 (74,⟨.st [(0,1,false),(1,1,false),(2,1,false),(3,1,false)],4,96,[.slice none 0 0,.slice none 0 0,.slice none 0 0,.slice none 0 0],false⟩),
 (75,⟨.st [(0,1,false),(1,1,false),(2,1,false),(3,1,false),(4,1,false),(5,1,false),(6,1,false),(7,1,false),(8,1,false),(9,1,false),(10,1,false)],11,112,[.string ByteArray.empty,.int .i64 0,.int .i64 0,.int .i64 0,.bool false,.int .i64 0,.int .i64 0,.int .i64 0,.slice none 0 0,.int .i64 0,.int .i64 0],false⟩),
 (76,⟨.st [(0,1,false),(1,1,false),(2,1,false),(3,1,false),(4,1,false),(5,1,false),(6,1,false),(7,1,false),(8,1,false),(9,1,false),(10,1,false)],11,112,[.string ByteArray.empty,.int .i64 0,.int .i64 0,.int .i64 0,.bool false,.int .i64 0,.int .i64 0,.int .i64 0,.slice none 0 0,.int .i64 0,.int .i64 0],false⟩),
 (111,⟨.sl 9,1,24,[.slice none 0 0],false⟩),
 (133,⟨.int .u32,1,4,[.int .u32 0],false⟩),
 (168,⟨.sl 5,1,24,[.slice none 0 0],false⟩),
 (180,⟨.st [(0,1,false),(1,1,false),(2,1,false)],3,48,[.string ByteArray.empty,.string ByteArray.empty,.nilIface],false⟩),
 (181,⟨.st [(0,1,false),(1,1,false),(2,1,false)],3,48,[.string ByteArray.empty,.string ByteArray.empty,.nilIface],false⟩),
 (185,⟨.st [(0,1,false),(1,1,false)],2,2,[.int .u8 0,.int .u8 0],false⟩),
 (186,⟨.st [(0,1,false),(1,1,false)],2,2,[.int .u8 0,.int .u8 0],false⟩),
 (192,⟨.st [(0,1,false)],1,16,[.string ByteArray.empty],false⟩),
 (193,⟨.st [(0,1,false)],1,16,[.string ByteArray.empty],false⟩)]++([1,29,30,31,32,35,38,39,45,46,47,65,69,70,77,79,80,81,82,83,84,86,88,89,90,91,92,95,96,97,98,99,101,102,103,105,106,107,108,109,110,112,113,114,115,116,117,118,119,120,121,122,123,124,125,128,129,130,131,132,134,136,137,138,142,143,145,146,147,149,150,151,155,156,158,161,162,164,165,166,170,172,173,175,176,178,179,182,183,188,189,195,197,198].map fun n=>(n,⟨.sc,1,8,[.nilFunc],false⟩))))))))
def RS:List (Nat×Nat):=[(36,0),(19,0),(67,1),(67,2),(17,92),(17,0),(40,92),(40,0),(61,0),(68,0),(86,0),(107,0),(125,0)]
def Mc:List (Nat×Nat)->Nat->Nat->Bool
 | [],_,_=>false
 | (f,j)::r,f',j'=>match Nat.beq f f',Nat.beq j j' with
  | true,true=>true
  | _,_=>Mc r f' j'
def Env (S : Nat → Prop) (w : World) : Prop := S 0 ∧ S 5 ∧ (∃ m : Int, w.cell? ⟨0, 0, none⟩ = some (.int .i64 m)) ∧ Lib.TabIs Tryz.prog w "internal/strconv.uint64pow10" .u64 Lib.pow10Tab
theorem Js : Tryz.prog.globalNamed "internal/strconv.uint64pow10" = some 5 := by kernel_rfl
theorem EO(S S':Nat->Prop)(w w':World)(h:Env S w)(hS:∀b,S b->S' b)(hk:∀b,S b->w'.heap[b]?=w.heap[b]?):Env S' w':=by
 obtain⟨h1,h2,⟨m,hm⟩,h3⟩:=h;refine⟨hS _ h1,hS _ h2,⟨m,(uR (hk _ h1)).trans hm⟩,?_⟩;unfold Lib.TabIs World.var? at h3 ⊢;simp only[Js,Option.bind_some]at h3 ⊢;rw[hk _ h2];exact h3
noncomputable def C:Ctx:={ P:=Tryz.prog,T:=mU eL,md:=Mc RS,E:=Env,bf:=fun d=>Nat.beq d 20,bn:=fun t=>Nat.beq t 50,bh:=fun t=>Nat.beq t 54||Nat.beq t 60,bo:=fun t=>Nat.beq t 56||Nat.beq t 64||Nat.beq t 76,nc:=fun f=>Nat.beq f 18||(Nat.beq f 39||(Nat.beq f 41||(Nat.beq f 42||(Nat.beq f 38||(Nat.beq f 65))))),pt:=fun t=>Nat.beq t 66 }
theorem O9:eL.all (Nb Tryz.prog)=true:=by kernel_rfl
theorem RT:eL.all (Jf Tryz.prog)=true:=by kernel_rfl
theorem RU:eL.all (ON Tryz.prog)=true:=by kernel_rfl
theorem RV:eL.all (Jj Tryz.prog)=true:=by kernel_rfl
theorem hC:aL C:=⟨LP RU,Je O9,fun S S' w w' h hS hk _=>EO S S' w w' h hS hk,by kernel_rfl,Jh RT,vP RV,fun t h=>by rw[bq h];exact⟨53,by kernel_rfl⟩⟩
def i64(n:Int):PV:=.im (.int .i64 n)
def bool(b:Bool):PV:=.im (.bool b)
def ints(l:List Int):PV:=.sl (l.map fun n=>[i64 n])
variable {α:Type}
theorem A5{l:List α}{i:Nat}{x:α}(f:α->List PV)(h:l[i]?=some x):(l.map f)[i]?=some (f x):=by rw[ao,h];rfl
theorem GK:Tryz.prog.types.size+Made.depth=(Tryz.prog.types.size+99)+1:=rfl
theorem Md{t e:TypeId}{name:String}{f:FuncId}{d:Bool}{info:TypeInfo}{m:Method}(hi:Tryz.prog.info? t=some info)(hm:(info.methods.find? fun m=>m.name==name)=some m)(hp:m.path=#[])(hf:m.func=some (f,!d))(hu:Tryz.prog.underlying t=some (.pointer e))(he:∃ti,mU eL e=some ti/\ti.ud.agg=false):u9 Tryz.prog t name f d:=by
 have RW:m.path.toList=[]:=by rw[hp]
 have Lg:m.path.isEmpty=true:=by simp[hp]
 obtain⟨ti,RX,j6⟩:=he
 obtain ⟨z, key⟩ : ∃ z : String, ∀ (a : Addr) (w : World), (method (Tryz.prog.types.size + Made.depth) t (.pointer (some a)) name).run Tryz.prog w = ((receiverAt t (.val (.pointer (some a))) (!d) (some z)).run Tryz.prog w).andThen fun r w => .ok (f, r) w := ⟨(name.splitOn ".").getLastD name, fun a w => by
  rw[GK];unfold method;have ht:(typeInfo t).run Tryz.prog w=.ok info w:=by simp[typeInfo,hi]
  simp only[aI,ht,br,hm,RW,follow,ct,hf,Lg,if_true]⟩
 cases d with
 | false=>
  intro a w;rw[key];have hr:(receiverAt t (.val (.pointer (some a))) true (some z)).run Tryz.prog w=.ok (.pointer (some a)) w:=by
   simp[receiverAt,run_underlying hu,Place.get]
  simp only[Bool.not_false,hr,br]
 | true=>
  intro a v w hv;rw[key];have hr:(receiverAt t (.val (.pointer (some a))) false (some z)).run Tryz.prog w=.ok v w:=by
   have hw : (Builtin.ssaWrapNilChk_ #[t] t #[Value.pointer (some a), strVal "", strVal z]).run Tryz.prog w = .ok (.pointer (some a)) w := rfl
   have ha:(isAgg e).run Tryz.prog w=.ok false w:=by rw[<-j6];exact (hC.eL e ti RX).isAgg w
   have hl:(loadVar e a).run Tryz.prog w=.ok v w:=by
    have RY:(load a).run Tryz.prog w=.ok v w:=by simp[load,Sem.run,hv]
    unfold loadVar;simp only[aI,ha,br,aK,if_false];exact RY
   simp[receiverAt,run_underlying hu,Place.get,hw,asAddr,hl]
  simp only[vz,hr,br]
noncomputable def Qk(t:TypeId)(name:String)(f:FuncId)(d:Bool):Bool:=match Tryz.prog.info? t with
 | some info=>match info.methods.find? fun m=>m.name==name with
  | some m=>m.path.isEmpty&&match m.func with
   | some (f',d')=>Nat.beq f' f&&(d'==!d)
   | none=>false
  | none=>false
 | none=>false
theorem sE{t e:TypeId}{name:String}{f:FuncId}{d:Bool}(h:Qk t name f d=true)(hu:Tryz.prog.underlying t=some (.pointer e))(he:∃ti,mU eL e=some ti/\ti.ud.agg=false):u9 Tryz.prog t name f d:=by
 unfold Qk at h;split at h
 ·rename_i info hi;split at h
  ·rename_i m hm;rw[qK]at h;obtain⟨h1,h2⟩:=h;split at h2
   ·rename_i f' d' hf;rw[qK]at h2;have e1:=bq h2.1;have e2:d'=!d:=by simpa using h2.2
    subst e1;subst e2;exact Md hi hm (by simpa using h1) hf hu he
   cases h2
  cases h
 cases h
theorem EP : u9 Tryz.prog 66 "Len" 163 true := sE (e := 53) (by kernel_rfl) (by kernel_rfl) ⟨_, rfl, rfl⟩
theorem oL : u9 Tryz.prog 66 "Less" 164 true := sE (e := 53) (by kernel_rfl) (by kernel_rfl) ⟨_, rfl, rfl⟩
theorem oM : u9 Tryz.prog 66 "Swap" 165 true := sE (e := 53) (by kernel_rfl) (by kernel_rfl) ⟨_, rfl, rfl⟩
theorem GL : u9 Tryz.prog 66 "Push" 167 false := sE (e := 53) (by kernel_rfl) (by kernel_rfl) ⟨_, rfl, rfl⟩
theorem Jt : u9 Tryz.prog 66 "Pop" 166 false := sE (e := 53) (by kernel_rfl) (by kernel_rfl) ⟨_, rfl, rfl⟩
theorem bT{l:List α}{i:Nat}{r:α}(h:l[i]?=some r):l.take (i+1)=l.take i++[r]:=by rw[List.take_add_one,h];rfl
theorem a8{l:List α}{i:Nat}(h:i<l.length):∃p,l[i]?=some p:=⟨l[i],aM h⟩
theorem idx{l:List α}{f:α->List PV}{i:Int}{k:Nat}{x:α}(h:i=k)(hx:l[k]?=some x):0<=i/\(l.map f)[i.toNat]?=some (f x):=by
 subst h;exact⟨by omega,by rw[wh];exact A5 f hx⟩
theorem cH(l:List α)(f:α->List PV):(l.map f).length=l.length:=Al ..
def str(s:ByteArray):PV:=.im (.string s)
theorem tA(s:ByteArray)(c:Int):aT C 52 [.pv (str s),.pv (.im (.int .u8 c))] (.p (i64 (Lib.indexByte s.data.toList c.toNat.toUInt8))) []:=
 iz [.string s,.int .u8 c] _ ⟨_,Tryz.func52,rfl,rfl⟩ fun _ w _ _=>(Tryz.strings_IndexByte s c w).mono fun _ _ ⟨h1,h2⟩=>⟨h1,by rw[h2];exact Below.refl _ _⟩
def okB(b:UInt8):Bool:=(decide ((97:Int)<=b.toNat)&&decide ((b.toNat:Int)<=122))||(decide ((65:Int)<=b.toNat)&&decide ((b.toNat:Int)<=90))||(decide ((48:Int)<=b.toNat)&&decide ((b.toNat:Int)<=57))||!decide (Lib.indexByte [95,43,45,35] b<0)
theorem byte_back(b:UInt8):((b.toNat:Int)).toNat.toUInt8=b:=by simp
def jh(s:ByteArray):Bool:=s.data.toList.all okB&&(decide ((1:Int)<=s.size)&&decide ((s.size:Int)<=40))
theorem xR{s:ByteArray}{i:Nat}(h:i<s.size):∃b:UInt8,s[i]?=some b/\s.data.toList[i]?=some b:=by
 refine⟨s[i],getElem?_pos s i h,?_⟩;rw[cg];exact bE h
theorem ir(s:ByteArray)(hs:s.size<=9223372036854775807):aT C 25 [.pv (str s)] (.p (bool (jh s))) []:=by
 refine fW hC Tryz.func25 rfl (by kernel_rfl) fun _=>?_;have hsz:s.data.toList.length=s.size:=by simp
 refine d_ (fun i:Nat=>i<=s.size/\(s.data.toList.take i).all okB=true) (fun i=>[(0,.p (str s)),(6,.p (i64 s.size)),(7,.p (i64 i))]) (fun _=>[]) (fun i=>s.size-i) 0 _ (aY.refl _ _) ⟨bd _,by simp⟩ ⟨Z,Z,Z,Y⟩ trivial fun i hi t h=>?_;apply iW<;>intro h1<;>try simp only[zB]at h1
 ·obtain⟨b,hb,dM⟩:=xR (s:=s) (i:=i) (by omega);have GM:okB b=false->jh s=false:=fun h=>by
   rw[jh,Bool.and_eq_false_iff];refine .inl ?_;rw[List.all_eq_false];exact⟨b,aj dM,by simp[h]⟩
  have hnext:okB b=true->(s.data.toList.take (i+1)).all okB=true:=fun h=>by rw[bT dM,List.all_append,hi.2];simp[h]
  refine⟨b,⟨by omega,by rw[wh];exact hb⟩,?_⟩;have C2:=tA ⟨#[95,43,45,35]⟩ b.toNat;rw[byte_back]at C2
  repeat' first | apply iW<;>intro h<;>try simp only[zB]at h | refine⟨_,_,C2,?_⟩
  all_goals skip
  all_goals first
   | (
     refine⟨wO (by omega),?_⟩;refine⟨(i+1),_,aY.refl _ _,?_⟩;exact⟨⟨by omega,hnext (by simp only[okB,oa,qK,dS,j8,wi];omega)⟩,by omega,⟨Z,Z,Z,Y⟩,trivial⟩)
   | (
     refine⟨?_,trivial⟩;rw[GM (by simp only[okB,fQ,Bool.and_eq_false_iff,wi,Bool.not_eq_false',dS];omega)];rfl)
 have fI:s.data.toList.all okB=true:=by
  have:=hi.2
  rwa [vm (by omega)]at this
 apply iW<;>intro h2<;>try simp only[zB]at h2
 ·refine⟨?_,trivial⟩;simp[bool,jh,fI,h2]
 refine⟨?_,trivial⟩;simp[bool,jh,fI,h2]
def pK(n lo hi:Int):Bool:=decide (lo<=n)&&decide (n<=hi)
theorem cI(n lo hi:Int):aT C 28 [.pv (i64 n),.pv (i64 lo),.pv (i64 hi)] (.p (bool (pK n lo hi))) []:=by
 refine fW hC Tryz.func28 rfl (by kernel_rfl) fun _=>?_;apply iW<;>intro h<;>(refine⟨?_,trivial⟩)<;>simp[bool,pK,h]
theorem TF(n:Int):aT C 35 [.pv (i64 n)] (.p (bool (pK n 0 199))) []:=by
 refine fW hC Tryz.func35 rfl (by kernel_rfl) fun _=>?_;refine⟨_,_,(cI n 0 199),?_,trivial⟩;rfl
end M
namespace Ql
structure UA{α:Type}(le:α->α->Bool):Prop where
 total:∀a b,le a b=true\/le b a=true
 trans:∀a b c,le a b=true->le b c=true->le a c=true
variable {α:Type}
theorem UA.refl{le:α->α->Bool}(h:UA le)(a:α):le a a=true:=(h.total a a).elim id id
def eqv{α:Type}(le:α->α->Bool)(a b:α):Bool:=le a b&&le b a
theorem UP{le:α->α->Bool}(h:UA le)(a:α):eqv le a a=true:=by simp[eqv,h.refl]
theorem Vt{le:α->α->Bool}{a b:α}(h:eqv le a b=true):eqv le b a=true:=by
 simp only[eqv,qK]at h ⊢;exact⟨h.2,h.1⟩
theorem Vl{le:α->α->Bool}(h:UA le){a b c:α}(h1:eqv le a b=true)(h2:eqv le b c=true):eqv le a c=true:=by
 simp only[eqv,qK]at h1 h2 ⊢;exact⟨h.trans _ _ _ h1.1 h2.1,h.trans _ _ _ h2.2 h1.2⟩
def gp{α:Type}(le:α->α->Bool)(l m:List α):Prop:=∀x,m.filter (eqv le x)=l.filter (eqv le x)
theorem gp.refl{le:α->α->Bool}(l:List α):gp le l l:=fun _=>rfl
theorem gp.trans{le:α->α->Bool}{l m n:List α}(h:gp le l m)(k:gp le m n):gp le l n:=fun x=>(k x).trans (h x)
theorem gp.symm{le:α->α->Bool}{l m:List α}(h:gp le l m):gp le m l:=fun x=>(h x).symm
theorem gp.app{le:α->α->Bool}{l m l' m':List α}(h:gp le l m)(k:gp le l' m'):gp le (l++l') (m++m'):=fun x=>by
 rw[ry,ry,h x,k x]
theorem gp.mem{le:α->α->Bool}(hp:UA le){l m:List α}(h:gp le l m){a:α}(ha:a∈m):a∈l:=by
 have:a∈m.filter (eqv le a):=ib.2 ⟨ha,UP hp a⟩;rw[h a]at this;exact (ib.1 this).1
theorem gp.swap{le:α->α->Bool}(hp:UA le){u v:List α}(h:∀a∈u,∀b∈v,le a b=false):gp le (u++v) (v++u):=fun x=>by
 rw[ry,ry];by_cases hu:u.filter (eqv le x)=[]
 ·rw[hu,ca,aw]
 by_cases hv:v.filter (eqv le x)=[]
 ·rw[hv,ca,aw]
 obtain⟨a,ha⟩:=di _ hu;obtain⟨b,hb⟩:=di _ hv;obtain⟨a1,a2⟩:=ib.1 ha;obtain⟨b1,b2⟩:=ib.1 hb;have:=Vl hp (Vt a2) b2;simp only[eqv,qK]at this;rw[h a a1 b b1]at this;cases this.1
def SY{α:Type}(le:α->α->Bool)(l:List α):Prop:=l.Pairwise fun a b=>le a b=true
theorem TG{le:α->α->Bool}(hp:UA le):∀{m n:List α},SY le m->SY le n->gp le m n->m=n
 | [],[],_,_,_=>rfl
 | [],b::n,_,_,h=>by
  have:=gp.mem hp h (a:=b) dJ;cases this
 | a::m,[],_,_,h=>by
  have:=gp.mem hp h.symm (a:=a) dJ;cases this
 | a::m,b::n,hm,hn,h=>by
  have mD:=wj.1 hm;have wM:=wj.1 hn;have V9:le a b=true:=by
   rcases fL.1 (gp.mem hp h (a:=b) dJ) with e | e
   ·rw[e];exact hp.refl a
   exact mD.1 b e
  have V_:le b a=true:=by
   rcases fL.1 (gp.mem hp h.symm (a:=a) dJ) with e | e
   ·rw[e];exact hp.refl b
   exact wM.1 a e
  have Mm:eqv le a b=true:=by rw[eqv,V9,V_];rfl
  have e0:=h a;rw[wk Mm,wk (UP hp a)]at e0;injection e0 with e1 e2;subst e1;have ht:gp le m n:=fun x=>by
   have ex:=h x;by_cases c:eqv le x b=true
   ·rw[wk c,wk c]at ex;injection ex
   rw[wy c,wy c]at ex;exact ex
  rw[TG hp mD.2 wM.2 ht]
theorem TH{le:α->α->Bool}(hp:UA le){u v:List α}{x:α}(hs:SY le (u++v))(hu:∀a∈u,le a x=true)(hv:∀a∈v,le a x=false):SY le (u++x::v)/\gp le (u++v++[x]) (u++x::v):=by
 obtain⟨s1,s2,s3⟩:=jW.1 hs;refine⟨jW.2 ⟨s1,wj.2 ⟨fun a ha=>?_,s2⟩,fun a ha b hb=>?_⟩,?_⟩
 ·rcases hp.total a x with h | h
  ·rw[hv a ha]at h;cases h
  exact h
 ·rcases fL.1 hb with e | hb
  ·rw[e];exact hu a ha
  exact s3 a ha b hb
 rw[gX];refine gp.app (gp.refl u) ?_;have:=gp.swap hp (u:=v) (v:=[x]) fun a ha b hb=>by rw[n9]at hb;rw[hb];exact hv a ha
 exact this
theorem U1{le:α->α->Bool}(hp:UA le){a1 a2 b1 b2 m1 m2:List α}(ha:SY le (a1++a2))(hb:SY le (b1++b2))(h1:∀a∈a1,∀b∈b2,le a b=true)(h2:∀a∈a2,∀b∈b1,le a b=false)
  (s1:SY le m1) (k1:gp le (a1++b1) m1) (s2:SY le m2) (k2:gp le (a2++b2) m2):SY le (m1++m2)/\gp le ((a1++a2)++(b1++b2)) (m1++m2):=by
 obtain⟨_,_,Wa⟩:=jW.1 ha;obtain⟨_,_,Wb⟩:=jW.1 hb;refine⟨jW.2 ⟨s1,s2,fun x hx y hy=>?_⟩,?_⟩
 ·rcases cX.1 (gp.mem hp k1 hx) with x1 | x1
  ·rcases cX.1 (gp.mem hp k2 hy) with y1 | y1
   ·exact Wa x x1 y y1
   exact h1 x x1 y y1
  rcases cX.1 (gp.mem hp k2 hy) with y1 | y1
  ·rcases hp.total x y with t | t
   ·exact t
   rw[h2 y y1 x x1]at t;cases t
  exact Wb x x1 y y1
 have e1:(a1++a2)++(b1++b2)=a1++((a2++b1)++b2):=by simp only[gX]
 have e2:a1++((b1++a2)++b2)=(a1++b1)++(a2++b2):=by simp only[gX]
 have sw:gp le (a1++((a2++b1)++b2)) (a1++((b1++a2)++b2)):=gp.app (gp.refl a1) (gp.app (gp.swap hp h2) (gp.refl b2));rw[e2]at sw;rw[e1];exact sw.trans (k1.app k2)
def Vm{α:Type}(le:α->α->Bool)(x:α)(l:List α):List α:=l.takeWhile (le · x)++x::l.dropWhile (le · x)
def Tb{α:Type}(le:α->α->Bool)(l:List α):List α:=l.foldl (fun a x=>Vm le x a) []
section
variable {α:Type} {le:α->α->Bool}
theorem Vu{p:α->Bool}:∀(l:List α),∀a∈l.takeWhile p,p a=true:=fun l=>cC.1 List.all_takeWhile
theorem Ur(hp:UA le){x:α}:∀{l:List α},SY le l->∀a∈l.dropWhile (le · x),le a x=false
 | [],_,a,h=>by simp at h
 | y::l,hs,a,h=>by
  obtain⟨h1,h2⟩:=wj.1 hs;rw[List.dropWhile_cons]at h;cases hy:le y x with
  | true=>
   rw[hy,ae rfl]at h;exact Ur hp h2 a h
  | false=>
   rw[hy,af (by simp)]at h;cases ha:le a x with
   | false=>rfl
   | true=>
    rcases fL.1 h with e | h
    ·rw[e,hy]at ha;cases ha
    rw[hp.trans y a x (h1 a h) ha]at hy;cases hy
variable {l:List α}
theorem UQ(hp:UA le){x:α}(hs:SY le l):SY le (Vm le x l)/\gp le (l++[x]) (Vm le x l):=by
 have:=TH hp (u:=l.takeWhile (le · x)) (v:=l.dropWhile (le · x)) (x:=x) (by rw[wz];exact hs) (Vu l) (Ur hp hs);rw[wz]at this;exact this
theorem Us(l:List α)(x:α):Tb le (l++[x])=Vm le x (Tb le l):=by simp[Tb]
theorem S0(hp:UA le)(l:List α):SY le (Tb le l)/\gp le l (Tb le l):=by
 have key:∀n (l:List α),l.length=n->SY le (Tb le l)/\gp le l (Tb le l):=by
  intro n
  induction n with
  | zero=>
   intro l h;have:l=[]:=cW h;subst this;exact⟨List.Pairwise.nil,gp.refl _⟩
  | succ n ih=>
   intro l h;have bO:l≠[]:=fun e=>by rw[e]at h;cases h
   obtain⟨m,x,rfl⟩:∃m x,l=m++[x]:=⟨l.dropLast,l.getLast bO,(AF bO).symm⟩;obtain⟨h1,h2⟩:=ih m (by simpa using h);obtain⟨h3,h4⟩:=UQ hp (x:=x) h1;rw[Us];exact⟨h3,(gp.app h2 (gp.refl _)).trans h4⟩
 exact key _ l rfl
theorem TL(hp:UA le){m:List α}(hs:SY le m)(hk:gp le l m):Tb le l=m:=
 TG hp (S0 hp l).1 hs ((S0 hp l).2.symm.trans hk)
theorem UR(x:α)(l:List α):(Vm le x l).length=l.length+1:=by
 have:=qU List.length (wz (p:=(le · x)) (l:=l));simp only[bZ]at this;simp only[Vm,bZ,cD];omega
theorem S4(l:List α):(Tb le l).length=l.length:=by
 have key:∀n (l:List α),l.length=n->(Tb le l).length=n:=by
  intro n
  induction n with
  | zero=>
   intro l h;have:l=[]:=cW h;subst this;rfl
  | succ n ih=>
   intro l h;have bO:l≠[]:=fun e=>by rw[e]at h;cases h
   obtain⟨m,x,rfl⟩:∃m x,l=m++[x]:=⟨l.dropLast,l.getLast bO,(AF bO).symm⟩;rw[Us,UR,ih m (by simpa using h)]
 exact key _ l rfl
theorem Tv(hp:UA le)(h:SY le l):Tb le l=l:=TL hp h (gp.refl _)
theorem put_eq(hp:UA le){u v:List α}{x:α}(h:Tb le l=u++v)(hu:∀a∈u,le a x=true)(hv:∀a∈v,le a x=false):Tb le (l++[x])=u++x::v:=by
 have hs:SY le (u++v):=by rw[<-h];exact (S0 hp l).1
 obtain⟨h1,h2⟩:=TH hp hs hu hv;refine TL hp h1 (gp.trans (gp.app ?_ (gp.refl [x])) h2);rw[<-h];exact (S0 hp l).2
theorem front_eq(hp:UA le){p q:List α}{x:α}(hs:SY le (p++q))(h1:∀a∈p,le x a=false)(h2:∀a∈q,le x a=true):Tb le (x::(p++q))=p++x::q:=by
 obtain⟨s1,s2,s3⟩:=jW.1 hs;refine TL hp (jW.2 ⟨s1,wj.2 ⟨h2,s2⟩,fun a ha b hb=>?_⟩) ?_
 ·rcases fL.1 hb with e | hb
  ·rw[e];rcases hp.total a x with h | h
   ·exact h
   rw[h1 a ha]at h;cases h
  exact s3 a ha b hb
 have e1:x::(p++q)=([x]++p)++q:=rfl;have e2:p++x::q=(p++[x])++q:=by simp
 rw[e1,e2];exact gp.app (gp.swap hp fun a ha b hb=>by rw[n9]at ha;rw[ha];exact h1 b hb) (gp.refl q)
theorem Vv(hp:UA le){a1 a2 b1 b2:List α}(ha:SY le (a1++a2))(hb:SY le (b1++b2))(h1:∀a∈a1,∀b∈b2,le a b=true)(h2:∀a∈a2,∀b∈b1,le a b=false):Tb le ((a1++a2)++(b1++b2))=Tb le (a1++b1)++Tb le (a2++b2):=by
 obtain⟨q1,q2⟩:=U1 hp ha hb h1 h2 (S0 hp (a1++b1)).1 (S0 hp (a1++b1)).2 (S0 hp (a2++b2)).1 (S0 hp (a2++b2)).2;exact TL hp q1 q2
variable {s:List α}
theorem zQ{i:Nat}{y:α}(h:s[i]?=some y):i<s.length:=by
 by_cases hi:i<s.length
 ·exact hi
 rw[dI (by omega)]at h;cases h
theorem Tr(hs:SY le s){P:α->Prop}(hP:∀a b,le a b=true->P b->P a){k:Nat}(h:k=0\/∃y,s[k-1]?=some y/\P y):∀e∈s.take k,P e:=by
 intro e he;obtain⟨i,hi,rfl⟩:=iX he;simp only[cu]at hi;rw[List.getElem_take];rcases h with h | ⟨y,h1,h2⟩
 ·omega
 by_cases e:i=k-1
 ·subst e;rw[aM (by omega)]at h1;injection h1 with h1;rw[h1];exact h2
 have hk:=zQ h1;refine hP _ y ?_ h2;have:=oW.1 hs i (k-1) (by omega) hk (by omega);rw[aM hk]at h1;injection h1 with h1;rw[<-h1];exact this
theorem Uc(hr:UA le)(hs:SY le s){P:α->Prop}(hP:∀a b,le a b=true->P a->P b){k:Nat}(h:s.length<=k\/∃y,s[k]?=some y/\P y):∀e∈s.drop k,P e:=by
 intro e he;obtain⟨i,hi,rfl⟩:=iX he;simp only[nI]at hi;rw[List.getElem_drop];rcases h with h | ⟨y,h1,h2⟩
 ·omega
 rw[aM (by omega)]at h1;injection h1 with h1;by_cases e:i=0
 ·subst e;simp only[jS];rw[h1];exact h2
 refine hP y _ ?_ h2;rw[<-h1];exact oW.1 hs k (k+i) (by omega) (by omega) (by omega)
end
section
variable {α:Type}
theorem Uk(A B C:List α)(x y:α)(i j:Nat)(hi:i=A.length)(hj:j=A.length+1+B.length):((A++x::(B++y::C)).set i y).set j x=A++y::(B++x::C):=by
 subst hi hj;rw[il _ _ (aC _),fH,km,il _ _ (by omega)];congr 1;rw[show A.length+1+B.length-A.length=B.length+1 by omega,ji,il _ _ (aC _),fH,km]
theorem Ut(A B C:List α)(x y:α)(i j:Nat)(hi:i=A.length)(hj:j=A.length+1+B.length):((A++x::(B++y::C)).set j x).set i y=A++y::(B++x::C):=by
 rw[List.set_comm _ _ (by omega)];exact Uk A B C x y i j hi hj
theorem get_at(A B:List α)(x:α)(i:Nat)(hi:i=A.length):(A++x::B)[i]?=some x:=by
 subst hi;rw[bY (aC _),fH];rfl
theorem UB(A B C:List α)(x y:α)(j:Nat)(hj:j=A.length+1+B.length):(A++x::(B++y::C))[j]?=some y:=by
 rw[show A++x::(B++y::C)=(A++x::B)++y::C by simp];exact get_at _ _ _ _ (by simp;omega)
end
end Ql
namespace M
open Go.AM Go.RowKit
def jI(a b:Int):Int:=if a<b then -1 else if b<a then 1 else 0
theorem uv(n:Int):aT C 78 [.pv (i64 n)] (.p (bool false)) []:=by
 refine fW hC Tryz.func78 rfl (by kernel_rfl) fun _=>?_;refine⟨?_,trivial⟩;simp[bool]
theorem wa(a b:Int):aT C 46 [.pv (i64 a),.pv (i64 b)] (.p (i64 (jI a b))) []:=by
 refine fW hC Tryz.func46 rfl (by kernel_rfl) fun _=>?_;refine⟨_,_,(uv a),_,_,(uv b),iW ?_ ?_⟩<;>intro h<;>try simp only[zB]at h
 ·refine⟨?_,trivial⟩;rw[jI,ae h];rfl
 apply iW<;>intro h2<;>try simp only[zB]at h2
 ·refine⟨?_,trivial⟩;rw[jI,af h,ae h2];rfl
 refine⟨?_,trivial⟩;rw[jI,af h,af h2];rfl
def A6:List Int->Int
 | []=>0
 | a::l=>if a=0 then A6 l else a
theorem ER{l:List Int}{i:Nat}(h:A6 (l.take i)=0)(hn:∀x∈l.take i,x=0){a:Int}(ha:l[i]?=some a)(h0:a≠0):A6 l=a:=by
 have e:l=l.take i++a::l.drop (i+1):=by
  have hi:i<l.length:=Ql.zQ ha;rw[aM hi]at ha;injection ha with ha;rw[<-ha,<-oX hi,nZ]
 rw[e];clear h ha e;generalize l.take i=m at *
 induction m with
 | nil=>rw[aw,A6,af h0]
 | cons x m ih=>
  rw[uV,A6,ae (hn x dJ)];exact ih fun y hy=>hn y (An _ hy)
theorem sG:∀{l:List Int},(∀x∈l,x=0)->A6 l=0
 | [],_=>rfl
 | a::l,h=>by rw[A6,ae (h a dJ)];exact sG fun x hx=>h x (An _ hx)
theorem Ju(l:List Int)(hN:l.length<=1000):aT C 45 [.pv (ints l)] (.p (i64 (A6 l))) []:=by
 refine fW hC Tryz.func45 rfl (by kernel_rfl) fun _=>?_;have lm:=cH l fun n=>[i64 n];refine d_ (fun i:Nat=>i<=l.length/\∀x∈l.take i,x=0) (fun i=>[(3,.p (i64 0)),(6,.p (ints l)),(7,.p (i64 l.length)),(8,.p (i64 i))]) (fun _=>[]) (fun i=>l.length-i) 0 _ (aY.refl _ _) ⟨bd _,by simp⟩ ⟨rfl,rfl,qU (fun n:Nat=>AV.p (i64 n)) lm,Z,Y⟩ trivial fun i hi t h=>?_;apply iW<;>intro h1<;>try simp only[zB]at h1
 ·obtain⟨a,ha⟩:=a8 (l:=l) (i:=i) (by omega);refine⟨[i64 a],(idx rfl ha),iW ?_ ?_⟩<;>intro h2<;>try simp only[zB]at h2
  ·refine⟨?_,trivial⟩;rw[ER (sG hi.2) hi.2 ha h2]
  refine⟨wO (by omega),(i+1),_,aY.refl _ _,⟨by omega,fun x hx=>?_⟩,by omega,⟨Z,Z,Z,Z,Y⟩,trivial⟩;rw[bT ha,cX,n9]at hx;rcases hx with hx | hx
  ·exact hi.2 x hx
  rw[hx];exact h2
 refine⟨?_,trivial⟩;rw[sG fun x hx=>hi.2 x (by rw[vm (by omega)];exact hx)]
def A7(s:ByteArray):Prop:=s.size<4294967281
structure dQ where
 lot:ByteArray
 panel:Int
 step:Int
 machine:Int
 from_:Int
 till:Int
 good:Bool
def dc(d:dQ):List PV:=[str d.lot,i64 d.panel,i64 d.step,i64 d.machine,i64 d.from_,i64 d.till,bool d.good]
def H6(a b:dQ):Bool:=decide (a.from_<b.from_\/a.from_=b.from_/\(a.step<b.step\/a.step=b.step/\a.machine<=b.machine))
theorem Tc:Ql.UA H6:=⟨fun a b=>by simp only[H6,dS];omega,fun a b c h1 h2=>by simp only[H6,dS]at *;omega⟩
def tB(a b:dQ):Int:=A6 [jI a.from_ b.from_,jI a.step b.step,jI a.machine b.machine]
theorem GN(a b:dQ):tB a b<0↔H6 b a=false:=by
 simp only[tB,A6,jI,H6,wi]
 repeat' split
 all_goals omega
theorem ES(a b:dQ):decide (tB a b<0)=!H6 b a:=by
 rw[gU,dS,GN];simp
theorem Tl(a b:dQ):aT C 20 [.pv (.ag (dc a)),.pv (.ag (dc b))] (.p (i64 (tB a b))) []:=by
 refine fW hC Tryz.func20 rfl (by kernel_rfl) fun _=>?_;refine⟨_,_,(wa a.from_ b.from_),_,_,(wa a.step b.step),_,_,(wa a.machine b.machine),_,_,(Ju [jI a.from_ b.from_,jI a.step b.step,jI a.machine b.machine] (by simp)),?_,trivial⟩;rfl
abbrev Wt:=Int×Int×Int
def wt(x:Wt):List PV:=[i64 x.1,i64 x.2.1,i64 x.2.2]
def H7(x:Wt):PV:=.ifc 68 (.ag (wt x))
def qt(a b:Wt):Bool:=decide (A6 [jI a.1 b.1,jI a.2.1 b.2.1,jI a.2.2 b.2.2]<0)
def cO(l:List Wt)(i j:Nat)(a b:Wt):List Wt:=(l.set i b).set j a
theorem ET{l:List Wt}{i j:Nat}{a b:Wt}{k:Int}(hk:k=j)(hi:l[i]?=some a)(hj:l[j]?=some b):((l.map wt).set i (wt b))[k.toNat]?=some (wt b):=by
 subst hk;rw[wh];by_cases e:j=i
 ·subst e;rw[aP (by rw[Al];exact ah hi)]
 rw[bw (fun h=>e h.symm)];exact A5 wt hj
theorem H8(l:List Wt):cR C 163 [.ow 100001] [(100001,.row 68 (l.map wt))] (.p (i64 l.length)) [(100001,.row 68 (l.map wt))]:=by
 refine Jr ⟨[],[],[],[],[],[]⟩ hC Tryz.func163 rfl (by kernel_rfl) fun _=>?_;exact⟨by show AV.p (i64 _)=_;rw[Al],Z,Y⟩
theorem Jv(l:List Wt)(i j:Nat)(a b:Wt)(hi:l[i]?=some a)(hj:l[j]?=some b):cR C 164 [.ow 100001,.p (i64 i),.p (i64 j)] [(100001,.row 68 (l.map wt))] (.p (bool (qt a b))) [(100001,.row 68 (l.map wt))]:=by
 have li:=ah hi;have lj:=ah hj;have lm:=cH l wt;refine Jr ⟨[],[],[(1,[100001])],[],[(1,[true,true,true,true,true,true,false,false,true,true,false,true])],[]⟩ hC Tryz.func164 rfl (by kernel_rfl) fun _=>?_;exact⟨⟨by omega,by rw[lm];omega⟩,(wt a),(idx rfl hi).2,⟨by omega,by rw[lm];omega⟩,(wt b),(idx rfl hj).2,_,_,(wa a.1 b.1),_,_,(wa a.2.1 b.2.1),_,_,(wa a.2.2 b.2.2),_,_,(Ju [jI a.1 b.1,jI a.2.1 b.2.1,jI a.2.2 b.2.2] (by simp)),Z,Z,Y⟩
theorem Jw(l:List Wt)(i j:Nat)(a b:Wt)(hi:l[i]?=some a)(hj:l[j]?=some b):cR C 165 [.ow 100001,.p (i64 i),.p (i64 j)] [(100001,.row 68 (l.map wt))] (.tu []) [(100001,.row 68 ((cO l i j a b).map wt))]:=by
 have li:=ah hi;have lj:=ah hj;have lm:=cH l wt;refine Jr ⟨[],[],[],[],[],[]⟩ hC Tryz.func165 rfl (by kernel_rfl) fun _=>?_;exact⟨⟨by omega,by rw[lm];omega⟩,(wt b),(idx rfl hj).2,⟨by omega,by rw[lm];omega⟩,(wt a),(idx rfl hi).2,⟨by omega,by rw[lm];omega⟩,(wt a),(idx rfl hi).2,⟨by omega,by rw[aF,lm];omega⟩,(wt b),(ET rfl hi hj),rfl,by show AB.row _ (((l.map wt).set i (wt b)).set j (wt a))=_;rw[cO,rA,rA],trivial⟩
theorem Jx(c0:Array Value)(ty:TypeId)(l:List Wt)(x:Wt)(hN:l.length<=1000000):cR C 167 [.ow 100000,.p (H7 x)] [(100000,.cell c0 ty (.ow 90001)),(90001,.row 68 (l.map wt))] (.tu []) [(100000,.cell c0 ty (.ow 90001)),(90001,.row 68 ((l++[x]).map wt))]:=by
 have lm:=cH l wt;refine Kz ⟨[],[],[],[0],[],[]⟩ hC Tryz.func167 rfl (by kernel_rfl) fun _=>?_;refine⟨⟨by simp[wt],by rw[lm];simp;omega,by rw[lm];simp;omega⟩,_,aY.ez _ 11 90001 (by decide) (by decide),rfl,rfl,?_,trivial⟩;show AB.row _ (l.map wt++[wt x])=_;rw[aa];rfl
theorem Me(c0:Array Value)(ty:TypeId)(l:List Wt)(x:Wt)(hN:l.length<=1000000):cR C 166 [.ow 100000] [(100000,.cell c0 ty (.ow 90001)),(90001,.row 68 ((l++[x]).map wt))] (.p (H7 x)) [(100000,.cell c0 ty (.ow 90001)),(90001,.row 68 (l.map wt))]:=by
 have lm:=cH (l++[x]) wt;rw[bZ,nJ]at lm;have e0:(((((l++[x]).map wt).length:Nat):Int)-1).toNat=l.length:=by rw[lm];omega
 refine Kz ⟨[],[],[],[],[],[]⟩ hC Tryz.func166 rfl (by kernel_rfl) fun _=>?_;refine⟨wO (by omega),⟨by omega,by rw[e0,lm];omega⟩,(wt x),(by rw[e0];simp),wO (by omega),?_⟩;refine Or.inl ?_;refine⟨⟨by omega,by omega,by omega⟩,_,(aY.Cw (by exact hC) _ 100000 3 _ (by decide) rfl rfl).trans (aY.ez _ 3 90001 (by decide) (by decide)),rfl,rfl,?_,trivial⟩;show AB.row _ ((((l++[x]).map wt)).take _)=_;rw[e0];simp
def uw:Nat->List Wt->Nat->List Wt
 | 0,l,_=>l
 | n+1,l,j=>match l[j]?,l[(j-1) / 2]? with
  | some a,some b=>if (j-1) / 2=j then l else if qt a b then uw n (cO l ((j-1) / 2) j b a) ((j-1) / 2) else l
  | _,_=>l
theorem oN(l:List Wt)(i j:Int)(a b:Wt)(hi:0<=i/\l[i.toNat]?=some a)(hj:0<=j/\l[j.toNat]?=some b):cR C 164 [.ow 100001,.p (i64 i),.p (i64 j)] [(100001,.row 68 (l.map wt))] (.p (bool (qt a b))) [(100001,.row 68 (l.map wt))]:=by
 obtain⟨i',rfl⟩:=Bv hi.1;obtain⟨j',rfl⟩:=Bv hj.1;exact Jv l i' j' a b hi.2 hj.2
theorem oO(l:List Wt)(i j:Int)(a b:Wt)(hi:0<=i/\l[i.toNat]?=some a)(hj:0<=j/\l[j.toNat]?=some b):cR C 165 [.ow 100001,.p (i64 i),.p (i64 j)] [(100001,.row 68 (l.map wt))] (.tu []) [(100001,.row 68 ((cO l i.toNat j.toNat a b).map wt))]:=by
 obtain⟨i',rfl⟩:=Bv hi.1;obtain⟨j',rfl⟩:=Bv hj.1;exact Jw l i' j' a b hi.2 hj.2
theorem kv{a b:Int}(h:a=b):AV.p (i64 a)=AV.p (i64 b):=by rw[h]
theorem GO(k:Nat):((k:Int)-1).tdiv 2=(((k-1) / 2:Nat):Int):=by
 cases k with
 | zero=>rfl
 | succ k=>
  rw[show ((k+1:Nat):Int)-1=(k:Int) by omega,Nat.add_sub_cancel];rfl
theorem cy(l:List Wt)(i j:Nat)(a b:Wt):(cO l i j a b).length=l.length:=by simp[cO]
theorem A8:∀(n:Nat) (l:List Wt) (j:Nat),(uw n l j).length=l.length
 | 0,l,j=>rfl
 | n+1,l,j=>by
  unfold uw;split
  ·split
   ·rfl
   split
   ·rw[A8 n,cy]
   rfl
  rfl
theorem EU(n:Nat):∀(l:List Wt) (j:Nat),j<n->uw n l j=uw (j+1) l j:=by
 induction n using Nat.strongRecOn with
 | _ n ih=>
  intro l j hj;cases n with
  | zero=>omega
  | succ n=>
   unfold uw;split
   ·split
    ·rfl
    split
    ·rw[ih n (by omega) _ _ (by omega)];by_cases e:j<n+1/\j≠0
     ·rw[ih j (by omega) _ _ (by omega)]
     omega
    rfl
   rfl
theorem O_(c0:Array Value)(ty:TypeId)(l:List Wt)(j:Nat)(hj:j<l.length)(hN:l.length<=1000000):cR C 38 [.ifp 66 (.ow 100000),.p (i64 j)] [(100000,.cell c0 ty (.ow 90001)),(90001,.row 68 (l.map wt))] (.tu []) [(100000,.cell c0 ty (.ow 90001)),(90001,.row 68 ((uw (j+1) l j).map wt))]:=by
 refine Jr ⟨[],[],[],[],[],[]⟩ hC Tryz.func38 rfl (by kernel_rfl) fun _=>?_;refine d_ (fun p:Nat×List Wt=>p.1<p.2.length/\p.2.length=l.length/\uw (p.1+1) p.2 p.1=uw (j+1) l j) (fun p=>[(0,.ifp 66 (.ow 100000)),(1,.p (i64 p.1))]) (fun p=>[(100000,.cell c0 ty (.ow 90001)),(90001,.row 68 (p.2.map wt))]) (fun p=>p.1) (j,l) _ (aY.refl _ _) ⟨hj,rfl,rfl⟩ ⟨Z,Z,Y⟩ ⟨Z,Z,Y⟩ fun ⟨k,m⟩ hk t h=>?_;simp only at hk;obtain⟨k1,k2,k3⟩:=hk;have e:=GO k;have hh:(k-1) / 2<=k:=by omega
 obtain⟨a,ha⟩:=a8 k1;obtain⟨b,hb⟩:=a8 (l:=m) (i:=(k-1) / 2) (by omega);have Kx:uw (k+1) m k=if (k-1) / 2=k then m else if qt a b then uw k (cO m ((k-1) / 2) k b a) ((k-1) / 2) else m:=by
  rw[uw,ha,hb]
 rw[Kx]at k3;have Qm:0<=(k:Int)/\m[(k:Int).toNat]?=some a:=⟨by omega,by rw[wh];exact ha⟩;have Jk:0<=((k:Int)-1).tdiv 2/\m[(((k:Int)-1).tdiv 2).toNat]?=some b:=by rw[e];exact⟨by omega,by rw[wh];exact hb⟩
 refine⟨wO (by omega),by decide,by rw[e];exact⟨by omega,by omega⟩,iW ?_ ?_⟩<;>intro h1<;>try simp only[zB]at h1
 ·rw[e]at h1;rw[ae (by omega)]at k3;exact⟨rfl,rfl,qU (fun z:List Wt=>AB.row 68 (z.map wt)) k3,trivial⟩
 rw[e]at h1;rw[af (by omega)]at k3;refine⟨_,_,oL,[(90001,100001)],_,_,_,_,oN m _ _ a b Qm Jk,⟨Z,Z,Z,Y⟩,iW ?_ ?_⟩<;>intro h2<;>try simp only[zB]at h2
 ·rw[af (by rw[h2];decide)]at k3;exact⟨rfl,rfl,qU (fun z:List Wt=>AB.row 68 (z.map wt)) k3,trivial⟩
 rw[ae h2]at k3;refine⟨_,_,oM,[(90001,100001)],_,_,_,_,oO m _ _ b a Jk Qm,⟨Z,Z,Z,Y⟩,((k-1) / 2,cO m ((k-1) / 2) k b a),_,aY.refl _ _,⟨by simp only[cy];omega,by rw[cy];exact k2,?_⟩,by simp only;omega,⟨rfl,kv e,trivial⟩,⟨rfl,?_,trivial⟩⟩
 ·simp only;rw[<-k3];exact (EU k _ _ (by omega)).symm
 show AB.row _ ((cO m (((k:Int)-1).tdiv 2).toNat (k:Int).toNat b a).map wt)=_;rw[e,wh,wh]
def EV(l:List Wt)(a b:Nat):Bool:=match l[a]?,l[b]? with
 | some x,some y=>qt x y
 | _,_=>false
def gg(l:List Wt)(i n:Nat):Nat:=if 2*i+2<n/\EV l (2*i+2) (2*i+1)=true then 2*i+2 else 2*i+1
def c9:Nat->List Wt->Nat->Nat->List Wt
 | 0,l,_,_=>l
 | f+1,l,i,n=>if n<=2*i+1 then l else match l[gg l i n]?,l[i]? with
  | some a,some b=>if qt a b then c9 f (cO l i (gg l i n) b a) (gg l i n) n else l
  | _,_=>l
theorem xS(l:List Wt)(i n:Nat):i<gg l i n:=by unfold gg;split<;>omega
theorem jJ:∀(f:Nat) (l:List Wt) (i n:Nat),(c9 f l i n).length=l.length
 | 0,l,i,n=>rfl
 | f+1,l,i,n=>by
  unfold c9;split
  ·rfl
  split
  ·split
   ·rw[jJ f,cy]
   rfl
  rfl
theorem ny(k:Nat):∀(f:Nat) (l:List Wt) (i n:Nat),n-i<=f->f<=k->c9 f l i n=c9 (n-i) l i n:=by
 induction k with
 | zero=>
  intro f l i n h1 h2;rw[show f=0 by omega,show n-i=0 by omega]
 | succ k ih=>
  intro f l i n h1 h2;cases f with
  | zero=>rw[show n-i=0 by omega]
  | succ f=>
   by_cases h0:n-i=0
   ·rw[h0];show c9 (f+1) l i n=l;rw[c9,ae (by omega)]
   obtain⟨g,hg⟩:∃g,n-i=g+1:=⟨n-i-1,by omega⟩;rw[hg];unfold c9;split
   ·rfl
   split
   ·split
    ·have:=xS l i n;rw[ih f _ _ _ (by omega) (by omega),ih g _ _ _ (by omega) (by omega)]
    rfl
   rfl
theorem Jy(c0:Array Value)(ty:TypeId)(l:List Wt)(n:Nat)(hn:n<=l.length)(hN:l.length<=1000000):cR C 65 [.ifp 66 (.ow 100000),.p (i64 0),.p (i64 n)] [(100000,.cell c0 ty (.ow 90001)),(90001,.row 68 (l.map wt))] .junk [(100000,.cell c0 ty (.ow 90001)),(90001,.row 68 ((c9 n l 0 n).map wt))]:=by
 refine Jr ⟨[],[],[],[],[],[]⟩ hC Tryz.func65 rfl (by kernel_rfl) fun _=>?_;refine d_ (fun p:Nat×List Wt=>(p.1<n\/p.1=0)/\p.2.length=l.length/\c9 (n-p.1) p.2 p.1 n=c9 n l 0 n) (fun p=>[(0,.ifp 66 (.ow 100000)),(1,.p (i64 0)),(2,.p (i64 n)),(7,.p (i64 p.1))]) (fun p=>[(100000,.cell c0 ty (.ow 90001)),(90001,.row 68 (p.2.map wt))]) (fun p=>n-p.1) (0,l) _ (aY.refl _ _) ⟨.inr rfl,rfl,rfl⟩ ⟨Z,Z,Z,Z,Y⟩ ⟨Z,Z,Y⟩ fun ⟨k,m⟩ hk t h=>?_;simp only at hk;obtain⟨k1,k2,k3⟩:=hk;have done:c9 (n-k) m k n=m->(AB.row 68 (m.map wt))=.row 68 ((c9 n l 0 n).map wt):=fun h=>by rw[<-k3,h]
 refine⟨⟨by dsimp only;omega,by dsimp only;omega⟩,⟨by dsimp only;omega,by dsimp only;omega⟩,iW ?_ ?_⟩<;>intro h1<;>try simp only[zB]at h1
 ·refine⟨trivial,rfl,done ?_,trivial⟩;cases hf:n-k with
  | zero=>rfl
  | succ f=>rw[c9,ae (by omega)]
 have wN:2*k+1<n:=by omega
 obtain⟨f,hf⟩:∃f,n-k=f+1:=⟨n-k-1,by omega⟩;obtain⟨b,hb⟩:=a8 (l:=m) (i:=k) (by omega);obtain⟨x,hx⟩:=a8 (l:=m) (i:=2*k+1) (by omega);have i1:(2*(k:Int)+1).toNat=2*k+1:=by omega
 have i2:(2*(k:Int)+1+1).toNat=2*k+2:=by omega
 have Ga:0<=(k:Int)/\m[(k:Int).toNat]?=some b:=⟨by omega,by rw[wh];exact hb⟩;have Mf:0<=2*(k:Int)+1/\m[(2*(k:Int)+1).toNat]?=some x:=⟨by omega,by rw[i1];exact hx⟩;rw[hf,c9,af (by omega)]at k3;have done:∀z:List Wt,z=c9 n l 0 n->(AB.row 68 (z.map wt))=.row 68 ((c9 n l 0 n).map wt):=fun z h=>by rw[h]
 refine⟨⟨by dsimp only;omega,by dsimp only;omega⟩,iW ?_ ?_⟩<;>intro h2<;>try simp only[zB]at h2
 ·obtain⟨y,hy⟩:=a8 (l:=m) (i:=2*k+2) (by omega);have Jz:0<=2*(k:Int)+1+1/\m[(2*(k:Int)+1+1).toNat]?=some y:=⟨by omega,by rw[i2];exact hy⟩;have dv:EV m (2*k+2) (2*k+1)=qt y x:=by rw[EV,hy,hx]
  refine⟨_,_,oL,[(90001,100001)],_,_,_,_,oN m _ _ y x Jz Mf,⟨Z,Z,Z,Y⟩,iW ?_ ?_⟩<;>intro h3<;>try simp only[zB]at h3
  ·have hp:gg m k n=2*k+2:=by rw[gg,ae ⟨by omega,by rw[dv];exact h3⟩]
   rw[hp,hy,hb]at k3;simp only at k3;refine⟨_,_,oL,[(90001,100001)],_,_,_,_,oN m _ _ y b Jz Ga,⟨Z,Z,Z,Y⟩,iW ?_ ?_⟩<;>intro h4<;>try simp only[zB]at h4
   ·rw[af (by rw[h4];decide)]at k3;exact⟨trivial,rfl,done _ k3,trivial⟩
   rw[ae h4]at k3;refine⟨_,_,oM,[(90001,100001)],_,_,_,_,oO m _ _ b y Ga Jz,⟨Z,Z,Z,Y⟩,(2*k+2,cO m k (2*k+2) b y),_,aY.refl _ _,⟨.inl (by omega),by rw[cy];exact k2,?_⟩,by dsimp only;omega,⟨rfl,rfl,rfl,kv (by dsimp only;omega),trivial⟩,⟨rfl,?_,trivial⟩⟩
   ·dsimp only;rw[<-k3,ny f f _ _ _ (by omega) (aC _)]
   show AB.row _ ((cO m (k:Int).toNat (2*(k:Int)+1+1:Int).toNat b y).map wt)=_;rw[i2,wh]
  have hp:gg m k n=2*k+1:=by rw[gg,af fun h=>by rw[dv,h3]at h;cases h.2]
  rw[hp,hx,hb]at k3;simp only at k3;refine⟨_,_,oL,[(90001,100001)],_,_,_,_,oN m _ _ x b Mf Ga,⟨Z,Z,Z,Y⟩,iW ?_ ?_⟩<;>intro h4<;>try simp only[zB]at h4
  ·rw[af (by rw[h4];decide)]at k3;exact⟨trivial,rfl,done _ k3,trivial⟩
  rw[ae h4]at k3;refine⟨_,_,oM,[(90001,100001)],_,_,_,_,oO m _ _ b x Ga Mf,⟨Z,Z,Z,Y⟩,(2*k+1,cO m k (2*k+1) b x),_,aY.refl _ _,⟨.inl (by omega),by rw[cy];exact k2,?_⟩,by dsimp only;omega,⟨rfl,rfl,rfl,kv (by dsimp only;omega),trivial⟩,⟨rfl,?_,trivial⟩⟩
  ·dsimp only;rw[<-k3,ny f f _ _ _ (by omega) (aC _)]
  show AB.row _ ((cO m (k:Int).toNat (2*(k:Int)+1:Int).toNat b x).map wt)=_;rw[i1,wh]
 have hp:gg m k n=2*k+1:=by rw[gg,af fun h=>by have:=h.1;omega]
 rw[hp,hx,hb]at k3;simp only at k3;refine⟨_,_,oL,[(90001,100001)],_,_,_,_,oN m _ _ x b Mf Ga,⟨Z,Z,Z,Y⟩,iW ?_ ?_⟩<;>intro h4<;>try simp only[zB]at h4
 ·rw[af (by rw[h4];decide)]at k3;exact⟨trivial,rfl,done _ k3,trivial⟩
 rw[ae h4]at k3;refine⟨_,_,oM,[(90001,100001)],_,_,_,_,oO m _ _ b x Ga Mf,⟨Z,Z,Z,Y⟩,(2*k+1,cO m k (2*k+1) b x),_,aY.refl _ _,⟨.inl (by omega),by rw[cy];exact k2,?_⟩,by dsimp only;omega,⟨rfl,rfl,rfl,kv (by dsimp only;omega),trivial⟩,⟨rfl,?_,trivial⟩⟩
 ·dsimp only;rw[<-k3,ny f f _ _ _ (by omega) (aC _)]
 show AB.row _ ((cO m (k:Int).toNat (2*(k:Int)+1:Int).toNat b x).map wt)=_;rw[i1,wh]
theorem Mg(c0:Array Value)(ty:TypeId)(l:List Wt)(j:Int)(k:Nat)(hk:j=k)(hj:k<l.length)(hN:l.length<=1000000):cR C 38 [.ifp 66 (.ow 100000),.p (i64 j)] [(100000,.cell c0 ty (.ow 90001)),(90001,.row 68 (l.map wt))] (.tu []) [(100000,.cell c0 ty (.ow 90001)),(90001,.row 68 ((uw (k+1) l k).map wt))]:=by
 subst hk;exact O_ c0 ty l k hj hN
theorem GP(c0:Array Value)(ty:TypeId)(l:List Wt)(j:Int)(n:Nat)(hj:j=n)(hn:n<=l.length)(hN:l.length<=1000000):cR C 65 [.ifp 66 (.ow 100000),.p (i64 0),.p (i64 j)] [(100000,.cell c0 ty (.ow 90001)),(90001,.row 68 (l.map wt))] .junk [(100000,.cell c0 ty (.ow 90001)),(90001,.row 68 ((c9 n l 0 n).map wt))]:=by
 subst hj;exact Jy c0 ty l n hn hN
def eH(l:List Wt)(x:Wt):List Wt:=uw (l.length+1) (l++[x]) l.length
theorem zR(c0:Array Value)(ty:TypeId)(l:List Wt)(x:Wt)(hN:l.length<1000000):cR C 17 [.ifp 66 (.ow 100000),.p (H7 x)] [(100000,.cell c0 ty (.ow 90001)),(90001,.row 68 (l.map wt))] (.tu []) [(100000,.cell c0 ty (.ow 90001)),(90001,.row 68 ((eH l x).map wt))]:=by
 have e:((l++[x]).length:Int)-1=(l.length:Int):=by simp
 refine Jr ⟨[],[],[],[],[],[]⟩ hC Tryz.func17 rfl (by kernel_rfl) fun _=>?_;exact⟨_,_,GL,[(100000,100000),(90001,90001)],_,_,_,_,Jx c0 ty l x (by omega),⟨Z,Z,Z,Z,Y⟩,_,_,EP,[(90001,100001)],_,_,_,_,H8 (l++[x]),⟨Z,Z,Z,Y⟩,by rw[e];exact⟨by omega,by omega⟩,[(100000,100000),(90001,90001)],_,_,_,_,Mg c0 ty (l++[x]) _ l.length e (by simp) (by simp;omega),⟨Z,Z,Z,Z,Y⟩,Z,Z,Z,Y⟩
theorem CD(c0:Array Value)(ty:TypeId)(l l':List Wt)(a b x:Wt)(ha:l[0]?=some a)(hb:l[l.length-1]?=some b)(hl:c9 (l.length-1) (cO l 0 (l.length-1) a b) 0 (l.length-1)=l'++[x])(hN:l.length<=1000000):cR C 40 [.ifp 66 (.ow 100000)] [(100000,.cell c0 ty (.ow 90001)),(90001,.row 68 (l.map wt))] (.p (H7 x)) [(100000,.cell c0 ty (.ow 90001)),(90001,.row 68 (l'.map wt))]:=by
 have l0:=ah ha;have e:(l.length:Int)-1=((l.length-1:Nat):Int):=by omega
 have e2:((l.length:Int)-1).toNat=l.length-1:=by omega
 have ll:=qU List.length hl;rw[jJ,cy,bZ,nJ]at ll;refine Jr ⟨[],[],[],[],[],[]⟩ hC Tryz.func40 rfl (by kernel_rfl) fun _=>?_;refine⟨_,_,EP,[(90001,100001)],_,_,_,_,H8 l,⟨Z,Z,Z,Y⟩,?_⟩;refine⟨wO (by omega),?_⟩;refine⟨_,_,oM,[(90001,100001)],_,_,_,_,oO l 0 _ a b ⟨by omega,ha⟩ ⟨by omega,by rw[e2];exact hb⟩,⟨Z,Z,Z,Y⟩,?_⟩;refine⟨[(100000,100000),(90001,90001)],_,_,_,_,GP c0 ty _ _ (l.length-1) e (by rw[cy];omega) (by rw[cy];exact hN),⟨Z,Z,Z,Z,Y⟩,?_⟩;refine⟨_,_,Jt,[(100000,100000),(90001,90001)],_,_,_,_,(show cR _ _ _ [_,(90001,.row 68 ((c9 (l.length-1) (cO l (0:Int).toNat ((l.length:Int)-1).toNat a b) 0 (l.length-1)).map wt))] _ _ by rw[e2];exact hl▸Me c0 ty l' x (by omega)),⟨Z,Z,Z,Z,Y⟩,?_⟩;exact⟨Z,Z,Z,Y⟩
end M
end Go.Proofs.YtedjhhieekileaaGreatDoor
namespace Go.AM
open Go.RowKit
theorem cR.SB{C:Ctx}{f:FuncId}{args:List AV}{bX fin:List (Nat×AB)}(h:cR C f args bX (.tu []) fin):cR C f args bX (.p (.im (.tuple #[]))) fin:=
 ⟨h.1,fun S w vs rho hE hS hl hn ha=>(h.2 S w vs rho hE hS hl hn ha).mono fun e' w' ⟨v,S',rho',h1,h2,h3,h4,h5,h6,h7,h8,h9⟩=>⟨v,S',rho',h1,h2,h3,h4,h5,h6,h7,by
  cases h8 with
  | tu _ us hl hc=>
   have:us=#[]:=fK hl.symm;subst this;exact .p _ _ (.im _),h9⟩⟩
end Go.AM
namespace Go.Proofs.YtedjhhieekileaaGreatDoor
namespace M
open Go.AM Go.RowKit
theorem wb(l:List Wt)(x:Wt)(hN:l.length<1000000):jm C 17 66 [H7 x] 68 (l.map wt) (.im (.tuple #[])) ((eH l x).map wt):=
 jm.of fun c0 ty=>(zR c0 ty l x hN).SB
theorem Mh(l l':List Wt)(a b x:Wt)(ha:l[0]?=some a)(hb:l[l.length-1]?=some b)(hl:c9 (l.length-1) (cO l 0 (l.length-1) a b) 0 (l.length-1)=l'++[x])(hN:l.length<=1000000):jm C 40 66 [] 68 (l.map wt) (H7 x) (l'.map wt):=
 jm.of fun c0 ty=>CD c0 ty l l' a b x ha hb hl hN
end M
end Go.Proofs.YtedjhhieekileaaGreatDoor
namespace Go.AM
open Go.RowKit
theorem aY.KA{A:jR}(s:AS)(id:Nat)(b:AB)(h:s.h id=b):aY A s ⟨s.t,ax s.h id b⟩:=by
 rw[eX _ _ _ h];exact aY.refl _ _
end Go.AM
namespace Go.Proofs.YtedjhhieekileaaGreatDoor
namespace M
open Go.AM Go.RowKit
structure gI where
 name:ByteArray
 minutes:Int
 machines:Int
 back:Int
structure Lt where
 name:ByteArray
 panels:Int
 at_:Int
structure Fl where
 lot:ByteArray
 panel:Int
 step:Int
 visit:Int
structure Made where
 lot:ByteArray
 panel:Int
 done:Bool
 at_:Int
 rework:Int
structure lH where
 step:Nat
 machine:Nat
 from_:Int
 visits:List Int
 made:Made
structure a_ where
 jobs:List lH
 queues:List (List Wt)
 ends:List Wt
 busy:List (List Bool)
 now:Int
 done:List dQ
structure Stat where
 steps:List gI
 lots:List Lt
 bad:List Fl
 gs:List (List Nat)
def gq(s:gI):List PV:=[str s.name,i64 s.minutes,i64 s.machines,i64 s.back]
def jK(l:Lt):List PV:=[str l.name,i64 l.panels,i64 l.at_]
def FG(f:Fl):Value:=.agg #[.string f.lot,.int .i64 f.panel,.int .i64 f.step,.int .i64 f.visit]
def mc(m:Made):List PV:=[str m.lot,i64 m.panel,bool m.done,i64 m.at_,i64 m.rework]
def mL(l:List Fl):List (Value×Value):=l.map fun f=>(FG f,.bool true)
def pL(j:lH):List HC:=[.p (i64 j.step),.p (i64 j.machine),.p (i64 j.from_),.row 3 (j.visits.map fun n=>[i64 n]),.p (str j.made.lot),.p (i64 j.made.panel),.p (bool j.made.done),.p (i64 j.made.at_),.p (i64 j.made.rework)]
def ptr(g:Nat):PV:=.im (.pointer (some ⟨g,0,none⟩))
def CE(r:List Nat):PV:=.sl (r.map fun g=>[ptr g])
def Mi(gs:List (List Nat)):PV:=.sl (gs.map fun r=>[CE r])
def nz(gs:List Nat)(jobs:List lH):List (Nat×List HC):=List.zipWith (fun g j=>(g,pL j)) gs jobs
def qC(q:List Wt):List HX:=[.row 68 (q.map wt)]
def bC(b:List Bool):List HX:=[.row 4 (b.map fun x=>[bool x])]
def H9(st:Stat)(x:a_):List AV:=[.p (.sl (st.steps.map gq)),.p (.sl (st.lots.map jK)),.p (.mp (.st [0,1,1,1]) (mL st.bad)),.p (Mi st.gs),.ow 90001,.ow 90002,.ow 90003,.p (i64 x.now),.ow 90004]
def kK(st:Stat)(x:a_):List (Nat×AB):=[(100000,.box (H9 st x)),(90001,.ai 53 (x.queues.map qC)),(90002,.row 68 (x.ends.map wt)),(90003,.ai 59 (x.busy.map bC)),(90004,.row 34 (x.done.map dc)),(90010,.fam (nz st.gs.flatten x.jobs) [])]
def pos(gs:List (List Nat))(i k:Nat):Nat:=((gs.take i).map List.length).sum+k
theorem gr:∀(gs:List (List Nat)) (i k:Nat) (r:List Nat) (g:Nat),gs[i]?=some r->r[k]?=some g->gs.flatten[pos gs i k]?=some g
 | [],i,k,r,g,h,_=>by simp at h
 | a::gs,0,k,r,g,h,hk=>by
  simp at h;subst h;simp only[pos,mC,Bw,List.sum_nil,cV,SX];rw[bQ (ah hk)];exact hk
 | a::gs,i+1,k,r,g,h,hk=>by
  have:=gr gs i k r g (by simpa using h) hk;simp only[pos,Uz,qO,S7,SX]at this ⊢;rw[bY (by omega),show a.length+((gs.take i).map List.length).sum+k-a.length=((gs.take i).map List.length).sum+k by omega];exact this
theorem zS{gs:List Nat}{jobs:List lH}{m g:Nat}{j:lH}(hg:gs[m]?=some g)(hj:jobs[m]?=some j):(nz gs jobs)[m]?=some (g,pL j):=by
 rw[nz,n5,hg,hj]
theorem kx{gs:List Nat}{jobs:List lH}{m g:Nat}{j:lH}(hg:gs[m]?=some g):(nz gs jobs).set m (g,pL j)=nz gs (jobs.set m j):=by
 apply fj;intro i;rw[nz,nz,n5];by_cases e:i=m
 ·subst e;by_cases hl:i<jobs.length
  ·rw[aP (by rw[er];have:=ah hg;omega),hg,aP hl]
  rw[dI (by rw[aF,er];omega),hg,dI (by rw[aF];omega)]
 rw[bw (fun h=>e h.symm),bw (fun h=>e h.symm),n5]
theorem ff{α:Type}{l:List α}{i:Nat}{x:α}(f:α->List HX)(h:l[i]?=some x):(l.map f)[i]?=some (f x):=by rw[ao,h];rfl
theorem ru(l:List (List Wt)):ri (l.map qC):=fun r hr x hx=>by
 obtain⟨q,_,rfl⟩:=aV.1 hr;simp[qC]at hx;subst hx;trivial
theorem A9(l:List (List Bool)):ri (l.map bC):=fun r hr x hx=>by
 obtain⟨q,_,rfl⟩:=aV.1 hr;simp[bC]at hx;subst hx;trivial
theorem cP(d:Nat)(l:List (List Wt)):(l.map qC).map (fun r=>r.map (HX.Te (sc d)))=l.map qC:=by
 rw[ig];rfl
theorem cJ(i d:Nat)(l:List (List Wt)):(l.map qC).map (fun r=>r.map (HX.Te (rn i d)))=l.map qC:=by
 rw[ig];rfl
theorem lI(σ:Nat->Option Nat)(l:List (List Wt)):(l.map qC).map (fun r=>r.map (HX.Te (AV.ez σ)))=l.map qC:=by
 rw[ig];rfl
theorem dF(d:Nat)(l:List (List Bool)):(l.map bC).map (fun r=>r.map (HX.Te (sc d)))=l.map bC:=by
 rw[ig];rfl
theorem dG(i d:Nat)(l:List (List Bool)):(l.map bC).map (fun r=>r.map (HX.Te (rn i d)))=l.map bC:=by
 rw[ig];rfl
theorem lJ(σ:Nat->Option Nat)(l:List (List Bool)):(l.map bC).map (fun r=>r.map (HX.Te (AV.ez σ)))=l.map bC:=by
 rw[ig];rfl
theorem EW(a b:Fl):yx (FG a) (FG b)=decide (a.lot=b.lot/\a.panel=b.panel/\a.step=b.step/\a.visit=b.visit):=by
 simp[yx,FG,Ux,yw]
theorem jq(l:List (List Wt))(n:Nat)(q:List Wt):(l.map qC).set n [HX.row 68 (q.map wt)]=(l.set n q).map qC:=by rw[rA];rfl
theorem zT(l:List (List Bool))(n:Nat)(q:List Bool):(l.map bC).set n [HX.row 4 (q.map fun x=>[bool x])]=(l.set n q).map bC:=by rw[rA];rfl
theorem jL(l:List Wt):Dc (l.map wt):=fun row hr z hz=>by
 obtain⟨w,_,rfl⟩:=aV.1 hr;simp[wt]at hz;rcases hz with h | h | h<;>rw[h]<;>rfl
theorem A_{r:List PV}{n:Nat}(h:r.length=n):∀q∈[r],q.length=n:=fun q hq=>by rw[n9.1 hq];exact h
def S9(x:a_)(k:Nat)(j:lH)(name:ByteArray)(bad:Bool):dQ:=⟨name,k,j.step,j.machine,j.from_,x.now,!bad⟩
def kQ(j:lH)(v:Int):lH:={ j with visits:=j.visits.set j.step (v+1) }
def qu(x:a_)(m:Nat)(j:lH)(bs:List (List Bool))(d:dQ):a_:={ x with jobs:=x.jobs.set m j,busy:=bs,done:=x.done++[d] }
def bF(x:a_)(n:Nat):List Wt:=(x.queues[n]?).getD []
def mM(st:Stat)(x:a_)(w:Wt)(k m:Nat)(j:lH)(s:gI)(b:List Bool)(v:Int)(name:ByteArray)(bad:Bool):a_:=
 let bs:=x.busy.set j.step (b.set j.machine false);let d:=S9 x k j name bad
 if bad=true/\0<=s.back/\j.made.rework<5 then
  {qu x m { kQ j v with step:=s.back.toNat,made:={ j.made with rework:=j.made.rework+1 } } bs d with queues:=x.queues.set s.back.toNat (eH (bF x s.back.toNat) w) }
 else if bad=true\/j.step+1=st.steps.length then qu x m { kQ j v with made:={ j.made with done:=!bad,at_:=x.now } } bs d
 else { qu x m { kQ j v with step:=j.step+1 } bs d with queues:=x.queues.set (j.step+1) (eH (bF x (j.step+1)) w) }
theorem EX(st:Stat)(x:a_)(at_:Int)(i k:Nat)(r:List Nat)(g:Nat)(j:lH)(s:gI)(b:List Bool)(lt:Lt)(v:Int)(hi:st.gs[i]?=some r)(hk:r[k]?=some g)(hj:x.jobs[pos st.gs i k]?=some j)(hs:st.steps[j.step]?=some s)(hb:x.busy[j.step]?=some b)(hm:j.machine<b.length)(hl:st.lots[i]?=some lt)(hv:j.visits[j.step]?=some v)(bad:Bool)(GM:pc ((mL st.bad).map Bz) (FG ⟨lt.name,k,j.step,v+1⟩)=match bad with | true=>some (.im (.bool true)) | false=>none)(hN:v+1<=1000000000/\0<=v)(hD:x.done.length<10000000)(hq:x.queues.length=st.steps.length)(H_:s.back<=j.step)(hr:0<=j.made.rework/\j.made.rework<=5)(hQ:∀q∈x.queues,q.length<1000000)(hS:st.steps.length<=1000):
  cR C 39 [.bx 100000 0,.p (.ag (wt (at_,i,k)))] (kK st x) (.tu []) (kK st (mM st x (at_,i,k) k (pos st.gs i k) j s b v lt.name bad)):=by
 have hg:=gr st.gs i k r g hi hk;have hf:=zS hg hj;have ls:=ah hs;refine Kz ⟨[2,3,4],[],[(7,[1100000,1000003,1090012])],[7,15],[],[]⟩ hC Tryz.func39 rfl (by kernel_rfl) fun _=>?_;refine⟨[CE r],(idx rfl hi),[ptr g],(idx rfl hk),?_⟩;refine lG ((aY.zJ (by exact hC) _ 90010 90012 4 (pos st.gs i k) (by decide) (by decide) (by exact rfl) hf (by exact rfl)).trans (aY.open (by exact hC) _ 90012 [90014] (by exact rfl) (by exact rfl) (by exact rfl) (by exact rfl))) ?_;refine⟨(gq s),(idx rfl hs),?_⟩;refine lG (aY.mi (by exact hC) _ 90003 j.step 0 90013 (e:=59) (by decide) (by decide) (by exact qU (AB.ai _) (by simp only[dF,dG])) (A9 _) (ff bC hb) (by exact rfl)) ?_;obtain⟨b0,F1⟩:=a8 hm;refine⟨⟨by omega,by simp only[aF,Al,wh];exact ah hb⟩,[HX.av (.ow 90013)],(by rw[wh,aP (by rw[Al];exact ah hb)];rfl),?_⟩;refine⟨⟨by omega,by rw[wh,Al];exact hm⟩,[bool b0],(by rw[wh,ao,F1];rfl),?_⟩;have Pa:((x.busy.map bC).set j.step [HX.av (.ow 90013)]).set j.step [HX.row 4 ((b.map fun x=>[bool x]).set (j.machine:Int).toNat [bool false])]=(x.busy.set j.step (b.set j.machine false)).map bC:=by
  rw[Ti,wh,<-rA (f:=fun x=>[bool x]),zT]
 refine lG ((aY.jg (by exact hC) _ 90003 j.step 0 90013 (e:=59) (es:=(x.busy.map bC).set j.step [.av (.ow 90013)]) (e':=4) (xs:=(b.map fun x=>[bool x]).set (j.machine:Int).toNat [bool false]) (by decide) (by exact rfl) (by exact rfl) (by exact aP (by rw[Al];exact ah hb)) (by exact rfl)).trans (aY.KA _ 90003 (.ai 59 ((x.busy.set j.step (b.set j.machine false)).map bC)) (by exact qU (AB.ai _) Pa))) ?_;have vl:j.step<(j.visits.map fun n=>[i64 n]).length:=by rw[Al];exact ah hv
 refine⟨⟨by omega,by rw[wh];exact vl⟩,[i64 v],(by rw[wh,ao,hv];rfl),?_⟩;refine⟨wO (by omega),⟨by omega,by rw[wh];exact vl⟩,[i64 v],(by rw[wh,ao,hv];rfl),?_⟩;refine⟨(jK lt),(idx rfl hl),⟨by omega,by rw[wh,aF];exact vl⟩,[i64 (v+1)],(by rw[wh,aP vl];rfl),?_⟩;have EY:∀j':lH,j'.visits=(kQ j v).visits->AB.row 3 ((j.visits.map fun n=>[i64 n]).set (j.step:Int).toNat [i64 (v+1)])=.row 3 (j'.visits.map fun n=>[i64 n]):=fun j' h=>by rw[h,kQ,wh,rA]
 have EZ:∀d:dQ,x.done.map dc++[dc d]=(x.done++[d]).map dc:=fun d=>by rw[aa];rfl
 cases bad with
 | true=>
  refine⟨(some (bool true)),GM,⟨A_ (r:=dc (S9 x k j lt.name true)) rfl,(show ((x.done.map dc).length+1)*64<=140737488355328 by rw[Al];omega),(show (x.done.map dc).length+1<=140737488355328 by rw[Al];omega)⟩,iW ?_ ?_⟩<;>intro h1<;>try simp only[zB]at h1
  ·apply iW<;>intro h2<;>try simp only[zB]at h2
   ·obtain⟨q,yp⟩:=a8 (l:=x.queues) (i:=s.back.toNat) (by omega);have cG:mM st x (at_,i,k) k (pos st.gs i k) j s b v lt.name true={ qu x (pos st.gs i k) { kQ j v with step:=s.back.toNat,made:={ j.made with rework:=j.made.rework+1 } } (x.busy.set j.step (b.set j.machine false)) (S9 x k j lt.name true) with queues:=x.queues.set s.back.toNat (eH q (at_,i,k)) }:=by
     rw[mM,ae ⟨rfl,by omega,by omega⟩,bF,yp];rfl
    rw[cG];refine⟨wO (by omega),⟨by omega,by simp only[cP,cJ];rw[Al];omega⟩,(qC q),(by simp only[cP,cJ];exact ff qC yp),_,_,wb q (at_,i,k) (hQ q (aj yp)),rfl,jL _,_,((aY.pack (by exact hC) _ 90012 (cs:=pL ({ kQ j v with step:=s.back.toNat,made:={ j.made with rework:=j.made.rework+1 } })) (by exact rfl) (by exact rfl) (by exact⟨(by show i64 s.back=i64 ((s.back.toNat:Nat):Int);rw[Int.toNat_of_nonneg (by omega)]),rfl,rfl,EY _ rfl,Z,Z,Z,Z,Z,Y⟩)).trans (aY.sr (by exact hC) _ 90010 90012 (pos st.gs i k) (by exact rfl) (by exact rfl) hf)).trans (aY.ez _ 117 90004 (by decide) (by decide)),rfl,rfl,?_,rfl,?_,?_,?_,trivial⟩
    ·refine qU (AB.ai _) ?_;simp only[cP,cJ];exact (qU (List.map _) (jq _ _ _)).trans (cJ _ _ _)
    ·exact qU (AB.ai _) (by simp only[dF,dG];rfl)
    ·show AB.row _ (x.done.map dc++[dc (S9 x k j lt.name true)])=AB.row _ ((x.done++[S9 x k j lt.name true]).map dc);rw[EZ]
    exact qU (fun l=>AB.fam l []) (kx hg)
   have cG:mM st x (at_,i,k) k (pos st.gs i k) j s b v lt.name true=qu x (pos st.gs i k) { kQ j v with made:={ j.made with done:=false,at_:=x.now } } (x.busy.set j.step (b.set j.machine false)) (S9 x k j lt.name true):=by
    rw[mM,af (fun h=>h2 (by have:=h.2.2;omega)),ae (.inl rfl)];rfl
   rw[cG];refine⟨_,((aY.pack (by exact hC) _ 90012 (cs:=pL ({ kQ j v with made:={ j.made with done:=false,at_:=x.now } })) (by exact rfl) (by exact rfl) (by exact⟨rfl,rfl,rfl,EY _ rfl,Z,Z,Z,Z,Z,Y⟩)).trans (aY.sr (by exact hC) _ 90010 90012 (pos st.gs i k) (by exact rfl) (by exact rfl) hf)).trans (aY.ez _ 117 90004 (by decide) (by decide)),rfl,rfl,?_,rfl,?_,?_,?_,trivial⟩
   ·exact qU (AB.ai _) (by simp only[cP,cJ];rfl)
   ·exact qU (AB.ai _) (by simp only[dF,dG];rfl)
   ·show AB.row _ (x.done.map dc++[dc (S9 x k j lt.name true)])=AB.row _ ((x.done++[S9 x k j lt.name true]).map dc);rw[EZ]
   exact qU (fun l=>AB.fam l []) (kx hg)
  have cG:mM st x (at_,i,k) k (pos st.gs i k) j s b v lt.name true=qu x (pos st.gs i k) { kQ j v with made:={ j.made with done:=false,at_:=x.now } } (x.busy.set j.step (b.set j.machine false)) (S9 x k j lt.name true):=by
   rw[mM,af (fun h=>h1 (by have:=h.2.1;omega)),ae (.inl rfl)];rfl
  rw[cG];refine⟨_,((aY.pack (by exact hC) _ 90012 (cs:=pL ({ kQ j v with made:={ j.made with done:=false,at_:=x.now } })) (by exact rfl) (by exact rfl) (by exact⟨rfl,rfl,rfl,EY _ rfl,Z,Z,Z,Z,Z,Y⟩)).trans (aY.sr (by exact hC) _ 90010 90012 (pos st.gs i k) (by exact rfl) (by exact rfl) hf)).trans (aY.ez _ 117 90004 (by decide) (by decide)),rfl,rfl,?_,rfl,?_,?_,?_,trivial⟩
  ·exact qU (AB.ai _) (by simp only[cP,cJ];rfl)
  ·exact qU (AB.ai _) (by simp only[dF,dG];rfl)
  ·show AB.row _ (x.done.map dc++[dc (S9 x k j lt.name true)])=AB.row _ ((x.done++[S9 x k j lt.name true]).map dc);rw[EZ]
  exact qU (fun l=>AB.fam l []) (kx hg)
 | false=>
  refine⟨none,GM,⟨A_ (r:=dc (S9 x k j lt.name false)) rfl,(show ((x.done.map dc).length+1)*64<=140737488355328 by rw[Al];omega),(show (x.done.map dc).length+1<=140737488355328 by rw[Al];omega)⟩,wO (by omega),iW ?_ ?_⟩<;>intro h1<;>try simp only[zB]at h1
  ·rw[Al]at h1;have cG:mM st x (at_,i,k) k (pos st.gs i k) j s b v lt.name false=qu x (pos st.gs i k) { kQ j v with made:={ j.made with done:=true,at_:=x.now } } (x.busy.set j.step (b.set j.machine false)) (S9 x k j lt.name false):=by
    rw[mM,af (fun h=>by cases h.1),ae (.inr (by omega))];rfl
   rw[cG];refine⟨_,((aY.pack (by exact hC) _ 90012 (cs:=pL ({ kQ j v with made:={ j.made with done:=true,at_:=x.now } })) (by exact rfl) (by exact rfl) (by exact⟨rfl,rfl,rfl,EY _ rfl,Z,Z,Z,Z,Z,Y⟩)).trans (aY.sr (by exact hC) _ 90010 90012 (pos st.gs i k) (by exact rfl) (by exact rfl) hf)).trans (aY.ez _ 117 90004 (by decide) (by decide)),rfl,rfl,?_,rfl,?_,?_,?_,trivial⟩
   ·exact qU (AB.ai _) (by simp only[cP,cJ];rfl)
   ·exact qU (AB.ai _) (by simp only[dF,dG];rfl)
   ·show AB.row _ (x.done.map dc++[dc (S9 x k j lt.name false)])=AB.row _ ((x.done++[S9 x k j lt.name false]).map dc);rw[EZ]
   exact qU (fun l=>AB.fam l []) (kx hg)
  rw[Al]at h1;obtain⟨q,yp⟩:=a8 (l:=x.queues) (i:=j.step+1) (by omega);have cG:mM st x (at_,i,k) k (pos st.gs i k) j s b v lt.name false={ qu x (pos st.gs i k) { kQ j v with step:=j.step+1 } (x.busy.set j.step (b.set j.machine false)) (S9 x k j lt.name false) with queues:=x.queues.set (j.step+1) (eH q (at_,i,k)) }:=by
   rw[mM,af (fun h=>by cases h.1),af (fun h=>h.elim (fun h=>by cases h) (fun h=>h1 (by omega))),bF,yp];rfl
  rw[cG];refine⟨wO (by omega),⟨by omega,by simp only[cP,cJ];rw[Al];omega⟩,(qC q),(by simp only[cP,cJ];exact ff qC yp),_,_,wb q (at_,i,k) (hQ q (aj yp)),rfl,jL _,_,((aY.pack (by exact hC) _ 90012 (cs:=pL ({ kQ j v with step:=j.step+1 })) (by exact rfl) (by exact rfl) (by exact⟨rfl,rfl,rfl,EY _ rfl,Z,Z,Z,Z,Z,Y⟩)).trans (aY.sr (by exact hC) _ 90010 90012 (pos st.gs i k) (by exact rfl) (by exact rfl) hf)).trans (aY.ez _ 117 90004 (by decide) (by decide)),rfl,rfl,?_,rfl,?_,?_,?_,trivial⟩
  ·refine qU (AB.ai _) ?_;simp only[cP,cJ];exact (qU (List.map _) (jq _ _ _)).trans (cJ _ _ _)
  ·exact qU (AB.ai _) (by simp only[dF,dG];rfl)
  ·show AB.row _ (x.done.map dc++[dc (S9 x k j lt.name false)])=AB.row _ ((x.done++[S9 x k j lt.name false]).map dc);rw[EZ]
  exact qU (fun l=>AB.fam l []) (kx hg)
end M
end Go.Proofs.YtedjhhieekileaaGreatDoor
