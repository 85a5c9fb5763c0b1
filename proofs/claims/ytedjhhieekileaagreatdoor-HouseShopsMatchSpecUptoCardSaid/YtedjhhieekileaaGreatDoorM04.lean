/- Part 4 of the proof of HouseShopsMatchSpec. -/
import Derived.Test.YtedjhhieekileaaGreatDoorM03
import Derived.Shelf.Strings.Trim
import Derived.Shelf.Small.Utf8
import Derived.Shelf.Small.Bits
import Derived.Shelf.Small.Strs
import Derived.Shelf.Strconv.Atoi
import Derived.Shelf.Strconv.Itoa0
import Derived.Shelf.Strconv.Itoa1
import Derived.Shelf.LaysM
import Derived.Shelf.Strconv.Itoa2
import Derived.Shelf.Strconv.Itoa3
import Derived.Shelf.Strings.Search1
import Derived.Shelf.Strings.Search2
import Derived.Shelf.Strings.Search3
import Derived.Shelf.Strings.Count
import Derived.Shelf.Strings.Shaped
import Derived.Shelf.Strings.Prefix
import Derived.Shelf.Strings.Split
import Derived.Shelf.Strings.SplitShaped
import Derived.Shelf.Strings.Runes
import Derived.Shelf.Strings.AsciiSet
import Derived.Shelf.Unicode.DecodeSlow
import Derived.Shelf.SlSortCmp.WholeK
import Derived.Shelf.SlGeneric
import Derived.Ground.SlsfProg
import Derived.Shelf.Strings.SlTrimAscii
import Derived.Test.YtedjhhieekileaaGreatDoorProg
import Derived.Lib.LaidTab
import Derived.Lib.ItoaNum
set_option linter.unusedVariables false
set_option linter.unusedSimpArgs false
set_option maxRecDepth 100000
set_option maxHeartbeats 8000000
namespace Go
abbrev km:=@Go.Proofs.Tryz.underlying3
abbrev ko:=@Go.Proofs.Tryz.isAgg3
abbrev kp:=@Go.Proofs.Tryz.sizeOf3
abbrev oD:=@Go.Proofs.Tryz.zeroValue3
abbrev oE:=@Go.Proofs.Tryz.underlying9
abbrev oF:=@Go.Proofs.Tryz.isAgg9
abbrev oG:=@Go.Proofs.Tryz.sizeOf9
abbrev iq:=@Go.Proofs.Tryz.zeroValue9
abbrev kq:=@Go.Proofs.Tryz.underlying5
abbrev kr:=@Go.Proofs.Tryz.isAgg5
abbrev ku:=@Go.Proofs.Tryz.sizeOf5
abbrev mo:=@Go.Proofs.Tryz.zeroValue5
abbrev mq:=@Go.Proofs.Tryz.underlying0
abbrev mr:=@Go.Proofs.Tryz.isAgg0
abbrev mw:=@Go.Proofs.Tryz.sizeOf0
abbrev oH:=@Go.Proofs.Tryz.zeroValue0
abbrev oI:=@Go.Proofs.Tryz.underlying4
abbrev oJ:=@Go.Proofs.Tryz.isAgg4
abbrev oK:=@Go.Proofs.Tryz.sizeOf4
abbrev rl:=@Go.Proofs.Tryz.zeroValue4
abbrev vZ:=@Go.Proofs.Tryz.underlying104
abbrev aO:=@Go.Proofs.Tryz.isAgg104
abbrev gH:=@Go.Proofs.Tryz.sizeOf104
abbrev v7:=@Go.Proofs.Tryz.zeroValue104
abbrev cn:=@Go.Proofs.Tryz.underlying133
abbrev rm:=@Go.Proofs.Tryz.isAgg133
abbrev v8:=@Go.Proofs.Tryz.sizeOf133
abbrev rq:=@Go.Proofs.Tryz.zeroValue133
abbrev my:=@Go.Proofs.Tryz.underlying135
abbrev v_:=@Go.Proofs.Tryz.underlying199
abbrev c8:=@Int.toNat_natCast
abbrev fU:=@Bool.and_eq_false_iff
abbrev wg:=@decide_eq_false_iff_not
abbrev wh:=@List.filter_append
abbrev wi:=@List.pairwise_cons
abbrev ry:=@List.filter_cons_of_pos
abbrev wj:=@List.filter_cons_of_neg
abbrev wk:=@List.takeWhile_append_dropWhile
abbrev wy:=@List.pairwise_iff_getElem
abbrev wz:=@List.drop_eq_getElem_cons
abbrev oW:=@List.map_set
abbrev ji:=@Int.eq_ofNat_of_zero_le
abbrev oX:=@List.take_zero
abbrev rA:=@List.map_nil
abbrev Bv:=@List.sum_nil
abbrev mC:=@List.flatten_cons
abbrev Bw:=@List.take_succ_cons
abbrev SX:=@List.sum_cons
abbrev Uz:=@List.set_set
end Go
namespace Go.Proofs
open Go.Shelf
def Tryz.lays106_ren:Go.Shelf.Ren:=⟨fun | 106=>64 | 213=>87 | 265=>108 | n=>n,fun | 9=>9 | 3=>3 | n=>n,fun | n=>n⟩
theorem Tryz.lays106:Go.Proofs.Lays.n106 Tryz.prog Tryz.lays106_ren:={
 mixed:=by kernel_rfl
 f106:=Tryz.func64.trans (iX some (by kernel_rfl))
 f213:=Tryz.func87.trans (iX some (by kernel_rfl))
 f265:=Tryz.func108.trans (iX some (by kernel_rfl))
 t3:=km
 a3:=ko
 z3:=kp
 v3:=oD
 t9:=oE
 a9:=oF
 z9:=oG
 v9:=iq }
open Go.RowKit in
theorem Tryz.strings_Compare(a b:ByteArray)(w:World):
  Calls Tryz.prog 64 #[.string a,.string b] w fun e w'=>e=.returned (.int .i64 (Lib.compareBytes a.data.toList b.data.toList))/\w'=w:=Any.strings_Compare Tryz.lays106 a b w
def Tryz.lays137_ren:Go.Shelf.Ren:=⟨fun | 137=>52 | 217=>80 | 266=>93 | n=>n,fun | 9=>9 | 5=>5 | 3=>3 | n=>n,fun | n=>n⟩
theorem Tryz.lays137:Go.Proofs.Lays.n137 Tryz.prog Tryz.lays137_ren:={
 mixed:=by kernel_rfl
 f137:=Tryz.func52.trans (iX some (by kernel_rfl))
 f217:=Tryz.func80.trans (iX some (by kernel_rfl))
 f266:=Tryz.func93.trans (iX some (by kernel_rfl))
 t3:=km
 a3:=ko
 z3:=kp
 v3:=oD
 t5:=kq
 a5:=kr
 z5:=ku
 v5:=mo
 t9:=oE
 a9:=oF
 z9:=oG
 v9:=iq }
open Go.RowKit in
theorem Tryz.strings_IndexByte(s:ByteArray)(c:Int)(w:World):
  Calls Tryz.prog 52 #[.string s,.int .u8 c] w fun e w'=>e=.returned (.int .i64 (Lib.indexByte s.data.toList c.toNat.toUInt8))/\w'=w:=Any.strings_IndexByte Tryz.lays137 s c w
def Tryz.lays172_ren:Go.Shelf.Ren:=⟨fun | 172=>84 | 244=>104 | 245=>105 | 247=>119 | 279=>120 | 280=>121 | 281=>122 | 282=>123 | 287=>130 | 316=>131 | 171=>106 | 205=>132 | 321=>135 | 322=>136 | 243=>124 | 246=>133 | 283=>137 | 284=>138 | 285=>139 | 286=>140 | 129=>77 | 317=>141 | 318=>142 | 319=>143 | 320=>144 | 337=>145 | 338=>146 | n=>n,fun | 9=>9 | 3=>3 | 75=>140 | 76=>141 | 4=>4 | 5=>5 | 167=>167 | 37=>168 | 0=>0 | 85=>169 | 2=>2 | 168=>171 | 53=>135 | 175=>177 | 46=>104 | 210=>181 | 127=>190 | 145=>193 | 143=>191 | 21=>21 | 171=>194 | 173=>196 | 212=>199 | 51=>133 | 20=>20 | 213=>200 | 232=>201 | 233=>202 | 80=>203 | n=>n,fun | 15=>1 | 16=>2 | 17=>5 | 18=>6 | 19=>7 | n=>n⟩
theorem Tryz.lays172:Go.Proofs.Lays.n172 Tryz.prog Tryz.lays172_ren:={
 mixed:=by kernel_rfl
 f129:=Tryz.func77.trans (iX some (by kernel_rfl))
 f171:=Tryz.func106.trans (iX some (by kernel_rfl))
 f172:=Tryz.func84.trans (iX some (by kernel_rfl))
 f205:=Tryz.func132.trans (iX some (by kernel_rfl))
 f243:=Tryz.func124.trans (iX some (by kernel_rfl))
 f244:=Tryz.func104.trans (iX some (by kernel_rfl))
 f245:=Tryz.func105.trans (iX some (by kernel_rfl))
 f246:=Tryz.func133.trans (iX some (by kernel_rfl))
 f247:=Tryz.func119.trans (iX some (by kernel_rfl))
 f279:=Tryz.func120.trans (iX some (by kernel_rfl))
 f280:=Tryz.func121.trans (iX some (by kernel_rfl))
 f281:=Tryz.func122.trans (iX some (by kernel_rfl))
 f282:=Tryz.func123.trans (iX some (by kernel_rfl))
 f283:=Tryz.func137.trans (iX some (by kernel_rfl))
 f284:=Tryz.func138.trans (iX some (by kernel_rfl))
 f285:=Tryz.func139.trans (iX some (by kernel_rfl))
 f286:=Tryz.func140.trans (iX some (by kernel_rfl))
 f287:=Tryz.func130.trans (iX some (by kernel_rfl))
 f316:=Tryz.func131.trans (iX some (by kernel_rfl))
 f317:=Tryz.func141.trans (iX some (by kernel_rfl))
 f318:=Tryz.func142.trans (iX some (by kernel_rfl))
 f319:=Tryz.func143.trans (iX some (by kernel_rfl))
 f320:=Tryz.func144.trans (iX some (by kernel_rfl))
 f321:=Tryz.func135.trans (iX some (by kernel_rfl))
 f322:=Tryz.func136.trans (iX some (by kernel_rfl))
 f337:=Tryz.func145.trans (iX some (by kernel_rfl))
 f338:=Tryz.func146.trans (iX some (by kernel_rfl))
 t0:=mq
 a0:=mr
 z0:=mw
 v0:=oH
 t2:=Tryz.underlying2
 a2:=Tryz.isAgg2
 z2:=Tryz.sizeOf2
 v2:=Tryz.zeroValue2
 t3:=km
 a3:=ko
 z3:=kp
 v3:=oD
 t4:=oI
 a4:=oJ
 z4:=oK
 v4:=rl
 t5:=kq
 a5:=kr
 z5:=ku
 v5:=mo
 t9:=oE
 a9:=oF
 z9:=oG
 v9:=iq
 t20:=Tryz.underlying20
 a20:=Tryz.isAgg20
 z20:=Tryz.sizeOf20
 v20:=Tryz.zeroValue20
 t21:=Tryz.underlying21
 a21:=Tryz.isAgg21
 z21:=Tryz.sizeOf21
 v21:=Tryz.zeroValue21
 t37:=Tryz.underlying168
 a37:=Tryz.isAgg168
 z37:=Tryz.sizeOf168
 v37:=Tryz.zeroValue168
 t46:=vZ
 a46:=aO
 z46:=gH
 v46:=v7
 t51:=cn
 a51:=rm
 z51:=v8
 v51:=rq
 t53:=my
 a53:=Tryz.isAgg135
 z53:=Tryz.sizeOf135
 v53:=Tryz.zeroValue135
 t75:=Tryz.underlying140
 a75:=Tryz.isAgg140
 z75:=Tryz.sizeOf140
 v75:=Tryz.zeroValue140
 t76:=Tryz.underlying141
 a76:=Tryz.isAgg141
 z76:=Tryz.sizeOf141
 v76:=Tryz.zeroValue141
 t85:=Tryz.underlying169
 a85:=Tryz.isAgg169
 z85:=Tryz.sizeOf169
 v85:=Tryz.zeroValue169
 t127:=Tryz.underlying190
 a127:=Tryz.isAgg190
 z127:=Tryz.sizeOf190
 v127:=Tryz.zeroValue190
 t143:=Tryz.underlying191
 a143:=Tryz.isAgg191
 z143:=Tryz.sizeOf191
 v143:=Tryz.zeroValue191
 t145:=Tryz.underlying193
 a145:=Tryz.isAgg193
 z145:=Tryz.sizeOf193
 v145:=Tryz.zeroValue193
 t167:=Tryz.underlying167
 a167:=Tryz.isAgg167
 z167:=Tryz.sizeOf167
 v167:=Tryz.zeroValue167
 t168:=Tryz.underlying171
 a168:=Tryz.isAgg171
 z168:=Tryz.sizeOf171
 v168:=Tryz.zeroValue171
 t171:=Tryz.underlying194
 a171:=Tryz.isAgg194
 z171:=Tryz.sizeOf194
 v171:=Tryz.zeroValue194
 t173:=Tryz.underlying196
 a173:=Tryz.isAgg196
 z173:=Tryz.sizeOf196
 v173:=Tryz.zeroValue196
 t175:=Tryz.underlying177
 a175:=Tryz.isAgg177
 z175:=Tryz.sizeOf177
 v175:=Tryz.zeroValue177
 t210:=Tryz.underlying181
 a210:=Tryz.isAgg181
 z210:=Tryz.sizeOf181
 v210:=Tryz.zeroValue181
 t212:=v_
 a212:=Tryz.isAgg199
 z212:=Tryz.sizeOf199
 v212:=Tryz.zeroValue199
 t213:=Tryz.underlying200
 a213:=Tryz.isAgg200
 z213:=Tryz.sizeOf200
 t232:=Tryz.underlying201
 a232:=Tryz.isAgg201
 z232:=Tryz.sizeOf201
 v232:=Tryz.zeroValue201
 t233:=Tryz.underlying202
 a233:=Tryz.isAgg202
 z233:=Tryz.sizeOf202
 v233:=Tryz.zeroValue202
 g15:=by kernel_rfl
 g16:=by kernel_rfl
 g17:=by kernel_rfl
 g18:=by kernel_rfl
 g19:=by kernel_rfl }
open Go.RowKit in
theorem Tryz.strconv_Atoi(s:ByteArray)(n:Int)(hl:s.size<=18)(h:Lib.atoi s.data.toList=some n)(w:World):
  Calls Tryz.prog 84 #[.string s] w fun e w'=>e=.returned (.tuple #[.int .i64 n,.nilIface])/\∃t,w'=Lib.bytesWorld w 5 t:=Any.strconv_Atoi Tryz.lays172 s n hl h w
def Tryz.laysM171_ren:Go.Shelf.Ren:=⟨fun | 171=>106 | 243=>124 | 246=>133 | 283=>137 | 284=>138 | 285=>139 | 286=>140 | 129=>77 | 317=>141 | 318=>142 | 319=>143 | 320=>144 | 337=>145 | 338=>146 | n=>n,fun | 3=>3 | 9=>9 | 2=>2 | 4=>4 | 171=>194 | 0=>0 | 53=>135 | 37=>168 | 5=>5 | 173=>196 | 212=>199 | 51=>133 | 20=>20 | 213=>200 | 46=>104 | 232=>201 | 233=>202 | n=>n,fun | 17=>5 | 18=>6 | 19=>7 | n=>n⟩
theorem Tryz.laysM171:Go.Proofs.LaysM.n171 Tryz.prog Tryz.laysM171_ren:={
 mixed:=by kernel_rfl
 f129:=Tryz.func77.trans (iX some (by kernel_rfl))
 f171:=Tryz.func106.trans (iX some (by kernel_rfl))
 f243:=Tryz.func124.trans (iX some (by kernel_rfl))
 f246:=Tryz.func133.trans (iX some (by kernel_rfl))
 f283:=Tryz.func137.trans (iX some (by kernel_rfl))
 f284:=Tryz.func138.trans (iX some (by kernel_rfl))
 f285:=Tryz.func139.trans (iX some (by kernel_rfl))
 f286:=Tryz.func140.trans (iX some (by kernel_rfl))
 f317:=Tryz.func141.trans (iX some (by kernel_rfl))
 f318:=Tryz.func142.trans (iX some (by kernel_rfl))
 f319:=Tryz.func143.trans (iX some (by kernel_rfl))
 f320:=Tryz.func144.trans (iX some (by kernel_rfl))
 f337:=Tryz.func145.trans (iX some (by kernel_rfl))
 f338:=Tryz.func146.trans (iX some (by kernel_rfl))
 t0:=mq
 a0:=mr
 z0:=mw
 v0:=oH
 t2:=Tryz.underlying2
 a2:=Tryz.isAgg2
 z2:=Tryz.sizeOf2
 v2:=Tryz.zeroValue2
 t3:=km
 a3:=ko
 z3:=kp
 v3:=oD
 t4:=oI
 a4:=oJ
 z4:=oK
 v4:=rl
 t5:=kq
 a5:=kr
 z5:=ku
 v5:=mo
 t9:=oE
 a9:=oF
 z9:=oG
 v9:=iq
 t20:=Tryz.underlying20
 a20:=Tryz.isAgg20
 z20:=Tryz.sizeOf20
 v20:=Tryz.zeroValue20
 t37:=Tryz.underlying168
 a37:=Tryz.isAgg168
 z37:=Tryz.sizeOf168
 v37:=Tryz.zeroValue168
 t46:=vZ
 a46:=aO
 z46:=gH
 v46:=v7
 t51:=cn
 a51:=rm
 z51:=v8
 v51:=rq
 t53:=my
 a53:=Tryz.isAgg135
 z53:=Tryz.sizeOf135
 v53:=Tryz.zeroValue135
 t171:=Tryz.underlying194
 a171:=Tryz.isAgg194
 z171:=Tryz.sizeOf194
 v171:=Tryz.zeroValue194
 t173:=Tryz.underlying196
 a173:=Tryz.isAgg196
 z173:=Tryz.sizeOf196
 v173:=Tryz.zeroValue196
 t212:=v_
 a212:=Tryz.isAgg199
 z212:=Tryz.sizeOf199
 v212:=Tryz.zeroValue199
 t213:=Tryz.underlying200
 a213:=Tryz.isAgg200
 z213:=Tryz.sizeOf200
 t232:=Tryz.underlying201
 a232:=Tryz.isAgg201
 z232:=Tryz.sizeOf201
 v232:=Tryz.zeroValue201
 t233:=Tryz.underlying202
 a233:=Tryz.isAgg202
 z233:=Tryz.sizeOf202
 v233:=Tryz.zeroValue202
 g17:=by kernel_rfl
 g18:=by kernel_rfl
 g19:=by kernel_rfl
 i0:=by kernel_rfl
 i2:=by kernel_rfl
 i3:=by kernel_rfl
 i4:=by kernel_rfl
 i5:=by kernel_rfl
 i9:=by kernel_rfl
 i20:=by kernel_rfl
 i37:=by kernel_rfl
 i46:=by kernel_rfl
 i51:=by kernel_rfl
 i53:=by kernel_rfl
 i171:=by kernel_rfl
 i173:=by kernel_rfl
 i212:=by kernel_rfl
 i232:=by kernel_rfl
 i233:=by kernel_rfl
 m17:=by kernel_rfl
 m18:=by kernel_rfl
 m19:=by kernel_rfl }
open Go.RowKit Go.Sort Go.Lib in
theorem Tryz.strconv_Itoa (n : Int) (h0 : -9223372036854775808 ≤ n) (h1 : n ≤ 9223372036854775807) (w : World) (O7 : Lib.TabIs Tryz.prog w "internal/strconv.uint64pow10" .u64 Lib.pow10Tab) :
  Calls Tryz.prog 106 #[.int .i64 n] w fun e w'=>e=.returned (.string ⟨(Lib.itoa n).toArray⟩)/\∃k os,w'=grow (w.drewN k) os:=Any.strconv_Itoa Tryz.laysM171 n h0 h1 w O7
def Tryz.lays144_ren:Go.Shelf.Ren:=⟨fun | 144=>56 | 143=>82 | 219=>96 | 217=>80 | 225=>113 | 224=>114 | 267=>115 | 266=>93 | 314=>127 | n=>n,fun | 9=>9 | 4=>4 | 3=>3 | 5=>5 | 46=>104 | 146=>174 | 51=>133 | n=>n,fun | 1=>0 | n=>n⟩
theorem Tryz.lays144:Go.Proofs.Lays.n144 Tryz.prog Tryz.lays144_ren:={
 mixed:=by kernel_rfl
 f143:=Tryz.func82.trans (iX some (by kernel_rfl))
 f144:=Tryz.func56.trans (iX some (by kernel_rfl))
 f217:=Tryz.func80.trans (iX some (by kernel_rfl))
 f219:=Tryz.func96.trans (iX some (by kernel_rfl))
 f224:=Tryz.func114.trans (iX some (by kernel_rfl))
 f225:=Tryz.func113.trans (iX some (by kernel_rfl))
 f266:=Tryz.func93.trans (iX some (by kernel_rfl))
 f267:=Tryz.func115.trans (iX some (by kernel_rfl))
 f314:=Tryz.func127.trans (iX some (by kernel_rfl))
 t3:=km
 a3:=ko
 z3:=kp
 v3:=oD
 t4:=oI
 a4:=oJ
 z4:=oK
 v4:=rl
 t5:=kq
 a5:=kr
 z5:=ku
 v5:=mo
 t9:=oE
 a9:=oF
 z9:=oG
 v9:=iq
 t46:=vZ
 a46:=aO
 z46:=gH
 v46:=v7
 t51:=cn
 a51:=rm
 z51:=v8
 v51:=rq
 t146:=Tryz.underlying174
 a146:=Tryz.isAgg174
 z146:=Tryz.sizeOf174
 v146:=Tryz.zeroValue174
 g1:=by kernel_rfl }
open Go.RowKit Go.Lib in
theorem Tryz.strings_Contains(s sub:ByteArray)(m:Int)(w:World)(hs:s.size<4294967281)(c:w.cell? ⟨0,0,none⟩=some (.int .i64 m)):
  Calls Tryz.prog 56 #[.string s,.string sub] w fun e w'=>e=.returned (.bool (Lib.contains s.data.toList sub.data.toList))/\w'=w:=Any.strings_Contains Tryz.lays144 s sub m w hs c
def Tryz.lays99_ren:Go.Shelf.Ren:=⟨fun | 99=>33 | 206=>60 | n=>n,fun | 9=>9 | 4=>4 | 3=>3 | n=>n,fun | n=>n⟩
theorem Tryz.lays99:Go.Proofs.Lays.n99 Tryz.prog Tryz.lays99_ren:={
 mixed:=by kernel_rfl
 f99:=Tryz.func33.trans (iX some (by kernel_rfl))
 f206:=Tryz.func60.trans (iX some (by kernel_rfl))
 t3:=km
 a3:=ko
 z3:=kp
 v3:=oD
 t4:=oI
 a4:=oJ
 z4:=oK
 v4:=rl
 t9:=oE
 a9:=oF
 z9:=oG
 v9:=iq }
open Go.RowKit Go.Lib in
theorem Tryz.strings_HasPrefix(s p:ByteArray)(w:World):
  Calls Tryz.prog 33 #[.string s,.string p] w fun e w'=>e=.returned (.bool (Lib.hasPrefix s.data.toList p.data.toList))/\w'=w:=Any.strings_HasPrefix Tryz.lays99 s p w
def Tryz.lays146_ren:Go.Shelf.Ren:=⟨fun | 146=>55 | 221=>81 | 268=>94 | 138=>95 | 143=>82 | 195=>110 | 197=>111 | 218=>112 | 219=>96 | 260=>126 | 217=>80 | 225=>113 | 224=>114 | 267=>115 | 266=>93 | 314=>127 | n=>n,fun | 9=>9 | 31=>111 | 3=>3 | 4=>4 | 0=>0 | 105=>163 | 21=>21 | 5=>5 | 46=>104 | 119=>184 | 139=>187 | 138=>186 | 146=>174 | 51=>133 | n=>n,fun | 1=>0 | 3=>3 | 4=>4 | n=>n⟩
theorem Tryz.lays146:Go.Proofs.Lays.n146 Tryz.prog Tryz.lays146_ren:={
 mixed:=by kernel_rfl
 f138:=Tryz.func95.trans (iX some (by kernel_rfl))
 f143:=Tryz.func82.trans (iX some (by kernel_rfl))
 f146:=Tryz.func55.trans (iX some (by kernel_rfl))
 f195:=Tryz.func110.trans (iX some (by kernel_rfl))
 f197:=Tryz.func111.trans (iX some (by kernel_rfl))
 f217:=Tryz.func80.trans (iX some (by kernel_rfl))
 f218:=Tryz.func112.trans (iX some (by kernel_rfl))
 f219:=Tryz.func96.trans (iX some (by kernel_rfl))
 f221:=Tryz.func81.trans (iX some (by kernel_rfl))
 f224:=Tryz.func114.trans (iX some (by kernel_rfl))
 f225:=Tryz.func113.trans (iX some (by kernel_rfl))
 f260:=Tryz.func126.trans (iX some (by kernel_rfl))
 f266:=Tryz.func93.trans (iX some (by kernel_rfl))
 f267:=Tryz.func115.trans (iX some (by kernel_rfl))
 f268:=Tryz.func94.trans (iX some (by kernel_rfl))
 f314:=Tryz.func127.trans (iX some (by kernel_rfl))
 t0:=mq
 a0:=mr
 z0:=mw
 v0:=oH
 t3:=km
 a3:=ko
 z3:=kp
 v3:=oD
 t4:=oI
 a4:=oJ
 z4:=oK
 v4:=rl
 t5:=kq
 a5:=kr
 z5:=ku
 v5:=mo
 t9:=oE
 a9:=oF
 z9:=oG
 v9:=iq
 t21:=Tryz.underlying21
 a21:=Tryz.isAgg21
 z21:=Tryz.sizeOf21
 v21:=Tryz.zeroValue21
 t31:=Tryz.underlying111
 a31:=Tryz.isAgg111
 z31:=Tryz.sizeOf111
 v31:=Tryz.zeroValue111
 t46:=vZ
 a46:=aO
 z46:=gH
 v46:=v7
 t51:=cn
 a51:=rm
 z51:=v8
 v51:=rq
 t105:=Tryz.underlying163
 a105:=Tryz.isAgg163
 z105:=Tryz.sizeOf163
 v105:=Tryz.zeroValue163
 t119:=Tryz.underlying184
 a119:=Tryz.isAgg184
 z119:=Tryz.sizeOf184
 t138:=Tryz.underlying186
 a138:=Tryz.isAgg186
 z138:=Tryz.sizeOf186
 v138:=Tryz.zeroValue186
 t139:=Tryz.underlying187
 a139:=Tryz.isAgg187
 z139:=Tryz.sizeOf187
 v139:=Tryz.zeroValue187
 t146:=Tryz.underlying174
 a146:=Tryz.isAgg174
 z146:=Tryz.sizeOf174
 v146:=Tryz.zeroValue174
 g1:=by kernel_rfl
 g3:=by kernel_rfl
 g4:=by kernel_rfl }
open Go.RowKit Go.Lib in
theorem Tryz.strings_Split(s c:ByteArray)(m:Int)(w:World)(hs:s.size<4294967281)(z:w.cell? ⟨0,0,none⟩=some (.int .i64 m))(D:1<=c.size):
  Calls Tryz.prog 55 #[.string s,.string c] w fun e w'=>
   e=.returned (.slice (some ⟨w.heap.size,0,none⟩) (Lib.countB s c+1) (Lib.countB s c+1))/\w'=w.alloc (.cells ((Lib.splitB c 0 (Lib.countB s c) s).map Value.string).toArray 9):=Any.strings_Split Tryz.lays146 (by kernel_rfl) s c m w hs z D
def Tryz.laysTrim_ren:Go.Shelf.Ren:=⟨fun | 160=>83 | 232=>98 | 231=>97 | 227=>99 | 234=>101 | 233=>100 | 236=>103 | 235=>102 | 228=>116 | 271=>118 | 151=>117 | 197=>111 | 120=>129 | 152=>128 | 260=>126 | 137=>52 | 119=>134 | 224=>114 | 225=>113 | 217=>80 | 266=>93 | n=>n,fun | 9=>9 | 4=>4 | 3=>3 | 5=>5 | 117=>154 | 116=>153 | 0=>0 | 124=>157 | 21=>21 | 105=>163 | 46=>104 | 119=>184 | 139=>187 | 138=>186 | n=>n,fun | 3=>3 | 4=>4 | n=>n⟩
theorem Tryz.laysTrim:Go.Proofs.Lays.n160 Tryz.prog Tryz.laysTrim_ren:={
 mixed:=by kernel_rfl
 f119:=Tryz.func134.trans (iX some (by kernel_rfl))
 f120:=Tryz.func129.trans (iX some (by kernel_rfl))
 f137:=Tryz.func52.trans (iX some (by kernel_rfl))
 f151:=Tryz.func117.trans (iX some (by kernel_rfl))
 f152:=Tryz.func128.trans (iX some (by kernel_rfl))
 f160:=Tryz.func83.trans (iX some (by kernel_rfl))
 f197:=Tryz.func111.trans (iX some (by kernel_rfl))
 f217:=Tryz.func80.trans (iX some (by kernel_rfl))
 f224:=Tryz.func114.trans (iX some (by kernel_rfl))
 f225:=Tryz.func113.trans (iX some (by kernel_rfl))
 f227:=Tryz.func99.trans (iX some (by kernel_rfl))
 f228:=Tryz.func116.trans (iX some (by kernel_rfl))
 f231:=Tryz.func97.trans (iX some (by kernel_rfl))
 f232:=Tryz.func98.trans (iX some (by kernel_rfl))
 f233:=Tryz.func100.trans (iX some (by kernel_rfl))
 f234:=Tryz.func101.trans (iX some (by kernel_rfl))
 f235:=Tryz.func102.trans (iX some (by kernel_rfl))
 f236:=Tryz.func103.trans (iX some (by kernel_rfl))
 f260:=Tryz.func126.trans (iX some (by kernel_rfl))
 f266:=Tryz.func93.trans (iX some (by kernel_rfl))
 f271:=Tryz.func118.trans (iX some (by kernel_rfl))
 t0:=mq
 a0:=mr
 z0:=mw
 v0:=oH
 t3:=km
 a3:=ko
 z3:=kp
 v3:=oD
 t4:=oI
 a4:=oJ
 z4:=oK
 v4:=rl
 t5:=kq
 a5:=kr
 z5:=ku
 v5:=mo
 t9:=oE
 a9:=oF
 z9:=oG
 v9:=iq
 t21:=Tryz.underlying21
 a21:=Tryz.isAgg21
 z21:=Tryz.sizeOf21
 v21:=Tryz.zeroValue21
 t46:=vZ
 a46:=aO
 z46:=gH
 v46:=v7
 t105:=Tryz.underlying163
 a105:=Tryz.isAgg163
 z105:=Tryz.sizeOf163
 v105:=Tryz.zeroValue163
 t116:=Tryz.underlying153
 a116:=Tryz.isAgg153
 z116:=Tryz.sizeOf153
 t117:=Tryz.underlying154
 a117:=Tryz.isAgg154
 z117:=Tryz.sizeOf154
 v117:=Tryz.zeroValue154
 t119:=Tryz.underlying184
 a119:=Tryz.isAgg184
 z119:=Tryz.sizeOf184
 t124:=Tryz.underlying157
 a124:=Tryz.isAgg157
 z124:=Tryz.sizeOf157
 v124:=Tryz.zeroValue157
 t138:=Tryz.underlying186
 a138:=Tryz.isAgg186
 z138:=Tryz.sizeOf186
 v138:=Tryz.zeroValue186
 t139:=Tryz.underlying187
 a139:=Tryz.isAgg187
 z139:=Tryz.sizeOf187
 v139:=Tryz.zeroValue187
 g3:=by kernel_rfl
 g4:=by kernel_rfl }
open Go.RowKit Go.Lib in
theorem Tryz.strings_Trim_laid(D:(Tryz.prog.info? (Tryz.laysTrim_ren.t 116)).map (fun i=>(i.zero,i.size))=some (some (.agg (Array.replicate 256 (.bool false))),256))(s z:ByteArray)(w:World)(hs:s.size<=9223372036854775807)(G:z.size<4294967281)
  (c:∀(j:Nat) b,z.data.toList[j]?=some b->b.toNat<128):
  Calls Tryz.prog 83 #[.string s,.string z] w fun e w'=>e=.returned (.string ⟨(Lib.trimS s.data.toList z.data.toList).toArray⟩)/\Below w.heap.size w w':=Any.strings_Trim_laid Tryz.laysTrim D s z w hs G c
def Tryz.laysSortDoing_ren:Go.Shelf.Ren:=⟨fun | 6=>19 | 15=>44 | 14=>43 | 28=>76 | 29=>77 | 20=>68 | 21=>69 | 22=>70 | 23=>71 | 24=>72 | 25=>73 | 26=>74 | 27=>75 | 46=>88 | 47=>89 | 48=>90 | 49=>91 | 50=>92 | 57=>109 | n=>n,fun | 22=>25 | 24=>34 | 25=>70 | 3=>3 | 39=>104 | 0=>0 | 53=>133 | 55=>135 | 4=>4 | 46=>127 | 45=>126 | 50=>100 | 5=>5 | 9=>9 | 66=>144 | 70=>148 | 76=>159 | 77=>160 | n=>n,fun | n=>n⟩
theorem Tryz.laysSortDoing:Go.Proofs.SlLaysF0.n6 Tryz.prog Tryz.laysSortDoing_ren:={
 mixed:=by kernel_rfl
 f6:=⟨Tryz.f19.name,by decide,Tryz.func19.trans (iX some (by kernel_rfl))⟩
 f14:=⟨Tryz.f43.name,by decide,Tryz.func43.trans (iX some (by kernel_rfl))⟩
 f15:=Tryz.func44.trans (iX some (by kernel_rfl))
 f20:=⟨Tryz.f68.name,by decide,Tryz.func68.trans (iX some (by kernel_rfl))⟩
 f21:=⟨Tryz.f69.name,by decide,Tryz.func69.trans (iX some (by kernel_rfl))⟩
 f22:=⟨Tryz.f70.name,by decide,Tryz.func70.trans (iX some (by kernel_rfl))⟩
 f23:=⟨Tryz.f71.name,by decide,Tryz.func71.trans (iX some (by kernel_rfl))⟩
 f24:=⟨Tryz.f72.name,by decide,Tryz.func72.trans (iX some (by kernel_rfl))⟩
 f25:=⟨Tryz.f73.name,by decide,Tryz.func73.trans (iX some (by kernel_rfl))⟩
 f26:=⟨Tryz.f74.name,by decide,Tryz.func74.trans (iX some (by kernel_rfl))⟩
 f27:=⟨Tryz.f75.name,by decide,Tryz.func75.trans (iX some (by kernel_rfl))⟩
 f28:=Tryz.func76.trans (iX some (by kernel_rfl))
 f29:=Tryz.func77.trans (iX some (by kernel_rfl))
 f46:=⟨Tryz.f88.name,by decide,Tryz.func88.trans (iX some (by kernel_rfl))⟩
 f47:=Tryz.func89.trans (iX some (by kernel_rfl))
 f48:=Tryz.func90.trans (iX some (by kernel_rfl))
 f49:=⟨Tryz.f91.name,by decide,Tryz.func91.trans (iX some (by kernel_rfl))⟩
 f50:=⟨Tryz.f92.name,by decide,Tryz.func92.trans (iX some (by kernel_rfl))⟩
 f57:=⟨Tryz.f109.name,by decide,Tryz.func109.trans (iX some (by kernel_rfl))⟩
 t0:=mq
 a0:=mr
 z0:=mw
 v0:=oH
 t3:=km
 a3:=ko
 z3:=kp
 v3:=oD
 t4:=oI
 a4:=oJ
 z4:=oK
 v4:=rl
 t5:=kq
 a5:=kr
 z5:=ku
 v5:=mo
 t9:=oE
 a9:=oF
 z9:=oG
 v9:=iq
 t22:=Tryz.underlying25
 a22:=Tryz.isAgg25
 z22:=Tryz.sizeOf25
 v22:=Tryz.zeroValue25
 t25:=Tryz.underlying70
 a25:=Tryz.isAgg70
 z25:=Tryz.sizeOf70
 v25:=Tryz.zeroValue70
 t39:=vZ
 a39:=aO
 z39:=gH
 v39:=v7
 t45:=Tryz.underlying126
 a45:=Tryz.isAgg126
 z45:=Tryz.sizeOf126
 v45:=Tryz.zeroValue126
 t46:=Tryz.underlying127
 a46:=Tryz.isAgg127
 z46:=Tryz.sizeOf127
 v46:=Tryz.zeroValue127
 t50:=Tryz.underlying100
 a50:=Tryz.isAgg100
 z50:=Tryz.sizeOf100
 v50:=Tryz.zeroValue100
 t53:=cn
 a53:=rm
 z53:=v8
 v53:=rq
 t55:=my
 a55:=Tryz.isAgg135
 z55:=Tryz.sizeOf135
 v55:=Tryz.zeroValue135
 t66:=Tryz.underlying144
 a66:=Tryz.isAgg144
 z66:=Tryz.sizeOf144
 v66:=Tryz.zeroValue144
 t70:=Tryz.underlying148
 a70:=Tryz.isAgg148
 z70:=Tryz.sizeOf148
 v70:=Tryz.zeroValue148
 t76:=Tryz.underlying159
 a76:=Tryz.isAgg159
 z76:=Tryz.sizeOf159
 v76:=Tryz.zeroValue159
 t77:=Tryz.underlying160
 a77:=Tryz.isAgg160
 z77:=Tryz.sizeOf160
 v77:=Tryz.zeroValue160 }
end Go.Proofs
namespace Go.Proofs.YtedjhhieekileaaGreatDoor
namespace M
open Go.AM Go.RowKit
def eL:List (Nat×TI):=([40,41,57].map fun n=>(n,⟨.st [(0,1,false),(1,1,false),(2,1,false),(3,1,false)],4,40,[.string ByteArray.empty,.int .i64 0,.int .i64 0,.int .i64 0],false⟩))++(([9,10,11].map fun n=>(n,⟨.str,1,16,[.string ByteArray.empty],false⟩))++(([12,104,135,144].map fun n=>(n,⟨.int .u64,1,8,[.int .u64 0],false⟩))++(([2,3,27,126,167].map fun n=>(n,⟨.int .i64,1,8,[.int .i64 0],false⟩))++(([20,93,94,139,140].map fun n=>(n,⟨.sc,1,16,[.nilIface],false⟩))++(([15,16,17,48,61,66,71,78,148,157,159,171,190,191].map fun n=>(n,⟨.sc,1,8,[.pointer none],false⟩))++([(4,⟨.sc,1,1,[.bool false],true⟩),
 (5,⟨.int .u8,1,1,[.int .u8 0],false⟩),
 (6,⟨.int .u8,1,1,[.int .u8 0],false⟩),
 (7,⟨.st [(0,1,false),(1,1,false),(2,1,false),(3,1,false)],4,24,[.int .i64 0,.int .i64 0,.bool false,.int .u8 0],false⟩),
 (8,⟨.st [(0,1,false),(1,1,false),(2,1,false),(3,1,false)],4,24,[.int .i64 0,.int .i64 0,.bool false,.int .u8 0],false⟩),
 (13,⟨.st [(0,1,false),(1,1,false)],2,24,[.string ByteArray.empty,.int .u64 0],false⟩),
 (14,⟨.st [(0,1,false),(1,1,false)],2,24,[.string ByteArray.empty,.int .u64 0],false⟩),
 (18,⟨.st [(0,1,false)],1,8,[.pointer none],false⟩),
 (19,⟨.st [(0,1,false)],1,8,[.pointer none],false⟩),
 (21,⟨.int .i32,1,4,[.int .i32 0],false⟩),
 (22,⟨.sl 41,1,24,[.slice none 0 0],false⟩),
 (23,⟨.sl 43,1,24,[.slice none 0 0],false⟩),
 (24,⟨.sl 58,1,24,[.slice none 0 0],false⟩),
 (25,⟨.sl 34,1,24,[.slice none 0 0],false⟩),
 (26,⟨.sl 37,1,24,[.slice none 0 0],false⟩),
 (33,⟨.st [(0,1,false),(1,1,false),(2,1,false),(3,1,false),(4,1,false),(5,1,false),(6,1,false)],7,64,[.string ByteArray.empty,.int .i64 0,.int .i64 0,.int .i64 0,.int .i64 0,.int .i64 0,.bool false],false⟩),
 (34,⟨.st [(0,1,false),(1,1,false),(2,1,false),(3,1,false),(4,1,false),(5,1,false),(6,1,false)],7,64,[.string ByteArray.empty,.int .i64 0,.int .i64 0,.int .i64 0,.int .i64 0,.int .i64 0,.bool false],true⟩),
 (36,⟨.st [(0,1,false),(1,1,false),(2,1,false),(3,1,false),(4,1,false)],5,48,[.string ByteArray.empty,.int .i64 0,.bool false,.int .i64 0,.int .i64 0],false⟩),
 (37,⟨.st [(0,1,false),(1,1,false),(2,1,false),(3,1,false),(4,1,false)],5,48,[.string ByteArray.empty,.int .i64 0,.bool false,.int .i64 0,.int .i64 0],true⟩),
 (42,⟨.st [(0,1,false),(1,1,false),(2,1,false)],3,32,[.string ByteArray.empty,.int .i64 0,.int .i64 0],false⟩),
 (43,⟨.st [(0,1,false),(1,1,false),(2,1,false)],3,32,[.string ByteArray.empty,.int .i64 0,.int .i64 0],false⟩),
 (49,⟨.mp 58 4,1,8,[.map none],false⟩),
 (50,⟨.sl 53,1,24,[.slice none 0 0],false⟩),
 (51,⟨.sl 60,1,24,[.slice none 0 0],false⟩),
 (52,⟨.sl 68,1,24,[.slice none 0 0],false⟩),
 (53,⟨.sl 68,1,24,[.slice none 0 0],false⟩),
 (54,⟨.sl 59,1,24,[.slice none 0 0],false⟩),
 (55,⟨.st [(0,1,false),(1,1,false),(2,1,false),(3,1,false),(4,1,false),(5,1,false),(6,1,false),(7,1,false),(8,1,false)],9,184,[.slice none 0 0,.slice none 0 0,.map none,.slice none 0 0,.slice none 0 0,.slice none 0 0,.slice none 0 0,.int .i64 0,.slice none 0 0],false⟩),
 (56,⟨.st [(0,1,false),(1,1,false),(2,1,false),(3,1,false),(4,1,false),(5,1,false),(6,1,false),(7,1,false),(8,1,false)],9,184,[.slice none 0 0,.slice none 0 0,.map none,.slice none 0 0,.slice none 0 0,.slice none 0 0,.slice none 0 0,.int .i64 0,.slice none 0 0],false⟩),
 (58,⟨.st [(0,1,false),(1,1,false),(2,1,false),(3,1,false)],4,40,[.string ByteArray.empty,.int .i64 0,.int .i64 0,.int .i64 0],true⟩),
 (59,⟨.sl 4,1,24,[.slice none 0 0],false⟩),
 (60,⟨.sl 61,1,24,[.slice none 0 0],false⟩),
 (62,⟨.sl 3,1,24,[.slice none 0 0],false⟩),
 (63,⟨.st [(0,1,false),(1,1,false),(2,1,false),(3,1,false),(4,5,true)],9,96,[.int .i64 0,.int .i64 0,.int .i64 0,.slice none 0 0,.string ByteArray.empty,.int .i64 0,.bool false,.int .i64 0,.int .i64 0],false⟩),
 (64,⟨.st [(0,1,false),(1,1,false),(2,1,false),(3,1,false),(4,5,true)],9,96,[.int .i64 0,.int .i64 0,.int .i64 0,.slice none 0 0,.string ByteArray.empty,.int .i64 0,.bool false,.int .i64 0,.int .i64 0],false⟩),
 (67,⟨.st [(0,1,false),(1,1,false),(2,1,false)],3,24,[.int .i64 0,.int .i64 0,.int .i64 0],false⟩),
 (68,⟨.st [(0,1,false),(1,1,false),(2,1,false)],3,24,[.int .i64 0,.int .i64 0,.int .i64 0],false⟩),
 (72,⟨.sl 76,1,24,[.slice none 0 0],false⟩),
 (73,⟨.st [(0,1,false),(1,1,false),(2,1,false),(3,1,false)],4,96,[.slice none 0 0,.slice none 0 0,.slice none 0 0,.slice none 0 0],false⟩),
 (74,⟨.st [(0,1,false),(1,1,false),(2,1,false),(3,1,false)],4,96,[.slice none 0 0,.slice none 0 0,.slice none 0 0,.slice none 0 0],false⟩),
 (75,⟨.st [(0,1,false),(1,1,false),(2,1,false),(3,1,false),(4,1,false),(5,1,false),(6,1,false),(7,1,false),(8,1,false),(9,1,false),(10,1,false)],11,112,[.string ByteArray.empty,.int .i64 0,.int .i64 0,.int .i64 0,.bool false,.int .i64 0,.int .i64 0,.int .i64 0,.slice none 0 0,.int .i64 0,.int .i64 0],false⟩),
 (76,⟨.st [(0,1,false),(1,1,false),(2,1,false),(3,1,false),(4,1,false),(5,1,false),(6,1,false),(7,1,false),(8,1,false),(9,1,false),(10,1,false)],11,112,[.string ByteArray.empty,.int .i64 0,.int .i64 0,.int .i64 0,.bool false,.int .i64 0,.int .i64 0,.int .i64 0,.slice none 0 0,.int .i64 0,.int .i64 0],false⟩),
 (111,⟨.sl 9,1,24,[.slice none 0 0],false⟩),
 (133,⟨.int .u32,1,4,[.int .u32 0],false⟩),
 (168,⟨.sl 5,1,24,[.slice none 0 0],false⟩),
 (180,⟨.st [(0,1,false),(1,1,false),(2,1,false)],3,48,[.string ByteArray.empty,.string ByteArray.empty,.nilIface],false⟩),
 (181,⟨.st [(0,1,false),(1,1,false),(2,1,false)],3,48,[.string ByteArray.empty,.string ByteArray.empty,.nilIface],false⟩),
 (185,⟨.st [(0,1,false),(1,1,false)],2,2,[.int .u8 0,.int .u8 0],false⟩),
 (186,⟨.st [(0,1,false),(1,1,false)],2,2,[.int .u8 0,.int .u8 0],false⟩),
 (192,⟨.st [(0,1,false)],1,16,[.string ByteArray.empty],false⟩),
 (193,⟨.st [(0,1,false)],1,16,[.string ByteArray.empty],false⟩)]++([1,29,30,31,32,35,38,39,45,46,47,65,69,70,77,79,80,81,82,83,84,86,88,89,90,91,92,95,96,97,98,99,101,102,103,105,106,107,108,109,110,112,113,114,115,116,117,118,119,120,121,122,123,124,125,128,129,130,131,132,134,136,137,138,142,143,145,146,147,149,150,151,155,156,158,161,162,164,165,166,170,172,173,175,176,178,179,182,183,188,189,195,197,198].map fun n=>(n,⟨.sc,1,8,[.nilFunc],false⟩))))))))
def RS:List (Nat×Nat):=[(36,0),(19,0),(67,1),(67,2),(17,92),(17,0),(40,92),(40,0),(61,0),(68,0),(86,0),(107,0),(125,0)]
def Mc:List (Nat×Nat)->Nat->Nat->Bool
 | [],_,_=>false
 | (f,j)::r,f',j'=>match Nat.beq f f',Nat.beq j j' with
  | true,true=>true
  | _,_=>Mc r f' j'
def Env (S : Nat → Prop) (w : World) : Prop := S 0 ∧ S 5 ∧ (∃ m : Int, w.cell? ⟨0, 0, none⟩ = some (.int .i64 m)) ∧ Lib.TabIs Tryz.prog w "internal/strconv.uint64pow10" .u64 Lib.pow10Tab
theorem Js : Tryz.prog.globalNamed "internal/strconv.uint64pow10" = some 5 := by kernel_rfl
theorem EO(S S':Nat->Prop)(w w':World)(h:Env S w)(hS:∀b,S b->S' b)(z:∀b,S b->w'.heap[b]?=w.heap[b]?):Env S' w':=by
 obtain⟨D,G,⟨m,I⟩,c⟩:=h;refine⟨hS _ D,hS _ G,⟨m,(uR (z _ D)).trans I⟩,?_⟩;unfold Lib.TabIs World.var? at c ⊢;simp only[Js,Option.bind_some]at c ⊢;rw[z _ G];exact c
noncomputable def C:Ctx:={ P:=Tryz.prog,T:=mU eL,md:=Mc RS,E:=Env,bf:=fun d=>Nat.beq d 20,bn:=fun t=>Nat.beq t 50,bh:=fun t=>Nat.beq t 54||Nat.beq t 60||Nat.beq t 72,bo:=fun t=>Nat.beq t 56||Nat.beq t 64||Nat.beq t 76||Nat.beq t 74,nc:=fun f=>Nat.beq f 18||(Nat.beq f 39||(Nat.beq f 41||(Nat.beq f 42||(Nat.beq f 38||(Nat.beq f 65||(Nat.beq f 22||(Nat.beq f 23||(Nat.beq f 24||(Nat.beq f 47||(Nat.beq f 48||(Nat.beq f 49||(Nat.beq f 50||(Nat.beq f 51))))))))))))),pt:=fun t=>Nat.beq t 66 }
theorem O9:eL.all (Nb Tryz.prog)=true:=by kernel_rfl
theorem RT:eL.all (Jf Tryz.prog)=true:=by kernel_rfl
theorem RU:eL.all (ON Tryz.prog)=true:=by kernel_rfl
theorem RV:eL.all (Jj Tryz.prog)=true:=by kernel_rfl
theorem hC:aL C:=⟨LP RU,Je O9,fun S S' w w' h hS c _=>EO S S' w w' h hS c,by kernel_rfl,Jh RT,vP RV,fun t h=>by rw[bq h];exact⟨53,by kernel_rfl⟩⟩
def i64(n:Int):PV:=.im (.int .i64 n)
def bool(b:Bool):PV:=.im (.bool b)
def ints(l:List Int):PV:=.sl (l.map fun n=>[i64 n])
variable {α:Type}
theorem A5{l:List α}{i:Nat}{x:α}(f:α->List PV)(h:l[i]?=some x):(l.map f)[i]?=some (f x):=by rw[ao,h];rfl
theorem GK:Tryz.prog.types.size+Made.depth=(Tryz.prog.types.size+99)+1:=rfl
theorem Md{t e:TypeId}{name:String}{f:FuncId}{d:Bool}{info:TypeInfo}{m:Method}(hi:Tryz.prog.info? t=some info)(hm:(info.methods.find? fun m=>m.name==name)=some m)(hp:m.path=#[])(hf:m.func=some (f,!d))(hu:Tryz.prog.underlying t=some (.pointer e))(he:∃ti,mU eL e=some ti/\ti.ud.agg=false):u9 Tryz.prog t name f d:=by
 have RW:m.path.toList=[]:=by rw[hp]
 have Lg:m.path.isEmpty=true:=by simp[hp]
 obtain⟨ti,RX,j6⟩:=he
 obtain ⟨z, key⟩ : ∃ z : String, ∀ (a : Addr) (w : World), (method (Tryz.prog.types.size + Made.depth) t (.pointer (some a)) name).run Tryz.prog w = ((receiverAt t (.val (.pointer (some a))) (!d) (some z)).run Tryz.prog w).andThen fun r w => .ok (f, r) w := ⟨(name.splitOn ".").getLastD name, fun a w => by
  rw[GK];unfold method;have ht:(typeInfo t).run Tryz.prog w=.ok info w:=by simp[typeInfo,hi]
  simp only[aI,ht,nH,hm,RW,follow,jS,hf,Lg,if_true]⟩
 cases d with
 | false=>
  intro a w;rw[key];have hr:(receiverAt t (.val (.pointer (some a))) true (some z)).run Tryz.prog w=.ok (.pointer (some a)) w:=by
   simp[receiverAt,run_underlying hu,Place.get]
  simp only[Bool.not_false,hr,nH]
 | true=>
  intro a v w hv;rw[key];have hr:(receiverAt t (.val (.pointer (some a))) false (some z)).run Tryz.prog w=.ok v w:=by
   have hw : (Builtin.ssaWrapNilChk_ #[t] t #[Value.pointer (some a), strVal "", strVal z]).run Tryz.prog w = .ok (.pointer (some a)) w := rfl
   have ha:(isAgg e).run Tryz.prog w=.ok false w:=by rw[<-j6];exact (hC.eL e ti RX).isAgg w
   have hl:(loadVar e a).run Tryz.prog w=.ok v w:=by
    have RY:(load a).run Tryz.prog w=.ok v w:=by simp[load,Sem.run,hv]
    unfold loadVar;simp only[aI,ha,nH,qU,if_false];exact RY
   simp[receiverAt,run_underlying hu,Place.get,hw,asAddr,hl]
  simp only[kf,hr,nH]
noncomputable def Qk(t:TypeId)(name:String)(f:FuncId)(d:Bool):Bool:=match Tryz.prog.info? t with
 | some info=>match info.methods.find? fun m=>m.name==name with
  | some m=>m.path.isEmpty&&match m.func with
   | some (f',d')=>Nat.beq f' f&&(d'==!d)
   | none=>false
  | none=>false
 | none=>false
theorem sE{t e:TypeId}{name:String}{f:FuncId}{d:Bool}(h:Qk t name f d=true)(D:Tryz.prog.underlying t=some (.pointer e))(G:∃z,mU eL e=some z/\z.ud.agg=false):u9 Tryz.prog t name f d:=by
 unfold Qk at h;split at h
 ·rename_i info I;split at h
  ·rename_i m J;rw[fH]at h;obtain⟨N,c⟩:=h;split at c
   ·rename_i f' O U;rw[fH]at c;have V:=bq c.1;have Y:O=!d:=by simpa using c.2
    subst V;subst Y;exact Md I J (by simpa using N) U D G
   cases c
  cases h
 cases h
theorem EP : u9 Tryz.prog 66 "Len" 163 true := sE (e := 53) (by kernel_rfl) (by kernel_rfl) ⟨_, rfl, rfl⟩
theorem oL : u9 Tryz.prog 66 "Less" 164 true := sE (e := 53) (by kernel_rfl) (by kernel_rfl) ⟨_, rfl, rfl⟩
theorem oM : u9 Tryz.prog 66 "Swap" 165 true := sE (e := 53) (by kernel_rfl) (by kernel_rfl) ⟨_, rfl, rfl⟩
theorem GL : u9 Tryz.prog 66 "Push" 167 false := sE (e := 53) (by kernel_rfl) (by kernel_rfl) ⟨_, rfl, rfl⟩
theorem Jt : u9 Tryz.prog 66 "Pop" 166 false := sE (e := 53) (by kernel_rfl) (by kernel_rfl) ⟨_, rfl, rfl⟩
theorem bT{l:List α}{i:Nat}{r:α}(h:l[i]?=some r):l.take (i+1)=l.take i++[r]:=by rw[List.take_add_one,h];rfl
theorem a8{l:List α}{i:Nat}(h:i<l.length):∃p,l[i]?=some p:=⟨l[i],aM h⟩
theorem idx{l:List α}{f:α->List PV}{i:Int}{k:Nat}{x:α}(h:i=k)(c:l[k]?=some x):0<=i/\(l.map f)[i.toNat]?=some (f x):=by
 subst h;exact⟨by omega,by rw[c8];exact A5 f c⟩
theorem cH(l:List α)(f:α->List PV):(l.map f).length=l.length:=ct ..
def str(s:ByteArray):PV:=.im (.string s)
theorem tA(s:ByteArray)(c:Int):aT C 52 [.pv (str s),.pv (.im (.int .u8 c))] (.p (i64 (Lib.indexByte s.data.toList c.toNat.toUInt8))) []:=
 iz [.string s,.int .u8 c] _ ⟨_,Tryz.func52,rfl,rfl⟩ fun _ w _ _=>(Tryz.strings_IndexByte s c w).mono fun _ _ ⟨z,D⟩=>⟨z,by rw[D];exact Below.refl _ _⟩
theorem XE(n c z:Int):aT C 54 [.pv (i64 n),.pv (i64 c),.pv (i64 z)] (.p (bool (decide (c<=n)&&decide (n<=z)))) []:=by
 refine fW hC Tryz.func54 rfl (by kernel_rfl) fun _=>?_;apply iW<;>intro h<;>(refine⟨?_,trivial⟩)<;>simp[bool,h]
def okB(b:UInt8):Bool:=(decide ((97:Int)<=b.toNat)&&decide ((b.toNat:Int)<=122))||(decide ((65:Int)<=b.toNat)&&decide ((b.toNat:Int)<=90))||(decide ((48:Int)<=b.toNat)&&decide ((b.toNat:Int)<=57))||!decide (Lib.indexByte [95,43,45,35] b<0)
theorem byte_back(b:UInt8):((b.toNat:Int)).toNat.toUInt8=b:=by simp
def jh(s:ByteArray):Bool:=s.data.toList.all okB&&(decide ((1:Int)<=s.size)&&decide ((s.size:Int)<=40))
theorem xR{s:ByteArray}{i:Nat}(h:i<s.size):∃b:UInt8,s[i]?=some b/\s.data.toList[i]?=some b:=by
 refine⟨s[i],getElem?_pos s i h,?_⟩;rw[uZ];exact bE h
theorem Xa(s:ByteArray)(hs:s.size<=9223372036854775807):aT C 29 [.pv (str s)] (.p (bool (jh s))) []:=by
 refine fW hC Tryz.func29 rfl (by kernel_rfl) fun _=>?_;have hsz:s.data.toList.length=s.size:=by simp
 refine d_ (fun i:Nat=>i<=s.size/\(s.data.toList.take i).all okB=true) (fun i=>[(0,.p (str s)),(3,.p (i64 i))]) (fun _=>[]) (fun i=>s.size-i) 0 _ (aY.refl _ _) ⟨nI _,by simp⟩ ⟨Z,Z,Y⟩ trivial fun i z t h=>?_;apply iW<;>intro I<;>try simp only[zB]at I
 ·obtain⟨b,hb,D⟩:=xR (s:=s) (i:=i) (by omega);have J:okB b=false->jh s=false:=fun h=>by
   rw[jh,fU];refine .inl ?_;rw[List.all_eq_false];exact⟨b,aj D,by simp[h]⟩
  have c:okB b=true->(s.data.toList.take (i+1)).all okB=true:=fun h=>by rw[bT D,List.all_append,z.2];simp[h]
  refine⟨b,⟨by omega,by rw[c8];exact hb⟩,?_⟩;have G:=tA ⟨#[95,43,45,35]⟩ b.toNat;rw[byte_back]at G
  repeat' first | apply iW<;>intro h<;>try simp only[zB]at h | refine⟨_,_,G,?_⟩
  all_goals skip
  all_goals first
   | (
     refine⟨wO (by omega),?_⟩;refine⟨(i+1),_,aY.refl _ _,?_⟩;exact⟨⟨by omega,c (by simp[okB, *])⟩,by omega,⟨Z,Z,Y⟩,trivial⟩)
   | (
     refine⟨?_,trivial⟩;rw[J (by simp[okB, *])];rfl)
 have N:s.data.toList.all okB=true:=by
  have:=z.2
  rwa [vm (by omega)]at this
 refine⟨_,_,(XE s.size 1 40),?_,trivial⟩;rw[jh,N,ia]
theorem ir(s:ByteArray)(hs:s.size<=9223372036854775807):aT C 25 [.pv (str s)] (.p (bool (jh s))) []:=by
 refine fW hC Tryz.func25 rfl (by kernel_rfl) fun _=>?_;have hsz:s.data.toList.length=s.size:=by simp
 refine d_ (fun i:Nat=>i<=s.size/\(s.data.toList.take i).all okB=true) (fun i=>[(0,.p (str s)),(6,.p (i64 s.size)),(7,.p (i64 i))]) (fun _=>[]) (fun i=>s.size-i) 0 _ (aY.refl _ _) ⟨nI _,by simp⟩ ⟨Z,Z,Z,Y⟩ trivial fun i D t h=>?_;apply iW<;>intro N<;>try simp only[zB]at N
 ·obtain⟨b,hb,G⟩:=xR (s:=s) (i:=i) (by omega);have O:okB b=false->jh s=false:=fun h=>by
   rw[jh,fU];refine .inl ?_;rw[List.all_eq_false];exact⟨b,aj G,by simp[h]⟩
  have c:okB b=true->(s.data.toList.take (i+1)).all okB=true:=fun h=>by rw[bT G,List.all_append,D.2];simp[h]
  refine⟨b,⟨by omega,by rw[c8];exact hb⟩,?_⟩;have I:=tA ⟨#[95,43,45,35]⟩ b.toNat;rw[byte_back]at I
  repeat' first | apply iW<;>intro h<;>try simp only[zB]at h | refine⟨_,_,I,?_⟩
  all_goals skip
  all_goals first
   | (
     refine⟨wO (by omega),?_⟩;refine⟨(i+1),_,aY.refl _ _,?_⟩;exact⟨⟨by omega,c (by simp only[okB,oa,fH,dS,j8,wg];omega)⟩,by omega,⟨Z,Z,Z,Y⟩,trivial⟩)
   | (
     refine⟨?_,trivial⟩;rw[O (by simp only[okB,fQ,fU,wg,Bool.not_eq_false',dS];omega)];rfl)
 have J:s.data.toList.all okB=true:=by
  have:=D.2
  rwa [vm (by omega)]at this
 apply iW<;>intro z<;>try simp only[zB]at z
 ·refine⟨?_,trivial⟩;simp[bool,jh,J,z]
 refine⟨?_,trivial⟩;simp[bool,jh,J,z]
def pK(n lo hi:Int):Bool:=decide (lo<=n)&&decide (n<=hi)
theorem cI(n c z:Int):aT C 28 [.pv (i64 n),.pv (i64 c),.pv (i64 z)] (.p (bool (pK n c z))) []:=by
 refine fW hC Tryz.func28 rfl (by kernel_rfl) fun _=>?_;apply iW<;>intro h<;>(refine⟨?_,trivial⟩)<;>simp[bool,pK,h]
theorem sw(n c z:Int):aT C 30 [.pv (i64 n),.pv (i64 c),.pv (i64 z)] (.p (bool (pK n c z))) []:=by
 refine fW hC Tryz.func30 rfl (by kernel_rfl) fun _=>?_;apply iW<;>intro h<;>(refine⟨?_,trivial⟩)<;>simp[bool,pK,h]
end M
namespace Reg
structure UA{α:Type}(le:α->α->Bool):Prop where
 total:∀a b,le a b=true\/le b a=true
 trans:∀a b c,le a b=true->le b c=true->le a c=true
variable {α:Type}
theorem UA.refl{le:α->α->Bool}(h:UA le)(a:α):le a a=true:=(h.total a a).elim id id
def eqv{α:Type}(le:α->α->Bool)(a b:α):Bool:=le a b&&le b a
theorem UP{le:α->α->Bool}(h:UA le)(a:α):eqv le a a=true:=by simp[eqv,h.refl]
theorem Vt{le:α->α->Bool}{a b:α}(h:eqv le a b=true):eqv le b a=true:=by
 simp only[eqv,fH]at h ⊢;exact⟨h.2,h.1⟩
theorem Vl{le:α->α->Bool}(h:UA le){a b c:α}(z:eqv le a b=true)(D:eqv le b c=true):eqv le a c=true:=by
 simp only[eqv,fH]at z D ⊢;exact⟨h.trans _ _ _ z.1 D.1,h.trans _ _ _ D.2 z.2⟩
def gp{α:Type}(le:α->α->Bool)(l m:List α):Prop:=∀x,m.filter (eqv le x)=l.filter (eqv le x)
theorem gp.refl{le:α->α->Bool}(l:List α):gp le l l:=fun _=>rfl
theorem gp.trans{le:α->α->Bool}{l m n:List α}(h:gp le l m)(k:gp le m n):gp le l n:=fun x=>(k x).trans (h x)
theorem gp.symm{le:α->α->Bool}{l m:List α}(h:gp le l m):gp le m l:=fun x=>(h x).symm
theorem gp.app{le:α->α->Bool}{l m c z:List α}(h:gp le l m)(k:gp le c z):gp le (l++c) (m++z):=fun x=>by
 rw[wh,wh,h x,k x]
theorem gp.mem{le:α->α->Bool}(hp:UA le){l m:List α}(h:gp le l m){a:α}(c:a∈m):a∈l:=by
 have:a∈m.filter (eqv le a):=ov.2 ⟨c,UP hp a⟩;rw[h a]at this;exact (ov.1 this).1
theorem gp.swap{le:α->α->Bool}(hp:UA le){u v:List α}(h:∀a∈u,∀b∈v,le a b=false):gp le (u++v) (v++u):=fun x=>by
 rw[wh,wh];by_cases c:u.filter (eqv le x)=[]
 ·rw[c,fK,uW]
 by_cases z:v.filter (eqv le x)=[]
 ·rw[z,fK,uW]
 obtain⟨a,D⟩:=aV _ c;obtain⟨b,hb⟩:=aV _ z;obtain⟨G,I⟩:=ov.1 D;obtain⟨J,N⟩:=ov.1 hb;have:=Vl hp (Vt I) N;simp only[eqv,fH]at this;rw[h a G b J]at this;cases this.1
def SY{α:Type}(le:α->α->Bool)(l:List α):Prop:=l.Pairwise fun a b=>le a b=true
theorem TG{le:α->α->Bool}(hp:UA le):∀{m n:List α},SY le m->SY le n->gp le m n->m=n
 | [],[],_,_,_=>rfl
 | [],b::n,_,_,h=>by
  have:=gp.mem hp h (a:=b) dJ;cases this
 | a::m,[],_,_,h=>by
  have:=gp.mem hp h.symm (a:=a) dJ;cases this
 | a::m,b::n,hm,hn,h=>by
  have D:=wi.1 hm;have G:=wi.1 hn;have J:le a b=true:=by
   rcases fL.1 (gp.mem hp h (a:=b) dJ) with e | e
   ·rw[e];exact hp.refl a
   exact D.1 b e
  have N:le b a=true:=by
   rcases fL.1 (gp.mem hp h.symm (a:=a) dJ) with e | e
   ·rw[e];exact hp.refl b
   exact G.1 a e
  have O:eqv le a b=true:=by rw[eqv,J,N];rfl
  have I:=h a;rw[ry O,ry (UP hp a)]at I;injection I with U e2;subst U;have V:gp le m n:=fun x=>by
   have z:=h x;by_cases c:eqv le x b=true
   ·rw[ry c,ry c]at z;injection z
   rw[wj c,wj c]at z;exact z
  rw[TG hp D.2 G.2 V]
theorem TH{le:α->α->Bool}(hp:UA le){u v:List α}{x:α}(hs:SY le (u++v))(D:∀a∈u,le a x=true)(z:∀a∈v,le a x=false):SY le (u++x::v)/\gp le (u++v++[x]) (u++x::v):=by
 obtain⟨s1,s2,G⟩:=jW.1 hs;refine⟨jW.2 ⟨s1,wi.2 ⟨fun a c=>?_,s2⟩,fun a c b hb=>?_⟩,?_⟩
 ·rcases hp.total a x with h | h
  ·rw[z a c]at h;cases h
  exact h
 ·rcases fL.1 hb with e | hb
  ·rw[e];exact D a c
  exact G a c b hb
 rw[bR];refine gp.app (gp.refl u) ?_;have:=gp.swap hp (u:=v) (v:=[x]) fun a c b hb=>by rw[n9]at hb;rw[hb];exact z a c
 exact this
def Vm{α:Type}(le:α->α->Bool)(x:α)(l:List α):List α:=l.takeWhile (le · x)++x::l.dropWhile (le · x)
def Tb{α:Type}(le:α->α->Bool)(l:List α):List α:=l.foldl (fun a x=>Vm le x a) []
section
variable {α:Type} {le:α->α->Bool}
theorem Vu{p:α->Bool}:∀(l:List α),∀a∈l.takeWhile p,p a=true:=fun l=>cC.1 List.all_takeWhile
theorem Ur(hp:UA le){x:α}:∀{l:List α},SY le l->∀a∈l.dropWhile (le · x),le a x=false
 | [],_,a,h=>by simp at h
 | y::l,hs,a,h=>by
  obtain⟨c,z⟩:=wi.1 hs;rw[List.dropWhile_cons]at h;cases hy:le y x with
  | true=>
   rw[hy,qH rfl]at h;exact Ur hp z a h
  | false=>
   rw[hy,af (by simp)]at h;cases ha:le a x with
   | false=>rfl
   | true=>
    rcases fL.1 h with e | h
    ·rw[e,hy]at ha;cases ha
    rw[hp.trans y a x (c a h) ha]at hy;cases hy
variable {l:List α}
theorem UQ(hp:UA le){x:α}(hs:SY le l):SY le (Vm le x l)/\gp le (l++[x]) (Vm le x l):=by
 have:=TH hp (u:=l.takeWhile (le · x)) (v:=l.dropWhile (le · x)) (x:=x) (by rw[wk];exact hs) (Vu l) (Ur hp hs);rw[wk]at this;exact this
theorem Us(l:List α)(x:α):Tb le (l++[x])=Vm le x (Tb le l):=by simp[Tb]
theorem S0(hp:UA le)(l:List α):SY le (Tb le l)/\gp le l (Tb le l):=by
 have key:∀n (l:List α),l.length=n->SY le (Tb le l)/\gp le l (Tb le l):=by
  intro n
  induction n with
  | zero=>
   intro l h;have:l=[]:=gw h;subst this;exact⟨List.Pairwise.nil,gp.refl _⟩
  | succ n ih=>
   intro l h;have c:l≠[]:=fun e=>by rw[e]at h;cases h
   obtain⟨m,x,rfl⟩:∃m x,l=m++[x]:=⟨l.dropLast,l.getLast c,(AF c).symm⟩;obtain⟨z,D⟩:=ih m (by simpa using h);obtain⟨G,I⟩:=UQ hp (x:=x) z;rw[Us];exact⟨G,(gp.app D (gp.refl _)).trans I⟩
 exact key _ l rfl
theorem TL(hp:UA le){m:List α}(hs:SY le m)(c:gp le l m):Tb le l=m:=
 TG hp (S0 hp l).1 hs ((S0 hp l).2.symm.trans c)
theorem UR(x:α)(l:List α):(Vm le x l).length=l.length+1:=by
 have:=iX List.length (wk (p:=(le · x)) (l:=l));simp only[fj]at this;simp only[Vm,fj,bw];omega
theorem S4(l:List α):(Tb le l).length=l.length:=by
 have key:∀n (l:List α),l.length=n->(Tb le l).length=n:=by
  intro n
  induction n with
  | zero=>
   intro l h;have:l=[]:=gw h;subst this;rfl
  | succ n ih=>
   intro l h;have c:l≠[]:=fun e=>by rw[e]at h;cases h
   obtain⟨m,x,rfl⟩:∃m x,l=m++[x]:=⟨l.dropLast,l.getLast c,(AF c).symm⟩;rw[Us,UR,ih m (by simpa using h)]
 exact key _ l rfl
theorem put_eq(hp:UA le){u v:List α}{x:α}(h:Tb le l=u++v)(c:∀a∈u,le a x=true)(z:∀a∈v,le a x=false):Tb le (l++[x])=u++x::v:=by
 have hs:SY le (u++v):=by rw[<-h];exact (S0 hp l).1
 obtain⟨D,G⟩:=TH hp hs c z;refine TL hp D (gp.trans (gp.app ?_ (gp.refl [x])) G);rw[<-h];exact (S0 hp l).2
theorem zQ{s:List α}{i:Nat}{y:α}(h:s[i]?=some y):i<s.length:=by
 by_cases c:i<s.length
 ·exact c
 rw[dy (by omega)]at h;cases h
theorem Tr{s:List α}(hs:SY le s){P:α->Prop}(G:∀a b,le a b=true->P b->P a){k:Nat}(h:k=0\/∃y,s[k-1]?=some y/\P y):∀e∈s.take k,P e:=by
 intro e I;obtain⟨i,J,rfl⟩:=List.getElem_of_mem I;simp only[dI]at J;rw[List.getElem_take];rcases h with h | ⟨y,c,z⟩
 ·omega
 by_cases e:i=k-1
 ·subst e;rw[aM (by omega)]at c;injection c with c;rw[c];exact z
 have D:=zQ c;refine G _ y ?_ z;have:=wy.1 hs i (k-1) (by omega) D (by omega);rw[aM D]at c;injection c with c;rw[<-c];exact this
end
section
variable {α:Type}
end
end Reg
namespace M
open Go.AM Go.RowKit
def jI(a b:Int):Int:=if a<b then -1 else if b<a then 1 else 0
theorem uv(n:Int):aT C 78 [.pv (i64 n)] (.p (bool false)) []:=by
 refine fW hC Tryz.func78 rfl (by kernel_rfl) fun _=>?_;refine⟨?_,trivial⟩;simp[bool]
theorem wa(a b:Int):aT C 46 [.pv (i64 a),.pv (i64 b)] (.p (i64 (jI a b))) []:=by
 refine fW hC Tryz.func46 rfl (by kernel_rfl) fun _=>?_;refine⟨_,_,(uv a),_,_,(uv b),iW ?_ ?_⟩<;>intro h<;>try simp only[zB]at h
 ·refine⟨?_,trivial⟩;rw[jI,qH h];rfl
 apply iW<;>intro c<;>try simp only[zB]at c
 ·refine⟨?_,trivial⟩;rw[jI,af h,qH c];rfl
 refine⟨?_,trivial⟩;rw[jI,af h,af c];rfl
def A6:List Int->Int
 | []=>0
 | a::l=>if a=0 then A6 l else a
theorem ER{l:List Int}{i:Nat}(h:A6 (l.take i)=0)(z:∀x∈l.take i,x=0){a:Int}(c:l[i]?=some a)(h0:a≠0):A6 l=a:=by
 have e:l=l.take i++a::l.drop (i+1):=by
  have D:i<l.length:=Reg.zQ c;rw[aM D]at c;injection c with c;rw[<-c,<-wz D,ca]
 rw[e];clear h c e;generalize l.take i=m at *
 induction m with
 | nil=>rw[uW,A6,af h0]
 | cons x m ih=>
  rw[lX,A6,qH (z x dJ)];exact ih fun y G=>z y (An _ G)
theorem sG:∀{l:List Int},(∀x∈l,x=0)->A6 l=0
 | [],_=>rfl
 | a::l,h=>by rw[A6,qH (h a dJ)];exact sG fun x c=>h x (An _ c)
theorem Ju(l:List Int)(hN:l.length<=1000):aT C 45 [.pv (ints l)] (.p (i64 (A6 l))) []:=by
 refine fW hC Tryz.func45 rfl (by kernel_rfl) fun _=>?_;have I:=cH l fun n=>[i64 n];refine d_ (fun i:Nat=>i<=l.length/\∀x∈l.take i,x=0) (fun i=>[(3,.p (i64 0)),(6,.p (ints l)),(7,.p (i64 l.length)),(8,.p (i64 i))]) (fun _=>[]) (fun i=>l.length-i) 0 _ (aY.refl _ _) ⟨nI _,by simp⟩ ⟨rfl,rfl,iX (fun n:Nat=>AV.p (i64 n)) I,Z,Y⟩ trivial fun i z t h=>?_;apply iW<;>intro J<;>try simp only[zB]at J
 ·obtain⟨a,D⟩:=a8 (l:=l) (i:=i) (by omega);refine⟨[i64 a],(idx rfl D),iW ?_ ?_⟩<;>intro G<;>try simp only[zB]at G
  ·refine⟨?_,trivial⟩;rw[ER (sG z.2) z.2 D G]
  refine⟨wO (by omega),(i+1),_,aY.refl _ _,⟨by omega,fun x c=>?_⟩,by omega,⟨Z,Z,Z,Z,Y⟩,trivial⟩;rw[bT D,cD,n9]at c;rcases c with c | c
  ·exact z.2 x c
  rw[c];exact G
 refine⟨?_,trivial⟩;rw[sG fun x c=>z.2 x (by rw[vm (by omega)];exact c)]
def A7(s:ByteArray):Prop:=s.size<4294967281
structure dQ where
 lot:ByteArray
 panel:Int
 step:Int
 machine:Int
 from_:Int
 till:Int
 good:Bool
def dc(d:dQ):List PV:=[str d.lot,i64 d.panel,i64 d.step,i64 d.machine,i64 d.from_,i64 d.till,bool d.good]
def H6(a b:dQ):Bool:=decide (a.from_<b.from_\/a.from_=b.from_/\(a.step<b.step\/a.step=b.step/\a.machine<=b.machine))
theorem Tc:Reg.UA H6:=⟨fun a b=>by simp only[H6,dS];omega,fun a b c h1 h2=>by simp only[H6,dS]at *;omega⟩
def tB(a b:dQ):Int:=A6 [jI a.from_ b.from_,jI a.step b.step,jI a.machine b.machine]
theorem GN(a b:dQ):tB a b<0↔H6 b a=false:=by
 simp only[tB,A6,jI,H6,wg]
 repeat' split
 all_goals omega
theorem ES(a b:dQ):decide (tB a b<0)=!H6 b a:=by
 rw[gU,dS,GN];simp
theorem XF(a b:dQ):aT C 79 [.pv (.ag (dc a)),.pv (.ag (dc b))] (.p (bool (!H6 a b))) []:=by
 refine fW hC Tryz.func79 rfl (by kernel_rfl) fun _=>?_;apply iW<;>intro c<;>try simp only[zB]at c
 ·refine⟨?_,trivial⟩;refine iX (fun z=>PV.im (Value.bool z)) ?_;rw[gU];simp only[H6,dS,j8,wg];omega
 apply iW<;>intro D<;>try simp only[zB]at D
 ·refine⟨?_,trivial⟩;refine iX (fun z=>PV.im (Value.bool z)) ?_;rw[gU];simp only[H6,dS,j8,wg];omega
 refine⟨?_,trivial⟩;refine iX (fun z=>PV.im (Value.bool z)) ?_;rw[gU];simp only[H6,dS,j8,wg];omega
abbrev Wt:=Int×Int×Int
def wt(x:Wt):List PV:=[i64 x.1,i64 x.2.1,i64 x.2.2]
def H7(x:Wt):PV:=.ifc 68 (.ag (wt x))
def qt(a b:Wt):Bool:=decide (A6 [jI a.1 b.1,jI a.2.1 b.2.1,jI a.2.2 b.2.2]<0)
def cO(l:List Wt)(i j:Nat)(a b:Wt):List Wt:=(l.set i b).set j a
theorem ET{l:List Wt}{i j:Nat}{a b:Wt}{k:Int}(c:k=j)(z:l[i]?=some a)(D:l[j]?=some b):((l.map wt).set i (wt b))[k.toNat]?=some (wt b):=by
 subst c;rw[c8];by_cases e:j=i
 ·subst e;rw[bQ (by rw[ct];exact ah z)]
 rw[bY (fun h=>e h.symm)];exact A5 wt D
theorem H8(l:List Wt):cR C 163 [.ow 100001] [(100001,.row 68 (l.map wt))] (.p (i64 l.length)) [(100001,.row 68 (l.map wt))]:=by
 refine Jr ⟨[],[],[],[],[],[]⟩ hC Tryz.func163 rfl (by kernel_rfl) fun _=>?_;exact⟨by show AV.p (i64 _)=_;rw[ct],Z,Y⟩
theorem Jv(l:List Wt)(i j:Nat)(a b:Wt)(c:l[i]?=some a)(z:l[j]?=some b):cR C 164 [.ow 100001,.p (i64 i),.p (i64 j)] [(100001,.row 68 (l.map wt))] (.p (bool (qt a b))) [(100001,.row 68 (l.map wt))]:=by
 have li:=ah c;have lj:=ah z;have D:=cH l wt;refine Jr ⟨[],[],[(1,[100001])],[],[(1,[true,true,true,true,true,true,false,false,true,true,false,true])],[]⟩ hC Tryz.func164 rfl (by kernel_rfl) fun _=>?_;exact⟨⟨by omega,by rw[D];omega⟩,(wt a),(idx rfl c).2,⟨by omega,by rw[D];omega⟩,(wt b),(idx rfl z).2,_,_,(wa a.1 b.1),_,_,(wa a.2.1 b.2.1),_,_,(wa a.2.2 b.2.2),_,_,(Ju [jI a.1 b.1,jI a.2.1 b.2.1,jI a.2.2 b.2.2] (by simp)),Z,Z,Y⟩
theorem Jw(l:List Wt)(i j:Nat)(a b:Wt)(c:l[i]?=some a)(D:l[j]?=some b):cR C 165 [.ow 100001,.p (i64 i),.p (i64 j)] [(100001,.row 68 (l.map wt))] (.tu []) [(100001,.row 68 ((cO l i j a b).map wt))]:=by
 have li:=ah c;have lj:=ah D;have z:=cH l wt;refine Jr ⟨[],[],[],[],[],[]⟩ hC Tryz.func165 rfl (by kernel_rfl) fun _=>?_;exact⟨⟨by omega,by rw[z];omega⟩,(wt b),(idx rfl D).2,⟨by omega,by rw[z];omega⟩,(wt a),(idx rfl c).2,⟨by omega,by rw[z];omega⟩,(wt a),(idx rfl c).2,⟨by omega,by rw[cu,z];omega⟩,(wt b),(ET rfl c D),rfl,by show AB.row _ (((l.map wt).set i (wt b)).set j (wt a))=_;rw[cO,oW,oW],trivial⟩
theorem Jx(c:Array Value)(z:TypeId)(l:List Wt)(x:Wt)(hN:l.length<=1000000):cR C 167 [.ow 100000,.p (H7 x)] [(100000,.cell c z (.ow 90001)),(90001,.row 68 (l.map wt))] (.tu []) [(100000,.cell c z (.ow 90001)),(90001,.row 68 ((l++[x]).map wt))]:=by
 have D:=cH l wt;refine Kz ⟨[],[],[],[0],[],[]⟩ hC Tryz.func167 rfl (by kernel_rfl) fun _=>?_;refine⟨⟨by simp[wt],by rw[D];simp;omega,by rw[D];simp;omega⟩,_,aY.ez _ 11 90001 (by decide) (by decide),rfl,rfl,?_,trivial⟩;show AB.row _ (l.map wt++[wt x])=_;rw[aa];rfl
theorem Me(D:Array Value)(G:TypeId)(l:List Wt)(x:Wt)(hN:l.length<=1000000):cR C 166 [.ow 100000] [(100000,.cell D G (.ow 90001)),(90001,.row 68 ((l++[x]).map wt))] (.p (H7 x)) [(100000,.cell D G (.ow 90001)),(90001,.row 68 (l.map wt))]:=by
 have c:=cH (l++[x]) wt;rw[fj,aw]at c;have z:(((((l++[x]).map wt).length:Nat):Int)-1).toNat=l.length:=by rw[c];omega
 refine Kz ⟨[],[],[],[],[],[]⟩ hC Tryz.func166 rfl (by kernel_rfl) fun _=>?_;refine⟨wO (by omega),⟨by omega,by rw[z,c];omega⟩,(wt x),(by rw[z];simp),wO (by omega),?_⟩;refine Or.inl ?_;refine⟨⟨by omega,by omega,by omega⟩,_,(aY.Cw (by exact hC) _ 100000 3 _ (by decide) rfl rfl).trans (aY.ez _ 3 90001 (by decide) (by decide)),rfl,rfl,?_,trivial⟩;show AB.row _ ((((l++[x]).map wt)).take _)=_;rw[z];simp
def uw:Nat->List Wt->Nat->List Wt
 | 0,l,_=>l
 | n+1,l,j=>match l[j]?,l[(j-1) / 2]? with
  | some a,some b=>if (j-1) / 2=j then l else if qt a b then uw n (cO l ((j-1) / 2) j b a) ((j-1) / 2) else l
  | _,_=>l
theorem oN(l:List Wt)(i j:Int)(a b:Wt)(c:0<=i/\l[i.toNat]?=some a)(z:0<=j/\l[j.toNat]?=some b):cR C 164 [.ow 100001,.p (i64 i),.p (i64 j)] [(100001,.row 68 (l.map wt))] (.p (bool (qt a b))) [(100001,.row 68 (l.map wt))]:=by
 obtain⟨i',rfl⟩:=ji c.1;obtain⟨j',rfl⟩:=ji z.1;exact Jv l i' j' a b c.2 z.2
theorem oO(l:List Wt)(i j:Int)(a b:Wt)(c:0<=i/\l[i.toNat]?=some a)(z:0<=j/\l[j.toNat]?=some b):cR C 165 [.ow 100001,.p (i64 i),.p (i64 j)] [(100001,.row 68 (l.map wt))] (.tu []) [(100001,.row 68 ((cO l i.toNat j.toNat a b).map wt))]:=by
 obtain⟨i',rfl⟩:=ji c.1;obtain⟨j',rfl⟩:=ji z.1;exact Jw l i' j' a b c.2 z.2
theorem kv{a b:Int}(h:a=b):AV.p (i64 a)=AV.p (i64 b):=by rw[h]
theorem GO(k:Nat):((k:Int)-1).tdiv 2=(((k-1) / 2:Nat):Int):=by
 cases k with
 | zero=>rfl
 | succ k=>
  rw[show ((k+1:Nat):Int)-1=(k:Int) by omega,Nat.add_sub_cancel];rfl
theorem cy(l:List Wt)(i j:Nat)(a b:Wt):(cO l i j a b).length=l.length:=by simp[cO]
theorem A8:∀(n:Nat) (l:List Wt) (j:Nat),(uw n l j).length=l.length
 | 0,l,j=>rfl
 | n+1,l,j=>by
  unfold uw;split
  ·split
   ·rfl
   split
   ·rw[A8 n,cy]
   rfl
  rfl
theorem EU(n:Nat):∀(l:List Wt) (j:Nat),j<n->uw n l j=uw (j+1) l j:=by
 induction n using Nat.strongRecOn with
 | _ n ih=>
  intro l j hj;cases n with
  | zero=>omega
  | succ n=>
   unfold uw;split
   ·split
    ·rfl
    split
    ·rw[ih n (by omega) _ _ (by omega)];by_cases e:j<n+1/\j≠0
     ·rw[ih j (by omega) _ _ (by omega)]
     omega
    rfl
   rfl
theorem O_(D:Array Value)(G:TypeId)(l:List Wt)(j:Nat)(hj:j<l.length)(hN:l.length<=1000000):cR C 38 [.ifp 66 (.ow 100000),.p (i64 j)] [(100000,.cell D G (.ow 90001)),(90001,.row 68 (l.map wt))] (.tu []) [(100000,.cell D G (.ow 90001)),(90001,.row 68 ((uw (j+1) l j).map wt))]:=by
 refine Jr ⟨[],[],[],[],[],[]⟩ hC Tryz.func38 rfl (by kernel_rfl) fun _=>?_;refine d_ (fun p:Nat×List Wt=>p.1<p.2.length/\p.2.length=l.length/\uw (p.1+1) p.2 p.1=uw (j+1) l j) (fun p=>[(0,.ifp 66 (.ow 100000)),(1,.p (i64 p.1))]) (fun p=>[(100000,.cell D G (.ow 90001)),(90001,.row 68 (p.2.map wt))]) (fun p=>p.1) (j,l) _ (aY.refl _ _) ⟨hj,rfl,rfl⟩ ⟨Z,Z,Y⟩ ⟨Z,Z,Y⟩ fun ⟨k,m⟩ N t h=>?_;simp only at N;obtain⟨k1,k2,c⟩:=N;have e:=GO k;have hh:(k-1) / 2<=k:=by omega
 obtain⟨a,O⟩:=a8 k1;obtain⟨b,hb⟩:=a8 (l:=m) (i:=(k-1) / 2) (by omega);have Kx:uw (k+1) m k=if (k-1) / 2=k then m else if qt a b then uw k (cO m ((k-1) / 2) k b a) ((k-1) / 2) else m:=by
  rw[uw,O,hb]
 rw[Kx]at c;have U:0<=(k:Int)/\m[(k:Int).toNat]?=some a:=⟨by omega,by rw[c8];exact O⟩;have V:0<=((k:Int)-1).tdiv 2/\m[(((k:Int)-1).tdiv 2).toNat]?=some b:=by rw[e];exact⟨by omega,by rw[c8];exact hb⟩
 refine⟨wO (by omega),by decide,by rw[e];exact⟨by omega,by omega⟩,iW ?_ ?_⟩<;>intro I<;>try simp only[zB]at I
 ·rw[e]at I;rw[qH (by omega)]at c;exact⟨rfl,rfl,iX (fun z:List Wt=>AB.row 68 (z.map wt)) c,trivial⟩
 rw[e]at I;rw[af (by omega)]at c;refine⟨_,_,oL,[(90001,100001)],_,_,_,_,oN m _ _ a b U V,⟨Z,Z,Z,Y⟩,iW ?_ ?_⟩<;>intro J<;>try simp only[zB]at J
 ·rw[af (by rw[J];decide)]at c;exact⟨rfl,rfl,iX (fun z:List Wt=>AB.row 68 (z.map wt)) c,trivial⟩
 rw[qH J]at c;refine⟨_,_,oM,[(90001,100001)],_,_,_,_,oO m _ _ b a V U,⟨Z,Z,Z,Y⟩,((k-1) / 2,cO m ((k-1) / 2) k b a),_,aY.refl _ _,⟨by simp only[cy];omega,by rw[cy];exact k2,?_⟩,by simp only;omega,⟨rfl,kv e,trivial⟩,⟨rfl,?_,trivial⟩⟩
 ·simp only;rw[<-c];exact (EU k _ _ (by omega)).symm
 show AB.row _ ((cO m (((k:Int)-1).tdiv 2).toNat (k:Int).toNat b a).map wt)=_;rw[e,c8,c8]
def EV(l:List Wt)(a b:Nat):Bool:=match l[a]?,l[b]? with
 | some x,some y=>qt x y
 | _,_=>false
def gg(l:List Wt)(i n:Nat):Nat:=if 2*i+2<n/\EV l (2*i+2) (2*i+1)=true then 2*i+2 else 2*i+1
def c9:Nat->List Wt->Nat->Nat->List Wt
 | 0,l,_,_=>l
 | f+1,l,i,n=>if n<=2*i+1 then l else match l[gg l i n]?,l[i]? with
  | some a,some b=>if qt a b then c9 f (cO l i (gg l i n) b a) (gg l i n) n else l
  | _,_=>l
theorem xS(l:List Wt)(i n:Nat):i<gg l i n:=by unfold gg;split<;>omega
theorem jJ:∀(f:Nat) (l:List Wt) (i n:Nat),(c9 f l i n).length=l.length
 | 0,l,i,n=>rfl
 | f+1,l,i,n=>by
  unfold c9;split
  ·rfl
  split
  ·split
   ·rw[jJ f,cy]
   rfl
  rfl
theorem ny(k:Nat):∀(f:Nat) (l:List Wt) (i n:Nat),n-i<=f->f<=k->c9 f l i n=c9 (n-i) l i n:=by
 induction k with
 | zero=>
  intro f l i n c z;rw[show f=0 by omega,show n-i=0 by omega]
 | succ k ih=>
  intro f l i n c z;cases f with
  | zero=>rw[show n-i=0 by omega]
  | succ f=>
   by_cases h0:n-i=0
   ·rw[h0];show c9 (f+1) l i n=l;rw[c9,qH (by omega)]
   obtain⟨g,D⟩:∃g,n-i=g+1:=⟨n-i-1,by omega⟩;rw[D];unfold c9;split
   ·rfl
   split
   ·split
    ·have:=xS l i n;rw[ih f _ _ _ (by omega) (by omega),ih g _ _ _ (by omega) (by omega)]
    rfl
   rfl
theorem Jy(N:Array Value)(O:TypeId)(l:List Wt)(n:Nat)(hn:n<=l.length)(hN:l.length<=1000000):cR C 65 [.ifp 66 (.ow 100000),.p (i64 0),.p (i64 n)] [(100000,.cell N O (.ow 90001)),(90001,.row 68 (l.map wt))] .junk [(100000,.cell N O (.ow 90001)),(90001,.row 68 ((c9 n l 0 n).map wt))]:=by
 refine Jr ⟨[],[],[],[],[],[]⟩ hC Tryz.func65 rfl (by kernel_rfl) fun _=>?_;refine d_ (fun p:Nat×List Wt=>(p.1<n\/p.1=0)/\p.2.length=l.length/\c9 (n-p.1) p.2 p.1 n=c9 n l 0 n) (fun p=>[(0,.ifp 66 (.ow 100000)),(1,.p (i64 0)),(2,.p (i64 n)),(7,.p (i64 p.1))]) (fun p=>[(100000,.cell N O (.ow 90001)),(90001,.row 68 (p.2.map wt))]) (fun p=>n-p.1) (0,l) _ (aY.refl _ _) ⟨.inr rfl,rfl,rfl⟩ ⟨Z,Z,Z,Z,Y⟩ ⟨Z,Z,Y⟩ fun ⟨k,m⟩ hk t h=>?_;simp only at hk;obtain⟨k1,U,c⟩:=hk;have done:c9 (n-k) m k n=m->(AB.row 68 (m.map wt))=.row 68 ((c9 n l 0 n).map wt):=fun h=>by rw[<-c,h]
 refine⟨⟨by dsimp only;omega,by dsimp only;omega⟩,⟨by dsimp only;omega,by dsimp only;omega⟩,iW ?_ ?_⟩<;>intro h1<;>try simp only[zB]at h1
 ·refine⟨trivial,rfl,done ?_,trivial⟩;cases hf:n-k with
  | zero=>rfl
  | succ f=>rw[c9,qH (by omega)]
 have wN:2*k+1<n:=by omega
 obtain⟨f,hf⟩:∃f,n-k=f+1:=⟨n-k-1,by omega⟩;obtain⟨b,hb⟩:=a8 (l:=m) (i:=k) (by omega);obtain⟨x,J⟩:=a8 (l:=m) (i:=2*k+1) (by omega);have V:(2*(k:Int)+1).toNat=2*k+1:=by omega
 have i2:(2*(k:Int)+1+1).toNat=2*k+2:=by omega
 have G:0<=(k:Int)/\m[(k:Int).toNat]?=some b:=⟨by omega,by rw[c8];exact hb⟩;have I:0<=2*(k:Int)+1/\m[(2*(k:Int)+1).toNat]?=some x:=⟨by omega,by rw[V];exact J⟩;rw[hf,c9,af (by omega)]at c;have done:∀z:List Wt,z=c9 n l 0 n->(AB.row 68 (z.map wt))=.row 68 ((c9 n l 0 n).map wt):=fun z h=>by rw[h]
 refine⟨⟨by dsimp only;omega,by dsimp only;omega⟩,iW ?_ ?_⟩<;>intro h2<;>try simp only[zB]at h2
 ·obtain⟨y,hy⟩:=a8 (l:=m) (i:=2*k+2) (by omega);have Jz:0<=2*(k:Int)+1+1/\m[(2*(k:Int)+1+1).toNat]?=some y:=⟨by omega,by rw[i2];exact hy⟩;have dv:EV m (2*k+2) (2*k+1)=qt y x:=by rw[EV,hy,J]
  refine⟨_,_,oL,[(90001,100001)],_,_,_,_,oN m _ _ y x Jz I,⟨Z,Z,Z,Y⟩,iW ?_ ?_⟩<;>intro h3<;>try simp only[zB]at h3
  ·have hp:gg m k n=2*k+2:=by rw[gg,qH ⟨by omega,by rw[dv];exact h3⟩]
   rw[hp,hy,hb]at c;simp only at c;refine⟨_,_,oL,[(90001,100001)],_,_,_,_,oN m _ _ y b Jz G,⟨Z,Z,Z,Y⟩,iW ?_ ?_⟩<;>intro D<;>try simp only[zB]at D
   ·rw[af (by rw[D];decide)]at c;exact⟨trivial,rfl,done _ c,trivial⟩
   rw[qH D]at c;refine⟨_,_,oM,[(90001,100001)],_,_,_,_,oO m _ _ b y G Jz,⟨Z,Z,Z,Y⟩,(2*k+2,cO m k (2*k+2) b y),_,aY.refl _ _,⟨.inl (by omega),by rw[cy];exact U,?_⟩,by dsimp only;omega,⟨rfl,rfl,rfl,kv (by dsimp only;omega),trivial⟩,⟨rfl,?_,trivial⟩⟩
   ·dsimp only;rw[<-c,ny f f _ _ _ (by omega) (aC _)]
   show AB.row _ ((cO m (k:Int).toNat (2*(k:Int)+1+1:Int).toNat b y).map wt)=_;rw[i2,c8]
  have hp:gg m k n=2*k+1:=by rw[gg,af fun h=>by rw[dv,h3]at h;cases h.2]
  rw[hp,J,hb]at c;simp only at c;refine⟨_,_,oL,[(90001,100001)],_,_,_,_,oN m _ _ x b I G,⟨Z,Z,Z,Y⟩,iW ?_ ?_⟩<;>intro D<;>try simp only[zB]at D
  ·rw[af (by rw[D];decide)]at c;exact⟨trivial,rfl,done _ c,trivial⟩
  rw[qH D]at c;refine⟨_,_,oM,[(90001,100001)],_,_,_,_,oO m _ _ b x G I,⟨Z,Z,Z,Y⟩,(2*k+1,cO m k (2*k+1) b x),_,aY.refl _ _,⟨.inl (by omega),by rw[cy];exact U,?_⟩,by dsimp only;omega,⟨rfl,rfl,rfl,kv (by dsimp only;omega),trivial⟩,⟨rfl,?_,trivial⟩⟩
  ·dsimp only;rw[<-c,ny f f _ _ _ (by omega) (aC _)]
  show AB.row _ ((cO m (k:Int).toNat (2*(k:Int)+1:Int).toNat b x).map wt)=_;rw[V,c8]
 have hp:gg m k n=2*k+1:=by rw[gg,af fun h=>by have:=h.1;omega]
 rw[hp,J,hb]at c;simp only at c;refine⟨_,_,oL,[(90001,100001)],_,_,_,_,oN m _ _ x b I G,⟨Z,Z,Z,Y⟩,iW ?_ ?_⟩<;>intro D<;>try simp only[zB]at D
 ·rw[af (by rw[D];decide)]at c;exact⟨trivial,rfl,done _ c,trivial⟩
 rw[qH D]at c;refine⟨_,_,oM,[(90001,100001)],_,_,_,_,oO m _ _ b x G I,⟨Z,Z,Z,Y⟩,(2*k+1,cO m k (2*k+1) b x),_,aY.refl _ _,⟨.inl (by omega),by rw[cy];exact U,?_⟩,by dsimp only;omega,⟨rfl,rfl,rfl,kv (by dsimp only;omega),trivial⟩,⟨rfl,?_,trivial⟩⟩
 ·dsimp only;rw[<-c,ny f f _ _ _ (by omega) (aC _)]
 show AB.row _ ((cO m (k:Int).toNat (2*(k:Int)+1:Int).toNat b x).map wt)=_;rw[V,c8]
theorem Mg(c:Array Value)(z:TypeId)(l:List Wt)(j:Int)(k:Nat)(D:j=k)(G:k<l.length)(I:l.length<=1000000):cR C 38 [.ifp 66 (.ow 100000),.p (i64 j)] [(100000,.cell c z (.ow 90001)),(90001,.row 68 (l.map wt))] (.tu []) [(100000,.cell c z (.ow 90001)),(90001,.row 68 ((uw (k+1) l k).map wt))]:=by
 subst D;exact O_ c z l k G I
theorem GP(c:Array Value)(z:TypeId)(l:List Wt)(j:Int)(n:Nat)(D:j=n)(G:n<=l.length)(I:l.length<=1000000):cR C 65 [.ifp 66 (.ow 100000),.p (i64 0),.p (i64 j)] [(100000,.cell c z (.ow 90001)),(90001,.row 68 (l.map wt))] .junk [(100000,.cell c z (.ow 90001)),(90001,.row 68 ((c9 n l 0 n).map wt))]:=by
 subst D;exact Jy c z l n G I
def eH(l:List Wt)(x:Wt):List Wt:=uw (l.length+1) (l++[x]) l.length
theorem zR(c:Array Value)(z:TypeId)(l:List Wt)(x:Wt)(hN:l.length<1000000):cR C 17 [.ifp 66 (.ow 100000),.p (H7 x)] [(100000,.cell c z (.ow 90001)),(90001,.row 68 (l.map wt))] (.tu []) [(100000,.cell c z (.ow 90001)),(90001,.row 68 ((eH l x).map wt))]:=by
 have e:((l++[x]).length:Int)-1=(l.length:Int):=by simp
 refine Jr ⟨[],[],[],[],[],[]⟩ hC Tryz.func17 rfl (by kernel_rfl) fun _=>?_;exact⟨_,_,GL,[(100000,100000),(90001,90001)],_,_,_,_,Jx c z l x (by omega),⟨Z,Z,Z,Z,Y⟩,_,_,EP,[(90001,100001)],_,_,_,_,H8 (l++[x]),⟨Z,Z,Z,Y⟩,by rw[e];exact⟨by omega,by omega⟩,[(100000,100000),(90001,90001)],_,_,_,_,Mg c z (l++[x]) _ l.length e (by simp) (by simp;omega),⟨Z,Z,Z,Z,Y⟩,Z,Z,Z,Y⟩
theorem CD(c:Array Value)(z:TypeId)(l D:List Wt)(a b x:Wt)(G:l[0]?=some a)(hb:l[l.length-1]?=some b)(hl:c9 (l.length-1) (cO l 0 (l.length-1) a b) 0 (l.length-1)=D++[x])(J:l.length<=1000000):cR C 40 [.ifp 66 (.ow 100000)] [(100000,.cell c z (.ow 90001)),(90001,.row 68 (l.map wt))] (.p (H7 x)) [(100000,.cell c z (.ow 90001)),(90001,.row 68 (D.map wt))]:=by
 have l0:=ah G;have e:(l.length:Int)-1=((l.length-1:Nat):Int):=by omega
 have I:((l.length:Int)-1).toNat=l.length-1:=by omega
 have N:=iX List.length hl;rw[jJ,cy,fj,aw]at N;refine Jr ⟨[],[],[],[],[],[]⟩ hC Tryz.func40 rfl (by kernel_rfl) fun _=>?_;refine⟨_,_,EP,[(90001,100001)],_,_,_,_,H8 l,⟨Z,Z,Z,Y⟩,?_⟩;refine⟨wO (by omega),?_⟩;refine⟨_,_,oM,[(90001,100001)],_,_,_,_,oO l 0 _ a b ⟨by omega,G⟩ ⟨by omega,by rw[I];exact hb⟩,⟨Z,Z,Z,Y⟩,?_⟩;refine⟨[(100000,100000),(90001,90001)],_,_,_,_,GP c z _ _ (l.length-1) e (by rw[cy];omega) (by rw[cy];exact J),⟨Z,Z,Z,Z,Y⟩,?_⟩;refine⟨_,_,Jt,[(100000,100000),(90001,90001)],_,_,_,_,(show cR _ _ _ [_,(90001,.row 68 ((c9 (l.length-1) (cO l (0:Int).toNat ((l.length:Int)-1).toNat a b) 0 (l.length-1)).map wt))] _ _ by rw[I];exact hl▸Me c z D x (by omega)),⟨Z,Z,Z,Z,Y⟩,?_⟩;exact⟨Z,Z,Z,Y⟩
end M
end Go.Proofs.YtedjhhieekileaaGreatDoor
namespace Go.AM
open Go.RowKit
theorem cR.SB{C:Ctx}{f:FuncId}{args:List AV}{c fin:List (Nat×AB)}(h:cR C f args c (.tu []) fin):cR C f args c (.p (.im (.tuple #[]))) fin:=
 ⟨h.1,fun S w vs rho z hS hl D G=>(h.2 S w vs rho z hS hl D G).mono fun e' w' ⟨v,S',rho',I,J,N,O,U,V,Y,Z,h9⟩=>⟨v,S',rho',I,J,N,O,U,V,Y,by
  cases Z with
  | tu _ us hl hc=>
   have:us=#[]:=aK hl.symm;subst this;exact .p _ _ (.im _),h9⟩⟩
end Go.AM
namespace Go.Proofs.YtedjhhieekileaaGreatDoor
namespace M
open Go.AM Go.RowKit
theorem wb(l:List Wt)(x:Wt)(c:l.length<1000000):jm C 17 66 [H7 x] 68 (l.map wt) (.im (.tuple #[])) ((eH l x).map wt):=
 jm.of fun z D=>(zR z D l x c).SB
theorem Mh(l c:List Wt)(a b x:Wt)(z:l[0]?=some a)(hb:l[l.length-1]?=some b)(hl:c9 (l.length-1) (cO l 0 (l.length-1) a b) 0 (l.length-1)=c++[x])(D:l.length<=1000000):jm C 40 66 [] 68 (l.map wt) (H7 x) (c.map wt):=
 jm.of fun G I=>CD G I l c a b x z hb hl D
end M
end Go.Proofs.YtedjhhieekileaaGreatDoor
namespace Go.AM
open Go.RowKit
theorem aY.KA{A:jR}(s:AS)(id:Nat)(b:AB)(h:s.h id=b):aY A s ⟨s.t,ax s.h id b⟩:=by
 rw[eX _ _ _ h];exact aY.refl _ _
end Go.AM
namespace Go.Proofs.YtedjhhieekileaaGreatDoor
namespace M
open Go.AM Go.RowKit
structure gI where
 name:ByteArray
 minutes:Int
 machines:Int
 back:Int
structure Lt where
 name:ByteArray
 panels:Int
 at_:Int
structure Fl where
 lot:ByteArray
 panel:Int
 step:Int
 visit:Int
structure Made where
 lot:ByteArray
 panel:Int
 done:Bool
 at_:Int
 rework:Int
structure lH where
 step:Nat
 machine:Nat
 from_:Int
 visits:List Int
 made:Made
structure a_ where
 jobs:List lH
 queues:List (List Wt)
 ends:List Wt
 busy:List (List Bool)
 now:Int
 done:List dQ
structure Stat where
 steps:List gI
 lots:List Lt
 bad:List Fl
 gs:List (List Nat)
def gq(s:gI):List PV:=[str s.name,i64 s.minutes,i64 s.machines,i64 s.back]
def jK(l:Lt):List PV:=[str l.name,i64 l.panels,i64 l.at_]
def FG(f:Fl):Value:=.agg #[.string f.lot,.int .i64 f.panel,.int .i64 f.step,.int .i64 f.visit]
def mc(m:Made):List PV:=[str m.lot,i64 m.panel,bool m.done,i64 m.at_,i64 m.rework]
def mL(l:List Fl):List (Value×Value):=l.map fun f=>(FG f,.bool true)
def pL(j:lH):List HC:=[.p (i64 j.step),.p (i64 j.machine),.p (i64 j.from_),.row 3 (j.visits.map fun n=>[i64 n]),.p (str j.made.lot),.p (i64 j.made.panel),.p (bool j.made.done),.p (i64 j.made.at_),.p (i64 j.made.rework)]
def ptr(g:Nat):PV:=.im (.pointer (some ⟨g,0,none⟩))
def CE(r:List Nat):PV:=.sl (r.map fun g=>[ptr g])
def Mi(gs:List (List Nat)):PV:=.sl (gs.map fun r=>[CE r])
def nz(gs:List Nat)(jobs:List lH):List (Nat×List HC):=List.zipWith (fun g j=>(g,pL j)) gs jobs
def qC(q:List Wt):List HX:=[.row 68 (q.map wt)]
def bC(b:List Bool):List HX:=[.row 4 (b.map fun x=>[bool x])]
def H9(st:Stat)(x:a_):List AV:=[.p (.sl (st.steps.map gq)),.p (.sl (st.lots.map jK)),.p (.mp (.st [0,1,1,1]) (mL st.bad)),.p (Mi st.gs),.ow 90001,.ow 90002,.ow 90003,.p (i64 x.now),.ow 90004]
def kK(st:Stat)(x:a_):List (Nat×AB):=[(100000,.box (H9 st x)),(90001,.ai 53 (x.queues.map qC)),(90002,.row 68 (x.ends.map wt)),(90003,.ai 59 (x.busy.map bC)),(90004,.row 34 (x.done.map dc)),(90010,.fam (nz st.gs.flatten x.jobs) [])]
def pos(gs:List (List Nat))(i k:Nat):Nat:=((gs.take i).map List.length).sum+k
theorem gr:∀(gs:List (List Nat)) (i k:Nat) (r:List Nat) (g:Nat),gs[i]?=some r->r[k]?=some g->gs.flatten[pos gs i k]?=some g
 | [],i,k,r,g,h,_=>by simp at h
 | a::gs,0,k,r,g,h,hk=>by
  simp at h;subst h;simp only[pos,oX,rA,Bv,ae,mC];rw[ba (ah hk)];exact hk
 | a::gs,i+1,k,r,g,h,hk=>by
  have:=gr gs i k r g (by simpa using h) hk;simp only[pos,Bw,qO,SX,mC]at this ⊢;rw[bd (by omega),show a.length+((gs.take i).map List.length).sum+k-a.length=((gs.take i).map List.length).sum+k by omega];exact this
theorem zS{gs:List Nat}{jobs:List lH}{m g:Nat}{j:lH}(c:gs[m]?=some g)(z:jobs[m]?=some j):(nz gs jobs)[m]?=some (g,pL j):=by
 rw[nz,W4,c,z]
theorem kx{gs:List Nat}{jobs:List lH}{m g:Nat}{j:lH}(c:gs[m]?=some g):(nz gs jobs).set m (g,pL j)=nz gs (jobs.set m j):=by
 apply lW;intro i;rw[nz,nz,W4];by_cases e:i=m
 ·subst e;by_cases hl:i<jobs.length
  ·rw[bQ (by rw[er];have:=ah c;omega),c,bQ hl]
  rw[dy (by rw[cu,er];omega),c,dy (by rw[cu];omega)]
 rw[bY (fun h=>e h.symm),bY (fun h=>e h.symm),W4]
theorem ff{α:Type}{l:List α}{i:Nat}{x:α}(f:α->List HX)(h:l[i]?=some x):(l.map f)[i]?=some (f x):=by rw[ao,h];rfl
theorem ru(l:List (List Wt)):ri (l.map qC):=fun r z x c=>by
 obtain⟨q,_,rfl⟩:=fh.1 z;simp[qC]at c;subst c;trivial
theorem A9(l:List (List Bool)):ri (l.map bC):=fun r z x c=>by
 obtain⟨q,_,rfl⟩:=fh.1 z;simp[bC]at c;subst c;trivial
theorem cP(d:Nat)(l:List (List Wt)):(l.map qC).map (fun r=>r.map (HX.Te (sc d)))=l.map qC:=by
 rw[ib];rfl
theorem cJ(i d:Nat)(l:List (List Wt)):(l.map qC).map (fun r=>r.map (HX.Te (rn i d)))=l.map qC:=by
 rw[ib];rfl
theorem lI(σ:Nat->Option Nat)(l:List (List Wt)):(l.map qC).map (fun r=>r.map (HX.Te (AV.ez σ)))=l.map qC:=by
 rw[ib];rfl
theorem dF(d:Nat)(l:List (List Bool)):(l.map bC).map (fun r=>r.map (HX.Te (sc d)))=l.map bC:=by
 rw[ib];rfl
theorem dG(i d:Nat)(l:List (List Bool)):(l.map bC).map (fun r=>r.map (HX.Te (rn i d)))=l.map bC:=by
 rw[ib];rfl
theorem lJ(σ:Nat->Option Nat)(l:List (List Bool)):(l.map bC).map (fun r=>r.map (HX.Te (AV.ez σ)))=l.map bC:=by
 rw[ib];rfl
theorem EW(a b:Fl):yx (FG a) (FG b)=decide (a.lot=b.lot/\a.panel=b.panel/\a.step=b.step/\a.visit=b.visit):=by
 simp[yx,FG,Ux,yw]
theorem jq(l:List (List Wt))(n:Nat)(q:List Wt):(l.map qC).set n [HX.row 68 (q.map wt)]=(l.set n q).map qC:=by rw[oW];rfl
theorem zT(l:List (List Bool))(n:Nat)(q:List Bool):(l.map bC).set n [HX.row 4 (q.map fun x=>[bool x])]=(l.set n q).map bC:=by rw[oW];rfl
theorem jL(l:List Wt):Dc (l.map wt):=fun row D z c=>by
 obtain⟨w,_,rfl⟩:=fh.1 D;simp[wt]at c;rcases c with h | h | h<;>rw[h]<;>rfl
theorem A_{r:List PV}{n:Nat}(h:r.length=n):∀q∈[r],q.length=n:=fun q c=>by rw[n9.1 c];exact h
def S9(x:a_)(k:Nat)(j:lH)(name:ByteArray)(bad:Bool):dQ:=⟨name,k,j.step,j.machine,j.from_,x.now,!bad⟩
def kQ(j:lH)(v:Int):lH:={ j with visits:=j.visits.set j.step (v+1) }
def qu(x:a_)(m:Nat)(j:lH)(bs:List (List Bool))(d:dQ):a_:={ x with jobs:=x.jobs.set m j,busy:=bs,done:=x.done++[d] }
def bF(x:a_)(n:Nat):List Wt:=(x.queues[n]?).getD []
def mM(st:Stat)(x:a_)(w:Wt)(k m:Nat)(j:lH)(s:gI)(b:List Bool)(v:Int)(name:ByteArray)(bad:Bool):a_:=
 let bs:=x.busy.set j.step (b.set j.machine false);let d:=S9 x k j name bad
 if bad=true/\0<=s.back/\j.made.rework<5 then
  {qu x m { kQ j v with step:=s.back.toNat,made:={ j.made with rework:=j.made.rework+1 } } bs d with queues:=x.queues.set s.back.toNat (eH (bF x s.back.toNat) w) }
 else if bad=true\/j.step+1=st.steps.length then qu x m { kQ j v with made:={ j.made with done:=!bad,at_:=x.now } } bs d
 else { qu x m { kQ j v with step:=j.step+1 } bs d with queues:=x.queues.set (j.step+1) (eH (bF x (j.step+1)) w) }
theorem EX(st:Stat)(x:a_)(at_:Int)(i k:Nat)(r:List Nat)(g:Nat)(j:lH)(s:gI)(b:List Bool)(lt:Lt)(v:Int)(V:st.gs[i]?=some r)(hk:r[k]?=some g)(hj:x.jobs[pos st.gs i k]?=some j)(hs:st.steps[j.step]?=some s)(hb:x.busy[j.step]?=some b)(hm:j.machine<b.length)(hl:st.lots[i]?=some lt)(U:j.visits[j.step]?=some v)(bad:Bool)(GM:pc ((mL st.bad).map Bz) (FG ⟨lt.name,k,j.step,v+1⟩)=match bad with | true=>some (.im (.bool true)) | false=>none)(hN:v+1<=1000000000/\0<=v)(hD:x.done.length<10000000)(hq:x.queues.length=st.steps.length)(H_:s.back<=j.step)(hr:0<=j.made.rework/\j.made.rework<=5)(hQ:∀q∈x.queues,q.length<1000000)(hS:st.steps.length<=1000):
  cR C 39 [.bx 100000 0,.p (.ag (wt (at_,i,k)))] (kK st x) (.tu []) (kK st (mM st x (at_,i,k) k (pos st.gs i k) j s b v lt.name bad)):=by
 have G:=gr st.gs i k r g V hk;have I:=zS G hj;have ls:=ah hs;refine Kz ⟨[2,3,4],[],[(7,[1100000,1000003,1090012])],[7,15],[],[]⟩ hC Tryz.func39 rfl (by kernel_rfl) fun _=>?_;refine⟨[CE r],(idx rfl V),[ptr g],(idx rfl hk),?_⟩;refine lG ((aY.zJ (by exact hC) _ 90010 90012 4 (pos st.gs i k) (by decide) (by decide) (by exact rfl) I (by exact rfl)).trans (aY.open (by exact hC) _ 90012 [90014] (by exact rfl) (by exact rfl) (by exact rfl) (by exact rfl))) ?_;refine⟨(gq s),(idx rfl hs),?_⟩;refine lG (aY.mi (by exact hC) _ 90003 j.step 0 90013 (e:=59) (by decide) (by decide) (by exact iX (AB.ai _) (by simp only[dF,dG])) (A9 _) (ff bC hb) (by exact rfl)) ?_;obtain⟨b0,Yf⟩:=a8 hm;refine⟨⟨by omega,by simp only[cu,ct,c8];exact ah hb⟩,[HX.av (.ow 90013)],(by rw[c8,bQ (by rw[ct];exact ah hb)];rfl),?_⟩;refine⟨⟨by omega,by rw[c8,ct];exact hm⟩,[bool b0],(by rw[c8,ao,Yf];rfl),?_⟩;have Pa:((x.busy.map bC).set j.step [HX.av (.ow 90013)]).set j.step [HX.row 4 ((b.map fun x=>[bool x]).set (j.machine:Int).toNat [bool false])]=(x.busy.set j.step (b.set j.machine false)).map bC:=by
  rw[Uz,c8,<-oW (f:=fun x=>[bool x]),zT]
 refine lG ((aY.jg (by exact hC) _ 90003 j.step 0 90013 (e:=59) (es:=(x.busy.map bC).set j.step [.av (.ow 90013)]) (e':=4) (xs:=(b.map fun x=>[bool x]).set (j.machine:Int).toNat [bool false]) (by decide) (by exact rfl) (by exact rfl) (by exact bQ (by rw[ct];exact ah hb)) (by exact rfl)).trans (aY.KA _ 90003 (.ai 59 ((x.busy.set j.step (b.set j.machine false)).map bC)) (by exact iX (AB.ai _) Pa))) ?_;have O:j.step<(j.visits.map fun n=>[i64 n]).length:=by rw[ct];exact ah U
 refine⟨⟨by omega,by rw[c8];exact O⟩,[i64 v],(by rw[c8,ao,U];rfl),?_⟩;refine⟨wO (by omega),⟨by omega,by rw[c8];exact O⟩,[i64 v],(by rw[c8,ao,U];rfl),?_⟩;refine⟨(jK lt),(idx rfl hl),⟨by omega,by rw[c8,cu];exact O⟩,[i64 (v+1)],(by rw[c8,bQ O];rfl),?_⟩;have J:∀j':lH,j'.visits=(kQ j v).visits->AB.row 3 ((j.visits.map fun n=>[i64 n]).set (j.step:Int).toNat [i64 (v+1)])=.row 3 (j'.visits.map fun n=>[i64 n]):=fun j' h=>by rw[h,kQ,c8,oW]
 have N:∀d:dQ,x.done.map dc++[dc d]=(x.done++[d]).map dc:=fun d=>by rw[aa];rfl
 cases bad with
 | true=>
  refine⟨(some (bool true)),GM,⟨A_ (r:=dc (S9 x k j lt.name true)) rfl,(show ((x.done.map dc).length+1)*64<=140737488355328 by rw[ct];omega),(show (x.done.map dc).length+1<=140737488355328 by rw[ct];omega)⟩,iW ?_ ?_⟩<;>intro z<;>try simp only[zB]at z
  ·apply iW<;>intro h2<;>try simp only[zB]at h2
   ·obtain⟨q,D⟩:=a8 (l:=x.queues) (i:=s.back.toNat) (by omega);have c:mM st x (at_,i,k) k (pos st.gs i k) j s b v lt.name true={ qu x (pos st.gs i k) { kQ j v with step:=s.back.toNat,made:={ j.made with rework:=j.made.rework+1 } } (x.busy.set j.step (b.set j.machine false)) (S9 x k j lt.name true) with queues:=x.queues.set s.back.toNat (eH q (at_,i,k)) }:=by
     rw[mM,qH ⟨rfl,by omega,by omega⟩,bF,D];rfl
    rw[c];refine⟨wO (by omega),⟨by omega,by simp only[cP,cJ];rw[ct];omega⟩,(qC q),(by simp only[cP,cJ];exact ff qC D),_,_,wb q (at_,i,k) (hQ q (aj D)),rfl,jL _,_,((aY.pack (by exact hC) _ 90012 (cs:=pL ({ kQ j v with step:=s.back.toNat,made:={ j.made with rework:=j.made.rework+1 } })) (by exact rfl) (by exact rfl) (by exact⟨(by show i64 s.back=i64 ((s.back.toNat:Nat):Int);rw[Int.toNat_of_nonneg (by omega)]),rfl,rfl,J _ rfl,Z,Z,Z,Z,Z,Y⟩)).trans (aY.sr (by exact hC) _ 90010 90012 (pos st.gs i k) (by exact rfl) (by exact rfl) I)).trans (aY.ez _ 117 90004 (by decide) (by decide)),rfl,rfl,?_,rfl,?_,?_,?_,trivial⟩
    ·refine iX (AB.ai _) ?_;simp only[cP,cJ];exact (iX (List.map _) (jq _ _ _)).trans (cJ _ _ _)
    ·exact iX (AB.ai _) (by simp only[dF,dG];rfl)
    ·show AB.row _ (x.done.map dc++[dc (S9 x k j lt.name true)])=AB.row _ ((x.done++[S9 x k j lt.name true]).map dc);rw[N]
    exact iX (fun l=>AB.fam l []) (kx G)
   have c:mM st x (at_,i,k) k (pos st.gs i k) j s b v lt.name true=qu x (pos st.gs i k) { kQ j v with made:={ j.made with done:=false,at_:=x.now } } (x.busy.set j.step (b.set j.machine false)) (S9 x k j lt.name true):=by
    rw[mM,af (fun h=>h2 (by have:=h.2.2;omega)),qH (.inl rfl)];rfl
   rw[c];refine⟨_,((aY.pack (by exact hC) _ 90012 (cs:=pL ({ kQ j v with made:={ j.made with done:=false,at_:=x.now } })) (by exact rfl) (by exact rfl) (by exact⟨rfl,rfl,rfl,J _ rfl,Z,Z,Z,Z,Z,Y⟩)).trans (aY.sr (by exact hC) _ 90010 90012 (pos st.gs i k) (by exact rfl) (by exact rfl) I)).trans (aY.ez _ 117 90004 (by decide) (by decide)),rfl,rfl,?_,rfl,?_,?_,?_,trivial⟩
   ·exact iX (AB.ai _) (by simp only[cP,cJ];rfl)
   ·exact iX (AB.ai _) (by simp only[dF,dG];rfl)
   ·show AB.row _ (x.done.map dc++[dc (S9 x k j lt.name true)])=AB.row _ ((x.done++[S9 x k j lt.name true]).map dc);rw[N]
   exact iX (fun l=>AB.fam l []) (kx G)
  have c:mM st x (at_,i,k) k (pos st.gs i k) j s b v lt.name true=qu x (pos st.gs i k) { kQ j v with made:={ j.made with done:=false,at_:=x.now } } (x.busy.set j.step (b.set j.machine false)) (S9 x k j lt.name true):=by
   rw[mM,af (fun h=>z (by have:=h.2.1;omega)),qH (.inl rfl)];rfl
  rw[c];refine⟨_,((aY.pack (by exact hC) _ 90012 (cs:=pL ({ kQ j v with made:={ j.made with done:=false,at_:=x.now } })) (by exact rfl) (by exact rfl) (by exact⟨rfl,rfl,rfl,J _ rfl,Z,Z,Z,Z,Z,Y⟩)).trans (aY.sr (by exact hC) _ 90010 90012 (pos st.gs i k) (by exact rfl) (by exact rfl) I)).trans (aY.ez _ 117 90004 (by decide) (by decide)),rfl,rfl,?_,rfl,?_,?_,?_,trivial⟩
  ·exact iX (AB.ai _) (by simp only[cP,cJ];rfl)
  ·exact iX (AB.ai _) (by simp only[dF,dG];rfl)
  ·show AB.row _ (x.done.map dc++[dc (S9 x k j lt.name true)])=AB.row _ ((x.done++[S9 x k j lt.name true]).map dc);rw[N]
  exact iX (fun l=>AB.fam l []) (kx G)
 | false=>
  refine⟨none,GM,⟨A_ (r:=dc (S9 x k j lt.name false)) rfl,(show ((x.done.map dc).length+1)*64<=140737488355328 by rw[ct];omega),(show (x.done.map dc).length+1<=140737488355328 by rw[ct];omega)⟩,wO (by omega),iW ?_ ?_⟩<;>intro z<;>try simp only[zB]at z
  ·rw[ct]at z;have c:mM st x (at_,i,k) k (pos st.gs i k) j s b v lt.name false=qu x (pos st.gs i k) { kQ j v with made:={ j.made with done:=true,at_:=x.now } } (x.busy.set j.step (b.set j.machine false)) (S9 x k j lt.name false):=by
    rw[mM,af (fun h=>by cases h.1),qH (.inr (by omega))];rfl
   rw[c];refine⟨_,((aY.pack (by exact hC) _ 90012 (cs:=pL ({ kQ j v with made:={ j.made with done:=true,at_:=x.now } })) (by exact rfl) (by exact rfl) (by exact⟨rfl,rfl,rfl,J _ rfl,Z,Z,Z,Z,Z,Y⟩)).trans (aY.sr (by exact hC) _ 90010 90012 (pos st.gs i k) (by exact rfl) (by exact rfl) I)).trans (aY.ez _ 117 90004 (by decide) (by decide)),rfl,rfl,?_,rfl,?_,?_,?_,trivial⟩
   ·exact iX (AB.ai _) (by simp only[cP,cJ];rfl)
   ·exact iX (AB.ai _) (by simp only[dF,dG];rfl)
   ·show AB.row _ (x.done.map dc++[dc (S9 x k j lt.name false)])=AB.row _ ((x.done++[S9 x k j lt.name false]).map dc);rw[N]
   exact iX (fun l=>AB.fam l []) (kx G)
  rw[ct]at z;obtain⟨q,D⟩:=a8 (l:=x.queues) (i:=j.step+1) (by omega);have c:mM st x (at_,i,k) k (pos st.gs i k) j s b v lt.name false={ qu x (pos st.gs i k) { kQ j v with step:=j.step+1 } (x.busy.set j.step (b.set j.machine false)) (S9 x k j lt.name false) with queues:=x.queues.set (j.step+1) (eH q (at_,i,k)) }:=by
   rw[mM,af (fun h=>by cases h.1),af (fun h=>h.elim (fun h=>by cases h) (fun h=>z (by omega))),bF,D];rfl
  rw[c];refine⟨wO (by omega),⟨by omega,by simp only[cP,cJ];rw[ct];omega⟩,(qC q),(by simp only[cP,cJ];exact ff qC D),_,_,wb q (at_,i,k) (hQ q (aj D)),rfl,jL _,_,((aY.pack (by exact hC) _ 90012 (cs:=pL ({ kQ j v with step:=j.step+1 })) (by exact rfl) (by exact rfl) (by exact⟨rfl,rfl,rfl,J _ rfl,Z,Z,Z,Z,Z,Y⟩)).trans (aY.sr (by exact hC) _ 90010 90012 (pos st.gs i k) (by exact rfl) (by exact rfl) I)).trans (aY.ez _ 117 90004 (by decide) (by decide)),rfl,rfl,?_,rfl,?_,?_,?_,trivial⟩
  ·refine iX (AB.ai _) ?_;simp only[cP,cJ];exact (iX (List.map _) (jq _ _ _)).trans (cJ _ _ _)
  ·exact iX (AB.ai _) (by simp only[dF,dG];rfl)
  ·show AB.row _ (x.done.map dc++[dc (S9 x k j lt.name false)])=AB.row _ ((x.done++[S9 x k j lt.name false]).map dc);rw[N]
  exact iX (fun l=>AB.fam l []) (kx G)
end M
end Go.Proofs.YtedjhhieekileaaGreatDoor
