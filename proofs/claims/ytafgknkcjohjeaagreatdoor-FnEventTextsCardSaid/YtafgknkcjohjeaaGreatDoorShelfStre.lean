/- The shelf's contracts at this program: what they say is proved in the library for any program. Conditions: none. -/
import Derived.Shelf.Strings.Cut
import Derived.Shelf.Strings.Split
import Derived.Shelf.Strings.Prefix
import Derived.Test.YtafgknkcjohjeaaGreatDoorLibe
import Derived.Test.YtafgknkcjohjeaaGreatDoorProg
import Derived.Shelf.LaysC
import Derived.Shelf.Strconv.ErrVarParseInt
import Derived.Shelf.Strconv.Itoa3
import Derived.Lib.SmallJoins
import Derived.Test.YtafgknkcjohjeaaGreatDoorShelfItoae
import Derived.Test.YtafgknkcjohjeaaGreatDoorStrSe
namespace Go.Proofs.YtafgknkcjohjeaaGreatDoor
open Go Go.Shelf Go.RowKit
set_option maxHeartbeats 8000000
def lays145_ren:Go.Shelf.Ren:=⟨fun | 145=>16 | 220=>34 | 219=>49 | 217=>66 | 225=>67 | 224=>68 | 267=>69 | 266=>95 | 314=>96 | n=>n,fun | 9=>9 | 4=>4 | 59=>63 | 3=>3 | 5=>5 | 46=>103 | 146=>186 | 51=>185 | n=>n,fun | 1=>0 | n=>n⟩
theorem lays145:Go.Proofs.Lays.n145 Tryz.prog lays145_ren:={
 mixed:=by kernel_rfl
 f145:=Tryz.func16.trans (congrArg some (by kernel_rfl))
 f217:=Tryz.func66.trans (congrArg some (by kernel_rfl))
 f219:=Tryz.func49.trans (congrArg some (by kernel_rfl))
 f220:=Tryz.func34.trans (congrArg some (by kernel_rfl))
 f224:=Tryz.func68.trans (congrArg some (by kernel_rfl))
 f225:=Tryz.func67.trans (congrArg some (by kernel_rfl))
 f266:=Tryz.func95.trans (congrArg some (by kernel_rfl))
 f267:=Tryz.func69.trans (congrArg some (by kernel_rfl))
 f314:=Tryz.func96.trans (congrArg some (by kernel_rfl))
 t3:=Tryz.underlying3
 a3:=Tryz.isAgg3
 z3:=Tryz.sizeOf3
 v3:=Tryz.zeroValue3
 t4:=Tryz.underlying4
 a4:=Tryz.isAgg4
 z4:=Tryz.sizeOf4
 v4:=Tryz.zeroValue4
 t5:=Tryz.underlying5
 a5:=Tryz.isAgg5
 z5:=Tryz.sizeOf5
 v5:=Tryz.zeroValue5
 t9:=Tryz.underlying9
 a9:=Tryz.isAgg9
 z9:=Tryz.sizeOf9
 v9:=Tryz.zeroValue9
 t46:=Tryz.underlying103
 a46:=Tryz.isAgg103
 z46:=Tryz.sizeOf103
 v46:=Tryz.zeroValue103
 t51:=Tryz.underlying185
 a51:=Tryz.isAgg185
 z51:=Tryz.sizeOf185
 v51:=Tryz.zeroValue185
 t59:=Tryz.underlying63
 a59:=Tryz.isAgg63
 z59:=Tryz.sizeOf63
 v59:=Tryz.zeroValue63
 t146:=Tryz.underlying186
 a146:=Tryz.isAgg186
 z146:=Tryz.sizeOf186
 v146:=Tryz.zeroValue186
 g1:=by kernel_rfl }
open Go.RowKit Go.Lib in
theorem strings_Cut (s sep:ByteArray) (m:Int) (w:World) (hs:s.size < 4294967281) (hm:w.cell? ⟨0,0,none⟩=some (.int .i64 m)) :
 Calls Tryz.prog 16 #[.string s,.string sep] w fun e w'=>e=.returned (.tuple #[.string ⟨(Lib.cut s.data.toList sep.data.toList).1.toArray⟩,.string ⟨(Lib.cut s.data.toList sep.data.toList).2.1.toArray⟩,.bool (Lib.cut s.data.toList sep.data.toList).2.2])∧∃ n,w'=w.drewN n:=Any.strings_Cut lays145 s sep m w hs hm
open Go.RowKit Go.Lib in
def lays101_ren:Go.Shelf.Ren:=⟨fun | 101=>36 | 208=>51 | 206=>73 | n=>n,fun | 9=>9 | 4=>4 | 3=>3 | n=>n,fun | n=>n⟩
theorem lays101:Go.Proofs.Lays.n101 Tryz.prog lays101_ren:={
 mixed:=by kernel_rfl
 f101:=Tryz.func36.trans (congrArg some (by kernel_rfl))
 f206:=Tryz.func73.trans (congrArg some (by kernel_rfl))
 f208:=Tryz.func51.trans (congrArg some (by kernel_rfl))
 t3:=Tryz.underlying3
 a3:=Tryz.isAgg3
 z3:=Tryz.sizeOf3
 v3:=Tryz.zeroValue3
 t4:=Tryz.underlying4
 a4:=Tryz.isAgg4
 z4:=Tryz.sizeOf4
 v4:=Tryz.zeroValue4
 t9:=Tryz.underlying9
 a9:=Tryz.isAgg9
 z9:=Tryz.sizeOf9
 v9:=Tryz.zeroValue9 }
open Go.RowKit Go.Lib in
theorem strings_TrimPrefix (s p:ByteArray) (w:World) :
 Calls Tryz.prog 36 #[.string s,.string p] w fun e w'=>e=.returned (.string ⟨(Lib.trimPrefix s.data.toList p.data.toList).toArray⟩)∧w'=w:=Any.strings_TrimPrefix lays101 s p w
open Go.RowKit Go.Lib in
def lays146_ren:Go.Shelf.Ren:=⟨fun | 146=>35 | 221=>50 | 268=>70 | 138=>71 | 143=>72 | 195=>97 | 197=>98 | 218=>99 | 219=>49 | 260=>122 | 217=>66 | 225=>67 | 224=>68 | 267=>69 | 266=>95 | 314=>96 | n=>n,fun | 9=>9 | 31=>43 | 3=>3 | 4=>4 | 0=>0 | 105=>189 | 21=>21 | 5=>5 | 46=>103 | 119=>229 | 139=>232 | 138=>231 | 146=>186 | 51=>185 | n=>n,fun | 1=>0 | 3=>4 | 4=>5 | n=>n⟩
theorem lays146:Go.Proofs.Lays.n146 Tryz.prog lays146_ren:={
 mixed:=by kernel_rfl
 f138:=Tryz.func71.trans (congrArg some (by kernel_rfl))
 f143:=Tryz.func72.trans (congrArg some (by kernel_rfl))
 f146:=Tryz.func35.trans (congrArg some (by kernel_rfl))
 f195:=Tryz.func97.trans (congrArg some (by kernel_rfl))
 f197:=Tryz.func98.trans (congrArg some (by kernel_rfl))
 f217:=Tryz.func66.trans (congrArg some (by kernel_rfl))
 f218:=Tryz.func99.trans (congrArg some (by kernel_rfl))
 f219:=Tryz.func49.trans (congrArg some (by kernel_rfl))
 f221:=Tryz.func50.trans (congrArg some (by kernel_rfl))
 f224:=Tryz.func68.trans (congrArg some (by kernel_rfl))
 f225:=Tryz.func67.trans (congrArg some (by kernel_rfl))
 f260:=Tryz.func122.trans (congrArg some (by kernel_rfl))
 f266:=Tryz.func95.trans (congrArg some (by kernel_rfl))
 f267:=Tryz.func69.trans (congrArg some (by kernel_rfl))
 f268:=Tryz.func70.trans (congrArg some (by kernel_rfl))
 f314:=Tryz.func96.trans (congrArg some (by kernel_rfl))
 t0:=Tryz.underlying0
 a0:=Tryz.isAgg0
 z0:=Tryz.sizeOf0
 v0:=Tryz.zeroValue0
 t3:=Tryz.underlying3
 a3:=Tryz.isAgg3
 z3:=Tryz.sizeOf3
 v3:=Tryz.zeroValue3
 t4:=Tryz.underlying4
 a4:=Tryz.isAgg4
 z4:=Tryz.sizeOf4
 v4:=Tryz.zeroValue4
 t5:=Tryz.underlying5
 a5:=Tryz.isAgg5
 z5:=Tryz.sizeOf5
 v5:=Tryz.zeroValue5
 t9:=Tryz.underlying9
 a9:=Tryz.isAgg9
 z9:=Tryz.sizeOf9
 v9:=Tryz.zeroValue9
 t21:=Tryz.underlying21
 a21:=Tryz.isAgg21
 z21:=Tryz.sizeOf21
 v21:=Tryz.zeroValue21
 t31:=Tryz.underlying43
 a31:=Tryz.isAgg43
 z31:=Tryz.sizeOf43
 v31:=Tryz.zeroValue43
 t46:=Tryz.underlying103
 a46:=Tryz.isAgg103
 z46:=Tryz.sizeOf103
 v46:=Tryz.zeroValue103
 t51:=Tryz.underlying185
 a51:=Tryz.isAgg185
 z51:=Tryz.sizeOf185
 v51:=Tryz.zeroValue185
 t105:=Tryz.underlying189
 a105:=Tryz.isAgg189
 z105:=Tryz.sizeOf189
 v105:=Tryz.zeroValue189
 t119:=Tryz.underlying229
 a119:=Tryz.isAgg229
 z119:=Tryz.sizeOf229
 t138:=Tryz.underlying231
 a138:=Tryz.isAgg231
 z138:=Tryz.sizeOf231
 v138:=Tryz.zeroValue231
 t139:=Tryz.underlying232
 a139:=Tryz.isAgg232
 z139:=Tryz.sizeOf232
 v139:=Tryz.zeroValue232
 t146:=Tryz.underlying186
 a146:=Tryz.isAgg186
 z146:=Tryz.sizeOf186
 v146:=Tryz.zeroValue186
 g1:=by kernel_rfl
 g3:=by kernel_rfl
 g4:=by kernel_rfl }
open Go.RowKit Go.Lib in
theorem strings_Split (s sep:ByteArray) (m:Int) (w:World) (hs:s.size < 4294967281) (hm:w.cell? ⟨0,0,none⟩=some (.int .i64 m)) (h1:1≤sep.size) :
 Calls Tryz.prog 35 #[.string s,.string sep] w fun e w' =>
  e=.returned (.slice (some ⟨w.heap.size,0,none⟩) (Lib.countB s sep+1) (Lib.countB s sep+1))∧w'=w.alloc (.cells ((Lib.splitB sep 0 (Lib.countB s sep) s).map Value.string).toArray 9):=Any.strings_Split lays146 (by kernel_rfl) s sep m w hs hm h1
def laysC174_ren:Go.Shelf.Ren:=⟨fun | 174=>37 | 247=>52 | 245=>53 | 287=>74 | 279=>75 | 280=>76 | 281=>77 | 282=>78 | 321=>100 | 322=>101 | 316=>102 | 171=>104 | 205=>103 | 243=>123 | 246=>54 | 283=>79 | 284=>80 | 285=>81 | 286=>82 | 129=>106 | 317=>105 | 318=>107 | 319=>108 | 320=>109 | 337=>124 | 338=>125 | n=>n,fun | 9=>9 | 3=>3 | 2=>2 | 75=>95 | 85=>96 | 4=>4 | 167=>148 | 5=>5 | 53=>71 | 175=>149 | 46=>103 | 168=>151 | 37=>22 | 0=>0 | 210=>195 | 21=>21 | 127=>218 | 145=>221 | 143=>219 | 171=>155 | 173=>158 | 212=>198 | 51=>185 | 20=>20 | 213=>199 | 232=>233 | 233=>234 | 80=>238 | n=>n,fun | 15=>1 | 16=>2 | 17=>3 | 18=>6 | 19=>7 | n=>n⟩
theorem laysC174:Go.Proofs.LaysC.n174 Tryz.prog laysC174_ren:={
 mixed:=by kernel_rfl
 f129:=Tryz.func106.trans (congrArg some (by kernel_rfl))
 f171:=Tryz.func104.trans (congrArg some (by kernel_rfl))
 f174:=Tryz.func37.trans (congrArg some (by kernel_rfl))
 f205:=Tryz.func103.trans (congrArg some (by kernel_rfl))
 f243:=Tryz.func123.trans (congrArg some (by kernel_rfl))
 f245:=Tryz.func53.trans (congrArg some (by kernel_rfl))
 f246:=Tryz.func54.trans (congrArg some (by kernel_rfl))
 f247:=Tryz.func52.trans (congrArg some (by kernel_rfl))
 f279:=Tryz.func75.trans (congrArg some (by kernel_rfl))
 f280:=Tryz.func76.trans (congrArg some (by kernel_rfl))
 f281:=Tryz.func77.trans (congrArg some (by kernel_rfl))
 f282:=Tryz.func78.trans (congrArg some (by kernel_rfl))
 f283:=Tryz.func79.trans (congrArg some (by kernel_rfl))
 f284:=Tryz.func80.trans (congrArg some (by kernel_rfl))
 f285:=Tryz.func81.trans (congrArg some (by kernel_rfl))
 f286:=Tryz.func82.trans (congrArg some (by kernel_rfl))
 f287:=Tryz.func74.trans (congrArg some (by kernel_rfl))
 f316:=Tryz.func102.trans (congrArg some (by kernel_rfl))
 f317:=Tryz.func105.trans (congrArg some (by kernel_rfl))
 f318:=Tryz.func107.trans (congrArg some (by kernel_rfl))
 f319:=Tryz.func108.trans (congrArg some (by kernel_rfl))
 f320:=Tryz.func109.trans (congrArg some (by kernel_rfl))
 f321:=Tryz.func100.trans (congrArg some (by kernel_rfl))
 f322:=Tryz.func101.trans (congrArg some (by kernel_rfl))
 f337:=Tryz.func124.trans (congrArg some (by kernel_rfl))
 f338:=Tryz.func125.trans (congrArg some (by kernel_rfl))
 t0:=Tryz.underlying0
 a0:=Tryz.isAgg0
 z0:=Tryz.sizeOf0
 v0:=Tryz.zeroValue0
 t2:=Tryz.underlying2
 a2:=Tryz.isAgg2
 z2:=Tryz.sizeOf2
 v2:=Tryz.zeroValue2
 t3:=Tryz.underlying3
 a3:=Tryz.isAgg3
 z3:=Tryz.sizeOf3
 v3:=Tryz.zeroValue3
 t4:=Tryz.underlying4
 a4:=Tryz.isAgg4
 z4:=Tryz.sizeOf4
 v4:=Tryz.zeroValue4
 t5:=Tryz.underlying5
 a5:=Tryz.isAgg5
 z5:=Tryz.sizeOf5
 v5:=Tryz.zeroValue5
 t9:=Tryz.underlying9
 a9:=Tryz.isAgg9
 z9:=Tryz.sizeOf9
 v9:=Tryz.zeroValue9
 t20:=Tryz.underlying20
 a20:=Tryz.isAgg20
 z20:=Tryz.sizeOf20
 v20:=Tryz.zeroValue20
 t21:=Tryz.underlying21
 a21:=Tryz.isAgg21
 z21:=Tryz.sizeOf21
 v21:=Tryz.zeroValue21
 t37:=Tryz.underlying22
 a37:=Tryz.isAgg22
 z37:=Tryz.sizeOf22
 v37:=Tryz.zeroValue22
 t46:=Tryz.underlying103
 a46:=Tryz.isAgg103
 z46:=Tryz.sizeOf103
 v46:=Tryz.zeroValue103
 t51:=Tryz.underlying185
 a51:=Tryz.isAgg185
 z51:=Tryz.sizeOf185
 v51:=Tryz.zeroValue185
 t53:=Tryz.underlying71
 a53:=Tryz.isAgg71
 z53:=Tryz.sizeOf71
 v53:=Tryz.zeroValue71
 t75:=Tryz.underlying95
 a75:=Tryz.isAgg95
 z75:=Tryz.sizeOf95
 v75:=Tryz.zeroValue95
 t85:=Tryz.underlying96
 a85:=Tryz.isAgg96
 z85:=Tryz.sizeOf96
 v85:=Tryz.zeroValue96
 t127:=Tryz.underlying218
 a127:=Tryz.isAgg218
 z127:=Tryz.sizeOf218
 v127:=Tryz.zeroValue218
 t143:=Tryz.underlying219
 a143:=Tryz.isAgg219
 z143:=Tryz.sizeOf219
 v143:=Tryz.zeroValue219
 t145:=Tryz.underlying221
 a145:=Tryz.isAgg221
 z145:=Tryz.sizeOf221
 v145:=Tryz.zeroValue221
 t167:=Tryz.underlying148
 a167:=Tryz.isAgg148
 z167:=Tryz.sizeOf148
 v167:=Tryz.zeroValue148
 t168:=Tryz.underlying151
 a168:=Tryz.isAgg151
 z168:=Tryz.sizeOf151
 v168:=Tryz.zeroValue151
 t171:=Tryz.underlying155
 a171:=Tryz.isAgg155
 z171:=Tryz.sizeOf155
 v171:=Tryz.zeroValue155
 t173:=Tryz.underlying158
 a173:=Tryz.isAgg158
 z173:=Tryz.sizeOf158
 v173:=Tryz.zeroValue158
 t175:=Tryz.underlying149
 a175:=Tryz.isAgg149
 z175:=Tryz.sizeOf149
 v175:=Tryz.zeroValue149
 t210:=Tryz.underlying195
 a210:=Tryz.isAgg195
 z210:=Tryz.sizeOf195
 v210:=Tryz.zeroValue195
 t212:=Tryz.underlying198
 a212:=Tryz.isAgg198
 z212:=Tryz.sizeOf198
 v212:=Tryz.zeroValue198
 t213:=Tryz.underlying199
 a213:=Tryz.isAgg199
 z213:=Tryz.sizeOf199
 t232:=Tryz.underlying233
 a232:=Tryz.isAgg233
 z232:=Tryz.sizeOf233
 v232:=Tryz.zeroValue233
 t233:=Tryz.underlying234
 a233:=Tryz.isAgg234
 z233:=Tryz.sizeOf234
 v233:=Tryz.zeroValue234
 g15:=by kernel_rfl
 g16:=by kernel_rfl
 g17:=by kernel_rfl
 g18:=by kernel_rfl
 g19:=by kernel_rfl
 t80:=Tryz.underlying238
 a80:=Tryz.isAgg238
 z80:=Tryz.sizeOf238
 v80:=Tryz.zeroValue238
 i0:=by kernel_rfl
 i2:=by kernel_rfl
 i3:=by kernel_rfl
 i4:=by kernel_rfl
 i5:=by kernel_rfl
 i9:=by kernel_rfl
 i20:=by kernel_rfl
 i21:=by kernel_rfl
 i37:=by kernel_rfl
 i46:=by kernel_rfl
 i51:=by kernel_rfl
 i53:=by kernel_rfl
 i75:=by kernel_rfl
 i80:=by kernel_rfl
 i85:=by kernel_rfl
 i127:=by kernel_rfl
 i143:=by kernel_rfl
 i145:=by kernel_rfl
 i167:=by kernel_rfl
 i168:=by kernel_rfl
 i171:=by kernel_rfl
 i173:=by kernel_rfl
 i175:=by kernel_rfl
 i210:=by kernel_rfl
 i212:=by kernel_rfl
 i232:=by kernel_rfl
 i233:=by kernel_rfl
 m15:=by kernel_rfl
 m16:=by kernel_rfl
 m17:=by kernel_rfl
 m18:=by kernel_rfl
 m19:=by kernel_rfl
 c0:=by kernel_rfl
 c2:=by kernel_rfl
 c3:=by kernel_rfl
 c4:=by kernel_rfl
 c5:=by kernel_rfl
 c9:=by kernel_rfl
 c20:=by kernel_rfl
 c21:=by kernel_rfl
 c37:=by kernel_rfl
 c46:=by kernel_rfl
 c51:=by kernel_rfl
 c53:=by kernel_rfl
 c75:=by kernel_rfl
 c80:=by kernel_rfl
 c85:=by kernel_rfl
 c127:=by kernel_rfl
 c143:=by kernel_rfl
 c145:=by kernel_rfl
 c167:=by kernel_rfl
 c168:=by kernel_rfl
 c171:=by kernel_rfl
 c173:=by kernel_rfl
 c175:=by kernel_rfl
 c210:=by kernel_rfl
 c212:=by kernel_rfl
 c213:=by kernel_rfl
 c232:=by kernel_rfl
 c233:=by kernel_rfl }
open Go.RowKit in
theorem strconv_ParseInt_10_at64_ok (s:ByteArray) (hmax:s.size≤9223372036854775806) (v:Int) (h:Lib.parseIntB 64 s.data.toList=.ok v) (w:World) :
 Calls Tryz.prog 37 #[.string s,.int .i64 10,.int .i64 64] w fun e w'=>e=.returned (.tuple #[.int .i64 v,.nilIface])∧(w'=w∨∃ t,w'=Lib.bytesWorld w 5 t):=Any.strconv_ParseInt_10_at64_ok laysC174 s hmax v h w
open Go.RowKit in
theorem strconv_ParseInt_10_at64_syntax_var (s:ByteArray) (hlim:s.size≤281474976710656) (h:Lib.parseIntB 64 s.data.toList=Lib.NumEnd.syntax) (tp:TypeId) (p:Value) (w:World) (hvar:w.var? Tryz.prog "strconv.ErrSyntax" = some #[.iface tp p]) :
 Calls Tryz.prog 37 #[.string s,.int .i64 10,.int .i64 64] w fun e w'=>∃ N,e=.returned (.tuple #[.int .i64 (0),.iface 151 (.pointer (some ⟨N,0,none⟩))])∧w.heap.size≤N∧w'.heap[N]?=some (.cells #[.string ⟨#[80,97,114,115,101,73,110,116]⟩,.string s,.iface tp p] 195 (0,0))∧Below w.heap.size w w':=Any.strconv_ParseInt_10_at64_syntax_var laysC174 s hlim h tp p w hvar
open Go.RowKit in
theorem strconv_ParseInt_10_at64_range_var (s:ByteArray) (hlim:s.size≤281474976710656) (h:Lib.parseIntB 64 s.data.toList=.range) (tp:TypeId) (p:Value) (w:World) (hvar:w.var? Tryz.prog "strconv.ErrRange" = some #[.iface tp p]) :
 Calls Tryz.prog 37 #[.string s,.int .i64 10,.int .i64 64] w fun e w'=>∃ N,e=.returned (.tuple #[.int .i64 (Lib.intSat 64 s.data.toList),.iface 151 (.pointer (some ⟨N,0,none⟩))])∧w.heap.size≤N∧w'.heap[N]?=some (.cells #[.string ⟨#[80,97,114,115,101,73,110,116]⟩,.string s,.iface tp p] 195 (0,0))∧Below w.heap.size w w':=Any.strconv_ParseInt_10_at64_range_var laysC174 s hlim h tp p w hvar
end Go.Proofs.YtafgknkcjohjeaaGreatDoor
namespace Go.Proofs.YtafgknkcjohjeaaGreatDoor
open Go Go.RowKit
set_option maxHeartbeats 8000000
structure Env (w:World):Prop where
 tab:Tab w
 max:∃ m,w.cell? ⟨0,0,none⟩=some (.int .i64 m)
 syn:∃ tp p,w.var? Tryz.prog "strconv.ErrSyntax" = some #[.iface tp p]
 ran:∃ tp p,w.var? Tryz.prog "strconv.ErrRange" = some #[.iface tp p]
theorem var_later {w w':World} {n:String} {g:Nat} {cs:Array Value} (hg:Tryz.prog.globalNamed n=some g) (h:w.var? Tryz.prog n=some cs) (hb:Below w.heap.size w w'):w'.var? Tryz.prog n=some cs :=
 Joins.var_stays hg h hb (Nat.le_refl _)
theorem gSyn:Tryz.prog.globalNamed "strconv.ErrSyntax" = some 1:=by kernel_rfl
theorem gRan:Tryz.prog.globalNamed "strconv.ErrRange" = some 2:=by kernel_rfl
theorem Env.below {w w':World} (h:Env w) (hb:Below w.heap.size w w'):Env w':=by
 obtain ⟨m,hm⟩:=h.max;obtain ⟨t1,p1,h1⟩:=h.syn;obtain ⟨t2,p2,h2⟩:=h.ran;exact ⟨h.tab.below hb,⟨m,(hb.cell (Lib.lt_of_cell hm)).trans hm⟩,⟨t1,p1,var_later gSyn h1 hb⟩,⟨t2,p2,var_later gRan h2 hb⟩⟩
theorem index_app {w r:List UInt8} (h:∀ b∈w,b≠32):Lib.index (w++32 :: r) [32]=w.length:=by
 rw [Lib.index_one]
 induction w with
 | nil=>simp [Lib.indexByte]
 | cons b w ih =>
   have hb:=h b (List.mem_cons_self ..);rw [List.cons_append,Lib.indexByte,ih (fun c hc=>h c (List.mem_cons_of_mem _ hc))];simp only [beq_iff_eq,hb,if_false,List.length_cons];rw [if_neg (by omega)]; omega
theorem first_blank:∀ {l:List UInt8},32∈l→∃ w r,l=w++32 :: r∧∀ b∈w,b≠32
 | b :: l,h=>by
   by_cases hb:b=32
   · subst hb; exact ⟨[],l,rfl,by simp⟩
   · obtain ⟨w,r,rfl,hw⟩:=first_blank (l:=l) (by rcases List.mem_cons.1 h with h | h; exact absurd h.symm hb; exact h)
     refine ⟨b :: w,r,rfl,?_⟩;intro c hc;rcases List.mem_cons.1 hc with rfl | hc
     · exact hb
     · exact hw c hc
theorem splitB_list:∀ (k:Nat) (s:ByteArray),Lib.countB s ⟨#[32]⟩=k→(Lib.splitB ⟨#[32]⟩ 0 k s).map (fun b=>b.data.toList)=splitL s.data.toList
 | 0,s,h=>by
   have hc:s.data.toList.count 32=0:=by rw [← Lib.count_one]; exact h
   rw [Lib.splitB_zero,split_word (fun b hb hb2=>List.count_eq_zero.1 hc (hb2 ▸ hb))];rfl
 | k+1,s,h=>by
   have hc:s.data.toList.count 32=k+1:=by rw [← Lib.count_one]; exact h
   obtain ⟨w,r,hl,hw⟩:=first_blank (List.count_pos_iff.1 (by omega:0 < s.data.toList.count 32))
   have hi:Lib.indexB s ⟨#[32]⟩=w.length:=by
    show Lib.index s.data.toList [32]=_
    rw [hl,index_app hw]
   have hsz:s.size=w.length+(r.length+1):=by rw [Lib.size_eq,hl]; simp
   have hrest:(s.extract (w.length+1) s.size).data.toList=r:=by
    rw [ByteArray.data_extract,Array.toList_extract,List.extract_eq_take_drop,hl,hsz];simp;exact List.take_of_length_le (by omega)
   have hfst:(s.extract 0 w.length).data.toList=w:=by
    rw [ByteArray.data_extract,Array.toList_extract,List.extract_eq_take_drop,hl];simp
   have hcr:Lib.countB (s.extract (w.length+1) s.size) ⟨#[32]⟩=k:=by
    show Lib.count (s.extract (w.length+1) s.size).data.toList [32]=k
    rw [hrest,Lib.count_one];rw [hl,List.count_append,List.count_eq_zero.2 (fun hm=>hw 32 hm rfl),List.count_cons_self] at hc;omega
   rw [Lib.splitB,if_neg (by rw [hi]; simp),hi,hl,split_app hw,List.map_cons];simp only [Int.toNat_natCast,Nat.add_zero];rw [hfst];have:=splitB_list k _ hcr;rw [hrest] at this;rw [← this];rfl
theorem splitL_le:∀ (l:List UInt8),(∀ w∈splitL l,w.length≤l.length)∧(splitL l).length≤l.length+1
 | []=>by simp [splitL]
 | b :: l=>by
   obtain ⟨h1,h2⟩:=splitL_le l;cases hs:splitL l with
   | nil=>exact absurd hs (splitL_ne l)
   | cons w r =>
     rw [hs] at h1 h2;rw [splitL,hs]
     split
     · refine ⟨?_,by simp at h2 ⊢; omega⟩
       intro v hv;rcases List.mem_cons.1 hv with rfl | hv
       · simp
       · have:=h1 v hv; simp; omega
     · refine ⟨?_,by simp at h2 ⊢; omega⟩
       intro v hv;rcases List.mem_cons.1 hv with rfl | hv
       · have:=h1 w (List.mem_cons_self ..); simp; omega
       · have:=h1 v (List.mem_cons_of_mem _ hv); simp; omega
theorem ba_size (s:ByteArray):s.data.toList.length=s.size:=(Lib.size_eq s).symm
theorem impl_wordsOf_c (s:ByteArray) (w:World) (hs:s.size≤1048576) (hE:Env w) :
 Calls Tryz.prog 17 #[.string s] w fun e w'=>∃ ws v,e=.returned v∧ws.map (fun b:ByteArray=>b.data.toList)=splitL s.data.toList∧(strs 9).rep true w' ws [v] [w.heap.size]∧Below w.heap.size w w':=by
 obtain ⟨m,hm⟩:=hE.max;have C:=Lib.hid (strings_Split s ⟨#[32]⟩ m w (by omega) hm (by decide));have hl:=Lib.splitB_all ⟨#[32]⟩ (by decide) 0 _ s rfl;have hm:=splitB_list _ s rfl;have hz:=(splitL_le s.data.toList).1;have hz2:=(splitL_le s.data.toList).2;rw [← hm,ba_size] at hz hz2;rw [List.length_map] at hz2;generalize Lib.splitB ⟨#[32]⟩ 0 (Lib.countB s ⟨#[32]⟩) s=ws at C hl hm hz hz2;generalize Lib.countB s ⟨#[32]⟩=k at C hl
 have hrep:(strs 9).rep true (w.alloc (.cells (ws.map Value.string).toArray 9)) ws [.slice (some ⟨w.heap.size,0,none⟩) ws.length ws.length] [w.heap.size] :=
  slice_of_row (Row.new w _ _) (repL_strs ws (fun p hp=>by have:=hz p.data.toList (List.mem_map_of_mem hp); rw [ba_size] at this; unfold maxLen; omega)) (by unfold maxLen; omega)
 rw [hl] at hrep
 go_enter Tryz.func17,Tryz.ntmps17
 go_wp2_with fail
 refine C.out.mono ?_;rintro e w1 ⟨rfl,rfl⟩
 go_wp2_with fail
 go_ret;exact ⟨ws,_,rfl,hm,hrep,(Below.refl _ _).alloc (Nat.le_refl _) _⟩
theorem FormatIntI_c (n:Int) (w:World) (h0:-9223372036854775808≤n) (h1:n≤9223372036854775807) (htab:Lib.TabIs Tryz.prog w "internal/strconv.uint64pow10" .u64 Lib.pow10Tab) :
 Calls Tryz.prog 40 #[.int .i64 n,.int .i64 10] w fun e w'=>e=.returned (.string ⟨(Lib.itoa n).toArray⟩)∧Below w.heap.size w w':=by
 have HC:=Lib.hid (FormatInt10_c n h0 h1)
 go_enter Tryz.func40,Tryz.ntmps40
 go_wp2_with fail
 refine (HC.out _ htab).mono ?_;rintro e w1 ⟨rfl,k,os,rfl⟩
 go_wp2_with fail
 go_ret;exact ⟨rfl,grow_below⟩
theorem impl_DecimalI_c (n:Int) (w:World) (h0:-9223372036854775808≤n) (h1:n≤9223372036854775807) (hT:Tab w) :
 Calls Tryz.prog 21 #[.int .i64 n] w fun e w'=>e=.returned (.string ⟨(Lib.itoa n).toArray⟩)∧Below w.heap.size w w':=by
 have HC:=Lib.hid (FormatIntI_c n w h0 h1 hT)
 go_enter Tryz.func21,Tryz.ntmps21
 go_wp2_with fail
 refine HC.out.mono ?_;rintro e w1 ⟨rfl,hb⟩
 go_wp2_with fail
 go_ret;exact ⟨rfl,hb⟩
theorem rdec_ok (l:List UInt8):I64 (rdec l).1:=by
 unfold rdec
 split
 · exact ⟨by decide,by decide⟩
 · split
   · rename_i v hv
     have:=Lib.parseIntB_bounds hv
     split
     · exact ⟨by simp at this ⊢; omega,by simp at this ⊢; omega⟩
     · exact ⟨by decide,by decide⟩
   · exact ⟨by decide,by decide⟩
theorem bytesWorld_below' {w w':World} {t:TypeId} (h:w'=w∨∃ s,w'=Lib.bytesWorld w t s):Below w.heap.size w w':=by
 rcases h with rfl | ⟨s,rfl⟩
 · exact Below.refl _ _
 · exact Lib.bytesWorld_below _ _ _
theorem impl_ReadDecimal_c (s:ByteArray) (w:World) (hs:s.size≤1048576) (hE:Env w) :
 Calls Tryz.prog 18 #[.string s] w fun e w'=>e=.returned (.tuple #[.int .i64 (rdec s.data.toList).1,.bool (rdec s.data.toList).2])∧Below w.heap.size w w':=by
 have CT:=Lib.hid (strings_TrimPrefix s ⟨#[45]⟩ w);obtain ⟨t,ht⟩:∃ t:ByteArray,t=⟨(Lib.trimPrefix s.data.toList [45]).toArray⟩:=⟨_,rfl⟩
 rw [show (⟨#[45]⟩:ByteArray).data.toList=[45] from rfl,← ht] at CT;have hl:(Lib.trimPrefix s.data.toList [45]).length=t.size:=by rw [ht]; rfl
 have hv:rdec s.data.toList=if t.size < 1∨18 < t.size then (0,false)
  else match Lib.parseIntB 64 s.data.toList with
  | .ok v=>if Lib.itoa v=s.data.toList then (v,true) else (0,false)
  | _=>(0,false):=by rw [rdec,hl]; rfl
 rw [hv];clear hv hl ht
 by_cases h1:t.size < 1
 · have g1:((t.size:Int) < 1)=True:=eq_true (by omega)
   rw [if_pos (.inl h1)];clear h1
   go_enter Tryz.func18,Tryz.ntmps18
   go_wp2_with fail
   refine CT.out.mono ?_;rintro e w1 ⟨rfl,rfl⟩
   go_wp2_with fail
   go_ret2
   exact ⟨rfl,Below.refl _ _⟩
 have g1:((t.size:Int) < 1)=False:=eq_false (by omega)
 by_cases h2:18 < t.size
 · have g2:((18:Int) < t.size)=True:=eq_true (by omega)
   rw [if_pos (.inr h2)];clear h1 h2
   go_enter Tryz.func18,Tryz.ntmps18
   go_wp2_with fail
   refine CT.out.mono ?_;rintro e w1 ⟨rfl,rfl⟩
   go_wp2_with fail
   go_ret2
   exact ⟨rfl,Below.refl _ _⟩
 have g2:((18:Int) < t.size)=False:=eq_false (by omega);rw [if_neg (by omega)];clear h1 h2;rcases hp:Lib.parseIntB 64 s.data.toList with v | _ | _
 ·
  have CP:=Lib.hid (strconv_ParseInt_10_at64_ok s (by omega) v hp w);have hb:=Lib.parseIntB_bounds hp;have CD:=Lib.hid (fun w' (q:Tab w')=>impl_DecimalI_c v w' (by simp at hb; omega) (by simp at hb; omega) q);obtain ⟨d,hd⟩:∃ d:ByteArray,d=⟨(Lib.itoa v).toArray⟩:=⟨_,rfl⟩
  rw [← hd] at CD
  have hq:(Lib.itoa v=s.data.toList)=(d=s):=by
   rw [hd,eq_iff_iff];constructor
   · intro h; rw [h]
   · intro h; rw [← h]
  simp only [hq];have hT:=hE.tab;clear hb hp hd hq
  by_cases he:d=s
  · have ge:(!d.toList == s.toList)=false:=by rw [he]; simp
    rw [if_pos he];clear he
    go_enter Tryz.func18,Tryz.ntmps18
    go_wp2_with fail
    refine CT.out.mono ?_;rintro e w1 ⟨rfl,rfl⟩
    go_wp2_with fail
    refine CP.out.mono ?_;rintro e w2 ⟨rfl,hw⟩;have b2:=bytesWorld_below' hw;clear hw
    go_wp2_with fail
    refine (CD.out _ (hT.below b2)).mono ?_;rintro e w3 ⟨rfl,b3⟩
    go_wp2_with fail
    go_ret2
    exact ⟨rfl,b2.trans (b3.mono b2.size)⟩
  · have ge:(!d.toList == s.toList)=true:=by rw [str_eq]; simp [he]
    rw [if_neg he];clear he
    go_enter Tryz.func18,Tryz.ntmps18
    go_wp2_with fail
    refine CT.out.mono ?_;rintro e w1 ⟨rfl,rfl⟩
    go_wp2_with fail
    refine CP.out.mono ?_;rintro e w2 ⟨rfl,hw⟩;have b2:=bytesWorld_below' hw;clear hw
    go_wp2_with fail
    refine (CD.out _ (hT.below b2)).mono ?_;rintro e w3 ⟨rfl,b3⟩
    go_wp2_with fail
    go_ret2
    exact ⟨rfl,b2.trans (b3.mono b2.size)⟩
 ·
  obtain ⟨tp,p,hvar⟩:=hE.syn;have CP:=Lib.hid (strconv_ParseInt_10_at64_syntax_var s (by omega) hp tp p w hvar);clear hvar hp
  go_enter Tryz.func18,Tryz.ntmps18
  go_wp2_with fail
  refine CT.out.mono ?_;rintro e w1 ⟨rfl,rfl⟩
  go_wp2_with fail
  refine CP.out.mono ?_;rintro e w2 ⟨N,rfl,_,_,b2⟩
  go_wp2_with fail
  go_ret2
  exact ⟨rfl,b2⟩
 ·
  obtain ⟨tp,p,hvar⟩:=hE.ran;have CP:=Lib.hid (strconv_ParseInt_10_at64_range_var s (by omega) hp tp p w hvar);generalize Lib.intSat 64 s.data.toList=z at CP;clear hvar hp
  go_enter Tryz.func18,Tryz.ntmps18
  go_wp2_with fail
  refine CT.out.mono ?_;rintro e w1 ⟨rfl,rfl⟩
  go_wp2_with fail
  refine CP.out.mono ?_;rintro e w2 ⟨N,rfl,_,_,b2⟩
  go_wp2_with fail
  go_ret2
  exact ⟨rfl,b2⟩
end Go.Proofs.YtafgknkcjohjeaaGreatDoor
