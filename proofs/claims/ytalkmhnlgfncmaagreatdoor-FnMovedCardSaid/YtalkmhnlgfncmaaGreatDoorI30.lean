/- My own texts of this seat and its words, merged: XShelf, XDec, XShelfP, XWide, XJoin, Xp10, CText, XShelfS. Conditions: as each lemma says. -/
import Derived.Shelf.Strings.Builder1
import Derived.Shelf.Strings.Builder2
import Derived.Shelf.Strings.OnBuilder
import Derived.Shelf.Strings.BuilderF
import Derived.Shelf.Strings.BuilderK
import Derived.Shelf.Utf8.RuneCount
import Derived.Shelf.Strings.Builder2Cap
import Derived.Shelf.Strconv.Itoa0
import Derived.Shelf.Strconv.Itoa1
import Derived.Shelf.LaysM
import Derived.Shelf.Strconv.Itoa2
import Derived.Shelf.Strconv.Itoa3
import Derived.Shelf.Strconv.Itoa4
import Derived.Shelf.Strconv.ParseIntEmpty
import Derived.Shelf.Strconv.Clone
import Derived.Shelf.Strconv.SyntaxError
import Derived.Shelf.LaysC
import Derived.Shelf.Strconv.ToError
import Derived.Shelf.Strconv.Lower
import Derived.Shelf.Strconv.ParseUint10
import Derived.Shelf.Strconv.ParseUint10Empty
import Derived.Shelf.Strconv.ParseUint10Any
import Derived.Shelf.Strconv.ParseInt10
import Derived.Shelf.Strconv.RangeError
import Derived.Shelf.Strconv.ToErrorRange
import Derived.Shelf.Strconv.ParseUintEmpty
import Derived.Shelf.Strconv.ParseUint10b64
import Derived.Shelf.Strconv.ParseUint10b32
import Derived.Shelf.Strconv.ParseUint10b16
import Derived.Shelf.Strconv.ParseUint10b8
import Derived.Shelf.Strconv.ParseUint10At
import Derived.Shelf.Strconv.ParseInt10At64
import Derived.Shelf.Strconv.ParseInt10At32
import Derived.Shelf.Strconv.ParseInt10At16
import Derived.Shelf.Strconv.ParseInt10At8
import Derived.Shelf.Strings.Search1
import Derived.Shelf.Strings.Search2
import Derived.Shelf.Strings.Search3
import Derived.Shelf.Strings.Cut
import Derived.Shelf.Strings.Count
import Derived.Shelf.Strings.Shaped
import Derived.Shelf.Strings.Split
import Derived.Shelf.Strings.SplitShaped
import Derived.Shelf.Unicode.Decode
import Derived.Shelf.Strings.RuneCount
import Derived.Shelf.Strings.Explode
import Derived.Shelf.Unicode.DecodeSlow
import Derived.Shelf.Unicode.DecodeAny
import Derived.Shelf.Strings.BuilderCap
import Derived.Ground.SlgnProg
import Derived.Shelf.SlicesG.Turned
import Derived.Shelf.SlicesG.Clone
import Derived.Shelf.SlicesE.Clone
import Derived.Test.YtalkmhnlgfncmaaGreatDoorProg
import Derived.Test.YtalkmhnlgfncmaaGreatDoorI21
import Derived.Lib.Walk
import Derived.Lib.AppendIntMem
import Derived.Test.YtalkmhnlgfncmaaGreatDoorI23
import Derived.Lib.AtoiErrMem
import Derived.Lib.SmallJoins
import Derived.Test.YtalkmhnlgfncmaaGreatDoorI25
import Derived.Lib.ItoaMem
import Derived.Test.YtalkmhnlgfncmaaGreatDoorXSlim
set_option linter.unusedVariables false
set_option linter.unusedSimpArgs false
section
/- Contracts of Go's library, as the shelf lays them at this seat's translation. Conditions: as each says. -/
namespace Go.Proofs
open Go.Shelf
def Tryz.lays156_ren:Go.Shelf.Ren:=⟨fun|156=>27|165=>52|166=>53|169=>54|240=>70|241=>71|276=>81|277=>82|n=>n,fun|31=>55|9=>9|3=>3|4=>4|0=>0|20=>20|72=>91|76=>95|70=>89|37=>22|75=>94|127=>109|164=>121|5=>5|80=>97|n=>n,fun|n=>n⟩
theorem Tryz.lays156:Go.Proofs.Lays.n156 Tryz.prog Tryz.lays156_ren:={
 mixed:=by kernel_rfl
 f156:=Tryz.func27.trans (congrArg some (by kernel_rfl))
 f165:=Tryz.func52.trans (congrArg some (by kernel_rfl))
 f166:=Tryz.func53.trans (congrArg some (by kernel_rfl))
 f169:=Tryz.func54.trans (congrArg some (by kernel_rfl))
 f240:=Tryz.func70.trans (congrArg some (by kernel_rfl))
 f241:=Tryz.func71.trans (congrArg some (by kernel_rfl))
 f276:=Tryz.func81.trans (congrArg some (by kernel_rfl))
 f277:=Tryz.func82.trans (congrArg some (by kernel_rfl))
 t0:=Tryz.underlying0
 a0:=Tryz.isAgg0
 z0:=Tryz.sizeOf0
 v0:=Tryz.zeroValue0
 t3:=Tryz.underlying3
 a3:=Tryz.isAgg3
 z3:=Tryz.sizeOf3
 v3:=Tryz.zeroValue3
 t4:=Tryz.underlying4
 a4:=Tryz.isAgg4
 z4:=Tryz.sizeOf4
 v4:=Tryz.zeroValue4
 t9:=Tryz.underlying9
 a9:=Tryz.isAgg9
 z9:=Tryz.sizeOf9
 v9:=Tryz.zeroValue9
 t20:=Tryz.underlying20
 a20:=Tryz.isAgg20
 z20:=Tryz.sizeOf20
 v20:=Tryz.zeroValue20
 t31:=Tryz.underlying55
 a31:=Tryz.isAgg55
 z31:=Tryz.sizeOf55
 v31:=Tryz.zeroValue55
 t37:=Tryz.underlying22
 a37:=Tryz.isAgg22
 z37:=Tryz.sizeOf22
 v37:=Tryz.zeroValue22
 t70:=Tryz.underlying89
 a70:=Tryz.isAgg89
 z70:=Tryz.sizeOf89
 v70:=Tryz.zeroValue89
 t72:=Tryz.underlying91
 a72:=Tryz.isAgg91
 z72:=Tryz.sizeOf91
 v72:=Tryz.zeroValue91
 t75:=Tryz.underlying94
 a75:=Tryz.isAgg94
 z75:=Tryz.sizeOf94
 v75:=Tryz.zeroValue94
 t76:=Tryz.underlying95
 a76:=Tryz.isAgg95
 z76:=Tryz.sizeOf95
 v76:=Tryz.zeroValue95
 t127:=Tryz.underlying109
 a127:=Tryz.isAgg109
 z127:=Tryz.sizeOf109
 v127:=Tryz.zeroValue109
 t164:=Tryz.underlying121
 a164:=Tryz.isAgg121
 z164:=Tryz.sizeOf121
 v164:=Tryz.zeroValue121 }
theorem Tryz.Builder_Extra_156:Builder.Extra Tryz.prog Tryz.lays156_ren:={
 sizeBuilder:=by kernel_rfl
 liesBuilder:=by kernel_rfl
 t5:=Tryz.underlying5
 a5:=Tryz.isAgg5
 z5:=Tryz.sizeOf5
 v5:=Tryz.zeroValue5
 infoByte:=by kernel_rfl
 cellsByte:=by kernel_rfl
 sizeByte:=by kernel_rfl
 neB5:=by decide }
open Go.RowKit in
/-- No element: the empty string; the world is as it was. (Whatever the slice's address and capacity: a nil slice too.) (LAID: no walk: one application.) -/
theorem Tryz.strings_Join_none (a:Option Addr) (c:Nat) (sep:ByteArray) (w:World):
 Calls Tryz.prog 27 #[.slice a 0 c,.string sep] w fun e w'=>e= .returned (.string ⟨#[]⟩)∧w'=w:=Any.strings_Join_none Tryz.lays156 Tryz.Builder_Extra_156 a c sep w
open Go.RowKit in
/-- strings.Join: "Join concatenates the elements of its first argument to create a single string. The separator string sep is placed between elements in the resulting string.": HOWEVER MANY ELEMENTS. Below the heap's end the world is as it was. (LAID: no walk: one application.) -/
theorem Tryz.strings_Join (bk o c:Nat) (xs:List ByteArray) (sep:ByteArray) (w:World) (hcells:∀ (j:Nat) x,xs[j]?=some x→w.cell? ⟨bk,o+j,none⟩=some (.string x)) (hbk:bk<w.heap.size) (hN:xs.length≤140737488355328) (hcap:xs.length≤c) (hlen:(Lib.join (xs.map (·.data.toList)) sep.data.toList).length≤140737488355328):
 Calls Tryz.prog 27 #[.slice (some ⟨bk,o,none⟩) xs.length c,.string sep] w fun e w'=>e= .returned (.string ⟨(Lib.join (xs.map (·.data.toList)) sep.data.toList).toArray⟩)∧Below w.heap.size w w':=Any.strings_Join Tryz.lays156 Tryz.Builder_Extra_156 bk o c xs sep w hcells hbk hN hcap hlen
def Tryz.laysM173_ren:Go.Shelf.Ren:=⟨fun|173=>51|246=>69|283=>77|284=>78|285=>79|286=>80|129=>93|317=>92|318=>94|319=>95|320=>96|337=>105|338=>106|n=>n,fun|2=>2|3=>3|9=>9|4=>4|171=>116|0=>0|53=>70|37=>22|5=>5|173=>119|212=>131|51=>132|20=>20|213=>133|46=>114|232=>155|233=>156|n=>n,fun|17=>1|18=>6|19=>7|n=>n⟩
theorem Tryz.laysM173:Go.Proofs.LaysM.n173 Tryz.prog Tryz.laysM173_ren:={
 mixed:=by kernel_rfl
 f129:=Tryz.func93.trans (congrArg some (by kernel_rfl))
 f173:=Tryz.func51.trans (congrArg some (by kernel_rfl))
 f246:=Tryz.func69.trans (congrArg some (by kernel_rfl))
 f283:=Tryz.func77.trans (congrArg some (by kernel_rfl))
 f284:=Tryz.func78.trans (congrArg some (by kernel_rfl))
 f285:=Tryz.func79.trans (congrArg some (by kernel_rfl))
 f286:=Tryz.func80.trans (congrArg some (by kernel_rfl))
 f317:=Tryz.func92.trans (congrArg some (by kernel_rfl))
 f318:=Tryz.func94.trans (congrArg some (by kernel_rfl))
 f319:=Tryz.func95.trans (congrArg some (by kernel_rfl))
 f320:=Tryz.func96.trans (congrArg some (by kernel_rfl))
 f337:=Tryz.func105.trans (congrArg some (by kernel_rfl))
 f338:=Tryz.func106.trans (congrArg some (by kernel_rfl))
 t0:=Tryz.underlying0
 a0:=Tryz.isAgg0
 z0:=Tryz.sizeOf0
 v0:=Tryz.zeroValue0
 t2:=Tryz.underlying2
 a2:=Tryz.isAgg2
 z2:=Tryz.sizeOf2
 v2:=Tryz.zeroValue2
 t3:=Tryz.underlying3
 a3:=Tryz.isAgg3
 z3:=Tryz.sizeOf3
 v3:=Tryz.zeroValue3
 t4:=Tryz.underlying4
 a4:=Tryz.isAgg4
 z4:=Tryz.sizeOf4
 v4:=Tryz.zeroValue4
 t5:=Tryz.underlying5
 a5:=Tryz.isAgg5
 z5:=Tryz.sizeOf5
 v5:=Tryz.zeroValue5
 t9:=Tryz.underlying9
 a9:=Tryz.isAgg9
 z9:=Tryz.sizeOf9
 v9:=Tryz.zeroValue9
 t20:=Tryz.underlying20
 a20:=Tryz.isAgg20
 z20:=Tryz.sizeOf20
 v20:=Tryz.zeroValue20
 t37:=Tryz.underlying22
 a37:=Tryz.isAgg22
 z37:=Tryz.sizeOf22
 v37:=Tryz.zeroValue22
 t46:=Tryz.underlying114
 a46:=Tryz.isAgg114
 z46:=Tryz.sizeOf114
 v46:=Tryz.zeroValue114
 t51:=Tryz.underlying132
 a51:=Tryz.isAgg132
 z51:=Tryz.sizeOf132
 v51:=Tryz.zeroValue132
 t53:=Tryz.underlying70
 a53:=Tryz.isAgg70
 z53:=Tryz.sizeOf70
 v53:=Tryz.zeroValue70
 t171:=Tryz.underlying116
 a171:=Tryz.isAgg116
 z171:=Tryz.sizeOf116
 v171:=Tryz.zeroValue116
 t173:=Tryz.underlying119
 a173:=Tryz.isAgg119
 z173:=Tryz.sizeOf119
 v173:=Tryz.zeroValue119
 t212:=Tryz.underlying131
 a212:=Tryz.isAgg131
 z212:=Tryz.sizeOf131
 v212:=Tryz.zeroValue131
 t213:=Tryz.underlying133
 a213:=Tryz.isAgg133
 z213:=Tryz.sizeOf133
 t232:=Tryz.underlying155
 a232:=Tryz.isAgg155
 z232:=Tryz.sizeOf155
 v232:=Tryz.zeroValue155
 t233:=Tryz.underlying156
 a233:=Tryz.isAgg156
 z233:=Tryz.sizeOf156
 v233:=Tryz.zeroValue156
 g17:=by kernel_rfl
 g18:=by kernel_rfl
 g19:=by kernel_rfl
 i0:=by kernel_rfl
 i2:=by kernel_rfl
 i3:=by kernel_rfl
 i4:=by kernel_rfl
 i5:=by kernel_rfl
 i9:=by kernel_rfl
 i20:=by kernel_rfl
 i37:=by kernel_rfl
 i46:=by kernel_rfl
 i51:=by kernel_rfl
 i53:=by kernel_rfl
 i171:=by kernel_rfl
 i173:=by kernel_rfl
 i212:=by kernel_rfl
 i232:=by kernel_rfl
 i233:=by kernel_rfl
 m17:=by kernel_rfl
 m18:=by kernel_rfl
 m19:=by kernel_rfl }
open Go.RowKit Go.Sort Go.Lib in
/-- strconv.FormatInt: "FormatInt returns the string representation of i in the given base": AT BASE 10: i's decimal numeral, for every int64. (LAID: no walk: one application.) -/
theorem Tryz.strconv_FormatInt_10 (n:Int) (h0: -9223372036854775808≤n) (h1:n≤9223372036854775807) (w:World) (htab:Lib.TabIs Tryz.prog w "internal/strconv.uint64pow10" .u64 Lib.pow10Tab):
 Calls Tryz.prog 51 #[.int .i64 n,.int .i64 10] w fun e w'=>e= .returned (.string ⟨(Lib.itoa n).toArray⟩)∧∃ k os,w'=grow (w.drewN k) os:=Any.strconv_FormatInt_10 Tryz.laysM173 n h0 h1 w htab
end Go.Proofs
end
section
/- Decimal: strconv.FormatInt at base 10, over the library's table. Conditions: the table holds its numbers. -/
namespace Go.Proofs.YtalkmhnlgfncmaaGreatDoor.X
open Go.RowKit Go.Proofs.YtalkmhnlgfncmaaGreatDoorW.aC Go.Proofs.YtalkmhnlgfncmaaGreatDoorW.aN Go.Proofs.YtalkmhnlgfncmaaGreatDoorW.aT
/-- The library's table of the powers of ten holds its numbers. -/
def Fh (w:World):Prop:=Lib.TabIs Tryz.prog w "internal/strconv.uint64pow10" .u64 Lib.pow10Tab
theorem Fh.below {w w':World} (h:Fh w) (hb:Below w.heap.size w w'):Fh w':=by
 unfold Fh Lib.TabIs World.var? at h ⊢
 cases hg:Tryz.prog.globalNamed "internal/strconv.uint64pow10" with
 |none=>rw[hg]at h;cases h
 |some g=>
  rw[hg]at h
  simp only[Option.bind_some]at h ⊢
  have hlt:g<w.heap.size:=by
   rcases Nat.lt_or_ge g w.heap.size with h'|h'
   ·exact h'
   rw[Array.getElem?_eq_none h']at h;cases h
  rw[hb.block g hlt]
  exact h
def dZ.f (n:Int):Option ByteArray:=if -9223372036854775808≤n∧n≤9223372036854775807 then some ⟨(Lib.itoa n).toArray⟩else none
set_option maxHeartbeats 4000000 in
set_option maxRecDepth 100000 in
theorem dZ.calls (a0:Int) (r:ByteArray) (w:World) (h:dZ.f a0=some r) (ht:Fh w):
  Calls Tryz.prog 26 #[.int .i64 a0] w fun e w'=>e= .returned (.string r)∧Below w.heap.size w w':=by
 unfold dZ.f at h
 split at h
 case isFalse=>cases h
 case isTrue hn=>
 obtain rfl:=Option.some.inj h
 have HT:=ah.mk ht
 have HN:=ah.mk hn
 have HB:=ah.mk (Below.refl w.heap.size w)
 clear h ht hn
 go_enter Tryz.func26,Tryz.ntmps26
 go_wp2_with (go_at_call 51;refine(Tryz.strconv_FormatInt_10 a0 HN.out.1 HN.out.2 _ HT.out).mono ?_;rintro e wn ⟨rfl,k,os,rfl⟩)
 go_ret
 exact⟨rfl,Lib.below_grow _ _ (Nat.le_refl _) _ _⟩
end Go.Proofs.YtalkmhnlgfncmaaGreatDoor.X
end
section
/- Contracts of Go's library, as the shelf lays them at this seat's translation. Conditions: as each says. -/
namespace Go.Proofs
open Go.Shelf
def Tryz.lays247_ren:Go.Shelf.Ren:=⟨fun|247=>90|287=>100|321=>107|322=>108|n=>n,fun|9=>9|3=>3|2=>2|75=>94|4=>4|167=>138|5=>5|53=>70|175=>139|46=>114|37=>22|0=>0|21=>21|80=>97|n=>n,fun|n=>n⟩
theorem Tryz.lays247:Go.Proofs.Lays.n247 Tryz.prog Tryz.lays247_ren:={
 mixed:=by kernel_rfl
 f247:=Tryz.func90.trans (congrArg some (by kernel_rfl))
 f287:=Tryz.func100.trans (congrArg some (by kernel_rfl))
 f321:=Tryz.func107.trans (congrArg some (by kernel_rfl))
 f322:=Tryz.func108.trans (congrArg some (by kernel_rfl))
 t0:=Tryz.underlying0
 a0:=Tryz.isAgg0
 z0:=Tryz.sizeOf0
 v0:=Tryz.zeroValue0
 t2:=Tryz.underlying2
 a2:=Tryz.isAgg2
 z2:=Tryz.sizeOf2
 v2:=Tryz.zeroValue2
 t3:=Tryz.underlying3
 a3:=Tryz.isAgg3
 z3:=Tryz.sizeOf3
 v3:=Tryz.zeroValue3
 t4:=Tryz.underlying4
 a4:=Tryz.isAgg4
 z4:=Tryz.sizeOf4
 v4:=Tryz.zeroValue4
 t5:=Tryz.underlying5
 a5:=Tryz.isAgg5
 z5:=Tryz.sizeOf5
 v5:=Tryz.zeroValue5
 t9:=Tryz.underlying9
 a9:=Tryz.isAgg9
 z9:=Tryz.sizeOf9
 v9:=Tryz.zeroValue9
 t21:=Tryz.underlying21
 a21:=Tryz.isAgg21
 z21:=Tryz.sizeOf21
 v21:=Tryz.zeroValue21
 t37:=Tryz.underlying22
 a37:=Tryz.isAgg22
 z37:=Tryz.sizeOf22
 v37:=Tryz.zeroValue22
 t46:=Tryz.underlying114
 a46:=Tryz.isAgg114
 z46:=Tryz.sizeOf114
 v46:=Tryz.zeroValue114
 t53:=Tryz.underlying70
 a53:=Tryz.isAgg70
 z53:=Tryz.sizeOf70
 v53:=Tryz.zeroValue70
 t75:=Tryz.underlying94
 a75:=Tryz.isAgg94
 z75:=Tryz.sizeOf94
 v75:=Tryz.zeroValue94
 t167:=Tryz.underlying138
 a167:=Tryz.isAgg138
 z167:=Tryz.sizeOf138
 v167:=Tryz.zeroValue138
 t175:=Tryz.underlying139
 a175:=Tryz.isAgg139
 z175:=Tryz.sizeOf139
 v175:=Tryz.zeroValue139 }
open Go.RowKit in
/-- internal/strconv.ParseInt at "": 'if s == "" { return 0, ErrSyntax }'. The world is as it was. (LAID: no walk: one application.) -/
theorem Tryz.internal_strconv_ParseInt_empty (base bits:Int) (w:World):
 Calls Tryz.prog 90 #[.string ⟨#[]⟩,.int .i64 base,.int .i64 bits] w fun e w'=>e= .returned (.tuple #[.int .i64 0,(.iface 138 (.int .i64 2))])∧w'=w:=Any.internal_strconv_ParseInt_empty Tryz.lays247 base bits w
def Tryz.laysC245_ren:Go.Shelf.Ren:=⟨fun|245=>91|279=>101|280=>102|281=>103|282=>104|316=>109|171=>111|205=>110|243=>112|246=>69|283=>77|284=>78|285=>79|286=>80|129=>93|317=>92|318=>94|319=>95|320=>96|337=>105|338=>106|n=>n,fun|9=>9|3=>3|75=>94|167=>138|4=>4|168=>141|210=>153|37=>22|0=>0|127=>109|145=>159|143=>157|2=>2|171=>116|53=>70|5=>5|173=>119|212=>131|51=>132|20=>20|213=>133|46=>114|232=>155|233=>156|80=>97|n=>n,fun|15=>4|16=>5|17=>1|18=>6|19=>7|n=>n⟩
theorem Tryz.laysC245:Go.Proofs.LaysC.n245 Tryz.prog Tryz.laysC245_ren:={
 mixed:=by kernel_rfl
 f129:=Tryz.func93.trans (congrArg some (by kernel_rfl))
 f171:=Tryz.func111.trans (congrArg some (by kernel_rfl))
 f205:=Tryz.func110.trans (congrArg some (by kernel_rfl))
 f243:=Tryz.func112.trans (congrArg some (by kernel_rfl))
 f245:=Tryz.func91.trans (congrArg some (by kernel_rfl))
 f246:=Tryz.func69.trans (congrArg some (by kernel_rfl))
 f279:=Tryz.func101.trans (congrArg some (by kernel_rfl))
 f280:=Tryz.func102.trans (congrArg some (by kernel_rfl))
 f281:=Tryz.func103.trans (congrArg some (by kernel_rfl))
 f282:=Tryz.func104.trans (congrArg some (by kernel_rfl))
 f283:=Tryz.func77.trans (congrArg some (by kernel_rfl))
 f284:=Tryz.func78.trans (congrArg some (by kernel_rfl))
 f285:=Tryz.func79.trans (congrArg some (by kernel_rfl))
 f286:=Tryz.func80.trans (congrArg some (by kernel_rfl))
 f316:=Tryz.func109.trans (congrArg some (by kernel_rfl))
 f317:=Tryz.func92.trans (congrArg some (by kernel_rfl))
 f318:=Tryz.func94.trans (congrArg some (by kernel_rfl))
 f319:=Tryz.func95.trans (congrArg some (by kernel_rfl))
 f320:=Tryz.func96.trans (congrArg some (by kernel_rfl))
 f337:=Tryz.func105.trans (congrArg some (by kernel_rfl))
 f338:=Tryz.func106.trans (congrArg some (by kernel_rfl))
 t0:=Tryz.underlying0
 a0:=Tryz.isAgg0
 z0:=Tryz.sizeOf0
 v0:=Tryz.zeroValue0
 t2:=Tryz.underlying2
 a2:=Tryz.isAgg2
 z2:=Tryz.sizeOf2
 v2:=Tryz.zeroValue2
 t3:=Tryz.underlying3
 a3:=Tryz.isAgg3
 z3:=Tryz.sizeOf3
 v3:=Tryz.zeroValue3
 t4:=Tryz.underlying4
 a4:=Tryz.isAgg4
 z4:=Tryz.sizeOf4
 v4:=Tryz.zeroValue4
 t5:=Tryz.underlying5
 a5:=Tryz.isAgg5
 z5:=Tryz.sizeOf5
 v5:=Tryz.zeroValue5
 t9:=Tryz.underlying9
 a9:=Tryz.isAgg9
 z9:=Tryz.sizeOf9
 v9:=Tryz.zeroValue9
 t20:=Tryz.underlying20
 a20:=Tryz.isAgg20
 z20:=Tryz.sizeOf20
 v20:=Tryz.zeroValue20
 t37:=Tryz.underlying22
 a37:=Tryz.isAgg22
 z37:=Tryz.sizeOf22
 v37:=Tryz.zeroValue22
 t46:=Tryz.underlying114
 a46:=Tryz.isAgg114
 z46:=Tryz.sizeOf114
 v46:=Tryz.zeroValue114
 t51:=Tryz.underlying132
 a51:=Tryz.isAgg132
 z51:=Tryz.sizeOf132
 v51:=Tryz.zeroValue132
 t53:=Tryz.underlying70
 a53:=Tryz.isAgg70
 z53:=Tryz.sizeOf70
 v53:=Tryz.zeroValue70
 t75:=Tryz.underlying94
 a75:=Tryz.isAgg94
 z75:=Tryz.sizeOf94
 v75:=Tryz.zeroValue94
 t127:=Tryz.underlying109
 a127:=Tryz.isAgg109
 z127:=Tryz.sizeOf109
 v127:=Tryz.zeroValue109
 t143:=Tryz.underlying157
 a143:=Tryz.isAgg157
 z143:=Tryz.sizeOf157
 v143:=Tryz.zeroValue157
 t145:=Tryz.underlying159
 a145:=Tryz.isAgg159
 z145:=Tryz.sizeOf159
 v145:=Tryz.zeroValue159
 t167:=Tryz.underlying138
 a167:=Tryz.isAgg138
 z167:=Tryz.sizeOf138
 v167:=Tryz.zeroValue138
 t168:=Tryz.underlying141
 a168:=Tryz.isAgg141
 z168:=Tryz.sizeOf141
 v168:=Tryz.zeroValue141
 t171:=Tryz.underlying116
 a171:=Tryz.isAgg116
 z171:=Tryz.sizeOf116
 v171:=Tryz.zeroValue116
 t173:=Tryz.underlying119
 a173:=Tryz.isAgg119
 z173:=Tryz.sizeOf119
 v173:=Tryz.zeroValue119
 t210:=Tryz.underlying153
 a210:=Tryz.isAgg153
 z210:=Tryz.sizeOf153
 v210:=Tryz.zeroValue153
 t212:=Tryz.underlying131
 a212:=Tryz.isAgg131
 z212:=Tryz.sizeOf131
 v212:=Tryz.zeroValue131
 t213:=Tryz.underlying133
 a213:=Tryz.isAgg133
 z213:=Tryz.sizeOf133
 t232:=Tryz.underlying155
 a232:=Tryz.isAgg155
 z232:=Tryz.sizeOf155
 v232:=Tryz.zeroValue155
 t233:=Tryz.underlying156
 a233:=Tryz.isAgg156
 z233:=Tryz.sizeOf156
 v233:=Tryz.zeroValue156
 g15:=by kernel_rfl
 g16:=by kernel_rfl
 g17:=by kernel_rfl
 g18:=by kernel_rfl
 g19:=by kernel_rfl
 t80:=Tryz.underlying97
 a80:=Tryz.isAgg97
 z80:=Tryz.sizeOf97
 v80:=Tryz.zeroValue97
 i0:=by kernel_rfl
 i2:=by kernel_rfl
 i3:=by kernel_rfl
 i4:=by kernel_rfl
 i5:=by kernel_rfl
 i9:=by kernel_rfl
 i20:=by kernel_rfl
 i37:=by kernel_rfl
 i46:=by kernel_rfl
 i51:=by kernel_rfl
 i53:=by kernel_rfl
 i75:=by kernel_rfl
 i80:=by kernel_rfl
 i127:=by kernel_rfl
 i143:=by kernel_rfl
 i145:=by kernel_rfl
 i167:=by kernel_rfl
 i168:=by kernel_rfl
 i171:=by kernel_rfl
 i173:=by kernel_rfl
 i210:=by kernel_rfl
 i212:=by kernel_rfl
 i232:=by kernel_rfl
 i233:=by kernel_rfl
 m15:=by kernel_rfl
 m16:=by kernel_rfl
 m17:=by kernel_rfl
 m18:=by kernel_rfl
 m19:=by kernel_rfl
 c0:=by kernel_rfl
 c2:=by kernel_rfl
 c3:=by kernel_rfl
 c4:=by kernel_rfl
 c5:=by kernel_rfl
 c9:=by kernel_rfl
 c20:=by kernel_rfl
 c37:=by kernel_rfl
 c46:=by kernel_rfl
 c51:=by kernel_rfl
 c53:=by kernel_rfl
 c75:=by kernel_rfl
 c80:=by kernel_rfl
 c127:=by kernel_rfl
 c143:=by kernel_rfl
 c145:=by kernel_rfl
 c167:=by kernel_rfl
 c168:=by kernel_rfl
 c171:=by kernel_rfl
 c173:=by kernel_rfl
 c210:=by kernel_rfl
 c212:=by kernel_rfl
 c213:=by kernel_rfl
 c232:=by kernel_rfl
 c233:=by kernel_rfl }
open Go.RowKit in
/-- strconv.toError, at the inner package's ErrSyntax: 'syntaxError(fn, s)' as an error: A *NumError IN A NEW BLOCK. (LAID: no walk: one application.) -/
theorem Tryz.strconv_toError_syntax (fn s:ByteArray) (base bits:Int) (ev:Value) (w:World) (hlim:s.size≤281474976710656) (hv:w.cell? ⟨4,0,none⟩=some ev) (hev:ev= .nilIface∨∃ te pe,ev= .iface te pe):
 Calls Tryz.prog 91 #[.string fn,.string s,.int .i64 base,.int .i64 bits,.iface 138 (.int .i64 2)] w fun e w'=>∃ N,e= .returned (.iface 141 (.pointer (some ⟨N,0,none⟩)))∧w.heap.size≤N∧w'.heap[N]?=some (.cells #[.string fn,.string s,ev] 153 (0,0))∧Below w.heap.size w w':=Any.strconv_toError_syntax Tryz.laysC245 fn s base bits ev w hlim hv hev
def Tryz.laysC247_ren:Go.Shelf.Ren:=⟨fun|247=>90|287=>100|321=>107|322=>108|n=>n,fun|9=>9|3=>3|2=>2|75=>94|4=>4|167=>138|5=>5|53=>70|175=>139|46=>114|37=>22|0=>0|21=>21|80=>97|n=>n,fun|n=>n⟩
theorem Tryz.laysC247:Go.Proofs.LaysC.n247 Tryz.prog Tryz.laysC247_ren:={
 mixed:=by kernel_rfl
 f247:=Tryz.func90.trans (congrArg some (by kernel_rfl))
 f287:=Tryz.func100.trans (congrArg some (by kernel_rfl))
 f321:=Tryz.func107.trans (congrArg some (by kernel_rfl))
 f322:=Tryz.func108.trans (congrArg some (by kernel_rfl))
 t0:=Tryz.underlying0
 a0:=Tryz.isAgg0
 z0:=Tryz.sizeOf0
 v0:=Tryz.zeroValue0
 t2:=Tryz.underlying2
 a2:=Tryz.isAgg2
 z2:=Tryz.sizeOf2
 v2:=Tryz.zeroValue2
 t3:=Tryz.underlying3
 a3:=Tryz.isAgg3
 z3:=Tryz.sizeOf3
 v3:=Tryz.zeroValue3
 t4:=Tryz.underlying4
 a4:=Tryz.isAgg4
 z4:=Tryz.sizeOf4
 v4:=Tryz.zeroValue4
 t5:=Tryz.underlying5
 a5:=Tryz.isAgg5
 z5:=Tryz.sizeOf5
 v5:=Tryz.zeroValue5
 t9:=Tryz.underlying9
 a9:=Tryz.isAgg9
 z9:=Tryz.sizeOf9
 v9:=Tryz.zeroValue9
 t21:=Tryz.underlying21
 a21:=Tryz.isAgg21
 z21:=Tryz.sizeOf21
 v21:=Tryz.zeroValue21
 t37:=Tryz.underlying22
 a37:=Tryz.isAgg22
 z37:=Tryz.sizeOf22
 v37:=Tryz.zeroValue22
 t46:=Tryz.underlying114
 a46:=Tryz.isAgg114
 z46:=Tryz.sizeOf114
 v46:=Tryz.zeroValue114
 t53:=Tryz.underlying70
 a53:=Tryz.isAgg70
 z53:=Tryz.sizeOf70
 v53:=Tryz.zeroValue70
 t75:=Tryz.underlying94
 a75:=Tryz.isAgg94
 z75:=Tryz.sizeOf94
 v75:=Tryz.zeroValue94
 t167:=Tryz.underlying138
 a167:=Tryz.isAgg138
 z167:=Tryz.sizeOf138
 v167:=Tryz.zeroValue138
 t175:=Tryz.underlying139
 a175:=Tryz.isAgg139
 z175:=Tryz.sizeOf139
 v175:=Tryz.zeroValue139
 t80:=Tryz.underlying97
 a80:=Tryz.isAgg97
 z80:=Tryz.sizeOf97
 v80:=Tryz.zeroValue97
 i0:=by kernel_rfl
 i2:=by kernel_rfl
 i3:=by kernel_rfl
 i4:=by kernel_rfl
 i5:=by kernel_rfl
 i9:=by kernel_rfl
 i21:=by kernel_rfl
 i37:=by kernel_rfl
 i46:=by kernel_rfl
 i53:=by kernel_rfl
 i75:=by kernel_rfl
 i80:=by kernel_rfl
 i167:=by kernel_rfl
 i175:=by kernel_rfl
 c0:=by kernel_rfl
 c2:=by kernel_rfl
 c3:=by kernel_rfl
 c4:=by kernel_rfl
 c5:=by kernel_rfl
 c9:=by kernel_rfl
 c21:=by kernel_rfl
 c37:=by kernel_rfl
 c46:=by kernel_rfl
 c53:=by kernel_rfl
 c75:=by kernel_rfl
 c80:=by kernel_rfl
 c167:=by kernel_rfl
 c175:=by kernel_rfl }
open Go.RowKit in
/-- strconv.toError, at the inner package's ErrRange: 'rangeError(fn, s)' as an error: A *NumError IN A NEW BLOCK. (LAID: no walk: one application.) -/
theorem Tryz.strconv_toError_range (fn s:ByteArray) (base bits:Int) (ev:Value) (w:World) (hlim:s.size≤281474976710656) (hv:w.cell? ⟨5,0,none⟩=some ev) (hev:ev= .nilIface∨∃ te pe,ev= .iface te pe):
 Calls Tryz.prog 91 #[.string fn,.string s,.int .i64 base,.int .i64 bits,.iface 138 (.int .i64 1)] w fun e w'=>∃ N,e= .returned (.iface 141 (.pointer (some ⟨N,0,none⟩)))∧w.heap.size≤N∧w'.heap[N]?=some (.cells #[.string fn,.string s,ev] 153 (0,0))∧Below w.heap.size w w':=Any.strconv_toError_range Tryz.laysC245 fn s base bits ev w hlim hv hev
open Go.RowKit in
/-- internal/strconv.ParseInt(s, 10, 64), s NOT EMPTY: 'Lib.parseIntB 64' OF ITS BYTES: (the number, nil); (0, ErrSyntax); (the greatest or the least int64 by the sign, ErrRange). The world: as it was, or with the one new row that '[]byte(..)' lays. (LAID: no walk: one application.) -/
theorem Tryz.internal_strconv_ParseInt_10_at64 (s:ByteArray) (hne:s.size≠0) (hmax:s.size≤9223372036854775806) (w:World):
 Calls Tryz.prog 90 #[.string s,.int .i64 10,.int .i64 64] w fun e w'=>e= .returned (Lib.intTuple 138 (Lib.intSat 64 s.data.toList) (Lib.parseIntB 64 s.data.toList))∧(w'=w∨∃ t,w'=Lib.bytesWorld w 5 t):=Any.internal_strconv_ParseInt_10_at64 Tryz.laysC247 s hne hmax w
end Go.Proofs
end
section
/- readWide: strconv.ParseInt at base 10 and 64 bits, over the library's variables. Conditions: they hold what the program's text lays. -/
namespace Go.Proofs.YtalkmhnlgfncmaaGreatDoor.X
open Go.RowKit Go.Proofs.YtalkmhnlgfncmaaGreatDoorW.aC Go.Proofs.YtalkmhnlgfncmaaGreatDoorW.aN Go.Proofs.YtalkmhnlgfncmaaGreatDoorW.aT
/-- What the reading of numbers takes of the library's variables. -/
def Dr (w:World):Prop:=Fh w∧(∃ te pe,w.cell? ⟨4,0,none⟩=some (.iface te pe))∧∃ te pe,w.cell? ⟨5,0,none⟩=some (.iface te pe)
theorem Dr.below {w w':World} (h:Dr w) (hb:Below w.heap.size w w'):Dr w':=by
 obtain⟨h1,⟨t,p,h2⟩,t',p',h3⟩:=h
 exact⟨h1.below hb,⟨t,p,aV hb h2⟩,t',p',aV hb h3⟩
theorem Dr.tab {w:World} (h:Dr w):Fh w:=h.1
set_option maxHeartbeats 4000000 in
set_option maxRecDepth 100000 in
theorem Fj (s:ByteArray) (hs:s.size≤2000000) (w:World):
  Calls Tryz.prog 90 #[.string s,.int .i64 10,.int .i64 64] w fun e w'=>e= .returned (Lib.intTuple 138 (Lib.intSat 64 s.data.toList) (Lib.parseIntB 64 s.data.toList))∧Below w.heap.size w w':=by
 by_cases hz:s.size=0
 ·have e:s=⟨#[]⟩:=by
   cases s with
   |mk d=>congr 1;exact Array.eq_empty_of_size_eq_zero hz
  rw[e]
  refine(Tryz.internal_strconv_ParseInt_empty 10 64 w).mono ?_
  rintro e w' ⟨rfl,rfl⟩
  exact⟨rfl,Below.refl _ _⟩
 ·refine(Tryz.internal_strconv_ParseInt_10_at64 s hz (by omega) w).mono ?_
  rintro e w' ⟨rfl,rfl|⟨t,rfl⟩⟩
  ·exact⟨rfl,Below.refl _ _⟩
  exact⟨rfl,Lib.bytesWorld_below _ _ _⟩
set_option maxHeartbeats 4000000 in
set_option maxRecDepth 100000 in
theorem Fp (s:ByteArray) (hs:s.size≤2000000) (v:Int) (h:Lib.parseIntB 64 s.data.toList= .ok v) (w:World):
  Calls Tryz.prog 76 #[.string s,.int .i64 10,.int .i64 64] w fun e w'=>e= .returned (.tuple #[.int .i64 v,.nilIface])∧Below w.heap.size w w':=by
 have H:=fun w=>Fj s hs w
 rw[h]at H
 have HH:=ah.mk (show ∀ w,Calls Tryz.prog 90 #[.string s,.int .i64 10,.int .i64 64] w fun e w'=>e= .returned (.tuple #[.int .i64 v,.nilIface])∧Below w.heap.size w w' from H)
 clear H h
 go_enter Tryz.func76,Tryz.ntmps76
 go_wp2_with (go_at_call 90;(with_reducible refine(HH.out _).mono ?_);rintro e w1 ⟨rfl,hb⟩;have HB:=ah.mk hb;clear hb)
 go_ret2
 exact⟨rfl,HB.out⟩
/-- What is told of a text that is no number. -/
abbrev WV:Lib.NumEnd Int:=Lib.parseIntB 64 []
set_option maxHeartbeats 4000000 in
set_option maxRecDepth 100000 in
theorem Rb (s:ByteArray) (hs:s.size≤2000000) (h:Lib.parseIntB 64 s.data.toList=WV) (w:World) (hE:Dr w):
  Calls Tryz.prog 76 #[.string s,.int .i64 10,.int .i64 64] w fun e w'=>∃ v N,e= .returned (.tuple #[.int .i64 v,.iface 141 (.pointer (some ⟨N,0,none⟩))])∧Below w.heap.size w w':=by
 have H:=fun w=>Fj s hs w
 rw[h]at H
 have HH:=ah.mk (show ∀ w,Calls Tryz.prog 90 #[.string s,.int .i64 10,.int .i64 64] w fun e w'=>e= .returned (.tuple #[.int .i64 0,.iface 138 (.int .i64 2)])∧Below w.heap.size w w' from H)
 have HE:=ah.mk hE
 have HS:=ah.mk hs
 clear H h hE hs
 go_enter Tryz.func76,Tryz.ntmps76
 go_wp2_with (first
  |(go_at_call 90;(with_reducible refine(HH.out _).mono ?_);rintro e w1 ⟨rfl,hb⟩;have HB:=ah.mk hb;clear hb)
  |(go_at_call 91;refine(Tryz.strconv_toError_syntax _ s 10 64 _ _ (Nat.le_trans HS.out (by decide)) (HE.out.below HB.out).2.1.choose_spec.choose_spec (Or.inr ⟨_,_,rfl⟩)).mono ?_;rintro e w2 ⟨N9,rfl,_,_,hb⟩;have HC:=ah.mk (av HB.out hb);clear hb))
 go_ret2
 exact⟨_,_,rfl,HC.out⟩
set_option maxHeartbeats 4000000 in
set_option maxRecDepth 100000 in
theorem Kh (s:ByteArray) (hs:s.size≤2000000) (h:Lib.parseIntB 64 s.data.toList= .range) (w:World) (hE:Dr w):
  Calls Tryz.prog 76 #[.string s,.int .i64 10,.int .i64 64] w fun e w'=>∃ v N,e= .returned (.tuple #[.int .i64 v,.iface 141 (.pointer (some ⟨N,0,none⟩))])∧Below w.heap.size w w':=by
 have H:=fun w=>Fj s hs w
 rw[h]at H
 have HH:=ah.mk (show ∀ w,Calls Tryz.prog 90 #[.string s,.int .i64 10,.int .i64 64] w fun e w'=>e= .returned (.tuple #[.int .i64 (Lib.intSat 64 s.data.toList),.iface 138 (.int .i64 1)])∧Below w.heap.size w w' from H)
 have HE:=ah.mk hE
 have HS:=ah.mk hs
 clear H h hE hs
 go_enter Tryz.func76,Tryz.ntmps76
 go_wp2_with (first
  |(go_at_call 90;(with_reducible refine(HH.out _).mono ?_);rintro e w1 ⟨rfl,hb⟩;have HB:=ah.mk hb;clear hb)
  |(go_at_call 91;refine(Tryz.strconv_toError_range _ s 10 64 _ _ (Nat.le_trans HS.out (by decide)) (HE.out.below HB.out).2.2.choose_spec.choose_spec (Or.inr ⟨_,_,rfl⟩)).mono ?_;rintro e w2 ⟨N9,rfl,_,_,hb⟩;have HC:=ah.mk (av HB.out hb);clear hb))
 go_ret2
 exact⟨_,_,rfl,HC.out⟩
set_option maxHeartbeats 4000000 in
set_option maxRecDepth 100000 in
theorem Vd (s:ByteArray) (m:Int) (hs:s.size≤2000000) (h:Lib.parseIntB 64 s.data.toList=WV∨Lib.parseIntB 64 s.data.toList= .range) (w:World) (hE:Dr w):
  Calls Tryz.prog 57 #[.string s,.int .i64 m] w fun e w'=>e= .returned (.tuple #[.int .i64 0,.bool false])∧Below w.heap.size w w':=by
 have H:∀ w,Dr w→Calls Tryz.prog 76 #[.string s,.int .i64 10,.int .i64 64] w fun e w'=>∃ v N,e= .returned (.tuple #[.int .i64 v,.iface 141 (.pointer (some ⟨N,0,none⟩))])∧Below w.heap.size w w':=fun w hw=>by
  rcases h with h|h
  ·exact Rb s hs h w hw
  exact Kh s hs h w hw
 have HH:=ah.mk H
 have HE:=ah.mk hE
 clear H h hE hs
 go_enter Tryz.func57,Tryz.ntmps57
 go_wp2_with (go_at_call 76;(with_reducible refine(HH.out _ HE.out).mono ?_);rintro e w1 ⟨v1,N1,rfl,hb⟩;have HB:=ah.mk hb;clear hb)
 go_ret2
 exact⟨rfl,HB.out⟩
theorem Lr {a b:World} (h:gQ a b):Below a.heap.size a b:=by
 obtain⟨n,rfl⟩:=h
 exact bZ (Below.refl _ _) n
set_option maxHeartbeats 4000000 in
set_option maxRecDepth 100000 in
theorem MQ (s t:ByteArray) (m v:Int) (hs:s.size≤2000000) (h:Lib.parseIntB 64 s.data.toList= .ok v) (hd:dZ.f v=some t) (hne:t.toList≠s.toList) (w:World) (hE:Dr w):
  Calls Tryz.prog 57 #[.string s,.int .i64 m] w fun e w'=>e= .returned (.tuple #[.int .i64 0,.bool false])∧Below w.heap.size w w':=by
 have HH:=ah.mk (fun w=>Fp s hs v h w)
 have HE:=ah.mk hE
 have HD:=ah.mk hd
 have f1:(t.toList==s.toList)=false:=beq_eq_false_iff_ne.mpr hne
 have f2:(t.toList !=s.toList)=true:=bne_iff_ne.mpr hne
 clear h hE hs hd
 go_enter Tryz.func57,Tryz.ntmps57
 go_wp2_with (first
  |(go_at_call 76;(with_reducible refine(HH.out _).mono ?_);rintro e w1 ⟨rfl,hb⟩;have HB:=ah.mk hb;clear hb)
  |(go_at_call 26;(with_reducible refine(dZ.calls v t _ HD.out (HE.out.below HB.out).tab).mono ?_);rintro e w2 ⟨rfl,hb⟩;have HC:=ah.mk (av HB.out hb);clear hb))
 go_ret2
 exact⟨rfl,HC.out⟩
set_option maxHeartbeats 4000000 in
set_option maxRecDepth 100000 in
theorem Ve (s t:ByteArray) (m v:Int) (hm:0≤m) (hm1:m≤1000000000000000000) (hs:s.size≤2000000) (h:Lib.parseIntB 64 s.data.toList= .ok v) (hd:dZ.f v=some t) (he:t.toList=s.toList) (hw:aU.f v (-m) m=some false) (w:World) (hE:Dr w):
  Calls Tryz.prog 57 #[.string s,.int .i64 m] w fun e w'=>e= .returned (.tuple #[.int .i64 0,.bool false])∧Below w.heap.size w w':=by
 have HH:=ah.mk (fun w=>Fp s hs v h w)
 have HE:=ah.mk hE
 have HD:=ah.mk hd
 have HW:=ah.mk hw
 have f1:(t.toList==s.toList)=true:=beq_iff_eq.mpr he
 have f2:(t.toList !=s.toList)=false:=bne_eq_false_iff_eq.mpr he
 have w1:IntKind.i64.wrap (-m)= -m:=IntWalk.i64_in _ ⟨by omega,by omega⟩
 clear h hE hs hd hw he
 go_enter Tryz.func57,Tryz.ntmps57
 go_wp2_with (first
  |(go_at_call 76;(with_reducible refine(HH.out _).mono ?_);rintro e w1 ⟨rfl,hb⟩;have HB:=ah.mk hb;clear hb)
  |(go_at_call 26;(with_reducible refine(dZ.calls v t _ HD.out (HE.out.below HB.out).tab).mono ?_);rintro e w2 ⟨rfl,hb⟩;have HC:=ah.mk (av HB.out hb);clear hb)
  |(go_at_call 18;(with_reducible refine(aU.calls v (-m) m _ _ HW.out).mono ?_);rintro e w3 ⟨rfl,hb⟩;have HF:=ah.mk (av HC.out (Lr hb));clear hb))
 go_ret2
 exact⟨rfl,HF.out⟩
set_option maxHeartbeats 4000000 in
set_option maxRecDepth 100000 in
theorem Rc (s t:ByteArray) (m v:Int) (hm:0≤m) (hm1:m≤1000000000000000000) (hs:s.size≤2000000) (h:Lib.parseIntB 64 s.data.toList= .ok v) (hd:dZ.f v=some t) (he:t.toList=s.toList) (hw:aU.f v (-m) m=some true) (w:World) (hE:Dr w):
  Calls Tryz.prog 57 #[.string s,.int .i64 m] w fun e w'=>e= .returned (.tuple #[.int .i64 v,.bool true])∧Below w.heap.size w w':=by
 have HH:=ah.mk (fun w=>Fp s hs v h w)
 have HE:=ah.mk hE
 have HD:=ah.mk hd
 have HW:=ah.mk hw
 have f1:(t.toList==s.toList)=true:=beq_iff_eq.mpr he
 have f2:(t.toList !=s.toList)=false:=bne_eq_false_iff_eq.mpr he
 have w1:IntKind.i64.wrap (-m)= -m:=IntWalk.i64_in _ ⟨by omega,by omega⟩
 clear h hE hs hd hw he
 go_enter Tryz.func57,Tryz.ntmps57
 go_wp2_with (first
  |(go_at_call 76;(with_reducible refine(HH.out _).mono ?_);rintro e w1 ⟨rfl,hb⟩;have HB:=ah.mk hb;clear hb)
  |(go_at_call 26;(with_reducible refine(dZ.calls v t _ HD.out (HE.out.below HB.out).tab).mono ?_);rintro e w2 ⟨rfl,hb⟩;have HC:=ah.mk (av HB.out hb);clear hb)
  |(go_at_call 18;(with_reducible refine(aU.calls v (-m) m _ _ HW.out).mono ?_);rintro e w3 ⟨rfl,hb⟩;have HF:=ah.mk (av HC.out (Lr hb));clear hb))
 go_ret2
 exact⟨rfl,HF.out⟩
def kK.f (s:ByteArray) (m:Int):Option (Int×Bool):=
 if s.size≤2000000∧0≤m∧m≤1000000000000000000 then
  match Lib.parseIntB 64 s.data.toList with
  | .ok v=>(dZ.f v).bind fun t=>(aU.f v (-m) m).bind fun b=>some (if t.toList=s.toList∧b=true then(v,true)else(0,false))
  |_=>some (0,false)
 else none
theorem kK.calls (a0:ByteArray) (a1:Int) (r1:Int) (r2:Bool) (w:World) (h:kK.f a0 a1=some (r1,r2)) (hE:Dr w):
  Calls Tryz.prog 57 #[.string a0,.int .i64 a1] w fun e w'=>e= .returned (.tuple #[.int .i64 r1,.bool r2])∧Below w.heap.size w w':=by
 unfold kK.f at h
 split at h
 case isFalse=>cases h
 case isTrue hc=>
 obtain⟨hs,hm,hm1⟩:=hc
 split at h
 case h_1 v hv=>
  obtain⟨t,ht,h⟩:=Option.bind_eq_some_iff.mp h
  obtain⟨b,hb,h⟩:=Option.bind_eq_some_iff.mp h
  have h:=Option.some.inj h
  by_cases hts:t.toList=a0.toList
  ·cases b with
   |false=>
    rw[if_neg (by simp)]at h
    obtain⟨rfl,rfl⟩:=Prod.mk.inj h
    exact Ve a0 t a1 v hm hm1 hs hv ht hts hb w hE
   |true=>
    rw[if_pos ⟨hts,rfl⟩]at h
    obtain⟨rfl,rfl⟩:=Prod.mk.inj h
    exact Rc a0 t a1 _ hm hm1 hs hv ht hts hb w hE
  rw[if_neg (fun e=>hts e.1)]at h
  obtain⟨rfl,rfl⟩:=Prod.mk.inj h
  exact MQ a0 t a1 v hs hv ht hts w hE
 case h_2 hno=>
  obtain⟨rfl,rfl⟩:=Prod.mk.inj (Option.some.inj h)
  refine Vd a0 a1 hs ?_ w hE
  cases hp:Lib.parseIntB 64 a0.data.toList with
  |ok v=>exact absurd hp (hno v)
  |_=>first|exact .inl rfl|exact .inr rfl
end Go.Proofs.YtalkmhnlgfncmaaGreatDoor.X
end
section
/- strings.Join: the texts with the separator between them. Conditions: as the lemma says. -/
namespace Go.Proofs.YtalkmhnlgfncmaaGreatDoor.X
open Go.RowKit Go.Proofs.YtalkmhnlgfncmaaGreatDoorW.aC Go.Proofs.YtalkmhnlgfncmaaGreatDoorW.aN Go.Proofs.YtalkmhnlgfncmaaGreatDoorW.aT
def strings_Join.f (l:List ByteArray) (s:ByteArray):Option ByteArray:=
 if l.length≤140737488355328∧(Lib.join (l.map (·.data.toList)) s.data.toList).length≤140737488355328 then some ⟨(Lib.join (l.map (·.data.toList)) s.data.toList).toArray⟩else none
theorem strings_Join.calls (A0:Option Addr) (c0:Nat) (l0:List ByteArray) (s1:ByteArray) (r:ByteArray) (w:World) (hr0:Kd.C Kd.string w A0 l0.length l0) (hc0:l0.length≤c0) (h:strings_Join.f l0 s1=some r):
  Calls Tryz.prog 27 #[.slice A0 l0.length c0,.string s1] w fun e w'=>e= .returned (.string r)∧Below w.heap.size w w':=by
 unfold strings_Join.f at h
 split at h
 case isFalse=>cases h
 case isTrue hn=>
 obtain rfl:=Option.some.inj h
 cases l0 with
 |nil=>
  refine(Tryz.strings_Join_none A0 c0 s1 w).mono ?_
  rintro e w' ⟨rfl,rfl⟩
  exact⟨by simp[Lib.join_nil],Below.refl _ _⟩
 |cons x xs=>
  obtain⟨ad,rfl,hc⟩:=Kd.jr hr0 0 (by omega) (by simp)
  have hz:ad.spot=none∧ad.block<w.heap.size:=by
   simp only[Int.toNat_zero,Addr.add,if_true,World.cell?]at hc
   split at hc
   case h_1 c t f hb=>
    constructor
    ·cases hs:ad.spot with
     |none=>rfl
     |some y=>rw[hs]at hc;cases hc
    rcases Nat.lt_or_ge ad.block w.heap.size with h'|h'
    ·exact h'
    rw[Array.getElem?_eq_none h']at hb;cases hb
   case h_2=>cases hc
  obtain⟨bk,o,sp⟩:=ad
  obtain⟨rfl,hlt⟩:=hz
  refine Tryz.strings_Join bk o c0 (x::xs) s1 w ?_ hlt hn.1 hc0 hn.2
  intro j y hj
  have hjl:j<(x::xs).length:=by
   rcases Nat.lt_or_ge j (x::xs).length with h'|h'
   ·exact h'
   rw[List.getElem?_eq_none h']at hj;cases hj
  obtain⟨ad',e',hc'⟩:=Kd.jr hr0 (j:Int) (by omega) (by omega)
  obtain rfl:=Option.some.inj e'
  rw[Int.toNat_natCast]at hc'
  have hv:lS ByteArray.empty (x::xs) (j:Int)=y:=by
   unfold lS
   simp[List.getD_eq_getElem?_getD,hj]
  rw[hv]at hc'
  rw[← hc']
  congr 1
  unfold Addr.add
  split
  ·subst_vars;rfl
  ·rfl
end Go.Proofs.YtalkmhnlgfncmaaGreatDoor.X
end
section
namespace Go.Proofs.YtalkmhnlgfncmaaGreatDoor.X
open Go.RowKit Go.Proofs.YtalkmhnlgfncmaaGreatDoorW.aC Go.Proofs.YtalkmhnlgfncmaaGreatDoorW.aN Go.Proofs.YtalkmhnlgfncmaaGreatDoorW.aT
attribute [local go_sem] fq fu gJ gK dN dO fA fB
/-! ### impl_FlowText: function 10 -/
mutual
def bE.l0:Nat→List ByteArray→List ByteArray→List Int→Int→Int→List Int→List (S40)→Option (ByteArray×Bool)
 |0,_,_,_,_,_,_,_=>none
 |k+1,x4,x5,x16,x17,x18,aaJ,Ki=>if x18<x17 then(if 0≤x18 then(if x18<(x16.length:Int)then((dZ.f (rd x16 x18)).bind fun ace=>(if x4.length<8796093022208 then(bE.l0 k (x4++[ace]) x5 x16 x17 (wrap64 (x18+1)) aaJ Ki)else(none)))else(none))else(none))else(bE.l1 k x4 x5 Ki (Ki.length:Int) 0)
def bE.l1:Nat→List ByteArray→List ByteArray→List (S40)→Int→Int→Option (ByteArray×Bool)
 |0,_,_,_,_,_=>none
 |k+1,x4,x5,x29,x30,x31=>if x31<x30 then(if 0≤x31 then(if x31<(x29.length:Int)then((dZ.f ((au x29 x31).f0)).bind fun yJ=>(if yJ.size+1≤9223372036854775807 then((dZ.f ((au x29 x31).f1)).bind fun CJ=>(if (yJ++(⟨#[46]⟩:ByteArray)).size+CJ.size≤9223372036854775807 then(if ((yJ++(⟨#[46]⟩:ByteArray))++CJ).size+1≤9223372036854775807 then((dZ.f ((au x29 x31).f2)).bind fun Rf=>(if (((yJ++(⟨#[46]⟩:ByteArray))++CJ)++(⟨#[46]⟩:ByteArray)).size+Rf.size≤9223372036854775807 then(if x5.length<8796093022208 then(bE.l1 k x4 (x5++[(((yJ++(⟨#[46]⟩:ByteArray))++CJ)++(⟨#[46]⟩:ByteArray))++Rf]) x29 x30 (wrap64 (x31+1)))else(none))else(none)))else(none))else(none)))else(none)))else(none))else(none))else((strings_Join.f x4 (⟨#[44]⟩:ByteArray)).bind fun Ng=>(if Ng.size+1≤9223372036854775807 then((strings_Join.f x5 (⟨#[44]⟩:ByteArray)).bind fun WW=>(if (Ng++(⟨#[47]⟩:ByteArray)).size+WW.size≤9223372036854775807 then(some ((Ng++(⟨#[47]⟩:ByteArray))++WW,true))else(none)))else(none)))
end
def bE.f (k:Nat) (bK:List Int) (bf:List (S40)):Option (ByteArray×Bool):=(aX.f k bK bf).bind fun ae7=>(if ae7=true then(bE.l0 k (([]:List ByteArray)) (([]:List ByteArray)) bK (bK.length:Int) 0 bK bf)else(some ((⟨#[]⟩:ByteArray),false)))
def bE.T12:Bool×List (List Nat×List Nat):=(true,[([],[]),([],[]),([1],[1]),([2],[2]),([3],[3]),([],[]),([5],[5]),([6,3],[6]),([4,7],[4,7]),([8],[8]),([],[]),([10],[10]),([11,7],[11]),([9,12],[9,12]),([13],[13]),([0,14,12],[0,14]),([15,15,0,1,2,3,4,5,6,7,8,9,10,11,12,13,14,15],[0,15])])
def bE.B12:List Nat:=[0,0,2,6,14,0,32,110,254,510,0,1024,3310,8190,16382,32767,65535]
theorem bE.akY:uU .any (opsOf Tryz.f10 12)=bE.T12:=by kernel_rfl
theorem bE.ae8:nG bE.T12.2 bE.B12=true:=by kernel_rfl
set_option maxHeartbeats 8000000 in
set_option maxRecDepth 100000 in
theorem bE.calls (k:Nat) (eT:Option Addr) (eG:Nat) (bK:List Int) (fE:Option Addr) (eH:Nat) (bf:List (S40)) (r1:ByteArray) (r2:Bool) (w:World) (lZ:Kd.C (Kd.int .i64) w eT bK.length bK) (nV:bK.length≤eG) (lV:Kd.C k40 w fE bf.length bf) (nJ:bf.length≤eH) (h:bE.f k bK bf=some (r1,r2)) (wK:Dr w):
  Calls Tryz.prog 10 #[.agg #[.slice eT bK.length eG,.slice fE bf.length eH]] w fun e w'=>e= .returned (.tuple #[.string r1,.bool r2])∧Below w.heap.size w w':=by
 have pq:=ah.mk wK
 clear wK
 have Ux:=Tryz.underlying27
 have Wh:=Tryz.underlying40
 have jT:=ah.mk lZ
 have kg:=ah.mk nV
 clear lZ nV
 have jU:=ah.mk lV
 have kC:=ah.mk nJ
 clear lV nJ
 have HB:=ah.mk (Below.refl w.heap.size w)
 have H:((aX.f k bK bf).bind fun ae7=>(if ae7=true then(bE.l0 k (([]:List ByteArray)) (([]:List ByteArray)) bK (bK.length:Int) 0 bK bf)else(some ((⟨#[]⟩:ByteArray),false))))=some (r1,r2):=h
 clear h
 obtain⟨ae7,A20,H⟩:=Option.bind_eq_some_iff.mp H
 have A2:=ah.mk A20
 clear A20
 by_cases c3:ae7=true
 ·subst c3
  rw[if_pos rfl]at H
  obtain⟨akZ,Rh⟩:∃ y_:List ByteArray,y_=(([]:List ByteArray)):=⟨_,rfl⟩
  replace H:(bE.l0 k akZ (([]:List ByteArray)) bK (bK.length:Int) 0 bK bf)=some (r1,r2):=by first|(rw[Rh];with_reducible exact H)|(have H2_:=(Option.bind_some _ _).symm.trans H;rw[Rh];with_reducible exact H2_)|(have H2_:=(Option.bind_some _ _).symm.trans H;with_reducible exact H2_)|with_reducible exact H|(rw[Rh];exact H)|exact H
  have ae9:=ah.mk Rh
  clear Rh
  obtain⟨afa,Ri⟩:∃ y_:List ByteArray,y_=(([]:List ByteArray)):=⟨_,rfl⟩
  replace H:(bE.l0 k akZ afa bK (bK.length:Int) 0 bK bf)=some (r1,r2):=by first|(rw[Ri];with_reducible exact H)|(have H2_:=(Option.bind_some _ _).symm.trans H;rw[Ri];with_reducible exact H2_)|(have H2_:=(Option.bind_some _ _).symm.trans H;with_reducible exact H2_)|with_reducible exact H|(rw[Ri];exact H)|exact H
  have afb:=ah.mk Ri
  clear Ri
  have H':=ah.mk H
  clear H
  go_enter Tryz.func10,Tryz.ntmps10
  go_wp2_with (first|((with_reducible refine aH (N:=1) rfl ?_);refine qbx (N:=1) (cs:=#[.slice eT bK.length eG,.slice fE bf.length eH]) (t:=27) ?_;intro mh hg w4 bR hb;have iG:=ah.mk (bR);have ak0:=ah.mk ((mK HB:w.heap.size≤mh));have mR:=ah.mk ((mK HB:w.heap.size≤mh));replace HB:=ah.mk (av (qz0 HB) hb);clear hb bR hg;have GJ:w4.cell? ⟨mh,0,none⟩=some (.slice eT bK.length eG):=(aj iG.out 0).trans rfl;have GK:w4.cell? ⟨mh,1,none⟩=some (.slice fE bf.length eH):=(aj iG.out 1).trans rfl;have WX:=ak iG.out 0;have Rj:=ak iG.out 1)|((with_reducible refine aK (f:=9) rfl ?_);refine dH (some 11) rfl rfl Tryz.func9 qz9 rfl #[.agg #[.slice eT bK.length eG,.slice fE bf.length eH]] rfl jh ?_;(with_reducible refine(aX.calls k _ _ bK _ _ bf true _ ?bT ?bU ?eu ?eF A2.out).mono ?_);(case bT=>exact qz2 jT HB);(case bU=>exact jL kg);(case eu=>exact qz2 jU HB);(case eF=>exact jL kC);rintro e w6 ⟨rfl,hb⟩;refine⟨_,rfl,?_⟩;replace iG:=ah.mk (aA (g:=mh) (o:=.cells #[.slice eT bK.length eG,.slice fE bf.length eH] 27 (0,0)) (dP iG) hb);replace HB:=ah.mk (av (qz4 HB mR) hb);(try clear hb);(try clear hb2);(try clear hk);(try clear hi))|((with_reducible refine aH (N:=13) rfl ?_);refine Kd.vR Kd.string _ 9 ?hg (N:=13) ?hd (xs:=([]:List ByteArray)) (inner:=[]) (ok:=fun _=>True) (okp:=fun _=>True) ?hr ?hp (fun _ hk=>hk) trivial (Below.refl _ _) (Nat.le_refl _) (by simp) ?_;(case hd=>rfl);(case hg=>rfl);(case hr=>exact qz1);(case hp=>exact(jO.none _ _));intro avx w7 ho8 hb hg_ lF;clear hg_ lF;(first|rw[← ae9.out]at ho8|(simp only[Int.reduceToNat]at ho8;rw[← ae9.out]at ho8));have Vf:=ah.mk (Kd.dV ho8 (aG (qz4 HB mR)));replace iG:=ah.mk (aA (g:=mh) (o:=.cells #[.slice eT bK.length eG,.slice fE bf.length eH] 27 (0,0)) (dP iG) hb);replace HB:=ah.mk (av (qz4 HB mR) hb);clear hb ho8)|((with_reducible refine aH (N:=14) rfl ?_);refine Kd.vR Kd.string _ 9 ?hg (N:=14) ?hd (xs:=([]:List ByteArray)) (inner:=[]) (ok:=fun _=>True) (okp:=fun _=>True) ?hr ?hp (fun _ hk=>hk) trivial (Below.refl _ _) (Nat.le_refl _) (by simp) ?_;(case hd=>rfl);(case hg=>rfl);(case hr=>exact qz1);(case hp=>exact(jO.none _ _));intro ak1 w9 acf hb hg_ lF;clear hg_ lF;(first|rw[← afb.out]at acf|(simp only[Int.reduceToNat]at acf;rw[← afb.out]at acf));have ak2:=ah.mk (Kd.dV (Kd.iU acf (Kd.qo (cK Vf))) (aG (qz4 HB mR)));replace Vf:=ah.mk (Kd.fK (cK Vf) (Kd.iJ acf) hb);replace iG:=ah.mk (aA (g:=mh) (o:=.cells #[.slice eT bK.length eG,.slice fE bf.length eH] 27 (0,0)) (dP iG) hb);replace HB:=ah.mk (av (qz4 HB mR) hb);clear hb acf;have Ae:w9.cell? ⟨mh,0,none⟩=some (.slice eT bK.length eG):=(aj iG.out 0).trans rfl;have Af:w9.cell? ⟨mh,1,none⟩=some (.slice fE bf.length eH):=(aj iG.out 1).trans rfl;have Ag:=ak iG.out 0;have Ah:=ak iG.out 1))
  go_loopg [4,18] k (fun kq v4 v18 w'=>∃ (wD:List ByteArray) (uj:Int),v18= .int .i64 uj∧ah (bE.l0 kq wD afa bK (bK.length:Int) uj bK bf=some (r1,r2))∧ah (kq≤k)∧ah (Kd.R Kd.string 9 w' w.heap.size (fun k_=>some k_≠(ak1:Value).ownBlock) v4 wD)∧ah (Kd.R Kd.string 9 w' w.heap.size (fun k_=>some k_≠(v4:Value).ownBlock) ak1 afa)∧ah (w'.heap[mh]?=some (.cells #[(.slice eT bK.length eG),(.slice fE bf.length eH)] 27 (0,0)))∧ah (Below w.heap.size w w'))
  case atStart=>exact⟨(akZ),(0),iY,H',⟨Nat.le_refl _⟩,⟨WB Vf⟩,⟨WB ak2⟩,⟨dP iG⟩,⟨qz4 HB mR⟩⟩
  case round=>
   clear H'
   try clear c1
   try clear p2
   try clear c3
   try clear c9
   try clear c10
   try clear Ae
   try clear Af
   try clear GJ
   try clear GK
   try clear Ag
   try clear Ah
   try clear WX
   try clear Rj
   obtain⟨wD,uj,rfl,HA,HK1,uX,jc,iG,HB⟩:=hrel
   cases gk with
   |zero=>exact absurd HA.out (by simp[bE.l0])
   |succ k1=>
    have H:=HA.out
    clear HA
    simp only[bE.l0]at H
    by_cases c12:uj<(bK.length:Int)
    ·rw[if_pos c12]at H
     have IQ:decide (uj<(bK.length:Int))=true:=decide_eq_true c12
     clear c12
     by_cases c13:0≤uj
     ·rw[if_pos c13]at H
      have UU:decide (0≤uj)=true:=decide_eq_true c13
      clear c13
      by_cases c14:uj<(bK.length:Int)
      ·rw[if_pos c14]at H
       have aeS:decide (uj<(bK.length:Int))=true:=decide_eq_true c14
       clear c14
       obtain⟨ace,aos,H⟩:=Option.bind_eq_some_iff.mp H
       have A15:=ah.mk aos
       clear aos
       by_cases c16:wD.length<8796093022208
       ·rw[if_pos c16]at H
        have aaK:=ah.mk c16
        clear c16
        obtain⟨aot,Rk⟩:∃ y_:List ByteArray,y_=(wD++[ace]):=⟨_,rfl⟩
        replace H:(bE.l0 k1 aot afa bK (bK.length:Int) (wrap64 (uj+1)) bK bf)=some (r1,r2):=by first|(rw[Rk];with_reducible exact H)|(have H2_:=(Option.bind_some _ _).symm.trans H;rw[Rk];with_reducible exact H2_)|(have H2_:=(Option.bind_some _ _).symm.trans H;with_reducible exact H2_)|with_reducible exact H|(rw[Rk];exact H)|exact H
        have ak3:=ah.mk Rk
        clear Rk
        have H':=ah.mk H
        clear H
        have agD:0≤(uj:Int):=of_decide_eq_true gN
        have agE:uj<(bK.length:Int):=of_decide_eq_true gN
        obtain⟨afc,e301,Fq⟩:=Kd.iC jT.out uj agD agE
        cases e301
        replace Fq:=(HB.out.cell (World.block_lt_of_cell? w _ Fq)).trans Fq
        replace agD:=eq_true agD
        replace agE:=eq_true agE
        go_wp2_with (first|((with_reducible refine aK (f:=26) rfl ?_);refine dH (some 24) rfl rfl Tryz.func26 qz9 rfl #[.int .i64 (rd bK uj)] rfl jh ?_;(with_reducible refine(dZ.calls (rd bK uj) ace _ A15.out ((pq.out.below (qz4 HB mR)).tab)).mono ?_);rintro e w17 ⟨rfl,hb⟩;refine⟨_,rfl,?_⟩;replace uX:=ah.mk (Kd.aM (cK uX) hb);replace jc:=ah.mk (Kd.aM (cK jc) hb);replace iG:=ah.mk (aA (g:=mh) (o:=.cells #[.slice (some afc) bK.length eG,.slice fE bf.length eH] 27 (0,0)) (dP iG) hb);replace HB:=ah.mk (av (qz4 HB mR) hb);(try clear hb);(try clear hb2);(try clear hk);(try clear hi))|((with_reducible refine gI (b:=.append) (xs:=#[.tmp 22,.tmp 25]) rfl ?_);at_builtin;refine Kd.kY Kd.string (w0:=w) w.heap.size rfl (.tmp 22) (.tmp 25) 55 9 (.string ⟨#[]⟩) 16 rfl Tryz.underlying55 acZ rfl (by decide) (by omega) u4 wD ace [.string ace] (fun k_=>some k_≠(ak1:Value).ownBlock) (fun _=>False) rfl rfl ?aP (fun _ hk=>hk.elim) ?aF ?aO ?aB ?aS ?aL ?_;(case aP=>exact rfl);(case aB=>exact(qz4 HB mR));(case aF=>exact(fun k_ hk=>Kd.fresh' (Kd.qo (cK jc)) k_ hk));(case aO=>exact(cK uX));(case aS=>exact(aG (qz4 HB mR)));(case aL=>exact qz3 aaK);intro avy w18 ho hb hg hat;rw[← ak3.out]at ho;replace jc:=ah.mk (Kd.sH (ok:=(fun _=>True)) (by refine qpr ?_;exact Kd.bS jc.out (fun _ hk=>⟨trivial,hk⟩)) hg hat);replace iG:=ah.mk (dQ (g:=mh) (o:=.cells #[.slice (some afc) bK.length eG,.slice fE bf.length eH] 27 (0,0)) (dP iG) hg (Kd.wT uX.out iG.out (by decide)));replace HB:=ah.mk (hb);have ak4:=ah.mk (ho);clear uX;clear ho hb hg hat))
        go_roundg k1
        case measure=>have:=HK1.out;omega
        case rel=>exact⟨(aot),(wrap64 (uj+1)),iY,H',⟨qz3 HK1⟩,⟨cK ak4⟩,⟨WB jc⟩,⟨dP iG⟩,⟨qz4 HB mR⟩⟩
       rw[if_neg c16]at H
       exact absurd H (by simp)
      rw[if_neg c14]at H
      exact absurd H (by simp)
     rw[if_neg c13]at H
     exact absurd H (by simp)
    ·rw[if_neg c12]at H
     have IQ:decide (uj<(bK.length:Int))=false:=decide_eq_false c12
     clear c12
     have H':=ah.mk H
     clear H
     have Ap:wr.cell? ⟨mh,0,none⟩=some (.slice eT bK.length eG):=(aj iG.out 0).trans rfl
     have Aq:wr.cell? ⟨mh,1,none⟩=some (.slice fE bf.length eH):=(aj iG.out 1).trans rfl
     have Ar:=ak iG.out 0
     have Au:=ak iG.out 1
     go_wp2
     go_loopg [5,31] k1 (fun kq v5 v31 w'=>∃ (uQ:List ByteArray) (gZ:Int),v31= .int .i64 gZ∧ah (bE.l1 kq wD uQ bf (bf.length:Int) gZ=some (r1,r2))∧ah (kq≤k1)∧ah (Kd.R Kd.string 9 w' w.heap.size (fun k_=>some k_≠(v5:Value).ownBlock) u4 wD)∧ah (Kd.R Kd.string 9 w' w.heap.size (fun k_=>some k_≠(u4:Value).ownBlock) v5 uQ)∧ah (w'.heap[mh]?=some (.cells #[(.slice eT bK.length eG),(.slice fE bf.length eH)] 27 (0,0)))∧ah (Below w.heap.size w w'))
     case atStart=>exact⟨(afa),(0),iY,H',⟨Nat.le_refl _⟩,⟨cK uX⟩,⟨cK jc⟩,⟨dP iG⟩,⟨qz4 HB mR⟩⟩
     case round=>
      clear H'
      try clear c1
      try clear c2
      try clear p2
      try clear c3
      try clear p3
      try clear q3
      try clear hx3
      try clear p6
      try clear c9
      try clear c10
      try clear c12
      try clear IQ
      try clear c13
      try clear UU
      try clear c14
      try clear aeS
      try clear c16
      try clear Ae
      try clear Af
      try clear Ap
      try clear Aq
      try clear GJ
      try clear GK
      try clear Ag
      try clear Ah
      try clear Ar
      try clear Au
      try clear WX
      try clear Rj
      try clear Fq
      try clear p2
      try clear agD
      try clear agE
      obtain⟨uQ,gZ,rfl,HA,HK2,uX,jc,iG,HB⟩:=hrel
      cases gk with
      |zero=>exact absurd HA.out (by simp[bE.l1])
      |succ k2=>
       have H:=HA.out
       clear HA
       simp only[bE.l1]at H
       by_cases c20:gZ<(bf.length:Int)
       ·rw[if_pos c20]at H
        have Uh:decide (gZ<(bf.length:Int))=true:=decide_eq_true c20
        clear c20
        by_cases c21:0≤gZ
        ·rw[if_pos c21]at H
         have Ak:decide (0≤gZ)=true:=decide_eq_true c21
         clear c21
         by_cases c22:gZ<(bf.length:Int)
         ·rw[if_pos c22]at H
          have arT:decide (gZ<(bf.length:Int))=true:=decide_eq_true c22
          clear c22
          obtain⟨yJ,aou,H⟩:=Option.bind_eq_some_iff.mp H
          have A23:=ah.mk aou
          clear aou
          by_cases c24:yJ.size+1≤9223372036854775807
          ·rw[if_pos c24]at H
           have arU:=eq_true c24
           have arV:decide (yJ.size+1≤9223372036854775807)=true:=decide_eq_true c24
           try have arW:(9223372036854775807<yJ.size+1)=False:=eq_false (Nat.not_lt.2 c24)
           obtain⟨CJ,aov,H⟩:=Option.bind_eq_some_iff.mp H
           have A25:=ah.mk aov
           clear aov
           by_cases c26:(yJ++(⟨#[46]⟩:ByteArray)).size+CJ.size≤9223372036854775807
           ·rw[if_pos c26]at H
            have aej:=eq_true c26
            have aek:decide ((yJ++(⟨#[46]⟩:ByteArray)).size+CJ.size≤9223372036854775807)=true:=decide_eq_true c26
            try have arX:(9223372036854775807<(yJ++(⟨#[46]⟩:ByteArray)).size+CJ.size)=False:=eq_false (Nat.not_lt.2 c26)
            have arY:(9223372036854775807<yJ.size+1+CJ.size)=False:=eq_false (by have h:=c26;simp only[ByteArray.size_append]at h;exact Nat.not_lt.2 h)
            by_cases c27:((yJ++(⟨#[46]⟩:ByteArray))++CJ).size+1≤9223372036854775807
            ·rw[if_pos c27]at H
             have arZ:=eq_true c27
             have ar0:decide (((yJ++(⟨#[46]⟩:ByteArray))++CJ).size+1≤9223372036854775807)=true:=decide_eq_true c27
             try have ar1:(9223372036854775807<((yJ++(⟨#[46]⟩:ByteArray))++CJ).size+1)=False:=eq_false (Nat.not_lt.2 c27)
             have ar2:(9223372036854775807<yJ.size+1+CJ.size+1)=False:=eq_false (by have h:=c27;simp only[ByteArray.size_append]at h;exact Nat.not_lt.2 h)
             obtain⟨Rf,aow,H⟩:=Option.bind_eq_some_iff.mp H
             have A28:=ah.mk aow
             clear aow
             by_cases c29:(((yJ++(⟨#[46]⟩:ByteArray))++CJ)++(⟨#[46]⟩:ByteArray)).size+Rf.size≤9223372036854775807
             ·rw[if_pos c29]at H
              have ar3:=eq_true c29
              have ar4:decide ((((yJ++(⟨#[46]⟩:ByteArray))++CJ)++(⟨#[46]⟩:ByteArray)).size+Rf.size≤9223372036854775807)=true:=decide_eq_true c29
              try have ar5:(9223372036854775807<(((yJ++(⟨#[46]⟩:ByteArray))++CJ)++(⟨#[46]⟩:ByteArray)).size+Rf.size)=False:=eq_false (Nat.not_lt.2 c29)
              have ar6:(9223372036854775807<yJ.size+1+CJ.size+1+Rf.size)=False:=eq_false (by have h:=c29;simp only[ByteArray.size_append]at h;exact Nat.not_lt.2 h)
              by_cases c30:uQ.length<8796093022208
              ·rw[if_pos c30]at H
               have ak5:=ah.mk c30
               clear c30
               obtain⟨aox,Rl⟩:∃ y_:List ByteArray,y_=(uQ++[(((yJ++(⟨#[46]⟩:ByteArray))++CJ)++(⟨#[46]⟩:ByteArray))++Rf]):=⟨_,rfl⟩
               replace H:(bE.l1 k2 wD aox bf (bf.length:Int) (wrap64 (gZ+1)))=some (r1,r2):=by first|(rw[Rl];with_reducible exact H)|(have H2_:=(Option.bind_some _ _).symm.trans H;rw[Rl];with_reducible exact H2_)|(have H2_:=(Option.bind_some _ _).symm.trans H;with_reducible exact H2_)|with_reducible exact H|(rw[Rl];exact H)|exact H
               have ak6:=ah.mk Rl
               clear Rl
               have H':=ah.mk H
               clear H
               have ak7:0≤(gZ:Int):=of_decide_eq_true gN
               have ak8:gZ<(bf.length:Int):=of_decide_eq_true gN
               obtain⟨Hr,e306,Kj,Kk,Kl⟩:=kH jU.out gZ ak7 ak8
               cases e306
               replace Kj:=(HB.out.cell (World.block_lt_of_cell? w _ Kj)).trans Kj
               replace Kk:=(HB.out.cell (World.block_lt_of_cell? w _ Kk)).trans Kk
               replace Kl:=(HB.out.cell (World.block_lt_of_cell? w _ Kl)).trans Kl
               replace ak7:=eq_true ak7
               replace ak8:=eq_true ak8
               try go_wp2_with (first|((with_reducible refine aH (N:=9) rfl ?_);refine qbx (N:=9) (cs:=#[.int .i64 0,.int .i64 0,.int .i64 0]) (t:=40) ?_;intro kL hg w31 bR hb;replace uX:=ah.mk (Kd.aM (cK uX) hb);replace jc:=ah.mk (Kd.aM (cK jc) hb);have kr:=ah.mk (bR);have ar7:=ah.mk ((wU HB mR:w.heap.size≤kL));have CK:=ah.mk ((wU HB mR:w.heap.size≤kL));replace HB:=ah.mk (av (qz4 HB mR) hb);have Ht:=ah.mk ((by rw[hg];exact Nat.ne_of_lt (gD (g:=mh) (o:=.cells #[.slice eT bK.length eG,.slice (some Hr) bf.length eH] 27 (0,0)) (dP iG)):mh≠kL));have Rm:=ah.mk ((by rw[hg];exact Nat.ne_of_gt (gD (g:=mh) (o:=.cells #[.slice eT bK.length eG,.slice (some Hr) bf.length eH] 27 (0,0)) (dP iG)):kL≠mh));replace iG:=ah.mk (aA (g:=mh) (o:=.cells #[.slice eT bK.length eG,.slice (some Hr) bf.length eH] 27 (0,0)) (dP iG) hb);clear hb bR hg;have ar8:=Rm.out;have ar9:=Ht.out;have aax:w31.cell? ⟨kL,0,none⟩=some (.int .i64 0):=(aj kr.out 0).trans rfl;have aay:w31.cell? ⟨kL,1,none⟩=some (.int .i64 0):=(aj kr.out 1).trans rfl;have ak9:w31.cell? ⟨kL,2,none⟩=some (.int .i64 0):=(aj kr.out 2).trans rfl;have ala:=ak kr.out 0;have alb:=ak kr.out 1;have alc:=ak kr.out 2))
               have n0_:ah (Kd.R Kd.string 9 (((w31.setCell ⟨kL,0,none⟩ (.int .i64 ((au bf gZ).f0))).setCell ⟨kL,1,none⟩ (.int .i64 ((au bf gZ).f1))).setCell ⟨kL,2,none⟩ (.int .i64 ((au bf gZ).f2))) w.heap.size (fun k_=>some k_≠(u5:Value).ownBlock) u4 wD):=⟨by refine qpr ?_;exact Kd.bS (Kd.bX (p:=⟨kL,2,none⟩) (Kd.bX (p:=⟨kL,1,none⟩) (Kd.bX (p:=⟨kL,0,none⟩) (Kd.cO uX.out kr.out (by decide)) (fun _ hk=>hk.2) (.int .i64 ((au bf gZ).f0))) (fun _ hk=>hk.2) (.int .i64 ((au bf gZ).f1))) (fun _ hk=>hk.2) (.int .i64 ((au bf gZ).f2))) (fun _ hk=>hk.1)⟩
               have n1_:ah (Kd.R Kd.string 9 (((w31.setCell ⟨kL,0,none⟩ (.int .i64 ((au bf gZ).f0))).setCell ⟨kL,1,none⟩ (.int .i64 ((au bf gZ).f1))).setCell ⟨kL,2,none⟩ (.int .i64 ((au bf gZ).f2))) w.heap.size (fun k_=>some k_≠(u4:Value).ownBlock) u5 uQ):=⟨by refine qpr ?_;exact Kd.bS (Kd.bX (p:=⟨kL,2,none⟩) (Kd.bX (p:=⟨kL,1,none⟩) (Kd.bX (p:=⟨kL,0,none⟩) (Kd.cO jc.out kr.out (by decide)) (fun _ hk=>hk.2) (.int .i64 ((au bf gZ).f0))) (fun _ hk=>hk.2) (.int .i64 ((au bf gZ).f1))) (fun _ hk=>hk.2) (.int .i64 ((au bf gZ).f2))) (fun _ hk=>hk.1)⟩
               have n2_:ah ((((w31.setCell ⟨kL,0,none⟩ (.int .i64 ((au bf gZ).f0))).setCell ⟨kL,1,none⟩ (.int .i64 ((au bf gZ).f1))).setCell ⟨kL,2,none⟩ (.int .i64 ((au bf gZ).f2))).heap[mh]?=some (.cells #[.slice eT bK.length eG,.slice (some Hr) bf.length eH] 27 (0,0))):=⟨Nb Ht iG⟩
               have n3_:ah ((((w31.setCell ⟨kL,0,none⟩ (.int .i64 ((au bf gZ).f0))).setCell ⟨kL,1,none⟩ (.int .i64 ((au bf gZ).f1))).setCell ⟨kL,2,none⟩ (.int .i64 ((au bf gZ).f2))).heap[kL]?=some (.cells #[.int .i64 ((au bf gZ).f0),.int .i64 ((au bf gZ).f1),.int .i64 ((au bf gZ).f2)] 40 (0,0))):=⟨by refine qpb ?_;refine aW (cs:=#[.int .i64 ((au bf gZ).f0),.int .i64 ((au bf gZ).f1),.int .i64 0]) ?_ 2 _ rfl;refine qpb ?_;refine aW (cs:=#[.int .i64 ((au bf gZ).f0),.int .i64 0,.int .i64 0]) ?_ 1 _ rfl;refine qpb ?_;refine aW (cs:=#[.int .i64 0,.int .i64 0,.int .i64 0]) ?_ 0 _ rfl;refine qpb ?_;exact kr.out⟩
               have n4_:ah (Below w.heap.size w (((w31.setCell ⟨kL,0,none⟩ (.int .i64 ((au bf gZ).f0))).setCell ⟨kL,1,none⟩ (.int .i64 ((au bf gZ).f1))).setCell ⟨kL,2,none⟩ (.int .i64 ((au bf gZ).f2)))):=⟨qz8 HB mR CK⟩
               (try clear uX)
               (try clear jc)
               (try clear iG)
               (try clear kr)
               (try clear HB)
               generalize (((w31.setCell ⟨kL,0,none⟩ (.int .i64 ((au bf gZ).f0))).setCell ⟨kL,1,none⟩ (.int .i64 ((au bf gZ).f1))).setCell ⟨kL,2,none⟩ (.int .i64 ((au bf gZ).f2)))=w34 at n0_ n1_ n2_ n3_ n4_ ⊢
               have uX:=n0_
               have jc:=n1_
               have iG:=n2_
               have kr:=n3_
               have HB:=n4_
               clear n0_ n1_ n2_ n3_ n4_
               replace uX:=ah.mk (Kd.fO uX.out)
               replace jc:=ah.mk (Kd.fO jc.out)
               replace iG:=ah.mk (dS iG.out)
               replace kr:=ah.mk (dS kr.out)
               replace HB:=ah.mk (bG HB.out)
               refine qP (n:=17) (S:=fun w'=>w'.cell? ⟨kL,0,none⟩=some (.int .i64 ((au bf gZ).f0))∧w'.cell? ⟨kL,1,none⟩=some (.int .i64 ((au bf gZ).f1))∧w'.cell? ⟨kL,2,none⟩=some (.int .i64 ((au bf gZ).f2))) (ds:=[]) #[false,false,false,false,false,false,false,false,false,false,false,false,false,false,false,false,false] qz9 rfl rfl ⟨(aj kr.out 0).trans rfl,(aj kr.out 1).trans rfl,(aj kr.out 2).trans rfl⟩ (fun hHeld=>?_);refine jZ bE.akY bE.ae8 (fun HT_ HW_=>?_)
               generalize w34.drew=w35 at uX jc iG kr HB hHeld ⊢
               refine qpu HT_ 0 35 #[true,false,false,false,false,false,false,false,false,false,false,false,false,false,false,false,false] rfl rfl ?_
               refine qpu HT_ 1 36 #[true,true,false,false,false,false,false,false,false,false,false,false,false,false,false,false,false] rfl rfl ?_
               refine qpu HT_ 5 40 #[true,true,false,false,false,true,false,false,false,false,false,false,false,false,false,false,false] rfl rfl ?_
               refine qpu HT_ 10 45 #[true,true,false,false,false,true,false,false,false,false,true,false,false,false,false,false,false] rfl rfl ?_
               refine qtk HT_ HW_ 2 37 #[true,true,true,false,false,true,false,false,false,false,true,false,false,false,false,false,false] rfl rfl hHeld ?_
               refine qtk HT_ HW_ 6 41 #[true,true,true,false,false,true,true,false,false,false,true,false,false,false,false,false,false] rfl rfl hHeld ?_
               refine qtk HT_ HW_ 11 46 #[true,true,true,false,false,true,true,false,false,false,true,true,false,false,false,false,false] rfl rfl hHeld ?_
               refine FP (i:=3) (N:=some 38) #[true,true,true,true,false,true,true,false,false,false,true,true,false,false,false,false,false] rfl rfl (nE HT_.out qz9) (by decide) (fun K hK=>?_)
               refine yC Tryz.func26 qz9 rfl #[.int .i64 ((au bf gZ).f0)] (by rfl) rfl rfl jh ?_
               with_reducible refine(dZ.calls ((au bf gZ).f0) yJ _ A23.out ((pq.out.below (qz8 HB mR CK)).tab)).mono ?_
               rintro e w36 ⟨rfl,hb⟩
               refine⟨_,rfl,?_⟩
               replace uX:=ah.mk (Kd.aM (cK uX) hb)
               replace jc:=ah.mk (Kd.aM (cK jc) hb)
               replace iG:=ah.mk (aA (g:=mh) (o:=.cells #[.slice eT bK.length eG,.slice (some Hr) bf.length eH] 27 (0,0)) (dP iG) hb)
               replace kr:=ah.mk (aA (g:=kL) (o:=.cells #[.int .i64 ((au bf gZ).f0),.int .i64 ((au bf gZ).f1),.int .i64 ((au bf gZ).f2)] 40 (0,0)) (dP kr) hb)
               replace HB:=ah.mk (av (qz8 HB mR CK) hb)
               (try clear hb)
               (try clear hb2)
               (try clear hk)
               (try clear hi)
               refine hK.out _ _ ⟨(aj kr.out 0).trans rfl,(aj kr.out 1).trans rfl,(aj kr.out 2).trans rfl⟩ (fun hHeld=>?_)
               clear hK K
               refine qno 38 rfl ?_
               refine qpu HT_ 4 39 #[true,true,true,true,true,true,true,false,false,false,true,true,false,false,false,false,false] rfl rfl ?_
               refine FP (i:=7) (N:=some 42) #[true,true,true,true,true,true,true,true,false,false,true,true,false,false,false,false,false] rfl rfl (nE HT_.out qz9) (by decide) (fun K hK=>?_)
               refine yC Tryz.func26 qz9 rfl #[.int .i64 ((au bf gZ).f1)] (by rfl) rfl rfl jh ?_
               with_reducible refine(dZ.calls ((au bf gZ).f1) CJ _ A25.out ((pq.out.below (qz8 HB mR CK)).tab)).mono ?_
               rintro e w37 ⟨rfl,hb⟩
               refine⟨_,rfl,?_⟩
               replace uX:=ah.mk (Kd.aM (cK uX) hb)
               replace jc:=ah.mk (Kd.aM (cK jc) hb)
               replace iG:=ah.mk (aA (g:=mh) (o:=.cells #[.slice eT bK.length eG,.slice (some Hr) bf.length eH] 27 (0,0)) (dP iG) hb)
               replace kr:=ah.mk (aA (g:=kL) (o:=.cells #[.int .i64 ((au bf gZ).f0),.int .i64 ((au bf gZ).f1),.int .i64 ((au bf gZ).f2)] 40 (0,0)) (dP kr) hb)
               replace HB:=ah.mk (av (qz8 HB mR CK) hb)
               (try clear hb)
               (try clear hb2)
               (try clear hk)
               (try clear hi)
               refine hK.out _ _ ⟨(aj kr.out 0).trans rfl,(aj kr.out 1).trans rfl,(aj kr.out 2).trans rfl⟩ (fun hHeld=>?_)
               clear hK K
               refine qno 42 rfl ?_
               refine qpu HT_ 8 43 #[true,true,true,true,true,true,true,true,true,false,true,true,false,false,false,false,false] rfl rfl ?_
               refine qpu HT_ 9 44 #[true,true,true,true,true,true,true,true,true,true,true,true,false,false,false,false,false] rfl rfl ?_
               refine FP (i:=12) (N:=some 47) #[true,true,true,true,true,true,true,true,true,true,true,true,true,false,false,false,false] rfl rfl (nE HT_.out qz9) (by decide) (fun K hK=>?_)
               refine yC Tryz.func26 qz9 rfl #[.int .i64 ((au bf gZ).f2)] (by rfl) rfl rfl jh ?_
               with_reducible refine(dZ.calls ((au bf gZ).f2) Rf _ A28.out ((pq.out.below (qz8 HB mR CK)).tab)).mono ?_
               rintro e w38 ⟨rfl,hb⟩
               refine⟨_,rfl,?_⟩
               replace uX:=ah.mk (Kd.aM (cK uX) hb)
               replace jc:=ah.mk (Kd.aM (cK jc) hb)
               replace iG:=ah.mk (aA (g:=mh) (o:=.cells #[.slice eT bK.length eG,.slice (some Hr) bf.length eH] 27 (0,0)) (dP iG) hb)
               replace kr:=ah.mk (aA (g:=kL) (o:=.cells #[.int .i64 ((au bf gZ).f0),.int .i64 ((au bf gZ).f1),.int .i64 ((au bf gZ).f2)] 40 (0,0)) (dP kr) hb)
               replace HB:=ah.mk (av (qz8 HB mR CK) hb)
               (try clear hb)
               (try clear hb2)
               (try clear hk)
               (try clear hi)
               refine hK.out _ _ ⟨(aj kr.out 0).trans rfl,(aj kr.out 1).trans rfl,(aj kr.out 2).trans rfl⟩ (fun hHeld=>?_)
               clear hK K
               refine qno 47 rfl ?_
               refine qpu HT_ 13 48 #[true,true,true,true,true,true,true,true,true,true,true,true,true,true,false,false,false] rfl rfl ?_
               refine FP (i:=14) (N:=some 49) #[true,true,true,true,true,true,true,true,true,true,true,true,true,true,true,false,false] rfl rfl (nE HT_.out qz9) (by decide) (fun K hK=>?_)
               refine Nu (w1:=?_) (v:=?_) (by rfl) rfl ?_ ?_
               rotate_left 2
               ·go_simp
                constructor
                ·rfl
                rfl
               refine hK.out _ _ ⟨(aj (fV kr.out _) 0).trans rfl,(aj (fV kr.out _) 1).trans rfl,(aj (fV kr.out _) 2).trans rfl⟩ (fun hHeld=>?_)
               clear hK K
               refine qno 49 rfl ?_
               refine FP (i:=15) (N:=some 50) #[true,true,true,true,true,true,true,true,true,true,true,true,true,true,true,true,false] rfl rfl (nE HT_.out qz9) (by decide) (fun K hK=>?_)
               refine Kd.ru Kd.string (w0:=w) w.heap.size (by rfl) (.tmp 35) (.tmp 49) 55 9 (.string ⟨#[]⟩) 16 rfl Tryz.underlying55 acZ rfl (by decide) (by omega) u5 uQ ((((yJ++(⟨#[46]⟩:ByteArray))++CJ)++(⟨#[46]⟩:ByteArray))++Rf) [.string ((((yJ++(⟨#[46]⟩:ByteArray))++CJ)++(⟨#[46]⟩:ByteArray))++Rf)] (fun k_=>some k_≠(u4:Value).ownBlock) (fun _=>False) rfl rfl ?aP (fun _ hk=>hk.elim) ?aF ?aO ?aB ?aS ?aL ?_
               (case aP=>exact rfl)
               (case aB=>exact(qz8 HB mR CK))
               (case aF=>exact(fun k_ hk=>Kd.fresh' (Kd.qo (cK uX)) k_ hk))
               (case aO=>exact(cK jc))
               (case aS=>exact(aG (qz8 HB mR CK)))
               (case aL=>exact qz3 ak5)
               intro avz w39 ho hb hg hat
               rw[← ak6.out]at ho
               replace uX:=ah.mk (Kd.sH (ok:=(fun _=>True)) (by refine qpr ?_;exact Kd.bS uX.out (fun _ hk=>⟨trivial,hk⟩)) hg hat)
               replace iG:=ah.mk (dQ (g:=mh) (o:=.cells #[.slice eT bK.length eG,.slice (some Hr) bf.length eH] 27 (0,0)) (dP iG) hg (Kd.wT jc.out iG.out (by decide)))
               replace kr:=ah.mk (dQ (g:=kL) (o:=.cells #[.int .i64 ((au bf gZ).f0),.int .i64 ((au bf gZ).f1),.int .i64 ((au bf gZ).f2)] 40 (0,0)) (dP kr) hg (Kd.wT jc.out kr.out (by decide)))
               replace HB:=ah.mk (hb)
               have ald:=ah.mk (ho)
               clear jc
               clear ho hb hg hat
               refine hK.out _ _ ⟨(aj kr.out 0).trans rfl,(aj kr.out 1).trans rfl,(aj kr.out 2).trans rfl⟩ (fun hHeld=>?_)
               clear hK K
               refine qno 50 rfl ?_
               refine qpu HT_ 16 5 #[true,true,true,true,true,true,true,true,true,true,true,true,true,true,true,true,true] rfl rfl ?_
               refine xk (oh HT_.out qz9) ?_
               try go_wp2
               go_roundg k2
               case measure=>have:=HK1.out;have:=HK2.out;omega
               case rel=>exact⟨(aox),(wrap64 (gZ+1)),iY,H',⟨Ug HK1 HK2⟩,⟨WB uX⟩,⟨cK ald⟩,⟨dP iG⟩,⟨qz8 HB mR CK⟩⟩
              rw[if_neg c30]at H
              exact absurd H (by simp)
             rw[if_neg c29]at H
             exact absurd H (by simp)
            rw[if_neg c27]at H
            exact absurd H (by simp)
           rw[if_neg c26]at H
           exact absurd H (by simp)
          rw[if_neg c24]at H
          exact absurd H (by simp)
         rw[if_neg c22]at H
         exact absurd H (by simp)
        rw[if_neg c21]at H
        exact absurd H (by simp)
       ·rw[if_neg c20]at H
        have Uh:decide (gZ<(bf.length:Int))=false:=decide_eq_false c20
        clear c20
        obtain⟨Ng,aoy,H⟩:=Option.bind_eq_some_iff.mp H
        have A40:=ah.mk aoy
        clear aoy
        by_cases c41:Ng.size+1≤9223372036854775807
        ·rw[if_pos c41]at H
         have asa:=eq_true c41
         have asb:decide (Ng.size+1≤9223372036854775807)=true:=decide_eq_true c41
         try have asc:(9223372036854775807<Ng.size+1)=False:=eq_false (Nat.not_lt.2 c41)
         obtain⟨WW,aoz,H⟩:=Option.bind_eq_some_iff.mp H
         have A42:=ah.mk aoz
         clear aoz
         by_cases c43:(Ng++(⟨#[47]⟩:ByteArray)).size+WW.size≤9223372036854775807
         ·rw[if_pos c43]at H
          have ase:=eq_true c43
          have asf:decide ((Ng++(⟨#[47]⟩:ByteArray)).size+WW.size≤9223372036854775807)=true:=decide_eq_true c43
          try have asg:(9223372036854775807<(Ng++(⟨#[47]⟩:ByteArray)).size+WW.size)=False:=eq_false (Nat.not_lt.2 c43)
          have ash:(9223372036854775807<Ng.size+1+WW.size)=False:=eq_false (by have h:=c43;simp only[ByteArray.size_append]at h;exact Nat.not_lt.2 h)
          simp only[Option.some.injEq,Prod.mk.injEq]at H
          obtain⟨rfl,rfl⟩:=H
          obtain⟨asi,asj,asl⟩:=Kd.dW uX.out
          subst asl
          go_wp2_with (first|((with_reducible refine aK (f:=27) rfl ?_);refine dH (some 53) rfl rfl Tryz.func27 qz9 rfl #[.slice asi wD.length asj,.string (⟨#[44]⟩:ByteArray)] rfl jh ?_;(with_reducible refine(strings_Join.calls _ _ wD (⟨#[44]⟩:ByteArray) Ng _ ?bT ?bU A40.out).mono ?_);(case bT=>exact qO uX);(case bU=>exact qg uX);rintro e w45 ⟨rfl,hb⟩;refine⟨_,rfl,?_⟩;replace uX:=ah.mk (Kd.aM (cK uX) hb);replace jc:=ah.mk (Kd.aM (cK jc) hb);replace iG:=ah.mk (aA (g:=mh) (o:=.cells #[.slice eT bK.length eG,.slice fE bf.length eH] 27 (0,0)) (dP iG) hb);replace HB:=ah.mk (av (qz4 HB mR) hb);(try clear hb);(try clear hb2);(try clear hk);(try clear hi);obtain⟨asn,aso,asq⟩:=Kd.dW jc.out;subst asq)|((with_reducible refine aK (f:=27) rfl ?_);refine dH (some 56) rfl rfl Tryz.func27 qz9 rfl #[.slice asn uQ.length aso,.string (⟨#[44]⟩:ByteArray)] rfl jh ?_;(with_reducible refine(strings_Join.calls _ _ uQ (⟨#[44]⟩:ByteArray) WW _ ?bT ?bU A42.out).mono ?_);(case bT=>exact qO jc);(case bU=>exact qg jc);rintro e w47 ⟨rfl,hb⟩;refine⟨_,rfl,?_⟩;replace uX:=ah.mk (Kd.aM (cK uX) hb);replace jc:=ah.mk (Kd.aM (cK jc) hb);replace iG:=ah.mk (aA (g:=mh) (o:=.cells #[.slice eT bK.length eG,.slice fE bf.length eH] 27 (0,0)) (dP iG) hb);replace HB:=ah.mk (av (qz4 HB mR) hb);(try clear hb);(try clear hb2);(try clear hk);(try clear hi)))
          go_ret2
          exact⟨qz7,qz4 HB mR⟩
         rw[if_neg c43]at H
         exact absurd H (by simp)
        rw[if_neg c41]at H
        exact absurd H (by simp)
 ·replace c3:=Bool.eq_false_iff.mpr c3
  subst c3
  rw[if_neg (show ¬(false=true) by decide)]at H
  simp only[Option.some.injEq,Prod.mk.injEq]at H
  obtain⟨rfl,rfl⟩:=H
  go_enter Tryz.func10,Tryz.ntmps10
  go_wp2_with (first|((with_reducible refine aH (N:=1) rfl ?_);refine qbx (N:=1) (cs:=#[.slice eT bK.length eG,.slice fE bf.length eH]) (t:=27) ?_;intro mh hg w48 bR hb;have iG:=ah.mk (bR);have ak0:=ah.mk ((mK HB:w.heap.size≤mh));have mR:=ah.mk ((mK HB:w.heap.size≤mh));replace HB:=ah.mk (av (qz0 HB) hb);clear hb bR hg;have ale:w48.cell? ⟨mh,0,none⟩=some (.slice eT bK.length eG):=(aj iG.out 0).trans rfl;have alf:w48.cell? ⟨mh,1,none⟩=some (.slice fE bf.length eH):=(aj iG.out 1).trans rfl;have alg:=ak iG.out 0;have alh:=ak iG.out 1)|((with_reducible refine aK (f:=9) rfl ?_);refine dH (some 11) rfl rfl Tryz.func9 qz9 rfl #[.agg #[.slice eT bK.length eG,.slice fE bf.length eH]] rfl jh ?_;(with_reducible refine(aX.calls k _ _ bK _ _ bf false _ ?bT ?bU ?eu ?eF A2.out).mono ?_);(case bT=>exact qz2 jT HB);(case bU=>exact jL kg);(case eu=>exact qz2 jU HB);(case eF=>exact jL kC);rintro e w50 ⟨rfl,hb⟩;refine⟨_,rfl,?_⟩;replace iG:=ah.mk (aA (g:=mh) (o:=.cells #[.slice eT bK.length eG,.slice fE bf.length eH] 27 (0,0)) (dP iG) hb);replace HB:=ah.mk (av (qz4 HB mR) hb);(try clear hb);(try clear hb2);(try clear hk);(try clear hi)))
  go_ret2
  exact⟨qz7,qz4 HB mR⟩
end Go.Proofs.YtalkmhnlgfncmaaGreatDoor.X
end
section
/- The text of a flow: the reference's and the program's are the same. Conditions: none. -/
namespace Go.Proofs.YtalkmhnlgfncmaaGreatDoor.X
open Go.RowKit Go.Proofs.YtalkmhnlgfncmaaGreatDoorW.aC Go.Proofs.YtalkmhnlgfncmaaGreatDoorW.aN Go.Proofs.YtalkmhnlgfncmaaGreatDoorW.aT
/-- A text out of its letters. -/
def Tx (l:List UInt8):ByteArray:=⟨l.toArray⟩
theorem Ls (a b:List UInt8):Tx a++Tx b=Tx (a++b):=by
 unfold Tx
 apply ByteArray.ext
 rw[ByteArray.data_append]
 simp
theorem Fu (a:List UInt8):(Tx a).size=a.length:=by unfold Tx ByteArray.size;simp
theorem xL (a:List UInt8):(Tx a).data.toList=a:=by unfold Tx;simp
/-- The numeral of a number. -/
def dtx (d:Int):ByteArray:=Tx (Lib.itoa d)
theorem Rn:Lib.decDigits 100=[49,48,48]:=by
 rw[Lib.decDigits,dif_neg (by omega),Lib.decDigits_two (by omega) (by omega)]
 rfl
theorem Vg (d:Int) (h0:0≤d) (h1:d≤100):(Lib.itoa d).length≤3:=by
 obtain⟨n,rfl⟩:=Int.eq_ofNat_of_zero_le h0
 rw[Lib.itoa_nonneg]
 by_cases h:n<10
 ·rw[Lib.decDigits_one h];simp
 by_cases h2:n<100
 ·rw[Lib.decDigits_two h h2];simp
 obtain rfl:n=100:=by omega
 rw[Rn];simp
theorem qA (d:Int) (h0:0≤d) (h1:d≤100):(dtx d).size≤3:=by unfold dtx;rw[Fu];exact Vg d h0 h1
theorem agF (d:Int) (h0:0≤d) (h1:d≤100):dZ.f d=some (dtx d):=by
 unfold dZ.f
 rw[if_pos ⟨by omega,by omega⟩];rfl
/-- Texts with commas between them. -/
def Jn (xs:List ByteArray):List UInt8:=Lib.join (xs.map (·.data.toList)) [44]
theorem aaL (xs:List ByteArray) (y:ByteArray):Jn (xs++[y])=(if xs.length=0 then []else Jn xs++[44])++y.data.toList:=by
 unfold Jn
 cases xs with
 |nil=>simp[Lib.join_one]
 |cons x r=>
  rw[if_neg (by simp),List.cons_append,List.map_cons,List.map_cons,Lib.join_cons,Lib.join_cons,List.map_append]
  simp[Lib.joinTail,List.append_assoc]
theorem WY (c:Nat) (xs:List ByteArray) (f:Nat) (h:∀ y,y∈xs→y.size≤c):∀ i,i≤xs.length→(Jn (xs.take i)).length≤(c+1)*i
 |0,_=>by simp[Jn,Lib.join_nil]
 |i+1,hi=>by
  have ih:=WY c xs f h i (by omega)
  have hy:=h xs[i] (List.getElem_mem (by omega))
  rw[List.take_succ_eq_append_getElem (by omega),aaL,List.length_append]
  have e:(xs[i]).data.toList.length=(xs[i]).size:=Array.length_toList
  rw[e]
  have:(c+1)*(i+1)=(c+1)*i+c+1:=by rw[Nat.mul_succ];omega
  split
  ·simp;omega
  ·simp;omega
theorem Hu (c:Nat) (xs:List ByteArray) (h:∀ y,y∈xs→y.size≤c):(Jn xs).length≤(c+1)*xs.length:=by
 have:=WY c xs 0 h xs.length (Nat.le_refl _)
 rwa [List.take_length]at this
theorem WZ (c:Nat) (xs:List ByteArray) (h:∀ y,y∈xs→y.size≤c) (hc:c≤100) (hl:xs.length≤100):strings_Join.f xs ⟨#[44]⟩=some (Tx (Jn xs)):=by
 have h1:=Hu c xs h
 have h2:(c+1)*xs.length≤101*100:=Nat.mul_le_mul (by omega) hl
 unfold strings_Join.f
 rw[if_pos ⟨by omega,by show (Jn xs).length≤ _;omega⟩];rfl
/-- A wire's text. -/
def wtx (w:S40):ByteArray:=(((dtx w.f0++(⟨#[46]⟩:ByteArray))++dtx w.f1)++(⟨#[46]⟩:ByteArray))++dtx w.f2
def rQ (d:Int):Prop:=0≤d∧d≤100
theorem Lu (w:S40) (h0:rQ w.f0) (h1:rQ w.f1) (h2:rQ w.f2):(wtx w).size≤11:=by
 have a0:=qA _ h0.1 h0.2
 have a1:=qA _ h1.1 h1.2
 have a2:=qA _ h2.1 h2.2
 unfold wtx
 simp only[ByteArray.size_append]
 show (dtx w.f0).size+1+(dtx w.f1).size+1+(dtx w.f2).size≤11
 omega
/-- A flow's text. -/
def uY (l:List Int) (ws:List S40):ByteArray:=Tx (Jn (l.map dtx)++[47]++Jn (ws.map wtx))
theorem Dt (xs:List ByteArray) (ws:List S40) (hx:∀ y,y∈xs→y.size≤3) (hxl:xs.length≤8) (hl:ws.length≤16) (hd:∀ w,w∈ws→rQ w.f0∧rQ w.f1∧rQ w.f2):
  ∀ (d i k:Nat),i+d=ws.length→d<k→bE.l1 k xs ((ws.take i).map wtx) ws (ws.length:Int) (i:Int)=some (Tx (Jn xs++[47]++Jn (ws.map wtx)),true)
 |0,i,k,hi,hk=>by
  cases k with
  |zero=>omega
  |succ k=>
   have hwx:∀ y,y∈ws.map wtx→y.size≤11:=fun y hy=>by
    obtain⟨w,hw,rfl⟩:=List.mem_map.mp hy
    obtain⟨b0,b1,b2⟩:=hd w hw
    exact Lu w b0 b1 b2
   have a1:=Hu 3 xs hx
   have a2:=Hu 11 (ws.map wtx) hwx
   rw[List.length_map]at a2
   have a3:(3+1)*xs.length≤4*8:=Nat.mul_le_mul (by omega) hxl
   have a4:(11+1)*ws.length≤12*16:=Nat.mul_le_mul (by omega) hl
   have e1:(⟨#[47]⟩:ByteArray).size=1:=rfl
   rw[bE.l1,if_neg (by omega),List.take_of_length_le (by omega),WZ 3 xs hx (by omega) (by omega),WZ 11 (ws.map wtx) hwx (by omega) (by rw[List.length_map];omega)]
   simp only[Option.bind_some]
   rw[if_pos (by rw[Fu];omega),if_pos (by simp only[ByteArray.size_append,Fu,e1];omega)]
   congr 2
 |d+1,i,k,hi,hk=>by
  cases k with
  |zero=>omega
  |succ k=>
   have hi2:i<ws.length:=by omega
   have ih:=Dt xs ws hx hxl hl hd d (i+1) k (by omega) (by omega)
   obtain⟨b0,b1,b2⟩:=hd ws[i] (List.getElem_mem hi2)
   have z0:=qA _ b0.1 b0.2
   have z1:=qA _ b1.1 b1.2
   have z2:=qA _ b2.1 b2.2
   have e1:(⟨#[46]⟩:ByteArray).size=1:=rfl
   have step:(ws.take (i+1)).map wtx=(ws.take i).map wtx++[wtx ws[i]]:=by
    rw[List.take_succ_eq_append_getElem hi2,List.map_append];rfl
   rw[step,Int.natCast_add,Int.natCast_one]at ih
   rw[bE.l1,if_pos (by omega),if_pos (by omega),if_pos (by omega),rX ws i hi2,agF _ b0.1 b0.2,agF _ b1.1 b1.2,agF _ b2.1 b2.2]
   simp only[Option.bind_some]
   rw[if_pos (by omega),if_pos (by simp only[ByteArray.size_append,e1];omega),if_pos (by simp only[ByteArray.size_append,e1];omega),if_pos (by simp only[ByteArray.size_append,e1];omega),if_pos (by rw[List.length_map,List.length_take];omega),w64 (n:=(i:Int)+1) (by omega) (by omega)]
   exact ih
theorem Hw (l:List Int) (ws:List S40) (hl:l.length≤8) (hm:ws.length≤16) (hd:∀ d,d∈l→rQ d) (hw:∀ w,w∈ws→rQ w.f0∧rQ w.f1∧rQ w.f2):
  ∀ (d i k:Nat),i+d=l.length→d+50<k→bE.l0 k ((l.take i).map dtx) [] l (l.length:Int) (i:Int) l ws=some (uY l ws,true)
 |0,i,k,hi,hk=>by
  cases k with
  |zero=>omega
  |succ k=>
   rw[bE.l0,if_neg (by omega),List.take_of_length_le (by omega)]
   exact Dt (l.map dtx) ws (fun y hy=>by
    obtain⟨w,hw,rfl⟩:=List.mem_map.mp hy
    exact qA w (hd w hw).1 (hd w hw).2) (by rw[List.length_map];omega) hm hw ws.length 0 k (by omega) (by omega)
 |d+1,i,k,hi,hk=>by
  cases k with
  |zero=>omega
  |succ k=>
   have hi2:i<l.length:=by omega
   have ih:=Hw l ws hl hm hd hw d (i+1) k (by omega) (by omega)
   have b0:=hd l[i] (List.getElem_mem hi2)
   have step:(l.take (i+1)).map dtx=(l.take i).map dtx++[dtx l[i]]:=by
    rw[List.take_succ_eq_append_getElem hi2,List.map_append];rfl
   rw[step,Int.natCast_add,Int.natCast_one]at ih
   rw[bE.l0,if_pos (by omega),if_pos (by omega),if_pos (by omega),qQ l i hi2,agF _ b0.1 b0.2]
   simp only[Option.bind_some]
   rw[if_pos (by rw[List.length_map,List.length_take];omega),w64 (n:=(i:Int)+1) (by omega) (by omega)]
   exact ih
theorem Ro (k:Nat) (l:List Int) (ws:List S40) (hk:2000<k):bE.f k l ws=some (if iV l ws=true then(uY l ws,true)else(⟨#[]⟩,false)):=by
 unfold bE.f
 rw[mZ k l ws hk,Option.bind_some]
 cases hv:iV l ws with
 |false=>rfl
 |true=>
  rw[if_pos rfl,if_pos rfl]
  have hf:wE l ws=true:=by
   unfold iV at hv
   exact(Bool.and_eq_true_iff.mp hv).1
  obtain⟨⟨h1,h2⟩,h3,h4,h5⟩:=tN hf
  exact Hw l ws h2 h3 h4 (fun w hw=>by
   obtain⟨a,b,c,d,e,f⟩:=h5 w hw
   exact⟨⟨a,by omega⟩,⟨c,by omega⟩,⟨e,by omega⟩⟩) l.length 0 k (by omega) (by omega)
end Go.Proofs.YtalkmhnlgfncmaaGreatDoor.X
end
section
/- Contracts of Go's library, as the shelf lays them at this seat's translation. Conditions: as each says. -/
namespace Go.Proofs
open Go.Shelf
def Tryz.lays219_ren:Go.Shelf.Ren:=⟨fun|219=>72|217=>83|225=>84|224=>85|267=>86|266=>97|314=>98|n=>n,fun|9=>9|3=>3|4=>4|5=>5|46=>114|146=>136|51=>132|n=>n,fun|1=>0|n=>n⟩
theorem Tryz.lays219:Go.Proofs.Lays.n219 Tryz.prog Tryz.lays219_ren:={
 mixed:=by kernel_rfl
 f217:=Tryz.func83.trans (congrArg some (by kernel_rfl))
 f219:=Tryz.func72.trans (congrArg some (by kernel_rfl))
 f224:=Tryz.func85.trans (congrArg some (by kernel_rfl))
 f225:=Tryz.func84.trans (congrArg some (by kernel_rfl))
 f266:=Tryz.func97.trans (congrArg some (by kernel_rfl))
 f267:=Tryz.func86.trans (congrArg some (by kernel_rfl))
 f314:=Tryz.func98.trans (congrArg some (by kernel_rfl))
 t3:=Tryz.underlying3
 a3:=Tryz.isAgg3
 z3:=Tryz.sizeOf3
 v3:=Tryz.zeroValue3
 t4:=Tryz.underlying4
 a4:=Tryz.isAgg4
 z4:=Tryz.sizeOf4
 v4:=Tryz.zeroValue4
 t5:=Tryz.underlying5
 a5:=Tryz.isAgg5
 z5:=Tryz.sizeOf5
 v5:=Tryz.zeroValue5
 t9:=Tryz.underlying9
 a9:=Tryz.isAgg9
 z9:=Tryz.sizeOf9
 v9:=Tryz.zeroValue9
 t46:=Tryz.underlying114
 a46:=Tryz.isAgg114
 z46:=Tryz.sizeOf114
 v46:=Tryz.zeroValue114
 t51:=Tryz.underlying132
 a51:=Tryz.isAgg132
 z51:=Tryz.sizeOf132
 v51:=Tryz.zeroValue132
 t146:=Tryz.underlying136
 a146:=Tryz.isAgg136
 z146:=Tryz.sizeOf136
 v146:=Tryz.zeroValue136
 g1:=by kernel_rfl }
open Go.RowKit Go.Lib in
/-- internal/stringslite.Index (what strings.Index calls) AT A substr OF ONE BYTE c: IT RETURNS 'Lib.indexByte s c'; the world is as it was. (LAID: no walk: one application.) -/
theorem Tryz.stringslite_Index_one (s:ByteArray) (c:UInt8) (w:World):
 Calls Tryz.prog 72 #[.string s,.string ⟨#[c]⟩] w fun e w'=>e= .returned (.int .i64 (Lib.indexByte s.data.toList c))∧w'=w:=Any.stringslite_Index_one Tryz.lays219 s c w
def Tryz.lays143_ren:Go.Shelf.Ren:=⟨fun|143=>75|219=>72|217=>83|225=>84|224=>85|267=>86|266=>97|314=>98|n=>n,fun|9=>9|3=>3|4=>4|5=>5|46=>114|146=>136|51=>132|n=>n,fun|1=>0|n=>n⟩
theorem Tryz.lays143:Go.Proofs.Lays.n143 Tryz.prog Tryz.lays143_ren:={
 mixed:=by kernel_rfl
 f143:=Tryz.func75.trans (congrArg some (by kernel_rfl))
 f217:=Tryz.func83.trans (congrArg some (by kernel_rfl))
 f219:=Tryz.func72.trans (congrArg some (by kernel_rfl))
 f224:=Tryz.func85.trans (congrArg some (by kernel_rfl))
 f225:=Tryz.func84.trans (congrArg some (by kernel_rfl))
 f266:=Tryz.func97.trans (congrArg some (by kernel_rfl))
 f267:=Tryz.func86.trans (congrArg some (by kernel_rfl))
 f314:=Tryz.func98.trans (congrArg some (by kernel_rfl))
 t3:=Tryz.underlying3
 a3:=Tryz.isAgg3
 z3:=Tryz.sizeOf3
 v3:=Tryz.zeroValue3
 t4:=Tryz.underlying4
 a4:=Tryz.isAgg4
 z4:=Tryz.sizeOf4
 v4:=Tryz.zeroValue4
 t5:=Tryz.underlying5
 a5:=Tryz.isAgg5
 z5:=Tryz.sizeOf5
 v5:=Tryz.zeroValue5
 t9:=Tryz.underlying9
 a9:=Tryz.isAgg9
 z9:=Tryz.sizeOf9
 v9:=Tryz.zeroValue9
 t46:=Tryz.underlying114
 a46:=Tryz.isAgg114
 z46:=Tryz.sizeOf114
 v46:=Tryz.zeroValue114
 t51:=Tryz.underlying132
 a51:=Tryz.isAgg132
 z51:=Tryz.sizeOf132
 v51:=Tryz.zeroValue132
 t146:=Tryz.underlying136
 a146:=Tryz.isAgg136
 z146:=Tryz.sizeOf136
 v146:=Tryz.zeroValue136
 g1:=by kernel_rfl }
open Go.RowKit Go.Lib in
/-- strings.Index: "Index returns the index of the first instance of substr in s, or -1 if substr is not present in s.": AT A substr OF ONE BYTE c: IT RETURNS 'Lib.indexByte s c'; the world is as it was. (LAID: no walk: one application.) -/
theorem Tryz.strings_Index_one (s:ByteArray) (c:UInt8) (w:World):
 Calls Tryz.prog 75 #[.string s,.string ⟨#[c]⟩] w fun e w'=>e= .returned (.int .i64 (Lib.indexByte s.data.toList c))∧w'=w:=Any.strings_Index_one Tryz.lays143 s c w
def Tryz.lays138_ren:Go.Shelf.Ren:=⟨fun|138=>74|195=>87|218=>89|143=>75|219=>72|217=>83|225=>84|224=>85|267=>86|266=>97|314=>98|n=>n,fun|9=>9|3=>3|4=>4|5=>5|0=>0|46=>114|146=>136|51=>132|n=>n,fun|1=>0|n=>n⟩
theorem Tryz.lays138:Go.Proofs.Lays.n138 Tryz.prog Tryz.lays138_ren:={
 mixed:=by kernel_rfl
 f138:=Tryz.func74.trans (congrArg some (by kernel_rfl))
 f143:=Tryz.func75.trans (congrArg some (by kernel_rfl))
 f195:=Tryz.func87.trans (congrArg some (by kernel_rfl))
 f217:=Tryz.func83.trans (congrArg some (by kernel_rfl))
 f218:=Tryz.func89.trans (congrArg some (by kernel_rfl))
 f219:=Tryz.func72.trans (congrArg some (by kernel_rfl))
 f224:=Tryz.func85.trans (congrArg some (by kernel_rfl))
 f225:=Tryz.func84.trans (congrArg some (by kernel_rfl))
 f266:=Tryz.func97.trans (congrArg some (by kernel_rfl))
 f267:=Tryz.func86.trans (congrArg some (by kernel_rfl))
 f314:=Tryz.func98.trans (congrArg some (by kernel_rfl))
 t0:=Tryz.underlying0
 a0:=Tryz.isAgg0
 z0:=Tryz.sizeOf0
 v0:=Tryz.zeroValue0
 t3:=Tryz.underlying3
 a3:=Tryz.isAgg3
 z3:=Tryz.sizeOf3
 v3:=Tryz.zeroValue3
 t4:=Tryz.underlying4
 a4:=Tryz.isAgg4
 z4:=Tryz.sizeOf4
 v4:=Tryz.zeroValue4
 t5:=Tryz.underlying5
 a5:=Tryz.isAgg5
 z5:=Tryz.sizeOf5
 v5:=Tryz.zeroValue5
 t9:=Tryz.underlying9
 a9:=Tryz.isAgg9
 z9:=Tryz.sizeOf9
 v9:=Tryz.zeroValue9
 t46:=Tryz.underlying114
 a46:=Tryz.isAgg114
 z46:=Tryz.sizeOf114
 v46:=Tryz.zeroValue114
 t51:=Tryz.underlying132
 a51:=Tryz.isAgg132
 z51:=Tryz.sizeOf132
 v51:=Tryz.zeroValue132
 t146:=Tryz.underlying136
 a146:=Tryz.isAgg136
 z146:=Tryz.sizeOf136
 v146:=Tryz.zeroValue136
 g1:=by kernel_rfl }
open Go.RowKit Go.Lib in
/-- strings.Count AT A substr OF ONE BYTE ('hp'): "Count counts the number of non-overlapping instances of substr in s.": IT RETURNS 'Lib.countByte s (that byte)'; the world is as it was. ✋ NO CONTRACT HERE YET at an empty substr (utf8.RuneCountInString) or at a longer one (a loop over strings.Index). (LAID: no walk: one application.) -/
theorem Tryz.strings_Count_one (s:ByteArray) (c:UInt8) (w:World):
 Calls Tryz.prog 74 #[.string s,.string ⟨#[c]⟩] w fun e w'=>e= .returned (.int .i64 (Lib.countByte s.data.toList c))∧w'=w:=Any.strings_Count_one Tryz.lays138 s c w
end Go.Proofs
end
