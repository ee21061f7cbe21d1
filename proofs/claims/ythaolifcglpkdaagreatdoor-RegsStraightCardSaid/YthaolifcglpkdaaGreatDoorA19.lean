/-
  Part 19: lemmas, each with its own conditions.
-/
import Derived.Shelf.Strings.LastIndex
import Derived.Shelf.Strings.Prefix
import Derived.Shelf.Strings.Repeat
import Derived.Shelf.Small.Strs
import Derived.Shelf.Strings.Count
import Derived.Shelf.Strings.IndexAnyAll
import Derived.Lib.TrimU
import Derived.Shelf.Strconv.Atoi
import Derived.Lib.AtoiErrMem
import Derived.Shelf.Strings.SlTrimAscii
import Derived.Test.YthaolifcglpkdaaGreatDoorA18
set_option maxRecDepth 100000
set_option maxHeartbeats 0
set_option linter.all false
section
namespace Go.Proofs
open Go.Shelf
def zkv:Go.Shelf.Ren:=⟨fun|137=>302|217=>265|266=>300|n=>n,fun|9=>9|5=>5|3=>3|n=>n,fun|n=>n⟩
theorem zsg:Go.Proofs.Lays.n137 Tryz.prog zkv:={
 mixed:=by kernel_rfl
 f137:=Tryz.func302.trans (congrArg some (by kernel_rfl))
 f217:=Tryz.func265.trans (congrArg some (by kernel_rfl))
 f266:=Tryz.func300.trans (congrArg some (by kernel_rfl))
 t3:=Tryz.underlying3
 a3:=Tryz.isAgg3
 z3:=Tryz.sizeOf3
 v3:=Tryz.zeroValue3
 t5:=Tryz.underlying5
 a5:=Tryz.isAgg5
 z5:=Tryz.sizeOf5
 v5:=Tryz.zeroValue5
 t9:=Tryz.underlying9
 a9:=Tryz.isAgg9
 z9:=Tryz.sizeOf9
 v9:=Tryz.zeroValue9 }
def zks:Go.Shelf.Ren:=⟨fun|149=>311|222=>334|n=>n,fun|9=>9|5=>5|3=>3|4=>4|n=>n,fun|n=>n⟩
theorem zsd:Go.Proofs.Lays.n149 Tryz.prog zks:={
 mixed:=by kernel_rfl
 f149:=Tryz.func311.trans (congrArg some (by kernel_rfl))
 f222:=Tryz.func334.trans (congrArg some (by kernel_rfl))
 t3:=Tryz.underlying3
 a3:=Tryz.isAgg3
 z3:=Tryz.sizeOf3
 v3:=Tryz.zeroValue3
 t4:=Tryz.underlying4
 a4:=Tryz.isAgg4
 z4:=Tryz.sizeOf4
 v4:=Tryz.zeroValue4
 t5:=Tryz.underlying5
 a5:=Tryz.isAgg5
 z5:=Tryz.sizeOf5
 v5:=Tryz.zeroValue5
 t9:=Tryz.underlying9
 a9:=Tryz.isAgg9
 z9:=Tryz.sizeOf9
 v9:=Tryz.zeroValue9 }
def zkw:Go.Shelf.Ren:=⟨fun|100=>279|207=>309|n=>n,fun|9=>9|4=>4|3=>3|n=>n,fun|n=>n⟩
theorem zsi:Go.Proofs.Lays.n100 Tryz.prog zkw:={
 mixed:=by kernel_rfl
 f100:=Tryz.func279.trans (congrArg some (by kernel_rfl))
 f207:=Tryz.func309.trans (congrArg some (by kernel_rfl))
 t3:=Tryz.underlying3
 a3:=Tryz.isAgg3
 z3:=Tryz.sizeOf3
 v3:=Tryz.zeroValue3
 t4:=Tryz.underlying4
 a4:=Tryz.isAgg4
 z4:=Tryz.sizeOf4
 v4:=Tryz.zeroValue4
 t9:=Tryz.underlying9
 a9:=Tryz.isAgg9
 z9:=Tryz.sizeOf9
 v9:=Tryz.zeroValue9 }
def zku:Go.Shelf.Ren:=⟨fun|138=>310|195=>332|218=>333|143=>185|219=>234|217=>265|225=>266|224=>267|267=>268|266=>300|314=>301|n=>n,fun|9=>9|3=>3|4=>4|5=>5|0=>0|46=>169|146=>341|51=>265|n=>n,fun|1=>2|n=>n⟩
theorem zsf:Go.Proofs.Lays.n138 Tryz.prog zku:={
 mixed:=by kernel_rfl
 f138:=Tryz.func310.trans (congrArg some (by kernel_rfl))
 f143:=Tryz.func185.trans (congrArg some (by kernel_rfl))
 f195:=Tryz.func332.trans (congrArg some (by kernel_rfl))
 f217:=Tryz.func265.trans (congrArg some (by kernel_rfl))
 f218:=Tryz.func333.trans (congrArg some (by kernel_rfl))
 f219:=Tryz.func234.trans (congrArg some (by kernel_rfl))
 f224:=Tryz.func267.trans (congrArg some (by kernel_rfl))
 f225:=Tryz.func266.trans (congrArg some (by kernel_rfl))
 f266:=Tryz.func300.trans (congrArg some (by kernel_rfl))
 f267:=Tryz.func268.trans (congrArg some (by kernel_rfl))
 f314:=Tryz.func301.trans (congrArg some (by kernel_rfl))
 t0:=Tryz.underlying0
 a0:=Tryz.isAgg0
 z0:=Tryz.sizeOf0
 v0:=Tryz.zeroValue0
 t3:=Tryz.underlying3
 a3:=Tryz.isAgg3
 z3:=Tryz.sizeOf3
 v3:=Tryz.zeroValue3
 t4:=Tryz.underlying4
 a4:=Tryz.isAgg4
 z4:=Tryz.sizeOf4
 v4:=Tryz.zeroValue4
 t5:=Tryz.underlying5
 a5:=Tryz.isAgg5
 z5:=Tryz.sizeOf5
 v5:=Tryz.zeroValue5
 t9:=Tryz.underlying9
 a9:=Tryz.isAgg9
 z9:=Tryz.sizeOf9
 v9:=Tryz.zeroValue9
 t46:=Tryz.underlying169
 a46:=Tryz.isAgg169
 z46:=Tryz.sizeOf169
 v46:=Tryz.zeroValue169
 t51:=Tryz.underlying265
 a51:=Tryz.isAgg265
 z51:=Tryz.sizeOf265
 v51:=Tryz.zeroValue265
 t146:=Tryz.underlying341
 a146:=Tryz.isAgg341
 z146:=Tryz.sizeOf341
 v146:=Tryz.zeroValue341
 g1:=by kernel_rfl }
def zkr:Go.Shelf.Ren:=⟨fun|150=>240|153=>278|152=>307|226=>308|227=>273|228=>303|137=>302|119=>331|224=>267|225=>266|217=>265|266=>300|n=>n,fun|9=>9|4=>4|3=>3|5=>5|21=>21|117=>320|116=>319|0=>0|46=>169|124=>323|n=>n,fun|n=>n⟩
theorem zsc:Go.Proofs.Lays.n150 Tryz.prog zkr:={
 mixed:=by kernel_rfl
 f119:=Tryz.func331.trans (congrArg some (by kernel_rfl))
 f137:=Tryz.func302.trans (congrArg some (by kernel_rfl))
 f150:=Tryz.func240.trans (congrArg some (by kernel_rfl))
 f152:=Tryz.func307.trans (congrArg some (by kernel_rfl))
 f153:=Tryz.func278.trans (congrArg some (by kernel_rfl))
 f217:=Tryz.func265.trans (congrArg some (by kernel_rfl))
 f224:=Tryz.func267.trans (congrArg some (by kernel_rfl))
 f225:=Tryz.func266.trans (congrArg some (by kernel_rfl))
 f226:=Tryz.func308.trans (congrArg some (by kernel_rfl))
 f227:=Tryz.func273.trans (congrArg some (by kernel_rfl))
 f228:=Tryz.func303.trans (congrArg some (by kernel_rfl))
 f266:=Tryz.func300.trans (congrArg some (by kernel_rfl))
 t0:=Tryz.underlying0
 a0:=Tryz.isAgg0
 z0:=Tryz.sizeOf0
 v0:=Tryz.zeroValue0
 t3:=Tryz.underlying3
 a3:=Tryz.isAgg3
 z3:=Tryz.sizeOf3
 v3:=Tryz.zeroValue3
 t4:=Tryz.underlying4
 a4:=Tryz.isAgg4
 z4:=Tryz.sizeOf4
 v4:=Tryz.zeroValue4
 t5:=Tryz.underlying5
 a5:=Tryz.isAgg5
 z5:=Tryz.sizeOf5
 v5:=Tryz.zeroValue5
 t9:=Tryz.underlying9
 a9:=Tryz.isAgg9
 z9:=Tryz.sizeOf9
 v9:=Tryz.zeroValue9
 t21:=Tryz.underlying21
 a21:=Tryz.isAgg21
 z21:=Tryz.sizeOf21
 v21:=Tryz.zeroValue21
 t46:=Tryz.underlying169
 a46:=Tryz.isAgg169
 z46:=Tryz.sizeOf169
 v46:=Tryz.zeroValue169
 t116:=Tryz.underlying319
 a116:=Tryz.isAgg319
 z116:=Tryz.sizeOf319
 t117:=Tryz.underlying320
 a117:=Tryz.isAgg320
 z117:=Tryz.sizeOf320
 v117:=Tryz.zeroValue320
 t124:=Tryz.underlying323
 a124:=Tryz.isAgg323
 z124:=Tryz.sizeOf323
 v124:=Tryz.zeroValue323 }
def zge:Go.Shelf.Ren:=⟨fun|105=>288|212=>318|99=>319|165=>320|166=>321|170=>322|169=>323|263=>339|264=>340|206=>341|240=>342|241=>343|276=>348|277=>349|n=>n,fun|9=>9|3=>3|4=>4|20=>20|0=>0|46=>169|109=>356|5=>5|72=>360|76=>290|51=>265|146=>341|53=>128|148=>374|70=>358|37=>267|75=>289|127=>376|164=>384|80=>361|n=>n,fun|n=>n⟩
theorem zsh:Go.Proofs.Lays.n105 Tryz.prog zge:={
 mixed:=by kernel_rfl
 f99:=Tryz.func319.trans (congrArg some (by kernel_rfl))
 f105:=Tryz.func288.trans (congrArg some (by kernel_rfl))
 f165:=Tryz.func320.trans (congrArg some (by kernel_rfl))
 f166:=Tryz.func321.trans (congrArg some (by kernel_rfl))
 f169:=Tryz.func323.trans (congrArg some (by kernel_rfl))
 f170:=Tryz.func322.trans (congrArg some (by kernel_rfl))
 f206:=Tryz.func341.trans (congrArg some (by kernel_rfl))
 f212:=Tryz.func318.trans (congrArg some (by kernel_rfl))
 f240:=Tryz.func342.trans (congrArg some (by kernel_rfl))
 f241:=Tryz.func343.trans (congrArg some (by kernel_rfl))
 f263:=Tryz.func339.trans (congrArg some (by kernel_rfl))
 f264:=Tryz.func340.trans (congrArg some (by kernel_rfl))
 f276:=Tryz.func348.trans (congrArg some (by kernel_rfl))
 f277:=Tryz.func349.trans (congrArg some (by kernel_rfl))
 t0:=Tryz.underlying0
 a0:=Tryz.isAgg0
 z0:=Tryz.sizeOf0
 v0:=Tryz.zeroValue0
 t3:=Tryz.underlying3
 a3:=Tryz.isAgg3
 z3:=Tryz.sizeOf3
 v3:=Tryz.zeroValue3
 t4:=Tryz.underlying4
 a4:=Tryz.isAgg4
 z4:=Tryz.sizeOf4
 v4:=Tryz.zeroValue4
 t5:=Tryz.underlying5
 a5:=Tryz.isAgg5
 z5:=Tryz.sizeOf5
 v5:=Tryz.zeroValue5
 t9:=Tryz.underlying9
 a9:=Tryz.isAgg9
 z9:=Tryz.sizeOf9
 v9:=Tryz.zeroValue9
 t20:=Tryz.underlying20
 a20:=Tryz.isAgg20
 z20:=Tryz.sizeOf20
 v20:=Tryz.zeroValue20
 t37:=Tryz.underlying267
 a37:=Tryz.isAgg267
 z37:=Tryz.sizeOf267
 v37:=Tryz.zeroValue267
 t46:=Tryz.underlying169
 a46:=Tryz.isAgg169
 z46:=Tryz.sizeOf169
 v46:=Tryz.zeroValue169
 t51:=Tryz.underlying265
 a51:=Tryz.isAgg265
 z51:=Tryz.sizeOf265
 v51:=Tryz.zeroValue265
 t53:=Tryz.underlying128
 a53:=Tryz.isAgg128
 z53:=Tryz.sizeOf128
 v53:=Tryz.zeroValue128
 t70:=Tryz.underlying358
 a70:=Tryz.isAgg358
 z70:=Tryz.sizeOf358
 v70:=Tryz.zeroValue358
 t72:=Tryz.underlying360
 a72:=Tryz.isAgg360
 z72:=Tryz.sizeOf360
 v72:=Tryz.zeroValue360
 t75:=Tryz.underlying289
 a75:=Tryz.isAgg289
 z75:=Tryz.sizeOf289
 v75:=Tryz.zeroValue289
 t76:=Tryz.underlying290
 a76:=Tryz.isAgg290
 z76:=Tryz.sizeOf290
 v76:=Tryz.zeroValue290
 t109:=Tryz.underlying356
 a109:=Tryz.isAgg356
 z109:=Tryz.sizeOf356
 v109:=Tryz.zeroValue356
 t127:=Tryz.underlying376
 a127:=Tryz.isAgg376
 z127:=Tryz.sizeOf376
 v127:=Tryz.zeroValue376
 t146:=Tryz.underlying341
 a146:=Tryz.isAgg341
 z146:=Tryz.sizeOf341
 v146:=Tryz.zeroValue341
 t148:=Tryz.underlying374
 a148:=Tryz.isAgg374
 z148:=Tryz.sizeOf374
 v148:=Tryz.zeroValue374
 t164:=Tryz.underlying384
 a164:=Tryz.isAgg384
 z164:=Tryz.sizeOf384
 v164:=Tryz.zeroValue384 }
theorem zgh:Builder.Extra Tryz.prog zge :={
 sizeBuilder:=by kernel_rfl
 liesBuilder:=by kernel_rfl
 t5:=Tryz.underlying5
 a5:=Tryz.isAgg5
 z5:=Tryz.sizeOf5
 v5:=Tryz.zeroValue5
 infoByte:=by kernel_rfl
 cellsByte:=by kernel_rfl
 sizeByte:=by kernel_rfl
 neB5:=by decide }
end Go.Proofs
namespace Go.Ago
open Go.Proofs Go.Shelf
theorem zf9 {P:Program}{E:Env}{g:FuncId}{args:List AV}{Q:AE→Prop}(hok:zos P g)
 (h:∀c w vs,WRel E.glob c w .nil→RelL c w args vs→Calls P g vs.toArray w fun e w'=>Go.RowKit.Below w.heap.size w w'∧∃ae,ERel c w ae e∧ae.flat=true∧Q ae):PC P E g args Q:=by
 refine⟨hok,fun c w vs hf hw hr=>(h c w vs hw hr).mono ?_⟩
 rintro e w' ⟨hb,ae,h1,h2,h3⟩
 obtain⟨g1,g2⟩:=hw.same (I:=c.imm) (w':=w') (fun b hb=>hb) (fun b hb'=>Nat.lt_of_lt_of_le (hw.imm_lt b hb') hb.size) (fun b _ hb=>hb) hb.size (fun b hlt=>hb.block b hlt)
 exact⟨c,ae,⟨.refl c,hb.os,hb.tape,hb.output,hb.size,fun b hlt _=>hb.block b hlt,fun b hb => .inl hb,fun b hb => .inl hb⟩,hf,g1,zja h1 h2,h3⟩
theorem rel1 {c:Ctx}{w:World}{x:AV}{vs:List Value}(h:RelL c w [x] vs):∃v,vs=[v]∧Rel c w x v:=by
 obtain⟨v,us,rfl,h1,h2⟩:=h.inv_cons;obtain rfl:=h2.inv_nil;exact⟨v,rfl,h1⟩
theorem rel2 {c:Ctx}{w:World}{x y:AV}{vs:List Value}(h:RelL c w [x,y] vs):∃v u,vs=[v,u]∧Rel c w x v∧Rel c w y u:=by
 obtain⟨v,us,rfl,h1,h2⟩:=h.inv_cons;obtain⟨u,rfl,h3⟩:=rel1 h2;exact⟨v,u,rfl,h1,h3⟩
def idxB (s:List UInt8)(c:Int):Int:=Lib.indexByte s c.toNat.toUInt8
theorem zbv (s:List UInt8)(c:Int):DPR 302 [.str s,.int .u8 c] (fun ae=>ae = .ret (i64 (idxB s c))):=by
 refine⟨.ret (i64 (idxB s c)),zdj ⟨_,Tryz.func302,rfl,by decide⟩ fun cx w vs hw hr=>?_,rfl⟩
 obtain⟨v,u,rfl,h0,h1⟩:=rel2 hr;cases h0;cases h1;refine(Any.strings_IndexByte zsg ⟨s.toArray⟩ c w).mono ?_
 rintro e w' ⟨rfl,rfl⟩
 exact⟨rfl,.ret _,.int .i64 _,rfl⟩
theorem zdu (s:List UInt8)(c:Int)(hs:s.length<281474976710656):DPR 311 [.str s,.int .u8 c] (fun ae=>ae = .ret (i64 (Lib.lastIndexByte ⟨s.toArray⟩ c))):=by
 refine⟨.ret (i64 (Lib.lastIndexByte ⟨s.toArray⟩ c)),zdj ⟨_,Tryz.func311,rfl,by decide⟩ fun cx w vs hw hr=>?_,rfl⟩
 obtain⟨v,u,rfl,h0,h1⟩:=rel2 hr;cases h0;cases h1;refine(Any.strings_LastIndexByte zsd ⟨s.toArray⟩ c (by simp only[ByteArray.size,List.size_toArray];omega) w).mono ?_
 rintro e w' ⟨rfl,rfl⟩
 exact⟨rfl,.ret _,.int .i64 _,rfl⟩
theorem ztd (s t:List UInt8)(hs:s.length<281474976710656):DPR 279 [.str s,.str t] (fun ae=>ae = .ret (.bool (Lib.hasSuffix s t))):=by
 refine⟨.ret (.bool (Lib.hasSuffix s t)),zdj ⟨_,Tryz.func279,rfl,by decide⟩ fun cx w vs hw hr=>?_,rfl⟩
 obtain⟨v,u,rfl,h0,h1⟩:=rel2 hr;cases h0;cases h1;refine(Any.strings_HasSuffix zsi ⟨s.toArray⟩ ⟨t.toArray⟩ w (by simp only[ByteArray.size,List.size_toArray];omega)).mono ?_
 rintro e w' ⟨rfl,rfl⟩
 exact⟨rfl,.ret _,.bool _,rfl⟩
theorem zll (s:List UInt8)(c:UInt8):DPR 310 [.str s,.str [c]] (fun ae=>ae = .ret (i64 (Lib.countByte s c))):=by
 refine⟨.ret (i64 (Lib.countByte s c)),zdj ⟨_,Tryz.func310,rfl,by decide⟩ fun cx w vs hw hr=>?_,rfl⟩
 obtain⟨v,u,rfl,h0,h1⟩:=rel2 hr;cases h0;cases h1;refine(Any.strings_Count_one zsf ⟨s.toArray⟩ c w).mono ?_
 rintro e w' ⟨rfl,rfl⟩
 exact⟨rfl,.ret _,.int .i64 _,rfl⟩
def Asc (s:List UInt8):Prop:=∀(j:Nat) b,s[j]? = some b→b.toNat<128
theorem zjd (s t:List UInt8)(hs:s.length<4294967281)(ht:t.length<4294967281)(h1:Asc s)(h2:Asc t):DPR 240 [.str s,.str t] (fun ae=>ae = .ret (.bool (Lib.containsAny s t))):=by
 refine⟨.ret (.bool (Lib.containsAny s t)),zf9 ⟨_,Tryz.func240,rfl,by decide⟩ fun cx w vs hw hr=>?_,rfl⟩
 obtain⟨v,u,rfl,h0,h3⟩:=rel2 hr;cases h0;cases h3;refine(Any.strings_ContainsAny_laid zsc (by kernel_rfl) ⟨s.toArray⟩ ⟨t.toArray⟩ w (by simpa[ByteArray.size] using hs) (by simpa[ByteArray.size] using ht) (by simpa[Asc] using h1) (by simpa[Asc] using h2)).mono ?_
 rintro e w' ⟨rfl,hb⟩
 exact⟨hb,.ret _,.bool _,rfl,rfl⟩
theorem zqj (s:List UInt8)(n:Int)(hs:s.length≤4)(hn:0≤n∧n≤1000):DPR 288 [.str s,i64 n] (fun ae=>ae = .ret (.str (Lib.repeatL s n.toNat))):=by
 refine⟨.ret (.str (Lib.repeatL s n.toNat)),zf9 ⟨_,Tryz.func288,rfl,by decide⟩ fun cx w vs hw hr=>?_,rfl⟩
 obtain⟨v,u,rfl,h0,h3⟩:=rel2 hr;cases h0;cases h3;obtain⟨k,rfl⟩:=Int.eq_ofNat_of_zero_le hn.1;have hm:s.length * k≤4 * 1000:=Nat.mul_le_mul hs (by omega)
 refine(Any.strings_Repeat zsh zgh ⟨s.toArray⟩ k w (by omega) (by show s.toArray.size * k≤_;rw[List.size_toArray];omega)).mono ?_
 rintro e w' ⟨rfl,hb⟩
 exact⟨hb,.ret _,.str _,rfl,rfl⟩
end Go.Ago
end
section
namespace Go.Proofs
open Go.Shelf
def zkp:Go.Shelf.Ren:=⟨fun|172=>244|244=>285|245=>286|247=>313|279=>314|280=>315|281=>316|282=>317|287=>335|316=>336|171=>338|205=>337|321=>345|322=>346|243=>347|246=>350|283=>351|284=>352|285=>353|286=>354|129=>218|317=>355|318=>356|319=>357|320=>358|337=>359|338=>360|n=>n,fun|9=>9|3=>3|75=>289|76=>290|4=>4|5=>5|167=>350|37=>267|0=>0|85=>351|2=>2|168=>353|53=>128|175=>367|46=>169|210=>370|127=>376|145=>383|143=>381|21=>21|171=>388|173=>390|212=>393|51=>265|20=>20|213=>394|232=>395|233=>396|80=>361|n=>n,fun|15=>4|16=>5|17=>8|18=>9|19=>10|n=>n⟩
theorem zsa:Go.Proofs.Lays.n172 Tryz.prog zkp:={
 mixed:=by kernel_rfl
 f129:=Tryz.func218.trans (congrArg some (by kernel_rfl))
 f171:=Tryz.func338.trans (congrArg some (by kernel_rfl))
 f172:=Tryz.func244.trans (congrArg some (by kernel_rfl))
 f205:=Tryz.func337.trans (congrArg some (by kernel_rfl))
 f243:=Tryz.func347.trans (congrArg some (by kernel_rfl))
 f244:=Tryz.func285.trans (congrArg some (by kernel_rfl))
 f245:=Tryz.func286.trans (congrArg some (by kernel_rfl))
 f246:=Tryz.func350.trans (congrArg some (by kernel_rfl))
 f247:=Tryz.func313.trans (congrArg some (by kernel_rfl))
 f279:=Tryz.func314.trans (congrArg some (by kernel_rfl))
 f280:=Tryz.func315.trans (congrArg some (by kernel_rfl))
 f281:=Tryz.func316.trans (congrArg some (by kernel_rfl))
 f282:=Tryz.func317.trans (congrArg some (by kernel_rfl))
 f283:=Tryz.func351.trans (congrArg some (by kernel_rfl))
 f284:=Tryz.func352.trans (congrArg some (by kernel_rfl))
 f285:=Tryz.func353.trans (congrArg some (by kernel_rfl))
 f286:=Tryz.func354.trans (congrArg some (by kernel_rfl))
 f287:=Tryz.func335.trans (congrArg some (by kernel_rfl))
 f316:=Tryz.func336.trans (congrArg some (by kernel_rfl))
 f317:=Tryz.func355.trans (congrArg some (by kernel_rfl))
 f318:=Tryz.func356.trans (congrArg some (by kernel_rfl))
 f319:=Tryz.func357.trans (congrArg some (by kernel_rfl))
 f320:=Tryz.func358.trans (congrArg some (by kernel_rfl))
 f321:=Tryz.func345.trans (congrArg some (by kernel_rfl))
 f322:=Tryz.func346.trans (congrArg some (by kernel_rfl))
 f337:=Tryz.func359.trans (congrArg some (by kernel_rfl))
 f338:=Tryz.func360.trans (congrArg some (by kernel_rfl))
 t0:=Tryz.underlying0
 a0:=Tryz.isAgg0
 z0:=Tryz.sizeOf0
 v0:=Tryz.zeroValue0
 t2:=Tryz.underlying2
 a2:=Tryz.isAgg2
 z2:=Tryz.sizeOf2
 v2:=Tryz.zeroValue2
 t3:=Tryz.underlying3
 a3:=Tryz.isAgg3
 z3:=Tryz.sizeOf3
 v3:=Tryz.zeroValue3
 t4:=Tryz.underlying4
 a4:=Tryz.isAgg4
 z4:=Tryz.sizeOf4
 v4:=Tryz.zeroValue4
 t5:=Tryz.underlying5
 a5:=Tryz.isAgg5
 z5:=Tryz.sizeOf5
 v5:=Tryz.zeroValue5
 t9:=Tryz.underlying9
 a9:=Tryz.isAgg9
 z9:=Tryz.sizeOf9
 v9:=Tryz.zeroValue9
 t20:=Tryz.underlying20
 a20:=Tryz.isAgg20
 z20:=Tryz.sizeOf20
 v20:=Tryz.zeroValue20
 t21:=Tryz.underlying21
 a21:=Tryz.isAgg21
 z21:=Tryz.sizeOf21
 v21:=Tryz.zeroValue21
 t37:=Tryz.underlying267
 a37:=Tryz.isAgg267
 z37:=Tryz.sizeOf267
 v37:=Tryz.zeroValue267
 t46:=Tryz.underlying169
 a46:=Tryz.isAgg169
 z46:=Tryz.sizeOf169
 v46:=Tryz.zeroValue169
 t51:=Tryz.underlying265
 a51:=Tryz.isAgg265
 z51:=Tryz.sizeOf265
 v51:=Tryz.zeroValue265
 t53:=Tryz.underlying128
 a53:=Tryz.isAgg128
 z53:=Tryz.sizeOf128
 v53:=Tryz.zeroValue128
 t75:=Tryz.underlying289
 a75:=Tryz.isAgg289
 z75:=Tryz.sizeOf289
 v75:=Tryz.zeroValue289
 t76:=Tryz.underlying290
 a76:=Tryz.isAgg290
 z76:=Tryz.sizeOf290
 v76:=Tryz.zeroValue290
 t85:=Tryz.underlying351
 a85:=Tryz.isAgg351
 z85:=Tryz.sizeOf351
 v85:=Tryz.zeroValue351
 t127:=Tryz.underlying376
 a127:=Tryz.isAgg376
 z127:=Tryz.sizeOf376
 v127:=Tryz.zeroValue376
 t143:=Tryz.underlying381
 a143:=Tryz.isAgg381
 z143:=Tryz.sizeOf381
 v143:=Tryz.zeroValue381
 t145:=Tryz.underlying383
 a145:=Tryz.isAgg383
 z145:=Tryz.sizeOf383
 v145:=Tryz.zeroValue383
 t167:=Tryz.underlying350
 a167:=Tryz.isAgg350
 z167:=Tryz.sizeOf350
 v167:=Tryz.zeroValue350
 t168:=Tryz.underlying353
 a168:=Tryz.isAgg353
 z168:=Tryz.sizeOf353
 v168:=Tryz.zeroValue353
 t171:=Tryz.underlying388
 a171:=Tryz.isAgg388
 z171:=Tryz.sizeOf388
 v171:=Tryz.zeroValue388
 t173:=Tryz.underlying390
 a173:=Tryz.isAgg390
 z173:=Tryz.sizeOf390
 v173:=Tryz.zeroValue390
 t175:=Tryz.underlying367
 a175:=Tryz.isAgg367
 z175:=Tryz.sizeOf367
 v175:=Tryz.zeroValue367
 t210:=Tryz.underlying370
 a210:=Tryz.isAgg370
 z210:=Tryz.sizeOf370
 v210:=Tryz.zeroValue370
 t212:=Tryz.underlying393
 a212:=Tryz.isAgg393
 z212:=Tryz.sizeOf393
 v212:=Tryz.zeroValue393
 t213:=Tryz.underlying394
 a213:=Tryz.isAgg394
 z213:=Tryz.sizeOf394
 t232:=Tryz.underlying395
 a232:=Tryz.isAgg395
 z232:=Tryz.sizeOf395
 v232:=Tryz.zeroValue395
 t233:=Tryz.underlying396
 a233:=Tryz.isAgg396
 z233:=Tryz.sizeOf396
 v233:=Tryz.zeroValue396
 g15:=by kernel_rfl
 g16:=by kernel_rfl
 g17:=by kernel_rfl
 g18:=by kernel_rfl
 g19:=by kernel_rfl }
end Go.Proofs
namespace Go.Ago
open Go.Proofs Go.Shelf
def DigS (s:List UInt8):Prop:=∀b∈s,48≤b.toNat∧b.toNat≤57
theorem zmr:∀(s:List UInt8) (a:Nat),DigS s→∃n,Lib.decFrom a s=some n
 | [],a,_=>⟨a,rfl⟩
 | b :: s, a, h => by
   have hb:=h b List.mem_cons_self;simp only[Lib.decFrom,Lib.digitVal,hb,and_self,if_true];exact zmr s _ fun x hx=>h x (List.mem_cons_of_mem _ hx)
theorem yfk (s:List UInt8)(h:DigS s)(h0:s≠[]):∃n,Lib.atoi s=some n:=by
 cases s with
 | nil=>exact absurd rfl h0
 | cons b r =>
   obtain⟨n,hn⟩:=zmr (b::r) 0 h;have hb:=h b List.mem_cons_self;have h1:(b == 45)=false:=by rw[beq_eq_false_iff_ne];rintro rfl;revert hb;decide
   have h2:(b == 43)=false:=by rw[beq_eq_false_iff_ne];rintro rfl;revert hb;decide
   exact⟨n,by simp[Lib.atoi,h1,h2,Lib.decNat,hn]⟩
theorem ypa (s:List UInt8)(h:DigS s)(h0:s≠[])(hl:s.length≤18):DPR 244 [.str s] (fun ae=>∃n:Int,ae = .ret (.tup [i64 n,.nili])):=by
 obtain⟨n,hn⟩:=yfk s h h0;refine⟨.ret (.tup [i64 n,.nili]),zf9 ⟨_,Tryz.func244,rfl,by decide⟩ fun cx w vs hw hr=>?_,n,rfl⟩
 obtain⟨v,rfl,h0⟩:=rel1 hr;cases h0;refine(Any.strconv_Atoi zsa ⟨s.toArray⟩ n (by simpa[ByteArray.size] using hl) (by simpa using hn) w).mono ?_
 rintro e w' ⟨rfl,t,rfl⟩
 refine⟨Go.Lib.bytesWorld_below _ _ _,.ret _,?_,rfl,rfl⟩
 · have := RelL.cons (c := cx) (w := w) (.int .i64 n) (.cons .nili .nil)
   exact .tup this.1 this.2
theorem zgk {l:List (List AV)}{n:Nat}(h:n=l.length):(l.drop 0).take n=l:=by subst h;simp
theorem ye4 (s:List UInt8)(p:Nat):1≤decW s p:=Go.Lib.width_pos _ _
theorem ye5 (s:List UInt8)(p:Nat):0≤decC s p:=Int.natCast_nonneg _
end Go.Ago
namespace Go.Ago
open Go.Proofs
attribute [local irreducible] ltI leI eqI eqS shrI wr inB mmI comp DC DP DW DV DY
structure ExI (s:List UInt8) where
 pos:Nat
 st:Int
 n:Int
 acc:List Int
 hst:st=0∨st=1∨st=2
 hn:0≤n∧n≤32
 h2:st=2→1≤n
 ha:∀a∈acc,0≤a∧a<128
 hl:acc.length≤32
structure PuI (b:Nat) where
 j:Nat
 l:List Int
 hl:l.length=b+j
 hj:b+j≤32
 ha:∀a∈l,0≤a∧a<128
theorem ypq {t:Int}(h:0≤t∧t<128):0≤wr .u8 t∧wr .u8 t<128:=by rw[wr8 (by omega) (by omega)];exact h
theorem zn8 {l:List Int}{t:Int}(h:∀a∈l,0≤a∧a<128)(ht:0≤t∧t<128):∀a∈l++[wr .u8 t],0≤a∧a<128:=by
 intro a ha;rcases List.mem_append.1 ha with h1|h1
 · exact h a h1
 · rw[List.mem_singleton] at h1;subst h1;exact ypq ht
theorem yjx (s:List UInt8)(p:Nat):decC s p≤1114111:=by
 have:=Go.Lib.rune_le ⟨s.toArray⟩ p;show((Utf8.decode _ _).1:Int)≤_;omega
theorem yku {l:List Int}(h:∀a∈l,0≤a∧a<128):Asc (l.map fun n=>UInt8.ofNat n.toNat):=by
 intro j b hb;rw[List.getElem?_map,Option.map_eq_some_iff] at hb;obtain⟨a,ha,rfl⟩:=hb;have:=h a (List.mem_of_getElem? ha);rw[UInt8.toNat_ofNat'];omega
theorem zes {l:List Int}:zgd (l.map fun n=>[AV.int .u8 n])=some [.str (l.map fun n=>UInt8.ofNat n.toNat)]:=by
 have:∀l:List Int,zm1 (l.map fun n=>[AV.int .u8 n])=some (l.map fun n=>UInt8.ofNat n.toNat):=by
  intro l
  induction l with
  | nil=>rfl
  | cons a l ih=>simp only[List.map_cons,zm1,ih]
 simp[zgd,this]
end Go.Ago
end
section
namespace Go.Proofs
open Go.Shelf
def zkq:Go.Shelf.Ren:=⟨fun|160=>239|232=>272|231=>271|227=>273|234=>275|233=>274|236=>277|235=>276|228=>303|271=>306|151=>305|197=>304|120=>330|152=>307|260=>329|137=>302|119=>331|224=>267|225=>266|217=>265|266=>300|n=>n,fun|9=>9|4=>4|3=>3|5=>5|117=>320|116=>319|0=>0|124=>323|21=>21|105=>344|46=>169|119=>377|139=>380|138=>379|n=>n,fun|3=>6|4=>7|n=>n⟩
theorem zsb:Go.Proofs.Lays.n160 Tryz.prog zkq:={
 mixed:=by kernel_rfl
 f119:=Tryz.func331.trans (congrArg some (by kernel_rfl))
 f120:=Tryz.func330.trans (congrArg some (by kernel_rfl))
 f137:=Tryz.func302.trans (congrArg some (by kernel_rfl))
 f151:=Tryz.func305.trans (congrArg some (by kernel_rfl))
 f152:=Tryz.func307.trans (congrArg some (by kernel_rfl))
 f160:=Tryz.func239.trans (congrArg some (by kernel_rfl))
 f197:=Tryz.func304.trans (congrArg some (by kernel_rfl))
 f217:=Tryz.func265.trans (congrArg some (by kernel_rfl))
 f224:=Tryz.func267.trans (congrArg some (by kernel_rfl))
 f225:=Tryz.func266.trans (congrArg some (by kernel_rfl))
 f227:=Tryz.func273.trans (congrArg some (by kernel_rfl))
 f228:=Tryz.func303.trans (congrArg some (by kernel_rfl))
 f231:=Tryz.func271.trans (congrArg some (by kernel_rfl))
 f232:=Tryz.func272.trans (congrArg some (by kernel_rfl))
 f233:=Tryz.func274.trans (congrArg some (by kernel_rfl))
 f234:=Tryz.func275.trans (congrArg some (by kernel_rfl))
 f235:=Tryz.func276.trans (congrArg some (by kernel_rfl))
 f236:=Tryz.func277.trans (congrArg some (by kernel_rfl))
 f260:=Tryz.func329.trans (congrArg some (by kernel_rfl))
 f266:=Tryz.func300.trans (congrArg some (by kernel_rfl))
 f271:=Tryz.func306.trans (congrArg some (by kernel_rfl))
 t0:=Tryz.underlying0
 a0:=Tryz.isAgg0
 z0:=Tryz.sizeOf0
 v0:=Tryz.zeroValue0
 t3:=Tryz.underlying3
 a3:=Tryz.isAgg3
 z3:=Tryz.sizeOf3
 v3:=Tryz.zeroValue3
 t4:=Tryz.underlying4
 a4:=Tryz.isAgg4
 z4:=Tryz.sizeOf4
 v4:=Tryz.zeroValue4
 t5:=Tryz.underlying5
 a5:=Tryz.isAgg5
 z5:=Tryz.sizeOf5
 v5:=Tryz.zeroValue5
 t9:=Tryz.underlying9
 a9:=Tryz.isAgg9
 z9:=Tryz.sizeOf9
 v9:=Tryz.zeroValue9
 t21:=Tryz.underlying21
 a21:=Tryz.isAgg21
 z21:=Tryz.sizeOf21
 v21:=Tryz.zeroValue21
 t46:=Tryz.underlying169
 a46:=Tryz.isAgg169
 z46:=Tryz.sizeOf169
 v46:=Tryz.zeroValue169
 t105:=Tryz.underlying344
 a105:=Tryz.isAgg344
 z105:=Tryz.sizeOf344
 v105:=Tryz.zeroValue344
 t116:=Tryz.underlying319
 a116:=Tryz.isAgg319
 z116:=Tryz.sizeOf319
 t117:=Tryz.underlying320
 a117:=Tryz.isAgg320
 z117:=Tryz.sizeOf320
 v117:=Tryz.zeroValue320
 t119:=Tryz.underlying377
 a119:=Tryz.isAgg377
 z119:=Tryz.sizeOf377
 t124:=Tryz.underlying323
 a124:=Tryz.isAgg323
 z124:=Tryz.sizeOf323
 v124:=Tryz.zeroValue323
 t138:=Tryz.underlying379
 a138:=Tryz.isAgg379
 z138:=Tryz.sizeOf379
 v138:=Tryz.zeroValue379
 t139:=Tryz.underlying380
 a139:=Tryz.isAgg380
 z139:=Tryz.sizeOf380
 v139:=Tryz.zeroValue380
 g3:=by kernel_rfl
 g4:=by kernel_rfl }
end Go.Proofs
namespace Go.Ago
open Go.Proofs Go.Shelf
theorem zpz {l:List UInt8}(h:l.all (fun b=>decide (b.toNat<128))=true):Asc l:=
 fun _ b hb=>of_decide_eq_true (List.all_eq_true.1 h b (List.mem_of_getElem? hb))
theorem yf1 (s t:List UInt8)(hs:s.length<281474976710656)(ht:t.length<4294967281)(h2:Asc t):DPR 239 [.str s,.str t] (fun ae=>ae = .ret (.str (Lib.trimS s t))):=by
 refine⟨.ret (.str (Lib.trimS s t)),zf9 ⟨_,Tryz.func239,rfl,by decide⟩ fun cx w vs hw hr=>?_,rfl⟩
 obtain⟨v,u,rfl,h0,h3⟩:=rel2 hr;cases h0;cases h3;refine(Any.strings_Trim_laid zsb (by kernel_rfl) ⟨s.toArray⟩ ⟨t.toArray⟩ w (by simp only[ByteArray.size,List.size_toArray];omega) (by simpa[ByteArray.size] using ht) (by simpa[Asc] using h2)).mono ?_
 rintro e w' ⟨rfl,hb⟩
 exact⟨hb,.ret _,.str _,rfl,rfl⟩
theorem zgt:∀(l:List UInt8) (c:UInt8),(Lib.indexByte l c = -1∧c∉l)∨∃i:Nat,Lib.indexByte l c=i∧l[i]? = some c∧∀j,j<i→l[j]?≠some c
 | [],c => .inl ⟨rfl,by simp⟩
 | b :: l, c => by
   unfold Lib.indexByte
   by_cases hb:b=c
   · subst hb;exact .inr ⟨0,by simp,rfl,fun j hj=>absurd hj (Nat.not_lt_zero _)⟩
   · have hb' : (b == c) = false := by simpa using hb
     rcases zgt l c with⟨h1,h2⟩|⟨i,h1,h2,h3⟩
     · exact .inl ⟨by simp[hb',h1],by simp[Ne.symm hb,h2]⟩
     · refine .inr ⟨i + 1, ?_, by simpa using h2, fun j hj => ?_⟩
       · have h4 : ((i : Int) == -1) = false := by simp
         rw[h1,hb',h4];simp
       · cases j with
         | zero=>simpa using hb
         | succ j=>simpa using h3 j (by omega)
theorem zu7 (s:List UInt8)(c:UInt8)(h:1≤Lib.countByte s c):0≤Lib.indexByte s c∧Lib.indexByte s c≤Lib.lastIndexByte ⟨s.toArray⟩ c.toNat∧Lib.lastIndexByte ⟨s.toArray⟩ c.toNat<s.length:=by
 have hm:c∈s:=by
  by_cases hc:c∈s
  · exact hc
  · have : s.count c = 0 := List.count_eq_zero.2 hc
    unfold Lib.countByte at h;omega
 rcases zgt s c with⟨_,h2⟩|⟨i,h1,h2,h3⟩
 · exact absurd hm h2
 have hi:i<s.length:=(List.getElem?_eq_some_iff.1 h2).1;rcases Lib.lastIdx_spec ⟨s.toArray⟩ c.toNat s.length with⟨_,g2⟩|⟨k,g1,g2,g3,g4⟩
 · exact absurd (by simp[h2]) (g2 i hi)
 · have e : Lib.lastIndexByte ⟨s.toArray⟩ c.toNat = k := by rw [← g2]; simp [Lib.lastIndexByte, ByteArray.size]
   refine⟨by omega,?_,by omega⟩
   rw[h1,e];rcases Nat.lt_or_ge k i with h5|h5
   · exact absurd (by simp[h2]) (g4 i h5 hi)
   · omega
end Go.Ago
end
namespace Go.Ago
open Go.Proofs
attribute [local irreducible] ltI leI eqI eqS shrI wr inB mmI comp DC DP DW DV DY
structure Fo where
 spec:List UInt8
 num:Bool
 width:Int
 digits:Int
 scale:Int
 signed:Bool
 roles:List Int
 drift:Int
 first:Int
 credit:Bool
 fill:Int
 firms:Int
 hs:spec.length≤32
 hr:roles.length≤40
abbrev Fo.cells (f:Fo):List AV:=[.str f.spec,.bool f.num,i64 f.width,i64 f.digits,i64 f.scale,.bool f.signed,zaq f.roles,.int .u8 f.drift,i64 f.first,.bool f.credit,.int .u8 f.fill,i64 f.firms]
abbrev Fo.av (f:Fo):AV := .rptr f.cells
theorem ydx (f:Fo)(c:Int)(at_:Int):DPR 312 [f.av,.int .u8 c,i64 at_] (fun ae=>∃n:Int,ae = .ret (.int .i64 n)∧0≤n∧n≤5):=by
 refine zaf eRg zae Tryz.func312 rfl (by decide) rfl rfl ?_
 conv=>whnf
 repeat' ((first|refine Br.split (fun h=>?_) (fun h=>?_)<;>(try simp only[bz] at h)|(refine zaa rfl (zbv _ _) ?_;rintro _ rfl))<;>conv=>whnf)
 all_goals exact⟨_,rfl,by decide,by decide⟩
theorem zua (f:Fo)(body:BL UInt8):DPR 282 [f.av,.str body.l] (retB fun _=>True):=by
 refine zaf eRg zae Tryz.func282 rfl (by decide) rfl rfl ?_
 have hr:=f.hr;have hl:=body.h
 conv=>whnf
 refine zai eRg zae [0,4,16,17] [] 0 (fun i:Nat×Int×Int=>[(18,i64 i.1),(5,i64 i.2.1),(6,i64 i.2.2)]) (fun _=>[]) [] (fun i=>f.roles.length+1 - i.1) ((0,(body.l.length:Int),-1)) ?_
 conv=>whnf
 refine⟨?_,fun i=>?_⟩
 · conv => whnf
   (repeat' first|exact True.intro|rfl|apply And.intro )
 conv=>whnf
 repeat' ((first|refine Rq.mk (by(first|rfl|((try simp only[rz]);omega))) ?_|refine Br.split (fun h=>?_) (fun h=>?_)<;>(try simp only[bz] at h)|refine Ok3.mk _ (zam (by omega)) ?_)<;>conv=>whnf)
 all_goals first|(refine⟨(i.1+1,_,_),(by(conv=>whnf);(repeat' first|exact True.intro|rfl|apply And.intro|(refine cw ?_ ?_ ?_<;>(try dsimp only)<;>omega) )),rfl,(by(try simp only[List.length_map] at *)<;>omega)⟩)|skip
 refine zai eRg zae [0,4,5,6,47,48] [] 0 (fun i:Nat=>[(49,i64 i)]) (fun _=>[]) [] (fun i=>f.roles.length+1 - i) (0) ?_
 conv=>whnf
 refine⟨?_,fun i=>?_⟩
 · conv => whnf
   (repeat' first|exact True.intro|rfl|apply And.intro )
 conv=>whnf
 repeat' ((first|refine Rq.mk (by(first|rfl|((try simp only[rz]);omega))) ?_|refine Br.split (fun h=>?_) (fun h=>?_)<;>(try simp only[bz] at h)|refine Ok3.mk _ (zam (by omega)) ?_)<;>conv=>whnf)
 all_goals first|exact⟨_,rfl,trivial⟩|(refine⟨i+1,?_,rfl,?_⟩<;>first|((conv=>whnf);(repeat' first|exact True.intro|rfl|apply And.intro|(refine cw ?_ ?_ ?_<;>(try dsimp only)<;>omega) );done)|((try simp only[List.length_map] at *)<;>omega))
theorem zqw {l:List UInt8}{n:Int}(h:n.toNat<l.length):(l.map fun b=>[AV.int .u8 b.toNat])[n.toNat]? = some [.int .u8 (l[n.toNat]).toNat]:=by simp[h]
theorem zy1 (f:Fo)(body:BL UInt8)(hb:body.l.length≤f.roles.length):DPR 283 [f.av,.str body.l] (retI fun _=>True):=by
 refine zaf eRg zae Tryz.func283 rfl (by decide) rfl rfl ?_
 have hr:=f.hr;have hl:=body.h
 conv=>whnf
 refine zai eRg zae [0,4,9,10] [] 0 (fun i:Nat×Int=>[(11,i64 i.1),(5,i64 i.2)]) (fun _=>[]) [] (fun i=>body.l.length+1 - i.1) ((0,0)) ?_
 conv=>whnf
 refine⟨?_,fun i=>?_⟩
 · conv => whnf
   (repeat' first|exact True.intro|rfl|apply And.intro )
 conv=>whnf
 repeat' ((first|refine Rq.mk (by(first|rfl|((try simp only[rz]);omega))) ?_|refine Br.split (fun h=>?_) (fun h=>?_)<;>(try simp only[bz] at h)|refine zag (fun h=>?_) (fun h=>?_)<;>(try simp only[bz] at h)|refine Ok3.mk _ (zam (by omega)) ?_|(refine zaa rfl (zbv _ _) ?_;rintro _ rfl))<;>conv=>whnf)
 all_goals first|exact⟨_,rfl,trivial⟩|(refine⟨(i.1+1,_),(by(conv=>whnf);(repeat' first|exact True.intro|rfl|apply And.intro|(refine cw ?_ ?_ ?_<;>(try dsimp only)<;>omega) )),rfl,(by(try simp only[List.length_map] at *)<;>omega)⟩)
theorem ykt {s:List UInt8}{a b:Nat}(h:Asc s):Asc ((s.drop a).take b):=by
 intro j x hx;rw[List.getElem?_take] at hx;split at hx
 · rw[List.getElem?_drop] at hx;exact h _ x hx
 · cases hx
theorem yhp {s t:List UInt8}(h:Lib.hasSuffix s t=true):t.length≤s.length:=(List.isSuffixOf_iff_suffix.1 h).length_le
structure Dr where
 d:Int
 f:Int
 i:Nat
 hi:i≤4
 hf : -1≤f∧f≤32
abbrev frm (s:List UInt8)(w d sc:Int)(roles:AV)(dr fi:Int)(cr:Bool)(firms:Int):AObj := .arr 12 [[.str s,.bool true,i64 w,i64 d,i64 sc,.bool false,roles,.int .u8 dr,i64 fi,.bool cr,.int .u8 32,i64 firms]]
theorem zli (s:List UInt8)(c:Int)(h:s.length≤32) : -1≤idxB s c∧idxB s c≤32:=by
 unfold idxB;rcases zgt s c.toNat.toUInt8 with⟨h1,_⟩|⟨i,h1,h2,_⟩
 · omega
 · have:=(List.getElem?_eq_some_iff.1 h2).1;omega
theorem zv6 (s body:List UInt8)(cr:Bool)(hb:body.length≤32):DC Tryz.prog ERg 280 [.ptr 3 0 0,.str body] (Tr.put 3 (some (frm s 0 0 0 .nils 0 0 cr 0)) .nil) 1000
 (fun ae H nx=>ae = .ret (.bool false)∨(∃d f:Int,ae = .ret (.bool true)∧H=Tr.put 3 (some (frm s 0 0 0 .nils d f cr 0)) .nil∧nx=3011)):=by
 refine zay eRg zae Tryz.func280 rfl (by decide) rfl rfl ?_
 conv=>whnf
 refine zai eRg zae [0,1,4] [3] 2000 (fun x:Dr=>[(14,.rsl 1 [[AV.int .u8 36],[AV.int .u8 83],[AV.int .u8 43],[AV.int .u8 45]]),(15,i64 4),(16,i64 x.i)]) (fun x=>[(3,frm s 0 0 0 .nils x.d x.f cr 0)]) [] (fun x=>5 - x.i) (⟨0,-1,0,by omega,by omega⟩) ?_
 conv=>whnf
 refine⟨?_,fun x=>?_⟩
 · conv => whnf
   (repeat' first|exact True.intro|apply And.intro|rfl )
 obtain⟨d,f,i,hi,hf⟩:=x;rcases i with _|_|_|_|_|i
 rotate_right
 · exact absurd hi (by omega)
 · have hp : 2 ≤ (Lib.countByte body (UInt8.ofNat (if Utf8.valid 36 = true then Int.toNat 36 else Utf8.runeError)) : Int) → 0 ≤ idxB body 36 ∧ idxB body 36 ≤ Lib.lastIndexByte ⟨body.toArray⟩ 36 ∧ Lib.lastIndexByte ⟨body.toArray⟩ 36 < body.length := fun h => zu7 body 36 (by have h : 2 ≤ (Lib.countByte body 36 : Int) := h; omega)
   have hfl:=zli body 36 hb;have hwl:2≤(Lib.countByte body (UInt8.ofNat (if Utf8.valid 36=true then Int.toNat 36 else Utf8.runeError)):Int)→wr .i64 (Lib.lastIndexByte ⟨body.toArray⟩ 36+1)=Lib.lastIndexByte ⟨body.toArray⟩ 36+1:=fun h=>wr64 (by have:=hp h;omega) (by have:=hp h;omega)
   have hin:(List.take ((Lib.lastIndexByte ⟨body.toArray⟩ 36+1).toNat - (idxB body 36).toNat) (List.drop (idxB body 36).toNat body)).length≤body.length:=by simp;omega
   conv=>whnf
   repeat' ((first|(refine Rq.mk (by rw[hwl (by assumption)];have:=hp (by assumption);simp only[zc6];omega) ?_;rw[hwl (by assumption)])|refine Rq.mk (by have:=hp (by assumption);simp only[zc6];omega) ?_|refine Rq.mk (by(first|rfl|((try simp only[rz]);omega))) ?_|refine Br.split (fun h=>?_) (fun h=>?_)<;>(try simp only[bz] at h)<;>try (exfalso;omega)|refine zag (fun h=>?_) (fun h=>?_)<;>(try simp only[bz] at h)|(refine zaa rfl (zll body _) ?_;rintro _ rfl)|(refine zaa rfl (zbv _ _) ?_;rintro _ rfl)|(refine zaa rfl (zdu body _ (by omega)) ?_;rintro _ rfl)|(refine zaa rfl (zd0 _ _) ?_;rintro _ rfl)|refine Ok3.mk _ rfl ?_)<;>conv=>whnf)
   all_goals first|exact .inl rfl|(refine⟨⟨d,f,1,by omega,hf⟩,?_,rfl,?_⟩<;>((conv=>whnf);(repeat' first|exact True.intro|apply And.intro|rfl|(refine cw ?_ ?_ ?_<;>(try dsimp only)<;>omega)|(simp[AV.l1,AV.la,AV.l0];done));done) )|skip
   refine zai eRg zae [0,1,4,6,7,14,15,16,17,18,19,20,21,22,23,24,25,26,27,28,29,30,31,32,33,34,35,36,37,38,39,40,41,42,43,44,45,46,47,48,49,50,51,52,53,54,55,56,57,58,59] [] 0 (fun j:Nat=>[(60,i64 j)]) (fun _=>[]) [] (fun j=>body.length+1 - j) (0) ?_
   conv=>whnf
   refine⟨?_,fun j=>?_⟩
   · conv => whnf
     (repeat' first|exact True.intro|apply And.intro|rfl )
   conv=>whnf
   repeat' ((first|refine Rq.mk (by(first|rfl|((try simp only[rz]);omega))) ?_|refine Br.split (fun h=>?_) (fun h=>?_)<;>(try simp only[bz] at h)|refine Ok3.mk _ (zam (by omega)) ?_|(refine zaa rfl (zbv _ _) ?_;rintro _ rfl))<;>conv=>whnf)
   all_goals first|exact .inl rfl|(refine⟨⟨36,idxB body 36,1,by omega,hfl⟩,?_,rfl,?_⟩<;>((conv=>whnf);(repeat' first|exact True.intro|apply And.intro|rfl|(refine cw ?_ ?_ ?_<;>(try dsimp only)<;>omega)|(simp[AV.l1,AV.la,AV.l0];done));done) )|(refine⟨j+1,?_,rfl,?_⟩<;>first|((conv=>whnf);(repeat' first|exact True.intro|apply And.intro|rfl|(refine cw ?_ ?_ ?_<;>(try dsimp only)<;>omega) );done)|omega)
 · have hp : 2 ≤ (Lib.countByte body (UInt8.ofNat (if Utf8.valid 83 = true then Int.toNat 83 else Utf8.runeError)) : Int) → 0 ≤ idxB body 83 ∧ idxB body 83 ≤ Lib.lastIndexByte ⟨body.toArray⟩ 83 ∧ Lib.lastIndexByte ⟨body.toArray⟩ 83 < body.length := fun h => zu7 body 83 (by have h : 2 ≤ (Lib.countByte body 83 : Int) := h; omega)
   have hfl:=zli body 83 hb;have hwl:2≤(Lib.countByte body (UInt8.ofNat (if Utf8.valid 83=true then Int.toNat 83 else Utf8.runeError)):Int)→wr .i64 (Lib.lastIndexByte ⟨body.toArray⟩ 83+1)=Lib.lastIndexByte ⟨body.toArray⟩ 83+1:=fun h=>wr64 (by have:=hp h;omega) (by have:=hp h;omega)
   have hin:(List.take ((Lib.lastIndexByte ⟨body.toArray⟩ 83+1).toNat - (idxB body 83).toNat) (List.drop (idxB body 83).toNat body)).length≤body.length:=by simp;omega
   conv=>whnf
   repeat' ((first|(refine Rq.mk (by rw[hwl (by assumption)];have:=hp (by assumption);simp only[zc6];omega) ?_;rw[hwl (by assumption)])|refine Rq.mk (by have:=hp (by assumption);simp only[zc6];omega) ?_|refine Rq.mk (by(first|rfl|((try simp only[rz]);omega))) ?_|refine Br.split (fun h=>?_) (fun h=>?_)<;>(try simp only[bz] at h)<;>try (exfalso;omega)|refine zag (fun h=>?_) (fun h=>?_)<;>(try simp only[bz] at h)|(refine zaa rfl (zll body _) ?_;rintro _ rfl)|(refine zaa rfl (zbv _ _) ?_;rintro _ rfl)|(refine zaa rfl (zdu body _ (by omega)) ?_;rintro _ rfl)|(refine zaa rfl (zd0 _ _) ?_;rintro _ rfl)|refine Ok3.mk _ rfl ?_)<;>conv=>whnf)
   all_goals first|exact .inl rfl|(refine⟨⟨d,f,2,by omega,hf⟩,?_,rfl,?_⟩<;>((conv=>whnf);(repeat' first|exact True.intro|apply And.intro|rfl|(refine cw ?_ ?_ ?_<;>(try dsimp only)<;>omega)|(simp[AV.l1,AV.la,AV.l0];done));done) )|skip
   refine zai eRg zae [0,1,4,6,7,14,15,16,17,18,19,20,21,22,23,24,25,26,27,28,29,30,31,32,33,34,35,36,37,38,39,40,41,42,43,44,45,46,47,48,49,50,51,52,53,54,55,56,57,58,59] [] 0 (fun j:Nat=>[(60,i64 j)]) (fun _=>[]) [] (fun j=>body.length+1 - j) (0) ?_
   conv=>whnf
   refine⟨?_,fun j=>?_⟩
   · conv => whnf
     (repeat' first|exact True.intro|apply And.intro|rfl )
   conv=>whnf
   repeat' ((first|refine Rq.mk (by(first|rfl|((try simp only[rz]);omega))) ?_|refine Br.split (fun h=>?_) (fun h=>?_)<;>(try simp only[bz] at h)|refine Ok3.mk _ (zam (by omega)) ?_|(refine zaa rfl (zbv _ _) ?_;rintro _ rfl))<;>conv=>whnf)
   all_goals first|exact .inl rfl|(refine⟨⟨83,idxB body 83,2,by omega,hfl⟩,?_,rfl,?_⟩<;>((conv=>whnf);(repeat' first|exact True.intro|apply And.intro|rfl|(refine cw ?_ ?_ ?_<;>(try dsimp only)<;>omega)|(simp[AV.l1,AV.la,AV.l0];done));done) )|(refine⟨j+1,?_,rfl,?_⟩<;>first|((conv=>whnf);(repeat' first|exact True.intro|apply And.intro|rfl|(refine cw ?_ ?_ ?_<;>(try dsimp only)<;>omega) );done)|omega)
 · have hp : 2 ≤ (Lib.countByte body (UInt8.ofNat (if Utf8.valid 43 = true then Int.toNat 43 else Utf8.runeError)) : Int) → 0 ≤ idxB body 43 ∧ idxB body 43 ≤ Lib.lastIndexByte ⟨body.toArray⟩ 43 ∧ Lib.lastIndexByte ⟨body.toArray⟩ 43 < body.length := fun h => zu7 body 43 (by have h : 2 ≤ (Lib.countByte body 43 : Int) := h; omega)
   have hfl:=zli body 43 hb;have hwl:2≤(Lib.countByte body (UInt8.ofNat (if Utf8.valid 43=true then Int.toNat 43 else Utf8.runeError)):Int)→wr .i64 (Lib.lastIndexByte ⟨body.toArray⟩ 43+1)=Lib.lastIndexByte ⟨body.toArray⟩ 43+1:=fun h=>wr64 (by have:=hp h;omega) (by have:=hp h;omega)
   have hin:(List.take ((Lib.lastIndexByte ⟨body.toArray⟩ 43+1).toNat - (idxB body 43).toNat) (List.drop (idxB body 43).toNat body)).length≤body.length:=by simp;omega
   conv=>whnf
   repeat' ((first|(refine Rq.mk (by rw[hwl (by assumption)];have:=hp (by assumption);simp only[zc6];omega) ?_;rw[hwl (by assumption)])|refine Rq.mk (by have:=hp (by assumption);simp only[zc6];omega) ?_|refine Rq.mk (by(first|rfl|((try simp only[rz]);omega))) ?_|refine Br.split (fun h=>?_) (fun h=>?_)<;>(try simp only[bz] at h)<;>try (exfalso;omega)|refine zag (fun h=>?_) (fun h=>?_)<;>(try simp only[bz] at h)|(refine zaa rfl (zll body _) ?_;rintro _ rfl)|(refine zaa rfl (zbv _ _) ?_;rintro _ rfl)|(refine zaa rfl (zdu body _ (by omega)) ?_;rintro _ rfl)|(refine zaa rfl (zd0 _ _) ?_;rintro _ rfl)|refine Ok3.mk _ rfl ?_)<;>conv=>whnf)
   all_goals first|exact .inl rfl|(refine⟨⟨d,f,3,by omega,hf⟩,?_,rfl,?_⟩<;>((conv=>whnf);(repeat' first|exact True.intro|apply And.intro|rfl|(refine cw ?_ ?_ ?_<;>(try dsimp only)<;>omega)|(simp[AV.l1,AV.la,AV.l0];done));done) )|skip
   refine zai eRg zae [0,1,4,6,7,14,15,16,17,18,19,20,21,22,23,24,25,26,27,28,29,30,31,32,33,34,35,36,37,38,39,40,41,42,43,44,45,46,47,48,49,50,51,52,53,54,55,56,57,58,59] [] 0 (fun j:Nat=>[(60,i64 j)]) (fun _=>[]) [] (fun j=>body.length+1 - j) (0) ?_
   conv=>whnf
   refine⟨?_,fun j=>?_⟩
   · conv => whnf
     (repeat' first|exact True.intro|apply And.intro|rfl )
   conv=>whnf
   repeat' ((first|refine Rq.mk (by(first|rfl|((try simp only[rz]);omega))) ?_|refine Br.split (fun h=>?_) (fun h=>?_)<;>(try simp only[bz] at h)|refine Ok3.mk _ (zam (by omega)) ?_|(refine zaa rfl (zbv _ _) ?_;rintro _ rfl))<;>conv=>whnf)
   all_goals first|exact .inl rfl|(refine⟨⟨43,idxB body 43,3,by omega,hfl⟩,?_,rfl,?_⟩<;>((conv=>whnf);(repeat' first|exact True.intro|apply And.intro|rfl|(refine cw ?_ ?_ ?_<;>(try dsimp only)<;>omega)|(simp[AV.l1,AV.la,AV.l0];done));done) )|(refine⟨j+1,?_,rfl,?_⟩<;>first|((conv=>whnf);(repeat' first|exact True.intro|apply And.intro|rfl|(refine cw ?_ ?_ ?_<;>(try dsimp only)<;>omega) );done)|omega)
 · have hp : 2 ≤ (Lib.countByte body (UInt8.ofNat (if Utf8.valid 45 = true then Int.toNat 45 else Utf8.runeError)) : Int) → 0 ≤ idxB body 45 ∧ idxB body 45 ≤ Lib.lastIndexByte ⟨body.toArray⟩ 45 ∧ Lib.lastIndexByte ⟨body.toArray⟩ 45 < body.length := fun h => zu7 body 45 (by have h : 2 ≤ (Lib.countByte body 45 : Int) := h; omega)
   have hfl:=zli body 45 hb;have hwl:2≤(Lib.countByte body (UInt8.ofNat (if Utf8.valid 45=true then Int.toNat 45 else Utf8.runeError)):Int)→wr .i64 (Lib.lastIndexByte ⟨body.toArray⟩ 45+1)=Lib.lastIndexByte ⟨body.toArray⟩ 45+1:=fun h=>wr64 (by have:=hp h;omega) (by have:=hp h;omega)
   have hin:(List.take ((Lib.lastIndexByte ⟨body.toArray⟩ 45+1).toNat - (idxB body 45).toNat) (List.drop (idxB body 45).toNat body)).length≤body.length:=by simp;omega
   conv=>whnf
   repeat' ((first|(refine Rq.mk (by rw[hwl (by assumption)];have:=hp (by assumption);simp only[zc6];omega) ?_;rw[hwl (by assumption)])|refine Rq.mk (by have:=hp (by assumption);simp only[zc6];omega) ?_|refine Rq.mk (by(first|rfl|((try simp only[rz]);omega))) ?_|refine Br.split (fun h=>?_) (fun h=>?_)<;>(try simp only[bz] at h)<;>try (exfalso;omega)|refine zag (fun h=>?_) (fun h=>?_)<;>(try simp only[bz] at h)|(refine zaa rfl (zll body _) ?_;rintro _ rfl)|(refine zaa rfl (zbv _ _) ?_;rintro _ rfl)|(refine zaa rfl (zdu body _ (by omega)) ?_;rintro _ rfl)|(refine zaa rfl (zd0 _ _) ?_;rintro _ rfl)|refine Ok3.mk _ rfl ?_)<;>conv=>whnf)
   all_goals first|exact .inl rfl|(refine⟨⟨d,f,4,by omega,hf⟩,?_,rfl,?_⟩<;>((conv=>whnf);(repeat' first|exact True.intro|apply And.intro|rfl|(refine cw ?_ ?_ ?_<;>(try dsimp only)<;>omega)|(simp[AV.l1,AV.la,AV.l0];done));done) )|skip
   refine zai eRg zae [0,1,4,6,7,14,15,16,17,18,19,20,21,22,23,24,25,26,27,28,29,30,31,32,33,34,35,36,37,38,39,40,41,42,43,44,45,46,47,48,49,50,51,52,53,54,55,56,57,58,59] [] 0 (fun j:Nat=>[(60,i64 j)]) (fun _=>[]) [] (fun j=>body.length+1 - j) (0) ?_
   conv=>whnf
   refine⟨?_,fun j=>?_⟩
   · conv => whnf
     (repeat' first|exact True.intro|apply And.intro|rfl )
   conv=>whnf
   repeat' ((first|refine Rq.mk (by(first|rfl|((try simp only[rz]);omega))) ?_|refine Br.split (fun h=>?_) (fun h=>?_)<;>(try simp only[bz] at h)|refine Ok3.mk _ (zam (by omega)) ?_|(refine zaa rfl (zbv _ _) ?_;rintro _ rfl))<;>conv=>whnf)
   all_goals first|exact .inl rfl|(refine⟨⟨45,idxB body 45,4,by omega,hfl⟩,?_,rfl,?_⟩<;>((conv=>whnf);(repeat' first|exact True.intro|apply And.intro|rfl|(refine cw ?_ ?_ ?_<;>(try dsimp only)<;>omega)|(simp[AV.l1,AV.la,AV.l0];done));done) )|(refine⟨j+1,?_,rfl,?_⟩<;>first|((conv=>whnf);(repeat' first|exact True.intro|apply And.intro|rfl|(refine cw ?_ ?_ ?_<;>(try dsimp only)<;>omega) );done)|omega)
 · skip
   conv=>whnf
   repeat' first
    | (refine Br.split (fun h=>?_) (fun h=>?_)<;>(try simp only[bz] at h)<;>first|(exfalso;omega)|(conv=>whnf))
   all_goals exact .inr ⟨d,f,rfl,rfl,rfl⟩
end Go.Ago
