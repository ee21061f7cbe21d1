/-
  Part B11: lemmas, each with its own conditions.
-/
import Derived.Shelf.Strings.Search1
import Derived.Shelf.Strings.Search2
import Derived.Shelf.Strings.Search3
import Derived.Shelf.Spec.SlicesInsert
import Derived.Shelf.Strings.LastIndex
import Derived.Shelf.Strings.Prefix
import Derived.Shelf.Strings.Repeat
import Derived.Shelf.Small.Strs
import Derived.Shelf.Strings.Count
import Derived.Shelf.Strings.IndexAnyAll
import Derived.Test.YthaolifcglpkdaaGreatDoorB10
set_option maxRecDepth 100000
set_option maxHeartbeats 0
set_option linter.all false
section
namespace Go.Proofs
open List Nat
def Tryz.UX:Go.Shelf.Ren:=⟨fun|144=>138|143=>185|219=>234|217=>265|225=>266|224=>267|267=>268|266=>300|314=>301|n=>n,fun|9=>9|4=>4|3=>3|5=>5|46=>169|146=>341|51=>265|n=>n,fun|1=>2|n=>n⟩
theorem Tryz.UW:Go.Proofs.Lays.n144 prog Tryz.UX:={
 mixed:=by kernel_rfl
 f143:=func185.trans (congrArg some (by kernel_rfl))
 f144:=func138.trans (congrArg some (by kernel_rfl))
 f217:=func265.trans (congrArg some (by kernel_rfl))
 f219:=func234.trans (congrArg some (by kernel_rfl))
 f224:=func267.trans (congrArg some (by kernel_rfl))
 f225:=func266.trans (congrArg some (by kernel_rfl))
 f266:=func300.trans (congrArg some (by kernel_rfl))
 f267:=func268.trans (congrArg some (by kernel_rfl))
 f314:=func301.trans (congrArg some (by kernel_rfl))
 t3:=underlying3
 a3:=isAgg3
 z3:=sizeOf3
 v3:=zeroValue3
 t4:=underlying4
 a4:=isAgg4
 z4:=sizeOf4
 v4:=zeroValue4
 t5:=underlying5
 a5:=isAgg5
 z5:=sizeOf5
 v5:=zeroValue5
 t9:=underlying9
 a9:=isAgg9
 z9:=sizeOf9
 v9:=zeroValue9
 t46:=underlying169
 a46:=isAgg169
 z46:=sizeOf169
 v46:=zeroValue169
 t51:=underlying265
 a51:=isAgg265
 z51:=sizeOf265
 v51:=zeroValue265
 t146:=underlying341
 a146:=isAgg341
 z146:=sizeOf341
 v146:=zeroValue341
 g1:=by kernel_rfl }
end Go.Proofs
namespace Go.Ago
open Go.Proofs List Nat Tryz
def rB (s:List UInt8)(c:UInt8):Bool:=decide (0≤Lib.indexByte s c)
theorem pN (s:List UInt8)(c:UInt8):af 138 [.str s,.str [c]] (fun d=>d = .ret (.bool (rB s c))):=by
 refine⟨.ret (.bool (rB s c)),PC.qu ⟨_,func138,rfl,ab⟩ fun l w g m b=>?_,rfl⟩
 obtain⟨f,b⟩:=b
 match g,f with
 | [v, u], _ =>
   have i:=b 0 _ _ rfl rfl;have h:=b 1 _ _ rfl rfl;cases i;cases h;refine(Any.strings_Contains_one Tryz.UW ⟨s.toArray⟩ c w).mono ?_
   rintro e k ⟨rfl,rfl⟩
   exact⟨rfl,.ret (.bool (rB s c)),.bool _,rfl⟩
end Go.Ago
end
namespace Go.Ago
open Go.Proofs Go.RowKit List Nat Tryz
theorem Qy (a:Addr)(c:Nat)(w:World):Calls prog 16 #[.slice (some a) 0 c] w fun e w'=>e = .returned (.slice (some ⟨w.heap.size,0,none⟩) 0 0)∧Below w.heap.size w w':=by
 have d:prog.underlying 26=some (.slice 3):=aG;have p:(prog.info? 3).map (fun i=>(i.zero,i.size,i.bytes))=some (some (.int .i64 0),1,8):=aG
 have q26:∀(w:World) (a:Option Addr) (n c l k:Nat),(binOp .eql 26 (.slice a n c) (.slice none l k)).run prog w = .ok (.bool a.isNone) w:=fun w a n c l k=>Lib.run_eql_slice_nil w _ _ a n c l k d
 have o:∀w,Sem.run prog (underlying 26) w = .ok (TypeDesc.slice 3) w:=run_underlying d;have g:∀w,_root_.Go.Src prog 1 26 (.slice (some a) 0 c) 0 [] w:=fun w=>_root_.Go.Src.ofSlice w d a 0 c [] ag (fun j u h=>by simp at h) (fun v m=>by cases m)
 go_enter func16,ntmps16
 go_wp2_with (at_builtin;refine wpList_append_room1 _ rfl _ _ 26 26 rfl 3 _ _ d p w.heap.size 0 0 0 rfl _ rfl 0 [] (g _) (zbm _) (fun j h=>absurd h (zbK _)) (fun j h=>absurd h (zbK _)) ?_)
 go_ret
 exact⟨rfl,(Below.refl _ w).alloc (zbm _) _⟩
theorem Qz (w:World):Calls prog 16 #[.slice none 0 0] w fun e w'=>e = .returned (.slice none 0 0)∧w'=w:=by
 have d:prog.underlying 26=some (.slice 3):=by rfl
 have g:=fun w a n c h i=>Lib.run_eql_slice_nil w _ _ a n c h i d
 go_wp2
 go_ret
 simp
theorem Qw:PC prog fB 16 [.ak 1 []] (· = .ret .cW):=by
 refine PC.CQ ⟨_,func16,rfl,ab⟩ fun c w o n i=>?_
 obtain⟨v,m,rfl,f,h⟩:=i.dP;obtain rfl:=h.fX
 generalize g:AV.ak 1 []=x at f
 cases f<;>cases g
 . rename_i d a _ _ _ _ _ _
   refine(Qy a d w).mono ?_
   rintro e k ⟨rfl,l⟩
   exact⟨l,.ret .cW,fun j _=>Rel.cW _,rfl⟩
 . refine (Qz w).mono ?_
   rintro e k ⟨rfl,rfl⟩
   exact⟨Below.refl _ _,.ret .cW,fun j _=>Rel.iA,rfl⟩
theorem FW:af 16 [.ak 1 []] (fun a=>a = .ret .cW):=⟨_,Qw,rfl⟩
end Go.Ago
section
namespace Go.Proofs
open List Nat
open Go.Shelf
def Tryz.US:Go.Shelf.Ren:=⟨fun|137=>302|217=>265|266=>300|n=>n,fun|9=>9|5=>5|3=>3|n=>n,fun|n=>n⟩
theorem Tryz.UR:Go.Proofs.Lays.n137 prog Tryz.US:={
 mixed:=by kernel_rfl
 f137:=func302.trans (congrArg some (by kernel_rfl))
 f217:=func265.trans (congrArg some (by kernel_rfl))
 f266:=func300.trans (congrArg some (by kernel_rfl))
 t3:=underlying3
 a3:=isAgg3
 z3:=sizeOf3
 v3:=zeroValue3
 t5:=underlying5
 a5:=isAgg5
 z5:=sizeOf5
 v5:=zeroValue5
 t9:=underlying9
 a9:=isAgg9
 z9:=sizeOf9
 v9:=zeroValue9 }
def Tryz.UZ:Go.Shelf.Ren:=⟨fun|149=>311|222=>334|n=>n,fun|9=>9|5=>5|3=>3|4=>4|n=>n,fun|n=>n⟩
theorem Tryz.UY:Go.Proofs.Lays.n149 prog Tryz.UZ:={
 mixed:=by kernel_rfl
 f149:=func311.trans (congrArg some (by kernel_rfl))
 f222:=func334.trans (congrArg some (by kernel_rfl))
 t3:=underlying3
 a3:=isAgg3
 z3:=sizeOf3
 v3:=zeroValue3
 t4:=underlying4
 a4:=isAgg4
 z4:=sizeOf4
 v4:=zeroValue4
 t5:=underlying5
 a5:=isAgg5
 z5:=sizeOf5
 v5:=zeroValue5
 t9:=underlying9
 a9:=isAgg9
 z9:=sizeOf9
 v9:=zeroValue9 }
def Tryz.UP:Go.Shelf.Ren:=⟨fun|100=>279|207=>309|n=>n,fun|9=>9|4=>4|3=>3|n=>n,fun|n=>n⟩
theorem Tryz.UO:Go.Proofs.Lays.n100 prog Tryz.UP:={
 mixed:=by kernel_rfl
 f100:=func279.trans (congrArg some (by kernel_rfl))
 f207:=func309.trans (congrArg some (by kernel_rfl))
 t3:=underlying3
 a3:=isAgg3
 z3:=sizeOf3
 v3:=zeroValue3
 t4:=underlying4
 a4:=isAgg4
 z4:=sizeOf4
 v4:=zeroValue4
 t9:=underlying9
 a9:=isAgg9
 z9:=sizeOf9
 v9:=zeroValue9 }
def Tryz.UU:Go.Shelf.Ren:=⟨fun|138=>310|195=>332|218=>333|143=>185|219=>234|217=>265|225=>266|224=>267|267=>268|266=>300|314=>301|n=>n,fun|9=>9|3=>3|4=>4|5=>5|0=>0|46=>169|146=>341|51=>265|n=>n,fun|1=>2|n=>n⟩
theorem Tryz.UT:Go.Proofs.Lays.n138 prog Tryz.UU:={
 mixed:=by kernel_rfl
 f138:=func310.trans (congrArg some (by kernel_rfl))
 f143:=func185.trans (congrArg some (by kernel_rfl))
 f195:=func332.trans (congrArg some (by kernel_rfl))
 f217:=func265.trans (congrArg some (by kernel_rfl))
 f218:=func333.trans (congrArg some (by kernel_rfl))
 f219:=func234.trans (congrArg some (by kernel_rfl))
 f224:=func267.trans (congrArg some (by kernel_rfl))
 f225:=func266.trans (congrArg some (by kernel_rfl))
 f266:=func300.trans (congrArg some (by kernel_rfl))
 f267:=func268.trans (congrArg some (by kernel_rfl))
 f314:=func301.trans (congrArg some (by kernel_rfl))
 t0:=underlying0
 a0:=isAgg0
 z0:=sizeOf0
 v0:=zeroValue0
 t3:=underlying3
 a3:=isAgg3
 z3:=sizeOf3
 v3:=zeroValue3
 t4:=underlying4
 a4:=isAgg4
 z4:=sizeOf4
 v4:=zeroValue4
 t5:=underlying5
 a5:=isAgg5
 z5:=sizeOf5
 v5:=zeroValue5
 t9:=underlying9
 a9:=isAgg9
 z9:=sizeOf9
 v9:=zeroValue9
 t46:=underlying169
 a46:=isAgg169
 z46:=sizeOf169
 v46:=zeroValue169
 t51:=underlying265
 a51:=isAgg265
 z51:=sizeOf265
 v51:=zeroValue265
 t146:=underlying341
 a146:=isAgg341
 z146:=sizeOf341
 v146:=zeroValue341
 g1:=by kernel_rfl }
def Tryz.U1:Go.Shelf.Ren:=⟨fun|150=>240|153=>278|152=>307|226=>308|227=>273|228=>303|137=>302|119=>331|224=>267|225=>266|217=>265|266=>300|n=>n,fun|9=>9|4=>4|3=>3|5=>5|21=>21|117=>320|116=>319|0=>0|46=>169|124=>323|n=>n,fun|n=>n⟩
theorem Tryz.U0:Go.Proofs.Lays.n150 prog Tryz.U1:={
 mixed:=by kernel_rfl
 f119:=func331.trans (congrArg some (by kernel_rfl))
 f137:=func302.trans (congrArg some (by kernel_rfl))
 f150:=func240.trans (congrArg some (by kernel_rfl))
 f152:=func307.trans (congrArg some (by kernel_rfl))
 f153:=func278.trans (congrArg some (by kernel_rfl))
 f217:=func265.trans (congrArg some (by kernel_rfl))
 f224:=func267.trans (congrArg some (by kernel_rfl))
 f225:=func266.trans (congrArg some (by kernel_rfl))
 f226:=func308.trans (congrArg some (by kernel_rfl))
 f227:=func273.trans (congrArg some (by kernel_rfl))
 f228:=func303.trans (congrArg some (by kernel_rfl))
 f266:=func300.trans (congrArg some (by kernel_rfl))
 t0:=underlying0
 a0:=isAgg0
 z0:=sizeOf0
 v0:=zeroValue0
 t3:=underlying3
 a3:=isAgg3
 z3:=sizeOf3
 v3:=zeroValue3
 t4:=underlying4
 a4:=isAgg4
 z4:=sizeOf4
 v4:=zeroValue4
 t5:=underlying5
 a5:=isAgg5
 z5:=sizeOf5
 v5:=zeroValue5
 t9:=underlying9
 a9:=isAgg9
 z9:=sizeOf9
 v9:=zeroValue9
 t21:=underlying21
 a21:=isAgg21
 z21:=sizeOf21
 v21:=zeroValue21
 t46:=underlying169
 a46:=isAgg169
 z46:=sizeOf169
 v46:=zeroValue169
 t116:=underlying319
 a116:=isAgg319
 z116:=sizeOf319
 t117:=underlying320
 a117:=isAgg320
 z117:=sizeOf320
 v117:=zeroValue320
 t124:=underlying323
 a124:=isAgg323
 z124:=sizeOf323
 v124:=zeroValue323 }
def Tryz.Ik:Go.Shelf.Ren:=⟨fun|105=>288|212=>318|99=>319|165=>320|166=>321|170=>322|169=>323|263=>339|264=>340|206=>341|240=>342|241=>343|276=>348|277=>349|n=>n,fun|9=>9|3=>3|4=>4|20=>20|0=>0|46=>169|109=>356|5=>5|72=>360|76=>290|51=>265|146=>341|53=>128|148=>374|70=>358|37=>267|75=>289|127=>376|164=>384|80=>361|n=>n,fun|n=>n⟩
theorem Tryz.UQ:Go.Proofs.Lays.n105 prog Tryz.Ik:={
 mixed:=by kernel_rfl
 f99:=func319.trans (congrArg some (by kernel_rfl))
 f105:=func288.trans (congrArg some (by kernel_rfl))
 f165:=func320.trans (congrArg some (by kernel_rfl))
 f166:=func321.trans (congrArg some (by kernel_rfl))
 f169:=func323.trans (congrArg some (by kernel_rfl))
 f170:=func322.trans (congrArg some (by kernel_rfl))
 f206:=func341.trans (congrArg some (by kernel_rfl))
 f212:=func318.trans (congrArg some (by kernel_rfl))
 f240:=func342.trans (congrArg some (by kernel_rfl))
 f241:=func343.trans (congrArg some (by kernel_rfl))
 f263:=func339.trans (congrArg some (by kernel_rfl))
 f264:=func340.trans (congrArg some (by kernel_rfl))
 f276:=func348.trans (congrArg some (by kernel_rfl))
 f277:=func349.trans (congrArg some (by kernel_rfl))
 t0:=underlying0
 a0:=isAgg0
 z0:=sizeOf0
 v0:=zeroValue0
 t3:=underlying3
 a3:=isAgg3
 z3:=sizeOf3
 v3:=zeroValue3
 t4:=underlying4
 a4:=isAgg4
 z4:=sizeOf4
 v4:=zeroValue4
 t5:=underlying5
 a5:=isAgg5
 z5:=sizeOf5
 v5:=zeroValue5
 t9:=underlying9
 a9:=isAgg9
 z9:=sizeOf9
 v9:=zeroValue9
 t20:=underlying20
 a20:=isAgg20
 z20:=sizeOf20
 v20:=zeroValue20
 t37:=underlying267
 a37:=isAgg267
 z37:=sizeOf267
 v37:=zeroValue267
 t46:=underlying169
 a46:=isAgg169
 z46:=sizeOf169
 v46:=zeroValue169
 t51:=underlying265
 a51:=isAgg265
 z51:=sizeOf265
 v51:=zeroValue265
 t53:=underlying128
 a53:=isAgg128
 z53:=sizeOf128
 v53:=zeroValue128
 t70:=underlying358
 a70:=isAgg358
 z70:=sizeOf358
 v70:=zeroValue358
 t72:=underlying360
 a72:=isAgg360
 z72:=sizeOf360
 v72:=zeroValue360
 t75:=underlying289
 a75:=isAgg289
 z75:=sizeOf289
 v75:=zeroValue289
 t76:=underlying290
 a76:=isAgg290
 z76:=sizeOf290
 v76:=zeroValue290
 t109:=underlying356
 a109:=isAgg356
 z109:=sizeOf356
 v109:=zeroValue356
 t127:=underlying376
 a127:=isAgg376
 z127:=sizeOf376
 v127:=zeroValue376
 t146:=underlying341
 a146:=isAgg341
 z146:=sizeOf341
 v146:=zeroValue341
 t148:=underlying374
 a148:=isAgg374
 z148:=sizeOf374
 v148:=zeroValue374
 t164:=underlying384
 a164:=isAgg384
 z164:=sizeOf384
 v164:=zeroValue384 }
theorem Tryz.NT:Builder.Extra prog Tryz.Ik:={
 sizeBuilder:=by kernel_rfl
 liesBuilder:=by kernel_rfl
 t5:=underlying5
 a5:=isAgg5
 z5:=sizeOf5
 v5:=zeroValue5
 infoByte:=by kernel_rfl
 cellsByte:=by kernel_rfl
 sizeByte:=by kernel_rfl
 neB5:=by decide }
end Go.Proofs
namespace Go.Ago
open Go.Proofs Go.Shelf List Nat Tryz
theorem PC.xQ {P:Program}{E:Env}{g:FuncId}{args:List AV}{Q:AE->Prop}(i:qY P g)
 (h:∀c w vs,aN E.bS c w .nil->aP c w args vs->Calls P g vs.toArray w fun e w'=>Go.RowKit.Below w.heap.size w w'∧∃f,lT c w f e∧f.flat=true∧Q f):PC P E g args Q:=by
 refine⟨i,fun c w vs m j p=>(h c w _ j p).mono ?_⟩
 rintro e w' ⟨a,f,l,o,q⟩
 obtain⟨n,s⟩:=j.same (ag) (fun b k=>zbJ (j.bN b k) a.size) (ag) a.size (fun b d=>a.block b d)
 exact⟨c,f,⟨.refl c,a.os,a.tape,a.output,a.size,fun b d _=>a.block b d,fun b a => .inl a,fun b a => .inl a⟩,m,n,w8 l o,q⟩
theorem J4 {c:Ctx}{w:World}{x:AV}{vs:List Value}(h:aP c w [x] vs):∃v,vs=[v]∧Rel c w x v:=by
 obtain⟨v,b,rfl,d,a⟩:=h.dP;obtain rfl:=a.fX
 grind
theorem qA {c:Ctx}{w:World}{x y:AV}{vs:List Value}(h:aP c w [x,y] vs):∃v u,vs=[v,u]∧Rel c w x v∧Rel c w y u:=by
 obtain⟨v,e,rfl,d,a⟩:=h.dP;obtain⟨u,rfl,b⟩:=J4 a
 grind
def fR (s:List UInt8)(c:Int):Int:=Lib.indexByte s c.toNat.toUInt8
theorem kh (s:List UInt8)(c:Int):af 302 [.str s,.int .u8 c] (fun d=>d = .ret (i64 (fR s c))):=by
 refine⟨.ret _,PC.qu ⟨_,func302,rfl,ab⟩ fun l w j k f=>?_,rfl⟩
 obtain⟨v,u,rfl,b,g⟩:=qA f;cases b;cases g;refine(Any.strings_IndexByte Tryz.UR _ c w).mono ?_
 rintro e i ⟨rfl,rfl⟩
 exact⟨rfl,.ret _,.int .i64 _,rfl⟩
theorem xA (s:List UInt8)(c:Int)(k:s.length<281474976710656):af 311 [.str s,.int .u8 c] (fun f=>f = .ret (i64 (Lib.lastIndexByte ⟨s.toArray⟩ c))):=by
 refine⟨.ret _,PC.qu ⟨_,func311,rfl,ab⟩ fun l w m n b=>?_,rfl⟩
 obtain⟨v,u,rfl,h,g⟩:=qA b;cases h;cases g;refine(Any.strings_LastIndexByte Tryz.UY ⟨s.toArray⟩ c (by simp only[ByteArray.size,zcy];omega) w).mono ?_
 rintro e j ⟨rfl,rfl⟩
 exact⟨rfl,.ret _,.int .i64 _,rfl⟩
theorem Tb (s t:List UInt8)(j:s.length<281474976710656):af 279 [.str s,.str t] (fun d=>d = .ret (.bool (Lib.hasSuffix s t))):=by
 refine⟨.ret (.bool (Lib.hasSuffix s t)),PC.qu ⟨_,func279,rfl,ab⟩ fun k w l m c=>?_,rfl⟩
 obtain⟨v,u,rfl,g,f⟩:=qA c;cases g;cases f;refine(Any.strings_HasSuffix Tryz.UO ⟨s.toArray⟩ ⟨t.toArray⟩ w (by simp only[ByteArray.size,zcy];omega)).mono ?_
 rintro e i ⟨rfl,rfl⟩
 exact⟨rfl,.ret _,.bool _,rfl⟩
theorem wH (s:List UInt8)(c:UInt8):af 310 [.str s,.str [c]] (fun f=>f = .ret (i64 (Lib.countByte s c))):=by
 refine⟨.ret (i64 (Lib.countByte s c)),PC.qu ⟨_,func310,rfl,ab⟩ fun m w k l d=>?_,rfl⟩
 obtain⟨v,u,rfl,h,g⟩:=qA d;cases h;cases g;refine(Any.strings_Count_one Tryz.UT ⟨s.toArray⟩ c w).mono ?_
 rintro e j ⟨rfl,rfl⟩
 exact⟨rfl,.ret _,.int .i64 _,rfl⟩
def kB (s:List UInt8):Prop:=∀(j:Nat) b,s[j]? = some b->b.toNat<128
theorem Ge (s t:List UInt8)(h:s.length<4294967281)(i:t.length<4294967281)(d:kB s)(f:kB t):af 240 [.str s,.str t] (fun g=>g = .ret (.bool (Lib.containsAny s t))):=by
 refine⟨.ret (.bool (Lib.containsAny s t)),PC.xQ ⟨_,func240,rfl,ab⟩ fun p w n o l=>?_,rfl⟩
 obtain⟨v,u,rfl,k,j⟩:=qA l;cases k;cases j;refine(Any.strings_ContainsAny_laid Tryz.U0 aG ⟨s.toArray⟩ ⟨t.toArray⟩ w (by simpa[ByteArray.size] using h) (by simpa[ByteArray.size] using i) (by simpa[kB] using d) (by simpa[kB] using f)).mono ?_
 rintro e q ⟨rfl,c⟩
 exact⟨c,.ret _,.bool _,rfl,rfl⟩
theorem Kb (s:List UInt8)(n:Int)(f:s.length≤4)(g:0≤n∧n≤1000):af 288 [.str s,i64 n] (fun d=>d = .ret (.str (Lib.repeatL s n.toNat))):=by
 refine⟨.ret (.str (Lib.repeatL s n.toNat)),PC.xQ ⟨_,func288,rfl,ab⟩ fun q w o m i=>?_,rfl⟩
 obtain⟨v,u,rfl,h,j⟩:=qA i;cases h;cases j;obtain⟨k,rfl⟩:=zbW g.1;have p:s.length * k≤4 * 1000:=Nat.mul_le_mul f aa;refine(Any.strings_Repeat Tryz.UQ Tryz.NT ⟨s.toArray⟩ k w aa (by show s.toArray.size * k≤_;rw[zcy];omega)).mono ?_
 rintro e r ⟨rfl,c⟩
 exact⟨c,.ret _,.str _,rfl,rfl⟩
end Go.Ago
end
namespace Go.Ago
open Go.Proofs List Nat Tryz
attribute [local irreducible] bA bw aV bp bG wr aZ bF comp DC DP DW DV
theorem IX (x:Int):af 235 [i64 x] (eS fun n=>n=if x=1 then 9 else 31):=by
 exact zw func235 W
theorem WS (x:Int):af 246 [i64 x] (fun d=>∃a b,d = .ret (.ao [.bool a,.bool b])):=by
 exact zw func246 W
theorem uH (x lo hi:Int):af 100 [i64 x,i64 lo,i64 hi] (cc fun b=>b=true↔lo≤x∧x≤hi):=zw func100 W
theorem kz (x lo hi:Int):af 130 [i64 x,i64 lo,i64 hi] (cc fun b=>b=true↔lo≤x∧x≤hi):=zw func130 W
theorem UL (t:Ty):af 186 [t.av] (cc fun b=>b=true↔t.kind=1∨t.kind=2):=zw func186 W
theorem PH (t:Ty):af 193 [t.av] (cc fun b=>b=true↔t.kind=1∨t.kind=2):=zw func193 W
theorem Qb (t:Ty):af 294 [t.av] (cc fun _=>True):=by
 exact zw func294 W
theorem OY (t:Ty):af 295 [t.av] (cc fun _=>True):=by
 exact zw func295 W
theorem TZ (t:Ty):af 296 [t.av] (cc fun _=>True):=by
 exact zw func296 W
theorem wT (t:Ty):af 187 [t.av] (eS fun e=>e=0->(t.kind=1∧t.p≤9∨t.kind=2∧t.p≤31)∧1≤t.p∧0≤t.q∧t.q≤t.p):=by
 have k1:=@IX;exact zw func187 W
end Go.Ago
section
namespace Go.Ago
open List Nat
def an.dT:an->Prop
 | .arr _ a=>(a.all fun e=>e.all hU)=true
 | .dJ _ _=>True
 | .lp _ _ _ _ _=>False
 | .mp a=>(a.all fun p=>hU p.2)=true
 | .cm _ _=>True
theorem fM.dT {c c':Ctx}{w:World}{B:fo}{o:an}(hi:c'.aq=c.aq)(h:fM c w B o)(p:o.dT):fM c' w B o:=by
 cases o with
 | arr N A =>
   obtain⟨arr,t,g,l,m,y,n⟩:=h;refine⟨arr,t,g,l,m,y,fun i e u=>⟨(n i e u).1,fun j x C=>?_⟩⟩
   obtain⟨v,I,G⟩:=(n i e u).2 j x C;exact⟨v,I,w6 hi G (zbr.1 (zbr.1 p e (zby u)) x (zby C))⟩
 | dJ s E=>exact h
 | lp R D P H z=>exact p.elim
 | mp A =>
   obtain⟨q,b,a,g,l,m,f,y,n,K⟩:=h;exact⟨q,b,a,g,l,m,f,y,n,fun k x e=>w6 hi (K k x e) (zbr.1 p _ e)⟩
 | cm L A =>
   obtain⟨q,r,b,a,seen,g,l,m⟩:=h;have O:c'.bare=c.bare:=by unfold Ctx.bare;rw[hi]
   exact⟨q,r,b,a,seen,g,by grind,by grind⟩
variable {P:Program} {E:Env}
def tI (ρ:Nat->Nat)(c b H H2:aj):Prop:=
 ∀j o,H2.get j=some o->(H.get j=some o∧∀k a,c.get k=some a->ρ k≠j)∨∃k a,c.get k=some a∧ρ k=j∧b.get k=some o∧o.dT
def NX (ρ:Nat->Nat)(b:Nat)(c a:AE):Prop:=(c.flat=true∧a=c)∨∃k i n s,k<b∧c = .ret (.ay k i n s)∧a = .ret (.ay (ρ k) i n s)
theorem AC.w9 {g:FuncId}{args m:List AV}{H D:aj}{nx d:Nat}{R R0:AE->aj->Nat->Prop}(ρ:Nat->Nat)(h:AC P E g m D d R0)
 (hr:args=m.map (AV.r2 ρ))(hl:m.all (AV.l2 d)=true)(T:∀k o,D.get k=some o->k<d∧H.get (ρ k)=some o∧o.dT)
 (hi:∀k k' o o',D.get k=some o->D.get k'=some o'->ρ k=ρ k'->k=k')
 (hq:∀ae H' L,R0 ae H' L->∃F,NX ρ d ae F∧∃H2,tI ρ D H' H H2∧R F H2 nx):AC P E g args H nx R:=by
 refine⟨h.1,fun c w vs r hf hrl=>?_⟩
 have p:∀k,k<d->(⟨fun k=>if k<d then c.f (ρ k) else none,c.aq⟩:Ctx).f k=c.f (ρ k):=fun k u=>if_pos u
 have hbare:(⟨fun k=>if k<d then c.f (ρ k) else none,c.aq⟩:Ctx).bare=c.bare:=rfl
 have hw0:aN E.bS ⟨fun k=>if k<d then c.f (ρ k) else none,c.aq⟩ w D:=by
  refine⟨r.bN,fun k B e=>?_,fun k o e=>?_,fun k k' o o' B V e e' f f' l=>?_,fun g cs e=>?_⟩
  . by_cases u : k < d
    . rw[p k u] at e;exact r.bW _ B e
    grind
  . obtain ⟨M, N, g3⟩ := T k o e
    obtain⟨B,G,b2,X⟩:=r.obj _ _ N;exact⟨B,(p k M).trans G,b2,fM.dT (c:=c) rfl X g3⟩
  . obtain ⟨M, N, _⟩ := T k o e
    obtain⟨g1',g2',_⟩:=T k' o' e';rw[p k M] at f;rw[p k' g1'] at f';exact hi k k' o o' e e' (r.inj _ _ _ _ B V N g2' f f' l)
  . have := r.bS g cs e
    cases this with
    | bm t K U h4=>exact .bm t K U h4
 have hr0:aP ⟨fun k=>if k<d then c.f (ρ k) else none,c.aq⟩ w m vs:=by
  subst hr;exact qB (c:=c) (f:=AV.r2 ρ) (fun y v a b=>sL (c:=c) (c':=⟨fun k=>if k<d then c.f (ρ k) else none,c.aq⟩) (ρ:=ρ) (n:=d) rfl p a b) hl hrl.1 hrl.2
 have I:∀b,Own ⟨fun k=>if k<d then c.f (ρ k) else none,c.aq⟩ D b->∃k O B,D.get k=some O∧H.get (ρ k)=some O∧c.f (ρ k)=some B∧B.b=b:=by
  rintro b ⟨k,o,B,u,S,rfl⟩
  obtain⟨M,N,_⟩:=T k o u;rw[p k M] at S;exact⟨k,o,B,u,N,S,rfl⟩
 have z:∀b,Own ⟨fun k=>if k<d then c.f (ρ k) else none,c.aq⟩ D b->Own c H b:=fun b l=>by
  obtain⟨k,o,B,_,K,U,h4⟩:=I b l;exact⟨ρ k,o,B,K,U,h4⟩
 refine(h.2 _ w vs hw0 (fun k u=>if_neg (Nat.not_lt.2 u)) hr0).mono ?_
 rintro e w' ⟨Q,H',L,ae,q,Y,_,_,A,hR⟩
 obtain⟨F,hfl,H2,Z,hR2⟩:=hq ae H' L hR;have W:∀b,c.aq b->w'.heap[b]? = w.heap[b]?:=fun b l=>q.other b (r.bN b l) fun ho=>r.kQ l (z b ho)
 have hle:c.le ⟨c.f,Q.aq⟩:=⟨fun _ _ e=>e,fun b l=>q.aq b l⟩
 have J:∀{x v},Rel c w x v->Rel ⟨c.f,Q.aq⟩ w' x v:=fun hr=>hr.mono hle W
 have C:∀j o,H2.get j=some o->∃o1,H.get j=some o1:=fun j o e=>by
  rcases Z j o e with⟨t,_⟩|⟨k,O,t,rfl,_⟩
  . grind
  grind
 refine⟨⟨c.f,Q.aq⟩,H2,nx,F,⟨fun _ _=>rfl,fun b l=>q.aq b l,q.os,q.tape,q.output,q.size,fun b l hn=>q.other b l fun ho=>hn (z b ho),fun b l=>?_,fun b l=>?_⟩,
  ⟨Y.bN,fun k B e=>zbJ (r.bW k B e) q.size,fun j o e=>?_,fun k k' o o' B V e e' f f' l=>?_,fun g cs e=>J (r.bS g cs e)⟩,zbm _,hf,?_,hR2⟩
 . rcases q.ez b l with g | g | g
   . grind
   . grind
   omega
 . obtain ⟨j, o, B, e1, e2, rfl⟩ := l
   obtain⟨o1,e3⟩:=C j o e1;exact .inl ⟨j,o1,B,e3,e2,rfl⟩
 . rcases Z j o e with ⟨t, K⟩ | ⟨k, O, t, rfl, K, U⟩
   . obtain ⟨B, G, b2, X⟩ := r.obj j o t
     have hno:¬Own ⟨fun k=>if k<d then c.f (ρ k) else none,c.aq⟩ D B.b:=fun ho=>by
      obtain⟨k,O,V,M,N,g3,g4⟩:=I _ ho;exact K k O M (r.inj _ _ _ _ V B N t g3 G g4)
     refine⟨B,G,fun hi=>?_,X.mono (q.other _ (r.bW _ _ G) hno) J (fun b l=>⟨hle.aq b l,W b l⟩)⟩
     rcases q.ez _ hi with g|g|g
     . grind
     . grind
     . have:=r.bW _ _ G;omega
   . obtain ⟨B, G, b2, X⟩ := Y.obj k o K
     have u:=(T k O t).1;exact⟨B,((q.f k u).trans (p k u)).symm.trans G,b2,fM.dT (c:=Q) rfl X U⟩
 . obtain ⟨o1, e1⟩ := C k o e
   obtain⟨o2,e2⟩:=C k' o' e';exact r.inj _ _ _ _ B V e1 e2 f f' l
 . rcases hfl with ⟨t, rfl⟩ | ⟨k, i, n, s, t, rfl, rfl⟩
   . exact w8 A t
   . cases e <;> first | exact A.elim | skip
     have A:Rel Q w' (.ay k i n s) _:=A;cases A with
     | ay q1 q2 q3 q4 q5 =>
       rw[q.f k t,p k t] at q1;exact(Rel.ay q1 q2 q3 q4 q5:Rel ⟨c.f,Q.aq⟩ w' (.ay (ρ k) i n s) _)
theorem AC.frame {g:FuncId}{args a:List AV}{H c:aj}{nx b:Nat}{R j:AE->aj->Nat->Prop}(ρ:Nat->Nat)(h:AC P E g a c b j)
 (n:args=a.map (AV.r2 ρ))(l:a.all (AV.l2 b)=true)(m:∀k o,c.get k=some o->k<b∧H.get (ρ k)=some o∧o.dT)
 (hi:∀k k' o o',c.get k=some o->c.get k'=some o'->ρ k=ρ k'->k=k')
 (i:∀d H' e,j d H' e->d.flat=true∧∃H2,tI ρ c H' H H2∧R d H2 nx):AC P E g args H nx R:=
 AC.w9 _ h n l m hi fun d H' e f=>⟨d,.inl ⟨(i _ _ _ f).1,rfl⟩,(i _ _ _ f).2⟩
theorem DC.BC {g:FuncId}{args c:List AV}{H:aj}{nx k:Nat}{o:an}{R:AE->aj->Nat->Prop}{p:AE->aj->Nat->Prop}(h:DC P E g c (.put 0 (some o) .nil) 1 p)
 (u:args=c.map (AV.r2 fun _=>k))(v:c.all (AV.l2 1)=true)(C:H.get k=some o)(I:o.dT)
 (t:∀l H' d,p l H' d->∃i n s,l = .ret (.ay 0 i n s)∧∃o',H'.get 0=some o'∧o'.dT∧R (.ret (.ay k i n s)) (.put k (some o') H) nx):DC P E g args H nx R:=by
 have x:∀j f,(Tr.put 0 (some o) Tr.nil:aj).get j=some f->j=0∧f=o:=by
  intro j f e;rw[Tr.get] at e;cases b:beq j 0 with
  | true=>simp_all
  | false=>rw[b] at e;cases e
 obtain⟨l,H',d,y,z⟩:=h;obtain⟨i,n,s,rfl,o',w,r,A⟩:=t l H' d z;refine⟨_,_,nx,AC.w9 (fun _=>k) y u v (fun j f e=>?_) (fun j D f F e G _=>?_) (fun a h m B=>?_),A⟩
 . grind
 . grind
 . obtain ⟨rfl, rfl, rfl⟩ := B
   refine⟨_,.inr ⟨0,i,n,s,Nat.zero_lt_one,rfl,rfl⟩,.put k (some o') H,fun j f e=>?_,rfl,rfl,rfl⟩
   rw[Tr.get] at e;cases b:beq j k with
   | true =>
     rw[b] at e;cases e;exact .inr ⟨0,o,rfl,(zbl b).symm,w,r⟩
   | false =>
     rw[b] at e;refine .inl ⟨e,fun J K _ q=>?_⟩
     subst q
     simp_all
theorem DC.frame {g:FuncId}{args b:List AV}{H d:aj}{nx c:Nat}{R i:AE->aj->Nat->Prop}(ρ:Nat->Nat)(h:DC P E g b d c i)
 (q:args=b.map (AV.r2 ρ))(p:b.all (AV.l2 c)=true)(j:∀k o,d.get k=some o->k<c∧H.get (ρ k)=some o∧o.dT)
 (hi:∀k k' o o',d.get k=some o->d.get k'=some o'->ρ k=ρ k'->k=k')
 (m:∀e H' f,i e H' f->e.flat=true∧∃H2,tI ρ d H' H H2∧R e H2 nx):DC P E g args H nx R:=by
 obtain⟨e,H',f,r,s⟩:=h;obtain⟨t,H2,u,l⟩:=m _ _ _ s;exact⟨e,H2,nx,AC.frame _ r q p j hi (fun a h n j=>by grind),l⟩
theorem DC.ng {g:FuncId}{args a:List AV}{H:aj}{nx k:Nat}{o:an}{R:AE->aj->Nat->Prop}{i:AE->aj->Nat->Prop}(h:DC P E g a (.put 0 (some o) .nil) 1 i)
 (l:args=a.map (AV.r2 fun _=>k))(p:a.all (AV.l2 1)=true)(A:H.get k=some o)(w:o.dT)
 (n:∀f H' c,i f H' c->f.flat=true∧∃o',H'.get 0=some o'∧o'.dT∧R f (.put k (some o') H) nx):DC P E g args H nx R:=by
 have q:∀j d,(Tr.put 0 (some o) Tr.nil:aj).get j=some d->j=0∧d=o:=by
  intro j d e;rw[Tr.get] at e;cases b:beq j 0 with
  | true=>simp_all
  | false=>rw[b] at e;cases e
 refine DC.frame (fun _=>k) h l p (fun j d e=>?_) (fun j x d y e z _=>?_) fun f H' c m=>?_
 . grind
 . grind
 . obtain ⟨t, o', s, u, v⟩ := n f H' c m
   refine⟨t,_,fun j d e=>?_,v⟩
   rw[Tr.get] at e;cases b:beq j k with
   | true =>
     rw[b] at e;cases e;exact .inr ⟨0,o,rfl,(zbl b).symm,s,u⟩
   | false =>
     rw[b] at e;refine .inl ⟨e,fun B C _ r=>?_⟩
     subst r
     simp_all
end Go.Ago
namespace Go.Ago
open List Nat
variable {P:Program} {E:Env}
theorem DC.raise {g:FuncId}{args:List AV}{H:aj}{nx M:Nat}{R R':AE->aj->Nat->Prop}(h:DC P E g args H nx R)(d:∀a H' n,R a H' n->n≤M∧R' a H' M):DC P E g args H nx R':=by
 obtain⟨a,H',e,⟨f,i⟩,k⟩:=h;obtain⟨o,l⟩:=d _ _ _ k;refine⟨a,H',M,⟨f,fun c w p j m b=>(i c w _ j m b).mono ?_⟩,l⟩
 grind
theorem DC.nh {g:FuncId}{args a:List AV}{H:aj}{nx k l:Nat}{o p:an}{R:AE->aj->Nat->Prop}{t:AE->aj->Nat->Prop}(h:DC P E g a (.put 0 (some o) (.put 1 (some p) .nil)) 2 t)
 (w:args=a.map (AV.r2 fun j=>bif beq j 0 then k else l))(B:a.all (AV.l2 2)=true)(i:k≠l)(M:H.get k=some o)(m:H.get l=some p)(L:o.dT)(u:p.dT)
 (x:∀n H' f,t n H' f->n.flat=true∧∃o',H'.get 0=some o'∧H'.get 1=some p∧o'.dT∧R n (.put k (some o') H) nx):DC P E g args H nx R:=by
 have d:∀j c,(Tr.put 0 (some o) (Tr.put 1 (some p) Tr.nil):aj).get j=some c->(j=0∧c=o)∨(j=1∧c=p):=by
  intro j c e;rw[Tr.get] at e;cases b:beq j 0 with
  | true=>simp_all
  | false =>
    rw[b] at e;simp only[zb0] at e;rw[Tr.get] at e;cases b:beq j 1 with
    | true=>simp_all
    | false=>rw[b] at e;cases e
 refine DC.frame (fun j=>bif beq j 0 then k else l) h w B (fun j c e=>?_) (fun j y c z e A q=>?_) fun n H' f C=>?_
 . rcases d j c e with ⟨rfl, rfl⟩ | ⟨rfl, rfl⟩
   . simp_all
   . exact⟨ab,m,u⟩
 . rcases d j c e with ⟨rfl, rfl⟩ | ⟨rfl, rfl⟩ <;> rcases d y z A with ⟨rfl, rfl⟩ | ⟨rfl, rfl⟩
   . rfl
   . exact absurd q i
   . exact absurd q.symm i
   . rfl
 . obtain ⟨D, o', G, s, I, F⟩ := x n H' f C
   refine⟨D,_,fun j c e=>?_,F⟩
   rw[Tr.get] at e;cases b:beq j k with
   | true =>
     rw[b] at e;cases e;exact .inr ⟨0,o,rfl,(zbl b).symm,G,I⟩
   | false =>
     rw[b] at e;simp only[zb0] at e
     by_cases v:j=l
     . subst v
       rw[m] at e;cases e;exact .inr ⟨1,p,rfl,rfl,s,u⟩
     . refine .inl ⟨e, fun J K r q => ?_⟩
       rcases d J K r with⟨rfl,rfl⟩|⟨rfl,rfl⟩
       . simp_all
       . exact v q.symm
end Go.Ago
namespace Go.Ago
open List Nat
variable {P:Program} {E:Env}
theorem DC.forget {g:FuncId}{args:List AV}{H:aj}{nx:Nat}{R R':AE->aj->Nat->Prop}(h:DC P E g args H nx R)
 (q:∀i H' n,R i H' n->∃H2 M,n≤M∧(∀k o,H2.get k=some o->H'.get k=some o)∧R' i H2 M):DC P E g args H nx R':=by
 obtain⟨i,H',r,⟨x,F⟩,t⟩:=h;obtain⟨H2,M,m,j,s⟩:=q _ _ _ t;refine⟨i,H2,M,⟨x,fun c w S u v l=>(F c w _ u v l).mono ?_⟩,s⟩
 rintro e T ⟨z,U,L,K,a,d,G,y,A,rfl,rfl,rfl⟩
 refine⟨z,H2,M,_,⟨a.f,a.aq,a.os,a.tape,a.output,a.size,a.other,a.ez,fun b D=>?_⟩,⟨d.bN,d.bW,fun k o e=>d.obj k o (j k o e),fun k N o O B Q e C=>d.inj k _ o _ B _ (j k o e) (j _ _ C),d.bS⟩,zbu G m,fun k I=>y k (zbu m I),A,rfl,rfl,rfl⟩
 obtain⟨k,o,B,J,p,rfl⟩:=D;exact a.own _ ⟨k,o,B,j k o J,p,rfl⟩
end Go.Ago
namespace Go.Ago
open List Nat
variable {P:Program} {E:Env}
theorem DC.new {nx K0 sz n:Nat}{es:List (List AV)}{g:FuncId}{args args':List AV}{H:aj}{R:AE->aj->Nat->Prop}(z:aM (snap .nil 20) args=some args')
 (h:DC P E g args' .nil 0 (fun o H' _=>o = .ret (.ay K0 0 n sz)∧H'.get K0=some (.arr sz es)))(A:(es.all fun e=>e.all hU)=true)(C:ble (nx+2) 16777216=true)
 (D:R (.ret (.ay nx 0 n sz)) (.put nx (some (.arr sz es)) H) (nx+1)):DC P E g args H nx R:=by
 obtain⟨o,H1,K,⟨W,s⟩,rfl,t⟩:=h;refine⟨_,_,_,⟨W,fun c w u f a l=>?_⟩,D⟩
 have d:=nI (c':=c.bare) z l (fun x v y=>ks f.CK (fun b m=>m) (fun b m=>(lJ m).elim) 20)
 refine(s c.bare w u f.empty (fun _ _=>rfl) d).mono ?_
 rintro e Z ⟨c1,H2,n2,a2,I,J,k3,k4,q,rfl,rfl,rfl⟩
 have L:=zbb C;obtain⟨M,B,G,N,O,F,S⟩:=f.ES (a nx (zbm _)) (by omega:nx+1<2 ^ 24) I J t (fun i e T j x U=>zbr.1 (zbr.1 A e (zby T)) x (zby U))
 refine⟨M,_,_,_,F nx (zbm _),S,le_succ _,fun k hk=>(O k aa).trans (a k aa),?_,rfl,rfl,rfl⟩
 cases e<;>first|exact q.elim|skip
 cases q with
 | ay p V X Y r =>
   rw[G] at p;cases p;exact .ay N V X Y r
end Go.Ago
namespace Go.Ago
open List Nat
variable {P:Program} {E:Env}
theorem DC.Oi {g:FuncId}{args:List AV}{H:aj}{nx:Nat}{R R':AE->aj->Nat->Prop}(h:DC P E g args H nx R)(q:∀a H' n,R a H' n->(∃v,a = .ret v)∧R' (.ret .any) H' n):DC P E g args H nx R':=by
 obtain⟨a,H',d,⟨i,j⟩,k⟩:=h;obtain⟨⟨v,rfl⟩,m⟩:=q _ _ _ k;refine⟨.ret _,H',d,⟨i,fun c w x o p b=>(j c w _ o p b).mono ?_⟩,m⟩
 rintro e y ⟨l,z,A,B,s,r,t,u,f,rfl,rfl,rfl⟩
 refine⟨l,_,_,.ret _,s,r,t,u,?_,rfl,rfl,rfl⟩;cases e<;>first|exact f.elim|exact Rel.any _
end Go.Ago
end
section
namespace Go.Ago
open List Nat
abbrev tD:=FuncId->List AV->aj->Nat->(AE->aj->Nat->Prop)->Prop
abbrev vE:=Nat->AV->List AV->aj->(AV->List (Nat×Option an)->List Nat->Prop)->Prop
abbrev z8:=Code->(AX->Nat->St->Prop)->Nat->St->Prop
section
variable (P:Program) (E:Env) (C:tD) (V:vE) (L:z8)
def Bb (nx:Nat)(f:AV)(args:List AV)(S:St)(e:Option Tmp)(c:Nat->St->Prop)(K:AX->Nat->St->Prop):Prop:=
 match f with
 | .fn (.func g) a h => fL AV.f1 (a ++ args ++ h) fun b => C g b S.heap nx fun k i d => match k with
   | .ret v=>match S with|⟨j,n,_,_⟩=>ko j n e v i (c d)
   | .aU v=>K (.aU v) d (S.put none .any i 0)
 | _=>False
def wN (nm nx:Nat)(o:Oper)(S:St)(a:Nat->St->Prop)(K:AX->Nat->St->Prop):Prop:=
 match S with
 | ⟨b, n, H, x⟩ => cond (cv ⟨b, n, H, x⟩ o.dst) (match o.op with
   | .call { callee := .value f,args,.. }=>Bb C nx (St.ev E ⟨b,n,H,x⟩ f) (args.toList.map (St.ev E ⟨b,n,H,x⟩)) ⟨b,n,H,x⟩ o.dst a K
   | e=>(cf E nm (St.ev E ⟨b,n,H,x⟩) e).h3 H (fun v g=>s_ H (fun h=>ko b n o.dst v h (a nx)) g) (fun v=>v.f1 fun d=>K (.aU d) nx ⟨b,n,H,x⟩)) False
def pS (ops:List Oper)(a:Nat)(K:AX->Nat->St->Prop):List Oper->Nat->Nat->St->Prop
 | [],_,d,S=>K .normal d S
 | o::b,i,d,S=>ou ops S o.guard (wN E C (a+i) d o S (pS ops a K b (i+1)) K)
  (match S with|⟨e,n,H,x⟩=>cond (cv ⟨e,n,H,x⟩ o.dst) (ko e n o.dst (.ao []) H (pS ops a K b (i+1) d)) False)
def Bl (nm:Nat)(o:Oper)(S:St)(a:AV->List (Nat×Option an)->List Nat->Prop):Prop:=
 match S with
 | ⟨c, n, H, x⟩ => cond (cv ⟨c, n, H, x⟩ o.dst) (match o.op with
   | .call { callee := .value f,args,.. }=>(St.ev E ⟨c,n,H,x⟩ f).f1 fun j=>fL AV.f1 (args.toList.map (St.ev E ⟨c,n,H,x⟩)) fun b=>V nm j b H fun v d g=>v.ur false fun e=>a e d g
   | i=>(cf E nm (St.ev E ⟨c,n,H,x⟩) i).cH H (fun v d l=>v.ur false fun e=>a e d l) []) False
def eD (ops:List Oper)(c:Nat)(a:List Nat)(K:St->Prop):List Oper->Nat->St->List (Nat×List Nat×List Nat)->List (Nat×List Nat×List Nat)->Prop
 | [],_,S,_,_=>K S
 | o::d,i,S,e,b=>ou ops S o.guard
  (Bl E V (c + i) o S fun v g f => cond (gJ a i f g e b) (lr S o.dst v g fun h=>match g with
    | []=>eD ops c a K d (i+1) h ((i,f,[])::e) b
    | g=>eD ops c a K d (i+1) h ((i,f,g.map (·.1))::e) ((i,f,g.map (·.1))::b)) False)
  (cond (cv S o.dst) (lr S o.dst (.ao []) [] fun h=>eD ops c a K d (i+1) h ((i,[],[])::e) b) False)
def ew:Code->(AX->Nat->St->Prop)->Nat->St->Prop
 | .skip,K,c,S=>K .normal c S
 | .label _,K,c,S=>K .normal c S
 | .exit i,K,c,S=>K (.exit i) c S
 | .goto l,K,c,S=>K (.goto l) c S
 | .ret,K,c,S=>K .ret c S
 | .region _ f false,K,c,S=>fN (c+f.size) fun d=>pS E C f.toList c K f.toList 0 d S
 | .region _ f true,K,c,S=>cond (iX f.toList) (fN (c+f.size) fun d=>eD E V f.toList c (jv f.toList []) (K .normal d) f.toList 0 S [] []) False
 | .seq a b,K,c,S=>ew a (fun e d h=>match e with | .normal=>ew b K d h|e=>K e d h) c S
 | .cond x t e, K, c, S => match S.ev E x with
   | .bool b=>cond b (ew t K c S) (ew e K c S)
   | _=>False
 | .block id g, K, c, S => ew g (fun e d h => match e with
   | .exit j=>cond (beq j id) (K .normal d h) (K (.exit j) d h)
   | e=>K e d h) c S
 | .loop g,K,c,S=>L g K c S
 | .scope k,K,c,S=>ew k (I4 K) c S
 | .rangeFunc ..,K,c,S=>False
 | .refuse _,K,c,S=>False
end
section
variable {P:Program} {E:Env} {C:tD} {V:vE} {L:z8}
theorem Rk (i:∀g args H nx R,C g args H nx R->DC P E g args H nx R){nx:Nat}{f:AV}{args:List AV}{S:St}{b:Option Tmp}{a:Nat->St->Prop}{K:AX->Nat->St->Prop}(h:Bb C nx f args S b a K):pQ P E nx f args S b a K:=by
 unfold Bb at h;split at h
 . refine (i _ _ _ _ _ (gp (fun _ _ h => AV.gm h) h)).mono fun e l j c => ?_
   cases e with
   | ret v=>exact oP c
   | aU v=>exact c
 grind
theorem RC (i:∀g args H nx R,C g args H nx R->DC P E g args H nx R){nm nx:Nat}{o:Oper}{S:St}{a:Nat->St->Prop}{K:AX->Nat->St->Prop}(h:wN E C nm nx o S a K):pR P E nm nx o S a K:=by
 obtain⟨l,n,H,x⟩:=S;simp only[wN] at h;cases c:cv ⟨l,n,H,x⟩ o.dst with
 | false=>grind
 | true =>
   rw[c] at h;refine⟨c,?_⟩;split at h
   . rename_i f args m b
     rw[b];exact Rk i h
   . have j := Rd.qa h
     have p:=Rd.kf (fun e k=>oP (h0:=H) (x:=x) (vu k)) (fun v d=>AV.gm d) j
     grind
theorem uo (d:∀g args H nx R,C g args H nx R->DC P E g args H nx R){ops:List Oper}{b:Nat}{K:AX->Nat->St->Prop}:∀(a:List Oper) {i nx:Nat} {S:St},pS E C ops b K a i nx S->jx P E ops b K a i nx S
 | [],_,_,_,h=>h
 | o :: a, i, nx, S, h => by
   simp only[pS,ou] at h;simp only[jx,gate];have k:(match S with|⟨j,n,H,x⟩=>cond (cv ⟨j,n,H,x⟩ o.dst) (ko j n o.dst (.ao []) H (pS E C ops b K a (i+1) nx)) False)->(cv S o.dst=true∧jx P E ops b K a (i+1) nx (S.put o.dst (.ao []) S.heap 0)):=by
    intro h;obtain⟨j,n,H,x⟩:=S;dsimp only at h;cases l:cv ⟨j,n,H,x⟩ o.dst with
    | false=>grind
    | true=>rw[l] at h;exact⟨rfl,uo d a (oP h)⟩
   have s:wN E C (b+i) nx o S (pS E C ops b K a (i+1)) K->pR P E (b+i) nx o S (jx P E ops b K a (i+1)) K:=fun h=>by
    obtain⟨l,h⟩:=RC (P:=P) d h;refine⟨l,?_⟩;split at h
    . unfold pQ at h ⊢
      split at h
      . refine DC.mono h fun m u p f => ?_
        cases m with
        | ret v=>exact uo d a f
        | aU v=>exact f
      . refine DY.mono h fun m u p f => ?_
        cases m with
        | ret v=>exact uo d a f
        | aU v=>exact f
      omega
    . exact Rd.kf (fun e t=>uo d a t) (fun _ h=>h) h
   grind
theorem wK (N:∀nm f args H R,V nm f args H R->DV P E nm f args H R){ops:List Oper}{q:Nat}{c:List Nat}{K:St->Prop}{n:Nat}:∀(g:List Oper) {i:Nat} {S:St} {acc r:List (Nat×List Nat×List Nat)},(∀p∈acc,p.2.2≠[]->p∈r)->
 eD E V ops q c K g i S acc r->∃S',K S'∧fW P E ops q c (fun s=>s=S'.at_ n) g i (S.at_ n) acc
 | [],i,S,acc,r,_,h=>⟨S,h,rfl⟩
 | o :: g, i, S, acc, r, Y, h => by
   have Q : (Bl E V (q + i) o S fun v t k => cond (gJ c i k t acc r) (lr S o.dst v t fun S'=>match t with
    | []=>eD E V ops q c K g (i+1) S' ((i,k,[])::acc) r
    | t=>eD E V ops q c K g (i+1) S' ((i,k,t.map (·.1))::acc) ((i,k,t.map (·.1))::r)) False)->
    ∃S',K S'∧mY P E (q+i) o (S.at_ n) fun d=>jH c i d acc=true∧fW P E ops q c (fun s=>s=S'.at_ n) g (i+1) ((S.at_ n).app o d) ((i,d.rds,d.keys)::acc):=by
    intro h;have O : ∀ v t k, (cond (gJ c i k t acc r) (lr S o.dst v t fun S'=>match t with
     | []=>eD E V ops q c K g (i+1) S' ((i,k,[])::acc) r
     | t=>eD E V ops q c K g (i+1) S' ((i,k,t.map (·.1))::acc) ((i,k,t.map (·.1))::r)) False)->
     ∃S',K S'∧jH c i ⟨v,t,k⟩ acc=true∧fW P E ops q c (fun s=>s=S'.at_ n) g (i+1) ((S.at_ n).app o ⟨v,t,k⟩) ((i,k,t.map (·.1))::acc):=by
     intro v t k h;cases U:gJ c i k t acc r with
     | false=>grind
     | true =>
       rw[U] at h;simp only[zbN] at h;obtain⟨S1,B,J⟩:=vS (n:=n) (rds:=k) h;rw[J];cases t with
       | nil =>
         dsimp only at B;obtain ⟨S', u, w⟩ := wK N g (fun p Q M=>by
          grind) B
         exact⟨S',u,wB Y v U,w⟩
       | cons a t =>
         dsimp only at B;obtain ⟨S', u, w⟩ := wK N g (fun p Q M=>by
          grind) B
         exact⟨S',u,wB Y v U,w⟩
    obtain⟨W,m,H,x⟩:=S;simp only[Bl] at h;cases F:cv ⟨W,m,H,x⟩ o.dst with
    | false=>grind
    | true =>
      rw[F] at h;simp only[zbN] at h;unfold mY;split at h
      . rename_i f args ts A
        have h:=gp (fun _ _ h=>AV.gm h) (AV.gm h)
        rcases N _ _ _ _ _ h with⟨v,k,z,h⟩|⟨v,t,z,h⟩|⟨v,k,t,z,h⟩
        . obtain ⟨S', u, w, G⟩ := O v [] k (AV.oo h)
          refine⟨S',u,F,?_⟩;rw[A];exact .inl ⟨v,k,z,w,G⟩
        . obtain ⟨S', u, w, G⟩ := O v t [] (AV.oo h)
          refine⟨S',u,F,?_⟩;rw[A];exact .inr (.inl ⟨v,t,z,w,G⟩)
        . obtain ⟨S', u, w, G⟩ := O v t k (AV.oo h)
          refine⟨S',u,F,?_⟩;rw[A];exact .inr (.inr ⟨v,k,t,z,w,G⟩)
      . rename_i A
        obtain⟨e,l,B,J⟩:=Rd.qd (Rd.ov h);obtain⟨S',u,w,G⟩:=O e.val e.up l (AV.oo B);refine⟨S',u,F,?_⟩;have:=Rd.oz (K':=fun y l=>jH c i ⟨y.val,y.up,l⟩ acc=true∧fW P E ops q c (fun s=>s=S'.at_ n) g (i+1) (((⟨W,m,H,x⟩:St).at_ n).app o ⟨y.val,y.up,l⟩) ((i,l,y.up.map (·.1))::acc)) (fun e' l' he=>by grind) J
        split
        . grind
        . exact this
   have hq:cond (cv S o.dst) (lr S o.dst (.ao []) [] fun S'=>eD E V ops q c K g (i+1) S' ((i,[],[])::acc) r) False->
    ∃S',K S'∧cv S o.dst=true∧fW P E ops q c (fun s=>s=S'.at_ n) g (i+1) ((S.at_ n).app o ⟨.ao [],[],[]⟩) ((i,[],[])::acc):=by
    intro h;cases F:cv S o.dst with
    | false=>grind
    | true =>
      rw[F] at h;simp only[zbN] at h;obtain⟨S1,B,J⟩:=vS (n:=n) (rds:=[]) h;rw[J];obtain ⟨S', u, w⟩ := wK N g (fun p Q M=>by
       grind) B
      exact⟨S',u,rfl,w⟩
   have T:∀j b,gO ops (S.at_ n) j b=gO ops S j b:=fun _ _=>rfl
   have I:cv (S.at_ n) o.dst=cv S o.dst:=rfl;simp only[eD,ou] at h;simp only[fW,gate,T,I]
   grind
theorem om (F:bZ P E)(q:P.follows .mixedOrders=true)(O:∀g args H nx R,C g args H nx R->DC P E g args H nx R)(T:∀nm f args H R,V nm f args H R->DV P E nm f args H R)(N:∀z K nx S,L z K nx S->DW P E false nx (.loop z) K S) :
 ∀(code:Code) {K:AX->Nat->St->Prop} {nx:Nat} {S:St},ew E C V L code K nx S->DW P E false nx code K S
 | .skip,K,nx,S,h=>DW.kR F (code := .skip) h
 | .label l,K,nx,S,h=>DW.kR F (code := .label l) h
 | .exit i,K,nx,S,h=>DW.kR F (code := .exit i) h
 | .goto l,K,nx,S,h=>DW.kR F (code := .goto l) h
 | .ret,K,nx,S,h=>DW.kR F (code := .ret) h
 | .region id o false,K,nx,S,h=>DW.kR F (code := .region id o false) (uo O o.toList (rN h))
 | .region _ o true, K, nx, S, h => by
   simp only[ew] at h;cases hd:iX o.toList with
   | false=>grind
   | true =>
     rw[hd] at h
     replace h:eD E V o.toList nx (jv o.toList []) (K .normal (nx+o.size)) o.toList 0 S [] []:=rN (k:=fun d=>eD E V o.toList nx (jv o.toList []) (K .normal d) o.toList 0 S [] []) h
     obtain⟨A,D,u⟩:=wK T (n:=nx+o.size) o.toList (fun p hp=>by cases hp) h
     obtain⟨G,J⟩:=Gn hd;exact⟨.normal,nx+o.size,A,SW.draw F q G J (t_ (fun s J=>⟨rfl,J⟩) o.toList u),D⟩
 | .seq x y, K, nx, S, h => by
   obtain⟨I,d,A,D,u⟩:=om F q O T N x h;cases I with
   | normal =>
     obtain⟨ax2,nx2,S2,Z,Y⟩:=om F q O T N y u;refine⟨ax2,nx2,S2,SW.seq (D.mono fun e s G=>?_),Y⟩
     grind
   | exit i=>exact⟨_,d,A,SW.seq (D.mono fun e s G=>by grind),u⟩
   | goto i=>exact⟨_,d,A,SW.seq (D.mono fun e s G=>by grind),u⟩
   | ret=>exact⟨_,d,A,SW.seq (D.mono fun e s G=>by grind),u⟩
   | aU v=>exact⟨_,d,A,SW.seq (D.mono fun e s G=>by grind),u⟩
 | .cond x t e, K, nx, S, h => by
   simp only[ew] at h;cases hx:S.ev E x<;>rw[hx] at h<;>first|exact h.elim|skip
   rename_i b;cases b with
   | true =>
     obtain⟨I,d,A,Z,Y⟩:=om F q O T N t h;refine⟨I,d,A,fun r Q m hm c a w J=>?_,Y⟩
     have U:=J.ev x;rw[show(S.at_ nx).ev E x = .bool true from hx] at U
     generalize hv:a.eval x=v at U
     cases U;exact wpIn_cond hv (Z r Q m hm c a w J)
   | false =>
     obtain⟨I,d,A,Z,Y⟩:=om F q O T N e h;refine⟨I,d,A,fun r Q m hm c a w J=>?_,Y⟩
     have U:=J.ev x;rw[show(S.at_ nx).ev E x = .bool false from hx] at U
     generalize hv:a.eval x=v at U
     cases U;exact wpIn_cond hv (Z r Q m hm c a w J)
 | .block id z, K, nx, S, h => by
   obtain⟨I,d,A,D,u⟩:=om F q O T N z h;cases I with
   | exit j =>
     by_cases hj:j=id
     . subst hj
       dsimp only at u;rw[show beq j j=true by simp] at u
       exact⟨.normal,d,A,SW.block (D.mono fun e s G=>by grind),u⟩
     . dsimp only at u
       rw[show beq j id=false by
        cases e:beq j id with
        | false=>rfl
        | true=>simp_all] at u
       exact⟨_,d,A,SW.block (D.mono fun e s G=>by grind),u⟩
   | normal=>exact⟨_,d,A,SW.block (D.mono fun e s G=>by grind),u⟩
   | goto i=>exact⟨_,d,A,SW.block (D.mono fun e s G=>by grind),u⟩
   | ret=>exact⟨_,d,A,SW.block (D.mono fun e s G=>by grind),u⟩
   | aU v=>exact⟨_,d,A,SW.block (D.mono fun e s G=>by grind),u⟩
 | .loop z,K,nx,S,h=>N z K nx S h
 | .scope code, K, nx, S, h => by
   obtain⟨I,d,A,D,u⟩:=om F q O T N code h;refine⟨I,d,A,SW.scope (D.mono fun a s hh=>?_),?_⟩
   . obtain ⟨rfl, rfl⟩ := hh
     cases a<;>first|exact u.elim|exact⟨rfl,rfl⟩
   . cases I<;>first|exact u.elim|exact u
 | .rangeFunc ..,K,nx,S,h=>h.elim
 | .refuse _,K,nx,S,h=>h.elim
end
end Go.Ago
end
namespace Go.Ago
open Go.Proofs List Nat Tryz
attribute [local irreducible] bA bw aV bp bG wr aZ bF comp DC DP DW DV
def fu (nm sz:Nat)(rows:List (List AV)):AV:=match rows with
 | [] => .ai
 | _::a => .ay nm 0 (a.length+1) sz
def fq (nm sz:Nat)(rows:List (List AV)):List (Nat×an):=match rows with
 | []=>[]
 | r::a=>[(nm,.arr sz (r::a))]
theorem dX {k k' i b n a s c:Nat}(e:k=k')(f:i=b)(g:n=a)(d:s=c):AV.ay k i n s=AV.ay k' b a c:=by grind
theorem e_ {s b:Nat}{e a:List (List AV)}(d:s=b)(c:e=a):an.arr s e=an.arr b a:=by grind
theorem eP (B m:Nat){i len c b a:Nat}(e:i+len≤c)(f:b=1)(g:a=B)(h:len≤m)(d:(m+1) * (B+1)≤140737488355328) :
 (ble (i+len) c && ble ((len+b) * (a+1)) 140737488355328)=true:=by
 subst f;subst g;rw[zbs e,zbs (zbu (zbx _ (succ_le_succ h)) d)];rfl
theorem gM {α:Type}{f:α->List AV}{ρ:Nat->Nat}(c:∀x,(f x).map (AV.r1 ρ)=f x){y t:α}{acc:List α}{a:List (List AV)}(d:a=[f t]){n:Nat}(h:n=acc.length+1) :
 List.take n (List.drop 0 (f y::acc.map f))++a=(f y::(acc++[t]).map f).map (List.map (AV.r1 ρ)):=by
 have b:List.take acc.length _=acc.map f:=zbj ag
 simp_all
theorem c_ {α:Type}{f:α->List AV}{n sz:Nat}(a:∀x,(f x).all (AV.l1 n)=true){y:α}{acc:List α}:an.lt n (.arr sz (f y::acc.map f)):=by
 show(List.all _ _)=true;simp[a]
theorem sn {α:Type}{f:α->Option α}:∀{l:List α},(∀x∈l,f x=some x)->aM f l=some l
 | [],_=>rfl
 | x :: l, h => by
   simp[aM,h x _,sn (l:=l) fun y b=>h y (by simp_all)]
theorem gW {α:Type}{f:α->List AV}{H:aj}{k sz n:Nat}{y:α}{acc:List α}(b:∀x,aM (snap H n) (f x)=some (f x))(c:H.get k=some (.arr sz (f y::acc.map f))) :
 snap H (n+1) (.ay k 0 ((acc.map f).length+1) sz)=some (.ak sz (f y::acc.map f)):=by
 have d:aM (aM (snap H n)) (f y::acc.map f)=some _:=sn (by simp[b])
 have e:List.take ((acc.map f).length+1) (List.drop 0 (f y::acc.map f))=f y::acc.map f:=by grind
 have a:(sz == sz && ble (0+((acc.map f).length+1)) (f y::acc.map f).length)=true:=ag;simp only[snap,c,a,e,d]
theorem vm {α:Type}{f:α->List AV}{H:aj}{k sz:Nat}{y:α}{acc:List α}(b:∀x,aM (snap H 19) (f x)=some (f x))(a:H.get k=some (.arr sz (f y::acc.map f))) :
 snap H 20 (.ay k 0 ((acc.map f).length+1) sz)=some (.ak sz (f y::acc.map f)):=gW b a
end Go.Ago
section
namespace Go.Ago
open List Nat
section
variable {P:Program} {E:Env} {c:Ctx} {w:World}
theorem aN.only {G:eZ}{H:aj}(h:aN G c w H){nm:Nat}{o:an}(f:H.get nm=some o):aN G c w (.put nm (some o) .nil):=by
 have d:∀j a,(Tr.put nm (some o) Tr.nil).get j=some a->j=nm∧a=o:=by
  intro j a e;rw[Tr.get] at e;cases b:beq j nm with
  | true=>simp_all
  | false=>rw[b] at e;cases e
 refine⟨h.bN,h.bW,fun k a e=>?_,fun k i a l B m e g _ _ _=>?_,h.bS⟩
 . obtain ⟨rfl, rfl⟩ := d k _ e
   exact h.obj _ _ f
 grind
def fC (nm:Nat)(o:an)(x y:AV):Prop:=y=x∨snap (.put nm (some o) .nil) 20 x=some y
def iu (nm:Nat)(o:an)(a b:an):Prop:=
 b=a∨∃h g d,a = .arr h g∧b = .arr h d∧d.length≤g.length∧∀(i:Nat) f,d[i]? = some f->∃e,g[i]? = some e∧f.length=e.length∧∀(j:Nat) y,f[j]? = some y->∃x,e[j]? = some x∧fC nm o x y
theorem dq.freeze {m:Nat}{S S':St}(nm:Nat)(o:an)(A:S.heap.get nm=some o)(U:S'.bL=S.bL)(hx:S'.next=S.next)(T:∀t y,S'.bu.get t=some y->∃x,S.bu.get t=some x∧fC nm o x y)
 (C:∀k b,S'.heap.get k=some b->k≠nm∧∃a,S.heap.get k=some a∧iu nm o a b):dq P E m S S':=by
 intro c a w h;obtain⟨B,L,b2,b3⟩:=h.bC.obj nm o A;have r:c.le ⟨c.f,fun b=>c.aq b∨b=B.b⟩:=⟨fun _ _ e=>e,fun _ d => .inl d⟩
 have l:∀{x v},Rel c w x v->Rel ⟨c.f,fun b=>c.aq b∨b=B.b⟩ w x v:=fun H=>H.mono r (fun _ _=>rfl)
 have J:∀{x y v},fC nm o x y->Rel c w x v->Rel ⟨c.f,fun b=>c.aq b∨b=B.b⟩ w y v:=by
  rintro x y v (rfl|hy) H
  . grind
  . refine (ks (h.bC.only A) (I := fun b => c.aq b ∨ b = B.b) (fun b d => .inl d) (fun b d => ?_) 20 H hy).mono ⟨fun _ _ e => (by cases e), fun _ d => d⟩ (fun _ _ => rfl)
    obtain⟨k,F,p,j,s,rfl⟩:=d;rw[Tr.get] at j;cases b:beq k nm with
    | true =>
      simp_all
    | false=>rw[b] at j;cases j
 have u:Own c S.heap B.b:=⟨nm,o,B,A,L,rfl⟩;refine⟨⟨c.f,fun b=>c.aq b∨b=B.b⟩,fun _ _=>rfl,fun b d => .inl d,fun b d=>?_,?_,?_⟩
 . grind
 . rintro b ⟨k, F, p, j, s, rfl⟩
   obtain⟨_,q,e3,_⟩:=C k F j;exact⟨k,q,p,e3,s,rfl⟩
 . refine ⟨h.size.trans U.symm, fun t y e => ?_, h.defers.mono (zbm _) (fun D _ h1 M => ⟨fun n => ?_, M⟩), ⟨fun b d => ?_, h.bC.bW, fun k b e => ?_, fun k V F W p X e Y f Z d => ?_, fun g cs e => l (h.bC.bS g cs e)⟩, fun k hk => h.fresh k aa⟩
   . obtain ⟨x, g1, g2⟩ := T t y e
     obtain⟨v,j,s⟩:=h.bu t x g1
     grind
   . rcases n with n | rfl
     . grind
     . exact h.bC.xN M u
   . rcases d with d | rfl
     . exact h.bC.bN b d
     . exact h.bC.bW _ _ L
   . obtain ⟨G, q, j, N⟩ := C k b e
     obtain⟨p,O,c2,Q⟩:=h.bC.obj k q j;refine⟨p,O,fun n=>?_,?_⟩
     . rcases n with n | n
       . grind
       . exact G (h.bC.inj _ _ _ _ p B j A O L n)
     . rcases N with rfl | ⟨sz, es, fs, rfl, rfl, z, hfs⟩
       . exact Q.mono rfl l (fun b d=>⟨r.aq b d,rfl⟩)
       . obtain ⟨K, t, q, R, a3, a4, a5⟩ := Q
         refine⟨K,t,q,R,a3,zbu (zbx sz z) a4,fun i f N=>?_⟩
         grind
   . obtain ⟨_, q, j, _⟩ := C k F e
     obtain⟨_,R,s,_⟩:=C V W Y;exact h.bC.inj _ _ _ _ p X j s f Z d
theorem AC.pZ {g:FuncId}{nm i len sz:Nat}{j:List AV}{H:aj}{nx:Nat}{R:AE->aj->Nat->Prop}{o:an}{y:AV}(t:H.get nm=some o)(U:snap (.put nm (some o) .nil) 20 (.ay nm i len sz)=some y)
 (h:AC P E g (y::j) (.put nm none H) nx R):AC P E g (.ay nm i len sz::j) H nx R:=by
 refine⟨h.1,fun c w M m V D=>?_⟩
 obtain⟨B,J,b2,b3⟩:=m.obj nm o t;have r:c.le ⟨c.f,fun b=>c.aq b∨b=B.b⟩:=⟨fun _ _ e=>e,fun _ a => .inl a⟩
 have q:∀{x v},Rel c w x v->Rel ⟨c.f,fun b=>c.aq b∨b=B.b⟩ w x v:=fun Z=>Z.mono r (fun _ _=>rfl)
 have N:Own c H B.b:=⟨nm,o,B,t,J,rfl⟩;have d:∀k b,(Tr.put nm none H:aj).get k=some b->k≠nm∧H.get k=some b:=by
  intro k b e;rw[Tr.get] at e;cases a:beq k nm with
  | true=>grind
  | false=>rw[a] at e;exact⟨(fun A=>by simp_all),e⟩
 have K:aN E.bS ⟨c.f,fun b=>c.aq b∨b=B.b⟩ w (.put nm none H):=by
  refine⟨fun b a=>?_,m.bW,fun k b e=>?_,fun k k' C o2 s B2 e Q f S a=>m.inj _ _ _ _ s B2 (d _ _ e).2 (d _ _ Q).2 f S a,fun g T e=>q (m.bS g T e)⟩
  . rcases a with a | rfl
    . exact m.bN b a
    . exact m.bW _ _ J
  . obtain ⟨F, n⟩ := d k b e
    obtain⟨s,L,c2,Y⟩:=m.obj k b n;refine⟨s,L,fun z=>?_,Y.mono rfl q (fun b a=>⟨r.aq b a,rfl⟩)⟩
    rcases z with z|z
    . grind
    . exact F (m.inj _ _ _ _ s B n t L J z)
 have u:aP ⟨c.f,fun b=>c.aq b∨b=B.b⟩ w (y::j) M:=by
  obtain⟨v,us,rfl,h1,h2⟩:=D.dP;refine .cons ((ks (m.only t) (I:=fun b=>c.aq b∨b=B.b) (fun b a => .inl a) (fun b a=>?_) 20 h1 U).mono ⟨fun _ _ e=>(by cases e),fun _ a=>a⟩ (fun _ _=>rfl)) (h2.mono r (fun _ _=>rfl))
  obtain⟨k,C,s,n,A,rfl⟩:=a;rw[Tr.get] at n;cases b:beq k nm with
  | true =>
    simp_all
  | false=>rw[b] at n;cases n
 have p:∀b,Own ⟨c.f,fun b=>c.aq b∨b=B.b⟩ (.put nm none H) b->Own c H b:=by
  rintro b ⟨k,C,s,n,A,rfl⟩
  exact⟨k,C,s,(d _ _ n).2,A,rfl⟩
 refine(h.2 _ w M K V u).mono ?_
 rintro e w' ⟨X,H',G,W,l,k2,k3,k4,k5,k6⟩
 refine⟨X,H',G,W,⟨l.f,fun b a=>l.aq b (.inl a),l.os,l.tape,l.output,l.size,fun b a O=>l.other b a fun t=>O (p b t),fun b a=>?_,fun b a=>(l.own b a).imp (p b) id⟩,k2,k3,k4,k5,k6⟩
 rcases l.ez b a with(g|rfl)|g|g
 . grind
 . grind
 . grind
 omega
theorem DC.pZ {g:FuncId}{nm i len sz:Nat}{a:List AV}{H:aj}{nx:Nat}{R:AE->aj->Nat->Prop}{o:an}{y:AV}(k:H.get nm=some o)(e:snap (.put nm (some o) .nil) 20 (.ay nm i len sz)=some y)
 (h:DC P E g (y::a) (.put nm none H) nx R):DC P E g (.ay nm i len sz::a) H nx R:=by
 obtain⟨f,j,b,l,d⟩:=h;exact⟨f,j,b,l.pZ k e,d⟩
end
end Go.Ago
end
section
namespace Go.Ago
open List Nat
section
variable {c c':Ctx} {w:World} {n:Nat}
theorem XE:∀y:AV,y.r0 (fun k=>k)=y:=fun y=>by cases y<;>rfl
theorem xI {α:Type}{f:α->α}(h:∀x,f x=x)(l:List α):l.map f=l:=by rw[show f=id from funext h,map_id]
theorem Dd:∀y:AV,y.ra (fun k=>k)=y:=fun y=>by
 cases y<;>first|rfl|simp[AV.ra];rw[xI XE]
theorem u3:∀y:AV,y.r1 (fun k=>k)=y:=fun y=>by
 cases y<;>first|(simp[AV.r1];rw[Dd])|(simp only[AV.r1];rw[xI Dd,xI Dd])
theorem XF:∀y:AV,y.r2 (fun k=>k)=y
 | .ao _=>by simp[AV.r2];rw[xI u3]
 | .fn f _ _=>u3 (.fn f _ _)
 | .cG t v=>u3 (.cG t v)
 | .agg _=>u3 (.agg _)
 | .any | .bool _ | .int _ _ | .str _ | .dI | .ptr _ _ _ | .bm _ | .ai | .cW | .ay _ _ _ _ | .ak _ _ | .fS | .fZ _ | .cX _ | .cK _ | .cY | .eI=>rfl
theorem Dc (hi:c'.aq=c.aq)(b:∀k,k<n->c'.f k=c.f k){y:AV}{v:Value}(a:y.l1 n=true)(h:Rel c w y v):Rel c' w y v:=sK hi b a (by rw[u3];exact h)
theorem yp (hi:c'.aq=c.aq)(b:∀k,k<n->c'.f k=c.f k){y:AV}{v:Value}(a:y.l2 n=true)(h:Rel c w y v):Rel c' w y v:=sL hi b a (by rw[XF];exact h)
theorem fM.same (hi:c'.aq=c.aq)(y:∀k,k<n->c'.f k=c.f k){B:fo}{o:an}(A:o.lt n)(h:fM c w B o):fM c' w B o:=by
 cases o with
 | dJ s Q=>exact h
 | lp T G S N F =>
   obtain⟨r,g,d,m,l,q,p,C⟩:=h;refine⟨r,g,d,m,l,q,p,fun t x E=>?_⟩
   obtain⟨v,P,K⟩:=C t x E;exact⟨v,P,yp hi y (zbr.1 A (t,x) E) K⟩
 | mp H =>
   obtain⟨z,b,a,d,m,l,f,q,p,C⟩:=h;exact⟨z,b,a,d,m,l,f,q,p,fun k x e=>Dc hi y (zbr.1 A _ e) (C k x e)⟩
 | cm M H =>
   obtain⟨z,r,b,a,seen,d,m,l⟩:=h;have X:c'.bare=c.bare:=by unfold Ctx.bare;rw[hi]
   exact⟨z,r,b,a,seen,d,by grind,by grind⟩
 | arr U H =>
   obtain⟨arr,t,d,m,l,q,p⟩:=h;refine⟨arr,t,d,m,l,q,fun i e D=>⟨(p i e D).1,fun j x I=>?_⟩⟩
   obtain⟨v,R,O⟩:=(p i e D).2 j x I;exact⟨v,R,Dc hi y (zbr.1 (zbr.1 A e (zby D)) x (zby I)) O⟩
end
variable {P:Program} {E:Env}
def AE.l2 (n:Nat):AE->Prop
 | .ret v=>v.l2 n=true
 | .aU v=>v.l2 n=true
theorem AC.Sv {g:FuncId}{args:List AV}{H C:aj}{nx a:Nat}{R R0:AE->aj->Nat->Prop}(h:AC P E g args C a R0)(hl:args.all (AV.l2 a)=true)(hh:∀k o,C.get k=some o->k<a∧H.get k=some o∧o.lt a)
 (hq:∀L H' K,R0 L H' K->AE.l2 a L∧∃H2,(∀j o,H2.get j=some o->(H.get j=some o∧C.get j=none)∨∃N,C.get j=some N∧H'.get j=some o∧o.lt a)∧R L H2 nx):AC P E g args H nx R:=by
 refine⟨h.1,fun c w vs n hf W=>?_⟩
 have m:∀k,k<a->(⟨fun k=>if k<a then c.f k else none,c.aq⟩:Ctx).f k=c.f k:=fun k r=>if_pos r
 have hw0:aN E.bS ⟨fun k=>if k<a then c.f k else none,c.aq⟩ w C:=by
  refine⟨n.bN,fun k B e=>?_,fun k o e=>?_,fun k k' o o' B Z e e' f f' d=>?_,fun g cs e=>?_⟩
  . by_cases r : k < a
    . rw[m k r] at e;exact n.bW _ B e
    grind
  . obtain ⟨O, M, g3⟩ := hh k o e
    obtain⟨B,F,b2,V⟩:=n.obj _ _ M;exact⟨B,(m k O).trans F,b2,fM.same (c:=c) (c':=⟨fun k=>if k<a then c.f k else none,c.aq⟩) rfl m g3 V⟩
  . obtain ⟨O, M, _⟩ := hh k o e
    obtain⟨g1',g2',_⟩:=hh k' o' e';rw[m k O] at f;rw[m k' g1'] at f';exact n.inj _ _ _ _ B Z M g2' f f' d
  . have := n.bS g cs e
    cases this with
    | bm D J Q h4=>exact .bm D J Q h4
 have hr0:aP ⟨fun k=>if k<a then c.f k else none,c.aq⟩ w args vs:=⟨W.1,fun i x v e e'=>yp (c:=c) (c':=⟨fun k=>if k<a then c.f k else none,c.aq⟩) rfl m (zbr.1 hl x (zby e)) (W.2 i x v e e')⟩
 have G:∀b,Own ⟨fun k=>if k<a then c.f k else none,c.aq⟩ C b->∃k N B,C.get k=some N∧H.get k=some N∧c.f k=some B∧B.b=b:=by
  rintro b ⟨k,o,B,r,X,rfl⟩
  obtain⟨O,M,_⟩:=hh k o r;rw[m k O] at X;exact⟨k,o,B,r,M,X,rfl⟩
 have y:∀b,Own ⟨fun k=>if k<a then c.f k else none,c.aq⟩ C b->Own c H b:=fun b d=>by
  obtain⟨k,o,B,_,J,Q,h4⟩:=G b d;exact⟨k,o,B,J,Q,h4⟩
 refine(h.2 _ w vs hw0 (fun k r=>if_neg (Nat.not_lt.2 r)) hr0).mono ?_
 rintro e w' ⟨z,H',K,L,p,Y,_,_,T,hR⟩
 obtain⟨U,H2,hH2,hR2⟩:=hq L H' K hR;have S:∀b,c.aq b->w'.heap[b]? = w.heap[b]?:=fun b d=>p.other b (n.bN b d) fun ho=>n.kQ d (y b ho)
 have hle:c.le ⟨c.f,z.aq⟩:=⟨fun _ _ e=>e,fun b d=>p.aq b d⟩
 have I:∀{x v},Rel c w x v->Rel ⟨c.f,z.aq⟩ w' x v:=fun hr=>hr.mono hle S
 have l:∀k,k<a->(⟨c.f,z.aq⟩:Ctx).f k=z.f k:=fun k r=>((p.f k r).trans (m k r)).symm
 have A:∀j o,H2.get j=some o->∃o1,H.get j=some o1:=fun j o e=>by
  grind
 refine⟨⟨c.f,z.aq⟩,H2,nx,L,⟨fun _ _=>rfl,fun b d=>p.aq b d,p.os,p.tape,p.output,p.size,fun b d hn=>p.other b d fun ho=>hn (y b ho),fun b d=>?_,fun b d=>?_⟩,
  ⟨Y.bN,fun k B e=>zbJ (n.bW k B e) p.size,fun j o e=>?_,fun k k' o o' B Z e e' f f' d=>?_,fun g cs e=>I (n.bS g cs e)⟩,zbm _,hf,?_,hR2⟩
 . rcases p.ez b d with g | g | g
   . grind
   . grind
   omega
 . obtain ⟨j, o, B, e1, e2, rfl⟩ := d
   obtain⟨o1,e3⟩:=A j o e1;exact .inl ⟨j,o1,B,e3,e2,rfl⟩
 . rcases hH2 j o e with ⟨D, J⟩ | ⟨N, D, J, Q⟩
   . obtain ⟨B, F, b2, V⟩ := n.obj j o D
     have hno:¬Own ⟨fun k=>if k<a then c.f k else none,c.aq⟩ C B.b:=fun ho=>by
      obtain⟨k,N,Z,O,M,g3,g4⟩:=G _ ho;have:=n.inj _ _ _ _ Z B M D g3 F g4
      grind
     refine⟨B,F,fun hi=>?_,V.mono (p.other _ (n.bW _ _ F) hno) I (fun b d=>⟨hle.aq b d,S b d⟩)⟩
     rcases p.ez _ hi with g|g|g
     . grind
     . grind
     . have:=n.bW _ _ F;omega
   . obtain ⟨B, F, b2, V⟩ := Y.obj j o J
     have r:=(hh j N D).1;exact⟨B,(l j r).trans F,b2,fM.same (c:=z) (c':=⟨c.f,z.aq⟩) rfl l Q V⟩
 . obtain ⟨o1, e1⟩ := A k o e
   obtain⟨o2,e2⟩:=A k' o' e';exact n.inj _ _ _ _ B Z e1 e2 f f' d
 . cases L with
   | ret v =>
     cases e with
     | returned u=>exact yp (c:=z) (c':=⟨c.f,z.aq⟩) rfl l U T
     | panicked _=>assumption
     | outgrown=>assumption
   | aU v =>
     cases e with
     | returned u=>assumption
     | panicked _ =>
       obtain⟨u,D,J⟩:=T;exact⟨u,D,yp (c:=z) (c':=⟨c.f,z.aq⟩) rfl l U J⟩
     | outgrown=>assumption
def Ad (b H:aj)(a:Nat):Prop:=∀k o,b.get k=some o->k<a∧H.get k=some o∧o.lt a
theorem AC.qV {g:FuncId}{args:List AV}{H d:aj}{nx a k:Nat}{o':an}{v:AV}{m:AE->aj->Nat->Prop}(h:AC P E g args d a m)(s:args.all (AV.l2 a)=true)(l:Ad d H a)(p:ble (k+2) 16777216=true)
 (q:∀c H' b,m c H' b->c = .ret v∧v.l2 a=true∧(∃o,d.get k=some o)∧H'.get k=some o'∧o'.lt a∧∀j o,j≠k->d.get j=some o->H'.get j=some o) :
 AC P E g args H nx fun c H2 i=>c = .ret v∧H2=bo.dK H [(k,some o')]∧i=nx:=by
 have f:k+1<2 ^ 24:=by have:=zbb p;omega
 refine AC.Sv h s l fun c H' b n=>?_
 obtain⟨rfl,t,⟨A,B⟩,C,y,z⟩:=q c H' b n;refine⟨t,_,fun j o e=>?_,rfl,rfl,rfl⟩
 have e:(H.set 24 k (some o')).get j=some o:=e;rw[Tr.eQ 24 k _ H j f] at e
 by_cases r:j=k
 . grind
 . rw [if_neg r] at e
   cases u:d.get j with
   | none=>grind
   | some w =>
     obtain⟨D,F,x⟩:=l j w u
     grind
theorem DC.qV {g:FuncId}{args:List AV}{H d:aj}{nx b k:Nat}{R f:AE->aj->Nat->Prop}(h:DC P E g args d b f)(p:args.all (AV.l2 b)=true)(r:Ad d H b)(l:ble (k+2) 16777216=true)
 (n:∀e H' c,f e H' c->∃v o',e = .ret v∧v.l2 b=true∧(∃o,d.get k=some o)∧H'.get k=some o'∧o'.lt b∧(∀j o,j≠k->d.get j=some o->H'.get j=some o)∧R (.ret v) (bo.dK H [(k,some o')]) nx) :
 DC P E g args H nx R:=by
 obtain⟨e,H',c,i,q⟩:=h;obtain⟨v,o',rfl,z,u,w,x,y,s⟩:=n _ _ _ q;refine⟨_,_,_,AC.qV i p r l fun a A m t=>?_,s⟩
 grind
theorem DV.qV {nm:Nat}{g:FuncId}{b cap args:List AV}{H f:aj}{c k:Nat}{R:AV->List (Nat×Option an)->List Nat->Prop}{l:AE->aj->Nat->Prop}(rds:List Nat)(h:DC P E g (b++args++cap) f c l)(r:(b++args++cap).all (AV.l2 c)=true)(s:Ad f H c)(C:∀j o,f.get j=some o->j∈rds)(p:ble (k+2) 16777216=true)
 (n:∀i H' d,l i H' d->∃v o',i = .ret v∧v.l2 c=true∧(∃o,f.get k=some o)∧H'.get k=some o'∧o'.lt c∧(∀j o,j≠k->f.get j=some o->H'.get j=some o)∧R v [(k,some o')] rds) :
 DV P E nm (.fn (.func g) b cap) args H R:=by
 obtain⟨i,H',d,q,u⟩:=h;obtain⟨v,o',rfl,F,y,z,A,B,t⟩:=n _ _ _ u;refine .inr (.inr ⟨v,rds,_,⟨g,b,cap,rfl,fun D w G=>AC.qV q r (fun j o e=>?_) p fun a I m J=>?_⟩,t⟩)
 . obtain ⟨K, L, x⟩ := s j o e
   grind
 grind
theorem DC.Su {g:FuncId}{args c:List AV}{H:aj}{nx k l:Nat}{o p:an}{R:AE->aj->Nat->Prop}{z:AE->aj->Nat->Prop}(h:DC P E g c (.put 0 (some o) (.put 1 (some p) .nil)) 2 z)
 (C:args=c.map (AV.r2 fun j=>bif beq j 0 then k else l))(I:c.all (AV.l2 2)=true)(r:k≠l)(V:H.get k=some o)(t:H.get l=some p)(U:o.dT)(y:p.dT)
 (B:∀u H' q,z u H' q->∃i n s,u = .ret (.ay 0 i n s)∧∃o',H'.get 0=some o'∧H'.get 1=some p∧o'.dT∧R (.ret (.ay k i n s)) (.put k (some o') H) nx):DC P E g args H nx R:=by
 have d:∀j f,(Tr.put 0 (some o) (Tr.put 1 (some p) Tr.nil):aj).get j=some f->(j=0∧f=o)∨(j=1∧f=p):=by
  intro j f e;rw[Tr.get] at e;cases b:beq j 0 with
  | true=>simp_all
  | false =>
    rw[b] at e;simp only[zb0] at e;rw[Tr.get] at e;cases b:beq j 1 with
    | true=>simp_all
    | false=>rw[b] at e;cases e
 obtain⟨u,H',q,D,F⟩:=h;obtain⟨i,n,s,rfl,o',G,x,J,K⟩:=B u H' q F;refine⟨_,_,nx,AC.w9 (fun j=>bif beq j 0 then k else l) D C I (fun j f e=>?_) (fun j L f M e O v=>?_) (fun a Q m N=>?_),K⟩
 . rcases d j f e with ⟨rfl, rfl⟩ | ⟨rfl, rfl⟩
   . simp_all
   . exact⟨ab,t,y⟩
 . rcases d j f e with ⟨rfl, rfl⟩ | ⟨rfl, rfl⟩ <;> rcases d L M O with ⟨rfl, rfl⟩ | ⟨rfl, rfl⟩
   . rfl
   . exact absurd v r
   . exact absurd v.symm r
   . rfl
 . obtain ⟨rfl, rfl, rfl⟩ := N
   refine⟨_,.inr ⟨0,i,n,s,ab,rfl,rfl⟩,.put k (some o') H,fun j f e=>?_,rfl,rfl,rfl⟩
   rw[Tr.get] at e;cases b:beq j k with
   | true =>
     rw[b] at e;cases e;exact .inr ⟨0,o,rfl,(zbl b).symm,G,J⟩
   | false =>
     rw[b] at e;simp only[zb0] at e
     by_cases A:j=l
     . subst A
       rw[t] at e;cases e;exact .inr ⟨1,p,rfl,rfl,x,y⟩
     . refine .inl ⟨e, fun S T w v => ?_⟩
       rcases d S T w with⟨rfl,rfl⟩|⟨rfl,rfl⟩
       . simp_all
       . exact A v.symm
end Go.Ago
end
section
namespace Go.Ago
open List Nat
variable {P:Program} {E:Env}
theorem DC.lZ {g:FuncId}{args args2:List AV}{H:aj}{nx:Nat}{R:AE->aj->Nat->Prop}(j:fT n0 args args2)(h:DC P E g args2 H nx R):DC P E g args H nx R:=by
 obtain⟨f,i,d,⟨k,l⟩,m⟩:=h;exact⟨f,i,d,⟨k,fun c w p n o e=>l c w _ n o (qo (fun _ _ _ a b=>n0.rel a b) j e)⟩,m⟩
theorem AC.rS {g:FuncId}{nm:Nat}{args args2:List AV}{H:aj}{nx:Nat}{R:AE->aj->Nat->Prop}{o:an}(z:H.get nm=some o)(hx:fT (fC nm o) args args2)
 (h:AC P E g args2 (.put nm none H) nx R):AC P E g args H nx R:=by
 refine⟨h.1,fun c w A i hf N=>?_⟩
 obtain⟨B,K,b2,b3⟩:=i.obj nm o z;have F:c.le ⟨c.f,fun b=>c.aq b∨b=B.b⟩:=⟨fun _ _ e=>e,fun _ a => .inl a⟩
 have p:∀{x v},Rel c w x v->Rel ⟨c.f,fun b=>c.aq b∨b=B.b⟩ w x v:=fun t=>t.mono F (fun _ _=>rfl)
 have V:Own c H B.b:=⟨nm,o,B,z,K,rfl⟩;have d:∀k b,(Tr.put nm none H:aj).get k=some b->k≠nm∧H.get k=some b:=by
  intro k b e;rw[Tr.get] at e;cases a:beq k nm with
  | true=>grind
  | false=>rw[a] at e;exact⟨(fun O=>by simp_all),e⟩
 have L:aN E.bS ⟨c.f,fun b=>c.aq b∨b=B.b⟩ w (.put nm none H):=by
  refine⟨fun b a=>?_,i.bW,fun k b e=>?_,fun k k' S o2 q B2 e e' f f' a=>i.inj _ _ _ _ q B2 (d _ _ e).2 (d _ _ e').2 f f' a,fun g cs e=>p (i.bS g cs e)⟩
  . rcases a with a | rfl
    . exact i.bN b a
    . exact i.bW _ _ K
  . obtain ⟨M, l⟩ := d k b e
    obtain⟨q,T,c2,Y⟩:=i.obj k b l;refine⟨q,T,fun J=>?_,Y.mono rfl p (fun b a=>⟨F.aq b a,rfl⟩)⟩
    rcases J with J|J
    . grind
    . exact M (i.inj _ _ _ _ q B l z T K J)
 have u:∀x y v,fC nm o x y->Rel c w x v->Rel ⟨c.f,fun b=>c.aq b∨b=B.b⟩ w y v:=by
  rintro x y v (rfl|Z) t
  . grind
  . refine (ks (i.only z) (I := fun b => c.aq b ∨ b = B.b) (fun b a => .inl a) (fun b a => ?_) 20 t Z).mono ⟨fun _ _ e => (by cases e), fun _ a => a⟩ (fun _ _ => rfl)
    obtain⟨k,S,q,l,O,rfl⟩:=a;rw[Tr.get] at l;cases b:beq k nm with
    | true =>
      simp_all
    | false=>rw[b] at l;cases l
 have G:=by
  have:∀{C r:List AV} {A:List Value},fT (fC nm o) C r->aP c w C A->aP ⟨c.f,fun b=>c.aq b∨b=B.b⟩ w r A:=by
   intro C
   induction C with
   | nil=>intro r A s t;cases r with|nil=>obtain rfl:=t.fX;exact aP.nil|cons _ _=>exact s.elim
   | cons x C ih =>
     intro r A s t;cases r with
     | nil=>exact s.elim
     | cons y r =>
       obtain⟨v,us,rfl,h1,h2⟩:=t.dP;exact .cons (u _ _ _ s.1 h1) (ih s.2 h2)
  exact this hx N
 have m:∀b,Own ⟨c.f,fun b=>c.aq b∨b=B.b⟩ (.put nm none H) b->Own c H b:=by
  rintro b ⟨k,S,q,l,O,rfl⟩
  exact⟨k,S,q,(d _ _ l).2,O,rfl⟩
 refine(h.2 _ w A L hf G).mono ?_
 rintro e w' ⟨X,H',Q,ae,j,k2,k3,k4,k5,W⟩
 refine⟨X,H',Q,ae,⟨j.f,fun b a=>j.aq b (.inl a),j.os,j.tape,j.output,j.size,fun b a s=>j.other b a fun z=>s (m b z),fun b a=>?_,fun b a=>(j.own b a).imp (m b) id⟩,k2,k3,k4,k5,W⟩
 rcases j.ez b a with(g|rfl)|g|g
 . grind
 . grind
 . grind
 omega
theorem DC.rS {g:FuncId}{nm:Nat}{args args2:List AV}{H:aj}{nx:Nat}{R:AE->aj->Nat->Prop}{o:an}(f:H.get nm=some o)(c:fT (fC nm o) args args2)
 (h:DC P E g args2 (.put nm none H) nx R):DC P E g args H nx R:=by
 obtain⟨d,e,a,i,b⟩:=h;exact⟨d,e,a,i.rS f c,b⟩
end Go.Ago
end
section
namespace Go.Ago
open List Nat
section
variable {A j k:Nat}
theorem E7 (a:j<bY)(h:ble (A+bY) k=true):beq (aW A j) k=false:=by
 have h:=zbb h;cases e:beq _ k with
 | false=>rfl
 | true=>have:=zbl e;unfold aW at *;omega
theorem OP (h:blt k A=true):beq (aW A j) k=false:=by
 have h:=zbb h;cases e:beq _ k with
 | false=>rfl
 | true=>have:=zbl e;unfold aW at *;omega
theorem nz (a:j<bY)(h:ble (A+bY) k=true):k≠aW A j:=by
 have h:=zbb h;unfold aW;omega
theorem kL {v:Option an}{t:aj}{o:Option an}(b:j<bY)(a:ble (A+bY) k=true)(h:t.get (aW A j)=o):(Tr.put k v t).get (aW A j)=o:=by
 rw[Tr.get,E7 b a];exact h
theorem ke {g:Nat->Option an}{t:aj}(c:j<bY):(Tr.fx A bY g t).get (aW A j)=g j:=by
 have b:ble A (aW A j)=true:=zbs (by unfold aW;omega)
 have a:blt (aW A j) (A+bY)=true:=zbs (by unfold aW;omega)
 rw[Tr.get,b,a];simp;rw[show aW A j - A=j by unfold aW;omega]
theorem BV {K:an->Prop}{v:Option an}{t:aj}(b:j<bY)(a:ble (A+bY) k=true)(h:dO (aW A j) K t):dO (aW A j) K (.put k v t):=by
 simp[dO,E7 b a];exact h
theorem BW {K:an->Prop}{v:Option an}{t:aj}(a:blt k A=true)(h:dO (aW A j) K t):dO (aW A j) K (.put k v t):=by
 simp[dO,OP a];exact h
theorem Hz {K:an->Prop}{o:an}{t:aj}(h:K o):dO (aW A j) K (.put (aW A j) (some o) t):=by
 simp[dO];exact h
theorem Hy {i:Nat}{K:an->Prop}{v:Option an}{t:aj}(b:j≠i)(h:dO (aW A j) K t):dO (aW A j) K (.put (aW A i) v t):=by
 have:beq (aW A j) (aW A i)=false:=by
  cases e:beq _ _ with
  | false=>rfl
  | true=>have:=zbl e;unfold aW at *;omega
 simp[dO,this];exact h
end
theorem df.inner {m c A:Nat}{l:List (Nat×Nat)}{S:St}{s:List (Nat×AV)}{f:List (Nat×an)}{g:Nat->Option an}(y:ble m c=true)(t:ble (A+bY) m=true)
 (a:mW (eC m A (aW A) l) c S s)(d:od (eC m A (aW A) l) c S.heap f)(q:pL (eC m A (aW A) l) (f.map (·.1))=true)
 (rows:∀j o,j<bY->g j=some o->dO (aW A j) (fun x=>x=o.cp (eC m A (aW A) l)∧o.lt c) S.heap)
 (b:(f.all fun p=>blt p.1 m && (blt p.1 A || ble (A+bY) p.1))=true):df m c A (aW A) l S s f g:=by
 have n:=zbb y;have k:=zbb t;refine⟨n,.inr ⟨k,fun _=>rfl⟩,aa,a,d,q,rows,fun i j o z B w _ _ e=>by unfold aW at e;omega,fun j o w _ p v e=>?_⟩
 have:=zbr.1 b p v;simp only[zbe,zbQ] at *;obtain⟨u,h⟩:=this;unfold eC at e;rw[u] at e;simp at e;rcases h with h|h
 all_goals have:=zbb h;unfold aW at e;omega
end Go.Ago
namespace Go.Ago
open List Nat
theorem qC {m A:Nat}{a:Nat->Nat}{l:List (Nat×Nat)}{k:Nat}(h:blt k m=true):eC m A a l k=k:=by unfold eC;grind
end Go.Ago
namespace Go.Ago
open List Nat
theorem Y4 {n k i m s:Nat}(h:blt k n=true):(AV.ay k i m s).l2 n=true:=h
theorem JV {n k i o:Nat}(h:blt k n=true):(AV.ptr k i o).l2 n=true:=h
end Go.Ago
namespace Go.Ago
open List Nat
section
variable {m nl A:Nat} {src:Nat->Nat} {l:List (Nat×Nat)} {ρ:Nat->Nat} {S:St}
theorem FQ:mW ρ nl S []:=True.intro
theorem FP {t:Nat}{x y:AV}{r:List (Nat×AV)}(h:S.bu.get t=some x)(c:x=y.r2 ρ)(d:y.l2 nl=true)(b:mW ρ nl S r):mW ρ nl S ((t,y)::r):=by
 refine⟨?_,b⟩
 grind
theorem jJ {H:aj}:od ρ nl H []:=True.intro
theorem jI {H:aj}{k:Nat}{x o:an}{r:List (Nat×an)}(f:blt k nl=true)(d:blt k m=true)(h:H.get k=some x)(e:x=o.cp (eC m A src l))(g:o.lt nl)(c:od (eC m A src l) nl H r):od (eC m A src l) nl H ((k,o)::r):=by
 refine⟨⟨f,?_⟩,c⟩;rw[qC d];exact rW h ⟨e,g⟩
end
end Go.Ago
namespace Go.Ago
open List Nat
theorem Y3 {k k' i n s:Nat}(h:k'=k):AV.ay k i n s=AV.ay k' i n s:=by grind
theorem JU {k k' i o:Nat}(h:k'=k):AV.ptr k i o=AV.ptr k' i o:=by grind
end Go.Ago
namespace Go.Ago
open List Nat
theorem df.grow {m f A k NEW:Nat}{l:List (Nat×Nat)}{S:St}{w:List (Nat×AV)}{q:List (Nat×an)}{g:Nat->Option an}(D:ble m f=true)(C:ble m A=true)(hi:ble (A+bY) f=true)(G:ble (A+bY) NEW=true)
 (d:mW (eC m A (fun j=>bif beq j k then NEW else aW A j) l) f S w)(n:od (eC m A (fun j=>bif beq j k then NEW else aW A j) l) f S.heap q)(t:pL (eC m A (fun j=>bif beq j k then NEW else aW A j) l) (q.map (·.1))=true)
 (rows:∀j o,j<bY->j≠k->g j=some o->dO (aW A j) (fun x=>x=o.cp (eC m A (fun j=>bif beq j k then NEW else aW A j) l)∧o.lt f) S.heap)
 (v:∀o,g k=some o->dO NEW (fun x=>x=o.cp (eC m A (fun j=>bif beq j k then NEW else aW A j) l)∧o.lt f) S.heap)
 (b:(q.all fun p=>blt p.1 m)=true):df m f A (fun j=>bif beq j k then NEW else aW A j) l S w q g:=by
 have s:=zbb D;have u:=zbb C;have r:=zbb hi;have F:=zbb G;have z:beq k k=true:=zcK k;have h:∀j,j≠k->beq j k=false:=fun j y=>by
  cases e:beq j k with
  | false=>rfl
  | true=>simp_all
 refine⟨s,.inl u,r,d,n,t,fun j o y I=>?_,fun i j o J K L _ _ e=>?_,fun j o y _ p E e=>?_⟩
 . grind
 . by_cases c : i = k <;> by_cases a : j = k
   . omega
   . subst c;simp only[z,h j a,zbN,zb0] at e;unfold aW at e;omega
   . subst a;simp only[z,h i c,zbN,zb0] at e;unfold aW at e;omega
   . simp only[h i c,h j a,zb0] at e;unfold aW at e;omega
 . have B := zbr.1 b p E
   have H:=zbb B;rw[qC B] at e
   by_cases a:j=k
   . grind
   . simp only[h j a,zb0] at e;unfold aW at e;omega
end Go.Ago
namespace Go.Ago
open List Nat
theorem HY {A j:Nat}:aW A j=A+j:=rfl
theorem oZ {H:aj}{k i len sz n:Nat}{es r:List (List AV)}(b:H.get k=some (.arr sz es))(d:i+len≤es.length)(c:aM (aM (snap H n)) ((es.drop i).take len)=some r):snap H (n+1) (.ay k i len sz)=some (.ak sz r):=by
 have a:(sz == sz && ble (i+len) es.length)=true:=by simp_all
 simp only[snap,b,a,c]
end Go.Ago
end
namespace Go.Ago
open Go.Proofs List Nat Tryz
attribute [local irreducible] bA bw aV bp bG wr aZ bF comp DC DP DW DV
theorem NK {n:Int}(h : -2147483648≤n)(a:n<2147483648):wr .i32 n=n:=by
 unfold wr IntKind.wrap IntKind.bits IntKind.signed
 grind
theorem Er {n:Int}(h:0≤n)(a:n<256):wr .u8 n=n:=by
 unfold wr IntKind.wrap IntKind.bits IntKind.signed
 grind
theorem Kd (n:Int)(c:Int)(e:0≤n∧n≤32):af 269 [i64 n,.int .i32 c] (fun d=>∃(m:Int) (b:Bool),d = .ret (.ao [i64 m,.bool b])∧(b=true->1≤m∧m≤32)):=by
 refine zw func269 ?_;refine zg ?_
 repeat' ((refine zp ?_ ?_<;>intro h)<;>refine zg ?_)
 all_goals first|exact⟨_,_,rfl,fun h=>absurd h ab⟩|(refine⟨_,_,rfl,fun _=>?_⟩;rw[aE (n:=10 * n) aa aa,NK (n:=c - 48) aa aa,aE (n:=c - 48) aa aa,aE (n:=10 * n+(c - 48)) aa aa] at h ⊢;omega)
theorem Tg (s r:BL UInt8):af 192 [.str s.l,.str r.l] (cc fun _=>True):=by
 refine zw func192 ?_;have c:=s.h;have b:=r.h;refine zg ?_
 repeat' ((refine zp ?_ ?_<;>intro h)<;>refine zg ?_)
 all_goals first|exact⟨_,rfl,trivial⟩|skip
 refine DW.aO aC aD [0,4,15,16] [] 0 (fun i:Nat=>[(17,i64 i)]) (fun _=>[]) [] (fun i=>r.l.length+1 - i) (0) ?_
 refine zl fun i=>?_
 refine zg ?_
 repeat' ((refine zp ?_ ?_<;>first|exact⟨⟩|intro h)<;>refine zg ?_)
 all_goals first|exact⟨_,rfl,trivial⟩|exact zi (i+1)
end Go.Ago
