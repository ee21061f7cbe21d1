/-
  Part B12: lemmas, each with its own conditions.
-/
import Derived.Lib.TrimU
import Derived.Shelf.Strconv.Atoi
import Derived.Lib.AtoiErrMem
import Derived.Shelf.Strings.SlTrimAscii
import Derived.Test.YthaolifcglpkdaaGreatDoorB11
set_option maxRecDepth 100000
set_option maxHeartbeats 0
set_option linter.all false
section
namespace Go.Ago
open List Nat
variable {P:Program} {E:Env} {rr:Bool}
theorem SW.wkM {code:Code}{Q:AX->St->Prop}{S S':St}(g:S.next≤S'.next)(f:dq P E S.next S S')(h:SW P E rr code Q S'):SW P E rr code Q S:=by
 intro r j m l c a w o;obtain⟨F,p,q,s,t,u⟩:=f c a w o;have v:=(ep.refl m c a w _).jj ⟨fun k I=>p k aa,q,rfl,rfl,rfl,zbm _,fun _ _ _=>rfl,fun b d=>(s b d).imp id .inl,fun b d => .inl (t b d)⟩ rfl
 refine wpIn_mono (h r j m (zbu l g) _ a w u) ?_
 rintro e G H ⟨y,z,A,x,C,B,D,i⟩
 exact⟨y,z,A,v.trans x,zbu g C,B,D,i⟩
theorem DW.wk {code:Code}{K:AX->Nat->St->Prop}{nx:Nat}{S S':St}(b:dq P E nx (S.at_ nx) (S'.at_ nx))(h:DW P E rr nx code K S'):DW P E rr nx code K S:=by
 obtain⟨d,a,f,g,e⟩:=h;exact⟨d,a,f,SW.wkM (S':=S'.at_ _) (zbm _) b g,e⟩
def uA (nm:Nat)(o:an)(S:St):List (Nat×AV)->Prop
 | []=>True
 | (t,y)::l=>(∃x,S.bu.get t=some x∧fC nm o x y)∧uA nm o S l
def uz (nm:Nat)(o:an)(S:St):List (Nat×an)->Prop
 | []=>True
 | (k,b)::l=>(k≠nm∧∃a,S.heap.get k=some a∧iu nm o a b)∧uz nm o S l
theorem BK {nm:Nat}{o:an}{S:St}:∀{l:List (Nat×AV)},uA nm o S l->∀t y,(t,y)∈l->∃x,S.bu.get t=some x∧fC nm o x y
 | [],_,_,_,h=>by cases h
 | (c, d) :: l, b, t, y, h => by
   rcases zbB.1 h with h|h
   . cases h;exact b.1
   exact BK b.2 t y h
theorem BH {nm:Nat}{o:an}{S:St}:∀{l:List (Nat×an)},uz nm o S l->∀k b,(k,b)∈l->k≠nm∧∃a,S.heap.get k=some a∧iu nm o a b
 | [],_,_,_,h=>by cases h
 | (e, f) :: l, d, t, y, h => by
   rcases zbB.1 h with h|h
   . cases h;exact d.1
   exact BH d.2 t y h
theorem DW.ot (nm:Nat)(o:an)(c:List (Nat×AV))(a:List (Nat×an)){code:Code}{K:AX->Nat->St->Prop}{nx:Nat}{S:St}(f:S.heap.get nm=some o)(g:uA nm o S c)(i:uz nm o S a)
 (h:DW P E rr nx code K ⟨gF c,S.bL,gT a,0⟩):DW P E rr nx code K S:=
 DW.wk (S':=⟨gF _,S.bL,gT _,0⟩) (dq.freeze _ o f rfl rfl (fun t y e=>BK g t y (oI e)) (fun k b e=>BH i k b (nA e))) h
end Go.Ago
end
section
namespace Go.Proofs
open List Nat
open Go.Shelf
def Tryz.U5:Go.Shelf.Ren:=⟨fun|172=>244|244=>285|245=>286|247=>313|279=>314|280=>315|281=>316|282=>317|287=>335|316=>336|171=>338|205=>337|321=>345|322=>346|243=>347|246=>350|283=>351|284=>352|285=>353|286=>354|129=>218|317=>355|318=>356|319=>357|320=>358|337=>359|338=>360|n=>n,fun|9=>9|3=>3|75=>289|76=>290|4=>4|5=>5|167=>350|37=>267|0=>0|85=>351|2=>2|168=>353|53=>128|175=>367|46=>169|210=>370|127=>376|145=>383|143=>381|21=>21|171=>388|173=>390|212=>393|51=>265|20=>20|213=>394|232=>395|233=>396|80=>361|n=>n,fun|15=>4|16=>5|17=>8|18=>9|19=>10|n=>n⟩
theorem Tryz.U4:Go.Proofs.Lays.n172 prog Tryz.U5:={
 mixed:=by kernel_rfl
 f129:=func218.trans (congrArg some (by kernel_rfl))
 f171:=func338.trans (congrArg some (by kernel_rfl))
 f172:=func244.trans (congrArg some (by kernel_rfl))
 f205:=func337.trans (congrArg some (by kernel_rfl))
 f243:=func347.trans (congrArg some (by kernel_rfl))
 f244:=func285.trans (congrArg some (by kernel_rfl))
 f245:=func286.trans (congrArg some (by kernel_rfl))
 f246:=func350.trans (congrArg some (by kernel_rfl))
 f247:=func313.trans (congrArg some (by kernel_rfl))
 f279:=func314.trans (congrArg some (by kernel_rfl))
 f280:=func315.trans (congrArg some (by kernel_rfl))
 f281:=func316.trans (congrArg some (by kernel_rfl))
 f282:=func317.trans (congrArg some (by kernel_rfl))
 f283:=func351.trans (congrArg some (by kernel_rfl))
 f284:=func352.trans (congrArg some (by kernel_rfl))
 f285:=func353.trans (congrArg some (by kernel_rfl))
 f286:=func354.trans (congrArg some (by kernel_rfl))
 f287:=func335.trans (congrArg some (by kernel_rfl))
 f316:=func336.trans (congrArg some (by kernel_rfl))
 f317:=func355.trans (congrArg some (by kernel_rfl))
 f318:=func356.trans (congrArg some (by kernel_rfl))
 f319:=func357.trans (congrArg some (by kernel_rfl))
 f320:=func358.trans (congrArg some (by kernel_rfl))
 f321:=func345.trans (congrArg some (by kernel_rfl))
 f322:=func346.trans (congrArg some (by kernel_rfl))
 f337:=func359.trans (congrArg some (by kernel_rfl))
 f338:=func360.trans (congrArg some (by kernel_rfl))
 t0:=underlying0
 a0:=isAgg0
 z0:=sizeOf0
 v0:=zeroValue0
 t2:=underlying2
 a2:=isAgg2
 z2:=sizeOf2
 v2:=zeroValue2
 t3:=underlying3
 a3:=isAgg3
 z3:=sizeOf3
 v3:=zeroValue3
 t4:=underlying4
 a4:=isAgg4
 z4:=sizeOf4
 v4:=zeroValue4
 t5:=underlying5
 a5:=isAgg5
 z5:=sizeOf5
 v5:=zeroValue5
 t9:=underlying9
 a9:=isAgg9
 z9:=sizeOf9
 v9:=zeroValue9
 t20:=underlying20
 a20:=isAgg20
 z20:=sizeOf20
 v20:=zeroValue20
 t21:=underlying21
 a21:=isAgg21
 z21:=sizeOf21
 v21:=zeroValue21
 t37:=underlying267
 a37:=isAgg267
 z37:=sizeOf267
 v37:=zeroValue267
 t46:=underlying169
 a46:=isAgg169
 z46:=sizeOf169
 v46:=zeroValue169
 t51:=underlying265
 a51:=isAgg265
 z51:=sizeOf265
 v51:=zeroValue265
 t53:=underlying128
 a53:=isAgg128
 z53:=sizeOf128
 v53:=zeroValue128
 t75:=underlying289
 a75:=isAgg289
 z75:=sizeOf289
 v75:=zeroValue289
 t76:=underlying290
 a76:=isAgg290
 z76:=sizeOf290
 v76:=zeroValue290
 t85:=underlying351
 a85:=isAgg351
 z85:=sizeOf351
 v85:=zeroValue351
 t127:=underlying376
 a127:=isAgg376
 z127:=sizeOf376
 v127:=zeroValue376
 t143:=underlying381
 a143:=isAgg381
 z143:=sizeOf381
 v143:=zeroValue381
 t145:=underlying383
 a145:=isAgg383
 z145:=sizeOf383
 v145:=zeroValue383
 t167:=underlying350
 a167:=isAgg350
 z167:=sizeOf350
 v167:=zeroValue350
 t168:=underlying353
 a168:=isAgg353
 z168:=sizeOf353
 v168:=zeroValue353
 t171:=underlying388
 a171:=isAgg388
 z171:=sizeOf388
 v171:=zeroValue388
 t173:=underlying390
 a173:=isAgg390
 z173:=sizeOf390
 v173:=zeroValue390
 t175:=underlying367
 a175:=isAgg367
 z175:=sizeOf367
 v175:=zeroValue367
 t210:=underlying370
 a210:=isAgg370
 z210:=sizeOf370
 v210:=zeroValue370
 t212:=underlying393
 a212:=isAgg393
 z212:=sizeOf393
 v212:=zeroValue393
 t213:=underlying394
 a213:=isAgg394
 z213:=sizeOf394
 t232:=underlying395
 a232:=isAgg395
 z232:=sizeOf395
 v232:=zeroValue395
 t233:=underlying396
 a233:=isAgg396
 z233:=sizeOf396
 v233:=zeroValue396
 g15:=by kernel_rfl
 g16:=by kernel_rfl
 g17:=by kernel_rfl
 g18:=by kernel_rfl
 g19:=by kernel_rfl }
end Go.Proofs
namespace Go.Ago
open Go.Proofs Go.Shelf List Nat Tryz
def tG (s:List UInt8):Prop:=∀b∈s,48≤b.toNat∧b.toNat≤57
theorem Gh:∀(s:List UInt8) (a:Nat),tG s->∃n,Lib.decFrom a s=some n
 | [],a,_=>⟨a,rfl⟩
 | b :: s, a, h => by
   have f:=h b (ag);simp[Lib.decFrom,Lib.digitVal,f];exact Gh s _ fun x e=>h x (zbO _ e)
theorem OL (s:List UInt8)(h:tG s)(h0:s≠[]):∃n,Lib.atoi s=some n:=by
 cases s with
 | nil=>grind
 | cons b r =>
   obtain⟨n,f⟩:=Gh _ 0 h;have i:=h b (ag);have g:(b == 45)=false:=by rw[zcp];rintro rfl;grind
   have d:(b == 43)=false:=by rw[zcp];rintro rfl;grind
   exact⟨n,by simp[Lib.atoi,g,d,Lib.decNat,f]⟩
theorem OJ (s:List UInt8)(h:tG s)(h0:s≠[])(d:s.length≤18):af 244 [.str s] (fun g=>∃n:Int,g = .ret (.ao [i64 n,.eI])):=by
 obtain⟨n,f⟩:=OL s h h0;refine⟨.ret (.ao [i64 n,.eI]),PC.xQ ⟨_,func244,rfl,ab⟩ fun i w m l j=>?_,n,rfl⟩
 obtain⟨v,rfl,h0⟩:=J4 j;cases h0;refine(Any.strconv_Atoi Tryz.U4 ⟨s.toArray⟩ n (by simpa[ByteArray.size] using d) (by simpa using f) w).mono ?_
 rintro e o ⟨rfl,t,rfl⟩
 refine⟨Go.Lib.bytesWorld_below _ _ _,.ret _,?_,rfl,rfl⟩
 . have := aP.cons (c := i) (w := w) (.int .i64 n) (.cons .eI .nil)
   exact .ao this.1 this.2
theorem vp {l:List (List AV)}{n:Nat}(h:n=l.length):(l.drop 0).take n=l:=by grind
theorem Q4 (s:List UInt8)(p:Nat):1≤hP s p:=Go.Lib.width_pos _ _
theorem Q3 (s:List UInt8)(p:Nat):0≤jK s p:=zdd _
end Go.Ago
namespace Go.Ago
open Go.Proofs List Nat Tryz
attribute [local irreducible] bA bw aV bp bG wr aZ bF comp DC DP DW DV DY
structure NV (s:List UInt8) where
 pos:Nat
 st:Int
 n:Int
 acc:List Int
 dy:st=0∨st=1∨st=2
 hn:0≤n∧n≤32
 h2:st=2->1≤n
 ha:∀a∈acc,0≤a∧a<128
 hl:acc.length≤32
structure EJ (b:Nat) where
 j:Nat
 l:List Int
 hl:l.length=b+j
 hj:b+j≤32
 ha:∀a∈l,0≤a∧a<128
theorem zao {t:Int}(h:0≤t∧t<128):0≤wr .u8 t∧wr .u8 t<128:=by rw[Er aa aa];exact h
theorem rX {l:List Int}{t:Int}(h:∀a∈l,0≤a∧a<128)(c:0≤t∧t<128):∀a∈l++[wr .u8 t],0≤a∧a<128:=by
 intro a d;rcases zbL.1 d with b|b
 . grind
 rw[zbU] at b;subst b;exact zao c
theorem Q2 (s:List UInt8)(p:Nat):jK s p≤1114111:=by
 have:=Go.Lib.rune_le ⟨s.toArray⟩ p;show((Utf8.decode _ _).1:Int)≤_;omega
theorem E1 {l:List Int}(h:∀a∈l,0≤a∧a<128):kB (l.map fun n=>UInt8.ofNat n.toNat):=by
 intro j b d;rw[zbC,zcu] at *;obtain⟨a,c,rfl⟩:=d;have:=h a (zby c);rw[UInt8.toNat_ofNat'];omega
theorem uf {l:List Int}:kH (l.map fun n=>[AV.int .u8 n])=some [.str (l.map fun n=>UInt8.ofNat n.toNat)]:=by
 have:∀l:List _,pJ (l.map fun n=>[AV.int .u8 n])=some (l.map fun n=>UInt8.ofNat n.toNat):=by
  intro l
  induction l with
  | nil=>rfl
  | cons a l e=>simp[pJ,e]
 simp[kH,this]
end Go.Ago
end
namespace Go.Ago
open Go.Proofs List Nat Tryz
attribute [local irreducible] bA bw aV bp bG wr aZ bF comp DC DP DW DV
theorem Qn (p:Nat)(h:p<20):∃n:Int,chunk uZ (p * s8.size) s8.size=some [AV.int .u8 n]∧0≤n∧n<256:=by
 match p,h with
 | 0,_=>exact⟨_,rfl,ab,ab⟩
 | 1,_=>exact⟨_,rfl,ab,ab⟩
 | 2,_=>exact⟨_,rfl,ab,ab⟩
 | 3,_=>exact⟨_,rfl,ab,ab⟩
 | 4,_=>exact⟨_,rfl,ab,ab⟩
 | 5,_=>exact⟨_,rfl,ab,ab⟩
 | 6,_=>exact⟨_,rfl,ab,ab⟩
 | 7,_=>exact⟨_,rfl,ab,ab⟩
 | 8,_=>exact⟨_,rfl,ab,ab⟩
 | 9,_=>exact⟨_,rfl,ab,ab⟩
 | 10,_=>exact⟨_,rfl,ab,ab⟩
 | 11,_=>exact⟨_,rfl,ab,ab⟩
 | 12,_=>exact⟨_,rfl,ab,ab⟩
 | 13,_=>exact⟨_,rfl,ab,ab⟩
 | 14,_=>exact⟨_,rfl,ab,ab⟩
 | 15,_=>exact⟨_,rfl,ab,ab⟩
 | 16,_=>exact⟨_,rfl,ab,ab⟩
 | 17,_=>exact⟨_,rfl,ab,ab⟩
 | 18,_=>exact⟨_,rfl,ab,ab⟩
 | 19,_=>exact⟨_,rfl,ab,ab⟩
 | n+20,h=>exact absurd h aa
theorem Jl {p:Nat}{f:List AV->Prop}(h:p<20)(k:∀n:Int,0≤n->n<256->f [AV.int .u8 n]):az (chunk uZ (p * s8.size) s8.size) f:=by
 obtain⟨n,e,b,a⟩:=Qn p h;exact az.mk _ e (k n b a)
theorem yl (d:Int)(m:Bool):af 325 [i64 d,.bool m] (fun f=>∃(c:Int) (b:Bool),f = .ret (.ao [.int .u8 c,.bool b])):=by
 refine zw func325 ?_;refine zg ?_
 repeat' ((first|(refine Rq.mk (by(first|rfl|((try simp only[rz]);((rw[aE aa aa];omega))))) ?_)|(refine zp ?_ ?_<;>intro h)|(refine Jl (by(first|omega|(rw[aE aa aa];omega))) (fun m g e=>?_)))<;>refine zg ?_)
 all_goals exact⟨_,_,rfl⟩
theorem NB (c:Int):af 284 [.int .u8 c] (fun d=>∃(n:Int) (x y:Bool),d = .ret (.ao [i64 n,.bool x,.bool y])∧0≤n∧n≤9):=by
 refine zw func284 ?_
 conv=>whnf
 refine DW.aO aC aD [0,2,3,4,7] [] 0 (fun i:Nat=>[(8,i64 i)]) (fun _=>[]) [] (fun i=>21 - i) (0) ?_
 refine zl fun i=>?_
 refine zg ?_
 repeat' ((first|(refine zp ?_ ?_<;>intro h)|refine Jl aa (fun m e b=>?_))<;>refine zg ?_)
 all_goals first|exact⟨_,_,_,rfl,ab,ab⟩|exact⟨_,_,_,rfl,by rw[Int.tmod_eq_emod_of_nonneg aa];omega,by rw[Int.tmod_eq_emod_of_nonneg aa];omega⟩|exact zi (i+1)
end Go.Ago
section
namespace Go.Proofs
open List Nat
open Go.Shelf
def Tryz.U3:Go.Shelf.Ren:=⟨fun|160=>239|232=>272|231=>271|227=>273|234=>275|233=>274|236=>277|235=>276|228=>303|271=>306|151=>305|197=>304|120=>330|152=>307|260=>329|137=>302|119=>331|224=>267|225=>266|217=>265|266=>300|n=>n,fun|9=>9|4=>4|3=>3|5=>5|117=>320|116=>319|0=>0|124=>323|21=>21|105=>344|46=>169|119=>377|139=>380|138=>379|n=>n,fun|3=>6|4=>7|n=>n⟩
theorem Tryz.U2:Go.Proofs.Lays.n160 prog Tryz.U3:={
 mixed:=by kernel_rfl
 f119:=func331.trans (congrArg some (by kernel_rfl))
 f120:=func330.trans (congrArg some (by kernel_rfl))
 f137:=func302.trans (congrArg some (by kernel_rfl))
 f151:=func305.trans (congrArg some (by kernel_rfl))
 f152:=func307.trans (congrArg some (by kernel_rfl))
 f160:=func239.trans (congrArg some (by kernel_rfl))
 f197:=func304.trans (congrArg some (by kernel_rfl))
 f217:=func265.trans (congrArg some (by kernel_rfl))
 f224:=func267.trans (congrArg some (by kernel_rfl))
 f225:=func266.trans (congrArg some (by kernel_rfl))
 f227:=func273.trans (congrArg some (by kernel_rfl))
 f228:=func303.trans (congrArg some (by kernel_rfl))
 f231:=func271.trans (congrArg some (by kernel_rfl))
 f232:=func272.trans (congrArg some (by kernel_rfl))
 f233:=func274.trans (congrArg some (by kernel_rfl))
 f234:=func275.trans (congrArg some (by kernel_rfl))
 f235:=func276.trans (congrArg some (by kernel_rfl))
 f236:=func277.trans (congrArg some (by kernel_rfl))
 f260:=func329.trans (congrArg some (by kernel_rfl))
 f266:=func300.trans (congrArg some (by kernel_rfl))
 f271:=func306.trans (congrArg some (by kernel_rfl))
 t0:=underlying0
 a0:=isAgg0
 z0:=sizeOf0
 v0:=zeroValue0
 t3:=underlying3
 a3:=isAgg3
 z3:=sizeOf3
 v3:=zeroValue3
 t4:=underlying4
 a4:=isAgg4
 z4:=sizeOf4
 v4:=zeroValue4
 t5:=underlying5
 a5:=isAgg5
 z5:=sizeOf5
 v5:=zeroValue5
 t9:=underlying9
 a9:=isAgg9
 z9:=sizeOf9
 v9:=zeroValue9
 t21:=underlying21
 a21:=isAgg21
 z21:=sizeOf21
 v21:=zeroValue21
 t46:=underlying169
 a46:=isAgg169
 z46:=sizeOf169
 v46:=zeroValue169
 t105:=underlying344
 a105:=isAgg344
 z105:=sizeOf344
 v105:=zeroValue344
 t116:=underlying319
 a116:=isAgg319
 z116:=sizeOf319
 t117:=underlying320
 a117:=isAgg320
 z117:=sizeOf320
 v117:=zeroValue320
 t119:=underlying377
 a119:=isAgg377
 z119:=sizeOf377
 t124:=underlying323
 a124:=isAgg323
 z124:=sizeOf323
 v124:=zeroValue323
 t138:=underlying379
 a138:=isAgg379
 z138:=sizeOf379
 v138:=zeroValue379
 t139:=underlying380
 a139:=isAgg380
 z139:=sizeOf380
 v139:=zeroValue380
 g3:=by kernel_rfl
 g4:=by kernel_rfl }
end Go.Proofs
namespace Go.Ago
open Go.Proofs Go.Shelf List Nat Tryz
theorem vV {l:List UInt8}(h:l.all (fun b=>decide (b.toNat<128))=true):kB l:=
 fun _ b a=>of_decide_eq_true (zbr.1 h b (zby a))
theorem Ny (s t:List UInt8)(l:s.length<281474976710656)(g:t.length<4294967281)(d:kB t):af 239 [.str s,.str t] (fun f=>f = .ret (.str (Lib.trimS s t))):=by
 refine⟨.ret (.str (Lib.trimS s t)),PC.xQ ⟨_,func239,rfl,ab⟩ fun o w m n i=>?_,rfl⟩
 obtain⟨v,u,rfl,h,j⟩:=qA i;cases h;cases j;refine(Any.strings_Trim_laid Tryz.U2 aG ⟨s.toArray⟩ ⟨t.toArray⟩ w (by simp only[ByteArray.size,zcy];omega) (by simpa[ByteArray.size] using g) (by simpa[kB] using d)).mono ?_
 rintro e p ⟨rfl,c⟩
 exact⟨c,.ret _,.str _,rfl,rfl⟩
theorem Cc:∀(l:List UInt8) (c:UInt8),(Lib.indexByte l c = -1∧c∉l)∨∃i:Nat,Lib.indexByte l c=i∧l[i]? = some c∧∀j,j<i->l[j]?≠some c
 | [],c => .inl ⟨rfl,ag⟩
 | b :: l, c => by
   unfold Lib.indexByte
   by_cases f:b=c
   . subst f;exact .inr ⟨0,ag,rfl,fun j k=>absurd k (zbK _)⟩
   . have d : (b == c) = false := by simpa using f
     rcases Cc l c with⟨g,h⟩|⟨i,g,h,o⟩
     . exact .inl ⟨by simp[d,g],by simp[Ne.symm f,h]⟩
     . refine .inr ⟨i + 1, ?_, by simpa using h, fun j k => ?_⟩
       . have p : ((i : Int) == -1) = false := ag
         rw[g,d,p];simp
       . cases j with
         | zero=>simpa using f
         | succ j=>simpa using o j aa
theorem yg (s:List UInt8)(c:UInt8)(h:1≤Lib.countByte s c):0≤Lib.indexByte s c∧Lib.indexByte s c≤Lib.lastIndexByte ⟨s.toArray⟩ c.toNat∧Lib.lastIndexByte ⟨s.toArray⟩ c.toNat<s.length:=by
 have g:c∈s:=by
  by_cases f:c∈s
  . exact f
  . have : s.count c = 0 := count_eq_zero.2 f
    unfold Lib.countByte at h;omega
 rcases Cc s c with⟨_,b⟩|⟨i,m,b,n⟩
 . exact absurd g b
 have j:i<s.length:=(zbn.1 b).1;rcases Lib.lastIdx_spec ⟨s.toArray⟩ c.toNat s.length with⟨_,d⟩|⟨k,o,d,p,l⟩
 . exact absurd (by simp[b]) (d i j)
 . have e : Lib.lastIndexByte ⟨s.toArray⟩ c.toNat = k := by rw [<-d]; simp [Lib.lastIndexByte, ByteArray.size]
   grind
end Go.Ago
end
section
namespace Go.Ago
open List Nat
def va (B:(AX->Nat->St->Prop)->Nat->St->Prop)(K:AX->Nat->St->Prop):Nat->Nat->St->Prop
 | 0,_,_=>False
 | n + 1, d, S => B (fun e a b => match e with
   | .normal=>va B K n a b
   | e=>K e a b) d S
def p9 (nm:Nat)(o:an)(x:AV):AV:=match snap (.put nm (some o) .nil) 20 x with
 | some y=>y
 | none=>x
theorem BQ (nm:Nat)(o:an)(x:AV):fC nm o x (p9 nm o x):=by
 unfold p9;split
 . rename_i y h;exact .inr h
 exact .inl rfl
def BP (f:AV->AV):Tr AV->(Tr AV->Prop)->Prop
 | .nil,K=>K .nil
 | .put k v t, K => BP f t fun a => match v with
   | some x=>(f x).f3 fun y=>K (.put k (some y) a)
   | none=>K (.put k none a)
 | _,_=>False
theorem Hn {f:AV->AV}:∀{t:Tr AV} {K:Tr AV->Prop},BP f t K->∃b,K b∧∀j y,b.get j=some y->∃x,t.get j=some x∧y=f x
 | .nil,K,h=>⟨.nil,h,fun j y e=>by cases e⟩
 | .put k v t, K, h => by
   obtain⟨b,c,d⟩:=Hn (t:=t) h;cases v with
   | some x =>
     refine⟨_,AV.kJ c,fun j y e=>?_⟩
     rw[Tr.get] at *
     grind
   | none =>
     refine⟨_,c,fun j y e=>?_⟩
     rw[Tr.get] at *
     grind
 | .node _ _ _,_,h=>h.elim
 | .fx _ _ _ _,_,h=>h.elim
def BO (f:AV->AV):List (List AV)->(List (List AV)->Prop)->Prop
 | [],K=>K []
 | r::l,K=>fL AV.f3 (r.map f) fun b=>BO f l fun a=>K (b::a)
theorem Hm {f:AV->AV}:∀{l:List (List AV)} {K:List (List AV)->Prop},BO f l K->K (l.map (List.map f))
 | [],_,h=>h
 | _::l,_,h=>Hm (l:=l) (gp (fun _ _ h=>AV.kJ h) h)
def BN (nm:Nat)(f:AV->AV):aj->(aj->Prop)->Prop
 | .nil,K=>K .nil
 | .put k v t, K => BN nm f t fun a => cond (beq k nm) (K (.put k none a)) (match v with
   | some (.arr d e)=>BO f e fun b=>K (.put k (some (.arr d b)) a)
   | v=>K (.put k v a))
 | _,_=>False
theorem Hk {nm:Nat}{o:an}:∀{t:aj} {K:aj->Prop},BN nm (p9 nm o) t K->∃m,K m∧∀j b,m.get j=some b->j≠nm∧∃a,t.get j=some a∧iu nm o a b
 | .nil,K,h=>⟨.nil,h,fun j y e=>by cases e⟩
 | .put k v t, K, h => by
   obtain⟨m,g,A⟩:=Hk (t:=t) h;have d:∀p,(∀b,p=some b->k≠nm∧∃a,v=some a∧iu nm o a b)->∀j b,(Tr.put k p m).get j=some b->j≠nm∧∃a,(Tr.put k v t).get j=some a∧iu nm o a b:=by
    intro p B j b e;rw[Tr.get] at e ⊢;cases c:beq j k with
    | true =>
      rw[c] at e;have:=zbl c;subst this;exact B b e
    | false=>rw[c] at e;exact A j b e
   cases n:beq k nm with
   | true =>
     rw[n] at g;exact⟨_,g,d none fun b e=>by cases e⟩
   | false =>
     rw[n] at g;have l:k≠nm:=fun e=>by subst e;rw[zcK] at n;cases n
     simp only[zb0] at g;split at g
     . rename_i C u
       refine⟨_,Hm g,d _ fun b e=>?_⟩
       cases e;refine⟨l,_,rfl,.inr ⟨C,u,_,rfl,rfl,ag,fun i f e=>?_⟩⟩
       rw[zbC] at e;cases z:u[i]? with
       | none=>rw[z] at e;cases e
       | some r =>
         rw[z] at e;cases e;refine⟨r,rfl,ag,fun j y e=>?_⟩
         rw[zbC] at e;cases s:r[j]? with
         | none=>rw[s] at e;cases e
         | some x=>rw[s] at e;cases e;exact⟨x,rfl,BQ nm o x⟩
     . exact⟨_,g,d v fun b e=>⟨l,b,e,.inl rfl⟩⟩
 | .node _ _ _,_,h=>h.elim
 | .fx _ _ _ _,_,h=>h.elim
def xH (H:aj):aj->Option (Nat×an)
 | .put k _ t => match H.get k with
   | some (.mp b)=>some (k,.mp b)
   | _=>xH H t
 | _=>none
theorem ID {H:aj}:∀{t:aj} {k:Nat} {o:an},xH H t=some (k,o)->H.get k=some o
 | .put j v t, k, o, h => by
   unfold xH at h;split at h
   . grind
   exact ID h
 | .nil,_,_,h=>by cases h
 | .node _ _ _,_,_,h=>by cases h
 | .fx _ _ _ _,_,_,h=>by cases h
def sE (H:aj)(b:Tr AV):List Nat->Option (Nat×an)
 | []=>none
 | t :: l => match beq t 999 with
   | true => match xH H H with
     | some p=>some p
     | none=>sE H b l
   | false => match (match b.get t with
    | some (.ay k _ _ _)=>some k
    | some (.ptr k _ _)=>some k
    | _=>none) with
    | some k => match H.get k with
      | some (.arr d c)=>some (k,.arr d c)
      | _=>sE H b l
    | none=>sE H b l
theorem yd {H:aj}{b:Tr AV}:∀{l:List Nat} {k:Nat} {o:an},sE H b l=some (k,o)->H.get k=some o
 | [],_,_,h=>by cases h
 | t :: l, k, o, h => by
   unfold sE at h;split at h
   . split at h
     . rename_i p e;cases h;exact ID e
     . exact yd h
   . split at h
     . split at h
       . rename_i e;cases h;exact e
       . exact yd h
     . exact yd h
def xe (ts:List Nat)(K:Nat->St->Prop):Nat->Nat->St->Prop
 | 0,a,S=>K a S
 | d + 1, a, ⟨c, n, H, x⟩ => match sE H c ts with
   | some (b,o)=>BP (p9 b o) c fun e=>BN b (p9 b o) H fun g=>xe ts K d a ⟨e,n,g,x⟩
   | none=>K a ⟨c,n,H,x⟩
theorem Hl {P:Program}{E:Env}{code:Code}{Q:AX->Nat->St->Prop}{ts:List Nat}{K:Nat->St->Prop}(c:∀nx S,K nx S->DW P E false nx code Q S):∀(d nx:Nat) (S:St),xe ts K d nx S->DW P E false nx code Q S
 | 0,nx,S,h=>c _ S h
 | d + 1, nx, ⟨s, n, H, x⟩, h => by
   unfold xe at h;split at h
   . rename_i q o i
     obtain⟨j,l,g⟩:=Hn h;obtain⟨r,m,p⟩:=Hk l;refine DW.wk ?_ (Hl c d _ _ m);exact dq.freeze _ o (yd i) rfl rfl (fun t y e=>by obtain⟨z,f,rfl⟩:=g t y e;exact⟨z,f,BQ _ o z⟩) (fun k b e=>p k b e)
   grind
structure js where
 C:tD
 P:FuncId->List AV->(AE->Prop)->Prop
section
variable (P:Program) (E:Env) (Kn:Nat->Option (List AV->Option AV)) (cg:Nat) (Fr:Nat->Bool) (Fz:Nat->Nat->List Nat) (Pu:Nat->Bool)
def IB:Code->Nat
 | .seq a _=>IB a
 | .region id _ _=>id
 | _=>0
def um (b:Nat->List Nat)(C:tD)(V:vE):Nat->z8
 | 0=>fun _ _ _ _=>False
 | d + 1 => fun a K e S => match b (IB a) with
   | []=>va (ew E C V (um b C V d) a) K 5000 e S
   | g=>va (fun f=>xe g (ew E C V (um b C V d) a f) 20) K 5000 e S
def rM (e:js):vE:=fun i f d H R=>match f with
 | .fn (.func g) b k => match b ++ d ++ k with
   | c => match aM (snap .nil 20) c with
     | some a => cond (Fr g)
       (e.C g a .nil 0 fun h p _=>match h with
         | .ret (.ay o 0 n j) => match p.get o with
           | some (.arr l m)=>cond (beq j l && ((m.all fun e=>e.all hU) && ble (i+2) 16777216)) (R (.ay i 0 n j) [(i,some (.arr j m))] []) False
           | _=>False
         | _=>False)
       (e.P g a fun h=>match h with
         | .ret v=>R v [] []
         | .aU _=>False)
     | none => match aM (snap H 20) c with
       | some a => e.P g a fun h => match h with
         | .ret v=>cond v.flat (R v [] (c.flatMap (cC H 20))) False
         | .aU _=>False
       | none=>False
 | _=>False
def rL (e:js)(f:FuncId)(args:List AV)(H:aj)(nx:Nat)(K:Func->AX->Nat->St->Prop):Prop:=
 match P.funcs[f]? with
 | some b => match b.body with
   | some c=>cond (ble args.length b.ntmps && blt b.ntmps 1000000) (fL AV.f1 args fun a=>nk a 0 .nil fun d=>fN b.ntmps fun n=>ew E e.C (rM Fr e) (um E (Fz f) e.C (rM Fr e) 8) c (K b) nx ⟨d,n,H,0⟩) False
   | none=>False
 | none=>False
def known (e:js)(g:FuncId)(args:List AV)(Q:AE->Prop):Prop:=
 match Kn g with
 | some T => match T args with
   | some v=>v.f3 fun v=>Q (.ret v)
   | none=>False
 | none => match args with
   | [.fn (.func c) [] a] => cond (beq g cg) (e.P c a fun b => match b with
     | .ret (.ao [])=>Q (.ret (.int .i64 0))
     | _=>False) False
   | _=>False
def xv (g:FuncId):Bool:=match Kn g with
 | some _=>true
 | none=>beq g cg
def Bn (e:js)(g:FuncId)(args:List AV)(Q:AE->Prop):Prop:=
 cond (xv Kn cg g) (known Kn cg e g args Q) (rL P E Fr Fz e g args .nil 0 fun c a _ S=>qD E c Q a S)
def xx (e:js)(g:FuncId)(nx:Nat)(R:AE->aj->Nat->Prop):Nat->List AV->aj->Prop
 | 0,_,_=>False
 | d + 1, b, H => match aM (snap .nil 20) b with
   | some a=>known Kn cg e g a fun h=>R h H nx
   | none => match b.flatMap (cC H 20) with
     | []=>False
     | c :: _ => match H.get c with
       | some o=>xx e g nx R d (b.map (p9 c o)) (.put c none H)
       | none=>False
def Bm (e:js):tD:=fun g b H d R=>
 cond (xv Kn cg g) (match aM (snap .nil 20) b with
  | some a=>known Kn cg e g a fun c=>R c H d
  | none => match aM (snap H 20) b with
    | some a=>known Kn cg e g a fun c=>cond c.flat (R c H d) (xx Kn cg e g d R 10 b H)
    | none => False) (match Pu g with
  | true => match aM (snap .nil 20) b with
    | some a=>e.P g a fun c=>R c H d
    | none=>rL P E Fr Fz e g b H d fun i=>oV E i R
  | false=>rL P E Fr Fz e g b H d fun i=>oV E i R)
def ev:Nat->js
 | 0=>⟨fun _ _ _ _ _=>False,fun _ _ _=>False⟩
 | n+1=>⟨Bm P E Kn cg Fr Fz Pu (ev n),Bn P E Kn cg Fr Fz (ev n)⟩
end
section
variable {P:Program} {E:Env} {Kn:Nat->Option (List AV->Option AV)} {cg:Nat} {Fr:Nat->Bool} {Fz:Nat->Nat->List Nat} {Pu:Nat->Bool}
structure js.OK (P:Program)(E:Env)(e:js):Prop where
 C:∀g args H nx R,e.C g args H nx R->DC P E g args H nx R
 P:∀g args Q,e.P g args Q->DP P E g args Q
theorem Ki {B:(AX->Nat->St->Prop)->Nat->St->Prop}{body:Code}(y:∀K nx S,B K nx S->DW P E false nx body K S){K:AX->Nat->St->Prop}{n nx:Nat}{S:St}(h:va B K n nx S):DW P E false nx (.loop body) K S:=by
 have o:∀(n nx:Nat) (S:St),va B K n nx S->∃ax nx' S',tT P E false body (pk ax nx' S') n (S.at_ nx)∧K ax nx' S':=by
  intro n
  induction n with
  | zero=>intro nx S h;exact h.elim
  | succ n u =>
    intro nx S h;obtain⟨ax,nx',S',h1,h2⟩:=y _ _ _ h;cases ax with
    | normal =>
      obtain⟨ax2,m,z,C,x⟩:=u nx' S' h2;exact⟨ax2,m,z,h1.mono fun e s he=>by grind,x⟩
    | exit i=>exact⟨_,nx',S',h1.mono fun e s he=>by grind,h2⟩
    | goto i=>exact⟨_,nx',S',h1.mono fun e s he=>by grind,h2⟩
    | ret=>exact⟨_,nx',S',h1.mono fun e s he=>by grind,h2⟩
    | aU v=>exact⟨_,nx',S',h1.mono fun e s he=>by grind,h2⟩
 obtain⟨ax,nx',S',h1,h2⟩:=o n nx S h;exact⟨ax,nx',S',SW.rounds n h1,h2⟩
theorem GJ {e:js}(l:e.OK P E){nm:Nat}{f:AV}{args:List AV}{H:aj}{R:AV->List (Nat×Option an)->List Nat->Prop}(h:rM Fr e nm f args H R):DV P E nm f args H R:=by
 unfold rM at h;split at h
 . rename_i g m y
   dsimp only at h;split at h
   . rename_i a i
     cases s:Fr g with
     | true =>
       rw[s] at h;simp only[zbN] at h;obtain⟨j,D,z,A,c⟩:=l.C _ _ _ _ _ h;split at c
       . rename_i B n u
         split at c
         . rename_i o t x
           cases d:(beq u o && ((t.all fun e=>e.all hU) && ble (nm+2) 16777216)) with
           | false=>rw[d] at c;exact c.elim
           | true =>
             rw[d] at c;simp only[zbe] at d;have p:=zbl d.1;subst p;exact DV.new (K0:=B) (es:=t) i ⟨_,_,_,A,rfl,x⟩ d.2.1 d.2.2 c
         . exact c.elim
       . exact c.elim
     | false =>
       rw[s] at h;refine DV.pure i (l.P _ _ _ h) fun j b=>?_
       cases j with
       | ret v=>exact⟨v,rfl,b⟩
       | aU v=>exact b.elim
   . rename_i F
     split at h
     . rename_i a i
       refine DV.flat i (l.P _ _ _ h) fun j b=>?_
       cases j with
       | ret v =>
         dsimp only at b;cases k:v.flat with
         | false=>rw[k] at b;exact b.elim
         | true=>rw[k] at b;exact⟨v,rfl,k,b⟩
       | aU v=>exact b.elim
     . exact h.elim
 . exact h.elim
theorem Gs (i:bZ P E)(b:P.follows .mixedOrders=true){e:js}(f:e.OK P E)(j:Nat->List Nat):∀(d:Nat) (a:Code) (K:AX->Nat->St->Prop) (nx:Nat) (S:St),um E j e.C (rM Fr e) d a K nx S->DW P E false nx (.loop a) K S
 | 0,_,_,_,_,h=>h.elim
 | d + 1, a, K, nx, S, h => by
   have c:∀K nx S,ew E _ (rM Fr e) _ a K nx S->DW P E _ _ _ K S:=fun K nx S c=>om i b f.C (fun _ _ _ _ _ h=>GJ f h) (Gs i b f j d) _ c
   simp[um] at h;split at h
   . exact Ki c h
   exact Ki (fun K nx S h=>Hl (fun nx S h=>c K _ S h) _ _ S h) h
theorem GH (g:bZ P E)(b:P.follows .mixedOrders=true){e:js}(d:e.OK P E){f:FuncId}{args:List AV}{H:aj}{nx:Nat}{K:Func->AX->Nat->St->Prop}(h:rL P E Fr Fz e f args H nx K) :
 ∃a code,P.funcs[f]? = some a∧a.body=some code∧args.length<2 ^ 20∧DW P E false nx code (K a) (St.init args a.ntmps H 0):=by
 unfold rL at h;split at h
 . rename_i a i
   split at h
   . rename_i code j
     cases c:(ble args.length a.ntmps && blt a.ntmps 1000000) with
     | false=>grind
     | true =>
       rw[c] at h;simp only[zbe] at c;have n:=zbb c.1;have l:a.ntmps<1000000:=by simp_all
       refine⟨a,code,i,j,aa,?_⟩;rw[uJ c.1];exact om g b d.C (fun _ _ _ _ _ h=>GJ d h) (Gs g b d _ 8) _ (rN (sa (gp (fun _ _ h=>AV.gm h) h)))
   grind
 grind
theorem xz (j:∀g T args v,Kn g=some T->T args=some v->DP P E g args (· = .ret v))(c:∀g cap,DP P E g cap (· = .ret (.ao []))->DP P E cg [.fn (.func g) [] cap] (· = .ret (.int .i64 0)))
 {e:js}(m:e.OK P E){g:FuncId}{args:List AV}{Q:AE->Prop}(h:known Kn cg e g args Q):DP P E g args Q:=by
 unfold known at h;split at h
 . rename_i T o
   split at h
   . rename_i v k
     exact(j _ _ _ _ o k).mono fun f a=>by subst a;exact AV.kJ h
   grind
 split at h
 . rename_i n cap
   cases d:beq g cg with
   | false=>rw[d] at h;exact h.elim
   | true =>
     rw[d] at h;obtain rfl:=zbl d;obtain⟨f,p,b⟩:=m.P _ _ _ h;split at b
     . exact(c n cap ⟨_,p,rfl⟩).mono fun f a=>by subst a;exact b
     . exact b.elim
 . exact h.elim
theorem Hh {nm:Nat}{o:an}:∀{l:List AV},fT (fC nm o) l (l.map (p9 nm o))
 | []=>trivial
 | x::l=>⟨BQ _ o x,Hh⟩
theorem Ig (f:∀g T args v,Kn g=some T->T args=some v->DP P E g args (· = .ret v))(b:∀g cap,DP P E g cap (· = .ret (.ao []))->DP P E cg [.fn (.func g) [] cap] (· = .ret (.int .i64 0)))
 {e:js}(i:e.OK P E){g:FuncId}{nx:Nat}{R:AE->aj->Nat->Prop}:∀(d:Nat) (args:List AV) (H:aj),xx Kn cg e g nx R d args H->DC P E g args H nx R
 | 0,_,_,h=>h.elim
 | d + 1, args, H, h => by
   unfold xx at h;split at h
   . rename_i a l
     exact DC.pure l (xz f b i h) (ag)
   split at h
   . exact h.elim
   . split at h
     . rename_i o m
       exact DC.rS m Hh (Ig f b i d _ _ h)
     . exact h.elim
theorem GK (r:bZ P E)(c:P.follows .mixedOrders=true)(b:∀(g:Nat) (p:Func),P.funcs[g]? = some p->p.name ≠ "runtime.NumGoroutine")
 (u:∀g T args v,Kn g=some T->T args=some v->DP P E g args (· = .ret v))(d:∀g cap,DP P E g cap (· = .ret (.ao []))->DP P E cg [.fn (.func g) [] cap] (· = .ret (.int .i64 0))):∀n,(ev P E Kn cg Fr Fz Pu n).OK P E
 | 0=>⟨fun _ _ _ _ _ h=>h.elim,fun _ _ _ h=>h.elim⟩
 | n + 1 => by
   have l:=GK r c b u d n
   constructor
   . intro g args H B R h
     change Bm P E Kn cg Fr Fz Pu (ev P E Kn cg Fr Fz Pu n) g args H B R at h
     unfold Bm at h;cases t:xv Kn cg g with
     | true =>
       rw[t] at h;simp only[zbN] at h;split at h
       . rename_i a w
         exact DC.pure w (xz u d l h) fun y k=>k
       . split at h
         . rename_i a w
           obtain⟨y,m,i⟩:=xz u d l h;cases D:y.flat with
           | false=>rw[D] at i;exact Ig u d l 10 _ _ i
           | true=>rw[D] at i;exact DC.flat w ⟨y,m,rfl⟩ fun J K=>by subst K;exact⟨D,i⟩
         . exact h.elim
     | false =>
       rw[t] at h;simp only[zb0] at h;have I:rL P E Fr Fz (ev P E Kn cg Fr Fz Pu n) g args H B (fun p=>oV E p R)->DC P E g args H B R:=fun h=>by
        obtain⟨p,x,m,i,C,F⟩:=GH r c l h;exact DC.nC r m i (b _ _ m) C (F.mono fun e _ s A=>Kg A)
       split at h
       . split at h
         . rename_i a w
           exact DC.pure w (l.P _ _ _ h) fun y k=>k
         . exact I h
       . exact I h
   . intro g args Q h
     change Bn P E Kn cg Fr Fz (ev P E Kn cg Fr Fz Pu n) g args Q at h
     unfold Bn at h;cases t:xv Kn cg g with
     | true=>rw[t] at h;exact xz u d l h
     | false =>
       rw[t] at h;obtain⟨p,x,m,i,C,F⟩:=GH r c l h;exact DP.nC r m i (b _ _ m) C (F.mono fun e _ s A=>Kf A)
end
end Go.Ago
end
section
namespace Go.Ago
open List Nat
def AE.still (b:AE):Prop:=∀(c a:Ctx) (w:World) (e:Ending),a.aq=c.aq->lT c w b e->lT a w b e
theorem ZG {cs:List AV}(h:(cs.all hU)=true):AE.still (.ret (.agg cs)):=by
 intro c l w e k a;cases e<;>first|exact a.elim|skip
 cases a with
 | agg j g =>
   exact Rel.agg j fun i x v b d=>w6 k (g i x v b d) (zbr.1 h x (zby b))
variable {P:Program} {E:Env}
theorem AC.BD {g:FuncId}{args l:List AV}{H u:aj}{nx d:Nat}{R R0:AE->aj->Nat->Prop}(ρ:Nat->Nat)(h:AC P E g l u d R0)
 (hr:args=l.map (AV.r2 ρ))(hl:l.all (AV.l2 d)=true)(Z:∀k o,u.get k=some o->k<d∧H.get (ρ k)=some o∧o.dT)
 (hi:∀k k' o o',u.get k=some o->u.get k'=some o'->ρ k=ρ k'->k=k')
 (hq:∀L H' F,R0 L H' F->AE.still L∧∃H2,tI ρ u H' H H2∧R L H2 nx):AC P E g args H nx R:=by
 refine⟨h.1,fun c w vs p hf T=>?_⟩
 have m:∀k,k<d->(⟨fun k=>if k<d then c.f (ρ k) else none,c.aq⟩:Ctx).f k=c.f (ρ k):=fun k r=>if_pos r
 have hbare:(⟨fun k=>if k<d then c.f (ρ k) else none,c.aq⟩:Ctx).bare=c.bare:=rfl
 have hw0:aN E.bS ⟨fun k=>if k<d then c.f (ρ k) else none,c.aq⟩ w u:=by
  refine⟨p.bN,fun k B e=>?_,fun k o e=>?_,fun k k' o o' B Y e e' f f' i=>?_,fun g cs e=>?_⟩
  . by_cases r : k < d
    . rw[m k r] at e;exact p.bW _ B e
    grind
  . obtain ⟨K, G, g3⟩ := Z k o e
    obtain⟨B,A,b2,O⟩:=p.obj _ _ G;exact⟨B,(m k K).trans A,b2,fM.dT (c:=c) rfl O g3⟩
  . obtain ⟨K, G, _⟩ := Z k o e
    obtain⟨g1',g2',_⟩:=Z k' o' e';rw[m k K] at f;rw[m k' g1'] at f';exact hi k k' o o' e e' (p.inj _ _ _ _ B Y G g2' f f' i)
  . have := p.bS g cs e
    cases this with
    | bm z J Q h4=>exact .bm z J Q h4
 have hr0:aP ⟨fun k=>if k<d then c.f (ρ k) else none,c.aq⟩ w l vs:=by
  subst hr;exact qB (c:=c) (f:=AV.r2 ρ) (fun y v a b=>sL (c:=c) (c':=⟨fun k=>if k<d then c.f (ρ k) else none,c.aq⟩) (ρ:=ρ) (n:=d) rfl m a b) hl T.1 T.2
 have D:∀b,Own ⟨fun k=>if k<d then c.f (ρ k) else none,c.aq⟩ u b->∃k I B,u.get k=some I∧H.get (ρ k)=some I∧c.f (ρ k)=some B∧B.b=b:=by
  rintro b ⟨k,o,B,r,S,rfl⟩
  obtain⟨K,G,_⟩:=Z k o r;rw[m k K] at S;exact⟨k,o,B,r,G,S,rfl⟩
 have t:∀b,Own ⟨fun k=>if k<d then c.f (ρ k) else none,c.aq⟩ u b->Own c H b:=fun b i=>by
  obtain⟨k,o,B,_,J,Q,h4⟩:=D b i;exact⟨ρ k,o,B,J,Q,h4⟩
 refine(h.2 _ w vs hw0 (fun k r=>if_neg (Nat.not_lt.2 r)) hr0).mono ?_
 rintro e w' ⟨M,H',F,L,q,U,_,_,her,hR⟩
 obtain⟨hfl,H2,N,hR2⟩:=hq L H' F hR;have W:∀b,c.aq b->w'.heap[b]? = w.heap[b]?:=fun b i=>q.other b (p.bN b i) fun X=>p.kQ i (t b X)
 have V:c.le ⟨c.f,M.aq⟩:=⟨fun _ _ e=>e,fun b i=>q.aq b i⟩
 have C:∀{x v},Rel c w x v->Rel ⟨c.f,M.aq⟩ w' x v:=fun hr=>hr.mono V W
 have s:∀j o,H2.get j=some o->∃o1,H.get j=some o1:=fun j o e=>by
  rcases N j o e with⟨z,_⟩|⟨k,I,z,rfl,_⟩
  . grind
  grind
 refine⟨⟨c.f,M.aq⟩,H2,nx,L,⟨fun _ _=>rfl,fun b i=>q.aq b i,q.os,q.tape,q.output,q.size,fun b i hn=>q.other b i fun X=>hn (t b X),fun b i=>?_,fun b i=>?_⟩,
  ⟨U.bN,fun k B e=>zbJ (p.bW k B e) q.size,fun j o e=>?_,fun k k' o o' B Y e e' f f' i=>?_,fun g cs e=>C (p.bS g cs e)⟩,zbm _,hf,?_,hR2⟩
 . rcases q.ez b i with g | g | g
   . grind
   . grind
   omega
 . obtain ⟨j, o, B, e1, e2, rfl⟩ := i
   obtain⟨o1,e3⟩:=s j o e1;exact .inl ⟨j,o1,B,e3,e2,rfl⟩
 . rcases N j o e with ⟨z, J⟩ | ⟨k, I, z, rfl, J, Q⟩
   . obtain ⟨B, A, b2, O⟩ := p.obj j o z
     have hno:¬Own ⟨fun k=>if k<d then c.f (ρ k) else none,c.aq⟩ u B.b:=fun X=>by
      obtain⟨k,I,Y,K,G,g3,g4⟩:=D _ X;exact J k I K (p.inj _ _ _ _ Y B G z g3 A g4)
     refine⟨B,A,fun hi=>?_,O.mono (q.other _ (p.bW _ _ A) hno) C (fun b i=>⟨V.aq b i,W b i⟩)⟩
     rcases q.ez _ hi with g|g|g
     . grind
     . grind
     . have:=p.bW _ _ A;omega
   . obtain ⟨B, A, b2, O⟩ := U.obj k o J
     have r:=(Z k I z).1;exact⟨B,((q.f k r).trans (m k r)).symm.trans A,b2,fM.dT (c:=M) rfl O Q⟩
 . obtain ⟨o1, e1⟩ := s k o e
   obtain⟨o2,e2⟩:=s k' o' e';exact p.inj _ _ _ _ B Y e1 e2 f f' i
 . exact hfl M ⟨c.f,M.aq⟩ w' e rfl her
theorem DC.BD {g:FuncId}{args b:List AV}{H d:aj}{nx c:Nat}{R i:AE->aj->Nat->Prop}(ρ:Nat->Nat)(h:DC P E g b d c i)
 (q:args=b.map (AV.r2 ρ))(p:b.all (AV.l2 c)=true)(j:∀k o,d.get k=some o->k<c∧H.get (ρ k)=some o∧o.dT)
 (hi:∀k k' o o',d.get k=some o->d.get k'=some o'->ρ k=ρ k'->k=k')
 (m:∀e H' f,i e H' f->AE.still e∧∃H2,tI ρ d H' H H2∧R e H2 nx):DC P E g args H nx R:=by
 obtain⟨e,H',f,r,s⟩:=h;obtain⟨t,H2,u,l⟩:=m _ _ _ s;exact⟨e,H2,nx,AC.BD _ r q p j hi (fun a h n j=>by grind),l⟩
theorem DC.G9 {g:FuncId}{args a:List AV}{H:aj}{nx k:Nat}{o:an}{R:AE->aj->Nat->Prop}{i:AE->aj->Nat->Prop}(h:DC P E g a (.put 0 (some o) .nil) 1 i)
 (l:args=a.map (AV.r2 fun _=>k))(p:a.all (AV.l2 1)=true)(A:H.get k=some o)(w:o.dT)
 (n:∀f H' c,i f H' c->AE.still f∧∃o',H'.get 0=some o'∧o'.dT∧R f (.put k (some o') H) nx):DC P E g args H nx R:=by
 have q:∀j d,(Tr.put 0 (some o) Tr.nil:aj).get j=some d->j=0∧d=o:=by
  intro j d e;rw[Tr.get] at e;cases b:beq j 0 with
  | true=>simp_all
  | false=>rw[b] at e;cases e
 refine DC.BD (fun _=>k) h l p (fun j d e=>?_) (fun j x d y e z _=>?_) fun f H' c m=>?_
 . grind
 . grind
 . obtain ⟨t, o', s, u, v⟩ := n f H' c m
   refine⟨t,_,fun j d e=>?_,v⟩
   rw[Tr.get] at e;cases b:beq j k with
   | true =>
     rw[b] at e;cases e;exact .inr ⟨0,o,rfl,(zbl b).symm,s,u⟩
   | false =>
     rw[b] at e;refine .inl ⟨e,fun B C _ r=>?_⟩
     subst r
     simp_all
theorem DC.oG {g:FuncId}{args:List AV}{H:aj}{nx:Nat}{R R':AE->aj->Nat->Prop}(h:DC P E g args H nx R)(i:∀a H' n,R a H' n->∃x y,a = .ret x∧n0 x y∧R' (.ret y) H' n):DC P E g args H nx R':=by
 obtain⟨a,H',b,⟨s,j⟩,k⟩:=h;obtain⟨x,y,rfl,l,m⟩:=i _ _ _ k;refine⟨.ret y,H',b,⟨s,fun c w C p q d=>(j c w _ p q d).mono ?_⟩,m⟩
 rintro e B ⟨t,o,u,D,r,z,v,A,f,rfl,rfl,rfl⟩
 refine⟨t,o,u,.ret y,r,z,v,A,?_,rfl,rfl,rfl⟩;cases e<;>first|exact f.elim|exact l.rel f
theorem DC.SG {g:FuncId}{args:List AV}{H:aj}{nx:Nat}{R R':AE->aj->Nat->Prop}(h:DC P E g args H nx R)(W:∀A H' n,R A H' n->∃nm o x y,A = .ret x∧H'.get nm=some o∧fC nm o x y∧R' (.ret y) (.put nm none H') n):DC P E g args H nx R':=by
 obtain⟨A,H',u,⟨X,U⟩,V⟩:=h;obtain⟨nm,o,x,y,rfl,D,G,h4⟩:=W A H' u V;refine⟨.ret y,.put nm none H',u,⟨X,fun c w vs hw hf N=>(U c w vs hw hf N).mono ?_⟩,h4⟩
 rintro e s ⟨d,r,Y,a2,j,l,k3,k4,Q,rfl,rfl,rfl⟩
 obtain⟨B,J,b2,b3⟩:=l.obj nm o D;have z:d.le ⟨d.f,fun b=>d.aq b∨b=B.b⟩:=⟨fun _ _ e=>e,fun _ a => .inl a⟩
 have p:∀{x v},Rel d s x v->Rel ⟨d.f,fun b=>d.aq b∨b=B.b⟩ s x v:=fun O=>O.mono z (fun _ _=>rfl)
 have t:Own d r B.b:=⟨nm,o,B,D,J,rfl⟩;have i:∀k b,(Tr.put nm none r:aj).get k=some b->k≠nm∧r.get k=some b:=by
  intro k b e;rw[Tr.get] at e;cases a:beq k nm with
  | true=>grind
  | false=>rw[a] at e;exact⟨(fun K=>by simp_all),e⟩
 have L:aN E.bS ⟨d.f,fun b=>d.aq b∨b=B.b⟩ s (.put nm none r):=by
  refine⟨fun b a=>?_,l.bW,fun k b e=>?_,fun k k' F o2 q B2 e e' f Z a=>l.inj _ _ _ _ q B2 (i _ _ e).2 (i _ _ e').2 f Z a,fun g cs e=>p (l.bS g cs e)⟩
  . rcases a with a | rfl
    . exact l.bN b a
    . exact l.bW _ _ J
  . obtain ⟨M, m⟩ := i k b e
    obtain⟨q,S,c2,c3⟩:=l.obj k b m;refine⟨q,S,fun C=>?_,c3.mono rfl p (fun b a=>⟨z.aq b a,rfl⟩)⟩
    rcases C with C|C
    . grind
    . exact M (l.inj _ _ _ _ q B m D S J C)
 have hv:∀v,Rel d s x v->Rel ⟨d.f,fun b=>d.aq b∨b=B.b⟩ s y v:=by
  intro v O;rcases G with rfl|T
  . grind
  . refine (ks (l.only D) (I := fun b => d.aq b ∨ b = B.b) (fun b a => .inl a) (fun b a => ?_) 20 O T).mono ⟨fun _ _ e => (by cases e), fun _ a => a⟩ (fun _ _ => rfl)
    obtain⟨k,F,q,m,K,rfl⟩:=a;rw[Tr.get] at m;cases b:beq k nm with
    | true =>
      have:=zbl b
      grind
    | false=>rw[b] at m;cases m
 refine⟨⟨d.f,fun b=>d.aq b∨b=B.b⟩,.put nm none r,Y,.ret y,⟨j.f,fun b a => .inl (j.aq b a),j.os,j.tape,j.output,j.size,j.other,fun b a=>?_,fun b a=>?_⟩,L,k3,k4,?_,rfl,rfl,rfl⟩
 . rcases a with a | rfl
   . exact j.ez b a
   . exact .inr (j.own _ t)
 . obtain ⟨k, F, q, m, K, rfl⟩ := a
   exact j.own _ ⟨k,F,q,(i _ _ m).2,K,rfl⟩
 . cases e<;>first|exact Q.elim|exact hv _ Q
theorem DC.one {g:FuncId}{args:List AV}{H:aj}{nx:Nat}{R:AE->aj->Nat->Prop}(h:DC P E g args H nx R):∃c H' n,DC P E g args H nx (fun a h m=>a=c∧h=H'∧m=n)∧R c H' n:=by
 obtain⟨c,H',b,e,d⟩:=h;exact⟨c,H',b,⟨c,H',b,e,rfl,rfl,rfl⟩,d⟩
end Go.Ago
end
section
namespace Go.Ago
open List Nat
variable {P:Program} {E:Env} {rr:Bool}
theorem dq.trans {m:Nat}{S S' b:St}(e:dq P E m S S')(d:dq P E m S' b):dq P E m S b:=by
 intro c a w h;obtain⟨n,i,j,k,l,f⟩:=e c a w h;obtain⟨o,p,q,r,s,g⟩:=d _ a w f
 grind
inductive iQ (S:St):St->Prop
 | r:iQ S S
 | z (nm:Nat) (o:an) (sl:List (Nat×AV)) (hl:List (Nat×an)) (ho:S.heap.get nm=some o) (h1:uA nm o S sl) (h2:uz nm o S hl):iQ S ⟨gF sl,S.bL,gT hl,0⟩
theorem iQ.wk {m nx:Nat}{S Z:St}(h:iQ S Z):dq P E m (S.at_ nx) (Z.at_ nx):=by
 cases h with
 | r=>exact fun c a w h=>⟨c,fun _ _=>rfl,fun _ h=>h,fun _ h => .inl h,fun _ h=>h,h⟩
 | z i o j l d g f=>exact dq.freeze _ o d rfl rfl (fun t y e=>BK g t y (oI e)) (fun k b e=>BH f k b (nA e))
theorem DW.Ct (D:bZ P E)(j:P.follows .mixedOrders=true){α:Type}(k u:List Nat)(p:Nat)(a:α->List (Nat×AV))(q:α->List (Nat×an))(b:List (Nat×lX))(v:α->Nat)(A:α)
 {d:Code}{K:AX->Nat->St->Prop}{nx:Nat}{S:St}
 (h:lH S.heap u fun g=>kN S k fun l=>(iH (a A) fun m=>er m l fun i=>er (q A) g fun c=>mX nx (nx+p) b S i c) ∧
   ∀ x, iH (a x) fun m => er m l fun i => mi i fun t => er (q x) g fun c => oH c fun B => fO P E rr d (fun e f S'=>match e with
    | .normal=>∃n Z,iQ S' Z∧(iH (a n) fun m=>er m l fun i=>er (q n) g fun c=>mX nx (nx+p) b Z i c)∧S'.bL=S.bL∧v n<v x
    | e=>K e f S') (nx+p) ⟨t,S.bL,B,0⟩):DW P E rr nx (.loop d) K S:=by
 obtain⟨g,h⟩:=ns h;obtain⟨l,F,h⟩:=qi h;have w:nx≤nx+p:=zco _ _;refine DW.loop (fun x=>⟨gF (a x++l),S.bL,gT (q x++g),0⟩) _ v _ w (oe w (eH (eH (jg F)))) fun x=>?_
 have:=qt (eH (nB (eH (jg (h x)))));refine(DW.gr D j _ this).mono fun e f S' y=>?_
 cases e with
 | normal =>
   obtain⟨n,Z,z,G,I,H⟩:=y;refine⟨n,?_,H⟩;have s:Z.bL=S.bL:=by
    cases z<;>omega
   have:=oe (P:=P) (E:=E) (nx:=f) w (eH (eH (jg G)));rw[s] at *;exact z.wk.trans this
 | _=>exact y
end Go.Ago
end
section
namespace Go.Ago
open List Nat
def rp (a b:an):Prop:=a=b∨∃g f c,a = .arr g f∧b = .arr g c∧c.length=f.length∧∀(i:Nat) e d,f[i]? = some e->c[i]? = some d->d.length=e.length∧∀(j:Nat) x y,e[j]? = some x->d[j]? = some y->Told x y
theorem rp.rel {c:Ctx}{w:World}{B:fo}{a b:an}(h:rp a b)(k:fM c w B a):fM c w B b:=by
 rcases h with rfl|⟨G,d,z,rfl,rfl,F,C⟩
 . exact k
 . obtain ⟨g, t, o, p, q, H, s⟩ := k
   refine⟨g,t,o,p,q,by grind,fun i u x=>?_⟩
   have e:i<d.length:=by grind
   obtain⟨l,r⟩:=C i d[i] u (zbf e) x;obtain⟨E,A⟩:=s i d[i] (zbf e);refine⟨l.trans E,fun j y m=>?_⟩
   have f:j<d[i].length:=by rw[<-l];exact(zbn.1 m).1
   obtain⟨v,D,n⟩:=A j d[i][j] (zbf f);exact⟨v,D,r j _ y (zbf f) m c w v n⟩
def zy (S:St):List (Nat×AV)->Prop
 | []=>True
 | (t,y)::l=>(∃x,S.bu.get t=some x∧Told x y)∧zy S l
def zx (S:St):List (Nat×an)->Prop
 | []=>True
 | (k,b)::l=>(∃a,S.heap.get k=some a∧rp a b)∧zx S l
theorem Ed {S:St}:∀{l:List (Nat×AV)},zy S l->∀t y,(t,y)∈l->∃x,S.bu.get t=some x∧Told x y
 | [],_,_,_,h=>by cases h
 | (c, d) :: l, b, t, y, h => by
   rcases zbB.1 h with h|h
   . cases h;exact b.1
   exact Ed b.2 t y h
theorem Ec {S:St}:∀{l:List (Nat×an)},zx S l->∀k b,(k,b)∈l->∃a,S.heap.get k=some a∧rp a b
 | [],_,_,_,h=>by cases h
 | (e, f) :: l, d, t, y, h => by
   rcases zbB.1 h with h|h
   . cases h;exact d.1
   exact Ec d.2 t y h
section
variable {P:Program} {E:Env} {rr:Bool}
theorem dq.told {m:Nat}{S S':St}(l:S'.bL=S.bL)(I:S'.next=S.next)(u:∀t y,S'.bu.get t=some y->∃x,S.bu.get t=some x∧Told x y)(i:∀k b,S'.heap.get k=some b->∃a,S.heap.get k=some a∧rp a b):dq P E m S S':=by
 intro c a w h;refine⟨c,fun _ _=>rfl,fun _ h=>h,fun _ h => .inl h,?_,⟨h.size.trans l.symm,fun t y e=>?_,h.defers,⟨h.bC.bN,h.bC.bW,fun k b e=>?_,fun k J o K B H e z f n p=>?_,h.bC.bS⟩,fun k L=>h.fresh k aa⟩⟩
 . rintro b ⟨k, o, B, q, r, rfl⟩
   obtain⟨j,d,_⟩:=i k o q;exact⟨k,j,B,d,r,rfl⟩
 . obtain ⟨x, d, g⟩ := u t y e
   obtain⟨v,A,s⟩:=h.bu t x d;exact⟨v,A,g c w v s⟩
 . obtain ⟨j, d, g⟩ := i k b e
   obtain⟨B,D,C,F⟩:=h.bC.obj k _ d;exact⟨B,D,C,g.rel F⟩
 obtain⟨j,d,_⟩:=i k o e;obtain⟨G,g,_⟩:=i _ _ z;exact h.bC.inj k _ _ _ B _ d g f n p
theorem DW.told (c:List (Nat×AV))(a:List (Nat×an)){code:Code}{K:AX->Nat->St->Prop}{nx:Nat}{S:St}(f:zy S c)(g:zx S a)
 (h:DW P E rr nx code K ⟨gF c,S.bL,gT a,0⟩):DW P E rr nx code K S:=
 DW.wk (S':=⟨gF _,S.bL,gT _,0⟩) (dq.told rfl rfl (fun t y e=>Ed f t y (oI e)) (fun k b e=>Ec g k b (nA e))) h
end
end Go.Ago
end
section
namespace Go.Ago
open List Nat
variable {P:Program} {E:Env} {rr:Bool}
def fG (l:List (Int×AV))(k:Int):List (Int×AV):=l.filter fun p=>!decide (p.1=k)
theorem nv {l:List (Int×AV)}{k j:Int}{x:AV}:(j,x)∈fG l k↔(j,x)∈l∧j≠k:=by simp[fG]
theorem Kh {l:List (Int×AV)}{k:Int}(h:cu l):cu (fG l k):=zcO (filter_sublist.map _) h
theorem Ve {l:List (Int×AV)}{k:Int}{x:AV}(h:(k,x)∈l):(fG l k).length<l.length:=
 length_filter_lt_length_iff_exists.2 ⟨(k,x),h,ag⟩
section
variable {G:eZ} {c:Ctx} {w:World} {H:aj}
theorem We (u:aN G c w H){z:Nat}{O:Option (Int×AV)}{l:List (Int×AV)}{B:fo}(hf:c.f z=some B)(I:H.get z=some (.cm O l))(S:z+1<2 ^ 24)(ty:TypeId) :
 B.s = 0 ∧ ((l=[]∧(Instr.next (.pointer (some ⟨B.b,0,none⟩)) false ty).run P w = .ok (.tuple #[.bool false]) w) ∨
 ∃k x v w',(k,x)∈l∧(Instr.next (.pointer (some ⟨B.b,0,none⟩)) false ty).run P w = .ok (.tuple #[.bool true,.int .i64 k,v]) w' ∧
  Ext c w H c w' (H.set 24 z (some (.cm (some (k,x)) (fG l k))))∧aN G c w' (H.set 24 z (some (.cm (some (k,x)) (fG l k))))∧Rel c w' x v):=by
 obtain⟨B',K,hi,⟨s0,z0⟩,m,d,a,seen,a1,T,a3,X,a5,⟨f,a6,a7,a8⟩,_⟩:=u.obj z _ I;rw[hf] at K;cases K;refine⟨s0,?_⟩;have i:(leftOf d seen).toList=d.toList.filter fun e=>!seen.contains e.born:=by unfold leftOf;simp
 rcases run_next_at (P:=P) w ty B.b m a a seen d a a1 a3 X.lt (zbm _) with⟨h1,h2⟩|⟨e,C,L,Q,J⟩
 . refine .inl ⟨?_, h2⟩
   have:(leftOf d seen).toList=[]:=zbh aa;rw[i] at this;refine zcE.2 fun p R=>?_
   grind
 . rw [i] at C
   obtain⟨k,x,o,rfl⟩:=a7 e C;have D:=(a6 k x o).2;have F:f k∈d.toList:=(zbY.1 C).1;have r:aN G c L H∧Ext c w H c L H:=by
    rcases Q with rfl|rfl
    . exact⟨u,Ext.refl c L H⟩
    . exact⟨u.drew,Ext.yr c w H⟩
   obtain⟨r,g⟩:=r;obtain ⟨e1, e2⟩ := r.bV I hf S (.mapIter (some m) a (seen.push (f k).born) a) (.cm (some (k, x)) (fG l k)) (fun w' hh hrel n=>by
    have U:w'.heap[m]? = some (.map d a):=(n m T).trans ((g.aq u m T).trans a3);have V:∀y v,Rel c.bare w y v->Rel c.bare w' y v:=fun y v h=>(h.mono (c':=c.bare) (w':=L) (.refl _) fun b N=>g.aq u b N).mono (.refl _) fun b N=>n b N
    refine⟨⟨s0,z0⟩,m,d,a,seen.push (f k).born,hh,T,U,X,Kh a5,⟨f,fun j y A=>?_,fun e C=>?_,fun j y A=>V _ _ (a8 j y (nv.1 A).1)⟩,fun j y A=>?_⟩
    . obtain ⟨Y, g2⟩ := nv.1 A
      obtain⟨W,q2⟩:=a6 j y Y;refine⟨zbY.2 ⟨(zbY.1 W).1,?_⟩,q2⟩;have q3:=(zbY.1 W).2;simp only[Array.contains_push,Bool.not_or,zbe];refine⟨q3,?_⟩;simp only[zb4,zcp,ne_eq];intro hborn
      
      have Z:f j=f k:=by
       obtain⟨p,R⟩:=zcN.1 (zbY.1 W).1;obtain⟨q,hq⟩:=zcN.1 F;have hpl:p<(d.toList.map (·.born)).length:=by rw[zba];exact(zbn.1 R).1
       have M:p=q:=(getElem?_inj hpl X.nd).1 bj;subst M;rw[R] at hq
       injection hq
      grind
    . obtain ⟨Y, g2⟩ := zbY.1 C
      simp only[Array.contains_push,Bool.not_or,zbe,zb4,zcp,ne_eq] at g2;obtain⟨j,y,A,rfl⟩:=a7 e (zbY.2 ⟨Y,by grind⟩)
      refine⟨j,y,nv.2 ⟨A,?_⟩,rfl⟩
      grind
    grind)
   refine .inr ⟨k,x,(f k).val,_,o,?_,g.trans e1,e2,?_⟩
   . rw[J,D];rfl
   . exact(g.trans e1).rel u (a8 k x o).oJ
end
theorem SW.Wc (hE:bZ P E){id:Nat}{ops:Array Oper}{o1 i:Oper}{t a b:Tmp}(L:ops=#[o1,i])(N:o1.op = .next (.tmp t) false)(g1:o1.guard=none)(J:o1.dst=some a)(U:i.op = .extract (.tmp a) 0)(g2:i.guard=none)(d2:i.dst=some b)
 {S:St}{K:AX->St->Prop}{F:Nat}{cur:Option (Int×AV)}{l:List (Int×AV)}(ha:cv S (some a)=true)(hb:cv S (some b)=true)(hev:S.bu.get t=some (.ptr F 0 0))(Z:S.heap.get F=some (.cm cur l))(h24:ble (F+2) 16777216=true)
 (k0:l=[]->K .normal ⟨.put b (some (.bool false)) (.put a (some (.ao [.bool false])) S.bu),S.bL,S.heap,S.next+2⟩)
 (k1:∀k x,(k,x)∈l->K .normal ⟨.put b (some (.bool true)) (.put a (some (.ao [.bool true,.int .i64 k,x])) S.bu),S.bL,.put F (some (.cm (some (k,x)) (fG l k))) S.heap,S.next+2⟩):SW P E rr (.region id ops false) K S:=by
 intro r hr m hm c j w y;refine wpIn_region ?_;subst L;have M:F+1<2 ^ 24:=by have:=zbb h24;omega
 have hsz:(#[o1,i]:Array Oper).size=2:=rfl;have o:c9 P E c { S with next:=S.next+2 } j w:=⟨y.size,y.bu,y.defers,y.bC,fun k hk=>y.fresh k bj⟩
 have q:∀k,S.next≤k->k<S.next+2->c.f k=none:=fun k N _=>y.fresh k N
 show wpOpsIn (FR r) 0 P #[o1,i] (QS P E m c j w S K) (List.range 2) j w;rw[show List.range 2=[0,1] from rfl]
 simp only[wpOpsIn];rw[show(#[o1,i]:Array Oper)[0]? = some o1 from rfl]
 have G:Region.wanted o1 (yielded #[o1,i] j.tmps)=true:=by simp[Region.wanted,g1]
 dsimp only;rw[if_pos G]
 
 have C:∀(X:Ctx) (g:St) (W:Act) (p:World) (O:Bool) (vs:List AV),Mid P E m c j w S (S.next+1) (S.next+2) X g W p->g.bu.get a=some (.ao (.bool O::vs))->cv g (some b)=true->
  K .normal ⟨.put b (some (.bool O)) g.bu,g.bL,g.heap,g.next⟩->wpOpsIn (FR r) 0 P #[o1,i] (QS P E m c j w S K) [1] W p:=by
  intro X g W p O vs Q Y hdb hk;have := Ar (r := r) (m := m) (c0 := c) (a0 := j) (w0 := w) (S0 := S) (K := K) hE (ops := #[o1, i]) [i] 1 S.next X g W p rfl Q (by
   show gate [o1,i] g i.guard _ _;rw[g2];show lq P E (S.next+1) i g _ K;refine⟨by grind,?_⟩
   rw[U];show(yO (g.ev E (.tmp a)) 0).holds g.heap _ _;rw[show g.ev E (.tmp a) = .ao (.bool O::vs) by show(match g.bu.get a with|some x=>x|none => .any)=_;rw[Y]]
   show K .normal (g.put i.dst (.bool O) g.heap g.next);rw[d2];exact hk)
  exact this
 have n:∀H p,(Instr.next (j.eval (.tmp t)) false o1.type).run P w = .ok H p->(execOp j.eval o1).run P w = .ok (.value H) p:=by
  intro H p h;unfold execOp;rw[N];simp only[Sem.run_bind,h,Result.andThen_ok,Sem.run_pure]
 have hp:=y.ev (.tmp t);rw[show S.ev E (.tmp t) = .ptr F 0 0 by show(match S.bu.get t with|some x=>x|none => .any)=_;rw[hev]] at hp
 generalize hv:j.eval (.tmp t)=pv at hp n
 cases hp with
 | @ptr _ _ _ _ _ B hf =>
   obtain⟨s0,I⟩:=We (P:=P) y.bC hf Z M o1.type;have hpp:(⟨B.b,B.s+(0 * B.sz+0),none⟩:Addr)=⟨B.b,0,none⟩:=by rw[s0];simp
   rw[hpp] at n;have R:∀c,o1.op≠.defer c:=fun c e=>by grind
   rcases I with⟨rfl,d⟩|⟨k,x,v,p,hkx,d,u,hw',T⟩
   . have d := n _ _ d
     refine nU R (fun row V w'' e=>by grind) ?_
     unfold Oper.wp;rw[d];have z:c9 P E c ({ S with next:=S.next+2 }.put o1.dst (.ao [.bool false]) S.heap (S.next+2)) (j.put o1.dst (.tuple #[.bool false])) w:=
      o.put o.defers (fun h=>h) o.bC o.fresh (by rw[J];exact ha) (Rel.ao (vs:=[.bool false]) rfl (aP.cons (.bool false) .nil).2)
     refine C c ({ S with next:=S.next+2 }.put o1.dst (.ao [.bool false]) S.heap (S.next+2)) _ w false [] ⟨(ep.refl m c j w S.heap).jj (ExtM.refl ..) (put_defers ..),zco _ _,zbm _,aa,z,fun k N U=>q k aa U⟩ ?_ hb ?_
     . rw[J];show(Tr.put a (some _) S.bu).get a=_;rw[Tr.get,show beq a a=true from zcK a];rfl
     . have:=k0 rfl;rw[J];exact this
   . have d := n _ _ d
     refine nU R (fun row V w'' e=>by grind) ?_
     unfold Oper.wp;rw[d];have hx:∀{x v},Rel c w x v->Rel c p x v:=fun hr=>u.rel y.bC hr
     have z:c9 P E c ({ S with next:=S.next+2 }.put o1.dst (.ao [.bool true,.int .i64 k,x]) (S.heap.set 24 F (some (.cm (some (k,x)) (fG l k)))) (S.next+2)) (j.put o1.dst (.tuple #[.bool true,.int .i64 k,v])) p:=
      o.put (u.defs y.bC y.defers) hx hw' o.fresh (by rw[J];exact ha) (Rel.ao (vs:=[.bool true,.int .i64 k,v]) rfl (aP.cons (.bool true) (.cons (.int .i64 k) (.cons T .nil))).2)
     refine C c ({ S with next:=S.next+2 }.put o1.dst (.ao [.bool true,.int .i64 k,x]) (S.heap.set 24 F (some (.cm (some (k,x)) (fG l k)))) (S.next+2)) _ p true [.int .i64 k,x] ⟨(ep.refl m c j w S.heap).jj (u.toM fun _ _=>rfl) (put_defers ..),zco _ _,zbm _,aa,z,fun k N U=>q k aa U⟩ ?_ hb ?_
     . rw[J];show(Tr.put a (some _) S.bu).get a=_;rw[Tr.get,show beq a a=true from zcK a];rfl
     . have:=k1 k x hkx;rw[J];exact this
theorem dq.Ss {m nx:Nat}{S:St}{g:Nat}{p:Option (Int×AV)}{l:List (Int×AV)}(s:S.heap.get g=some (.cm p l)):dq P E m (S.at_ nx) ((⟨S.bu,S.bL,.put g (some (.cm none l)) S.heap,0⟩:St).at_ nx):=by
 intro c a w h;have j:∀k o,(Tr.put g (some (.cm none l)) S.heap:aj).get k=some o->(k=g∧o = .cm none l)∨(k≠g∧S.heap.get k=some o):=by
  intro k o e;rw[Tr.get] at e;cases F:beq k g with
  | true=>simp_all
  | false=>rw[F] at e;exact .inr ⟨(fun v=>by simp_all),e⟩
 have d:∀k o,(Tr.put g (some (.cm none l)) S.heap:aj).get k=some o->∃n,S.heap.get k=some n:=fun k o e=>by
  grind
 refine⟨c,fun _ _=>rfl,fun _ h=>h,fun _ h => .inl h,?_,h.size,h.bu,h.defers,⟨h.bC.bN,h.bC.bW,fun k o e=>?_,fun k u o n B D e q=>?_,h.bC.bS⟩,h.fresh⟩
 . rintro b ⟨k, o, B, e, f, rfl⟩
   obtain⟨n,q⟩:=d k o e;exact⟨k,n,B,q,f,rfl⟩
 . rcases j k o e with ⟨rfl, rfl⟩ | ⟨_, e⟩
   . obtain ⟨B, z, A, C, r, t, i, seen, G, H, I, J, K, L, _⟩ := h.bC.obj k _ s
     exact⟨B,z,A,C,r,t,i,seen,G,H,I,J,K,L,fun k x e=>by cases e⟩
   . exact h.bC.obj k o e
 . obtain ⟨M, N⟩ := d k o e
   obtain⟨y,v⟩:=d u n q;exact h.bC.inj k u M y B D N v
theorem dq.zah {m:Nat}{S S' b:St}(e:dq P E m S S')(d:dq P E m S' b):dq P E m S b:=by
 intro c a w h;obtain⟨n,i,j,k,l,f⟩:=e c a w h;obtain⟨o,p,q,r,s,g⟩:=d _ a w f
 grind
theorem DW.xE (F:bZ P E){es:List (Int×AV)}(z:cu es)(L:List (Int×AV)->St)(f:Nat){id:Nat}{ops:Array Oper}{o1 r:Oper}{t a b:Tmp}(i:ops=#[o1,r])(H:o1.op = .next (.tmp t) false)(J:o1.guard=none)(N:o1.dst=some a)(X:r.op = .extract (.tmp a) 0)(g2:r.guard=none)(Z:r.dst=some b)
 {c:Code}{K:AX->Nat->St->Prop}{nx q:Nat}{S:St}(w:ble (q+2) 16777216=true)(O:nx≤f)(h0:dq P E nx (S.at_ nx) ((L es).at_ f))
 (W:∀l,(L l).bu.get t=some (.ptr q 0 0)∧(L l).heap.get q=some (.cm none l)∧cv (L l) (some a)=true∧cv (L l) (some b)=true)
 (g:DW P E rr (f+2) c (fun e d S'=>match e with | .normal=>False|e=>K e d S') ⟨.put b (some (.bool false)) (.put a (some (.ao [.bool false])) (L []).bu),(L []).bL,(L []).heap,0⟩)
 (u:∀l,cu l->(∀p∈l,p∈es)->∀k x,(k,x)∈l->DW P E rr (f+2) c (fun e d S'=>e = .normal∧dq P E nx (S'.at_ d) ((L (fG l k)).at_ f))
   ⟨.put b (some (.bool true)) (.put a (some (.ao [.bool true,.int .i64 k,x])) (L l).bu),(L l).bL,.put q (some (.cm (some (k,x)) (fG l k))) (L l).heap,0⟩) :
 DW P E rr nx (.loop (.seq (.region id ops false) c)) K S:=by
 obtain⟨G,y,I,v,hK⟩:=g;refine⟨G,y,I,?_,by grind⟩
 refine SW.xE (α:={ l:List _ // cu l∧∀p∈l,p∈es }) (fun x=>(L x.1).at_ f) (fun x=>x.1.length) ⟨es,z,fun _ h=>h⟩ h0 (fun x=>O) ?_
 rintro⟨l,m,j⟩
 obtain⟨Q,R,T,U⟩:=W l;refine SW.seq (SW.Wc F i H J N X g2 Z T U Q R w (fun M=>?_) (fun k x n=>?_))
 . subst M
   refine SW.mono v fun e s C=>?_
   grind
 obtain⟨Y,V,S1,o,rfl,A⟩:=u l m j k x n;refine SW.mono o fun e s C=>?_
 obtain⟨rfl,rfl⟩:=C;exact⟨⟨fG l k,Kh m,fun p D=>j p ((zbY.1 D).1)⟩,A,Ve n⟩
theorem DW.si (I:bZ P E)(q:P.follows .mixedOrders=true)(es:List (Int×AV))(g t a b:Nat)(w G:List Nat)(z:Nat)(c:List (Int×AV)->List (Nat×AV))(v:List (Int×AV)->List (Nat×an))(i:List (Nat×lX))
 {id:Nat}{ops:Array Oper}{o1 A:Oper}{f:Code}{K:AX->Nat->St->Prop}{nx:Nat}{S:St}(H:cu es)(u:ops=#[o1,A])(Y:o1.op = .next (.tmp t) false)(g1:o1.guard=none)(W:o1.dst=some a)(Z:A.op = .extract (.tmp a) 0)(V:A.guard=none)(U:A.dst=some b)
 (D:ble (g+2) 16777216=true)(F:cv S (some a)=true)(B:cv S (some b)=true)
 (h:lH S.heap (g::G) fun s=>kN S w fun r=>(iH (c es) fun m=>er m r fun o=>er ((g,.cm none es)::v es) s fun d=>mX nx (nx+z) i S o d) ∧
   (∀l,iH (c l) fun m=>er m r fun o=>mi o fun j=>j.get t=some (.ptr g 0 0)) ∧
   (iH (c []) fun m=>er m r fun o=>mi o fun j=>er ((g,.cm none [])::v []) s fun d=>oH d fun J=>fO P E rr f (fun e n S'=>match e with | .normal=>False|e=>K e n S') (nx+z+2)
     ⟨.put b (some (.bool false)) (.put a (some (.ao [.bool false])) j),S.bL,J,0⟩) ∧
   ∀l,cu l->(∀p∈l,p∈es)->∀k x,(k,x)∈l->iH (c l) fun m=>er m r fun o=>mi o fun j=>er ((g,.cm none l)::v l) s fun d=>oH d fun J=>
    fO P E rr f (fun e n S'=>e = .normal∧S'.heap.get g=some (.cm (some (k,x)) (fG l k))∧S'.bL=S.bL ∧
     (iH (c (fG l k)) fun m=>er m r fun o=>er ((g,.cm none (fG l k))::v (fG l k)) s fun d=>mX nx (nx+z) i ⟨S'.bu,S'.bL,.put g (some (.cm none (fG l k))) S'.heap,0⟩ o d)) (nx+z+2)
    ⟨.put b (some (.bool true)) (.put a (some (.ao [.bool true,.int .i64 k,x])) j),S.bL,.put g (some (.cm (some (k,x)) (fG l k))) J,0⟩) :
 DW P E rr nx (.loop (.seq (.region id ops false) f)) K S:=by
 obtain⟨s,h⟩:=ns h;obtain⟨r,h0,C,y,N⟩:=qi h;have L:nx≤nx+z:=zco _ _;refine DW.xE I H (fun l=>⟨gF (c l++r),S.bL,gT ((g,.cm none l)::v l++s),0⟩) _ u Y g1 W Z V U D L (oe L (eH (eH (jg h0)))) (fun l=>⟨?_,?_,F,B⟩) ?_ (fun l M O k x Q=>?_)
 . exact nB (eH (jg (C l)))
 . show (Tr.put g _ _).get g = _
   rw[Tr.get,zcK];rfl
 . exact DW.gr I q _ (qt (eH (nB (eH (jg y)))))
 have:=qt (eH (nB (eH (jg (N l M O k x Q)))));refine(DW.gr I q f this).mono fun e n S' he=>?_
 obtain⟨rfl,h3,h4,X⟩:=he;refine⟨rfl,(dq.Ss h3).zah ?_⟩;have:=oe (P:=P) (E:=E) (nx:=n) L (eH (eH (jg X)))
 grind
end Go.Ago
end
section
namespace Go.Ago
open List Nat
variable {P:Program} {E:Env} {rr:Bool}
structure mU (P:Program)(E:Env)(S Z:St):Prop where
 wk:∀m nx,dq P E m (S.at_ nx) (Z.at_ nx)
 bL:Z.bL=S.bL
theorem mU.r {S:St}:mU P E S S:=⟨fun _ _=>iQ.wk .r,rfl⟩
theorem mU.z {S:St}(nm:Nat)(o:an)(b:List (Nat×AV))(a:List (Nat×an))(d:S.heap.get nm=some o)(e:uA nm o S b)(c:uz nm o S a):mU P E S ⟨gF b,S.bL,gT a,0⟩:=⟨fun _ _=>iQ.wk (.z _ o _ _ d e c),rfl⟩
theorem mU.t {S:St}(c:List (Nat×AV))(a:List (Nat×an))(d:zy S c)(f:zx S a):mU P E S ⟨gF c,S.bL,gT a,0⟩:=
 ⟨fun _ g=>dq.told rfl rfl (fun t y e=>Ed d t y (oI e)) (fun k b e=>Ec f k b (nA e)),rfl⟩
theorem DW.VA (B:bZ P E)(k:P.follows .mixedOrders=true){α:Type}(l u:List Nat)(r:Nat)(a:α->List (Nat×AV))(p:α->List (Nat×an))(b:List (Nat×lX))(s:α->Nat)(z:α)
 {d:Code}{K:AX->Nat->St->Prop}{nx:Nat}{S:St}
 (h:lH S.heap u fun g=>kN S l fun i=>(iH (a z) fun n=>er n i fun j=>er (p z) g fun c=>mX nx (nx+r) b S j c) ∧
   ∀ x, iH (a x) fun n => er n i fun j => mi j fun v => er (p x) g fun c => oH c fun C => fO P E rr d (fun e f S'=>match e with
    | .normal=>∃m Z,mU P E S' Z∧(iH (a m) fun n=>er n i fun j=>er (p m) g fun c=>mX nx (nx+r) b Z j c)∧S'.bL=S.bL∧s m<s x
    | e=>K e f S') (nx+r) ⟨v,S.bL,C,0⟩):DW P E rr nx (.loop d) K S:=by
 obtain⟨g,h⟩:=ns h;obtain⟨i,D,h⟩:=qi h;have t:nx≤nx+r:=zco _ _;refine DW.loop (fun x=>⟨gF (a x++i),S.bL,gT (p x++g),0⟩) _ s _ t (oe t (eH (eH (jg D)))) fun x=>?_
 have:=qt (eH (nB (eH (jg (h x)))));refine(DW.gr B k _ this).mono fun e f S' w=>?_
 cases e with
 | normal =>
   obtain⟨m,Z,y,G,H,A⟩:=w;refine⟨m,?_,A⟩;have:=oe (P:=P) (E:=E) (nx:=f) t (eH (eH (jg G)));rw[y.bL,H] at *;exact(y.wk _ _).trans this
 | _=>exact w
end Go.Ago
end
namespace Go.Ago
open Go.Proofs List Nat Tryz
attribute [local irreducible] bA bw aV bp bG wr aZ bF comp DC DP DW DV DY
structure Fo where
 spec:List UInt8
 num:Bool
 width:Int
 digits:Int
 scale:Int
 signed:Bool
 cA:List Int
 Rf:Int
 first:Int
 Q0:Bool
 fill:Int
 R5:Int
 hs:spec.length≤32
 hr:cA.length≤40
abbrev Fo.cells (f:Fo):List AV:=[.str f.spec,.bool f.num,i64 f.width,i64 f.digits,i64 f.scale,.bool f.signed,aT f.cA,.int .u8 f.Rf,i64 f.first,.bool f.Q0,.int .u8 f.fill,i64 f.R5]
abbrev Fo.av (f:Fo):AV := .bm f.cells
theorem X0 (f:Fo)(c:Int)(a:Int):af 312 [f.av,.int .u8 c,i64 a] (fun d=>∃n:Int,d = .ret (.int .i64 n)∧0≤n∧n≤5):=by
 have k1:=@kh;exact zw func312 W
theorem LH (f:Fo)(a:BL UInt8):af 282 [f.av,.str a.l] (cc fun _=>True):=by
 refine zw func282 ?_;have d:=f.hr;have c:=a.h
 conv=>whnf
 refine DW.aO aC aD [0,4,16,17] [] 0 (fun i:Nat×Int×Int=>[(18,i64 i.1),(5,i64 i.2.1),(6,i64 i.2.2)]) (fun _=>[]) [] (fun i=>f.cA.length+1 - i.1) ((0,(a.l.length:Int),-1)) ?_
 refine zl fun i=>?_
 refine zg ?_
 repeat' ((refine zp ?_ ?_<;>intro h)<;>refine zg ?_)
 all_goals first|exact zi ((i.1+1,_,_))|skip
 refine DW.aO aC aD [0,4,5,6,47,48] [] 0 (fun i:Nat=>[(49,i64 i)]) (fun _=>[]) [] (fun i=>f.cA.length+1 - i) (0) ?_
 refine zl fun i=>?_
 refine zg ?_
 repeat' ((refine zp ?_ ?_<;>intro h)<;>refine zg ?_)
 all_goals first|exact⟨_,rfl,trivial⟩|exact zi (i+1)
theorem Jp {l:List UInt8}{n:Int}(h:n.toNat<l.length):(l.map fun b=>[AV.int .u8 b.toNat])[n.toNat]? = some [.int .u8 (l[n.toNat]).toNat]:=by simp[h]
theorem Lc (f:Fo)(a:BL UInt8)(c:a.l.length≤f.cA.length):af 283 [f.av,.str a.l] (eS fun _=>True):=by
 refine zw func283 ?_;have e:=f.hr;have d:=a.h
 conv=>whnf
 refine DW.aO aC aD [0,4,9,10] [] 0 (fun i:Nat×Int=>[(11,i64 i.1),(5,i64 i.2)]) (fun _=>[]) [] (fun i=>a.l.length+1 - i.1) ((0,0)) ?_
 refine zl fun i=>?_
 refine zg ?_
 repeat' ((first|(refine zp ?_ ?_<;>intro h)|(refine DC.pure rfl (kh _ _) ?_;rintro _ rfl))<;>refine zg ?_)
 all_goals first|exact⟨_,rfl,trivial⟩|exact zi ((i.1+1,_))
end Go.Ago
