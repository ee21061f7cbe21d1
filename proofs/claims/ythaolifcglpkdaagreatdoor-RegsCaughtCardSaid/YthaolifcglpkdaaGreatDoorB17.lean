/-
  Part B17: lemmas, each with its own conditions.
-/
import Derived.Test.YthaolifcglpkdaaGreatDoorB16
set_option maxRecDepth 100000
set_option maxHeartbeats 0
set_option linter.all false
namespace Go.Ago
open Go.Proofs List Nat Tryz
attribute [local irreducible] bA bw aV bp bG wr aZ bF comp DC DP DW DV DY
theorem Hr {k:Nat}{o o':Option an}{t:aj}(j:Nat):(Tr.put k o (Tr.put k o' t)).get j=(Tr.put k o t).get j:=by
 simp[Tr.get]
 grind
theorem w_ {H:aj}{s:List UInt8}{w d sc dr fi fm:Int}{cr:Bool}{y:Int}{acc:List Int}(c:s.length≤32)(e:(y::acc).length≤40)(f:H.get 3=some (kK s w d sc (.ay 14000 0 ((acc.map dV).length+1) 1) dr fi cr fm))(g:H.get 14000=some (.arr 1 (dV y::acc.map dV)))(b:List UInt8) :
 aM (snap H 20) [.ptr 3 0 0,.str b]=some [(Fo.mk s true w d sc false (y::acc) dr fi cr 32 fm c e).av,.str b]:=by
 have h:snap H 19 _=some _:=gW (fun _=>rfl) g
 have a:aM (snap H _) [.str s,.bool true,i64 w,i64 d,i64 sc,.bool false,.ay _ 0 _ 1,.int .u8 dr,i64 fi,.bool cr,.int .u8 32,i64 fm] =
  some _:=
  aJ rfl (aJ rfl (aJ rfl (aJ rfl (aJ rfl (aJ rfl (aJ h rfl))))))
 exact aJ (qO f a) rfl
theorem ru (B m a:Nat){i len d c b:Nat}(f:i+len≤d)(g:c=a)(h:b=B)(j:len≤m)(e:(m+a) * (B+1)≤140737488355328) :
 (ble (i+len) d && ble ((len+c) * (b+1)) 140737488355328)=true:=by
 subst g;subst h;rw[zbs f,zbs (zbu (zbx _ (Nat.add_le_add_right j _)) e)];rfl
theorem y5 {α:Type}{f:α->List AV}{H:aj}{k sz n:Nat}{l:List α}(e:∀x,aM (snap H n) (f x)=some (f x))(c:H.get k=some (.arr sz (l.map f))):snap H (n+1) (.ay k 0 l.length sz)=some (.ak sz (l.map f)):=by
 have b:aM (aM (snap H n)) _=some (l.map f):=sn (by simp_all)
 have d:List.take l.length (List.drop 0 _)=l.map f:=zbj ag;have a:(sz == sz && ble (0+l.length) (l.map f).length)=true:=ag;simp only[snap,c,a,d,b]
theorem iZ {H:aj}{s:List UInt8}{w d sc dr fi fm fl:Int}{sg cr:Bool}{k n:Nat}{E:List (List AV)}{l:List Int}(b:s.length≤32)(c:l.length≤40)
 (e:H.get 3=some (.arr 12 [[.str s,.bool true,i64 w,i64 d,i64 sc,.bool sg,.ay k 0 n 1,.int .u8 dr,i64 fi,.bool cr,.int .u8 fl,i64 fm]]))(f:H.get k=some (.arr 1 E))(g:E=l.map dV)(h:n=l.length) :
 snap H 20 (.ao [.ptr 3 0 0,.bool true])=some (.ao [(Fo.mk s true w d sc sg l dr fi cr fl fm b c).av,.bool true]):=by
 have i:snap H 18 (.ay k 0 n 1)=some (aT l):=by
  subst g;subst h;exact y5 (fun _=>rfl) f
 have j:aM (snap H _) [.str s,.bool true,i64 w,i64 d,i64 sc,.bool sg,.ay k 0 n 1,.int .u8 dr,i64 fi,.bool cr,.int .u8 fl,i64 fm] =
  some _:=
  aJ rfl (aJ rfl (aJ rfl (aJ rfl (aJ rfl (aJ rfl (aJ i rfl))))))
 have m:aM (snap H _) [.ptr 3 0 0,.bool true]=some _:=aJ (qO e j) rfl;show(match aM _ _ with|some a=>some (AV.ao a)|none=>none)=_
 rw[m]
structure pw (f:Fo):Prop where
 num:f.num=true
 w:f.width=wid f.cA
 d:f.digits=bl f.cA
 d1:1≤bl f.cA∧bl f.cA≤9
 r:∀r∈f.cA,0≤r∧r≤5
 l:f.cA.length=f.spec.length
theorem oX {y:Int}{acc:List Int}:List.take ((acc.map dV).length+1) (List.drop 0 (dV y::acc.map dV))++[[i64 4],[i64 4]]=(y::(acc++[4,4])).map dV:=by
 grind
theorem zC {y:Int}{acc:List Int}:wid (y::(acc++[4,4]))=wid (y::acc)+2:=by
 rw[<-zc2,wid,zb5,zbk];rfl
theorem oh {y:Int}{acc:List Int}:bl (y::(acc++[4,4]))=bl (y::acc):=by
 rw[<-zc2,bl,zb5,zbk];rfl
theorem yD {y:Int}{acc:List Int}(h:∀x∈y::acc,0≤x∧x≤5):∀x∈y::(acc++[4,4]),0≤x∧x≤5:=by
 grind
theorem Ww (s:List UInt8)(c:s.length≤32)(D:1≤s.length)(u:kB s):af 241 [.str s] (fun x=>x = .ret (.ao [.dI,.bool false])∨∃f:Fo,x = .ret (.ao [f.av,.bool true])∧pw f∧f.spec=s):=by
 refine zw func241 ?_;have q:wr IntKind.i64 ((s.length:Int) - 2)=s.length - 2:=aE aa aa;have t:∀a b,Lib.hasSuffix s [a,b]=true->2≤s.length:=fun a b h=>ZV h
 refine zj ?_
 repeat' ((first|(refine Rq.mk (by rw[q];have:=t _ _ bD;simp only[qM];omega) ?_;rw[q])|refine zf ?_|(refine Rq.mk (ru 8 64 2 ag rfl rfl (by simp only[zba];(try simp only[zbA,zcc] at hl);omega) ab) ?_)|refine zq ?_|(refine zp ?_ ?_<;>intro h)|(refine DC.pure rfl (Tb s _ aa) ?_;rintro _ rfl)|(refine DC.pure rfl (Ge _ _ (by first|omega|(simp only[zbA,zcc];omega)) ab (by first|exact u|exact Ow u) (vV ab)) ?_;rintro _ rfl)|(refine DC.pure rfl (pN _ _) ?_;rintro _ rfl)|(refine DC.bump (m:=1000) rfl (DC.heap (K:=Tr.put 3 (some (kK s 0 0 0 .ai 0 0 true 0)) .nil) (fun j=>?_) ?_);(repeat refine(Hr j).trans ?_);rfl;refine DC.mono (Gp s _ true zQ) ?_;rintro _ _ _ (rfl|⟨d,f,rfl,rfl,rfl⟩))|(refine DC.bump (m:=1000) rfl (DC.heap (K:=Tr.put 3 (some (kK s 0 0 0 .ai 0 0 false 0)) .nil) (fun j=>?_) ?_);(repeat refine(Hr j).trans ?_);rfl;refine DC.mono (Gp s _ false zQ) ?_;rintro _ _ _ (rfl|⟨d,f,rfl,rfl,rfl⟩))|(refine DC.bump (m:=10000) rfl ?_;refine DC.mono (JH s _ true d f zQ c) ?_;rintro _ _ _ (rfl|⟨y,acc,g,e,rfl,rfl,rfl,hl,lG,o,p⟩))|(refine DC.bump (m:=10000) rfl ?_;refine DC.mono (JH s _ false d f zQ c) ?_;rintro _ _ _ (rfl|⟨y,acc,g,e,rfl,rfl,rfl,hl,lG,o,p⟩))|(refine DC.flat (w_ (s:=s) (w:=wid (y::acc)) (d:=bl (y::acc)) (sc:=g) (dr:=d) (fi:=f) (fm:=e) (cr:=true) (y:=y) (acc:=acc) c zM rfl rfl _) (LH _ ⟨_,by(first|omega|(simp only[zbA,zcc];omega))⟩) ?_;rintro _ ⟨C,rfl,-⟩<;>refine⟨rfl,?_⟩)|(refine DC.flat (w_ (s:=s) (w:=wid (y::acc)) (d:=bl (y::acc)) (sc:=g) (dr:=d) (fi:=f) (fm:=e) (cr:=false) (y:=y) (acc:=acc) c zM rfl rfl _) (LH _ ⟨_,by(omega)⟩) ?_;rintro _ ⟨C,rfl,-⟩<;>refine⟨rfl,?_⟩)|(refine DC.flat (w_ (s:=s) (w:=wid (y::acc)) (d:=bl (y::acc)) (sc:=g) (dr:=d) (fi:=f) (fm:=e) (cr:=true) (y:=y) (acc:=acc) c zM rfl rfl _) (Lc _ ⟨_,by(first|omega|(simp only[zbA,zcc];omega))⟩ (by show _≤(y::acc).length;simp only[zbd];omega)) ?_;rintro _ ⟨B,rfl,-⟩<;>refine⟨rfl,?_⟩)|(refine DC.flat (w_ (s:=s) (w:=wid (y::acc)) (d:=bl (y::acc)) (sc:=g) (dr:=d) (fi:=f) (fm:=e) (cr:=false) (y:=y) (acc:=acc) c zM rfl rfl _) (Lc _ ⟨_,by(omega)⟩ (by show _≤(y::acc).length;simp only[zbd];omega)) ?_;rintro _ ⟨B,rfl,-⟩<;>refine⟨rfl,?_⟩))<;>refine zj ?_)
 all_goals first|exact .inl rfl|skip
 all_goals have r:=ta (y::acc)
 all_goals simp only[zbd] at r
 all_goals have A:acc.length+1≤32:=by first|omega|(simp only[zbA,zcc] at hl;omega)
 all_goals split
 all_goals first
  | (rename_i E i
     first
     | (obtain rfl:=zbE (i.symm.trans (iZ (s:=s) (w:=wid (y::acc)) (d:=bl (y::acc)) (sc:=g) (dr:=d) (fi:=f) (fm:=e) (fl:=32) (sg:=true) (cr:=false) (l:=y::acc) (n:=(acc.map dV).length+1) c jn rfl rfl rfl ag));(conv=>whnf);exact .inr ⟨_,rfl,⟨rfl,rfl,rfl,⟨lG,o⟩,p,zR⟩,rfl⟩)
     | (obtain rfl:=zbE (i.symm.trans (iZ (s:=s) (w:=wid (y::acc)) (d:=bl (y::acc)) (sc:=g) (dr:=d) (fi:=f) (fm:=e) (fl:=42) (sg:=true) (cr:=false) (l:=y::acc) (n:=(acc.map dV).length+1) c jn rfl rfl rfl ag));(conv=>whnf);exact .inr ⟨_,rfl,⟨rfl,rfl,rfl,⟨lG,o⟩,p,zR⟩,rfl⟩)
     | (obtain rfl:=zbE (i.symm.trans (iZ (s:=s) (w:=wid (y::acc)) (d:=bl (y::acc)) (sc:=g) (dr:=d) (fi:=f) (fm:=e) (fl:=32) (sg:=false) (cr:=false) (l:=y::acc) (n:=(acc.map dV).length+1) c jn rfl rfl rfl ag));(conv=>whnf);exact .inr ⟨_,rfl,⟨rfl,rfl,rfl,⟨lG,o⟩,p,zR⟩,rfl⟩)
     | (obtain rfl:=zbE (i.symm.trans (iZ (s:=s) (w:=wid (y::acc)) (d:=bl (y::acc)) (sc:=g) (dr:=d) (fi:=f) (fm:=e) (fl:=42) (sg:=false) (cr:=false) (l:=y::acc) (n:=(acc.map dV).length+1) c jn rfl rfl rfl ag));(conv=>whnf);exact .inr ⟨_,rfl,⟨rfl,rfl,rfl,⟨lG,o⟩,p,zR⟩,rfl⟩)
     | (obtain rfl:=zbE (i.symm.trans (iZ (s:=s) (w:=wr .i64 ((wid (y::acc):Int)+2)) (d:=bl (y::acc)) (sc:=g) (dr:=d) (fi:=f) (fm:=e) (fl:=32) (sg:=true) (cr:=true) (l:=y::(acc++[4,4])) (n:=(acc.map dV).length+1+2) c jn rfl rfl oX ag));(conv=>whnf);exact .inr ⟨_,rfl,⟨rfl,(by show wr .i64 _=_;rw[aE aa aa,zC];omega),(by show(bl _:Int)=_;rw[oh]),(by show 1≤bl _∧bl _≤9;rw[oh];omega),yD p,zL⟩,rfl⟩)
     | (obtain rfl:=zbE (i.symm.trans (iZ (s:=s) (w:=wr .i64 ((wid (y::acc):Int)+2)) (d:=bl (y::acc)) (sc:=g) (dr:=d) (fi:=f) (fm:=e) (fl:=42) (sg:=true) (cr:=true) (l:=y::(acc++[4,4])) (n:=(acc.map dV).length+1+2) c jn rfl rfl oX ag));(conv=>whnf);exact .inr ⟨_,rfl,⟨rfl,(by show wr .i64 _=_;rw[aE aa aa,zC];omega),(by show(bl _:Int)=_;rw[oh]),(by show 1≤bl _∧bl _≤9;rw[oh];omega),yD p,zL⟩,rfl⟩)
     | (obtain rfl:=zbE (i.symm.trans (iZ (s:=s) (w:=wr .i64 ((wid (y::acc):Int)+2)) (d:=bl (y::acc)) (sc:=g) (dr:=d) (fi:=f) (fm:=e) (fl:=32) (sg:=false) (cr:=true) (l:=y::(acc++[4,4])) (n:=(acc.map dV).length+1+2) c jn rfl rfl oX ag));(conv=>whnf);exact .inr ⟨_,rfl,⟨rfl,(by show wr .i64 _=_;rw[aE aa aa,zC];omega),(by show(bl _:Int)=_;rw[oh]),(by show 1≤bl _∧bl _≤9;rw[oh];omega),yD p,zL⟩,rfl⟩)
     | (obtain rfl:=zbE (i.symm.trans (iZ (s:=s) (w:=wr .i64 ((wid (y::acc):Int)+2)) (d:=bl (y::acc)) (sc:=g) (dr:=d) (fi:=f) (fm:=e) (fl:=42) (sg:=false) (cr:=true) (l:=y::(acc++[4,4])) (n:=(acc.map dV).length+1+2) c jn rfl rfl oX ag));(conv=>whnf);exact .inr ⟨_,rfl,⟨rfl,(by show wr .i64 _=_;rw[aE aa aa,zC];omega),(by show(bl _:Int)=_;rw[oh]),(by show 1≤bl _∧bl _≤9;rw[oh];omega),yD p,zL⟩,rfl⟩)
     )
  | (rename_i i
     first
     | (have k:=i.symm.trans (iZ (s:=s) (w:=wid (y::acc)) (d:=bl (y::acc)) (sc:=g) (dr:=d) (fi:=f) (fm:=e) (fl:=32) (sg:=true) (cr:=false) (l:=y::acc) (n:=(acc.map dV).length+1) c jn rfl rfl rfl ag);cases k)
     | (have k:=i.symm.trans (iZ (s:=s) (w:=wid (y::acc)) (d:=bl (y::acc)) (sc:=g) (dr:=d) (fi:=f) (fm:=e) (fl:=42) (sg:=true) (cr:=false) (l:=y::acc) (n:=(acc.map dV).length+1) c jn rfl rfl rfl ag);cases k)
     | (have k:=i.symm.trans (iZ (s:=s) (w:=wid (y::acc)) (d:=bl (y::acc)) (sc:=g) (dr:=d) (fi:=f) (fm:=e) (fl:=32) (sg:=false) (cr:=false) (l:=y::acc) (n:=(acc.map dV).length+1) c jn rfl rfl rfl ag);cases k)
     | (have k:=i.symm.trans (iZ (s:=s) (w:=wid (y::acc)) (d:=bl (y::acc)) (sc:=g) (dr:=d) (fi:=f) (fm:=e) (fl:=42) (sg:=false) (cr:=false) (l:=y::acc) (n:=(acc.map dV).length+1) c jn rfl rfl rfl ag);cases k)
     | (have k:=i.symm.trans (iZ (s:=s) (w:=wr .i64 ((wid (y::acc):Int)+2)) (d:=bl (y::acc)) (sc:=g) (dr:=d) (fi:=f) (fm:=e) (fl:=32) (sg:=true) (cr:=true) (l:=y::(acc++[4,4])) (n:=(acc.map dV).length+1+2) c jn rfl rfl oX ag);cases k)
     | (have k:=i.symm.trans (iZ (s:=s) (w:=wr .i64 ((wid (y::acc):Int)+2)) (d:=bl (y::acc)) (sc:=g) (dr:=d) (fi:=f) (fm:=e) (fl:=42) (sg:=true) (cr:=true) (l:=y::(acc++[4,4])) (n:=(acc.map dV).length+1+2) c jn rfl rfl oX ag);cases k)
     | (have k:=i.symm.trans (iZ (s:=s) (w:=wr .i64 ((wid (y::acc):Int)+2)) (d:=bl (y::acc)) (sc:=g) (dr:=d) (fi:=f) (fm:=e) (fl:=32) (sg:=false) (cr:=true) (l:=y::(acc++[4,4])) (n:=(acc.map dV).length+1+2) c jn rfl rfl oX ag);cases k)
     | (have k:=i.symm.trans (iZ (s:=s) (w:=wr .i64 ((wid (y::acc):Int)+2)) (d:=bl (y::acc)) (sc:=g) (dr:=d) (fi:=f) (fm:=e) (fl:=42) (sg:=false) (cr:=true) (l:=y::(acc++[4,4])) (n:=(acc.map dV).length+1+2) c jn rfl rfl oX ag);cases k)
     )
theorem D9 {l:List Int}{i:Nat}(h:i<l.length):∃r:Int,(l.map fun n=>[i64 n])[((i:Nat):Int).toNat]? = some [i64 r]∧r∈l∧(r=2->wid (l.take (i+1))=wid (l.take i))∧(r≠2->wid (l.take (i+1))=wid (l.take i)+1) ∧
 (r=0->bl (l.take (i+1))=bl (l.take i)+1)∧(r=1->bl (l.take (i+1))=bl (l.take i)+1)∧(r≠0->r≠1->bl (l.take (i+1))=bl (l.take i))∧bl (l.take (i+1))≤bl l∧wid (l.take (i+1))≤wid l:=by
 have a:l.take (i+1)=l.take i++[l[i]]:=ag;have c:∀r,wid (l.take i++[r])=wid (l.take i)+wid [r]:=fun r=>by rw[wid,zb5,zbk];rfl
 have b:∀r,bl (l.take i++[r])=bl (l.take i)+bl [r]:=fun r=>by rw[bl,zb5,zbk];rfl
 refine⟨l[i],by simp[h],za9 h,?_,?_,?_,?_,?_,?_,?_⟩
 . intro e;rw[a,c,e];rfl
 . intro e;rw[a,c,vv e]
 . intro e;rw[a,b,e];rfl
 . intro e;rw[a,b,e];rfl
 . intro e d;rw[a,b,uj e d];rfl
 all_goals exact((zc7 _ _).filter _).length_le
structure En (l:List Int) where
 i:Nat
 k:Nat
 hi:i≤l.length
 hk:k≤bl (l.take i)
abbrev JC (f:Fo)(b:List UInt8)(m:Bool)(u a c:Int):AV := .bm [f.av,.str b,.bool m,i64 u,i64 a,i64 c]
theorem Gw (f:Fo)(e:pw f)(b:List UInt8)(s:b.length=bl f.cA)(m:Bool)(u a j:Int):af 287 [JC f b m u a j] (fun g=>∃n:Int,g = .ret (i64 n)∧-1≤n∧n≤wid f.cA):=by
 refine zw func287 ?_;have w:=f.hr;have y:=e.d1;have o:=ta f.cA;refine zg ?_
 repeat' ((first|(refine zp ?_ ?_<;>intro h)|(refine DC.pure rfl (Ny _ _ aa ab (vV ab)) ?_;rintro _ rfl))<;>refine zg ?_)
 all_goals
  refine DW.aO aC aD [0,2,3,4,5,6,23,24] [] 0 (fun i:Nat=>[(25,i64 i)]) (fun _=>[]) [] (fun i=>f.cA.length+1 - i) (0) ?_
  refine zl fun i=>?_
  refine zg ?_
  repeat' ((refine zp ?_ ?_<;>first|exact⟨⟩|intro h)<;>refine zg ?_)
  all_goals first|exact⟨_,rfl,aa,aa⟩|(refine⟨i+1,?_,rfl,?_⟩<;>first|(exact EB)|omega)|skip
  refine DW.aO aC aD [0,2,5,46,47] [] 0 (fun x:En f.cA=>[(48,i64 x.i),(3,i64 (wid (f.cA.take x.i))),(4,i64 x.k)]) (fun _=>[]) [] (fun x=>f.cA.length+1 - x.i) (⟨0,0,aa,aa⟩) ?_
  refine zl fun x=>?_
  obtain⟨i,k,t,v⟩:=x;refine zk ?_
  repeat' ((first|(refine zp ?_ ?_<;>intro h)|(obtain⟨r,d,p,z,A,B,C,D,E,q⟩:=D9 (l:=f.cA) (i:=i) aa;refine az.mk _ d ?_;clear d))<;>refine zk ?_)
  all_goals first|exact⟨_,rfl,by(omega),by(first|omega|(dsimp only;omega))⟩|(refine⟨⟨i+1,k,aa,aa⟩,?_,rfl,?_⟩<;>first|(exact EB)|(dsimp only;omega))|(refine⟨⟨i+1,k+1,aa,aa⟩,?_,rfl,?_⟩<;>first|(exact EB)|(dsimp only;omega))
end Go.Ago
