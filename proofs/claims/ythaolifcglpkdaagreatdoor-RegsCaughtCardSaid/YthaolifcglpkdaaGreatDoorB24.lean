/-
  Part B24: lemmas, each with its own conditions.
-/
import Derived.Shelf.Spec.SlicesInsert
import Derived.Shelf.Spec.SlicesInsertGrow
import Derived.Shelf.Slices.Delete
import Derived.Test.YthaolifcglpkdaaGreatDoorB23
set_option maxRecDepth 100000
set_option maxHeartbeats 0
set_option linter.all false
section
namespace Go.Ago
open Go.Proofs List Nat Tryz
theorem vk (b:Nat):∀(vs:List Value) (o:Nat) (w:World),(w.setCells b o vs).os=w.os∧(w.setCells b o vs).tape=w.tape∧(w.setCells b o vs).output=w.output∧(w.setCells b o vs).heap.size=w.heap.size∧∀x,x≠b->(w.setCells b o vs).heap[x]? = w.heap[x]?
 | [],_,_=>⟨rfl,rfl,rfl,rfl,fun _ _=>rfl⟩
 | v :: r, o, w => by
   obtain⟨h,d,e,f,g⟩:=vk b r _ _;refine⟨h,d,e,f.trans ?_,fun x c=>(g x c).trans ?_⟩
   . simp
   . simp [World.setCell]
     grind
section
variable {G:eZ} {c:Ctx} {w w':World} {H:aj}
theorem HB {nx b off cap:Nat}{d:List Int}{H':aj}(C:∀j o,H'.get j=some o->H.get j=some o∧∀B,c.f j=some B->B.b≠b)(n:aN G c w H)(X:∀k,nx≤k->c.f k=none)(Z:w'.os=w.os)(Y:w'.tape=w.tape)(R:w'.output=w.output)(u:w.heap.size≤w'.heap.size)
 (l:∀x,x<w.heap.size->x≠b->w'.heap[x]? = w.heap[x]?)(q:Own c H b∨w.heap.size≤b)(I:b<w'.heap.size)(A:d.length≤cap)(L:∀(j:Nat) (h:j<d.length),w'.cell? ⟨b,off+j,none⟩=some (.int .i64 d[j])) :
 ∃c',ExtM nx c w H c' w' H'∧aN G c' w' H'∧(∀k,nx≤k->c'.f k=none)∧Rel c' w' (.ak 1 (d.map ic)) (.slice (some ⟨b,off,none⟩) d.length cap):=by
 have s:∀x,c.aq x->x≠b:=fun x a e=>by
  subst e;rcases q with q|q
  . exact n.kQ a q
  . have:=n.bN _ a;omega
 have z:c.le ⟨c.f,fun x=>c.aq x∨x=b⟩:=⟨fun _ _ e=>e,fun x a => .inl a⟩
 refine⟨⟨c.f,fun x=>c.aq x∨x=b⟩,⟨fun _ _=>rfl,fun x a => .inl a,Z,Y,R,u,fun x a hn=>l x a fun e=>?_,fun x a=>?_,fun x a=>?_⟩,
  ⟨fun x a=>?_,fun k B e=>zbJ (n.bW k B e) u,fun k o e=>?_,fun k M o N B P e Q f U J=>n.inj k M o N B P (C k o e).1 (C M N Q).1 f U J,fun g O e=>(n.bS g O e).mono z fun x a=>l x (n.bN x a) (s x a)⟩,X,?_⟩
 . subst e
   rcases q with q|q
   . exact hn q
   . omega
 . rcases a with a | rfl
   . exact .inl a
   . exact .inr q
 . obtain ⟨k, o, B, K, E, rfl⟩ := a
   exact .inl ⟨k,o,B,(C k o K).1,E,rfl⟩
 . rcases a with a | rfl
   . exact zbJ (n.bN x a) u
   . exact I
 . obtain ⟨K, E⟩ := C k o e
   obtain⟨B,D,S,T⟩:=n.obj k o K;refine⟨B,D,fun r=>?_,T.mono (l _ (n.bW k B D) (E B D)) (fun V=>V.mono z fun x a=>l x (n.bN x a) (s x a)) fun x a=>⟨.inl a,l x (n.bN x a) (s x a)⟩⟩
   rcases r with r|r
   . exact S r
   . exact E B D r
 . have := @Rel.ak ⟨c.f, fun x => c.aq x ∨ x = b⟩ w' 1 (d.map ic) cap ⟨b, off, none⟩ (fun i _ => .int .i64 (d.getD i 0)) (by rw [zba]; exact A) (fun _ => .inr rfl) (fun i e p => ?_) (fun i j r hj => ?_) (fun i j e x p a => ?_)
   . rw[zba] at this;exact this
   . rw [zbC] at p
     cases v:d[i]? with
     | none=>rw[v] at p;cases p
     | some y=>rw[v] at p;cases p;rfl
   . rw [zba] at r
     have t:j=0:=aa;subst t;have:=L i r;rw[show(⟨b,off,none⟩:Addr).add (i * 1+0)=⟨b,off+i,none⟩ by simp[Addr.add],this]
     simp[getD,r]
   . rw [zbC] at p
     cases v:d[i]? with
     | none=>rw[v] at p;cases p
     | some y =>
       rw[v] at p;cases p;have t:j=0:=by
        have:=(zbn.1 a).1;simp[ic] at this;exact this
       subst t;have F:x=i64 y:=by simpa[ic] using a.symm
       subst F;rw[zbD,v];exact .int _ _
theorem Kl {k n:Nat}{zs:List Int}(r:aN G c w H)(o:H.get k=some (.arr 1 (zs.map ic)))(a:zs≠[])(J:n=zs.length){v:Value}(C:Rel c w (.ay k 0 n 1) v) :
 ∃B cap arr t,v = .slice (some ⟨B.b,B.s,none⟩) n cap∧c.f k=some B∧n≤cap∧B.s+cap≤arr.size∧w.heap[B.b]? = some (.cells arr t (0,0))∧(∀(j:Nat) (h:j<zs.length),arr[B.s+j]? = some (.int .i64 zs[j]))∧cap≤9223372036854775807:=by
 obtain⟨B,e,D,arr,t,p,L,E,F,q⟩:=r.obj k _ o;have d:0<zs.length:=length_pos_iff.2 a;cases C with
 | ay g K m y z =>
   rw[e] at g;cases g;obtain⟨rfl,I⟩:=y aa;refine⟨B,_,arr,t,?_,e,m,aa,p,fun j x=>?_,z⟩
   . simp
   . obtain ⟨_, A⟩ := q j [i64 (zs[j])] (by simp [x, ic])
     obtain⟨v,i,l⟩:=A 0 _ rfl;cases l;rw[show B.s+(j * 1+0)=B.s+j by omega] at i
     exact i
theorem cell_of {b:Nat}{arr:Array Value}{t:TypeId}{fr:Nat×Nat}(h:w.heap[b]? = some (.cells arr t fr))(k:Nat):w.cell? ⟨b,k,none⟩=arr[k]?:=by
 unfold World.cell?;simp[h]
theorem BF {b:Nat}{arr:Array Value}{t:TypeId}(h:w.heap[b]? = some (.cells arr t (0,0)))(k:Nat):w.frozen? ⟨b,k,none⟩=false:=by
 unfold World.frozen?;simp[h]
theorem K9 {b:Nat}{arr:Array Value}{t:TypeId}{fr:Nat×Nat}(h:w.heap[b]? = some (.cells arr t fr)):w.shape? b=some (t,arr.size):=by
 unfold World.shape?;simp[h]
end
end Go.Ago
namespace Go.Proofs
open List Nat
def Tryz.Ip:Go.Shelf.Ren:=⟨fun|21=>207|27=>252|28=>253|35=>297|39=>326|n=>n,fun|22=>26|3=>3|4=>4|0=>0|n=>n,fun|n=>n⟩
theorem Tryz.Io:Go.Proofs.Lays2.n21 prog Tryz.Ip:={
 mixed:=by kernel_rfl
 f21:=func207.trans (congrArg some (by kernel_rfl))
 f27:=func252.trans (congrArg some (by kernel_rfl))
 f28:=func253.trans (congrArg some (by kernel_rfl))
 f35:=func297.trans (congrArg some (by kernel_rfl))
 f39:=func326.trans (congrArg some (by kernel_rfl))
 t0:=underlying0
 a0:=isAgg0
 z0:=sizeOf0
 v0:=zeroValue0
 t3:=underlying3
 a3:=isAgg3
 z3:=sizeOf3
 v3:=zeroValue3
 t4:=underlying4
 a4:=isAgg4
 z4:=sizeOf4
 v4:=zeroValue4
 t22:=underlying26
 a22:=isAgg26
 z22:=sizeOf26
 v22:=zeroValue26
 i3:=by kernel_rfl }
end Go.Proofs
namespace Go.Ago
open Go.Proofs List Nat Tryz
abbrev vI (x:Int):Value := .int .i64 x
def iC (zs:List Int)(i:Nat)(r:Int):List Int:=zs.take i++r::zs.drop i
theorem H0 {zs:List Int}{i:Nat}{r:Int}(h:i≤zs.length):(iC zs i r).length=zs.length+1:=by simp[iC];omega
theorem HZ {zs:List Int}{i j:Nat}{r:Int}(h:i≤zs.length)(b:j<(iC zs i r).length):(iC zs i r)[j]=if j<i then zs.getD j 0 else if j=i then r else zs.getD (j - 1) 0:=by
 have a:=by rw[H0 h] at *;exact b
 have e:(iC zs i r)[j]? = some (if j<i then zs.getD j 0 else if j=i then r else zs.getD (j - 1) 0):=by
  unfold iC
  grind
 grind
theorem TY {H:aj}{nx k l m:Nat}{R:AE->aj->Nat->Prop}{i0:Int}(zs:List Int)(r:Int)(i:Nat)(hi:i<zs.length)(hl:zs.length≤100000)(hm:m=zs.length)(hi0:i0=(i:Int))(hk:H.get k=some (.arr 1 (zs.map ic)))(hlk:H.get l=some (.arr 1 [ic r]))(hkl:k≠l)
 (hR:R (.ret (.ak 1 ((iC zs i r).map ic))) (.put k none H) nx):cM 207 [.ay k 0 m 1,i64 i0,.ay l 0 1 1] H nx R:=by
 subst hm;subst hi0;refine⟨_,_,nx,⟨⟨_,func207,rfl,ab⟩,fun c w vs hw hf hr=>?_⟩,hR⟩
 obtain⟨v0,us,rfl,h0,hr⟩:=hr.dP;obtain⟨v1,us,rfl,h1,hr⟩:=hr.dP;obtain⟨v2,us,rfl,h2,hr⟩:=hr.dP;obtain rfl:=hr.fX;cases h1;have cF:zs≠[]:=fun e=>by rw[e] at hi;cases hi
 obtain⟨B,cap,arr,t,rfl,b1,b2,b3,b4,b5,b6⟩:=Kl (k:=k) (zs:=zs) hw hk cF rfl h0;obtain⟨C,cap1,arr1,t1,rfl,c1,c2,c3,c4,c5,c6⟩:=Kl (k:=l) (zs:=[r]) hw hlk ag rfl h2;have c5':=c5 0 ag;simp only[getElem_cons_zero,Nat.add_zero] at c5';have hvb:C.b≠B.b:=fun e=>by
  exact hkl (hw.inj l k _ _ C B hlk hk c1 b1 e).symm
 have hHB:∀j o,(Tr.put k none H:aj).get j=some o->H.get j=some o∧j≠k:=fun j o e=>by
  rw[Tr.get] at e;cases b:beq j k with
  | true=>rw[b] at e;cases e
  | false=>rw[b] at e;exact⟨e,fun e2=>by rw[e2,zcK] at b;cases b⟩
 have hBlt:=hw.bW k B b1;have hcs:∀j v,(zs.map vI)[j]? = some v->w.cell? ⟨B.b,B.s+j,none⟩=some v:=fun j v hv=>by
  rw[cell_of b4];rw[zbC] at hv;cases hd:zs[j]? with
  | none=>rw[hd] at hv;cases hv
  | some y =>
    rw[hd] at hv;cases hv;obtain⟨hj,rfl⟩:=zbn.1 hd;exact b5 j hj
 have hvs:∀j v,[vI r][j]? = some v->w.cell? ⟨C.b,C.s+j,none⟩=some v:=fun j v hv=>by
  match j,hv with
  | 0,hv=>cases hv;rw[cell_of c4];exact c5'
  | j+1,hv=>simp at hv
 have h1c:∀v∈zs.map vI,v.oneCell'=true:=fun v hv=>by obtain⟨y,_,rfl⟩:=zbG.1 hv;rfl
 have h1v:∀v∈[vI r],v.oneCell'=true:=fun v hv=>by rw[zbU.1 hv];rfl
 have hci:(zs.map vI).length=zs.length:=zba _;have hown:Own c H B.b:=⟨k,_,B,hk,b1,rfl⟩;have hil:=@H0 zs i r aa
 by_cases hroom:zs.length+1≤cap
 . refine (Any2.slices_Insert_int_shift Tryz.Io B.b B.s zs.length cap i C.b C.s 1 cap1 (zs.map vI) [vI r] w hi aa hroom b6 hvb hci rfl hcs (fun j hj => ?_) (fun j hj => BF b4 _) hvs h1c h1v t1 t arr1.size arr.size (K9 c4) (K9 b4) aa (BF c4 _) (BF c4 _)).mono ?_
   . rw[cell_of b4,zbS aa];rfl
   rintro e w' ⟨rfl,rfl⟩
   have hd:((zs.map vI).drop i).length=zs.length - i:=ag;obtain⟨k1,k2,k3,k4,k5⟩:=vk B.b ((zs.map vI).drop i) (B.s+(i+1)) w.drew;obtain⟨m1,m2,m3,m4,m5⟩:=vk B.b [vI r] (B.s+i) (w.drew.setCells B.b (B.s+(i+1)) ((zs.map vI).drop i));have a:∀j,j<zs.length+1->(w.drew.cell? ⟨B.b,B.s+j,none⟩).isSome=true:=fun j hj=>by
    show(w.cell? ⟨B.b,B.s+j,none⟩).isSome=true;rw[cell_of b4,zbS aa];rfl
   obtain⟨c',g1,g2,g3,g4⟩:=HB (w':=(w.drew.setCells B.b (B.s+(i+1)) ((zs.map vI).drop i)).setCells B.b (B.s+i) [vI r]) (off:=B.s) (cap:=cap) (d:=iC zs i r) (H' := .put k none H) (fun j o e=>⟨(hHB j o e).1,fun B' q e2=>(hHB j o e).2 (hw.inj j k _ _ B' B (hHB j o e).1 hk q b1 e2)⟩) hw hf (m1.trans k1) (m2.trans k2) (m3.trans k3) (by rw[m4,k4];exact zbm _)
    (fun x hx cF => (m5 x cF).trans (k5 x cF)) (.inl hown) (by rw [m4, k4]; exact hBlt) aa (fun j hj=>by
     have hj2:j<zs.length+1:=aa;rw[HZ aa hj]
     by_cases h1:j=i
     . subst h1
       rw[if_neg aa,if_pos rfl];have := World.cell?_setCells_in B.b [vI r] (B.s + j) (w.drew.setCells B.b (B.s + (j + 1)) ((zs.map vI).drop j)) (fun j' hj'=>by
        have:j'=0:=by simpa using hj'
        subst this;exact isSome_setCells B.b _ _ _ (fun q hq=>by rw[hd] at hq;rw[show B.s+(j+1)+q=B.s+(j+1+q) by omega];exact a _ aa) _ (by have:=a j aa;simpa using this)) 0 ag
       simpa using this
     . rw [World.cell?_setCells_out B.b _ _ _ _ (fun _ _ => by show B.s + j < B.s + i ∨ B.s + i + 1 ≤ B.s + j; omega)]
       by_cases h2:j<i
       . rw [if_pos h2, World.cell?_setCells_out B.b _ _ _ _ (fun _ _ => by show B.s + j < B.s + (i + 1) ∨ _; omega)]
         show w.cell? ⟨B.b,B.s+j,none⟩=_;rw[cell_of b4,b5 j aa];simp[getD,show j<zs.length by omega]
       . rw [if_neg h2, if_neg h1]
         have:=World.cell?_setCells_in B.b ((zs.map vI).drop i) (B.s+(i+1)) w.drew (fun q hq=>by rw[hd] at hq;rw[show B.s+(i+1)+q=B.s+(i+1+q) by omega];exact a _ aa) (j - (i+1)) aa
         rw[show B.s+(i+1)+(j - (i+1))=B.s+j by omega] at this
         rw[this];simp[getD,show j - 1<zs.length by omega,show i+(j - (i+1))=j - 1 by omega])
   rw[hil] at g4;exact⟨c',_,nx,.ret (.ak 1 ((iC zs i r).map ic)),g1,g2,zbm _,g3,g4,rfl,rfl,rfl⟩
 . refine (Any2.slices_Insert_int_grow Tryz.Io B.b B.s zs.length cap i C.b C.s 1 cap1 (zs.map vI) [vI r] w hi aa b2 aa aa hci rfl hcs hvs h1c h1v).mono ?_
   rintro e w' ⟨rfl,rfl⟩
   have hd:((zs.map vI).drop i).length=zs.length - i:=ag
   generalize hA:((zs.map vI).take i).toArray++Builtin.zeroCells (vI 0).cells (zs.length+1 - i)++Builtin.zeroCells (vI 0).cells (grownCap w (zs.length+1) cap _ - (zs.length+1))=A
   generalize hG:grownCap w (zs.length+1) cap _=Gc
   have hGc:zs.length+1≤Gc:=by rw[<-hG];exact grownCap_ge ..
   have hAs:zs.length+1≤A.size:=by rw[<-hA];simp[Builtin.zeroCells,show(vI 0).cells.size=1 from rfl];omega
   have hAt:∀j,j<i->A[j]? = some (vI (zs.getD j 0)):=fun j hj=>by
    rw[<-hA,Array.append_assoc,zcT eE];simp[getD,hj,show j<zs.length by omega]
   generalize Tryz.Ip.t 3=T0
   obtain⟨k1,k2,k3,k4,k5⟩:=vk w.heap.size [vI r] i (w.alloc (.cells A T0)).drew;obtain⟨m1,m2,m3,m4,m5⟩:=vk w.heap.size ((zs.map vI).drop i) (i+1) ((w.alloc (.cells A T0)).drew.setCells w.heap.size i [vI r]).drew;have hz:(w.alloc (.cells A T0)).drew.heap.size=w.heap.size+1:=by show(w.heap.push _).size=_;rw[Array.size_push]
   have hcell:∀j,(w.alloc (.cells A T0)).drew.cell? ⟨w.heap.size,j,none⟩=A[j]?:=fun j=>cell_of (w:=(w.alloc (.cells A T0)).drew) (fr:=(0,0)) (by show(w.heap.push _)[w.heap.size]? = _;rw[zcQ,if_pos rfl]) j
   have a:∀j,j<zs.length+1->((w.alloc (.cells A T0)).drew.cell? ⟨w.heap.size,j,none⟩).isSome=true:=fun j hj=>by
    rw[hcell,zbS aa];rfl
   have hsome2:∀j,j<zs.length+1->(((w.alloc (.cells A T0)).drew.setCells w.heap.size i [vI r]).drew.cell? ⟨w.heap.size,j,none⟩).isSome=true:=fun j hj=>by
    show(((w.alloc (.cells A T0)).drew.setCells w.heap.size i [vI r]).cell? ⟨w.heap.size,j,none⟩).isSome=true;exact isSome_setCells _ _ _ _ (fun q hq=>a _ (by simp at hq;omega)) _ (a j hj)
   have hold:∀x,x<w.heap.size->(w.alloc (.cells A T0)).drew.heap[x]? = w.heap[x]?:=fun x hx=>by
    show(w.heap.push _)[x]? = _;rw[zcQ,if_neg aa]
   obtain⟨c',g1,g2,g3,g4⟩:=HB (w':=((w.alloc (.cells A T0)).drew.setCells w.heap.size i [vI r]).drew.setCells w.heap.size (i+1) ((zs.map vI).drop i)) (off:=0) (cap:=Gc) (d:=iC zs i r) (H' := .put k none H) (fun j o e=>⟨(hHB j o e).1,fun B' q e2=>by have:=hw.bW j B' q;omega⟩) hw hf (m1.trans k1) (m2.trans k2) (m3.trans k3) (by rw[m4];show w.heap.size≤(World.setCells _ _ _ _).heap.size;rw[k4,hz];omega)
    (fun x hx cF => (m5 x cF).trans ((k5 x cF).trans (hold x hx))) (.inr (zbm _)) (by rw [m4]; show w.heap.size < (World.setCells _ _ _ _).heap.size; rw [k4, hz]; omega) aa (fun j hj=>by
     have hj2:j<zs.length+1:=aa;rw[HZ aa hj,zce]
     by_cases h1:j<i+1
     . rw [World.cell?_setCells_out w.heap.size _ _ _ _ (fun _ _ => by show j < i + 1 ∨ _; omega)]
       show((w.alloc (.cells A T0)).drew.setCells w.heap.size i [vI r]).cell? ⟨w.heap.size,j,none⟩=_
       by_cases h2:j=i
       . subst h2
         rw[if_neg aa,if_pos rfl];have:=World.cell?_setCells_in w.heap.size [vI r] j (w.alloc (.cells A T0)).drew (fun q hq=>a _ (by simp at hq;omega)) 0 ag
         simpa using this
       . rw[World.cell?_setCells_out w.heap.size _ _ _ _ (fun _ _=>by show j<i∨_;omega),hcell,hAt j aa,if_pos aa]
     . have := World.cell?_setCells_in w.heap.size ((zs.map vI).drop i) (i + 1) ((w.alloc (.cells A T0)).drew.setCells w.heap.size i [vI r]).drew (fun q hq => hsome2 _ (by rw [hd] at hq; omega)) (j - (i + 1)) aa
       rw[show i+1+(j - (i+1))=j by omega] at this
       rw[this,if_neg aa,if_neg aa];simp[getD,show j - 1<zs.length by omega,show i+(j - (i+1))=j - 1 by omega])
   rw[hil] at g4;exact⟨c',_,nx,.ret (.ak 1 ((iC zs i r).map ic)),g1,g2,zbm _,g3,g4,rfl,rfl,rfl⟩
end Go.Ago
namespace Go.Proofs
open List Nat
def Tryz.U9:Go.Shelf.Ren:=⟨fun|23=>208|n=>n,fun|22=>26|3=>3|4=>4|0=>0|n=>n,fun|n=>n⟩
theorem Tryz.U8:Go.Proofs.Lays2.n23 prog Tryz.U9:={
 mixed:=by kernel_rfl
 f23:=func208.trans (congrArg some (by kernel_rfl))
 t0:=underlying0
 a0:=isAgg0
 z0:=sizeOf0
 v0:=zeroValue0
 t3:=underlying3
 a3:=isAgg3
 z3:=sizeOf3
 v3:=zeroValue3
 t4:=underlying4
 a4:=isAgg4
 z4:=sizeOf4
 v4:=zeroValue4
 t22:=underlying26
 a22:=isAgg26
 z22:=sizeOf26
 v22:=zeroValue26
 i3:=by kernel_rfl }
end Go.Proofs
namespace Go.Ago
open Go.Proofs Go.RowKit Go.Sort List Nat Tryz
def iy (zs:List Int)(i:Nat):List Int:=zs.take i++zs.drop (i+1)
theorem Q6 {zs:List Int}{i:Nat}(h:i<zs.length):(iy zs i).length=zs.length - 1:=by simp[iy];omega
theorem Q7 (zs:List Int)(i:Nat)(hi:i<zs.length):cM 208 [.ay 0 0 zs.length 1,i64 i,i64 ((i+1:Nat):Int)] (.put 0 (some (.arr 1 (zs.map ic))) .nil) 1
 (fun I H' n=>I = .ret (.ay 0 0 (iy zs i).length 1)∧n=1∧H' = .put 0 (some (.arr 1 ((iy zs i++[0]).map ic))) .nil):=by
 refine⟨_,_,1,⟨⟨_,func208,rfl,ab⟩,fun c w R y F D=>?_⟩,rfl,rfl,rfl⟩
 have m:zs≠[]:=fun e=>by rw[e] at hi;cases hi
 obtain⟨H,A,rfl,L,a⟩:=D.dP;obtain⟨T,A,rfl,O,a⟩:=a.dP;obtain⟨S,A,rfl,M,a⟩:=a.dP;obtain rfl:=a.fX;cases O;cases M;obtain⟨B,g,E,t,G,u,f,j,J,h,K,q,l⟩:=Dm y m (vs:=[H]) ⟨rfl,fun i x v e p=>by
  match i,e,p with
  | 0,e,p=>cases e;cases p;exact L
  | i+1,e,_=>simp at e⟩
 cases G;refine(Any.slices_Delete_int Tryz.U8 B.b B.s g i (i+1) zs w (Dl h q) j l aa aa).mono ?_
 rintro e z ⟨rfl,n,o⟩
 have r:=Q6 hi;obtain⟨P,Q⟩:=Dk (d:=iy zs i++[0]) (os:=#[]) (n:=n) (w':=z) y u f h K (by rw[zbk,r];simp;omega) (by rw[grow_empty,o];simp[iy])
 have C:Rel c z (.ay 0 0 (iy zs i).length 1) (.slice (some ⟨B.b,B.s,none⟩) (iy zs i).length g):=Rel.ay u f aa (fun _=>⟨ag,aa⟩) l
 rw[show zs.length - (i+1 - i)=(iy zs i).length by omega]
 exact⟨c,_,1,.ret (.ay 0 0 (iy zs i).length 1),P,Q,zbm _,F,C,rfl,rfl,rfl⟩
theorem Q8 {n:Nat}{b a:Int}(zs:List Int)(i:Nat)(hi:i<zs.length)(d:n=zs.length)(e:b=(i:Int))(f:a=((i+1:Nat):Int)):cM 208 [.ay 0 0 n 1,i64 b,i64 a] (.put 0 (some (.arr 1 (zs.map ic))) .nil) 1
 (fun c H' _=>c = .ret (.ay 0 0 (iy zs i).length 1)∧H'.get 0=some (.arr 1 ((iy zs i++[0]).map ic))):=by
 subst d;subst e;subst f;refine(Q7 _ i hi).mono ?_
 rintro _ _ _ ⟨rfl,_,rfl⟩;exact⟨rfl,rfl⟩
end Go.Ago
end
namespace Go.Ago
open Go.Proofs List Nat Tryz
attribute [local irreducible] bA bw aV bp bG wr aZ bF comp DC DP DW DV DY
theorem XN (i:Ins):af 119 [i.av] (fun b=>b = .ret (.fn (.func 173) [] [.bm i.cells])):=by
 refine zw func119 ?_;rfl
theorem LV {l:List Int}{j:Nat}(h:j<l.length):l.take (j+1)=l.take j++[l[j]]:=ag
def aQ (i:Ins):List Int:=(if hasB i.op 65=true∧i.a≠-1 then [i.a] else [])++(if hasB i.op 66=true∧i.b≠-1 then [i.b] else [])++(if hasB i.op 76=true then i.l.l else [])
theorem HG:∀a:Int,hasB a 76=true->hasB a 65=false∧hasB a 66=false:=by
 intro a h
 by_cases c:a<0
 . rw[HF c] at h;cases h
 by_cases d:39≤a
 . rw[HE d] at h;cases h
 obtain⟨k,rfl⟩:=zbW (by omega:0≤a)
 have e:k<39:=aa;have:∀k:Fin 39,hasB (k.1:Int) 76=true->hasB (k.1:Int) 65=false∧hasB (k.1:Int) 66=false:=ab;exact this ⟨k,e⟩ h
theorem zax (i:Ins)(hi:i.l.l.length≤40):af 83 [i.av] (fun r=>r = .ret (bif (aQ i).isEmpty then .ai else aT (aQ i))):=by
 have s:=HG i.op;refine zw func83 ?_;cases m:hasB i.op 65<;>cases k:hasB i.op 66<;>cases g:hasB i.op 76
 all_goals first|(exfalso;have:=s g;simp_all;done)|skip
 all_goals
  refine zg ?_
  repeat' ((first|refine A2 m ?_|refine A1 m ?_|refine A2 k ?_|refine A1 k ?_|refine A2 g ?_|refine A1 g ?_|refine zf ?_|(refine zp ?_ ?_<;>intro h)|(refine DC.pure rfl (XN i) ?_;rintro _ rfl)|(refine DC.pure rfl (B4 _ _) ?_;rintro _ rfl)|refine DY.walk aC aD ?_|refine DW.range [3] ?_|refine zd func173 ?_)<;>refine zg ?_)
 all_goals first|(rw[show aQ i=[] by simp[aQ, *]];rfl)|(rw[show aQ i=[i.a] by simp[aQ, *]];rfl)|(rw[show aQ i=[i.b] by simp[aQ, *]];rfl)|(rw[show aQ i=[i.a,i.b] by simp[aQ, *]];rfl)|skip
 have p:aQ i=i.l.l:=by simp[aQ,m,k,g]
 refine DW.aO aC aD [0,39,40] [2] 2000 (fun q:{q:Nat×List Int // q.2=i.l.l.take q.1∧q.1≤i.l.l.length}=>[(41,i64 q.1.1)]) (fun q=>(2,.arr 1 [[fu 1000 1 (q.1.2.map fun a=>[i64 a])]])::fq 1000 1 (q.1.2.map fun a=>[i64 a])) [(1000,.cell 2 0)] (fun q=>i.l.l.length+1 - q.1.1) (⟨(0,[]),rfl,zbq _⟩) ?_
 conv=>whnf
 refine⟨?_,fun q=>?_⟩
 . conv => whnf
   (exact Ex)
 obtain⟨⟨j,c⟩,d,t⟩:=q;dsimp only at d t;rcases c with _|⟨y,c⟩
 . refine zk ?_
   repeat' ((first|refine zf ?_|(refine zp ?_ ?_<;>intro h)|refine DY.walk aC aD ?_|refine az.mk _ (dA (n:=j) aa) ?_)<;>refine zk ?_)
   . refine ⟨⟨(j + 1, [i.l.l[j]'aa]), (by rw [LV aa, <-d]; rfl), eY⟩, ?_, rfl, ?_⟩
     . conv => whnf
       (exact Ex)
     . dsimp only;omega
   . have o : i.l.l.take j = i.l.l := zbj aa
     rw[show aQ i=[] by rw[p,<-o,<-d]];rfl
 . refine zk ?_
   repeat' ((first|refine zf ?_|(refine Rq.mk (eP 8 64 ag rfl rfl (by have w:=zbc length d;simp only[zbd,zba,zbA] at *;omega) ab) ?_)|(refine zp ?_ ?_<;>intro h)|refine DY.walk aC aD ?_|refine az.mk _ (dA (n:=j) aa) ?_)<;>refine zk ?_)
   . refine ⟨⟨(j + 1, y :: (c ++ [i.l.l[j]'aa])), (by rw [LV aa, <-d]; rfl), eY⟩, ?_, rfl, ?_⟩
     . conv => whnf
       (exact Ex)
     . dsimp only;omega
   . have o : i.l.l.take j = i.l.l := zbj aa
     generalize u:snap _ 20 _=v
     obtain rfl:=Eq.trans u.symm (vm (f:=fun a:Int=>[i64 a]) (fun _=>by rfl) aB)
     conv=>whnf
     rw[show aQ i=y::c by rw[p,<-o,<-d]];rfl
theorem zA (i:Ins)(hi:i.l.l.length≤40):af 83 [i.av] (fun b=>b = .ret (aT (aQ i))):=by
 refine(DP.norm (f:=fun n=>[i64 n]) (sz:=1) (p:=fun a=>a=aQ i) ((zax i hi).mono ?_)).mono ?_<;>simp
end Go.Ago
namespace Go.Ago
open Go.Proofs List Nat Tryz
def Ek:List AV->Option AV
 | [.agg cs] => match xq cs with
   | some i => match ble i.l.l.length 40 with
     | true=>some (aT (aQ i))
     | false=>none
   | none=>none
 | _=>none
theorem zau {args:List AV}{v:AV}(h:Ek args=some v):af 83 args (· = .ret v):=by
 unfold Ek at h;split at h
 . rename_i cs
   cases hi:xq cs with
   | none=>rw[hi] at h;cases h
   | some i =>
     rw[hi] at h;dsimp only at h;cases hl:ble i.l.l.length 40 with
     | false=>rw[hl] at h;cases h
     | true =>
       rw[hl] at h;cases h;exact DP.lZ (args2:=[i.av]) ⟨.inl (.inr ⟨_,_,rfl,rfl,TS hi⟩),trivial⟩ (zA i (zbb hl))
 . cases h
def Co (T:List j5)(g:Nat):Option (List AV->Option AV):=
 match beq g 138 with
 | true=>some wG
 | false => match beq g 83 with
   | true=>some Ek
   | false => match D2 T g with
     | true=>some (vo T g)
     | false=>none
theorem UK {T:List j5}(hT:∀r∈T,af r.1 r.2.1 (· = .ret r.2.2)):z7 (Co T):=by
 intro g U args v h hv;unfold Co at h;split at h
 . rename_i e;cases h;rw[zbl e];exact Gb hv
 . split at h
   . rename_i e;cases h;rw[zbl e];exact zau hv
   . split at h
     . cases h;exact D4 hT hv
     . cases h
theorem jP {T:List j5}(hT:∀r∈T,af r.1 r.2.1 (· = .ret r.2.2)){n:Nat}{g:FuncId}{args:List AV}{v:AV}(h:(wR (Co T) n).P g args (fun ae=>ae = .ret v)=(AE.ret v=AE.ret v)):af g args (· = .ret v):=GI (UK hT) h
end Go.Ago
namespace Go.Ago
open Go.Proofs List Nat Tryz
attribute [local irreducible] bA bw aV bp bG wr aZ bF comp DC DP DW DV DY
structure EI (c:Ck)(op n:Int)(l r:BL (List AV)):Prop where
 ma:1≤op∧op≤31
 hr:op=2∨op=3∨op=30∨op=31->r.l.length=1
 hl:4≤op∧op≤24->1≤l.l.length∧l.l.length≤3
 uF:op=30∨op=31->l.l.length=1
 call:op=25->∃h:n.toNat<c.p.procs.l.length,1≤n∧(c.p.procs.l[n.toNat]'h).lK.l.length=1
theorem Wv (c:Ck)(f n:Int)(t:Ty)(v:Vl)(l r:BL (List AV)):af 230 [c.av,.agg [i64 f,i64 t.kind,i64 t.p,i64 t.q,.bool t.fz,.str t.eA,i64 v.n,.str v.s,i64 n,.ak 11 l.l,.ak 11 r.l]] (fun k=>(k = .ret (.bool true)∧EI c f n l r)∨k = .ret (.bool false)):=by
 refine zw func230 ?_;have B:=c.p.procs.h;have y:=c.p.dv.h;have g:=c.fQ;have m:=l.h;have o:=r.h;refine zk ?_
 repeat' ((first|(refine zp ?_ ?_<;>first|exact⟨⟩|intro h)|refine az.mk _ (dA aa) ?_|(refine DC.pure rfl (tf _ _ _) ?_;rintro _ (⟨rfl,d⟩|⟨rfl,d⟩))|(refine zh rfl (tf _ _ _) ?_;rintro _ (⟨rfl,d⟩|⟨rfl,d⟩))|(refine zh rfl (KM _ c.hp _ _ g.2) ?_;rintro _ (⟨rfl,x⟩|rfl))|(refine zh rfl (o4 _ _ mD) ?_;rintro _ (⟨rfl,e⟩|⟨rfl,e⟩)<;>simp only[zba] at e)|(obtain⟨a,b,j,D,C,w,z,A,u⟩:=FT f aa;refine az.mk _ j ?_;clear j)|refine zo ?_)<;>refine zk ?_)
 all_goals first|exact .inr rfl|exact .inl ⟨rfl,⟨aa,aa,aa,aa,fun _=>⟨aa,aa,aa⟩⟩⟩
theorem zak {d:Nat}(c:Ck)(f n:Int)(t:Ty)(v:Vl)(l r:BL (List AV))(a:EI c f n l r)(e:∀x∈l.l,cP d x)(F:∀x∈r.l,j8 (cP d) x):af 231 [c.av,.agg [i64 f,i64 t.kind,i64 t.p,i64 t.q,.bool t.fz,.str t.eA,i64 v.n,.str v.s,i64 n,.ak 11 l.l,.ak 11 r.l]] (cc fun _=>True):=by
 refine zw func231 ?_;have j:=a.ma;have k:=a.hr;have m:=a.hl;have o:=a.uF;have w:f=25->1≤n∧n<c.p.procs.l.length:=fun h=>by obtain⟨J,Z,_⟩:=a.call h;omega
 have y:=c.p.procs.h;have z:=l.h;have A:=r.h;refine zk ?_
 repeat' ((first|(refine zp ?_ ?_<;>intro h)|refine az.mk _ (dA aa) ?_|(refine DC.pure rfl (wA t v) ?_;rintro _ ⟨P,rfl,B⟩)|(refine zh rfl (Xt) ?_;rintro _ rfl)|(refine zh rfl (OT _) ?_;rintro _ rfl)|(refine zh rfl (zaK _) ?_;rintro _ rfl)|(refine zh rfl (Jo l e _) ?_;rintro _ ⟨b1,rfl,C⟩)|(refine zh rfl (zam l e aa) ?_;rintro _ ⟨u,rfl⟩)|(refine zh rfl (Fw _ _ u) ?_;rintro _ ⟨t9,b9,rfl⟩)|(obtain⟨E,K,L,M,N,O,b,Q⟩:=nD e (n:=0) (by have:=a.hl;have:=a.uF;omega);refine az.mk _ b ?_;clear b)|(obtain⟨R,S,T,U,V,X,Y,b,D,H⟩:=qv F (n:=0) (by have:=a.hr;omega);refine az.mk _ b ?_;clear b)|(obtain⟨G,I,i⟩:=a.call aa;refine Rq.mk (by simp only[hY,zba];omega) ?_))<;>refine zk ?_)
 all_goals exact⟨_,rfl,trivial⟩
end Go.Ago
namespace Go.Ago
open Go.Proofs List Nat Tryz
def ni:AV := .agg [.ak 29 [[i64 1,i64 (-1),i64 (-1),i64 (-1),i64 0,i64 0,i64 0,.bool false,.str [],i64 0,i64 0,i64 0,.bool false,.str [],i64 0,i64 0,i64 0,.bool false,.str [],i64 10,i64 0,i64 0,i64 0,.str [],.ai,.ai,.ai,.bool false,.bool false],[i64 2,i64 0,i64 (-1),i64 (-1),i64 2,i64 15,i64 0,.bool false,.str [],i64 0,i64 0,i64 0,.bool false,.str [],i64 0,i64 0,i64 0,.bool false,.str [],i64 0,i64 0,i64 0,i64 7,.str [],.ai,.ai,.ai,.bool false,.bool false],[i64 4,i64 1,i64 (-1),i64 (-1),i64 0,i64 0,i64 0,.bool false,.str [],i64 0,i64 0,i64 0,.bool false,.str [],i64 0,i64 0,i64 0,.bool false,.str [],i64 1,i64 0,i64 0,i64 0,.str [],.ai,.ai,.ai,.bool false,.bool false],[i64 9,i64 (-1),i64 1,i64 0,i64 2,i64 15,i64 0,.bool false,.str [],i64 0,i64 0,i64 0,.bool false,.str [],i64 0,i64 0,i64 0,.bool false,.str [],i64 0,i64 0,i64 0,i64 0,.str [],.ai,.ai,.ai,.bool false,.bool false],[i64 1,i64 (-1),i64 (-1),i64 (-1),i64 0,i64 0,i64 0,.bool false,.str [],i64 0,i64 0,i64 0,.bool false,.str [],i64 0,i64 0,i64 0,.bool false,.str [],i64 20,i64 0,i64 0,i64 0,.str [],.ai,.ai,.ai,.bool false,.bool false],[i64 8,i64 2,i64 1,i64 (-1),i64 2,i64 15,i64 0,.bool false,.str [],i64 0,i64 0,i64 0,.bool false,.str [],i64 0,i64 0,i64 0,.bool false,.str [],i64 0,i64 0,i64 0,i64 0,.str [],.ai,.ai,.ai,.bool false,.bool false],[i64 27,i64 (-1),i64 (-1),i64 (-1),i64 0,i64 0,i64 0,.bool false,.str [],i64 0,i64 0,i64 0,.bool false,.str [],i64 0,i64 0,i64 0,.bool false,.str [],i64 0,i64 0,i64 0,i64 0,.str [],.ai,.ak 1 [[i64 2]],.ak 5 [[i64 2,i64 15,i64 0,.bool false,.str []]],.bool false,.bool false]],i64 3,.ai]
def nt:AV := .ak 1 [[.ak 1 [[.int .u64 0]]],[.ak 1 [[.int .u64 0]]],[.ak 1 [[.int .u64 1]]],[.ak 1 [[.int .u64 3]]],[.ak 1 [[.int .u64 2]]],[.ak 1 [[.int .u64 2]]],[.ak 1 [[.int .u64 4]]],[.ak 1 [[.int .u64 0]]]]
theorem oD:af 37 [ni] (· = .ret nt):=jP (T:=[]) (n:=40) (fun _ h=>by cases h) aG
end Go.Ago
