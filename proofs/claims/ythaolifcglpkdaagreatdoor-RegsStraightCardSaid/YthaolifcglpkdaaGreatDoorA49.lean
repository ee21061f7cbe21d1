/-
  Part 49: lemmas, each with its own conditions.
-/
import Derived.Test.YthaolifcglpkdaaGreatDoorA48
set_option maxRecDepth 100000
set_option maxHeartbeats 0
set_option linter.all false
namespace Go.Ago
open Go.Proofs
attribute [local irreducible] ltI leI eqI eqS shrI wr inB mmI comp DC DP DW DV
attribute [local irreducible] ckP ct InR PLc zev zeu zdo zcf ckC zb7 entN zbh za3 bitW EntP sumN zby
theorem yea (l:List Ins)(h:l.length≤100000):DPR 45 [i64 ((l.map Ins.cells).length:Int)] (fun ae=>ae = .ret (zaq (zby l.length))):=by
 rw[List.length_map];exact zvb l.length h
theorem yd9 (n:Int)(h:0≤n∧n≤100000):DPR 45 [i64 n] (fun ae=>ae = .ret (zaq (zby n.toNat))):=by
 obtain⟨k,rfl⟩:=Int.eq_ofNat_of_zero_le h.1;exact zvb k (by omega)
theorem yk7 (c:Cd)(q:Nat)(bd:Bd)(hp:q<c.b.l.length)(h70:c.b.l.length≤100):DPR 44 [c.av,i64 q,bd.av] (fun ae=>ae = .ret (zh5 c q bd).av):=zp3 c (q:Int) bd ⟨by omega,by omega⟩ h70
theorem yaz (c:Cd)(q:Nat)(hs:zbh c.b.l≤100000)(hp:q<c.b.l.length):DPR 33 [c.av,i64 q] (fun ae=>∃g:Gr,ae = .ret g.av∧GOf c (q:Int) g):=zgu c q hs ⟨by omega,by omega⟩
theorem zyw {H:zah}{n:Nat}{cs ds:List AV}(h:mapO (snap H n) cs=some ds):snap H (n+1) (.tup cs)=some (.tup ds):=by simp only[snap,h]
theorem AlInv.at_end {c d:Cd}{k:Int}{q:Nat}{of:List (List Int)}(h:AlInv c k q d of)(e:q=c.b.l.length):AlInv c k c.b.l.length d of:=e ▸ h
theorem yiz (k:Int)(hk:4≤k∧k≤16):DPR 41 [i64 k] (fun ae=>ae = .ret (.bool true)):=by
 refine zaf eRg zae Tryz.func41 rfl (by decide) rfl rfl ?_
 conv=>whnf
 repeat' first
  | (refine Br.split (fun h=>?_) (fun h=>?_)<;>(try simp only[bz] at h)<;>first|(exfalso;omega)|(conv=>whnf))
 all_goals rfl
theorem ydl {bs:List Bd}{m:Nat}:sumN bs m≤zbh bs:=by
 unfold sumN zbh
 induction bs generalizing m with
 | nil=>simp
 | cons b bs ih =>
   cases m with
   | zero=>simp
   | succ m=>simp only[List.take_succ_cons,List.map_cons,List.sum_cons];have:=@ih m;omega
theorem ya7:∀{a b:List Bd},b.length=a.length→(∀(j:Nat) (h:j<a.length) (h':j<b.length),b[j].ins.l.length≤4 * a[j].ins.l.length)→zbh b≤4 * zbh a
 | [],[],_,_=>by unfold zbh;simp
 | [],_::_,h,_=>by simp at h
 | _::_,[],h,_=>by simp at h
 | x :: a, y :: b, h, hh => by
   have h1:=hh 0 (by simp) (by simp)
   have h2:=ya7 (a:=a) (b:=b) (by simpa using h) fun j hj hj'=>by
    have:=hh (j+1) (by simp;omega) (by simp;omega)
    simpa using this
   unfold zbh at h2 ⊢;simp only[List.map_cons,List.sum_cons,List.getElem_cons_zero] at h1 ⊢;omega
theorem AlInv.sum {c d:Cd}{k:Int}{q:Nat}{of:List (List Int)}(h:AlInv c k q d of)(hs:SmallC c 250 60):zbh d.b.l≤1000:=by
 have:=ya7 h.len h.few;have:=hs.sum;omega
theorem AlInv.spH {c d:Cd}{k:Int}{q:Nat}{of:List (List Int)}(h:AlInv c k q d of)(hc:zjk c)(hs:SmallC c 250 60)(hk:4≤k∧k≤16)(hq:q<c.b.l.length){g:Gr}(hg:GOf d (q:Int) g):SpH d k q g.regs.toNat:=by
 have hv:=h.graph hc hs hq hg;obtain⟨hp,h1,h2,_⟩:=hg;have hqd:q<d.b.l.length:=by rw[h.len];exact hq
 have a1:g.ins=d.b.l[q].ins:=by simpa using h1
 have a2:g.regs=d.b.l[q].regs:=by simpa using h2
 have t:=h.todo q hq hqd (Nat.le_refl _);have tl:d.b.l[q].ins.l.length=c.b.l[q].ins.l.length:=t.2.1;have hsum:=h.sum hs;have r:=hv.regs;have e:((g.regs.toNat:Nat):Int)=g.regs:=by omega
 refine⟨hqd,by rw[h.len];have:=hs.nb;omega,by omega,by omega,by rw[e,a2],?_,?_,?_,?_,?_⟩
 · rw[← a1];exact hv.few.1
 · rw[e,← a1];exact hv.ins
 · rw[← a1];exact hv.lst
 · have := h.gotoIn hc hq
   rw[tl];exact this
 · intro b hb
   have:=zdz hb;omega
theorem zr5 (c:Cd)(k:Int)(hsm:SmallC c 250 60)(hk:4≤k∧k≤16)(hck:ckC c=0):DPR 11 [c.av,i64 k] (fun ae=>∃(d:Cd) (of:List (List Int)) (v:AV),ae = .ret (.tup [d.av,.agg [v],i64 0])∧Told v (.rsl 1 (of.map il1))∧AlInv c k c.b.l.length d of):=by
 have hc:=yg0 c hck;have hnb:=hsm.nb;have hregs:∀(j:Nat) (h:j<c.b.l.length),c.b.l[j].regs≤60:=fun j h=>hsm.regs _ (List.getElem_mem h)
 have hins:∀(j:Nat) (h:j<c.b.l.length),c.b.l[j].ins.l.length≤250:=fun j h=>Nat.le_trans (zdz (List.getElem_mem h)) hsm.sum
 have hsum:∀m,sumN c.b.l m≤250:=fun m=>Nat.le_trans ydl hsm.sum
 have hs0:=@yf3 c.b.l;refine zaf eRg zae Tryz.func11 rfl (by decide) rfl rfl ?_
 conv=>whnf
 repeat' ((first|refine Br.split (fun h=>?_) (fun h=>?_)<;>(try simp only[bz] at h)<;>try (exfalso;omega)|(refine zaa rfl (zfq c) ?_;rintro _ rfl)|(refine zaa rfl (yiz k hk) ?_;rintro _ rfl)|refine zay eRg zae Tryz.func30 rfl (by decide) rfl rfl ?_|refine zay eRg zae Tryz.func40 rfl (by decide) rfl rfl ?_)<;>conv=>whnf)
 refine zai eRg zae [2,3,4,5,6,27,28] [] 0 (fun x:{m:Nat // m≤c.b.l.length}=>[(29,i64 x.1),(8,i64 (sumN c.b.l x.1))]) (fun _=>[]) [] (fun x=>c.b.l.length+1 - x.1) (⟨0,Nat.zero_le _⟩) ?_
 conv=>whnf
 refine⟨?_,fun x=>?_⟩
 · conv => whnf
   (repeat' first|exact True.intro|rfl|apply And.intro|exact congrArg (AV.int .i64) (by(try dsimp only);omega))
 rcases x with⟨m,hmb⟩
 have hsm0:=hsum m;have hr0:=hregs m
 (try dsimp only at hmb)
 conv=>whnf
 repeat' first
  | (refine Ok3.mk _ (zam (l:=c.b.l) (i:=m) (by omega)) ?_;conv=>whnf)
  | (refine Rq.mk (by(first|rfl|((try simp only[rz]);((omega ))))) ?_;conv=>whnf)
  | (refine Br.split (fun h=>?_) (fun h=>?_)<;>(try simp only[bz] at h)<;>first|(exfalso;(first|omega|(have hr1:=hregs m (by omega);omega)))|(conv=>whnf))
 · have hlt : m < c.b.l.length := by omega
   have h1:=zyp hlt;have h2:=hsum (m+1);have h3:=hins m hlt;have hw:wr .i64 ((sumN c.b.l m:Int)+((c.b.l[m]).ins.l.length:Int))=(sumN c.b.l (m+1):Int):=by rw[wr64 (by omega) (by omega)];omega
   refine⟨⟨m+1,hlt⟩,?_,rfl,(by(dsimp only);omega)⟩
   conv=>whnf
   repeat' first|exact True.intro|rfl|apply And.intro|(refine cw ?_ ?_ ?_<;>(try dsimp only)<;>omega)|exact congrArg (AV.int .i64) (by rw[List.length_map];exact hw)
 refine zai eRg zae [3,4,5,6,11,12,52] [36,37] 4000 (fun x:{x:(Nat×Cd)×List (List Int) // AlInv c k x.1.1 x.1.2 x.2}=>[(53,i64 x.1.1.1)]) (fun x=>(36,.arr 7 [x.1.1.2.cells])::(37,.arr 1 [[accV 2000 1 (x.1.2.map il1)]])::accH 2000 1 (x.1.2.map il1)) [(2000,.cell 37 0)] (fun x=>c.b.l.length+1 - x.1.1.1) (⟨((0,c),[]),AlInv.start c k⟩) ?_
 conv=>whnf
 refine⟨?_,fun x=>?_⟩
 · conv => whnf
   (repeat' first|exact True.intro|rfl|apply And.intro )
 rcases x with⟨⟨⟨q,d⟩,of⟩,hx⟩
 have hinv:AlInv c k q d of:=hx;have hle:=hinv.le;have hdl:=hinv.len;have hofl:=hinv.ofl;have hdsum:=hinv.sum hsm;have hdins:∀(j:Nat) (h:j<d.b.l.length),d.b.l[j].ins.l.length≤1000:=fun j h=>Nat.le_trans (zdz (List.getElem_mem h)) hdsum
 rcases of with _|⟨o,os⟩
 all_goals
  try simp only[List.length_cons,List.length_nil] at hofl
  conv=>whnf
  repeat' ((first|refine Br.f (b:=Nat.beq _ _) rfl ?_|refine Rq.mk (zcg 24 2000 (by simp) rfl rfl (by simp only[List.length_cons,List.length_map,List.length_nil];omega) (by decide)) ?_|refine Rq.mk (b:=chk3 _ _ _ _ _ _) (by kernel_rfl) ?_|refine Rq.mk (by(rfl )) ?_|refine Br.split (fun h=>?_) (fun h=>?_)<;>(try simp only[bz] at h)|(refine zaa rfl (yaz d q (by omega) (by omega)) ?_;rintro _ ⟨g,rfl,hg⟩)|(refine zaa rfl (yej g (hinv.graph hc hsm (by omega) hg) k ⟨by omega,by omega⟩) ?_;rintro _ ⟨v,b,rfl,⟨rfl,rfl,hln⟩|⟨rfl,bd,rfl,hbr,hbk⟩⟩)|(refine zaa rfl (ztr g (hinv.graph hc hsm (by omega) hg) k ⟨by omega,by omega⟩) ?_;rintro _ ⟨v2,b2,rfl,⟨rfl,rfl⟩|⟨rfl,bd,rfl,hbr,hbk⟩⟩)|(refine zaa rfl (yk7 d q bd (by omega) (by omega)) ?_;rintro _ rfl)|(refine zar rfl (yea bd.ins.l (by have:=zl8 hbk;have:=(hinv.graph hc hsm (by omega) hg).few.1;omega)) ?_;rintro _ rfl<;>refine⟨_,rfl,?_⟩)|(refine zar rfl (yd9 g.regs (by have:=(hinv.graph hc hsm (by omega) hg).regs;omega)) ?_;rintro _ rfl<;>refine⟨_,rfl,?_⟩)|(refine zar rfl (zsw d k q g.regs.toNat (hinv.spH hc hsm hk (by omega) hg)) ?_;rintro _ ⟨out,ofx,rfl,hsp,hof⟩<;>refine⟨_,rfl,?_⟩)|refine And.intro (a:=zaw _=true) (by kernel_rfl) (LzK.e ?_))<;>conv=>whnf)
 all_goals first
  | (refine ⟨⟨((q + 1, out), [ofx]), (show AlInv c k (q + 1) out ([ofx]) from hinv.spill (by omega) (hinv.thin hc hck hsm (by omega) hg hln) hsp ofx (by have := hdins q (by omega); omega))⟩, ?_, rfl, (by (dsimp only); omega)⟩
     conv=>whnf
     (repeat' first|exact True.intro|rfl|exact congrArg (fun v=>AObj.arr 1 [[v]]) (zat (by rfl) (by rfl) (by first|(simp;done)|(simp;omega)) (by rfl))|exact za4 (by rfl) (za7 (f:=il1) (fun _=>by rfl) (by rfl) (by simp))|exact zav (f:=il1) (fun _=>by rfl)|exact zaj (f:=il1) (fun _=>by rfl)|apply And.intro|(refine cw ?_ ?_ ?_<;>(try dsimp only)<;>omega)|exact congrArg (AV.int .i64) (by(try dsimp only);omega)))
  | (refine ⟨⟨((q + 1, zh5 d q bd), [zby bd.ins.l.length]), (show AlInv c k (q + 1) (zh5 d q bd) ([zby bd.ins.l.length]) from hinv.fits (by omega) hg hbr hbk)⟩, ?_, rfl, (by (dsimp only); omega)⟩
     conv=>whnf
     (repeat' first|exact True.intro|rfl|exact congrArg (fun v=>AObj.arr 1 [[v]]) (zat (by rfl) (by rfl) (by first|(simp;done)|(simp;omega)) (by rfl))|exact za4 (by rfl) (za7 (f:=il1) (fun _=>by rfl) (by rfl) (by simp))|exact zav (f:=il1) (fun _=>by rfl)|exact zaj (f:=il1) (fun _=>by rfl)|apply And.intro|(refine cw ?_ ?_ ?_<;>(try dsimp only)<;>omega)|exact congrArg (AV.int .i64) (by(try dsimp only);omega)))
  | (refine ⟨⟨((q + 1, out), o :: (os ++ [ofx])), (show AlInv c k (q + 1) out (o :: (os ++ [ofx])) from hinv.spill (by omega) (hinv.thin hc hck hsm (by omega) hg hln) hsp ofx (by have := hdins q (by omega); omega))⟩, ?_, rfl, (by (dsimp only); omega)⟩
     conv=>whnf
     (repeat' first|exact True.intro|rfl|exact congrArg (fun v=>AObj.arr 1 [[v]]) (zat (by rfl) (by rfl) (by first|(simp;done)|(simp;omega)) (by rfl))|exact za4 (by rfl) (za7 (f:=il1) (fun _=>by rfl) (by rfl) (by simp))|exact zav (f:=il1) (fun _=>by rfl)|exact zaj (f:=il1) (fun _=>by rfl)|apply And.intro|(refine cw ?_ ?_ ?_<;>(try dsimp only)<;>omega)|exact congrArg (AV.int .i64) (by(try dsimp only);omega)))
  | (refine ⟨⟨((q + 1, zh5 d q bd), o :: (os ++ [zby bd.ins.l.length])), (show AlInv c k (q + 1) (zh5 d q bd) (o :: (os ++ [zby bd.ins.l.length])) from hinv.fits (by omega) hg hbr hbk)⟩, ?_, rfl, (by (dsimp only); omega)⟩
     conv=>whnf
     (repeat' first|exact True.intro|rfl|exact congrArg (fun v=>AObj.arr 1 [[v]]) (zat (by rfl) (by rfl) (by first|(simp;done)|(simp;omega)) (by rfl))|exact za4 (by rfl) (za7 (f:=il1) (fun _=>by rfl) (by rfl) (by simp))|exact zav (f:=il1) (fun _=>by rfl)|exact zaj (f:=il1) (fun _=>by rfl)|apply And.intro|(refine cw ?_ ?_ ?_<;>(try dsimp only)<;>omega)|exact congrArg (AV.int .i64) (by(try dsimp only);omega)))
  | exact⟨d,[],.nils,rfl,Told.nil,(hinv.at_end (by omega))⟩
  | (generalize hg2 : snap _ _ _ = rr
     obtain rfl:=hg2.symm.trans (zyw (n:=19) (zab rfl (zab (zd2 (n:=18) (zab (zbk (f:=il1) (l:=o::os) (n:=17) (fun _=>rfl) rfl rfl (by simp)) rfl)) (zab rfl rfl))))
     exact⟨d,o::os,_,rfl,Told.r,(hinv.at_end (by omega))⟩)
end Go.Ago
section
namespace Go.Ago
open Go.Proofs
noncomputable def badE (c:Cd):Int:=if ckC c≠0 then ckC c else 1
theorem ycv {c:Cd}:badE c≠0:=by unfold badE;split<;>omega
theorem Ask3.bad {c:Cd}{p e:Int}{Q:Prop}(h:Ask3 c p e Q)(hn:¬(ckC c=0∧0≤p∧p<c.b.l.length)):e=badE c:=by
 rcases h with⟨h1,rfl⟩|⟨h1,h2,rfl⟩|⟨h1,h2,_⟩
 · unfold badE;rw[if_pos h1]
 · unfold badE;rw[if_neg (by omega)]
 · exact absurd ⟨h1,h2⟩ hn
theorem Ask3.good {c:Cd}{p e:Int}{Q:Prop}(h:Ask3 c p e Q)(hn:ckC c=0∧0≤p∧p<c.b.l.length):e=0∧Q:=by
 rcases h with⟨h1,_⟩|⟨_,h2,_⟩|⟨_,_,h3,h4⟩
 · exact absurd hn.1 h1
 · exact absurd hn.2 h2
 · exact⟨h3,h4⟩
theorem GOf.uniq {c:Cd}{p:Int}{g g':Gr}(h:GOf c p g)(h':GOf c p g')(hn:ckC c=0∧0≤p∧p<c.b.l.length):g=g':=by
 obtain⟨_,a1,a2,e,a3⟩:=h;obtain⟨_,b1,b2,e',b3⟩:=h';have he:g.entries.l=g'.entries.l:=by
  rcases a3 with⟨r,_⟩|⟨_,r,_⟩|⟨_,_,_,_,x1,x2⟩
  · exact absurd hn.1 r
  · exact absurd hn.2 r
  · rcases b3 with ⟨r, _⟩ | ⟨_, r, _⟩ | ⟨_, _, _, _, y1, y2⟩
    · exact absurd hn.1 r
    · exact absurd hn.2 r
    · exact zzw x2 y2 fun z=>(x1 z).trans (y1 z).symm
 obtain⟨gi,gr,⟨gl,gh⟩⟩:=g;obtain⟨gi',gr',⟨gl',gh'⟩⟩:=g';dsimp only at a1 a2 b1 b2 he;subst he;rw[a1,a2,← b1,← b2]
theorem SmallC.up {c:Cd}(h:SmallC c 250 60):SmallC c 1000 60:=⟨h.nb,h.regs,h.lst,by have:=h.sum;omega⟩
theorem ynv {n:Int}:mmI true n 4=max n 4:=by unfold mmI;simp[Int.max_def];split<;>split<;>omega
theorem yqp (c:Cd)(p:Int)(hsm:SmallC c 250 60)(hn:¬(ckC c=0∧0≤p∧p<c.b.l.length)):∃(b:Bool) (n:Int),DPR 8 [c.av,i64 p] (fun ae=>ae = .ret (.tup [.bool b,i64 (badE c)]))∧DPR 9 [c.av,i64 p] (fun ae=>ae = .ret (.tup [i64 n,i64 (badE c)]))∧DPR 10 [c.av,i64 p] (fun ae=>ae = .ret (.tup [.nils,i64 (badE c)])):=by
 obtain⟨_,h8,b,e8,rfl,a8⟩:=zlt c p (by have:=hsm.sum;omega)
 obtain⟨_,h9,n,e9,rfl,a9⟩:=zl0 c p hsm.up;obtain⟨_,h10,v,e10,rfl,a10,a10v⟩:=zvp c p hsm.up;obtain rfl:=a8.bad hn;obtain rfl:=a9.bad hn;obtain rfl:=a10.bad hn;obtain rfl:=a10v ycv;exact⟨b,n,⟨_,h8,rfl⟩,⟨_,h9,rfl⟩,⟨_,h10,rfl⟩⟩
theorem yoh (c:Cd)(p:Int)(hsm:SmallC c 250 60)(hn:ckC c=0∧0≤p∧p<c.b.l.length):∃(g:Gr) (S S':List (List W64)) (n:Int) (b:Bool),GOf c p g∧LiveOK g S∧LiveOK g S'∧zgf g S n∧(b=true↔StraightG g)∧DPR 8 [c.av,i64 p] (fun ae=>ae = .ret (.tup [.bool b,i64 0]))∧DPR 9 [c.av,i64 p] (fun ae=>ae = .ret (.tup [i64 n,i64 0]))∧DPR 10 [c.av,i64 p] (fun ae=>ae = .ret (.tup [.rsl 1 ((livL g S' S'.length).map il1),i64 0])):=by
 obtain⟨_,h8,b,e8,rfl,a8⟩:=zlt c p (by have:=hsm.sum;omega)
 obtain⟨_,h9,n,e9,rfl,a9⟩:=zl0 c p hsm.up;obtain⟨_,h10,v,e10,rfl,a10,a10v⟩:=zvp c p hsm.up;obtain⟨rfl,g,hg,hb⟩:=a8.good hn;obtain⟨rfl,g2,S,hg2,hS,hP⟩:=a9.good hn;obtain⟨rfl,g3,S',hg3,hS',rfl⟩:=a10.good hn;obtain rfl:=hg.uniq hg2 hn;obtain rfl:=hg.uniq hg3 hn;exact⟨g,S,S',n,b,hg,hS,hS',hP,hb,⟨_,h8,rfl⟩,⟨_,h9,rfl⟩,⟨_,h10,rfl⟩⟩
theorem zr6 (c:Cd)(k:Int)(hsm:SmallC c 250 60)(hk:4≤k∧k≤16)(hck:ckC c=0):DPR 11 [c.av,i64 k] (fun ae=>∃(d:Cd) (of:List (List Int)),ae = .ret (.tup [d.av,.agg [.rsl 1 (of.map il1)],i64 0])∧AlInv c k c.b.l.length d of):=
 (zr5 c k hsm hk hck).told (by
  rintro _ ⟨d,of,v,rfl,ht,h⟩
  exact⟨_,.tup [d.av,.agg [.rsl 1 (of.map il1)],i64 0],rfl,Told.tup ⟨.r,Told.agg ⟨ht,trivial⟩,.r,trivial⟩,d,of,rfl,h⟩)
attribute [local irreducible] ltI leI eqI eqS shrI wr inB mmI comp DC DP DW DV
attribute [local irreducible] ckP ct InR PLc zev zeu zdo zcf ckC zb7 entN zbh za3 bitW EntP livL zby
theorem zt1 {c d:Cd}{K:Int}{of:List (List Int)}{j:Nat}(h:AlInv c K c.b.l.length d of)(hj:j<c.b.l.length)(hT:Thin c K j) :
 d.b.l.length=c.b.l.length∧of.length=c.b.l.length∧(∀h:j<d.b.l.length,d.b.l[j].regs=K∧d.b.l[j].ins.l.length=c.b.l[j].ins.l.length)∧∀h:j<of.length,¬(-1:Int)∈of[j]:=
 ⟨h.len,h.ofl,fun h'=>h.done j hj h' hj hT,fun h'=>h.ofd j h' hT⟩
theorem zxx {c:Cd}{p:Int}{tw:List Int}{v:AV}(h:ColP c p tw v){g:Gr}{S S':List (List W64)}{n:Int}(hsm:SmallC c 250 60)(hn:ckC c=0∧0≤p∧p<c.b.l.length)(hg:GOf c p g)(hst:StraightG g)(hS:LiveOK g S)(hP:zgf g S n)(hS':LiveOK g S'):∃bd:Bd,v=(zh5 c p.toNat bd).av∧((∀h:0<(livL g S' S'.length).length,(livL g S' S'.length)[0].length=0)→n≤bd.regs):=by
 obtain⟨_,_,g3,S3,bd,hg3,hS3,hl3,hA3,ht3,hr3,rfl⟩:=h;obtain rfl:=hg.uniq hg3 hn;refine⟨bd,rfl,fun h0=>?_⟩
 have hu:∀k r,bitW (rowS S k) r=bitW (rowS S3 k) r:=LiveOK.uniq (g:=g) (g':=g) rfl (fun _ _ _=>Iff.rfl) hS hS3
 have hu':∀k r,bitW (rowS S k) r=bitW (rowS S' k) r:=LiveOK.uniq (g:=g) (g':=g) rfl (fun _ _ _=>Iff.rfl) hS hS'
 have hgv:GrV g:=hg.v hsm.up (Nat.le_refl _) (Nat.le_refl _) hn.2 hn.1;have hsl:=hS'.len;have hl0:(livL g S' S'.length).length=S'.length:=zlg (Nat.le_refl _);have hrow:za3 (rowS S' 0) g.regs.toNat=[]:=by
  have h1:=h0 (by omega)
  have h2:(livL g S' S'.length)[0]'(by omega)=za3 (rowS S' 0) g.regs.toNat:=by
   unfold livL;simp[List.getD,show 0<S'.length by omega]
  rw[h2] at h1;exact List.eq_nil_of_length_eq_zero h1
 refine ybm (tw:=fun r=>tw.getD r 0) hgv.ok hst hS (fun r hr=>?_) (fun k h h1 h2 r hr hb hne=>hA3 k h h1 h2 r hr (by unfold bitS at hb ⊢;rw[← hu];exact hb) hne) hr3 (fun r hr=>?_) hP
 · rw [hu']
   cases e:bitW (rowS S' 0) r with
   | false=>rfl
   | true =>
     have:(r:Int)∈za3 (rowS S' 0) g.regs.toNat:=mem_listW.2 ⟨r,rfl,by omega,e⟩
     rw[hrow] at this;cases this
 · have hlt : r < tw.length := by omega
   have e:tw.getD r 0=tw[r]:=by simp[List.getD,hlt]
   show 0≤tw.getD r 0∧tw.getD r 0<bd.regs;rw[e];exact ht3 _ (List.getElem_mem hlt)
theorem zwr {c:Cd}{q:Nat}{bd:Bd}(h:q<(zh5 c q bd).b.l.length):(zh5 c q bd).b.l[q].regs=bd.regs:=by
 rw[zgi (by rw[← withC_len (c:=c) (q:=q) (bd:=bd)];exact h) h,if_pos rfl]
theorem ydv {l:List (List Int)}(h1:(0:Int).toNat<l.length)(h:((l[(0:Int).toNat]).length:Int)≤0):∀h:0<l.length,l[0].length=0:=fun h0=>by
 have e:(l[(0:Int).toNat]).length=l[0].length:=rfl;omega
theorem zoy (c:Cd)(p:Int)(tw:BL Int)(hsane:DPR 6 [] (fun ae=>ae = .ret (.bool true)))(hsm:SmallC c 250 60)(hn:¬(ckC c=0∧0≤p∧p<c.b.l.length)):DPR 3 [c.av,i64 p,zaq tw.l] (fun ae=>ae = .ret (.bool true)):=by
 have hne:=@ycv c;have htl:=tw.h;obtain⟨b1,n1,h8,h9,h10⟩:=yqp c p hsm hn
 generalize badE c=e0 at hne h8 h9 h10
 refine zaf eRg zae Tryz.func3 rfl (by decide) rfl rfl ?_
 conv=>whnf
 repeat' ((first|refine Br.split (fun h=>?_) (fun h=>?_)<;>(try simp only[bz] at h)<;>try (exfalso;omega)|refine zag (fun h=>?_) (fun h=>?_)<;>(try simp only[bz] at h)|(refine zaa rfl (hsane) ?_;rintro _ rfl)|(refine zaa rfl (zkz c 250 60 (by decide)) ?_;rintro _ ⟨b,rfl,hb⟩)|(refine zaa rfl (h8) ?_;rintro _ rfl)|(refine zaa rfl (h9) ?_;rintro _ rfl)|(refine zaa rfl (h10) ?_;rintro _ rfl))<;>conv=>whnf)
 all_goals first|rfl
theorem znf (c:Cd)(p:Int)(tw:BL Int)(hsane:DPR 6 [] (fun ae=>ae = .ret (.bool true)))(hsm:SmallC c 250 60)(hn:ckC c=0∧0≤p∧p<c.b.l.length):DPR 3 [c.av,i64 p,zaq tw.l] (fun ae=>ae = .ret (.bool true)):=by
 obtain⟨g,S,S',n,b,hg,hS,hS',hP,hb,h8,h9,h10⟩:=yoh c p hsm hn;have hn0:=hn;obtain⟨hck,hp0,hp1⟩:=hn;have htl:=tw.h;have hnn:=hP.nn;have hmm:4≤mmI true n 4∧n≤mmI true n 4:=by rw[ynv];omega
 have hil:g.ins=c.b.l[p.toNat].ins:=by obtain⟨_,h,_⟩:=hg;simpa using h
 have hlv:(livL g S' S'.length).length=c.b.l[p.toNat].ins.l.length+1:=by rw[zlg (Nat.le_refl _),hS'.len,hil]
 have hii:=hsm.up.sum;have hi2:=zdz (List.getElem_mem (l:=c.b.l) (n:=p.toNat) (by omega))
 have hw:wr .i64 ((c.b.l[p.toNat].ins.l.length:Int)+1)=(c.b.l[p.toNat].ins.l.length:Int)+1:=wr64 (by omega) (by omega)
 have hnb:=hsm.nb;rcases b with _|_
 · refine zaf eRg zae Tryz.func3 rfl (by decide) rfl rfl ?_
   conv=>whnf
   repeat' ((first|refine Br.split (fun h=>?_) (fun h=>?_)<;>(try simp only[bz] at h)|refine zag (fun h=>?_) (fun h=>?_)<;>(try simp only[bz] at h)|(refine zaa rfl (hsane) ?_;rintro _ rfl)|(refine zaa rfl (zkz c 250 60 (by decide)) ?_;rintro _ ⟨b9,rfl,hb9⟩)|(refine zaa rfl (h8) ?_;rintro _ rfl)|(refine zaa rfl (h9) ?_;rintro _ rfl)|(refine zaa rfl (h10) ?_;rintro _ rfl))<;>conv=>whnf)
   all_goals first|rfl
 have hst:=hb.1 rfl;have hthin:Thin c (mmI true n 4) p.toNat:=⟨g,S,n,by rw[Int.toNat_of_nonneg hp0];exact hg,hst,hS,hP,hmm.2⟩
 refine zaf eRg zae Tryz.func3 rfl (by decide) rfl rfl ?_
 conv=>whnf
 repeat' first
  | (refine zaa rfl (zr6 c (mmI true n 4) hsm ⟨hmm.1,by omega⟩ hck) ?_;rintro _ ⟨d,of,rfl,hal⟩;obtain⟨ha1,ha2,ha3,ha4⟩:=zt1 hal (by omega) hthin;have ha3:=ha3 (by omega);have ha4:=ha4 (by omega);conv=>whnf)
  | (refine zaa rfl (ybn c p tw (by omega) hsm.up) ?_;rintro _ ⟨v,e,rfl,⟨he,rfl⟩|hco⟩;rotate_left 1;obtain⟨bd,rfl,hbd⟩:=zxx hco hsm hn0 hg hst hS hP hS';all_goals (conv=>whnf))
  | (refine Ok3.mk _ (za2 (l:=c.b.l) (n:=p) (by omega)) ?_;conv=>whnf)
  | (refine Ok3.mk _ (za2 (f:=il1) (l:=livL g S' S'.length) (n:=0) (by show 0<_;omega)) ?_;conv=>whnf)
  | (refine Ok3.mk _ (za2 (l:=d.b.l) (n:=p) (by have:=hal.len;omega)) ?_;conv=>whnf)
  | (refine Ok3.mk _ (za2 (f:=il1) (l:=of) (n:=p) (by have:=hal.ofl;omega)) ?_;conv=>whnf)
  | (refine Rq.mk (by(first|rfl|((try simp only[rz]);((omega ))))) ?_;conv=>whnf)
  | (refine Br.split (fun h=>?_) (fun h=>?_)<;>(try simp only[bz] at h)<;>first|(exfalso;(omega ))|(conv=>whnf))
  | (refine zag (fun h=>?_) (fun h=>?_)<;>(try simp only[bz] at h)<;>(conv=>whnf))
  | (refine Ok3.mk _ (za2 (by omega)) ?_;conv=>whnf)
  | (refine zaa rfl (hsane) ?_;rintro _ rfl<;>conv=>whnf)
  | (refine zaa rfl (zkz c 250 60 (by decide)) ?_;rintro _ ⟨b9,rfl,hb9⟩<;>conv=>whnf)
  | (refine zaa rfl (h8) ?_;rintro _ rfl<;>conv=>whnf)
  | (refine zaa rfl (h9) ?_;rintro _ rfl<;>conv=>whnf)
  | (refine zaa rfl (h10) ?_;rintro _ rfl<;>conv=>whnf)
  | (refine zar rfl (zro ⟨of[p.toNat]'(by omega),hal.ofb _ (List.getElem_mem _)⟩ (-1)) ?_;rintro _ (⟨rfl,hm2⟩|⟨rfl,hm2⟩)<;>refine⟨_,rfl,?_⟩<;>conv=>whnf)
  | (refine And.intro (a:=zaw _=true) (by kernel_rfl) (LzK.e ?_);conv=>whnf)
 all_goals first
  | rfl
  | exact absurd hm2 ha4
  | (exfalso;have e1:=withC_len (c:=c) (q:=p.toNat) (bd:=bd);omega)
  | (exfalso
     have e1:=withC_len (c:=c) (q:=p.toNat) (bd:=bd);have e2:=zwr (c:=c) (q:=p.toNat) (bd:=bd) (by omega)
     have e3:=hbd (ydv (by show 0<_;omega) (by assumption))
     omega)
theorem zox (c:Cd)(p:Int)(tw:BL Int)(hsane:DPR 6 [] (fun ae=>ae = .ret (.bool true)))(hsm:¬SmallC c 250 60):DPR 3 [c.av,i64 p,zaq tw.l] (fun ae=>ae = .ret (.bool true)):=by
 have hS:DPR 7 [c.av,i64 250,i64 60] (fun ae=>ae = .ret (.bool false)):=(zkz c 250 60 (by decide)).mono fun _ h=>by
  obtain⟨b,rfl,hb⟩:=h;cases b with
  | false=>rfl
  | true=>exact absurd (hb rfl) hsm
 have htl:=tw.h;refine zaf eRg zae Tryz.func3 rfl (by decide) rfl rfl ?_
 conv=>whnf
 repeat' ((first|(refine zaa rfl (hsane) ?_;rintro _ rfl)|(refine zaa rfl (hS) ?_;rintro _ rfl))<;>conv=>whnf)
 all_goals rfl
theorem zss (c:Cd)(p:Int)(tw:BL Int)(hsane:DPR 6 [] (fun ae=>ae = .ret (.bool true))):DPR 3 [c.av,i64 p,zaq tw.l] (fun ae=>ae = .ret (.bool true)):=by
 by_cases hsm:SmallC c 250 60
 · by_cases hn : ckC c = 0 ∧ 0 ≤ p ∧ p < c.b.l.length
   · exact znf c p tw hsane hsm hn
   · exact zoy c p tw hsane hsm hn
 · exact zox c p tw hsane hsm
end Go.Ago
end
