/-
  Part 42: lemmas, each with its own conditions.
-/
import Derived.Test.YthaolifcglpkdaaGreatDoorA41
set_option maxRecDepth 100000
set_option maxHeartbeats 0
set_option linter.all false
namespace Go.Ago
open Go.Proofs
theorem yd3 {l:List Int}{n:Nat}(h:l.Pairwise (·<·))(hr:∀x∈l,0≤x∧x≤(n:Int)):l.length≤n+1:=
 zf3 (n+1) l (h.ip fun h=>by omega) fun x hx=>by have:=hr x hx;omega
def zsl (c:Cd)(p:Int)(m:Nat):Prop:=∀b∈c.b.l,∀i∈b.ins.l,i.op=16→i.p=p→0≤i.n∧i.n≤(m:Int)
theorem ygt {c:Cd}{p e:Int}{l:List Int}{m:Nat}(h:EntP c p l e)(hg:zsl c p m):∀x∈l,0≤x∧x≤(m:Int):=by
 rcases h with⟨_,_,rfl⟩|⟨_,_,_,rfl⟩|⟨_,_,_,_,a,_⟩
 · intro x hx;cases hx
 · intro x hx;cases hx
 · intro x hx
   obtain⟨b,hb,i,hi,h3,h4,rfl⟩:=mem_entN.1 ((a x).1 hx);exact hg b hb i hi h3 h4
theorem yjq {c:Cd}{p e:Int}{l:List Int}{m:Nat}(h:EntP c p l e)(hg:zsl c p m):l.length≤m+1:=by
 have hin:=ygt h hg;rcases h with⟨_,_,rfl⟩|⟨_,_,_,rfl⟩|⟨_,_,_,_,_,a⟩
 · exact Nat.zero_le _
 · exact Nat.zero_le _
 · exact yd3 a hin
theorem zzw:∀{l r:List Int},l.Pairwise (·<·)→r.Pairwise (·<·)→(∀x,x∈l↔x∈r)→l=r
 | [],[],_,_,_=>rfl
 | [],y::r,_,_,h=>absurd ((h y).2 (by simp)) (by simp)
 | x::l,[],_,_,h=>absurd ((h x).1 (by simp)) (by simp)
 | x :: l, y :: r, hl, hr, h => by
   rw[List.pairwise_cons] at hl hr;have h1:x=y:=by
    rcases List.mem_cons.1 ((h x).1 (by simp)) with h1|h1
    · exact h1
    · rcases List.mem_cons.1 ((h y).2 (by simp)) with h2 | h2
      · exact h2.symm
      · have:=hr.1 x h1;have:=hl.1 y h2;omega
   subst h1
   congr 1
   refine zzw hl.2 hr.2 fun z=>⟨fun hz=>?_,fun hz=>?_⟩
   · have := hl.1 z hz
     rcases List.mem_cons.1 ((h z).1 (by simp[hz])) with h2|h2
     · omega
     · exact h2
   · have := hr.1 z hz
     rcases List.mem_cons.1 ((h z).2 (by simp[hz])) with h2|h2
     · omega
     · exact h2
theorem yja {c:Cd}{p e:Int}{g:Gr}(h1:0≤g.regs∧g.regs≤60)(h2:g.ins.l.length≤900)(h3:∀i∈g.ins.l,InsV g.regs g.ins.l.length i)(h4:∀i∈g.ins.l,i.l.l.length≤40)(he:EntP c p g.entries.l e)(hg:zsl c p g.ins.l.length):GrV g:=
 ⟨by omega,⟨by omega,by have:=yjq he hg;omega⟩,h3,h4,ygt he hg⟩
def InsW (R:Int→Prop)(a b:Ins):Prop:=b=a∨(a.op=16∧R a.p∧∃x,b={ a with n:=x })
def InsR (R:Int→Prop)(xs ys:List Ins):Prop:=ys.length=xs.length∧∀(m:Nat) (h:m<xs.length) (h':m<ys.length),InsW R xs[m] ys[m]
theorem InsW.mono {R R':Int→Prop}(h:∀p,R p→R' p){a b:Ins}(hw:InsW R a b):InsW R' a b:=hw.ip id fun ⟨h1,h2,h3⟩=>⟨h1,h _ h2,h3⟩
theorem InsW.key {R:Int→Prop}{a b:Ins}(h:InsW R a b):b.op=a.op∧b.p=a.p∧b.d=a.d∧b.a=a.a∧b.b=a.b∧b.m=a.m∧b.l=a.l∧(b.n=a.n∨a.op=16∧R a.p):=by
 rcases h with rfl|⟨h1,h2,x,rfl⟩
 · exact⟨rfl,rfl,rfl,rfl,rfl,rfl,rfl,.inl rfl⟩
 · exact⟨rfl,rfl,rfl,rfl,rfl,rfl,rfl,.inr ⟨h1,h2⟩⟩
theorem InsW.trans {R:Int→Prop}{a b c:Ins}(h1:InsW R a b)(h2:InsW R b c):InsW R a c:=by
 rcases h1 with rfl|⟨a1,a2,x,rfl⟩
 · exact h2
 · rcases h2 with rfl | ⟨b1, b2, y, rfl⟩
   · exact .inr ⟨a1,a2,x,rfl⟩
   · exact .inr ⟨a1,a2,y,rfl⟩
theorem InsW.tgt {R:Int→Prop}{a b:Ins}(h:InsW R a b):zbc b=zbc a:=by
 rcases h with rfl|⟨h1,_,x,rfl⟩
 · rfl
 · unfold zbc;simp[h1]
theorem InsW.uses {R:Int→Prop}{a b:Ins}(h:InsW R a b):zbn b=zbn a:=by
 rcases h with rfl|⟨h1,_,x,rfl⟩<;>rfl
theorem InsW.sets {R:Int→Prop}{a b:Ins}(h:InsW R a b):zbg b=zbg a:=by
 rcases h with rfl|⟨h1,_,x,rfl⟩<;>rfl
theorem InsW.falls {R:Int→Prop}{a b:Ins}(h:InsW R a b):zdn b↔zdn a:=by
 rcases h with rfl|⟨h1,_,x,rfl⟩
 · exact Iff.rfl
 · exact Iff.rfl
theorem InsW.v {R:Int→Prop}{a b:Ins}(h:InsW R a b){n:Int}{m:Nat}(hv:InsV n m a):InsV n m b:=by
 obtain⟨_,_,h3,h4,h5,_,h7,_⟩:=h.key;exact⟨by rw[h4];exact hv.a,by rw[h5];exact hv.b,by rw[h3];exact hv.d,by rw[h7];exact hv.l,by rw[h.tgt];exact hv.t⟩
theorem InsR.refl {R:Int→Prop}(l:List Ins):InsR R l l:=⟨rfl,fun _ _ _ => .inl rfl⟩
theorem InsR.mono {R R':Int→Prop}(h:∀p,R p→R' p){a b:List Ins}(hw:InsR R a b):InsR R' a b:=⟨hw.1,fun m h1 h2=>(hw.2 m h1 h2).mono h⟩
theorem InsR.trans {R:Int→Prop}{a b c:List Ins}(h1:InsR R a b)(h2:InsR R b c):InsR R a c:=
 ⟨h2.1.trans h1.1,fun m ha hc=>(h1.2 m ha (by rw[h1.1];exact ha)).trans (h2.2 m (by rw[h1.1];exact ha) hc)⟩
theorem InsR.mem {R:Int→Prop}{a b:List Ins}(h:InsR R a b){i:Ins}(hi:i∈b):∃i0∈a,InsW R i0 i:=by
 obtain⟨m,hm,rfl⟩:=List.mem_iff_getElem.1 hi;have hm':m<a.length:=by rw[← h.1];exact hm
 exact⟨a[m],List.getElem_mem hm',h.2 m hm' hm⟩
structure SpilledP (c:Cd)(q:Nat)(out:Cd):Prop where
 len:out.b.l.length=c.b.l.length
 oth:∀(j:Nat) (h:j<c.b.l.length) (h':j<out.b.l.length),j≠q→out.b.l[j].regs=c.b.l[j].regs∧InsR (fun p=>p=(q:Int)) c.b.l[j].ins.l out.b.l[j].ins.l
 own:∀(h:q<c.b.l.length) (h':q<out.b.l.length),∀i∈out.b.l[q].ins.l,i.op=16→i.p≠(q:Int)→∃i0∈c.b.l[q].ins.l,i0.op=16∧i0.p=i.p∧i0.n=i.n
 few:∀(h:q<c.b.l.length) (h':q<out.b.l.length),out.b.l[q].ins.l.length≤4 * c.b.l[q].ins.l.length
def Thin (c:Cd)(k:Int)(j:Nat):Prop:=∃g S n,GOf c (j:Int) g∧StraightG g∧LiveOK g S∧zgf g S n∧n≤k
structure AlInv (c:Cd)(k:Int)(q:Nat)(d:Cd)(of:List (List Int)):Prop where
 len:d.b.l.length=c.b.l.length
 le:q≤c.b.l.length
 todo:∀(j:Nat) (h:j<c.b.l.length) (h':j<d.b.l.length),q≤j→d.b.l[j].regs=c.b.l[j].regs∧InsR (fun p=>p<(q:Int)) c.b.l[j].ins.l d.b.l[j].ins.l
 goto:∀b∈d.b.l,∀i∈b.ins.l,i.op=16→(q:Int)≤i.p→∃b0∈c.b.l,∃i0∈b0.ins.l,i0.op=16∧i0.p=i.p∧i0.n=i.n
 done:∀(j:Nat) (h:j<c.b.l.length) (h':j<d.b.l.length),j<q→Thin c k j→d.b.l[j].regs=k∧d.b.l[j].ins.l.length=c.b.l[j].ins.l.length
 ofl:of.length=q
 ofd:∀(j:Nat) (h:j<of.length),Thin c k j→¬(-1:Int)∈of[j]
 ofb:∀l∈of,l.length<281474976710656
 few:∀(j:Nat) (h:j<c.b.l.length) (h':j<d.b.l.length),d.b.l[j].ins.l.length≤4 * c.b.l[j].ins.l.length
theorem AlInv.start (c:Cd)(k:Int):AlInv c k 0 c []:=
 ⟨rfl,Nat.zero_le _,fun j h h' _=>⟨rfl,InsR.refl _⟩,fun b hb i hi h1 _=>⟨b,hb,i,hi,h1,rfl,rfl⟩,fun j h h' hj=>absurd hj (Nat.not_lt_zero _),rfl,fun j h=>absurd h (Nat.not_lt_zero _),(fun l h=>by cases h),fun j h h'=>by omega⟩
theorem AlInv.gotoIn {c d:Cd}{k:Int}{q:Nat}{of:List (List Int)}(h:AlInv c k q d of)(hc:zjk c)(hq:q<c.b.l.length):zsl d (q:Int) c.b.l[q].ins.l.length:=by
 intro b hb i hi h1 h2;obtain⟨b0,hb0,i0,hi0,e1,e2,e3⟩:=h.goto b hb i hi h1 (by omega)
 obtain⟨j,hj,rfl⟩:=List.mem_iff_getElem.1 hb0;obtain⟨hp,p0,n0,n1⟩:=zrq hc hj hi0 e1;have e:i0.p.toNat=q:=by omega
 simp only[e] at n1;exact⟨by omega,by omega⟩
theorem AlInv.graph {c d:Cd}{k:Int}{q:Nat}{of:List (List Int)}(h:AlInv c k q d of)(hc:zjk c)(hs:SmallC c 250 60)(hq:q<c.b.l.length){g:Gr}(hg:GOf d (q:Int) g):GrV g:=by
 obtain⟨hp,h1,h2,e,he⟩:=hg;have hp':q<d.b.l.length:=by simpa using hp
 have e1:g.ins=d.b.l[q].ins:=by simpa using h1
 have e2:g.regs=d.b.l[q].regs:=by simpa using h2
 obtain⟨t1,t2⟩:=h.todo q hq hp' (Nat.le_refl _);obtain⟨r0,hv⟩:=zv9 hc hq;have hmem:=List.getElem_mem hq;have r1:=hs.regs _ hmem;have hl:=hs.lst _ hmem;have hsum:=zdz hmem;have hs2:=hs.sum;have hlen:g.ins.l.length=c.b.l[q].ins.l.length:=by rw[e1];exact t2.1
 refine yja (by rw[e2,t1];omega) (by omega) (fun i hi=>?_) (fun i hi=>?_) he ?_
 · rw [e1] at hi
   obtain⟨i0,hi0,hw⟩:=t2.mem hi;rw[e2,t1,hlen];exact hw.v (hv i0 hi0)
 · rw [e1] at hi
   obtain⟨i0,hi0,hw⟩:=t2.mem hi;rw[hw.key.2.2.2.2.2.2.1];exact hl i0 hi0
 · rw[hlen];exact h.gotoIn hc hq
theorem AlInv.str {c d:Cd}{k:Int}{q:Nat}{of:List (List Int)}(h:AlInv c k q d of)(hck:ckC c=0)(hq:q<c.b.l.length){g g0:Gr}(hg:GOf d (q:Int) g)(hg0:GOf c (q:Int) g0)(hst:StraightG g0) :
 StraightG g∧g.regs=g0.regs∧InsR (fun p=>p<(q:Int)) g0.ins.l g.ins.l∧g.entries.l=[]:=by
 obtain⟨hp,h1,h2,e,he⟩:=hg;obtain⟨hp0,h10,h20,e0,he0⟩:=hg0;have hp':q<d.b.l.length:=by simpa using hp
 have a1:g.ins=d.b.l[q].ins:=by simpa using h1
 have a2:g.regs=d.b.l[q].regs:=by simpa using h2
 have b1:g0.ins=c.b.l[q].ins:=by simpa using h10
 have b2:g0.regs=c.b.l[q].regs:=by simpa using h20
 obtain⟨t1,t2⟩:=h.todo q hq hp' (Nat.le_refl _);have hR:InsR (fun p=>p<(q:Int)) g0.ins.l g.ins.l:=by rw[a1,b1];exact t2
 have hent:g.entries.l=[]:=by
  rcases he with⟨_,_,r⟩|⟨_,_,_,r⟩|⟨_,_,_,_,a,_⟩
  · exact r
  · exact r
  · refine List.eq_nil_iff_forall_not_mem.2 fun x hx => ?_
    obtain⟨b,hb,i,hi,h3,h4,rfl⟩:=mem_entN.1 ((a x).1 hx);obtain⟨b0,hb0,i0,hi0,c1,c2,c3⟩:=h.goto b hb i hi h3 (by omega)
    rcases he0 with⟨r,_,_⟩|⟨_,r,_,_⟩|⟨_,_,_,_,a0,_⟩
    · exact r hck
    · exact r ⟨by omega,by omega⟩
    · have := (a0 i.n).2 (mem_entN.2 ⟨b0, hb0, i0, hi0, c1, by omega, c3.symm⟩)
      rw[hst.1] at this;cases this
 refine⟨⟨hent,fun m hm hm2=>?_⟩,by rw[a2,b2,t1],hR,hent⟩
 have hm0:m<g0.ins.l.length:=by rw[← hR.1];exact hm
 have hw:=hR.2 m hm0 hm;have:=hst.2 m hm0 hm0;rw[hw.tgt,hw.falls,hR.1];exact this
theorem zp8 {g g0:Gr}{R:Int→Prop}(hR:InsR R g0.ins.l g.ins.l)(he:g.entries.l=[])(he0:g0.entries.l=[])(M:Nat→Nat→Prop)(k r:Nat):NowP g M k r↔NowP g0 M k r:=by
 have key:∀(h:k<g.ins.l.length) (h0:k<g0.ins.l.length),InsW R g0.ins.l[k] g.ins.l[k]:=fun h h0=>hR.2 k h0 h
 unfold NowP;refine or_congr ⟨fun ⟨h,hh⟩=>?_,fun ⟨h0,hh⟩=>?_⟩ ?_
 · have h0 : k < g0.ins.l.length := by rw [← hR.1]; exact h
   have hw:=key h h0;rw[hw.falls,hw.sets,hw.uses] at hh;exact⟨h0,hh⟩
 · have h : k < g.ins.l.length := by rw [hR.1]; exact h0
   have hw:=key h h0;rw[← hw.falls,← hw.sets,← hw.uses] at hh;exact⟨h,hh⟩
 · have e:zas g k=zas g0 k:=by
    unfold zas;rw[he,he0]
    by_cases h:k<g.ins.l.length
    · have h0 : k < g0.ins.l.length := by rw [← hR.1]; exact h
      have hw:=key h h0;rw[dif_pos h,dif_pos h0,hw.tgt];simp
    · have h0 : ¬ k < g0.ins.l.length := by rw [← hR.1]; exact h
      rw[dif_neg h,dif_neg h0]
   rw[e]
theorem zvq {n:Nat}{a b:List W64}(h:∀r,bitW a r=bitW b r):za3 a n=za3 b n:=by
 unfold za3;have:(fun r=>bitW a r)=fun r=>bitW b r:=funext h
 rw[show bitW a=bitW b from funext h]
theorem yd2 {g g0:Gr}{R:Int→Prop}(hg:GrV g)(hR:InsR R g0.ins.l g.ins.l)(hr:g.regs=g0.regs){S S0:List (List W64)}(hS:LiveOK g S)(hS0:LiveOK g0 S0)(hb:∀k r,bitW (rowS S k) r=bitW (rowS S0 k) r){n n0:Int}(h:zgf g S n)(h0:zgf g0 S0 n0):n≤n0:=by
 have e1:∀k,zkk g S k=zkk g0 S0 k:=fun k=>by unfold zkk;rw[hr];exact zvq (hb k)
 have hlen:=hR.1;have e2:∀k,k<g.ins.l.length→zjy g S k=zjy g0 S0 k:=fun k hk=>by
  have hk0:k<g0.ins.l.length:=by rw[← hlen];exact hk
  have hw:=hR.2 k hk0 hk;unfold zjy;rw[hr];refine zvq fun r=>?_
  unfold zg3;rw[dif_pos hk,dif_pos hk0,hw.sets]
  by_cases hd:0≤zbg g0.ins.l[k]
  · rw [if_pos hd, if_pos hd]
    have hlt:=hg.ok.sets _ (List.getElem_mem hk);rw[hw.sets] at hlt;have r1:=zbd hS.toShS (k:=k+1) (by omega)
    have r2:=zbd hS0.toShS (k:=k+1) (by omega)
    have hge:=zef hg.ok;have hn:nwg g=nwg g0:=by unfold nwg;rw[hr]
    rw[zf8 (by rw[r1];omega),zf8 (by rw[r2,← hn];omega),hb]
  · rw[if_neg hd,if_neg hd,hb]
 rcases h.at_ with h1|⟨k,hk,h1⟩
 · rw[h1];exact h0.nn
 · have := h0.up k (by rw [← hlen]; exact hk)
   rw[e1 k,e2 k hk] at h1;omega
theorem AlInv.thin {c d:Cd}{k:Int}{q:Nat}{of:List (List Int)}(h:AlInv c k q d of)(hc:zjk c)(hck:ckC c=0)(hs:SmallC c 250 60)(hq:q<c.b.l.length){g:Gr}(hg:GOf d (q:Int) g)(hl:¬StraightG g∨∃S n,LiveOK g S∧zgf g S n∧k<n):¬Thin c k q:=by
 rintro⟨g0,S0,n0,hg0,hst,hS0,hp0,hk⟩
 obtain⟨h1,h2,h3,h4⟩:=h.str hck hq hg hg0 hst;rcases hl with hl|⟨S,n,hS,hp,hn⟩
 · exact hl h1
 · have hb := LiveOK.uniq (g := g0) (g' := g) h3.1 (zp8 h3 h4 hst.1) hS0 hS
   have:=yd2 (h.graph hc hs hq hg) h3 h2 hS hS0 (fun k r=>(hb k r).symm) hp hp0
   omega
theorem zl8 {a b:List Ins}(h:a.map keyI=b.map keyI):a.length=b.length:=by
 have:=congrArg List.length h
 simpa using this
theorem zs6 {a b:List Ins}(h:a.map keyI=b.map keyI){i:Ins}(hi:i∈a):∃i0∈b,i0.op=i.op∧i0.p=i.p∧i0.n=i.n:=by
 have:keyI i∈b.map keyI:=by rw[← h];exact List.mem_map_of_mem hi
 obtain⟨i0,h0,e⟩:=List.mem_map.1 this;simp only[keyI,Prod.mk.injEq] at e;exact⟨i0,h0,e.1,e.2.1,e.2.2⟩
theorem zgi {c:Cd}{q:Nat}{bd:Bd}{j:Nat}(h:j<c.b.l.length)(h':j<(zh5 c q bd).b.l.length):(zh5 c q bd).b.l[j]=if q=j then bd else c.b.l[j]:=by
 show(c.b.l.set q bd)[j]'(by simpa[zh5] using h')=_
 rw[List.getElem_set]
theorem withC_len {c:Cd}{q:Nat}{bd:Bd}:(zh5 c q bd).b.l.length=c.b.l.length:=by show(c.b.l.set q bd).length=_;rw[List.length_set]
theorem AlInv.fits {c d:Cd}{k:Int}{q:Nat}{of:List (List Int)}(h:AlInv c k q d of)(hq:q<c.b.l.length){g:Gr}(hg:GOf d (q:Int) g){bd:Bd}(hr:bd.regs=k)(hb:bd.ins.l.map keyI=g.ins.l.map keyI) :
 AlInv c k (q+1) (zh5 d q bd) (of++[zby bd.ins.l.length]):=by
 obtain⟨hp,h1,h2,e,he⟩:=hg;have hp':q<d.b.l.length:=by simpa using hp
 have a1:g.ins=d.b.l[q].ins:=by simpa using h1
 have hbl:bd.ins.l.length=d.b.l[q].ins.l.length:=by rw[zl8 hb,a1]
 have t:=h.todo q hq hp' (Nat.le_refl _);have tl:d.b.l[q].ins.l.length=c.b.l[q].ins.l.length:=t.2.1;refine⟨withC_len.trans h.len,hq,fun j hj hj' hle=>?_,fun b hbm i hi ho hle=>?_,fun j hj hj' hlt ht=>?_,by rw[List.length_append,h.ofl];rfl,fun j hj ht=>?_,fun l hl=>?_,fun j hj hj'=>?_⟩
 · have hjd : j < d.b.l.length := by rw [h.len]; exact hj
   rw[zgi hjd hj',if_neg (by omega)]
   obtain⟨x1,x2⟩:=h.todo j hj hjd (by omega)
   exact⟨x1,x2.mono fun p hp=>by omega⟩
 · obtain ⟨j, hj, rfl⟩ := List.mem_iff_getElem.1 hbm
   have hjd:j<d.b.l.length:=by rw[← withC_len];exact hj
   rw[zgi hjd hj] at hi
   by_cases hjq:q=j
   · rw [if_pos hjq] at hi
     obtain⟨i0,hi0,e1,e2,e3⟩:=zs6 hb hi;rw[a1] at hi0;obtain⟨b0,hb0,i1,hi1,f1,f2,f3⟩:=h.goto _ (List.getElem_mem hp') i0 hi0 (by omega) (by omega)
     exact⟨b0,hb0,i1,hi1,f1,by omega,by omega⟩
   · rw [if_neg hjq] at hi
     exact h.goto _ (List.getElem_mem hjd) i hi ho (by omega)
 · have hjd : j < d.b.l.length := by rw [h.len]; exact hj
   rw[zgi hjd hj']
   by_cases hjq:q=j
   · subst hjq;rw[if_pos rfl];exact⟨hr,by rw[hbl,tl]⟩
   · rw[if_neg hjq];exact h.done j hj hjd (by omega) ht
 · rw [List.getElem_append]
   split
   · rename_i hlt;exact h.ofd j hlt ht
   · rw [List.getElem_singleton]
     intro hm;have:=mem_rangeI.1 hm;omega
 · rcases List.mem_append.1 hl with hl | hl
   · exact h.ofb l hl
   · rw[List.mem_singleton.1 hl,zff];exact bd.ins.h
 · have hjd : j < d.b.l.length := by rw [h.len]; exact hj
   rw[zgi hjd hj']
   by_cases hjq:q=j
   · subst hjq;rw[if_pos rfl,hbl];exact h.few q hj hjd
   · rw[if_neg hjq];exact h.few j hj hjd
theorem AlInv.spill {c d:Cd}{k:Int}{q:Nat}{of:List (List Int)}(h:AlInv c k q d of)(hq:q<c.b.l.length)(hn:¬Thin c k q){out:Cd}(hs:SpilledP d q out)(x:List Int)(hxl:x.length<281474976710656):AlInv c k (q+1) out (of++[x]):=by
 have hqd:q<d.b.l.length:=by rw[h.len];exact hq
 have hqo:q<out.b.l.length:=by rw[hs.len];exact hqd
 refine⟨hs.len.trans h.len,hq,fun j hj hj' hle=>?_,fun b hbm i hi ho hle=>?_,fun j hj hj' hlt ht=>?_,by rw[List.length_append,h.ofl];rfl,fun j hj ht=>?_,fun l hl=>?_,fun j hj hj'=>?_⟩
 · have hjd : j < d.b.l.length := by rw [h.len]; exact hj
   obtain⟨x1,x2⟩:=h.todo j hj hjd (by omega)
   obtain⟨y1,y2⟩:=hs.oth j hjd hj' (by omega)
   exact⟨y1.trans x1,(x2.mono fun p hp=>by omega).trans (y2.mono fun p hp=>by omega)⟩
 · obtain ⟨j, hj, rfl⟩ := List.mem_iff_getElem.1 hbm
   have hjd:j<d.b.l.length:=by rw[← hs.len];exact hj
   by_cases hjq:j=q
   · subst hjq
     obtain⟨i0,hi0,e1,e2,e3⟩:=hs.own hjd hj i hi ho (by omega)
     obtain⟨b0,hb0,i1,hi1,f1,f2,f3⟩:=h.goto _ (List.getElem_mem hjd) i0 hi0 e1 (by omega)
     exact⟨b0,hb0,i1,hi1,f1,by omega,by omega⟩
   · obtain ⟨_, y2⟩ := hs.oth j hjd hj hjq
     obtain⟨i0,hi0,hw⟩:=y2.mem hi;obtain⟨k1,k2,_,_,_,_,_,k8⟩:=hw.key;obtain⟨b0,hb0,i1,hi1,f1,f2,f3⟩:=h.goto _ (List.getElem_mem hjd) i0 hi0 (by omega) (by omega)
     have hnn:i.n=i0.n:=by rcases k8 with k8|⟨_,k8⟩;exact k8;omega
     exact⟨b0,hb0,i1,hi1,f1,by omega,by omega⟩
 · have hjd : j < d.b.l.length := by rw [h.len]; exact hj
   by_cases hjq:j=q
   · subst hjq;exact absurd ht hn
   · obtain ⟨y1, y2⟩ := hs.oth j hjd hj' hjq
     obtain⟨z1,z2⟩:=h.done j hj hjd (by omega) ht
     exact⟨y1.trans z1,y2.1.trans z2⟩
 · rw [List.getElem_append]
   split
   · rename_i hlt;exact h.ofd j hlt ht
   · rename_i hge
     have:j=q:=by rw[List.length_append,h.ofl] at hj;have:=h.ofl;simp only[List.length_singleton] at hj;omega
     subst this;exact absurd ht hn
 · rcases List.mem_append.1 hl with hl | hl
   · exact h.ofb l hl
   · rw[List.mem_singleton.1 hl];exact hxl
 · have hjd : j < d.b.l.length := by rw [h.len]; exact hj
   by_cases hjq:j=q
   · subst hjq
     have h1:=hs.few hjd hj';obtain⟨_,t2⟩:=h.todo j hj hjd (Nat.le_refl _);have:=t2.1;omega
   · obtain ⟨y1, y2⟩ := hs.oth j hjd hj' hjq
     rw[y2.1];exact h.few j hj hjd
end Go.Ago
namespace Go.Ago
open Go.Proofs
attribute [local irreducible] ltI leI eqI eqS shrI wr inB mmI comp DC DP DW DV
attribute [local irreducible] ckP ct InR PLc zev zeu zdo zcf ckC zb7 entN zbh za3 bitW EntP mapR NoneB plR zas zbn zbg zcs
structure CoS (g:Gr)(k:Int)(m:Nat)(pl:List Int):Prop where
 pn:pl.length=g.regs.toNat
 inn:∀r:Nat,r<m→InK pl k (r:Int)
 le:m≤g.regs.toNat
theorem CoS.start {g:Gr}{k:Int}:CoS g k 0 (List.replicate g.regs.toNat 0):=⟨by simp,fun r h=>absurd h (Nat.not_lt_zero _),Nat.zero_le _⟩
theorem CoS.next {g:Gr}{k:Int}{m:Nat}{pl:List Int}(h:CoS g k m pl)(hm:m<g.regs.toNat){i:Int}(hi:0≤i∧i<k):CoS g k (m+1) (pl.set m i):=
 ⟨by rw[List.length_set];exact h.pn,fun r hr=>by
  have h1:m<pl.length:=by rw[h.pn];exact hm
  have:=InK.put (pl:=pl) (k:=k) (r:=(m:Int)) (i:=i) (s:=(r:Int)) (by simpa using h1) hi fun hne=>h.inn r (by simp at hne;omega)
  simpa using this,hm⟩
theorem yjh {mk:List Bool}{i:Int}(h:FreeP mk i):i = -1∨(0≤i∧i<mk.length):=h.elim (fun h => .inl h.1) fun h => .inr ⟨h.1,h.2.1⟩
def ypn (g:Gr)(k:Int)(v:AV)(b:Bool):Prop:=
 (b=false∧v = .agg [i64 0,.nils])∨(b=true∧∃bd:Bd,v=bd.av∧bd.regs=k∧bd.ins.l.map keyI=g.ins.l.map keyI)
theorem ztq (g:Gr)(hv:GrV g)(k:Int)(hk:0≤k∧k≤4000):DPR 43 [g.av,i64 k] (fun ae=>∃x b,ae = .ret (.tup [x,.bool b])∧∃v,Nrm1 x v∧ypn g k v b):=by
 refine zaf eRg zae Tryz.func43 rfl (by decide) rfl rfl ?_
 have hg:=hv.ok;have hil:=g.ins.h;have hfew:=hg.few;have hregs:=hg.regs;have hge:=zef hg;have hnw:=zkc hg
 conv=>whnf
 repeat' ((first|refine Rq.mk (zxf (l':=g.regs) rfl rfl (by omega) (by decide) rfl) ?_|(refine zaa rfl (zrr g hg) ?_;rintro _ ⟨C,S,rfl,hC,hS,hcl⟩))<;>conv=>whnf)
 have hCl:=hC.len;refine zai eRg zae [1,2,4,5,6,21,22] [5] 200 (fun x:{x:Nat×List Int // CoS g k x.1 x.2}=>[(23,i64 x.1.1)]) (fun x=>[(5,.arr 1 (x.1.2.map ic))]) [] (fun x=>g.regs.toNat+1 - x.1.1) (⟨(0,List.replicate g.regs.toNat 0),CoS.start⟩) ?_
 conv=>whnf
 refine⟨?_,fun x=>?_⟩
 · conv => whnf
   (repeat' first|exact True.intro|rfl|exact zb4 zuz|exact zdi|apply And.intro )
 rcases x with⟨⟨m,pl⟩,hx⟩
 have hpll:=hx.pn;have hmb:=hx.le;have hinn:=hx.inn;dsimp only at hpll hmb hinn
 conv=>whnf
 repeat' ((first|refine Rq.mk (zxf (l':=k) rfl rfl (by omega) (by decide) rfl) ?_|refine Ok3.mk _ (zam (l:=C) (i:=m) (by omega)) ?_|(refine zaa rfl (zc3 (C[m]'(by omega)) (zk4 hg hC (by omega)).1 g.regs ⟨hregs.1,(zk4 hg hC (by omega)).2⟩) ?_;rintro _ rfl)|refine Rq.mk (by(first|rfl|((try simp only[rz]);omega))) ?_|refine Br.split (fun h=>?_) (fun h=>?_)<;>(try simp only[bz] at h))<;>conv=>whnf)
 · have hlt : m < C.length := by omega
   have hLr:∀(j:Nat) (h:j<(za3 (C[m]'hlt) g.regs.toNat).length),0≤(za3 (C[m]'hlt) g.regs.toNat)[j]∧(za3 (C[m]'hlt) g.regs.toNat)[j]<g.regs:=fun j h=>zc9 (List.getElem_mem h)
   have hLl:(za3 (C[m]'hlt) g.regs.toNat).length≤1000:=by have:=@zep (C[m]'hlt) g.regs.toNat;omega
   have hik:∀(r:Int) (h0:0≤r) (h:r.toNat<pl.length),r<(m:Int)→0≤pl[r.toNat]∧pl[r.toNat]<k:=fun r h0 h hr=>by
    have:=hinn r.toNat (by omega)
    unfold InK at this;rw[show((r.toNat:Nat):Int)=r by omega,zi7 h] at this
    exact this
   generalize hLd:za3 (C[m]'hlt) g.regs.toNat=L at hLr hLl
   refine zai eRg zae [1,2,4,5,6,7,8,9,21,22,23,24,25,26,27,28,29,30,31,32,33,34] [218] 200 (fun y:{y:Nat×List Bool // y.2.length=k.toNat∧y.1≤L.length}=>[(35,i64 y.1.1)]) (fun y=>[(218,.arr 1 (y.1.2.map bc))]) [] (fun y=>L.length+1 - y.1.1) (⟨(0,List.replicate k.toNat false),by simp,Nat.zero_le _⟩) ?_
   conv=>whnf
   refine⟨?_,fun y=>?_⟩
   · conv => whnf
     (repeat' first|exact True.intro|rfl|exact zb4 (by rfl)|exact zeh zqk|exact zhx|exact zdi|apply And.intro )
   rcases y with⟨⟨j,mk⟩,hy1,hy2⟩
   dsimp only at hy1 hy2
   conv=>whnf
   repeat' ((first|refine Ok3.mk _ (zam (l:=L) (i:=j) (by omega)) ?_|refine Rq.mk (zmf (hLr j (by omega)) (by omega)) ?_|refine zap (zbl (l:=pl) (by have:=hLr j (by omega);omega)) ?_|refine Rq.mk (zmf (hik (L[j]'(by omega)) (hLr j (by omega)).1 (by have:=hLr j (by omega);omega) h) (by omega)) ?_|refine zap (zbl (l:=mk) (by have:=hik (L[j]'(by omega)) (hLr j (by omega)).1 (by have:=hLr j (by omega);omega) h;omega)) ?_|(refine DC.flat (zab (zbk (f:=bc) (l:=mk) (n:=19) (fun _=>rfl) rfl rfl hy1.symm) rfl) (zi4 ⟨mk,by omega⟩) ?_;rintro _ ⟨i,rfl,hi⟩;have hi2:=yjh hi;refine⟨rfl,?_⟩)|refine zap (zld (l:=pl) (r:=((m:Nat):Int).toNat) (by simp;omega)) ?_|refine zap (zbl (l:=pl) (n:=((m:Nat):Int)) (by simp;omega)) ?_|refine Rq.mk (by(first|rfl|((try simp only[rz]);omega))) ?_|refine Br.split (fun h=>?_) (fun h=>?_)<;>(try simp only[bz] at h))<;>conv=>whnf)
   · (refine⟨⟨(j+1,mk.set (pl[(L[j]'(by omega)).toNat]'(by have:=hLr j (by omega);omega)).toNat true),by rw[List.length_set];exact hy1,(by(dsimp only);omega)⟩,(by(conv=>whnf);(repeat' first|exact True.intro|rfl|exact zeh zon|exact zb4 (by rfl)|exact zhx|exact zdi|apply And.intro|(refine cw ?_ ?_ ?_<;>(try dsimp only)<;>omega) )),rfl,(by(dsimp only);omega)⟩)
   · (refine⟨⟨(j+1,mk),hy1,(by(dsimp only);omega)⟩,(by(conv=>whnf);(repeat' first|exact True.intro|rfl|exact zeh (by rfl)|exact zb4 (by rfl)|exact zhx|exact zdi|apply And.intro|(refine cw ?_ ?_ ?_<;>(try dsimp only)<;>omega) )),rfl,(by(dsimp only);omega)⟩)
   · exact⟨_,_,rfl,_,.r,.inl ⟨rfl,rfl⟩⟩
   · have hi3 : 0 ≤ i ∧ i < k := by have h9 := hi2; dsimp only at h9; omega
     (refine⟨⟨(m+1,pl.set m i),hx.next (by omega) hi3⟩,(by(conv=>whnf);(repeat' first|exact True.intro|rfl|exact zb4 zvv|exact zdi|apply And.intro|(refine cw ?_ ?_ ?_<;>(try dsimp only)<;>omega) )),rfl,(by(dsimp only);omega)⟩)
 · refine zoq 5 (.arr 1 (pl.map ic)) [(4, _), (5, _), (6, .rsl 1 (pl.map ic)), (12, _), (64, _), (65, _), (66, _)] [(1, _), (214, _)] rfl ⟨⟨_, rfl, .inl rfl⟩, ⟨⟨_, rfl, .inl rfl⟩, ⟨⟨_, rfl, .inr (zbk (f := ic) (l := pl) (n := 19) (fun _ => rfl) rfl rfl hpll.symm)⟩, ⟨⟨_, rfl, .inl rfl⟩, ⟨⟨_, rfl, .inl rfl⟩, ⟨⟨_, rfl, .inl rfl⟩, ⟨⟨_, rfl, .inl rfl⟩, trivial⟩⟩⟩⟩⟩⟩⟩ ⟨⟨by decide, _, rfl, .inl rfl⟩, ⟨⟨by decide, _, rfl, .inl rfl⟩, trivial⟩⟩ ?_
   have hrt:∀t∈pl,0≤t:=fun t ht=>by
    obtain⟨r,hr,rfl⟩:=List.mem_iff_getElem.1 ht;have:=hinn r (by omega)
    unfold InK at this;rw[Int.toNat_natCast,zi7 hr] at this;exact this.1
   have hreg:(pl.length:Int)=g.regs:=by omega
   refine zai eRg zae [4,5,6,12,64,65] [214] 4000 (fun x:{x:Nat×List Ins // x.2=(g.ins.l.take x.1).map (fun i=>repI i pl)∧x.1≤g.ins.l.length}=>[(66,i64 x.1.1)]) (fun x=>(214,.arr 2 [[i64 k,accV 2000 29 (x.1.2.map Ins.cells)]])::accH 2000 29 (x.1.2.map Ins.cells)) [(2000,.cell 214 1)] (fun x=>g.ins.l.length+1 - x.1.1) (⟨(0,[]),rfl,Nat.zero_le _⟩) ?_
   conv=>whnf
   refine⟨?_,fun x=>?_⟩
   · conv => whnf
     (repeat' first|exact True.intro|rfl|apply And.intro )
   rcases x with⟨⟨n,_|⟨z,acc⟩⟩,hm,hnb⟩
   · dsimp only at hm hnb
     have i_len:=congrArg List.length hm;simp only[List.length_nil,List.length_cons,List.length_map,List.length_take] at i_len
     conv=>whnf
     repeat' ((first|refine Br.f (b:=Nat.beq _ _) rfl ?_|refine Ok3.mk _ (zam (l:=g.ins.l) (i:=n) (by omega)) ?_|refine Rq.mk (by(first|rfl|((try simp only[rz]);omega))) ?_|refine Br.split (fun h=>?_) (fun h=>?_)<;>(try simp only[bz] at h)|(refine zaa rfl (zfd (g.ins.l[n]'(by omega)) ⟨pl,by omega⟩ (hg.lst _ (List.getElem_mem _)) (zhf hv hreg hrt (List.getElem_mem _))) ?_;rintro _ rfl))<;>conv=>whnf)
     · (refine⟨⟨(n+1,[repI (g.ins.l[n]'(by omega)) pl]),(by(dsimp only);rw[zb2 (by omega),← hm];rfl),(by(dsimp only);omega)⟩,(by(conv=>whnf);(repeat' first|exact True.intro|rfl|apply And.intro|(refine cw ?_ ?_ ?_<;>(try dsimp only)<;>omega) )),rfl,(by(dsimp only);omega)⟩)
     · have e : g.ins.l = [] := List.eq_nil_of_length_eq_zero (by omega)
       exact⟨_,_,rfl,(Bd.mk k ⟨[],by decide⟩).av,.inr ⟨_,_,rfl,rfl,.r,.n,trivial⟩,.inr ⟨rfl,_,rfl,rfl,by rw[e]⟩⟩
   · dsimp only at hm hnb
     have i_len:=congrArg List.length hm;simp only[List.length_nil,List.length_cons,List.length_map,List.length_take] at i_len
     conv=>whnf
     repeat' ((first|refine Br.f (b:=Nat.beq _ _) rfl ?_|refine Rq.mk (zcg 304 2000 (by simp) rfl rfl (by have:=i_len;simp only[List.length_cons,List.length_map,List.length_nil] at this ⊢;omega) (by decide)) ?_|refine Ok3.mk _ (zam (l:=g.ins.l) (i:=n) (by omega)) ?_|refine Rq.mk (by(first|rfl|((try simp only[rz]);omega))) ?_|refine Br.split (fun h=>?_) (fun h=>?_)<;>(try simp only[bz] at h)|(refine zaa rfl (zfd (g.ins.l[n]'(by omega)) ⟨pl,by omega⟩ (hg.lst _ (List.getElem_mem _)) (zhf hv hreg hrt (List.getElem_mem _))) ?_;rintro _ rfl))<;>conv=>whnf)
     · (refine⟨⟨(n+1,z::(acc++[repI (g.ins.l[n]'(by omega)) pl])),(by(dsimp only);rw[zb2 (by omega),← hm];rfl),(by(dsimp only);omega)⟩,(by(conv=>whnf);(repeat' first|exact True.intro|rfl|exact congrArg (fun v=>AObj.arr 2 [[i64 k,v]]) (zat (by rfl) (by rfl) (by simp) (by rfl))|exact za4 (by rfl) (za7 (f:=Ins.cells) (fun _=>by rfl) (by rfl) (by simp))|exact zaj (f:=Ins.cells) (fun _=>by rfl)|apply And.intro|(refine cw ?_ ?_ ?_<;>(try dsimp only)<;>omega) )),rfl,(by(dsimp only);omega)⟩)
     · generalize hg2 : snap _ 20 _ = rr
       obtain rfl:=hg2.symm.trans (zd5 (n:=19) (zd2 (n:=18) (zab rfl (zab (zbf (f:=Ins.cells) (n:=17) (fun _=>rfl) rfl) rfl))) rfl)
       conv=>whnf
       have e:(z::acc).map keyI=g.ins.l.map keyI:=by
        rw[hm,List.take_of_length_le (by omega),List.map_map];rfl
       exact⟨_,_,rfl,(Bd.mk k ⟨z::acc,by rw[List.length_cons,i_len];omega⟩).av,.r,.inr ⟨rfl,_,rfl,rfl,e⟩⟩
theorem ztr (g:Gr)(hv:GrV g)(k:Int)(hk:0≤k∧k≤4000):DPR 43 [g.av,i64 k] (fun ae=>∃v b,ae = .ret (.tup [v,.bool b])∧ypn g k v b):=by
 refine(ztq g hv k hk).nrm ?_
 rintro _ ⟨x,b,rfl,v,h1,h2⟩
 exact⟨_,.tup [v,.bool b],rfl,.inr ⟨_,_,rfl,rfl,h1,.r,trivial⟩,v,b,rfl,h2⟩
end Go.Ago
section
namespace Go.Ago
variable {P:Program} {E:Env} {rr:Bool}
theorem WkM.trans {m:Nat}{S S' S'':St}(h1:WkM P E m S S')(h2:WkM P E m S' S''):WkM P E m S S'':=by
 intro c a w h;obtain⟨c1,a1,a2,a3,a4,a5⟩:=h1 c a w h;obtain⟨c2,b1,b2,b3,b4,b5⟩:=h2 c1 a w a5;exact⟨c2,fun k hk=>(b1 k hk).trans (a1 k hk),fun b hb=>b2 b (a2 b hb),fun b hb=>(b3 b hb).elim (fun h=>a3 b h) (fun h => .inr (a4 b h)),fun b hb=>a4 b (b4 b hb),b5⟩
inductive FzS (S:St):St→Prop
 | r:FzS S S
 | z (nm:Nat) (o:AObj) (sl:List (Nat×AV)) (hl:List (Nat×AObj)) (ho:S.heap.get nm=some o) (h1:frzS nm o S sl) (h2:frzH nm o S hl):FzS S ⟨ofS sl,S.nsl,ofH hl,0⟩
theorem FzS.wk {m nx:Nat}{S Z:St}(h:FzS S Z):WkM P E m (S.at_ nx) (Z.at_ nx):=by
 cases h with
 | r=>exact fun c a w h=>⟨c,fun _ _=>rfl,fun _ h=>h,fun _ h => .inl h,fun _ h=>h,h⟩
 | z nm o sl hl ho h1 h2=>exact WkM.freeze (S:=S.at_ nx) nm o ho rfl rfl (fun t y e=>ya3 h1 t y (zjw e)) (fun k b e=>ya4 h2 k b (zia e))
theorem zwn (hE:EnvOK P E)(hmix:P.follows .mixedOrders=true){α:Type}(keep ovr:List Nat)(cn:Nat)(vars:α→List (Nat×AV))(hp:α→List (Nat×AObj))(roots:List (Nat×Root))(μ:α→Nat)(x0:α)
 {body:Code}{K:AX→Nat→St→Prop}{nx:Nat}{S:St}
 (h:zni S.heap ovr fun hl=>zmc S keep fun kl=>(zen (vars x0) fun vl=>appK vl kl fun sl=>appK (hp x0) hl fun hl'=>chkW nx (nx+cn) roots S sl hl') ∧
   ∀ x, zen (vars x) fun vl => appK vl kl fun sl => ofSK sl fun slT => appK (hp x) hl fun hl' => ofHK hl' fun hT => daw3 P E rr body (fun e nx' S'=>match e with
    | .normal=>∃x' Z,FzS S' Z∧(zen (vars x') fun vl=>appK vl kl fun sl=>appK (hp x') hl fun hl'=>chkW nx (nx+cn) roots Z sl hl')∧S'.nsl=S.nsl∧μ x'<μ x
    | e=>K e nx' S') (nx+cn) ⟨slT,S.nsl,hT,0⟩):DW P E rr nx (.loop body) K S:=by
 obtain⟨hl,h⟩:=zgr h;obtain⟨kl,h0,h⟩:=zjz h;have hm:nx≤nx+cn:=Nat.le_add_right _ _;refine DW.loop (fun x=>⟨ofS (vars x++kl),S.nsl,ofH (hp x++hl),0⟩) (nx+cn) μ x0 hm (zoh hm (zcq (zcq (zc1 h0)))) fun x=>?_
 have:=zn2 (zcq (zkb (zcq (zc1 (h x)))));refine(zbq hE hmix body this).mono fun e nx' S' he=>?_
 cases e with
 | normal =>
   obtain⟨x',Z,hz,h1,h2,h3⟩:=he;refine⟨x',?_,h3⟩;have hzn:Z.nsl=S.nsl:=by
    cases hz with
    | r=>exact h2
    | z=>exact h2
   have:=zoh (P:=P) (E:=E) (nx:=nx') hm (zcq (zcq (zc1 h1)));rw[hzn] at this;exact hz.wk.trans this
 | _=>exact he
end Go.Ago
end
namespace Go.Ago
open Go.Proofs
attribute [local irreducible] ltI leI eqI eqS shrI wr inB mmI comp DC DP DW DV
attribute [local irreducible] ckP ct InR PLc zev zeu zdo zcf ckC zb7 entN zbh za3 bitW EntP
theorem zxl (n:Int):DPR 124 [i64 n] (fun ae=>ae = .ret (.bool false)):=by
 refine zaf eRg zae Tryz.func124 rfl (by decide) rfl rfl ?_
 conv=>whnf
 repeat' first
  | (refine Br.split (fun h=>?_) (fun h=>?_)<;>(try simp only[bz] at h)<;>(conv=>whnf))
 all_goals rfl
theorem zxk (n:Int):DPR 175 [i64 n] (fun ae=>ae = .ret (.bool false)):=by
 refine zaf eRg zae Tryz.func175 rfl (by decide) rfl rfl ?_
 conv=>whnf
 repeat' first
  | (refine Br.split (fun h=>?_) (fun h=>?_)<;>(try simp only[bz] at h)<;>(conv=>whnf))
 all_goals rfl
theorem yac (a b:Int):DPR 123 [i64 a,i64 b] (retB fun t=>t=true↔a<b):=by
 refine zaf eRg zae Tryz.func123 rfl (by decide) rfl rfl ?_
 conv=>whnf
 repeat' ((first|refine Br.split (fun h=>?_) (fun h=>?_)<;>(try simp only[bz] at h)|(refine zaa rfl (zxk a) ?_;rintro _ rfl))<;>conv=>whnf)
 all_goals exact⟨_,rfl,by simp only[true_iff,false_iff,Bool.false_eq_true];omega⟩
theorem zq4 (a b:Int):DPR 123 [i64 a,i64 b] (retD (a<b)):=DP.dec (yac a b)
theorem zrz (n r:Int)(h:r<100000∧0≤n∧n<100000):DPR 125 [i64 r,.rptr [i64 n]] (fun ae=>ae = .ret (i64 (if r<0 then r else n+r))):=by
 refine zaf eRg zae Tryz.func125 rfl (by decide) rfl rfl ?_
 conv=>whnf
 repeat' first
  | (refine Br.split (fun h=>?_) (fun h=>?_)<;>(try simp only[bz] at h)<;>(conv=>whnf))
 all_goals first|(rw[if_pos (by omega)])|(rw[if_neg (by omega),wr64 (by omega) (by omega)])
def zew (i:Ins)(tab:List Int):Ins:=if i.op=14∨i.op=15 then { i with n:=tab.getD i.n.toNat 0 } else if i.op=28∨i.op=29 then { i with m:=tab.getD i.m.toNat 0 } else i
def ShOK (tab:List Int)(t:Int):Prop:=0≤t∧∃h:t.toNat<tab.length,0≤tab[t.toNat]
theorem zy2 (i:Ins)(tab:List Int)(hl:tab.length<281474976710656)(hS:∀t∈zbc i,ShOK tab t):DPR 92 [i.av,zaq tab] (fun ae=>ae = .ret (.tup [(zew i tab).av,i64 0])):=by
 have hw0:wr .i64 (0+1)=1:=by rw[wr64 (by omega) (by omega)];rfl
 by_cases h1:i.op=14∨i.op=15
 · have hT : DPR 73 [i.av] (fun ae => ae = .ret (zaq [i.n])) := (zgj i).mono fun _ h => by rw [h, zbc, if_pos h1]
   obtain⟨h0,h2,h3⟩:=hS i.n (by rw[zbc,if_pos h1];simp)
   have e:zew i tab={ i with n:=tab[i.n.toNat] }:=by rw[zew,if_pos h1];simp[List.getD,h2]
   rw[e];refine zaf eRg zae Tryz.func92 rfl (by decide) rfl rfl ?_
   conv=>whnf
   repeat' ((first|refine Ok3.mk _ (za2 (l:=tab) h2) ?_|refine Rq.mk (by(first|rfl|((try simp only[rz]);omega))) ?_|refine Br.split (fun h=>?_) (fun h=>?_)<;>(try simp only[bz] at h)<;>try (exfalso;omega)|(refine zaa rfl (hT) ?_;rintro _ rfl)|refine zea eRg zae 3 ?_|refine Ok3.mk _ rfl ?_)<;>conv=>whnf)
   all_goals rfl
 · by_cases h4 : i.op = 28 ∨ i.op = 29
   · have hT : DPR 73 [i.av] (fun ae => ae = .ret (zaq [i.m])) := (zgj i).mono fun _ h => by rw [h, zbc, if_neg h1, if_pos h4]
     obtain⟨h0,h2,h3⟩:=hS i.m (by rw[zbc,if_neg h1,if_pos h4];simp)
     have e:zew i tab={ i with m:=tab[i.m.toNat] }:=by rw[zew,if_neg h1,if_pos h4];simp[List.getD,h2]
     rw[e];refine zaf eRg zae Tryz.func92 rfl (by decide) rfl rfl ?_
     conv=>whnf
     repeat' ((first|refine Ok3.mk _ (za2 (l:=tab) h2) ?_|refine Rq.mk (by(first|rfl|((try simp only[rz]);omega))) ?_|refine Br.split (fun h=>?_) (fun h=>?_)<;>(try simp only[bz] at h)<;>try (exfalso;omega)|(refine zaa rfl (hT) ?_;rintro _ rfl)|refine zea eRg zae 3 ?_|refine Ok3.mk _ rfl ?_)<;>conv=>whnf)
     all_goals rfl
   · have hT : DPR 73 [i.av] (fun ae => ae = .ret (zaq [])) := (zgj i).mono fun _ h => by rw [h, zbc, if_neg h1, if_neg h4]
     have e:zew i tab=i:=by rw[zew,if_neg h1,if_neg h4]
     rw[e];refine zaf eRg zae Tryz.func92 rfl (by decide) rfl rfl ?_
     conv=>whnf
     repeat' ((first|refine Br.split (fun h=>?_) (fun h=>?_)<;>(try simp only[bz] at h)<;>try (exfalso;omega)|(refine zaa rfl (hT) ?_;rintro _ rfl)|refine zea eRg zae 3 ?_)<;>conv=>whnf)
     all_goals rfl
def zb3 (d a:Int):Ins:=⟨3,d,a,-1,⟨0,0,0,false,[],by decide⟩,⟨0,0,0,false,[],by decide⟩,⟨0,0,0,false,[],by decide⟩,0,0,0,⟨0,[],by decide⟩,⟨[],by decide⟩,⟨[],by decide⟩,⟨[],by decide⟩,false,false⟩
theorem zz8 (d a:Int):DPR 126 [i64 d,i64 a] (fun ae=>ae = .ret (.agg ((((zb3 d a).cells.set 24 .nils).set 25 .nils).set 26 .nils))):=by
 refine zaf eRg zae Tryz.func126 rfl (by decide) rfl rfl ?_
 conv=>whnf
 rfl
theorem zfh (d a:Int):DPR 126 [i64 d,i64 a] (fun ae=>ae = .ret (zb3 d a).av):=by
 refine(zz8 d a).nrm ?_
 rintro _ rfl
 exact⟨_,(zb3 d a).av,rfl,.inl (.inr ⟨_,_,rfl,rfl,⟨.r,.r,.r,.r,.r,.r,.r,.r,.r,.r,.r,.r,.r,.r,.r,.r,.r,.r,.r,.r,.r,.r,.r,.r,.n,.n,.n,.r,.r,trivial⟩⟩),rfl⟩
def BsS (l:List Int)(x:Nat×Nat):Prop:=x.1≤x.2∧x.2≤l.length
theorem wru {n:Int}(h:0≤n∧n<18446744073709551616):wr .u64 n=n:=by
 unfold wr;simp only[IntKind.wrap,IntKind.bits,IntKind.signed,Bool.false_and,Bool.false_eq_true,if_false];omega
theorem zn3 {lo hi:Nat}(h:lo+hi≤200000):wr .i64 ((wr .u64 (wr .i64 ((lo:Int)+(hi:Int)))).fdiv (2 ^ min (Int.toNat 1) IntKind.u64.bits))=(((lo+hi) / 2:Nat):Int):=by
 rw[wr64 (n:=(lo:Int)+hi) (by omega) (by omega),wru (by omega),Int.fdiv_eq_ediv_of_nonneg _ (by decide)]
 have e:(2:Int) ^ min (Int.toNat 1) IntKind.u64.bits=2:=by decide
 rw[e,wr64 (by omega) (by omega)]
 omega
theorem yaq {l:List (List AV)}{lo hi:Nat}(h:lo+hi≤200000)(h2:(lo+hi) / 2<l.length):inB (wr .i64 ((wr .u64 (wr .i64 ((lo:Int)+(hi:Int)))).fdiv (2 ^ min (Int.toNat 1) IntKind.u64.bits))) l.length=true:=by
 rw[zn3 h,zhw];omega
theorem zzz {l:List Int}{lo hi:Nat}(h:lo+hi≤200000)(h2:(lo+hi) / 2<l.length):(l.map ic)[(wr .i64 ((wr .u64 (wr .i64 ((lo:Int)+(hi:Int)))).fdiv (2 ^ min (Int.toNat 1) IntKind.u64.bits))).toNat]? = some (ic l[(lo+hi) / 2]):=by
 rw[zn3 h,Int.toNat_natCast];simp[h2]
theorem yk5 (l:List Int)(r:Int)(hl:l.length≤100000):DPR 90 [zaq l,i64 r] (fun ae=>∃n b,ae = .ret (.tup [i64 n,.bool b])):=by
 refine zaf eRg zae Tryz.func90 rfl (by decide) rfl rfl ?_
 conv=>whnf
 refine zai eRg zae [0,1,4,5,6] [] 0 (fun x:{x:Nat×Nat // BsS l x}=>[(7,i64 x.1.1),(8,i64 x.1.2)]) (fun _=>[]) [] (fun x=>x.1.2 - x.1.1) (⟨(0,l.length),Nat.zero_le _,Nat.le_refl _⟩) ?_
 conv=>whnf
 refine⟨?_,fun x=>?_⟩
 · conv => whnf
   (repeat' first|exact True.intro|exact congrArg (AV.int .i64) (congrArg (fun k:Nat=>(k:Int)) (List.length_map _))|rfl|apply And.intro )
 rcases x with⟨⟨lo,hi⟩,hx1,hx2⟩
 dsimp only at hx1 hx2
 conv=>whnf
 repeat' ((first|refine Rq.mk (yaq (lo:=lo) (hi:=hi) (by omega) (by rw[List.length_map];omega)) ?_|refine Ok3.mk _ (zzz (l:=l) (lo:=lo) (hi:=hi) (by omega) (by omega)) ?_|refine Ok3.mk _ (zam (l:=l) (i:=lo) (by omega)) ?_|refine Rq.mk (by(first|rfl|((try simp only[rz]);omega))) ?_|refine Br.split (fun h=>?_) (fun h=>?_)<;>(try simp only[bz] at h)|(refine zaa rfl (zq4 (l[(lo+hi) / 2]'(by omega)) r) ?_;rintro _ (⟨rfl,hc⟩|⟨rfl,hc⟩))|(refine zaa rfl (zxl (l[lo]'(by omega))) ?_;rintro _ rfl))<;>conv=>whnf)
 · refine ⟨⟨((lo + hi) / 2 + 1, hi), ⟨(by (dsimp only); omega), (by (dsimp only); omega)⟩⟩, ?_, rfl, (by (dsimp only); omega)⟩
   conv=>whnf
   repeat' first|exact True.intro|exact congrArg (AV.int .i64) (by(try dsimp only);rw[zn3 (by omega),wr64 (by omega) (by omega)];(try omega))|rfl|refine And.intro ?_ ?_
 · refine ⟨⟨(lo, (lo + hi) / 2), ⟨(by (dsimp only); omega), (by (dsimp only); omega)⟩⟩, ?_, rfl, (by (dsimp only); omega)⟩
   conv=>whnf
   repeat' first|exact True.intro|exact congrArg (AV.int .i64) (by(try dsimp only);rw[zn3 (by omega)])|rfl|refine And.intro ?_ ?_
 all_goals exact⟨_,_,rfl⟩
end Go.Ago
