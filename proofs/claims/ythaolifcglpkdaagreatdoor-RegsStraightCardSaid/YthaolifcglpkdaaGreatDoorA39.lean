/-
  Part 39: lemmas, each with its own conditions.
-/
import Derived.Test.YthaolifcglpkdaaGreatDoorA38
set_option maxRecDepth 100000
set_option maxHeartbeats 0
set_option linter.all false
namespace Go.Ago
open Go.Proofs
theorem fldA:∀op:Int,1≤op→op≤38→hasB op 65=true→op=3∨op=5∨op=6∨op=7∨op=8∨op=9∨op=10∨op=11∨op=13∨op=15∨op=18∨op=22∨op=23∨op=29∨op=30∨op=31∨op=32∨op=33∨op=38:=by
 intro op h0 h1 h;obtain⟨k,rfl⟩:=Int.eq_ofNat_of_zero_le (by omega:0≤op)
 have hk:k<39:=by omega
 have:∀k:Fin 39,hasB (k.1:Int) 65=true→k.1∈[3,5,6,7,8,9,10,11,13,15,18,22,23,29,30,31,32,33,38]:=by decide
 have:=this ⟨k,hk⟩ h;simp only[List.mem_cons,List.not_mem_nil,or_false] at this;omega
theorem fldB:∀op:Int,1≤op→op≤38→hasB op 66=true→op=7∨op=9∨op=10∨op=13∨op=23∨op=30∨op=31∨op=32∨op=33:=by
 intro op h0 h1 h;obtain⟨k,rfl⟩:=Int.eq_ofNat_of_zero_le (by omega:0≤op)
 have hk:k<39:=by omega
 have:∀k:Fin 39,hasB (k.1:Int) 66=true→k.1∈[7,9,10,13,23,30,31,32,33]:=by decide
 have:=this ⟨k,hk⟩ h;simp only[List.mem_cons,List.not_mem_nil,or_false] at this;omega
theorem fldD:∀op:Int,1≤op→op≤38→hasB op 68=true→op=2∨op=3∨op=4∨op=6∨op=7∨op=8∨op=10∨op=11∨op=12∨op=13∨op=17∨op=22∨op=26∨op=28∨op=29∨op=32∨op=33∨op=34∨op=35∨op=36∨op=38:=by
 intro op h0 h1 h;obtain⟨k,rfl⟩:=Int.eq_ofNat_of_zero_le (by omega:0≤op)
 have hk:k<39:=by omega
 have:∀k:Fin 39,hasB (k.1:Int) 68=true→k.1∈[2,3,4,6,7,8,10,11,12,13,17,22,26,28,29,32,33,34,35,36,38]:=by decide
 have:=this ⟨k,hk⟩ h;simp only[List.mem_cons,List.not_mem_nil,or_false] at this;omega
abbrev OrR (k:Kc)(r:Int):Prop:=r = -1∨InR k r
theorem yqa {k:Kc}{i:Ins}(hb:zdo i)(hr:zcf k i):OrR k i.a:=by
 obtain⟨⟨b0,b1⟩,_,ba,_,_⟩:=hb;cases hh:hasB i.op 65 with
 | false=>exact .inl (ba hh)
 | true =>
   obtain⟨h0,h2,h3,h38,h4,h5,h6,h7,h8,h9,h10,h11,h12,h13,hC,hS⟩:=hr;have:=fldA i.op b0 b1 hh;unfold zev at hC;unfold zeu at hS;rcases this with h|h|h|h|h|h|h|h|h|h|h|h|h|h|h|h|h|h|h
   · exact .inr (h3 h).2
   · exact .inr (h5 h)
   · exact .inr (h6 h).2
   · exact .inr (h7 h).2.1
   · exact .inr (h8 h).2
   · exact .inr (h9 h).1
   · exact .inr (h10 h).2.1
   · exact .inr (h11 h).2
   · exact .inr (h13 h).2.1
   · exact .inr ((hC (by omega) (by omega)).2.1 h).1
   · exact(hC (by omega) (by omega)).2.2.2.2 h
   · exact((hS (by omega) (by omega)).1 h).2
   · exact .inr ((hS (by omega) (by omega)).2.1 h).1
   · exact((hS (by omega) (by omega)).2.2.2.2.1 h).2.1
   · exact .inr ((hS (by omega) (by omega)).2.2.2.2.2.1 h).1
   · exact .inr ((hS (by omega) (by omega)).2.2.2.2.2.2.1 h).1
   · exact .inr ((hS (by omega) (by omega)).2.2.2.2.2.2.2.1 h).2.1
   · exact .inr ((hS (by omega) (by omega)).2.2.2.2.2.2.2.2.1 h).2.1
   · exact .inr (h38 h).2
theorem yp9 {k:Kc}{i:Ins}(hb:zdo i)(hr:zcf k i):OrR k i.b:=by
 obtain⟨⟨b0,b1⟩,_,_,bb,_⟩:=hb;cases hh:hasB i.op 66 with
 | false=>exact .inl (bb hh)
 | true =>
   obtain⟨h0,h2,h3,h38,h4,h5,h6,h7,h8,h9,h10,h11,h12,h13,hC,hS⟩:=hr;have:=fldB i.op b0 b1 hh;unfold zeu at hS;rcases this with h|h|h|h|h|h|h|h|h
   · exact .inr (h7 h).2.2
   · exact .inr (h9 h).2
   · exact(h10 h).2.2
   · exact .inr (h13 h).2.2
   · exact((hS (by omega) (by omega)).2.1 h).2
   · exact((hS (by omega) (by omega)).2.2.2.2.2.1 h).2
   · exact .inr ((hS (by omega) (by omega)).2.2.2.2.2.2.1 h).2
   · exact .inr ((hS (by omega) (by omega)).2.2.2.2.2.2.2.1 h).2.2
   · exact .inr ((hS (by omega) (by omega)).2.2.2.2.2.2.2.2.1 h).2.2
theorem yp8 {k:Kc}{i:Ins}(hb:zdo i)(hr:zcf k i):OrR k i.d:=by
 obtain⟨⟨b0,b1⟩,bd,_,_,_⟩:=hb;cases hh:hasB i.op 68 with
 | false=>exact .inl (bd hh)
 | true =>
   obtain⟨h0,h2,h3,h38,h4,h5,h6,h7,h8,h9,h10,h11,h12,h13,hC,hS⟩:=hr;have:=fldD i.op b0 b1 hh;unfold zev at hC;unfold zeu at hS;rcases this with h|h|h|h|h|h|h|h|h|h|h|h|h|h|h|h|h|h|h|h|h
   · exact .inr (h2 h)
   · exact .inr (h3 h).1
   · exact .inr (h4 h)
   · exact .inr (h6 h).1
   · exact .inr (h7 h).1
   · exact .inr (h8 h).1
   · exact .inr (h10 h).1
   · exact .inr (h11 h).1
   · exact .inr (h12 h)
   · exact .inr (h13 h).1
   · exact(hC (by omega) (by omega)).2.2.2.1 h
   · exact .inr ((hS (by omega) (by omega)).1 h).1
   · exact .inr ((hS (by omega) (by omega)).2.2.1 h)
   · exact .inr ((hS (by omega) (by omega)).2.2.2.1 h).1
   · exact .inr ((hS (by omega) (by omega)).2.2.2.2.1 h).1
   · exact .inr ((hS (by omega) (by omega)).2.2.2.2.2.2.2.1 h).1
   · exact .inr ((hS (by omega) (by omega)).2.2.2.2.2.2.2.2.1 h).1
   · exact .inr ((hS (by omega) (by omega)).2.2.2.2.2.2.2.2.2.1 h)
   · exact .inr ((hS (by omega) (by omega)).2.2.2.2.2.2.2.2.2.2.1 h)
   · exact .inr ((hS (by omega) (by omega)).2.2.2.2.2.2.2.2.2.2.2 h)
   · exact .inr (h38 h).1
structure InsV (n:Int)(m:Nat)(i:Ins):Prop where
 a:i.a = -1∨(0≤i.a∧i.a<n)
 b:i.b = -1∨(0≤i.b∧i.b<n)
 d:i.d = -1∨(0≤i.d∧i.d<n)
 l:∀r∈i.l.l,0≤r∧r<n
 t:∀x∈zbc i,0≤x∧x≤(m:Int)
theorem zv9 {c:Cd}(h:zjk c){q:Nat}(hq:q<c.b.l.length):(0≤c.b.l[q].regs)∧∀i∈c.b.l[q].ins.l,InsV c.b.l[q].regs c.b.l[q].ins.l.length i:=by
 obtain⟨ho,h⟩:=h;refine⟨(ho.regs q hq).1,fun i hi=>?_⟩
 obtain⟨hb,hr⟩:=h q hq i hi;have hreg:zc8 (kcOf c ho q hq)=c.b.l[q].regs:=by simp[zc8,kcOf]
 have cv:∀r,InR (kcOf c ho q hq) r→0≤r∧r<c.b.l[q].regs:=fun r hr=>by
  unfold InR at hr;rw[hreg] at hr;omega
 refine⟨(yqa hb hr).ip id (cv _),(yp9 hb hr).ip id (cv _),(yp8 hb hr).ip id (cv _),fun r hl=>cv r (hr.1 r hl),fun x hx=>?_⟩
 have pl:∀n,PLc (kcOf c ho q hq) (kcOf c ho q hq).proc n→0≤n∧n≤(c.b.l[q].ins.l.length:Int):=fun n hp=>by
  unfold PLc at hp;obtain⟨hh,h1,h2⟩:=hp;refine⟨h1,?_⟩
  simpa[kcOf] using h2
 obtain⟨h0,h2,h3,h38,h4,h5,h6,h7,h8,h9,h10,h11,h12,h13,hC,hS⟩:=hr;unfold zev at hC;unfold zeu at hS;unfold zbc at hx;split at hx
 · rename_i hop
   simp only[List.mem_singleton] at hx;subst hx;rcases hop with hop|hop
   · exact pl _ ((hC (by omega) (by omega)).1 hop)
   · exact pl _ ((hC (by omega) (by omega)).2.1 hop).2
 · split at hx
   · rename_i hop
     simp only[List.mem_singleton] at hx;subst hx;rcases hop with hop|hop
     · exact pl _ ((hS (by omega) (by omega)).2.2.2.1 hop).2
     · exact pl _ ((hS (by omega) (by omega)).2.2.2.2.1 hop).2.2
   · cases hx
theorem zrq {c:Cd}(h:zjk c){q:Nat}(hq:q<c.b.l.length){i:Ins}(hi:i∈c.b.l[q].ins.l)(ho:i.op=16):∃hp:i.p.toNat<c.b.l.length,0≤i.p∧0≤i.n∧i.n≤(c.b.l[i.p.toNat].ins.l.length:Int):=by
 obtain⟨hoo,h⟩:=h;obtain⟨hb,hr⟩:=h q hq i hi;obtain⟨h0,h2,h3,h38,h4,h5,h6,h7,h8,h9,h10,h11,h12,h13,hC,hS⟩:=hr;unfold zev at hC;have:=(hC (by omega) (by omega)).2.2.1 ho
 obtain⟨⟨p0,_⟩,hp⟩:=this;unfold PLc at hp;obtain⟨hh,h1,h2⟩:=hp;exact⟨hh,p0,h1,h2⟩
theorem mem_entN {p:Int}{x:Int}:∀{bs:List Bd},x∈entN bs p bs.length↔∃b∈bs,∃i∈b.ins.l,i.op=16∧i.p=p∧x=i.n:=by
 intro bs;unfold entN;rw[List.take_length];simp only[List.mem_flatMap,zxg]
structure SmallC (c:Cd)(ins most:Nat):Prop where
 nb:c.b.l.length≤70
 regs:∀b∈c.b.l,b.regs≤most
 lst:∀b∈c.b.l,∀i∈b.ins.l,i.l.l.length≤40
 sum:zbh c.b.l≤ins
structure GrV (g:Gr):Prop where
 regs:0≤g.regs∧g.regs≤64
 few:g.ins.l.length≤1000∧g.entries.l.length≤1000
 ins:∀i∈g.ins.l,InsV g.regs g.ins.l.length i
 lst:∀i∈g.ins.l,i.l.l.length≤40
 ent:∀t∈g.entries.l,0≤t∧t≤(g.ins.l.length:Int)
theorem GrV.ok {g:Gr}(h:GrV g):GrOK g:=by
 refine⟨h.regs,h.few,fun i hi r hr=>?_,fun i hi=>?_,h.lst,fun i hi t ht=>(h.ins i hi).t t ht,h.ent⟩
 · have hv := h.ins i hi
   unfold zbn at hr;rcases List.mem_append.1 hr with hr|hr
   · rcases List.mem_append.1 hr with hr | hr
     · split at hr
       · rename_i hc
         simp only[List.mem_singleton] at hr;subst hr;exact hv.a.resolve_left hc.2
       · cases hr
     · split at hr
       · rename_i hc
         simp only[List.mem_singleton] at hr;subst hr;exact hv.b.resolve_left hc.2
       · cases hr
   · split at hr
     · exact hv.l r hr
     · cases hr
 · have hv := h.ins i hi
   have:=h.regs;unfold zbg;split
   · rcases hv.d with h1|h1<;>omega
   · omega
theorem zdz:∀{bs:List Bd} {b:Bd},b∈bs→b.ins.l.length≤zbh bs
 | x :: bs, b, h => by
   unfold zbh;rw[List.map_cons,List.sum_cons];rcases List.mem_cons.1 h with rfl|h
   · omega
   · have := zdz h
     unfold zbh at this;omega
theorem yjb {c:Cd}{p:Int}{g:Gr}{ins most:Nat}(hs:SmallC c ins most)(hm:most≤60)(hi:ins≤1000)(hp:0≤p∧p<c.b.l.length)(hck:ckC c=0)(h1:g.ins=(c.b.l[p.toNat]'(by omega)).ins)(h2:g.regs=(c.b.l[p.toNat]'(by omega)).regs)(he:∃e,EntP c p g.entries.l e):GrV g:=by
 have hok:=yg0 c hck;have hq:p.toNat<c.b.l.length:=by omega
 obtain⟨hr0,hv⟩:=zv9 hok hq;have hmem:=List.getElem_mem hq;have hr1:=hs.regs _ hmem;have hl:=hs.lst _ hmem;have hsum:=zdz hmem;have hs2:=hs.sum;obtain⟨e,he⟩:=he;have hel:g.entries.l.length≤1000:=by
  rcases he with⟨a,_⟩|⟨_,a,_⟩|⟨_,_,_,a,_⟩
  · exact absurd hck a
  · exact absurd hp a
  · omega
 refine⟨by rw[h2];omega,by rw[h1];omega,by rw[h1,h2];exact hv,by rw[h1];exact hl,fun t ht=>?_⟩
 rcases he with⟨a,_⟩|⟨_,a,_⟩|⟨_,_,_,_,a,_⟩
 · exact absurd hck a
 · exact absurd hp a
 · obtain ⟨b, hb, i, hi2, h3, h4, rfl⟩ := mem_entN.1 ((a t).1 ht)
   obtain⟨q,hq2,rfl⟩:=List.getElem_of_mem hb;obtain⟨h5,_,h6,h7⟩:=zrq hok hq2 hi2 h3;refine⟨h6,?_⟩;rw[h1];subst h4;exact h7
end Go.Ago
section
namespace Go.Ago
open Go.Proofs
attribute [local irreducible] ltI leI eqI eqS shrI wr inB mmI comp DC DP DW DV
attribute [local irreducible] ckP ct InR PLc zev zeu zdo zcf ckC zb7 entN zbh za3 bitW EntP
def GOf (c:Cd)(p:Int)(g:Gr):Prop:=∃hp:p.toNat<c.b.l.length,g.ins=c.b.l[p.toNat].ins∧g.regs=c.b.l[p.toNat].regs∧∃e,EntP c p g.entries.l e
def Ask3 (c:Cd)(p:Int)(e:Int)(Q:Prop):Prop:=(ckC c≠0∧e=ckC c)∨(ckC c=0∧¬(0≤p∧p<c.b.l.length)∧e=1)∨(ckC c=0∧(0≤p∧p<c.b.l.length)∧e=0∧Q)
theorem zlh (c:Cd)(n:Int):DPR 32 [c.av,i64 n] (retD (0≤n∧n<c.b.l.length)):=DP.dec (yen c n)
theorem znr (g:Gr):DPR 34 [g.av] (retD (StraightG g)):=DP.dec (zws g)
theorem zgu (c:Cd)(p:Int)(hs:zbh c.b.l≤100000)(hp:0≤p∧p<c.b.l.length):DPR 33 [c.av,i64 p] (fun ae=>∃g:Gr,ae = .ret g.av∧GOf c p g):=by
 refine(ya0 c p hs hp).mono ?_
 rintro _ ⟨g,rfl,h1,h2,h3⟩
 exact⟨g,rfl,by omega,h1,h2,h3⟩
theorem GOf.v {c:Cd}{p:Int}{g:Gr}{ins most:Nat}(h:GOf c p g)(hs:SmallC c ins most)(hm:most≤60)(hi:ins≤1000)(hp:0≤p∧p<c.b.l.length)(hck:ckC c=0):GrV g:=by
 obtain⟨_,h1,h2,h3⟩:=h;exact yjb hs hm hi hp hck h1 h2 h3
theorem zlt (c:Cd)(p:Int)(hs:zbh c.b.l≤100000):DPR 8 [c.av,i64 p] (fun ae=>∃b e,ae = .ret (.tup [.bool b,i64 e])∧Ask3 c p e (∃g,GOf c p g∧(b=true↔StraightG g))):=by
 refine zaf eRg zae Tryz.func8 rfl (by decide) rfl rfl ?_
 conv=>whnf
 repeat' ((first|refine Br.split (fun h=>?_) (fun h=>?_)<;>(try simp only[bz] at h)<;>try (exfalso;omega)|(refine zaa rfl (zfq c) ?_;rintro _ rfl)|(refine zaa rfl (zlh c p) ?_;rintro _ (⟨rfl,hp⟩|⟨rfl,hp⟩))|(refine zaa rfl (znr g) ?_;rintro _ (⟨rfl,hst⟩|⟨rfl,hst⟩))|refine zay eRg zae Tryz.func30 rfl (by decide) rfl rfl ?_|refine zay eRg zae Tryz.func31 rfl (by decide) rfl rfl ?_|(refine zaa rfl (zgu c p hs hp) ?_;rintro _ ⟨g,rfl,hg⟩))<;>conv=>whnf)
 all_goals first|exact⟨_,_,rfl,.inl ⟨h,rfl⟩⟩|exact⟨_,_,rfl,.inr (.inl ⟨by omega,hp,rfl⟩)⟩|exact⟨_,_,rfl,.inr (.inr ⟨by omega,hp,rfl,g,hg,by simp[hst]⟩)⟩
theorem zl0 (c:Cd)(p:Int)(hsm:SmallC c 1000 60):DPR 9 [c.av,i64 p] (fun ae=>∃n e,ae = .ret (.tup [i64 n,i64 e])∧Ask3 c p e (∃g S,GOf c p g∧LiveOK g S∧zgf g S n)):=by
 refine zaf eRg zae Tryz.func9 rfl (by decide) rfl rfl ?_
 have hs:zbh c.b.l≤100000:=by have:=hsm.sum;omega
 conv=>whnf
 repeat' ((first|refine Br.split (fun h=>?_) (fun h=>?_)<;>(try simp only[bz] at h)<;>try (exfalso;omega)|(refine zaa rfl (zfq c) ?_;rintro _ rfl)|(refine zaa rfl (zlh c p) ?_;rintro _ (⟨rfl,hp⟩|⟨rfl,hp⟩))|(refine zar rfl (zvo g (hg.v hsm (Nat.le_refl _) (Nat.le_refl _) hp (by omega)).ok) ?_;rintro _ ⟨S,rfl,hS⟩<;>refine⟨_,rfl,?_⟩)|(refine zar rfl (znz g (hg.v hsm (Nat.le_refl _) (Nat.le_refl _) hp (by omega)).ok S hS.toShS) ?_;rintro _ ⟨n,rfl,hn⟩<;>refine⟨_,rfl,?_⟩)|refine And.intro (a:=zaw _=true) (by kernel_rfl) (LzK.e ?_)|refine zay eRg zae Tryz.func30 rfl (by decide) rfl rfl ?_|refine zay eRg zae Tryz.func35 rfl (by decide) rfl rfl ?_|(refine zaa rfl (zgu c p hs hp) ?_;rintro _ ⟨g,rfl,hg⟩))<;>conv=>whnf)
 all_goals first|exact⟨_,_,rfl,.inl ⟨h,rfl⟩⟩|exact⟨_,_,rfl,.inr (.inl ⟨by omega,hp,rfl⟩)⟩|exact⟨_,_,rfl,.inr (.inr ⟨by omega,hp,rfl,g,S,hg,hS,hn⟩)⟩
abbrev il1 (l:List Int):List AV:=[zaq l]
def livL (g:Gr)(S:List (List W64))(n:Nat):List (List Int):=(S.take n).map fun ws=>za3 ws g.regs.toNat
theorem livL_0 {g S}:livL g S 0=[]:=rfl
theorem ygo {g:Gr}{S:List (List W64)}{n:Nat}(h:n<S.length):livL g S (n+1)=livL g S n++[za3 S[n] g.regs.toNat]:=by
 unfold livL;rw[List.take_succ_eq_append_getElem h,List.map_append];rfl
theorem zlg {g:Gr}{S:List (List W64)}{n:Nat}(h:n≤S.length):(livL g S n).length=n:=by simp[livL,h]
theorem zo5 {g:Gr}{S:List (List W64)}(hg:GrOK g)(hs:ShS g S){k:Nat}(h:k<S.length):S[k].length≤1∧g.regs≤64 * (S[k].length:Int):=by
 have:=hs.row _ (List.getElem_mem h);have:=zef hg;have:=zkc hg;omega
attribute [local irreducible] livL
theorem zvp (c:Cd)(p:Int)(hsm:SmallC c 1000 60):DPR 10 [c.av,i64 p] (fun ae=>∃v e,ae = .ret (.tup [v,i64 e])∧Ask3 c p e (∃g S,GOf c p g∧LiveOK g S∧v = .rsl 1 ((livL g S S.length).map il1))∧(e≠0→v = .nils)):=by
 refine zaf eRg zae Tryz.func10 rfl (by decide) rfl rfl ?_
 have hs:zbh c.b.l≤100000:=by have:=hsm.sum;omega
 conv=>whnf
 repeat' ((first|refine Br.split (fun h=>?_) (fun h=>?_)<;>(try simp only[bz] at h)<;>try (exfalso;omega)|(refine zaa rfl (zfq c) ?_;rintro _ rfl)|(refine zaa rfl (zlh c p) ?_;rintro _ (⟨rfl,hp⟩|⟨rfl,hp⟩))|(refine zaa rfl (zvo g (hg.v hsm (Nat.le_refl _) (Nat.le_refl _) hp (by omega)).ok) ?_;rintro _ ⟨S,rfl,hS⟩)|refine zay eRg zae Tryz.func30 rfl (by decide) rfl rfl ?_|refine zay eRg zae Tryz.func38 rfl (by decide) rfl rfl ?_|(refine zaa rfl (zgu c p hs hp) ?_;rintro _ ⟨g,rfl,hg⟩))<;>conv=>whnf)
 all_goals first|exact⟨_,_,rfl,.inl ⟨h,rfl⟩,fun _=>rfl⟩|exact⟨_,_,rfl,.inr (.inl ⟨by omega,hp,rfl⟩),fun _=>rfl⟩|skip
 have hgo:=(hg.v hsm (Nat.le_refl _) (Nat.le_refl _) hp (by omega)).ok
 have hck:ckC c=0:=by omega
 have hsl:=hS.len;have hfew:=hgo.few;have hregs:=hgo.regs;refine zai eRg zae [4,5,7,21,22] [] 2000 (fun x:{x:Nat×List (List Int) // x.2=livL g S x.1∧x.1≤S.length}=>[(23,i64 x.1.1),(8,accV 1000 1 (x.1.2.map il1))]) (fun x=>accH 1000 1 (x.1.2.map il1)) [(1000,.slot 8)] (fun x=>S.length+1 - x.1.1) (⟨(0,[]),livL_0.symm,Nat.zero_le _⟩) ?_
 conv=>whnf
 refine⟨?_,fun x=>?_⟩
 · conv => whnf
   (repeat' first|exact True.intro|rfl|apply And.intro )
 rcases x with⟨⟨m,_|⟨y,acc⟩⟩,hm,hmb⟩
 · dsimp only at hm hmb
   have i_len:=congrArg List.length hm;rw[zlg hmb] at i_len;simp only[List.length_nil] at i_len
   conv=>whnf
   repeat' ((first|refine Br.f (b:=Nat.beq _ _) rfl ?_|refine Ok3.mk _ (zam (i:=m) (by omega)) ?_|refine Rq.mk (by(first|rfl|((try simp only[rz]);omega))) ?_|refine Br.split (fun h=>?_) (fun h=>?_)<;>(try simp only[bz] at h)<;>try (exfalso;omega)|(refine zaa rfl (zc3 (S[m]'(by omega)) (zo5 hgo hS.toShS (by omega)).1 g.regs ⟨hregs.1,(zo5 hgo hS.toShS (by omega)).2⟩) ?_;rintro _ rfl))<;>conv=>whnf)
   · (refine⟨⟨(m+1,[za3 (S[m]'(by omega)) g.regs.toNat]),(by rw[ygo (by omega),← hm];rfl),(by omega)⟩,(by(conv=>whnf);(repeat' first|exact True.intro|exact zat (by rfl) (by rfl) (by simp) (by rfl)|exact zaj (f:=il1) (fun _=>by rfl)|rfl|apply And.intro|(refine cw ?_ ?_ ?_<;>(try dsimp only)<;>omega) )),rfl,(by(dsimp only);omega)⟩)
 · dsimp only at hm hmb
   have i_len:=congrArg List.length hm;rw[zlg hmb] at i_len;simp only[List.length_cons] at i_len
   conv=>whnf
   repeat' ((first|refine Br.f (b:=Nat.beq _ _) rfl ?_|refine Rq.mk (zcg 24 2000 (by simp) rfl rfl (by have:=i_len;simp only[List.length_cons,List.length_map,List.length_nil] at this ⊢;omega) (by decide)) ?_|refine Ok3.mk _ (zam (i:=m) (by omega)) ?_|refine Rq.mk (by(first|rfl|((try simp only[rz]);omega))) ?_|refine Br.split (fun h=>?_) (fun h=>?_)<;>(try simp only[bz] at h)|(refine zaa rfl (zc3 (S[m]'(by omega)) (zo5 hgo hS.toShS (by omega)).1 g.regs ⟨hregs.1,(zo5 hgo hS.toShS (by omega)).2⟩) ?_;rintro _ rfl))<;>conv=>whnf)
   · (refine⟨⟨(m+1,y::(acc++[za3 (S[m]'(by omega)) g.regs.toNat])),(by rw[ygo (by omega),← hm];rfl),(by omega)⟩,(by(conv=>whnf);(repeat' first|exact True.intro|exact zat (by rfl) (by rfl) (by simp) (by rfl)|exact za4 (by rfl) (za7 (f:=il1) (fun _=>by rfl) (by rfl) (by simp))|exact zaj (f:=il1) (fun _=>by rfl)|rfl|apply And.intro|(refine cw ?_ ?_ ?_<;>(try dsimp only)<;>omega) )),rfl,(by(dsimp only);omega)⟩)
   · generalize hg2 : snap _ 20 _ = rr
     obtain rfl:=hg2.symm.trans (zd5 (n:=19) (zbf (f:=il1) (n:=18) (fun _=>rfl) rfl) rfl)
     conv=>whnf
     exact⟨_,_,rfl,.inr (.inr ⟨hck,hp,rfl,g,S,hg,hS,by rw[show S.length=m by omega,← hm];rfl⟩),fun h=>absurd rfl h⟩
def sumN (bs:List Bd)(n:Nat):Nat:=((bs.take n).map fun b=>b.ins.l.length).sum
theorem yf3 {bs}:sumN bs 0=0:=rfl
theorem zyp {bs:List Bd}{n:Nat}(h:n<bs.length):sumN bs (n+1)=sumN bs n+bs[n].ins.l.length:=by
 unfold sumN;rw[List.take_succ_eq_append_getElem h,List.map_append,List.sum_append];simp
theorem yhn {bs:List Bd}:∀{n:Nat},sumN bs n≤n * 281474976710656:=by
 intro n
 induction n with
 | zero=>simp[sumN]
 | succ n ih =>
   by_cases h:n<bs.length
   · rw[zyp h];have:=(bs[n]).ins.h;omega
   · have : sumN bs (n + 1) = sumN bs n := by unfold sumN; rw [List.take_of_length_le (by omega), List.take_of_length_le (by omega)]
     omega
theorem ydm {bs:List Bd}:sumN bs bs.length=zbh bs:=by unfold sumN;rw[List.take_length];with_unfolding_all rfl
attribute [local irreducible] sumN
def zop (i:Ins):Prop:=40<i.l.l.length∨40<i.y.l.length∨40<i.f.l.length
def NoneL (l:List Ins)(n:Nat):Prop:=∀(k:Nat) (h:k<l.length),k<n→¬zop l[k]
theorem NoneL.nil {l}:NoneL l 0:=fun _ _ h=>absurd h (Nat.not_lt_zero _)
theorem NoneL.step {l:List Ins}{n:Nat}(h:NoneL l n)(hn:n<l.length)(h1:¬zop l[n]):NoneL l (n+1):=fun k hk hl=>by
 rcases Nat.lt_or_ge k n with h2|h2
 · exact h k hk h2
 · obtain rfl : k = n := by omega
   exact h1
theorem yed (i:Ins):DPR 29 [i.av] (retB fun b=>b=true↔zop i):=by
 refine zaf eRg zae Tryz.func29 rfl (by decide) rfl rfl ?_
 have h1:=i.l.h;have h2:=i.y.h;have h3:=i.f.h
 conv=>whnf
 repeat' first
  | (refine Br.split (fun h=>?_) (fun h=>?_)<;>(try simp only[bz] at h)<;>(conv=>whnf))
 all_goals exact⟨_,rfl,by simp only[zop,true_iff,false_iff,Bool.false_eq_true];omega⟩
theorem yee (i:Ins):DPR 29 [i.av] (retD (zop i)):=DP.dec (yed i)
theorem yao (l:BL Ins):DPR 71 [zgs l.l,.fn (.func 29) [] []] (retI fun n=>n<0→NoneL l.l l.l.length):=by
 refine zaf eRg zae Tryz.func71 rfl (by decide) rfl rfl ?_
 have hl:=l.h
 conv=>whnf
 refine zai eRg zae [0,1,4,7] [] 0 (fun n:{n:Nat // NoneL l.l n}=>[(8,i64 n.1)]) (fun _=>[]) [] (fun n=>l.l.length+1 - n.1) (⟨0,NoneL.nil⟩) ?_
 conv=>whnf
 refine⟨?_,fun n=>?_⟩
 · conv => whnf
   (repeat' first|exact True.intro|rfl|apply And.intro )
 conv=>whnf
 repeat' ((first|refine Rq.mk (by(first|rfl|((try simp only[rz]);omega))) ?_|refine Br.split (fun h=>?_) (fun h=>?_)<;>(try simp only[bz] at h)|refine Ok3.mk _ (zam (by omega)) ?_|(refine zaa rfl (yee (l.l[n.1]'(by omega))) ?_;rintro _ (⟨rfl,hf⟩|⟨rfl,hf⟩)))<;>conv=>whnf)
 all_goals first|exact⟨_,rfl,fun hh=>by omega⟩|exact⟨_,rfl,fun _ k hk _=>n.2 k hk (by omega)⟩|(refine⟨⟨n.1+1,NoneL.step n.2 (by omega) hf⟩,?_,rfl,?_⟩<;>first|((conv=>whnf);(repeat' first|exact True.intro|rfl|apply And.intro|(refine cw ?_ ?_ ?_<;>(try dsimp only)<;>omega) );done)|((try simp only[List.length_map] at *)<;>omega))
theorem yi8 (l:BL Ins):DPR 28 [zgs l.l,.fn (.func 29) [] []] (retB fun b=>b=false→NoneL l.l l.l.length):=by
 refine zaf eRg zae Tryz.func28 rfl (by decide) rfl rfl ?_
 conv=>whnf
 repeat' ((first|refine Br.split (fun h=>?_) (fun h=>?_)<;>(try simp only[bz] at h)|(refine zaa rfl (yao l) ?_;rintro _ ⟨n,rfl,hn⟩))<;>conv=>whnf)
 all_goals first|exact⟨_,rfl,fun _=>hn h⟩|exact⟨_,rfl,fun hh=>absurd hh (by decide)⟩
theorem yho (c:Cd)(h70:c.b.l.length≤70):DPR 27 [c.av] (fun ae=>ae = .ret (i64 (zbh c.b.l))):=by
 refine zaf eRg zae Tryz.func27 rfl (by decide) rfl rfl ?_
 have hl:=c.b.h;have hs0:=@yf3 c.b.l
 conv=>whnf
 refine zai eRg zae [1,2] [] 0 (fun n:{n:Nat // n≤c.b.l.length}=>[(4,i64 n.1),(3,i64 (sumN c.b.l n.1))]) (fun _=>[]) [] (fun n=>c.b.l.length+1 - n.1) (⟨0,Nat.zero_le _⟩) ?_
 conv=>whnf
 refine⟨?_,fun n=>?_⟩
 · conv => whnf
   (repeat' first|exact True.intro|rfl|apply And.intro|exact congrArg (AV.int .i64) (by(try dsimp only);omega))
 have hnb:=n.2;have hsl:=@yhn c.b.l n.1
 conv=>whnf
 repeat' ((first|refine Rq.mk (by(first|rfl|((try simp only[rz]);omega))) ?_|refine Br.split (fun h=>?_) (fun h=>?_)<;>(try simp only[bz] at h)|refine Ok3.mk _ (zam (by omega)) ?_)<;>conv=>whnf)
 · have hlt : n.1 < c.b.l.length := by omega
   have h1:=zyp hlt;have h2:=(c.b.l[n.1]).ins.h;have hw:wr .i64 ((sumN c.b.l n.1:Int)+((c.b.l[n.1]).ins.l.length:Int))=(sumN c.b.l (n.1+1):Int):=by rw[wr64 (by omega) (by omega)];omega
   refine⟨⟨n.1+1,hlt⟩,?_,rfl,(by(dsimp only);omega)⟩
   conv=>whnf
   repeat' first|exact True.intro|rfl|apply And.intro|(refine cw ?_ ?_ ?_<;>(try dsimp only)<;>omega)|exact congrArg (AV.int .i64) (by rw[List.length_map];exact hw)
 · have e : n.1 = c.b.l.length := by omega
   exact congrArg (fun k:Nat=>AE.ret (i64 (k:Int))) ((congrArg (sumN c.b.l) e).trans ydm)
def SmN (c:Cd)(ins most:Int)(n:Nat):Prop:=∀(k:Nat) (h:k<c.b.l.length),k<n→c.b.l[k].regs≤most∧(zbh c.b.l:Int)≤ins∧NoneL c.b.l[k].ins.l c.b.l[k].ins.l.length
theorem SmN.nil {c ins most}:SmN c ins most 0:=fun _ _ h=>absurd h (Nat.not_lt_zero _)
theorem SmN.step {c:Cd}{ins most:Int}{n:Nat}(h:SmN c ins most n)(hn:n<c.b.l.length)(h1:c.b.l[n].regs≤most)(h2:(zbh c.b.l:Int)≤ins)(h3:NoneL c.b.l[n].ins.l c.b.l[n].ins.l.length):SmN c ins most (n+1):=fun k hk hl=>by
 rcases Nat.lt_or_ge k n with h4|h4
 · exact h k hk h4
 · obtain rfl : k = n := by omega
   exact⟨h1,h2,h3⟩
theorem zxm:zbh []=0:=by with_unfolding_all rfl
theorem SmN.ok {c:Cd}{ins most:Nat}(h70:c.b.l.length≤70)(h:SmN c ins most c.b.l.length):SmallC c ins most:=by
 refine⟨h70,fun b hb=>?_,fun b hb i hi=>?_,?_⟩
 · obtain ⟨q, hq, rfl⟩ := List.getElem_of_mem hb
   exact(h q hq hq).1
 · obtain ⟨q, hq, rfl⟩ := List.getElem_of_mem hb
   obtain⟨k,hk,rfl⟩:=List.getElem_of_mem hi;have:=(h q hq hq).2.2 k hk hk;unfold zop at this;omega
 · rcases hc : c.b.l with _ | ⟨b, bs⟩
   · rw[zxm];exact Nat.zero_le _
   · have h0 : 0 < c.b.l.length := by rw [hc]; simp
     have:=(h 0 h0 h0).2.1;rw[hc] at this;omega
theorem zkz (c:Cd)(ins most:Nat)(hi:ins≤100000∧most≤100000):DPR 7 [c.av,i64 ins,i64 most] (retB fun b=>b=true→SmallC c ins most):=by
 refine zaf eRg zae Tryz.func7 rfl (by decide) rfl rfl ?_
 have hl:=c.b.h;have hl2:=c.p.procs.h
 conv=>whnf
 repeat' first
  | (refine Br.split (fun h=>?_) (fun h=>?_)<;>(try simp only[bz] at h)<;>(conv=>whnf))
 all_goals first|exact⟨_,rfl,fun hh=>absurd hh (by decide)⟩|skip
 have h70:c.b.l.length≤70:=by omega
 refine zai eRg zae [1,2,3,6,21,22] [] 0 (fun n:{n:Nat // SmN c ins most n}=>[(23,i64 n.1)]) (fun _=>[]) [] (fun n=>c.b.l.length+1 - n.1) (⟨0,SmN.nil⟩) ?_
 conv=>whnf
 refine⟨?_,fun n=>?_⟩
 · conv => whnf
   (repeat' first|exact True.intro|rfl|apply And.intro )
 conv=>whnf
 repeat' ((first|refine Rq.mk (by(first|rfl|((try simp only[rz]);omega))) ?_|refine Br.split (fun h=>?_) (fun h=>?_)<;>(try simp only[bz] at h)|refine zag (fun h=>?_) (fun h=>?_)<;>(try simp only[bz] at h)|refine Ok3.mk _ (zam (by omega)) ?_|(refine zaa rfl (yho c h70) ?_;rintro _ rfl)|(refine zaa rfl (yi8 (c.b.l[n.1]'(by omega)).ins) ?_;rintro _ ⟨b,rfl,hb⟩))<;>conv=>whnf)
 all_goals first
  | exact⟨_,rfl,fun _=>SmN.ok h70 (fun k hk _=>n.2 k hk (by omega))⟩
  | exact⟨_,rfl,fun hh=>absurd hh (by decide)⟩
  | (refine⟨⟨n.1+1,SmN.step n.2 (by omega) (by omega) (by omega) (hb (by assumption))⟩,?_,rfl,?_⟩<;>first|((conv=>whnf);(repeat' first|exact True.intro|rfl|apply And.intro|(refine cw ?_ ?_ ?_<;>(try dsimp only)<;>omega) );done)|((try simp only[List.length_map] at *)<;>omega))
end Go.Ago
end
section
namespace Go.Ago
open Go.Proofs
attribute [local irreducible] ltI leI eqI eqS shrI wr inB mmI comp DC DP DW DV
attribute [local irreducible] ckP ct InR PLc zev zeu zdo zcf ckC zb7 entN zbh za3 bitW EntP
def mapR (tw:List Int)(r:Int):Int:=if r = -1 then -1 else tw.getD r.toNat 0
def zyc (tw:List Int)(r:Int):Prop:=r = -1∨(0≤r∧r<tw.length∧0≤tw.getD r.toNat 0)
theorem zmj {l:List Int}{n:Int}(h:n.toNat<l.length):l.getD n.toNat 0=l[n.toNat]:=by simp[List.getD,h]
def repI (i:Ins)(tw:List Int):Ins:={ i with d:=mapR tw i.d,a:=mapR tw i.a,b:=mapR tw i.b,l:=⟨i.l.l.map (mapR tw),by rw[List.length_map];exact i.l.h⟩ }
theorem zfe (tw:BL Int)(r:Int)(h:zyc tw.l r):DPR 94 [i64 r,.rptr [zaq tw.l],.rptr [.bool true]] (fun ae=>ae = .ret (i64 (mapR tw.l r))):=by
 refine zaf eRg zae Tryz.func94 rfl (by decide) rfl rfl ?_
 have hl:=tw.h;have hr:r = -1∨(0≤r∧r<tw.l.length):=h.ip id fun h=>⟨h.1,h.2.1⟩
 have h0:¬r = -1→∀hlt:r.toNat<tw.l.length,¬tw.l[r.toNat]<0:=fun h1 hlt h2=>by
  rcases h with h|⟨_,_,h⟩
  · exact h1 h
  · rw[zmj hlt] at h;omega
 conv=>whnf
 repeat' ((first|refine Rq.mk (by(first|rfl|((try simp only[rz]);omega))) ?_|refine Br.split (fun h=>?_) (fun h=>?_)<;>(try simp only[bz] at h)<;>try (exfalso;omega)|refine Ok3.mk _ (za2 (by omega)) ?_)<;>conv=>whnf)
 · rw[mapR,if_pos h,h]
 · exact absurd (by assumption) (h0 (by assumption) _)
 · rw[mapR,if_neg (by assumption),zmj]
theorem zd2 {H:zah}{n:Nat}{cs ds:List AV}(h:mapO (snap H n) cs=some ds):snap H (n+1) (.agg cs)=some (.agg ds):=by simp only[snap,h]
theorem zb2 {α β:Type}{f:α→β}{l:List α}{n:Nat}(h:n<l.length):(l.take (n+1)).map f=(l.take n).map f++[f l[n]]:=by
 rw[List.take_succ_eq_append_getElem h,List.map_append];rfl
attribute [local irreducible] mapR
def yk1 (i:Ins)(tw:List Int):Prop:=zyc tw i.d∧zyc tw i.a∧zyc tw i.b∧∀r∈i.l.l,zyc tw r
theorem zzf (i:Ins)(tw:BL Int)(hl40:i.l.l.length≤40)(hR:yk1 i tw.l):DPR 53 [i.av,zaq tw.l] (fun ae=>∃v,ae = .ret (.tup [.agg ((repI i tw.l).cells.set 25 v),i64 0])∧Nrm0 v (zaq (i.l.l.map (mapR tw.l)))):=by
 refine zaf eRg zae Tryz.func53 rfl (by decide) rfl rfl ?_
 have hl:=tw.h
 conv=>whnf
 repeat' ((first|refine Rq.mk (b:=chk3 _ _ _ _ _ _) (by kernel_rfl) ?_|refine And.intro (a:=zaw _=true) (by kernel_rfl) (LzK.e ?_)|(refine DV.flat rfl (zfe tw i.d hR.1) ?_;rintro _ rfl;refine⟨_,rfl,rfl,?_⟩)|(refine DV.flat rfl (zfe tw i.a hR.2.1) ?_;rintro _ rfl;refine⟨_,rfl,rfl,?_⟩)|(refine DV.flat rfl (zfe tw i.b hR.2.2.1) ?_;rintro _ rfl;refine⟨_,rfl,rfl,?_⟩))<;>conv=>whnf)
 refine zai eRg zae [2,4,5,6,7,28,29] [] 2000 (fun x:{x:Nat×List Int // x.2=(i.l.l.take x.1).map (mapR tw.l)∧x.1≤i.l.l.length}=>[(30,i64 x.1.1),(8,accV 1000 1 (x.1.2.map ic))]) (fun x=>accH 1000 1 (x.1.2.map ic)) [(1000,.slot 8)] (fun x=>i.l.l.length+1 - x.1.1) (⟨(0,[]),rfl,Nat.zero_le _⟩) ?_
 conv=>whnf
 refine⟨?_,fun x=>?_⟩
 · conv => whnf
   (repeat' first|exact True.intro|rfl|apply And.intro )
 rcases x with⟨⟨m,_|⟨y,acc⟩⟩,hm,hmb⟩
 · dsimp only at hm hmb
   have i_len:=congrArg List.length hm;simp only[List.length_nil,List.length_map,List.length_take] at i_len
   conv=>whnf
   repeat' ((first|refine Br.f (b:=Nat.beq _ _) rfl ?_|refine Ok3.mk _ (zam (i:=m) (by omega)) ?_|refine Rq.mk (by(first|rfl|((try simp only[rz]);omega))) ?_|refine Br.split (fun h=>?_) (fun h=>?_)<;>(try simp only[bz] at h)|(refine DC.flat rfl (zfe tw (i.l.l[m]'(by omega)) (hR.2.2.2 _ (List.getElem_mem _))) ?_;rintro _ rfl;refine⟨rfl,?_⟩))<;>conv=>whnf)
   · (refine⟨⟨(m+1,[mapR tw.l (i.l.l[m]'(by omega))]),(by rw[zb2 (by omega),← hm];rfl),(by omega)⟩,(by(conv=>whnf);(repeat' first|exact True.intro|exact zat (by rfl) (by rfl) (by simp) (by rfl)|exact zaj (f:=ic) (fun _=>by rfl)|rfl|apply And.intro|(refine cw ?_ ?_ ?_<;>(try dsimp only)<;>omega) )),rfl,(by(dsimp only);omega)⟩)
   · have e : i.l.l = [] := List.eq_nil_of_length_eq_zero (by omega)
     exact⟨.nils,rfl,by rw[e];exact Nrm0.n⟩
 · dsimp only at hm hmb
   have i_len:=congrArg List.length hm;simp only[List.length_cons,List.length_map,List.length_take] at i_len
   conv=>whnf
   repeat' ((first|refine Br.f (b:=Nat.beq _ _) rfl ?_|refine Rq.mk (zcg 8 100000 (by simp) rfl rfl (by have:=i_len;simp only[List.length_cons,List.length_map,List.length_nil] at this ⊢;omega) (by decide)) ?_|refine Ok3.mk _ (zam (i:=m) (by omega)) ?_|refine Rq.mk (by(first|rfl|((try simp only[rz]);omega))) ?_|refine Br.split (fun h=>?_) (fun h=>?_)<;>(try simp only[bz] at h)|(refine DC.flat rfl (zfe tw (i.l.l[m]'(by omega)) (hR.2.2.2 _ (List.getElem_mem _))) ?_;rintro _ rfl;refine⟨rfl,?_⟩))<;>conv=>whnf)
   · (refine⟨⟨(m+1,y::(acc++[mapR tw.l (i.l.l[m]'(by omega))])),(by rw[zb2 (by omega),← hm];rfl),(by omega)⟩,(by(conv=>whnf);(repeat' first|exact True.intro|exact zat (by rfl) (by rfl) (by simp) (by rfl)|exact za4 (by rfl) (za7 (f:=ic) (fun _=>by rfl) (by rfl) (by simp))|exact zaj (f:=ic) (fun _=>by rfl)|rfl|apply And.intro|(refine cw ?_ ?_ ?_<;>(try dsimp only)<;>omega) )),rfl,(by(dsimp only);omega)⟩)
   · generalize hg2 : snap _ 20 _ = rr
     obtain rfl:=hg2.symm.trans (zd5 (n:=19) (zd2 (n:=18) (zab rfl (zab rfl (zab rfl (zab rfl (zab rfl (zab rfl (zab rfl (zab rfl (zab rfl (zab rfl (zab rfl (zab rfl (zab rfl (zab rfl (zab rfl (zab rfl (zab rfl (zab rfl (zab rfl (zab rfl (zab rfl (zab rfl (zab rfl (zab rfl (zab rfl (zab (zbf (f:=ic) (n:=17) (fun _=>rfl) rfl) rfl))))))))))))))))))))))))))) rfl)
     conv=>whnf
     exact⟨zaq (y::acc),rfl,by rw[hm,List.take_of_length_le (by omega)];exact Nrm0.r⟩
theorem zsk {i:Ins}{v w:AV}(h:Nrm0 v w):nrmL Nrm0 (i.cells.set 25 v) (i.cells.set 25 w):=by
 show nrmL Nrm0 [_,_,_,_,_,_,_,_,_,_,_,_,_,_,_,_,_,_,_,_,_,_,_,_,_,v,_,_,_] [_,_,_,_,_,_,_,_,_,_,_,_,_,_,_,_,_,_,_,_,_,_,_,_,_,w,_,_,_];simp only[nrmL,and_true,true_and];exact⟨.r,.r,.r,.r,.r,.r,.r,.r,.r,.r,.r,.r,.r,.r,.r,.r,.r,.r,.r,.r,.r,.r,.r,.r,.r,h,.r,.r,.r⟩
theorem zfd (i:Ins)(tw:BL Int)(hl40:i.l.l.length≤40)(hR:yk1 i tw.l):DPR 53 [i.av,zaq tw.l] (fun ae=>ae = .ret (.tup [(repI i tw.l).av,i64 0])):=by
 refine(zzf i tw hl40 hR).nrm ?_
 rintro _ ⟨v,rfl,hv⟩
 exact⟨_,.tup [(repI i tw.l).av,i64 0],rfl,.inr ⟨_,_,rfl,rfl,.inr ⟨_,_,rfl,rfl,zsk (i:=repI i tw.l) hv⟩,.r,trivial⟩,rfl⟩
end Go.Ago
end
section
namespace Go.Ago
open Go.Proofs
attribute [local irreducible] ltI leI eqI eqS shrI wr inB mmI comp DC DP DW DV
attribute [local irreducible] ckP ct InR PLc zev zeu zdo zcf ckC zb7 entN zbh za3 bitW EntP
theorem zya {l:List Bd}:((l.map Bd.cells).all fun e=>e.all AV.one)=true:=by simp[AV.one]
theorem zpx {l:List Bd}:((l.map Bd.cells).all fun e=>e.all zgv)=true:=by simp[zgv,znn,zpm]
theorem ybz (b:Bd)(bs:List Bd)(h70:bs.length≤100):DC Tryz.prog ERg 18 [yfj (b::bs)] .nil 0 (fun ae H' _=>ae = .ret (.slc 5 0 (bs.length+1) 2)∧H'.get 5=some (.arr 2 (b.cells::bs.map Bd.cells))):=by
 refine zay eRg zae Tryz.func18 rfl (by decide) rfl rfl ?_
 conv=>whnf
 repeat' ((first|refine Br.f (b:=Nat.beq _ _) rfl ?_|refine Rq.mk zya ?_|refine Rq.mk (zp0 32 102 _ (by simp) rfl rfl (by simp<;>omega) (by simp only[List.length_map,List.length_cons];omega)) ?_)<;>conv=>whnf)
 exact⟨congrArg AE.ret (zat rfl rfl (by simp) rfl),congrArg some (za4 rfl (by simp))⟩
theorem zmv (l:List Bd)(h:l≠[])(h70:l.length≤100):DC Tryz.prog ERg 18 [yfj l] .nil 0 (fun ae H' _=>ae = .ret (.slc 5 0 l.length 2)∧H'.get 5=some (.arr 2 (l.map Bd.cells))):=by
 rcases l with _|⟨b,bs⟩
 · exact absurd rfl h
 · simp only [List.length_cons] at h70
   exact ybz b bs (by omega)
def zh5 (c:Cd)(p:Nat)(bd:Bd):Cd:=⟨c.p,⟨c.b.l.set p bd,by rw[List.length_set];exact c.b.h⟩⟩
theorem zbl {α:Type}{l:List α}{f:α→List AV}{n:Int}(h:n.toNat<l.length):(l.map f)[0+n.toNat]? = some (f l[n.toNat]):=by simp[h]
theorem zp3 (c:Cd)(p:Int)(bd:Bd)(hp:0≤p∧p<c.b.l.length)(h70:c.b.l.length≤100):DPR 44 [c.av,i64 p,bd.av] (fun ae=>ae = .ret (zh5 c p.toNat bd).av):=by
 refine zaf eRg zae Tryz.func44 rfl (by decide) rfl rfl ?_
 have hne:c.b.l≠[]:=fun e=>by rw[e] at hp;simp at hp;omega
 have hl:=c.b.h
 conv=>whnf
 repeat' ((first|refine Rq.mk (b:=chk3 _ _ _ _ _ _) (by kernel_rfl) ?_|refine Rq.mk (by(first|rfl|((try simp only[rz]);omega))) ?_|refine And.intro (a:=zaw _=true) (by kernel_rfl) (LzK.e ?_)|refine zkh rfl (zmv c.b.l hne h70) zpx rfl ?_|refine zap (zbl (by omega)) ?_)<;>conv=>whnf)
 generalize hg:snap _ 20 _=rr
 obtain rfl:=hg.symm.trans (zd2 (n:=19) (zab rfl (zab rfl (zab rfl (zab rfl (zab rfl (zab rfl (zab (zbk (f:=Bd.cells) (l:=c.b.l.set p.toNat bd) (n:=18) (fun _=>rfl) rfl (by rw[List.map_set,Nat.zero_add]) (by rw[List.length_set])) rfl))))))))
 rfl
def MaxS (l:List Int)(x:Nat×Int):Prop:=1≤x.1∧x.1≤l.length∧x.2∈l∧∀(j:Nat) (h:j<l.length),j<x.1→l[j]≤x.2
theorem MaxS.first {l:List Int}(h:0<l.length):MaxS l (1,l[0]):=⟨Nat.le_refl _,h,List.getElem_mem h,fun j hj h1=>by
 have h1:j<1:=h1;obtain rfl:j=0:=by omega
 exact Int.le_refl _⟩
theorem MaxS.step {l:List Int}{m:Nat}{n:Int}(h:MaxS l (m,n))(hm:m<l.length):MaxS l (m+1,max n l[m]):=⟨by omega,hm,by have h2:n∈l:=h.2.2.1;show max n l[m]∈l;rcases Int.le_total n l[m] with h3|h3;rw[Int.max_eq_right h3];exact List.getElem_mem hm;rw[Int.max_eq_left h3];exact h2,fun j hj h1=>by
 have h1:j<m+1:=h1;show l[j]≤max n l[m];rcases Nat.lt_or_ge j m with h2|h2
 · have := h.2.2.2 j hj h2
   have:l[j]≤n:=this;omega
 · obtain rfl : j = m := by omega
   omega⟩
theorem yis (l:BL Int)(h0:0<l.l.length):DPR 52 [zaq l.l] (retI fun n=>n∈l.l∧∀x∈l.l,x≤n):=by
 refine zaf eRg zae Tryz.func52 rfl (by decide) rfl rfl ?_
 have hl:=l.h
 conv=>whnf
 repeat' ((first|refine Rq.mk (by(first|rfl|((try simp only[rz]);omega))) ?_|refine Br.split (fun h=>?_) (fun h=>?_)<;>(try simp only[bz] at h)<;>try (exfalso;omega)|refine Ok3.mk _ (zam (by omega)) ?_)<;>conv=>whnf)
 refine zai eRg zae [0,2] [] 0 (fun x:{x:Nat×Int // MaxS l.l x}=>[(4,i64 x.1.1),(3,i64 x.1.2)]) (fun _=>[]) [] (fun x=>l.l.length+1 - x.1.1) (⟨(1,l.l[0]),MaxS.first h0⟩) ?_
 conv=>whnf
 refine⟨?_,fun x=>?_⟩
 · conv => whnf
   (repeat' first|exact True.intro|rfl|apply And.intro )
 rcases x with⟨⟨m,n⟩,hx⟩
 have hm1:1≤m:=hx.1;have hm2:m≤l.l.length:=hx.2.1
 conv=>whnf
 repeat' ((first|refine Ok3.mk _ (zam (i:=m) (by omega)) ?_|refine Rq.mk (by(first|rfl|((try simp only[rz]);omega))) ?_|refine Br.split (fun h=>?_) (fun h=>?_)<;>(try simp only[bz] at h))<;>conv=>whnf)
 · refine ⟨⟨(m + 1, max n (l.l[m]'(by omega))), hx.step (by omega)⟩, ?_, rfl, (by (dsimp only); omega)⟩
   conv=>whnf
   (repeat' first|exact True.intro|exact congrArg (AV.int .i64) (ygl _ _)|rfl|apply And.intro|(refine cw ?_ ?_ ?_<;>(try dsimp only)<;>omega) )
 · refine ⟨_, rfl, hx.2.2.1, fun x hx' => ?_⟩
   obtain⟨j,hj,rfl⟩:=List.getElem_of_mem hx';exact hx.2.2.2 j hj (by(dsimp only);omega)
theorem ykq (n:Int):DPR 50 [i64 n] (retB fun b=>b=true↔(n<0∨4000≤n)):=by
 refine zaf eRg zae Tryz.func50 rfl (by decide) rfl rfl ?_
 conv=>whnf
 repeat' first
  | (refine Br.split (fun h=>?_) (fun h=>?_)<;>(try simp only[bz] at h)<;>(conv=>whnf))
 all_goals exact⟨_,rfl,by simp only[true_iff,false_iff,Bool.false_eq_true];omega⟩
theorem ykr (n:Int):DPR 50 [i64 n] (retD (n<0∨4000≤n)):=DP.dec (ykq n)
def NoneB (l:List Int)(n:Nat):Prop:=∀(k:Nat) (h:k<l.length),k<n→¬(l[k]<0∨4000≤l[k])
theorem NoneB.nil {l}:NoneB l 0:=fun _ _ h=>absurd h (Nat.not_lt_zero _)
theorem NoneB.step {l:List Int}{n:Nat}(h:NoneB l n)(hn:n<l.length)(h1:¬(l[n]<0∨4000≤l[n])):NoneB l (n+1):=fun k hk hl=>by
 rcases Nat.lt_or_ge k n with h2|h2
 · exact h k hk h2
 · obtain rfl : k = n := by omega
   exact h1
attribute [local irreducible] NoneB
theorem yan (l:BL Int):DPR 93 [zaq l.l,.fn (.func 50) [] []] (retI fun n=>n<0→NoneB l.l l.l.length):=by
 refine zaf eRg zae Tryz.func93 rfl (by decide) rfl rfl ?_
 have hl:=l.h
 conv=>whnf
 refine zai eRg zae [0,1,4,7] [] 0 (fun n:{n:Nat // NoneB l.l n}=>[(8,i64 n.1)]) (fun _=>[]) [] (fun n=>l.l.length+1 - n.1) (⟨0,NoneB.nil⟩) ?_
 conv=>whnf
 refine⟨?_,fun n=>?_⟩
 · conv => whnf
   (repeat' first|exact True.intro|rfl|apply And.intro )
 conv=>whnf
 repeat' ((first|refine Ok3.mk _ (zam (i:=n.1) (by omega)) ?_|refine Rq.mk (by(first|rfl|((try simp only[rz]);omega))) ?_|refine Br.split (fun h=>?_) (fun h=>?_)<;>(try simp only[bz] at h)|(refine zaa rfl (ykr (l.l[n.1]'(by omega))) ?_;rintro _ (⟨rfl,hf⟩|⟨rfl,hf⟩)))<;>conv=>whnf)
 all_goals first|exact⟨_,rfl,fun hh=>by omega⟩|exact⟨_,rfl,fun _=>by unfold NoneB;intro k hk _;have:=n.2;unfold NoneB at this;exact this k hk (by omega)⟩|(refine⟨⟨n.1+1,NoneB.step n.2 (by omega) hf⟩,?_,rfl,?_⟩<;>first|((conv=>whnf);(repeat' first|exact True.intro|rfl|apply And.intro|(refine cw ?_ ?_ ?_<;>(try dsimp only)<;>omega) );done)|((try simp only[List.length_map] at *)<;>omega))
theorem yi7 (l:BL Int):DPR 49 [zaq l.l,.fn (.func 50) [] []] (retB fun b=>b=false→NoneB l.l l.l.length):=by
 refine zaf eRg zae Tryz.func49 rfl (by decide) rfl rfl ?_
 conv=>whnf
 repeat' ((first|refine Br.split (fun h=>?_) (fun h=>?_)<;>(try simp only[bz] at h)|(refine zaa rfl (yan l) ?_;rintro _ ⟨n,rfl,hn⟩))<;>conv=>whnf)
 all_goals first|exact⟨_,rfl,fun _=>hn h⟩|exact⟨_,rfl,fun hh=>absurd hh (by decide)⟩
end Go.Ago
end
