/-
  Part 35: lemmas, each with its own conditions.
-/
import Derived.Test.YthaolifcglpkdaaGreatDoorA34
set_option maxRecDepth 100000
set_option maxHeartbeats 0
set_option linter.all false
section
namespace Go.Ago
open Go.Proofs
attribute [local irreducible] ltI leI eqI eqS shrI wr inB mmI comp DC DP DW DV
attribute [local irreducible] zcs bitW putW zgz orW putL orL nowF nowA nowB inm zas zbn
theorem ydd {m:Nat}:(zcc m).map zh6=List.replicate m [.int .u64 0]:=by simp[zcc]
theorem zl6 (n:Int)(h:0≤n∧n≤64):DC Tryz.prog ERg 78 [i64 n] .nil 0 (fun ae H' _=>ae = .ret (.slc 5 0 ((n.toNat+63) / 64) 1)∧H'.get 5=some (setO (zcc ((n.toNat+63) / 64)))):=by
 refine(yec n ⟨h.1,by omega⟩).mono ?_
 rintro _ H' _ ⟨rfl,h2⟩
 exact⟨rfl,by rw[h2,setO,ydd]⟩
theorem zjs {ws:List W64}:((ws.map zh6).all fun e=>e.all zgv)=true:=zau
theorem zqq {n:Nat}(ws:List W64)(hn:ws.length=n)(r:Int)(h:0≤r∧r<64 * (n:Int))(h1:n≤1):DC Tryz.prog ERg 77 [.slc 0 0 n 1,i64 r] (.put 0 (some (setO ws)) .nil) 1 (fun ae H' _=>ae = .ret (.tup [])∧H'.get 0=some (setO (putW ws r.toNat))):=by
 subst hn;exact yni ⟨ws,by omega⟩ r h
theorem yjt {n:Nat}(ws:List W64)(hn:ws.length=n)(r:Int)(h:0≤r∧r<64 * (n:Int))(h1:n≤1):DC Tryz.prog ERg 82 [.slc 0 0 n 1,i64 r] (.put 0 (some (setO ws)) .nil) 1 (fun ae H' _=>ae = .ret (.tup [])∧H'.get 0=some (setO (zgz ws r.toNat))):=by
 subst hn;exact yju ⟨ws,by omega⟩ r h
theorem zr8 {n:Nat}(a b:List W64)(ha:a.length=n)(hb:b.length=n)(h1:n≤1):DC Tryz.prog ERg 81 [.slc 0 0 n 1,.slc 1 0 n 1] (.put 0 (some (setO a)) (.put 1 (some (setO b)) .nil)) 2
 (fun ae H' _=>ae = .ret (.bool (!decide (orW a b=a)))∧H'.get 0=some (setO (orW a b))∧H'.get 1=some (setO b)):=by
 have:=yph a b (ha.trans hb.symm) (by omega)
 rw[ha,hb] at this;exact this
theorem zr9 {n:Nat}(a b:List W64)(ha:a.length=n)(hb:b.length=n)(h1:n≤1):DC Tryz.prog ERg 81 [.slc 0 0 n 1,.slc 1 0 n 1] (.put 0 (some (setO a)) (.put 1 (some (setO b)) .nil)) 2
 (fun ae H' _=>ae = .ret .any∧H'.get 0=some (setO (orW a b))∧H'.get 1=some (setO b)):=(zr8 a b ha hb h1).anyR (by rintro _ _ _ ⟨rfl,h⟩;exact⟨⟨_,rfl⟩,rfl,h⟩)
abbrev fA:Nat:=1000
def famS (S:List (List W64))(j:Nat):Option AObj:=if h:j<S.length then some (setO S[j]) else none
def zc0 (n nw:Nat):List (List AV):=(List.range n).map fun j=>[AV.slc (inm fA j) 0 nw 1]
attribute [local irreducible] famS
abbrev rowO (g:Gr):AObj := .arr 1 (zc0 (g.ins.l.length+1) (nwg g))
abbrev boxO (g:Gr):AObj := .arr 1 [[.slc 6 0 (g.ins.l.length+1) 1]]
abbrev HL (g:Gr)(S:List (List W64)):zah := .fam fA famN (famS S) (.put 7 (some (boxO g)) (.put 6 (some (rowO g)) (.put 0 (some (.arr 3 [g.cells])) .nil)))
theorem ze8 {n nw k:Nat}{x:Int}(hx:x=(k:Int))(h:k<n):(zc0 n nw)[0+x.toNat]? = some [AV.slc (inm fA k) 0 nw 1]:=by
 subst hx;simp[zc0,h]
theorem zjc {S:List (List W64)}{j:Nat}:famS S j=if h:j<S.length then some (setO S[j]) else none:=by with_unfolding_all rfl
theorem zce {S:List (List W64)}{j:Nat}(h:j<S.length):famS S j=some (setO (rowS S j)):=by
 rw[zjc,dif_pos h];simp[rowS,List.getD,h]
theorem zfx {ws:List W64}{ρ:Nat→Nat}:setO ws=(setO ws).ren ρ:=by simp[setO,AObj.ren,AV.r1,AV.ra,AV.r0,Function.comp_def]
theorem zcb {ws:List W64}{n:Nat}:(setO ws).lt n:=by simp[setO,AObj.lt,AV.l1,AV.la,AV.l0]
theorem zbb {S:List (List W64)}{j n:Nat}{o:AObj}{ρ:Nat→Nat}(h:famS S j=some o):o=o.ren ρ∧o.lt n:=by
 rw[zjc] at h;split at h
 · cases h;exact⟨zfx,zcb⟩
 · cases h
theorem zbi {n nw m:Nat}{l:List (Nat×Nat)}(hA:Nat.ble (fA+famN) m=true)(hn:n≤1001):AObj.arr 1 (zc0 n nw)=(AObj.arr 1 (zc0 n nw)).ren (renF m fA (inm fA) l):=by
 have hA:=Nat.le_of_ble_eq_true hA;have e1:fA=1000:=rfl;have e2:famN=1048576:=rfl;unfold zc0 AObj.ren
 congr 1
 rw[List.map_map];refine List.map_congr_left fun j hj=>?_
 have:=List.mem_range.1 hj;have e:Nat.blt (inm fA j) m=true:=Nat.ble_eq_true_of_le (by unfold inm;omega)
 simp only[Function.comp_def,List.map_cons,List.map_nil,AV.r1,AV.ra,AV.r0,renF,e,cond_true]
theorem zbt {n nw m:Nat}(hA:Nat.ble (fA+famN) m=true)(hn:n≤1001):(AObj.arr 1 (zc0 n nw)).lt m:=by
 have hA:=Nat.le_of_ble_eq_true hA;have e1:fA=1000:=rfl;have e2:famN=1048576:=rfl;show(List.all _ _)=true;unfold zc0;rw[List.all_map,List.all_eq_true];intro j hj;have:=List.mem_range.1 hj;have e:Nat.blt (inm fA j) m=true:=Nat.ble_eq_true_of_le (by unfold inm;omega)
 simp[AV.l1,AV.la,AV.l0,e]
theorem yim {g:Gr}{S:List (List W64)}{k:Nat}(h:k<g.ins.l.length)(hf:zdn g.ins.l[k])(hd:0≤zbg g.ins.l[k]):nowF g S k=zgz (orW (zcc (nwg g)) (rowS S (k+1))) (zbg g.ins.l[k]).toNat:=by
 unfold nowF;rw[dif_pos h,if_pos hf,if_pos hd]
theorem yil {g:Gr}{S:List (List W64)}{k:Nat}(h:k<g.ins.l.length)(hf:zdn g.ins.l[k])(hd:¬0≤zbg g.ins.l[k]):nowF g S k=orW (zcc (nwg g)) (rowS S (k+1)):=by
 unfold nowF;rw[dif_pos h,if_pos hf,if_neg hd]
theorem ynq {g:Gr}{S:List (List W64)}{k:Nat}(h:k<g.ins.l.length)(hf:¬zdn g.ins.l[k]):nowF g S k=zcc (nwg g):=by
 unfold nowF;rw[dif_pos h,if_neg hf]
theorem yns {g:Gr}{S:List (List W64)}{k:Nat}(h:¬k<g.ins.l.length):nowA g S k=zcc (nwg g):=by
 unfold nowA nowF;rw[dif_neg h,dif_neg h]
theorem zlz {z:List W64}{l:List Int}{i:Nat}(h:i<l.length):putW (putL z (l.take i)) (l[i]).toNat=putL z (l.take (i+1)):=by
 unfold putL;rw[List.take_succ_eq_append_getElem h,List.foldl_append];rfl
theorem zlc {S:List (List W64)}{z:List W64}{l:List Int}{i:Nat}(h:i<l.length):orW (orL S z (l.take i)) (rowS S (l[i]).toNat)=orL S z (l.take (i+1)):=by
 unfold orL;rw[List.take_succ_eq_append_getElem h,List.foldl_append];rfl
theorem zz5 {g:Gr}{S:List (List W64)}{k i:Nat}(h:k<g.ins.l.length)(hi:(zbn g.ins.l[k]).length≤i):putL (nowF g S k) ((zbn g.ins.l[k]).take i)=nowA g S k:=by
 unfold nowA;rw[dif_pos h,List.take_of_length_le hi]
theorem ynr {g:Gr}{S:List (List W64)}{k i:Nat}(hi:(zas g k).length≤i):orL S (nowA g S k) ((zas g k).take i)=nowB g S k:=by
 unfold nowB;rw[List.take_of_length_le hi]
theorem ze1 {g:Gr}(hg:GrOK g){S:List (List W64)}(hs:ShS g S){k i:Nat}:(orL S (nowA g S k) ((zas g k).take i)).length=nwg g:=
 zzy (zpa hs) (fun t ht=>zm4 hg hs t (List.mem_of_mem_take ht))
theorem ypm {g:Gr}{S:List (List W64)}{H:zah}(hS:S.length≤2000)(h0:H.get 0=some (.arr 3 [g.cells]))(h6:H.get 6=some (rowO g))(h7:H.get 7=some (boxO g))(hf:∀j,j<S.length→H.get (inm fA j)=some (setO (rowS S j))) :
 ∀j o,(HL g S).get j=some o→H.get j=some o:=by
 intro j o e;rw[Tr.get] at e;cases hb:Nat.ble fA j && Nat.blt j (fA+famN) with
 | true =>
   rw[hb] at e;simp only[cond_true] at e;simp only[Bool.and_eq_true] at hb;have h1:=Nat.le_of_ble_eq_true hb.1
   by_cases hj:j - fA<S.length
   · rw [zce hj] at e
     have:=hf _ hj;rw[show inm fA (j - fA)=j by unfold inm;omega] at this
     rw[this];exact e
   · rw[zjc] at e;rw[dif_neg hj] at e;cases e
 | false =>
   rw[hb] at e;simp only[cond_false] at e;rw[Tr.get] at e;cases b:Nat.beq j 7 with
   | true=>rw[b] at e;rw[Nat.eq_of_beq_eq_true b,h7];exact e
   | false =>
     rw[b] at e;simp only[cond_false] at e;rw[Tr.get] at e;cases b:Nat.beq j 6 with
     | true=>rw[b] at e;rw[Nat.eq_of_beq_eq_true b,h6];exact e
     | false =>
       rw[b] at e;simp only[cond_false] at e;rw[Tr.get] at e;cases b:Nat.beq j 0 with
       | true=>rw[b] at e;rw[Nat.eq_of_beq_eq_true b,h0];exact e
       | false=>rw[b] at e;cases e
theorem yep {A i n:Nat}{v:Option AObj}{t:zah}{o:Option AObj}(hi:i<famN)(h:Nat.blt n A=true)(e:t.get n=o):(Tr.put (inm A i) v t).get n=o:=by
 have h:=Nat.le_of_ble_eq_true h;have:Nat.beq n (inm A i)=false:=by
  cases e:Nat.beq n (inm A i) with
  | false=>rfl
  | true=>have:=Nat.eq_of_beq_eq_true e;unfold inm at this;omega
 rw[Tr.get,this];exact e
theorem yeq {A i:Nat}{o:AObj}{t:zah}:(Tr.put (inm A i) (some o) t).get (inm A i)=some o:=by
 rw[Tr.get,show Nat.beq (inm A i) (inm A i)=true from Nat.beq_refl _];rfl
theorem zv0 {A i j:Nat}{v:Option AObj}{t:zah}{o:Option AObj}(h:j≠i)(e:t.get (inm A j)=o):(Tr.put (inm A i) v t).get (inm A j)=o:=by
 have:Nat.beq (inm A j) (inm A i)=false:=by
  cases e:Nat.beq (inm A j) (inm A i) with
  | false=>rfl
  | true=>have:=Nat.eq_of_beq_eq_true e;unfold inm at this;omega
 rw[Tr.get,this];exact e
theorem zou {i:Ins}(h:i.l.l.length≤40):(zbn i).length≤42:=by
 rw[show zbn i=(if hasB i.op 65=true∧i.a≠-1 then [i.a] else [])++(if hasB i.op 66=true∧i.b≠-1 then [i.b] else [])++(if hasB i.op 76=true then i.l.l else []) by with_unfolding_all rfl]
 (repeat' split)<;>simp only[List.length_append,List.length_cons,List.length_nil,List.nil_append,List.cons_append]<;>omega
theorem zxr {p:Prop}[Decidable p](h:p):(!decide p)=false:=by simp[h]
theorem zxs {p:Prop}[Decidable p](h:¬p):(!decide p)=true:=by simp[h]
theorem ze2 {a b:List W64}{ρ:Nat→Nat}(h:b=a):setO a=(setO b).ren ρ:=by subst h;exact zfx
theorem zzj {z:List W64}{l:List Int}:putL z (l.take 0)=z:=by with_unfolding_all rfl
theorem yd5 {S:List (List W64)}{z:List W64}{l:List Int}:orL S z (l.take 0)=z:=by with_unfolding_all rfl
theorem zwh {g:Gr}(hg:GrOK g){k j:Nat}(h:j<(zas g k).length):inB ((zas g k)[j]) (g.ins.l.length+1)=true:=by
 have:=zln hg _ (List.getElem_mem h);simp only[zhw];omega
theorem ze5 {g:Gr}(hg:GrOK g){S:List (List W64)}(hs:ShS g S){k j:Nat}(hk:k≤g.ins.l.length)(hF:famN=1048576){b:Bool}{H':zah}{n M:Nat}(hj:(zas g k).length≤j)
 (hb:(!decide (orW (rowS S k) (orL S (nowA g S k) ((zas g k).take j))=rowS S k))=b)(hn:n≤M)
 (hH:∃H:zah,H' = .put (inm fA k) (some (setO (orW (rowS S k) (orL S (nowA g S k) ((zas g k).take j))))) (.fam fA famN (famS S) H)∧(H.get 0,H.get 6,H.get 7)=(some (.arr 3 [g.cells]),some (rowO g),some (boxO g))) :
 AE.ret (.bool b)=AE.ret (.bool (!decide (orW (rowS S k) (nowB g S k)=rowS S k)))∧n≤M∧∀j o,(HL g (zdp g S k)).get j=some o→H'.get j=some o:=by
 obtain⟨H,hH,h3⟩:=hH;rw[ynr hj] at hb hH;simp only[Prod.mk.injEq] at h3;obtain⟨h30,h36,h37⟩:=h3;have hfew:=hg.few;have hF1:fA=1000:=rfl;have sk:∀n,n<1000→H'.get n=H.get n:=fun n hn=>by
  rw[hH];refine yep (by omega) (Nat.ble_eq_true_of_le (by omega)) ?_
  rw[Tr.get,show Nat.ble fA n=false from ?_]
  · rfl
  · cases e : Nat.ble fA n with
    | false=>rfl
    | true=>have:=Nat.le_of_ble_eq_true e;omega
 refine⟨by rw[hb],hn,ypm (S:=zdp g S k) (by rw[zdp,List.length_set,hs.len];omega) ((sk 0 (by decide)).trans h30) ((sk 6 (by decide)).trans h36) ((sk 7 (by decide)).trans h37) (fun i hi=>?_)⟩
 rw[zdp,List.length_set,hs.len] at hi;rw[zut hs hk,hH]
 by_cases hik:i=k
 · subst hik;rw[if_pos rfl];exact yeq
 · rw [if_neg hik]
   exact zv0 hik ((zdx (by omega)).trans (zce (by rw[hs.len];omega)))
theorem znm (g:Gr)(hg:GrOK g)(S:List (List W64))(hs:ShS g S)(k:Nat)(hk:k≤g.ins.l.length):DC Tryz.prog ERg 80 [i64 k,.ptr 0 0 0,.ptr 7 0 0] (HL g S) 5000000 (fun ae H' n=>ae = .ret (.bool (!decide (orW (rowS S k) (nowB g S k)=rowS S k)))∧n≤5500000∧∀j o,(HL g (zdp g S k)).get j=some o→H'.get j=some o):=by
 refine zay eRg zae Tryz.func80 rfl (by decide) rfl rfl ?_
 have hil:=g.ins.h;have hF:famN=1048576:=rfl;have hfew:=hg.few;have hregs:=hg.regs;have hnw:=zkc hg;have hge:=zef hg;have hsl:=hs.len;have hwk:wr .i64 ((k:Int)+1)=((k+1:Nat):Int):=by rw[wr64 (by omega) (by omega)];omega
 have hzl:=@zdk (nwg g);have hal:=ycx hg (k:=k);have hat:∀t∈zas g k,t=(t.toNat:Int):=fun t ht=>by have:=zln hg t ht;omega
 have hat2:∀t∈zas g k,t.toNat<g.ins.l.length+1:=fun t ht=>by have:=zln hg t ht;omega
 conv=>whnf
 repeat' ((first|refine Rq.mk (by(first|rfl|((try simp only[rz]);omega))) ?_|refine Br.split (fun h=>?_) (fun h=>?_)<;>(try simp only[bz] at h)|refine Ok3.mk _ (zam (by omega)) ?_|(refine zaa rfl (ztk (g.ins.l[k]'(by omega))) ?_;rintro _ (⟨rfl,hf⟩|⟨rfl,hf⟩))|(refine zaa rfl (znt (g.ins.l[k]'(by omega))) ?_;rintro _ rfl)|(refine zaa rfl (yfz (g.ins.l[k]'(by omega)) (hg.lst _ (List.getElem_mem _))) ?_;rintro _ rfl)|(refine zaa rfl (zpy g hg k hk) ?_;rintro _ rfl)|refine yc6 rfl (zl6 g.regs hregs) zjs rfl ?_|refine zap (ze8 hwk (by omega)) ?_|(refine zdy (k:=5000005) (l:=inm fA (k+1)) (zr9 (zcc (nwg g)) (rowS S (k+1)) hzl (zbd hs (by omega)) hnw) rfl rfl (zdt (by omega) rfl) rfl (by(exact ya1 (by omega) rfl (ya1 (by omega) rfl (ya1 (by omega) rfl ((zdx (by omega)).trans (zce (by rw[hs.len];omega))))))) zau zau ?_;rintro _ H' _ ⟨rfl,h0,h1⟩;refine⟨rfl,_,h0,h1,zau,?_⟩)|(refine zeb (k:=5000005) (yjt (orW (zcc (nwg g)) (rowS S (k+1))) (by rw[zh8 (by rw[hzl,zbd hs (by omega)]),hzl]) (zbg (g.ins.l[k]'(by omega))) ⟨by omega,by have:=hg.sets _ (List.getElem_mem (by omega:k<g.ins.l.length));omega⟩ hnw) rfl rfl rfl zau ?_;rintro _ H' _ ⟨rfl,h0⟩;refine⟨rfl,_,h0,zau,?_⟩))<;>conv=>whnf)
 · have hlt : k < g.ins.l.length := by omega
   have hul:=zou (hg.lst _ (List.getElem_mem hlt));refine zcr eRg zae [0,1,2,4,5,42,43] [5000005] 10000 fA (fun i:{i:Nat // i≤(zbn (g.ins.l[k]'(by omega))).length}=>[(44,i64 i.1)]) (fun i=>[(5000005,setO (putL (nowF g S k) ((zbn (g.ins.l[k]'(by omega))).take i.1)))]) (fun _=>famS S) [] (fun i=>(zbn (g.ins.l[k]'(by omega))).length+1 - i.1) (⟨0,Nat.zero_le _⟩) ?_
   conv=>whnf
   refine⟨⟨_,FamW.inner rfl rfl (by(repeat' (first|exact zbe|(refine za5 (x:=?_) ?_ ?_ ?_ ?_;rotate_left;exact rfl;((conv=>rhs;whnf)<;>(first|(refine zdq (zax ?_);exact rfl)|(refine zec (zax ?_);exact rfl)|rfl ));(first|(refine zb5 ?_;exact rfl)|(refine zcl ?_;exact rfl)|rfl))))) (by(repeat' (first|exact za6|(refine za0 (x:=?_) ?_ ?_ ?_ ?_ ?_ ?_;rotate_left;exact rfl;exact rfl;exact rfl;(first|(refine zbi ?_ ?_<;>first|rfl|omega)|(refine ze2 ?_;exact(zzj).trans (yim hlt hf h))|rfl);(first|exact zcb|(refine zbt ?_ ?_<;>first|rfl|omega)|rfl))))) rfl (by(intro j o hj hg0;(repeat' first|exact zbo hj hg0 (zbb hg0)|(refine zeg hj ?_ ?_;(rfl )) ))) rfl⟩,fun i=>?_⟩
   conv=>whnf
   repeat' ((first|refine Rq.mk (by(first|rfl|((try simp only[rz]);omega))) ?_|refine Br.split (fun h=>?_) (fun h=>?_)<;>(try simp only[bz] at h)|refine Ok3.mk _ (zam (by omega)) ?_|(refine zaa rfl (zpy g hg k hk) ?_;rintro _ rfl)|(refine zeb (k:=5000005) (zqq (putL (nowF g S k) ((zbn (g.ins.l[k]'(by omega))).take i.1)) (by rw[zk7,zhk hs]) ((zbn (g.ins.l[k]'(by omega)))[i.1]'(by omega)) ⟨by have:=hg.uses _ (List.getElem_mem hlt) _ (List.getElem_mem (by omega:i.1<(zbn (g.ins.l[k]'(by omega))).length));omega,by have:=hg.uses _ (List.getElem_mem hlt) _ (List.getElem_mem (by omega:i.1<(zbn (g.ins.l[k]'(by omega))).length));omega⟩ hnw) rfl rfl rfl zau ?_;rintro _ H' _ ⟨rfl,h0⟩;refine⟨rfl,_,h0,zau,?_⟩))<;>conv=>whnf)
   all_goals first
    | (have hi : i.1 < (zbn (g.ins.l[k]'(by omega))).length := by omega
       refine⟨⟨i.1+1,hi⟩,_,FamW.inner rfl rfl (by(repeat' (first|exact zbe|(refine za5 (x:=?_) ?_ ?_ ?_ ?_;rotate_left;exact rfl;((conv=>rhs;whnf)<;>(first|(refine zdq (zax ?_);exact rfl)|(refine zec (zax ?_);exact rfl)|(refine congrArg (AV.int IntKind.i64) ?_;(try dsimp only);refine(wr64 (by omega) (by omega)).trans ?_;omega)));(first|(refine zb5 ?_;exact rfl)|(refine zcl ?_;exact rfl)|rfl))))) (by(repeat' (first|exact za6|(refine za0 (x:=?_) ?_ ?_ ?_ ?_ ?_ ?_;rotate_left;exact rfl;exact rfl;exact rfl;(first|(refine zbi ?_ ?_<;>first|rfl|omega)|(refine ze2 ?_;exact(zlz hi).symm)|rfl);(first|exact zcb|(refine zbt ?_ ?_<;>first|rfl|omega)|rfl))))) rfl (by(intro j o hj hg0;(repeat' first|exact zbo hj hg0 (zbb hg0)|(refine zeg hj ?_ ?_;(rfl )) ))) rfl,rfl,?_⟩
       dsimp only;omega)
    | skip
   refine zcr eRg zae [0,2,4,5,54,55] [5000005] 10000 fA (fun j:{j:Nat // j≤(zas g k).length}=>[(56,i64 j.1)]) (fun j=>[(5000005,setO (orL S (nowA g S k) ((zas g k).take j.1)))]) (fun _=>famS S) [] (fun j=>(zas g k).length+1 - j.1) (⟨0,Nat.zero_le _⟩) ?_
   conv=>whnf
   refine⟨⟨_,FamW.inner rfl rfl (by(repeat' (first|exact zbe|(refine za5 (x:=?_) ?_ ?_ ?_ ?_;rotate_left;exact rfl;((conv=>rhs;whnf)<;>(first|(refine zdq (zax ?_);exact rfl)|(refine zec (zax ?_);exact rfl)|rfl ));(first|(refine zb5 ?_;exact rfl)|(refine zcl ?_;exact rfl)|rfl))))) (by(repeat' (first|exact za6|(refine za0 (x:=?_) ?_ ?_ ?_ ?_ ?_ ?_;rotate_left;exact rfl;exact rfl;exact rfl;(first|(refine zbi ?_ ?_<;>first|rfl|omega)|(refine ze2 ?_;exact(yd5).trans (zz5 hlt (by omega)).symm)|rfl);(first|exact zcb|(refine zbt ?_ ?_<;>first|rfl|omega)|rfl))))) rfl (by(intro j o hj hg0;(repeat' exact zbo hj hg0 (zbb hg0) ))) rfl⟩,fun j=>?_⟩
   conv=>whnf
   repeat' ((first|refine Rq.mk (zwh hg (by omega)) ?_|refine Rq.mk (by(first|rfl|((try simp only[rz]);omega))) ?_|refine Br.split (fun h=>?_) (fun h=>?_)<;>(try simp only[bz] at h)|refine zag (fun h=>?_) (fun h=>?_)<;>(try simp only[bz] at h)|refine Ok3.mk _ (zam (by omega)) ?_|refine zap (ze8 (hat _ (List.getElem_mem (by omega:j.1<(zas g k).length))) (hat2 _ (List.getElem_mem (by omega:j.1<(zas g k).length)))) ?_|refine zap (ze8 (k:=k) rfl (by omega)) ?_|(refine zdy (k:=5000005) (l:=inm fA ((zas g k)[j.1]'(by omega)).toNat) (zr9 (orL S (nowA g S k) ((zas g k).take j.1)) (rowS S ((zas g k)[j.1]'(by omega)).toNat) (ze1 hg hs) (zbd hs (by have:=hat2 _ (List.getElem_mem (by omega:j.1<(zas g k).length));omega)) hnw) rfl rfl (zdt (by have:=hat2 _ (List.getElem_mem (by omega:j.1<(zas g k).length));omega) rfl) rfl (by(exact zdx (by have:=hat2 _ (List.getElem_mem (by omega:j.1<(zas g k).length));omega) |>.trans (zce (by have:=hat2 _ (List.getElem_mem (by omega:j.1<(zas g k).length));rw[hs.len];omega))) ) zau zau ?_;rintro _ H' _ ⟨rfl,h0,h1⟩;refine⟨rfl,_,h0,h1,zau,?_⟩)|(refine zdy (k:=inm fA k) (l:=5000005) (zr8 (rowS S k) (orL S (nowA g S k) ((zas g k).take j.1)) (zbd hs hk) (ze1 hg hs) hnw) rfl rfl (Ne.symm (zdt (by omega) rfl)) (by(exact zdx (by omega) |>.trans (zce (by rw[hs.len];omega))) ) rfl zau zau ?_;rintro _ H' _ ⟨rfl,h0,h1⟩;refine⟨rfl,_,h0,h1,zau,?_⟩))<;>conv=>whnf)
   all_goals first
    | (have hj : j.1 < (zas g k).length := by omega
       refine⟨⟨j.1+1,hj⟩,_,FamW.inner rfl rfl (by(repeat' (first|exact zbe|(refine za5 (x:=?_) ?_ ?_ ?_ ?_;rotate_left;exact rfl;((conv=>rhs;whnf)<;>(first|(refine zdq (zax ?_);exact rfl)|(refine zec (zax ?_);exact rfl)|(refine congrArg (AV.int IntKind.i64) ?_;(try dsimp only);refine(wr64 (by omega) (by omega)).trans ?_;omega)));(first|(refine zb5 ?_;exact rfl)|(refine zcl ?_;exact rfl)|rfl))))) (by(repeat' (first|exact za6|(refine za0 (x:=?_) ?_ ?_ ?_ ?_ ?_ ?_;rotate_left;exact rfl;exact rfl;exact rfl;(first|(refine zbi ?_ ?_<;>first|rfl|omega)|(refine ze2 ?_;exact(zlc hj).symm)|rfl);(first|exact zcb|(refine zbt ?_ ?_<;>first|rfl|omega)|rfl))))) rfl (by(intro j o hj hg0;(repeat' first|exact zbo hj hg0 (zbb hg0)|(refine zeg hj ?_ ?_;(rfl )) ))) rfl,rfl,?_⟩
       dsimp only;omega)
    | (refine ze5 hg hs hk hF (j:=j.1) (by omega) (zxr ?_) ?_ ?_;exact h;exact Nat.le_of_ble_eq_true rfl;exact⟨_,rfl,rfl⟩)
    | (refine ze5 hg hs hk hF (j:=j.1) (by omega) (zxs ?_) ?_ ?_;exact h;exact Nat.le_of_ble_eq_true rfl;exact⟨_,rfl,rfl⟩)
 · have hlt : k < g.ins.l.length := by omega
   have hul:=zou (hg.lst _ (List.getElem_mem hlt));refine zcr eRg zae [0,1,2,4,5,42,43] [5000005] 10000 fA (fun i:{i:Nat // i≤(zbn (g.ins.l[k]'(by omega))).length}=>[(44,i64 i.1)]) (fun i=>[(5000005,setO (putL (nowF g S k) ((zbn (g.ins.l[k]'(by omega))).take i.1)))]) (fun _=>famS S) [] (fun i=>(zbn (g.ins.l[k]'(by omega))).length+1 - i.1) (⟨0,Nat.zero_le _⟩) ?_
   conv=>whnf
   refine⟨⟨_,FamW.inner rfl rfl (by(repeat' (first|exact zbe|(refine za5 (x:=?_) ?_ ?_ ?_ ?_;rotate_left;exact rfl;((conv=>rhs;whnf)<;>(first|(refine zdq (zax ?_);exact rfl)|(refine zec (zax ?_);exact rfl)|rfl ));(first|(refine zb5 ?_;exact rfl)|(refine zcl ?_;exact rfl)|rfl))))) (by(repeat' (first|exact za6|(refine za0 (x:=?_) ?_ ?_ ?_ ?_ ?_ ?_;rotate_left;exact rfl;exact rfl;exact rfl;(first|(refine zbi ?_ ?_<;>first|rfl|omega)|(refine ze2 ?_;exact(zzj).trans (yil hlt hf (Int.not_le.2 h)))|rfl);(first|exact zcb|(refine zbt ?_ ?_<;>first|rfl|omega)|rfl))))) rfl (by(intro j o hj hg0;(repeat' first|exact zbo hj hg0 (zbb hg0)|(refine zeg hj ?_ ?_;(rfl )) ))) rfl⟩,fun i=>?_⟩
   conv=>whnf
   repeat' ((first|refine Rq.mk (by(first|rfl|((try simp only[rz]);omega))) ?_|refine Br.split (fun h=>?_) (fun h=>?_)<;>(try simp only[bz] at h)|refine Ok3.mk _ (zam (by omega)) ?_|(refine zaa rfl (zpy g hg k hk) ?_;rintro _ rfl)|(refine zeb (k:=5000005) (zqq (putL (nowF g S k) ((zbn (g.ins.l[k]'(by omega))).take i.1)) (by rw[zk7,zhk hs]) ((zbn (g.ins.l[k]'(by omega)))[i.1]'(by omega)) ⟨by have:=hg.uses _ (List.getElem_mem hlt) _ (List.getElem_mem (by omega:i.1<(zbn (g.ins.l[k]'(by omega))).length));omega,by have:=hg.uses _ (List.getElem_mem hlt) _ (List.getElem_mem (by omega:i.1<(zbn (g.ins.l[k]'(by omega))).length));omega⟩ hnw) rfl rfl rfl zau ?_;rintro _ H' _ ⟨rfl,h0⟩;refine⟨rfl,_,h0,zau,?_⟩))<;>conv=>whnf)
   all_goals first
    | (have hi : i.1 < (zbn (g.ins.l[k]'(by omega))).length := by omega
       refine⟨⟨i.1+1,hi⟩,_,FamW.inner rfl rfl (by(repeat' (first|exact zbe|(refine za5 (x:=?_) ?_ ?_ ?_ ?_;rotate_left;exact rfl;((conv=>rhs;whnf)<;>(first|(refine zdq (zax ?_);exact rfl)|(refine zec (zax ?_);exact rfl)|(refine congrArg (AV.int IntKind.i64) ?_;(try dsimp only);refine(wr64 (by omega) (by omega)).trans ?_;omega)));(first|(refine zb5 ?_;exact rfl)|(refine zcl ?_;exact rfl)|rfl))))) (by(repeat' (first|exact za6|(refine za0 (x:=?_) ?_ ?_ ?_ ?_ ?_ ?_;rotate_left;exact rfl;exact rfl;exact rfl;(first|(refine zbi ?_ ?_<;>first|rfl|omega)|(refine ze2 ?_;exact(zlz hi).symm)|rfl);(first|exact zcb|(refine zbt ?_ ?_<;>first|rfl|omega)|rfl))))) rfl (by(intro j o hj hg0;(repeat' first|exact zbo hj hg0 (zbb hg0)|(refine zeg hj ?_ ?_;(rfl )) ))) rfl,rfl,?_⟩
       dsimp only;omega)
    | skip
   refine zcr eRg zae [0,2,4,5,54,55] [5000005] 10000 fA (fun j:{j:Nat // j≤(zas g k).length}=>[(56,i64 j.1)]) (fun j=>[(5000005,setO (orL S (nowA g S k) ((zas g k).take j.1)))]) (fun _=>famS S) [] (fun j=>(zas g k).length+1 - j.1) (⟨0,Nat.zero_le _⟩) ?_
   conv=>whnf
   refine⟨⟨_,FamW.inner rfl rfl (by(repeat' (first|exact zbe|(refine za5 (x:=?_) ?_ ?_ ?_ ?_;rotate_left;exact rfl;((conv=>rhs;whnf)<;>(first|(refine zdq (zax ?_);exact rfl)|(refine zec (zax ?_);exact rfl)|rfl ));(first|(refine zb5 ?_;exact rfl)|(refine zcl ?_;exact rfl)|rfl))))) (by(repeat' (first|exact za6|(refine za0 (x:=?_) ?_ ?_ ?_ ?_ ?_ ?_;rotate_left;exact rfl;exact rfl;exact rfl;(first|(refine zbi ?_ ?_<;>first|rfl|omega)|(refine ze2 ?_;exact(yd5).trans (zz5 hlt (by omega)).symm)|rfl);(first|exact zcb|(refine zbt ?_ ?_<;>first|rfl|omega)|rfl))))) rfl (by(intro j o hj hg0;(repeat' exact zbo hj hg0 (zbb hg0) ))) rfl⟩,fun j=>?_⟩
   conv=>whnf
   repeat' ((first|refine Rq.mk (zwh hg (by omega)) ?_|refine Rq.mk (by(first|rfl|((try simp only[rz]);omega))) ?_|refine Br.split (fun h=>?_) (fun h=>?_)<;>(try simp only[bz] at h)|refine zag (fun h=>?_) (fun h=>?_)<;>(try simp only[bz] at h)|refine Ok3.mk _ (zam (by omega)) ?_|refine zap (ze8 (hat _ (List.getElem_mem (by omega:j.1<(zas g k).length))) (hat2 _ (List.getElem_mem (by omega:j.1<(zas g k).length)))) ?_|refine zap (ze8 (k:=k) rfl (by omega)) ?_|(refine zdy (k:=5000005) (l:=inm fA ((zas g k)[j.1]'(by omega)).toNat) (zr9 (orL S (nowA g S k) ((zas g k).take j.1)) (rowS S ((zas g k)[j.1]'(by omega)).toNat) (ze1 hg hs) (zbd hs (by have:=hat2 _ (List.getElem_mem (by omega:j.1<(zas g k).length));omega)) hnw) rfl rfl (zdt (by have:=hat2 _ (List.getElem_mem (by omega:j.1<(zas g k).length));omega) rfl) rfl (by(exact zdx (by have:=hat2 _ (List.getElem_mem (by omega:j.1<(zas g k).length));omega) |>.trans (zce (by have:=hat2 _ (List.getElem_mem (by omega:j.1<(zas g k).length));rw[hs.len];omega))) ) zau zau ?_;rintro _ H' _ ⟨rfl,h0,h1⟩;refine⟨rfl,_,h0,h1,zau,?_⟩)|(refine zdy (k:=inm fA k) (l:=5000005) (zr8 (rowS S k) (orL S (nowA g S k) ((zas g k).take j.1)) (zbd hs hk) (ze1 hg hs) hnw) rfl rfl (Ne.symm (zdt (by omega) rfl)) (by(exact zdx (by omega) |>.trans (zce (by rw[hs.len];omega))) ) rfl zau zau ?_;rintro _ H' _ ⟨rfl,h0,h1⟩;refine⟨rfl,_,h0,h1,zau,?_⟩))<;>conv=>whnf)
   all_goals first
    | (have hj : j.1 < (zas g k).length := by omega
       refine⟨⟨j.1+1,hj⟩,_,FamW.inner rfl rfl (by(repeat' (first|exact zbe|(refine za5 (x:=?_) ?_ ?_ ?_ ?_;rotate_left;exact rfl;((conv=>rhs;whnf)<;>(first|(refine zdq (zax ?_);exact rfl)|(refine zec (zax ?_);exact rfl)|(refine congrArg (AV.int IntKind.i64) ?_;(try dsimp only);refine(wr64 (by omega) (by omega)).trans ?_;omega)));(first|(refine zb5 ?_;exact rfl)|(refine zcl ?_;exact rfl)|rfl))))) (by(repeat' (first|exact za6|(refine za0 (x:=?_) ?_ ?_ ?_ ?_ ?_ ?_;rotate_left;exact rfl;exact rfl;exact rfl;(first|(refine zbi ?_ ?_<;>first|rfl|omega)|(refine ze2 ?_;exact(zlc hj).symm)|rfl);(first|exact zcb|(refine zbt ?_ ?_<;>first|rfl|omega)|rfl))))) rfl (by(intro j o hj hg0;(repeat' first|exact zbo hj hg0 (zbb hg0)|(refine zeg hj ?_ ?_;(rfl )) ))) rfl,rfl,?_⟩
       dsimp only;omega)
    | (refine ze5 hg hs hk hF (j:=j.1) (by omega) (zxr ?_) ?_ ?_;exact h;exact Nat.le_of_ble_eq_true rfl;exact⟨_,rfl,rfl⟩)
    | (refine ze5 hg hs hk hF (j:=j.1) (by omega) (zxs ?_) ?_ ?_;exact h;exact Nat.le_of_ble_eq_true rfl;exact⟨_,rfl,rfl⟩)
 · have hlt : k < g.ins.l.length := by omega
   have hul:=zou (hg.lst _ (List.getElem_mem hlt));refine zcr eRg zae [0,1,2,4,5,42,43] [5000005] 10000 fA (fun i:{i:Nat // i≤(zbn (g.ins.l[k]'(by omega))).length}=>[(44,i64 i.1)]) (fun i=>[(5000005,setO (putL (nowF g S k) ((zbn (g.ins.l[k]'(by omega))).take i.1)))]) (fun _=>famS S) [] (fun i=>(zbn (g.ins.l[k]'(by omega))).length+1 - i.1) (⟨0,Nat.zero_le _⟩) ?_
   conv=>whnf
   refine⟨⟨_,FamW.inner rfl rfl (by(repeat' (first|exact zbe|(refine za5 (x:=?_) ?_ ?_ ?_ ?_;rotate_left;exact rfl;((conv=>rhs;whnf)<;>(first|(refine zdq (zax ?_);exact rfl)|(refine zec (zax ?_);exact rfl)|rfl ));(first|(refine zb5 ?_;exact rfl)|(refine zcl ?_;exact rfl)|rfl))))) (by(repeat' (first|exact za6|(refine za0 (x:=?_) ?_ ?_ ?_ ?_ ?_ ?_;rotate_left;exact rfl;exact rfl;exact rfl;(first|(refine zbi ?_ ?_<;>first|rfl|omega)|(refine ze2 ?_;exact(zzj).trans (ynq hlt hf))|rfl);(first|exact zcb|(refine zbt ?_ ?_<;>first|rfl|omega)|rfl))))) rfl (by(intro j o hj hg0;(repeat' first|exact zbo hj hg0 (zbb hg0)|(refine zeg hj ?_ ?_;(rfl )) ))) rfl⟩,fun i=>?_⟩
   conv=>whnf
   repeat' ((first|refine Rq.mk (by(first|rfl|((try simp only[rz]);omega))) ?_|refine Br.split (fun h=>?_) (fun h=>?_)<;>(try simp only[bz] at h)|refine Ok3.mk _ (zam (by omega)) ?_|(refine zaa rfl (zpy g hg k hk) ?_;rintro _ rfl)|(refine zeb (k:=5000005) (zqq (putL (nowF g S k) ((zbn (g.ins.l[k]'(by omega))).take i.1)) (by rw[zk7,zhk hs]) ((zbn (g.ins.l[k]'(by omega)))[i.1]'(by omega)) ⟨by have:=hg.uses _ (List.getElem_mem hlt) _ (List.getElem_mem (by omega:i.1<(zbn (g.ins.l[k]'(by omega))).length));omega,by have:=hg.uses _ (List.getElem_mem hlt) _ (List.getElem_mem (by omega:i.1<(zbn (g.ins.l[k]'(by omega))).length));omega⟩ hnw) rfl rfl rfl zau ?_;rintro _ H' _ ⟨rfl,h0⟩;refine⟨rfl,_,h0,zau,?_⟩))<;>conv=>whnf)
   all_goals first
    | (have hi : i.1 < (zbn (g.ins.l[k]'(by omega))).length := by omega
       refine⟨⟨i.1+1,hi⟩,_,FamW.inner rfl rfl (by(repeat' (first|exact zbe|(refine za5 (x:=?_) ?_ ?_ ?_ ?_;rotate_left;exact rfl;((conv=>rhs;whnf)<;>(first|(refine zdq (zax ?_);exact rfl)|(refine zec (zax ?_);exact rfl)|(refine congrArg (AV.int IntKind.i64) ?_;(try dsimp only);refine(wr64 (by omega) (by omega)).trans ?_;omega)));(first|(refine zb5 ?_;exact rfl)|(refine zcl ?_;exact rfl)|rfl))))) (by(repeat' (first|exact za6|(refine za0 (x:=?_) ?_ ?_ ?_ ?_ ?_ ?_;rotate_left;exact rfl;exact rfl;exact rfl;(first|(refine zbi ?_ ?_<;>first|rfl|omega)|(refine ze2 ?_;exact(zlz hi).symm)|rfl);(first|exact zcb|(refine zbt ?_ ?_<;>first|rfl|omega)|rfl))))) rfl (by(intro j o hj hg0;(repeat' first|exact zbo hj hg0 (zbb hg0)|(refine zeg hj ?_ ?_;(rfl )) ))) rfl,rfl,?_⟩
       dsimp only;omega)
    | skip
   refine zcr eRg zae [0,2,4,5,54,55] [5000005] 10000 fA (fun j:{j:Nat // j≤(zas g k).length}=>[(56,i64 j.1)]) (fun j=>[(5000005,setO (orL S (nowA g S k) ((zas g k).take j.1)))]) (fun _=>famS S) [] (fun j=>(zas g k).length+1 - j.1) (⟨0,Nat.zero_le _⟩) ?_
   conv=>whnf
   refine⟨⟨_,FamW.inner rfl rfl (by(repeat' (first|exact zbe|(refine za5 (x:=?_) ?_ ?_ ?_ ?_;rotate_left;exact rfl;((conv=>rhs;whnf)<;>(first|(refine zdq (zax ?_);exact rfl)|(refine zec (zax ?_);exact rfl)|rfl ));(first|(refine zb5 ?_;exact rfl)|(refine zcl ?_;exact rfl)|rfl))))) (by(repeat' (first|exact za6|(refine za0 (x:=?_) ?_ ?_ ?_ ?_ ?_ ?_;rotate_left;exact rfl;exact rfl;exact rfl;(first|(refine zbi ?_ ?_<;>first|rfl|omega)|(refine ze2 ?_;exact(yd5).trans (zz5 hlt (by omega)).symm)|rfl);(first|exact zcb|(refine zbt ?_ ?_<;>first|rfl|omega)|rfl))))) rfl (by(intro j o hj hg0;(repeat' exact zbo hj hg0 (zbb hg0) ))) rfl⟩,fun j=>?_⟩
   conv=>whnf
   repeat' ((first|refine Rq.mk (zwh hg (by omega)) ?_|refine Rq.mk (by(first|rfl|((try simp only[rz]);omega))) ?_|refine Br.split (fun h=>?_) (fun h=>?_)<;>(try simp only[bz] at h)|refine zag (fun h=>?_) (fun h=>?_)<;>(try simp only[bz] at h)|refine Ok3.mk _ (zam (by omega)) ?_|refine zap (ze8 (hat _ (List.getElem_mem (by omega:j.1<(zas g k).length))) (hat2 _ (List.getElem_mem (by omega:j.1<(zas g k).length)))) ?_|refine zap (ze8 (k:=k) rfl (by omega)) ?_|(refine zdy (k:=5000005) (l:=inm fA ((zas g k)[j.1]'(by omega)).toNat) (zr9 (orL S (nowA g S k) ((zas g k).take j.1)) (rowS S ((zas g k)[j.1]'(by omega)).toNat) (ze1 hg hs) (zbd hs (by have:=hat2 _ (List.getElem_mem (by omega:j.1<(zas g k).length));omega)) hnw) rfl rfl (zdt (by have:=hat2 _ (List.getElem_mem (by omega:j.1<(zas g k).length));omega) rfl) rfl (by(exact zdx (by have:=hat2 _ (List.getElem_mem (by omega:j.1<(zas g k).length));omega) |>.trans (zce (by have:=hat2 _ (List.getElem_mem (by omega:j.1<(zas g k).length));rw[hs.len];omega))) ) zau zau ?_;rintro _ H' _ ⟨rfl,h0,h1⟩;refine⟨rfl,_,h0,h1,zau,?_⟩)|(refine zdy (k:=inm fA k) (l:=5000005) (zr8 (rowS S k) (orL S (nowA g S k) ((zas g k).take j.1)) (zbd hs hk) (ze1 hg hs) hnw) rfl rfl (Ne.symm (zdt (by omega) rfl)) (by(exact zdx (by omega) |>.trans (zce (by rw[hs.len];omega))) ) rfl zau zau ?_;rintro _ H' _ ⟨rfl,h0,h1⟩;refine⟨rfl,_,h0,h1,zau,?_⟩))<;>conv=>whnf)
   all_goals first
    | (have hj : j.1 < (zas g k).length := by omega
       refine⟨⟨j.1+1,hj⟩,_,FamW.inner rfl rfl (by(repeat' (first|exact zbe|(refine za5 (x:=?_) ?_ ?_ ?_ ?_;rotate_left;exact rfl;((conv=>rhs;whnf)<;>(first|(refine zdq (zax ?_);exact rfl)|(refine zec (zax ?_);exact rfl)|(refine congrArg (AV.int IntKind.i64) ?_;(try dsimp only);refine(wr64 (by omega) (by omega)).trans ?_;omega)));(first|(refine zb5 ?_;exact rfl)|(refine zcl ?_;exact rfl)|rfl))))) (by(repeat' (first|exact za6|(refine za0 (x:=?_) ?_ ?_ ?_ ?_ ?_ ?_;rotate_left;exact rfl;exact rfl;exact rfl;(first|(refine zbi ?_ ?_<;>first|rfl|omega)|(refine ze2 ?_;exact(zlc hj).symm)|rfl);(first|exact zcb|(refine zbt ?_ ?_<;>first|rfl|omega)|rfl))))) rfl (by(intro j o hj hg0;(repeat' first|exact zbo hj hg0 (zbb hg0)|(refine zeg hj ?_ ?_;(rfl )) ))) rfl,rfl,?_⟩
       dsimp only;omega)
    | (refine ze5 hg hs hk hF (j:=j.1) (by omega) (zxr ?_) ?_ ?_;exact h;exact Nat.le_of_ble_eq_true rfl;exact⟨_,rfl,rfl⟩)
    | (refine ze5 hg hs hk hF (j:=j.1) (by omega) (zxs ?_) ?_ ?_;exact h;exact Nat.le_of_ble_eq_true rfl;exact⟨_,rfl,rfl⟩)
 · skip
   refine zcr eRg zae [0,2,4,5,54,55] [5000005] 10000 fA (fun j:{j:Nat // j≤(zas g k).length}=>[(56,i64 j.1)]) (fun j=>[(5000005,setO (orL S (nowA g S k) ((zas g k).take j.1)))]) (fun _=>famS S) [] (fun j=>(zas g k).length+1 - j.1) (⟨0,Nat.zero_le _⟩) ?_
   conv=>whnf
   refine⟨⟨_,FamW.inner rfl rfl (by(repeat' (first|exact zbe|(refine za5 (x:=?_) ?_ ?_ ?_ ?_;rotate_left;exact rfl;((conv=>rhs;whnf)<;>(first|(refine zdq (zax ?_);exact rfl)|(refine zec (zax ?_);exact rfl)|rfl ));(first|(refine zb5 ?_;exact rfl)|(refine zcl ?_;exact rfl)|rfl))))) (by(repeat' (first|exact za6|(refine za0 (x:=?_) ?_ ?_ ?_ ?_ ?_ ?_;rotate_left;exact rfl;exact rfl;exact rfl;(first|(refine zbi ?_ ?_<;>first|rfl|omega)|(refine ze2 ?_;exact(yd5).trans (yns (by omega)))|rfl);(first|exact zcb|(refine zbt ?_ ?_<;>first|rfl|omega)|rfl))))) rfl (by(intro j o hj hg0;(repeat' first|exact zbo hj hg0 (zbb hg0)|(refine zeg hj ?_ ?_;(rfl )) ))) rfl⟩,fun j=>?_⟩
   conv=>whnf
   repeat' ((first|refine Rq.mk (zwh hg (by omega)) ?_|refine Rq.mk (by(first|rfl|((try simp only[rz]);omega))) ?_|refine Br.split (fun h=>?_) (fun h=>?_)<;>(try simp only[bz] at h)|refine zag (fun h=>?_) (fun h=>?_)<;>(try simp only[bz] at h)|refine Ok3.mk _ (zam (by omega)) ?_|refine zap (ze8 (hat _ (List.getElem_mem (by omega:j.1<(zas g k).length))) (hat2 _ (List.getElem_mem (by omega:j.1<(zas g k).length)))) ?_|refine zap (ze8 (k:=k) rfl (by omega)) ?_|(refine zdy (k:=5000005) (l:=inm fA ((zas g k)[j.1]'(by omega)).toNat) (zr9 (orL S (nowA g S k) ((zas g k).take j.1)) (rowS S ((zas g k)[j.1]'(by omega)).toNat) (ze1 hg hs) (zbd hs (by have:=hat2 _ (List.getElem_mem (by omega:j.1<(zas g k).length));omega)) hnw) rfl rfl (zdt (by have:=hat2 _ (List.getElem_mem (by omega:j.1<(zas g k).length));omega) rfl) rfl (by(exact zdx (by have:=hat2 _ (List.getElem_mem (by omega:j.1<(zas g k).length));omega) |>.trans (zce (by have:=hat2 _ (List.getElem_mem (by omega:j.1<(zas g k).length));rw[hs.len];omega))) ) zau zau ?_;rintro _ H' _ ⟨rfl,h0,h1⟩;refine⟨rfl,_,h0,h1,zau,?_⟩)|(refine zdy (k:=inm fA k) (l:=5000005) (zr8 (rowS S k) (orL S (nowA g S k) ((zas g k).take j.1)) (zbd hs hk) (ze1 hg hs) hnw) rfl rfl (Ne.symm (zdt (by omega) rfl)) (by(exact zdx (by omega) |>.trans (zce (by rw[hs.len];omega))) ) rfl zau zau ?_;rintro _ H' _ ⟨rfl,h0,h1⟩;refine⟨rfl,_,h0,h1,zau,?_⟩))<;>conv=>whnf)
   all_goals first
    | (have hj : j.1 < (zas g k).length := by omega
       refine⟨⟨j.1+1,hj⟩,_,FamW.inner rfl rfl (by(repeat' (first|exact zbe|(refine za5 (x:=?_) ?_ ?_ ?_ ?_;rotate_left;exact rfl;((conv=>rhs;whnf)<;>(first|(refine zdq (zax ?_);exact rfl)|(refine zec (zax ?_);exact rfl)|(refine congrArg (AV.int IntKind.i64) ?_;(try dsimp only);refine(wr64 (by omega) (by omega)).trans ?_;omega)));(first|(refine zb5 ?_;exact rfl)|(refine zcl ?_;exact rfl)|rfl))))) (by(repeat' (first|exact za6|(refine za0 (x:=?_) ?_ ?_ ?_ ?_ ?_ ?_;rotate_left;exact rfl;exact rfl;exact rfl;(first|(refine zbi ?_ ?_<;>first|rfl|omega)|(refine ze2 ?_;exact(zlc hj).symm)|rfl);(first|exact zcb|(refine zbt ?_ ?_<;>first|rfl|omega)|rfl))))) rfl (by(intro j o hj hg0;(repeat' first|exact zbo hj hg0 (zbb hg0)|(refine zeg hj ?_ ?_;(rfl )) ))) rfl,rfl,?_⟩
       dsimp only;omega)
    | (refine ze5 hg hs hk hF (j:=j.1) (by omega) (zxr ?_) ?_ ?_;exact h;exact Nat.le_of_ble_eq_true rfl;exact⟨_,rfl,rfl⟩)
    | (refine ze5 hg hs hk hF (j:=j.1) (by omega) (zxs ?_) ?_ ?_;exact h;exact Nat.le_of_ble_eq_true rfl;exact⟨_,rfl,rfl⟩)
theorem zh2 (g:Gr)(hg:GrOK g)(S:List (List W64))(hs:ShS g S)(a:Int)(k:Nat)(ha:a=(k:Int))(hk:k≤g.ins.l.length):DC Tryz.prog ERg 80 [i64 a,.ptr 0 0 0,.ptr 7 0 0] (HL g S) 5000000 (fun ae H' n=>ae = .ret (.bool (!decide (orW (rowS S k) (nowB g S k)=rowS S k)))∧n=5500000∧H'=HL g (zdp g S k)):=by
 subst ha;exact(znm g hg S hs k hk).forget (by rintro ae H' n ⟨h1,h2,h3⟩;exact⟨_,5500000,h2,h3,h1,rfl,rfl⟩)
end Go.Ago
end
section
namespace Go.Ago
open Go.Proofs
section
variable {P:Program} {E:Env}
def LowO (n:Nat)(o:AObj):Prop:=∃sz es,o = .arr sz es∧es.map (List.map (AV.r1 fun k=>k))=es∧(es.all fun e=>e.all (AV.l1 n))=true
theorem LowO.rel {n:Nat}{o:AObj}(ho:LowO n o){c c':Ctx}{w:World}{B:Blk}(hi:c'.imm=c.imm)(hf:∀k,k<n→c'.f k=c.f k)(h:ObjRel c w B o):ObjRel c' w B o:=by
 obtain⟨sz,es,rfl,hr,hl⟩:=ho;obtain⟨arr,t,a1,a2,a3,a4,a5⟩:=h;refine⟨arr,t,a1,a2,a3,a4,fun i e he=>⟨(a5 i e he).1,fun j x hx=>?_⟩⟩
 obtain⟨v,v1,v2⟩:=(a5 i e he).2 j x hx;have h1:e.map (AV.r1 fun k=>k)=e:=by
  have h2:(es.map (List.map (AV.r1 fun k=>k)))[i]? = some (e.map (AV.r1 fun k=>k)):=by rw[List.getElem?_map,he];rfl
  rw[hr,he] at h2;exact(Option.some.inj h2).symm
 have h3:x.r1 (fun k=>k)=x:=by
  have h2:(e.map (AV.r1 fun k=>k))[j]? = some (x.r1 fun k=>k):=by rw[List.getElem?_map,hx];rfl
  rw[h1,hx] at h2;exact(Option.some.inj h2).symm
 exact⟨v,v1,zqp (ρ:=fun k=>k) (n:=n) hi hf (List.all_eq_true.1 (List.all_eq_true.1 hl e (List.mem_of_getElem? he)) x (List.mem_of_getElem? hx)) (by rw[h3];exact v2)⟩
theorem DC.later {g:FuncId}{args:List AV}{H:zah}{nx m:Nat}{R R':AE→zah→Nat→Prop}(h:DC P E g args H nx R)(ha:args.map (AV.r2 fun k=>k)=args)(hl:args.all (AV.l2 nx)=true)
 (hH:∀k o,H.get k=some o→k<nx∧LowO nx o)(hq:∀ae H' n,R ae H' n→ae.flat=true∧(∀k o,H'.get k=some o→k<nx∧LowO nx o)∧R' ae H' m):DC P E g args H m R':=by
 obtain⟨ae,H',nx',⟨h0,h1⟩,h2⟩:=h;obtain⟨q1,q2,q3⟩:=hq _ _ _ h2;refine⟨ae,H',m,⟨h0,fun c w vs hw hf hrl=>?_⟩,q3⟩
 have hc0:∀k,k<nx→(⟨fun k=>if k<nx then c.f k else none,c.imm⟩:Ctx).f k=c.f k:=fun k hk=>if_pos hk
 have hw0:WRel E.glob ⟨fun k=>if k<nx then c.f k else none,c.imm⟩ w H:=by
  refine⟨hw.imm_lt,fun k B e=>?_,fun k o e=>?_,fun k k' o o' B B' e e' f f' hb=>?_,fun g cs e=>?_⟩
  · by_cases hk : k < nx
    · rw[hc0 k hk] at e;exact hw.f_lt _ B e
    · simp[hk] at e
  · obtain ⟨g1, g3⟩ := hH k o e
    obtain⟨B,b1,b2,b3⟩:=hw.obj _ _ e;exact⟨B,(hc0 k g1).trans b1,b2,g3.rel (c:=c) rfl hc0 b3⟩
  · rw [hc0 k (hH k o e).1] at f
    rw[hc0 k' (hH k' o' e').1] at f';exact hw.inj _ _ _ _ B B' e e' f f' hb
  · have := hw.glob g cs e
    cases this with
    | rptr h1 h2 h3 h4=>exact .rptr h1 h2 h3 h4
 have hr0:RelL ⟨fun k=>if k<nx then c.f k else none,c.imm⟩ w args vs:=by
  rw[← ha] at hrl;exact zfy (c:=c) (f:=AV.r2 fun k=>k) (fun y v a b=>zqo (c:=c) (c':=⟨fun k=>if k<nx then c.f k else none,c.imm⟩) (ρ:=fun k=>k) (n:=nx) rfl hc0 a b) hl hrl.1 hrl.2
 have hown:∀b,Own ⟨fun k=>if k<nx then c.f k else none,c.imm⟩ H b→Own c H b:=by
  rintro b ⟨k,o,B,hk,hf',rfl⟩
  rw[hc0 k (hH k o hk).1] at hf';exact⟨k,o,B,hk,hf',rfl⟩
 refine(h1 _ w vs hw0 (fun k hk=>if_neg (Nat.not_lt.2 hk)) hr0).mono ?_
 rintro e w' ⟨c',_,_,_,hx,hw',_,_,her,rfl,rfl,rfl⟩
 have hc:∀k,k<nx→c.f k=c'.f k:=fun k hk=>((hx.f k hk).trans (hc0 k hk)).symm
 have him:∀b,c.imm b→w'.heap[b]? = w.heap[b]?:=fun b hb=>hx.other b (hw.imm_lt b hb) fun ho=>hw.not_own hb (hown b ho)
 refine⟨⟨c.f,c'.imm⟩,_,m,_,⟨fun _ _=>rfl,fun b hb=>hx.imm b hb,hx.os,hx.tape,hx.output,hx.size,fun b hb hn=>hx.other b hb fun ho=>hn (hown b ho),fun b hb=>?_,fun b hb=>?_⟩,
  ⟨hw'.imm_lt,fun k B e=>Nat.lt_of_lt_of_le (hw.f_lt k B e) hx.size,fun j o e=>?_,fun k k' o o' B B' e e' f f' hb=>?_,fun g cs e=>(hw.glob g cs e).mono ⟨fun _ _ e=>e,fun b hb=>hx.imm b hb⟩ him⟩,Nat.le_refl _,hf,zja her q1,rfl,rfl,rfl⟩
 · rcases hx.newimm b hb with g | g | g
   · exact .inl g
   · exact .inr (.inl (hown b g))
   · exact .inr (.inr g)
 · obtain ⟨k, o, B, hk, hf', rfl⟩ := hb
   have hf':c.f k=some B:=hf';rw[hc k (q2 k o hk).1] at hf';rcases hx.own B.b ⟨k,o,B,hk,hf',rfl⟩ with g|g
   · exact .inl (hown _ g)
   · exact .inr g
 · obtain ⟨g1, g3⟩ := q2 j o e
   obtain⟨B,b1,b2,b3⟩:=hw'.obj _ _ e;exact⟨B,(hc j g1).trans b1,b2,g3.rel (c:=c') rfl hc b3⟩
 · have f : c.f k = some B := f
   have f':c.f k'=some B':=f';rw[hc k (q2 k o e).1] at f;rw[hc k' (q2 k' o' e').1] at f';exact hw'.inj _ _ _ _ B B' e e' f f' hb
end
theorem yg6 {g:Gr}{S:List (List W64)}(hg:g.ins.l.length+1≤1001):∀j o,(HL g S).get j=some o→j<5000000∧LowO 5000000 o:=by
 intro j o e;rw[Tr.get] at e;cases hb:Nat.ble fA j && Nat.blt j (fA+famN) with
 | true =>
   rw[hb] at e;simp only[cond_true] at e;simp only[Bool.and_eq_true] at hb;have h1:=Nat.le_of_ble_eq_true hb.2;have e1:fA=1000:=rfl;have e2:famN=1048576:=rfl;rw[zjc] at e;split at e
   · cases e
     refine⟨by omega,1,_,rfl,by simp[AV.r1,AV.ra,AV.r0,Function.comp_def],?_⟩
     exact zcb (n:=5000000)
   · cases e
 | false =>
   rw[hb] at e;simp only[cond_false] at e;rw[Tr.get] at e;cases b:Nat.beq j 7 with
   | true=>rw[b] at e;cases e;rw[Nat.eq_of_beq_eq_true b];exact⟨by decide,1,_,rfl,rfl,rfl⟩
   | false =>
     rw[b] at e;simp only[cond_false] at e;rw[Tr.get] at e;cases b:Nat.beq j 6 with
     | true =>
       rw[b] at e;cases e;rw[Nat.eq_of_beq_eq_true b];exact⟨by decide,1,_,rfl,by simp[zc0,AV.r1,AV.ra,AV.r0,Function.comp_def],zbt (m:=5000000) (by decide) hg⟩
     | false =>
       rw[b] at e;simp only[cond_false] at e;rw[Tr.get] at e;cases b:Nat.beq j 0 with
       | true=>rw[b] at e;cases e;rw[Nat.eq_of_beq_eq_true b];exact⟨by decide,3,_,rfl,rfl,rfl⟩
       | false=>rw[b] at e;cases e
theorem znl (g:Gr)(hg:GrOK g)(S:List (List W64))(hs:ShS g S)(a:Int)(k:Nat)(ha:a=(k:Int))(hk:k≤g.ins.l.length):DC Tryz.prog ERg 80 [i64 a,.ptr 0 0 0,.ptr 7 0 0] (HL g S) 8000000 (fun ae H' n=>ae = .ret (.bool (!decide (orW (rowS S k) (nowB g S k)=rowS S k)))∧n=8500000∧H'=HL g (zdp g S k)):=
 (((zh2 g hg S hs a k ha hk).later (m := 8000000) (R' := fun ae H' n => ae = .ret (.bool (!decide (orW (rowS S k) (nowB g S k) = rowS S k))) ∧ n = 8000000 ∧ H' = HL g (zdp g S k)) rfl rfl (yg6 (by have := hg.few; omega))
   (by rintro ae H' n ⟨rfl,rfl,rfl⟩;exact⟨rfl,yg6 (by have:=hg.few;omega),rfl,rfl,rfl⟩)).raise (M:=8500000) (by rintro ae H' n ⟨rfl,rfl,rfl⟩;exact⟨by decide,rfl,rfl,rfl⟩))
end Go.Ago
end
