/-
  Part 43: lemmas, each with its own conditions.
-/
import Derived.Test.YthaolifcglpkdaaGreatDoorA42
set_option maxRecDepth 100000
set_option maxHeartbeats 0
set_option linter.all false
section
namespace Go.Ago
open Go.Proofs
def za9 {α:Type}(f:α→α)(rows:List α)(j:Nat):List α:=(rows.take j).map f++rows.drop j
section
variable {α:Type} {f:α→α} {rows:List α} {j:Nat}
theorem zig:za9 f rows 0=rows:=by simp[za9]
theorem zfo (h:j=rows.length):za9 f rows j=rows.map f:=by subst h;simp[za9]
theorem zbj (f:α→α)(rows:List α){j:Nat}:(za9 f rows j).length=rows.length:=by simp[za9];omega
theorem zfn (h:j<rows.length)(h':j<(za9 f rows j).length):(za9 f rows j)[j]=rows[j]:=by
 have:(za9 f rows j)[j]? = rows[j]?:=by
  unfold za9;rw[List.getElem?_append_right (by simp;omega),List.getElem?_drop]
  congr 1
  simp;omega
 rw[List.getElem?_eq_getElem h',List.getElem?_eq_getElem h] at this;exact Option.some.inj this
theorem zfm (h:j<rows.length):(za9 f rows j).set j (f rows[j])=za9 f rows (j+1):=by
 unfold za9;rw[List.set_append_right _ _ (by simp;omega),List.take_succ_eq_append_getElem h,List.map_append,List.append_assoc]
 congr 1
 rw[show j - ((rows.take j).map f).length=0 by simp;omega,List.drop_eq_getElem_cons h]
 rfl
theorem zxp (h:j<rows.length)(hf:f rows[j]=rows[j]):za9 f rows (j+1)=za9 f rows j:=by
 rw[← zfm h,hf];have:(za9 f rows j)[j]'(by rw[zbj];exact h)=rows[j]:=zfn h _
 rw[← this,List.set_getElem_self]
theorem zob (h:j<rows.length)(x:α):(za9 f rows j).set j x=(za9 f rows (j+1)).set j x:=by
 rw[← zfm h,List.set_set]
end
def patI (q:Nat)(tl:List Int)(i:Ins):Ins:=if i.op=16∧i.p=(q:Int) then { i with n:=tl.getD i.n.toNat 0 } else i
def patL (q:Nat)(tl:List Int)(l:BL Ins):BL Ins:=⟨l.l.map (patI q tl),by rw[List.length_map];exact l.h⟩
def patB (q:Nat)(tl:List Int)(b:Bd):Bd:=⟨b.regs,patL q tl b.ins⟩
theorem zu8 {q:Nat}{tl:List Int}{i:Ins}(h1:i.op=16)(h2:i.p=(q:Int)){h:i.n.toNat<tl.length}:patI q tl i={ i with n:=tl[i.n.toNat] }:=by
 unfold patI;rw[if_pos ⟨h1,h2⟩];simp[List.getD,h]
theorem ynl {q:Nat}{tl:List Int}{i:Ins}(h:¬(i.op=16∧i.p=(q:Int))):patI q tl i=i:=by unfold patI;rw[if_neg h]
theorem ygf (q:Nat)(tl:List Int)(i:Ins):InsW (fun p=>p=(q:Int)) i (patI q tl i):=by
 unfold patI;split
 · rename_i h;exact .inr ⟨h.1,h.2,_,rfl⟩
 · exact .inl rfl
def OldI (is:List Ins)(y:Ins):Prop:=y.op=3∨∃i0∈is,y.op=i0.op∧y.p=i0.p∧y.n=i0.n∧y.m=i0.m
theorem zwt (i:Ins)(tl:List Int):(zew i tl).op=i.op∧(zew i tl).p=i.p∧(i.op=16→(zew i tl)=i):=by
 unfold zew
 by_cases h1:i.op=14∨i.op=15
 · rw[if_pos h1];exact⟨rfl,rfl,fun h=>by omega⟩
 · rw [if_neg h1]
   by_cases h2:i.op=28∨i.op=29
   · rw[if_pos h2];exact⟨rfl,rfl,fun h=>by omega⟩
   · rw[if_neg h2];exact⟨rfl,rfl,fun _=>rfl⟩
theorem yd7 {is rows:List Ins}{tl:List Int}(ho:∀y∈rows,OldI is y){i:Ins}(hi:i∈rows.map fun i=>zew i tl)(h:i.op=16):∃i0∈is,i0.op=16∧i0.p=i.p∧i0.n=i.n:=by
 obtain⟨y,hy,rfl⟩:=List.mem_map.1 hi;obtain⟨k1,k2,k3⟩:=zwt y tl;have k4:y.op=16:=by rw[← k1];exact h
 have e:=k3 k4;simp only[e] at h ⊢;rcases ho y hy with h3|⟨i0,h0,e1,e2,e3,_⟩
 · omega
 · exact⟨i0,h0,by omega,e2.symm,e3.symm⟩
def spC (c:Cd)(q:Nat)(tl:List Int)(nb:Bd):Cd:=⟨c.p,⟨(c.b.l.map (patB q tl)).set q nb,by rw[List.length_set,List.length_map];exact c.b.h⟩⟩
theorem zyu {c:Cd}{q:Nat}{tl:List Int}{nb:Bd}{R:List Ins}(hn:nb.ins.l=R.map (patI q tl))(hl:R.length≤4 * (if h:q<c.b.l.length then c.b.l[q].ins.l.length else 0))
 (hR:∀i∈R,i.op=16→∀h:q<c.b.l.length,∃i0∈c.b.l[q].ins.l,i0.op=16∧i0.p=i.p∧i0.n=i.n):SpilledP c q (spC c q tl nb):=by
 refine⟨by show((c.b.l.map (patB q tl)).set q nb).length=_;rw[List.length_set,List.length_map],fun j h h' hj=>?_,fun h h' i hi h1 h2=>?_,fun h h'=>?_⟩
 · have e:(spC c q tl nb).b.l[j]=patB q tl c.b.l[j]:=by
    show((c.b.l.map (patB q tl)).set q nb)[j]'(by simpa[spC] using h')=_
    rw[List.getElem_set,if_neg (fun e=>hj e.symm),List.getElem_map]
   rw[e];exact⟨rfl,by show(List.map _ _).length=_;rw[List.length_map],fun m hm hm'=>by
    have:(patB q tl c.b.l[j]).ins.l[m]'hm'=patI q tl (c.b.l[j].ins.l[m]):=by
     show(List.map (patI q tl) c.b.l[j].ins.l)[m]'(by simpa[patB,patL] using hm')=_;rw[List.getElem_map]
    rw[this];exact ygf q tl _⟩
 · have e:(spC c q tl nb).b.l[q]=nb:=by
    show((c.b.l.map (patB q tl)).set q nb)[q]'(by simpa[spC] using h')=_
    rw[List.getElem_set,if_pos rfl]
   rw[e,hn] at hi;obtain⟨y,hy,rfl⟩:=List.mem_map.1 hi;have w:=ygf q tl y;obtain⟨k1,k2,_,_,_,_,_,k8⟩:=w.key;obtain⟨i0,h0,e1,e2,e3⟩:=hR y hy (by omega) h
   refine⟨i0,h0,e1,by omega,?_⟩
   rcases k8 with k8|⟨_,k8⟩
   · omega
   · exact absurd (k2.trans k8) h2
 · have e:(spC c q tl nb).b.l[q]=nb:=by
    show((c.b.l.map (patB q tl)).set q nb)[q]'(by simpa[spC] using h')=_
    rw[List.getElem_set,if_pos rfl]
   rw[e,hn,List.length_map];rw[dif_pos h] at hl;exact hl
abbrev ownR (r:Int)(k len:Nat):List AV:=[i64 r,.slc k 0 len 29]
def preR (q:Nat)(tl:List Int)(l:List Bd)(kn:Int)(k len n:Nat):List (List AV):=((za9 (patB q tl) l n).map Bd.cells).set q (ownR kn k len)
def zcp (q:Nat)(tl:List Int)(l:List Bd)(nb:Bd)(n:Nat):List (List AV):=((za9 (patB q tl) l n).set q nb).map Bd.cells
theorem zde {rows:List (List AV)}{n:Nat}{e:List AV}{k:Nat}(hk:k=n)(h:n<rows.length):(rows.set n e)[k]? = some e:=by subst hk;simp[h]
theorem ze0 {q:Nat}{tl:List Int}{l:List Bd}{kn:Int}{k len n m:Nat}(hm:m=n)(h:n<l.length)(hq:n≠q):(preR q tl l kn k len n)[m]? = some (l[n].cells):=by
 subst hm;show(List.set _ q _)[m]? = _;rw[List.getElem?_set_ne (by omega),List.getElem?_map,List.getElem?_eq_getElem (by rw[zbj];exact h),zfn h (by rw[zbj];exact h)]
 rfl
theorem zdd {q:Nat}{tl:List Int}{l:List Bd}{kn:Int}{k len n m:Nat}(hm:m=q)(h:q<l.length):(preR q tl l kn k len n)[m]? = some (ownR kn k len):=by
 subst hm;show(List.set _ _ _)[_]? = _;rw[List.getElem?_set_self (by rw[List.length_map,zbj];exact h)]
theorem zd6 {q:Nat}{tl:List Int}{l:List Bd}{nb:Bd}{n m:Nat}(hm:m=n)(h:n<l.length)(hq:n≠q):(zcp q tl l nb n)[m]? = some (l[n].cells):=by
 subst hm;show(List.map _ _)[m]? = _;rw[List.getElem?_map,List.getElem?_set_ne (by omega),List.getElem?_eq_getElem (by rw[zbj];exact h),zfn h (by rw[zbj];exact h)]
 rfl
theorem zdc {q:Nat}{tl:List Int}{l:List Bd}{kn:Int}{k len n:Nat}:(preR q tl l kn k len n).length=l.length:=by simp[preR,zbj]
theorem zck {q:Nat}{tl:List Int}{l:List Bd}{nb:Bd}{n:Nat}:(zcp q tl l nb n).length=l.length:=by simp[zcp,zbj]
theorem zl1 {q:Nat}{tl:List Int}{l:List Bd}{kn:Int}{k len n:Nat}(h:n<l.length)(hq:n≠q){r:List AV}(hr:r=(patB q tl l[n]).cells):(preR q tl l kn k len n).set n r=preR q tl l kn k len (n+1):=by
 subst hr;show(List.set (List.map _ _) q _).set n _=_;rw[List.set_comm _ _ (by omega),← List.map_set,zfm h];rfl
theorem zzo {q:Nat}{tl:List Int}{l:List Bd}{kn:Int}{k len:Nat}(h:q<l.length){nb:Bd}{r:List AV}(hr:r=nb.cells):(preR q tl l kn k len q).set q r=zcp q tl l nb (q+1):=by
 subst hr;show(List.set (List.map _ _) q _).set q _=_;rw[List.set_set,← List.map_set,zob h];rfl
theorem zfg {q:Nat}{tl:List Int}{l:List Bd}{nb:Bd}{n:Nat}(h:n<l.length)(hq:n≠q){r:List AV}(hr:r=(patB q tl l[n]).cells):(zcp q tl l nb n).set n r=zcp q tl l nb (n+1):=by
 subst hr;show(List.map _ _).set n _=_;rw[← List.map_set,List.set_comm _ _ (by omega),zfm h];rfl
theorem zpw {ρ:Nat→Nat}{l:List Bd}:(l.map Bd.cells).map (List.map (AV.r1 ρ))=l.map Bd.cells:=by
 rw[List.map_map];rfl
theorem yo7 {ρ:Nat→Nat}{b:Bd}:b.cells.map (AV.r1 ρ)=b.cells:=rfl
theorem zo8 {ρ:Nat→Nat}{r:Int}{k len:Nat}(hk:ρ k=k):(ownR r k len).map (AV.r1 ρ)=ownR r k len:=by
 show[i64 r,.slc (ρ k) 0 len 29]=_;rw[hk]
theorem zez {ρ:Nat→Nat}{s q:Nat}{tl:List Int}{l:List Bd}{kn:Int}{k len n:Nat}{es:List (List AV)}(h:es=preR q tl l kn k len n)(hk:ρ k=k):AObj.arr s es=AObj.ren ρ (.arr s (preR q tl l kn k len n)):=by
 subst h;simp only[AObj.ren,preR,List.map_set,zpw,zo8 hk]
theorem zbz {ρ:Nat→Nat}{s q:Nat}{tl:List Int}{l:List Bd}{nb:Bd}{n:Nat}{es:List (List AV)}(h:es=zcp q tl l nb n):AObj.arr s es=AObj.ren ρ (.arr s (zcp q tl l nb n)):=by
 subst h;simp only[AObj.ren,zcp,zpw]
theorem zu5 {ρ:Nat→Nat}{s q:Nat}{tl:List Int}{l:List Bd}{kn:Int}{k len n m:Nat}{r:Int}{k' len':Nat}{es:List (List AV)}(h:es=(preR q tl l kn k len n).set m (ownR r k' len'))(hk:ρ k=k)(hk':ρ k'=k'):AObj.arr s es=AObj.ren ρ (.arr s ((preR q tl l kn k len n).set m (ownR r k' len'))):=by
 subst h;simp only[AObj.ren,preR,List.map_set,zpw,zo8 hk,zo8 hk']
theorem ziv {ρ:Nat→Nat}{s q:Nat}{tl:List Int}{l:List Bd}{nb:Bd}{n m:Nat}{r:Int}{k' len':Nat}{es:List (List AV)}(h:es=(zcp q tl l nb n).set m (ownR r k' len'))(hk':ρ k'=k'):AObj.arr s es=AObj.ren ρ (.arr s ((zcp q tl l nb n).set m (ownR r k' len'))):=by
 subst h;simp only[AObj.ren,zcp,List.map_set,zpw,zo8 hk',yo7]
theorem zp1 {α:Type}{p:α→Bool}{l:List α}{i:Nat}{x:α}(h:l.all p=true)(hx:p x=true):(l.set i x).all p=true:=by
 rw[List.all_eq_true] at h ⊢;intro y hy;rcases List.mem_or_eq_of_mem_set hy with hy|rfl
 · exact h y hy
 · exact hx
theorem zwf {n:Nat}{l:List Bd}:((l.map Bd.cells).all fun e=>e.all (AV.l1 n))=true:=by
 rw[List.all_map,List.all_eq_true];intro x _;rfl
theorem zpk {nm:Nat}{o:AObj}{sz n:Nat}{rows:List (List AV)}{a x y:AV}(h:FrzC nm o x y){es fs:List (List AV)}(he:es=rows.set n [a,x])(hf:fs=rows.set n [a,y]):FrzO nm o (.arr sz es) (.arr sz fs):=by
 subst he;subst hf;refine .inr ⟨sz,_,_,rfl,rfl,by simp,fun i f hf=>?_⟩
 by_cases hn:n=i
 · subst hn
   rw[List.getElem?_set_self'] at hf ⊢;cases hr:rows[n]? with
   | none=>rw[hr] at hf;cases hf
   | some e =>
     rw[hr] at hf;obtain rfl:=Option.some.inj hf;refine⟨_,rfl,rfl,fun j z hz=>?_⟩
     match j,hz with
     | 0,hz=>obtain rfl:=Option.some.inj hz;exact⟨_,rfl,.inl rfl⟩
     | 1,hz=>obtain rfl:=Option.some.inj hz;exact⟨_,rfl,h⟩
     | (j+2),hz=>cases hz
 · rw [List.getElem?_set_ne hn] at hf
   refine⟨f,by rw[List.getElem?_set_ne hn];exact hf,rfl,fun j z hz=>⟨z,hz,.inl rfl⟩⟩
theorem zpj {X len:Nat}{L:List Ins}{es:List (List AV)}(h:es=L.map Ins.cells)(hl:len=L.length):FrzC X (.arr 29 es) (.slc X 0 len 29) (.rsl 29 (L.map Ins.cells)):=by
 subst h;subst hl;exact .inr (zbk (f:=Ins.cells) (l:=L) (n:=19) (fun _=>rfl) (by rw[Tr.get,Nat.beq_refl];rfl) rfl rfl)
theorem yje {q:Nat}{tl:List Int}{l:List Bd}{kn:Int}{k len:Nat}{nb:Bd}{nm:Nat}{o:AObj}{L:List Ins}(h:q<l.length)(hf:FrzC nm o (.slc k 0 len 29) (.rsl 29 (L.map Ins.cells)))(hn:nb.cells=[i64 kn,.rsl 29 (L.map Ins.cells)]) :
 FrzO nm o (.arr 2 (preR q tl l kn k len q)) (.arr 2 (zcp q tl l nb (q+1))):=
 zpk (n := q) (rows := (za9 (patB q tl) l q).map Bd.cells) hf rfl (by
  rw[← zzo (kn:=kn) (k:=k) (len:=len) h rfl,hn];show(List.set (List.map _ _) q _).set q _=_;rw[List.set_set])
theorem yjd {q:Nat}{tl:List Int}{l:List Bd}{kn:Int}{k len n X lx:Nat}{nm:Nat}{o:AObj}{r:Int}(h:n<l.length)(hq:n≠q)(hr:r=l[n].regs)(hf:FrzC nm o (.slc X 0 lx 29) (.rsl 29 ((l[n].ins.l.map (patI q tl)).map Ins.cells))) :
 FrzO nm o (.arr 2 ((preR q tl l kn k len n).set n (ownR r X lx))) (.arr 2 (preR q tl l kn k len (n+1))):=by
 subst hr;exact zpk hf rfl (zl1 h hq rfl).symm
theorem zv2 {q:Nat}{tl:List Int}{l:List Bd}{nb:Bd}{n X lx:Nat}{nm:Nat}{o:AObj}{r:Int}(h:n<l.length)(hq:n≠q)(hr:r=l[n].regs)(hf:FrzC nm o (.slc X 0 lx 29) (.rsl 29 ((l[n].ins.l.map (patI q tl)).map Ins.cells))) :
 FrzO nm o (.arr 2 ((zcp q tl l nb n).set n (ownR r X lx))) (.arr 2 (zcp q tl l nb (n+1))):=by
 subst hr;exact zpk hf rfl (zfg h hq rfl).symm
theorem zju {s nx:Nat}{q:Nat}{tl:List Int}{l:List Bd}{kn:Int}{k len n:Nat}(h:(ownR kn k len).all (AV.l1 nx)=true):AObj.lt nx (.arr s (preR q tl l kn k len n)):=zp1 zwf h
theorem zd3 {s nx:Nat}{q:Nat}{tl:List Int}{l:List Bd}{nb:Bd}{n:Nat}:AObj.lt nx (.arr s (zcp q tl l nb n)):=zwf
theorem zzn {s nx:Nat}{q:Nat}{tl:List Int}{l:List Bd}{kn:Int}{k len n m:Nat}{e:List AV}(h:(ownR kn k len).all (AV.l1 nx)=true)(h':e.all (AV.l1 nx)=true):AObj.lt nx (.arr s ((preR q tl l kn k len n).set m e)):=zp1 (zp1 zwf h) h'
theorem zk8 {s nx:Nat}{q:Nat}{tl:List Int}{l:List Bd}{nb:Bd}{n m:Nat}{e:List AV}(h':e.all (AV.l1 nx)=true):AObj.lt nx (.arr s ((zcp q tl l nb n).set m e)):=zp1 zwf h'
theorem pre_start {q:Nat}{tl:List Int}{l:List Bd}{kn:Int}{k len:Nat}:(l.map Bd.cells).set (0+((q:Int)).toNat) (ownR kn k len)=preR q tl l kn k len 0:=by simp[preR,zig]
theorem zn1 {q:Nat}{tl:List Int}{L:List Ins}{j:Nat}(h:j<L.length)(h':((j:Int)).toNat<(za9 (patI q tl) L j).length):(za9 (patI q tl) L j)[((j:Int)).toNat]=L[j]:=zfn h (by rw[zbj];exact h)
theorem zlb {q:Nat}{tl:List Int}{L:List Ins}{j:Nat}(h:j<L.length)(h':((j:Int)).toNat<(za9 (patI q tl) L j).length){e:List AV}(he:e=(patI q tl ((za9 (patI q tl) L j)[((j:Int)).toNat])).cells):((za9 (patI q tl) L j).map Ins.cells).set (0+((j:Int)).toNat) e=(za9 (patI q tl) L (j+1)).map Ins.cells:=by
 subst he;rw[zn1 h,Nat.zero_add,Int.toNat_natCast,← List.map_set,zfm h]
theorem zla {q:Nat}{tl:List Int}{L:List Ins}{j:Nat}(h:j<L.length)(h':((j:Int)).toNat<(za9 (patI q tl) L j).length)(hn:¬(((za9 (patI q tl) L j)[((j:Int)).toNat]).op=16∧((za9 (patI q tl) L j)[((j:Int)).toNat]).p=(q:Int))):(za9 (patI q tl) L j).map Ins.cells=(za9 (patI q tl) L (j+1)).map Ins.cells:=by
 rw[zn1 h] at hn;rw[zxp h (ynl hn)]
end Go.Ago
end
namespace Go.Ago
open Go.Proofs
attribute [local irreducible] ltI leI eqI eqS shrI wr inB mmI comp DC DP DW DV
theorem zx8 {l:List Ins}:((l.map Ins.cells).all fun e=>e.all AV.one)=true:=by simp[AV.one]
theorem zpg {l:List Ins}:((l.map Ins.cells).all fun e=>e.all zgv)=true:=by simp[zgv,znn,zpm]
theorem ybu (b:Ins)(bs:List Ins)(h70:bs.length≤100000):DC Tryz.prog ERg 19 [zgs (b::bs)] .nil 0 (fun ae H' _=>ae = .ret (.slc 5 0 (bs.length+1) 29)∧H'.get 5=some (.arr 29 (b.cells::bs.map Ins.cells))):=by
 refine zay eRg zae Tryz.func19 rfl (by decide) rfl rfl ?_
 conv=>whnf
 repeat' ((first|refine Br.f (b:=Nat.beq _ _) rfl ?_|refine Rq.mk zx8 ?_|refine Rq.mk (zp0 304 102 _ (by simp) rfl rfl (by simp<;>omega) (by simp only[List.length_map,List.length_cons];omega)) ?_)<;>conv=>whnf)
 exact⟨congrArg AE.ret (zat rfl rfl (by simp) rfl),congrArg some (za4 rfl (by simp))⟩
theorem zmu (l:List Ins)(h:l≠[])(h70:l.length≤100000):DC Tryz.prog ERg 19 [zgs l] .nil 0 (fun ae H' _=>ae = .ret (.slc 5 0 l.length 29)∧H'.get 5=some (.arr 29 (l.map Ins.cells))):=by
 rcases l with _|⟨b,bs⟩
 · exact absurd rfl h
 · simp only [List.length_cons] at h70
   exact ybu b bs (by omega)
end Go.Ago
