/-
  Part 3: lemmas, each with its own conditions.
-/
import Derived.Laws.Tables
import Derived.Laws.Append
import Derived.Laws.Strings
import Derived.Great.FillDense
import Derived.Great.BuildSlice
import Derived.Test.YthaolifcglpkdaaGreatDoorA02
set_option maxRecDepth 100000
set_option maxHeartbeats 0
set_option linter.all false
section
namespace Go.Ago
section flat
theorem zcd {es:List (List AV)}{sz:Nat}(hl:∀(i:Nat) e,es[i]? = some e→e.length=sz):es.flatten.length=es.length * sz ∧
 ∀(i j:Nat) e,es[i]? = some e→j<sz→es.flatten[i * sz+j]? = e[j]?:=by
 induction es with
 | nil=>exact⟨by simp,fun i j e h=>by simp at h⟩
 | cons a es ih =>
   have ha:=hl 0 a rfl;obtain⟨ih1,ih2⟩:=ih (fun i e h=>hl (i+1) e (by simpa using h))
   refine⟨by simp only[List.flatten_cons,List.length_append,ih1,ha,List.length_cons,Nat.add_mul];omega,fun i j e h hj=>?_⟩
   cases i with
   | zero =>
     simp at h;subst h;simp only[List.flatten_cons,Nat.zero_mul,Nat.zero_add];rw[List.getElem?_append_left (by omega)]
   | succ i =>
     simp only[List.flatten_cons];rw[List.getElem?_append_right (by rw[ha,Nat.add_mul];omega),ha,show(i+1) * sz+j - sz=i * sz+j by rw[Nat.add_mul];omega]
     exact ih2 i j e (by simpa using h) hj
theorem zth {es:List (List AV)}{sz p:Nat}(hl:∀(i:Nat) e,es[i]? = some e→e.length=sz){x:AV}(h:es.flatten[p]? = some x) :
 ∃e,p=p / sz * sz+p % sz∧p % sz<sz∧es[p / sz]? = some e∧e[p % sz]? = some x:=by
 obtain⟨h1,h2⟩:=zcd hl;have hp:p<es.length * sz:=by have:=(List.getElem?_eq_some_iff.1 h).1;omega
 have hsz:0<sz:=by
  rcases Nat.eq_zero_or_pos sz with rfl|h0
  · simp at hp
  · exact h0
 have hd:p / sz<es.length:=(Nat.div_lt_iff_lt_mul hsz).2 hp;have hm:=Nat.mod_lt p hsz;have he:=h2 (p / sz) (p % sz) es[p / sz] (List.getElem?_eq_getElem hd) hm;have hdm:p / sz * sz+p % sz=p:=by rw[Nat.mul_comm];exact Nat.div_add_mod p sz
 rw[hdm,h] at he;exact⟨_,hdm.symm,hm,List.getElem?_eq_getElem hd,he.symm⟩
end flat
section
variable {P:Program} {E:Env} {G:zd9} {c:Ctx} {w:World} {H:zah} {nm:Nat}
theorem zhr {pl:Nat→Option (Nat×Nat)}{pl':Nat→Option (Nat×Nat)}(hpl:∀i p,pl i=some p→pl' i=some p):∀(ps:List (Nat×AV)) (qs:List (Nat×Value)) (cells:List AV) (arr:Array Value) (cs:List AV),
 ps.length=qs.length→(∀(i:Nat) p q,ps[i]? = some p→qs[i]? = some q→p.1=q.1∧Rel c w p.2 q.2)→RelL c w cells arr.toList→zno pl cells ps=some cs →
 ∃arr',Instr.fill pl' arr qs=some arr'∧RelL c w cs arr'.toList∧((∀x∈cells,x.one=true)→∀x∈cs,x.one=true)
 | [], qs, cells, arr, cs, hl, _, hr, h => by
   obtain rfl:qs=[]:=List.eq_nil_of_length_eq_zero (by simpa using hl.symm)
   simp only[zno,Option.some.injEq] at h;subst h;exact⟨arr,rfl,hr,fun h=>h⟩
 | p::ps,[],_,_,_,hl,_,_,_=>by simp at hl
 | (i, y) :: ps, (i', u) :: qs, cells, arr, cs, hl, hpq, hr, h => by
   obtain⟨hii,hy⟩:=hpq 0 (i,y) (i',u) rfl rfl;dsimp only at hii hy;subst hii;simp only[zno] at h;cases hp:pl i with
   | none=>rw[hp] at h;cases h
   | some q =>
     obtain⟨off,size⟩:=q;rw[hp] at h;dsimp only at h;cases hb:((y.cells.length == size && y.cells.all AV.one) && Nat.ble (off+size) cells.length) with
     | false=>rw[hb] at h;cases h
     | true =>
       rw[hb] at h;dsimp only at h;simp only[Bool.and_eq_true,beq_iff_eq] at hb;obtain⟨⟨hlen,hone⟩,hle⟩:=hb;have hle:=Nat.le_of_ble_eq_true hle;have hc:=hy.cells (zmy hone);have hus:u.cells.size=size:=by rw[← hlen];simpa using hc.1.symm
       have hcl:cells.length=arr.size:=by simpa using hr.1
       have hfs:=Go.Great.foldl_set off u.cells.toList 0 arr;have hfold:u.cells.zipIdx.foldl (fun cs (x:Value×Nat)=>cs.setIfInBounds (off+x.2) x.1) arr=(u.cells.toList.zipIdx 0).foldl (fun cs (x:Value×Nat)=>cs.setIfInBounds (off+x.2) x.1) arr:=by
        rw[← Array.foldl_toList,Array.toList_zipIdx]
       have hrel:RelL c w (zgl cells off y.cells) (u.cells.zipIdx.foldl (fun cs (x:Value×Nat)=>cs.setIfInBounds (off+x.2) x.1) arr).toList:=by
        rw[hfold];refine⟨by rw[zim _ _ _ (by omega)];have e1:=hfs.1;rw[← Array.length_toList] at e1;rw[e1];exact hcl,fun k x v e e'=>?_⟩
        rw[Array.getElem?_toList,hfs.2 k] at e';rw[zjp _ _ _ _ (by omega)] at e
        simp only[Nat.add_zero,Array.length_toList] at e'
        by_cases h1:k<off
        · rw [if_pos h1] at e; rw [if_neg (by omega)] at e'
          exact hr.2 k x v e (by simpa using e')
        · rw [if_neg h1] at e
          by_cases h2:k<off+y.cells.length
          · rw [if_pos h2] at e; rw [if_pos (by omega)] at e'
            exact hc.2 _ x v e e'
          · rw [if_neg h2] at e; rw [if_neg (by omega)] at e'
            exact hr.2 k x v e (by simpa using e')
       obtain⟨arr',h1,h2,h3⟩:=zhr hpl ps qs _ _ cs (by simpa using hl) (fun j p q e e'=>hpq (j+1) p q (by simpa using e) (by simpa using e')) hrel h
       refine⟨arr',?_,h2,fun ho=>h3 fun x hx=>?_⟩
       · rw [Instr.fill, hpl i _ hp]
         dsimp only;rw[if_neg (by rw[hus];simp;omega)]
         exact h1
       · unfold zgl at hx
         simp only[List.mem_append] at hx;rcases hx with(hx|hx)|hx
         · exact ho x (List.mem_of_mem_take hx)
         · exact yc0 hone x hx
         · exact ho x (List.mem_of_mem_drop hx)
theorem zqr {P:Program}:∀(fields:List Field) (fs:List (Nat×Nat×TypeId)),fields.length=fs.length →
 (∀(i off sz:Nat) (t:TypeId),fs[i]? = some (off,sz,t)→∃f info,fields[i]? = some f∧f.offset=off∧f.type=t∧P.info? t=some info∧info.size=sz∧f.name ≠ "_") →
 fields.mapM (fun f=>(P.info? f.type).map fun i=>(f.offset,i.size))=some (fs.map fun q=>(q.1,q.2.1))
 | [],[],_,_=>rfl
 | [],_::_,h,_=>by simp at h
 | _::_,[],h,_=>by simp at h
 | f :: fields, (off, sz, t) :: fs, hl, h => by
   obtain⟨f',info,h1,h2,h3,h4,h5,_⟩:=h 0 off sz t rfl;simp at h1;subst h1;have ih := zqr fields fs (by simpa using hl) (fun i off sz t e=>by
    obtain⟨g,info,a1,a2⟩:=h (i+1) off sz t (by simpa using e)
    exact⟨g,info,by simpa using a1,a2⟩)
   simp[List.mapM_cons,h3,h4,ih,h2,h5]
theorem ztw (hE:EnvOK P E)(hw:WRel G c w H){t:TypeId}{ps:List (Nat×AV)}{qs:List (Nat×Value)}(hl:ps.length=qs.length)
 (hpq:∀(i:Nat) p q,ps[i]? = some p→qs[i]? = some q→p.1=q.1∧Rel c w p.2 q.2){x:Eff ⊕ AV}(h:(zuo E t ps).run H=some x) :
 OutV G c w H nm x ((Instr.build t qs.toArray).run P w):=by
 obtain⟨ti,hti,h⟩:=zao h;obtain⟨info,d,z,a1,a2,a3,a4,a5,a6,a7,a8,a9,a10,a11⟩:=(hE.ti t ti hti).ok;cases hdesc:ti.desc with
 | struct fs =>
   rw[hdesc] at h a6;dsimp only at h;cases hf:zno (zif fs) ti.zero ps with
   | none=>rw[hf] at h;exact(zad h).elim
   | some cs =>
     rw[hf] at h;obtain rfl:=zan h;obtain⟨fields,rfl,hsz,hfs⟩:=a6;have hpl := zqr (P := P) fields.toList fs (by simpa using hsz) (fun i off sz t e=>by
      obtain⟨f,info,b1,b2⟩:=hfs i off sz t e;exact⟨f,info,by simpa using b1,b2⟩)
     obtain ⟨arr', h1, h2, _⟩ := zhr (pl' := ((fs.map fun q => (q.1, q.2.1)).toArray[·]?)) (c := c) (w := w) (fun i p hp=>by
      unfold zif at hp;cases hq:fs[i]? with
      | none=>rw[hq] at hp;cases hp
      | some q=>obtain⟨o,s,t'⟩:=q;rw[hq] at hp;simp at hp;simp[hq,hp]) ps qs ti.zero z.cells cs hl hpq (a8 c w) hf
     have hb:P.built t qs.toArray.toList=some arr':=by
      unfold Program.built;simp only[a1,a2,a7,hpl];exact h1
     rw[run_build w t _ _ hb];exact zak hw (by have:=Rel.agg (c:=c) (w:=w) h2.1 h2.2;simpa using this)
 | array n e =>
   rw[hdesc] at h a6;obtain rfl:d = .array n e:=a6;obtain⟨te,hte,h⟩:=zao h;obtain⟨ie,de,ze,b1,b2,b3,_⟩:=(hE.ti e te hte).ok;cases hf:zno (fun i=>some (i * te.size,te.size)) ti.zero ps with
   | none=>rw[hf] at h;exact(zad h).elim
   | some cs =>
     rw[hf] at h;obtain rfl:=zan h;obtain⟨arr',h1,h2,_⟩:=zhr (pl':=fun i=>some (i * ie.size,ie.size)) (c:=c) (w:=w) (fun i p hp=>by rw[b3];exact hp) ps qs ti.zero z.cells cs hl hpq (a8 c w) hf
     have hb:P.built t qs.toArray.toList=some arr':=by
      unfold Program.built;simp only[a1,a2,a7,b1];exact h1
     rw[run_build w t _ _ hb];exact zak hw (by have:=Rel.agg (c:=c) (w:=w) h2.1 h2.2;simpa using this)
 | _=>rw[hdesc] at h;exact(zad h).elim
theorem zmm {size:Nat}(hs:0<size):∀(ps:List (Nat×AV)) (es es':List (List AV)),(∀(i:Nat) e,es[i]? = some e→e.length=size)→zti size es ps=some es' →
 zno (fun i=>some (i * size,size)) es.flatten ps=some es'.flatten∧es'.length=es.length∧(∀(i:Nat) e,es'[i]? = some e→e.length=size)
 | [],es,es',hl,h=>by simp only[zti,Option.some.injEq] at h;subst h;exact⟨rfl,rfl,hl⟩
 | (i, y) :: ps, es, es', hl, h => by
   simp only[zti] at h;cases hb:((y.cells.length == size && y.cells.all AV.one) && Nat.blt i es.length) with
   | false=>rw[hb] at h;cases h
   | true =>
     rw[hb] at h;dsimp only at h;simp only[Bool.and_eq_true,beq_iff_eq] at hb;obtain⟨⟨hlen,hone⟩,hlt⟩:=hb;have hi:i<es.length:=by simpa using hlt
     have hl':∀(j:Nat) e,(es.set i y.cells)[j]? = some e→e.length=size:=by
      intro j e he;rw[List.getElem?_set] at he
      by_cases hj:i=j
      · subst hj;simp[hi] at he;subst he;exact hlen
      · simp[hj] at he;exact hl j e he
     obtain⟨h1,h2,h3⟩:=zmm hs ps _ es' hl' h;refine⟨?_,by simpa using h2,h3⟩
     obtain⟨f1,f2⟩:=zcd hl;obtain⟨g1,g2⟩:=zcd hl';have hle:i * size+size≤es.flatten.length:=by
      rw[f1];have:(i+1) * size≤es.length * size:=Nat.mul_le_mul_right _ hi;rw[Nat.add_mul] at this;omega
     have hsp:zgl es.flatten (i * size) y.cells=(es.set i y.cells).flatten:=by
      apply List.ext_getElem?
      intro p;rw[zjp _ _ _ _ (by omega),hlen]
      by_cases hp:p<es.length * size
      · have hd : p / size < es.length := (Nat.div_lt_iff_lt_mul hs).2 hp
        have hm:=Nat.mod_lt p hs;have hdm:p / size * size+p % size=p:=by rw[Nat.mul_comm];exact Nat.div_add_mod p size
        have e1:=f2 (p / size) (p % size) es[p / size] (List.getElem?_eq_getElem hd) hm;rw[hdm] at e1
        by_cases hq:p / size=i
        · have e2 := g2 i (p % size) y.cells (by simp [hi]) hm
          rw[← hq,hdm] at e2;subst hq;rw[e2,if_neg (by omega),if_pos (by omega)]
          congr 1;omega
        · have e2 := g2 (p / size) (p % size) es[p / size] (by rw [List.getElem?_set, if_neg (fun e => hq e.symm)]; exact List.getElem?_eq_getElem hd) hm
          rw[hdm] at e2;rw[e2,e1];rcases Nat.lt_or_gt_of_ne hq with hlt'|hgt
          · have : (p / size + 1) * size ≤ i * size := Nat.mul_le_mul_right _ hlt'
            rw[Nat.add_mul] at this;rw[if_pos (by omega)]
          · have : (i + 1) * size ≤ p / size * size := Nat.mul_le_mul_right _ hgt
            rw[Nat.add_mul] at this;rw[if_neg (by omega),if_neg (by omega)]
      · have e1 : es.flatten[p]? = none := List.getElem?_eq_none (by omega)
        have e2:(es.set i y.cells).flatten[p]? = none:=List.getElem?_eq_none (by rw[g1];simp;omega)
        rw[e1,e2,if_neg (by omega),if_neg (by omega)]
     simp only[zno];rw[show((y.cells.length == size && y.cells.all AV.one) && Nat.ble (i * size+size) es.flatten.length)=true by
      simp only[hlen,beq_self_eq_true,hone,Bool.true_and];exact Nat.ble_eq_true_of_le hle]
     simp only[hsp];exact h1
theorem zkx {zs:List AV}{z:Array Value}{size len:Nat}(hr:RelL c w zs z.toList)(hl:zs.length=size)(_hs:0<size) :
 RelL c w (List.replicate len zs).flatten ((Array.range (len * size)).map (z[· % z.size]!)).toList:=by
 have hzs:z.size=size:=by rw[← hl];simpa using hr.1.symm
 have hle:∀(i:Nat) e,(List.replicate len zs)[i]? = some e→e.length=size:=by
  intro i e he;rw[List.getElem?_replicate] at he;split at he<;>simp at he
  subst he;exact hl
 obtain⟨f1,f2⟩:=zcd hle;refine⟨by rw[f1];simp,fun p x v e e'=>?_⟩
 obtain⟨el,h1,h2,h3,h4⟩:=zth hle e;have hel:el=zs:=by
  rw[List.getElem?_replicate] at h3;split at h3<;>simp at h3
  exact h3.symm
 subst hel;have hp:p<len * size:=by have:=(List.getElem?_eq_some_iff.1 e).1;rw[f1] at this;simpa using this
 simp[hp] at e';rw[hzs] at e';have hm:p % size<z.size:=by omega
 rw[getElem!_pos z (p % size) hm] at e';exact hr.2 (p % size) x v h4 (by rw[← e'];simp[hm])
theorem zfc (hw:WRel G c w H)(hnm:c.f nm=none)(hk24:nm+1<2 ^ 24)(t:TypeId){size:Nat}{es:List (List AV)}{arr:Array Value}{n:Nat}(hn:n≤arr.size)(hle:es.length * size≤n)
 (hl:∀(i:Nat) e,es[i]? = some e→e.length=size)(hr:∀(p:Nat) x,es.flatten[p]? = some x→∃v,arr[p]? = some v∧Rel c w x v) :
 Ext c w H (c.bind nm ⟨w.heap.size,0,n,size⟩) (w.alloc (.cells arr t)) (H.set 24 nm (some (.arr size es)))∧WRel G (c.bind nm ⟨w.heap.size,0,n,size⟩) (w.alloc (.cells arr t)) (H.set 24 nm (some (.arr size es))):=by
 refine hw.alloc hnm hk24 t hn hle fun i e he=>⟨hl i e he,fun j x hj=>?_⟩
 have hjs:j<size:=by have:=(List.getElem?_eq_some_iff.1 hj).1;rw[hl i e he] at this;exact this
 have:=(zcd hl).2 i j e he hjs;exact hr _ x (by rw[this];exact hj)
theorem zjr {n size len cap:Nat}(hlen:len≤cap)(hcap:cap * size≤n)(w':World):Rel (c.bind nm ⟨w.heap.size,0,n,size⟩) w' (.slc nm 0 len size) (.slice (some ⟨w.heap.size,0,none⟩) len cap):=
 Rel.slc (B:=⟨w.heap.size,0,n,size⟩) (by simp[Ctx.bind]) rfl hlen (fun _=>⟨by simp,by simpa using hcap⟩)
theorem zkn (hE:EnvOK P E)(hw:WRel G c w H)(hnm:c.f nm=none){t:TypeId}{len:Nat}{ps:List (Nat×AV)}{qs:List (Nat×Value)}(hl:ps.length=qs.length)
 (hpq:∀(i:Nat) p q,ps[i]? = some p→qs[i]? = some q→p.1=q.1∧Rel c w p.2 q.2){x:Eff ⊕ AV}(h:(zir E nm t len ps).run H=some x) :
 OutV G c w H nm x ((Instr.buildSlice t len qs.toArray).run P w):=by
 obtain⟨ti,hti,h⟩:=zao h;obtain⟨d,hd,hd',hdd⟩:=zch (hE.ti t ti hti);cases hdesc:ti.desc with
 | slice e =>
   rw[hdesc] at h hdd;obtain rfl:d = .slice e:=hdd;obtain⟨te,hte,h⟩:=zao h;obtain⟨ie,de,ze,b1,b2,b3,b4,b5,b6,b7,b8,b9,b10,b11⟩:=(hE.ti e te hte).ok;obtain⟨h0,h⟩:=za1 h;simp only[Bool.and_eq_true] at h0;have hbig:=Nat.le_of_ble_eq_true h0.1;have hpos:0<te.size:=by simpa using h0.2
   cases hf:zti te.size (List.replicate len te.zero) ps with
   | none=>rw[hf] at h;exact(zad h).elim
   | some es =>
     rw[hf] at h;obtain⟨hk24,rfl⟩:=zci h;have hle:∀(i:Nat) e,(List.replicate len te.zero)[i]? = some e→e.length=te.size:=by
      intro i e he;rw[List.getElem?_replicate] at he;split at he<;>simp at he
      subst he;exact b9
     obtain⟨g1,g2,g3⟩:=zmm hpos ps _ es hle hf;have hesl:es.length=len:=by simpa using g2
     rcases Nat.eq_zero_or_pos len with h0'|hlen
     · subst h0'
       have hes:es=[]:=List.eq_nil_of_length_eq_zero hesl;have hps:ps=[]:=by
        cases ps with
        | nil=>rfl
        | cons p ps =>
          obtain⟨i,y⟩:=p;have hb:Nat.blt i (List.replicate 0 te.zero).length=false:=rfl;simp only[zti] at hf;rw[hb,Bool.and_false] at hf;cases hf
       subst hps;obtain rfl:qs=[]:=List.eq_nil_of_length_eq_zero (by simpa using hl.symm)
       have hsz:(sizeOf e).run P w = .ok te.size w:=zbu (hE.ti e te hte) w;have hrow:=zfc hw hnm hk24 e (size:=te.size) (es:=es) (arr:=#[]) (n:=0) (by simp) (by simp[hes]) (by simp[hes]) (by simp[hes])
       refine⟨.slice (some ⟨w.heap.size,0,none⟩) 0 0,w.alloc (.cells #[] e),_,?_,hrow.1,hrow.2,zjr (Nat.le_refl _) (by simp) _,Ctx.bind_other⟩
       have hr0:Array.range 0=#[]:=rfl;simp[Instr.buildSlice,hd,hsz,Instr.fill,newRow,hr0]
     · obtain⟨arr',f1,f2,_⟩:=zhr (pl':=fun i=>some (i * ie.size,ie.size)) (c:=c) (w:=w) (fun i p hp=>by rw[b3];exact hp) ps qs _ ((Array.range (len * te.size)).map (ze.cells[· % ze.cells.size]!)) _ hl hpq
        (zkx (len:=len) (b8 c w) b9 hpos) g1
       have hrun:=run_buildSlice (P:=P) w t e len qs.toArray arr' ie ze hd' b1 b7 (by rw[b3];omega) (by rw[b3];have:=Nat.mul_pos hlen hpos;omega) (by rw[b3] at f1 ⊢;simpa using f1)
       have hsz:arr'.size=len * te.size:=by
        have:=f2.1;rw[(zcd g3).1,hesl] at this
        simpa using this.symm
       have hrow := zfc hw hnm hk24 e (size := te.size) (es := es) (arr := arr') (n := len * te.size) (by omega) (by rw [hesl]; exact Nat.le_refl _) g3 (fun p x hp=>by
        obtain⟨v,hv,hr⟩:=f2.get hp;exact⟨v,by simpa using hv,hr⟩)
       exact⟨_,_,_,hrun,hrow.1,hrow.2,zjr (Nat.le_refl _) (Nat.le_refl _) _,Ctx.bind_other⟩
 | _=>rw[hdesc] at h;exact(zad h).elim
theorem zma (hE:EnvOK P E)(hw:WRel G c w H)(hnm:c.f nm=none){t:TypeId}{l cp:AV}{lv cv:Value}(hl:Rel c w l lv)(hc:Rel c w cp cv){x:Eff ⊕ AV}(h:(zex E nm t l cp).run H=some x) :
 OutV G c w H nm x ((Instr.makeSlice t lv cv).run P w):=by
 obtain⟨ti,hti,h⟩:=zao h;obtain⟨d,hd,hd',hdd⟩:=zch (hE.ti t ti hti);cases hdesc:ti.desc with
 | slice e =>
   rw[hdesc] at h hdd;obtain rfl:d = .slice e:=hdd;cases hl with
   | int k1 n1 =>
     cases hc with
     | int k2 n2 =>
       cases k1<;>(try exact(zad h).elim)
       cases k2<;>(try exact(zad h).elim)
       obtain⟨te,hte,h⟩:=zao h;obtain⟨ie,de,ze,b1,b2,b3,b4,b5,b6,b7,b8,b9,b10,b11⟩:=(hE.ti e te hte).ok;obtain⟨h0,h⟩:=za1 h;obtain⟨hk24,rfl⟩:=zci h;simp only[Bool.and_eq_true,decide_eq_true_eq] at h0;obtain⟨⟨⟨⟨h1,h2⟩,h3⟩,h4⟩,h5⟩:=h0;have hpos:0<te.size:=by simpa using h5
       have hwl:IntKind.i64.wrap n1=n1:=by unfold IntKind.wrap IntKind.signed IntKind.bits;simp;omega
       have hwc:IntKind.i64.wrap n2=n2:=by unfold IntKind.wrap IntKind.signed IntKind.bits;simp;omega
       have hti':(typeInfo e).run P w = .ok ie w:=by simp[typeInfo,b1]
       have hsz:(sizeOf e).run P w = .ok te.size w:=zbu (hE.ti e te hte) w;have hz:(zeroValue e).run P w = .ok ze w:=by simp[zeroValue,typeInfo,b1,b7]
       have hnt:¬((ie.bytes:Int) * n2 > 2 ^ 48):=by rw[b4];omega
       have hrow:=zfc hw hnm hk24 e (size:=te.size) (es:=List.replicate n2.toNat te.zero) (arr:=(Array.range (n2.toNat * te.size)).map (ze.cells[· % ze.cells.size]!)) (n:=n2.toNat * te.size) (by simp) (by simp)
        (fun i e he=>by
          rw[List.getElem?_replicate] at he;split at he<;>simp at he
          subst he;exact b9)
        (fun p x hp=>by
          obtain⟨v,hv,hr⟩:=(zkx (len:=n2.toNat) (b8 c w) b9 hpos).get hp;exact⟨v,by rw[← Array.getElem?_toList];exact hv,hr⟩)
       refine⟨.slice (some ⟨w.heap.size,0,none⟩) n1.toNat n2.toNat,_,_,?_,hrow.1,hrow.2,zjr (by omega) (Nat.le_refl _) _,Ctx.bind_other⟩
       have c1:(n2<0 || decide ((ie.bytes:Int) * n2 > 2 ^ 48))=false:=by simp;constructor<;>omega
       have hcond:((n2<0 || decide ((ie.bytes:Int) * n2 > 2 ^ 48)) || decide (n1<0) || decide (n1 > n2))=false:=by
        rw[c1];simp;constructor<;>omega
       rcases Nat.eq_zero_or_pos n2.toNat with hn0|hn0
       · have hn : n2.toNat * te.size = 0 := by rw [hn0]; simp
         simp only[Instr.makeSlice,Sem.run_bind,hd,Result.andThen_ok,asInt,asIntOf,Sem.run_pure,hti',hwl,hwc,hcond,Bool.false_eq_true,if_false,run_askRoom,hsz,hn,if_true,newRow,run_newObj_alloc];have hr0:Array.range 0=#[]:=rfl;simp[hr0]
       · have hn : ¬ n2.toNat * te.size = 0 := by have := Nat.mul_pos hn0 hpos; omega
         simp only[Instr.makeSlice,Sem.run_bind,hd,Result.andThen_ok,asInt,asIntOf,Sem.run_pure,hti',hwl,hwc,hcond,Bool.false_eq_true,if_false,run_askRoom,hsz,hn,hz,newRow,run_newObj_alloc]
     | _=>exact(by cases k1<;>exact(zad h).elim)
   | _=>exact(zad h).elim
 | _=>rw[hdesc] at h;exact(zad h).elim
end
end Go.Ago
end
section
namespace Go.Ago
section
variable {P:Program} {E:Env} {G:zd9} {c:Ctx} {w:World} {H:zah} {nm:Nat}
def zdf (c:Ctx)(w:World):Option AV→Option Value→Prop
 | none,none=>True
 | some x,some v=>Rel c w x v
 | _,_=>False
theorem zca {k:IntKind}{n:Int}{y:Nat}{code:BoundsCode}(h0:0≤n)(h1:n≤y)(w:World):(Instr.sliceBound (.int k n) y code).run P w = .ok n.toNat w:=by
 simp[Instr.sliceBound,asIntOf,h0,h1]
theorem zf7 {d a:Int}{x:Option AV}{v:Option Value}(hb:zdf c w x v)(h:zbr d x=some a):(v=none∧a=d)∨∃k,v=some (.int k a):=by
 cases x with
 | none => cases v with
   | none=>simp[zbr] at h;exact .inl ⟨rfl,h.symm⟩
   | some v=>exact hb.elim
 | some x => cases v with
   | none=>exact hb.elim
   | some v =>
     cases hb with
     | int k n=>simp[zbr] at h;subst h;exact .inr ⟨k,rfl⟩
     | _=>simp[zbr] at h
theorem zdh {isSlice:Bool}{len cap:Nat}{lo hi:Option AV}{lv hv:Option Value}{a b:Int}(hl:zdf c w lo lv)(hh:zdf c w hi hv)(ha:zbr 0 lo=some a)(hb:zbr len hi=some b)
 (h0:0≤a)(h1:a≤b)(h2:b≤len)(hc:len≤cap)(w':World):(Instr.sliceBounds isSlice len cap lv hv none).run P w' = .ok (a.toNat,b.toNat,cap) w':=by
 rcases zf7 hl ha with⟨rfl,rfl⟩|⟨k,rfl⟩<;>rcases zf7 hh hb with⟨rfl,rfl⟩|⟨k',rfl⟩
 · simp[Instr.sliceBounds]
 · simp[Instr.sliceBounds,zca (P:=P) (k:=k') (n:=b) (y:=cap) (by omega) (by omega)]
 · simp[Instr.sliceBounds,zca (P:=P) (k:=k) (n:=a) (y:=len) h0 (by omega)]
 · have : a ≤ (b.toNat : Nat) := by omega
   simp[Instr.sliceBounds,zca (P:=P) (k:=k') (n:=b) (y:=cap) (by omega) (by omega),zca (P:=P) (k:=k) (n:=a) (y:=b.toNat) h0 this]
theorem zh7 {len cap:Nat}{lo hi:Option AV}{lv hv:Option Value}{a b m:Int}{km:IntKind}(hl:zdf c w lo lv)(hh:zdf c w hi hv)(ha:zbr 0 lo=some a)(hb:zbr len hi=some b)
 (h0:0≤a)(h1:a≤b)(h2:b≤m)(hm:m≤cap)(hv':hv≠none)(w':World):(Instr.sliceBounds true len cap lv hv (some (.int km m))).run P w' = .ok (a.toNat,b.toNat,m.toNat) w':=by
 have hmm:=zca (P:=P) (k:=km) (n:=m) (y:=cap) (code := .slice3Acap) (by omega) hm w'
 rcases zf7 hh hb with⟨rfl,rfl⟩|⟨k',rfl⟩
 · exact absurd rfl hv'
 have hbb:=zca (P:=P) (k:=k') (n:=b) (y:=m.toNat) (code := .slice3B) (by omega) (by omega) w'
 rcases zf7 hl ha with⟨rfl,rfl⟩|⟨k,rfl⟩
 · simp[Instr.sliceBounds,hmm,hbb]
 · have haa := zca (P := P) (k := k) (n := a) (y := b.toNat) (code := .slice3C) h0 (by omega) w'
   simp[Instr.sliceBounds,hmm,hbb,haa]
theorem zke (l:List UInt8)(a b:Nat):(⟨l.toArray⟩:ByteArray).extract a b=⟨((l.drop a).take (b - a)).toArray⟩:=by
 apply ByteArray.ext
 apply Array.ext'
 simp[List.extract_eq_take_drop]
theorem zb9 {a b n:Int}(h:zdg a b n=true):0≤a∧a≤b∧b≤n:=by
 simp only[zdg,Bool.and_eq_true,decide_eq_true_eq] at h;exact⟨h.1.1,h.1.2,h.2⟩
theorem zct {es:List (List AV)}(a n:Nat):∀(i:Nat) e,((es.drop a).take n)[i]? = some e→es[a+i]? = some e∧i<n:=by
 intro i e h;rw[List.getElem?_take] at h
 by_cases hi:i<n
 · rw[if_pos hi,List.getElem?_drop] at h;exact⟨h,hi⟩
 · rw[if_neg hi] at h;cases h
theorem zuf {k i sz cap:Nat}{B:Blk}{a:Addr}(hf:c.f k=some B)(hs:B.sz=sz)(hcap:0<cap→a=⟨B.b,B.s+i * sz,none⟩∧(i+cap) * sz≤B.n){l h m:Nat}(h1:l≤h)(h2:h≤m)(h3:m≤cap)(w:World) :
 Rel c w (.slc k (i+l) (h - l) sz) (.slice (if m=l then some a else (some a).map (·.add (l * sz))) (h - l) (m - l)):=by
 by_cases e:m=l
 · subst e
   rw[if_pos rfl];have:h - m=0:=by omega
   rw[this,Nat.sub_self];exact Rel.slc hf hs (Nat.le_refl _) (fun h=>absurd h (by omega))
 · rw [if_neg e]
   obtain⟨rfl,hle⟩:=hcap (by omega)
   refine Rel.slc hf hs (by omega) (fun _=>⟨?_,?_⟩)
   · show (⟨B.b, B.s + i * sz, none⟩ : Addr).add (l * sz) = _
     rw[zcm,Nat.add_mul,Nat.add_assoc]
   · have : (i + l + (m - l)) * sz ≤ (i + cap) * sz := Nat.mul_le_mul_right _ (by omega)
     omega
theorem zuq {es:List (List AV)}{sz cap:Nat}{a:Addr}(vs:Nat→Nat→Value)(hi:0<es.length→c.imm a.block)(hl:∀(i:Nat) e,es[i]? = some e→e.length=sz)
 (hc:∀(i j:Nat),i<es.length→j<sz→w.cell? (a.add (i * sz+j))=some (vs i j))(hr:∀(i j:Nat) e x,es[i]? = some e→e[j]? = some x→Rel c.bare w x (vs i j))
 {l h m:Nat}(h1:l≤h)(h2:h≤es.length)(h3:h≤m)(_h4:m≤cap) :
 Rel c w (.rsl sz ((es.drop l).take (h - l))) (.slice (if m=l then some a else (some a).map (·.add (l * sz))) (h - l) (m - l)):=by
 have hlen:((es.drop l).take (h - l)).length=h - l:=by simp;omega
 have hle:∀(i:Nat) e,((es.drop l).take (h - l))[i]? = some e→e.length=sz:=fun i e he=>hl _ e (zct l (h - l) i e he).1
 by_cases e:m=l
 · rw [if_pos e]
   have h0:(es.drop l).take (h - l)=[]:=List.eq_nil_of_length_eq_zero (by omega)
   have h00:h - l=0:=by omega
   rw[h0,h00];exact Rel.rsl (es:=[]) (fun _ _=>undef) (by simp) (by simp) (by simp) (by simp) (by simp)
 · rw [if_neg e]
   have := Rel.rsl (c := c) (w := w) (es := (es.drop l).take (h - l)) (sz := sz) (cap := m - l) (a := a.add (l * sz)) (fun i j => vs (l + i) j) (by omega) (fun h => by rw [zet]; exact hi (by omega)) hle (fun i j h5 h6=>by
    rw[zhu,← Nat.add_assoc,← Nat.add_mul];exact hc (l+i) j (by omega) h6) (fun i j e x he hx=>hr (l+i) j e x (zct l (h - l) i e he).1 hx)
   rw[hlen] at this;exact this
theorem zsx (hE:EnvOK P E)(hw:WRel G c w H){t:TypeId}{y:AV}{u:Value}(hy:Rel c w y u){lo hi mx:Option AV}{lv hv mv:Option Value}(hlo:zdf c w lo lv)(hhi:zdf c w hi hv)(hmx:zdf c w mx mv)
 {x:Eff ⊕ AV}(h:(zei E t y lo hi mx).run H=some x):OutV G c w H nm x ((Instr.sliceAt t u lv hv mv).run P w):=by
 obtain⟨ti,hti,h⟩:=zao h;obtain⟨d,hd,hd',hdd⟩:=zch (hE.ti t ti hti);cases hdesc:ti.desc with
 | string =>
   rw[hdesc] at h hdd;obtain rfl:d = .string:=hdd;cases hy with
   | str l =>
     dsimp only at h;cases mx with
     | some _=>exact(zad h).elim
     | none =>
       cases mv with
       | some _=>exact hmx.elim
       | none =>
         cases ha:zbr 0 lo with
         | none=>rw[ha] at h;exact(zad h).elim
         | some a =>
           cases hb:zbr l.length hi with
           | none=>rw[ha,hb] at h;exact(zad h).elim
           | some b =>
             rw[ha,hb] at h;obtain⟨h0,h⟩:=za1 h;obtain rfl:=zan h;obtain⟨h1,h2,h3⟩:=zb9 h0;have hsz:(⟨l.toArray⟩:ByteArray).size=l.length:=by simp[ByteArray.size]
             have hbd:=zdh (P:=P) (isSlice:=false) (len:=l.length) (cap:=l.length) hlo hhi ha hb h1 h2 h3 (Nat.le_refl _) w;simp only[Instr.sliceAt,Sem.run_bind,hd,Result.andThen_ok,Instr.slice,Option.isSome_none,Bool.false_eq_true,if_false,hsz,hbd,Sem.run_pure,zke];exact zak hw (.str _)
   | _=>exact(zad h).elim
 | slice e =>
   rw[hdesc] at h hdd;obtain rfl:d = .slice e:=hdd;have hunf:∀u',(Instr.sliceAt t u' lv hv mv).run P w=(Instr.slice t u' lv hv mv).run P w:=fun u'=>by simp[Instr.sliceAt,hd]
   rw[hunf];have hse:∀te,E.ti e=some te→(sizeOf e).run P w = .ok te.size w:=fun te hte=>zbu (hE.ti e te hte) w
   cases hy with
   | nils =>
     obtain⟨te,hte,h⟩:=zao h;cases mx with
     | some _=>exact(zad h).elim
     | none =>
       cases mv with
       | some _=>exact hmx.elim
       | none =>
         cases ha:zbr 0 lo with
         | none=>rw[ha] at h;exact(zad h).elim
         | some a =>
           cases hb:zbr 0 hi with
           | none=>rw[ha,hb] at h;exact(zad h).elim
           | some b =>
             rw[ha,hb] at h;obtain⟨h0,h⟩:=za1 h;obtain rfl:=zan h;obtain⟨h1,h2,h3⟩:=zb9 h0;obtain rfl:a=0:=by omega
             obtain rfl:b=0:=by omega
             have hbd:=zdh (P:=P) (isSlice:=true) (len:=0) (cap:=0) hlo hhi ha hb h1 h2 h3 (Nat.le_refl _) w;simp only[Instr.slice,Sem.run_bind,hd,Result.andThen_ok,hbd,hse te hte,Sem.run_pure];simp only[Int.toNat_zero,Nat.sub_self,if_true];exact zak hw .nils
   | emptn =>
     obtain⟨te,hte,h⟩:=zao h;cases mx with
     | some _=>exact(zad h).elim
     | none =>
       cases mv with
       | some _=>exact hmx.elim
       | none =>
         cases ha:zbr 0 lo with
         | none=>rw[ha] at h;exact(zad h).elim
         | some a =>
           cases hb:zbr 0 hi with
           | none=>rw[ha,hb] at h;exact(zad h).elim
           | some b =>
             rw[ha,hb] at h;obtain⟨h0,h⟩:=za1 h;obtain rfl:=zan h;obtain⟨h1,h2,h3⟩:=zb9 h0;obtain rfl:a=0:=by omega
             obtain rfl:b=0:=by omega
             have hbd:=zdh (P:=P) (isSlice:=true) (len:=0) (cap:=0) hlo hhi ha hb h1 h2 h3 (Nat.le_refl _) w;simp only[Instr.slice,Sem.run_bind,hd,Result.andThen_ok,hbd,hse te hte,Sem.run_pure];simp only[Int.toNat_zero,Nat.sub_self,if_true];exact zak hw .emptn
   | rnil sz =>
     obtain⟨te,hte,h⟩:=zao h;obtain⟨hsz,h⟩:=za1 h;cases ha:zbr 0 lo with
     | none=>rw[ha] at h;exact(zad h).elim
     | some a =>
       cases hb:zbr ([]:List (List AV)).length hi with
       | none=>rw[ha,hb] at h;exact(zad h).elim
       | some b =>
         rw[ha,hb] at h;dsimp only at h;cases mx with
         | none =>
           cases mv with
           | some _=>exact hmx.elim
           | none =>
             obtain⟨h0,h⟩:=za1 h;obtain rfl:=zan h;obtain⟨h1,h2,h3⟩:=zb9 h0;simp only[List.length_nil] at hb h3;obtain rfl:a=0:=by omega
             obtain rfl:b=0:=by omega
             have hbd:=zdh (P:=P) (isSlice:=true) (len:=0) (cap:=0) hlo hhi ha hb h1 h2 h3 (Nat.le_refl _) w;simp only[Instr.slice,Sem.run_bind,hd,Result.andThen_ok,hbd,hse te hte,Sem.run_pure];simp only[Int.toNat_zero,Nat.sub_self,if_true];exact zak hw (.rnil sz)
         | some mxv =>
           cases mv with
           | none=>exact hmx.elim
           | some mvv =>
             cases hi with
             | none=>cases hmx<;>exact(zad h).elim
             | some hi'' =>
               cases hmx with
               | int km m =>
                 obtain⟨h0,h⟩:=za1 h;simp only[Bool.and_eq_true,decide_eq_true_eq] at h0;obtain⟨h1,h2,h3⟩:=zb9 h0.1;simp only[List.length_nil] at hb h0;obtain rfl:a=0:=by omega
                 obtain rfl:b=0:=by omega
                 obtain rfl:m=0:=by omega
                 have hbd:=zh7 (P:=P) (len:=0) (cap:=0) (km:=km) hlo hhi ha hb h1 h2 h3 (by omega) (by cases hv<;>simp_all[zdf]) w
                 simp only[Instr.slice,Sem.run_bind,hd,Result.andThen_ok,hbd,hse te hte,Sem.run_pure];rcases znv h with⟨e1,h⟩|⟨e1,h⟩
                 · obtain rfl := zan h
                   simp only[Int.toNat_zero,Nat.sub_self,if_true];exact zak hw .emptn
                 · simp at e1
               | _=>exact(zad h).elim
   | empt ad =>
     obtain⟨te,hte,h⟩:=zao h;cases mx with
     | some _=>exact(zad h).elim
     | none =>
       cases mv with
       | some _=>exact hmx.elim
       | none =>
         cases ha:zbr 0 lo with
         | none=>rw[ha] at h;exact(zad h).elim
         | some a =>
           cases hb:zbr 0 hi with
           | none=>rw[ha,hb] at h;exact(zad h).elim
           | some b =>
             rw[ha,hb] at h;obtain⟨h0,h⟩:=za1 h;obtain rfl:=zan h;obtain⟨h1,h2,h3⟩:=zb9 h0;obtain rfl:a=0:=by omega
             obtain rfl:b=0:=by omega
             have hbd:=zdh (P:=P) (isSlice:=true) (len:=0) (cap:=0) hlo hhi ha hb h1 h2 h3 (Nat.le_refl _) w;simp only[Instr.slice,Sem.run_bind,hd,Result.andThen_ok,hbd,hse te hte,Sem.run_pure];simp only[Int.toNat_zero,Nat.sub_self,if_true];exact zak hw (.empt ad)
   | @slc _ _ k i len sz cap B ad hf hs hlen hcap =>
     obtain⟨te,hte,h⟩:=zao h;obtain⟨hsz,h⟩:=za1 h;have hsz:sz=te.size:=by simpa using hsz
     subst hsz;cases ha:zbr 0 lo with
     | none=>rw[ha] at h;exact(zad h).elim
     | some a =>
       cases hb:zbr len hi with
       | none=>rw[ha,hb] at h;exact(zad h).elim
       | some b =>
         rw[ha,hb] at h;dsimp only at h;cases mx with
         | none =>
           cases mv with
           | some _=>exact hmx.elim
           | none =>
             obtain⟨h0,h⟩:=za1 h;obtain rfl:=zan h;obtain⟨h1,h2,h3⟩:=zb9 h0;have hbd:=zdh (P:=P) (isSlice:=true) (len:=len) (cap:=cap) hlo hhi ha hb h1 h2 h3 hlen w;simp only[Instr.slice,Sem.run_bind,hd,Result.andThen_ok,hbd,hse te hte,Sem.run_pure];exact zak hw (zuf hf hs hcap (by omega) (by omega) (Nat.le_refl _) w)
         | some mxv =>
           cases mv with
           | none=>exact hmx.elim
           | some mvv =>
             cases hi with
             | none=>cases hmx<;>exact(zad h).elim
             | some hi' =>
               cases hmx with
               | int km m =>
                 obtain⟨h0,h⟩:=za1 h;simp only[Bool.and_eq_true,decide_eq_true_eq] at h0;obtain⟨h1,h2,h3⟩:=zb9 h0.1;have hbd:=zh7 (P:=P) (len:=len) (cap:=cap) (km:=km) hlo hhi ha hb h1 h2 h3 (by omega) (by cases hv<;>simp_all[zdf]) w
                 simp only[Instr.slice,Sem.run_bind,hd,Result.andThen_ok,hbd,hse te hte,Sem.run_pure];rcases znv h with⟨e1,h⟩|⟨e1,h⟩
                 · obtain rfl := zan h
                   have e1:a=m:=by simpa using e1
                   subst e1;obtain rfl:b=a:=by omega
                   simp only[Nat.sub_self,if_true];exact zak hw (.empt ad)
                 · obtain rfl := zan h
                   exact zak hw (zuf hf hs hcap (by omega) (by omega) (by omega) w)
               | _=>exact(zad h).elim
   | @rsl _ _ sz es cap ad vs hlen hi' hl hc hr =>
     obtain⟨te,hte,h⟩:=zao h;obtain⟨hsz,h⟩:=za1 h;have hsz:sz=te.size:=by simpa using hsz
     subst hsz;cases ha:zbr 0 lo with
     | none=>rw[ha] at h;exact(zad h).elim
     | some a =>
       cases hb:zbr es.length hi with
       | none=>rw[ha,hb] at h;exact(zad h).elim
       | some b =>
         rw[ha,hb] at h;dsimp only at h;cases mx with
         | none =>
           cases mv with
           | some _=>exact hmx.elim
           | none =>
             obtain⟨h0,h⟩:=za1 h;obtain rfl:=zan h;obtain⟨h1,h2,h3⟩:=zb9 h0;have hbd:=zdh (P:=P) (isSlice:=true) (len:=es.length) (cap:=cap) hlo hhi ha hb h1 h2 h3 hlen w;simp only[Instr.slice,Sem.run_bind,hd,Result.andThen_ok,hbd,hse te hte,Sem.run_pure];exact zak hw (zuq vs hi' hl hc hr (by omega) (by omega) (by omega) (Nat.le_refl _))
         | some mxv =>
           cases mv with
           | none=>exact hmx.elim
           | some mvv =>
             cases hi with
             | none=>cases hmx<;>exact(zad h).elim
             | some hi'' =>
               cases hmx with
               | int km m =>
                 obtain⟨h0,h⟩:=za1 h;simp only[Bool.and_eq_true,decide_eq_true_eq] at h0;obtain⟨h1,h2,h3⟩:=zb9 h0.1;have hbd:=zh7 (P:=P) (len:=es.length) (cap:=cap) (km:=km) hlo hhi ha hb h1 h2 h3 (by omega) (by cases hv<;>simp_all[zdf]) w
                 simp only[Instr.slice,Sem.run_bind,hd,Result.andThen_ok,hbd,hse te hte,Sem.run_pure];rcases znv h with⟨e1,h⟩|⟨e1,h⟩
                 · obtain rfl := zan h
                   have e1:a=m:=by simpa using e1
                   subst e1;obtain rfl:b=a:=by omega
                   simp only[Nat.sub_self,if_true];exact zak hw (.empt ad)
                 · obtain rfl := zan h
                   exact zak hw (zuq (cap:=cap) vs hi' hl hc hr (by omega) (by omega) (by omega) (by omega))
               | _=>exact(zad h).elim
   | _=>exact(zad h).elim
 | _=>rw[hdesc] at h;exact(zad h).elim
end
end Go.Ago
end
