/-
  Part 4: lemmas, each with its own conditions.
-/
import Derived.ChangeKeysEq
import Derived.Laws.StructEq
import Derived.Laws.BytesString
import Derived.Laws.Runes
import Derived.Lib.ConvBytes
import Derived.Laws.AppendOwn
import Derived.Test.YthaolifcglpkdaaGreatDoorA03
set_option maxRecDepth 100000
set_option maxHeartbeats 0
set_option linter.all false
section
namespace Go.Ago
section
variable {P:Program} {E:Env} {G:zd9} {c:Ctx} {w:World} {H:zah} {nm:Nat}
def zjm (agg:Bool)(vs:List Value):Value:=match agg with
 | true => .agg vs.toArray
 | false=>vs.headD undef
theorem zrk (hE:EnvOK P E)(d:Nat):∀(t:TypeId) (ti:TI) (xs ys:List AV) (vs us:List Value) (b:Bool),E.ti t=some ti→eqA E d t xs ys=some b→RelL c w xs vs→RelL c w ys us →
 ∀n,d≤n→(Op.equalIn n t (zjm ti.agg vs) (zjm ti.agg us)).run P w = .ok b w:=by
 induction d with
 | zero=>intro t ti xs ys vs us b _ h;simp[eqA] at h
 | succ d ih =>
   intro t ti xs ys vs us b hti h hx hy n hn;obtain⟨n,rfl⟩:∃m,n=m+1:=⟨n - 1,by omega⟩
   simp only[eqA,hti] at h;have ht:=hE.ti t ti hti;obtain⟨info,dd,z,a1,a2,a3,a4,a5,a6,a7,a8,a9,a10,a11⟩:=ht.ok;cases hq:ti.eqok with
   | false=>rw[hq] at h;cases h
   | true =>
     rw[hq] at h;dsimp only at h;cases hdesc:ti.desc with
     | int k =>
       rw[hdesc] at h a6;obtain rfl:dd = .int k:=a6;have hag:ti.agg=false:=a5
       match xs,ys,h with
       | [.int k1 x], [.int k2 y], h =>
         obtain⟨v,vs',rfl,hv,hvs⟩:=hx.inv_cons;obtain⟨u,us',rfl,hu,hus⟩:=hy.inv_cons;cases hv;cases hu;dsimp only at h;cases hk:decide (k1=k2) with
         | false=>rw[hk] at h;cases h
         | true =>
           rw[hk] at h;have hk:k1=k2:=by simpa using hk
           subst hk;simp only[Option.some.injEq] at h;subst h;simp[Op.equalIn,run_underlying a2,hag,zjm]
     | bool =>
       rw[hdesc] at h a6;obtain rfl:dd = .bool:=a6;have hag:ti.agg=false:=a5
       match xs,ys,h with
       | [.bool x], [.bool y], h =>
         obtain⟨v,vs',rfl,hv,hvs⟩:=hx.inv_cons;obtain⟨u,us',rfl,hu,hus⟩:=hy.inv_cons;cases hv;cases hu;simp only[Option.some.injEq] at h;subst h;simp[Op.equalIn,run_underlying a2,hag,zjm]
     | string =>
       rw[hdesc] at h a6;obtain rfl:dd = .string:=a6;have hag:ti.agg=false:=a5
       match xs,ys,h with
       | [.str x], [.str y], h =>
         obtain⟨v,vs',rfl,hv,hvs⟩:=hx.inv_cons;obtain⟨u,us',rfl,hu,hus⟩:=hy.inv_cons;cases hv;cases hu;simp only[Option.some.injEq] at h;subst h;simp only[Op.equalIn,Sem.run_bind,run_underlying a2,Result.andThen_ok,hag,zjm,List.headD_cons,Sem.run_pure]
         congr 1
         rw[beq_toListBytes,ByteArray.toList_mk,ByteArray.toList_mk]
     | struct fs =>
       rw[hdesc] at h a6;dsimp only at h;obtain⟨fields,rfl,hsz,hfs⟩:=a6;have hag:ti.agg=true:=a5;have hst:=(ht.eqok hq).2 fs hdesc;have hfo:P.fieldsOf t=fields:=by simp[Program.fieldsOf,a2]
       simp only[hag,zjm];rw[run_equalIn_struct w n t vs.toArray us.toArray (by rw[hfo];exact a2) hst,hfo]
       have hfl:fields.toList.length=fs.length:=by simpa using hsz
       have hfs':∀(i off sz:Nat) (t:TypeId),fs[i]? = some (off,sz,t)→∃f info,fields.toList[i]? = some f∧f.offset=off∧f.type=t∧P.info? t=some info∧info.size=sz∧f.name ≠ "_":=
        fun i off sz t e=>by
         obtain⟨f,info,b1,b2⟩:=hfs i off sz t e;exact⟨f,info,by simpa using b1,b2⟩
       clear a2 a5 hfs hsz hfo hdesc
       generalize fields.toList=fl at *
       clear fields
       induction fs generalizing fl b with
       | nil =>
         obtain rfl:fl=[]:=List.eq_nil_of_length_eq_zero (by simpa using hfl)
         simp only[eqA.eqF,Option.some.injEq] at h;subst h;simp[Op.eqFields]
       | cons q fs ihf =>
         obtain⟨off,sz,ft⟩:=q;cases fl with
         | nil=>simp at hfl
         | cons f fl =>
           obtain⟨f',finfo,b1,b2,b3,b4,b5,b6⟩:=hfs' 0 off sz ft rfl;simp at b1;subst b1;simp only[eqA.eqF] at h;cases hle:(Nat.ble (off+sz) xs.length && Nat.ble (off+sz) ys.length) with
           | false=>rw[hle] at h;cases h
           | true =>
             rw[hle] at h;dsimp only at h;simp only[Bool.and_eq_true] at hle;have hle1:=Nat.le_of_ble_eq_true hle.1;have hle2:=Nat.le_of_ble_eq_true hle.2;cases h1:eqA E d ft ((xs.drop off).take sz) ((ys.drop off).take sz) with
             | none=>rw[h1] at h;cases h
             | some r1 =>
               cases h2:eqA.eqF (eqA E d) fs xs ys with
               | none=>rw[h1,h2] at h;cases h
               | some r2 =>
                 rw[h1,h2] at h;simp only[Option.some.injEq] at h;subst h;have hft:∃tf,E.ti ft=some tf:=by
                  cases d with
                  | zero=>simp[eqA] at h1
                  | succ d =>
                    simp only[eqA] at h1;cases e:E.ti ft with
                    | none=>rw[e] at h1;cases h1
                    | some tf=>exact⟨tf,rfl⟩
                 obtain⟨tf,htf⟩:=hft;have htfo:=hE.ti ft tf htf;have hsz:tf.size=sz:=by
                  obtain⟨i2,_,_,c1,_,c3,_⟩:=htfo.ok;rw[b4] at c1;cases c1;rw[← c3,b5]
                 have hpart:∀{zs:List AV} {ws:List Value},RelL c w zs ws→off+sz≤zs.length→(part ft ws.toArray off).run P w = .ok (zjm tf.agg ((ws.drop off).take sz)) w:=by
                  intro zs ws hr hl;have hwl:zs.length=ws.length:=hr.1;simp only[part,Sem.run_bind,zfb htfo,Result.andThen_ok];cases hag2:tf.agg with
                  | true =>
                    simp only[if_true,Sem.run_bind,zbu htfo,Result.andThen_ok,Sem.run_pure,zjm,hsz]
                    congr 2
                    apply Array.ext'
                    simp[List.extract_eq_take_drop]
                  | false =>
                    have h1z:0<sz:=by
                     obtain⟨_,_,z,_,_,_,_,_,_,_,e8,e9,_,e11⟩:=htfo.ok;have h11:=e11 c w;rw[hag2] at h11;rcases Nat.eq_zero_or_pos sz with h0|h0
                     · exfalso
                       have hz0:tf.zero=[]:=List.eq_nil_of_length_eq_zero (by omega)
                       have he8:=e8 c w;rw[hz0] at he8;have:=he8.inv_nil;cases d with
                       | zero=>simp[eqA] at h1
                       | succ d =>
                         simp only[eqA,htf] at h1;subst h0;cases hq2:tf.eqok<;>rw[hq2] at h1<;>dsimp only at h1
                         · cases h1
                         · cases hd2 : tf.desc <;> rw [hd2] at h1 <;> simp at h1
                           · obtain ⟨_, dd2, _, _, _, _, _, g5, g6, _⟩ := htfo.ok
                             rw[hd2] at g6;obtain⟨_,rfl,_⟩:=g6;rw[hag2] at g5;cases g5
                           · obtain ⟨_, dd2, _, _, _, _, _, g5, g6, _⟩ := htfo.ok
                             rw[hd2] at g6;obtain rfl:=g6;rw[hag2] at g5;cases g5
                     · exact h0
                    have hlt:off<ws.length:=by omega
                    simp only[Bool.false_eq_true,if_false,List.getElem?_toArray,List.getElem?_eq_getElem hlt,Sem.run_pure,zjm]
                    congr 1
                    rw[List.headD_eq_head?_getD,List.head?_take,if_neg (by omega),List.head?_drop,List.getElem?_eq_getElem hlt]
                    rfl
                 have e1:=ih ft tf _ _ _ _ r1 htf h1 ((hx.drop off).take sz) ((hy.drop off).take sz) n (by omega)
                 have e2 := ihf r2 h2 fl (by simpa using hfl) (fun i o s t e=>by
                  obtain⟨g,info,c1,c2⟩:=hfs' (i+1) o s t (by simpa using e)
                  exact⟨g,info,by simpa using c1,c2⟩)
                 simp only[Op.eqFields,b6,ne_eq,not_false_eq_true,if_true,Sem.run_bind,b3,b2,hpart hx hle1,hpart hy hle2,Result.andThen_ok,e1];cases r1 with
                 | true=>simpa using e2
                 | false=>simp
     | array len e =>
       rw[hdesc] at h a6;dsimp only at h;obtain rfl:dd = .array len e:=a6;have hag:ti.agg=true:=a5;cases hte:E.ti e with
       | none=>rw[hte] at h;cases h
       | some tf =>
         rw[hte] at h;dsimp only at h;have htfo:=hE.ti e tf hte;obtain⟨i2,_,_,c1,_,_,_⟩:=htfo.ok;have hcell:P.cellsOf e=tf.size:=by
          have k1:=run_sizeOf (P:=P) w c1;rw[zbu htfo] at k1
          injection k1 with k1
          exact k1.symm
         simp only[hag,zjm];rw[run_equalIn_array (w:=w) n vs.toArray us.toArray a2 c1,hcell];clear a2 a5 hdesc
         generalize List.range len=is at h
         induction is generalizing b with
         | nil =>
           simp only[List.map_nil,eqA.eqF,Option.some.injEq] at h;subst h;simp[Op.eqItems]
         | cons j is ihf =>
           simp only[List.map_cons,eqA.eqF] at h;cases hle:(Nat.ble (j * tf.size+tf.size) xs.length && Nat.ble (j * tf.size+tf.size) ys.length) with
           | false=>rw[hle] at h;cases h
           | true =>
             rw[hle] at h;dsimp only at h;simp only[Bool.and_eq_true] at hle;have hle1:=Nat.le_of_ble_eq_true hle.1;have hle2:=Nat.le_of_ble_eq_true hle.2;cases h1:eqA E d e ((xs.drop (j * tf.size)).take tf.size) ((ys.drop (j * tf.size)).take tf.size) with
             | none=>rw[h1] at h;cases h
             | some r1 =>
               cases h2:eqA.eqF (eqA E d) (is.map fun i=>(i * tf.size,tf.size,e)) xs ys with
               | none=>rw[h1,h2] at h;cases h
               | some r2 =>
                 rw[h1,h2] at h;simp only[Option.some.injEq] at h;subst h;have hpart:∀{zs:List AV} {ws:List Value},RelL c w zs ws→j * tf.size+tf.size≤zs.length→(part e ws.toArray (j * tf.size)).run P w = .ok (zjm tf.agg ((ws.drop (j * tf.size)).take tf.size)) w:=by
                  intro zs ws hr hl;have hwl:zs.length=ws.length:=hr.1;simp only[part,Sem.run_bind,zfb htfo,Result.andThen_ok];cases hag2:tf.agg with
                  | true =>
                    simp only[if_true,Sem.run_bind,zbu htfo,Result.andThen_ok,Sem.run_pure,zjm]
                    congr 2
                    apply Array.ext'
                    simp[List.extract_eq_take_drop]
                  | false =>
                    have h1z:0<tf.size:=by
                     obtain⟨_,_,z,_,_,_,_,_,_,_,e8,e9,_,e11⟩:=htfo.ok;rcases Nat.eq_zero_or_pos tf.size with h0|h0
                     · exfalso
                       cases d with
                       | zero=>simp[eqA] at h1
                       | succ d =>
                         simp only[eqA,hte] at h1;rw[h0] at h1;cases hq2:tf.eqok<;>rw[hq2] at h1<;>dsimp only at h1
                         · cases h1
                         · cases hd2 : tf.desc <;> rw [hd2] at h1 <;> simp at h1
                           · obtain ⟨_, dd2, _, _, _, _, _, g5, g6, _⟩ := htfo.ok
                             rw[hd2] at g6;obtain⟨_,rfl,_⟩:=g6;rw[hag2] at g5;cases g5
                           · obtain ⟨_, dd2, _, _, _, _, _, g5, g6, _⟩ := htfo.ok
                             rw[hd2] at g6;obtain rfl:=g6;rw[hag2] at g5;cases g5
                     · exact h0
                    have hlt:j * tf.size<ws.length:=by omega
                    simp only[Bool.false_eq_true,if_false,List.getElem?_toArray,List.getElem?_eq_getElem hlt,Sem.run_pure,zjm]
                    congr 1
                    rw[List.headD_eq_head?_getD,List.head?_take,if_neg (by omega),List.head?_drop,List.getElem?_eq_getElem hlt]
                    rfl
                 have e1:=ih e tf _ _ _ _ r1 hte h1 ((hx.drop (j * tf.size)).take tf.size) ((hy.drop (j * tf.size)).take tf.size) n (by omega)
                 have e2:=ihf r2 h2;simp only[Op.eqItems,Sem.run_bind,hpart hx hle1,hpart hy hle2,Result.andThen_ok,e1];cases r1 with
                 | true=>simpa using e2
                 | false=>simp
     | _=>rw[hdesc] at h;cases h
theorem zr7 {t:TypeId}(hE:EnvOK P E){xs ys:List AV}{b:Bool}(h:eqA E 10 t xs ys=some b):P.eqGuardType P.depth t=false:=by
 simp only[eqA] at h;cases e:E.ti t with
 | none=>rw[e] at h;cases h
 | some ti =>
   rw[e] at h;dsimp only at h;cases hq:ti.eqok with
   | false=>rw[hq] at h;cases h
   | true=>exact((hE.ti t ti e).eqok hq).1
theorem zeq {t:TypeId}{v u:Value}{b:Bool}(h:∀d,(Op.equalIn (d+1) t v u).run P w = .ok b w):(Op.equal t v u).run P w = .ok b w:=h 9999
theorem zf4 (hw:WRel G c w H){neq:Bool}{t:TypeId}{ox oy:Operand}{v u:Value}{b:Bool}(hg:∀op,(eqGuard op t ox oy v u).run P w = .ok () w)
 (hb:binOp .eql t v u=(do pure (.bool (← Op.equal t v u)):Sem Value))(hb':binOp .neq t v u=(do pure (.bool (!(← Op.equal t v u))):Sem Value))(he:(Op.equal t v u).run P w = .ok b w) :
 OutV G c w H nm (.inl ⟨.bool (zkj neq b),[]⟩) ((do eqGuard (if neq then .neq else .eql) t ox oy v u;binOp (if neq then .neq else .eql) t v u:Sem Value).run P w):=by
 simp only[Sem.run_bind,hg,Result.andThen_ok];cases neq
 · simp only [Bool.false_eq_true, if_false, hb, Sem.run_bind, he, Result.andThen_ok, Sem.run_pure]
   exact zak hw (.bool _)
 · simp only [if_true, hb', Sem.run_bind, he, Result.andThen_ok, Sem.run_pure]
   exact zak hw (.bool _)
theorem ztl {op:BinOp}{t:TypeId}{ox oy:Operand}(hc:(zb6 ox || zb6 oy)=true):(eqGuard op t ox oy .nilIface .nilIface).run P w = .ok () w:=by
 unfold eqGuard
 generalize Op.maxDepth=D
 cases ox<;>cases oy<;>first|(simp[zb6] at hc;done)|(split<;>simp)
theorem zq5 {x:AV}{v:Value}(h:Rel c w x v)(b:Bool)(e:zmd x=some b):(b=true∧v = .slice none 0 0)∨(b=false∧∃a len cap,v = .slice (some a) len cap):=by
 cases h with
 | nils=>simp only[zmd,Option.some.injEq] at e;exact .inl ⟨e.symm,rfl⟩
 | slc _ _ _ _=>simp only[zmd,Option.some.injEq] at e;exact .inr ⟨e.symm,_,_,_,rfl⟩
 | @rsl _ _ sz es cap a vs _ _ _ _ _ =>
   cases es with
   | nil=>simp[zmd] at e
   | cons y ys=>simp only[zmd,Option.some.injEq] at e;exact .inr ⟨e.symm,_,_,_,rfl⟩
 | _=>simp[zmd] at e
set_option maxHeartbeats 2000000 in
theorem zri (hE:EnvOK P E)(hw:WRel G c w H){neq:Bool}{t:TypeId}{ox oy:Operand}{x y:AV}{v u:Value}(hx:Rel c w x v)(hy:Rel c w y u){r:Eff ⊕ AV}
 (h:(zqd E neq t (zb6 ox || zb6 oy) x y).run H=some r) :
 OutV G c w H nm r ((do eqGuard (if neq then .neq else .eql) t ox oy v u;binOp (if neq then .neq else .eql) t v u:Sem Value).run P w):=by
 obtain⟨ti,hti,h⟩:=zao h;have ht:=hE.ti t ti hti;obtain⟨info,d,z,a1,a2,a3,a4,a5,a6,a7,a8,a9,a10,a11⟩:=ht.ok;cases hdesc:ti.desc with
 | bool =>
   rw[hdesc] at h a6;obtain rfl:d = .bool:=a6;cases hx with
   | bool a =>
     cases hy with
     | bool b =>
       obtain rfl:=zan h;exact zf4 hw (fun op=>by unfold eqGuard;split<;>simp) rfl rfl (zeq fun d=>by simp[Op.equalIn,run_underlying a2])
     | _=>exact(zad h).elim
   | _=>exact(zad h).elim
 | ptr =>
   rw[hdesc] at h a6;obtain⟨e,rfl⟩:=a6;cases hx<;>cases hy<;>(try exact(zad h).elim)<;>
    (obtain rfl := zan h
     exact zf4 hw (fun op=>by unfold eqGuard;split<;>simp) rfl rfl (zeq fun d=>by simp[Op.equalIn,run_underlying a2]))
 | slice e =>
   rw[hdesc] at h a6;obtain rfl:d = .slice e:=a6;have hnx:=zq5 hx;have hny:=zq5 hy;dsimp only at h;cases ex:zmd x with
   | none=>rw[ex] at h;cases ey:zmd y<;>rw[ey] at h<;>(try cases ‹Bool›)<;>exact(zad h).elim
   | some p =>
     cases ey:zmd y with
     | none=>rw[ex,ey] at h;cases p<;>exact(zad h).elim
     | some q =>
       rw[ex,ey] at h;have h1:=hnx p ex;have h2:=hny q ey;cases p<;>cases q<;>(try exact(zad h).elim)<;>simp only[Bool.false_eq_true,Bool.true_eq_false,false_and,true_and,or_false,false_or,reduceCtorEq] at h1 h2<;>
        (obtain rfl := zan h
         first
          | (obtain⟨a1',l1,c1,rfl⟩:=h1;subst h2)
          | (obtain⟨a1',l1,c1,rfl⟩:=h2;subst h1)
          | (subst h1;subst h2)
         exact zf4 hw (fun op=>by unfold eqGuard;split<;>simp) rfl rfl (zeq fun d=>by simp[Op.equalIn,run_underlying a2]))
 | func =>
   rw[hdesc] at h a6;obtain⟨p,q,s,rfl⟩:=a6;cases hx<;>cases hy<;>(try exact(zad h).elim)<;>
    (obtain rfl := zan h
     exact zf4 hw (fun op=>by unfold eqGuard;split<;>simp) rfl rfl (zeq fun d=>by simp[Op.equalIn,run_underlying a2]))
 | iface =>
   rw[hdesc] at h a6;obtain⟨ms,rfl⟩:=a6;cases hx with
   | nili =>
     cases hy with
     | nili =>
       cases hc:(zb6 ox || zb6 oy) with
       | false=>rw[hc] at h;exact(zad h).elim
       | true =>
         rw[hc] at h;obtain rfl:=zan h;exact zf4 hw (fun op=>ztl hc) rfl rfl (zeq fun d=>by simp[Op.equalIn,run_underlying a2])
     | ifc t' hv =>
       obtain rfl:=zan h;exact zf4 hw (fun op=>by unfold eqGuard;split<;>simp) rfl rfl (zeq fun d=>by simp[Op.equalIn,run_underlying a2])
     | _=>exact(zad h).elim
   | ifc t' hv =>
     cases hy with
     | nili =>
       obtain rfl:=zan h;exact zf4 hw (fun op=>by unfold eqGuard;split<;>simp) rfl rfl (zeq fun d=>by simp[Op.equalIn,run_underlying a2])
     | _=>exact(zad h).elim
   | _=>exact(zad h).elim
 | struct fs =>
   rw[hdesc] at h a6;obtain⟨fields,rfl,_⟩:=a6;have hag:ti.agg=true:=a5;cases hx with
   | @agg _ _ xs vs hl hr =>
     cases hy with
     | @agg _ _ ys us hl' hr' =>
       dsimp only at h;cases he:eqA E 10 t xs ys with
       | none=>rw[he] at h;exact(zad h).elim
       | some b =>
         rw[he] at h;obtain rfl:=zan h;have hg:=zr7 hE he;have hrun:=zrk (c:=c) (w:=w) hE 10 t ti xs ys vs us b hti he ⟨hl,hr⟩ ⟨hl',hr'⟩;rw[hag] at hrun;exact zf4 hw (fun op=>by unfold eqGuard;split<;>simp[hg]) rfl rfl (hrun 10000 (by omega))
     | _=>exact(zad h).elim
   | _=>exact(zad h).elim
 | array len e =>
   rw[hdesc] at h a6;obtain rfl:=a6;have hag:ti.agg=true:=a5;cases hx with
   | @agg _ _ xs vs hl hr =>
     cases hy with
     | @agg _ _ ys us hl' hr' =>
       dsimp only at h;cases he:eqA E 10 t xs ys with
       | none=>rw[he] at h;exact(zad h).elim
       | some b =>
         rw[he] at h;obtain rfl:=zan h;have hg:=zr7 hE he;have hrun:=zrk (c:=c) (w:=w) hE 10 t ti xs ys vs us b hti he ⟨hl,hr⟩ ⟨hl',hr'⟩;rw[hag] at hrun;exact zf4 hw (fun op=>by unfold eqGuard;split<;>simp[hg]) rfl rfl (hrun 10000 (by omega))
     | _=>exact(zad h).elim
   | _=>exact(zad h).elim
 | _=>rw[hdesc] at h;exact(zad h).elim
theorem zp6 (k:IntKind)(op:BinOp)(x y:Int)(h:op = .and∨op = .or∨op = .xor∨op = .andNot)(w:World):(Op.intBits op k x y).run P w = .ok (.int k (zcs op k x y)) w:=by
 rcases h with rfl|rfl|rfl|rfl<;>simp[Op.intBits,zcs]
theorem ycr (hE:EnvOK P E)(hw:WRel G c w H){op:BinOp}{t:TypeId}{ox oy:Operand}{x y:AV}{v u:Value}(hx:Rel c w x v)(hy:Rel c w y u){r:Eff ⊕ AV}
 (h:(zhz E op t (zb6 ox || zb6 oy) x y).run H=some r) :
 OutV G c w H nm r ((do eqGuard op t ox oy v u;binOp op t v u:Sem Value).run P w):=by
 have plain:∀(hn:¬∃(k:IntKind) (a:Int) (k':IntKind) (b:Int),x = .int k a∧y = .int k' b) (hs:¬∃(a b:List UInt8),x = .str a∧y = .str b),
  OutV G c w H nm r ((do eqGuard op t ox oy v u;binOp op t v u:Sem Value).run P w):=by
  intro hn hs;have h' : (match op with
   | .eql=>zqd E false t (zb6 ox || zb6 oy) x y
   | .neq=>zqd E true t (zb6 ox || zb6 oy) x y
   | _ => .fail).run H=some r:=by
   unfold zhz at h;split at h
   · exact absurd ⟨_,_,_,_,rfl,rfl⟩ hn
   · exact absurd ⟨_,_,rfl,rfl⟩ hs
   · exact h
  cases op<;>first
   | exact(zad h').elim
   | exact zri (neq:=false) hE hw hx hy h'
   | exact zri (neq:=true) hE hw hx hy h'
 cases hx with
 | int k a =>
   cases hy with
   | int k' b =>
     have hguard:∀op,(eqGuard op t ox oy (.int k a) (.int k' b)).run P w = .ok () w:=by
      intro op;unfold eqGuard;split<;>simp
     simp only[Sem.run_bind,hguard,Result.andThen_ok];clear plain;cases op
     case shl=>
      obtain⟨h0,h⟩:=za1 h;obtain rfl:=zan h;have h0:0≤b:=by simpa using h0
      have:¬b<0:=by omega
      simp only[binOp,Op.shift,this,if_false,Sem.run_pure,wr];exact zak hw (.int _ _)
     case shr=>
      obtain⟨h0,h⟩:=za1 h;obtain rfl:=zan h;have h0:0≤b:=by simpa using h0
      have:¬b<0:=by omega
      simp only[binOp,Op.shift,this,if_false,Sem.run_pure];exact zak hw (.int _ _)
     all_goals
      simp only[zhz] at h;cases hk:decide (k=k') with
      | false=>rw[hk] at h;exact(zad h).elim
      | true =>
        rw[hk] at h;have hk:k=k':=by simpa using hk
        subst hk;dsimp only at h
        first
        | (obtain rfl := zan h
           first
           | (simp only[binOp,ne_eq,not_true,if_false,Op.intArith,Sem.run_pure,wr];exact zak hw (.int _ _))
           | (simp only[binOp,ne_eq,not_true,if_false,Op.intCmp,Sem.run_pure];exact zak hw (.bool _))
           | (simp only[binOp,ne_eq,not_true,if_false];rw[zp6 _ _ _ _ (by simp)];exact zak hw (.int _ _)))
        | (obtain ⟨h0, h⟩ := za1 h
           obtain rfl:=zan h;have h0:¬b=0:=by simpa using h0
           simp only[binOp,ne_eq,not_true,if_false,Op.intDiv,h0,Sem.run_pure,wr];exact zak hw (.int _ _))
   | _=>exact plain (by rintro⟨_,_,_,_,h1,h2⟩;cases h2) (by rintro⟨_,_,h1,h2⟩;cases h1)
 | str a =>
   cases hy with
   | str b =>
     have hguard:∀op,(eqGuard op t ox oy (.string ⟨a.toArray⟩) (.string ⟨b.toArray⟩)).run P w = .ok () w:=by
      intro op;unfold eqGuard;split<;>simp
     simp only[Sem.run_bind,hguard,Result.andThen_ok];clear plain;cases op<;>(try exact(zad h).elim)
     case add=>
      obtain⟨h0,h⟩:=za1 h;obtain rfl:=zan h;have h0:=Nat.le_of_ble_eq_true h0;have hsz:∀l:List UInt8,(⟨l.toArray⟩:ByteArray).size=l.length:=fun l=>by simp[ByteArray.size]
      have:¬(((⟨a.toArray⟩:ByteArray).size+(⟨b.toArray⟩:ByteArray).size:Nat):Int) > IntKind.i64.max:=by
       rw[hsz,hsz];simp[IntKind.max,IntKind.signed,IntKind.bits];omega
      simp only[binOp,Op.stringOp,this,if_false,Sem.run_pure];have e:(⟨a.toArray⟩:ByteArray)++⟨b.toArray⟩=⟨(a++b).toArray⟩:=by
       apply ByteArray.ext
       apply Array.ext'
       simp
      rw[e];exact zak hw (.str _)
     all_goals
      obtain rfl:=zan h;simp only[binOp,Op.stringOp,Sem.run_pure,ByteArray.toList_mk];exact zak hw (.bool _)
   | _=>exact plain (by rintro⟨_,_,_,_,h1,h2⟩;cases h1) (by rintro⟨_,_,h1,h2⟩;cases h2)
 | _=>exact plain (by rintro⟨_,_,_,_,h1,h2⟩;cases h1) (by rintro⟨_,_,h1,h2⟩;cases h1)
end
end Go.Ago
end
section
namespace Go.Ago
section
variable {P:Program} {E:Env} {G:zd9} {c:Ctx} {w:World} {H:zah} {nm:Nat}
theorem ydh (hw:WRel G c w H){op:UnOp}{x:AV}{v:Value}(hx:Rel c w x v){r:Eff ⊕ AV}(h:(ym7 op x).run H=some r):OutV G c w H nm r ((Op.unary op v).run P w):=by
 cases hx with
 | int k n =>
   cases op<;>(try exact(zad h).elim)
   · obtain rfl := zan h
     simp only[Op.unary,Op.intArith,Sem.run_pure,wr];exact zak hw (.int _ _)
   · obtain rfl := zan h
     simp only[Op.unary];rw[zp6 _ _ _ _ (by simp)]
     exact zak hw (.int _ _)
 | bool b =>
   cases op<;>(try exact(zad h).elim)
   obtain rfl:=zan h;simp only[Op.unary,Sem.run_pure];exact zak hw (.bool _)
 | _=>cases op<;>exact(zad h).elim
theorem ya5 (ns:List Int):∀a:Array UInt8,ns.foldl (fun r n=>r.push (UInt8.ofNat n.toNat)) (⟨a⟩:ByteArray)=⟨a++(ns.map fun n=>UInt8.ofNat n.toNat).toArray⟩:=by
 induction ns with
 | nil=>intro a;simp
 | cons n ns ih =>
   intro a;rw[List.foldl_cons];show List.foldl _ (⟨a.push (UInt8.ofNat n.toNat)⟩:ByteArray) ns=_;rw[ih]
   congr 1
   apply Array.ext'
   simp
theorem zj5:∀{es:List (List AV)} {l:List UInt8},zm1 es=some l→∃ns:List Int,es=(ns.map fun n=>[.int .u8 n])∧l=ns.map fun n=>UInt8.ofNat n.toNat
 | [],l,h=>⟨[],rfl,by simp[zm1] at h;simp[h]⟩
 | e :: es, l, h => by
   unfold zm1 at h;split at h
   · rename_i he;cases he
   · rename_i n l' he
     cases he;split at h
     · rename_i r hr
       cases h;obtain⟨ns,h1,h2⟩:=zj5 hr;exact⟨n::ns,by simp[h1],by simp[h2]⟩
     · cases h
   · cases h
theorem zjg (hE:EnvOK P E)(hw:WRel G c w H){s d:TypeId}{ts:TI}{ds:TypeDesc}{x:AV}{v:Value}(hts:E.ti s=some ts)(s2:P.underlying s=some ds)(d2:P.underlying d=some .string)(hx:Rel c w x v){r:Eff ⊕ AV}(h:(zlx E ts x).run H=some r) :
 OutV G c w H nm r ((convert s d v).run P w):=by
 obtain⟨_,ds',_,_,s2',_,_,_,s6,_⟩:=(hE.ti s ts hts).ok;rw[s2] at s2';cases s2';unfold zlx at h;split at h
 · rename_i e hd
   rw[hd] at s6;obtain rfl:ds = .slice e:=s6;obtain⟨te,hte,h⟩:=zao h;obtain⟨_,de,_,_,e2,_,_,_,e6,_⟩:=(hE.ti e te hte).ok;split at h
   · rename_i hk
     rw[hk] at e6;obtain rfl:de = .int .u8:=e6;have fin:∀(a:Addr) (len cap:Nat) (ns:List Int),ns.length=len→(∀j v,(ns.map (Value.int .u8))[j]? = some v→w.cell? (a.add j)=some v) →
      (convert s d (.slice (some a) len cap)).run P w = .ok (.string ⟨(ns.map fun n=>UInt8.ofNat n.toNat).toArray⟩) w:=by
      intro a len cap ns hl hc;have h1:=run_loadCells_list (P:=P) w a (ns.map (Value.int .u8)) hc;rw[List.length_map,hl] at h1;simp only[convert,Sem.run_bind,run_underlying s2,run_underlying d2,run_underlying e2,Result.andThen_ok];rw[run_bytesToString w a len cap ns h1];have:=ya5 ns #[];rw[show(ByteArray.empty:ByteArray)=⟨#[]⟩ from rfl,this]
      simp
     have key:∀(es:List (List AV)) (a:Addr) (cap:Nat) (hd:(Rd.opt (zgd es) hd1).run H=some r) (hc:∀(i:Nat) x,es[i]? = some [x]→∃v,w.cell? (a.add i)=some v∧Rel c w x v) (len:Nat) (hl:es.length=len),
      OutV G c w H nm r ((convert s d (.slice (some a) len cap)).run P w):=by
      intro es a cap hd hc len hl;obtain⟨cs,h1,h2⟩:=zfv hd;unfold zgd at h1;split at h1
      · rename_i l hb
        cases h1;obtain rfl:=zan h2;obtain⟨ns,rfl,rfl⟩:=zj5 hb;rw [fin a len cap ns (by simpa using hl) (fun j v hj=>by
         simp only[List.getElem?_map,Option.map_eq_some_iff] at hj;obtain⟨n,hn,rfl⟩:=hj;obtain⟨v,hv,hr⟩:=hc j (.int .u8 n) (by simp[hn])
         cases hr;exact hv)]
        exact zak hw (.str _)
      · cases h1
     cases hx with
     | nils =>
       obtain rfl:=zan h;rw[show(convert s d (.slice none 0 0)).run P w = .ok (.string ⟨(([]:List UInt8)).toArray⟩) w by
        simp only[convert,Sem.run_bind,run_underlying s2,run_underlying d2,run_underlying e2,Result.andThen_ok,Conv.bytesToString,Sem.run_pure];rfl]
       exact zak hw (.str _)
     | @rsl _ _ sz es cap a vs hlen hi hl hc hr =>
       obtain⟨h0,h⟩:=za1 h;have h0:sz=1:=by simpa using h0
       subst h0;refine key es a cap h (fun i x hx=>?_) es.length rfl
       have hi':i<es.length:=(List.getElem?_eq_some_iff.1 hx).1;have:=hc i 0 hi' (by omega)
       rw[Nat.mul_one,Nat.add_zero] at this;exact⟨_,this,(hr i 0 [x] x hx rfl).of_bare⟩
     | rnil sz =>
       obtain⟨h0,h⟩:=za1 h;obtain rfl:=zan (H:=H) (e:=⟨.str [],[]⟩) h;rw[show(convert s d (.slice none 0 0)).run P w = .ok (.string ⟨(([]:List UInt8)).toArray⟩) w by
        simp only[convert,Sem.run_bind,run_underlying s2,run_underlying d2,run_underlying e2,Result.andThen_ok,Conv.bytesToString,Sem.run_pure];rfl]
       exact zak hw (.str _)
     | @slc _ _ k i len sz cap B a hf hsB hlen hcap =>
       obtain⟨o,ho,h⟩:=zgn h;cases o with
       | sit _ _=>exact(zad h).elim
       | lp _ _ _ _ _=>exact(zad h).elim
       | mp _=>exact(zad h).elim
       | mit _ _=>exact(zad h).elim
       | arr sz' es =>
         obtain⟨h0,hB'⟩:=za1 h;clear h;simp only[Bool.and_eq_true,beq_iff_eq] at h0;obtain⟨⟨rfl,rfl⟩,h2⟩:=h0;have h2:=Nat.le_of_ble_eq_true h2;have hl:((es.drop i).take len).length=len:=by simp;omega
         refine key _ a cap hB' (fun j x hx=>?_) len hl
         have hj:j<len:=by have:=(List.getElem?_eq_some_iff.1 hx).1;omega
         obtain⟨rfl,_⟩:=hcap (by omega)
         rw[List.getElem?_take,if_pos hj,List.getElem?_drop] at hx;obtain⟨v,v1,_,v2⟩:=hw.cell ho hf hx (j:=0) rfl;refine⟨v,?_,v2⟩;rw[zcm,← v1]
         congr 2
         omega
     | _=>exact(zad h).elim
   · exact(zad h).elim
 · exact(zad h).elim
theorem zte (w:World)(b off n:Nat)(hn:n≠0){arr:Array Value}{t:TypeId}(hb:w.heap[b]? = some (.cells arr t (0,0))) :
 (w.freeze ⟨b,off,none⟩ n).heap[b]? = some (.cells arr t (off,off+n))∧(∀b',b'≠b→(w.freeze ⟨b,off,none⟩ n).heap[b']? = w.heap[b']?)∧(w.freeze ⟨b,off,none⟩ n).heap.size=w.heap.size ∧
  (w.freeze ⟨b,off,none⟩ n).os=w.os∧(w.freeze ⟨b,off,none⟩ n).tape=w.tape∧(w.freeze ⟨b,off,none⟩ n).output=w.output:=by
 unfold World.freeze;rw[if_neg hn];refine⟨?_,fun b' hb'=>?_,by simp,rfl,rfl,rfl⟩
 · simp[Array.getElem?_modify,hb]
 · simp[Array.getElem?_modify,Ne.symm hb']
theorem hand (hw:WRel G c w H){k i len cap:Nat}{es:List (List AV)}{B:Blk}{a:Addr}(ho:H.get k=some (.arr 1 es))(hf:c.f k=some B)(hl:0<len)(hk24:k+1<2 ^ 24)(_hsB:B.sz=1)(hlen:len≤cap)
 (hcap:0<cap→a=⟨B.b,B.s+i * 1,none⟩∧(i+cap) * 1≤B.n)(hle:i+len≤es.length){s e:TypeId}(s2:P.underlying s=some (.slice e))(e2:P.underlying e=some (.int .u8)){cs:List AV}
 (h1:zgd ((es.drop i).take len)=some cs):OutV G c w H nm (.inl ⟨.rsl 1 ((es.drop i).take len),[(k,none)]⟩) ((convert s s (.slice (some a) len cap)).run P w):=by
 obtain⟨rfl,hB⟩:=hcap (by omega)
 obtain⟨B',hf',hni,arr,t,hb,hs,hsz0,hln,hc⟩:=hw.obj k _ ho;rw[hf] at hf';cases hf';have hbs:B.b<w.heap.size:=hw.f_lt k B hf;obtain⟨f1,f2,f3,f4,f5,f6⟩:=zte w B.b arr.size 1 (by omega) hb
 have hrun:(convert s s (.slice (some ⟨B.b,B.s+i * 1,none⟩) len cap)).run P w = .ok (.slice (some ⟨B.b,B.s+i * 1,none⟩) len cap) (w.freeze ⟨B.b,arr.size,none⟩ 1):=by
  simp only[convert,Sem.run_bind,run_underlying s2,run_underlying e2,Result.andThen_ok,beq_self_eq_true,markStringish,run_shape,World.shape?,hb,run_freeze,Sem.run_pure]
 rw[hrun];have hbyt:∃ns:List Int,(es.drop i).take len=ns.map fun n=>[AV.int .u8 n]:=by
  unfold zgd at h1;split at h1
  · rename_i l hb'
    obtain⟨ns,h2,_⟩:=zj5 hb';exact⟨ns,h2⟩
  · cases h1
 obtain⟨ns,hns⟩:=hbyt
 generalize hw':w.freeze ⟨B.b,arr.size,none⟩ 1=w' at f1 f2 f3 f4 f5 f6
 have hlen':((es.drop i).take len).length=len:=by simp;omega
 have hcle:c.le ⟨c.f,fun b=>c.imm b∨b=B.b⟩:=⟨fun _ _ h=>h,fun _ h => .inl h⟩
 have himm:∀b,c.imm b→w'.heap[b]? = w.heap[b]?:=fun b hb=>f2 b (fun e=>hni (e ▸ hb))
 have hmono:∀{x:AV} {v:Value},Rel c w x v→Rel ⟨c.f,fun b=>c.imm b∨b=B.b⟩ w' x v:=fun hr=>hr.mono hcle himm
 have hget:∀j o,(H.set 24 k none).get j=some o→j≠k∧H.get j=some o:=by
  intro j o e;rw[Tr.get_set 24 k _ H j hk24] at e
  by_cases hj:j=k
  · simp[hj] at e
  · exact⟨hj,by rwa [if_neg hj] at e⟩
 refine⟨.slice (some ⟨B.b,B.s+i * 1,none⟩) len cap,w',⟨c.f,fun b=>c.imm b∨b=B.b⟩,rfl,?_,?_,?_,fun _ _=>rfl⟩
 · refine ⟨hcle, f4, f5, f6, by omega, fun b hb' hno => f2 b (fun e => hno ⟨k, _, B, ho, hf, e.symm⟩), fun b hb' => hb'.ip id fun e => .inl ⟨k, _, B, ho, hf, e.symm⟩, ?_⟩
   rintro b ⟨k',o,B',hk',hf',rfl⟩
   exact .inl ⟨k',o,B',(hget k' o hk').2,hf',rfl⟩
 · refine ⟨fun b hb' => by rw [f3]; exact hb'.elim (hw.imm_lt b) (fun e => by rw [e]; exact hbs), fun k' B' h => by rw [f3]; exact hw.f_lt k' B' h, fun k' o hk' => ?_, fun k1 k2 o o' B1 B2 e1 e2 => hw.inj k1 k2 o o' B1 B2 (hget k1 o e1).2 (hget k2 o' e2).2, fun g cs e => hmono (hw.glob g cs e)⟩
   obtain⟨hne,hk'⟩:=hget k' o hk';obtain⟨B',g1,g2,g3⟩:=hw.obj k' o hk';have hbb:B'.b≠B.b:=fun e=>hne (hw.inj k' k o _ B' B hk' ho g1 hf e)
   exact⟨B',g1,fun h=>h.elim g2 hbb,g3.mono (f2 _ hbb) hmono (fun b hb=>⟨hcle.imm b hb,himm b hb⟩)⟩
 · have hr:=Rel.rsl (c:=⟨c.f,fun b=>c.imm b∨b=B.b⟩) (w:=w') (sz:=1) (es:=(es.drop i).take len) (cap:=cap) (a:=⟨B.b,B.s+i * 1,none⟩) (fun j _ => .int .u8 (ns.getD j 0)) (by omega) (fun _ => .inr rfl)
    (fun j e he=>by rw[hns,List.getElem?_map] at he;cases h:ns[j]?<;>rw[h] at he<;>cases he;rfl)
    (fun j q hj hq=>by
      obtain rfl:q=0:=by omega
      rw[hlen'] at hj;have hnl:j<ns.length:=by have:=congrArg List.length hns;rw[hlen',List.length_map] at this;omega
      have hx:es[i+j]? = some [AV.int .u8 (ns.getD j 0)]:=by
       have h2:((es.drop i).take len)[j]? = some [AV.int .u8 (ns.getD j 0)]:=by rw[hns];simp[hnl]
       rwa [List.getElem?_take,if_pos hj,List.getElem?_drop] at h2
      obtain⟨v,v1,v2⟩:=(hc (i+j) _ hx).2 0 _ rfl;cases v2;rw[zcm];simp only[World.cell?,f1];have he:B.s+i * 1+(j * 1+0)=B.s+((i+j) * 1+0):=by omega
      rw[he];exact v1)
    (fun j q e x he hx=>by
      rw[hns,List.getElem?_map] at he;cases h:ns[j]? with
      | none=>rw[h] at he;cases he
      | some n =>
        rw[h] at he;cases he;cases q with
        | zero =>
          cases hx;simp only[List.getD,h,Option.getD_some];exact .int _ _
        | succ q=>simp at hx)
   rw[hlen'] at hr;exact hr
theorem zps (hE:EnvOK P E)(hw:WRel G c w H){s d:TypeId}{x:AV}{v:Value}(hx:Rel c w x v){r:Eff ⊕ AV}(h:(zej E s d x).run H=some r):OutV G c w H nm r ((convert s d v).run P w):=by
 obtain⟨ts,hts,h⟩:=zao h;obtain⟨td,htd,h⟩:=zao h;obtain⟨_,ds,_,_,s2,_⟩:=(hE.ti s ts hts).ok;obtain⟨_,dd,_,_,d2,_,_,_,d6,_⟩:=(hE.ti d td htd).ok;cases hdesc:td.desc with
 | int k =>
   rw[hdesc] at h d6;obtain rfl:dd = .int k:=d6;cases hx with
   | int k' n =>
     obtain rfl:=zan h;simp only[convert,Sem.run_bind,run_underlying s2,run_underlying d2,Result.andThen_ok,Conv.intToInt,Sem.run_pure,wr];exact zak hw (.int _ _)
   | _=>exact(zad h).elim
 | string =>
   rw[hdesc] at h d6;obtain rfl:dd = .string:=d6;cases hx with
   | str l =>
     obtain rfl:=zan h;simp only[convert,Sem.run_bind,run_underlying s2,run_underlying d2,Result.andThen_ok,Sem.run_pure];exact zak hw (.str _)
   | int k n =>
     obtain rfl:=zan h;rw[run_convert_int_string w s d k n (by rw[s2];rfl) d2]
     exact zak hw (by simpa using Rel.str (c:=c) (w:=w) (Utf8.encode n).data.toList)
   | nils=>exact zjg hE hw hts s2 d2 .nils h
   | rsl vs hlen hi hl hc hr=>exact zjg hE hw hts s2 d2 (.rsl vs hlen hi hl hc hr) h
   | rnil sz=>exact zjg hE hw hts s2 d2 (.rnil sz) h
   | slc h1 h2 h3 h4=>exact zjg hE hw hts s2 d2 (.slc h1 h2 h3 h4) h
   | _=>exact(zad h).elim
 | slice e =>
   rw[hdesc] at h d6;obtain rfl:dd = .slice e:=d6;cases hx with
   | str l =>
     obtain⟨te,hte,h⟩:=zao h;obtain⟨_,de,_,_,e2,_,_,_,e6,_⟩:=(hE.ti e te hte).ok;have hde:de = .int .u8∧r = .inl ⟨.rsl 1 (l.map fun b=>[.int .u8 b.toNat]),[]⟩:=by
      cases hk:te.desc with
      | int k =>
        rw[hk] at h e6;cases k<;>first|exact⟨e6,zan h⟩|exact(zad h).elim
      | _=>rw[hk] at h;exact(zad h).elim
     obtain⟨rfl,rfl⟩:=hde;have hlt:∀b,b<w.heap.size→(Lib.bytesWorld w e ⟨l.toArray⟩).heap[b]? = w.heap[b]?:=fun b hb=>Lib.bytesWorld_at_old w e _ b hb
     have hsz:=Lib.bytesWorld_size w e ⟨l.toArray⟩;refine⟨_,_,⟨c.f,fun b=>c.imm b∨b=w.heap.size⟩,Lib.run_convert_string_bytes w s d e ⟨l.toArray⟩ s2 d2 e2,?_⟩
     have hle:c.le ⟨c.f,fun b=>c.imm b∨b=w.heap.size⟩:=⟨fun _ _ h=>h,fun _ h => .inl h⟩
     have hmono:∀{x:AV} {v:Value},Rel c w x v→Rel ⟨c.f,fun b=>c.imm b∨b=w.heap.size⟩ (Lib.bytesWorld w e ⟨l.toArray⟩) x v:=fun hr=>hr.mono hle (fun b hb=>hlt b (hw.imm_lt b hb))
     refine⟨⟨hle,rfl,rfl,rfl,by rw[hsz];exact Nat.le_succ _,fun b hb _=>hlt b hb,fun b hb=>hb.ip id fun h => .inr (by rw[h];exact Nat.le_refl _),fun b hb => .inl hb⟩,
      ⟨fun b hb => by rw [hsz]; rcases hb with hb | rfl
                      · exact Nat.lt_succ_of_lt (hw.imm_lt b hb)
                      · exact Nat.lt_succ_self _,fun k B h=>by rw[hsz];exact Nat.lt_succ_of_lt (hw.f_lt k B h),fun k o e=>?_,hw.inj,fun g cs e=>hmono (hw.glob g cs e)⟩,?_,fun _ _=>rfl⟩
     · obtain ⟨B, g1, g2, g3⟩ := hw.obj k o e
       have hB:=hw.f_lt k B g1;exact⟨B,g1,fun h=>h.elim g2 (fun h=>by omega),g3.mono (hlt _ hB) hmono (fun b hb=>⟨.inl hb,hlt b (hw.imm_lt b hb)⟩)⟩
     · have hcap : (⟨l.toArray⟩ : ByteArray).size ≤ grownCap w (⟨l.toArray⟩ : ByteArray).size 0 e := grownCap_ge _ _ _ _
       have hl:(⟨l.toArray⟩:ByteArray).size=(l.map fun b=>([.int .u8 b.toNat]:List AV)).length:=by simp[ByteArray.size]
       rw[hl] at hcap ⊢;refine .rsl (fun i _ => .int .u8 (l.getD i 0).toNat) hcap (fun _ => .inr rfl) (fun i e he=>?_) (fun i j hi hj=>?_) (fun i j e x he hx=>?_)
       · rw [List.getElem?_map] at he
         cases h:l[i]? with
         | none=>rw[h] at he;cases he
         | some b=>rw[h] at he;cases he;rfl
       · have : j = 0 := by omega
         subst this;simp only[List.length_map] at hi;have:=Lib.bytesWorld_cell w e ⟨l.toArray⟩ i (by simpa[ByteArray.size] using hi)
         have ha:((⟨w.heap.size,0,none⟩:Addr).add (i * 1+0))=⟨w.heap.size,i,none⟩:=by
          by_cases h0:i=0<;>simp[Addr.add,h0]
         rw[ha]
         simpa using this
       · rw [List.getElem?_map] at he
         cases h:l[i]? with
         | none=>rw[h] at he;cases he
         | some b =>
           rw[h] at he;cases he;cases j with
           | zero =>
             cases hx;simp only[List.getD,h,Option.getD_some];exact .int _ _
           | succ j=>simp at hx
   | @slc _ _ k i len sz cap B a hf hsB hlen hcap =>
     obtain⟨te,hte,h⟩:=zao h;obtain⟨_,de,_,_,e2,_,_,_,e6,_⟩:=(hE.ti e te hte).ok;cases hk:te.desc with
     | int k' =>
       rw[hk] at h e6;obtain rfl:de = .int k':=e6;cases k'<;>first|exact(zad h).elim|skip
       obtain⟨hq,h⟩:=za1 h;obtain⟨o,ho,h⟩:=zgn h;cases o with
       | sit _ _=>exact(zad h).elim
       | lp _ _ _ _ _=>exact(zad h).elim
       | mp _=>exact(zad h).elim
       | mit _ _=>exact(zad h).elim
       | arr sz' es =>
         obtain⟨hq',h⟩:=za1 h;obtain⟨cs,h1,h⟩:=zfv h;obtain rfl:=zan h;simp only[Bool.and_eq_true,beq_iff_eq] at hq hq';obtain⟨⟨rfl,hl⟩,hk24⟩:=hq;rw[d2] at s2;cases s2;obtain⟨⟨rfl,rfl⟩,hle⟩:=hq';exact hand hw ho hf (by simpa using hl) (by have:=Nat.le_of_ble_eq_true hk24;omega) hsB hlen hcap (Nat.le_of_ble_eq_true hle) d2 e2 h1
     | _=>rw[hk] at h;exact(zad h).elim
   | _=>exact(zad h).elim
 | _=>rw[hdesc] at h;cases hx<;>exact(zad h).elim
theorem zjo {d:TypeDesc}{t:TD}(h:TDOK P d t)(hn:t≠.iface):∀ms,d≠.interface ms:=by
 intro ms e;subst e;cases t<;>simp_all[TDOK]
theorem ztc (hE:EnvOK P E)(hw:WRel G c w H){t:TypeId}{x:AV}{v:Value}(hx:Rel c w x v){r:Eff ⊕ AV}(h:(zum E t x).run H=some r):OutV G c w H nm r ((Instr.makeInterface t v).run P w):=by
 obtain⟨ti,hti,h⟩:=zao h;obtain⟨d,hd,hd',hdd⟩:=zch (hE.ti t ti hti);have hne:ti.desc≠.iface:=by intro e;rw[e] at h;exact(zad h).elim
 have hnd:=zjo hdd hne;have hr:r = .inl ⟨.ifc t x,[]⟩:=by
  cases hdesc:ti.desc<;>rw[hdesc] at h<;>first|exact absurd hdesc hne|exact zan h
 subst hr;have:(Instr.makeInterface t v).run P w = .ok (.iface t v) w:=by
  simp only[Instr.makeInterface,Sem.run_bind,hd,Result.andThen_ok];cases d<;>first|exact absurd rfl (hnd _)|rfl
 rw[this];exact zak hw (.ifc t hx)
theorem zr1 (hE:EnvOK P E)(hw:WRel G c w H){t st:TypeId}{x:AV}{v:Value}{ok:Bool}(hx:Rel c w x v){r:Eff ⊕ AV}(h:(zqe E x t ok).run H=some r) :
 OutV G c w H nm r ((Instr.typeAssert v st t ok).run P w):=by
 obtain⟨ti,hti,h⟩:=zao h;have ht:=hE.ti t ti hti;obtain⟨d,hd,hd',hdd⟩:=zch ht;have hne:ti.desc≠.iface:=by intro e;rw[e] at h;exact(zad h).elim
 have hnd:=zjo hdd hne;obtain⟨z,hz,_,_,_,hzr⟩:=zly ht w;have htup:∀{y u} (b:Bool),Rel c w y u→Rel c w (.tup [y,.bool b]) (.tuple #[u,.bool b]):=fun b hy=>
  Rel.tup (vs:=[_,.bool b]) rfl (RelL.cons hy (.cons (.bool b) .nil)).2
 cases hx with
 | @ifc _ _ t' y u hy =>
   have h' : (match t' == t,ok with
    | true,true=>Rd.ret ⟨.tup [y,.bool true],[]⟩
    | true,false => .ret ⟨y,[]⟩
    | false,true => .ret ⟨.tup [match ti.agg with|true => .agg ti.zero|false=>ti.zero.headD .any,.bool false],[]⟩
    | false,false => .fail).run H=some r:=by
    cases hdesc:ti.desc<;>rw[hdesc] at h<;>first|exact absurd hdesc hne|exact h
   have hu:∀(ok:Bool),(Instr.typeAssert (.iface t' u) st t ok).run P w=if t'=t then .ok (if ok then .tuple #[u,.bool true] else u) w else
    (if ok then .ok (.tuple #[z,.bool false]) w else (Instr.typeAssert (.iface t' u) st t ok).run P w):=by
    intro ok
    by_cases e:t'=t
    · subst e
      simp only[Instr.typeAssert,Sem.run_bind,hd,Result.andThen_ok];cases d<;>first|exact absurd rfl (hnd _)|simp
    · simp only [e, if_false]
      cases ok with
      | false=>rfl
      | true =>
        simp only[Instr.typeAssert,Sem.run_bind,hd,Result.andThen_ok];cases d<;>first|exact absurd rfl (hnd _)|simp[e,hz]
   rw[hu]
   by_cases e:t'=t
   · subst e
     simp only[beq_self_eq_true] at h';simp only[if_true];cases ok<;>(dsimp only at h';obtain rfl:=zan h')
     · exact zak hw hy
     · exact zak hw (htup true hy)
   · have : (t' == t) = false := by simpa using e
     rw[this] at h';simp only[e,if_false];cases ok<;>dsimp only at h'
     · exact(zad h').elim
     · obtain rfl := zan h'
       exact zak hw (htup false (hzr c w))
 | nili =>
   have h' : (match ok with
    | true=>Rd.ret ⟨.tup [match ti.agg with|true => .agg ti.zero|false=>ti.zero.headD .any,.bool false],[]⟩
    | false => .fail).run H=some r:=by
    cases hdesc:ti.desc<;>rw[hdesc] at h<;>first|exact absurd hdesc hne|exact h
   cases ok with
   | false=>exact(zad h').elim
   | true =>
     obtain rfl:=zan h';have:(Instr.typeAssert .nilIface st t true).run P w = .ok (.tuple #[z,.bool false]) w:=by
      simp only[Instr.typeAssert,Sem.run_bind,hd,Result.andThen_ok];cases d<;>first|exact absurd rfl (hnd _)|simp[hz]
     rw[this];exact zak hw (htup false (hzr c w))
 | _ =>
   exfalso
   cases hdesc:ti.desc<;>rw[hdesc] at h<;>exact zad h
theorem zpo (hw:WRel G c w H){x:AV}{v:Value}{i:Nat}(hx:Rel c w x v){r:Eff ⊕ AV}(h:(zhb x i).run H=some r):OutV G c w H nm r ((Instr.extract v i).run P w):=by
 cases hx with
 | @tup _ _ cs vs hl hr =>
   simp only[zhb] at h;cases hx:cs[i]? with
   | none=>rw[hx] at h;exact(zad h).elim
   | some y =>
     rw[hx] at h;obtain rfl:=zan h;obtain⟨u,hu,hru⟩:=RelL.get ⟨hl,hr⟩ hx;simp only[Instr.extract,List.getElem?_toArray,hu,Sem.run_pure];exact zak hw hru
 | _=>exact(zad h).elim
theorem yad (hE:EnvOK P E)(hw:WRel G c w H){t ty:TypeId}{x:AV}{v:Value}(hx:Rel c w x v){r:Eff ⊕ AV}(h:(yf6 E t x).run H=some r) :
 OutV G c w H nm r ((Builtin.len_ #[t] ty #[v]).run P w):=by
 obtain⟨ti,hti,h⟩:=zao h;obtain⟨d,hd,hd',hdd⟩:=zch (hE.ti t ti hti);cases hdesc:ti.desc with
 | string =>
   rw[hdesc] at h hdd;obtain rfl:d = .string:=hdd;cases hx with
   | str l =>
     obtain rfl:=zan h;have hsz:(⟨l.toArray⟩:ByteArray).size=l.length:=by simp[ByteArray.size]
     simp only[Builtin.len_,Sem.run_bind,hd,Result.andThen_ok,Sem.run_pure,goInt,List.getElem?_toArray,List.getElem?_cons_zero,hsz];exact zak hw (.int _ _)
   | _=>exact(zad h).elim
 | array n e =>
   rw[hdesc] at h hdd;obtain rfl:d = .array n e:=hdd;obtain rfl:=zan h;simp only[Builtin.len_,Sem.run_bind,hd,Result.andThen_ok,Sem.run_pure,goInt,List.getElem?_toArray,List.getElem?_cons_zero];exact zak hw (.int _ _)
 | slice e =>
   rw[hdesc] at h hdd;obtain rfl:d = .slice e:=hdd;cases hx<;>(try exact(zad h).elim)<;>
    (obtain rfl := zan h
     simp only[Builtin.len_,Sem.run_bind,hd,Result.andThen_ok,Sem.run_pure,goInt,List.getElem?_toArray,List.getElem?_cons_zero];exact zak hw (.int _ _))
 | _=>rw[hdesc] at h;cases hx<;>exact(zad h).elim
theorem zoa (mx:Bool):∀(xs:List AV) (vs:List Value) (x:AV) (v:Value) (y:AV),RelL c w xs vs→Rel c w x v→zib mx x xs=some y →
 (∃k n,x = .int k n)→∃u,(vs.foldlM (if mx then Builtin.max2 else Builtin.min2) v).run P w = .ok u w∧Rel c w y u
 | [], vs, x, v, y, hl, hx, h, _ => by
   obtain rfl:=hl.inv_nil;simp only[zib,Option.some.injEq] at h;subst h;exact⟨v,by simp,hx⟩
 | z :: xs, vs, x, v, y, hl, hx, h, ⟨k, n, hkn⟩ => by
   subst hkn;obtain⟨u,us,rfl,hu,hus⟩:=hl.inv_cons;cases hx;cases hu with
   | int k' b =>
     simp only[zib] at h;have ih:=zoa mx xs us _ _ y hus (.int _ _) h ⟨_,_,rfl⟩;obtain⟨u,h1,h2⟩:=ih;refine⟨u,?_,h2⟩;rw[List.foldlM_cons];cases mx
     · simp only [Bool.false_eq_true, if_false, Builtin.min2, Sem.run_bind, Sem.run_pure, Result.andThen_ok] at h1 ⊢
       exact h1
     · simp only [if_true, Builtin.max2, Sem.run_bind, Sem.run_pure, Result.andThen_ok] at h1 ⊢
       exact h1
   | _=>simp[zib] at h
theorem zq0 (hw:WRel G c w H){mx:Bool}{ts:Array TypeId}{ty:TypeId}{xs:List AV}{vs:List Value}(hx:RelL c w xs vs){r:Eff ⊕ AV}(h:(zul mx xs).run H=some r) :
 OutV G c w H nm r ((if mx then Builtin.max_ ts ty vs.toArray else Builtin.min_ ts ty vs.toArray).run P w):=by
 cases xs with
 | nil=>exact(zad h).elim
 | cons x xs =>
   obtain⟨v,us,rfl,hv,hus⟩:=hx.inv_cons;cases hv<;>(try exact(zad h).elim)
   simp only[zul] at h;rename_i k n;cases hm:zib mx (.int k n) xs with
   | none=>rw[hm] at h;exact(zad h).elim
   | some y =>
     rw[hm] at h;obtain rfl:=zan h;obtain⟨u,h1,h2⟩:=zoa (P:=P) mx xs us _ _ y hus (.int k n) hm ⟨_,_,rfl⟩;have:(if mx then Builtin.max_ ts ty (Value.int k n::us).toArray else Builtin.min_ ts ty (Value.int k n::us).toArray).run P w = .ok u w:=by
      cases mx<;>simpa[Builtin.max_,Builtin.min_] using h1
     rw[this];exact zak hw h2
end
end Go.Ago
end
