/-
  RegsCaught answers true for every input and leaves its arguments as they were: the row, and its tied card. Condition: the listed tables hold what the program's own text lays (the given tie shows that).
-/
import Derived.Test.YthaolifcglpkdaaGreatDoorTie
import Derived.Test.YthaolifcglpkdaaGreatDoorCards
import Derived.ProofKit
import Derived.OpenShut
import Derived.LaidMore
import Derived.Lay
import Derived.SevenTiedAt
import Derived.Stop.Joined
import Derived.ReadAgain
import Derived.Test.YthaolifcglpkdaaGreatDoorB27
import Derived.Test.YthaolifcglpkdaaGreatDoorB49
import Derived.Test.YthaolifcglpkdaaGreatDoorC01
import Derived.Test.YthaolifcglpkdaaGreatDoorC03
set_option maxRecDepth 100000
set_option maxHeartbeats 0
set_option linter.all false
namespace Go.Proofs.YthaolifcglpkdaaGreatDoor
open List Nat
open Go Go.Ago Go.ChangeShapes Go.WideShapes Go.ChangeAt Go.RowKit
abbrev uQ:List (String×DataW Unit):=Rows.regsCaughtRow.laid
theorem own:ownKnob Tryz.prog.godebug=none:=by kernel_rfl
theorem kids:Kids Tryz.prog (·<Tryz.prog.types.size):=kids_rows aG aG
theorem full:∀t e,t<Tryz.prog.types.size->Tryz.prog.underlying t=some (.slice e)->0<Tryz.prog.cellsOf e:=slices_full_of _ aG
theorem SV {W:World}(h:laidMetH Tryz.prog uQ W):aN fB.bS (lk W) W .nil:=by
 rw[MakeChecks.laidMetH_plain _ _ _ aG] at h;obtain⟨ps,⟨_,_,_,_,_,_,_,_,_,_,⟨_,_,_,_,_,_,_,_,_,_,⟨_,_,_,_,_,_,_,_,_,_,⟨_,_,_,_,_,_,_,_,_,_,⟨_,_,_,_,_,_,_,_,_,_,⟨_,_,_,_,_,_,_,_,_,_,
  ⟨g6,t6,c6,f6,p6,q6,hg6,ht6,hv6,hd6,⟨g7,t7,c7,f7,p7,q7,hg7,ht7,hv7,hd7,⟨g8,t8,c8,f8,p8,q8,hg8,ht8,hv8,hd8,_,_⟩,_⟩,_⟩,_⟩,_⟩,_⟩,_⟩,_⟩,_⟩,_,_⟩:=h
 obtain rfl:=zbE ((show Tryz.prog.globalNamed "pliant/picture.punched" = some 3 by kernel_rfl).symm.trans hg6)
 obtain rfl:=zbE ((show(Tryz.prog.globals[3]?).map (·.type)=some 349 by kernel_rfl).symm.trans ht6)
 obtain rfl:=zbE ((show Tryz.prog.globalNamed "pliant/core.operands" = some 0 by kernel_rfl).symm.trans hg7)
 obtain rfl:=zbE ((show(Tryz.prog.globals[0]?).map (·.type)=some 246 by kernel_rfl).symm.trans ht7)
 obtain rfl:=zbE ((show Tryz.prog.globalNamed "pliant/core.shapes" = some 1 by kernel_rfl).symm.trans hg8)
 obtain rfl:=zbE ((show(Tryz.prog.globals[1]?).map (·.type)=some 270 by kernel_rfl).symm.trans ht8)
 have r0:=D6 (m:=8) (a:=xT) hg7 hv7 hd7 aG;have r1:=D6 (m:=8) (a:=DD) hg8 hv8 hd8 aG;have r3:=D6 (m:=8) (a:=uZ) hg6 hv6 hd6 aG;refine⟨fun _ h=>h,fun _ _ h=>(by cases h),fun _ _ h=>(by cases h),fun _ _ _ _ _ _ h=>(by cases h),fun g cs hg=>?_⟩
 change (bif beq g 0 then some xT else bif beq g 1 then some DD else bif beq g 3 then some uZ else none)=some cs at hg
 cases e0:beq g 0 with
 | true=>rw[e0] at hg;rw[zbl e0];cases hg;exact r0
 | false =>
   cases e1:beq g 1 with
   | true=>rw[e0,e1] at hg;rw[zbl e1];cases hg;exact r1
   | false =>
     cases e3:beq g 3 with
     | true=>rw[e0,e1,e3] at hg;rw[zbl e3];cases hg;exact r3
     | false=>rw[e0,e1,e3] at hg;cases hg
set_option maxRecDepth 100000 in
theorem lifted (os:Os)(started:os.Started)(H:Type)(enc:TypeId×Value->H) :
 ReturnsInHanded {} Tryz.checked os 5 .any (fun w args=>(Rows.regsCaughtSpec.pre enc Tryz.prog Tryz.f5 [] false w args∧laidMetH Tryz.prog uQ w)∧sizedMet enc Tryz.prog Tryz.f5 (OpenSpec.ofChange Rows.regsCaughtSpec) false w args)
  (Rows.regsCaughtSpec.post enc Tryz.prog Tryz.f5 false true false false):=by
 refine returnsInHanded_of_change_and (C:=Tryz.checked) (X:=fun w _=>laidMetH Tryz.prog uQ w) (fun _ _ _ hh h=>h.of_heap hh) own started aG Tryz.func5
  (ChangeSpec.witness_shaped (enc:=enc) (C:=Tryz.checked) (os:=os) (X:=fun w _=>laidMetH Tryz.prog uQ w) false (World.laidAll Tryz.prog os uQ)
    #[.agg #[.slice none 0 0,.int .i64 0,.slice none 0 0,.slice none 0 0,.slice none 0 0,.slice none 0 0,.slice none 0 0],.int .i64 0,.int .i64 0,.int .i64 0,.int .i64 0,.int .i64 0] 8 (World.laidAll_os _ _ _)
    (World.shaped_of_ZipB aG aG) aG aG aG
    (by rw[MakeChecks.laidMetH_plain _ _ _ aG];exact laidMet_laidAll _ aG aG)) ?_
 intro W base args ds gs before hval0 hW hc hsz hL _;have hval:∀(j:Nat) t v,Tryz.f5.params[j]? = some t->args[j]? = some v->Value.okWide Tryz.prog W .any base t v:=hval0;have hW':=hW;obtain⟨p,q,hA0,hV,rfl,_,_⟩:=hW;have hA:DataW.TrodAll enc Tryz.prog W 0 (fun _=>true) true Tryz.f5.params.toList args.toList ds p:=hA0
 rw[Tryz.params5] at hA hval;obtain⟨rfl,rfl⟩:=trodVars_none hV;obtain⟨v1,vs1,d1,ds1,p1,q1,ha,rfl,rfl,h1,hA⟩:=trodAll_cons hA;obtain⟨v2,vs2,d2,ds2,p2,q2,rfl,rfl,rfl,h2,hA⟩:=trodAll_cons hA;obtain⟨v3,vs3,d3,ds3,p3,q3,rfl,rfl,rfl,h3,hA⟩:=trodAll_cons hA;obtain⟨v4,vs4,d4,ds4,p4,q4,rfl,rfl,rfl,h4,hA⟩:=trodAll_cons hA;obtain⟨v5,vs5,d5,ds5,p5,q5,rfl,rfl,rfl,h5,hA⟩:=trodAll_cons hA;obtain⟨v6,vs6,d6,ds6,p6,q6,rfl,rfl,rfl,h6,hA⟩:=trodAll_cons hA;obtain⟨rfl,rfl,rfl⟩:=trodAll_nil hA;obtain⟨args⟩:=args;obtain rfl:args=[v1,v2,v3,v4,v5,v6]:=ha;have hw:∀n∈DataW.weightsEach Tryz.prog [31,3,3,3,3,3] [d1,d2,d3,d4,d5,d6],n≤reachBytes:=by
  have e:(DataW.weightsEach Tryz.prog ([31,3,3,3,3,3]++[]) ([d1,d2,d3,d4,d5,d6]++[])).all (·≤reachBytes)=true:=hsz;intro n hn
  simpa using zbr.1 e n (by simpa using hn)
 obtain⟨x2,rfl,rfl,rfl,_⟩:=open_int Tryz.underlying3 (hval 1 3 v2 rfl rfl) h2;obtain⟨x3,rfl,rfl,rfl,_⟩:=open_int Tryz.underlying3 (hval 2 3 v3 rfl rfl) h3;obtain⟨x4,rfl,rfl,rfl,_⟩:=open_int Tryz.underlying3 (hval 3 3 v4 rfl rfl) h4;obtain⟨x5,rfl,rfl,rfl,_⟩:=open_int Tryz.underlying3 (hval 4 3 v5 rfl rfl) h5;obtain⟨x6,rfl,rfl,rfl,_⟩:=open_int Tryz.underlying3 (hval 5 3 v6 rfl rfl) h6;obtain⟨n1,h1⟩:=h1;obtain⟨a1,r1,s1⟩:=Cb n1 31 _ _ h1 fun n hn=>hw n (El _ _ 0 31 d1 rfl rfl n hn)
 obtain⟨c,rfl⟩:=TB s1;have k1 : Rel (lk W) W c.av v1 := N9 (n := 0) r1 (by
  have:=hval 0 31 v1 rfl rfl;rw[Value.okWide,Tryz.underlying31] at this;obtain⟨cs,rfl,_⟩:=this;exact⟨cs,rfl⟩)
 obtain⟨ae,⟨_,hp⟩,rfl⟩:=PT c x2 x3 x4 x5 x6 Yn;refine(hp (lk W) W [v1,.int .i64 x2,.int .i64 x3,.int .i64 x4,.int .i64 x5,.int .i64 x6] (fun _=>rfl) (SV hL) (.cons k1 (.cons (.int _ _) (.cons (.int _ _) (.cons (.int _ _) (.cons (.int _ _) (.cons (.int _ _) .nil))))))).mono fun e W' he=>?_
 obtain⟨c',_,hx,_,_,hE,rfl⟩:=he;cases e with
 | returned v =>
   obtain rfl:v = .bool true:=by cases hE;rfl
   have hin:∀b,b<W.heap.size->W'.heap[b]? = W.heap[b]?:=fun b hb=>hx.other b hb (by rintro⟨k,o,B,hk,_⟩;cases hk)
   exact⟨_,rfl,Xh kids full (by rw[Tryz.params5];decide) rfl hW' rfl aG Tryz.underlying4 hx.os hx.output hin⟩
 | _=>exact hE.elim
theorem caught_holds:Rows.RegsCaughtSaid:=
 OpenClaim.holds_of_wide 5 Tryz.f5 rfl rfl rfl rfl rfl rfl rfl ⟨rfl,rfl,rfl,rfl,rfl⟩ rfl rfl rfl rfl rfl FF Tryz.func5 jf P7 P8 (fun os started H enc _=>lifted os started H enc)
theorem caught_card:Rows.RegsCaughtCardSaid:=
 Claim7.holds_tied_plain_at .later [] [.data,.data,.data,.data,.sentinel,.sentinel,.data,.data,.data,.pinned] true (true, "9c676c79cf6187268d0aaf8d03f648df5663a1a7e68dee59d27ac80132a59bd2") true
  caught_holds (fun _ h=>by cases h) P2 (fun _ h=>by cases h) regsCaught_row_tie rfl ⟨rfl,rfl⟩ P3 rfl
  (fun f fn hf hfn=>by
    obtain rfl:f=5:=zbE (FF.symm.trans hf) |>.symm
    obtain rfl:fn=Tryz.f5:=(zbE (Tryz.func5.symm.trans hfn)).symm;exact⟨P4,fun j t ht=>by
     rw[Tryz.params5] at ht;have hm:t∈[31,3,3,3,3,3]:=by simpa using Array.mem_of_getElem? ht
     exact(show Tryz.prog.wantsStandIn t=false by simpa using zbr.1 P5 t hm)⟩)
  P6
#print axioms caught_card
end Go.Proofs.YthaolifcglpkdaaGreatDoor
