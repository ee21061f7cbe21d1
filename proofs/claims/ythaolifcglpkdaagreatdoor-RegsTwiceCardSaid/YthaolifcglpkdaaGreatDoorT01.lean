/-
  Part T01: lemmas, each with its own conditions.
-/
import Derived.Test.YthaolifcglpkdaaGreatDoorTie
import Derived.Test.YthaolifcglpkdaaGreatDoorCards
import Derived.ProofKit
import Derived.SevenTiedAt
import Derived.Stop.Joined
set_option maxRecDepth 100000
set_option maxHeartbeats 0
set_option linter.all false
namespace Go.Proofs.YthaolifcglpkdaaGreatDoor
open List Nat
open Go Go.ChangeShapes Go.WideShapes Go.ChangeAt Go.RowKit
theorem TA:(Rows.regsTwiceRow.wf (OpenSpec.ofChange Rows.regsTwiceSpec))=true:=by kernel_rfl
theorem TB:(laidOutB Tryz.pinned.checked.prog)=true:=by kernel_rfl
theorem TO:(mapsRowed Tryz.pinned.checked.prog)=true:=by kernel_rfl
theorem TZ:(Tryz.f4.params.all (Tryz.pinned.checked.prog.readableRec ·))=true:=by kernel_rfl
theorem T3:(namedTie Tryz.pinned.checked.prog Rows.regsTwiceRow.named Rows.regsTwiceSpec.vars)=true:=by kernel_rfl
theorem T4:((Rows.regsTwiceRow.stops == []))=true:=by kernel_rfl
theorem T5:((Tryz.pinned.checked.prog.stops == []))=true:=by kernel_rfl
theorem T6:((Rows.regsTwiceRow.knobs == []))=true:=by kernel_rfl
theorem T7:((Tryz.pinned.checked.prog.stopKnobs == []))=true:=by kernel_rfl
theorem T8:((Rows.regsTwiceRow.inPlace == Tryz.pinned.checked.prog.inPlace 4))=true:=by kernel_rfl
theorem TC:((Rows.regsTwiceRow.unfollowed == Tryz.pinned.checked.prog.unfollowed 4))=true:=by kernel_rfl
theorem TE:((Rows.regsTwiceRow.recurses == Tryz.pinned.checked.prog.recurses 4))=true:=by kernel_rfl
theorem TF:((Rows.regsTwiceRow.named == Tryz.pinned.checked.prog.varsNamed 4))=true:=by kernel_rfl
theorem TG:((Rows.regsTwiceRow.maps == (Tryz.f4.params.toList++Rows.regsTwiceSpec.plain.varTypes Tryz.pinned.checked.prog).any (Tryz.pinned.checked.prog.mapsRec ·)))=true:=by kernel_rfl
theorem TH:((Rows.regsTwiceRow.ifaces == (Tryz.f4.params.toList++Rows.regsTwiceSpec.plain.varTypes Tryz.pinned.checked.prog).any (Tryz.pinned.checked.prog.ifacesRec ·)))=true:=by kernel_rfl
theorem TJ:((Rows.regsTwiceRow.mapsOut == Tryz.pinned.checked.prog.mapsAmong Tryz.f4.resultTypes.toList))=true:=by kernel_rfl
theorem TK:((Rows.regsTwiceRow.loops == (Tryz.f4.params.toList++Rows.regsTwiceSpec.plain.varTypes Tryz.pinned.checked.prog).any (Tryz.pinned.checked.prog.loopsFrom ·)))=true:=by kernel_rfl
theorem TL:((Rows.regsTwiceRow.wideKeys == (Tryz.f4.params.toList++Rows.regsTwiceSpec.plain.varTypes Tryz.pinned.checked.prog++Tryz.f4.resultTypes.toList).any (Tryz.pinned.checked.prog.wideKeysFrom ·)))=true:=by kernel_rfl
theorem TM:(Rows.regsTwiceSpec.vars.all (Tryz.pinned.checked.prog.varReadable ·))=true:=by kernel_rfl
theorem TN:(Tryz.f4.resultTypes.all (fun t=>Tryz.pinned.checked.prog.readableRec t && decide (t<Tryz.pinned.checked.prog.types.size)))=true:=by kernel_rfl
theorem TP:((Rows.regsTwiceRow.ifacesOut == Tryz.f4.resultTypes.toList.any (Tryz.pinned.checked.prog.ifacesRec ·)))=true:=by kernel_rfl
theorem TQ:((Rows.regsTwiceRow.loopsOut == Tryz.f4.resultTypes.toList.any (Tryz.pinned.checked.prog.loopsFrom ·)))=true:=by kernel_rfl
theorem TR:((Rows.regsTwiceRow.plainKeys == Tryz.pinned.checked.prog.plainKeys))=true:=by kernel_rfl
theorem TS:(Rows.regsTwiceRow.shortTexts.isNone)=true:=by kernel_rfl
theorem TT:(Tryz.pinned.checked.prog.stopsHeard)=true:=by kernel_rfl
theorem TU:(Tryz.pinned.checked.prog.mayEnter)=true:=by kernel_rfl
theorem TV:((Rows.regsTwiceRow.lifted == Tryz.pinned.checked.prog.liftsFinal))=true:=by kernel_rfl
theorem TW:((Tryz.pinned.checked.prog.make == some Rows.regsTwiceRow.make))=true:=by kernel_rfl
theorem TX:((Rows.regsTwiceRow.kinds == (if Rows.regsTwiceRow.domain.isEmpty then [] else Tryz.f4.params.toList.map fun t=>match Tryz.pinned.checked.prog.underlying t with|some (.int k)=>some k|_=>none)))=true:=by kernel_rfl
theorem TY:((Rows.regsTwiceRow.pinned == Rows.regsTwiceRow.pinnedBy))=true:=by kernel_rfl
theorem T1:((Rows.regsTwiceRow.veiled == (Tryz.f4.params.toList++Rows.regsTwiceSpec.plain.varTypes Tryz.pinned.checked.prog++Tryz.f4.resultTypes.toList).any (Tryz.pinned.checked.prog.veiledRec ·)))=true:=by kernel_rfl
theorem T2:(Rows.regsTwiceRow.veiledFits Tryz.pinned.checked.prog Tryz.f4.params.toList (Tryz.f4.params.toList++Rows.regsTwiceSpec.plain.varTypes Tryz.pinned.checked.prog++Tryz.f4.resultTypes.toList))=true:=by kernel_rfl
theorem jf:joinedFacts Tryz.pinned.checked.prog 4 Tryz.f4 Rows.regsTwiceSpec Rows.regsTwiceRow=true:=by
 unfold joinedFacts;simp only[Bool.and_eq_true];exact⟨⟨⟨⟨⟨⟨⟨⟨⟨⟨⟨⟨⟨⟨⟨⟨⟨⟨⟨⟨⟨⟨⟨⟨⟨⟨⟨⟨⟨⟨⟨TA,TB⟩,TO⟩,TZ⟩,T3⟩,T4⟩,T5⟩,T6⟩,T7⟩,T8⟩,TC⟩,TE⟩,TF⟩,TG⟩,TH⟩,TJ⟩,TK⟩,TL⟩,TM⟩,TN⟩,TP⟩,TQ⟩,TR⟩,TS⟩,TT⟩,TU⟩,TV⟩,TW⟩,TX⟩,TY⟩,T1⟩,T2⟩
theorem Px:Rows.regsTwiceRow.wfByText (OpenSpec.ofChange Rows.regsTwiceSpec)=true:=by kernel_rfl
theorem Py:Tryz.pinned.checked.prog.mainIs=some (true, "9c676c79cf6187268d0aaf8d03f648df5663a1a7e68dee59d27ac80132a59bd2".toList):=by kernel_rfl
theorem Pz:true=Tryz.pinned.checked.prog.looks []:=by kernel_rfl
theorem PA:([31,3,3].all fun u=>!Tryz.prog.wantsStandIn u)=true:=by kernel_rfl
theorem PB:false=Rows.regsTwiceRow.goesBy Tryz.pinned.checked.prog:=by kernel_rfl
theorem Fq:Tryz.prog.funcNamed "pliant/pliantlaw21.RegsTwice" = some 4:=by kernel_rfl
theorem PD:Tryz.f4.isInstance Tryz.pinned.checked.prog Rows.regsTwiceRow.origin Rows.regsTwiceRow.targs:=of_decide_eq_true (by kernel_rfl)
theorem PE:Tryz.f4.isWrapper Tryz.pinned.checked.prog Rows.regsTwiceRow.wrapper Rows.regsTwiceRow.mainSum:=by
 unfold Func.isWrapper;first|(rw[if_pos (by decide +kernel)];kernel_rfl)|(rw[if_neg (by decide +kernel)];exact⟨rfl,rfl⟩)
end Go.Proofs.YthaolifcglpkdaaGreatDoor
