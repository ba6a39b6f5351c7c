/- porterlaw18.DfaOf returns true for every input and leaves its arguments as they were. No condition. -/
import Derived.Test.YtjhbgkakhaonaaaGreatDoorCards
import Derived.Test.YtjhbgkakhaonaaaGreatDoorTie
import Derived.Test.YtjhbgkakhaonaaaGreatDoorK238
set_option linter.unusedVariables false
set_option linter.unusedSimpArgs false
set_option maxRecDepth 100000
set_option maxHeartbeats 4000000
namespace Go.Proofs.YtjhbgkakhaonaaaGreatDoor.DfaOf
open Go Go.ChangeShapes Go.WideShapes Go.ChangeAt Go.RowKit
open Go.ChangeMaps (open_string shut_string)
open Ab Sh Gn
theorem op33 {H:Type} {enc:TypeId × Value→H} {W:World} {sp:Nat→Bool} {held:Bool} {fuel:Nat} {cs:List Value} {x:DataW H × List MemPlace} (h:DataW.trod enc Tryz.prog W 0 sp held fuel 33 cs=some x):∃g:GSpots,Op2.CRep (Op2.GW W) W (cSpots g) cs:=by
 obtain ⟨xs,m,rfl,hx,hl,hxl,hf⟩:=DataW.trod_struct Tryz.underlying33 h
 have hl:cs.length=5:=hl.trans (by kernel_rfl)
 obtain ⟨y0,e0⟩:=Op2.fld hxl hf 0 _ rfl
 have e0:DataW.trod enc Tryz.prog W 0 sp held m 31 ((cs.drop 0).take (Tryz.prog.cellsOf 31))=some y0:=e0
 rw [show Tryz.prog.cellsOf 31=1 by kernel_rfl] at e0
 obtain ⟨a0,k0⟩:∃a:(List CSet),Op2.CRep (Op2.GW W) W ((cLs cSet) a) ((cs.drop 0).take 1):=(Op2.o_slc (c:=cSet) Tryz.underlying31 (show Tryz.prog.cellsOf 45=4 by kernel_rfl) (by decide) (fun _=>rfl) (fun _ _ _ h=>Op2.o_set Tryz.underlying45 Tryz.underlying43 (by kernel_rfl) (by kernel_rfl) h) (by rw [List.length_take,List.length_drop];omega) e0).imp fun _ h=>h.1
 obtain ⟨y1,e1⟩:=Op2.fld hxl hf 1 _ rfl
 have e1:DataW.trod enc Tryz.prog W 0 sp held m 4 ((cs.drop 1).take (Tryz.prog.cellsOf 4))=some y1:=e1
 rw [show Tryz.prog.cellsOf 4=1 by kernel_rfl] at e1
 obtain ⟨a1,k1⟩:∃a:Bool,Op2.CRep (Op2.GW W) W (cB a) ((cs.drop 1).take 1):=Op2.o_bool Tryz.underlying4 e1
 obtain ⟨y2,e2⟩:=Op2.fld hxl hf 2 _ rfl
 have e2:DataW.trod enc Tryz.prog W 0 sp held m 23 ((cs.drop 2).take (Tryz.prog.cellsOf 23))=some y2:=e2
 rw [show Tryz.prog.cellsOf 23=1 by kernel_rfl] at e2
 obtain ⟨a2,k2⟩:∃a:(List Int),Op2.CRep (Op2.GW W) W ((cLs (cI .i64)) a) ((cs.drop 2).take 1):=(Op2.o_slc (c:=(cI .i64)) Tryz.underlying23 (show Tryz.prog.cellsOf 3=1 by kernel_rfl) (by decide) (fun _=>rfl) (fun _ _ _ h=>Op2.o_int Tryz.underlying3 h) (by rw [List.length_take,List.length_drop];omega) e2).imp fun _ h=>h.1
 obtain ⟨y3,e3⟩:=Op2.fld hxl hf 3 _ rfl
 have e3:DataW.trod enc Tryz.prog W 0 sp held m 23 ((cs.drop 3).take (Tryz.prog.cellsOf 23))=some y3:=e3
 rw [show Tryz.prog.cellsOf 23=1 by kernel_rfl] at e3
 obtain ⟨a3,k3⟩:∃a:(List Int),Op2.CRep (Op2.GW W) W ((cLs (cI .i64)) a) ((cs.drop 3).take 1):=(Op2.o_slc (c:=(cI .i64)) Tryz.underlying23 (show Tryz.prog.cellsOf 3=1 by kernel_rfl) (by decide) (fun _=>rfl) (fun _ _ _ h=>Op2.o_int Tryz.underlying3 h) (by rw [List.length_take,List.length_drop];omega) e3).imp fun _ h=>h.1
 obtain ⟨y4,e4⟩:=Op2.fld hxl hf 4 _ rfl
 have e4:DataW.trod enc Tryz.prog W 0 sp held m 24 ((cs.drop 4).take (Tryz.prog.cellsOf 24))=some y4:=e4
 rw [show Tryz.prog.cellsOf 24=1 by kernel_rfl] at e4
 obtain ⟨a4,k4⟩:∃a:(List (List Int)),Op2.CRep (Op2.GW W) W ((cLs (cLs (cI .i64))) a) ((cs.drop 4).take 1):=(Op2.o_slc (c:=(cLs (cI .i64))) Tryz.underlying24 (show Tryz.prog.cellsOf 23=1 by kernel_rfl) (by decide) (fun _=>rfl) (fun _ _ _ h=>(Op2.o_slc (c:=(cI .i64)) Tryz.underlying23 (show Tryz.prog.cellsOf 3=1 by kernel_rfl) (by decide) (fun _=>rfl) (fun _ _ _ h=>Op2.o_int Tryz.underlying3 h) (Op2.len1 Tryz.underlying23 h) h).imp fun _ h=>h.1) (by rw [List.length_take,List.length_drop];omega) e4).imp fun _ h=>h.1
 exact ⟨⟨a0,a1,a2,a3,a4⟩,Op2.part k0 (Op2.part k1 (Op2.part k2 (Op2.part k3 (Op2.part_end (by omega) k4))))⟩
theorem own:ownKnob Tryz.prog.godebug=none:=by kernel_rfl
theorem laidOut:laidOutB Tryz.prog=true:=by kernel_rfl
theorem contract (H:Type) (enc:TypeId × Value→H) (W:World) (base:Nat) (args:Array Value) (ds gs:List (DataW H)) (before:List MemPlace)
 (hval:∀(j:Nat) t v,Tryz.f4.params[j]?=some t→args[j]?=some v→Value.okWide Tryz.prog W .any base t v)
 (hW:DataW.Whole enc Tryz.prog Tryz.f4.params.toList Rows.dfaOfSpec.vars false W args.toList ds gs before)
 (hsz:(DataW.weightsEach Tryz.prog (Tryz.f4.params.toList++(OpenSpec.ofChange Rows.dfaOfSpec).bare.plain.varTypes Tryz.prog) (ds++gs)).all (·≤reachBytes)=true)
 (hL:laidMetH Tryz.prog Rows.dfaOfRow.laid W) (hsh:W.ShapedOpen Tryz.prog):
 Calls Tryz.prog 4 args W fun e W'=>∃v,e=.returned v∧Rows.dfaOfSpec.post enc Tryz.prog Tryz.f4 false true false false W args v W':=by
 have _u0:=hL
 have _u1:=hsz
 have _u2:=hsh
 have hW':=hW
 obtain ⟨p,q,hA0,hV,rfl,hfz,hnd⟩:=hW
 have hA:DataW.TrodAll enc Tryz.prog W 0 (fun _=>true) true Tryz.f4.params.toList args.toList ds p:=hA0
 rw [Tryz.params4] at hA hval
 obtain ⟨v0,vs0,d0,ds0,p0,q0,hargs,rfl,rfl,h0,r0⟩:=trodAll_cons hA
 obtain ⟨rfl,rfl,rfl⟩:=trodAll_nil r0
 obtain rfl:args=#[v0]:=by cases args;simp_all
 obtain ⟨rfl,rfl⟩:=trodVars_none hV
 have hv0:=hval 0 33 v0 rfl rfl
 obtain ⟨cs0,rfl,-⟩:=okWide_struct Tryz.underlying33 hv0
 obtain ⟨fu0,hf0⟩:=h0
 obtain ⟨g0,k0⟩:=op33 hf0
 refine (Lw.law_true (Gn.l18_DfaOf_w (Dq.dfaof_p g0)) (Lw.tab1_of hL) (Op2.vr_cons (Op2.v_agg (ts:=cSpots g0) k0) (Op2.vr_nil))).mono fun e W' ⟨he,hb⟩=>?_
 exact ⟨_,he,law_post laidOut (by kernel_rfl) rfl Tryz.underlying4 rfl rfl hW' hb⟩
noncomputable def laidWorld (os:Os):World:={World.holding Tryz.prog os ⟨#[],#[],[]⟩ with heap:=((World.holding Tryz.prog os ⟨#[],#[],[]⟩).heap.modify 1 fun | .cells _ t fr=>.cells (flatD Rows.laid_math_bits_deBruijn64tab).toArray t fr | o=>o)}
theorem laid_met (os:Os):laidMet Tryz.prog Rows.dfaOfRow.laid ((laidWorld os).forCall (fun _ _=>0) ⟨#[],#[.agg #[.slice none 0 0,.bool false,.slice none 0 0,.slice none 0 0,.slice none 0 0]],[]⟩).memory:=
 laidMet_of_run' 8 (by kernel_rfl) (by kernel_rfl)
theorem reads (os:Os) {H:Type} (enc:TypeId × Value→H):∃places,DataW.whole enc Tryz.prog ((laidWorld os).forCall (fun _ _=>0) ⟨#[],#[.agg #[.slice none 0 0,.bool false,.slice none 0 0,.slice none 0 0,.slice none 0 0]],[]⟩).memory Tryz.f4.params.toList Rows.dfaOfSpec.vars false (#[.agg #[.slice none 0 0,.bool false,.slice none 0 0,.slice none 0 0,.slice none 0 0]]:Array Value).toList 8=some ([.agg [.nil,.lit (.bool false),.nil,.nil,.nil]],[],places):=
 ⟨[],by kernel_rfl⟩
theorem lifted (os:Os) (started:os.Started) (H:Type) (enc:TypeId × Value→H) (F:Stop.Interp):
 ReturnsInHanded {} Tryz.checked os 4 .any ((OpenSpec.ofChange Rows.dfaOfSpec).preRow enc Tryz.prog Tryz.f4 Rows.dfaOfRow.domain false Rows.dfaOfRow.laid) (((OpenSpec.ofChange Rows.dfaOfSpec).at F).post enc Tryz.prog Tryz.f4 false true false false):=by
 obtain ⟨places,hx⟩:=reads os enc
 refine returnsInHanded_of_row (C:=Tryz.checked) (s:=OpenSpec.ofChange Rows.dfaOfSpec) own started (by kernel_rfl) Tryz.func4
  (witness_row_at (enc:=enc) (C:=Tryz.checked) false (laidWorld os) #[.agg #[.slice none 0 0,.bool false,.slice none 0 0,.slice none 0 0,.slice none 0 0]] rfl (by kernel_rfl) (by kernel_rfl) (by kernel_rfl)
   (OpenSpec.preRow_of_cond 8 hx (by kernel_rfl) (fun k hk=>by cases hk) (by kernel_rfl) (laid_met os))) ?_
 intro W base args ds gs before hval hW _ _ hsz hL hsh _
 exact contract H enc W base args ds gs before hval hW hsz hL hsh
theorem said:Rows.DfaOfSaid:=
 OpenClaim.holds_of_cond 4 Tryz.f4 rfl rfl rfl rfl rfl rfl rfl ⟨rfl,rfl,rfl,rfl,rfl⟩ rfl rfl rfl rfl rfl (by kernel_rfl) Tryz.func4 (by kernel_rfl)
  (of_decide_eq_true (by kernel_rfl)) (by unfold Func.isWrapper;first | (rw [if_pos (by decide+kernel)];kernel_rfl) | (rw [if_neg (by decide+kernel)];exact ⟨rfl,rfl⟩))
  (fun os started H enc _ F=>by rw [OpenClaim.pre_eq_preRow];exact lifted os started H enc F)
theorem plain (f:FuncId) (fn:Func) (hf:Tryz.pinned.checked.prog.funcNamed Tryz.f4.name=some f) (hfn:Tryz.pinned.checked.prog.funcs[f]?=some fn):
 true=Tryz.pinned.checked.prog.looks []∧∀(j:Nat) t,fn.params[j]?=some t→Tryz.pinned.checked.prog.wantsStandIn t=false:=by
 obtain rfl:f=4:=Option.some.inj ((show Tryz.prog.funcNamed Tryz.f4.name=some 4 by kernel_rfl).symm.trans hf) |>.symm
 obtain rfl:fn=Tryz.f4:=(Option.some.inj (Tryz.func4.symm.trans hfn)).symm
 refine ⟨by kernel_rfl,fun j t ht=>?_⟩
 rw [Tryz.params4] at ht
 have hm:t∈[33]:=by simpa using Array.mem_of_getElem? ht
 have hall:([33].all fun u=> !Tryz.prog.wantsStandIn u)=true:=by kernel_rfl
 exact (show Tryz.prog.wantsStandIn t=false by simpa using List.all_eq_true.1 hall t hm)
theorem holds:Rows.DfaOfCardSaid:=
 Claim7.holds_tied_plain_at .later [] _ _ _ _ said (fun _ h=>by cases h) (by kernel_rfl) (fun _ h=>by cases h) dfaOf_row_tie rfl ⟨rfl,rfl⟩ (by kernel_rfl) rfl plain (by kernel_rfl)
end Go.Proofs.YtjhbgkakhaonaaaGreatDoor.DfaOf
