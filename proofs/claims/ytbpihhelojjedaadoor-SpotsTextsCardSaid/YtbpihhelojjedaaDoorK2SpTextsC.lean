/- porterlaw16.SpotsTexts returns true for every input and leaves its arguments as they were. No condition. -/
import Derived.Test.YtbpihhelojjedaaDoorCards
import Derived.Test.YtbpihhelojjedaaDoorTie
import Derived.Test.YtbpihhelojjedaaDoorK236
set_option linter.unusedVariables false
set_option linter.unusedSimpArgs false
set_option maxRecDepth 100000
set_option maxHeartbeats 4000000
namespace Go.Proofs.YtbpihhelojjedaaDoor.SpotsTexts
open Go Go.ChangeShapes Go.WideShapes Go.ChangeAt Go.RowKit
open Go.ChangeMaps (open_string shut_string)
open Ab Sh Gn
theorem own:ownKnob Tryd.prog.godebug=none:=by kernel_rfl
theorem laidOut:laidOutB Tryd.prog=true:=by kernel_rfl
theorem contract (H:Type) (enc:TypeId × Value→H) (W:World) (base:Nat) (args:Array Value) (ds gs:List (DataW H)) (before:List MemPlace)
 (hval:∀(j:Nat) t v,Tryd.f5.params[j]?=some t→args[j]?=some v→Value.okWide Tryd.prog W .any base t v)
 (hW:DataW.Whole enc Tryd.prog Tryd.f5.params.toList Rows.spotsTextsSpec.vars false W args.toList ds gs before)
 (hsz:(DataW.weightsEach Tryd.prog (Tryd.f5.params.toList++(OpenSpec.ofChange Rows.spotsTextsSpec).bare.plain.varTypes Tryd.prog) (ds++gs)).all (·≤reachBytes)=true)
 (hL:laidMetH Tryd.prog Rows.spotsTextsRow.laid W) (hsh:W.ShapedOpen Tryd.prog):
 Calls Tryd.prog 5 args W fun e W'=>∃v,e=.returned v∧Rows.spotsTextsSpec.post enc Tryd.prog Tryd.f5 false true false false W args v W':=by
 have _u0:=hL
 have _u1:=hsz
 have _u2:=hsh
 have hW':=hW
 obtain ⟨p,q,hA0,hV,rfl,hfz,hnd⟩:=hW
 have hA:DataW.TrodAll enc Tryd.prog W 0 (fun _=>true) true Tryd.f5.params.toList args.toList ds p:=hA0
 rw [Tryd.params5] at hA hval
 obtain ⟨v0,vs0,d0,ds0,p0,q0,hargs,rfl,rfl,h0,r0⟩:=trodAll_cons hA
 obtain ⟨v1,vs1,d1,ds1,p1,q1,rfl,rfl,rfl,h1,r1⟩:=trodAll_cons r0
 obtain ⟨rfl,rfl,rfl⟩:=trodAll_nil r1
 obtain rfl:args=#[v0,v1]:=by cases args;simp_all
 obtain ⟨rfl,rfl⟩:=trodVars_none hV
 have hv0:=hval 0 35 v0 rfl rfl
 have hv1:=hval 1 9 v1 rfl rfl
 obtain ⟨v1,rfl,-,-,hs1⟩:=open_string Tryd.underlying9 hv1 h1
 obtain ⟨cs0,rfl,-⟩:=okWide_struct Tryd.underlying35 hv0
 obtain ⟨fu0,hf0⟩:=h0
 obtain ⟨g0,z0,k0⟩:=Op2.o_node _ _ _ hf0
 refine (Lw.law_true (Gn.l16_SpotsTexts_w (Pl.spotstexts_p v1 z0)) (Lw.tab1_of hL) (Op2.vr_cons (Op2.v_agg (ts:=nodeLit rw g0) k0) (Op2.vr_cons (Lw.flat_rep rfl _ _) (Op2.vr_nil)))).mono fun e W' ⟨he,hb⟩=>?_
 exact ⟨_,he,law_post laidOut (by kernel_rfl) rfl Tryd.underlying4 rfl rfl hW' hb⟩
noncomputable def laidWorld (os:Os):World:={World.holding Tryd.prog os ⟨#[],#[],[]⟩ with heap:=((World.holding Tryd.prog os ⟨#[],#[],[]⟩).heap.modify 0 fun | .cells _ t fr=>.cells (flatD Rows.laid_math_bits_deBruijn64tab).toArray t fr | o=>o)}
theorem laid_met (os:Os):laidMet Tryd.prog Rows.spotsTextsRow.laid ((laidWorld os).forCall (fun _ _=>0) ⟨#[],#[.agg #[.int .i64 0,.int .u64 0,.int .u64 0,.int .u64 0,.int .u64 0,.slice none 0 0,.int .i64 0,.int .i64 0],.string ⟨#[]⟩],[]⟩).memory:=
 laidMet_of_run' 8 (by kernel_rfl) (by kernel_rfl)
theorem reads (os:Os) {H:Type} (enc:TypeId × Value→H):∃places,DataW.whole enc Tryd.prog ((laidWorld os).forCall (fun _ _=>0) ⟨#[],#[.agg #[.int .i64 0,.int .u64 0,.int .u64 0,.int .u64 0,.int .u64 0,.slice none 0 0,.int .i64 0,.int .i64 0],.string ⟨#[]⟩],[]⟩).memory Tryd.f5.params.toList Rows.spotsTextsSpec.vars false (#[.agg #[.int .i64 0,.int .u64 0,.int .u64 0,.int .u64 0,.int .u64 0,.slice none 0 0,.int .i64 0,.int .i64 0],.string ⟨#[]⟩]:Array Value).toList 8=some ([.agg [.lit (.int .i64 0),.agg [.lit (.int .u64 0),.lit (.int .u64 0),.lit (.int .u64 0),.lit (.int .u64 0)],.nil,.lit (.int .i64 0),.lit (.int .i64 0)],.lit (.string [])],[],places):=
 ⟨[],by kernel_rfl⟩
theorem lifted (os:Os) (started:os.Started) (H:Type) (enc:TypeId × Value→H) (F:Stop.Interp):
 ReturnsInHanded {} Tryd.checked os 5 .any ((OpenSpec.ofChange Rows.spotsTextsSpec).preRow enc Tryd.prog Tryd.f5 Rows.spotsTextsRow.domain false Rows.spotsTextsRow.laid) (((OpenSpec.ofChange Rows.spotsTextsSpec).at F).post enc Tryd.prog Tryd.f5 false true false false):=by
 obtain ⟨places,hx⟩:=reads os enc
 refine returnsInHanded_of_row (C:=Tryd.checked) (s:=OpenSpec.ofChange Rows.spotsTextsSpec) own started (by kernel_rfl) Tryd.func5
  (witness_row_at (enc:=enc) (C:=Tryd.checked) false (laidWorld os) #[.agg #[.int .i64 0,.int .u64 0,.int .u64 0,.int .u64 0,.int .u64 0,.slice none 0 0,.int .i64 0,.int .i64 0],.string ⟨#[]⟩] rfl (by kernel_rfl) (by kernel_rfl) (by kernel_rfl)
   (OpenSpec.preRow_of_cond 8 hx (by kernel_rfl) (fun k hk=>by cases hk) (by kernel_rfl) (laid_met os))) ?_
 intro W base args ds gs before hval hW _ _ hsz hL hsh _
 exact contract H enc W base args ds gs before hval hW hsz hL hsh
theorem said:Rows.SpotsTextsSaid:=
 OpenClaim.holds_of_cond 5 Tryd.f5 rfl rfl rfl rfl rfl rfl rfl ⟨rfl,rfl,rfl,rfl,rfl⟩ rfl rfl rfl rfl rfl (by kernel_rfl) Tryd.func5 (by kernel_rfl)
  (of_decide_eq_true (by kernel_rfl)) (by unfold Func.isWrapper;first | (rw [if_pos (by decide+kernel)];kernel_rfl) | (rw [if_neg (by decide+kernel)];exact ⟨rfl,rfl⟩))
  (fun os started H enc _ F=>by rw [OpenClaim.pre_eq_preRow];exact lifted os started H enc F)
theorem plain (f:FuncId) (fn:Func) (hf:Tryd.pinned.checked.prog.funcNamed Tryd.f5.name=some f) (hfn:Tryd.pinned.checked.prog.funcs[f]?=some fn):
 true=Tryd.pinned.checked.prog.looks []∧∀(j:Nat) t,fn.params[j]?=some t→Tryd.pinned.checked.prog.wantsStandIn t=false:=by
 obtain rfl:f=5:=Option.some.inj ((show Tryd.prog.funcNamed Tryd.f5.name=some 5 by kernel_rfl).symm.trans hf) |>.symm
 obtain rfl:fn=Tryd.f5:=(Option.some.inj (Tryd.func5.symm.trans hfn)).symm
 refine ⟨by kernel_rfl,fun j t ht=>?_⟩
 rw [Tryd.params5] at ht
 have hm:t∈[35,9]:=by simpa using Array.mem_of_getElem? ht
 have hall:([35,9].all fun u=> !Tryd.prog.wantsStandIn u)=true:=by kernel_rfl
 exact (show Tryd.prog.wantsStandIn t=false by simpa using List.all_eq_true.1 hall t hm)
theorem holds:Rows.SpotsTextsCardSaid:=
 Claim7.holds_tied_plain_at .later [] _ _ _ _ said (fun _ h=>by cases h) (by kernel_rfl) (fun _ h=>by cases h) spotsTexts_row_tie rfl ⟨rfl,rfl⟩ (by kernel_rfl) rfl plain (by kernel_rfl)
end Go.Proofs.YtbpihhelojjedaaDoor.SpotsTexts
