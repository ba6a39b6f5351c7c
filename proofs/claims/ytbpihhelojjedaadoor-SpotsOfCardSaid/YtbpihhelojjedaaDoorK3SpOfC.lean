/- porterlaw16.SpotsOf returns true for every input and leaves its arguments as they were. No condition. -/
import Derived.Test.YtbpihhelojjedaaDoorCards
import Derived.Test.YtbpihhelojjedaaDoorTie
import Derived.Test.YtbpihhelojjedaaDoorK336
import Derived.Test.YtbpihhelojjedaaDoorK337
set_option linter.unusedVariables false
set_option linter.unusedSimpArgs false
set_option maxRecDepth 100000
set_option maxHeartbeats 4000000
namespace Go.Proofs.YtbpihhelojjedaaDoor.SpotsOf
open Go Go.ChangeShapes Go.WideShapes Go.ChangeAt Go.RowKit
open Go.ChangeMaps (open_string shut_string)
open Ab Sh Gn
theorem own:ownKnob Tryd.prog.godebug=none:=by kernel_rfl
theorem laidOut:laidOutB Tryd.prog=true:=by kernel_rfl
theorem contract (H:Type) (enc:TypeId × Value→H) (W:World) (base:Nat) (args:Array Value) (ds gs:List (DataW H)) (before:List MemPlace)
 (hval:∀(j:Nat) t v,Tryd.f4.params[j]?=some t→args[j]?=some v→Value.okWide Tryd.prog W .any base t v)
 (hW:DataW.Whole enc Tryd.prog Tryd.f4.params.toList Rows.spotsOfSpec.vars false W args.toList ds gs before)
 (hsz:(DataW.weightsEach Tryd.prog (Tryd.f4.params.toList++(OpenSpec.ofChange Rows.spotsOfSpec).bare.plain.varTypes Tryd.prog) (ds++gs)).all (·≤reachBytes)=true)
 (hL:laidMetH Tryd.prog Rows.spotsOfRow.laid W) (hsh:W.ShapedOpen Tryd.prog):
 Calls Tryd.prog 4 args W fun e W'=>∃v,e=.returned v∧Rows.spotsOfSpec.post enc Tryd.prog Tryd.f4 false true false false W args v W':=by
 have _u0:=hL
 have _u1:=hsz
 have _u2:=hsh
 have hW':=hW
 obtain ⟨p,q,hA0,hV,rfl,hfz,hnd⟩:=hW
 have hA:DataW.TrodAll enc Tryd.prog W 0 (fun _=>true) true Tryd.f4.params.toList args.toList ds p:=hA0
 rw [Tryd.params4] at hA hval
 obtain ⟨v0,vs0,d0,ds0,p0,q0,hargs,rfl,rfl,h0,r0⟩:=trodAll_cons hA
 obtain ⟨rfl,rfl,rfl⟩:=trodAll_nil r0
 obtain rfl:args=#[v0]:=by cases args;simp_all
 obtain ⟨rfl,rfl⟩:=trodVars_none hV
 have hv0:=hval 0 35 v0 rfl rfl
 obtain ⟨cs0,rfl,-⟩:=okWide_struct Tryd.underlying35 hv0
 obtain ⟨fu0,hf0⟩:=h0
 obtain ⟨g0,z0,k0⟩:=Op2.o_nodeF _ _ _ hf0 (fun k hk=>by
  have h:=_u1
  rw [Tryd.params4] at h
  exact of_decide_eq_true (List.all_eq_true.1 h k (by simp only [List.cons_append,List.nil_append,DataW.weightsEach];exact List.mem_append_left _ hk)))
 refine (Lw.law_true (Gn.l16_SpotsOf_w (Pl.spotsof_p z0.1 z0.2)) (Lw.tab1_of hL) (Op2.vr_cons (Op2.v_agg (ts:=nodeLit rw g0) k0) (Op2.vr_nil))).mono fun e W' ⟨he,hb⟩=>?_
 exact ⟨_,he,law_post laidOut (by kernel_rfl) rfl Tryd.underlying4 rfl rfl hW' hb⟩
noncomputable def laidWorld (os:Os):World:={World.holding Tryd.prog os ⟨#[],#[],[]⟩ with heap:=((World.holding Tryd.prog os ⟨#[],#[],[]⟩).heap.modify 0 fun | .cells _ t fr=>.cells (flatD Rows.laid_math_bits_deBruijn64tab).toArray t fr | o=>o)}
theorem laid_met (os:Os):laidMet Tryd.prog Rows.spotsOfRow.laid ((laidWorld os).forCall (fun _ _=>0) ⟨#[],#[.agg #[.int .i64 0,.int .u64 0,.int .u64 0,.int .u64 0,.int .u64 0,.slice none 0 0,.int .i64 0,.int .i64 0]],[]⟩).memory:=
 laidMet_of_run' 8 (by kernel_rfl) (by kernel_rfl)
theorem reads (os:Os) {H:Type} (enc:TypeId × Value→H):∃places,DataW.whole enc Tryd.prog ((laidWorld os).forCall (fun _ _=>0) ⟨#[],#[.agg #[.int .i64 0,.int .u64 0,.int .u64 0,.int .u64 0,.int .u64 0,.slice none 0 0,.int .i64 0,.int .i64 0]],[]⟩).memory Tryd.f4.params.toList Rows.spotsOfSpec.vars false (#[.agg #[.int .i64 0,.int .u64 0,.int .u64 0,.int .u64 0,.int .u64 0,.slice none 0 0,.int .i64 0,.int .i64 0]]:Array Value).toList 8=some ([.agg [.lit (.int .i64 0),.agg [.lit (.int .u64 0),.lit (.int .u64 0),.lit (.int .u64 0),.lit (.int .u64 0)],.nil,.lit (.int .i64 0),.lit (.int .i64 0)]],[],places):=
 ⟨[],by kernel_rfl⟩
theorem lifted (os:Os) (started:os.Started) (H:Type) (enc:TypeId × Value→H) (F:Stop.Interp):
 ReturnsInHanded {} Tryd.checked os 4 .any ((OpenSpec.ofChange Rows.spotsOfSpec).preRow enc Tryd.prog Tryd.f4 Rows.spotsOfRow.domain false Rows.spotsOfRow.laid) (((OpenSpec.ofChange Rows.spotsOfSpec).at F).post enc Tryd.prog Tryd.f4 false true false false):=by
 obtain ⟨places,hx⟩:=reads os enc
 refine returnsInHanded_of_row (C:=Tryd.checked) (s:=OpenSpec.ofChange Rows.spotsOfSpec) own started (by kernel_rfl) Tryd.func4
  (witness_row_at (enc:=enc) (C:=Tryd.checked) false (laidWorld os) #[.agg #[.int .i64 0,.int .u64 0,.int .u64 0,.int .u64 0,.int .u64 0,.slice none 0 0,.int .i64 0,.int .i64 0]] rfl (by kernel_rfl) (by kernel_rfl) (by kernel_rfl)
   (OpenSpec.preRow_of_cond 8 hx (by kernel_rfl) (fun k hk=>by cases hk) (by kernel_rfl) (laid_met os))) ?_
 intro W base args ds gs before hval hW _ _ hsz hL hsh _
 exact contract H enc W base args ds gs before hval hW hsz hL hsh
theorem said:Rows.SpotsOfSaid:=
 OpenClaim.holds_of_cond 4 Tryd.f4 rfl rfl rfl rfl rfl rfl rfl ⟨rfl,rfl,rfl,rfl,rfl⟩ rfl rfl rfl rfl rfl (by kernel_rfl) Tryd.func4 (by kernel_rfl)
  (of_decide_eq_true (by kernel_rfl)) (by unfold Func.isWrapper;first | (rw [if_pos (by decide+kernel)];kernel_rfl) | (rw [if_neg (by decide+kernel)];exact ⟨rfl,rfl⟩))
  (fun os started H enc _ F=>by rw [OpenClaim.pre_eq_preRow];exact lifted os started H enc F)
theorem plain (f:FuncId) (fn:Func) (hf:Tryd.pinned.checked.prog.funcNamed Tryd.f4.name=some f) (hfn:Tryd.pinned.checked.prog.funcs[f]?=some fn):
 true=Tryd.pinned.checked.prog.looks []∧∀(j:Nat) t,fn.params[j]?=some t→Tryd.pinned.checked.prog.wantsStandIn t=false:=by
 obtain rfl:f=4:=Option.some.inj ((show Tryd.prog.funcNamed Tryd.f4.name=some 4 by kernel_rfl).symm.trans hf) |>.symm
 obtain rfl:fn=Tryd.f4:=(Option.some.inj (Tryd.func4.symm.trans hfn)).symm
 refine ⟨by kernel_rfl,fun j t ht=>?_⟩
 rw [Tryd.params4] at ht
 have hm:t∈[35]:=by simpa using Array.mem_of_getElem? ht
 have hall:([35].all fun u=> !Tryd.prog.wantsStandIn u)=true:=by kernel_rfl
 exact (show Tryd.prog.wantsStandIn t=false by simpa using List.all_eq_true.1 hall t hm)
theorem holds:Rows.SpotsOfCardSaid:=
 Claim7.holds_tied_plain_at .later [] _ _ _ _ said (fun _ h=>by cases h) (by kernel_rfl) (fun _ h=>by cases h) spotsOf_row_tie rfl ⟨rfl,rfl⟩ (by kernel_rfl) rfl plain (by kernel_rfl)
end Go.Proofs.YtbpihhelojjedaaDoor.SpotsOf
