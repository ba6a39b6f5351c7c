/- Texts that the proof leans on. -/
import Derived.Test.YtpplemjjeefpdaaGreatDoorK226
set_option linter.unusedVariables false
set_option linter.unusedSimpArgs false
set_option maxRecDepth 100000
set_option maxHeartbeats 4000000
namespace Go.Proofs.YtpplemjjeefpdaaGreatDoor
open Go Go.RowKit Go.Sort
open Ab
namespace Sh
instance:Inhabited Gn.GMatcher:=⟨⟨ByteArray.empty,0,ByteArray.empty⟩⟩
def gM (x:Gn.GMatcher):Mt.M:=⟨x.Name,x.Op,x.Value⟩
def cfM (x y:Gn.GMatcher):Int:=Mt.cmp (gM x) (gM y)
theorem gM_inj {x y:Gn.GMatcher} (h:gM x=gM y):x=y:=by cases x;cases y;cases h;rfl
theorem ltM_iff (x y:Gn.GMatcher):ltOf cfM x y=true↔Sl.lt (gM x) (gM y):=by unfold ltOf Sl.lt cfM;exact decide_eq_true_iff
theorem ltM_not (x y:Gn.GMatcher):ltOf cfM x y=false↔¬ Sl.lt (gM x) (gM y):=by rw [←ltM_iff];simp
theorem swoM:SWO (ltOf cfM):=by
 refine ⟨fun x=>(ltM_not x x).2 (Sl.lt_irr _),fun x y z h k=>(ltM_iff x z).2 (Sl.lt_tr _ _ _ ((ltM_iff x y).1 h) ((ltM_iff y z).1 k)),fun x y z h k=>?_⟩
 rw [ltM_not] at h k ⊢
 intro g
 rcases Sl.lt_tri (gM x) (gM y) with e | e | e
 · exact h e
 · rw [e] at g;exact k g
 · exact k (Sl.lt_tr _ _ _ e g)
theorem totM (x y:Gn.GMatcher) (h:ltOf cfM x y=false) (k:ltOf cfM y x=false):x=y:=by
 rw [ltM_not] at h k
 rcases Sl.lt_tri (gM x) (gM y) with e | e | e
 · exact absurd e h
 · exact gM_inj e
 · exact absurd e k
def sortM (l:List Gn.GMatcher):List Gn.GMatcher:=l.mergeSort fun x y=> !(ltOf cfM) y x
theorem sortM_meth (l:List Gn.GMatcher) (hl:l.length≤1000000000) (ty:TypeId):MethL Tryz.prog 45 ty 3 (rw _ Gn.cMatcher l) [.fn 46 []] (.tup []) (rw _ Gn.cMatcher (sortM l)):=
 sortK_methL (enc:=Sr.encM) (c:=Gn.cMatcher) (k:=3) (fun _=>rfl) (fun _=>rfl) (fun x v hv=>by simp [Sr.encM] at hv;rcases hv with rfl | rfl | rfl<;>rfl) (Tryz.call45) (m:=sortM) (fun l=>by unfold sortM;rw [List.length_mergeSort])
  (fun blk cap d w hH hb hn=>AnyQ.slices_SortFunc_total Tryz.sortM 3 Tryz.isAgg46 Tryz.sizeOf46 Sr.encM (fun _=>rfl) (fun x v hv=>by simp [Sr.encM] at hv;rcases hv with rfl | rfl | rfl<;>rfl) cfM swoM 46 #[] blk 0 cap d w (enters_of Tryz.func46 (by kernel_rfl) rfl) (fun _ _ _ _ x y=>Sr.compare_any x y _) hH hb hn totM) l hl ty
theorem sortM_none:NoneL Tryz.prog 45 [.fn 46 []]:=by
 refine ⟨Tryz.call45,fun G w p cap cargs h=>?_⟩
 obtain ⟨u0,r0,rfl,hu,hr0⟩:=h.uncons
 obtain rfl:r0=#[]:=by have:=hr0.1;simpa using this
 exact AnyF.slices_SortFunc_none Tryz.sortM p cap u0 w
def sortM_g (l:List Gn.GMatcher):Option (List Gn.GMatcher):=sortK_g sortM l
theorem sortM_L {A:Run} {W:Wd} {E:Env} (hE:dom Tryz.prog A=mkE W E) {R:RF} (hR:R=rw) {ty id:Nat} {l:List Gn.GMatcher} {β:Type} {v:β} {X:List Gn.GMatcher→Option β} {s:St} {K:V→St→Prop} (h:(sortM_g l).bind X=some v)
 (hrow:s.heap.getD id none=some (.list ty 3 (R _ Gn.cMatcher l))) (hK:∀x,X x=some v→K (.tup []) (s.setRow id (.list ty 3 (R _ Gn.cMatcher x)))):E.call 45 [.lst id,.fn 46 []] s K:=
 L_sortK hE hR h sortM_meth sortM_none (by unfold sortM;simp) rfl hrow hK
theorem sortN_none:NoneL Tryz.prog 49 []:=by
 refine ⟨Tryz.call49,fun G w p cap cargs h=>?_⟩
 obtain rfl:cargs=#[]:=by have:=h.1;simpa using this
 exact Tryz.slices_Sort_string_none p cap w
def sortN_g (l:List ByteArray):Option (List ByteArray):=sortK_g isort l
theorem sortN_L {A:Run} {W:Wd} {E:Env} (hE:dom Tryz.prog A=mkE W E) {R:RF} (hR:R=rw) {ty id:Nat} {l:List ByteArray} {β:Type} {v:β} {X:List ByteArray→Option β} {s:St} {K:V→St→Prop} (h:(sortN_g l).bind X=some v)
 (hrow:s.heap.getD id none=some (.list ty 1 (R _ cS l))) (hK:∀x,X x=some v→K (.tup []) (s.setRow id (.list ty 1 (R _ cS x)))):E.call 49 [.lst id] s K:=
 L_sortK hE hR h sort_w sortN_none rfl rfl hrow hK
end Sh
end Go.Proofs.YtpplemjjeefpdaaGreatDoor
namespace Go.Proofs.YtpplemjjeefpdaaGreatDoor
open Go Go.RowKit
open Ab Sh
namespace Gn
def selector_NamesW_l4 (v6:Int):Nat→Int→Int→List ByteArray→Option (List ByteArray)
| 0,_,_,_=>none
| m+1,v11,v12,v13=>
 cond (winB v13 v6) (cond (cm .lss v12 (ar .sub .i64 (ll (rw _ cS v13)) v6))
 (cond (wrowB v13 v6 v12) ((at_ v13 (ar .add .i64 v6 v12)).bind fun r14=>
 cond (wrowB v13 v6 (ar .sub .i64 v12 1)) ((at_ v13 (ar .add .i64 v6 (ar .sub .i64 v12 1))).bind fun r15=>
 (cond (sc .neq r14 r15)
 (cond (wrowB v13 v6 v12) ((at_ v13 (ar .add .i64 v6 v12)).bind fun r16=>
 (at_ v13 v11).bind fun r17=>
 (at_ v13 v11).bind fun r18=>
 put cS v13 v11 r16 fun l19=>
 some (ar .add .i64 v11 1,l19)) none)
 (some (v11,v13)):Option (Int ×(List ByteArray))).bind fun j2=>
 (selector_NamesW_l4 v6 m) j2.1 (ar .add .i64 v12 1) j2.2) none) none)
 (cond (winB v13 v11) ((clr cS ByteArray.empty v13 v11).bind fun l20=>
 (cut cS l20 v11).bind fun l21=>
 some l21) none)) none
def selector_NamesW_l3 (N:Nat) (l5:List ByteArray):Nat→Int→Option (List ByteArray)
| 0,_=>none
| m+1,v6=>
 cond (cm .lss v6 (ll (rw _ cS l5)))
 ((at_ l5 v6).bind fun r7=>
 (at_ l5 v6).bind fun r8=>
 (at_ l5 (ar .sub .i64 v6 1)).bind fun r9=>
 (at_ l5 (ar .sub .i64 v6 1)).bind fun r10=>
 cond (sc .eql r8 r10)
 (cond (winB l5 v6) (selector_NamesW_l4 v6 N v6 1 l5) none)
 ((selector_NamesW_l3 N l5 m) (ar .add .i64 v6 1)))
 (some l5)
def selector_NamesW_l1 (N:Nat) (p0:List GMatcher):Nat→Int→List ByteArray→Option (List ByteArray)
| 0,_,_=>none
| m+1,v1,v2=>
 cond (cm .lss v1 (ll (rw _ cMatcher p0)))
 ((at_ p0 v1).bind fun r3=>
 (app cS v2 [r3.Name]).bind fun l4=>
 (selector_NamesW_l1 N p0 m) (ar .add .i64 v1 1) l4)
 ((sortN_g v2).bind fun l5=>
 cond (cm .lss (ll (rw _ cS l5)) 2)
 (some l5)
 (selector_NamesW_l3 N l5 N 1))
def selector_NamesW_g (N:Nat) (p0:List GMatcher):Option (List ByteArray):=
 selector_NamesW_l1 N p0 N 0 []
def l23_worksW_s (R:RF) (r:Bool):V:=fB r
def l23_worksW_g (N:Nat):Option Bool:=
 (selector_Parse_g N (ByteArray.mk #[123,97,61,34,49,34,44,32,98,33,126,34,50,34,125])).bind fun a1=>
 ((selector_Text_g N [(⟨(ByteArray.mk #[97]),1,(ByteArray.mk #[49])⟩:GMatcher),(⟨(ByteArray.mk #[98]),4,(ByteArray.mk #[50])⟩:GMatcher)]).bind fun a2=>
 cond (sc .eql a2 (ByteArray.mk #[123,97,61,34,49,34,44,32,98,33,126,34,50,34,125]))
 ((porterbase_SameSel_g N a1.1 [(⟨(ByteArray.mk #[97]),1,(ByteArray.mk #[49])⟩:GMatcher),(⟨(ByteArray.mk #[98]),4,(ByteArray.mk #[50])⟩:GMatcher)]).bind fun a3=>
 cond (a3)
 (cond (conj [cm .eql a1.2.E 0,cm .eql a1.2.At 0])
 ((selector_Holds_g N [(⟨(ByteArray.mk #[97]),1,(ByteArray.mk #[49])⟩:GMatcher),(⟨(ByteArray.mk #[98]),4,(ByteArray.mk #[50])⟩:GMatcher)] [(⟨(ByteArray.mk #[97]),(ByteArray.mk #[49])⟩:GLabel)]).bind fun a4=>
 cond (a4)
 ((selector_Holds_g N [(⟨(ByteArray.mk #[97]),1,(ByteArray.mk #[49])⟩:GMatcher),(⟨(ByteArray.mk #[98]),4,(ByteArray.mk #[50])⟩:GMatcher)] []).bind fun a5=>
 cond (!a5)
 ((selector_Holds_g N [] []).bind fun a6=>
 cond (a6)
 ((selector_NamesW_g N [(⟨(ByteArray.mk #[97]),1,(ByteArray.mk #[49])⟩:GMatcher),(⟨(ByteArray.mk #[98]),4,(ByteArray.mk #[50])⟩:GMatcher)]).bind fun l7=>
 some (cm .eql (ll (rw _ cS l7)) 2))
 (some false))
 (some false))
 (some false))
 (some false))
 (some false))
 (some false):Option Bool).bind fun j1=>
 some j1
def slices_Clone_M_g (p0:List GMatcher):Option (List GMatcher):=
 nilq p0
 (some [])
 ((some []).bind fun l1=>
 (app cMatcher l1 p0).bind fun l2=>
 some l2)
def selector_Order_l3 (v3:Int):Nat→Int→Int→List GMatcher→Option (List GMatcher)
| 0,_,_,_=>none
| m+1,v8,v9,v10=>
 cond (winB v10 v3) (cond (cm .lss v9 (ar .sub .i64 (ll (rw _ cMatcher v10)) v3))
 (cond (wrowB v10 v3 v9) ((at_ v10 (ar .add .i64 v3 v9)).bind fun r11=>
 cond (wrowB v10 v3 (ar .sub .i64 v9 1)) ((at_ v10 (ar .add .i64 v3 (ar .sub .i64 v9 1))).bind fun r12=>
 (cond (!(conj [sc .eql r11.Name r12.Name,cm .eql r11.Op r12.Op,sc .eql r11.Value r12.Value]))
 (cond (wrowB v10 v3 v9) ((at_ v10 (ar .add .i64 v3 v9)).bind fun r13=>
 (at_ v10 v8).bind fun r14=>
 (at_ v10 v8).bind fun r15=>
 put cMatcher v10 v8 r13 fun l16=>
 some (ar .add .i64 v8 1,l16)) none)
 (some (v8,v10)):Option (Int ×(List GMatcher))).bind fun j2=>
 (selector_Order_l3 v3 m) j2.1 (ar .add .i64 v9 1) j2.2) none) none)
 (cond (winB v10 v8) ((clr cMatcher (⟨ByteArray.empty,0,ByteArray.empty⟩:GMatcher) v10 v8).bind fun l17=>
 (cut cMatcher l17 v8).bind fun l18=>
 some l18) none)) none
def selector_Order_l2 (N:Nat) (l2:List GMatcher):Nat→Int→Option (List GMatcher)
| 0,_=>none
| m+1,v3=>
 cond (cm .lss v3 (ll (rw _ cMatcher l2)))
 ((at_ l2 v3).bind fun r4=>
 (at_ l2 v3).bind fun r5=>
 (at_ l2 (ar .sub .i64 v3 1)).bind fun r6=>
 (at_ l2 (ar .sub .i64 v3 1)).bind fun r7=>
 cond (conj [sc .eql r5.Name r7.Name,cm .eql r5.Op r7.Op,sc .eql r5.Value r7.Value])
 (cond (winB l2 v3) (selector_Order_l3 v3 N v3 1 l2) none)
 ((selector_Order_l2 N l2 m) (ar .add .i64 v3 1)))
 (some l2)
def selector_Order_g (N:Nat) (p0:List GMatcher):Option (List GMatcher):=
 (slices_Clone_M_g p0).bind fun l1=>
 (sortM_g l1).bind fun l2=>
 cond (cm .lss (ll (rw _ cMatcher l2)) 2)
 (some l2)
 (selector_Order_l2 N l2 N 1)
def r23_Order_l2 (N:Nat) (k1:Int→List GMatcher→Option (List GMatcher)) (p0:List GMatcher) (v1:Int) (v2:List GMatcher):Nat→Int→Int→Option (List GMatcher)
| 0,_,_=>none
| m+1,v3,v4=>
 cond (cm .lss v4 (ll (rw _ cMatcher p0)))
 (cond (cm .gtr (ll (rw _ cMatcher v2)) 0)
 (cond (cm .gtr (ll (rw _ cMatcher v2)) 0)
 (cond (cm .gtr (ll (rw _ cMatcher v2)) 0)
 ((at_ p0 v4).bind fun r5=>
 cond (cm .gtr (ll (rw _ cMatcher v2)) 0)
 (cond (cm .gtr (ll (rw _ cMatcher v2)) 0)
 (cond (cm .gtr (ll (rw _ cMatcher v2)) 0)
 (cond (cm .gtr (ll (rw _ cMatcher v2)) 0)
 (cond (cm .gtr (ll (rw _ cMatcher v2)) 0)
 (cond (cm .gtr (ll (rw _ cMatcher v2)) 0)
 ((at_ v2 (ar .sub .i64 (ll (rw _ cMatcher v2)) 1)).bind fun r6=>
 cond (cm .gtr (ll (rw _ cMatcher v2)) 0)
 ((at_ v2 (ar .sub .i64 (ll (rw _ cMatcher v2)) 1)).bind fun r7=>
 cond (cm .gtr (ll (rw _ cMatcher v2)) 0)
 ((r22_Compare_g N r5 r7).bind fun a8=>
 cond (cm .gtr (ll (rw _ cMatcher v2)) 0)
 (cond (cm .gtr (ll (rw _ cMatcher v2)) 0)
 (cond (cm .leq a8 0)
 ((r23_Order_l2 N k1 p0 v1 v2 m) v3 (ar .add .i64 v4 1))
 (cond (cm .lss v3 0)
 (cond (cm .lss v3 0)
 (cond (cm .lss v3 0)
 (cond (cm .lss v3 0)
 (cond (cm .lss v3 0)
 (cond (cm .lss v3 0)
 (cond (cm .lss v3 0)
 (cond (cm .lss v3 0)
 (cond (cm .lss v3 0)
 (cond (cm .lss v3 0)
 (cond (cm .lss v3 0)
 ((r23_Order_l2 N k1 p0 v1 v2 m) v4 (ar .add .i64 v4 1))
 (none))
 (none))
 (none))
 (none))
 (none))
 (none))
 (none))
 (none))
 (none))
 (none))
 (cond (cm .lss v3 0)
 (none)
 (cond (cm .lss v3 0)
 (none)
 ((at_ p0 v4).bind fun r9=>
 cond (cm .lss v3 0)
 (none)
 (cond (cm .lss v3 0)
 (none)
 (cond (cm .lss v3 0)
 (none)
 (cond (cm .lss v3 0)
 (none)
 ((at_ p0 v3).bind fun r10=>
 cond (cm .lss v3 0)
 (none)
 (cond (cm .lss v3 0)
 (none)
 ((r22_Compare_g N r9 r10).bind fun a11=>
 cond (cm .lss v3 0)
 (none)
 (cond (cm .lss v3 0)
 (none)
 ((cond (cm .lss a11 0)
 (some v4)
 (some v3):Option Int).bind fun j3=>
 (r23_Order_l2 N k1 p0 v1 v2 m) j3 (ar .add .i64 v4 1))))))))))))))
 (none))
 (none))
 (none))
 (none))
 (none))
 (none))
 (none))
 (none))
 (none))
 (none))
 (none))
 (none))
 (cond (cm .gtr (ll (rw _ cMatcher v2)) 0)
 (none)
 (cond (cm .gtr (ll (rw _ cMatcher v2)) 0)
 (none)
 (cond (cm .gtr (ll (rw _ cMatcher v2)) 0)
 (none)
 (cond (cm .gtr (ll (rw _ cMatcher v2)) 0)
 (none)
 (cond (cm .gtr (ll (rw _ cMatcher v2)) 0)
 (none)
 (cond (cm .gtr (ll (rw _ cMatcher v2)) 0)
 (none)
 (cond (cm .gtr (ll (rw _ cMatcher v2)) 0)
 (none)
 (cond (cm .gtr (ll (rw _ cMatcher v2)) 0)
 (none)
 (cond (cm .gtr (ll (rw _ cMatcher v2)) 0)
 (none)
 (cond (cm .gtr (ll (rw _ cMatcher v2)) 0)
 (none)
 (cond (cm .gtr (ll (rw _ cMatcher v2)) 0)
 (none)
 (cond (cm .gtr (ll (rw _ cMatcher v2)) 0)
 (none)
 (cond (cm .lss v3 0)
 (cond (cm .lss v3 0)
 (cond (cm .lss v3 0)
 (cond (cm .lss v3 0)
 (cond (cm .lss v3 0)
 (cond (cm .lss v3 0)
 (cond (cm .lss v3 0)
 (cond (cm .lss v3 0)
 (cond (cm .lss v3 0)
 (cond (cm .lss v3 0)
 (cond (cm .lss v3 0)
 ((r23_Order_l2 N k1 p0 v1 v2 m) v4 (ar .add .i64 v4 1))
 (none))
 (none))
 (none))
 (none))
 (none))
 (none))
 (none))
 (none))
 (none))
 (none))
 (cond (cm .lss v3 0)
 (none)
 (cond (cm .lss v3 0)
 (none)
 ((at_ p0 v4).bind fun r12=>
 cond (cm .lss v3 0)
 (none)
 (cond (cm .lss v3 0)
 (none)
 (cond (cm .lss v3 0)
 (none)
 (cond (cm .lss v3 0)
 (none)
 ((at_ p0 v3).bind fun r13=>
 cond (cm .lss v3 0)
 (none)
 (cond (cm .lss v3 0)
 (none)
 ((r22_Compare_g N r12 r13).bind fun a14=>
 cond (cm .lss v3 0)
 (none)
 (cond (cm .lss v3 0)
 (none)
 ((cond (cm .lss a14 0)
 (some v4)
 (some v3):Option Int).bind fun j4=>
 (r23_Order_l2 N k1 p0 v1 v2 m) j4 (ar .add .i64 v4 1))))))))))))))))))))))))))
 ((cond (cm .geq v3 0)
 ((at_ p0 v3).bind fun r15=>
 (app cMatcher v2 [r15]).bind fun l16=>
 some l16)
 (some v2):Option (List GMatcher)).bind fun j5=>
 k1 (ar .add .i64 v1 1) j5)
def r23_Order_l1 (N:Nat) (p0:List GMatcher):Nat→Int→List GMatcher→Option (List GMatcher)
| 0,_,_=>none
| m+1,v1,v2=>
 cond (cm .lss v1 (ll (rw _ cMatcher p0)))
 (r23_Order_l2 N (r23_Order_l1 N p0 m) p0 v1 v2 N (-1) 0)
 (some v2)
def r23_Order_g (N:Nat) (p0:List GMatcher):Option (List GMatcher):=
 r23_Order_l1 N p0 N 0 []
def r23_Names_l2 (N:Nat) (k1:Int→List ByteArray→Option (List ByteArray)) (p0:List GMatcher) (v1:Int) (v2:List ByteArray):Nat→Int→Int→Option (List ByteArray)
| 0,_,_=>none
| m+1,v3,v4=>
 cond (cm .lss v4 (ll (rw _ cMatcher p0)))
 (cond (cm .gtr (ll (rw _ cS v2)) 0)
 (cond (cm .gtr (ll (rw _ cS v2)) 0)
 (cond (cm .gtr (ll (rw _ cS v2)) 0)
 ((at_ p0 v4).bind fun r5=>
 cond (cm .gtr (ll (rw _ cS v2)) 0)
 (cond (cm .gtr (ll (rw _ cS v2)) 0)
 (cond (cm .gtr (ll (rw _ cS v2)) 0)
 (cond (cm .gtr (ll (rw _ cS v2)) 0)
 (cond (cm .gtr (ll (rw _ cS v2)) 0)
 (cond (cm .gtr (ll (rw _ cS v2)) 0)
 (cond (cm .gtr (ll (rw _ cS v2)) 0)
 ((at_ v2 (ar .sub .i64 (ll (rw _ cS v2)) 1)).bind fun r6=>
 cond (cm .gtr (ll (rw _ cS v2)) 0)
 ((at_ v2 (ar .sub .i64 (ll (rw _ cS v2)) 1)).bind fun r7=>
 cond (cm .gtr (ll (rw _ cS v2)) 0)
 ((r02_Compare_g N r5.Name r7).bind fun a8=>
 cond (cm .gtr (ll (rw _ cS v2)) 0)
 (cond (cm .gtr (ll (rw _ cS v2)) 0)
 (cond (cm .leq a8 0)
 ((r23_Names_l2 N k1 p0 v1 v2 m) v3 (ar .add .i64 v4 1))
 (cond (cm .lss v3 0)
 (cond (cm .lss v3 0)
 (cond (cm .lss v3 0)
 (cond (cm .lss v3 0)
 (cond (cm .lss v3 0)
 (cond (cm .lss v3 0)
 (cond (cm .lss v3 0)
 (cond (cm .lss v3 0)
 (cond (cm .lss v3 0)
 (cond (cm .lss v3 0)
 (cond (cm .lss v3 0)
 (cond (cm .lss v3 0)
 (cond (cm .lss v3 0)
 ((r23_Names_l2 N k1 p0 v1 v2 m) v4 (ar .add .i64 v4 1))
 (none))
 (none))
 (none))
 (none))
 (none))
 (none))
 (none))
 (none))
 (none))
 (none))
 (none))
 (none))
 (cond (cm .lss v3 0)
 (none)
 (cond (cm .lss v3 0)
 (none)
 ((at_ p0 v4).bind fun r9=>
 cond (cm .lss v3 0)
 (none)
 (cond (cm .lss v3 0)
 (none)
 (cond (cm .lss v3 0)
 (none)
 (cond (cm .lss v3 0)
 (none)
 (cond (cm .lss v3 0)
 (none)
 ((at_ p0 v3).bind fun r10=>
 cond (cm .lss v3 0)
 (none)
 (cond (cm .lss v3 0)
 (none)
 (cond (cm .lss v3 0)
 (none)
 ((r02_Compare_g N r9.Name r10.Name).bind fun a11=>
 cond (cm .lss v3 0)
 (none)
 (cond (cm .lss v3 0)
 (none)
 ((cond (cm .lss a11 0)
 (some v4)
 (some v3):Option Int).bind fun j3=>
 (r23_Names_l2 N k1 p0 v1 v2 m) j3 (ar .add .i64 v4 1))))))))))))))))
 (none))
 (none))
 (none))
 (none))
 (none))
 (none))
 (none))
 (none))
 (none))
 (none))
 (none))
 (none))
 (none))
 (cond (cm .gtr (ll (rw _ cS v2)) 0)
 (none)
 (cond (cm .gtr (ll (rw _ cS v2)) 0)
 (none)
 (cond (cm .gtr (ll (rw _ cS v2)) 0)
 (none)
 (cond (cm .gtr (ll (rw _ cS v2)) 0)
 (none)
 (cond (cm .gtr (ll (rw _ cS v2)) 0)
 (none)
 (cond (cm .gtr (ll (rw _ cS v2)) 0)
 (none)
 (cond (cm .gtr (ll (rw _ cS v2)) 0)
 (none)
 (cond (cm .gtr (ll (rw _ cS v2)) 0)
 (none)
 (cond (cm .gtr (ll (rw _ cS v2)) 0)
 (none)
 (cond (cm .gtr (ll (rw _ cS v2)) 0)
 (none)
 (cond (cm .gtr (ll (rw _ cS v2)) 0)
 (none)
 (cond (cm .gtr (ll (rw _ cS v2)) 0)
 (none)
 (cond (cm .gtr (ll (rw _ cS v2)) 0)
 (none)
 (cond (cm .lss v3 0)
 (cond (cm .lss v3 0)
 (cond (cm .lss v3 0)
 (cond (cm .lss v3 0)
 (cond (cm .lss v3 0)
 (cond (cm .lss v3 0)
 (cond (cm .lss v3 0)
 (cond (cm .lss v3 0)
 (cond (cm .lss v3 0)
 (cond (cm .lss v3 0)
 (cond (cm .lss v3 0)
 (cond (cm .lss v3 0)
 (cond (cm .lss v3 0)
 ((r23_Names_l2 N k1 p0 v1 v2 m) v4 (ar .add .i64 v4 1))
 (none))
 (none))
 (none))
 (none))
 (none))
 (none))
 (none))
 (none))
 (none))
 (none))
 (none))
 (none))
 (cond (cm .lss v3 0)
 (none)
 (cond (cm .lss v3 0)
 (none)
 ((at_ p0 v4).bind fun r12=>
 cond (cm .lss v3 0)
 (none)
 (cond (cm .lss v3 0)
 (none)
 (cond (cm .lss v3 0)
 (none)
 (cond (cm .lss v3 0)
 (none)
 (cond (cm .lss v3 0)
 (none)
 ((at_ p0 v3).bind fun r13=>
 cond (cm .lss v3 0)
 (none)
 (cond (cm .lss v3 0)
 (none)
 (cond (cm .lss v3 0)
 (none)
 ((r02_Compare_g N r12.Name r13.Name).bind fun a14=>
 cond (cm .lss v3 0)
 (none)
 (cond (cm .lss v3 0)
 (none)
 ((cond (cm .lss a14 0)
 (some v4)
 (some v3):Option Int).bind fun j4=>
 (r23_Names_l2 N k1 p0 v1 v2 m) j4 (ar .add .i64 v4 1)))))))))))))))))))))))))))))
 ((cond (cm .geq v3 0)
 ((at_ p0 v3).bind fun r15=>
 (app cS v2 [r15.Name]).bind fun l16=>
 some l16)
 (some v2):Option (List ByteArray)).bind fun j5=>
 k1 (ar .add .i64 v1 1) j5)
def r23_Names_l1 (N:Nat) (p0:List GMatcher):Nat→Int→List ByteArray→Option (List ByteArray)
| 0,_,_=>none
| m+1,v1,v2=>
 cond (cm .lss v1 (ll (rw _ cMatcher p0)))
 (r23_Names_l2 N (r23_Names_l1 N p0 m) p0 v1 v2 N (-1) 0)
 (some v2)
def r23_Names_g (N:Nat) (p0:List GMatcher):Option (List ByteArray):=
 r23_Names_l1 N p0 N 0 []
end Gn
end Go.Proofs.YtpplemjjeefpdaaGreatDoor
namespace Go.Proofs.YtpplemjjeefpdaaGreatDoor
open Go Go.RowKit
open Ab Sh
namespace Soo
section
variable {α:Type}
def gl3 (c:α→List Ab.T) (z:α) (ne:α→α→Bool) (v6:Int):Nat→Int→Int→List α→Option (List α)
 | 0,_,_,_=>none
 | m+1,v11,v12,v13=>
   cond (winB v13 v6) (cond (cm .lss v12 (ar .sub .i64 (ll (rw _ c v13)) v6))
    (cond (wrowB v13 v6 v12) ((at_ v13 (ar .add .i64 v6 v12)).bind fun r14=>
    cond (wrowB v13 v6 (ar .sub .i64 v12 1)) ((at_ v13 (ar .add .i64 v6 (ar .sub .i64 v12 1))).bind fun r15=>
    (cond (ne r14 r15)
    (cond (wrowB v13 v6 v12) ((at_ v13 (ar .add .i64 v6 v12)).bind fun r16=>
    (at_ v13 v11).bind fun r17=>
    (at_ v13 v11).bind fun r18=>
    put c v13 v11 r16 fun l19=>
    some (ar .add .i64 v11 1,l19)) none)
    (some (v11,v13)):Option (Int ×(List α))).bind fun j2=>
    (gl3 c z ne v6 m) j2.1 (ar .add .i64 v12 1) j2.2) none) none)
    (cond (winB v13 v11) ((clr c z v13 v11).bind fun l20=>
    (cut c l20 v11).bind fun l21=>
    some l21) none)) none
def gl2 (c:α→List Ab.T) (z:α) (ne eq:α→α→Bool) (N:Nat) (l5:List α):Nat→Int→Option (List α)
 | 0,_=>none
 | m+1,v6=>
   cond (cm .lss v6 (ll (rw _ c l5)))
    ((at_ l5 v6).bind fun r7=>
    (at_ l5 v6).bind fun r8=>
    (at_ l5 (ar .sub .i64 v6 1)).bind fun r9=>
    (at_ l5 (ar .sub .i64 v6 1)).bind fun r10=>
    cond (eq r8 r10)
    (cond (winB l5 v6) (gl3 c z ne v6 N v6 1 l5) none)
    ((gl2 c z ne eq N l5 m) (ar .add .i64 v6 1)))
    (some l5)
theorem at_nat (l:List α) (n:Nat):at_ l (n:Int)=l[n]?:=by unfold at_;rw [if_pos (by omega)];simp
theorem win_t {l:List α} {i:Nat} (h:i≤l.length) (h1:1≤l.length):winB l (i:Int)=true:=by
 unfold winB
 simp only [Bool.and_eq_true,decide_eq_true_eq,Bool.not_eq_true',List.isEmpty_eq_false_iff]
 exact ⟨fun e=>by rw [e] at h1;simp at h1,by omega,by omega⟩
theorem wrow_t {l:List α} {i j:Nat} (h:i+j<l.length):wrowB l (i:Int) (j:Int)=true:=by
 unfold wrowB
 simp only [Bool.and_eq_true,decide_eq_true_eq]
 exact ⟨by omega,by omega,by omega⟩
variable {c:α→List Ab.T} {z:α} {ne eq:α→α→Bool} {lt:α→α→Prop} (hne:∀a b,ne a b=true↔a≠b) (heq:∀a b,eq a b=true↔a=b) (tr:∀a b d,lt a b→lt b d→lt a d)
variable {l:List α} (hs:l.Pairwise fun a b=>a=b∨lt a b) (hlen:l.length≤1000000)
include hne tr hs hlen
theorem gl3_ok (v3:Nat) (h3:1≤v3):∀(m k k2:Nat) (cur:List α),v3+k2≤l.length→1≤k2→cur.length=l.length→k≤v3+k2-1→1≤k→(∀j,v3+k2-1≤j→cur[j]?=l[j]?)→(cur.take k).Pairwise lt→(∀x,x∈cur.take k↔x∈l.take (v3+k2))→
 l.length-v3-k2<m→∃r,gl3 c z ne v3 m k k2 cur=some r∧r.Pairwise lt∧(∀x,x∈r↔x∈l)∧r.length≤l.length:=by
 intro m
 induction m with
 | zero=>intro k k2 cur _ _ _ _ _ _ _ _ h;omega
 | succ m ih=>
   intro k k2 cur h1 h2 hc hk hk1 hj hp hm hmm
   rw [gl3]
   rw [win_t (l:=cur) (i:=v3) (by omega) (by omega)]
   rw [_root_.cond_true,ll_eq,ar_sub (by omega) (by omega),cm_lss]
   by_cases hlt:v3+k2<l.length
   · rw [decide_eq_true (by omega),_root_.cond_true]
     rw [wrow_t (by omega),_root_.cond_true,ar_add (by omega) (by omega)]
     have e1:((v3:Int)+(k2:Int))=((v3+k2:Nat):Int):=by omega
     have e2:((k2:Int)-1)=((k2-1:Nat):Int):=by omega
     have e3:((v3:Int)+((k2-1:Nat):Int))=((v3+k2-1:Nat):Int):=by omega
     have g1:cur[v3+k2]?=some l[v3+k2]:=by rw [hj _ (by omega)];exact List.getElem?_eq_getElem hlt
     have hlt':v3+k2-1<l.length:=by omega
     have g2:cur[v3+k2-1]?=some l[v3+k2-1]:=by rw [hj _ (by omega)];exact List.getElem?_eq_getElem hlt'
     rw [e1,at_nat,g1,Option.bind_some,ar_sub (by omega) (by omega),e2,wrow_t (by omega),_root_.cond_true,ar_add (by omega) (by omega),e3,at_nat,g2,Option.bind_some]
     have e4:((k2:Int)+1)=((k2+1:Nat):Int):=by omega
     have tk:l.take (v3+k2+1)=l.take (v3+k2)++[l[v3+k2]]:=List.take_succ_eq_append_getElem hlt
     by_cases e:l[v3+k2]=l[v3+k2-1]
     · rw [show ne l[v3+k2] l[v3+k2-1]=false from by rw [Bool.eq_false_iff];exact fun h=>(hne _ _).1 h e]
       rw [_root_.cond_false,Option.bind_some]
       dsimp only
       rw [ar_add (by omega) (by omega),e4]
       refine ih k (k2+1) cur (by omega) (by omega) hc (by omega) hk1 (fun j h=>hj j (by omega)) hp (fun x=>?_) (by omega)
       rw [hm x,show v3+(k2+1)=v3+k2+1 by omega,tk,List.mem_append,List.mem_singleton]
       refine ⟨.inl,fun h=>h.elim id fun h=>?_⟩
       rw [h,e]
       exact List.mem_iff_getElem?.2 ⟨v3+k2-1,by rw [List.getElem?_take,if_pos (by omega)];exact List.getElem?_eq_getElem hlt'⟩
     · rw [show ne l[v3+k2] l[v3+k2-1]=true from (hne _ _).2 e]
       have hkl:k<cur.length:=by omega
       rw [_root_.cond_true,_root_.cond_true,Option.bind_some,at_nat,List.getElem?_eq_getElem hkl,Option.bind_some,Option.bind_some]
       unfold Sh.put
       rw [Option.bind_some]
       dsimp only
       rw [ar_add (by omega) (by omega),ar_add (by omega) (by omega),e4,show ((k:Int)+1)=((k+1:Nat):Int) by omega,Int.toNat_natCast]
       have hlast:lt l[v3+k2-1] l[v3+k2]:=by
        rcases List.pairwise_iff_getElem.1 hs (v3+k2-1) (v3+k2) hlt' hlt (by omega) with h | h
        · exact absurd h.symm e
        · exact h
       have tk2:(cur.set k l[v3+k2]).take (k+1)=cur.take k++[l[v3+k2]]:=by
        rw [List.take_succ_eq_append_getElem (by simpa using hkl),List.take_set_of_le (Nat.le_refl _),List.getElem_set_self]
       refine ih (k+1) (k2+1) _ (by omega) (by omega) (by simpa using hc) (by omega) (by omega) (fun j h=>?_) ?_ (fun x=>?_) (by omega)
       · rw [List.getElem?_set_ne (by omega)];exact hj j (by omega)
       · rw [tk2]
         refine List.pairwise_append.2 ⟨hp,List.pairwise_singleton _ _,fun x hx y hy=>?_⟩
         rw [List.mem_singleton] at hy
         subst hy
         have hx':=(hm x).1 hx
         obtain ⟨j,hj1⟩:=List.mem_iff_getElem?.1 hx'
         rw [List.getElem?_take] at hj1
         split at hj1
         case isFalse=>cases hj1
         rename_i hjl
         obtain ⟨hjl2,rfl⟩:=List.getElem?_eq_some_iff.1 hj1
         by_cases hje:j=v3+k2-1
         · subst hje;exact hlast
         · rcases List.pairwise_iff_getElem.1 hs j (v3+k2-1) hjl2 hlt' (by omega) with h | h
           · rw [h];exact hlast
           · exact tr _ _ _ h hlast
       · rw [tk2,show v3+(k2+1)=v3+k2+1 by omega,tk,List.mem_append,List.mem_append,hm x]
   · have he:v3+k2=l.length:=by omega
     rw [decide_eq_false (by omega),_root_.cond_false,win_t (l:=cur) (i:=k) (by omega) (by omega),_root_.cond_true]
     unfold clr
     rw [if_pos (win_t (l:=cur) (i:=k) (by omega) (by omega)),Option.bind_some,ar_sub (by omega) (by omega),Int.toNat_natCast]
     have hl2:(cur.take k++List.replicate ((cur.length:Int)-(k:Int)).toNat z).length=cur.length:=by
      rw [List.length_append,List.length_take,List.length_replicate];omega
     unfold cut
     rw [if_pos (win_t (by omega) (by omega)),Option.bind_some,Int.toNat_natCast]
     have tk3:(cur.take k++List.replicate ((cur.length:Int)-(k:Int)).toNat z).take k=cur.take k:=by
      rw [List.take_append_of_le_length (by rw [List.length_take];omega),List.take_take,Nat.min_self]
     rw [tk3]
     refine ⟨_,rfl,hp,fun x=>?_,by rw [List.length_take];omega⟩
     rw [hm x,he,List.take_length]
include heq in
theorem gl2_ok {N:Nat} (hN:l.length<N):∀(m k:Nat),1≤k→k≤l.length→(l.take k).Pairwise lt→l.length-k<m→∃r,gl2 c z ne eq N l m k=some r∧r.Pairwise lt∧(∀x,x∈r↔x∈l)∧r.length≤l.length:=by
 intro m
 induction m with
 | zero=>intro k _ _ _ h;omega
 | succ m ih=>
   intro k h1 hk hp hm
   rw [gl2,ll_eq,cm_lss]
   by_cases hlt:k<l.length
   · have hlt':k-1<l.length:=by omega
     rw [decide_eq_true (by omega),_root_.cond_true,at_nat,List.getElem?_eq_getElem hlt,Option.bind_some,Option.bind_some,ar_sub (by omega) (by omega),show ((k:Int)-1)=((k-1:Nat):Int) by omega,at_nat,List.getElem?_eq_getElem hlt',Option.bind_some,Option.bind_some]
     have tk:l.take (k+1)=l.take k++[l[k]]:=List.take_succ_eq_append_getElem hlt
     by_cases e:l[k]=l[k-1]
     · rw [(heq _ _).2 e,_root_.cond_true,win_t (by omega) (by omega),_root_.cond_true]
       refine gl3_ok hne tr hs hlen k h1 N k 1 l (by omega) (by omega) rfl (by omega) h1 (fun j _=>rfl) hp (fun x=>?_) (by omega)
       rw [tk,List.mem_append,List.mem_singleton]
       refine ⟨.inl,fun h=>h.elim id fun h=>?_⟩
       rw [h,e]
       exact List.mem_iff_getElem?.2 ⟨k-1,by rw [List.getElem?_take,if_pos (by omega)];exact List.getElem?_eq_getElem hlt'⟩
     · rw [show eq l[k] l[k-1]=false from by rw [Bool.eq_false_iff];exact fun h=>e ((heq _ _).1 h)]
       rw [_root_.cond_false,ar_add (by omega) (by omega),show ((k:Int)+1)=((k+1:Nat):Int) by omega]
       refine ih (k+1) (by omega) (by omega) ?_ (by omega)
       have hlast:lt l[k-1] l[k]:=by
        rcases List.pairwise_iff_getElem.1 hs (k-1) k hlt' hlt (by omega) with h | h
        · exact absurd h.symm e
        · exact h
       rw [tk]
       refine List.pairwise_append.2 ⟨hp,List.pairwise_singleton _ _,fun x hx y hy=>?_⟩
       rw [List.mem_singleton] at hy
       subst hy
       obtain ⟨j,hj1⟩:=List.mem_iff_getElem?.1 hx
       rw [List.getElem?_take] at hj1
       split at hj1
       case isFalse=>cases hj1
       rename_i hjl
       obtain ⟨hjl2,rfl⟩:=List.getElem?_eq_some_iff.1 hj1
       by_cases hje:j=k-1
       · subst hje;exact hlast
       · rcases List.pairwise_iff_getElem.1 hs j (k-1) hjl2 hlt' (by omega) with h | h
         · rw [h];exact hlast
         · exact tr _ _ _ h hlast
   · have he:k=l.length:=by omega
     rw [decide_eq_false (by omega),_root_.cond_false]
     rw [he,List.take_length] at hp
     exact ⟨l,rfl,hp,fun x=>Iff.rfl,Nat.le_refl _⟩
end
end Soo
end Go.Proofs.YtpplemjjeefpdaaGreatDoor
