/- Texts that the proof leans on. -/
import Derived.Test.YtbpihhelojjedaaDoorK308
set_option linter.unusedVariables false
set_option linter.unusedSimpArgs false
set_option maxRecDepth 100000
set_option maxHeartbeats 4000000
namespace Go.Proofs.YtbpihhelojjedaaDoor
open Go Go.RowKit
namespace Ab
section
variable {P:Program} {A:Run} {L:TypeId→Option Lt}
theorem getD_row {heap:List (Option Row)} {id:Nat} {r:Row} (h:heap.getD id none=some r):heap[id]?=some (some r):=by
 rw [List.getD_eq_getElem?_getD] at h
 cases hg:heap[id]? with
 | none=>rw [hg] at h;cases h
 | some z=>rw [hg] at h;simp at h;rw [h]
theorem push_eq {s:St} {d:Option Tmp} {v:V} (row:Option Row):(s.put d v).push row=⟨(s.put d v).tmps,match row with | some r=>s.heap++[some r] | none=>s.heap,s.base⟩:=by
 cases row<;>simp [St.push,put_heap,put_base]
 cases d<;>rfl
theorem calm_wp {cx:Cx} {s:St} {a:Act} {w:World} {o:Oper} {K:St→Prop} (hL:LayOk P L) (R:Rel A cx s a w) (h:evC (dom P A) L o s.ev s.heap s.heap.length fun v r=>K ((s.put o.dst v).push r)):
 ∀next Q,(∀s' cx' a' w',K s'→Rel A cx' s' a' w'→next a' w')→o.wp P a w next Q:=fun next Q hn=>by
 have h0:cx.at_ s.heap.length=none:=R.hp.dom _ (Nat.le_refl _)
 refine evC_wp hL (eyes_of R.tm) (fun id r hr=>R.hp.row id r (getD_row hr)) h0 R.kp.G1 R.kp.tab h next Q fun v row u w' cx' hk X=>?_
 refine hn _ cx' _ _ hk ?_
 rw [push_eq]
 refine R.step X h0 o.dst _ (fun id r hr=>?_) ?_ ?_
 · cases row with
   | none=>
     have hlt:id<s.heap.length:=(List.getElem?_eq_some_iff.1 hr).1
     exact .inl ⟨by omega,hr⟩
   | some r'=>
     simp only at hr
     by_cases hl:id<s.heap.length
     · rw [List.getElem?_append_left hl] at hr
       exact .inl ⟨by omega,hr⟩
     · rw [List.getElem?_append_right (by omega)] at hr
       have hi:id-s.heap.length=0:=by
        have:=(List.getElem?_eq_some_iff.1 hr).1
        simp at this
        omega
       rw [hi] at hr
       simp at hr
       exact .inr ⟨by omega,by rw [hr]⟩
 · cases row<;>simp
 · cases row<;>simp
theorem pop_wp {cx:Cx} {s:St} {a:Act} {w:World} {o:Oper} {K:St→Prop} (hL:LayOk P L) (R:Rel A cx s a w) (h:pop (dom P A) L o s K):
 ∀next Q,(∀s' cx' a' w',K s'→Rel A cx' s' a' w'→next a' w')→(∀ch w',PanAt A a ch w'→Q (.panic ch) a w')→o.wp P a w next Q:=fun next Q hn hp=>by
 cases hop:o.op with
 | panic x=>
   simp only [pop,hop] at h
   split at h
   case h_2=>exact h.elim
   rename_i t v hx
   obtain ⟨hcl,hpan⟩:=h
   have hv:=(eyes_of R.tm) x
   rw [hx] at hv
   generalize hy:a.eval x=y at hv
   cases hv with
   | ifc t v u hu=>
     have hrun:(execOp a.eval o).run P w=.halt (.panic (.iface t u)) w:=by
      simp only [execOp,hop,hy,Instr.panic,goPanic]
      rfl
     unfold Oper.wp
     rw [hrun,Oper.upon_panic]
     exact hp _ _ ⟨.ifc t v,.iface t u,s,cx,rfl,hcl,hpan,.ifc t v u hu,R⟩
 | binOp op t x y u=>
   simp only [pop,hop] at h
   split at h
   case h_2=>exact calm_wp hL R h next Q hn
   rename_i rows hr
   obtain ⟨b,ad,m,c,e1,e2,hb,hrun⟩:=nil_run (x:=x) (y:=y) hL (fun id r hr=>R.hp.row id r (getD_row hr)) (eyes_of R.tm x) (eyes_of R.tm y) hr
   have hk:∀{K:Bool→Prop},(dom P A).nilq rows K→K b:=fun {K} g=>by
    cases b with
    | false=>exact g.1
    | true=>exact g.2 (hb rfl)
   cases op<;>try exact h.elim
   · obtain ⟨hg,h1⟩:=hrun .eql
     rw [e1,e2] at hg h1
     have hrun:(execOp a.eval o).run P w=.ok (.value (.bool b)) w:=by simp [execOp,hop,e1,e2,hg,binOp,h1]
     unfold Oper.wp
     rw [hrun,Oper.upon_value]
     exact hn _ cx _ _ (hk h) (R.put (rep_flat rfl) o.dst)
   · obtain ⟨hg,h1⟩:=hrun .neq
     rw [e1,e2] at hg h1
     have hrun:(execOp a.eval o).run P w=.ok (.value (.bool (!b))) w:=by simp [execOp,hop,e1,e2,hg,binOp,h1]
     unfold Oper.wp
     rw [hrun,Oper.upon_value]
     exact hn _ cx _ _ (hk h) (R.put (rep_flat rfl) o.dst)
 | next it isStr=>
   cases isStr with
   | false=>exact calm_wp hL R (by simpa only [pop,hop] using h) next Q hn
   | true=>
     simp only [pop,hop] at h
     split at h
     case h_2=>exact h.elim
     rename_i id hx
     split at h
     case h_2=>exact h.elim
     rename_i str p hrow
     have hv:=(eyes_of R.tm) it
     rw [hx] at hv
     have hrow':=getD_row hrow
     have hR:=R.hp.row id _ hrow'
     generalize hy:a.eval it=y at hv
     cases hR with
     | iter str p b hat hbl hnG h0=>
       cases hv with
       | ptr id off b' cap es len h'=>
         rw [hat] at h'
         cases h'
         by_cases hlt:p.toNat<str.size
         · have hrun:(execOp a.eval o).run P w=.ok (.value (.tuple #[.bool true,.int .i64 p.toNat,.int .i32 (Utf8.decode str p.toNat).1])) (w.iterAt b str (p.toNat+(Utf8.decode str p.toNat).2)):=by
            simp only [execOp,hop,hy,Sem.run_bind,Lib.run_next_any_at w b str p.toNat o.type hbl hlt,Result.andThen_ok,Sem.run_pure]
           unfold Oper.wp
           rw [hrun,Oper.upon_value]
           have hq:(p+((Utf8.decode str p.toNat).2:Int)).toNat=p.toNat+(Utf8.decode str p.toNat).2:=by omega
           have R':=R.write hrow' hat (w':=w.iterAt b str (p.toNat+(Utf8.decode str p.toNat).2)) Ab.iterAt_but (.iter str (p+((Utf8.decode str p.toNat).2:Int)) b hat (by rw [hq];exact Lib.iterAt_heap w b str _ _ hbl) hnG (by omega)) (fun e=>by cases e)
           refine hn _ cx _ _ (h.1 hlt) (R'.put ?_ o.dst)
           refine .tup _ #[_,_,_] rfl fun i c u h1 h2=>?_
           match i,h1,h2 with
           | 0,h1,h2=>cases h1;cases h2;exact rep_flat rfl
           | 1,h1,h2=>cases h1;cases h2;rw [Int.toNat_of_nonneg h0];exact rep_flat rfl
           | 2,h1,h2=>cases h1;cases h2;exact rep_flat rfl
         · have hrun:(execOp a.eval o).run P w=.ok (.value (.tuple #[.bool false])) w:=by
            simp only [execOp,hop,hy,Sem.run_bind,Lib.run_next_end_at w b str p.toNat o.type hbl hlt,Result.andThen_ok,Sem.run_pure]
           unfold Oper.wp
           rw [hrun,Oper.upon_value]
           refine hn _ cx _ _ (h.2 hlt) (R.put ?_ o.dst)
           refine .tup _ #[_] rfl fun i c u h1 h2=>?_
           match i,h1,h2 with
           | 0,h1,h2=>cases h1;cases h2;exact rep_flat rfl
 | store t x y=>exact store_wp hL hop R h next Q fun s' w' hk hR=>hn s' cx a w' hk hR
 | buildSlice t n ps=>
   simp only [pop,hop] at h
   split at h
   · exact calm_wp hL R h next Q hn
   · rename_i id hid
     split at h
     case h_2=>exact h.elim
     rename_i ty es rows hrow
     obtain ⟨hf,h⟩:=h
     obtain ⟨cx',R'⟩:=R.shut (getD_row hrow) hf
     exact calm_wp hL R' h next Q hn
 | mapUpdate t m i y=>
   simp only [pop,hop] at h
   split at h
   case h_2=>exact h.elim
   rename_i lt hd0 hlt
   split at h
   case isFalse=>exact h.elim
   rename_i hk
   split at h
   case h_2=>exact h.elim
   rename_i id q v hm hq hy
   split at h
   case h_2=>exact h.elim
   rename_i c es hrow
   split at h
   case isFalse=>exact h.elim
   rename_i hcl
   split at h
   case isFalse=>exact h.elim
   rename_i hqc
   obtain ⟨ho,h⟩:=h
   obtain ⟨_,d,_,_,hd,_,_,_,_,_,_,⟨_,_,_,_,_,_,_,h7,_⟩,_⟩:=hL t lt hlt
   obtain ⟨kt,rfl,K⟩:=h7 hk
   have hrow':=getD_row hrow
   have hmv:=(eyes_of R.tm) m
   rw [hm] at hmv
   have hiv:=key_rep ((eyes_of R.tm) i) hq
   have hyv:=(eyes_of R.tm) y
   rw [hy] at hyv
   have hone:oneV v=true:=by cases hyv with | t x v h=>cases h with | flat v h=>exact h
   have hyv:=inv_flat hyv
   obtain ⟨b,ents,clock,hme,hat,hb,hG,hE⟩:=map_row hmv (R.hp.row id _ hrow')
   rw [←hcl] at hqc K
   obtain ⟨es',clock',h1,h2⟩:=map_put hE K hd hb hqc ho hone
   have hdst:a.put o.dst undef=a:=by rw [hd0];rfl
   have hrun:(execOp a.eval o).run P w=.ok .skip (ChangeMaps.setBlock w b (.map es' clock')):=by
    simp only [execOp,hop,hme,hiv,hyv,h1,Sem.run_bind,Sem.run_pure,Result.andThen_ok]
   unfold Oper.wp
   rw [hrun,Oper.upon_skip,hdst]
   refine hn _ cx _ _ h (R.write hrow' hat setBlock_but (.map _ _ b es' clock' hat ?_ hG h2) (fun e=>by cases e))
   simp [ChangeMaps.setBlock,Array.getElem?_setIfInBounds,lt_size hb]
 | call c =>
   cases hc:c.callee with
   | value f=>
     have h':=h
     simp only [pop,hop,hc] at h'
     split at h'
     case h_2=>exact h'.elim
     rename_i g caps hf
     obtain ⟨hcall,hA⟩:=h'
     have he:=eyes_of R.tm
     have hx:=he f
     rw [hf] at hx
     generalize hy:a.eval f=y at hx
     cases hx with
     | fn f' cs vs hnn hr=>
       have hargs:VReps cx w (c.args.toList.map s.ev++caps) (c.args.map a.eval++vs):=by
        refine ⟨by simp [hnn],fun i x u h1 h2=>?_⟩
        by_cases hi:i<c.args.size
        · rw [List.getElem?_append_left (by simpa using hi)] at h1
          rw [Array.getElem?_append_left (by simpa using hi)] at h2
          rw [List.getElem?_map,Array.getElem?_toList] at h1
          rw [Array.getElem?_map] at h2
          obtain ⟨z,hz,rfl⟩:=Option.map_eq_some_iff.1 h1
          rw [hz] at h2
          cases h2
          exact he z
        · rw [List.getElem?_append_right (by simpa using Nat.le_of_not_lt hi)] at h1
          rw [Array.getElem?_append_right (by simpa using Nat.le_of_not_lt hi)] at h2
          simp only [List.length_map,Array.length_toList] at h1
          simp only [Array.size_map] at h2
          exact hr _ _ _ h1 h2
       have hrun:(execOp a.eval o).run P w=.ok (.enter g (c.args.map a.eval++vs)) w:=by
        simp only [execOp,hop,resolve,hc,hy,Deferred.ofValue,Sem.run_bind,Sem.run_pure,Result.andThen_ok,invoke,Array.empty_append]
        exact hcall _ _
       unfold Oper.wp
       rw [hrun,Oper.upon_enter]
       refine (hA cx a w _ R hargs).mono ?_
       rintro e w' (⟨u,v,s',cx',rfl,hK,hrep,hR⟩ | ⟨ch,rfl,hpa⟩)
       · exact hn _ cx' _ _ hK (hR.put hrep o.dst)
       · exact hp _ _ hpa
   | builtin b=>
     cases b with
     | append=>exact append_wp hL hop hc R h next Q hn
     | copy=>exact copy_wp hL hop hc R h next Q hn
     | clear=>exact clear_wp hL hop hc R h next Q hn
     | _=>exact calm_wp hL R (by simpa only [pop,hop,hc] using h) next Q hn
   | invoke r m=>
     have h':=h
     simp only [pop,hop,hc] at h'
     obtain ⟨g,r',hres,hcall,hA⟩:=h'
     have he:=eyes_of R.tm
     obtain ⟨u',hm,hu'⟩:=hres cx w _ (he r)
     have hargs:VReps cx w (r'::c.args.toList.map s.ev) (#[u']++c.args.map a.eval):=by
      refine ⟨by simp;omega,fun i x u h1 h2=>?_⟩
      cases i with
      | zero=>
        rw [Array.getElem?_append_left (by simp)] at h2
        simp at h1 h2
        subst h1
        subst h2
        exact hu'
      | succ i=>
        rw [List.getElem?_cons_succ,List.getElem?_map,Array.getElem?_toList] at h1
        rw [Array.getElem?_append_right (by simp),Array.getElem?_map] at h2
        simp only [List.size_toArray,List.length_cons,List.length_nil,Nat.zero_add,Nat.add_sub_cancel] at h2
        obtain ⟨z,hz,rfl⟩:=Option.map_eq_some_iff.1 h1
        rw [hz] at h2
        cases h2
        exact he z
     have hrun:(execOp a.eval o).run P w=.ok (.enter g (#[u']++c.args.map a.eval)) w:=by
      have e:∀(y:Value) (ys:Array Value),(#[y]++ys).extract 1 (#[y]++ys).size=ys:=fun y ys=>by
       obtain ⟨l⟩:=ys
       simp
      simp only [execOp,hop,resolve,hc,Sem.run_bind,Sem.run_pure,Result.andThen_ok,invoke]
      have e0:∀(y:Value) (ys:Array Value),(#[y]++ys)[0]?=some y:=fun y ys=>by
       obtain ⟨l⟩:=ys
       simp
      simp only [e0,e]
      rw [hm]
      exact hcall _ _
     unfold Oper.wp
     rw [hrun,Oper.upon_enter]
     refine (hA cx a w _ R hargs).mono ?_
     rintro e w' (⟨u,v,s',cx',rfl,hK,hrep,hR⟩ | ⟨ch,rfl,hpa⟩)
     · exact hn _ cx' _ _ hK (hR.put hrep o.dst)
     · exact hp _ _ hpa
 | slice t x lo hi mx=>
   cases lo with
   | some y=>exact calm_wp hL R (by simpa only [pop,hop] using h) next Q hn
   | none=>
     cases hi with
     | none=>exact calm_wp hL R (by simpa only [pop,hop] using h) next Q hn
     | some z=>
       cases mx with
       | some y=>exact calm_wp hL R (by simpa only [pop,hop] using h) next Q hn
       | none=>
         simp only [pop,hop] at h
         split at h
         · rename_i id hx
           exact cut_wp hL hop hx R h next Q hn
         · exact calm_wp hL R h next Q hn
 | _=>exact calm_wp hL R (by simpa only [pop,hop] using h) next Q hn
theorem guarded_wp {all:List Oper} {o:Oper} {cx:Cx} {s:St} {a:Act} {w:World} {run skip:Unit→Prop} (R:VReps cx w s.tmps a.tmps) (h:guarded (dom P A) all o s run skip):
 (Region.wanted o (yielded all.toArray a.tmps)=true∧run ())∨(Region.wanted o (yielded all.toArray a.tmps)=false∧skip ()):=by
 unfold guarded at h
 unfold Region.wanted
 split at h
 · rename_i hg
   rw [hg]
   exact .inl ⟨rfl,h⟩
 · rename_i j want hg
   rw [hg]
   split at h
   case h_2=>exact h.elim
   rename_i t ht
   have hdst:((all.toArray[j]?).bind (·.dst))=some t:=by
    unfold gslot at ht
    rw [List.getElem?_toArray]
    split at ht
    · rename_i oj hj;rw [hj];exact ht
    · cases ht
   have htm:∀v,s.tmps.getD t .junk=v→v≠.junk→∃u,a.tmps[t]?=some u∧VRep cx w v u:=fun v hv hne=>by
    rw [List.getD_eq_getElem?_getD] at hv
    cases hg:s.tmps[t]? with
    | none=>rw [hg] at hv;exact absurd hv.symm hne
    | some x=>
      rw [hg] at hv
      simp at hv
      subst hv
      have hlt:t<a.tmps.size:=by rw [R.1];exact (List.getElem?_eq_some_iff.1 hg).1
      exact ⟨_,Array.getElem?_eq_getElem hlt,R.2 _ _ _ hg (Array.getElem?_eq_getElem hlt)⟩
   split at h
   · rename_i b hb
     obtain ⟨u,h1,h2⟩:=htm _ hb (by simp)
     have hu:=inv_bool h2
     subst hu
     have hy:yielded all.toArray a.tmps j=some b:=by unfold yielded;rw [hdst,Option.bind_some,h1]
     simp only [hy]
     cases want with
     | true=>
       cases b with
       | true=>exact .inl ⟨rfl,h.1 rfl⟩
       | false=>exact .inr ⟨rfl,h.2 rfl⟩
     | false=>
       cases b with
       | true=>exact .inr ⟨rfl,h.1 rfl⟩
       | false=>exact .inl ⟨rfl,h.2 rfl⟩
   · rename_i cs hb
     obtain ⟨u,h1,h2⟩:=htm _ hb (by simp)
     cases h2 with
     | tup cs vs hn hr=>
       have hy:yielded all.toArray a.tmps j=none:=by unfold yielded;rw [hdst,Option.bind_some,h1]
       simp only [hy]
       exact .inr ⟨rfl,h⟩
   · exact h.elim
theorem rep_undef (cx:Cx) (w:World):VRep cx w (.tup []) undef:=.tup [] #[] rfl fun i c u h=>by simp at h
theorem known_drop {t u:Tmp} {b:Bool}:∀{kn:List (Tmp × Bool)},knownAt (dropK t kn) u=some b→u≠t∧knownAt kn u=some b
 | [],h=>by cases h
 | (x, c)::r,h=>by
   unfold dropK at h
   split at h
   · rename_i e
     obtain ⟨h1,h2⟩:=known_drop h
     exact ⟨h1,by unfold knownAt;rw [if_neg (fun e2=>h1 (e2.symm.trans e))];exact h2⟩
   · rename_i e
     unfold knownAt at h ⊢
     split at h
     · rename_i e2
       rw [if_pos e2]
       exact ⟨fun e3=>e (e2.trans e3),h⟩
     · rename_i e2
       obtain ⟨h1,h2⟩:=known_drop h
       rw [if_neg e2]
       exact ⟨h1,h2⟩
def KInv (kn:List (Tmp × Bool)) (a:Act):Prop:=∀t b u,knownAt kn t=some b→a.tmps[t]?=some u→u=.bool b
theorem kinv_nil (a:Act):KInv [] a:=fun t b u h=>by cases h
theorem put_other {a:Act} {d t:Tmp} {v:Value} (h:t≠d):(a.put (some d) v).tmps[t]?=a.tmps[t]?:=by
 simp only [Act.put,Array.set!_eq_setIfInBounds]
 exact Array.getElem?_setIfInBounds_ne (fun e=>h e.symm)
theorem put_same {a:Act} {d:Tmp} {v u:Value} (h:(a.put (some d) v).tmps[d]?=some u):u=v:=by
 simp only [Act.put,Array.set!_eq_setIfInBounds,Array.getElem?_setIfInBounds] at h
 split at h
 · split at h
   · cases h;rfl
   · cases h
 · rename_i e;exact absurd trivial e
theorem KInv.forget {kn:List (Tmp × Bool)} {a a':Act} {d:Option Tmp} {v:Value} (h:KInv kn a) (ha:a'.tmps=(a.put d v).tmps):KInv (forgetK kn d) a':=fun t b u h1 h2=>by
 rw [ha] at h2
 cases d with
 | none=>exact h t b u h1 h2
 | some d=>
   obtain ⟨g1,g2⟩:=known_drop h1
   rw [put_other g1] at h2
   exact h t b u g2 h2
theorem slot_bool {cx:Cx} {w:World} {s:St} {a:Act} {t:Tmp} {b:Bool} (R:VReps cx w s.tmps a.tmps) (h:s.tmps.getD t .junk=.t (.flat (.bool b))):a.tmps[t]?=some (.bool b):=by
 rw [List.getD_eq_getElem?_getD] at h
 cases hg:s.tmps[t]? with
 | none=>rw [hg] at h;cases h
 | some x=>
   rw [hg] at h
   simp at h
   subst h
   have hlt:t<a.tmps.size:=by rw [R.1];exact (List.getElem?_eq_some_iff.1 hg).1
   have:=inv_bool (R.2 _ _ _ hg (Array.getElem?_eq_getElem hlt))
   rw [Array.getElem?_eq_getElem hlt,this]
theorem eval_tmp {a:Act} {t:Tmp} {u:Value} (h:a.tmps[t]?=some u):a.eval (.tmp t)=u:=by
 simp only [Act.eval,Array.getD_eq_getD_getElem?,h,Option.getD_some]
theorem KInv.learn {cx:Cx} {w:World} {s:St} {kn:List (Tmp × Bool)} {a:Act} {d:Option Tmp} {x:Operand} (R:VReps cx w s.tmps a.tmps) (h:KInv kn a):KInv (learn s kn d x) (a.put d (a.eval x)):=by
 cases d with
 | none=>exact h
 | some d=>
   have hf:KInv (dropK d kn) (a.put (some d) (a.eval x)):=h.forget (d:=some d) rfl
   have key:∀b,a.eval x=.bool b→KInv ((d,b)::dropK d kn) (a.put (some d) (a.eval x)):=fun b hb t c u h1 h2=>by
    unfold knownAt at h1
    split at h1
    · rename_i e
      subst e
      cases h1
      rw [put_same h2,hb]
    · exact hf t c u h1 h2
   unfold Ab.learn
   dsimp only
   split
   · exact key _ rfl
   · split
     · rename_i t b hb
       split
       · rename_i c hk
         have h1:=slot_bool R hb
         have:=h _ _ _ hk h1
         injection this with this
         subst this
         exact key _ (eval_tmp h1)
       · exact hf
     · exact hf
   · exact hf
theorem wp_frame {o:Oper} {a:Act} {w:World} {next next':Act→World→Prop} {Q:Exit→Act→World→Prop} (h:o.wp P a w next Q) (hn:∀a' w' v,a'.tmps=(a.put o.dst v).tmps→next a' w'→next' a' w'):o.wp P a w next' Q:=by
 unfold Oper.wp at h ⊢
 generalize (execOp a.eval o).run P w=r at h ⊢
 cases r with
 | ok n w'=>
   cases n with
   | value v=>exact hn _ _ v rfl h
   | skip=>exact hn _ _ undef rfl h
   | defer d=>exact hn _ _ undef (by cases o.dst<;>rfl) h
   | enter f args=>exact Calls.mono h fun e w'' hq=>by cases e<;>first | exact hn _ _ _ rfl hq | exact hq
   | row r args=>exact Rows.mono h fun v w'' hq=>hn _ _ v rfl hq
   | _=>exact h
 | halt x w'=>cases x<;>exact h
theorem popK_wp {cx:Cx} {s:St} {a:Act} {w:World} {o:Oper} {kn:List (Tmp × Bool)} {K:List (Tmp × Bool)→St→Prop} (hL:LayOk P L) (R:Rel A cx s a w) (hk:KInv kn a) (h:popK (dom P A) L o kn s K):
 ∀next Q,(∀kn' s' cx' a' w',K kn' s'→Rel A cx' s' a' w'→KInv kn' a'→next a' w')→(∀ch w',PanAt A a ch w'→Q (.panic ch) a w')→o.wp P a w next Q:=fun next Q hn hp=>by
 have plain:pop (dom P A) L o s (K (forgetK kn o.dst))→o.wp P a w next Q:=fun h'=>
  wp_frame (pop_wp hL R h' (fun a' w'=>∃s' cx',K (forgetK kn o.dst) s'∧Rel A cx' s' a' w') Q (fun s' cx' a' w' h1 h2=>⟨s',cx',h1,h2⟩) hp)
   fun a' w' v ha ⟨s',cx',h1,h2⟩=>hn _ s' cx' a' w' h1 h2 (hk.forget ha)
 unfold popK at h
 split at h
 · rename_i c x y hop
   split at h
   · rename_i t
     split at h
     · rename_i b hb
       have h1:=slot_bool R.tm hb
       split at h
       · rename_i hkn
         have:=hk _ _ _ hkn h1
         injection this with this
         subst this
         have hrun:∀e:Operand→Value,e (.tmp t)=.bool true→(execOp e o).run P w=.ok (.value (e x)) w:=fun e he=>by simp [execOp,hop,go_sem,he]
         unfold Oper.wp
         rw [hrun a.eval (eval_tmp h1)]
         exact hn _ _ cx _ w h (R.put (eyes_of R.tm x) o.dst) (hk.learn R.tm)
       · rename_i hkn
         have:=hk _ _ _ hkn h1
         injection this with this
         subst this
         have hrun:∀e:Operand→Value,e (.tmp t)=.bool false→(execOp e o).run P w=.ok (.value (e y)) w:=fun e he=>by simp [execOp,hop,go_sem,he]
         unfold Oper.wp
         rw [hrun a.eval (eval_tmp h1)]
         exact hn _ _ cx _ w h (R.put (eyes_of R.tm y) o.dst) (hk.learn R.tm)
       · exact plain h
     · exact plain h
   · exact plain h
 · rename_i x hop
   have hrun:∀e:Operand→Value,(execOp e o).run P w=.ok (.value (e x)) w:=fun e=>by simp [execOp,hop,go_sem]
   unfold Oper.wp
   rw [hrun a.eval]
   exact hn _ _ cx _ w h (R.put (eyes_of R.tm x) o.dst) (hk.learn R.tm)
 · exact plain h
theorem guardedK_wp {all:List Oper} {o:Oper} {kn:List (Tmp × Bool)} {cx:Cx} {s:St} {a:Act} {w:World} {run skip:List (Tmp × Bool)→Prop} (R:VReps cx w s.tmps a.tmps) (hk:KInv kn a) (h:guardedK (dom P A) all o kn s run skip):
 (Region.wanted o (yielded all.toArray a.tmps)=true∧∃kn',KInv kn' a∧run kn')∨(Region.wanted o (yielded all.toArray a.tmps)=false∧∃kn',KInv kn' a∧skip kn'):=by
 have more:∀{t:Tmp} {b:Bool},a.tmps[t]?=some (.bool b)→KInv ((t,b)::kn) a:=fun {t b} hb u c v h1 h2=>by
  unfold knownAt at h1
  split at h1
  · rename_i e
    subst e
    cases h1
    rw [hb] at h2
    cases h2
    rfl
  · exact hk u c v h1 h2
 have go:guarded (dom P A) all o s (fun _=>∃kn',KInv kn' a∧run kn') (fun _=>∃kn',KInv kn' a∧skip kn'):=by
  unfold guardedK at h
  unfold guarded
  split at h
  · exact ⟨kn,hk,h⟩
  · rename_i j want hg
    try dsimp only
    split at h
    case h_2=>exact h.elim
    rename_i t ht
    try dsimp only
    split at h
    · rename_i b hb
      try dsimp only
      have h1:=slot_bool R hb
      split at h
      · rename_i hkn
        have:=hk _ _ _ hkn h1
        injection this with this
        subst this
        cases want
        · exact ⟨fun _=>⟨kn,hk,h⟩,fun e=>by cases e⟩
        · exact ⟨fun _=>⟨kn,hk,h⟩,fun e=>by cases e⟩
      · rename_i hkn
        have:=hk _ _ _ hkn h1
        injection this with this
        subst this
        cases want
        · exact ⟨(fun e=>by cases e),fun _=>⟨kn,hk,h⟩⟩
        · exact ⟨(fun e=>by cases e),fun _=>⟨kn,hk,h⟩⟩
      · cases want
        · exact ⟨fun e=>⟨_,more (e▸h1),h.1 e⟩,fun e=>⟨_,more (e▸h1),h.2 e⟩⟩
        · exact ⟨fun e=>⟨_,more (e▸h1),h.1 e⟩,fun e=>⟨_,more (e▸h1),h.2 e⟩⟩
    · rename_i cs hb
      exact ⟨kn,hk,h⟩
    · exact h.elim
 exact guarded_wp R go
theorem pops_wp (hL:LayOk P L) {all:List Oper} {K:St→Prop} {Q:Exit→Act→World→Prop} (hQ:∀s cx a w,K s→Rel A cx s a w→Q .normal a w) (hp:∀ch a w,PanAt A a ch w→Q (.panic ch) a w):
 ∀(rest:List Oper) (kn:List (Tmp × Bool)) (s:St),pops (dom P A) L all kn rest s K→∀cx a w,Rel A cx s a w→KInv kn a→wpList P all.toArray Q rest a w:=by
 intro rest
 induction rest with
 | nil=>intro kn s h cx a w R hk;exact hQ s cx a w h R
 | cons o rest ih=>
   intro kn s h cx a w R hk
   unfold wpList
   rcases guardedK_wp R.tm hk h with ⟨hw,kn',hk',h⟩ | ⟨hw,kn',hk',h⟩
   · rw [if_pos hw]
     exact .inl (popK_wp hL R hk' h _ _ (fun kn2 s' cx' a' w' hK hR hI=>ih kn2 s' hK cx' a' w' hR hI) fun ch w' h=>hp ch a w' h)
   · rw [if_neg (by simp [hw])]
     exact ih _ _ h cx _ w (R.put (rep_undef cx w) o.dst) (hk'.forget rfl)
theorem region_AW (hL:LayOk P L) {id:Nat} {ops:Array Oper} {s:St} {Q:Ex→St→Prop} (h:pops (dom P A) L ops.toList [] ops.toList s (Q .normal)):AW P A (.region id ops false) s Q:=fun cx a w R=>by
 refine wp_region_list ?_
 have:=pops_wp hL (Q:=Post A Q) (fun s cx a w hk hR=>.inl ⟨.normal,s,cx,trivial,hk,hR⟩) (fun ch a w h=>.inr ⟨ch,rfl,h⟩) ops.toList [] s h cx a w R (kinv_nil a)
 simpa using this
theorem pwp_sound (hL:LayOk P L):∀(c:Code) (s:St) (Q:Ex→St→Prop),pwp (dom P A) L c s Q→AW P A c s Q:=by
 intro c
 induction c with
 | skip=>intro s Q h cx a w R;exact wp_skip (.inl ⟨.normal,s,cx,trivial,h,R⟩)
 | label l=>intro s Q h cx a w R;exact wp_label (.inl ⟨.normal,s,cx,trivial,h,R⟩)
 | region id ops d=>
   intro s Q h
   cases d with
   | false=>exact region_AW hL h
   | true=>
     have:=h id
     intro cx a w R
     refine wp_mono (this cx a w R) fun e a w h=>?_
     rcases h with ⟨e',s',cx',h1,⟨h2,h3⟩,h4⟩ | h
     · subst h2
       exact .inl ⟨.normal,s',cx',h1,h3,h4⟩
     · exact .inr h
 | seq x y ihx ihy=>
   intro s Q h cx a w R
   refine wp_seq (wp_mono (ihx _ _ h cx a w R) fun e a w h=>?_)
   rcases h with ⟨e',s',cx',h1,h2,h3⟩ | ⟨ch,rfl,h⟩
   · cases e<;>cases e'<;>first | exact h1.elim | exact ihy _ _ h2 cx' a w h3 | exact .inl ⟨_,s',cx',h1,h2,h3⟩
   · exact .inr ⟨ch,rfl,h⟩
 | cond c x y ihx ihy=>
   intro s Q h cx a w R
   simp only [pwp] at h
   split at h
   case h_2=>exact h.elim
   rename_i b hb
   have hc:=inv_bool (by have:=eyes_of R.tm c;rw [hb] at this;exact this)
   cases b with
   | true=>exact wp_cond hc (ihx _ _ (h.1 rfl) cx a w R)
   | false=>exact wp_cond hc (ihy _ _ (h.2 rfl) cx a w R)
 | block id c ih=>
   intro s Q h cx a w R
   refine wp_block (wp_mono (ih _ _ h cx a w R) fun e a w h=>?_)
   rcases h with ⟨e',s',cx',h1,h2,h3⟩ | ⟨ch,rfl,h⟩
   case inr=>exact .inr ⟨ch,rfl,h⟩
   cases e with
   | exit i=>
     cases e' with
     | exit j=>
       have e1:i=j:=h1
       subst e1
       simp only [Exit.inBlock]
       simp only at h2
       split at h2
       · rename_i e2
         rw [if_pos e2]
         exact .inl ⟨.normal,s',cx',trivial,h2,h3⟩
       · rename_i e2
         rw [if_neg e2]
         exact .inl ⟨.exit i,s',cx',rfl,h2,h3⟩
     | _=>exact h1.elim
   | _=>cases e'<;>first | exact h1.elim | exact .inl ⟨_,s',cx',h1,h2,h3⟩
 | exit id=>intro s Q h cx a w R;exact wp_exit (.inl ⟨.exit id,s,cx,rfl,h,R⟩)
 | goto l=>intro s Q h cx a w R;exact wp_goto (.inl ⟨.goto l,s,cx,rfl,h,R⟩)
 | ret=>intro s Q h cx a w R;exact wp_ret (.inl ⟨.ret,s,cx,trivial,h,R⟩)
 | loop c ih=>intro s Q h;exact h
 | rangeFunc f ps x y=>intro s Q h;exact h
 | scope c ih=>intro s Q h;exact h
 | refuse why=>intro s Q h;exact h
end
end Ab
end Go.Proofs.YtbpihhelojjedaaDoor
namespace Go.Proofs.YtbpihhelojjedaaDoor
open Go Go.RowKit
namespace Ab
section
variable {P:Program} {A:Run} {L:TypeId→Option Lt}
mutual
def V.under (n:Nat):V→Bool
 | .lst j=>decide (j<n)
 | .ptr j _=>decide (j<n)
 | .elt j _ _=>decide (j<n)
 | .win j _=>decide (j<n)
 | .mp j=>decide (j<n)
 | .pre j _=>decide (j<n)
 | .agg cs=>underL n cs
 | .tup cs=>underL n cs
 | .fn _ cs=>underL n cs
 | .ifc _ v=>V.under n v
 | _=>true
def underL (n:Nat):List V→Bool
 | []=>true
 | v::r=>V.under n v&&underL n r
end
def leV (n:Nat) (a b:V):Prop:=
 match b with
 | .junk=>True
 | .lst id=>a=.lst id∨(a=vNil∧n≤id)
 | b=>a=b
def leL (n:Nat):List V→List V→Prop
 | [],[]=>True
 | a::x,b::y=>leV n a b∧leL n x y
 | _,_=>False
def leRow (n:Nat):Row→Row→Prop
 | .box t cs,.box t' cs'=>t=t'∧leL n cs cs'
 | .list t es rows,.list t' es' rows'=>t=t'∧es=es'∧rows=rows'
 | .iter s p,.iter s' p'=>s=s'∧p=p'
 | .map c es,.map c' es'=>c=c'∧es=es'
 | _,_=>False
def newRow:Row→Prop
 | .list _ _ []=>True
 | _=>False
def leOne (n:Nat) (x:List (Option Row)) (r':Option Row):Prop:=
 match r' with
 | none=>True
 | some r'=>match x with
   | []=>newRow r'
   | some r::_=>leRow n r r'
   | none::_=>False
def leH (n:Nat):List (Option Row)→List (Option Row)→Prop
 | _,[]=>True
 | x,r'::y=>leOne n x r'∧leH n x.tail y
def underRow (n:Nat):Option Row→Bool
 | some (.box _ cs)=>underL n cs
 | _=>true
def St.le (s t:St):Prop:=
 leL s.heap.length s.tmps t.tmps∧leH s.heap.length s.heap t.heap∧underL t.heap.length t.tmps=true∧t.heap.all (underRow t.heap.length)=true∧t.base=s.base∧Nat.ble s.base t.heap.length=true
theorem underL_get {n:Nat}:∀{l:List V},underL n l=true→∀(i:Nat) (c:V),l[i]?=some c→c.under n=true
 | [],_,i,c,h=>by simp at h
 | v::r,hn,i,c,h=>by
   simp only [underL,Bool.and_eq_true] at hn
   cases i with
   | zero=>simp at h;subst h;exact hn.1
   | succ i=>exact underL_get hn.2 i c (by simpa using h)
theorem VRep.cut {cx cx':Cx} {w:World} {v:V} {u:Value} {n:Nat} (h:VRep cx w v u) (hat:∀i B,i<n→cx.at_ i=some B→cx'.at_ i=some B) (hG:∀b,cx.G b→cx'.G b):v.under n=true→VRep cx' w v u:=by
 induction h with
 | t x v h=>intro _;exact .t x v (h.mono (Same.refl _ _) hG)
 | agg cs vs hn hcb hr ih=>intro hu;exact .agg cs vs hn hcb fun i c u h1 h2=>ih i c u h1 h2 (underL_get hu i c h1)
 | tup cs vs hn hr ih=>intro hu;exact .tup cs vs hn fun i c u h1 h2=>ih i c u h1 h2 (underL_get hu i c h1)
 | lstN id a z h hz=>intro hu;exact .lstN id a z (hat _ _ (by simpa [V.under] using hu) h) hz
 | lst id b cap es len h=>intro hu;exact .lst id b cap es len (hat _ _ (by simpa [V.under] using hu) h)
 | ptr id off b cap es len h=>intro hu;exact .ptr id off b cap es len (hat _ _ (by simpa [V.under] using hu) h)
 | win id lo b cap es len h=>intro hu;exact .win id lo b cap es len (hat _ _ (by simpa [V.under] using hu) h)
 | mp id b cap es len h=>intro hu;exact .mp id b cap es len (hat _ _ (by simpa [V.under] using hu) h)
 | pre id n b cap es len h=>intro hu;exact .pre id n b cap es len (hat _ _ (by simpa [V.under] using hu) h)
 | elt id row off b cap es len h=>intro hu;exact .elt id row off b cap es len (hat _ _ (by simpa [V.under] using hu) h)
 | ipt cells off b o u hb hc hr=>intro _;exact .ipt cells off b o u (hG _ hb) hc fun j t h=>(hr j t h).mono (Same.refl _ _) hG
 | fn f cs vs hn hr ih=>intro hu;exact .fn f cs vs hn fun i c u h1 h2=>ih i c u h1 h2 (underL_get hu i c h1)
 | ifc t v u h ih=>intro hu;exact .ifc t v u (ih hu)
 | junk v=>intro _;exact .junk v
theorem leL_get {n:Nat}:∀{x y:List V},leL n x y→x.length=y.length∧∀(i:Nat) (b:V),y[i]?=some b→∃a,x[i]?=some a∧leV n a b
 | [],[],_=>⟨rfl,fun i b h=>by simp at h⟩
 | a::x,b::y,h=>by
   obtain ⟨h1,h2⟩:=leL_get h.2
   refine ⟨by simp [h1],fun i c hc=>?_⟩
   cases i with
   | zero=>simp at hc;subst hc;exact ⟨a,rfl,h.1⟩
   | succ i=>exact h2 i c (by simpa using hc)
 | [],_::_,h=>h.elim
 | _::_,[],h=>h.elim
theorem leH_get {n:Nat}:∀{y x:List (Option Row)},leH n x y→∀(i:Nat) (r:Row),y[i]?=some (some r)→(∃r0,x[i]?=some (some r0)∧leRow n r0 r)∨(x.length≤i∧∃ty es,r=.list ty es [])
 | [],_,_,i,r,h=>by simp at h
 | r'::y,x,h,i,r,hr=>by
   cases i with
   | zero=>
     simp at hr
     subst hr
     have h1:=h.1
     unfold leOne at h1
     cases x with
     | nil=>
       simp only at h1
       unfold Ab.newRow at h1
       split at h1
       · exact .inr ⟨by simp,_,_,rfl⟩
       · exact h1.elim
     | cons z x=>
       cases z with
       | none=>exact h1.elim
       | some r0=>exact .inl ⟨r0,rfl,h1⟩
   | succ i=>
     rcases leH_get h.2 i r (by simpa using hr) with ⟨r0,h1,h2⟩ | ⟨h1,h2⟩
     · exact .inl ⟨r0,by cases x<;>first | (simp at h1;done) | simpa using h1,h2⟩
     · exact .inr ⟨by cases x<;>simp at h1 ⊢<;>omega,h2⟩
theorem Rel.loose {cx:Cx} {s t:St} {a:Act} {w:World} (R:Rel A cx s a w) (h:s.le t):∃cx',Rel A cx' t a w:=by
 obtain ⟨h1,h2,h3,h4,h5,h6⟩:=h
 have h6':s.base≤t.heap.length:=by simpa using h6
 let cx':Cx:=⟨fun i=>if i<t.heap.length then (if i<s.heap.length then cx.at_ i else some (.nil true)) else none,cx.G⟩
 have at1:∀i B,i<t.heap.length→cx.at_ i=some B→cx'.at_ i=some B:=fun i B hi hB=>by
  have:i<s.heap.length:=by
   rcases Nat.lt_or_ge i s.heap.length with h | h
   · exact h
   · rw [R.hp.dom i h] at hB;cases hB
  show (if i<t.heap.length then (if i<s.heap.length then cx.at_ i else some (.nil true)) else none)=some B
  rw [if_pos hi,if_pos this];exact hB
 have at2:∀i,s.heap.length≤i→i<t.heap.length→cx'.at_ i=some (.nil true):=fun i h1 h2=>by
  show (if i<t.heap.length then (if i<s.heap.length then cx.at_ i else some (.nil true)) else none)=some (.nil true)
  rw [if_pos h2,if_neg (by omega)]
 have at3:∀i B,cx'.at_ i=some B→(i<s.heap.length∧cx.at_ i=some B)∨B=.nil true:=fun i B hB=>by
  have hB':(if i<t.heap.length then (if i<s.heap.length then cx.at_ i else some (.nil true)) else none)=some B:=hB
  split at hB'
  · split at hB'
    · rename_i h;exact .inl ⟨h,hB'⟩
    · cases hB';exact .inr rfl
  · cases hB'
 have one:∀{x:V} {u:Value} {b:V},VRep cx w x u→leV s.heap.length x b→b.under t.heap.length=true→VRep cx' w b u:=fun {x u b} hx hle hu=>by
  cases b with
  | junk=>exact .junk u
  | lst id=>
    rcases hle with rfl | ⟨rfl,hid⟩
    · exact hx.cut at1 (fun _ h=>h) hu
    · have:=inv_flat hx
      subst this
      exact .lstN id none true (at2 id hid (by simpa [V.under] using hu)) (fun _=>rfl)
  | _=>
    have e:x=_:=hle
    subst e
    exact hx.cut at1 (fun _ h=>h) hu
 have many:∀{x y:List V} {vs:Array Value},VReps cx w x vs→leL s.heap.length x y→underL t.heap.length y=true→VReps cx' w y vs:=fun {x y vs} hx hle hu=>by
  obtain ⟨g1,g2⟩:=leL_get hle
  refine ⟨by rw [hx.1,g1],fun i c u q1 q2=>?_⟩
  obtain ⟨c0,q3,q4⟩:=g2 i c q1
  exact one (hx.2 i c0 u q3 q2) q4 (underL_get hu i c q1)
 have rows:∀(i:Nat) r,t.heap[i]?=some (some r)→i<t.heap.length∧((∃r0,s.heap[i]?=some (some r0)∧leRow s.heap.length r0 r∧isList r=isList r0)∨(s.heap.length≤i∧∃ty es,r=.list ty es [])):=fun i r hr=>by
  refine ⟨(List.getElem?_eq_some_iff.1 hr).1,?_⟩
  rcases leH_get h2 i r hr with ⟨r0,g1,g2⟩ | g
  · exact .inl ⟨r0,g1,g2,by cases r0<;>cases r<;>first | rfl | exact g2.elim⟩
  · exact .inr g
 refine ⟨cx',?_⟩
 constructor
 · exact many R.tm h1 h3
 · exact R.df
 · constructor
   · intro i r hr
     obtain ⟨hi,hh⟩:=rows i r hr
     rcases hh with ⟨r0,g1,g2,-⟩ | ⟨g1,ty,es,rfl⟩
     · have hR:=R.hp.row i r0 g1
       cases hR with
       | iter s0 p0 b hat hbl hn h0=>
         cases r with
         | list=>exact g2.elim
         | box=>exact g2.elim
         | map=>exact g2.elim
         | hole=>exact g2.elim
         | iter s1 p1=>
           obtain ⟨rfl,rfl⟩:=g2
           exact .iter _ _ b (at1 _ _ hi hat) hbl hn h0
       | hole=>cases r<;>exact g2.elim
       | map c0 rows0 b es0 clock0 hat hbl hn h0=>
         cases r with
         | list=>exact g2.elim
         | box=>exact g2.elim
         | iter=>exact g2.elim
         | hole=>exact g2.elim
         | map c1 es1=>
           obtain ⟨rfl,rfl⟩:=g2
           exact .map _ _ b _ _ (at1 _ _ hi hat) hbl hn h0
       | box ty cs b vs hat hbl hn hrr=>
         cases r with
         | list=>exact g2.elim
         | iter=>exact g2.elim
         | map=>exact g2.elim
         | hole=>exact g2.elim
         | box ty' cs'=>
           obtain ⟨rfl,g3⟩:=g2
           have hun:=List.all_eq_true.1 h4 _ (List.mem_of_getElem? hr)
           refine .box ty cs' b vs ?_ hbl hn (many hrr g3 hun)
           rw [←(leL_get g3).1]
           exact at1 _ _ hi hat
       | listN ty es z1 hat hz1=>
         cases r with
         | box=>exact g2.elim
         | iter=>exact g2.elim
         | map=>exact g2.elim
         | hole=>exact g2.elim
         | list ty' es' rows'=>
           obtain ⟨rfl,rfl,rfl⟩:=g2
           exact .listN _ _ z1 (at1 _ _ hi hat) hz1
       | list ty es rows b cap vs hat hbl hn hcap hmax hsz hes hrr=>
         cases r with
         | box=>exact g2.elim
         | iter=>exact g2.elim
         | map=>exact g2.elim
         | hole=>exact g2.elim
         | list ty' es' rows'=>
           obtain ⟨rfl,rfl,rfl⟩:=g2
           exact .list _ _ _ b cap vs (at1 _ _ hi hat) hbl hn hcap hmax hsz hes hrr
     · exact .listN _ _ true (at2 _ g1 hi) (fun h=>by cases h)
   · intro i i' r r' b cap es len cap' es' len' q1 q2 q3 q4
     obtain ⟨-,hh⟩:=rows i r q1
     obtain ⟨-,hh'⟩:=rows i' r' q2
     rcases at3 _ _ q3 with ⟨p1,p2⟩ | h
     · rcases at3 _ _ q4 with ⟨p3,p4⟩ | h
       · rcases hh with ⟨r0,g1,-⟩ | ⟨g1,-⟩
         · rcases hh' with ⟨r0',g1',-⟩ | ⟨g1',-⟩
           · exact R.hp.inj _ _ _ _ _ _ _ _ _ _ _ g1 g1' p2 p4
           · omega
         · omega
       · cases h
     · cases h
   · intro i hi
     exact if_neg (by omega)
 · constructor
   · exact R.kp.os
   · exact R.kp.tape
   · exact R.kp.output
   · exact R.kp.size
   · exact R.kp.block
   · intro i r b cap es len q1 q2
     obtain ⟨-,hh⟩:=rows i r q1
     rcases at3 _ _ q2 with ⟨p1,p2⟩ | h
     · rcases hh with ⟨r0,g1,-⟩ | ⟨g1,-⟩
       · exact R.kp.live _ _ _ _ _ _ g1 p2
       · omega
     · cases h
   · exact R.kp.G0
   · exact R.kp.G1
   · exact R.kp.G2
   · intro i B hp
     obtain ⟨q1,q2⟩:=R.kp.pin i B hp
     exact ⟨at1 _ _ (by rw [←R.bs] at q2;omega) q1,q2⟩
   · rw [←R.bs];exact h6'
   · exact R.kp.tab
 · rw [h5];exact R.bs
theorem wp_loop_n {c:Code} {Q:Exit→Act→World→Prop} {a:Act} {w:World} (I:Nat→Act→World→Prop) (n0:Nat) (h0:I n0 a w)
 (round:∀n a w,I n a w→c.wp P (Exit.then (fun a' w'=>∃m,m<n∧I m a' w') Q) a w):(Code.loop c).wp P Q a w:=by
 intro b k cs
 have key:∀n a w,I n a w→∃e a' w',Q e a' w'∧Arrives P (lone (b.at a (.code c::.inLoop c::k)) cs w) b k cs e a' w':=by
  intro n
  induction n using Nat.strongRecOn with
  | _ n ih=>
    intro a w hI
    obtain ⟨e,a₁,w₁,hq,harr⟩:=round n a w hI b (.inLoop c::k) cs
    cases e with
    | normal=>
      obtain ⟨m,hlt,hI₁⟩:=hq
      obtain ⟨e₂,a₂,w₂,hq₂,harr₂⟩:=ih m hlt a₁ w₁ hI₁
      exact ⟨e₂,a₂,w₂,hq₂,.of_steps (Steps.trans harr (.one step_inLoop)) harr₂⟩
    | exit id=>exact ⟨_,a₁,w₁,hq,.pass (x:=.inLoop c) rfl (fun _ _=>.inl (by simp)) harr⟩
    | goto l=>exact ⟨_,a₁,w₁,hq,.pass (x:=.inLoop c) rfl (fun _ _=>.inl (by simp)) harr⟩
    | ret=>exact ⟨_,a₁,w₁,hq,.pass (x:=.inLoop c) rfl (fun _ _=>.inl (by simp)) harr⟩
    | panic ch=>exact ⟨_,a₁,w₁,hq,.pass (x:=.inLoop c) rfl (fun _ _=>.inl (by simp)) harr⟩
    | outgrown=>exact ⟨_,a₁,w₁,hq,.pass (x:=.inLoop c) rfl (fun _ _=>.inl (by simp)) harr⟩
 obtain ⟨e,a',w',hq,harr⟩:=key n0 a w h0
 exact ⟨e,a',w',hq,.of_steps (.one step_loop) harr⟩
theorem AW_loop (hL:LayOk P L) {c:Code} {s:St} {Q:Ex→St→Prop} {Γ:Type} (F:Γ→St) (pre:Γ→Prop) (mu:Γ→Nat) (g0:Γ) (h0:pre g0) (hle:s.le (F g0))
 (hstep:∀g,pre g→∀Q':Ex→St→Prop,(∀s' g',pre g'→mu g'<mu g→s'.le (F g')→Q' .normal s')→(∀s',Q .ret s'→Q' .ret s')→(∀i s',Q (.exit i) s'→Q' (.exit i) s')→AW P A c (F g) Q'):
 AW P A (.loop c) s Q:=fun cx a w R=>by
 obtain ⟨cx0,R0⟩:=R.loose hle
 refine wp_loop_n (fun n a w=>∃g cx,pre g∧mu g=n∧Rel A cx (F g) a w) (mu g0) ⟨g0,cx0,h0,rfl,R0⟩ ?_
 rintro n a w ⟨g,cx,hg,rfl,R⟩
 have:=hstep g hg (fun e s'=>match e with
  | .normal=>∃g',pre g'∧mu g'<mu g∧s'.le (F g')
  | e=>Q e s') (fun s' g' h1 h2 h3=>⟨g',h1,h2,h3⟩) (fun s' h=>h) (fun i s' h=>h) cx a w R
 refine wp_mono this fun e a w h=>?_
 rcases h with ⟨e',s',cx',h1,h2,h3⟩ | ⟨ch,rfl,h⟩
 case inr=>exact .inr ⟨ch,rfl,h⟩
 cases e with
 | normal=>
   cases e'<;>first | exact h1.elim | skip
   obtain ⟨g',q1,q2,q3⟩:=h2
   obtain ⟨cx2,R2⟩:=h3.loose q3
   exact ⟨mu g',q2,g',cx2,q1,rfl,R2⟩
 | _=>cases e'<;>first | exact h1.elim | exact .inl ⟨_,s',cx',h1,h2,h3⟩
end
end Ab
end Go.Proofs.YtbpihhelojjedaaDoor
