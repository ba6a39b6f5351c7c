/- Texts that the proof leans on. -/
import Derived.Test.YtbpihhelojjedaaDoorK233
import Derived.Test.YtbpihhelojjedaaDoorK228
set_option linter.unusedVariables false
set_option linter.unusedSimpArgs false
set_option maxRecDepth 100000
set_option maxHeartbeats 4000000
namespace Go.Proofs.YtbpihhelojjedaaDoor
open Go
open Sh Gn Mx
namespace Pl
theorem cloneI_p {l:List Int} (h:l.length≤1000000):slices_CloneI_g l=some l:=by
 unfold slices_CloneI_g nilq
 cases l with
 | nil=>rfl
 | cons x l=>simp only [Option.bind_some,app_eq (show ([]:List Int).length+(x::l).length≤1000000000 by simp at h ⊢;omega),List.nil_append]
variable {N:Nat} {n:Node} {s:ByteArray}
theorem of_bad (hR:regex_Right_g N n=some false):spots_Of_g N n=some (⟨[],false,[],[],[]⟩,7):=by
 unfold spots_Of_g;rw [hR];rfl
theorem of_p (hR:regex_Right_g N n=some true) (hr:Rx.right n=true) (hz:Lens n) (hN:30*n.size+3000≤N) (hc:cnt n≤200):∃q sets nx,spots_Of_g N n=some (⟨sets,q.none,q.first,q.last,nx⟩,0)∧Wr 0 (cnt n) sets nx q (lang n):=by
 unfold spots_Of_g
 rw [hR,Option.bind_some]
 have e1:=count_p n.size n (Nat.le_refl _) hz hr N (by omega)
 obtain ⟨q,X,nx,r1,r2,-⟩:=write_p n.size n (Nat.le_refl _) hz hr N (by omega) ⟨⟨[],false,[],[],[]⟩⟩ 0 rfl rfl (by omega)
 rw [Nat.zero_add] at r2
 have l1:=rg_len r2.pr.first
 have l2:=rg_len r2.pr.last
 rw [e1,Option.bind_some,cm_gtr,cond_dec,if_neg (by omega),r1]
 simp only [Bool.not_true,_root_.cond_false,Option.bind_some,cloneI_p (show q.first.length≤1000000 by omega),cloneI_p (show q.last.length≤1000000 by omega)]
 exact ⟨q,_,nx,rfl,r2⟩
theorem texts_law {g:Bool} (hN:30*n.size+3000≤N) (hg:l13_Great_g N n=some g) (hz:Lens n) (hR:g=false→regex_Right_g N n=some (Rx.right n)) (hM:g=false→s.size≤30→Rx.right n=true→∃b,match_Match_g N n s=some b∧(b=true↔lang n s.data.toList)):l16_SpotsTexts_g N n s=some true:=by
 unfold l16_SpotsTexts_g
 rw [hg]
 cases g with
 | true=>rfl
 | false=>
   have hR:=hR rfl
   simp only [Option.bind_some,_root_.cond_false,cm_gtr,cond_dec,sl_eq]
   by_cases h1:(30:Int)<s.size
   · simp only [h1,if_true,Option.bind_some,_root_.cond_true];rfl
   simp only [h1,if_false]
   have hCt:spots_Count_g N n=some (if Rx.right n=true then ((min (cnt n) 513:Nat):Int) else 0):=by
    unfold spots_Count_g
    rw [hR,Option.bind_some]
    cases hr:Rx.right n with
    | false=>rfl
    | true=>rw [count_p n.size n (Nat.le_refl _) hz hr N (by omega)];rfl
   rw [hCt]
   cases hr:Rx.right n with
   | false=>
     rw [hr] at hR
     rw [of_bad hR,hR]
     rfl
   | true=>
     rw [hr] at hR
     simp only [if_true,Option.bind_some]
     by_cases h2:(200:Int)<((min (cnt n) 513:Nat):Int)
     · simp only [h2,decide_true,_root_.cond_true];rfl
     simp only [h2,decide_false,_root_.cond_false]
     have hc:cnt n≤200:=by omega
     obtain ⟨q,sets,nx,o1,o2⟩:=of_p hR hr hz hN hc
     obtain ⟨low,ok,mt⟩:=wr_match hc o2
     obtain ⟨b,m1,m2⟩:=hM rfl (by omega) hr
     have hs:s.data.toList.length≤30:=by
      have:s.size=s.data.toList.length:=by simp
      omega
     have e1:=right_p low (N:=N) (by omega)
     have e2:=match_p low (N:=N) (by omega) hs
     rw [ok] at e1
     have e3:matchB ⟨sets,q.none,q.first,q.last,nx⟩ s=b:=by
      rw [Bool.eq_iff_iff,mt,m2]
     rw [e3] at e2
     have e4:cm .eql (sets.length:Int) ((min (cnt n) 513:Nat):Int)=true:=by rw [cm_eql,o2.len];exact decide_eq_true (by omega)
     have t:conj [b==b]=true:=by cases b<;>rfl
     have e5:cm .neq (0:Int) 0=false:=rfl
     simp only [o1,e5,e1,e2,m1,ll_eq,e4,t,Option.bind_some,_root_.cond_true,_root_.cond_false]
     rfl
end Pl
end Go.Proofs.YtbpihhelojjedaaDoor
namespace Go.Proofs.YtbpihhelojjedaaDoor
open Go
open Sh Gn
namespace Pl
theorem size_g:∀(m:Nat) (n:Node),n.size≤m→Lens n→∀N,m+2≤N→∃x,r13_Size_g N n=some x:=by
 intro m
 induction m with
 | zero=>intro n h;have:=n.size_pos;omega
 | succ m ih=>
   intro n h hl N hN
   obtain ⟨N,rfl⟩:∃K,N=K+1:=⟨N-1,by omega⟩
   have hkl:=n.kids_le
   have hlen:=Lens_len hl
   rw [r13_Size_g]
   have key:∀(f i:Nat) (S D:Int),i≤n.kids.length→n.kids.length<i+f→∃x,r13_Size_l1 (r13_Size_g N) n f S D (i:Int)=some x:=by
    intro f
    induction f with
    | zero=>intro i S D h1 h2;omega
    | succ f ihf=>
      intro i S D h1 h2
      rw [r13_Size_l1]
      by_cases c:i<n.kids.length
      · have c':cm .lss (i:Int) (ll (rw _ nodeRow n.kids))=true:=by rw [cm_lss,ll_eq];exact decide_eq_true (by omega)
        have hc:=kid_le (List.getElem_mem c)
        obtain ⟨x,e1⟩:=ih n.kids[i] (by omega) (Lens_kid hl (List.getElem_mem c)) N (by omega)
        rw [c',_root_.cond_true,at_in c,Option.bind_some,e1,Option.bind_some,incL (by omega),cm_gtr,cond_dec]
        split
        · simp only [Option.bind_some]
          exact ihf (i+1) _ _ (by omega) (by omega)
        · simp only [Option.bind_some]
          exact ihf (i+1) _ _ (by omega) (by omega)
      · have c':cm .lss (i:Int) (ll (rw _ nodeRow n.kids))=false:=by rw [cm_lss,ll_eq];exact decide_eq_false (by omega)
        rw [c',_root_.cond_false]
        exact ⟨_,rfl⟩
   exact key N 0 1 0 (by omega) (by omega)
theorem great_p {n:Node} {N:Nat} (h:Lens n) (hN:n.size+2≤N):∃g,l13_Great_g N n=some g:=by
 obtain ⟨x,e⟩:=size_g n.size n (Nat.le_refl _) h N hN
 unfold l13_Great_g
 rw [e,Option.bind_some,cm_gtr,cond_dec]
 split
 · exact ⟨true,rfl⟩
 · exact ⟨_,rfl⟩
end Pl
end Go.Proofs.YtbpihhelojjedaaDoor
namespace Go.Proofs.YtbpihhelojjedaaDoor
open Go
open Sh Gn
open Mx (Pos orP zr single iter upto more Sup Adds Keeps sp)
namespace Pl
def hits (n:Node) (l:List UInt8):Bool:=Rx.right n&&Mx.sp l n (Mx.single 0) l.length
section
variable {s:ByteArray} {M:Nat}
theorem list_p {x:Pos} (hM:M≤100000):∀(m k:Nat) (l:List Int),k≤M→M<k+m→l.length≤k→match_Ends_l1 (tab M x) m k l=some (l++(((List.range M).drop k).filter x).map fun i:Nat=>(i:Int)):=by
 intro m
 induction m with
 | zero=>intro k l h1 h2;omega
 | succ m ih=>
   intro k l h1 h2 h3
   rw [match_Ends_l1,cm_lss,cond_dec,ll_eq,tab_len]
   by_cases c:k<M
   · rw [if_pos (by omega),inc1 (by omega),tab_at c]
     have ed:(List.range M).drop k=k::(List.range M).drop (k+1):=by
      rw [List.drop_eq_getElem_cons (by simpa using c)];simp
     rw [ed,List.filter_cons]
     simp only [Option.bind_some]
     cases hx:x k with
     | true=>
       have ea:app (cI .i64) l [(k:Int)]=some (l++[(k:Int)]):=by unfold app;rw [if_pos (by simp;omega)]
       rw [_root_.cond_true,ea]
       simp only [Option.bind_some]
       rw [ih (k+1) _ (by omega) (by omega) (by simp;omega)]
       simp
     | false=>
       rw [_root_.cond_false,Option.bind_some,ih (k+1) _ (by omega) (by omega) (by omega)]
       simp
   · rw [if_neg (by omega),List.drop_of_length_le (by simp;omega)]
     simp
theorem index_has {l:List Int} {x:Int} (hl:l.length≤100000):∀(m k:Nat),k≤l.length→l.length<k+m→∃r,slices_Index_152_l1 l x m k=some r∧(0≤r↔x∈l.drop k):=by
 intro m
 induction m with
 | zero=>intro k h1 h2;omega
 | succ m ih=>
   intro k h1 h2
   rw [slices_Index_152_l1,cm_lss,cond_dec,ll_eq]
   by_cases c:k<l.length
   · rw [if_pos (by omega),inc1 (by omega),at_get c,Option.bind_some,cm_eql,cond_dec]
     by_cases g:x=l[k]
     · rw [if_pos g]
       exact ⟨_,rfl,by rw [List.drop_eq_getElem_cons c];simp [←g]⟩
     · rw [if_neg g]
       obtain ⟨r,h3,h4⟩:=ih (k+1) (by omega) (by omega)
       refine ⟨r,h3,h4.trans ?_⟩
       have e:l.drop k=l[k]::l.drop (k+1):=List.drop_eq_getElem_cons c
       rw [e,List.mem_cons]
       exact ⟨.inr,fun h=>h.elim (fun h=>absurd h g) id⟩
   · rw [if_neg (by omega),List.drop_of_length_le (by omega)]
     exact ⟨-1,rfl,by simp⟩
theorem mmatch_p {n:Node} {N:Nat} (hs:s.size≤10000) (hz:Lens n) (hN:n.size+30000≤N):match_Match_g N n s=some (hits n s.data.toList):=by
 unfold match_Match_g match_Ends_g hits
 rw [xright_p n.size n (Nat.le_refl _) hz N (by omega),Option.bind_some,cond_not]
 simp only [cm_lss,cm_gtr,cond_dec,ite_or,sl_eq]
 cases hr:Rx.right n with
 | false=>
   simp only [_root_.cond_false,Option.bind_some,_root_.cond_true]
   obtain ⟨r,h1,h2⟩:=index_has (l:=[]) (x:=(s.size:Int)) (by simp) N 0 (by simp) (by simp;omega)
   unfold slices_Contains_150_g slices_Index_152_g
   rw [show ((0:Nat):Int)=0 from rfl] at h1
   rw [h1,Option.bind_some,Option.bind_some,cm_geq]
   simp at h2
   simp;omega
 | true=>
   have hx:Sup (s.size+1) (single 0):=Mx.sup_single (by omega)
   have key:=moved_p hs n.size n (Nat.le_refl _) hz hr N (by omega) (single 0) hx
   have e1:ar .add .i64 (s.size:Int) 1=((s.size+1:Nat):Int):=inc1 (by omega)
   have es:tab (s.size+1) (fun j=>if j=0 then true else zr j)=tab (s.size+1) (single 0):=tab_ext fun j hj=>by
    by_cases g:j=0
    · simp [g,single]
    · simp [g,single,zr]
   have h0:decide ((0:Int)<0∨(s.size:Int)<0)=false:=decide_eq_false (by omega)
   have t0:=fun x=>tab_at (M:=s.size+1) (k:=0) (x:=x) (by omega)
   have p0:=fun (b:Bool) (X:List Bool→Option (List Int))=>tab_put (M:=s.size+1) (k:=0) (x:=zr) (b:=b) (X:=X)
   rw [show ((0:Nat):Int)=0 from rfl] at t0 p0
   simp only [_root_.cond_true,h0,Option.bind_some,_root_.cond_false,e1,tab_zro (show s.size+1≤1000000000 by omega),t0,p0,es,key]
   have hl:=list_p (M:=s.size+1) (x:=sp s.data.toList n (single 0)) (by omega) N 0 [] (by omega) (by omega) (by simp)
   rw [show ((0:Nat):Int)=0 from rfl,List.drop_zero,List.nil_append] at hl
   rw [hl,Option.bind_some]
   have hlen:(((List.range (s.size+1)).filter (sp s.data.toList n (single 0))).map fun i:Nat=>(i:Int)).length≤s.size+1:=by
    rw [List.length_map]
    have:=List.length_filter_le (sp s.data.toList n (single 0)) (List.range (s.size+1))
    simpa using this
   generalize hL:(((List.range (s.size+1)).filter (sp s.data.toList n (single 0))).map fun i:Nat=>(i:Int))=L at *
   obtain ⟨r,h1,h2⟩:=index_has (l:=L) (x:=(s.size:Int)) (by omega) N 0 (by omega) (by omega)
   unfold slices_Contains_150_g slices_Index_152_g
   rw [show ((0:Nat):Int)=0 from rfl] at h1
   rw [h1,Option.bind_some,Option.bind_some,cm_geq,Bool.true_and,size_list]
   congr 1
   rw [Bool.eq_iff_iff,decide_eq_true_eq,h2,List.drop_zero,←hL]
   simp only [List.mem_map,List.mem_filter,List.mem_range]
   constructor
   · rintro ⟨a,⟨_,h3⟩,h4⟩
     have:a=s.size:=by omega
     rw [←this];exact h3
   · intro h3
     exact ⟨s.size,⟨by omega,h3⟩,rfl⟩
end
theorem spotstexts_p {n:Node} (s:ByteArray) (hz:Lens n):l16_SpotsTexts_g (30*n.size+40000) n s=some true:=by
 obtain ⟨g,hg⟩:=great_p (N:=30*n.size+40000) hz (by omega)
 refine texts_law (by omega) hg hz (fun h=>xright_p n.size n (Nat.le_refl _) hz _ (by omega)) fun h h30 hr=>?_
 refine ⟨_,mmatch_p (by omega) hz (by omega),?_⟩
 unfold hits
 rw [hr,Bool.true_and]
 exact Mx.sp_whole hr s.data.toList
end Pl
end Go.Proofs.YtbpihhelojjedaaDoor
namespace Go.Proofs.YtbpihhelojjedaaDoor
open Go Go.RowKit
open Ab Sh
namespace Gn
theorem spots_Count_w {N:Nat} {p0:Node} {r:Int} (h:spots_Count_g N p0=some r):FunS Tryd.prog 12 [.agg [fI .i64 p0.kind,fI .u64 (p0.set.a.toNat:Int),fI .u64 (p0.set.b.toNat:Int),fI .u64 (p0.set.c.toNat:Int),fI .u64 (p0.set.d.toNat:Int),.t (.slc (rw _ nodeRow p0.kids)),fI .i64 p0.min,fI .i64 p0.max]] (spots_Count_s rw) r:=by
 refine fun_w lay_ok Tryd.call12 Tryd.func12 rfl ?_
 intro A W E Q R hE hR hf hQ;rcases W with ⟨ar,cm,conj,cv,sl,sc,ct,sa,ss,ll,_,_,_,_,mi,mx,_,_,_⟩
 rw [←hR]
 unfold spots_Count_g at h
 skip
 cbv
 refine L_call hE hR h (fun _ e=>regex_Right_w e) (by subst hR;rfl) rfl fun a1 h=>?_;cbv
 refine L_if hE h (fun h=>?_) (fun h=>?_)<;>cbv
 · exact And.left (hQ _ _ _ rfl rfl (by cases h;subst hR;rfl))
 refine L_call hE hR h (fun _ e=>spots_count_w e) (by subst hR;rfl) rfl fun a2 h=>?_;cbv
 exact And.left (hQ _ _ _ rfl rfl (by cases h;subst hR;rfl))
theorem r13_Size_w:∀{N:Nat} {p0:Node} {r:Int × Int},r13_Size_g N p0=some r→FunS Tryd.prog 30 [.agg [fI .i64 p0.kind,fI .u64 (p0.set.a.toNat:Int),fI .u64 (p0.set.b.toNat:Int),fI .u64 (p0.set.c.toNat:Int),fI .u64 (p0.set.d.toNat:Int),.t (.slc (rw _ nodeRow p0.kids)),fI .i64 p0.min,fI .i64 p0.max]] (r13_Size_s rw) r:=by
 intro N
 induction N with
 | zero=>intros;rename_i h;exact nomatch (show (none:Option _)=some _ from h)
 | succ N ih=>
 intro p0 r h
 refine fun_w lay_ok Tryd.call30 Tryd.func30 rfl ?_
 intro A W E Q R hE hR hf hQ;rcases W with ⟨ar,cm,conj,cv,sl,sc,ct,sa,ss,ll,_,_,_,_,mi,mx,_,_,_⟩
 rw [←hR]
 rw [r13_Size_g] at h
 skip
 cbv
 refine L_for hE lay_ok 1 (fun g:Int × Int × Int × Nat=>[(4,fI .i64 g.1),(5,fI .i64 g.2.1),(6,fI .i64 g.2.2.1)]) (fun g=>[]) (fun g=>r13_Size_l1 (r13_Size_g N) p0 g.2.2.2 g.1 g.2.1 g.2.2.1=some r) (fun g=>g.2.2.2) (_,_,_,N) h ?_ ?_
 · (cbv;(try simp only [e_rnil hR]);repeat' (first | exact trivial | exact rfl | exact Or.inr trivial | apply And.intro))
 rintro ⟨v1,v2,v3,m1⟩ h Q1 hN1 hT1 hX1
 have h:r13_Size_l1 (r13_Size_g N) p0 m1 v1 v2 v3=some r:=h
 cases m1 with
 | zero=>exact nomatch (show (none:Option _)=some _ from h)
 | succ m1=>
 rw [r13_Size_l1] at h
 rw [q_ar hE,q_cm hE,q_ll hE,←hR] at h
 cbv
 refine L_if hE h (fun h=>?_) (fun h=>?_)<;>cbv
 · refine L_rowN hE hR h fun r4 h=>?_;cbv
   refine L_call hE hR h (fun _ e=>ih e) (by subst hR;rfl) rfl fun a5 h=>?_;cbv
   refine L_cdJ hE lay_ok h 1 (fun j1:Int=>[(5,fI .i64 j1)]) (fun j1=>[]) (fun j1 h=>?_) (fun j1 h=>?_)<;>cbv
   · refine L_if hE h (fun h=>?_) (fun h=>?_)<;>cbv
     · cases h;(cbv;(try simp only [e_rnil hR]);repeat' (first | exact trivial | exact rfl | exact Or.inr trivial | apply And.intro))
     cases h;(cbv;(try simp only [e_rnil hR]);repeat' (first | exact trivial | exact rfl | exact Or.inr trivial | apply And.intro))
   refine hN1 _ (_,_,_,m1) [] h (Nat.lt_succ_self _) trivial ?_;(cbv;(try simp only [e_rnil hR]);repeat' (first | exact trivial | exact rfl | exact Or.inr trivial | apply And.intro))
 refine hX1 _ _ ?_;cbv
 exact And.left (hQ _ _ _ rfl rfl (by cases h;subst hR;rfl))
theorem l13_Great_w {N:Nat} {p0:Node} {r:Bool} (h:l13_Great_g N p0=some r):FunS Tryd.prog 11 [.agg [fI .i64 p0.kind,fI .u64 (p0.set.a.toNat:Int),fI .u64 (p0.set.b.toNat:Int),fI .u64 (p0.set.c.toNat:Int),fI .u64 (p0.set.d.toNat:Int),.t (.slc (rw _ nodeRow p0.kids)),fI .i64 p0.min,fI .i64 p0.max]] (l13_Great_s rw) r:=by
 refine fun_w lay_ok Tryd.call11 Tryd.func11 rfl ?_
 intro A W E Q R hE hR hf hQ;rcases W with ⟨ar,cm,conj,cv,sl,sc,ct,sa,ss,ll,_,_,_,_,mi,mx,_,_,_⟩
 rw [←hR]
 unfold l13_Great_g at h
 rw [q_cm hE] at h
 cbv
 refine L_call hE hR h (fun _ e=>r13_Size_w e) (by subst hR;rfl) rfl fun a1 h=>?_;cbv
 refine L_rgJ hE lay_ok h 1 (fun j1:Bool=>[(2,fB j1)]) (fun j1=>[]) (fun j1 h=>?_) (fun j1 h=>?_)<;>cbv
 · refine L_if hE h (fun h=>?_) (fun h=>?_)<;>cbv
   · cases h;(cbv;(try simp only [e_rnil hR]);repeat' (first | exact trivial | exact rfl | exact Or.inr trivial | apply And.intro))
   cases h;(cbv;(try simp only [e_rnil hR]);repeat' (first | exact trivial | exact rfl | exact Or.inr trivial | apply And.intro))
 exact And.left (hQ _ _ _ rfl rfl (by cases h;subst hR;rfl))
end Gn
end Go.Proofs.YtbpihhelojjedaaDoor
namespace Go.Proofs.YtbpihhelojjedaaDoor
open Go Go.RowKit
open Ab Sh
namespace Gn
theorem slices_Index_152_w {N:Nat} {p0:List Int} {p1:Int} {r:Int} (h:slices_Index_152_g N p0 p1=some r):FunS Tryd.prog 53 [.t (.slc (rw _ (cI .i64) p0)),fI .i64 p1] (slices_Index_152_s rw) r:=by
 refine fun_w lay_ok Tryd.call53 Tryd.func53 rfl ?_
 intro A W E Q R hE hR hf hQ;rcases W with ⟨ar,cm,conj,cv,sl,sc,ct,sa,ss,ll,_,_,_,_,mi,mx,_,_,_⟩
 rw [←hR]
 unfold slices_Index_152_g at h
 skip
 cbv
 refine L_for hE lay_ok 0 (fun g:Int × Nat=>[(4,fI .i64 0),(8,fI .i64 g.1)]) (fun g=>[]) (fun g=>slices_Index_152_l1 p0 p1 g.2 g.1=some r) (fun g=>g.2) (_,N) h ?_ ?_
 · (cbv;(try simp only [e_rnil hR]);repeat' (first | exact trivial | exact rfl | exact Or.inr trivial | apply And.intro))
 rintro ⟨v1,m1⟩ h Q1 hN1 hT1 hX1
 have h:slices_Index_152_l1 p0 p1 m1 v1=some r:=h
 cases m1 with
 | zero=>exact nomatch (show (none:Option _)=some _ from h)
 | succ m1=>
 rw [slices_Index_152_l1] at h
 rw [q_ar hE,q_cm hE,q_ll hE,←hR] at h
 cbv
 refine L_if hE h (fun h=>?_) (fun h=>?_)<;>cbv
 · refine L_row hE hR h fun r2 h=>?_;cbv
   refine L_if hE h (fun h=>?_) (fun h=>?_)<;>cbv
   · refine hT1 _ ?_
     exact And.left (hQ _ _ _ rfl rfl (by cases h;subst hR;rfl))
   refine hN1 _ (_,m1) [] h (Nat.lt_succ_self _) trivial ?_;(cbv;(try simp only [e_rnil hR]);repeat' (first | exact trivial | exact rfl | exact Or.inr trivial | apply And.intro))
 refine hX1 _ _ ?_;cbv
 exact And.left (hQ _ _ _ rfl rfl (by cases h;subst hR;rfl))
theorem slices_Contains_150_w {N:Nat} {p0:List Int} {p1:Int} {r:Bool} (h:slices_Contains_150_g N p0 p1=some r):FunS Tryd.prog 39 [.t (.slc (rw _ (cI .i64) p0)),fI .i64 p1] (slices_Contains_150_s rw) r:=by
 refine fun_w lay_ok Tryd.call39 Tryd.func39 rfl ?_
 intro A W E Q R hE hR hf hQ;rcases W with ⟨ar,cm,conj,cv,sl,sc,ct,sa,ss,ll,_,_,_,_,mi,mx,_,_,_⟩
 rw [←hR]
 unfold slices_Contains_150_g at h
 rw [q_cm hE] at h
 cbv
 refine L_call hE hR h (fun _ e=>slices_Index_152_w e) (by subst hR;rfl) rfl fun a1 h=>?_;cbv
 exact And.left (hQ _ _ _ rfl rfl (by cases h;subst hR;rfl))
theorem slices_Clone_159_w {p0:List Bool} {r:List Bool} (h:slices_Clone_159_g p0=some r):FunL Tryd.prog 70 [.t (.slc (rw _ cB p0))] 4 1 (rw _ cB r):=by
 refine list_w lay_ok Tryd.call70 Tryd.func70 rfl ?_
 intro A W E Q R hE hR hf hQ;rcases W with ⟨ar,cm,conj,cv,sl,sc,ct,sa,ss,ll,_,_,_,_,mi,mx,_,_,_⟩
 rw [←hR]
 unfold slices_Clone_159_g at h
 skip
 cbv
 refine L_nilq hE hR h (fun e=>by subst e;rfl) (fun h=>?_) (fun h=>?_)<;>cbv
 · refine L_t hE ?_;cbv
   exact And.left (hQ _ _ rfl (.inr ⟨rfl,by cases h;rfl⟩))
 refine L_f hE ?_;cbv
 refine L_lit hR (e:=cB) h rfl fun l1 e h=>?_;cbv at e;rw [e];clear e
 refine L_app hE hR h (hf _) (fun _=>rfl) (by decide) fun l2 e h=>?_;cbv at e;rw [e];clear e
 exact And.left (hQ _ _ rfl (.inl ⟨_,rfl,by cases h;subst hR;rfl⟩))
theorem slices_Equal_160_w {N:Nat} {p0:List Bool} {p1:List Bool} {r:Bool} (h:slices_Equal_160_g N p0 p1=some r):FunS Tryd.prog 71 [.t (.slc (rw _ cB p0)),.t (.slc (rw _ cB p1))] (slices_Equal_160_s rw) r:=by
 refine fun_w lay_ok Tryd.call71 Tryd.func71 rfl ?_
 intro A W E Q R hE hR hf hQ;rcases W with ⟨ar,cm,conj,cv,sl,sc,ct,sa,ss,ll,_,_,_,_,mi,mx,_,_,_⟩
 rw [←hR]
 unfold slices_Equal_160_g at h
 rw [q_cm hE,q_ll hE,←hR] at h
 cbv
 refine L_if hE h (fun h=>?_) (fun h=>?_)<;>cbv
 · exact And.left (hQ _ _ _ rfl rfl (by cases h;subst hR;rfl))
 refine L_for hE lay_ok 0 (fun g:Int × Nat=>[(4,fB false),(13,fI .i64 g.1)]) (fun g=>[]) (fun g=>slices_Equal_160_l1 p0 p1 g.2 g.1=some r) (fun g=>g.2) (_,N) h ?_ ?_
 · (cbv;(try simp only [e_rnil hR]);repeat' (first | exact trivial | exact rfl | exact Or.inr trivial | apply And.intro))
 rintro ⟨v1,m1⟩ h Q1 hN1 hT1 hX1
 have h:slices_Equal_160_l1 p0 p1 m1 v1=some r:=h
 cases m1 with
 | zero=>exact nomatch (show (none:Option _)=some _ from h)
 | succ m1=>
 rw [slices_Equal_160_l1] at h
 rw [q_ar hE,q_cm hE,q_conj hE,q_ll hE,←hR] at h
 cbv
 refine L_if hE h (fun h=>?_) (fun h=>?_)<;>cbv
 · refine L_whole hE lay_ok (by kernel_rfl) (by kernel_rfl) ?_;cbv
   refine L_row hE hR h fun r2 h=>?_;cbv
   refine L_row hE hR h fun r3 h=>?_;cbv
   refine L_if hE h (fun h=>?_) (fun h=>?_)<;>cbv
   · refine hT1 _ ?_
     exact And.left (hQ _ _ _ rfl rfl (by cases h;subst hR;rfl))
   refine hN1 _ (_,m1) [] h (Nat.lt_succ_self _) trivial ?_;(cbv;(try simp only [e_rnil hR]);repeat' (first | exact trivial | exact rfl | exact Or.inr trivial | apply And.intro))
 refine hX1 _ _ ?_;cbv
 exact And.left (hQ _ _ _ rfl rfl (by cases h;subst hR;rfl))
end Gn
end Go.Proofs.YtbpihhelojjedaaDoor
