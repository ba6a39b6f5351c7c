/- Texts that the proof leans on. -/
import Derived.Test.YtbpihhelojjedaaDoorK224
set_option linter.unusedVariables false
set_option linter.unusedSimpArgs false
set_option maxRecDepth 100000
set_option maxHeartbeats 4000000
namespace Go.Proofs.YtbpihhelojjedaaDoor
open Go
namespace Mx
abbrev Lg:=List UInt8→Prop
def lnil:Lg:=fun w=>w=[]
def lcat (A B:Lg):Lg:=fun w=>∃u v,w=u++v∧A u∧B v
def lpow (A:Lg):Nat→Lg
 | 0=>lnil
 | k+1=>lcat A (lpow A k)
mutual
def lang:Node→Lg
 | .mk k S kids mn mx=>fun w=>if k=1 then ∃c,w=[c]∧S.has c.toNat=true else if k=2 then langCat kids w else if k=3 then langAlt kids w else langRep kids mn mx w
def langCat:List Node→Lg
 | []=>lnil
 | n::r=>fun w=>∃u v,w=u++v∧lang n u∧langCat r v
def langAlt:List Node→Lg
 | []=>fun _=>False
 | n::r=>fun w=>lang n w∨langAlt r w
def langRep (kids:List Node) (mn mx:Int):Lg:=match kids with
 | []=>fun _=>False
 | n::_=>fun w=>∃k:Nat,mn.toNat≤k∧(mx=-1∨(k:Int)≤mx)∧lpow (lang n) k w
end
theorem lang1 (S:CSet) (kids:List Node) (mn mx:Int) (w:List UInt8):lang (.mk 1 S kids mn mx) w↔∃c,w=[c]∧S.has c.toNat=true:=by unfold lang;simp
theorem lang2 (S:CSet) (kids:List Node) (mn mx:Int) (w:List UInt8):lang (.mk 2 S kids mn mx) w↔langCat kids w:=by rw [lang];simp
theorem lang3 (S:CSet) (kids:List Node) (mn mx:Int) (w:List UInt8):lang (.mk 3 S kids mn mx) w↔langAlt kids w:=by rw [lang];simp
theorem lang4 {k:Int} (h1:k≠1) (h2:k≠2) (h3:k≠3) (S:CSet) (kids:List Node) (mn mx:Int) (w:List UInt8):lang (.mk k S kids mn mx) w↔langRep kids mn mx w:=by rw [lang];simp [h1,h2,h3]
theorem langCat_cons (n:Node) (r:List Node) (w:List UInt8):langCat (n::r) w↔lcat (lang n) (langCat r) w:=by rw [langCat];rfl
theorem langAlt_cons (n:Node) (r:List Node) (w:List UInt8):langAlt (n::r) w↔(lang n w∨langAlt r w):=by rw [langAlt]
theorem langRep_cons (n:Node) (r:List Node) (mn mx:Int) (w:List UInt8):langRep (n::r) mn mx w↔∃k:Nat,mn.toNat≤k∧(mx=-1∨(k:Int)≤mx)∧lpow (lang n) k w:=by rw [langRep]
def seg (s:List UInt8) (i j:Nat):List UInt8:=(s.drop i).take (j-i)
theorem seg_len {s:List UInt8} {i j:Nat} (hi:i≤j) (hj:j≤s.length):(seg s i j).length=j-i:=by unfold seg;rw [List.length_take,List.length_drop];omega
theorem seg_split {s:List UInt8} {i m j:Nat} (h1:i≤m) (h2:m≤j) (_hj:j≤s.length):seg s i j=seg s i m++seg s m j:=by
 unfold seg
 have e:j-i=(m-i)+(j-m):=by omega
 rw [e,List.take_add,List.drop_drop,show i+(m-i)=m by omega]
theorem seg_all (s:List UInt8):seg s 0 s.length=s:=by unfold seg;simp
theorem seg_nil {s:List UInt8} {i j:Nat} (hi:i≤j) (hj:j≤s.length):seg s i j=[]↔i=j:=by
 rw [←List.length_eq_zero_iff,seg_len hi hj];omega
structure Sem (s:List UInt8) (f:Pos→Pos) (A:Lg):Prop where
 adds:Adds f
 keeps:Keeps (s.length+1) f
 spec:∀i j,i≤s.length→(f (single i) j=true↔i≤j∧j≤s.length∧A (seg s i j))
theorem Sem.of_iff {s:List UInt8} {f:Pos→Pos} {A B:Lg} (h:Sem s f A) (e:∀w,A w↔B w):Sem s f B:=⟨h.adds,h.keeps,fun i j hi=>by rw [h.spec i j hi,e]⟩
theorem sem_nil (s:List UInt8):Sem s (fun x=>x) lnil where
 adds:=Adds.id
 keeps:=fun _ h=>h
 spec i j hi:=by
  simp only [single,beq_iff_eq,lnil]
  constructor
  · rintro rfl;exact ⟨Nat.le_refl _,hi,(seg_nil (Nat.le_refl _) hi).2 rfl⟩
  · rintro ⟨h1,h2,h3⟩;exact ((seg_nil h1 h2).1 h3).symm
theorem sem_none (s:List UInt8):Sem s (fun _=>zr) (fun _=>False) where
 adds:=Adds.zr
 keeps:=fun _ _=>sup_none _
 spec i j hi:=by simp [zr]
theorem Sem.or {s:List UInt8} {f g:Pos→Pos} {A B:Lg} (hf:Sem s f A) (hg:Sem s g B):Sem s (fun x=>orP (f x) (g x)) (fun w=>A w∨B w) where
 adds:=Adds.orP hf.adds hg.adds
 keeps:=fun x h=>(hf.keeps x h).orP (hg.keeps x h)
 spec i j hi:=by
  simp only [orP,Bool.or_eq_true,hf.spec i j hi,hg.spec i j hi]
  constructor
  · rintro (⟨a,b,c⟩ | ⟨a,b,c⟩)
    · exact ⟨a,b,Or.inl c⟩
    · exact ⟨a,b,Or.inr c⟩
  · rintro ⟨a,b,c | c⟩
    · exact Or.inl ⟨a,b,c⟩
    · exact Or.inr ⟨a,b,c⟩
theorem lcat_seg {s:List UInt8} {A B:Lg} {i j:Nat} (hi:i≤j) (hj:j≤s.length):lcat A B (seg s i j)↔∃m,i≤m∧m≤j∧A (seg s i m)∧B (seg s m j):=by
 constructor
 · rintro ⟨u,v,e,hu,hv⟩
   have hl:u.length+v.length=j-i:=by rw [←seg_len hi hj,e,List.length_append]
   have hs:=seg_split (s:=s) (i:=i) (m:=i+u.length) (j:=j) (by omega) (by omega) hj
   rw [e] at hs
   have h1:u.length=(seg s i (i+u.length)).length:=by rw [seg_len (by omega) (by omega)];omega
   obtain ⟨h2,h3⟩:=List.append_inj hs h1
   exact ⟨i+u.length,by omega,by omega,h2▸hu,h3▸hv⟩
 · rintro ⟨m,h1,h2,h3,h4⟩
   exact ⟨_,_,seg_split h1 h2 hj,h3,h4⟩
theorem Sem.comp {s:List UInt8} {f g:Pos→Pos} {A B:Lg} (hf:Sem s f A) (hg:Sem s g B):Sem s (fun x=>g (f x)) (lcat A B) where
 adds:=hf.adds.comp hg.adds
 keeps:=fun x h=>hg.keeps _ (hf.keeps x h)
 spec i j hi:=by
  have hsup:Sup (s.length+1) (f (single i)):=hf.keeps _ (sup_single (by omega))
  show g (f (single i)) j=true↔_
  rw [sp_any hg.adds hsup j,List.any_eq_true]
  constructor
  · rintro ⟨m,hm,h⟩
    rw [Bool.and_eq_true] at h
    obtain ⟨a,b,c⟩:=(hf.spec i m hi).1 h.1
    obtain ⟨a',b',c'⟩:=(hg.spec m j b).1 h.2
    exact ⟨by omega,b',(lcat_seg (by omega) b').2 ⟨m,a,a',c,c'⟩⟩
  · rintro ⟨a,b,c⟩
    obtain ⟨m,h1,h2,h3,h4⟩:=(lcat_seg a b).1 c
    exact ⟨m,List.mem_range.2 (by omega),by rw [Bool.and_eq_true];exact ⟨(hf.spec i m hi).2 ⟨h1,by omega,h3⟩,(hg.spec m j (by omega)).2 ⟨h2,b,h4⟩⟩⟩
theorem Sem.iter {s:List UInt8} {f:Pos→Pos} {A:Lg} (hf:Sem s f A):∀k,Sem s (iter f k) (lpow A k)
 | 0=>sem_nil s
 | k+1=>hf.comp (Sem.iter hf k)
theorem iter_add (f:Pos→Pos):∀a b x,Mx.iter f b (Mx.iter f a x)=Mx.iter f (a+b) x
 | 0,b,x=>by rw [Nat.zero_add];rfl
 | a+1,b,x=>by
   show Mx.iter f b (Mx.iter f a (f x))=_
   rw [iter_add f a b (f x),show a+1+b=(a+b)+1 by omega]
   rfl
theorem upto_iff {f:Pos→Pos} (hf:Adds f) (x:Pos) (j:Nat):∀M,upto f M x j=true↔∃k,k≤M∧Mx.iter f k x j=true
 | 0 =>by
   constructor
   · intro h;exact ⟨0,Nat.le_refl _,h⟩
   · rintro ⟨k,hk,h⟩
     obtain rfl:k=0:=by omega
     exact h
 | M + 1=>by
   rw [upto_succ hf]
   simp only [orP,Bool.or_eq_true,upto_iff hf x j M]
   constructor
   · rintro (⟨k,hk,h⟩ | h)
     · exact ⟨k,by omega,h⟩
     · exact ⟨M+1,Nat.le_refl _,h⟩
   · rintro ⟨k,hk,h⟩
     rcases Nat.lt_or_ge k (M+1) with h1 | h1
     · exact Or.inl ⟨k,by omega,h⟩
     · obtain rfl:k=M+1:=by omega
       exact Or.inr h
theorem upto_mono {f:Pos→Pos} (hf:Adds f) (x:Pos) {a b:Nat} (h:a≤b) (j:Nat) (hj:upto f a x j=true):upto f b x j=true:=by
 obtain ⟨k,h1,h2⟩:=(upto_iff hf x j a).1 hj
 exact (upto_iff hf x j b).2 ⟨k,by omega,h2⟩
def Times (mn mx:Int):Prop:=0≤mn∧(mx=-1∨mn≤mx)
theorem Sem.rep {s:List UInt8} {f:Pos→Pos} {A:Lg} (hf:Sem s f A) {mn mx:Int} (ht:Times mn mx):Sem s (fun x=>upto f (more s.length mn mx) (Mx.iter f mn.toNat x)) (fun w=>∃k:Nat,mn.toNat≤k∧(mx=-1∨(k:Int)≤mx)∧lpow A k w) where
 adds:=(hf.adds.iter _).comp (hf.adds.upto _)
 keeps:=fun x h=>hf.keeps.upto _ _ (hf.keeps.iter _ _ h)
 spec i j hi:=by
  have hsup:Sup (s.length+1) (Mx.iter f mn.toNat (single i)):=hf.keeps.iter _ _ (sup_single (by omega))
  obtain ⟨h0,h1⟩:=ht
  show upto f (more s.length mn mx) (Mx.iter f mn.toNat (single i)) j=true↔_
  have key:upto f (more s.length mn mx) (Mx.iter f mn.toNat (single i)) j=true↔∃k:Nat,mn.toNat≤k∧(mx=-1∨(k:Int)≤mx)∧Mx.iter f k (single i) j=true:=by
   constructor
   · intro h
     obtain ⟨k,hk,h2⟩:=(upto_iff hf.adds _ j _).1 h
     rw [iter_add] at h2
     refine ⟨mn.toNat+k,by omega,?_,h2⟩
     unfold more at hk
     split at hk
     · left;assumption
     · right;omega
   · rintro ⟨k,h2,h3,h4⟩
     have h5:upto f (k-mn.toNat) (Mx.iter f mn.toNat (single i)) j=true:=(upto_iff hf.adds _ j _).2 ⟨k-mn.toNat,Nat.le_refl _,by rw [iter_add,show mn.toNat+(k-mn.toNat)=k by omega];exact h4⟩
     unfold more
     split
     · rcases Nat.le_total (k-mn.toNat) s.length with h6 | h6
       · exact upto_mono hf.adds _ h6 j h5
       · rw [←upto_full hf.adds hf.keeps hsup _ h6];exact h5
     · exact upto_mono hf.adds _ (by omega) j h5
  rw [key]
  constructor
  · rintro ⟨k,h2,h3,h4⟩
    obtain ⟨a,b,c⟩:=((hf.iter k).spec i j hi).1 h4
    exact ⟨a,b,k,h2,h3,c⟩
  · rintro ⟨a,b,k,h2,h3,c⟩
    exact ⟨k,h2,h3,((hf.iter k).spec i j hi).2 ⟨a,b,c⟩⟩
theorem sem_one (S:CSet) (s:List UInt8):Sem s (one S s) (fun w=>∃c,w=[c]∧S.has c.toNat=true) where
 adds:=adds_one S s
 keeps:=keeps_one S s
 spec i j hi:=by
  cases j with
  | zero=>
    simp only [one]
    constructor
    · intro h;cases h
    · rintro ⟨h1,h2,c,h3,_⟩
      have:=congrArg List.length h3
      rw [seg_len h1 h2] at this
      simp at this
  | succ j=>
    simp only [one,single,Bool.and_eq_true,beq_iff_eq]
    constructor
    · rintro ⟨rfl,h⟩
      have hj:j<s.length:=by
       rcases Nat.lt_or_ge j s.length with h1 | h1
       · exact h1
       · rw [List.getElem?_eq_none h1] at h;cases h
      rw [List.getElem?_eq_getElem hj] at h
      refine ⟨by omega,hj,s[j],?_,h⟩
      unfold seg
      rw [List.drop_eq_getElem_cons hj,show j+1-j=1 by omega]
      rfl
    · rintro ⟨h1,h2,c,h3,h4⟩
      have hl:=congrArg List.length h3
      rw [seg_len h1 h2] at hl
      simp at hl
      obtain rfl:i=j:=by omega
      have hj:i<s.length:=by omega
      refine ⟨rfl,?_⟩
      unfold seg at h3
      rw [List.drop_eq_getElem_cons hj,show i+1-i=1 by omega] at h3
      have h5:s[i]=c:=(List.cons.inj h3).1
      rw [List.getElem?_eq_getElem hj,h5]
      exact h4
theorem times_right {n:Node} (h:Rx.right n=true) (h1:n.kind≠1) (h2:n.kind≠2) (h3:n.kind≠3):Times n.min n.max:=by
 rw [Rx.right_eq,Bool.and_eq_true] at h
 have ht:=h.1
 unfold Rx.topB at ht
 simp [h1,h2,h3] at ht
 obtain ⟨_,_,ht⟩:=ht
 unfold Rx.timesB at ht
 split at ht
 · cases ht
 · rename_i hc
   simp at hc ht
   exact ⟨by omega,by omega⟩
mutual
theorem sem_sp (s:List UInt8):∀n,Rx.right n=true→Sem s (sp s n) (lang n)
 | .mk k S kids mn mx,hr=>by
   have hk:∀x∈kids,Rx.right x=true:=fun x hx=>by
    rw [Rx.right_eq,Bool.and_eq_true] at hr
    exact ((Rx.rights_iff _ _).1 hr.2 x hx).1
   by_cases h1:k=1
   · subst h1
     have e:sp s (.mk 1 S kids mn mx)=one S s:=by unfold sp;simp
     rw [e]
     exact (sem_one S s).of_iff (fun w=>by unfold lang;simp)
   · by_cases h2:k=2
     · subst h2
       have e:sp s (.mk 2 S kids mn mx)=spCat s kids:=by unfold sp;simp
       rw [e]
       exact (sem_cat s kids hk).of_iff (fun w=>by rw [lang2])
     · by_cases h3:k=3
       · subst h3
         have e:sp s (.mk 3 S kids mn mx)=spAlt s kids:=by unfold sp;simp
         rw [e]
         exact (sem_alt s kids hk).of_iff (fun w=>by rw [lang3])
       · have ht:Times mn mx:=times_right hr h1 h2 h3
         have e:sp s (.mk k S kids mn mx)=spRep s kids mn mx:=by unfold sp;simp [h1,h2,h3]
         rw [e]
         exact (sem_rep s kids hk mn mx ht).of_iff (fun w=>by rw [lang4 h1 h2 h3])
theorem sem_cat (s:List UInt8):∀l,(∀x∈l,Rx.right x=true)→Sem s (spCat s l) (langCat l)
 | [],_=>by unfold spCat;exact (sem_nil s).of_iff (fun w=>by unfold langCat;rfl)
 | n::r,h=>by
   unfold spCat
   exact ((sem_sp s n (h n (by simp))).comp (sem_cat s r (fun x hx=>h x (by simp [hx])))).of_iff (fun w=>by rw [langCat_cons])
theorem sem_alt (s:List UInt8):∀l,(∀x∈l,Rx.right x=true)→Sem s (spAlt s l) (langAlt l)
 | [],_=>by unfold spAlt;exact (sem_none s).of_iff (fun w=>by unfold langAlt;rfl)
 | n::r,h=>by
   unfold spAlt
   exact ((sem_sp s n (h n (by simp))).or (sem_alt s r (fun x hx=>h x (by simp [hx])))).of_iff (fun w=>by rw [langAlt_cons])
theorem sem_rep (s:List UInt8):∀(kids:List Node),(∀x∈kids,Rx.right x=true)→∀mn mx,Times mn mx→Sem s (spRep s kids mn mx) (langRep kids mn mx)
 | [],_,_,_,_=>by unfold spRep;exact (sem_none s).of_iff (fun w=>by unfold langRep;rfl)
 | n::_,h,mn,mx,ht=>by
   unfold spRep
   exact ((sem_sp s n (h n (by simp))).rep ht).of_iff (fun w=>by rw [langRep_cons])
end
theorem sp_whole {n:Node} (h:Rx.right n=true) (s:List UInt8):sp s n (single 0) s.length=true↔lang n s:=by
 rw [(sem_sp s n h).spec 0 s.length (Nat.zero_le _),seg_all]
 simp
end Mx
end Go.Proofs.YtbpihhelojjedaaDoor
namespace Go.Proofs.YtbpihhelojjedaaDoor
namespace Gk
open Mx
def rd (E:Nat→Nat→Prop) (H:Nat→UInt8→Prop):Nat→List UInt8→Nat→Prop
 | _,[],_=>False
 | k,c::w,k'=>H k c∧((w=[]∧k=k')∨∃j,E k j∧rd E H j w k')
structure Pt where
 fi:Nat→Prop
 la:Nat→Prop
 no:Prop
def L (E:Nat→Nat→Prop) (H:Nat→UInt8→Prop) (p:Pt):Lg:=fun w=>(w=[]∧p.no)∨∃k k',p.fi k∧p.la k'∧rd E H k w k'
variable {E E':Nat→Nat→Prop} {H H':Nat→UInt8→Prop} {I J:Nat→Prop} {A B Q:Pt}
theorem rd_ne {k k':Nat} {w:List UInt8} (h:rd E H k w k'):w≠[]:=by rintro rfl;exact h
def Clo (E:Nat→Nat→Prop) (I:Nat→Prop):Prop:=∀k j,I k→E k j→I j
theorem rd_in (hc:Clo E I):∀{w:List UInt8} {k k':Nat},I k→rd E H k w k'→I k'
 | [],_,_,_,h=>h.elim
 | c::w,k,k',hk,h=>by
   rcases h.2 with ⟨-,rfl⟩ | ⟨j,h1,h2⟩
   · exact hk
   · exact rd_in hc (hc k j hk h1) h2
theorem rd_congr (hc:Clo E I) (he:∀k j,I k→(E k j↔E' k j)) (hh:∀k c,I k→(H k c↔H' k c)):∀{w:List UInt8} {k k':Nat},I k→(rd E H k w k'↔rd E' H' k w k')
 | [],_,_,_=>Iff.rfl
 | c ::w,k,k',hk=>by
   simp only [rd]
   rw [hh k c hk]
   refine and_congr_right fun _=>or_congr Iff.rfl ?_
   constructor
   · rintro ⟨j,h1,h2⟩
     exact ⟨j,(he k j hk).1 h1,(rd_congr hc he hh (hc k j hk h1)).1 h2⟩
   · rintro ⟨j,h1,h2⟩
     have h1':=(he k j hk).2 h1
     exact ⟨j,h1',(rd_congr hc he hh (hc k j hk h1')).2 h2⟩
structure In (I:Nat→Prop) (p:Pt):Prop where
 fi:∀k,p.fi k→I k
 la:∀k,p.la k→I k
theorem L_congr (hc:Clo E I) (hi:In I A) (he:∀k j,I k→(E k j↔E' k j)) (hh:∀k c,I k→(H k c↔H' k c)) (w:List UInt8):L E H A w↔L E' H' A w:=by
 unfold L
 refine or_congr Iff.rfl ?_
 constructor<;>(rintro ⟨k,k',h1,h2,h3⟩;refine ⟨k,k',h1,h2,?_⟩)
 · exact (rd_congr hc he hh (hi.fi k h1)).1 h3
 · exact (rd_congr hc he hh (hi.fi k h1)).2 h3
def link (E:Nat→Nat→Prop) (A B:Pt):Nat→Nat→Prop:=fun k j=>E k j∨(A.la k∧B.fi j)
def behind (A B:Pt):Pt:=⟨fun k=>A.fi k∨(A.no∧B.fi k),fun k=>B.la k∨(B.no∧A.la k),A.no∧B.no⟩
theorem rd_link_J (hJ:Clo E J) (hd:∀k,I k→¬ J k) (hA:In I A) {w:List UInt8} {k k':Nat} (hk:J k):rd (link E A B) H k w k'↔rd E H k w k':=
 (rd_congr hJ (fun k j hk=>⟨.inl,fun h=>h.resolve_right fun h=>hd k (hA.la k h.1) hk⟩) (fun _ _ _=>Iff.rfl) hk).symm
theorem rd_link_I (hI:Clo E I) (hJ:Clo E J) (hd:∀k,I k→¬ J k) (hA:In I A) (hB:In J B):∀{w:List UInt8} {k k':Nat},I k→(rd (link E A B) H k w k'↔rd E H k w k'∨∃u v m j,w=u++v∧rd E H k u m∧A.la m∧B.fi j∧rd E H j v k')
 | [],k,k',hk=>by
   constructor
   · exact fun h=>h.elim
   · rintro (h | ⟨u,v,m,j,h1,h2,-⟩)
     · exact h
     · exact absurd (List.append_eq_nil_iff.1 h1.symm).1 (rd_ne h2)
 | c :: w,k,k',hk=>by
   constructor
   · rintro ⟨h0,h | ⟨j,h1 | h1,h2⟩⟩
     · exact .inl ⟨h0,.inl h⟩
     · rcases (rd_link_I hI hJ hd hA hB (hI k j hk h1)).1 h2 with h | ⟨u,v,m,i,rfl,h4,h5⟩
       · exact .inl ⟨h0,.inr ⟨j,h1,h⟩⟩
       · exact .inr ⟨c::u,v,m,i,rfl,⟨h0,.inr ⟨j,h1,h4⟩⟩,h5⟩
     · exact .inr ⟨[c],w,k,j,rfl,⟨h0,.inl ⟨rfl,rfl⟩⟩,h1.1,h1.2,(rd_link_J hJ hd hA (hB.fi j h1.2)).1 h2⟩
   · rintro (⟨h0,h | ⟨j,h1,h2⟩⟩ | ⟨u,v,m,i,h1,h2,h3,h4,h5⟩)
     · exact ⟨h0,.inl h⟩
     · exact ⟨h0,.inr ⟨j,.inl h1,(rd_link_I hI hJ hd hA hB (hI k j hk h1)).2 (.inl h2)⟩⟩
     · cases u with
       | nil=>exact absurd rfl (rd_ne h2)
       | cons d u=>
         injection h1 with e1 e2
         subst e1 e2
         rcases h2.2 with ⟨rfl,rfl⟩ | ⟨j,g1,g2⟩
         · exact ⟨h2.1,.inr ⟨i,.inr ⟨h3,h4⟩,(rd_link_J hJ hd hA (hB.fi i h4)).2 h5⟩⟩
         · exact ⟨h2.1,.inr ⟨j,.inl g1,(rd_link_I hI hJ hd hA hB (hI k j hk g1)).2 (.inr ⟨u,v,m,i,rfl,g2,h3,h4,h5⟩)⟩⟩
theorem L_behind (hI:Clo E I) (hJ:Clo E J) (hd:∀k,I k→¬ J k) (hA:In I A) (hB:In J B) (w:List UInt8):L (link E A B) H (behind A B) w↔lcat (L E H A) (L E H B) w:=by
 have aa:∀{w k k'},I k→I k'→(rd (link E A B) H k w k'↔rd E H k w k'):=fun {w k k'} hk hk'=>by
  rw [rd_link_I hI hJ hd hA hB hk]
  exact ⟨fun h=>h.resolve_right fun ⟨u,v,m,j,_,_,_,h4,h5⟩=>hd k' hk' (rd_in hJ (hB.fi j h4) h5),.inl⟩
 have ab:∀{w k k'},I k→J k'→(rd (link E A B) H k w k'↔∃u v m j,w=u++v∧rd E H k u m∧A.la m∧B.fi j∧rd E H j v k'):=fun {w k k'} hk hk'=>by
  rw [rd_link_I hI hJ hd hA hB hk]
  exact ⟨fun h=>h.resolve_left fun h=>hd k' (rd_in hI hk h) hk',.inr⟩
 have bb:∀{w k k'},J k→(rd (link E A B) H k w k'↔rd E H k w k'):=fun hk=>rd_link_J hJ hd hA hk
 constructor
 · rintro (⟨rfl,h1,h2⟩ | ⟨k,k',h1,h2,h3⟩)
   · exact ⟨[],[],rfl,.inl ⟨rfl,h1⟩,.inl ⟨rfl,h2⟩⟩
   · rcases h1 with h1 | ⟨h0,h1⟩
     · rcases h2 with h2 | ⟨h2,h4⟩
       · obtain ⟨u,v,m,j,rfl,g1,g2,g3,g4⟩:=(ab (hA.fi k h1) (hB.la k' h2)).1 h3
         exact ⟨u,v,rfl,.inr ⟨k,m,h1,g2,g1⟩,.inr ⟨j,k',g3,h2,g4⟩⟩
       · exact ⟨w,[],(List.append_nil w).symm,.inr ⟨k,k',h1,h4,(aa (hA.fi k h1) (hA.la k' h4)).1 h3⟩,.inl ⟨rfl,h2⟩⟩
     · have h5:=(bb (hB.fi k h1)).1 h3
       rcases h2 with h2 | ⟨h2,h4⟩
       · exact ⟨[],w,rfl,.inl ⟨rfl,h0⟩,.inr ⟨k,k',h1,h2,h5⟩⟩
       · exact absurd (rd_in hJ (hB.fi k h1) h5) (hd k' (hA.la k' h4))
 · rintro ⟨u,v,rfl,⟨rfl,h1⟩ | ⟨k,m,h1,h2,h3⟩,⟨rfl,g1⟩ | ⟨j,k',g1,g2,g3⟩⟩
   · exact .inl ⟨rfl,h1,g1⟩
   · exact .inr ⟨j,k',.inr ⟨h1,g1⟩,.inl g2,(bb (hB.fi j g1)).2 (by simpa using g3)⟩
   · exact .inr ⟨k,m,.inl h1,.inr ⟨g1,h2⟩,(aa (hA.fi k h1) (hA.la m h2)).2 (by simpa using h3)⟩
   · exact .inr ⟨k,k',.inl h1,.inl g2,(ab (hA.fi k h1) (hB.la k' g2)).2 ⟨u,v,m,j,rfl,h3,h2,g1,g3⟩⟩
def orP (A B:Pt):Pt:=⟨fun k=>A.fi k∨B.fi k,fun k=>A.la k∨B.la k,A.no∨B.no⟩
theorem L_or (hI:Clo E I) (hJ:Clo E J) (hd:∀k,I k→¬ J k) (hA:In I A) (hB:In J B) (w:List UInt8):L E H (orP A B) w↔L E H A w∨L E H B w:=by
 constructor
 · rintro (⟨rfl,h1 | h1⟩ | ⟨k,k',h1 | h1,h2 | h2,h3⟩)
   · exact .inl (.inl ⟨rfl,h1⟩)
   · exact .inr (.inl ⟨rfl,h1⟩)
   · exact .inl (.inr ⟨k,k',h1,h2,h3⟩)
   · exact absurd (hB.la k' h2) (hd k' (rd_in hI (hA.fi k h1) h3))
   · exact absurd (rd_in hJ (hB.fi k h1) h3) (hd k' (hA.la k' h2))
   · exact .inr (.inr ⟨k,k',h1,h2,h3⟩)
 · rintro ((⟨rfl,h1⟩ | ⟨k,k',h1,h2,h3⟩) | (⟨rfl,h1⟩ | ⟨k,k',h1,h2,h3⟩))
   · exact .inl ⟨rfl,.inl h1⟩
   · exact .inr ⟨k,k',.inl h1,.inl h2,h3⟩
   · exact .inl ⟨rfl,.inr h1⟩
   · exact .inr ⟨k,k',.inr h1,.inr h2,h3⟩
def loop (Q:Pt):Pt:=⟨Q.fi,Q.la,True⟩
theorem rd_loop (hI:Clo E I) (hQ:In I Q):∀{w:List UInt8} {k k':Nat},I k→(rd (link E Q Q) H k w k'↔rd E H k w k'∨∃u v m j,w=u++v∧rd E H k u m∧Q.la m∧Q.fi j∧rd (link E Q Q) H j v k')
 | [],k,k',hk=>by
   constructor
   · exact fun h=>h.elim
   · rintro (h | ⟨u,v,m,j,h1,h2,-⟩)
     · exact h
     · exact absurd (List.append_eq_nil_iff.1 h1.symm).1 (rd_ne h2)
 | c :: w,k,k',hk=>by
   constructor
   · rintro ⟨h0,h | ⟨j,h1 | h1,h2⟩⟩
     · exact .inl ⟨h0,.inl h⟩
     · rcases (rd_loop hI hQ (hI k j hk h1)).1 h2 with h | ⟨u,v,m,i,rfl,h4,h5⟩
       · exact .inl ⟨h0,.inr ⟨j,h1,h⟩⟩
       · exact .inr ⟨c::u,v,m,i,rfl,⟨h0,.inr ⟨j,h1,h4⟩⟩,h5⟩
     · exact .inr ⟨[c],w,k,j,rfl,⟨h0,.inl ⟨rfl,rfl⟩⟩,h1.1,h1.2,h2⟩
   · rintro (⟨h0,h | ⟨j,h1,h2⟩⟩ | ⟨u,v,m,i,h1,h2,h3,h4,h5⟩)
     · exact ⟨h0,.inl h⟩
     · exact ⟨h0,.inr ⟨j,.inl h1,(rd_loop hI hQ (hI k j hk h1)).2 (.inl h2)⟩⟩
     · cases u with
       | nil=>exact absurd rfl (rd_ne h2)
       | cons d u=>
         injection h1 with e1 e2
         subst e1 e2
         rcases h2.2 with ⟨rfl,rfl⟩ | ⟨j,g1,g2⟩
         · exact ⟨h2.1,.inr ⟨i,.inr ⟨h3,h4⟩,h5⟩⟩
         · exact ⟨h2.1,.inr ⟨j,.inl g1,(rd_loop hI hQ (hI k j hk g1)).2 (.inr ⟨u,v,m,i,rfl,g2,h3,h4,h5⟩)⟩⟩
theorem L_loop (hI:Clo E I) (hQ:In I Q) (w:List UInt8):L (link E Q Q) H (loop Q) w↔∃n,lpow (L E H Q) n w:=by
 constructor
 · rintro (⟨rfl,-⟩ | ⟨k,k',h1,h2,h3⟩)
   · exact ⟨0,by unfold lpow lnil;rfl⟩
   · have key:∀(n:Nat) (w:List UInt8) (k:Nat),w.length≤n→Q.fi k→rd (link E Q Q) H k w k'→∃n,lpow (L E H Q) n w:=by
      intro n
      induction n with
      | zero=>intro w k hw _ h;exact absurd (List.eq_nil_of_length_eq_zero (by omega)) (rd_ne h)
      | succ n ih=>
        intro w k hw hk h
        rcases (rd_loop hI hQ (hQ.fi k hk)).1 h with h | ⟨u,v,m,j,rfl,g1,g2,g3,g4⟩
        · exact ⟨1,w,[],(List.append_nil w).symm,.inr ⟨k,k',hk,h2,h⟩,by unfold lpow lnil;rfl⟩
        · have hu:0<u.length:=List.length_pos_iff.2 (rd_ne g1)
          obtain ⟨i,hi⟩:=ih v j (by rw [List.length_append] at hw;omega) g3 g4
          exact ⟨i+1,u,v,rfl,.inr ⟨k,m,hk,g2,g1⟩,hi⟩
     exact key w.length w k (Nat.le_refl _) h1 h3
 · rintro ⟨n,h⟩
   induction n generalizing w with
   | zero=>exact .inl ⟨h,trivial⟩
   | succ n ih=>
     obtain ⟨u,v,rfl,h1,h2⟩:=h
     have hv:=ih v h2
     rcases h1 with ⟨rfl,-⟩ | ⟨k,m,h3,h4,h5⟩
     · exact hv
     · rcases hv with ⟨rfl,-⟩ | ⟨j,k',g1,g2,g3⟩
       · exact .inr ⟨k,m,h3,h4,(rd_loop hI hQ (hQ.fi k h3)).2 (.inl (by simpa using h5))⟩
       · exact .inr ⟨k,k',h3,g2,(rd_loop hI hQ (hQ.fi k h3)).2 (.inr ⟨u,v,m,j,rfl,h5,h4,g1,g3⟩)⟩
def opt (A:Pt):Pt:=⟨A.fi,A.la,True⟩
theorem L_opt (w:List UInt8):L E H (opt A) w↔w=[]∨L E H A w:=by
 constructor
 · rintro (⟨rfl,-⟩ | h)
   · exact .inl rfl
   · exact .inr (.inr h)
 · rintro (rfl | ⟨rfl,-⟩ | h)
   · exact .inl ⟨rfl,trivial⟩
   · exact .inl ⟨rfl,trivial⟩
   · exact .inr h
def emp:Pt:=⟨fun _=>False,fun _=>False,True⟩
theorem L_emp (w:List UInt8):L E H emp w↔w=[]:=⟨fun h=>h.elim (·.1) fun ⟨_,_,h,_⟩=>h.elim,fun h=>.inl ⟨h,trivial⟩⟩
end Gk
end Go.Proofs.YtbpihhelojjedaaDoor
namespace Go.Proofs.YtbpihhelojjedaaDoor
open Go Go.RowKit
open Ab Sh
namespace Soo
section
variable {α:Type}
def gl3 (c:α→List Ab.T) (z:α) (ne:α→α→Bool) (v6:Int):Nat→Int→Int→List α→Option (List α)
 | 0,_,_,_=>none
 | m+1,v11,v12,v13=>
   cond (winB v13 v6) (cond (cm .lss v12 (ar .sub .i64 (ll (rw _ c v13)) v6))
    (cond (wrowB v13 v6 v12) ((at_ v13 (ar .add .i64 v6 v12)).bind fun r14=>
    cond (wrowB v13 v6 (ar .sub .i64 v12 1)) ((at_ v13 (ar .add .i64 v6 (ar .sub .i64 v12 1))).bind fun r15=>
    (cond (ne r14 r15)
    (cond (wrowB v13 v6 v12) ((at_ v13 (ar .add .i64 v6 v12)).bind fun r16=>
    (at_ v13 v11).bind fun r17=>
    (at_ v13 v11).bind fun r18=>
    put c v13 v11 r16 fun l19=>
    some (ar .add .i64 v11 1,l19)) none)
    (some (v11,v13)):Option (Int ×(List α))).bind fun j2=>
    (gl3 c z ne v6 m) j2.1 (ar .add .i64 v12 1) j2.2) none) none)
    (cond (winB v13 v11) ((clr c z v13 v11).bind fun l20=>
    (cut c l20 v11).bind fun l21=>
    some l21) none)) none
def gl2 (c:α→List Ab.T) (z:α) (ne eq:α→α→Bool) (N:Nat) (l5:List α):Nat→Int→Option (List α)
 | 0,_=>none
 | m+1,v6=>
   cond (cm .lss v6 (ll (rw _ c l5)))
    ((at_ l5 v6).bind fun r7=>
    (at_ l5 v6).bind fun r8=>
    (at_ l5 (ar .sub .i64 v6 1)).bind fun r9=>
    (at_ l5 (ar .sub .i64 v6 1)).bind fun r10=>
    cond (eq r8 r10)
    (cond (winB l5 v6) (gl3 c z ne v6 N v6 1 l5) none)
    ((gl2 c z ne eq N l5 m) (ar .add .i64 v6 1)))
    (some l5)
theorem at_nat (l:List α) (n:Nat):at_ l (n:Int)=l[n]?:=by unfold at_;rw [if_pos (by omega)];simp
theorem win_t {l:List α} {i:Nat} (h:i≤l.length) (h1:1≤l.length):winB l (i:Int)=true:=by
 unfold winB
 simp only [Bool.and_eq_true,decide_eq_true_eq,Bool.not_eq_true',List.isEmpty_eq_false_iff]
 exact ⟨fun e=>by rw [e] at h1;simp at h1,by omega,by omega⟩
theorem wrow_t {l:List α} {i j:Nat} (h:i+j<l.length):wrowB l (i:Int) (j:Int)=true:=by
 unfold wrowB
 simp only [Bool.and_eq_true,decide_eq_true_eq]
 exact ⟨by omega,by omega,by omega⟩
variable {c:α→List Ab.T} {z:α} {ne eq:α→α→Bool} {lt:α→α→Prop} (hne:∀a b,ne a b=true↔a≠b) (heq:∀a b,eq a b=true↔a=b) (tr:∀a b d,lt a b→lt b d→lt a d)
variable {l:List α} (hs:l.Pairwise fun a b=>a=b∨lt a b) (hlen:l.length≤1000000)
include hne tr hs hlen
theorem gl3_ok (v3:Nat) (h3:1≤v3):∀(m k k2:Nat) (cur:List α),v3+k2≤l.length→1≤k2→cur.length=l.length→k≤v3+k2-1→1≤k→(∀j,v3+k2-1≤j→cur[j]?=l[j]?)→(cur.take k).Pairwise lt→(∀x,x∈cur.take k↔x∈l.take (v3+k2))→
 l.length-v3-k2<m→∃r,gl3 c z ne v3 m k k2 cur=some r∧r.Pairwise lt∧(∀x,x∈r↔x∈l)∧r.length≤l.length:=by
 intro m
 induction m with
 | zero=>intro k k2 cur _ _ _ _ _ _ _ _ h;omega
 | succ m ih=>
   intro k k2 cur h1 h2 hc hk hk1 hj hp hm hmm
   rw [gl3]
   rw [win_t (l:=cur) (i:=v3) (by omega) (by omega)]
   rw [_root_.cond_true,ll_eq,ar_sub (by omega) (by omega),cm_lss]
   by_cases hlt:v3+k2<l.length
   · rw [decide_eq_true (by omega),_root_.cond_true]
     rw [wrow_t (by omega),_root_.cond_true,ar_add (by omega) (by omega)]
     have e1:((v3:Int)+(k2:Int))=((v3+k2:Nat):Int):=by omega
     have e2:((k2:Int)-1)=((k2-1:Nat):Int):=by omega
     have e3:((v3:Int)+((k2-1:Nat):Int))=((v3+k2-1:Nat):Int):=by omega
     have g1:cur[v3+k2]?=some l[v3+k2]:=by rw [hj _ (by omega)];exact List.getElem?_eq_getElem hlt
     have hlt':v3+k2-1<l.length:=by omega
     have g2:cur[v3+k2-1]?=some l[v3+k2-1]:=by rw [hj _ (by omega)];exact List.getElem?_eq_getElem hlt'
     rw [e1,at_nat,g1,Option.bind_some,ar_sub (by omega) (by omega),e2,wrow_t (by omega),_root_.cond_true,ar_add (by omega) (by omega),e3,at_nat,g2,Option.bind_some]
     have e4:((k2:Int)+1)=((k2+1:Nat):Int):=by omega
     have tk:l.take (v3+k2+1)=l.take (v3+k2)++[l[v3+k2]]:=List.take_succ_eq_append_getElem hlt
     by_cases e:l[v3+k2]=l[v3+k2-1]
     · rw [show ne l[v3+k2] l[v3+k2-1]=false from by rw [Bool.eq_false_iff];exact fun h=>(hne _ _).1 h e]
       rw [_root_.cond_false,Option.bind_some]
       dsimp only
       rw [ar_add (by omega) (by omega),e4]
       refine ih k (k2+1) cur (by omega) (by omega) hc (by omega) hk1 (fun j h=>hj j (by omega)) hp (fun x=>?_) (by omega)
       rw [hm x,show v3+(k2+1)=v3+k2+1 by omega,tk,List.mem_append,List.mem_singleton]
       refine ⟨.inl,fun h=>h.elim id fun h=>?_⟩
       rw [h,e]
       exact List.mem_iff_getElem?.2 ⟨v3+k2-1,by rw [List.getElem?_take,if_pos (by omega)];exact List.getElem?_eq_getElem hlt'⟩
     · rw [show ne l[v3+k2] l[v3+k2-1]=true from (hne _ _).2 e]
       have hkl:k<cur.length:=by omega
       rw [_root_.cond_true,_root_.cond_true,Option.bind_some,at_nat,List.getElem?_eq_getElem hkl,Option.bind_some,Option.bind_some]
       unfold Sh.put
       rw [Option.bind_some]
       dsimp only
       rw [ar_add (by omega) (by omega),ar_add (by omega) (by omega),e4,show ((k:Int)+1)=((k+1:Nat):Int) by omega,Int.toNat_natCast]
       have hlast:lt l[v3+k2-1] l[v3+k2]:=by
        rcases List.pairwise_iff_getElem.1 hs (v3+k2-1) (v3+k2) hlt' hlt (by omega) with h | h
        · exact absurd h.symm e
        · exact h
       have tk2:(cur.set k l[v3+k2]).take (k+1)=cur.take k++[l[v3+k2]]:=by
        rw [List.take_succ_eq_append_getElem (by simpa using hkl),List.take_set_of_le (Nat.le_refl _),List.getElem_set_self]
       refine ih (k+1) (k2+1) _ (by omega) (by omega) (by simpa using hc) (by omega) (by omega) (fun j h=>?_) ?_ (fun x=>?_) (by omega)
       · rw [List.getElem?_set_ne (by omega)];exact hj j (by omega)
       · rw [tk2]
         refine List.pairwise_append.2 ⟨hp,List.pairwise_singleton _ _,fun x hx y hy=>?_⟩
         rw [List.mem_singleton] at hy
         subst hy
         have hx':=(hm x).1 hx
         obtain ⟨j,hj1⟩:=List.mem_iff_getElem?.1 hx'
         rw [List.getElem?_take] at hj1
         split at hj1
         case isFalse=>cases hj1
         rename_i hjl
         obtain ⟨hjl2,rfl⟩:=List.getElem?_eq_some_iff.1 hj1
         by_cases hje:j=v3+k2-1
         · subst hje;exact hlast
         · rcases List.pairwise_iff_getElem.1 hs j (v3+k2-1) hjl2 hlt' (by omega) with h | h
           · rw [h];exact hlast
           · exact tr _ _ _ h hlast
       · rw [tk2,show v3+(k2+1)=v3+k2+1 by omega,tk,List.mem_append,List.mem_append,hm x]
   · have he:v3+k2=l.length:=by omega
     rw [decide_eq_false (by omega),_root_.cond_false,win_t (l:=cur) (i:=k) (by omega) (by omega),_root_.cond_true]
     unfold clr
     rw [if_pos (win_t (l:=cur) (i:=k) (by omega) (by omega)),Option.bind_some,ar_sub (by omega) (by omega),Int.toNat_natCast]
     have hl2:(cur.take k++List.replicate ((cur.length:Int)-(k:Int)).toNat z).length=cur.length:=by
      rw [List.length_append,List.length_take,List.length_replicate];omega
     unfold cut
     rw [if_pos (win_t (by omega) (by omega)),Option.bind_some,Int.toNat_natCast]
     have tk3:(cur.take k++List.replicate ((cur.length:Int)-(k:Int)).toNat z).take k=cur.take k:=by
      rw [List.take_append_of_le_length (by rw [List.length_take];omega),List.take_take,Nat.min_self]
     rw [tk3]
     refine ⟨_,rfl,hp,fun x=>?_,by rw [List.length_take];omega⟩
     rw [hm x,he,List.take_length]
include heq in
theorem gl2_ok {N:Nat} (hN:l.length<N):∀(m k:Nat),1≤k→k≤l.length→(l.take k).Pairwise lt→l.length-k<m→∃r,gl2 c z ne eq N l m k=some r∧r.Pairwise lt∧(∀x,x∈r↔x∈l)∧r.length≤l.length:=by
 intro m
 induction m with
 | zero=>intro k _ _ _ h;omega
 | succ m ih=>
   intro k h1 hk hp hm
   rw [gl2,ll_eq,cm_lss]
   by_cases hlt:k<l.length
   · have hlt':k-1<l.length:=by omega
     rw [decide_eq_true (by omega),_root_.cond_true,at_nat,List.getElem?_eq_getElem hlt,Option.bind_some,Option.bind_some,ar_sub (by omega) (by omega),show ((k:Int)-1)=((k-1:Nat):Int) by omega,at_nat,List.getElem?_eq_getElem hlt',Option.bind_some,Option.bind_some]
     have tk:l.take (k+1)=l.take k++[l[k]]:=List.take_succ_eq_append_getElem hlt
     by_cases e:l[k]=l[k-1]
     · rw [(heq _ _).2 e,_root_.cond_true,win_t (by omega) (by omega),_root_.cond_true]
       refine gl3_ok hne tr hs hlen k h1 N k 1 l (by omega) (by omega) rfl (by omega) h1 (fun j _=>rfl) hp (fun x=>?_) (by omega)
       rw [tk,List.mem_append,List.mem_singleton]
       refine ⟨.inl,fun h=>h.elim id fun h=>?_⟩
       rw [h,e]
       exact List.mem_iff_getElem?.2 ⟨k-1,by rw [List.getElem?_take,if_pos (by omega)];exact List.getElem?_eq_getElem hlt'⟩
     · rw [show eq l[k] l[k-1]=false from by rw [Bool.eq_false_iff];exact fun h=>e ((heq _ _).1 h)]
       rw [_root_.cond_false,ar_add (by omega) (by omega),show ((k:Int)+1)=((k+1:Nat):Int) by omega]
       refine ih (k+1) (by omega) (by omega) ?_ (by omega)
       have hlast:lt l[k-1] l[k]:=by
        rcases List.pairwise_iff_getElem.1 hs (k-1) k hlt' hlt (by omega) with h | h
        · exact absurd h.symm e
        · exact h
       rw [tk]
       refine List.pairwise_append.2 ⟨hp,List.pairwise_singleton _ _,fun x hx y hy=>?_⟩
       rw [List.mem_singleton] at hy
       subst hy
       obtain ⟨j,hj1⟩:=List.mem_iff_getElem?.1 hx
       rw [List.getElem?_take] at hj1
       split at hj1
       case isFalse=>cases hj1
       rename_i hjl
       obtain ⟨hjl2,rfl⟩:=List.getElem?_eq_some_iff.1 hj1
       by_cases hje:j=k-1
       · subst hje;exact hlast
       · rcases List.pairwise_iff_getElem.1 hs j (k-1) hjl2 hlt' (by omega) with h | h
         · rw [h];exact hlast
         · exact tr _ _ _ h hlast
   · have he:k=l.length:=by omega
     rw [decide_eq_false (by omega),_root_.cond_false]
     rw [he,List.take_length] at hp
     exact ⟨l,rfl,hp,fun x=>Iff.rfl,Nat.le_refl _⟩
end
end Soo
end Go.Proofs.YtbpihhelojjedaaDoor
