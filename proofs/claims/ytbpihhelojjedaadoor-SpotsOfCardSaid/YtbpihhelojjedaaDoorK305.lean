/- Texts that the proof leans on. -/
import Derived.ChangeKeysEq
import Derived.Laws.BytesString
import Derived.Laws.IdiomStrings
import Derived.Laws.StructEq
import Derived.Test.YtbpihhelojjedaaDoorK304
set_option linter.unusedVariables false
set_option linter.unusedSimpArgs false
set_option maxRecDepth 100000
set_option maxHeartbeats 4000000
namespace Go.Proofs.YtbpihhelojjedaaDoor
open Go Go.RowKit
namespace Ab
section
variable {P:Program} {A:Run} {L:TypeId→Option Lt} {cx:Cx} {w:World} {e:Operand→Value} {o:Oper} {ρ:Operand→V} {hp:List (Option Row)} {aid:Nat} {k:V→Option Row→Prop}
def plainPair:Value→Value→Bool
 | .int _ _,.int _ _=>true
 | .string _,.string _=>true
 | _,_=>false
theorem run_eqGuard_flat (op:BinOp) (t:TypeId) (x y:Operand) {a b:Value} (h:plainPair a b=true):(eqGuard op t x y a b).run P w=.ok () w:=by
 unfold plainPair at h
 split at h
 · cases op<;>simp [eqGuard,go_sem]
 · cases op<;>simp [eqGuard,go_sem]
 · cases h
theorem binV_run {op:BinOp} {x y v:V} {a b:Value} {c:Prop} (t:TypeId) (ha:VRep cx w x a) (hb:VRep cx w y b) (h:binV (dom P A) op x y=some (c,v)) (hc:c):
 plainPair a b=true∧∃u,(binOp op t a b).run P w=.ok u w∧VRep cx w v u:=by
 unfold binV at h
 split at h
 · rename_i k1 n1 k2 n2
   obtain rfl:=inv_int ha
   obtain rfl:=inv_int hb
   refine ⟨rfl,?_⟩
   cases op<;>simp only [dom] at h
   case add | sub | mul=>
    split at h
    · rename_i hk;subst hk
      cases h
      exact ⟨_,by simp [binOp,Op.intArith,arF,go_sem],rep_flat rfl⟩
    · cases h
   case and | or | xor | andNot=>
    split at h
    · rename_i hk;subst hk
      cases h
      exact ⟨_,by simp [binOp,Op.intBits,arF,go_sem],rep_flat rfl⟩
    · cases h
   case quo | rem=>
    split at h
    · rename_i hk;subst hk
      cases h
      have hne:n2≠0:=hc
      exact ⟨_,by simp [binOp,Op.intDiv,arF,hne,go_sem],rep_flat rfl⟩
    · cases h
   case shl | shr=>
    cases h
    have hge:0≤n2:=hc
    have hne:¬ n2<0:=by omega
    exact ⟨_,by simp [binOp,Op.shift,arF,hne,go_sem],rep_flat rfl⟩
   case eql | neq | lss | leq | gtr | geq=>
    split at h
    · rename_i hk;subst hk
      cases h
      exact ⟨_,by simp [binOp,Op.intCmp,cmpF,go_sem],rep_flat rfl⟩
    · cases h
 · rename_i s1 s2
   obtain rfl:=inv_flat ha
   obtain rfl:=inv_flat hb
   refine ⟨rfl,?_⟩
   cases op<;>simp only [dom] at h
   case add=>
    cases h
    have hle:¬(((s1.size+s2.size:Nat):Int)>IntKind.i64.max):=by
     have h1:s1.size+s2.size≤maxLen:=hc
     have h2:IntKind.i64.max=9223372036854775807:=rfl
     unfold maxLen at h1
     omega
    exact ⟨_,by simp only [binOp,Op.stringOp,if_neg hle,Sem.run_pure],rep_flat rfl⟩
   case eql | neq | lss | leq | gtr | geq=>
    cases h
    exact ⟨_,by simp only [binOp,Op.stringOp,scmpF,Sem.run_pure],rep_flat rfl⟩
   all_goals cases h
 · cases h
theorem part_cell {t:TypeId} {d:TypeDesc} {cs:Array Value} {i:Nat} {v:Value} (hd:P.underlying t=some d) (ha:aggD d=false) (h:cs[i]?=some v):(part t cs i).run P w=.ok v w:=by
 simp only [part,Sem.run_bind,run_isAgg hd,Result.andThen_ok,ha,Bool.false_eq_true,if_false,h,Sem.run_pure]
theorem eqOne_run {f:Field} {i n:Nat} {c:Ck} {x y:V} {u v:Value} {b:Bool} (hok:ckOk P f i c) (h:eqOne (dom P A) c x y=some b) (hu:VRep cx w x u) (hv:VRep cx w y v):
 ∃d,P.underlying f.type=some d∧aggD d=false∧(Op.equalIn (n+1) f.type u v).run P w=.ok b w:=by
 obtain ⟨-,-,hty⟩:=hok
 unfold eqOne at h
 split at h
 · split at h
   case isFalse=>cases h
   rename_i e1
   split at h
   case isFalse=>cases h
   rename_i e2
   cases h
   subst e1
   subst e2
   have e3:=inv_int hu
   have e4:=inv_int hv
   subst e3
   subst e4
   exact ⟨_,hty,rfl,run_equalIn_int w n f.type _ _ _ _ hty⟩
 · cases h
   have e3:=inv_flat hu
   have e4:=inv_flat hv
   subst e3
   subst e4
   exact ⟨_,hty,rfl,run_equalIn_string w n f.type _ _ hty⟩
 · cases h
   have e3:=inv_bool hu
   have e4:=inv_bool hv
   subst e3
   subst e4
   exact ⟨_,hty,rfl,run_equalIn_bool' w n f.type _ _ hty⟩
 · cases h
theorem run_eqFields {n:Nat} {cx1 cy1:Array Value}:∀{fs:List Field} {ks:List Ck} {xs ys:List V} {l:List Bool} {k0:Nat},fs.length=ks.length→(∀(i:Nat) f c,fs[i]?=some f→ks[i]?=some c→ckOk P f (k0+i) c)→eqCells (dom P A) ks xs ys=some l→
 (∀(i:Nat) (c:V) (u:Value),xs[i]?=some c→cx1[k0+i]?=some u→VRep cx w c u)→(∀(i:Nat) (c:V) (u:Value),ys[i]?=some c→cy1[k0+i]?=some u→VRep cx w c u)→k0+xs.length≤cx1.size→k0+ys.length≤cy1.size→
 (Op.eqFields (n+1) cx1 cy1 fs).run P w=.ok (l.all id) w:=by
 intro fs
 induction fs with
 | nil=>
   intro ks xs ys l k0 hl _ h _ _ _ _
   obtain rfl:ks=[]:=List.eq_nil_of_length_eq_zero (by simpa using hl.symm)
   cases xs<;>cases ys<;>simp [eqCells] at h
   subst h
   simp [Op.eqFields]
 | cons f fs ih=>
   intro ks xs ys l k0 hl hok h hx hy hxl hyl
   cases ks with
   | nil=>simp at hl
   | cons c ks=>
     have hck:=hok 0 f c rfl rfl
     cases xs with
     | nil=>simp [eqCells] at h
     | cons x xs=>
       cases ys with
       | nil=>simp [eqCells] at h
       | cons y ys=>
         simp only [eqCells] at h
         split at h
         case h_2=>cases h
         rename_i b l' hb hl'
         cases h
         simp only [List.length_cons] at hxl hyl
         have h1:k0<cx1.size:=by omega
         have h2:k0<cy1.size:=by omega
         obtain ⟨d,hd,ha,hr⟩:=eqOne_run (n:=n) hck hb (hx 0 x _ rfl (Array.getElem?_eq_getElem h1)) (hy 0 y _ rfl (Array.getElem?_eq_getElem h2))
         have hrest:=ih (k0:=k0+1) (by simpa using hl) (fun i f c q1 q2=>by have:=hok (i+1) f c (by simpa using q1) (by simpa using q2);rwa [show k0+(i+1)=k0+1+i by omega] at this) hl'
          (fun i c u q1 q2=>hx (i+1) c u (by simpa using q1) (by rwa [show k0+(i+1)=k0+1+i by omega])) (fun i c u q1 q2=>hy (i+1) c u (by simpa using q1) (by rwa [show k0+(i+1)=k0+1+i by omega])) (by omega) (by omega)
         have hoff:f.offset=k0:=by have:=hck.2.1;rwa [Nat.add_zero] at this
         simp only [Op.eqFields]
         rw [if_pos hck.1]
         simp only [Sem.run_bind,hoff,part_cell (w:=w) hd ha (Array.getElem?_eq_getElem h1),part_cell (w:=w) hd ha (Array.getElem?_eq_getElem h2),Nat.add_zero,Result.andThen_ok,hr]
         cases b
         · simp
         · simp [hrest]
theorem run_eqArr {n:Nat} {e:TypeId} {k:IntKind} {cx1 cy1:Array Value} (he:P.underlying e=some (.int k)):∀{ks:List Ck} {xs ys:List V} {l:List Bool} {k0:Nat},(∀c∈ks,c=.i k)→eqCells (dom P A) ks xs ys=some l→
 (∀(i:Nat) (c:V) (u:Value),xs[i]?=some c→cx1[k0+i]?=some u→VRep cx w c u)→(∀(i:Nat) (c:V) (u:Value),ys[i]?=some c→cy1[k0+i]?=some u→VRep cx w c u)→k0+xs.length≤cx1.size→k0+ys.length≤cy1.size→
 (Op.eqItems (n+1) e 1 cx1 cy1 (List.range' k0 ks.length)).run P w=.ok (l.all id) w:=by
 intro ks
 induction ks with
 | nil=>
   intro xs ys l k0 _ h _ _ _ _
   cases xs<;>cases ys<;>simp [eqCells] at h
   subst h
   simp [Op.eqItems]
 | cons c ks ih=>
   intro xs ys l k0 hks h hx hy hxl hyl
   obtain rfl:=hks c (List.mem_cons_self ..)
   cases xs with
   | nil=>simp [eqCells] at h
   | cons x xs=>
     cases ys with
     | nil=>simp [eqCells] at h
     | cons y ys=>
       simp only [eqCells] at h
       split at h
       case h_2=>cases h
       rename_i b l' hb hl'
       cases h
       simp only [List.length_cons] at hxl hyl
       have h1:k0<cx1.size:=by omega
       have h2:k0<cy1.size:=by omega
       have hr:(Op.equalIn (n+1) e cx1[k0] cy1[k0]).run P w=.ok b w:=by
        have hu:=hx 0 x _ rfl (Array.getElem?_eq_getElem h1)
        have hv:=hy 0 y _ rfl (Array.getElem?_eq_getElem h2)
        try simp only [Nat.add_zero] at hu hv
        generalize cx1[k0]=u at hu ⊢
        generalize cy1[k0]=v at hv ⊢
        unfold eqOne at hb
        split at hb
        · rename_i c1 k1 kx x1 ky y1 ec
          split at hb
          case isFalse=>cases hb
          rename_i e1
          split at hb
          case isFalse=>cases hb
          rename_i e2
          cases hb
          injection ec with ec
          subst ec e1 e2
          have e3:=inv_int hu
          have e4:=inv_int hv
          subst e3 e4
          exact run_equalIn_int w n e _ _ _ _ he
        · rename_i ec;cases ec
        · rename_i ec;cases ec
        · cases hb
       have hrest:=ih (k0:=k0+1) (fun c hc=>hks c (List.mem_cons_of_mem _ hc)) hl'
        (fun i c u q1 q2=>hx (i+1) c u (by simpa using q1) (by rwa [show k0+(i+1)=k0+1+i by omega])) (fun i c u q1 q2=>hy (i+1) c u (by simpa using q1) (by rwa [show k0+(i+1)=k0+1+i by omega])) (by omega) (by omega)
       rw [List.length_cons,List.range'_succ]
       simp only [Op.eqItems,Nat.mul_one,Sem.run_bind,part_cell (w:=w) he rfl (Array.getElem?_eq_getElem h1),part_cell (w:=w) he rfl (Array.getElem?_eq_getElem h2),Result.andThen_ok,hr]
       cases b
       · simp
       · simp only [Bool.not_true,Bool.false_eq_true,if_false]
         rw [hrest];simp
theorem eqV_run {op:BinOp} {t:TypeId} {x y:Operand} {xv yv v:V} {a b:Value} (hL:LayOk P L) (ha:VRep cx w xv a) (hb:VRep cx w yv b) (h:eqV (dom P A) L op t xv yv=some v):
 (eqGuard op t x y a b).run P w=.ok () w∧∃u,(binOp op t a b).run P w=.ok u w∧VRep cx w v u:=by
 unfold eqV at h
 split at h
 · rename_i xs ys
   split at h
   case h_2=>cases h
   rename_i lt hlt
   split at h
   case h_2=>cases h
   rename_i ks hks
   split at h
   case h_2=>cases h
   rename_i l hl
   obtain ⟨_,_,_,_,_,_,_,_,_,_,_,_,heq,_⟩:=hL t lt hlt
   obtain ⟨h2,heq⟩:=heq ks hks
   cases ha with
   | agg cs va hna hca hra=>
     cases hb with
     | agg cs' vb hnb hcb hrb=>
       have hrun:(Op.equal t (.agg va) (.agg vb)).run P w=.ok (l.all id) w:=by
        unfold Op.equal Op.maxDepth
        rcases heq with ⟨h1,fs,hfs,hfl,hok⟩ | ⟨e,k,i,hu,he,hi,hc,hks2⟩
        case inr=>
         rw [run_equalIn_array w 9999 va vb hu hi,hc,List.range_eq_range']
         exact run_eqArr (k0:=0) he hks2 hl (fun i c u q1 q2=>hra i c u q1 (by rwa [Nat.zero_add] at q2)) (fun i c u q1 q2=>hrb i c u q1 (by rwa [Nat.zero_add] at q2)) (by omega) (by omega)
        have hfo:P.fieldsOf t=fs:=by unfold Program.fieldsOf;rw [hfs]
        rw [run_equalIn_struct w 9999 t va vb (by rw [hfo];exact hfs) h1,hfo]
        exact run_eqFields (k0:=0) (by simpa using hfl) (fun i f c q1 q2=>by rw [Nat.zero_add];exact hok i f c (by simpa using q1) q2) hl (fun i c u q1 q2=>hra i c u q1 (by rwa [Nat.zero_add] at q2)) (fun i c u q1 q2=>hrb i c u q1 (by rwa [Nat.zero_add] at q2)) (by omega) (by omega)
       have hguard:(eqGuard op t x y (.agg va) (.agg vb)).run P w=.ok () w:=by
        cases op<;>simp [eqGuard,go_sem,h2]
       refine ⟨hguard,?_⟩
       split at h
       · cases h
         exact ⟨_,by simp [binOp,hrun,show (dom P A).conj l=l.all id from rfl],rep_flat rfl⟩
       · cases h
         exact ⟨_,by simp [binOp,hrun,show (dom P A).conj l=l.all id from rfl],rep_flat rfl⟩
       · cases h
 · rename_i p q
   split at h
   case h_2=>cases h
   rename_i lt hlt
   obtain ⟨_,d,_,_,hd,_,_,_,_,_,_,⟨_,_,_,_,_,_,_,_,h5⟩,_⟩:=hL t lt hlt
   split at h
   case h_2=>cases h
   rename_i hk
   have hd5:=h5 hk
   subst hd5
   have e3:=inv_bool ha
   have e4:=inv_bool hb
   subst e3
   subst e4
   have hrun:(Op.equal t (.bool p) (.bool q)).run P w=.ok (p==q) w:=by
    unfold Op.equal Op.maxDepth
    exact run_equalIn_bool' w 9999 t p q hd
   refine ⟨by cases op<;>simp [eqGuard,go_sem],?_⟩
   split at h
   · cases h
     exact ⟨.bool (p==q),by simp [binOp,hrun],by simp only [dom,List.all_cons,List.all_nil,Bool.and_true,id];exact rep_flat rfl⟩
   · cases h
     exact ⟨.bool (!(p==q)),by simp [binOp,hrun],by simp only [dom,List.all_cons,List.all_nil,Bool.and_true,id];exact rep_flat rfl⟩
   · cases h
 · cases h
theorem nil_run {t:TypeId} {x y:Operand} {xv yv:V} {a b:Value} {rows:Rows} (hL:LayOk P L) (hrow:∀id r,hp.getD id none=some r→RowRep cx w id r) (ha:VRep cx w xv a) (hb:VRep cx w yv b) (h:nilRows L hp t xv yv=some rows):
 ∃(n:Bool) (ad:Option Addr) (m c:Nat),a=.slice ad m c∧b=.slice none 0 0∧(n=true→rows=[])∧∀op,(eqGuard op t x y a b).run P w=.ok () w∧(Op.equal t a b).run P w=.ok n w:=by
 unfold nilRows at h
 split at h
 case h_2=>cases h
 have e3:=inv_flat hb
 subst e3
 split at h
 case h_2=>cases h
 rename_i lt hlt
 obtain ⟨_,d,_,_,hd,_,_,_,_,_,_,⟨_,_,k3,_⟩,_⟩:=hL t lt hlt
 split at h
 case h_2=>cases h
 rename_i hk
 have hd3:=k3 hk
 subst hd3
 have key:∀(a:Value) (rows:Rows) (ad:Option Addr) (n c:Nat),(ad=none→rows=[])→a=.slice ad n c→∃(n:Bool) (ad:Option Addr) (m c:Nat),a=.slice ad m c∧Value.slice none 0 0=.slice none 0 0∧(n=true→rows=[])∧∀op,(eqGuard op t x y a (.slice none 0 0)).run P w=.ok () w∧(Op.equal t a (.slice none 0 0)).run P w=.ok n w:=fun a rows ad n c h0 e=>by
  subst e
  refine ⟨ad.isNone,ad,n,c,rfl,rfl,fun e=>h0 (Option.isNone_iff_eq_none.1 e),fun op=>⟨?_,?_⟩⟩
  · cases op<;>simp [eqGuard,go_sem]
  · have g:∀k,(Op.equalIn (k+1) t (.slice ad n c) (.slice none 0 0)).run P w=.ok ad.isNone w:=fun k=>by
     unfold Op.equalIn
     rw [Sem.run_bind,run_underlying hd]
     cases ad<;>rfl
    exact g 9999
 split at h
 · rename_i rows0
   cases h
   have hs:∃ad m c,a=.slice ad m c∧(ad=none→rows=[]):=by
    cases ha with
    | t x v ht=>
      cases ht with
      | slc rows' ad b o es cap u hcap hnil ha' hes hc hr=>
        refine ⟨ad,_,_,rfl,fun e=>Classical.byContradiction fun g=>?_⟩
        have q:=(ha' g).1
        rw [e] at q
        cases q
   obtain ⟨ad,m,c,e1,e2⟩:=hs
   exact key _ _ ad m c e2 e1
 · rename_i id
   split at h
   case h_2=>cases h
   rename_i hr
   cases h
   have hR:=hrow _ _ hr
   have hs:∃ad m c,a=.slice ad m c∧(ad=none→rows=[]):=by
    cases ha with
    | lstN id a0 z0 hat hz0=>
      refine ⟨a0,0,0,rfl,fun _=>?_⟩
      cases hR with
      | listN ty es z1 hat' hz1=>rfl
      | list ty es rows b cap vs hat'=>rw [hat] at hat';cases hat'
    | lst id b cap es len hat=>exact ⟨_,_,_,rfl,fun e=>by cases e⟩
   obtain ⟨ad,m,c,e1,e2⟩:=hs
   exact key _ _ ad m c e2 e1
 · cases h
theorem ev_binOp {op:BinOp} {t u:TypeId} {x y:Operand} (hL:LayOk P L) (hop:o.op=.binOp op t x y u) (he:Eyes cx w ρ e) (h:evC (dom P A) L o ρ hp aid k):Does P cx w e o aid k:=by
 simp only [evC,hop] at h
 split at h
 · rename_i c v hv
   obtain ⟨hg,u',h1,h2⟩:=binV_run t (he x) (he y) hv h.1
   exact Does.val h.2 (by simp only [execOp,hop,Sem.run_bind,run_eqGuard_flat op t x y hg,Result.andThen_ok,h1,Sem.run_pure]) h2
 · split at h
   · rename_i v hv
     obtain ⟨hg,u',h1,h2⟩:=eqV_run (x:=x) (y:=y) hL (he x) (he y) hv
     exact Does.val h (by simp only [execOp,hop,Sem.run_bind,hg,Result.andThen_ok,h1,Sem.run_pure]) h2
   · exact h.elim
theorem ev_unOp {op:UnOp} {t:TypeId} {x:Operand} (hop:o.op=.unOp op t x) (he:Eyes cx w ρ e) (h:evC (dom P A) L o ρ hp aid k):Does P cx w e o aid k:=by
 simp only [evC,hop] at h
 have hx:=he x
 split at h
 · rename_i b hid
   rw [hid] at hx
   have hy:=inv_bool hx
   exact Does.val h (by simp [execOp,hop,hy,Op.unary,go_sem]) (rep_flat rfl)
 · rename_i i n hid
   rw [hid] at hx
   have hy:=inv_int hx
   exact Does.val h (by simp [execOp,hop,hy,Op.unary,Op.intArith,dom,arF,go_sem]) (rep_flat rfl)
 · exact h.elim
theorem trep_flat {G:Nat→Prop} {v u:Value} (h:TRep G w (.flat v) u):u=v:=by cases h;rfl
def byteOf (r:List T):UInt8:=match r with | [.flat (.int .u8 n)]=>UInt8.ofNat n.toNat | _=>0
theorem bytes_at {y:V} {v:Value} {rows:Rows} (hrow:∀id r,hp.getD id none=some r→RowRep cx w id r) (hy:VRep cx w y v) (h:rowsAt hp y=some rows) (hb:(dom P A).bok rows):
 (rows=[]∧v=.slice none 0 0)∨∃ad c,v=.slice (some ad) rows.length c∧∀(j:Nat) (hj:j<rows.length),w.cell? (ad.add j)=some (.int .u8 ((byteOf rows[j]).toNat:Int)):=by
 have one:∀(j:Nat) (hj:j<rows.length),rows[j]=[.flat (.int .u8 ((byteOf rows[j]).toNat:Int))]:=fun j hj=>by
  obtain ⟨n,h0,h1,e⟩:=hb _ (List.getElem_mem hj)
  rw [e]
  simp only [byteOf]
  congr 3
  rw [UInt8.toNat_ofNat',Nat.mod_eq_of_lt (by omega)]
  omega
 have first_:∀(j:Nat) (hj:j<rows.length),(rows[j]?).bind (fun r=>r[0]?)=some (T.flat (.int .u8 ((byteOf rows[j]).toNat:Int))):=fun j hj=>by
  rw [List.getElem?_eq_getElem hj,Option.bind_some]
  exact (congrArg (fun r:List T=>r[0]?) (one j hj)).trans rfl
 have len:∀{es:Nat},(∀row∈rows,row.length=es)→∀(j:Nat),j<rows.length→es=1:=fun he j hj=>by rw [←he _ (List.getElem_mem hj),one j hj];rfl
 unfold rowsAt at h
 split at h
 · cases h
   cases hy with
   | t x v hT=>
     cases hT with
     | slc rows a b oo es cap u hcap hnil ha hes hc hr=>
       cases a with
       | none=>
         by_cases hne:rows=[]
         · subst hne
           exact .inl ⟨rfl,by have:=hnil rfl;subst this;rfl⟩
         · have:=(ha hne).1;cases this
       | some ad=>
         refine .inr ⟨ad,cap,rfl,fun j hj=>?_⟩
         have hne:rows≠[]:=by rintro rfl;simp at hj
         have e:=(ha hne).1
         cases e
         have ht:(rows[j]?).bind (fun r=>r[0]?)=some (.flat (.int .u8 ((byteOf rows[j]).toNat:Int))):=first_ j hj
         have h1:=hc j 0 _ ht
         have h2:=hr j 0 _ ht
         rw [len hes j hj,trep_flat h2] at h1
         rw [add_none,←h1]
         congr 2
         omega
 · cases h
   have:=inv_flat hy
   subst this
   exact .inl ⟨rfl,rfl⟩
 · rename_i id
   split at h
   · rename_i ty es rows' hr
     cases h
     have hR:=hrow id _ hr
     cases hR with
     | listN ty es z1 hat hz1=>
       cases hy with
       | lst id b cap es len h=>rw [hat] at h;cases h
       | lstN id a0 z0 h hz0=>cases a0 with
         | none=>exact .inl ⟨rfl,rfl⟩
         | some ad=>exact .inr ⟨ad,0,rfl,fun j hj=>absurd hj (Nat.not_lt_zero j)⟩
     | list ty es rows b cap vs hat hbl hn hcap hmax hsz hes hr=>
       cases hy with
       | lstN id a0 z0 h hz0=>rw [hat] at h;cases h
       | lst id b' cap' es' len' h=>
         rw [hat] at h
         cases h
         refine .inr ⟨_,_,rfl,fun j hj=>?_⟩
         have ht:(rows[j]?).bind (fun r=>r[0]?)=some (.flat (.int .u8 ((byteOf rows[j]).toNat:Int))):=first_ j hj
         obtain ⟨u,h1,h2⟩:=hr j 0 _ ht
         rw [len hes j hj,trep_flat h2] at h1
         rw [add_none,cell_of_block hbl,Nat.zero_add,←h1]
         congr 1
         omega
   · cases h
 · cases h
theorem ev_convert {s d:TypeId} {x:Operand} (hL:LayOk P L) (hop:o.op=.convert s d x) (he:Eyes cx w ρ e) (hrow:∀id r,hp.getD id none=some r→RowRep cx w id r) (h:evC (dom P A) L o ρ hp aid k):Does P cx w e o aid k:=by
 simp only [evC,hop] at h
 have hx:=he x
 split at h
 case h_2=>exact h.elim
 rename_i ls ld hs hd
 obtain ⟨_,ds,_,_,hus,_,_,_,_,_,_,⟨_,_,hs3,hs4,_,hsi,_⟩,_⟩:=hL s ls hs
 obtain ⟨_,dd,_,_,hud,_,_,_,_,_,_,⟨_,_,_,hd4,_,hdi,_⟩,_⟩:=hL d ld hd
 split at h
 · rename_i i n hid
   rw [hid] at hx
   have hy:=inv_int hx
   split at h
   · rename_i i1 i2 h1 h2
     have e1:=hsi _ h1
     have e2:=hdi _ h2
     subst e1
     subst e2
     exact Does.val h (by simp only [execOp,hop,hy,convert,Sem.run_bind,run_underlying hus,run_underlying hud,Result.andThen_ok,Conv.intToInt,Sem.run_pure,dom]) (rep_flat rfl)
   · exact h.elim
 · rename_i str hid
   rw [hid] at hx
   have hy:=inv_flat hx
   split at h
   case isFalse=>exact h.elim
   rename_i hk1
   split at h
   case isFalse=>exact h.elim
   rename_i hk2
   have e1:=hs4 hk1
   have e2:=hd4 hk2
   subst e1
   subst e2
   exact Does.val h (by simp only [execOp,hop,hy,convert,Sem.run_bind,run_underlying hus,run_underlying hud,Result.andThen_ok,Sem.run_pure]) (rep_flat rfl)
 · rename_i y hyi hys
   split at h
   case isFalse=>exact h.elim
   rename_i hk1
   split at h
   case isFalse=>exact h.elim
   rename_i hk2
   obtain rfl:=hs3 hk1
   obtain rfl:=hd4 hk2
   split at h
   case h_2=>exact h.elim
   rename_i le hle
   obtain ⟨_,de,_,_,hde,_,_,_,_,_,_,⟨_,_,_,_,_,hei,_⟩,_⟩:=hL ls.elem le hle
   split at h
   case h_2=>exact h.elim
   rename_i hik
   obtain rfl:=hei _ hik
   split at h
   case h_2=>exact h.elim
   rename_i rows hrows
   obtain ⟨hb,h⟩:=h
   refine Does.val h ?_ (rep_flat rfl)
   rcases bytes_at hrow hx hrows hb with ⟨rfl,e1⟩ | ⟨ad,c,e1,e2⟩
   · simp only [execOp,hop,e1,Sem.run_bind,run_convert_bytes_string w s d ls.elem none 0 0 hus hde hud,Conv.bytesToString,Sem.run_pure,Result.andThen_ok]
     rfl
   · have:=run_convert_bytes_back (P:=P) w s d ls.elem ad c (rows.map byteOf) hus hde hud (fun j hj=>by
      have hj':j<rows.length:=by simpa using hj
      rw [e2 j hj']
      simp)
     rw [List.length_map] at this
     simp only [execOp,hop,e1,Sem.run_bind,this,Sem.run_pure,Result.andThen_ok]
     rfl
theorem run_indexAt {t el:TypeId} {a:Addr} {len cap:Nat} {i:IntKind} {n:Int} {ei:TypeInfo} (h:P.underlying t=some (.slice el)) (he:P.info? el=some ei) (h0:0≤n) (h1:n<len):
 (Instr.indexAt t (.slice (some a) len cap) (.int i n)).run P w=.ok (.pointer (some (a.add (n.toNat*ei.size)))) w:=by
 simp only [Instr.indexAt,asIntOf,Sem.run_bind,Sem.run_pure,Result.andThen_ok,run_underlying h]
 rw [if_pos ⟨h0,h1⟩]
 simp only [Sem.run_bind,run_sizeOf he,Result.andThen_ok,Sem.run_pure]
theorem run_indexArr {t el n:Nat} {b oo m:Nat} {i:IntKind} {ei:TypeInfo} (h:P.underlying t=some (.array n el)) (he:P.info? el=some ei) (h1:m<n):
 (Instr.indexAt t (.pointer (some ⟨b,oo,none⟩)) (.int i (.ofNat m))).run P w=.ok (.pointer (some ⟨b,oo+m*ei.size,none⟩)) w:=by
 simp only [Instr.indexAt,asIntOf,Sem.run_bind,Sem.run_pure,Result.andThen_ok,run_underlying h,Instr.sureAddr]
 rw [if_pos ⟨Int.natCast_nonneg m,Int.ofNat_lt.2 h1⟩]
 simp only [Sem.run_bind,run_sizeOf he,Result.andThen_ok,Sem.run_pure,add_none,Int.ofNat_eq_natCast,Int.toNat_natCast]
theorem ev_indexArr {t:TypeId} {x i:Operand} {lt:Lt} (hL:LayOk P L) (hT:Tab cx.G w) (ht:L t=some lt) (hop:o.op=.indexAddr t x i) (he:Eyes cx w ρ e)
 (h :if lt.kind=2 then
  match L lt.elem with
  | some le=>
    match ρ x,ρ i with
    | .ptr id off,.t (.flat (.int _ (.ofNat m)))=>if m<lt.len then (if 0<le.size then k (.ptr id (off+m*le.size)) none else False) else False
    | .ipt cs off,.t (.flat (.int _ (.ofNat m)))=>if m<lt.len then (if 0<le.size then k (.ipt cs (off+m*le.size)) none else False) else False
    | .t (.flat (.pointer (some ⟨g,0,none⟩))),.t (.flat (.int _ n))=>if le.size=1 then (dom P A).glb g lt.len fun rows=>(dom P A).row rows n fun cs=>k (.ipt cs 0) none else False
    | _,_=>False
  | none=>False
  else False):Does P cx w e o aid k:=by
 split at h
 case isFalse=>exact h.elim
 rename_i hk
 obtain ⟨_,d,_,_,hd,_,_,_,_,_,_,⟨_,hk2,_⟩,_⟩:=hL t lt ht
 obtain rfl:=hk2 hk
 split at h
 case h_2=>exact h.elim
 rename_i le hle
 obtain ⟨ei,_,_,hei,_,hesz,_⟩:=hL lt.elem le hle
 have hx:=he x
 have hi:=he i
 split at h
 · rename_i id off kk m hxv hiv
   rw [hxv] at hx
   rw [hiv] at hi
   have hn:=inv_int hi
   split at h
   case isFalse=>exact h.elim
   rename_i hm
   split at h
   case isFalse=>exact h.elim
   generalize hy:e x=y at hx
   cases hx with
   | ptr id off b cap es len h'=>
     refine Does.val h ?_ (.ptr _ _ _ _ _ _ h')
     simp only [execOp,hop,hy,hn,Sem.run_bind,run_indexArr hd hei hm,Result.andThen_ok,Sem.run_pure,hesz]
 · rename_i cs off kk m hxv hiv
   rw [hxv] at hx
   rw [hiv] at hi
   have hn:=inv_int hi
   split at h
   case isFalse=>exact h.elim
   rename_i hm
   split at h
   case isFalse=>exact h.elim
   generalize hy:e x=y at hx
   cases hx with
   | ipt cells off b o' u hG hc hr=>
     refine Does.val h ?_ (.ipt _ _ _ _ u hG hc hr)
     simp only [execOp,hop,hy,hn,Sem.run_bind,run_indexArr hd hei hm,Result.andThen_ok,Sem.run_pure,hesz,Nat.add_assoc]
 · rename_i g kk n hxv hiv
   rw [hxv] at hx
   rw [hiv] at hi
   have hn:=inv_int hi
   have hg:=inv_flat hx
   split at h
   case isFalse=>exact h.elim
   rename_i hsz
   obtain ⟨cells,hm,hlen,hone,cs,h0,hrow',h⟩:=h
   rw [List.getElem?_map] at hrow'
   obtain ⟨v,hv,rfl⟩:=Option.map_eq_some_iff.1 hrow'
   have hlt:=(List.getElem?_eq_some_iff.1 hv).1
   obtain ⟨hG,hcell⟩:=hT.1 _ hm
   obtain ⟨m,rfl⟩:=Int.eq_ofNat_of_zero_le h0
   simp only [Int.toNat_natCast] at hv hlt
   have hm':m<lt.len:=by omega
   refine Does.val (u:=.pointer (some ⟨g,m+0,none⟩)) h ?_ (.ipt _ 0 g m (fun _=>v) hG (fun j t' ht'=>?_) (fun j t' ht'=>?_))
   · have hr:=run_indexArr (P:=P) (w:=w) (b:=g) (oo:=0) (i:=kk) hd hei hm'
     simp only [Int.ofNat_eq_natCast] at hr
     simp only [execOp,hop,hg,hn,Sem.run_bind,hr,Result.andThen_ok,Sem.run_pure,hesz,hsz,Nat.mul_one,Nat.zero_add,Nat.add_zero]
   · cases j with
     | zero=>exact hcell m v hv
     | succ j=>simp at ht'
   · cases j with
     | zero=>
       simp at ht'
       subst ht'
       exact .flat _ (List.all_eq_true.1 hone _ (List.mem_of_getElem? hv))
     | succ j=>simp at ht'
 · exact h.elim
theorem ev_indexAddr {t:TypeId} {x i:Operand} (hL:LayOk P L) (hT:Tab cx.G w) (hop:o.op=.indexAddr t x i) (he:Eyes cx w ρ e) (hrow:∀id r,hp.getD id none=some r→RowRep cx w id r) (h:evC (dom P A) L o ρ hp aid k):Does P cx w e o aid k:=by
 simp only [evC,hop] at h
 split at h
 case h_2=>exact h.elim
 rename_i lt ht
 split at h
 case isFalse=>exact ev_indexArr hL hT ht hop he h
 rename_i hk
 obtain ⟨_,d,_,_,hd,_,_,_,_,_,_,⟨_,_,hk3,_⟩,_⟩:=hL t lt ht
 obtain rfl:=hk3 hk
 split at h
 case h_2=>exact h.elim
 rename_i le hle
 obtain ⟨ei,_,_,hei,_,hesz,_⟩:=hL lt.elem le hle
 have hx:=he x
 have hi:=he i
 split at h
 · rename_i rows kk n hxv hiv
   rw [hxv] at hx
   rw [hiv] at hi
   have hn:=inv_int hi
   obtain ⟨cs,h0,hrow',h⟩:=h
   split at h
   case isFalse=>exact h.elim
   rename_i hlen
   have hlt:=(List.getElem?_eq_some_iff.1 hrow').1
   generalize hy:e x=y at hx
   cases hx with
   | t x v hT=>
     cases hT with
     | slc rows a b oo es cap u hcap hnil ha hes hc hr=>
       have hne:rows≠[]:=by rintro rfl;simp at hlt
       obtain ⟨rfl,hG⟩:=ha hne
       have hes':es=ei.size:=by rw [hesz,←hlen,hes cs (List.mem_of_getElem? hrow')]
       refine Does.val (u:=.pointer (some ⟨b,oo+n.toNat*es,none⟩)) h ?_ ?_
       · simp only [execOp,hop,hy,hn,Sem.run_bind,run_indexAt hd hei h0 (by omega:n<(rows.length:Int)),Result.andThen_ok,Sem.run_pure,add_none,hes']
       · have:=VRep.ipt (cx:=cx) (w:=w) cs 0 b (oo+n.toNat*es) (u n.toNat) hG (fun j t' h'=>by rw [Nat.add_assoc];exact hc n.toNat j t' (by simp [hrow',h'])) (fun j t' h'=>hr n.toNat j t' (by simp [hrow',h']))
         simpa using this
 · rename_i id kk n hxv hiv
   rw [hxv] at hx
   rw [hiv] at hi
   have hn:=inv_int hi
   split at h
   case h_3=>exact h.elim
   case h_2=>
    rename_i ty rows rr kid hr
    obtain ⟨cs,h0,hrow',h⟩:=h
    split at h
    case isFalse=>exact h.elim
    rename_i hes
    have hlt:=(List.getElem?_eq_some_iff.1 hrow').1
    have hR:=hrow _ _ hr
    generalize hy:e x=y at hx
    cases hR with
    | hole _ _ _ _ b cap vs hat hb hG hcap hmax hsz hes2 hlt2 hr2 hk2=>
      cases hx with
      | lstN id a0 z0 h' hz0=>rw [hat] at h';cases h'
      | lst id b' cap' es' len' h'=>
        rw [hat] at h'
        cases h'
        refine Does.val (u:=.pointer (some ⟨b,n.toNat*1+0,none⟩)) h ?_ (.elt _ _ _ _ _ _ _ hat)
        simp only [execOp,hop,hy,hn,Sem.run_bind,run_indexAt hd hei h0 (by omega:n<(rows.length:Int)),Result.andThen_ok,Sem.run_pure,add_none,←hes,hesz,Nat.zero_add,Nat.add_zero,Nat.mul_one]
   rename_i ty es rows hr
   obtain ⟨cs,h0,hrow',h⟩:=h
   split at h
   case isFalse=>exact h.elim
   rename_i hes
   have hlt:=(List.getElem?_eq_some_iff.1 hrow').1
   have hR:=hrow _ _ hr
   generalize hy:e x=y at hx
   cases hR with
   | listN=>simp at hlt
   | list ty es rows b cap vs hat hb hG hcap hmax hsz hes2 hr2=>
     cases hx with
     | lstN id a0 z0 h' hz0=>rw [hat] at h';cases h'
     | lst id b' cap' es' len' h'=>
       rw [hat] at h'
       cases h'
       refine Does.val (u:=.pointer (some ⟨b,n.toNat*es+0,none⟩)) h ?_ (.elt _ _ _ _ _ _ _ hat)
       simp only [execOp,hop,hy,hn,Sem.run_bind,run_indexAt hd hei h0 (by omega:n<(rows.length:Int)),Result.andThen_ok,Sem.run_pure,add_none,hes,hesz,Nat.zero_add,Nat.add_zero]
 · rename_i id lo kk n hxv hiv
   rw [hxv] at hx
   rw [hiv] at hi
   have hn:=inv_int hi
   split at h
   case h_2=>exact h.elim
   rename_i ty es rows hr
   obtain ⟨⟨h0,h1,h2⟩,h⟩:=h
   split at h
   case isFalse=>exact h.elim
   rename_i hes
   have hR:=hrow _ _ hr
   generalize hy:e x=y at hx
   cases hR with
   | listN=>simp at h2;omega
   | list ty es rows b cap vs hat hb hG hcap hmax hsz hes2 hr2=>
     cases hx with
     | win id lo b' cap' es' len' h'=>
       rw [hat] at h'
       cases h'
       have hml:(maxLen:Int)≤9223372036854775807:=by decide
       have hsum:(dom P A).ar .add .i64 lo n=lo+n:=by
        show IntKind.i64.wrap (lo+n)=_
        rw [IntKind.wrap_i64]
        omega
       rw [hsum] at h
       have hne:¬ cap=lo.toNat:=by omega
       have e2:lo.toNat*es+n.toNat*es=(lo+n).toNat*es:=by rw [←Nat.add_mul];congr 1;omega
       have hs2:ei.size=es:=by rw [hesz,hes]
       rw [if_neg hne] at hy
       refine Does.val (u:=.pointer (some ⟨b,(lo+n).toNat*es+0,none⟩)) h ?_ (.elt _ _ _ _ _ _ _ hat)
       simp only [execOp,hop,hy,hn,Sem.run_bind,run_indexAt hd hei h1 (by omega:n<((rows.length-lo.toNat:Nat):Int)),Result.andThen_ok,Sem.run_pure,add_none,hs2,e2,Nat.add_zero]
 · exact h.elim
theorem ev_index {t:TypeId} {x i:Operand} (hL:LayOk P L) (hop:o.op=.index t x i) (he:Eyes cx w ρ e) (h:evC (dom P A) L o ρ hp aid k):Does P cx w e o aid k:=by
 simp only [evC,hop] at h
 split at h
 case h_2=>exact h.elim
 rename_i lt ht
 split at h
 case isFalse=>
  split at h
  case isFalse=>exact h.elim
  rename_i hk
  obtain ⟨_,d,_,_,hd,_,_,_,_,_,_,⟨_,hk2,_⟩,_⟩:=hL t lt ht
  have hd2:=hk2 hk
  subst hd2
  split at h
  case h_2=>exact h.elim
  rename_i le hle
  obtain ⟨ie,de,_,hie,hde,hsz,_,_,_,_,_,⟨_,_,_,_,hag,_⟩,_⟩:=hL _ le hle
  split at h
  case isTrue=>exact h.elim
  rename_i n1
  split at h
  case isTrue=>exact h.elim
  rename_i n2
  split at h
  case isFalse=>exact h.elim
  rename_i hsz1
  have hx:=he x
  have hi:=he i
  split at h
  case h_2=>exact h.elim
  rename_i cs kk n hxv hiv
  rw [hxv] at hx
  rw [hiv] at hi
  split at h
  case isFalse=>exact h.elim
  rename_i hlen
  have hn:=inv_int hi
  obtain ⟨c,h0,hc,h⟩:=h
  have hlt:n.toNat<cs.length:=(List.getElem?_eq_some_iff.1 hc).1
  have hna:aggD de=false:=by
   cases e:aggD de with
   | false=>rfl
   | true=>rcases hag.1 e with g | g<;>contradiction
  generalize hy:e x=y at hx
  cases hx with
  | agg cs vs hnn hcb hr=>
    have hv:vs[n.toNat]?=some (vs[n.toNat]'(by omega)):=Array.getElem?_eq_getElem (by omega)
    refine Does.val h ?_ (hr _ _ _ hc hv)
    have hz:ie.size=1:=hsz.trans hsz1
    have hb:0≤n∧n<(lt.len:Int):=⟨h0,by omega⟩
    simp only [execOp,hop,hy,hn,Instr.index,asIntOf,Sem.run_bind,Sem.run_pure,Result.andThen_ok,run_underlying hd,if_pos hb,run_sizeOf hie,hz,Nat.mul_one,part_cell (w:=w) hde hna hv]
 rename_i hk
 obtain ⟨_,d,_,_,hd,_,_,_,_,_,_,⟨_,_,_,hk4,_⟩,_⟩:=hL t lt ht
 obtain rfl:=hk4 hk
 have hx:=he x
 have hi:=he i
 split at h
 case h_2=>exact h.elim
 rename_i s kk n hxv hiv
 rw [hxv] at hx
 rw [hiv] at hi
 have hn:=inv_int hi
 have hs:=inv_flat hx
 obtain ⟨⟨h0,h1⟩,h⟩:=h
 refine Does.val h ?_ (rep_flat rfl)
 have hlt:n.toNat<s.size:=by omega
 have hc:s[n.toNat]?=some (s.data.getD n.toNat 0):=by
  have h2:s[n.toNat]?=some (s[n.toNat]'hlt):=getElem?_pos s n.toNat hlt
  rw [h2]
  have hlt2:n.toNat<s.data.size:=hlt
  congr 1
  rw [Array.getD_eq_getD_getElem?,Array.getElem?_eq_getElem hlt2]
  rfl
 simp only [execOp,hop,hs,hn,Instr.index,asIntOf,Sem.run_bind,Sem.run_pure,Result.andThen_ok,run_underlying hd,if_pos h0,hc]
 rfl
end
end Ab
end Go.Proofs.YtbpihhelojjedaaDoor
