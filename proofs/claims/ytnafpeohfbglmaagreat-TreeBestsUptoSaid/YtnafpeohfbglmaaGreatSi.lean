import Derived.Test.YtnafpeohfbglmaaGreatSh
import Derived.Test.YtnafpeohfbglmaaGreatRows
import Derived.ProofKit
import Derived.OpenShut
import Derived.WalkKit
import Derived.JoinedCond
set_option linter.unusedVariables false
set_option linter.unusedSimpArgs false
set_option maxRecDepth 100000
set_option maxHeartbeats 4000000
open Array renaming length_toList→ae9
open List renaming append_nil→d6,cons_append→aa',drop→as4,getElem?_eq_getElem→f7,length_cons→g9,length_map→d9,length_replicate→af3,map_append→ad',map_cons→ae3,map_nil→ah1,mem_append_left→aj0,mem_append_right→ao6,mem_append→ae',mem_cons_of_mem→i0,mem_cons_self→i6,mem_singleton→H1,nil_append→d8,replicate→t6,sum_cons→aq4,take→au8
open Nat renaming le_refl→g8,lt_succ_self→aj6,zero_le→g7
open Option renaming bind_eq_some_iff→au5
open Go.Proofs.Tryz renaming prog→d0
namespace Go.Proofs.YtnafpeohfbglmaaGreat
theorem Kl:∀ n,eE (t6 n 0)=0
 | 0=>rfl
 | n+1=>by rw [List.replicate_succ,eE,Kl n]
theorem acv (vs:List Nat) (n:Nat):behind vs (t6 n 0)=vs:=by
 unfold behind;rw [List.filter_eq_self];exact fun v _=>Kc v _ 0 (Kl n)
theorem Km:∀ (t:bW) (L:List bP),(∀ x∈L,¬ x.atom≥0→x.no=0∧x.yes=0)→∀ x∈bW.laid L t,¬ x.atom≥0→x.no=0∧x.yes=0
  | .leaf ms,L,bM,x,ab=>by
    rw [bW.laid] at ab;rcases ae'.1 ab with ab|ab
    · exact bM x ab
    · rw [H1.1 ab];exact fun _=>⟨rfl,rfl⟩
  | .test i a b,L,bM,x,ab=>by
    have o8:bW.laid L (.test i a b)=(bW.laid (bW.laid (L++[⟨i,0,0,[]⟩]) a) b).set L.length ⟨i,(L.length:Int)+1,((bW.laid (L++[⟨i,0,0,[]⟩]) a).length:Int),[]⟩:=rfl;rw [o8] at ab;rcases List.mem_or_eq_of_mem_set ab with ab|rfl
    · refine Km b _ (Km a _ fun y ay=>?_) x ab
      rcases ae'.1 ay with ay|ay
      · exact bM y ay
      · rw [H1.1 ay];exact fun _=>⟨rfl,rfl⟩
    · exact fun h=>absurd (Int.natCast_nonneg i) h
theorem acw (p:bT) (aF:ga p) (n:Int) (he:hy p n=0):aT d0 65 [cW p,.int .i64 n] (.aA 4 ((pk p n).map eN) .bb):=by
  have an:=bD;obtain ⟨dk,fq,cX,e7,gh⟩:=zO he;have Ex:=acq p aF dk n fq;have p4:2^(ct p n).length≤2^7:=Nat.pow_le_pow_right af fq;have fC:=Cq (ca p) (ct p n);have cJ:=acu (x1 dk) cX fq;have vG:=(uk dk).1;have iV:∀ v,(dp p n (ct p n) v).length≤16:=fun v=>by have:=zJ n (ct p n) v p.methods 0;unfold dp;omega
  have ar:ux (ct p n).length (hF (ca p) (ct p n)) (dp p n (ct p n)) (3^(ct p n).length):=⟨fq,rfl,fun v aw=>Fi aw,by omega,iV⟩;have acx:=Kl (ct p n).length;have Rl:=acv (hF (ca p) (ct p n)) (ct p n).length
  have lj:=fun cb=>Ri ar cb (my (t6 (ct p n).length 0)+1) (t6 (ct p n).length 0) af3 (fun d ax=>by rw [(List.mem_replicate.1 ax).2];omega) (aj6 _) (by rw [Rl];exact cJ) (t6 (3^(ct p n).length) .mu) ⟨af3,fun es dC he => .inl (by
    have:=FI he
    rw [dC] at this
    rw [List.getElem?_replicate,g6 this])⟩
  simp only [acx,Rl] at lj;have qi:=Qv n he;have q':=vw (ct p n).length (dp p n (ct p n)) _ (hF (ca p) (ct p n)) (g8 _);have om:=CD (P:=fun ms=>ms.length≤16) (ct p n).length (dp p n (ct p n)) ba iV _ (hF (ca p) (ct p n)) (g8 _);rw [EJ] at qi;have vO:pk p n=small (bW.laid [] (eL (ct p n).length (dp p n (ct p n)) (hF (ca p) (ct p n)))):=by unfold pk;rw [EJ]
  rw [vO];have aI:=ar;generalize eL (ct p n).length (dp p n (ct p n)) (hF (ca p) (ct p n))=t at *;have BY:=acr t [] none om C (by rw [List.length_nil];omega);have h3:=Za (bW.laid [] t) qi (Km t [] (fun _ h=>by cases h));have iK:=qi.len;have Rm:=qi.pos;generalize bW.laid [] t=G at *;refine aT.bh ah Tryz.func65 C C fun s I=>?_
  unfold cW cZ at *;unfold hv at h3;refine dt ?_;refine aa.bX rfl rfl rfl rfl rfl Ex I .nil ?_ (fun _ _ h _=>by obtain ⟨_,h,_⟩:=h;cases h);rintro _ _ ⟨cb,⟨⟩,rfl⟩ I;simp only [d6] at I ⊢;skip;refine aa.bX rfl rfl rfl rfl rfl (lj cb) I aX ?_ (fun _ _ ⟨h,_⟩ _=>by cases h);rintro _ _ ⟨⟨⟩,F,gG,rfl⟩ I;simp only [d6] at I ⊢;skip;refine aa.bX rfl rfl rfl rfl rfl BY I .nil ?_ (fun _ _ h _=>by obtain ⟨_,_,h,_⟩:=h;cases h);rintro _ _ ⟨bu,cR,⟨⟩,rfl⟩ I;rcases bu with _|⟨g2,eA,ew⟩
  · have bq:G=[]:=cR
    rw [bq] at Rm;simp at Rm
  obtain ⟨e8,fB,gq⟩:=cR;unfold gm fU uw at *;simp only [aa',d8] at I ⊢;refine cv C ?_;refine cv C ?_;refine cv C ?_;refine cv C ?_;refine cv C ?_;refine aa.nil ?_
  repeat (with_reducible first|apply b0|apply fh|apply ae.seq)
  refine ae.B7 I 5 g2 C aW gq B2 (jY _) fB af (fun I=>?_);rw [← xQ];refine jE ?_;refine aa.bX rfl rfl rfl rfl rfl h3 I .nil ?_ (fun _ _ ⟨h,_⟩ _=>by cases h);rintro _ _ ⟨⟨⟩,rfl⟩ I;refine er ?_;exact bB I
theorem acy (p:bT) (aF:ga p) (n:Int):aT d0 14 [cW p,.int .i64 n] (zS p n):=by
 have an:=bD;refine aT.bh ah Tryz.func14 C C fun s I=>?_
 have U:=acp p aF n;unfold JQ at U;unfold zS;by_cases he:hy p n=0
 ·have ad:=acw p aF n he
  unfold pk at ad;rw [he,g6 C] at U;rw [he,g6 C];generalize small (bW.laid [] (xL p n))=G at *;unfold cW cZ dd at *;refine b' ?_;exact bB I
 ·rw [f0 he] at U ⊢
  unfold cW cZ at *;refine b' ?_;refine ae.cond C (fun _=>?_) (fun h=>absurd e2 he);refine gX ?_;exact bB I
theorem adG (p:bT) (aF:ga p) (n:Int):aT d0 3 [cW p,.int .i64 n] (.bool true):=by
 have an:=bD;have dm:=abp ();have dE:=Qr p aF n;have a2:=acy p aF n;have s1:aT d0 15 [if hy p n=0 then .aA 4 ((pk p n).map eN) .bb else .aA 0 [] .nil,if hy p n=0 then .aA 4 ((pk p n).map eN) .bb else .aA 0 [] .nil] (.bool true):=by
  by_cases he:hy p n=0
  ·obtain ⟨g1,g2⟩:=abr n he
   have bE:=Ec (pk p n) (pk p n) af af (fun x ab=>by have:=g2 x ab;omega) (fun x ab=>by have:=g2 x ab;omega);rw [show (pk p n==pk p n)=true from beq_iff_eq.2 C] at bE;rw [g6 he];exact bE
  ·have bE:=Ec [] [] du du (fun _ h=>by cases h) (fun _ h=>by cases h)
   rw [show (([]:List bP)==[])=true from rfl] at bE;rw [f0 he];exact aT.args (.cons aQ.empty (.one aQ.empty)) bE
 unfold zS at *;rw [show small (bW.laid [] (xL p n))=pk p n from rfl] at dE a2;generalize (if hy p n=0 then ag.aA 4 ((pk p n).map eN) .bb else .aA 0 [] .nil)=aed at *;refine aT.bh ah Tryz.func3 C C fun s I=>?_
 unfold cW cZ at *;refine b' ?_;refine aa.dY 29 C ba ?_;refine c2 ?_;exact bB I
def lT (w:World):bV:=fun b _=>b<w.heap.size
theorem acz (w:World):dx w (lT w) (fun _=>none):=⟨(fun _ _ h=>by cases h),fun _ _ h=>h⟩
theorem add_add (a:Addr) (x y:Nat):(a.add x).add y=a.add (x+y):=by
 unfold Addr.add;by_cases ab:x=0
 ·subst ab;simp
 ·by_cases ay:y=0
  ·subst ay;simp [ab]
  ·simp [ab,ay,Nat.add_assoc]
theorem acA {w:World} {a:Addr} {v:Value} (h:w.cell? a=some v):a.spot=none∧a.block<w.heap.size:=by
 unfold World.cell? at h;split at h
 ·rename_i c _ _ an
  refine ⟨?_,(Array.getElem?_eq_some_iff.1 an).1⟩;cases ar:a.spot with
  | none=>rfl
  | some s=>rw [ar] at h;simp at h
 ·cases h
theorem Ro {w:World} {a:Addr} {n:Nat} {cs:List Value} (h:w.cells? 0 a n=some cs):cs.length=n∧∀ i v,cs[i]? = some v→w.cell? (a.add i)=some v:=by
 unfold World.cells? at h;rw [g6 (g7 _)] at h;refine ⟨by simpa using mapM_some_length h,fun i v aw=>?_⟩;have aR:i<n:=by
  have:=mapM_some_length h;rw [List.length_range] at this;rw [← this];exact (List.getElem?_eq_some_iff.1 aw).1
 rw [mapM_some_get h i i (by rw [List.getElem?_range aR])];exact aw
section
variable {H:Type} {enc:TypeId×Value→H} {w:World}
theorem FO {sz:Nat}:∀ {vs:List Value},(∀ v∈vs,v.cells.size=sz)→(flat vs).length=vs.length*sz
  | [],_=>by simp [flat]
  | v::vs,h=>by
    have:=FO (vs:=vs) (fun u hu=>h u (i0 _ hu));have aw:=h v i6;simp only [flat,List.flatMap_cons,List.length_append,g9] at this ⊢;rw [this,ae9,aw,Nat.add_mul,Nat.one_mul,Nat.add_comm]
theorem bH.kf {p:bV}:∀ {vs us:List Value} {xs ys:List ag},bH w p vs xs→bH w p us ys→bH w p (vs++us) (xs++ys)
 | _,_,_,_,.nil,h=>h
 | _,_,_,_,.cons v x vs xs h t,k => .cons _ _ _ _ h (bH.kf t k)
theorem acB (l r:List (DataW H)):Rows.uptoBulkAll (l++r)=Rows.uptoBulkAll l+Rows.uptoBulkAll r:=by
 induction l with
 | nil=>simp [Rows.uptoBulkAll]
 | cons x l a1=>simp only [aa',Rows.uptoBulkAll,a1];omega
theorem Rq {α:Type} {t e:TypeId} {sz fuel:Nat} {cs:List Value} {x:DataW H×List MemPlace} (f:α→ag) (m:α→Nat) (aN : d0.underlying t=some (.slice e)) (aB : d0.cellsOf e=sz) (cc:0<sz)
  (dC:∀ n cs y,n<fuel→DataW.trod enc d0 w 0 (fun _=>true) true n e cs=some y→cs.length=sz→∃ (a:α) (v:Value),v.cells.toList=cs∧Rel w (lT w) v (f a)∧m a≤Rows.uptoBulk y.1)
  (h:DataW.trod enc d0 w 0 (fun _=>true) true fuel t cs=some x) :
  ∃ (c:Value) (l:List α),cs=[c]∧Rel w (lT w) c (.aA sz (l.map f) .bb)∧(l.map m).sum+1≤Rows.uptoBulk x.1:=by
 rcases DataW.trod_slice aN h with ⟨rfl,rfl⟩|⟨a,len,cap,elems,rest,n,rfl,rfl,rfl,an,aC,hm,hlen,Rr,dn,Im⟩
 ·exact ⟨_,[],rfl,.h4 _ _ ba,by simp [Rows.uptoBulk]⟩
 ·rw [aB] at Rr dn
  have key:∀ k,k≤len→∃ (l:List α) (vs:List Value),l.length=k∧bH w (lT w) vs (l.map f)∧(∀ v∈vs,v.cells.size=sz)∧(∀ i u,(flat vs)[i]? = some u→w.cell? (a.add i)=some u) ∧
    (l.map m).sum≤Rows.uptoBulkAll ((elems.take k).map (·.1)):=by
   intro k
   induction k with
   | zero=>intro _;exact ⟨[],[],rfl,.nil,by simp,by simp [flat],by simp⟩
   | succ k a1=>
    intro aE;obtain ⟨l,vs,U,ad,al,bf,bE⟩:=a1 af;have FP:elems[k]? = some (elems[k]' af):=f7 af;have an:=Rr k af;rw [FP,au5] at an;obtain ⟨cs',hI,ay⟩:=an;obtain ⟨g1,g2⟩:=Ro hI;obtain ⟨c7,v,b2,bU,e1⟩:=dC n cs' _ (aj6 n) ay g1;have eP:vs.length=k:=by rw [ad.length,d9,U]
    refine ⟨l++[c7],vs++[v],by simp [U],?_,?_,?_,?_⟩
    ·rw [ad'];exact bH.kf ad (.cons _ _ _ _ bU .nil)
    ·intro u hu
     rcases ae'.1 hu with hu|hu
     ·exact al u hu
     ·simp only [H1] at hu
      subst hu;rw [← ae9,b2,g1]
    ·intro i u hu
     have a7:flat (vs++[v])=flat vs++cs':=by simp [flat,b2]
     rw [a7] at hu;by_cases aR:i<(flat vs).length
     ·rw [List.getElem?_append_left aR] at hu;exact bf i u hu
     ·rw [List.getElem?_append_right af,FO al,eP] at hu
      have:=g2 _ _ hu;rw [add_add] at this;rw [FO al,eP] at aR;rwa [show k*sz+(i-k*sz)=i by omega] at this
    ·rw [List.take_add_one,FP]
     simp only [Option.toList_some,ad',ae3,ah1,acB,List.sum_append,aq4,List.sum_nil,Rows.uptoBulkAll];omega
  obtain ⟨l,vs,U,ad,al,bf,bE⟩:=key len (g8 _);have eP:vs.length=len:=by rw [ad.length,d9,U]
  refine ⟨_,l,rfl,?_,?_⟩
  ·have nQ:maxLen=9223372036854775807:=rfl
   by_cases kE:cap=0
   ·have uN:len=0:=by omega
    subst uN;subst kE;have:l=[]:=List.eq_nil_of_length_eq_zero U;subst this;exact .iE a _ _ (.inl C)
   ·have jN:∃ v,w.cell? a=some v:=by
     by_cases uN:len=0
     ·obtain ⟨aD,jx⟩:=dn rfl
      have FP:rest[0]? = some (rest[0]' af):=f7 af;have:=jx 0 af;rw [FP,au5] at this;obtain ⟨cs',hI,-⟩:=this;obtain ⟨g1,g2⟩:=Ro hI;have:=g2 0 _ (f7 af);rw [uN,add_add] at this;simp only [Nat.add_zero,Nat.zero_mul,Addr.add,ag7] at this;exact ⟨_,this⟩
     ·have:=bf 0 _ (f7 (by rw [FO al,eP];exact Nat.mul_pos af cc))
      simp only [Addr.add,ag7] at this;exact ⟨_,this⟩
    obtain ⟨v,aw⟩:=jN;obtain ⟨ar,au⟩:=acA aw;obtain ⟨g,off,spot⟩:=a;simp only at ar au;subst ar;refine .aA g off len cap sz vs _ .bb ba (by rw [d9,U]) (fun i u hu=>⟨au,?_⟩) ad al af aC ba ba;have:=bf i u hu;rwa [lB] at this
  ·simp only [Rows.uptoBulk]
   rw [List.take_of_length_le af] at bE;omega
theorem trod_int {t:TypeId} {fuel:Nat} {cs:List Value} {y:DataW H×List MemPlace} (aN : d0.underlying t=some (.int .i64)) (h:DataW.trod enc d0 w 0 (fun _=>true) true fuel t cs=some y) :
  ∃ n:Int,bH w (lT w) cs [.int .i64 n]∧1≤Rows.uptoBulk y.1:=by
 obtain ⟨n,rfl,rfl,-⟩:=DataW.trod_int aN h;exact ⟨n,.cons _ _ _ _ (.int _ _) .nil,by simp [Rows.uptoBulk]⟩
theorem zW {α:Type} {t e:TypeId} {sz fuel:Nat} {cs:List Value} {x:DataW H×List MemPlace} (f:α→List ag) (m:α→Nat) (aN : d0.underlying t=some (.slice e)) (aB : d0.cellsOf e=sz) (cc:0<sz)
  (dC:∀ n cs y,n<fuel→DataW.trod enc d0 w 0 (fun _=>true) true n e cs=some y→∃ a:α,bH w (lT w) cs (f a)∧m a≤Rows.uptoBulk y.1)
  (h:DataW.trod enc d0 w 0 (fun _=>true) true fuel t cs=some x) :
  ∃ l:List α,bH w (lT w) cs [.aA sz (l.map fun a => .agg (f a)) .bb]∧(l.map m).sum+1≤Rows.uptoBulk x.1:=by
 obtain ⟨c,l,rfl,U,ad⟩:=Rq (fun a=>ag.agg (f a)) m aN aB cc (fun n cs y az ay _=>by
  obtain ⟨a,g1,g2⟩:=dC n cs y az ay
  exact ⟨a,.agg cs.toArray,by simp [Value.cells],.agg _ _ (by simpa using g1),g2⟩) h
 exact ⟨l,.cons _ _ _ _ U .nil,ad⟩
theorem yf (l:List (DataW H)):Rows.uptoBulk (.agg l)=Rows.uptoBulkAll l+1:=by simp [Rows.uptoBulk]
def hz (aeq:String) (t:TypeId) (off acC:Nat):Field:={ name:=aeq,type:=t,offset:=off,embedded:=false,tag := "", pkgPath := "", byteOffset:=acC }
theorem acD {t:TypeId} {fuel:Nat} {cs:List Value} {y:DataW H×List MemPlace} (aN : d0.underlying t=some (.int .i64)) (h:DataW.trod enc d0 w 0 (fun _=>true) true fuel t cs=some y) :
  ∃ (n:Int) (v:Value),v.cells.toList=cs∧Rel w (lT w) v (.int .i64 n)∧1≤Rows.uptoBulk y.1:=by
 obtain ⟨n,rfl,rfl,-⟩:=DataW.trod_int aN h;exact ⟨n,.int .i64 n,rfl,.int _ _,by simp [Rows.uptoBulk]⟩
theorem Rs:∀ l:List Int,(l.map fun _=>1).sum=l.length
 | []=>rfl
 | _::r=>by rw [ae3,aq4,Rs r,g9];omega
theorem zX {fuel:Nat} {cs:List Value} {x:DataW H×List MemPlace} (h:DataW.trod enc d0 w 0 (fun _=>true) true fuel 23 cs=some x) :
  ∃ l:List Int,bH w (lT w) cs [bd l]∧l.length+1≤Rows.uptoBulk x.1:=by
 obtain ⟨c,l,rfl,U,ad⟩:=Rq (sz:=1) (fun n=>ag.int .i64 n) (fun _=>1) Tryz.underlying23 gj af (fun _ _ _ _ h _=>acD Tryz.underlying3 h) h;rw [Rs] at ad;exact ⟨l,.cons _ _ _ _ U .nil,ad⟩
theorem Rt {α:Type}:∀ l:List α,l.length≤(l.map fun _=>1).sum
 | []=>g8 _
 | _::r=>by rw [ae3,aq4,g9];have:=Rt r;omega
def bP.weight (x:bP):Nat:=x.ms.length+1
theorem acE (fuel:Nat) (cs:List Value) (y:DataW H×List MemPlace) (h:DataW.trod enc d0 w 0 (fun _=>true) true fuel 69 cs=some y):∃ x:bP,bH w (lT w) cs (ha x)∧bP.weight x≤Rows.uptoBulk y.1:=by
 obtain ⟨xs,n,rfl,rfl,aC,hlen,a7⟩:=DataW.trod_struct Tryz.underlying69 h;have Ru : d0.cellsOf 69 = 4:=by kernel_rfl
 have r6 : d0.cellsOf 3 = 1:=by kernel_rfl
 have acF : d0.cellsOf 23 = 1:=by kernel_rfl
 rw [Ru] at aC
 match cs,aC,xs,hlen with
 | [v0,v1,v2,v3],_,[zY,uh,zy,B6],_=>
  have bq:=a7 0 (hz "Atom" 3 0 0) C;have U:=a7 1 (hz "No" 3 1 8) C;have ad:=a7 2 (hz "Yes" 3 2 16) C;have al:=a7 3 (hz "Methods" 23 3 24) C;simp only [hz,Ru,r6,acF,as4,au8] at bq U ad al;obtain ⟨a,g0,q8⟩:=trod_int Tryz.underlying3 bq;obtain ⟨no,g1,ho⟩:=trod_int Tryz.underlying3 U;obtain ⟨Kn,g2,cT⟩:=trod_int Tryz.underlying3 ad;obtain ⟨ms,g3,na⟩:=zX al;refine ⟨⟨a,no,Kn,ms⟩,?_,?_⟩
  ·have:ha ⟨a,no,Kn,ms⟩=[.int .i64 a]++([.int .i64 no]++([.int .i64 Kn]++[bd ms])):=rfl
   rw [this];exact bH.kf (vs:=[v0]) g0 (bH.kf (vs:=[v1]) g1 (bH.kf (vs:=[v2]) g2 g3))
  ·simp only [yf,ae3,ah1,Rows.uptoBulkAll,bP.weight]
   omega
theorem acG:∀ g:List bP,g.length≤(g.map bP.weight).sum
 | []=>g8 _
 | x::r=>by rw [ae3,aq4,g9];have:=acG r;unfold bP.weight at *;omega
theorem adH {fuel:Nat} {cs:List Value} {x:DataW H×List MemPlace} (h:DataW.trod enc d0 w 0 (fun _=>true) true fuel 28 cs=some x) :
  ∃ g:List bP,bH w (lT w) cs [hv g]∧(g.map bP.weight).sum+1≤Rows.uptoBulk x.1:=by
 obtain ⟨g,U,ad⟩:=zW (sz:=4) ha bP.weight Tryz.underlying28 gj af (fun m cs y _ ay=>acE m cs y ay) h;exact ⟨g,U,ad⟩
end
open Go.ChangeShapes Go.WideShapes Go.ChangeAt Go.RowKit
theorem Rv {H:Type} {enc:TypeId×Value→H} {P:Program} {W yg:World} (aC:laidOutB P=true):∀ {gw:List TypeId} {vs:List Value} {ds:List (DataW H)} {ps:List MemPlace} {sp:Nat→Bool},(∀ t∈gw,P.readableRec t=true∧t<P.types.size) →
    DataW.TrodAll enc P W 0 (fun _=>true) true gw vs ds ps→(∀ p∈ps,W.sameAt yg p)→(∀ p∈ps,sp p.block=true)→DataW.TrodAll enc P yg 0 sp true gw vs ds ps
  | [],[],[],_,_,_,h,_,_=>h
  | t::gw,v::vs,d::ds,ps,sp,aN,h,ar,an=>by
    obtain ⟨p,q,U,ad,rfl⟩:=h;obtain ⟨e8,fB⟩:=aN t i6
    exact ⟨p,q,WideElems.Trod_stays aC e8 fB U (fun x ab=>ar x (aj0 _ ab)) (fun x ab=>an x (aj0 _ ab)),
      Rv aC (fun t c0=>aN t (i0 _ c0)) ad (fun x ab=>ar x (ao6 _ ab)) (fun x ab=>an x (ao6 _ ab)),rfl⟩
  | [],[],_::_,_,_,_,h,_,_=>h.elim
  | [],_::_,_,_,_,_,h,_,_=>h.elim
  | _::_,[],_,_,_,_,h,_,_=>h.elim
  | _::_,_::_,[],_,_,_,h,_,_=>h.elim
theorem adI {H:Type} {enc:TypeId×Value→H} {f:FuncId} {fn:Func} {spec:ChangeSpec} {W:World} {args:Array Value} {xs:List ag} {ds gs:List (DataW H)} {before:List MemPlace}
  (aC:laidOutB d0=true) (aF:∀ t∈fn.params.toList,d0.readableRec t=true∧t < d0.types.size) (aD:fn.resultTypes = #[4]) (aw:spec.vars=[])
  (dn:gs=[]→spec.fn H (ds++gs)={ results:=[.lit (.bool true)],args:=ds })
  (gO:DataW.Whole enc d0 fn.params.toList spec.vars false W args.toList ds gs before) (eW:bH W (lT W) args.toList xs) (aB:hp d0 f xs (fun _=>none) (fun o aj=>o = .ret (.bool true)∧aj=fun _=>none)) :
  Calls d0 f args W fun e yg=>∃ v,e = .returned v∧spec.post enc d0 fn false true false false W args v yg:=by
 have h:=aB.2 W (lT W) args.toList (acz W) eW;rw [Array.toArray_toList] at h;refine Calls.mono h fun e yg ⟨cJ,o,aj,bj,q5,⟨ai,hL⟩,hle,aE,cf⟩=>?_
 subst ai;cases e with
 | returned v=>
  have an:Rel yg bj v (.bool true):=q5;cases an;have Rw:Below W.heap.size W yg:=⟨hle.os,hle.tape,hle.output,hle.size,fun k eH=>aE.heap k eH C⟩;have au:=gO.lt;have acH:=gO;obtain ⟨p,q,sh,J2,rfl,adJ,e7⟩:=gO;rw [aw] at J2;obtain ⟨rfl,rfl⟩:=trodVars_none J2;have zG:=dn C;refine ⟨_,rfl,ds,[],_,[],p,[],acH,?_,?_,?_,Rw.frame _,fun h=>by cases h⟩
  ·rw [zG,aD]
   exact trodAll_cons_mk (shut_bool Tryz.underlying4 _) trodAll_mk0
  ·rw [zG]
   exact Rv aC aF sh (fun x ab=>Rw.same (au x vU)) (fun x ab=>by simpa using au x vU)
  ·rw [zG,aw];exact rfl
 | panicked dJ=>exact q5.elim
 | outgrown=>exact q5.elim
theorem adK {P:Program} {W:World} {r:Reach} {b:Nat} {t e:TypeId} {v:Value} (aN:P.underlying t=some (.slice e)) (h:Value.okWide P W r b t v):v.cells = #[v]:=by
 obtain ⟨a,n,c,rfl⟩:=okWide_slice aN h;rfl
theorem adL {P:Program} {W:World} {r:Reach} {b:Nat} {t:TypeId} {gK:Array Field} {v:Value} (aN:P.underlying t=some (.struct gK)) (h:Value.okWide P W r b t v):∃ cs,v = .agg cs:=by
 obtain ⟨cs,U,-⟩:=okWide_struct aN h;exact ⟨cs,U⟩
theorem adM {w:World} {p:bV} {v:Value} {x:ag} (aw:v.cells = #[v]) (h:bH w p v.cells.toList [x]):Rel w p v x:=by
 rw [aw] at h;cases h with
 | cons _ _ _ _ h _=>exact h
theorem adN {w:World} {p:bV} {v:Value} {xs:List ag} (aw:∃ cs,v = .agg cs) (h:bH w p v.cells.toList xs):Rel w p v (.agg xs):=by
 obtain ⟨cs,rfl⟩:=aw;exact .agg _ _ h
theorem adO {P:Program} {W:World} {r:Reach} {b:Nat} {t:TypeId} {v:Value} {k:IntKind} (aN:P.underlying t=some (.int k)) (h:Value.okWide P W r b t v):v.cells = #[v]:=by
 obtain ⟨n,rfl⟩:=okWide_int aN h;rfl
theorem laidOut:laidOutB d0=true:=by kernel_rfl
theorem CJ {α:Type} {m:α→Nat}:∀ {l:List α} {x:α},x∈l→m x≤(l.map m).sum
  | y::r,x,h=>by
    rw [ae3,aq4];rcases List.mem_cons.1 h with rfl|h
    · omega
    · have:=CJ (m:=m) h;omega
mutual
def ak.weight:ak→Nat
 | .mk _ _ p _ _ ks=>p.length+6+ak.weights ks
def ak.weights:List ak→Nat
 | []=>0
 | k::r=>ak.weight k+ak.weights r
end
theorem ak.Rx:∀ l:List ak,ak.weights l=(l.map ak.weight).sum
 | []=>rfl
 | k::r=>by rw [ak.weights,ak.Rx r];rfl
mutual
theorem ak.Ry:∀ f:ak,f.size≤ak.weight f
  | .mk o a p c n ks=>by
    have h:=ak.Rz ks;have e:=(ak.mk o a p c n ks).size_eq;have U:(ak.mk o a p c n ks).kids=ks:=rfl;have ad:(ak.mk o a p c n ks).path=p:=rfl;rw [U,ad] at e;rw [ak.weight];omega
theorem ak.Rz:∀ l:List ak,ak.hN l≤ak.weights l
  | []=>g7 _
  | k::r=>by
    have U:=ak.Ry k;have ad:=ak.Rz r;rw [ak.hN,ak.weights];omega
end
theorem acI (ks:List ak):(ks.map fun a=>ag.agg a.cells)=ks.map ak.bK:=by
 congr 1;funext a;exact (ak.b6 a).symm
section
variable {H:Type} {enc:TypeId×Value→H} {w:World}
theorem acJ:∀ (fuel:Nat) (cs:List Value) (y:DataW H×List MemPlace),DataW.trod enc d0 w 0 (fun _=>true) true fuel 58 cs=some y→∃ e:ak,bH w (lT w) cs (ak.cells e)∧ak.weight e≤Rows.uptoBulk y.1:=by
 intro fuel
 induction fuel using Nat.strongRecOn with
 | _ fuel a1=>
 intro cs y h;obtain ⟨xs,n,rfl,rfl,aC,hlen,a7⟩:=DataW.trod_struct Tryz.underlying58 h;have FQ : d0.cellsOf 58 = 6:=by kernel_rfl
 have acK : d0.cellsOf 56 = 1:=by kernel_rfl
 have r6 : d0.cellsOf 3 = 1:=by kernel_rfl
 have yh : d0.cellsOf 23 = 1:=by kernel_rfl
 have acL : d0.cellsOf 47 = 1:=by kernel_rfl
 rw [FQ] at aC
 match cs,aC,xs,hlen with
 | [v0,v1,v2,v3,v4,v5],_,[zY,uh,zy,B6,ad6,aex],_=>
  have bq:=a7 0 (hz "Op" 56 0 0) C;have U:=a7 1 (hz "Arg" 3 1 8) C;have ad:=a7 2 (hz "Path" 23 2 16) C;have al:=a7 3 (hz "Class" 3 3 40) C;have bf:=a7 4 (hz "N" 3 4 48) C;have bE:=a7 5 (hz "Kids" 47 5 56) C;simp only [hz,FQ,acK,r6,yh,acL,as4,au8] at bq U ad al bf bE;obtain ⟨a0,g0,q8⟩:=trod_int Tryz.underlying56 bq;obtain ⟨dE,g1,ho⟩:=trod_int Tryz.underlying3 U;obtain ⟨a2,g2,cT⟩:=zX ad;obtain ⟨a3,g3,na⟩:=trod_int Tryz.underlying3 al;obtain ⟨a4,g4,o0⟩:=trod_int Tryz.underlying3 bf;obtain ⟨a5,g5,Cn⟩:=zW (sz:=6) ak.cells ak.weight Tryz.underlying47 gj af (fun m cs y hm ay=>a1 m af cs y ay) bE;refine ⟨.mk a0 dE a2 a3 a4 a5,?_,?_⟩
  ·have:ak.cells (ak.mk a0 dE a2 a3 a4 a5)=[.int .i64 a0]++([.int .i64 dE]++([bd a2]++([.int .i64 a3]++([.int .i64 a4]++([.aA 6 (a5.map fun a => .agg (ak.cells a)) .bb]))))):=by rw [acI];rfl
   rw [this];exact bH.kf (vs:=[v0]) g0 (bH.kf (vs:=[v1]) g1 (bH.kf (vs:=[v2]) g2 (bH.kf (vs:=[v3]) g3 (bH.kf (vs:=[v4]) g4 (g5)))))
  ·simp only [yf,ae3,ah1,Rows.uptoBulkAll,ak.weight,ak.Rx]
   omega
def FR (x:iZ):List ag:=[.int .i64 x.slot,.int .i64 x.n]
def iZ.weight (_x:iZ):Nat:=2
theorem acM (fuel:Nat) (cs:List Value) (y:DataW H×List MemPlace) (h:DataW.trod enc d0 w 0 (fun _=>true) true fuel 241 cs=some y):∃ e:iZ,bH w (lT w) cs (FR e)∧iZ.weight e≤Rows.uptoBulk y.1:=by
 obtain ⟨xs,n,rfl,rfl,aC,hlen,a7⟩:=DataW.trod_struct Tryz.underlying241 h;have RA : d0.cellsOf 241 = 2:=by kernel_rfl
 have r6 : d0.cellsOf 3 = 1:=by kernel_rfl
 rw [RA] at aC
 match cs,aC,xs,hlen with
 | [v0,v1],_,[zY,uh],_=>
  have bq:=a7 0 (hz "Slot" 3 0 0) C;have U:=a7 1 (hz "N" 3 1 8) C;simp only [hz,RA,r6,as4,au8] at bq U;obtain ⟨a0,g0,q8⟩:=trod_int Tryz.underlying3 bq;obtain ⟨dE,g1,ho⟩:=trod_int Tryz.underlying3 U;refine ⟨iZ.mk a0 dE,?_,?_⟩
  ·have:FR (iZ.mk a0 dE)=[.int .i64 a0]++([.int .i64 dE]):=rfl
   rw [this];exact bH.kf (vs:=[v0]) g0 (g1)
  ·simp only [yf,ae3,ah1,Rows.uptoBulkAll,iZ.weight]
   omega
def fR.weight (x:fR):Nat:=x.parents.length+x.bp.length+(x.inits.map iZ.weight).sum+3
theorem acN (fuel:Nat) (cs:List Value) (y:DataW H×List MemPlace) (h:DataW.trod enc d0 w 0 (fun _=>true) true fuel 76 cs=some y):∃ e:fR,bH w (lT w) cs (nt e)∧fR.weight e≤Rows.uptoBulk y.1:=by
 obtain ⟨xs,n,rfl,rfl,aC,hlen,a7⟩:=DataW.trod_struct Tryz.underlying76 h;have RB : d0.cellsOf 76 = 3:=by kernel_rfl
 have yh : d0.cellsOf 23 = 1:=by kernel_rfl
 have acO : d0.cellsOf 74 = 1:=by kernel_rfl
 rw [RB] at aC
 match cs,aC,xs,hlen with
 | [v0,v1,v2],_,[zY,uh,zy],_=>
  have bq:=a7 0 (hz "Parents" 23 0 0) C;have U:=a7 1 (hz "Slots" 23 1 24) C;have ad:=a7 2 (hz "Inits" 74 2 48) C;simp only [hz,RB,yh,acO,as4,au8] at bq U ad;obtain ⟨a0,g0,q8⟩:=zX bq;obtain ⟨dE,g1,ho⟩:=zX U;obtain ⟨a2,g2,cT⟩:=zW (sz:=2) FR iZ.weight Tryz.underlying74 gj af (fun m cs y _ ay=>acM m cs y ay) ad;refine ⟨fR.mk a0 dE a2,?_,?_⟩
  ·have:nt (fR.mk a0 dE a2)=[bd a0]++([bd dE]++([.aA 2 (a2.map fun a => .agg (FR a)) .bb])):=rfl
   rw [this];exact bH.kf (vs:=[v0]) g0 (bH.kf (vs:=[v1]) g1 (g2))
  ·simp only [yf,ae3,ah1,Rows.uptoBulkAll,fR.weight]
   omega
def h9.weight (x:h9):Nat:=ak.weight x.fact+3
theorem acP (fuel:Nat) (cs:List Value) (y:DataW H×List MemPlace) (h:DataW.trod enc d0 w 0 (fun _=>true) true fuel 89 cs=some y):∃ e:h9,bH w (lT w) cs (n2 e)∧h9.weight e≤Rows.uptoBulk y.1:=by
 obtain ⟨xs,n,rfl,rfl,aC,hlen,a7⟩:=DataW.trod_struct Tryz.underlying89 h;have RC : d0.cellsOf 89 = 9:=by kernel_rfl
 have acQ : d0.cellsOf 87 = 1:=by kernel_rfl
 have r6 : d0.cellsOf 3 = 1:=by kernel_rfl
 have FQ : d0.cellsOf 58 = 6:=by kernel_rfl
 rw [RC] at aC
 match cs,aC,xs,hlen with
 | [v0,v1,v2,v3,v4,v5,v6,aey,aeu],_,[zY,uh,zy,B6],_=>
  have bq:=a7 0 (hz "Kind" 87 0 0) C;have U:=a7 1 (hz "Gen" 3 1 8) C;have ad:=a7 2 (hz "Fact" 58 2 16) C;have al:=a7 3 (hz "Node" 3 8 96) C;simp only [hz,RC,acQ,r6,FQ,as4,au8] at bq U ad al;obtain ⟨a0,g0,q8⟩:=trod_int Tryz.underlying87 bq;obtain ⟨dE,g1,ho⟩:=trod_int Tryz.underlying3 U;obtain ⟨a2,g2,cT⟩:=acJ _ _ _ ad;obtain ⟨a3,g3,na⟩:=trod_int Tryz.underlying3 al;refine ⟨h9.mk a0 dE a2 a3,?_,?_⟩
  ·have:n2 (h9.mk a0 dE a2 a3)=[.int .i64 a0]++([.int .i64 dE]++((ak.cells a2)++([.int .i64 a3]))):=by simp only [n2,ak.cells,aa',d8]
   rw [this];exact bH.kf (vs:=[v0]) g0 (bH.kf (vs:=[v1]) g1 (bH.kf (vs:=[v2,v3,v4,v5,v6,aey]) g2 (g3)))
  ·simp only [yf,ae3,ah1,Rows.uptoBulkAll,h9.weight]
   omega
def i'.weight (x:i'):Nat:=x.kids.length+3
theorem acR (fuel:Nat) (cs:List Value) (y:DataW H×List MemPlace) (h:DataW.trod enc d0 w 0 (fun _=>true) true fuel 85 cs=some y):∃ e:i',bH w (lT w) cs (la e)∧i'.weight e≤Rows.uptoBulk y.1:=by
 obtain ⟨xs,n,rfl,rfl,aC,hlen,a7⟩:=DataW.trod_struct Tryz.underlying85 h;have RD : d0.cellsOf 85 = 3:=by kernel_rfl
 have acS : d0.cellsOf 83 = 1:=by kernel_rfl
 have r6 : d0.cellsOf 3 = 1:=by kernel_rfl
 have yh : d0.cellsOf 23 = 1:=by kernel_rfl
 rw [RD] at aC
 match cs,aC,xs,hlen with
 | [v0,v1,v2],_,[zY,uh,zy],_=>
  have bq:=a7 0 (hz "Op" 83 0 0) C;have U:=a7 1 (hz "N" 3 1 8) C;have ad:=a7 2 (hz "Kids" 23 2 16) C;simp only [hz,RD,acS,r6,yh,as4,au8] at bq U ad;obtain ⟨a0,g0,q8⟩:=trod_int Tryz.underlying83 bq;obtain ⟨dE,g1,ho⟩:=trod_int Tryz.underlying3 U;obtain ⟨a2,g2,cT⟩:=zX ad;refine ⟨i'.mk a0 dE a2,?_,?_⟩
  ·have:la (i'.mk a0 dE a2)=[.int .i64 a0]++([.int .i64 dE]++([bd a2])):=rfl
   rw [this];exact bH.kf (vs:=[v0]) g0 (bH.kf (vs:=[v1]) g1 (g2))
  ·simp only [yf,ae3,ah1,Rows.uptoBulkAll,i'.weight]
   omega
def bT.weight (x:bT):Nat:=(x.cm.map fR.weight).sum+x.ef.length+(x.methods.map h9.weight).sum+(x.nodes.map i'.weight).sum+6
theorem adP (fuel:Nat) (cs:List Value) (y:DataW H×List MemPlace) (h:DataW.trod enc d0 w 0 (fun _=>true) true fuel 27 cs=some y):∃ e:bT,bH w (lT w) cs (cZ e)∧bT.weight e≤Rows.uptoBulk y.1:=by
 obtain ⟨xs,n,rfl,rfl,aC,hlen,a7⟩:=DataW.trod_struct Tryz.underlying27 h;have RE : d0.cellsOf 27 = 6:=by kernel_rfl
 have acT : d0.cellsOf 22 = 1:=by kernel_rfl
 have r6 : d0.cellsOf 3 = 1:=by kernel_rfl
 have yh : d0.cellsOf 23 = 1:=by kernel_rfl
 have acU : d0.cellsOf 24 = 1:=by kernel_rfl
 have acV : d0.cellsOf 25 = 1:=by kernel_rfl
 rw [RE] at aC
 match cs,aC,xs,hlen with
 | [v0,v1,v2,v3,v4,v5],_,[zY,uh,zy,B6,ad6,aex],_=>
  have bq:=a7 0 (hz "Classes" 22 0 0) C;have U:=a7 1 (hz "Slots" 3 1 24) C;have ad:=a7 2 (hz "Gens" 23 2 32) C;have al:=a7 3 (hz "Methods" 24 3 56) C;have bf:=a7 4 (hz "Nodes" 25 4 80) C;have bE:=a7 5 (hz "Main" 3 5 104) C;simp only [hz,RE,acT,r6,yh,acU,acV,as4,au8] at bq U ad al bf bE;obtain ⟨a0,g0,q8⟩:=zW (sz:=3) nt fR.weight Tryz.underlying22 gj af (fun m cs y _ ay=>acN m cs y ay) bq;obtain ⟨dE,g1,ho⟩:=trod_int Tryz.underlying3 U;obtain ⟨a2,g2,cT⟩:=zX ad;obtain ⟨a3,g3,na⟩:=zW (sz:=9) n2 h9.weight Tryz.underlying24 gj af (fun m cs y _ ay=>acP m cs y ay) al;obtain ⟨a4,g4,o0⟩:=zW (sz:=3) la i'.weight Tryz.underlying25 gj af (fun m cs y _ ay=>acR m cs y ay) bf;obtain ⟨a5,g5,Cn⟩:=trod_int Tryz.underlying3 bE;refine ⟨bT.mk a0 dE a2 a3 a4 a5,?_,?_⟩
  ·have:cZ (bT.mk a0 dE a2 a3 a4 a5)=[.aA 3 (a0.map fun a => .agg (nt a)) .bb]++([.int .i64 dE]++([bd a2]++([.aA 9 (a3.map fun a => .agg (n2 a)) .bb]++([.aA 3 (a4.map fun a => .agg (la a)) .bb]++([.int .i64 a5]))))):=rfl
   rw [this];exact bH.kf (vs:=[v0]) g0 (bH.kf (vs:=[v1]) g1 (bH.kf (vs:=[v2]) g2 (bH.kf (vs:=[v3]) g3 (bH.kf (vs:=[v4]) g4 (g5)))))
  ·simp only [yf,ae3,ah1,Rows.uptoBulkAll,bT.weight]
   omega
def zZ (_v:Int×Int):Nat:=2
def eV.weight (x:eV):Nat:=(x.bp.map zZ).sum+2
structure Ask where
 bm:List eV
 gen:Int
 args:List (Int×Int)
def Ask.weight (x:Ask):Nat:=(x.bm.map eV.weight).sum+(x.args.map zZ).sum+3
end
theorem bT.small {p:bT} (h:bT.weight p≤1048576):ga p:=by
 have an:=bD;unfold bT.weight at h;have U:=Rt p.cm;have ar:∀ {α:Type} (l:List α) (m:α→Nat),(∀ x,1≤m x)→l.length≤(l.map m).sum:=fun l m hm=>by
  induction l with
  | nil=>exact g7 _
  | cons x r a1=>rw [ae3,aq4,g9];have:=hm x;omega
 have cu:=ar p.cm fR.weight (fun x=>by unfold fR.weight;omega);have cL:=ar p.methods h9.weight (fun x=>by unfold h9.weight;omega);have dT:=ar p.nodes i'.weight (fun x=>by unfold i'.weight;omega);refine ⟨by omega,fun c aB=>?_,by omega,by omega,fun m hm=>?_,by omega,fun x ab=>?_⟩
 ·have:=CJ (m:=fR.weight) aB
  unfold fR.weight at this;have:=ar c.inits iZ.weight (fun x=>by unfold iZ.weight;omega);unfold fR.weight at *;omega
 ·have:=CJ (m:=h9.weight) hm
  have:=ak.Ry m.fact;unfold h9.weight at *;omega
 ·have:=CJ (m:=i'.weight) ab
  unfold i'.weight at *;omega
theorem Ask.small {x:Ask} (h:Ask.weight x≤1048576):x.bm.length<bC∧(∀ o∈x.bm,o.bp.length<bC)∧x.args.length<bC:=by
 have an:=bD;unfold Ask.weight at h;have ar:∀ {α:Type} (l:List α) (m:α→Nat),(∀ x,1≤m x)→l.length≤(l.map m).sum:=fun l m hm=>by
  induction l with
  | nil=>exact g7 _
  | cons x r a1=>rw [ae3,aq4,g9];have:=hm x;omega
 have cu:=ar x.bm eV.weight (fun x=>by unfold eV.weight;omega);have cL:=ar x.args zZ (fun x=>by unfold zZ;omega);refine ⟨by omega,fun o ai=>?_,by omega⟩;have:=CJ (m:=eV.weight) ai;have:=ar o.bp zZ (fun x=>by unfold zZ;omega);unfold eV.weight at *;omega
theorem adQ:mapsRowed d0=true:=by kernel_rfl
theorem adR:(d0.stops==[])=true:=by kernel_rfl
theorem adS:(d0.stopKnobs==[])=true:=by kernel_rfl
theorem adT : d0.stopsHeard=true:=by kernel_rfl
theorem adU : d0.mayEnter=true:=by kernel_rfl
theorem adV:(Rows.treeSmallsUptoRow.lifted == d0.liftsFinal)=true:=by kernel_rfl
theorem adW:(d0.make==some Rows.treeSmallsUptoRow.make)=true:=by kernel_rfl
theorem adX:(Rows.treeSmallsUptoRow.plainKeys == d0.plainKeys)=true:=by kernel_rfl
end Go.Proofs.YtnafpeohfbglmaaGreat
