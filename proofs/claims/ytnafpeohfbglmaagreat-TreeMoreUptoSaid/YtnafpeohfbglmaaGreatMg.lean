import Derived.Test.YtnafpeohfbglmaaGreatMf
import Derived.Laws.Bits64
set_option linter.unusedVariables false
set_option linter.unusedSimpArgs false
set_option maxRecDepth 100000
set_option maxHeartbeats 4000000
open Array renaming getD_eq_getD_getElem?→ad9,getElem?_eq_some_iff→i8,toArray_toList→al3
open Bool renaming and_eq_true→f6,and_true→am8,eq_iff_iff→ad1,false_and→f7,false_eq_true→ad5,false_or→af1,or_false→ak5,true_and→f4,true_or→al7
open Int renaming ofNat_lt→aA6,ofNat→aq6,toNat_natCast→ac3
open Go.IntKind renaming bits→ak0,wrap→aa'
open List renaming all_cons→aj6,all_eq_true→ae',all_nil→an3,any_append→ay5,any_eq_true→ae4,append_assoc→ae6,append_nil→d8,cons_append→t8,cons→aq5,contains_iff_mem→af8,drop_length→au8,drop_nil→aq8,drop_replicate→aw8,drop_succ_cons→al4,drop_zero→aj',drop→ap6,filter_cons→ai8,filter_nil→ap4,findIdx?_eq_some_iff_getElem→af2,foldl_cons→af0,foldl_nil→at4,getD_eq_getElem?_getD→d5,getElem?_drop→al',getElem?_eq_getElem→f8,getElem?_eq_some_iff→ac1,getElem?_map→ad7,getElem?_of_mem→ag7,getElem?_set_ne→aq7,getElem?_set_self→al6,length_append→d9,length_cons→i7,length_filter_le→aj0,length_map→f5,length_nil→ae1,length_range→ar9,length_replicate→ad',length_reverse→at0,length_set→ae0,map_append→ac2,map_cons→ac0,map_map→aq3,map_nil→ae3,map_replicate→at8,map_set→an1,map_take→ap0,mem_append→ac7,mem_cons_of_mem→g7,mem_cons_self→i5,mem_cons→ad4,mem_filter→af4,mem_map→ad2,mem_of_getElem?→d6,mem_range→ah6,mem_singleton→t7,nil_append→d7,nodup_nil→at3,perm_append_singleton→au1,range→af7,replicate→t6,set_cons_zero→ax0,set_set→au7,take_add_one→ak7,take_append_of_le_length→ag2,take_length→ac',take_of_length_le→ae8,take_zero→aj8
open Nat renaming add_mul→ah8,add_sub_cancel→at6,add_zero→am4,and_le_left→as7,beq→ad0,blt→i9,eq_of_beq_eq_true→ab',le_refl→i0,lt_of_le_of_lt→ah9,lt_of_lt_of_le→ai3,lt_trichotomy→ar8,min_eq_left→ak1,mul_one→ah2,pow_le_pow_right→af6,pow_lt_pow_right→ag6,pow_succ→as6,shiftRight_le→an9,testBit_and→aj2,testBit_lt_two_pow→ak6,zero_add→ad8,zero_le→g9
open Option renaming getD_some→ae7
open Go.Proofs.Tryz renaming prog→d0
namespace Go.Proofs.YtnafpeohfbglmaaGreat
theorem M8 {p:Prop} (h:p:=by rw [aD,Int.toNat_natCast,List.getD_eq_getElem?_getD,List.getElem?_eq_getElem (by omega)];rfl):p:=h
theorem s6 {p:Prop} (h:p:=by show p.methods.length-(j+1)<p.methods.length-j;omega):p:=h
theorem AD {p:Prop} (h:p:=by (rw [er (by omega) (by omega),WY])):p:=h
theorem x' {p:Prop} (h:p:=by show vs.length-(j+1)<vs.length-j;omega):p:=h
def nX (N:List bJ) (an jl ia:Nat):af := .func 110 [] [.bs [.map an] 0,.bs [.ay 4 (N.map eS) .aZ] 0,.ptr jl 0,.ptr ia 0]
def rO (N:List bJ) (an jl ia:Nat) (num:List (af×af)) (order:List Int) (own:bN):a6:=
 [(.own jl,.box 163 [nX N an jl ia]),(.own ia,.box 23 [.ay 1 (order.map bb) own]),(own,.row 3 1 order.length),(.own an,.map num)]
theorem WZ (N:List bJ) (aY:N.length≤1000) (e5:Down N) (an jl ia:Nat):∀ (k a:Nat),a<N.length→N.length-a≤k→∀ (num:List (af×af)) (order path:List Int) (own:bN),pC num order path→nW N.length order→(∀ x∈path,x<a) →
    dh d0 (nX N an jl ia) [.int .i64 (a:Int)] (rO N an jl ia num order own) (fun o K=>∃ ur c5,pC ur (meet N k order a) path∧o = .ret (.cg [])∧K=rO N an jl ia ur (meet N k order a) c5):=by
  have ns:bt=1099511627776:=rfl;intro k
  induction k with
  | zero=>intro a U ad;omega
  | succ k aX=>
    intro a a8 aD num order path own nN AE Hn;have hlen:=AE.len;obtain ⟨x,ab,ct⟩:=cf (f:=eS) a8;have oD:=M7 (k:=k) (order:=order) ab;have jP:=nN.get a;refine dh.fa (first:=[]) (cap:=[.bs [.map an] 0,.bs [.ay 4 (N.map eS) .aZ] 0,.ptr jl 0,.ptr ia 0]) ?_;refine bz.bn aj Tryz.func110 C C fun s I=>?_
    unfold rO nX at *;refine j6 ?_;cases aF:order.contains (a:Int) with
    | true=>
      rw [aF,f9 C] at jP;rw [aF,f9 C] at oD;rw [oD];refine aa.jc aj I C C C C C C C C C C aV C jP C ?_;refine dT ?_;exact Fin.bu I C aM (aH.all _) ⟨num,own,nN,rfl,rfl⟩
    | false=>
    have aE:path.contains (a:Int)=false:=by
      cases h:path.contains (a:Int) with
      | false=>rfl
      | true=>have:=Hn _ (af8.1 h);omega
    rw [aF,f0 bc,aE,f0 bc] at jP;rw [aF,f0 bc] at oD;obtain ⟨M9,vm,M'⟩:=nN.enter aF;refine aa.jc aj I C C C C C C C C C C aV C jP C ?_;refine bG ?_;refine aa.mm aj I C C (.inl C) C C C C C C aV C vm (fun I=>?_);unfold eS hy at ct;refine ej ?_;refine ae.vw (σ:=List (af×af)×bN) (fun _=>[(0,.int .i64 (a:Int)),(1,.bs [.map an] 0),(2,.bs [.ay 4 (N.map eS) .aZ] 0),(3,.ptr jl 0),(4,.ptr ia 0)]) (fun z=>rO N an jl ia z.1 (if x.atom≥0 then meet N k (meet N k order x.yes) x.no else order) z.2) (fun z=>pC z.1 (if x.atom≥0 then meet N k (meet N k order x.yes) x.no else order) ((a:Int)::path)) ?_ ?_
    · refine ae.cond C (fun dP=>?_) (fun dP=>?_)
      · have dP:x.atom≥0:=by simpa using dP
        obtain ⟨d1,d2,d3,d4⟩:=e5 a x ab dP;obtain ⟨y,ax⟩:∃ y:Nat,x.yes=y:=⟨x.yes.toNat,by omega⟩;obtain ⟨z,bP⟩:∃ z:Nat,x.no=z:=⟨x.no.toNat,by omega⟩;rw [f9 dP];simp only [ax,bP] at ct ⊢;have pU:=wB e5 k y ag ag order AE
        have i1:=aX y ag ag M9 order ((a:Int)::path) own M' AE (fun p aE=>by
          rcases ad4.1 aE with rfl|aE
          · omega
          · have:=Hn p aE;omega)
        have i2:=fun Dh lX h=>aX z ag ag Dh (meet N k order y) ((a:Int)::path) lX h pU.1 (fun p aE=>by
          rcases ad4.1 aE with rfl|aE
          · omega
          · have:=Hn p aE;omega)
        refine sv I ?_;intro I;refine aL.gr rfl rfl rfl rfl rfl rfl rfl i1 I a7 ?_ (fun _ _ h _=>by obtain ⟨_,_,_,h,_⟩:=h;cases h);rintro _ _ ⟨Dh,lX,Di,⟨⟩,rfl⟩ I;simp only [d7,t8] at I ⊢;refine sv I ?_;intro I;refine aL.gr rfl rfl rfl rfl rfl rfl rfl (i2 Dh lX Di) I a7 ?_ (fun _ _ h _=>by obtain ⟨_,_,_,h,_⟩:=h;cases h);rintro _ _ ⟨Dj,tN,tz,⟨⟩,rfl⟩ I;simp only [d7,t8] at I ⊢;skip;exact j4.mk (Dj,tN) I tz (cI C) (by simp only [rO,nX];exact a7)
      · have dP:¬ x.atom≥0:=by simpa using dP
        rw [f0 dP];refine gg ?_;exact j4.mk (M9,own) I M' (cI C) (by simp only [rO,nX];exact a7)
    rintro ⟨Dh,lX⟩ Di I;rw [oD];simp only at Di I ⊢;generalize vg:(if x.atom≥0 then meet N k (meet N k order x.yes) x.no else order)=order2 at *;have ub:nW N.length order2∧∀ y∈order2,y∈order∨(a:Int)<y:=by
      rw [← vg];split
      · rename_i dP
        obtain ⟨d1,d2,d3,d4⟩:=e5 a x ab dP;obtain ⟨y,ax⟩:∃ y:Nat,x.yes=y:=⟨x.yes.toNat,by omega⟩;obtain ⟨z,bP⟩:∃ z:Nat,x.no=z:=⟨x.no.toNat,by omega⟩;rw [ax,bP];obtain ⟨rq,b2⟩:=wB e5 k y ag ag order AE;obtain ⟨eJ,x9⟩:=wB e5 k z ag ag _ rq;refine ⟨eJ,fun u hu=>?_⟩;rcases x9 u hu with h|h
        · rcases b2 u h with h|h
          · exact .inl h
          · exact .inr ag
        · exact .inr ag
      · exact ⟨AE,fun y h => .inl h⟩
    have ud:order2.contains (a:Int)=false:=by
      cases h:order2.contains (a:Int) with
      | false=>rfl
      | true=>
        rcases ub.2 _ (af8.1 h) with h|h
        · rw [af8.2 h] at aF;cases aF
        · omega
    have eZ:=ub.1.len;obtain ⟨Dj,tz,W0⟩:=Di.leave ud;unfold rO nX at I ⊢;refine cm I ?_;intro I;refine aa.mm aj I C C (.inl C) C C C C C C aV C (by rw [f5];exact tz) (fun I=>?_);refine cm I ?_;intro I;refine aa.gq aj I C C C C C C C ef C C C C C C C C aV h7 kX ag (fun b2 I=>?_);refine cm I ?_;intro I;exact Fin.bu (K:=rO N an jl ia Dj (order2++[(a:Int)]) (.own b2)) I C aM (by simp only [rO,nX,ac2,ac0,ae3,d9,i7,ae1];exact a7) ⟨Dj,.own b2,W0,rfl,rfl⟩
def uu (xs:List Int):Nat→List (Nat×Int)
 | 0=>[]
 | m+1=>(m,xs.getD m 0)::uu xs m
def Ho (p:Nat×Int):af := .int .i64 (p.1:Int)
def Hp (p:Nat×Int):af := .int .i64 p.2
theorem Na (xs:List Int):∀ m,m≤xs.length→(uu xs m).map (·.2)=(xs.take m).reverse
  | 0,_=>by rw [uu,aj8];rfl
  | m+1,h=>by
    obtain ⟨x,ab⟩:∃ x,xs[m]? = some x:=⟨_,f8 ag⟩;rw [uu,ac0,Na xs m ag,ak7,ab,List.reverse_append,d5,ab];rfl
theorem W1 (xs:List Int) (aB:xs.length<bt):FZ d0 152 [] [.bs [.ay 1 (xs.map bb) .aZ] 0] [] Ho Hp (fun _=>True) (uu xs xs.length):=by
 have ns:bt=1099511627776:=rfl;intro l Go fm fr om K bm;refine bz.bn aj Tryz.func152 C C fun s I=>?_
 rw [d7] at I ⊢;have jI:((xs.map bb).length:Int)=(xs.length:Int):=by rw [f5]
 have hw:aa' .i64 ((xs.length:Int)-1)=(xs.length:Int)-1:=er ag ag;refine hs ?_;refine ae.cl [0,1] C I (σ:=Nat×a6) (fun q=>[(3,.int .i64 ((q.1:Int)-1))]) (fun q=>q.2) (fun q=>q.1≤xs.length∧Go (uu xs q.1) q.2) (fun q=>q.1) (xs.length,K) ⟨i0 _,bm⟩ (by repeat (first|exact trivial|refine ⟨⟨_,rfl,aM⟩,?_⟩|refine ⟨⟨_,rfl,aR.of_eq (by (rw [jI,hw]))⟩,?_⟩)) (aH.all _) ?_;rintro ⟨jb,iw⟩ ⟨hm,dZ⟩ I;simp only at hm dZ I ⊢;cases jb with
 | zero=>
  refine bG ?_;exact Fin.bu I C aM (aH.all _) (.inl ⟨rfl,.inl dZ⟩)
 | succ m=>
 have so:(((m+1:Nat):Int)-1)=(m:Int):=by omega
 simp only [so];obtain ⟨x,ab,ct⟩:=cf (f:=bb) (show m<xs.length by omega);rw [uu,show xs.getD m 0=x by rw [d5,ab];rfl] at dZ;have ax:=om _ _ iw dZ;unfold Ho Hp at ax;unfold bb at ct;refine bG ?_;refine aa.gr C C C C C C ax I (aH.all _) ?_ ?_
 ·rintro x aN (⟨⟨⟩,-,h⟩|⟨⟨⟩,h⟩|⟨_,⟨⟩,_⟩) I
  all_goals rw [d8] at I ⊢
  ·refine bG ?_
   exact bF.mk (m,aN) I ⟨by omega,h⟩ (by repeat (first|exact trivial|refine ⟨⟨_,rfl,aM⟩,?_⟩|refine ⟨⟨_,rfl,aR.of_eq zO⟩,?_⟩)) (aH.all _) (by show m<m+1;omega)
  ·refine fB ?_
   exact Fin.bu I C aM (aH.all _) (.inl ⟨rfl,.inr h⟩)
 ·rintro x aN (⟨h,_⟩|⟨h,_⟩|⟨v,⟨⟩,h⟩) I
  ·cases h
  ·cases h
  rw [d8] at I ⊢;exact Fin.e6 I aM (aH.all _) (.inr ⟨_,rfl,h⟩)
theorem W2 (xs:List Int):aU d0 111 [bk xs] (.func 152 [] [.bs [.ay 1 (xs.map bb) .aZ] 0]):=by
 have an:=bC;refine aU.bn aj Tryz.func111 C C fun s I=>?_
 unfold bk;refine gO ?_;exact bA I
section
variable {J:ak→Prop} {P:Program} {Γ:cj} {N:Nat} {l:List Oper} {Q:bX→Env→ak→Prop} {env:Env} {s:ak} {m:Nat}
theorem bh.two {i j:Nat} {ya yb:Oper} {Hq Hr:Nat} {Hs Ht:af} (cZ:J s) (aC:eD l.toArray m (idxs 0 l)=[i,j]) (eF:ad0 i j=false)
  (aS:l.toArray[i]? = some ya) (Hu:ya.dst=some Hq) (W3:i9 Hq N=true) (W4:guardOf l.toArray (ij env (looks l.toArray ya)) ya=some true) (W5:aW P N ya (ij env (looks l.toArray ya)) s (fun x ai=>x=Hs∧ai=s) (fun _ _=>False))
  (aO:l.toArray[j]? = some yb) (Hv:yb.dst=some Hr) (W6:i9 Hr N=true) (W7:guardOf l.toArray (ij env (looks l.toArray yb)) yb=some true) (W8:aW P N yb (ij env (looks l.toArray yb)) s (fun x ai=>x=Ht∧ai=s) (fun _ _=>False))
  (sq:bh J P Γ N l.toArray Q (bQ (m|||2^i)) ((Hq,Hs)::env) s) (W9:bh J P Γ N l.toArray Q (bQ (m|||2^j)) ((Hr,Ht)::env) s):bh J P Γ N l.toArray Q (bQ m) env s:=by
 have cp:i≠j:=fun e=>by subst e;rw [show ad0 i i=true from Nat.beq_refl i] at eF;cases eF
 have ff:∀ k,gZ l.toArray (bQ m) k→k=i∨k=j:=fun k aD=>by
  have:=za aD (l:=idxs 0 l) (by rw [xc,List.mem_range'_1];have:=aD.1;simp at this;omega);rw [aC] at this;simpa using this
 have iM:gZ l.toArray (bQ m) i:=by
  have fV:i∈eD l.toArray m (idxs 0 l):=by rw [aC];exact i5 ..
  have:∀ is,i∈eD l.toArray m is→h6 l.toArray m i=true:=by
   intro is
   induction is with
   | nil=>intro h;cases h
   | cons j is aX=>
    intro h;simp only [eD] at h;split at h
    ·rename_i an
     rcases ad4.1 h with rfl|h
     ·exact an
     ·exact aX h
    ·exact aX h
  exact sr.1 (this _ fV)
 refine bh.split (fun k x ai=>(k=i→x=Hs)∧(k=j→x=Ht)∧ai=s) (fun _ _ _=>False) ⟨i,iM.1,iM.2.1⟩ (fun k o' aD cr=>?_) (fun k o' aD cr x ai bm => .inl (by rw [bm.2.2];exact cZ)) (fun k o' cX aD cr cc x ai bm=>?_) (fun k o' aD cr cc x ai bm=>?_) (fun k o' aD cr x ai ic=>ic.elim)
 ·rcases ff k aD with rfl|rfl
  ·rw [aS] at cr;cases cr
   exact ⟨W4,W5.mono (fun x ai h=>⟨fun _=>h.1,fun e=>absurd e cp,h.2⟩) (fun _ _ h=>h),fun cX cc=>by rw [Hu] at cc;cases cc;simpa [Nat.blt_eq] using W3⟩
  ·rw [aO] at cr;cases cr
   exact ⟨W7,W8.mono (fun x ai h=>⟨fun e=>absurd e.symm cp,fun _=>h.1,h.2⟩) (fun _ _ h=>h),fun cX cc=>by rw [Hv] at cc;cases cc;simpa [Nat.blt_eq] using W6⟩
 ·obtain ⟨U,ad,rfl⟩:=bm
  rcases ff k aD with rfl|rfl
  ·rw [aS] at cr;cases cr
   rw [Hu] at cc;cases cc;rw [oe,U C];exact sq
  ·rw [aO] at cr;cases cr
   rw [Hv] at cc;cases cc;rw [oe,ad C];exact W9
 ·rcases ff k aD with rfl|rfl
  ·rw [aS] at cr;cases cr
   rw [Hu] at cc;cases cc
  ·rw [aO] at cr;cases cr
   rw [Hv] at cc;cases cc
theorem bh.Hw {L R:a6} (i:Nat) (aP:bM P Γ) (I:Ok s L) (cZ:J (aQ s L)) {o:Oper} {d:Nat} {t T:TypeId} {x:Operand} {dM:bL} {b off:Nat} {cs:List af} {v:af} (aC:eD l.toArray m (idxs 0 l)=[i]) (ah:l.toArray[i]? = some o) (av:o.dst=some d) (aY:i9 d N=true)
  (au:cY l env o) (bV:o.op = .load t x) (aK:Γ.get? t=some dM) (ab:aJ (bU l env o) x=some (.ptr b off)) (ao:bl L (.own b) (.box T cs) R) (ar:hD dM cs off=some v)
  (h:bh J P Γ N l.toArray Q (bQ (m|||2^i)) ((d,v)::env) (aQ s L)):bh J P Γ N l.toArray Q (bQ m) env (aQ s L):=
 bh.one aC ah av aY au (aW.ey aP I bV aK ab ao ar (X:=fun _ _=>False)) (fun x ai ⟨_,ad⟩ => .inl (by rw [ad];exact cZ)) (fun x ai ⟨U,ad⟩=>by subst U;subst ad;exact h) (fun _ _ h=>h.elim)
theorem bh.Nb (i:Nat) (aP:bM P Γ) (cZ:J s) {o:Oper} {d:Nat} {t dH eW:TypeId} {x y:Operand} {ok:Bool} {it gp aG:bL} {b:Nat} {es:List (af×af)} {k z:af} {r:Option af} (aC:h6 l.toArray m i=true) (ah:l.toArray[i]? = some o) (av:o.dst=some d) (aY:i9 d N=true)
  (au:cY l env o) (bV:o.op = .lookup t x y ok) (aK:Γ.get? t=some it) (br:it.bE = .map dH eW) (iX:Γ.get? dH=some gp) (bH:Γ.get? eW=some aG) (ab:aJ (bU l env o) x=some (.map b)) (ax:aJ (bU l env o) y=some k)
  (ao:∀ s,J s→s b=some (.map es)) (a1:jO gp.bE k=true) (oT:iJ es k=some r) (bP:ho aG.zero=some z)
  (h:bh J P Γ N l.toArray Q (bQ (m|||2^i)) ((d,la ok z r)::env) s):bh J P Γ N l.toArray Q (bQ m) env s:=
 bh.p5 cZ aC ah av aY au (fun s gY=>aW.lookup aP bV aK br iX bH ab ax (.inl ⟨b,rfl,ao s gY⟩) a1 oT bP) h
end
theorem Nc {w:World} {p:bO}:∀ {yss:List (List af)} {us:List Value},bD w p us (yss.map af.agg)→bD w p (flat us) yss.flatten
  | [],us,h=>by cases h;exact .nil
  | c::r,us,h=>by
    cases h with
    | cons u _ u1 _ hu aK=>
    cases hu with
    | agg cs _ aF=>
    have:=Nc aK;rw [List.flatten_cons,show flat (Value.agg cs::u1)=cs.toList++flat u1 by simp [flat,Value.cells]];exact bD.append aF this
section
variable {P:Program} {Γ:cj} {N:Nat} {ops:Array Oper} {Q:bX→Env→ak→Prop} {env:Env} {s:ak} {l:List Oper} {o:Oper} {d:Nat} {L R:a6}
theorem W' (aP:bM P Γ) {w:World} {p:bO} {S:ak} (b5:df w p S) {t bI e ty:TypeId} {it cz aG:bL} {bW sz:Nat} {olds:List Value} {xs:List af} {yss:List (List af)} {dx:bN} {base:Option Addr} {n cap:Nat} {p7:Value}
  (aK:Γ.get? t=some it) (br:it.bE = .ay e) (c4:Γ.get? bI=some cz) (dC:∀ k,cz.bE ≠ .int k) (bH:Γ.get? e=some aG) (U:aG.size=sz) (d':ad0 aG.zero.cells.size aG.size=true)
  (aC:bD w p olds xs) (aA:n*sz=xs.length) (se:(Builtin.firstCells sz n (.slice base n cap)).run P w.drew = .ok olds.toArray w.drew) (ax:Rel w p p7 (.ay bW (yss.map af.agg) dx)) (c':bW=sz) (h4:∀ c∈yss,c.length=sz)
  (az:cap<n+yss.length) (an:(n+yss.length)*aG.bytes≤140737488355328) (en:n+yss.length≤9223372036854775807) :
  ∃ aT b8 cs' w',(Builtin.append_ #[t,bI] ty #[.slice base n cap,p7]).run P w = .ok (.slice (some ⟨aT,0,none⟩) (n+yss.length) b8) w'∧S aT=none∧c8 w p w' p∧Kept S (S.set aT (.box e cs')) w p w' p∧df w' p (S.set aT (.box e cs')) ∧
   cs'.length=b8*sz∧n+yss.length≤b8∧cs'.take ((n+yss.length)*sz)=xs++yss.flatten:=by
 obtain ⟨info,d,g1,g2,g3,-⟩:=aP.parts aK;obtain ⟨l8,cX,dV,dg,dB,-⟩:=aP.parts c4;obtain ⟨jx,jZ,cv,db,e8,ew,jy,iY⟩:=aP.parts bH;have av:d = .slice e:=by rw [br] at g3;cases d<;>simp [eh] at g3;rw [g3]
 subst av;have cc:∀ k,cX ≠ .int k:=fun k e'=>by subst e';exact dC k dB.symm
 obtain ⟨us,h3,oX,jz,jQ,sg,sh,si⟩:=pS ax (.inr c');rw [f5] at jz jQ;subst c';have s0:bD w p (flat us) yss.flatten:=Nc h3;have mc:=s0.length;have fl:=growslice_fits (need:=n+yss.length) (old:=cap) (bytes:=aG.bytes) az an;have cK:=yW (ty:=ty) w g2 dg cc cv iY (base:=base) (sLen:=n) (sCap:=cap) (m:=yss.length) (olds:=olds) (news:=flat us) (jz P)
  (by rw [ew,U];exact se) (by rw [ew,U];exact jQ P w.drew (fun _ _ _=>rfl)) az ag (by rw [jy];exact fl)
 have mS:n+yss.length≤grownCap w (n+yss.length) cap e:=by simp [grownCap,Question.cut]
 have gh:olds.length=n*bW:=by rw [aC.length,aA]
 have n6:=ab' d';generalize sf:(Builtin.zeroCells aG.zero.cells (grownCap w (n+yss.length) cap e-(n+yss.length))).toList=aV at cK;have mT:aV.length=(grownCap w (n+yss.length) cap e-(n+yss.length))*bW:=by
  rw [← sf,MP,n6,U]
 generalize grownCap w (n+yss.length) cap e=G at cK mS mT;have vA:=w1 b5
 obtain ⟨ao,hle,aD,ku⟩:=qR vA (.cells (olds++flat us++aV).toArray e (0,0)) (.box e (xs++yss.flatten++aV.map fun _ => .any)) (fun w' h2 ar fq=>⟨_,h2,by
  refine bD.append (bD.append (fq _ _ (show bD w.drew p olds xs from aC.mono kn)) (fq _ _ (s0.mono kn))) (bD.zn aV),fun o aE=>absurd (b5.lt _ _ aE) (by show ¬ w.heap.size<w.heap.size;omega)⟩)
 rw [show w.drew.heap.size=w.heap.size from rfl] at ao aD ku;have hm:(n+yss.length)*bW=n*bW+yss.length*bW:=ah8 ..;have jX:=Wt h4;refine ⟨w.heap.size,G,xs++yss.flatten++aV.map (fun _=>af.any),_,cK,ao,kn.trans hle,(uR (w:=w) (p:=p)).trans (kn (w:=w) (p:=p)).size aD,ku,?_,mS,?_⟩
 ·simp only [d9,f5,mT]
  rw [← aA,jX,← hm,← ah8];congr 1;omega
 ·rw [ag2 (by rw [d9,jX];omega),ae8 (by rw [d9,jX];omega)]
theorem aW.Hx (aP:bM P Γ) (I:Ok s L) {t bI e:TypeId} {x y:Operand} {it cz aG:bL} {ed bW sz:Nat} {yss:List (List af)} {dx:bN}
    (ah:o.op = .call { callee := .builtin .append,args := #[x,y],argTypes := #[t,bI] }) (aK:Γ.get? t=some it) (br:it.bE = .ay e) (c4:Γ.get? bI=some cz) (dC:∀ k,cz.bE ≠ .int k)
    (bH:Γ.get? e=some aG) (U:aG.size=sz) (d':ad0 aG.zero.cells.size aG.size=true) (ab:aJ env x=some (.ay ed [] .clip)) (ax:aJ env y=some (.ay bW (yss.map af.agg) dx)) (c':bW=sz) (h4:∀ c∈yss,c.length=sz) (cp:1≤yss.length) (an:yss.length*aG.bytes≤140737488355328) (en:yss.length≤9223372036854775807)
    {X:af→ak→Prop}:aW P N o env (aQ s L) (fun r ai=>G' s L e sz yss.length yss.flatten r ai) X:=by
  refine aW.jY iN fun ro B a w p aI=>?_
  have fN:=aI.aJ ab;have fe:=aI.aJ ax;have eC:=fun val w'=>tE (P:=P) (a:=a) (val:=val) (w:=w) (w':=w') ah
  generalize ei:a.eval x=dG at fN eC;generalize e9:a.eval y=fJ at fe eC;have sA:∃ base,dG = .slice base 0 0:=by
    cases fN with
    | hL=>exact ⟨_,rfl⟩
    | ib a _ _ h=>exact ⟨_,rfl⟩
    | ay g off n cap _ vs _ _ aA aB aF aC ao hm aD cu ah=>
      have U:n=0:=aB;have ad:=cu C;subst U;subst ad;exact ⟨_,rfl⟩
  obtain ⟨base,rfl⟩:=sA
  obtain ⟨aT,b8,cs',w',fg,gf,hg,iL,lM,lN,mq,mr⟩:=W' (ty:=o.type) aP aI.wf (base:=base) (n:=0) (cap:=0) (olds:=[]) (xs:=[]) aK br c4 dC bH U d' .nil bc (by
    cases base with
    | none=>
      have:=run_firstCells_none (P:=P) w.drew sz 0 0 0
      simpa using this
    | some a=>exact run_firstCells_some w.drew sz 0 a _ _ [] bc bc) fe c' h4 ag (by simpa using an) ag
  rw [ad8] at fg mq mr;exact ⟨_,w',_,p,_,eC _ _ fg,hg,iL,lM,⟨aT,b8,cs',rfl,rfl,⟨gf,I⟩,lN,mq,by simpa using mr⟩,.hl _⟩
theorem aa.Hx (aP:bM P Γ) (I:Ok s L) {t bI e:TypeId} {x y:Operand} {it cz aG:bL} {ed bW sz:Nat} {yss:List (List af)} {dx:bN} (au:guardOf ops env o=some true) (av:o.dst=some d) (aY:i9 d N=true)
  (ah:o.op = .call { callee := .builtin .append,args := #[x,y],argTypes := #[t,bI] }) (aK:Γ.get? t=some it) (br:it.bE = .ay e) (c4:Γ.get? bI=some cz) (dC:∀ k,cz.bE ≠ .int k)
  (bH:Γ.get? e=some aG) (U:aG.size=sz) (d':ad0 aG.zero.cells.size aG.size=true) (ab:aJ env x=some (.ay ed [] .clip)) (ax:aJ env y=some (.ay bW (yss.map af.agg) dx)) (c':bW=sz) (h4:∀ c∈yss,c.length=sz) (cp:1≤yss.length) (an:yss.length*aG.bytes≤140737488355328) (en:yss.length≤9223372036854775807)
  (h:∀ aT b8 cs',cs'.length=b8*sz→yss.length≤b8→cs'.take (yss.length*sz)=yss.flatten→Ok s ((.own aT,.box e cs')::L)→aa P N ops l Q ((d,ea aT yss.length b8)::env) (aQ s ((.own aT,.box e cs')::L))):aa P N ops (o::l) Q env (aQ s L):=by
 refine aa.op au av aY (aW.Hx aP I ah aK br c4 dC bH U d' ab ax c' h4 cp an en (X:=fun _ _=>False)) ?_ (fun _ _ h=>h.elim);rintro r ai ⟨aT,b8,cs',rfl,rfl,ad,al,bd,bB⟩;exact h aT b8 cs' al bd bB ad
end
theorem Dk (g:List bJ):g.map eS=(g.map hy).map af.agg:=by rw [aq3];rfl
theorem Xa (g:List bJ) (own:bN) (U:1≤g.length) (aB:g.length≤1000):bz d0 109 [.ay 4 (g.map eS) own] [] (fun o K=>∃ b cap cs,x7 (some (b,cap,cs)) g∧o = .ret (ea b g.length cap)∧K=[(.own b,.box 69 cs)]):=by
 refine bz.bn aj Tryz.func109 C C fun s I=>?_
 refine dz ?_;refine aa.op C C C (aW.vL aj C C C C (X:=fun _ _=>False)) ?_ (fun _ _ h=>False.elim h);rintro r ai ⟨rfl,⟨rfl,aA⟩|rfl⟩
 ·have:g=[]:=List.map_eq_nil_iff.1 aA
  rw [this] at U;simp at U
 ·refine bG ?_
  refine aa.Hx aj I (yss:=g.map hy) C C C C C C C ef C C C C (by rw [← Dk];rfl) C (oM g) vy (by rw [f5];show _*48≤_;omega) m9 (fun dL f' fM cP c9 eP I=>?_);refine dY ?_;exact Fin.bu I C (aR.of_eq (by rw [f5])) a7 ⟨dL,f',fM,⟨cP,by simpa using c9,by simpa using eP⟩,rfl,rfl⟩
theorem Xb (g:List bJ):(h' g g.length).map bb=t6 g.length (.int .i64 0):=by
 unfold h';rw [au8,c2,d8,at8];rfl
theorem Xc (g:List bJ):kJ g g.length=g:=by
 unfold kJ;rw [au8,c2,d8,ac']
def qI (N:List bJ) (an ia jl wC dt:Nat) (order:List Int) (num:List (af×af)) (one:List Int) (own:bN) (bx:Az) (done:List bJ):a6:=[(.own wC,.box 28 [jK bx done]),(.own ia,.box 23 [.ay 1 (order.map bb) .aZ]),(.own jl,.box 163 [nX N an jl ia]),(own,.row 3 1 order.length),(.own an,.map num),(.own dt,.box 3 (one.map bb))]++jk bx
def na (N:List bJ) (order:List Int) (eX:Int):bJ:=let x:=N.getD eX.toNat default
 if x.atom≥0 then { x with no:=(order.length:Int)-1-placeOf order x.no,yes:=(order.length:Int)-1-placeOf order x.yes } else x
def Hy (ia an qJ:Nat) (order:List Int) (num:List (af×af)) (x:bJ) (ai:ak):Prop:=ai ia=some (.box 23 [.ay 1 (order.map bb) .aZ])∧ai an=some (.map num)∧∃ v,ai qJ=some (.box 69 [.int .i64 x.atom,v,.int .i64 x.yes,.ay 1 (x.ms.map bb) .aZ])
def nY (g:List bJ) (oN s7 dt cap m:Nat) (cs:List af):a6:=[(.own oN,.box 28 [ea s7 g.length cap]),(.own s7,.box 69 cs),(.own dt,.box 3 ((h' g m).map bb))]
theorem Nd (g:List bJ) (au:rM g):bz d0 63 [.ay 4 (g.map eS) .aZ] [] (fun o K=>o = .ret (.ay 4 ((small g).map eS) .aZ)∧K=[]):=by
  have ns:bt=1099511627776:=rfl;have rp:=au.pos;have nL:=au.len;have cu:=Xa g .aZ au.pos au.len;refine bz.bn aj Tryz.func63 C C fun s I=>?_
  refine cD ?_;refine aa.xC aj I (g.map eS).length C C C C C C C C C C C C (by rw [f5];show _*8≤_;omega) m9 (fun dt I=>?_);refine hQ ?_;refine aa.bZ rfl rfl rfl rfl rfl cu I .nil ?_ (fun _ _ ⟨_,_,_,_,h,_⟩ _=>by cases h);rintro _ _ ⟨s7,cap,Xd,Xe,⟨⟩,rfl⟩ I;simp only [f5,t8,d7] at I ⊢
  repeat (first|(refine R5 I ?_;clear I;intro I)|refine aa.dO aj I rfl rfl rfl rfl rfl rfl rfl (fun cy I=>?_))
  obtain ⟨oN,rfl⟩:∃ x,x=cy:=⟨_,rfl⟩;have jo:=Xb g;have jI:((g.map eS).length:Int)=(g.length:Int):=by rw [f5]
  have hw:aa' .i64 ((g.length:Int)-1)=(g.length:Int)-1:=er ag ag;refine ae.cl [0,3,4] C I (σ:=Nat×List af) (fun q=>[(5,.int .i64 ((q.1:Int)-1))]) (fun q=>nY g oN s7 dt cap q.1 q.2) (fun q=>q.1≤g.length∧x7 (some (s7,cap,q.2)) (kJ g q.1)) (fun q=>q.1) (g.length,Xd) ⟨i0 _,by rw [Xc];exact Xe⟩ (by repeat (first|exact trivial|refine ⟨⟨_,rfl,aM⟩,?_⟩|refine ⟨⟨_,rfl,aR.of_eq (by (rw [jI,hw]))⟩,?_⟩)) (by unfold nY;simp only [jo];exact a7) ?_;rintro ⟨jb,cs⟩ ⟨hm,fi⟩ I;simp only at hm fi I ⊢;cases jb with
  | zero=>
    have Xf:kJ g 0=(c2 0 g).2:=by unfold kJ;simp
    have Xg:h' g 0=(c2 0 g).1:=by unfold h';simp
    obtain ⟨Xh,lW⟩:=s5 g 0;have lL:=Hj (n:=g.length) g 0 ag (fun k x ab a8=>by have:=au.eX k x ab a8;rw [ad8];exact this);have Dl:Down (c2 0 g).2:=fun i x ab a8=>by
      have rB:=(ac1.1 ab).1;have:=(lL i ag).2.2.2;rw [d5,ab] at this;have:=this a8;simp only [ae7] at this;omega
    obtain ⟨AF,Nf⟩:∃ AF,(c2 0 g).1[0]? = some AF:=⟨_,f8 ag⟩;have Ng:(c2 0 g).1.getD 0 0=AF:=by rw [d5,Nf];rfl
    have Xi:=(lL 0 ag).1;rw [Ng] at Xi;obtain ⟨a0,rfl⟩:∃ a:Nat,AF=a:=⟨AF.toNat,by omega⟩;have yc:small g=(meet (c2 0 g).2 (g.length+1) [] a0).reverse.map fun eX=>
        let x:=(c2 0 g).2.getD eX.toNat default
        if x.atom≥0 then { x with no:=((meet (c2 0 g).2 (g.length+1) [] a0).length:Int)-1-placeOf (meet (c2 0 g).2 (g.length+1) [] a0) x.no,yes:=((meet (c2 0 g).2 (g.length+1) [] a0).length:Int)-1-placeOf (meet (c2 0 g).2 (g.length+1) [] a0) x.yes } else x:=by
      unfold small;simp only [Ng]
    have h5:∀ x∈(c2 0 g).2,x.ms.length≤16:=fun x ab=>by
      obtain ⟨k,aD⟩:=ag7 ab;obtain ⟨w,m6,yd⟩:=Dg g 0 k x aD;rw [yd];exact au.ms w m6
    have Dm:nW (c2 0 g).2.length []:=⟨at3,fun _ h=>by cases h⟩;have Xj:=WZ (c2 0 g).2 ag Dl;have Dn:=(wB Dl (g.length+1) a0 ag ag [] Dm).1;have Xk:((c2 0 g).1.map bb)[0*1]? = some (.int .i64 ((a0:Nat):Int)):=by rw [Nat.zero_mul,ad7,Nf];rfl
    unfold nY at I ⊢;rw [Xg] at I ⊢;rw [Xf] at fi;generalize (c2 0 g).1=one at *;generalize (c2 0 g).2=N at *;obtain ⟨sc,pR,Nh⟩:=fi;rw [lW] at pR Nh;refine ae.Ay I 0 .here .here C Nh (by rw [f5,lW]) (oM _) pR ag (fun I=>?_);simp only [ax0,← Dk] at I ⊢;refine ae.mn I 4 oN C .here (fun I=>?_);refine di ?_;refine aa.q1 I C C C C (fun an I=>?_);refine aa.B4 aj C C C C C C C (fun _=>rfl) C C (fun _=>rfl) C C C C ?_
    repeat (first|(refine JT I ?_;clear I;intro I)|refine aa.dO aj I rfl rfl rfl rfl rfl rfl rfl (fun cy I=>?_))
    rename_i ia _;obtain ⟨jl,rfl⟩:∃ x,x=cy:=⟨_,rfl⟩;refine ae.ik I 3 1 0 fun I=>?_
    refine ae.oL I [.ay 1 [] .nil] (kb:=ia) aV (.one (aR.nil hh)) (fun I=>?_);have cS:=Xj an jl ia (g.length+1) a0 ag ag [] [] [] .nil pC.empty Dm (fun _ h=>by cases h);unfold rO nX at cS;refine sv I ?_;intro I;refine aL.gi aj 0 C C C C C C C C C C ag ?_;refine aL.k2 aj I C C C C C C aV C Xk ?_;skip;refine aL.gr rfl rfl rfl rfl rfl rfl rfl cS I a7 ?_ (fun _ _ h _=>by obtain ⟨_,_,_,h,_⟩:=h;cases h);rintro _ _ ⟨num,own,nN,⟨⟩,rfl⟩ I;simp only [d7,t8] at I ⊢;generalize meet N (g.length+1) [] a0=order at *;have hlen:=Dn.len;refine sw ?_;refine ae.oL I [.ay 1 (order.map bb) .aZ] (kb:=ia) aV (.one aR.aZ) (fun I=>?_);have Xl:=W2 order;unfold bk at Xl
    repeat (first|(refine R6 I ?_;clear I;intro I)|refine aa.dO aj I rfl rfl rfl rfl rfl rfl rfl (fun cy I=>?_)|(refine oi ?_))
    obtain ⟨wC,rfl⟩:∃ x,x=cy:=⟨_,rfl⟩
    rw [show (fun eX:Int=>let x:=N.getD eX.toNat default
        if x.atom≥0 then ({ x with no:=(order.length:Int)-1-placeOf order x.no,yes:=(order.length:Int)-1-placeOf order x.yes }:bJ) else x)=na N order from rfl] at yc
    have ts:=Na order order.length (i0 _);rw [ac'] at ts;have kj:(uu order order.length).length=order.length:=by
      have:=ac5 List.length ts;rwa [f5,at0] at this
    have eZ:∀ z:Int,la false (.int .i64 0) (if order.contains z then some (.int .i64 (placeOf order z)) else if ([]:List Int).contains z then some (.int .i64 (-1)) else none) = .int .i64 (placeOf order z):=fun z=>by
      cases aF:order.contains z with
      | true=>rfl
      | false=>rw [WX aF];rfl
    refine ae.KZ I C dE dE (W1 order ag) .nil (fun rem K=>∃ bx done,x7 bx done∧done.length+rem.length=order.length∧order.reverse.map (na N order)=done++rem.map (fun q=>na N order q.2)∧(∀ q∈rem,0≤q.2∧q.2<N.length)∧K=qI N an ia jl wC dt order num one own bx done) (fun _ _=>False) (fun _ _=>False) ⟨none,[],rfl,by rw [kj];simp,by rw [← ts,aq3];rfl,(fun q bp=>by
      have:q.2∈order.reverse:=by rw [← ts];exact List.mem_map_of_mem bp
      exact Dn.lt _ (List.mem_reverse.1 this)),rfl⟩ ?_ ?_ (fun _ _ h=>h.elim) (fun _ _ h=>h.elim)
    · rintro s₁ ⟨acs,eX⟩ rem K ⟨bx,done,dj,vO,uv,pD,rfl⟩ I
      have Xm:=pD _ i5;simp only at Xm;obtain ⟨a,rfl⟩:∃ a:Nat,eX=a:=⟨eX.toNat,by omega⟩;obtain ⟨x,ab,ct⟩:=cf (f:=eS) (l:=N) (show a<N.length by omega);have ye:na N order a=if x.atom≥0 then { x with no:=(order.length:Int)-1-placeOf order x.no,yes:=(order.length:Int)-1-placeOf order x.yes } else x:=by
        unfold na;simp only [ac3,d5,ab,ae7]
      rw [ac0,i7] at *;have cu:=zT x.ms .aZ (by have:=h5 x (d6 ab);omega);have zF:=M6 order x.no;have abl:=M6 order x.yes;unfold eS hy bk at ct;unfold Ho Hp;unfold qI nX at I ⊢;simp only [t8,d7] at I ⊢;have nq:=eZ x.no;have Hz:=eZ x.yes;have uw:=nN.get x.no;have Ni:=nN.get x.yes;generalize (if order.contains x.no then some (af.int .i64 (placeOf order x.no)) else if ([]:List Int).contains x.no then some (af.int .i64 (-1)) else none)=aco at nq uw;generalize (if order.contains x.yes then some (af.int .i64 (placeOf order x.yes)) else if ([]:List Int).contains x.yes then some (af.int .i64 (-1)) else none)=acd at Hz Ni;by_cases dP:x.atom≥0
      · rw [f9 dP] at ye
        have b7:aa' .i64 (aa' .i64 ((order.length:Int)-1)-placeOf order x.no)=(order.length:Int)-1-placeOf order x.no:=by
          rw [er (n:=(order.length:Int)-1) ag ag,er ag ag]
        have bR:aa' .i64 (aa' .i64 ((order.length:Int)-1)-placeOf order x.yes)=(order.length:Int)-1-placeOf order x.yes:=by
          rw [er (n:=(order.length:Int)-1) ag ag,er ag ag]
        repeat (first|(refine JU I ?_;clear I;intro I)|refine aa.dO aj I rfl rfl rfl rfl rfl rfl rfl (fun cy I=>?_)|(refine oi ?_))
        refine ae.cond C (fun _=>?_) (fun h=>absurd dP gT);skip;obtain ⟨qJ,rfl⟩:∃ x,x=cy:=⟨_,rfl⟩;have qK:=(⟨bl.get aV I,bl.get aV I,.int .i64 x.no,bl.get aV I⟩:Hy ia an qJ order num x _);refine ae.nu (Hy ia an qJ order num x) aj mixed C (bh.run qK C ?_);refine bh.mo 0 aj qK C C C C C C C C (fun _ h=>h.1) b1 ?_;refine bh.mo 8 aj qK C C C C C C C C (fun _ h=>h.1) b1 ?_;refine bh.Sr 13 aj qK rfl rfl rfl rfl rfl rfl rfl rfl (fun _ h=>by obtain ⟨_,_,v,h⟩:=h;exact ⟨_,_,h,rfl⟩) ?_;refine bh.run qK C ?_;refine bh.Nb 14 aj qK C C C C C C C C C C C C (fun _ h=>h.2.1) C Ni C ?_;rw [Hz];refine bh.run qK C ?_;refine bh.Hw 5 aj I qK C C C C C C C C aV b1 ?_;refine bh.run qK C ?_;refine bh.Nb 6 aj qK C C C C C C C C C C C C (fun _ h=>h.2.1) C uw C ?_;rw [nq];refine bh.run qK C ?_;refine bh.cN 17 aj I C C C C C C C C C C C aV C (fun I => .inl ⟨bl.get aV I,bl.get aV I,_,bl.get aV I⟩) (fun I=>?_);refine bh.run (⟨bl.get aV I,bl.get aV I,_,bl.get aV I⟩:Hy ia an qJ order num x _) C ?_;refine bh.cN 19 aj I C C C C C C C C C C C aV C (fun _ => .inr C) (fun I=>?_);refine ba.done C ?_;rcases bx with _|⟨g2,f',fM⟩
        · have bo:done=[]:=dj
          subst bo;unfold jK jk at I ⊢;refine cm I ?_;intro I;refine aa.rH aj I C C C C C C C ef C C C C C C C dE (fun dL f' fM cP c9 eP I=>?_);refine cm I ?_;intro I;exact At.mk (qI N an ia jl wC dt order num one own (some (dL,f',fM)) ([]++[na N order a])) I (by simp only [qI,jk,jK,nX,t8,d7,d9,i7,ae1];exact a7) ⟨trivial,some (dL,f',fM),[]++[na N order a],⟨cP,uc,by rw [x8,ye];refine eP.trans ?_;rw [← b7,← bR,f5];rfl⟩,by simp at vO ⊢;omega,by rw [uv];simp,fun q bp=>pD q (g7 _ bp),rfl⟩
        · obtain ⟨fg,gf,hg⟩:=dj
          unfold jK jk at I ⊢;refine cm I ?_;intro I;refine aa.rI aj I C C C C C C C ef C C C C aV fg gf C C C C (by show (done.length+1)*48≤_;omega) ag (fun dL f' fM cP c9 eP I=>?_);refine cm I ?_;intro I;exact At.mk (qI N an ia jl wC dt order num one own (some (dL,f',fM)) (done++[na N order a])) I (by simp only [qI,jk,jK,nX,t8,d7,d9,i7,ae1];exact a7) ⟨trivial,some (dL,f',fM),done++[na N order a],⟨cP,uc,by rw [x8,ye,d9,i7,ae1,← hg];refine eP.trans ?_;rw [← b7,← bR,f5];rfl⟩,by simp at vO ⊢;omega,by rw [uv];simp,fun q bp=>pD q (g7 _ bp),rfl⟩
      · rw [f0 dP] at ye
        repeat (first|(refine JU I ?_;clear I;intro I)|refine aa.dO aj I rfl rfl rfl rfl rfl rfl rfl (fun cy I=>?_)|(refine oi ?_))
        refine ae.cond C (fun h=>absurd gT dP) (fun _=>?_);refine cm I ?_;intro I;rcases bx with _|⟨g2,f',fM⟩
        · have bo:done=[]:=dj
          subst bo;unfold jK jk at I ⊢;skip;refine aa.rH aj I C C C C C C C ef C C C C C C C dE (fun dL f' fM cP c9 eP I=>?_);refine cm I ?_;intro I;exact At.mk (qI N an ia jl wC dt order num one own (some (dL,f',fM)) ([]++[na N order a])) I (by simp only [qI,jk,jK,nX,t8,d7,d9,i7,ae1];exact a7) ⟨trivial,some (dL,f',fM),[]++[na N order a],⟨cP,uc,by rw [x8,ye];refine eP.trans ?_;rfl⟩,by simp at vO ⊢;omega,by rw [uv];simp,fun q bp=>pD q (g7 _ bp),rfl⟩
        · obtain ⟨fg,gf,hg⟩:=dj
          unfold jK jk at I ⊢;skip;refine aa.rI aj I C C C C C C C ef C C C C aV fg gf C C C C (by show (done.length+1)*48≤_;omega) ag (fun dL f' fM cP c9 eP I=>?_);refine cm I ?_;intro I;exact At.mk (qI N an ia jl wC dt order num one own (some (dL,f',fM)) (done++[na N order a])) I (by simp only [qI,jk,jK,nX,t8,d7,d9,i7,ae1];exact a7) ⟨trivial,some (dL,f',fM),done++[na N order a],⟨cP,uc,by rw [x8,ye,d9,i7,ae1,← hg];refine eP.trans ?_;rfl⟩,by simp at vO ⊢;omega,by rw [uv];simp,fun q bp=>pD q (g7 _ bp),rfl⟩
    · rintro K ⟨bx,done,dj,vO,uv,-,rfl⟩ I
      rw [ae3,d8] at uv;rw [← uv,← yc] at dj;refine sw ?_;rw [← uv,← yc] at I ⊢;unfold qI at I ⊢;rcases bx with _|⟨g2,f',fM⟩
      · have bo:small g=[]:=dj
        rw [bo];unfold jK;refine cm I ?_;intro I;exact Fin.bu I C aR.empty .nil ⟨rfl,rfl⟩
      · obtain ⟨fg,gf,hg⟩:=dj
        have v8:(small g).length≤1000:=by rw [yc,f5,at0];omega
        unfold jK jk at I ⊢;refine ae.Ay I 0 .here aV C hg (by rw [f5]) (oM _) gf ag (fun I=>?_);simp only [ax0,← Dk] at I ⊢;refine cm I ?_;intro I;exact Fin.bu I C aM .nil ⟨rfl,rfl⟩
  | succ m=>
  have az:m<g.length:=hm;have so:(((m+1:Nat):Int)-1)=(m:Int):=by omega
  obtain ⟨x,ab,-⟩:=cf (f:=eS) az;have aI:=M4 au ab;have HA:(kJ g (m+1))[m]? = some x:=by rw [WR g ag hm,ab]
  have i':=fun (k:Nat) (v:af) (aD:(hy x)[k]? = some v)=>MZ (oM _) fi.2.2 (by rw [ad7,HA];rfl) aD
  unfold nY at I ⊢;simp only [so] at I ⊢;refine ha I ?_;intro I;refine aa.gi aj m C C C C C C C C C C ag ?_;refine hQ ?_;refine aa.k2 aj I C C C C C C aV C (i' 0 _ C) ?_;refine ga ?_;refine ae.vw (σ:=List af) (fun _=>[(0,.ay 4 (g.map eS) .aZ),(3,ea dt g.length g.length),(4,.ptr oN 0),(5,.int .i64 (m:Int)),(6,.ptr s7 (m*4))]) (fun cs'=>nY g oN s7 dt cap (m+1) cs') (fun cs'=>x7 (some (s7,cap,cs')) ((kJ g (m+1)).set m (nV g m x))) ?_ ?_
  · refine ae.cond C (fun a8=>?_) (fun a8=>?_)
    · have a8:x.atom≥0:=by simpa using a8
      obtain ⟨Bp,yK,acf,ab3⟩:=au.eX m x ab a8
      have ih:=fun (z:Int) (U:(m:Int)<z) (ad:z<g.length)=>(show ((h' g (m+1)).map bb)[z.toNat*1]? = some (.int .i64 ((h' g (m+1)).getD z.toNat 0)) from by
        rw [ah2,ad7,d5,f8 (by rw [De g hm];omega)];rfl)
      have ri:=x6 (k:=1) (v := .int .i64 ((h' g (m+1)).getD x.no.toNat 0)) (oM _) fi.2.2 (by rw [ad7,HA];rfl) ag
      have ox:=x6 (k:=2) (v := .int .i64 ((h' g (m+1)).getD x.yes.toNat 0)) (fun c aF=>by
        rcases List.mem_or_eq_of_mem_set aF with aF|rfl
        · exact oM _ c aF
        · rfl) ri.2 (al6 (by rw [f5,Hk g hm];omega)) ag
      have Dp:nV g m x={ x with no:=(h' g (m+1)).getD x.no.toNat 0,yes:=(h' g (m+1)).getD x.yes.toNat 0 }:=by unfold nV;rw [f9 a8]
      have oV:=Hk g hm;have fl:m*4+3≤cs.length:=by rw [fi.1];have:=fi.2.1;omega
      have Nj:Nat.ble (m*4+1+[af.int .i64 ((h' g (m+1)).getD x.no.toNat 0)].length) cs.length=true:=by rw [Nat.ble_eq];show m*4+1+1≤_;omega
      have Nk:Nat.ble (m*4+2+[af.int .i64 ((h' g (m+1)).getD x.yes.toNat 0)].length) (eO (m*4+1) [af.int .i64 ((h' g (m+1)).getD x.no.toNat 0)] cs).length=true:=by rw [Nat.ble_eq,ri.1];show m*4+2+1≤_;omega
      skip;refine ae.nu (cQ [(dt,_)]) aj mixed C (bh.run (cQ.one (bl.get aV I)) C ?_);refine bh.two (i:=6) (j:=13) (cQ.one (bl.get aV I)) C C C C C C (aW.ey aj I C C C aV (pe C (i' 1 _ C))) C C C C (aW.ey aj I C C C aV (pe C (i' 2 _ C))) ?_ ?_
      · refine bh.gi 7 aj (cQ.one (bl.get aV I)) (j:=x.no.toNat) C C C C C C C C C C C ag ag ?_
        refine bh.mo 8 aj (cQ.one (bl.get aV I)) C C C C C C C C (fun _ h=>cQ.fst h) (pe C (ih x.no ag ag)) ?_;refine bh.Hw 13 aj I (cQ.one (bl.get aV I)) C C C C C C C C aV (pe C (i' 2 _ C)) ?_;refine bh.gi 14 aj (cQ.one (bl.get aV I)) (j:=x.yes.toNat) C C C C C C C C C C C ag ag ?_;refine bh.mo 15 aj (cQ.one (bl.get aV I)) C C C C C C C C (fun _ h=>cQ.fst h) (pe C (ih x.yes ag ag)) ?_;refine bh.run (cQ.one (bl.get aV I)) C ?_;refine bh.cN 18 aj I C C C C C C C C C C C aV Nj (fun I => .inl (cQ.one (bl.get aV I))) (fun I=>?_);refine bh.run (cQ.one (bl.get aV I)) C ?_;refine bh.cN 21 aj I C C C C C C C C C C C aV Nk (fun _ => .inr C) (fun I=>?_);refine ba.done C ?_;skip
        exact j4.mk _ I ⟨ox.1.trans (ri.1.trans fi.1),by rw [ae0];exact fi.2.1,by
          rw [ae0]
          refine ox.2.trans ?_
          rw [au7,an1,Dp]
          rfl⟩ (cI C) (by simp only [nY];exact a7)
      · refine bh.gi 14 aj (cQ.one (bl.get aV I)) (j:=x.yes.toNat) C C C C C C C C C C C ag ag ?_
        refine bh.mo 15 aj (cQ.one (bl.get aV I)) C C C C C C C C (fun _ h=>cQ.fst h) (pe C (ih x.yes ag ag)) ?_;refine bh.Hw 6 aj I (cQ.one (bl.get aV I)) C C C C C C C C aV (pe C (i' 1 _ C)) ?_;refine bh.gi 7 aj (cQ.one (bl.get aV I)) (j:=x.no.toNat) C C C C C C C C C C C ag ag ?_;refine bh.mo 8 aj (cQ.one (bl.get aV I)) C C C C C C C C (fun _ h=>cQ.fst h) (pe C (ih x.no ag ag)) ?_;refine bh.run (cQ.one (bl.get aV I)) C ?_;refine bh.cN 18 aj I C C C C C C C C C C C aV Nj (fun I => .inl (cQ.one (bl.get aV I))) (fun I=>?_);refine bh.run (cQ.one (bl.get aV I)) C ?_;refine bh.cN 21 aj I C C C C C C C C C C C aV Nk (fun _ => .inr C) (fun I=>?_);refine ba.done C ?_;skip
        exact j4.mk _ I ⟨ox.1.trans (ri.1.trans fi.1),by rw [ae0];exact fi.2.1,by
          rw [ae0]
          refine ox.2.trans ?_
          rw [au7,an1,Dp]
          rfl⟩ (cI C) (by simp only [nY];exact a7)
    · have a8:¬ x.atom≥0:=by simpa using a8
      have Dp:nV g m x=x:=by unfold nV;rw [f0 a8]
      refine gg ?_;exact j4.mk cs I (by rw [Dp,fT HA];exact fi) (cI C) (by simp only [nY];exact a7)
  intro cs' AG I;generalize z':nV g m x=y at AG aI;have oV:=Hk g hm;have ox:(c2 (m+1) (g.drop (m+1))).2.length=g.length-(m+1):=by rw [(s5 _ _).2,List.length_drop]
  have Xn:∀ j,((kJ g (m+1)).set m y)[m+1+j]? = (c2 (m+1) (g.drop (m+1))).2[j]? := fun j=>by
    rw [aq7 ag,WQ g hm]
  have Xo:((kJ g (m+1)).set m y)[m]? = some y:=al6 ag;have Dq:=fun (k:Nat) (v:af) (aD:(hy y)[k]? = some v)=>MZ (oM _) AG.2.2 (by rw [ad7,Xo];rfl) aD
  have Nl:(kJ g (m+1)).set m y=kJ g m:=WT az aI C;have Xp:(g.length:Int)-1=((m+(g.length-1-m):Nat):Int):=by omega
  unfold nY at I ⊢;refine hs ?_;refine ae.cl [0,3,4,5,6] C I (σ:=Nat) (fun c=>[(7,.int .i64 ((m+c:Nat):Int))]) (fun _=>nY g oN s7 dt cap (m+1) cs') (fun c=>m+c<g.length∧nz (rN g m y) 0 (c2 (m+1) (g.drop (m+1))).2=nz (rN g m y) 0 ((c2 (m+1) (g.drop (m+1))).2.take c)) (fun c=>c) (g.length-1-m) ⟨by omega,by rw [ae8 ag]⟩ (by repeat (first|exact trivial|refine ⟨⟨_,rfl,aM⟩,?_⟩|refine ⟨⟨_,rfl,aR.of_eq (by (rw [jI,hw,Xp]))⟩,?_⟩)) (by simp only [nY];exact a7) ?_;rintro c ⟨aF,aw⟩ I;simp only [nY] at aF aw I ⊢;cases c with
  | zero=>
    rw [aw,aj8,nz] at aI;refine ck ?_;refine ae.cond C (fun h=>by simp at h) (fun _=>?_);refine bG ?_;refine aa.gi aj m C C C C C C C C C C ag ?_;refine aa.lY aj I _ C C C C C C C C C aV (by rw [f5,De g hm];show m*1+1≤_;omega) C (fun I=>?_);have xJ:eO (m*1) [.int .i64 (m:Int)] ((h' g (m+1)).map bb)=(h' g m).map bb:=by
      rw [rj,ah2,← M5 aI C,an1];rfl
    refine hI ?_;exact bF.mk (m,cs') I ⟨by omega,by rw [← Nl];exact AG⟩ (by repeat (first|exact trivial|refine ⟨⟨_,rfl,aM⟩,?_⟩|refine ⟨⟨_,rfl,aR.of_eq zO⟩,?_⟩)) (by simp only [nY,← xJ];exact a7) (by show m<m+1;omega)
  | succ c=>
    have cu:c<(c2 (m+1) (g.drop (m+1))).2.length:=by omega
    obtain ⟨z,bP⟩:∃ z,(c2 (m+1) (g.drop (m+1))).2[c]? = some z:=⟨_,f8 cu⟩;have Nn:=Xn c;rw [bP] at Nn;have ih:((h' g (m+1)).map bb)[(m+1+c)*1]? = some (.int .i64 ((c2 (m+1) (g.drop (m+1))).1.getD c 0)):=by
      rw [← Df,ah2,ad7,d5,f8 (by rw [De g hm];omega)];rfl
    have hv:(c2 (m+1) (g.drop (m+1))).2.take (c+1)=(c2 (m+1) (g.drop (m+1))).2.take c++[z]:=by rw [ak7,bP];rfl
    rw [hv,M3,ad8,List.length_take,ak1 ag] at aw;have oC:rN g m y c z=((c2 (m+1) (g.drop (m+1))).1.getD c 0==((m+1+c:Nat):Int)&&z==y):=rfl;obtain ⟨eg,m6,yd⟩:=Dg _ _ _ _ bP;have mT:=au.ms eg (List.mem_of_mem_drop m6);have h4:=au.ms x (d6 ab);have y1:=WU g m x;rw [z'] at y1;have heq:=tM y.ms z.ms (by rw [y1];omega) (by rw [yd];omega);have WY:(((m+(c+1):Nat):Int)-1)=((m+c:Nat):Int):=by omega
    have rP:((m+1+c:Nat):Int)=((m+(c+1):Nat):Int):=by omega
    refine ck ?_;refine ae.cond C (fun _=>?_) (fun h=>by simp at h;omega);refine cm I ?_;intro I;refine aa.gi aj (m+1+c) C C C C C C C C C ag ag ?_;refine aa.ey aj I C C C C C C aV (MT C (oM _) AG.2.2 (by rw [ad7,Nn];rfl)) ?_;refine fP ?_;refine aL.gi aj (m+1+c) C C C C C C C C C ag ag ?_;refine aL.k2 aj I C C C C C C aV C ih ?_;refine kW ?_;by_cases cP:(c2 (m+1) (g.drop (m+1))).1.getD c 0=((m+(c+1):Nat):Int);rotate_left
    · refine aL.split 74 C (fun h=>absurd gT cP) (fun _=>?_)
      have lP:rN g m y c z=false:=by rw [oC,rP,show ((c2 (m+1) (g.drop (m+1))).1.getD c 0==((m+(c+1):Nat):Int))=false from beq_eq_false_iff_ne.2 cP,f7]
      rw [lP,f0 bc] at aw;refine jF ?_;exact bF.mk c I ⟨by omega,aw⟩ (by repeat (first|exact trivial|refine ⟨⟨_,rfl,aM⟩,?_⟩|refine ⟨⟨_,rfl,aR.of_eq AD⟩,?_⟩)) a7 (by show c<c+1;omega)
    refine aL.split 74 C (fun _=>?_) (fun h=>absurd cP gT);rw [rP,show ((c2 (m+1) (g.drop (m+1))).1.getD c 0==((m+(c+1):Nat):Int))=true from beq_iff_eq.2 cP,f4,WS] at oC;refine kW ?_;refine aL.k2 aj I C C C C C C aV C (Dq 0 _ C) ?_;refine kW ?_;by_cases c9:y.atom=z.atom;rotate_left
    · refine aL.split 83 C (fun h=>absurd gT c9) (fun _=>?_)
      have lP:rN g m y c z=false:=by rw [oC,show decide (z.atom=y.atom)=false from H1 (fun e=>c9 e.symm)];simp
      rw [lP,f0 bc] at aw;refine jF ?_;exact bF.mk c I ⟨by omega,aw⟩ (by repeat (first|exact trivial|refine ⟨⟨_,rfl,aM⟩,?_⟩|refine ⟨⟨_,rfl,aR.of_eq AD⟩,?_⟩)) a7 (by show c<c+1;omega)
    refine aL.split 83 C (fun _=>?_) (fun h=>absurd c9 gT);rw [show decide (z.atom=y.atom)=true from i6 c9.symm,f4] at oC;refine kW ?_;refine aL.k2 aj I C C C C C C aV C (Dq 1 _ C) ?_;refine kW ?_;by_cases eP:y.no=z.no;rotate_left
    · refine aL.split 92 C (fun h=>absurd gT eP) (fun _=>?_)
      have lP:rN g m y c z=false:=by rw [oC,show decide (z.no=y.no)=false from H1 (fun e=>eP e.symm)];simp
      rw [lP,f0 bc] at aw;refine jF ?_;exact bF.mk c I ⟨by omega,aw⟩ (by repeat (first|exact trivial|refine ⟨⟨_,rfl,aM⟩,?_⟩|refine ⟨⟨_,rfl,aR.of_eq AD⟩,?_⟩)) a7 (by show c<c+1;omega)
    refine aL.split 92 C (fun _=>?_) (fun h=>absurd eP gT);rw [show decide (z.no=y.no)=true from i6 eP.symm,f4] at oC;refine kW ?_;refine aL.k2 aj I C C C C C C aV C (Dq 2 _ C) ?_;refine kW ?_;by_cases o1:y.yes=z.yes;rotate_left
    · refine aL.split 101 C (fun h=>absurd gT o1) (fun _=>?_)
      have lP:rN g m y c z=false:=by rw [oC,show decide (z.yes=y.yes)=false from H1 (fun e=>o1 e.symm)];simp
      rw [lP,f0 bc] at aw;refine jF ?_;exact bF.mk c I ⟨by omega,aw⟩ (by repeat (first|exact trivial|refine ⟨⟨_,rfl,aM⟩,?_⟩|refine ⟨⟨_,rfl,aR.of_eq AD⟩,?_⟩)) a7 (by show c<c+1;omega)
    refine aL.split 101 C (fun _=>?_) (fun h=>absurd o1 gT);rw [show decide (z.yes=y.yes)=true from i6 o1.symm,f4] at oC;refine kW ?_;refine aL.k2 aj I C C C C C C aV C (Dq 3 _ C) ?_;have Dr:(z.ms==y.ms)=(y.ms==z.ms):=by rw [ad1,aj1,aj1];exact ⟨fun h=>h.symm,fun h=>h.symm⟩
    cases rr:y.ms==z.ms with
    | false=>
      have lP:rN g m y c z=false:=by rw [oC,Dr,rr]
      rw [rr] at heq;rw [lP,f0 bc] at aw;refine cD ?_;exact bF.mk c I ⟨by omega,aw⟩ (by repeat (first|exact trivial|refine ⟨⟨_,rfl,aM⟩,?_⟩|refine ⟨⟨_,rfl,aR.of_eq AD⟩,?_⟩)) a7 (by show c<c+1;omega)
    | true=>
      have lP:rN g m y c z=true:=by rw [oC,Dr,rr]
      rw [lP,f9 C] at aw;rw [aw] at aI;simp only [rP] at aI;rw [rr] at heq;refine di ?_;refine aa.gi aj m C C C C C C C C C C ag ?_;refine aa.lY aj I _ C C C C C C C C C aV (by rw [f5,De g hm];show m*1+1≤_;omega) C (fun I=>?_);have xJ:eO (m*1) [.int .i64 ((m+(c+1):Nat):Int)] ((h' g (m+1)).map bb)=(h' g m).map bb:=by
        rw [rj,ah2,← M5 aI C,an1];rfl
      refine bG ?_;exact bF.mk (m,cs') I ⟨by omega,by rw [← Nl];exact AG⟩ (by repeat (first|exact trivial|refine ⟨⟨_,rfl,aM⟩,?_⟩|refine ⟨⟨_,rfl,aR.of_eq zO⟩,?_⟩)) (by simp only [nY,← xJ];exact a7) (by show m<m+1;omega)
section
variable {P:Program} {Γ:cj} {N:Nat} {l:List Oper} {i:Nat} {rest:List Oper} {Q:bX→Env→ak→Prop} {env:Env} {s:ak} {o:Oper} {d:Nat}
theorem aL.q2 {J:ak→Prop} (aP:bM P Γ) {t bI e:TypeId} {x y:Operand} {it cz aG:bL} {ed bW:Nat} {xs ys:List af} {own dx:bN} (au:cY l env o) (av:o.dst=some d) (aY:i9 d N=true)
  (ah:o.op = .call { callee := .builtin .append,args := #[x,y],argTypes := #[t,bI] }) (aK:Γ.get? t=some it) (br:it.bE = .ay e) (c4:Γ.get? bI=some cz) (dC:∀ k,cz.bE ≠ .int k)
  (bH:Γ.get? e=some aG) (ab:aJ (bU l env o) x=some (.ay ed xs own)) (ax:aJ (bU l env o) y=some (.ay bW ys dx)) (hO:xs=[]∨ed=aG.size) (c':ys=[]∨bW=aG.size)
  (d':ad0 aG.zero.cells.size aG.size=true) (dS:∀ y∈ys,iK aG.size y=true) (an:(xs.length+ys.length)*aG.bytes≤140737488355328) (en:xs.length+ys.length≤9223372036854775807)
  (o8:own = .nil∨own = .clip) (h:aL J P Γ N l (i+1) rest Q ((d,.ay aG.size (xs++ys) .aZ)::env) s):aL J P Γ N l i (o::rest) Q env s:=
 aL.calm au av aY (fun _ _=>aW.q2 aP ah aK br c4 dC bH ab ax hO c' d' dS an en o8) h
end
theorem HB:∀ (k:Nat) (l:List bJ) (i:Nat),(c2 i l).1.drop k=(c2 (i+k) (l.drop k)).1∧(c2 i l).2.drop k=(c2 (i+k) (l.drop k)).2
  | 0,l,i=>⟨rfl,rfl⟩
  | k+1,[],i=>by rw [c2,aq8,aq8,c2];exact ⟨rfl,rfl⟩
  | k+1,x::r,i=>by
    have:=HB k r (i+1);rw [c2,al4];simp only [al4];rw [show i+(k+1)=i+1+k by omega];exact this
def HC (one:List Int) (x:bJ):bJ:=if x.atom≥0 then { x with no:=one.getD x.no.toNat 0,yes:=one.getD x.yes.toNat 0 } else x
theorem No (g:List bJ) {m z:Nat} (h:m≤z):(h' g m).getD z 0=(c2 0 g).1.getD z 0:=by
 have e:=Df g m (z-m);rw [show m+(z-m)=z by omega] at e;have d:=(HB m g 0).1;rw [ad8] at d;rw [e,← d,d5,d5,al',show m+(z-m)=z by omega]
theorem Xq {g:List bJ} (au:rM g) {a:Nat} {x:bJ} (ab:g[a]? = some x):(c2 0 g).2[a]? = some (HC (c2 0 g).1 x):=by
 have U:=M4 au ab;have d:=(HB a g 0).2;rw [ad8,U] at d;have ad:((c2 0 g).2.drop a)[0]? = some (nV g a x):=by rw [d];rfl
 rw [al',am4] at ad;rw [ad];congr 1;unfold nV HC;split
 ·rename_i h
  have:=au.eX a x ab h;rw [No g ag,No g ag]
 ·rfl
theorem HD {g:List bJ} (au:rM g) {b:Nat} (an:b<g.length):∃ a:Nat,(c2 0 g).1[b]? = some (a:Int)∧b≤a∧a<g.length:=by
 have aB:=(s5 g 0).1;have lL:=Hj (n:=g.length) g 0 ag (fun k x ab a8=>by have:=au.eX k x ab a8;rw [ad8];exact this);have h:=(lL b an).1;obtain ⟨v,ar⟩:∃ v,(c2 0 g).1[b]? = some v:=⟨_,f8 ag⟩;rw [d5,ar,ae7] at h;exact ⟨v.toNat,by rw [ar,show ((v.toNat:Nat):Int)=v by omega],by omega,by omega⟩
theorem Xr {g:List bJ} (au:rM g):Down (c2 0 g).2:=fun i x ab a8=>by
 obtain ⟨U,ad⟩:=s5 g 0;have rB:=(ac1.1 ab).1;obtain ⟨y,ax⟩:∃ y,g[i]? = some y:=⟨_,f8 ag⟩;have aA:=Xq au ax;rw [ab] at aA;cases aA;unfold HC at a8 ⊢;by_cases h:y.atom≥0
 ·rw [f9 h]
  obtain ⟨d1,d2,d3,d4⟩:=au.eX i y ax h;obtain ⟨a,Xs,Xt,abm⟩:=HD au (b:=y.no.toNat) ag;obtain ⟨c,rC,ud,abn⟩:=HD au (b:=y.yes.toNat) ag;simp only;rw [d5,Xs,d5,rC];simp only [ae7];omega
 ·rw [f0 h] at a8
  exact absurd a8 h
def HE (N:List bJ) (order:List Int) (y:Int):Prop:=∀ x,N[y.toNat]? = some x→x.atom≥0→x.no∈order∧x.yes∈order
theorem HE.mono {N:List bJ} {o o':List Int} {y:Int} (h:HE N o y) (ao:∀ z∈o,z∈o'):HE N o' y:=fun x ab a8=>⟨ao _ (h x ab a8).1,ao _ (h x ab a8).2⟩
theorem HF {order:List Int} (aA:order.Nodup) {i:Nat} {x:Int} (ab:order[i]? = some x):placeOf order x=(i:Int):=by
 obtain ⟨U,ad⟩:=ac1.1 ab;have:order.findIdx? (· == x)=some i:=by
  rw [af2];refine ⟨U,by rw [ad];simp,fun j aO=>?_⟩;rw [Bool.not_eq_true,beq_eq_false_iff_ne];intro he;have:=(List.getElem_inj aA).1 (he.trans ad.symm);omega
 unfold placeOf;rw [this];rfl
section
variable {P:Program} {Γ:cj} {N:Nat} {env:Env} {s:ak} {Q:bX→Env→ak→Prop} {L R:a6}
theorem dq.HG {B:fx} {ro:Option Nat} {a:Act} {w:World} {p:bO} (h:dq N B ro env s a w p) {t b n cap sz:Nat} {T:TypeId} {cs:List af} {xss:List (List af)} (aK:env.get? t=some (ea b n cap)) (ao:s b=some (.box T cs)) (ab:cs.take (n*sz)=xss.flatten) (hN:xss.length=n) (b':∀ c∈xss,c.length=sz) (aA:n≤cap) (hm:n≤9223372036854775807):∃ bg,dq N B ro ((t,.ay sz (xss.map af.agg) .aZ)::env) (s.del b) a w bg∧c8 w p w bg∧Kept s (s.del b) w p w bg:=by
 have EP:dq N B ro ((a.tmps.size,.any)::[]) s a w p:=h.restrict _ (fun t v ar=>by
  simp only [Env.get?] at ar
  split at ar
  ·cases ar;exact .any _
  ·cases ar)
 obtain ⟨vs,U,ad,al⟩:=h.wf.obj _ _ ao;have az:b<w.heap.size:=(i8.1 U).1;have hle:c8 w p w (p.dR b True):=⟨rfl,rfl,rfl,i0 _,fun _ _ h => .inl h,fun _ _ _=>rfl,fun _ _ h=>h⟩
 have aD:Kept s (s.del b) w p w (p.dR b True):=⟨fun _ _ _=>rfl,fun aT an aA=>by
  by_cases e:aT=b
  ·subst e;exact ak.mR _ _
  ·rw [ak.l' _ e];exact aA,fun aT o an aA aE=>by
   rcases aE with aE|⟨rfl,_⟩
   ·exact aE
   ·rw [ao] at aA;cases aA⟩
 have b5:df w (p.dR b True) (s.del b):=by
  refine ⟨fun aT o an=>?_,fun aT o aE=>by rcases aE with aE|⟨rfl,_⟩;exact h.wf.lt _ _ aE;exact az⟩;by_cases e:aT=b
  ·subst e;rw [ak.mR] at an;cases an
  ·rw [ak.l' _ e] at an
   have ah:=h.wf.obj aT o an;have fc:∀ o,p.dR b True aT o↔p aT o:=fun o=>⟨fun aE=>by rcases aE with aE|⟨e',_⟩;exact aE;exact absurd e' e,.inl⟩
   cases o with
   | box t c=>obtain ⟨us,g1,g2,g3⟩:=ah;exact ⟨us,g1,g2.mono hle,fun o aE=>g3 o ((fc o).1 aE)⟩
   | row t sz n=>obtain ⟨cur,g1,g2,g3,g4⟩:=ah;exact ⟨cur,g1,g2,g3,fun o=>(fc o).trans (g4 o)⟩
   | map es=>obtain ⟨cJ,c,g1,g2,g3⟩:=ah;exact ⟨cJ,c,g1,⟨g2.1.mono hle,g2.2.mono hle⟩,g3⟩
   | kN es it l c=>exact ah.pL hle C C
   | tick m=>exact ah
   | loop r env=>exact ⟨ah.1,fun t v h=>(ah.2 t v h).mono hle⟩
 have aI:=h.step hle aD b5;refine ⟨_,⟨aI.size,fun bI v ar=>?_,aI.wf,aI.defs,aI.round,aI.base⟩,hle,aD⟩;simp only [Env.get?] at ar;split at ar
 ·rename_i he
  have:=ab' he;subst this;cases ar;have aC:=h.env t _ aK;generalize a.tmps.getD t undef=dG at aC;cases aC;have hv:=ad.take (n*sz);rw [ab] at hv;obtain ⟨us,b7,bR,eE⟩:=Fp hv b';refine .ay b 0 n cap sz us (xss.map af.agg) .aZ bc (by rw [f5,hN]) ?_ (b7.mono hle) eE hm aA (fun h=>by cases h) (fun b h=>by cases h);rw [bR];intro i v aS;refine ⟨.inr ⟨rfl,trivial⟩,?_⟩;rw [ad8,jq U];rw [List.getElem?_take] at aS;split at aS
  ·simpa using aS
  ·cases aS
 ·exact aI.env bI v ar
theorem ae.HG {c:Code} (I:Ok s L) (t b:Nat) {n cap sz:Nat} {T:TypeId} {cs:List af} {xss:List (List af)} (aK:env.get? t=some (ea b n cap)) (ao:bl L (.own b) (.box T cs) R) (ab:cs.take (n*sz)=xss.flatten) (hN:xss.length=n) (b':∀ c∈xss,c.length=sz) (aA:n≤cap) (hm:n≤9223372036854775807)
  (h:Ok s R→ae P N c Q ((t,.ay sz (xss.map af.agg) .aZ)::env) (aQ s R)):ae P N c Q env (aQ s L):=by
 obtain ⟨U,ad⟩:=ao.del I;intro sB B a w p eU aI;obtain ⟨bg,al,bd,bB⟩:=aI.HG aK (ao.get I) ab hN b' aA hm;rw [U] at al bB;exact lG (h ad sB B a w bg eU al) fun _ _ _ q=>q.after bd bB
end
def AH (n:Nat) (order:List Int) (j:Nat) (R:List Int):Prop:=R.length=n∧∀ (i:Nat) (x:Int),i<j→order[i]? = some x→R[x.toNat]? = some ((order.length:Int)-1-i)
theorem AH.step {n:Nat} {order:List Int} (ah:nW n order) {j:Nat} {R:List Int} (h:AH n order j R) {a:Nat} (a8:order[j]? = some (a:Int)):AH n order (j+1) (R.set a ((order.length:Int)-1-j)):=by
 have qf:=ah.lt _ (d6 a8);refine ⟨by rw [ae0];exact h.1,fun i x aS ab=>?_⟩;have hN:=ah.lt _ (d6 ab);by_cases eF:i=j
 ·subst eF
  rw [a8] at ab;cases ab;rw [ac3,al6 (by rw [h.1];omega)]
 ·have cp:x≠(a:Int):=fun e=>by
   have U:=HF ah.nodup ab;have ad:=HF ah.nodup a8;rw [e,ad] at U;omega
  rw [aq7 ag];exact h.2 i x ag ab
theorem AH.all {n:Nat} {order:List Int} (ah:nW n order) {R:List Int} (h:AH n order order.length R) {x:Int} (ab:x∈order):R[x.toNat]? = some ((order.length:Int)-1-placeOf order x):=by
 obtain ⟨i,aS⟩:=ag7 ab;rw [HF ah.nodup aS];exact h.2 i x (ac1.1 aS).1 aS
theorem Xu (p:bK) (aE:fD p) (x:hX) (size:Int):aU d0 227 [cW p,gj x,.int .i64 size] (.bool (mv p x size)):=by
 have an:=bC;refine aU.bn aj Tryz.func227 C C fun s I=>?_
 have cu:=aE.cls;have jI:=aE.cR;have U:=Ls x.n;have eg:aa' .i64 (3+((p.bT.map gI).length:Int))=3+(p.bT.length:Int):=by rw [f5,er ag ag]
 unfold cW cV gj kA bk;by_cases aC:x.op=1∨x.op=3∨x.op=4∨x.op=7∨x.op=6∨x.op=8∨x.op=5
 ·rcases aC with h|h|h|h|h|h|h
  all_goals
   have hm:mv p x size=mv p x size:=rfl
   conv at hm=>rhs;unfold mv
   rw [h] at hm ⊢;simp only [Int.reduceEq,ae2,af5,true_or,or_true,or_self,reduceIte] at hm;rw [hm]
   repeat' (first|(with_reducible first|apply ae.seq|apply b0|apply fW|apply fz|apply hr|apply ae.ret|apply ae.skip|apply ae.block)|refine c1 C ?_|refine ae.cA ?_|refine aa.nil ?_|refine ae.fL C ?_|refine ae.gA C ?_|refine cx C ?_|refine aa.skip C C C ?_|refine aa.dX C C C C C cq ?_|(fail_if_success refine aa.same true C ?_);(fail_if_success refine aa.same false C ?_);refine aa.hq C C (fun h=>?_) (fun h=>?_))
  all_goals (refine Fin.cL I C (aR.of_eq (ac5 af.bool ?_));clear I U;(try simp only [f5] at *)<;>grind)
 ·have hm:mv p x size=(decide (x.n≥0)&&decide (x.n<1)):=by
   unfold mv;rw [f0 ag,f0 ag,f0 ag,f0 ag,f0 ag]
  rw [hm]
  repeat (first|(refine E8 ?_)|refine ae.cond C (fun h=>absurd h (by first|(simp;done)|(simp;omega))) (fun _=>?_))
  repeat' (first|(with_reducible first|apply b0|apply ae.ret)|refine aa.nil ?_|refine cx C ?_|refine aa.skip C C C ?_|(fail_if_success refine aa.same true C ?_);(fail_if_success refine aa.same false C ?_);refine aa.hq C C (fun h=>?_) (fun h=>?_))
  all_goals (refine Fin.cL I C (aR.of_eq (ac5 af.bool ?_));clear I U;grind)
theorem Xv (w:bw):∀ (n:Nat) (f:aq),f.size≤n→n<bt→gR w f=true→aU d0 230 [f.cb] (.int .i64 (kY f)):=by
 have an:=bC;intro n
 induction n with
 | zero=>intro x h;have:=x.size_eq;omega
 | succ n aX=>
  intro f aA jB au;refine aU.bn aj Tryz.func230 C C fun s I=>?_
  have iQ:=f.size_eq;have hlen:=aq.p9 f.kids;rw [pd,f6] at au;rw [aq.cE];rw [Co];have a8:f.c7=true→aa' .i64 (f.arg+1)=f.arg+1:=fun aB=>by
   have aA:=au.1;simp only [hi,aB,ae2,f6,g8] at aA;exact er ag ag
  unfold aq.cells;cases aB:f.c7 with
  | true=>
   have Xw:f.op=2∨f.op=3∨f.op=4:=by unfold aq.c7 at aB;simp at aB;omega
   rcases Xw with h|h|h
   ·rw [h]
    refine bG ?_;refine ae.cl [24,23] C I (σ:=Nat) (fun j=>[(25,.int .i64 (j:Int)),(3,.int .i64 (iF (if f.c7 then f.arg+1 else 0) (f.kids.take j)))]) (fun _=>[]) (fun j=>j≤f.kids.length) (fun j=>f.kids.length-j) 0 (g9 _) (by repeat (first|exact trivial|refine ⟨⟨_,rfl,aM⟩,?_⟩|refine ⟨⟨_,rfl,aR.of_eq tS⟩,?_⟩)) a7 ?_;rintro j aO I;refine ck ?_;refine ae.cond C (fun az=>?_) (fun a'=>?_);rotate_left
    ·have a':j=f.kids.length:=by simp at a';omega
     subst a';rw [ac'];refine eH ?_;exact Fin.cL I C (aR.of_eq (by rw [aB]))
    have az:j<f.kids.length:=by simpa using az
    obtain ⟨k,aD,eu⟩:=cf (f:=aq.cb) az;have hm:=aq.iD (d6 aD);have aF:=aX k ag ag (lq au.2 (d6 aD));rw [aq.cE] at eu aF;refine fP ?_;refine bF.mk (j+1) I az (by repeat (first|exact trivial|refine ⟨⟨_,rfl,aM⟩,?_⟩|refine ⟨⟨_,rfl,aR.of_eq tR⟩,?_⟩)) a7 oB
   ·rw [h]
    refine bG ?_;refine ae.cl [24,23] C I (σ:=Nat) (fun j=>[(25,.int .i64 (j:Int)),(3,.int .i64 (iF (if f.c7 then f.arg+1 else 0) (f.kids.take j)))]) (fun _=>[]) (fun j=>j≤f.kids.length) (fun j=>f.kids.length-j) 0 (g9 _) (by repeat (first|exact trivial|refine ⟨⟨_,rfl,aM⟩,?_⟩|refine ⟨⟨_,rfl,aR.of_eq tS⟩,?_⟩)) a7 ?_;rintro j aO I;refine ck ?_;refine ae.cond C (fun az=>?_) (fun a'=>?_);rotate_left
    ·have a':j=f.kids.length:=by simp at a';omega
     subst a';rw [ac'];refine eH ?_;exact Fin.cL I C (aR.of_eq (by rw [aB]))
    have az:j<f.kids.length:=by simpa using az
    obtain ⟨k,aD,eu⟩:=cf (f:=aq.cb) az;have hm:=aq.iD (d6 aD);have aF:=aX k ag ag (lq au.2 (d6 aD));rw [aq.cE] at eu aF;refine fP ?_;refine bF.mk (j+1) I az (by repeat (first|exact trivial|refine ⟨⟨_,rfl,aM⟩,?_⟩|refine ⟨⟨_,rfl,aR.of_eq tR⟩,?_⟩)) a7 oB
   ·rw [h]
    refine bG ?_;refine ae.cl [24,23] C I (σ:=Nat) (fun j=>[(25,.int .i64 (j:Int)),(3,.int .i64 (iF (if f.c7 then f.arg+1 else 0) (f.kids.take j)))]) (fun _=>[]) (fun j=>j≤f.kids.length) (fun j=>f.kids.length-j) 0 (g9 _) (by repeat (first|exact trivial|refine ⟨⟨_,rfl,aM⟩,?_⟩|refine ⟨⟨_,rfl,aR.of_eq tS⟩,?_⟩)) a7 ?_;rintro j aO I;refine ck ?_;refine ae.cond C (fun az=>?_) (fun a'=>?_);rotate_left
    ·have a':j=f.kids.length:=by simp at a';omega
     subst a';rw [ac'];refine eH ?_;exact Fin.cL I C (aR.of_eq (by rw [aB]))
    have az:j<f.kids.length:=by simpa using az
    obtain ⟨k,aD,eu⟩:=cf (f:=aq.cb) az;have hm:=aq.iD (d6 aD);have aF:=aX k ag ag (lq au.2 (d6 aD));rw [aq.cE] at eu aF;refine fP ?_;refine bF.mk (j+1) I az (by repeat (first|exact trivial|refine ⟨⟨_,rfl,aM⟩,?_⟩|refine ⟨⟨_,rfl,aR.of_eq tR⟩,?_⟩)) a7 oB
  | false=>
   have ad:(f.op==2)=false:=by unfold aq.c7 at aB;simp at aB ⊢;omega
   have al:(f.op==3)=false:=by unfold aq.c7 at aB;simp at aB ⊢;omega
   have bd:(f.op==4)=false:=by unfold aq.c7 at aB;simp at aB ⊢;omega
   refine dz ?_;refine aa.dc 9 C ad ?_;refine dD ?_;refine aa.dc 14 C al ?_;refine ga ?_;refine ae.cond C (fun h=>by rw [bd] at h;cases h) (fun _=>?_);refine j5 ?_;refine ae.cl [24,23] C I (σ:=Nat) (fun j=>[(25,.int .i64 (j:Int)),(3,.int .i64 (iF (if f.c7 then f.arg+1 else 0) (f.kids.take j)))]) (fun _=>[]) (fun j=>j≤f.kids.length) (fun j=>f.kids.length-j) 0 (g9 _) (by repeat (first|exact trivial|refine ⟨⟨_,rfl,aM⟩,?_⟩|refine ⟨⟨_,rfl,aR.of_eq tS⟩,?_⟩)) a7 ?_;rintro j aO I;refine ck ?_;refine ae.cond C (fun az=>?_) (fun a'=>?_);rotate_left
   ·have a':j=f.kids.length:=by simp at a';omega
    subst a';rw [ac'];refine eH ?_;exact Fin.cL I C (aR.of_eq (by rw [aB]))
   have az:j<f.kids.length:=by simpa using az
   obtain ⟨k,aD,eu⟩:=cf (f:=aq.cb) az;have hm:=aq.iD (d6 aD);have aF:=aX k ag ag (lq au.2 (d6 aD));rw [aq.cE] at eu aF;refine fP ?_;refine bF.mk (j+1) I az (by repeat (first|exact trivial|refine ⟨⟨_,rfl,aM⟩,?_⟩|refine ⟨⟨_,rfl,aR.of_eq tR⟩,?_⟩)) a7 oB
theorem Xx (w:World):(Instr.typeAssert .nilIface 20 291 true).run d0 w = .ok (.tuple #[.agg #[],.bool false]) w:=by kernel_rfl
theorem Xy (w:World):(Instr.typeAssert (.iface 291 (.agg #[])) 20 291 true).run d0 w = .ok (.tuple #[.agg #[],.bool true]) w:=by kernel_rfl
theorem Xz (b:Nat) (w:World) :
  CallsD d0 247 #[.pointer (some ⟨b,0,none⟩)] .returning w fun e jC w'=>e = .returned (.tuple #[])∧jC = .returning∧w'=w.alloc (.cells #[] 291):=by
 refine callsD_of_wpS Tryz.func247 C fun wD cs hu=>?_
 apply wpS_seq;apply wpS_region;simp [wpOpsS,go_sem,recoverD,hu,Tryz.ntmps247, Exit.thenS,Xx];refine wpS_of_wp ?_;go_wp2;cases wD;simp_all [bodyPostS,results,Tryz.results247, Exit.thenS]
theorem XA (b:Nat) (w:World) (rest:List PanicEntry) (x:Value) (an:w.heap[b]? = some (.cells #[x] 4 (0,0))) :
  CallsD d0 247 #[.pointer (some ⟨b,0,none⟩)] (.panicking ({ v := .iface 291 (.agg #[]),recovered:=false }::rest)) w
   fun o jC w'=>o = .returned (.tuple #[])∧jC = .panicking ({ v := .iface 291 (.agg #[]),recovered:=true }::rest)∧w'=(w.alloc (.cells #[] 291)).setRow b #[.bool false]:=by
 refine callsD_of_wpS Tryz.func247 C fun wD cs hu=>?_
 apply wpS_seq;apply wpS_region;simp [wpOpsS,go_sem,recoverD,hu,Tryz.ntmps247, Exit.thenS,Xy];have dF:=(lJ w (.cells #[] 291) b (i8.1 an).1).trans an;have c9:(w.alloc (.cells #[] 291)).cell? ⟨b,0,none⟩=some x:=by rw [jq dF];rfl
 have o1:(w.alloc (.cells #[] 291)).frozen? ⟨b,0,none⟩=false:=by simp [World.frozen?,dF]
 have rr:=KQ (x := .bool false) dF;generalize w.alloc (.cells #[] 291)=eg at c9 o1 rr ⊢;refine wpS_of_wp ?_;go_wp2;cases wD;simp_all [bodyPostS,results,Tryz.results247, Exit.thenS]
theorem Ds {w:World} {p:bO} {v:Value} {b o:Nat} (h:Rel w p v (.ptr b o)):v = .pointer (some ⟨b,o,none⟩):=by cases h;rfl
theorem XB {w:World} {p:bO} {x:Value} (h:Rel w p x G8):x = .iface 291 (.agg #[]):=by
 cases h with
 | iface _ y _ h=>
 cases h with
 | agg cs xs h=>
 generalize hp:cs.toList=l at h;cases h;have:cs = #[]:=by rw [← al3 (xs:=cs),hp]
 rw [this]
def XC (pb:ak) (n:Nat) (r:Bool):bX→Env→ak→Prop
 | .ret,env,ai=>env.get? 4=some (.ptr n 0)∧r=true∧∃ M,ai=aQ pb M∧Ok pb M∧∃ R,bl M (.own n) (.box 4 [.bool true]) R
 | .panic x,env,ai=>env.get? 4=some (.ptr n 0)∧r=false∧x=G8∧∃ M,ai=aQ pb M∧Ok pb M∧∃ y R,bl M (.own n) (.box 4 [y]) R
 | _,_,_=>False
theorem XD (lo:bw) (hw:fQ lo) (l:List ch) (aB:3*l.length+3<bt) (ab:∀ x∈l,sU lo x):aU d0 211 [fR lo,pv l] (.bool (mF lo (ec l))):=by
 intro s;refine ⟨call211, fun w p vs b5 eG=>?_⟩;cases eG with
 | cons v0 _ vs _ bo aK=>
 cases aK with
 | cons v1 _ vs _ U aK=>
 cases aK;unfold rZ;refine J4 (T:=[{ target := .fn (.func 247) #[.pointer (some ⟨w.heap.size,0,none⟩)],args := #[] }]) Tryz.func211 C ?_;go_wp2;intro b tA eU;obtain ⟨aA,hle,aD,Dt⟩:=qR b5 (.cells #[Value.bool false] 4) (.box 4 [.bool false]) (fun w' U ad al=>⟨#[.bool false],U,al _ _ (.cons _ _ _ _ (.bool _) .nil),fun o aE=>absurd (b5.lt _ _ aE) ag⟩);refine lG (ae.use (N:=10) (env:=[(0,fR lo),(1,pv l),(4,.ptr w.heap.size 0)]) (s:=aQ s [(.own w.heap.size,.box 4 [.bool false])]) (Q:=XC s w.heap.size (mF lo (ec l))) (B:=(w.heap.size+1,[{ target := .fn (.func 247) #[.pointer (some ⟨w.heap.size,0,none⟩)],args := #[] }])) (p:=p) ?_ (by rw [eU];rfl) ⟨by simp,fun t v ar=>?_,Dt,⟨[],by simp [marksOf],by simp,by simp⟩,fun l aB=>(by rw [tA] at aB;cases aB),by simp⟩) ?_
 ·have I:Ok s [(.own w.heap.size,.box 4 [.bool false])]:=⟨aA,trivial⟩
  generalize w.heap.size=n at I ⊢;have aI:=V0 lo hw.j9 l aB ab;have Np:=VI (w:=lo) (l:=l) (fun x h=>⟨(ab x h).node,(ab x h).leaf⟩);refine j6 ?_;refine aa.bZ rfl rfl rfl rfl rfl aI I .nil ?_ (fun _ _ ⟨_,h,_⟩ _=>by cases h);rintro _ _ ⟨mb,⟨⟩,es,rfl,cB⟩ I;have b6:uk (3*l.length) (ec l):=⟨fun arg path h=>(Np (bq arg path)).1 (by show 2≤(path.length:Int);omega),cB.l3⟩;have gu:C1 lo (ec l):=⟨fun q=>(Np q).2⟩;have xZ:=Wn lo hw mb (3*l.length) ag (ec l) b6 gu (E:=[]) (l4 (ec l) mb es) ⟨es,rfl,cB⟩;skip;refine aa.bZ C C C C C xZ I (aH.jd (aH.all _)) ?_ ?_
  ·rintro _ aN ⟨ah,dn,rfl,iR⟩ I
   cases hm:mF lo (ec l) with
   | false=>rw [hm] at ah;cases ah
   | true=>
    have ao:=bl.app (l4 (ec l) mb dn) (bl.here (L:=[]) (k := .own n) (o := .box 4 [.bool false]));rw [d7] at I;refine aa.lQ I [(.own n,.box 4 [.bool false])] (.cons ao .nil) (fun I=>?_);refine cm I ?_;intro I;exact ⟨rfl,rfl,_,rfl,I,_,.here⟩
  ·rintro x aN ⟨ah,dn,rfl,iR⟩ I
   cases hm:mF lo (ec l) with
   | true=>rw [hm] at ah;cases ah
   | false=>
    rw [hm] at ah;cases ah;exact ⟨rfl,rfl,rfl,_,rfl,I,_,_,bl.app _ .here⟩
 ·simp only [Env.get?] at ar
  split at ar
  ·rename_i e;cases ar;obtain rfl:=ab' e
   exact bo.mono hle
  split at ar
  ·rename_i e;cases ar;obtain rfl:=ab' e
   exact U.mono hle
  split at ar
  ·rename_i e;cases ar;obtain rfl:=ab' e
   simp [ad9];exact .ptr _ 0
  ·cases ar
 ·rintro e c3 w' ⟨x,eN,ai,bg,ct,bp,hE,y5,eu⟩
  obtain ⟨b4,sn,e2,e5⟩:=hE.defs;obtain ⟨b7,bR,eE,ko⟩:=EH b4 w' hE.wf (fun d av=>⟨_,(e5 d av).2.1⟩);have bY:c8 w p (hd w' b4) bg:=(hle.trans y5).trans b7;have tB:=aD.trans hle.size eu;have bm:Kept s s w p (hd w' b4) bg:=⟨fun aT dF gF=>(eE aT (fun hm=>by have:=(e5 aT hm).1;simp only at this;omega)).trans (tB.heap aT dF gF),fun _ _ h=>h,tB.kM⟩;have dm:=tk bR.lt (.cells #[] 291) True;have a2:=Bi (s:=s) (w:=hd w' b4) (p:=bg) (.cells #[] 291) True;cases ct with
  | exit id=>exact bp.elim
  | normal=>exact bp.elim
  | ret=>
   obtain ⟨bd,aC,M,rfl,iA,R,nZ⟩:=bp;have wE:=bR.sub iA.sub;obtain ⟨b9,l0,kL,AI⟩:=bR.obj _ _ (nZ.get iA);have HH:b9 = #[.bool true]:=by
    generalize aB:b9.toList=BI at kL;cases kL with
    | cons v _ vs _ ar aK=>
    cases aK;cases ar;rw [← al3 (xs:=b9),aB]
   subst HH;have az:w.heap.size<(hd w' b4).heap.size:=(i8.1 l0).1;have AJ:=(lJ (hd w' b4) (.cells #[] 291) w.heap.size az).trans l0;have jn:((hd w' b4).alloc (.cells #[] 291)).cell? ⟨w.heap.size,0,none⟩=some (.bool true):=by rw [jq AJ];rfl
   refine ⟨b4,sn,e2,fun d av=>(e5 d av).2.1,?_⟩;refine leaves_cons (f := 247) (args := #[.pointer (some ⟨w.heap.size,0,none⟩)]) bc (by simp [go_sem]) ?_;refine (Xz w.heap.size _).mono ?_;rintro e jC lH ⟨rfl,rfl,rfl⟩;have wF:c3.tmps[4]?.getD undef = .pointer (some ⟨w.heap.size,0,none⟩):=by
    have:=hE.env 4 _ bd;rw [ad9] at this;exact Ds this
   refine ⟨.bool true,by simp [results,Tryz.results211, go_sem,jn,wF],by simp,.ret (.bool true),s,_,.bool _,⟨by rw [aC],rfl⟩,bY.trans dm,bm.trans bY.size a2,yH wE _ True⟩
  | panic v x dr km ar=>
   obtain ⟨bd,aC,rfl,M,rfl,iA,y,R,nZ⟩:=bp;obtain ⟨rest,rfl,HI⟩:=km;obtain rfl:=XB ar;have wE:=bR.sub iA.sub;obtain ⟨b9,l0,kL,AI⟩:=bR.obj _ _ (nZ.get iA);obtain ⟨bv,rfl⟩:∃ bv,b9 = #[bv]:=by
    generalize aB:b9.toList=BI at kL;cases kL with
    | cons v _ vs _ ar aK=>
    cases aK;exact ⟨v,by rw [← al3 (xs:=b9),aB]⟩
   have az:w.heap.size<(hd w' b4).heap.size:=(i8.1 l0).1;have AJ:=(lJ (hd w' b4) (.cells #[] 291) w.heap.size az).trans l0;have wF:c3.tmps[4]?.getD undef = .pointer (some ⟨w.heap.size,0,none⟩):=by
    have:=hE.env 4 _ bd;rw [ad9] at this;exact Ds this
   obtain ⟨dV,dg,dB,ma,sl⟩:=KP (bY.trans dm) (bm.trans bY.size a2) (yH wE _ True) AJ (i0 _) (fun o aE=>by
    rcases aE with aE|⟨e,-⟩
    ·exact AI o aE
    ·omega) aA (.bool false)
   have jn:(((hd w' b4).alloc (.cells #[] 291)).setRow w.heap.size #[.bool false]).cell? ⟨w.heap.size,0,none⟩=some (.bool false):=by rw [jq sl];rfl
   refine ⟨b4,sn,e2,fun d av=>(e5 d av).2.1,?_⟩;refine leaves_cons (f := 247) (args := #[.pointer (some ⟨w.heap.size,0,none⟩)]) bc (by simp [go_sem]) ?_;refine (XA w.heap.size _ rest bv l0).mono ?_;rintro e jC lH ⟨rfl,rfl,rfl⟩;have HJ:=FT HI;simp only [settle,HJ];refine ⟨.bool false,by simp [results,Tryz.results211, go_sem,jn,wF],by simp,.ret (.bool false),s,_,.bool _,⟨by rw [aC],rfl⟩,dV,dg,dB⟩
theorem XE {w:World} {p:bO} {x:Value} (h:Rel w p x sO):x = .iface 298 (.agg #[]):=by
 cases h with
 | iface _ y _ h=>
 cases h with
 | agg cs xs h=>
 generalize hp:cs.toList=l at h;cases h;have:cs = #[]:=by rw [← al3 (xs:=cs),hp]
 rw [this]
theorem XF (w:World):(Instr.typeAssert (.iface 298 (.agg #[])) 20 298 true).run d0 w = .ok (.tuple #[.agg #[],.bool true]) w:=by kernel_rfl
theorem XG (w:World):(binOp BinOp.neq 20 (.iface 298 (.agg #[])) .nilIface).run d0 w = .ok (.bool true) w:=by kernel_rfl
theorem XH (x y:Operand) (w:World):(eqGuard BinOp.neq 20 x y (.iface 298 (.agg #[])) .nilIface).run d0 w = .ok () w:=by
 unfold eqGuard;simp
theorem XI (b:Nat) (w:World) :
  CallsD d0 253 #[.pointer (some ⟨b,0,none⟩)] .returning w fun e jC w'=>e = .returned (.tuple #[])∧jC = .returning∧w'=w:=by
 refine callsD_of_wpS Tryz.func253 C fun wD cs hu=>?_
 apply wpS_seq;apply wpS_region;simp [wpOpsS,go_sem,recoverD,hu,Tryz.ntmps253, Exit.thenS];refine wpS_of_wp ?_;go_wp2;cases wD;simp_all [bodyPostS,results,Tryz.results253, Exit.thenS]
theorem XJ (b:Nat) (w:World) (rest:List PanicEntry) (x:Value) (an:w.heap[b]? = some (.cells #[x] 4 (0,0))) :
  CallsD d0 253 #[.pointer (some ⟨b,0,none⟩)] (.panicking ({ v := .iface 298 (.agg #[]),recovered:=false }::rest)) w
   fun o jC w'=>o = .returned (.tuple #[])∧jC = .panicking ({ v := .iface 298 (.agg #[]),recovered:=true }::rest)∧w'=(w.alloc (.cells #[] 298)).setRow b #[.bool false]:=by
 refine callsD_of_wpS Tryz.func253 C fun wD cs hu=>?_
 apply wpS_seq;apply wpS_region;simp [wpOpsS,go_sem,recoverD,hu,Tryz.ntmps253, Exit.thenS];apply wpS_seq;apply wpS_region;simp [wpOpsS,go_sem,Exit.thenS,XH,XG];refine wpS_cond (t:=true) (by simp [Act.eval,Act.put]) ?_;simp only [ae2]
 repeat apply wpS_seq
 apply wpS_region;simp [wpOpsS,go_sem,Exit.thenS,XF];have dF:=(lJ w (.cells #[] 298) b (i8.1 an).1).trans an;have c9:(w.alloc (.cells #[] 298)).cell? ⟨b,0,none⟩=some x:=by rw [jq dF];rfl
 have o1:(w.alloc (.cells #[] 298)).frozen? ⟨b,0,none⟩=false:=by simp [World.frozen?,dF]
 have rr:=KQ (x := .bool false) dF;generalize w.alloc (.cells #[] 298)=eg at c9 o1 rr ⊢
 repeat apply wpS_seq
 apply wpS_region;simp [wpOpsS,go_sem,Exit.thenS];refine wpS_of_wp ?_;go_wp2;cases wD;simp_all [bodyPostS,results,Tryz.results253, Exit.thenS];refine wpS_of_wp ?_;go_wp2;simp_all [bodyPostS,results,Tryz.results253, Exit.thenS]
def XK (pb:ak) (n:Nat) (G B:a6→Prop):bX→Env→ak→Prop
 | .ret,env,ai=>env.get? 2=some (.ptr n 0)∧∃ M,ai=aQ pb M∧Ok pb M∧∃ K,G K∧bl M (.own n) (.box 4 [.bool true]) K
 | .panic x,env,ai=>env.get? 2=some (.ptr n 0)∧x=sO∧∃ M,ai=aQ pb M∧Ok pb M∧∃ y K,B K∧bl M (.own n) (.box 4 [y]) K
 | _,_,_=>False
theorem XL (f:FuncId) (first cap:List af) (mu:a6) (G B:a6→Prop) (h:dh d0 (.func f first cap) [] mu (fun o K=>(o = .ret (.cg [])∧G K)∨(o = .panic sO∧B K))) :
  bz d0 220 [.func f first cap] mu (fun o K=>(o = .ret (.bool true)∧G K)∨(o = .ret (.bool false)∧B K)):=by
 intro s XM;refine ⟨call220, fun w p vs b5 eG=>?_⟩;cases eG with
 | cons v0 _ vs _ bo aK=>
 cases aK;unfold rZ;refine J4 (T:=[{ target := .fn (.func 253) #[.pointer (some ⟨w.heap.size,0,none⟩)],args := #[] }]) Tryz.func220 C ?_;go_wp2;intro b tA eU;obtain ⟨aA,hle,aD,Dt⟩:=qR b5 (.cells #[Value.bool false] 4) (.box 4 [.bool false]) (fun w' U ad al=>⟨#[.bool false],U,al _ _ (.cons _ _ _ _ (.bool _) .nil),fun o aE=>absurd (b5.lt _ _ aE) ag⟩);have I:Ok s ((.own w.heap.size,.box 4 [.bool false])::mu):=⟨aA,XM⟩;refine lG (ae.use (N:=6) (env:=[(0,.func f first cap),(2,.ptr w.heap.size 0)]) (s:=aQ s ((.own w.heap.size,.box 4 [.bool false])::mu)) (Q:=XK s w.heap.size G B) (B:=(w.heap.size+1,[{ target := .fn (.func 253) #[.pointer (some ⟨w.heap.size,0,none⟩)],args := #[] }])) (p:=p) ?_ (by rw [eU];rfl) ⟨by simp,fun t v ar=>?_,Dt,⟨[],by simp [marksOf],by simp,by simp⟩,fun l aB=>(by rw [tA] at aB;cases aB),by simp⟩) ?_
 ·clear aD Dt aA
  generalize w.heap.size=n at I ⊢;refine j6 ?_;refine aa.gr C C C C C C h I (aH.there (e:=(.own n,.box 4 [.bool false])) (aH.all mu)) ?_ ?_
  ·rintro _ aN (⟨⟨⟩,dZ⟩|⟨h,_⟩) I
   ·have ao:=bl.app aN (bl.here (L:=[]) (k := .own n) (o := .box 4 [.bool false]))
    rw [d8] at ao;refine cm I ?_;intro I;exact ⟨rfl,_,rfl,I,aN,dZ,.here⟩
   ·cases h
  ·rintro x aN (⟨h,_⟩|⟨⟨⟩,cB⟩) I
   ·cases h
   exact ⟨rfl,rfl,_,rfl,I,_,aN,cB,by have:=bl.app aN (bl.here (L:=[]) (k := .own n) (o := .box 4 [.bool false]));rw [d8] at this;exact this⟩
 ·simp only [Env.get?] at ar
  split at ar
  ·rename_i e;cases ar;obtain rfl:=ab' e
   exact bo.mono hle
  split at ar
  ·rename_i e;cases ar;obtain rfl:=ab' e
   simp [ad9];exact .ptr _ 0
  ·cases ar
 ·rintro e c3 w' ⟨x,eN,ai,bg,ct,bp,hE,y5,eu⟩
  obtain ⟨b4,sn,e2,e5⟩:=hE.defs;obtain ⟨b7,bR,eE,ko⟩:=EH b4 w' hE.wf (fun d av=>⟨_,(e5 d av).2.1⟩);have bY:c8 w p (hd w' b4) bg:=(hle.trans y5).trans b7;have tB:=aD.trans hle.size eu;have bm:∀ aN,ak.Sub (aQ s aN) ai→Kept (aQ s mu) (aQ s aN) w p (hd w' b4) bg:=fun aN hC=>⟨fun aT dF gF=>(eE aT (fun hm=>by have:=(e5 aT hm).1;simp only at this;omega)).trans (tB.heap aT dF gF),fun b an h=>hC.none (tB.kl b an h),tB.kM⟩
  cases ct with
  | exit id=>exact bp.elim
  | normal=>exact bp.elim
  | ret=>
   obtain ⟨bd,M,rfl,iA,aN,dZ,nZ⟩:=bp;obtain ⟨mB,hk⟩:=nZ.perm iA;have hC:ak.Sub (aQ s aN) (aQ s M):=by rw [mB];exact xh (k := .own w.heap.size) JP hk.1
   have wE:=bR.sub hC;obtain ⟨b9,l0,kL,AI⟩:=bR.obj _ _ (nZ.get iA);have HH:b9 = #[.bool true]:=by
    generalize aB:b9.toList=BI at kL;cases kL with
    | cons v _ vs _ ar aK=>
    cases aK;cases ar;rw [← al3 (xs:=b9),aB]
   subst HH;have jn:(hd w' b4).cell? ⟨w.heap.size,0,none⟩=some (.bool true):=by rw [jq l0];rfl
   refine ⟨b4,sn,e2,fun d av=>(e5 d av).2.1,?_⟩;refine leaves_cons (f := 253) (args := #[.pointer (some ⟨w.heap.size,0,none⟩)]) bc (by simp [go_sem]) ?_;refine (XI w.heap.size _).mono ?_;rintro e jC lH ⟨rfl,rfl,rfl⟩;have wF:c3.tmps[2]?.getD undef = .pointer (some ⟨w.heap.size,0,none⟩):=by
    have:=hE.env 2 _ bd;rw [ad9] at this;exact Ds this
   exact ⟨.bool true,by simp [results,Tryz.results220, go_sem,jn,wF],by simp,.ret (.bool true),aQ s aN,_,.bool _,⟨aN,rfl,hk.2,.inl ⟨rfl,dZ⟩⟩,bY,bm aN hC,wE⟩
  | panic v x dr km ar=>
   obtain ⟨bd,rfl,M,rfl,iA,y,aN,cB,nZ⟩:=bp;obtain ⟨rest,rfl,HI⟩:=km;obtain rfl:=XE ar;obtain ⟨mB,hk⟩:=nZ.perm iA;have hC:ak.Sub (aQ s aN) (aQ s M):=by rw [mB];exact xh (k := .own w.heap.size) JP hk.1
   have wE:=bR.sub hC;have dm:=tk bR.lt (.cells #[] 298) True;have a2:=Bi (s:=aQ s aN) (w:=hd w' b4) (p:=bg) (.cells #[] 298) True;obtain ⟨b9,l0,kL,AI⟩:=bR.obj _ _ (nZ.get iA);obtain ⟨bv,rfl⟩:∃ bv,b9 = #[bv]:=by
    generalize aB:b9.toList=BI at kL;cases kL with
    | cons v _ vs _ ar aK=>
    cases aK;exact ⟨v,by rw [← al3 (xs:=b9),aB]⟩
   have az:w.heap.size<(hd w' b4).heap.size:=(i8.1 l0).1;have AJ:=(lJ (hd w' b4) (.cells #[] 298) w.heap.size az).trans l0;have wF:c3.tmps[2]?.getD undef = .pointer (some ⟨w.heap.size,0,none⟩):=by
    have:=hE.env 2 _ bd;rw [ad9] at this;exact Ds this
   obtain ⟨dV,dg,dB,ma,sl⟩:=KP (bY.trans dm) ((bm aN hC).trans bY.size a2) (yH wE _ True) AJ (i0 _) (fun o aE=>by
    rcases aE with aE|⟨e,-⟩
    ·exact AI o aE
    ·omega) hk.1 (.bool false)
   have jn:(((hd w' b4).alloc (.cells #[] 298)).setRow w.heap.size #[.bool false]).cell? ⟨w.heap.size,0,none⟩=some (.bool false):=by rw [jq sl];rfl
   refine ⟨b4,sn,e2,fun d av=>(e5 d av).2.1,?_⟩;refine leaves_cons (f := 253) (args := #[.pointer (some ⟨w.heap.size,0,none⟩)]) bc (by simp [go_sem]) ?_;refine (XJ w.heap.size _ rest bv l0).mono ?_;rintro e jC lH ⟨rfl,rfl,rfl⟩;have HJ:=FT HI;simp only [settle,HJ];exact ⟨.bool false,by simp [results,Tryz.results220, go_sem,jn,wF],by simp,.ret (.bool false),aQ s aN,_,.bool _,⟨aN,rfl,hk.2,.inr ⟨rfl,cB⟩⟩,dV,dg,dB⟩
theorem Nq {n:Int} (h:0≤n) (ad:n<18446744073709551616):aa' .u64 n=n:=by
 rw [IntKind.wrap_u64];omega
theorem XN {n:Nat} (aA:n<4294967296):bitsOf .and .u64 (n:Int) 4294967295=some (n:Int):=by
 have h:=tG (m:=n) (n:=4294967295) ag dE;have e:n &&& 4294967295=n:=by
  rw [show 4294967295=2^32-1 from rfl,Nat.and_two_pow_sub_one_eq_mod,Nat.mod_eq_of_lt aA]
 rw [e] at h;exact h
theorem Nr {n:Nat} (aA:n<4294967296):Int.fdiv (n:Int) (2^(min (32:Int).toNat (ak0 .u64)))=0:=by
 have:=tH (m:=n) (c:=32) ag;rw [Nat.shiftRight_eq_div_pow,Nat.div_eq_of_lt ag] at this;exact this
theorem XO (n:Nat) (aA:n<4294967296):aU d0 278 [.int .u64 1,.int .u64 (n:Int)] (.cg [.int .u64 0,.int .u64 (n:Int)]):=by
 have an:=bC;refine aU.bn aj Tryz.func278 C C fun s I=>?_
 have eg:aa' .u64 (1*(n:Int))=(n:Int):=by rw [Int.one_mul];exact Nq ag ag
 have lo:aa' .u64 (0*(n:Int))=0:=by rw [Int.zero_mul];rfl
 refine dz ?_;refine aa.bits 1 C C C C C C dE ?_;refine hQ ?_;refine aa.shr 0 C C C C C C ag dE ?_;refine hQ ?_;refine aa.bits (n:Int) C C C C C C (XN aA) ?_;refine hQ ?_;refine aa.shr 0 C C C C C C ag (Nr aA) ?_;refine bG ?_;refine aa.shr 0 C C C C C C ag (by rw [eg];exact Nr aA) ?_;refine hQ ?_;refine aa.bits 0 C C C C C C (by rw [lo];decide) ?_;refine hQ ?_;refine aa.shr 0 C C C C C C ag (by rw [lo];decide) ?_;refine bG ?_;refine aa.shr 0 C C C C C C ag dE ?_;refine dT ?_;exact Fin.cL I C (aR.of_eq (by rw [eg];rfl))
theorem XP (n:Nat) (aA:n<4294967296):aU d0 258 [.int .u64 1,.int .u64 (n:Int)] (.cg [.int .u64 0,.int .u64 (n:Int)]):=by
 have an:=bC;refine aU.bn aj Tryz.func258 C C fun s I=>?_
 have U:=XO n aA;refine cD ?_;exact bA I
theorem XQ (z:Int) (n m k:Nat) (h:m+k≤n) (aD:k≤m):((t6 m z++t6 (n-m) 0).map bb).take m++(((t6 m z++t6 (n-m) 0).map bb).drop 0).take k++((t6 m z++t6 (n-m) 0).map bb).drop (m+k)=(t6 (m+k) z++t6 (n-(m+k)) 0).map bb:=by
 rw [aj',← ap0,← ap0,← List.map_drop,← ac2,← ac2];congr 1;rw [List.take_left' bc,ag2 cO,List.take_replicate,ak1 aD,List.replicate_append_replicate];congr 1;rw [List.drop_append,List.drop_eq_nil_of_le bc,d7,ad',aw8];congr 1;omega
theorem XR (z:Int) (n:Nat) (U:1≤n) (aA:n≤1000):bz d0 224 [.ay 1 [.int .i64 z] .clip,.int .i64 (n:Int)] ([]) (fun o K=>∃ b,o = .ret (ea b n n)∧K=[(.own b,.box 3 ((t6 n z).map bb))]):=by
 have an:=bC;refine bz.bn aj Tryz.func224 C C fun s I=>?_
 have hm:=XP n ag;have eg:aa' .u64 (n:Int)=(n:Int):=Nq ag ag;have ky:aa' .i64 (n:Int)=(n:Int):=er ag ag;have hm:aU d0 258 [.int .u64 (aa' .u64 1),.int .u64 (aa' .u64 (n:Int))] (.cg [.int .u64 0,.int .u64 (n:Int)]):=by rw [eg];exact hm
 refine di ?_;refine ae.cond C (fun h=>by simp at h;omega) (fun _=>?_);refine di ?_;refine aa.xC aj I n C C C C C C C C C C (ac5 (fun z=>some (af.int .i64 z)) ky) (ac5 (fun z=>some (af.int .i64 z)) ky) (by show _*8≤_;omega) ag (fun b I=>?_);refine hQ ?_;have bo:t6 n (af.int .i64 0)=(t6 n (0:Int)).map bb:=by rw [at8];rfl
 refine aa.F6 aj I C C C C C C C C C aV C C C cO cO (fun I=>?_);have zJ:(t6 n (af.int .i64 0)).take 0++[af.int .i64 z]++(t6 n (af.int .i64 0)).drop (0+[af.int .i64 z].length)=(t6 1 z++t6 (n-1) 0).map bb:=by
  rw [aj8,aw8];simp [bb]
 rw [zJ] at I ⊢;refine ej ?_;refine ae.cl [7] C I (σ:=Nat) (fun m=>[(8,.int .i64 (m:Int))]) (fun m=>[(.own b,.box 3 ((t6 m z++t6 (n-m) 0).map bb))]) (fun m=>1≤m∧m≤n) (fun m=>n-m) 1 ⟨i0 _,U⟩ (cI C) a7 ?_;rintro m ⟨pU,Md⟩ I;refine j6 ?_;refine aa.sD aj C C C C C C C ?_;refine ga ?_;refine ae.cond C (fun az=>?_) (fun a'=>?_);rotate_left
 ·have a':m=n:=by simp at a';omega
  subst a';have pI:(t6 m z++t6 (m-m) 0).map bb=(t6 m z).map bb:=by simp
  rw [pI] at I ⊢;refine di ?_;exact Fin.bu I C aM a7 ⟨b,rfl,rfl⟩
 have az:m<n:=by simp at az;omega
 have hx:((t6 m z++t6 (n-m) 0).map bb).length=n:=by simp;omega
 refine ej ?_;refine ae.nu (fun _=>True) aj mixed C (bh.run trivial C ?_);refine bh.F7 3 aj trivial m C C C C C C C C C C C C ag ag ag ?_;refine bh.zu 6 aj trivial m C C C C C C C C C C C ag ?_;refine bh.run trivial C ?_;refine bh.zP 7 aj I (min m (n-m)) C C C C C C C C C C C .here C C (by rw [aj',← ap0];exact Ak _) (by rw [hx];omega) (by rw [hx];omega) (fun _ => .inl trivial) (fun I=>?_);rw [XQ z n m (min m (n-m)) ag ag] at I ⊢;refine bh.run trivial C (ba.done C ?_);refine sw ?_;exact bF.mk (m+min m (n-m)) I ⟨by omega,by omega⟩ (by repeat (first|exact trivial|refine ⟨⟨_,rfl,aM⟩,?_⟩|refine ⟨⟨_,rfl,aR.of_eq Cb⟩,?_⟩)) a7 (by show n-(m+min m (n-m))<n-m;omega)
abbrev n0:=Int×Int×Nat
def rQ (g:Int→Int→List n0) (isLet:Bool) (size:Int):Nat→List Int→List n0
 | _,[]=>[]
 | i,k::r=>g k (if isLet&&i==1 then size+1 else size)++rQ g isLet size (i+1) r
def wG (p:bK) (n:Int):Bool:=decide (n≥0)&&decide (n<(p.nodes.length:Int))
def nb (p:bK):Nat→Int→Int→List n0
 | 0,n,size=>[(n,size,13)]
 | f+1,n,size=>(n,size,12-f)::(if wG p n then rQ (nb p f) (decide ((p.nodes.getD n.toNat default).op=9)) size 0 (p.nodes.getD n.toNat default).kids else [])
def HK (p:bK) (x:n0):Prop:=wG p x.1=true∧x.2.2≤12
def AK (p:bK) (next:Bool) (x:n0) (out:List Int):Option (List Int):=
 if ov p x.1 out&&decide (x.2.2≤12) then (if xu p next (p.nodes.getD x.1.toNat default) x.2.1 then some (out.set x.1.toNat x.2.1) else none) else none
def foldI (p:bK) (next:Bool):List n0→List Int→Option (List Int)
 | [],out=>some out
 | x::r,out=>(AK p next x out).bind (foldI p next r)
theorem Ns (p:bK) (next:Bool):∀ (l r:List n0) (out:List Int),foldI p next (l++r) out=(foldI p next l out).bind (foldI p next r)
  | [],r,out=>rfl
  | x::l,r,out=>by
    rw [t8,foldI,foldI];cases AK p next x out with
    | none=>rfl
    | some o=>exact Ns p next l r o
theorem Nt (p:bK) (next:Bool) {g:Int→Int→List n0} {h:Int→Int→List Int→Option (List Int)} (au:∀ k s out,foldI p next (g k s) out=h k s out) (isLet:Bool) (size:Int) :
    ∀ (ks:List Int) (i:Nat) (out:List Int),foldI p next (rQ g isLet size i ks) out=k0 h isLet size i ks out
  | [],i,out=>rfl
  | k::r,i,out=>by
    rw [rQ,k0,Ns,au];cases h k (if isLet&&i==1 then size+1 else size) out with
    | none=>rfl
    | some o=>exact Nt p next au isLet size r (i+1) o
theorem Nu (p:bK) (next:Bool):∀ (f:Nat) (n size:Int) (out:List Int),f≤12→foldI p next (nb p f n size) out=visitM p next f n size out
  | 0,n,size,out,_=>by
    rw [nb,foldI,visitM,AK];rw [f0 bc];rfl
  | f+1,n,size,out,a1=>by
    rw [nb,foldI,visitM,AK];have av:decide (((n,size,12-f):n0).2.2≤12)=true:=by simp
    rw [av,am8];cases ao:ov p n out with
    | false=>simp
    | true=>
      have ff:wG p n=true:=by
        unfold ov at ao;unfold wG;simp only [f6,g8] at ao ⊢;exact ⟨ao.1,ao.2.1⟩
      simp only [ae2,ff];cases aA:xu p next (p.nodes.getD n.toNat default) size with
      | false=>simp
      | true=>
        simp only [ae2];exact Nt p next (fun k s o=>Nu p next f k s o ag) _ _ _ _ _
def AL (x:n0):af := .int .i64 x.1
def AM (x:n0):af := .agg [.int .i64 x.2.1,.int .i64 (x.2.2:Int)]
def Nv (fv:af) (p:bK) (dI:Nat):af := .func 260 [] [.bs [fv] 0,.bs (cV p) 0,.ptr dI 0]
def wH (fv:af) (p:bK) (dI:Nat):ds := .box 306 [Nv fv p dI]
def XS {α:Type} (Go:List α→a6→Prop) (fm:a6→Prop) (fr:af→a6→Prop) (rem:List α) (o:eo) (aN:a6):Prop:=
 (o = .ret (.bool true)∧Go rem aN)∨(o = .ret (.bool false)∧fm aN)∨∃ v,o = .panic v∧fr v aN
structure Nw (dI:Nat) (p:bK) (fv:af) (Go:List n0→a6→Prop) (fm:a6→Prop) (fr:af→a6→Prop):Prop where
 call:∀ x rem K,Go (x::rem) K→dh d0 fv [AL x,AM x] K (fun o aN=>(o = .ret (.bool true)∧HK p x∧Go rem aN)∨(o = .ret (.bool false)∧fm aN)∨∃ v,o = .panic v∧fr v aN)
 qp:∀ xs K,Go xs K→∃ R,bl K (.own dI) (wH fv p dI) R
theorem XT (p:bK) (aE:fD p) (dI:Nat) (fv:af) (Go:List n0→a6→Prop) (fm:a6→Prop) (fr:af→a6→Prop) (ep:Nw dI p fv Go fm fr):∀ (f:Nat),f≤12→∀ (n size:Int),(0≤size∧size+f≤100)→∀ (rest:List n0) (K:a6),Go (nb p f n size++rest) K →
  bz d0 260 [.int .i64 n,.agg [.int .i64 size,.int .i64 ((13-f:Nat):Int)],.bs [fv] 0,.bs (cV p) 0,.ptr dI 0] K (XS Go fm fr rest):=by
 have an:=bC;intro f
 induction f with
 | zero=>
  intro _ n size b' rest K dZ;have aF:=ep.call (n,size,13) rest K dZ;unfold AL AM at aF;refine bz.bn aj Tryz.func260 C C fun s I=>?_
  unfold cV;refine dz ?_;refine aa.gr C C C C C C aF I (aH.all _) ?_ ?_
  ·rintro x aN (⟨_,au,_⟩|⟨⟨⟩,av⟩|⟨_,⟨⟩,_⟩) I
   ·exact absurd au.2 (by show ¬ (13≤12);omega)
   ·rw [d8] at I ⊢
    refine dT ?_;exact Fin.bu I C aM (aH.all _) (.inr (.inl ⟨rfl,av⟩))
  ·rintro x aN (⟨h,_⟩|⟨h,_⟩|⟨v,⟨⟩,aE⟩) I
   ·cases h
   ·cases h
   exact Fin.e6 I aM (aH.jd (aH.all _)) (.inr (.inr ⟨_,rfl,aE⟩))
 | succ f aX=>
  intro a1 n size b' rest K dZ;have av:(13-(f+1):Nat)=12-f:=by omega
  rw [av];rw [nb,t8] at dZ;have aF:=ep.call _ _ K dZ;unfold AL AM at aF;refine bz.bn aj Tryz.func260 C C fun s I=>?_
  unfold cV;refine dz ?_;refine aa.gr C C C C C C aF I (aH.all _) ?_ ?_
  ·rintro x aN (⟨⟨⟩,au,dZ⟩|⟨⟨⟩,av⟩|⟨_,⟨⟩,_⟩) I
   ·rw [d8] at I ⊢
    obtain ⟨ff,_⟩:=au;have ff:wG p n=true:=ff;rw [ff,f9 C] at dZ;unfold wG at ff;simp only [f6,g8] at ff;obtain ⟨i,rfl⟩:∃ i:Nat,n=i:=⟨n.toNat,by omega⟩;obtain ⟨x,ab,ct⟩:=cf (f:=gj) (l:=p.nodes) (j:=i) ag;have kr:p.nodes.getD ((i:Int)).toNat default=x:=by rw [ac3,d5,ab];rfl
    rw [kr] at dZ;have ue:=aE.kids x (d6 ab);unfold gj kA bk at ct;refine bG ?_;refine ae.cl [0,3,4,6,21,22] C I (σ:=Nat×a6) (fun q=>[(23,.int .i64 (q.1:Int))]) (fun q=>q.2) (fun q=>q.1≤x.kids.length∧Go (rQ (nb p f) (decide (x.op=9)) size q.1 (x.kids.drop q.1)++rest) q.2) (fun q=>x.kids.length-q.1) (0,aN) ⟨g9 _,dZ⟩ (cI C) (aH.all _) ?_;rintro ⟨j,Ar⟩ ⟨aO,yf⟩ I;simp only at aO yf I ⊢;refine ck ?_;refine ae.cond C (fun az=>?_) (fun a'=>?_);rotate_left
    ·have a':j=x.kids.length:=by simp at a';omega
     subst a';rw [eR (i0 _),rQ,d7] at yf;refine eH ?_;exact Fin.bu I C aM (aH.all _) (.inl ⟨rfl,yf⟩)
    have az:j<x.kids.length:=by simpa using az
    obtain ⟨k,aD,eu⟩:=cf (f:=bb) az;rw [drop_cons aD,rQ,ae6] at yf;obtain ⟨R,nZ⟩:=ep.qp _ _ yf;have cS:=dh.fa (first:=[]) (args:=[.int .i64 k,.agg [.int .i64 (if decide (x.op=9)&&j==1 then size+1 else size),.int .i64 ((13-f:Nat):Int)]]) (cap:=[.bs [fv] 0,.bs (cV p) 0,.ptr dI 0]) (aX ag _ _ (by split<;>omega) _ _ yf);have eg:aa' .i64 (((12-f:Nat):Int)+1)=((13-f:Nat):Int):=by rw [er ag ag];omega
    have Du:((j:Int)==1)=(j==1):=by rw [ad1];simp;omega
    have rP:decide (x.op=9)=(x.op==9):=rfl;rw [rP,← eg] at cS;unfold cV at cS;unfold wH Nv cV at nZ;unfold bb at eu
    repeat (first|(refine vx I ?_;clear I;intro I)|refine aa.dO aj I rfl rfl rfl rfl rfl rfl rfl (fun cy I=>?_))
    cases jT:(x.op==9) with
    | false=>
     rw [jT,f7] at cS;simp only [ad5,af5] at cS;refine bG ?_;refine aa.ey aj I C C C C C C (.there nZ) b1 ?_;refine cm I ?_;intro I;refine aa.gr C C C C C C cS I (aH.there (aH.all Ar)) ?_ ?_
     ·rintro _ iw (⟨⟨⟩,AN⟩|⟨⟨⟩,av⟩|⟨_,⟨⟩,_⟩) I
      ·refine bG ?_
       exact bF.mk (j+1,iw) I ⟨az,by show Go (rQ (nb p f) (decide (x.op=9)) size (j+1) (ap6 (j+1) x.kids)++rest) iw;rw [rP,jT];exact AN⟩ cC (aH.jd (aH.all _)) px
      ·refine fB ?_
       exact Fin.bu I C aM (aH.jd (aH.all _)) (.inr (.inl ⟨rfl,av⟩))
     ·rintro x aN (⟨h,_⟩|⟨h,_⟩|⟨v,⟨⟩,aE⟩) I
      ·cases h
      ·cases h
      exact Fin.e6 I aM (aH.jd (aH.all _)) (.inr (.inr ⟨_,rfl,aE⟩))
    | true=>
     rw [jT,f4] at cS;refine ga ?_;cases xR:(j==1) with
     | false=>
      rw [xR] at cS Du;simp only [ad5,af5] at cS;refine ae.cond C (fun h=>by rw [Du] at h;cases h) (fun _=>?_);refine ej ?_;refine aa.ey aj I C C C C C C (.there nZ) b1 ?_;refine cm I ?_;intro I;refine aa.gr C C C C C C cS I (aH.there (aH.all Ar)) ?_ ?_
      ·rintro _ iw (⟨⟨⟩,AN⟩|⟨⟨⟩,av⟩|⟨_,⟨⟩,_⟩) I
       ·refine bG ?_
        exact bF.mk (j+1,iw) I ⟨az,by show Go (rQ (nb p f) (decide (x.op=9)) size (j+1) (ap6 (j+1) x.kids)++rest) iw;rw [rP,jT];exact AN⟩ cC (aH.jd (aH.all _)) px
       ·refine fB ?_
        exact Fin.bu I C aM (aH.jd (aH.all _)) (.inr (.inl ⟨rfl,av⟩))
      ·rintro x aN (⟨h,_⟩|⟨h,_⟩|⟨v,⟨⟩,aE⟩) I
       ·cases h
       ·cases h
       exact Fin.e6 I aM (aH.jd (aH.all _)) (.inr (.inr ⟨_,rfl,aE⟩))
     | true=>
      rw [xR] at cS Du;simp only [ae2] at cS;have ky:aa' .i64 (size+1)=size+1:=er ag ag;rw [← ky] at cS;refine ae.cond C (fun _=>?_) (fun h=>by rw [Du] at h;cases h);refine cm I ?_;intro I;refine aa.ey aj I C C C C C C (.there nZ) b1 ?_;refine cm I ?_;intro I;refine aa.gr C C C C C C cS I (aH.there (aH.all Ar)) ?_ ?_
      ·rintro _ iw (⟨⟨⟩,AN⟩|⟨⟨⟩,av⟩|⟨_,⟨⟩,_⟩) I
       ·refine bG ?_
        exact bF.mk (j+1,iw) I ⟨az,by show Go (rQ (nb p f) (decide (x.op=9)) size (j+1) (ap6 (j+1) x.kids)++rest) iw;rw [rP,jT];exact AN⟩ cC (aH.jd (aH.all _)) px
       ·refine fB ?_
        exact Fin.bu I C aM (aH.jd (aH.all _)) (.inr (.inl ⟨rfl,av⟩))
      ·rintro x aN (⟨h,_⟩|⟨h,_⟩|⟨v,⟨⟩,aE⟩) I
       ·cases h
       ·cases h
       exact Fin.e6 I aM (aH.jd (aH.all _)) (.inr (.inr ⟨_,rfl,aE⟩))
   ·rw [d8] at I ⊢
    refine dT ?_;exact Fin.bu I C aM (aH.all _) (.inr (.inl ⟨rfl,av⟩))
  ·rintro x aN (⟨h,_⟩|⟨h,_⟩|⟨v,⟨⟩,aE⟩) I
   ·cases h
   ·cases h
   exact Fin.e6 I aM (aH.jd (aH.all _)) (.inr (.inr ⟨_,rfl,aE⟩))
theorem XU (p:bK) (aE:fD p) (n size:Int) (b':0≤size∧size+12≤100):FZ d0 259 [] [.bs (cV p) 0,.bs [.int .i64 n] 0,.bs [.int .i64 size,.int .i64 1] 0] [] AL AM (HK p) (nb p 12 n size):=by
 intro l Go fm fr om K bm;have ep:∀ dI,Nw dI p (ld l) (fun xs K=>∃ aN,K=aN++[(.own dI,wH (ld l) p dI)]∧Go xs aN) (fun K=>∃ aN,K=aN++[(.own dI,wH (ld l) p dI)]∧fm aN) (fun v K=>∃ aN,K=aN++[(.own dI,wH (ld l) p dI)]∧fr v aN):=fun dI=>by
  refine ⟨fun x rem K ⟨aN,e,au⟩=>?_,fun xs K ⟨aN,e,_⟩=>⟨aN++[],by subst e;exact bl.app aN .here⟩⟩;subst e;refine dh.frame (R:=[(.own dI,wH (ld l) p dI)]) (om x rem aN au) (aH.jd (aH.ez aN)) ?_;rintro o k5 (⟨rfl,U,h⟩|⟨rfl,h⟩|⟨v,rfl,h⟩)
  ·exact .inl ⟨rfl,U,k5,rfl,h⟩
  ·exact .inr (.inl ⟨rfl,k5,rfl,h⟩)
  ·exact .inr (.inr ⟨v,rfl,k5,rfl,h⟩)
 have hw:=fun dI=>dh.fa (first:=[]) (args:=[.int .i64 n,.agg [.int .i64 size,.int .i64 1]]) (cap:=[.bs [ld l] 0,.bs (cV p) 0,.ptr dI 0]) (XT p aE dI (ld l) _ _ _ (ep dI) 12 (i0 _) n size ag [] (K++[(.own dI,wH (ld l) p dI)]) ⟨K,rfl,by rw [d8];exact bm⟩)
 refine bz.bn aj Tryz.func259 C C fun s I=>?_
 rw [d7] at I ⊢
 repeat (first|(refine JS I ?_;clear I;intro I)|refine aa.dO aj I rfl rfl rfl rfl rfl rfl rfl (fun cy I=>?_))
 refine aa.gr C C C C C C (hw cy) I (aH.h9 (au1 _ _).symm) ?_ ?_
 ·rintro x _ (⟨⟨⟩,k5,rfl,h⟩|⟨⟨⟩,k5,rfl,h⟩|⟨_,⟨⟩,_⟩) I
  all_goals rw [d8] at I ⊢
  ·refine ga ?_
   exact Fin.bu I C aM (aH.jd (aH.ez k5)) (.inl ⟨rfl,.inl h⟩)
  ·refine ga ?_
   exact Fin.bu I C aM (aH.jd (aH.ez k5)) (.inl ⟨rfl,.inr h⟩)
 ·rintro x _ (⟨h,_⟩|⟨h,_⟩|⟨v,⟨⟩,k5,rfl,h⟩) I
  ·cases h
  ·cases h
  rw [d8] at I ⊢;exact Fin.e6 I aM (aH.jd (aH.ez k5)) (.inr ⟨_,rfl,h⟩)
theorem XV (p:bK) (n size d:Int):aU d0 226 [cW p,.int .i64 n,.agg [.int .i64 size,.int .i64 d]] (.func 259 [] [.bs (cV p) 0,.bs [.int .i64 n] 0,.bs [.int .i64 size,.int .i64 d] 0]):=by
 have an:=bC;refine aU.bn aj Tryz.func226 C C fun s I=>?_
 unfold cW cV;refine gO ?_;exact bA I
theorem Nx:o2 d0 277 "consort/bind.many" 335 := B3 fA
theorem Ny:o2 d0 279 "consort/bind.many" 336 := B3 fA
theorem Nz (p:bK) (x:hX):(x.op=5∧wb x.op = .iface 279 (.agg [])∧rb p x=some (p.cR.getD x.n.toNat 0))∨(∃ m,wb x.op=wa m∧rb p x=some m)∨(wb x.op = .nh∧rb p x=none):=by
 unfold wb rb;by_cases U:x.op=5
 ·left;rw [f9 U,f9 U];exact ⟨U,rfl,rfl⟩
 rw [f0 U,f0 U];right;by_cases ad:x.op=1∨x.op=2∨x.op=3∨x.op=6∨x.op=18
 ·left;rw [f9 ad,f9 ad];exact ⟨0,rfl,rfl⟩
 rw [f0 ad,f0 ad];by_cases al:x.op=4∨x.op=8∨x.op=17
 ·left;rw [f9 al,f9 al];exact ⟨1,rfl,rfl⟩
 rw [f0 al,f0 al];by_cases bd:x.op=7∨x.op=9∨x.op=11∨x.op=12∨x.op=13∨x.op=14∨x.op=15∨x.op=16
 ·left;rw [f9 bd,f9 bd];exact ⟨2,rfl,rfl⟩
 rw [f0 bd,f0 bd];by_cases bB:x.op=10
 ·left;rw [f9 bB,f9 bB];exact ⟨3,rfl,rfl⟩
 right;rw [f0 bB,f0 bB];exact ⟨rfl,rfl⟩
theorem ux {m l:Int}:((some m==some l)=true)↔l=m:=by
 rw [aj1,Option.some.injEq];exact eq_comm
def fS (dt b:Nat) (out:List Int):a6:=[(.own dt,.box 23 [ea b out.length out.length]),(.own b,.box 3 (out.map bb))]
def XW (dt b:Nat) (len:Nat) (r:Option (List Int)) (o:eo) (K:a6):Prop:=
 ∃ out,out.length=len∧K=fS dt b out∧((o = .ret (.cg [])∧r=some out)∨(o = .panic sO∧r=none))
theorem NA (p:bK) (aE:fD p) (abo:p.cR.all (fun n=>decide (n≥1)&&decide (n≤3))=true) (dt b:Nat) (out:List Int) (gh:out.length=p.nodes.length) (oV:p.nodes.length≤120) (n size:Int) (next:Bool) (b':0≤size∧size≤50) :
  dh d0 (.func 225 [] [.bs (cV p) 0,.ptr dt 0]) [.int .i64 n,.int .i64 size,.bool next] (fS dt b out) (XW dt b p.nodes.length (visitM p next 12 n size out)):=by
 have an:=bC;have l0:=XV p n size 1;have nx:=XU p aE n size ag;refine dh.fa (first:=[]) (cap:=[.bs (cV p) 0,.ptr dt 0]) ?_;refine bz.bn aj Tryz.func225 C C fun s I=>?_
 rw [← Nu p next 12 n size out (i0 _)];unfold cW at l0;unfold cV at *;unfold fS at I;refine cD ?_;refine ae.KZ I C dE dE nx .nil (fun rem K=>∃ b2,b2.length=p.nodes.length∧K=fS dt b b2∧foldI p next (nb p 12 n size) out=foldI p next rem b2) (fun _ _=>False) (fun v K=>v=sO∧foldI p next (nb p 12 n size) out=none∧∃ b2,b2.length=p.nodes.length∧K=fS dt b b2) ⟨out,gh,rfl,rfl⟩ ?_ ?_ (fun _ _ h=>h.elim) ?_
 ·rintro s₁ x rem K ⟨b2,eZ,rfl,aw⟩ I
  obtain ⟨HL,xs,HM⟩:=x;unfold AL AM;unfold fS at I ⊢;rw [foldI,AK] at aw;simp only at aw;refine fP ?_;by_cases g1:HL≥0;rotate_left
  ·refine aa.dc 22 C (H1 g1) ?_
   refine dT ?_;refine aa.bZ C C C C C (gK _) I .nil ?_ ?_;rotate_left
   ·rintro _ _ ⟨rfl,h⟩ I
    obtain ⟨aA,rfl⟩:=gw h;rw [d7] at I ⊢;exact At.mk (fS dt b b2) I (aH.all _) ⟨rfl,(by rw [aw];simp [ov,g1]),b2,eZ,rfl⟩
   rintro _ _ ⟨rfl,h⟩ I;obtain ⟨al,rfl⟩:=gv h;rw [d7] at I ⊢;exact absurd al bc
  obtain ⟨i,rfl⟩:∃ i:Nat,HL=i:=⟨HL.toNat,by omega⟩;refine aa.dW 22 C (i6 g1) ?_;refine dD ?_;by_cases g2:i<p.nodes.length;rotate_left
  ·refine aa.dc 29 C cO ?_
   refine dT ?_;refine aa.bZ C C C C C (gK _) I .nil ?_ ?_;rotate_left
   ·rintro _ _ ⟨rfl,h⟩ I
    obtain ⟨aA,rfl⟩:=gw h;rw [d7] at I ⊢;exact At.mk (fS dt b b2) I (aH.all _) ⟨rfl,(by rw [aw];simp [ov,g2]),b2,eZ,rfl⟩
   rintro _ _ ⟨rfl,h⟩ I;obtain ⟨al,rfl⟩:=gv h;rw [d7] at I ⊢;exact absurd al bc
  refine aa.dW 29 C cO ?_;obtain ⟨z,bP⟩:∃ z,b2[i]? = some z:=⟨_,f8 ag⟩;have GP:b2.getD i 0=z:=by rw [d5,bP];rfl
  have xD:(b2.map bb)[i*1]? = some (.int .i64 z):=by rw [ah2,ad7,bP];rfl
  obtain ⟨x,ab,ct⟩:=cf (f:=gj) (l:=p.nodes) (j:=i) g2;have GH:p.nodes.getD i default=x:=by rw [d5,ab];rfl
  rw [ac3,GH] at aw;refine cm I ?_;intro I;refine aa.gi aj i C C C C C C C C C C ag ?_;refine aa.k2 aj I C C C C C C aV C xD ?_;refine dD ?_;have gS:ov p (i:Int) b2=decide (z<0):=by
   unfold ov;rw [ac3,GP,i6 g1,show decide ((i:Int)<(p.nodes.length:Int))=true by simp;omega];rfl
  rw [gS] at aw;by_cases g3:z<0;rotate_left
  ·refine aa.dc 36 C (H1 g3) ?_
   refine dT ?_;refine aa.bZ C C C C C (gK _) I .nil ?_ ?_;rotate_left
   ·rintro _ _ ⟨rfl,h⟩ I
    obtain ⟨aA,rfl⟩:=gw h;rw [d7] at I ⊢;exact At.mk (fS dt b b2) I (aH.all _) ⟨rfl,(by rw [aw];simp [g3]),b2,eZ,rfl⟩
   rintro _ _ ⟨rfl,h⟩ I;obtain ⟨al,rfl⟩:=gv h;rw [d7] at I ⊢;exact absurd al bc
  refine aa.dW 36 C (i6 g3) ?_;rw [i6 g3,f4] at aw;refine dD ?_;refine aa.bZ C C C C C (gK _) I .nil ?_ ?_;rotate_left
  ·rintro _ _ ⟨rfl,h⟩ I
   obtain ⟨aA,rfl⟩:=gw h;rw [d7] at I ⊢;exact At.mk (fS dt b b2) I (aH.all _) ⟨rfl,(by rw [aw,show decide (HM≤12)=false from (by simp at aA ⊢;omega)];simp),b2,eZ,rfl⟩
  rintro _ _ ⟨rfl,h⟩ I;obtain ⟨al,rfl⟩:=gv h;rw [d7] at I ⊢;have g4:HM≤12:=by simp at al;omega
  rw [i6 g4,f9 C] at aw;have Dv:HK p ((i:Int),xs,HM):=⟨by unfold wG;simp;omega,g4⟩;have uY:eO (i*1) [.int .i64 xs] (b2.map bb)=(b2.set i xs).map bb:=by
   rw [rj,ah2,an1];rfl
  refine cm I ?_;intro I;refine aa.gi aj i C C C C C C C C C C ag ?_;refine aa.lY aj I _ C C C C C C C C C aV (by rw [f5];show i*1+1≤_;omega) uY (fun I=>?_);have mj:(b2.set i xs).length=p.nodes.length:=by rw [ae0];exact eZ
  have nN:=Xu p aE x xs;have uy:=Vy x.op;unfold cW cV gj kA bk at nN;unfold gj kA bk at ct;unfold xu at aw;cases jB:mv p x xs with
  | false=>
   rw [jB] at nN;rw [jB,f7,f0 bc] at aw;refine fP ?_;refine aa.bZ C C C C C (gK _) I .nil ?_ ?_;rotate_left
   ·rintro _ _ ⟨rfl,h⟩ I
    obtain ⟨aA,rfl⟩:=gw h;rw [d7] at I ⊢;exact At.mk (fS dt b (b2.set i xs)) I (by simp only [fS,ae0];exact a7) ⟨rfl,aw,(b2.set i xs),mj,rfl⟩
   rintro _ _ ⟨rfl,h⟩ I;obtain ⟨bd,rfl⟩:=gv h;rw [d7] at I ⊢;exact absurd bd bc
  | true=>
  rw [jB] at nN;rw [jB,f4] at aw;cases next with
  | true=>
   rw [al7,f4] at aw;refine fP ?_;refine aa.bZ C C C C C (gK _) I .nil ?_ ?_;rotate_left
   ·rintro _ _ ⟨rfl,h⟩ I
    obtain ⟨aA,rfl⟩:=gw h;rw [d7] at I ⊢;exact At.mk (fS dt b (b2.set i xs)) I (by simp only [fS,ae0];exact a7) ⟨rfl,(absurd aA bc),(b2.set i xs),mj,rfl⟩
   rintro _ _ ⟨rfl,h⟩ I;obtain ⟨bd,rfl⟩:=gv h;rw [d7] at I ⊢;rcases Nz p x with ⟨bB,qL,jJ⟩|⟨m,qL,jJ⟩|⟨qL,jJ⟩
   ·rw [qL] at uy
    rw [jJ] at aw;have aO:0≤x.n∧x.n<(p.cR.length:Int):=by
     simpa [mv,bB] using jB
    obtain ⟨k,aD⟩:∃ k:Nat,x.n=k:=⟨x.n.toNat,by omega⟩;have h5:=Mg p x k (p.cR.getD x.n.toNat 0) aD M8;unfold cW cV gj kA bk at h5;refine cD ?_;refine aL.rm C C C C C C Ny h5 ?_;refine kW ?_;refine aL.bZ C C C C C C (gK _) I .nil ?_ ?_;rotate_left
    ·rintro _ _ ⟨rfl,h⟩ I
     obtain ⟨aA,rfl⟩:=gw h;rw [d7] at I ⊢;rw [f5] at aA;refine At.mk (fS dt b (b2.set i xs)) I (by simp only [fS,ae0];exact a7) ⟨rfl,?_,_,mj,rfl⟩;rw [f0 (fun e=>absurd (ux.mp e) ry)] at aw;exact aw
    rintro _ _ ⟨rfl,h⟩ I;obtain ⟨aA,rfl⟩:=gv h;rw [d7] at I ⊢;rw [f5] at aA;rw [f9 (ux.mpr ry)] at aw;refine gg ?_;exact At.mk (fS dt b (b2.set i xs)) I (by simp only [fS,ae0];exact a7) ⟨Dv,_,mj,rfl,aw⟩
   ·rw [qL] at uy
    rw [jJ] at aw;unfold wa at uy;have h5:=Mf m p x;unfold cW cV gj kA bk at h5;refine cD ?_;refine aL.rm C C C C C C Nx h5 ?_;refine kW ?_;refine aL.bZ C C C C C C (gK _) I .nil ?_ ?_;rotate_left
    ·rintro _ _ ⟨rfl,h⟩ I
     obtain ⟨aA,rfl⟩:=gw h;rw [d7] at I ⊢;rw [f5] at aA;refine At.mk (fS dt b (b2.set i xs)) I (by simp only [fS,ae0];exact a7) ⟨rfl,?_,_,mj,rfl⟩;rw [f0 (fun e=>absurd (ux.mp e) ry)] at aw;exact aw
    rintro _ _ ⟨rfl,h⟩ I;obtain ⟨aA,rfl⟩:=gv h;rw [d7] at I ⊢;rw [f5] at aA;rw [f9 (ux.mpr ry)] at aw;refine gg ?_;exact At.mk (fS dt b (b2.set i xs)) I (by simp only [fS,ae0];exact a7) ⟨Dv,_,mj,rfl,aw⟩
   ·rw [qL] at uy
    rw [jJ] at aw;have aw:foldI p true (nb p 12 n size) out=none:=aw;refine cD ?_;refine aa.bZ C C C C C (gK _) I .nil ?_ ?_;rotate_left
    ·rintro _ _ ⟨rfl,h⟩ I
     obtain ⟨aA,rfl⟩:=gw h;rw [d7] at I ⊢;exact At.mk (fS dt b (b2.set i xs)) I (by simp only [fS,ae0];exact a7) ⟨rfl,aw,(b2.set i xs),mj,rfl⟩
    rintro _ _ ⟨rfl,h⟩ I;obtain ⟨bB,rfl⟩:=gv h;rw [d7] at I ⊢;exact absurd bB bc
  | false=>
   rw [af1] at aw;refine fP ?_;refine aa.bZ C C C C C (gK _) I .nil ?_ ?_;rotate_left
   ·rintro _ _ ⟨rfl,h⟩ I
    obtain ⟨aA,rfl⟩:=gw h;rw [d7] at I ⊢;exact At.mk (fS dt b (b2.set i xs)) I (by simp only [fS,ae0];exact a7) ⟨rfl,(by rw [show decide (x.op≠18)=false by simpa using aA,f7,f0 bc] at aw;exact aw),(b2.set i xs),mj,rfl⟩
   rintro _ _ ⟨rfl,h⟩ I;obtain ⟨bd,rfl⟩:=gv h;rw [d7] at I ⊢;rw [show decide (x.op≠18)=true by simpa using bd,f4] at aw;rcases Nz p x with ⟨bB,qL,jJ⟩|⟨m,qL,jJ⟩|⟨qL,jJ⟩
   ·rw [qL] at uy
    rw [jJ] at aw;have aO:0≤x.n∧x.n<(p.cR.length:Int):=by
     simpa [mv,bB] using jB
    obtain ⟨k,aD⟩:∃ k:Nat,x.n=k:=⟨x.n.toNat,by omega⟩;have h5:=Mg p x k (p.cR.getD x.n.toNat 0) aD M8;unfold cW cV gj kA bk at h5;refine cD ?_;refine aL.rm C C C C C C Ny h5 ?_;refine kW ?_;refine aL.bZ C C C C C C (gK _) I .nil ?_ ?_;rotate_left
    ·rintro _ _ ⟨rfl,h⟩ I
     obtain ⟨aA,rfl⟩:=gw h;rw [d7] at I ⊢;rw [f5] at aA;refine At.mk (fS dt b (b2.set i xs)) I (by simp only [fS,ae0];exact a7) ⟨rfl,?_,_,mj,rfl⟩;rw [f0 (fun e=>absurd (ux.mp e) ry)] at aw;exact aw
    rintro _ _ ⟨rfl,h⟩ I;obtain ⟨aA,rfl⟩:=gv h;rw [d7] at I ⊢;rw [f5] at aA;rw [f9 (ux.mpr ry)] at aw;refine gg ?_;exact At.mk (fS dt b (b2.set i xs)) I (by simp only [fS,ae0];exact a7) ⟨Dv,_,mj,rfl,aw⟩
   ·rw [qL] at uy
    rw [jJ] at aw;unfold wa at uy;have h5:=Mf m p x;unfold cW cV gj kA bk at h5;refine cD ?_;refine aL.rm C C C C C C Nx h5 ?_;refine kW ?_;refine aL.bZ C C C C C C (gK _) I .nil ?_ ?_;rotate_left
    ·rintro _ _ ⟨rfl,h⟩ I
     obtain ⟨aA,rfl⟩:=gw h;rw [d7] at I ⊢;rw [f5] at aA;refine At.mk (fS dt b (b2.set i xs)) I (by simp only [fS,ae0];exact a7) ⟨rfl,?_,_,mj,rfl⟩;rw [f0 (fun e=>absurd (ux.mp e) ry)] at aw;exact aw
    rintro _ _ ⟨rfl,h⟩ I;obtain ⟨aA,rfl⟩:=gv h;rw [d7] at I ⊢;rw [f5] at aA;rw [f9 (ux.mpr ry)] at aw;refine gg ?_;exact At.mk (fS dt b (b2.set i xs)) I (by simp only [fS,ae0];exact a7) ⟨Dv,_,mj,rfl,aw⟩
   ·rw [qL] at uy
    rw [jJ] at aw;have aw:foldI p false (nb p 12 n size) out=none:=aw;refine cD ?_;refine aa.bZ C C C C C (gK _) I .nil ?_ ?_;rotate_left
    ·rintro _ _ ⟨rfl,h⟩ I
     obtain ⟨aA,rfl⟩:=gw h;rw [d7] at I ⊢;exact At.mk (fS dt b (b2.set i xs)) I (by simp only [fS,ae0];exact a7) ⟨rfl,aw,(b2.set i xs),mj,rfl⟩
    rintro _ _ ⟨rfl,h⟩ I;obtain ⟨bB,rfl⟩:=gv h;rw [d7] at I ⊢;exact absurd bB bc
 ·rintro K ⟨b2,eZ,rfl,aw⟩ I
  rw [foldI] at aw;refine gg ?_;exact Fin.bu I C aM (aH.all _) ⟨b2,eZ,rfl,.inl ⟨rfl,aw⟩⟩
 ·rintro v K ⟨rfl,aw,b2,eZ,rfl⟩ I
  exact Fin.e6 I aM (aH.all _) ⟨b2,eZ,rfl,.inr ⟨rfl,aw⟩⟩
def XX (p:bK) (dt:Nat) (o:eo) (K:a6):Prop:=
 (o = .ret (.cg [])∧∃ b out,out.length=p.nodes.length∧m4 p=some out∧K=fS dt b out)∨(o = .panic sO∧m4 p=none∧∃ v R,K=(.own dt,.box 23 [v])::R)
theorem XY (p:bK) (aE:fD p) (dt:Nat) (v0:af) :
  dh d0 (.func 221 [] [.bs (cV p) 0,.ptr dt 0]) [] [(.own dt,.box 23 [v0])] (XX p dt):=by
 have an:=bC;have hp:=Vx p aE;have jI:=aE.cR;have hx:=aE.xK;have oV:=aE.nodes;refine dh.fa (first:=[]) (cap:=[.bs (cV p) 0,.ptr dt 0]) ?_;refine bz.bn aj Tryz.func221 C C fun s I=>?_
 have NB:=LC p aE;unfold cW at *;unfold cV bk at *;have b6:m4 p=m4 p:=rfl
 conv at b6=>rhs;unfold m4
 refine j6 ?_;refine aa.bZ C C C C C hp I .nil ?_ ?_;rotate_left
 ·rintro _ _ ⟨rfl,h⟩ I
  obtain ⟨aA,rfl⟩:=gw h;rw [d7] at I ⊢;exact Fin.e6 I aM (aH.all _) (.inr ⟨rfl,by rw [b6,aA];rfl,_,_,rfl⟩)
 rintro _ _ ⟨rfl,h⟩ I;obtain ⟨cu,rfl⟩:=gv h;rw [d7] at I ⊢;rw [cu,f4] at b6;have qv:=Fz cu;have XZ:(eQ 0 p.bT).length<bt:=by have h:(eQ 0 p.bT).length≤40:=qv.bj;omega
 have NB:=NB XZ;refine hQ ?_;by_cases g1:p.cR.length≤8;rotate_left
 ·refine aa.dc 14 C cO ?_
  refine dT ?_;refine aa.bZ C C C C C (gK _) I .nil ?_ ?_;rotate_left
  ·rintro _ _ ⟨rfl,h⟩ I
   obtain ⟨aA,rfl⟩:=gw h;rw [d7] at I ⊢;exact Fin.e6 I aM (aH.all _) (.inr ⟨rfl,(by rw [b6];simp [qc,g1]),_,_,rfl⟩)
  rintro _ _ ⟨rfl,h⟩ I;obtain ⟨U,rfl⟩:=gv h;rw [d7] at I ⊢;exact absurd U bc
 refine aa.dW 14 C cO ?_;refine dD ?_;by_cases g2:p.methods.length≤16;rotate_left
 ·refine aa.dc 20 C cO ?_
  refine dT ?_;refine aa.bZ C C C C C (gK _) I .nil ?_ ?_;rotate_left
  ·rintro _ _ ⟨rfl,h⟩ I
   obtain ⟨aA,rfl⟩:=gw h;rw [d7] at I ⊢;exact Fin.e6 I aM (aH.all _) (.inr ⟨rfl,(by rw [b6];simp [qc,g2]),_,_,rfl⟩)
  rintro _ _ ⟨rfl,h⟩ I;obtain ⟨U,rfl⟩:=gv h;rw [d7] at I ⊢;exact absurd U bc
 refine aa.dW 20 C cO ?_;refine dD ?_;by_cases g3:p.nodes.length≥1;rotate_left
 ·refine aa.dc 26 C cO ?_
  refine dT ?_;refine aa.bZ C C C C C (gK _) I .nil ?_ ?_;rotate_left
  ·rintro _ _ ⟨rfl,h⟩ I
   obtain ⟨aA,rfl⟩:=gw h;rw [d7] at I ⊢;exact Fin.e6 I aM (aH.all _) (.inr ⟨rfl,(by rw [b6];simp [qc,show ¬ 1≤p.nodes.length by omega]),_,_,rfl⟩)
  rintro _ _ ⟨rfl,h⟩ I;obtain ⟨U,rfl⟩:=gv h;rw [d7] at I ⊢;exact absurd U bc
 refine aa.dW 26 C cO ?_;refine dD ?_;refine aa.bZ C C C C C (gK _) I .nil ?_ ?_;rotate_left
 ·rintro _ _ ⟨rfl,h⟩ I
  obtain ⟨aA,rfl⟩:=gw h;rw [d7] at I ⊢;exact Fin.e6 I aM (aH.all _) (.inr ⟨rfl,(by rw [b6];simp at aA;simp [qc,show ¬ p.nodes.length≤120 by omega]),_,_,rfl⟩)
 rintro _ _ ⟨rfl,h⟩ I;obtain ⟨g4,rfl⟩:=gv h;rw [d7] at I ⊢;have g4:p.nodes.length≤120:=by simp at g4;omega
 have X0:qc p=p.cR.all (fun n=>decide (n≥1)&&decide (n≤3)):=by
  unfold qc;rw [i6 g1,i6 g2,i6 g3,i6 g4];rfl
 rw [X0] at b6;refine bG ?_;refine ae.cl [0,1,34,35] C I (σ:=Nat) (fun j=>[(36,.int .i64 (j:Int))]) (fun _=>[(.own dt,.box 23 [v0])]) (fun j=>j≤p.cR.length∧p.cR.all (fun n=>decide (n≥1)&&decide (n≤3))=(p.cR.drop j).all (fun n=>decide (n≥1)&&decide (n≤3))) (fun j=>p.cR.length-j) 0 ⟨g9 _,rfl⟩ (cI C) a7 ?_;rintro j ⟨aO,aw⟩ I
 try simp only at aO aw I ⊢
 refine ck ?_;refine ae.cond C (fun az=>?_) (fun a'=>?_)
 ·have az:j<p.cR.length:=by simpa using az
  obtain ⟨x,ab,ct⟩:=cf (f:=bb) az;rw [drop_cons ab,aj6] at aw;unfold bb at ct;refine ej ?_;by_cases g5:x≥1;rotate_left
  ·refine aa.dc 42 C (H1 g5) ?_
   refine dT ?_;refine aa.bZ C C C C C (gK _) I .nil ?_ ?_;rotate_left
   ·rintro _ _ ⟨rfl,h⟩ I
    obtain ⟨aA,rfl⟩:=gw h;rw [d7] at I ⊢;exact Fin.e6 I aM (aH.all _) (.inr ⟨rfl,(by rw [b6,aw,H1 g5];rfl),_,_,rfl⟩)
   rintro _ _ ⟨rfl,h⟩ I;obtain ⟨bB,rfl⟩:=gv h;rw [d7] at I ⊢;exact absurd bB bc
  refine aa.dW 42 C (i6 g5) ?_;rw [i6 g5,f4] at aw;refine dD ?_;refine aa.bZ C C C C C (gK _) I .nil ?_ ?_;rotate_left
  ·rintro _ _ ⟨rfl,h⟩ I
   obtain ⟨aA,rfl⟩:=gw h;rw [d7] at I ⊢;exact Fin.e6 I aM (aH.all _) (.inr ⟨rfl,(by rw [b6,aw,show decide (x≤3)=false from aA];rfl),_,_,rfl⟩)
  rintro _ _ ⟨rfl,h⟩ I;obtain ⟨bB,rfl⟩:=gv h;rw [d7] at I ⊢;rw [show decide (x≤3)=true from bB,f4] at aw;refine hI ?_;exact bF.mk (j+1) I ⟨az,aw⟩ cC a7 (by show p.cR.length-(j+1)<p.cR.length-j;omega)
 have a':j=p.cR.length:=by simp at a';omega
 subst a';rw [eR (i0 _),an3] at aw;have s8:=aw;rw [aw,f9 C] at b6;have X1:=XR (-1) p.nodes.length g3 ag;have hlen:((p.nodes.map gj).length:Int)=(p.nodes.length:Int):=by rw [f5]
 refine bG ?_;refine aa.bZ C C C C (by rw [f5];rfl) X1 I .nil ?_ (fun _ _ ⟨_,h,_⟩ _=>by cases h);rintro _ _ ⟨b,⟨⟩,rfl⟩ I;rw [t8,d7] at I ⊢;refine JV I ?_;intro I;refine ae.cl [0,1,4,5,57,58] C I (σ:=Nat×List Int) (fun q=>[(59,.int .i64 (q.1:Int))]) (fun q=>fS dt b q.2) (fun q=>q.1≤p.methods.length∧q.2.length=p.nodes.length∧m3 p p.methods (t6 p.nodes.length (-1))=m3 p (p.methods.drop q.1) q.2) (fun q=>p.methods.length-q.1) (0,t6 p.nodes.length (-1)) ⟨g9 _,ad',rfl⟩ (cI C) (by simp only [fS,ad'];exact a7) ?_;rintro ⟨j,out⟩ ⟨aO,gh,aw⟩ I
 try simp only at aO gh aw I ⊢
 refine ck ?_;refine ae.cond C (fun az=>?_) (fun a'=>?_)
 ·have az:j<p.methods.length:=by simpa using az
  obtain ⟨m,ab,ct⟩:=cf (f:=jf) az;have fV:=d6 ab;rw [drop_cons ab,m3] at aw;have b':=aE.facts m fV;have AO:=Ug (b3 p) qv m.fact ag;have gS:=Xv (b3 p) m.fact.size m.fact (i0 _) ag;rw [aq.cE] at AO gS;unfold aq.cells at AO gS;unfold jf oz at ct;refine fP ?_;by_cases mB:m.kind≥1;rotate_left
  ·refine aa.dc 66 C (H1 mB) ?_
   refine dT ?_;refine aa.bZ C C C C C (gK _) I .nil ?_ ?_;rotate_left
   ·rintro _ _ ⟨rfl,h⟩ I
    obtain ⟨aA,rfl⟩:=gw h;rw [d7] at I ⊢;exact Fin.e6 I aM (aH.all _) (.inr ⟨rfl,(by rw [b6,aw];simp [sI,mB]),_,_,rfl⟩)
   rintro _ _ ⟨rfl,h⟩ I;obtain ⟨U,rfl⟩:=gv h;rw [d7] at I ⊢;exact absurd U bc
  refine aa.dW 66 C (i6 mB) ?_;refine dD ?_;by_cases hk:m.kind≤4;rotate_left
  ·refine aa.dc 71 C (H1 hk) ?_
   refine dT ?_;refine aa.bZ C C C C C (gK _) I .nil ?_ ?_;rotate_left
   ·rintro _ _ ⟨rfl,h⟩ I
    obtain ⟨aA,rfl⟩:=gw h;rw [d7] at I ⊢;exact Fin.e6 I aM (aH.all _) (.inr ⟨rfl,(by rw [b6,aw];simp [sI,hk]),_,_,rfl⟩)
   rintro _ _ ⟨rfl,h⟩ I;obtain ⟨U,rfl⟩:=gv h;rw [d7] at I ⊢;exact absurd U bc
  refine aa.dW 71 C (i6 hk) ?_;refine dD ?_;by_cases vU:m.gen≥0;rotate_left
  ·refine aa.dc 76 C (H1 vU) ?_
   refine dT ?_;refine aa.bZ C C C C C (gK _) I .nil ?_ ?_;rotate_left
   ·rintro _ _ ⟨rfl,h⟩ I
    obtain ⟨aA,rfl⟩:=gw h;rw [d7] at I ⊢;exact Fin.e6 I aM (aH.all _) (.inr ⟨rfl,(by rw [b6,aw];simp [sI,vU]),_,_,rfl⟩)
   rintro _ _ ⟨rfl,h⟩ I;obtain ⟨U,rfl⟩:=gv h;rw [d7] at I ⊢;exact absurd U bc
  refine aa.dW 76 C (i6 vU) ?_;obtain ⟨g,au⟩:∃ g:Nat,m.gen=g:=⟨m.gen.toNat,by omega⟩;have X2:sI p m=(decide (g<p.cR.length)&&(il (b3 p) m.fact&&decide (kY m.fact≤p.cR.getD g 0))):=by
   unfold sI;rw [i6 mB,i6 hk,i6 vU,au,ac3];simp
  rw [X2,au,ac3] at aw;rw [au];refine dD ?_;refine aa.bZ C C C C C (gK _) I .nil ?_ ?_;rotate_left
  ·rintro _ _ ⟨rfl,h⟩ I
   obtain ⟨aA,rfl⟩:=gw h;rw [d7] at I ⊢;exact Fin.e6 I aM (aH.all _) (.inr ⟨rfl,(by rw [b6,aw,show decide (g<p.cR.length)=false by simpa using aA];rfl),_,_,rfl⟩)
  rintro _ _ ⟨rfl,h⟩ I;obtain ⟨vV,rfl⟩:=gv h;rw [d7] at I ⊢;have vV:g<p.cR.length:=by simpa using vV
  rw [i6 vV,f4] at aw;obtain ⟨x,AP,X3⟩:=cf (f:=bb) vV;have kr:p.cR.getD g 0=x:=by rw [d5,AP];rfl
  have abp:1≤x∧x≤3:=by
   have:=ae'.1 s8 x (d6 AP);simpa using this
  rw [kr] at aw;unfold bb at X3;cases a1:il (b3 p) m.fact with
  | false=>
   rw [a1] at AO;simp only [ad5,af5] at AO;refine p6 ?_;refine aL.bZ C C C C C C (gK _) I .nil ?_ ?_;rotate_left
   ·rintro _ _ ⟨rfl,h⟩ I
    obtain ⟨aA,rfl⟩:=gw h;rw [d7] at I ⊢;exact Fin.e6 I aM (aH.all _) (.inr ⟨rfl,(by rw [b6,aw,a1];rfl),_,_,rfl⟩)
   rintro _ _ ⟨rfl,h⟩ I;obtain ⟨U,rfl⟩:=gv h;rw [d7] at I ⊢;exact absurd U bc
  | true=>
  rw [a1,f9 C] at AO;rw [a1,f4] at aw;have gS:=gS (tJ m.fact (b3 p) 12 24 a1);refine p6 ?_;refine aL.bZ C C C C C C (gK _) I .nil ?_ ?_;rotate_left
  ·rintro _ _ ⟨rfl,h⟩ I
   obtain ⟨aA,rfl⟩:=gw h;rw [d7] at I ⊢;exact Fin.e6 I aM (aH.all _) (.inr ⟨rfl,(by rw [b6,aw,aA];rfl),_,_,rfl⟩)
  rintro _ _ ⟨rfl,h⟩ I;obtain ⟨X4,rfl⟩:=gv h;rw [d7] at I ⊢;rw [X4,f9 C] at aw;have uz:=NA p aE s8 dt b out gh g4 m.node x (sJ m.kind) ag;unfold cV at uz;by_cases aD:m.kind=1
  ·rw [aD] at uz aw ⊢
   refine p6 ?_;refine aL.gr C C C C C C C uz I (aH.all _) ?_ ?_;rotate_left
   ·rintro _ _ ⟨b2,eZ,rfl,(⟨h,_⟩|⟨⟨⟩,ar⟩)⟩ I
    ·cases h
    rw [ar] at aw;exact Fin.e6 I aM (aH.all _) (.inr ⟨rfl,by rw [b6,aw];rfl,_,_,rfl⟩)
   rintro _ _ ⟨b2,eZ,rfl,(⟨⟨⟩,ar⟩|⟨h,_⟩)⟩ I;rotate_left
   ·cases h
   rw [ar] at aw;rw [d8] at I ⊢;refine gg ?_;exact bF.mk (j+1,b2) I ⟨az,eZ,aw⟩ cC (aH.all _) s6
  ·have rf:sJ m.kind=decide (m.kind=4):=by unfold sJ;rw [H1 aD];rfl
   rw [rf] at uz aw;refine p6 ?_;refine aL.split 115 C (fun h=>absurd (ah1 h) aD) (fun _=>?_);refine kW ?_;refine aL.gr C C C C C C C uz I (aH.all _) ?_ ?_;rotate_left
   ·rintro _ _ ⟨b2,eZ,rfl,(⟨h,_⟩|⟨⟨⟩,ar⟩)⟩ I
    ·cases h
    rw [ar] at aw;exact Fin.e6 I aM (aH.all _) (.inr ⟨rfl,by rw [b6,aw];rfl,_,_,rfl⟩)
   rintro _ _ ⟨b2,eZ,rfl,(⟨⟨⟩,ar⟩|⟨h,_⟩)⟩ I;rotate_left
   ·cases h
   rw [ar] at aw;rw [d8] at I ⊢;refine gg ?_;exact bF.mk (j+1,b2) I ⟨az,eZ,aw⟩ cC (aH.all _) s6
 have a':j=p.methods.length:=by simp at a';omega
 subst a';rw [eR (i0 _),m3] at aw;rw [aw] at b6;have uz:=NA p aE s8 dt b out gh g4 p.main 0 false ag;unfold cV at uz;refine bG ?_;refine aa.gr C C C C C C uz I (aH.all _) ?_ ?_;rotate_left
 ·rintro _ _ ⟨b2,eZ,rfl,(⟨h,_⟩|⟨⟨⟩,ar⟩)⟩ I
  ·cases h
  exact Fin.e6 I aM (aH.all _) (.inr ⟨rfl,by rw [b6];show (visitM p false 12 p.main 0 out).bind _=none;rw [ar];rfl,_,_,rfl⟩)
 rintro _ _ ⟨b2,eZ,rfl,(⟨⟨⟩,ar⟩|⟨h,_⟩)⟩ I;rotate_left
 ·cases h
 have b6:m4 p=if b2.contains (-1) then none else some b2:=by
  rw [b6];show (visitM p false 12 p.main 0 out).bind _=_;rw [ar];rfl
 rw [d8] at I ⊢;have Dw:=Mr b b2.length b2 [] (-1) ag;unfold ui at Dw;rw [d8] at Dw;unfold fS at I;refine cm I ?_;intro I;refine aa.bZ rfl rfl rfl rfl rfl Dw I a7 ?_ (fun _ _ ⟨h,_⟩ _=>by cases h);rintro _ _ ⟨⟨⟩,rfl⟩ I;simp only [t8,d7] at I ⊢;refine dD ?_;refine aa.bZ C C C C C (gK _) I .nil ?_ ?_;rotate_left
 ·rintro _ _ ⟨rfl,h⟩ I
  obtain ⟨aA,rfl⟩:=gw h;rw [d7] at I ⊢;exact Fin.e6 I aM (.cons (.there .here) (.cons .here .nil)) (.inr ⟨rfl,by rw [b6,show b2.contains (-1)=true by simpa using aA];rfl,_,_,rfl⟩)
 rintro _ _ ⟨rfl,h⟩ I;obtain ⟨U,rfl⟩:=gv h;rw [d7] at I ⊢;rw [show b2.contains (-1)=false by simpa using U,f0 bc] at b6;refine ga ?_;exact Fin.bu I C aM (.cons (.there .here) (.cons .here .nil)) (.inl ⟨rfl,b,b2,eZ,b6,rfl⟩);done
def X5 (p:bK) (o:eo) (K:a6):Prop:=
 (∃ b out,out.length=p.nodes.length∧m4 p=some out∧o = .ret (.cg [ea b out.length out.length,.bool true])∧K=[(.own b,.box 3 (out.map bb))])∨(m4 p=none∧(∃ v,o = .ret (.cg [v,.bool false]))∧K=[])
theorem X6 (p:bK) (aE:fD p):bz d0 187 [cW p] ([]) (X5 p):=by
 have an:=bC;refine bz.bn aj Tryz.func187 C C fun s I=>?_
 unfold cW cV
 repeat (first|(refine E8 ?_)|refine aa.dO aj I C C C C C C C (fun cy I=>?_))
 have a1:=XL 221 [] [.bs (cV p) 0,.ptr cy 0] [(.own cy,.box 23 [.ay 0 [] .nil])] (fun K=>∃ b out,out.length=p.nodes.length∧m4 p=some out∧K=fS cy b out) (fun K=>m4 p=none∧∃ v R,K=(.own cy,.box 23 [v])::R) (dh.mono (XY p aE cy (.ay 0 [] .nil)) (fun o K h=>by
  rcases h with ⟨U,b,out,ad,al,bd⟩|⟨U,ad,al⟩
  ·exact .inl ⟨U,b,out,ad,al,bd⟩
  ·exact .inr ⟨U,ad,al⟩))
 unfold cV at a1;refine aa.bZ C C C C C a1 I a7 ?_ ?_;rotate_left
 ·rintro x aN (⟨h,_⟩|⟨h,_⟩) I
  ·cases h
  ·cases h
 rintro x aN (⟨⟨⟩,b,out,aB,e7,rfl⟩|⟨⟨⟩,e7,v,R,rfl⟩) I
 ·unfold fS at I ⊢
  simp only [t8,d7,d8] at I ⊢;refine cm I ?_;intro I;exact Fin.bu I C aM (.cons (.there .here) .nil) (.inl ⟨b,out,aB,e7,rfl,rfl⟩)
 ·simp only [t8,d7,d8] at I ⊢
  refine cm I ?_;intro I;exact Fin.bu I C aM .nil (.inr ⟨e7,⟨v,rfl⟩,rfl⟩)
theorem X7 (p:bK) (aE:fD p):aU d0 146 [cW p] (.int .i64 (if fs p then 0 else 2)):=by
 have an:=bC;refine aU.bn aj Tryz.func146 C C fun s I=>?_
 have bP:=X6 p aE;unfold cW cV at *;unfold fs;refine dz ?_;refine aa.bZ C C C C C bP I .nil ?_ ?_;rotate_left
 ·rintro x aN (⟨b,out,_,_,h,_⟩|⟨_,⟨v,h⟩,_⟩) I
  ·cases h
  ·cases h
 rintro x aN (⟨b,out,_,e7,⟨⟩,rfl⟩|⟨e7,⟨v,⟨⟩⟩,rfl⟩) I
 ·rw [e7]
  refine bG ?_;exact bA I
 ·rw [e7]
  refine dT ?_;exact bA I
def NC:af := .agg [.ay 0 [] .nil,.ay 0 [] .nil]
theorem ND {p:bK} (h:fs p=true):nG p=true:=by
 unfold fs m4 at h;cases aF:nG p with
 | true=>rfl
 | false=>rw [aF,f7] at h;cases h
theorem uA {p:bK} (h:fs p=true):fQ (b3 p):=Fz (ND h)
theorem HN (p:bK) (aE:fD p):aU d0 100 [cW p] (.cg [if fs p then fw (b3 p) else NC,.int .i64 (if fs p then 0 else 2)]):=by
 have an:=bC;refine aU.bn aj Tryz.func100 C C fun s I=>?_
 have aF:=X7 p aE;have hw:=LC p aE;unfold cW cV at *;cases eL:fs p with
 | false=>
  rw [eL] at aF;unfold NC
  repeat (first|(refine R7 I ?_;clear I;intro I)|refine aa.dO aj I rfl rfl rfl rfl rfl rfl rfl (fun cy I=>?_)|(refine oi ?_))
  exact Fin.cL I (zr C C (bl.get aV I) C C) aM
 | true=>
  rw [eL] at aF;have abq:(eQ 0 p.bT).length≤40:=(uA eL).bj;have hw:=hw ag;unfold fw fu at *
  repeat (first|(refine R8 I ?_;clear I;intro I)|refine aa.dO aj I rfl rfl rfl rfl rfl rfl rfl (fun cy I=>?_)|(refine oi ?_))
  exact Fin.cL I (zr C C (bl.get aV I) C C) aM
mutual
theorem NF:∀ (f:aq) (w:bw) (d:Nat) (k:Int),(e0 w d k f).1=true→0≤(e0 w d k f).2∧((l5 f).length:Int)+(e0 w d k f).2≤k
  | .mk o a p c n ks,w,d,k,h=>by
    rw [e0] at h ⊢;split at h
    · cases h
    · rename_i aD
      rw [f0 aD];split at h
      · rename_i aA
        rw [f9 aA];have lK:0≤k-1:=by
          simp only [Bool.or_eq_true,g8,not_or] at aD;omega
        obtain ⟨U,ad⟩:=NG ks w (d-1) (k-1) lK h;refine ⟨U,?_⟩;rw [l5];split
        · simp only [i7,ae1];omega
        · omega
      · cases h
theorem NG:∀ (l:List aq) (w:bw) (d:Nat) (k:Int),0≤k→(gQ w d k l).1=true→0≤(gQ w d k l).2∧((oK l).length:Int)+(gQ w d k l).2≤k
  | [],_,_,_,aD,_=>by rw [gQ,oK];exact ⟨aD,by simp⟩
  | x::r,w,d,k,aD,h=>by
    rw [gQ] at h ⊢;split at h
    · rename_i ab
      rw [f9 ab,oK,d9];obtain ⟨U,ad⟩:=NF x w d k ab;obtain ⟨al,bd⟩:=NG r w d _ U h;exact ⟨al,by push_cast;omega⟩
    · cases h
end
theorem NH {w:bw} {f:aq} (h:il w f=true):(l5 f).length≤24:=by
 have:=NF f w 12 24 h;omega
mutual
theorem HO:∀ (f:aq) (w:bw),gR w f=true→∀ x∈l5 f,gR w x=true∧x.c7=true
  | .mk o a p c n ks,w,h,x,ab=>by
    rw [l5] at ab;split at ab
    · rename_i aB
      rw [t7] at ab;subst ab;exact ⟨h,aB⟩
    · rw [gR,f6] at h
      exact NI ks w h.2 x ab
theorem NI:∀ (l:List aq) (w:bw),jH w l=true→∀ x∈oK l,gR w x=true∧x.c7=true
  | [],_,_,x,ab=>by cases ab
  | y::r,w,h,x,ab=>by
    rw [jH,f6] at h;rw [oK] at ab;rcases ac7.1 ab with ab|ab
    · exact HO y w h.1 x ab
    · exact NI r w h.2 x ab
end
theorem uB {w:bw} {f:aq} (h:gR w f=true) (aB:f.c7=true):f.path.length≤2:=by
 rw [pd,f6] at h;have h:=h.1;unfold hi at h;rw [aB] at h;simp only [f6,ae2,g8] at h;exact h.2.2.2.2.2.1
theorem X8 (l:List aq) (f:aq):(jV l f).length≤l.length+1:=by
 unfold jV;split
 ·omega
 ·simp
theorem X9 {l:List aq} {f x:aq} (h:x∈jV l f):x∈l∨x=f:=by
 unfold jV at h;split at h
 ·exact .inl h
 ·rcases ac7.1 h with h|h
  ·exact .inl h
  ·exact .inr (t7.1 h)
theorem NJ {p:bK}:∀ {l:List gP} {out o:List Int},m3 p l out=some o→∀ m∈l,sI p m=true
  | x::r,out,o,h,m,hm=>by
    rw [m3] at h;split at h
    · rename_i ab
      cases ar:visitM p (sJ x.kind) 12 x.node (p.cR.getD x.gen.toNat 0) out with
      | none=>rw [ar] at h;cases h
      | some b2=>
        rw [ar] at h;rcases ad4.1 hm with rfl|hm
        · exact ab
        · exact NJ (l:=r) h m hm
    · cases h
theorem NK {p:bK} (h:fs p=true):nG p=true∧qc p=true∧∃ o,m3 p p.methods (t6 p.nodes.length (-1))=some o:=by
 unfold fs m4 at h;split at h
 ·rename_i aF
  rw [f6] at aF;refine ⟨aF.1,aF.2,?_⟩;cases hm:m3 p p.methods (t6 p.nodes.length (-1)) with
  | none=>rw [hm] at h;cases h
  | some o=>exact ⟨o,rfl⟩
 ·cases h
theorem HP {p:bK} (h:fs p=true) {m:gP} (hm:m∈p.methods):il (b3 p) m.fact=true:=by
 obtain ⟨-,-,o,ah⟩:=NK h;have:=NJ ah m hm;unfold sI at this;simp only [f6] at this;exact this.2.2.2.2.1
theorem wI {p:bK} (h:fs p=true):p.methods.length≤16∧p.cR.length≤8:=by
 obtain ⟨-,aB,-⟩:=NK h;unfold qc at aB;simp only [f6,g8] at aB;exact ⟨aB.2.1,aB.1⟩
def iS (w:bw) (l:List aq):Prop:=∀ x∈l,gR w x=true∧x.c7=true
theorem NL {w:bw} (gen:Int):∀ (c0 l:List aq),iS w l→iS w c0→iS w (c0.foldl jV l)∧(c0.foldl jV l).length≤l.length+c0.length
  | [],l,h,_=>⟨h,i0 _⟩
  | x::r,l,h,a8=>by
    have U:iS w (jV l x):=fun y ax=>by
      rcases X9 ax with ax|rfl
      · exact h y ax
      · exact a8 _ i5
    obtain ⟨ad,al⟩:=NL (w:=w) gen r (jV l x) U (fun y ax=>a8 y (g7 _ ax));have:=X8 l x;exact ⟨ad,by rw [af0,i7];omega⟩
theorem NM {p:bK} (aE:fs p=true) (gen:Int):∀ (ms:List gP) (l:List aq),(∀ m∈ms,m∈p.methods)→iS (b3 p) l→iS (b3 p) (ms.foldl (lB gen) l)∧(ms.foldl (lB gen) l).length≤l.length+24*ms.length
  | [],l,_,h=>⟨h,i0 _⟩
  | m::r,l,hm,h=>by
    have a1:=HP aE (hm m i5);have U:iS (b3 p) (lB gen l m)∧(lB gen l m).length≤l.length+24:=by
      unfold lB;split
      · obtain ⟨ad,al⟩:=NL (w:=b3 p) gen (l5 m.fact) l h (HO m.fact _ (tJ _ _ _ _ a1))
        have:=NH a1;exact ⟨ad,by omega⟩
      · exact ⟨h,by omega⟩
    obtain ⟨bd,bB⟩:=NM aE gen r (lB gen l m) (fun x ab=>hm x (g7 _ ab)) U.1;exact ⟨bd,by rw [af0,i7];omega⟩
theorem NN {p:bK} (aE:fs p=true) (gen:Int):iS (b3 p) (cF p gen)∧(cF p gen).length≤384:=by
 obtain ⟨U,ad⟩:=NM aE gen p.methods [] (fun _ h=>h) (fun _ h=>by cases h);have:=(wI aE).1;exact ⟨U,by unfold cF;simp only [ae1] at ad;omega⟩
def dK (p:bK) (n:Int) (c0 vs:af) (an cw:Nat):List af:=[.ay 3 (p.bT.map gI) .aZ,.int .i64 p.bj,bk p.cR,.ay 9 (p.methods.map jf) .aZ,.ay 3 (p.nodes.map gj) .aZ,.int .i64 p.main,.int .i64 n,dv (b3 p).ps,bk (b3 p).owner,c0,vs,.map an,.map cw]
def nc (p:bK) (n:Int) (cd an cw:Nat) (bx:x4) (l:List aq):a6:=(.own cd,.box 110 (dK p n (qE bx l) (.ay 0 [] .nil) an cw))::(.own an,.map [])::(.own cw,.map [])::pB bx
def dp (l:List aq):af := .ay 6 (l.map aq.cb) .aZ
def X' (p:bK) (n:Int) (o:eo) (K:a6):Prop:=
 (eK p n=0∧∃ cd an cw,o = .ret (.cg [.ptr cd 0,.int .i64 0])∧K=[(.own cd,.box 110 (dK p n (dp (cF p n)) (.ay 0 [] .nil) an cw)),(.own an,.map []),(.own cw,.map [])]) ∨
 (eK p n≠0∧(∃ v,o = .ret (.cg [v,.int .i64 (eK p n)]))∧K=[])
theorem NO {cs:List af} {l:List aq} {x:aq} {zc:List af} (bP:zc.length=6) (h:cs.take ((l.length+1)*6)=(l.map aq.cells).flatten++zc) :
  (eO (l.length*6) x.cells cs).length=cs.length∧(eO (l.length*6) x.cells cs).take ((l.length+1)*6)=(l.map aq.cells).flatten++x.cells:=by
 have U:=MV (sz:=6) (cs:=cs) (xss:=l.map aq.cells++[zc]) (n:=l.length+1) (j:=l.length) (ys:=zc) (ys':=x.cells) (fun c aF=>by
  rcases ac7.1 aF with aF|aF
  ·exact Hd l c aF
  ·rw [t7.1 aF];exact bP) (by rw [h];simp) (by rw [List.getElem?_append_right bc];simp) C
 refine ⟨U.1,U.2.trans ?_⟩;rw [List.set_append_right _ _ bc];simp
theorem AQ (p:bK) (aE:fD p) (n:Int):bz d0 58 [cW p,.int .i64 n] [] (X' p n):=by
 have an:=bC;have hw:=HN p aE;have jI:=aE.cR;have hx:=aE.xK;have eV:eK p n=eK p n:=rfl
 conv at eV=>rhs;unfold eK
 refine bz.bn aj Tryz.func58 C C fun s I=>?_
 unfold cW cV at *;cases eL:fs p with
 | false=>
  rw [eL] at hw;simp only [ad5,af5] at hw;rw [eL,f7,f0 bc] at eV;refine fP ?_;exact Fin.bu I C aM .nil (.inr ⟨by omega,⟨_,by rw [eV]⟩,rfl⟩)
 | true=>
 rw [eL,f9 C,f9 C] at hw;rw [eL,f4] at eV;have HQ:l6 p n=(decide (n≥0)&&decide (n<(p.cR.length:Int))):=rfl;obtain ⟨yg,Ya⟩:=wI eL;refine fP ?_;by_cases Bp:n<0
 ·refine aa.dW 23 C (i6 Bp) ?_
  rw [HQ,show decide (n≥0)=false by simp;omega,f7,f0 bc] at eV;refine dT ?_;exact Fin.bu I C aM .nil (.inr ⟨by omega,⟨_,by rw [eV]⟩,rfl⟩)
 refine aa.dc 23 C (H1 Bp) ?_;refine ga ?_;refine ae.cond C (fun yK=>?_) (fun yK=>?_)
 ·rw [HQ,show decide (n<(p.cR.length:Int))=false by simp [bk] at yK ⊢;omega,Bool.and_false,f0 bc] at eV
  refine gO ?_;exact Fin.bu I C aM .nil (.inr ⟨by omega,⟨_,by rw [eV]⟩,rfl⟩)
 rw [HQ,show decide (n<(p.cR.length:Int))=true by simp [bk] at yK ⊢;omega,show decide (n≥0)=true by simp;omega,f9 (by rfl)] at eV;refine ej ?_;refine aa.q1 I C C C C (fun dF I=>?_);refine aa.q1 I C C C C (fun cw I=>?_);refine cx C ?_;refine aa.jE I C C C C C C (fun cd I=>?_);refine fP ?_;refine ae.cl [1,8,38,39] C I (σ:=Nat×x4×List aq) (fun q=>[(40,.int .i64 (q.1:Int))]) (fun q=>nc p n cd dF cw q.2.1 q.2.2)
  (fun q=>q.1≤p.methods.length∧Hc q.2.1 q.2.2∧iS (b3 p) q.2.2∧q.2.2.length≤24*q.1∧cF p n=(p.methods.drop q.1).foldl (lB n) q.2.2) (fun q=>p.methods.length-q.1) (0,none,[])
  ⟨g9 _,rfl,(fun x h=>absurd h List.not_mem_nil:iS (b3 p) []),g9 _,rfl⟩ (cI C) (by simp only [nc,pB,dK,qE];exact a7) ?_
 rintro ⟨j,bx,l⟩ ⟨aO,dj,dP,qd,aw⟩ I
 try simp only at aO dj dP qd aw I ⊢
 refine ck ?_;refine ae.cond C (fun az=>?_) (fun a'=>?_);rotate_left
 ·have a':j=p.methods.length:=by simp at a';omega
  rw [eR ag,at4] at aw;subst aw;unfold nc at I ⊢;rcases bx with _|⟨g,cap,cs⟩
  ·have bo:cF p n=[]:=dj
   have jo:dp (cF p n) = .ay 6 [] .aZ:=by rw [bo];rfl
   refine ae.oL I (dK p n (dp (cF p n)) (.ay 0 [] .nil) dF cw) .here (by
    rw [jo];unfold dK
    repeat (first|exact cM.nil|refine cM.cons (by first|exact aM|exact aR.empty) ?_)) (fun I=>?_)
   unfold dp at I ⊢;refine cm I ?_;intro I;refine ae.cond C (fun hn=>?_) (fun hn=>?_)
   ·have hn:¬ (cF p n).length≤7:=by simp [bo] at hn ⊢ <;> omega
    rw [f0 hn] at eV;refine gO ?_;exact Fin.bu I C aM .nil (.inr ⟨by omega,⟨_,by rw [eV]⟩,rfl⟩)
   ·have hn:(cF p n).length≤7:=by simp [bo] at hn ⊢ <;> omega
    rw [f9 hn] at eV;refine bG ?_;exact Fin.bu I C aM (by simp only [dK];exact a7) (.inl ⟨eV,cd,dF,cw,rfl,rfl⟩)
  ·obtain ⟨kv,kp,AR⟩:=dj
   unfold pB dK qE at I ⊢;refine ae.Ay I 9 .here (.there (.there .here)) C AR (f5 _) (Hd _) kp ag (fun I=>?_);have jo:((cF p n).map aq.cells).map af.agg=(cF p n).map aq.cb:=by
    rw [aq3];exact List.map_congr_left (fun x _=>(aq.cE x).symm)
   rw [jo] at I ⊢
   try unfold dp at I
   refine cm I ?_;intro I;refine ae.cond C (fun hn=>?_) (fun hn=>?_)
   ·have hn:¬ (cF p n).length≤7:=by simp [Nat.not_le] at hn ⊢ <;> omega
    rw [f0 hn] at eV;refine gO ?_;exact Fin.bu I C aM .nil (.inr ⟨by omega,⟨_,by rw [eV]⟩,rfl⟩)
   ·have hn:(cF p n).length≤7:=by simp [Nat.not_le] at hn ⊢ <;> omega
    rw [f9 hn] at eV;refine bG ?_;exact Fin.bu I C aM (by simp only [dK];exact a7) (.inl ⟨eV,cd,dF,cw,rfl,rfl⟩)
 have az:j<p.methods.length:=by simpa using az
 obtain ⟨m,ab,ct⟩:=cf (f:=jf) az;have fV:=d6 ab;have b':=aE.facts m fV;have yh:=HP eL fV;have kr:=tJ _ _ _ _ yh;have qf:=NH yh;have HR:=HO m.fact _ kr;have yi:=Wr m.fact;have nx:=Wq m.fact ag;rw [aq.cE] at yi;unfold aq.cells at yi nx;rw [drop_cons ab,af0] at aw;unfold jf oz at ct;refine fP ?_;refine ae.cond C (fun au=>?_) (fun au=>?_)
 ·have au:m.gen≠n:=by simpa using au
  rw [show lB n l m=l by unfold lB;rw [f0 au]] at aw;refine eH ?_;exact bF.mk (j+1,bx,l) I ⟨az,dj,dP,by show l.length≤24*(j+1);omega,aw⟩ cC (aH.all _) s6
 have au:m.gen=n:=by simpa using au
 rw [show lB n l m=(l5 m.fact).foldl jV l by unfold lB;rw [f9 au]] at aw;refine di ?_;refine ae.Fk I C dE nx .nil (fun rem K=>∃ qH fG,Hc qH fG∧iS (b3 p) fG∧fG.length+rem.length≤24*(j+1)∧(∀ x∈rem,gR (b3 p) x=true∧x.c7=true)∧(l5 m.fact).foldl jV l=rem.foldl jV fG∧K=nc p n cd dF cw qH fG) (fun _ _=>False) (fun _ _=>False) ⟨bx,l,dj,dP,by omega,HR,rfl,rfl⟩ ?_ ?_ (fun _ _ h=>h.elim) (fun _ _ h=>h.elim);rotate_left
 ·rintro K ⟨qH,fG,v8,HR,eZ,-,kd,rfl⟩ I
  rw [kd,at4] at aw;refine gg ?_;exact bF.mk (j+1,qH,fG) I ⟨az,v8,HR,by show fG.length≤24*(j+1);simpa using eZ,aw⟩ cC (aH.all _) s6
 rintro s₁ x rem K ⟨qH,fG,v8,Dx,eZ,pD,kd,rfl⟩ I;have HS:=pD x i5;have Lw:=uB HS.1 HS.2;have sW:=fun f11=>Wx qH fG ag v8 f11 x ag (fun y ax=>by have:=uB (Dx y ax).1 (Dx y ax).2;omega)
 rw [af0] at kd;rw [aq.cE];unfold aq.cells;have cu:=zT x.path .aZ ag;have AS:jV fG x=if fG.any (fun y=>gL y x) then fG else fG++[x]:=rfl
 have Dy:iS (b3 p) (fG++[x]):=fun y ax=>by
  rcases ac7.1 ax with ax|ax
  ·exact Dx y ax
  ·rw [t7.1 ax];exact HS
 have Dz:(fG++[x]).length+rem.length≤24*(j+1):=by
  simp only [i7,d9,ae1] at eZ ⊢;omega
 have mV:(fG++[x]).map aq.cells=fG.map aq.cells++[x.cells]:=by simp
 have DA:((fG++[x]).map aq.cells).flatten=(fG.map aq.cells).flatten++x.cells:=by rw [mV];simp
 have s9:(fG++[x]).length=fG.length+1:=by simp
 unfold nc at I ⊢;rcases qH with _|⟨g,cap,cs⟩
 all_goals
  simp only [pB,qE,nU,aq.cells] at sW;simp only [pB,qE,dK] at I ⊢
 ·have bo:fG=[]:=v8
  subst bo
  repeat (first|(refine E9 I ?_;clear I;intro I)|refine aa.dO aj I rfl rfl rfl rfl rfl rfl rfl (fun cy I=>?_))
  refine aa.bZ rfl rfl rfl rfl rfl (sW cy) I a7 ?_ (fun _ _ ⟨h,_⟩ _=>by cases h);rintro _ _ ⟨⟨⟩,rfl⟩ I;simp only [d7,t8] at I ⊢;have oO:([]:List aq).any (fun y=>gL y x)=false:=rfl;refine cm I ?_;intro I;refine ae.qZ aj mixed C (ba.run C ?_);refine ba.dO 0 aj I C C C C C C C C C (fun Yb I=>?_);refine ba.run C ?_;refine ba.many C (hH.c (jR.B5 (i:=1) C C C (aW.cN aj I C C C C C C C aV C (X:=fun _ _=>False)) ?_ (fun _ _ h=>False.elim h)) (hH.c (jR.B5 (i:=2) C C C (aW.cN aj I C C C C C C C aV C (X:=fun _ _=>False)) ?_ (fun _ _ h=>False.elim h)) hH.n))
  ·rintro _ _ ⟨rfl,I⟩
   refine ba.run C ?_;refine ba.cN 2 aj I C C C C C C C C C C C aV b1 (fun I=>?_);refine ba.run C ?_;refine ba.ey 3 aj I C C C C C C C C aV b1 ?_;refine ba.run C ?_;refine ba.done C ?_;refine sw ?_;refine ae.nu (cQ [(cd,_),(cy,_)]) aj mixed C (bh.run (cQ.two (bl.get aV I) (bl.get aV I)) C ?_);refine bh.mo 4 aj (cQ.two (bl.get aV I) (bl.get aV I)) C C C C C C C C (fun _ h=>cQ.fst h) b1 ?_;refine bh.mo 5 aj (cQ.two (bl.get aV I) (bl.get aV I)) C C C C C C C C (fun _ h=>cQ.snd h) b1 ?_;refine bh.run (cQ.two (bl.get aV I) (bl.get aV I)) C ?_;refine bh.rH 7 aj I C C C C C C C C C ef C C C C C C C dE (fun dL f' fM I _=>(cQ.two (bl.get aV I) (bl.get aV I))) (fun dL f' fM cP c9 eP I=>?_);refine bh.run (cQ.two (bl.get aV I) (bl.get aV I)) C ?_;refine bh.cN 10 aj I C C C C C C C C C C C aV b1 (fun _ => .inr C) (fun I=>?_);refine ba.done C ?_;refine gg ?_;exact At.mk (nc p n cd dF cw (some (dL,f',fM)) ([]++[x])) I (by simp only [nc,pB,qE,dK,s9];exact a7) ⟨some (dL,f',fM),[]++[x],⟨cP,uc,by rw [DA];exact eP⟩,Dy,Dz,fun y ax=>pD y (g7 _ ax),by rw [kd,AS,oO];rfl,rfl⟩
  ·rintro _ _ ⟨rfl,I⟩
   refine ba.run C ?_;refine ba.cN 1 aj I C C C C C C C C C C C aV b1 (fun I=>?_);refine ba.run C ?_;refine ba.ey 3 aj I C C C C C C C C aV b1 ?_;refine ba.run C ?_;refine ba.done C ?_;refine cm I ?_;intro I;refine aa.Db aj C C C C C C C C C C ?_;refine aa.rH aj I C C C C C C C ef C C C C C C C dE (fun dL f' fM cP c9 eP I=>?_);refine cm I ?_;intro I;refine aa.gi aj ([]:List aq).length C C C C C C C C C C bc ?_;refine aa.lY aj I _ C C C C C C C C C aV (by rw [cP];show ([]:List aq).length*6+6≤f'*6;simp only [ae1] at *;omega) C (fun I=>?_);obtain ⟨b7,bR⟩:=NO (x:=x) (l:=([]:List aq)) (cs:=fM) (zc:=_) rfl eP;refine hI ?_;exact At.mk (nc p n cd dF cw (some (dL,f',(eO (([]:List aq).length*6) x.cells fM))) ([]++[x])) I (by simp only [nc,pB,qE,dK,s9];exact a7) ⟨some (dL,f',(eO (([]:List aq).length*6) x.cells fM)),[]++[x],⟨b7.trans cP,uc,by rw [DA];exact bR⟩,Dy,Dz,fun y ax=>pD y (g7 _ ax),by rw [kd,AS,oO];rfl,rfl⟩
 ·obtain ⟨kv,kp,AR⟩:=v8
  repeat (first|(refine E9 I ?_;clear I;intro I)|refine aa.dO aj I rfl rfl rfl rfl rfl rfl rfl (fun cy I=>?_))
  refine aa.bZ rfl rfl rfl rfl rfl (sW cy) I a7 ?_ (fun _ _ ⟨h,_⟩ _=>by cases h);rintro _ _ ⟨⟨⟩,rfl⟩ I;simp only [d7,t8] at I ⊢;cases oO:fG.any (fun y=>gL y x) with
  | true=>
   refine bG ?_;exact At.mk (nc p n cd dF cw (some (g,cap,cs)) fG) I (by simp only [nc,pB,qE,dK];exact a7) ⟨some (g,cap,cs),fG,⟨kv,kp,AR⟩,Dx,by simp only [i7] at eZ;omega,fun y ax=>pD y (g7 _ ax),by rw [kd,AS,oO];rfl,rfl⟩
  | false=>
  refine cm I ?_;intro I;refine ae.qZ aj mixed C (ba.run C ?_);refine ba.dO 0 aj I C C C C C C C C C (fun Yb I=>?_);refine ba.run C ?_;refine ba.many C (hH.c (jR.B5 (i:=1) C C C (aW.cN aj I C C C C C C C aV C (X:=fun _ _=>False)) ?_ (fun _ _ h=>False.elim h)) (hH.c (jR.B5 (i:=2) C C C (aW.cN aj I C C C C C C C aV C (X:=fun _ _=>False)) ?_ (fun _ _ h=>False.elim h)) hH.n))
  ·rintro _ _ ⟨rfl,I⟩
   refine ba.run C ?_;refine ba.cN 2 aj I C C C C C C C C C C C aV b1 (fun I=>?_);refine ba.run C ?_;refine ba.ey 3 aj I C C C C C C C C aV b1 ?_;refine ba.run C ?_;refine ba.done C ?_;refine sw ?_;refine ae.nu (cQ [(cd,_),(cy,_)]) aj mixed C (bh.run (cQ.two (bl.get aV I) (bl.get aV I)) C ?_);refine bh.mo 4 aj (cQ.two (bl.get aV I) (bl.get aV I)) C C C C C C C C (fun _ h=>cQ.fst h) b1 ?_;refine bh.mo 5 aj (cQ.two (bl.get aV I) (bl.get aV I)) C C C C C C C C (fun _ h=>cQ.snd h) b1 ?_;refine bh.run (cQ.two (bl.get aV I) (bl.get aV I)) C ?_;refine bh.rI 7 aj I C C C C C C C C C ef C C C C aV kv kp C C C C (by show (_+1)*80≤_;omega) ag (fun dL f' fM I _=>(cQ.two (bl.get aV I) (bl.get aV I))) (fun dL f' fM cP c9 eP I=>?_);refine bh.run (cQ.two (bl.get aV I) (bl.get aV I)) C ?_;refine bh.cN 10 aj I C C C C C C C C C C C aV b1 (fun _ => .inr C) (fun I=>?_);refine ba.done C ?_;refine gg ?_;exact At.mk (nc p n cd dF cw (some (dL,f',fM)) (fG++[x])) I (by simp only [nc,pB,qE,dK,s9];exact a7) ⟨some (dL,f',fM),fG++[x],⟨by rw [s9] at *;exact cP,by rw [s9];exact c9,by rw [DA,s9,← AR];exact eP⟩,Dy,Dz,fun y ax=>pD y (g7 _ ax),by rw [kd,AS,oO];rfl,rfl⟩
  ·rintro _ _ ⟨rfl,I⟩
   refine ba.run C ?_;refine ba.cN 1 aj I C C C C C C C C C C C aV b1 (fun I=>?_);refine ba.run C ?_;refine ba.ey 3 aj I C C C C C C C C aV b1 ?_;refine ba.run C ?_;refine ba.done C ?_;refine cm I ?_;intro I;refine aa.sD aj C C C C C C C ?_;skip;refine aa.Db aj C C C C C C C C C C ?_;refine aa.rI aj I C C C C C C C ef C C C C aV kv kp C C C C (by show (_+1)*80≤_;omega) ag (fun dL f' fM cP c9 eP I=>?_);refine cm I ?_;intro I;refine aa.gi aj fG.length C C C C C C C C C C bc ?_;refine aa.lY aj I _ C C C C C C C C C aV (by rw [cP];show fG.length*6+6≤f'*6;simp only [ae1] at *;omega) C (fun I=>?_);obtain ⟨b7,bR⟩:=NO (x:=x) (l:=fG) (cs:=fM) (zc:=_) rfl (by rw [← AR];exact eP);refine hI ?_;exact At.mk (nc p n cd dF cw (some (dL,f',(eO (fG.length*6) x.cells fM))) (fG++[x])) I (by simp only [nc,pB,qE,dK,s9];exact a7) ⟨some (dL,f',(eO (fG.length*6) x.cells fM)),fG++[x],⟨b7.trans cP,by rw [s9];exact c9,by rw [DA,s9];exact bR⟩,Dy,Dz,fun y ax=>pD y (g7 _ ax),by rw [kd,AS,oO];rfl,rfl⟩
def dU (p:bK) (n:Int) (c0 vs:af) (an cw cd:Nat):bN×ds:=(.own cd,.box 110 (dK p n c0 vs an cw))
theorem Yc (x f:aq) (ab:x.path.length<bt) (a1:f.path.length<bt):ee d0 (.func 175 [] [.bs f.cells 0]) [x.cb] (.bool (gL x f)):=by
 have U:=La x f ab a1;have U:aU d0 104 [x.cb,f.cb] (.bool (gL x f)):=U;refine ee.fa (first:=[]) (cap:=[.bs f.cells 0]) ?_;refine aU.bn aj Tryz.func175 C C fun s I=>?_
 rw [aq.cE,aq.cE] at U;rw [aq.cE];unfold aq.cells at *;refine cD ?_;exact bA I
def AT (l:List aq) (f:aq):Prop:=∀ x∈l5 f,l.any (fun y=>gL y x)=true
theorem NP:∀ {ks:List aq} {k x:aq},k∈ks→x∈l5 k→x∈oK ks
  | y::r,k,x,h,ab=>by
    rw [oK];rcases ad4.1 h with rfl|h
    · exact List.mem_append_left _ ab
    · exact List.mem_append_right _ (NP h ab)
theorem AT.HT {l:List aq} {f k:aq} (h:AT l f) (aB:f.c7=false) (aD:k∈f.kids):AT l k:=fun x ab=>h x (by
 rw [G9,aB,f0 bc];exact NP aD ab)
theorem Yd (p:bK) (n:Int) (l:List aq) (vs:af) (an cw cd:Nat) (w:bw) (hK:l.length≤7) (dP:iS w l) (v:Nat) (ar:v<2^63):∀ (k:Nat) (f:aq),f.size≤k→gR w f=true→AT l f →
    bz d0 128 [.ptr cd 0,f.cb,.int .i64 (v:Int)] [dU p n (dp l) vs an cw cd] (fun o K=>o = .ret (.bool (sZ l v f))∧K=[dU p n (dp l) vs an cw cd]):=by
  have ns:bt=1099511627776:=rfl;intro k
  induction k with
  | zero=>intro x h;have:=x.size_eq;omega
  | succ k aX=>
    intro f aA au ff;have iQ:=f.size_eq;have jj:=Wo l v f;have Ye:=au;rw [pd,f6] at au;obtain ⟨rp,nL⟩:=au;refine bz.bn aj Tryz.func128 C C fun s I=>?_
    rw [aq.cE];unfold dU dK dp at *;rcases CL rp with ⟨U,ad⟩|⟨aB,ad,U⟩|⟨U,x,ad⟩|⟨U,x,y,ad⟩
    · rw [U,f9 C] at jj
      rw [jj];unfold aq.cells;rw [U];refine bG ?_;exact Fin.bu I C aM (aH.all _) ⟨rfl,rfl⟩
    · have bV:f.op=2∨f.op=3∨f.op=4:=by unfold aq.c7 at aB;simp at aB;omega
      have rR:=uB Ye aB;have oO:=ff f (by rw [G9,aB,f9 C];exact t7.2 C);obtain ⟨i,aS⟩:∃ i,l.findIdx? (fun x=>gL x f)=some i:=by
        cases h:l.findIdx? (fun x=>gL x f) with
        | some i=>exact ⟨i,rfl⟩
        | none=>
          rw [List.findIdx?_eq_none_iff] at h;obtain ⟨z,bP,Bv⟩:=ae4.1 oO;rw [h z bP] at Bv;cases Bv
      have rB:i<l.length:=(af2.1 aS).1;have DB:=S3 (.func 175 [] [.bs f.cells 0]) (fun x=>gL x f) l ag (fun x ab=>Yc x f (by have:=uB (dP x ab).1 (dP x ab).2;omega) ag);rw [aS] at DB;simp only at DB;have jj:sZ l v f=v.testBit i:=by
        rw [jj,f0 ag,f0 ag,f0 ag,f0 ag,aS]
      rw [jj,← C5];unfold aq.cells at DB ⊢;rcases bV with h|h|h
      all_goals
        rw [h] at DB ⊢;refine ha I ?_;intro I;refine aa.shr _ C C C C C C ag (tH ag) ?_;refine aa.bits _ C C C C C C (Ch (n:=1) (ah9 (an9 v i) ar) ag) ?_;refine dY ?_;exact Fin.bu I C aM (aH.all _) ⟨rfl,rfl⟩
    · have aB:f.c7=false:=by unfold aq.c7;rw [U];rfl
      have ab:=aq.iD (l:=f.kids) (x:=x) mz;have i1:=aX x ag (lq nL mz) (ff.HT aB mz);have b7:([x].map aq.cb)[0]? = some (.agg x.cells):=by rw [← aq.cE];rfl
      rw [U,f0 ag,f9 C,ad,C4 l v 0 [x] x C] at jj;rw [jj];rw [aq.cE] at i1;unfold aq.cells;rw [U,ad];refine bG ?_;refine aa.bZ rfl rfl rfl rfl rfl i1 I (aH.all _) ?_ (fun _ _ ⟨h,_⟩ _=>by cases h);rintro _ _ ⟨⟨⟩,rfl⟩ I;rw [d8] at I ⊢;refine fB ?_;exact Fin.bu I C aM (aH.all _) ⟨rfl,rfl⟩
    · have aB:f.c7=false:=by unfold aq.c7;rcases U with U|U<;>rw [U]<;>rfl
      have ab:=aq.iD (l:=f.kids) (x:=x) mz;have ax:=aq.iD (l:=f.kids) (x:=y) tT;have i1:=aX x ag (lq nL mz) (ff.HT aB mz);have i2:=aX y ag (lq nL tT) (ff.HT aB tT);have b7:([x,y].map aq.cb)[0]? = some (.agg x.cells):=by rw [← aq.cE];rfl
      have bR:([x,y].map aq.cb)[1]? = some (.agg y.cells):=by rw [← aq.cE];rfl
      rw [aq.cE] at i1 i2;rw [ad,C4 l v 0 [x,y] x C,C4 l v 1 [x,y] y C] at jj;unfold aq.cells;rw [ad];rcases U with U|U
      all_goals
        rw [U] at jj ⊢;cases Ab:sZ l v x with
        | true=>
          rw [Ab] at jj i1;simp at jj;rw [jj];refine bG ?_;refine aa.bZ rfl rfl rfl rfl rfl i1 I (aH.all _) ?_ (fun _ _ ⟨h,_⟩ _=>by cases h);rintro _ _ ⟨⟨⟩,rfl⟩ I;rw [d8] at I ⊢;refine bG ?_
          first
            | exact Fin.bu I C aM (aH.all _) ⟨rfl,rfl⟩
            | (refine aa.bZ rfl rfl rfl rfl rfl i2 I (aH.all _) ?_ (fun _ _ ⟨h,_⟩ _=>by cases h)
               rintro _ _ ⟨⟨⟩,rfl⟩ I
               rw [d8] at I ⊢
               refine fB ?_
               exact Fin.bu I C aM (aH.all _) ⟨rfl,rfl⟩)
        | false=>
          rw [Ab] at jj i1;simp at jj;rw [jj];refine bG ?_;refine aa.bZ rfl rfl rfl rfl rfl i1 I (aH.all _) ?_ (fun _ _ ⟨h,_⟩ _=>by cases h);rintro _ _ ⟨⟨⟩,rfl⟩ I;rw [d8] at I ⊢;refine bG ?_
          first
            | exact Fin.bu I C aM (aH.all _) ⟨rfl,rfl⟩
            | (refine aa.bZ rfl rfl rfl rfl rfl i2 I (aH.all _) ?_ (fun _ _ ⟨h,_⟩ _=>by cases h)
               rintro _ _ ⟨⟨⟩,rfl⟩ I
               rw [d8] at I ⊢
               refine fB ?_
               exact Fin.bu I C aM (aH.all _) ⟨rfl,rfl⟩)
theorem AU (gen:Int) (l:List aq) (v:Nat):∀ (ms:List gP) (i:Nat),(m' gen l v i ms).length≤ms.length
  | [],_=>i0 _
  | m::r,i=>by
    have:=AU gen l v r (i+1);rw [m'];split<;>simp<;>omega
def AV (p:bK) (n:Int) (l:List aq):Prop:=∀ m∈p.methods,m.gen=n→AT l m.fact
theorem NQ (p:bK) (aE:fD p) (eL:fs p=true) (n:Int) (l:List aq) (vs:af) (an cw cd:Nat) (hK:l.length≤7) (dP:iS (b3 p) l) (gE:AV p n l) (v:Nat) (ar:v<2^63) :
  bz d0 81 [.ptr cd 0,.int .i64 (v:Int)] [dU p n (dp l) vs an cw cd] (fun o K=>o = .ret (bk (dA p n l v))∧K=[dU p n (dp l) vs an cw cd]):=by
 have ns:bt=1099511627776:=rfl;obtain ⟨yg,Ya⟩:=wI eL;have Yf:=fun f U ad=>Yd p n l vs an cw cd (b3 p) hK dP v ar f.size f (i0 _) U ad
 refine bz.bn aj Tryz.func81 C C fun s I=>?_
 unfold dU dK at *;refine ha I ?_;intro I;refine ae.ik I 3 1 0 fun I=>?_
 refine ae.cl [0,1,12,13] C I (σ:=Nat×List Int×bN) (fun q=>[(14,.int .i64 (q.1:Int)),(5,.ay 1 (q.2.1.map bb) q.2.2)]) (fun q=>[(q.2.2,.row 3 1 q.2.1.length),dU p n (dp l) vs an cw cd]) (fun q=>q.1≤p.methods.length∧q.2.1.length≤q.1∧dA p n l v=q.2.1++m' n l v q.1 (p.methods.drop q.1)) (fun q=>p.methods.length-q.1) (0,[],.nil)
  ⟨g9 _,i0 _,rfl⟩ ⟨⟨_,rfl,aM⟩,⟨_,rfl,aR.nil hh⟩,trivial⟩ (by simp only [dU,dK];exact a7) ?_
 rintro ⟨j,out,gk⟩ ⟨aO,gh,aw⟩ I;simp only [dU,dK] at aO gh aw I ⊢;refine ck ?_;refine ae.cond C (fun az=>?_) (fun a'=>?_);rotate_left
 ·have a':j=p.methods.length:=by simp at a';omega
  rw [eR ag,m',d8] at aw;rw [aw];refine eH ?_;exact Fin.bu (K:=[dU p n (dp l) vs an cw cd]) I C aR.aZ (by simp only [dU,dK];exact a7) ⟨rfl,rfl⟩
 have az:j<p.methods.length:=by simpa using az
 obtain ⟨m,ab,ct⟩:=cf (f:=jf) az;have fV:=d6 ab;rw [drop_cons ab,m'] at aw;unfold jf oz at ct;by_cases au:m.gen=n
 ·have c6:=Yf m.fact (tJ _ _ _ _ (HP eL fV)) (gE m fV au)
  rw [aq.cE] at c6;unfold aq.cells at c6;rw [au] at ct aw;rw [show decide (n=n)=true by simp,f4] at aw
  repeat (first|(refine vx I ?_;clear I;intro I)|refine aa.dO aj I rfl rfl rfl rfl rfl rfl rfl (fun cy I=>?_))
  refine ae.mn I 7 cy C .here (fun I=>?_);refine ae.tP I cd (.there .here) aj mixed C ?_;refine di ?_;refine aL.split 26 C (fun _=>?_) (fun h=>by simp at h);refine kW ?_;refine aL.uq rfl rfl rfl rfl rfl rfl c6 I a7 (fun _ _ h=>by obtain ⟨-,rfl⟩:=h;exact ⟨_,.here⟩) ?_ (fun _ _ ⟨h,_⟩ _=>by cases h);rintro _ _ ⟨⟨⟩,rfl⟩ I;simp only [t8,d7] at I ⊢;cases oY:sZ l v m.fact with
  | true=>
   rw [oY,f9 C] at aw;refine di ?_;refine aa.gq aj I C C C C C C C ef C C C C C C C C aV h7 kX ag (fun b2 I=>?_);refine hI ?_;exact bF.mk (j+1,out++[(j:Int)],.own b2) I ⟨az,by simp;omega,by rw [aw];simp⟩ xk (by show aH _ [(_,.row _ _ (out++[(j:Int)]).length),dU p n (dp l) vs an cw cd] _;rw [d9];exact (by simp only [dU,dK];exact a7)) s6
  | false=>
   rw [oY,f0 bc] at aw;refine jF ?_;exact bF.mk (j+1,out,gk) I ⟨az,by show out.length≤j+1;omega,aw⟩ cC (by simp only [dU,dK];exact a7) s6
 ·rw [show decide (m.gen=n)=false by simpa using au,f7,f0 bc] at aw
  repeat (first|(refine vx I ?_;clear I;intro I)|refine aa.dO aj I rfl rfl rfl rfl rfl rfl rfl (fun cy I=>?_))
  refine ae.mn I 7 cy C .here (fun I=>?_);refine ae.tP I cd (.there .here) aj mixed C ?_;refine di ?_;refine aL.split 26 C (fun h=>absurd gT au) (fun _=>?_);refine jF ?_;exact bF.mk (j+1,out,gk) I ⟨az,by show out.length≤j+1;omega,aw⟩ cC (by simp only [dU,dK];exact a7) s6
mutual
theorem HU:∀ (f:aq) (w:bw) (b:Bool),gR w f=true→∀ l∈hS b f,∀ x∈l,gR w x.1=true∧x.1.c7=true
  | .mk o a p c n ks,w,b,au,l,h,x,ab=>by
    have nv:=au;rw [gR,f6] at nv;rw [hS] at h;split at h
    · split at h
      · cases h
      · rw [t7] at h;subst h;cases ab
    · split at h
      · exact yj ks w _ 0 nv.2 l h x ab
      · split at h
        · rename_i aB
          rw [t7] at h;subst h;rw [t7] at ab;subst ab;exact ⟨au,aB⟩
        · split at h
          · rcases ac7.1 h with h|h
            · exact yj ks w _ 0 nv.2 l h x ab
            · exact yj ks w _ 1 nv.2 l h x ab
          · obtain ⟨u,hu,h⟩:=List.mem_flatMap.1 h
            obtain ⟨v,ar,rfl⟩:=ad2.1 h;rcases CN v u ab with ab|ab
            · exact yj ks w _ 0 nv.2 u hu x ab
            · exact yj ks w _ 1 nv.2 v ar x ab
theorem yj:∀ (ks:List aq) (w:bw) (b:Bool) (n:Nat),jH w ks=true→∀ l∈h0 b n ks,∀ x∈l,gR w x.1=true∧x.1.c7=true
  | [],_,b,n,_,l,h,_,_=>by rw [h0] at h;cases h
  | y::r,w,b,0,au,l,h,x,ab=>by
    rw [jH,f6] at au;rw [h0] at h;exact HU y w b au.1 l h x ab
  | y::r,w,b,n+1,au,l,h,x,ab=>by
    rw [jH,f6] at au;rw [h0] at h;exact yj r w b n au.2 l h x ab
end
theorem Yg (w:bw) (f:aq) (a1:f.size<bt) (au:gR w f=true) (b:Bool):xl d0 242 [] [.bs f.cells 0,.bs [.bool b] 0] [] pv (hS b f):=by
 intro l Go fm fr om K bm;have ep:∀ dI,Ad dI (ld l) (fun xs K=>∃ aN,K=aN++[(.own dI,ru dI)]∧Go xs aN) (fun K=>∃ aN,K=aN++[(.own dI,ru dI)]∧fm aN) (fun v K=>∃ aN,K=aN++[(.own dI,ru dI)]∧fr v aN):=fun dI=>by
  refine ⟨rfl,fun x rem K ⟨aN,e,au⟩=>?_,fun xs K ⟨aN,e,_⟩=>⟨aN++[],by subst e;exact bl.app aN .here⟩,fun K ⟨aN,e,_⟩=>⟨aN++[],by subst e;exact bl.app aN .here⟩⟩;subst e;refine dh.frame (R:=[(.own dI,ru dI)]) (om x rem aN au) (aH.jd (aH.ez aN)) ?_;rintro o k5 (⟨rfl,h⟩|⟨rfl,h⟩|⟨v,rfl,h⟩)
  ·exact .inl ⟨rfl,k5,rfl,h⟩
  ·exact .inr (.inl ⟨rfl,k5,rfl,h⟩)
  ·exact .inr (.inr ⟨v,rfl,k5,rfl,h⟩)
 have hw:=fun dI=>dh.fa (first:=[]) (args:=[f.cb,.bool b,ld l]) (cap:=[.ptr dI 0]) (Va w dI f.size f (i0 _) a1 au b (ld l) _ _ _ (ep dI) [] (K++[(.own dI,ru dI)]) ⟨K,rfl,by rw [d8];exact bm⟩)
 rw [aq.cE] at hw;refine bz.bn aj Tryz.func242 C C fun s I=>?_
 rw [d7] at I ⊢;unfold aq.cells;unfold aq.cells at hw
 repeat (first|(refine R9 I ?_;clear I;intro I)|refine aa.dO aj I rfl rfl rfl rfl rfl rfl rfl (fun cy I=>?_))
 refine aa.gr C C C C C C (hw cy) I (aH.h9 (au1 _ _).symm) ?_ ?_
 ·rintro x _ (⟨⟨⟩,k5,rfl,h⟩|⟨⟨⟩,k5,rfl,h⟩|⟨_,⟨⟩,_⟩) I
  all_goals rw [d8] at I ⊢
  ·refine ga ?_
   exact Fin.bu I C aM (aH.jd (aH.ez k5)) (.inl ⟨rfl,.inl h⟩)
  ·refine ga ?_
   exact Fin.bu I C aM (aH.jd (aH.ez k5)) (.inl ⟨rfl,.inr h⟩)
 ·rintro x _ (⟨h,_⟩|⟨h,_⟩|⟨v,⟨⟩,k5,rfl,h⟩) I
  ·cases h
  ·cases h
  rw [d8] at I ⊢;exact Fin.e6 I aM (aH.jd (aH.ez k5)) (.inr ⟨_,rfl,h⟩)
theorem Yh (f:aq) (b:Bool):aU d0 210 [f.cb,.bool b] (.func 242 [] [.bs f.cells 0,.bs [.bool b] 0]):=by
 have an:=bC;refine aU.bn aj Tryz.func210 C C fun s I=>?_
 rw [aq.cE];unfold aq.cells;refine gO ?_;exact bA I
def wJ (w:bw) (f:aq):Bool:=(hS false f).any fun l=>mF w (ec l)
theorem Yi (w:bw) (hw:fQ w) (f:aq) (a1:3*f.size+3<bt) (au:gR w f=true):aU d0 174 [fR w,f.cb] (.bool (wJ w f)):=by
 have an:=bC;refine aU.bn aj Tryz.func174 C C fun s I=>?_
 have aF:=Yh f false;have nx:=Yg w f ag au false;have Yj:=fun (l:List ch) (h:l∈hS false f)=>XD w hw l (by have:=(Gn f false l h).1;omega) (fun x ab=>⟨(HU f w false au l h x ab).1,(HU f w false au l h x ab).2⟩)
 rw [aq.cE] at aF ⊢;unfold aq.cells at *;unfold fR e1 at *
 repeat (first|(refine R' I ?_;clear I;intro I)|refine aa.dO aj I rfl rfl rfl rfl rfl rfl rfl (fun cy I=>?_)|(refine oi ?_))
 refine ae.Fk I C dE nx .nil (fun rem K=>(∀ l∈rem,l∈hS false f)∧wJ w f=(rem.any fun l=>mF w (ec l))∧K=[(.own cy,.box 4 [.bool false])]) (fun j K=>j = .exit 0∧wJ w f=true∧K=[(.own cy,.box 4 [.bool true])]) (fun _ _=>False) ⟨fun _ h=>h,rfl,rfl⟩ ?_ ?_ ?_ (fun _ _ h=>h.elim)
 ·rintro s₁ l rem K ⟨hm,aC,rfl⟩ I
  have NR:=Yj l (hm l i5);rw [List.any_cons] at aC;cases DC:mF w (ec l) with
  | true=>
   rw [DC] at NR;rw [DC,al7] at aC;refine ha I ?_;intro I;exact At.mk _ I (aH.ez _) ⟨rfl,aC,rfl⟩
  | false=>
   rw [DC] at NR;rw [DC,af1] at aC;refine cD ?_;exact At.mk _ I (aH.ez _) ⟨fun l h=>hm l (g7 _ h),aC,rfl⟩
 ·rintro K ⟨_,aC,rfl⟩ I
  have aC:wJ w f=false:=aC;rw [aC];refine cm I ?_;intro I;exact bA I
 ·rintro j K ⟨rfl,aC,rfl⟩ I
  rw [aC];refine cm I ?_;intro I;exact bA I
theorem Yk (w:bw) (hw:fQ w) (f:aq) (a1:3*f.size+3<bt):aU d0 127 [fw w,f.cb] (.cg [.bool (il w f&&wJ w f),.int .i64 (if il w f then 0 else 2)]):=by
 have an:=bC;refine aU.bn aj Tryz.func127 C C fun s I=>?_
 have U:=Gf w hw [f] cO (by intro g au;rw [t7] at au;subst au;omega);rw [ac0,ae3,aq.cE] at U;rw [aj6,an3,am8] at U;cases yh:il w f with
 | false=>
  rw [yh] at U;rw [aq.cE];unfold fw fu dv bk at *;unfold fR e1 at *;refine cD ?_;exact bA I
 | true=>
  rw [yh] at U;have ad:=Yi w hw f a1 (tJ f w 12 24 yh);rw [aq.cE] at ad ⊢;unfold fw fu dv bk at *;unfold fR e1 at *;refine cD ?_;exact bA I
theorem HV (f:aq):gL f f=true:=by unfold gL;simp
theorem Yl {l:List aq} (f:aq) (h:l.Nodup):(jV l f).Nodup:=by
 unfold jV;split
 ·exact h
 ·rename_i aA
  rw [List.nodup_append];refine ⟨h,by simp,fun a a8 b an=>?_⟩;rw [t7.1 an];rintro rfl;exact aA (ae4.2 ⟨a,a8,HV a⟩)
theorem NS:∀ (c0 l:List aq),l.Nodup→(c0.foldl jV l).Nodup
 | [],_,h=>h
 | x::r,l,h=>NS r _ (Yl x h)
theorem NT (gen:Int):∀ (ms:List gP) (l:List aq),l.Nodup→(ms.foldl (lB gen) l).Nodup
 | [],_,h=>h
 | m::r,l,h=>NT gen r _ (by unfold lB;split;exact NS _ _ h;exact h)
theorem Ym (p:bK) (gen:Int):(cF p gen).Nodup:=NT gen _ _ at3
def rS (f:aq) (b:Bool):aq:=if b then f else f.not
def rT (v:Nat):Nat→List aq→aq→aq
 | _,[],a=>a
 | i,f::r,a=>rT v (i+1) r (if i=0 then rS f (v.testBit i) else a.and (rS f (v.testBit i)))
def wK (l:List aq) (v:Nat):aq:=rT v 0 l (.mk 1 0 [] 0 0 [])
theorem AW {w:bw} {f:aq} (au:gR w f=true) (aB:f.c7=true):f.kids=[]:=by
 rw [pd,f6] at au;rcases CL au.1 with ⟨_,h⟩|⟨_,h,_⟩|⟨h,_⟩|⟨h,_⟩
 ·exact h
 ·exact h
 ·unfold aq.c7 at aB;rw [h] at aB;cases aB
 ·unfold aq.c7 at aB;rcases h with h|h<;>(rw [h] at aB;cases aB)
theorem Yn {f:aq} (aB:f.c7=true):f.op=2∨f.op=3∨f.op=4:=by unfold aq.c7 at aB;simp at aB;omega
theorem NU {f:aq} (aB:f.c7=true) (b:Bool):hS b f=[[(f,b)]]:=by
 have:=Yn aB;rw [LR,f0 ag,f0 ag,f9 aB]
theorem Yo {f:aq} (aB:f.c7=true) (b:Bool):hS false (rS f b)=[[(f,!b)]]:=by
 cases b with
 | true=>exact NU aB false
 | false=>
  show hS false f.not=_;unfold aq.not;rw [hS,f0 dE,f9 C,h0];exact NU aB true
theorem Yp {a x:aq} {mH NV:List ch} (a8:hS false a=[mH]) (ab:hS false x=[NV]):hS false (a.and x)=[jt mH NV]:=by
 unfold aq.and;rw [hS,f0 dE,f0 dE,f0 (by simp [aq.c7,aq.op]),f0 dE,h0,h0,h0,a8,ab];rfl
theorem Yq {mH:List ch} {x:ch} (h:∀ y∈mH,y.1≠x.1):jt mH [x]=mH++[x]:=by
 show qn mH x=_;unfold qn;rw [f0];intro aA;obtain ⟨y,ax,ad⟩:=ae4.1 aA;exact h y ax (by rw [(UW x y).1 ad])
theorem NW (v:Nat):∀ (l:List aq) (i:Nat) (a:aq) (mH:List ch),(∀ x∈l,x.c7=true)→l.Nodup→(∀ y∈mH,y.1∉l)→(i=0→mH=[])→hS false a=[mH]→hS false (rT v i l a)=[mH++rG i l v]
  | [],i,a,mH,_,_,_,_,h=>by rw [rT,rG,d8];exact h
  | f::r,i,a,mH,aB,aA,av,bo,h=>by
    rw [List.nodup_cons] at aA;have cc:∀ y∈mH++[(f,!v.testBit i)],y.1∉r:=fun y ax=>by
      rcases ac7.1 ax with ax|ax
      · exact fun hm=>av y ax (g7 _ hm)
      · rw [t7.1 ax];exact aA.1
    have e:=Yo (aB f i5) (v.testBit i);have ao:hS false (if i=0 then rS f (v.testBit i) else a.and (rS f (v.testBit i)))=[mH++[(f,!v.testBit i)]]:=by
      split
      · rename_i aS;rw [bo aS,e];rfl
      · rw [Yp h e,Yq]
        intro y ax he;refine av y ax ?_;rw [he];exact i5
    rw [rT,rG,NW v r (i+1) _ _ (fun x ab=>aB x (g7 _ ab)) aA.2 cc ag ao,ae6];rfl
theorem Yr {l:List aq} (aB:∀ x∈l,x.c7=true) (aA:l.Nodup) (v:Nat):hS false (wK l v)=[wx l v]:=
 NW v l 0 _ [] aB aA (fun _ h=>by cases h) (fun _=>rfl) (by rw [hS];simp)
theorem NX {w:bw} {f:aq} (au:gR w f=true) (aB:f.c7=true) {d:Nat} {k:Int} (av:1≤d) (aD:1≤k):e0 w d k f=(true,k-1):=by
 have Ys:=AW au aB;rw [pd,f6] at au;obtain ⟨o,a,p,c,n,ks⟩:=f;rw [e0,f0 cO,f9 au.1];have:ks=[]:=Ys;rw [this,gQ]
theorem Yt {w:bw} {f:aq} {d:Nat} {k m:Int} (h:e0 w d (k-1) f=(true,m)) (aD:1≤k):e0 w (d+1) k f.not=(true,m):=by
 unfold aq.not;rw [e0,f0 cO,f9 (by rfl),at6,gQ,h,f9 C,gQ]
theorem Yu {w:bw} {f g:aq} {d:Nat} {k m r:Int} (h:e0 w d (k-1) f=(true,m)) (ad:e0 w d m g=(true,r)) (aD:1≤k):e0 w (d+1) k (f.and g)=(true,r):=by
 unfold aq.and;rw [e0,f0 cO,f9 (by rfl),at6,gQ,h,f9 C,gQ,ad,f9 C,gQ]
theorem NY {w:bw} {f:aq} (au:gR w f=true) (aB:f.c7=true) (b:Bool) {d:Nat} {k:Int} (av:2≤d) (aD:2≤k):∃ m,e0 w d k (rS f b)=(true,m)∧k-2≤m:=by
 cases b with
 | true=>exact ⟨k-1,NX au aB ag ag,by omega⟩
 | false=>
  obtain ⟨e,rfl⟩:∃ e,d=e+1:=⟨d-1,by omega⟩;exact ⟨k-1-1,Yt (NX au aB ag ag) ag,by omega⟩
def AX (w:bw) (i:Nat) (a:aq):Prop:=∀ (d:Nat) (k:Int),i+1≤d→3*(i:Int)≤k→1≤k→∃ m,e0 w d k a=(true,m)∧k-(if i=0 then 1 else 3*(i:Int)-1)≤m
theorem AX.next {w:bw} {i:Nat} {a f:aq} {b:Bool} (h:AX w i a) (au:gR w f=true) (aB:f.c7=true):AX w (i+1) (if i=0 then rS f b else a.and (rS f b)):=by
 intro d k av aD lK;split
 ·rename_i bo
  subst bo;obtain ⟨m,U,ad⟩:=NY au aB b (d:=d) (k:=k) ag ag;exact ⟨m,U,by simp;omega⟩
 ·rename_i bo
  obtain ⟨e,rfl⟩:∃ e,d=e+1:=⟨d-1,by omega⟩;obtain ⟨m,U,ad⟩:=h e (k-1) ag ag ag;rw [f0 bo] at ad;obtain ⟨r,al,bd⟩:=NY au aB b (d:=e) (k:=m) ag ag;exact ⟨r,Yu U al ag,by rw [f0 ag];push_cast;omega⟩
theorem NZ {w:bw} (v:Nat):∀ (l:List aq) (i:Nat) (a:aq),iS w l→AX w i a→AX w (i+l.length) (rT v i l a)
  | [],i,a,_,h=>h
  | f::r,i,a,dP,h=>by
    have U:=dP f i5;have:=NZ (w:=w) v r (i+1) _ (fun x ab=>dP x (g7 _ ab)) (h.next (b:=v.testBit i) U.1 U.2);rw [rT,i7,show i+(r.length+1)=i+1+r.length by omega];exact this
theorem Yv {w:bw} {l:List aq} (dP:iS w l) (hn:l.length≤7) (v:Nat):il w (wK l v)=true:=by
 have:=NZ (w:=w) v l 0 (.mk 1 0 [] 0 0 []) dP (fun d k av _ lK=>⟨k-1,by
  rw [e0,f0 cO,f9 (by rfl),gQ],by simp⟩)
 obtain ⟨m,U,-⟩:=this 12 24 ag ag ag;unfold il;show (e0 w 12 24 (wK l v)).1=true;unfold wK;rw [U]
theorem Yw {w:bw} {l:List aq} (dP:iS w l) (hn:l.length≤7) (aA:l.Nodup) (v:Nat):(il w (wK l v)&&wJ w (wK l v))=pA w l v:=by
 rw [Yv dP hn,f4];unfold wJ pA;rw [Yr (fun x ab=>(dP x ab).2) aA];simp
theorem Yx (v c:Nat):(((v >>> c &&& 1:Nat):Int)==0) = !v.testBit c:=by
 rw [← C5,Nat.and_one_is_mod];have:v >>> c % 2=0∨v >>> c % 2=1:=by omega
 rcases this with h|h<;>rw [h]<;>rfl
theorem N0 (f:aq):f.not.size=1+f.size:=by
 unfold aq.not;rw [aq.size,aq.iC,aq.iC,ae1];omega
theorem N1 (f g:aq):(f.and g).size=1+f.size+g.size:=by
 unfold aq.and;rw [aq.size,aq.iC,aq.iC,aq.iC,ae1];omega
theorem N2 (p:bK) (eL:fs p=true) (n:Int) (l:List aq) (vs:af) (an cw cd:Nat) (hK:l.length≤7) (dP:iS (b3 p) l) (e2:l.Nodup) (v:Nat) (ar:v<2^63) :
  bz d0 80 [.ptr cd 0,.int .i64 (v:Int)] [dU p n (dp l) vs an cw cd] (fun o K=>o = .ret (.bool (pA (b3 p) l v))∧K=[dU p n (dp l) vs an cw cd]):=by
 have ns:bt=1099511627776:=rfl;have qv:=uA eL;rw [← Yw dP hK e2 v];refine bz.bn aj Tryz.func80 C C fun s I=>?_
 unfold dU dK dp at *
 repeat (first|(refine E9 I ?_;clear I;intro I)|refine aa.dO aj I rfl rfl rfl rfl rfl rfl rfl (fun cy I=>?_))
 refine ae.oL I (aq.mk 1 0 [] 0 0 []).cells (kb:=cy) aV (by
  repeat (first|exact cM.nil|refine cM.cons (by first|exact aM|exact aR.empty) ?_)) (fun I=>?_)
 obtain ⟨AY,rfl⟩:∃ x,x=cy:=⟨_,rfl⟩;skip;refine ae.cl [0,1,5,14,15] C I (σ:=Nat×aq×List af) (fun q=>[(16,.int .i64 (q.1:Int))]) (fun q=>[(.own AY,.box 58 q.2.2),dU p n (dp l) vs an cw cd]) (fun q=>cM q.2.2 q.2.1.cells∧q.1≤l.length∧q.2.1.size≤1+6*q.1∧wK l v=rT v q.1 (l.drop q.1) q.2.1) (fun q=>l.length-q.1) (0,.mk 1 0 [] 0 0 [],(aq.mk 1 0 [] 0 0 []).cells) ⟨cM.refl _,g9 _,by simp [aq.size,aq.iC],rfl⟩ (cI C) (by simp only [dU,dK,dp];exact a7) ?_;rintro ⟨j,acc,cs⟩ ⟨hle,aO,b',aw⟩ I;simp only [dU,dK,dp] at hle aO b' aw I ⊢;refine ae.oL I acc.cells (kb:=AY) aV hle (fun I=>?_);refine ck ?_;refine ae.cond C (fun az=>?_) (fun a'=>?_);rotate_left
 ·have a':j=l.length:=by simp at a';omega
  rw [eR ag,rT] at aw;rw [aw];have aF:=Yk (b3 p) qv acc ag;rw [aq.cE] at aF;unfold fw fu at aF;refine ae.mn I 5 AY C .here (fun I=>?_);cases a1:il (b3 p) acc with
  | true=>
   rw [a1] at aF;simp only [f4,ae2] at aF ⊢
   repeat (first
    | refine ae.tP I cd .here aj mixed C ?_
    | with_reducible apply ae.seq
    | with_reducible apply b0
    | with_reducible apply lg
    | with_reducible apply fz
    | with_reducible apply lh
    | with_reducible apply ae.exit)
   refine cD ?_;exact Fin.bu I C aM (aH.all _) ⟨rfl,rfl⟩
  | false=>
   rw [a1] at aF;simp only [f7,ad5,af5] at aF ⊢
   repeat (first
    | refine ae.tP I cd .here aj mixed C ?_
    | with_reducible apply ae.seq
    | with_reducible apply b0
    | with_reducible apply lg
    | with_reducible apply fz
    | with_reducible apply lh
    | with_reducible apply ae.exit)
   refine cD ?_;exact Fin.bu I C aM (aH.all _) ⟨rfl,rfl⟩
 have az:j<l.length:=by simpa using az
 obtain ⟨f,ab,ct⟩:=cf (f:=aq.cb) az;have rR:=dP f (d6 ab);have GL:f.size≤3:=by
  have U:=f.size_eq;have ad:=uB rR.1 rR.2;have al:=AW rR.1 rR.2;rw [al,aq.iC] at U;omega
 rw [drop_cons ab,rT] at aw;rw [aq.cE] at ct;have qQ:=Yx v j;unfold aq.cells at ct I ⊢
 repeat (first|(refine vx I ?_;clear I;intro I)|refine aa.dO aj I rfl rfl rfl rfl rfl rfl rfl (fun cy I=>?_))
 refine aa.shr _ C C C C C C ag (tH ag) ?_;refine aa.bits _ C C C C C C (Ch (n:=1) (ah9 (an9 v j) ar) ag) ?_;refine ga ?_;cases og:v.testBit j with
 | true=>
  rw [og] at qQ;rw [og,show rS f true=f from rfl] at aw;refine ae.cond C (fun h=>absurd h (by rw [qQ];simp)) (fun _=>?_);cases j with
  | zero=>
   rw [f9 C] at aw;refine ha I ?_;intro I;refine bF.mk (1,f,?_) I ?_ (by repeat (first|exact trivial|refine ⟨⟨_,rfl,aM⟩,?_⟩|refine ⟨⟨_,rfl,aR.of_eq Fe⟩,?_⟩)) (by simp only [dU,dK,dp,aq.cells];exact a7) (by show l.length-1<l.length-0;omega);refine ⟨?_,az,by show aq.size f≤7;omega,aw⟩;exact cM.refl _
  | succ k=>
   rw [f0 ag] at aw;refine ha I ?_;intro I;refine bF.mk (k+2,acc.and f,?_) I ?_ (by repeat (first|exact trivial|refine ⟨⟨_,rfl,aM⟩,?_⟩|refine ⟨⟨_,rfl,aR.of_eq Cb⟩,?_⟩)) (by simp only [dU,dK,dp];exact a7) (by show l.length-(k+2)<l.length-(k+1);omega)
   refine ⟨?_,az,(by
    have bB:aq.size f≤5:=by omega
    show (acc.and f).size≤1+6*(k+2)
    rw [N1];omega),aw⟩
   show cM _ (acc.and f).cells;unfold aq.and aq.cells;refine .cons aM (.cons aM (.cons aR.empty (.cons aM (.cons aM (.one ?_)))));simp only [aq.kids,ac0,ae3,aq.cE];exact aR.aZ
 | false=>
  rw [og] at qQ;rw [og,show rS f false=f.not from rfl] at aw;refine ae.cond C (fun _=>?_) (fun h=>absurd h (by rw [qQ];simp));refine ha I ?_;intro I
  refine ae.oL I f.not.cells (kb:=cy) aV (by
   unfold aq.not aq.cells
   refine .cons aM (.cons aM (.cons aR.empty (.cons aM (.cons aM (.one ?_)))))
   simp only [aq.kids,ac0,ae3,aq.cE]
   exact aR.aZ) (fun I=>?_)
  cases j with
  | zero=>
   rw [f9 C] at aw;refine ha I ?_;intro I;refine bF.mk (1,f.not,?_) I ?_ (by repeat (first|exact trivial|refine ⟨⟨_,rfl,aM⟩,?_⟩|refine ⟨⟨_,rfl,aR.of_eq Fe⟩,?_⟩)) (by simp only [dU,dK,dp,aq.cells];exact a7) (by show l.length-1<l.length-0;omega);refine ⟨?_,az,by show aq.size f.not≤7;(rw [N0];omega),aw⟩;exact cM.refl _
  | succ k=>
   rw [f0 ag] at aw;refine ha I ?_;intro I;refine bF.mk (k+2,acc.and f.not,?_) I ?_ (by repeat (first|exact trivial|refine ⟨⟨_,rfl,aM⟩,?_⟩|refine ⟨⟨_,rfl,aR.of_eq Cb⟩,?_⟩)) (by simp only [dU,dK,dp];exact a7) (by show l.length-(k+2)<l.length-(k+1);omega)
   refine ⟨?_,az,(by
    have bB:aq.size f.not≤5:=by (rw [N0];omega)
    show (acc.and f.not).size≤1+6*(k+2)
    rw [N1];omega),aw⟩
   show cM _ (acc.and f.not).cells;unfold aq.and aq.cells;refine .cons aM (.cons aM (.cons aR.empty (.cons aM (.cons aM (.one ?_)))));simp only [aq.kids,ac0,ae3,aq.cE];exact aR.aZ
def fH (f:Nat→Bool) (o:Nat):Nat→Nat
 | 0=>0
 | n+1=>fH f o n+(if f (o+n) then 2^n else 0)
theorem lD (f:Nat→Bool) (o:Nat):∀ n,fH f o n<2^n
  | 0=>Nat.one_pos
  | n+1=>by
    have:=lD f o n;rw [fH,as6];split<;>omega
theorem n1 (f:Nat→Bool) (o:Nat):∀ n i,(fH f o n).testBit i=(decide (i<n)&&f (o+i))
  | 0,i=>by rw [fH];simp
  | n+1,i=>by
    have U:=lD f o n;have ad:=n1 f o n i;rw [fH];cases a1:f (o+n) with
    | false=>
      rw [f0 bc,am4,ad];rcases ar8 i n with h|h|h
      · rw [i6 h,i6 ag]
      · subst h;rw [a1];simp
      · rw [H1 ag,H1 ag]
    | true=>
      rw [f9 C,Nat.add_comm];rcases ar8 i n with h|h|h
      · rw [Nat.testBit_two_pow_add_gt h,ad,i6 h,i6 ag]
      · subst h
        rw [Nat.testBit_two_pow_add_eq,ad,a1];simp
      · rw [H1 ag,f7]
        exact ak6 (ai3 (show 2^n+fH f o n<2^(n+1) by rw [as6];omega) (af6 ag ag))
theorem DD {f:Nat→Bool} {o n m:Nat} (hm:m<2^n) (h:∀ i,i<n→m.testBit i=f (o+i)):m=fH f o n:=by
 apply Nat.eq_of_testBit_eq;intro i;rw [n1];by_cases aS:i<n
 ·rw [h i aS,i6 aS,f4]
 ·rw [H1 aS,f7]
  exact ak6 (ai3 hm (af6 ag ag))
def jL (f:Nat→Bool):List Int:=[(fH f 0 64:Int),(fH f 64 64:Int)]
theorem N3 (f g:Nat→Bool) (o n:Nat):fH f o n &&& fH g o n=fH (fun u=>f u&&g u) o n:=
 DD (ah9 as7 (lD f o n)) fun i aS=>by
  rw [aj2,n1,n1,i6 aS];rfl
theorem N4 (f g:Nat→Bool) (o:Nat):kz (fH f o 64) (fH g o 64)=fH (fun u=>f u && !g u) o 64:=
 DD (ah9 as7 (lD f o 64)) fun i aS=>by
  unfold kz;rw [aj2,Nat.testBit_xor,n1,n1,i6 aS,show (18446744073709551615:Nat)=2^64-1 by decide,Nat.testBit_two_pow_sub_one,i6 aS];simp
theorem N5 (f:Nat→Bool) (o n i:Nat) (aS:i<n):fH f o n|||2^i=fH (fun u=>f u||u==o+i) o n:=
  DD (Nat.or_lt_two_pow (lD f o n) (ag6 ag aS)) fun j aO=>by
    rw [Nat.testBit_or,n1,Nat.testBit_two_pow,i6 aO,f4];congr 1;rw [ad1,g8,aj1];omega
theorem N6 {f g:Nat→Bool} {o n:Nat} (h:∀ i,i<n→f (o+i)=g (o+i)):fH f o n=fH g o n:=
 DD (lD f o n) fun i aS=>by rw [n1,i6 aS,f4,h i aS]
theorem Yy {f g:Nat→Bool} (h:jL f=jL g):∀ u,u<128→f u=g u:=by
 unfold jL at h;have U:fH f 0 64=fH g 0 64:=by have:=(aq5.inj h).1;omega
 have ad:fH f 64 64=fH g 64 64:=by have:=(aq5.inj (aq5.inj h).2).1;omega
 intro u hu;by_cases ao:u<64
 ·have a:=n1 f 0 64 u
  have b:=n1 g 0 64 u;rw [U,b,i6 ao,f4,f4,ad8] at a;exact a.symm
 ·have a:=n1 f 64 64 (u-64)
  have b:=n1 g 64 64 (u-64);rw [ad,b,i6 ag,f4,f4,show 64+(u-64)=u by omega] at a;exact a.symm
theorem AZ {o:Nat} {f:Nat→Bool} (h:∀ u,f u=false):∀ n,fH f o n=0
 | 0=>rfl
 | n+1=>by rw [fH,AZ h n,h,f0 bc]
theorem Yz:jL (fun _=>false)=[0,0]:=by
 unfold jL;rw [AZ (fun _=>rfl),AZ (fun _=>rfl)];rfl
def kK (f:Nat→Bool):af := .agg [.int .u64 (fH f 0 64:Nat),.int .u64 (fH f 64 64:Nat)]
theorem N7 {v:Nat} (ar:v<2^40):aa' .i64 (Int.tdiv (v:Int) (aq6 64))=((v / 64:Nat):Int):=by
 rw [show Int.tdiv (v:Int) (aq6 64)=((v / 64:Nat):Int) from rfl];exact er ag ag
theorem N8 (v:Nat):Int.tmod (v:Int) (aq6 64)=((v % 64:Nat):Int):=rfl
theorem HW (m c:Nat):(((m >>> c &&& 1:Nat):Int)==1)=m.testBit c:=C5 m c
theorem YA (f g:Nat→Bool):aU d0 106 [kK f,kK g] (kK (fun u=>f u&&g u)):=by
 have an:=bC;refine aU.bn aj Tryz.func106 C C fun s I=>?_
 unfold kK
 repeat (first|(refine JW ?_)|refine aa.dO aj I C C C C C C C (fun cy I=>?_))
 refine aa.lp aj 0 C C C C C C C C C C ag ?_;refine dD ?_;refine aa.lp aj 0 C C C C C C C C C C ag ?_;refine dD ?_;refine aa.bits _ C C C C C C (tG (lD f 0 64) (lD g 0 64)) ?_;refine aa.lp aj 1 C C C C C C C C C C ag ?_;refine dD ?_;refine aa.lp aj 1 C C C C C C C C C C ag ?_;refine dD ?_;refine aa.bits _ C C C C C C (tG (lD f 64 64) (lD g 64 64)) ?_;rw [N3,N3];refine cm I ?_;intro I;exact Fin.cL I (pc C C (bl.get aV I) C) aM
theorem YB (f g:Nat→Bool):aU d0 107 [kK f,kK g] (kK (fun u=>f u && !g u)):=by
 have an:=bC;refine aU.bn aj Tryz.func107 C C fun s I=>?_
 unfold kK
 repeat (first|(refine JW ?_)|refine aa.dO aj I C C C C C C C (fun cy I=>?_))
 refine aa.lp aj 0 C C C C C C C C C C ag ?_;refine dD ?_;refine aa.lp aj 0 C C C C C C C C C C ag ?_;refine dD ?_;refine aa.bits _ C C C C C C (Ci (lD f 0 64) (lD g 0 64)) ?_;refine aa.lp aj 1 C C C C C C C C C C ag ?_;refine dD ?_;refine aa.lp aj 1 C C C C C C C C C C ag ?_;refine dD ?_;refine aa.bits _ C C C C C C (Ci (lD f 64 64) (lD g 64 64)) ?_;rw [N4,N4];refine cm I ?_;intro I;exact Fin.cL I (pc C C (bl.get aV I) C) aM
theorem YC (f:Nat→Bool) (v:Nat) (ar:v<128):aU d0 151 [kK f,.int .i64 (v:Int)] (.bool (f v)):=by
 have an:=bC;refine aU.bn aj Tryz.func151 C C fun s I=>?_
 unfold kK;have bp:=N7 (v:=v) ag;have aC:=N8 v;have hm:=Nat.mod_lt v (show 64>0 by omega);by_cases h:v<64
 ·refine bG ?_
  refine aa.lp aj 0 C C C C C C C C C (by rw [bp];omega) ag ?_;refine bG ?_;rw [aC];refine aa.shr _ C C C C C C ag (tH hm) ?_;refine aa.bits _ C C C C C C (tG (n:=1) (ah9 (an9 _ (v % 64)) (lD f 0 64)) ag) ?_;refine dY ?_;refine Fin.cL I C (aR.of_eq (ac5 af.bool ?_));rw [HW,n1,i6 hm,f4];congr 1;omega
 ·refine bG ?_
  refine aa.lp aj 1 C C C C C C C C C (by rw [bp];omega) ag ?_;refine bG ?_;rw [aC];refine aa.shr _ C C C C C C ag (tH hm) ?_;refine aa.bits _ C C C C C C (tG (n:=1) (ah9 (an9 _ (v % 64)) (lD f 64 64)) ag) ?_;refine dY ?_;refine Fin.cL I C (aR.of_eq (ac5 af.bool ?_));rw [HW,n1,i6 hm,f4];congr 1;omega
theorem N9 (f:Nat→Bool) (v:Nat) (ar:v<128):aU d0 60 [kK f,.int .i64 (v:Int)] (kK (fun u=>f u||u==v)):=by
 have an:=bC;refine aU.bn aj Tryz.func60 C C fun s I=>?_
 unfold kK;have bp:=N7 (v:=v) ag;have aC:=N8 v;have hm:=Nat.mod_lt v (show 64>0 by omega);have ig:2^(v % 64)<2^64:=ag6 ag hm;by_cases h:v<64
 ·have jo:=N5 f 0 64 (v % 64) hm
  rw [show (fun u=>f u||u==0+v % 64)=(fun u=>f u||u==v) by funext u;congr 2;omega] at jo;have b7:fH (fun u=>f u||u==v) 64 64=fH f 64 64:=N6 fun i aS=>by
   rw [show (64+i==v)=false by simp;omega,ak5]
  rw [b7,← jo]
  repeat (first|(refine q4 ?_)|refine aa.jE I C C C C C C (fun b I=>?_)|refine aa.dO aj I C C C C C C C (fun cy I=>?_)|(refine JX ?_))
  refine aL.arr aj 0 C C C C C C C C C (by rw [bp];omega) ag ?_;refine cm I ?_;intro I;rw [aC];refine aL.shl _ C C C C C C ag (Cj hm) ?_;refine aL.bits _ C C C C C C (vC (lD f 0 64) ig) ?_;refine aL.arr aj 0 C C C C C C C C C (by rw [bp];omega) ag ?_;refine cm I ?_;intro I;exact Fin.cL I (pc C C (bl.get aV I) C) aM
 ·have jo:=N5 f 64 64 (v % 64) hm
  rw [show (fun u=>f u||u==64+v % 64)=(fun u=>f u||u==v) by funext u;congr 2;omega] at jo;have b7:fH (fun u=>f u||u==v) 0 64=fH f 0 64:=N6 fun i aS=>by
   rw [show (0+i==v)=false by simp;omega,ak5]
  rw [b7,← jo]
  repeat (first|(refine q4 ?_)|refine aa.jE I C C C C C C (fun b I=>?_)|refine aa.dO aj I C C C C C C C (fun cy I=>?_)|(refine JX ?_))
  refine aL.arr aj 1 C C C C C C C C C (by rw [bp];omega) ag ?_;refine cm I ?_;intro I;rw [aC];refine aL.shl _ C C C C C C ag (Cj hm) ?_;refine aL.bits _ C C C C C C (vC (lD f 64 64) ig) ?_;refine aL.arr aj 1 C C C C C C C C C (by rw [bp];omega) ag ?_;refine cm I ?_;intro I;exact Fin.cL I (pc C C (bl.get aV I) C) aM
def A0 (p:bK) (n:Int) (l:List aq) (vs:List Nat):List (af×af):=vs.map fun v:Nat=>(.int .i64 (v:Int),bk (dA p n l v))
def jm (vs:List Nat):List af:=vs.map fun v:Nat => .int .i64 (v:Int)
theorem N' (g:Nat→af) (x:af) (v:Nat):∀ vs:List Nat,v∉vs→k9 (vs.map fun u:Nat=>(.int .i64 (u:Int),g u)) (.int .i64 (v:Int)) x=some ((vs.map fun u:Nat=>(.int .i64 (u:Int),g u))++[(.int .i64 (v:Int),x)])
  | [],_=>rfl
  | u::r,h=>by
    have hu:((v:Int)==(u:Int))=false:=by
      rw [beq_eq_false_iff_ne];intro he;exact h (by rw [show v=u by omega];exact i5)
    rw [ac0,k9];simp only [jN,ae2,hu,N' g x v r (fun hm=>h (g7 _ hm)),t8]
theorem DE (g:Nat→af) (v:Nat):∀ vs:List Nat,iJ (vs.map fun u:Nat=>(.int .i64 (u:Int),g u)) (.int .i64 (v:Int))=some (if vs.contains v then some (g v) else none)
  | []=>rfl
  | u::r=>by
    rw [ac0,iJ];by_cases h:u=v
    · subst h
      simp [jN]
    · have hu:((v:Int)==(u:Int))=false:=by
        rw [beq_eq_false_iff_ne];omega
      simp only [jN,ae2,hu,DE g v r,List.contains_cons];rw [show (v==u)=false by rw [beq_eq_false_iff_ne];omega,af1]
theorem HX {c:Nat} (h:c≤7):aa' .i64 (1*2^(min (c:Int).toNat (ak0 .i64)))=((2^c:Nat):Int):=by
 have U:min (c:Int).toNat (ak0 .i64)=c:=by simp [ak0];omega
 rw [U];have ad:(1*2^c:Int)=((2^c:Nat):Int):=by push_cast;omega
 have al:2^c<2^63:=ag6 ag ag;rw [ad,Fq al]
def pE (w:bw) (l:List aq) (v:Nat):List Nat:=(af7 v).filter (pA w l)
theorem YD (w:bw) (l:List aq) (v:Nat):pE w l (v+1)=pE w l v++(if pA w l v then [v] else []):=by
 unfold pE;rw [List.range_succ,List.filter_append,ai8];rfl
theorem YE (w:bw) (l:List aq) (v:Nat):v∉pE w l v:=fun h=>by
 have:=ah6.1 (af4.1 h).1;omega
theorem YF (w:bw) (l:List aq) (v:Nat):(pE w l v).length≤v:=by
 have:=aj0 (pA w l) (af7 v);rw [ar9] at this;exact this
theorem HY (p:bK) (aE:fD p) (eL:fs p=true) (n:Int) (l:List aq) (an cw cd:Nat) (hK:l.length≤7) (dP:iS (b3 p) l) (e2:l.Nodup) (gE:AV p n l) :
  bz d0 59 [.ptr cd 0] [dU p n (dp l) (.ay 0 [] .nil) an cw cd,(.own an,.map [])] (fun o K=>o = .ret (.cg [])∧K=[dU p n (dp l) (.ay 1 (jm (hA (b3 p) l)) .aZ) an cw cd,(.own an,.map (A0 p n l (hA (b3 p) l)))]):=by
 have ns:bt=1099511627776:=rfl;have yk:2^l.length≤2^7:=af6 ag hK;have wq:=fun vs v h=>N2 p eL n l vs an cw cd hK dP e2 v h
 have DF:=fun vs v h=>NQ p aE eL n l vs an cw cd hK dP gE v h
 have CM:hA (b3 p) l=pE (b3 p) l (2^l.length):=rfl;refine bz.bn aj Tryz.func59 C C fun s I=>?_
 unfold dU dK dp at *;refine cm I ?_;intro I;refine aa.shl ((2^l.length:Nat):Int) C C C C C C ag (by rw [f5];exact HX hK) ?_;refine ej ?_;refine ae.ik I 3 1 0 fun I=>?_
 refine ae.oL I (dK p n (dp l) (.ay 1 (jm []) .nil) an cw) (kb:=cd) aV (by
  unfold dK dp
  repeat (first|exact cM.nil|refine cM.cons (by first|exact aM|exact aR.nil hh) ?_)) (fun I=>?_)
 unfold dK dp at I ⊢;refine ae.cl [0,8] C I (σ:=Nat×bN) (fun q=>[(9,.int .i64 (q.1:Int))]) (fun q=>[(q.2,.row 3 1 (pE (b3 p) l q.1).length),dU p n (dp l) (.ay 1 (jm (pE (b3 p) l q.1)) q.2) an cw cd,(.own an,.map (A0 p n l (pE (b3 p) l q.1)))]) (fun q=>q.1≤2^l.length) (fun q=>2^l.length-q.1) (0,.nil)
  (g9 _) (cI C) (by simp only [dU,dK,dp];exact a7) ?_
 rintro ⟨v,gk⟩ ar I;simp only [dU,dK,dp,jm,A0] at ar I ⊢;refine ck ?_;refine ae.cond C (fun az=>?_) (fun a'=>?_);rotate_left
 ·have a':v=2^l.length:=Nat.le_antisymm ar (Int.ofNat_le.1 (Int.not_lt.1 (of_decide_eq_false a')))
  subst a';rw [CM]
  refine ae.oL I (dK p n (dp l) (.ay 1 (jm (pE (b3 p) l (2^l.length))) .aZ) an cw) (kb:=cd) aV (by
   unfold dK dp
   repeat (first|exact cM.nil|refine cM.cons (by first|exact aM|exact aR.aZ) ?_)) (fun I=>?_)
  refine eH ?_;exact Fin.bu I C aM (by simp only [dU,dK,dp];exact a7) ⟨rfl,rfl⟩
 have az:v<2^l.length:=aA6.1 (ah1 az);have YG:=fun vs=>wq vs v ag
 have HZ:=fun vs=>DF vs v ag
 have DG:=YD (b3 p) l v;have fq:=YF (b3 p) l v;refine bG ?_;refine aa.bZ rfl rfl rfl rfl rfl (YG (.ay 1 ((pE (b3 p) l v).map fun v:Nat => .int .i64 (v:Int)) gk)) I a7 ?_ (fun _ _ ⟨h,_⟩ _=>by cases h);rintro _ _ ⟨⟨⟩,rfl⟩ I;simp only [d7,t8] at I ⊢;cases sS:pA (b3 p) l v with
 | false=>
  rw [sS,f0 bc,d8] at DG;refine bG ?_;exact bF.mk (v+1,gk) I az cC (by simp only [DG];exact a7) (by show 2^l.length-(v+1)<2^l.length-v;omega)
 | true=>
  rw [sS,f9 C] at DG;refine cm I ?_;intro I;refine aa.gq aj I C C C C C C C ef C C C C C C C C aV h7 kX ag (fun b2 I=>?_);refine cm I ?_;intro I;have YH:=HZ (.ay 1 ((pE (b3 p) l v).map (fun v:Nat=>af.int .i64 (v:Int))++[.int .i64 (v:Int)]) (.own b2));have zF:=N' (fun v=>bk (dA p n l v)) (bk (dA p n l v)) v _ (YE (b3 p) l v);refine ae.nu (cQ [(cd,_)]) aj mixed C (bh.run (cQ.one (bl.get aV I)) C ?_);refine bh.mo 3 aj (cQ.one (bl.get aV I)) C C C C C C C C (fun _ h=>cQ.fst h) b1 ?_;refine bh.run (cQ.one (bl.get aV I)) C ?_;refine bh.bZ rfl rfl rfl rfl rfl rfl rfl YH I a7 (fun _ _ h I=>by obtain ⟨-,rfl⟩:=h;exact .inl (cQ.one (bl.get .here I))) ?_ (fun _ _ ⟨h,_⟩ _=>by cases h);rintro _ _ ⟨⟨⟩,rfl⟩ I;simp only [d7,t8] at I ⊢;refine bh.run (cQ.one (bl.get aV I)) C ?_;refine bh.mm 8 aj I C C C C (.inl C) C C C C C C aV C zF (fun _ => .inr C) (fun I=>?_);refine ba.done C ?_;refine gg ?_;exact bF.mk (v+1,.own b2) I az cC (by simp only [DG,ac2,ac0,ae3,d9,i7,ae1];exact a7) (by show 2^l.length-(v+1)<2^l.length-v;omega)
theorem YI (l:List aq) (f:aq):(jV l f).any (fun y=>gL y f)=true:=by
 unfold jV;split
 ·assumption
 ·rw [ay5];simp [HV]
theorem YJ {l:List aq} {f x:aq} (h:l.any (fun y=>gL y x)=true):(jV l f).any (fun y=>gL y x)=true:=by
 unfold jV;split
 ·exact h
 ·rw [ay5,h];rfl
theorem H0 {x:aq}:∀ (c0 l:List aq),l.any (fun y=>gL y x)=true→(c0.foldl jV l).any (fun y=>gL y x)=true
 | [],_,h=>h
 | a::r,l,h=>H0 r _ (YJ h)
theorem Oa {x:aq}:∀ (c0 l:List aq),x∈c0→(c0.foldl jV l).any (fun y=>gL y x)=true
  | a::r,l,h=>by
    rw [af0];rcases ad4.1 h with rfl|h
    · exact H0 r _ (YI l x)
    · exact Oa r _ h
theorem Ob {gen:Int} {x:aq}:∀ (ms:List gP) (l:List aq),l.any (fun y=>gL y x)=true→(ms.foldl (lB gen) l).any (fun y=>gL y x)=true
 | [],_,h=>h
 | m::r,l,h=>Ob r _ (by unfold lB;split;exact H0 _ _ h;exact h)
theorem Oc {gen:Int} {x:aq}:∀ (ms:List gP) (l:List aq) (m:gP),m∈ms→m.gen=gen→x∈l5 m.fact→(ms.foldl (lB gen) l).any (fun y=>gL y x)=true
  | a::r,l,m,h,au,ab=>by
    rw [af0];rcases ad4.1 h with rfl|h
    · exact Ob r _ (by unfold lB;rw [f9 au];exact Oa _ _ ab)
    · exact Oc r _ m h au ab
theorem YK (p:bK) (gen:Int):AV p gen (cF p gen):=fun m hm au x ab=>Oc p.methods [] m hm au ab
theorem YL {p:bK} {gen:Int} (h:eK p gen=0):fs p=true∧l6 p gen=true∧(cF p gen).length≤7:=by
 unfold eK at h;split at h
 ·rename_i U
  rw [f6] at U;split at h
  ·exact ⟨U.1,U.2,by assumption⟩
  ·omega
 ·omega
theorem Od {w:bw} {l:List aq} {v:Nat} (h:v∈hA w l):v<2^l.length:=by
 unfold hA at h;exact ah6.1 (af4.1 h).1
theorem A1 (w:bw) (l:List aq):(hA w l).length≤2^l.length:=by
 unfold hA;have:=aj0 (pA w l) (af7 (2^l.length));rw [ar9] at this;exact this
def H2 (p:bK) (n:Int):af := .cg [if eK p n=0 then dp (cF p n) else .ay 0 [] .nil,.int .i64 (eK p n)]
def DH (p:bK) (n:Int):af := .cg [if eK p n=0 then .ay 1 (jm (hA (b3 p) (cF p n))) .aZ else .ay 0 [] .nil,.int .i64 (eK p n)]
def H3 (p:bK) (n v:Int):Bool:=decide (0≤v)&&(decide (v<((2^(cF p n).length:Nat):Int))&&pA (b3 p) (cF p n) v.toNat)
def A2 (p:bK) (n v:Int):Int:=if eK p n=0 then (if H3 p n v then 0 else 5) else eK p n
def H4 (p:bK) (n v:Int):af := .cg [if A2 p n v=0 then bk (dA p n (cF p n) v.toNat) else .ay 0 [] .nil,.int .i64 (A2 p n v)]
theorem rU {p:bK} {n:Int} (he:eK p n=0):fs p=true∧(cF p n).length≤7∧iS (b3 p) (cF p n)∧(cF p n).Nodup∧AV p n (cF p n):=by
 obtain ⟨U,-,ad⟩:=YL he;exact ⟨U,ad,(NN U n).1,Ym p n,YK p n⟩
theorem Oe (p:bK) (aE:fD p) (n:Int):aU d0 25 [cW p,.int .i64 n] (H2 p n):=by
 have an:=bC;refine aU.bn aj Tryz.func25 C C fun s I=>?_
 have a8:=AQ p aE n;unfold H2;unfold cW cV at *;refine dz ?_;refine aa.bZ rfl rfl rfl rfl rfl a8 I .nil ?_ (fun _ _ h _=>by rcases h with ⟨_,_,_,_,h,_⟩|⟨_,⟨_,h⟩,_⟩<;>cases h);rintro _ _ (⟨he,cd,an,cw,⟨⟩,rfl⟩|⟨he,⟨v,⟨⟩⟩,rfl⟩) I
 ·rw [he,f9 C]
  simp only [t8,d7] at I ⊢;unfold dK dp at *;refine ha I ?_;intro I;exact bA I
 ·rw [f0 he]
  simp only [d7] at I ⊢;refine dT ?_;refine ae.cond C (fun _=>?_) (fun h=>absurd gT he);refine gO ?_;exact bA I
theorem H5 (p:bK) (aE:fD p) (n:Int):aU d0 27 [cW p,.int .i64 n] (DH p n):=by
 have an:=bC;refine aU.bn aj Tryz.func27 C C fun s I=>?_
 have a8:=AQ p aE n;unfold DH;unfold cW cV at *;refine dz ?_;refine aa.bZ rfl rfl rfl rfl rfl a8 I .nil ?_ (fun _ _ h _=>by rcases h with ⟨_,_,_,_,h,_⟩|⟨_,⟨_,h⟩,_⟩<;>cases h);rintro _ _ (⟨he,cd,an,cw,⟨⟩,rfl⟩|⟨he,⟨v,⟨⟩⟩,rfl⟩) I
 ·rw [he,f9 C]
  obtain ⟨eL,hK,dP,e2,gE⟩:=rU he;have k4:=HY p aE eL n (cF p n) an cw cd hK dP e2 gE;simp only [t8,d7] at I ⊢;unfold dU dK dp at *;refine bG ?_;refine aa.bZ rfl rfl rfl rfl rfl k4 I a7 ?_ (fun _ _ ⟨h,_⟩ _=>by cases h);rintro _ _ ⟨⟨⟩,rfl⟩ I;simp only [t8,d7] at I ⊢;refine cm I ?_;intro I;exact bA I
 ·rw [f0 he]
  simp only [d7] at I ⊢;refine dT ?_;refine ae.cond C (fun _=>?_) (fun h=>absurd gT he);refine gO ?_;exact bA I
theorem Of (p:bK) (aE:fD p) (n v:Int):aU d0 29 [cW p,.int .i64 n,.int .i64 v] (H4 p n v):=by
 have an:=bC;refine aU.bn aj Tryz.func29 C C fun s I=>?_
 have a8:=AQ p aE n;have hm:A2 p n v=if eK p n=0 then (if H3 p n v then 0 else 5) else eK p n:=rfl
 unfold H4;unfold cW cV at *;refine dz ?_;refine aa.bZ rfl rfl rfl rfl rfl a8 I .nil ?_ (fun _ _ h _=>by rcases h with ⟨_,_,_,_,h,_⟩|⟨_,⟨_,h⟩,_⟩<;>cases h);rintro _ _ (⟨he,cd,an,cw,⟨⟩,rfl⟩|⟨he,⟨v,⟨⟩⟩,rfl⟩) I
 ·obtain ⟨eL,hK,dP,e2,gE⟩:=rU he
  have yk:2^(cF p n).length≤2^7:=af6 ag hK;rw [f9 he] at hm;have ar:H3 p n v=(decide (0≤v)&&(decide (v<((2^(cF p n).length:Nat):Int))&&pA (b3 p) (cF p n) v.toNat)):=rfl;simp only [t8,d7] at I ⊢;unfold dK dp at I ⊢;refine bG ?_;by_cases U:v<0
  ·refine aa.dW 23 C (i6 U) ?_
   rw [ar,show decide (0≤v)=false by simp;omega,f7,f0 bc] at hm;rw [hm,f0 bc];refine fB ?_;exact bA I
  refine aa.dc 23 C (H1 U) ?_;obtain ⟨u,rfl⟩:∃ u:Nat,v=u:=⟨v.toNat,by omega⟩;rw [i6 (Int.natCast_nonneg u),f4,ac3] at ar;rw [ac3];refine cm I ?_;intro I;refine aa.shl ((2^(cF p n).length:Nat):Int) C C C C C C ag (by rw [f5];exact HX hK) ?_;refine dD ?_;by_cases ad:(u:Int)<((2^(cF p n).length:Nat):Int);rotate_left
  ·refine aa.dW 33 C (i6 (Int.not_lt.1 ad)) ?_
   rw [ar,H1 ad,f7,f0 bc] at hm;rw [hm,f0 bc];refine fB ?_;exact bA I
  refine aa.dc 33 C (H1 (Int.not_le.2 ad)) ?_;have al:u<2^(cF p n).length:=aA6.1 ad;rw [i6 ad,f4] at ar;have wq:=N2 p eL n (cF p n) (.ay 0 [] .nil) an cw cd hK dP e2 u ag;have DF:=NQ p aE eL n (cF p n) (.ay 0 [] .nil) an cw cd hK dP gE u ag;unfold dU dK dp at wq DF;refine dD ?_;refine aa.bZ rfl rfl rfl rfl rfl wq I a7 ?_ (fun _ _ ⟨h,_⟩ _=>by cases h);rintro _ _ ⟨⟨⟩,rfl⟩ I;simp only [t8,d7] at I ⊢;cases aF:pA (b3 p) (cF p n) u with
  | false=>
   rw [ar,aF,f0 bc] at hm;rw [hm,f0 bc];refine fB ?_;exact bA I
  | true=>
   rw [ar,aF,f9 C] at hm;rw [hm,f9 C];refine bG ?_;refine aa.bZ rfl rfl rfl rfl rfl DF I a7 ?_ (fun _ _ ⟨h,_⟩ _=>by cases h);rintro _ _ ⟨⟨⟩,rfl⟩ I;simp only [t8,d7] at I ⊢;refine dY ?_;exact bA I
 ·rw [f0 he] at hm
  rw [hm,f0 he];simp only [d7] at I ⊢;refine bG ?_;refine ae.cond C (fun _=>?_) (fun h=>absurd gT he);refine kx ?_;exact bA I
def pF (p:bK) (n:Int) (l:List aq) (an cw cd:Nat) (vs:List Nat):a6:=[dU p n (dp l) (.ay 1 (jm vs) .aZ) an cw cd,(.own an,.map (A0 p n l vs))]
def YM:Option Nat→Int
 | none => -1
 | some v=>v
theorem Og (g:Nat→af):∀ vs:List Nat,iJ (vs.map fun u:Nat=>(.int .i64 (u:Int),g u)) (.int .i64 (-1))=some none
  | []=>rfl
  | u::r=>by
    rw [ac0,iJ];have hu:((-1:Int)==(u:Int))=false:=by rw [beq_eq_false_iff_ne];omega
    simp only [jN,ae2,hu,Og g r]
def YN (h:Nat→List Int) (vs rest:List Nat):Option Nat→Prop
 | none=>vs=rest
 | some v=>qC h vs=rest.all (fun u=>h u==h v)∧firstM h vs=h v
theorem YO (p:bK) (n:Int) (l:List aq) (an cw cd:Nat) (vs:List Nat) (eB:∀ v∈vs,v<128) (fq:vs.length≤128) (hx:p.methods.length≤16) (q:Nat→Bool) :
    bz d0 105 [.ptr cd 0,kK q] (pF p n l an cw cd vs) (fun o K=>o = .ret (if qC (dA p n l) (vs.filter q) then .cg [bk (firstM (dA p n l) (vs.filter q)),.bool true] else .cg [.ay 0 [] .nil,.bool false])∧K=pF p n l an cw cd vs):=by
  have ns:bt=1099511627776:=rfl;have sW:=fun v h=>YC q v h
  have Oh:=fun v=>AU n l v p.methods 0
  refine bz.bn aj Tryz.func105 C C fun s I=>?_
  unfold pF dU dK dp at *;refine ha I ?_;intro I;refine ae.cl [0,3,12,13] C I (σ:=Nat×Option Nat) (fun x=>[(14,.int .i64 (x.1:Int)),(6,.int .i64 (YM x.2))]) (fun _=>pF p n l an cw cd vs) (fun x=>x.1≤vs.length∧(∀ v,x.2=some v→v∈vs)∧YN (dA p n l) (vs.filter q) ((vs.drop x.1).filter q) x.2) (fun x=>vs.length-x.1) (0,none)
    ⟨g9 _,(fun _ h=>by cases h),rfl⟩ (cI rfl) (by simp only [pF,dU,dK,dp];exact a7) ?_
  rintro ⟨j,fst⟩ ⟨aO,a1,aw⟩ I;simp only [pF,dU,dK,dp] at aO a1 aw I ⊢;refine ck ?_;refine ae.cond C (fun az=>?_) (fun a'=>?_);rotate_left
  · have a':j=vs.length:=by simp [jm] at a';omega
    rw [eR ag,ap4] at aw;cases fst with
    | none=>
      have aw:vs.filter q=[]:=aw;rw [aw,qC,firstM,f9 C];have au:=Og (fun v=>bk (dA p n l v)) vs;refine cm I ?_;intro I;refine aa.jc aj I C C C C C C C C C C aV C au C ?_;refine dY ?_;exact Fin.bu I C (aR.cg (.cons aR.empty (.cons aM .nil))) (aH.all _) ⟨rfl,rfl⟩
    | some v=>
      obtain ⟨U,ad⟩:=aw;rw [U,ad,an3,f9 C];have au:=DE (fun v=>bk (dA p n l v)) v vs;rw [f9 (by simpa using a1 v C)] at au;refine cm I ?_;intro I;refine aa.jc aj I C C C C C C C C C C aV C au C ?_;refine dY ?_;exact Fin.bu I C aM (aH.all _) ⟨rfl,rfl⟩
  have az:j<vs.length:=by simpa [jm] using az
  obtain ⟨x,ab,ct⟩:=cf (f:=fun v:Nat=>af.int .i64 (v:Int)) az;have H6:=d6 ab;have YP:=eB x H6;have c6:=sW x YP;rw [drop_cons ab,ai8] at aw;unfold jm at *;refine di ?_;cases bp:q x with
  | false=>
    rw [bp,f0 bc] at aw;refine bG ?_;exact bF.mk (j+1,fst) I ⟨az,a1,aw⟩ cC a7 x'
  | true=>
    rw [bp,f9 C] at aw;cases fst with
    | none=>
      refine bG ?_
      exact bF.mk (j+1,some x) I ⟨az,(fun v h=>by cases h;exact H6),by
        have aw:vs.filter q=_:=aw
        refine ⟨?_,?_⟩
        · rw [aw];rfl
        · rw [aw];rfl⟩ cC a7 x'
    | some v=>
      obtain ⟨U,ad⟩:=aw;rw [aj6] at U;have au:=fun u hu=>by
        have:=DE (fun v=>bk (dA p n l v)) u vs;rw [f9 (by simpa using hu)] at this;exact this
      have AP:=au x H6;have B1:=au v (a1 v C);have heq:=tM (dA p n l x) (dA p n l v) (by have:=Oh x;unfold dA;omega) (by have:=Oh v;unfold dA;omega);cases aF:dA p n l x==dA p n l v with
      | false=>
        rw [aF] at heq U;rw [U,f7,f0 bc];refine ha I ?_;intro I;refine aL.jc aj I C C C C C C C C C C aV C AP C ?_;refine cm I ?_;intro I;refine aL.jc aj I C C C C C C C C C C aV C B1 C ?_;refine cD ?_;exact Fin.bu I C aM (aH.all _) ⟨rfl,rfl⟩
      | true=>
        rw [aF] at heq U;rw [f4] at U;refine ha I ?_;intro I;refine aL.jc aj I C C C C C C C C C C aV C AP C ?_;refine cm I ?_;intro I;refine aL.jc aj I C C C C C C C C C C aV C B1 C ?_;refine cD ?_;exact bF.mk (j+1,some v) I ⟨az,a1,U,ad⟩ cC a7 x'
theorem YQ (fv:af) (xs:List Int) (K:a6) (q:Int→Bool) (aB:xs.length<bt) (h:∀ x∈xs,dh d0 fv [bb x] K (fun o aN=>o = .ret (.bool (q x))∧aN=K)) :
  bz d0 40 [.ay 1 (xs.map bb) .aZ,fv] K (fun o aN=>o = .ret (.bool (xs.any q))∧aN=K):=by
 have:=KO fv xs (fun _=>K) (fun j=>match xs[j]? with|some x=>q x|none=>false) aB (fun j x ab _=>by rw [ab];exact h x (d6 ab));refine bz.mono this ?_;rintro o aN (⟨rfl,rfl,U⟩|⟨j,U,ad,al,rfl,rfl⟩)
 ·have:xs.any q=false:=by
   rw [List.any_eq_false];intro x ab;obtain ⟨i,aS⟩:=ag7 ab;have:=U i (re aS);rw [aS] at this;simpa using this
  rw [this];exact ⟨rfl,rfl⟩
 ·have ab:=f8 U
  rw [ab] at ad;rw [ae4.2 ⟨_,d6 ab,ad⟩];exact ⟨rfl,rfl⟩
def uC (p:bK) (n:Int) (l:List aq) (g:List bJ) (v:Nat):Bool:=(g.getD (leads g v).1.toNat default).ms==dA p n l v
theorem YR (p:bK) (n:Int) (l:List aq) (an cw cd:Nat) (vs:List Nat) (yg:p.methods.length≤16) (g:List bJ) (au:je g=true) (v:Nat) (ar:v∈vs) (YS:v<2^63) :
  dh d0 (.func 121 [] [.bs [iq g] 0,.bs [.ptr cd 0] 0]) [.int .i64 (v:Int)] (pF p n l an cw cd vs) (fun o K=>o = .ret (.bool (!uC p n l g v))∧K=pF p n l an cw cd vs):=by
 have ns:bt=1099511627776:=rfl;have rK:=MM g au v YS;obtain ⟨j,x,U,ad,-⟩:=MO au v;have hx:=AU n l v p.methods 0;have hN:x.ms.length≤16:=by
  have aA:=vP au ad;by_cases a8:x.atom = -1
  ·exact ((sM a8).1 aA).2.2.1
  ·have:=((oA a8).1 aA).2.2.2.2.2.2
   omega
 have heq:=tM x.ms (dA p n l v) ag (by unfold dA;omega);have xw:uC p n l g v=(x.ms==dA p n l v):=by
  unfold uC;rw [U,ac3,d5,ad];rfl
 have s8:=DE (fun v=>bk (dA p n l v)) v vs;rw [f9 (by simpa using ar)] at s8;have ct:(g.map eS)[j]? = some (eS x):=by rw [ad7,ad];rfl
 rw [U] at rK;refine dh.fa (first:=[]) (cap:=[.bs [iq g] 0,.bs [.ptr cd 0] 0]) ?_;refine bz.bn aj Tryz.func121 C C fun s I=>?_
 unfold pF dU dK dp iq at *;unfold eS hy at ct;rw [xw];cases aF:x.ms==dA p n l v with
 | true=>
  rw [aF] at heq;refine ha I ?_;intro I;refine aL.jc aj I C C C C C C C C C C aV C s8 C ?_;refine di ?_;exact Fin.bu I C aM (aH.all _) ⟨rfl,rfl⟩
 | false=>
  rw [aF] at heq;refine ha I ?_;intro I;refine aL.jc aj I C C C C C C C C C C aV C s8 C ?_;refine di ?_;exact Fin.bu I C aM (aH.all _) ⟨rfl,rfl⟩
theorem YT (p:bK) (aE:fD p) (eL:fs p=true) (n:Int) (l:List aq) (an cw cd:Nat) (hK:l.length≤7) (dP:iS (b3 p) l) (e2:l.Nodup) (gE:AV p n l) (g:List bJ) (au:je g=true) :
    bz d0 73 [.ptr cd 0,iq g] [dU p n (dp l) (.ay 0 [] .nil) an cw cd,(.own an,.map [])] (fun o K=>o = .ret (.bool (g.all (fun x=>decide (x.atom<(l.length:Int)))&&(hA (b3 p) l).all (uC p n l g)))∧∃ Dd m,K=[dU p n (dp l) Dd an cw cd,(.own an,.map m)]):=by
  have ns:bt=1099511627776:=rfl;have yk:2^l.length≤2^7:=af6 ag hK;obtain ⟨rp,nL⟩:=zQ au;have k4:=HY p aE eL n l an cw cd hK dP e2 gE;have fq:=A1 (b3 p) l;have eB:∀ v∈hA (b3 p) l,v<2^l.length:=fun v h=>Od h
  have yg:=(wI eL).1;generalize hA (b3 p) l=vs at *
  have oO:=YQ (.func 121 [] [.bs [iq g] 0,.bs [.ptr cd 0] 0]) (vs.map fun v:Nat=>(v:Int)) (pF p n l an cw cd vs) (fun z => !uC p n l g z.toNat) m9 (fun z bP=>by
    obtain ⟨v,ar,rfl⟩:=ad2.1 bP
    have:=eB v ar
    exact YR p n l an cw cd vs yg g au v ar ag)
  have DI:(vs.map fun v:Nat=>(v:Int)).map bb=jm vs:=by rw [aq3];rfl
  have YU:(vs.map fun v:Nat=>(v:Int)).any (fun z => !uC p n l g z.toNat) = !vs.all (uC p n l g):=by
    rw [List.any_map,List.all_eq_not_any_not,Bool.not_not];rfl
  rw [DI,YU] at oO;refine bz.bn aj Tryz.func73 C C fun s I=>?_
  unfold pF dU dK dp iq at *;refine hs ?_;refine ae.cl [2,3,7,8] C I (σ:=Nat) (fun j=>[(9,.int .i64 (j:Int))]) (fun _=>[dU p n (dp l) (.ay 0 [] .nil) an cw cd,(.own an,.map [])]) (fun j=>j≤g.length∧g.all (fun x=>decide (x.atom<(l.length:Int)))=(g.drop j).all (fun x=>decide (x.atom<(l.length:Int)))) (fun j=>g.length-j) 0 ⟨g9 _,rfl⟩ (cI C) (by simp only [dU,dK,dp];exact a7) ?_;rintro j ⟨aO,aw⟩ I;simp only [dU,dK,dp] at aO aw I ⊢;refine ck ?_;refine ae.cond C (fun az=>?_) (fun a'=>?_);rotate_left
  · have a':j=g.length:=by simp at a';omega
    rw [eR ag,an3] at aw;rw [aw,f4];refine bG ?_;refine aa.bZ rfl rfl rfl rfl rfl k4 I a7 ?_ (fun _ _ ⟨h,_⟩ _=>by cases h);rintro _ _ ⟨⟨⟩,rfl⟩ I;simp only [t8,d7] at I ⊢;refine cm I ?_;intro I;refine aa.bZ rfl rfl rfl rfl rfl oO I a7 ?_ (fun _ _ ⟨h,_⟩ _=>by cases h);rintro _ _ ⟨⟨⟩,rfl⟩ I;simp only [t8,d7] at I ⊢;refine dY ?_;exact Fin.bu I C (aR.of_eq bc) (aH.all _) ⟨rfl,_,_,rfl⟩
  have az:j<g.length:=by simpa using az
  obtain ⟨x,ab,ct⟩:=cf (f:=eS) az;rw [drop_cons ab,aj6] at aw;unfold eS hy bk at ct;refine JV I ?_;intro I;refine ae.cond C (fun aF=>?_) (fun aF=>?_)
  · rw [show decide (x.atom<(l.length:Int))=false by simp at aF ⊢;omega,f7] at aw
    rw [aw,f7];refine kx ?_;exact Fin.bu I C aM (aH.all _) ⟨rfl,_,_,rfl⟩
  · rw [show decide (x.atom<(l.length:Int))=true by simp at aF ⊢;omega,f4] at aw
    refine gg ?_;exact bF.mk (j+1) I ⟨az,aw⟩ cC a7 zm
theorem YV (v:Int×Int) (n:Int):aU d0 160 [fK v,.int .i64 n] (.bool (hj n v)):=by
 have an:=bC;refine aU.bn aj Tryz.func160 C C fun s I=>?_
 unfold fK
 repeat' (first|(with_reducible first|apply ae.seq|apply b0|apply fW|apply fz|apply hr|apply ae.ret|apply ae.skip|apply ae.block)|refine c1 C ?_|refine ae.cA ?_|refine aa.nil ?_|refine cx C ?_|refine aa.skip C C C ?_|(fail_if_success refine aa.same true C ?_);(fail_if_success refine aa.same false C ?_);refine aa.hq C C (fun h=>?_) (fun h=>?_)|refine ae.cond C (fun h=>?_) (fun h=>?_))
 all_goals (refine Fin.cL I C (aR.of_eq (ac5 af.bool ?_));clear I;simp only [hj,j8];grind)
theorem YW (fv:af) (q:Int→Bool) (xs:List Int) (aB:xs.length<bt) (h:∀ x∈xs,ee d0 fv [bb x] (.bool (q x))):aU d0 161 [.ay 1 (xs.map bb) .aZ,fv] (.ay 1 ((xs.filter q).map bb) .aZ):=by
 have an:=bC;refine aU.bn aj Tryz.func161 C C fun s I=>?_
 refine hs ?_;refine ae.ik I 3 1 0 fun I=>?_
 refine ae.cl [0,1,8,9] C I (σ:=Nat×List Int×bN) (fun p=>[(10,.int .i64 (p.1:Int)),(5,.ay 1 (p.2.1.map bb) p.2.2)]) (fun p=>[(p.2.2,.row 3 1 p.2.1.length)]) (fun p=>p.1≤xs.length∧p.2.1.length≤p.1∧xs.filter q=p.2.1++(xs.drop p.1).filter q) (fun p=>xs.length-p.1) (0,[],.nil)
  ⟨g9 _,i0 _,rfl⟩ ⟨⟨_,rfl,aM⟩,⟨_,rfl,aR.nil hh⟩,trivial⟩ a7 ?_
 rintro ⟨j,out,gk⟩ ⟨aO,gh,aw⟩ I;simp only at aO gh aw I ⊢;refine ck ?_;refine ae.cond C (fun az=>?_) (fun a'=>?_);rotate_left
 ·have a':j=xs.length:=by simp at a';omega
  rw [eR ag,ap4,d8] at aw;rw [aw];have cu:=Gb (out.map bb) gk;refine di ?_;exact Fin.cL I C aR.aZ
 have az:j<xs.length:=by simpa using az
 obtain ⟨x,ab,ct⟩:=cf (f:=bb) az;have ar:=h x (d6 ab);rw [drop_cons ab,ai8] at aw
 try rw [bb] at ar ct
 refine di ?_;cases bp:q x with
 | true=>
  rw [bp] at aw ar;rw [f9 C] at aw;refine bG ?_;refine aa.gq aj I C C C C C C C ef C C C C C C C C aV h7 kX ag (fun b2 I=>?_);refine hI ?_;exact bF.mk (j+1,out++[x],.own b2) I ⟨az,by simp;omega,by rw [aw];simp⟩ xk (by show aH _ [(_,.row _ _ (out++[x]).length)] _;rw [d9];exact a7) q5
 | false=>
  rw [bp] at aw ar;rw [f0 bc] at aw;refine jF ?_;exact bF.mk (j+1,out,gk) I ⟨az,by show out.length≤j+1;omega,aw⟩ cC a7 q5
theorem YX (fv:af) (q:(Int×Int)→Bool) (xs:List (Int×Int)) (aB:xs.length<bt) (h:∀ x∈xs,ee d0 fv [fK x] (.bool (q x))):aU d0 158 [.ay 2 (xs.map fK) .aZ,fv] (.ay 2 ((xs.filter q).map fK) .aZ):=by
 have an:=bC;refine aU.bn aj Tryz.func158 C C fun s I=>?_
 refine hs ?_;refine ae.ik I 122 2 0 fun I=>?_
 refine ae.cl [0,1,8,9] C I (σ:=Nat×List (Int×Int)×bN) (fun p=>[(10,.int .i64 (p.1:Int)),(5,.ay 2 (p.2.1.map fK) p.2.2)]) (fun p=>[(p.2.2,.row 122 2 p.2.1.length)]) (fun p=>p.1≤xs.length∧p.2.1.length≤p.1∧xs.filter q=p.2.1++(xs.drop p.1).filter q) (fun p=>xs.length-p.1) (0,[],.nil)
  ⟨g9 _,i0 _,rfl⟩ ⟨⟨_,rfl,aM⟩,⟨_,rfl,aR.nil hh⟩,trivial⟩ a7 ?_
 rintro ⟨j,out,gk⟩ ⟨aO,gh,aw⟩ I;simp only at aO gh aw I ⊢;refine ck ?_;refine ae.cond C (fun az=>?_) (fun a'=>?_);rotate_left
 ·have a':j=xs.length:=by simp at a';omega
  rw [eR ag,ap4,d8] at aw;rw [aw];have cu:=Tx (out.map fK) gk;refine di ?_;exact Fin.cL I C aR.aZ
 have az:j<xs.length:=by simpa using az
 obtain ⟨x,ab,ct⟩:=cf (f:=fK) az;have ar:=h x (d6 ab);rw [drop_cons ab,ai8] at aw
 try rw [fK] at ar ct
 refine fP ?_;cases bp:q x with
 | true=>
  rw [bp] at aw ar;rw [f9 C] at aw;refine bG ?_;refine aa.gq aj I C C C C C C C ef C C C C C C C C aV h7 (by show (_+1)*16≤_;omega) ag (fun b2 I=>?_);refine hI ?_;exact bF.mk (j+1,out++[x],.own b2) I ⟨az,by simp;omega,by rw [aw];simp⟩ xk (by show aH _ [(_,.row _ _ (out++[x]).length)] _;rw [d9];exact a7) q5
 | false=>
  rw [bp] at aw ar;rw [f0 bc] at aw;refine jF ?_;exact bF.mk (j+1,out,gk) I ⟨az,by show out.length≤j+1;omega,aw⟩ cC a7 q5
def l7 (p:bK) (mb:Nat):List af:=cV p++(fu (b3 p)++[.map mb])
theorem YY (p:bK) (mb:Nat) (n:Int):aU d0 157 [.bs (l7 p mb) 0,.int .i64 n] (.bool (l6 p n)):=by
 have an:=bC;refine aU.bn aj Tryz.func157 C C fun s I=>?_
 unfold l7 cV fu l6 bk;by_cases U:n≥0
 ·rw [i6 U,f4]
  refine dz ?_;refine aa.dW 11 C (i6 U) ?_;refine dY ?_;refine Fin.cL I C (aR.of_eq (ac5 af.bool ?_));rw [f5]
 ·rw [H1 U,f7]
  refine dz ?_;refine aa.dc 11 C (H1 U) ?_;refine dT ?_;exact bA I
theorem YZ (n:Int):aU d0 157 [.pJ,.int .i64 n] (.bool false):=by
 have an:=bC;refine aU.bn aj Tryz.func157 C C fun s I=>?_
 refine gO ?_;exact bA I
theorem Y0 (bf:List ev) (v:Int×Int):ee d0 (.func 159 [] [.bs [hb bf] 0]) [fK v] (.bool (hj bf.length v)):=by
 have an:=bC;refine ee.fa (first:=[]) (cap:=[.bs [hb bf] 0]) ?_;refine aU.bn aj Tryz.func159 C C fun s I=>?_
 have h:=YV v (bf.map iG).length;rw [show hj ((bf.map iG).length:Int) v=hj bf.length v by rw [f5]] at h;unfold fK at *;refine cD ?_;exact bA I
def uq (p:bK) (bf:List ev) (n:Int) (args:List (Int×Int)):Bool:=l6 p n&&(decide ((args.length:Int)=p.cR.getD n.toNat 0)&&nD (b3 p) bf args)
theorem Y1 (w:bw):il w (.mk 1 0 [] 0 0 [])=true:=by
 unfold il;rw [e0,f0 bc,f9 (by rfl),gQ]
theorem Y2 (w:bw) (bf:List ev) (args:List (Int×Int)):(m8 w (.mk 1 0 [] 0 0 []) bf args).2=if nD w bf args then 0 else 2:=by
 unfold m8;rw [Y1,f4,show decide (kY (.mk 1 0 [] 0 0 [])≤(args.length:Int))=true by simp [kY,iF,aq.c7,aq.op],am8];split<;>rfl
theorem Y3 (p:bK) (aE:fD p) (bo:fs p=false):aU d0 118 [cW p] (.pJ):=by
 have an:=bC;refine aU.bn aj Tryz.func118 C C fun s I=>?_
 have hw:=HN p aE;rw [bo] at hw;simp only [ad5,af5] at hw;unfold cW cV at *;refine fP ?_;exact bA I
theorem Y4 (p:bK) (aE:fD p) (eL:fs p=true) (mb:Nat) (n:Int) (bf:List ev) (args:List (Int×Int)) (aB:bf.length<bt) (ah:∀ o∈bf,o.bj.length<bt) (a8:args.length<bt) :
  aU d0 119 [.bs (l7 p mb) 0,hb bf,.int .i64 n,kE args] (.bool (uq p bf n args)):=by
 have an:=bC;have Oi:=YY p mb n;have Y5:=YX (.func 159 [] [.bs [hb bf] 0]) (hj bf.length) args a8 (fun v _=>Y0 bf v);have pG:=Gl (b3 p) (uA eL) (.mk 1 0 [] 0 0 []) dE bf args aB ah a8;have Y6:=Y2 (b3 p) bf args;have mI:uq p bf n args=(l6 p n&&(decide ((args.length:Int)=p.cR.getD n.toNat 0)&&nD (b3 p) bf args)):=rfl;refine aU.bn aj Tryz.func119 C C fun s I=>?_
 rw [aq.cE] at pG;unfold aq.cells fw at pG;cases au:l6 p n with
 | false=>
  rw [au] at Oi mI;rw [mI,f7];unfold l7 cV fu hb kE at *;refine cD ?_;exact bA I
 | true=>
  rw [au] at Oi mI;rw [f4] at mI;unfold l6 at au;simp only [f6,g8] at au;obtain ⟨c,rfl⟩:∃ c:Nat,n=c:=⟨n.toNat,by omega⟩;obtain ⟨a,s8,abr⟩:=cf (f:=bb) (l:=p.cR) (show c<p.cR.length by omega);have kr:p.cR.getD ((c:Nat):Int).toNat 0=a:=by rw [ac3,d5,s8];rfl
  rw [kr] at mI;unfold l7 cV fu hb kE bk at *;refine cD ?_;by_cases eZ:(args.length:Int)=a;rotate_left
  ·refine aa.dW 28 C cO ?_
   rw [mI,H1 eZ,f7];refine dT ?_;exact bA I
  refine aa.dc 28 C cO ?_;rw [i6 eZ,f4] at mI;cases gE:args.all (hj bf.length) with
  | false=>
   have Y7:nD (b3 p) bf args=false:=by
    unfold nD;rw [gE];simp
   rw [Y7] at mI;rw [mI];have az:(args.filter (hj bf.length)).length<args.length:=by
    rw [List.length_filter_lt_length_iff_exists];obtain ⟨x,ab,h⟩:=List.all_eq_false.1 gE;exact ⟨x,ab,h⟩
   refine di ?_;refine ae.cond C (fun _=>?_) (fun h=>by simp at h;omega);refine gO ?_;exact bA I
  | true=>
   have jj:args.filter (hj bf.length)=args:=List.filter_eq_self.2 (ae'.1 gE);rw [jj] at Y5;rw [Y6] at pG;refine di ?_;refine ae.cond C (fun h=>by simp at h) (fun _=>?_);cases c6:nD (b3 p) bf args with
   | false=>
    rw [c6] at mI pG;simp only [ad5,af5] at pG;rw [mI];refine p6 ?_;refine aL.iO C C C C C pG (.cons aM (.cons (aR.agg (.cons aM (.cons aM (.cons aR.empty (.cons aM (.cons aM (.one aR.empty))))))) (.cons aM (.one aM)))) ?_;refine ht ?_;exact bA I
   | true=>
    rw [c6] at mI pG;simp only [ae2] at pG;rw [mI];refine p6 ?_;refine aL.iO C C C C C pG (.cons aM (.cons (aR.agg (.cons aM (.cons aM (.cons aR.empty (.cons aM (.cons aM (.one aR.empty))))))) (.cons aM (.one aM)))) ?_;refine ht ?_;exact bA I
def mJ (n:Int):Nat→List gP→List Nat
 | _,[]=>[]
 | i,m::r=>if m.gen=n then i::mJ n (i+1) r else mJ n (i+1) r
theorem Oj (n:Int):∀ (ms:List gP) (i:Nat),(mJ n i ms).length≤ms.length
  | [],_=>i0 _
  | m::r,i=>by
    have:=Oj n r (i+1);rw [mJ];split<;>simp<;>omega
theorem Ol (n:Int):∀ (ms:List gP) (i:Nat) (j:Nat),j∈mJ n i ms→i≤j∧j<i+ms.length
  | [],i,j,h=>by rw [mJ] at h;cases h
  | m::r,i,j,h=>by
    rw [mJ] at h;have aX:=Ol n r (i+1) j;rw [i7];split at h
    · rcases ad4.1 h with rfl|h
      · omega
      · have:=aX h;omega
    · have:=aX h;omega
def qM (i:Nat):af := .int .i64 (i:Int)
theorem Y8 (p:bK) (aE:fD p) (mb:Nat) (n:Int):xl d0 196 [] [.bs [.bs (l7 p mb) 0] 0,.bs [.int .i64 n] 0] [] qM (mJ n 0 p.methods):=by
 have an:=bC;have hx:=aE.xK;intro l Go fm fr om K bm;refine bz.bn aj Tryz.func196 C C fun s I=>?_
 rw [d7] at I ⊢;unfold l7 cV fu at *;refine hs ?_;refine ae.cl [0,1,2,10,11] C I (σ:=Nat×a6) (fun q=>[(12,.int .i64 (q.1:Int))]) (fun q=>q.2) (fun q=>q.1≤p.methods.length∧Go (mJ n q.1 (p.methods.drop q.1)) q.2) (fun q=>p.methods.length-q.1) (0,K) ⟨g9 _,bm⟩ (cI C) (aH.all _) ?_;rintro ⟨j,iw⟩ ⟨aO,dZ⟩ I
 try simp only at aO dZ I ⊢
 refine ck ?_;refine ae.cond C (fun az=>?_) (fun a'=>?_);rotate_left
 ·have a':j=p.methods.length:=by simp at a';omega
  rw [eR ag,mJ] at dZ;refine eH ?_;exact Fin.bu I C aM (aH.all _) (.inl ⟨rfl,.inl dZ⟩)
 have az:j<p.methods.length:=by simpa using az
 obtain ⟨m,ab,ct⟩:=cf (f:=jf) az;rw [drop_cons ab,mJ] at dZ;unfold jf oz at ct
 repeat (first|(refine B8 I ?_;clear I;intro I)|refine aa.dO aj I rfl rfl rfl rfl rfl rfl rfl (fun cy I=>?_))
 by_cases au:m.gen=n
 ·rw [f9 au] at dZ
  have ax:=om j _ iw dZ;unfold qM at ax;refine aa.dW 21 C (by simpa using au) ?_;refine dD ?_;refine aa.gr C C C C C C ax I (aH.all _).there ?_ ?_
  ·rintro x aN (⟨⟨⟩,h⟩|⟨⟨⟩,h⟩|⟨_,⟨⟩,_⟩) I
   ·refine bG ?_
    exact bF.mk (j+1,aN) I ⟨az,h⟩ cC (aH.jd (aH.ez aN)) s6
   ·refine fB ?_
    exact Fin.bu I C aM (aH.jd (aH.ez aN)) (.inl ⟨rfl,.inr h⟩)
  ·rintro x aN (⟨h,_⟩|⟨h,_⟩|⟨v,⟨⟩,h⟩) I
   ·cases h
   ·cases h
   exact Fin.e6 I aM (aH.jd (aH.ez aN)) (.inr ⟨_,rfl,h⟩)
 ·rw [f0 au] at dZ
  refine aa.dc 21 C (by simpa using au) ?_;refine bG ?_;exact bF.mk (j+1,iw) I ⟨az,dZ⟩ cC (aH.all _).there s6
theorem Y9 (p:bK) (mb:Nat) (n:Int):aU d0 163 [.bs (l7 p mb) 0,.int .i64 n] (.func 196 [] [.bs [.bs (l7 p mb) 0] 0,.bs [.int .i64 n] 0]):=by
 have an:=bC;refine aU.bn aj Tryz.func163 C C fun s I=>?_
 refine gO ?_;exact bA I
theorem Y' (f:FuncId) (cap:List af) (xs:List Nat) (aB:xs.length<bt) (nx:xl d0 f [] cap [] qM xs):bz d0 195 [.ay 0 [] .nil,.func f [] cap] [] (fun o K=>o = .ret (.ay 1 (xs.map qM) .aZ)∧K=[]):=by
 have an:=bC;refine bz.bn aj Tryz.func195 C C fun s I=>?_
 repeat (first|(refine B' ?_)|refine aa.jE I C C C C C C (fun b I=>?_)|(refine Ca ?_))
 obtain ⟨dL,rfl⟩:∃ x,x=b:=⟨_,rfl⟩;refine ae.ik I 3 1 0 fun I=>?_
 refine ae.oL I [.ay 1 [] .nil] (kb:=dL) aV (.one (aR.nil hh)) (fun I=>?_);refine ae.Fk I C dE nx .nil (fun rem K=>∃ out own,out.length+rem.length=xs.length∧xs=out++rem∧K=[(.own dL,.box 23 [.ay 1 (out.map qM) own]),(own,.row 3 1 out.length)]) (fun _ _=>False) (fun _ _=>False) ⟨[],.nil,by simp,rfl,rfl⟩ ?_ ?_ (fun _ _ h=>h.elim) (fun _ _ h=>h.elim)
 ·rintro s₁ x rem K ⟨out,own,U,ad,rfl⟩ I
  rw [i7] at U;unfold qM at I ⊢;refine ha I ?_;intro I;refine aa.gq aj I C C C C C C C ef C C C C C C C C aV h7 kX ag (fun b2 I=>?_);refine cm I ?_;intro I;exact At.mk [(.own dL,.box 23 [.ay 1 ((out++[x]).map qM) (.own b2)]),(.own b2,.row 3 1 (out++[x]).length)] I (by simp only [qM,ac2,ac0,ae3,d9,i7,ae1];exact a7) ⟨out++[x],.own b2,by simp;omega,by rw [ad];simp,rfl⟩
 ·rintro K ⟨out,own,U,ad,rfl⟩ I
  rw [d8] at ad;subst ad;refine cm I ?_;intro I;exact Fin.bu I C aR.aZ .nil ⟨rfl,rfl⟩
def A3 (p:bK) (bf:List ev) (args:List (Int×Int)) (i:Int):Bool:=(m8 (b3 p) (p.methods.getD i.toNat default).fact bf args).1&&(m8 (b3 p) (p.methods.getD i.toNat default).fact bf args).2==0
def H7 (p:bK) (bf:List ev) (n:Int) (args:List (Int×Int)):List Int:=((mJ n 0 p.methods).map fun i:Nat=>(i:Int)).filter (A3 p bf args)
theorem Za (p:bK) (aE:fD p) (eL:fs p=true):bz d0 118 [cW p] [] (fun o K=>∃ mb,o = .ret (.bs (l7 p mb) 0)∧K=[(.own mb,.map [])]):=by
 have hw:=HN p aE;rw [eL,f9 C,f9 C] at hw;refine bz.bn aj Tryz.func118 C C fun s I=>?_
 unfold cW cV l7 fw fu at *;refine fP ?_;refine aa.q1 I C C C C (fun mb I=>?_);refine dY ?_;exact Fin.bu I C aM (aH.all _) ⟨mb,rfl,rfl⟩
theorem Zb (p:bK) (aE:fD p) (eL:fs p=true) (mb:Nat) (bf:List ev) (args:List (Int×Int)) (aB:bf.length<bt) (ah:∀ o∈bf,o.bj.length<bt) (a8:args.length<bt) (j:Nat) (aO:j<p.methods.length):ee d0 (.func 164 [] [.bs [.bs (l7 p mb) 0] 0,.bs [hb bf] 0,.bs [kE args] 0]) [.int .i64 (j:Int)] (.bool (A3 p bf args j)):=by
 have an:=bC;refine ee.fa (first:=[]) (cap:=[.bs [.bs (l7 p mb) 0] 0,.bs [hb bf] 0,.bs [kE args] 0]) ?_;refine aU.bn aj Tryz.func164 C C fun s I=>?_
 obtain ⟨m,ab,ct⟩:=cf (f:=jf) aO;have fV:=d6 ab;have pG:=Gl (b3 p) (uA eL) m.fact (by have:=aE.facts m fV;omega) bf args aB ah a8;have ir:A3 p bf args j=((m8 (b3 p) m.fact bf args).1&&(m8 (b3 p) m.fact bf args).2==0):=by
  unfold A3;rw [ac3,d5,ab];rfl
 rw [aq.cE] at pG;unfold aq.cells fw at pG;unfold jf oz at ct;unfold l7 cV fu hb kE at *;rw [ir];generalize m8 (b3 p) m.fact bf args=r at *;obtain ⟨hU,b7⟩:=r;cases hU with
 | false=>
  refine cD ?_;exact bA I
 | true=>
  refine cD ?_;exact bA I
theorem Zc (f:FuncId) (cap:List af) (xs:List Nat) (aB:xs.length<bt) (nx:xl d0 f [] cap [] qM xs):aU d0 162 [.func f [] cap] (.ay 1 (xs.map qM) .aZ):=by
 have aF:=bz.FQ (Y' f cap xs aB nx);refine aU.bn aj Tryz.func162 C C fun s I=>?_
 refine cD ?_;exact bA I
theorem Zd (p:bK) (aE:fD p) (eL:fs p=true) (mb:Nat) (n:Int) (bf:List ev) (args:List (Int×Int)) (aB:bf.length<bt) (ah:∀ o∈bf,o.bj.length<bt) (a8:args.length<bt) :
    aU d0 120 [.bs (l7 p mb) 0,hb bf,.int .i64 n,kE args] (bk (H7 p bf n args)):=by
  have an:=bC;have hx:=aE.xK;have gh:=Oj n p.methods 0;have abt:=Y9 p mb n;have Dw:=Zc 196 [.bs [.bs (l7 p mb) 0] 0,.bs [.int .i64 n] 0] (mJ n 0 p.methods) ag (Y8 p aE mb n)
  have H8:=YW (.func 164 [] [.bs [.bs (l7 p mb) 0] 0,.bs [hb bf] 0,.bs [kE args] 0]) (A3 p bf args) ((mJ n 0 p.methods).map fun i:Nat=>(i:Int)) m9 (fun x ab=>by
    obtain ⟨j,aO,rfl⟩:=ad2.1 ab
    have:=(Ol n p.methods 0 j aO).2
    exact Zb p aE eL mb bf args aB ah a8 j ag)
  have he:((mJ n 0 p.methods).map fun i:Nat=>(i:Int)).map bb=(mJ n 0 p.methods).map qM:=by rw [aq3];rfl
  rw [he] at H8;refine aU.bn aj Tryz.func120 C C fun s I=>?_
  unfold H7 bk;refine cD ?_;exact bA I
def s' (p:bK) (bf:List ev) (n:Int) (args:List (Int×Int)):Bool:=fs p&&uq p bf n args
def DJ (p:bK) (bf:List ev) (n:Int) (args:List (Int×Int)):af := .cg [if s' p bf n args then bk (H7 p bf n args) else .ay 0 [] .nil,.int .i64 (if s' p bf n args then 0 else 2)]
theorem Ze (n:Int) (bf:List ev) (args:List (Int×Int)):aU d0 119 [.pJ,hb bf,.int .i64 n,kE args] (.bool false):=by
 have au:=YZ n;refine aU.bn aj Tryz.func119 C C fun s I=>?_
 unfold hb kE;refine cD ?_;exact bA I
theorem Zf (p:bK) (aE:fD p) (n:Int) (bf:List ev) (args:List (Int×Int)) (aB:bf.length<bt) (ah:∀ o∈bf,o.bj.length<bt) (a8:args.length<bt):aU d0 72 [cW p,hb bf,.int .i64 n,kE args] (DJ p bf n args):=by
 have an:=bC;refine aU.bn aj Tryz.func72 C C fun s I=>?_
 have ir:s' p bf n args=(fs p&&uq p bf n args):=rfl;unfold DJ;cases eL:fs p with
 | false=>
  rw [eL,f7] at ir;rw [ir];have aC:=Y3 p aE eL;have aF:=Ze n bf args;unfold cW cV at *;refine cD ?_;exact bA I
 | true=>
  rw [eL,f4] at ir;have aC:=Za p aE eL;unfold cW cV at *;refine dz ?_;refine aa.bZ rfl rfl rfl rfl rfl aC I .nil ?_ (fun _ _ h _=>by obtain ⟨_,h,_⟩:=h;cases h);rintro _ _ ⟨mb,⟨⟩,rfl⟩ I;have aF:=Y4 p aE eL mb n bf args aB ah a8;have n2:=Zd p aE eL mb n bf args aB ah a8;cases mI:uq p bf n args with
  | false=>
   rw [mI] at ir aF;rw [ir];refine cD ?_;exact bA I
  | true=>
   rw [mI] at ir aF;rw [ir];refine di ?_;exact bA I
end Go.Proofs.YtnafpeohfbglmaaGreat
