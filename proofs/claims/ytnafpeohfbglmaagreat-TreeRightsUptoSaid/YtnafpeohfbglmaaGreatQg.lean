import Derived.Test.YtnafpeohfbglmaaGreatQf
import Derived.Laws.Bits64
set_option linter.unusedVariables false
set_option linter.unusedSimpArgs false
set_option maxRecDepth 100000
set_option maxHeartbeats 4000000
open List (all_cons all_nil any_eq_true append_nil cons_append drop filter_cons filter_nil foldl_cons getD_eq_getElem?_getD getElem?_eq_getElem getElem?_map length_append length_cons length_map length_nil length_set map_append map_cons map_map map_nil map_set map_take mem_append mem_cons mem_cons_of_mem mem_cons_self mem_map mem_of_getElem? mem_singleton nil_append range replicate take_length take_zero)
open Nat (eq_of_beq_eq_true le_refl lt_of_le_of_lt mul_one zero_add zero_le)
open Bool (and_eq_true false_eq_true)
open Int (ofNat toNat_natCast)
open Option (getD_some)
open Array (getD_eq_getD_getElem? toArray_toList)
theorem Nh {p:Prop} (h:p:=by rw [aE,Int.toNat_natCast,List.getD_eq_getElem?_getD,List.getElem?_eq_getElem (by omega)];rfl):p:=h
theorem oc {p:Prop} (h:p:=by show p.methods.length-(j+1)<p.methods.length-j;omega):p:=h
theorem A8 {p:Prop} (h:p:=by (rw [ek (by omega) (by omega),Xa])):p:=h
theorem w1 {p:Prop} (h:p:=by show vs.length-(j+1)<vs.length-j;omega):p:=h
theorem yz {p:Prop} (h:p:=by show (_+1)*80≤_;omega):p:=h
namespace Go.Proofs.YtnafpeohfbglmaaGreat
open Go.cU Go.eb
def od (N:List b0) (aq jx il:Nat):af := .func 110 [] [.bw [.map aq] 0,.bw [.aA 4 (N.map eW) .bb] 0,.ptr jx 0,.ptr il 0]
def r5 (N:List b0) (aq jx il:Nat) (num:List (af×af)) (order:List Int) (own:bL):a8:=
 [(.own jx,.box 163 [od N aq jx il]),(.own il,.box 23 [.aA 1 (order.map ba) own]),(own,.row 3 1 order.length),(.own aq,.map num)]
theorem Xb (N:List b0) (aU:N.length≤1000) (e8:Down N) (aq jx il:Nat):∀ (k a:Nat),a<N.length→N.length-a≤k→∀ (num:List (af×af)) (order path:List Int) (own:bL),pX num order path→o4 N.length order→(∀ x∈path,x<a) →
    dp Tryz.prog (od N aq jx il) [.int .i64 (a:Int)] (r5 N aq jx il num order own) (fun o K=>∃ uN cQ,pX uN (meet N k order a) path∧o = .ret (.cp [])∧K=r5 N aq jx il uN (meet N k order a) cQ):=by
  have nc:bz=1099511627776:=rfl;intro k
  induction k with
  | zero=>intro a U ad;omega
  | succ k a1=>
    intro a a7 aE num order path own n3 A9 HP;have hlen:=A9.len;obtain ⟨x,ab,bJ⟩:=b1 (f:=eW) a7;have oT:=Ng (k:=k) (order:=order) ab;have j4:=n3.get a;refine dp.fk (first:=[]) (cap:=[.bw [.map aq] 0,.bw [.aA 4 (N.map eW) .bb] 0,.ptr jx 0,.ptr il 0]) ?_;refine bE.bh ai Tryz.func110 C C fun s I=>?_
    unfold r5 od at *;refine jS ?_;cases aC:order.contains (a:Int) with
    | true=>
      rw [aC,if_pos C] at j4;rw [aC,if_pos C] at oT;rw [oT];refine aa.jr ai I C C C C C C C C C C aY C j4 C ?_;refine eh ?_;exact Fin.bu I C aL (aH.all _) ⟨num,own,n3,rfl,rfl⟩
    | false=>
    have aD:path.contains (a:Int)=false:=by
      cases h:path.contains (a:Int) with
      | false=>rfl
      | true=>have:=HP _ (List.contains_iff_mem.1 h);omega
    rw [aC,if_neg a',aD,if_neg a'] at j4;rw [aC,if_neg a'] at oT;obtain ⟨Ni,sK,Nj⟩:=n3.enter aC;refine aa.jr ai I C C C C C C C C C C aY C j4 C ?_;refine bC ?_;refine aa.mE ai I C C (.inl C) C C C C C C aY C sK (fun I=>?_);unfold eW gZ at bJ;refine dF ?_;refine ae.xM (σ:=List (af×af)×bL) (fun _=>[(0,.int .i64 (a:Int)),(1,.bw [.map aq] 0),(2,.bw [.aA 4 (N.map eW) .bb] 0),(3,.ptr jx 0),(4,.ptr il 0)]) (fun z=>r5 N aq jx il z.1 (if x.atom≥0 then meet N k (meet N k order x.yes) x.no else order) z.2) (fun z=>pX z.1 (if x.atom≥0 then meet N k (meet N k order x.yes) x.no else order) ((a:Int)::path)) ?_ ?_
    · refine ae.cond C (fun dg=>?_) (fun dg=>?_)
      · have dg:x.atom≥0:=by simpa using dg
        obtain ⟨d1,d2,d3,d4⟩:=e8 a x ab dg;obtain ⟨y,ay⟩:∃ y:Nat,x.yes=y:=⟨x.yes.toNat,by omega⟩;obtain ⟨z,bO⟩:∃ z:Nat,x.no=z:=⟨x.no.toNat,by omega⟩;rw [if_pos dg];simp only [ay,bO] at bJ ⊢;have qf:=yy e8 k y ag ag order A9
        have i1:=a1 y ag ag Ni order ((a:Int)::path) own Nj A9 (fun p aD=>by
          rcases mem_cons.1 aD with rfl|aD
          · omega
          · have:=HP p aD;omega)
        have i2:=fun DN s4 h=>a1 z ag ag DN (meet N k order y) ((a:Int)::path) s4 h qf.1 (fun p aD=>by
          rcases mem_cons.1 aD with rfl|aD
          · omega
          · have:=HP p aD;omega)
        refine sN I ?_;intro I;refine aN.gH rfl rfl rfl rfl rfl rfl rfl i1 I aX ?_ (fun _ _ h _=>by obtain ⟨_,_,_,h,_⟩:=h;cases h);rintro _ _ ⟨DN,s4,yA,⟨⟩,rfl⟩ I;simp only [nil_append,cons_append] at I ⊢;refine sN I ?_;intro I;refine aN.gH rfl rfl rfl rfl rfl rfl rfl (i2 DN s4 yA) I aX ?_ (fun _ _ h _=>by obtain ⟨_,_,_,h,_⟩:=h;cases h);rintro _ _ ⟨DO,uf,tV,⟨⟩,rfl⟩ I;simp only [nil_append,cons_append] at I ⊢;skip;exact lJ.mk (DO,uf) I tV (cq C) (by simp only [r5,od];exact aX)
      · have dg:¬ x.atom≥0:=by simpa using dg
        rw [if_neg dg];refine gd ?_;exact lJ.mk (Ni,own) I Nj (cq C) (by simp only [r5,od];exact aX)
    rintro ⟨DN,s4⟩ yA I;rw [oT];simp only at yA I ⊢;generalize vD:(if x.atom≥0 then meet N k (meet N k order x.yes) x.no else order)=order2 at *;have uB:o4 N.length order2∧∀ y∈order2,y∈order∨(a:Int)<y:=by
      rw [← vD];split
      · rename_i dg
        obtain ⟨d1,d2,d3,d4⟩:=e8 a x ab dg;obtain ⟨y,ay⟩:∃ y:Nat,x.yes=y:=⟨x.yes.toNat,by omega⟩;obtain ⟨z,bO⟩:∃ z:Nat,x.no=z:=⟨x.no.toNat,by omega⟩;rw [ay,bO];obtain ⟨pP,bT⟩:=yy e8 k y ag ag order A9;obtain ⟨ff,HO⟩:=yy e8 k z ag ag _ pP;refine ⟨ff,fun u hu=>?_⟩;rcases HO u hu with h|h
        · rcases bT u h with h|h
          · exact .inl h
          · exact .inr ag
        · exact .inr ag
      · exact ⟨A9,fun y h => .inl h⟩
    have wI:order2.contains (a:Int)=false:=by
      cases h:order2.contains (a:Int) with
      | false=>rfl
      | true=>
        rcases uB.2 _ (List.contains_iff_mem.1 h) with h|h
        · rw [List.contains_iff_mem.2 h] at aC;cases aC
        · omega
    have eS:=uB.1.len;obtain ⟨DO,tV,Xc⟩:=yA.leave wI;unfold r5 od at I ⊢;refine cI I ?_;intro I;refine aa.mE ai I C C (.inl C) C C C C C C aY C (by rw [length_map];exact tV) (fun I=>?_);refine cI I ?_;intro I;refine aa.gb ai I C C C C C C C en C C C C C C C C aY hi j9 ag (fun bT I=>?_);refine cI I ?_;intro I;exact Fin.bu (K:=r5 N aq jx il DO (order2++[(a:Int)]) (.own bT)) I C aL (by simp only [r5,od,map_append,map_cons,map_nil,length_append,length_cons,length_nil];exact aX) ⟨DO,.own bT,Xc,rfl,rfl⟩
def uO (xs:List Int):Nat→List (Nat×Int)
 | 0=>[]
 | m+1=>(m,xs.getD m 0)::uO xs m
def HQ (p:Nat×Int):af := .int .i64 (p.1:Int)
def HR (p:Nat×Int):af := .int .i64 p.2
theorem Nk (xs:List Int):∀ m,m≤xs.length→(uO xs m).map (·.2)=(xs.take m).reverse
  | 0,_=>by rw [uO,take_zero];rfl
  | m+1,h=>by
    obtain ⟨x,ab⟩:∃ x,xs[m]? = some x:=⟨_,getElem?_eq_getElem ag⟩;rw [uO,map_cons,Nk xs m ag,List.take_add_one,ab,List.reverse_append,getD_eq_getElem?_getD,ab];rfl
theorem Xd (xs:List Int) (aB:xs.length<bz):Gr Tryz.prog 152 [] [.bw [.aA 1 (xs.map ba) .bb] 0] [] HQ HR (fun _=>True) (uO xs xs.length):=by
 have nc:bz=1099511627776:=rfl;intro l Go fA fI oG K bg;refine bE.bh ai Tryz.func152 C C fun s I=>?_
 rw [nil_append] at I ⊢;have jF:((xs.map ba).length:Int)=(xs.length:Int):=by rw [length_map]
 have hw:IntKind.wrap .i64 ((xs.length:Int)-1)=(xs.length:Int)-1:=ek ag ag;refine gm ?_;refine ae.b4 [0,1] C I (σ:=Nat×a8) (fun q=>[(3,.int .i64 ((q.1:Int)-1))]) (fun q=>q.2) (fun q=>q.1≤xs.length∧Go (uO xs q.1) q.2) (fun q=>q.1) (xs.length,K) ⟨le_refl _,bg⟩ (by repeat (first|exact trivial|refine ⟨⟨_,rfl,aL⟩,?_⟩|refine ⟨⟨_,rfl,aS.of_eq (by (rw [jF,hw]))⟩,?_⟩)) (aH.all _) ?_;rintro ⟨jq,iF⟩ ⟨hm,dz⟩ I;simp only at hm dz I ⊢;cases jq with
 | zero=>
  refine bC ?_;exact Fin.bu I C aL (aH.all _) (.inl ⟨rfl,.inl dz⟩)
 | succ m=>
 have sH:(((m+1:Nat):Int)-1)=(m:Int):=by omega
 simp only [sH];obtain ⟨x,ab,bJ⟩:=b1 (f:=ba) (show m<xs.length by omega);rw [uO,show xs.getD m 0=x by rw [getD_eq_getElem?_getD,ab];rfl] at dz;have ay:=oG _ _ iF dz;unfold HQ HR at ay;unfold ba at bJ;refine bC ?_;refine aa.gH C C C C C C ay I (aH.all _) ?_ ?_
 ·rintro x aO (⟨⟨⟩,-,h⟩|⟨⟨⟩,h⟩|⟨_,⟨⟩,_⟩) I
  all_goals rw [append_nil] at I ⊢
  ·refine bC ?_
   exact bn.mk (m,aO) I ⟨by omega,h⟩ (by repeat (first|exact trivial|refine ⟨⟨_,rfl,aL⟩,?_⟩|refine ⟨⟨_,rfl,aS.of_eq x3⟩,?_⟩)) (aH.all _) (by show m<m+1;omega)
  ·refine e1 ?_
   exact Fin.bu I C aL (aH.all _) (.inl ⟨rfl,.inr h⟩)
 ·rintro x aO (⟨h,_⟩|⟨h,_⟩|⟨v,⟨⟩,h⟩) I
  ·cases h
  ·cases h
  rw [append_nil] at I ⊢;exact Fin.e9 I aL (aH.all _) (.inr ⟨_,rfl,h⟩)
theorem Xe (xs:List Int):aR Tryz.prog 111 [bf xs] (.func 152 [] [.bw [.aA 1 (xs.map ba) .bb] 0]):=by
 have aq:=bA;refine aR.bh ai Tryz.func111 C C fun s I=>?_
 unfold bf;refine gv ?_;exact bl I
end Go.Proofs.YtnafpeohfbglmaaGreat
namespace Go.cU
section
variable {J:ao→Prop} {P:Program} {Γ:cw} {N:Nat} {l:List Oper} {Q:b8→Env→ao→Prop} {env:Env} {s:ao} {m:Nat}
theorem bm.two {i j:Nat} {yB yC:Oper} {HS HT:Nat} {HU HV:af} (cy:J s) (aF:eE l.toArray m (idxs 0 l)=[i,j]) (eK:Nat.beq i j=false)
  (aQ:l.toArray[i]? = some yB) (HW:yB.dst=some HS) (Xf:Nat.blt HS N=true) (DP:guardOf l.toArray (iw env (looks l.toArray yB)) yB=some true) (Xg:aZ P N yB (iw env (looks l.toArray yB)) s (fun x aj=>x=HU∧aj=s) (fun _ _=>False))
  (aK:l.toArray[j]? = some yC) (HX:yC.dst=some HT) (Xh:Nat.blt HT N=true) (Xi:guardOf l.toArray (iw env (looks l.toArray yC)) yC=some true) (Xj:aZ P N yC (iw env (looks l.toArray yC)) s (fun x aj=>x=HV∧aj=s) (fun _ _=>False))
  (sI:bm J P Γ N l.toArray Q (bV (m|||2^i)) ((HS,HU)::env) s) (Xk:bm J P Γ N l.toArray Q (bV (m|||2^j)) ((HT,HV)::env) s):bm J P Γ N l.toArray Q (bV m) env s:=by
 have cP:i≠j:=fun e=>by subst e;rw [show Nat.beq i i=true from Nat.beq_refl i] at eK;cases eK
 have fl:∀ k,hf l.toArray (bV m) k→k=i∨k=j:=fun k aE=>by
  have:=zA aE (l:=idxs 0 l) (by rw [xF,List.mem_range'_1];have:=aE.1;simp at this;omega);rw [aF] at this;simpa using this
 have iX:hf l.toArray (bV m) i:=by
  have fW:i∈eE l.toArray m (idxs 0 l):=by rw [aF];exact mem_cons_self ..
  have:∀ is,i∈eE l.toArray m is→ix l.toArray m i=true:=by
   intro is
   induction is with
   | nil=>intro h;cases h
   | cons j is a1=>
    intro h;simp only [eE] at h;split at h
    ·rename_i aq
     rcases mem_cons.1 h with rfl|h
     ·exact aq
     ·exact a1 h
    ·exact a1 h
  exact sJ.1 (this _ fW)
 refine bm.split (fun k x aj=>(k=i→x=HU)∧(k=j→x=HV)∧aj=s) (fun _ _ _=>False) ⟨i,iX.1,iX.2.1⟩ (fun k o' aE cC=>?_) (fun k o' aE cC x aj bg => .inl (by rw [bg.2.2];exact cy)) (fun k o' c3 aE cC cl x aj bg=>?_) (fun k o' aE cC cl x aj bg=>?_) (fun k o' aE cC x aj iq=>iq.elim)
 ·rcases fl k aE with rfl|rfl
  ·rw [aQ] at cC;cases cC
   exact ⟨DP,Xg.mono (fun x aj h=>⟨fun _=>h.1,fun e=>absurd e cP,h.2⟩) (fun _ _ h=>h),fun c3 cl=>by rw [HW] at cl;cases cl;simpa [Nat.blt_eq] using Xf⟩
  ·rw [aK] at cC;cases cC
   exact ⟨Xi,Xj.mono (fun x aj h=>⟨fun e=>absurd e.symm cP,fun _=>h.1,h.2⟩) (fun _ _ h=>h),fun c3 cl=>by rw [HX] at cl;cases cl;simpa [Nat.blt_eq] using Xh⟩
 ·obtain ⟨U,ad,rfl⟩:=bg
  rcases fl k aE with rfl|rfl
  ·rw [aQ] at cC;cases cC
   rw [HW] at cl;cases cl;rw [oC,U C];exact sI
  ·rw [aK] at cC;cases cC
   rw [HX] at cl;cases cl;rw [oC,ad C];exact Xk
 ·rcases fl k aE with rfl|rfl
  ·rw [aQ] at cC;cases cC
   rw [HW] at cl;cases cl
  ·rw [aK] at cC;cases cC
   rw [HX] at cl;cases cl
theorem bm.HY {L R:a8} (i:Nat) (aP:bQ P Γ) (I:Ok s L) (cy:J (aT s L)) {o:Oper} {d:Nat} {t T:TypeId} {x:Operand} {dX:bM} {b off:Nat} {cs:List af} {v:af} (aF:eE l.toArray m (idxs 0 l)=[i]) (ah:l.toArray[i]? = some o) (ax:o.dst=some d) (aU:Nat.blt d N=true)
  (aw:c7 l env o) (b2:o.op = .load t x) (aM:Γ.get? t=some dX) (ab:aJ (bZ l env o) x=some (.ptr b off)) (ar:bp L (.own b) (.box T cs) R) (av:hI dX cs off=some v)
  (h:bm J P Γ N l.toArray Q (bV (m|||2^i)) ((d,v)::env) (aT s L)):bm J P Γ N l.toArray Q (bV m) env (aT s L):=
 bm.one aF ah ax aU aw (aZ.eB aP I b2 aM ab ar av (X:=fun _ _=>False)) (fun x aj ⟨_,ad⟩ => .inl (by rw [ad];exact cy)) (fun x aj ⟨U,ad⟩=>by subst U;subst ad;exact h) (fun _ _ h=>h.elim)
theorem bm.Nl (i:Nat) (aP:bQ P Γ) (cy:J s) {o:Oper} {d:Nat} {t dQ eV:TypeId} {x y:Operand} {ok:Bool} {it gG aG:bM} {b:Nat} {es:List (af×af)} {k z:af} {r:Option af} (aF:ix l.toArray m i=true) (ah:l.toArray[i]? = some o) (ax:o.dst=some d) (aU:Nat.blt d N=true)
  (aw:c7 l env o) (b2:o.op = .lookup t x y ok) (aM:Γ.get? t=some it) (br:it.bF = .map dQ eV) (jk:Γ.get? dQ=some gG) (bI:Γ.get? eV=some aG) (ab:aJ (bZ l env o) x=some (.map b)) (ay:aJ (bZ l env o) y=some k)
  (ar:∀ s,J s→s b=some (.map es)) (a6:j3 gG.bF k=true) (pb:iV es k=some r) (bO:hx aG.zero=some z)
  (h:bm J P Γ N l.toArray Q (bV (m|||2^i)) ((d,lB ok z r)::env) s):bm J P Γ N l.toArray Q (bV m) env s:=
 bm.rm cy aF ah ax aU aw (fun s hz=>aZ.lookup aP b2 aM br jk bI ab ay (.inl ⟨b,rfl,ar s hz⟩) a6 pb bO) h
end
theorem Nn {w:World} {p:bR}:∀ {yss:List (List af)} {us:List Value},bG w p us (yss.map af.agg)→bG w p (flat us) yss.flatten
  | [],us,h=>by cases h;exact .nil
  | c::r,us,h=>by
    cases h with
    | cons u _ vk _ hu aM=>
    cases hu with
    | agg cs _ aC=>
    have:=Nn aM;rw [List.flatten_cons,show flat (Value.agg cs::vk)=cs.toList++flat vk by simp [flat,Value.cells]];exact bG.append aC this
section
variable {P:Program} {Γ:cw} {N:Nat} {ops:Array Oper} {Q:b8→Env→ao→Prop} {env:Env} {s:ao} {l:List Oper} {o:Oper} {d:Nat} {L R:a8}
theorem Xl (aP:bQ P Γ) {w:World} {p:bR} {S:ao} (cc:dm w p S) {t bH e ty:TypeId} {it ct aG:bM} {bU sz:Nat} {olds:List Value} {xs:List af} {yss:List (List af)} {dj:bL} {base:Option Addr} {n cap:Nat} {qt:Value}
  (aM:Γ.get? t=some it) (br:it.bF = .aA e) (cV:Γ.get? bH=some ct) (dn:∀ k,ct.bF ≠ .int k) (bI:Γ.get? e=some aG) (U:aG.size=sz) (dO:Nat.beq aG.zero.cells.size aG.size=true)
  (aF:bG w p olds xs) (az:n*sz=xs.length) (pd:(Builtin.firstCells sz n (.slice base n cap)).run P w.drew = .ok olds.toArray w.drew) (ay:Rel w p qt (.aA bU (yss.map af.agg) dj)) (c8:bU=sz) (h5:∀ c∈yss,c.length=sz)
  (au:cap<n+yss.length) (aq:(n+yss.length)*aG.bytes≤140737488355328) (ei:n+yss.length≤9223372036854775807) :
  ∃ aW cd cs' w',(Builtin.append_ #[t,bH] ty #[.slice base n cap,qt]).run P w = .ok (.slice (some ⟨aW,0,none⟩) (n+yss.length) cd) w'∧S aW=none∧dc w p w' p∧Kept S (S.set aW (.box e cs')) w p w' p∧dm w' p (S.set aW (.box e cs')) ∧
   cs'.length=cd*sz∧n+yss.length≤cd∧cs'.take ((n+yss.length)*sz)=xs++yss.flatten:=by
 obtain ⟨info,d,g1,g2,g3,-⟩:=aP.parts aM;obtain ⟨mq,c3,ef,di,dL,-⟩:=aP.parts cV;obtain ⟨jL,kj,cD,dh,fa,eD,jM,jl⟩:=aP.parts bI;have ax:d = .slice e:=by rw [br] at g3;cases d<;>simp [ev] at g3;rw [g3]
 subst ax;have cl:∀ k,c3 ≠ .int k:=fun k e'=>by subst e';exact dn k dL.symm
 obtain ⟨us,ic,pe,jN,j6,sy,sA,sB⟩:=qd ay (.inr c8);rw [length_map] at jN j6;subst c8;have tj:bG w p (flat us) yss.flatten:=Nn ic;have my:=tj.length;have fy:=growslice_fits (need:=n+yss.length) (old:=cap) (bytes:=aG.bytes) au aq;have cO:=zm (ty:=ty) w g2 di cl cD jl (base:=base) (sLen:=n) (sCap:=cap) (m:=yss.length) (olds:=olds) (news:=flat us) (jN P)
  (by rw [eD,U];exact pd) (by rw [eD,U];exact j6 P w.drew (fun _ _ _=>rfl)) au ag (by rw [jM];exact fy)
 have m7:n+yss.length≤grownCap w (n+yss.length) cap e:=by simp [grownCap,Question.cut]
 have gn:olds.length=n*bU:=by rw [aF.length,az]
 have ot:=eq_of_beq_eq_true dO;generalize sx:(Builtin.zeroCells aG.zero.cells (grownCap w (n+yss.length) cap e-(n+yss.length))).toList=aY at cO;have m8:aY.length=(grownCap w (n+yss.length) cap e-(n+yss.length))*bU:=by
  rw [← sx,MY,ot,U]
 generalize grownCap w (n+yss.length) cap e=G at cO m7 m8;have vT:=xr cc
 obtain ⟨ar,hle,aE,kM⟩:=rb vT (.cells (olds++flat us++aY).toArray e (0,0)) (.box e (xs++yss.flatten++aY.map fun _ => .any)) (fun w' iL av fw=>⟨_,iL,by
  refine bG.append (bG.append (fw _ _ (show bG w.drew p olds xs from aF.mono kJ)) (fw _ _ (tj.mono kJ))) (bG.zM aY),fun o aD=>absurd (cc.lt _ _ aD) (by show ¬ w.heap.size<w.heap.size;omega)⟩)
 rw [show w.drew.heap.size=w.heap.size from rfl] at ar aE kM;have hm:(n+yss.length)*bU=n*bU+yss.length*bU:=Nat.add_mul ..;have kh:=WE h5;refine ⟨w.heap.size,G,xs++yss.flatten++aY.map (fun _=>af.any),_,cO,ar,kJ.trans hle,(va (w:=w) (p:=p)).trans (kJ (w:=w) (p:=p)).size aE,kM,?_,m7,?_⟩
 ·simp only [length_append,length_map,m8]
  rw [← az,kh,← hm,← Nat.add_mul];congr 1;omega
 ·rw [List.take_append_of_le_length (by rw [length_append,kh];omega),List.take_of_length_le (by rw [length_append,kh];omega)]
theorem aZ.HZ (aP:bQ P Γ) (I:Ok s L) {t bH e:TypeId} {x y:Operand} {it ct aG:bM} {dR bU sz:Nat} {yss:List (List af)} {dj:bL}
    (ah:o.op = .call { callee := .builtin .append,args := #[x,y],argTypes := #[t,bH] }) (aM:Γ.get? t=some it) (br:it.bF = .aA e) (cV:Γ.get? bH=some ct) (dn:∀ k,ct.bF ≠ .int k)
    (bI:Γ.get? e=some aG) (U:aG.size=sz) (dO:Nat.beq aG.zero.cells.size aG.size=true) (ab:aJ env x=some (.aA dR [] .clip)) (ay:aJ env y=some (.aA bU (yss.map af.agg) dj)) (c8:bU=sz) (h5:∀ c∈yss,c.length=sz) (cP:1≤yss.length) (aq:yss.length*aG.bytes≤140737488355328) (ei:yss.length≤9223372036854775807)
    {X:af→ao→Prop}:aZ P N o env (aT s L) (fun r aj=>Hz s L e sz yss.length yss.flatten r aj) X:=by
  refine aZ.ki i' fun ro B a w p aI=>?_
  have ga:=aI.aJ ab;have fh:=aI.aJ ay;have eI:=fun val w'=>ua (P:=P) (a:=a) (val:=val) (w:=w) (w':=w') ah
  generalize ew:a.eval x=dP at ga eI;generalize fb:a.eval y=fU at fh eI;have sS:∃ base,dP = .slice base 0 0:=by
    cases ga with
    | hR=>exact ⟨_,rfl⟩
    | im a _ _ h=>exact ⟨_,rfl⟩
    | aA g off n cap _ vs _ _ az aB aC aF ar hm aE cv ah=>
      have U:n=0:=aB;have ad:=cv C;subst U;subst ad;exact ⟨_,rfl⟩
  obtain ⟨base,rfl⟩:=sS
  obtain ⟨aW,cd,cs',w',fp,gB,hp,iW,l5,l6,mG,mH⟩:=Xl (ty:=o.type) aP aI.wf (base:=base) (n:=0) (cap:=0) (olds:=[]) (xs:=[]) aM br cV dn bI U dO .nil a' (by
    cases base with
    | none=>
      have:=run_firstCells_none (P:=P) w.drew sz 0 0 0
      simpa using this
    | some a=>exact run_firstCells_some w.drew sz 0 a _ _ [] a' a') fh c8 h5 ag (by simpa using aq) ag
  rw [zero_add] at fp mG mH;exact ⟨_,w',_,p,_,eI _ _ fp,hp,iW,l5,⟨aW,cd,cs',rfl,rfl,⟨gB,I⟩,l6,mG,by simpa using mH⟩,.hv _⟩
theorem aa.HZ (aP:bQ P Γ) (I:Ok s L) {t bH e:TypeId} {x y:Operand} {it ct aG:bM} {dR bU sz:Nat} {yss:List (List af)} {dj:bL} (aw:guardOf ops env o=some true) (ax:o.dst=some d) (aU:Nat.blt d N=true)
  (ah:o.op = .call { callee := .builtin .append,args := #[x,y],argTypes := #[t,bH] }) (aM:Γ.get? t=some it) (br:it.bF = .aA e) (cV:Γ.get? bH=some ct) (dn:∀ k,ct.bF ≠ .int k)
  (bI:Γ.get? e=some aG) (U:aG.size=sz) (dO:Nat.beq aG.zero.cells.size aG.size=true) (ab:aJ env x=some (.aA dR [] .clip)) (ay:aJ env y=some (.aA bU (yss.map af.agg) dj)) (c8:bU=sz) (h5:∀ c∈yss,c.length=sz) (cP:1≤yss.length) (aq:yss.length*aG.bytes≤140737488355328) (ei:yss.length≤9223372036854775807)
  (h:∀ aW cd cs',cs'.length=cd*sz→yss.length≤cd→cs'.take (yss.length*sz)=yss.flatten→Ok s ((.own aW,.box e cs')::L)→aa P N ops l Q ((d,eo aW yss.length cd)::env) (aT s ((.own aW,.box e cs')::L))):aa P N ops (o::l) Q env (aT s L):=by
 refine aa.op aw ax aU (aZ.HZ aP I ah aM br cV dn bI U dO ab ay c8 h5 cP aq ei (X:=fun _ _=>False)) ?_ (fun _ _ h=>h.elim);rintro r aj ⟨aW,cd,cs',rfl,rfl,ad,al,bd,bD⟩;exact h aW cd cs' al bd bD ad
end
end Go.cU
namespace Go.Proofs.YtnafpeohfbglmaaGreat
open Go.cU Go.eb
theorem DQ (g:List b0):g.map eW=(g.map gZ).map af.agg:=by rw [map_map];rfl
theorem Xm (g:List b0) (own:bL) (U:1≤g.length) (aB:g.length≤1000):bE Tryz.prog 109 [.aA 4 (g.map eW) own] [] (fun o K=>∃ b cap cs,yv (some (b,cap,cs)) g∧o = .ret (eo b g.length cap)∧K=[(.own b,.box 69 cs)]):=by
 refine bE.bh ai Tryz.func109 C C fun s I=>?_
 refine dv ?_;refine aa.op C C C (aZ.Gm ai C C C C (X:=fun _ _=>False)) ?_ (fun _ _ h=>False.elim h);rintro r aj ⟨rfl,⟨rfl,az⟩|rfl⟩
 ·have:g=[]:=List.map_eq_nil_iff.1 az
  rw [this] at U;simp at U
 ·refine bC ?_
  refine aa.HZ ai I (yss:=g.map gZ) C C C C C C C en C C C C (by rw [← DQ];rfl) C (o3 g) sP (by rw [length_map];show _*48≤_;omega) tc (fun dx gu f' c4 dd eZ I=>?_);refine eu ?_;exact Fin.bu I C (aS.of_eq (by rw [length_map])) aX ⟨dx,gu,f',⟨c4,by simpa using dd,by simpa using eZ⟩,rfl,rfl⟩
theorem Xn (g:List b0):(iH g g.length).map ba=replicate g.length (.int .i64 0):=by
 unfold iH;rw [List.drop_length,ec,append_nil,List.map_replicate];rfl
theorem Xo (g:List b0):k0 g g.length=g:=by
 unfold k0;rw [List.drop_length,ec,append_nil,take_length]
def q2 (N:List b0) (aq il jx w2 dD:Nat) (order:List Int) (num:List (af×af)) (one:List Int) (own:bL) (bB:A4) (done:List b0):a8:=[(.own w2,.box 28 [jZ bB done]),(.own il,.box 23 [.aA 1 (order.map ba) .bb]),(.own jx,.box 163 [od N aq jx il]),(own,.row 3 1 order.length),(.own aq,.map num),(.own dD,.box 3 (one.map ba))]++jw bB
def o5 (N:List b0) (order:List Int) (fe:Int):b0:=let x:=N.getD fe.toNat default
 if x.atom≥0 then { x with no:=(order.length:Int)-1-placeOf order x.no,yes:=(order.length:Int)-1-placeOf order x.yes } else x
def H0 (il aq q3:Nat) (order:List Int) (num:List (af×af)) (x:b0) (aj:ao):Prop:=aj il=some (.box 23 [.aA 1 (order.map ba) .bb])∧aj aq=some (.map num)∧∃ v,aj q3=some (.box 69 [.int .i64 x.atom,v,.int .i64 x.yes,.aA 1 (x.ms.map ba) .bb])
def oe (g:List b0) (n6 tm dD cap m:Nat) (cs:List af):a8:=[(.own n6,.box 28 [eo tm g.length cap]),(.own tm,.box 69 cs),(.own dD,.box 3 ((iH g m).map ba))]
theorem No (g:List b0) (aw:DL g):bE Tryz.prog 63 [.aA 4 (g.map eW) .bb] [] (fun o K=>o = .ret (.aA 4 ((small g).map eW) .bb)∧K=[]):=by
  have nc:bz=1099511627776:=rfl;have qI:=aw.pos;have lR:=aw.len;have cv:=Xm g .bb aw.pos aw.len;refine bE.bh ai Tryz.func63 C C fun s I=>?_
  refine bW ?_;refine aa.ui ai I (g.map eW).length C C C C C C C C C C C C (by rw [length_map];show _*8≤_;omega) tc (fun dD I=>?_);refine hq ?_;refine aa.b3 rfl rfl rfl rfl rfl cv I .nil ?_ (fun _ _ ⟨_,_,_,_,h,_⟩ _=>by cases h);rintro _ _ ⟨tm,cap,Xp,Xq,⟨⟩,rfl⟩ I;simp only [length_map,cons_append,nil_append] at I ⊢
  repeat (first|(refine Sn I ?_;clear I;intro I)|refine aa.dY ai I rfl rfl rfl rfl rfl rfl rfl (fun cJ I=>?_))
  obtain ⟨n6,rfl⟩:∃ x,x=cJ:=⟨_,rfl⟩;have jA:=Xn g;have jF:((g.map eW).length:Int)=(g.length:Int):=by rw [length_map]
  have hw:IntKind.wrap .i64 ((g.length:Int)-1)=(g.length:Int)-1:=ek ag ag;refine ae.b4 [0,3,4] C I (σ:=Nat×List af) (fun q=>[(5,.int .i64 ((q.1:Int)-1))]) (fun q=>oe g n6 tm dD cap q.1 q.2) (fun q=>q.1≤g.length∧yv (some (tm,cap,q.2)) (k0 g q.1)) (fun q=>q.1) (g.length,Xp) ⟨le_refl _,by rw [Xo];exact Xq⟩ (by repeat (first|exact trivial|refine ⟨⟨_,rfl,aL⟩,?_⟩|refine ⟨⟨_,rfl,aS.of_eq (by (rw [jF,hw]))⟩,?_⟩)) (by unfold oe;simp only [jA];exact aX) ?_;rintro ⟨jq,cs⟩ ⟨hm,hN⟩ I;simp only at hm hN I ⊢;cases jq with
  | zero=>
    have Xr:k0 g 0=(ec 0 g).2:=by unfold k0;simp
    have Xs:iH g 0=(ec 0 g).1:=by unfold iH;simp
    obtain ⟨abn,nm⟩:=yx g 0;have mu:=Nb (n:=g.length) g 0 ag (fun k x ab a7=>by have:=aw.fe k x ab a7;rw [zero_add];exact this);have Np:Down (ec 0 g).2:=fun i x ab a7=>by
      have td:=(List.getElem?_eq_some_iff.1 ab).1;have:=(mu i ag).2.2.2;rw [getD_eq_getElem?_getD,ab] at this;have:=this a7;simp only [getD_some] at this;omega
    obtain ⟨A',Nq⟩:∃ A',(ec 0 g).1[0]? = some A':=⟨_,getElem?_eq_getElem ag⟩;have Nr:(ec 0 g).1.getD 0 0=A':=by rw [getD_eq_getElem?_getD,Nq];rfl
    have Xt:=(mu 0 ag).1;rw [Nr] at Xt;obtain ⟨a0,rfl⟩:∃ a:Nat,A'=a:=⟨A'.toNat,by omega⟩;have jy:small g=(meet (ec 0 g).2 (g.length+1) [] a0).reverse.map fun fe=>
        let x:=(ec 0 g).2.getD fe.toNat default
        if x.atom≥0 then { x with no:=((meet (ec 0 g).2 (g.length+1) [] a0).length:Int)-1-placeOf (meet (ec 0 g).2 (g.length+1) [] a0) x.no,yes:=((meet (ec 0 g).2 (g.length+1) [] a0).length:Int)-1-placeOf (meet (ec 0 g).2 (g.length+1) [] a0) x.yes } else x:=by
      unfold small;simp only [Nr]
    have iZ:∀ x∈(ec 0 g).2,x.ms.length≤16:=fun x ab=>by
      obtain ⟨k,aE⟩:=List.getElem?_of_mem ab;obtain ⟨w,pN,H2⟩:=HL g 0 k x aE;rw [H2];exact aw.ms w pN
    have Ns:o4 (ec 0 g).2.length []:=⟨List.nodup_nil,fun _ h=>by cases h⟩;have Xu:=Xb (ec 0 g).2 ag Np;have Nt:=(yy Np (g.length+1) a0 ag ag [] Ns).1;have Xv:((ec 0 g).1.map ba)[0*1]? = some (.int .i64 ((a0:Nat):Int)):=by rw [Nat.zero_mul,getElem?_map,Nq];rfl
    unfold oe at I ⊢;rw [Xs] at I ⊢;rw [Xr] at hN;generalize (ec 0 g).1=one at *;generalize (ec 0 g).2=N at *;obtain ⟨sv,qc,Nu⟩:=hN;rw [nm] at qc Nu;refine ae.A2 I 0 .here .here C Nu (by rw [length_map,nm]) (o3 _) qc ag (fun I=>?_);simp only [List.set_cons_zero,← DQ] at I ⊢;refine ae.mF I 4 n6 C .here (fun I=>?_);refine c1 ?_;refine aa.rn I C C C C (fun aq I=>?_);refine aa.Cz ai C C C C C C C (fun _=>rfl) C C (fun _=>rfl) C C C C ?_
    repeat (first|(refine Sp I ?_;clear I;intro I)|refine aa.dY ai I rfl rfl rfl rfl rfl rfl rfl (fun cJ I=>?_))
    rename_i il _;obtain ⟨jx,rfl⟩:∃ x,x=cJ:=⟨_,rfl⟩;refine ae.h7 I 3 1 0 fun I=>?_
    refine ae.qZ I [.aA 1 [] .nil] (kb:=il) aY (.one (aS.nil gW)) (fun I=>?_);have cZ:=Xu aq jx il (g.length+1) a0 ag ag [] [] [] .nil pX.empty Ns (fun _ h=>by cases h);unfold r5 od at cZ;refine sN I ?_;intro I;refine aN.fi ai 0 C C C C C C C C C C ag ?_;refine aN.jW ai I C C C C C C aY C Xv ?_;skip;refine aN.gH rfl rfl rfl rfl rfl rfl rfl cZ I aX ?_ (fun _ _ h _=>by obtain ⟨_,_,_,h,_⟩:=h;cases h);rintro _ _ ⟨num,own,n3,⟨⟩,rfl⟩ I;simp only [nil_append,cons_append] at I ⊢;generalize meet N (g.length+1) [] a0=order at *;have hlen:=Nt.len;refine tZ ?_;refine ae.qZ I [.aA 1 (order.map ba) .bb] (kb:=il) aY (.one aS.bb) (fun I=>?_);have Xw:=Xe order;unfold bf at Xw
    repeat (first|(refine Sq I ?_;clear I;intro I)|refine aa.dY ai I rfl rfl rfl rfl rfl rfl rfl (fun cJ I=>?_)|(refine pw ?_))
    obtain ⟨w2,rfl⟩:∃ x,x=cJ:=⟨_,rfl⟩
    rw [show (fun fe:Int=>let x:=N.getD fe.toNat default
        if x.atom≥0 then ({ x with no:=(order.length:Int)-1-placeOf order x.no,yes:=(order.length:Int)-1-placeOf order x.yes }:b0) else x)=o5 N order from rfl] at jy
    have vl:=Nk order order.length (le_refl _);rw [take_length] at vl;have k1:(uO order order.length).length=order.length:=by
      have:=congrArg List.length vl;rwa [length_map,List.length_reverse] at this
    have eS:∀ z:Int,lB false (.int .i64 0) (if order.contains z then some (.int .i64 (placeOf order z)) else if ([]:List Int).contains z then some (.int .i64 (-1)) else none) = .int .i64 (placeOf order z):=fun z=>by
      cases aC:order.contains z with
      | true=>rfl
      | false=>rw [W' aC];rfl
    refine ae.Ld I C dZ dZ (Xd order ag) .nil (fun rem K=>∃ bB done,yv bB done∧done.length+rem.length=order.length∧order.reverse.map (o5 N order)=done++rem.map (fun q=>o5 N order q.2)∧(∀ q∈rem,0≤q.2∧q.2<N.length)∧K=q2 N aq il jx w2 dD order num one own bB done) (fun _ _=>False) (fun _ _=>False) ⟨none,[],rfl,by rw [k1];simp,by rw [← vl,map_map];rfl,(fun q bq=>by
      have:q.2∈order.reverse:=by rw [← vl];exact List.mem_map_of_mem bq
      exact Nt.lt _ (List.mem_reverse.1 this)),rfl⟩ ?_ ?_ (fun _ _ h=>h.elim) (fun _ _ h=>h.elim)
    · rintro s₁ ⟨ab9,fe⟩ rem K ⟨bB,done,df,wi,uP,pY,rfl⟩ I
      have Xx:=pY _ mem_cons_self;simp only at Xx;obtain ⟨a,rfl⟩:∃ a:Nat,fe=a:=⟨fe.toNat,by omega⟩;obtain ⟨x,ab,bJ⟩:=b1 (f:=eW) (l:=N) (show a<N.length by omega);have yD:o5 N order a=if x.atom≥0 then { x with no:=(order.length:Int)-1-placeOf order x.no,yes:=(order.length:Int)-1-placeOf order x.yes } else x:=by
        unfold o5;simp only [toNat_natCast,getD_eq_getElem?_getD,ab,getD_some]
      rw [map_cons,length_cons] at *;have cv:=Ao x.ms .bb (by have:=iZ x (mem_of_getElem? ab);omega);have Aa:=Nf order x.no;have abo:=Nf order x.yes;unfold eW gZ bf at bJ;unfold HQ HR;unfold q2 od at I ⊢;simp only [cons_append,nil_append] at I ⊢;have lC:=eS x.no;have H3:=eS x.yes;have Nv:=n3.get x.no;have Nw:=n3.get x.yes;generalize (if order.contains x.no then some (af.int .i64 (placeOf order x.no)) else if ([]:List Int).contains x.no then some (af.int .i64 (-1)) else none)=ab3 at lC Nv;generalize (if order.contains x.yes then some (af.int .i64 (placeOf order x.yes)) else if ([]:List Int).contains x.yes then some (af.int .i64 (-1)) else none)=aca at H3 Nw;by_cases dg:x.atom≥0
      · rw [if_pos dg] at yD
        have cg:IntKind.wrap .i64 (IntKind.wrap .i64 ((order.length:Int)-1)-placeOf order x.no)=(order.length:Int)-1-placeOf order x.no:=by
          rw [ek (n:=(order.length:Int)-1) ag ag,ek ag ag]
        have bY:IntKind.wrap .i64 (IntKind.wrap .i64 ((order.length:Int)-1)-placeOf order x.yes)=(order.length:Int)-1-placeOf order x.yes:=by
          rw [ek (n:=(order.length:Int)-1) ag ag,ek ag ag]
        repeat (first|(refine J8 I ?_;clear I;intro I)|refine aa.dY ai I rfl rfl rfl rfl rfl rfl rfl (fun cJ I=>?_)|(refine pw ?_))
        refine ae.cond C (fun _=>?_) (fun h=>absurd dg fD);skip;obtain ⟨q3,rfl⟩:∃ x,x=cJ:=⟨_,rfl⟩;have q4:=(⟨bp.get aY I,bp.get aY I,.int .i64 x.no,bp.get aY I⟩:H0 il aq q3 order num x _);refine ae.qm (H0 il aq q3 order num x) ai mixed C (bm.run q4 C ?_);refine bm.nN 0 ai q4 C C C C C C C C (fun _ h=>h.1) b6 ?_;refine bm.nN 8 ai q4 C C C C C C C C (fun _ h=>h.1) b6 ?_;refine bm.SI 13 ai q4 rfl rfl rfl rfl rfl rfl rfl rfl (fun _ h=>by obtain ⟨_,_,v,h⟩:=h;exact ⟨_,_,h,rfl⟩) ?_;refine bm.run q4 C ?_;refine bm.Nl 14 ai q4 C C C C C C C C C C C C (fun _ h=>h.2.1) C Nw C ?_;rw [H3];refine bm.run q4 C ?_;refine bm.HY 5 ai I q4 C C C C C C C C aY b6 ?_;refine bm.run q4 C ?_;refine bm.Nl 6 ai q4 C C C C C C C C C C C C (fun _ h=>h.2.1) C Nv C ?_;rw [lC];refine bm.run q4 C ?_;refine bm.cT 17 ai I C C C C C C C C C C C aY C (fun I => .inl ⟨bp.get aY I,bp.get aY I,_,bp.get aY I⟩) (fun I=>?_);refine bm.run (⟨bp.get aY I,bp.get aY I,_,bp.get aY I⟩:H0 il aq q3 order num x _) C ?_;refine bm.cT 19 ai I C C C C C C C C C C C aY C (fun _ => .inr C) (fun I=>?_);refine bc.done C ?_;rcases bB with _|⟨g2,gu,f'⟩
        · have bt:done=[]:=df
          subst bt;unfold jZ jw at I ⊢;refine cI I ?_;intro I;refine aa.rZ ai I C C C C C C C en C C C C C C C dZ (fun dx gu f' c4 dd eZ I=>?_);refine cI I ?_;intro I;exact At.mk (q2 N aq il jx w2 dD order num one own (some (dx,gu,f')) ([]++[o5 N order a])) I (by simp only [q2,jw,jZ,od,cons_append,nil_append,length_append,length_cons,length_nil];exact aX) ⟨trivial,some (dx,gu,f'),[]++[o5 N order a],⟨c4,uC,by rw [yw,yD];refine eZ.trans ?_;rw [← cg,← bY,length_map];rfl⟩,by simp at wi ⊢;omega,by rw [uP];simp,fun q bq=>pY q (mem_cons_of_mem _ bq),rfl⟩
        · obtain ⟨fp,gB,hp⟩:=df
          unfold jZ jw at I ⊢;refine cI I ?_;intro I;refine aa.r0 ai I C C C C C C C en C C C C aY fp gB C C C C (by show (done.length+1)*48≤_;omega) ag (fun dx gu f' c4 dd eZ I=>?_);refine cI I ?_;intro I;exact At.mk (q2 N aq il jx w2 dD order num one own (some (dx,gu,f')) (done++[o5 N order a])) I (by simp only [q2,jw,jZ,od,cons_append,nil_append,length_append,length_cons,length_nil];exact aX) ⟨trivial,some (dx,gu,f'),done++[o5 N order a],⟨c4,uC,by rw [yw,yD,length_append,length_cons,length_nil,← hp];refine eZ.trans ?_;rw [← cg,← bY,length_map];rfl⟩,by simp at wi ⊢;omega,by rw [uP];simp,fun q bq=>pY q (mem_cons_of_mem _ bq),rfl⟩
      · rw [if_neg dg] at yD
        repeat (first|(refine J8 I ?_;clear I;intro I)|refine aa.dY ai I rfl rfl rfl rfl rfl rfl rfl (fun cJ I=>?_)|(refine pw ?_))
        refine ae.cond C (fun h=>absurd fD dg) (fun _=>?_);refine cI I ?_;intro I;rcases bB with _|⟨g2,gu,f'⟩
        · have bt:done=[]:=df
          subst bt;unfold jZ jw at I ⊢;skip;refine aa.rZ ai I C C C C C C C en C C C C C C C dZ (fun dx gu f' c4 dd eZ I=>?_);refine cI I ?_;intro I;exact At.mk (q2 N aq il jx w2 dD order num one own (some (dx,gu,f')) ([]++[o5 N order a])) I (by simp only [q2,jw,jZ,od,cons_append,nil_append,length_append,length_cons,length_nil];exact aX) ⟨trivial,some (dx,gu,f'),[]++[o5 N order a],⟨c4,uC,by rw [yw,yD];refine eZ.trans ?_;rfl⟩,by simp at wi ⊢;omega,by rw [uP];simp,fun q bq=>pY q (mem_cons_of_mem _ bq),rfl⟩
        · obtain ⟨fp,gB,hp⟩:=df
          unfold jZ jw at I ⊢;skip;refine aa.r0 ai I C C C C C C C en C C C C aY fp gB C C C C (by show (done.length+1)*48≤_;omega) ag (fun dx gu f' c4 dd eZ I=>?_);refine cI I ?_;intro I;exact At.mk (q2 N aq il jx w2 dD order num one own (some (dx,gu,f')) (done++[o5 N order a])) I (by simp only [q2,jw,jZ,od,cons_append,nil_append,length_append,length_cons,length_nil];exact aX) ⟨trivial,some (dx,gu,f'),done++[o5 N order a],⟨c4,uC,by rw [yw,yD,length_append,length_cons,length_nil,← hp];refine eZ.trans ?_;rfl⟩,by simp at wi ⊢;omega,by rw [uP];simp,fun q bq=>pY q (mem_cons_of_mem _ bq),rfl⟩
    · rintro K ⟨bB,done,df,wi,uP,-,rfl⟩ I
      rw [map_nil,append_nil] at uP;rw [← uP,← jy] at df;refine tZ ?_;rw [← uP,← jy] at I ⊢;unfold q2 at I ⊢;rcases bB with _|⟨g2,gu,f'⟩
      · have bt:small g=[]:=df
        rw [bt];unfold jZ;refine cI I ?_;intro I;exact Fin.bu I C aS.empty .nil ⟨rfl,rfl⟩
      · obtain ⟨fp,gB,hp⟩:=df
        have wF:(small g).length≤1000:=by rw [jy,length_map,List.length_reverse];omega
        unfold jZ jw at I ⊢;refine ae.A2 I 0 .here aY C hp (by rw [length_map]) (o3 _) gB ag (fun I=>?_);simp only [List.set_cons_zero,← DQ] at I ⊢;refine cI I ?_;intro I;exact Fin.bu I C aL .nil ⟨rfl,rfl⟩
  | succ m=>
  have au:m<g.length:=hm;have sH:(((m+1:Nat):Int)-1)=(m:Int):=by omega
  obtain ⟨x,ab,-⟩:=b1 (f:=eW) au;have aI:=W4 aw ab;have H4:(k0 g (m+1))[m]? = some x:=by rw [W3 g ag hm,ab]
  have jn:=fun (k:Nat) (v:af) (aE:(gZ x)[k]? = some v)=>M9 (o3 _) hN.2.2 (by rw [getElem?_map,H4];rfl) aE
  unfold oe at I ⊢;simp only [sH] at I ⊢;refine hh I ?_;intro I;refine aa.fi ai m C C C C C C C C C C ag ?_;refine hq ?_;refine aa.jW ai I C C C C C C aY C (jn 0 _ C) ?_;refine fH ?_;refine ae.xM (σ:=List af) (fun _=>[(0,.aA 4 (g.map eW) .bb),(3,eo dD g.length g.length),(4,.ptr n6 0),(5,.int .i64 (m:Int)),(6,.ptr tm (m*4))]) (fun cs'=>oe g n6 tm dD cap (m+1) cs') (fun cs'=>yv (some (tm,cap,cs')) ((k0 g (m+1)).set m (pW g m x))) ?_ ?_
  · refine ae.cond C (fun a7=>?_) (fun a7=>?_)
    · have a7:x.atom≥0:=by simpa using a7
      obtain ⟨BV,y9,acw,ace⟩:=aw.fe m x ab a7
      have iu:=fun (z:Int) (U:(m:Int)<z) (ad:z<g.length)=>(show ((iH g (m+1)).map ba)[z.toNat*1]? = some (.int .i64 ((iH g (m+1)).getD z.toNat 0)) from by
        rw [mul_one,getElem?_map,getD_eq_getElem?_getD,getElem?_eq_getElem (by rw [DM g hm];omega)];rfl)
      have rE:=yu (k:=1) (v := .int .i64 ((iH g (m+1)).getD x.no.toNat 0)) (o3 _) hN.2.2 (by rw [getElem?_map,H4];rfl) ag
      have oR:=yu (k:=2) (v := .int .i64 ((iH g (m+1)).getD x.yes.toNat 0)) (fun c aC=>by
        rcases List.mem_or_eq_of_mem_set aC with aC|rfl
        · exact o3 _ c aC
        · rfl) rE.2 (List.getElem?_set_self (by rw [length_map,HJ g hm];omega)) ag
      have DR:pW g m x={ x with no:=(iH g (m+1)).getD x.no.toNat 0,yes:=(iH g (m+1)).getD x.yes.toNat 0 }:=by unfold pW;rw [if_pos a7]
      have nH:=HJ g hm;have fy:m*4+3≤cs.length:=by rw [hN.1];have:=hN.2.1;omega
      have Nx:Nat.ble (m*4+1+[af.int .i64 ((iH g (m+1)).getD x.no.toNat 0)].length) cs.length=true:=by rw [Nat.ble_eq];show m*4+1+1≤_;omega
      have Ny:Nat.ble (m*4+2+[af.int .i64 ((iH g (m+1)).getD x.yes.toNat 0)].length) (eQ (m*4+1) [af.int .i64 ((iH g (m+1)).getD x.no.toNat 0)] cs).length=true:=by rw [Nat.ble_eq,rE.1];show m*4+2+1≤_;omega
      skip;refine ae.qm (dK [(dD,_)]) ai mixed C (bm.run (dK.one (bp.get aY I)) C ?_);refine bm.two (i:=6) (j:=13) (dK.one (bp.get aY I)) C C C C C C (aZ.eB ai I C C C aY (pC C (jn 1 _ C))) C C C C (aZ.eB ai I C C C aY (pC C (jn 2 _ C))) ?_ ?_
      · refine bm.fi 7 ai (dK.one (bp.get aY I)) (j:=x.no.toNat) C C C C C C C C C C C ag ag ?_
        refine bm.nN 8 ai (dK.one (bp.get aY I)) C C C C C C C C (fun _ h=>dK.fst h) (pC C (iu x.no ag ag)) ?_;refine bm.HY 13 ai I (dK.one (bp.get aY I)) C C C C C C C C aY (pC C (jn 2 _ C)) ?_;refine bm.fi 14 ai (dK.one (bp.get aY I)) (j:=x.yes.toNat) C C C C C C C C C C C ag ag ?_;refine bm.nN 15 ai (dK.one (bp.get aY I)) C C C C C C C C (fun _ h=>dK.fst h) (pC C (iu x.yes ag ag)) ?_;refine bm.run (dK.one (bp.get aY I)) C ?_;refine bm.cT 18 ai I C C C C C C C C C C C aY Nx (fun I => .inl (dK.one (bp.get aY I))) (fun I=>?_);refine bm.run (dK.one (bp.get aY I)) C ?_;refine bm.cT 21 ai I C C C C C C C C C C C aY Ny (fun _ => .inr C) (fun I=>?_);refine bc.done C ?_;skip
        exact lJ.mk _ I ⟨oR.1.trans (rE.1.trans hN.1),by rw [length_set];exact hN.2.1,by
          rw [length_set]
          refine oR.2.trans ?_
          rw [List.set_set,map_set,DR]
          rfl⟩ (cq C) (by simp only [oe];exact aX)
      · refine bm.fi 14 ai (dK.one (bp.get aY I)) (j:=x.yes.toNat) C C C C C C C C C C C ag ag ?_
        refine bm.nN 15 ai (dK.one (bp.get aY I)) C C C C C C C C (fun _ h=>dK.fst h) (pC C (iu x.yes ag ag)) ?_;refine bm.HY 6 ai I (dK.one (bp.get aY I)) C C C C C C C C aY (pC C (jn 1 _ C)) ?_;refine bm.fi 7 ai (dK.one (bp.get aY I)) (j:=x.no.toNat) C C C C C C C C C C C ag ag ?_;refine bm.nN 8 ai (dK.one (bp.get aY I)) C C C C C C C C (fun _ h=>dK.fst h) (pC C (iu x.no ag ag)) ?_;refine bm.run (dK.one (bp.get aY I)) C ?_;refine bm.cT 18 ai I C C C C C C C C C C C aY Nx (fun I => .inl (dK.one (bp.get aY I))) (fun I=>?_);refine bm.run (dK.one (bp.get aY I)) C ?_;refine bm.cT 21 ai I C C C C C C C C C C C aY Ny (fun _ => .inr C) (fun I=>?_);refine bc.done C ?_;skip
        exact lJ.mk _ I ⟨oR.1.trans (rE.1.trans hN.1),by rw [length_set];exact hN.2.1,by
          rw [length_set]
          refine oR.2.trans ?_
          rw [List.set_set,map_set,DR]
          rfl⟩ (cq C) (by simp only [oe];exact aX)
    · have a7:¬ x.atom≥0:=by simpa using a7
      have DR:pW g m x=x:=by unfold pW;rw [if_neg a7]
      refine gd ?_;exact lJ.mk cs I (by rw [DR,gk H4];exact hN) (cq C) (by simp only [oe];exact aX)
  intro cs' Ba I;generalize AB:pW g m x=y at Ba aI;have nH:=HJ g hm;have oR:(ec (m+1) (g.drop (m+1))).2.length=g.length-(m+1):=by rw [(yx _ _).2,List.length_drop]
  have Xy:∀ j,((k0 g (m+1)).set m y)[m+1+j]? = (ec (m+1) (g.drop (m+1))).2[j]? := fun j=>by
    rw [List.getElem?_set_ne ag,W2 g hm]
  have Xz:((k0 g (m+1)).set m y)[m]? = some y:=List.getElem?_set_self ag;have DS:=fun (k:Nat) (v:af) (aE:(gZ y)[k]? = some v)=>M9 (o3 _) Ba.2.2 (by rw [getElem?_map,Xz];rfl) aE
  have Nz:(k0 g (m+1)).set m y=k0 g m:=W6 au aI C;have XA:(g.length:Int)-1=((m+(g.length-1-m):Nat):Int):=by omega
  unfold oe at I ⊢;refine gm ?_;refine ae.b4 [0,3,4,5,6] C I (σ:=Nat) (fun c=>[(7,.int .i64 ((m+c:Nat):Int))]) (fun _=>oe g n6 tm dD cap (m+1) cs') (fun c=>m+c<g.length∧nR (r4 g m y) 0 (ec (m+1) (g.drop (m+1))).2=nR (r4 g m y) 0 ((ec (m+1) (g.drop (m+1))).2.take c)) (fun c=>c) (g.length-1-m) ⟨by omega,by rw [List.take_of_length_le ag]⟩ (by repeat (first|exact trivial|refine ⟨⟨_,rfl,aL⟩,?_⟩|refine ⟨⟨_,rfl,aS.of_eq (by (rw [jF,hw,XA]))⟩,?_⟩)) (by simp only [oe];exact aX) ?_;rintro c ⟨aC,an⟩ I;simp only [oe] at aC an I ⊢;cases c with
  | zero=>
    rw [an,take_zero,nR] at aI;refine b7 ?_;refine ae.cond C (fun h=>by simp at h) (fun _=>?_);refine bC ?_;refine aa.fi ai m C C C C C C C C C C ag ?_;refine aa.jX ai I _ C C C C C C C C C aY (by rw [length_map,DM g hm];show m*1+1≤_;omega) C (fun I=>?_);have x8:eQ (m*1) [.int .i64 (m:Int)] ((iH g (m+1)).map ba)=(iH g m).map ba:=by
      rw [pD,mul_one,← Nd aI C,map_set];rfl
    refine fG ?_;exact bn.mk (m,cs') I ⟨by omega,by rw [← Nz];exact Ba⟩ (by repeat (first|exact trivial|refine ⟨⟨_,rfl,aL⟩,?_⟩|refine ⟨⟨_,rfl,aS.of_eq x3⟩,?_⟩)) (by simp only [oe,← x8];exact aX) (by show m<m+1;omega)
  | succ c=>
    have cv:c<(ec (m+1) (g.drop (m+1))).2.length:=by omega
    obtain ⟨z,bO⟩:∃ z,(ec (m+1) (g.drop (m+1))).2[c]? = some z:=⟨_,getElem?_eq_getElem cv⟩;have NA:=Xy c;rw [bO] at NA;have iu:((iH g (m+1)).map ba)[(m+1+c)*1]? = some (.int .i64 ((ec (m+1) (g.drop (m+1))).1.getD c 0)):=by
      rw [← HK,mul_one,getElem?_map,getD_eq_getElem?_getD,getElem?_eq_getElem (by rw [DM g hm];omega)];rfl
    have hA:(ec (m+1) (g.drop (m+1))).2.take (c+1)=(ec (m+1) (g.drop (m+1))).2.take c++[z]:=by rw [List.take_add_one,bO];rfl
    rw [hA,Nc,zero_add,List.length_take,Nat.min_eq_left ag] at an;have oS:r4 g m y c z=((ec (m+1) (g.drop (m+1))).1.getD c 0==((m+1+c:Nat):Int)&&z==y):=rfl;obtain ⟨dG,pN,H2⟩:=HL _ _ _ _ bO;have m8:=aw.ms dG (List.mem_of_mem_drop pN);have h5:=aw.ms x (mem_of_getElem? ab);have zq:=W7 g m x;rw [AB] at zq;have heq:=z1 y.ms z.ms (by rw [zq];omega) (by rw [H2];omega);have Xa:(((m+(c+1):Nat):Int)-1)=((m+c:Nat):Int):=by omega
    have r6:((m+1+c:Nat):Int)=((m+(c+1):Nat):Int):=by omega
    refine b7 ?_;refine ae.cond C (fun _=>?_) (fun h=>by simp at h;omega);refine cI I ?_;intro I;refine aa.fi ai (m+1+c) C C C C C C C C C ag ag ?_;refine aa.eB ai I C C C C C C aY (M3 C (o3 _) Ba.2.2 (by rw [getElem?_map,NA];rfl)) ?_;refine ej ?_;refine aN.fi ai (m+1+c) C C C C C C C C C ag ag ?_;refine aN.jW ai I C C C C C C aY C iu ?_;refine ld ?_;by_cases c4:(ec (m+1) (g.drop (m+1))).1.getD c 0=((m+(c+1):Nat):Int);rotate_left
    · refine aN.split 74 C (fun h=>absurd fD c4) (fun _=>?_)
      have l8:r4 g m y c z=false:=by rw [oS,r6,show ((ec (m+1) (g.drop (m+1))).1.getD c 0==((m+(c+1):Nat):Int))=false from beq_eq_false_iff_ne.2 c4,Bool.false_and]
      rw [l8,if_neg a'] at an;refine jE ?_;exact bn.mk c I ⟨by omega,an⟩ (by repeat (first|exact trivial|refine ⟨⟨_,rfl,aL⟩,?_⟩|refine ⟨⟨_,rfl,aS.of_eq A8⟩,?_⟩)) aX (by show c<c+1;omega)
    refine aN.split 74 C (fun _=>?_) (fun h=>absurd c4 fD);rw [r6,show ((ec (m+1) (g.drop (m+1))).1.getD c 0==((m+(c+1):Nat):Int))=true from beq_iff_eq.2 c4,Bool.true_and,W5] at oS;refine ld ?_;refine aN.jW ai I C C C C C C aY C (DS 0 _ C) ?_;refine ld ?_;by_cases dd:y.atom=z.atom;rotate_left
    · refine aN.split 83 C (fun h=>absurd fD dd) (fun _=>?_)
      have l8:r4 g m y c z=false:=by rw [oS,show decide (z.atom=y.atom)=false from decide_eq_false (fun e=>dd e.symm)];simp
      rw [l8,if_neg a'] at an;refine jE ?_;exact bn.mk c I ⟨by omega,an⟩ (by repeat (first|exact trivial|refine ⟨⟨_,rfl,aL⟩,?_⟩|refine ⟨⟨_,rfl,aS.of_eq A8⟩,?_⟩)) aX (by show c<c+1;omega)
    refine aN.split 83 C (fun _=>?_) (fun h=>absurd dd fD);rw [show decide (z.atom=y.atom)=true from decide_eq_true dd.symm,Bool.true_and] at oS;refine ld ?_;refine aN.jW ai I C C C C C C aY C (DS 1 _ C) ?_;refine ld ?_;by_cases eZ:y.no=z.no;rotate_left
    · refine aN.split 92 C (fun h=>absurd fD eZ) (fun _=>?_)
      have l8:r4 g m y c z=false:=by rw [oS,show decide (z.no=y.no)=false from decide_eq_false (fun e=>eZ e.symm)];simp
      rw [l8,if_neg a'] at an;refine jE ?_;exact bn.mk c I ⟨by omega,an⟩ (by repeat (first|exact trivial|refine ⟨⟨_,rfl,aL⟩,?_⟩|refine ⟨⟨_,rfl,aS.of_eq A8⟩,?_⟩)) aX (by show c<c+1;omega)
    refine aN.split 92 C (fun _=>?_) (fun h=>absurd eZ fD);rw [show decide (z.no=y.no)=true from decide_eq_true eZ.symm,Bool.true_and] at oS;refine ld ?_;refine aN.jW ai I C C C C C C aY C (DS 2 _ C) ?_;refine ld ?_;by_cases ph:y.yes=z.yes;rotate_left
    · refine aN.split 101 C (fun h=>absurd fD ph) (fun _=>?_)
      have l8:r4 g m y c z=false:=by rw [oS,show decide (z.yes=y.yes)=false from decide_eq_false (fun e=>ph e.symm)];simp
      rw [l8,if_neg a'] at an;refine jE ?_;exact bn.mk c I ⟨by omega,an⟩ (by repeat (first|exact trivial|refine ⟨⟨_,rfl,aL⟩,?_⟩|refine ⟨⟨_,rfl,aS.of_eq A8⟩,?_⟩)) aX (by show c<c+1;omega)
    refine aN.split 101 C (fun _=>?_) (fun h=>absurd ph fD);rw [show decide (z.yes=y.yes)=true from decide_eq_true ph.symm,Bool.true_and] at oS;refine ld ?_;refine aN.jW ai I C C C C C C aY C (DS 3 _ C) ?_;have NB:(z.ms==y.ms)=(y.ms==z.ms):=by rw [Bool.eq_iff_iff,beq_iff_eq,beq_iff_eq];exact ⟨fun h=>h.symm,fun h=>h.symm⟩
    cases rK:y.ms==z.ms with
    | false=>
      have l8:r4 g m y c z=false:=by rw [oS,NB,rK]
      rw [rK] at heq;rw [l8,if_neg a'] at an;refine bW ?_;exact bn.mk c I ⟨by omega,an⟩ (by repeat (first|exact trivial|refine ⟨⟨_,rfl,aL⟩,?_⟩|refine ⟨⟨_,rfl,aS.of_eq A8⟩,?_⟩)) aX (by show c<c+1;omega)
    | true=>
      have l8:r4 g m y c z=true:=by rw [oS,NB,rK]
      rw [l8,if_pos C] at an;rw [an] at aI;simp only [r6] at aI;rw [rK] at heq;refine c1 ?_;refine aa.fi ai m C C C C C C C C C C ag ?_;refine aa.jX ai I _ C C C C C C C C C aY (by rw [length_map,DM g hm];show m*1+1≤_;omega) C (fun I=>?_);have x8:eQ (m*1) [.int .i64 ((m+(c+1):Nat):Int)] ((iH g (m+1)).map ba)=(iH g m).map ba:=by
        rw [pD,mul_one,← Nd aI C,map_set];rfl
      refine bC ?_;exact bn.mk (m,cs') I ⟨by omega,by rw [← Nz];exact Ba⟩ (by repeat (first|exact trivial|refine ⟨⟨_,rfl,aL⟩,?_⟩|refine ⟨⟨_,rfl,aS.of_eq x3⟩,?_⟩)) (by simp only [oe,← x8];exact aX) (by show m<m+1;omega)
end Go.Proofs.YtnafpeohfbglmaaGreat
namespace Go.cU
section
variable {P:Program} {Γ:cw} {N:Nat} {l:List Oper} {i:Nat} {rest:List Oper} {Q:b8→Env→ao→Prop} {env:Env} {s:ao} {o:Oper} {d:Nat}
theorem aN.rp {J:ao→Prop} (aP:bQ P Γ) {t bH e:TypeId} {x y:Operand} {it ct aG:bM} {dR bU:Nat} {xs ys:List af} {own dj:bL} (aw:c7 l env o) (ax:o.dst=some d) (aU:Nat.blt d N=true)
  (ah:o.op = .call { callee := .builtin .append,args := #[x,y],argTypes := #[t,bH] }) (aM:Γ.get? t=some it) (br:it.bF = .aA e) (cV:Γ.get? bH=some ct) (dn:∀ k,ct.bF ≠ .int k)
  (bI:Γ.get? e=some aG) (ab:aJ (bZ l env o) x=some (.aA dR xs own)) (ay:aJ (bZ l env o) y=some (.aA bU ys dj)) (hT:xs=[]∨dR=aG.size) (c8:ys=[]∨bU=aG.size)
  (dO:Nat.beq aG.zero.cells.size aG.size=true) (dJ:∀ y∈ys,j5 aG.size y=true) (aq:(xs.length+ys.length)*aG.bytes≤140737488355328) (ei:xs.length+ys.length≤9223372036854775807)
  (pv:own = .nil∨own = .clip) (h:aN J P Γ N l (i+1) rest Q ((d,.aA aG.size (xs++ys) .bb)::env) s):aN J P Γ N l i (o::rest) Q env s:=
 aN.calm aw ax aU (fun _ _=>aZ.rp aP ah aM br cV dn bI ab ay hT c8 dO dJ aq ei pv) h
end
end Go.cU
namespace Go.eb
def H5 (N:List b0) (order:List Int) (y:Int):Prop:=∀ x,N[y.toNat]? = some x→x.atom≥0→x.no∈order∧x.yes∈order
theorem H5.mono {N:List b0} {o o':List Int} {y:Int} (h:H5 N o y) (ar:∀ z∈o,z∈o'):H5 N o' y:=fun x ab a7=>⟨ar _ (h x ab a7).1,ar _ (h x ab a7).2⟩
theorem H6 {order:List Int} (az:order.Nodup) {i:Nat} {x:Int} (ab:order[i]? = some x):placeOf order x=(i:Int):=by
 obtain ⟨U,ad⟩:=List.getElem?_eq_some_iff.1 ab;have:order.findIdx? (· == x)=some i:=by
  rw [List.findIdx?_eq_some_iff_getElem];refine ⟨U,by rw [ad];simp,fun j aK=>?_⟩;rw [Bool.not_eq_true,beq_eq_false_iff_ne];intro he;have:=(List.getElem_inj az).1 (he.trans ad.symm);omega
 unfold placeOf;rw [this];rfl
end Go.eb
namespace Go.cU
section
variable {P:Program} {Γ:cw} {N:Nat} {env:Env} {s:ao} {Q:b8→Env→ao→Prop} {L R:a8}
theorem dw.H7 {B:fL} {ro:Option Nat} {a:Act} {w:World} {p:bR} (h:dw N B ro env s a w p) {t b n cap sz:Nat} {T:TypeId} {cs:List af} {xss:List (List af)} (aM:env.get? t=some (eo b n cap)) (ar:s b=some (.box T cs)) (ab:cs.take (n*sz)=xss.flatten) (fc:xss.length=n) (b':∀ c∈xss,c.length=sz) (az:n≤cap) (hm:n≤9223372036854775807):∃ bj,dw N B ro ((t,.aA sz (xss.map af.agg) .bb)::env) (s.del b) a w bj∧dc w p w bj∧Kept s (s.del b) w p w bj:=by
 have Fi:dw N B ro ((a.tmps.size,.any)::[]) s a w p:=h.restrict _ (fun t v av=>by
  simp only [Env.get?] at av
  split at av
  ·cases av;exact .any _
  ·cases av)
 obtain ⟨vs,U,ad,al⟩:=h.wf.obj _ _ ar;have au:b<w.heap.size:=(Array.getElem?_eq_some_iff.1 U).1;have hle:dc w p w (p.ee b True):=⟨rfl,rfl,rfl,le_refl _,fun _ _ h => .inl h,fun _ _ _=>rfl,fun _ _ h=>h⟩
 have aE:Kept s (s.del b) w p w (p.ee b True):=⟨fun _ _ _=>rfl,fun aW aq az=>by
  by_cases e:aW=b
  ·subst e;exact ao.m6 _ _
  ·rw [ao.mv _ e];exact az,fun aW o aq az aD=>by
   rcases aD with aD|⟨rfl,_⟩
   ·exact aD
   ·rw [ar] at az;cases az⟩
 have cc:dm w (p.ee b True) (s.del b):=by
  refine ⟨fun aW o aq=>?_,fun aW o aD=>by rcases aD with aD|⟨rfl,_⟩;exact h.wf.lt _ _ aD;exact au⟩;by_cases e:aW=b
  ·subst e;rw [ao.m6] at aq;cases aq
  ·rw [ao.mv _ e] at aq
   have ah:=h.wf.obj aW o aq;have e6:∀ o,p.ee b True aW o↔p aW o:=fun o=>⟨fun aD=>by rcases aD with aD|⟨e',_⟩;exact aD;exact absurd e' e,.inl⟩
   cases o with
   | box t c=>obtain ⟨us,g1,g2,g3⟩:=ah;exact ⟨us,g1,g2.mono hle,fun o aD=>g3 o ((e6 o).1 aD)⟩
   | row t sz n=>obtain ⟨cur,g1,g2,g3,g4⟩:=ah;exact ⟨cur,g1,g2,g3,fun o=>(e6 o).trans (g4 o)⟩
   | map es=>obtain ⟨cN,c,g1,g2,g3⟩:=ah;exact ⟨cN,c,g1,⟨g2.1.mono hle,g2.2.mono hle⟩,g3⟩
   | k3 es it l c=>exact ah.p7 hle C C
   | tick m=>exact ah
   | loop r env=>exact ⟨ah.1,fun t v h=>(ah.2 t v h).mono hle⟩
 have aI:=h.step hle aE cc;refine ⟨_,⟨aI.size,fun bH v av=>?_,aI.wf,aI.defs,aI.round,aI.base⟩,hle,aE⟩;simp only [Env.get?] at av;split at av
 ·rename_i he
  have:=eq_of_beq_eq_true he;subst this;cases av;have aF:=h.env t _ aM;generalize a.tmps.getD t undef=dP at aF;cases aF;have hA:=ad.take (n*sz);rw [ab] at hA;obtain ⟨us,cg,bY,eR⟩:=FQ hA b';refine .aA b 0 n cap sz us (xss.map af.agg) .bb a' (by rw [length_map,fc]) ?_ (cg.mono hle) eR hm az (fun h=>by cases h) (fun b h=>by cases h);rw [bY];intro i v aQ;refine ⟨.inr ⟨rfl,trivial⟩,?_⟩;rw [zero_add,jB U];rw [List.getElem?_take] at aQ;split at aQ
  ·simpa using aQ
  ·cases aQ
 ·exact aI.env bH v av
theorem ae.H7 {c:Code} (I:Ok s L) (t b:Nat) {n cap sz:Nat} {T:TypeId} {cs:List af} {xss:List (List af)} (aM:env.get? t=some (eo b n cap)) (ar:bp L (.own b) (.box T cs) R) (ab:cs.take (n*sz)=xss.flatten) (fc:xss.length=n) (b':∀ c∈xss,c.length=sz) (az:n≤cap) (hm:n≤9223372036854775807)
  (h:Ok s R→ae P N c Q ((t,.aA sz (xss.map af.agg) .bb)::env) (aT s R)):ae P N c Q env (aT s L):=by
 obtain ⟨U,ad⟩:=ar.del I;intro sT B a w p eU aI;obtain ⟨bj,al,bd,bD⟩:=aI.H7 aM (ar.get I) ab fc b' az hm;rw [U] at al bD;exact l0 (h ad sT B a w bj eU al) fun _ _ _ q=>q.after bd bD
end
end Go.cU
namespace Go.Proofs.YtnafpeohfbglmaaGreat
open Go.cU Go.eb
def Bb (n:Nat) (order:List Int) (j:Nat) (R:List Int):Prop:=R.length=n∧∀ (i:Nat) (x:Int),i<j→order[i]? = some x→R[x.toNat]? = some ((order.length:Int)-1-i)
theorem Bb.step {n:Nat} {order:List Int} (ah:o4 n order) {j:Nat} {R:List Int} (h:Bb n order j R) {a:Nat} (a7:order[j]? = some (a:Int)):Bb n order (j+1) (R.set a ((order.length:Int)-1-j)):=by
 have pB:=ah.lt _ (mem_of_getElem? a7);refine ⟨by rw [length_set];exact h.1,fun i x aQ ab=>?_⟩;have fc:=ah.lt _ (mem_of_getElem? ab);by_cases eK:i=j
 ·subst eK
  rw [a7] at ab;cases ab;rw [toNat_natCast,List.getElem?_set_self (by rw [h.1];omega)]
 ·have cP:x≠(a:Int):=fun e=>by
   have U:=H6 ah.nodup ab;have ad:=H6 ah.nodup a7;rw [e,ad] at U;omega
  rw [List.getElem?_set_ne ag];exact h.2 i x ag ab
theorem Bb.all {n:Nat} {order:List Int} (ah:o4 n order) {R:List Int} (h:Bb n order order.length R) {x:Int} (ab:x∈order):R[x.toNat]? = some ((order.length:Int)-1-placeOf order x):=by
 obtain ⟨i,aQ⟩:=List.getElem?_of_mem ab;rw [H6 ah.nodup aQ];exact h.2 i x (List.getElem?_eq_some_iff.1 aQ).1 aQ
theorem XB (p:bP) (aD:fj p) (x:iQ) (size:Int):aR Tryz.prog 227 [cA p,jd x,.int .i64 size] (.bool (mJ p x size)):=by
 have aq:=bA;refine aR.bh ai Tryz.func227 C C fun s I=>?_
 have cv:=aD.cls;have jF:=aD.d';have U:=LJ x.n;have dG:IntKind.wrap .i64 (3+((p.ck.map jc).length:Int))=3+(p.ck.length:Int):=by rw [length_map,ek ag ag]
 unfold cA cL jd kP bf;by_cases aF:x.op=1∨x.op=3∨x.op=4∨x.op=7∨x.op=6∨x.op=8∨x.op=5
 ·rcases aF with h|h|h|h|h|h|h
  all_goals
   have hm:mJ p x size=mJ p x size:=rfl
   conv at hm=>rhs;unfold mJ
   rw [h] at hm ⊢;simp only [Int.reduceEq,if_true,if_false,true_or,or_true,or_self,reduceIte] at hm;rw [hm]
   repeat' (first|(with_reducible first|apply ae.seq|apply b5|apply fF|apply fz|apply hg|apply ae.ret|apply ae.skip|apply ae.block)|refine c0 C ?_|refine ae.cH ?_|refine aa.nil ?_|refine ae.ft C ?_|refine ae.gP C ?_|refine cE C ?_|refine aa.skip C C C ?_|refine aa.eg C C C C C cu ?_|(fail_if_success refine aa.same true C ?_);(fail_if_success refine aa.same false C ?_);refine aa.gV C C (fun h=>?_) (fun h=>?_))
  all_goals (refine Fin.cx I C (aS.of_eq (congrArg af.bool ?_));clear I U;(try simp only [length_map] at *)<;>grind)
 ·have hm:mJ p x size=(decide (x.n≥0)&&decide (x.n<1)):=by
   unfold mJ;rw [if_neg ag,if_neg ag,if_neg ag,if_neg ag,if_neg ag]
  rw [hm]
  repeat (first|(refine CH ?_)|refine ae.cond C (fun h=>absurd h (by first|(simp;done)|(simp;omega))) (fun _=>?_))
  repeat' (first|(with_reducible first|apply b5|apply ae.ret)|refine aa.nil ?_|refine cE C ?_|refine aa.skip C C C ?_|(fail_if_success refine aa.same true C ?_);(fail_if_success refine aa.same false C ?_);refine aa.gV C C (fun h=>?_) (fun h=>?_))
  all_goals (refine Fin.cx I C (aS.of_eq (congrArg af.bool ?_));clear I U;grind)
theorem XC (w:bx):∀ (n:Nat) (f:ak),f.size≤n→n<bz→gx w f=true→aR Tryz.prog 230 [f.bK] (.int .i64 (lg f)):=by
 have aq:=bA;intro n
 induction n with
 | zero=>intro x h;have:=x.size_eq;omega
 | succ n a1=>
  intro f az iY aw;refine aR.bh ai Tryz.func230 C C fun s I=>?_
  have iB:=f.size_eq;have hlen:=ak.pz f.kids;rw [nh,and_eq_true] at aw;rw [ak.bX];rw [CW];have a7:f.cW=true→IntKind.wrap .i64 (f.arg+1)=f.arg+1:=fun aB=>by
   have az:=aw.1;simp only [hX,aB,if_true,and_eq_true,decide_eq_true_eq] at az;exact ek ag ag
  unfold ak.cells;cases aB:f.cW with
  | true=>
   have XD:f.op=2∨f.op=3∨f.op=4:=by unfold ak.cW at aB;simp at aB;omega
   rcases XD with h|h|h
   ·rw [h]
    refine bC ?_;refine ae.b4 [24,23] C I (σ:=Nat) (fun j=>[(25,.int .i64 (j:Int)),(3,.int .i64 (iR (if f.cW then f.arg+1 else 0) (f.kids.take j)))]) (fun _=>[]) (fun j=>j≤f.kids.length) (fun j=>f.kids.length-j) 0 (zero_le _) (by repeat (first|exact trivial|refine ⟨⟨_,rfl,aL⟩,?_⟩|refine ⟨⟨_,rfl,aS.of_eq uo⟩,?_⟩)) aX ?_;rintro j aK I;refine b7 ?_;refine ae.cond C (fun au=>?_) (fun aV=>?_);rotate_left
    ·have aV:j=f.kids.length:=by simp at aV;omega
     subst aV;rw [take_length];refine dN ?_;exact Fin.cx I C (aS.of_eq (by rw [aB]))
    have au:j<f.kids.length:=by simpa using au
    obtain ⟨k,aE,eC⟩:=b1 (f:=ak.bK) au;have hm:=ak.hV (mem_of_getElem? aE);have aC:=a1 k ag ag (ka aw.2 (mem_of_getElem? aE));rw [ak.bX] at eC aC;refine ej ?_;refine bn.mk (j+1) I au (by repeat (first|exact trivial|refine ⟨⟨_,rfl,aL⟩,?_⟩|refine ⟨⟨_,rfl,aS.of_eq uk⟩,?_⟩)) aX nY
   ·rw [h]
    refine bC ?_;refine ae.b4 [24,23] C I (σ:=Nat) (fun j=>[(25,.int .i64 (j:Int)),(3,.int .i64 (iR (if f.cW then f.arg+1 else 0) (f.kids.take j)))]) (fun _=>[]) (fun j=>j≤f.kids.length) (fun j=>f.kids.length-j) 0 (zero_le _) (by repeat (first|exact trivial|refine ⟨⟨_,rfl,aL⟩,?_⟩|refine ⟨⟨_,rfl,aS.of_eq uo⟩,?_⟩)) aX ?_;rintro j aK I;refine b7 ?_;refine ae.cond C (fun au=>?_) (fun aV=>?_);rotate_left
    ·have aV:j=f.kids.length:=by simp at aV;omega
     subst aV;rw [take_length];refine dN ?_;exact Fin.cx I C (aS.of_eq (by rw [aB]))
    have au:j<f.kids.length:=by simpa using au
    obtain ⟨k,aE,eC⟩:=b1 (f:=ak.bK) au;have hm:=ak.hV (mem_of_getElem? aE);have aC:=a1 k ag ag (ka aw.2 (mem_of_getElem? aE));rw [ak.bX] at eC aC;refine ej ?_;refine bn.mk (j+1) I au (by repeat (first|exact trivial|refine ⟨⟨_,rfl,aL⟩,?_⟩|refine ⟨⟨_,rfl,aS.of_eq uk⟩,?_⟩)) aX nY
   ·rw [h]
    refine bC ?_;refine ae.b4 [24,23] C I (σ:=Nat) (fun j=>[(25,.int .i64 (j:Int)),(3,.int .i64 (iR (if f.cW then f.arg+1 else 0) (f.kids.take j)))]) (fun _=>[]) (fun j=>j≤f.kids.length) (fun j=>f.kids.length-j) 0 (zero_le _) (by repeat (first|exact trivial|refine ⟨⟨_,rfl,aL⟩,?_⟩|refine ⟨⟨_,rfl,aS.of_eq uo⟩,?_⟩)) aX ?_;rintro j aK I;refine b7 ?_;refine ae.cond C (fun au=>?_) (fun aV=>?_);rotate_left
    ·have aV:j=f.kids.length:=by simp at aV;omega
     subst aV;rw [take_length];refine dN ?_;exact Fin.cx I C (aS.of_eq (by rw [aB]))
    have au:j<f.kids.length:=by simpa using au
    obtain ⟨k,aE,eC⟩:=b1 (f:=ak.bK) au;have hm:=ak.hV (mem_of_getElem? aE);have aC:=a1 k ag ag (ka aw.2 (mem_of_getElem? aE));rw [ak.bX] at eC aC;refine ej ?_;refine bn.mk (j+1) I au (by repeat (first|exact trivial|refine ⟨⟨_,rfl,aL⟩,?_⟩|refine ⟨⟨_,rfl,aS.of_eq uk⟩,?_⟩)) aX nY
  | false=>
   have ad:(f.op==2)=false:=by unfold ak.cW at aB;simp at aB ⊢;omega
   have al:(f.op==3)=false:=by unfold ak.cW at aB;simp at aB ⊢;omega
   have bd:(f.op==4)=false:=by unfold ak.cW at aB;simp at aB ⊢;omega
   refine dv ?_;refine aa.cY 9 C ad ?_;refine dy ?_;refine aa.cY 14 C al ?_;refine fH ?_;refine ae.cond C (fun h=>by rw [bd] at h;cases h) (fun _=>?_);refine jb ?_;refine ae.b4 [24,23] C I (σ:=Nat) (fun j=>[(25,.int .i64 (j:Int)),(3,.int .i64 (iR (if f.cW then f.arg+1 else 0) (f.kids.take j)))]) (fun _=>[]) (fun j=>j≤f.kids.length) (fun j=>f.kids.length-j) 0 (zero_le _) (by repeat (first|exact trivial|refine ⟨⟨_,rfl,aL⟩,?_⟩|refine ⟨⟨_,rfl,aS.of_eq uo⟩,?_⟩)) aX ?_;rintro j aK I;refine b7 ?_;refine ae.cond C (fun au=>?_) (fun aV=>?_);rotate_left
   ·have aV:j=f.kids.length:=by simp at aV;omega
    subst aV;rw [take_length];refine dN ?_;exact Fin.cx I C (aS.of_eq (by rw [aB]))
   have au:j<f.kids.length:=by simpa using au
   obtain ⟨k,aE,eC⟩:=b1 (f:=ak.bK) au;have hm:=ak.hV (mem_of_getElem? aE);have aC:=a1 k ag ag (ka aw.2 (mem_of_getElem? aE));rw [ak.bX] at eC aC;refine ej ?_;refine bn.mk (j+1) I au (by repeat (first|exact trivial|refine ⟨⟨_,rfl,aL⟩,?_⟩|refine ⟨⟨_,rfl,aS.of_eq uk⟩,?_⟩)) aX nY
theorem XE (w:World):(Instr.typeAssert .nilIface 20 291 true).run Tryz.prog w = .ok (.tuple #[.agg #[],.bool false]) w:=by kernel_rfl
theorem XF (w:World):(Instr.typeAssert (.iface 291 (.agg #[])) 20 291 true).run Tryz.prog w = .ok (.tuple #[.agg #[],.bool true]) w:=by kernel_rfl
theorem XG (b:Nat) (w:World) :
  CallsD Tryz.prog 247 #[.pointer (some ⟨b,0,none⟩)] .returning w fun e jP w'=>e = .returned (.tuple #[])∧jP = .returning∧w'=w.alloc (.cells #[] 291):=by
 refine callsD_of_wpS Tryz.func247 C fun w3 cs hu=>?_
 apply wpS_seq;apply wpS_region;simp [wpOpsS,go_sem,recoverD,hu,Tryz.ntmps247, Exit.thenS,XE];refine wpS_of_wp ?_;go_wp2;cases w3;simp_all [bodyPostS,results,Tryz.results247, Exit.thenS]
theorem XH (b:Nat) (w:World) (rest:List PanicEntry) (x:Value) (aq:w.heap[b]? = some (.cells #[x] 4 (0,0))) :
  CallsD Tryz.prog 247 #[.pointer (some ⟨b,0,none⟩)] (.panicking ({ v := .iface 291 (.agg #[]),recovered:=false }::rest)) w
   fun o jP w'=>o = .returned (.tuple #[])∧jP = .panicking ({ v := .iface 291 (.agg #[]),recovered:=true }::rest)∧w'=(w.alloc (.cells #[] 291)).setRow b #[.bool false]:=by
 refine callsD_of_wpS Tryz.func247 C fun w3 cs hu=>?_
 apply wpS_seq;apply wpS_region;simp [wpOpsS,go_sem,recoverD,hu,Tryz.ntmps247, Exit.thenS,XF];have dI:=(l3 w (.cells #[] 291) b (Array.getElem?_eq_some_iff.1 aq).1).trans aq;have dd:(w.alloc (.cells #[] 291)).cell? ⟨b,0,none⟩=some x:=by rw [jB dI];rfl
 have ph:(w.alloc (.cells #[] 291)).frozen? ⟨b,0,none⟩=false:=by simp [World.frozen?,dI]
 have rK:=K5 (x := .bool false) dI;generalize w.alloc (.cells #[] 291)=dG at dd ph rK ⊢;refine wpS_of_wp ?_;go_wp2;cases w3;simp_all [bodyPostS,results,Tryz.results247, Exit.thenS]
theorem DT {w:World} {p:bR} {v:Value} {b o:Nat} (h:Rel w p v (.ptr b o)):v = .pointer (some ⟨b,o,none⟩):=by cases h;rfl
theorem XI {w:World} {p:bR} {x:Value} (h:Rel w p x Hw):x = .iface 291 (.agg #[]):=by
 cases h with
 | iface _ y _ h=>
 cases h with
 | agg cs xs h=>
 generalize hy:cs.toList=l at h;cases h;have:cs = #[]:=by rw [← toArray_toList (xs:=cs),hy]
 rw [this]
def XJ (py:ao) (n:Nat) (r:Bool):b8→Env→ao→Prop
 | .ret,env,aj=>env.get? 4=some (.ptr n 0)∧r=true∧∃ M,aj=aT py M∧Ok py M∧∃ R,bp M (.own n) (.box 4 [.bool true]) R
 | .panic x,env,aj=>env.get? 4=some (.ptr n 0)∧r=false∧x=Hw∧∃ M,aj=aT py M∧Ok py M∧∃ y R,bp M (.own n) (.box 4 [y]) R
 | _,_,_=>False
theorem XK (lM:bx) (hw:gw lM) (l:List cf) (aB:3*l.length+3<bz) (ab:∀ x∈l,tb lM x):aR Tryz.prog 211 [gg lM,pQ l] (.bool (mU lM (et l))):=by
 intro s;refine ⟨call211, fun w p vs cc eM=>?_⟩;cases eM with
 | cons v0 _ vs _ bt aM=>
 cases aM with
 | cons v1 _ vs _ U aM=>
 cases aM;unfold sg;refine Ki (T:=[{ target := .fn (.func 247) #[.pointer (some ⟨w.heap.size,0,none⟩)],args := #[] }]) Tryz.func211 C ?_;go_wp2;intro b tW eU;obtain ⟨az,hle,aE,DU⟩:=rb cc (.cells #[Value.bool false] 4) (.box 4 [.bool false]) (fun w' U ad al=>⟨#[.bool false],U,al _ _ (.cons _ _ _ _ (.bool _) .nil),fun o aD=>absurd (cc.lt _ _ aD) ag⟩);refine l0 (ae.use (N:=10) (env:=[(0,gg lM),(1,pQ l),(4,.ptr w.heap.size 0)]) (s:=aT s [(.own w.heap.size,.box 4 [.bool false])]) (Q:=XJ s w.heap.size (mU lM (et l))) (B:=(w.heap.size+1,[{ target := .fn (.func 247) #[.pointer (some ⟨w.heap.size,0,none⟩)],args := #[] }])) (p:=p) ?_ (by rw [eU];rfl) ⟨by simp,fun t v av=>?_,DU,⟨[],by simp [marksOf],by simp,by simp⟩,fun l aB=>(by rw [tW] at aB;cases aB),by simp⟩) ?_
 ·have I:Ok s [(.own w.heap.size,.box 4 [.bool false])]:=⟨az,trivial⟩
  generalize w.heap.size=n at I ⊢;have aI:=Wc lM hw.kt l aB ab;have NC:=VV (w:=lM) (l:=l) (fun x h=>⟨(ab x h).node,(ab x h).leaf⟩);refine jS ?_;refine aa.b3 rfl rfl rfl rfl rfl aI I .nil ?_ (fun _ _ ⟨_,h,_⟩ _=>by cases h);rintro _ _ ⟨mb,⟨⟩,es,rfl,cF⟩ I;have ch:uJ (3*l.length) (et l):=⟨fun arg path h=>(NC (bs arg path)).1 (by show 2≤(path.length:Int);omega),cF.mm⟩;have gJ:DA lM (et l):=⟨fun q=>(NC q).2⟩;have ym:=Wz lM hw mb (3*l.length) ag (et l) ch gJ (E:=[]) (mn (et l) mb es) ⟨es,rfl,cF⟩;skip;refine aa.b3 C C C C C ym I (aH.js (aH.all _)) ?_ ?_
  ·rintro _ aO ⟨ah,du,rfl,je⟩ I
   cases hm:mU lM (et l) with
   | false=>rw [hm] at ah;cases ah
   | true=>
    have ar:=bp.app (mn (et l) mb du) (bp.here (L:=[]) (k := .own n) (o := .box 4 [.bool false]));rw [nil_append] at I;refine aa.l9 I [(.own n,.box 4 [.bool false])] (.cons ar .nil) (fun I=>?_);refine cI I ?_;intro I;exact ⟨rfl,rfl,_,rfl,I,_,.here⟩
  ·rintro x aO ⟨ah,du,rfl,je⟩ I
   cases hm:mU lM (et l) with
   | true=>rw [hm] at ah;cases ah
   | false=>
    rw [hm] at ah;cases ah;exact ⟨rfl,rfl,rfl,_,rfl,I,_,_,bp.app _ .here⟩
 ·simp only [Env.get?] at av
  split at av
  ·rename_i e;cases av;obtain rfl:=eq_of_beq_eq_true e
   exact bt.mono hle
  split at av
  ·rename_i e;cases av;obtain rfl:=eq_of_beq_eq_true e
   exact U.mono hle
  split at av
  ·rename_i e;cases av;obtain rfl:=eq_of_beq_eq_true e
   simp [getD_eq_getD_getElem?];exact .ptr _ 0
  ·cases av
 ·rintro e c' w' ⟨x,eP,aj,bj,bJ,bq,hJ,zu,eC⟩
  obtain ⟨cb,sG,eF,e8⟩:=hJ.defs;obtain ⟨cg,bY,eR,nF⟩:=Fa cb w' hJ.wf (fun d ax=>⟨_,(e8 d ax).2.1⟩);have bN:dc w p (hn w' cb) bj:=(hle.trans zu).trans cg;have tX:=aE.trans hle.size eC;have bg:Kept s s w p (hn w' cb) bj:=⟨fun aW dI fX=>(eR aW (fun hm=>by have:=(e8 aW hm).1;simp only at this;omega)).trans (tX.heap aW dI fX),fun _ _ h=>h,tX.k2⟩;have dW:=tG bY.lt (.cells #[] 291) True;have a2:=BO (s:=s) (w:=hn w' cb) (p:=bj) (.cells #[] 291) True;cases bJ with
  | exit id=>exact bq.elim
  | normal=>exact bq.elim
  | ret=>
   obtain ⟨bd,aF,M,rfl,iN,R,og⟩:=bq;have w4:=bY.sub iN.sub;obtain ⟨cm,mi,h2,Bc⟩:=bY.obj _ _ (og.get iN);have Bd:cm = #[.bool true]:=by
    generalize aB:cm.toList=Cd at h2;cases h2 with
    | cons v _ vs _ av aM=>
    cases aM;cases av;rw [← toArray_toList (xs:=cm),aB]
   subst Bd;have au:w.heap.size<(hn w' cb).heap.size:=(Array.getElem?_eq_some_iff.1 mi).1;have Be:=(l3 (hn w' cb) (.cells #[] 291) w.heap.size au).trans mi;have jz:((hn w' cb).alloc (.cells #[] 291)).cell? ⟨w.heap.size,0,none⟩=some (.bool true):=by rw [jB Be];rfl
   refine ⟨cb,sG,eF,fun d ax=>(e8 d ax).2.1,?_⟩;refine leaves_cons (f := 247) (args := #[.pointer (some ⟨w.heap.size,0,none⟩)]) a' (by simp [go_sem]) ?_;refine (XG w.heap.size _).mono ?_;rintro e jP l1 ⟨rfl,rfl,rfl⟩;have w5:c'.tmps[4]?.getD undef = .pointer (some ⟨w.heap.size,0,none⟩):=by
    have:=hJ.env 4 _ bd;rw [getD_eq_getD_getElem?] at this;exact DT this
   refine ⟨.bool true,by simp [results,Tryz.results211, go_sem,jz,w5],by simp,.ret (.bool true),s,_,.bool _,⟨by rw [aF],rfl⟩,bN.trans dW,bg.trans bN.size a2,y6 w4 _ True⟩
  | panic v x dB kI av=>
   obtain ⟨bd,aF,rfl,M,rfl,iN,y,R,og⟩:=bq;obtain ⟨rest,rfl,H8⟩:=kI;obtain rfl:=XI av;have w4:=bY.sub iN.sub;obtain ⟨cm,mi,h2,Bc⟩:=bY.obj _ _ (og.get iN);obtain ⟨bv,rfl⟩:∃ bv,cm = #[bv]:=by
    generalize aB:cm.toList=Cd at h2;cases h2 with
    | cons v _ vs _ av aM=>
    cases aM;exact ⟨v,by rw [← toArray_toList (xs:=cm),aB]⟩
   have au:w.heap.size<(hn w' cb).heap.size:=(Array.getElem?_eq_some_iff.1 mi).1;have Be:=(l3 (hn w' cb) (.cells #[] 291) w.heap.size au).trans mi;have w5:c'.tmps[4]?.getD undef = .pointer (some ⟨w.heap.size,0,none⟩):=by
    have:=hJ.env 4 _ bd;rw [getD_eq_getD_getElem?] at this;exact DT this
   obtain ⟨ef,di,dL,mw,sE⟩:=K4 (bN.trans dW) (bg.trans bN.size a2) (y6 w4 _ True) Be (le_refl _) (fun o aD=>by
    rcases aD with aD|⟨e,-⟩
    ·exact Bc o aD
    ·omega) az (.bool false)
   have jz:(((hn w' cb).alloc (.cells #[] 291)).setRow w.heap.size #[.bool false]).cell? ⟨w.heap.size,0,none⟩=some (.bool false):=by rw [jB sE];rfl
   refine ⟨cb,sG,eF,fun d ax=>(e8 d ax).2.1,?_⟩;refine leaves_cons (f := 247) (args := #[.pointer (some ⟨w.heap.size,0,none⟩)]) a' (by simp [go_sem]) ?_;refine (XH w.heap.size _ rest bv mi).mono ?_;rintro e jP l1 ⟨rfl,rfl,rfl⟩;have H9:=Gj H8;simp only [settle,H9];refine ⟨.bool false,by simp [results,Tryz.results211, go_sem,jz,w5],by simp,.ret (.bool false),s,_,.bool _,⟨by rw [aF],rfl⟩,ef,di,dL⟩
theorem XL {w:World} {p:bR} {x:Value} (h:Rel w p x s7):x = .iface 298 (.agg #[]):=by
 cases h with
 | iface _ y _ h=>
 cases h with
 | agg cs xs h=>
 generalize hy:cs.toList=l at h;cases h;have:cs = #[]:=by rw [← toArray_toList (xs:=cs),hy]
 rw [this]
theorem XM (w:World):(Instr.typeAssert (.iface 298 (.agg #[])) 20 298 true).run Tryz.prog w = .ok (.tuple #[.agg #[],.bool true]) w:=by kernel_rfl
theorem XN (w:World):(binOp BinOp.neq 20 (.iface 298 (.agg #[])) .nilIface).run Tryz.prog w = .ok (.bool true) w:=by kernel_rfl
theorem XO (x y:Operand) (w:World):(eqGuard BinOp.neq 20 x y (.iface 298 (.agg #[])) .nilIface).run Tryz.prog w = .ok () w:=by
 unfold eqGuard;simp
theorem XP (b:Nat) (w:World) :
  CallsD Tryz.prog 253 #[.pointer (some ⟨b,0,none⟩)] .returning w fun e jP w'=>e = .returned (.tuple #[])∧jP = .returning∧w'=w:=by
 refine callsD_of_wpS Tryz.func253 C fun w3 cs hu=>?_
 apply wpS_seq;apply wpS_region;simp [wpOpsS,go_sem,recoverD,hu,Tryz.ntmps253, Exit.thenS];refine wpS_of_wp ?_;go_wp2;cases w3;simp_all [bodyPostS,results,Tryz.results253, Exit.thenS]
theorem XQ (b:Nat) (w:World) (rest:List PanicEntry) (x:Value) (aq:w.heap[b]? = some (.cells #[x] 4 (0,0))) :
  CallsD Tryz.prog 253 #[.pointer (some ⟨b,0,none⟩)] (.panicking ({ v := .iface 298 (.agg #[]),recovered:=false }::rest)) w
   fun o jP w'=>o = .returned (.tuple #[])∧jP = .panicking ({ v := .iface 298 (.agg #[]),recovered:=true }::rest)∧w'=(w.alloc (.cells #[] 298)).setRow b #[.bool false]:=by
 refine callsD_of_wpS Tryz.func253 C fun w3 cs hu=>?_
 apply wpS_seq;apply wpS_region;simp [wpOpsS,go_sem,recoverD,hu,Tryz.ntmps253, Exit.thenS];apply wpS_seq;apply wpS_region;simp [wpOpsS,go_sem,Exit.thenS,XO,XN];refine wpS_cond (t:=true) (by simp [Act.eval,Act.put]) ?_;simp only [if_true]
 repeat apply wpS_seq
 apply wpS_region;simp [wpOpsS,go_sem,Exit.thenS,XM];have dI:=(l3 w (.cells #[] 298) b (Array.getElem?_eq_some_iff.1 aq).1).trans aq;have dd:(w.alloc (.cells #[] 298)).cell? ⟨b,0,none⟩=some x:=by rw [jB dI];rfl
 have ph:(w.alloc (.cells #[] 298)).frozen? ⟨b,0,none⟩=false:=by simp [World.frozen?,dI]
 have rK:=K5 (x := .bool false) dI;generalize w.alloc (.cells #[] 298)=dG at dd ph rK ⊢
 repeat apply wpS_seq
 apply wpS_region;simp [wpOpsS,go_sem,Exit.thenS];refine wpS_of_wp ?_;go_wp2;cases w3;simp_all [bodyPostS,results,Tryz.results253, Exit.thenS];refine wpS_of_wp ?_;go_wp2;simp_all [bodyPostS,results,Tryz.results253, Exit.thenS]
def XR (py:ao) (n:Nat) (G B:a8→Prop):b8→Env→ao→Prop
 | .ret,env,aj=>env.get? 2=some (.ptr n 0)∧∃ M,aj=aT py M∧Ok py M∧∃ K,G K∧bp M (.own n) (.box 4 [.bool true]) K
 | .panic x,env,aj=>env.get? 2=some (.ptr n 0)∧x=s7∧∃ M,aj=aT py M∧Ok py M∧∃ y K,B K∧bp M (.own n) (.box 4 [y]) K
 | _,_,_=>False
theorem XS (f:FuncId) (first cap:List af) (mI:a8) (G B:a8→Prop) (h:dp Tryz.prog (.func f first cap) [] mI (fun o K=>(o = .ret (.cp [])∧G K)∨(o = .panic s7∧B K))) :
  bE Tryz.prog 220 [.func f first cap] mI (fun o K=>(o = .ret (.bool true)∧G K)∨(o = .ret (.bool false)∧B K)):=by
 intro s XT;refine ⟨call220, fun w p vs cc eM=>?_⟩;cases eM with
 | cons v0 _ vs _ bt aM=>
 cases aM;unfold sg;refine Ki (T:=[{ target := .fn (.func 253) #[.pointer (some ⟨w.heap.size,0,none⟩)],args := #[] }]) Tryz.func220 C ?_;go_wp2;intro b tW eU;obtain ⟨az,hle,aE,DU⟩:=rb cc (.cells #[Value.bool false] 4) (.box 4 [.bool false]) (fun w' U ad al=>⟨#[.bool false],U,al _ _ (.cons _ _ _ _ (.bool _) .nil),fun o aD=>absurd (cc.lt _ _ aD) ag⟩);have I:Ok s ((.own w.heap.size,.box 4 [.bool false])::mI):=⟨az,XT⟩;refine l0 (ae.use (N:=6) (env:=[(0,.func f first cap),(2,.ptr w.heap.size 0)]) (s:=aT s ((.own w.heap.size,.box 4 [.bool false])::mI)) (Q:=XR s w.heap.size G B) (B:=(w.heap.size+1,[{ target := .fn (.func 253) #[.pointer (some ⟨w.heap.size,0,none⟩)],args := #[] }])) (p:=p) ?_ (by rw [eU];rfl) ⟨by simp,fun t v av=>?_,DU,⟨[],by simp [marksOf],by simp,by simp⟩,fun l aB=>(by rw [tW] at aB;cases aB),by simp⟩) ?_
 ·clear aE DU az
  generalize w.heap.size=n at I ⊢;refine jS ?_;refine aa.gH C C C C C C h I (aH.there (e:=(.own n,.box 4 [.bool false])) (aH.all mI)) ?_ ?_
  ·rintro _ aO (⟨⟨⟩,dz⟩|⟨h,_⟩) I
   ·have ar:=bp.app aO (bp.here (L:=[]) (k := .own n) (o := .box 4 [.bool false]))
    rw [append_nil] at ar;refine cI I ?_;intro I;exact ⟨rfl,_,rfl,I,aO,dz,.here⟩
   ·cases h
  ·rintro x aO (⟨h,_⟩|⟨⟨⟩,cF⟩) I
   ·cases h
   exact ⟨rfl,rfl,_,rfl,I,_,aO,cF,by have:=bp.app aO (bp.here (L:=[]) (k := .own n) (o := .box 4 [.bool false]));rw [append_nil] at this;exact this⟩
 ·simp only [Env.get?] at av
  split at av
  ·rename_i e;cases av;obtain rfl:=eq_of_beq_eq_true e
   exact bt.mono hle
  split at av
  ·rename_i e;cases av;obtain rfl:=eq_of_beq_eq_true e
   simp [getD_eq_getD_getElem?];exact .ptr _ 0
  ·cases av
 ·rintro e c' w' ⟨x,eP,aj,bj,bJ,bq,hJ,zu,eC⟩
  obtain ⟨cb,sG,eF,e8⟩:=hJ.defs;obtain ⟨cg,bY,eR,nF⟩:=Fa cb w' hJ.wf (fun d ax=>⟨_,(e8 d ax).2.1⟩);have bN:dc w p (hn w' cb) bj:=(hle.trans zu).trans cg;have tX:=aE.trans hle.size eC;have bg:∀ aO,ao.Sub (aT s aO) aj→Kept (aT s mI) (aT s aO) w p (hn w' cb) bj:=fun aO hH=>⟨fun aW dI fX=>(eR aW (fun hm=>by have:=(e8 aW hm).1;simp only at this;omega)).trans (tX.heap aW dI fX),fun b aq h=>hH.none (tX.kH b aq h),tX.k2⟩
  cases bJ with
  | exit id=>exact bq.elim
  | normal=>exact bq.elim
  | ret=>
   obtain ⟨bd,M,rfl,iN,aO,dz,og⟩:=bq;obtain ⟨mP,ht⟩:=og.perm iN;have hH:ao.Sub (aT s aO) (aT s M):=by rw [mP];exact xK (k := .own w.heap.size) J3 ht.1
   have w4:=bY.sub hH;obtain ⟨cm,mi,h2,Bc⟩:=bY.obj _ _ (og.get iN);have Bd:cm = #[.bool true]:=by
    generalize aB:cm.toList=Cd at h2;cases h2 with
    | cons v _ vs _ av aM=>
    cases aM;cases av;rw [← toArray_toList (xs:=cm),aB]
   subst Bd;have jz:(hn w' cb).cell? ⟨w.heap.size,0,none⟩=some (.bool true):=by rw [jB mi];rfl
   refine ⟨cb,sG,eF,fun d ax=>(e8 d ax).2.1,?_⟩;refine leaves_cons (f := 253) (args := #[.pointer (some ⟨w.heap.size,0,none⟩)]) a' (by simp [go_sem]) ?_;refine (XP w.heap.size _).mono ?_;rintro e jP l1 ⟨rfl,rfl,rfl⟩;have w5:c'.tmps[2]?.getD undef = .pointer (some ⟨w.heap.size,0,none⟩):=by
    have:=hJ.env 2 _ bd;rw [getD_eq_getD_getElem?] at this;exact DT this
   exact ⟨.bool true,by simp [results,Tryz.results220, go_sem,jz,w5],by simp,.ret (.bool true),aT s aO,_,.bool _,⟨aO,rfl,ht.2,.inl ⟨rfl,dz⟩⟩,bN,bg aO hH,w4⟩
  | panic v x dB kI av=>
   obtain ⟨bd,rfl,M,rfl,iN,y,aO,cF,og⟩:=bq;obtain ⟨rest,rfl,H8⟩:=kI;obtain rfl:=XL av;obtain ⟨mP,ht⟩:=og.perm iN;have hH:ao.Sub (aT s aO) (aT s M):=by rw [mP];exact xK (k := .own w.heap.size) J3 ht.1
   have w4:=bY.sub hH;have dW:=tG bY.lt (.cells #[] 298) True;have a2:=BO (s:=aT s aO) (w:=hn w' cb) (p:=bj) (.cells #[] 298) True;obtain ⟨cm,mi,h2,Bc⟩:=bY.obj _ _ (og.get iN);obtain ⟨bv,rfl⟩:∃ bv,cm = #[bv]:=by
    generalize aB:cm.toList=Cd at h2;cases h2 with
    | cons v _ vs _ av aM=>
    cases aM;exact ⟨v,by rw [← toArray_toList (xs:=cm),aB]⟩
   have au:w.heap.size<(hn w' cb).heap.size:=(Array.getElem?_eq_some_iff.1 mi).1;have Be:=(l3 (hn w' cb) (.cells #[] 298) w.heap.size au).trans mi;have w5:c'.tmps[2]?.getD undef = .pointer (some ⟨w.heap.size,0,none⟩):=by
    have:=hJ.env 2 _ bd;rw [getD_eq_getD_getElem?] at this;exact DT this
   obtain ⟨ef,di,dL,mw,sE⟩:=K4 (bN.trans dW) ((bg aO hH).trans bN.size a2) (y6 w4 _ True) Be (le_refl _) (fun o aD=>by
    rcases aD with aD|⟨e,-⟩
    ·exact Bc o aD
    ·omega) ht.1 (.bool false)
   have jz:(((hn w' cb).alloc (.cells #[] 298)).setRow w.heap.size #[.bool false]).cell? ⟨w.heap.size,0,none⟩=some (.bool false):=by rw [jB sE];rfl
   refine ⟨cb,sG,eF,fun d ax=>(e8 d ax).2.1,?_⟩;refine leaves_cons (f := 253) (args := #[.pointer (some ⟨w.heap.size,0,none⟩)]) a' (by simp [go_sem]) ?_;refine (XQ w.heap.size _ rest bv mi).mono ?_;rintro e jP l1 ⟨rfl,rfl,rfl⟩;have H9:=Gj H8;simp only [settle,H9];exact ⟨.bool false,by simp [results,Tryz.results220, go_sem,jz,w5],by simp,.ret (.bool false),aT s aO,_,.bool _,⟨aO,rfl,ht.2,.inr ⟨rfl,cF⟩⟩,ef,di,dL⟩
theorem ND {n:Int} (h:0≤n) (ad:n<18446744073709551616):IntKind.wrap .u64 n=n:=by
 rw [IntKind.wrap_u64];omega
theorem XU {n:Nat} (az:n<4294967296):bitsOf .and .u64 (n:Int) 4294967295=some (n:Int):=by
 have h:=uc (m:=n) (n:=4294967295) ag dZ;have e:n &&& 4294967295=n:=by
  rw [show 4294967295=2^32-1 from rfl,Nat.and_two_pow_sub_one_eq_mod,Nat.mod_eq_of_lt az]
 rw [e] at h;exact h
theorem NF {n:Nat} (az:n<4294967296):Int.fdiv (n:Int) (2^(min (32:Int).toNat (IntKind.bits .u64)))=0:=by
 have:=sV (m:=n) (c:=32) ag;rw [Nat.shiftRight_eq_div_pow,Nat.div_eq_of_lt ag] at this;exact this
theorem XV (n:Nat) (az:n<4294967296):aR Tryz.prog 278 [.int .u64 1,.int .u64 (n:Int)] (.cp [.int .u64 0,.int .u64 (n:Int)]):=by
 have aq:=bA;refine aR.bh ai Tryz.func278 C C fun s I=>?_
 have dG:IntKind.wrap .u64 (1*(n:Int))=(n:Int):=by rw [Int.one_mul];exact ND ag ag
 have lM:IntKind.wrap .u64 (0*(n:Int))=0:=by rw [Int.zero_mul];rfl
 refine dv ?_;refine aa.bits 1 C C C C C C dZ ?_;refine hq ?_;refine aa.shr 0 C C C C C C ag dZ ?_;refine hq ?_;refine aa.bits (n:Int) C C C C C C (XU az) ?_;refine hq ?_;refine aa.shr 0 C C C C C C ag (NF az) ?_;refine bC ?_;refine aa.shr 0 C C C C C C ag (by rw [dG];exact NF az) ?_;refine hq ?_;refine aa.bits 0 C C C C C C (by rw [lM];decide) ?_;refine hq ?_;refine aa.shr 0 C C C C C C ag (by rw [lM];decide) ?_;refine bC ?_;refine aa.shr 0 C C C C C C ag dZ ?_;refine eh ?_;exact Fin.cx I C (aS.of_eq (by rw [dG];rfl))
theorem XW (n:Nat) (az:n<4294967296):aR Tryz.prog 258 [.int .u64 1,.int .u64 (n:Int)] (.cp [.int .u64 0,.int .u64 (n:Int)]):=by
 have aq:=bA;refine aR.bh ai Tryz.func258 C C fun s I=>?_
 have U:=XV n az;refine bW ?_;exact bl I
theorem XX (z:Int) (n m k:Nat) (h:m+k≤n) (aE:k≤m):((replicate m z++replicate (n-m) 0).map ba).take m++(((replicate m z++replicate (n-m) 0).map ba).drop 0).take k++((replicate m z++replicate (n-m) 0).map ba).drop (m+k)=(replicate (m+k) z++replicate (n-(m+k)) 0).map ba:=by
 rw [List.drop_zero,← map_take,← map_take,← List.map_drop,← map_append,← map_append];congr 1;rw [List.take_left' a',List.take_append_of_le_length cG,List.take_replicate,Nat.min_eq_left aE,List.replicate_append_replicate];congr 1;rw [List.drop_append,List.drop_eq_nil_of_le a',nil_append,List.length_replicate,List.drop_replicate];congr 1;omega
theorem XY (z:Int) (n:Nat) (U:1≤n) (az:n≤1000):bE Tryz.prog 224 [.aA 1 [.int .i64 z] .clip,.int .i64 (n:Int)] ([]) (fun o K=>∃ b,o = .ret (eo b n n)∧K=[(.own b,.box 3 ((replicate n z).map ba))]):=by
 have aq:=bA;refine bE.bh ai Tryz.func224 C C fun s I=>?_
 have hm:=XW n ag;have dG:IntKind.wrap .u64 (n:Int)=(n:Int):=ND ag ag;have j':IntKind.wrap .i64 (n:Int)=(n:Int):=ek ag ag;have hm:aR Tryz.prog 258 [.int .u64 (IntKind.wrap .u64 1),.int .u64 (IntKind.wrap .u64 (n:Int))] (.cp [.int .u64 0,.int .u64 (n:Int)]):=by rw [dG];exact hm
 refine c1 ?_;refine ae.cond C (fun h=>by simp at h;omega) (fun _=>?_);refine c1 ?_;refine aa.ui ai I n C C C C C C C C C C (congrArg (fun z=>some (af.int .i64 z)) j') (congrArg (fun z=>some (af.int .i64 z)) j') (by show _*8≤_;omega) ag (fun b I=>?_);refine hq ?_;have bt:replicate n (af.int .i64 0)=(replicate n (0:Int)).map ba:=by rw [List.map_replicate];rfl
 refine aa.Gw ai I C C C C C C C C C aY C C C cG cG (fun I=>?_);have Af:(replicate n (af.int .i64 0)).take 0++[af.int .i64 z]++(replicate n (af.int .i64 0)).drop (0+[af.int .i64 z].length)=(replicate 1 z++replicate (n-1) 0).map ba:=by
  rw [take_zero,List.drop_replicate];simp [ba]
 rw [Af] at I ⊢;refine dF ?_;refine ae.b4 [7] C I (σ:=Nat) (fun m=>[(8,.int .i64 (m:Int))]) (fun m=>[(.own b,.box 3 ((replicate m z++replicate (n-m) 0).map ba))]) (fun m=>1≤m∧m≤n) (fun m=>n-m) 1 ⟨le_refl _,U⟩ (cq C) aX ?_;rintro m ⟨qf,Mo⟩ I;refine jS ?_;refine aa.qu ai C C C C C C C ?_;refine fH ?_;refine ae.cond C (fun au=>?_) (fun aV=>?_);rotate_left
 ·have aV:m=n:=by simp at aV;omega
  subst aV;have p4:(replicate m z++replicate (m-m) 0).map ba=(replicate m z).map ba:=by simp
  rw [p4] at I ⊢;refine c1 ?_;exact Fin.bu I C aL aX ⟨b,rfl,rfl⟩
 have au:m<n:=by simp at au;omega
 have hs:((replicate m z++replicate (n-m) 0).map ba).length=n:=by simp;omega
 refine dF ?_;refine ae.qm (fun _=>True) ai mixed C (bm.run trivial C ?_);refine bm.Gx 3 ai trivial m C C C C C C C C C C C C ag ag ag ?_;refine bm.zS 6 ai trivial m C C C C C C C C C C C ag ?_;refine bm.run trivial C ?_;refine bm.Al 7 ai I (min m (n-m)) C C C C C C C C C C C .here C C (by rw [List.drop_zero,← map_take];exact AO _) (by rw [hs];omega) (by rw [hs];omega) (fun _ => .inl trivial) (fun I=>?_);rw [XX z n m (min m (n-m)) ag ag] at I ⊢;refine bm.run trivial C (bc.done C ?_);refine tZ ?_;exact bn.mk (m+min m (n-m)) I ⟨by omega,by omega⟩ (by repeat (first|exact trivial|refine ⟨⟨_,rfl,aL⟩,?_⟩|refine ⟨⟨_,rfl,aS.of_eq zL⟩,?_⟩)) aX (by show n-(m+min m (n-m))<n-m;omega)
end Go.Proofs.YtnafpeohfbglmaaGreat
namespace Go.eb
abbrev oh:=Int×Int×Nat
def r7 (g:Int→Int→List oh) (isLet:Bool) (size:Int):Nat→List Int→List oh
 | _,[]=>[]
 | i,k::r=>g k (if isLet&&i==1 then size+1 else size)++r7 g isLet size (i+1) r
def w6 (p:bP) (n:Int):Bool:=decide (n≥0)&&decide (n<(p.nodes.length:Int))
def nw (p:bP):Nat→Int→Int→List oh
 | 0,n,size=>[(n,size,13)]
 | f+1,n,size=>(n,size,12-f)::(if w6 p n then r7 (nw p f) (decide ((p.nodes.getD n.toNat default).op=9)) size 0 (p.nodes.getD n.toNat default).kids else [])
def H' (p:bP) (x:oh):Prop:=w6 p x.1=true∧x.2.2≤12
def Bf (p:bP) (next:Bool) (x:oh) (out:List Int):Option (List Int):=
 if oP p x.1 out&&decide (x.2.2≤12) then (if xW p next (p.nodes.getD x.1.toNat default) x.2.1 then some (out.set x.1.toNat x.2.1) else none) else none
def foldI (p:bP) (next:Bool):List oh→List Int→Option (List Int)
 | [],out=>some out
 | x::r,out=>(Bf p next x out).bind (foldI p next r)
theorem NG (p:bP) (next:Bool):∀ (l r:List oh) (out:List Int),foldI p next (l++r) out=(foldI p next l out).bind (foldI p next r)
  | [],r,out=>rfl
  | x::l,r,out=>by
    rw [cons_append,foldI,foldI];cases Bf p next x out with
    | none=>rfl
    | some o=>exact NG p next l r o
theorem NH (p:bP) (next:Bool) {g:Int→Int→List oh} {h:Int→Int→List Int→Option (List Int)} (aw:∀ k s out,foldI p next (g k s) out=h k s out) (isLet:Bool) (size:Int) :
    ∀ (ks:List Int) (i:Nat) (out:List Int),foldI p next (r7 g isLet size i ks) out=lj h isLet size i ks out
  | [],i,out=>rfl
  | k::r,i,out=>by
    rw [r7,lj,NG,aw];cases h k (if isLet&&i==1 then size+1 else size) out with
    | none=>rfl
    | some o=>exact NH p next aw isLet size r (i+1) o
theorem NI (p:bP) (next:Bool):∀ (f:Nat) (n size:Int) (out:List Int),f≤12→foldI p next (nw p f n size) out=visitM p next f n size out
  | 0,n,size,out,_=>by
    rw [nw,foldI,visitM,Bf];rw [if_neg a'];rfl
  | f+1,n,size,out,a6=>by
    rw [nw,foldI,visitM,Bf];have ax:decide (((n,size,12-f):oh).2.2≤12)=true:=by simp
    rw [ax,Bool.and_true];cases ar:oP p n out with
    | false=>simp
    | true=>
      have fl:w6 p n=true:=by
        unfold oP at ar;unfold w6;simp only [and_eq_true,decide_eq_true_eq] at ar ⊢;exact ⟨ar.1,ar.2.1⟩
      simp only [if_true,fl];cases az:xW p next (p.nodes.getD n.toNat default) size with
      | false=>simp
      | true=>
        simp only [if_true];exact NH p next (fun k s o=>NI p next f k s o ag) _ _ _ _ _
end Go.eb
namespace Go.Proofs.YtnafpeohfbglmaaGreat
open Go.cU Go.eb
def Bg (x:oh):af := .int .i64 x.1
def Bh (x:oh):af := .agg [.int .i64 x.2.1,.int .i64 (x.2.2:Int)]
def NJ (fv:af) (p:bP) (dS:Nat):af := .func 260 [] [.bw [fv] 0,.bw (cL p) 0,.ptr dS 0]
def w7 (fv:af) (p:bP) (dS:Nat):dC := .box 306 [NJ fv p dS]
def XZ {α:Type} (Go:List α→a8→Prop) (fA:a8→Prop) (fI:af→a8→Prop) (rem:List α) (o:ey) (aO:a8):Prop:=
 (o = .ret (.bool true)∧Go rem aO)∨(o = .ret (.bool false)∧fA aO)∨∃ v,o = .panic v∧fI v aO
structure NK (dS:Nat) (p:bP) (fv:af) (Go:List oh→a8→Prop) (fA:a8→Prop) (fI:af→a8→Prop):Prop where
 call:∀ x rem K,Go (x::rem) K→dp Tryz.prog fv [Bg x,Bh x] K (fun o aO=>(o = .ret (.bool true)∧H' p x∧Go rem aO)∨(o = .ret (.bool false)∧fA aO)∨∃ v,o = .panic v∧fI v aO)
 qM:∀ xs K,Go xs K→∃ R,bp K (.own dS) (w7 fv p dS) R
theorem X0 (p:bP) (aD:fj p) (dS:Nat) (fv:af) (Go:List oh→a8→Prop) (fA:a8→Prop) (fI:af→a8→Prop) (ez:NK dS p fv Go fA fI):∀ (f:Nat),f≤12→∀ (n size:Int),(0≤size∧size+f≤100)→∀ (rest:List oh) (K:a8),Go (nw p f n size++rest) K →
  bE Tryz.prog 260 [.int .i64 n,.agg [.int .i64 size,.int .i64 ((13-f:Nat):Int)],.bw [fv] 0,.bw (cL p) 0,.ptr dS 0] K (XZ Go fA fI rest):=by
 have aq:=bA;intro f
 induction f with
 | zero=>
  intro _ n size b' rest K dz;have aC:=ez.call (n,size,13) rest K dz;unfold Bg Bh at aC;refine bE.bh ai Tryz.func260 C C fun s I=>?_
  unfold cL;refine dv ?_;refine aa.gH C C C C C C aC I (aH.all _) ?_ ?_
  ·rintro x aO (⟨_,aw,_⟩|⟨⟨⟩,ax⟩|⟨_,⟨⟩,_⟩) I
   ·exact absurd aw.2 (by show ¬ (13≤12);omega)
   ·rw [append_nil] at I ⊢
    refine eh ?_;exact Fin.bu I C aL (aH.all _) (.inr (.inl ⟨rfl,ax⟩))
  ·rintro x aO (⟨h,_⟩|⟨h,_⟩|⟨v,⟨⟩,aD⟩) I
   ·cases h
   ·cases h
   exact Fin.e9 I aL (aH.js (aH.all _)) (.inr (.inr ⟨_,rfl,aD⟩))
 | succ f a1=>
  intro a6 n size b' rest K dz;have ax:(13-(f+1):Nat)=12-f:=by omega
  rw [ax];rw [nw,cons_append] at dz;have aC:=ez.call _ _ K dz;unfold Bg Bh at aC;refine bE.bh ai Tryz.func260 C C fun s I=>?_
  unfold cL;refine dv ?_;refine aa.gH C C C C C C aC I (aH.all _) ?_ ?_
  ·rintro x aO (⟨⟨⟩,aw,dz⟩|⟨⟨⟩,ax⟩|⟨_,⟨⟩,_⟩) I
   ·rw [append_nil] at I ⊢
    obtain ⟨fl,_⟩:=aw;have fl:w6 p n=true:=fl;rw [fl,if_pos C] at dz;unfold w6 at fl;simp only [and_eq_true,decide_eq_true_eq] at fl;obtain ⟨i,rfl⟩:∃ i:Nat,n=i:=⟨n.toNat,by omega⟩;obtain ⟨x,ab,bJ⟩:=b1 (f:=jd) (l:=p.nodes) (j:=i) ag;have j7:p.nodes.getD ((i:Int)).toNat default=x:=by rw [toNat_natCast,getD_eq_getElem?_getD,ab];rfl
    rw [j7] at dz;have rR:=aD.kids x (mem_of_getElem? ab);unfold jd kP bf at bJ;refine bC ?_;refine ae.b4 [0,3,4,6,21,22] C I (σ:=Nat×a8) (fun q=>[(23,.int .i64 (q.1:Int))]) (fun q=>q.2) (fun q=>q.1≤x.kids.length∧Go (r7 (nw p f) (decide (x.op=9)) size q.1 (x.kids.drop q.1)++rest) q.2) (fun q=>x.kids.length-q.1) (0,aO) ⟨zero_le _,dz⟩ (cq C) (aH.all _) ?_;rintro ⟨j,AV⟩ ⟨aK,yE⟩ I;simp only at aK yE I ⊢;refine b7 ?_;refine ae.cond C (fun au=>?_) (fun aV=>?_);rotate_left
    ·have aV:j=x.kids.length:=by simp at aV;omega
     subst aV;rw [ep (le_refl _),r7,nil_append] at yE;refine dN ?_;exact Fin.bu I C aL (aH.all _) (.inl ⟨rfl,yE⟩)
    have au:j<x.kids.length:=by simpa using au
    obtain ⟨k,aE,eC⟩:=b1 (f:=ba) au;rw [drop_cons aE,r7,List.append_assoc] at yE;obtain ⟨R,og⟩:=ez.qM _ _ yE;have cZ:=dp.fk (first:=[]) (args:=[.int .i64 k,.agg [.int .i64 (if decide (x.op=9)&&j==1 then size+1 else size),.int .i64 ((13-f:Nat):Int)]]) (cap:=[.bw [fv] 0,.bw (cL p) 0,.ptr dS 0]) (a1 ag _ _ (by split<;>omega) _ _ yE);have dG:IntKind.wrap .i64 (((12-f:Nat):Int)+1)=((13-f:Nat):Int):=by rw [ek ag ag];omega
    have DV:((j:Int)==1)=(j==1):=by rw [Bool.eq_iff_iff];simp;omega
    have r6:decide (x.op=9)=(x.op==9):=rfl;rw [r6,← dG] at cZ;unfold cL at cZ;unfold w7 NJ cL at og;unfold ba at eC
    repeat (first|(refine vR I ?_;clear I;intro I)|refine aa.dY ai I rfl rfl rfl rfl rfl rfl rfl (fun cJ I=>?_))
    cases ke:(x.op==9) with
    | false=>
     rw [ke,Bool.false_and] at cZ;simp only [false_eq_true,if_false] at cZ;refine bC ?_;refine aa.eB ai I C C C C C C (.there og) b6 ?_;refine cI I ?_;intro I;refine aa.gH C C C C C C cZ I (aH.there (aH.all AV)) ?_ ?_
     ·rintro _ iF (⟨⟨⟩,Bi⟩|⟨⟨⟩,ax⟩|⟨_,⟨⟩,_⟩) I
      ·refine bC ?_
       exact bn.mk (j+1,iF) I ⟨au,by show Go (r7 (nw p f) (decide (x.op=9)) size (j+1) (drop (j+1) x.kids)++rest) iF;rw [r6,ke];exact Bi⟩ ca (aH.js (aH.all _)) pS
      ·refine e1 ?_
       exact Fin.bu I C aL (aH.js (aH.all _)) (.inr (.inl ⟨rfl,ax⟩))
     ·rintro x aO (⟨h,_⟩|⟨h,_⟩|⟨v,⟨⟩,aD⟩) I
      ·cases h
      ·cases h
      exact Fin.e9 I aL (aH.js (aH.all _)) (.inr (.inr ⟨_,rfl,aD⟩))
    | true=>
     rw [ke,Bool.true_and] at cZ;refine fH ?_;cases yg:(j==1) with
     | false=>
      rw [yg] at cZ DV;simp only [false_eq_true,if_false] at cZ;refine ae.cond C (fun h=>by rw [DV] at h;cases h) (fun _=>?_);refine dF ?_;refine aa.eB ai I C C C C C C (.there og) b6 ?_;refine cI I ?_;intro I;refine aa.gH C C C C C C cZ I (aH.there (aH.all AV)) ?_ ?_
      ·rintro _ iF (⟨⟨⟩,Bi⟩|⟨⟨⟩,ax⟩|⟨_,⟨⟩,_⟩) I
       ·refine bC ?_
        exact bn.mk (j+1,iF) I ⟨au,by show Go (r7 (nw p f) (decide (x.op=9)) size (j+1) (drop (j+1) x.kids)++rest) iF;rw [r6,ke];exact Bi⟩ ca (aH.js (aH.all _)) pS
       ·refine e1 ?_
        exact Fin.bu I C aL (aH.js (aH.all _)) (.inr (.inl ⟨rfl,ax⟩))
      ·rintro x aO (⟨h,_⟩|⟨h,_⟩|⟨v,⟨⟩,aD⟩) I
       ·cases h
       ·cases h
       exact Fin.e9 I aL (aH.js (aH.all _)) (.inr (.inr ⟨_,rfl,aD⟩))
     | true=>
      rw [yg] at cZ DV;simp only [if_true] at cZ;have j':IntKind.wrap .i64 (size+1)=size+1:=ek ag ag;rw [← j'] at cZ;refine ae.cond C (fun _=>?_) (fun h=>by rw [DV] at h;cases h);refine cI I ?_;intro I;refine aa.eB ai I C C C C C C (.there og) b6 ?_;refine cI I ?_;intro I;refine aa.gH C C C C C C cZ I (aH.there (aH.all AV)) ?_ ?_
      ·rintro _ iF (⟨⟨⟩,Bi⟩|⟨⟨⟩,ax⟩|⟨_,⟨⟩,_⟩) I
       ·refine bC ?_
        exact bn.mk (j+1,iF) I ⟨au,by show Go (r7 (nw p f) (decide (x.op=9)) size (j+1) (drop (j+1) x.kids)++rest) iF;rw [r6,ke];exact Bi⟩ ca (aH.js (aH.all _)) pS
       ·refine e1 ?_
        exact Fin.bu I C aL (aH.js (aH.all _)) (.inr (.inl ⟨rfl,ax⟩))
      ·rintro x aO (⟨h,_⟩|⟨h,_⟩|⟨v,⟨⟩,aD⟩) I
       ·cases h
       ·cases h
       exact Fin.e9 I aL (aH.js (aH.all _)) (.inr (.inr ⟨_,rfl,aD⟩))
   ·rw [append_nil] at I ⊢
    refine eh ?_;exact Fin.bu I C aL (aH.all _) (.inr (.inl ⟨rfl,ax⟩))
  ·rintro x aO (⟨h,_⟩|⟨h,_⟩|⟨v,⟨⟩,aD⟩) I
   ·cases h
   ·cases h
   exact Fin.e9 I aL (aH.js (aH.all _)) (.inr (.inr ⟨_,rfl,aD⟩))
theorem X1 (p:bP) (aD:fj p) (n size:Int) (b':0≤size∧size+12≤100):Gr Tryz.prog 259 [] [.bw (cL p) 0,.bw [.int .i64 n] 0,.bw [.int .i64 size,.int .i64 1] 0] [] Bg Bh (H' p) (nw p 12 n size):=by
 intro l Go fA fI oG K bg;have ez:∀ dS,NK dS p (lE l) (fun xs K=>∃ aO,K=aO++[(.own dS,w7 (lE l) p dS)]∧Go xs aO) (fun K=>∃ aO,K=aO++[(.own dS,w7 (lE l) p dS)]∧fA aO) (fun v K=>∃ aO,K=aO++[(.own dS,w7 (lE l) p dS)]∧fI v aO):=fun dS=>by
  refine ⟨fun x rem K ⟨aO,e,aw⟩=>?_,fun xs K ⟨aO,e,_⟩=>⟨aO++[],by subst e;exact bp.app aO .here⟩⟩;subst e;refine dp.frame (R:=[(.own dS,w7 (lE l) p dS)]) (oG x rem aO aw) (aH.js (aH.dq aO)) ?_;rintro o lq (⟨rfl,U,h⟩|⟨rfl,h⟩|⟨v,rfl,h⟩)
  ·exact .inl ⟨rfl,U,lq,rfl,h⟩
  ·exact .inr (.inl ⟨rfl,lq,rfl,h⟩)
  ·exact .inr (.inr ⟨v,rfl,lq,rfl,h⟩)
 have hw:=fun dS=>dp.fk (first:=[]) (args:=[.int .i64 n,.agg [.int .i64 size,.int .i64 1]]) (cap:=[.bw [lE l] 0,.bw (cL p) 0,.ptr dS 0]) (X0 p aD dS (lE l) _ _ _ (ez dS) 12 (le_refl _) n size ag [] (K++[(.own dS,w7 (lE l) p dS)]) ⟨K,rfl,by rw [append_nil];exact bg⟩)
 refine bE.bh ai Tryz.func259 C C fun s I=>?_
 rw [nil_append] at I ⊢
 repeat (first|(refine J7 I ?_;clear I;intro I)|refine aa.dY ai I rfl rfl rfl rfl rfl rfl rfl (fun cJ I=>?_))
 refine aa.gH C C C C C C (hw cJ) I (aH.ih (List.perm_append_singleton _ _).symm) ?_ ?_
 ·rintro x _ (⟨⟨⟩,lq,rfl,h⟩|⟨⟨⟩,lq,rfl,h⟩|⟨_,⟨⟩,_⟩) I
  all_goals rw [append_nil] at I ⊢
  ·refine fH ?_
   exact Fin.bu I C aL (aH.js (aH.dq lq)) (.inl ⟨rfl,.inl h⟩)
  ·refine fH ?_
   exact Fin.bu I C aL (aH.js (aH.dq lq)) (.inl ⟨rfl,.inr h⟩)
 ·rintro x _ (⟨h,_⟩|⟨h,_⟩|⟨v,⟨⟩,lq,rfl,h⟩) I
  ·cases h
  ·cases h
  rw [append_nil] at I ⊢;exact Fin.e9 I aL (aH.js (aH.dq lq)) (.inr ⟨_,rfl,h⟩)
theorem X2 (p:bP) (n size d:Int):aR Tryz.prog 226 [cA p,.int .i64 n,.agg [.int .i64 size,.int .i64 d]] (.func 259 [] [.bw (cL p) 0,.bw [.int .i64 n] 0,.bw [.int .i64 size,.int .i64 d] 0]):=by
 have aq:=bA;refine aR.bh ai Tryz.func226 C C fun s I=>?_
 unfold cA cL;refine gv ?_;exact bl I
theorem NL:pj Tryz.prog 277 "consort/bind.many" 335 := Cy fY
theorem NM:pj Tryz.prog 279 "consort/bind.many" 336 := Cy fY
theorem NN (p:bP) (x:iQ):(x.op=5∧wK x.op = .iface 279 (.agg [])∧rC p x=some (p.d'.getD x.n.toNat 0))∨(∃ m,wK x.op=wJ m∧rC p x=some m)∨(wK x.op = .nB∧rC p x=none):=by
 unfold wK rC;by_cases U:x.op=5
 ·left;rw [if_pos U,if_pos U];exact ⟨U,rfl,rfl⟩
 rw [if_neg U,if_neg U];right;by_cases ad:x.op=1∨x.op=2∨x.op=3∨x.op=6∨x.op=18
 ·left;rw [if_pos ad,if_pos ad];exact ⟨0,rfl,rfl⟩
 rw [if_neg ad,if_neg ad];by_cases al:x.op=4∨x.op=8∨x.op=17
 ·left;rw [if_pos al,if_pos al];exact ⟨1,rfl,rfl⟩
 rw [if_neg al,if_neg al];by_cases bd:x.op=7∨x.op=9∨x.op=11∨x.op=12∨x.op=13∨x.op=14∨x.op=15∨x.op=16
 ·left;rw [if_pos bd,if_pos bd];exact ⟨2,rfl,rfl⟩
 rw [if_neg bd,if_neg bd];by_cases bD:x.op=10
 ·left;rw [if_pos bD,if_pos bD];exact ⟨3,rfl,rfl⟩
 right;rw [if_neg bD,if_neg bD];exact ⟨rfl,rfl⟩
theorem uQ {m l:Int}:((some m==some l)=true)↔l=m:=by
 rw [beq_iff_eq,Option.some.injEq];exact eq_comm
def gi (dD b:Nat) (out:List Int):a8:=[(.own dD,.box 23 [eo b out.length out.length]),(.own b,.box 3 (out.map ba))]
def X3 (dD b:Nat) (len:Nat) (r:Option (List Int)) (o:ey) (K:a8):Prop:=
 ∃ out,out.length=len∧K=gi dD b out∧((o = .ret (.cp [])∧r=some out)∨(o = .panic s7∧r=none))
theorem NO (p:bP) (aD:fj p) (abp:p.d'.all (fun n=>decide (n≥1)&&decide (n≤3))=true) (dD b:Nat) (out:List Int) (gn:out.length=p.nodes.length) (nH:p.nodes.length≤120) (n size:Int) (next:Bool) (b':0≤size∧size≤50) :
  dp Tryz.prog (.func 225 [] [.bw (cL p) 0,.ptr dD 0]) [.int .i64 n,.int .i64 size,.bool next] (gi dD b out) (X3 dD b p.nodes.length (visitM p next 12 n size out)):=by
 have aq:=bA;have mi:=X2 p n size 1;have nP:=X1 p aD n size ag;refine dp.fk (first:=[]) (cap:=[.bw (cL p) 0,.ptr dD 0]) ?_;refine bE.bh ai Tryz.func225 C C fun s I=>?_
 rw [← NI p next 12 n size out (le_refl _)];unfold cA at mi;unfold cL at *;unfold gi at I;refine bW ?_;refine ae.Ld I C dZ dZ nP .nil (fun rem K=>∃ bT,bT.length=p.nodes.length∧K=gi dD b bT∧foldI p next (nw p 12 n size) out=foldI p next rem bT) (fun _ _=>False) (fun v K=>v=s7∧foldI p next (nw p 12 n size) out=none∧∃ bT,bT.length=p.nodes.length∧K=gi dD b bT) ⟨out,gn,rfl,rfl⟩ ?_ ?_ (fun _ _ h=>h.elim) ?_
 ·rintro s₁ x rem K ⟨bT,eS,rfl,an⟩ I
  obtain ⟨Ia,xs,Ib⟩:=x;unfold Bg Bh;unfold gi at I ⊢;rw [foldI,Bf] at an;simp only at an;refine ej ?_;by_cases g1:Ia≥0;rotate_left
  ·refine aa.cY 22 C (decide_eq_false g1) ?_
   refine eh ?_;refine aa.b3 C C C C C (gT _) I .nil ?_ ?_;rotate_left
   ·rintro _ _ ⟨rfl,h⟩ I
    obtain ⟨az,rfl⟩:=gL h;rw [nil_append] at I ⊢;exact At.mk (gi dD b bT) I (aH.all _) ⟨rfl,(by rw [an];simp [oP,g1]),bT,eS,rfl⟩
   rintro _ _ ⟨rfl,h⟩ I;obtain ⟨al,rfl⟩:=gK h;rw [nil_append] at I ⊢;exact absurd al a'
  obtain ⟨i,rfl⟩:∃ i:Nat,Ia=i:=⟨Ia.toNat,by omega⟩;refine aa.de 22 C (decide_eq_true g1) ?_;refine dy ?_;by_cases g2:i<p.nodes.length;rotate_left
  ·refine aa.cY 29 C cG ?_
   refine eh ?_;refine aa.b3 C C C C C (gT _) I .nil ?_ ?_;rotate_left
   ·rintro _ _ ⟨rfl,h⟩ I
    obtain ⟨az,rfl⟩:=gL h;rw [nil_append] at I ⊢;exact At.mk (gi dD b bT) I (aH.all _) ⟨rfl,(by rw [an];simp [oP,g2]),bT,eS,rfl⟩
   rintro _ _ ⟨rfl,h⟩ I;obtain ⟨al,rfl⟩:=gK h;rw [nil_append] at I ⊢;exact absurd al a'
  refine aa.de 29 C cG ?_;obtain ⟨z,bO⟩:∃ z,bT[i]? = some z:=⟨_,getElem?_eq_getElem ag⟩;have Hg:bT.getD i 0=z:=by rw [getD_eq_getElem?_getD,bO];rfl
  have s6:(bT.map ba)[i*1]? = some (.int .i64 z):=by rw [mul_one,getElem?_map,bO];rfl
  obtain ⟨x,ab,bJ⟩:=b1 (f:=jd) (l:=p.nodes) (j:=i) g2;have G':p.nodes.getD i default=x:=by rw [getD_eq_getElem?_getD,ab];rfl
  rw [toNat_natCast,G'] at an;refine cI I ?_;intro I;refine aa.fi ai i C C C C C C C C C C ag ?_;refine aa.jW ai I C C C C C C aY C s6 ?_;refine dy ?_;have dA:oP p (i:Int) bT=decide (z<0):=by
   unfold oP;rw [toNat_natCast,Hg,decide_eq_true g1,show decide ((i:Int)<(p.nodes.length:Int))=true by simp;omega];rfl
  rw [dA] at an;by_cases g3:z<0;rotate_left
  ·refine aa.cY 36 C (decide_eq_false g3) ?_
   refine eh ?_;refine aa.b3 C C C C C (gT _) I .nil ?_ ?_;rotate_left
   ·rintro _ _ ⟨rfl,h⟩ I
    obtain ⟨az,rfl⟩:=gL h;rw [nil_append] at I ⊢;exact At.mk (gi dD b bT) I (aH.all _) ⟨rfl,(by rw [an];simp [g3]),bT,eS,rfl⟩
   rintro _ _ ⟨rfl,h⟩ I;obtain ⟨al,rfl⟩:=gK h;rw [nil_append] at I ⊢;exact absurd al a'
  refine aa.de 36 C (decide_eq_true g3) ?_;rw [decide_eq_true g3,Bool.true_and] at an;refine dy ?_;refine aa.b3 C C C C C (gT _) I .nil ?_ ?_;rotate_left
  ·rintro _ _ ⟨rfl,h⟩ I
   obtain ⟨az,rfl⟩:=gL h;rw [nil_append] at I ⊢;exact At.mk (gi dD b bT) I (aH.all _) ⟨rfl,(by rw [an,show decide (Ib≤12)=false from (by simp at az ⊢;omega)];simp),bT,eS,rfl⟩
  rintro _ _ ⟨rfl,h⟩ I;obtain ⟨al,rfl⟩:=gK h;rw [nil_append] at I ⊢;have g4:Ib≤12:=by simp at al;omega
  rw [decide_eq_true g4,if_pos C] at an;have DW:H' p ((i:Int),xs,Ib):=⟨by unfold w6;simp;omega,g4⟩;have vh:eQ (i*1) [.int .i64 xs] (bT.map ba)=(bT.set i xs).map ba:=by
   rw [pD,mul_one,map_set];rfl
  refine cI I ?_;intro I;refine aa.fi ai i C C C C C C C C C C ag ?_;refine aa.jX ai I _ C C C C C C C C C aY (by rw [length_map];show i*1+1≤_;omega) vh (fun I=>?_);have mC:(bT.set i xs).length=p.nodes.length:=by rw [length_set];exact eS
  have n3:=XB p aD x xs;have uR:=VK x.op;unfold cA cL jd kP bf at n3;unfold jd kP bf at bJ;unfold xW at an;cases iY:mJ p x xs with
  | false=>
   rw [iY] at n3;rw [iY,Bool.false_and,if_neg a'] at an;refine ej ?_;refine aa.b3 C C C C C (gT _) I .nil ?_ ?_;rotate_left
   ·rintro _ _ ⟨rfl,h⟩ I
    obtain ⟨az,rfl⟩:=gL h;rw [nil_append] at I ⊢;exact At.mk (gi dD b (bT.set i xs)) I (by simp only [gi,length_set];exact aX) ⟨rfl,an,(bT.set i xs),mC,rfl⟩
   rintro _ _ ⟨rfl,h⟩ I;obtain ⟨bd,rfl⟩:=gK h;rw [nil_append] at I ⊢;exact absurd bd a'
  | true=>
  rw [iY] at n3;rw [iY,Bool.true_and] at an;cases next with
  | true=>
   rw [Bool.true_or,Bool.true_and] at an;refine ej ?_;refine aa.b3 C C C C C (gT _) I .nil ?_ ?_;rotate_left
   ·rintro _ _ ⟨rfl,h⟩ I
    obtain ⟨az,rfl⟩:=gL h;rw [nil_append] at I ⊢;exact At.mk (gi dD b (bT.set i xs)) I (by simp only [gi,length_set];exact aX) ⟨rfl,(absurd az a'),(bT.set i xs),mC,rfl⟩
   rintro _ _ ⟨rfl,h⟩ I;obtain ⟨bd,rfl⟩:=gK h;rw [nil_append] at I ⊢;rcases NN p x with ⟨bD,q5,jY⟩|⟨m,q5,jY⟩|⟨q5,jY⟩
   ·rw [q5] at uR
    rw [jY] at an;have aK:0≤x.n∧x.n<(p.d'.length:Int):=by
     simpa [mJ,bD] using iY
    obtain ⟨k,aE⟩:∃ k:Nat,x.n=k:=⟨x.n.toNat,by omega⟩;have iZ:=Mr p x k (p.d'.getD x.n.toNat 0) aE Nh;unfold cA cL jd kP bf at iZ;refine bW ?_;refine aN.rI C C C C C C NM iZ ?_;refine ld ?_;refine aN.b3 C C C C C C (gT _) I .nil ?_ ?_;rotate_left
    ·rintro _ _ ⟨rfl,h⟩ I
     obtain ⟨az,rfl⟩:=gL h;rw [nil_append] at I ⊢;rw [length_map] at az;refine At.mk (gi dD b (bT.set i xs)) I (by simp only [gi,length_set];exact aX) ⟨rfl,?_,_,mC,rfl⟩;rw [if_neg (fun e=>absurd (uQ.mp e) rN)] at an;exact an
    rintro _ _ ⟨rfl,h⟩ I;obtain ⟨az,rfl⟩:=gK h;rw [nil_append] at I ⊢;rw [length_map] at az;rw [if_pos (uQ.mpr rN)] at an;refine gd ?_;exact At.mk (gi dD b (bT.set i xs)) I (by simp only [gi,length_set];exact aX) ⟨DW,_,mC,rfl,an⟩
   ·rw [q5] at uR
    rw [jY] at an;unfold wJ at uR;have iZ:=Mq m p x;unfold cA cL jd kP bf at iZ;refine bW ?_;refine aN.rI C C C C C C NL iZ ?_;refine ld ?_;refine aN.b3 C C C C C C (gT _) I .nil ?_ ?_;rotate_left
    ·rintro _ _ ⟨rfl,h⟩ I
     obtain ⟨az,rfl⟩:=gL h;rw [nil_append] at I ⊢;rw [length_map] at az;refine At.mk (gi dD b (bT.set i xs)) I (by simp only [gi,length_set];exact aX) ⟨rfl,?_,_,mC,rfl⟩;rw [if_neg (fun e=>absurd (uQ.mp e) rN)] at an;exact an
    rintro _ _ ⟨rfl,h⟩ I;obtain ⟨az,rfl⟩:=gK h;rw [nil_append] at I ⊢;rw [length_map] at az;rw [if_pos (uQ.mpr rN)] at an;refine gd ?_;exact At.mk (gi dD b (bT.set i xs)) I (by simp only [gi,length_set];exact aX) ⟨DW,_,mC,rfl,an⟩
   ·rw [q5] at uR
    rw [jY] at an;have an:foldI p true (nw p 12 n size) out=none:=an;refine bW ?_;refine aa.b3 C C C C C (gT _) I .nil ?_ ?_;rotate_left
    ·rintro _ _ ⟨rfl,h⟩ I
     obtain ⟨az,rfl⟩:=gL h;rw [nil_append] at I ⊢;exact At.mk (gi dD b (bT.set i xs)) I (by simp only [gi,length_set];exact aX) ⟨rfl,an,(bT.set i xs),mC,rfl⟩
    rintro _ _ ⟨rfl,h⟩ I;obtain ⟨bD,rfl⟩:=gK h;rw [nil_append] at I ⊢;exact absurd bD a'
  | false=>
   rw [Bool.false_or] at an;refine ej ?_;refine aa.b3 C C C C C (gT _) I .nil ?_ ?_;rotate_left
   ·rintro _ _ ⟨rfl,h⟩ I
    obtain ⟨az,rfl⟩:=gL h;rw [nil_append] at I ⊢;exact At.mk (gi dD b (bT.set i xs)) I (by simp only [gi,length_set];exact aX) ⟨rfl,(by rw [show decide (x.op≠18)=false by simpa using az,Bool.false_and,if_neg a'] at an;exact an),(bT.set i xs),mC,rfl⟩
   rintro _ _ ⟨rfl,h⟩ I;obtain ⟨bd,rfl⟩:=gK h;rw [nil_append] at I ⊢;rw [show decide (x.op≠18)=true by simpa using bd,Bool.true_and] at an;rcases NN p x with ⟨bD,q5,jY⟩|⟨m,q5,jY⟩|⟨q5,jY⟩
   ·rw [q5] at uR
    rw [jY] at an;have aK:0≤x.n∧x.n<(p.d'.length:Int):=by
     simpa [mJ,bD] using iY
    obtain ⟨k,aE⟩:∃ k:Nat,x.n=k:=⟨x.n.toNat,by omega⟩;have iZ:=Mr p x k (p.d'.getD x.n.toNat 0) aE Nh;unfold cA cL jd kP bf at iZ;refine bW ?_;refine aN.rI C C C C C C NM iZ ?_;refine ld ?_;refine aN.b3 C C C C C C (gT _) I .nil ?_ ?_;rotate_left
    ·rintro _ _ ⟨rfl,h⟩ I
     obtain ⟨az,rfl⟩:=gL h;rw [nil_append] at I ⊢;rw [length_map] at az;refine At.mk (gi dD b (bT.set i xs)) I (by simp only [gi,length_set];exact aX) ⟨rfl,?_,_,mC,rfl⟩;rw [if_neg (fun e=>absurd (uQ.mp e) rN)] at an;exact an
    rintro _ _ ⟨rfl,h⟩ I;obtain ⟨az,rfl⟩:=gK h;rw [nil_append] at I ⊢;rw [length_map] at az;rw [if_pos (uQ.mpr rN)] at an;refine gd ?_;exact At.mk (gi dD b (bT.set i xs)) I (by simp only [gi,length_set];exact aX) ⟨DW,_,mC,rfl,an⟩
   ·rw [q5] at uR
    rw [jY] at an;unfold wJ at uR;have iZ:=Mq m p x;unfold cA cL jd kP bf at iZ;refine bW ?_;refine aN.rI C C C C C C NL iZ ?_;refine ld ?_;refine aN.b3 C C C C C C (gT _) I .nil ?_ ?_;rotate_left
    ·rintro _ _ ⟨rfl,h⟩ I
     obtain ⟨az,rfl⟩:=gL h;rw [nil_append] at I ⊢;rw [length_map] at az;refine At.mk (gi dD b (bT.set i xs)) I (by simp only [gi,length_set];exact aX) ⟨rfl,?_,_,mC,rfl⟩;rw [if_neg (fun e=>absurd (uQ.mp e) rN)] at an;exact an
    rintro _ _ ⟨rfl,h⟩ I;obtain ⟨az,rfl⟩:=gK h;rw [nil_append] at I ⊢;rw [length_map] at az;rw [if_pos (uQ.mpr rN)] at an;refine gd ?_;exact At.mk (gi dD b (bT.set i xs)) I (by simp only [gi,length_set];exact aX) ⟨DW,_,mC,rfl,an⟩
   ·rw [q5] at uR
    rw [jY] at an;have an:foldI p false (nw p 12 n size) out=none:=an;refine bW ?_;refine aa.b3 C C C C C (gT _) I .nil ?_ ?_;rotate_left
    ·rintro _ _ ⟨rfl,h⟩ I
     obtain ⟨az,rfl⟩:=gL h;rw [nil_append] at I ⊢;exact At.mk (gi dD b (bT.set i xs)) I (by simp only [gi,length_set];exact aX) ⟨rfl,an,(bT.set i xs),mC,rfl⟩
    rintro _ _ ⟨rfl,h⟩ I;obtain ⟨bD,rfl⟩:=gK h;rw [nil_append] at I ⊢;exact absurd bD a'
 ·rintro K ⟨bT,eS,rfl,an⟩ I
  rw [foldI] at an;refine gd ?_;exact Fin.bu I C aL (aH.all _) ⟨bT,eS,rfl,.inl ⟨rfl,an⟩⟩
 ·rintro v K ⟨rfl,an,bT,eS,rfl⟩ I
  exact Fin.e9 I aL (aH.all _) ⟨bT,eS,rfl,.inr ⟨rfl,an⟩⟩
def X4 (p:bP) (dD:Nat) (o:ey) (K:a8):Prop:=
 (o = .ret (.cp [])∧∃ b out,out.length=p.nodes.length∧nk p=some out∧K=gi dD b out)∨(o = .panic s7∧nk p=none∧∃ v R,K=(.own dD,.box 23 [v])::R)
theorem X5 (p:bP) (aD:fj p) (dD:Nat) (v0:af) :
  dp Tryz.prog (.func 221 [] [.bw (cL p) 0,.ptr dD 0]) [] [(.own dD,.box 23 [v0])] (X4 p dD):=by
 have aq:=bA;have hy:=VJ p aD;have jF:=aD.d';have hs:=aD.Ay;have nH:=aD.nodes;refine dp.fk (first:=[]) (cap:=[.bw (cL p) 0,.ptr dD 0]) ?_;refine bE.bh ai Tryz.func221 C C fun s I=>?_
 have NP:=LR p aD;unfold cA at *;unfold cL bf at *;have ch:nk p=nk p:=rfl
 conv at ch=>rhs;unfold nk
 refine jS ?_;refine aa.b3 C C C C C hy I .nil ?_ ?_;rotate_left
 ·rintro _ _ ⟨rfl,h⟩ I
  obtain ⟨az,rfl⟩:=gL h;rw [nil_append] at I ⊢;exact Fin.e9 I aL (aH.all _) (.inr ⟨rfl,by rw [ch,az];rfl,_,_,rfl⟩)
 rintro _ _ ⟨rfl,h⟩ I;obtain ⟨cv,rfl⟩:=gK h;rw [nil_append] at I ⊢;rw [cv,Bool.true_and] at ch;have nu:=F0 cv;have X6:(fC 0 p.ck).length<bz:=by have h:(fC 0 p.ck).length≤40:=nu.bo;omega
 have NP:=NP X6;refine hq ?_;by_cases g1:p.d'.length≤8;rotate_left
 ·refine aa.cY 14 C cG ?_
  refine eh ?_;refine aa.b3 C C C C C (gT _) I .nil ?_ ?_;rotate_left
  ·rintro _ _ ⟨rfl,h⟩ I
   obtain ⟨az,rfl⟩:=gL h;rw [nil_append] at I ⊢;exact Fin.e9 I aL (aH.all _) (.inr ⟨rfl,(by rw [ch];simp [qA,g1]),_,_,rfl⟩)
  rintro _ _ ⟨rfl,h⟩ I;obtain ⟨U,rfl⟩:=gK h;rw [nil_append] at I ⊢;exact absurd U a'
 refine aa.de 14 C cG ?_;refine dy ?_;by_cases g2:p.methods.length≤16;rotate_left
 ·refine aa.cY 20 C cG ?_
  refine eh ?_;refine aa.b3 C C C C C (gT _) I .nil ?_ ?_;rotate_left
  ·rintro _ _ ⟨rfl,h⟩ I
   obtain ⟨az,rfl⟩:=gL h;rw [nil_append] at I ⊢;exact Fin.e9 I aL (aH.all _) (.inr ⟨rfl,(by rw [ch];simp [qA,g2]),_,_,rfl⟩)
  rintro _ _ ⟨rfl,h⟩ I;obtain ⟨U,rfl⟩:=gK h;rw [nil_append] at I ⊢;exact absurd U a'
 refine aa.de 20 C cG ?_;refine dy ?_;by_cases g3:p.nodes.length≥1;rotate_left
 ·refine aa.cY 26 C cG ?_
  refine eh ?_;refine aa.b3 C C C C C (gT _) I .nil ?_ ?_;rotate_left
  ·rintro _ _ ⟨rfl,h⟩ I
   obtain ⟨az,rfl⟩:=gL h;rw [nil_append] at I ⊢;exact Fin.e9 I aL (aH.all _) (.inr ⟨rfl,(by rw [ch];simp [qA,show ¬ 1≤p.nodes.length by omega]),_,_,rfl⟩)
  rintro _ _ ⟨rfl,h⟩ I;obtain ⟨U,rfl⟩:=gK h;rw [nil_append] at I ⊢;exact absurd U a'
 refine aa.de 26 C cG ?_;refine dy ?_;refine aa.b3 C C C C C (gT _) I .nil ?_ ?_;rotate_left
 ·rintro _ _ ⟨rfl,h⟩ I
  obtain ⟨az,rfl⟩:=gL h;rw [nil_append] at I ⊢;exact Fin.e9 I aL (aH.all _) (.inr ⟨rfl,(by rw [ch];simp at az;simp [qA,show ¬ p.nodes.length≤120 by omega]),_,_,rfl⟩)
 rintro _ _ ⟨rfl,h⟩ I;obtain ⟨g4,rfl⟩:=gK h;rw [nil_append] at I ⊢;have g4:p.nodes.length≤120:=by simp at g4;omega
 have X7:qA p=p.d'.all (fun n=>decide (n≥1)&&decide (n≤3)):=by
  unfold qA;rw [decide_eq_true g1,decide_eq_true g2,decide_eq_true g3,decide_eq_true g4];rfl
 rw [X7] at ch;refine bC ?_;refine ae.b4 [0,1,34,35] C I (σ:=Nat) (fun j=>[(36,.int .i64 (j:Int))]) (fun _=>[(.own dD,.box 23 [v0])]) (fun j=>j≤p.d'.length∧p.d'.all (fun n=>decide (n≥1)&&decide (n≤3))=(p.d'.drop j).all (fun n=>decide (n≥1)&&decide (n≤3))) (fun j=>p.d'.length-j) 0 ⟨zero_le _,rfl⟩ (cq C) aX ?_;rintro j ⟨aK,an⟩ I
 try simp only at aK an I ⊢
 refine b7 ?_;refine ae.cond C (fun au=>?_) (fun aV=>?_)
 ·have au:j<p.d'.length:=by simpa using au
  obtain ⟨x,ab,bJ⟩:=b1 (f:=ba) au;rw [drop_cons ab,all_cons] at an;unfold ba at bJ;refine dF ?_;by_cases g5:x≥1;rotate_left
  ·refine aa.cY 42 C (decide_eq_false g5) ?_
   refine eh ?_;refine aa.b3 C C C C C (gT _) I .nil ?_ ?_;rotate_left
   ·rintro _ _ ⟨rfl,h⟩ I
    obtain ⟨az,rfl⟩:=gL h;rw [nil_append] at I ⊢;exact Fin.e9 I aL (aH.all _) (.inr ⟨rfl,(by rw [ch,an,decide_eq_false g5];rfl),_,_,rfl⟩)
   rintro _ _ ⟨rfl,h⟩ I;obtain ⟨bD,rfl⟩:=gK h;rw [nil_append] at I ⊢;exact absurd bD a'
  refine aa.de 42 C (decide_eq_true g5) ?_;rw [decide_eq_true g5,Bool.true_and] at an;refine dy ?_;refine aa.b3 C C C C C (gT _) I .nil ?_ ?_;rotate_left
  ·rintro _ _ ⟨rfl,h⟩ I
   obtain ⟨az,rfl⟩:=gL h;rw [nil_append] at I ⊢;exact Fin.e9 I aL (aH.all _) (.inr ⟨rfl,(by rw [ch,an,show decide (x≤3)=false from az];rfl),_,_,rfl⟩)
  rintro _ _ ⟨rfl,h⟩ I;obtain ⟨bD,rfl⟩:=gK h;rw [nil_append] at I ⊢;rw [show decide (x≤3)=true from bD,Bool.true_and] at an;refine fG ?_;exact bn.mk (j+1) I ⟨au,an⟩ ca aX (by show p.d'.length-(j+1)<p.d'.length-j;omega)
 have aV:j=p.d'.length:=by simp at aV;omega
 subst aV;rw [ep (le_refl _),all_nil] at an;have tn:=an;rw [an,if_pos C] at ch;have X8:=XY (-1) p.nodes.length g3 ag;have hlen:((p.nodes.map jd).length:Int)=(p.nodes.length:Int):=by rw [length_map]
 refine bC ?_;refine aa.b3 C C C C (by rw [length_map];rfl) X8 I .nil ?_ (fun _ _ ⟨_,h,_⟩ _=>by cases h);rintro _ _ ⟨b,⟨⟩,rfl⟩ I;rw [cons_append,nil_append] at I ⊢;refine J9 I ?_;intro I;refine ae.b4 [0,1,4,5,57,58] C I (σ:=Nat×List Int) (fun q=>[(59,.int .i64 (q.1:Int))]) (fun q=>gi dD b q.2) (fun q=>q.1≤p.methods.length∧q.2.length=p.nodes.length∧nj p p.methods (replicate p.nodes.length (-1))=nj p (p.methods.drop q.1) q.2) (fun q=>p.methods.length-q.1) (0,replicate p.nodes.length (-1)) ⟨zero_le _,List.length_replicate,rfl⟩ (cq C) (by simp only [gi,List.length_replicate];exact aX) ?_;rintro ⟨j,out⟩ ⟨aK,gn,an⟩ I
 try simp only at aK gn an I ⊢
 refine b7 ?_;refine ae.cond C (fun au=>?_) (fun aV=>?_)
 ·have au:j<p.methods.length:=by simpa using au
  obtain ⟨m,ab,bJ⟩:=b1 (f:=ll) au;have fW:=mem_of_getElem? ab;rw [drop_cons ab,nj] at an;have b':=aD.facts m fW;have Bj:=Uu (b9 p) nu m.fact ag;have dA:=XC (b9 p) m.fact.size m.fact (le_refl _) ag;rw [ak.bX] at Bj dA;unfold ak.cells at Bj dA;unfold ll nn at bJ;refine ej ?_;by_cases mP:m.kind≥1;rotate_left
  ·refine aa.cY 66 C (decide_eq_false mP) ?_
   refine eh ?_;refine aa.b3 C C C C C (gT _) I .nil ?_ ?_;rotate_left
   ·rintro _ _ ⟨rfl,h⟩ I
    obtain ⟨az,rfl⟩:=gL h;rw [nil_append] at I ⊢;exact Fin.e9 I aL (aH.all _) (.inr ⟨rfl,(by rw [ch,an];simp [sZ,mP]),_,_,rfl⟩)
   rintro _ _ ⟨rfl,h⟩ I;obtain ⟨U,rfl⟩:=gK h;rw [nil_append] at I ⊢;exact absurd U a'
  refine aa.de 66 C (decide_eq_true mP) ?_;refine dy ?_;by_cases ht:m.kind≤4;rotate_left
  ·refine aa.cY 71 C (decide_eq_false ht) ?_
   refine eh ?_;refine aa.b3 C C C C C (gT _) I .nil ?_ ?_;rotate_left
   ·rintro _ _ ⟨rfl,h⟩ I
    obtain ⟨az,rfl⟩:=gL h;rw [nil_append] at I ⊢;exact Fin.e9 I aL (aH.all _) (.inr ⟨rfl,(by rw [ch,an];simp [sZ,ht]),_,_,rfl⟩)
   rintro _ _ ⟨rfl,h⟩ I;obtain ⟨U,rfl⟩:=gK h;rw [nil_append] at I ⊢;exact absurd U a'
  refine aa.de 71 C (decide_eq_true ht) ?_;refine dy ?_;by_cases wv:m.gen≥0;rotate_left
  ·refine aa.cY 76 C (decide_eq_false wv) ?_
   refine eh ?_;refine aa.b3 C C C C C (gT _) I .nil ?_ ?_;rotate_left
   ·rintro _ _ ⟨rfl,h⟩ I
    obtain ⟨az,rfl⟩:=gL h;rw [nil_append] at I ⊢;exact Fin.e9 I aL (aH.all _) (.inr ⟨rfl,(by rw [ch,an];simp [sZ,wv]),_,_,rfl⟩)
   rintro _ _ ⟨rfl,h⟩ I;obtain ⟨U,rfl⟩:=gK h;rw [nil_append] at I ⊢;exact absurd U a'
  refine aa.de 76 C (decide_eq_true wv) ?_;obtain ⟨g,aw⟩:∃ g:Nat,m.gen=g:=⟨m.gen.toNat,by omega⟩;have X9:sZ p m=(decide (g<p.d'.length)&&(iz (b9 p) m.fact&&decide (lg m.fact≤p.d'.getD g 0))):=by
   unfold sZ;rw [decide_eq_true mP,decide_eq_true ht,decide_eq_true wv,aw,toNat_natCast];simp
  rw [X9,aw,toNat_natCast] at an;rw [aw];refine dy ?_;refine aa.b3 C C C C C (gT _) I .nil ?_ ?_;rotate_left
  ·rintro _ _ ⟨rfl,h⟩ I
   obtain ⟨az,rfl⟩:=gL h;rw [nil_append] at I ⊢;exact Fin.e9 I aL (aH.all _) (.inr ⟨rfl,(by rw [ch,an,show decide (g<p.d'.length)=false by simpa using az];rfl),_,_,rfl⟩)
  rintro _ _ ⟨rfl,h⟩ I;obtain ⟨wx,rfl⟩:=gK h;rw [nil_append] at I ⊢;have wx:g<p.d'.length:=by simpa using wx
  rw [decide_eq_true wx,Bool.true_and] at an;obtain ⟨x,Bk,X'⟩:=b1 (f:=ba) wx;have j7:p.d'.getD g 0=x:=by rw [getD_eq_getElem?_getD,Bk];rfl
  have abq:1≤x∧x≤3:=by
   have:=List.all_eq_true.1 tn x (mem_of_getElem? Bk);simpa using this
  rw [j7] at an;unfold ba at X';cases a6:iz (b9 p) m.fact with
  | false=>
   rw [a6] at Bj;simp only [false_eq_true,if_false] at Bj;refine oE ?_;refine aN.b3 C C C C C C (gT _) I .nil ?_ ?_;rotate_left
   ·rintro _ _ ⟨rfl,h⟩ I
    obtain ⟨az,rfl⟩:=gL h;rw [nil_append] at I ⊢;exact Fin.e9 I aL (aH.all _) (.inr ⟨rfl,(by rw [ch,an,a6];rfl),_,_,rfl⟩)
   rintro _ _ ⟨rfl,h⟩ I;obtain ⟨U,rfl⟩:=gK h;rw [nil_append] at I ⊢;exact absurd U a'
  | true=>
  rw [a6,if_pos C] at Bj;rw [a6,Bool.true_and] at an;have dA:=dA (rA m.fact (b9 p) 12 24 a6);refine oE ?_;refine aN.b3 C C C C C C (gT _) I .nil ?_ ?_;rotate_left
  ·rintro _ _ ⟨rfl,h⟩ I
   obtain ⟨az,rfl⟩:=gL h;rw [nil_append] at I ⊢;exact Fin.e9 I aL (aH.all _) (.inr ⟨rfl,(by rw [ch,an,az];rfl),_,_,rfl⟩)
  rintro _ _ ⟨rfl,h⟩ I;obtain ⟨Ya,rfl⟩:=gK h;rw [nil_append] at I ⊢;rw [Ya,if_pos C] at an;have uS:=NO p aD tn dD b out gn g4 m.node x (s0 m.kind) ag;unfold cL at uS;by_cases aE:m.kind=1
  ·rw [aE] at uS an ⊢
   refine oE ?_;refine aN.gH C C C C C C C uS I (aH.all _) ?_ ?_;rotate_left
   ·rintro _ _ ⟨bT,eS,rfl,(⟨h,_⟩|⟨⟨⟩,av⟩)⟩ I
    ·cases h
    rw [av] at an;exact Fin.e9 I aL (aH.all _) (.inr ⟨rfl,by rw [ch,an];rfl,_,_,rfl⟩)
   rintro _ _ ⟨bT,eS,rfl,(⟨⟨⟩,av⟩|⟨h,_⟩)⟩ I;rotate_left
   ·cases h
   rw [av] at an;rw [append_nil] at I ⊢;refine gd ?_;exact bn.mk (j+1,bT) I ⟨au,eS,an⟩ ca (aH.all _) oc
  ·have kv:s0 m.kind=decide (m.kind=4):=by unfold s0;rw [decide_eq_false aE];rfl
   rw [kv] at uS an;refine oE ?_;refine aN.split 115 C (fun h=>absurd (of_decide_eq_true h) aE) (fun _=>?_);refine ld ?_;refine aN.gH C C C C C C C uS I (aH.all _) ?_ ?_;rotate_left
   ·rintro _ _ ⟨bT,eS,rfl,(⟨h,_⟩|⟨⟨⟩,av⟩)⟩ I
    ·cases h
    rw [av] at an;exact Fin.e9 I aL (aH.all _) (.inr ⟨rfl,by rw [ch,an];rfl,_,_,rfl⟩)
   rintro _ _ ⟨bT,eS,rfl,(⟨⟨⟩,av⟩|⟨h,_⟩)⟩ I;rotate_left
   ·cases h
   rw [av] at an;rw [append_nil] at I ⊢;refine gd ?_;exact bn.mk (j+1,bT) I ⟨au,eS,an⟩ ca (aH.all _) oc
 have aV:j=p.methods.length:=by simp at aV;omega
 subst aV;rw [ep (le_refl _),nj] at an;rw [an] at ch;have uS:=NO p aD tn dD b out gn g4 p.main 0 false ag;unfold cL at uS;refine bC ?_;refine aa.gH C C C C C C uS I (aH.all _) ?_ ?_;rotate_left
 ·rintro _ _ ⟨bT,eS,rfl,(⟨h,_⟩|⟨⟨⟩,av⟩)⟩ I
  ·cases h
  exact Fin.e9 I aL (aH.all _) (.inr ⟨rfl,by rw [ch];show (visitM p false 12 p.main 0 out).bind _=none;rw [av];rfl,_,_,rfl⟩)
 rintro _ _ ⟨bT,eS,rfl,(⟨⟨⟩,av⟩|⟨h,_⟩)⟩ I;rotate_left
 ·cases h
 have ch:nk p=if bT.contains (-1) then none else some bT:=by
  rw [ch];show (visitM p false 12 p.main 0 out).bind _=_;rw [av];rfl
 rw [append_nil] at I ⊢;have DX:=MD b bT.length bT [] (-1) ag;unfold uH at DX;rw [append_nil] at DX;unfold gi at I;refine cI I ?_;intro I;refine aa.b3 rfl rfl rfl rfl rfl DX I aX ?_ (fun _ _ ⟨h,_⟩ _=>by cases h);rintro _ _ ⟨⟨⟩,rfl⟩ I;simp only [cons_append,nil_append] at I ⊢;refine dy ?_;refine aa.b3 C C C C C (gT _) I .nil ?_ ?_;rotate_left
 ·rintro _ _ ⟨rfl,h⟩ I
  obtain ⟨az,rfl⟩:=gL h;rw [nil_append] at I ⊢;exact Fin.e9 I aL (.cons (.there .here) (.cons .here .nil)) (.inr ⟨rfl,by rw [ch,show bT.contains (-1)=true by simpa using az];rfl,_,_,rfl⟩)
 rintro _ _ ⟨rfl,h⟩ I;obtain ⟨U,rfl⟩:=gK h;rw [nil_append] at I ⊢;rw [show bT.contains (-1)=false by simpa using U,if_neg a'] at ch;refine fH ?_;exact Fin.bu I C aL (.cons (.there .here) (.cons .here .nil)) (.inl ⟨rfl,b,bT,eS,ch,rfl⟩);done
def Yb (p:bP) (o:ey) (K:a8):Prop:=
 (∃ b out,out.length=p.nodes.length∧nk p=some out∧o = .ret (.cp [eo b out.length out.length,.bool true])∧K=[(.own b,.box 3 (out.map ba))])∨(nk p=none∧(∃ v,o = .ret (.cp [v,.bool false]))∧K=[])
theorem Yc (p:bP) (aD:fj p):bE Tryz.prog 187 [cA p] ([]) (Yb p):=by
 have aq:=bA;refine bE.bh ai Tryz.func187 C C fun s I=>?_
 unfold cA cL
 repeat (first|(refine CH ?_)|refine aa.dY ai I C C C C C C C (fun cJ I=>?_))
 have a6:=XS 221 [] [.bw (cL p) 0,.ptr cJ 0] [(.own cJ,.box 23 [.aA 0 [] .nil])] (fun K=>∃ b out,out.length=p.nodes.length∧nk p=some out∧K=gi cJ b out) (fun K=>nk p=none∧∃ v R,K=(.own cJ,.box 23 [v])::R) (dp.mono (X5 p aD cJ (.aA 0 [] .nil)) (fun o K h=>by
  rcases h with ⟨U,b,out,ad,al,bd⟩|⟨U,ad,al⟩
  ·exact .inl ⟨U,b,out,ad,al,bd⟩
  ·exact .inr ⟨U,ad,al⟩))
 unfold cL at a6;refine aa.b3 C C C C C a6 I aX ?_ ?_;rotate_left
 ·rintro x aO (⟨h,_⟩|⟨h,_⟩) I
  ·cases h
  ·cases h
 rintro x aO (⟨⟨⟩,b,out,aB,eL,rfl⟩|⟨⟨⟩,eL,v,R,rfl⟩) I
 ·unfold gi at I ⊢
  simp only [cons_append,nil_append,append_nil] at I ⊢;refine cI I ?_;intro I;exact Fin.bu I C aL (.cons (.there .here) .nil) (.inl ⟨b,out,aB,eL,rfl,rfl⟩)
 ·simp only [cons_append,nil_append,append_nil] at I ⊢
  refine cI I ?_;intro I;exact Fin.bu I C aL .nil (.inr ⟨eL,⟨v,rfl⟩,rfl⟩)
theorem Yd (p:bP) (aD:fj p):aR Tryz.prog 146 [cA p] (.int .i64 (if gy p then 0 else 2)):=by
 have aq:=bA;refine aR.bh ai Tryz.func146 C C fun s I=>?_
 have bO:=Yc p aD;unfold cA cL at *;unfold gy;refine dv ?_;refine aa.b3 C C C C C bO I .nil ?_ ?_;rotate_left
 ·rintro x aO (⟨b,out,_,_,h,_⟩|⟨_,⟨v,h⟩,_⟩) I
  ·cases h
  ·cases h
 rintro x aO (⟨b,out,_,eL,⟨⟩,rfl⟩|⟨eL,⟨v,⟨⟩⟩,rfl⟩) I
 ·rw [eL]
  refine bC ?_;exact bl I
 ·rw [eL]
  refine eh ?_;exact bl I
def NQ:af := .agg [.aA 0 [] .nil,.aA 0 [] .nil]
theorem Ye {p:bP} (h:gy p=true):oO p=true:=by
 unfold gy nk at h;cases aC:oO p with
 | true=>rfl
 | false=>rw [aC,Bool.false_and] at h;cases h
theorem yF {p:bP} (h:gy p=true):gw (b9 p):=F0 (Ye h)
theorem Ic (p:bP) (aD:fj p):aR Tryz.prog 100 [cA p] (.cp [if gy p then fm (b9 p) else NQ,.int .i64 (if gy p then 0 else 2)]):=by
 have aq:=bA;refine aR.bh ai Tryz.func100 C C fun s I=>?_
 have aC:=Yd p aD;have hw:=LR p aD;unfold cA cL at *;cases db:gy p with
 | false=>
  rw [db] at aC;unfold NQ
  repeat (first|(refine Sr I ?_;clear I;intro I)|refine aa.dY ai I rfl rfl rfl rfl rfl rfl rfl (fun cJ I=>?_)|(refine pw ?_))
  exact Fin.cx I (vV C C (bp.get aY I) C C) aL
 | true=>
  rw [db] at aC;have abr:(fC 0 p.ck).length≤40:=(yF db).bo;have hw:=hw ag;unfold fm fr at *
  repeat (first|(refine Ss I ?_;clear I;intro I)|refine aa.dY ai I rfl rfl rfl rfl rfl rfl rfl (fun cJ I=>?_)|(refine pw ?_))
  exact Fin.cx I (vV C C (bp.get aY I) C C) aL
end Go.Proofs.YtnafpeohfbglmaaGreat
namespace Go.eb
mutual
theorem NR:∀ (f:ak) (w:bx) (d:Nat) (k:Int),(e3 w d k f).1=true→0≤(e3 w d k f).2∧((jf f).length:Int)+(e3 w d k f).2≤k
  | .mk o a p c n ks,w,d,k,h=>by
    rw [e3] at h ⊢;split at h
    · cases h
    · rename_i aE
      rw [if_neg aE];split at h
      · rename_i az
        rw [if_pos az];have l4:0≤k-1:=by
          simp only [Bool.or_eq_true,decide_eq_true_eq,not_or] at aE;omega
        obtain ⟨U,ad⟩:=NS ks w (d-1) (k-1) l4 h;refine ⟨U,?_⟩;rw [jf];split
        · simp only [length_cons,length_nil];omega
        · omega
      · cases h
theorem NS:∀ (l:List ak) (w:bx) (d:Nat) (k:Int),0≤k→(gX w d k l).1=true→0≤(gX w d k l).2∧((kD l).length:Int)+(gX w d k l).2≤k
  | [],_,_,_,aE,_=>by rw [gX,kD];exact ⟨aE,by simp⟩
  | x::r,w,d,k,aE,h=>by
    rw [gX] at h ⊢;split at h
    · rename_i ab
      rw [if_pos ab,kD,length_append];obtain ⟨U,ad⟩:=NR x w d k ab;obtain ⟨al,bd⟩:=NS r w d _ U h;exact ⟨al,by push_cast;omega⟩
    · cases h
end
theorem NT {w:bx} {f:ak} (h:iz w f=true):(jf f).length≤24:=by
 have:=NR f w 12 24 h;omega
mutual
theorem DY:∀ (f:ak) (w:bx),gx w f=true→∀ x∈jf f,gx w x=true∧x.cW=true
  | .mk o a p c n ks,w,h,x,ab=>by
    rw [jf] at ab;split at ab
    · rename_i aB
      rw [mem_singleton] at ab;subst ab;exact ⟨h,aB⟩
    · rw [gx,and_eq_true] at h
      exact NU ks w h.2 x ab
theorem NU:∀ (l:List ak) (w:bx),jU w l=true→∀ x∈kD l,gx w x=true∧x.cW=true
  | [],_,_,x,ab=>by cases ab
  | y::r,w,h,x,ab=>by
    rw [jU,and_eq_true] at h;rw [kD] at ab;rcases mem_append.1 ab with ab|ab
    · exact DY y w h.1 x ab
    · exact NU r w h.2 x ab
end
theorem q6 {w:bx} {f:ak} (h:gx w f=true) (aB:f.cW=true):f.path.length≤2:=by
 rw [nh,and_eq_true] at h;have h:=h.1;unfold hX at h;rw [aB] at h;simp only [and_eq_true,if_true,decide_eq_true_eq] at h;exact h.2.2.2.2.2.1
theorem Yf (l:List ak) (f:ak):(hF l f).length≤l.length+1:=by
 unfold hF;split
 ·omega
 ·simp
theorem Yg {l:List ak} {f x:ak} (h:x∈hF l f):x∈l∨x=f:=by
 unfold hF at h;split at h
 ·exact .inl h
 ·rcases mem_append.1 h with h|h
  ·exact .inl h
  ·exact .inr (mem_singleton.1 h)
theorem NV {p:bP}:∀ {l:List hW} {out o:List Int},nj p l out=some o→∀ m∈l,sZ p m=true
  | x::r,out,o,h,m,hm=>by
    rw [nj] at h;split at h
    · rename_i ab
      cases av:visitM p (s0 x.kind) 12 x.node (p.d'.getD x.gen.toNat 0) out with
      | none=>rw [av] at h;cases h
      | some bT=>
        rw [av] at h;rcases mem_cons.1 hm with rfl|hm
        · exact ab
        · exact NV (l:=r) h m hm
    · cases h
theorem NW {p:bP} (h:gy p=true):oO p=true∧qA p=true∧∃ o,nj p p.methods (replicate p.nodes.length (-1))=some o:=by
 unfold gy nk at h;split at h
 ·rename_i aC
  rw [and_eq_true] at aC;refine ⟨aC.1,aC.2,?_⟩;cases hm:nj p p.methods (replicate p.nodes.length (-1)) with
  | none=>rw [hm] at h;cases h
  | some o=>exact ⟨o,rfl⟩
 ·cases h
theorem Bl {p:bP} (h:gy p=true) {m:hW} (hm:m∈p.methods):iz (b9 p) m.fact=true:=by
 obtain ⟨-,-,o,ah⟩:=NW h;have:=NV ah m hm;unfold sZ at this;simp only [and_eq_true] at this;exact this.2.2.2.2.1
theorem uT {p:bP} (h:gy p=true):p.methods.length≤16∧p.d'.length≤8:=by
 obtain ⟨-,aB,-⟩:=NW h;unfold qA at aB;simp only [and_eq_true,decide_eq_true_eq] at aB;exact ⟨aB.2.1,aB.1⟩
def iI (w:bx) (l:List ak):Prop:=∀ x∈l,gx w x=true∧x.cW=true
theorem Ie {w:bx} (gen:Int):∀ (c6 l:List ak),iI w l→iI w c6→iI w (c6.foldl hF l)∧(c6.foldl hF l).length≤l.length+c6.length
  | [],l,h,_=>⟨h,le_refl _⟩
  | x::r,l,h,a7=>by
    have U:iI w (hF l x):=fun y ay=>by
      rcases Yg ay with ay|rfl
      · exact h y ay
      · exact a7 _ mem_cons_self
    obtain ⟨ad,al⟩:=Ie (w:=w) gen r (hF l x) U (fun y ay=>a7 y (mem_cons_of_mem _ ay));have:=Yf l x;exact ⟨ad,by rw [foldl_cons,length_cons];omega⟩
theorem Ig {p:bP} (aD:gy p=true) (gen:Int):∀ (ms:List hW) (l:List ak),(∀ m∈ms,m∈p.methods)→iI (b9 p) l→iI (b9 p) (ms.foldl (iG gen) l)∧(ms.foldl (iG gen) l).length≤l.length+24*ms.length
  | [],l,_,h=>⟨h,le_refl _⟩
  | m::r,l,hm,h=>by
    have a6:=Bl aD (hm m mem_cons_self);have U:iI (b9 p) (iG gen l m)∧(iG gen l m).length≤l.length+24:=by
      unfold iG;split
      · obtain ⟨ad,al⟩:=Ie (w:=b9 p) gen (jf m.fact) l h (DY m.fact _ (rA _ _ _ _ a6))
        have:=NT a6;exact ⟨ad,by omega⟩
      · exact ⟨h,by omega⟩
    obtain ⟨bd,bD⟩:=Ig aD gen r (iG gen l m) (fun x ab=>hm x (mem_cons_of_mem _ ab)) U.1;exact ⟨bd,by rw [foldl_cons,length_cons];omega⟩
theorem Ih {p:bP} (aD:gy p=true) (gen:Int):iI (b9 p) (cK p gen)∧(cK p gen).length≤384:=by
 obtain ⟨U,ad⟩:=Ig aD gen p.methods [] (fun _ h=>h) (fun _ h=>by cases h);have:=(uT aD).1;exact ⟨U,by unfold cK;simp only [length_nil] at ad;omega⟩
end Go.eb
namespace Go.Proofs.YtnafpeohfbglmaaGreat
open Go.cU Go.eb
def dU (p:bP) (n:Int) (c6 vs:af) (aq cB:Nat):List af:=[.aA 3 (p.ck.map jc) .bb,.int .i64 p.bo,bf p.d',.aA 9 (p.methods.map ll) .bb,.aA 3 (p.nodes.map jd) .bb,.int .i64 p.main,.int .i64 n,c9 (b9 p).ps,bf (b9 p).owner,c6,vs,.map aq,.map cB]
def nx (p:bP) (n:Int) (cj aq cB:Nat) (bB:yr) (l:List ak):a8:=(.own cj,.box 110 (dU p n (qX bB l) (.aA 0 [] .nil) aq cB))::(.own aq,.map [])::(.own cB,.map [])::pV bB
def cS (l:List ak):af := .aA 6 (l.map ak.bK) .bb
def Yh (p:bP) (n:Int) (o:ey) (K:a8):Prop:=
 (eY p n=0∧∃ cj aq cB,o = .ret (.cp [.ptr cj 0,.int .i64 0])∧K=[(.own cj,.box 110 (dU p n (cS (cK p n)) (.aA 0 [] .nil) aq cB)),(.own aq,.map []),(.own cB,.map [])]) ∨
 (eY p n≠0∧(∃ v,o = .ret (.cp [v,.int .i64 (eY p n)]))∧K=[])
theorem NX {cs:List af} {l:List ak} {x:ak} {zc:List af} (bO:zc.length=6) (h:cs.take ((l.length+1)*6)=(l.map ak.cells).flatten++zc) :
  (eQ (l.length*6) x.cells cs).length=cs.length∧(eQ (l.length*6) x.cells cs).take ((l.length+1)*6)=(l.map ak.cells).flatten++x.cells:=by
 have U:=M5 (sz:=6) (cs:=cs) (xss:=l.map ak.cells++[zc]) (n:=l.length+1) (j:=l.length) (ys:=zc) (ys':=x.cells) (fun c aC=>by
  rcases mem_append.1 aC with aC|aC
  ·exact HD l c aC
  ·rw [mem_singleton.1 aC];exact bO) (by rw [h];simp) (by rw [List.getElem?_append_right a'];simp) C
 refine ⟨U.1,U.2.trans ?_⟩;rw [List.set_append_right _ _ a'];simp
theorem yG (p:bP) (aD:fj p) (n:Int):bE Tryz.prog 58 [cA p,.int .i64 n] [] (Yh p n):=by
 have aq:=bA;have hw:=Ic p aD;have jF:=aD.d';have hs:=aD.Ay;have eJ:eY p n=eY p n:=rfl
 conv at eJ=>rhs;unfold eY
 refine bE.bh ai Tryz.func58 C C fun s I=>?_
 unfold cA cL at *;cases db:gy p with
 | false=>
  rw [db] at hw;simp only [false_eq_true,if_false] at hw;rw [db,Bool.false_and,if_neg a'] at eJ;refine ej ?_;exact Fin.bu I C aL .nil (.inr ⟨by omega,⟨_,by rw [eJ]⟩,rfl⟩)
 | true=>
 rw [db,if_pos C,if_pos C] at hw;rw [db,Bool.true_and] at eJ;have Ii:o0 p n=(decide (n≥0)&&decide (n<(p.d'.length:Int))):=rfl;obtain ⟨tp,NY⟩:=uT db;refine ej ?_;by_cases BV:n<0
 ·refine aa.de 23 C (decide_eq_true BV) ?_
  rw [Ii,show decide (n≥0)=false by simp;omega,Bool.false_and,if_neg a'] at eJ;refine eh ?_;exact Fin.bu I C aL .nil (.inr ⟨by omega,⟨_,by rw [eJ]⟩,rfl⟩)
 refine aa.cY 23 C (decide_eq_false BV) ?_;refine fH ?_;refine ae.cond C (fun y9=>?_) (fun y9=>?_)
 ·rw [Ii,show decide (n<(p.d'.length:Int))=false by simp [bf] at y9 ⊢;omega,Bool.and_false,if_neg a'] at eJ
  refine gv ?_;exact Fin.bu I C aL .nil (.inr ⟨by omega,⟨_,by rw [eJ]⟩,rfl⟩)
 rw [Ii,show decide (n<(p.d'.length:Int))=true by simp [bf] at y9 ⊢;omega,show decide (n≥0)=true by simp;omega,if_pos (by rfl)] at eJ;refine dF ?_;refine aa.rn I C C C C (fun dI I=>?_);refine aa.rn I C C C C (fun cB I=>?_);refine cE C ?_;refine aa.jR I C C C C C C (fun cj I=>?_);refine ej ?_;refine ae.b4 [1,8,38,39] C I (σ:=Nat×yr×List ak) (fun q=>[(40,.int .i64 (q.1:Int))]) (fun q=>nx p n cj dI cB q.2.1 q.2.2)
  (fun q=>q.1≤p.methods.length∧HC q.2.1 q.2.2∧iI (b9 p) q.2.2∧q.2.2.length≤24*q.1∧cK p n=(p.methods.drop q.1).foldl (iG n) q.2.2) (fun q=>p.methods.length-q.1) (0,none,[])
  ⟨zero_le _,rfl,(fun x h=>absurd h List.not_mem_nil:iI (b9 p) []),zero_le _,rfl⟩ (cq C) (by simp only [nx,pV,dU,qX];exact aX) ?_
 rintro ⟨j,bB,l⟩ ⟨aK,df,dg,mg,an⟩ I
 try simp only at aK df dg mg an I ⊢
 refine b7 ?_;refine ae.cond C (fun au=>?_) (fun aV=>?_);rotate_left
 ·have aV:j=p.methods.length:=by simp at aV;omega
  rw [ep ag,List.foldl_nil] at an;subst an;unfold nx at I ⊢;rcases bB with _|⟨g,cap,cs⟩
  ·have bt:cK p n=[]:=df
   have jA:cS (cK p n) = .aA 6 [] .bb:=by rw [bt];rfl
   refine ae.qZ I (dU p n (cS (cK p n)) (.aA 0 [] .nil) dI cB) .here (by
    rw [jA];unfold dU
    repeat (first|exact cR.nil|refine cR.cons (by first|exact aL|exact aS.empty) ?_)) (fun I=>?_)
   unfold cS at I ⊢;refine cI I ?_;intro I;refine ae.cond C (fun ib=>?_) (fun ib=>?_)
   ·have ib:¬ (cK p n).length≤7:=by simp [bt] at ib ⊢ <;> omega
    rw [if_neg ib] at eJ;refine gv ?_;exact Fin.bu I C aL .nil (.inr ⟨by omega,⟨_,by rw [eJ]⟩,rfl⟩)
   ·have ib:(cK p n).length≤7:=by simp [bt] at ib ⊢ <;> omega
    rw [if_pos ib] at eJ;refine bC ?_;exact Fin.bu I C aL (by simp only [dU];exact aX) (.inl ⟨eJ,cj,dI,cB,rfl,rfl⟩)
  ·obtain ⟨kN,kK,Bm⟩:=df
   unfold pV dU qX at I ⊢;refine ae.A2 I 9 .here (.there (.there .here)) C Bm (length_map _) (HD _) kK ag (fun I=>?_);have jA:((cK p n).map ak.cells).map af.agg=(cK p n).map ak.bK:=by
    rw [map_map];exact List.map_congr_left (fun x _=>(ak.bX x).symm)
   rw [jA] at I ⊢
   try unfold cS at I
   refine cI I ?_;intro I;refine ae.cond C (fun ib=>?_) (fun ib=>?_)
   ·have ib:¬ (cK p n).length≤7:=by simp [Nat.not_le] at ib ⊢ <;> omega
    rw [if_neg ib] at eJ;refine gv ?_;exact Fin.bu I C aL .nil (.inr ⟨by omega,⟨_,by rw [eJ]⟩,rfl⟩)
   ·have ib:(cK p n).length≤7:=by simp [Nat.not_le] at ib ⊢ <;> omega
    rw [if_pos ib] at eJ;refine bC ?_;exact Fin.bu I C aL (by simp only [dU];exact aX) (.inl ⟨eJ,cj,dI,cB,rfl,rfl⟩)
 have au:j<p.methods.length:=by simpa using au
 obtain ⟨m,ab,bJ⟩:=b1 (f:=ll) au;have fW:=mem_of_getElem? ab;have b':=aD.facts m fW;have yH:=Bl db fW;have j7:=rA _ _ _ _ yH;have pB:=NT yH;have Ij:=DY m.fact _ j7;have yI:=WC m.fact;have nP:=WB m.fact ag;rw [ak.bX] at yI;unfold ak.cells at yI nP;rw [drop_cons ab,foldl_cons] at an;unfold ll nn at bJ;refine ej ?_;refine ae.cond C (fun aw=>?_) (fun aw=>?_)
 ·have aw:m.gen≠n:=by simpa using aw
  rw [show iG n l m=l by unfold iG;rw [if_neg aw]] at an;refine dN ?_;exact bn.mk (j+1,bB,l) I ⟨au,df,dg,by show l.length≤24*(j+1);omega,an⟩ ca (aH.all _) oc
 have aw:m.gen=n:=by simpa using aw
 rw [show iG n l m=(jf m.fact).foldl hF l by unfold iG;rw [if_pos aw]] at an;refine c1 ?_;refine ae.FM I C dZ nP .nil (fun rem K=>∃ q1 fR,HC q1 fR∧iI (b9 p) fR∧fR.length+rem.length≤24*(j+1)∧(∀ x∈rem,gx (b9 p) x=true∧x.cW=true)∧(jf m.fact).foldl hF l=rem.foldl hF fR∧K=nx p n cj dI cB q1 fR) (fun _ _=>False) (fun _ _=>False) ⟨bB,l,df,dg,by omega,Ij,rfl,rfl⟩ ?_ ?_ (fun _ _ h=>h.elim) (fun _ _ h=>h.elim);rotate_left
 ·rintro K ⟨q1,fR,wF,Ij,eS,-,kz,rfl⟩ I
  rw [kz,List.foldl_nil] at an;refine gd ?_;exact bn.mk (j+1,q1,fR) I ⟨au,wF,Ij,by show fR.length≤24*(j+1);simpa using eS,an⟩ ca (aH.all _) oc
 rintro s₁ x rem K ⟨q1,fR,wF,DZ,eS,pY,kz,rfl⟩ I;have yJ:=pY x mem_cons_self;have GG:=q6 yJ.1 yJ.2;have te:=fun f11=>WJ q1 fR ag wF f11 x ag (fun y ay=>by have:=q6 (DZ y ay).1 (DZ y ay).2;omega)
 rw [foldl_cons] at kz;rw [ak.bX];unfold ak.cells;have cv:=Ao x.path .bb ag;have Bn:hF fR x=if fR.any (fun y=>fs y x) then fR else fR++[x]:=rfl
 have D0:iI (b9 p) (fR++[x]):=fun y ay=>by
  rcases mem_append.1 ay with ay|ay
  ·exact DZ y ay
  ·rw [mem_singleton.1 ay];exact yJ
 have D1:(fR++[x]).length+rem.length≤24*(j+1):=by
  simp only [length_cons,length_append,length_nil] at eS ⊢;omega
 have m':(fR++[x]).map ak.cells=fR.map ak.cells++[x.cells]:=by simp
 have D2:((fR++[x]).map ak.cells).flatten=(fR.map ak.cells).flatten++x.cells:=by rw [m'];simp
 have tq:(fR++[x]).length=fR.length+1:=by simp
 unfold nx at I ⊢;rcases q1 with _|⟨g,cap,cs⟩
 all_goals
  simp only [pV,qX,ob,ak.cells] at te;simp only [pV,qX,dU] at I ⊢
 ·have bt:fR=[]:=wF
  subst bt
  repeat (first|(refine FC I ?_;clear I;intro I)|refine aa.dY ai I rfl rfl rfl rfl rfl rfl rfl (fun cJ I=>?_))
  refine aa.b3 rfl rfl rfl rfl rfl (te cJ) I aX ?_ (fun _ _ ⟨h,_⟩ _=>by cases h);rintro _ _ ⟨⟨⟩,rfl⟩ I;simp only [nil_append,cons_append] at I ⊢;have o6:([]:List ak).any (fun y=>fs y x)=false:=rfl;refine cI I ?_;intro I;refine ae.qn ai mixed C (bc.run C ?_);refine bc.dY 0 ai I C C C C C C C C C (fun Yi I=>?_);refine bc.run C ?_;refine bc.many C (hM.c (j8.CA (i:=1) C C C (aZ.cT ai I C C C C C C C aY C (X:=fun _ _=>False)) ?_ (fun _ _ h=>False.elim h)) (hM.c (j8.CA (i:=2) C C C (aZ.cT ai I C C C C C C C aY C (X:=fun _ _=>False)) ?_ (fun _ _ h=>False.elim h)) hM.n))
  ·rintro _ _ ⟨rfl,I⟩
   refine bc.run C ?_;refine bc.cT 2 ai I C C C C C C C C C C C aY b6 (fun I=>?_);refine bc.run C ?_;refine bc.eB 3 ai I C C C C C C C C aY b6 ?_;refine bc.run C ?_;refine bc.done C ?_;refine tZ ?_;refine ae.qm (dK [(cj,_),(cJ,_)]) ai mixed C (bm.run (dK.two (bp.get aY I) (bp.get aY I)) C ?_);refine bm.nN 4 ai (dK.two (bp.get aY I) (bp.get aY I)) C C C C C C C C (fun _ h=>dK.fst h) b6 ?_;refine bm.nN 5 ai (dK.two (bp.get aY I) (bp.get aY I)) C C C C C C C C (fun _ h=>dK.snd h) b6 ?_;refine bm.run (dK.two (bp.get aY I) (bp.get aY I)) C ?_;refine bm.rZ 7 ai I C C C C C C C C C en C C C C C C C dZ (fun dx gu f' I _=>(dK.two (bp.get aY I) (bp.get aY I))) (fun dx gu f' c4 dd eZ I=>?_);refine bm.run (dK.two (bp.get aY I) (bp.get aY I)) C ?_;refine bm.cT 10 ai I C C C C C C C C C C C aY b6 (fun _ => .inr C) (fun I=>?_);refine bc.done C ?_;refine gd ?_;exact At.mk (nx p n cj dI cB (some (dx,gu,f')) ([]++[x])) I (by simp only [nx,pV,qX,dU,tq];exact aX) ⟨some (dx,gu,f'),[]++[x],⟨c4,uC,by rw [D2];exact eZ⟩,D0,D1,fun y ay=>pY y (mem_cons_of_mem _ ay),by rw [kz,Bn,o6];rfl,rfl⟩
  ·rintro _ _ ⟨rfl,I⟩
   refine bc.run C ?_;refine bc.cT 1 ai I C C C C C C C C C C C aY b6 (fun I=>?_);refine bc.run C ?_;refine bc.eB 3 ai I C C C C C C C C aY b6 ?_;refine bc.run C ?_;refine bc.done C ?_;refine cI I ?_;intro I;refine aa.DJ ai C C C C C C C C C C ?_;refine aa.rZ ai I C C C C C C C en C C C C C C C dZ (fun dx gu f' c4 dd eZ I=>?_);refine cI I ?_;intro I;refine aa.fi ai ([]:List ak).length C C C C C C C C C C a' ?_;refine aa.jX ai I _ C C C C C C C C C aY (by rw [c4];show ([]:List ak).length*6+6≤gu*6;simp only [length_nil] at *;omega) C (fun I=>?_);obtain ⟨cg,bY⟩:=NX (x:=x) (l:=([]:List ak)) (cs:=f') (zc:=_) rfl eZ;refine fG ?_;exact At.mk (nx p n cj dI cB (some (dx,gu,(eQ (([]:List ak).length*6) x.cells f'))) ([]++[x])) I (by simp only [nx,pV,qX,dU,tq];exact aX) ⟨some (dx,gu,(eQ (([]:List ak).length*6) x.cells f')),[]++[x],⟨cg.trans c4,uC,by rw [D2];exact bY⟩,D0,D1,fun y ay=>pY y (mem_cons_of_mem _ ay),by rw [kz,Bn,o6];rfl,rfl⟩
 ·obtain ⟨kN,kK,Bm⟩:=wF
  repeat (first|(refine FC I ?_;clear I;intro I)|refine aa.dY ai I rfl rfl rfl rfl rfl rfl rfl (fun cJ I=>?_))
  refine aa.b3 rfl rfl rfl rfl rfl (te cJ) I aX ?_ (fun _ _ ⟨h,_⟩ _=>by cases h);rintro _ _ ⟨⟨⟩,rfl⟩ I;simp only [nil_append,cons_append] at I ⊢;cases o6:fR.any (fun y=>fs y x) with
  | true=>
   refine bC ?_;exact At.mk (nx p n cj dI cB (some (g,cap,cs)) fR) I (by simp only [nx,pV,qX,dU];exact aX) ⟨some (g,cap,cs),fR,⟨kN,kK,Bm⟩,DZ,by simp only [length_cons] at eS;omega,fun y ay=>pY y (mem_cons_of_mem _ ay),by rw [kz,Bn,o6];rfl,rfl⟩
  | false=>
  refine cI I ?_;intro I;refine ae.qn ai mixed C (bc.run C ?_);refine bc.dY 0 ai I C C C C C C C C C (fun Yi I=>?_);refine bc.run C ?_;refine bc.many C (hM.c (j8.CA (i:=1) C C C (aZ.cT ai I C C C C C C C aY C (X:=fun _ _=>False)) ?_ (fun _ _ h=>False.elim h)) (hM.c (j8.CA (i:=2) C C C (aZ.cT ai I C C C C C C C aY C (X:=fun _ _=>False)) ?_ (fun _ _ h=>False.elim h)) hM.n))
  ·rintro _ _ ⟨rfl,I⟩
   refine bc.run C ?_;refine bc.cT 2 ai I C C C C C C C C C C C aY b6 (fun I=>?_);refine bc.run C ?_;refine bc.eB 3 ai I C C C C C C C C aY b6 ?_;refine bc.run C ?_;refine bc.done C ?_;refine tZ ?_;refine ae.qm (dK [(cj,_),(cJ,_)]) ai mixed C (bm.run (dK.two (bp.get aY I) (bp.get aY I)) C ?_);refine bm.nN 4 ai (dK.two (bp.get aY I) (bp.get aY I)) C C C C C C C C (fun _ h=>dK.fst h) b6 ?_;refine bm.nN 5 ai (dK.two (bp.get aY I) (bp.get aY I)) C C C C C C C C (fun _ h=>dK.snd h) b6 ?_;refine bm.run (dK.two (bp.get aY I) (bp.get aY I)) C ?_;refine bm.r0 7 ai I C C C C C C C C C en C C C C aY kN kK C C C C yz ag (fun dx gu f' I _=>(dK.two (bp.get aY I) (bp.get aY I))) (fun dx gu f' c4 dd eZ I=>?_);refine bm.run (dK.two (bp.get aY I) (bp.get aY I)) C ?_;refine bm.cT 10 ai I C C C C C C C C C C C aY b6 (fun _ => .inr C) (fun I=>?_);refine bc.done C ?_;refine gd ?_;exact At.mk (nx p n cj dI cB (some (dx,gu,f')) (fR++[x])) I (by simp only [nx,pV,qX,dU,tq];exact aX) ⟨some (dx,gu,f'),fR++[x],⟨by rw [tq] at *;exact c4,by rw [tq];exact dd,by rw [D2,tq,← Bm];exact eZ⟩,D0,D1,fun y ay=>pY y (mem_cons_of_mem _ ay),by rw [kz,Bn,o6];rfl,rfl⟩
  ·rintro _ _ ⟨rfl,I⟩
   refine bc.run C ?_;refine bc.cT 1 ai I C C C C C C C C C C C aY b6 (fun I=>?_);refine bc.run C ?_;refine bc.eB 3 ai I C C C C C C C C aY b6 ?_;refine bc.run C ?_;refine bc.done C ?_;refine cI I ?_;intro I;refine aa.qu ai C C C C C C C ?_;skip;refine aa.DJ ai C C C C C C C C C C ?_;refine aa.r0 ai I C C C C C C C en C C C C aY kN kK C C C C yz ag (fun dx gu f' c4 dd eZ I=>?_);refine cI I ?_;intro I;refine aa.fi ai fR.length C C C C C C C C C C a' ?_;refine aa.jX ai I _ C C C C C C C C C aY (by rw [c4];show fR.length*6+6≤gu*6;simp only [length_nil] at *;omega) C (fun I=>?_);obtain ⟨cg,bY⟩:=NX (x:=x) (l:=fR) (cs:=f') (zc:=_) rfl (by rw [← Bm];exact eZ);refine fG ?_;exact At.mk (nx p n cj dI cB (some (dx,gu,(eQ (fR.length*6) x.cells f'))) (fR++[x])) I (by simp only [nx,pV,qX,dU,tq];exact aX) ⟨some (dx,gu,(eQ (fR.length*6) x.cells f')),fR++[x],⟨cg.trans c4,by rw [tq];exact dd,by rw [D2,tq];exact bY⟩,D0,D1,fun y ay=>pY y (mem_cons_of_mem _ ay),by rw [kz,Bn,o6];rfl,rfl⟩
def ed (p:bP) (n:Int) (c6 vs:af) (aq cB cj:Nat):bL×dC:=(.own cj,.box 110 (dU p n c6 vs aq cB))
theorem Yj (x f:ak) (ab:x.path.length<bz) (a6:f.path.length<bz):eA Tryz.prog (.func 175 [] [.bw f.cells 0]) [x.bK] (.bool (fs x f)):=by
 have U:=Lq x f ab a6;have U:aR Tryz.prog 104 [x.bK,f.bK] (.bool (fs x f)):=U;refine eA.fk (first:=[]) (cap:=[.bw f.cells 0]) ?_;refine aR.bh ai Tryz.func175 C C fun s I=>?_
 rw [ak.bX,ak.bX] at U;rw [ak.bX];unfold ak.cells at *;refine bW ?_;exact bl I
def Bo (l:List ak) (f:ak):Prop:=∀ x∈jf f,l.any (fun y=>fs y x)=true
theorem NZ:∀ {ks:List ak} {k x:ak},k∈ks→x∈jf k→x∈kD ks
  | y::r,k,x,h,ab=>by
    rw [kD];rcases mem_cons.1 h with rfl|h
    · exact List.mem_append_left _ ab
    · exact List.mem_append_right _ (NZ h ab)
theorem Bo.Ik {l:List ak} {f k:ak} (h:Bo l f) (aB:f.cW=false) (aE:k∈f.kids):Bo l k:=fun x ab=>h x (by
 rw [DD,aB,if_neg a'];exact NZ aE ab)
theorem Yk (p:bP) (n:Int) (l:List ak) (vs:af) (aq cB cj:Nat) (w:bx) (e5:l.length≤7) (dg:iI w l) (v:Nat) (av:v<2^63):∀ (k:Nat) (f:ak),f.size≤k→gx w f=true→Bo l f →
    bE Tryz.prog 128 [.ptr cj 0,f.bK,.int .i64 (v:Int)] [ed p n (cS l) vs aq cB cj] (fun o K=>o = .ret (.bool (o1 l v f))∧K=[ed p n (cS l) vs aq cB cj]):=by
  have nc:bz=1099511627776:=rfl;intro k
  induction k with
  | zero=>intro x h;have:=x.size_eq;omega
  | succ k a1=>
    intro f az aw fl;have iB:=f.size_eq;have gh:=MW l v f;have yK:=aw;rw [nh,and_eq_true] at aw;obtain ⟨qI,lR⟩:=aw;refine bE.bh ai Tryz.func128 C C fun s I=>?_
    rw [ak.bX];unfold ed dU cS at *;rcases AD qI with ⟨U,ad⟩|⟨aB,ad,U⟩|⟨U,x,ad⟩|⟨U,x,y,ad⟩
    · rw [U,if_pos C] at gh
      rw [gh];unfold ak.cells;rw [U];refine bC ?_;exact Fin.bu I C aL (aH.all _) ⟨rfl,rfl⟩
    · have b2:f.op=2∨f.op=3∨f.op=4:=by unfold ak.cW at aB;simp at aB;omega
      have q7:=q6 yK aB;have o6:=fl f (by rw [DD,aB,if_pos C];exact mem_singleton.2 C);obtain ⟨i,aQ⟩:∃ i,l.findIdx? (fun x=>fs x f)=some i:=by
        cases h:l.findIdx? (fun x=>fs x f) with
        | some i=>exact ⟨i,rfl⟩
        | none=>
          rw [List.findIdx?_eq_none_iff] at h;obtain ⟨z,bO,B1⟩:=any_eq_true.1 o6;rw [h z bO] at B1;cases B1
      have td:i<l.length:=(List.findIdx?_eq_some_iff_getElem.1 aQ).1;have D3:=Ti (.func 175 [] [.bw f.cells 0]) (fun x=>fs x f) l ag (fun x ab=>Yj x f (by have:=q6 (dg x ab).1 (dg x ab).2;omega) ag);rw [aQ] at D3;simp only at D3;have gh:o1 l v f=v.testBit i:=by
        rw [gh,if_neg ag,if_neg ag,if_neg ag,if_neg ag,aQ]
      rw [gh,← A0];unfold ak.cells at D3 ⊢;rcases b2 with h|h|h
      all_goals
        rw [h] at D3 ⊢;refine hh I ?_;intro I;refine aa.shr _ C C C C C C ag (sV ag) ?_;refine aa.bits _ C C C C C C (zT (n:=1) (lt_of_le_of_lt (Nat.shiftRight_le v i) av) ag) ?_;refine eu ?_;exact Fin.bu I C aL (aH.all _) ⟨rfl,rfl⟩
    · have aB:f.cW=false:=by unfold ak.cW;rw [U];rfl
      have ab:=ak.hV (l:=f.kids) (x:=x) kR;have i1:=a1 x ag (ka lR kR) (fl.Ik aB kR);have cg:([x].map ak.bK)[0]? = some (.agg x.cells):=by rw [← ak.bX];rfl
      rw [U,if_neg ag,if_pos C,ad,wX l v 0 [x] x C] at gh;rw [gh];rw [ak.bX] at i1;unfold ak.cells;rw [U,ad];refine bC ?_;refine aa.b3 rfl rfl rfl rfl rfl i1 I (aH.all _) ?_ (fun _ _ ⟨h,_⟩ _=>by cases h);rintro _ _ ⟨⟨⟩,rfl⟩ I;rw [append_nil] at I ⊢;refine e1 ?_;exact Fin.bu I C aL (aH.all _) ⟨rfl,rfl⟩
    · have aB:f.cW=false:=by unfold ak.cW;rcases U with U|U<;>rw [U]<;>rfl
      have ab:=ak.hV (l:=f.kids) (x:=x) kR;have ay:=ak.hV (l:=f.kids) (x:=y) rG;have i1:=a1 x ag (ka lR kR) (fl.Ik aB kR);have i2:=a1 y ag (ka lR rG) (fl.Ik aB rG);have cg:([x,y].map ak.bK)[0]? = some (.agg x.cells):=by rw [← ak.bX];rfl
      have bY:([x,y].map ak.bK)[1]? = some (.agg y.cells):=by rw [← ak.bX];rfl
      rw [ak.bX] at i1 i2;rw [ad,wX l v 0 [x,y] x C,wX l v 1 [x,y] y C] at gh;unfold ak.cells;rw [ad];rcases U with U|U
      all_goals
        rw [U] at gh ⊢;cases uz:o1 l v x with
        | true=>
          rw [uz] at gh i1;simp at gh;rw [gh];refine bC ?_;refine aa.b3 rfl rfl rfl rfl rfl i1 I (aH.all _) ?_ (fun _ _ ⟨h,_⟩ _=>by cases h);rintro _ _ ⟨⟨⟩,rfl⟩ I;rw [append_nil] at I ⊢;refine bC ?_
          first
            | exact Fin.bu I C aL (aH.all _) ⟨rfl,rfl⟩
            | (refine aa.b3 rfl rfl rfl rfl rfl i2 I (aH.all _) ?_ (fun _ _ ⟨h,_⟩ _=>by cases h)
               rintro _ _ ⟨⟨⟩,rfl⟩ I
               rw [append_nil] at I ⊢
               refine e1 ?_
               exact Fin.bu I C aL (aH.all _) ⟨rfl,rfl⟩)
        | false=>
          rw [uz] at gh i1;simp at gh;rw [gh];refine bC ?_;refine aa.b3 rfl rfl rfl rfl rfl i1 I (aH.all _) ?_ (fun _ _ ⟨h,_⟩ _=>by cases h);rintro _ _ ⟨⟨⟩,rfl⟩ I;rw [append_nil] at I ⊢;refine bC ?_
          first
            | exact Fin.bu I C aL (aH.all _) ⟨rfl,rfl⟩
            | (refine aa.b3 rfl rfl rfl rfl rfl i2 I (aH.all _) ?_ (fun _ _ ⟨h,_⟩ _=>by cases h)
               rintro _ _ ⟨⟨⟩,rfl⟩ I
               rw [append_nil] at I ⊢
               refine e1 ?_
               exact Fin.bu I C aL (aH.all _) ⟨rfl,rfl⟩)
theorem yL (gen:Int) (l:List ak) (v:Nat):∀ (ms:List hW) (i:Nat),(pU gen l v i ms).length≤ms.length
  | [],_=>le_refl _
  | m::r,i=>by
    have:=yL gen l v r (i+1);rw [pU];split<;>simp<;>omega
def Bp (p:bP) (n:Int) (l:List ak):Prop:=∀ m∈p.methods,m.gen=n→Bo l m.fact
theorem N0 (p:bP) (aD:fj p) (db:gy p=true) (n:Int) (l:List ak) (vs:af) (aq cB cj:Nat) (e5:l.length≤7) (dg:iI (b9 p) l) (fV:Bp p n l) (v:Nat) (av:v<2^63) :
  bE Tryz.prog 81 [.ptr cj 0,.int .i64 (v:Int)] [ed p n (cS l) vs aq cB cj] (fun o K=>o = .ret (bf (ds p n l v))∧K=[ed p n (cS l) vs aq cB cj]):=by
 have nc:bz=1099511627776:=rfl;obtain ⟨tp,NY⟩:=uT db;have Yl:=fun f U ad=>Yk p n l vs aq cB cj (b9 p) e5 dg v av f.size f (le_refl _) U ad
 refine bE.bh ai Tryz.func81 C C fun s I=>?_
 unfold ed dU at *;refine hh I ?_;intro I;refine ae.h7 I 3 1 0 fun I=>?_
 refine ae.b4 [0,1,12,13] C I (σ:=Nat×List Int×bL) (fun q=>[(14,.int .i64 (q.1:Int)),(5,.aA 1 (q.2.1.map ba) q.2.2)]) (fun q=>[(q.2.2,.row 3 1 q.2.1.length),ed p n (cS l) vs aq cB cj]) (fun q=>q.1≤p.methods.length∧q.2.1.length≤q.1∧ds p n l v=q.2.1++pU n l v q.1 (p.methods.drop q.1)) (fun q=>p.methods.length-q.1) (0,[],.nil)
  ⟨zero_le _,le_refl _,rfl⟩ ⟨⟨_,rfl,aL⟩,⟨_,rfl,aS.nil gW⟩,trivial⟩ (by simp only [ed,dU];exact aX) ?_
 rintro ⟨j,out,gf⟩ ⟨aK,gn,an⟩ I;simp only [ed,dU] at aK gn an I ⊢;refine b7 ?_;refine ae.cond C (fun au=>?_) (fun aV=>?_);rotate_left
 ·have aV:j=p.methods.length:=by simp at aV;omega
  rw [ep ag,pU,append_nil] at an;rw [an];refine dN ?_;exact Fin.bu (K:=[ed p n (cS l) vs aq cB cj]) I C aS.bb (by simp only [ed,dU];exact aX) ⟨rfl,rfl⟩
 have au:j<p.methods.length:=by simpa using au
 obtain ⟨m,ab,bJ⟩:=b1 (f:=ll) au;have fW:=mem_of_getElem? ab;rw [drop_cons ab,pU] at an;unfold ll nn at bJ;by_cases aw:m.gen=n
 ·have cX:=Yl m.fact (rA _ _ _ _ (Bl db fW)) (fV m fW aw)
  rw [ak.bX] at cX;unfold ak.cells at cX;rw [aw] at bJ an;rw [show decide (n=n)=true by simp,Bool.true_and] at an
  repeat (first|(refine vR I ?_;clear I;intro I)|refine aa.dY ai I rfl rfl rfl rfl rfl rfl rfl (fun cJ I=>?_))
  refine ae.mF I 7 cJ C .here (fun I=>?_);refine ae.uh I cj (.there .here) ai mixed C ?_;refine c1 ?_;refine aN.split 26 C (fun _=>?_) (fun h=>by simp at h);refine ld ?_;refine aN.wZ rfl rfl rfl rfl rfl rfl cX I aX (fun _ _ h=>by obtain ⟨-,rfl⟩:=h;exact ⟨_,.here⟩) ?_ (fun _ _ ⟨h,_⟩ _=>by cases h);rintro _ _ ⟨⟨⟩,rfl⟩ I;simp only [cons_append,nil_append] at I ⊢;cases mx:o1 l v m.fact with
  | true=>
   rw [mx,if_pos C] at an;refine c1 ?_;refine aa.gb ai I C C C C C C C en C C C C C C C C aY hi j9 ag (fun bT I=>?_);refine fG ?_;exact bn.mk (j+1,out++[(j:Int)],.own bT) I ⟨au,by simp;omega,by rw [an];simp⟩ xO (by show aH _ [(_,.row _ _ (out++[(j:Int)]).length),ed p n (cS l) vs aq cB cj] _;rw [length_append];exact (by simp only [ed,dU];exact aX)) oc
  | false=>
   rw [mx,if_neg a'] at an;refine jE ?_;exact bn.mk (j+1,out,gf) I ⟨au,by show out.length≤j+1;omega,an⟩ ca (by simp only [ed,dU];exact aX) oc
 ·rw [show decide (m.gen=n)=false by simpa using aw,Bool.false_and,if_neg a'] at an
  repeat (first|(refine vR I ?_;clear I;intro I)|refine aa.dY ai I rfl rfl rfl rfl rfl rfl rfl (fun cJ I=>?_))
  refine ae.mF I 7 cJ C .here (fun I=>?_);refine ae.uh I cj (.there .here) ai mixed C ?_;refine c1 ?_;refine aN.split 26 C (fun h=>absurd fD aw) (fun _=>?_);refine jE ?_;exact bn.mk (j+1,out,gf) I ⟨au,by show out.length≤j+1;omega,an⟩ ca (by simp only [ed,dU];exact aX) oc
end Go.Proofs.YtnafpeohfbglmaaGreat
namespace Go.eb
mutual
theorem Il:∀ (f:ak) (w:bx) (b:Bool),gx w f=true→∀ l∈h0 b f,∀ x∈l,gx w x.1=true∧x.1.cW=true
  | .mk o a p c n ks,w,b,aw,l,h,x,ab=>by
    have nL:=aw;rw [gx,and_eq_true] at nL;rw [h0] at h;split at h
    · split at h
      · cases h
      · rw [mem_singleton] at h;subst h;cases ab
    · split at h
      · exact yM ks w _ 0 nL.2 l h x ab
      · split at h
        · rename_i aB
          rw [mem_singleton] at h;subst h;rw [mem_singleton] at ab;subst ab;exact ⟨aw,aB⟩
        · split at h
          · rcases mem_append.1 h with h|h
            · exact yM ks w _ 0 nL.2 l h x ab
            · exact yM ks w _ 1 nL.2 l h x ab
          · obtain ⟨u,hu,h⟩:=List.mem_flatMap.1 h
            obtain ⟨v,av,rfl⟩:=mem_map.1 h;rcases Dj v u ab with ab|ab
            · exact yM ks w _ 0 nL.2 u hu x ab
            · exact yM ks w _ 1 nL.2 v av x ab
theorem yM:∀ (ks:List ak) (w:bx) (b:Bool) (n:Nat),jU w ks=true→∀ l∈h' b n ks,∀ x∈l,gx w x.1=true∧x.1.cW=true
  | [],_,b,n,_,l,h,_,_=>by rw [h'] at h;cases h
  | y::r,w,b,0,aw,l,h,x,ab=>by
    rw [jU,and_eq_true] at aw;rw [h'] at h;exact Il y w b aw.1 l h x ab
  | y::r,w,b,n+1,aw,l,h,x,ab=>by
    rw [jU,and_eq_true] at aw;rw [h'] at h;exact yM r w b n aw.2 l h x ab
end
end Go.eb
namespace Go.Proofs.YtnafpeohfbglmaaGreat
open Go.cU Go.eb
theorem Ym (w:bx) (f:ak) (a6:f.size<bz) (aw:gx w f=true) (b:Bool):xP Tryz.prog 242 [] [.bw f.cells 0,.bw [.bool b] 0] [] pQ (h0 b f):=by
 intro l Go fA fI oG K bg;have ez:∀ dS,AG dS (lE l) (fun xs K=>∃ aO,K=aO++[(.own dS,rL dS)]∧Go xs aO) (fun K=>∃ aO,K=aO++[(.own dS,rL dS)]∧fA aO) (fun v K=>∃ aO,K=aO++[(.own dS,rL dS)]∧fI v aO):=fun dS=>by
  refine ⟨rfl,fun x rem K ⟨aO,e,aw⟩=>?_,fun xs K ⟨aO,e,_⟩=>⟨aO++[],by subst e;exact bp.app aO .here⟩,fun K ⟨aO,e,_⟩=>⟨aO++[],by subst e;exact bp.app aO .here⟩⟩;subst e;refine dp.frame (R:=[(.own dS,rL dS)]) (oG x rem aO aw) (aH.js (aH.dq aO)) ?_;rintro o lq (⟨rfl,h⟩|⟨rfl,h⟩|⟨v,rfl,h⟩)
  ·exact .inl ⟨rfl,lq,rfl,h⟩
  ·exact .inr (.inl ⟨rfl,lq,rfl,h⟩)
  ·exact .inr (.inr ⟨v,rfl,lq,rfl,h⟩)
 have hw:=fun dS=>dp.fk (first:=[]) (args:=[f.bK,.bool b,lE l]) (cap:=[.ptr dS 0]) (Vm w dS f.size f (le_refl _) a6 aw b (lE l) _ _ _ (ez dS) [] (K++[(.own dS,rL dS)]) ⟨K,rfl,by rw [append_nil];exact bg⟩)
 rw [ak.bX] at hw;refine bE.bh ai Tryz.func242 C C fun s I=>?_
 rw [nil_append] at I ⊢;unfold ak.cells;unfold ak.cells at hw
 repeat (first|(refine St I ?_;clear I;intro I)|refine aa.dY ai I rfl rfl rfl rfl rfl rfl rfl (fun cJ I=>?_))
 refine aa.gH C C C C C C (hw cJ) I (aH.ih (List.perm_append_singleton _ _).symm) ?_ ?_
 ·rintro x _ (⟨⟨⟩,lq,rfl,h⟩|⟨⟨⟩,lq,rfl,h⟩|⟨_,⟨⟩,_⟩) I
  all_goals rw [append_nil] at I ⊢
  ·refine fH ?_
   exact Fin.bu I C aL (aH.js (aH.dq lq)) (.inl ⟨rfl,.inl h⟩)
  ·refine fH ?_
   exact Fin.bu I C aL (aH.js (aH.dq lq)) (.inl ⟨rfl,.inr h⟩)
 ·rintro x _ (⟨h,_⟩|⟨h,_⟩|⟨v,⟨⟩,lq,rfl,h⟩) I
  ·cases h
  ·cases h
  rw [append_nil] at I ⊢;exact Fin.e9 I aL (aH.js (aH.dq lq)) (.inr ⟨_,rfl,h⟩)
theorem Yn (f:ak) (b:Bool):aR Tryz.prog 210 [f.bK,.bool b] (.func 242 [] [.bw f.cells 0,.bw [.bool b] 0]):=by
 have aq:=bA;refine aR.bh ai Tryz.func210 C C fun s I=>?_
 rw [ak.bX];unfold ak.cells;refine gv ?_;exact bl I
def w8 (w:bx) (f:ak):Bool:=(h0 false f).any fun l=>mU w (et l)
theorem Yo (w:bx) (hw:gw w) (f:ak) (a6:3*f.size+3<bz) (aw:gx w f=true):aR Tryz.prog 174 [gg w,f.bK] (.bool (w8 w f)):=by
 have aq:=bA;refine aR.bh ai Tryz.func174 C C fun s I=>?_
 have aC:=Yn f false;have nP:=Ym w f ag aw false;have Yp:=fun (l:List cf) (h:l∈h0 false f)=>XK w hw l (by have:=(GR f false l h).1;omega) (fun x ab=>⟨(Il f w false aw l h x ab).1,(Il f w false aw l h x ab).2⟩)
 rw [ak.bX] at aC ⊢;unfold ak.cells at *;unfold gg e4 at *
 repeat (first|(refine Su I ?_;clear I;intro I)|refine aa.dY ai I rfl rfl rfl rfl rfl rfl rfl (fun cJ I=>?_)|(refine pw ?_))
 refine ae.FM I C dZ nP .nil (fun rem K=>(∀ l∈rem,l∈h0 false f)∧w8 w f=(rem.any fun l=>mU w (et l))∧K=[(.own cJ,.box 4 [.bool false])]) (fun j K=>j = .exit 0∧w8 w f=true∧K=[(.own cJ,.box 4 [.bool true])]) (fun _ _=>False) ⟨fun _ h=>h,rfl,rfl⟩ ?_ ?_ ?_ (fun _ _ h=>h.elim)
 ·rintro s₁ l rem K ⟨hm,aF,rfl⟩ I
  have N1:=Yp l (hm l mem_cons_self);rw [List.any_cons] at aF;cases D4:mU w (et l) with
  | true=>
   rw [D4] at N1;rw [D4,Bool.true_or] at aF;refine hh I ?_;intro I;exact At.mk _ I (aH.dq _) ⟨rfl,aF,rfl⟩
  | false=>
   rw [D4] at N1;rw [D4,Bool.false_or] at aF;refine bW ?_;exact At.mk _ I (aH.dq _) ⟨fun l h=>hm l (mem_cons_of_mem _ h),aF,rfl⟩
 ·rintro K ⟨_,aF,rfl⟩ I
  have aF:w8 w f=false:=aF;rw [aF];refine cI I ?_;intro I;exact bl I
 ·rintro j K ⟨rfl,aF,rfl⟩ I
  rw [aF];refine cI I ?_;intro I;exact bl I
theorem Yq (w:bx) (hw:gw w) (f:ak) (a6:3*f.size+3<bz):aR Tryz.prog 127 [fm w,f.bK] (.cp [.bool (iz w f&&w8 w f),.int .i64 (if iz w f then 0 else 2)]):=by
 have aq:=bA;refine aR.bh ai Tryz.func127 C C fun s I=>?_
 have U:=GF w hw [f] cG (by intro g aw;rw [mem_singleton] at aw;subst aw;omega);rw [map_cons,map_nil,ak.bX] at U;rw [all_cons,all_nil,Bool.and_true] at U;cases yH:iz w f with
 | false=>
  rw [yH] at U;rw [ak.bX];unfold fm fr c9 bf at *;unfold gg e4 at *;refine bW ?_;exact bl I
 | true=>
  rw [yH] at U;have ad:=Yo w hw f a6 (rA f w 12 24 yH);rw [ak.bX] at ad ⊢;unfold fm fr c9 bf at *;unfold gg e4 at *;refine bW ?_;exact bl I
end Go.Proofs.YtnafpeohfbglmaaGreat
namespace Go.eb
open Go.Proofs.YtnafpeohfbglmaaGreat
theorem D5 (f:ak):fs f f=true:=by unfold fs;simp
theorem Yr {l:List ak} (f:ak) (h:l.Nodup):(hF l f).Nodup:=by
 unfold hF;split
 ·exact h
 ·rename_i az
  rw [List.nodup_append];refine ⟨h,by simp,fun a a7 b aq=>?_⟩;rw [mem_singleton.1 aq];rintro rfl;exact az (any_eq_true.2 ⟨a,a7,D5 a⟩)
theorem N2:∀ (c6 l:List ak),l.Nodup→(c6.foldl hF l).Nodup
 | [],_,h=>h
 | x::r,l,h=>N2 r _ (Yr x h)
theorem N3 (gen:Int):∀ (ms:List hW) (l:List ak),l.Nodup→(ms.foldl (iG gen) l).Nodup
 | [],_,h=>h
 | m::r,l,h=>N3 gen r _ (by unfold iG;split;exact N2 _ _ h;exact h)
theorem Ys (p:bP) (gen:Int):(cK p gen).Nodup:=N3 gen _ _ List.nodup_nil
def r8 (f:ak) (b:Bool):ak:=if b then f else f.not
def r9 (v:Nat):Nat→List ak→ak→ak
 | _,[],a=>a
 | i,f::r,a=>r9 v (i+1) r (if i=0 then r8 f (v.testBit i) else a.and (r8 f (v.testBit i)))
def w9 (l:List ak) (v:Nat):ak:=r9 v 0 l (.mk 1 0 [] 0 0 [])
theorem tr {w:bx} {f:ak} (aw:gx w f=true) (aB:f.cW=true):f.kids=[]:=by
 rw [nh,and_eq_true] at aw;rcases AD aw.1 with ⟨_,h⟩|⟨_,h,_⟩|⟨h,_⟩|⟨h,_⟩
 ·exact h
 ·exact h
 ·unfold ak.cW at aB;rw [h] at aB;cases aB
 ·unfold ak.cW at aB;rcases h with h|h<;>(rw [h] at aB;cases aB)
theorem Yt {f:ak} (aB:f.cW=true):f.op=2∨f.op=3∨f.op=4:=by unfold ak.cW at aB;simp at aB;omega
theorem N4 {f:ak} (aB:f.cW=true) (b:Bool):h0 b f=[[(f,b)]]:=by
 have:=Yt aB;rw [L4,if_neg ag,if_neg ag,if_pos aB]
theorem Yu {f:ak} (aB:f.cW=true) (b:Bool):h0 false (r8 f b)=[[(f,!b)]]:=by
 cases b with
 | true=>exact N4 aB false
 | false=>
  show h0 false f.not=_;unfold ak.not;rw [h0,if_neg dZ,if_pos C,h'];exact N4 aB true
theorem Yv {a x:ak} {mW N5:List cf} (a7:h0 false a=[mW]) (ab:h0 false x=[N5]):h0 false (a.and x)=[jG mW N5]:=by
 unfold ak.and;rw [h0,if_neg dZ,if_neg dZ,if_neg (by simp [ak.cW,ak.op]),if_neg dZ,h',h',h',a7,ab];rfl
theorem Yw {mW:List cf} {x:cf} (h:∀ y∈mW,y.1≠x.1):jG mW [x]=mW++[x]:=by
 show qK mW x=_;unfold qK;rw [if_neg];intro az;obtain ⟨y,ay,ad⟩:=any_eq_true.1 az;exact h y ay (by rw [(U9 x y).1 ad])
theorem N6 (v:Nat):∀ (l:List ak) (i:Nat) (a:ak) (mW:List cf),(∀ x∈l,x.cW=true)→l.Nodup→(∀ y∈mW,y.1∉l)→(i=0→mW=[])→h0 false a=[mW]→h0 false (r9 v i l a)=[mW++rX i l v]
  | [],i,a,mW,_,_,_,_,h=>by rw [r9,rX,append_nil];exact h
  | f::r,i,a,mW,aB,az,ax,bt,h=>by
    rw [List.nodup_cons] at az;have cl:∀ y∈mW++[(f,!v.testBit i)],y.1∉r:=fun y ay=>by
      rcases mem_append.1 ay with ay|ay
      · exact fun hm=>ax y ay (mem_cons_of_mem _ hm)
      · rw [mem_singleton.1 ay];exact az.1
    have e:=Yu (aB f mem_cons_self) (v.testBit i);have ar:h0 false (if i=0 then r8 f (v.testBit i) else a.and (r8 f (v.testBit i)))=[mW++[(f,!v.testBit i)]]:=by
      split
      · rename_i aQ;rw [bt aQ,e];rfl
      · rw [Yv h e,Yw]
        intro y ay he;refine ax y ay ?_;rw [he];exact mem_cons_self
    rw [r9,rX,N6 v r (i+1) _ _ (fun x ab=>aB x (mem_cons_of_mem _ ab)) az.2 cl ag ar,List.append_assoc];rfl
theorem Yx {l:List ak} (aB:∀ x∈l,x.cW=true) (az:l.Nodup) (v:Nat):h0 false (w9 l v)=[rY l v]:=
 N6 v l 0 _ [] aB az (fun _ h=>by cases h) (fun _=>rfl) (by rw [h0];simp)
theorem N7 {w:bx} {f:ak} (aw:gx w f=true) (aB:f.cW=true) {d:Nat} {k:Int} (ax:1≤d) (aE:1≤k):e3 w d k f=(true,k-1):=by
 have Yy:=tr aw aB;rw [nh,and_eq_true] at aw;obtain ⟨o,a,p,c,n,ks⟩:=f;rw [e3,if_neg cG,if_pos aw.1];have:ks=[]:=Yy;rw [this,gX]
theorem Yz {w:bx} {f:ak} {d:Nat} {k m:Int} (h:e3 w d (k-1) f=(true,m)) (aE:1≤k):e3 w (d+1) k f.not=(true,m):=by
 unfold ak.not;rw [e3,if_neg cG,if_pos (by rfl),Nat.add_sub_cancel,gX,h,if_pos C,gX]
theorem YA {w:bx} {f g:ak} {d:Nat} {k m r:Int} (h:e3 w d (k-1) f=(true,m)) (ad:e3 w d m g=(true,r)) (aE:1≤k):e3 w (d+1) k (f.and g)=(true,r):=by
 unfold ak.and;rw [e3,if_neg cG,if_pos (by rfl),Nat.add_sub_cancel,gX,h,if_pos C,gX,ad,if_pos C,gX]
theorem N8 {w:bx} {f:ak} (aw:gx w f=true) (aB:f.cW=true) (b:Bool) {d:Nat} {k:Int} (ax:2≤d) (aE:2≤k):∃ m,e3 w d k (r8 f b)=(true,m)∧k-2≤m:=by
 cases b with
 | true=>exact ⟨k-1,N7 aw aB ag ag,by omega⟩
 | false=>
  obtain ⟨e,rfl⟩:∃ e,d=e+1:=⟨d-1,by omega⟩;exact ⟨k-1-1,Yz (N7 aw aB ag ag) ag,by omega⟩
def Bq (w:bx) (i:Nat) (a:ak):Prop:=∀ (d:Nat) (k:Int),i+1≤d→3*(i:Int)≤k→1≤k→∃ m,e3 w d k a=(true,m)∧k-(if i=0 then 1 else 3*(i:Int)-1)≤m
theorem Bq.next {w:bx} {i:Nat} {a f:ak} {b:Bool} (h:Bq w i a) (aw:gx w f=true) (aB:f.cW=true):Bq w (i+1) (if i=0 then r8 f b else a.and (r8 f b)):=by
 intro d k ax aE l4;split
 ·rename_i bt
  subst bt;obtain ⟨m,U,ad⟩:=N8 aw aB b (d:=d) (k:=k) ag ag;exact ⟨m,U,by simp;omega⟩
 ·rename_i bt
  obtain ⟨e,rfl⟩:∃ e,d=e+1:=⟨d-1,by omega⟩;obtain ⟨m,U,ad⟩:=h e (k-1) ag ag ag;rw [if_neg bt] at ad;obtain ⟨r,al,bd⟩:=N8 aw aB b (d:=e) (k:=m) ag ag;exact ⟨r,YA U al ag,by rw [if_neg ag];push_cast;omega⟩
theorem N9 {w:bx} (v:Nat):∀ (l:List ak) (i:Nat) (a:ak),iI w l→Bq w i a→Bq w (i+l.length) (r9 v i l a)
  | [],i,a,_,h=>h
  | f::r,i,a,dg,h=>by
    have U:=dg f mem_cons_self;have:=N9 (w:=w) v r (i+1) _ (fun x ab=>dg x (mem_cons_of_mem _ ab)) (h.next (b:=v.testBit i) U.1 U.2);rw [r9,length_cons,show i+(r.length+1)=i+1+r.length by omega];exact this
theorem YB {w:bx} {l:List ak} (dg:iI w l) (ib:l.length≤7) (v:Nat):iz w (w9 l v)=true:=by
 have:=N9 (w:=w) v l 0 (.mk 1 0 [] 0 0 []) dg (fun d k ax _ l4=>⟨k-1,by
  rw [e3,if_neg cG,if_pos (by rfl),gX],by simp⟩)
 obtain ⟨m,U,-⟩:=this 12 24 ag ag ag;unfold iz;show (e3 w 12 24 (w9 l v)).1=true;unfold w9;rw [U]
theorem YC {w:bx} {l:List ak} (dg:iI w l) (ib:l.length≤7) (az:l.Nodup) (v:Nat):(iz w (w9 l v)&&w8 w (w9 l v))=lV w l v:=by
 rw [YB dg ib,Bool.true_and];unfold w8 lV;rw [Yx (fun x ab=>(dg x ab).2) az];simp
end Go.eb
namespace Go.Proofs.YtnafpeohfbglmaaGreat
open Go.cU Go.eb
theorem YD (v c:Nat):(((v >>> c &&& 1:Nat):Int)==0) = !v.testBit c:=by
 rw [← A0,Nat.and_one_is_mod];have:v >>> c % 2=0∨v >>> c % 2=1:=by omega
 rcases this with h|h<;>rw [h]<;>rfl
theorem N' (f:ak):f.not.size=1+f.size:=by
 unfold ak.not;rw [ak.size,ak.hB,ak.hB,length_nil];omega
theorem Oa (f g:ak):(f.and g).size=1+f.size+g.size:=by
 unfold ak.and;rw [ak.size,ak.hB,ak.hB,ak.hB,length_nil];omega
theorem Ob (p:bP) (db:gy p=true) (n:Int) (l:List ak) (vs:af) (aq cB cj:Nat) (e5:l.length≤7) (dg:iI (b9 p) l) (eF:l.Nodup) (v:Nat) (av:v<2^63) :
  bE Tryz.prog 80 [.ptr cj 0,.int .i64 (v:Int)] [ed p n (cS l) vs aq cB cj] (fun o K=>o = .ret (.bool (lV (b9 p) l v))∧K=[ed p n (cS l) vs aq cB cj]):=by
 have nc:bz=1099511627776:=rfl;have nu:=yF db;rw [← YC dg e5 eF v];refine bE.bh ai Tryz.func80 C C fun s I=>?_
 unfold ed dU cS at *
 repeat (first|(refine FC I ?_;clear I;intro I)|refine aa.dY ai I rfl rfl rfl rfl rfl rfl rfl (fun cJ I=>?_))
 refine ae.qZ I (ak.mk 1 0 [] 0 0 []).cells (kb:=cJ) aY (by
  repeat (first|exact cR.nil|refine cR.cons (by first|exact aL|exact aS.empty) ?_)) (fun I=>?_)
 obtain ⟨Br,rfl⟩:∃ x,x=cJ:=⟨_,rfl⟩;skip;refine ae.b4 [0,1,5,14,15] C I (σ:=Nat×ak×List af) (fun q=>[(16,.int .i64 (q.1:Int))]) (fun q=>[(.own Br,.box 58 q.2.2),ed p n (cS l) vs aq cB cj]) (fun q=>cR q.2.2 q.2.1.cells∧q.1≤l.length∧q.2.1.size≤1+6*q.1∧w9 l v=r9 v q.1 (l.drop q.1) q.2.1) (fun q=>l.length-q.1) (0,.mk 1 0 [] 0 0 [],(ak.mk 1 0 [] 0 0 []).cells) ⟨cR.refl _,zero_le _,by simp [ak.size,ak.hB],rfl⟩ (cq C) (by simp only [ed,dU,cS];exact aX) ?_;rintro ⟨j,acc,cs⟩ ⟨hle,aK,b',an⟩ I;simp only [ed,dU,cS] at hle aK b' an I ⊢;refine ae.qZ I acc.cells (kb:=Br) aY hle (fun I=>?_);refine b7 ?_;refine ae.cond C (fun au=>?_) (fun aV=>?_);rotate_left
 ·have aV:j=l.length:=by simp at aV;omega
  rw [ep ag,r9] at an;rw [an];have aC:=Yq (b9 p) nu acc ag;rw [ak.bX] at aC;unfold fm fr at aC;refine ae.mF I 5 Br C .here (fun I=>?_);cases a6:iz (b9 p) acc with
  | true=>
   rw [a6] at aC;simp only [Bool.true_and,if_true] at aC ⊢
   repeat (first
    | refine ae.uh I cj .here ai mixed C ?_
    | with_reducible apply ae.seq
    | with_reducible apply b5
    | with_reducible apply lG
    | with_reducible apply fz
    | with_reducible apply lH
    | with_reducible apply ae.exit)
   refine bW ?_;exact Fin.bu I C aL (aH.all _) ⟨rfl,rfl⟩
  | false=>
   rw [a6] at aC;simp only [Bool.false_and,false_eq_true,if_false] at aC ⊢
   repeat (first
    | refine ae.uh I cj .here ai mixed C ?_
    | with_reducible apply ae.seq
    | with_reducible apply b5
    | with_reducible apply lG
    | with_reducible apply fz
    | with_reducible apply lH
    | with_reducible apply ae.exit)
   refine bW ?_;exact Fin.bu I C aL (aH.all _) ⟨rfl,rfl⟩
 have au:j<l.length:=by simpa using au
 obtain ⟨f,ab,bJ⟩:=b1 (f:=ak.bK) au;have q7:=dg f (mem_of_getElem? ab);have tf:f.size≤3:=by
  have U:=f.size_eq;have ad:=q6 q7.1 q7.2;have al:=tr q7.1 q7.2;rw [al,ak.hB] at U;omega
 rw [drop_cons ab,r9] at an;rw [ak.bX] at bJ;have ra:=YD v j;unfold ak.cells at bJ I ⊢
 repeat (first|(refine vR I ?_;clear I;intro I)|refine aa.dY ai I rfl rfl rfl rfl rfl rfl rfl (fun cJ I=>?_))
 refine aa.shr _ C C C C C C ag (sV ag) ?_;refine aa.bits _ C C C C C C (zT (n:=1) (lt_of_le_of_lt (Nat.shiftRight_le v j) av) ag) ?_;refine fH ?_;cases oD:v.testBit j with
 | true=>
  rw [oD] at ra;rw [oD,show r8 f true=f from rfl] at an;refine ae.cond C (fun h=>absurd h (by rw [ra];simp)) (fun _=>?_);cases j with
  | zero=>
   rw [if_pos C] at an;refine hh I ?_;intro I;refine bn.mk (1,f,?_) I ?_ (by repeat (first|exact trivial|refine ⟨⟨_,rfl,aL⟩,?_⟩|refine ⟨⟨_,rfl,aS.of_eq CI⟩,?_⟩)) (by simp only [ed,dU,cS,ak.cells];exact aX) (by show l.length-1<l.length-0;omega);refine ⟨?_,au,by show ak.size f≤7;omega,an⟩;exact cR.refl _
  | succ k=>
   rw [if_neg ag] at an;refine hh I ?_;intro I;refine bn.mk (k+2,acc.and f,?_) I ?_ (by repeat (first|exact trivial|refine ⟨⟨_,rfl,aL⟩,?_⟩|refine ⟨⟨_,rfl,aS.of_eq zL⟩,?_⟩)) (by simp only [ed,dU,cS];exact aX) (by show l.length-(k+2)<l.length-(k+1);omega)
   refine ⟨?_,au,(by
    have bD:ak.size f≤5:=by omega
    show (acc.and f).size≤1+6*(k+2)
    rw [Oa];omega),an⟩
   show cR _ (acc.and f).cells;unfold ak.and ak.cells;refine .cons aL (.cons aL (.cons aS.empty (.cons aL (.cons aL (.one ?_)))));simp only [ak.kids,map_cons,map_nil,ak.bX];exact aS.bb
 | false=>
  rw [oD] at ra;rw [oD,show r8 f false=f.not from rfl] at an;refine ae.cond C (fun _=>?_) (fun h=>absurd h (by rw [ra];simp));refine hh I ?_;intro I
  refine ae.qZ I f.not.cells (kb:=cJ) aY (by
   unfold ak.not ak.cells
   refine .cons aL (.cons aL (.cons aS.empty (.cons aL (.cons aL (.one ?_)))))
   simp only [ak.kids,map_cons,map_nil,ak.bX]
   exact aS.bb) (fun I=>?_)
  cases j with
  | zero=>
   rw [if_pos C] at an;refine hh I ?_;intro I;refine bn.mk (1,f.not,?_) I ?_ (by repeat (first|exact trivial|refine ⟨⟨_,rfl,aL⟩,?_⟩|refine ⟨⟨_,rfl,aS.of_eq CI⟩,?_⟩)) (by simp only [ed,dU,cS,ak.cells];exact aX) (by show l.length-1<l.length-0;omega);refine ⟨?_,au,by show ak.size f.not≤7;(rw [N'];omega),an⟩;exact cR.refl _
  | succ k=>
   rw [if_neg ag] at an;refine hh I ?_;intro I;refine bn.mk (k+2,acc.and f.not,?_) I ?_ (by repeat (first|exact trivial|refine ⟨⟨_,rfl,aL⟩,?_⟩|refine ⟨⟨_,rfl,aS.of_eq zL⟩,?_⟩)) (by simp only [ed,dU,cS];exact aX) (by show l.length-(k+2)<l.length-(k+1);omega)
   refine ⟨?_,au,(by
    have bD:ak.size f.not≤5:=by (rw [N'];omega)
    show (acc.and f.not).size≤1+6*(k+2)
    rw [Oa];omega),an⟩
   show cR _ (acc.and f.not).cells;unfold ak.and ak.cells;refine .cons aL (.cons aL (.cons aS.empty (.cons aL (.cons aL (.one ?_)))));simp only [ak.kids,map_cons,map_nil,ak.bX];exact aS.bb
end Go.Proofs.YtnafpeohfbglmaaGreat
namespace Go.eb
open Go.cU
def fS (f:Nat→Bool) (o:Nat):Nat→Nat
 | 0=>0
 | n+1=>fS f o n+(if f (o+n) then 2^n else 0)
theorem lX (f:Nat→Bool) (o:Nat):∀ n,fS f o n<2^n
  | 0=>Nat.one_pos
  | n+1=>by
    have:=lX f o n;rw [fS,Nat.pow_succ];split<;>omega
theorem oi (f:Nat→Bool) (o:Nat):∀ n i,(fS f o n).testBit i=(decide (i<n)&&f (o+i))
  | 0,i=>by rw [fS];simp
  | n+1,i=>by
    have U:=lX f o n;have ad:=oi f o n i;rw [fS];cases a6:f (o+n) with
    | false=>
      rw [if_neg a',Nat.add_zero,ad];rcases Nat.lt_trichotomy i n with h|h|h
      · rw [decide_eq_true h,decide_eq_true ag]
      · subst h;rw [a6];simp
      · rw [decide_eq_false ag,decide_eq_false ag]
    | true=>
      rw [if_pos C,Nat.add_comm];rcases Nat.lt_trichotomy i n with h|h|h
      · rw [Nat.testBit_two_pow_add_gt h,ad,decide_eq_true h,decide_eq_true ag]
      · subst h
        rw [Nat.testBit_two_pow_add_eq,ad,a6];simp
      · rw [decide_eq_false ag,Bool.false_and]
        exact Nat.testBit_lt_two_pow (Nat.lt_of_lt_of_le (show 2^n+fS f o n<2^(n+1) by rw [Nat.pow_succ];omega) (Nat.pow_le_pow_right ag ag))
theorem D6 {f:Nat→Bool} {o n m:Nat} (hm:m<2^n) (h:∀ i,i<n→m.testBit i=f (o+i)):m=fS f o n:=by
 apply Nat.eq_of_testBit_eq;intro i;rw [oi];by_cases aQ:i<n
 ·rw [h i aQ,decide_eq_true aQ,Bool.true_and]
 ·rw [decide_eq_false aQ,Bool.false_and]
  exact Nat.testBit_lt_two_pow (Nat.lt_of_lt_of_le hm (Nat.pow_le_pow_right ag ag))
def j0 (f:Nat→Bool):List Int:=[(fS f 0 64:Int),(fS f 64 64:Int)]
theorem Oc (f g:Nat→Bool) (o n:Nat):fS f o n &&& fS g o n=fS (fun u=>f u&&g u) o n:=
 D6 (lt_of_le_of_lt Nat.and_le_left (lX f o n)) fun i aQ=>by
  rw [Nat.testBit_and,oi,oi,decide_eq_true aQ];rfl
theorem Od (f g:Nat→Bool) (o:Nat):kO (fS f o 64) (fS g o 64)=fS (fun u=>f u && !g u) o 64:=
 D6 (lt_of_le_of_lt Nat.and_le_left (lX f o 64)) fun i aQ=>by
  unfold kO;rw [Nat.testBit_and,Nat.testBit_xor,oi,oi,decide_eq_true aQ,show (18446744073709551615:Nat)=2^64-1 by decide,Nat.testBit_two_pow_sub_one,decide_eq_true aQ];simp
theorem Oe (f:Nat→Bool) (o n i:Nat) (aQ:i<n):fS f o n|||2^i=fS (fun u=>f u||u==o+i) o n:=
  D6 (Nat.or_lt_two_pow (lX f o n) (Nat.pow_lt_pow_right ag aQ)) fun j aK=>by
    rw [Nat.testBit_or,oi,Nat.testBit_two_pow,decide_eq_true aK,Bool.true_and];congr 1;rw [Bool.eq_iff_iff,decide_eq_true_eq,beq_iff_eq];omega
theorem Of {f g:Nat→Bool} {o n:Nat} (h:∀ i,i<n→f (o+i)=g (o+i)):fS f o n=fS g o n:=
 D6 (lX f o n) fun i aQ=>by rw [oi,decide_eq_true aQ,Bool.true_and,h i aQ]
theorem YE {f g:Nat→Bool} (h:j0 f=j0 g):∀ u,u<128→f u=g u:=by
 unfold j0 at h;have U:fS f 0 64=fS g 0 64:=by have:=(List.cons.inj h).1;omega
 have ad:fS f 64 64=fS g 64 64:=by have:=(List.cons.inj (List.cons.inj h).2).1;omega
 intro u hu;by_cases ar:u<64
 ·have a:=oi f 0 64 u
  have b:=oi g 0 64 u;rw [U,b,decide_eq_true ar,Bool.true_and,Bool.true_and,zero_add] at a;exact a.symm
 ·have a:=oi f 64 64 (u-64)
  have b:=oi g 64 64 (u-64);rw [ad,b,decide_eq_true ag,Bool.true_and,Bool.true_and,show 64+(u-64)=u by omega] at a;exact a.symm
theorem Bs {o:Nat} {f:Nat→Bool} (h:∀ u,f u=false):∀ n,fS f o n=0
 | 0=>rfl
 | n+1=>by rw [fS,Bs h n,h,if_neg a']
theorem YF:j0 (fun _=>false)=[0,0]:=by
 unfold j0;rw [Bs (fun _=>rfl),Bs (fun _=>rfl)];rfl
end Go.eb
namespace Go.Proofs.YtnafpeohfbglmaaGreat
open Go.cU Go.eb
def kp (f:Nat→Bool):af := .agg [.int .u64 (fS f 0 64:Nat),.int .u64 (fS f 64 64:Nat)]
theorem Og {v:Nat} (av:v<2^40):IntKind.wrap .i64 (Int.tdiv (v:Int) (ofNat 64))=((v / 64:Nat):Int):=by
 rw [show Int.tdiv (v:Int) (ofNat 64)=((v / 64:Nat):Int) from rfl];exact ek ag ag
theorem Oh (v:Nat):Int.tmod (v:Int) (ofNat 64)=((v % 64:Nat):Int):=rfl
theorem Im (m c:Nat):(((m >>> c &&& 1:Nat):Int)==1)=m.testBit c:=A0 m c
theorem YG (f g:Nat→Bool):aR Tryz.prog 106 [kp f,kp g] (kp (fun u=>f u&&g u)):=by
 have aq:=bA;refine aR.bh ai Tryz.func106 C C fun s I=>?_
 unfold kp
 repeat (first|(refine J' ?_)|refine aa.dY ai I C C C C C C C (fun cJ I=>?_))
 refine aa.lN ai 0 C C C C C C C C C C ag ?_;refine dy ?_;refine aa.lN ai 0 C C C C C C C C C C ag ?_;refine dy ?_;refine aa.bits _ C C C C C C (uc (lX f 0 64) (lX g 0 64)) ?_;refine aa.lN ai 1 C C C C C C C C C C ag ?_;refine dy ?_;refine aa.lN ai 1 C C C C C C C C C C ag ?_;refine dy ?_;refine aa.bits _ C C C C C C (uc (lX f 64 64) (lX g 64 64)) ?_;rw [Oc,Oc];refine cI I ?_;intro I;exact Fin.cx I (nO C C (bp.get aY I) C) aL
theorem YH (f g:Nat→Bool):aR Tryz.prog 107 [kp f,kp g] (kp (fun u=>f u && !g u)):=by
 have aq:=bA;refine aR.bh ai Tryz.func107 C C fun s I=>?_
 unfold kp
 repeat (first|(refine J' ?_)|refine aa.dY ai I C C C C C C C (fun cJ I=>?_))
 refine aa.lN ai 0 C C C C C C C C C C ag ?_;refine dy ?_;refine aa.lN ai 0 C C C C C C C C C C ag ?_;refine dy ?_;refine aa.bits _ C C C C C C (CQ (lX f 0 64) (lX g 0 64)) ?_;refine aa.lN ai 1 C C C C C C C C C C ag ?_;refine dy ?_;refine aa.lN ai 1 C C C C C C C C C C ag ?_;refine dy ?_;refine aa.bits _ C C C C C C (CQ (lX f 64 64) (lX g 64 64)) ?_;rw [Od,Od];refine cI I ?_;intro I;exact Fin.cx I (nO C C (bp.get aY I) C) aL
theorem YI (f:Nat→Bool) (v:Nat) (av:v<128):aR Tryz.prog 151 [kp f,.int .i64 (v:Int)] (.bool (f v)):=by
 have aq:=bA;refine aR.bh ai Tryz.func151 C C fun s I=>?_
 unfold kp;have bq:=Og (v:=v) ag;have aF:=Oh v;have hm:=Nat.mod_lt v (show 64>0 by omega);by_cases h:v<64
 ·refine bC ?_
  refine aa.lN ai 0 C C C C C C C C C (by rw [bq];omega) ag ?_;refine bC ?_;rw [aF];refine aa.shr _ C C C C C C ag (sV hm) ?_;refine aa.bits _ C C C C C C (uc (n:=1) (lt_of_le_of_lt (Nat.shiftRight_le _ (v % 64)) (lX f 0 64)) ag) ?_;refine eu ?_;refine Fin.cx I C (aS.of_eq (congrArg af.bool ?_));rw [Im,oi,decide_eq_true hm,Bool.true_and];congr 1;omega
 ·refine bC ?_
  refine aa.lN ai 1 C C C C C C C C C (by rw [bq];omega) ag ?_;refine bC ?_;rw [aF];refine aa.shr _ C C C C C C ag (sV hm) ?_;refine aa.bits _ C C C C C C (uc (n:=1) (lt_of_le_of_lt (Nat.shiftRight_le _ (v % 64)) (lX f 64 64)) ag) ?_;refine eu ?_;refine Fin.cx I C (aS.of_eq (congrArg af.bool ?_));rw [Im,oi,decide_eq_true hm,Bool.true_and];congr 1;omega
theorem Oi (f:Nat→Bool) (v:Nat) (av:v<128):aR Tryz.prog 60 [kp f,.int .i64 (v:Int)] (kp (fun u=>f u||u==v)):=by
 have aq:=bA;refine aR.bh ai Tryz.func60 C C fun s I=>?_
 unfold kp;have bq:=Og (v:=v) ag;have aF:=Oh v;have hm:=Nat.mod_lt v (show 64>0 by omega);have h4:2^(v % 64)<2^64:=Nat.pow_lt_pow_right ag hm;by_cases h:v<64
 ·have jA:=Oe f 0 64 (v % 64) hm
  rw [show (fun u=>f u||u==0+v % 64)=(fun u=>f u||u==v) by funext u;congr 2;omega] at jA;have cg:fS (fun u=>f u||u==v) 64 64=fS f 64 64:=Of fun i aQ=>by
   rw [show (64+i==v)=false by simp;omega,Bool.or_false]
  rw [cg,← jA]
  repeat (first|(refine rr ?_)|refine aa.jR I C C C C C C (fun b I=>?_)|refine aa.dY ai I C C C C C C C (fun cJ I=>?_)|(refine Ka ?_))
  refine aN.arr ai 0 C C C C C C C C C (by rw [bq];omega) ag ?_;refine cI I ?_;intro I;rw [aF];refine aN.shl _ C C C C C C ag (CR hm) ?_;refine aN.bits _ C C C C C C (vW (lX f 0 64) h4) ?_;refine aN.arr ai 0 C C C C C C C C C (by rw [bq];omega) ag ?_;refine cI I ?_;intro I;exact Fin.cx I (nO C C (bp.get aY I) C) aL
 ·have jA:=Oe f 64 64 (v % 64) hm
  rw [show (fun u=>f u||u==64+v % 64)=(fun u=>f u||u==v) by funext u;congr 2;omega] at jA;have cg:fS (fun u=>f u||u==v) 0 64=fS f 0 64:=Of fun i aQ=>by
   rw [show (0+i==v)=false by simp;omega,Bool.or_false]
  rw [cg,← jA]
  repeat (first|(refine rr ?_)|refine aa.jR I C C C C C C (fun b I=>?_)|refine aa.dY ai I C C C C C C C (fun cJ I=>?_)|(refine Ka ?_))
  refine aN.arr ai 1 C C C C C C C C C (by rw [bq];omega) ag ?_;refine cI I ?_;intro I;rw [aF];refine aN.shl _ C C C C C C ag (CR hm) ?_;refine aN.bits _ C C C C C C (vW (lX f 64 64) h4) ?_;refine aN.arr ai 1 C C C C C C C C C (by rw [bq];omega) ag ?_;refine cI I ?_;intro I;exact Fin.cx I (nO C C (bp.get aY I) C) aL
def Bt (p:bP) (n:Int) (l:List ak) (vs:List Nat):List (af×af):=vs.map fun v:Nat=>(.int .i64 (v:Int),bf (ds p n l v))
def hQ (vs:List Nat):List af:=vs.map fun v:Nat => .int .i64 (v:Int)
theorem Oj (g:Nat→af) (x:af) (v:Nat):∀ vs:List Nat,v∉vs→lA (vs.map fun u:Nat=>(.int .i64 (u:Int),g u)) (.int .i64 (v:Int)) x=some ((vs.map fun u:Nat=>(.int .i64 (u:Int),g u))++[(.int .i64 (v:Int),x)])
  | [],_=>rfl
  | u::r,h=>by
    have hu:((v:Int)==(u:Int))=false:=by
      rw [beq_eq_false_iff_ne];intro he;exact h (by rw [show v=u by omega];exact mem_cons_self)
    rw [map_cons,lA];simp only [j2,if_true,hu,Oj g x v r (fun hm=>h (mem_cons_of_mem _ hm)),cons_append]
theorem D7 (g:Nat→af) (v:Nat):∀ vs:List Nat,iV (vs.map fun u:Nat=>(.int .i64 (u:Int),g u)) (.int .i64 (v:Int))=some (if vs.contains v then some (g v) else none)
  | []=>rfl
  | u::r=>by
    rw [map_cons,iV];by_cases h:u=v
    · subst h
      simp [j2]
    · have hu:((v:Int)==(u:Int))=false:=by
        rw [beq_eq_false_iff_ne];omega
      simp only [j2,if_true,hu,D7 g v r,List.contains_cons];rw [show (v==u)=false by rw [beq_eq_false_iff_ne];omega,Bool.false_or]
theorem Bu {c:Nat} (h:c≤7):IntKind.wrap .i64 (1*2^(min (c:Int).toNat (IntKind.bits .i64)))=((2^c:Nat):Int):=by
 have U:min (c:Int).toNat (IntKind.bits .i64)=c:=by simp [IntKind.bits];omega
 rw [U];have ad:(1*2^c:Int)=((2^c:Nat):Int):=by push_cast;omega
 have al:2^c<2^63:=Nat.pow_lt_pow_right ag ag;rw [ad,FR al]
def oj (w:bx) (l:List ak) (v:Nat):List Nat:=(range v).filter (lV w l)
theorem Ol (w:bx) (l:List ak) (v:Nat):oj w l (v+1)=oj w l v++(if lV w l v then [v] else []):=by
 unfold oj;rw [List.range_succ,List.filter_append,filter_cons];rfl
theorem YJ (w:bx) (l:List ak) (v:Nat):v∉oj w l v:=fun h=>by
 have:=List.mem_range.1 (List.mem_filter.1 h).1;omega
theorem Om (w:bx) (l:List ak) (v:Nat):(oj w l v).length≤v:=by
 have:=List.length_filter_le (lV w l) (range v);rw [List.length_range] at this;exact this
theorem Io (p:bP) (aD:fj p) (db:gy p=true) (n:Int) (l:List ak) (aq cB cj:Nat) (e5:l.length≤7) (dg:iI (b9 p) l) (eF:l.Nodup) (fV:Bp p n l) :
  bE Tryz.prog 59 [.ptr cj 0] [ed p n (cS l) (.aA 0 [] .nil) aq cB cj,(.own aq,.map [])] (fun o K=>o = .ret (.cp [])∧K=[ed p n (cS l) (.aA 1 (hQ (ik (b9 p) l)) .bb) aq cB cj,(.own aq,.map (Bt p n l (ik (b9 p) l)))]):=by
 have nc:bz=1099511627776:=rfl;have ts:2^l.length≤2^7:=Nat.pow_le_pow_right ag e5;have rV:=fun vs v h=>Ob p db n l vs aq cB cj e5 dg eF v h
 have D8:=fun vs v h=>N0 p aD db n l vs aq cB cj e5 dg fV v h
 have ya:ik (b9 p) l=oj (b9 p) l (2^l.length):=rfl;refine bE.bh ai Tryz.func59 C C fun s I=>?_
 unfold ed dU cS at *;refine cI I ?_;intro I;refine aa.shl ((2^l.length:Nat):Int) C C C C C C ag (by rw [length_map];exact Bu e5) ?_;refine dF ?_;refine ae.h7 I 3 1 0 fun I=>?_
 refine ae.qZ I (dU p n (cS l) (.aA 1 (hQ []) .nil) aq cB) (kb:=cj) aY (by
  unfold dU cS
  repeat (first|exact cR.nil|refine cR.cons (by first|exact aL|exact aS.nil gW) ?_)) (fun I=>?_)
 unfold dU cS at I ⊢;refine ae.b4 [0,8] C I (σ:=Nat×bL) (fun q=>[(9,.int .i64 (q.1:Int))]) (fun q=>[(q.2,.row 3 1 (oj (b9 p) l q.1).length),ed p n (cS l) (.aA 1 (hQ (oj (b9 p) l q.1)) q.2) aq cB cj,(.own aq,.map (Bt p n l (oj (b9 p) l q.1)))]) (fun q=>q.1≤2^l.length) (fun q=>2^l.length-q.1) (0,.nil)
  (zero_le _) (cq C) (by simp only [ed,dU,cS];exact aX) ?_
 rintro ⟨v,gf⟩ av I;simp only [ed,dU,cS,hQ,Bt] at av I ⊢;refine b7 ?_;refine ae.cond C (fun au=>?_) (fun aV=>?_);rotate_left
 ·have aV:v=2^l.length:=Nat.le_antisymm av (Int.ofNat_le.1 (Int.not_lt.1 (of_decide_eq_false aV)))
  subst aV;rw [ya]
  refine ae.qZ I (dU p n (cS l) (.aA 1 (hQ (oj (b9 p) l (2^l.length))) .bb) aq cB) (kb:=cj) aY (by
   unfold dU cS
   repeat (first|exact cR.nil|refine cR.cons (by first|exact aL|exact aS.bb) ?_)) (fun I=>?_)
  refine dN ?_;exact Fin.bu I C aL (by simp only [ed,dU,cS];exact aX) ⟨rfl,rfl⟩
 have au:v<2^l.length:=Int.ofNat_lt.1 (of_decide_eq_true au);have Ip:=fun vs=>rV vs v ag
 have YK:=fun vs=>D8 vs v ag
 have uU:=Ol (b9 p) l v;have fw:=Om (b9 p) l v;refine bC ?_;refine aa.b3 rfl rfl rfl rfl rfl (Ip (.aA 1 ((oj (b9 p) l v).map fun v:Nat => .int .i64 (v:Int)) gf)) I aX ?_ (fun _ _ ⟨h,_⟩ _=>by cases h);rintro _ _ ⟨⟨⟩,rfl⟩ I;simp only [nil_append,cons_append] at I ⊢;cases wy:lV (b9 p) l v with
 | false=>
  rw [wy,if_neg a',append_nil] at uU;refine bC ?_;exact bn.mk (v+1,gf) I au ca (by simp only [uU];exact aX) (by show 2^l.length-(v+1)<2^l.length-v;omega)
 | true=>
  rw [wy,if_pos C] at uU;refine cI I ?_;intro I;refine aa.gb ai I C C C C C C C en C C C C C C C C aY hi j9 ag (fun bT I=>?_);refine cI I ?_;intro I;have YL:=YK (.aA 1 ((oj (b9 p) l v).map (fun v:Nat=>af.int .i64 (v:Int))++[.int .i64 (v:Int)]) (.own bT));have Aa:=Oj (fun v=>bf (ds p n l v)) (bf (ds p n l v)) v _ (YJ (b9 p) l v);refine ae.qm (dK [(cj,_)]) ai mixed C (bm.run (dK.one (bp.get aY I)) C ?_);refine bm.nN 3 ai (dK.one (bp.get aY I)) C C C C C C C C (fun _ h=>dK.fst h) b6 ?_;refine bm.run (dK.one (bp.get aY I)) C ?_;refine bm.b3 rfl rfl rfl rfl rfl rfl rfl YL I aX (fun _ _ h I=>by obtain ⟨-,rfl⟩:=h;exact .inl (dK.one (bp.get .here I))) ?_ (fun _ _ ⟨h,_⟩ _=>by cases h);rintro _ _ ⟨⟨⟩,rfl⟩ I;simp only [nil_append,cons_append] at I ⊢;refine bm.run (dK.one (bp.get aY I)) C ?_;refine bm.mE 8 ai I C C C C (.inl C) C C C C C C aY C Aa (fun _ => .inr C) (fun I=>?_);refine bc.done C ?_;refine gd ?_;exact bn.mk (v+1,.own bT) I au ca (by simp only [uU,map_append,map_cons,map_nil,length_append,length_cons,length_nil];exact aX) (by show 2^l.length-(v+1)<2^l.length-v;omega)
end Go.Proofs.YtnafpeohfbglmaaGreat
namespace Go.eb
open Go.Proofs.YtnafpeohfbglmaaGreat
theorem YM (l:List ak) (f:ak):(hF l f).any (fun y=>fs y f)=true:=by
 unfold hF;split
 ·assumption
 ·rw [List.any_append];simp [D5]
theorem YN {l:List ak} {f x:ak} (h:l.any (fun y=>fs y x)=true):(hF l f).any (fun y=>fs y x)=true:=by
 unfold hF;split
 ·exact h
 ·rw [List.any_append,h];rfl
theorem Iq {x:ak}:∀ (c6 l:List ak),l.any (fun y=>fs y x)=true→(c6.foldl hF l).any (fun y=>fs y x)=true
 | [],_,h=>h
 | a::r,l,h=>Iq r _ (YN h)
theorem On {x:ak}:∀ (c6 l:List ak),x∈c6→(c6.foldl hF l).any (fun y=>fs y x)=true
  | a::r,l,h=>by
    rw [foldl_cons];rcases mem_cons.1 h with rfl|h
    · exact Iq r _ (YM l x)
    · exact On r _ h
theorem Oo {gen:Int} {x:ak}:∀ (ms:List hW) (l:List ak),l.any (fun y=>fs y x)=true→(ms.foldl (iG gen) l).any (fun y=>fs y x)=true
 | [],_,h=>h
 | m::r,l,h=>Oo r _ (by unfold iG;split;exact Iq _ _ h;exact h)
theorem Oq {gen:Int} {x:ak}:∀ (ms:List hW) (l:List ak) (m:hW),m∈ms→m.gen=gen→x∈jf m.fact→(ms.foldl (iG gen) l).any (fun y=>fs y x)=true
  | a::r,l,m,h,aw,ab=>by
    rw [foldl_cons];rcases mem_cons.1 h with rfl|h
    · exact Oo r _ (by unfold iG;rw [if_pos aw];exact On _ _ ab)
    · exact Oq r _ m h aw ab
theorem YO (p:bP) (gen:Int):Bp p gen (cK p gen):=fun m hm aw x ab=>Oq p.methods [] m hm aw ab
theorem YP {p:bP} {gen:Int} (h:eY p gen=0):gy p=true∧o0 p gen=true∧(cK p gen).length≤7:=by
 unfold eY at h;split at h
 ·rename_i U
  rw [and_eq_true] at U;split at h
  ·exact ⟨U.1,U.2,by assumption⟩
  ·omega
 ·omega
theorem Ot {w:bx} {l:List ak} {v:Nat} (h:v∈ik w l):v<2^l.length:=by
 unfold ik at h;exact List.mem_range.1 (List.mem_filter.1 h).1
theorem D9 (w:bx) (l:List ak):(ik w l).length≤2^l.length:=by
 unfold ik;have:=List.length_filter_le (lV w l) (range (2^l.length));rw [List.length_range] at this;exact this
end Go.eb
namespace Go.Proofs.YtnafpeohfbglmaaGreat
open Go.cU Go.eb
def sa (p:bP) (n:Int):af := .cp [if eY p n=0 then cS (cK p n) else .aA 0 [] .nil,.int .i64 (eY p n)]
def yN (p:bP) (n:Int):af := .cp [if eY p n=0 then .aA 1 (hQ (ik (b9 p) (cK p n))) .bb else .aA 0 [] .nil,.int .i64 (eY p n)]
def Bv (p:bP) (n v:Int):Bool:=decide (0≤v)&&(decide (v<((2^(cK p n).length:Nat):Int))&&lV (b9 p) (cK p n) v.toNat)
def sb (p:bP) (n v:Int):Int:=if eY p n=0 then (if Bv p n v then 0 else 5) else eY p n
def yO (p:bP) (n v:Int):af := .cp [if sb p n v=0 then bf (ds p n (cK p n) v.toNat) else .aA 0 [] .nil,.int .i64 (sb p n v)]
theorem sc {p:bP} {n:Int} (he:eY p n=0):gy p=true∧(cK p n).length≤7∧iI (b9 p) (cK p n)∧(cK p n).Nodup∧Bp p n (cK p n):=by
 obtain ⟨U,-,ad⟩:=YP he;exact ⟨U,ad,(Ih U n).1,Ys p n,YO p n⟩
theorem YQ (p:bP) (aD:fj p) (n:Int):aR Tryz.prog 25 [cA p,.int .i64 n] (sa p n):=by
 have aq:=bA;refine aR.bh ai Tryz.func25 C C fun s I=>?_
 have a7:=yG p aD n;unfold sa;unfold cA cL at *;refine dv ?_;refine aa.b3 rfl rfl rfl rfl rfl a7 I .nil ?_ (fun _ _ h _=>by rcases h with ⟨_,_,_,_,h,_⟩|⟨_,⟨_,h⟩,_⟩<;>cases h);rintro _ _ (⟨he,cj,aq,cB,⟨⟩,rfl⟩|⟨he,⟨v,⟨⟩⟩,rfl⟩) I
 ·rw [he,if_pos C]
  simp only [cons_append,nil_append] at I ⊢;unfold dU cS at *;refine hh I ?_;intro I;exact bl I
 ·rw [if_neg he]
  simp only [nil_append] at I ⊢;refine eh ?_;refine ae.cond C (fun _=>?_) (fun h=>absurd fD he);refine gv ?_;exact bl I
theorem Ou (p:bP) (aD:fj p) (n:Int):aR Tryz.prog 27 [cA p,.int .i64 n] (yN p n):=by
 have aq:=bA;refine aR.bh ai Tryz.func27 C C fun s I=>?_
 have a7:=yG p aD n;unfold yN;unfold cA cL at *;refine dv ?_;refine aa.b3 rfl rfl rfl rfl rfl a7 I .nil ?_ (fun _ _ h _=>by rcases h with ⟨_,_,_,_,h,_⟩|⟨_,⟨_,h⟩,_⟩<;>cases h);rintro _ _ (⟨he,cj,aq,cB,⟨⟩,rfl⟩|⟨he,⟨v,⟨⟩⟩,rfl⟩) I
 ·rw [he,if_pos C]
  obtain ⟨db,e5,dg,eF,fV⟩:=sc he;have kW:=Io p aD db n (cK p n) aq cB cj e5 dg eF fV;simp only [cons_append,nil_append] at I ⊢;unfold ed dU cS at *;refine bC ?_;refine aa.b3 rfl rfl rfl rfl rfl kW I aX ?_ (fun _ _ ⟨h,_⟩ _=>by cases h);rintro _ _ ⟨⟨⟩,rfl⟩ I;simp only [cons_append,nil_append] at I ⊢;refine cI I ?_;intro I;exact bl I
 ·rw [if_neg he]
  simp only [nil_append] at I ⊢;refine eh ?_;refine ae.cond C (fun _=>?_) (fun h=>absurd fD he);refine gv ?_;exact bl I
theorem Ir (p:bP) (aD:fj p) (n v:Int):aR Tryz.prog 29 [cA p,.int .i64 n,.int .i64 v] (yO p n v):=by
 have aq:=bA;refine aR.bh ai Tryz.func29 C C fun s I=>?_
 have a7:=yG p aD n;have hm:sb p n v=if eY p n=0 then (if Bv p n v then 0 else 5) else eY p n:=rfl
 unfold yO;unfold cA cL at *;refine dv ?_;refine aa.b3 rfl rfl rfl rfl rfl a7 I .nil ?_ (fun _ _ h _=>by rcases h with ⟨_,_,_,_,h,_⟩|⟨_,⟨_,h⟩,_⟩<;>cases h);rintro _ _ (⟨he,cj,aq,cB,⟨⟩,rfl⟩|⟨he,⟨v,⟨⟩⟩,rfl⟩) I
 ·obtain ⟨db,e5,dg,eF,fV⟩:=sc he
  have ts:2^(cK p n).length≤2^7:=Nat.pow_le_pow_right ag e5;rw [if_pos he] at hm;have av:Bv p n v=(decide (0≤v)&&(decide (v<((2^(cK p n).length:Nat):Int))&&lV (b9 p) (cK p n) v.toNat)):=rfl;simp only [cons_append,nil_append] at I ⊢;unfold dU cS at I ⊢;refine bC ?_;by_cases U:v<0
  ·refine aa.de 23 C (decide_eq_true U) ?_
   rw [av,show decide (0≤v)=false by simp;omega,Bool.false_and,if_neg a'] at hm;rw [hm,if_neg a'];refine e1 ?_;exact bl I
  refine aa.cY 23 C (decide_eq_false U) ?_;obtain ⟨u,rfl⟩:∃ u:Nat,v=u:=⟨v.toNat,by omega⟩;rw [decide_eq_true (Int.natCast_nonneg u),Bool.true_and,toNat_natCast] at av;rw [toNat_natCast];refine cI I ?_;intro I;refine aa.shl ((2^(cK p n).length:Nat):Int) C C C C C C ag (by rw [length_map];exact Bu e5) ?_;refine dy ?_;by_cases ad:(u:Int)<((2^(cK p n).length:Nat):Int);rotate_left
  ·refine aa.de 33 C (decide_eq_true (Int.not_lt.1 ad)) ?_
   rw [av,decide_eq_false ad,Bool.false_and,if_neg a'] at hm;rw [hm,if_neg a'];refine e1 ?_;exact bl I
  refine aa.cY 33 C (decide_eq_false (Int.not_le.2 ad)) ?_;have al:u<2^(cK p n).length:=Int.ofNat_lt.1 ad;rw [decide_eq_true ad,Bool.true_and] at av;have rV:=Ob p db n (cK p n) (.aA 0 [] .nil) aq cB cj e5 dg eF u ag;have D8:=N0 p aD db n (cK p n) (.aA 0 [] .nil) aq cB cj e5 dg fV u ag;unfold ed dU cS at rV D8;refine dy ?_;refine aa.b3 rfl rfl rfl rfl rfl rV I aX ?_ (fun _ _ ⟨h,_⟩ _=>by cases h);rintro _ _ ⟨⟨⟩,rfl⟩ I;simp only [cons_append,nil_append] at I ⊢;cases aC:lV (b9 p) (cK p n) u with
  | false=>
   rw [av,aC,if_neg a'] at hm;rw [hm,if_neg a'];refine e1 ?_;exact bl I
  | true=>
   rw [av,aC,if_pos C] at hm;rw [hm,if_pos C];refine bC ?_;refine aa.b3 rfl rfl rfl rfl rfl D8 I aX ?_ (fun _ _ ⟨h,_⟩ _=>by cases h);rintro _ _ ⟨⟨⟩,rfl⟩ I;simp only [cons_append,nil_append] at I ⊢;refine eu ?_;exact bl I
 ·rw [if_neg he] at hm
  rw [hm,if_neg he];simp only [nil_append] at I ⊢;refine bC ?_;refine ae.cond C (fun _=>?_) (fun h=>absurd fD he);refine ja ?_;exact bl I
def pZ (p:bP) (n:Int) (l:List ak) (aq cB cj:Nat) (vs:List Nat):a8:=[ed p n (cS l) (.aA 1 (hQ vs) .bb) aq cB cj,(.own aq,.map (Bt p n l vs))]
def YR:Option Nat→Int
 | none => -1
 | some v=>v
theorem Ov (g:Nat→af):∀ vs:List Nat,iV (vs.map fun u:Nat=>(.int .i64 (u:Int),g u)) (.int .i64 (-1))=some none
  | []=>rfl
  | u::r=>by
    rw [map_cons,iV];have hu:((-1:Int)==(u:Int))=false:=by rw [beq_eq_false_iff_ne];omega
    simp only [j2,if_true,hu,Ov g r]
def YS (h:Nat→List Int) (vs rest:List Nat):Option Nat→Prop
 | none=>vs=rest
 | some v=>qW h vs=rest.all (fun u=>h u==h v)∧firstM h vs=h v
theorem YT (p:bP) (n:Int) (l:List ak) (aq cB cj:Nat) (vs:List Nat) (eH:∀ v∈vs,v<128) (fw:vs.length≤128) (hs:p.methods.length≤16) (q:Nat→Bool) :
    bE Tryz.prog 105 [.ptr cj 0,kp q] (pZ p n l aq cB cj vs) (fun o K=>o = .ret (if qW (ds p n l) (vs.filter q) then .cp [bf (firstM (ds p n l) (vs.filter q)),.bool true] else .cp [.aA 0 [] .nil,.bool false])∧K=pZ p n l aq cB cj vs):=by
  have nc:bz=1099511627776:=rfl;have te:=fun v h=>YI q v h
  have Ow:=fun v=>yL n l v p.methods 0
  refine bE.bh ai Tryz.func105 C C fun s I=>?_
  unfold pZ ed dU cS at *;refine hh I ?_;intro I;refine ae.b4 [0,3,12,13] C I (σ:=Nat×Option Nat) (fun x=>[(14,.int .i64 (x.1:Int)),(6,.int .i64 (YR x.2))]) (fun _=>pZ p n l aq cB cj vs) (fun x=>x.1≤vs.length∧(∀ v,x.2=some v→v∈vs)∧YS (ds p n l) (vs.filter q) ((vs.drop x.1).filter q) x.2) (fun x=>vs.length-x.1) (0,none)
    ⟨zero_le _,(fun _ h=>by cases h),rfl⟩ (cq rfl) (by simp only [pZ,ed,dU,cS];exact aX) ?_
  rintro ⟨j,fst⟩ ⟨aK,a6,an⟩ I;simp only [pZ,ed,dU,cS] at aK a6 an I ⊢;refine b7 ?_;refine ae.cond C (fun au=>?_) (fun aV=>?_);rotate_left
  · have aV:j=vs.length:=by simp [hQ] at aV;omega
    rw [ep ag,filter_nil] at an;cases fst with
    | none=>
      have an:vs.filter q=[]:=an;rw [an,qW,firstM,if_pos C];have aw:=Ov (fun v=>bf (ds p n l v)) vs;refine cI I ?_;intro I;refine aa.jr ai I C C C C C C C C C C aY C aw C ?_;refine eu ?_;exact Fin.bu I C (aS.cp (.cons aS.empty (.cons aL .nil))) (aH.all _) ⟨rfl,rfl⟩
    | some v=>
      obtain ⟨U,ad⟩:=an;rw [U,ad,all_nil,if_pos C];have aw:=D7 (fun v=>bf (ds p n l v)) v vs;rw [if_pos (by simpa using a6 v C)] at aw;refine cI I ?_;intro I;refine aa.jr ai I C C C C C C C C C C aY C aw C ?_;refine eu ?_;exact Fin.bu I C aL (aH.all _) ⟨rfl,rfl⟩
  have au:j<vs.length:=by simpa [hQ] using au
  obtain ⟨x,ab,bJ⟩:=b1 (f:=fun v:Nat=>af.int .i64 (v:Int)) au;have De:=mem_of_getElem? ab;have YU:=eH x De;have cX:=te x YU;rw [drop_cons ab,filter_cons] at an;unfold hQ at *;refine c1 ?_;cases bq:q x with
  | false=>
    rw [bq,if_neg a'] at an;refine bC ?_;exact bn.mk (j+1,fst) I ⟨au,a6,an⟩ ca aX w1
  | true=>
    rw [bq,if_pos C] at an;cases fst with
    | none=>
      refine bC ?_
      exact bn.mk (j+1,some x) I ⟨au,(fun v h=>by cases h;exact De),by
        have an:vs.filter q=_:=an
        refine ⟨?_,?_⟩
        · rw [an];rfl
        · rw [an];rfl⟩ ca aX w1
    | some v=>
      obtain ⟨U,ad⟩:=an;rw [all_cons] at U;have aw:=fun u hu=>by
        have:=D7 (fun v=>bf (ds p n l v)) u vs;rw [if_pos (by simpa using hu)] at this;exact this
      have Bk:=aw x De;have Cw:=aw v (a6 v C);have heq:=z1 (ds p n l x) (ds p n l v) (by have:=Ow x;unfold ds;omega) (by have:=Ow v;unfold ds;omega);cases aC:ds p n l x==ds p n l v with
      | false=>
        rw [aC] at heq U;rw [U,Bool.false_and,if_neg a'];refine hh I ?_;intro I;refine aN.jr ai I C C C C C C C C C C aY C Bk C ?_;refine cI I ?_;intro I;refine aN.jr ai I C C C C C C C C C C aY C Cw C ?_;refine bW ?_;exact Fin.bu I C aL (aH.all _) ⟨rfl,rfl⟩
      | true=>
        rw [aC] at heq U;rw [Bool.true_and] at U;refine hh I ?_;intro I;refine aN.jr ai I C C C C C C C C C C aY C Bk C ?_;refine cI I ?_;intro I;refine aN.jr ai I C C C C C C C C C C aY C Cw C ?_;refine bW ?_;exact bn.mk (j+1,some v) I ⟨au,a6,U,ad⟩ ca aX w1
theorem YV (fv:af) (xs:List Int) (K:a8) (q:Int→Bool) (aB:xs.length<bz) (h:∀ x∈xs,dp Tryz.prog fv [ba x] K (fun o aO=>o = .ret (.bool (q x))∧aO=K)) :
  bE Tryz.prog 40 [.aA 1 (xs.map ba) .bb,fv] K (fun o aO=>o = .ret (.bool (xs.any q))∧aO=K):=by
 have:=K3 fv xs (fun _=>K) (fun j=>match xs[j]? with|some x=>q x|none=>false) aB (fun j x ab _=>by rw [ab];exact h x (mem_of_getElem? ab));refine bE.mono this ?_;rintro o aO (⟨rfl,rfl,U⟩|⟨j,U,ad,al,rfl,rfl⟩)
 ·have:xs.any q=false:=by
   rw [List.any_eq_false];intro x ab;obtain ⟨i,aQ⟩:=List.getElem?_of_mem ab;have:=U i (qB aQ);rw [aQ] at this;simpa using this
  rw [this];exact ⟨rfl,rfl⟩
 ·have ab:=getElem?_eq_getElem U
  rw [ab] at ad;rw [any_eq_true.2 ⟨_,mem_of_getElem? ab,ad⟩];exact ⟨rfl,rfl⟩
def tt (p:bP) (n:Int) (l:List ak) (g:List b0) (v:Nat):Bool:=(g.getD (leads g v).1.toNat default).ms==ds p n l v
theorem YW (p:bP) (n:Int) (l:List ak) (aq cB cj:Nat) (vs:List Nat) (tp:p.methods.length≤16) (g:List b0) (aw:gI g=true) (v:Nat) (av:v∈vs) (YX:v<2^63) :
  dp Tryz.prog (.func 121 [] [.bw [fO g] 0,.bw [.ptr cj 0] 0]) [.int .i64 (v:Int)] (pZ p n l aq cB cj vs) (fun o K=>o = .ret (.bool (!tt p n l g v))∧K=pZ p n l aq cB cj vs):=by
 have nc:bz=1099511627776:=rfl;have r2:=MX g aw v YX;obtain ⟨j,x,U,ad,-⟩:=Hy aw v;have hs:=yL n l v p.methods 0;have fc:x.ms.length≤16:=by
  have az:=uq aw ad;by_cases a7:x.atom = -1
  ·exact ((np a7).1 az).2.2.1
  ·have:=((kc a7).1 az).2.2.2.2.2.2
   omega
 have heq:=z1 x.ms (ds p n l v) ag (by unfold ds;omega);have z6:tt p n l g v=(x.ms==ds p n l v):=by
  unfold tt;rw [U,toNat_natCast,getD_eq_getElem?_getD,ad];rfl
 have tn:=D7 (fun v=>bf (ds p n l v)) v vs;rw [if_pos (by simpa using av)] at tn;have bJ:(g.map eW)[j]? = some (eW x):=by rw [getElem?_map,ad];rfl
 rw [U] at r2;refine dp.fk (first:=[]) (cap:=[.bw [fO g] 0,.bw [.ptr cj 0] 0]) ?_;refine bE.bh ai Tryz.func121 C C fun s I=>?_
 unfold pZ ed dU cS fO at *;unfold eW gZ at bJ;rw [z6];cases aC:x.ms==ds p n l v with
 | true=>
  rw [aC] at heq;refine hh I ?_;intro I;refine aN.jr ai I C C C C C C C C C C aY C tn C ?_;refine c1 ?_;exact Fin.bu I C aL (aH.all _) ⟨rfl,rfl⟩
 | false=>
  rw [aC] at heq;refine hh I ?_;intro I;refine aN.jr ai I C C C C C C C C C C aY C tn C ?_;refine c1 ?_;exact Fin.bu I C aL (aH.all _) ⟨rfl,rfl⟩
theorem Ox (p:bP) (aD:fj p) (db:gy p=true) (n:Int) (l:List ak) (aq cB cj:Nat) (e5:l.length≤7) (dg:iI (b9 p) l) (eF:l.Nodup) (fV:Bp p n l) (g:List b0) (aw:gI g=true) :
    bE Tryz.prog 73 [.ptr cj 0,fO g] [ed p n (cS l) (.aA 0 [] .nil) aq cB cj,(.own aq,.map [])] (fun o K=>o = .ret (.bool (g.all (fun x=>decide (x.atom<(l.length:Int)))&&(ik (b9 p) l).all (tt p n l g)))∧∃ A7 m,K=[ed p n (cS l) A7 aq cB cj,(.own aq,.map m)]):=by
  have nc:bz=1099511627776:=rfl;have ts:2^l.length≤2^7:=Nat.pow_le_pow_right ag e5;obtain ⟨qI,lR⟩:=wj aw;have kW:=Io p aD db n l aq cB cj e5 dg eF fV;have fw:=D9 (b9 p) l;have eH:∀ v∈ik (b9 p) l,v<2^l.length:=fun v h=>Ot h
  have tp:=(uT db).1;generalize ik (b9 p) l=vs at *
  have o6:=YV (.func 121 [] [.bw [fO g] 0,.bw [.ptr cj 0] 0]) (vs.map fun v:Nat=>(v:Int)) (pZ p n l aq cB cj vs) (fun z => !tt p n l g z.toNat) tc (fun z bO=>by
    obtain ⟨v,av,rfl⟩:=mem_map.1 bO
    have:=eH v av
    exact YW p n l aq cB cj vs tp g aw v av ag)
  have D':(vs.map fun v:Nat=>(v:Int)).map ba=hQ vs:=by rw [map_map];rfl
  have YY:(vs.map fun v:Nat=>(v:Int)).any (fun z => !tt p n l g z.toNat) = !vs.all (tt p n l g):=by
    rw [List.any_map,List.all_eq_not_any_not,Bool.not_not];rfl
  rw [D',YY] at o6;refine bE.bh ai Tryz.func73 C C fun s I=>?_
  unfold pZ ed dU cS fO at *;refine gm ?_;refine ae.b4 [2,3,7,8] C I (σ:=Nat) (fun j=>[(9,.int .i64 (j:Int))]) (fun _=>[ed p n (cS l) (.aA 0 [] .nil) aq cB cj,(.own aq,.map [])]) (fun j=>j≤g.length∧g.all (fun x=>decide (x.atom<(l.length:Int)))=(g.drop j).all (fun x=>decide (x.atom<(l.length:Int)))) (fun j=>g.length-j) 0 ⟨zero_le _,rfl⟩ (cq C) (by simp only [ed,dU,cS];exact aX) ?_;rintro j ⟨aK,an⟩ I;simp only [ed,dU,cS] at aK an I ⊢;refine b7 ?_;refine ae.cond C (fun au=>?_) (fun aV=>?_);rotate_left
  · have aV:j=g.length:=by simp at aV;omega
    rw [ep ag,all_nil] at an;rw [an,Bool.true_and];refine bC ?_;refine aa.b3 rfl rfl rfl rfl rfl kW I aX ?_ (fun _ _ ⟨h,_⟩ _=>by cases h);rintro _ _ ⟨⟨⟩,rfl⟩ I;simp only [cons_append,nil_append] at I ⊢;refine cI I ?_;intro I;refine aa.b3 rfl rfl rfl rfl rfl o6 I aX ?_ (fun _ _ ⟨h,_⟩ _=>by cases h);rintro _ _ ⟨⟨⟩,rfl⟩ I;simp only [cons_append,nil_append] at I ⊢;refine eu ?_;exact Fin.bu I C (aS.of_eq a') (aH.all _) ⟨rfl,_,_,rfl⟩
  have au:j<g.length:=by simpa using au
  obtain ⟨x,ab,bJ⟩:=b1 (f:=eW) au;rw [drop_cons ab,all_cons] at an;unfold eW gZ bf at bJ;refine J9 I ?_;intro I;refine ae.cond C (fun aC=>?_) (fun aC=>?_)
  · rw [show decide (x.atom<(l.length:Int))=false by simp at aC ⊢;omega,Bool.false_and] at an
    rw [an,Bool.false_and];refine ja ?_;exact Fin.bu I C aL (aH.all _) ⟨rfl,_,_,rfl⟩
  · rw [show decide (x.atom<(l.length:Int))=true by simp at aC ⊢;omega,Bool.true_and] at an
    refine gd ?_;exact bn.mk (j+1) I ⟨au,an⟩ ca aX sO
theorem Oy (p:bP) (n:Int):eY p n=0∨eY p n=2∨eY p n=3:=by
 unfold eY;split
 ·split
  ·exact .inl C
  ·exact .inr (.inr C)
 ·exact .inr (.inl C)
theorem YZ (p:bP) (aD:fj p) (n:Int) (g:List b0) (aw:g.length<bz):aR Tryz.prog 52 [cA p,.int .i64 n,fO g] (.cp [.bool (nv p n g).1,.int .i64 (nv p n g).2]):=by
 have aq:=bA;refine aR.bh ai Tryz.func52 C C fun s I=>?_
 have a7:=yG p aD n;have a6:=C' g aw;have hm:nv p n g=if eY p n=2 || !gI g then (false,2) else if eY p n=0 then (o2 p n g,0) else (false,eY p n):=rfl
 unfold cA cL fO at *;refine dv ?_;refine aa.b3 rfl rfl rfl rfl rfl a7 I .nil ?_ (fun _ _ h _=>by rcases h with ⟨_,_,_,_,h,_⟩|⟨_,⟨_,h⟩,_⟩<;>cases h);rintro _ _ (⟨he,cj,aq,cB,⟨⟩,rfl⟩|⟨he,⟨v,⟨⟩⟩,rfl⟩) I
 ·rw [he] at hm
  simp only [cons_append,nil_append] at I ⊢;cases hY:gI g with
  | false=>
   rw [hY] at a6 hm;rw [hm];refine bW ?_;exact bl I
  | true=>
   rw [hY] at a6 hm;have hm:nv p n g=(o2 p n g,0):=hm;rw [hm];obtain ⟨db,e5,dg,eF,fV⟩:=sc he;have aF:=Ox p aD db n (cK p n) aq cB cj e5 dg eF fV g hY;have zk:(g.all (fun x=>decide (x.atom<((cK p n).length:Int)))&&(ik (b9 p) (cK p n)).all (tt p n (cK p n) g))=o2 p n g:=rfl;rw [zk] at aF;unfold ed fO at aF;refine bW ?_;refine aa.b3 rfl rfl rfl rfl rfl aF I aX ?_ (fun _ _ ⟨h,_⟩ _=>by cases h);rintro _ _ ⟨⟨⟩,A7,m,rfl⟩ I;refine eu ?_;exact bl I
 ·simp only [nil_append] at I ⊢
  rcases (Oy p n).resolve_left he with e|e
  ·rw [e] at hm ⊢
   have hm:nv p n g=(false,2):=hm;rw [hm];refine eh ?_;exact bl I
  ·rw [e] at hm ⊢
   cases hY:gI g with
   | false=>
    rw [hY] at a6 hm;have hm:nv p n g=(false,2):=hm;rw [hm];refine bW ?_;exact bl I
   | true=>
    rw [hY] at a6 hm;have hm:nv p n g=(false,3):=hm;rw [hm];refine bW ?_;exact bl I
theorem Y0 (v:Int×Int) (n:Int):aR Tryz.prog 160 [fZ v,.int .i64 n] (.bool (hC n v)):=by
 have aq:=bA;refine aR.bh ai Tryz.func160 C C fun s I=>?_
 unfold fZ
 repeat' (first|(with_reducible first|apply ae.seq|apply b5|apply fF|apply fz|apply hg|apply ae.ret|apply ae.skip|apply ae.block)|refine c0 C ?_|refine ae.cH ?_|refine aa.nil ?_|refine cE C ?_|refine aa.skip C C C ?_|(fail_if_success refine aa.same true C ?_);(fail_if_success refine aa.same false C ?_);refine aa.gV C C (fun h=>?_) (fun h=>?_)|refine ae.cond C (fun h=>?_) (fun h=>?_))
 all_goals (refine Fin.cx I C (aS.of_eq (congrArg af.bool ?_));clear I;simp only [hC,kr];grind)
theorem Y1 (fv:af) (q:Int→Bool) (xs:List Int) (aB:xs.length<bz) (h:∀ x∈xs,eA Tryz.prog fv [ba x] (.bool (q x))):aR Tryz.prog 161 [.aA 1 (xs.map ba) .bb,fv] (.aA 1 ((xs.filter q).map ba) .bb):=by
 have aq:=bA;refine aR.bh ai Tryz.func161 C C fun s I=>?_
 refine gm ?_;refine ae.h7 I 3 1 0 fun I=>?_
 refine ae.b4 [0,1,8,9] C I (σ:=Nat×List Int×bL) (fun p=>[(10,.int .i64 (p.1:Int)),(5,.aA 1 (p.2.1.map ba) p.2.2)]) (fun p=>[(p.2.2,.row 3 1 p.2.1.length)]) (fun p=>p.1≤xs.length∧p.2.1.length≤p.1∧xs.filter q=p.2.1++(xs.drop p.1).filter q) (fun p=>xs.length-p.1) (0,[],.nil)
  ⟨zero_le _,le_refl _,rfl⟩ ⟨⟨_,rfl,aL⟩,⟨_,rfl,aS.nil gW⟩,trivial⟩ aX ?_
 rintro ⟨j,out,gf⟩ ⟨aK,gn,an⟩ I;simp only at aK gn an I ⊢;refine b7 ?_;refine ae.cond C (fun au=>?_) (fun aV=>?_);rotate_left
 ·have aV:j=xs.length:=by simp at aV;omega
  rw [ep ag,filter_nil,append_nil] at an;rw [an];have cv:=GA (out.map ba) gf;refine c1 ?_;exact Fin.cx I C aS.bb
 have au:j<xs.length:=by simpa using au
 obtain ⟨x,ab,bJ⟩:=b1 (f:=ba) au;have av:=h x (mem_of_getElem? ab);rw [drop_cons ab,filter_cons] at an
 try rw [ba] at av bJ
 refine c1 ?_;cases bq:q x with
 | true=>
  rw [bq] at an av;rw [if_pos C] at an;refine bC ?_;refine aa.gb ai I C C C C C C C en C C C C C C C C aY hi j9 ag (fun bT I=>?_);refine fG ?_;exact bn.mk (j+1,out++[x],.own bT) I ⟨au,by simp;omega,by rw [an];simp⟩ xO (by show aH _ [(_,.row _ _ (out++[x]).length)] _;rw [length_append];exact aX) ru
 | false=>
  rw [bq] at an av;rw [if_neg a'] at an;refine jE ?_;exact bn.mk (j+1,out,gf) I ⟨au,by show out.length≤j+1;omega,an⟩ ca aX ru
theorem Y2 (fv:af) (q:(Int×Int)→Bool) (xs:List (Int×Int)) (aB:xs.length<bz) (h:∀ x∈xs,eA Tryz.prog fv [fZ x] (.bool (q x))):aR Tryz.prog 158 [.aA 2 (xs.map fZ) .bb,fv] (.aA 2 ((xs.filter q).map fZ) .bb):=by
 have aq:=bA;refine aR.bh ai Tryz.func158 C C fun s I=>?_
 refine gm ?_;refine ae.h7 I 122 2 0 fun I=>?_
 refine ae.b4 [0,1,8,9] C I (σ:=Nat×List (Int×Int)×bL) (fun p=>[(10,.int .i64 (p.1:Int)),(5,.aA 2 (p.2.1.map fZ) p.2.2)]) (fun p=>[(p.2.2,.row 122 2 p.2.1.length)]) (fun p=>p.1≤xs.length∧p.2.1.length≤p.1∧xs.filter q=p.2.1++(xs.drop p.1).filter q) (fun p=>xs.length-p.1) (0,[],.nil)
  ⟨zero_le _,le_refl _,rfl⟩ ⟨⟨_,rfl,aL⟩,⟨_,rfl,aS.nil gW⟩,trivial⟩ aX ?_
 rintro ⟨j,out,gf⟩ ⟨aK,gn,an⟩ I;simp only at aK gn an I ⊢;refine b7 ?_;refine ae.cond C (fun au=>?_) (fun aV=>?_);rotate_left
 ·have aV:j=xs.length:=by simp at aV;omega
  rw [ep ag,filter_nil,append_nil] at an;rw [an];have cv:=TL (out.map fZ) gf;refine c1 ?_;exact Fin.cx I C aS.bb
 have au:j<xs.length:=by simpa using au
 obtain ⟨x,ab,bJ⟩:=b1 (f:=fZ) au;have av:=h x (mem_of_getElem? ab);rw [drop_cons ab,filter_cons] at an
 try rw [fZ] at av bJ
 refine ej ?_;cases bq:q x with
 | true=>
  rw [bq] at an av;rw [if_pos C] at an;refine bC ?_;refine aa.gb ai I C C C C C C C en C C C C C C C C aY hi (by show (_+1)*16≤_;omega) ag (fun bT I=>?_);refine fG ?_;exact bn.mk (j+1,out++[x],.own bT) I ⟨au,by simp;omega,by rw [an];simp⟩ xO (by show aH _ [(_,.row _ _ (out++[x]).length)] _;rw [length_append];exact aX) ru
 | false=>
  rw [bq] at an av;rw [if_neg a'] at an;refine jE ?_;exact bn.mk (j+1,out,gf) I ⟨au,by show out.length≤j+1;omega,an⟩ ca aX ru
def mo (p:bP) (mb:Nat):List af:=cL p++(fr (b9 p)++[.map mb])
theorem Y3 (p:bP) (mb:Nat) (n:Int):aR Tryz.prog 157 [.bw (mo p mb) 0,.int .i64 n] (.bool (o0 p n)):=by
 have aq:=bA;refine aR.bh ai Tryz.func157 C C fun s I=>?_
 unfold mo cL fr o0 bf;by_cases U:n≥0
 ·rw [decide_eq_true U,Bool.true_and]
  refine dv ?_;refine aa.de 11 C (decide_eq_true U) ?_;refine eu ?_;refine Fin.cx I C (aS.of_eq (congrArg af.bool ?_));rw [length_map]
 ·rw [decide_eq_false U,Bool.false_and]
  refine dv ?_;refine aa.cY 11 C (decide_eq_false U) ?_;refine eh ?_;exact bl I
theorem Y4 (n:Int):aR Tryz.prog 157 [.p5,.int .i64 n] (.bool false):=by
 have aq:=bA;refine aR.bh ai Tryz.func157 C C fun s I=>?_
 refine gv ?_;exact bl I
theorem Y5 (bk:List e2) (v:Int×Int):eA Tryz.prog (.func 159 [] [.bw [hk bk] 0]) [fZ v] (.bool (hC bk.length v)):=by
 have aq:=bA;refine eA.fk (first:=[]) (cap:=[.bw [hk bk] 0]) ?_;refine aR.bh ai Tryz.func159 C C fun s I=>?_
 have h:=Y0 v (bk.map iS).length;rw [show hC ((bk.map iS).length:Int) v=hC bk.length v by rw [length_map]] at h;unfold fZ at *;refine bW ?_;exact bl I
def wZ (p:bP) (bk:List e2) (n:Int) (args:List (Int×Int)):Bool:=o0 p n&&(decide ((args.length:Int)=p.d'.getD n.toNat 0)&&oK (b9 p) bk args)
theorem Y6 (w:bx):iz w (.mk 1 0 [] 0 0 [])=true:=by
 unfold iz;rw [e3,if_neg a',if_pos (by rfl),gX]
theorem Y7 (w:bx) (bk:List e2) (args:List (Int×Int)):(nt w (.mk 1 0 [] 0 0 []) bk args).2=if oK w bk args then 0 else 2:=by
 unfold nt;rw [Y6,Bool.true_and,show decide (lg (.mk 1 0 [] 0 0 [])≤(args.length:Int))=true by simp [lg,iR,ak.cW,ak.op],Bool.and_true];split<;>rfl
theorem Y8 (p:bP) (aD:fj p) (bt:gy p=false):aR Tryz.prog 118 [cA p] (.p5):=by
 have aq:=bA;refine aR.bh ai Tryz.func118 C C fun s I=>?_
 have hw:=Ic p aD;rw [bt] at hw;simp only [false_eq_true,if_false] at hw;unfold cA cL at *;refine ej ?_;exact bl I
theorem Y9 (p:bP) (aD:fj p) (db:gy p=true) (mb:Nat) (n:Int) (bk:List e2) (args:List (Int×Int)) (aB:bk.length<bz) (ah:∀ o∈bk,o.bo.length<bz) (a7:args.length<bz) :
  aR Tryz.prog 119 [.bw (mo p mb) 0,hk bk,.int .i64 n,kU args] (.bool (wZ p bk n args)):=by
 have aq:=bA;have Oz:=Y3 p mb n;have Y':=Y2 (.func 159 [] [.bw [hk bk] 0]) (hC bk.length) args a7 (fun v _=>Y5 bk v);have p0:=GP (b9 p) (yF db) (.mk 1 0 [] 0 0 []) dZ bk args aB ah a7;have Za:=Y7 (b9 p) bk args;have mX:wZ p bk n args=(o0 p n&&(decide ((args.length:Int)=p.d'.getD n.toNat 0)&&oK (b9 p) bk args)):=rfl;refine aR.bh ai Tryz.func119 C C fun s I=>?_
 rw [ak.bX] at p0;unfold ak.cells fm at p0;cases aw:o0 p n with
 | false=>
  rw [aw] at Oz mX;rw [mX,Bool.false_and];unfold mo cL fr hk kU at *;refine bW ?_;exact bl I
 | true=>
  rw [aw] at Oz mX;rw [Bool.true_and] at mX;unfold o0 at aw;simp only [and_eq_true,decide_eq_true_eq] at aw;obtain ⟨c,rfl⟩:∃ c:Nat,n=c:=⟨n.toNat,by omega⟩;obtain ⟨a,tn,abt⟩:=b1 (f:=ba) (l:=p.d') (show c<p.d'.length by omega);have j7:p.d'.getD ((c:Nat):Int).toNat 0=a:=by rw [toNat_natCast,getD_eq_getElem?_getD,tn];rfl
  rw [j7] at mX;unfold mo cL fr hk kU bf at *;refine bW ?_;by_cases eS:(args.length:Int)=a;rotate_left
  ·refine aa.de 28 C cG ?_
   rw [mX,decide_eq_false eS,Bool.false_and];refine eh ?_;exact bl I
  refine aa.cY 28 C cG ?_;rw [decide_eq_true eS,Bool.true_and] at mX;cases fV:args.all (hC bk.length) with
  | false=>
   have Zb:oK (b9 p) bk args=false:=by
    unfold oK;rw [fV];simp
   rw [Zb] at mX;rw [mX];have au:(args.filter (hC bk.length)).length<args.length:=by
    rw [List.length_filter_lt_length_iff_exists];obtain ⟨x,ab,h⟩:=List.all_eq_false.1 fV;exact ⟨x,ab,h⟩
   refine c1 ?_;refine ae.cond C (fun _=>?_) (fun h=>by simp at h;omega);refine gv ?_;exact bl I
  | true=>
   have gh:args.filter (hC bk.length)=args:=List.filter_eq_self.2 (List.all_eq_true.1 fV);rw [gh] at Y';rw [Za] at p0;refine c1 ?_;refine ae.cond C (fun h=>by simp at h) (fun _=>?_);cases cX:oK (b9 p) bk args with
   | false=>
    rw [cX] at mX p0;simp only [false_eq_true,if_false] at p0;rw [mX];refine oE ?_;refine aN.lL C C C C C p0 (.cons aL (.cons (aS.agg (.cons aL (.cons aL (.cons aS.empty (.cons aL (.cons aL (.one aS.empty))))))) (.cons aL (.one aL)))) ?_;refine hr ?_;exact bl I
   | true=>
    rw [cX] at mX p0;simp only [if_true] at p0;rw [mX];refine oE ?_;refine aN.lL C C C C C p0 (.cons aL (.cons (aS.agg (.cons aL (.cons aL (.cons aS.empty (.cons aL (.cons aL (.one aS.empty))))))) (.cons aL (.one aL)))) ?_;refine hr ?_;exact bl I
def mY (n:Int):Nat→List hW→List Nat
 | _,[]=>[]
 | i,m::r=>if m.gen=n then i::mY n (i+1) r else mY n (i+1) r
theorem OA (n:Int):∀ (ms:List hW) (i:Nat),(mY n i ms).length≤ms.length
  | [],_=>le_refl _
  | m::r,i=>by
    have:=OA n r (i+1);rw [mY];split<;>simp<;>omega
theorem OB (n:Int):∀ (ms:List hW) (i:Nat) (j:Nat),j∈mY n i ms→i≤j∧j<i+ms.length
  | [],i,j,h=>by rw [mY] at h;cases h
  | m::r,i,j,h=>by
    rw [mY] at h;have a1:=OB n r (i+1) j;rw [length_cons];split at h
    · rcases mem_cons.1 h with rfl|h
      · omega
      · have:=a1 h;omega
    · have:=a1 h;omega
def q8 (i:Nat):af := .int .i64 (i:Int)
theorem Zc (p:bP) (aD:fj p) (mb:Nat) (n:Int):xP Tryz.prog 196 [] [.bw [.bw (mo p mb) 0] 0,.bw [.int .i64 n] 0] [] q8 (mY n 0 p.methods):=by
 have aq:=bA;have hs:=aD.Ay;intro l Go fA fI oG K bg;refine bE.bh ai Tryz.func196 C C fun s I=>?_
 rw [nil_append] at I ⊢;unfold mo cL fr at *;refine gm ?_;refine ae.b4 [0,1,2,10,11] C I (σ:=Nat×a8) (fun q=>[(12,.int .i64 (q.1:Int))]) (fun q=>q.2) (fun q=>q.1≤p.methods.length∧Go (mY n q.1 (p.methods.drop q.1)) q.2) (fun q=>p.methods.length-q.1) (0,K) ⟨zero_le _,bg⟩ (cq C) (aH.all _) ?_;rintro ⟨j,iF⟩ ⟨aK,dz⟩ I
 try simp only at aK dz I ⊢
 refine b7 ?_;refine ae.cond C (fun au=>?_) (fun aV=>?_);rotate_left
 ·have aV:j=p.methods.length:=by simp at aV;omega
  rw [ep ag,mY] at dz;refine dN ?_;exact Fin.bu I C aL (aH.all _) (.inl ⟨rfl,.inl dz⟩)
 have au:j<p.methods.length:=by simpa using au
 obtain ⟨m,ab,bJ⟩:=b1 (f:=ll) au;rw [drop_cons ab,mY] at dz;unfold ll nn at bJ
 repeat (first|(refine CE I ?_;clear I;intro I)|refine aa.dY ai I rfl rfl rfl rfl rfl rfl rfl (fun cJ I=>?_))
 by_cases aw:m.gen=n
 ·rw [if_pos aw] at dz
  have ay:=oG j _ iF dz;unfold q8 at ay;refine aa.de 21 C (by simpa using aw) ?_;refine dy ?_;refine aa.gH C C C C C C ay I (aH.all _).there ?_ ?_
  ·rintro x aO (⟨⟨⟩,h⟩|⟨⟨⟩,h⟩|⟨_,⟨⟩,_⟩) I
   ·refine bC ?_
    exact bn.mk (j+1,aO) I ⟨au,h⟩ ca (aH.js (aH.dq aO)) oc
   ·refine e1 ?_
    exact Fin.bu I C aL (aH.js (aH.dq aO)) (.inl ⟨rfl,.inr h⟩)
  ·rintro x aO (⟨h,_⟩|⟨h,_⟩|⟨v,⟨⟩,h⟩) I
   ·cases h
   ·cases h
   exact Fin.e9 I aL (aH.js (aH.dq aO)) (.inr ⟨_,rfl,h⟩)
 ·rw [if_neg aw] at dz
  refine aa.cY 21 C (by simpa using aw) ?_;refine bC ?_;exact bn.mk (j+1,iF) I ⟨au,dz⟩ ca (aH.all _).there oc
theorem Zd (p:bP) (mb:Nat) (n:Int):aR Tryz.prog 163 [.bw (mo p mb) 0,.int .i64 n] (.func 196 [] [.bw [.bw (mo p mb) 0] 0,.bw [.int .i64 n] 0]):=by
 have aq:=bA;refine aR.bh ai Tryz.func163 C C fun s I=>?_
 refine gv ?_;exact bl I
theorem Ze (f:FuncId) (cap:List af) (xs:List Nat) (aB:xs.length<bz) (nP:xP Tryz.prog f [] cap [] q8 xs):bE Tryz.prog 195 [.aA 0 [] .nil,.func f [] cap] [] (fun o K=>o = .ret (.aA 1 (xs.map q8) .bb)∧K=[]):=by
 have aq:=bA;refine bE.bh ai Tryz.func195 C C fun s I=>?_
 repeat (first|(refine CF ?_)|refine aa.jR I C C C C C C (fun b I=>?_)|(refine CG ?_))
 obtain ⟨dx,rfl⟩:∃ x,x=b:=⟨_,rfl⟩;refine ae.h7 I 3 1 0 fun I=>?_
 refine ae.qZ I [.aA 1 [] .nil] (kb:=dx) aY (.one (aS.nil gW)) (fun I=>?_);refine ae.FM I C dZ nP .nil (fun rem K=>∃ out own,out.length+rem.length=xs.length∧xs=out++rem∧K=[(.own dx,.box 23 [.aA 1 (out.map q8) own]),(own,.row 3 1 out.length)]) (fun _ _=>False) (fun _ _=>False) ⟨[],.nil,by simp,rfl,rfl⟩ ?_ ?_ (fun _ _ h=>h.elim) (fun _ _ h=>h.elim)
 ·rintro s₁ x rem K ⟨out,own,U,ad,rfl⟩ I
  rw [length_cons] at U;unfold q8 at I ⊢;refine hh I ?_;intro I;refine aa.gb ai I C C C C C C C en C C C C C C C C aY hi j9 ag (fun bT I=>?_);refine cI I ?_;intro I;exact At.mk [(.own dx,.box 23 [.aA 1 ((out++[x]).map q8) (.own bT)]),(.own bT,.row 3 1 (out++[x]).length)] I (by simp only [q8,map_append,map_cons,map_nil,length_append,length_cons,length_nil];exact aX) ⟨out++[x],.own bT,by simp;omega,by rw [ad];simp,rfl⟩
 ·rintro K ⟨out,own,U,ad,rfl⟩ I
  rw [append_nil] at ad;subst ad;refine cI I ?_;intro I;exact Fin.bu I C aS.bb .nil ⟨rfl,rfl⟩
def Bw (p:bP) (bk:List e2) (args:List (Int×Int)) (i:Int):Bool:=(nt (b9 p) (p.methods.getD i.toNat default).fact bk args).1&&(nt (b9 p) (p.methods.getD i.toNat default).fact bk args).2==0
def Is (p:bP) (bk:List e2) (n:Int) (args:List (Int×Int)):List Int:=((mY n 0 p.methods).map fun i:Nat=>(i:Int)).filter (Bw p bk args)
theorem Zf (p:bP) (aD:fj p) (db:gy p=true):bE Tryz.prog 118 [cA p] [] (fun o K=>∃ mb,o = .ret (.bw (mo p mb) 0)∧K=[(.own mb,.map [])]):=by
 have hw:=Ic p aD;rw [db,if_pos C,if_pos C] at hw;refine bE.bh ai Tryz.func118 C C fun s I=>?_
 unfold cA cL mo fm fr at *;refine ej ?_;refine aa.rn I C C C C (fun mb I=>?_);refine eu ?_;exact Fin.bu I C aL (aH.all _) ⟨mb,rfl,rfl⟩
theorem Zg (p:bP) (aD:fj p) (db:gy p=true) (mb:Nat) (bk:List e2) (args:List (Int×Int)) (aB:bk.length<bz) (ah:∀ o∈bk,o.bo.length<bz) (a7:args.length<bz) (j:Nat) (aK:j<p.methods.length):eA Tryz.prog (.func 164 [] [.bw [.bw (mo p mb) 0] 0,.bw [hk bk] 0,.bw [kU args] 0]) [.int .i64 (j:Int)] (.bool (Bw p bk args j)):=by
 have aq:=bA;refine eA.fk (first:=[]) (cap:=[.bw [.bw (mo p mb) 0] 0,.bw [hk bk] 0,.bw [kU args] 0]) ?_;refine aR.bh ai Tryz.func164 C C fun s I=>?_
 obtain ⟨m,ab,bJ⟩:=b1 (f:=ll) aK;have fW:=mem_of_getElem? ab;have p0:=GP (b9 p) (yF db) m.fact (by have:=aD.facts m fW;omega) bk args aB ah a7;have iC:Bw p bk args j=((nt (b9 p) m.fact bk args).1&&(nt (b9 p) m.fact bk args).2==0):=by
  unfold Bw;rw [toNat_natCast,getD_eq_getElem?_getD,ab];rfl
 rw [ak.bX] at p0;unfold ak.cells fm at p0;unfold ll nn at bJ;unfold mo cL fr hk kU at *;rw [iC];generalize nt (b9 p) m.fact bk args=r at *;obtain ⟨h3,cg⟩:=r;cases h3 with
 | false=>
  refine bW ?_;exact bl I
 | true=>
  refine bW ?_;exact bl I
theorem Zh (f:FuncId) (cap:List af) (xs:List Nat) (aB:xs.length<bz) (nP:xP Tryz.prog f [] cap [] q8 xs):aR Tryz.prog 162 [.func f [] cap] (.aA 1 (xs.map q8) .bb):=by
 have aC:=bE.Gh (Ze f cap xs aB nP);refine aR.bh ai Tryz.func162 C C fun s I=>?_
 refine bW ?_;exact bl I
theorem Zi (p:bP) (aD:fj p) (db:gy p=true) (mb:Nat) (n:Int) (bk:List e2) (args:List (Int×Int)) (aB:bk.length<bz) (ah:∀ o∈bk,o.bo.length<bz) (a7:args.length<bz) :
    aR Tryz.prog 120 [.bw (mo p mb) 0,hk bk,.int .i64 n,kU args] (bf (Is p bk n args)):=by
  have aq:=bA;have hs:=aD.Ay;have gn:=OA n p.methods 0;have abu:=Zd p mb n;have DX:=Zh 196 [.bw [.bw (mo p mb) 0] 0,.bw [.int .i64 n] 0] (mY n 0 p.methods) ag (Zc p aD mb n)
  have uV:=Y1 (.func 164 [] [.bw [.bw (mo p mb) 0] 0,.bw [hk bk] 0,.bw [kU args] 0]) (Bw p bk args) ((mY n 0 p.methods).map fun i:Nat=>(i:Int)) tc (fun x ab=>by
    obtain ⟨j,aK,rfl⟩:=mem_map.1 ab
    have:=(OB n p.methods 0 j aK).2
    exact Zg p aD db mb bk args aB ah a7 j ag)
  have he:((mY n 0 p.methods).map fun i:Nat=>(i:Int)).map ba=(mY n 0 p.methods).map q8:=by rw [map_map];rfl
  rw [he] at uV;refine aR.bh ai Tryz.func120 C C fun s I=>?_
  unfold Is bf;refine bW ?_;exact bl I
def xa (p:bP) (bk:List e2) (n:Int) (args:List (Int×Int)):Bool:=gy p&&wZ p bk n args
def Ea (p:bP) (bk:List e2) (n:Int) (args:List (Int×Int)):af := .cp [if xa p bk n args then bf (Is p bk n args) else .aA 0 [] .nil,.int .i64 (if xa p bk n args then 0 else 2)]
theorem Zj (n:Int) (bk:List e2) (args:List (Int×Int)):aR Tryz.prog 119 [.p5,hk bk,.int .i64 n,kU args] (.bool false):=by
 have aw:=Y4 n;refine aR.bh ai Tryz.func119 C C fun s I=>?_
 unfold hk kU;refine bW ?_;exact bl I
theorem Zk (p:bP) (aD:fj p) (n:Int) (bk:List e2) (args:List (Int×Int)) (aB:bk.length<bz) (ah:∀ o∈bk,o.bo.length<bz) (a7:args.length<bz):aR Tryz.prog 72 [cA p,hk bk,.int .i64 n,kU args] (Ea p bk n args):=by
 have aq:=bA;refine aR.bh ai Tryz.func72 C C fun s I=>?_
 have iC:xa p bk n args=(gy p&&wZ p bk n args):=rfl;unfold Ea;cases db:gy p with
 | false=>
  rw [db,Bool.false_and] at iC;rw [iC];have aF:=Y8 p aD db;have aC:=Zj n bk args;unfold cA cL at *;refine bW ?_;exact bl I
 | true=>
  rw [db,Bool.true_and] at iC;have aF:=Zf p aD db;unfold cA cL at *;refine dv ?_;refine aa.b3 rfl rfl rfl rfl rfl aF I .nil ?_ (fun _ _ h _=>by obtain ⟨_,h,_⟩:=h;cases h);rintro _ _ ⟨mb,⟨⟩,rfl⟩ I;have aC:=Y9 p aD db mb n bk args aB ah a7;have Bx:=Zi p aD db mb n bk args aB ah a7;cases mX:wZ p bk n args with
  | false=>
   rw [mX] at iC aC;rw [iC];refine bW ?_;exact bl I
  | true=>
   rw [mX] at iC aC;rw [iC];refine c1 ?_;exact bl I
end Go.Proofs.YtnafpeohfbglmaaGreat
