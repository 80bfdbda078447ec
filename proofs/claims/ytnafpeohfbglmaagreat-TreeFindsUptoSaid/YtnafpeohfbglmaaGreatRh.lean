import Derived.Test.YtnafpeohfbglmaaGreatRg
import Derived.Laws.Bits64
set_option linter.unusedVariables.analyzeTactics true
set_option linter.unusedSimpArgs false
set_option maxRecDepth 100000
set_option maxHeartbeats 4000000
open List (all_cons all_nil any_eq_true append_nil cons_append drop filter_cons filter_nil foldl_cons getD_eq_getElem?_getD getElem?_eq_getElem getElem?_map getElem?_of_mem length_append length_cons length_map length_nil length_set map_append map_cons map_map map_nil map_set map_take mem_append mem_cons mem_cons_of_mem mem_cons_self mem_map mem_of_getElem? mem_singleton nil_append range replicate take_length take_zero)
open Nat (eq_of_beq_eq_true le_refl lt_of_le_of_lt mul_one pow_le_pow_right pow_succ zero_add zero_le)
open Bool (and_eq_true false_eq_true)
open Int (ofNat toNat_natCast)
open Option (getD_some)
open Array (getD_eq_getD_getElem? toArray_toList)
theorem Nx {p:Prop} (h:p:=by rw [aD,Int.toNat_natCast,List.getD_eq_getElem?_getD,List.getElem?_eq_getElem (by omega)];rfl):p:=h
theorem oz {p:Prop} (h:p:=by show p.methods.length-(j+1)<p.methods.length-j;omega):p:=h
theorem Bk {p:Prop} (h:p:=by (rw [eo (by omega) (by omega),Xt])):p:=h
theorem xo {p:Prop} (h:p:=by show vs.length-(j+1)<vs.length-j;omega):p:=h
theorem yX {p:Prop} (h:p:=by show (_+1)*80≤_;omega):p:=h
namespace Go.Proofs.YtnafpeohfbglmaaGreat
open Go.cW Go.dv
def oA (N:List b7) (aq jF iz:Nat):af := .func 110 [] [.bA [.map aq] 0,.bA [.aC 4 (N.map eP) .bc] 0,.ptr jF 0,.ptr iz 0]
def sx (N:List b7) (aq jF iz:Nat) (num:List (af×af)) (order:List Int) (own:bM):a':=
 [(.own jF,.box 163 [oA N aq jF iz]),(.own iz,.box 23 [.aC 1 (order.map bb) own]),(own,.row 3 1 order.length),(.own aq,.map num)]
theorem Xu (N:List b7) (aW:N.length≤1000) (fb:Down N) (aq jF iz:Nat):∀ (k a:Nat),a<N.length→N.length-a≤k→∀ (num:List (af×af)) (order path:List Int) (own:bM),qb num order path→po N.length order→(∀ x∈path,x<a) →
    dt Tryz.prog (oA N aq jF iz) [.int .i64 (a:Int)] (sx N aq jF iz num order own) (fun o K=>∃ vc cQ,qb vc (meet N k order a) path∧o = .ret (.cu [])∧K=sx N aq jF iz vc (meet N k order a) cQ):=by
  have ny:bu=1099511627776:=rfl;intro k
  induction k with
  | zero=>intro a U ae;omega
  | succ k a6=>
    intro a a8 aD num order path own om Bl HX;have hlen:=Bl.len;obtain ⟨x,ab,bL⟩:=bV (f:=eP) a8;have m5:=Nw (k:=k) (order:=order) ab;have kg:=om.get a;refine dt.fp (first:=[]) (cap:=[.bA [.map aq] 0,.bA [.aC 4 (N.map eP) .bc] 0,.ptr jF 0,.ptr iz 0]) ?_;refine bE.bj ai Tryz.func110 C C fun s I=>?_
    unfold sx oA at *;refine jM ?_;cases aA:order.contains (a:Int) with
    | true=>
      rw [aA,if_pos C] at kg;rw [aA,if_pos C] at m5;rw [m5];refine aa.jw ai I C C C C C C C C C C a1 C kg C ?_;refine ew ?_;exact Fin.bz I C aM (aH.all _) ⟨num,own,om,rfl,rfl⟩
    | false=>
    have aE:path.contains (a:Int)=false:=by
      cases h:path.contains (a:Int) with
      | false=>rfl
      | true=>have:=HX _ (List.contains_iff_mem.1 h);omega
    rw [aA,if_neg ba,aE,if_neg ba] at kg;rw [aA,if_neg ba] at m5;obtain ⟨Ny,ta,Nz⟩:=om.enter aA;refine aa.jw ai I C C C C C C C C C C a1 C kg C ?_;refine bB ?_;refine aa.mW ai I C C (.inl C) C C C C C C a1 C ta (fun I=>?_);unfold eP gY at bL;refine dC ?_;refine ad.x7 (σ:=List (af×af)×bM) (fun _=>[(0,.int .i64 (a:Int)),(1,.bA [.map aq] 0),(2,.bA [.aC 4 (N.map eP) .bc] 0),(3,.ptr jF 0),(4,.ptr iz 0)]) (fun z=>sx N aq jF iz z.1 (if x.atom≥0 then meet N k (meet N k order x.yes) x.no else order) z.2) (fun z=>qb z.1 (if x.atom≥0 then meet N k (meet N k order x.yes) x.no else order) ((a:Int)::path)) ?_ ?_
    · refine ad.cond C (fun cX=>?_) (fun cX=>?_)
      · have cX:x.atom≥0:=by simpa using cX
        obtain ⟨d1,d2,d3,d4⟩:=fb a x ab cX;obtain ⟨y,ay⟩:∃ y:Nat,x.yes=y:=⟨x.yes.toNat,by omega⟩;obtain ⟨z,bO⟩:∃ z:Nat,x.no=z:=⟨x.no.toNat,by omega⟩;rw [if_pos cX];simp only [ay,bO] at bL ⊢;have qw:=yW fb k y ag ag order Bl
        have i1:=a6 y ag ag Ny order ((a:Int)::path) own Nz Bl (fun p aE=>by
          rcases mem_cons.1 aE with rfl|aE
          · omega
          · have:=HX p aE;omega)
        have i2:=fun DW tu h=>a6 z ag ag DW (meet N k order y) ((a:Int)::path) tu h qw.1 (fun p aE=>by
          rcases mem_cons.1 aE with rfl|aE
          · omega
          · have:=HX p aE;omega)
        refine tf I ?_;intro I;refine aJ.gM rfl rfl rfl rfl rfl rfl rfl i1 I aY ?_ (fun _ _ h _=>by obtain ⟨_,_,_,h,_⟩:=h;cases h);rintro _ _ ⟨DW,tu,yY,⟨⟩,rfl⟩ I;simp only [nil_append,cons_append] at I ⊢;refine tf I ?_;intro I;refine aJ.gM rfl rfl rfl rfl rfl rfl rfl (i2 DW tu yY) I aY ?_ (fun _ _ h _=>by obtain ⟨_,_,_,h,_⟩:=h;cases h);rintro _ _ ⟨DX,uL,uz,⟨⟩,rfl⟩ I;simp only [nil_append,cons_append] at I ⊢;skip;exact lW.mk (DX,uL) I uz (ck C) (by simp only [sx,oA];exact aY)
      · have cX:¬ x.atom≥0:=by simpa using cX
        rw [if_neg cX];refine fR ?_;exact lW.mk (Ny,own) I Nz (ck C) (by simp only [sx,oA];exact aY)
    rintro ⟨DW,tu⟩ yY I;rw [m5];simp only at yY I ⊢;generalize wb:(if x.atom≥0 then meet N k (meet N k order x.yes) x.no else order)=order2 at *;have uZ:po N.length order2∧∀ y∈order2,y∈order∨(a:Int)<y:=by
      rw [← wb];split
      · rename_i cX
        obtain ⟨d1,d2,d3,d4⟩:=fb a x ab cX;obtain ⟨y,ay⟩:∃ y:Nat,x.yes=y:=⟨x.yes.toNat,by omega⟩;obtain ⟨z,bO⟩:∃ z:Nat,x.no=z:=⟨x.no.toNat,by omega⟩;rw [ay,bO];obtain ⟨pc,bR⟩:=yW fb k y ag ag order Bl;obtain ⟨fi,HW⟩:=yW fb k z ag ag _ pc;refine ⟨fi,fun u hu=>?_⟩;rcases HW u hu with h|h
        · rcases bR u h with h|h
          · exact .inl h
          · exact .inr ag
        · exact .inr ag
      · exact ⟨Bl,fun y h => .inl h⟩
    have tD:order2.contains (a:Int)=false:=by
      cases h:order2.contains (a:Int) with
      | false=>rfl
      | true=>
        rcases uZ.2 _ (List.contains_iff_mem.1 h) with h|h
        · rw [List.contains_iff_mem.2 h] at aA;cases aA
        · omega
    have eW:=uZ.1.len;obtain ⟨DX,uz,Xv⟩:=yY.leave tD;unfold sx oA at I ⊢;refine cG I ?_;intro I;refine aa.mW ai I C C (.inl C) C C C C C C a1 C (by rw [length_map];exact uz) (fun I=>?_);refine cG I ?_;intro I;refine aa.gf ai I C C C C C C C et C C C C C C C C a1 hc j2 ag (fun bR I=>?_);refine cG I ?_;intro I;exact Fin.bz (K:=sx N aq jF iz DX (order2++[(a:Int)]) (.own bR)) I C aM (by simp only [sx,oA,map_append,map_cons,map_nil,length_append,length_cons,length_nil];exact aY) ⟨DX,.own bR,Xv,rfl,rfl⟩
def vd (xs:List Int):Nat→List (Nat×Int)
 | 0=>[]
 | m+1=>(m,xs.getD m 0)::vd xs m
def HY (p:Nat×Int):af := .int .i64 (p.1:Int)
def HZ (p:Nat×Int):af := .int .i64 p.2
theorem NA (xs:List Int):∀ m,m≤xs.length→(vd xs m).map (·.2)=(xs.take m).reverse
  | 0,_=>by rw [vd,take_zero];rfl
  | m+1,h=>by
    obtain ⟨x,ab⟩:∃ x,xs[m]? = some x:=⟨_,getElem?_eq_getElem ag⟩;rw [vd,map_cons,NA xs m ag,List.take_add_one,ab,List.reverse_append,getD_eq_getElem?_getD,ab];rfl
theorem Xw (xs:List Int) (aB:xs.length<bu):Gr Tryz.prog 152 [] [.bA [.aC 1 (xs.map bb) .bc] 0] [] HY HZ (fun _=>True) (vd xs xs.length):=by
 have ny:bu=1099511627776:=rfl;intro l Go fD fJ oY K bh;refine bE.bj ai Tryz.func152 C C fun s I=>?_
 rw [nil_append] at I ⊢;have jO:((xs.map bb).length:Int)=(xs.length:Int):=by rw [length_map]
 have hw:IntKind.wrap .i64 ((xs.length:Int)-1)=(xs.length:Int)-1:=eo ag ag;refine gg ?_;refine ad.b0 [0,1] C I (σ:=Nat×a') (fun q=>[(3,.int .i64 ((q.1:Int)-1))]) (fun q=>q.2) (fun q=>q.1≤xs.length∧Go (vd xs q.1) q.2) (fun q=>q.1) (xs.length,K) ⟨le_refl _,bh⟩ (by repeat (first|exact trivial|refine ⟨⟨_,rfl,aM⟩,?_⟩|refine ⟨⟨_,rfl,aS.of_eq (by (rw [jO,hw]))⟩,?_⟩)) (aH.all _) ?_;rintro ⟨iQ,iK⟩ ⟨hm,dE⟩ I;simp only at hm dE I ⊢;cases iQ with
 | zero=>
  refine bB ?_;exact Fin.bz I C aM (aH.all _) (.inl ⟨rfl,.inl dE⟩)
 | succ m=>
 have s8:(((m+1:Nat):Int)-1)=(m:Int):=by omega
 simp only [s8];obtain ⟨x,ab,bL⟩:=bV (f:=bb) (show m<xs.length by omega);rw [vd,show xs.getD m 0=x by rw [getD_eq_getElem?_getD,ab];rfl] at dE;have ay:=oY _ _ iK dE;unfold HY HZ at ay;unfold bb at bL;refine bB ?_;refine aa.gM C C C C C C ay I (aH.all _) ?_ ?_
 ·rintro x aO (⟨⟨⟩,-,h⟩|⟨⟨⟩,h⟩|⟨_,⟨⟩,_⟩) I
  all_goals rw [append_nil] at I ⊢
  ·refine bB ?_
   exact bn.mk (m,aO) I ⟨by omega,h⟩ (by repeat (first|exact trivial|refine ⟨⟨_,rfl,aM⟩,?_⟩|refine ⟨⟨_,rfl,aS.of_eq yn⟩,?_⟩)) (aH.all _) (by show m<m+1;omega)
  ·refine e5 ?_
   exact Fin.bz I C aM (aH.all _) (.inl ⟨rfl,.inr h⟩)
 ·rintro x aO (⟨h,_⟩|⟨h,_⟩|⟨v,⟨⟩,h⟩) I
  ·cases h
  ·cases h
  rw [append_nil] at I ⊢;exact Fin.fc I aM (aH.all _) (.inr ⟨_,rfl,h⟩)
theorem Xx (xs:List Int):aR Tryz.prog 111 [bg xs] (.func 152 [] [.bA [.aC 1 (xs.map bb) .bc] 0]):=by
 have aq:=bC;refine aR.bj ai Tryz.func111 C C fun s I=>?_
 unfold bg;refine gH ?_;exact bm I
end Go.Proofs.YtnafpeohfbglmaaGreat
namespace Go.cW
section
variable {J:ao→Prop} {P:Program} {Γ:cz} {N:Nat} {l:List Oper} {Q:b8→Env→ao→Prop} {env:Env} {s:ao} {m:Nat}
theorem bo.two {i j:Nat} {yZ y0:Oper} {H0 H2:Nat} {H3 H4:af} (cD:J s) (aF:eI l.toArray m (idxs 0 l)=[i,j]) (eN:Nat.beq i j=false)
  (aQ:l.toArray[i]? = some yZ) (H5:yZ.dst=some H0) (Xy:Nat.blt H0 N=true) (DY:guardOf l.toArray (iE env (looks l.toArray yZ)) yZ=some true) (Xz:a7 P N yZ (iE env (looks l.toArray yZ)) s (fun x al=>x=H3∧al=s) (fun _ _=>False))
  (aK:l.toArray[j]? = some y0) (H6:y0.dst=some H2) (XA:Nat.blt H2 N=true) (XB:guardOf l.toArray (iE env (looks l.toArray y0)) y0=some true) (XC:a7 P N y0 (iE env (looks l.toArray y0)) s (fun x al=>x=H4∧al=s) (fun _ _=>False))
  (s9:bo J P Γ N l.toArray Q (bX (m|||2^i)) ((H0,H3)::env) s) (XD:bo J P Γ N l.toArray Q (bX (m|||2^j)) ((H2,H4)::env) s):bo J P Γ N l.toArray Q (bX m) env s:=by
 have cO:i≠j:=fun e=>by subst e;rw [show Nat.beq i i=true from Nat.beq_refl i] at eN;cases eN
 have fq:∀ k,hj l.toArray (bX m) k→k=i∨k=j:=fun k aD=>by
  have:=zP aD (l:=idxs 0 l) (by rw [x0,List.mem_range'_1];have:=aD.1;simp at this;omega);rw [aF] at this;simpa using this
 have jd:hj l.toArray (bX m) i:=by
  have gb:i∈eI l.toArray m (idxs 0 l):=by rw [aF];exact mem_cons_self ..
  have:∀ is,i∈eI l.toArray m is→iF l.toArray m i=true:=by
   intro is
   induction is with
   | nil=>intro h;cases h
   | cons j is a6=>
    intro h;simp only [eI] at h;split at h
    ·rename_i aq
     rcases mem_cons.1 h with rfl|h
     ·exact aq
     ·exact a6 h
    ·exact a6 h
  exact s'.1 (this _ gb)
 refine bo.split (fun k x al=>(k=i→x=H3)∧(k=j→x=H4)∧al=s) (fun _ _ _=>False) ⟨i,jd.1,jd.2.1⟩ (fun k o' aD cF=>?_) (fun k o' aD cF x al bh => .inl (by rw [bh.2.2];exact cD)) (fun k o' c6 aD cF cm x al bh=>?_) (fun k o' aD cF cm x al bh=>?_) (fun k o' aD cF x al iB=>iB.elim)
 ·rcases fq k aD with rfl|rfl
  ·rw [aQ] at cF;cases cF
   exact ⟨DY,Xz.mono (fun x al h=>⟨fun _=>h.1,fun e=>absurd e cO,h.2⟩) (fun _ _ h=>h),fun c6 cm=>by rw [H5] at cm;cases cm;simpa [Nat.blt_eq] using Xy⟩
  ·rw [aK] at cF;cases cF
   exact ⟨XB,XC.mono (fun x al h=>⟨fun e=>absurd e.symm cO,fun _=>h.1,h.2⟩) (fun _ _ h=>h),fun c6 cm=>by rw [H6] at cm;cases cm;simpa [Nat.blt_eq] using XA⟩
 ·obtain ⟨U,ae,rfl⟩:=bh
  rcases fq k aD with rfl|rfl
  ·rw [aQ] at cF;cases cF
   rw [H5] at cm;cases cm;rw [oV,U C];exact s9
  ·rw [aK] at cF;cases cF
   rw [H6] at cm;cases cm;rw [oV,ae C];exact XD
 ·rcases fq k aD with rfl|rfl
  ·rw [aQ] at cF;cases cF
   rw [H5] at cm;cases cm
  ·rw [aK] at cF;cases cF
   rw [H6] at cm;cases cm
theorem bo.H7 {L R:a'} (i:Nat) (aP:bQ P Γ) (I:Ok s L) (cD:J (aT s L)) {o:Oper} {d:Nat} {t T:TypeId} {x:Operand} {ee:bN} {b off:Nat} {cs:List af} {v:af} (aF:eI l.toArray m (idxs 0 l)=[i]) (ah:l.toArray[i]? = some o) (ax:o.dst=some d) (aW:Nat.blt d N=true)
  (aw:c9 l env o) (b5:o.op = .load t x) (aN:Γ.get? t=some ee) (ab:aL (b4 l env o) x=some (.ptr b off)) (au:bp L (.own b) (.box T cs) R) (av:hO ee cs off=some v)
  (h:bo J P Γ N l.toArray Q (bX (m|||2^i)) ((d,v)::env) (aT s L)):bo J P Γ N l.toArray Q (bX m) env (aT s L):=
 bo.one aF ah ax aW aw (a7.eC aP I b5 aN ab au av (X:=fun _ _=>False)) (fun x al ⟨_,ae⟩ => .inl (by rw [ae];exact cD)) (fun x al ⟨U,ae⟩=>by subst U;subst ae;exact h) (fun _ _ h=>h.elim)
theorem bo.NB (i:Nat) (aP:bQ P Γ) (cD:J s) {o:Oper} {d:Nat} {t dY e0:TypeId} {x y:Operand} {ok:Bool} {it gL aG:bN} {b:Nat} {es:List (af×af)} {k z:af} {r:Option af} (aF:iF l.toArray m i=true) (ah:l.toArray[i]? = some o) (ax:o.dst=some d) (aW:Nat.blt d N=true)
  (aw:c9 l env o) (b5:o.op = .lookup t x y ok) (aN:Γ.get? t=some it) (bs:it.bG = .map dY e0) (h0:Γ.get? dY=some gL) (bI:Γ.get? e0=some aG) (ab:aL (b4 l env o) x=some (.map b)) (ay:aL (b4 l env o) y=some k)
  (au:∀ s,J s→s b=some (.map es)) (aZ:kf gL.bG k=true) (py:jb es k=some r) (bO:hC aG.zero=some z)
  (h:bo J P Γ N l.toArray Q (bX (m|||2^i)) ((d,lP ok z r)::env) s):bo J P Γ N l.toArray Q (bX m) env s:=
 bo.rM cD aF ah ax aW aw (fun s hG=>a7.lookup aP b5 aN bs h0 bI ab ay (.inl ⟨b,rfl,au s hG⟩) aZ py bO) h
end
theorem NC {w:World} {p:bT}:∀ {yss:List (List af)} {us:List Value},bF w p us (yss.map af.agg)→bF w p (flat us) yss.flatten
  | [],us,h=>by cases h;exact .nil
  | c::r,us,h=>by
    cases h with
    | cons u _ vN _ hu aN=>
    cases hu with
    | agg cs _ aA=>
    have:=NC aN;rw [List.flatten_cons,show flat (Value.agg cs::vN)=cs.toList++flat vN by simp [flat,Value.cells]];exact bF.append aA this
section
variable {P:Program} {Γ:cz} {N:Nat} {ops:Array Oper} {Q:b8→Env→ao→Prop} {env:Env} {s:ao} {l:List Oper} {o:Oper} {d:Nat} {L R:a'}
theorem XE (aP:bQ P Γ) {w:World} {p:bT} {S:ao} (cd:dq w p S) {t bH e ty:TypeId} {it cw aG:bN} {bU sz:Nat} {olds:List Value} {xs:List af} {yss:List (List af)} {dk:bM} {base:Option Addr} {n cap:Nat} {qI:Value}
  (aN:Γ.get? t=some it) (bs:it.bG = .aC e) (cZ:Γ.get? bH=some cw) (dr:∀ k,cw.bG ≠ .int k) (bI:Γ.get? e=some aG) (U:aG.size=sz) (dV:Nat.beq aG.zero.cells.size aG.size=true)
  (aF:bF w p olds xs) (az:n*sz=xs.length) (pA:(Builtin.firstCells sz n (.slice base n cap)).run P w.drew = .ok olds.toArray w.drew) (ay:Rel w p qI (.aC bU (yss.map af.agg) dk)) (c8:bU=sz) (h8:∀ c∈yss,c.length=sz)
  (ar:cap<n+yss.length) (aq:(n+yss.length)*aG.bytes≤140737488355328) (er:n+yss.length≤9223372036854775807) :
  ∃ aX cf cs' w',(Builtin.append_ #[t,bH] ty #[.slice base n cap,qI]).run P w = .ok (.slice (some ⟨aX,0,none⟩) (n+yss.length) cf) w'∧S aX=none∧de w p w' p∧Kept S (S.set aX (.box e cs')) w p w' p∧dq w' p (S.set aX (.box e cs')) ∧
   cs'.length=cf*sz∧n+yss.length≤cf∧cs'.take ((n+yss.length)*sz)=xs++yss.flatten:=by
 obtain ⟨info,d,g1,g2,g3,-⟩:=aP.parts aN;obtain ⟨mK,c6,ek,dj,dT,-⟩:=aP.parts cZ;obtain ⟨jU,kA,cA,db,fe,eH,jV,js⟩:=aP.parts bI;have ax:d = .slice e:=by rw [bs] at g3;cases d<;>simp [ez] at g3;rw [g3]
 subst ax;have cm:∀ k,c6 ≠ .int k:=fun k e'=>by subst e';exact dr k dT.symm
 obtain ⟨us,il,pB,jW,ki,sY,sZ,s0⟩:=qu ay (.inr c8);rw [length_map] at jW ki;subst c8;have tN:bF w p (flat us) yss.flatten:=NC il;have mQ:=tN.length;have fB:=growslice_fits (need:=n+yss.length) (old:=cap) (bytes:=aG.bytes) ar aq;have cN:=zC (ty:=ty) w g2 dj cm cA js (base:=base) (sLen:=n) (sCap:=cap) (m:=yss.length) (olds:=olds) (news:=flat us) (jW P)
  (by rw [eH,U];exact pA) (by rw [eH,U];exact ki P w.drew (fun _ _ _=>rfl)) ar ag (by rw [jV];exact fB)
 have ns:n+yss.length≤grownCap w (n+yss.length) cap e:=by simp [grownCap,Question.cut]
 have gh:olds.length=n*bU:=by rw [aF.length,az]
 have oM:=eq_of_beq_eq_true dV;generalize sX:(Builtin.zeroCells aG.zero.cells (grownCap w (n+yss.length) cap e-(n+yss.length))).toList=a1 at cN;have nt:a1.length=(grownCap w (n+yss.length) cap e-(n+yss.length))*bU:=by
  rw [← sX,Nd,oM,U]
 generalize grownCap w (n+yss.length) cap e=G at cN ns nt;have wA:=xP cd
 obtain ⟨au,hle,aD,k0⟩:=rD wA (.cells (olds++flat us++a1).toArray e (0,0)) (.box e (xs++yss.flatten++a1.map fun _ => .any)) (fun w' iO av ft=>⟨_,iO,by
  refine bF.append (bF.append (ft _ _ (show bF w.drew p olds xs from aF.mono kX)) (ft _ _ (tN.mono kX))) (bF.z7 a1),fun o aE=>absurd (cd.lt _ _ aE) (by show ¬ w.heap.size<w.heap.size;omega)⟩)
 rw [show w.drew.heap.size=w.heap.size from rfl] at au aD k0;have hm:(n+yss.length)*bU=n*bU+yss.length*bU:=Nat.add_mul ..;have kx:=WZ h8;refine ⟨w.heap.size,G,xs++yss.flatten++a1.map (fun _=>af.any),_,cN,au,kX.trans hle,(vD (w:=w) (p:=p)).trans (kX (w:=w) (p:=p)).size aD,k0,?_,ns,?_⟩
 ·simp only [length_append,length_map,nt]
  rw [← az,kx,← hm,← Nat.add_mul];congr 1;omega
 ·rw [List.take_append_of_le_length (by rw [length_append,kx];omega),List.take_of_length_le (by rw [length_append,kx];omega)]
theorem a7.H8 (aP:bQ P Γ) (I:Ok s L) {t bH e:TypeId} {x y:Operand} {it cw aG:bN} {dZ bU sz:Nat} {yss:List (List af)} {dk:bM}
    (ah:o.op = .call { callee := .builtin .append,args := #[x,y],argTypes := #[t,bH] }) (aN:Γ.get? t=some it) (bs:it.bG = .aC e) (cZ:Γ.get? bH=some cw) (dr:∀ k,cw.bG ≠ .int k)
    (bI:Γ.get? e=some aG) (U:aG.size=sz) (dV:Nat.beq aG.zero.cells.size aG.size=true) (ab:aL env x=some (.aC dZ [] .clip)) (ay:aL env y=some (.aC bU (yss.map af.agg) dk)) (c8:bU=sz) (h8:∀ c∈yss,c.length=sz) (cO:1≤yss.length) (aq:yss.length*aG.bytes≤140737488355328) (er:yss.length≤9223372036854775807)
    {X:af→ao→Prop}:a7 P N o env (aT s L) (fun r al=>HH s L e sz yss.length yss.flatten r al) X:=by
  refine a7.ky jf fun ro B a w p aI=>?_
  have gl:=aI.aL ab;have fl:=aI.aL ay;have eM:=fun val w'=>uF (P:=P) (a:=a) (val:=val) (w:=w) (w':=w') ah
  generalize eA:a.eval x=dX at gl eM;generalize ff:a.eval y=ga at fl eM;have tk:∃ base,dX = .slice base 0 0:=by
    cases gl with
    | hY=>exact ⟨_,rfl⟩
    | iA a _ _ h=>exact ⟨_,rfl⟩
    | aC g off n cap _ vs _ _ az aB aA aF au hm aD ct ah=>
      have U:n=0:=aB;have ae:=ct C;subst U;subst ae;exact ⟨_,rfl⟩
  obtain ⟨base,rfl⟩:=tk
  obtain ⟨aX,cf,cs',w',fs,gD,hs,jc,mh,mi,mX,mY⟩:=XE (ty:=o.type) aP aI.wf (base:=base) (n:=0) (cap:=0) (olds:=[]) (xs:=[]) aN bs cZ dr bI U dV .nil ba (by
    cases base with
    | none=>
      have:=run_firstCells_none (P:=P) w.drew sz 0 0 0
      simpa using this
    | some a=>exact run_firstCells_some w.drew sz 0 a _ _ [] ba ba) fl c8 h8 ag (by simpa using aq) ag
  rw [zero_add] at fs mX mY;exact ⟨_,w',_,p,_,eM _ _ fs,hs,jc,mh,⟨aX,cf,cs',rfl,rfl,⟨gD,I⟩,mi,mX,by simpa using mY⟩,.hB _⟩
theorem aa.H8 (aP:bQ P Γ) (I:Ok s L) {t bH e:TypeId} {x y:Operand} {it cw aG:bN} {dZ bU sz:Nat} {yss:List (List af)} {dk:bM} (aw:guardOf ops env o=some true) (ax:o.dst=some d) (aW:Nat.blt d N=true)
  (ah:o.op = .call { callee := .builtin .append,args := #[x,y],argTypes := #[t,bH] }) (aN:Γ.get? t=some it) (bs:it.bG = .aC e) (cZ:Γ.get? bH=some cw) (dr:∀ k,cw.bG ≠ .int k)
  (bI:Γ.get? e=some aG) (U:aG.size=sz) (dV:Nat.beq aG.zero.cells.size aG.size=true) (ab:aL env x=some (.aC dZ [] .clip)) (ay:aL env y=some (.aC bU (yss.map af.agg) dk)) (c8:bU=sz) (h8:∀ c∈yss,c.length=sz) (cO:1≤yss.length) (aq:yss.length*aG.bytes≤140737488355328) (er:yss.length≤9223372036854775807)
  (h:∀ aX cf cs',cs'.length=cf*sz→yss.length≤cf→cs'.take (yss.length*sz)=yss.flatten→Ok s ((.own aX,.box e cs')::L)→aa P N ops l Q ((d,eu aX yss.length cf)::env) (aT s ((.own aX,.box e cs')::L))):aa P N ops (o::l) Q env (aT s L):=by
 refine aa.op aw ax aW (a7.H8 aP I ah aN bs cZ dr bI U dV ab ay c8 h8 cO aq er (X:=fun _ _=>False)) ?_ (fun _ _ h=>h.elim);rintro r al ⟨aX,cf,cs',rfl,rfl,ae,an,bd,bD⟩;exact h aX cf cs' an bd bD ae
end
end Go.cW
namespace Go.Proofs.YtnafpeohfbglmaaGreat
open Go.cW Go.dv
theorem DZ (g:List b7):g.map eP=(g.map gY).map af.agg:=by rw [map_map];rfl
theorem XF (g:List b7) (own:bM) (U:1≤g.length) (aB:g.length≤1000):bE Tryz.prog 109 [.aC 4 (g.map eP) own] [] (fun o K=>∃ b cap cs,yT (some (b,cap,cs)) g∧o = .ret (eu b g.length cap)∧K=[(.own b,.box 69 cs)]):=by
 refine bE.bj ai Tryz.func109 C C fun s I=>?_
 refine dL ?_;refine aa.op C C C (a7.Gm ai C C C C (X:=fun _ _=>False)) ?_ (fun _ _ h=>False.elim h);rintro r al ⟨rfl,⟨rfl,az⟩|rfl⟩
 ·have:g=[]:=List.map_eq_nil_iff.1 az
  rw [this] at U;simp at U
 ·refine bB ?_
  refine aa.H8 ai I (yss:=g.map gY) C C C C C C C et C C C C (by rw [← DZ];rfl) C (pn g) th (by rw [length_map];show _*48≤_;omega) u0 (fun dA gz gk c7 dh e3 I=>?_);refine eD ?_;exact Fin.bz I C (aS.of_eq (by rw [length_map])) aY ⟨dA,gz,gk,⟨c7,by simpa using dh,by simpa using e3⟩,rfl,rfl⟩
theorem XG (g:List b7):(iL g g.length).map bb=replicate g.length (.int .i64 0):=by
 unfold iL;rw [List.drop_length,ei,append_nil,List.map_replicate];rfl
theorem XH (g:List b7):lh g g.length=g:=by
 unfold lh;rw [List.drop_length,ei,append_nil,take_length]
def rn (N:List b7) (aq iz jF xp dI:Nat) (order:List Int) (num:List (af×af)) (one:List Int) (own:bM) (bt:Bh) (done:List b7):a':=[(.own xp,.box 28 [kc bt done]),(.own iz,.box 23 [.aC 1 (order.map bb) .bc]),(.own jF,.box 163 [oA N aq jF iz]),(own,.row 3 1 order.length),(.own aq,.map num),(.own dI,.box 3 (one.map bb))]++jE bt
def pq (N:List b7) (order:List Int) (fh:Int):b7:=let x:=N.getD fh.toNat default
 if x.atom≥0 then { x with no:=(order.length:Int)-1-placeOf order x.no,yes:=(order.length:Int)-1-placeOf order x.yes } else x
def H9 (iz aq rp:Nat) (order:List Int) (num:List (af×af)) (x:b7) (al:ao):Prop:=al iz=some (.box 23 [.aC 1 (order.map bb) .bc])∧al aq=some (.map num)∧∃ v,al rp=some (.box 69 [.int .i64 x.atom,v,.int .i64 x.yes,.aC 1 (x.ms.map bb) .bc])
def oB (g:List b7) (ot tR dI cap m:Nat) (cs:List af):a':=[(.own ot,.box 28 [eu tR g.length cap]),(.own tR,.box 69 cs),(.own dI,.box 3 ((iL g m).map bb))]
theorem ND (g:List b7) (aw:DU g):bE Tryz.prog 63 [.aC 4 (g.map eP) .bc] [] (fun o K=>o = .ret (.aC 4 ((small g).map eP) .bc)∧K=[]):=by
  have ny:bu=1099511627776:=rfl;have oi:=aw.pos;have kq:=aw.len;have ct:=XF g .bc aw.pos aw.len;refine bE.bj ai Tryz.func63 C C fun s I=>?_
  refine bZ ?_;refine aa.uN ai I (g.map eP).length C C C C C C C C C C C C (by rw [length_map];show _*8≤_;omega) u0 (fun dI I=>?_);refine ht ?_;refine aa.b9 rfl rfl rfl rfl rfl ct I .nil ?_ (fun _ _ ⟨_,_,_,_,h,_⟩ _=>by cases h);rintro _ _ ⟨tR,cap,XI,XJ,⟨⟩,rfl⟩ I;simp only [length_map,cons_append,nil_append] at I ⊢
  repeat (first|(refine SI I ?_;clear I;intro I)|refine aa.d' ai I rfl rfl rfl rfl rfl rfl rfl (fun cy I=>?_))
  obtain ⟨ot,rfl⟩:∃ x,x=cy:=⟨_,rfl⟩;have jI:=XG g;have jO:((g.map eP).length:Int)=(g.length:Int):=by rw [length_map]
  have hw:IntKind.wrap .i64 ((g.length:Int)-1)=(g.length:Int)-1:=eo ag ag;refine ad.b0 [0,3,4] C I (σ:=Nat×List af) (fun q=>[(5,.int .i64 ((q.1:Int)-1))]) (fun q=>oB g ot tR dI cap q.1 q.2) (fun q=>q.1≤g.length∧yT (some (tR,cap,q.2)) (lh g q.1)) (fun q=>q.1) (g.length,XI) ⟨le_refl _,by rw [XH];exact XJ⟩ (by repeat (first|exact trivial|refine ⟨⟨_,rfl,aM⟩,?_⟩|refine ⟨⟨_,rfl,aS.of_eq (by (rw [jO,hw]))⟩,?_⟩)) (by unfold oB;simp only [jI];exact aY) ?_;rintro ⟨iQ,cs⟩ ⟨hm,hV⟩ I;simp only at hm hV I ⊢;cases iQ with
  | zero=>
    have XK:lh g 0=(ei 0 g).2:=by unfold lh;simp
    have XL:iL g 0=(ei 0 g).1:=by unfold iL;simp
    obtain ⟨abS,nD⟩:=yV g 0;have mM:=Ns (n:=g.length) g 0 ag (fun k x ab a8=>by have:=aw.fh k x ab a8;rw [zero_add];exact this);have NF:Down (ei 0 g).2:=fun i x ab a8=>by
      have tH:=(List.getElem?_eq_some_iff.1 ab).1;have:=(mM i ag).2.2.2;rw [getD_eq_getElem?_getD,ab] at this;have:=this a8;simp only [getD_some] at this;omega
    obtain ⟨Bm,NG⟩:∃ Bm,(ei 0 g).1[0]? = some Bm:=⟨_,getElem?_eq_getElem ag⟩;have NH:(ei 0 g).1.getD 0 0=Bm:=by rw [getD_eq_getElem?_getD,NG];rfl
    have XM:=(mM 0 ag).1;rw [NH] at XM;obtain ⟨a0,rfl⟩:∃ a:Nat,Bm=a:=⟨Bm.toNat,by omega⟩;have kR:small g=(meet (ei 0 g).2 (g.length+1) [] a0).reverse.map fun fh=>
        let x:=(ei 0 g).2.getD fh.toNat default
        if x.atom≥0 then { x with no:=((meet (ei 0 g).2 (g.length+1) [] a0).length:Int)-1-placeOf (meet (ei 0 g).2 (g.length+1) [] a0) x.no,yes:=((meet (ei 0 g).2 (g.length+1) [] a0).length:Int)-1-placeOf (meet (ei 0 g).2 (g.length+1) [] a0) x.yes } else x:=by
      unfold small;simp only [NH]
    have im:∀ x∈(ei 0 g).2,x.ms.length≤16:=fun x ab=>by
      obtain ⟨k,aD⟩:=getElem?_of_mem ab;obtain ⟨w,p3,H'⟩:=HT g 0 k x aD;rw [H'];exact aw.ms w p3
    have NI:po (ei 0 g).2.length []:=⟨List.nodup_nil,fun _ h=>by cases h⟩;have XN:=Xu (ei 0 g).2 ag NF;have NJ:=(yW NF (g.length+1) a0 ag ag [] NI).1;have XO:((ei 0 g).1.map bb)[0*1]? = some (.int .i64 ((a0:Nat):Int)):=by rw [Nat.zero_mul,getElem?_map,NG];rfl
    unfold oB at I ⊢;rw [XL] at I ⊢;rw [XK] at hV;generalize (ei 0 g).1=one at *;generalize (ei 0 g).2=N at *;obtain ⟨sV,qt,NK⟩:=hV;rw [nD] at qt NK;refine ad.Bf I 0 .here .here C NK (by rw [length_map,nD]) (pn _) qt ag (fun I=>?_);simp only [List.set_cons_zero,← DZ] at I ⊢;refine ad.mo I 4 ot C .here (fun I=>?_);refine c3 ?_;refine aa.rN I C C C C (fun aq I=>?_);refine aa.CM ai C C C C C C C (fun _=>rfl) C C (fun _=>rfl) C C C C ?_
    repeat (first|(refine SJ I ?_;clear I;intro I)|refine aa.d' ai I rfl rfl rfl rfl rfl rfl rfl (fun cy I=>?_))
    rename_i iz _;obtain ⟨jF,rfl⟩:∃ x,x=cy:=⟨_,rfl⟩;refine ad.h2 I 3 1 0 fun I=>?_
    refine ad.rk I [.aC 1 [] .nil] (kb:=iz) a1 (.one (aS.nil gW)) (fun I=>?_);have c1:=XN aq jF iz (g.length+1) a0 ag ag [] [] [] .nil qb.empty NI (fun _ h=>by cases h);unfold sx oA at c1;refine tf I ?_;intro I;refine aJ.fo ai 0 C C C C C C C C C C ag ?_;refine aJ.j7 ai I C C C C C C a1 C XO ?_;skip;refine aJ.gM rfl rfl rfl rfl rfl rfl rfl c1 I aY ?_ (fun _ _ h _=>by obtain ⟨_,_,_,h,_⟩:=h;cases h);rintro _ _ ⟨num,own,om,⟨⟩,rfl⟩ I;simp only [nil_append,cons_append] at I ⊢;generalize meet N (g.length+1) [] a0=order at *;have hlen:=NJ.len;refine uD ?_;refine ad.rk I [.aC 1 (order.map bb) .bc] (kb:=iz) a1 (.one aS.bc) (fun I=>?_);have XP:=Xx order;unfold bg at XP
    repeat (first|(refine SK I ?_;clear I;intro I)|refine aa.d' ai I rfl rfl rfl rfl rfl rfl rfl (fun cy I=>?_)|(refine pM ?_))
    obtain ⟨xp,rfl⟩:∃ x,x=cy:=⟨_,rfl⟩
    rw [show (fun fh:Int=>let x:=N.getD fh.toNat default
        if x.atom≥0 then ({ x with no:=(order.length:Int)-1-placeOf order x.no,yes:=(order.length:Int)-1-placeOf order x.yes }:b7) else x)=pq N order from rfl] at kR
    have vO:=NA order order.length (le_refl _);rw [take_length] at vO;have lj:(vd order order.length).length=order.length:=by
      have:=congrArg List.length vO;rwa [length_map,List.length_reverse] at this
    have eW:∀ z:Int,lP false (.int .i64 0) (if order.contains z then some (.int .i64 (placeOf order z)) else if ([]:List Int).contains z then some (.int .i64 (-1)) else none) = .int .i64 (placeOf order z):=fun z=>by
      cases aA:order.contains z with
      | true=>rfl
      | false=>rw [Xs aA];rfl
    refine ad.Ll I C dW dW (Xw order ag) .nil (fun rem K=>∃ bt done,yT bt done∧done.length+rem.length=order.length∧order.reverse.map (pq N order)=done++rem.map (fun q=>pq N order q.2)∧(∀ q∈rem,0≤q.2∧q.2<N.length)∧K=rn N aq iz jF xp dI order num one own bt done) (fun _ _=>False) (fun _ _=>False) ⟨none,[],rfl,by rw [lj];simp,by rw [← vO,map_map];rfl,(fun q bq=>by
      have:q.2∈order.reverse:=by rw [← vO];exact List.mem_map_of_mem bq
      exact NJ.lt _ (List.mem_reverse.1 this)),rfl⟩ ?_ ?_ (fun _ _ h=>h.elim) (fun _ _ h=>h.elim)
    · rintro s₁ ⟨acJ,fh⟩ rem K ⟨bt,done,dd,wN,ve,qc,rfl⟩ I
      have XQ:=qc _ mem_cons_self;simp only at XQ;obtain ⟨a,rfl⟩:∃ a:Nat,fh=a:=⟨fh.toNat,by omega⟩;obtain ⟨x,ab,bL⟩:=bV (f:=eP) (l:=N) (show a<N.length by omega);have y1:pq N order a=if x.atom≥0 then { x with no:=(order.length:Int)-1-placeOf order x.no,yes:=(order.length:Int)-1-placeOf order x.yes } else x:=by
        unfold pq;simp only [toNat_natCast,getD_eq_getElem?_getD,ab,getD_some]
      rw [map_cons,length_cons] at *;have ct:=AE x.ms .bc (by have:=im x (mem_of_getElem? ab);omega);have Ap:=Nv order x.no;have abT:=Nv order x.yes;unfold eP gY bg at bL;unfold HY HZ;unfold rn oA at I ⊢;simp only [cons_append,nil_append] at I ⊢;have lp:=eW x.no;have Ia:=eW x.yes;have NL:=om.get x.no;have NM:=om.get x.yes;generalize (if order.contains x.no then some (af.int .i64 (placeOf order x.no)) else if ([]:List Int).contains x.no then some (af.int .i64 (-1)) else none)=acT at lp NL;generalize (if order.contains x.yes then some (af.int .i64 (placeOf order x.yes)) else if ([]:List Int).contains x.yes then some (af.int .i64 (-1)) else none)=acA at Ia NM;by_cases cX:x.atom≥0
      · rw [if_pos cX] at y1
        have cb:IntKind.wrap .i64 (IntKind.wrap .i64 ((order.length:Int)-1)-placeOf order x.no)=(order.length:Int)-1-placeOf order x.no:=by
          rw [eo (n:=(order.length:Int)-1) ag ag,eo ag ag]
        have b1:IntKind.wrap .i64 (IntKind.wrap .i64 ((order.length:Int)-1)-placeOf order x.yes)=(order.length:Int)-1-placeOf order x.yes:=by
          rw [eo (n:=(order.length:Int)-1) ag ag,eo ag ag]
        repeat (first|(refine Kk I ?_;clear I;intro I)|refine aa.d' ai I rfl rfl rfl rfl rfl rfl rfl (fun cy I=>?_)|(refine pM ?_))
        refine ad.cond C (fun _=>?_) (fun h=>absurd cX fZ);skip;obtain ⟨rp,rfl⟩:∃ x,x=cy:=⟨_,rfl⟩;have rq:=(⟨bp.get a1 I,bp.get a1 I,.int .i64 x.no,bp.get a1 I⟩:H9 iz aq rp order num x _);refine ad.qC (H9 iz aq rp order num x) ai mixed C (bo.run rq C ?_);refine bo.n3 0 ai rq C C C C C C C C (fun _ h=>h.1) b3 ?_;refine bo.n3 8 ai rq C C C C C C C C (fun _ h=>h.1) b3 ?_;refine bo.S3 13 ai rq rfl rfl rfl rfl rfl rfl rfl rfl (fun _ h=>by obtain ⟨_,_,v,h⟩:=h;exact ⟨_,_,h,rfl⟩) ?_;refine bo.run rq C ?_;refine bo.NB 14 ai rq C C C C C C C C C C C C (fun _ h=>h.2.1) C NM C ?_;rw [Ia];refine bo.run rq C ?_;refine bo.H7 5 ai I rq C C C C C C C C a1 b3 ?_;refine bo.run rq C ?_;refine bo.NB 6 ai rq C C C C C C C C C C C C (fun _ h=>h.2.1) C NL C ?_;rw [lp];refine bo.run rq C ?_;refine bo.cS 17 ai I C C C C C C C C C C C a1 C (fun I => .inl ⟨bp.get a1 I,bp.get a1 I,_,bp.get a1 I⟩) (fun I=>?_);refine bo.run (⟨bp.get a1 I,bp.get a1 I,_,bp.get a1 I⟩:H9 iz aq rp order num x _) C ?_;refine bo.cS 19 ai I C C C C C C C C C C C a1 C (fun _ => .inr C) (fun I=>?_);refine bf.done C ?_;rcases bt with _|⟨g2,gz,gk⟩
        · have br:done=[]:=dd
          subst br;unfold kc jE at I ⊢;refine cG I ?_;intro I;refine aa.sq ai I C C C C C C C et C C C C C C C dW (fun dA gz gk c7 dh e3 I=>?_);refine cG I ?_;intro I;exact At.mk (rn N aq iz jF xp dI order num one own (some (dA,gz,gk)) ([]++[pq N order a])) I (by simp only [rn,jE,kc,oA,cons_append,nil_append,length_append,length_cons,length_nil];exact aY) ⟨trivial,some (dA,gz,gk),[]++[pq N order a],⟨c7,u1,by rw [yU,y1];refine e3.trans ?_;rw [← cb,← b1,length_map];rfl⟩,by simp at wN ⊢;omega,by rw [ve];simp,fun q bq=>qc q (mem_cons_of_mem _ bq),rfl⟩
        · obtain ⟨fs,gD,hs⟩:=dd
          unfold kc jE at I ⊢;refine cG I ?_;intro I;refine aa.sr ai I C C C C C C C et C C C C a1 fs gD C C C C (by show (done.length+1)*48≤_;omega) ag (fun dA gz gk c7 dh e3 I=>?_);refine cG I ?_;intro I;exact At.mk (rn N aq iz jF xp dI order num one own (some (dA,gz,gk)) (done++[pq N order a])) I (by simp only [rn,jE,kc,oA,cons_append,nil_append,length_append,length_cons,length_nil];exact aY) ⟨trivial,some (dA,gz,gk),done++[pq N order a],⟨c7,u1,by rw [yU,y1,length_append,length_cons,length_nil,← hs];refine e3.trans ?_;rw [← cb,← b1,length_map];rfl⟩,by simp at wN ⊢;omega,by rw [ve];simp,fun q bq=>qc q (mem_cons_of_mem _ bq),rfl⟩
      · rw [if_neg cX] at y1
        repeat (first|(refine Kk I ?_;clear I;intro I)|refine aa.d' ai I rfl rfl rfl rfl rfl rfl rfl (fun cy I=>?_)|(refine pM ?_))
        refine ad.cond C (fun h=>absurd fZ cX) (fun _=>?_);refine cG I ?_;intro I;rcases bt with _|⟨g2,gz,gk⟩
        · have br:done=[]:=dd
          subst br;unfold kc jE at I ⊢;skip;refine aa.sq ai I C C C C C C C et C C C C C C C dW (fun dA gz gk c7 dh e3 I=>?_);refine cG I ?_;intro I;exact At.mk (rn N aq iz jF xp dI order num one own (some (dA,gz,gk)) ([]++[pq N order a])) I (by simp only [rn,jE,kc,oA,cons_append,nil_append,length_append,length_cons,length_nil];exact aY) ⟨trivial,some (dA,gz,gk),[]++[pq N order a],⟨c7,u1,by rw [yU,y1];refine e3.trans ?_;rfl⟩,by simp at wN ⊢;omega,by rw [ve];simp,fun q bq=>qc q (mem_cons_of_mem _ bq),rfl⟩
        · obtain ⟨fs,gD,hs⟩:=dd
          unfold kc jE at I ⊢;skip;refine aa.sr ai I C C C C C C C et C C C C a1 fs gD C C C C (by show (done.length+1)*48≤_;omega) ag (fun dA gz gk c7 dh e3 I=>?_);refine cG I ?_;intro I;exact At.mk (rn N aq iz jF xp dI order num one own (some (dA,gz,gk)) (done++[pq N order a])) I (by simp only [rn,jE,kc,oA,cons_append,nil_append,length_append,length_cons,length_nil];exact aY) ⟨trivial,some (dA,gz,gk),done++[pq N order a],⟨c7,u1,by rw [yU,y1,length_append,length_cons,length_nil,← hs];refine e3.trans ?_;rfl⟩,by simp at wN ⊢;omega,by rw [ve];simp,fun q bq=>qc q (mem_cons_of_mem _ bq),rfl⟩
    · rintro K ⟨bt,done,dd,wN,ve,-,rfl⟩ I
      rw [map_nil,append_nil] at ve;rw [← ve,← kR] at dd;refine uD ?_;rw [← ve,← kR] at I ⊢;unfold rn at I ⊢;rcases bt with _|⟨g2,gz,gk⟩
      · have br:small g=[]:=dd
        rw [br];unfold kc;refine cG I ?_;intro I;exact Fin.bz I C aS.empty .nil ⟨rfl,rfl⟩
      · obtain ⟨fs,gD,hs⟩:=dd
        have w4:(small g).length≤1000:=by rw [kR,length_map,List.length_reverse];omega
        unfold kc jE at I ⊢;refine ad.Bf I 0 .here a1 C hs (by rw [length_map]) (pn _) gD ag (fun I=>?_);simp only [List.set_cons_zero,← DZ] at I ⊢;refine cG I ?_;intro I;exact Fin.bz I C aM .nil ⟨rfl,rfl⟩
  | succ m=>
  have ar:m<g.length:=hm;have s8:(((m+1:Nat):Int)-1)=(m:Int):=by omega
  obtain ⟨x,ab,-⟩:=bV (f:=eP) ar;have aI:=Xm aw ab;have Ib:(lh g (m+1))[m]? = some x:=by rw [Xl g ag hm,ab]
  have ju:=fun (k:Nat) (v:af) (aD:(gY x)[k]? = some v)=>Np (pn _) hV.2.2 (by rw [getElem?_map,Ib];rfl) aD
  unfold oB at I ⊢;simp only [s8] at I ⊢;refine hl I ?_;intro I;refine aa.fo ai m C C C C C C C C C C ag ?_;refine ht ?_;refine aa.j7 ai I C C C C C C a1 C (ju 0 _ C) ?_;refine fI ?_;refine ad.x7 (σ:=List af) (fun _=>[(0,.aC 4 (g.map eP) .bc),(3,eu dI g.length g.length),(4,.ptr ot 0),(5,.int .i64 (m:Int)),(6,.ptr tR (m*4))]) (fun cs'=>oB g ot tR dI cap (m+1) cs') (fun cs'=>yT (some (tR,cap,cs')) ((lh g (m+1)).set m (qa g m x))) ?_ ?_
  · refine ad.cond C (fun a8=>?_) (fun a8=>?_)
    · have a8:x.atom≥0:=by simpa using a8
      obtain ⟨B9,zq,acQ,acs⟩:=aw.fh m x ab a8
      have iC:=fun (z:Int) (U:(m:Int)<z) (ae:z<g.length)=>(show ((iL g (m+1)).map bb)[z.toNat*1]? = some (.int .i64 ((iL g (m+1)).getD z.toNat 0)) from by
        rw [mul_one,getElem?_map,getD_eq_getElem?_getD,getElem?_eq_getElem (by rw [DV g hm];omega)];rfl)
      have r0:=yS (k:=1) (v := .int .i64 ((iL g (m+1)).getD x.no.toNat 0)) (pn _) hV.2.2 (by rw [getElem?_map,Ib];rfl) ag
      have o3:=yS (k:=2) (v := .int .i64 ((iL g (m+1)).getD x.yes.toNat 0)) (fun c aA=>by
        rcases List.mem_or_eq_of_mem_set aA with aA|rfl
        · exact pn _ c aA
        · rfl) r0.2 (List.getElem?_set_self (by rw [length_map,HR g hm];omega)) ag
      have D0:qa g m x={ x with no:=(iL g (m+1)).getD x.no.toNat 0,yes:=(iL g (m+1)).getD x.yes.toNat 0 }:=by unfold qa;rw [if_pos a8]
      have nX:=HR g hm;have fB:m*4+3≤cs.length:=by rw [hV.1];have:=hV.2.1;omega
      have NN:Nat.ble (m*4+1+[af.int .i64 ((iL g (m+1)).getD x.no.toNat 0)].length) cs.length=true:=by rw [Nat.ble_eq];show m*4+1+1≤_;omega
      have NO:Nat.ble (m*4+2+[af.int .i64 ((iL g (m+1)).getD x.yes.toNat 0)].length) (eU (m*4+1) [af.int .i64 ((iL g (m+1)).getD x.no.toNat 0)] cs).length=true:=by rw [Nat.ble_eq,r0.1];show m*4+2+1≤_;omega
      skip;refine ad.qC (dR [(dI,_)]) ai mixed C (bo.run (dR.one (bp.get a1 I)) C ?_);refine bo.two (i:=6) (j:=13) (dR.one (bp.get a1 I)) C C C C C C (a7.eC ai I C C C a1 (pS C (ju 1 _ C))) C C C C (a7.eC ai I C C C a1 (pS C (ju 2 _ C))) ?_ ?_
      · refine bo.fo 7 ai (dR.one (bp.get a1 I)) (j:=x.no.toNat) C C C C C C C C C C C ag ag ?_
        refine bo.n3 8 ai (dR.one (bp.get a1 I)) C C C C C C C C (fun _ h=>dR.fst h) (pS C (iC x.no ag ag)) ?_;refine bo.H7 13 ai I (dR.one (bp.get a1 I)) C C C C C C C C a1 (pS C (ju 2 _ C)) ?_;refine bo.fo 14 ai (dR.one (bp.get a1 I)) (j:=x.yes.toNat) C C C C C C C C C C C ag ag ?_;refine bo.n3 15 ai (dR.one (bp.get a1 I)) C C C C C C C C (fun _ h=>dR.fst h) (pS C (iC x.yes ag ag)) ?_;refine bo.run (dR.one (bp.get a1 I)) C ?_;refine bo.cS 18 ai I C C C C C C C C C C C a1 NN (fun I => .inl (dR.one (bp.get a1 I))) (fun I=>?_);refine bo.run (dR.one (bp.get a1 I)) C ?_;refine bo.cS 21 ai I C C C C C C C C C C C a1 NO (fun _ => .inr C) (fun I=>?_);refine bf.done C ?_;skip
        exact lW.mk _ I ⟨o3.1.trans (r0.1.trans hV.1),by rw [length_set];exact hV.2.1,by
          rw [length_set]
          refine o3.2.trans ?_
          rw [List.set_set,map_set,D0]
          rfl⟩ (ck C) (by simp only [oB];exact aY)
      · refine bo.fo 14 ai (dR.one (bp.get a1 I)) (j:=x.yes.toNat) C C C C C C C C C C C ag ag ?_
        refine bo.n3 15 ai (dR.one (bp.get a1 I)) C C C C C C C C (fun _ h=>dR.fst h) (pS C (iC x.yes ag ag)) ?_;refine bo.H7 6 ai I (dR.one (bp.get a1 I)) C C C C C C C C a1 (pS C (ju 1 _ C)) ?_;refine bo.fo 7 ai (dR.one (bp.get a1 I)) (j:=x.no.toNat) C C C C C C C C C C C ag ag ?_;refine bo.n3 8 ai (dR.one (bp.get a1 I)) C C C C C C C C (fun _ h=>dR.fst h) (pS C (iC x.no ag ag)) ?_;refine bo.run (dR.one (bp.get a1 I)) C ?_;refine bo.cS 18 ai I C C C C C C C C C C C a1 NN (fun I => .inl (dR.one (bp.get a1 I))) (fun I=>?_);refine bo.run (dR.one (bp.get a1 I)) C ?_;refine bo.cS 21 ai I C C C C C C C C C C C a1 NO (fun _ => .inr C) (fun I=>?_);refine bf.done C ?_;skip
        exact lW.mk _ I ⟨o3.1.trans (r0.1.trans hV.1),by rw [length_set];exact hV.2.1,by
          rw [length_set]
          refine o3.2.trans ?_
          rw [List.set_set,map_set,D0]
          rfl⟩ (ck C) (by simp only [oB];exact aY)
    · have a8:¬ x.atom≥0:=by simpa using a8
      have D0:qa g m x=x:=by unfold qa;rw [if_neg a8]
      refine fR ?_;exact lW.mk cs I (by rw [D0,gu Ib];exact hV) (ck C) (by simp only [oB];exact aY)
  intro cs' Bn I;generalize wT:qa g m x=y at Bn aI;have nX:=HR g hm;have o3:(ei (m+1) (g.drop (m+1))).2.length=g.length-(m+1):=by rw [(yV _ _).2,List.length_drop]
  have XR:∀ j,((lh g (m+1)).set m y)[m+1+j]? = (ei (m+1) (g.drop (m+1))).2[j]? := fun j=>by
    rw [List.getElem?_set_ne ag,Xk g hm]
  have XS:((lh g (m+1)).set m y)[m]? = some y:=List.getElem?_set_self ag;have D1:=fun (k:Nat) (v:af) (aD:(gY y)[k]? = some v)=>Np (pn _) Bn.2.2 (by rw [getElem?_map,XS];rfl) aD
  have NP:(lh g (m+1)).set m y=lh g m:=Xo ar aI C;have XT:(g.length:Int)-1=((m+(g.length-1-m):Nat):Int):=by omega
  unfold oB at I ⊢;refine gg ?_;refine ad.b0 [0,3,4,5,6] C I (σ:=Nat) (fun c=>[(7,.int .i64 ((m+c:Nat):Int))]) (fun _=>oB g ot tR dI cap (m+1) cs') (fun c=>m+c<g.length∧n8 (sw g m y) 0 (ei (m+1) (g.drop (m+1))).2=n8 (sw g m y) 0 ((ei (m+1) (g.drop (m+1))).2.take c)) (fun c=>c) (g.length-1-m) ⟨by omega,by rw [List.take_of_length_le ag]⟩ (by repeat (first|exact trivial|refine ⟨⟨_,rfl,aM⟩,?_⟩|refine ⟨⟨_,rfl,aS.of_eq (by (rw [jO,hw,XT]))⟩,?_⟩)) (by simp only [oB];exact aY) ?_;rintro c ⟨aA,ak⟩ I;simp only [oB] at aA ak I ⊢;cases c with
  | zero=>
    rw [ak,take_zero,n8] at aI;refine b2 ?_;refine ad.cond C (fun h=>by simp at h) (fun _=>?_);refine bB ?_;refine aa.fo ai m C C C C C C C C C C ag ?_;refine aa.j8 ai I _ C C C C C C C C C a1 (by rw [length_map,DV g hm];show m*1+1≤_;omega) C (fun I=>?_);have tx:eU (m*1) [.int .i64 (m:Int)] ((iL g (m+1)).map bb)=(iL g m).map bb:=by
      rw [pT,mul_one,← Nu aI C,map_set];rfl
    refine fu ?_;exact bn.mk (m,cs') I ⟨by omega,by rw [← NP];exact Bn⟩ (by repeat (first|exact trivial|refine ⟨⟨_,rfl,aM⟩,?_⟩|refine ⟨⟨_,rfl,aS.of_eq yn⟩,?_⟩)) (by simp only [oB,← tx];exact aY) (by show m<m+1;omega)
  | succ c=>
    have ct:c<(ei (m+1) (g.drop (m+1))).2.length:=by omega
    obtain ⟨z,bO⟩:∃ z,(ei (m+1) (g.drop (m+1))).2[c]? = some z:=⟨_,getElem?_eq_getElem ct⟩;have NQ:=XR c;rw [bO] at NQ;have iC:((iL g (m+1)).map bb)[(m+1+c)*1]? = some (.int .i64 ((ei (m+1) (g.drop (m+1))).1.getD c 0)):=by
      rw [← HS,mul_one,getElem?_map,getD_eq_getElem?_getD,getElem?_eq_getElem (by rw [DV g hm];omega)];rfl
    have hH:(ei (m+1) (g.drop (m+1))).2.take (c+1)=(ei (m+1) (g.drop (m+1))).2.take c++[z]:=by rw [List.take_add_one,bO];rfl
    rw [hH,Nt,zero_add,List.length_take,Nat.min_eq_left ag] at ak;have o5:sw g m y c z=((ei (m+1) (g.drop (m+1))).1.getD c 0==((m+1+c:Nat):Int)&&z==y):=rfl;obtain ⟨df,p3,H'⟩:=HT _ _ _ _ bO;have nt:=aw.ms df (List.mem_of_mem_drop p3);have h8:=aw.ms x (mem_of_getElem? ab);have zG:=Xp g m x;rw [wT] at zG;have heq:=Aj y.ms z.ms (by rw [zG];omega) (by rw [H'];omega);have Xt:(((m+(c+1):Nat):Int)-1)=((m+c:Nat):Int):=by omega
    have sy:((m+1+c:Nat):Int)=((m+(c+1):Nat):Int):=by omega
    refine b2 ?_;refine ad.cond C (fun _=>?_) (fun h=>by simp at h;omega);refine cG I ?_;intro I;refine aa.fo ai (m+1+c) C C C C C C C C C ag ag ?_;refine aa.eC ai I C C C C C C a1 (Ni C (pn _) Bn.2.2 (by rw [getElem?_map,NQ];rfl)) ?_;refine ea ?_;refine aJ.fo ai (m+1+c) C C C C C C C C C ag ag ?_;refine aJ.j7 ai I C C C C C C a1 C iC ?_;refine ly ?_;by_cases c7:(ei (m+1) (g.drop (m+1))).1.getD c 0=((m+(c+1):Nat):Int);rotate_left
    · refine aJ.split 74 C (fun h=>absurd fZ c7) (fun _=>?_)
      have ml:sw g m y c z=false:=by rw [o5,sy,show ((ei (m+1) (g.drop (m+1))).1.getD c 0==((m+(c+1):Nat):Int))=false from beq_eq_false_iff_ne.2 c7,Bool.false_and]
      rw [ml,if_neg ba] at ak;refine jN ?_;exact bn.mk c I ⟨by omega,ak⟩ (by repeat (first|exact trivial|refine ⟨⟨_,rfl,aM⟩,?_⟩|refine ⟨⟨_,rfl,aS.of_eq Bk⟩,?_⟩)) aY (by show c<c+1;omega)
    refine aJ.split 74 C (fun _=>?_) (fun h=>absurd c7 fZ);rw [sy,show ((ei (m+1) (g.drop (m+1))).1.getD c 0==((m+(c+1):Nat):Int))=true from beq_iff_eq.2 c7,Bool.true_and,Xn] at o5;refine ly ?_;refine aJ.j7 ai I C C C C C C a1 C (D1 0 _ C) ?_;refine ly ?_;by_cases dh:y.atom=z.atom;rotate_left
    · refine aJ.split 83 C (fun h=>absurd fZ dh) (fun _=>?_)
      have ml:sw g m y c z=false:=by rw [o5,show decide (z.atom=y.atom)=false from decide_eq_false (fun e=>dh e.symm)];simp
      rw [ml,if_neg ba] at ak;refine jN ?_;exact bn.mk c I ⟨by omega,ak⟩ (by repeat (first|exact trivial|refine ⟨⟨_,rfl,aM⟩,?_⟩|refine ⟨⟨_,rfl,aS.of_eq Bk⟩,?_⟩)) aY (by show c<c+1;omega)
    refine aJ.split 83 C (fun _=>?_) (fun h=>absurd dh fZ);rw [show decide (z.atom=y.atom)=true from decide_eq_true dh.symm,Bool.true_and] at o5;refine ly ?_;refine aJ.j7 ai I C C C C C C a1 C (D1 1 _ C) ?_;refine ly ?_;by_cases e3:y.no=z.no;rotate_left
    · refine aJ.split 92 C (fun h=>absurd fZ e3) (fun _=>?_)
      have ml:sw g m y c z=false:=by rw [o5,show decide (z.no=y.no)=false from decide_eq_false (fun e=>e3 e.symm)];simp
      rw [ml,if_neg ba] at ak;refine jN ?_;exact bn.mk c I ⟨by omega,ak⟩ (by repeat (first|exact trivial|refine ⟨⟨_,rfl,aM⟩,?_⟩|refine ⟨⟨_,rfl,aS.of_eq Bk⟩,?_⟩)) aY (by show c<c+1;omega)
    refine aJ.split 92 C (fun _=>?_) (fun h=>absurd e3 fZ);rw [show decide (z.no=y.no)=true from decide_eq_true e3.symm,Bool.true_and] at o5;refine ly ?_;refine aJ.j7 ai I C C C C C C a1 C (D1 2 _ C) ?_;refine ly ?_;by_cases pE:y.yes=z.yes;rotate_left
    · refine aJ.split 101 C (fun h=>absurd fZ pE) (fun _=>?_)
      have ml:sw g m y c z=false:=by rw [o5,show decide (z.yes=y.yes)=false from decide_eq_false (fun e=>pE e.symm)];simp
      rw [ml,if_neg ba] at ak;refine jN ?_;exact bn.mk c I ⟨by omega,ak⟩ (by repeat (first|exact trivial|refine ⟨⟨_,rfl,aM⟩,?_⟩|refine ⟨⟨_,rfl,aS.of_eq Bk⟩,?_⟩)) aY (by show c<c+1;omega)
    refine aJ.split 101 C (fun _=>?_) (fun h=>absurd pE fZ);rw [show decide (z.yes=y.yes)=true from decide_eq_true pE.symm,Bool.true_and] at o5;refine ly ?_;refine aJ.j7 ai I C C C C C C a1 C (D1 3 _ C) ?_;have NR:(z.ms==y.ms)=(y.ms==z.ms):=by rw [Bool.eq_iff_iff,beq_iff_eq,beq_iff_eq];exact ⟨fun h=>h.symm,fun h=>h.symm⟩
    cases r8:y.ms==z.ms with
    | false=>
      have ml:sw g m y c z=false:=by rw [o5,NR,r8]
      rw [r8] at heq;rw [ml,if_neg ba] at ak;refine bZ ?_;exact bn.mk c I ⟨by omega,ak⟩ (by repeat (first|exact trivial|refine ⟨⟨_,rfl,aM⟩,?_⟩|refine ⟨⟨_,rfl,aS.of_eq Bk⟩,?_⟩)) aY (by show c<c+1;omega)
    | true=>
      have ml:sw g m y c z=true:=by rw [o5,NR,r8]
      rw [ml,if_pos C] at ak;rw [ak] at aI;simp only [sy] at aI;rw [r8] at heq;refine c3 ?_;refine aa.fo ai m C C C C C C C C C C ag ?_;refine aa.j8 ai I _ C C C C C C C C C a1 (by rw [length_map,DV g hm];show m*1+1≤_;omega) C (fun I=>?_);have tx:eU (m*1) [.int .i64 ((m+(c+1):Nat):Int)] ((iL g (m+1)).map bb)=(iL g m).map bb:=by
        rw [pT,mul_one,← Nu aI C,map_set];rfl
      refine bB ?_;exact bn.mk (m,cs') I ⟨by omega,by rw [← NP];exact Bn⟩ (by repeat (first|exact trivial|refine ⟨⟨_,rfl,aM⟩,?_⟩|refine ⟨⟨_,rfl,aS.of_eq yn⟩,?_⟩)) (by simp only [oB,← tx];exact aY) (by show m<m+1;omega)
end Go.Proofs.YtnafpeohfbglmaaGreat
namespace Go.cW
section
variable {P:Program} {Γ:cz} {N:Nat} {l:List Oper} {i:Nat} {rest:List Oper} {Q:b8→Env→ao→Prop} {env:Env} {s:ao} {o:Oper} {d:Nat}
theorem aJ.rO {J:ao→Prop} (aP:bQ P Γ) {t bH e:TypeId} {x y:Operand} {it cw aG:bN} {dZ bU:Nat} {xs ys:List af} {own dk:bM} (aw:c9 l env o) (ax:o.dst=some d) (aW:Nat.blt d N=true)
  (ah:o.op = .call { callee := .builtin .append,args := #[x,y],argTypes := #[t,bH] }) (aN:Γ.get? t=some it) (bs:it.bG = .aC e) (cZ:Γ.get? bH=some cw) (dr:∀ k,cw.bG ≠ .int k)
  (bI:Γ.get? e=some aG) (ab:aL (b4 l env o) x=some (.aC dZ xs own)) (ay:aL (b4 l env o) y=some (.aC bU ys dk)) (hE:xs=[]∨dZ=aG.size) (c8:ys=[]∨bU=aG.size)
  (dV:Nat.beq aG.zero.cells.size aG.size=true) (dP:∀ y∈ys,kh aG.size y=true) (aq:(xs.length+ys.length)*aG.bytes≤140737488355328) (er:xs.length+ys.length≤9223372036854775807)
  (pL:own = .nil∨own = .clip) (h:aJ J P Γ N l (i+1) rest Q ((d,.aC aG.size (xs++ys) .bc)::env) s):aJ J P Γ N l i (o::rest) Q env s:=
 aJ.calm aw ax aW (fun _ _=>a7.rO aP ah aN bs cZ dr bI ab ay hE c8 dV dP aq er pL) h
end
end Go.cW
namespace Go.dv
def Ic (N:List b7) (order:List Int) (y:Int):Prop:=∀ x,N[y.toNat]? = some x→x.atom≥0→x.no∈order∧x.yes∈order
theorem Ic.mono {N:List b7} {o o':List Int} {y:Int} (h:Ic N o y) (au:∀ z∈o,z∈o'):Ic N o' y:=fun x ab a8=>⟨au _ (h x ab a8).1,au _ (h x ab a8).2⟩
theorem Ie {order:List Int} (az:order.Nodup) {i:Nat} {x:Int} (ab:order[i]? = some x):placeOf order x=(i:Int):=by
 obtain ⟨U,ae⟩:=List.getElem?_eq_some_iff.1 ab;have:order.findIdx? (· == x)=some i:=by
  rw [List.findIdx?_eq_some_iff_getElem];refine ⟨U,by rw [ae];simp,fun j aK=>?_⟩;rw [Bool.not_eq_true,beq_eq_false_iff_ne];intro he;have:=(List.getElem_inj az).1 (he.trans ae.symm);omega
 unfold placeOf;rw [this];rfl
end Go.dv
namespace Go.cW
section
variable {P:Program} {Γ:cz} {N:Nat} {env:Env} {s:ao} {Q:b8→Env→ao→Prop} {L R:a'}
theorem dz.Ig {B:fP} {ro:Option Nat} {a:Act} {w:World} {p:bT} (h:dz N B ro env s a w p) {t b n cap sz:Nat} {T:TypeId} {cs:List af} {xss:List (List af)} (aN:env.get? t=some (eu b n cap)) (au:s b=some (.box T cs)) (ab:cs.take (n*sz)=xss.flatten) (e7:xss.length=n) (ca:∀ c∈xss,c.length=sz) (az:n≤cap) (hm:n≤9223372036854775807):∃ bk,dz N B ro ((t,.aC sz (xss.map af.agg) .bc)::env) (s.del b) a w bk∧de w p w bk∧Kept s (s.del b) w p w bk:=by
 have Fq:dz N B ro ((a.tmps.size,.any)::[]) s a w p:=h.restrict _ (fun t v av=>by
  simp only [Env.get?] at av
  split at av
  ·cases av;exact .any _
  ·cases av)
 obtain ⟨vs,U,ae,an⟩:=h.wf.obj _ _ au;have ar:b<w.heap.size:=(Array.getElem?_eq_some_iff.1 U).1;have hle:de w p w (p.ej b True):=⟨rfl,rfl,rfl,le_refl _,fun _ _ h => .inl h,fun _ _ _=>rfl,fun _ _ h=>h⟩
 have aD:Kept s (s.del b) w p w (p.ej b True):=⟨fun _ _ _=>rfl,fun aX aq az=>by
  by_cases e:aX=b
  ·subst e;exact ao.nr _ _
  ·rw [ao.mN _ e];exact az,fun aX o aq az aE=>by
   rcases aE with aE|⟨rfl,_⟩
   ·exact aE
   ·rw [au] at az;cases az⟩
 have cd:dq w (p.ej b True) (s.del b):=by
  refine ⟨fun aX o aq=>?_,fun aX o aE=>by rcases aE with aE|⟨rfl,_⟩;exact h.wf.lt _ _ aE;exact ar⟩;by_cases e:aX=b
  ·subst e;rw [ao.nr] at aq;cases aq
  ·rw [ao.mN _ e] at aq
   have ah:=h.wf.obj aX o aq;have e9:∀ o,p.ej b True aX o↔p aX o:=fun o=>⟨fun aE=>by rcases aE with aE|⟨e',_⟩;exact aE;exact absurd e' e,.inl⟩
   cases o with
   | box t c=>obtain ⟨us,g1,g2,g3⟩:=ah;exact ⟨us,g1,g2.mono hle,fun o aE=>g3 o ((e9 o).1 aE)⟩
   | row t sz n=>obtain ⟨cur,g1,g2,g3,g4⟩:=ah;exact ⟨cur,g1,g2,g3,fun o=>(e9 o).trans (g4 o)⟩
   | map es=>obtain ⟨cM,c,g1,g2,g3⟩:=ah;exact ⟨cM,c,g1,⟨g2.1.mono hle,g2.2.mono hle⟩,g3⟩
   | ll es it l c=>exact ah.qm hle C C
   | tick m=>exact ah
   | loop r env=>exact ⟨ah.1,fun t v h=>(ah.2 t v h).mono hle⟩
 have aI:=h.step hle aD cd;refine ⟨_,⟨aI.size,fun bH v av=>?_,aI.wf,aI.defs,aI.round,aI.base⟩,hle,aD⟩;simp only [Env.get?] at av;split at av
 ·rename_i he
  have:=eq_of_beq_eq_true he;subst this;cases av;have aF:=h.env t _ aN;generalize a.tmps.getD t undef=dX at aF;cases aF;have hH:=ae.take (n*sz);rw [ab] at hH;obtain ⟨us,cb,b1,eV⟩:=FY hH ca;refine .aC b 0 n cap sz us (xss.map af.agg) .bc ba (by rw [length_map,e7]) ?_ (cb.mono hle) eV hm az (fun h=>by cases h) (fun b h=>by cases h);rw [b1];intro i v aQ;refine ⟨.inr ⟨rfl,trivial⟩,?_⟩;rw [zero_add,jJ U];rw [List.getElem?_take] at aQ;split at aQ
  ·simpa using aQ
  ·cases aQ
 ·exact aI.env bH v av
theorem ad.Ig {c:Code} (I:Ok s L) (t b:Nat) {n cap sz:Nat} {T:TypeId} {cs:List af} {xss:List (List af)} (aN:env.get? t=some (eu b n cap)) (au:bp L (.own b) (.box T cs) R) (ab:cs.take (n*sz)=xss.flatten) (e7:xss.length=n) (ca:∀ c∈xss,c.length=sz) (az:n≤cap) (hm:n≤9223372036854775807)
  (h:Ok s R→ad P N c Q ((t,.aC sz (xss.map af.agg) .bc)::env) (aT s R)):ad P N c Q env (aT s L):=by
 obtain ⟨U,ae⟩:=au.del I;intro tl B a w p eZ aI;obtain ⟨bk,an,bd,bD⟩:=aI.Ig aN (au.get I) ab e7 ca az hm;rw [U] at an bD;exact mc (h ae tl B a w bk eZ an) fun _ _ _ q=>q.after bd bD
end
end Go.cW
namespace Go.Proofs.YtnafpeohfbglmaaGreat
open Go.cW Go.dv
def Bo (n:Nat) (order:List Int) (j:Nat) (R:List Int):Prop:=R.length=n∧∀ (i:Nat) (x:Int),i<j→order[i]? = some x→R[x.toNat]? = some ((order.length:Int)-1-i)
theorem Bo.step {n:Nat} {order:List Int} (ah:po n order) {j:Nat} {R:List Int} (h:Bo n order j R) {a:Nat} (a8:order[j]? = some (a:Int)):Bo n order (j+1) (R.set a ((order.length:Int)-1-j)):=by
 have k3:=ah.lt _ (mem_of_getElem? a8);refine ⟨by rw [length_set];exact h.1,fun i x aQ ab=>?_⟩;have e7:=ah.lt _ (mem_of_getElem? ab);by_cases eN:i=j
 ·subst eN
  rw [a8] at ab;cases ab;rw [toNat_natCast,List.getElem?_set_self (by rw [h.1];omega)]
 ·have cO:x≠(a:Int):=fun e=>by
   have U:=Ie ah.nodup ab;have ae:=Ie ah.nodup a8;rw [e,ae] at U;omega
  rw [List.getElem?_set_ne ag];exact h.2 i x ag ab
theorem Bo.all {n:Nat} {order:List Int} (ah:po n order) {R:List Int} (h:Bo n order order.length R) {x:Int} (ab:x∈order):R[x.toNat]? = some ((order.length:Int)-1-placeOf order x):=by
 obtain ⟨i,aQ⟩:=getElem?_of_mem ab;rw [Ie ah.nodup aQ];exact h.2 i x (List.getElem?_eq_some_iff.1 aQ).1 aQ
theorem XU (p:bP) (aE:fN p) (x:iU) (size:Int):aR Tryz.prog 227 [cJ p,jj x,.int .i64 size] (.bool (m6 p x size)):=by
 have aq:=bC;refine aR.bj ai Tryz.func227 C C fun s I=>?_
 have ct:=aE.cls;have jO:=aE.dw;have U:=LW x.n;have df:IntKind.wrap .i64 (3+((p.cl.map ji).length:Int))=3+(p.cl.length:Int):=by rw [length_map,eo ag ag]
 unfold cJ cL jj k4 bg;by_cases aF:x.op=1∨x.op=3∨x.op=4∨x.op=7∨x.op=6∨x.op=8∨x.op=5
 ·rcases aF with h|h|h|h|h|h|h
  all_goals
   have hm:m6 p x size=m6 p x size:=rfl
   conv at hm=>rhs;unfold m6
   rw [h] at hm ⊢;simp only [Int.reduceEq,if_true,if_false,true_or,or_true,or_self,reduceIte] at hm;rw [hm]
   repeat' (first|(with_reducible first|apply ad.seq|apply bY|apply fm|apply fg|apply gG|apply ad.ret|apply ad.skip|apply ad.block)|refine cT C ?_|refine ad.cB ?_|refine aa.nil ?_|refine ad.e8 C ?_|refine ad.gr C ?_|refine cx C ?_|refine aa.skip C C C ?_|refine aa.dQ C C C C C ch ?_|(fail_if_success refine aa.same true C ?_);(fail_if_success refine aa.same false C ?_);refine aa.gA C C (fun h=>?_) (fun h=>?_))
  all_goals (refine Fin.cp I C (aS.of_eq (congrArg af.bool ?_));clear I U;(try simp only [length_map] at *)<;>grind)
 ·have hm:m6 p x size=(decide (x.n≥0)&&decide (x.n<1)):=by
   unfold m6;rw [if_neg ag,if_neg ag,if_neg ag,if_neg ag,if_neg ag]
  rw [hm]
  repeat (first|(refine CT ?_)|refine ad.cond C (fun h=>absurd h (by first|(simp;done)|(simp;omega))) (fun _=>?_))
  repeat' (first|(with_reducible first|apply bY|apply ad.ret)|refine aa.nil ?_|refine cx C ?_|refine aa.skip C C C ?_|(fail_if_success refine aa.same true C ?_);(fail_if_success refine aa.same false C ?_);refine aa.gA C C (fun h=>?_) (fun h=>?_))
  all_goals (refine Fin.cp I C (aS.of_eq (congrArg af.bool ?_));clear I U;grind)
theorem XV (w:bx):∀ (n:Nat) (f:aj),f.size≤n→n<bu→gi w f=true→aR Tryz.prog 230 [f.bJ] (.int .i64 (iW f)):=by
 have aq:=bC;intro n
 induction n with
 | zero=>intro x h;have:=x.size_eq;omega
 | succ n a6=>
  intro f az iP aw;refine aR.bj ai Tryz.func230 C C fun s I=>?_
  have iv:=f.size_eq;have hlen:=aj.pP f.kids;rw [m0,and_eq_true] at aw;rw [aj.bW];rw [Ag];have a8:f.cU=true→IntKind.wrap .i64 (f.arg+1)=f.arg+1:=fun aB=>by
   have az:=aw.1;simp only [h3,aB,if_true,and_eq_true,decide_eq_true_eq] at az;exact eo ag ag
  unfold aj.cells;cases aB:f.cU with
  | true=>
   have XW:f.op=2∨f.op=3∨f.op=4:=by unfold aj.cU at aB;simp at aB;omega
   rcases XW with h|h|h
   ·rw [h]
    refine bB ?_;refine ad.b0 [24,23] C I (σ:=Nat) (fun j=>[(25,.int .i64 (j:Int)),(3,.int .i64 (ia (if f.cU then f.arg+1 else 0) (f.kids.take j)))]) (fun _=>[]) (fun j=>j≤f.kids.length) (fun j=>f.kids.length-j) 0 (zero_le _) (by repeat (first|exact trivial|refine ⟨⟨_,rfl,aM⟩,?_⟩|refine ⟨⟨_,rfl,aS.of_eq uQ⟩,?_⟩)) aY ?_;rintro j aK I;refine b2 ?_;refine ad.cond C (fun ar=>?_) (fun aV=>?_);rotate_left
    ·have aV:j=f.kids.length:=by simp at aV;omega
     subst aV;rw [take_length];refine dB ?_;exact Fin.cp I C (aS.of_eq (by rw [aB]))
    have ar:j<f.kids.length:=by simpa using ar
    obtain ⟨k,aD,eG⟩:=bV (f:=aj.bJ) ar;have hm:=aj.hx (mem_of_getElem? aD);have aA:=a6 k ag ag (jy aw.2 (mem_of_getElem? aD));rw [aj.bW] at eG aA;refine ea ?_;refine bn.mk (j+1) I ar (by repeat (first|exact trivial|refine ⟨⟨_,rfl,aM⟩,?_⟩|refine ⟨⟨_,rfl,aS.of_eq uP⟩,?_⟩)) aY yB
   ·rw [h]
    refine bB ?_;refine ad.b0 [24,23] C I (σ:=Nat) (fun j=>[(25,.int .i64 (j:Int)),(3,.int .i64 (ia (if f.cU then f.arg+1 else 0) (f.kids.take j)))]) (fun _=>[]) (fun j=>j≤f.kids.length) (fun j=>f.kids.length-j) 0 (zero_le _) (by repeat (first|exact trivial|refine ⟨⟨_,rfl,aM⟩,?_⟩|refine ⟨⟨_,rfl,aS.of_eq uQ⟩,?_⟩)) aY ?_;rintro j aK I;refine b2 ?_;refine ad.cond C (fun ar=>?_) (fun aV=>?_);rotate_left
    ·have aV:j=f.kids.length:=by simp at aV;omega
     subst aV;rw [take_length];refine dB ?_;exact Fin.cp I C (aS.of_eq (by rw [aB]))
    have ar:j<f.kids.length:=by simpa using ar
    obtain ⟨k,aD,eG⟩:=bV (f:=aj.bJ) ar;have hm:=aj.hx (mem_of_getElem? aD);have aA:=a6 k ag ag (jy aw.2 (mem_of_getElem? aD));rw [aj.bW] at eG aA;refine ea ?_;refine bn.mk (j+1) I ar (by repeat (first|exact trivial|refine ⟨⟨_,rfl,aM⟩,?_⟩|refine ⟨⟨_,rfl,aS.of_eq uP⟩,?_⟩)) aY yB
   ·rw [h]
    refine bB ?_;refine ad.b0 [24,23] C I (σ:=Nat) (fun j=>[(25,.int .i64 (j:Int)),(3,.int .i64 (ia (if f.cU then f.arg+1 else 0) (f.kids.take j)))]) (fun _=>[]) (fun j=>j≤f.kids.length) (fun j=>f.kids.length-j) 0 (zero_le _) (by repeat (first|exact trivial|refine ⟨⟨_,rfl,aM⟩,?_⟩|refine ⟨⟨_,rfl,aS.of_eq uQ⟩,?_⟩)) aY ?_;rintro j aK I;refine b2 ?_;refine ad.cond C (fun ar=>?_) (fun aV=>?_);rotate_left
    ·have aV:j=f.kids.length:=by simp at aV;omega
     subst aV;rw [take_length];refine dB ?_;exact Fin.cp I C (aS.of_eq (by rw [aB]))
    have ar:j<f.kids.length:=by simpa using ar
    obtain ⟨k,aD,eG⟩:=bV (f:=aj.bJ) ar;have hm:=aj.hx (mem_of_getElem? aD);have aA:=a6 k ag ag (jy aw.2 (mem_of_getElem? aD));rw [aj.bW] at eG aA;refine ea ?_;refine bn.mk (j+1) I ar (by repeat (first|exact trivial|refine ⟨⟨_,rfl,aM⟩,?_⟩|refine ⟨⟨_,rfl,aS.of_eq uP⟩,?_⟩)) aY yB
  | false=>
   have ae:(f.op==2)=false:=by unfold aj.cU at aB;simp at aB ⊢;omega
   have an:(f.op==3)=false:=by unfold aj.cU at aB;simp at aB ⊢;omega
   have bd:(f.op==4)=false:=by unfold aj.cU at aB;simp at aB ⊢;omega
   refine dL ?_;refine aa.c2 9 C ae ?_;refine dS ?_;refine aa.c2 14 C an ?_;refine fI ?_;refine ad.cond C (fun h=>by rw [bd] at h;cases h) (fun _=>?_);refine jh ?_;refine ad.b0 [24,23] C I (σ:=Nat) (fun j=>[(25,.int .i64 (j:Int)),(3,.int .i64 (ia (if f.cU then f.arg+1 else 0) (f.kids.take j)))]) (fun _=>[]) (fun j=>j≤f.kids.length) (fun j=>f.kids.length-j) 0 (zero_le _) (by repeat (first|exact trivial|refine ⟨⟨_,rfl,aM⟩,?_⟩|refine ⟨⟨_,rfl,aS.of_eq uQ⟩,?_⟩)) aY ?_;rintro j aK I;refine b2 ?_;refine ad.cond C (fun ar=>?_) (fun aV=>?_);rotate_left
   ·have aV:j=f.kids.length:=by simp at aV;omega
    subst aV;rw [take_length];refine dB ?_;exact Fin.cp I C (aS.of_eq (by rw [aB]))
   have ar:j<f.kids.length:=by simpa using ar
   obtain ⟨k,aD,eG⟩:=bV (f:=aj.bJ) ar;have hm:=aj.hx (mem_of_getElem? aD);have aA:=a6 k ag ag (jy aw.2 (mem_of_getElem? aD));rw [aj.bW] at eG aA;refine ea ?_;refine bn.mk (j+1) I ar (by repeat (first|exact trivial|refine ⟨⟨_,rfl,aM⟩,?_⟩|refine ⟨⟨_,rfl,aS.of_eq uP⟩,?_⟩)) aY yB
theorem XX (w:World):(Instr.typeAssert .nilIface 20 291 true).run Tryz.prog w = .ok (.tuple #[.agg #[],.bool false]) w:=by kernel_rfl
theorem XY (w:World):(Instr.typeAssert (.iface 291 (.agg #[])) 20 291 true).run Tryz.prog w = .ok (.tuple #[.agg #[],.bool true]) w:=by kernel_rfl
theorem XZ (b:Nat) (w:World) :
  CallsD Tryz.prog 247 #[.pointer (some ⟨b,0,none⟩)] .returning w fun e jZ w'=>e = .returned (.tuple #[])∧jZ = .returning∧w'=w.alloc (.cells #[] 291):=by
 refine callsD_of_wpS Tryz.func247 C fun xq cs hu=>?_
 apply wpS_seq;apply wpS_region;simp [wpOpsS,go_sem,recoverD,hu,Tryz.ntmps247, Exit.thenS,XX];refine wpS_of_wp ?_;go_wp2;cases xq;simp_all [bodyPostS,results,Tryz.results247, Exit.thenS]
theorem X0 (b:Nat) (w:World) (rest:List PanicEntry) (x:Value) (aq:w.heap[b]? = some (.cells #[x] 4 (0,0))) :
  CallsD Tryz.prog 247 #[.pointer (some ⟨b,0,none⟩)] (.panicking ({ v := .iface 291 (.agg #[]),recovered:=false }::rest)) w
   fun o jZ w'=>o = .returned (.tuple #[])∧jZ = .panicking ({ v := .iface 291 (.agg #[]),recovered:=true }::rest)∧w'=(w.alloc (.cells #[] 291)).setRow b #[.bool false]:=by
 refine callsD_of_wpS Tryz.func247 C fun xq cs hu=>?_
 apply wpS_seq;apply wpS_region;simp [wpOpsS,go_sem,recoverD,hu,Tryz.ntmps247, Exit.thenS,XY];have dO:=(mg w (.cells #[] 291) b (Array.getElem?_eq_some_iff.1 aq).1).trans aq;have dh:(w.alloc (.cells #[] 291)).cell? ⟨b,0,none⟩=some x:=by rw [jJ dO];rfl
 have pE:(w.alloc (.cells #[] 291)).frozen? ⟨b,0,none⟩=false:=by simp [World.frozen?,dO]
 have r8:=Ld (x := .bool false) dO;generalize w.alloc (.cells #[] 291)=df at dh pE r8 ⊢;refine wpS_of_wp ?_;go_wp2;cases xq;simp_all [bodyPostS,results,Tryz.results247, Exit.thenS]
theorem D2 {w:World} {p:bT} {v:Value} {b o:Nat} (h:Rel w p v (.ptr b o)):v = .pointer (some ⟨b,o,none⟩):=by cases h;rfl
theorem X1 {w:World} {p:bT} {x:Value} (h:Rel w p x HF):x = .iface 291 (.agg #[]):=by
 cases h with
 | iface _ y _ h=>
 cases h with
 | agg cs xs h=>
 generalize hD:cs.toList=l at h;cases h;have:cs = #[]:=by rw [← toArray_toList (xs:=cs),hD]
 rw [this]
def X2 (pO:ao) (n:Nat) (r:Bool):b8→Env→ao→Prop
 | .ret,env,al=>env.get? 4=some (.ptr n 0)∧r=true∧∃ M,al=aT pO M∧Ok pO M∧∃ R,bp M (.own n) (.box 4 [.bool true]) R
 | .panic x,env,al=>env.get? 4=some (.ptr n 0)∧r=false∧x=HF∧∃ M,al=aT pO M∧Ok pO M∧∃ y R,bp M (.own n) (.box 4 [y]) R
 | _,_,_=>False
theorem X3 (lZ:bx) (hw:fT lZ) (l:List cg) (aB:3*l.length+3<bu) (ab:∀ x∈l,tG lZ x):aR Tryz.prog 211 [gn lZ,p6 l] (.bool (nb lZ (ev l))):=by
 intro s;refine ⟨call211, fun w p vs cd eR=>?_⟩;cases eR with
 | cons v0 _ vs _ br aN=>
 cases aN with
 | cons v1 _ vs _ U aN=>
 cases aN;unfold sJ;refine Kv (T:=[{ target := .fn (.func 247) #[.pointer (some ⟨w.heap.size,0,none⟩)],args := #[] }]) Tryz.func211 C ?_;go_wp2;intro b uA eZ;obtain ⟨az,hle,aD,D3⟩:=rD cd (.cells #[Value.bool false] 4) (.box 4 [.bool false]) (fun w' U ae an=>⟨#[.bool false],U,an _ _ (.cons _ _ _ _ (.bool _) .nil),fun o aE=>absurd (cd.lt _ _ aE) ag⟩);refine mc (ad.use (N:=10) (env:=[(0,gn lZ),(1,p6 l),(4,.ptr w.heap.size 0)]) (s:=aT s [(.own w.heap.size,.box 4 [.bool false])]) (Q:=X2 s w.heap.size (nb lZ (ev l))) (B:=(w.heap.size+1,[{ target := .fn (.func 247) #[.pointer (some ⟨w.heap.size,0,none⟩)],args := #[] }])) (p:=p) ?_ (by rw [eZ];rfl) ⟨by simp,fun t v av=>?_,D3,⟨[],by simp [marksOf],by simp,by simp⟩,fun l aB=>(by rw [uA] at aB;cases aB),by simp⟩) ?_
 ·have I:Ok s [(.own w.heap.size,.box 4 [.bool false])]:=⟨az,trivial⟩
  generalize w.heap.size=n at I ⊢;have aI:=Wv lZ hw.iV l aB ab;have NS:=Wd (w:=lZ) (l:=l) (fun x h=>⟨(ab x h).node,(ab x h).leaf⟩);refine jM ?_;refine aa.b9 rfl rfl rfl rfl rfl aI I .nil ?_ (fun _ _ ⟨_,h,_⟩ _=>by cases h);rintro _ _ ⟨mb,⟨⟩,es,rfl,cH⟩ I;have cj:u9 (3*l.length) (ev l):=⟨fun arg path h=>(NS (bw arg path)).1 (by show 2≤(path.length:Int);omega),cH.mE⟩;have gO:DH lZ (ev l):=⟨fun q=>(NS q).2⟩;have yM:=WU lZ hw mb (3*l.length) ag (ev l) cj gO (E:=[]) (mF (ev l) mb es) ⟨es,rfl,cH⟩;skip;refine aa.b9 C C C C C yM I (aH.jx (aH.all _)) ?_ ?_
  ·rintro _ aO ⟨ah,dy,rfl,jl⟩ I
   cases hm:nb lZ (ev l) with
   | false=>rw [hm] at ah;cases ah
   | true=>
    have au:=bp.app (mF (ev l) mb dy) (bp.here (L:=[]) (k := .own n) (o := .box 4 [.bool false]));rw [nil_append] at I;refine aa.mq I [(.own n,.box 4 [.bool false])] (.cons au .nil) (fun I=>?_);refine cG I ?_;intro I;exact ⟨rfl,rfl,_,rfl,I,_,.here⟩
  ·rintro x aO ⟨ah,dy,rfl,jl⟩ I
   cases hm:nb lZ (ev l) with
   | true=>rw [hm] at ah;cases ah
   | false=>
    rw [hm] at ah;cases ah;exact ⟨rfl,rfl,rfl,_,rfl,I,_,_,bp.app _ .here⟩
 ·simp only [Env.get?] at av
  split at av
  ·rename_i e;cases av;obtain rfl:=eq_of_beq_eq_true e
   exact br.mono hle
  split at av
  ·rename_i e;cases av;obtain rfl:=eq_of_beq_eq_true e
   exact U.mono hle
  split at av
  ·rename_i e;cases av;obtain rfl:=eq_of_beq_eq_true e
   simp [getD_eq_getD_getElem?];exact .ptr _ 0
  ·cases av
 ·rintro e da w' ⟨x,eT,al,bk,bL,bq,hR,zK,eG⟩
  obtain ⟨cc,s7,eY,fb⟩:=hR.defs;obtain ⟨cb,b1,eV,nV⟩:=Fi cc w' hR.wf (fun d ax=>⟨_,(fb d ax).2.1⟩);have bK:de w p (hq w' cc) bk:=(hle.trans zK).trans cb;have uB:=aD.trans hle.size eG;have bh:Kept s s w p (hq w' cc) bk:=⟨fun aX dO gd=>(eV aX (fun hm=>by have:=(fb aX hm).1;simp only at this;omega)).trans (uB.heap aX dO gd),fun _ _ h=>h,uB.lk⟩;have di:=uf b1.lt (.cells #[] 291) True;have a2:=B2 (s:=s) (w:=hq w' cc) (p:=bk) (.cells #[] 291) True;cases bL with
  | exit id=>exact bq.elim
  | normal=>exact bq.elim
  | ret=>
   obtain ⟨bd,aF,M,rfl,iR,R,oC⟩:=bq;have xr:=b1.sub iR.sub;obtain ⟨cq,mB,h7,Bp⟩:=b1.obj _ _ (oC.get iR);have Bq:cq = #[.bool true]:=by
    generalize aB:cq.toList=Cr at h7;cases h7 with
    | cons v _ vs _ av aN=>
    cases aN;cases av;rw [← toArray_toList (xs:=cq),aB]
   subst Bq;have ar:w.heap.size<(hq w' cc).heap.size:=(Array.getElem?_eq_some_iff.1 mB).1;have Br:=(mg (hq w' cc) (.cells #[] 291) w.heap.size ar).trans mB;have jH:((hq w' cc).alloc (.cells #[] 291)).cell? ⟨w.heap.size,0,none⟩=some (.bool true):=by rw [jJ Br];rfl
   refine ⟨cc,s7,eY,fun d ax=>(fb d ax).2.1,?_⟩;refine leaves_cons (f := 247) (args := #[.pointer (some ⟨w.heap.size,0,none⟩)]) ba (by simp [go_sem]) ?_;refine (XZ w.heap.size _).mono ?_;rintro e jZ me ⟨rfl,rfl,rfl⟩;have xt:da.tmps[4]?.getD undef = .pointer (some ⟨w.heap.size,0,none⟩):=by
    have:=hR.env 4 _ bd;rw [getD_eq_getD_getElem?] at this;exact D2 this
   refine ⟨.bool true,by simp [results,Tryz.results211, go_sem,jH,xt],by simp,.ret (.bool true),s,_,.bool _,⟨by rw [aF],rfl⟩,bK.trans di,bh.trans bK.size a2,zn xr _ True⟩
  | panic v x dF kW av=>
   obtain ⟨bd,aF,rfl,M,rfl,iR,y,R,oC⟩:=bq;obtain ⟨rest,rfl,Ih⟩:=kW;obtain rfl:=X1 av;have xr:=b1.sub iR.sub;obtain ⟨cq,mB,h7,Bp⟩:=b1.obj _ _ (oC.get iR);obtain ⟨bv,rfl⟩:∃ bv,cq = #[bv]:=by
    generalize aB:cq.toList=Cr at h7;cases h7 with
    | cons v _ vs _ av aN=>
    cases aN;exact ⟨v,by rw [← toArray_toList (xs:=cq),aB]⟩
   have ar:w.heap.size<(hq w' cc).heap.size:=(Array.getElem?_eq_some_iff.1 mB).1;have Br:=(mg (hq w' cc) (.cells #[] 291) w.heap.size ar).trans mB;have xt:da.tmps[4]?.getD undef = .pointer (some ⟨w.heap.size,0,none⟩):=by
    have:=hR.env 4 _ bd;rw [getD_eq_getD_getElem?] at this;exact D2 this
   obtain ⟨ek,dj,dT,mO,s5⟩:=Lc (bK.trans di) (bh.trans bK.size a2) (zn xr _ True) Br (le_refl _) (fun o aE=>by
    rcases aE with aE|⟨e,-⟩
    ·exact Bp o aE
    ·omega) az (.bool false)
   have jH:(((hq w' cc).alloc (.cells #[] 291)).setRow w.heap.size #[.bool false]).cell? ⟨w.heap.size,0,none⟩=some (.bool false):=by rw [jJ s5];rfl
   refine ⟨cc,s7,eY,fun d ax=>(fb d ax).2.1,?_⟩;refine leaves_cons (f := 247) (args := #[.pointer (some ⟨w.heap.size,0,none⟩)]) ba (by simp [go_sem]) ?_;refine (X0 w.heap.size _ rest bv mB).mono ?_;rintro e jZ me ⟨rfl,rfl,rfl⟩;have Ii:=Gj Ih;simp only [settle,Ii];refine ⟨.bool false,by simp [results,Tryz.results211, go_sem,jH,xt],by simp,.ret (.bool false),s,_,.bool _,⟨by rw [aF],rfl⟩,ek,dj,dT⟩
theorem X4 {w:World} {p:bT} {x:Value} (h:Rel w p x tA):x = .iface 298 (.agg #[]):=by
 cases h with
 | iface _ y _ h=>
 cases h with
 | agg cs xs h=>
 generalize hD:cs.toList=l at h;cases h;have:cs = #[]:=by rw [← toArray_toList (xs:=cs),hD]
 rw [this]
theorem X5 (w:World):(Instr.typeAssert (.iface 298 (.agg #[])) 20 298 true).run Tryz.prog w = .ok (.tuple #[.agg #[],.bool true]) w:=by kernel_rfl
theorem X6 (w:World):(binOp BinOp.neq 20 (.iface 298 (.agg #[])) .nilIface).run Tryz.prog w = .ok (.bool true) w:=by kernel_rfl
theorem X7 (x y:Operand) (w:World):(eqGuard BinOp.neq 20 x y (.iface 298 (.agg #[])) .nilIface).run Tryz.prog w = .ok () w:=by
 unfold eqGuard;simp
theorem X8 (b:Nat) (w:World) :
  CallsD Tryz.prog 253 #[.pointer (some ⟨b,0,none⟩)] .returning w fun e jZ w'=>e = .returned (.tuple #[])∧jZ = .returning∧w'=w:=by
 refine callsD_of_wpS Tryz.func253 C fun xq cs hu=>?_
 apply wpS_seq;apply wpS_region;simp [wpOpsS,go_sem,recoverD,hu,Tryz.ntmps253, Exit.thenS];refine wpS_of_wp ?_;go_wp2;cases xq;simp_all [bodyPostS,results,Tryz.results253, Exit.thenS]
theorem X9 (b:Nat) (w:World) (rest:List PanicEntry) (x:Value) (aq:w.heap[b]? = some (.cells #[x] 4 (0,0))) :
  CallsD Tryz.prog 253 #[.pointer (some ⟨b,0,none⟩)] (.panicking ({ v := .iface 298 (.agg #[]),recovered:=false }::rest)) w
   fun o jZ w'=>o = .returned (.tuple #[])∧jZ = .panicking ({ v := .iface 298 (.agg #[]),recovered:=true }::rest)∧w'=(w.alloc (.cells #[] 298)).setRow b #[.bool false]:=by
 refine callsD_of_wpS Tryz.func253 C fun xq cs hu=>?_
 apply wpS_seq;apply wpS_region;simp [wpOpsS,go_sem,recoverD,hu,Tryz.ntmps253, Exit.thenS];apply wpS_seq;apply wpS_region;simp [wpOpsS,go_sem,Exit.thenS,X7,X6];refine wpS_cond (t:=true) (by simp [Act.eval,Act.put]) ?_;simp only [if_true]
 repeat apply wpS_seq
 apply wpS_region;simp [wpOpsS,go_sem,Exit.thenS,X5];have dO:=(mg w (.cells #[] 298) b (Array.getElem?_eq_some_iff.1 aq).1).trans aq;have dh:(w.alloc (.cells #[] 298)).cell? ⟨b,0,none⟩=some x:=by rw [jJ dO];rfl
 have pE:(w.alloc (.cells #[] 298)).frozen? ⟨b,0,none⟩=false:=by simp [World.frozen?,dO]
 have r8:=Ld (x := .bool false) dO;generalize w.alloc (.cells #[] 298)=df at dh pE r8 ⊢
 repeat apply wpS_seq
 apply wpS_region;simp [wpOpsS,go_sem,Exit.thenS];refine wpS_of_wp ?_;go_wp2;cases xq;simp_all [bodyPostS,results,Tryz.results253, Exit.thenS];refine wpS_of_wp ?_;go_wp2;simp_all [bodyPostS,results,Tryz.results253, Exit.thenS]
def X' (pO:ao) (n:Nat) (G B:a'→Prop):b8→Env→ao→Prop
 | .ret,env,al=>env.get? 2=some (.ptr n 0)∧∃ M,al=aT pO M∧Ok pO M∧∃ K,G K∧bp M (.own n) (.box 4 [.bool true]) K
 | .panic x,env,al=>env.get? 2=some (.ptr n 0)∧x=tA∧∃ M,al=aT pO M∧Ok pO M∧∃ y K,B K∧bp M (.own n) (.box 4 [y]) K
 | _,_,_=>False
theorem Ya (f:FuncId) (first cap:List af) (mZ:a') (G B:a'→Prop) (h:dt Tryz.prog (.func f first cap) [] mZ (fun o K=>(o = .ret (.cu [])∧G K)∨(o = .panic tA∧B K))) :
  bE Tryz.prog 220 [.func f first cap] mZ (fun o K=>(o = .ret (.bool true)∧G K)∨(o = .ret (.bool false)∧B K)):=by
 intro s Yb;refine ⟨call220, fun w p vs cd eR=>?_⟩;cases eR with
 | cons v0 _ vs _ br aN=>
 cases aN;unfold sJ;refine Kv (T:=[{ target := .fn (.func 253) #[.pointer (some ⟨w.heap.size,0,none⟩)],args := #[] }]) Tryz.func220 C ?_;go_wp2;intro b uA eZ;obtain ⟨az,hle,aD,D3⟩:=rD cd (.cells #[Value.bool false] 4) (.box 4 [.bool false]) (fun w' U ae an=>⟨#[.bool false],U,an _ _ (.cons _ _ _ _ (.bool _) .nil),fun o aE=>absurd (cd.lt _ _ aE) ag⟩);have I:Ok s ((.own w.heap.size,.box 4 [.bool false])::mZ):=⟨az,Yb⟩;refine mc (ad.use (N:=6) (env:=[(0,.func f first cap),(2,.ptr w.heap.size 0)]) (s:=aT s ((.own w.heap.size,.box 4 [.bool false])::mZ)) (Q:=X' s w.heap.size G B) (B:=(w.heap.size+1,[{ target := .fn (.func 253) #[.pointer (some ⟨w.heap.size,0,none⟩)],args := #[] }])) (p:=p) ?_ (by rw [eZ];rfl) ⟨by simp,fun t v av=>?_,D3,⟨[],by simp [marksOf],by simp,by simp⟩,fun l aB=>(by rw [uA] at aB;cases aB),by simp⟩) ?_
 ·clear aD D3 az
  generalize w.heap.size=n at I ⊢;refine jM ?_;refine aa.gM C C C C C C h I (aH.there (e:=(.own n,.box 4 [.bool false])) (aH.all mZ)) ?_ ?_
  ·rintro _ aO (⟨⟨⟩,dE⟩|⟨h,_⟩) I
   ·have au:=bp.app aO (bp.here (L:=[]) (k := .own n) (o := .box 4 [.bool false]))
    rw [append_nil] at au;refine cG I ?_;intro I;exact ⟨rfl,_,rfl,I,aO,dE,.here⟩
   ·cases h
  ·rintro x aO (⟨h,_⟩|⟨⟨⟩,cH⟩) I
   ·cases h
   exact ⟨rfl,rfl,_,rfl,I,_,aO,cH,by have:=bp.app aO (bp.here (L:=[]) (k := .own n) (o := .box 4 [.bool false]));rw [append_nil] at this;exact this⟩
 ·simp only [Env.get?] at av
  split at av
  ·rename_i e;cases av;obtain rfl:=eq_of_beq_eq_true e
   exact br.mono hle
  split at av
  ·rename_i e;cases av;obtain rfl:=eq_of_beq_eq_true e
   simp [getD_eq_getD_getElem?];exact .ptr _ 0
  ·cases av
 ·rintro e da w' ⟨x,eT,al,bk,bL,bq,hR,zK,eG⟩
  obtain ⟨cc,s7,eY,fb⟩:=hR.defs;obtain ⟨cb,b1,eV,nV⟩:=Fi cc w' hR.wf (fun d ax=>⟨_,(fb d ax).2.1⟩);have bK:de w p (hq w' cc) bk:=(hle.trans zK).trans cb;have uB:=aD.trans hle.size eG;have bh:∀ aO,ao.Sub (aT s aO) al→Kept (aT s mZ) (aT s aO) w p (hq w' cc) bk:=fun aO hN=>⟨fun aX dO gd=>(eV aX (fun hm=>by have:=(fb aX hm).1;simp only at this;omega)).trans (uB.heap aX dO gd),fun b aq h=>hN.none (uB.kV b aq h),uB.lk⟩
  cases bL with
  | exit id=>exact bq.elim
  | normal=>exact bq.elim
  | ret=>
   obtain ⟨bd,M,rfl,iR,aO,dE,oC⟩:=bq;obtain ⟨k8,gN⟩:=oC.perm iR;have hN:ao.Sub (aT s aO) (aT s M):=by rw [k8];exact x5 (k := .own w.heap.size) Kg gN.1
   have xr:=b1.sub hN;obtain ⟨cq,mB,h7,Bp⟩:=b1.obj _ _ (oC.get iR);have Bq:cq = #[.bool true]:=by
    generalize aB:cq.toList=Cr at h7;cases h7 with
    | cons v _ vs _ av aN=>
    cases aN;cases av;rw [← toArray_toList (xs:=cq),aB]
   subst Bq;have jH:(hq w' cc).cell? ⟨w.heap.size,0,none⟩=some (.bool true):=by rw [jJ mB];rfl
   refine ⟨cc,s7,eY,fun d ax=>(fb d ax).2.1,?_⟩;refine leaves_cons (f := 253) (args := #[.pointer (some ⟨w.heap.size,0,none⟩)]) ba (by simp [go_sem]) ?_;refine (X8 w.heap.size _).mono ?_;rintro e jZ me ⟨rfl,rfl,rfl⟩;have xt:da.tmps[2]?.getD undef = .pointer (some ⟨w.heap.size,0,none⟩):=by
    have:=hR.env 2 _ bd;rw [getD_eq_getD_getElem?] at this;exact D2 this
   exact ⟨.bool true,by simp [results,Tryz.results220, go_sem,jH,xt],by simp,.ret (.bool true),aT s aO,_,.bool _,⟨aO,rfl,gN.2,.inl ⟨rfl,dE⟩⟩,bK,bh aO hN,xr⟩
  | panic v x dF kW av=>
   obtain ⟨bd,rfl,M,rfl,iR,y,aO,cH,oC⟩:=bq;obtain ⟨rest,rfl,Ih⟩:=kW;obtain rfl:=X4 av;obtain ⟨k8,gN⟩:=oC.perm iR;have hN:ao.Sub (aT s aO) (aT s M):=by rw [k8];exact x5 (k := .own w.heap.size) Kg gN.1
   have xr:=b1.sub hN;have di:=uf b1.lt (.cells #[] 298) True;have a2:=B2 (s:=aT s aO) (w:=hq w' cc) (p:=bk) (.cells #[] 298) True;obtain ⟨cq,mB,h7,Bp⟩:=b1.obj _ _ (oC.get iR);obtain ⟨bv,rfl⟩:∃ bv,cq = #[bv]:=by
    generalize aB:cq.toList=Cr at h7;cases h7 with
    | cons v _ vs _ av aN=>
    cases aN;exact ⟨v,by rw [← toArray_toList (xs:=cq),aB]⟩
   have ar:w.heap.size<(hq w' cc).heap.size:=(Array.getElem?_eq_some_iff.1 mB).1;have Br:=(mg (hq w' cc) (.cells #[] 298) w.heap.size ar).trans mB;have xt:da.tmps[2]?.getD undef = .pointer (some ⟨w.heap.size,0,none⟩):=by
    have:=hR.env 2 _ bd;rw [getD_eq_getD_getElem?] at this;exact D2 this
   obtain ⟨ek,dj,dT,mO,s5⟩:=Lc (bK.trans di) ((bh aO hN).trans bK.size a2) (zn xr _ True) Br (le_refl _) (fun o aE=>by
    rcases aE with aE|⟨e,-⟩
    ·exact Bp o aE
    ·omega) gN.1 (.bool false)
   have jH:(((hq w' cc).alloc (.cells #[] 298)).setRow w.heap.size #[.bool false]).cell? ⟨w.heap.size,0,none⟩=some (.bool false):=by rw [jJ s5];rfl
   refine ⟨cc,s7,eY,fun d ax=>(fb d ax).2.1,?_⟩;refine leaves_cons (f := 253) (args := #[.pointer (some ⟨w.heap.size,0,none⟩)]) ba (by simp [go_sem]) ?_;refine (X9 w.heap.size _ rest bv mB).mono ?_;rintro e jZ me ⟨rfl,rfl,rfl⟩;have Ii:=Gj Ih;simp only [settle,Ii];exact ⟨.bool false,by simp [results,Tryz.results220, go_sem,jH,xt],by simp,.ret (.bool false),aT s aO,_,.bool _,⟨aO,rfl,gN.2,.inr ⟨rfl,cH⟩⟩,ek,dj,dT⟩
theorem NT {n:Int} (h:0≤n) (ae:n<18446744073709551616):IntKind.wrap .u64 n=n:=by
 rw [IntKind.wrap_u64];omega
theorem Yc {n:Nat} (az:n<4294967296):bitsOf .and .u64 (n:Int) 4294967295=some (n:Int):=by
 have h:=uH (m:=n) (n:=4294967295) ag dW;have e:n &&& 4294967295=n:=by
  rw [show 4294967295=2^32-1 from rfl,Nat.and_two_pow_sub_one_eq_mod,Nat.mod_eq_of_lt az]
 rw [e] at h;exact h
theorem NU {n:Nat} (az:n<4294967296):Int.fdiv (n:Int) (2^(min (32:Int).toNat (IntKind.bits .u64)))=0:=by
 have:=tn (m:=n) (c:=32) ag;rw [Nat.shiftRight_eq_div_pow,Nat.div_eq_of_lt ag] at this;exact this
theorem Yd (n:Nat) (az:n<4294967296):aR Tryz.prog 278 [.int .u64 1,.int .u64 (n:Int)] (.cu [.int .u64 0,.int .u64 (n:Int)]):=by
 have aq:=bC;refine aR.bj ai Tryz.func278 C C fun s I=>?_
 have df:IntKind.wrap .u64 (1*(n:Int))=(n:Int):=by rw [Int.one_mul];exact NT ag ag
 have lZ:IntKind.wrap .u64 (0*(n:Int))=0:=by rw [Int.zero_mul];rfl
 refine dL ?_;refine aa.bits 1 C C C C C C dW ?_;refine ht ?_;refine aa.shr 0 C C C C C C ag dW ?_;refine ht ?_;refine aa.bits (n:Int) C C C C C C (Yc az) ?_;refine ht ?_;refine aa.shr 0 C C C C C C ag (NU az) ?_;refine bB ?_;refine aa.shr 0 C C C C C C ag (by rw [df];exact NU az) ?_;refine ht ?_;refine aa.bits 0 C C C C C C (by rw [lZ];decide) ?_;refine ht ?_;refine aa.shr 0 C C C C C C ag (by rw [lZ];decide) ?_;refine bB ?_;refine aa.shr 0 C C C C C C ag dW ?_;refine ew ?_;exact Fin.cp I C (aS.of_eq (by rw [df];rfl))
theorem Ye (n:Nat) (az:n<4294967296):aR Tryz.prog 258 [.int .u64 1,.int .u64 (n:Int)] (.cu [.int .u64 0,.int .u64 (n:Int)]):=by
 have aq:=bC;refine aR.bj ai Tryz.func258 C C fun s I=>?_
 have U:=Yd n az;refine bZ ?_;exact bm I
theorem Yf (z:Int) (n m k:Nat) (h:m+k≤n) (aD:k≤m):((replicate m z++replicate (n-m) 0).map bb).take m++(((replicate m z++replicate (n-m) 0).map bb).drop 0).take k++((replicate m z++replicate (n-m) 0).map bb).drop (m+k)=(replicate (m+k) z++replicate (n-(m+k)) 0).map bb:=by
 rw [List.drop_zero,← map_take,← map_take,← List.map_drop,← map_append,← map_append];congr 1;rw [List.take_left' ba,List.take_append_of_le_length cE,List.take_replicate,Nat.min_eq_left aD,List.replicate_append_replicate];congr 1;rw [List.drop_append,List.drop_eq_nil_of_le ba,nil_append,List.length_replicate,List.drop_replicate];congr 1;omega
theorem Yg (z:Int) (n:Nat) (U:1≤n) (az:n≤1000):bE Tryz.prog 224 [.aC 1 [.int .i64 z] .clip,.int .i64 (n:Int)] ([]) (fun o K=>∃ b,o = .ret (eu b n n)∧K=[(.own b,.box 3 ((replicate n z).map bb))]):=by
 have aq:=bC;refine bE.bj ai Tryz.func224 C C fun s I=>?_
 have hm:=Ye n ag;have df:IntKind.wrap .u64 (n:Int)=(n:Int):=NT ag ag;have kl:IntKind.wrap .i64 (n:Int)=(n:Int):=eo ag ag;have hm:aR Tryz.prog 258 [.int .u64 (IntKind.wrap .u64 1),.int .u64 (IntKind.wrap .u64 (n:Int))] (.cu [.int .u64 0,.int .u64 (n:Int)]):=by rw [df];exact hm
 refine c3 ?_;refine ad.cond C (fun h=>by simp at h;omega) (fun _=>?_);refine c3 ?_;refine aa.uN ai I n C C C C C C C C C C (congrArg (fun z=>some (af.int .i64 z)) kl) (congrArg (fun z=>some (af.int .i64 z)) kl) (by show _*8≤_;omega) ag (fun b I=>?_);refine ht ?_;have br:replicate n (af.int .i64 0)=(replicate n (0:Int)).map bb:=by rw [List.map_replicate];rfl
 refine aa.Gw ai I C C C C C C C C C a1 C C C cE cE (fun I=>?_);have Av:(replicate n (af.int .i64 0)).take 0++[af.int .i64 z]++(replicate n (af.int .i64 0)).drop (0+[af.int .i64 z].length)=(replicate 1 z++replicate (n-1) 0).map bb:=by
  rw [take_zero,List.drop_replicate];simp [bb]
 rw [Av] at I ⊢;refine dC ?_;refine ad.b0 [7] C I (σ:=Nat) (fun m=>[(8,.int .i64 (m:Int))]) (fun m=>[(.own b,.box 3 ((replicate m z++replicate (n-m) 0).map bb))]) (fun m=>1≤m∧m≤n) (fun m=>n-m) 1 ⟨le_refl _,U⟩ (ck C) aY ?_;rintro m ⟨qw,MC⟩ I;refine jM ?_;refine aa.qJ ai C C C C C C C ?_;refine fI ?_;refine ad.cond C (fun ar=>?_) (fun aV=>?_);rotate_left
 ·have aV:m=n:=by simp at aV;omega
  subst aV;have qj:(replicate m z++replicate (m-m) 0).map bb=(replicate m z).map bb:=by simp
  rw [qj] at I ⊢;refine c3 ?_;exact Fin.bz I C aM aY ⟨b,rfl,rfl⟩
 have ar:m<n:=by simp at ar;omega
 have hy:((replicate m z++replicate (n-m) 0).map bb).length=n:=by simp;omega
 refine dC ?_;refine ad.qC (fun _=>True) ai mixed C (bo.run trivial C ?_);refine bo.Gx 3 ai trivial m C C C C C C C C C C C C ag ag ag ?_;refine bo.Ad 6 ai trivial m C C C C C C C C C C C ag ?_;refine bo.run trivial C ?_;refine bo.AA 7 ai I (min m (n-m)) C C C C C C C C C C C .here C C (by rw [List.drop_zero,← map_take];exact A2 _) (by rw [hy];omega) (by rw [hy];omega) (fun _ => .inl trivial) (fun I=>?_);rw [Yf z n m (min m (n-m)) ag ag] at I ⊢;refine bo.run trivial C (bf.done C ?_);refine uD ?_;exact bn.mk (m+min m (n-m)) I ⟨by omega,by omega⟩ (by repeat (first|exact trivial|refine ⟨⟨_,rfl,aM⟩,?_⟩|refine ⟨⟨_,rfl,aS.of_eq z6⟩,?_⟩)) aY (by show n-(m+min m (n-m))<n-m;omega)
end Go.Proofs.YtnafpeohfbglmaaGreat
namespace Go.dv
abbrev oD:=Int×Int×Nat
def sA (g:Int→Int→List oD) (isLet:Bool) (size:Int):Nat→List Int→List oD
 | _,[]=>[]
 | i,k::r=>g k (if isLet&&i==1 then size+1 else size)++sA g isLet size (i+1) r
def xu (p:bP) (n:Int):Bool:=decide (n≥0)&&decide (n<(p.nodes.length:Int))
def nL (p:bP):Nat→Int→Int→List oD
 | 0,n,size=>[(n,size,13)]
 | f+1,n,size=>(n,size,12-f)::(if xu p n then sA (nL p f) (decide ((p.nodes.getD n.toNat default).op=9)) size 0 (p.nodes.getD n.toNat default).kids else [])
def Ij (p:bP) (x:oD):Prop:=xu p x.1=true∧x.2.2≤12
def Bs (p:bP) (next:Bool) (x:oD) (out:List Int):Option (List Int):=
 if pa p x.1 out&&decide (x.2.2≤12) then (if yu p next (p.nodes.getD x.1.toNat default) x.2.1 then some (out.set x.1.toNat x.2.1) else none) else none
def foldI (p:bP) (next:Bool):List oD→List Int→Option (List Int)
 | [],out=>some out
 | x::r,out=>(Bs p next x out).bind (foldI p next r)
theorem NV (p:bP) (next:Bool):∀ (l r:List oD) (out:List Int),foldI p next (l++r) out=(foldI p next l out).bind (foldI p next r)
  | [],r,out=>rfl
  | x::l,r,out=>by
    rw [cons_append,foldI,foldI];cases Bs p next x out with
    | none=>rfl
    | some o=>exact NV p next l r o
theorem NW (p:bP) (next:Bool) {g:Int→Int→List oD} {h:Int→Int→List Int→Option (List Int)} (aw:∀ k s out,foldI p next (g k s) out=h k s out) (isLet:Bool) (size:Int) :
    ∀ (ks:List Int) (i:Nat) (out:List Int),foldI p next (sA g isLet size i ks) out=lD h isLet size i ks out
  | [],i,out=>rfl
  | k::r,i,out=>by
    rw [sA,lD,NV,aw];cases h k (if isLet&&i==1 then size+1 else size) out with
    | none=>rfl
    | some o=>exact NW p next aw isLet size r (i+1) o
theorem NX (p:bP) (next:Bool):∀ (f:Nat) (n size:Int) (out:List Int),f≤12→foldI p next (nL p f n size) out=visitM p next f n size out
  | 0,n,size,out,_=>by
    rw [nL,foldI,visitM,Bs];rw [if_neg ba];rfl
  | f+1,n,size,out,aZ=>by
    rw [nL,foldI,visitM,Bs];have ax:decide (((n,size,12-f):oD).2.2≤12)=true:=by simp
    rw [ax,Bool.and_true];cases au:pa p n out with
    | false=>simp
    | true=>
      have fq:xu p n=true:=by
        unfold pa at au;unfold xu;simp only [and_eq_true,decide_eq_true_eq] at au ⊢;exact ⟨au.1,au.2.1⟩
      simp only [if_true,fq];cases az:yu p next (p.nodes.getD n.toNat default) size with
      | false=>simp
      | true=>
        simp only [if_true];exact NW p next (fun k s o=>NX p next f k s o ag) _ _ _ _ _
end Go.dv
namespace Go.Proofs.YtnafpeohfbglmaaGreat
open Go.cW Go.dv
def Bt (x:oD):af := .int .i64 x.1
def Bu (x:oD):af := .agg [.int .i64 x.2.1,.int .i64 (x.2.2:Int)]
def NY (fv:af) (p:bP) (eb:Nat):af := .func 260 [] [.bA [fv] 0,.bA (cL p) 0,.ptr eb 0]
def xw (fv:af) (p:bP) (eb:Nat):dG := .box 306 [NY fv p eb]
def Yh {α:Type} (Go:List α→a'→Prop) (fD:a'→Prop) (fJ:af→a'→Prop) (rem:List α) (o:eB) (aO:a'):Prop:=
 (o = .ret (.bool true)∧Go rem aO)∨(o = .ret (.bool false)∧fD aO)∨∃ v,o = .panic v∧fJ v aO
structure NZ (eb:Nat) (p:bP) (fv:af) (Go:List oD→a'→Prop) (fD:a'→Prop) (fJ:af→a'→Prop):Prop where
 call:∀ x rem K,Go (x::rem) K→dt Tryz.prog fv [Bt x,Bu x] K (fun o aO=>(o = .ret (.bool true)∧Ij p x∧Go rem aO)∨(o = .ret (.bool false)∧fD aO)∨∃ v,o = .panic v∧fJ v aO)
 q4:∀ xs K,Go xs K→∃ R,bp K (.own eb) (xw fv p eb) R
theorem Yi (p:bP) (aE:fN p) (eb:Nat) (fv:af) (Go:List oD→a'→Prop) (fD:a'→Prop) (fJ:af→a'→Prop) (en:NZ eb p fv Go fD fJ):∀ (f:Nat),f≤12→∀ (n size:Int),(0≤size∧size+f≤100)→∀ (rest:List oD) (K:a'),Go (nL p f n size++rest) K →
  bE Tryz.prog 260 [.int .i64 n,.agg [.int .i64 size,.int .i64 ((13-f:Nat):Int)],.bA [fv] 0,.bA (cL p) 0,.ptr eb 0] K (Yh Go fD fJ rest):=by
 have aq:=bC;intro f
 induction f with
 | zero=>
  intro _ n size ca rest K dE;have aA:=en.call (n,size,13) rest K dE;unfold Bt Bu at aA;refine bE.bj ai Tryz.func260 C C fun s I=>?_
  unfold cL;refine dL ?_;refine aa.gM C C C C C C aA I (aH.all _) ?_ ?_
  ·rintro x aO (⟨_,aw,_⟩|⟨⟨⟩,ax⟩|⟨_,⟨⟩,_⟩) I
   ·exact absurd aw.2 (by show ¬ (13≤12);omega)
   ·rw [append_nil] at I ⊢
    refine ew ?_;exact Fin.bz I C aM (aH.all _) (.inr (.inl ⟨rfl,ax⟩))
  ·rintro x aO (⟨h,_⟩|⟨h,_⟩|⟨v,⟨⟩,aE⟩) I
   ·cases h
   ·cases h
   exact Fin.fc I aM (aH.jx (aH.all _)) (.inr (.inr ⟨_,rfl,aE⟩))
 | succ f a6=>
  intro aZ n size ca rest K dE;have ax:(13-(f+1):Nat)=12-f:=by omega
  rw [ax];rw [nL,cons_append] at dE;have aA:=en.call _ _ K dE;unfold Bt Bu at aA;refine bE.bj ai Tryz.func260 C C fun s I=>?_
  unfold cL;refine dL ?_;refine aa.gM C C C C C C aA I (aH.all _) ?_ ?_
  ·rintro x aO (⟨⟨⟩,aw,dE⟩|⟨⟨⟩,ax⟩|⟨_,⟨⟩,_⟩) I
   ·rw [append_nil] at I ⊢
    obtain ⟨fq,_⟩:=aw;have fq:xu p n=true:=fq;rw [fq,if_pos C] at dE;unfold xu at fq;simp only [and_eq_true,decide_eq_true_eq] at fq;obtain ⟨i,rfl⟩:∃ i:Nat,n=i:=⟨n.toNat,by omega⟩;obtain ⟨x,ab,bL⟩:=bV (f:=jj) (l:=p.nodes) (j:=i) ag;have kj:p.nodes.getD ((i:Int)).toNat default=x:=by rw [toNat_natCast,getD_eq_getElem?_getD,ab];rfl
    rw [kj] at dE;have sg:=aE.kids x (mem_of_getElem? ab);unfold jj k4 bg at bL;refine bB ?_;refine ad.b0 [0,3,4,6,21,22] C I (σ:=Nat×a') (fun q=>[(23,.int .i64 (q.1:Int))]) (fun q=>q.2) (fun q=>q.1≤x.kids.length∧Go (sA (nL p f) (decide (x.op=9)) size q.1 (x.kids.drop q.1)++rest) q.2) (fun q=>x.kids.length-q.1) (0,aO) ⟨zero_le _,dE⟩ (ck C) (aH.all _) ?_;rintro ⟨j,A9⟩ ⟨aK,y2⟩ I;simp only at aK y2 I ⊢;refine b2 ?_;refine ad.cond C (fun ar=>?_) (fun aV=>?_);rotate_left
    ·have aV:j=x.kids.length:=by simp at aV;omega
     subst aV;rw [ef (le_refl _),sA,nil_append] at y2;refine dB ?_;exact Fin.bz I C aM (aH.all _) (.inl ⟨rfl,y2⟩)
    have ar:j<x.kids.length:=by simpa using ar
    obtain ⟨k,aD,eG⟩:=bV (f:=bb) ar;rw [drop_cons aD,sA,List.append_assoc] at y2;obtain ⟨R,oC⟩:=en.q4 _ _ y2;have c1:=dt.fp (first:=[]) (args:=[.int .i64 k,.agg [.int .i64 (if decide (x.op=9)&&j==1 then size+1 else size),.int .i64 ((13-f:Nat):Int)]]) (cap:=[.bA [fv] 0,.bA (cL p) 0,.ptr eb 0]) (a6 ag _ _ (by split<;>omega) _ _ y2);have df:IntKind.wrap .i64 (((12-f:Nat):Int)+1)=((13-f:Nat):Int):=by rw [eo ag ag];omega
    have D4:((j:Int)==1)=(j==1):=by rw [Bool.eq_iff_iff];simp;omega
    have sy:decide (x.op=9)=(x.op==9):=rfl;rw [sy,← df] at c1;unfold cL at c1;unfold xw NY cL at oC;unfold bb at eG
    repeat (first|(refine wy I ?_;clear I;intro I)|refine aa.d' ai I rfl rfl rfl rfl rfl rfl rfl (fun cy I=>?_))
    cases kp:(x.op==9) with
    | false=>
     rw [kp,Bool.false_and] at c1;simp only [false_eq_true,if_false] at c1;refine bB ?_;refine aa.eC ai I C C C C C C (.there oC) b3 ?_;refine cG I ?_;intro I;refine aa.gM C C C C C C c1 I (aH.there (aH.all A9)) ?_ ?_
     ·rintro _ iK (⟨⟨⟩,Bv⟩|⟨⟨⟩,ax⟩|⟨_,⟨⟩,_⟩) I
      ·refine bB ?_
       exact bn.mk (j+1,iK) I ⟨ar,by show Go (sA (nL p f) (decide (x.op=9)) size (j+1) (drop (j+1) x.kids)++rest) iK;rw [sy,kp];exact Bv⟩ b' (aH.jx (aH.all _)) p8
      ·refine e5 ?_
       exact Fin.bz I C aM (aH.jx (aH.all _)) (.inr (.inl ⟨rfl,ax⟩))
     ·rintro x aO (⟨h,_⟩|⟨h,_⟩|⟨v,⟨⟩,aE⟩) I
      ·cases h
      ·cases h
      exact Fin.fc I aM (aH.jx (aH.all _)) (.inr (.inr ⟨_,rfl,aE⟩))
    | true=>
     rw [kp,Bool.true_and] at c1;refine fI ?_;cases yG:(j==1) with
     | false=>
      rw [yG] at c1 D4;simp only [false_eq_true,if_false] at c1;refine ad.cond C (fun h=>by rw [D4] at h;cases h) (fun _=>?_);refine dC ?_;refine aa.eC ai I C C C C C C (.there oC) b3 ?_;refine cG I ?_;intro I;refine aa.gM C C C C C C c1 I (aH.there (aH.all A9)) ?_ ?_
      ·rintro _ iK (⟨⟨⟩,Bv⟩|⟨⟨⟩,ax⟩|⟨_,⟨⟩,_⟩) I
       ·refine bB ?_
        exact bn.mk (j+1,iK) I ⟨ar,by show Go (sA (nL p f) (decide (x.op=9)) size (j+1) (drop (j+1) x.kids)++rest) iK;rw [sy,kp];exact Bv⟩ b' (aH.jx (aH.all _)) p8
       ·refine e5 ?_
        exact Fin.bz I C aM (aH.jx (aH.all _)) (.inr (.inl ⟨rfl,ax⟩))
      ·rintro x aO (⟨h,_⟩|⟨h,_⟩|⟨v,⟨⟩,aE⟩) I
       ·cases h
       ·cases h
       exact Fin.fc I aM (aH.jx (aH.all _)) (.inr (.inr ⟨_,rfl,aE⟩))
     | true=>
      rw [yG] at c1 D4;simp only [if_true] at c1;have kl:IntKind.wrap .i64 (size+1)=size+1:=eo ag ag;rw [← kl] at c1;refine ad.cond C (fun _=>?_) (fun h=>by rw [D4] at h;cases h);refine cG I ?_;intro I;refine aa.eC ai I C C C C C C (.there oC) b3 ?_;refine cG I ?_;intro I;refine aa.gM C C C C C C c1 I (aH.there (aH.all A9)) ?_ ?_
      ·rintro _ iK (⟨⟨⟩,Bv⟩|⟨⟨⟩,ax⟩|⟨_,⟨⟩,_⟩) I
       ·refine bB ?_
        exact bn.mk (j+1,iK) I ⟨ar,by show Go (sA (nL p f) (decide (x.op=9)) size (j+1) (drop (j+1) x.kids)++rest) iK;rw [sy,kp];exact Bv⟩ b' (aH.jx (aH.all _)) p8
       ·refine e5 ?_
        exact Fin.bz I C aM (aH.jx (aH.all _)) (.inr (.inl ⟨rfl,ax⟩))
      ·rintro x aO (⟨h,_⟩|⟨h,_⟩|⟨v,⟨⟩,aE⟩) I
       ·cases h
       ·cases h
       exact Fin.fc I aM (aH.jx (aH.all _)) (.inr (.inr ⟨_,rfl,aE⟩))
   ·rw [append_nil] at I ⊢
    refine ew ?_;exact Fin.bz I C aM (aH.all _) (.inr (.inl ⟨rfl,ax⟩))
  ·rintro x aO (⟨h,_⟩|⟨h,_⟩|⟨v,⟨⟩,aE⟩) I
   ·cases h
   ·cases h
   exact Fin.fc I aM (aH.jx (aH.all _)) (.inr (.inr ⟨_,rfl,aE⟩))
theorem Yj (p:bP) (aE:fN p) (n size:Int) (ca:0≤size∧size+12≤100):Gr Tryz.prog 259 [] [.bA (cL p) 0,.bA [.int .i64 n] 0,.bA [.int .i64 size,.int .i64 1] 0] [] Bt Bu (Ij p) (nL p 12 n size):=by
 intro l Go fD fJ oY K bh;have en:∀ eb,NZ eb p (lR l) (fun xs K=>∃ aO,K=aO++[(.own eb,xw (lR l) p eb)]∧Go xs aO) (fun K=>∃ aO,K=aO++[(.own eb,xw (lR l) p eb)]∧fD aO) (fun v K=>∃ aO,K=aO++[(.own eb,xw (lR l) p eb)]∧fJ v aO):=fun eb=>by
  refine ⟨fun x rem K ⟨aO,e,aw⟩=>?_,fun xs K ⟨aO,e,_⟩=>⟨aO++[],by subst e;exact bp.app aO .here⟩⟩;subst e;refine dt.frame (R:=[(.own eb,xw (lR l) p eb)]) (oY x rem aO aw) (aH.jx (aH.du aO)) ?_;rintro o lI (⟨rfl,U,h⟩|⟨rfl,h⟩|⟨v,rfl,h⟩)
  ·exact .inl ⟨rfl,U,lI,rfl,h⟩
  ·exact .inr (.inl ⟨rfl,lI,rfl,h⟩)
  ·exact .inr (.inr ⟨v,rfl,lI,rfl,h⟩)
 have hw:=fun eb=>dt.fp (first:=[]) (args:=[.int .i64 n,.agg [.int .i64 size,.int .i64 1]]) (cap:=[.bA [lR l] 0,.bA (cL p) 0,.ptr eb 0]) (Yi p aE eb (lR l) _ _ _ (en eb) 12 (le_refl _) n size ag [] (K++[(.own eb,xw (lR l) p eb)]) ⟨K,rfl,by rw [append_nil];exact bh⟩)
 refine bE.bj ai Tryz.func259 C C fun s I=>?_
 rw [nil_append] at I ⊢
 repeat (first|(refine Kj I ?_;clear I;intro I)|refine aa.d' ai I rfl rfl rfl rfl rfl rfl rfl (fun cy I=>?_))
 refine aa.gM C C C C C C (hw cy) I (aH.iw (List.perm_append_singleton _ _).symm) ?_ ?_
 ·rintro x _ (⟨⟨⟩,lI,rfl,h⟩|⟨⟨⟩,lI,rfl,h⟩|⟨_,⟨⟩,_⟩) I
  all_goals rw [append_nil] at I ⊢
  ·refine fI ?_
   exact Fin.bz I C aM (aH.jx (aH.du lI)) (.inl ⟨rfl,.inl h⟩)
  ·refine fI ?_
   exact Fin.bz I C aM (aH.jx (aH.du lI)) (.inl ⟨rfl,.inr h⟩)
 ·rintro x _ (⟨h,_⟩|⟨h,_⟩|⟨v,⟨⟩,lI,rfl,h⟩) I
  ·cases h
  ·cases h
  rw [append_nil] at I ⊢;exact Fin.fc I aM (aH.jx (aH.du lI)) (.inr ⟨_,rfl,h⟩)
theorem Yk (p:bP) (n size d:Int):aR Tryz.prog 226 [cJ p,.int .i64 n,.agg [.int .i64 size,.int .i64 d]] (.func 259 [] [.bA (cL p) 0,.bA [.int .i64 n] 0,.bA [.int .i64 size,.int .i64 d] 0]):=by
 have aq:=bC;refine aR.bj ai Tryz.func226 C C fun s I=>?_
 unfold cJ cL;refine gH ?_;exact bm I
theorem N0:pF Tryz.prog 277 "consort/bind.many" 335 := CL fC
theorem N1:pF Tryz.prog 279 "consort/bind.many" 336 := CL fC
theorem N2 (p:bP) (x:iU):(x.op=5∧w8 x.op = .iface 279 (.agg [])∧r4 p x=some (p.dw.getD x.n.toNat 0))∨(∃ m,w8 x.op=w7 m∧r4 p x=some m)∨(w8 x.op = .nR∧r4 p x=none):=by
 unfold w8 r4;by_cases U:x.op=5
 ·left;rw [if_pos U,if_pos U];exact ⟨U,rfl,rfl⟩
 rw [if_neg U,if_neg U];right;by_cases ae:x.op=1∨x.op=2∨x.op=3∨x.op=6∨x.op=18
 ·left;rw [if_pos ae,if_pos ae];exact ⟨0,rfl,rfl⟩
 rw [if_neg ae,if_neg ae];by_cases an:x.op=4∨x.op=8∨x.op=17
 ·left;rw [if_pos an,if_pos an];exact ⟨1,rfl,rfl⟩
 rw [if_neg an,if_neg an];by_cases bd:x.op=7∨x.op=9∨x.op=11∨x.op=12∨x.op=13∨x.op=14∨x.op=15∨x.op=16
 ·left;rw [if_pos bd,if_pos bd];exact ⟨2,rfl,rfl⟩
 rw [if_neg bd,if_neg bd];by_cases bD:x.op=10
 ·left;rw [if_pos bD,if_pos bD];exact ⟨3,rfl,rfl⟩
 right;rw [if_neg bD,if_neg bD];exact ⟨rfl,rfl⟩
theorem vf {m l:Int}:((some m==some l)=true)↔l=m:=by
 rw [beq_iff_eq,Option.some.injEq];exact eq_comm
def gq (dI b:Nat) (out:List Int):a':=[(.own dI,.box 23 [eu b out.length out.length]),(.own b,.box 3 (out.map bb))]
def Yl (dI b:Nat) (len:Nat) (r:Option (List Int)) (o:eB) (K:a'):Prop:=
 ∃ out,out.length=len∧K=gq dI b out∧((o = .ret (.cu [])∧r=some out)∨(o = .panic tA∧r=none))
theorem N3 (p:bP) (aE:fN p) (abU:p.dw.all (fun n=>decide (n≥1)&&decide (n≤3))=true) (dI b:Nat) (out:List Int) (gh:out.length=p.nodes.length) (nX:p.nodes.length≤120) (n size:Int) (next:Bool) (ca:0≤size∧size≤50) :
  dt Tryz.prog (.func 225 [] [.bA (cL p) 0,.ptr dI 0]) [.int .i64 n,.int .i64 size,.bool next] (gq dI b out) (Yl dI b p.nodes.length (visitM p next 12 n size out)):=by
 have aq:=bC;have mB:=Yk p n size 1;have n6:=Yj p aE n size ag;refine dt.fp (first:=[]) (cap:=[.bA (cL p) 0,.ptr dI 0]) ?_;refine bE.bj ai Tryz.func225 C C fun s I=>?_
 rw [← NX p next 12 n size out (le_refl _)];unfold cJ at mB;unfold cL at *;unfold gq at I;refine bZ ?_;refine ad.Ll I C dW dW n6 .nil (fun rem K=>∃ bR,bR.length=p.nodes.length∧K=gq dI b bR∧foldI p next (nL p 12 n size) out=foldI p next rem bR) (fun _ _=>False) (fun v K=>v=tA∧foldI p next (nL p 12 n size) out=none∧∃ bR,bR.length=p.nodes.length∧K=gq dI b bR) ⟨out,gh,rfl,rfl⟩ ?_ ?_ (fun _ _ h=>h.elim) ?_
 ·rintro s₁ x rem K ⟨bR,eW,rfl,ak⟩ I
  obtain ⟨Ik,xs,Il⟩:=x;unfold Bt Bu;unfold gq at I ⊢;rw [foldI,Bs] at ak;simp only at ak;refine ea ?_;by_cases g1:Ik≥0;rotate_left
  ·refine aa.c2 22 C (decide_eq_false g1) ?_
   refine ew ?_;refine aa.b9 C C C C C (ha _) I .nil ?_ ?_;rotate_left
   ·rintro _ _ ⟨rfl,h⟩ I
    obtain ⟨az,rfl⟩:=gQ h;rw [nil_append] at I ⊢;exact At.mk (gq dI b bR) I (aH.all _) ⟨rfl,(by rw [ak];simp [pa,g1]),bR,eW,rfl⟩
   rintro _ _ ⟨rfl,h⟩ I;obtain ⟨an,rfl⟩:=gP h;rw [nil_append] at I ⊢;exact absurd an ba
  obtain ⟨i,rfl⟩:∃ i:Nat,Ik=i:=⟨Ik.toNat,by omega⟩;refine aa.ds 22 C (decide_eq_true g1) ?_;refine dS ?_;by_cases g2:i<p.nodes.length;rotate_left
  ·refine aa.c2 29 C cE ?_
   refine ew ?_;refine aa.b9 C C C C C (ha _) I .nil ?_ ?_;rotate_left
   ·rintro _ _ ⟨rfl,h⟩ I
    obtain ⟨az,rfl⟩:=gQ h;rw [nil_append] at I ⊢;exact At.mk (gq dI b bR) I (aH.all _) ⟨rfl,(by rw [ak];simp [pa,g2]),bR,eW,rfl⟩
   rintro _ _ ⟨rfl,h⟩ I;obtain ⟨an,rfl⟩:=gP h;rw [nil_append] at I ⊢;exact absurd an ba
  refine aa.ds 29 C cE ?_;obtain ⟨z,bO⟩:∃ z,bR[i]? = some z:=⟨_,getElem?_eq_getElem ag⟩;have Hp:bR.getD i 0=z:=by rw [getD_eq_getElem?_getD,bO];rfl
  have qQ:(bR.map bb)[i*1]? = some (.int .i64 z):=by rw [mul_one,getElem?_map,bO];rfl
  obtain ⟨x,ab,bL⟩:=bV (f:=jj) (l:=p.nodes) (j:=i) g2;have Hi:p.nodes.getD i default=x:=by rw [getD_eq_getElem?_getD,ab];rfl
  rw [toNat_natCast,Hi] at ak;refine cG I ?_;intro I;refine aa.fo ai i C C C C C C C C C C ag ?_;refine aa.j7 ai I C C C C C C a1 C qQ ?_;refine dS ?_;have dn:pa p (i:Int) bR=decide (z<0):=by
   unfold pa;rw [toNat_natCast,Hp,decide_eq_true g1,show decide ((i:Int)<(p.nodes.length:Int))=true by simp;omega];rfl
  rw [dn] at ak;by_cases g3:z<0;rotate_left
  ·refine aa.c2 36 C (decide_eq_false g3) ?_
   refine ew ?_;refine aa.b9 C C C C C (ha _) I .nil ?_ ?_;rotate_left
   ·rintro _ _ ⟨rfl,h⟩ I
    obtain ⟨az,rfl⟩:=gQ h;rw [nil_append] at I ⊢;exact At.mk (gq dI b bR) I (aH.all _) ⟨rfl,(by rw [ak];simp [g3]),bR,eW,rfl⟩
   rintro _ _ ⟨rfl,h⟩ I;obtain ⟨an,rfl⟩:=gP h;rw [nil_append] at I ⊢;exact absurd an ba
  refine aa.ds 36 C (decide_eq_true g3) ?_;rw [decide_eq_true g3,Bool.true_and] at ak;refine dS ?_;refine aa.b9 C C C C C (ha _) I .nil ?_ ?_;rotate_left
  ·rintro _ _ ⟨rfl,h⟩ I
   obtain ⟨az,rfl⟩:=gQ h;rw [nil_append] at I ⊢;exact At.mk (gq dI b bR) I (aH.all _) ⟨rfl,(by rw [ak,show decide (Il≤12)=false from (by simp at az ⊢;omega)];simp),bR,eW,rfl⟩
  rintro _ _ ⟨rfl,h⟩ I;obtain ⟨an,rfl⟩:=gP h;rw [nil_append] at I ⊢;have g4:Il≤12:=by simp at an;omega
  rw [decide_eq_true g4,if_pos C] at ak;have D5:Ij p ((i:Int),xs,Il):=⟨by unfold xu;simp;omega,g4⟩;have vK:eU (i*1) [.int .i64 xs] (bR.map bb)=(bR.set i xs).map bb:=by
   rw [pT,mul_one,map_set];rfl
  refine cG I ?_;intro I;refine aa.fo ai i C C C C C C C C C C ag ?_;refine aa.j8 ai I _ C C C C C C C C C a1 (by rw [length_map];show i*1+1≤_;omega) vK (fun I=>?_);have mU:(bR.set i xs).length=p.nodes.length:=by rw [length_set];exact eW
  have om:=XU p aE x xs;have vg:=V4 x.op;unfold cJ cL jj k4 bg at om;unfold jj k4 bg at bL;unfold yu at ak;cases iP:m6 p x xs with
  | false=>
   rw [iP] at om;rw [iP,Bool.false_and,if_neg ba] at ak;refine ea ?_;refine aa.b9 C C C C C (ha _) I .nil ?_ ?_;rotate_left
   ·rintro _ _ ⟨rfl,h⟩ I
    obtain ⟨az,rfl⟩:=gQ h;rw [nil_append] at I ⊢;exact At.mk (gq dI b (bR.set i xs)) I (by simp only [gq,length_set];exact aY) ⟨rfl,ak,(bR.set i xs),mU,rfl⟩
   rintro _ _ ⟨rfl,h⟩ I;obtain ⟨bd,rfl⟩:=gP h;rw [nil_append] at I ⊢;exact absurd bd ba
  | true=>
  rw [iP] at om;rw [iP,Bool.true_and] at ak;cases next with
  | true=>
   rw [Bool.true_or,Bool.true_and] at ak;refine ea ?_;refine aa.b9 C C C C C (ha _) I .nil ?_ ?_;rotate_left
   ·rintro _ _ ⟨rfl,h⟩ I
    obtain ⟨az,rfl⟩:=gQ h;rw [nil_append] at I ⊢;exact At.mk (gq dI b (bR.set i xs)) I (by simp only [gq,length_set];exact aY) ⟨rfl,(absurd az ba),(bR.set i xs),mU,rfl⟩
   rintro _ _ ⟨rfl,h⟩ I;obtain ⟨bd,rfl⟩:=gP h;rw [nil_append] at I ⊢;rcases N2 p x with ⟨bD,rr,j9⟩|⟨m,rr,j9⟩|⟨rr,j9⟩
   ·rw [rr] at vg
    rw [j9] at ak;have aK:0≤x.n∧x.n<(p.dw.length:Int):=by
     simpa [m6,bD] using iP
    obtain ⟨k,aD⟩:∃ k:Nat,x.n=k:=⟨x.n.toNat,by omega⟩;have im:=MF p x k (p.dw.getD x.n.toNat 0) aD Nx;unfold cJ cL jj k4 bg at im;refine bZ ?_;refine aJ.r2 C C C C C C N1 im ?_;refine ly ?_;refine aJ.b9 C C C C C C (ha _) I .nil ?_ ?_;rotate_left
    ·rintro _ _ ⟨rfl,h⟩ I
     obtain ⟨az,rfl⟩:=gQ h;rw [nil_append] at I ⊢;rw [length_map] at az;refine At.mk (gq dI b (bR.set i xs)) I (by simp only [gq,length_set];exact aY) ⟨rfl,?_,_,mU,rfl⟩;rw [if_neg (fun e=>absurd (vf.mp e) sc)] at ak;exact ak
    rintro _ _ ⟨rfl,h⟩ I;obtain ⟨az,rfl⟩:=gP h;rw [nil_append] at I ⊢;rw [length_map] at az;rw [if_pos (vf.mpr sc)] at ak;refine fR ?_;exact At.mk (gq dI b (bR.set i xs)) I (by simp only [gq,length_set];exact aY) ⟨D5,_,mU,rfl,ak⟩
   ·rw [rr] at vg
    rw [j9] at ak;unfold w7 at vg;have im:=ME m p x;unfold cJ cL jj k4 bg at im;refine bZ ?_;refine aJ.r2 C C C C C C N0 im ?_;refine ly ?_;refine aJ.b9 C C C C C C (ha _) I .nil ?_ ?_;rotate_left
    ·rintro _ _ ⟨rfl,h⟩ I
     obtain ⟨az,rfl⟩:=gQ h;rw [nil_append] at I ⊢;rw [length_map] at az;refine At.mk (gq dI b (bR.set i xs)) I (by simp only [gq,length_set];exact aY) ⟨rfl,?_,_,mU,rfl⟩;rw [if_neg (fun e=>absurd (vf.mp e) sc)] at ak;exact ak
    rintro _ _ ⟨rfl,h⟩ I;obtain ⟨az,rfl⟩:=gP h;rw [nil_append] at I ⊢;rw [length_map] at az;rw [if_pos (vf.mpr sc)] at ak;refine fR ?_;exact At.mk (gq dI b (bR.set i xs)) I (by simp only [gq,length_set];exact aY) ⟨D5,_,mU,rfl,ak⟩
   ·rw [rr] at vg
    rw [j9] at ak;have ak:foldI p true (nL p 12 n size) out=none:=ak;refine bZ ?_;refine aa.b9 C C C C C (ha _) I .nil ?_ ?_;rotate_left
    ·rintro _ _ ⟨rfl,h⟩ I
     obtain ⟨az,rfl⟩:=gQ h;rw [nil_append] at I ⊢;exact At.mk (gq dI b (bR.set i xs)) I (by simp only [gq,length_set];exact aY) ⟨rfl,ak,(bR.set i xs),mU,rfl⟩
    rintro _ _ ⟨rfl,h⟩ I;obtain ⟨bD,rfl⟩:=gP h;rw [nil_append] at I ⊢;exact absurd bD ba
  | false=>
   rw [Bool.false_or] at ak;refine ea ?_;refine aa.b9 C C C C C (ha _) I .nil ?_ ?_;rotate_left
   ·rintro _ _ ⟨rfl,h⟩ I
    obtain ⟨az,rfl⟩:=gQ h;rw [nil_append] at I ⊢;exact At.mk (gq dI b (bR.set i xs)) I (by simp only [gq,length_set];exact aY) ⟨rfl,(by rw [show decide (x.op≠18)=false by simpa using az,Bool.false_and,if_neg ba] at ak;exact ak),(bR.set i xs),mU,rfl⟩
   rintro _ _ ⟨rfl,h⟩ I;obtain ⟨bd,rfl⟩:=gP h;rw [nil_append] at I ⊢;rw [show decide (x.op≠18)=true by simpa using bd,Bool.true_and] at ak;rcases N2 p x with ⟨bD,rr,j9⟩|⟨m,rr,j9⟩|⟨rr,j9⟩
   ·rw [rr] at vg
    rw [j9] at ak;have aK:0≤x.n∧x.n<(p.dw.length:Int):=by
     simpa [m6,bD] using iP
    obtain ⟨k,aD⟩:∃ k:Nat,x.n=k:=⟨x.n.toNat,by omega⟩;have im:=MF p x k (p.dw.getD x.n.toNat 0) aD Nx;unfold cJ cL jj k4 bg at im;refine bZ ?_;refine aJ.r2 C C C C C C N1 im ?_;refine ly ?_;refine aJ.b9 C C C C C C (ha _) I .nil ?_ ?_;rotate_left
    ·rintro _ _ ⟨rfl,h⟩ I
     obtain ⟨az,rfl⟩:=gQ h;rw [nil_append] at I ⊢;rw [length_map] at az;refine At.mk (gq dI b (bR.set i xs)) I (by simp only [gq,length_set];exact aY) ⟨rfl,?_,_,mU,rfl⟩;rw [if_neg (fun e=>absurd (vf.mp e) sc)] at ak;exact ak
    rintro _ _ ⟨rfl,h⟩ I;obtain ⟨az,rfl⟩:=gP h;rw [nil_append] at I ⊢;rw [length_map] at az;rw [if_pos (vf.mpr sc)] at ak;refine fR ?_;exact At.mk (gq dI b (bR.set i xs)) I (by simp only [gq,length_set];exact aY) ⟨D5,_,mU,rfl,ak⟩
   ·rw [rr] at vg
    rw [j9] at ak;unfold w7 at vg;have im:=ME m p x;unfold cJ cL jj k4 bg at im;refine bZ ?_;refine aJ.r2 C C C C C C N0 im ?_;refine ly ?_;refine aJ.b9 C C C C C C (ha _) I .nil ?_ ?_;rotate_left
    ·rintro _ _ ⟨rfl,h⟩ I
     obtain ⟨az,rfl⟩:=gQ h;rw [nil_append] at I ⊢;rw [length_map] at az;refine At.mk (gq dI b (bR.set i xs)) I (by simp only [gq,length_set];exact aY) ⟨rfl,?_,_,mU,rfl⟩;rw [if_neg (fun e=>absurd (vf.mp e) sc)] at ak;exact ak
    rintro _ _ ⟨rfl,h⟩ I;obtain ⟨az,rfl⟩:=gP h;rw [nil_append] at I ⊢;rw [length_map] at az;rw [if_pos (vf.mpr sc)] at ak;refine fR ?_;exact At.mk (gq dI b (bR.set i xs)) I (by simp only [gq,length_set];exact aY) ⟨D5,_,mU,rfl,ak⟩
   ·rw [rr] at vg
    rw [j9] at ak;have ak:foldI p false (nL p 12 n size) out=none:=ak;refine bZ ?_;refine aa.b9 C C C C C (ha _) I .nil ?_ ?_;rotate_left
    ·rintro _ _ ⟨rfl,h⟩ I
     obtain ⟨az,rfl⟩:=gQ h;rw [nil_append] at I ⊢;exact At.mk (gq dI b (bR.set i xs)) I (by simp only [gq,length_set];exact aY) ⟨rfl,ak,(bR.set i xs),mU,rfl⟩
    rintro _ _ ⟨rfl,h⟩ I;obtain ⟨bD,rfl⟩:=gP h;rw [nil_append] at I ⊢;exact absurd bD ba
 ·rintro K ⟨bR,eW,rfl,ak⟩ I
  rw [foldI] at ak;refine fR ?_;exact Fin.bz I C aM (aH.all _) ⟨bR,eW,rfl,.inl ⟨rfl,ak⟩⟩
 ·rintro v K ⟨rfl,ak,bR,eW,rfl⟩ I
  exact Fin.fc I aM (aH.all _) ⟨bR,eW,rfl,.inr ⟨rfl,ak⟩⟩
def Ym (p:bP) (dI:Nat) (o:eB) (K:a'):Prop:=
 (o = .ret (.cu [])∧∃ b out,out.length=p.nodes.length∧nJ p=some out∧K=gq dI b out)∨(o = .panic tA∧nJ p=none∧∃ v R,K=(.own dI,.box 23 [v])::R)
theorem Yn (p:bP) (aE:fN p) (dI:Nat) (v0:af) :
  dt Tryz.prog (.func 221 [] [.bA (cL p) 0,.ptr dI 0]) [] [(.own dI,.box 23 [v0])] (Ym p dI):=by
 have aq:=bC;have hD:=V3 p aE;have jO:=aE.dw;have hy:=aE.Dn;have nX:=aE.nodes;refine dt.fp (first:=[]) (cap:=[.bA (cL p) 0,.ptr dI 0]) ?_;refine bE.bj ai Tryz.func221 C C fun s I=>?_
 have N4:=Ma p aE;unfold cJ at *;unfold cL bg at *;have cj:nJ p=nJ p:=rfl
 conv at cj=>rhs;unfold nJ
 refine jM ?_;refine aa.b9 C C C C C hD I .nil ?_ ?_;rotate_left
 ·rintro _ _ ⟨rfl,h⟩ I
  obtain ⟨az,rfl⟩:=gQ h;rw [nil_append] at I ⊢;exact Fin.fc I aM (aH.all _) (.inr ⟨rfl,by rw [cj,az];rfl,_,_,rfl⟩)
 rintro _ _ ⟨rfl,h⟩ I;obtain ⟨ct,rfl⟩:=gP h;rw [nil_append] at I ⊢;rw [ct,Bool.true_and] at cj;have lG:=GJ ct;have Yo:(fF 0 p.cl).length<bu:=by have h:(fF 0 p.cl).length≤40:=lG.bl;omega
 have N4:=N4 Yo;refine ht ?_;by_cases g1:p.dw.length≤8;rotate_left
 ·refine aa.c2 14 C cE ?_
  refine ew ?_;refine aa.b9 C C C C C (ha _) I .nil ?_ ?_;rotate_left
  ·rintro _ _ ⟨rfl,h⟩ I
   obtain ⟨az,rfl⟩:=gQ h;rw [nil_append] at I ⊢;exact Fin.fc I aM (aH.all _) (.inr ⟨rfl,(by rw [cj];simp [p5,g1]),_,_,rfl⟩)
  rintro _ _ ⟨rfl,h⟩ I;obtain ⟨U,rfl⟩:=gP h;rw [nil_append] at I ⊢;exact absurd U ba
 refine aa.ds 14 C cE ?_;refine dS ?_;by_cases g2:p.methods.length≤16;rotate_left
 ·refine aa.c2 20 C cE ?_
  refine ew ?_;refine aa.b9 C C C C C (ha _) I .nil ?_ ?_;rotate_left
  ·rintro _ _ ⟨rfl,h⟩ I
   obtain ⟨az,rfl⟩:=gQ h;rw [nil_append] at I ⊢;exact Fin.fc I aM (aH.all _) (.inr ⟨rfl,(by rw [cj];simp [p5,g2]),_,_,rfl⟩)
  rintro _ _ ⟨rfl,h⟩ I;obtain ⟨U,rfl⟩:=gP h;rw [nil_append] at I ⊢;exact absurd U ba
 refine aa.ds 20 C cE ?_;refine dS ?_;by_cases g3:p.nodes.length≥1;rotate_left
 ·refine aa.c2 26 C cE ?_
  refine ew ?_;refine aa.b9 C C C C C (ha _) I .nil ?_ ?_;rotate_left
  ·rintro _ _ ⟨rfl,h⟩ I
   obtain ⟨az,rfl⟩:=gQ h;rw [nil_append] at I ⊢;exact Fin.fc I aM (aH.all _) (.inr ⟨rfl,(by rw [cj];simp [p5,show ¬ 1≤p.nodes.length by omega]),_,_,rfl⟩)
  rintro _ _ ⟨rfl,h⟩ I;obtain ⟨U,rfl⟩:=gP h;rw [nil_append] at I ⊢;exact absurd U ba
 refine aa.ds 26 C cE ?_;refine dS ?_;refine aa.b9 C C C C C (ha _) I .nil ?_ ?_;rotate_left
 ·rintro _ _ ⟨rfl,h⟩ I
  obtain ⟨az,rfl⟩:=gQ h;rw [nil_append] at I ⊢;exact Fin.fc I aM (aH.all _) (.inr ⟨rfl,(by rw [cj];simp at az;simp [p5,show ¬ p.nodes.length≤120 by omega]),_,_,rfl⟩)
 rintro _ _ ⟨rfl,h⟩ I;obtain ⟨g4,rfl⟩:=gP h;rw [nil_append] at I ⊢;have g4:p.nodes.length≤120:=by simp at g4;omega
 have Yp:p5 p=p.dw.all (fun n=>decide (n≥1)&&decide (n≤3)):=by
  unfold p5;rw [decide_eq_true g1,decide_eq_true g2,decide_eq_true g3,decide_eq_true g4];rfl
 rw [Yp] at cj;refine bB ?_;refine ad.b0 [0,1,34,35] C I (σ:=Nat) (fun j=>[(36,.int .i64 (j:Int))]) (fun _=>[(.own dI,.box 23 [v0])]) (fun j=>j≤p.dw.length∧p.dw.all (fun n=>decide (n≥1)&&decide (n≤3))=(p.dw.drop j).all (fun n=>decide (n≥1)&&decide (n≤3))) (fun j=>p.dw.length-j) 0 ⟨zero_le _,rfl⟩ (ck C) aY ?_;rintro j ⟨aK,ak⟩ I
 try simp only at aK ak I ⊢
 refine b2 ?_;refine ad.cond C (fun ar=>?_) (fun aV=>?_)
 ·have ar:j<p.dw.length:=by simpa using ar
  obtain ⟨x,ab,bL⟩:=bV (f:=bb) ar;rw [drop_cons ab,all_cons] at ak;unfold bb at bL;refine dC ?_;by_cases g5:x≥1;rotate_left
  ·refine aa.c2 42 C (decide_eq_false g5) ?_
   refine ew ?_;refine aa.b9 C C C C C (ha _) I .nil ?_ ?_;rotate_left
   ·rintro _ _ ⟨rfl,h⟩ I
    obtain ⟨az,rfl⟩:=gQ h;rw [nil_append] at I ⊢;exact Fin.fc I aM (aH.all _) (.inr ⟨rfl,(by rw [cj,ak,decide_eq_false g5];rfl),_,_,rfl⟩)
   rintro _ _ ⟨rfl,h⟩ I;obtain ⟨bD,rfl⟩:=gP h;rw [nil_append] at I ⊢;exact absurd bD ba
  refine aa.ds 42 C (decide_eq_true g5) ?_;rw [decide_eq_true g5,Bool.true_and] at ak;refine dS ?_;refine aa.b9 C C C C C (ha _) I .nil ?_ ?_;rotate_left
  ·rintro _ _ ⟨rfl,h⟩ I
   obtain ⟨az,rfl⟩:=gQ h;rw [nil_append] at I ⊢;exact Fin.fc I aM (aH.all _) (.inr ⟨rfl,(by rw [cj,ak,show decide (x≤3)=false from az];rfl),_,_,rfl⟩)
  rintro _ _ ⟨rfl,h⟩ I;obtain ⟨bD,rfl⟩:=gP h;rw [nil_append] at I ⊢;rw [show decide (x≤3)=true from bD,Bool.true_and] at ak;refine fu ?_;exact bn.mk (j+1) I ⟨ar,ak⟩ b' aY (by show p.dw.length-(j+1)<p.dw.length-j;omega)
 have aV:j=p.dw.length:=by simp at aV;omega
 subst aV;rw [ef (le_refl _),all_nil] at ak;have ru:=ak;rw [ak,if_pos C] at cj;have Yq:=Yg (-1) p.nodes.length g3 ag;have hlen:((p.nodes.map jj).length:Int)=(p.nodes.length:Int):=by rw [length_map]
 refine bB ?_;refine aa.b9 C C C C (by rw [length_map];rfl) Yq I .nil ?_ (fun _ _ ⟨_,h,_⟩ _=>by cases h);rintro _ _ ⟨b,⟨⟩,rfl⟩ I;rw [cons_append,nil_append] at I ⊢;refine Kl I ?_;intro I;refine ad.b0 [0,1,4,5,57,58] C I (σ:=Nat×List Int) (fun q=>[(59,.int .i64 (q.1:Int))]) (fun q=>gq dI b q.2) (fun q=>q.1≤p.methods.length∧q.2.length=p.nodes.length∧nI p p.methods (replicate p.nodes.length (-1))=nI p (p.methods.drop q.1) q.2) (fun q=>p.methods.length-q.1) (0,replicate p.nodes.length (-1)) ⟨zero_le _,List.length_replicate,rfl⟩ (ck C) (by simp only [gq,List.length_replicate];exact aY) ?_;rintro ⟨j,out⟩ ⟨aK,gh,ak⟩ I
 try simp only at aK gh ak I ⊢
 refine b2 ?_;refine ad.cond C (fun ar=>?_) (fun aV=>?_)
 ·have ar:j<p.methods.length:=by simpa using ar
  obtain ⟨m,ab,bL⟩:=bV (f:=lB) ar;have gb:=mem_of_getElem? ab;rw [drop_cons ab,nI] at ak;have ca:=aE.facts m gb;have Bw:=UM (b6 p) lG m.fact ag;have dn:=XV (b6 p) m.fact.size m.fact (le_refl _) ag;rw [aj.bW] at Bw dn;unfold aj.cells at Bw dn;unfold lB nE at bL;refine ea ?_;by_cases k8:m.kind≥1;rotate_left
  ·refine aa.c2 66 C (decide_eq_false k8) ?_
   refine ew ?_;refine aa.b9 C C C C C (ha _) I .nil ?_ ?_;rotate_left
   ·rintro _ _ ⟨rfl,h⟩ I
    obtain ⟨az,rfl⟩:=gQ h;rw [nil_append] at I ⊢;exact Fin.fc I aM (aH.all _) (.inr ⟨rfl,(by rw [cj,ak];simp [r5,k8]),_,_,rfl⟩)
   rintro _ _ ⟨rfl,h⟩ I;obtain ⟨U,rfl⟩:=gP h;rw [nil_append] at I ⊢;exact absurd U ba
  refine aa.ds 66 C (decide_eq_true k8) ?_;refine dS ?_;by_cases gN:m.kind≤4;rotate_left
  ·refine aa.c2 71 C (decide_eq_false gN) ?_
   refine ew ?_;refine aa.b9 C C C C C (ha _) I .nil ?_ ?_;rotate_left
   ·rintro _ _ ⟨rfl,h⟩ I
    obtain ⟨az,rfl⟩:=gQ h;rw [nil_append] at I ⊢;exact Fin.fc I aM (aH.all _) (.inr ⟨rfl,(by rw [cj,ak];simp [r5,gN]),_,_,rfl⟩)
   rintro _ _ ⟨rfl,h⟩ I;obtain ⟨U,rfl⟩:=gP h;rw [nil_append] at I ⊢;exact absurd U ba
  refine aa.ds 71 C (decide_eq_true gN) ?_;refine dS ?_;by_cases r6:m.gen≥0;rotate_left
  ·refine aa.c2 76 C (decide_eq_false r6) ?_
   refine ew ?_;refine aa.b9 C C C C C (ha _) I .nil ?_ ?_;rotate_left
   ·rintro _ _ ⟨rfl,h⟩ I
    obtain ⟨az,rfl⟩:=gQ h;rw [nil_append] at I ⊢;exact Fin.fc I aM (aH.all _) (.inr ⟨rfl,(by rw [cj,ak];simp [r5,r6]),_,_,rfl⟩)
   rintro _ _ ⟨rfl,h⟩ I;obtain ⟨U,rfl⟩:=gP h;rw [nil_append] at I ⊢;exact absurd U ba
  refine aa.ds 76 C (decide_eq_true r6) ?_;obtain ⟨g,aw⟩:∃ g:Nat,m.gen=g:=⟨m.gen.toNat,by omega⟩;have Yr:r5 p m=(decide (g<p.dw.length)&&(h' (b6 p) m.fact&&decide (iW m.fact≤p.dw.getD g 0))):=by
   unfold r5;rw [decide_eq_true k8,decide_eq_true gN,decide_eq_true r6,aw,toNat_natCast];simp
  rw [Yr,aw,toNat_natCast] at ak;rw [aw];refine dS ?_;refine aa.b9 C C C C C (ha _) I .nil ?_ ?_;rotate_left
  ·rintro _ _ ⟨rfl,h⟩ I
   obtain ⟨az,rfl⟩:=gQ h;rw [nil_append] at I ⊢;exact Fin.fc I aM (aH.all _) (.inr ⟨rfl,(by rw [cj,ak,show decide (g<p.dw.length)=false by simpa using az];rfl),_,_,rfl⟩)
  rintro _ _ ⟨rfl,h⟩ I;obtain ⟨r7,rfl⟩:=gP h;rw [nil_append] at I ⊢;have r7:g<p.dw.length:=by simpa using r7
  rw [decide_eq_true r7,Bool.true_and] at ak;obtain ⟨x,Bx,Ys⟩:=bV (f:=bb) r7;have kj:p.dw.getD g 0=x:=by rw [getD_eq_getElem?_getD,Bx];rfl
  have abV:1≤x∧x≤3:=by
   have:=List.all_eq_true.1 ru x (mem_of_getElem? Bx);simpa using this
  rw [kj] at ak;unfold bb at Ys;cases aZ:h' (b6 p) m.fact with
  | false=>
   rw [aZ] at Bw;simp only [false_eq_true,if_false] at Bw;refine n4 ?_;refine aJ.b9 C C C C C C (ha _) I .nil ?_ ?_;rotate_left
   ·rintro _ _ ⟨rfl,h⟩ I
    obtain ⟨az,rfl⟩:=gQ h;rw [nil_append] at I ⊢;exact Fin.fc I aM (aH.all _) (.inr ⟨rfl,(by rw [cj,ak,aZ];rfl),_,_,rfl⟩)
   rintro _ _ ⟨rfl,h⟩ I;obtain ⟨U,rfl⟩:=gP h;rw [nil_append] at I ⊢;exact absurd U ba
  | true=>
  rw [aZ,if_pos C] at Bw;rw [aZ,Bool.true_and] at ak;have dn:=dn (rW m.fact (b6 p) 12 24 aZ);refine n4 ?_;refine aJ.b9 C C C C C C (ha _) I .nil ?_ ?_;rotate_left
  ·rintro _ _ ⟨rfl,h⟩ I
   obtain ⟨az,rfl⟩:=gQ h;rw [nil_append] at I ⊢;exact Fin.fc I aM (aH.all _) (.inr ⟨rfl,(by rw [cj,ak,az];rfl),_,_,rfl⟩)
  rintro _ _ ⟨rfl,h⟩ I;obtain ⟨Yt,rfl⟩:=gP h;rw [nil_append] at I ⊢;rw [Yt,if_pos C] at ak;have vh:=N3 p aE ru dI b out gh g4 m.node x (tz m.kind) ag;unfold cL at vh;by_cases aD:m.kind=1
  ·rw [aD] at vh ak ⊢
   refine n4 ?_;refine aJ.gM C C C C C C C vh I (aH.all _) ?_ ?_;rotate_left
   ·rintro _ _ ⟨bR,eW,rfl,(⟨h,_⟩|⟨⟨⟩,av⟩)⟩ I
    ·cases h
    rw [av] at ak;exact Fin.fc I aM (aH.all _) (.inr ⟨rfl,by rw [cj,ak];rfl,_,_,rfl⟩)
   rintro _ _ ⟨bR,eW,rfl,(⟨⟨⟩,av⟩|⟨h,_⟩)⟩ I;rotate_left
   ·cases h
   rw [av] at ak;rw [append_nil] at I ⊢;refine fR ?_;exact bn.mk (j+1,bR) I ⟨ar,eW,ak⟩ b' (aH.all _) oz
  ·have kK:tz m.kind=decide (m.kind=4):=by unfold tz;rw [decide_eq_false aD];rfl
   rw [kK] at vh ak;refine n4 ?_;refine aJ.split 115 C (fun h=>absurd (of_decide_eq_true h) aD) (fun _=>?_);refine ly ?_;refine aJ.gM C C C C C C C vh I (aH.all _) ?_ ?_;rotate_left
   ·rintro _ _ ⟨bR,eW,rfl,(⟨h,_⟩|⟨⟨⟩,av⟩)⟩ I
    ·cases h
    rw [av] at ak;exact Fin.fc I aM (aH.all _) (.inr ⟨rfl,by rw [cj,ak];rfl,_,_,rfl⟩)
   rintro _ _ ⟨bR,eW,rfl,(⟨⟨⟩,av⟩|⟨h,_⟩)⟩ I;rotate_left
   ·cases h
   rw [av] at ak;rw [append_nil] at I ⊢;refine fR ?_;exact bn.mk (j+1,bR) I ⟨ar,eW,ak⟩ b' (aH.all _) oz
 have aV:j=p.methods.length:=by simp at aV;omega
 subst aV;rw [ef (le_refl _),nI] at ak;rw [ak] at cj;have vh:=N3 p aE ru dI b out gh g4 p.main 0 false ag;unfold cL at vh;refine bB ?_;refine aa.gM C C C C C C vh I (aH.all _) ?_ ?_;rotate_left
 ·rintro _ _ ⟨bR,eW,rfl,(⟨h,_⟩|⟨⟨⟩,av⟩)⟩ I
  ·cases h
  exact Fin.fc I aM (aH.all _) (.inr ⟨rfl,by rw [cj];show (visitM p false 12 p.main 0 out).bind _=none;rw [av];rfl,_,_,rfl⟩)
 rintro _ _ ⟨bR,eW,rfl,(⟨⟨⟩,av⟩|⟨h,_⟩)⟩ I;rotate_left
 ·cases h
 have cj:nJ p=if bR.contains (-1) then none else some bR:=by
  rw [cj];show (visitM p false 12 p.main 0 out).bind _=_;rw [av];rfl
 rw [append_nil] at I ⊢;have r9:=MS b bR.length bR [] (-1) ag;unfold u6 at r9;rw [append_nil] at r9;unfold gq at I;refine cG I ?_;intro I;refine aa.b9 rfl rfl rfl rfl rfl r9 I aY ?_ (fun _ _ ⟨h,_⟩ _=>by cases h);rintro _ _ ⟨⟨⟩,rfl⟩ I;simp only [cons_append,nil_append] at I ⊢;refine dS ?_;refine aa.b9 C C C C C (ha _) I .nil ?_ ?_;rotate_left
 ·rintro _ _ ⟨rfl,h⟩ I
  obtain ⟨az,rfl⟩:=gQ h;rw [nil_append] at I ⊢;exact Fin.fc I aM (.cons (.there .here) (.cons .here .nil)) (.inr ⟨rfl,by rw [cj,show bR.contains (-1)=true by simpa using az];rfl,_,_,rfl⟩)
 rintro _ _ ⟨rfl,h⟩ I;obtain ⟨U,rfl⟩:=gP h;rw [nil_append] at I ⊢;rw [show bR.contains (-1)=false by simpa using U,if_neg ba] at cj;refine fI ?_;exact Fin.bz I C aM (.cons (.there .here) (.cons .here .nil)) (.inl ⟨rfl,b,bR,eW,cj,rfl⟩);done
def Yu (p:bP) (o:eB) (K:a'):Prop:=
 (∃ b out,out.length=p.nodes.length∧nJ p=some out∧o = .ret (.cu [eu b out.length out.length,.bool true])∧K=[(.own b,.box 3 (out.map bb))])∨(nJ p=none∧(∃ v,o = .ret (.cu [v,.bool false]))∧K=[])
theorem Yv (p:bP) (aE:fN p):bE Tryz.prog 187 [cJ p] ([]) (Yu p):=by
 have aq:=bC;refine bE.bj ai Tryz.func187 C C fun s I=>?_
 unfold cJ cL
 repeat (first|(refine CT ?_)|refine aa.d' ai I C C C C C C C (fun cy I=>?_))
 have aZ:=Ya 221 [] [.bA (cL p) 0,.ptr cy 0] [(.own cy,.box 23 [.aC 0 [] .nil])] (fun K=>∃ b out,out.length=p.nodes.length∧nJ p=some out∧K=gq cy b out) (fun K=>nJ p=none∧∃ v R,K=(.own cy,.box 23 [v])::R) (dt.mono (Yn p aE cy (.aC 0 [] .nil)) (fun o K h=>by
  rcases h with ⟨U,b,out,ae,an,bd⟩|⟨U,ae,an⟩
  ·exact .inl ⟨U,b,out,ae,an,bd⟩
  ·exact .inr ⟨U,ae,an⟩))
 unfold cL at aZ;refine aa.b9 C C C C C aZ I aY ?_ ?_;rotate_left
 ·rintro x aO (⟨h,_⟩|⟨h,_⟩) I
  ·cases h
  ·cases h
 rintro x aO (⟨⟨⟩,b,out,aB,eQ,rfl⟩|⟨⟨⟩,eQ,v,R,rfl⟩) I
 ·unfold gq at I ⊢
  simp only [cons_append,nil_append,append_nil] at I ⊢;refine cG I ?_;intro I;exact Fin.bz I C aM (.cons (.there .here) .nil) (.inl ⟨b,out,aB,eQ,rfl,rfl⟩)
 ·simp only [cons_append,nil_append,append_nil] at I ⊢
  refine cG I ?_;intro I;exact Fin.bz I C aM .nil (.inr ⟨eQ,⟨v,rfl⟩,rfl⟩)
theorem Yw (p:bP) (aE:fN p):aR Tryz.prog 146 [cJ p] (.int .i64 (if fG p then 0 else 2)):=by
 have aq:=bC;refine aR.bj ai Tryz.func146 C C fun s I=>?_
 have bO:=Yv p aE;unfold cJ cL at *;unfold fG;refine dL ?_;refine aa.b9 C C C C C bO I .nil ?_ ?_;rotate_left
 ·rintro x aO (⟨b,out,_,_,h,_⟩|⟨_,⟨v,h⟩,_⟩) I
  ·cases h
  ·cases h
 rintro x aO (⟨b,out,_,eQ,⟨⟩,rfl⟩|⟨eQ,⟨v,⟨⟩⟩,rfl⟩) I
 ·rw [eQ]
  refine bB ?_;exact bm I
 ·rw [eQ]
  refine ew ?_;exact bm I
def N5:af := .agg [.aC 0 [] .nil,.aC 0 [] .nil]
theorem Yx {p:bP} (h:fG p=true):o9 p=true:=by
 unfold fG nJ at h;cases aA:o9 p with
 | true=>rfl
 | false=>rw [aA,Bool.false_and] at h;cases h
theorem vi {p:bP} (h:fG p=true):fT (b6 p):=GJ (Yx h)
theorem Im (p:bP) (aE:fN p):aR Tryz.prog 100 [cJ p] (.cu [if fG p then eF (b6 p) else N5,.int .i64 (if fG p then 0 else 2)]):=by
 have aq:=bC;refine aR.bj ai Tryz.func100 C C fun s I=>?_
 have aA:=Yw p aE;have hw:=Ma p aE;unfold cJ cL at *;cases dg:fG p with
 | false=>
  rw [dg] at aA;unfold N5
  repeat (first|(refine SL I ?_;clear I;intro I)|refine aa.d' ai I rfl rfl rfl rfl rfl rfl rfl (fun cy I=>?_)|(refine pM ?_))
  exact Fin.cp I (rT C C (bp.get a1 I) C C) aM
 | true=>
  rw [dg] at aA;have abW:(fF 0 p.cl).length≤40:=(vi dg).bl;have hw:=hw ag;unfold eF eO at *
  repeat (first|(refine SM I ?_;clear I;intro I)|refine aa.d' ai I rfl rfl rfl rfl rfl rfl rfl (fun cy I=>?_)|(refine pM ?_))
  exact Fin.cp I (rT C C (bp.get a1 I) C C) aM
end Go.Proofs.YtnafpeohfbglmaaGreat
namespace Go.dv
mutual
theorem N6:∀ (f:aj) (w:bx) (d:Nat) (k:Int),(e1 w d k f).1=true→0≤(e1 w d k f).2∧((iy f).length:Int)+(e1 w d k f).2≤k
  | .mk o a p c n ks,w,d,k,h=>by
    rw [e1] at h ⊢;split at h
    · cases h
    · rename_i aD
      rw [if_neg aD];split at h
      · rename_i az
        rw [if_pos az];have kv:0≤k-1:=by
          simp only [Bool.or_eq_true,decide_eq_true_eq,not_or] at aD;omega
        obtain ⟨U,ae⟩:=N7 ks w (d-1) (k-1) kv h;refine ⟨U,?_⟩;rw [iy];split
        · simp only [length_cons,length_nil];omega
        · omega
      · cases h
theorem N7:∀ (l:List aj) (w:bx) (d:Nat) (k:Int),0≤k→(gX w d k l).1=true→0≤(gX w d k l).2∧((j' l).length:Int)+(gX w d k l).2≤k
  | [],_,_,_,aD,_=>by rw [gX,j'];exact ⟨aD,by simp⟩
  | x::r,w,d,k,aD,h=>by
    rw [gX] at h ⊢;split at h
    · rename_i ab
      rw [if_pos ab,j',length_append];obtain ⟨U,ae⟩:=N6 x w d k ab;obtain ⟨an,bd⟩:=N7 r w d _ U h;exact ⟨an,by push_cast;omega⟩
    · cases h
end
theorem N8 {w:bx} {f:aj} (h:h' w f=true):(iy f).length≤24:=by
 have:=N6 f w 12 24 h;omega
mutual
theorem D6:∀ (f:aj) (w:bx),gi w f=true→∀ x∈iy f,gi w x=true∧x.cU=true
  | .mk o a p c n ks,w,h,x,ab=>by
    rw [iy] at ab;split at ab
    · rename_i aB
      rw [mem_singleton] at ab;subst ab;exact ⟨h,aB⟩
    · rw [gi,and_eq_true] at h
      exact N9 ks w h.2 x ab
theorem N9:∀ (l:List aj) (w:bx),j5 w l=true→∀ x∈j' l,gi w x=true∧x.cU=true
  | [],_,_,x,ab=>by cases ab
  | y::r,w,h,x,ab=>by
    rw [j5,and_eq_true] at h;rw [j'] at ab;rcases mem_append.1 ab with ab|ab
    · exact D6 y w h.1 x ab
    · exact N9 r w h.2 x ab
end
theorem rv {w:bx} {f:aj} (h:gi w f=true) (aB:f.cU=true):f.path.length≤2:=by
 rw [m0,and_eq_true] at h;have h:=h.1;unfold h3 at h;rw [aB] at h;simp only [and_eq_true,if_true,decide_eq_true_eq] at h;exact h.2.2.2.2.2.1
theorem Yy (l:List aj) (f:aj):(hA l f).length≤l.length+1:=by
 unfold hA;split
 ·omega
 ·simp
theorem N' {l:List aj} {f x:aj} (h:x∈hA l f):x∈l∨x=f:=by
 unfold hA at h;split at h
 ·exact .inl h
 ·rcases mem_append.1 h with h|h
  ·exact .inl h
  ·exact .inr (mem_singleton.1 h)
theorem Io {p:bP}:∀ {l:List hJ} {out o:List Int},nI p l out=some o→∀ m∈l,r5 p m=true
  | x::r,out,o,h,m,hm=>by
    rw [nI] at h;split at h
    · rename_i ab
      cases av:visitM p (tz x.kind) 12 x.node (p.dw.getD x.gen.toNat 0) out with
      | none=>rw [av] at h;cases h
      | some bR=>
        rw [av] at h;rcases mem_cons.1 hm with rfl|hm
        · exact ab
        · exact Io (l:=r) h m hm
    · cases h
theorem D7 {p:bP} (h:fG p=true):o9 p=true∧p5 p=true∧∃ o,nI p p.methods (replicate p.nodes.length (-1))=some o:=by
 unfold fG nJ at h;split at h
 ·rename_i aA
  rw [and_eq_true] at aA;refine ⟨aA.1,aA.2,?_⟩;cases hm:nI p p.methods (replicate p.nodes.length (-1)) with
  | none=>rw [hm] at h;cases h
  | some o=>exact ⟨o,rfl⟩
 ·cases h
theorem By {p:bP} (h:fG p=true) {m:hJ} (hm:m∈p.methods):h' (b6 p) m.fact=true:=by
 obtain ⟨-,-,o,ah⟩:=D7 h;have:=Io ah m hm;unfold r5 at this;simp only [and_eq_true] at this;exact this.2.2.2.2.1
theorem vj {p:bP} (h:fG p=true):p.methods.length≤16∧p.dw.length≤8:=by
 obtain ⟨-,aB,-⟩:=D7 h;unfold p5 at aB;simp only [and_eq_true,decide_eq_true_eq] at aB;exact ⟨aB.2.1,aB.1⟩
def iY (w:bx) (l:List aj):Prop:=∀ x∈l,gi w x=true∧x.cU=true
theorem Ip {w:bx} (gen:Int):∀ (c0 l:List aj),iY w l→iY w c0→iY w (c0.foldl hA l)∧(c0.foldl hA l).length≤l.length+c0.length
  | [],l,h,_=>⟨h,le_refl _⟩
  | x::r,l,h,a8=>by
    have U:iY w (hA l x):=fun y ay=>by
      rcases N' ay with ay|rfl
      · exact h y ay
      · exact a8 _ mem_cons_self
    obtain ⟨ae,an⟩:=Ip (w:=w) gen r (hA l x) U (fun y ay=>a8 y (mem_cons_of_mem _ ay));have:=Yy l x;exact ⟨ae,by rw [foldl_cons,length_cons];omega⟩
theorem Iq {p:bP} (aE:fG p=true) (gen:Int):∀ (ms:List hJ) (l:List aj),(∀ m∈ms,m∈p.methods)→iY (b6 p) l→iY (b6 p) (ms.foldl (ih gen) l)∧(ms.foldl (ih gen) l).length≤l.length+24*ms.length
  | [],l,_,h=>⟨h,le_refl _⟩
  | m::r,l,hm,h=>by
    have aZ:=By aE (hm m mem_cons_self);have U:iY (b6 p) (ih gen l m)∧(ih gen l m).length≤l.length+24:=by
      unfold ih;split
      · obtain ⟨ae,an⟩:=Ip (w:=b6 p) gen (iy m.fact) l h (D6 m.fact _ (rW _ _ _ _ aZ))
        have:=N8 aZ;exact ⟨ae,by omega⟩
      · exact ⟨h,by omega⟩
    obtain ⟨bd,bD⟩:=Iq aE gen r (ih gen l m) (fun x ab=>hm x (mem_cons_of_mem _ ab)) U.1;exact ⟨bd,by rw [foldl_cons,length_cons];omega⟩
theorem D8 {p:bP} (aE:fG p=true) (gen:Int):iY (b6 p) (dc p gen)∧(dc p gen).length≤384:=by
 obtain ⟨U,ae⟩:=Iq aE gen p.methods [] (fun _ h=>h) (fun _ h=>by cases h);have:=(vj aE).1;exact ⟨U,by unfold dc;simp only [length_nil] at ae;omega⟩
end Go.dv
namespace Go.Proofs.YtnafpeohfbglmaaGreat
open Go.cW Go.dv
def eh (p:bP) (n:Int) (c0 vs:af) (aq cI:Nat):List af:=[.aC 3 (p.cl.map ji) .bc,.int .i64 p.bl,bg p.dw,.aC 9 (p.methods.map lB) .bc,.aC 3 (p.nodes.map jj) .bc,.int .i64 p.main,.int .i64 n,cV (b6 p).ps,bg (b6 p).owner,c0,vs,.map aq,.map cI]
def nM (p:bP) (n:Int) (cr aq cI:Nat) (bt:yR) (l:List aj):a':=(.own cr,.box 110 (eh p n (ri bt l) (.aC 0 [] .nil) aq cI))::(.own aq,.map [])::(.own cI,.map [])::p' bt
def c4 (l:List aj):af := .aC 6 (l.map aj.bJ) .bc
def Yz (p:bP) (n:Int) (o:eB) (K:a'):Prop:=
 (hp p n=0∧∃ cr aq cI,o = .ret (.cu [.ptr cr 0,.int .i64 0])∧K=[(.own cr,.box 110 (eh p n (c4 (dc p n)) (.aC 0 [] .nil) aq cI)),(.own aq,.map []),(.own cI,.map [])]) ∨
 (hp p n≠0∧(∃ v,o = .ret (.cu [v,.int .i64 (hp p n)]))∧K=[])
theorem Oa {cs:List af} {l:List aj} {x:aj} {zc:List af} (bO:zc.length=6) (h:cs.take ((l.length+1)*6)=(l.map aj.cells).flatten++zc) :
  (eU (l.length*6) x.cells cs).length=cs.length∧(eU (l.length*6) x.cells cs).take ((l.length+1)*6)=(l.map aj.cells).flatten++x.cells:=by
 have U:=Nk (sz:=6) (cs:=cs) (xss:=l.map aj.cells++[zc]) (n:=l.length+1) (j:=l.length) (ys:=zc) (ys':=x.cells) (fun c aA=>by
  rcases mem_append.1 aA with aA|aA
  ·exact HL l c aA
  ·rw [mem_singleton.1 aA];exact bO) (by rw [h];simp) (by rw [List.getElem?_append_right ba];simp) C
 refine ⟨U.1,U.2.trans ?_⟩;rw [List.set_append_right _ _ ba];simp
theorem D9 (p:bP) (aE:fN p) (n:Int):bE Tryz.prog 58 [cJ p,.int .i64 n] [] (Yz p n):=by
 have aq:=bC;have hw:=Im p aE;have jO:=aE.dw;have hy:=aE.Dn;have dH:hp p n=hp p n:=rfl
 conv at dH=>rhs;unfold hp
 refine bE.bj ai Tryz.func58 C C fun s I=>?_
 unfold cJ cL at *;cases dg:fG p with
 | false=>
  rw [dg] at hw;simp only [false_eq_true,if_false] at hw;rw [dg,Bool.false_and,if_neg ba] at dH;refine ea ?_;exact Fin.bz I C aM .nil (.inr ⟨by omega,⟨_,by rw [dH]⟩,rfl⟩)
 | true=>
 rw [dg,if_pos C,if_pos C] at hw;rw [dg,Bool.true_and] at dH;have Ir:mG p n=(decide (n≥0)&&decide (n<(p.dw.length:Int))):=rfl;obtain ⟨tS,Ob⟩:=vj dg;refine ea ?_;by_cases B9:n<0
 ·refine aa.ds 23 C (decide_eq_true B9) ?_
  rw [Ir,show decide (n≥0)=false by simp;omega,Bool.false_and,if_neg ba] at dH;refine ew ?_;exact Fin.bz I C aM .nil (.inr ⟨by omega,⟨_,by rw [dH]⟩,rfl⟩)
 refine aa.c2 23 C (decide_eq_false B9) ?_;refine fI ?_;refine ad.cond C (fun zq=>?_) (fun zq=>?_)
 ·rw [Ir,show decide (n<(p.dw.length:Int))=false by simp [bg] at zq ⊢;omega,Bool.and_false,if_neg ba] at dH
  refine gH ?_;exact Fin.bz I C aM .nil (.inr ⟨by omega,⟨_,by rw [dH]⟩,rfl⟩)
 rw [Ir,show decide (n<(p.dw.length:Int))=true by simp [bg] at zq ⊢;omega,show decide (n≥0)=true by simp;omega,if_pos (by rfl)] at dH;refine dC ?_;refine aa.rN I C C C C (fun dO I=>?_);refine aa.rN I C C C C (fun cI I=>?_);refine cx C ?_;refine aa.jL I C C C C C C (fun cr I=>?_);refine ea ?_;refine ad.b0 [1,8,38,39] C I (σ:=Nat×yR×List aj) (fun q=>[(40,.int .i64 (q.1:Int))]) (fun q=>nM p n cr dO cI q.2.1 q.2.2)
  (fun q=>q.1≤p.methods.length∧HK q.2.1 q.2.2∧iY (b6 p) q.2.2∧q.2.2.length≤24*q.1∧dc p n=(p.methods.drop q.1).foldl (ih n) q.2.2) (fun q=>p.methods.length-q.1) (0,none,[])
  ⟨zero_le _,rfl,(fun x h=>absurd h List.not_mem_nil:iY (b6 p) []),zero_le _,rfl⟩ (ck C) (by simp only [nM,p',eh,ri];exact aY) ?_
 rintro ⟨j,bt,l⟩ ⟨aK,dd,cX,my,ak⟩ I
 try simp only at aK dd cX my ak I ⊢
 refine b2 ?_;refine ad.cond C (fun ar=>?_) (fun aV=>?_);rotate_left
 ·have aV:j=p.methods.length:=by simp at aV;omega
  rw [ef ag,List.foldl_nil] at ak;subst ak;unfold nM at I ⊢;rcases bt with _|⟨g,cap,cs⟩
  ·have br:dc p n=[]:=dd
   have jI:c4 (dc p n) = .aC 6 [] .bc:=by rw [br];rfl
   refine ad.rk I (eh p n (c4 (dc p n)) (.aC 0 [] .nil) dO cI) .here (by
    rw [jI];unfold eh
    repeat (first|exact cR.nil|refine cR.cons (by first|exact aM|exact aS.empty) ?_)) (fun I=>?_)
   unfold c4 at I ⊢;refine cG I ?_;intro I;refine ad.cond C (fun ij=>?_) (fun ij=>?_)
   ·have ij:¬ (dc p n).length≤7:=by simp [br] at ij ⊢ <;> omega
    rw [if_neg ij] at dH;refine gH ?_;exact Fin.bz I C aM .nil (.inr ⟨by omega,⟨_,by rw [dH]⟩,rfl⟩)
   ·have ij:(dc p n).length≤7:=by simp [br] at ij ⊢ <;> omega
    rw [if_pos ij] at dH;refine bB ?_;exact Fin.bz I C aM (by simp only [eh];exact aY) (.inl ⟨dH,cr,dO,cI,rfl,rfl⟩)
  ·obtain ⟨k1,kY,Bz⟩:=dd
   unfold p' eh ri at I ⊢;refine ad.Bf I 9 .here (.there (.there .here)) C Bz (length_map _) (HL _) kY ag (fun I=>?_);have jI:((dc p n).map aj.cells).map af.agg=(dc p n).map aj.bJ:=by
    rw [map_map];exact List.map_congr_left (fun x _=>(aj.bW x).symm)
   rw [jI] at I ⊢
   try unfold c4 at I
   refine cG I ?_;intro I;refine ad.cond C (fun ij=>?_) (fun ij=>?_)
   ·have ij:¬ (dc p n).length≤7:=by simp [Nat.not_le] at ij ⊢ <;> omega
    rw [if_neg ij] at dH;refine gH ?_;exact Fin.bz I C aM .nil (.inr ⟨by omega,⟨_,by rw [dH]⟩,rfl⟩)
   ·have ij:(dc p n).length≤7:=by simp [Nat.not_le] at ij ⊢ <;> omega
    rw [if_pos ij] at dH;refine bB ?_;exact Fin.bz I C aM (by simp only [eh];exact aY) (.inl ⟨dH,cr,dO,cI,rfl,rfl⟩)
 have ar:j<p.methods.length:=by simpa using ar
 obtain ⟨m,ab,bL⟩:=bV (f:=lB) ar;have gb:=mem_of_getElem? ab;have ca:=aE.facts m gb;have ry:=By dg gb;have kj:=rW _ _ _ _ ry;have k3:=N8 ry;have Is:=D6 m.fact _ kj;have y3:=WX m.fact;have n6:=WW m.fact ag;rw [aj.bW] at y3;unfold aj.cells at y3 n6;rw [drop_cons ab,foldl_cons] at ak;unfold lB nE at bL;refine ea ?_;refine ad.cond C (fun aw=>?_) (fun aw=>?_)
 ·have aw:m.gen≠n:=by simpa using aw
  rw [show ih n l m=l by unfold ih;rw [if_neg aw]] at ak;refine dB ?_;exact bn.mk (j+1,bt,l) I ⟨ar,dd,cX,by show l.length≤24*(j+1);omega,ak⟩ b' (aH.all _) oz
 have aw:m.gen=n:=by simpa using aw
 rw [show ih n l m=(iy m.fact).foldl hA l by unfold ih;rw [if_pos aw]] at ak;refine c3 ?_;refine ad.FU I C dW n6 .nil (fun rem K=>∃ rm fW,HK rm fW∧iY (b6 p) fW∧fW.length+rem.length≤24*(j+1)∧(∀ x∈rem,gi (b6 p) x=true∧x.cU=true)∧(iy m.fact).foldl hA l=rem.foldl hA fW∧K=nM p n cr dO cI rm fW) (fun _ _=>False) (fun _ _=>False) ⟨bt,l,dd,cX,by omega,Is,rfl,rfl⟩ ?_ ?_ (fun _ _ h=>h.elim) (fun _ _ h=>h.elim);rotate_left
 ·rintro K ⟨rm,fW,w4,Is,eW,-,kN,rfl⟩ I
  rw [kN,List.foldl_nil] at ak;refine fR ?_;exact bn.mk (j+1,rm,fW) I ⟨ar,w4,Is,by show fW.length≤24*(j+1);simpa using eW,ak⟩ b' (aH.all _) oz
 rintro s₁ x rem K ⟨rm,fW,w4,D',eW,qc,kN,rfl⟩ I;have y4:=qc x mem_cons_self;have L0:=rv y4.1 y4.2;have tI:=fun f11=>W3 rm fW ag w4 f11 x ag (fun y ay=>by have:=rv (D' y ay).1 (D' y ay).2;omega)
 rw [foldl_cons] at kN;rw [aj.bW];unfold aj.cells;have ct:=AE x.path .bc ag;have BA:hA fW x=if fW.any (fun y=>fy y x) then fW else fW++[x]:=rfl
 have Ea:iY (b6 p) (fW++[x]):=fun y ay=>by
  rcases mem_append.1 ay with ay|ay
  ·exact D' y ay
  ·rw [mem_singleton.1 ay];exact y4
 have Eb:(fW++[x]).length+rem.length≤24*(j+1):=by
  simp only [length_cons,length_append,length_nil] at eW ⊢;omega
 have nv:(fW++[x]).map aj.cells=fW.map aj.cells++[x.cells]:=by simp
 have Ec:((fW++[x]).map aj.cells).flatten=(fW.map aj.cells).flatten++x.cells:=by rw [nv];simp
 have tT:(fW++[x]).length=fW.length+1:=by simp
 unfold nM at I ⊢;rcases rm with _|⟨g,cap,cs⟩
 all_goals
  simp only [p',ri,oy,aj.cells] at tI;simp only [p',ri,eh] at I ⊢
 ·have br:fW=[]:=w4
  subst br
  repeat (first|(refine FJ I ?_;clear I;intro I)|refine aa.d' ai I rfl rfl rfl rfl rfl rfl rfl (fun cy I=>?_))
  refine aa.b9 rfl rfl rfl rfl rfl (tI cy) I aY ?_ (fun _ _ ⟨h,_⟩ _=>by cases h);rintro _ _ ⟨⟨⟩,rfl⟩ I;simp only [nil_append,cons_append] at I ⊢;have pr:([]:List aj).any (fun y=>fy y x)=false:=rfl;refine cG I ?_;intro I;refine ad.qD ai mixed C (bf.run C ?_);refine bf.d' 0 ai I C C C C C C C C C (fun YA I=>?_);refine bf.run C ?_;refine bf.many C (hU.c (kk.CN (i:=1) C C C (a7.cS ai I C C C C C C C a1 C (X:=fun _ _=>False)) ?_ (fun _ _ h=>False.elim h)) (hU.c (kk.CN (i:=2) C C C (a7.cS ai I C C C C C C C a1 C (X:=fun _ _=>False)) ?_ (fun _ _ h=>False.elim h)) hU.n))
  ·rintro _ _ ⟨rfl,I⟩
   refine bf.run C ?_;refine bf.cS 2 ai I C C C C C C C C C C C a1 b3 (fun I=>?_);refine bf.run C ?_;refine bf.eC 3 ai I C C C C C C C C a1 b3 ?_;refine bf.run C ?_;refine bf.done C ?_;refine uD ?_;refine ad.qC (dR [(cr,_),(cy,_)]) ai mixed C (bo.run (dR.two (bp.get a1 I) (bp.get a1 I)) C ?_);refine bo.n3 4 ai (dR.two (bp.get a1 I) (bp.get a1 I)) C C C C C C C C (fun _ h=>dR.fst h) b3 ?_;refine bo.n3 5 ai (dR.two (bp.get a1 I) (bp.get a1 I)) C C C C C C C C (fun _ h=>dR.snd h) b3 ?_;refine bo.run (dR.two (bp.get a1 I) (bp.get a1 I)) C ?_;refine bo.sq 7 ai I C C C C C C C C C et C C C C C C C dW (fun dA gz gk I _=>(dR.two (bp.get a1 I) (bp.get a1 I))) (fun dA gz gk c7 dh e3 I=>?_);refine bo.run (dR.two (bp.get a1 I) (bp.get a1 I)) C ?_;refine bo.cS 10 ai I C C C C C C C C C C C a1 b3 (fun _ => .inr C) (fun I=>?_);refine bf.done C ?_;refine fR ?_;exact At.mk (nM p n cr dO cI (some (dA,gz,gk)) ([]++[x])) I (by simp only [nM,p',ri,eh,tT];exact aY) ⟨some (dA,gz,gk),[]++[x],⟨c7,u1,by rw [Ec];exact e3⟩,Ea,Eb,fun y ay=>qc y (mem_cons_of_mem _ ay),by rw [kN,BA,pr];rfl,rfl⟩
  ·rintro _ _ ⟨rfl,I⟩
   refine bf.run C ?_;refine bf.cS 1 ai I C C C C C C C C C C C a1 b3 (fun I=>?_);refine bf.run C ?_;refine bf.eC 3 ai I C C C C C C C C a1 b3 ?_;refine bf.run C ?_;refine bf.done C ?_;refine cG I ?_;intro I;refine aa.DR ai C C C C C C C C C C ?_;refine aa.sq ai I C C C C C C C et C C C C C C C dW (fun dA gz gk c7 dh e3 I=>?_);refine cG I ?_;intro I;refine aa.fo ai ([]:List aj).length C C C C C C C C C C ba ?_;refine aa.j8 ai I _ C C C C C C C C C a1 (by rw [c7];show ([]:List aj).length*6+6≤gz*6;simp only [length_nil] at *;omega) C (fun I=>?_);obtain ⟨cb,b1⟩:=Oa (x:=x) (l:=([]:List aj)) (cs:=gk) (zc:=_) rfl e3;refine fu ?_;exact At.mk (nM p n cr dO cI (some (dA,gz,(eU (([]:List aj).length*6) x.cells gk))) ([]++[x])) I (by simp only [nM,p',ri,eh,tT];exact aY) ⟨some (dA,gz,(eU (([]:List aj).length*6) x.cells gk)),[]++[x],⟨cb.trans c7,u1,by rw [Ec];exact b1⟩,Ea,Eb,fun y ay=>qc y (mem_cons_of_mem _ ay),by rw [kN,BA,pr];rfl,rfl⟩
 ·obtain ⟨k1,kY,Bz⟩:=w4
  repeat (first|(refine FJ I ?_;clear I;intro I)|refine aa.d' ai I rfl rfl rfl rfl rfl rfl rfl (fun cy I=>?_))
  refine aa.b9 rfl rfl rfl rfl rfl (tI cy) I aY ?_ (fun _ _ ⟨h,_⟩ _=>by cases h);rintro _ _ ⟨⟨⟩,rfl⟩ I;simp only [nil_append,cons_append] at I ⊢;cases pr:fW.any (fun y=>fy y x) with
  | true=>
   refine bB ?_;exact At.mk (nM p n cr dO cI (some (g,cap,cs)) fW) I (by simp only [nM,p',ri,eh];exact aY) ⟨some (g,cap,cs),fW,⟨k1,kY,Bz⟩,D',by simp only [length_cons] at eW;omega,fun y ay=>qc y (mem_cons_of_mem _ ay),by rw [kN,BA,pr];rfl,rfl⟩
  | false=>
  refine cG I ?_;intro I;refine ad.qD ai mixed C (bf.run C ?_);refine bf.d' 0 ai I C C C C C C C C C (fun YA I=>?_);refine bf.run C ?_;refine bf.many C (hU.c (kk.CN (i:=1) C C C (a7.cS ai I C C C C C C C a1 C (X:=fun _ _=>False)) ?_ (fun _ _ h=>False.elim h)) (hU.c (kk.CN (i:=2) C C C (a7.cS ai I C C C C C C C a1 C (X:=fun _ _=>False)) ?_ (fun _ _ h=>False.elim h)) hU.n))
  ·rintro _ _ ⟨rfl,I⟩
   refine bf.run C ?_;refine bf.cS 2 ai I C C C C C C C C C C C a1 b3 (fun I=>?_);refine bf.run C ?_;refine bf.eC 3 ai I C C C C C C C C a1 b3 ?_;refine bf.run C ?_;refine bf.done C ?_;refine uD ?_;refine ad.qC (dR [(cr,_),(cy,_)]) ai mixed C (bo.run (dR.two (bp.get a1 I) (bp.get a1 I)) C ?_);refine bo.n3 4 ai (dR.two (bp.get a1 I) (bp.get a1 I)) C C C C C C C C (fun _ h=>dR.fst h) b3 ?_;refine bo.n3 5 ai (dR.two (bp.get a1 I) (bp.get a1 I)) C C C C C C C C (fun _ h=>dR.snd h) b3 ?_;refine bo.run (dR.two (bp.get a1 I) (bp.get a1 I)) C ?_;refine bo.sr 7 ai I C C C C C C C C C et C C C C a1 k1 kY C C C C yX ag (fun dA gz gk I _=>(dR.two (bp.get a1 I) (bp.get a1 I))) (fun dA gz gk c7 dh e3 I=>?_);refine bo.run (dR.two (bp.get a1 I) (bp.get a1 I)) C ?_;refine bo.cS 10 ai I C C C C C C C C C C C a1 b3 (fun _ => .inr C) (fun I=>?_);refine bf.done C ?_;refine fR ?_;exact At.mk (nM p n cr dO cI (some (dA,gz,gk)) (fW++[x])) I (by simp only [nM,p',ri,eh,tT];exact aY) ⟨some (dA,gz,gk),fW++[x],⟨by rw [tT] at *;exact c7,by rw [tT];exact dh,by rw [Ec,tT,← Bz];exact e3⟩,Ea,Eb,fun y ay=>qc y (mem_cons_of_mem _ ay),by rw [kN,BA,pr];rfl,rfl⟩
  ·rintro _ _ ⟨rfl,I⟩
   refine bf.run C ?_;refine bf.cS 1 ai I C C C C C C C C C C C a1 b3 (fun I=>?_);refine bf.run C ?_;refine bf.eC 3 ai I C C C C C C C C a1 b3 ?_;refine bf.run C ?_;refine bf.done C ?_;refine cG I ?_;intro I;refine aa.qJ ai C C C C C C C ?_;skip;refine aa.DR ai C C C C C C C C C C ?_;refine aa.sr ai I C C C C C C C et C C C C a1 k1 kY C C C C yX ag (fun dA gz gk c7 dh e3 I=>?_);refine cG I ?_;intro I;refine aa.fo ai fW.length C C C C C C C C C C ba ?_;refine aa.j8 ai I _ C C C C C C C C C a1 (by rw [c7];show fW.length*6+6≤gz*6;simp only [length_nil] at *;omega) C (fun I=>?_);obtain ⟨cb,b1⟩:=Oa (x:=x) (l:=fW) (cs:=gk) (zc:=_) rfl (by rw [← Bz];exact e3);refine fu ?_;exact At.mk (nM p n cr dO cI (some (dA,gz,(eU (fW.length*6) x.cells gk))) (fW++[x])) I (by simp only [nM,p',ri,eh,tT];exact aY) ⟨some (dA,gz,(eU (fW.length*6) x.cells gk)),fW++[x],⟨cb.trans c7,by rw [tT];exact dh,by rw [Ec,tT];exact b1⟩,Ea,Eb,fun y ay=>qc y (mem_cons_of_mem _ ay),by rw [kN,BA,pr];rfl,rfl⟩
def ep (p:bP) (n:Int) (c0 vs:af) (aq cI cr:Nat):bM×dG:=(.own cr,.box 110 (eh p n c0 vs aq cI))
theorem YB (x f:aj) (ab:x.path.length<bu) (aZ:f.path.length<bu):eE Tryz.prog (.func 175 [] [.bA f.cells 0]) [x.bJ] (.bool (fy x f)):=by
 have U:=Ly x f ab aZ;have U:aR Tryz.prog 104 [x.bJ,f.bJ] (.bool (fy x f)):=U;refine eE.fp (first:=[]) (cap:=[.bA f.cells 0]) ?_;refine aR.bj ai Tryz.func175 C C fun s I=>?_
 rw [aj.bW,aj.bW] at U;rw [aj.bW];unfold aj.cells at *;refine bZ ?_;exact bm I
def BB (l:List aj) (f:aj):Prop:=∀ x∈iy f,l.any (fun y=>fy y x)=true
theorem Oc:∀ {ks:List aj} {k x:aj},k∈ks→x∈iy k→x∈j' ks
  | y::r,k,x,h,ab=>by
    rw [j'];rcases mem_cons.1 h with rfl|h
    · exact List.mem_append_left _ ab
    · exact List.mem_append_right _ (Oc h ab)
theorem BB.It {l:List aj} {f k:aj} (h:BB l f) (aB:f.cU=false) (aD:k∈f.kids):BB l k:=fun x ab=>h x (by
 rw [DK,aB,if_neg ba];exact Oc aD ab)
theorem YC (p:bP) (n:Int) (l:List aj) (vs:af) (aq cI cr:Nat) (w:bx) (fX:l.length≤7) (cX:iY w l) (v:Nat) (av:v<2^63):∀ (k:Nat) (f:aj),f.size≤k→gi w f=true→BB l f →
    bE Tryz.prog 128 [.ptr cr 0,f.bJ,.int .i64 (v:Int)] [ep p n (c4 l) vs aq cI cr] (fun o K=>o = .ret (.bool (pk l v f))∧K=[ep p n (c4 l) vs aq cI cr]):=by
  have ny:bu=1099511627776:=rfl;intro k
  induction k with
  | zero=>intro x h;have:=x.size_eq;omega
  | succ k a6=>
    intro f az aw fq;have iv:=f.size_eq;have gp:=Nb l v f;have y5:=aw;rw [m0,and_eq_true] at aw;obtain ⟨oi,kq⟩:=aw;refine bE.bj ai Tryz.func128 C C fun s I=>?_
    rw [aj.bW];unfold ep eh c4 at *;rcases yy oi with ⟨U,ae⟩|⟨aB,ae,U⟩|⟨U,x,ae⟩|⟨U,x,y,ae⟩
    · rw [U,if_pos C] at gp
      rw [gp];unfold aj.cells;rw [U];refine bB ?_;exact Fin.bz I C aM (aH.all _) ⟨rfl,rfl⟩
    · have b5:f.op=2∨f.op=3∨f.op=4:=by unfold aj.cU at aB;simp at aB;omega
      have rz:=rv y5 aB;have pr:=fq f (by rw [DK,aB,if_pos C];exact mem_singleton.2 C);obtain ⟨i,aQ⟩:∃ i,l.findIdx? (fun x=>fy x f)=some i:=by
        cases h:l.findIdx? (fun x=>fy x f) with
        | some i=>exact ⟨i,rfl⟩
        | none=>
          rw [List.findIdx?_eq_none_iff] at h;obtain ⟨z,bO,Ce⟩:=any_eq_true.1 pr;rw [h z bO] at Ce;cases Ce
      have tH:i<l.length:=(List.findIdx?_eq_some_iff_getElem.1 aQ).1;have wU:=TA (.func 175 [] [.bA f.cells 0]) (fun x=>fy x f) l ag (fun x ab=>YB x f (by have:=rv (cX x ab).1 (cX x ab).2;omega) ag);rw [aQ] at wU;simp only at wU;have gp:pk l v f=v.testBit i:=by
        rw [gp,if_neg ag,if_neg ag,if_neg ag,if_neg ag,aQ]
      rw [gp,← Bd];unfold aj.cells at wU ⊢;rcases b5 with h|h|h
      all_goals
        rw [h] at wU ⊢;refine hl I ?_;intro I;refine aa.shr _ C C C C C C ag (tn ag) ?_;refine aa.bits _ C C C C C C (Ae (n:=1) (lt_of_le_of_lt (Nat.shiftRight_le v i) av) ag) ?_;refine eD ?_;exact Fin.bz I C aM (aH.all _) ⟨rfl,rfl⟩
    · have aB:f.cU=false:=by unfold aj.cU;rw [U];rfl
      have ab:=aj.hx (l:=f.kids) (x:=x) jk;have i1:=a6 x ag (jy kq jk) (fq.It aB jk);have cb:([x].map aj.bJ)[0]? = some (.agg x.cells):=by rw [← aj.bW];rfl
      rw [U,if_neg ag,if_pos C,ae,xl l v 0 [x] x C] at gp;rw [gp];rw [aj.bW] at i1;unfold aj.cells;rw [U,ae];refine bB ?_;refine aa.b9 rfl rfl rfl rfl rfl i1 I (aH.all _) ?_ (fun _ _ ⟨h,_⟩ _=>by cases h);rintro _ _ ⟨⟨⟩,rfl⟩ I;rw [append_nil] at I ⊢;refine e5 ?_;exact Fin.bz I C aM (aH.all _) ⟨rfl,rfl⟩
    · have aB:f.cU=false:=by unfold aj.cU;rcases U with U|U<;>rw [U]<;>rfl
      have ab:=aj.hx (l:=f.kids) (x:=x) jk;have ay:=aj.hx (l:=f.kids) (x:=y) o4;have i1:=a6 x ag (jy kq jk) (fq.It aB jk);have i2:=a6 y ag (jy kq o4) (fq.It aB o4);have cb:([x,y].map aj.bJ)[0]? = some (.agg x.cells):=by rw [← aj.bW];rfl
      have b1:([x,y].map aj.bJ)[1]? = some (.agg y.cells):=by rw [← aj.bW];rfl
      rw [aj.bW] at i1 i2;rw [ae,xl l v 0 [x,y] x C,xl l v 1 [x,y] y C] at gp;unfold aj.cells;rw [ae];rcases U with U|U
      all_goals
        rw [U] at gp ⊢;cases q0:pk l v x with
        | true=>
          rw [q0] at gp i1;simp at gp;rw [gp];refine bB ?_;refine aa.b9 rfl rfl rfl rfl rfl i1 I (aH.all _) ?_ (fun _ _ ⟨h,_⟩ _=>by cases h);rintro _ _ ⟨⟨⟩,rfl⟩ I;rw [append_nil] at I ⊢;refine bB ?_
          first
            | exact Fin.bz I C aM (aH.all _) ⟨rfl,rfl⟩
            | (refine aa.b9 rfl rfl rfl rfl rfl i2 I (aH.all _) ?_ (fun _ _ ⟨h,_⟩ _=>by cases h)
               rintro _ _ ⟨⟨⟩,rfl⟩ I
               rw [append_nil] at I ⊢
               refine e5 ?_
               exact Fin.bz I C aM (aH.all _) ⟨rfl,rfl⟩)
        | false=>
          rw [q0] at gp i1;simp at gp;rw [gp];refine bB ?_;refine aa.b9 rfl rfl rfl rfl rfl i1 I (aH.all _) ?_ (fun _ _ ⟨h,_⟩ _=>by cases h);rintro _ _ ⟨⟨⟩,rfl⟩ I;rw [append_nil] at I ⊢;refine bB ?_
          first
            | exact Fin.bz I C aM (aH.all _) ⟨rfl,rfl⟩
            | (refine aa.b9 rfl rfl rfl rfl rfl i2 I (aH.all _) ?_ (fun _ _ ⟨h,_⟩ _=>by cases h)
               rintro _ _ ⟨⟨⟩,rfl⟩ I
               rw [append_nil] at I ⊢
               refine e5 ?_
               exact Fin.bz I C aM (aH.all _) ⟨rfl,rfl⟩)
theorem BC (gen:Int) (l:List aj) (v:Nat):∀ (ms:List hJ) (i:Nat),(rf gen l v i ms).length≤ms.length
  | [],_=>le_refl _
  | m::r,i=>by
    have:=BC gen l v r (i+1);rw [rf];split<;>simp<;>omega
def BD (p:bP) (n:Int) (l:List aj):Prop:=∀ m∈p.methods,m.gen=n→BB l m.fact
theorem Od (p:bP) (aE:fN p) (dg:fG p=true) (n:Int) (l:List aj) (vs:af) (aq cI cr:Nat) (fX:l.length≤7) (cX:iY (b6 p) l) (gF:BD p n l) (v:Nat) (av:v<2^63) :
  bE Tryz.prog 81 [.ptr cr 0,.int .i64 (v:Int)] [ep p n (c4 l) vs aq cI cr] (fun o K=>o = .ret (bg (dM p n l v))∧K=[ep p n (c4 l) vs aq cI cr]):=by
 have ny:bu=1099511627776:=rfl;obtain ⟨tS,Ob⟩:=vj dg;have YD:=fun f U ae=>YC p n l vs aq cI cr (b6 p) fX cX v av f.size f (le_refl _) U ae
 refine bE.bj ai Tryz.func81 C C fun s I=>?_
 unfold ep eh at *;refine hl I ?_;intro I;refine ad.h2 I 3 1 0 fun I=>?_
 refine ad.b0 [0,1,12,13] C I (σ:=Nat×List Int×bM) (fun q=>[(14,.int .i64 (q.1:Int)),(5,.aC 1 (q.2.1.map bb) q.2.2)]) (fun q=>[(q.2.2,.row 3 1 q.2.1.length),ep p n (c4 l) vs aq cI cr]) (fun q=>q.1≤p.methods.length∧q.2.1.length≤q.1∧dM p n l v=q.2.1++rf n l v q.1 (p.methods.drop q.1)) (fun q=>p.methods.length-q.1) (0,[],.nil)
  ⟨zero_le _,le_refl _,rfl⟩ ⟨⟨_,rfl,aM⟩,⟨_,rfl,aS.nil gW⟩,trivial⟩ (by simp only [ep,eh];exact aY) ?_
 rintro ⟨j,out,gm⟩ ⟨aK,gh,ak⟩ I;simp only [ep,eh] at aK gh ak I ⊢;refine b2 ?_;refine ad.cond C (fun ar=>?_) (fun aV=>?_);rotate_left
 ·have aV:j=p.methods.length:=by simp at aV;omega
  rw [ef ag,rf,append_nil] at ak;rw [ak];refine dB ?_;exact Fin.bz (K:=[ep p n (c4 l) vs aq cI cr]) I C aS.bc (by simp only [ep,eh];exact aY) ⟨rfl,rfl⟩
 have ar:j<p.methods.length:=by simpa using ar
 obtain ⟨m,ab,bL⟩:=bV (f:=lB) ar;have gb:=mem_of_getElem? ab;rw [drop_cons ab,rf] at ak;unfold lB nE at bL;by_cases aw:m.gen=n
 ·have cP:=YD m.fact (rW _ _ _ _ (By dg gb)) (gF m gb aw)
  rw [aj.bW] at cP;unfold aj.cells at cP;rw [aw] at bL ak;rw [show decide (n=n)=true by simp,Bool.true_and] at ak
  repeat (first|(refine wy I ?_;clear I;intro I)|refine aa.d' ai I rfl rfl rfl rfl rfl rfl rfl (fun cy I=>?_))
  refine ad.mo I 7 cy C .here (fun I=>?_);refine ad.qP I cr (.there .here) ai mixed C ?_;refine c3 ?_;refine aJ.split 26 C (fun _=>?_) (fun h=>by simp at h);refine ly ?_;refine aJ.tO rfl rfl rfl rfl rfl rfl cP I aY (fun _ _ h=>by obtain ⟨-,rfl⟩:=h;exact ⟨_,.here⟩) ?_ (fun _ _ ⟨h,_⟩ _=>by cases h);rintro _ _ ⟨⟨⟩,rfl⟩ I;simp only [cons_append,nil_append] at I ⊢;cases mP:pk l v m.fact with
  | true=>
   rw [mP,if_pos C] at ak;refine c3 ?_;refine aa.gf ai I C C C C C C C et C C C C C C C C a1 hc j2 ag (fun bR I=>?_);refine fu ?_;exact bn.mk (j+1,out++[(j:Int)],.own bR) I ⟨ar,by simp;omega,by rw [ak];simp⟩ x8 (by show aH _ [(_,.row _ _ (out++[(j:Int)]).length),ep p n (c4 l) vs aq cI cr] _;rw [length_append];exact (by simp only [ep,eh];exact aY)) oz
  | false=>
   rw [mP,if_neg ba] at ak;refine jN ?_;exact bn.mk (j+1,out,gm) I ⟨ar,by show out.length≤j+1;omega,ak⟩ b' (by simp only [ep,eh];exact aY) oz
 ·rw [show decide (m.gen=n)=false by simpa using aw,Bool.false_and,if_neg ba] at ak
  repeat (first|(refine wy I ?_;clear I;intro I)|refine aa.d' ai I rfl rfl rfl rfl rfl rfl rfl (fun cy I=>?_))
  refine ad.mo I 7 cy C .here (fun I=>?_);refine ad.qP I cr (.there .here) ai mixed C ?_;refine c3 ?_;refine aJ.split 26 C (fun h=>absurd fZ aw) (fun _=>?_);refine jN ?_;exact bn.mk (j+1,out,gm) I ⟨ar,by show out.length≤j+1;omega,ak⟩ b' (by simp only [ep,eh];exact aY) oz
end Go.Proofs.YtnafpeohfbglmaaGreat
namespace Go.dv
mutual
theorem Iu:∀ (f:aj) (w:bx) (b:Bool),gi w f=true→∀ l∈h5 b f,∀ x∈l,gi w x.1=true∧x.1.cU=true
  | .mk o a p c n ks,w,b,aw,l,h,x,ab=>by
    have n1:=aw;rw [gi,and_eq_true] at n1;rw [h5] at h;split at h
    · split at h
      · cases h
      · rw [mem_singleton] at h;subst h;cases ab
    · split at h
      · exact y6 ks w _ 0 n1.2 l h x ab
      · split at h
        · rename_i aB
          rw [mem_singleton] at h;subst h;rw [mem_singleton] at ab;subst ab;exact ⟨aw,aB⟩
        · split at h
          · rcases mem_append.1 h with h|h
            · exact y6 ks w _ 0 n1.2 l h x ab
            · exact y6 ks w _ 1 n1.2 l h x ab
          · obtain ⟨u,hu,h⟩:=List.mem_flatMap.1 h
            obtain ⟨v,av,rfl⟩:=mem_map.1 h;rcases Ds v u ab with ab|ab
            · exact y6 ks w _ 0 n1.2 u hu x ab
            · exact y6 ks w _ 1 n1.2 v av x ab
theorem y6:∀ (ks:List aj) (w:bx) (b:Bool) (n:Nat),j5 w ks=true→∀ l∈ie b n ks,∀ x∈l,gi w x.1=true∧x.1.cU=true
  | [],_,b,n,_,l,h,_,_=>by rw [ie] at h;cases h
  | y::r,w,b,0,aw,l,h,x,ab=>by
    rw [j5,and_eq_true] at aw;rw [ie] at h;exact Iu y w b aw.1 l h x ab
  | y::r,w,b,n+1,aw,l,h,x,ab=>by
    rw [j5,and_eq_true] at aw;rw [ie] at h;exact y6 r w b n aw.2 l h x ab
end
end Go.dv
namespace Go.Proofs.YtnafpeohfbglmaaGreat
open Go.cW Go.dv
theorem YE (w:bx) (f:aj) (aZ:f.size<bu) (aw:gi w f=true) (b:Bool):x9 Tryz.prog 242 [] [.bA f.cells 0,.bA [.bool b] 0] [] p6 (h5 b f):=by
 intro l Go fD fJ oY K bh;have en:∀ eb,AU eb (lR l) (fun xs K=>∃ aO,K=aO++[(.own eb,sa eb)]∧Go xs aO) (fun K=>∃ aO,K=aO++[(.own eb,sa eb)]∧fD aO) (fun v K=>∃ aO,K=aO++[(.own eb,sa eb)]∧fJ v aO):=fun eb=>by
  refine ⟨rfl,fun x rem K ⟨aO,e,aw⟩=>?_,fun xs K ⟨aO,e,_⟩=>⟨aO++[],by subst e;exact bp.app aO .here⟩,fun K ⟨aO,e,_⟩=>⟨aO++[],by subst e;exact bp.app aO .here⟩⟩;subst e;refine dt.frame (R:=[(.own eb,sa eb)]) (oY x rem aO aw) (aH.jx (aH.du aO)) ?_;rintro o lI (⟨rfl,h⟩|⟨rfl,h⟩|⟨v,rfl,h⟩)
  ·exact .inl ⟨rfl,lI,rfl,h⟩
  ·exact .inr (.inl ⟨rfl,lI,rfl,h⟩)
  ·exact .inr (.inr ⟨v,rfl,lI,rfl,h⟩)
 have hw:=fun eb=>dt.fp (first:=[]) (args:=[f.bJ,.bool b,lR l]) (cap:=[.ptr eb 0]) (VG w eb f.size f (le_refl _) aZ aw b (lR l) _ _ _ (en eb) [] (K++[(.own eb,sa eb)]) ⟨K,rfl,by rw [append_nil];exact bh⟩)
 rw [aj.bW] at hw;refine bE.bj ai Tryz.func242 C C fun s I=>?_
 rw [nil_append] at I ⊢;unfold aj.cells;unfold aj.cells at hw
 repeat (first|(refine SN I ?_;clear I;intro I)|refine aa.d' ai I rfl rfl rfl rfl rfl rfl rfl (fun cy I=>?_))
 refine aa.gM C C C C C C (hw cy) I (aH.iw (List.perm_append_singleton _ _).symm) ?_ ?_
 ·rintro x _ (⟨⟨⟩,lI,rfl,h⟩|⟨⟨⟩,lI,rfl,h⟩|⟨_,⟨⟩,_⟩) I
  all_goals rw [append_nil] at I ⊢
  ·refine fI ?_
   exact Fin.bz I C aM (aH.jx (aH.du lI)) (.inl ⟨rfl,.inl h⟩)
  ·refine fI ?_
   exact Fin.bz I C aM (aH.jx (aH.du lI)) (.inl ⟨rfl,.inr h⟩)
 ·rintro x _ (⟨h,_⟩|⟨h,_⟩|⟨v,⟨⟩,lI,rfl,h⟩) I
  ·cases h
  ·cases h
  rw [append_nil] at I ⊢;exact Fin.fc I aM (aH.jx (aH.du lI)) (.inr ⟨_,rfl,h⟩)
theorem YF (f:aj) (b:Bool):aR Tryz.prog 210 [f.bJ,.bool b] (.func 242 [] [.bA f.cells 0,.bA [.bool b] 0]):=by
 have aq:=bC;refine aR.bj ai Tryz.func210 C C fun s I=>?_
 rw [aj.bW];unfold aj.cells;refine gH ?_;exact bm I
def xx (w:bx) (f:aj):Bool:=(h5 false f).any fun l=>nb w (ev l)
theorem YG (w:bx) (hw:fT w) (f:aj) (aZ:3*f.size+3<bu) (aw:gi w f=true):aR Tryz.prog 174 [gn w,f.bJ] (.bool (xx w f)):=by
 have aq:=bC;refine aR.bj ai Tryz.func174 C C fun s I=>?_
 have aA:=YF f false;have n6:=YE w f ag aw false;have YH:=fun (l:List cg) (h:l∈h5 false f)=>X3 w hw l (by have:=(G1 f false l h).1;omega) (fun x ab=>⟨(Iu f w false aw l h x ab).1,(Iu f w false aw l h x ab).2⟩)
 rw [aj.bW] at aA ⊢;unfold aj.cells at *;unfold gn e6 at *
 repeat (first|(refine SO I ?_;clear I;intro I)|refine aa.d' ai I rfl rfl rfl rfl rfl rfl rfl (fun cy I=>?_)|(refine pM ?_))
 refine ad.FU I C dW n6 .nil (fun rem K=>(∀ l∈rem,l∈h5 false f)∧xx w f=(rem.any fun l=>nb w (ev l))∧K=[(.own cy,.box 4 [.bool false])]) (fun j K=>j = .exit 0∧xx w f=true∧K=[(.own cy,.box 4 [.bool true])]) (fun _ _=>False) ⟨fun _ h=>h,rfl,rfl⟩ ?_ ?_ ?_ (fun _ _ h=>h.elim)
 ·rintro s₁ l rem K ⟨hm,aF,rfl⟩ I
  have Oe:=YH l (hm l mem_cons_self);rw [List.any_cons] at aF;cases Ed:nb w (ev l) with
  | true=>
   rw [Ed] at Oe;rw [Ed,Bool.true_or] at aF;refine hl I ?_;intro I;exact At.mk _ I (aH.du _) ⟨rfl,aF,rfl⟩
  | false=>
   rw [Ed] at Oe;rw [Ed,Bool.false_or] at aF;refine bZ ?_;exact At.mk _ I (aH.du _) ⟨fun l h=>hm l (mem_cons_of_mem _ h),aF,rfl⟩
 ·rintro K ⟨_,aF,rfl⟩ I
  have aF:xx w f=false:=aF;rw [aF];refine cG I ?_;intro I;exact bm I
 ·rintro j K ⟨rfl,aF,rfl⟩ I
  rw [aF];refine cG I ?_;intro I;exact bm I
theorem YI (w:bx) (hw:fT w) (f:aj) (aZ:3*f.size+3<bu):aR Tryz.prog 127 [eF w,f.bJ] (.cu [.bool (h' w f&&xx w f),.int .i64 (if h' w f then 0 else 2)]):=by
 have aq:=bC;refine aR.bj ai Tryz.func127 C C fun s I=>?_
 have U:=GG w hw [f] cE (by intro g aw;rw [mem_singleton] at aw;subst aw;omega);rw [map_cons,map_nil,aj.bW] at U;rw [all_cons,all_nil,Bool.and_true] at U;cases ry:h' w f with
 | false=>
  rw [ry] at U;rw [aj.bW];unfold eF eO cV bg at *;unfold gn e6 at *;refine bZ ?_;exact bm I
 | true=>
  rw [ry] at U;have ae:=YG w hw f aZ (rW f w 12 24 ry);rw [aj.bW] at ae ⊢;unfold eF eO cV bg at *;unfold gn e6 at *;refine bZ ?_;exact bm I
end Go.Proofs.YtnafpeohfbglmaaGreat
namespace Go.dv
open Go.Proofs.YtnafpeohfbglmaaGreat
theorem Iv (f:aj):fy f f=true:=by unfold fy;simp
theorem YJ {l:List aj} (f:aj) (h:l.Nodup):(hA l f).Nodup:=by
 unfold hA;split
 ·exact h
 ·rename_i az
  rw [List.nodup_append];refine ⟨h,by simp,fun a a8 b aq=>?_⟩;rw [mem_singleton.1 aq];rintro rfl;exact az (any_eq_true.2 ⟨a,a8,Iv a⟩)
theorem Of:∀ (c0 l:List aj),l.Nodup→(c0.foldl hA l).Nodup
 | [],_,h=>h
 | x::r,l,h=>Of r _ (YJ x h)
theorem Og (gen:Int):∀ (ms:List hJ) (l:List aj),l.Nodup→(ms.foldl (ih gen) l).Nodup
 | [],_,h=>h
 | m::r,l,h=>Og gen r _ (by unfold ih;split;exact Of _ _ h;exact h)
theorem YK (p:bP) (gen:Int):(dc p gen).Nodup:=Og gen _ _ List.nodup_nil
def sB (f:aj) (b:Bool):aj:=if b then f else f.not
def sC (v:Nat):Nat→List aj→aj→aj
 | _,[],a=>a
 | i,f::r,a=>sC v (i+1) r (if i=0 then sB f (v.testBit i) else a.and (sB f (v.testBit i)))
def xy (l:List aj) (v:Nat):aj:=sC v 0 l (.mk 1 0 [] 0 0 [])
theorem sD {w:bx} {f:aj} (aw:gi w f=true) (aB:f.cU=true):f.kids=[]:=by
 rw [m0,and_eq_true] at aw;rcases yy aw.1 with ⟨_,h⟩|⟨_,h,_⟩|⟨h,_⟩|⟨h,_⟩
 ·exact h
 ·exact h
 ·unfold aj.cU at aB;rw [h] at aB;cases aB
 ·unfold aj.cU at aB;rcases h with h|h<;>(rw [h] at aB;cases aB)
theorem YL {f:aj} (aB:f.cU=true):f.op=2∨f.op=3∨f.op=4:=by unfold aj.cU at aB;simp at aB;omega
theorem Oh {f:aj} (aB:f.cU=true) (b:Bool):h5 b f=[[(f,b)]]:=by
 have:=YL aB;rw [Mh,if_neg ag,if_neg ag,if_pos aB]
theorem YM {f:aj} (aB:f.cU=true) (b:Bool):h5 false (sB f b)=[[(f,!b)]]:=by
 cases b with
 | true=>exact Oh aB false
 | false=>
  show h5 false f.not=_;unfold aj.not;rw [h5,if_neg dW,if_pos C,ie];exact Oh aB true
theorem YN {a x:aj} {nf Oi:List cg} (a8:h5 false a=[nf]) (ab:h5 false x=[Oi]):h5 false (a.and x)=[jP nf Oi]:=by
 unfold aj.and;rw [h5,if_neg dW,if_neg dW,if_neg (by simp [aj.cU,aj.op]),if_neg dW,ie,ie,ie,a8,ab];rfl
theorem YO {nf:List cg} {x:cg} (h:∀ y∈nf,y.1≠x.1):jP nf [x]=nf++[x]:=by
 show q2 nf x=_;unfold q2;rw [if_neg];intro az;obtain ⟨y,ay,ae⟩:=any_eq_true.1 az;exact h y ay (by rw [(Vs x y).1 ae])
theorem Oj (v:Nat):∀ (l:List aj) (i:Nat) (a:aj) (nf:List cg),(∀ x∈l,x.cU=true)→l.Nodup→(∀ y∈nf,y.1∉l)→(i=0→nf=[])→h5 false a=[nf]→h5 false (sC v i l a)=[nf++sm i l v]
  | [],i,a,nf,_,_,_,_,h=>by rw [sC,sm,append_nil];exact h
  | f::r,i,a,nf,aB,az,ax,br,h=>by
    rw [List.nodup_cons] at az;have cm:∀ y∈nf++[(f,!v.testBit i)],y.1∉r:=fun y ay=>by
      rcases mem_append.1 ay with ay|ay
      · exact fun hm=>ax y ay (mem_cons_of_mem _ hm)
      · rw [mem_singleton.1 ay];exact az.1
    have e:=YM (aB f mem_cons_self) (v.testBit i);have au:h5 false (if i=0 then sB f (v.testBit i) else a.and (sB f (v.testBit i)))=[nf++[(f,!v.testBit i)]]:=by
      split
      · rename_i aQ;rw [br aQ,e];rfl
      · rw [YN h e,YO]
        intro y ay he;refine ax y ay ?_;rw [he];exact mem_cons_self
    rw [sC,sm,Oj v r (i+1) _ _ (fun x ab=>aB x (mem_cons_of_mem _ ab)) az.2 cm ag au,List.append_assoc];rfl
theorem YP {l:List aj} (aB:∀ x∈l,x.cU=true) (az:l.Nodup) (v:Nat):h5 false (xy l v)=[sn l v]:=
 Oj v l 0 _ [] aB az (fun _ h=>by cases h) (fun _=>rfl) (by rw [h5];simp)
theorem Ol {w:bx} {f:aj} (aw:gi w f=true) (aB:f.cU=true) {d:Nat} {k:Int} (ax:1≤d) (aD:1≤k):e1 w d k f=(true,k-1):=by
 have YQ:=sD aw aB;rw [m0,and_eq_true] at aw;obtain ⟨o,a,p,c,n,ks⟩:=f;rw [e1,if_neg cE,if_pos aw.1];have:ks=[]:=YQ;rw [this,gX]
theorem YR {w:bx} {f:aj} {d:Nat} {k m:Int} (h:e1 w d (k-1) f=(true,m)) (aD:1≤k):e1 w (d+1) k f.not=(true,m):=by
 unfold aj.not;rw [e1,if_neg cE,if_pos (by rfl),Nat.add_sub_cancel,gX,h,if_pos C,gX]
theorem YS {w:bx} {f g:aj} {d:Nat} {k m r:Int} (h:e1 w d (k-1) f=(true,m)) (ae:e1 w d m g=(true,r)) (aD:1≤k):e1 w (d+1) k (f.and g)=(true,r):=by
 unfold aj.and;rw [e1,if_neg cE,if_pos (by rfl),Nat.add_sub_cancel,gX,h,if_pos C,gX,ae,if_pos C,gX]
theorem Om {w:bx} {f:aj} (aw:gi w f=true) (aB:f.cU=true) (b:Bool) {d:Nat} {k:Int} (ax:2≤d) (aD:2≤k):∃ m,e1 w d k (sB f b)=(true,m)∧k-2≤m:=by
 cases b with
 | true=>exact ⟨k-1,Ol aw aB ag ag,by omega⟩
 | false=>
  obtain ⟨e,rfl⟩:∃ e,d=e+1:=⟨d-1,by omega⟩;exact ⟨k-1-1,YR (Ol aw aB ag ag) ag,by omega⟩
def BE (w:bx) (i:Nat) (a:aj):Prop:=∀ (d:Nat) (k:Int),i+1≤d→3*(i:Int)≤k→1≤k→∃ m,e1 w d k a=(true,m)∧k-(if i=0 then 1 else 3*(i:Int)-1)≤m
theorem BE.next {w:bx} {i:Nat} {a f:aj} {b:Bool} (h:BE w i a) (aw:gi w f=true) (aB:f.cU=true):BE w (i+1) (if i=0 then sB f b else a.and (sB f b)):=by
 intro d k ax aD kv;split
 ·rename_i br
  subst br;obtain ⟨m,U,ae⟩:=Om aw aB b (d:=d) (k:=k) ag ag;exact ⟨m,U,by simp;omega⟩
 ·rename_i br
  obtain ⟨e,rfl⟩:∃ e,d=e+1:=⟨d-1,by omega⟩;obtain ⟨m,U,ae⟩:=h e (k-1) ag ag ag;rw [if_neg br] at ae;obtain ⟨r,an,bd⟩:=Om aw aB b (d:=e) (k:=m) ag ag;exact ⟨r,YS U an ag,by rw [if_neg ag];push_cast;omega⟩
theorem On {w:bx} (v:Nat):∀ (l:List aj) (i:Nat) (a:aj),iY w l→BE w i a→BE w (i+l.length) (sC v i l a)
  | [],i,a,_,h=>h
  | f::r,i,a,cX,h=>by
    have U:=cX f mem_cons_self;have:=On (w:=w) v r (i+1) _ (fun x ab=>cX x (mem_cons_of_mem _ ab)) (h.next (b:=v.testBit i) U.1 U.2);rw [sC,length_cons,show i+(r.length+1)=i+1+r.length by omega];exact this
theorem YT {w:bx} {l:List aj} (cX:iY w l) (ij:l.length≤7) (v:Nat):h' w (xy l v)=true:=by
 have:=On (w:=w) v l 0 (.mk 1 0 [] 0 0 []) cX (fun d k ax _ kv=>⟨k-1,by
  rw [e1,if_neg cE,if_pos (by rfl),gX],by simp⟩)
 obtain ⟨m,U,-⟩:=this 12 24 ag ag ag;unfold h';show (e1 w 12 24 (xy l v)).1=true;unfold xy;rw [U]
theorem YU {w:bx} {l:List aj} (cX:iY w l) (ij:l.length≤7) (az:l.Nodup) (v:Nat):(h' w (xy l v)&&xx w (xy l v))=nc w l v:=by
 rw [YT cX ij,Bool.true_and];unfold xx nc;rw [YP (fun x ab=>(cX x ab).2) az];simp
end Go.dv
namespace Go.Proofs.YtnafpeohfbglmaaGreat
open Go.cW Go.dv
theorem YV (v c:Nat):(((v >>> c &&& 1:Nat):Int)==0) = !v.testBit c:=by
 rw [← Bd,Nat.and_one_is_mod];have:v >>> c % 2=0∨v >>> c % 2=1:=by omega
 rcases this with h|h<;>rw [h]<;>rfl
theorem Oo (f:aj):f.not.size=1+f.size:=by
 unfold aj.not;rw [aj.size,aj.hv,aj.hv,length_nil];omega
theorem Oq (f g:aj):(f.and g).size=1+f.size+g.size:=by
 unfold aj.and;rw [aj.size,aj.hv,aj.hv,aj.hv,length_nil];omega
theorem Ot (p:bP) (dg:fG p=true) (n:Int) (l:List aj) (vs:af) (aq cI cr:Nat) (fX:l.length≤7) (cX:iY (b6 p) l) (eY:l.Nodup) (v:Nat) (av:v<2^63) :
  bE Tryz.prog 80 [.ptr cr 0,.int .i64 (v:Int)] [ep p n (c4 l) vs aq cI cr] (fun o K=>o = .ret (.bool (nc (b6 p) l v))∧K=[ep p n (c4 l) vs aq cI cr]):=by
 have ny:bu=1099511627776:=rfl;have lG:=vi dg;rw [← YU cX fX eY v];refine bE.bj ai Tryz.func80 C C fun s I=>?_
 unfold ep eh c4 at *
 repeat (first|(refine FJ I ?_;clear I;intro I)|refine aa.d' ai I rfl rfl rfl rfl rfl rfl rfl (fun cy I=>?_))
 refine ad.rk I (aj.mk 1 0 [] 0 0 []).cells (kb:=cy) a1 (by
  repeat (first|exact cR.nil|refine cR.cons (by first|exact aM|exact aS.empty) ?_)) (fun I=>?_)
 obtain ⟨BF,rfl⟩:∃ x,x=cy:=⟨_,rfl⟩;skip;refine ad.b0 [0,1,5,14,15] C I (σ:=Nat×aj×List af) (fun q=>[(16,.int .i64 (q.1:Int))]) (fun q=>[(.own BF,.box 58 q.2.2),ep p n (c4 l) vs aq cI cr]) (fun q=>cR q.2.2 q.2.1.cells∧q.1≤l.length∧q.2.1.size≤1+6*q.1∧xy l v=sC v q.1 (l.drop q.1) q.2.1) (fun q=>l.length-q.1) (0,.mk 1 0 [] 0 0 [],(aj.mk 1 0 [] 0 0 []).cells) ⟨cR.refl _,zero_le _,by simp [aj.size,aj.hv],rfl⟩ (ck C) (by simp only [ep,eh,c4];exact aY) ?_;rintro ⟨j,acc,cs⟩ ⟨hle,aK,ca,ak⟩ I;simp only [ep,eh,c4] at hle aK ca ak I ⊢;refine ad.rk I acc.cells (kb:=BF) a1 hle (fun I=>?_);refine b2 ?_;refine ad.cond C (fun ar=>?_) (fun aV=>?_);rotate_left
 ·have aV:j=l.length:=by simp at aV;omega
  rw [ef ag,sC] at ak;rw [ak];have aA:=YI (b6 p) lG acc ag;rw [aj.bW] at aA;unfold eF eO at aA;refine ad.mo I 5 BF C .here (fun I=>?_);cases aZ:h' (b6 p) acc with
  | true=>
   rw [aZ] at aA;simp only [Bool.true_and,if_true] at aA ⊢
   repeat (first
    | refine ad.qP I cr .here ai mixed C ?_
    | with_reducible apply ad.seq
    | with_reducible apply bY
    | with_reducible apply lT
    | with_reducible apply fg
    | with_reducible apply lU
    | with_reducible apply ad.exit)
   refine bZ ?_;exact Fin.bz I C aM (aH.all _) ⟨rfl,rfl⟩
  | false=>
   rw [aZ] at aA;simp only [Bool.false_and,false_eq_true,if_false] at aA ⊢
   repeat (first
    | refine ad.qP I cr .here ai mixed C ?_
    | with_reducible apply ad.seq
    | with_reducible apply bY
    | with_reducible apply lT
    | with_reducible apply fg
    | with_reducible apply lU
    | with_reducible apply ad.exit)
   refine bZ ?_;exact Fin.bz I C aM (aH.all _) ⟨rfl,rfl⟩
 have ar:j<l.length:=by simpa using ar
 obtain ⟨f,ab,bL⟩:=bV (f:=aj.bJ) ar;have rz:=cX f (mem_of_getElem? ab);have tJ:f.size≤3:=by
  have U:=f.size_eq;have ae:=rv rz.1 rz.2;have an:=sD rz.1 rz.2;rw [an,aj.hv] at U;omega
 rw [drop_cons ab,sC] at ak;rw [aj.bW] at bL;have rC:=YV v j;unfold aj.cells at bL I ⊢
 repeat (first|(refine wy I ?_;clear I;intro I)|refine aa.d' ai I rfl rfl rfl rfl rfl rfl rfl (fun cy I=>?_))
 refine aa.shr _ C C C C C C ag (tn ag) ?_;refine aa.bits _ C C C C C C (Ae (n:=1) (lt_of_le_of_lt (Nat.shiftRight_le v j) av) ag) ?_;refine fI ?_;cases oW:v.testBit j with
 | true=>
  rw [oW] at rC;rw [oW,show sB f true=f from rfl] at ak;refine ad.cond C (fun h=>absurd h (by rw [rC];simp)) (fun _=>?_);cases j with
  | zero=>
   rw [if_pos C] at ak;refine hl I ?_;intro I;refine bn.mk (1,f,?_) I ?_ (by repeat (first|exact trivial|refine ⟨⟨_,rfl,aM⟩,?_⟩|refine ⟨⟨_,rfl,aS.of_eq CU⟩,?_⟩)) (by simp only [ep,eh,c4,aj.cells];exact aY) (by show l.length-1<l.length-0;omega);refine ⟨?_,ar,by show aj.size f≤7;omega,ak⟩;exact cR.refl _
  | succ k=>
   rw [if_neg ag] at ak;refine hl I ?_;intro I;refine bn.mk (k+2,acc.and f,?_) I ?_ (by repeat (first|exact trivial|refine ⟨⟨_,rfl,aM⟩,?_⟩|refine ⟨⟨_,rfl,aS.of_eq z6⟩,?_⟩)) (by simp only [ep,eh,c4];exact aY) (by show l.length-(k+2)<l.length-(k+1);omega)
   refine ⟨?_,ar,(by
    have bD:aj.size f≤5:=by omega
    show (acc.and f).size≤1+6*(k+2)
    rw [Oq];omega),ak⟩
   show cR _ (acc.and f).cells;unfold aj.and aj.cells;refine .cons aM (.cons aM (.cons aS.empty (.cons aM (.cons aM (.one ?_)))));simp only [aj.kids,map_cons,map_nil,aj.bW];exact aS.bc
 | false=>
  rw [oW] at rC;rw [oW,show sB f false=f.not from rfl] at ak;refine ad.cond C (fun _=>?_) (fun h=>absurd h (by rw [rC];simp));refine hl I ?_;intro I
  refine ad.rk I f.not.cells (kb:=cy) a1 (by
   unfold aj.not aj.cells
   refine .cons aM (.cons aM (.cons aS.empty (.cons aM (.cons aM (.one ?_)))))
   simp only [aj.kids,map_cons,map_nil,aj.bW]
   exact aS.bc) (fun I=>?_)
  cases j with
  | zero=>
   rw [if_pos C] at ak;refine hl I ?_;intro I;refine bn.mk (1,f.not,?_) I ?_ (by repeat (first|exact trivial|refine ⟨⟨_,rfl,aM⟩,?_⟩|refine ⟨⟨_,rfl,aS.of_eq CU⟩,?_⟩)) (by simp only [ep,eh,c4,aj.cells];exact aY) (by show l.length-1<l.length-0;omega);refine ⟨?_,ar,by show aj.size f.not≤7;(rw [Oo];omega),ak⟩;exact cR.refl _
  | succ k=>
   rw [if_neg ag] at ak;refine hl I ?_;intro I;refine bn.mk (k+2,acc.and f.not,?_) I ?_ (by repeat (first|exact trivial|refine ⟨⟨_,rfl,aM⟩,?_⟩|refine ⟨⟨_,rfl,aS.of_eq z6⟩,?_⟩)) (by simp only [ep,eh,c4];exact aY) (by show l.length-(k+2)<l.length-(k+1);omega)
   refine ⟨?_,ar,(by
    have bD:aj.size f.not≤5:=by (rw [Oo];omega)
    show (acc.and f.not).size≤1+6*(k+2)
    rw [Oq];omega),ak⟩
   show cR _ (acc.and f.not).cells;unfold aj.and aj.cells;refine .cons aM (.cons aM (.cons aS.empty (.cons aM (.cons aM (.one ?_)))));simp only [aj.kids,map_cons,map_nil,aj.bW];exact aS.bc
end Go.Proofs.YtnafpeohfbglmaaGreat
namespace Go.dv
open Go.cW
def fY (f:Nat→Bool) (o:Nat):Nat→Nat
 | 0=>0
 | n+1=>fY f o n+(if f (o+n) then 2^n else 0)
theorem l9 (f:Nat→Bool) (o:Nat):∀ n,fY f o n<2^n
  | 0=>Nat.one_pos
  | n+1=>by
    have:=l9 f o n;rw [fY,pow_succ];split<;>omega
theorem oE (f:Nat→Bool) (o:Nat):∀ n i,(fY f o n).testBit i=(decide (i<n)&&f (o+i))
  | 0,i=>by rw [fY];simp
  | n+1,i=>by
    have U:=l9 f o n;have ae:=oE f o n i;rw [fY];cases aZ:f (o+n) with
    | false=>
      rw [if_neg ba,Nat.add_zero,ae];rcases Nat.lt_trichotomy i n with h|h|h
      · rw [decide_eq_true h,decide_eq_true ag]
      · subst h;rw [aZ];simp
      · rw [decide_eq_false ag,decide_eq_false ag]
    | true=>
      rw [if_pos C,Nat.add_comm];rcases Nat.lt_trichotomy i n with h|h|h
      · rw [Nat.testBit_two_pow_add_gt h,ae,decide_eq_true h,decide_eq_true ag]
      · subst h
        rw [Nat.testBit_two_pow_add_eq,ae,aZ];simp
      · rw [decide_eq_false ag,Bool.false_and]
        exact Nat.testBit_lt_two_pow (Nat.lt_of_lt_of_le (show 2^n+fY f o n<2^(n+1) by rw [pow_succ];omega) (pow_le_pow_right ag ag))
theorem Ee {f:Nat→Bool} {o n m:Nat} (hm:m<2^n) (h:∀ i,i<n→m.testBit i=f (o+i)):m=fY f o n:=by
 apply Nat.eq_of_testBit_eq;intro i;rw [oE];by_cases aQ:i<n
 ·rw [h i aQ,decide_eq_true aQ,Bool.true_and]
 ·rw [decide_eq_false aQ,Bool.false_and]
  exact Nat.testBit_lt_two_pow (Nat.lt_of_lt_of_le hm (pow_le_pow_right ag ag))
def kd (f:Nat→Bool):List Int:=[(fY f 0 64:Int),(fY f 64 64:Int)]
theorem Ou (f g:Nat→Bool) (o n:Nat):fY f o n &&& fY g o n=fY (fun u=>f u&&g u) o n:=
 Ee (lt_of_le_of_lt Nat.and_le_left (l9 f o n)) fun i aQ=>by
  rw [Nat.testBit_and,oE,oE,decide_eq_true aQ];rfl
theorem Ov (f g:Nat→Bool) (o:Nat):k2 (fY f o 64) (fY g o 64)=fY (fun u=>f u && !g u) o 64:=
 Ee (lt_of_le_of_lt Nat.and_le_left (l9 f o 64)) fun i aQ=>by
  unfold k2;rw [Nat.testBit_and,Nat.testBit_xor,oE,oE,decide_eq_true aQ,show (18446744073709551615:Nat)=2^64-1 by decide,Nat.testBit_two_pow_sub_one,decide_eq_true aQ];simp
theorem Ow (f:Nat→Bool) (o n i:Nat) (aQ:i<n):fY f o n|||2^i=fY (fun u=>f u||u==o+i) o n:=
  Ee (Nat.or_lt_two_pow (l9 f o n) (Nat.pow_lt_pow_right ag aQ)) fun j aK=>by
    rw [Nat.testBit_or,oE,Nat.testBit_two_pow,decide_eq_true aK,Bool.true_and];congr 1;rw [Bool.eq_iff_iff,decide_eq_true_eq,beq_iff_eq];omega
theorem Ox {f g:Nat→Bool} {o n:Nat} (h:∀ i,i<n→f (o+i)=g (o+i)):fY f o n=fY g o n:=
 Ee (l9 f o n) fun i aQ=>by rw [oE,decide_eq_true aQ,Bool.true_and,h i aQ]
theorem YW {f g:Nat→Bool} (h:kd f=kd g):∀ u,u<128→f u=g u:=by
 unfold kd at h;have U:fY f 0 64=fY g 0 64:=by have:=(List.cons.inj h).1;omega
 have ae:fY f 64 64=fY g 64 64:=by have:=(List.cons.inj (List.cons.inj h).2).1;omega
 intro u hu;by_cases au:u<64
 ·have a:=oE f 0 64 u
  have b:=oE g 0 64 u;rw [U,b,decide_eq_true au,Bool.true_and,Bool.true_and,zero_add] at a;exact a.symm
 ·have a:=oE f 64 64 (u-64)
  have b:=oE g 64 64 (u-64);rw [ae,b,decide_eq_true ag,Bool.true_and,Bool.true_and,show 64+(u-64)=u by omega] at a;exact a.symm
theorem BG {o:Nat} {f:Nat→Bool} (h:∀ u,f u=false):∀ n,fY f o n=0
 | 0=>rfl
 | n+1=>by rw [fY,BG h n,h,if_neg ba]
theorem YX:kd (fun _=>false)=[0,0]:=by
 unfold kd;rw [BG (fun _=>rfl),BG (fun _=>rfl)];rfl
end Go.dv
namespace Go.Proofs.YtnafpeohfbglmaaGreat
open Go.cW Go.dv
def kG (f:Nat→Bool):af := .agg [.int .u64 (fY f 0 64:Nat),.int .u64 (fY f 64 64:Nat)]
theorem Oy {v:Nat} (av:v<2^40):IntKind.wrap .i64 (Int.tdiv (v:Int) (ofNat 64))=((v / 64:Nat):Int):=by
 rw [show Int.tdiv (v:Int) (ofNat 64)=((v / 64:Nat):Int) from rfl];exact eo ag ag
theorem Oz (v:Nat):Int.tmod (v:Int) (ofNat 64)=((v % 64:Nat):Int):=rfl
theorem Iw (m c:Nat):(((m >>> c &&& 1:Nat):Int)==1)=m.testBit c:=Bd m c
theorem YY (f g:Nat→Bool):aR Tryz.prog 106 [kG f,kG g] (kG (fun u=>f u&&g u)):=by
 have aq:=bC;refine aR.bj ai Tryz.func106 C C fun s I=>?_
 unfold kG
 repeat (first|(refine Km ?_)|refine aa.d' ai I C C C C C C C (fun cy I=>?_))
 refine aa.l0 ai 0 C C C C C C C C C C ag ?_;refine dS ?_;refine aa.l0 ai 0 C C C C C C C C C C ag ?_;refine dS ?_;refine aa.bits _ C C C C C C (uH (l9 f 0 64) (l9 g 0 64)) ?_;refine aa.l0 ai 1 C C C C C C C C C C ag ?_;refine dS ?_;refine aa.l0 ai 1 C C C C C C C C C C ag ?_;refine dS ?_;refine aa.bits _ C C C C C C (uH (l9 f 64 64) (l9 g 64 64)) ?_;rw [Ou,Ou];refine cG I ?_;intro I;exact Fin.cp I (n5 C C (bp.get a1 I) C) aM
theorem YZ (f g:Nat→Bool):aR Tryz.prog 107 [kG f,kG g] (kG (fun u=>f u && !g u)):=by
 have aq:=bC;refine aR.bj ai Tryz.func107 C C fun s I=>?_
 unfold kG
 repeat (first|(refine Km ?_)|refine aa.d' ai I C C C C C C C (fun cy I=>?_))
 refine aa.l0 ai 0 C C C C C C C C C C ag ?_;refine dS ?_;refine aa.l0 ai 0 C C C C C C C C C C ag ?_;refine dS ?_;refine aa.bits _ C C C C C C (C1 (l9 f 0 64) (l9 g 0 64)) ?_;refine aa.l0 ai 1 C C C C C C C C C C ag ?_;refine dS ?_;refine aa.l0 ai 1 C C C C C C C C C C ag ?_;refine dS ?_;refine aa.bits _ C C C C C C (C1 (l9 f 64 64) (l9 g 64 64)) ?_;rw [Ov,Ov];refine cG I ?_;intro I;exact Fin.cp I (n5 C C (bp.get a1 I) C) aM
theorem Y0 (f:Nat→Bool) (v:Nat) (av:v<128):aR Tryz.prog 151 [kG f,.int .i64 (v:Int)] (.bool (f v)):=by
 have aq:=bC;refine aR.bj ai Tryz.func151 C C fun s I=>?_
 unfold kG;have bq:=Oy (v:=v) ag;have aF:=Oz v;have hm:=Nat.mod_lt v (show 64>0 by omega);by_cases h:v<64
 ·refine bB ?_
  refine aa.l0 ai 0 C C C C C C C C C (by rw [bq];omega) ag ?_;refine bB ?_;rw [aF];refine aa.shr _ C C C C C C ag (tn hm) ?_;refine aa.bits _ C C C C C C (uH (n:=1) (lt_of_le_of_lt (Nat.shiftRight_le _ (v % 64)) (l9 f 0 64)) ag) ?_;refine eD ?_;refine Fin.cp I C (aS.of_eq (congrArg af.bool ?_));rw [Iw,oE,decide_eq_true hm,Bool.true_and];congr 1;omega
 ·refine bB ?_
  refine aa.l0 ai 1 C C C C C C C C C (by rw [bq];omega) ag ?_;refine bB ?_;rw [aF];refine aa.shr _ C C C C C C ag (tn hm) ?_;refine aa.bits _ C C C C C C (uH (n:=1) (lt_of_le_of_lt (Nat.shiftRight_le _ (v % 64)) (l9 f 64 64)) ag) ?_;refine eD ?_;refine Fin.cp I C (aS.of_eq (congrArg af.bool ?_));rw [Iw,oE,decide_eq_true hm,Bool.true_and];congr 1;omega
theorem OA (f:Nat→Bool) (v:Nat) (av:v<128):aR Tryz.prog 60 [kG f,.int .i64 (v:Int)] (kG (fun u=>f u||u==v)):=by
 have aq:=bC;refine aR.bj ai Tryz.func60 C C fun s I=>?_
 unfold kG;have bq:=Oy (v:=v) ag;have aF:=Oz v;have hm:=Nat.mod_lt v (show 64>0 by omega);have hQ:2^(v % 64)<2^64:=Nat.pow_lt_pow_right ag hm;by_cases h:v<64
 ·have jI:=Ow f 0 64 (v % 64) hm
  rw [show (fun u=>f u||u==0+v % 64)=(fun u=>f u||u==v) by funext u;congr 2;omega] at jI;have cb:fY (fun u=>f u||u==v) 64 64=fY f 64 64:=Ox fun i aQ=>by
   rw [show (64+i==v)=false by simp;omega,Bool.or_false]
  rw [cb,← jI]
  repeat (first|(refine rQ ?_)|refine aa.jL I C C C C C C (fun b I=>?_)|refine aa.d' ai I C C C C C C C (fun cy I=>?_)|(refine Kn ?_))
  refine aJ.arr ai 0 C C C C C C C C C (by rw [bq];omega) ag ?_;refine cG I ?_;intro I;rw [aF];refine aJ.shl _ C C C C C C ag (C2 hm) ?_;refine aJ.bits _ C C C C C C (wC (l9 f 0 64) hQ) ?_;refine aJ.arr ai 0 C C C C C C C C C (by rw [bq];omega) ag ?_;refine cG I ?_;intro I;exact Fin.cp I (n5 C C (bp.get a1 I) C) aM
 ·have jI:=Ow f 64 64 (v % 64) hm
  rw [show (fun u=>f u||u==64+v % 64)=(fun u=>f u||u==v) by funext u;congr 2;omega] at jI;have cb:fY (fun u=>f u||u==v) 0 64=fY f 0 64:=Ox fun i aQ=>by
   rw [show (0+i==v)=false by simp;omega,Bool.or_false]
  rw [cb,← jI]
  repeat (first|(refine rQ ?_)|refine aa.jL I C C C C C C (fun b I=>?_)|refine aa.d' ai I C C C C C C C (fun cy I=>?_)|(refine Kn ?_))
  refine aJ.arr ai 1 C C C C C C C C C (by rw [bq];omega) ag ?_;refine cG I ?_;intro I;rw [aF];refine aJ.shl _ C C C C C C ag (C2 hm) ?_;refine aJ.bits _ C C C C C C (wC (l9 f 64 64) hQ) ?_;refine aJ.arr ai 1 C C C C C C C C C (by rw [bq];omega) ag ?_;refine cG I ?_;intro I;exact Fin.cp I (n5 C C (bp.get a1 I) C) aM
def BH (p:bP) (n:Int) (l:List aj) (vs:List Nat):List (af×af):=vs.map fun v:Nat=>(.int .i64 (v:Int),bg (dM p n l v))
def iZ (vs:List Nat):List af:=vs.map fun v:Nat => .int .i64 (v:Int)
theorem OB (g:Nat→af) (x:af) (v:Nat):∀ vs:List Nat,v∉vs→lO (vs.map fun u:Nat=>(.int .i64 (u:Int),g u)) (.int .i64 (v:Int)) x=some ((vs.map fun u:Nat=>(.int .i64 (u:Int),g u))++[(.int .i64 (v:Int),x)])
  | [],_=>rfl
  | u::r,h=>by
    have hu:((v:Int)==(u:Int))=false:=by
      rw [beq_eq_false_iff_ne];intro he;exact h (by rw [show v=u by omega];exact mem_cons_self)
    rw [map_cons,lO];simp only [ke,if_true,hu,OB g x v r (fun hm=>h (mem_cons_of_mem _ hm)),cons_append]
theorem Ef (g:Nat→af) (v:Nat):∀ vs:List Nat,jb (vs.map fun u:Nat=>(.int .i64 (u:Int),g u)) (.int .i64 (v:Int))=some (if vs.contains v then some (g v) else none)
  | []=>rfl
  | u::r=>by
    rw [map_cons,jb];by_cases h:u=v
    · subst h
      simp [ke]
    · have hu:((v:Int)==(u:Int))=false:=by
        rw [beq_eq_false_iff_ne];omega
      simp only [ke,if_true,hu,Ef g v r,List.contains_cons];rw [show (v==u)=false by rw [beq_eq_false_iff_ne];omega,Bool.false_or]
theorem Eg {c:Nat} (h:c≤7):IntKind.wrap .i64 (1*2^(min (c:Int).toNat (IntKind.bits .i64)))=((2^c:Nat):Int):=by
 have U:min (c:Int).toNat (IntKind.bits .i64)=c:=by simp [IntKind.bits];omega
 rw [U];have ae:(1*2^c:Int)=((2^c:Nat):Int):=by push_cast;omega
 have an:2^c<2^63:=Nat.pow_lt_pow_right ag ag;rw [ae,FZ an]
def oF (w:bx) (l:List aj) (v:Nat):List Nat:=(range v).filter (nc w l)
theorem OC (w:bx) (l:List aj) (v:Nat):oF w l (v+1)=oF w l v++(if nc w l v then [v] else []):=by
 unfold oF;rw [List.range_succ,List.filter_append,filter_cons];rfl
theorem Y1 (w:bx) (l:List aj) (v:Nat):v∉oF w l v:=fun h=>by
 have:=List.mem_range.1 (List.mem_filter.1 h).1;omega
theorem OD (w:bx) (l:List aj) (v:Nat):(oF w l v).length≤v:=by
 have:=List.length_filter_le (nc w l) (range v);rw [List.length_range] at this;exact this
theorem Ix (p:bP) (aE:fN p) (dg:fG p=true) (n:Int) (l:List aj) (aq cI cr:Nat) (fX:l.length≤7) (cX:iY (b6 p) l) (eY:l.Nodup) (gF:BD p n l) :
  bE Tryz.prog 59 [.ptr cr 0] [ep p n (c4 l) (.aC 0 [] .nil) aq cI cr,(.own aq,.map [])] (fun o K=>o = .ret (.cu [])∧K=[ep p n (c4 l) (.aC 1 (iZ (ka (b6 p) l)) .bc) aq cI cr,(.own aq,.map (BH p n l (ka (b6 p) l)))]):=by
 have ny:bu=1099511627776:=rfl;have vk:2^l.length≤2^7:=pow_le_pow_right ag fX;have sk:=fun vs v h=>Ot p dg n l vs aq cI cr fX cX eY v h
 have Eh:=fun vs v h=>Od p aE dg n l vs aq cI cr fX cX gF v h
 have tC:ka (b6 p) l=oF (b6 p) l (2^l.length):=rfl;refine bE.bj ai Tryz.func59 C C fun s I=>?_
 unfold ep eh c4 at *;refine cG I ?_;intro I;refine aa.shl ((2^l.length:Nat):Int) C C C C C C ag (by rw [length_map];exact Eg fX) ?_;refine dC ?_;refine ad.h2 I 3 1 0 fun I=>?_
 refine ad.rk I (eh p n (c4 l) (.aC 1 (iZ []) .nil) aq cI) (kb:=cr) a1 (by
  unfold eh c4
  repeat (first|exact cR.nil|refine cR.cons (by first|exact aM|exact aS.nil gW) ?_)) (fun I=>?_)
 unfold eh c4 at I ⊢;refine ad.b0 [0,8] C I (σ:=Nat×bM) (fun q=>[(9,.int .i64 (q.1:Int))]) (fun q=>[(q.2,.row 3 1 (oF (b6 p) l q.1).length),ep p n (c4 l) (.aC 1 (iZ (oF (b6 p) l q.1)) q.2) aq cI cr,(.own aq,.map (BH p n l (oF (b6 p) l q.1)))]) (fun q=>q.1≤2^l.length) (fun q=>2^l.length-q.1) (0,.nil)
  (zero_le _) (ck C) (by simp only [ep,eh,c4];exact aY) ?_
 rintro ⟨v,gm⟩ av I;simp only [ep,eh,c4,iZ,BH] at av I ⊢;refine b2 ?_;refine ad.cond C (fun ar=>?_) (fun aV=>?_);rotate_left
 ·have aV:v=2^l.length:=Nat.le_antisymm av (Int.ofNat_le.1 (Int.not_lt.1 (of_decide_eq_false aV)))
  subst aV;rw [tC]
  refine ad.rk I (eh p n (c4 l) (.aC 1 (iZ (oF (b6 p) l (2^l.length))) .bc) aq cI) (kb:=cr) a1 (by
   unfold eh c4
   repeat (first|exact cR.nil|refine cR.cons (by first|exact aM|exact aS.bc) ?_)) (fun I=>?_)
  refine dB ?_;exact Fin.bz I C aM (by simp only [ep,eh,c4];exact aY) ⟨rfl,rfl⟩
 have ar:v<2^l.length:=Int.ofNat_lt.1 (of_decide_eq_true ar);have Iy:=fun vs=>sk vs v ag
 have Y2:=fun vs=>Eh vs v ag
 have vl:=OC (b6 p) l v;have ft:=OD (b6 p) l v;refine bB ?_;refine aa.b9 rfl rfl rfl rfl rfl (Iy (.aC 1 ((oF (b6 p) l v).map fun v:Nat => .int .i64 (v:Int)) gm)) I aY ?_ (fun _ _ ⟨h,_⟩ _=>by cases h);rintro _ _ ⟨⟨⟩,rfl⟩ I;simp only [nil_append,cons_append] at I ⊢;cases wW:nc (b6 p) l v with
 | false=>
  rw [wW,if_neg ba,append_nil] at vl;refine bB ?_;exact bn.mk (v+1,gm) I ar b' (by simp only [vl];exact aY) (by show 2^l.length-(v+1)<2^l.length-v;omega)
 | true=>
  rw [wW,if_pos C] at vl;refine cG I ?_;intro I;refine aa.gf ai I C C C C C C C et C C C C C C C C a1 hc j2 ag (fun bR I=>?_);refine cG I ?_;intro I;have Y3:=Y2 (.aC 1 ((oF (b6 p) l v).map (fun v:Nat=>af.int .i64 (v:Int))++[.int .i64 (v:Int)]) (.own bR));have Ap:=OB (fun v=>bg (dM p n l v)) (bg (dM p n l v)) v _ (Y1 (b6 p) l v);refine ad.qC (dR [(cr,_)]) ai mixed C (bo.run (dR.one (bp.get a1 I)) C ?_);refine bo.n3 3 ai (dR.one (bp.get a1 I)) C C C C C C C C (fun _ h=>dR.fst h) b3 ?_;refine bo.run (dR.one (bp.get a1 I)) C ?_;refine bo.b9 rfl rfl rfl rfl rfl rfl rfl Y3 I aY (fun _ _ h I=>by obtain ⟨-,rfl⟩:=h;exact .inl (dR.one (bp.get .here I))) ?_ (fun _ _ ⟨h,_⟩ _=>by cases h);rintro _ _ ⟨⟨⟩,rfl⟩ I;simp only [nil_append,cons_append] at I ⊢;refine bo.run (dR.one (bp.get a1 I)) C ?_;refine bo.mW 8 ai I C C C C (.inl C) C C C C C C a1 C Ap (fun _ => .inr C) (fun I=>?_);refine bf.done C ?_;refine fR ?_;exact bn.mk (v+1,.own bR) I ar b' (by simp only [vl,map_append,map_cons,map_nil,length_append,length_cons,length_nil];exact aY) (by show 2^l.length-(v+1)<2^l.length-v;omega)
end Go.Proofs.YtnafpeohfbglmaaGreat
namespace Go.dv
open Go.Proofs.YtnafpeohfbglmaaGreat
theorem Y4 (l:List aj) (f:aj):(hA l f).any (fun y=>fy y f)=true:=by
 unfold hA;split
 ·assumption
 ·rw [List.any_append];simp [Iv]
theorem Y5 {l:List aj} {f x:aj} (h:l.any (fun y=>fy y x)=true):(hA l f).any (fun y=>fy y x)=true:=by
 unfold hA;split
 ·exact h
 ·rw [List.any_append,h];rfl
theorem Iz {x:aj}:∀ (c0 l:List aj),l.any (fun y=>fy y x)=true→(c0.foldl hA l).any (fun y=>fy y x)=true
 | [],_,h=>h
 | a::r,l,h=>Iz r _ (Y5 h)
theorem OE {x:aj}:∀ (c0 l:List aj),x∈c0→(c0.foldl hA l).any (fun y=>fy y x)=true
  | a::r,l,h=>by
    rw [foldl_cons];rcases mem_cons.1 h with rfl|h
    · exact Iz r _ (Y4 l x)
    · exact OE r _ h
theorem OF {gen:Int} {x:aj}:∀ (ms:List hJ) (l:List aj),l.any (fun y=>fy y x)=true→(ms.foldl (ih gen) l).any (fun y=>fy y x)=true
 | [],_,h=>h
 | m::r,l,h=>OF r _ (by unfold ih;split;exact Iz _ _ h;exact h)
theorem OG {gen:Int} {x:aj}:∀ (ms:List hJ) (l:List aj) (m:hJ),m∈ms→m.gen=gen→x∈iy m.fact→(ms.foldl (ih gen) l).any (fun y=>fy y x)=true
  | a::r,l,m,h,aw,ab=>by
    rw [foldl_cons];rcases mem_cons.1 h with rfl|h
    · exact OF r _ (by unfold ih;rw [if_pos aw];exact OE _ _ ab)
    · exact OG r _ m h aw ab
theorem Y6 (p:bP) (gen:Int):BD p gen (dc p gen):=fun m hm aw x ab=>OG p.methods [] m hm aw ab
theorem Y7 {p:bP} {gen:Int} (h:hp p gen=0):fG p=true∧mG p gen=true∧(dc p gen).length≤7:=by
 unfold hp at h;split at h
 ·rename_i U
  rw [and_eq_true] at U;split at h
  ·exact ⟨U.1,U.2,by assumption⟩
  ·omega
 ·omega
theorem OH {w:bx} {l:List aj} {v:Nat} (h:v∈ka w l):v<2^l.length:=by
 unfold ka at h;exact List.mem_range.1 (List.mem_filter.1 h).1
theorem IA (w:bx) (l:List aj):(ka w l).length≤2^l.length:=by
 unfold ka;have:=List.length_filter_le (nc w l) (range (2^l.length));rw [List.length_range] at this;exact this
end Go.dv
namespace Go.Proofs.YtnafpeohfbglmaaGreat
open Go.cW Go.dv
def IB (p:bP) (n:Int):af := .cu [if hp p n=0 then c4 (dc p n) else .aC 0 [] .nil,.int .i64 (hp p n)]
def IC (p:bP) (n:Int):af := .cu [if hp p n=0 then .aC 1 (iZ (ka (b6 p) (dc p n))) .bc else .aC 0 [] .nil,.int .i64 (hp p n)]
def ID (p:bP) (n v:Int):Bool:=decide (0≤v)&&(decide (v<((2^(dc p n).length:Nat):Int))&&nc (b6 p) (dc p n) v.toNat)
def BI (p:bP) (n v:Int):Int:=if hp p n=0 then (if ID p n v then 0 else 5) else hp p n
def IE (p:bP) (n v:Int):af := .cu [if BI p n v=0 then bg (dM p n (dc p n) v.toNat) else .aC 0 [] .nil,.int .i64 (BI p n v)]
theorem xz {p:bP} {n:Int} (he:hp p n=0):fG p=true∧(dc p n).length≤7∧iY (b6 p) (dc p n)∧(dc p n).Nodup∧BD p n (dc p n):=by
 obtain ⟨U,-,ae⟩:=Y7 he;exact ⟨U,ae,(D8 U n).1,YK p n,Y6 p n⟩
theorem Y8 (p:bP) (aE:fN p) (n:Int):aR Tryz.prog 27 [cJ p,.int .i64 n] (IC p n):=by
 have aq:=bC;refine aR.bj ai Tryz.func27 C C fun s I=>?_
 have a8:=D9 p aE n;unfold IC;unfold cJ cL at *;refine dL ?_;refine aa.b9 rfl rfl rfl rfl rfl a8 I .nil ?_ (fun _ _ h _=>by rcases h with ⟨_,_,_,_,h,_⟩|⟨_,⟨_,h⟩,_⟩<;>cases h);rintro _ _ (⟨he,cr,aq,cI,⟨⟩,rfl⟩|⟨he,⟨v,⟨⟩⟩,rfl⟩) I
 ·rw [he,if_pos C]
  obtain ⟨dg,fX,cX,eY,gF⟩:=xz he;have lb:=Ix p aE dg n (dc p n) aq cI cr fX cX eY gF;simp only [cons_append,nil_append] at I ⊢;unfold ep eh c4 at *;refine bB ?_;refine aa.b9 rfl rfl rfl rfl rfl lb I aY ?_ (fun _ _ ⟨h,_⟩ _=>by cases h);rintro _ _ ⟨⟨⟩,rfl⟩ I;simp only [cons_append,nil_append] at I ⊢;refine cG I ?_;intro I;exact bm I
 ·rw [if_neg he]
  simp only [nil_append] at I ⊢;refine ew ?_;refine ad.cond C (fun _=>?_) (fun h=>absurd fZ he);refine gH ?_;exact bm I
theorem OI (p:bP) (aE:fN p) (n v:Int):aR Tryz.prog 29 [cJ p,.int .i64 n,.int .i64 v] (IE p n v):=by
 have aq:=bC;refine aR.bj ai Tryz.func29 C C fun s I=>?_
 have a8:=D9 p aE n;have hm:BI p n v=if hp p n=0 then (if ID p n v then 0 else 5) else hp p n:=rfl
 unfold IE;unfold cJ cL at *;refine dL ?_;refine aa.b9 rfl rfl rfl rfl rfl a8 I .nil ?_ (fun _ _ h _=>by rcases h with ⟨_,_,_,_,h,_⟩|⟨_,⟨_,h⟩,_⟩<;>cases h);rintro _ _ (⟨he,cr,aq,cI,⟨⟩,rfl⟩|⟨he,⟨v,⟨⟩⟩,rfl⟩) I
 ·obtain ⟨dg,fX,cX,eY,gF⟩:=xz he
  have vk:2^(dc p n).length≤2^7:=pow_le_pow_right ag fX;rw [if_pos he] at hm;have av:ID p n v=(decide (0≤v)&&(decide (v<((2^(dc p n).length:Nat):Int))&&nc (b6 p) (dc p n) v.toNat)):=rfl;simp only [cons_append,nil_append] at I ⊢;unfold eh c4 at I ⊢;refine bB ?_;by_cases U:v<0
  ·refine aa.ds 23 C (decide_eq_true U) ?_
   rw [av,show decide (0≤v)=false by simp;omega,Bool.false_and,if_neg ba] at hm;rw [hm,if_neg ba];refine e5 ?_;exact bm I
  refine aa.c2 23 C (decide_eq_false U) ?_;obtain ⟨u,rfl⟩:∃ u:Nat,v=u:=⟨v.toNat,by omega⟩;rw [decide_eq_true (Int.natCast_nonneg u),Bool.true_and,toNat_natCast] at av;rw [toNat_natCast];refine cG I ?_;intro I;refine aa.shl ((2^(dc p n).length:Nat):Int) C C C C C C ag (by rw [length_map];exact Eg fX) ?_;refine dS ?_;by_cases ae:(u:Int)<((2^(dc p n).length:Nat):Int);rotate_left
  ·refine aa.ds 33 C (decide_eq_true (Int.not_lt.1 ae)) ?_
   rw [av,decide_eq_false ae,Bool.false_and,if_neg ba] at hm;rw [hm,if_neg ba];refine e5 ?_;exact bm I
  refine aa.c2 33 C (decide_eq_false (Int.not_le.2 ae)) ?_;have an:u<2^(dc p n).length:=Int.ofNat_lt.1 ae;rw [decide_eq_true ae,Bool.true_and] at av;have sk:=Ot p dg n (dc p n) (.aC 0 [] .nil) aq cI cr fX cX eY u ag;have Eh:=Od p aE dg n (dc p n) (.aC 0 [] .nil) aq cI cr fX cX gF u ag;unfold ep eh c4 at sk Eh;refine dS ?_;refine aa.b9 rfl rfl rfl rfl rfl sk I aY ?_ (fun _ _ ⟨h,_⟩ _=>by cases h);rintro _ _ ⟨⟨⟩,rfl⟩ I;simp only [cons_append,nil_append] at I ⊢;cases aA:nc (b6 p) (dc p n) u with
  | false=>
   rw [av,aA,if_neg ba] at hm;rw [hm,if_neg ba];refine e5 ?_;exact bm I
  | true=>
   rw [av,aA,if_pos C] at hm;rw [hm,if_pos C];refine bB ?_;refine aa.b9 rfl rfl rfl rfl rfl Eh I aY ?_ (fun _ _ ⟨h,_⟩ _=>by cases h);rintro _ _ ⟨⟨⟩,rfl⟩ I;simp only [cons_append,nil_append] at I ⊢;refine eD ?_;exact bm I
 ·rw [if_neg he] at hm
  rw [hm,if_neg he];simp only [nil_append] at I ⊢;refine bB ?_;refine ad.cond C (fun _=>?_) (fun h=>absurd fZ he);refine jg ?_;exact bm I
def qd (p:bP) (n:Int) (l:List aj) (aq cI cr:Nat) (vs:List Nat):a':=[ep p n (c4 l) (.aC 1 (iZ vs) .bc) aq cI cr,(.own aq,.map (BH p n l vs))]
def Y9:Option Nat→Int
 | none => -1
 | some v=>v
theorem OJ (g:Nat→af):∀ vs:List Nat,jb (vs.map fun u:Nat=>(.int .i64 (u:Int),g u)) (.int .i64 (-1))=some none
  | []=>rfl
  | u::r=>by
    rw [map_cons,jb];have hu:((-1:Int)==(u:Int))=false:=by rw [beq_eq_false_iff_ne];omega
    simp only [ke,if_true,hu,OJ g r]
def Y' (h:Nat→List Int) (vs rest:List Nat):Option Nat→Prop
 | none=>vs=rest
 | some v=>rh h vs=rest.all (fun u=>h u==h v)∧firstM h vs=h v
theorem Za (p:bP) (n:Int) (l:List aj) (aq cI cr:Nat) (vs:List Nat) (eL:∀ v∈vs,v<128) (ft:vs.length≤128) (hy:p.methods.length≤16) (q:Nat→Bool) :
    bE Tryz.prog 105 [.ptr cr 0,kG q] (qd p n l aq cI cr vs) (fun o K=>o = .ret (if rh (dM p n l) (vs.filter q) then .cu [bg (firstM (dM p n l) (vs.filter q)),.bool true] else .cu [.aC 0 [] .nil,.bool false])∧K=qd p n l aq cI cr vs):=by
  have ny:bu=1099511627776:=rfl;have tI:=fun v h=>Y0 q v h
  have OK:=fun v=>BC n l v p.methods 0
  refine bE.bj ai Tryz.func105 C C fun s I=>?_
  unfold qd ep eh c4 at *;refine hl I ?_;intro I;refine ad.b0 [0,3,12,13] C I (σ:=Nat×Option Nat) (fun x=>[(14,.int .i64 (x.1:Int)),(6,.int .i64 (Y9 x.2))]) (fun _=>qd p n l aq cI cr vs) (fun x=>x.1≤vs.length∧(∀ v,x.2=some v→v∈vs)∧Y' (dM p n l) (vs.filter q) ((vs.drop x.1).filter q) x.2) (fun x=>vs.length-x.1) (0,none)
    ⟨zero_le _,(fun _ h=>by cases h),rfl⟩ (ck rfl) (by simp only [qd,ep,eh,c4];exact aY) ?_
  rintro ⟨j,fst⟩ ⟨aK,aZ,ak⟩ I;simp only [qd,ep,eh,c4] at aK aZ ak I ⊢;refine b2 ?_;refine ad.cond C (fun ar=>?_) (fun aV=>?_);rotate_left
  · have aV:j=vs.length:=by simp [iZ] at aV;omega
    rw [ef ag,filter_nil] at ak;cases fst with
    | none=>
      have ak:vs.filter q=[]:=ak;rw [ak,rh,firstM,if_pos C];have aw:=OJ (fun v=>bg (dM p n l v)) vs;refine cG I ?_;intro I;refine aa.jw ai I C C C C C C C C C C a1 C aw C ?_;refine eD ?_;exact Fin.bz I C (aS.cu (.cons aS.empty (.cons aM .nil))) (aH.all _) ⟨rfl,rfl⟩
    | some v=>
      obtain ⟨U,ae⟩:=ak;rw [U,ae,all_nil,if_pos C];have aw:=Ef (fun v=>bg (dM p n l v)) v vs;rw [if_pos (by simpa using aZ v C)] at aw;refine cG I ?_;intro I;refine aa.jw ai I C C C C C C C C C C a1 C aw C ?_;refine eD ?_;exact Fin.bz I C aM (aH.all _) ⟨rfl,rfl⟩
  have ar:j<vs.length:=by simpa [iZ] using ar
  obtain ⟨x,ab,bL⟩:=bV (f:=fun v:Nat=>af.int .i64 (v:Int)) ar;have Di:=mem_of_getElem? ab;have Zb:=eL x Di;have cP:=tI x Zb;rw [drop_cons ab,filter_cons] at ak;unfold iZ at *;refine c3 ?_;cases bq:q x with
  | false=>
    rw [bq,if_neg ba] at ak;refine bB ?_;exact bn.mk (j+1,fst) I ⟨ar,aZ,ak⟩ b' aY xo
  | true=>
    rw [bq,if_pos C] at ak;cases fst with
    | none=>
      refine bB ?_
      exact bn.mk (j+1,some x) I ⟨ar,(fun v h=>by cases h;exact Di),by
        have ak:vs.filter q=_:=ak
        refine ⟨?_,?_⟩
        · rw [ak];rfl
        · rw [ak];rfl⟩ b' aY xo
    | some v=>
      obtain ⟨U,ae⟩:=ak;rw [all_cons] at U;have aw:=fun u hu=>by
        have:=Ef (fun v=>bg (dM p n l v)) u vs;rw [if_pos (by simpa using hu)] at this;exact this
      have Bx:=aw x Di;have CJ:=aw v (aZ v C);have heq:=Aj (dM p n l x) (dM p n l v) (by have:=OK x;unfold dM;omega) (by have:=OK v;unfold dM;omega);cases aA:dM p n l x==dM p n l v with
      | false=>
        rw [aA] at heq U;rw [U,Bool.false_and,if_neg ba];refine hl I ?_;intro I;refine aJ.jw ai I C C C C C C C C C C a1 C Bx C ?_;refine cG I ?_;intro I;refine aJ.jw ai I C C C C C C C C C C a1 C CJ C ?_;refine bZ ?_;exact Fin.bz I C aM (aH.all _) ⟨rfl,rfl⟩
      | true=>
        rw [aA] at heq U;rw [Bool.true_and] at U;refine hl I ?_;intro I;refine aJ.jw ai I C C C C C C C C C C a1 C Bx C ?_;refine cG I ?_;intro I;refine aJ.jw ai I C C C C C C C C C C a1 C CJ C ?_;refine bZ ?_;exact bn.mk (j+1,some v) I ⟨ar,aZ,U,ae⟩ b' aY xo
theorem Zc (fv:af) (xs:List Int) (K:a') (q:Int→Bool) (aB:xs.length<bu) (h:∀ x∈xs,dt Tryz.prog fv [bb x] K (fun o aO=>o = .ret (.bool (q x))∧aO=K)) :
  bE Tryz.prog 40 [.aC 1 (xs.map bb) .bc,fv] K (fun o aO=>o = .ret (.bool (xs.any q))∧aO=K):=by
 have:=Lb fv xs (fun _=>K) (fun j=>match xs[j]? with|some x=>q x|none=>false) aB (fun j x ab _=>by rw [ab];exact h x (mem_of_getElem? ab));refine bE.mono this ?_;rintro o aO (⟨rfl,rfl,U⟩|⟨j,U,ae,an,rfl,rfl⟩)
 ·have:xs.any q=false:=by
   rw [List.any_eq_false];intro x ab;obtain ⟨i,aQ⟩:=getElem?_of_mem ab;have:=U i (qM aQ);rw [aQ] at this;simpa using this
  rw [this];exact ⟨rfl,rfl⟩
 ·have ab:=getElem?_eq_getElem U
  rw [ab] at ae;rw [any_eq_true.2 ⟨_,mem_of_getElem? ab,ae⟩];exact ⟨rfl,rfl⟩
def vm (p:bP) (n:Int) (l:List aj) (g:List b7) (v:Nat):Bool:=(g.getD (leads g v).1.toNat default).ms==dM p n l v
theorem Zd (p:bP) (n:Int) (l:List aj) (aq cI cr:Nat) (vs:List Nat) (tS:p.methods.length≤16) (g:List b7) (aw:hI g=true) (v:Nat) (av:v∈vs) (Ze:v<2^63) :
  dt Tryz.prog (.func 121 [] [.bA [fM g] 0,.bA [.ptr cr 0] 0]) [.int .i64 (v:Int)] (qd p n l aq cI cr vs) (fun o K=>o = .ret (.bool (!vm p n l g v))∧K=qd p n l aq cI cr vs):=by
 have ny:bu=1099511627776:=rfl;have su:=Nc g aw v Ze;obtain ⟨j,x,U,ae,-⟩:=DL aw v;have hy:=BC n l v p.methods 0;have e7:x.ms.length≤16:=by
  have az:=uS aw ae;by_cases a8:x.atom = -1
  ·exact ((nF a8).1 az).2.2.1
  ·have:=((kn a8).1 az).2.2.2.2.2.2
   omega
 have heq:=Aj x.ms (dM p n l v) ag (by unfold dM;omega);have Ak:vm p n l g v=(x.ms==dM p n l v):=by
  unfold vm;rw [U,toNat_natCast,getD_eq_getElem?_getD,ae];rfl
 have ru:=Ef (fun v=>bg (dM p n l v)) v vs;rw [if_pos (by simpa using av)] at ru;have bL:(g.map eP)[j]? = some (eP x):=by rw [getElem?_map,ae];rfl
 rw [U] at su;refine dt.fp (first:=[]) (cap:=[.bA [fM g] 0,.bA [.ptr cr 0] 0]) ?_;refine bE.bj ai Tryz.func121 C C fun s I=>?_
 unfold qd ep eh c4 fM at *;unfold eP gY at bL;rw [Ak];cases aA:x.ms==dM p n l v with
 | true=>
  rw [aA] at heq;refine hl I ?_;intro I;refine aJ.jw ai I C C C C C C C C C C a1 C ru C ?_;refine c3 ?_;exact Fin.bz I C aM (aH.all _) ⟨rfl,rfl⟩
 | false=>
  rw [aA] at heq;refine hl I ?_;intro I;refine aJ.jw ai I C C C C C C C C C C a1 C ru C ?_;refine c3 ?_;exact Fin.bz I C aM (aH.all _) ⟨rfl,rfl⟩
theorem Zf (p:bP) (aE:fN p) (dg:fG p=true) (n:Int) (l:List aj) (aq cI cr:Nat) (fX:l.length≤7) (cX:iY (b6 p) l) (eY:l.Nodup) (gF:BD p n l) (g:List b7) (aw:hI g=true) :
    bE Tryz.prog 73 [.ptr cr 0,fM g] [ep p n (c4 l) (.aC 0 [] .nil) aq cI cr,(.own aq,.map [])] (fun o K=>o = .ret (.bool (g.all (fun x=>decide (x.atom<(l.length:Int)))&&(ka (b6 p) l).all (vm p n l g)))∧∃ DT m,K=[ep p n (c4 l) DT aq cI cr,(.own aq,.map m)]):=by
  have ny:bu=1099511627776:=rfl;have vk:2^l.length≤2^7:=pow_le_pow_right ag fX;obtain ⟨oi,kq⟩:=wO aw;have lb:=Ix p aE dg n l aq cI cr fX cX eY gF;have ft:=IA (b6 p) l;have eL:∀ v∈ka (b6 p) l,v<2^l.length:=fun v h=>OH h
  have tS:=(vj dg).1;generalize ka (b6 p) l=vs at *
  have pr:=Zc (.func 121 [] [.bA [fM g] 0,.bA [.ptr cr 0] 0]) (vs.map fun v:Nat=>(v:Int)) (qd p n l aq cI cr vs) (fun z => !vm p n l g z.toNat) u0 (fun z bO=>by
    obtain ⟨v,av,rfl⟩:=mem_map.1 bO
    have:=eL v av
    exact Zd p n l aq cI cr vs tS g aw v av ag)
  have vn:(vs.map fun v:Nat=>(v:Int)).map bb=iZ vs:=by rw [map_map];rfl
  have Zg:(vs.map fun v:Nat=>(v:Int)).any (fun z => !vm p n l g z.toNat) = !vs.all (vm p n l g):=by
    rw [List.any_map,List.all_eq_not_any_not,Bool.not_not];rfl
  rw [vn,Zg] at pr;refine bE.bj ai Tryz.func73 C C fun s I=>?_
  unfold qd ep eh c4 fM at *;refine gg ?_;refine ad.b0 [2,3,7,8] C I (σ:=Nat) (fun j=>[(9,.int .i64 (j:Int))]) (fun _=>[ep p n (c4 l) (.aC 0 [] .nil) aq cI cr,(.own aq,.map [])]) (fun j=>j≤g.length∧g.all (fun x=>decide (x.atom<(l.length:Int)))=(g.drop j).all (fun x=>decide (x.atom<(l.length:Int)))) (fun j=>g.length-j) 0 ⟨zero_le _,rfl⟩ (ck C) (by simp only [ep,eh,c4];exact aY) ?_;rintro j ⟨aK,ak⟩ I;simp only [ep,eh,c4] at aK ak I ⊢;refine b2 ?_;refine ad.cond C (fun ar=>?_) (fun aV=>?_);rotate_left
  · have aV:j=g.length:=by simp at aV;omega
    rw [ef ag,all_nil] at ak;rw [ak,Bool.true_and];refine bB ?_;refine aa.b9 rfl rfl rfl rfl rfl lb I aY ?_ (fun _ _ ⟨h,_⟩ _=>by cases h);rintro _ _ ⟨⟨⟩,rfl⟩ I;simp only [cons_append,nil_append] at I ⊢;refine cG I ?_;intro I;refine aa.b9 rfl rfl rfl rfl rfl pr I aY ?_ (fun _ _ ⟨h,_⟩ _=>by cases h);rintro _ _ ⟨⟨⟩,rfl⟩ I;simp only [cons_append,nil_append] at I ⊢;refine eD ?_;exact Fin.bz I C (aS.of_eq ba) (aH.all _) ⟨rfl,_,_,rfl⟩
  have ar:j<g.length:=by simpa using ar
  obtain ⟨x,ab,bL⟩:=bV (f:=eP) ar;rw [drop_cons ab,all_cons] at ak;unfold eP gY bg at bL;refine Kl I ?_;intro I;refine ad.cond C (fun aA=>?_) (fun aA=>?_)
  · rw [show decide (x.atom<(l.length:Int))=false by simp at aA ⊢;omega,Bool.false_and] at ak
    rw [ak,Bool.false_and];refine jg ?_;exact Fin.bz I C aM (aH.all _) ⟨rfl,_,_,rfl⟩
  · rw [show decide (x.atom<(l.length:Int))=true by simp at aA ⊢;omega,Bool.true_and] at ak
    refine fR ?_;exact bn.mk (j+1) I ⟨ar,ak⟩ b' aY tg
theorem Zh (v:Int×Int) (n:Int):aR Tryz.prog 160 [eJ v,.int .i64 n] (.bool (fx n v)):=by
 have aq:=bC;refine aR.bj ai Tryz.func160 C C fun s I=>?_
 unfold eJ
 repeat' (first|(with_reducible first|apply ad.seq|apply bY|apply fm|apply fg|apply gG|apply ad.ret|apply ad.skip|apply ad.block)|refine cT C ?_|refine ad.cB ?_|refine aa.nil ?_|refine cx C ?_|refine aa.skip C C C ?_|(fail_if_success refine aa.same true C ?_);(fail_if_success refine aa.same false C ?_);refine aa.gA C C (fun h=>?_) (fun h=>?_)|refine ad.cond C (fun h=>?_) (fun h=>?_))
 all_goals (refine Fin.cp I C (aS.of_eq (congrArg af.bool ?_));clear I;simp only [fx,km];grind)
theorem Zi (fv:af) (q:Int→Bool) (xs:List Int) (aB:xs.length<bu) (h:∀ x∈xs,eE Tryz.prog fv [bb x] (.bool (q x))):aR Tryz.prog 161 [.aC 1 (xs.map bb) .bc,fv] (.aC 1 ((xs.filter q).map bb) .bc):=by
 have aq:=bC;refine aR.bj ai Tryz.func161 C C fun s I=>?_
 refine gg ?_;refine ad.h2 I 3 1 0 fun I=>?_
 refine ad.b0 [0,1,8,9] C I (σ:=Nat×List Int×bM) (fun p=>[(10,.int .i64 (p.1:Int)),(5,.aC 1 (p.2.1.map bb) p.2.2)]) (fun p=>[(p.2.2,.row 3 1 p.2.1.length)]) (fun p=>p.1≤xs.length∧p.2.1.length≤p.1∧xs.filter q=p.2.1++(xs.drop p.1).filter q) (fun p=>xs.length-p.1) (0,[],.nil)
  ⟨zero_le _,le_refl _,rfl⟩ ⟨⟨_,rfl,aM⟩,⟨_,rfl,aS.nil gW⟩,trivial⟩ aY ?_
 rintro ⟨j,out,gm⟩ ⟨aK,gh,ak⟩ I;simp only at aK gh ak I ⊢;refine b2 ?_;refine ad.cond C (fun ar=>?_) (fun aV=>?_);rotate_left
 ·have aV:j=xs.length:=by simp at aV;omega
  rw [ef ag,filter_nil,append_nil] at ak;rw [ak];have ct:=GB (out.map bb) gm;refine c3 ?_;exact Fin.cp I C aS.bc
 have ar:j<xs.length:=by simpa using ar
 obtain ⟨x,ab,bL⟩:=bV (f:=bb) ar;have av:=h x (mem_of_getElem? ab);rw [drop_cons ab,filter_cons] at ak
 try rw [bb] at av bL
 refine c3 ?_;cases bq:q x with
 | true=>
  rw [bq] at ak av;rw [if_pos C] at ak;refine bB ?_;refine aa.gf ai I C C C C C C C et C C C C C C C C a1 hc j2 ag (fun bR I=>?_);refine fu ?_;exact bn.mk (j+1,out++[x],.own bR) I ⟨ar,by simp;omega,by rw [ak];simp⟩ x8 (by show aH _ [(_,.row _ _ (out++[x]).length)] _;rw [length_append];exact aY) rR
 | false=>
  rw [bq] at ak av;rw [if_neg ba] at ak;refine jN ?_;exact bn.mk (j+1,out,gm) I ⟨ar,by show out.length≤j+1;omega,ak⟩ b' aY rR
theorem Zj (fv:af) (q:(Int×Int)→Bool) (xs:List (Int×Int)) (aB:xs.length<bu) (h:∀ x∈xs,eE Tryz.prog fv [eJ x] (.bool (q x))):aR Tryz.prog 158 [.aC 2 (xs.map eJ) .bc,fv] (.aC 2 ((xs.filter q).map eJ) .bc):=by
 have aq:=bC;refine aR.bj ai Tryz.func158 C C fun s I=>?_
 refine gg ?_;refine ad.h2 I 122 2 0 fun I=>?_
 refine ad.b0 [0,1,8,9] C I (σ:=Nat×List (Int×Int)×bM) (fun p=>[(10,.int .i64 (p.1:Int)),(5,.aC 2 (p.2.1.map eJ) p.2.2)]) (fun p=>[(p.2.2,.row 122 2 p.2.1.length)]) (fun p=>p.1≤xs.length∧p.2.1.length≤p.1∧xs.filter q=p.2.1++(xs.drop p.1).filter q) (fun p=>xs.length-p.1) (0,[],.nil)
  ⟨zero_le _,le_refl _,rfl⟩ ⟨⟨_,rfl,aM⟩,⟨_,rfl,aS.nil gW⟩,trivial⟩ aY ?_
 rintro ⟨j,out,gm⟩ ⟨aK,gh,ak⟩ I;simp only at aK gh ak I ⊢;refine b2 ?_;refine ad.cond C (fun ar=>?_) (fun aV=>?_);rotate_left
 ·have aV:j=xs.length:=by simp at aV;omega
  rw [ef ag,filter_nil,append_nil] at ak;rw [ak];have ct:=T3 (out.map eJ) gm;refine c3 ?_;exact Fin.cp I C aS.bc
 have ar:j<xs.length:=by simpa using ar
 obtain ⟨x,ab,bL⟩:=bV (f:=eJ) ar;have av:=h x (mem_of_getElem? ab);rw [drop_cons ab,filter_cons] at ak
 try rw [eJ] at av bL
 refine ea ?_;cases bq:q x with
 | true=>
  rw [bq] at ak av;rw [if_pos C] at ak;refine bB ?_;refine aa.gf ai I C C C C C C C et C C C C C C C C a1 hc (by show (_+1)*16≤_;omega) ag (fun bR I=>?_);refine fu ?_;exact bn.mk (j+1,out++[x],.own bR) I ⟨ar,by simp;omega,by rw [ak];simp⟩ x8 (by show aH _ [(_,.row _ _ (out++[x]).length)] _;rw [length_append];exact aY) rR
 | false=>
  rw [bq] at ak av;rw [if_neg ba] at ak;refine jN ?_;exact bn.mk (j+1,out,gm) I ⟨ar,by show out.length≤j+1;omega,ak⟩ b' aY rR
def mH (p:bP) (mb:Nat):List af:=cL p++(eO (b6 p)++[.map mb])
theorem Zk (p:bP) (mb:Nat) (n:Int):aR Tryz.prog 157 [.bA (mH p mb) 0,.int .i64 n] (.bool (mG p n)):=by
 have aq:=bC;refine aR.bj ai Tryz.func157 C C fun s I=>?_
 unfold mH cL eO mG bg;by_cases U:n≥0
 ·rw [decide_eq_true U,Bool.true_and]
  refine dL ?_;refine aa.ds 11 C (decide_eq_true U) ?_;refine eD ?_;refine Fin.cp I C (aS.of_eq (congrArg af.bool ?_));rw [length_map]
 ·rw [decide_eq_false U,Bool.false_and]
  refine dL ?_;refine aa.c2 11 C (decide_eq_false U) ?_;refine ew ?_;exact bm I
theorem Zl (n:Int):aR Tryz.prog 157 [.qk,.int .i64 n] (.bool false):=by
 have aq:=bC;refine aR.bj ai Tryz.func157 C C fun s I=>?_
 refine gH ?_;exact bm I
theorem Zm (aU:List dD) (v:Int×Int):eE Tryz.prog (.func 159 [] [.bA [gj aU] 0]) [eJ v] (.bool (fx aU.length v)):=by
 have aq:=bC;refine eE.fp (first:=[]) (cap:=[.bA [gj aU] 0]) ?_;refine aR.bj ai Tryz.func159 C C fun s I=>?_
 have h:=Zh v (aU.map ho).length;rw [show fx ((aU.map ho).length:Int) v=fx aU.length v by rw [length_map]] at h;unfold eJ at *;refine bZ ?_;exact bm I
def tO (p:bP) (aU:List dD) (n:Int) (args:List (Int×Int)):Bool:=mG p n&&(decide ((args.length:Int)=p.dw.getD n.toNat 0)&&nC (b6 p) aU args)
theorem Zn (w:bx):h' w (.mk 1 0 [] 0 0 [])=true:=by
 unfold h';rw [e1,if_neg ba,if_pos (by rfl),gX]
theorem Zo (w:bx) (aU:List dD) (args:List (Int×Int)):(m7 w (.mk 1 0 [] 0 0 []) aU args).2=if nC w aU args then 0 else 2:=by
 unfold m7;rw [Zn,Bool.true_and,show decide (iW (.mk 1 0 [] 0 0 [])≤(args.length:Int))=true by simp [iW,ia,aj.cU,aj.op],Bool.and_true];split<;>rfl
theorem Zp (p:bP) (aE:fN p) (br:fG p=false):aR Tryz.prog 118 [cJ p] (.qk):=by
 have aq:=bC;refine aR.bj ai Tryz.func118 C C fun s I=>?_
 have hw:=Im p aE;rw [br] at hw;simp only [false_eq_true,if_false] at hw;unfold cJ cL at *;refine ea ?_;exact bm I
theorem Zq (p:bP) (aE:fN p) (dg:fG p=true) (mb:Nat) (n:Int) (aU:List dD) (args:List (Int×Int)) (aB:aU.length<bu) (ah:∀ o∈aU,o.bl.length<bu) (a8:args.length<bu) :
  aR Tryz.prog 119 [.bA (mH p mb) 0,gj aU,.int .i64 n,jC args] (.bool (tO p aU n args)):=by
 have aq:=bC;have OL:=Zk p mb n;have Zr:=Zj (.func 159 [] [.bA [gj aU] 0]) (fx aU.length) args a8 (fun v _=>Zm aU v);have qe:=GZ (b6 p) (vi dg) (.mk 1 0 [] 0 0 []) dW aU args aB ah a8;have Zs:=Zo (b6 p) aU args;have ng:tO p aU n args=(mG p n&&(decide ((args.length:Int)=p.dw.getD n.toNat 0)&&nC (b6 p) aU args)):=rfl;refine aR.bj ai Tryz.func119 C C fun s I=>?_
 rw [aj.bW] at qe;unfold aj.cells eF at qe;cases aw:mG p n with
 | false=>
  rw [aw] at OL ng;rw [ng,Bool.false_and];unfold mH cL eO gj jC at *;refine bZ ?_;exact bm I
 | true=>
  rw [aw] at OL ng;rw [Bool.true_and] at ng;unfold mG at aw;simp only [and_eq_true,decide_eq_true_eq] at aw;obtain ⟨c,rfl⟩:∃ c:Nat,n=c:=⟨n.toNat,by omega⟩;obtain ⟨a,ru,OM⟩:=bV (f:=bb) (l:=p.dw) (show c<p.dw.length by omega);have kj:p.dw.getD ((c:Nat):Int).toNat 0=a:=by rw [toNat_natCast,getD_eq_getElem?_getD,ru];rfl
  rw [kj] at ng;unfold mH cL eO gj jC bg at *;refine bZ ?_;by_cases eW:(args.length:Int)=a;rotate_left
  ·refine aa.ds 28 C cE ?_
   rw [ng,decide_eq_false eW,Bool.false_and];refine ew ?_;exact bm I
  refine aa.c2 28 C cE ?_;rw [decide_eq_true eW,Bool.true_and] at ng;cases gF:args.all (fx aU.length) with
  | false=>
   have Zt:nC (b6 p) aU args=false:=by
    unfold nC;rw [gF];simp
   rw [Zt] at ng;rw [ng];have ar:(args.filter (fx aU.length)).length<args.length:=by
    rw [List.length_filter_lt_length_iff_exists];obtain ⟨x,ab,h⟩:=List.all_eq_false.1 gF;exact ⟨x,ab,h⟩
   refine c3 ?_;refine ad.cond C (fun _=>?_) (fun h=>by simp at h;omega);refine gH ?_;exact bm I
  | true=>
   have gp:args.filter (fx aU.length)=args:=List.filter_eq_self.2 (List.all_eq_true.1 gF);rw [gp] at Zr;rw [Zs] at qe;refine c3 ?_;refine ad.cond C (fun h=>by simp at h) (fun _=>?_);cases cP:nC (b6 p) aU args with
   | false=>
    rw [cP] at ng qe;simp only [false_eq_true,if_false] at qe;rw [ng];refine n4 ?_;refine aJ.lY C C C C C qe (.cons aM (.cons (aS.agg (.cons aM (.cons aM (.cons aS.empty (.cons aM (.cons aM (.one aS.empty))))))) (.cons aM (.one aM)))) ?_;refine hk ?_;exact bm I
   | true=>
    rw [cP] at ng qe;simp only [if_true] at qe;rw [ng];refine n4 ?_;refine aJ.lY C C C C C qe (.cons aM (.cons (aS.agg (.cons aM (.cons aM (.cons aS.empty (.cons aM (.cons aM (.one aS.empty))))))) (.cons aM (.one aM)))) ?_;refine hk ?_;exact bm I
def nh (n:Int):Nat→List hJ→List Nat
 | _,[]=>[]
 | i,m::r=>if m.gen=n then i::nh n (i+1) r else nh n (i+1) r
theorem ON (n:Int):∀ (ms:List hJ) (i:Nat),(nh n i ms).length≤ms.length
  | [],_=>le_refl _
  | m::r,i=>by
    have:=ON n r (i+1);rw [nh];split<;>simp<;>omega
theorem OO (n:Int):∀ (ms:List hJ) (i:Nat) (j:Nat),j∈nh n i ms→i≤j∧j<i+ms.length
  | [],i,j,h=>by rw [nh] at h;cases h
  | m::r,i,j,h=>by
    rw [nh] at h;have a6:=OO n r (i+1) j;rw [length_cons];split at h
    · rcases mem_cons.1 h with rfl|h
      · omega
      · have:=a6 h;omega
    · have:=a6 h;omega
def rA (i:Nat):af := .int .i64 (i:Int)
theorem Zu (p:bP) (aE:fN p) (mb:Nat) (n:Int):x9 Tryz.prog 196 [] [.bA [.bA (mH p mb) 0] 0,.bA [.int .i64 n] 0] [] rA (nh n 0 p.methods):=by
 have aq:=bC;have hy:=aE.Dn;intro l Go fD fJ oY K bh;refine bE.bj ai Tryz.func196 C C fun s I=>?_
 rw [nil_append] at I ⊢;unfold mH cL eO at *;refine gg ?_;refine ad.b0 [0,1,2,10,11] C I (σ:=Nat×a') (fun q=>[(12,.int .i64 (q.1:Int))]) (fun q=>q.2) (fun q=>q.1≤p.methods.length∧Go (nh n q.1 (p.methods.drop q.1)) q.2) (fun q=>p.methods.length-q.1) (0,K) ⟨zero_le _,bh⟩ (ck C) (aH.all _) ?_;rintro ⟨j,iK⟩ ⟨aK,dE⟩ I
 try simp only at aK dE I ⊢
 refine b2 ?_;refine ad.cond C (fun ar=>?_) (fun aV=>?_);rotate_left
 ·have aV:j=p.methods.length:=by simp at aV;omega
  rw [ef ag,nh] at dE;refine dB ?_;exact Fin.bz I C aM (aH.all _) (.inl ⟨rfl,.inl dE⟩)
 have ar:j<p.methods.length:=by simpa using ar
 obtain ⟨m,ab,bL⟩:=bV (f:=lB) ar;rw [drop_cons ab,nh] at dE;unfold lB nE at bL
 repeat (first|(refine CR I ?_;clear I;intro I)|refine aa.d' ai I rfl rfl rfl rfl rfl rfl rfl (fun cy I=>?_))
 by_cases aw:m.gen=n
 ·rw [if_pos aw] at dE
  have ay:=oY j _ iK dE;unfold rA at ay;refine aa.ds 21 C (by simpa using aw) ?_;refine dS ?_;refine aa.gM C C C C C C ay I (aH.all _).there ?_ ?_
  ·rintro x aO (⟨⟨⟩,h⟩|⟨⟨⟩,h⟩|⟨_,⟨⟩,_⟩) I
   ·refine bB ?_
    exact bn.mk (j+1,aO) I ⟨ar,h⟩ b' (aH.jx (aH.du aO)) oz
   ·refine e5 ?_
    exact Fin.bz I C aM (aH.jx (aH.du aO)) (.inl ⟨rfl,.inr h⟩)
  ·rintro x aO (⟨h,_⟩|⟨h,_⟩|⟨v,⟨⟩,h⟩) I
   ·cases h
   ·cases h
   exact Fin.fc I aM (aH.jx (aH.du aO)) (.inr ⟨_,rfl,h⟩)
 ·rw [if_neg aw] at dE
  refine aa.c2 21 C (by simpa using aw) ?_;refine bB ?_;exact bn.mk (j+1,iK) I ⟨ar,dE⟩ b' (aH.all _).there oz
theorem Zv (p:bP) (mb:Nat) (n:Int):aR Tryz.prog 163 [.bA (mH p mb) 0,.int .i64 n] (.func 196 [] [.bA [.bA (mH p mb) 0] 0,.bA [.int .i64 n] 0]):=by
 have aq:=bC;refine aR.bj ai Tryz.func163 C C fun s I=>?_
 refine gH ?_;exact bm I
theorem Zw (f:FuncId) (cap:List af) (xs:List Nat) (aB:xs.length<bu) (n6:x9 Tryz.prog f [] cap [] rA xs):bE Tryz.prog 195 [.aC 0 [] .nil,.func f [] cap] [] (fun o K=>o = .ret (.aC 1 (xs.map rA) .bc)∧K=[]):=by
 have aq:=bC;refine bE.bj ai Tryz.func195 C C fun s I=>?_
 repeat (first|(refine zY ?_)|refine aa.jL I C C C C C C (fun b I=>?_)|(refine zZ ?_))
 obtain ⟨dA,rfl⟩:∃ x,x=b:=⟨_,rfl⟩;refine ad.h2 I 3 1 0 fun I=>?_
 refine ad.rk I [.aC 1 [] .nil] (kb:=dA) a1 (.one (aS.nil gW)) (fun I=>?_);refine ad.FU I C dW n6 .nil (fun rem K=>∃ out own,out.length+rem.length=xs.length∧xs=out++rem∧K=[(.own dA,.box 23 [.aC 1 (out.map rA) own]),(own,.row 3 1 out.length)]) (fun _ _=>False) (fun _ _=>False) ⟨[],.nil,by simp,rfl,rfl⟩ ?_ ?_ (fun _ _ h=>h.elim) (fun _ _ h=>h.elim)
 ·rintro s₁ x rem K ⟨out,own,U,ae,rfl⟩ I
  rw [length_cons] at U;unfold rA at I ⊢;refine hl I ?_;intro I;refine aa.gf ai I C C C C C C C et C C C C C C C C a1 hc j2 ag (fun bR I=>?_);refine cG I ?_;intro I;exact At.mk [(.own dA,.box 23 [.aC 1 ((out++[x]).map rA) (.own bR)]),(.own bR,.row 3 1 (out++[x]).length)] I (by simp only [rA,map_append,map_cons,map_nil,length_append,length_cons,length_nil];exact aY) ⟨out++[x],.own bR,by simp;omega,by rw [ae];simp,rfl⟩
 ·rintro K ⟨out,own,U,ae,rfl⟩ I
  rw [append_nil] at ae;subst ae;refine cG I ?_;intro I;exact Fin.bz I C aS.bc .nil ⟨rfl,rfl⟩
def BJ (p:bP) (aU:List dD) (args:List (Int×Int)) (i:Int):Bool:=(m7 (b6 p) (p.methods.getD i.toNat default).fact aU args).1&&(m7 (b6 p) (p.methods.getD i.toNat default).fact aU args).2==0
def IF (p:bP) (aU:List dD) (n:Int) (args:List (Int×Int)):List Int:=((nh n 0 p.methods).map fun i:Nat=>(i:Int)).filter (BJ p aU args)
theorem Zx (p:bP) (aE:fN p) (dg:fG p=true):bE Tryz.prog 118 [cJ p] [] (fun o K=>∃ mb,o = .ret (.bA (mH p mb) 0)∧K=[(.own mb,.map [])]):=by
 have hw:=Im p aE;rw [dg,if_pos C,if_pos C] at hw;refine bE.bj ai Tryz.func118 C C fun s I=>?_
 unfold cJ cL mH eF eO at *;refine ea ?_;refine aa.rN I C C C C (fun mb I=>?_);refine eD ?_;exact Fin.bz I C aM (aH.all _) ⟨mb,rfl,rfl⟩
theorem Zy (p:bP) (aE:fN p) (dg:fG p=true) (mb:Nat) (aU:List dD) (args:List (Int×Int)) (aB:aU.length<bu) (ah:∀ o∈aU,o.bl.length<bu) (a8:args.length<bu) (j:Nat) (aK:j<p.methods.length):eE Tryz.prog (.func 164 [] [.bA [.bA (mH p mb) 0] 0,.bA [gj aU] 0,.bA [jC args] 0]) [.int .i64 (j:Int)] (.bool (BJ p aU args j)):=by
 have aq:=bC;refine eE.fp (first:=[]) (cap:=[.bA [.bA (mH p mb) 0] 0,.bA [gj aU] 0,.bA [jC args] 0]) ?_;refine aR.bj ai Tryz.func164 C C fun s I=>?_
 obtain ⟨m,ab,bL⟩:=bV (f:=lB) aK;have gb:=mem_of_getElem? ab;have qe:=GZ (b6 p) (vi dg) m.fact (by have:=aE.facts m gb;omega) aU args aB ah a8;have hz:BJ p aU args j=((m7 (b6 p) m.fact aU args).1&&(m7 (b6 p) m.fact aU args).2==0):=by
  unfold BJ;rw [toNat_natCast,getD_eq_getElem?_getD,ab];rfl
 rw [aj.bW] at qe;unfold aj.cells eF at qe;unfold lB nE at bL;unfold mH cL eO gj jC at *;rw [hz];generalize m7 (b6 p) m.fact aU args=r at *;obtain ⟨hP,cb⟩:=r;cases hP with
 | false=>
  refine bZ ?_;exact bm I
 | true=>
  refine bZ ?_;exact bm I
theorem Zz (f:FuncId) (cap:List af) (xs:List Nat) (aB:xs.length<bu) (n6:x9 Tryz.prog f [] cap [] rA xs):aR Tryz.prog 162 [.func f [] cap] (.aC 1 (xs.map rA) .bc):=by
 have aA:=bE.Gh (Zw f cap xs aB n6);refine aR.bj ai Tryz.func162 C C fun s I=>?_
 refine bZ ?_;exact bm I
theorem ZA (p:bP) (aE:fN p) (dg:fG p=true) (mb:Nat) (n:Int) (aU:List dD) (args:List (Int×Int)) (aB:aU.length<bu) (ah:∀ o∈aU,o.bl.length<bu) (a8:args.length<bu) :
    aR Tryz.prog 120 [.bA (mH p mb) 0,gj aU,.int .i64 n,jC args] (bg (IF p aU n args)):=by
  have aq:=bC;have hy:=aE.Dn;have gh:=ON n p.methods 0;have abX:=Zv p mb n;have r9:=Zz 196 [.bA [.bA (mH p mb) 0] 0,.bA [.int .i64 n] 0] (nh n 0 p.methods) ag (Zu p aE mb n)
  have vo:=Zi (.func 164 [] [.bA [.bA (mH p mb) 0] 0,.bA [gj aU] 0,.bA [jC args] 0]) (BJ p aU args) ((nh n 0 p.methods).map fun i:Nat=>(i:Int)) u0 (fun x ab=>by
    obtain ⟨j,aK,rfl⟩:=mem_map.1 ab
    have:=(OO n p.methods 0 j aK).2
    exact Zy p aE dg mb aU args aB ah a8 j ag)
  have he:((nh n 0 p.methods).map fun i:Nat=>(i:Int)).map bb=(nh n 0 p.methods).map rA:=by rw [map_map];rfl
  rw [he] at vo;refine aR.bj ai Tryz.func120 C C fun s I=>?_
  unfold IF bg;refine bZ ?_;exact bm I
def oG (p:bP) (aU:List dD) (n:Int) (args:List (Int×Int)):Bool:=fG p&&tO p aU n args
def Ei (p:bP) (aU:List dD) (n:Int) (args:List (Int×Int)):af := .cu [if oG p aU n args then bg (IF p aU n args) else .aC 0 [] .nil,.int .i64 (if oG p aU n args then 0 else 2)]
theorem ZB (n:Int) (aU:List dD) (args:List (Int×Int)):aR Tryz.prog 119 [.qk,gj aU,.int .i64 n,jC args] (.bool false):=by
 have aw:=Zl n;refine aR.bj ai Tryz.func119 C C fun s I=>?_
 unfold gj jC;refine bZ ?_;exact bm I
theorem ZC (p:bP) (aE:fN p) (n:Int) (aU:List dD) (args:List (Int×Int)) (aB:aU.length<bu) (ah:∀ o∈aU,o.bl.length<bu) (a8:args.length<bu):aR Tryz.prog 72 [cJ p,gj aU,.int .i64 n,jC args] (Ei p aU n args):=by
 have aq:=bC;refine aR.bj ai Tryz.func72 C C fun s I=>?_
 have hz:oG p aU n args=(fG p&&tO p aU n args):=rfl;unfold Ei;cases dg:fG p with
 | false=>
  rw [dg,Bool.false_and] at hz;rw [hz];have aF:=Zp p aE dg;have aA:=ZB n aU args;unfold cJ cL at *;refine bZ ?_;exact bm I
 | true=>
  rw [dg,Bool.true_and] at hz;have aF:=Zx p aE dg;unfold cJ cL at *;refine dL ?_;refine aa.b9 rfl rfl rfl rfl rfl aF I .nil ?_ (fun _ _ h _=>by obtain ⟨_,h,_⟩:=h;cases h);rintro _ _ ⟨mb,⟨⟩,rfl⟩ I;have aA:=Zq p aE dg mb n aU args aB ah a8;have BK:=ZA p aE dg mb n aU args aB ah a8;cases ng:tO p aU n args with
  | false=>
   rw [ng] at hz aA;rw [hz];refine bZ ?_;exact bm I
  | true=>
   rw [ng] at hz aA;rw [hz];refine c3 ?_;exact bm I
def nN (w:bx) (aU:List dD) (args:List (Int×Int)) (f:aj):Bool:=(m7 w f aU args).2==0&&(m7 w f aU args).1
def oH (q:aj→Bool):Nat→List aj→Nat→Nat
 | _,[],v=>v
 | i,f::r,v=>oH q (i+1) r (if q f then v|||2^i else v)
theorem IG (q:aj→Bool):∀ (l:List aj) (i v:Nat),v<2^i→oH q i l v<2^(i+l.length)
  | [],i,v,h=>h
  | f::r,i,v,h=>by
    have U:(if q f then v|||2^i else v)<2^(i+1):=by
      have ae:2^i<2^(i+1):=Nat.pow_lt_pow_right ag ag;split
      · exact Nat.or_lt_two_pow ag ae
      · omega
    have:=IG q r (i+1) _ U;rw [oH,length_cons,show i+(r.length+1)=i+1+r.length by omega];exact this
def oI (p:bP) (aU:List dD) (n:Int) (args:List (Int×Int)):Nat:=oH (nN (b6 p) aU args) 0 (dc p n) 0
def mI (p:bP) (aU:List dD) (n:Int) (args:List (Int×Int)) (g:List b7):Int:=
 if !(oG p aU n args) || !hI g then 2 else if hp p n=0 then (if so p n g then 0 else 7) else hp p n
def y7 (p:bP) (aU:List dD) (n:Int) (args:List (Int×Int)) (g:List b7):af:=
 .cu [if mI p aU n args g=0 then bg (g.getD (leads g (oI p aU n args)).1.toNat default).ms else .aC 0 [] .nil,.int .i64 (if mI p aU n args g=0 then ((leads g (oI p aU n args)).2:Int) else 0),.int .i64 (mI p aU n args g)]
theorem OP {g:List b7} (h:hI g=true):∀ x∈g,x.ms.length≤16:=fun x ab=>by
 obtain ⟨i,aQ⟩:=getElem?_of_mem ab;have az:=uS h aQ;by_cases a8:x.atom = -1
 ·exact ((nF a8).1 az).2.2.1
 ·have:=((kn a8).1 az).2.2.2.2.2.2
  omega
theorem OQ {i:Nat} (h:i≤7):IntKind.wrap .i64 (1*2^(min (i:Int).toNat (IntKind.bits .i64)))=((2^i:Nat):Int):=Eg h
theorem OR (p:bP) (aE:fN p) (n:Int) (aU:List dD) (args:List (Int×Int)) (aB:aU.length<bu) (ah:∀ o∈aU,o.bl.length<bu) (k3:args.length<bu) (g:List b7) (aw:g.length<bu):aR Tryz.prog 22 [cJ p,gj aU,.int .i64 n,jC args,fM g] (y7 p aU n args g):=by
 have aq:=bC;refine aR.bj ai Tryz.func22 C C fun s I=>?_
 have BK:=ZC p aE n aU args aB ah k3;have aZ:=Gs g aw;have a8:=D9 p aE n;have dH:mI p aU n args g=if !(oG p aU n args) || !hI g then 2 else if hp p n=0 then (if so p n g then 0 else 7) else hp p n:=rfl
 unfold y7;cases hz:oG p aU n args with
 | false=>
  rw [hz] at dH;have dH:mI p aU n args g=2:=dH;unfold Ei at BK;rw [hz,if_neg ba,if_neg ba] at BK;rw [dH,if_neg ba,if_neg ba];unfold cJ cL gj jC fM at *;refine bZ ?_;exact bm I
 | true=>
 have dg:fG p=true:=by unfold oG at hz;rw [and_eq_true] at hz;exact hz.1
 unfold Ei at BK;rw [hz,if_pos C,if_pos C] at BK;cases ir:hI g with
 | false=>
  rw [hz,ir] at dH;have dH:mI p aU n args g=2:=dH;rw [ir] at aZ;rw [dH,if_neg ba,if_neg ba];unfold cJ cL gj jC fM at *;refine bZ ?_;exact bm I
 | true=>
 rw [hz,ir] at dH;have dH:mI p aU n args g=if hp p n=0 then (if so p n g then 0 else 7) else hp p n:=dH
 rw [ir] at aZ;unfold cJ cL gj jC fM at *;refine bZ ?_;refine aa.b9 rfl rfl rfl rfl rfl a8 I .nil ?_ (fun _ _ h _=>by rcases h with ⟨_,_,_,_,h,_⟩|⟨_,⟨_,h⟩,_⟩<;>cases h);rintro _ _ (⟨he,cr,aq,cI,⟨⟩,rfl⟩|⟨he,⟨v,⟨⟩⟩,rfl⟩) I;rotate_left
 ·rw [if_neg he] at dH
  rw [dH,if_neg he,if_neg he];simp only [nil_append] at I ⊢;refine ew ?_;refine ad.cond C (fun _=>?_) (fun h=>absurd fZ he);refine gH ?_;exact bm I
 rw [if_pos he] at dH;obtain ⟨dg,fX,cX,eY,gF⟩:=xz he;have aF:=Zf p aE dg n (dc p n) aq cI cr fX cX eY gF g ir;have E6:(g.all (fun x=>decide (x.atom<((dc p n).length:Int)))&&(ka (b6 p) (dc p n)).all (vm p n (dc p n) g))=so p n g:=rfl;rw [E6] at aF;unfold ep fM at aF;simp only [cons_append,nil_append] at I ⊢;refine bB ?_;refine aa.b9 rfl rfl rfl rfl rfl aF I aY ?_ (fun _ _ ⟨h,_⟩ _=>by cases h);rintro _ _ ⟨⟨⟩,DT,m,rfl⟩ I;simp only [cons_append,nil_append] at I ⊢;cases tc:so p n g with
 | false=>
  rw [tc,if_neg ba] at dH;rw [dH,if_neg ba,if_neg ba];refine ew ?_;exact bm I
 | true=>
 rw [tc,if_pos C] at dH;rw [dH,if_pos C,if_pos C];have vn:oI p aU n args=oH (nN (b6 p) aU args) 0 (dc p n) 0:=rfl;have ft:=IG (nN (b6 p) aU args) (dc p n) 0 0 ba;rw [zero_add] at ft;have vk:2^(dc p n).length≤2^7:=pow_le_pow_right ag fX;rw [← vn] at ft;generalize oI p aU n args=view at *;have su:=Nc g ir view ag;obtain ⟨BL,vp,g1,g2,-⟩:=DL ir view;have e7:vp.ms.length≤16:=(OP ir) vp (mem_of_getElem? g2);have ct:=AE vp.ms .bc ag;have oT:(g.map eP)[BL]? = some (eP vp):=by rw [getElem?_map,g2];rfl
 rw [g1] at su ⊢;rw [toNat_natCast,show g.getD BL default=vp by rw [getD_eq_getElem?_getD,g2];rfl];unfold fM at su;unfold eP gY at oT;unfold eh c4 at I ⊢;generalize bK:dc p n=l at *;refine hl I ?_;intro I;refine ad.b0 [1,3,4,15,55,56] C I (σ:=Nat×Nat) (fun q=>[(57,.int .i64 (q.1:Int)),(17,.int .i64 (q.2:Int))]) (fun _=>[ep p n (c4 l) DT aq cI cr]) (fun q=>q.1≤l.length∧q.2<2^q.1∧view=oH (nN (b6 p) aU args) q.1 (l.drop q.1) q.2) (fun q=>l.length-q.1) (0,0) ⟨zero_le _,by simp,vn⟩ (ck C) (by simp only [ep,eh,c4];exact aY) ?_;rintro ⟨j,v⟩ ⟨aK,av,ak⟩ I;simp only [ep,eh,c4] at aK av ak I ⊢;have ZD:2^j≤2^7:=pow_le_pow_right ag ag;refine b2 ?_;refine ad.cond C (fun ar=>?_) (fun aV=>?_);rotate_left
 ·have aV:j=l.length:=by simp at aV;omega
  rw [ef ag,oH] at ak;subst ak;refine c3 ?_;exact bm I
 have ar:j<l.length:=by simpa using ar
 obtain ⟨f,ab,bL⟩:=bV (f:=aj.bJ) ar;have rz:=cX f (mem_of_getElem? ab);have tJ:f.size<bu:=by
  have U:=f.size_eq;have ae:=rv rz.1 rz.2;have an:=sD rz.1 rz.2;rw [an,aj.hv] at U;omega
 have uW:=GZ (b6 p) (vi dg) f tJ aU args aB ah k3;rw [drop_cons ab,oH] at ak;have kF:nN (b6 p) aU args f=((m7 (b6 p) f aU args).2==0&&(m7 (b6 p) f aU args).1):=rfl;generalize m7 (b6 p) f aU args=r at uW kF;obtain ⟨hP,cb⟩:=r;rw [aj.bW] at bL uW;unfold aj.cells eF eO gj jC at *;simp only at kF uW;by_cases br:cb=0
 ·subst br
  cases hP with
  | true=>
   have kF:nN (b6 p) aU args f=true:=kF;rw [kF,if_pos C] at ak
   repeat (first|(refine SP I ?_;clear I;intro I)|refine aa.d' ai I rfl rfl rfl rfl rfl rfl rfl (fun cy I=>?_)|(refine FK I ?_;clear I;intro I))
   refine aa.shl ((2^j:Nat):Int) C C C C C C ag (OQ ag) ?_;refine aa.bits _ C C C C C C (S' ag ag) ?_;refine fu ?_;exact bn.mk (j+1,v|||2^j) I ⟨ar,Nat.or_lt_two_pow (by rw [pow_succ];omega) (Nat.pow_lt_pow_right ag ag),ak⟩ b' aY l3
  | false=>
   have kF:nN (b6 p) aU args f=false:=kF;rw [kF,if_neg ba] at ak
   repeat (first|(refine SQ I ?_;clear I;intro I)|refine aa.d' ai I rfl rfl rfl rfl rfl rfl rfl (fun cy I=>?_)|(refine FK I ?_;clear I;intro I))
   exact bn.mk (j+1,v) I ⟨ar,by show v<2^(j+1);rw [pow_succ];omega,ak⟩ b' aY l3
 ·have kF:nN (b6 p) aU args f=false:=by rw [kF,show (cb==0)=false from beq_eq_false_iff_ne.2 br,Bool.false_and]
  rw [kF,if_neg ba] at ak
  repeat (first|(refine SR I ?_;clear I;intro I)|refine aa.d' ai I rfl rfl rfl rfl rfl rfl rfl (fun cy I=>?_)|(refine FK I ?_;clear I;intro I))
  refine aa.c2 75 C (beq_eq_false_iff_ne.2 br) ?_;refine bB ?_;exact bn.mk (j+1,v) I ⟨ar,by show v<2^(j+1);rw [pow_succ];omega,ak⟩ b' aY l3
end Go.Proofs.YtnafpeohfbglmaaGreat
