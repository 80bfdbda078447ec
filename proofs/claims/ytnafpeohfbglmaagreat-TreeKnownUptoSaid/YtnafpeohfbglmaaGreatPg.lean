import Derived.Test.YtnafpeohfbglmaaGreatPf
import Derived.Laws.Bits64
set_option linter.unusedVariables false
set_option linter.unusedSimpArgs false
set_option maxRecDepth 100000
set_option maxHeartbeats 4000000
theorem Kt {p:Prop} (h:p:=by (first|rw [e0 (by omega) (by omega)]|(simp only [hl,List.length_append,List.length_cons,List.length_nil];done)|rfl)):p:=h
theorem Ku {p:Prop} (h:p:=by rw [aD,Int.toNat_natCast,List.getD_eq_getElem?_getD,List.getElem?_eq_getElem (by omega)];rfl):p:=h
theorem Fh {p:Prop} (h:p:=by show ea.parents.length-(k+1)<ea.parents.length-k;omega):p:=h
theorem rQ {p:Prop} (h:p:=by show p.methods.length-(j+1)<p.methods.length-j;omega):p:=h
theorem Fi {p:Prop} (h:p:=by show p.dH.length-(j+1)<p.dH.length-j;omega):p:=h
theorem Fj {p:Prop} (h:p:=by show x.kids.length-(j+1)<x.kids.length-j;omega):p:=h
theorem qC {p:Prop} (h:p:=by simpa using aC):p:=h
namespace Go.Proofs.YtnafpeohfbglmaaGreat
open Go.bj Go.bY
theorem S4 (g:List bC) (ao:oz g):∀ (k b a:Nat),b<g.length→(b4 0 g).1[b]? = some (a:Int)→a<g.length→g.length-a≤k→∀ (order:List Int) (own:bU),lT g.length order →
  bu Tryz.prog 117 [eR g,bI (b4 0 g).1,.aA 1 (order.map bg) own,.int .i64 (b:Int)] [(own,.row 3 1 order.length)] (fun o K=>∃ cZ,o = .ret (.aA 1 ((meet (b4 0 g).2 k order a).map bg) cZ)∧K=[(cZ,.row 3 1 (meet (b4 0 g).2 k order a).length)]):=by
 have k0:bt=1099511627776:=rfl;have la:=ao.len;have qy:=Ff ao;have By:=(mw g 0).2;intro k
 induction k with
 | zero=>intro b a U ae al bl;omega
 | succ k a'=>
  intro b a an E9 aV aD order own rO;have hlen:=rO.len;obtain ⟨x,ab,ch⟩:=cD (f:=de) aV;have fZ:=Fe ao ab;have kI:=yV (k:=k) (order:=order) fZ;have Xp:((b4 0 g).1.map bg)[b]? = some (.int .i64 (a:Int)):=by rw [List.getElem?_map,E9];rfl
  refine bu.bp ak call117 Tryz.func117 C C fun s I=>?_
  unfold eR bI at *;unfold de fj bI at ch;refine bP ?_;refine af.cT [0,1,2,3] C I (σ:=Nat) (fun j=>[(9,.int .i64 (j:Int))]) (fun _=>[(own,.row 3 1 order.length)]) (fun j=>j≤order.length∧order.contains (a:Int)=(order.drop j).contains (a:Int)) (fun j=>order.length-j) 0 ⟨Nat.zero_le _,rfl⟩ (c3 C) (au.all _) ?_;rintro j ⟨aS,aH⟩ I
  try simp only at aS aH I ⊢
  refine cL ?_;refine af.cond C (fun aG=>?_) (fun bk=>?_)
  ·have aG:j<order.length:=by simpa using aG
   obtain ⟨y,ay,ey⟩:=cD (f:=bg) aG;rw [drop_cons ay,List.contains_cons] at aH;unfold bg at ey;refine fA ?_;refine af.cond C (fun aE=>?_) (fun aE=>?_)
   ·have aE:y=(a:Int):=by simpa using aE
    rw [show ((a:Int)==y)=true by rw [aE,beq_self_eq_true],Bool.true_or] at aH;rw [aH,if_pos C] at kI;rw [kI];refine mh ?_;exact Fin.bH I C aR (au.all _) ⟨own,rfl,rfl⟩
   ·have aE:y≠(a:Int):=by simpa using aE
    rw [show ((a:Int)==y)=false from beq_eq_false_iff_ne.2 (fun e=>aE e.symm),Bool.false_or] at aH;refine gi ?_;exact bX.mk (j+1) I ⟨aG,aH⟩ c7 (au.all _) (by show order.length-(j+1)<order.length-j;omega)
  have bk:j=order.length:=by simp at bk;omega
  rw [fC ai] at aH;have aH:order.contains (a:Int)=false:=aH;rw [aH,if_neg bn] at kI;rw [kI];by_cases cU:x.atom≥0
  ·have fI:lU (b4 0 g).1 x={ x with no:=(b4 0 g).1.getD x.no.toNat 0,yes:=(b4 0 g).1.getD x.yes.toNat 0 }:=by unfold lU;rw [if_pos cU]
   rw [fI,if_pos cU];obtain ⟨d1,d2,d3,d4⟩:=ao.eo a x ab cU;obtain ⟨y,ay⟩:∃ y:Nat,x.yes=y:=⟨x.yes.toNat,by omega⟩;obtain ⟨z,bE⟩:∃ z:Nat,x.no=z:=⟨x.no.toNat,by omega⟩;obtain ⟨Bz,BA,Fk,Kv⟩:=u2 ao (b:=y) ai;obtain ⟨n7,BB,z2,z3⟩:=u2 ao (b:=z) ai;simp only [ay,bE,Int.toNat_natCast,List.getD_eq_getElem?_getD,BA,BB,Option.getD_some] at ch ⊢;have mF:=qv qy k Bz ai ai order (by rw [By];exact rO);rw [By] at mF;have h4:=qv qy k n7 ai ai _ (by rw [By];exact mF.1);rw [By] at h4;have i1:=a' y Bz ai BA Kv ai order own rO;have i2:=fun mu=>a' z n7 ai BB z3 ai (meet (b4 0 g).2 k order Bz) mu mF.1
   have k1:=h4.1.len;refine bP ?_;refine af.cond C (fun _=>?_) (fun h=>absurd cU gn);refine fA ?_;refine aa.b0 rfl rfl rfl rfl rfl i1 I (au.all _) ?_ (fun _ _ h _=>by obtain ⟨_,h,_⟩:=h;cases h);rintro _ _ ⟨mu,⟨⟩,rfl⟩ I;rw [List.append_nil] at I ⊢;refine fA ?_;refine aa.b0 rfl rfl rfl rfl rfl (i2 mu) I (au.all _) ?_ (fun _ _ h _=>by obtain ⟨_,h,_⟩:=h;cases h);rintro _ _ ⟨uX,⟨⟩,rfl⟩ I;rw [List.append_nil] at I ⊢;refine gB ?_;refine aa.iN ak I C C C C C C C eQ C C C C C C C C a1 k4 mK ai (fun ct I=>?_);refine dO ?_;exact Fin.bH (K:=[(.own ct,.row 3 1 ((meet (b4 0 g).2 k (meet (b4 0 g).2 k order Bz) n7)++[(a:Int)]).length)]) I C (a8.of_eq (by rw [List.map_append];rfl)) (by simp only [List.length_append,List.length_cons,List.length_nil];exact bM) ⟨.own ct,rfl,rfl⟩
  ·have fI:lU (b4 0 g).1 x=x:=by unfold lU;rw [if_neg cU]
   rw [fI,if_neg cU];refine bP ?_;refine af.cond C (fun h=>absurd gn cU) (fun _=>?_);refine fA ?_;refine aa.iN ak I C C C C C C C eQ C C C C C C C C a1 k4 mK ai (fun ct I=>?_);refine dO ?_;exact Fin.bH (K:=[(.own ct,.row 3 1 (order++[(a:Int)]).length)]) I C (a8.of_eq (by rw [List.map_append];rfl)) (by simp only [List.length_append,List.length_cons,List.length_nil];exact bM) ⟨.own ct,rfl,rfl⟩
end Go.Proofs.YtnafpeohfbglmaaGreat
namespace Go.bY
theorem BC {N:List bC} (dZ:Down N):∀ (k a:Nat),a<N.length→N.length-a≤k→∀ order:List Int,(∀ y∈order,y∈meet N k order a)∧(a:Int)∈meet N k order a
  | 0,a,U,ae,_=>by omega
  | k+1,a,U,ae,order=>by
    obtain ⟨x,ab⟩:∃ x,N[a]? = some x:=⟨_,List.getElem?_eq_getElem U⟩;rw [yV ab];cases aE:order.contains (a:Int) with
    | true=>rw [if_pos C];exact ⟨fun y h=>h,List.contains_iff_mem.1 aE⟩
    | false=>
      rw [if_neg bn];refine ⟨fun y ay=>List.mem_append_left _ ?_,List.mem_append_right _ bn⟩;split
      · rename_i aV
        obtain ⟨d1,d2,d3,d4⟩:=dZ a x ab aV;obtain ⟨u,hu⟩:∃ u:Nat,x.yes=u:=⟨x.yes.toNat,by omega⟩;obtain ⟨z,bE⟩:∃ z:Nat,x.no=z:=⟨x.no.toNat,by omega⟩;rw [hu,bE];exact (BC dZ k z ai ai _).1 y ((BC dZ k u ai ai order).1 y ay)
      · exact ay
def BD (N:List bC) (order:List Int) (y:Int):Prop:=∀ x,N[y.toNat]? = some x→x.atom≥0→x.no∈order∧x.yes∈order
theorem BD.mono {N:List bC} {o o':List Int} {y:Int} (h:BD N o y) (aw:∀ z∈o,z∈o'):BD N o' y:=fun x ab aV=>⟨aw _ (h x ab aV).1,aw _ (h x ab aV).2⟩
theorem Fl {N:List bC} (dZ:Down N):∀ (k a:Nat),a<N.length→N.length-a≤k→∀ order:List Int,∀ y∈meet N k order a,y∈order∨BD N (meet N k order a) y
  | 0,a,U,ae,_=>by omega
  | k+1,a,U,ae,order=>by
    obtain ⟨x,ab⟩:∃ x,N[a]? = some x:=⟨_,List.getElem?_eq_getElem U⟩;rw [yV ab];cases aE:order.contains (a:Int) with
    | true=>rw [if_pos C];exact fun y h => .inl h
    | false=>
      rw [if_neg bn];by_cases aV:x.atom≥0
      · rw [if_pos aV]
        obtain ⟨d1,d2,d3,d4⟩:=dZ a x ab aV;obtain ⟨u,hu⟩:∃ u:Nat,x.yes=u:=⟨x.yes.toNat,by omega⟩;obtain ⟨z,bE⟩:∃ z:Nat,x.no=z:=⟨x.no.toNat,by omega⟩;rw [hu,bE];have s1:=BC dZ k u ai ai order;have s2:=BC dZ k z ai ai (meet N k order u);have cr:=Fl dZ k u ai ai order;have cJ:=Fl dZ k z ai ai (meet N k order u);intro y ay;rcases List.mem_append.1 ay with ay|ay
        · rcases cJ y ay with h|h
          · rcases cr y h with h|h
            · exact .inl h
            · exact .inr (h.mono fun w hw=>List.mem_append_left _ (s2.1 w hw))
          · exact .inr (h.mono fun w hw=>List.mem_append_left _ hw)
        · rw [List.mem_singleton.1 ay]
          refine .inr fun mB ch _=>?_
          rw [Int.toNat_natCast,ab] at ch;cases ch;rw [hu,bE];exact ⟨List.mem_append_left _ s2.2,List.mem_append_left _ (s2.1 _ s1.2)⟩
      · rw [if_neg aV]
        intro y ay;rcases List.mem_append.1 ay with ay|ay
        · exact .inl ay
        · rw [List.mem_singleton.1 ay]
          refine .inr fun mB ch S5=>?_
          rw [Int.toNat_natCast,ab] at ch;cases ch;exact absurd S5 aV
theorem Fm {order:List Int} (aC:order.Nodup) {i:Nat} {x:Int} (ab:order[i]? = some x):placeOf order x=(i:Int):=by
 obtain ⟨U,ae⟩:=List.getElem?_eq_some_iff.1 ab;have:order.findIdx? (· == x)=some i:=by
  rw [List.findIdx?_eq_some_iff_getElem];refine ⟨U,by rw [ae];simp,fun j aS=>?_⟩;rw [Bool.not_eq_true,beq_eq_false_iff_ne];intro he;have:=(List.getElem_inj aC).1 (he.trans ae.symm);omega
 unfold placeOf;rw [this];rfl
end Go.bY
namespace Go.bj
section
variable {P:Program} {Γ:cg} {N:Nat} {env:Env} {s:aj} {Q:b2→Env→aj→Prop} {L R:a6}
theorem c9.BE {B:ff} {ro:Option Nat} {a:Act} {w:World} {p:bN} (h:c9 N B ro env s a w p) {t b n cap sz:Nat} {T:TypeId} {cs:List ad} {xss:List (List ad)} (aK:env.get? t=some (dG b n cap)) (aw:s b=some (.box T cs)) (ab:cs.take (n*sz)=xss.flatten) (jI:xss.length=n) (b7:∀ c∈xss,c.length=sz) (aC:n≤cap) (hm:n≤9223372036854775807):∃ bb,c9 N B ro ((t,.aA sz (xss.map ad.agg) .bd)::env) (s.del b) a w bb∧cV w p w bb∧Kept s (s.del b) w p w bb:=by
 have C4:c9 N B ro ((a.tmps.size,.any)::[]) s a w p:=h.restrict _ (fun t v av=>by
  simp only [Env.get?] at av
  split at av
  ·cases av;exact .any _
  ·cases av)
 obtain ⟨vs,U,ae,al⟩:=h.wf.obj _ _ aw;have aG:b<w.heap.size:=(Array.getElem?_eq_some_iff.1 U).1;have hle:cV w p w (p.dA b True):=⟨rfl,rfl,rfl,Nat.le_refl _,fun _ _ h => .inl h,fun _ _ _=>rfl,fun _ _ h=>h⟩
 have aD:Kept s (s.del b) w p w (p.dA b True):=⟨fun _ _ _=>rfl,fun aT an aC=>by
  by_cases e:aT=b
  ·subst e;exact aj.l5 _ _
  ·rw [aj.lp _ e];exact aC,fun aT o an aC aN=>by
   rcases aN with aN|⟨rfl,_⟩
   ·exact aN
   ·rw [aw] at aC;cases aC⟩
 have b6:c0 w (p.dA b True) (s.del b):=by
  refine ⟨fun aT o an=>?_,fun aT o aN=>by rcases aN with aN|⟨rfl,_⟩;exact h.wf.lt _ _ aN;exact aG⟩;by_cases e:aT=b
  ·subst e;rw [aj.l5] at an;cases an
  ·rw [aj.lp _ e] at an
   have ag:=h.wf.obj aT o an;have eZ:∀ o,p.dA b True aT o↔p aT o:=fun o=>⟨fun aN=>by rcases aN with aN|⟨e',_⟩;exact aN;exact absurd e' e,.inl⟩
   cases o with
   | box t c=>obtain ⟨us,g1,g2,g3⟩:=ag;exact ⟨us,g1,g2.mono hle,fun o aN=>g3 o ((eZ o).1 aN)⟩
   | row t sz n=>obtain ⟨cur,g1,g2,g3,g4⟩:=ag;exact ⟨cur,g1,g2,g3,fun o=>(eZ o).trans (g4 o)⟩
   | map es=>obtain ⟨cw,c,g1,g2,g3⟩:=ag;exact ⟨cw,c,g1,⟨g2.1.mono hle,g2.2.mono hle⟩,g3⟩
   | j2 es it l c=>exact ag.oO hle C C
   | tick m=>exact ag
   | loop r env=>exact ⟨ag.1,fun t v h=>(ag.2 t v h).mono hle⟩
 have aF:=h.step hle aD b6;refine ⟨_,⟨aF.size,fun bG v av=>?_,aF.wf,aF.defs,aF.round,aF.base⟩,hle,aD⟩;simp only [Env.get?] at av;split at av
 ·rename_i he
  have:=Nat.eq_of_beq_eq_true he;subst this;cases av;have az:=h.env t _ aK;generalize a.tmps.getD t undef=dr at az;cases az;have hc:=ae.take (n*sz);rw [ab] at hc;obtain ⟨us,b8,bZ,eF⟩:=DB hc b7;refine .aA b 0 n cap sz us (xss.map ad.agg) .bd bn (by rw [List.length_map,jI]) ?_ (b8.mono hle) eF hm aC (fun h=>by cases h) (fun b h=>by cases h);rw [bZ];intro i v aY;refine ⟨.inr ⟨rfl,trivial⟩,?_⟩;rw [Nat.zero_add,iz U];rw [List.getElem?_take] at aY;split at aY
  ·simpa using aY
  ·cases aY
 ·exact aF.env bG v av
theorem af.BE {c:Code} (I:Ok s L) (t b:Nat) {n cap sz:Nat} {T:TypeId} {cs:List ad} {xss:List (List ad)} (aK:env.get? t=some (dG b n cap)) (aw:aP L (.own b) (.box T cs) R) (ab:cs.take (n*sz)=xss.flatten) (jI:xss.length=n) (b7:∀ c∈xss,c.length=sz) (aC:n≤cap) (hm:n≤9223372036854775807)
  (h:Ok s R→af P N c Q ((t,.aA sz (xss.map ad.agg) .bd)::env) (aQ s R)):af P N c Q env (aQ s L):=by
 obtain ⟨U,ae⟩:=aw.del I;intro rp B a w p et aF;obtain ⟨bb,al,bl,bD⟩:=aF.BE aK (aw.get I) ab jI b7 aC hm;rw [U] at al bD;exact kR (h ae rp B a w bb et al) fun _ _ _ q=>q.after bl bD
end
end Go.bj
namespace Go.Proofs.YtnafpeohfbglmaaGreat
open Go.bj Go.bY
def wO (n:Nat) (order:List Int) (j:Nat) (R:List Int):Prop:=R.length=n∧∀ (i:Nat) (x:Int),i<j→order[i]? = some x→R[x.toNat]? = some ((order.length:Int)-1-i)
theorem wO.step {n:Nat} {order:List Int} (ag:lT n order) {j:Nat} {R:List Int} (h:wO n order j R) {a:Nat} (aV:order[j]? = some (a:Int)):wO n order (j+1) (R.set a ((order.length:Int)-1-j)):=by
 have sD:=ag.lt _ (List.mem_of_getElem? aV);refine ⟨by rw [List.length_set];exact h.1,fun i x aY ab=>?_⟩;have jI:=ag.lt _ (List.mem_of_getElem? ab);by_cases ek:i=j
 ·subst ek
  rw [aV] at ab;cases ab;rw [Int.toNat_natCast,List.getElem?_set_self (by rw [h.1];omega)]
 ·have cB:x≠(a:Int):=fun e=>by
   have U:=Fm ag.nodup ab;have ae:=Fm ag.nodup aV;rw [e,ae] at U;omega
  rw [List.getElem?_set_ne ai];exact h.2 i x ai ab
theorem wO.all {n:Nat} {order:List Int} (ag:lT n order) {R:List Int} (h:wO n order order.length R) {x:Int} (ab:x∈order):R[x.toNat]? = some ((order.length:Int)-1-placeOf order x):=by
 obtain ⟨i,aY⟩:=List.getElem?_of_mem ab;rw [Fm ag.nodup aY];exact h.2 i x (List.getElem?_eq_some_iff.1 aY).1 aY
theorem S6 (g:List bC) (ao:oz g) (bE:∀ x∈g,¬ x.atom≥0→x.no=0∧x.yes=0):bu Tryz.prog 71 [eR g] [] (fun o K=>o = .ret (.aA 4 ((small g).map de) .bd)∧K=[]):=by
 have k0:bt=1099511627776:=rfl;have nI:=ao.pos;have la:=ao.len;have qy:=Ff ao;obtain ⟨wK,qx⟩:=mw g 0;have iX:=S0 g ao;obtain ⟨a0,BF,-,Fg⟩:=u2 ao (b:=0) ai;have rP:small g=(meet (b4 0 g).2 (g.length+1) [] a0).reverse.map (hY (b4 0 g).2 (meet (b4 0 g).2 (g.length+1) [] a0)):=by
  unfold small;simp only [List.getD_eq_getElem?_getD,BF,Option.getD_some];rfl
 have u0:lT g.length []:=⟨List.nodup_nil,fun _ h=>by cases h⟩;have oB:=(qv qy (g.length+1) a0 ai ai [] (by rw [qx];exact u0)).1;have S7:=Fl qy (g.length+1) a0 ai ai [];rw [qx] at oB;have wP:=bu.args (.cons aR (.cons aR (.cons (a8.nil (sz:=0) jO) (.one aR)))) (S4 g ao (g.length+1) 0 a0 ai BF Fg ai [] .nil u0);have lx:=fun (b:Nat) (an:b<g.length)=>u2 ao an
 have Ec:=fun (a:Nat) (x:bC) (ab:g[a]? = some x)=>Fe ao ab
 generalize (b4 0 g).1=one at *;generalize (b4 0 g).2=N at *;generalize meet N (g.length+1) [] a0=order at *;have hlen:=oB.len;refine bu.bp ak call71 Tryz.func71 C C fun s I=>?_
 refine af.kz I 3 1 0 fun I=>?_
 unfold eR bI at *;have jc:((g.map de).length:Int)=(g.length:Int):=by rw [List.length_map]
 have Kw:((order.map bg).length:Int)=(order.length:Int):=by rw [List.length_map]
 refine dF ?_;refine aa.b0 rfl rfl rfl rfl rfl iX I .nil ?_ (fun _ _ ⟨h,_⟩ _=>by cases h);rintro _ _ ⟨⟨⟩,rfl⟩ I;simp only [List.nil_append] at I ⊢;refine gB ?_;refine aa.b0 rfl rfl rfl rfl rfl wP I bM ?_ (fun _ _ h _=>by obtain ⟨_,h,_⟩:=h;cases h);rintro _ _ ⟨own,⟨⟩,rfl⟩ I;simp only [List.cons_append,List.nil_append] at I ⊢;refine gB ?_;refine aa.mf 4 (.aA 1 (order.map bg) .bd) C a8.bd ?_;refine aa.su ak I (g.map de).length C C C C C C C C C C C C (by rw [List.length_map];show _*8≤_;omega) nL (fun Fo I=>?_);simp only [List.length_map] at I ⊢;refine bP ?_;have jT:IntKind.wrap .i64 ((order.length:Int)-1)=(order.length:Int)-1:=e0 ai ai;refine af.cT [0,3,4,5] C I (σ:=Nat×List Int) (fun q=>[(6,.int .i64 (q.1:Int))]) (fun q=>[(.own Fo,.box 3 (q.2.map bg))]) (fun q=>q.1≤order.length∧wO g.length order q.1 q.2) (fun q=>order.length-q.1) (0,List.replicate g.length 0) ⟨Nat.zero_le _,by rw [List.length_replicate],fun i x aY=>by omega⟩ (c3 C) (by simp only [List.map_replicate];exact bM) ?_;rintro ⟨j,R⟩ ⟨aS,dV⟩ I;simp only at aS dV I ⊢;refine cL ?_;refine af.cond C (fun aG=>?_) (fun bk=>?_)
 ·have aG:j<order.length:=by simpa using aG
  obtain ⟨y,ay,ey⟩:=cD (f:=bg) aG;have gN:=oB.lt _ (List.mem_of_getElem? ay);obtain ⟨a,rfl⟩:∃ a:Nat,y=a:=⟨y.toNat,by omega⟩;have S8:=dV.1;have aF:=dV.step oB ay;have b8:IntKind.wrap .i64 (IntKind.wrap .i64 ((order.length:Int)-1)-(j:Int))=(order.length:Int)-1-j:=by rw [jT,e0 ai ai]
  have q9:eg (a*1) [.int .i64 (IntKind.wrap .i64 (IntKind.wrap .i64 (((order.map bg).length:Int)-1)-(j:Int)))] (R.map bg)=(R.set a ((order.length:Int)-1-j)).map bg:=by
   rw [Kw,b8,ru,Nat.mul_one,List.map_set];rfl
  unfold bg at ey;refine fA ?_;refine aa.e7 ak a C C C C C C C C C C ai ?_;refine aa.kF ak I _ C C C C C C C C C a1 (by show a*1+1≤(R.map bg).length;rw [List.length_map,S8];omega) q9 (fun I=>?_);refine h8 ?_;exact bX.mk (j+1,_) I ⟨aG,aF⟩ c7 bM (by show order.length-(j+1)<order.length-j;omega)
 have bk:j=order.length:=by simp at bk;omega
 subst bk;have EA:∀ x∈order,∀ X,N[x.toNat]? = some X→X.atom≥0→X.no∈order∧X.yes∈order:=fun x ab X fZ aV=>by
  rcases S7 x ab with h|h
  ·cases h
  ·exact h X fZ aV
 refine bP ?_;refine af.cT [0,3,4,5] C I (σ:=Nat×wE×List bC) (fun q=>[(8,.int .i64 ((q.1:Int)-1)),(7,hl q.2.1 q.2.2)]) (fun q=>(.own Fo,.box 3 (R.map bg))::gm q.2.1) (fun q=>q.1≤order.length∧qq q.2.1 q.2.2∧q.2.2.length+q.1=order.length∧order.reverse.map (hY N order)=q.2.2++((order.take q.1).reverse.map (hY N order))) (fun q=>q.1) (order.length,none,[]) ⟨Nat.le_refl _,rfl,by simp,by rw [List.take_length];rfl⟩ (by repeat (first|exact trivial|refine ⟨⟨_,rfl,aR⟩,?_⟩|refine ⟨⟨_,rfl,a8.of_eq (by (rw [Kw,jT]))⟩,?_⟩)) bM ?_;rintro ⟨j8,bw,done⟩ ⟨hm,dy,nD,lk⟩ I;simp only at hm dy nD lk I ⊢;cases j8 with
 | zero=>
  rw [List.take_zero,List.reverse_nil,List.map_nil,List.append_nil] at lk;rw [← lk,← rP] at dy ⊢;have sU:(small g).length≤1000:=by rw [rP,List.length_map,List.length_reverse];omega
  rcases bw with _|⟨g2,eI,eA⟩
  ·have bB:small g=[]:=dy
   rw [bB];unfold hl;refine bP ?_;exact Fin.bH I C a8.empty .nil ⟨rfl,rfl⟩
  ·obtain ⟨eE,e9,fH⟩:=dy
   unfold hl;unfold gm at I ⊢;refine af.BE I 7 g2 C a1 fH (by rw [List.length_map]) (kh _) e9 ai (fun I=>?_);rw [← wJ];refine bP ?_;exact Fin.bH I C aR .nil ⟨rfl,rfl⟩
 | succ m=>
 have nm:(((m+1:Nat):Int)-1)=(m:Int):=by omega
 have gQ:m<order.length:=hm;obtain ⟨y,ay,ey⟩:=cD (f:=bg) gQ;have gN:=oB.lt _ (List.mem_of_getElem? ay);obtain ⟨a,rfl⟩:∃ a:Nat,y=a:=⟨y.toNat,by omega⟩;obtain ⟨x,ab,ch⟩:=cD (f:=de) (l:=g) (show a<g.length by omega);have fZ:=Ec a x ab;have yY:=ao.ms x (List.mem_of_getElem? ab);have hc:(order.take (m+1)).reverse.map (hY N order)=hY N order a::(order.take m).reverse.map (hY N order):=by
  rw [List.take_add_one,ay,List.reverse_append];rfl
 rw [hc] at lk;have m1:hY N order a=if (lU one x).atom≥0 then { (lU one x) with no:=(order.length:Int)-1-placeOf order (lU one x).no,yes:=(order.length:Int)-1-placeOf order (lU one x).yes } else lU one x:=by
  unfold hY;simp only [Int.toNat_natCast,List.getD_eq_getElem?_getD,fZ,Option.getD_some]
 unfold bg at ey;unfold de fj bI at ch;simp only [nm];refine Dk ?_;refine aM.p0 ak C C C C C C C eQ C C C (.inl C) (.inr C) C (IJ _) (by simp only [List.length_nil,Nat.zero_add,List.length_map];show _*8≤_;omega) AG (.inr C) ?_
 repeat (first|(refine OT I ?_;clear I;intro I)|refine aM.DP ak I rfl rfl rfl rfl rfl rfl rfl rfl (fun cv I=>?_))
 by_cases cU:x.atom≥0
 ·obtain ⟨d1,d2,d3,d4⟩:=ao.eo a x ab cU
  obtain ⟨u,hu⟩:∃ u:Nat,x.no=u:=⟨x.no.toNat,by omega⟩;obtain ⟨w,hw⟩:∃ w:Nat,x.yes=w:=⟨x.yes.toNat,by omega⟩;obtain ⟨wQ,nR,pO,Xq⟩:=lx u ai;obtain ⟨wR,dU,jd,je⟩:=lx w ai;have fI:lU one x={ x with no:=(wQ:Int),yes:=(wR:Int) }:=by
   unfold lU;rw [if_pos cU,hu,hw,Int.toNat_natCast,Int.toNat_natCast,List.getD_eq_getElem?_getD,List.getD_eq_getElem?_getD,nR,dU];rfl
  rw [fI] at m1 fZ;rw [if_pos cU] at m1;have gA:=EA a (List.mem_of_getElem? ay) { x with no:=(wQ:Int),yes:=(wR:Int) } (by rw [Int.toNat_natCast];exact fZ) cU;have Kx:=dV.all oB gA.1;have Ky:=dV.all oB gA.2;simp only [Int.toNat_natCast] at Kx Ky;have S9:(R.map bg)[wQ*1]? = some (.int .i64 ((order.length:Int)-1-placeOf order wQ)):=by rw [Nat.mul_one,List.getElem?_map,Kx];rfl
  have S':(R.map bg)[wR*1]? = some (.int .i64 ((order.length:Int)-1-placeOf order wR)):=by rw [Nat.mul_one,List.getElem?_map,Ky];rfl
  have Xr:(one.map bg)[u]? = some (.int .i64 (wQ:Int)):=by rw [List.getElem?_map,nR];rfl
  have Xs:(one.map bg)[w]? = some (.int .i64 (wR:Int)):=by rw [List.getElem?_map,dU];rfl
  simp only [hu,hw] at ch;refine af.cond C (fun _=>?_) (fun h=>absurd cU gn);refine af.p8 I Fo a1 ak mixed C ?_;refine cH ?_;refine aM.e7 ak wQ C C C C C C C C C C ai ?_;refine aM.mJ ak C C C C C C (lL C S9) ?_;refine cH ?_;refine aM.e7 ak wR C C C C C C C C C C ai ?_;refine aM.mJ ak C C C C C C (lL C S') ?_;refine jb ?_;refine aM.Kq ak I _ C C C C C C C C C C a1 (Nat.le_of_ble_eq_true C) C a1 (fun I=>?_);refine cn I ?_;intro I;rcases bw with _|⟨g2,eI,eA⟩
  ·have bB:done=[]:=dy
   subst bB;unfold hl;unfold gm at I ⊢;skip;refine aa.ow ak I C C C C C C C eQ C C C C C C C dd (fun dk eI eA cr cJ dW I=>?_);refine h8 ?_;exact bX.mk (m,some (dk,eI,eA),[]++[hY N order a]) I ⟨by omega,⟨cr,ot,by rw [qs,m1];refine dW.trans ?_;rfl⟩,by simp at nD ⊢;omega,by rw [lk];simp⟩ (by repeat (first|exact trivial|refine ⟨⟨_,rfl,aR⟩,?_⟩|refine ⟨⟨_,rfl,a8.of_eq (by (first|rw [e0 ai ai]|rfl))⟩,?_⟩)) (by simp only [gm];repeat (first|exact au.nil|(apply au.cons;· repeat (first|exact aP.here|apply aP.there)))) sG
  ·obtain ⟨eE,e9,fH⟩:=dy
   unfold hl;unfold gm at I ⊢;skip;refine aa.ox ak I C C C C C C C eQ C C C C a1 eE e9 C C C C A7 ai (fun dk eI eA cr cJ dW I=>?_);refine h8 ?_;exact bX.mk (m,some (dk,eI,eA),done++[hY N order a]) I ⟨by omega,⟨cr,ot,by rw [qs,m1,List.length_append,List.length_cons,List.length_nil,← fH];refine dW.trans ?_;rfl⟩,by simp at nD ⊢;omega,by rw [lk];simp⟩ (by repeat (first|exact trivial|refine ⟨⟨_,rfl,aR⟩,?_⟩|refine ⟨⟨_,rfl,a8.of_eq Kt⟩,?_⟩)) (by simp only [gm];repeat (first|exact au.nil|(apply au.cons;· repeat (first|exact aP.here|apply aP.there)))) sG
 ·have fI:lU one x=x:=by unfold lU;rw [if_neg cU]
  rw [fI,if_neg cU] at m1;obtain ⟨BB,z2⟩:=bE x (List.mem_of_getElem? ab) cU;have yD:fj x=[.int .i64 x.atom,.int .i64 0,.int .i64 0,bI x.ms]:=by unfold fj;rw [BB,z2]
  refine af.cond C (fun h=>absurd gn cU) (fun _=>?_);rcases bw with _|⟨g2,eI,eA⟩
  ·have bB:done=[]:=dy
   subst bB;unfold hl;unfold gm at I ⊢;refine cn I ?_;intro I;refine aa.ow ak I C C C C C C C eQ C C C C C C C dd (fun dk eI eA cr cJ dW I=>?_);refine h8 ?_;exact bX.mk (m,some (dk,eI,eA),[]++[hY N order a]) I ⟨by omega,⟨cr,ot,by rw [qs,m1];refine dW.trans ?_;rw [yD];rfl⟩,by simp at nD ⊢;omega,by rw [lk];simp⟩ (by repeat (first|exact trivial|refine ⟨⟨_,rfl,aR⟩,?_⟩|refine ⟨⟨_,rfl,a8.of_eq (by (first|rw [e0 ai ai]|rfl))⟩,?_⟩)) (by simp only [gm];repeat (first|exact au.nil|(apply au.cons;· repeat (first|exact aP.here|apply aP.there)))) sG
  ·obtain ⟨eE,e9,fH⟩:=dy
   unfold hl;unfold gm at I ⊢;refine cn I ?_;intro I;refine aa.ox ak I C C C C C C C eQ C C C C a1 eE e9 C C C C A7 ai (fun dk eI eA cr cJ dW I=>?_);refine h8 ?_;exact bX.mk (m,some (dk,eI,eA),done++[hY N order a]) I ⟨by omega,⟨cr,ot,by rw [qs,m1,List.length_append,List.length_cons,List.length_nil,← fH];refine dW.trans ?_;rw [yD];rfl⟩,by simp at nD ⊢;omega,by rw [lk];simp⟩ (by repeat (first|exact trivial|refine ⟨⟨_,rfl,aR⟩,?_⟩|refine ⟨⟨_,rfl,a8.of_eq Kt⟩,?_⟩)) (by simp only [gm];repeat (first|exact au.nil|(apply au.cons;· repeat (first|exact aP.here|apply aP.there)))) sG
end Go.Proofs.YtnafpeohfbglmaaGreat
namespace Go.Proofs.YtnafpeohfbglmaaGreat
open Go.bj Go.bY
abbrev jk:=List (Int×ad)
def oE (l:jk):List (ad×ad):=l.map fun e=>(.int .i64 e.1,e.2)
def m5 (l:jk) (n:Int):Option ad:=(l.find? fun e=>n==e.1).map (·.2)
def qD:jk→Int→ad→jk
 | [],n,v=>[(n,v)]
 | e::r,n,v=>if n==e.1 then (n,v)::r else e::qD r n v
theorem Fp:∀ (l:jk) (n m:Int) (v:ad),m5 (qD l n v) m=if m=n then some v else m5 l m
  | [],n,m,v=>by
    unfold qD m5;by_cases h:m=n
    · subst h;simp
    · have:(m==n)=false:=by simpa using h
      simp [h,this]
  | (k,x)::r,n,m,v=>by
    have a':=Fp r n m v;rw [qD];by_cases h:n=k
    · subst h
      rw [if_pos bn];unfold m5;by_cases ae:m=n
      · subst ae;simp
      · have:(m==n)=false:=by simpa using ae
        simp [ae,this]
    · rw [if_neg gn]
      unfold m5 at a' ⊢;by_cases ae:m=k
      · subst ae
        have:¬ m=n:=fun e=>h e.symm
        simp [this]
      · have al:(m==k)=false:=by simpa using ae
        simp only [List.find?_cons,al];exact a'
theorem sX (n:Int):∀ l:jk,h1 (oE l) (.int .i64 n)=some (m5 l n)
  | []=>rfl
  | (k,x)::r=>by
    have a':=sX n r;unfold oE m5 at *;rw [List.map_cons,h1];by_cases h:n=k
    · subst h;simp [iY]
    · have al:(n==k)=false:=by simpa using h
      simp only [iY,al,List.find?_cons];simpa using a'
theorem sY (n:Int) (v:ad):∀ l:jk,kn (oE l) (.int .i64 n) v=some (oE (qD l n v))
  | []=>rfl
  | (k,x)::r=>by
    have a':=sY n v r;unfold oE at *;rw [List.map_cons,kn,qD];by_cases h:n=k
    · subst h;simp [iY]
    · have al:(n==k)=false:=by simpa using h
      simp only [iY,al];simp [a']
end Go.Proofs.YtnafpeohfbglmaaGreat
namespace Go.Proofs.YtnafpeohfbglmaaGreat
open Go.bj Go.bY
def m6 (m:Nat):ad := .agg [.int .u64 (m:Int)]
theorem Kz (m c:Nat) (hm:m<2^64) (aE:c<64):a7 Tryz.prog 286 [m6 m,.int .i64 (c:Int)] (m6 (m|||2^c)):=by
 have an:=bQ;refine a7.bp ak call286 Tryz.func286 C C fun s I=>?_
 unfold m6
 repeat (first|(refine p1 ?_)|refine aa.iM I C C C C C C (fun b I=>?_)|refine aa.dE ak I C C C C C C C (fun cv I=>?_)|(refine OU ?_))
 refine aM.arr ak 0 C C C C C C C C C C ai ?_;refine cn I ?_;intro I;refine aM.shl ((2^c:Nat):Int) C C C C C C ai (AL aE) ?_;refine aM.bits ((m|||2^c:Nat):Int) C C C C C C (uf hm (IN aE)) ?_;refine aM.arr ak 0 C C C C C C C C C C ai ?_;refine cn I ?_;intro I;exact Fin.dT I (o8 C C (aP.get a1 I) C) aR
theorem Ta (m n:Nat) (hm:m<2^64) (aC:n<2^64):a7 Tryz.prog 287 [m6 m,m6 n] (m6 (m|||n)):=by
 have an:=bQ;refine a7.bp ak call287 Tryz.func287 C C fun s I=>?_
 unfold m6
 repeat (first|(refine p1 ?_)|refine aa.iM I C C C C C C (fun b I=>?_)|refine aa.dE ak I C C C C C C C (fun cv I=>?_)|(refine OV ?_))
 refine aa.arr ak 0 C C C C C C C C C C ai ?_;refine cn I ?_;intro I;refine aa.arr ak 0 C C C C C C C C C C ai ?_;refine cn I ?_;intro I;refine aa.bits ((m|||n:Nat):Int) C C C C C C (uf hm aC) ?_;refine aa.arr ak 0 C C C C C C C C C C ai ?_;refine cn I ?_;intro I;exact Fin.dT I (o8 C C (aP.get a1 I) C) aR
end Go.Proofs.YtnafpeohfbglmaaGreat
namespace Go.Proofs.YtnafpeohfbglmaaGreat
open Go.bj Go.bY
theorem Tb (h y:Int):dM Tryz.prog (.func 308 [] [.bq [.int .i64 h] 0]) [.int .i64 y] (.bool (y != h)):=by
 have an:=bQ;refine dM.eP (first:=[]) (cap:=[.bq [.int .i64 h] 0]) ?_;refine a7.bp ak call308 Tryz.func308 C C fun s I=>?_
 refine nv ?_;exact bA I
theorem Tc {all:List (List Int)} {c:Int} {k:Nat} {m:List Int} (h:all[k]? = some m):free (all.drop k) c=(!(m.drop 1).contains c&&free (all.drop (k+1)) c):=by
 rw [drop_cons h];rfl
theorem Td (n b:Nat) (kp:n<1000∧b<1000) (all:List (List Int)) (hm:rr n b all):a7 Tryz.prog 293 [gb all] (.cl [bI (merged all).1,.bool (merged all).2]):=by
 have an:=bQ;refine a7.bp ak call293 Tryz.func293 C C fun s I=>?_
 unfold gb;have BG:total all≤n*b:=HO hm;have Xt:n*b≤1000*1000:=Nat.mul_le_mul ai ai;refine cy ?_;refine af.kz I 3 1 0 fun I=>?_
 refine af.cT [] C I (σ:=Nat×List (List Int)×List Int×bU) (fun q=>[(0,.aA 1 (q.2.1.map bI) .bd),(4,.aA 1 (q.2.2.1.map bg) q.2.2.2)]) (fun q=>[(q.2.2.2,.row 3 1 q.2.2.1.length)])
  (fun q=>merge q.1 q.2.1 q.2.2.1=merged all∧total q.2.1<q.1∧rr n b q.2.1∧q.2.2.1.length+total q.2.1≤total all) (fun q=>q.1) (total all+1,all,[],.nil) ⟨rfl,Nat.lt_succ_self _,hm,by simp⟩ ⟨⟨_,rfl,aR⟩,⟨_,rfl,a8.nil jO⟩,trivial⟩ (au.fh _) ?_
 rintro ⟨f,cur,acc,own⟩ ⟨dV,hc,hm,vC⟩ I;simp only at dV hc hm vC I ⊢;have cE:=hm.len;refine cy ?_;refine af.cT [0,4,14,15] C I (σ:=Nat×Bool) (fun z=>[(5,.bool z.2),(16,.int .i64 (z.1:Int))]) (fun _=>[(own,.row 3 1 acc.length)])
  (fun z=>z.1≤cur.length∧pick cur cur=pick cur (cur.drop z.1)∧(!z.2)=(cur.take z.1).all List.isEmpty) (fun z=>cur.length-z.1) (0,false) ⟨Nat.zero_le _,rfl,rfl⟩ (c3 C) (au.fh _) ?_
 rintro ⟨j,Te⟩ ⟨aS,aH,ke⟩ I;simp only at aS aH ke I ⊢;refine cL ?_;refine af.cond C (fun aG=>?_) (fun bk=>?_);rotate_left
 ·have bk:j=cur.length:=by simp at bk;omega
  subst bk;rw [fC (Nat.le_refl _)] at aH;rw [List.take_length] at ke;cases f with
  | zero=>omega
  | succ f=>
   rw [merge,aH] at dV;have dV:(acc,cur.all List.isEmpty)=merged all:=dV;rw [← dV,← ke];refine bP ?_;exact Fin.dT I C (a8.cl (.cons a8.bd (.one aR)))
 have aG:j<cur.length:=by simpa using aG
 obtain ⟨l,ay,ey⟩:=cD (f:=bI) aG;have Xu:=hm.each l (List.mem_of_getElem? ay);have KA:(cur.take (j+1)).all List.isEmpty=((cur.take j).all List.isEmpty&&l.isEmpty):=by rw [mi ay,List.all_append];simp
 unfold bI at ey;refine bP ?_;cases l with
 | nil=>
  rw [Ps ay] at aH;refine af.gV C ?_;refine fJ ?_;exact bX.mk (j+1,Te) I ⟨aG,aH,by rw [KA,← ke];simp⟩ c7 (au.fh _) (by show cur.length-(j+1)<cur.length-j;omega)
 | cons c r=>
 rw [Pt ay] at aH;refine af.cond C (fun h=>absurd h dq) (fun _=>?_);refine lH ?_;refine af.cT [0,4,5,7,14,15,16,23,24] C I (σ:=Nat) (fun k=>[(25,.int .i64 (k:Int))]) (fun _=>[(own,.row 3 1 acc.length)]) (fun k=>k≤cur.length∧free cur c=free (cur.drop k) c) (fun k=>cur.length-k) 0 ⟨Nat.zero_le _,rfl⟩ (c3 C) (au.fh _) ?_;rintro k ⟨aD,br⟩ I;refine cL ?_;refine af.cond C (fun c6=>?_) (fun e1=>?_)
 ·have c6:k<cur.length:=by simpa using c6
  obtain ⟨m,kO,Tf⟩:=cD (f:=bI) c6;have gQ:=hm.each m (List.mem_of_getElem? kO);rw [Tc kO] at br;have k8:=vO (m.drop 1) c (by rw [List.length_drop];omega);unfold bI at k8 Tf;rw [List.map_drop] at k8;have Tg:((c::r).map bg)[0]? = some (.int .i64 c):=rfl;cases m with
  | nil=>
   have br:free cur c=free (cur.drop (k+1)) c:=br;refine cy ?_;exact bX.mk (k+1) I ⟨c6,br⟩ c7 (au.fh _) (by show cur.length-(k+1)<cur.length-k;omega)
  | cons x q=>
   refine n8 ?_;refine aM.iB C C (fun _=>?_) (fun h=>absurd h bn);refine jb ?_;refine aM.slice 1 ((x::q).map bg).length C C C C C C C C (.inr C) (.inr ⟨_,_,rfl,rfl⟩) (.inl ⟨rfl,rfl,rfl⟩) (.inl ⟨rfl,rfl⟩) bn (Nat.le_refl _) ?_;rw [List.take_length];refine cH ?_;cases bD:((x::q).drop 1).contains c with
   | true=>
    rw [bD,Bool.not_true,Bool.false_and] at br;rw [br,if_neg bn] at aH;refine bP ?_;exact bX.mk (j+1,true) I ⟨aG,aH,by rw [KA];simp⟩ c7 (au.fh _) (by show cur.length-(j+1)<cur.length-j;omega)
   | false=>
    rw [bD,Bool.not_false,Bool.true_and] at br;refine bP ?_;exact bX.mk (k+1) I ⟨c6,br⟩ c7 (au.fh _) (by show cur.length-(k+1)<cur.length-k;omega)
 have e1:k=cur.length:=by simp at e1;omega
 subst e1;rw [fC (Nat.le_refl _)] at br;have br:free cur c=true:=br;rw [if_pos br] at aH;cases f with
 | zero=>omega
 | succ f=>
 have Xv:=HJ (vN aH);rw [merge,aH] at dV;simp only at dV;have Tg:((c::r).map bg)[0]? = some (.int .i64 c):=rfl;refine gP ?_;refine aa.iN ak I C C C C C C C eQ C C C C C C C C a1 k4 mK ai (fun ct I=>?_);refine bP ?_;obtain ⟨xs,gW⟩:∃ xs:Nat→List ad,∀ j,xs j=((cur.take j).map (hU c)).map bI:=⟨_,fun _=>rfl⟩;have bB:xs 0=[]:=by rw [gW];rfl
 have jI:∀ j,(xs j).length≤cur.length:=fun j=>by
  rw [gW,List.length_map,List.length_map];exact List.length_take_le' _ _
 refine af.kz I 23 1 0 fun I=>?_
 refine af.cT [4,10,48,49] C I (σ:=Nat×bU) (fun q=>[(50,.int .i64 (q.1:Int)),(11,.aA 1 (xs q.1) q.2)]) (fun q=>[(q.2,.row 23 1 (xs q.1).length),(.own ct,.row 3 1 (acc.length+1))]) (fun q=>q.1≤cur.length) (fun q=>cur.length-q.1) (0,.nil) (Nat.zero_le _) ⟨⟨_,rfl,aR⟩,⟨_,rfl,by rw [bB];exact a8.nil jO⟩,trivial⟩ (by rw [bB];exact (by simp only [List.length_map,List.length_nil];repeat (first|exact au.nil|(apply au.cons;· repeat (first|exact aP.here|apply aP.there))))) ?_;rintro ⟨i,uX⟩ aY I;simp only at aY I ⊢;refine cL ?_;refine af.cond C (fun BH=>?_) (fun Fq=>?_)
 ·have BH:i<cur.length:=by simpa using BH
  obtain ⟨l,ay,ey⟩:=cD (f:=bI) BH;have aw:=gW (i+1);rw [mi ay,List.map_append,List.map_append,← gW] at aw;have aw:xs (i+1)=xs i++[.aA 1 ((hU c l).map bg) .bd]:=aw;have dy:(xs (i+1)).length=(xs i).length+1:=by rw [aw];simp
  have q7:=jI i;have hw:=HM (.func 308 [] [.bq [.int .i64 c] 0]) (fun y=>y != c) (fun y=>Tb c y) l (by have:=(hm.each l (List.mem_of_getElem? ay)).1;omega);have hw:a7 Tryz.prog 307 [.aA 1 (l.map bg) .bd,.func 308 [] [.bq [.int .i64 c] 0]] (.aA 1 ((hU c l).map bg) .bd):=hw;unfold bI at ey;refine cH ?_;refine aa.iN ak I C C C C C C C eQ C C C C C C C C a1 k4 (by show (_+1)*24≤_;omega) ai (fun uW I=>?_);refine h8 ?_;exact bX.mk (i+1,.own uW) I BH tZ (by show au _ [(_,.row _ _ (xs (i+1)).length),_] _;rw [dy];exact au.fh _) (by show cur.length-(i+1)<cur.length-i;omega)
 ·have Fq:i=cur.length:=by
   have:cur.length≤i:=by simpa using Fq
   omega
  subst Fq;have he:xs cur.length=(cur.map (hU c)).map bI:=by rw [gW,List.take_length]
  rw [he] at I ⊢;refine bP ?_;exact bX.mk (f,cur.map (hU c),acc++[c],.own ct) I ⟨dV,by show total (cur.map (hU c))<f;omega,hm.hU c,by show (acc++[c]).length+total (cur.map (hU c))≤total all;rw [List.length_append,List.length_singleton];omega⟩ ⟨⟨_,rfl,a8.bd⟩,⟨_,rfl,a8.of_eq (by simp [bg])⟩,trivial⟩ (by show au _ [(_,.row _ _ (acc++[c]).length)] _;rw [List.length_append,List.length_singleton];exact (au.fh _).there) (by show f<f+1;omega)
end Go.Proofs.YtnafpeohfbglmaaGreat
namespace Go.Proofs.YtnafpeohfbglmaaGreat
open Go.bj Go.bY
def iv (bK:List (List Int)) (hr:bU) (us:List Nat) (fK:bU) (mb:Nat):List ad:=[.aA 1 (bK.map bI) hr,.aA 1 (us.map m6) fK,.map mb]
def fL (cd:Nat) (bK:List (List Int)) (hr:bU) (us:List Nat) (fK:bU) (mb:Nat) (eS:jk):a6:=
 [(.own cd,.box 327 (iv bK hr us fK mb)),(hr,.row 23 1 bK.length),(fK,.row 346 1 us.length),(.own mb,.map (oE eS))]
def Th (o:Option ad) (l:List Int):Prop:=match l with
 | []=>o=none
 | x::r=>∃ v,o=some v∧a8 v (.aA 1 ((x::r).map bg) .bd)
def pF (eS:jk) (os:List (List Int)):Prop:=∀ c:Nat,Th (m5 eS (c:Int)) (os.getD c [])
def pG (os:List (List Int)) (l:List Int):Option (List (List Int)):=(iP os l).map fun r=>r++[l]
theorem Ti (cd:Nat) (bK:List (List Int)) (hr:bU) (us:List Nat) (fK:bU) (mb:Nat) (eS:jk) (os:List (List Int)) (dc:pF eS os) (Fs:∀ l∈os,l.length<1000) (c:Nat) (l:List Int) (aI:bK[c]? = some l) (qe:l.length≤3) (BI:∀ p∈l,0≤p) :
  bu Tryz.prog 292 [.ptr cd 0,.int .i64 (c:Int)] (fL cd bK hr us fK mb eS) (fun o K=>o = .ret (AM (pG os l))∧K=fL cd bK hr us fK mb eS):=by
 have an:=bQ;have rf:(bK.map bI)[c]? = some (.aA 1 (l.map bg) .bd):=by rw [List.getElem?_map,aI];rfl
 refine bu.bp ak call292 Tryz.func292 C C fun s I=>?_
 unfold fL iv at I ⊢;refine gu I ?_;intro I;refine af.kz I 23 1 0 fun I=>?_
 refine af.cT [0,1,15,16] C I (σ:=Nat×List (List Int)×bU) (fun q=>[(17,.int .i64 (q.1:Int)),(6,.aA 1 (q.2.1.map bI) q.2.2)]) (fun q=>(q.2.2,.row 23 1 q.2.1.length)::fL cd bK hr us fK mb eS) (fun q=>q.1≤l.length∧q.2.1.length=q.1∧iP os l=pre (iP os (l.drop q.1)) q.2.1) (fun q=>l.length-q.1) (0,[],.nil) ⟨Nat.zero_le _,rfl,(Pu _).symm⟩ ⟨⟨_,rfl,aR⟩,⟨_,rfl,a8.nil jO⟩,trivial⟩ (by simp only [fL,iv];repeat (first|exact au.nil|(apply au.cons;· repeat (first|exact aP.here|apply aP.there)))) ?_;rintro ⟨j,acc,own⟩ ⟨aS,sD,aH⟩ I;simp only [fL,iv] at aS sD aH I ⊢;refine cL ?_;refine af.cond C (fun aG=>?_) (fun bk=>?_);rotate_left
 ·have bk:l.length≤j:=by simpa using bk
  rw [fC bk] at aH;have aH:iP os l=some (acc++[]):=aH;have jB:pG os l=some (acc++[l]):=by unfold pG;rw [aH];simp
  rw [jB];have Tj:AM (some (acc++[l])) = .cl [.aA 1 (acc.map bI++[.aA 1 (l.map bg) .bd]) .bd,.bool true]:=by
   show ad.cl [.aA 1 ((acc++[l]).map bI) .bd,.bool true]=_;rw [List.map_append];rfl
  rw [Tj];refine cn I ?_;intro I;refine aa.iN ak I C C C C C C C eQ C C C C C C C C a1 k4 (by show (_+1)*24≤_;omega) ai (fun ct I=>?_);refine dO ?_;exact Fin.bH (K:=fL cd bK hr us fK mb eS) I C (a8.cl (.cons a8.bd (.one aR))) (by simp only [fL,iv];repeat (first|exact au.nil|(apply au.cons;· repeat (first|exact aP.here|apply aP.there)))) ⟨rfl,rfl⟩
 have aG:j<l.length:=by simpa using aG
 obtain ⟨p,ay,ey⟩:=cD (f:=bg) aG;rw [drop_cons ay,Pv] at aH;have Tk:=BI p (List.mem_of_getElem? ay);have oF:=dc p.toNat;rw [Int.toNat_of_nonneg Tk] at oF;have qx:(os.getD p.toNat []).length<1000:=by
  rw [List.getD_eq_getElem?_getD];cases h:os[p.toNat]? with
  | none=>simp
  | some x=>exact Fs x (List.mem_of_getElem? h)
 generalize os.getD p.toNat []=ol at aH oF qx;have hw:=Pq ol ai;unfold bg at ey;unfold bI at hw;refine cn I ?_;intro I;cases ol with
 | nil=>
  have aH:iP os l=none:=aH;have jB:pG os l=none:=by unfold pG;rw [aH];rfl
  rw [jB];have oF:m5 eS p=none:=oF;refine aa.ij ak I C C C C C C C C C C a1 C (by rw [sX,oF]) C ?_;refine cC ?_;exact Fin.bH (K:=fL cd bK hr us fK mb eS) I C (a8.cl (.cons (a8.nil jO) (.one aR))) (by simp only [fL,iv];repeat (first|exact au.nil|(apply au.cons;· repeat (first|exact aP.here|apply aP.there)))) ⟨rfl,rfl⟩
 | cons x r=>
  obtain ⟨v,oF,yZ⟩:∃ v,m5 eS p=some v∧a8 v (.aA 1 ((x::r).map bg) .bd):=oF;refine aa.ij ak I C C C C C C C C C C a1 C (by rw [sX,oF]) C ?_;refine aa.mf 26 _ C yZ ?_;refine cn I ?_;intro I;refine aa.ij ak I C C C C C C C C C C a1 C (by rw [sX,oF]) C ?_;refine aa.mf 35 _ C yZ ?_;refine cH ?_;refine aa.iN ak I C C C C C C C eQ C C C C C C C C a1 k4 (by show (_+1)*24≤_;omega) ai (fun ct I=>?_);refine h8 ?_;exact bX.mk (j+1,acc++[hU 0 (x::r)],.own ct) I ⟨aG,by rw [List.length_append,sD];rfl,aH⟩ (by repeat (first|exact trivial|refine ⟨⟨_,rfl,aR⟩,?_⟩|refine ⟨⟨_,rfl,a8.of_eq (by (first|rw [nt ai]|(rw [List.map_append];rfl)))⟩,?_⟩)) (by show au _ ((_,.row _ _ (acc++[hU 0 (x::r)]).length)::fL cd bK hr us fK mb eS) _;rw [List.length_append,List.length_singleton];exact (by simp only [fL,iv];repeat (first|exact au.nil|(apply au.cons;· repeat (first|exact aP.here|apply aP.there))))) uH
end Go.Proofs.YtnafpeohfbglmaaGreat
namespace Go.Proofs.YtnafpeohfbglmaaGreat
open Go.bj Go.bY
def y0 (os:List (List Int)) (l:List Int) (c:Nat):List Int:=if c=0 then [0] else match pG os l with
 | none=>[]
 | some all=>if (merged all).2 then (c:Int)::(merged all).1++[0] else []
theorem KB {os:List (List Int)} {v:List Int} (c:Nat):(os++[v]).getD c []=if c=os.length then v else os.getD c []:=by
 rw [List.getD_eq_getElem?_getD,List.getD_eq_getElem?_getD];by_cases e:c=os.length
 ·subst e
  rw [if_pos C,List.getElem?_append_right (Nat.le_refl _)];simp
 ·rw [if_neg e]
  rcases Nat.lt_or_ge c os.length with h|h
  ·rw [List.getElem?_append_left h]
  ·rw [List.getElem?_eq_none dq,List.getElem?_eq_none h]
theorem pF.keep {eS:jk} {os:List (List Int)} (h:pF eS os):pF eS (os++[[]]):=fun c=>by
 rw [KB];by_cases e:c=os.length
 ·have:=h c
  rw [if_pos e];rw [e,List.getD_eq_getElem?_getD,List.getElem?_eq_none (Nat.le_refl _)] at this;rw [e];exact this
 ·rw [if_neg e];exact h c
theorem pF.put {eS:jk} {os:List (List Int)} (h:pF eS os) {v:ad} (x:Int) (r:List Int) (av:a8 v (.aA 1 ((x::r).map bg) .bd)):pF (qD eS (os.length:Int) v) (os++[x::r]):=fun c=>by
 rw [KB,Fp];by_cases e:c=os.length
 ·subst e;rw [if_pos C,if_pos C];exact ⟨v,rfl,av⟩
 ·rw [if_neg e,if_neg ai];exact h c
theorem Tl (cd:Nat) (bK:List (List Int)) (hr:bU) (us:List Nat) (fK:bU) (mb:Nat) (eS:jk) (os:List (List Int)) (dc:pF eS os) (Fs:∀ l∈os,l.length<1000) (l:List Int) (aI:bK[os.length]? = some l) (qe:l.length≤3) (BI:∀ p∈l,0≤p) (KC:∀ all,pG os l=some all→rr 4 21 all) (Xw:os.length<100) :
  bu Tryz.prog 288 [.ptr cd 0,.int .i64 (os.length:Int)] (fL cd bK hr us fK mb eS) (fun o K=>o = .ret (.cl [])∧∃ BJ,K=fL cd bK hr us fK mb BJ∧pF BJ (os++[y0 os l os.length])):=by
 have an:=bQ;have wS:=Ti cd bK hr us fK mb eS os dc Fs os.length l aI qe BI;unfold y0;refine bu.bp ak call288 Tryz.func288 C C fun s I=>?_
 unfold fL iv at I;refine cL ?_;refine af.cond C (fun h=>?_) (fun h=>?_)
 ·have bB:os.length=0:=by have:=of_decide_eq_true h;omega
  rw [if_pos bB];refine cn I ?_;intro I;refine aa.lF ak I C C (.inl C) C C C C C C a1 C (sY _ _ _) (fun I=>?_);refine cC ?_;have aC:=dc.put (v := .aA 1 [.int .i64 0] .clip) 0 [] a8.bd;rw [bB] at aC;exact Fin.bH (K:=fL cd bK hr us fK mb (qD eS 0 (.aA 1 [.int .i64 0] .clip))) I C aR (by simp only [fL,iv];repeat (first|exact au.nil|(apply au.cons;· repeat (first|exact aP.here|apply aP.there)))) ⟨rfl,_,rfl,aC⟩
 have bB:os.length≠0:=by have:=of_decide_eq_false h;omega
 rw [if_neg bB];cases BK:pG os l with
 | none=>
  rw [BK] at wS;unfold AM gb fL iv at wS;refine fA ?_;refine aa.b0 rfl rfl rfl rfl rfl wS I (au.all _) ?_ (fun _ _ ⟨h,_⟩ _=>by cases h);rintro _ _ ⟨⟨⟩,rfl⟩ I;rw [List.append_nil] at I ⊢;refine cC ?_;exact Fin.bH (K:=fL cd bK hr us fK mb eS) I C aR (by simp only [fL,iv];repeat (first|exact au.nil|(apply au.cons;· repeat (first|exact aP.here|apply aP.there)))) ⟨rfl,_,rfl,dc.keep⟩
 | some all=>
  rw [BK] at wS;have hm:=Td 4 21 ai all (KC all BK);unfold AM gb fL iv at wS;unfold gb at hm;simp only;refine fA ?_;refine aa.b0 rfl rfl rfl rfl rfl wS I (au.all _) ?_ (fun _ _ ⟨h,_⟩ _=>by cases h);rintro _ _ ⟨⟨⟩,rfl⟩ I;rw [List.append_nil] at I ⊢;cases Bx:(merged all).2 with
  | false=>
   rw [Bx] at hm;simp only [Bool.false_eq_true,if_false];refine cy ?_;exact Fin.bH (K:=fL cd bK hr us fK mb eS) I C aR (by simp only [fL,iv];repeat (first|exact au.nil|(apply au.cons;· repeat (first|exact aP.here|apply aP.there)))) ⟨rfl,_,rfl,dc.keep⟩
  | true=>
   rw [Bx] at hm;simp only [if_true];have gQ:=HR (total all+1) all [];have BG:=HO (KC all BK);have Tm:(merged all).1.length≤84:=by
    have:(merged all).1.length≤0+total all:=gQ;omega
   generalize (merged all).1=wT at hm Tm ⊢;unfold bI at hm;refine cH ?_;refine af.AN I 3 1 1 fun I=>?_
   refine af.o3 (di [(cd,_)]) ak mixed C (bm.run (di.one (aP.get a1 I)) C ?_);refine bm.mI 3 ak (di.one (aP.get a1 I)) C C C C C C C C (fun _ h=>di.fst h) b3 ?_;refine bm.run (di.one (aP.get a1 I)) C ?_;refine bm.o6 8 ak I rfl rfl rfl rfl rfl rfl rfl rfl rfl eQ rfl rfl rfl rfl (.inr rfl) rfl (fun y ay=>by obtain ⟨z,-,rfl⟩:=List.mem_map.1 ay;rfl) C .here C (n':=wT.length+1) dq dq dq (fun mu I => .inl (di.one (aP.get a1 I))) (fun mu I=>?_);refine bm.run (di.one (aP.get a1 I)) C ?_;refine bm.iN 10 ak I C C C C C C C C C eQ C C C C C C C C .here bn mK ai (fun uX I => .inl (di.one (aP.get a1 I))) (fun uX I=>?_);refine bm.run (di.one (aP.get a1 I)) C ?_;refine bm.lF 11 ak I C C C C (.inl C) C C C C C C a1 C (sY _ _ _) (fun _ => .inr C) (fun I=>?_);refine bf.done C ?_;skip;refine Fin.bH (K:=fL cd bK hr us fK mb (qD eS (os.length:Int) (.aA 1 ([ad.int .i64 (os.length:Int)]++wT.map bg++[ad.int .i64 0]) uX))) I C aR (by simp only [fL,iv];repeat (first|exact au.nil|(apply au.cons;· repeat (first|exact aP.here|apply aP.there)))) ⟨rfl,_,rfl,dc.put _ _ ?_⟩;have:((os.length:Int)::(wT++[0])).map bg=[ad.int .i64 (os.length:Int)]++wT.map bg++[ad.int .i64 0]:=by simp [bg]
   rw [show wT.append [0]=wT++[0] from rfl,this];exact a8.bd
end Go.Proofs.YtnafpeohfbglmaaGreat
namespace Go.Proofs.YtnafpeohfbglmaaGreat
open Go.bj Go.bY
def oG (g:List (List Int)):List (List Int):=[[],[],[]]++g
theorem KD {g:List (List Int)} {c:Nat} (h:c<3+g.length):(oG g)[c]? = some (parents g c):=by
 unfold oG parents;by_cases aE:c<3
 ·rw [if_pos aE,List.getElem?_append_left (by simpa using aE)]
  rcases c with _|_|_|c
  ·rfl
  ·rfl
  ·rfl
  ·omega
 ·rw [if_neg aE,List.getElem?_append_right dq,List.getD_eq_getElem?_getD]
  simp only [List.length_cons,List.length_nil];rw [List.getElem?_eq_getElem ai];rfl
theorem Tn (g:List (List Int)) (os:List (List Int)) (c:Nat) (aE:c≠0):y0 os (parents g c) c=order g os c:=by
 unfold y0 order pG lists;rw [if_neg aE];cases iP os (parents g c)<;>rfl
theorem y1 (g:List (List Int)):∀ (n k:Nat),k≤n→(gj g n).take (k+1)=gj g k
  | 0,k,h=>by
    have:k=0:=by omega
    subst this;rfl
  | n+1,k,h=>by
    by_cases e:k=n+1
    · subst e
      rw [List.take_of_length_le (by rw [x3];exact Nat.le_refl _)]
    · rw [gj,List.take_append_of_le_length (by rw [x3];omega)]
      exact y1 g n k ai
theorem To (g:List (List Int)) {j:Nat} (aS:j<3+g.length):(gj g (2+g.length)).take (j+1)=(gj g (2+g.length)).take j++[y0 ((gj g (2+g.length)).take j) (parents g j) j]:=by
 cases j with
 | zero=>rw [y1 g _ 0 ai,List.take_zero];rfl
 | succ k=>
  rw [y1 g _ (k+1) ai,y1 g _ k ai,Tn g _ _ ai,gj]
theorem Tp {g:List (List Int)} (ao:uh g) {j:Nat} (aS:j<3+g.length):(∀ l∈(gj g (2+g.length)).take j,l.length<1000)∧∀ all,pG ((gj g (2+g.length)).take j) (parents g j)=some all→rr 4 21 all:=by
 have jc:=ao.len;have ag:=AO ao (2+g.length) ai;refine ⟨fun l aI=>by have:=ag.len l (List.mem_of_mem_take aI);omega,fun all h=>?_⟩;cases j with
 | zero=>
  have:parents g 0=[]:=rfl;rw [this] at h;have:pG ((gj g (2+g.length)).take 0) []=some [[]]:=rfl;rw [this] at h;cases h;exact ⟨by simp,fun l aI=>by rw [List.mem_singleton] at aI;subst aI;exact ⟨by simp,fun c aE=>by cases aE⟩⟩
 | succ k=>
  rw [y1 g _ k ai] at h;exact Py ao (AO ao k ai) (c:=k+1) h
theorem Tq (g:List (List Int)) (ao:oa g=true) (ea:List Int) (cE:ea.length<bt) (l4:∀ c∈ea,0≤c∧c<3+(g.length:Int)) :
  bu Tryz.prog 275 [gb g,.aA 1 (ea.map bg) .bd] [] (fun o K=>∃ cd hr us fK mb eS,o = .ret (.cl [.ptr cd 0,.bool true])∧K=fL cd (oG g) hr us fK mb eS∧pF eS (gj g (2+g.length))):=by
 have an:=bQ;have l8:=DD ao;have jc:=l8.len;have Tr:=HN g ai;rw [ao] at Tr;refine bu.bp ak call275 Tryz.func275 C C fun s I=>?_
 unfold gb at *;have dU:IntKind.wrap .i64 (3+((g.map bI).length:Int))=3+(g.length:Int):=by rw [List.length_map,e0 ai ai]
 refine cH ?_;refine af.cT [0,4,5,18,19] C I (σ:=Nat) (fun j=>[(20,.int .i64 (j:Int))]) (fun _=>[]) (fun j=>j≤ea.length) (fun j=>ea.length-j) 0 (Nat.zero_le _) (c3 C) bM ?_;rintro j aS I;refine gB ?_;refine af.cond C (fun aG=>?_) (fun bk=>?_)
 ·have aG:j<ea.length:=by simpa using aG
  obtain ⟨c,ay,ey⟩:=cD (f:=bg) aG;obtain ⟨cr,cJ⟩:=l4 c (List.mem_of_getElem? ay);unfold bg at ey;refine fA ?_;refine aa.dR 26 C (decide_eq_false ai) ?_;refine hv ?_;refine af.cond C (fun h=>by rw [dU] at h;simp at h;omega) (fun _=>?_);refine cH ?_;exact bX.mk (j+1) I aG c7 bM (by show ea.length-(j+1)<ea.length-j;omega)
 clear aS bk;refine cH ?_;refine aa.DQ ak I 3 (3+g.length) C C C C C C C C C C C (congrArg (fun z=>some (ad.int .i64 z)) (dU.trans ai)) ai (by show _*24≤_;omega) ai (fun Xx I=>?_);skip;refine aa.pZ I C C C C (fun mb I=>?_)
 repeat (first|(refine p1 ?_)|refine aa.iM I C C C C C C (fun b I=>?_)|(refine Dl I ?_;clear I;intro I))
 refine aa.o6 ak I rfl rfl rfl rfl rfl rfl rfl eQ rfl rfl rfl rfl (.inr rfl) rfl (fun y ay=>by obtain ⟨z,-,rfl⟩:=List.mem_map.1 ay;rfl) C a1 C (n':=3+g.length) bn dq dq (fun hr I=>?_);refine aa.mf 47 (.aA 1 ((oG g).map bI) hr) C (a8.Px (.cons a8.empty (.cons a8.empty (.cons a8.empty (cA.refl _))))) ?_;refine cn I ?_;intro I;have jn:(oG g).length=3+g.length:=by unfold oG;simp;omega
 refine af.vJ I b (iv (oG g) hr [] .nil mb) a1 (.cons aR (.cons (a8.nil jO) (cA.refl _))) (fun I=>?_);refine af.kz I 346 1 0 fun I=>?_
 refine af.cT [8,53,54] C I (σ:=Nat×List Nat×bU) (fun q=>[(55,.int .i64 (q.1:Int))]) (fun q=>fL b (oG g) hr q.2.1 q.2.2 mb []) (fun q=>q.1≤3+g.length∧q.2.1.length=q.1∧∀ m∈q.2.1,m<2^64) (fun q=>3+g.length-q.1) (0,[],.nil) ⟨Nat.zero_le _,rfl,by simp⟩ (c3 C) (by rw [← jn] at I ⊢;exact (by simp only [fL,iv];repeat (first|exact au.nil|(apply au.cons;· repeat (first|exact aP.here|apply aP.there))))) ?_;rintro ⟨j,us,fK⟩ ⟨aS,ju,uP⟩ I;simp only [fL,iv] at aS ju uP I ⊢;refine gB ?_;refine af.cond C (fun aG=>?_) (fun bk=>?_)
 ·have aG:j<3+g.length:=by rw [List.length_map,jn] at aG;simp at aG;omega
  have ay:=KD aG;have ey:((oG g).map bI)[j]? = some (.aA 1 ((parents g j).map bg) .bd):=by rw [List.getElem?_map,ay];rfl
  obtain ⟨oD,m2⟩:=l8.parents j;generalize parents g j=l at ay ey oD m2;have U:=Kz 0 j dd ai;have ae:=Kz (0|||2^j) 0 (Nat.or_lt_two_pow dd (Nat.pow_lt_pow_right ai ai)) ai;unfold m6 at U ae
  repeat (first|(refine tY I ?_;clear I;intro I)|refine aa.dE ak I rfl rfl rfl rfl rfl rfl rfl (fun cv I=>?_)|(refine nw ?_))
  refine af.cT [8,9,11,53,54,55,64,65] C I (σ:=Nat×Nat) (fun q=>[(66,.int .i64 (q.1:Int))]) (fun q=>(.own cv,.box 346 [.int .u64 (q.2:Int)])::fL b (oG g) hr us fK mb []) (fun q=>q.1≤l.length∧q.2<2^64) (fun q=>l.length-q.1) (0,0|||2^j|||2^0) ⟨Nat.zero_le _,Nat.or_lt_two_pow (Nat.or_lt_two_pow dd (Nat.pow_lt_pow_right ai ai)) dd⟩ (c3 C) (by simp only [fL,iv];repeat (first|exact au.nil|(apply au.cons;· repeat (first|exact aP.here|apply aP.there)))) ?_;rintro ⟨k,m⟩ ⟨aD,hm⟩ I;simp only [fL,iv] at aD hm I ⊢;refine gB ?_;refine af.cond C (fun c6=>?_) (fun e1=>?_)
  ·have c6:k<l.length:=by simpa using c6
   obtain ⟨p,aE,x6⟩:=cD (f:=bg) c6;have Xy:=m2 p (List.mem_of_getElem? aE);obtain ⟨q,rfl⟩:∃ q:Nat,p=q:=⟨p.toNat,by omega⟩;obtain ⟨u,hu,Ts⟩:=cD (f:=m6) (l:=us) (j:=q) ai;have xk:=Ta m u hm (uP u (List.mem_of_getElem? hu));unfold bg at x6;unfold m6 at xk Ts;refine rj I ?_;intro I;exact bX.mk (k+1,m|||u) I ⟨c6,Nat.or_lt_two_pow hm (uP u (List.mem_of_getElem? hu))⟩ c7 (by simp only [fL,iv];repeat (first|exact au.nil|(apply au.cons;· repeat (first|exact aP.here|apply aP.there)))) (by show l.length-(k+1)<l.length-k;omega)
  ·refine tX ?_
   refine af.o3 (di [(b,_),(cv,_)]) ak mixed C (bm.run (di.two (aP.get a1 I) (aP.get a1 I)) C ?_);refine bm.mI 4 ak (di.two (aP.get a1 I) (aP.get a1 I)) C C C C C C C C (fun _ h=>di.fst h) b3 ?_;refine bm.mI 5 ak (di.two (aP.get a1 I) (aP.get a1 I)) C C C C C C C C (fun _ h=>di.snd h) b3 ?_;refine bm.run (di.two (aP.get a1 I) (aP.get a1 I)) C ?_;refine bm.iN 7 ak I C C C C C C C C C eQ C C C C C C C C a1 bn mK ai (fun uX I => .inl (di.two (aP.get a1 I) (aP.get a1 I))) (fun Tt I=>?_);refine bm.run (di.two (aP.get a1 I) (aP.get a1 I)) C ?_;refine bm.cF 10 ak I C C C C C C C C C C C a1 b3 (fun _ => .inr C) (fun I=>?_);refine bf.done C ?_;refine cH ?_;have C0:∀ x∈us++[m],x<2^64:=fun x ab=>by
    rcases List.mem_append.1 ab with ab|ab
    ·exact uP x ab
    ·rw [List.mem_singleton] at ab;subst ab;exact hm
   have gQ:(us++[m]).length=us.length+1:=by simp
   have Tu:(us++[m]).map m6=us.map m6++[.agg [.int .u64 (m:Int)]]:=by simp [m6]
   exact bX.mk (j+1,us++[m],Tt) I ⟨aG,by rw [gQ,ju],C0⟩ c7 (by simp only [fL,iv,gQ,Tu];exact bM) (by show 3+g.length-(j+1)<3+g.length-j;omega)
 have bk:j=3+g.length:=by rw [List.length_map,jn] at bk;simp at bk;omega
 subst bk;refine cn I ?_;intro I;refine af.cT [8,94,95] C I (σ:=Nat×jk) (fun q=>[(96,.int .i64 (q.1:Int))]) (fun q=>fL b (oG g) hr us fK mb q.2) (fun q=>q.1≤3+g.length∧pF q.2 ((gj g (2+g.length)).take q.1)) (fun q=>3+g.length-q.1) (0,[]) ⟨Nat.zero_le _,fun c=>by rw [List.take_zero];rfl⟩ (c3 C) (by simp only [fL,iv];repeat (first|exact au.nil|(apply au.cons;· repeat (first|exact aP.here|apply aP.there)))) ?_;rintro ⟨j,eS⟩ ⟨aS,dc⟩ I;simp only [fL,iv] at aS dc I ⊢;refine gB ?_;refine af.cond C (fun aG=>?_) (fun bk=>?_)
 ·have aG:j<3+g.length:=by rw [List.length_map,jn] at aG;simp at aG;omega
  obtain ⟨qX,oU⟩:=Tp l8 aG;obtain ⟨oD,m2⟩:=l8.parents j;have BG:((gj g (2+g.length)).take j).length=j:=by rw [List.length_take,x3];omega
  have sW:=Tl b (oG g) hr us fK mb eS _ dc qX (parents g j) (by rw [BG];exact KD aG) oD (fun p aN=>by have:=m2 p aN;omega) oU ai;rw [BG,← To g aG] at sW;refine fA ?_;refine aa.b0 C C C C C sW I (by simp only [fL,iv];repeat (first|exact au.nil|(apply au.cons;· repeat (first|exact aP.here|apply aP.there)))) ?_ (fun _ _ ⟨h,_⟩ _=>by cases h);rintro _ _ ⟨⟨⟩,BJ,rfl,Tv⟩ I;rw [List.append_nil] at I ⊢;refine cH ?_;exact bX.mk (j+1,BJ) I ⟨aG,Tv⟩ c7 (au.fh _) (by show 3+g.length-(j+1)<3+g.length-j;omega)
 have bk:j=3+g.length:=by rw [List.length_map,jn] at bk;simp at bk;omega
 subst bk;rw [List.take_of_length_le (by rw [x3];omega)] at dc;refine cH ?_;exact Fin.bH I C aR (au.fh _) ⟨b,hr,us,fK,mb,eS,rfl,rfl,dc⟩
end Go.Proofs.YtnafpeohfbglmaaGreat
namespace Go.Proofs.YtnafpeohfbglmaaGreat
open Go.bj Go.bY
theorem Tw (g:List (List Int)) (ao:g.length<bt):a7 Tryz.prog 254 [gb g] (.int .i64 (if oa g then 0 else 2)):=by
 have an:=bQ;refine a7.bp ak call254 Tryz.func254 C C fun s I=>?_
 have U:=HN g ao;unfold gb at *
 repeat' (first|(with_reducible first|apply af.seq|apply cf|apply hb|apply af.ret|apply af.skip)|refine dK C ?_|refine af.cK ?_|refine aa.nil ?_|refine cG C ?_|refine aa.eB C C C C C cq ?_|refine af.cond C (fun h=>?_) (fun h=>?_))
 all_goals exact Fin.dT I C (a8.of_eq t')
def KE (l:List Int):ad:=if l.isEmpty then .cl [.aA 0 [] .nil,.int .i64 7] else .cl [bI l,.int .i64 0]
theorem Tx (g:List (List Int)) (ao:oa g=true) (c:Nat) (aE:c<3+g.length):a7 Tryz.prog 255 [gb g,.int .i64 (c:Int)] (KE ((gj g (2+g.length)).getD c [])):=by
 have an:=bQ;refine a7.bp ak call255 Tryz.func255 C C fun s I=>?_
 have U:=Tq g ao [(c:Int)] dq (by intro x ab;rw [List.mem_singleton] at ab;subst ab;omega);have l8:=DD ao;have jc:=l8.len;have ag:=AO l8 (2+g.length) ai;unfold gb at *;have U:=bu.args (show cA [.aA 1 (g.map bI) .bd,.aA 1 [.int .i64 (c:Int)] .clip] [.aA 1 (g.map bI) .bd,.aA 1 ([(c:Int)].map bg) .bd] from .cons aR (.one a8.bd)) U;refine dF ?_;refine aa.b0 rfl rfl rfl rfl rfl U I .nil ?_ (fun _ _ ⟨_,_,_,_,_,_,h,_⟩ _=>by cases h);rintro _ _ ⟨cd,hr,us,fK,mb,eS,⟨⟩,rfl,dc⟩ I;rw [List.append_nil] at I ⊢;have y2:=dc c;have gC:((gj g (2+g.length)).getD c []).length<bt:=by
  rw [List.getD_eq_getElem?_getD];cases h:(gj g (2+g.length))[c]? with
  | none=>simp;omega
  | some x=>have:=ag.len x (List.mem_of_getElem? h);show x.length<bt;omega
 generalize (gj g (2+g.length)).getD c []=l at y2 gC;unfold fL iv at I ⊢;cases l with
 | nil=>
  have y2:m5 eS (c:Int)=none:=y2;refine gu I ?_;intro I;refine aa.ij ak I C C C C C C C C C C a1 C (by rw [sX,y2]) C ?_;refine cC ?_;exact bA I
 | cons x r=>
  obtain ⟨v,oF,yZ⟩:∃ v,m5 eS (c:Int)=some v∧a8 v (.aA 1 ((x::r).map bg) .bd):=y2;have cE:=yk (x::r) .bd gC;unfold bI at cE;refine gu I ?_;intro I;refine aa.ij ak I C C C C C C C C C C a1 C (by rw [sX,oF]) C ?_;refine aa.mf 22 _ C yZ ?_;refine cn I ?_;intro I;refine aa.ij ak I C C C C C C C C C C a1 C (by rw [sX,oF]) C ?_;refine aa.mf 30 _ C yZ ?_;refine cH ?_;exact bA I
end Go.Proofs.YtnafpeohfbglmaaGreat
namespace Go.Proofs.YtnafpeohfbglmaaGreat
open Go.bj Go.bY
def rR:ad := .iface 298 (.agg [])
theorem Ty (_u:Unit):a7 Tryz.prog 223 [.bool true] (.cl []):=by
 have an:=bQ;refine a7.bp ak call223 Tryz.func223 C C fun s I=>?_
 refine bP ?_;exact bA I
theorem Tz (_u:Unit):bu Tryz.prog 223 [.bool false] ([]) (fun o K=>o = .panic rR∧K=[]):=by
 have an:=bQ;refine bu.bp ak call223 Tryz.func223 C C fun s I=>?_
 refine bP ?_;refine aa.panic C C C C ?_;exact Fin.eM I aR .nil ⟨rfl,rfl⟩
theorem KF (n:Int):a7 Tryz.prog 257 [.int .i64 n] (.bool (nB n)):=by
 have an:=bQ;refine a7.bp ak call257 Tryz.func257 C C fun s I=>?_
 repeat' (first|(with_reducible first|apply af.seq|apply cf|apply af.ret)|refine dK C ?_|refine af.cK ?_|refine aa.nil ?_|refine cG C ?_|refine aa.skip C C C ?_|(fail_if_success refine aa.same true C ?_);(fail_if_success refine aa.same false C ?_);refine aa.iB C C (fun h=>?_) (fun h=>?_))
 all_goals (refine Fin.dT I C (a8.of_eq (congrArg ad.bool ?_));clear I;unfold nB;grind)
theorem TA (c:hK) (aE:c.parents.length<bt):dM Tryz.prog (.func 232 [] []) [jf c] (bI c.parents):=by
 have an:=bQ;refine dM.eP (first:=[]) (cap:=[]) ?_;refine a7.bp ak call232 Tryz.func232 C C fun s I=>?_
 have U:=yk c.parents .bd aE;unfold jf ss bI at *;refine cy ?_;exact bA I
theorem TB (cs:List hK) (aI:cs.length<bt) (gJ:∀ c∈cs,c.parents.length<bt):a7 Tryz.prog 231 [.aA 3 (cs.map jf) .bd,.func 232 [] []] (gb (cs.map hK.parents)):=by
 have an:=bQ;refine a7.bp ak call231 Tryz.func231 C C fun s I=>?_
 obtain ⟨xs,gW⟩:∃ xs:Nat→List ad,∀ j,xs j=((cs.take j).map hK.parents).map bI:=⟨_,fun _=>rfl⟩;have bB:xs 0=[]:=by rw [gW];rfl
 have jI:∀ j,(xs j).length≤cs.length:=fun j=>by
  rw [gW,List.length_map,List.length_map];exact List.length_take_le' _ _
 unfold gb;refine iO ?_;refine af.kz I 23 1 0 fun I=>?_
 refine af.cT [1,8,9] C I (σ:=Nat×bU) (fun q=>[(10,.int .i64 (q.1:Int)),(5,.aA 1 (xs q.1) q.2)]) (fun q=>[(q.2,.row 23 1 (xs q.1).length)]) (fun q=>q.1≤cs.length) (fun q=>cs.length-q.1) (0,.nil) (Nat.zero_le _) ⟨⟨_,rfl,aR⟩,⟨_,rfl,by rw [bB];exact a8.nil jO⟩,trivial⟩ (by rw [bB];exact au.fh _) ?_;rintro ⟨j,own⟩ aS I;simp only at aS I ⊢;refine cL ?_;refine af.cond C (fun aG=>?_) (fun bk=>?_);rotate_left;have bk:j=cs.length:=by
  have:cs.length≤j:=by simpa using bk
  omega
 ·subst bk
  have he:xs cs.length=(cs.map hK.parents).map bI:=by rw [gW,List.take_length]
  rw [he];have TC:=Qg ((cs.map hK.parents).map bI) own;refine cH ?_;exact Fin.dT I C a8.bd
 have aG:j<cs.length:=by simpa using aG
 obtain ⟨c,ay,ey⟩:=cD (f:=jf) aG;have aw:=gW (j+1);rw [mi ay,List.map_append,List.map_append,← gW] at aw;have aw:xs (j+1)=xs j++[.aA 1 (c.parents.map bg) .bd]:=aw;have dy:(xs (j+1)).length=(xs j).length+1:=by rw [aw];simp
 have q7:=jI j;have nI:=TA c (gJ c (List.mem_of_getElem? ay));unfold jf ss bI at *;refine gP ?_;refine aa.iN ak I C C C C C C C eQ C C C C C C C C a1 k4 (by show (_+1)*24≤_;omega) ai (fun ct I=>?_);refine h8 ?_;refine bX.mk (j+1,.own ct) I aG tZ (by show au _ [(_,.row _ _ (xs (j+1)).length)] _;rw [dy];exact au.fh _) (by show cs.length-(j+1)<cs.length-j;omega)
structure gS (p:b9):Prop where
 cls:p.dH.length<bt
 each:∀ c∈p.dH,c.parents.length<bt∧c.bx.length<bt∧c.inits.length<bt
 eY:p.eY.length<bt
 BL:p.methods.length<bt
 facts:∀ m∈p.methods,3*m.fact.size+3<bt
 nodes:p.nodes.length<bt
 kids:∀ x∈p.nodes,x.kids.length<bt
theorem KG (p:b9) (aN:gS p):a7 Tryz.prog 188 [ee p] (gb (jh p)):=by
 have an:=bQ;refine a7.bp ak call188 Tryz.func188 C C fun s I=>?_
 have U:=TB p.dH aN.cls (fun c h=>(aN.each c h).1);unfold ee dC;unfold gb jh at *;refine cy ?_;exact bA I
end Go.Proofs.YtnafpeohfbglmaaGreat
namespace Go.Proofs.YtnafpeohfbglmaaGreat
open Go.bj Go.bY
theorem KH:∀ (l:List hK) (i:Nat) (c:hK),hz i (l++[c])=hz i l++List.replicate c.bx.length (((i+l.length:Nat):Int)+3)
  | [],i,c=>by simp [hz]
  | x::r,i,c=>by
    rw [List.cons_append,hz,KH r (i+1) c,hz,List.append_assoc];congr 3;rw [List.length_cons];omega
theorem TD {l:List hK} {j:Nat} {c:hK} (h:l[j]? = some c):hz 0 (l.take (j+1))=hz 0 (l.take j)++List.replicate c.bx.length ((j:Int)+3):=by
 rw [mi h,KH];have:=sq h;rw [List.length_take,Nat.min_eq_left ai,Nat.zero_add]
theorem TE (l:List hK) (j:Nat):(hz 0 (l.take j)).length≤(hz 0 l).length:=by
 have key:∀ (l:List hK) (i j:Nat),(hz i (l.take j)).length≤(hz i l).length:=by
  intro l
  induction l with
  | nil=>intro i j;simp [hz]
  | cons c r a'=>
   intro i j;cases j with
   | zero=>simp [hz]
   | succ j=>
    rw [List.take_succ_cons,hz,hz,List.length_append,List.length_append];have:=a' (i+1) j;omega
 exact key l 0 j
theorem KI (p:b9) (aN:gS p) (ag:(hz 0 p.dH).length<bt):a7 Tryz.prog 147 [ee p] (iR (cu p)):=by
 have an:=bQ;refine a7.bp ak call147 Tryz.func147 C C fun s I=>?_
 have U:=KG p aN;have cE:=aN.cls;unfold iR hf cu;simp only;unfold ee dC at *;unfold gb at *
 repeat (first|(refine AD ?_)|refine aa.iM I C C C C C C (fun b I=>?_)|refine aa.dE ak I C C C C C C C (fun cv I=>?_)|(refine OW I ?_;clear I;intro I))
 rename_i KJ _;obtain ⟨Ft,rfl⟩:∃ x,x=cv:=⟨_,rfl⟩;refine af.vJ I Ft [.aA 1 ((jh p).map bI) .bd,.aA 1 [] .nil] .here (.cons aR (.one (a8.nil jO))) (fun I=>?_);refine af.kz I 3 1 0 fun I=>?_
 refine af.cT [2,3,10,11] C I (σ:=Nat×bU) (fun q=>[(12,.int .i64 (q.1:Int))]) (fun q=>[(.own Ft,.box 62 [.aA 1 ((jh p).map bI) .bd,.aA 1 ((hz 0 (p.dH.take q.1)).map bg) q.2]),(q.2,.row 3 1 (hz 0 (p.dH.take q.1)).length),(.own KJ,.box 62 [.aA 0 [] .nil,.aA 0 [] .nil])])
  (fun q=>q.1≤p.dH.length) (fun q=>p.dH.length-q.1) (0,.nil) (Nat.zero_le _) (c3 C) bM ?_
 rintro ⟨j,vu⟩ aS I;simp only at aS I ⊢;refine gB ?_;refine af.cond C (fun aG=>?_) (fun bk=>?_);rotate_left
 ·have bk:j=p.dH.length:=by simp at bk;omega
  subst bk;rw [List.take_length] at I ⊢;refine cn I ?_;intro I;exact Fin.dT I (o8 C C (aP.get a1 I) C) (a8.agg (.cons aR (.one a8.bd)))
 have aG:j<p.dH.length:=by simpa using aG
 obtain ⟨c,ay,ey⟩:=cD (f:=jf) aG;have gJ:=(aN.each c (List.mem_of_getElem? ay)).2.1;have aK:=TD ay;have hle:=TE p.dH (j+1);have je:IntKind.wrap .i64 ((j:Int)+3)=(j:Int)+3:=e0 ai ai;rw [aK,List.length_append,List.length_replicate] at hle;generalize hz 0 (p.dH.take j)=os at I aK hle ⊢;unfold jf ss bI at ey
 repeat (first|(refine AA I ?_;clear I;intro I)|refine aa.dE ak I rfl rfl rfl rfl rfl rfl rfl (fun cv I=>?_))
 refine af.cT [2,3,4,10,11,12,18,19] C I (σ:=Nat×bU) (fun q=>[(20,.int .i64 (q.1:Int))]) (fun q=>[(.own Ft,.box 62 [.aA 1 ((jh p).map bI) .bd,.aA 1 ((os++List.replicate q.1 ((j:Int)+3)).map bg) q.2]),(q.2,.row 3 1 (os++List.replicate q.1 ((j:Int)+3)).length),(.own KJ,.box 62 [.aA 0 [] .nil,.aA 0 [] .nil])])
  (fun q=>q.1≤c.bx.length) (fun q=>c.bx.length-q.1) (0,vu) (Nat.zero_le _) (c3 C) (by simp only [List.replicate_zero,List.append_nil];exact bM) ?_
 rintro ⟨k,ct⟩ aD I;simp only at aD I ⊢;refine cL ?_;refine af.cond C (fun c6=>?_) (fun e1=>?_);rotate_left
 ·have e1:k=c.bx.length:=by simp at e1;omega
  subst e1;rw [← aK] at I ⊢;refine bP ?_;exact bX.mk (j+1,ct) I aG c7 bM Fi
 have c6:k<c.bx.length:=by simpa using c6
 have gq:(os++List.replicate k ((j:Int)+3)).length=os.length+k:=by simp
 have TF:(os++List.replicate (k+1) ((j:Int)+3)).map bg=(os++List.replicate k ((j:Int)+3)).map bg++[.int .i64 (IntKind.wrap .i64 ((j:Int)+3))]:=by rw [je,List.replicate_succ',← List.append_assoc,List.map_append];rfl
 have TG:(os++List.replicate (k+1) ((j:Int)+3)).length=(os++List.replicate k ((j:Int)+3)).length+1:=by simp;omega
 refine cn I ?_;intro I;refine aa.iN ak I C C C C C C C eQ C C C C C C C C a1 bn mK ai (fun uW I=>?_);refine gu I ?_;intro I;exact bX.mk (k+1,.own uW) I c6 (by repeat (first|exact trivial|refine ⟨⟨_,rfl,aR⟩,?_⟩|refine ⟨⟨_,rfl,a8.of_eq (by (first|rw [nt ai]))⟩,?_⟩)) (by simp only [TG,TF];exact bM) (by show c.bx.length-(k+1)<c.bx.length-k;omega)
end Go.Proofs.YtnafpeohfbglmaaGreat
namespace Go.Proofs.YtnafpeohfbglmaaGreat
open Go.bj Go.bY
theorem TH (_u:Unit):a7 Tryz.prog 304 [.int .u64 0] (.int .i64 0):=by
 have an:=bQ;refine a7.bp ak call304 Tryz.func304 C C fun s I=>?_
 refine bP ?_;refine aa.xz ak 0 C C C C C C C C dd C ?_;refine bP ?_;exact bA I
theorem TI (_u:Unit):a7 Tryz.prog 290 [.int .u64 0] (.int .i64 0):=by
 have an:=bQ;refine a7.bp ak call290 Tryz.func290 C C fun s I=>?_
 have U:=TH ();refine cy ?_;exact bA I
theorem TJ (_u:Unit):a7 Tryz.prog 294 [.aA 0 [] .nil,.int .i64 0,.int .i64 0] (.cl []):=by
 have an:=bQ;refine a7.bp ak call294 Tryz.func294 C C fun s I=>?_
 refine iO ?_;refine af.cT [1,2] C I (σ:=Unit) (fun _=>[(6,.int .i64 1)]) (fun _=>[]) (fun _=>True) (fun _=>0) () trivial (c3 C) bM ?_;rintro _ _ I;refine bP ?_;exact bA I
theorem TK (_u:Unit):a7 Tryz.prog 289 [.aA 0 [] .nil,.int .i64 0,.int .i64 0,.int .i64 0] (.cl []):=by
 have an:=bQ;refine a7.bp ak call289 Tryz.func289 C C fun s I=>?_
 have U:=TJ ();refine iO ?_;refine af.cT [0,1,2,3] C I (σ:=Unit) (fun _=>[]) (fun _=>[]) (fun _=>True) (fun _=>0) () trivial (c3 C) bM ?_;rintro _ _ I;refine cy ?_;exact bA I
theorem TL (_u:Unit):a7 Tryz.prog 276 [.aA 0 [] .nil] (.cl []):=by
 have an:=bQ;refine a7.bp ak call276 Tryz.func276 C C fun s I=>?_
 have U:=TI ();have ae:=TK ();refine cy ?_;exact bA I
def pH (eS:jk) (up:List Int):Prop:=∀ n,m5 eS n=if up.contains n then some (.bool true) else none
theorem pH.put {eS:jk} {up:List Int} (h:pH eS up) (x:Int):pH (qD eS x (.bool true)) (up++[x]):=fun n=>by
 rw [Fp,h n];by_cases e:n=x
 ·subst e;simp
 ·rw [if_neg e]
  have:(up++[x]).contains n=up.contains n:=by
   rw [Bool.eq_iff_iff];simp [e]
  rw [this]
theorem pH.look {eS:jk} {up:List Int} (h:pH eS up) (n:Int):h1 (oE eS) (.int .i64 n)=some (if up.contains n then some (.bool true) else none):=by rw [sX,h n]
theorem y3 (l:List Int):(l.map bg).all eN=true:=by rw [List.all_map];simp [Function.comp_def,bg,eN]
structure KK (p:b9):Prop where
 mP:p.dH.length≤10
 each:∀ c∈p.dH,c.parents.length≤3∧c.bx.length≤4
theorem TM (p:b9) (aN:KK p) (c:Nat) (aE:c<p.dH.length):a7 Tryz.prog 256 [ee p,.int .i64 ((c:Int)+3)] (bI (rC p c)):=by
 have an:=bQ;refine a7.bp ak call256 Tryz.func256 C C fun s I=>?_
 have Ey:=aN.mP;unfold ee dC
 repeat (first|(refine p1 ?_)|refine aa.iM I C C C C C C (fun b I=>?_)|(refine AE ?_))
 refine aa.pZ I C C C C (fun mb I=>?_);refine d' ?_;refine aa.lF ak I C C (.inr C) C C C C C C a1 C (sY ((c:Int)+3) (.bool true) []) (fun I=>?_);refine fA ?_;refine af.cT [2] C I (σ:=Nat×List Int×List Int×qk×jk) (fun q=>[(7,.int .i64 ((q.1:Int)+2)),(5,.map mb),(6,mv q.2.2.2.1 q.2.2.1)]) (fun q=>[(.own b,.box 27 (dC p)),(.own mb,.map (oE q.2.2.2.2))]++kJ q.2.2.2.1 q.2.2.1)
  (fun q=>q.1≤c+1∧pf p.dH q.1 q.2.1 q.2.2.1=pf p.dH (c+1) [(c:Int)+3] []∧pH q.2.2.2.2 q.2.1∧rH q.2.2.2.1 q.2.2.1∧q.2.2.1.length+4*q.1≤4*(c+1)) (fun q=>q.1) (c+1,[(c:Int)+3],[],none,[((c:Int)+3,.bool true)])
  ⟨Nat.le_refl _,rfl,fun n=>by unfold m5;by_cases e:n=(c:Int)+3<;>simp [e],rfl,by simp⟩ ⟨⟨_,rfl,a8.of_eq dq⟩,⟨_,rfl,aR⟩,⟨_,rfl,aR⟩,trivial⟩ (by simp only [kJ,List.append_nil,dC];repeat (first|exact au.nil|(apply au.cons;· repeat (first|exact aP.here|apply aP.there)))) ?_
 rintro ⟨k,up,out,bw,eS⟩ ⟨aD,aH,om,dy,gC⟩ I;simp only at aD aH om dy gC I ⊢;unfold dC at I ⊢;refine gB ?_;refine af.cond C (fun aG=>?_) (fun bk=>?_);rotate_left
 ·have bk:k=0:=by simp at bk;omega
  subst bk;have aH:out=pf p.dH (c+1) [(c:Int)+3] []:=aH;have az:rC p c=og out:=by unfold rC;rw [← aH]
  rw [az];rcases bw with _|⟨g,cap,fe⟩
  ·have:out=[]:=dy
   subst this;have U:=TL ();have ae:=D9 [] .nil;have ae:=a7.args (show cA [.aA 0 [] .nil] [.aA 1 [] .nil] from .one (a8.nil jO)) ae;refine cH ?_;rw [show og []=[] by unfold og;simp];exact Fin.dT I C a8.bd
  ·have jt:out.length+fe.length=cap:=dy
   have U:=El g cap out fe ai;have ae:=D9 ((og out).map bg) .bd;simp only [kJ,mv,List.cons_append,List.nil_append] at I ⊢;refine cH ?_;refine aa.b0 rfl rfl rfl rfl rfl U I (.cons a1 .nil) ?_ (fun _ _ ⟨h,_⟩ _=>by cases h);rintro _ _ ⟨⟨⟩,rfl⟩ I;simp only [List.cons_append,List.nil_append] at I ⊢;have e:((og out).map bg++fe).take out.length=(og out).map bg:=List.take_left' (by unfold og;simp);have sU:(og out).length=out.length:=by unfold og;simp
   refine aa.run ak C (aa.nil ?_);refine cf ?_;refine af.sl I 6 g (cs:=(og out).map bg++fe) C .here (by rw [List.length_append,List.length_map];omega) ai ai (by rw [e];exact y3 _) (fun I=>?_);rw [e];refine cH ?_;exact Fin.dT I C a8.bd
 have aG:1≤k:=by simp at aG;omega
 obtain ⟨i,rfl⟩:∃ i,k=i+1:=⟨k-1,by omega⟩;have kg:=om.look ((i:Int)+3);have ao:pf p.dH (i+1) up out=if up.contains ((i:Int)+3) then pf p.dH i (up++(p.dH.getD i default).parents) (out++(p.dH.getD i default).bx) else pf p.dH i up out:=rfl
 rw [ao] at aH;have KL:(((i+1:Nat):Int)+2)=(i:Int)+3:=by omega
 rw [KL];have ql:i<p.dH.length:=by omega
 obtain ⟨ea,cE,y4⟩:=cD (f:=jf) ql;have nn:p.dH.getD i default=ea:=by rw [List.getD_eq_getElem?_getD,cE];rfl
 rw [nn] at aH;obtain ⟨TC,gJ⟩:=aN.each ea (List.mem_of_getElem? cE);have dU:IntKind.wrap .i64 ((i:Int)+3-3)=(i:Int):=by rw [e0 ai ai];omega
 have jd:IntKind.wrap .i64 ((i:Int)+3-1)=(i:Int)+2:=by rw [e0 ai ai];omega
 refine fA ?_;cases uS:up.contains ((i:Int)+3) with
 | false=>
  rw [uS] at aH kg;simp only [Bool.false_eq_true,if_false] at aH kg;refine aa.ij ak I C C C C C C C C C C (.there .here) C kg C ?_;refine cH ?_;exact bX.mk (i,up,out,bw,eS) I ⟨by omega,aH,om,dy,by show out.length+4*i≤4*(c+1);omega⟩ (by repeat (first|exact trivial|refine ⟨⟨_,rfl,aR⟩,?_⟩|refine ⟨⟨_,rfl,a8.of_eq (by (rw [jd]))⟩,?_⟩)) (au.fh _) (by show i<i+1;omega)
 | true=>
  rw [uS] at aH kg;simp only [if_true] at aH kg;unfold jf ss bI at y4;refine aa.ij ak I C C C C C C C C C C (.there .here) C kg C ?_;refine cn I ?_;intro I;refine aa.idx ak i C C C C C C C C C C dU y4 C ?_;refine d' ?_;rcases bw with _|⟨g,cap,fe⟩
  ·have bB:out=[]:=dy
   by_cases Fu:ea.bx=[]
   ·refine aa.mf 28 (.aA 1 [] .bd) C (a8.of_eq (by rw [Fu];rfl)) ?_
    refine aa.DV ak C C C C C C C eQ C C C ?_;have uJ:rH none (out++ea.bx):=by rw [bB,Fu];rfl
    refine cn I ?_;intro I;refine aa.idx ak i C C C C C C C C C C dU y4 C ?_;refine fA ?_;refine af.cT [2,5,6,7,36,37] C I (σ:=Nat×jk) (fun q=>[(38,.int .i64 (q.1:Int))]) (fun q=>(.own mb,.map (oE q.2))::(.own b,.box 27 (dC p))::kJ none (out++ea.bx)) (fun q=>q.1≤ea.parents.length∧pH q.2 (up++ea.parents.take q.1)) (fun q=>ea.parents.length-q.1) (0,eS) ⟨Nat.zero_le _,by rw [List.take_zero,List.append_nil];exact om⟩ (c3 C) (.cons (.there .here) (.cons .here .nil)) ?_;rintro ⟨k,y5⟩ ⟨hG,m7⟩ I;simp only [dC] at hG m7 I ⊢;refine gB ?_;refine af.cond C (fun c6=>?_) (fun e1=>?_)
    ·have c6:k<ea.parents.length:=by simpa using c6
     obtain ⟨x,ab,ch⟩:=cD (f:=bg) c6;unfold bg at ch;refine fA ?_;refine aa.lF ak I C C (.inl C) C C C C C C .here C (sY _ _ _) (fun I=>?_);refine cH ?_;exact bX.mk (k+1,_) I ⟨c6,by rw [mi ab,← List.append_assoc];exact m7.put x⟩ c7 (au.fh _) Fh
    ·have e1:k=ea.parents.length:=by simp at e1;omega
     subst e1;rw [List.take_length] at m7;refine cH ?_;exact bX.mk (i,up++ea.parents,out++ea.bx,none,y5) I ⟨by omega,aH,m7,uJ,by show (out++ea.bx).length+4*i≤4*(c+1);rw [List.length_append];omega⟩ (by repeat (first|exact trivial|refine ⟨⟨_,rfl,aR⟩,?_⟩|refine ⟨⟨_,rfl,a8.of_eq (by (rw [jd]))⟩,?_⟩)) (.cons (.there .here) (.cons .here (au.fh _))) (by show i<i+1;omega)
   ·have ri:1≤ea.bx.length:=by
     rcases bE:ea.bx with _|⟨z,a1⟩
     ·exact absurd bE Fu
     ·simp
    refine aa.DT ak I C C C C C C C eQ C C C C C C (y3 _) (by rw [List.length_map];exact ri) (by show _*8≤_;rw [List.length_map];omega) nL (fun aT b' cs' U ae al I=>?_)
    obtain ⟨fe,rfl⟩:∃ fe,cs'=(out++ea.bx).map bg++fe:=⟨cs'.drop (ea.bx.map bg).length,by
     have:=List.take_append_drop (ea.bx.map bg).length cs'
     rw [al] at this
     rw [bB];exact this.symm⟩
    have uJ:rH (some (aT,b',fe)) (out++ea.bx):=by show (out++ea.bx).length+fe.length=b';rw [List.length_append,List.length_map] at U;exact U
    refine aa.mf 29 (mv (some (aT,b',fe)) (out++ea.bx)) C (a8.of_eq (by show dG aT _ b'=dG aT _ b';rw [bB,List.length_map];rfl)) ?_;refine cn I ?_;intro I;refine aa.idx ak i C C C C C C C C C C dU y4 C ?_;refine fA ?_;refine af.cT [2,5,6,7,36,37] C I (σ:=Nat×jk) (fun q=>[(38,.int .i64 (q.1:Int))]) (fun q=>(.own mb,.map (oE q.2))::(.own b,.box 27 (dC p))::kJ (some (aT,b',fe)) (out++ea.bx)) (fun q=>q.1≤ea.parents.length∧pH q.2 (up++ea.parents.take q.1)) (fun q=>ea.parents.length-q.1) (0,eS) ⟨Nat.zero_le _,by rw [List.take_zero,List.append_nil];exact om⟩ (c3 C) (.cons (.there (.there .here)) (.cons (.there .here) (.cons .here .nil))) ?_;rintro ⟨k,y5⟩ ⟨hG,m7⟩ I;simp only [dC] at hG m7 I ⊢;refine gB ?_;refine af.cond C (fun c6=>?_) (fun e1=>?_)
    ·have c6:k<ea.parents.length:=by simpa using c6
     obtain ⟨x,ab,ch⟩:=cD (f:=bg) c6;unfold bg at ch;refine fA ?_;refine aa.lF ak I C C (.inl C) C C C C C C .here C (sY _ _ _) (fun I=>?_);refine cH ?_;exact bX.mk (k+1,_) I ⟨c6,by rw [mi ab,← List.append_assoc];exact m7.put x⟩ c7 (au.fh _) Fh
    ·have e1:k=ea.parents.length:=by simp at e1;omega
     subst e1;rw [List.take_length] at m7;refine cH ?_;exact bX.mk (i,up++ea.parents,out++ea.bx,(some (aT,b',fe)),y5) I ⟨by omega,aH,m7,uJ,by show (out++ea.bx).length+4*i≤4*(c+1);rw [List.length_append];omega⟩ (by repeat (first|exact trivial|refine ⟨⟨_,rfl,aR⟩,?_⟩|refine ⟨⟨_,rfl,a8.of_eq (by (rw [jd]))⟩,?_⟩)) (.cons (.there .here) (.cons .here (au.fh _))) (by show i<i+1;omega)
  ·have jt:out.length+fe.length=cap:=dy
   refine aa.DU (n:=out.length) (cap:=cap) (cs:=out.map bg++fe) ak I C C C C C C C eQ C C C C (.there (.there .here)) (by rw [List.length_append,List.length_map];exact jt) ai (by rw [List.take_left' bn];exact y3 _) C C (y3 _) (by show _*8≤_;rw [List.length_map];omega) nL (fun aT b' cs' U ae al I=>?_);rw [List.take_left' bn] at al
   obtain ⟨pt,rfl⟩:∃ fe,cs'=(out++ea.bx).map bg++fe:=⟨cs'.drop (out.length+(ea.bx.map bg).length),by
    have:=List.take_append_drop (out.length+(ea.bx.map bg).length) cs'
    rw [al] at this
    rw [List.map_append];exact this.symm⟩
   have uJ:rH (some (aT,b',pt)) (out++ea.bx):=by show (out++ea.bx).length+pt.length=b';rw [List.length_append,List.length_map] at U;exact U
   refine aa.mf 29 (mv (some (aT,b',pt)) (out++ea.bx)) C (a8.of_eq (by show dG aT _ b'=dG aT _ b';rw [List.length_map,List.length_append])) ?_;refine cn I ?_;intro I;refine aa.idx ak i C C C C C C C C C C dU y4 C ?_;refine fA ?_;refine af.cT [2,5,6,7,36,37] C I (σ:=Nat×jk) (fun q=>[(38,.int .i64 (q.1:Int))]) (fun q=>(.own mb,.map (oE q.2))::(.own b,.box 27 (dC p))::kJ (some (aT,b',pt)) (out++ea.bx)) (fun q=>q.1≤ea.parents.length∧pH q.2 (up++ea.parents.take q.1)) (fun q=>ea.parents.length-q.1) (0,eS) ⟨Nat.zero_le _,by rw [List.take_zero,List.append_nil];exact om⟩ (c3 C) (.cons (.there (.there .here)) (.cons (.there .here) (.cons .here .nil))) ?_;rintro ⟨k,y5⟩ ⟨hG,m7⟩ I;simp only [dC] at hG m7 I ⊢;refine gB ?_;refine af.cond C (fun c6=>?_) (fun e1=>?_)
   ·have c6:k<ea.parents.length:=by simpa using c6
    obtain ⟨x,ab,ch⟩:=cD (f:=bg) c6;unfold bg at ch;refine fA ?_;refine aa.lF ak I C C (.inl C) C C C C C C .here C (sY _ _ _) (fun I=>?_);refine cH ?_;exact bX.mk (k+1,_) I ⟨c6,by rw [mi ab,← List.append_assoc];exact m7.put x⟩ c7 (au.fh _) Fh
   ·have e1:k=ea.parents.length:=by simp at e1;omega
    subst e1;rw [List.take_length] at m7;refine cH ?_;exact bX.mk (i,up++ea.parents,out++ea.bx,(some (aT,b',pt)),y5) I ⟨by omega,aH,m7,uJ,by show (out++ea.bx).length+4*i≤4*(c+1);rw [List.length_append];omega⟩ (by repeat (first|exact trivial|refine ⟨⟨_,rfl,aR⟩,?_⟩|refine ⟨⟨_,rfl,a8.of_eq (by (rw [jd]))⟩,?_⟩)) (.cons (.there .here) (.cons .here (au.fh _))) (by show i<i+1;omega)
end Go.Proofs.YtnafpeohfbglmaaGreat
namespace Go.Proofs.YtnafpeohfbglmaaGreat
open Go.bj Go.bY
def BM (b:Bool):eb:=if b then .ret (.cl []) else .panic rR
theorem fR {x:ad} {b:Bool} (h:eb.ret x=BM b):b=true∧x = .cl []:=by
 cases b with
 | true=>cases h;exact ⟨rfl,rfl⟩
 | false=>cases h
theorem fS {x:ad} {b:Bool} (h:eb.panic x=BM b):b=false∧x=rR:=by
 cases b with
 | true=>cases h
 | false=>cases h;exact ⟨rfl,rfl⟩
theorem fX (b:Bool):bu Tryz.prog 223 [.bool b] [] (fun o K=>K=[]∧o=BM b):=by
 cases b with
 | true=>exact fun s I=>gg.mono (Ty () s) (fun o ah ⟨U,ae⟩=>⟨[],ae,trivial,rfl,U⟩)
 | false=>exact bu.mono (Tz ()) (fun o K ⟨U,ae⟩=>⟨ae,U⟩)
theorem Fv {cs:List hK} (h:∀ c∈cs,c.bx.length≤4):∀ (k:Nat) (up out:List Int),(pf cs k up out).length≤out.length+4*k
  | 0,_,_=>Nat.le_refl _
  | k+1,up,out=>by
    rw [pf];split
    · have U:=Fv h k (up++(cs.getD k default).parents) (out++(cs.getD k default).bx)
      have ae:(cs.getD k default).bx.length≤4:=by
        rw [List.getD_eq_getElem?_getD];cases aE:cs[k]? with
        | none=>exact Nat.zero_le _
        | some c=>exact h c (List.mem_of_getElem? aE)
      rw [List.length_append] at U;omega
    · have:=Fv h k up out
      omega
theorem TN (p:b9) (aN:gS p):bu Tryz.prog 222 [ee p] [] (fun o K=>K=[]∧o=BM (rD p)):=by
 have an:=bQ;have ao:=KG p aN;have jc:(jh p).length=p.dH.length:=by unfold jh;simp
 have BN:=Tw (jh p) (by rw [jc];exact aN.cls);have cW:rD p=(decide (p.dH.length≤10)&&((qa 0 p.dH==some p.bx)&&(oa (jh p)&&v' p 0 p.dH))):=rfl;refine bu.bp ak call222 Tryz.func222 C C fun s I=>?_
 unfold ee dC at *;unfold gb at *;refine dF ?_;refine aa.b0 C C C C C (fX _) I .nil ?_ ?_;rotate_left
 ·rintro _ _ ⟨rfl,h⟩ I
  obtain ⟨aC,rfl⟩:=fS h;rw [List.nil_append] at I ⊢;exact Fin.eM I aR .nil ⟨rfl,(by rw [cW,show decide (p.dH.length≤10)=false by simp at aC ⊢;omega];rfl)⟩
 rintro _ _ ⟨rfl,h⟩ I;obtain ⟨U,rfl⟩:=fR h;rw [List.nil_append] at I ⊢;have U:p.dH.length≤10:=by simp at U;omega
 rw [show decide (p.dH.length≤10)=true by simpa using U,Bool.true_and] at cW;refine bP ?_;refine af.cT [1,22,23] C I (σ:=Nat×Nat) (fun q=>[(24,.int .i64 (q.1:Int)),(2,.int .i64 (q.2:Int))]) (fun _=>[]) (fun q=>q.1≤p.dH.length∧qa 0 p.dH=qa (q.2:Int) (p.dH.drop q.1)∧q.2≤4*q.1) (fun q=>p.dH.length-q.1) (0,0) ⟨Nat.zero_le _,rfl,Nat.le_refl _⟩ (c3 C) bM ?_;rintro ⟨j,n⟩ ⟨aS,aH,TO⟩ I;simp only at aS aH TO I ⊢;refine cL ?_;refine af.cond C (fun aG=>?_) (fun bk=>?_)
 ·have aG:j<p.dH.length:=by simpa using aG
  obtain ⟨c,ay,ey⟩:=cD (f:=jf) aG;rw [drop_cons ay,qa] at aH;unfold jf ss bI at ey;refine gP ?_;refine aa.b0 C C C C C (fX _) I .nil ?_ ?_;rotate_left
  ·rintro _ _ ⟨rfl,h⟩ I
   obtain ⟨aC,rfl⟩:=fS h;rw [List.nil_append] at I ⊢;exact Fin.eM I aR .nil ⟨rfl,(by rw [if_neg (by simp at aC;omega)] at aH;rw [cW,aH];rfl)⟩
  rintro _ _ ⟨rfl,h⟩ I;obtain ⟨ae,rfl⟩:=fR h;rw [List.nil_append] at I ⊢;have ae:c.bx.length≤4:=by simp at ae;omega
  rw [if_pos ae] at aH;refine bP ?_;refine af.cT [1,22,23,24,34,35] C I (σ:=Nat×Nat) (fun q=>[(36,.int .i64 (q.1:Int)),(2,.int .i64 (q.2:Int))]) (fun _=>[]) (fun q=>q.1≤c.bx.length∧ur (n:Int) c.bx=ur (q.2:Int) (c.bx.drop q.1)∧q.2≤n+q.1) (fun q=>c.bx.length-q.1) (0,n) ⟨Nat.zero_le _,rfl,Nat.le_refl _⟩ (c3 C) bM ?_;rintro ⟨k,m⟩ ⟨aD,br,KM⟩ I;simp only at aD br KM I ⊢;refine cL ?_;refine af.cond C (fun c6=>?_) (fun e1=>?_)
  ·have c6:k<c.bx.length:=by simpa using c6
   obtain ⟨x,ab,ch⟩:=cD (f:=bg) c6;rw [drop_cons ab,ur] at br;unfold bg at ch;refine fA ?_;refine aa.b0 C C C C C (fX _) I .nil ?_ ?_;rotate_left
   ·rintro _ _ ⟨rfl,h⟩ I
    obtain ⟨aC,rfl⟩:=fS h;rw [List.nil_append] at I ⊢;exact Fin.eM I aR .nil ⟨rfl,(by rw [if_neg qC] at br;rw [br] at aH;rw [cW,aH];rfl)⟩
   rintro _ _ ⟨rfl,h⟩ I;obtain ⟨al,rfl⟩:=fR h;rw [List.nil_append] at I ⊢;have al:x=(m:Int):=by simpa using al
   rw [if_pos al] at br;refine h8 ?_;exact bX.mk (k+1,m+1) I ⟨c6,by rw [br];push_cast;rfl,by show m+1≤n+(k+1);omega⟩ (by repeat (first|exact trivial|refine ⟨⟨_,rfl,aR⟩,?_⟩|refine ⟨⟨_,rfl,a8.of_eq (by (first|rw [nt ai]|(rw [e0 ai ai];push_cast;rfl)))⟩,?_⟩)) bM (by show c.bx.length-(k+1)<c.bx.length-k;omega)
  ·have e1:k=c.bx.length:=by simp at e1;omega
   subst e1;rw [fC (Nat.le_refl _),ur] at br;rw [br] at aH;refine bP ?_;exact bX.mk (j+1,m) I ⟨aG,aH,by show m≤4*(j+1);omega⟩ c7 bM Fi
 have bk:j=p.dH.length:=by simp at bk;omega
 subst bk;rw [fC (Nat.le_refl _),qa] at aH;rw [aH] at cW;refine cH ?_;cases Fw:((n:Int)==p.bx) with
 | false=>
  have Fx:(some (n:Int)==some p.bx)=false:=by rw [← Fw];rfl
  rw [Fx,Bool.false_and] at cW;refine cC ?_;refine aa.b0 C C C C C (fX _) I .nil ?_ ?_;rotate_left
  ·rintro _ _ ⟨rfl,h⟩ I
   obtain ⟨aC,rfl⟩:=fS h;rw [List.nil_append] at I ⊢;exact Fin.eM I aR .nil ⟨rfl,(by rw [cW];rfl)⟩
  rintro _ _ ⟨rfl,h⟩ I;obtain ⟨al,rfl⟩:=fR h;rw [List.nil_append] at I ⊢;cases al
 | true=>
 have Fx:(some (n:Int)==some p.bx)=true:=by rw [← Fw];rfl
 rw [Fx,Bool.true_and] at cW;have dy:=D3 aH;cases wU:oa (jh p) with
 | false=>
  rw [wU,Bool.false_and] at cW;rw [wU] at BN;simp only [Bool.false_eq_true,if_false] at BN;refine cH ?_;refine aa.b0 C C C C C (fX _) I .nil ?_ ?_;rotate_left
  ·rintro _ _ ⟨rfl,h⟩ I
   obtain ⟨aC,rfl⟩:=fS h;rw [List.nil_append] at I ⊢;exact Fin.eM I aR .nil ⟨rfl,(by rw [cW];rfl)⟩
  rintro _ _ ⟨rfl,h⟩ I;obtain ⟨al,rfl⟩:=fR h;rw [List.nil_append] at I ⊢;exact absurd al dd
 | true=>
 rw [wU,Bool.true_and] at cW;rw [wU] at BN;simp only [if_true] at BN;have l8:=DD wU
 have sC:KK p:=⟨U,fun c aE=>⟨by
  obtain ⟨i,aY⟩:=List.getElem?_of_mem aE
  exact (l8.par i c.parents (by unfold jh;rw [List.getElem?_map,aY];rfl)).1,dy c aE⟩⟩
 have KN:=fun c aE=>Tx (jh p) wU c aE
 unfold gb at KN;refine cH ?_;refine aa.b0 C C C C C (fX _) I .nil ?_ ?_;rotate_left
 ·rintro _ _ ⟨rfl,h⟩ I
  obtain ⟨aC,rfl⟩:=fS h;rw [List.nil_append] at I ⊢;exact Fin.eM I aR .nil ⟨rfl,(by exact absurd aC dd)⟩
 rintro _ _ ⟨rfl,h⟩ I;obtain ⟨al,rfl⟩:=fR h;rw [List.nil_append] at I ⊢;clear al;refine bP ?_;refine af.cT [1,7,61,62] C I (σ:=Nat) (fun j=>[(63,.int .i64 (j:Int))]) (fun _=>[]) (fun j=>j≤p.dH.length∧rD p=v' p j (p.dH.drop j)) (fun j=>p.dH.length-j) 0 ⟨Nat.zero_le _,cW⟩ (c3 C) bM ?_;rintro j ⟨aS,aH⟩ I;refine cL ?_;refine af.cond C (fun aG=>?_) (fun bk=>?_);rotate_left
 ·have bk:j=p.dH.length:=by simp at bk;omega
  subst bk;rw [fC (Nat.le_refl _),v'] at aH;refine fJ ?_;exact Fin.bH I C aR .nil ⟨rfl,by rw [aH];rfl⟩
 have aG:j<p.dH.length:=by simpa using aG
 obtain ⟨c,ay,ey⟩:=cD (f:=jf) aG;rw [drop_cons ay,v'] at aH;unfold Ix at aH;have wV:=KN (j+3) ai;have qe:(gj (jh p) (2+(jh p).length)).getD (j+3) []=D2 p (j+3):=rfl;rw [qe] at wV;have je:IntKind.wrap .i64 ((j:Int)+3)=((j+3:Nat):Int):=by rw [e0 ai ai];omega
 rw [← je] at wV;have mo:=TM p sC j aG;have mo:a7 Tryz.prog 256 [ee p,.int .i64 (IntKind.wrap .i64 ((j:Int)+3))] (bI (rC p j)):=by rw [je];exact mo
 unfold ee dC bI at mo;unfold jf ss bI at ey;unfold KE at wV;cases BO:(D2 p (j+3)).isEmpty with
 | true=>
  rw [BO,if_pos C] at wV;rw [BO] at aH
  repeat (first|(refine tY I ?_;clear I;intro I)|refine aa.dE ak I rfl rfl rfl rfl rfl rfl rfl (fun cv I=>?_)|(refine nw ?_))
  refine aa.b0 C C C C C (fX _) I .nil ?_ ?_;rotate_left
  ·rintro _ _ ⟨rfl,h⟩ I
   obtain ⟨aC,rfl⟩:=fS h;rw [List.nil_append] at I ⊢;exact Fin.eM I aR .nil ⟨rfl,(by rw [aH];rfl)⟩
  rintro _ _ ⟨rfl,h⟩ I;obtain ⟨al,rfl⟩:=fR h;rw [List.nil_append] at I ⊢;exact absurd al dd
 | false=>
 rw [BO,if_neg bn] at wV;rw [BO,Bool.not_false,Bool.true_and] at aH;unfold bI at wV
 repeat (first|(refine tY I ?_;clear I;intro I)|refine aa.dE ak I rfl rfl rfl rfl rfl rfl rfl (fun cv I=>?_)|(refine nw ?_))
 refine aa.b0 C C C C C (fX _) I .nil ?_ ?_;rotate_left
 ·rintro _ _ ⟨rfl,h⟩ I
  obtain ⟨aC,rfl⟩:=fS h;rw [List.nil_append] at I ⊢;exact Fin.eM I aR .nil ⟨rfl,(by exact absurd aC dd)⟩
 rintro _ _ ⟨rfl,h⟩ I;obtain ⟨al,rfl⟩:=fR h;rw [List.nil_append] at I ⊢;clear al;refine cH ?_;refine aa.pZ I C C C C (fun mb I=>?_);refine cn I ?_;intro I;have gQ:(rC p j).length≤40:=by
  have:=Fv dy (j+1) [(j:Int)+3] [];unfold rC og;rw [List.length_mergeSort];simp only [List.length_nil] at this;omega
 have k8:=fun n=>vO (rC p j) n ai
 unfold bI at k8;generalize rC p j=uv at mo aH gQ k8 I ⊢;have KL:=(aN.each c (List.mem_of_getElem? ay)).2.2;refine af.cT [1,7,12,13,61,62,63,84,85] C I (σ:=Nat×jk) (fun q=>[(86,.int .i64 (q.1:Int))]) (fun q=>[(.own mb,.map (oE q.2))]) (fun q=>q.1≤c.inits.length∧pH q.2 ((c.inits.take q.1).map p6.slot)∧uu uv [] c.inits=uu uv ((c.inits.take q.1).map p6.slot) (c.inits.drop q.1)) (fun q=>c.inits.length-q.1) (0,[]) ⟨Nat.zero_le _,fun n=>rfl,rfl⟩ (c3 C) bM ?_;rintro ⟨k,eS⟩ ⟨aD,om,br⟩ I;simp only at aD om br I ⊢;refine cL ?_;refine af.cond C (fun c6=>?_) (fun e1=>?_);rotate_left
 ·have e1:k=c.inits.length:=by simp at e1;omega
  subst e1;rw [fC (Nat.le_refl _),uu] at br;rw [br,Bool.true_and] at aH;refine bP ?_;exact bX.mk (j+1) I ⟨aG,aH⟩ c7 bM Fi
 have c6:k<c.inits.length:=by simpa using c6
 obtain ⟨x,ab,ch⟩:=cD (f:=DI) c6;rw [drop_cons ab,uu] at br;unfold DI at ch;have KO:=k8 x.slot;have kg:=om.look x.slot;have pn:=KF x.n;cases qo:uv.contains x.slot with
 | false=>
  rw [qo] at KO;rw [qo,Bool.false_and] at br;rw [br,Bool.false_and] at aH;refine gP ?_;refine aa.b0 C C C C C (fX _) I .nil ?_ ?_;rotate_left
  ·rintro _ _ ⟨rfl,h⟩ I
   obtain ⟨aC,rfl⟩:=fS h;rw [List.nil_append] at I ⊢;exact Fin.eM I aR .nil ⟨rfl,(by rw [aH];rfl)⟩
  rintro _ _ ⟨rfl,h⟩ I;obtain ⟨al,rfl⟩:=fR h;rw [List.nil_append] at I ⊢;exact absurd al dd
 | true=>
 rw [qo] at KO;rw [qo,Bool.true_and] at br;cases uY:((c.inits.take k).map p6.slot).contains x.slot with
 | true=>
  rw [uY] at kg;rw [uY,Bool.not_true,Bool.false_and] at br;rw [br,Bool.false_and] at aH;refine gP ?_;refine aa.ij ak I C C C C C C C C C C a1 C kg C ?_;refine cC ?_;refine aa.b0 C C C C C (fX _) I .nil ?_ ?_;rotate_left
  ·rintro _ _ ⟨rfl,h⟩ I
   obtain ⟨aC,rfl⟩:=fS h;rw [List.nil_append] at I ⊢;exact Fin.eM I aR .nil ⟨rfl,(by rw [aH];rfl)⟩
  rintro _ _ ⟨rfl,h⟩ I;obtain ⟨al,rfl⟩:=fR h;rw [List.nil_append] at I ⊢;exact absurd al dd
 | false=>
 rw [uY] at kg;rw [uY,Bool.not_false,Bool.true_and] at br;simp only [Bool.false_eq_true,if_false] at kg;refine gP ?_;refine aa.ij ak I C C C C C C C C C C a1 C kg C ?_;refine cH ?_;refine aa.b0 C C C C C (fX _) I .nil ?_ ?_;rotate_left
 ·rintro _ _ ⟨rfl,h⟩ I
  obtain ⟨aC,rfl⟩:=fS h;rw [List.nil_append] at I ⊢;exact Fin.eM I aR .nil ⟨rfl,(by rw [aC,Bool.false_and] at br;rw [br,Bool.false_and] at aH;rw [aH];rfl)⟩
 rintro _ _ ⟨rfl,h⟩ I;obtain ⟨al,rfl⟩:=fR h;rw [List.nil_append] at I ⊢;rw [al,Bool.true_and] at br;refine gB ?_;refine aa.lF ak I C C (.inl C) C C C C C C a1 C (sY _ _ _) (fun I=>?_);refine h8 ?_;have hc:(c.inits.take (k+1)).map p6.slot=(c.inits.take k).map p6.slot++[x.slot]:=by rw [mi ab,List.map_append];rfl
 exact bX.mk (k+1,_) I ⟨c6,by show pH _ ((c.inits.take (k+1)).map p6.slot);rw [hc];exact om.put x.slot,by show _=uu uv ((c.inits.take (k+1)).map p6.slot) _;rw [hc];exact br⟩ c7 bM (by show c.inits.length-(k+1)<c.inits.length-k;omega)
end Go.Proofs.YtnafpeohfbglmaaGreat
namespace Go.Proofs.YtnafpeohfbglmaaGreat
open Go.bj Go.bY
def u3 (n:Int):ad := .iface 277 (.int .i64 n)
def u4 (op:Int):ad:=
 if op=5 then .iface 279 (.agg [])
 else if op=1∨op=2∨op=3∨op=6∨op=18 then u3 0
 else if op=4∨op=8∨op=17 then u3 1
 else if op=7∨op=9∨op=11∨op=12∨op=13∨op=14∨op=15∨op=16 then u3 2
 else if op=10 then u3 3
 else .mz
theorem TP (op:Int):a7 Tryz.prog 228 [.int .i64 op] (u4 op):=by
 have an:=bQ;refine a7.bp ak call228 Tryz.func228 C C fun s I=>?_
 by_cases az:1≤op∧op≤18
 ·have h:op=1∨op=2∨op=3∨op=4∨op=5∨op=6∨op=7∨op=8∨op=9∨op=10∨op=11∨op=12∨op=13∨op=14∨op=15∨op=16∨op=17∨op=18:=by omega
  clear az;rcases h with rfl|rfl|rfl|rfl|rfl|rfl|rfl|rfl|rfl|rfl|rfl|rfl|rfl|rfl|rfl|rfl|rfl|rfl
  all_goals
   refine bP ?_;exact bA I
 ·have aD:u4 op = .mz:=by
   unfold u4;rw [if_neg ai,if_neg ai,if_neg ai,if_neg ai,if_neg ai]
  rw [aD]
  repeat (first|(refine Dp ?_)|refine af.cond C (fun h=>absurd h dq) (fun _=>?_))
  exact bA I
theorem KP (n:Int) (p:b9) (x:p7):a7 Tryz.prog 335 [.int .i64 n,ee p,ka x] (.int .i64 n):=by
 have an:=bQ;refine a7.bp ak call335 Tryz.func335 C C fun s I=>?_
 unfold ee dC ka ob;refine nv ?_;exact bA I
theorem KQ (p:b9) (x:p7) (k:Nat) (g:Int) (ab:x.n=(k:Int)) (aD:p.eY[k]? = some g):a7 Tryz.prog 336 [.agg [],ee p,ka x] (.int .i64 g):=by
 have an:=bQ;refine a7.bp ak call336 Tryz.func336 C C fun s I=>?_
 have eL:(p.eY.map bg)[k]? = some (.int .i64 g):=by rw [List.getElem?_map,aD];rfl
 unfold ee dC ka ob bI;rw [ab];refine bP ?_;exact bA I
end Go.Proofs.YtnafpeohfbglmaaGreat
namespace Go.Proofs.YtnafpeohfbglmaaGreat
open Go.bj Go.bY
theorem TQ (p:b9) (aN:gS p) (x:p7) (size:Int):a7 Tryz.prog 227 [ee p,ka x,.int .i64 size] (.bool (qb p x size)):=by
 have an:=bQ;refine a7.bp ak call227 Tryz.func227 C C fun s I=>?_
 have cE:=aN.cls;have jc:=aN.eY;have U:=KF x.n;have dU:IntKind.wrap .i64 (3+((p.dH.map jf).length:Int))=3+(p.dH.length:Int):=by rw [List.length_map,e0 ai ai]
 unfold ee dC ka ob bI;by_cases az:x.op=1∨x.op=3∨x.op=4∨x.op=7∨x.op=6∨x.op=8∨x.op=5
 ·rcases az with h|h|h|h|h|h|h
  all_goals
   have hm:qb p x size=qb p x size:=rfl
   conv at hm=>rhs;unfold qb
   rw [h] at hm ⊢;simp only [Int.reduceEq,if_true,if_false,true_or,or_true,or_self,reduceIte] at hm;rw [hm]
   repeat' (first|(with_reducible first|apply af.seq|apply cf|apply hb|apply ga|apply ih|apply af.ret|apply af.skip|apply af.block)|refine dK C ?_|refine af.cK ?_|refine aa.nil ?_|refine af.gV C ?_|refine af.hR C ?_|refine cG C ?_|refine aa.skip C C C ?_|refine aa.eB C C C C C cq ?_|(fail_if_success refine aa.same true C ?_);(fail_if_success refine aa.same false C ?_);refine aa.iB C C (fun h=>?_) (fun h=>?_))
  all_goals (refine Fin.dT I C (a8.of_eq (congrArg ad.bool ?_));clear I U;(try simp only [List.length_map] at *)<;>grind)
 ·have hm:qb p x size=(decide (x.n≥0)&&decide (x.n<1)):=by
   unfold qb;rw [if_neg ai,if_neg ai,if_neg ai,if_neg ai,if_neg ai]
  rw [hm]
  repeat (first|(refine Dp ?_)|refine af.cond C (fun h=>absurd h (by first|(simp;done)|(simp;omega))) (fun _=>?_))
  repeat' (first|(with_reducible first|apply cf|apply af.ret)|refine aa.nil ?_|refine cG C ?_|refine aa.skip C C C ?_|(fail_if_success refine aa.same true C ?_);(fail_if_success refine aa.same false C ?_);refine aa.iB C C (fun h=>?_) (fun h=>?_))
  all_goals (refine Fin.dT I C (a8.of_eq (congrArg ad.bool ?_));clear I U;grind)
theorem TR (w:bT):∀ (n:Nat) (f:ax),f.size≤n→n<bt→hy w f=true→a7 Tryz.prog 230 [f.cj] (.int .i64 (mj f)):=by
 have an:=bQ;intro n
 induction n with
 | zero=>intro x h;have:=x.size_eq;omega
 | succ n a'=>
  intro f aC kp ao;refine a7.bp ak call230 Tryz.func230 C C fun s I=>?_
  have ml:=f.size_eq;have hlen:=ax.ui f.kids;rw [rA,Bool.and_eq_true] at ao;rw [ax.cO];rw [D1];have aV:f.du=true→IntKind.wrap .i64 (f.arg+1)=f.arg+1:=fun aI=>by
   have aC:=ao.1;simp only [iE,aI,if_true,Bool.and_eq_true,decide_eq_true_eq] at aC;exact e0 ai ai
  unfold ax.cells;cases aI:f.du with
  | true=>
   have TS:f.op=2∨f.op=3∨f.op=4:=by unfold ax.du at aI;simp at aI;omega
   rcases TS with h|h|h
   ·rw [h]
    refine bP ?_;refine af.cT [24,23] C I (σ:=Nat) (fun j=>[(25,.int .i64 (j:Int)),(3,.int .i64 (iq (if f.du then f.arg+1 else 0) (f.kids.take j)))]) (fun _=>[]) (fun j=>j≤f.kids.length) (fun j=>f.kids.length-j) 0 (Nat.zero_le _) (by repeat (first|exact trivial|refine ⟨⟨_,rfl,aR⟩,?_⟩|refine ⟨⟨_,rfl,a8.of_eq wc⟩,?_⟩)) bM ?_;rintro j aS I;refine cL ?_;refine af.cond C (fun aG=>?_) (fun bk=>?_);rotate_left
    ·have bk:j=f.kids.length:=by simp at bk;omega
     subst bk;rw [List.take_length];refine fJ ?_;exact Fin.dT I C (a8.of_eq (by rw [aI]))
    have aG:j<f.kids.length:=by simpa using aG
    obtain ⟨k,aD,eL⟩:=cD (f:=ax.cj) aG;have hm:=ax.jP (List.mem_of_getElem? aD);have aE:=a' k ai ai (lN ao.2 (List.mem_of_getElem? aD));rw [ax.cO] at eL aE;refine gP ?_;refine bX.mk (j+1) I aG (by repeat (first|exact trivial|refine ⟨⟨_,rfl,aR⟩,?_⟩|refine ⟨⟨_,rfl,a8.of_eq wb⟩,?_⟩)) bM ux
   ·rw [h]
    refine bP ?_;refine af.cT [24,23] C I (σ:=Nat) (fun j=>[(25,.int .i64 (j:Int)),(3,.int .i64 (iq (if f.du then f.arg+1 else 0) (f.kids.take j)))]) (fun _=>[]) (fun j=>j≤f.kids.length) (fun j=>f.kids.length-j) 0 (Nat.zero_le _) (by repeat (first|exact trivial|refine ⟨⟨_,rfl,aR⟩,?_⟩|refine ⟨⟨_,rfl,a8.of_eq wc⟩,?_⟩)) bM ?_;rintro j aS I;refine cL ?_;refine af.cond C (fun aG=>?_) (fun bk=>?_);rotate_left
    ·have bk:j=f.kids.length:=by simp at bk;omega
     subst bk;rw [List.take_length];refine fJ ?_;exact Fin.dT I C (a8.of_eq (by rw [aI]))
    have aG:j<f.kids.length:=by simpa using aG
    obtain ⟨k,aD,eL⟩:=cD (f:=ax.cj) aG;have hm:=ax.jP (List.mem_of_getElem? aD);have aE:=a' k ai ai (lN ao.2 (List.mem_of_getElem? aD));rw [ax.cO] at eL aE;refine gP ?_;refine bX.mk (j+1) I aG (by repeat (first|exact trivial|refine ⟨⟨_,rfl,aR⟩,?_⟩|refine ⟨⟨_,rfl,a8.of_eq wb⟩,?_⟩)) bM ux
   ·rw [h]
    refine bP ?_;refine af.cT [24,23] C I (σ:=Nat) (fun j=>[(25,.int .i64 (j:Int)),(3,.int .i64 (iq (if f.du then f.arg+1 else 0) (f.kids.take j)))]) (fun _=>[]) (fun j=>j≤f.kids.length) (fun j=>f.kids.length-j) 0 (Nat.zero_le _) (by repeat (first|exact trivial|refine ⟨⟨_,rfl,aR⟩,?_⟩|refine ⟨⟨_,rfl,a8.of_eq wc⟩,?_⟩)) bM ?_;rintro j aS I;refine cL ?_;refine af.cond C (fun aG=>?_) (fun bk=>?_);rotate_left
    ·have bk:j=f.kids.length:=by simp at bk;omega
     subst bk;rw [List.take_length];refine fJ ?_;exact Fin.dT I C (a8.of_eq (by rw [aI]))
    have aG:j<f.kids.length:=by simpa using aG
    obtain ⟨k,aD,eL⟩:=cD (f:=ax.cj) aG;have hm:=ax.jP (List.mem_of_getElem? aD);have aE:=a' k ai ai (lN ao.2 (List.mem_of_getElem? aD));rw [ax.cO] at eL aE;refine gP ?_;refine bX.mk (j+1) I aG (by repeat (first|exact trivial|refine ⟨⟨_,rfl,aR⟩,?_⟩|refine ⟨⟨_,rfl,a8.of_eq wb⟩,?_⟩)) bM ux
  | false=>
   have ae:(f.op==2)=false:=by unfold ax.du at aI;simp at aI ⊢;omega
   have al:(f.op==3)=false:=by unfold ax.du at aI;simp at aI ⊢;omega
   have bl:(f.op==4)=false:=by unfold ax.du at aI;simp at aI ⊢;omega
   refine dF ?_;refine aa.dR 9 C ae ?_;refine d' ?_;refine aa.dR 14 C al ?_;refine hv ?_;refine af.cond C (fun h=>by rw [bl] at h;cases h) (fun _=>?_);refine lH ?_;refine af.cT [24,23] C I (σ:=Nat) (fun j=>[(25,.int .i64 (j:Int)),(3,.int .i64 (iq (if f.du then f.arg+1 else 0) (f.kids.take j)))]) (fun _=>[]) (fun j=>j≤f.kids.length) (fun j=>f.kids.length-j) 0 (Nat.zero_le _) (by repeat (first|exact trivial|refine ⟨⟨_,rfl,aR⟩,?_⟩|refine ⟨⟨_,rfl,a8.of_eq wc⟩,?_⟩)) bM ?_;rintro j aS I;refine cL ?_;refine af.cond C (fun aG=>?_) (fun bk=>?_);rotate_left
   ·have bk:j=f.kids.length:=by simp at bk;omega
    subst bk;rw [List.take_length];refine fJ ?_;exact Fin.dT I C (a8.of_eq (by rw [aI]))
   have aG:j<f.kids.length:=by simpa using aG
   obtain ⟨k,aD,eL⟩:=cD (f:=ax.cj) aG;have hm:=ax.jP (List.mem_of_getElem? aD);have aE:=a' k ai ai (lN ao.2 (List.mem_of_getElem? aD));rw [ax.cO] at eL aE;refine gP ?_;refine bX.mk (j+1) I aG (by repeat (first|exact trivial|refine ⟨⟨_,rfl,aR⟩,?_⟩|refine ⟨⟨_,rfl,a8.of_eq wb⟩,?_⟩)) bM ux
end Go.Proofs.YtnafpeohfbglmaaGreat
namespace Go.Proofs.YtnafpeohfbglmaaGreat
open Go.bj Go.bY
theorem TT (w:World):(Instr.typeAssert .nilIface 20 291 true).run Tryz.prog w = .ok (.tuple #[.agg #[],.bool false]) w:=by kernel_rfl
theorem TU (w:World):(Instr.typeAssert (.iface 291 (.agg #[])) 20 291 true).run Tryz.prog w = .ok (.tuple #[.agg #[],.bool true]) w:=by kernel_rfl
theorem TV (b:Nat) (w:World) :
  CallsD Tryz.prog 247 #[.pointer (some ⟨b,0,none⟩)] .returning w fun e iK w'=>e = .returned (.tuple #[])∧iK = .returning∧w'=w.alloc (.cells #[] 291):=by
 refine callsD_of_wpS Tryz.func247 C fun u5 cs hu=>?_
 apply wpS_seq;apply wpS_region;simp [wpOpsS,go_sem,recoverD,hu,Tryz.ntmps247, Exit.thenS,TT];refine wpS_of_wp ?_;go_wp2;cases u5;simp_all [bodyPostS,results,Tryz.results247, Exit.thenS]
theorem TW (b:Nat) (w:World) (rest:List PanicEntry) (x:Value) (an:w.heap[b]? = some (.cells #[x] 4 (0,0))) :
  CallsD Tryz.prog 247 #[.pointer (some ⟨b,0,none⟩)] (.panicking ({ v := .iface 291 (.agg #[]),recovered:=false }::rest)) w
   fun o iK w'=>o = .returned (.tuple #[])∧iK = .panicking ({ v := .iface 291 (.agg #[]),recovered:=true }::rest)∧w'=(w.alloc (.cells #[] 291)).setRow b #[.bool false]:=by
 refine callsD_of_wpS Tryz.func247 C fun u5 cs hu=>?_
 apply wpS_seq;apply wpS_region;simp [wpOpsS,go_sem,recoverD,hu,Tryz.ntmps247, Exit.thenS,TU];have dz:=(kU w (.cells #[] 291) b (Array.getElem?_eq_some_iff.1 an).1).trans an;have cJ:(w.alloc (.cells #[] 291)).cell? ⟨b,0,none⟩=some x:=by rw [iz dz];rfl
 have n0:(w.alloc (.cells #[] 291)).frozen? ⟨b,0,none⟩=false:=by simp [World.frozen?,dz]
 have mq:=H5 (x := .bool false) dz;generalize w.alloc (.cells #[] 291)=dU at cJ n0 mq ⊢;refine wpS_of_wp ?_;go_wp2;cases u5;simp_all [bodyPostS,results,Tryz.results247, Exit.thenS]
theorem BP {w:World} {p:bN} {v:Value} {b o:Nat} (h:Rel w p v (.ptr b o)):v = .pointer (some ⟨b,o,none⟩):=by cases h;rfl
theorem TX {w:World} {p:bN} {x:Value} (h:Rel w p x EC):x = .iface 291 (.agg #[]):=by
 cases h with
 | iface _ y _ h=>
 cases h with
 | agg cs xs h=>
 generalize gJ:cs.toList=l at h;cases h;have:cs = #[]:=by rw [← Array.toArray_toList (xs:=cs),gJ]
 rw [this]
def TY (n9:aj) (n:Nat) (r:Bool):b2→Env→aj→Prop
 | .ret,env,ah=>env.get? 4=some (.ptr n 0)∧r=true∧∃ M,ah=aQ n9 M∧Ok n9 M∧∃ R,aP M (.own n) (.box 4 [.bool true]) R
 | .panic x,env,ah=>env.get? 4=some (.ptr n 0)∧r=false∧x=EC∧∃ M,ah=aQ n9 M∧Ok n9 M∧∃ y R,aP M (.own n) (.box 4 [y]) R
 | _,_,_=>False
theorem TZ (kA:bT) (hw:kc kA) (l:List ez) (aI:3*l.length+3<bt) (ab:∀ x∈l,rG kA x):a7 Tryz.prog 211 [fx kA,oo l] (.bool (ou kA (iT l))):=by
 intro s;refine ⟨call211, fun w p vs b6 en=>?_⟩;cases en with
 | cons v0 _ vs _ bB aK=>
 cases aK with
 | cons v1 _ vs _ U aK=>
 cases aK;unfold qJ;refine HH (T:=[{ target := .fn (.func 247) #[.pointer (some ⟨w.heap.size,0,none⟩)],args := #[] }]) Tryz.func211 C ?_;go_wp2;intro b sg et;obtain ⟨aC,hle,aD,BQ⟩:=pP b6 (.cells #[Value.bool false] 4) (.box 4 [.bool false]) (fun w' U ae al=>⟨#[.bool false],U,al _ _ (.cons _ _ _ _ (.bool _) .nil),fun o aN=>absurd (b6.lt _ _ aN) ai⟩);refine kR (af.use (N:=10) (env:=[(0,fx kA),(1,oo l),(4,.ptr w.heap.size 0)]) (s:=aQ s [(.own w.heap.size,.box 4 [.bool false])]) (Q:=TY s w.heap.size (ou kA (iT l))) (B:=(w.heap.size+1,[{ target := .fn (.func 247) #[.pointer (some ⟨w.heap.size,0,none⟩)],args := #[] }])) (p:=p) ?_ (by rw [et];rfl) ⟨by simp,fun t v av=>?_,BQ,⟨[],by simp [marksOf],by simp,by simp⟩,fun l aI=>(by rw [sg] at aI;cases aI),by simp⟩) ?_
 ·have I:Ok s [(.own w.heap.size,.box 4 [.bool false])]:=⟨aC,trivial⟩
  generalize w.heap.size=n at I ⊢;have aF:=RF kA hw.mP l aI ab;have KR:=P' (w:=kA) (l:=l) (fun x h=>⟨(ab x h).node,(ab x h).leaf⟩);refine k3 ?_;refine aa.b0 rfl rfl rfl rfl rfl aF I .nil ?_ (fun _ _ ⟨_,h,_⟩ _=>by cases h);rintro _ _ ⟨mb,⟨⟩,es,rfl,cW⟩ I;have cX:sK (3*l.length) (iT l):=⟨fun arg path h=>(KR (b1 arg path)).1 (by show 2≤(path.length:Int);omega),cW.lg⟩;have gR:Ba kA (iT l):=⟨fun q=>(KR q).2⟩;have wv:=R5 kA hw mb (3*l.length) ai (iT l) cX gR (E:=[]) (lh (iT l) mb es) ⟨es,rfl,cW⟩;skip;refine aa.b0 C C C C C wv I (au.ik (au.all _)) ?_ ?_
  ·rintro _ aL ⟨ag,c5,rfl,h9⟩ I
   cases hm:ou kA (iT l) with
   | false=>rw [hm] at ag;cases ag
   | true=>
    have aw:=aP.app (lh (iT l) mb c5) (aP.here (L:=[]) (k := .own n) (o := .box 4 [.bool false]));rw [List.nil_append] at I;refine aa.k2 I [(.own n,.box 4 [.bool false])] (.cons aw .nil) (fun I=>?_);refine cn I ?_;intro I;exact ⟨rfl,rfl,_,rfl,I,_,.here⟩
  ·rintro x aL ⟨ag,c5,rfl,h9⟩ I
   cases hm:ou kA (iT l) with
   | true=>rw [hm] at ag;cases ag
   | false=>
    rw [hm] at ag;cases ag;exact ⟨rfl,rfl,rfl,_,rfl,I,_,_,aP.app _ .here⟩
 ·simp only [Env.get?] at av
  split at av
  ·rename_i e;cases av;obtain rfl:=Nat.eq_of_beq_eq_true e
   exact bB.mono hle
  split at av
  ·rename_i e;cases av;obtain rfl:=Nat.eq_of_beq_eq_true e
   exact U.mono hle
  split at av
  ·rename_i e;cases av;obtain rfl:=Nat.eq_of_beq_eq_true e
   simp [Array.getD_eq_getD_getElem?];exact .ptr _ 0
  ·cases av
 ·rintro e cR w' ⟨x,er,ah,bb,ch,bs,gK,xB,eL⟩
  obtain ⟨b5,q8,eT,dZ⟩:=gK.defs;obtain ⟨b8,bZ,eF,mC⟩:=CW b5 w' gK.wf (fun d ar=>⟨_,(dZ d ar).2.1⟩);have eG:cV w p (gp w' b5) bb:=(hle.trans xB).trans b8;have sh:=aD.trans hle.size eL;have br:Kept s s w p (gp w' b5) bb:=⟨fun aT dz gZ=>(eF aT (fun hm=>by have:=(dZ aT hm).1;simp only at this;omega)).trans (sh.heap aT dz gZ),fun _ _ h=>h,sh.j1⟩;have eJ:=r3 bZ.lt (.cells #[] 291) True;have a2:=zH (s:=s) (w:=gp w' b5) (p:=bb) (.cells #[] 291) True;cases ch with
  | exit id=>exact bs.elim
  | normal=>exact bs.elim
  | ret=>
   obtain ⟨bl,az,M,rfl,hT,R,m8⟩:=bs;have u6:=bZ.sub hT.sub;obtain ⟨cc,lb,j0,y6⟩:=bZ.obj _ _ (m8.get hT);have Fy:cc = #[.bool true]:=by
    generalize aI:cc.toList=Aa at j0;cases j0 with
    | cons v _ vs _ av aK=>
    cases aK;cases av;rw [← Array.toArray_toList (xs:=cc),aI]
   subst Fy;have aG:w.heap.size<(gp w' b5).heap.size:=(Array.getElem?_eq_some_iff.1 lb).1;have y7:=(kU (gp w' b5) (.cells #[] 291) w.heap.size aG).trans lb;have iy:((gp w' b5).alloc (.cells #[] 291)).cell? ⟨w.heap.size,0,none⟩=some (.bool true):=by rw [iz y7];rfl
   refine ⟨b5,q8,eT,fun d ar=>(dZ d ar).2.1,?_⟩;refine leaves_cons (f := 247) (args := #[.pointer (some ⟨w.heap.size,0,none⟩)]) bn (by simp [go_sem]) ?_;refine (TV w.heap.size _).mono ?_;rintro e iK kS ⟨rfl,rfl,rfl⟩;have u7:cR.tmps[4]?.getD undef = .pointer (some ⟨w.heap.size,0,none⟩):=by
    have:=gK.env 4 _ bl;rw [Array.getD_eq_getD_getElem?] at this;exact BP this
   refine ⟨.bool true,by simp [results,Tryz.results211, go_sem,iy,u7],by simp,.ret (.bool true),s,_,.bool _,⟨by rw [az],rfl⟩,eG.trans eJ,br.trans eG.size a2,xe u6 _ True⟩
  | panic v x da iX av=>
   obtain ⟨bl,az,rfl,M,rfl,hT,y,R,m8⟩:=bs;obtain ⟨rest,rfl,Fz⟩:=iX;obtain rfl:=TX av;have u6:=bZ.sub hT.sub;obtain ⟨cc,lb,j0,y6⟩:=bZ.obj _ _ (m8.get hT);obtain ⟨bv,rfl⟩:∃ bv,cc = #[bv]:=by
    generalize aI:cc.toList=Aa at j0;cases j0 with
    | cons v _ vs _ av aK=>
    cases aK;exact ⟨v,by rw [← Array.toArray_toList (xs:=cc),aI]⟩
   have aG:w.heap.size<(gp w' b5).heap.size:=(Array.getElem?_eq_some_iff.1 lb).1;have y7:=(kU (gp w' b5) (.cells #[] 291) w.heap.size aG).trans lb;have u7:cR.tmps[4]?.getD undef = .pointer (some ⟨w.heap.size,0,none⟩):=by
    have:=gK.env 4 _ bl;rw [Array.getD_eq_getD_getElem?] at this;exact BP this
   obtain ⟨dD,c1,dn,lq,q5⟩:=H4 (eG.trans eJ) (br.trans eG.size a2) (xe u6 _ True) y7 (Nat.le_refl _) (fun o aN=>by
    rcases aN with aN|⟨e,-⟩
    ·exact y6 o aN
    ·omega) aC (.bool false)
   have iy:(((gp w' b5).alloc (.cells #[] 291)).setRow w.heap.size #[.bool false]).cell? ⟨w.heap.size,0,none⟩=some (.bool false):=by rw [iz q5];rfl
   refine ⟨b5,q8,eT,fun d ar=>(dZ d ar).2.1,?_⟩;refine leaves_cons (f := 247) (args := #[.pointer (some ⟨w.heap.size,0,none⟩)]) bn (by simp [go_sem]) ?_;refine (TW w.heap.size _ rest bv lb).mono ?_;rintro e iK kS ⟨rfl,rfl,rfl⟩;have FA:=DK Fz;simp only [settle,FA];refine ⟨.bool false,by simp [results,Tryz.results211, go_sem,iy,u7],by simp,.ret (.bool false),s,_,.bool _,⟨by rw [az],rfl⟩,dD,c1,dn⟩
end Go.Proofs.YtnafpeohfbglmaaGreat
namespace Go.Proofs.YtnafpeohfbglmaaGreat
open Go.bj Go.bY
theorem T0 {w:World} {p:bN} {x:Value} (h:Rel w p x rR):x = .iface 298 (.agg #[]):=by
 cases h with
 | iface _ y _ h=>
 cases h with
 | agg cs xs h=>
 generalize gJ:cs.toList=l at h;cases h;have:cs = #[]:=by rw [← Array.toArray_toList (xs:=cs),gJ]
 rw [this]
theorem T1 (w:World):(Instr.typeAssert (.iface 298 (.agg #[])) 20 298 true).run Tryz.prog w = .ok (.tuple #[.agg #[],.bool true]) w:=by kernel_rfl
theorem T2 (w:World):(binOp BinOp.neq 20 (.iface 298 (.agg #[])) .nilIface).run Tryz.prog w = .ok (.bool true) w:=by kernel_rfl
theorem T3 (x y:Operand) (w:World):(eqGuard BinOp.neq 20 x y (.iface 298 (.agg #[])) .nilIface).run Tryz.prog w = .ok () w:=by
 unfold eqGuard;simp
theorem T4 (b:Nat) (w:World) :
  CallsD Tryz.prog 253 #[.pointer (some ⟨b,0,none⟩)] .returning w fun e iK w'=>e = .returned (.tuple #[])∧iK = .returning∧w'=w:=by
 refine callsD_of_wpS Tryz.func253 C fun u5 cs hu=>?_
 apply wpS_seq;apply wpS_region;simp [wpOpsS,go_sem,recoverD,hu,Tryz.ntmps253, Exit.thenS];refine wpS_of_wp ?_;go_wp2;cases u5;simp_all [bodyPostS,results,Tryz.results253, Exit.thenS]
theorem T5 (b:Nat) (w:World) (rest:List PanicEntry) (x:Value) (an:w.heap[b]? = some (.cells #[x] 4 (0,0))) :
  CallsD Tryz.prog 253 #[.pointer (some ⟨b,0,none⟩)] (.panicking ({ v := .iface 298 (.agg #[]),recovered:=false }::rest)) w
   fun o iK w'=>o = .returned (.tuple #[])∧iK = .panicking ({ v := .iface 298 (.agg #[]),recovered:=true }::rest)∧w'=(w.alloc (.cells #[] 298)).setRow b #[.bool false]:=by
 refine callsD_of_wpS Tryz.func253 C fun u5 cs hu=>?_
 apply wpS_seq;apply wpS_region;simp [wpOpsS,go_sem,recoverD,hu,Tryz.ntmps253, Exit.thenS];apply wpS_seq;apply wpS_region;simp [wpOpsS,go_sem,Exit.thenS,T3,T2];refine wpS_cond (t:=true) (by simp [Act.eval,Act.put]) ?_;simp only [if_true]
 repeat apply wpS_seq
 apply wpS_region;simp [wpOpsS,go_sem,Exit.thenS,T1];have dz:=(kU w (.cells #[] 298) b (Array.getElem?_eq_some_iff.1 an).1).trans an;have cJ:(w.alloc (.cells #[] 298)).cell? ⟨b,0,none⟩=some x:=by rw [iz dz];rfl
 have n0:(w.alloc (.cells #[] 298)).frozen? ⟨b,0,none⟩=false:=by simp [World.frozen?,dz]
 have mq:=H5 (x := .bool false) dz;generalize w.alloc (.cells #[] 298)=dU at cJ n0 mq ⊢
 repeat apply wpS_seq
 apply wpS_region;simp [wpOpsS,go_sem,Exit.thenS];refine wpS_of_wp ?_;go_wp2;cases u5;simp_all [bodyPostS,results,Tryz.results253, Exit.thenS];refine wpS_of_wp ?_;go_wp2;simp_all [bodyPostS,results,Tryz.results253, Exit.thenS]
def T6 (n9:aj) (n:Nat) (G B:a6→Prop):b2→Env→aj→Prop
 | .ret,env,ah=>env.get? 2=some (.ptr n 0)∧∃ M,ah=aQ n9 M∧Ok n9 M∧∃ K,G K∧aP M (.own n) (.box 4 [.bool true]) K
 | .panic x,env,ah=>env.get? 2=some (.ptr n 0)∧x=rR∧∃ M,ah=aQ n9 M∧Ok n9 M∧∃ y K,B K∧aP M (.own n) (.box 4 [y]) K
 | _,_,_=>False
theorem T7 (f:FuncId) (first cap:List ad) (lK:a6) (G B:a6→Prop) (h:c2 Tryz.prog (.func f first cap) [] lK (fun o K=>(o = .ret (.cl [])∧G K)∨(o = .panic rR∧B K))) :
  bu Tryz.prog 220 [.func f first cap] lK (fun o K=>(o = .ret (.bool true)∧G K)∨(o = .ret (.bool false)∧B K)):=by
 intro s T8;refine ⟨call220, fun w p vs b6 en=>?_⟩;cases en with
 | cons v0 _ vs _ bB aK=>
 cases aK;unfold qJ;refine HH (T:=[{ target := .fn (.func 253) #[.pointer (some ⟨w.heap.size,0,none⟩)],args := #[] }]) Tryz.func220 C ?_;go_wp2;intro b sg et;obtain ⟨aC,hle,aD,BQ⟩:=pP b6 (.cells #[Value.bool false] 4) (.box 4 [.bool false]) (fun w' U ae al=>⟨#[.bool false],U,al _ _ (.cons _ _ _ _ (.bool _) .nil),fun o aN=>absurd (b6.lt _ _ aN) ai⟩);have I:Ok s ((.own w.heap.size,.box 4 [.bool false])::lK):=⟨aC,T8⟩;refine kR (af.use (N:=6) (env:=[(0,.func f first cap),(2,.ptr w.heap.size 0)]) (s:=aQ s ((.own w.heap.size,.box 4 [.bool false])::lK)) (Q:=T6 s w.heap.size G B) (B:=(w.heap.size+1,[{ target := .fn (.func 253) #[.pointer (some ⟨w.heap.size,0,none⟩)],args := #[] }])) (p:=p) ?_ (by rw [et];rfl) ⟨by simp,fun t v av=>?_,BQ,⟨[],by simp [marksOf],by simp,by simp⟩,fun l aI=>(by rw [sg] at aI;cases aI),by simp⟩) ?_
 ·clear aD BQ aC
  generalize w.heap.size=n at I ⊢;refine k3 ?_;refine aa.fO C C C C C C h I (au.there (e:=(.own n,.box 4 [.bool false])) (au.all lK)) ?_ ?_
  ·rintro _ aL (⟨⟨⟩,df⟩|⟨h,_⟩) I
   ·have aw:=aP.app aL (aP.here (L:=[]) (k := .own n) (o := .box 4 [.bool false]))
    rw [List.append_nil] at aw;refine cn I ?_;intro I;exact ⟨rfl,_,rfl,I,aL,df,.here⟩
   ·cases h
  ·rintro x aL (⟨h,_⟩|⟨⟨⟩,cW⟩) I
   ·cases h
   exact ⟨rfl,rfl,_,rfl,I,_,aL,cW,by have:=aP.app aL (aP.here (L:=[]) (k := .own n) (o := .box 4 [.bool false]));rw [List.append_nil] at this;exact this⟩
 ·simp only [Env.get?] at av
  split at av
  ·rename_i e;cases av;obtain rfl:=Nat.eq_of_beq_eq_true e
   exact bB.mono hle
  split at av
  ·rename_i e;cases av;obtain rfl:=Nat.eq_of_beq_eq_true e
   simp [Array.getD_eq_getD_getElem?];exact .ptr _ 0
  ·cases av
 ·rintro e cR w' ⟨x,er,ah,bb,ch,bs,gK,xB,eL⟩
  obtain ⟨b5,q8,eT,dZ⟩:=gK.defs;obtain ⟨b8,bZ,eF,mC⟩:=CW b5 w' gK.wf (fun d ar=>⟨_,(dZ d ar).2.1⟩);have eG:cV w p (gp w' b5) bb:=(hle.trans xB).trans b8;have sh:=aD.trans hle.size eL;have br:∀ aL,aj.Sub (aQ s aL) ah→Kept (aQ s lK) (aQ s aL) w p (gp w' b5) bb:=fun aL gH=>⟨fun aT dz gZ=>(eF aT (fun hm=>by have:=(dZ aT hm).1;simp only at this;omega)).trans (sh.heap aT dz gZ),fun b an h=>gH.none (sh.jG b an h),sh.j1⟩
  cases ch with
  | exit id=>exact bs.elim
  | normal=>exact bs.elim
  | ret=>
   obtain ⟨bl,M,rfl,hT,aL,df,m8⟩:=bs;obtain ⟨lQ,gv⟩:=m8.perm hT;have gH:aj.Sub (aQ s aL) (aQ s M):=by rw [lQ];exact vI (k := .own w.heap.size) Hs gv.1
   have u6:=bZ.sub gH;obtain ⟨cc,lb,j0,y6⟩:=bZ.obj _ _ (m8.get hT);have Fy:cc = #[.bool true]:=by
    generalize aI:cc.toList=Aa at j0;cases j0 with
    | cons v _ vs _ av aK=>
    cases aK;cases av;rw [← Array.toArray_toList (xs:=cc),aI]
   subst Fy;have iy:(gp w' b5).cell? ⟨w.heap.size,0,none⟩=some (.bool true):=by rw [iz lb];rfl
   refine ⟨b5,q8,eT,fun d ar=>(dZ d ar).2.1,?_⟩;refine leaves_cons (f := 253) (args := #[.pointer (some ⟨w.heap.size,0,none⟩)]) bn (by simp [go_sem]) ?_;refine (T4 w.heap.size _).mono ?_;rintro e iK kS ⟨rfl,rfl,rfl⟩;have u7:cR.tmps[2]?.getD undef = .pointer (some ⟨w.heap.size,0,none⟩):=by
    have:=gK.env 2 _ bl;rw [Array.getD_eq_getD_getElem?] at this;exact BP this
   exact ⟨.bool true,by simp [results,Tryz.results220, go_sem,iy,u7],by simp,.ret (.bool true),aQ s aL,_,.bool _,⟨aL,rfl,gv.2,.inl ⟨rfl,df⟩⟩,eG,br aL gH,u6⟩
  | panic v x da iX av=>
   obtain ⟨bl,rfl,M,rfl,hT,y,aL,cW,m8⟩:=bs;obtain ⟨rest,rfl,Fz⟩:=iX;obtain rfl:=T0 av;obtain ⟨lQ,gv⟩:=m8.perm hT;have gH:aj.Sub (aQ s aL) (aQ s M):=by rw [lQ];exact vI (k := .own w.heap.size) Hs gv.1
   have u6:=bZ.sub gH;have eJ:=r3 bZ.lt (.cells #[] 298) True;have a2:=zH (s:=aQ s aL) (w:=gp w' b5) (p:=bb) (.cells #[] 298) True;obtain ⟨cc,lb,j0,y6⟩:=bZ.obj _ _ (m8.get hT);obtain ⟨bv,rfl⟩:∃ bv,cc = #[bv]:=by
    generalize aI:cc.toList=Aa at j0;cases j0 with
    | cons v _ vs _ av aK=>
    cases aK;exact ⟨v,by rw [← Array.toArray_toList (xs:=cc),aI]⟩
   have aG:w.heap.size<(gp w' b5).heap.size:=(Array.getElem?_eq_some_iff.1 lb).1;have y7:=(kU (gp w' b5) (.cells #[] 298) w.heap.size aG).trans lb;have u7:cR.tmps[2]?.getD undef = .pointer (some ⟨w.heap.size,0,none⟩):=by
    have:=gK.env 2 _ bl;rw [Array.getD_eq_getD_getElem?] at this;exact BP this
   obtain ⟨dD,c1,dn,lq,q5⟩:=H4 (eG.trans eJ) ((br aL gH).trans eG.size a2) (xe u6 _ True) y7 (Nat.le_refl _) (fun o aN=>by
    rcases aN with aN|⟨e,-⟩
    ·exact y6 o aN
    ·omega) gv.1 (.bool false)
   have iy:(((gp w' b5).alloc (.cells #[] 298)).setRow w.heap.size #[.bool false]).cell? ⟨w.heap.size,0,none⟩=some (.bool false):=by rw [iz q5];rfl
   refine ⟨b5,q8,eT,fun d ar=>(dZ d ar).2.1,?_⟩;refine leaves_cons (f := 253) (args := #[.pointer (some ⟨w.heap.size,0,none⟩)]) bn (by simp [go_sem]) ?_;refine (T5 w.heap.size _ rest bv lb).mono ?_;rintro e iK kS ⟨rfl,rfl,rfl⟩;have FA:=DK Fz;simp only [settle,FA];exact ⟨.bool false,by simp [results,Tryz.results220, go_sem,iy,u7],by simp,.ret (.bool false),aQ s aL,_,.bool _,⟨aL,rfl,gv.2,.inr ⟨rfl,cW⟩⟩,dD,c1,dn⟩
end Go.Proofs.YtnafpeohfbglmaaGreat
namespace Go.Proofs.YtnafpeohfbglmaaGreat
open Go.bj Go.bY
theorem KS {n:Int} (h:0≤n) (ae:n<18446744073709551616):IntKind.wrap .u64 n=n:=by
 rw [IntKind.wrap_u64];omega
theorem T9 {n:Nat} (aC:n<4294967296):bitsOf .and .u64 (n:Int) 4294967295=some (n:Int):=by
 have h:=sn (m:=n) (n:=4294967295) ai dd;have e:n &&& 4294967295=n:=by
  rw [show 4294967295=2^32-1 from rfl,Nat.and_two_pow_sub_one_eq_mod,Nat.mod_eq_of_lt aC]
 rw [e] at h;exact h
theorem KT {n:Nat} (aC:n<4294967296):Int.fdiv (n:Int) (2^(min (32:Int).toNat (IntKind.bits .u64)))=0:=by
 have:=so (m:=n) (c:=32) ai;rw [Nat.shiftRight_eq_div_pow,Nat.div_eq_of_lt ai] at this;exact this
theorem T' (n:Nat) (aC:n<4294967296):a7 Tryz.prog 278 [.int .u64 1,.int .u64 (n:Int)] (.cl [.int .u64 0,.int .u64 (n:Int)]):=by
 have an:=bQ;refine a7.bp ak call278 Tryz.func278 C C fun s I=>?_
 have dU:IntKind.wrap .u64 (1*(n:Int))=(n:Int):=by rw [Int.one_mul];exact KS ai ai
 have kA:IntKind.wrap .u64 (0*(n:Int))=0:=by rw [Int.zero_mul];rfl
 refine dF ?_;refine aa.bits 1 C C C C C C dd ?_;refine gB ?_;refine aa.shr 0 C C C C C C ai dd ?_;refine gB ?_;refine aa.bits (n:Int) C C C C C C (T9 aC) ?_;refine gB ?_;refine aa.shr 0 C C C C C C ai (KT aC) ?_;refine bP ?_;refine aa.shr 0 C C C C C C ai (by rw [dU];exact KT aC) ?_;refine gB ?_;refine aa.bits 0 C C C C C C (by rw [kA];decide) ?_;refine gB ?_;refine aa.shr 0 C C C C C C ai (by rw [kA];decide) ?_;refine bP ?_;refine aa.shr 0 C C C C C C ai dd ?_;refine cC ?_;exact Fin.dT I C (a8.of_eq (by rw [dU];rfl))
theorem Ua (n:Nat) (aC:n<4294967296):a7 Tryz.prog 258 [.int .u64 1,.int .u64 (n:Int)] (.cl [.int .u64 0,.int .u64 (n:Int)]):=by
 have an:=bQ;refine a7.bp ak call258 Tryz.func258 C C fun s I=>?_
 have U:=T' n aC;refine cy ?_;exact bA I
theorem Ub (z:Int) (n m k:Nat) (h:m+k≤n) (aD:k≤m):((List.replicate m z++List.replicate (n-m) 0).map bg).take m++(((List.replicate m z++List.replicate (n-m) 0).map bg).drop 0).take k++((List.replicate m z++List.replicate (n-m) 0).map bg).drop (m+k)=(List.replicate (m+k) z++List.replicate (n-(m+k)) 0).map bg:=by
 rw [List.drop_zero,← List.map_take,← List.map_take,← List.map_drop,← List.map_append,← List.map_append];congr 1;rw [List.take_left' bn,List.take_append_of_le_length dq,List.take_replicate,Nat.min_eq_left aD,List.replicate_append_replicate];congr 1;rw [List.drop_append,List.drop_eq_nil_of_le bn,List.nil_append,List.length_replicate,List.drop_replicate];congr 1;omega
theorem Uc (z:Int) (n:Nat) (U:1≤n) (aC:n≤1000):bu Tryz.prog 224 [.aA 1 [.int .i64 z] .clip,.int .i64 (n:Int)] ([]) (fun o K=>∃ b,o = .ret (dG b n n)∧K=[(.own b,.box 3 ((List.replicate n z).map bg))]):=by
 have an:=bQ;refine bu.bp ak call224 Tryz.func224 C C fun s I=>?_
 have hm:=Ua n ai;have dU:IntKind.wrap .u64 (n:Int)=(n:Int):=KS ai ai;have jd:IntKind.wrap .i64 (n:Int)=(n:Int):=e0 ai ai;have hm:a7 Tryz.prog 258 [.int .u64 (IntKind.wrap .u64 1),.int .u64 (IntKind.wrap .u64 (n:Int))] (.cl [.int .u64 0,.int .u64 (n:Int)]):=by rw [dU];exact hm
 refine cH ?_;refine af.cond C (fun h=>by simp at h;omega) (fun _=>?_);refine cH ?_;refine aa.su ak I n C C C C C C C C C C (congrArg (fun z=>some (ad.int .i64 z)) jd) (congrArg (fun z=>some (ad.int .i64 z)) jd) (by show _*8≤_;omega) ai (fun b I=>?_);refine gB ?_;have bB:List.replicate n (ad.int .i64 0)=(List.replicate n (0:Int)).map bg:=by rw [List.map_replicate];rfl
 refine aa.DW ak I C C C C C C C C C a1 C C C dq dq (fun I=>?_);have x8:(List.replicate n (ad.int .i64 0)).take 0++[ad.int .i64 z]++(List.replicate n (ad.int .i64 0)).drop (0+[ad.int .i64 z].length)=(List.replicate 1 z++List.replicate (n-1) 0).map bg:=by
  rw [List.take_zero,List.drop_replicate];simp [bg]
 rw [x8] at I ⊢;refine fA ?_;refine af.cT [7] C I (σ:=Nat) (fun m=>[(8,.int .i64 (m:Int))]) (fun m=>[(.own b,.box 3 ((List.replicate m z++List.replicate (n-m) 0).map bg))]) (fun m=>1≤m∧m≤n) (fun m=>n-m) 1 ⟨Nat.le_refl _,U⟩ (c3 C) bM ?_;rintro m ⟨mF,KM⟩ I;refine k3 ?_;refine aa.sm ak C C C C C C C ?_;refine hv ?_;refine af.cond C (fun aG=>?_) (fun bk=>?_);rotate_left
 ·have bk:m=n:=by simp at bk;omega
  subst bk;have oL:(List.replicate m z++List.replicate (m-m) 0).map bg=(List.replicate m z).map bg:=by simp
  rw [oL] at I ⊢;refine cH ?_;exact Fin.bH I C aR bM ⟨b,rfl,rfl⟩
 have aG:m<n:=by simp at aG;omega
 have gQ:((List.replicate m z++List.replicate (n-m) 0).map bg).length=n:=by simp;omega
 refine fA ?_;refine af.o3 (fun _=>True) ak mixed C (bm.run trivial C ?_);refine bm.DX 3 ak trivial m C C C C C C C C C C C C ai ai ai ?_;refine bm.x1 6 ak trivial m C C C C C C C C C C C ai ?_;refine bm.run trivial C ?_;refine bm.yc 7 ak I (min m (n-m)) C C C C C C C C C C C .here C C (by rw [List.drop_zero,← List.map_take];exact y3 _) (by rw [gQ];omega) (by rw [gQ];omega) (fun _ => .inl trivial) (fun I=>?_);rw [Ub z n m (min m (n-m)) ai ai] at I ⊢;refine bm.run trivial C (bf.done C ?_);refine tX ?_;exact bX.mk (m+min m (n-m)) I ⟨by omega,by omega⟩ xQ bM (by show n-(m+min m (n-m))<n-m;omega)
end Go.Proofs.YtnafpeohfbglmaaGreat
namespace Go.bY
abbrev m9:=Int×Int×Nat
def qE (g:Int→Int→List m9) (isLet:Bool) (size:Int):Nat→List Int→List m9
 | _,[]=>[]
 | i,k::r=>g k (if isLet&&i==1 then size+1 else size)++qE g isLet size (i+1) r
def u9 (p:b9) (n:Int):Bool:=decide (n≥0)&&decide (n<(p.nodes.length:Int))
def mx (p:b9):Nat→Int→Int→List m9
 | 0,n,size=>[(n,size,13)]
 | f+1,n,size=>(n,size,12-f)::(if u9 p n then qE (mx p f) (decide ((p.nodes.getD n.toNat default).op=9)) size 0 (p.nodes.getD n.toNat default).kids else [])
def FB (p:b9) (x:m9):Prop:=u9 p x.1=true∧x.2.2≤12
def y8 (p:b9) (next:Bool) (x:m9) (out:List Int):Option (List Int):=
 if sw p x.1 out&&decide (x.2.2≤12) then (if AX p next (p.nodes.getD x.1.toNat default) x.2.1 then some (out.set x.1.toNat x.2.1) else none) else none
def foldI (p:b9) (next:Bool):List m9→List Int→Option (List Int)
 | [],out=>some out
 | x::r,out=>(y8 p next x out).bind (foldI p next r)
theorem KU (p:b9) (next:Bool):∀ (l r:List m9) (out:List Int),foldI p next (l++r) out=(foldI p next l out).bind (foldI p next r)
  | [],r,out=>rfl
  | x::l,r,out=>by
    rw [List.cons_append,foldI,foldI];cases y8 p next x out with
    | none=>rfl
    | some o=>exact KU p next l r o
theorem KV (p:b9) (next:Bool) {g:Int→Int→List m9} {h:Int→Int→List Int→Option (List Int)} (ao:∀ k s out,foldI p next (g k s) out=h k s out) (isLet:Bool) (size:Int) :
    ∀ (ks:List Int) (i:Nat) (out:List Int),foldI p next (qE g isLet size i ks) out=AY h isLet size i ks out
  | [],i,out=>rfl
  | k::r,i,out=>by
    rw [qE,AY,KU,ao];cases h k (if isLet&&i==1 then size+1 else size) out with
    | none=>rfl
    | some o=>exact KV p next ao isLet size r (i+1) o
theorem KW (p:b9) (next:Bool):∀ (f:Nat) (n size:Int) (out:List Int),f≤12→foldI p next (mx p f n size) out=visitM p next f n size out
  | 0,n,size,out,_=>by
    rw [mx,foldI,visitM,y8];rw [if_neg bn];rfl
  | f+1,n,size,out,ba=>by
    rw [mx,foldI,visitM,y8];have ar:decide (((n,size,12-f):m9).2.2≤12)=true:=by simp
    rw [ar,Bool.and_true];cases aw:sw p n out with
    | false=>simp
    | true=>
      have fq:u9 p n=true:=by
        unfold sw at aw;unfold u9;simp only [Bool.and_eq_true,decide_eq_true_eq] at aw ⊢;exact ⟨aw.1,aw.2.1⟩
      simp only [if_true,fq];cases aC:AX p next (p.nodes.getD n.toNat default) size with
      | false=>simp
      | true=>
        simp only [if_true];exact KV p next (fun k s o=>KW p next f k s o ai) _ _ _ _ _
end Go.bY
namespace Go.Proofs.YtnafpeohfbglmaaGreat
open Go.bj Go.bY
def y9 (x:m9):ad := .int .i64 x.1
def y' (x:m9):ad := .agg [.int .i64 x.2.1,.int .i64 (x.2.2:Int)]
def KX (fv:ad) (p:b9) (dv:Nat):ad := .func 260 [] [.bq [fv] 0,.bq (dC p) 0,.ptr dv 0]
def u' (fv:ad) (p:b9) (dv:Nat):db := .box 306 [KX fv p dv]
def Ud {α:Type} (Go:List α→a6→Prop) (e6:a6→Prop) (fb:ad→a6→Prop) (rem:List α) (o:eb) (aL:a6):Prop:=
 (o = .ret (.bool true)∧Go rem aL)∨(o = .ret (.bool false)∧e6 aL)∨∃ v,o = .panic v∧fb v aL
structure KY (dv:Nat) (p:b9) (fv:ad) (Go:List m9→a6→Prop) (e6:a6→Prop) (fb:ad→a6→Prop):Prop where
 call:∀ x rem K,Go (x::rem) K→c2 Tryz.prog fv [y9 x,y' x] K (fun o aL=>(o = .ret (.bool true)∧FB p x∧Go rem aL)∨(o = .ret (.bool false)∧e6 aL)∨∃ v,o = .panic v∧fb v aL)
 po:∀ xs K,Go xs K→∃ R,aP K (.own dv) (u' fv p dv) R
theorem Ue (p:b9) (aN:gS p) (dv:Nat) (fv:ad) (Go:List m9→a6→Prop) (e6:a6→Prop) (fb:ad→a6→Prop) (dN:KY dv p fv Go e6 fb):∀ (f:Nat),f≤12→∀ (n size:Int),(0≤size∧size+f≤100)→∀ (rest:List m9) (K:a6),Go (mx p f n size++rest) K →
  bu Tryz.prog 260 [.int .i64 n,.agg [.int .i64 size,.int .i64 ((13-f:Nat):Int)],.bq [fv] 0,.bq (dC p) 0,.ptr dv 0] K (Ud Go e6 fb rest):=by
 have an:=bQ;intro f
 induction f with
 | zero=>
  intro _ n size b7 rest K df;have aE:=dN.call (n,size,13) rest K df;unfold y9 y' at aE;refine bu.bp ak call260 Tryz.func260 C C fun s I=>?_
  unfold dC;refine dF ?_;refine aa.fO C C C C C C aE I (au.all _) ?_ ?_
  ·rintro x aL (⟨_,ao,_⟩|⟨⟨⟩,ar⟩|⟨_,⟨⟩,_⟩) I
   ·exact absurd ao.2 (by show ¬ (13≤12);omega)
   ·rw [List.append_nil] at I ⊢
    refine cC ?_;exact Fin.bH I C aR (au.all _) (.inr (.inl ⟨rfl,ar⟩))
  ·rintro x aL (⟨h,_⟩|⟨h,_⟩|⟨v,⟨⟩,aN⟩) I
   ·cases h
   ·cases h
   exact Fin.eM I aR (au.ik (au.all _)) (.inr (.inr ⟨_,rfl,aN⟩))
 | succ f a'=>
  intro ba n size b7 rest K df;have ar:(13-(f+1):Nat)=12-f:=by omega
  rw [ar];rw [mx,List.cons_append] at df;have aE:=dN.call _ _ K df;unfold y9 y' at aE;refine bu.bp ak call260 Tryz.func260 C C fun s I=>?_
  unfold dC;refine dF ?_;refine aa.fO C C C C C C aE I (au.all _) ?_ ?_
  ·rintro x aL (⟨⟨⟩,ao,df⟩|⟨⟨⟩,ar⟩|⟨_,⟨⟩,_⟩) I
   ·rw [List.append_nil] at I ⊢
    obtain ⟨fq,_⟩:=ao;have fq:u9 p n=true:=fq;rw [fq,if_pos C] at df;unfold u9 at fq;simp only [Bool.and_eq_true,decide_eq_true_eq] at fq;obtain ⟨i,rfl⟩:∃ i:Nat,n=i:=⟨n.toNat,by omega⟩;obtain ⟨x,ab,ch⟩:=cD (f:=ka) (l:=p.nodes) (j:=i) ai;have nn:p.nodes.getD ((i:Int)).toNat default=x:=by rw [Int.toNat_natCast,List.getD_eq_getElem?_getD,ab];rfl
    rw [nn] at df;have uQ:=aN.kids x (List.mem_of_getElem? ab);unfold ka ob bI at ch;refine bP ?_;refine af.cT [0,3,4,6,21,22] C I (σ:=Nat×a6) (fun q=>[(23,.int .i64 (q.1:Int))]) (fun q=>q.2) (fun q=>q.1≤x.kids.length∧Go (qE (mx p f) (decide (x.op=9)) size q.1 (x.kids.drop q.1)++rest) q.2) (fun q=>x.kids.length-q.1) (0,aL) ⟨Nat.zero_le _,df⟩ (c3 C) (au.all _) ?_;rintro ⟨j,yF⟩ ⟨aS,wW⟩ I;simp only at aS wW I ⊢;refine cL ?_;refine af.cond C (fun aG=>?_) (fun bk=>?_);rotate_left
    ·have bk:j=x.kids.length:=by simp at bk;omega
     subst bk;rw [fC (Nat.le_refl _),qE,List.nil_append] at wW;refine fJ ?_;exact Fin.bH I C aR (au.all _) (.inl ⟨rfl,wW⟩)
    have aG:j<x.kids.length:=by simpa using aG
    obtain ⟨k,aD,eL⟩:=cD (f:=bg) aG;rw [drop_cons aD,qE,List.append_assoc] at wW;obtain ⟨R,m8⟩:=dN.po _ _ wW;have h7:=c2.eP (first:=[]) (args:=[.int .i64 k,.agg [.int .i64 (if decide (x.op=9)&&j==1 then size+1 else size),.int .i64 ((13-f:Nat):Int)]]) (cap:=[.bq [fv] 0,.bq (dC p) 0,.ptr dv 0]) (a' ai _ _ ub _ _ wW);have dU:IntKind.wrap .i64 (((12-f:Nat):Int)+1)=((13-f:Nat):Int):=by rw [e0 ai ai];omega
    have BR:((j:Int)==1)=(j==1):=by rw [Bool.eq_iff_iff];simp;omega
    have m3:decide (x.op=9)=(x.op==9):=rfl;rw [m3,← dU] at h7;unfold dC at h7;unfold u' KX dC at m8;unfold bg at eL
    repeat (first|(refine tY I ?_;clear I;intro I)|refine aa.dE ak I rfl rfl rfl rfl rfl rfl rfl (fun cv I=>?_))
    cases uy:(x.op==9) with
    | false=>
     rw [uy,Bool.false_and] at h7;simp only [Bool.false_eq_true,if_false] at h7;refine bP ?_;refine aa.dS ak I C C C C C C (.there m8) b3 ?_;refine cn I ?_;intro I;refine aa.fO C C C C C C h7 I (au.there (au.all yF)) ?_ ?_
     ·rintro _ hN (⟨⟨⟩,za⟩|⟨⟨⟩,ar⟩|⟨_,⟨⟩,_⟩) I
      ·refine bP ?_
       exact bX.mk (j+1,hN) I ⟨aG,by show Go (qE (mx p f) (decide (x.op=9)) size (j+1) (List.drop (j+1) x.kids)++rest) hN;rw [m3,uy];exact za⟩ c7 (au.ik (au.all _)) Fj
      ·refine cC ?_
       exact Fin.bH I C aR (au.ik (au.all _)) (.inr (.inl ⟨rfl,ar⟩))
     ·rintro x aL (⟨h,_⟩|⟨h,_⟩|⟨v,⟨⟩,aN⟩) I
      ·cases h
      ·cases h
      exact Fin.eM I aR (au.ik (au.all _)) (.inr (.inr ⟨_,rfl,aN⟩))
    | true=>
     rw [uy,Bool.true_and] at h7;refine hv ?_;cases BS:(j==1) with
     | false=>
      rw [BS] at h7 BR;simp only [Bool.false_eq_true,if_false] at h7;refine af.cond C (fun h=>by rw [BR] at h;cases h) (fun _=>?_);refine fA ?_;refine aa.dS ak I C C C C C C (.there m8) b3 ?_;refine cn I ?_;intro I;refine aa.fO C C C C C C h7 I (au.there (au.all yF)) ?_ ?_
      ·rintro _ hN (⟨⟨⟩,za⟩|⟨⟨⟩,ar⟩|⟨_,⟨⟩,_⟩) I
       ·refine bP ?_
        exact bX.mk (j+1,hN) I ⟨aG,by show Go (qE (mx p f) (decide (x.op=9)) size (j+1) (List.drop (j+1) x.kids)++rest) hN;rw [m3,uy];exact za⟩ c7 (au.ik (au.all _)) Fj
       ·refine cC ?_
        exact Fin.bH I C aR (au.ik (au.all _)) (.inr (.inl ⟨rfl,ar⟩))
      ·rintro x aL (⟨h,_⟩|⟨h,_⟩|⟨v,⟨⟩,aN⟩) I
       ·cases h
       ·cases h
       exact Fin.eM I aR (au.ik (au.all _)) (.inr (.inr ⟨_,rfl,aN⟩))
     | true=>
      rw [BS] at h7 BR;simp only [if_true] at h7;have jd:IntKind.wrap .i64 (size+1)=size+1:=e0 ai ai;rw [← jd] at h7;refine af.cond C (fun _=>?_) (fun h=>by rw [BR] at h;cases h);refine cn I ?_;intro I;refine aa.dS ak I C C C C C C (.there m8) b3 ?_;refine cn I ?_;intro I;refine aa.fO C C C C C C h7 I (au.there (au.all yF)) ?_ ?_
      ·rintro _ hN (⟨⟨⟩,za⟩|⟨⟨⟩,ar⟩|⟨_,⟨⟩,_⟩) I
       ·refine bP ?_
        exact bX.mk (j+1,hN) I ⟨aG,by show Go (qE (mx p f) (decide (x.op=9)) size (j+1) (List.drop (j+1) x.kids)++rest) hN;rw [m3,uy];exact za⟩ c7 (au.ik (au.all _)) Fj
       ·refine cC ?_
        exact Fin.bH I C aR (au.ik (au.all _)) (.inr (.inl ⟨rfl,ar⟩))
      ·rintro x aL (⟨h,_⟩|⟨h,_⟩|⟨v,⟨⟩,aN⟩) I
       ·cases h
       ·cases h
       exact Fin.eM I aR (au.ik (au.all _)) (.inr (.inr ⟨_,rfl,aN⟩))
   ·rw [List.append_nil] at I ⊢
    refine cC ?_;exact Fin.bH I C aR (au.all _) (.inr (.inl ⟨rfl,ar⟩))
  ·rintro x aL (⟨h,_⟩|⟨h,_⟩|⟨v,⟨⟩,aN⟩) I
   ·cases h
   ·cases h
   exact Fin.eM I aR (au.ik (au.all _)) (.inr (.inr ⟨_,rfl,aN⟩))
end Go.Proofs.YtnafpeohfbglmaaGreat
namespace Go.Proofs.YtnafpeohfbglmaaGreat
open Go.bj Go.bY
theorem Uf (p:b9) (aN:gS p) (n size:Int) (b7:0≤size∧size+12≤100):DR Tryz.prog 259 [] [.bq (dC p) 0,.bq [.int .i64 n] 0,.bq [.int .i64 size,.int .i64 1] 0] [] y9 y' (FB p) (mx p 12 n size):=by
 intro l Go e6 fb nx K br;have dN:∀ dv,KY dv p (kr l) (fun xs K=>∃ aL,K=aL++[(.own dv,u' (kr l) p dv)]∧Go xs aL) (fun K=>∃ aL,K=aL++[(.own dv,u' (kr l) p dv)]∧e6 aL) (fun v K=>∃ aL,K=aL++[(.own dv,u' (kr l) p dv)]∧fb v aL):=fun dv=>by
  refine ⟨fun x rem K ⟨aL,e,ao⟩=>?_,fun xs K ⟨aL,e,_⟩=>⟨aL++[],by subst e;exact aP.app aL .here⟩⟩;subst e;refine c2.frame (R:=[(.own dv,u' (kr l) p dv)]) (nx x rem aL ao) (au.ik (au.fh aL)) ?_;rintro o kj (⟨rfl,U,h⟩|⟨rfl,h⟩|⟨v,rfl,h⟩)
  ·exact .inl ⟨rfl,U,kj,rfl,h⟩
  ·exact .inr (.inl ⟨rfl,kj,rfl,h⟩)
  ·exact .inr (.inr ⟨v,rfl,kj,rfl,h⟩)
 have hw:=fun dv=>c2.eP (first:=[]) (args:=[.int .i64 n,.agg [.int .i64 size,.int .i64 1]]) (cap:=[.bq [kr l] 0,.bq (dC p) 0,.ptr dv 0]) (Ue p aN dv (kr l) _ _ _ (dN dv) 12 (Nat.le_refl _) n size ai [] (K++[(.own dv,u' (kr l) p dv)]) ⟨K,rfl,by rw [List.append_nil];exact br⟩)
 refine bu.bp ak call259 Tryz.func259 C C fun s I=>?_
 rw [List.nil_append] at I ⊢
 repeat (first|(refine Dm I ?_;clear I;intro I)|refine aa.dE ak I rfl rfl rfl rfl rfl rfl rfl (fun cv I=>?_))
 refine aa.fO C C C C C C (hw cv) I (au.hC (List.perm_append_singleton _ _).symm) ?_ ?_
 ·rintro x _ (⟨⟨⟩,kj,rfl,h⟩|⟨⟨⟩,kj,rfl,h⟩|⟨_,⟨⟩,_⟩) I
  all_goals rw [List.append_nil] at I ⊢
  ·refine hv ?_
   exact Fin.bH I C aR (au.ik (au.fh kj)) (.inl ⟨rfl,.inl h⟩)
  ·refine hv ?_
   exact Fin.bH I C aR (au.ik (au.fh kj)) (.inl ⟨rfl,.inr h⟩)
 ·rintro x _ (⟨h,_⟩|⟨h,_⟩|⟨v,⟨⟩,kj,rfl,h⟩) I
  ·cases h
  ·cases h
  rw [List.append_nil] at I ⊢;exact Fin.eM I aR (au.ik (au.fh kj)) (.inr ⟨_,rfl,h⟩)
theorem Ug (p:b9) (n size d:Int):a7 Tryz.prog 226 [ee p,.int .i64 n,.agg [.int .i64 size,.int .i64 d]] (.func 259 [] [.bq (dC p) 0,.bq [.int .i64 n] 0,.bq [.int .i64 size,.int .i64 d] 0]):=by
 have an:=bQ;refine a7.bp ak call226 Tryz.func226 C C fun s I=>?_
 unfold ee dC;refine nv ?_;exact bA I
theorem KZ:n1 Tryz.prog 277 "consort/bind.many" 335 := Av aq
theorem K0:n1 Tryz.prog 279 "consort/bind.many" 336 := Av aq
theorem K1 (p:b9) (x:p7):(x.op=5∧u4 x.op = .iface 279 (.agg [])∧yg p x=some (p.eY.getD x.n.toNat 0))∨(∃ m,u4 x.op=u3 m∧yg p x=some m)∨(u4 x.op = .mz∧yg p x=none):=by
 unfold u4 yg;by_cases U:x.op=5
 ·left;rw [if_pos U,if_pos U];exact ⟨U,rfl,rfl⟩
 rw [if_neg U,if_neg U];right;by_cases ae:x.op=1∨x.op=2∨x.op=3∨x.op=6∨x.op=18
 ·left;rw [if_pos ae,if_pos ae];exact ⟨0,rfl,rfl⟩
 rw [if_neg ae,if_neg ae];by_cases al:x.op=4∨x.op=8∨x.op=17
 ·left;rw [if_pos al,if_pos al];exact ⟨1,rfl,rfl⟩
 rw [if_neg al,if_neg al];by_cases bl:x.op=7∨x.op=9∨x.op=11∨x.op=12∨x.op=13∨x.op=14∨x.op=15∨x.op=16
 ·left;rw [if_pos bl,if_pos bl];exact ⟨2,rfl,rfl⟩
 rw [if_neg bl,if_neg bl];by_cases bD:x.op=10
 ·left;rw [if_pos bD,if_pos bD];exact ⟨3,rfl,rfl⟩
 right;rw [if_neg bD,if_neg bD];exact ⟨rfl,rfl⟩
theorem sZ {m l:Int}:((some m==some l)=true)↔l=m:=by
 rw [beq_iff_eq,Option.some.injEq];exact eq_comm
def fy (cQ b:Nat) (out:List Int):a6:=[(.own cQ,.box 23 [dG b out.length out.length]),(.own b,.box 3 (out.map bg))]
def Uh (cQ b:Nat) (len:Nat) (r:Option (List Int)) (o:eb) (K:a6):Prop:=
 ∃ out,out.length=len∧K=fy cQ b out∧((o = .ret (.cl [])∧r=some out)∨(o = .panic rR∧r=none))
theorem K2 (p:b9) (aN:gS p) (Xz:p.eY.all (fun n=>decide (n≥1)&&decide (n≤3))=true) (cQ b:Nat) (out:List Int) (gC:out.length=p.nodes.length) (nV:p.nodes.length≤120) (n size:Int) (next:Bool) (b7:0≤size∧size≤50) :
  c2 Tryz.prog (.func 225 [] [.bq (dC p) 0,.ptr cQ 0]) [.int .i64 n,.int .i64 size,.bool next] (fy cQ b out) (Uh cQ b p.nodes.length (visitM p next 12 n size out)):=by
 have an:=bQ;have lb:=Ug p n size 1;have mL:=Uf p aN n size ai;refine c2.eP (first:=[]) (cap:=[.bq (dC p) 0,.ptr cQ 0]) ?_;refine bu.bp ak call225 Tryz.func225 C C fun s I=>?_
 rw [← KW p next 12 n size out (Nat.le_refl _)];unfold ee at lb;unfold dC at *;unfold fy at I;refine cy ?_;refine af.Ie I C dd dd mL .nil (fun rem K=>∃ ct,ct.length=p.nodes.length∧K=fy cQ b ct∧foldI p next (mx p 12 n size) out=foldI p next rem ct) (fun _ _=>False) (fun v K=>v=rR∧foldI p next (mx p 12 n size) out=none∧∃ ct,ct.length=p.nodes.length∧K=fy cQ b ct) ⟨out,gC,rfl,rfl⟩ ?_ ?_ (fun _ _ h=>h.elim) ?_
 ·rintro s₁ x rem K ⟨ct,ev,rfl,aH⟩ I
  obtain ⟨FC,xs,FD⟩:=x;unfold y9 y';unfold fy at I ⊢;rw [foldI,y8] at aH;simp only at aH;refine gP ?_;by_cases g1:FC≥0;rotate_left
  ·refine aa.dR 22 C (decide_eq_false g1) ?_
   refine cC ?_;refine aa.b0 C C C C C (fX _) I .nil ?_ ?_;rotate_left
   ·rintro _ _ ⟨rfl,h⟩ I
    obtain ⟨aC,rfl⟩:=fS h;rw [List.nil_append] at I ⊢;exact At.mk (fy cQ b ct) I (au.all _) ⟨rfl,(by rw [aH];simp [sw,g1]),ct,ev,rfl⟩
   rintro _ _ ⟨rfl,h⟩ I;obtain ⟨al,rfl⟩:=fR h;rw [List.nil_append] at I ⊢;exact absurd al bn
  obtain ⟨i,rfl⟩:∃ i:Nat,FC=i:=⟨FC.toNat,by omega⟩;refine aa.eH 22 C (decide_eq_true g1) ?_;refine d' ?_;by_cases g2:i<p.nodes.length;rotate_left
  ·refine aa.dR 29 C dq ?_
   refine cC ?_;refine aa.b0 C C C C C (fX _) I .nil ?_ ?_;rotate_left
   ·rintro _ _ ⟨rfl,h⟩ I
    obtain ⟨aC,rfl⟩:=fS h;rw [List.nil_append] at I ⊢;exact At.mk (fy cQ b ct) I (au.all _) ⟨rfl,(by rw [aH];simp [sw,g2]),ct,ev,rfl⟩
   rintro _ _ ⟨rfl,h⟩ I;obtain ⟨al,rfl⟩:=fR h;rw [List.nil_append] at I ⊢;exact absurd al bn
  refine aa.eH 29 C dq ?_;obtain ⟨z,bE⟩:∃ z,ct[i]? = some z:=⟨_,List.getElem?_eq_getElem ai⟩;have Ui:ct.getD i 0=z:=by rw [List.getD_eq_getElem?_getD,bE];rfl
  have kG:(ct.map bg)[i*1]? = some (.int .i64 z):=by rw [Nat.mul_one,List.getElem?_map,bE];rfl
  obtain ⟨x,ab,ch⟩:=cD (f:=ka) (l:=p.nodes) (j:=i) g2;have Uj:p.nodes.getD i default=x:=by rw [List.getD_eq_getElem?_getD,ab];rfl
  rw [Int.toNat_natCast,Uj] at aH;refine cn I ?_;intro I;refine aa.e7 ak i C C C C C C C C C C ai ?_;refine aa.kE ak I C C C C C C a1 C kG ?_;refine d' ?_;have gw:sw p (i:Int) ct=decide (z<0):=by
   unfold sw;rw [Int.toNat_natCast,Ui,decide_eq_true g1,show decide ((i:Int)<(p.nodes.length:Int))=true by simp;omega];rfl
  rw [gw] at aH;by_cases g3:z<0;rotate_left
  ·refine aa.dR 36 C (decide_eq_false g3) ?_
   refine cC ?_;refine aa.b0 C C C C C (fX _) I .nil ?_ ?_;rotate_left
   ·rintro _ _ ⟨rfl,h⟩ I
    obtain ⟨aC,rfl⟩:=fS h;rw [List.nil_append] at I ⊢;exact At.mk (fy cQ b ct) I (au.all _) ⟨rfl,(by rw [aH];simp [g3]),ct,ev,rfl⟩
   rintro _ _ ⟨rfl,h⟩ I;obtain ⟨al,rfl⟩:=fR h;rw [List.nil_append] at I ⊢;exact absurd al bn
  refine aa.eH 36 C (decide_eq_true g3) ?_;rw [decide_eq_true g3,Bool.true_and] at aH;refine d' ?_;refine aa.b0 C C C C C (fX _) I .nil ?_ ?_;rotate_left
  ·rintro _ _ ⟨rfl,h⟩ I
   obtain ⟨aC,rfl⟩:=fS h;rw [List.nil_append] at I ⊢;exact At.mk (fy cQ b ct) I (au.all _) ⟨rfl,(by rw [aH,show decide (FD≤12)=false from (by simp at aC ⊢;omega)];simp),ct,ev,rfl⟩
  rintro _ _ ⟨rfl,h⟩ I;obtain ⟨al,rfl⟩:=fR h;rw [List.nil_append] at I ⊢;have g4:FD≤12:=by simp at al;omega
  rw [decide_eq_true g4,if_pos C] at aH;have BT:FB p ((i:Int),xs,FD):=⟨by unfold u9;simp;omega,g4⟩;have qS:eg (i*1) [.int .i64 xs] (ct.map bg)=(ct.set i xs).map bg:=by
   rw [ru,Nat.mul_one,List.map_set];rfl
  refine cn I ?_;intro I;refine aa.e7 ak i C C C C C C C C C C ai ?_;refine aa.kF ak I _ C C C C C C C C C a1 (by rw [List.length_map];show i*1+1≤_;omega) qS (fun I=>?_);have k1:(ct.set i xs).length=p.nodes.length:=by rw [List.length_set];exact ev
  have mT:=TQ p aN x xs;have s0:=TP x.op;unfold ee dC ka ob bI at mT;unfold ka ob bI at ch;unfold AX at aH;cases kp:qb p x xs with
  | false=>
   rw [kp] at mT;rw [kp,Bool.false_and,if_neg bn] at aH;refine gP ?_;refine aa.b0 C C C C C (fX _) I .nil ?_ ?_;rotate_left
   ·rintro _ _ ⟨rfl,h⟩ I
    obtain ⟨aC,rfl⟩:=fS h;rw [List.nil_append] at I ⊢;exact At.mk (fy cQ b (ct.set i xs)) I (by simp only [fy,List.length_set];repeat (first|exact au.nil|(apply au.cons;· repeat (first|exact aP.here|apply aP.there)))) ⟨rfl,aH,(ct.set i xs),k1,rfl⟩
   rintro _ _ ⟨rfl,h⟩ I;obtain ⟨bl,rfl⟩:=fR h;rw [List.nil_append] at I ⊢;exact absurd bl bn
  | true=>
  rw [kp] at mT;rw [kp,Bool.true_and] at aH;cases next with
  | true=>
   rw [Bool.true_or,Bool.true_and] at aH;refine gP ?_;refine aa.b0 C C C C C (fX _) I .nil ?_ ?_;rotate_left
   ·rintro _ _ ⟨rfl,h⟩ I
    obtain ⟨aC,rfl⟩:=fS h;rw [List.nil_append] at I ⊢;exact At.mk (fy cQ b (ct.set i xs)) I (by simp only [fy,List.length_set];repeat (first|exact au.nil|(apply au.cons;· repeat (first|exact aP.here|apply aP.there)))) ⟨rfl,(absurd aC bn),(ct.set i xs),k1,rfl⟩
   rintro _ _ ⟨rfl,h⟩ I;obtain ⟨bl,rfl⟩:=fR h;rw [List.nil_append] at I ⊢;rcases K1 p x with ⟨bD,pI,iU⟩|⟨m,pI,iU⟩|⟨pI,iU⟩
   ·rw [pI] at s0
    rw [iU] at aH;have aS:0≤x.n∧x.n<(p.eY.length:Int):=by
     simpa [qb,bD] using kp
    obtain ⟨k,aD⟩:∃ k:Nat,x.n=k:=⟨x.n.toNat,by omega⟩;have h5:=KQ p x k (p.eY.getD x.n.toNat 0) aD Ku;unfold ee dC ka ob bI at h5;refine cy ?_;refine aM.p' C C C C C C K0 h5 ?_;refine jb ?_;refine aM.b0 C C C C C C (fX _) I .nil ?_ ?_;rotate_left
    ·rintro _ _ ⟨rfl,h⟩ I
     obtain ⟨aC,rfl⟩:=fS h;rw [List.nil_append] at I ⊢;rw [List.length_map] at aC;refine At.mk (fy cQ b (ct.set i xs)) I (by simp only [fy,List.length_set];repeat (first|exact au.nil|(apply au.cons;· repeat (first|exact aP.here|apply aP.there)))) ⟨rfl,?_,_,k1,rfl⟩;rw [if_neg (fun e=>absurd (sZ.mp e) qC)] at aH;exact aH
    rintro _ _ ⟨rfl,h⟩ I;obtain ⟨aC,rfl⟩:=fR h;rw [List.nil_append] at I ⊢;rw [List.length_map] at aC;rw [if_pos (sZ.mpr qC)] at aH;refine gi ?_;exact At.mk (fy cQ b (ct.set i xs)) I (by simp only [fy,List.length_set];repeat (first|exact au.nil|(apply au.cons;· repeat (first|exact aP.here|apply aP.there)))) ⟨BT,_,k1,rfl,aH⟩
   ·rw [pI] at s0
    rw [iU] at aH;unfold u3 at s0;have h5:=KP m p x;unfold ee dC ka ob bI at h5;refine cy ?_;refine aM.p' C C C C C C KZ h5 ?_;refine jb ?_;refine aM.b0 C C C C C C (fX _) I .nil ?_ ?_;rotate_left
    ·rintro _ _ ⟨rfl,h⟩ I
     obtain ⟨aC,rfl⟩:=fS h;rw [List.nil_append] at I ⊢;rw [List.length_map] at aC;refine At.mk (fy cQ b (ct.set i xs)) I (by simp only [fy,List.length_set];repeat (first|exact au.nil|(apply au.cons;· repeat (first|exact aP.here|apply aP.there)))) ⟨rfl,?_,_,k1,rfl⟩;rw [if_neg (fun e=>absurd (sZ.mp e) qC)] at aH;exact aH
    rintro _ _ ⟨rfl,h⟩ I;obtain ⟨aC,rfl⟩:=fR h;rw [List.nil_append] at I ⊢;rw [List.length_map] at aC;rw [if_pos (sZ.mpr qC)] at aH;refine gi ?_;exact At.mk (fy cQ b (ct.set i xs)) I (by simp only [fy,List.length_set];repeat (first|exact au.nil|(apply au.cons;· repeat (first|exact aP.here|apply aP.there)))) ⟨BT,_,k1,rfl,aH⟩
   ·rw [pI] at s0
    rw [iU] at aH;have aH:foldI p true (mx p 12 n size) out=none:=aH;refine cy ?_;refine aa.b0 C C C C C (fX _) I .nil ?_ ?_;rotate_left
    ·rintro _ _ ⟨rfl,h⟩ I
     obtain ⟨aC,rfl⟩:=fS h;rw [List.nil_append] at I ⊢;exact At.mk (fy cQ b (ct.set i xs)) I (by simp only [fy,List.length_set];repeat (first|exact au.nil|(apply au.cons;· repeat (first|exact aP.here|apply aP.there)))) ⟨rfl,aH,(ct.set i xs),k1,rfl⟩
    rintro _ _ ⟨rfl,h⟩ I;obtain ⟨bD,rfl⟩:=fR h;rw [List.nil_append] at I ⊢;exact absurd bD bn
  | false=>
   rw [Bool.false_or] at aH;refine gP ?_;refine aa.b0 C C C C C (fX _) I .nil ?_ ?_;rotate_left
   ·rintro _ _ ⟨rfl,h⟩ I
    obtain ⟨aC,rfl⟩:=fS h;rw [List.nil_append] at I ⊢;exact At.mk (fy cQ b (ct.set i xs)) I (by simp only [fy,List.length_set];repeat (first|exact au.nil|(apply au.cons;· repeat (first|exact aP.here|apply aP.there)))) ⟨rfl,(by rw [show decide (x.op≠18)=false by simpa using aC,Bool.false_and,if_neg bn] at aH;exact aH),(ct.set i xs),k1,rfl⟩
   rintro _ _ ⟨rfl,h⟩ I;obtain ⟨bl,rfl⟩:=fR h;rw [List.nil_append] at I ⊢;rw [show decide (x.op≠18)=true by simpa using bl,Bool.true_and] at aH;rcases K1 p x with ⟨bD,pI,iU⟩|⟨m,pI,iU⟩|⟨pI,iU⟩
   ·rw [pI] at s0
    rw [iU] at aH;have aS:0≤x.n∧x.n<(p.eY.length:Int):=by
     simpa [qb,bD] using kp
    obtain ⟨k,aD⟩:∃ k:Nat,x.n=k:=⟨x.n.toNat,by omega⟩;have h5:=KQ p x k (p.eY.getD x.n.toNat 0) aD Ku;unfold ee dC ka ob bI at h5;refine cy ?_;refine aM.p' C C C C C C K0 h5 ?_;refine jb ?_;refine aM.b0 C C C C C C (fX _) I .nil ?_ ?_;rotate_left
    ·rintro _ _ ⟨rfl,h⟩ I
     obtain ⟨aC,rfl⟩:=fS h;rw [List.nil_append] at I ⊢;rw [List.length_map] at aC;refine At.mk (fy cQ b (ct.set i xs)) I (by simp only [fy,List.length_set];repeat (first|exact au.nil|(apply au.cons;· repeat (first|exact aP.here|apply aP.there)))) ⟨rfl,?_,_,k1,rfl⟩;rw [if_neg (fun e=>absurd (sZ.mp e) qC)] at aH;exact aH
    rintro _ _ ⟨rfl,h⟩ I;obtain ⟨aC,rfl⟩:=fR h;rw [List.nil_append] at I ⊢;rw [List.length_map] at aC;rw [if_pos (sZ.mpr qC)] at aH;refine gi ?_;exact At.mk (fy cQ b (ct.set i xs)) I (by simp only [fy,List.length_set];repeat (first|exact au.nil|(apply au.cons;· repeat (first|exact aP.here|apply aP.there)))) ⟨BT,_,k1,rfl,aH⟩
   ·rw [pI] at s0
    rw [iU] at aH;unfold u3 at s0;have h5:=KP m p x;unfold ee dC ka ob bI at h5;refine cy ?_;refine aM.p' C C C C C C KZ h5 ?_;refine jb ?_;refine aM.b0 C C C C C C (fX _) I .nil ?_ ?_;rotate_left
    ·rintro _ _ ⟨rfl,h⟩ I
     obtain ⟨aC,rfl⟩:=fS h;rw [List.nil_append] at I ⊢;rw [List.length_map] at aC;refine At.mk (fy cQ b (ct.set i xs)) I (by simp only [fy,List.length_set];repeat (first|exact au.nil|(apply au.cons;· repeat (first|exact aP.here|apply aP.there)))) ⟨rfl,?_,_,k1,rfl⟩;rw [if_neg (fun e=>absurd (sZ.mp e) qC)] at aH;exact aH
    rintro _ _ ⟨rfl,h⟩ I;obtain ⟨aC,rfl⟩:=fR h;rw [List.nil_append] at I ⊢;rw [List.length_map] at aC;rw [if_pos (sZ.mpr qC)] at aH;refine gi ?_;exact At.mk (fy cQ b (ct.set i xs)) I (by simp only [fy,List.length_set];repeat (first|exact au.nil|(apply au.cons;· repeat (first|exact aP.here|apply aP.there)))) ⟨BT,_,k1,rfl,aH⟩
   ·rw [pI] at s0
    rw [iU] at aH;have aH:foldI p false (mx p 12 n size) out=none:=aH;refine cy ?_;refine aa.b0 C C C C C (fX _) I .nil ?_ ?_;rotate_left
    ·rintro _ _ ⟨rfl,h⟩ I
     obtain ⟨aC,rfl⟩:=fS h;rw [List.nil_append] at I ⊢;exact At.mk (fy cQ b (ct.set i xs)) I (by simp only [fy,List.length_set];repeat (first|exact au.nil|(apply au.cons;· repeat (first|exact aP.here|apply aP.there)))) ⟨rfl,aH,(ct.set i xs),k1,rfl⟩
    rintro _ _ ⟨rfl,h⟩ I;obtain ⟨bD,rfl⟩:=fR h;rw [List.nil_append] at I ⊢;exact absurd bD bn
 ·rintro K ⟨ct,ev,rfl,aH⟩ I
  rw [foldI] at aH;refine gi ?_;exact Fin.bH I C aR (au.all _) ⟨ct,ev,rfl,.inl ⟨rfl,aH⟩⟩
 ·rintro v K ⟨rfl,aH,ct,ev,rfl⟩ I
  exact Fin.eM I aR (au.all _) ⟨ct,ev,rfl,.inr ⟨rfl,aH⟩⟩
end Go.Proofs.YtnafpeohfbglmaaGreat
namespace Go.Proofs.YtnafpeohfbglmaaGreat
open Go.bj Go.bY
def Uk (p:b9) (cQ:Nat) (o:eb) (K:a6):Prop:=
 (o = .ret (.cl [])∧∃ b out,out.length=p.nodes.length∧nG p=some out∧K=fy cQ b out)∨(o = .panic rR∧nG p=none∧∃ v R,K=(.own cQ,.box 23 [v])::R)
theorem Ul (p:b9) (aN:gS p) (cQ:Nat) (v0:ad) :
  c2 Tryz.prog (.func 221 [] [.bq (dC p) 0,.ptr cQ 0]) [] [(.own cQ,.box 23 [v0])] (Uk p cQ):=by
 have an:=bQ;have gJ:=TN p aN;have jc:=aN.eY;have gQ:=aN.BL;have nV:=aN.nodes;refine c2.eP (first:=[]) (cap:=[.bq (dC p) 0,.ptr cQ 0]) ?_;refine bu.bp ak call221 Tryz.func221 C C fun s I=>?_
 have K3:=KI p aN;unfold ee at *;unfold dC bI at *;have cX:nG p=nG p:=rfl
 conv at cX=>rhs;unfold nG
 refine k3 ?_;refine aa.b0 C C C C C gJ I .nil ?_ ?_;rotate_left
 ·rintro _ _ ⟨rfl,h⟩ I
  obtain ⟨aC,rfl⟩:=fS h;rw [List.nil_append] at I ⊢;exact Fin.eM I aR (au.all _) (.inr ⟨rfl,by rw [cX,aC];rfl,_,_,rfl⟩)
 rintro _ _ ⟨rfl,h⟩ I;obtain ⟨cE,rfl⟩:=fR h;rw [List.nil_append] at I ⊢;rw [cE,Bool.true_and] at cX;have BU:=IB cE;have Um:(hz 0 p.dH).length<bt:=by have h:(hz 0 p.dH).length≤40:=BU.bx;omega
 have K3:=K3 Um;refine gB ?_;by_cases g1:p.eY.length≤8;rotate_left
 ·refine aa.dR 14 C dq ?_
  refine cC ?_;refine aa.b0 C C C C C (fX _) I .nil ?_ ?_;rotate_left
  ·rintro _ _ ⟨rfl,h⟩ I
   obtain ⟨aC,rfl⟩:=fS h;rw [List.nil_append] at I ⊢;exact Fin.eM I aR (au.all _) (.inr ⟨rfl,(by rw [cX];simp [rE,g1]),_,_,rfl⟩)
  rintro _ _ ⟨rfl,h⟩ I;obtain ⟨U,rfl⟩:=fR h;rw [List.nil_append] at I ⊢;exact absurd U bn
 refine aa.eH 14 C dq ?_;refine d' ?_;by_cases g2:p.methods.length≤16;rotate_left
 ·refine aa.dR 20 C dq ?_
  refine cC ?_;refine aa.b0 C C C C C (fX _) I .nil ?_ ?_;rotate_left
  ·rintro _ _ ⟨rfl,h⟩ I
   obtain ⟨aC,rfl⟩:=fS h;rw [List.nil_append] at I ⊢;exact Fin.eM I aR (au.all _) (.inr ⟨rfl,(by rw [cX];simp [rE,g2]),_,_,rfl⟩)
  rintro _ _ ⟨rfl,h⟩ I;obtain ⟨U,rfl⟩:=fR h;rw [List.nil_append] at I ⊢;exact absurd U bn
 refine aa.eH 20 C dq ?_;refine d' ?_;by_cases g3:p.nodes.length≥1;rotate_left
 ·refine aa.dR 26 C dq ?_
  refine cC ?_;refine aa.b0 C C C C C (fX _) I .nil ?_ ?_;rotate_left
  ·rintro _ _ ⟨rfl,h⟩ I
   obtain ⟨aC,rfl⟩:=fS h;rw [List.nil_append] at I ⊢;exact Fin.eM I aR (au.all _) (.inr ⟨rfl,(by rw [cX];simp [rE,show ¬ 1≤p.nodes.length by omega]),_,_,rfl⟩)
  rintro _ _ ⟨rfl,h⟩ I;obtain ⟨U,rfl⟩:=fR h;rw [List.nil_append] at I ⊢;exact absurd U bn
 refine aa.eH 26 C dq ?_;refine d' ?_;refine aa.b0 C C C C C (fX _) I .nil ?_ ?_;rotate_left
 ·rintro _ _ ⟨rfl,h⟩ I
  obtain ⟨aC,rfl⟩:=fS h;rw [List.nil_append] at I ⊢;exact Fin.eM I aR (au.all _) (.inr ⟨rfl,(by rw [cX];simp at aC;simp [rE,show ¬ p.nodes.length≤120 by omega]),_,_,rfl⟩)
 rintro _ _ ⟨rfl,h⟩ I;obtain ⟨g4,rfl⟩:=fR h;rw [List.nil_append] at I ⊢;have g4:p.nodes.length≤120:=by simp at g4;omega
 have Un:rE p=p.eY.all (fun n=>decide (n≥1)&&decide (n≤3)):=by
  unfold rE;rw [decide_eq_true g1,decide_eq_true g2,decide_eq_true g3,decide_eq_true g4];rfl
 rw [Un] at cX;refine bP ?_;refine af.cT [0,1,34,35] C I (σ:=Nat) (fun j=>[(36,.int .i64 (j:Int))]) (fun _=>[(.own cQ,.box 23 [v0])]) (fun j=>j≤p.eY.length∧p.eY.all (fun n=>decide (n≥1)&&decide (n≤3))=(p.eY.drop j).all (fun n=>decide (n≥1)&&decide (n≤3))) (fun j=>p.eY.length-j) 0 ⟨Nat.zero_le _,rfl⟩ (c3 C) bM ?_;rintro j ⟨aS,aH⟩ I
 try simp only at aS aH I ⊢
 refine cL ?_;refine af.cond C (fun aG=>?_) (fun bk=>?_)
 ·have aG:j<p.eY.length:=by simpa using aG
  obtain ⟨x,ab,ch⟩:=cD (f:=bg) aG;rw [drop_cons ab,List.all_cons] at aH;unfold bg at ch;refine fA ?_;by_cases g5:x≥1;rotate_left
  ·refine aa.dR 42 C (decide_eq_false g5) ?_
   refine cC ?_;refine aa.b0 C C C C C (fX _) I .nil ?_ ?_;rotate_left
   ·rintro _ _ ⟨rfl,h⟩ I
    obtain ⟨aC,rfl⟩:=fS h;rw [List.nil_append] at I ⊢;exact Fin.eM I aR (au.all _) (.inr ⟨rfl,(by rw [cX,aH,decide_eq_false g5];rfl),_,_,rfl⟩)
   rintro _ _ ⟨rfl,h⟩ I;obtain ⟨bD,rfl⟩:=fR h;rw [List.nil_append] at I ⊢;exact absurd bD bn
  refine aa.eH 42 C (decide_eq_true g5) ?_;rw [decide_eq_true g5,Bool.true_and] at aH;refine d' ?_;refine aa.b0 C C C C C (fX _) I .nil ?_ ?_;rotate_left
  ·rintro _ _ ⟨rfl,h⟩ I
   obtain ⟨aC,rfl⟩:=fS h;rw [List.nil_append] at I ⊢;exact Fin.eM I aR (au.all _) (.inr ⟨rfl,(by rw [cX,aH,show decide (x≤3)=false from aC];rfl),_,_,rfl⟩)
  rintro _ _ ⟨rfl,h⟩ I;obtain ⟨bD,rfl⟩:=fR h;rw [List.nil_append] at I ⊢;rw [show decide (x≤3)=true from bD,Bool.true_and] at aH;refine h8 ?_;exact bX.mk (j+1) I ⟨aG,aH⟩ c7 bM (by show p.eY.length-(j+1)<p.eY.length-j;omega)
 have bk:j=p.eY.length:=by simp at bk;omega
 subst bk;rw [fC (Nat.le_refl _),List.all_nil] at aH;have rS:=aH;rw [aH,if_pos C] at cX;have Uo:=Uc (-1) p.nodes.length g3 ai;have hlen:((p.nodes.map ka).length:Int)=(p.nodes.length:Int):=by rw [List.length_map]
 refine bP ?_;refine aa.b0 C C C C (by rw [List.length_map];rfl) Uo I .nil ?_ (fun _ _ ⟨_,h,_⟩ _=>by cases h);rintro _ _ ⟨b,⟨⟩,rfl⟩ I;rw [List.cons_append,List.nil_append] at I ⊢;refine Hw I ?_;intro I;refine af.cT [0,1,4,5,57,58] C I (σ:=Nat×List Int) (fun q=>[(59,.int .i64 (q.1:Int))]) (fun q=>fy cQ b q.2) (fun q=>q.1≤p.methods.length∧q.2.length=p.nodes.length∧qc p p.methods (List.replicate p.nodes.length (-1))=qc p (p.methods.drop q.1) q.2) (fun q=>p.methods.length-q.1) (0,List.replicate p.nodes.length (-1)) ⟨Nat.zero_le _,List.length_replicate,rfl⟩ (c3 C) (by simp only [fy,List.length_replicate];repeat (first|exact au.nil|(apply au.cons;· repeat (first|exact aP.here|apply aP.there)))) ?_;rintro ⟨j,out⟩ ⟨aS,gC,aH⟩ I
 try simp only at aS gC aH I ⊢
 refine cL ?_;refine af.cond C (fun aG=>?_) (fun bk=>?_)
 ·have aG:j<p.methods.length:=by simpa using aG
  obtain ⟨m,ab,ch⟩:=cD (f:=nC) aG;have gA:=List.mem_of_getElem? ab;rw [drop_cons ab,qc] at aH;have b7:=aN.facts m gA;have zb:=QE (cu p) BU m.fact ai;have gw:=TR (cu p) m.fact.size m.fact (Nat.le_refl _) ai;rw [ax.cO] at zb gw;unfold ax.cells at zb gw;unfold nC uj at ch;refine gP ?_;by_cases lQ:m.kind≥1;rotate_left
  ·refine aa.dR 66 C (decide_eq_false lQ) ?_
   refine cC ?_;refine aa.b0 C C C C C (fX _) I .nil ?_ ?_;rotate_left
   ·rintro _ _ ⟨rfl,h⟩ I
    obtain ⟨aC,rfl⟩:=fS h;rw [List.nil_append] at I ⊢;exact Fin.eM I aR (au.all _) (.inr ⟨rfl,(by rw [cX,aH];simp [sx,lQ]),_,_,rfl⟩)
   rintro _ _ ⟨rfl,h⟩ I;obtain ⟨U,rfl⟩:=fR h;rw [List.nil_append] at I ⊢;exact absurd U bn
  refine aa.eH 66 C (decide_eq_true lQ) ?_;refine d' ?_;by_cases gv:m.kind≤4;rotate_left
  ·refine aa.dR 71 C (decide_eq_false gv) ?_
   refine cC ?_;refine aa.b0 C C C C C (fX _) I .nil ?_ ?_;rotate_left
   ·rintro _ _ ⟨rfl,h⟩ I
    obtain ⟨aC,rfl⟩:=fS h;rw [List.nil_append] at I ⊢;exact Fin.eM I aR (au.all _) (.inr ⟨rfl,(by rw [cX,aH];simp [sx,gv]),_,_,rfl⟩)
   rintro _ _ ⟨rfl,h⟩ I;obtain ⟨U,rfl⟩:=fR h;rw [List.nil_append] at I ⊢;exact absurd U bn
  refine aa.eH 71 C (decide_eq_true gv) ?_;refine d' ?_;by_cases uB:m.gen≥0;rotate_left
  ·refine aa.dR 76 C (decide_eq_false uB) ?_
   refine cC ?_;refine aa.b0 C C C C C (fX _) I .nil ?_ ?_;rotate_left
   ·rintro _ _ ⟨rfl,h⟩ I
    obtain ⟨aC,rfl⟩:=fS h;rw [List.nil_append] at I ⊢;exact Fin.eM I aR (au.all _) (.inr ⟨rfl,(by rw [cX,aH];simp [sx,uB]),_,_,rfl⟩)
   rintro _ _ ⟨rfl,h⟩ I;obtain ⟨U,rfl⟩:=fR h;rw [List.nil_append] at I ⊢;exact absurd U bn
  refine aa.eH 76 C (decide_eq_true uB) ?_;obtain ⟨g,ao⟩:∃ g:Nat,m.gen=g:=⟨m.gen.toNat,by omega⟩;have Up:sx p m=(decide (g<p.eY.length)&&(iQ (cu p) m.fact&&decide (mj m.fact≤p.eY.getD g 0))):=by
   unfold sx;rw [decide_eq_true lQ,decide_eq_true gv,decide_eq_true uB,ao,Int.toNat_natCast];simp
  rw [Up,ao,Int.toNat_natCast] at aH;rw [ao];refine d' ?_;refine aa.b0 C C C C C (fX _) I .nil ?_ ?_;rotate_left
  ·rintro _ _ ⟨rfl,h⟩ I
   obtain ⟨aC,rfl⟩:=fS h;rw [List.nil_append] at I ⊢;exact Fin.eM I aR (au.all _) (.inr ⟨rfl,(by rw [cX,aH,show decide (g<p.eY.length)=false by simpa using aC];rfl),_,_,rfl⟩)
  rintro _ _ ⟨rfl,h⟩ I;obtain ⟨uC,rfl⟩:=fR h;rw [List.nil_append] at I ⊢;have uC:g<p.eY.length:=by simpa using uC
  rw [decide_eq_true uC,Bool.true_and] at aH;obtain ⟨x,zd,Uq⟩:=cD (f:=bg) uC;have nn:p.eY.getD g 0=x:=by rw [List.getD_eq_getElem?_getD,zd];rfl
  have XA:1≤x∧x≤3:=by
   have:=List.all_eq_true.1 rS x (List.mem_of_getElem? zd);simpa using this
  rw [nn] at aH;unfold bg at Uq;cases ba:iQ (cu p) m.fact with
  | false=>
   rw [ba] at zb;simp only [Bool.false_eq_true,if_false] at zb;refine n8 ?_;refine aM.b0 C C C C C C (fX _) I .nil ?_ ?_;rotate_left
   ·rintro _ _ ⟨rfl,h⟩ I
    obtain ⟨aC,rfl⟩:=fS h;rw [List.nil_append] at I ⊢;exact Fin.eM I aR (au.all _) (.inr ⟨rfl,(by rw [cX,aH,ba];rfl),_,_,rfl⟩)
   rintro _ _ ⟨rfl,h⟩ I;obtain ⟨U,rfl⟩:=fR h;rw [List.nil_append] at I ⊢;exact absurd U bn
  | true=>
  rw [ba,if_pos C] at zb;rw [ba,Bool.true_and] at aH;have gw:=gw (uo m.fact (cu p) 12 24 ba);refine n8 ?_;refine aM.b0 C C C C C C (fX _) I .nil ?_ ?_;rotate_left
  ·rintro _ _ ⟨rfl,h⟩ I
   obtain ⟨aC,rfl⟩:=fS h;rw [List.nil_append] at I ⊢;exact Fin.eM I aR (au.all _) (.inr ⟨rfl,(by rw [cX,aH,aC];rfl),_,_,rfl⟩)
  rintro _ _ ⟨rfl,h⟩ I;obtain ⟨Ur,rfl⟩:=fR h;rw [List.nil_append] at I ⊢;rw [Ur,if_pos C] at aH;have s3:=K2 p aN rS cQ b out gC g4 m.node x (yh m.kind) ai;unfold dC at s3;by_cases aD:m.kind=1
  ·rw [aD] at s3 aH ⊢
   refine n8 ?_;refine aM.fO C C C C C C C s3 I (au.all _) ?_ ?_;rotate_left
   ·rintro _ _ ⟨ct,ev,rfl,(⟨h,_⟩|⟨⟨⟩,av⟩)⟩ I
    ·cases h
    rw [av] at aH;exact Fin.eM I aR (au.all _) (.inr ⟨rfl,by rw [cX,aH];rfl,_,_,rfl⟩)
   rintro _ _ ⟨ct,ev,rfl,(⟨⟨⟩,av⟩|⟨h,_⟩)⟩ I;rotate_left
   ·cases h
   rw [av] at aH;rw [List.append_nil] at I ⊢;refine gi ?_;exact bX.mk (j+1,ct) I ⟨aG,ev,aH⟩ c7 (au.all _) rQ
  ·have wj:yh m.kind=decide (m.kind=4):=by unfold yh;rw [decide_eq_false aD];rfl
   rw [wj] at s3 aH;refine n8 ?_;refine aM.split 115 C (fun h=>absurd (of_decide_eq_true h) aD) (fun _=>?_);refine jb ?_;refine aM.fO C C C C C C C s3 I (au.all _) ?_ ?_;rotate_left
   ·rintro _ _ ⟨ct,ev,rfl,(⟨h,_⟩|⟨⟨⟩,av⟩)⟩ I
    ·cases h
    rw [av] at aH;exact Fin.eM I aR (au.all _) (.inr ⟨rfl,by rw [cX,aH];rfl,_,_,rfl⟩)
   rintro _ _ ⟨ct,ev,rfl,(⟨⟨⟩,av⟩|⟨h,_⟩)⟩ I;rotate_left
   ·cases h
   rw [av] at aH;rw [List.append_nil] at I ⊢;refine gi ?_;exact bX.mk (j+1,ct) I ⟨aG,ev,aH⟩ c7 (au.all _) rQ
 have bk:j=p.methods.length:=by simp at bk;omega
 subst bk;rw [fC (Nat.le_refl _),qc] at aH;rw [aH] at cX;have s3:=K2 p aN rS cQ b out gC g4 p.main 0 false ai;unfold dC at s3;refine bP ?_;refine aa.fO C C C C C C s3 I (au.all _) ?_ ?_;rotate_left
 ·rintro _ _ ⟨ct,ev,rfl,(⟨h,_⟩|⟨⟨⟩,av⟩)⟩ I
  ·cases h
  exact Fin.eM I aR (au.all _) (.inr ⟨rfl,by rw [cX];show (visitM p false 12 p.main 0 out).bind _=none;rw [av];rfl,_,_,rfl⟩)
 rintro _ _ ⟨ct,ev,rfl,(⟨⟨⟩,av⟩|⟨h,_⟩)⟩ I;rotate_left
 ·cases h
 have cX:nG p=if ct.contains (-1) then none else some ct:=by
  rw [cX];show (visitM p false 12 p.main 0 out).bind _=_;rw [av];rfl
 rw [List.append_nil] at I ⊢;have BV:=Jq b ct.length ct [] (-1) ai;unfold sI at BV;rw [List.append_nil] at BV;unfold fy at I;refine cn I ?_;intro I;refine aa.b0 rfl rfl rfl rfl rfl BV I bM ?_ (fun _ _ ⟨h,_⟩ _=>by cases h);rintro _ _ ⟨⟨⟩,rfl⟩ I;simp only [List.cons_append,List.nil_append] at I ⊢;refine d' ?_;refine aa.b0 C C C C C (fX _) I .nil ?_ ?_;rotate_left
 ·rintro _ _ ⟨rfl,h⟩ I
  obtain ⟨aC,rfl⟩:=fS h;rw [List.nil_append] at I ⊢;exact Fin.eM I aR (.cons (.there .here) (.cons .here .nil)) (.inr ⟨rfl,by rw [cX,show ct.contains (-1)=true by simpa using aC];rfl,_,_,rfl⟩)
 rintro _ _ ⟨rfl,h⟩ I;obtain ⟨U,rfl⟩:=fR h;rw [List.nil_append] at I ⊢;rw [show ct.contains (-1)=false by simpa using U,if_neg bn] at cX;refine hv ?_;exact Fin.bH I C aR (.cons (.there .here) (.cons .here .nil)) (.inl ⟨rfl,b,ct,ev,cX,rfl⟩);done
end Go.Proofs.YtnafpeohfbglmaaGreat
namespace Go.Proofs.YtnafpeohfbglmaaGreat
open Go.bj Go.bY
def Us (p:b9) (o:eb) (K:a6):Prop:=
 (∃ b out,out.length=p.nodes.length∧nG p=some out∧o = .ret (.cl [dG b out.length out.length,.bool true])∧K=[(.own b,.box 3 (out.map bg))])∨(nG p=none∧(∃ v,o = .ret (.cl [v,.bool false]))∧K=[])
theorem Ut (p:b9) (aN:gS p):bu Tryz.prog 187 [ee p] ([]) (Us p):=by
 have an:=bQ;refine bu.bp ak call187 Tryz.func187 C C fun s I=>?_
 unfold ee dC
 repeat (first|(refine Dp ?_)|refine aa.dE ak I C C C C C C C (fun cv I=>?_))
 have ba:=T7 221 [] [.bq (dC p) 0,.ptr cv 0] [(.own cv,.box 23 [.aA 0 [] .nil])] (fun K=>∃ b out,out.length=p.nodes.length∧nG p=some out∧K=fy cv b out) (fun K=>nG p=none∧∃ v R,K=(.own cv,.box 23 [v])::R) (c2.mono (Ul p aN cv (.aA 0 [] .nil)) (fun o K h=>by
  rcases h with ⟨U,b,out,ae,al,bl⟩|⟨U,ae,al⟩
  ·exact .inl ⟨U,b,out,ae,al,bl⟩
  ·exact .inr ⟨U,ae,al⟩))
 unfold dC at ba;refine aa.b0 C C C C C ba I bM ?_ ?_;rotate_left
 ·rintro x aL (⟨h,_⟩|⟨h,_⟩) I
  ·cases h
  ·cases h
 rintro x aL (⟨⟨⟩,b,out,aI,jg,rfl⟩|⟨⟨⟩,jg,v,R,rfl⟩) I
 ·unfold fy at I ⊢
  simp only [List.cons_append,List.nil_append,List.append_nil] at I ⊢;refine cn I ?_;intro I;exact Fin.bH I C aR (.cons (.there .here) .nil) (.inl ⟨b,out,aI,jg,rfl,rfl⟩)
 ·simp only [List.cons_append,List.nil_append,List.append_nil] at I ⊢
  refine cn I ?_;intro I;exact Fin.bH I C aR .nil (.inr ⟨jg,⟨v,rfl⟩,rfl⟩)
theorem Uu (p:b9) (aN:gS p):a7 Tryz.prog 146 [ee p] (.int .i64 (if hg p then 0 else 2)):=by
 have an:=bQ;refine a7.bp ak call146 Tryz.func146 C C fun s I=>?_
 have bE:=Ut p aN;unfold ee dC at *;unfold hg;refine dF ?_;refine aa.b0 C C C C C bE I .nil ?_ ?_;rotate_left
 ·rintro x aL (⟨b,out,_,_,h,_⟩|⟨_,⟨v,h⟩,_⟩) I
  ·cases h
  ·cases h
 rintro x aL (⟨b,out,_,jg,⟨⟩,rfl⟩|⟨jg,⟨v,⟨⟩⟩,rfl⟩) I
 ·rw [jg]
  refine bP ?_;exact bA I
 ·rw [jg]
  refine cC ?_;exact bA I
def K4:ad := .agg [.aA 0 [] .nil,.aA 0 [] .nil]
theorem Uv {p:b9} (h:hg p=true):rD p=true:=by
 unfold hg nG at h;cases aE:rD p with
 | true=>rfl
 | false=>rw [aE,Bool.false_and] at h;cases h
theorem ze {p:b9} (h:hg p=true):kc (cu p):=IB (Uv h)
theorem FE (p:b9) (aN:gS p):a7 Tryz.prog 100 [ee p] (.cl [if hg p then iR (cu p) else K4,.int .i64 (if hg p then 0 else 2)]):=by
 have an:=bQ;refine a7.bp ak call100 Tryz.func100 C C fun s I=>?_
 have aE:=Uu p aN;have hw:=KI p aN;unfold ee dC at *;cases eD:hg p with
 | false=>
  rw [eD] at aE;unfold K4
  repeat (first|(refine OX I ?_;clear I;intro I)|refine aa.dE ak I rfl rfl rfl rfl rfl rfl rfl (fun cv I=>?_)|(refine nw ?_))
  exact Fin.dT I (xY C C (aP.get a1 I) C C) aR
 | true=>
  rw [eD] at aE;have XB:(hz 0 p.dH).length≤40:=(ze eD).bx;have hw:=hw ai;unfold iR hf at *
  repeat (first|(refine OY I ?_;clear I;intro I)|refine aa.dE ak I rfl rfl rfl rfl rfl rfl rfl (fun cv I=>?_)|(refine nw ?_))
  exact Fin.dT I (xY C C (aP.get a1 I) C C) aR
end Go.Proofs.YtnafpeohfbglmaaGreat
namespace Go.bY
mutual
theorem K5:∀ (f:ax) (w:bT) (d:Nat) (k:Int),(eX w d k f).1=true→0≤(eX w d k f).2∧((lj f).length:Int)+(eX w d k f).2≤k
  | .mk o a p c n ks,w,d,k,h=>by
    rw [eX] at h ⊢;split at h
    · cases h
    · rename_i aD
      rw [if_neg aD];split at h
      · rename_i aC
        rw [if_pos aC];have kV:0≤k-1:=by
          simp only [Bool.or_eq_true,decide_eq_true_eq,not_or] at aD;omega
        obtain ⟨U,ae⟩:=K6 ks w (d-1) (k-1) kV h;refine ⟨U,?_⟩;rw [lj];split
        · simp only [List.length_cons,List.length_nil];omega
        · omega
      · cases h
theorem K6:∀ (l:List ax) (w:bT) (d:Nat) (k:Int),0≤k→(hd w d k l).1=true→0≤(hd w d k l).2∧((nN l).length:Int)+(hd w d k l).2≤k
  | [],_,_,_,aD,_=>by rw [hd,nN];exact ⟨aD,by simp⟩
  | x::r,w,d,k,aD,h=>by
    rw [hd] at h ⊢;split at h
    · rename_i ab
      rw [if_pos ab,nN,List.length_append];obtain ⟨U,ae⟩:=K5 x w d k ab;obtain ⟨al,bl⟩:=K6 r w d _ U h;exact ⟨al,by push_cast;omega⟩
    · cases h
end
theorem K7 {w:bT} {f:ax} (h:iQ w f=true):(lj f).length≤24:=by
 have:=K5 f w 12 24 h;omega
mutual
theorem FF:∀ (f:ax) (w:bT),hy w f=true→∀ x∈lj f,hy w x=true∧x.du=true
  | .mk o a p c n ks,w,h,x,ab=>by
    rw [lj] at ab;split at ab
    · rename_i aI
      rw [List.mem_singleton] at ab;subst ab;exact ⟨h,aI⟩
    · rw [hy,Bool.and_eq_true] at h
      exact K8 ks w h.2 x ab
theorem K8:∀ (l:List ax) (w:bT),oe w l=true→∀ x∈nN l,hy w x=true∧x.du=true
  | [],_,_,x,ab=>by cases ab
  | y::r,w,h,x,ab=>by
    rw [oe,Bool.and_eq_true] at h;rw [nN] at ab;rcases List.mem_append.1 ab with ab|ab
    · exact FF y w h.1 x ab
    · exact K8 r w h.2 x ab
end
theorem s4 {w:bT} {f:ax} (h:hy w f=true) (aI:f.du=true):f.path.length≤2:=by
 rw [rA,Bool.and_eq_true] at h;have h:=h.1;unfold iE at h;rw [aI] at h;simp only [Bool.and_eq_true,if_true,decide_eq_true_eq] at h;exact h.2.2.2.2.2.1
theorem Uw (l:List ax) (f:ax):(jj l f).length≤l.length+1:=by
 unfold jj;split
 ·omega
 ·simp
theorem Ux {l:List ax} {f x:ax} (h:x∈jj l f):x∈l∨x=f:=by
 unfold jj at h;split at h
 ·exact .inl h
 ·rcases List.mem_append.1 h with h|h
  ·exact .inl h
  ·exact .inr (List.mem_singleton.1 h)
theorem K9 {p:b9}:∀ {l:List kC} {out o:List Int},qc p l out=some o→∀ m∈l,sx p m=true
  | x::r,out,o,h,m,hm=>by
    rw [qc] at h;split at h
    · rename_i ab
      cases av:visitM p (yh x.kind) 12 x.node (p.eY.getD x.gen.toNat 0) out with
      | none=>rw [av] at h;cases h
      | some ct=>
        rw [av] at h;rcases List.mem_cons.1 hm with rfl|hm
        · exact ab
        · exact K9 (l:=r) h m hm
    · cases h
theorem K' {p:b9} (h:hg p=true):rD p=true∧rE p=true∧∃ o,qc p p.methods (List.replicate p.nodes.length (-1))=some o:=by
 unfold hg nG at h;split at h
 ·rename_i aE
  rw [Bool.and_eq_true] at aE;refine ⟨aE.1,aE.2,?_⟩;cases hm:qc p p.methods (List.replicate p.nodes.length (-1)) with
  | none=>rw [hm] at h;cases h
  | some o=>exact ⟨o,rfl⟩
 ·cases h
theorem FG {p:b9} (h:hg p=true) {m:kC} (hm:m∈p.methods):iQ (cu p) m.fact=true:=by
 obtain ⟨-,-,o,ag⟩:=K' h;have:=K9 ag m hm;unfold sx at this;simp only [Bool.and_eq_true] at this;exact this.2.2.2.2.1
theorem wX {p:b9} (h:hg p=true):p.methods.length≤16∧p.eY.length≤8:=by
 obtain ⟨-,aI,-⟩:=K' h;unfold rE at aI;simp only [Bool.and_eq_true,decide_eq_true_eq] at aI;exact ⟨aI.2.1,aI.1⟩
def iV (w:bT) (l:List ax):Prop:=∀ x∈l,hy w x=true∧x.du=true
theorem La {w:bT} (gen:Int):∀ (cP l:List ax),iV w l→iV w cP→iV w (cP.foldl jj l)∧(cP.foldl jj l).length≤l.length+cP.length
  | [],l,h,_=>⟨h,Nat.le_refl _⟩
  | x::r,l,h,aV=>by
    have U:iV w (jj l x):=fun y ay=>by
      rcases Ux ay with ay|rfl
      · exact h y ay
      · exact aV _ List.mem_cons_self
    obtain ⟨ae,al⟩:=La (w:=w) gen r (jj l x) U (fun y ay=>aV y (List.mem_cons_of_mem _ ay));have:=Uw l x;exact ⟨ae,by rw [List.foldl_cons,List.length_cons];omega⟩
theorem Lb {p:b9} (aN:hg p=true) (gen:Int):∀ (ms:List kC) (l:List ax),(∀ m∈ms,m∈p.methods)→iV (cu p) l→iV (cu p) (ms.foldl (kM gen) l)∧(ms.foldl (kM gen) l).length≤l.length+24*ms.length
  | [],l,_,h=>⟨h,Nat.le_refl _⟩
  | m::r,l,hm,h=>by
    have ba:=FG aN (hm m List.mem_cons_self);have U:iV (cu p) (kM gen l m)∧(kM gen l m).length≤l.length+24:=by
      unfold kM;split
      · obtain ⟨ae,al⟩:=La (w:=cu p) gen (lj m.fact) l h (FF m.fact _ (uo _ _ _ _ ba))
        have:=K7 ba;exact ⟨ae,by omega⟩
      · exact ⟨h,by omega⟩
    obtain ⟨bl,bD⟩:=Lb aN gen r (kM gen l m) (fun x ab=>hm x (List.mem_cons_of_mem _ ab)) U.1;exact ⟨bl,by rw [List.foldl_cons,List.length_cons];omega⟩
theorem Uy {p:b9} (aN:hg p=true) (gen:Int):iV (cu p) (cI p gen)∧(cI p gen).length≤384:=by
 obtain ⟨U,ae⟩:=Lb aN gen p.methods [] (fun _ h=>h) (fun _ h=>by cases h);have:=(wX aN).1;exact ⟨U,by unfold cI;simp only [List.length_nil] at ae;omega⟩
end Go.bY
namespace Go.Proofs.YtnafpeohfbglmaaGreat
open Go.bj Go.bY
def dx (p:b9) (n:Int) (cP vs:ad) (an cm:Nat):List ad:=[.aA 3 (p.dH.map jf) .bd,.int .i64 p.bx,bI p.eY,.aA 9 (p.methods.map nC) .bd,.aA 3 (p.nodes.map ka) .bd,.int .i64 p.main,.int .i64 n,gb (cu p).bK,bI (cu p).owner,cP,vs,.map an,.map cm]
def my (p:b9) (n:Int) (cd an cm:Nat) (bw:wC) (l:List ax):a6:=(.own cd,.box 110 (dx p n (pw bw l) (.aA 0 [] .nil) an cm))::(.own an,.map [])::(.own cm,.map [])::oy bw
def c8 (l:List ax):ad := .aA 6 (l.map ax.cj) .bd
def Uz (p:b9) (n:Int) (o:eb) (K:a6):Prop:=
 (e3 p n=0∧∃ cd an cm,o = .ret (.cl [.ptr cd 0,.int .i64 0])∧K=[(.own cd,.box 110 (dx p n (c8 (cI p n)) (.aA 0 [] .nil) an cm)),(.own an,.map []),(.own cm,.map [])]) ∨
 (e3 p n≠0∧(∃ v,o = .ret (.cl [v,.int .i64 (e3 p n)]))∧K=[])
theorem Lc {cs:List ad} {l:List ax} {x:ax} {zc:List ad} (bE:zc.length=6) (h:cs.take ((l.length+1)*6)=(l.map ax.cells).flatten++zc) :
  (eg (l.length*6) x.cells cs).length=cs.length∧(eg (l.length*6) x.cells cs).take ((l.length+1)*6)=(l.map ax.cells).flatten++x.cells:=by
 have U:=JS (sz:=6) (cs:=cs) (xss:=l.map ax.cells++[zc]) (n:=l.length+1) (j:=l.length) (ys:=zc) (ys':=x.cells) (fun c aE=>by
  rcases List.mem_append.1 aE with aE|aE
  ·exact EI l c aE
  ·rw [List.mem_singleton.1 aE];exact bE) (by rw [h];simp) (by rw [List.getElem?_append_right bn];simp) C
 refine ⟨U.1,U.2.trans ?_⟩;rw [List.set_append_right _ _ bn];simp
theorem zf (p:b9) (aN:gS p) (n:Int):bu Tryz.prog 58 [ee p,.int .i64 n] [] (Uz p n):=by
 have an:=bQ;have hw:=FE p aN;have jc:=aN.eY;have gQ:=aN.BL;have eu:e3 p n=e3 p n:=rfl
 conv at eu=>rhs;unfold e3
 refine bu.bp ak call58 Tryz.func58 C C fun s I=>?_
 unfold ee dC at *;cases eD:hg p with
 | false=>
  rw [eD] at hw;simp only [Bool.false_eq_true,if_false] at hw;rw [eD,Bool.false_and,if_neg bn] at eu;refine gP ?_;exact Fin.bH I C aR .nil (.inr ⟨by omega,⟨_,by rw [eu]⟩,rfl⟩)
 | true=>
 rw [eD,if_pos C,if_pos C] at hw;rw [eD,Bool.true_and] at eu;have FH:rJ p n=(decide (n≥0)&&decide (n<(p.eY.length:Int))):=rfl;obtain ⟨wY,UA⟩:=wX eD;refine gP ?_;by_cases vt:n<0
 ·refine aa.eH 23 C (decide_eq_true vt) ?_
  rw [FH,show decide (n≥0)=false by simp;omega,Bool.false_and,if_neg bn] at eu;refine cC ?_;exact Fin.bH I C aR .nil (.inr ⟨by omega,⟨_,by rw [eu]⟩,rfl⟩)
 refine aa.dR 23 C (decide_eq_false vt) ?_;refine hv ?_;refine af.cond C (fun tm=>?_) (fun tm=>?_)
 ·rw [FH,show decide (n<(p.eY.length:Int))=false by simp [bI] at tm ⊢;omega,Bool.and_false,if_neg bn] at eu
  refine j' ?_;exact Fin.bH I C aR .nil (.inr ⟨by omega,⟨_,by rw [eu]⟩,rfl⟩)
 rw [FH,show decide (n<(p.eY.length:Int))=true by simp [bI] at tm ⊢;omega,show decide (n≥0)=true by simp;omega,if_pos (by rfl)] at eu;refine fA ?_;refine aa.pZ I C C C C (fun dz I=>?_);refine aa.pZ I C C C C (fun cm I=>?_);refine cG C ?_;refine aa.iM I C C C C C C (fun cd I=>?_);refine gP ?_;refine af.cT [1,8,38,39] C I (σ:=Nat×wC×List ax) (fun q=>[(40,.int .i64 (q.1:Int))]) (fun q=>my p n cd dz cm q.2.1 q.2.2)
  (fun q=>q.1≤p.methods.length∧EH q.2.1 q.2.2∧iV (cu p) q.2.2∧q.2.2.length≤24*q.1∧cI p n=(p.methods.drop q.1).foldl (kM n) q.2.2) (fun q=>p.methods.length-q.1) (0,none,[])
  ⟨Nat.zero_le _,rfl,(fun x h=>absurd h List.not_mem_nil:iV (cu p) []),Nat.zero_le _,rfl⟩ (c3 C) (by simp only [my,oy,dx,pw];repeat (first|exact au.nil|(apply au.cons;· repeat (first|exact aP.here|apply aP.there)))) ?_
 rintro ⟨j,bw,l⟩ ⟨aS,dy,cU,qe,aH⟩ I
 try simp only at aS dy cU qe aH I ⊢
 refine cL ?_;refine af.cond C (fun aG=>?_) (fun bk=>?_);rotate_left
 ·have bk:j=p.methods.length:=by simp at bk;omega
  rw [fC ai,List.foldl_nil] at aH;subst aH;unfold my at I ⊢;rcases bw with _|⟨g,cap,cs⟩
  ·have bB:cI p n=[]:=dy
   have h0:c8 (cI p n) = .aA 6 [] .bd:=by rw [bB];rfl
   refine af.py I (dx p n (c8 (cI p n)) (.aA 0 [] .nil) dz cm) .here (by
    rw [h0];unfold dx
    repeat (first|exact cA.nil|refine cA.cons (by first|exact aR|exact a8.empty) ?_)) (fun I=>?_)
   unfold c8 at I ⊢;refine cn I ?_;intro I;refine af.cond C (fun hF=>?_) (fun hF=>?_)
   ·have hF:¬ (cI p n).length≤7:=by simp [bB] at hF ⊢ <;> omega
    rw [if_neg hF] at eu;refine j' ?_;exact Fin.bH I C aR .nil (.inr ⟨by omega,⟨_,by rw [eu]⟩,rfl⟩)
   ·have hF:(cI p n).length≤7:=by simp [bB] at hF ⊢ <;> omega
    rw [if_pos hF] at eu;refine bP ?_;exact Fin.bH I C aR (by simp only [dx];repeat (first|exact au.nil|(apply au.cons;· repeat (first|exact aP.here|apply aP.there)))) (.inl ⟨eu,cd,dz,cm,rfl,rfl⟩)
  ·obtain ⟨lD,lr,zg⟩:=dy
   unfold oy dx pw at I ⊢;refine af.yP I 9 .here (.there (.there .here)) C zg (List.length_map _) (EI _) lr ai (fun I=>?_);have h0:((cI p n).map ax.cells).map ad.agg=(cI p n).map ax.cj:=by
    rw [List.map_map];exact List.map_congr_left (fun x _=>(ax.cO x).symm)
   rw [h0] at I ⊢
   try unfold c8 at I
   refine cn I ?_;intro I;refine af.cond C (fun hF=>?_) (fun hF=>?_)
   ·have hF:¬ (cI p n).length≤7:=by simp [Nat.not_le] at hF ⊢ <;> omega
    rw [if_neg hF] at eu;refine j' ?_;exact Fin.bH I C aR .nil (.inr ⟨by omega,⟨_,by rw [eu]⟩,rfl⟩)
   ·have hF:(cI p n).length≤7:=by simp [Nat.not_le] at hF ⊢ <;> omega
    rw [if_pos hF] at eu;refine bP ?_;exact Fin.bH I C aR (by simp only [dx];repeat (first|exact au.nil|(apply au.cons;· repeat (first|exact aP.here|apply aP.there)))) (.inl ⟨eu,cd,dz,cm,rfl,rfl⟩)
 have aG:j<p.methods.length:=by simpa using aG
 obtain ⟨m,ab,ch⟩:=cD (f:=nC) aG;have gA:=List.mem_of_getElem? ab;have b7:=aN.facts m gA;have wZ:=FG eD gA;have nn:=uo _ _ _ _ wZ;have sD:=K7 wZ;have FI:=FF m.fact _ nn;have w0:=R9 m.fact;have mL:=R8 m.fact ai;rw [ax.cO] at w0;unfold ax.cells at w0 mL;rw [drop_cons ab,List.foldl_cons] at aH;unfold nC uj at ch;refine gP ?_;refine af.cond C (fun ao=>?_) (fun ao=>?_)
 ·have ao:m.gen≠n:=by simpa using ao
  rw [show kM n l m=l by unfold kM;rw [if_neg ao]] at aH;refine fJ ?_;exact bX.mk (j+1,bw,l) I ⟨aG,dy,cU,by show l.length≤24*(j+1);omega,aH⟩ c7 (au.all _) rQ
 have ao:m.gen=n:=by simpa using ao
 rw [show kM n l m=(lj m.fact).foldl jj l by unfold kM;rw [if_pos ao]] at aH;refine cH ?_;refine af.Dx I C dd mL .nil (fun rem K=>∃ pA fl,EH pA fl∧iV (cu p) fl∧fl.length+rem.length≤24*(j+1)∧(∀ x∈rem,hy (cu p) x=true∧x.du=true)∧(lj m.fact).foldl jj l=rem.foldl jj fl∧K=my p n cd dz cm pA fl) (fun _ _=>False) (fun _ _=>False) ⟨bw,l,dy,cU,by omega,FI,rfl,rfl⟩ ?_ ?_ (fun _ _ h=>h.elim) (fun _ _ h=>h.elim);rotate_left
 ·rintro K ⟨pA,fl,sU,FI,ev,-,jB,rfl⟩ I
  rw [jB,List.foldl_nil] at aH;refine gi ?_;exact bX.mk (j+1,pA,fl) I ⟨aG,sU,FI,by show fl.length≤24*(j+1);simpa using ev,aH⟩ c7 (au.all _) rQ
 rintro s₁ x rem K ⟨pA,fl,sU,BW,ev,oC,jB,rfl⟩ I;have FJ:=oC x List.mem_cons_self;have XC:=s4 FJ.1 FJ.2;have zh:=fun f11=>Sf pA fl ai sU f11 x ai (fun y ay=>by have:=s4 (BW y ay).1 (BW y ay).2;omega)
 rw [List.foldl_cons] at jB;rw [ax.cO];unfold ax.cells;have cE:=yk x.path .bd ai;have zi:jj fl x=if fl.any (fun y=>fW y x) then fl else fl++[x]:=rfl
 have BX:iV (cu p) (fl++[x]):=fun y ay=>by
  rcases List.mem_append.1 ay with ay|ay
  ·exact BW y ay
  ·rw [List.mem_singleton.1 ay];exact FJ
 have BY:(fl++[x]).length+rem.length≤24*(j+1):=by
  simp only [List.length_cons,List.length_append,List.length_nil] at ev ⊢;omega
 have l9:(fl++[x]).map ax.cells=fl.map ax.cells++[x.cells]:=by simp
 have BZ:((fl++[x]).map ax.cells).flatten=(fl.map ax.cells).flatten++x.cells:=by rw [l9];simp
 have rT:(fl++[x]).length=fl.length+1:=by simp
 unfold my at I ⊢;rcases pA with _|⟨g,cap,cs⟩
 all_goals
  simp only [oy,pw,mY,ax.cells] at zh;simp only [oy,pw,dx] at I ⊢
 ·have bB:fl=[]:=sU
  subst bB
  repeat (first|(refine Dq I ?_;clear I;intro I)|refine aa.dE ak I rfl rfl rfl rfl rfl rfl rfl (fun cv I=>?_))
  refine aa.b0 rfl rfl rfl rfl rfl (zh cv) I bM ?_ (fun _ _ ⟨h,_⟩ _=>by cases h);rintro _ _ ⟨⟨⟩,rfl⟩ I;simp only [List.nil_append,List.cons_append] at I ⊢;have pJ:([]:List ax).any (fun y=>fW y x)=false:=rfl;refine cn I ?_;intro I;refine af.re ak mixed C (bf.run C ?_);refine bf.dE 0 ak I C C C C C C C C C (fun UB I=>?_);refine bf.run C ?_;refine bf.many C (gO.c (ja.Ax (i:=1) C C C (aU.cF ak I C C C C C C C a1 C (X:=fun _ _=>False)) ?_ (fun _ _ h=>False.elim h)) (gO.c (ja.Ax (i:=2) C C C (aU.cF ak I C C C C C C C a1 C (X:=fun _ _=>False)) ?_ (fun _ _ h=>False.elim h)) gO.n))
  ·rintro _ _ ⟨rfl,I⟩
   refine bf.run C ?_;refine bf.cF 2 ak I C C C C C C C C C C C a1 b3 (fun I=>?_);refine bf.run C ?_;refine bf.dS 3 ak I C C C C C C C C a1 b3 ?_;refine bf.run C ?_;refine bf.done C ?_;refine tX ?_;refine af.o3 (di [(cd,_),(cv,_)]) ak mixed C (bm.run (di.two (aP.get a1 I) (aP.get a1 I)) C ?_);refine bm.mI 4 ak (di.two (aP.get a1 I) (aP.get a1 I)) C C C C C C C C (fun _ h=>di.fst h) b3 ?_;refine bm.mI 5 ak (di.two (aP.get a1 I) (aP.get a1 I)) C C C C C C C C (fun _ h=>di.snd h) b3 ?_;refine bm.run (di.two (aP.get a1 I) (aP.get a1 I)) C ?_;refine bm.ow 7 ak I C C C C C C C C C eQ C C C C C C C dd (fun dk eI eA I _=>(di.two (aP.get a1 I) (aP.get a1 I))) (fun dk eI eA cr cJ dW I=>?_);refine bm.run (di.two (aP.get a1 I) (aP.get a1 I)) C ?_;refine bm.cF 10 ak I C C C C C C C C C C C a1 b3 (fun _ => .inr C) (fun I=>?_);refine bf.done C ?_;refine gi ?_;exact At.mk (my p n cd dz cm (some (dk,eI,eA)) ([]++[x])) I (by simp only [my,oy,pw,dx,rT];repeat (first|exact au.nil|(apply au.cons;· repeat (first|exact aP.here|apply aP.there)))) ⟨some (dk,eI,eA),[]++[x],⟨cr,ot,by rw [BZ];exact dW⟩,BX,BY,fun y ay=>oC y (List.mem_cons_of_mem _ ay),by rw [jB,zi,pJ];rfl,rfl⟩
  ·rintro _ _ ⟨rfl,I⟩
   refine bf.run C ?_;refine bf.cF 1 ak I C C C C C C C C C C C a1 b3 (fun I=>?_);refine bf.run C ?_;refine bf.dS 3 ak I C C C C C C C C a1 b3 ?_;refine bf.run C ?_;refine bf.done C ?_;refine cn I ?_;intro I;refine aa.Bl ak C C C C C C C C C C ?_;refine aa.ow ak I C C C C C C C eQ C C C C C C C dd (fun dk eI eA cr cJ dW I=>?_);refine cn I ?_;intro I;refine aa.e7 ak ([]:List ax).length C C C C C C C C C C bn ?_;refine aa.kF ak I _ C C C C C C C C C a1 (by rw [cr];show ([]:List ax).length*6+6≤eI*6;simp only [List.length_nil] at *;omega) C (fun I=>?_);obtain ⟨b8,bZ⟩:=Lc (x:=x) (l:=([]:List ax)) (cs:=eA) (zc:=_) rfl dW;refine h8 ?_;exact At.mk (my p n cd dz cm (some (dk,eI,(eg (([]:List ax).length*6) x.cells eA))) ([]++[x])) I (by simp only [my,oy,pw,dx,rT];repeat (first|exact au.nil|(apply au.cons;· repeat (first|exact aP.here|apply aP.there)))) ⟨some (dk,eI,(eg (([]:List ax).length*6) x.cells eA)),[]++[x],⟨b8.trans cr,ot,by rw [BZ];exact bZ⟩,BX,BY,fun y ay=>oC y (List.mem_cons_of_mem _ ay),by rw [jB,zi,pJ];rfl,rfl⟩
 ·obtain ⟨lD,lr,zg⟩:=sU
  repeat (first|(refine Dq I ?_;clear I;intro I)|refine aa.dE ak I rfl rfl rfl rfl rfl rfl rfl (fun cv I=>?_))
  refine aa.b0 rfl rfl rfl rfl rfl (zh cv) I bM ?_ (fun _ _ ⟨h,_⟩ _=>by cases h);rintro _ _ ⟨⟨⟩,rfl⟩ I;simp only [List.nil_append,List.cons_append] at I ⊢;cases pJ:fl.any (fun y=>fW y x) with
  | true=>
   refine bP ?_;exact At.mk (my p n cd dz cm (some (g,cap,cs)) fl) I (by simp only [my,oy,pw,dx];repeat (first|exact au.nil|(apply au.cons;· repeat (first|exact aP.here|apply aP.there)))) ⟨some (g,cap,cs),fl,⟨lD,lr,zg⟩,BW,by simp only [List.length_cons] at ev;omega,fun y ay=>oC y (List.mem_cons_of_mem _ ay),by rw [jB,zi,pJ];rfl,rfl⟩
  | false=>
  refine cn I ?_;intro I;refine af.re ak mixed C (bf.run C ?_);refine bf.dE 0 ak I C C C C C C C C C (fun UB I=>?_);refine bf.run C ?_;refine bf.many C (gO.c (ja.Ax (i:=1) C C C (aU.cF ak I C C C C C C C a1 C (X:=fun _ _=>False)) ?_ (fun _ _ h=>False.elim h)) (gO.c (ja.Ax (i:=2) C C C (aU.cF ak I C C C C C C C a1 C (X:=fun _ _=>False)) ?_ (fun _ _ h=>False.elim h)) gO.n))
  ·rintro _ _ ⟨rfl,I⟩
   refine bf.run C ?_;refine bf.cF 2 ak I C C C C C C C C C C C a1 b3 (fun I=>?_);refine bf.run C ?_;refine bf.dS 3 ak I C C C C C C C C a1 b3 ?_;refine bf.run C ?_;refine bf.done C ?_;refine tX ?_;refine af.o3 (di [(cd,_),(cv,_)]) ak mixed C (bm.run (di.two (aP.get a1 I) (aP.get a1 I)) C ?_);refine bm.mI 4 ak (di.two (aP.get a1 I) (aP.get a1 I)) C C C C C C C C (fun _ h=>di.fst h) b3 ?_;refine bm.mI 5 ak (di.two (aP.get a1 I) (aP.get a1 I)) C C C C C C C C (fun _ h=>di.snd h) b3 ?_;refine bm.run (di.two (aP.get a1 I) (aP.get a1 I)) C ?_;refine bm.ox 7 ak I C C C C C C C C C eQ C C C C a1 lD lr C C C C (by show (_+1)*80≤_;omega) ai (fun dk eI eA I _=>(di.two (aP.get a1 I) (aP.get a1 I))) (fun dk eI eA cr cJ dW I=>?_);refine bm.run (di.two (aP.get a1 I) (aP.get a1 I)) C ?_;refine bm.cF 10 ak I C C C C C C C C C C C a1 b3 (fun _ => .inr C) (fun I=>?_);refine bf.done C ?_;refine gi ?_;exact At.mk (my p n cd dz cm (some (dk,eI,eA)) (fl++[x])) I (by simp only [my,oy,pw,dx,rT];repeat (first|exact au.nil|(apply au.cons;· repeat (first|exact aP.here|apply aP.there)))) ⟨some (dk,eI,eA),fl++[x],⟨by rw [rT] at *;exact cr,by rw [rT];exact cJ,by rw [BZ,rT,← zg];exact dW⟩,BX,BY,fun y ay=>oC y (List.mem_cons_of_mem _ ay),by rw [jB,zi,pJ];rfl,rfl⟩
  ·rintro _ _ ⟨rfl,I⟩
   refine bf.run C ?_;refine bf.cF 1 ak I C C C C C C C C C C C a1 b3 (fun I=>?_);refine bf.run C ?_;refine bf.dS 3 ak I C C C C C C C C a1 b3 ?_;refine bf.run C ?_;refine bf.done C ?_;refine cn I ?_;intro I;refine aa.sm ak C C C C C C C ?_;skip;refine aa.Bl ak C C C C C C C C C C ?_;refine aa.ox ak I C C C C C C C eQ C C C C a1 lD lr C C C C (by show (_+1)*80≤_;omega) ai (fun dk eI eA cr cJ dW I=>?_);refine cn I ?_;intro I;refine aa.e7 ak fl.length C C C C C C C C C C bn ?_;refine aa.kF ak I _ C C C C C C C C C a1 (by rw [cr];show fl.length*6+6≤eI*6;simp only [List.length_nil] at *;omega) C (fun I=>?_);obtain ⟨b8,bZ⟩:=Lc (x:=x) (l:=fl) (cs:=eA) (zc:=_) rfl (by rw [← zg];exact dW);refine h8 ?_;exact At.mk (my p n cd dz cm (some (dk,eI,(eg (fl.length*6) x.cells eA))) (fl++[x])) I (by simp only [my,oy,pw,dx,rT];repeat (first|exact au.nil|(apply au.cons;· repeat (first|exact aP.here|apply aP.there)))) ⟨some (dk,eI,(eg (fl.length*6) x.cells eA)),fl++[x],⟨b8.trans cr,by rw [rT];exact cJ,by rw [BZ,rT];exact bZ⟩,BX,BY,fun y ay=>oC y (List.mem_cons_of_mem _ ay),by rw [jB,zi,pJ];rfl,rfl⟩
end Go.Proofs.YtnafpeohfbglmaaGreat
namespace Go.Proofs.YtnafpeohfbglmaaGreat
open Go.bj Go.bY
def dI (p:b9) (n:Int) (cP vs:ad) (an cm cd:Nat):bU×db:=(.own cd,.box 110 (dx p n cP vs an cm))
theorem UC (x f:ax) (ab:x.path.length<bt) (ba:f.path.length<bt):dM Tryz.prog (.func 175 [] [.bq f.cells 0]) [x.cj] (.bool (fW x f)):=by
 have U:=IM x f ab ba;have U:a7 Tryz.prog 104 [x.cj,f.cj] (.bool (fW x f)):=U;refine dM.eP (first:=[]) (cap:=[.bq f.cells 0]) ?_;refine a7.bp ak call175 Tryz.func175 C C fun s I=>?_
 rw [ax.cO,ax.cO] at U;rw [ax.cO];unfold ax.cells at *;refine cy ?_;exact bA I
def zj (l:List ax) (f:ax):Prop:=∀ x∈lj f,l.any (fun y=>fW y x)=true
theorem Ld:∀ {ks:List ax} {k x:ax},k∈ks→x∈lj k→x∈nN ks
  | y::r,k,x,h,ab=>by
    rw [nN];rcases List.mem_cons.1 h with rfl|h
    · exact List.mem_append_left _ ab
    · exact List.mem_append_right _ (Ld h ab)
theorem zj.FK {l:List ax} {f k:ax} (h:zj l f) (aI:f.du=false) (aD:k∈f.kids):zj l k:=fun x ab=>h x (by
 rw [ED,aI,if_neg bn];exact Ld aD ab)
theorem UD (p:b9) (n:Int) (l:List ax) (vs:ad) (an cm cd:Nat) (w:bT) (gT:l.length≤7) (cU:iV w l) (v:Nat) (av:v<2^63):∀ (k:Nat) (f:ax),f.size≤k→hy w f=true→zj l f →
    bu Tryz.prog 128 [.ptr cd 0,f.cj,.int .i64 (v:Int)] [dI p n (c8 l) vs an cm cd] (fun o K=>o = .ret (.bool (rK l v f))∧K=[dI p n (c8 l) vs an cm cd]):=by
  have k0:bt=1099511627776:=rfl;intro k
  induction k with
  | zero=>intro x h;have:=x.size_eq;omega
  | succ k a'=>
    intro f aC ao fq;have ml:=f.size_eq;have ir:=R6 l v f;have UE:=ao;rw [rA,Bool.and_eq_true] at ao;obtain ⟨nI,la⟩:=ao;refine bu.bp ak call128 Tryz.func128 C C fun s I=>?_
    rw [ax.cO];unfold dI dx c8 at *;rcases A2 nI with ⟨U,ae⟩|⟨aI,ae,U⟩|⟨U,x,ae⟩|⟨U,x,y,ae⟩
    · rw [U,if_pos C] at ir
      rw [ir];unfold ax.cells;rw [U];refine bP ?_;exact Fin.bH I C aR (au.all _) ⟨rfl,rfl⟩
    · have bW:f.op=2∨f.op=3∨f.op=4:=by unfold ax.du at aI;simp at aI;omega
      have qF:=s4 UE aI;have pJ:=fq f (by rw [ED,aI,if_pos C];exact List.mem_singleton.2 C);obtain ⟨i,aY⟩:∃ i,l.findIdx? (fun x=>fW x f)=some i:=by
        cases h:l.findIdx? (fun x=>fW x f) with
        | some i=>exact ⟨i,rfl⟩
        | none=>
          rw [List.findIdx?_eq_none_iff] at h;obtain ⟨z,bE,zS⟩:=List.any_eq_true.1 pJ;rw [h z bE] at zS;cases zS
      have ql:i<l.length:=(List.findIdx?_eq_some_iff_getElem.1 aY).1;have B0:=PB (.func 175 [] [.bq f.cells 0]) (fun x=>fW x f) l ai (fun x ab=>UC x f (by have:=s4 (cU x ab).1 (cU x ab).2;omega) ai);rw [aY] at B0;simp only at B0;have ir:rK l v f=v.testBit i:=by
        rw [ir,if_neg ai,if_neg ai,if_neg ai,if_neg ai,aY]
      rw [ir,← Be];unfold ax.cells at B0 ⊢;rcases bW with h|h|h
      all_goals
        rw [h] at B0 ⊢;refine gu I ?_;intro I;refine aa.shr _ C C C C C C ai (so ai) ?_;refine aa.bits _ C C C C C C (AJ (n:=1) (Nat.lt_of_le_of_lt (Nat.shiftRight_le v i) av) ai) ?_;refine dO ?_;exact Fin.bH I C aR (au.all _) ⟨rfl,rfl⟩
    · have aI:f.du=false:=by unfold ax.du;rw [U];rfl
      have ab:=ax.jP (l:=f.kids) (x:=x) lP;have i1:=a' x ai (lN la lP) (fq.FK aI lP);have b8:([x].map ax.cj)[0]? = some (.agg x.cells):=by rw [← ax.cO];rfl
      rw [U,if_neg ai,if_pos C,ae,Bd l v 0 [x] x C] at ir;rw [ir];rw [ax.cO] at i1;unfold ax.cells;rw [U,ae];refine bP ?_;refine aa.b0 rfl rfl rfl rfl rfl i1 I (au.all _) ?_ (fun _ _ ⟨h,_⟩ _=>by cases h);rintro _ _ ⟨⟨⟩,rfl⟩ I;rw [List.append_nil] at I ⊢;refine cC ?_;exact Fin.bH I C aR (au.all _) ⟨rfl,rfl⟩
    · have aI:f.du=false:=by unfold ax.du;rcases U with U|U<;>rw [U]<;>rfl
      have ab:=ax.jP (l:=f.kids) (x:=x) lP;have ay:=ax.jP (l:=f.kids) (x:=y) sA;have i1:=a' x ai (lN la lP) (fq.FK aI lP);have i2:=a' y ai (lN la sA) (fq.FK aI sA);have b8:([x,y].map ax.cj)[0]? = some (.agg x.cells):=by rw [← ax.cO];rfl
      have bZ:([x,y].map ax.cj)[1]? = some (.agg y.cells):=by rw [← ax.cO];rfl
      rw [ax.cO] at i1 i2;rw [ae,Bd l v 0 [x,y] x C,Bd l v 1 [x,y] y C] at ir;unfold ax.cells;rw [ae];rcases U with U|U
      all_goals
        rw [U] at ir ⊢;cases yu:rK l v x with
        | true=>
          rw [yu] at ir i1;simp at ir;rw [ir];refine bP ?_;refine aa.b0 rfl rfl rfl rfl rfl i1 I (au.all _) ?_ (fun _ _ ⟨h,_⟩ _=>by cases h);rintro _ _ ⟨⟨⟩,rfl⟩ I;rw [List.append_nil] at I ⊢;refine bP ?_
          first
            | exact Fin.bH I C aR (au.all _) ⟨rfl,rfl⟩
            | (refine aa.b0 rfl rfl rfl rfl rfl i2 I (au.all _) ?_ (fun _ _ ⟨h,_⟩ _=>by cases h)
               rintro _ _ ⟨⟨⟩,rfl⟩ I
               rw [List.append_nil] at I ⊢
               refine cC ?_
               exact Fin.bH I C aR (au.all _) ⟨rfl,rfl⟩)
        | false=>
          rw [yu] at ir i1;simp at ir;rw [ir];refine bP ?_;refine aa.b0 rfl rfl rfl rfl rfl i1 I (au.all _) ?_ (fun _ _ ⟨h,_⟩ _=>by cases h);rintro _ _ ⟨⟨⟩,rfl⟩ I;rw [List.append_nil] at I ⊢;refine bP ?_
          first
            | exact Fin.bH I C aR (au.all _) ⟨rfl,rfl⟩
            | (refine aa.b0 rfl rfl rfl rfl rfl i2 I (au.all _) ?_ (fun _ _ ⟨h,_⟩ _=>by cases h)
               rintro _ _ ⟨⟨⟩,rfl⟩ I
               rw [List.append_nil] at I ⊢
               refine cC ?_
               exact Fin.bH I C aR (au.all _) ⟨rfl,rfl⟩)
end Go.Proofs.YtnafpeohfbglmaaGreat
namespace Go.Proofs.YtnafpeohfbglmaaGreat
open Go.bj Go.bY
theorem zk (gen:Int) (l:List ax) (v:Nat):∀ (ms:List kC) (i:Nat),(sO gen l v i ms).length≤ms.length
  | [],_=>Nat.le_refl _
  | m::r,i=>by
    have:=zk gen l v r (i+1);rw [sO];split<;>simp<;>omega
def zl (p:b9) (n:Int) (l:List ax):Prop:=∀ m∈p.methods,m.gen=n→zj l m.fact
theorem Le (p:b9) (aN:gS p) (eD:hg p=true) (n:Int) (l:List ax) (vs:ad) (an cm cd:Nat) (gT:l.length≤7) (cU:iV (cu p) l) (fV:zl p n l) (v:Nat) (av:v<2^63) :
  bu Tryz.prog 81 [.ptr cd 0,.int .i64 (v:Int)] [dI p n (c8 l) vs an cm cd] (fun o K=>o = .ret (bI (dw p n l v))∧K=[dI p n (c8 l) vs an cm cd]):=by
 have k0:bt=1099511627776:=rfl;obtain ⟨wY,UA⟩:=wX eD;have UF:=fun f U ae=>UD p n l vs an cm cd (cu p) gT cU v av f.size f (Nat.le_refl _) U ae
 refine bu.bp ak call81 Tryz.func81 C C fun s I=>?_
 unfold dI dx at *;refine gu I ?_;intro I;refine af.kz I 3 1 0 fun I=>?_
 refine af.cT [0,1,12,13] C I (σ:=Nat×List Int×bU) (fun q=>[(14,.int .i64 (q.1:Int)),(5,.aA 1 (q.2.1.map bg) q.2.2)]) (fun q=>[(q.2.2,.row 3 1 q.2.1.length),dI p n (c8 l) vs an cm cd]) (fun q=>q.1≤p.methods.length∧q.2.1.length≤q.1∧dw p n l v=q.2.1++sO n l v q.1 (p.methods.drop q.1)) (fun q=>p.methods.length-q.1) (0,[],.nil)
  ⟨Nat.zero_le _,Nat.le_refl _,rfl⟩ ⟨⟨_,rfl,aR⟩,⟨_,rfl,a8.nil jO⟩,trivial⟩ (by simp only [dI,dx];repeat (first|exact au.nil|(apply au.cons;· repeat (first|exact aP.here|apply aP.there)))) ?_
 rintro ⟨j,out,fK⟩ ⟨aS,gC,aH⟩ I;simp only [dI,dx] at aS gC aH I ⊢;refine cL ?_;refine af.cond C (fun aG=>?_) (fun bk=>?_);rotate_left
 ·have bk:j=p.methods.length:=by simp at bk;omega
  rw [fC ai,sO,List.append_nil] at aH;rw [aH];refine fJ ?_;exact Fin.bH (K:=[dI p n (c8 l) vs an cm cd]) I C a8.bd (by simp only [dI,dx];repeat (first|exact au.nil|(apply au.cons;· repeat (first|exact aP.here|apply aP.there)))) ⟨rfl,rfl⟩
 have aG:j<p.methods.length:=by simpa using aG
 obtain ⟨m,ab,ch⟩:=cD (f:=nC) aG;have gA:=List.mem_of_getElem? ab;rw [drop_cons ab,sO] at aH;unfold nC uj at ch;by_cases ao:m.gen=n
 ·have c':=UF m.fact (uo _ _ _ _ (FG eD gA)) (fV m gA ao)
  rw [ax.cO] at c';unfold ax.cells at c';rw [ao] at ch aH;rw [show decide (n=n)=true by simp,Bool.true_and] at aH
  repeat (first|(refine tY I ?_;clear I;intro I)|refine aa.dE ak I rfl rfl rfl rfl rfl rfl rfl (fun cv I=>?_))
  refine af.lG I 7 cv C .here (fun I=>?_);refine af.p8 I cd (.there .here) ak mixed C ?_;refine cH ?_;refine aM.split 26 C (fun _=>?_) (fun h=>by simp at h);refine jb ?_;refine aM.uU rfl rfl rfl rfl rfl rfl c' I bM (fun _ _ h=>by obtain ⟨-,rfl⟩:=h;exact ⟨_,.here⟩) ?_ (fun _ _ ⟨h,_⟩ _=>by cases h);rintro _ _ ⟨⟨⟩,rfl⟩ I;simp only [List.cons_append,List.nil_append] at I ⊢;cases nY:rK l v m.fact with
  | true=>
   rw [nY,if_pos C] at aH;refine cH ?_;refine aa.iN ak I C C C C C C C eQ C C C C C C C C a1 k4 mK ai (fun ct I=>?_);refine h8 ?_;exact bX.mk (j+1,out++[(j:Int)],.own ct) I ⟨aG,by simp;omega,by rw [aH];simp⟩ (by repeat (first|exact trivial|refine ⟨⟨_,rfl,aR⟩,?_⟩|refine ⟨⟨_,rfl,a8.of_eq (by (first|rw [nt ai]|(rw [List.map_append];rfl)))⟩,?_⟩)) (by show au _ [(_,.row _ _ (out++[(j:Int)]).length),dI p n (c8 l) vs an cm cd] _;rw [List.length_append];exact (by simp only [dI,dx];repeat (first|exact au.nil|(apply au.cons;· repeat (first|exact aP.here|apply aP.there))))) rQ
  | false=>
   rw [nY,if_neg bn] at aH;refine cy ?_;exact bX.mk (j+1,out,fK) I ⟨aG,by show out.length≤j+1;omega,aH⟩ c7 (by simp only [dI,dx];repeat (first|exact au.nil|(apply au.cons;· repeat (first|exact aP.here|apply aP.there)))) rQ
 ·rw [show decide (m.gen=n)=false by simpa using ao,Bool.false_and,if_neg bn] at aH
  repeat (first|(refine tY I ?_;clear I;intro I)|refine aa.dE ak I rfl rfl rfl rfl rfl rfl rfl (fun cv I=>?_))
  refine af.lG I 7 cv C .here (fun I=>?_);refine af.p8 I cd (.there .here) ak mixed C ?_;refine cH ?_;refine aM.split 26 C (fun h=>absurd gn ao) (fun _=>?_);refine cy ?_;exact bX.mk (j+1,out,fK) I ⟨aG,by show out.length≤j+1;omega,aH⟩ c7 (by simp only [dI,dx];repeat (first|exact au.nil|(apply au.cons;· repeat (first|exact aP.here|apply aP.there)))) rQ
end Go.Proofs.YtnafpeohfbglmaaGreat
namespace Go.bY
mutual
theorem FL:∀ (f:ax) (w:bT) (b:Bool),hy w f=true→∀ l∈hh b f,∀ x∈l,hy w x.1=true∧x.1.du=true
  | .mk o a p c n ks,w,b,ao,l,h,x,ab=>by
    have nr:=ao;rw [hy,Bool.and_eq_true] at nr;rw [hh] at h;split at h
    · split at h
      · cases h
      · rw [List.mem_singleton] at h;subst h;cases ab
    · split at h
      · exact w1 ks w _ 0 nr.2 l h x ab
      · split at h
        · rename_i aI
          rw [List.mem_singleton] at h;subst h;rw [List.mem_singleton] at ab;subst ab;exact ⟨ao,aI⟩
        · split at h
          · rcases List.mem_append.1 h with h|h
            · exact w1 ks w _ 0 nr.2 l h x ab
            · exact w1 ks w _ 1 nr.2 l h x ab
          · obtain ⟨u,hu,h⟩:=List.mem_flatMap.1 h
            obtain ⟨v,av,rfl⟩:=List.mem_map.1 h;rcases AZ v u ab with ab|ab
            · exact w1 ks w _ 0 nr.2 u hu x ab
            · exact w1 ks w _ 1 nr.2 v av x ab
theorem w1:∀ (ks:List ax) (w:bT) (b:Bool) (n:Nat),oe w ks=true→∀ l∈hp b n ks,∀ x∈l,hy w x.1=true∧x.1.du=true
  | [],_,b,n,_,l,h,_,_=>by rw [hp] at h;cases h
  | y::r,w,b,0,ao,l,h,x,ab=>by
    rw [oe,Bool.and_eq_true] at ao;rw [hp] at h;exact FL y w b ao.1 l h x ab
  | y::r,w,b,n+1,ao,l,h,x,ab=>by
    rw [oe,Bool.and_eq_true] at ao;rw [hp] at h;exact w1 r w b n ao.2 l h x ab
end
end Go.bY
namespace Go.Proofs.YtnafpeohfbglmaaGreat
open Go.bj Go.bY
theorem UG (w:bT) (f:ax) (ba:f.size<bt) (ao:hy w f=true) (b:Bool):vM Tryz.prog 242 [] [.bq f.cells 0,.bq [.bool b] 0] [] oo (hh b f):=by
 intro l Go e6 fb nx K br;have dN:∀ dv,yw dv (kr l) (fun xs K=>∃ aL,K=aL++[(.own dv,qh dv)]∧Go xs aL) (fun K=>∃ aL,K=aL++[(.own dv,qh dv)]∧e6 aL) (fun v K=>∃ aL,K=aL++[(.own dv,qh dv)]∧fb v aL):=fun dv=>by
  refine ⟨rfl,fun x rem K ⟨aL,e,ao⟩=>?_,fun xs K ⟨aL,e,_⟩=>⟨aL++[],by subst e;exact aP.app aL .here⟩,fun K ⟨aL,e,_⟩=>⟨aL++[],by subst e;exact aP.app aL .here⟩⟩;subst e;refine c2.frame (R:=[(.own dv,qh dv)]) (nx x rem aL ao) (au.ik (au.fh aL)) ?_;rintro o kj (⟨rfl,h⟩|⟨rfl,h⟩|⟨v,rfl,h⟩)
  ·exact .inl ⟨rfl,kj,rfl,h⟩
  ·exact .inr (.inl ⟨rfl,kj,rfl,h⟩)
  ·exact .inr (.inr ⟨v,rfl,kj,rfl,h⟩)
 have hw:=fun dv=>c2.eP (first:=[]) (args:=[f.cj,.bool b,kr l]) (cap:=[.ptr dv 0]) (Q5 w dv f.size f (Nat.le_refl _) ba ao b (kr l) _ _ _ (dN dv) [] (K++[(.own dv,qh dv)]) ⟨K,rfl,by rw [List.append_nil];exact br⟩)
 rw [ax.cO] at hw;refine bu.bp ak call242 Tryz.func242 C C fun s I=>?_
 rw [List.nil_append] at I ⊢;unfold ax.cells;unfold ax.cells at hw
 repeat (first|(refine Hx I ?_;clear I;intro I)|refine aa.dE ak I rfl rfl rfl rfl rfl rfl rfl (fun cv I=>?_))
 refine aa.fO C C C C C C (hw cv) I (au.hC (List.perm_append_singleton _ _).symm) ?_ ?_
 ·rintro x _ (⟨⟨⟩,kj,rfl,h⟩|⟨⟨⟩,kj,rfl,h⟩|⟨_,⟨⟩,_⟩) I
  all_goals rw [List.append_nil] at I ⊢
  ·refine hv ?_
   exact Fin.bH I C aR (au.ik (au.fh kj)) (.inl ⟨rfl,.inl h⟩)
  ·refine hv ?_
   exact Fin.bH I C aR (au.ik (au.fh kj)) (.inl ⟨rfl,.inr h⟩)
 ·rintro x _ (⟨h,_⟩|⟨h,_⟩|⟨v,⟨⟩,kj,rfl,h⟩) I
  ·cases h
  ·cases h
  rw [List.append_nil] at I ⊢;exact Fin.eM I aR (au.ik (au.fh kj)) (.inr ⟨_,rfl,h⟩)
theorem UH (f:ax) (b:Bool):a7 Tryz.prog 210 [f.cj,.bool b] (.func 242 [] [.bq f.cells 0,.bq [.bool b] 0]):=by
 have an:=bQ;refine a7.bp ak call210 Tryz.func210 C C fun s I=>?_
 rw [ax.cO];unfold ax.cells;refine nv ?_;exact bA I
def va (w:bT) (f:ax):Bool:=(hh false f).any fun l=>ou w (iT l)
theorem UI (w:bT) (hw:kc w) (f:ax) (ba:3*f.size+3<bt) (ao:hy w f=true):a7 Tryz.prog 174 [fx w,f.cj] (.bool (va w f)):=by
 have an:=bQ;refine a7.bp ak call174 Tryz.func174 C C fun s I=>?_
 have aE:=UH f false;have mL:=UG w f ai ao false;have UJ:=fun (l:List ez) (h:l∈hh false f)=>TZ w hw l (by have:=(D5 f false l h).1;omega) (fun x ab=>⟨(FL f w false ao l h x ab).1,(FL f w false ao l h x ab).2⟩)
 rw [ax.cO] at aE ⊢;unfold ax.cells at *;unfold fx eC at *
 repeat (first|(refine OZ I ?_;clear I;intro I)|refine aa.dE ak I rfl rfl rfl rfl rfl rfl rfl (fun cv I=>?_)|(refine nw ?_))
 refine af.Dx I C dd mL .nil (fun rem K=>(∀ l∈rem,l∈hh false f)∧va w f=(rem.any fun l=>ou w (iT l))∧K=[(.own cv,.box 4 [.bool false])]) (fun j K=>j = .exit 0∧va w f=true∧K=[(.own cv,.box 4 [.bool true])]) (fun _ _=>False) ⟨fun _ h=>h,rfl,rfl⟩ ?_ ?_ ?_ (fun _ _ h=>h.elim)
 ·rintro s₁ l rem K ⟨hm,az,rfl⟩ I
  have Lf:=UJ l (hm l List.mem_cons_self);rw [List.any_cons] at az;cases B1:ou w (iT l) with
  | true=>
   rw [B1] at Lf;rw [B1,Bool.true_or] at az;refine gu I ?_;intro I;exact At.mk _ I (au.fh _) ⟨rfl,az,rfl⟩
  | false=>
   rw [B1] at Lf;rw [B1,Bool.false_or] at az;refine cy ?_;exact At.mk _ I (au.fh _) ⟨fun l h=>hm l (List.mem_cons_of_mem _ h),az,rfl⟩
 ·rintro K ⟨_,az,rfl⟩ I
  have az:va w f=false:=az;rw [az];refine cn I ?_;intro I;exact bA I
 ·rintro j K ⟨rfl,az,rfl⟩ I
  rw [az];refine cn I ?_;intro I;exact bA I
theorem UK (w:bT) (hw:kc w) (f:ax) (ba:3*f.size+3<bt):a7 Tryz.prog 127 [iR w,f.cj] (.cl [.bool (iQ w f&&va w f),.int .i64 (if iQ w f then 0 else 2)]):=by
 have an:=bQ;refine a7.bp ak call127 Tryz.func127 C C fun s I=>?_
 have U:=Ed w hw [f] dq (by intro g ao;rw [List.mem_singleton] at ao;subst ao;omega);rw [List.map_cons,List.map_nil,ax.cO] at U;rw [List.all_cons,List.all_nil,Bool.and_true] at U;cases wZ:iQ w f with
 | false=>
  rw [wZ] at U;rw [ax.cO];unfold iR hf gb bI at *;unfold fx eC at *;refine cy ?_;exact bA I
 | true=>
  rw [wZ] at U;have ae:=UI w hw f ba (uo f w 12 24 wZ);rw [ax.cO] at ae ⊢;unfold iR hf gb bI at *;unfold fx eC at *;refine cy ?_;exact bA I
end Go.Proofs.YtnafpeohfbglmaaGreat
namespace Go.bY
open Go.Proofs.YtnafpeohfbglmaaGreat
theorem Lg (f:ax):fW f f=true:=by unfold fW;simp
theorem UL {l:List ax} (f:ax) (h:l.Nodup):(jj l f).Nodup:=by
 unfold jj;split
 ·exact h
 ·rename_i aC
  rw [List.nodup_append];refine ⟨h,by simp,fun a aV b an=>?_⟩;rw [List.mem_singleton.1 an];rintro rfl;exact aC (List.any_eq_true.2 ⟨a,aV,Lg a⟩)
theorem Lh:∀ (cP l:List ax),l.Nodup→(cP.foldl jj l).Nodup
 | [],_,h=>h
 | x::r,l,h=>Lh r _ (UL x h)
theorem Li (gen:Int):∀ (ms:List kC) (l:List ax),l.Nodup→(ms.foldl (kM gen) l).Nodup
 | [],_,h=>h
 | m::r,l,h=>Li gen r _ (by unfold kM;split;exact Lh _ _ h;exact h)
theorem UM (p:b9) (gen:Int):(cI p gen).Nodup:=Li gen _ _ List.nodup_nil
def qG (f:ax) (b:Bool):ax:=if b then f else f.not
def qH (v:Nat):Nat→List ax→ax→ax
 | _,[],a=>a
 | i,f::r,a=>qH v (i+1) r (if i=0 then qG f (v.testBit i) else a.and (qG f (v.testBit i)))
def vb (l:List ax) (v:Nat):ax:=qH v 0 l (.mk 1 0 [] 0 0 [])
theorem zm {w:bT} {f:ax} (ao:hy w f=true) (aI:f.du=true):f.kids=[]:=by
 rw [rA,Bool.and_eq_true] at ao;rcases A2 ao.1 with ⟨_,h⟩|⟨_,h,_⟩|⟨h,_⟩|⟨h,_⟩
 ·exact h
 ·exact h
 ·unfold ax.du at aI;rw [h] at aI;cases aI
 ·unfold ax.du at aI;rcases h with h|h<;>(rw [h] at aI;cases aI)
theorem UN {f:ax} (aI:f.du=true):f.op=2∨f.op=3∨f.op=4:=by unfold ax.du at aI;simp at aI;omega
theorem Lj {f:ax} (aI:f.du=true) (b:Bool):hh b f=[[(f,b)]]:=by
 have:=UN aI;rw [IC,if_neg ai,if_neg ai,if_pos aI]
theorem UO {f:ax} (aI:f.du=true) (b:Bool):hh false (qG f b)=[[(f,!b)]]:=by
 cases b with
 | true=>exact Lj aI false
 | false=>
  show hh false f.not=_;unfold ax.not;rw [hh,if_neg dd,if_pos C,hp];exact Lj aI true
theorem UP {a x:ax} {lV Lk:List ez} (aV:hh false a=[lV]) (ab:hh false x=[Lk]):hh false (a.and x)=[iF lV Lk]:=by
 unfold ax.and;rw [hh,if_neg dd,if_neg dd,if_neg (by simp [ax.du,ax.op]),if_neg dd,hp,hp,hp,aV,ab];rfl
theorem UQ {lV:List ez} {x:ez} (h:∀ y∈lV,y.1≠x.1):iF lV [x]=lV++[x]:=by
 show pg lV x=_;unfold pg;rw [if_neg];intro aC;obtain ⟨y,ay,ae⟩:=List.any_eq_true.1 aC;exact h y ay (by rw [(P3 x y).1 ae])
theorem Ll (v:Nat):∀ (l:List ax) (i:Nat) (a:ax) (lV:List ez),(∀ x∈l,x.du=true)→l.Nodup→(∀ y∈lV,y.1∉l)→(i=0→lV=[])→hh false a=[lV]→hh false (qH v i l a)=[lV++yN i l v]
  | [],i,a,lV,_,_,_,_,h=>by rw [qH,yN,List.append_nil];exact h
  | f::r,i,a,lV,aI,aC,ar,bB,h=>by
    rw [List.nodup_cons] at aC;have cb:∀ y∈lV++[(f,!v.testBit i)],y.1∉r:=fun y ay=>by
      rcases List.mem_append.1 ay with ay|ay
      · exact fun hm=>ar y ay (List.mem_cons_of_mem _ hm)
      · rw [List.mem_singleton.1 ay];exact aC.1
    have e:=UO (aI f List.mem_cons_self) (v.testBit i);have aw:hh false (if i=0 then qG f (v.testBit i) else a.and (qG f (v.testBit i)))=[lV++[(f,!v.testBit i)]]:=by
      split
      · rename_i aY;rw [bB aY,e];rfl
      · rw [UP h e,UQ]
        intro y ay he;refine ar y ay ?_;rw [he];exact List.mem_cons_self
    rw [qH,yN,Ll v r (i+1) _ _ (fun x ab=>aI x (List.mem_cons_of_mem _ ab)) aC.2 cb ai aw,List.append_assoc];rfl
theorem UR {l:List ax} (aI:∀ x∈l,x.du=true) (aC:l.Nodup) (v:Nat):hh false (vb l v)=[JK l v]:=
 Ll v l 0 _ [] aI aC (fun _ h=>by cases h) (fun _=>rfl) (by rw [hh];simp)
theorem Lm {w:bT} {f:ax} (ao:hy w f=true) (aI:f.du=true) {d:Nat} {k:Int} (ar:1≤d) (aD:1≤k):eX w d k f=(true,k-1):=by
 have US:=zm ao aI;rw [rA,Bool.and_eq_true] at ao;obtain ⟨o,a,p,c,n,ks⟩:=f;rw [eX,if_neg dq,if_pos ao.1];have:ks=[]:=US;rw [this,hd]
theorem UT {w:bT} {f:ax} {d:Nat} {k m:Int} (h:eX w d (k-1) f=(true,m)) (aD:1≤k):eX w (d+1) k f.not=(true,m):=by
 unfold ax.not;rw [eX,if_neg dq,if_pos (by rfl),Nat.add_sub_cancel,hd,h,if_pos C,hd]
theorem UU {w:bT} {f g:ax} {d:Nat} {k m r:Int} (h:eX w d (k-1) f=(true,m)) (ae:eX w d m g=(true,r)) (aD:1≤k):eX w (d+1) k (f.and g)=(true,r):=by
 unfold ax.and;rw [eX,if_neg dq,if_pos (by rfl),Nat.add_sub_cancel,hd,h,if_pos C,hd,ae,if_pos C,hd]
theorem Ln {w:bT} {f:ax} (ao:hy w f=true) (aI:f.du=true) (b:Bool) {d:Nat} {k:Int} (ar:2≤d) (aD:2≤k):∃ m,eX w d k (qG f b)=(true,m)∧k-2≤m:=by
 cases b with
 | true=>exact ⟨k-1,Lm ao aI ai ai,by omega⟩
 | false=>
  obtain ⟨e,rfl⟩:∃ e,d=e+1:=⟨d-1,by omega⟩;exact ⟨k-1-1,UT (Lm ao aI ai ai) ai,by omega⟩
def zn (w:bT) (i:Nat) (a:ax):Prop:=∀ (d:Nat) (k:Int),i+1≤d→3*(i:Int)≤k→1≤k→∃ m,eX w d k a=(true,m)∧k-(if i=0 then 1 else 3*(i:Int)-1)≤m
theorem zn.next {w:bT} {i:Nat} {a f:ax} {b:Bool} (h:zn w i a) (ao:hy w f=true) (aI:f.du=true):zn w (i+1) (if i=0 then qG f b else a.and (qG f b)):=by
 intro d k ar aD kV;split
 ·rename_i bB
  subst bB;obtain ⟨m,U,ae⟩:=Ln ao aI b (d:=d) (k:=k) ai ai;exact ⟨m,U,by simp;omega⟩
 ·rename_i bB
  obtain ⟨e,rfl⟩:∃ e,d=e+1:=⟨d-1,by omega⟩;obtain ⟨m,U,ae⟩:=h e (k-1) ai ai ai;rw [if_neg bB] at ae;obtain ⟨r,al,bl⟩:=Ln ao aI b (d:=e) (k:=m) ai ai;exact ⟨r,UU U al ai,by rw [if_neg ai];push_cast;omega⟩
theorem Lo {w:bT} (v:Nat):∀ (l:List ax) (i:Nat) (a:ax),iV w l→zn w i a→zn w (i+l.length) (qH v i l a)
  | [],i,a,_,h=>h
  | f::r,i,a,cU,h=>by
    have U:=cU f List.mem_cons_self;have:=Lo (w:=w) v r (i+1) _ (fun x ab=>cU x (List.mem_cons_of_mem _ ab)) (h.next (b:=v.testBit i) U.1 U.2);rw [qH,List.length_cons,show i+(r.length+1)=i+1+r.length by omega];exact this
theorem UW {w:bT} {l:List ax} (cU:iV w l) (hF:l.length≤7) (v:Nat):iQ w (vb l v)=true:=by
 have:=Lo (w:=w) v l 0 (.mk 1 0 [] 0 0 []) cU (fun d k ar _ kV=>⟨k-1,by
  rw [eX,if_neg dq,if_pos (by rfl),hd],by simp⟩)
 obtain ⟨m,U,-⟩:=this 12 24 ai ai ai;unfold iQ;show (eX w 12 24 (vb l v)).1=true;unfold vb;rw [U]
theorem UX {w:bT} {l:List ax} (cU:iV w l) (hF:l.length≤7) (aC:l.Nodup) (v:Nat):(iQ w (vb l v)&&va w (vb l v))=ov w l v:=by
 rw [UW cU hF,Bool.true_and];unfold va ov;rw [UR (fun x ab=>(cU x ab).2) aC];simp
end Go.bY
namespace Go.Proofs.YtnafpeohfbglmaaGreat
open Go.bj Go.bY
theorem UY (v c:Nat):(((v >>> c &&& 1:Nat):Int)==0) = !v.testBit c:=by
 rw [← Be,Nat.and_one_is_mod];have:v >>> c % 2=0∨v >>> c % 2=1:=by omega
 rcases this with h|h<;>rw [h]<;>rfl
theorem Lp (f:ax):f.not.size=1+f.size:=by
 unfold ax.not;rw [ax.size,ax.jy,ax.jy,List.length_nil];omega
theorem Lq (f g:ax):(f.and g).size=1+f.size+g.size:=by
 unfold ax.and;rw [ax.size,ax.jy,ax.jy,ax.jy,List.length_nil];omega
theorem Lr (p:b9) (eD:hg p=true) (n:Int) (l:List ax) (vs:ad) (an cm cd:Nat) (gT:l.length≤7) (cU:iV (cu p) l) (eT:l.Nodup) (v:Nat) (av:v<2^63) :
  bu Tryz.prog 80 [.ptr cd 0,.int .i64 (v:Int)] [dI p n (c8 l) vs an cm cd] (fun o K=>o = .ret (.bool (ov (cu p) l v))∧K=[dI p n (c8 l) vs an cm cd]):=by
 have k0:bt=1099511627776:=rfl;have BU:=ze eD;rw [← UX cU gT eT v];refine bu.bp ak call80 Tryz.func80 C C fun s I=>?_
 unfold dI dx c8 at *
 repeat (first|(refine Dq I ?_;clear I;intro I)|refine aa.dE ak I rfl rfl rfl rfl rfl rfl rfl (fun cv I=>?_))
 refine af.py I (ax.mk 1 0 [] 0 0 []).cells (kb:=cv) a1 (by
  repeat (first|exact cA.nil|refine cA.cons (by first|exact aR|exact a8.empty) ?_)) (fun I=>?_)
 obtain ⟨FM,rfl⟩:∃ x,x=cv:=⟨_,rfl⟩;skip;refine af.cT [0,1,5,14,15] C I (σ:=Nat×ax×List ad) (fun q=>[(16,.int .i64 (q.1:Int))]) (fun q=>[(.own FM,.box 58 q.2.2),dI p n (c8 l) vs an cm cd]) (fun q=>cA q.2.2 q.2.1.cells∧q.1≤l.length∧q.2.1.size≤1+6*q.1∧vb l v=qH v q.1 (l.drop q.1) q.2.1) (fun q=>l.length-q.1) (0,.mk 1 0 [] 0 0 [],(ax.mk 1 0 [] 0 0 []).cells) ⟨cA.refl _,Nat.zero_le _,by simp [ax.size,ax.jy],rfl⟩ (c3 C) (by simp only [dI,dx,c8];repeat (first|exact au.nil|(apply au.cons;· repeat (first|exact aP.here|apply aP.there)))) ?_;rintro ⟨j,acc,cs⟩ ⟨hle,aS,b7,aH⟩ I;simp only [dI,dx,c8] at hle aS b7 aH I ⊢;refine af.py I acc.cells (kb:=FM) a1 hle (fun I=>?_);refine cL ?_;refine af.cond C (fun aG=>?_) (fun bk=>?_);rotate_left
 ·have bk:j=l.length:=by simp at bk;omega
  rw [fC ai,qH] at aH;rw [aH];have aE:=UK (cu p) BU acc ai;rw [ax.cO] at aE;unfold iR hf at aE;refine af.lG I 5 FM C .here (fun I=>?_);cases ba:iQ (cu p) acc with
  | true=>
   rw [ba] at aE;simp only [Bool.true_and,if_true] at aE ⊢
   repeat (first
    | refine af.p8 I cd .here ak mixed C ?_
    | with_reducible apply af.seq
    | with_reducible apply cf
    | with_reducible apply kt
    | with_reducible apply ga
    | with_reducible apply ku
    | with_reducible apply af.exit)
   refine cy ?_;exact Fin.bH I C aR (au.all _) ⟨rfl,rfl⟩
  | false=>
   rw [ba] at aE;simp only [Bool.false_and,Bool.false_eq_true,if_false] at aE ⊢
   repeat (first
    | refine af.p8 I cd .here ak mixed C ?_
    | with_reducible apply af.seq
    | with_reducible apply cf
    | with_reducible apply kt
    | with_reducible apply ga
    | with_reducible apply ku
    | with_reducible apply af.exit)
   refine cy ?_;exact Fin.bH I C aR (au.all _) ⟨rfl,rfl⟩
 have aG:j<l.length:=by simpa using aG
 obtain ⟨f,ab,ch⟩:=cD (f:=ax.cj) aG;have qF:=cU f (List.mem_of_getElem? ab);have Ls:f.size≤3:=by
  have U:=f.size_eq;have ae:=s4 qF.1 qF.2;have al:=zm qF.1 qF.2;rw [al,ax.jy] at U;omega
 rw [drop_cons ab,qH] at aH;rw [ax.cO] at ch;have pN:=UY v j;unfold ax.cells at ch I ⊢
 repeat (first|(refine tY I ?_;clear I;intro I)|refine aa.dE ak I rfl rfl rfl rfl rfl rfl rfl (fun cv I=>?_))
 refine aa.shr _ C C C C C C ai (so ai) ?_;refine aa.bits _ C C C C C C (AJ (n:=1) (Nat.lt_of_le_of_lt (Nat.shiftRight_le v j) av) ai) ?_;refine hv ?_;cases nq:v.testBit j with
 | true=>
  rw [nq] at pN;rw [nq,show qG f true=f from rfl] at aH;refine af.cond C (fun h=>absurd h (by rw [pN];simp)) (fun _=>?_);cases j with
  | zero=>
   rw [if_pos C] at aH;refine gu I ?_;intro I;refine bX.mk (1,f,?_) I ?_ AF (by simp only [dI,dx,c8,ax.cells];repeat (first|exact au.nil|(apply au.cons;· repeat (first|exact aP.here|apply aP.there)))) (by show l.length-1<l.length-0;omega);refine ⟨?_,aG,by show ax.size f≤7;omega,aH⟩;exact cA.refl _
  | succ k=>
   rw [if_neg ai] at aH;refine gu I ?_;intro I;refine bX.mk (k+2,acc.and f,?_) I ?_ xQ (by simp only [dI,dx,c8];repeat (first|exact au.nil|(apply au.cons;· repeat (first|exact aP.here|apply aP.there)))) (by show l.length-(k+2)<l.length-(k+1);omega)
   refine ⟨?_,aG,(by
    have bD:ax.size f≤5:=by omega
    show (acc.and f).size≤1+6*(k+2)
    rw [Lq];omega),aH⟩
   show cA _ (acc.and f).cells;unfold ax.and ax.cells;refine .cons aR (.cons aR (.cons a8.empty (.cons aR (.cons aR (.one ?_)))));simp only [ax.kids,List.map_cons,List.map_nil,ax.cO];exact a8.bd
 | false=>
  rw [nq] at pN;rw [nq,show qG f false=f.not from rfl] at aH;refine af.cond C (fun _=>?_) (fun h=>absurd h (by rw [pN];simp));refine gu I ?_;intro I
  refine af.py I f.not.cells (kb:=cv) a1 (by
   unfold ax.not ax.cells
   refine .cons aR (.cons aR (.cons a8.empty (.cons aR (.cons aR (.one ?_)))))
   simp only [ax.kids,List.map_cons,List.map_nil,ax.cO]
   exact a8.bd) (fun I=>?_)
  cases j with
  | zero=>
   rw [if_pos C] at aH;refine gu I ?_;intro I;refine bX.mk (1,f.not,?_) I ?_ AF (by simp only [dI,dx,c8,ax.cells];repeat (first|exact au.nil|(apply au.cons;· repeat (first|exact aP.here|apply aP.there)))) (by show l.length-1<l.length-0;omega);refine ⟨?_,aG,by show ax.size f.not≤7;(rw [Lp];omega),aH⟩;exact cA.refl _
  | succ k=>
   rw [if_neg ai] at aH;refine gu I ?_;intro I;refine bX.mk (k+2,acc.and f.not,?_) I ?_ xQ (by simp only [dI,dx,c8];repeat (first|exact au.nil|(apply au.cons;· repeat (first|exact aP.here|apply aP.there)))) (by show l.length-(k+2)<l.length-(k+1);omega)
   refine ⟨?_,aG,(by
    have bD:ax.size f.not≤5:=by (rw [Lp];omega)
    show (acc.and f.not).size≤1+6*(k+2)
    rw [Lq];omega),aH⟩
   show cA _ (acc.and f.not).cells;unfold ax.and ax.cells;refine .cons aR (.cons aR (.cons a8.empty (.cons aR (.cons aR (.one ?_)))));simp only [ax.kids,List.map_cons,List.map_nil,ax.cO];exact a8.bd
end Go.Proofs.YtnafpeohfbglmaaGreat
namespace Go.bY
open Go.bj
def fm (f:Nat→Bool) (o:Nat):Nat→Nat
 | 0=>0
 | n+1=>fm f o n+(if f (o+n) then 2^n else 0)
theorem kP (f:Nat→Bool) (o:Nat):∀ n,fm f o n<2^n
  | 0=>Nat.one_pos
  | n+1=>by
    have:=kP f o n;rw [fm,Nat.pow_succ];split<;>omega
theorem m' (f:Nat→Bool) (o:Nat):∀ n i,(fm f o n).testBit i=(decide (i<n)&&f (o+i))
  | 0,i=>by rw [fm];simp
  | n+1,i=>by
    have U:=kP f o n;have ae:=m' f o n i;rw [fm];cases ba:f (o+n) with
    | false=>
      rw [if_neg bn,Nat.add_zero,ae];rcases Nat.lt_trichotomy i n with h|h|h
      · rw [decide_eq_true h,decide_eq_true ai]
      · subst h;rw [ba];simp
      · rw [decide_eq_false ai,decide_eq_false ai]
    | true=>
      rw [if_pos C,Nat.add_comm];rcases Nat.lt_trichotomy i n with h|h|h
      · rw [Nat.testBit_two_pow_add_gt h,ae,decide_eq_true h,decide_eq_true ai]
      · subst h
        rw [Nat.testBit_two_pow_add_eq,ae,ba];simp
      · rw [decide_eq_false ai,Bool.false_and]
        exact Nat.testBit_lt_two_pow (Nat.lt_of_lt_of_le (show 2^n+fm f o n<2^(n+1) by rw [Nat.pow_succ];omega) (Nat.pow_le_pow_right ai ai))
theorem B2 {f:Nat→Bool} {o n m:Nat} (hm:m<2^n) (h:∀ i,i<n→m.testBit i=f (o+i)):m=fm f o n:=by
 apply Nat.eq_of_testBit_eq;intro i;rw [m'];by_cases aY:i<n
 ·rw [h i aY,decide_eq_true aY,Bool.true_and]
 ·rw [decide_eq_false aY,Bool.false_and]
  exact Nat.testBit_lt_two_pow (Nat.lt_of_lt_of_le hm (Nat.pow_le_pow_right ai ai))
def iW (f:Nat→Bool):List Int:=[(fm f 0 64:Int),(fm f 64 64:Int)]
theorem Lt (f g:Nat→Bool) (o n:Nat):fm f o n &&& fm g o n=fm (fun u=>f u&&g u) o n:=
 B2 (Nat.lt_of_le_of_lt Nat.and_le_left (kP f o n)) fun i aY=>by
  rw [Nat.testBit_and,m',m',decide_eq_true aY];rfl
theorem Lu (f g:Nat→Bool) (o:Nat):mM (fm f o 64) (fm g o 64)=fm (fun u=>f u && !g u) o 64:=
 B2 (Nat.lt_of_le_of_lt Nat.and_le_left (kP f o 64)) fun i aY=>by
  unfold mM;rw [Nat.testBit_and,Nat.testBit_xor,m',m',decide_eq_true aY,show (18446744073709551615:Nat)=2^64-1 by decide,Nat.testBit_two_pow_sub_one,decide_eq_true aY];simp
theorem Lv (f:Nat→Bool) (o n i:Nat) (aY:i<n):fm f o n|||2^i=fm (fun u=>f u||u==o+i) o n:=
  B2 (Nat.or_lt_two_pow (kP f o n) (Nat.pow_lt_pow_right ai aY)) fun j aS=>by
    rw [Nat.testBit_or,m',Nat.testBit_two_pow,decide_eq_true aS,Bool.true_and];congr 1;rw [Bool.eq_iff_iff,decide_eq_true_eq,beq_iff_eq];omega
theorem Lw {f g:Nat→Bool} {o n:Nat} (h:∀ i,i<n→f (o+i)=g (o+i)):fm f o n=fm g o n:=
 B2 (kP f o n) fun i aY=>by rw [m',decide_eq_true aY,Bool.true_and,h i aY]
theorem UZ {f g:Nat→Bool} (h:iW f=iW g):∀ u,u<128→f u=g u:=by
 unfold iW at h;have U:fm f 0 64=fm g 0 64:=by have:=(List.cons.inj h).1;omega
 have ae:fm f 64 64=fm g 64 64:=by have:=(List.cons.inj (List.cons.inj h).2).1;omega
 intro u hu;by_cases aw:u<64
 ·have a:=m' f 0 64 u
  have b:=m' g 0 64 u;rw [U,b,decide_eq_true aw,Bool.true_and,Bool.true_and,Nat.zero_add] at a;exact a.symm
 ·have a:=m' f 64 64 (u-64)
  have b:=m' g 64 64 (u-64);rw [ae,b,decide_eq_true ai,Bool.true_and,Bool.true_and,show 64+(u-64)=u by omega] at a;exact a.symm
theorem zo {o:Nat} {f:Nat→Bool} (h:∀ u,f u=false):∀ n,fm f o n=0
 | 0=>rfl
 | n+1=>by rw [fm,zo h n,h,if_neg bn]
theorem U0:iW (fun _=>false)=[0,0]:=by
 unfold iW;rw [zo (fun _=>rfl),zo (fun _=>rfl)];rfl
end Go.bY
namespace Go.Proofs.YtnafpeohfbglmaaGreat
open Go.bj Go.bY
def jx (f:Nat→Bool):ad := .agg [.int .u64 (fm f 0 64:Nat),.int .u64 (fm f 64 64:Nat)]
theorem Lx {v:Nat} (av:v<2^40):IntKind.wrap .i64 (Int.tdiv (v:Int) (Int.ofNat 64))=((v / 64:Nat):Int):=by
 rw [show Int.tdiv (v:Int) (Int.ofNat 64)=((v / 64:Nat):Int) from rfl];exact e0 ai ai
theorem Ly (v:Nat):Int.tmod (v:Int) (Int.ofNat 64)=((v % 64:Nat):Int):=rfl
theorem FN (m c:Nat):(((m >>> c &&& 1:Nat):Int)==1)=m.testBit c:=Be m c
theorem U1 (f g:Nat→Bool):a7 Tryz.prog 106 [jx f,jx g] (jx (fun u=>f u&&g u)):=by
 have an:=bQ;refine a7.bp ak call106 Tryz.func106 C C fun s I=>?_
 unfold jx
 repeat (first|(refine Hy ?_)|refine aa.dE ak I C C C C C C C (fun cv I=>?_))
 refine aa.kB ak 0 C C C C C C C C C C ai ?_;refine d' ?_;refine aa.kB ak 0 C C C C C C C C C C ai ?_;refine d' ?_;refine aa.bits _ C C C C C C (sn (kP f 0 64) (kP g 0 64)) ?_;refine aa.kB ak 1 C C C C C C C C C C ai ?_;refine d' ?_;refine aa.kB ak 1 C C C C C C C C C C ai ?_;refine d' ?_;refine aa.bits _ C C C C C C (sn (kP f 64 64) (kP g 64 64)) ?_;rw [Lt,Lt];refine cn I ?_;intro I;exact Fin.dT I (o8 C C (aP.get a1 I) C) aR
theorem U2 (f g:Nat→Bool):a7 Tryz.prog 107 [jx f,jx g] (jx (fun u=>f u && !g u)):=by
 have an:=bQ;refine a7.bp ak call107 Tryz.func107 C C fun s I=>?_
 unfold jx
 repeat (first|(refine Hy ?_)|refine aa.dE ak I C C C C C C C (fun cv I=>?_))
 refine aa.kB ak 0 C C C C C C C C C C ai ?_;refine d' ?_;refine aa.kB ak 0 C C C C C C C C C C ai ?_;refine d' ?_;refine aa.bits _ C C C C C C (AK (kP f 0 64) (kP g 0 64)) ?_;refine aa.kB ak 1 C C C C C C C C C C ai ?_;refine d' ?_;refine aa.kB ak 1 C C C C C C C C C C ai ?_;refine d' ?_;refine aa.bits _ C C C C C C (AK (kP f 64 64) (kP g 64 64)) ?_;rw [Lu,Lu];refine cn I ?_;intro I;exact Fin.dT I (o8 C C (aP.get a1 I) C) aR
theorem U3 (f:Nat→Bool) (v:Nat) (av:v<128):a7 Tryz.prog 151 [jx f,.int .i64 (v:Int)] (.bool (f v)):=by
 have an:=bQ;refine a7.bp ak call151 Tryz.func151 C C fun s I=>?_
 unfold jx;have bs:=Lx (v:=v) ai;have az:=Ly v;have hm:=Nat.mod_lt v (show 64>0 by omega);by_cases h:v<64
 ·refine bP ?_
  refine aa.kB ak 0 C C C C C C C C C (by rw [bs];omega) ai ?_;refine bP ?_;rw [az];refine aa.shr _ C C C C C C ai (so hm) ?_;refine aa.bits _ C C C C C C (sn (n:=1) (Nat.lt_of_le_of_lt (Nat.shiftRight_le _ (v % 64)) (kP f 0 64)) ai) ?_;refine dO ?_;refine Fin.dT I C (a8.of_eq (congrArg ad.bool ?_));rw [FN,m',decide_eq_true hm,Bool.true_and];congr 1;omega
 ·refine bP ?_
  refine aa.kB ak 1 C C C C C C C C C (by rw [bs];omega) ai ?_;refine bP ?_;rw [az];refine aa.shr _ C C C C C C ai (so hm) ?_;refine aa.bits _ C C C C C C (sn (n:=1) (Nat.lt_of_le_of_lt (Nat.shiftRight_le _ (v % 64)) (kP f 64 64)) ai) ?_;refine dO ?_;refine Fin.dT I C (a8.of_eq (congrArg ad.bool ?_));rw [FN,m',decide_eq_true hm,Bool.true_and];congr 1;omega
theorem Lz (f:Nat→Bool) (v:Nat) (av:v<128):a7 Tryz.prog 60 [jx f,.int .i64 (v:Int)] (jx (fun u=>f u||u==v)):=by
 have an:=bQ;refine a7.bp ak call60 Tryz.func60 C C fun s I=>?_
 unfold jx;have bs:=Lx (v:=v) ai;have az:=Ly v;have hm:=Nat.mod_lt v (show 64>0 by omega);have jn:2^(v % 64)<2^64:=Nat.pow_lt_pow_right ai hm;by_cases h:v<64
 ·have h0:=Lv f 0 64 (v % 64) hm
  rw [show (fun u=>f u||u==0+v % 64)=(fun u=>f u||u==v) by funext u;congr 2;omega] at h0;have b8:fm (fun u=>f u||u==v) 64 64=fm f 64 64:=Lw fun i aY=>by
   rw [show (64+i==v)=false by simp;omega,Bool.or_false]
  rw [b8,← h0]
  repeat (first|(refine p1 ?_)|refine aa.iM I C C C C C C (fun b I=>?_)|refine aa.dE ak I C C C C C C C (fun cv I=>?_)|(refine Hz ?_))
  refine aM.arr ak 0 C C C C C C C C C (by rw [bs];omega) ai ?_;refine cn I ?_;intro I;rw [az];refine aM.shl _ C C C C C C ai (AL hm) ?_;refine aM.bits _ C C C C C C (uf (kP f 0 64) jn) ?_;refine aM.arr ak 0 C C C C C C C C C (by rw [bs];omega) ai ?_;refine cn I ?_;intro I;exact Fin.dT I (o8 C C (aP.get a1 I) C) aR
 ·have h0:=Lv f 64 64 (v % 64) hm
  rw [show (fun u=>f u||u==64+v % 64)=(fun u=>f u||u==v) by funext u;congr 2;omega] at h0;have b8:fm (fun u=>f u||u==v) 0 64=fm f 0 64:=Lw fun i aY=>by
   rw [show (0+i==v)=false by simp;omega,Bool.or_false]
  rw [b8,← h0]
  repeat (first|(refine p1 ?_)|refine aa.iM I C C C C C C (fun b I=>?_)|refine aa.dE ak I C C C C C C C (fun cv I=>?_)|(refine Hz ?_))
  refine aM.arr ak 1 C C C C C C C C C (by rw [bs];omega) ai ?_;refine cn I ?_;intro I;rw [az];refine aM.shl _ C C C C C C ai (AL hm) ?_;refine aM.bits _ C C C C C C (uf (kP f 64 64) jn) ?_;refine aM.arr ak 1 C C C C C C C C C (by rw [bs];omega) ai ?_;refine cn I ?_;intro I;exact Fin.dT I (o8 C C (aP.get a1 I) C) aR
end Go.Proofs.YtnafpeohfbglmaaGreat
namespace Go.Proofs.YtnafpeohfbglmaaGreat
open Go.bj Go.bY
def zp (p:b9) (n:Int) (l:List ax) (vs:List Nat):List (ad×ad):=vs.map fun v:Nat=>(.int .i64 (v:Int),bI (dw p n l v))
def iw (vs:List Nat):List ad:=vs.map fun v:Nat => .int .i64 (v:Int)
theorem LA (g:Nat→ad) (x:ad) (v:Nat):∀ vs:List Nat,v∉vs→kn (vs.map fun u:Nat=>(.int .i64 (u:Int),g u)) (.int .i64 (v:Int)) x=some ((vs.map fun u:Nat=>(.int .i64 (u:Int),g u))++[(.int .i64 (v:Int),x)])
  | [],_=>rfl
  | u::r,h=>by
    have hu:((v:Int)==(u:Int))=false:=by
      rw [beq_eq_false_iff_ne];intro he;exact h (by rw [show v=u by omega];exact List.mem_cons_self)
    rw [List.map_cons,kn];simp only [iY,if_true,hu,LA g x v r (fun hm=>h (List.mem_cons_of_mem _ hm)),List.cons_append]
theorem B3 (g:Nat→ad) (v:Nat):∀ vs:List Nat,h1 (vs.map fun u:Nat=>(.int .i64 (u:Int),g u)) (.int .i64 (v:Int))=some (if vs.contains v then some (g v) else none)
  | []=>rfl
  | u::r=>by
    rw [List.map_cons,h1];by_cases h:u=v
    · subst h
      simp [iY]
    · have hu:((v:Int)==(u:Int))=false:=by
        rw [beq_eq_false_iff_ne];omega
      simp only [iY,if_true,hu,B3 g v r,List.contains_cons];rw [show (v==u)=false by rw [beq_eq_false_iff_ne];omega,Bool.false_or]
theorem FO {c:Nat} (h:c≤7):IntKind.wrap .i64 (1*2^(min (c:Int).toNat (IntKind.bits .i64)))=((2^c:Nat):Int):=by
 have U:min (c:Int).toNat (IntKind.bits .i64)=c:=by simp [IntKind.bits];omega
 rw [U];have ae:(1*2^c:Int)=((2^c:Nat):Int):=by push_cast;omega
 have al:2^c<2^63:=Nat.pow_lt_pow_right ai ai;rw [ae,DC al]
def oH (w:bT) (l:List ax) (v:Nat):List Nat:=(List.range v).filter (ov w l)
theorem U4 (w:bT) (l:List ax) (v:Nat):oH w l (v+1)=oH w l v++(if ov w l v then [v] else []):=by
 unfold oH;rw [List.range_succ,List.filter_append,List.filter_cons];rfl
theorem U5 (w:bT) (l:List ax) (v:Nat):v∉oH w l v:=fun h=>by
 have:=List.mem_range.1 (List.mem_filter.1 h).1;omega
theorem U6 (w:bT) (l:List ax) (v:Nat):(oH w l v).length≤v:=by
 have:=List.length_filter_le (ov w l) (List.range v);rw [List.length_range] at this;exact this
theorem FP (p:b9) (aN:gS p) (eD:hg p=true) (n:Int) (l:List ax) (an cm cd:Nat) (gT:l.length≤7) (cU:iV (cu p) l) (eT:l.Nodup) (fV:zl p n l) :
  bu Tryz.prog 59 [.ptr cd 0] [dI p n (c8 l) (.aA 0 [] .nil) an cm cd,(.own an,.map [])] (fun o K=>o = .ret (.cl [])∧K=[dI p n (c8 l) (.aA 1 (iw (hO (cu p) l)) .bd) an cm cd,(.own an,.map (zp p n l (hO (cu p) l)))]):=by
 have k0:bt=1099511627776:=rfl;have w2:2^l.length≤2^7:=Nat.pow_le_pow_right ai gT;have uN:=fun vs v h=>Lr p eD n l vs an cm cd gT cU eT v h
 have wP:=fun vs v h=>Le p aN eD n l vs an cm cd gT cU fV v h
 have A3:hO (cu p) l=oH (cu p) l (2^l.length):=rfl;refine bu.bp ak call59 Tryz.func59 C C fun s I=>?_
 unfold dI dx c8 at *;refine cn I ?_;intro I;refine aa.shl ((2^l.length:Nat):Int) C C C C C C ai (by rw [List.length_map];exact FO gT) ?_;refine fA ?_;refine af.kz I 3 1 0 fun I=>?_
 refine af.py I (dx p n (c8 l) (.aA 1 (iw []) .nil) an cm) (kb:=cd) a1 (by
  unfold dx c8
  repeat (first|exact cA.nil|refine cA.cons (by first|exact aR|exact a8.nil jO) ?_)) (fun I=>?_)
 unfold dx c8 at I ⊢;refine af.cT [0,8] C I (σ:=Nat×bU) (fun q=>[(9,.int .i64 (q.1:Int))]) (fun q=>[(q.2,.row 3 1 (oH (cu p) l q.1).length),dI p n (c8 l) (.aA 1 (iw (oH (cu p) l q.1)) q.2) an cm cd,(.own an,.map (zp p n l (oH (cu p) l q.1)))]) (fun q=>q.1≤2^l.length) (fun q=>2^l.length-q.1) (0,.nil)
  (Nat.zero_le _) (c3 C) (by simp only [dI,dx,c8];repeat (first|exact au.nil|(apply au.cons;· repeat (first|exact aP.here|apply aP.there)))) ?_
 rintro ⟨v,fK⟩ av I;simp only [dI,dx,c8,iw,zp] at av I ⊢;refine cL ?_;refine af.cond C (fun aG=>?_) (fun bk=>?_);rotate_left
 ·have bk:v=2^l.length:=Nat.le_antisymm av (Int.ofNat_le.1 (Int.not_lt.1 (of_decide_eq_false bk)))
  subst bk;rw [A3]
  refine af.py I (dx p n (c8 l) (.aA 1 (iw (oH (cu p) l (2^l.length))) .bd) an cm) (kb:=cd) a1 (by
   unfold dx c8
   repeat (first|exact cA.nil|refine cA.cons (by first|exact aR|exact a8.bd) ?_)) (fun I=>?_)
  refine fJ ?_;exact Fin.bH I C aR (by simp only [dI,dx,c8];repeat (first|exact au.nil|(apply au.cons;· repeat (first|exact aP.here|apply aP.there)))) ⟨rfl,rfl⟩
 have aG:v<2^l.length:=Int.ofNat_lt.1 (of_decide_eq_true aG);have U7:=fun vs=>uN vs v ai
 have U8:=fun vs=>wP vs v ai
 have B4:=U4 (cu p) l v;have fa:=U6 (cu p) l v;refine bP ?_;refine aa.b0 rfl rfl rfl rfl rfl (U7 (.aA 1 ((oH (cu p) l v).map fun v:Nat => .int .i64 (v:Int)) fK)) I bM ?_ (fun _ _ ⟨h,_⟩ _=>by cases h);rintro _ _ ⟨⟨⟩,rfl⟩ I;simp only [List.nil_append,List.cons_append] at I ⊢;cases uD:ov (cu p) l v with
 | false=>
  rw [uD,if_neg bn,List.append_nil] at B4;refine bP ?_;exact bX.mk (v+1,fK) I aG c7 (by simp only [B4];exact bM) (by show 2^l.length-(v+1)<2^l.length-v;omega)
 | true=>
  rw [uD,if_pos C] at B4;refine cn I ?_;intro I;refine aa.iN ak I C C C C C C C eQ C C C C C C C C a1 k4 mK ai (fun ct I=>?_);refine cn I ?_;intro I;have U9:=U8 (.aA 1 ((oH (cu p) l v).map (fun v:Nat=>ad.int .i64 (v:Int))++[.int .i64 (v:Int)]) (.own ct));have Kg:=LA (fun v=>bI (dw p n l v)) (bI (dw p n l v)) v _ (U5 (cu p) l v);refine af.o3 (di [(cd,_)]) ak mixed C (bm.run (di.one (aP.get a1 I)) C ?_);refine bm.mI 3 ak (di.one (aP.get a1 I)) C C C C C C C C (fun _ h=>di.fst h) b3 ?_;refine bm.run (di.one (aP.get a1 I)) C ?_;refine bm.b0 rfl rfl rfl rfl rfl rfl rfl U9 I bM (fun _ _ h I=>by obtain ⟨-,rfl⟩:=h;exact .inl (di.one (aP.get .here I))) ?_ (fun _ _ ⟨h,_⟩ _=>by cases h);rintro _ _ ⟨⟨⟩,rfl⟩ I;simp only [List.nil_append,List.cons_append] at I ⊢;refine bm.run (di.one (aP.get a1 I)) C ?_;refine bm.lF 8 ak I C C C C (.inl C) C C C C C C a1 C Kg (fun _ => .inr C) (fun I=>?_);refine bf.done C ?_;refine gi ?_;exact bX.mk (v+1,.own ct) I aG c7 (by simp only [B4,List.map_append,List.map_cons,List.map_nil,List.length_append,List.length_cons,List.length_nil];exact bM) (by show 2^l.length-(v+1)<2^l.length-v;omega)
end Go.Proofs.YtnafpeohfbglmaaGreat
namespace Go.bY
open Go.Proofs.YtnafpeohfbglmaaGreat
theorem U' (l:List ax) (f:ax):(jj l f).any (fun y=>fW y f)=true:=by
 unfold jj;split
 ·assumption
 ·rw [List.any_append];simp [Lg]
theorem Va {l:List ax} {f x:ax} (h:l.any (fun y=>fW y x)=true):(jj l f).any (fun y=>fW y x)=true:=by
 unfold jj;split
 ·exact h
 ·rw [List.any_append,h];rfl
theorem FQ {x:ax}:∀ (cP l:List ax),l.any (fun y=>fW y x)=true→(cP.foldl jj l).any (fun y=>fW y x)=true
 | [],_,h=>h
 | a::r,l,h=>FQ r _ (Va h)
theorem LB {x:ax}:∀ (cP l:List ax),x∈cP→(cP.foldl jj l).any (fun y=>fW y x)=true
  | a::r,l,h=>by
    rw [List.foldl_cons];rcases List.mem_cons.1 h with rfl|h
    · exact FQ r _ (U' l x)
    · exact LB r _ h
theorem LC {gen:Int} {x:ax}:∀ (ms:List kC) (l:List ax),l.any (fun y=>fW y x)=true→(ms.foldl (kM gen) l).any (fun y=>fW y x)=true
 | [],_,h=>h
 | m::r,l,h=>LC r _ (by unfold kM;split;exact FQ _ _ h;exact h)
theorem LD {gen:Int} {x:ax}:∀ (ms:List kC) (l:List ax) (m:kC),m∈ms→m.gen=gen→x∈lj m.fact→(ms.foldl (kM gen) l).any (fun y=>fW y x)=true
  | a::r,l,m,h,ao,ab=>by
    rw [List.foldl_cons];rcases List.mem_cons.1 h with rfl|h
    · exact LC r _ (by unfold kM;rw [if_pos ao];exact LB _ _ ab)
    · exact LD r _ m h ao ab
theorem Vb (p:b9) (gen:Int):zl p gen (cI p gen):=fun m hm ao x ab=>LD p.methods [] m hm ao ab
theorem Vc {p:b9} {gen:Int} (h:e3 p gen=0):hg p=true∧rJ p gen=true∧(cI p gen).length≤7:=by
 unfold e3 at h;split at h
 ·rename_i U
  rw [Bool.and_eq_true] at U;split at h
  ·exact ⟨U.1,U.2,by assumption⟩
  ·omega
 ·omega
theorem LF {w:bT} {l:List ax} {v:Nat} (h:v∈hO w l):v<2^l.length:=by
 unfold hO at h;exact List.mem_range.1 (List.mem_filter.1 h).1
theorem zq (w:bT) (l:List ax):(hO w l).length≤2^l.length:=by
 unfold hO;have:=List.length_filter_le (ov w l) (List.range (2^l.length));rw [List.length_range] at this;exact this
end Go.bY
namespace Go.Proofs.YtnafpeohfbglmaaGreat
open Go.bj Go.bY
def B5 (p:b9) (n:Int):ad := .cl [if e3 p n=0 then c8 (cI p n) else .aA 0 [] .nil,.int .i64 (e3 p n)]
def B6 (p:b9) (n:Int):ad := .cl [if e3 p n=0 then .aA 1 (iw (hO (cu p) (cI p n))) .bd else .aA 0 [] .nil,.int .i64 (e3 p n)]
def FR (p:b9) (n v:Int):Bool:=decide (0≤v)&&(decide (v<((2^(cI p n).length:Nat):Int))&&ov (cu p) (cI p n) v.toNat)
def w3 (p:b9) (n v:Int):Int:=if e3 p n=0 then (if FR p n v then 0 else 5) else e3 p n
def B7 (p:b9) (n v:Int):ad := .cl [if w3 p n v=0 then bI (dw p n (cI p n) v.toNat) else .aA 0 [] .nil,.int .i64 (w3 p n v)]
theorem rU {p:b9} {n:Int} (he:e3 p n=0):hg p=true∧(cI p n).length≤7∧iV (cu p) (cI p n)∧(cI p n).Nodup∧zl p n (cI p n):=by
 obtain ⟨U,-,ae⟩:=Vc he;exact ⟨U,ae,(Uy U n).1,UM p n,Vb p n⟩
theorem FT (p:b9) (aN:gS p) (n:Int):a7 Tryz.prog 25 [ee p,.int .i64 n] (B5 p n):=by
 have an:=bQ;refine a7.bp ak call25 Tryz.func25 C C fun s I=>?_
 have aV:=zf p aN n;unfold B5;unfold ee dC at *;refine dF ?_;refine aa.b0 rfl rfl rfl rfl rfl aV I .nil ?_ (fun _ _ h _=>by rcases h with ⟨_,_,_,_,h,_⟩|⟨_,⟨_,h⟩,_⟩<;>cases h);rintro _ _ (⟨he,cd,an,cm,⟨⟩,rfl⟩|⟨he,⟨v,⟨⟩⟩,rfl⟩) I
 ·rw [he,if_pos C]
  simp only [List.cons_append,List.nil_append] at I ⊢;unfold dx c8 at *;refine gu I ?_;intro I;exact bA I
 ·rw [if_neg he]
  simp only [List.nil_append] at I ⊢;refine cC ?_;refine af.cond C (fun _=>?_) (fun h=>absurd gn he);refine j' ?_;exact bA I
theorem FU (p:b9) (aN:gS p) (n:Int):a7 Tryz.prog 27 [ee p,.int .i64 n] (B6 p n):=by
 have an:=bQ;refine a7.bp ak call27 Tryz.func27 C C fun s I=>?_
 have aV:=zf p aN n;unfold B6;unfold ee dC at *;refine dF ?_;refine aa.b0 rfl rfl rfl rfl rfl aV I .nil ?_ (fun _ _ h _=>by rcases h with ⟨_,_,_,_,h,_⟩|⟨_,⟨_,h⟩,_⟩<;>cases h);rintro _ _ (⟨he,cd,an,cm,⟨⟩,rfl⟩|⟨he,⟨v,⟨⟩⟩,rfl⟩) I
 ·rw [he,if_pos C]
  obtain ⟨eD,gT,cU,eT,fV⟩:=rU he;have kg:=FP p aN eD n (cI p n) an cm cd gT cU eT fV;simp only [List.cons_append,List.nil_append] at I ⊢;unfold dI dx c8 at *;refine bP ?_;refine aa.b0 rfl rfl rfl rfl rfl kg I bM ?_ (fun _ _ ⟨h,_⟩ _=>by cases h);rintro _ _ ⟨⟨⟩,rfl⟩ I;simp only [List.cons_append,List.nil_append] at I ⊢;refine cn I ?_;intro I;exact bA I
 ·rw [if_neg he]
  simp only [List.nil_append] at I ⊢;refine cC ?_;refine af.cond C (fun _=>?_) (fun h=>absurd gn he);refine j' ?_;exact bA I
theorem FV (p:b9) (aN:gS p) (n v:Int):a7 Tryz.prog 29 [ee p,.int .i64 n,.int .i64 v] (B7 p n v):=by
 have an:=bQ;refine a7.bp ak call29 Tryz.func29 C C fun s I=>?_
 have aV:=zf p aN n;have hm:w3 p n v=if e3 p n=0 then (if FR p n v then 0 else 5) else e3 p n:=rfl
 unfold B7;unfold ee dC at *;refine dF ?_;refine aa.b0 rfl rfl rfl rfl rfl aV I .nil ?_ (fun _ _ h _=>by rcases h with ⟨_,_,_,_,h,_⟩|⟨_,⟨_,h⟩,_⟩<;>cases h);rintro _ _ (⟨he,cd,an,cm,⟨⟩,rfl⟩|⟨he,⟨v,⟨⟩⟩,rfl⟩) I
 ·obtain ⟨eD,gT,cU,eT,fV⟩:=rU he
  have w2:2^(cI p n).length≤2^7:=Nat.pow_le_pow_right ai gT;rw [if_pos he] at hm;have av:FR p n v=(decide (0≤v)&&(decide (v<((2^(cI p n).length:Nat):Int))&&ov (cu p) (cI p n) v.toNat)):=rfl;simp only [List.cons_append,List.nil_append] at I ⊢;unfold dx c8 at I ⊢;refine bP ?_;by_cases U:v<0
  ·refine aa.eH 23 C (decide_eq_true U) ?_
   rw [av,show decide (0≤v)=false by simp;omega,Bool.false_and,if_neg bn] at hm;rw [hm,if_neg bn];refine cC ?_;exact bA I
  refine aa.dR 23 C (decide_eq_false U) ?_;obtain ⟨u,rfl⟩:∃ u:Nat,v=u:=⟨v.toNat,by omega⟩;rw [decide_eq_true (Int.natCast_nonneg u),Bool.true_and,Int.toNat_natCast] at av;rw [Int.toNat_natCast];refine cn I ?_;intro I;refine aa.shl ((2^(cI p n).length:Nat):Int) C C C C C C ai (by rw [List.length_map];exact FO gT) ?_;refine d' ?_;by_cases ae:(u:Int)<((2^(cI p n).length:Nat):Int);rotate_left
  ·refine aa.eH 33 C (decide_eq_true (Int.not_lt.1 ae)) ?_
   rw [av,decide_eq_false ae,Bool.false_and,if_neg bn] at hm;rw [hm,if_neg bn];refine cC ?_;exact bA I
  refine aa.dR 33 C (decide_eq_false (Int.not_le.2 ae)) ?_;have al:u<2^(cI p n).length:=Int.ofNat_lt.1 ae;rw [decide_eq_true ae,Bool.true_and] at av;have uN:=Lr p eD n (cI p n) (.aA 0 [] .nil) an cm cd gT cU eT u ai;have wP:=Le p aN eD n (cI p n) (.aA 0 [] .nil) an cm cd gT cU fV u ai;unfold dI dx c8 at uN wP;refine d' ?_;refine aa.b0 rfl rfl rfl rfl rfl uN I bM ?_ (fun _ _ ⟨h,_⟩ _=>by cases h);rintro _ _ ⟨⟨⟩,rfl⟩ I;simp only [List.cons_append,List.nil_append] at I ⊢;cases aE:ov (cu p) (cI p n) u with
  | false=>
   rw [av,aE,if_neg bn] at hm;rw [hm,if_neg bn];refine cC ?_;exact bA I
  | true=>
   rw [av,aE,if_pos C] at hm;rw [hm,if_pos C];refine bP ?_;refine aa.b0 rfl rfl rfl rfl rfl wP I bM ?_ (fun _ _ ⟨h,_⟩ _=>by cases h);rintro _ _ ⟨⟨⟩,rfl⟩ I;simp only [List.cons_append,List.nil_append] at I ⊢;refine dO ?_;exact bA I
 ·rw [if_neg he] at hm
  rw [hm,if_neg he];simp only [List.nil_append] at I ⊢;refine bP ?_;refine af.cond C (fun _=>?_) (fun h=>absurd gn he);refine mh ?_;exact bA I
end Go.Proofs.YtnafpeohfbglmaaGreat
