import Derived.KernelRfl
import Derived.Test.YtnafpeohfbglmaaGreatSa
import Derived.Laws.IdiomRangeMap
set_option linter.unusedVariables false
set_option linter.unusedSimpArgs false
open Array renaming getElem?_eq_some_iff→i9,getElem?_setIfInBounds→ag5
open Bool renaming and_eq_true→f8
open Go.IntKind renaming wrap→t7
open List renaming append_nil→d6,cons_append→aa',map_cons→ae3,mem_cons_self→i6,mem_cons→af2,mem_range'_1→aq7
open Nat renaming beq_refl→at9,beq→af0,ble→ao5,blt_eq→an3,blt→t8,eq_of_beq_eq_true→ae0,zero_le→g7
open Go.Result renaming andThen_ok→i5
open Go.Sem renaming runT_eq→au7,run_bind→ac',run_pure→ae6
namespace Go.Proofs.YtnafpeohfbglmaaGreat
theorem Dm {p:Prop} (h:p:=by simpa [Nat.blt_eq] using aU):p:=h
theorem iW {p:Prop} (h:p:=by simp [gJ,ai]):p:=h
def Dn:dH→Bool
 | .lz _ _ _ _=>false
 | _=>true
theorem Lc {w w':World} {p bj:bV} {b:Nat} {o:dH} (a7:Dn o=true) (h:q0 w p b o) (hle:dg w p w' bj) (cY:w'.heap[b]? = w.heap[b]?) (aF:∀ x,bj b x→p b x):q0 w' bj b o:=by
 cases o with
 | box t c=>obtain ⟨us,g1,g2,g3⟩:=h;exact ⟨us,cY.trans g1,g2.mono hle,fun o ai=>g3 o (aF o ai)⟩
 | row t sz n=>obtain ⟨cur,g1,g2,g3,g4⟩:=h;exact ⟨cur,cY.trans g1,g2,g3,fun o=>⟨fun ai=>(g4 o).1 (aF o ai),fun ai=>hle.ly _ _ ((g4 o).2 ai)⟩⟩
 | map es=>obtain ⟨cQ,c,g1,g2,g3⟩:=h;exact ⟨cQ,c,cY.trans g1,⟨g2.1.mono hle,g2.2.mono hle⟩,g3⟩
 | lz es it l c=>cases a7
 | tick m=>obtain ⟨dE,a2,a3,g1⟩:=h;exact ⟨dE,a2,a3,cY.trans g1⟩
 | loop r env=>exact ⟨cY.trans h.1,fun t v aw=>(h.2 t v aw).mono hle⟩
theorem Dp {s aj:ao} {w w':World} {p bj:bV} {b:Nat} {o:dH} (an:s b=none) (a7:Dn o=true) (cf:dx w p (s.set b o)) (hle:dg w p w' bj) (aE:Kept s aj w p w' bj) (k7:dx w' bj aj) :
  aj b=none∧Kept (s.set b o) (aj.set b o) w p w' bj∧dx w' bj (aj.set b o):=by
 have ai:=cf.obj b o (ao.gn _ _ _);have au:=ai.lt;have az:=aE.k2 b au an;refine ⟨az,⟨fun aY dO ar=>?_,fun aY dO ar=>?_,fun aY x dO ar ab=>?_⟩,⟨fun aY o' dO=>?_,k7.lt⟩⟩
 ·obtain ⟨U,ad⟩:=ao.uK ar;exact aE.heap aY dO ad
 ·obtain ⟨U,ad⟩:=ao.uK ar;rw [ao.fG _ _ U];exact aE.k2 aY dO ad
 ·obtain ⟨U,ad⟩:=ao.uK ar;exact aE.ly aY x dO ad ab
 ·by_cases e:aY=b
  ·subst e
   rw [ao.gn] at dO;cases dO;exact Lc a7 ai hle (aE.heap aY au an) (fun x ab=>aE.ly aY x au an ab)
  ·rw [ao.fG _ _ e] at dO;exact k7.obj aY o' dO
theorem hY.frame {P:Program} {fv:ag} {args:List ag} {s:ao} {R:eC→ao→Prop} (b:Nat) (o:dH) (an:s b=none) (a7:Dn o=true) (h:hY P fv args s R) :
  hY P fv args (s.set b o) (fun out aj=>∃ s₁,s₁ b=none∧aj=s₁.set b o∧R out s₁):=by
 intro w p v vs cf aw eP;refine (h w p v vs (cf.sub (ao.wk s b o an)) aw eP).mono ?_;rintro e w' ⟨out,aj,bj,U,ad,al,bf,bE⟩;obtain ⟨cE,dq,fl⟩:=Dp an a7 cf al bf bE;exact ⟨out,aj.set b o,bj,U,⟨aj,cE,rfl,ad⟩,al,dq,fl⟩
theorem hp.frame {P:Program} {f:FuncId} {args:List ag} {s:ao} {R:eC→ao→Prop} (b:Nat) (o:dH) (an:s b=none) (a7:Dn o=true) (h:hp P f args s R) :
  hp P f args (s.set b o) (fun out aj=>∃ s₁,s₁ b=none∧aj=s₁.set b o∧R out s₁):=by
 refine ⟨h.1,fun w p vs cf eP=>?_⟩;refine (h.2 w p vs (cf.sub (ao.wk s b o an)) eP).mono ?_;rintro e w' ⟨out,aj,bj,U,ad,al,bf,bE⟩;obtain ⟨cE,dq,fl⟩:=Dp an a7 cf al bf bE;exact ⟨out,aj.set b o,bj,U,⟨aj,cE,rfl,ad⟩,al,dq,fl⟩
theorem hY.drop {P:Program} {fv:ag} {args:List ag} {s aj:ao} {R:eC→ao→Prop} (ar:ao.Sub aj s) (h:hY P fv args aj R):hY P fv args s R:=by
 intro w p v vs cf aw eP;refine (h w p v vs (cf.sub ar) aw eP).mono ?_;rintro e w' ⟨out,eO,bj,U,ad,al,bf,bE⟩;exact ⟨out,eO,bj,U,ad,al,bf.ym ar,bE⟩
theorem hp.drop {P:Program} {f:FuncId} {args:List ag} {s aj:ao} {R:eC→ao→Prop} (ar:ao.Sub aj s) (h:hp P f args aj R):hp P f args s R:=by
 refine ⟨h.1,fun w p vs cf eP=>(h.2 w p vs (cf.sub ar) eP).mono ?_⟩;rintro e w' ⟨out,eO,bj,U,ad,al,bf,bE⟩;exact ⟨out,eO,bj,U,ad,al,bf.ym ar,bE⟩
def l3 (l:Nat):ag := .hG (.func (.yield l) #[] #[])
def AB:List Tmp→List ag→Env→Env
 | t::gw,v::vs,env=>AB gw vs ((t,v)::env)
 | _,_,env=>env
theorem To {N:Nat} {B:fV} {ro:Option Nat} {s:ao} {w:World} {p:bV} {ds:List Deferred}:∀ (gw:List Tmp) (us:List Value) (vs:List ag) (env:Env) (tmps:Array Value),
  gw.length=us.length→bH w p us vs→(∀ t∈gw,t<N)→dI N B ro env s { tmps:=tmps,defers:=ds } w p →
  dI N B ro (AB gw vs env) s { tmps:=(gw.zip us).foldl (fun tmps (t,a)=>tmps.setIfInBounds t a) tmps,defers:=ds } w p:=by
 intro gw
 induction gw with
 | nil=>intro us vs env tmps aC aD _ aI;exact aI
 | cons t gw a1=>
  intro us vs env tmps aC aD aU aI;cases us with
  | nil=>simp at aC
  | cons u us=>
   cases aD with
   | cons _ v _ vs hu aN=>
   simp only [AB,List.zip_cons_cons,List.foldl_cons];exact a1 us vs _ _ (by simpa using aC) aN (fun bI c0=>aU bI (List.mem_cons_of_mem _ c0)) (aI.put (aU t (i6 ..)) hu)
section
variable {P:Program} {Γ:cA} {N:Nat} {Q:b9→Env→ao→Prop} {env:Env} {s:ao}
def busy (r:Loop):Loop:={ r with state := .busy }
def rl (r:Loop) (j:Code):Loop:={ r with state := .done,pending:=some j }
theorem Gy {w:World} {p:bV} {s:ao} (cf:dx w p s) {l:Nat} {r r':Loop} {env:Env} (ar:s l=some (.loop r env)) (aN:r'.tmps=r.tmps) (w':World) (iS:w'={ w with heap:=w.heap.setIfInBounds l (.loop r') }) :
  dg w p w' p∧Kept s (s.set l (.loop r' env)) w p w' p∧dx w' p (s.set l (.loop r' env)):=by
 subst iS;have U:w.heap[l]? = some (.loop r):=(cf.obj _ _ ar).1;have ad:=(cf.obj _ _ ar).2;have au:l<w.heap.size:=(i9.1 U).1;have pv:(w.heap.setIfInBounds l (.loop r'))[l]? = some (.loop r'):=by simp [ag5,au]
 have h5:∀ k,k≠l→(w.heap.setIfInBounds l (.loop r'))[k]? = w.heap[k]? := fun k aE=>by
  rw [ag5,f0 (fun e=>aE e.symm)]
 have hle:dg w p { w with heap:=w.heap.setIfInBounds l (.loop r') } p:=by
  refine ⟨rfl,rfl,rfl,by simp,fun _ _ h=>h,fun b o aF=>?_,fun b x ab=>?_⟩
  ·by_cases e:b=l
   ·subst e;simp only [World.cell?,U,pv]
   ·exact yo (h5 b e)
  ·by_cases e:b=l
   ·subst e;simp [World.k1,U] at ab
   ·rw [yn (h5 b e)];exact ab
 refine ⟨hle,⟨fun b an az=>h5 b (fun e=>by rw [e,ar] at az;simp at az),fun b an az=>?_,fun _ _ _ _ h=>h⟩,⟨fun b o an=>?_,fun b o aF=>by simpa using cf.lt b o aF⟩⟩
 ·rw [ao.fG]
  ·exact az
  ·intro e;rw [e,ar] at az;simp at az
 ·by_cases e:b=l
  ·subst e
   rw [ao.gn] at an;cases an;exact ⟨pv,fun t v aw=>by rw [aN];exact (ad t v aw).mono hle⟩
  ·rw [ao.fG _ _ e] at an
   have ai:=cf.obj b o an;cases o with
   | lz es it lH c=>exact ai.q1 hle (h5 b e) (h5 it (ai.z8 U ba))
   | _=>exact Lc C ai hle (h5 b e) (fun _ h=>h)
def Dq (Rn:ao→Prop) (Rj:Code→ao→Prop) (Rp:ag→ao→Prop):b9→Env→ao→Prop
 | .normal,_,s=>Rn s
 | .ret,_,s=>Rj .ret s
 | .exit id,_,s=>Rj (.exit id) s
 | .panic v,_,s=>Rp v s
theorem AD {w:World} {l:Nat} {r:Loop} (h:w.heap[l]? = some (.loop r)):(Instr.getLoop l).run P w = .ok r w:=by
 unfold Instr.getLoop;simp only [ac',yx h C,i5,ae6]
theorem Gz {w:World} {r:Nat} {o o':Obj} (h:w.heap[r]? = some o) (aB:C7 o=true):(setObj r o').run P w = .ok () { w with heap:=w.heap.setIfInBounds r o' }:=by
 cases o<;>first|(simp [C7] at aB;done)|simp [setObj,Sem.run,h]
theorem Tp {l:Nat} {r:Loop} {fn:Func} {a:Act} (e4:P.funcs[r.fn]? = some fn) (Tq:r.state = .ready)
  {args:List ag} {s₁:ao} {Rn:ao→Prop} {Rj:Code→ao→Prop} {Rp:ag→ao→Prop}
  (aD:s₁ l=some (.loop r env)) (yG:args.length=r.params.size) (cc:r.tmps.size=N) (Tr:∀ t∈r.params.toList,t<N)
  (tc:ae P N r.assign (b9.andThen (ae P N r.body (Dq Rn Rj Rp)) (fun _ _ _=>False)) (AB r.params.toList args env) (s₁.del l))
  (w:World) (p:bV) (vs:List Value) (cf:dx w p s₁) (eP:bH w p vs args) :
  p7 P ((do let d ← Deferred.ofValue (.func (.yield l) #[] #[]) vs.toArray;invoke d.target d.args:Sem Next).run P w)
   (wz s₁ w p fun o aj=>(o = .ret (.bool true)∧∃ dN,dN l=none∧aj=dN.set l (.loop { busy r with state := .ready,pending:=none } env)∧Rn dN) ∨
    (o = .ret (.bool false)∧∃ j dN,dN l=none∧aj=dN.set l (.loop (rl r j) env)∧Rj j dN) ∨
    (∃ v dN,o = .panic v∧dN l=none∧aj=dN.set l (.loop (busy r) env)∧Rp v dN)):=by
 have U:w.heap[l]? = some (.loop r):=(cf.obj _ _ aD).1;have De:=(cf.obj _ _ aD).2;have au:l<w.heap.size:=(i9.1 U).1;have cS:(do let d ← Deferred.ofValue (.func (.yield l) #[] #[]) vs.toArray;invoke d.target d.args:Sem Next).run P w =
   .ok (.round l r.fn ((r.params.zip vs.toArray).foldl (fun tmps (t,a)=>tmps.setIfInBounds t a) r.tmps) r.assign r.body) w:=by
  have aC:vs.length=r.params.size:=by rw [eP.length,yG]
  simp only [Deferred.ofValue,ac',ae6,i5,invoke,Instr.yield,AD U];simp [aC]
 rw [cS];have hU:ao.Sub (s₁.del l) s₁:=fun b=>by
  by_cases e:b=l
  ·subst e;exact .inr (ao.nN _ _)
  ·exact .inl (ao.m3 _ e)
 have Ld:s₁=(s₁.del l).set l (.loop r env):=by
  funext b;by_cases e:b=l
  ·subst e;rw [ao.gn];exact aD
  ·rw [ao.fG _ _ e,ao.m3 _ e]
 have Ts:((r.params.zip vs.toArray).foldl (fun tmps (t,a)=>tmps.setIfInBounds t a) r.tmps)=(r.params.toList.zip vs).foldl (fun tmps (t,a)=>tmps.setIfInBounds t a) r.tmps:=by
  rw [← Array.foldl_toList];simp
 have Dr:s₁.del l l=none:=ao.nN _ _;have GA:dI N (0,[]) (some l) env (s₁.del l) { tmps:=r.tmps,defers:=[] } w p:=
  ⟨cc,De,cf.sub hU,⟨[],rfl,by simp,by simp⟩,fun lH ql=>by cases ql;exact ⟨rfl,⟨r,U⟩,Dr⟩,g7 _⟩
 have aI:=To r.params.toList vs args env r.tmps (by rw [eP.length,yG,Array.length_toList]) eP Tr GA;rw [Ts];refine RS e4 fun b ie jQ=>?_
 rw [← ie] at aI;refine mq (tc b (0,[]) _ w p (by rw [jQ,e4];rfl) aI) ?_;rintro FX iQ w₁ ⟨CM,po,dN,p₁,Tt,Ds,lA,Dt,GB⟩;cases Tt with
 | exit id=>exact Ds.elim
 | ret=>exact Ds.elim
 | panic v x dJ ki aw=>exact Ds.elim
 | normal=>
 have lC:w₁.heap[l]? = some (.loop r):=(GB.heap l au Dr).trans U;have tx:dN l=none:=GB.k2 l au Dr;have Tu:(Instr.beginRound l).run P w₁ = .ok () { w₁ with heap:=w₁.heap.setIfInBounds l (.loop (busy r)) }:=by
  unfold Instr.beginRound;simp only [ac',AD lC,i5,Gz lC C,Tq];rfl
 refine ⟨_,Tu,?_⟩;obtain ⟨f1,f2,f3⟩:=Dp (s:=s₁.del l) (b:=l) (o := .loop r env) Dr rfl (by rw [← Ld];exact cf) Dt GB lA.wf;obtain ⟨g1,g2,g3⟩:=Gy (r':=busy r) f3 (ao.gn _ _ _) rfl _ rfl;rw [ao.set_set] at g2 g3;have j7:({ w₁ with heap:=w₁.heap.setIfInBounds l (.loop (busy r)) }:World).heap[l]? = some (.loop (busy r)):=(g3.obj _ _ (ao.gn _ _ _)).1;have AE:dx { w₁ with heap:=w₁.heap.setIfInBounds l (.loop (busy r)) } p₁ dN:=g3.sub (ao.wk _ _ _ tx);have wL:dI N (0,[]) b.roundOf po dN iQ { w₁ with heap:=w₁.heap.setIfInBounds l (.loop (busy r)) } p₁:=by
  refine ⟨lA.size,fun t v aw=>(lA.env t v aw).mono g1,AE,?_,fun lH ql=>?_,g7 _⟩
  ·obtain ⟨ax,-,-⟩:=lA.round l ie
   exact ⟨[],by simpa [marksOf] using ax,by simp,by simp⟩
  ·rw [ie] at ql;cases ql
   exact ⟨(lA.round l ie).1,⟨_,j7⟩,tx⟩
 refine mq (Ds b (0,[]) iQ _ p₁ (by rw [jQ,e4];rfl) wL) ?_;rintro e₃ a₃ iR ⟨x₃,ac2,uT,tz,Tv,Du,Le,Lf,GC⟩;have cI:l<({ w₁ with heap:=w₁.heap.setIfInBounds l (.loop (busy r)) }:World).heap.size:=(i9.1 j7).1;have mF:iR.heap[l]? = some (.loop (busy r)):=(GC.heap l cI tx).trans j7;have uU:uT l=none:=GC.k2 l cI tx;obtain ⟨cE,dq,fl⟩:=Dp (b:=l) (o := .loop (busy r) env) tx rfl g3 Lf GC Le.wf;have GD:dg w p iR tz:=(Dt.trans g1).trans Lf;have Lg:Kept s₁ (uT.set l (.loop (busy r) env)) w p iR tz:=by
  have b2:Kept s₁ (dN.set l (.loop r env)) w p w₁ p₁:=by rw [Ld];exact f2
  exact (b2.trans Dt.size g2).trans (Dt.trans g1).size dq
 have fin:∀ (jump:Option Code),∃ lV,(Instr.endRound l jump).run P iR = .ok (.bool jump.isNone) lV ∧
   dg w p lV tz∧Kept s₁ (uT.set l (.loop { busy r with state:=if jump.isNone then .ready else .done,pending:=jump } env)) w p lV tz∧dx lV tz (uT.set l (.loop { busy r with state:=if jump.isNone then .ready else .done,pending:=jump } env)):=by
  intro jump;obtain ⟨ea,dj,dQ⟩:=Gy (r':={ busy r with state:=if jump.isNone then .ready else .done,pending:=jump }) fl (ao.gn _ _ _) rfl _ rfl;rw [ao.set_set] at dj dQ;refine ⟨_,?_,GD.trans ea,Lg.trans GD.size dj,dQ⟩;unfold Instr.endRound;simp only [ac',AD mF,i5,Gz mF C,ae6]
 cases Tv with
 | normal=>
  obtain ⟨lV,e8,fB,gq,jl⟩:=fin none;exact ⟨_,lV,e8,.ret (.bool true),_,tz,.bool _,.inl ⟨rfl,uT,uU,rfl,Du⟩,fB,gq,jl⟩
 | ret=>
  obtain ⟨lV,e8,fB,gq,jl⟩:=fin (some .ret);exact ⟨_,lV,e8,.ret (.bool false),_,tz,.bool _,.inr (.inl ⟨rfl,.ret,uT,uU,rfl,Du⟩),fB,gq,jl⟩
 | exit id=>
  obtain ⟨lV,e8,fB,gq,jl⟩:=fin (some (.exit id));exact ⟨_,lV,e8,.ret (.bool false),_,tz,.bool _,.inr (.inl ⟨rfl,.exit id,uT,uU,rfl,Du⟩),fB,gq,jl⟩
 | panic v x dJ ki aw=>
  refine ⟨(Le.round l ie).1,.panic x,_,tz,⟨v,ki,aw⟩,.inr (.inr ⟨x,uT,rfl,uU,rfl,Du⟩),GD,Lg,fl⟩
end
section
variable {P:Program} {Γ:cA} {N:Nat} {Q:b9→Env→ao→Prop} {env:Env} {s:ao}
theorem Tw (b:Frame) (a:Act) (k:List Item) (l:Nat) (v:Value):(b.atR a (.inRangeFunc l::k)).finish v=b.atR a (.endRangeFunc l::k):=by
 simp [Frame.finish,Frame.atR]
theorem Lh {b:Frame} {a:Act} {k:List Item} {cs:List Frame} {w w':World} {l:Nat} {jump:Option Code} (h:(Instr.endLoop l).run P w = .ok jump w') :
  step P (lone (b.atR a (.endRangeFunc l::k)) cs w) = .next (lone (b.atR a ((jump.map Item.code).toList++k)) cs w'):=
 step_lone_go (by simp [stepG,stepG.exec,Frame.atR,au7,h,GStep.bare_after])
def GF (g:Operand) (l:Nat):Call:={ callee := .value g,args := #[.const (.func (.yield l) #[] #[])],argTypes := #[] }
theorem Tx {b:Frame} {a:Act} {k:List Item} {cs:List Frame} {w:World} {g:Operand} {ps:Array Tmp} {hl body:Code} {l:Nat} {mark:List Deferred} {w₁ hT:World} {f:FuncId} {args:Array Value}
  (he:(Instr.enterLoop b.fn a.tmps ps hl body b.roundOf).run P w = .ok (l,mark) w₁)
  (hinv:(do let d ← resolve a.eval (GF g l) 0;invoke d.target d.args:Sem Next).run P w₁ = .ok (.enter f args) hT) :
  step P (lone (b.atR a (.code (.rangeFunc g ps hl body)::k)) cs w) =
   .next (lone (Frame.enter P f args .normal) (b.atR { a with defers:=mark++a.defers } (.inRangeFunc l::k)::cs) hT):=
 step_lone_go (by
  have qg:=Frame.eval_atR b { a with defers:=mark++a.defers } (.inRangeFunc l::k)
  simp only [Frame.atR] at qg
  have Ty:(do let d ← resolve ({ tmps:=a.tmps,defers:=mark++a.defers }:Act).eval { callee := .value g,args := #[.const (.func (.yield l) #[] #[])],argTypes := #[] } 0;invoke d.target d.args:Sem Next).run P w₁ = .ok (.enter f args) hT:=hinv
  simp only [stepG,stepG.exec,Frame.atR,au7,he,GStep.bare_after,stepG.apply,qg,Ty,ag7,GStep.bare_go])
def Tz (l:Nat) (r:Loop) (env:Env) (Rn:ao→Prop) (Rj:Code→ao→Prop) (Rp:ag→ao→Prop) (o:eC) (aj:ao):Prop:=
 (o = .ret (.bool true)∧∃ dN,dN l=none∧aj=dN.set l (.loop r env)∧Rn dN) ∨
 (o = .ret (.bool false)∧∃ j dN,dN l=none∧aj=dN.set l (.loop (rl r j) env)∧Rj j dN) ∨
 (∃ v dN,o = .panic v∧dN l=none∧aj=dN.set l (.loop (busy r) env)∧Rp v dN)
def TA (P:Program) (N:Nat) (Q:b9→Env→ao→Prop) (env:Env) (l:Nat) (r:Loop) (o:eC) (aj:ao):Prop:=
 match o with
 | .ret _=>(∃ dN,dN l=none∧aj=dN.set l (.loop r env)∧Q .normal env dN)∨(∃ j dN,dN l=none∧aj=dN.set l (.loop (rl r j) env)∧ae P N j Q env dN)
 | .panic v=>∃ dN o',dN l=none∧aj=dN.set l o'∧Q (.panic v) env dN
theorem ae.Li {g:Operand} {ps:Array Tmp} {hl body:Code} {f:FuncId} {first cap:List ag} (av:aM env g=some (.func f first cap)) (aU:∀ t∈ps.toList,t<N)
    (h:∀ (l:Nat) (r:Loop),s l=none →
      (∀ args s₁ Rn Rj Rp,s₁ l=some (.loop r env)→args.length=ps.size →
        ae P N hl (b9.andThen (ae P N body (Dq Rn Rj Rp)) (fun _ _ _=>False)) (AB ps.toList args env) (s₁.del l) →
        hY P (l3 l) args s₁ (Tz l r env Rn Rj Rp)) →
      hp P f (first++([l3 l]++cap)) (s.set l (.loop r env)) (TA P N Q env l r)):ae P N (.rangeFunc g ps hl body) Q env s:=by
  intro b B a w p e4 aI k cs;obtain ⟨fn,TB⟩:=Option.isSome_iff_exists.1 e4;have TC:∃ (l D:Nat) (mark:List Deferred) (w₁:World),(Instr.enterLoop b.fn a.tmps ps hl body b.roundOf).run P w = .ok (l,mark) w₁ ∧
      w₁.heap[l]? = some (.loop { state := .ready,pending:=none,fn:=b.fn,tmps:=a.tmps,params:=ps,assign:=hl,body,defers:=D })∧w.heap.size≤l∧l<w₁.heap.size ∧
      (∀ x,x<w.heap.size→w₁.heap[x]? = w.heap[x]?)∧w₁.os=w.os∧w₁.tape=w.tape∧w₁.output=w.output∧w.heap.size≤w₁.heap.size ∧
      ((mark=[]∧b.roundOf≠none)∨(b.roundOf=none∧mark=marksOf [w.heap.size]∧w₁.heap[w.heap.size]? = some (.deferred (some []))∧l≠w.heap.size)):=by
    cases uV:b.roundOf with
    | none=>
      refine ⟨w.heap.size+1,w.heap.size,_,(w.alloc (.deferred (some []))).alloc (.loop { state := .ready,pending:=none,fn:=b.fn,tmps:=a.tmps,params:=ps,assign:=hl,body,defers:=w.heap.size }),?_,?_,by omega,by simp,?_,rfl,rfl,rfl,by simp;omega,.inr ⟨rfl,rfl,?_,by omega⟩⟩
      · unfold Instr.enterLoop
        simp [World.alloc_eq,marksOf]
      · have:=uE (w.alloc (.deferred (some []))) (.loop { state := .ready,pending:=none,fn:=b.fn,tmps:=a.tmps,params:=ps,assign:=hl,body,defers:=w.heap.size })
        simpa using this
      · intro x ab;rw [mw _ _ _ cV,mw _ _ _ ab]
      · rw [mw _ _ _ ba];exact uE w _
    | some TD=>
      obtain ⟨-,⟨Lj,TE⟩,-⟩:=aI.round TD uV;refine ⟨w.heap.size,Lj.defers,[],w.alloc (.loop { state := .ready,pending:=none,fn:=b.fn,tmps:=a.tmps,params:=ps,assign:=hl,body,defers:=Lj.defers }),?_,uE w _,Nat.le_refl _,by simp,fun x ab=>mw w _ x ab,rfl,rfl,rfl,by simp,.inl ⟨rfl,by simp⟩⟩;unfold Instr.enterLoop;simp only [ac',AD TE,i5,ae6,run_newObj];rfl
  obtain ⟨l,D,mark,w₁,TF,lC,cR,ac3,hold,TG,sg,qm,cc,Lk⟩:=TC;have pC:s l=none:=by
    cases ar:s l with
    | none=>rfl
    | some o=>exact absurd (aI.wf.obj _ _ ar).lt af
  generalize aD:({ state := .ready,pending:=none,fn:=b.fn,tmps:=a.tmps,params:=ps,assign:=hl,body,defers:=D }:Loop)=r at lC;have wM:dg w p w₁ p:=dg.of_heap TG sg qm cc (fun _ _ h=>h) aI.wf.lt hold;have TH:dx w₁ p (s.set l (.loop r env)):=by
    have av:=aI.wf.grow wM hold (fun _ _ _ h=>h) (fun b o aF=>by have:=aI.wf.lt b o aF;omega);refine ⟨fun aY o an=>?_,av.lt⟩;by_cases e:aY=l
    · subst e
      rw [ao.gn] at an;cases an;refine ⟨lC,fun t v aw=>?_⟩;have:r.tmps=a.tmps:=by rw [← aD]
      rw [this];exact (aI.env t v aw).mono wM
    · rw [ao.fG _ _ e] at an;exact av.obj aY o an
  have mx:Kept s (s.set l (.loop r env)) w p w₁ p:=⟨fun x ab _=>hold x ab,fun x ab az=>by rw [ao.fG _ _ af];exact az,fun _ _ _ _ h=>h⟩;obtain ⟨TI,c3⟩:=h l r pC fun args s₁ Rn Rj Rp jR yG tc w' bj v vs k7 aw eP=>by
    have Ks:v = .func (.yield l) #[] #[]:=by
      cases aw with
      | hG=>rfl
    subst Ks;have:=Tp (a:=a) (P:=P) (N:=N) (env:=env) (r:=r) (fn:=fn) (by rw [← aD];exact TB) (by rw [← aD]) jR (by rw [← aD];exact yG) (by rw [← aD];exact aI.size)
      (by rw [← aD];exact aU) (Rn:=Rn) (Rj:=Rj) (Rp:=Rp) (by rw [← aD];exact tc) w' bj vs k7 eP
    have Dv:{ busy r with state:=LoopState.ready,pending:=none }=r:=by rw [← aD];rfl
    rw [Dv] at this;exact this
  have mC:=aI.aM av;generalize Dw:a.eval g=ad9 at mC;cases mC with
  | func _ as cs' _ _ a6 aB=>
  have hinv:(do let d ← resolve a.eval (GF g l) 0;invoke d.target d.args:Sem Next).run P w₁ = .ok (.enter f (as ++ #[.func (.yield l) #[] #[]]++cs')) w₁:=by
    simp only [resolve,GF,Dw,Deferred.ofValue,ac',ae6,i5,invoke];have:(#[Operand.const (.func (.yield l) #[] #[])].map a.eval) = #[.func (.yield l) #[] #[]]:=by simp [Act.eval]
    rw [this];exact TI _ _
  have wN:=Tx (k:=k) (cs:=cs) TF hinv;have cy:=c3 w₁ p (as.toList++([.func (.yield l) #[] #[]]++cs'.toList)) TH ((a6.mono wM).append (bH.append (.cons _ _ _ _ (.hG _) .nil) (aB.mono wM)));have yG:(as.toList++([Value.func (.yield l) #[] #[]]++cs'.toList)).toArray=as ++ #[.func (.yield l) #[] #[]]++cs':=by apply Array.ext';simp
  rw [yG] at cy;obtain ⟨e,hT,hn,⟨kg,out,aj,jw,q5,dM,yA,iF,AE⟩,ta,GG,z7⟩:=cy (b.atR { a with defers:=mark++a.defers } (.inRangeFunc l::k)::cs);have wL:∀ dN o',dN l=none→aj=dN.set l o'→∀ iR,dg hT jw iR jw→Kept aj aj hT jw iR jw→dx iR jw dN→(∀ x,x≠l→iR.heap[x]? = hT.heap[x]?) →
      dI N B b.roundOf env dN { a with defers:=mark++a.defers } iR jw∧dg w p iR jw∧Kept s dN w p iR jw:=by
    intro dN o' az hL iR TJ tk GH TK;have bM:dg w p iR jw:=(wM.trans yA).trans TJ;have uW:=(mx.trans wM.size iF).trans (wM.trans yA).size tk;have hU:ao.Sub dN aj:=by rw [hL];exact ao.wk _ _ _ az
    have bk:Kept s dN w p iR jw:=uW.sub hU;refine ⟨⟨aI.size,fun t v aw=>(aI.env t v aw).mono bM,GH,?_,fun lH ql=>?_,Nat.le_trans aI.base bM.size⟩,bM,bk⟩
    · obtain ⟨ds,d1,d2,d3⟩:=aI.defs
      rcases Lk with ⟨rfl,-⟩|⟨uV,rfl,eI,Ll⟩
      · refine ⟨ds,by simpa using d1,d2,fun d ax=>?_⟩
        obtain ⟨cG,lU,kG⟩:=d3 d ax;have au:d<w.heap.size:=(i9.1 lU).1;exact ⟨cG,(bk.heap d au kG).trans lU,bk.k2 d au kG⟩
      · have Lm:(s.set l (.loop r env)) w.heap.size=none:=by
          rw [ao.fG _ _ (Ne.symm Ll)];cases ar:s w.heap.size with
          | none=>rfl
          | some o=>exact absurd (aI.wf.obj _ _ ar).lt af
        have Ln:w.heap.size<w₁.heap.size:=(i9.1 eI).1;have TL:iR.heap[w.heap.size]? = some (.deferred (some [])):=by
          rw [TK _ (Ne.symm Ll),iF.heap _ Ln Lm];exact eI
        have TM:dN w.heap.size=none:=hU.none (iF.k2 _ Ln Lm);refine ⟨w.heap.size::ds,by simp [marksOf,d1],List.nodup_cons.2 ⟨fun hm=>?_,d2⟩,fun d ax=>?_⟩
        · have:=(i9.1 (d3 _ hm).2.1).1;omega
        · rcases af2.1 ax with rfl|ax
          · exact ⟨aI.base,TL,TM⟩
          · obtain ⟨cG,lU,kG⟩:=d3 d ax
            have au:d<w.heap.size:=(i9.1 lU).1;exact ⟨cG,(bk.heap d au kG).trans lU,bk.k2 d au kG⟩
    · obtain ⟨U,⟨r',ad⟩,al⟩:=aI.round lH ql
      have au:lH<w.heap.size:=(i9.1 ad).1;refine ⟨?_,⟨r',(bk.heap lH au al).trans ad⟩,bk.k2 lH au al⟩;rcases Lk with ⟨rfl,-⟩|⟨uV,-⟩
      · exact U
      · rw [uV] at ql;cases ql
  have uC:∀ dN (r':Loop),dN l=none→aj=dN.set l (.loop r' env)→(r'.state == .busy)=false→∃ iR,(Instr.endLoop l).run P hT = .ok r'.pending iR ∧
      dI N B b.roundOf env dN { a with defers:=mark++a.defers } iR jw∧dg w p iR jw∧Kept s dN w p iR jw:=by
    intro dN r' az hL dO;have Lo:aj l=some (.loop r' env):=by rw [hL];exact ao.gn _ _ _
    have eT:hT.heap[l]? = some (.loop r'):=(AE.obj _ _ Lo).1;obtain ⟨ea,dj,dQ⟩:=Gy (r':={ r' with state := .exhausted }) AE Lo rfl _ rfl;have tk:Kept aj aj hT jw { hT with heap:=hT.heap.setIfInBounds l (.loop { r' with state := .exhausted }) } jw:=by
      refine ⟨dj.heap,fun x ab az=>az,dj.ly⟩
    have GH:dx { hT with heap:=hT.heap.setIfInBounds l (.loop { r' with state := .exhausted }) } jw dN:=by
      refine dQ.sub ?_;rw [hL,ao.set_set];exact ao.wk _ _ _ az
    refine ⟨_,?_,wL dN _ az hL _ ea tk GH (fun x ab=>by
      show (hT.heap.setIfInBounds l _)[x]? = _
      rw [ag5,f0 (fun e=>ab e.symm)])⟩
    unfold Instr.endLoop;simp only [ac',AD eT,i5,dO,Bool.false_eq_true,ah',Gz eT C,ae6]
  cases e with
  | outgrown=>exact absurd C kg
  | returned v=>
    cases out with
    | panic x=>exact q5.elim
    | ret x=>
    have yB:Steps P (lone (b.atR a (.code (.rangeFunc g ps hl body)::k)) cs w) (lone (b.atR { a with defers:=mark++a.defers } (.endRangeFunc l::k)) cs hT):=by
      refine .head wN (Steps.trans ta (.one ?_));rw [← Tw _ _ _ _ v];exact step_leave_returned z7
    rcases dM with ⟨dN,az,hL,br⟩|⟨j,dN,az,hL,br⟩
    · obtain ⟨iR,Dx,AF,bM,bk⟩:=uC dN r az hL (by rw [← aD];rfl)
      have aF:r.pending=none:=by rw [← aD]
      rw [aF] at Dx;exact ⟨.normal,_,iR,⟨.normal,env,dN,jw,.normal,br,AF,bM,bk⟩,Steps.trans yB (.one (by simpa using Lh (k:=k) Dx))⟩
    · obtain ⟨iR,Dx,AF,bM,bk⟩:=uC dN (rl r j) az hL rfl
      obtain ⟨e',c7,lV,vV,gg⟩:=br b B _ iR jw e4 AF k cs;exact ⟨e',c7,lV,kz.after bM bk vV,.of_steps (Steps.trans yB (.one (by simpa [rl] using Lh (k:=k) Dx))) gg⟩
  | panicked dJ=>
    cases out with
    | ret x=>exact q5.elim
    | panic x=>
    obtain ⟨v,ki,aw⟩:=q5;obtain ⟨dN,o',az,hL,br⟩:=dM;obtain ⟨AF,bM,bk⟩:=wL dN o' az hL hT (.refl _ _) (.refl _ _ _) (AE.sub (by rw [hL];exact ao.wk _ _ _ az)) (fun _ _=>rfl);refine ⟨.panic dJ,_,hT,⟨.panic x,env,dN,jw,.panic v x _ ki aw,br,AF,bM,bk⟩,.inRangeFunc l::k,.head wN (Steps.trans ta (.one ?_))⟩;rw [← Frame.raise_atR];exact step_leave_panicked z7
end
theorem lW.nil {w:World} {p:bV}:lW w p [] []:=⟨.nil,.nil⟩
theorem lW.length {w:World} {p:bV} {cQ:List MapEntry} {es:List (ag×ag)} (h:lW w p cQ es):cQ.length=es.length:=by simpa using h.1.length
theorem lW.split {w:World} {p:bV}:∀ {a b:List MapEntry} {e:MapEntry} {es:List (ag×ag)},lW w p (a++e::b) es →
  ∃ l₁ k v l₂,es=l₁++(k,v)::l₂∧Rel w p e.key k∧Rel w p e.val v∧lW w p (a++b) (l₁++l₂):=by
 intro a
 induction a with
 | nil=>
  intro b e es h;cases es with
  | nil=>have:=h.length;simp at this
  | cons x es=>
   obtain ⟨k,v⟩:=x;obtain ⟨U,ad⟩:=h;simp only [List.nil_append,ae3] at U ad;cases U with|cons _ _ _ _ cE t1=>cases ad with|cons _ _ _ _ dq t2=>
   exact ⟨[],k,v,es,rfl,cE,dq,t1,t2⟩
 | cons x a a1=>
  intro b e es h;cases es with
  | nil=>have:=h.length;simp at this
  | cons y es=>
   obtain ⟨KU,v0⟩:=y;obtain ⟨U,ad⟩:=h;simp only [aa',ae3] at U ad;cases U with|cons _ _ _ _ cE t1=>cases ad with|cons _ _ _ _ dq t2=>
   obtain ⟨l₁,k,v,l₂,rfl,b2,bU,e1,oy⟩:=a1 (b:=b) (e:=e) (es:=es) ⟨t1,t2⟩;exact ⟨(KU,v0)::l₁,k,v,l₂,rfl,b2,bU,.cons _ _ _ _ cE e1,.cons _ _ _ _ dq oy⟩
section
variable {P:Program} {Γ:cA} {N:Nat} {env:Env} {s:ao}
end
inductive cU:List ag→List ag→Prop
 | nil:cU [] []
 | cons {x y:ag} {xs ys:List ag} (h:aQ x y) (t:cU xs ys):cU (x::xs) (y::ys)
theorem cU.rel {w:World} {p:bV} {xs ys:List ag} (h:cU xs ys):∀ {vs:List Value},bH w p vs xs→bH w p vs ys:=by
 induction h with
 | nil=>exact fun h=>h
 | cons h _ a1=>intro vs aw;cases aw with|cons _ _ _ _ U ad=>exact .cons _ _ _ _ (h _ _ _ U) (a1 ad)
theorem cU.refl:∀ xs:List ag,cU xs xs
 | [] => .nil
 | _::xs => .cons (aQ.refl _) (cU.refl xs)
theorem cU.length {xs ys:List ag} (h:cU xs ys):xs.length=ys.length:=by
 induction h with
 | nil=>rfl
 | cons _ _ a1=>simp [a1]
theorem cU.append {a b c d:List ag} (h:cU a b) (k:cU c d):cU (a++c) (b++d):=by
 induction h with
 | nil=>exact k
 | cons h _ a1=>exact .cons h a1
theorem aQ.trans {x y z:ag} (h:aQ x y) (k:aQ y z):aQ x z:=fun w p v aw=>k w p v (h w p v aw)
theorem aQ.agg {xs ys:List ag} (h:cU xs ys):aQ (.agg xs) (.agg ys):=fun w p v aw=>by cases aw with|agg cs _ aC=>exact .agg _ _ (h.rel aC)
theorem aQ.cw {xs ys:List ag} (h:cU xs ys):aQ (.cw xs) (.cw ys):=fun w p v aw=>by cases aw with|cw cs _ aC=>exact .cw _ _ (h.rel aC)
theorem aQ.iface {t:TypeId} {x y:ag} (h:aQ x y):aQ (.iface t x) (.iface t y):=fun w p v aw=>by cases aw with|iface _ _ _ aC=>exact .iface _ _ _ (h _ _ _ aC)
theorem aQ.bw {xs ys:List ag} {o:Nat} (h:cU xs ys):aQ (.bw xs o) (.bw ys o):=fun w p v aw=>by
 cases aw with|bw b base uI off vs _ ai aB aD=>exact .bw b base uI o vs ys ai aB (h.rel aD)
theorem aQ.func {f:FuncId} {xs ys us vs:List ag} (h:cU xs ys) (k:cU us vs):aQ (.func f xs us) (.func f ys vs):=fun w p v aw=>by
 cases aw with|func _ as cs _ _ a6 aB=>exact .func _ _ _ _ _ (h.rel a6) (k.rel aB)
theorem aQ.aA {sz:Nat} {xs ys:List ag} {own:bN} (h:cU xs ys):aQ (.aA sz xs own) (.aA sz ys .bb):=fun w p v aw=>by
 cases aw with
 | h4=>cases h;exact .h4 _ _ ba
 | iE a=>cases h;exact .iE a _ _ (.inl C)
 | aA g off n cap _ vs _ _ az aC aB aD ar hm aE cy ai=>exact .aA g off n cap sz vs ys .bb ba (aC.trans h.length) aB (h.rel aD) ar hm aE ba ba
theorem aQ.bb {sz:Nat} {xs:List ag} {own:bN}:aQ (.aA sz xs own) (.aA sz xs .bb):=aQ.aA (cU.refl _)
theorem aQ.nil {sz sz':Nat} {own:bN} (ai:∀ b,own ≠ .own b):aQ (.aA sz [] .nil) (.aA sz' [] own):=fun w p v aw=>by
 cases aw with
 | h4=>exact .h4 _ _ ai
 | iE _ _ _ h=>rcases h with h|h<;>cases h
 | aA g off n cap _ vs _ _ az=>exact absurd C az
theorem aQ.empty {sz sz':Nat} {own:bN}:aQ (.aA sz [] own) (.aA sz' [] .bb):=fun w p v aw=>by
 cases aw with
 | h4=>exact .h4 _ _ ba
 | iE a=>exact .iE a _ _ (.inl C)
 | aA g off n cap _ vs _ _ az aC aB aD ar hm aE cy ai=>
  have:vs=[]:=List.eq_nil_of_length_eq_zero (by rw [aD.length];rfl);subst this;exact .aA g off n cap sz' [] [] .bb ba aC aB .nil ba hm aE ba ba
theorem aQ.any (x:ag):aQ x .any:=fun _ _ v _ => .any v
section
variable {P:Program} {Γ:cA} {N:Nat} {ops:Array Oper} {Q:b9→Env→ao→Prop} {env:Env} {s:ao} {l:List Oper} {o:Oper} {d:Nat}
theorem aa.nV {l:List Oper} (t:Nat) {v:ag} (ff:ag) (aw:env.get? t=some v) (he:aQ v ff) (h:aa P N ops l Q ((t,ff)::env) s):aa P N ops l Q env s:=by
 intro k aE ro B a w p aI
 exact h k aE ro B a w p ⟨aI.size,fun u x ab=>by
  simp only [Env.get?] at ab
  split at ab
  ·rename_i an;have:=ae0 an;subst this;cases ab;exact he _ _ _ (aI.env _ _ aw)
  ·exact aI.env u x ab,aI.wf,aI.defs,aI.round,aI.base⟩
theorem ae.nV {c:Code} (t:Nat) {v:ag} (ff:ag) (aw:env.get? t=some v) (he:aQ v ff) (h:ae P N c Q ((t,ff)::env) s):ae P N c Q env s:=by
 intro b B a w p e4 aI
 exact h b B a w p e4 ⟨aI.size,fun u x ab=>by
  simp only [Env.get?] at ab
  split at ab
  ·rename_i an;have:=ae0 an;subst this;cases ab;exact he _ _ _ (aI.env _ _ aw)
  ·exact aI.env u x ab,aI.wf,aI.defs,aI.round,aI.base⟩
theorem aa.alloc (aP:bQ P Γ) {t:TypeId} {i:bO} {z:ag} {cs:List ag} (av:guardOf ops env o=some true) (ax:o.dst=some d) (aU:t8 d N=true) (ai:o.op = .alloc t) (aN:Γ.get? t=some i)
  (bG:hH i.zero=some z) (aB:cellsOf z=some cs) (h:∀ b,s b=none→aa P N ops l Q ((d,.ptr b 0)::env) (s.set b (.box t cs))):aa P N ops (o::l) Q env s:=
 aa.op av ax aU (aZ.alloc aP ai aN bG aB (X:=fun _ _=>False)) (fun x aj ⟨b,U,ad,al⟩=>by subst ad;subst al;exact h b U) (fun _ _ h=>h.elim)
theorem aa.uL (aP:bQ P Γ) {t T:TypeId} {x:Operand} {i:bO} {b off:Nat} {cs:List ag} {v:ag} (av:guardOf ops env o=some true) (ax:o.dst=some d) (aU:t8 d N=true) (ai:o.op = .load t x)
  (aN:Γ.get? t=some i) (ab:aM env x=some (.ptr b off)) (ar:s b=some (.box T cs)) (aw:hV i cs off=some v) (h:aa P N ops l Q ((d,v)::env) s):aa P N ops (o::l) Q env s:=
 aa.op av ax aU (aZ.uL aP ai aN ab ar aw (X:=fun _ _=>False)) (fun x aj ⟨U,ad⟩=>by subst U;subst ad;exact h) (fun _ _ h=>h.elim)
theorem aa.C4 (aP:bQ P Γ) {t T:TypeId} {x y:Operand} {i:bO} {b off:Nat} {cs us:List ag} {v:ag} (av:guardOf ops env o=some true) (ax:o.dst=none) (ai:o.op = .store t x y)
  (aN:Γ.get? t=some i) (ab:aM env x=some (.ptr b off)) (ay:aM env y=some v) (aw:cellsOf v=some us) (hu:af0 us.length i.size=true) (U:us.all fe=true) (ar:s b=some (.box T cs))
  (fr:ao5 (off+us.length) cs.length=true) (h:aa P N ops l Q env (s.set b (.box T (eM off us cs)))):aa P N ops (o::l) Q env s:=
 aa.v8 av ax (aZ.C4 aP ai aN ab ay aw hu U ar fr (X:=fun _ _=>False)) (fun x aj U=>by subst U;exact h) (fun _ _ h=>h.elim)
theorem aa.lookup (aP:bQ P Γ) {t dW e5:TypeId} {x y:Operand} {ok:Bool} {it gL aH:bO} {m:Nat} {es:List (ag×ag)} {k z:ag} {r:Option ag} (av:guardOf ops env o=some true) (ax:o.dst=some d) (aU:t8 d N=true)
  (ai:o.op = .lookup t x y ok) (aN:Γ.get? t=some it) (bt:it.bF = .map dW e5) (jy:Γ.get? dW=some gL) (bJ:Γ.get? e5=some aH) (ab:aM env x=some (.map m)) (ay:aM env y=some k) (ar:s m=some (.map es))
  (a7:kk gL.bF k=true) (aD:jj es k=some r) (bG:hH aH.zero=some z) (h:aa P N ops l Q ((d,l0 ok z r)::env) s):aa P N ops (o::l) Q env s:=
 aa.op av ax aU (aZ.lookup aP ai aN bt jy bJ ab ay (.inl ⟨m,rfl,ar⟩) a7 aD bG (X:=fun _ _=>False)) (fun x aj ⟨U,ad⟩=>by subst U;subst ad;exact h) (fun _ _ h=>h.elim)
theorem aa.mapUpdate (aP:bQ P Γ) {t dW e5:TypeId} {x y z:Operand} {it gL:bO} {b:Nat} {es dF:List (ag×ag)} {k v:ag} (av:guardOf ops env o=some true) (ax:o.dst=none)
  (ai:o.op = .mapUpdate t x y z∨o.op = .insert t x y z) (aN:Γ.get? t=some it) (bt:it.bF = .map dW e5) (jy:Γ.get? dW=some gL) (ab:aM env x=some (.map b)) (ay:aM env y=some k) (bG:aM env z=some v)
  (ar:s b=some (.map es)) (a7:kk gL.bF k=true) (aF:lZ es k v=some dF) (h:aa P N ops l Q env (s.set b (.map dF))):aa P N ops (o::l) Q env s:=
 aa.v8 av ax (aZ.mapUpdate aP ai aN bt jy ab ay bG ar a7 aF (X:=fun _ _=>False)) (fun x aj U=>by subst U;exact h) (fun _ _ h=>h.elim)
theorem aa.makeMap {t:TypeId} (av:guardOf ops env o=some true) (ax:o.dst=some d) (aU:t8 d N=true) (ai:o.op = .makeMap t none)
  (h:∀ b,s b=none→aa P N ops l Q ((d,.map b)::env) (s.set b (.map []))):aa P N ops (o::l) Q env s:=
 aa.op av ax aU (aZ.makeMap ai (X:=fun _ _=>False)) (fun x aj ⟨b,U,ad,al⟩=>by subst ad;subst al;exact h b U) (fun _ _ h=>h.elim)
theorem aa.invoke {g:Operand} {name:String} {as:Array Operand} {da:Array TypeId} {t:TypeId} {v:ag} {f:FuncId} {xs:List ag} {R:eC→ao→Prop} (av:guardOf ops env o=some true) (ax:o.dst=some d) (aU:t8 d N=true)
  (ai:o.op = .call { callee := .invoke g name,args:=as,argTypes:=da }) (aw:aM env g=some (.iface t v)) (a6:fX env as.toList=some xs) (hm:qf P t name f) (h:hp P f (v::xs) s R)
  (aE:∀ x aj,R (.ret x) aj→aa P N ops l Q ((d,x)::env) aj) (ab:∀ x aj,R (.panic x) aj→Q (.panic x) env aj):aa P N ops (o::l) Q env s:=
 aa.op av ax aU (aZ.invoke ai aw a6 hm h) aE ab
theorem aa.panic {x:Operand} {t:TypeId} {v:ag} (av:guardOf ops env o=some true) (ax:o.dst=none) (ai:o.op = .panic x) (ab:aM env x=some (.iface t v)) (h:Q (.panic (.iface t v)) env s) :
  aa P N ops (o::l) Q env s:=
 aa.v8 av ax (aZ.panic ai ab (K:=fun _ _=>False)) (fun x aj h=>h.elim) (fun x aj ⟨U,ad⟩=>by subst U;subst ad;exact h)
end
section
variable {P:Program} {Γ:cA} {N:Nat} {l:List Oper} {Q:b9→Env→ao→Prop} {env:Env} {s:ao} {m:Nat}
theorem bg.pure {J:ao→Prop} (cO:J s) (i:Nat) {o:Oper} {d:Nat} {v:ag} (aD:iI l.toArray m i=true) (ai:l.toArray[i]? = some o) (ax:o.dst=some d) (aU:t8 d N=true)
  (av:c6 l env o) (aw:l2 Γ o (b4 l env o) v) (h:bg J P Γ N l.toArray Q (bZ (m|||2^i)) ((d,v)::env) s) :
  bg J P Γ N l.toArray Q (bZ m) env s:=
 bg.still cO i o d v (tw.1 aD) ai ax Dm (.inl ⟨av,aw⟩) (by rw [pA];exact h)
theorem bc.pure (i:Nat) {o:Oper} {d:Nat} {v:ag} (aD:iI l.toArray m i=true) (ai:l.toArray[i]? = some o) (ax:o.dst=some d) (aU:t8 d N=true)
  (av:c6 l env o) (aw:l2 Γ o (b4 l env o) v) (h:bc P Γ N l.toArray Q (bZ (m|||2^i)) ((d,v)::env) s) :
  bc P Γ N l.toArray Q (bZ m) env s:=bg.pure trivial i aD ai ax aU av aw h
theorem bg.idx {J:ao→Prop} (cO:J s) (i:Nat) {o:Oper} {d:Nat} {t e:TypeId} {x y:Operand} {it aH:bO} {sz:Nat} {xs:List ag} {own:bN} {k:IntKind} {n:Int} {v:ag} {cs:List ag} (j:Nat) (aD:iI l.toArray m i=true) (ai:l.toArray[i]? = some o)
  (ax:o.dst=some d) (aU:t8 d N=true) (av:c6 l env o) (b3:o.op = .indexAddr t x y) (aN:Γ.get? t=some it) (bt:it.bF = .aA e) (bJ:Γ.get? e=some aH)
  (ab:aM (b4 l env o) x=some (.aA sz xs own)) (cc:sz=aH.size) (ay:aM (b4 l env o) y=some (.int k n)) (eU:n=(j:Int)) (aL:xs[j]? = some v) (aB:cellsOf v=some cs)
  (h:bg J P Γ N l.toArray Q (bZ (m|||2^i)) ((d,.bw cs 0)::env) s):bg J P Γ N l.toArray Q (bZ m) env s:=
 bg.pure cO i aD ai ax aU av (.idx j b3 aN bt bJ ab cc ay eU aL aB) h
theorem bc.idx (i:Nat) {o:Oper} {d:Nat} {t e:TypeId} {x y:Operand} {it aH:bO} {sz:Nat} {xs:List ag} {own:bN} {k:IntKind} {n:Int} {v:ag} {cs:List ag} (j:Nat) (aD:iI l.toArray m i=true) (ai:l.toArray[i]? = some o)
  (ax:o.dst=some d) (aU:t8 d N=true) (av:c6 l env o) (b3:o.op = .indexAddr t x y) (aN:Γ.get? t=some it) (bt:it.bF = .aA e) (bJ:Γ.get? e=some aH)
  (ab:aM (b4 l env o) x=some (.aA sz xs own)) (cc:sz=aH.size) (ay:aM (b4 l env o) y=some (.int k n)) (eU:n=(j:Int)) (aL:xs[j]? = some v) (aB:cellsOf v=some cs)
  (h:bc P Γ N l.toArray Q (bZ (m|||2^i)) ((d,.bw cs 0)::env) s):bc P Γ N l.toArray Q (bZ m) env s:=
 bc.pure i aD ai ax aU av (.idx j b3 aN bt bJ ab cc ay eU aL aB) h
theorem bc.slice (i:Nat) {o:Oper} {d:Nat} {t e:TypeId} {x:Operand} {gF aR jA:Option Operand} {it aH:bO} {sz:Nat} {xs:List ag} {own cM:bN} (a b:Nat) (aD:iI l.toArray m i=true) (ai:l.toArray[i]? = some o)
  (ax:o.dst=some d) (aU:t8 d N=true) (av:c6 l env o) (b3:o.op = .slice t x gF aR jA)
  (aN:Γ.get? t=some it) (bt:it.bF = .aA e) (bJ:Γ.get? e=some aH) (ab:aM (b4 l env o) x=some (.aA sz xs own)) (cc:xs=[]∨sz=aH.size)
  (iT:(gF=none∧a=0)∨∃ y k,gF=some y∧aM (b4 l env o) y=some (.int k (a:Int))) (rb:(aR=none∧jA=none∧b=xs.length)∨∃ y k,aR=some y∧aM (b4 l env o) y=some (.int k (b:Int)))
  (nQ:(jA=none∧cM = .bb)∨(∃ y k,jA=some y∧aM (b4 l env o) y=some (.int k (b:Int))∧cM = .clip)) (aC:a≤b) (cY:b≤xs.length)
  (h:bc P Γ N l.toArray Q (bZ (m|||2^i)) ((d,.aA sz ((xs.take b).drop a) cM)::env) s):bc P Γ N l.toArray Q (bZ m) env s:=
 bc.pure i aD ai ax aU av (.slice a b b3 aN bt bJ ab cc iT rb nQ aC cY) h
theorem bc.call {i:Nat} {o:Oper} {d:Nat} {f:FuncId} {as:Array Operand} {da:Array TypeId} {xs:List ag} {R:eC→ao→Prop} (aD:eJ l.toArray m (idxs 0 l)=[i]) (ai:l.toArray[i]? = some o) (ax:o.dst=some d) (aU:t8 d N=true)
  (av:c6 l env o) (b3:o.op = .call { callee := .value (.func f),args:=as,argTypes:=da }) (a6:fX (b4 l env o) as.toList=some xs) (h:hp P f xs s R)
  (aE:∀ x aj,R (.ret x) aj→bc P Γ N l.toArray Q (bZ (m|||2^i)) ((d,x)::env) aj) (ab:∀ x aj,R (.panic x) aj→Q (.panic x) [] aj):bc P Γ N l.toArray Q (bZ m) env s:=
 bc.one aD ai ax aU av (aZ.call b3 (fv := .func f [] []) C a6 (hY.fx e2)) aE ab
theorem bc.K2 {i:Nat} {o:Oper} {d:Nat} {f:FuncId} {as:Array Operand} {da:Array TypeId} {xs:List ag} {v:ag} (aD:eJ l.toArray m (idxs 0 l)=[i]) (ai:l.toArray[i]? = some o) (ax:o.dst=some d) (aU:t8 d N=true)
  (av:c6 l env o) (b3:o.op = .call { callee := .value (.func f),args:=as,argTypes:=da }) (a6:fX (b4 l env o) as.toList=some xs)
  (h:hp P f xs s (fun out aj=>out = .ret v∧aj=s)) (aE:bc P Γ N l.toArray Q (bZ (m|||2^i)) ((d,v)::env) s):bc P Γ N l.toArray Q (bZ m) env s:=
 bc.call aD ai ax aU av b3 a6 h (fun x aj ⟨U,ad⟩=>by cases U;subst ad;exact aE) (fun x aj ⟨U,_⟩=>by cases U)
end
section
variable {P:Program} {Γ:cA} {N:Nat} {l:List Oper} {Q:b9→Env→ao→Prop} {env:Env} {s:ao} {m:Nat}
theorem bc.Gq {i:Nat} {o:Oper} {d:Nat} {g:Operand} {fv:ag} {as:Array Operand} {da:Array TypeId} {xs:List ag} {R:eC→ao→Prop} (aD:eJ l.toArray m (idxs 0 l)=[i]) (ai:l.toArray[i]? = some o) (ax:o.dst=some d)
  (aU:t8 d N=true) (av:c6 l env o) (b3:o.op = .call { callee := .value g,args:=as,argTypes:=da }) (aw:aM (b4 l env o) g=some fv)
  (a6:fX (b4 l env o) as.toList=some xs) (h:hY P fv xs s R)
  (aE:∀ x aj,R (.ret x) aj→bc P Γ N l.toArray Q (bZ (m|||2^i)) ((d,x)::env) aj) (ab:∀ x aj,R (.panic x) aj→Q (.panic x) [] aj):bc P Γ N l.toArray Q (bZ m) env s:=
 bc.one aD ai ax aU av (aZ.call b3 aw a6 h) aE ab
theorem bc.two {i j:Nat} {o u:Oper} {d c:Nat} {K X aO nJ:ag→ao→Prop} (aD:eJ l.toArray m (idxs 0 l)=[i,j]) (ai:l.toArray[i]? = some o) (hu:l.toArray[j]? = some u) (ax:o.dst=some d) (aB:u.dst=some c)
  (aU:t8 d N=true) (qk:t8 c N=true) (cJ:af0 i j=false)
  (av:c6 l env o) (oD:guardOf l.toArray (iH env (looks l.toArray u)) u=some true)
  (h:aZ P N o (b4 l env o) s K X) (e3:aZ P N u (iH env (looks l.toArray u)) s aO nJ)
  (aE:∀ x aj,K x aj→bc P Γ N l.toArray Q (bZ (m|||2^i)) ((d,x)::env) aj) (eH:∀ x aj,aO x aj→bc P Γ N l.toArray Q (bZ (m|||2^j)) ((c,x)::env) aj)
  (ab:∀ x aj,X x aj→Q (.panic x) [] aj) (bL:∀ x aj,nJ x aj→Q (.panic x) [] aj):bc P Γ N l.toArray Q (bZ m) env s:=by
 have GI:i≠j:=fun e=>by subst e;rw [at9] at cJ;cases cJ
 have fy:∀ k,hq l.toArray (bZ m) k→k=i∨k=j:=fun k aE=>by
  have:=AA aE (l:=idxs 0 l) (by rw [yE,aq7];have:=aE.1;simp at this;omega);rw [aD] at this;simpa using this
 have au:i<l.toArray.size:=(i9.1 ai).1;have pB:bZ m i=false:=by
  cases an:bZ m i with
  | false=>rfl
  | true=>
   have fH:i∈eJ l.toArray m (idxs 0 l):=by rw [aD];exact i6 ..
   have:∀ is,i∈eJ l.toArray m is→iI l.toArray m i=true:=by
    intro is
    induction is with
    | nil=>intro h;cases h
    | cons j is a1=>
     intro h;simp only [eJ] at h;split at h
     ·rename_i an
      rcases af2.1 h with rfl|h
      ·exact an
      ·exact a1 h
     ·exact a1 h
   have:=(tw.1 (this _ fH)).2.1;rw [an] at this;cases this
 refine bg.split (fun k=>if k=i then K else aO) (fun k=>if k=i then X else nJ) ⟨i,au,pB⟩ (fun k o' kD cD=>?_) (fun _ _ _ _ _ _ _ => .inl trivial) (fun k o' c9 kD cD cp x aj bk=>?_) (fun k o' kD cD cp x aj bk=>?_) (fun k o' kD cD x aj hg=>?_)
 ·rcases fy k kD with rfl|rfl
  ·rw [ai] at cD;cases cD
   simp only [ag7];exact ⟨av,h,fun c9 cp=>by rw [ax] at cp;cases cp;simpa [an3] using aU⟩
  ·rw [hu] at cD;cases cD
   simp only [f0 (Ne.symm GI)];exact ⟨oD,e3,fun c9 cp=>by rw [aB] at cp;cases cp;simpa [an3] using qk⟩
 ·rcases fy k kD with rfl|rfl
  ·rw [ai] at cD;cases cD
   rw [ax] at cp;cases cp;simp only [ag7] at bk;rw [pA];exact aE x aj bk
  ·rw [hu] at cD;cases cD
   rw [aB] at cp;cases cp;simp only [f0 (Ne.symm GI)] at bk;rw [pA];exact eH x aj bk
 ·rcases fy k kD with rfl|rfl
  ·rw [ai] at cD;cases cD
   rw [ax] at cp;cases cp
  ·rw [hu] at cD;cases cD
   rw [aB] at cp;cases cp
 ·rcases fy k kD with rfl|rfl
  ·simp only [ag7] at hg;exact ab x aj hg
  ·simp only [f0 (Ne.symm GI)] at hg;exact bL x aj hg
end
theorem TN {P:Program} {ops:Array Oper} {Q:hd→Act→World→Prop} (l₂:List Nat):∀ (l₁:List Nat) (a:Act) (w:World),
  jh P ops (hd.andThen (jh P ops Q l₂) Q) l₁ a w→jh P ops Q (l₁++l₂) a w:=by
 intro l₁
 induction l₁ with
 | nil=>intro a w h;exact h
 | cons i r a1=>
  intro a w h;simp only [aa',jh] at h ⊢;split at h
  ·exact a1 _ _ h
  ·rename_i o ai
   split at h
   ·rename_i hw
    rw [g6 hw];refine ⟨h.1,h.2.mono ?_⟩;intro e w' he;cases e with
    | returned v=>exact a1 _ _ he
    | panicked dJ=>exact he
    | outgrown=>exact he
   ·rename_i hw
    rw [f0 hw];exact a1 _ _ h
section
variable {P:Program} {Γ:cA} {N:Nat} {ops:Array Oper} {Q:b9→Env→ao→Prop} {env:Env} {s:ao} {l:List Oper} {o:Oper} {d:Nat}
theorem aa.cut (n:Nat) (Lp:Env) (wO:aa P N ops (l.take n) (fun x e aj=>x = .normal∧Env.Sub Lp e∧aj=s) env s) (wP:aa P N ops (l.drop n) Q Lp s):aa P N ops l Q env s:=by
 intro k aE ro B a w p aI;have hlen:l.length=(l.take n).length+(l.drop n).length:=by rw [← List.length_append,List.take_append_drop]
 rw [hlen,← List.range'_append_1];refine TN _ _ _ _ (v7 ?_ _ _ _ (wO k (fun j x aL=>aE j x ?_) ro B a w p aI))
 ·rintro e c7 w' ⟨x,e0,aj,bj,ab,⟨rfl,eS,rfl⟩,hW,hle,lX⟩
  cases ab;refine fN.after hle lX ?_ (hW.sub eS);refine wP _ (fun j x aL=>?_);rw [List.getElem?_drop] at aL;have au:=(List.getElem?_eq_some_iff.1 aL).1;rw [List.length_take,Nat.min_eq_left af,Nat.add_assoc];exact aE _ x aL
 ·rw [List.getElem?_take] at aL
  split at aL
  ·exact aL
  ·cases aL
def Lq (ops:Array Oper) (o:Oper):Option Nat:=match o.guard with
  | some (j,_)=>match ops[j]? with
    | some u=>u.dst
    | none=>none
  | none=>none
theorem aa.same (b:Bool) (av:guardOf ops env o=some b) (h:aa P N ops (o::l) Q env s):aa P N ops (o::l) Q env s:=h
theorem aa.hh {t:Nat} {b:Bool} (ar:Lq ops o=some t) (aw:env.get? t=some (.bool b)) (eG:b=true→aa P N ops (o::l) Q ((t,.bool true)::env) s)
  (gG:b=false→aa P N ops (o::l) Q ((t,.bool false)::env) s):aa P N ops (o::l) Q env s:=by
 cases b with
 | true=>exact aa.Dk t aw C (eG C)
 | false=>exact aa.Dk t aw C (gG C)
end
def Lr (P:Program) (t:TypeId) (name:String) (f:FuncId):Bool:=
  match P.info? t,P.underlying t with
  | some i,some d=>(match i.methods.find? (·.name==name) with
    | some m=>m.path.isEmpty&&(match m.func with|some (ng,b)=>af0 ng f && !b|none=>false)
    | none=>false)&&(match d with | .pointer _=>false|_=>true)&&t8 0 (P.types.size+Made.depth)
  | _,_=>false
theorem Dy {P:Program} {t:TypeId} {name:String} {f:FuncId} (h:Lr P t name f=true):qf P t name f:=by
 unfold Lr at h;split at h
 ·rename_i i d aR ax
  simp only [f8] at h;obtain ⟨⟨U,ad⟩,al⟩:=h;split at U
  ·rename_i m hm
   simp only [f8] at U;obtain ⟨bf,bE⟩:=U;split at bE
   ·rename_i ng b a7
    simp only [f8] at bE;have b2:=ae0 bE.1;have bU:b=false:=by simpa using bE.2
    subst b2;subst bU;refine SJ aR hm (by simpa [Array.isEmpty] using bf) a7 ax (fun e he=>by subst he;cases ad) ?_;have:0<P.types.size+Made.depth:=by simpa [an3] using al
    exact ⟨P.types.size+Made.depth-1,by omega⟩
   ·cases bE
  ·cases U
 ·cases h
def rowOf (s:ao) (e:TypeId) (sz n:Nat):bN→ao
 | .own b=>s.set b (.row e sz n)
 | _=>s
def rm (s:ao) (n:Nat):bN→Prop
 | .own b=>s b=none
 | .nil=>True
 | .clip=>True
 | .bb=>False
section
variable {P:Program} {Γ:cA} {N:Nat} {env:Env} {s:ao}
theorem aZ.TO {o:Oper} {K X aO nJ:ag→ao→Prop} (h:aZ P N o env s K X) (bk:∀ x aj,K x aj→∃ eO,ao.Sub eO aj∧aO x eO) (hg:∀ x aj,X x aj→∃ eO,ao.Sub eO aj∧nJ x eO):aZ P N o env s aO nJ:=by
 refine ⟨h.1,fun ro B a w p aI=>(h.2 ro B a w p aI).mono ?_⟩;rintro e w' ⟨aj,bj,U,ad,al,bf⟩;cases e with
 | returned v=>
  obtain ⟨x,aE,aD⟩:=bf;obtain ⟨eO,ar,eH⟩:=bk x aj aE;exact ⟨eO,bj,U,ad.sub ar,al.sub ar,x,eH,aD⟩
 | panicked dJ=>
  obtain ⟨v,x,ki,aE,aD⟩:=bf;obtain ⟨eO,ar,eH⟩:=hg x aj aE;exact ⟨eO,bj,U,ad.sub ar,al.sub ar,v,x,ki,eH,aD⟩
 | outgrown=>exact bf.elim
theorem aZ.GJ (aP:bQ P Γ) {o:Oper} {t bI e:TypeId} {x y:Operand} {it cz aH:bO} {dX bY n:Nat} {xs ys:List ag} {own dr:bN}
  (ai:o.op = .call { callee := .builtin .append,args := #[x,y],argTypes := #[t,bI] }) (aN:Γ.get? t=some it) (bt:it.bF = .aA e) (c0:Γ.get? bI=some cz) (dy:∀ k,cz.bF ≠ .int k)
  (bJ:Γ.get? e=some aH) (ab:aM env x=some (.aA dX xs own)) (ay:aM env y=some (.aA bY ys dr)) (gE:dX=aH.size) (de:ys=[]∨bY=aH.size)
  (dS:af0 aH.zero.cells.size aH.size=true) (dC:∀ y∈ys,km aH.size y=true) (an:(xs.length+ys.length)*aH.bytes≤140737488355328) (ek:xs.length+ys.length≤9223372036854775807)
  (az:n=xs.length) (I:rm s n own) {X:ag→ao→Prop} :
  aZ P N o env (rowOf s e aH.size n own) (fun r aj=>∃ cM,rm s (xs.length+ys.length) cM∧(ys≠[]→∃ b,cM = .own b)∧(∀ b,own = .own b→∃ aY,cM = .own aY)∧r = .aA aH.size (xs++ys) cM∧aj=rowOf s e aH.size (xs.length+ys.length) cM) X:=by
 subst az;have jB:∀ b,own = .own b→rowOf s e aH.size xs.length own b=some (.row e aH.size xs.length):=fun b h=>by subst h;exact ao.gn _ _ _
 have qn:(own = .nil∨own = .clip)∨∃ b,own = .own b∧dX=aH.size∧rowOf s e aH.size xs.length own b=some (.row e aH.size xs.length):=by
  cases own with
  | nil=>exact .inl (.inl C)
  | clip=>exact .inl (.inr C)
  | bb=>exact I.elim
  | own b=>exact .inr ⟨b,rfl,gE,jB b C⟩
 have h:=aZ.append (P:=P) (N:=N) (X:=X) aP ai aN bt c0 dy bJ ab ay (.inr gE) de dS dC an ek qn;refine h.TO ?_ (fun _ aj h=>⟨aj,ao.pr _,h⟩);rintro r aj (⟨rfl,aB,rfl,rfl⟩|⟨s₁,wy,b,U,rfl,rfl⟩)
 ·refine ⟨_,ao.pr _,own,?_,fun h=>absurd C h,fun b h=>⟨b,h⟩,by rw [d6],?_⟩
  ·rcases aB with rfl|rfl<;>trivial
  ·rcases aB with rfl|rfl<;>rfl
 ·rcases wy with rfl|⟨aY,rfl,rfl⟩
  ·cases own with
   | nil=>exact ⟨_,ao.pr _,.own b,U,fun _=>⟨b,rfl⟩,fun _ h=>ot,rfl,rfl⟩
   | clip=>exact ⟨_,ao.pr _,.own b,U,fun _=>⟨b,rfl⟩,fun _ h=>ot,rfl,rfl⟩
   | bb=>exact I.elim
   | own aY=>
    obtain ⟨ea,dj⟩:=ao.uK U;refine ⟨s.set b (.row e aH.size (xs.length+ys.length)),fun x=>?_,.own b,dj,fun _=>⟨b,rfl⟩,fun _ _=>⟨b,rfl⟩,rfl,rfl⟩;by_cases b2:x=b
    ·subst b2;left;rw [ao.gn,ao.gn]
    ·by_cases bU:x=aY
     ·subst bU;right;rw [ao.fG _ _ b2];exact I
     ·left;rw [ao.fG _ _ b2,ao.fG _ _ b2];exact (ao.fG _ _ bU).symm
  ·have ax:(rowOf s e aH.size xs.length (.own aY)).del aY=s:=ao.Aj _ _ _ I
   rw [ax] at U ⊢;exact ⟨_,ao.pr _,.own b,U,fun _=>⟨b,rfl⟩,fun _ _=>⟨b,rfl⟩,rfl,rfl⟩
end
section
variable {P:Program} {Γ:cA} {N:Nat} {ops:Array Oper} {Q:b9→Env→ao→Prop} {env:Env} {s:ao} {l:List Oper} {o:Oper} {d:Nat}
end
section
variable {Q:b9→Env→ao→Prop} {next:Env→ao→Prop} {env:Env} {s:ao}
theorem kJ {id:Nat} (h:Q (.exit id) env s):b9.andThen next Q (.exit id) env s:=h
theorem fY (h:Q .ret env s):b9.andThen next Q .ret env s:=h
theorem fh {id:Nat} (h:Q .normal env s):b9.inBlock id Q .normal env s:=h
theorem hC {id:Nat} (h:Q .ret env s):b9.inBlock id Q .ret env s:=h
theorem kK {id:Nat} (h:Q .normal env s):b9.inBlock id Q (.exit id) env s:=by
 show (if af0 id id then Q .normal env s else Q (.exit id) env s);rw [at9];exact h
theorem nW {id k0:Nat} (az:af0 k0 id=false) (h:Q (.exit k0) env s):b9.inBlock id Q (.exit k0) env s:=by
 show (if af0 k0 id then Q .normal env s else Q (.exit k0) env s);rw [az];exact h
end
theorem aQ.of_eq {x y:ag} (h:x=y):aQ x y:=h ▸ aQ.refl x
theorem dz {n:Int} (bq : -9223372036854775808≤n) (U:n≤9223372036854775807):t7 .i64 n=n:=by
 unfold t7 IntKind.bits IntKind.signed;simp;omega
theorem h7 {n:Nat} (h:n<9223372036854775807):t7 .i64 ((n:Int)+1)=((n+1:Nat):Int):=by
 rw [dz af af];omega
section
variable {P:Program} {Γ:cA} {N:Nat} {ops:Array Oper} {Q:b9→Env→ao→Prop} {env:Env} {s:ao} {l:List Oper} {o:Oper} {d:Nat}
theorem aa.congr (e:Env) (he:∀ t,e.get? t=env.get? t) (h:aa P N ops l Q e s):aa P N ops l Q env s:=
 fun k aE ro B a w p aI=>h k aE ro B a w p ⟨aI.size,fun t v aw=>aI.env t v ((he t).symm.trans aw),aI.wf,aI.defs,aI.round,aI.base⟩
theorem ae.congr {c:Code} (e:Env) (he:∀ t,e.get? t=env.get? t) (h:ae P N c Q e s):ae P N c Q env s:=
 fun b B a w p e4 aI=>h b B a w p e4 ⟨aI.size,fun t v aw=>aI.env t v ((he t).symm.trans aw),aI.wf,aI.defs,aI.round,aI.base⟩
theorem TP (e:Env) (d:Nat) (x y:ag):∀ t,Env.get? ((d,x)::e) t=Env.get? ((d,x)::(d,y)::e) t:=by
 intro t;simp only [Env.get?];split<;>rfl
theorem TQ (e:Env) {c d:Nat} (x y:ag) (h:af0 c d=false):∀ t,Env.get? ((d,y)::(c,x)::e) t=Env.get? ((c,x)::(d,y)::e) t:=by
 intro t;simp only [Env.get?];cases U:af0 d t<;>cases ad:af0 c t<;>simp
 have:=ae0 U;have:=ae0 ad;subst_vars;rw [at9] at h;cases h
theorem aa.Dz (aP:bQ P Γ) {o':Oper} {t:TypeId} {i:bO} {z v:ag} {aW us:List ag} {y:Operand} (av:guardOf ops env o=some true) (ax:o.dst=some d) (aU:t8 d N=true) (ai:o.op = .alloc t) (aN:Γ.get? t=some i)
  (bG:hH i.zero=some z) (aB:cellsOf z=some aW) (oD:∀ b,guardOf ops ((d,.ptr b 0)::env) o'=some true) (cp:o'.dst=none) (cD:o'.op = .store t (.tmp d) y)
  (ay:∀ b,aM ((d,.ptr b 0)::env) y=some v) (aw:cellsOf v=some us) (hu:af0 us.length i.size=true) (U:us.all fe=true) (fr:af0 us.length aW.length=true)
  (h:aa P N ops l Q ((d,.bw us 0)::env) s):aa P N ops (o::o'::l) Q env s:=by
 refine aa.alloc aP av ax aU ai aN bG aB (fun b an=>?_);have aC:=ae0 fr;have TR:aM ((d,.ptr b 0)::env) (.tmp d)=some (.ptr b 0):=by simp [aM,Env.get?]
 refine aa.C4 aP (oD b) cp cD aN TR (ay b) aw hu U (ao.gn _ _ _) (Nat.ble_eq_true_of_le af) ?_;rw [ao.set_set];refine aa.freeze d b (by simp [Env.get?]) (ao.gn _ _ _) ?_;rw [ao.Aj _ _ _ an];have he:eM 0 us aW=us:=by rw [KL _ _ _ af];simp [List.drop_eq_nil_of_le,aC]
 rw [he];exact aa.congr _ (TP _ _ _ _) h
end
section
variable {P:Program} {Γ:cA} {N:Nat} {l:List Oper} {Q:b9→Env→ao→Prop} {env:Env} {s:ao} {m:Nat}
theorem bc.TS {σ:Type} (f:σ→ag) (g:σ→ao) (aej:σ→Prop) {GK:σ→Prop} (aP:bQ P Γ) {i j:Nat} {o u:Oper} {d c:Nat} {t T:TypeId} {x:Operand} {dP:bO} {b off:Nat} {cs:List ag} {v:ag} {aO nJ:ag→ao→Prop}
  (aD:eJ l.toArray m (idxs 0 l)=[i,j]) (TT:eJ l.toArray (m|||2^i) (idxs 0 l)=[j])
  (ai:l.toArray[i]? = some o) (hu:l.toArray[j]? = some u) (ax:o.dst=some d) (aB:u.dst=some c) (aU:t8 d N=true) (qk:t8 c N=true) (cJ:af0 i j=false)
  (b3:o.op = .load t x) (aN:Γ.get? t=some dP) (ab:aM (b4 l env o) x=some (.ptr b off)) (ar:s b=some (.box T cs)) (aw:hV dP cs off=some v)
  (av:c6 l env o) (oD:guardOf l.toArray (iH env (looks l.toArray u)) u=some true)
  (b2:iH ((d,v)::env) (looks l.toArray u)=iH env (looks l.toArray u))
  (e3:aZ P N u (iH env (looks l.toArray u)) s aO nJ)
  (bk:∀ y aj,aO y aj→∃ z,aej z∧y=f z∧aj=g z)
  (sh:∀ z,aej z→GK z→bc P Γ N l.toArray Q (bZ (m|||2^i|||2^j)) ((c,f z)::(d,v)::env) (g z))
  (cG:∀ z,aej z→GK z→bc P Γ N l.toArray Q (bZ (m|||2^j)) ((c,f z)::env) (g z))
  (aE:∀ z,aej z→GK z) (bL:∀ y aj,nJ y aj→Q (.panic y) [] aj):bc P Γ N l.toArray Q (bZ m) env s:=by
 refine bc.two (X:=fun _ _=>False) aD ai hu ax aB aU qk cJ av oD (aZ.uL aP b3 aN ab ar aw) e3 ?_ ?_ (fun _ _ h=>h.elim) bL
 ·rintro y aj ⟨rfl,rfl⟩
  refine bc.one TT hu aB qk (by rw [← b2] at oD;exact oD) (by rw [← b2] at e3;exact e3) (fun y aj ay=>?_) bL;obtain ⟨z,bG,rfl,rfl⟩:=bk y aj ay;exact sh z bG (aE z bG)
 ·intro y aj ay
  obtain ⟨z,bG,rfl,rfl⟩:=bk y aj ay;exact cG z bG (aE z bG)
end
theorem dx.rn {w:World} {p:bV} {s:ao} (h:dx w p s) {b:Nat} {T:TypeId} {cs cs':List ag} (ar:s b=some (.box T cs)) (aB:cU cs cs'):dx w p (s.set b (.box T cs')):=by
 refine ⟨fun x o ab=>?_,h.lt⟩;by_cases e:x=b
 ·subst e
  rw [ao.gn] at ab;cases ab;obtain ⟨vs,U,ad,al⟩:=h.obj _ _ ar;exact ⟨vs,U,aB.rel ad,al⟩
 ·rw [ao.fG _ _ e] at ab;exact h.obj x o ab
theorem ao.yH {s:ao} {b:Nat} {o o':dH} (ar:s b=some o) (x:Nat):(s.set b o') x=none↔s x=none:=by
 by_cases e:x=b
 ·subst e;rw [ao.gn,ar];simp
 ·rw [ao.fG _ _ e]
theorem dI.rn {N:Nat} {B:fV} {ro:Option Nat} {env:Env} {s:ao} {a:Act} {w:World} {p:bV} (h:dI N B ro env s a w p) {b:Nat} {T:TypeId} {cs cs':List ag} (ar:s b=some (.box T cs)) (aB:cU cs cs') :
  dI N B ro env (s.set b (.box T cs')) a w p:=by
 obtain ⟨ds,U,ad,al⟩:=h.defs
 exact ⟨h.size,h.env,h.wf.rn ar aB,⟨ds,U,ad,fun d ax=>let ⟨a,b,c⟩:=al d ax;⟨a,b,(ao.yH ar d).2 c⟩⟩,
  fun l aC=>let ⟨a,b,c⟩:=h.round l aC;⟨a,b,(ao.yH ar l).2 c⟩,h.base⟩
theorem Kept.rn {s eO:ao} {w w':World} {p bj:bV} {b:Nat} {o o':dH} (ar:s b=some o) (h:Kept (s.set b o') eO w p w' bj):Kept s eO w p w' bj :=
 ⟨fun x ab az=>h.heap x ab ((ao.yH ar x).2 az),fun x ab az=>h.k2 x ab ((ao.yH ar x).2 az),fun x o ab az=>h.ly x o ab ((ao.yH ar x).2 az)⟩
theorem ae.rn {P:Program} {N:Nat} {Q:b9→Env→ao→Prop} {env:Env} {s:ao} {c:Code} (b:Nat) {T:TypeId} {cs:List ag} (cs':List ag) (ar:s b=some (.box T cs)) (aB:cU cs cs')
  (h:ae P N c Q env (s.set b (.box T cs'))):ae P N c Q env s:=
 fun hn B a w p e4 aI=>mq (h hn B a w p e4 (aI.rn ar aB)) fun _ _ _ ⟨x,e0,eO,bj,U,ad,al,bf,bE⟩=>⟨x,e0,eO,bj,U,ad,al,bf,bE.rn ar⟩
theorem aa.rn {P:Program} {N:Nat} {ops:Array Oper} {l:List Oper} {Q:b9→Env→ao→Prop} {env:Env} {s:ao} (b:Nat) {T:TypeId} {cs:List ag} (cs':List ag) (ar:s b=some (.box T cs)) (aB:cU cs cs')
  (h:aa P N ops l Q env (s.set b (.box T cs'))):aa P N ops l Q env s:=
 fun k aE ro B a w p aI=>v7 (fun _ _ _ ⟨x,e0,eO,bj,U,ad,al,bf,bE⟩=>⟨x,e0,eO,bj,U,ad,al,bf,bE.rn ar⟩) _ a w (h k aE ro B a w p (aI.rn ar aB))
theorem cU.one {x y:ag} (h:aQ x y):cU [x] [y] := .cons h .nil
theorem cU.last {x y:ag} (h:aQ x y):∀ (l:List ag),cU (l++[x]) (l++[y])
 | [] => .one h
 | z::l => .cons (aQ.refl z) (cU.last h l)
theorem ao.set_comm (s:ao) {b c:Nat} (o o':dH) (h:b≠c):(s.set b o).set c o'=(s.set c o').set b o:=by
 funext x;simp only [ao.set];split<;>split<;>simp_all
theorem rm.ne {s:ao} {n b:Nat} {own:bN} {o:dH} (I:rm s n own) (h:s b=some o):∀ aY,own = .own aY→aY≠b:=by
 rintro aY rfl e;subst e;simp only [rm] at I;rw [I] at h;cases h
theorem rm.set {s:ao} {n m b:Nat} {own:bN} {o o':dH} (I:rm s n own) (h:s b=some o):rm (s.set b o') m own:=by
 cases own with
 | own aY=>exact (ao.yH h aY).2 I
 | nil=>trivial
 | clip=>trivial
 | bb=>exact I
section
variable {P:Program} {Γ:cA} {N:Nat} {l:List Oper} {Q:b9→Env→ao→Prop} {env:Env} {s:ao} {m:Nat}
end
theorem ao.TU {s t:ao} {b:Nat} {o:dH} (h:ao.Sub s t) (an:s b=none):ao.Sub s (t.set b o):=fun x=>by
 by_cases e:x=b
 ·subst e;exact .inr an
 ·rw [ao.fG _ _ e];exact h x
section
variable {P:Program} {Γ:cA} {N:Nat} {l:List Oper} {Q:b9→Env→ao→Prop} {env:Env} {s:ao} {m:Nat}
theorem bg.si {J:ao→Prop} (cO:J s) {i:Nat} {o:Oper} {d:Nat} {v:ag} (aD:iI l.toArray m i=true) (ai:l.toArray[i]? = some o) (ax:o.dst=some d) (aU:t8 d N=true)
  (av:c6 l env o) (aw:∀ s,J s→aZ P N o (b4 l env o) s (fun x aj=>x=v∧aj=s) (fun _ _=>False))
  (h:bg J P Γ N l.toArray Q (bZ (m|||2^i)) ((d,v)::env) s):bg J P Γ N l.toArray Q (bZ m) env s:=by
 have U:=tw.1 aD;refine bg.still cO i o d v U ai ax Dm (.inr (.inr ⟨av,aw⟩)) ?_;rw [pA];exact h
theorem bc.calm {i:Nat} {o:Oper} {d:Nat} {v:ag} (aD:iI l.toArray m i=true) (ai:l.toArray[i]? = some o) (ax:o.dst=some d) (aU:t8 d N=true)
  (av:c6 l env o) (aw:∀ s,aZ P N o (b4 l env o) s (fun x aj=>x=v∧aj=s) (fun _ _=>False))
  (h:bc P Γ N l.toArray Q (bZ (m|||2^i)) ((d,v)::env) s):bc P Γ N l.toArray Q (bZ m) env s:=
 bg.si trivial aD ai ax aU av (fun s _=>aw s) h
theorem bc.TV {i:Nat} {o:Oper} {d:Nat} {f:FuncId} {as:Array Operand} {da:Array TypeId} {xs:List ag} {v:ag} (aD:iI l.toArray m i=true) (ai:l.toArray[i]? = some o) (ax:o.dst=some d) (aU:t8 d N=true)
  (av:c6 l env o) (b3:o.op = .call { callee := .value (.func f),args:=as,argTypes:=da }) (a6:fX (b4 l env o) as.toList=some xs)
  (aB:∀ s,hp P f xs s (fun o aj=>o = .ret v∧aj=s))
  (h:bc P Γ N l.toArray Q (bZ (m|||2^i)) ((d,v)::env) s):bc P Γ N l.toArray Q (bZ m) env s:=
 bc.calm aD ai ax aU av (fun s=>(aZ.call b3 (fv := .func f [] []) rfl a6 (hY.fx (R:=fun o aj=>o = .ret v∧aj=s) (by simpa using aB s))).mono (fun x aj h=>by cases h.1;exact ⟨rfl,h.2⟩) (fun x aj h=>by cases h.1)) h
def ko (P:Program) (Γ:cA) (N:Nat) (l:List Oper) (Q:b9→Env→ao→Prop) (m:Nat) (env:Env) (s:ao) (i:Nat):Prop:=
 ∃ (o:Oper) (K X:ag→ao→Prop),l.toArray[i]? = some o∧guardOf l.toArray (b4 l env o) o=some true∧aZ P N o (b4 l env o) s K X∧(∀ d,o.dst=some d→d<N) ∧
  (∀ d,o.dst=some d→∀ x aj,K x aj→bc P Γ N l.toArray Q (bZ (m|||2^i)) ((d,x)::env) aj)∧(o.dst=none→∀ x aj,K x aj→bc P Γ N l.toArray Q (bZ (m|||2^i)) env aj) ∧
  ∀ x aj,X x aj→Q (.panic x) [] aj
theorem ko.mk {i:Nat} {o:Oper} {d:Nat} {K X:ag→ao→Prop} (ai:l.toArray[i]? = some o) (ax:o.dst=some d) (aU:t8 d N=true) (av:c6 l env o)
  (h:aZ P N o (b4 l env o) s K X) (aE:∀ x aj,K x aj→bc P Γ N l.toArray Q (bZ (m|||2^i)) ((d,x)::env) aj) (ab:∀ x aj,X x aj→Q (.panic x) [] aj):ko P Γ N l Q m env s i:=
 ⟨o,K,X,ai,av,h,(fun c9 cp=>by rw [ax] at cp;cases cp;simpa [an3] using aU),(fun c9 cp=>by rw [ax] at cp;cases cp;exact aE),(fun az=>by rw [ax] at az;cases az),ab⟩
theorem ko.DA {i:Nat} {o:Oper} {K X:ag→ao→Prop} (ai:l.toArray[i]? = some o) (ax:o.dst=none) (av:c6 l env o)
  (h:aZ P N o (b4 l env o) s K X) (aE:∀ x aj,K x aj→bc P Γ N l.toArray Q (bZ (m|||2^i)) env aj) (ab:∀ x aj,X x aj→Q (.panic x) [] aj):ko P Γ N l Q m env s i:=
 ⟨o,K,X,ai,av,h,(fun c9 cp=>by rw [ax] at cp;cases cp),(fun c9 cp=>by rw [ax] at cp;cases cp),(fun _=>aE),ab⟩
def hZ (P:Program) (Γ:cA) (N:Nat) (l:List Oper) (Q:b9→Env→ao→Prop) (m:Nat) (env:Env) (s:ao):List Nat→Prop
 | []=>True
 | i::is=>ko P Γ N l Q m env s i∧hZ P Γ N l Q m env s is
theorem hZ.mem {i:Nat}:∀ {is:List Nat},hZ P Γ N l Q m env s is→i∈is→ko P Γ N l Q m env s i
  | j::is,h,aR=>by
    rcases af2.1 aR with rfl|aR
    · exact h.1
    · exact hZ.mem h.2 aR
theorem GL {ops:Array Oper} {i:Nat}:∀ {is:List Nat},i∈eJ ops m is→iI ops m i=true
  | j::is,h=>by
    simp only [eJ] at h;split at h
    · rename_i an
      rcases af2.1 h with rfl|h
      · exact an
      · exact GL h
    · exact GL h
theorem bc.many {i:Nat} {is:List Nat} (aD:eJ l.toArray m (idxs 0 l)=i::is) (h:hZ P Γ N l Q m env s (i::is)):bc P Γ N l.toArray Q (bZ m) env s:=by
 have fy:∀ k,hq l.toArray (bZ m) k→ko P Γ N l Q m env s k:=fun k aE=>by
  have:=AA aE (l:=idxs 0 l) (by rw [yE,aq7];have:=aE.1;simp at this;omega);rw [aD] at this;exact h.mem this
 have jm:hq l.toArray (bZ m) i:=tw.1 (GL (is:=idxs 0 l) (by rw [aD];exact i6 ..));refine bg.split (fun k x aj=>∃ o,l.toArray[k]? = some o∧(∀ d,o.dst=some d→bc P Γ N l.toArray Q (bZ (m|||2^k)) ((d,x)::env) aj)∧(o.dst=none→bc P Γ N l.toArray Q (bZ (m|||2^k)) env aj))
  (fun k x aj=>Q (.panic x) [] aj) ⟨i,jm.1,jm.2.1⟩ (fun k o aE ai=>?_) (fun _ _ _ _ _ _ _ => .inl trivial) (fun k o d aE ai ax x aj ⟨o',cD,U,ad⟩=>?_) (fun k o aE ai ax x aj ⟨o',cD,U,ad⟩=>?_) (fun k o aE ai x aj ab=>ab)
 ·obtain ⟨o',K,X,cD,av,qj,aU,U,ad,al⟩:=fy k aE
  rw [ai] at cD;cases cD;exact ⟨av,qj.mono (fun x aj bk=>⟨o,ai,fun d ax=>U d ax x aj bk,fun ax=>ad ax x aj bk⟩) (fun x aj hg=>al x aj hg),aU⟩
 ·rw [ai] at cD;cases cD
  rw [pA];exact U d ax
 ·rw [ai] at cD;cases cD
  rw [pA];exact ad ax
end
section
variable {P:Program} {Γ:cA} {N:Nat} {ops:Array Oper} {Q:b9→Env→ao→Prop} {env:Env} {s:ao} {l:List Oper} {o:Oper} {d:Nat}
theorem aZ.GM {o:Oper} {t:TypeId} {x:Operand} {v:ag} {cs:List ag} (ai:o.op = .box t x) (ab:aM env x=some v) (aB:cellsOf v=some cs) {X:ag→ao→Prop} :
  aZ P N o env s (fun r aj=>∃ b,s b=none∧r = .ptr b 0∧aj=s.set b (.box t cs)) X:=by
 refine aZ.kB iW fun ro B a w p aI=>?_
 have aD:=q2 (aI.aM ab) aB;obtain ⟨cE,dq,fl,eK⟩:=r9 aI.wf (.cells (a.eval x).cells t) (.box t cs) (fun w' U ad al=>⟨(a.eval x).cells,U,al _ _ aD,fun o aF=>absurd (aI.wf.lt _ _ aF) af⟩);refine ⟨.pointer (some ⟨w.heap.size,0,none⟩),w.alloc (.cells (a.eval x).cells t),_,p,.ptr w.heap.size 0,?_,dq,fl,eK,⟨_,cE,rfl,rfl⟩,.ptr _ _⟩;unfold execOp;rw [ai];rfl
theorem aa.GM {t:TypeId} {x:Operand} {v:ag} {cs:List ag} (av:guardOf ops env o=some true) (ax:o.dst=some d) (aU:t8 d N=true) (ai:o.op = .box t x) (ab:aM env x=some v) (aB:cellsOf v=some cs)
  (h:∀ b,s b=none→aa P N ops l Q ((d,.ptr b 0)::env) (s.set b (.box t cs))):aa P N ops (o::l) Q env s:=
 aa.op av ax aU (aZ.GM ai ab aB (X:=fun _ _=>False)) (fun x aj ⟨b,U,ad,al⟩=>by subst ad;subst al;exact h b U) (fun _ _ h=>h.elim)
end
abbrev a':=List (bN×dH)
def l4 (s:ao) (k:bN) (o:dH):ao:=match k with
 | .own b=>s.set b o
 | _=>s
def gone (s:ao) (k:bN):Prop:=match k with
 | .own b=>s b=none
 | .bb=>False
 | _=>True
def aS (s:ao):a'→ao
 | []=>s
 | e::L=>l4 (aS s L) e.1 e.2
def Ok (s:ao):a'→Prop
 | []=>True
 | e::L=>gone (aS s L) e.1∧Ok s L
inductive bo:a'→bN→dH→a'→Prop
 | here {k:bN} {o:dH} {L:a'}:bo ((k,o)::L) k o L
 | there {e:bN×dH} {k:bN} {o:dH} {L R:a'} (h:bo L k o R):bo (e::L) k o (e::R)
inductive aG:a'→a'→a'→Prop
 | nil {L:a'}:aG L [] L
 | cons {k:bN} {o:dH} {L K R dw:a'} (h:bo L k o R) (t:aG R K dw):aG L ((k,o)::K) dw
theorem Ls (s:ao) (e:TypeId) (sz n:Nat) (k:bN):rowOf s e sz n k=l4 s k (.row e sz n):=by cases k<;>rfl
theorem Lt {s:ao} {n:Nat} {k:bN}:rm s n k↔gone s k:=by cases k<;>exact Iff.rfl
theorem TW {s:ao} {k k':bN} {o o':dH} (h:gone s k) (e3:gone (l4 s k o) k'):gone s k'∧gone (l4 s k' o') k∧l4 (l4 s k o) k' o'=l4 (l4 s k' o') k o:=by
 cases k with
 | own b=>
  cases k' with
  | own aY=>
   obtain ⟨U,ad⟩:=ao.uK e3;exact ⟨ad,(ao.fG s o' (Ne.symm U)).trans h,ao.set_comm s o o' (Ne.symm U)⟩
  | nil=>exact ⟨trivial,h,rfl⟩
  | clip=>exact ⟨trivial,h,rfl⟩
  | bb=>exact e3.elim
 | nil=>exact ⟨e3,trivial,rfl⟩
 | clip=>exact ⟨e3,trivial,rfl⟩
 | bb=>exact h.elim
theorem bo.perm {s:ao} {L R:a'} {k:bN} {o:dH} (h:bo L k o R):Ok s L→aS s L=aS s ((k,o)::R)∧Ok s ((k,o)::R):=by
 induction h with
 | here=>exact fun h=>⟨rfl,h⟩
 | @there e k o L R h a1=>
  rintro ⟨av,I⟩;obtain ⟨U,ad,al⟩:=a1 I;rw [U] at av;obtain ⟨g1,g2,g3⟩:=TW (s:=aS s R) (k:=k) (o:=o) (k':=e.1) (o':=e.2) ad av;refine ⟨?_,g2,g1,al⟩;show l4 (aS s L) e.1 e.2=l4 (l4 (aS s R) e.1 e.2) k o;rw [U];exact g3
theorem AG (s:ao):∀ (K R:a'),aS s (K++R)=aS (aS s R) K
 | [],_=>rfl
 | e::K,R=>by show l4 (aS s (K++R)) e.1 e.2=_;rw [AG s K R];rfl
theorem DB {s:ao}:∀ {K R:a'},Ok s (K++R)↔Ok (aS s R) K∧Ok s R
  | [],R=>⟨fun h=>⟨trivial,h⟩,fun h=>h.2⟩
  | e::K,R=>by
    show gone (aS s (K++R)) e.1∧Ok s (K++R)↔(gone (aS (aS s R) K) e.1∧Ok (aS s R) K)∧Ok s R;rw [AG,DB,and_assoc]
theorem aG.perm {s:ao} {L K R:a'} (h:aG L K R):Ok s L→aS s L=aS s (K++R)∧Ok s (K++R):=by
 induction h with
 | nil=>exact fun h=>⟨rfl,h⟩
 | @cons k o L K R dw h t a1=>
  intro I;obtain ⟨U,ad,al⟩:=h.perm I;obtain ⟨bf,bE⟩:=a1 al;refine ⟨?_,?_,bE⟩
  ·rw [U];show l4 (aS s R) k o=l4 (aS s (K++dw)) k o;rw [bf]
  ·have hf:gone (aS s R) k:=ad
   rw [bf] at hf;exact hf
theorem aG.eq {s:ao} {L K R:a'} (h:aG L K R) (I:Ok s L):aS s L=aS (aS s R) K∧Ok (aS s R) K∧Ok s R:=by
 obtain ⟨U,ad⟩:=h.perm I;rw [AG] at U;exact ⟨U,DB.1 ad⟩
theorem DC {s t:ao} {k:bN} {o:dH} (h:ao.Sub s t):ao.Sub (l4 s k o) (l4 t k o):=by
 cases k with
 | own b=>
  intro x;by_cases e:x=b
  ·subst e;left;show (s.set x o) x=(t.set x o) x;rw [ao.gn,ao.gn]
  ·show (s.set b o) x=(t.set b o) x∨(s.set b o) x=none
   rw [ao.fG _ _ e,ao.fG _ _ e];exact h x
 | nil=>exact h
 | clip=>exact h
 | bb=>exact h
theorem yI {s t:ao} {k:bN} {o:dH} (h:ao.Sub s t) (av:gone s k):ao.Sub s (l4 t k o):=by
 cases k with
 | own b=>exact ao.TU h av
 | nil=>exact h
 | clip=>exact h
 | bb=>exact h
theorem GN {s t:ao} (h:ao.Sub s t):∀ L:a',ao.Sub (aS s L) (aS t L)
 | []=>h
 | _::L=>DC (GN h L)
theorem Lu {s t:ao} {k:bN} (h:ao.Sub s t) (av:gone t k):gone s k:=by
 cases k with
 | own b=>exact h.none av
 | nil=>trivial
 | clip=>trivial
 | bb=>exact av
theorem Ok.sub {s:ao}:∀ {L:a'},Ok s L→ao.Sub s (aS s L)
 | [],_=>ao.pr _
 | e::L,h=>yI (Ok.sub h.2) (Lu (Ok.sub h.2) h.1)
theorem Ok.nV {s t:ao} (h:ao.Sub s t):∀ {L:a'},Ok t L→Ok s L
 | [],_=>trivial
 | e::L,I=>⟨Lu (GN h L) I.1,Ok.nV h I.2⟩
theorem aG.sub {s:ao} {L K R:a'} (h:aG L K R) (I:Ok s L):ao.Sub (aS s K) (aS s L)∧Ok s K:=by
 obtain ⟨U,ad,al⟩:=h.eq I;rw [U];exact ⟨GN al.sub K,ad.nV al.sub⟩
theorem bo.get {s:ao} {L R:a'} {b:Nat} {o:dH} (h:bo L (.own b) o R) (I:Ok s L):aS s L b=some o:=by
 rw [(h.perm I).1];exact ao.gn _ _ _
theorem bo.put {s:ao} {L R:a'} {b:Nat} {o:dH} (o':dH) (h:bo L (.own b) o R) (I:Ok s L):(aS s L).set b o'=aS s ((.own b,o')::R)∧Ok s ((.own b,o')::R):=by
 obtain ⟨U,ad⟩:=h.perm I;rw [U];exact ⟨ao.set_set _ _ _ _,ad⟩
theorem bo.del {s:ao} {L R:a'} {b:Nat} {o:dH} (h:bo L (.own b) o R) (I:Ok s L):(aS s L).del b=aS s R∧Ok s R:=by
 obtain ⟨U,ad⟩:=h.perm I;rw [U];exact ⟨ao.Aj _ _ _ ad.1,ad.2⟩
section
variable {P:Program} {Γ:cA} {N:Nat} {ops:Array Oper} {Q:b9→Env→ao→Prop} {env:Env} {s:ao} {l:List Oper} {o:Oper} {d:Nat} {L R:a'}
theorem aZ.ey (aP:bQ P Γ) (I:Ok s L) {t T:TypeId} {x:Operand} {i:bO} {b off:Nat} {cs:List ag} {v:ag} (ai:o.op = .load t x) (aN:Γ.get? t=some i) (ab:aM env x=some (.ptr b off))
  (ar:bo L (.own b) (.box T cs) R) (aw:hV i cs off=some v) {X:ag→ao→Prop}:aZ P N o env (aS s L) (fun x aj=>x=v∧aj=aS s L) X:=
 aZ.uL aP ai aN ab (ar.get I) aw
theorem aa.ey (aP:bQ P Γ) (I:Ok s L) {t T:TypeId} {x:Operand} {i:bO} {b off:Nat} {cs:List ag} {v:ag} (av:guardOf ops env o=some true) (ax:o.dst=some d) (aU:t8 d N=true) (ai:o.op = .load t x)
  (aN:Γ.get? t=some i) (ab:aM env x=some (.ptr b off)) (ar:bo L (.own b) (.box T cs) R) (aw:hV i cs off=some v) (h:aa P N ops l Q ((d,v)::env) (aS s L)):aa P N ops (o::l) Q env (aS s L):=
 aa.uL aP av ax aU ai aN ab (ar.get I) aw h
theorem aZ.cK (aP:bQ P Γ) (I:Ok s L) {t T:TypeId} {x y:Operand} {i:bO} {b off:Nat} {cs us:List ag} {v:ag} (ai:o.op = .store t x y) (aN:Γ.get? t=some i) (ab:aM env x=some (.ptr b off))
  (ay:aM env y=some v) (aw:cellsOf v=some us) (hu:af0 us.length i.size=true) (U:us.all fe=true) (ar:bo L (.own b) (.box T cs) R) (fr:ao5 (off+us.length) cs.length=true) {X:ag→ao→Prop} :
  aZ P N o env (aS s L) (fun _ aj=>aj=aS s ((.own b,.box T (eM off us cs))::R)∧Ok s ((.own b,.box T (eM off us cs))::R)) X:=by
 obtain ⟨ad,al⟩:=ar.put (.box T (eM off us cs)) I;exact (aZ.C4 aP ai aN ab ay aw hu U (ar.get I) fr (X:=X)).mono (fun _ aj h=>⟨h.trans ad,al⟩) (fun _ _ h=>h)
theorem aa.cK (aP:bQ P Γ) (I:Ok s L) {t T:TypeId} {x y:Operand} {i:bO} {b off:Nat} {cs us:List ag} {v:ag} (av:guardOf ops env o=some true) (ax:o.dst=none) (ai:o.op = .store t x y)
  (aN:Γ.get? t=some i) (ab:aM env x=some (.ptr b off)) (ay:aM env y=some v) (aw:cellsOf v=some us) (hu:af0 us.length i.size=true) (U:us.all fe=true)
  (ar:bo L (.own b) (.box T cs) R) (fr:ao5 (off+us.length) cs.length=true) (h:Ok s ((.own b,.box T (eM off us cs))::R)→aa P N ops l Q env (aS s ((.own b,.box T (eM off us cs))::R))):aa P N ops (o::l) Q env (aS s L):=
 aa.v8 av ax (aZ.cK aP I ai aN ab ay aw hu U ar fr (X:=fun _ _=>False)) (fun x aj ⟨ad,al⟩=>by subst ad;exact h al) (fun _ _ h=>h.elim)
theorem aZ.eb (aP:bQ P Γ) (I:Ok s L) {t:TypeId} {i:bO} {z:ag} {cs:List ag} (ai:o.op = .alloc t) (aN:Γ.get? t=some i) (bG:hH i.zero=some z) (aB:cellsOf z=some cs) {X:ag→ao→Prop} :
  aZ P N o env (aS s L) (fun x aj=>∃ b,x = .ptr b 0∧aj=aS s ((.own b,.box t cs)::L)∧Ok s ((.own b,.box t cs)::L)) X:=
 (aZ.alloc aP ai aN bG aB (X:=X)).mono (fun x aj ⟨b,U,ad,al⟩=>⟨b,ad,al,U,I⟩) (fun _ _ h=>h)
theorem aa.eb (aP:bQ P Γ) (I:Ok s L) {t:TypeId} {i:bO} {z:ag} {cs:List ag} (av:guardOf ops env o=some true) (ax:o.dst=some d) (aU:t8 d N=true) (ai:o.op = .alloc t) (aN:Γ.get? t=some i)
  (bG:hH i.zero=some z) (aB:cellsOf z=some cs) (h:∀ b,Ok s ((.own b,.box t cs)::L)→aa P N ops l Q ((d,.ptr b 0)::env) (aS s ((.own b,.box t cs)::L))):aa P N ops (o::l) Q env (aS s L):=
 aa.op av ax aU (aZ.eb aP I ai aN bG aB (X:=fun _ _=>False)) (fun x aj ⟨b,U,ad,al⟩=>by subst U;subst ad;exact h b al) (fun _ _ h=>h.elim)
theorem aZ.jC (I:Ok s L) {t:TypeId} {x:Operand} {v:ag} {cs:List ag} (ai:o.op = .box t x) (ab:aM env x=some v) (aB:cellsOf v=some cs) {X:ag→ao→Prop} :
  aZ P N o env (aS s L) (fun x aj=>∃ b,x = .ptr b 0∧aj=aS s ((.own b,.box t cs)::L)∧Ok s ((.own b,.box t cs)::L)) X:=
 (aZ.GM ai ab aB (X:=X)).mono (fun x aj ⟨b,U,ad,al⟩=>⟨b,ad,al,U,I⟩) (fun _ _ h=>h)
theorem aa.jC (I:Ok s L) {t:TypeId} {x:Operand} {v:ag} {cs:List ag} (av:guardOf ops env o=some true) (ax:o.dst=some d) (aU:t8 d N=true) (ai:o.op = .box t x) (ab:aM env x=some v) (aB:cellsOf v=some cs)
  (h:∀ b,Ok s ((.own b,.box t cs)::L)→aa P N ops l Q ((d,.ptr b 0)::env) (aS s ((.own b,.box t cs)::L))):aa P N ops (o::l) Q env (aS s L):=
 aa.op av ax aU (aZ.jC I ai ab aB (X:=fun _ _=>False)) (fun x aj ⟨b,U,ad,al⟩=>by subst U;subst ad;exact h b al) (fun _ _ h=>h.elim)
theorem aZ.sj (I:Ok s L) {t:TypeId} (ai:o.op = .makeMap t none) {X:ag→ao→Prop} :
  aZ P N o env (aS s L) (fun x aj=>∃ b,x = .map b∧aj=aS s ((.own b,.map [])::L)∧Ok s ((.own b,.map [])::L)) X:=
 (aZ.makeMap ai (X:=X)).mono (fun x aj ⟨b,U,ad,al⟩=>⟨b,ad,al,U,I⟩) (fun _ _ h=>h)
theorem aa.sj (I:Ok s L) {t:TypeId} (av:guardOf ops env o=some true) (ax:o.dst=some d) (aU:t8 d N=true) (ai:o.op = .makeMap t none)
  (h:∀ b,Ok s ((.own b,.map [])::L)→aa P N ops l Q ((d,.map b)::env) (aS s ((.own b,.map [])::L))):aa P N ops (o::l) Q env (aS s L):=
 aa.op av ax aU (aZ.sj I ai (X:=fun _ _=>False)) (fun x aj ⟨b,U,ad,al⟩=>by subst U;subst ad;exact h b al) (fun _ _ h=>h.elim)
theorem aZ.jD (aP:bQ P Γ) (I:Ok s L) {t dW e5:TypeId} {x y:Operand} {ok:Bool} {it gL aH:bO} {m:Nat} {es:List (ag×ag)} {k z:ag} {r:Option ag} (ai:o.op = .lookup t x y ok) (aN:Γ.get? t=some it)
  (bt:it.bF = .map dW e5) (jy:Γ.get? dW=some gL) (bJ:Γ.get? e5=some aH) (ab:aM env x=some (.map m)) (ay:aM env y=some k) (ar:bo L (.own m) (.map es) R) (a7:kk gL.bF k=true) (aD:jj es k=some r)
  (bG:hH aH.zero=some z) {X:ag→ao→Prop}:aZ P N o env (aS s L) (fun x aj=>x=l0 ok z r∧aj=aS s L) X:=
 aZ.lookup aP ai aN bt jy bJ ab ay (.inl ⟨m,rfl,ar.get I⟩) a7 aD bG
theorem aa.jD (aP:bQ P Γ) (I:Ok s L) {t dW e5:TypeId} {x y:Operand} {ok:Bool} {it gL aH:bO} {m:Nat} {es:List (ag×ag)} {k z:ag} {r:Option ag} (av:guardOf ops env o=some true) (ax:o.dst=some d) (aU:t8 d N=true)
  (ai:o.op = .lookup t x y ok) (aN:Γ.get? t=some it) (bt:it.bF = .map dW e5) (jy:Γ.get? dW=some gL) (bJ:Γ.get? e5=some aH) (ab:aM env x=some (.map m)) (ay:aM env y=some k) (ar:bo L (.own m) (.map es) R)
  (a7:kk gL.bF k=true) (aD:jj es k=some r) (bG:hH aH.zero=some z) (h:aa P N ops l Q ((d,l0 ok z r)::env) (aS s L)):aa P N ops (o::l) Q env (aS s L):=
 aa.lookup aP av ax aU ai aN bt jy bJ ab ay (ar.get I) a7 aD bG h
theorem aZ.nh (aP:bQ P Γ) (I:Ok s L) {t dW e5:TypeId} {x y z:Operand} {it gL:bO} {b:Nat} {es dF:List (ag×ag)} {k v:ag} (ai:o.op = .mapUpdate t x y z∨o.op = .insert t x y z)
  (aN:Γ.get? t=some it) (bt:it.bF = .map dW e5) (jy:Γ.get? dW=some gL) (ab:aM env x=some (.map b)) (ay:aM env y=some k) (bG:aM env z=some v) (ar:bo L (.own b) (.map es) R) (a7:kk gL.bF k=true)
  (aF:lZ es k v=some dF) {X:ag→ao→Prop}:aZ P N o env (aS s L) (fun _ aj=>aj=aS s ((.own b,.map dF)::R)∧Ok s ((.own b,.map dF)::R)) X:=by
 obtain ⟨ad,al⟩:=ar.put (.map dF) I;exact (aZ.mapUpdate aP ai aN bt jy ab ay bG (ar.get I) a7 aF (X:=X)).mono (fun _ aj h=>⟨h.trans ad,al⟩) (fun _ _ h=>h)
theorem aa.nh (aP:bQ P Γ) (I:Ok s L) {t dW e5:TypeId} {x y z:Operand} {it gL:bO} {b:Nat} {es dF:List (ag×ag)} {k v:ag} (av:guardOf ops env o=some true) (ax:o.dst=none) (ai:o.op = .mapUpdate t x y z∨o.op = .insert t x y z)
  (aN:Γ.get? t=some it) (bt:it.bF = .map dW e5) (jy:Γ.get? dW=some gL) (ab:aM env x=some (.map b)) (ay:aM env y=some k) (bG:aM env z=some v) (ar:bo L (.own b) (.map es) R) (a7:kk gL.bF k=true)
  (aF:lZ es k v=some dF) (h:Ok s ((.own b,.map dF)::R)→aa P N ops l Q env (aS s ((.own b,.map dF)::R))):aa P N ops (o::l) Q env (aS s L):=
 aa.v8 av ax (aZ.nh aP I ai aN bt jy ab ay bG ar a7 aF (X:=fun _ _=>False)) (fun x aj ⟨ad,al⟩=>by subst ad;exact h al) (fun _ _ h=>h.elim)
theorem aZ.rp (aP:bQ P Γ) (I:Ok s L) {t bI e:TypeId} {x y:Operand} {it cz aH:bO} {dX bY sz n n':Nat} {xs ys:List ag} {own dr:bN}
  (ai:o.op = .call { callee := .builtin .append,args := #[x,y],argTypes := #[t,bI] }) (aN:Γ.get? t=some it) (bt:it.bF = .aA e) (c0:Γ.get? bI=some cz) (dy:∀ k,cz.bF ≠ .int k)
  (bJ:Γ.get? e=some aH) (ab:aM env x=some (.aA dX xs own)) (ay:aM env y=some (.aA bY ys dr)) (gE:dX=aH.size) (de:ys=[]∨bY=aH.size)
  (dS:af0 aH.zero.cells.size aH.size=true) (dC:∀ y∈ys,km aH.size y=true) (an:(xs.length+ys.length)*aH.bytes≤140737488355328) (ek:xs.length+ys.length≤9223372036854775807)
  (az:n=xs.length) (gi:n'=xs.length+ys.length) (cc:sz=aH.size) (ar:bo L own (.row e sz n) R) {X:ag→ao→Prop} :
  aZ P N o env (aS s L) (fun r aj=>∃ cM,(ys≠[]→∃ b,cM = .own b)∧(∀ b,own = .own b→∃ aY,cM = .own aY)∧r = .aA sz (xs++ys) cM∧aj=aS s ((cM,.row e sz n')::R)∧Ok s ((cM,.row e sz n')::R)) X:=by
 subst cc;subst gi;obtain ⟨U,ad,al⟩:=ar.perm I;have bf:aS s L=rowOf (aS s R) e aH.size n own:=U.trans (Ls _ _ _ _ _).symm;rw [bf];refine (aZ.GJ aP ai aN bt c0 dy bJ ab ay gE de dS dC an ek az (Lt.2 ad) (X:=X)).mono ?_ (fun _ _ h=>h);rintro r aj ⟨cM,g1,g2,g3,rfl,rfl⟩;exact ⟨cM,g2,g3,rfl,Ls _ _ _ _ _,Lt.1 g1,al⟩
theorem aa.fO (aP:bQ P Γ) (I:Ok s L) {t bI e:TypeId} {x y:Operand} {it cz aH:bO} {dX bY sz n:Nat} {xs:List ag} {v:ag} {own dr:bN} (av:guardOf ops env o=some true) (ax:o.dst=some d) (aU:t8 d N=true)
  (ai:o.op = .call { callee := .builtin .append,args := #[x,y],argTypes := #[t,bI] }) (aN:Γ.get? t=some it) (bt:it.bF = .aA e) (c0:Γ.get? bI=some cz) (dy:∀ k,cz.bF ≠ .int k)
  (bJ:Γ.get? e=some aH) (ab:aM env x=some (.aA dX xs own)) (ay:aM env y=some (.aA bY [v] dr)) (gE:dX=aH.size) (de:bY=aH.size)
  (dS:af0 aH.zero.cells.size aH.size=true) (dC:km aH.size v=true) (cc:sz=aH.size) (ar:bo L own (.row e sz n) R) (az:n=xs.length) (an:(n+1)*aH.bytes≤140737488355328) (ek:n+1≤9223372036854775807)
  (h:∀ b,Ok s ((.own b,.row e sz (n+1))::R)→aa P N ops l Q ((d,.aA sz (xs++[v]) (.own b))::env) (aS s ((.own b,.row e sz (n+1))::R))):aa P N ops (o::l) Q env (aS s L):=by
 subst az;refine aa.op av ax aU (aZ.rp aP I ai aN bt c0 dy bJ ab ay gE (.inr de) dS (by intro y ay;simp at ay;subst ay;exact dC) an ek C (n':=xs.length+1) C cc ar (X:=fun _ _=>False)) ?_ (fun _ _ h=>h.elim);rintro r aj ⟨cM,ad,-,rfl,rfl,al⟩;obtain ⟨b,rfl⟩:=ad ba;exact h b al
theorem aa.rp (aP:bQ P Γ) (I:Ok s L) {t bI e:TypeId} {x y:Operand} {it cz aH:bO} {dX bY sz n n':Nat} {xs ys:List ag} {own dr:bN} (av:guardOf ops env o=some true) (ax:o.dst=some d) (aU:t8 d N=true)
  (ai:o.op = .call { callee := .builtin .append,args := #[x,y],argTypes := #[t,bI] }) (aN:Γ.get? t=some it) (bt:it.bF = .aA e) (c0:Γ.get? bI=some cz) (dy:∀ k,cz.bF ≠ .int k)
  (bJ:Γ.get? e=some aH) (ab:aM env x=some (.aA dX xs own)) (ay:aM env y=some (.aA bY ys dr)) (gE:dX=aH.size) (de:ys=[]∨bY=aH.size)
  (dS:af0 aH.zero.cells.size aH.size=true) (dC:∀ y∈ys,km aH.size y=true) (cc:sz=aH.size) (ar:bo L own (.row e sz n) R) (az:n=xs.length) (gi:n'=xs.length+ys.length) (an:(xs.length+ys.length)*aH.bytes≤140737488355328) (ek:xs.length+ys.length≤9223372036854775807)
  (h:∀ cM,Ok s ((cM,.row e sz n')::R)→aa P N ops l Q ((d,.aA sz (xs++ys) cM)::env) (aS s ((cM,.row e sz n')::R))):aa P N ops (o::l) Q env (aS s L):=by
 refine aa.op av ax aU (aZ.rp aP I ai aN bt c0 dy bJ ab ay gE de dS dC an ek az gi cc ar (X:=fun _ _=>False)) ?_ (fun _ _ h=>h.elim);rintro r aj ⟨cM,-,-,rfl,rfl,al⟩;exact h cM al
theorem ae.l5 {c:Code} (I:Ok s L) (t b:Nat) {T:TypeId} {cs:List ag} (aN:env.get? t=some (.ptr b 0)) (ar:bo L (.own b) (.box T cs) R) (h:Ok s R→ae P N c Q ((t,.bw cs 0)::env) (aS s R)):ae P N c Q env (aS s L):=by
 obtain ⟨U,ad⟩:=ar.del I;refine ae.freeze t b aN (ar.get I) ?_;rw [U];exact h ad
theorem aa.l5 (I:Ok s L) (t b:Nat) {T:TypeId} {cs:List ag} (aN:env.get? t=some (.ptr b 0)) (ar:bo L (.own b) (.box T cs) R) (h:Ok s R→aa P N ops l Q ((t,.bw cs 0)::env) (aS s R)):aa P N ops l Q env (aS s L):=by
 obtain ⟨U,ad⟩:=ar.del I;refine aa.freeze t b aN (ar.get I) ?_;rw [U];exact h ad
theorem ae.wQ {c:Code} (I:Ok s L) (b:Nat) {T:TypeId} {cs:List ag} (cs':List ag) (ar:bo L (.own b) (.box T cs) R) (aB:cU cs cs') (h:Ok s ((.own b,.box T cs')::R)→ae P N c Q env (aS s ((.own b,.box T cs')::R))):ae P N c Q env (aS s L):=by
 obtain ⟨U,ad⟩:=ar.put (.box T cs') I;refine ae.rn b cs' (ar.get I) aB ?_;rw [U];exact h ad
theorem aa.wQ (I:Ok s L) (b:Nat) {T:TypeId} {cs:List ag} (cs':List ag) (ar:bo L (.own b) (.box T cs) R) (aB:cU cs cs') (h:Ok s ((.own b,.box T cs')::R)→aa P N ops l Q env (aS s ((.own b,.box T cs')::R))):aa P N ops l Q env (aS s L):=by
 obtain ⟨U,ad⟩:=ar.put (.box T cs') I;refine aa.rn b cs' (ar.get I) aB ?_;rw [U];exact h ad
theorem ae.mG {c:Code} (I:Ok s L) (K:a') (ar:aG L K R) (h:Ok s K→ae P N c Q env (aS s K)):ae P N c Q env (aS s L):=by
 obtain ⟨U,ad⟩:=ar.sub I;exact ae.drop _ U (h ad)
theorem aa.mG (I:Ok s L) (K:a') (ar:aG L K R) (h:Ok s K→aa P N ops l Q env (aS s K)):aa P N ops l Q env (aS s L):=by
 obtain ⟨U,ad⟩:=ar.sub I;exact aa.drop _ U (h ad)
end
def uX (s:ao) (R:eC→a'→Prop) (o:eC) (aj:ao):Prop:=∃ K,aj=aS s K∧Ok s K∧R o K
def bA (P:Program) (f:FuncId) (args:List ag) (K:a') (R:eC→a'→Prop):Prop:=∀ s,Ok s K→hp P f args (aS s K) (uX s R)
def dA (P:Program) (fv:ag) (args:List ag) (K:a') (R:eC→a'→Prop):Prop:=∀ s,Ok s K→hY P fv args (aS s K) (uX s R)
def aT (P:Program) (f:FuncId) (args:List ag) (v:ag):Prop:=∀ s,hp P f args s (fun o aj=>o = .ret v∧aj=s)
def eF (P:Program) (fv:ag) (args:List ag) (v:ag):Prop:=∀ s,hY P fv args s (fun o aj=>o = .ret v∧aj=s)
theorem eF.fx {P:Program} {f:FuncId} {first cap args:List ag} {v:ag} (h:aT P f (first++(args++cap)) v):eF P (.func f first cap) args v:=fun s=>hY.fx (h s)
section
variable {P:Program} {Γ:cA} {N:Nat} {ops:Array Oper} {Q:b9→Env→ao→Prop} {env:Env} {s:ao} {l:List Oper} {o:Oper} {d:Nat} {L R K:a'} {aef:eC→a'→Prop}
theorem aa.mH {g:Operand} {fv:ag} {as:Array Operand} {da:Array TypeId} {xs:List ag} {v:ag} (av:guardOf ops env o=some true) (ax:o.dst=some d) (aU:t8 d N=true)
  (b3:o.op = .call { callee := .value g,args:=as,argTypes:=da }) (aw:aM env g=some fv) (a6:fX env as.toList=some xs) (h:eF P fv xs v) (aE:aa P N ops l Q ((d,v)::env) s):aa P N ops (o::l) Q env s:=
 aa.Gq av ax aU b3 aw a6 (h s) (fun x aj ⟨U,ad⟩=>by cases U;subst ad;exact aE) (fun x aj ⟨U,_⟩=>by cases U)
theorem bA.mono {f:FuncId} {args:List ag} {AH:eC→a'→Prop} (h:bA P f args K aef) (aD:∀ o K,aef o K→AH o K):bA P f args K AH :=
 fun s I=>(h s I).mono fun o aj ⟨aO,U,ad,al⟩=>⟨aO,U,ad,aD _ _ al⟩
theorem dA.mono {fv:ag} {args:List ag} {AH:eC→a'→Prop} (h:dA P fv args K aef) (aD:∀ o K,aef o K→AH o K):dA P fv args K AH :=
 fun s I=>(h s I).mono fun o aj ⟨aO,U,ad,al⟩=>⟨aO,U,ad,aD _ _ al⟩
theorem bA.at {f:FuncId} {args:List ag} (h:bA P f args K aef) (I:Ok s L) (ar:aG L K R):hp P f args (aS s L) (uX s fun o M=>∃ aO,M=aO++R∧aef o aO):=by
 obtain ⟨U,ad,al⟩:=ar.eq I;rw [U];refine (h _ ad).mono ?_;rintro o aj ⟨aO,rfl,g2,g3⟩;exact ⟨aO++R,(AG _ _ _).symm,DB.2 ⟨g2,al⟩,aO,rfl,g3⟩
theorem dA.at {fv:ag} {args:List ag} (h:dA P fv args K aef) (I:Ok s L) (ar:aG L K R):hY P fv args (aS s L) (uX s fun o M=>∃ aO,M=aO++R∧aef o aO):=by
 obtain ⟨U,ad,al⟩:=ar.eq I;rw [U];refine (h _ ad).mono ?_;rintro o aj ⟨aO,rfl,g2,g3⟩;exact ⟨aO++R,(AG _ _ _).symm,DB.2 ⟨g2,al⟩,aO,rfl,g3⟩
theorem dA.fx {f:FuncId} {first cap args:List ag} (h:bA P f (first++(args++cap)) K aef):dA P (.func f first cap) args K aef:=fun s I=>hY.fx (h s I)
theorem aZ.bX {f:FuncId} {as:Array Operand} {da:Array TypeId} {xs:List ag} (b3:o.op = .call { callee := .value (.func f),args:=as,argTypes:=da }) (a6:fX env as.toList=some xs)
  (h:bA P f xs K aef) (I:Ok s L) (ar:aG L K R) :
  aZ P N o env (aS s L) (fun x aj=>∃ aO,aj=aS s (aO++R)∧Ok s (aO++R)∧aef (.ret x) aO) (fun x aj=>∃ aO,aj=aS s (aO++R)∧Ok s (aO++R)∧aef (.panic x) aO):=by
 refine (aZ.call b3 (fv := .func f [] []) C a6 (hY.fx (by simpa using h.at I ar))).mono ?_ ?_
 ·rintro x aj ⟨M,rfl,ad,aO,rfl,al⟩;exact ⟨aO,rfl,ad,al⟩
 ·rintro x aj ⟨M,rfl,ad,aO,rfl,al⟩;exact ⟨aO,rfl,ad,al⟩
theorem aZ.gM {g:Operand} {fv:ag} {as:Array Operand} {da:Array TypeId} {xs:List ag} (b3:o.op = .call { callee := .value g,args:=as,argTypes:=da }) (aw:aM env g=some fv) (a6:fX env as.toList=some xs)
  (h:dA P fv xs K aef) (I:Ok s L) (ar:aG L K R) :
  aZ P N o env (aS s L) (fun x aj=>∃ aO,aj=aS s (aO++R)∧Ok s (aO++R)∧aef (.ret x) aO) (fun x aj=>∃ aO,aj=aS s (aO++R)∧Ok s (aO++R)∧aef (.panic x) aO):=by
 refine (aZ.call b3 aw a6 (h.at I ar)).mono ?_ ?_
 ·rintro x aj ⟨M,rfl,ad,aO,rfl,al⟩;exact ⟨aO,rfl,ad,al⟩
 ·rintro x aj ⟨M,rfl,ad,aO,rfl,al⟩;exact ⟨aO,rfl,ad,al⟩
theorem aa.bX {f:FuncId} {as:Array Operand} {da:Array TypeId} {xs:List ag} (av:guardOf ops env o=some true) (ax:o.dst=some d) (aU:t8 d N=true)
  (b3:o.op = .call { callee := .value (.func f),args:=as,argTypes:=da }) (a6:fX env as.toList=some xs) (h:bA P f xs K aef) (I:Ok s L) (ar:aG L K R)
  (aE:∀ x aO,aef (.ret x) aO→Ok s (aO++R)→aa P N ops l Q ((d,x)::env) (aS s (aO++R))) (ab:∀ x aO,aef (.panic x) aO→Ok s (aO++R)→Q (.panic x) env (aS s (aO++R))):aa P N ops (o::l) Q env (aS s L):=
 aa.op av ax aU (aZ.bX b3 a6 h I ar) (fun x aj ⟨aO,U,ad,al⟩=>by subst U;exact aE x aO al ad) (fun x aj ⟨aO,U,ad,al⟩=>by subst U;exact ab x aO al ad)
theorem aa.gM {g:Operand} {fv:ag} {as:Array Operand} {da:Array TypeId} {xs:List ag} (av:guardOf ops env o=some true) (ax:o.dst=some d) (aU:t8 d N=true)
  (b3:o.op = .call { callee := .value g,args:=as,argTypes:=da }) (aw:aM env g=some fv) (a6:fX env as.toList=some xs) (h:dA P fv xs K aef) (I:Ok s L) (ar:aG L K R)
  (aE:∀ x aO,aef (.ret x) aO→Ok s (aO++R)→aa P N ops l Q ((d,x)::env) (aS s (aO++R))) (ab:∀ x aO,aef (.panic x) aO→Ok s (aO++R)→Q (.panic x) env (aS s (aO++R))):aa P N ops (o::l) Q env (aS s L):=
 aa.op av ax aU (aZ.gM b3 aw a6 h I ar) (fun x aj ⟨aO,U,ad,al⟩=>by subst U;exact aE x aO al ad) (fun x aj ⟨aO,U,ad,al⟩=>by subst U;exact ab x aO al ad)
theorem aa.ec {f:FuncId} {as:Array Operand} {da:Array TypeId} {xs:List ag} {v:ag} (av:guardOf ops env o=some true) (ax:o.dst=some d) (aU:t8 d N=true)
  (b3:o.op = .call { callee := .value (.func f),args:=as,argTypes:=da }) (a6:fX env as.toList=some xs) (h:aT P f xs v) (aE:aa P N ops l Q ((d,v)::env) s):aa P N ops (o::l) Q env s:=
 aa.K2 av ax aU b3 a6 (h s) aE
theorem bA.yz (aP:bQ P Γ) {f:FuncId} {fn:Func} {c:Code} {args:List ag} (aB:ts P f) (a7:P.funcs[f]? = some fn) (an:fn.body=some c)
  (aU:ao5 args.length fn.ntmps=true) (h:∀ s,Ok s K→ae P fn.ntmps c (Fin Γ fn.results.toList (uX s aef)) (sb 0 args) (aS s K)):bA P f args K aef:=
 fun s I=>hp.yz aP aB a7 an aU (h s I)
theorem aT.yz (aP:bQ P Γ) {f:FuncId} {fn:Func} {c:Code} {args:List ag} {v:ag} (aB:ts P f) (a7:P.funcs[f]? = some fn) (an:fn.body=some c)
  (aU:ao5 args.length fn.ntmps=true) (h:∀ s,Ok s []→ae P fn.ntmps c (Fin Γ fn.results.toList (fun o aj=>o = .ret v∧aj=s)) (sb 0 args) (aS s [])):aT P f args v:=
 fun s=>hp.yz aP aB a7 an aU (h s trivial)
theorem bA.bh (aP:bQ P Γ) {f:FuncId} {fn:Func} {c:Code} {args:List ag} (a7:P.funcs[f]? = some fn) (an:fn.body=some c) (aU:Nat.ble args.length fn.ntmps=true) (h:∀ s,Ok s K→ae P fn.ntmps c (Fin Γ fn.results.toList (uX s aef)) (sb 0 args) (aS s K)) (az:(fn.name == "runtime.NumGoroutine")=false:=by kernel_rfl):bA P f args K aef:=bA.yz aP (Aq a7 az (by rw [an];rfl)) a7 an aU h
theorem aT.bh (aP:bQ P Γ) {f:FuncId} {fn:Func} {c:Code} {args:List ag} {v:ag} (a7:P.funcs[f]? = some fn) (an:fn.body=some c) (aU:Nat.ble args.length fn.ntmps=true) (h:∀ s,Ok s []→ae P fn.ntmps c (Fin Γ fn.results.toList (fun o aj=>o = .ret v∧aj=s)) (sb 0 args) (aS s [])) (az:(fn.name == "runtime.NumGoroutine")=false:=by kernel_rfl):aT P f args v:=aT.yz aP (Aq a7 az (by rw [an];rfl)) a7 an aU h
theorem Fin.bs {rs:List ResultVar} {r r':ag} (I:Ok s L) (aD:oC Γ env (aS s L) rs=some r) (hle:aQ r r') (ar:aG L K R) (fa:aef (.ret r') K):∃ r r' aj,oC Γ env (aS s L) rs=some r∧aQ r r'∧ao.Sub aj (aS s L)∧uX s aef (.ret r') aj:=by
 obtain ⟨U,ad⟩:=ar.sub I;exact ⟨r,r',_,aD,hle,U,K,rfl,ad,fa⟩
theorem Fin.cB {rs:List ResultVar} {r v:ag} (I:Ok s L) (aD:oC Γ env (aS s L) rs=some r) (hle:aQ r v):∃ r r' aj,oC Γ env (aS s L) rs=some r∧aQ r r'∧ao.Sub aj (aS s L)∧(eC.ret r' = .ret v∧aj=s):=
 ⟨r,v,s,aD,hle,I.sub,rfl,rfl⟩
theorem Fin.fi {v ff:ag} (I:Ok s L) (hle:aQ v ff) (ar:aG L K R) (fa:aef (.panic ff) K):∃ ff aj,aQ v ff∧ao.Sub aj (aS s L)∧uX s aef (.panic ff) aj:=by
 obtain ⟨U,ad⟩:=ar.sub I;exact ⟨ff,_,hle,U,K,rfl,ad,fa⟩
theorem Env.Sub.append {a b env:Env} (h:Env.Sub a env) (k:Env.Sub b env):Env.Sub (a++b) env:=by
 induction a with
 | nil=>exact k
 | cons x a a1=>exact ⟨h.1,a1 h.2⟩
def wR:List Nat→Env→Env→Env×Unit
  | [],_,acc=>(acc,())
  | t::gw,env,acc=>match env.get? t with
    | some v=>wR gw env ((t,v)::acc)
    | none=>wR gw env acc
theorem AI:∀ (gw:List Nat) (acc E:Env),Env.Sub acc env→wR gw env acc=(E,())→Env.Sub E env
  | [],acc,E,h,e=>by cases e;exact h
  | t::gw,acc,E,h,e=>by
    simp only [wR] at e;split at e
    · rename_i v aw;exact AI gw ((t,v)::acc) E ⟨⟨v,aw,aQ.refl _⟩,h⟩ e
    · exact AI gw _ E h e
theorem ae.tA {c:Code} (gw:List Nat) {E:Env} (h:wR gw env []=(E,())) (k:ae P N c Q E s):ae P N c Q env s:=ae.sub E (AI gw [] E trivial h) k
theorem aa.tA (gw:List Nat) {E:Env} (h:wR gw env []=(E,())) (k:aa P N ops l Q E s):aa P N ops l Q env s:=aa.sub E (AI gw [] E trivial h) k
def bn {σ:Type} (s:ao) (E:σ→Env) (K:σ→a') (aej:σ→Prop) (ok:σ→Prop) (e0:Env) (aj:ao):Prop:=
 ∃ y oE dw,aej y∧ok y∧Env.Sub (E y) e0∧aj=aS s oE∧Ok s oE∧aG oE (K y) dw
theorem ae.yJ {σ:Type} {c:Code} (I:Ok s L) (E:σ→Env) (K:σ→a') (aej:σ→Prop) (μ:σ→Nat) (ov:σ) {GO:a'} (aq:aej ov) (eS:Env.Sub (E ov) env) (ck:aG L (K ov) GO)
  (round:∀ x,aej x→Ok s (K x)→ae P N c (b9.andThen (bn s E K aej (fun y=>μ y<μ x)) Q) (E x) (aS s (K x))):ae P N (.loop c) Q env (aS s L):=by
 obtain ⟨U,ad⟩:=ck.sub I;refine ae.loop E (fun x=>aS s (K x)) (fun x=>aej x∧Ok s (K x)) μ ov ⟨aq,ad⟩ eS U ?_;rintro x ⟨ab,TX⟩;refine (round x ab TX).mono ?_;intro e e0 aj h;cases e with
 | normal=>
  obtain ⟨y,oE,dw,g1,g2,g3,rfl,g4,g5⟩:=h;obtain ⟨cE,dq⟩:=g5.sub g4;exact ⟨y,⟨g1,dq⟩,g3,cE,g2⟩
 | exit id=>exact h
 | ret=>exact h
 | panic v=>exact h
theorem bn.mk {σ:Type} {E:σ→Env} {K:σ→a'} {aej:σ→Prop} {ok:σ→Prop} (y:σ) {dw:a'} (I:Ok s L) (aq:aej y) (eS:Env.Sub (E y) env) (ck:aG L (K y) dw) (hm:ok y):bn s E K aej ok env (aS s L):=⟨y,L,dw,aq,hm,eS,rfl,I,ck⟩
def k8 {σ:Type} (s:ao) (E:σ→Env) (K:σ→a') (aej:σ→Prop) (e:b9) (e0:Env) (aj:ao):Prop:=
 e = .normal∧∃ y oE dw,aej y∧Env.Sub (E y) e0∧aj=aS s oE∧Ok s oE∧aG oE (K y) dw
theorem k8.mk {σ:Type} {E:σ→Env} {K:σ→a'} {aej:σ→Prop} (y:σ) {dw:a'} (I:Ok s L) (aq:aej y) (eS:Env.Sub (E y) env) (ck:aG L (K y) dw):k8 s E K aej .normal env (aS s L):=⟨rfl,y,L,dw,aq,eS,rfl,I,ck⟩
theorem ae.wS {σ:Type} {x y:Code} {pn:b9→Env→ao→Prop} (E:σ→Env) (K:σ→a') (aej:σ→Prop) (wO:ae P N x (k8 s E K aej) env (aS s L)) (wP:∀ z,aej z→Ok s (K z)→ae P N y Q (E z) (aS s (K z))) :
  ae P N x (b9.andThen (ae P N y Q) pn) env (aS s L):=by
 refine wO.mono ?_;rintro e e0 aj ⟨rfl,z,oE,dw,g1,g2,rfl,g3,g4⟩;obtain ⟨cE,dq⟩:=g4.sub g3;exact ae.sub _ g2 (ae.drop _ cE (wP z g1 dq))
theorem ae.TY {σ:Type} {x y:Code} (E:σ→Env) (K:σ→a') (aej:σ→Prop) (wO:ae P N x (k8 s E K aej) env (aS s L)) (wP:∀ z,aej z→Ok s (K z)→ae P N y Q (E z) (aS s (K z))):ae P N (.seq x y) Q env (aS s L):=
 ae.seq (ae.wS E K aej wO wP)
end
section
variable {P:Program} {Γ:cA} {N:Nat} {l:List Oper} {Q:b9→Env→ao→Prop} {env:Env} {s:ao} {m:Nat} {L R:a'}
theorem bc.AJ {i:Nat} {o:Oper} {d:Nat} {f:FuncId} {as:Array Operand} {da:Array TypeId} {xs:List ag} {v:ag} (aD:iI l.toArray m i=true) (ai:l.toArray[i]? = some o) (ax:o.dst=some d) (aU:t8 d N=true)
  (av:c6 l env o) (b3:o.op = .call { callee := .value (.func f),args:=as,argTypes:=da }) (a6:fX (b4 l env o) as.toList=some xs) (h:aT P f xs v)
  (k:bc P Γ N l.toArray Q (bZ (m|||2^i)) ((d,v)::env) s):bc P Γ N l.toArray Q (bZ m) env s:=
 bc.TV aD ai ax aU av b3 a6 h k
theorem bc.ey (i:Nat) (aP:bQ P Γ) (I:Ok s L) {o:Oper} {d:Nat} {t T:TypeId} {x:Operand} {dP:bO} {b off:Nat} {cs:List ag} {v:ag} (aD:eJ l.toArray m (idxs 0 l)=[i]) (ai:l.toArray[i]? = some o) (ax:o.dst=some d)
  (aU:t8 d N=true) (av:c6 l env o) (b3:o.op = .load t x) (aN:Γ.get? t=some dP) (ab:aM (b4 l env o) x=some (.ptr b off))
  (ar:bo L (.own b) (.box T cs) R) (aw:hV dP cs off=some v) (h:bc P Γ N l.toArray Q (bZ (m|||2^i)) ((d,v)::env) (aS s L)):bc P Γ N l.toArray Q (bZ m) env (aS s L):=
 bc.one aD ai ax aU av (aZ.ey aP I b3 aN ab ar aw (X:=fun _ _=>False)) (fun x aj ⟨U,ad⟩=>by subst U;subst ad;exact h) (fun _ _ h=>h.elim)
theorem bc.cK (i:Nat) (aP:bQ P Γ) (I:Ok s L) {o:Oper} {t T:TypeId} {x y:Operand} {dP:bO} {b off:Nat} {cs us:List ag} {v:ag} (aD:eJ l.toArray m (idxs 0 l)=[i]) (ai:l.toArray[i]? = some o) (ax:o.dst=none)
  (av:c6 l env o) (b3:o.op = .store t x y) (aN:Γ.get? t=some dP) (ab:aM (b4 l env o) x=some (.ptr b off)) (ay:aM (b4 l env o) y=some v)
  (aw:cellsOf v=some us) (hu:af0 us.length dP.size=true) (U:us.all fe=true) (ar:bo L (.own b) (.box T cs) R) (fr:ao5 (off+us.length) cs.length=true)
  (h:Ok s ((.own b,.box T (eM off us cs))::R)→bc P Γ N l.toArray Q (bZ (m|||2^i)) env (aS s ((.own b,.box T (eM off us cs))::R))):bc P Γ N l.toArray Q (bZ m) env (aS s L):=
 bc.yF aD ai ax av (aZ.cK aP I b3 aN ab ay aw hu U ar fr (X:=fun _ _=>False)) (fun x aj ⟨U,ad⟩=>by subst U;exact h ad) (fun _ _ h=>h.elim)
theorem bc.eb (i:Nat) (aP:bQ P Γ) (I:Ok s L) {o:Oper} {d:Nat} {t:TypeId} {dP:bO} {z:ag} {cs:List ag} (aD:eJ l.toArray m (idxs 0 l)=[i]) (ai:l.toArray[i]? = some o) (ax:o.dst=some d)
  (aU:t8 d N=true) (av:c6 l env o) (b3:o.op = .alloc t) (aN:Γ.get? t=some dP) (bG:hH dP.zero=some z) (aB:cellsOf z=some cs)
  (h:∀ b,Ok s ((.own b,.box t cs)::L)→bc P Γ N l.toArray Q (bZ (m|||2^i)) ((d,.ptr b 0)::env) (aS s ((.own b,.box t cs)::L))):bc P Γ N l.toArray Q (bZ m) env (aS s L):=
 bc.one aD ai ax aU av (aZ.eb aP I b3 aN bG aB (X:=fun _ _=>False)) (fun x aj ⟨b,U,ad,al⟩=>by subst U;subst ad;exact h b al) (fun _ _ h=>h.elim)
theorem bc.fO (i:Nat) (aP:bQ P Γ) (I:Ok s L) {o:Oper} {d:Nat} {t bI e:TypeId} {x y:Operand} {it cz aH:bO} {dX bY sz n:Nat} {xs:List ag} {v:ag} {own dr:bN} (aD:eJ l.toArray m (idxs 0 l)=[i]) (ai:l.toArray[i]? = some o)
  (ax:o.dst=some d) (aU:t8 d N=true) (av:c6 l env o) (b3:o.op = .call { callee := .builtin .append,args := #[x,y],argTypes := #[t,bI] }) (aN:Γ.get? t=some it)
  (bt:it.bF = .aA e) (c0:Γ.get? bI=some cz) (dy:∀ k,cz.bF ≠ .int k) (bJ:Γ.get? e=some aH) (ab:aM (b4 l env o) x=some (.aA dX xs own)) (ay:aM (b4 l env o) y=some (.aA bY [v] dr)) (gE:dX=aH.size) (de:bY=aH.size)
  (dS:af0 aH.zero.cells.size aH.size=true) (dC:km aH.size v=true) (cc:sz=aH.size) (ar:bo L own (.row e sz n) R) (az:n=xs.length) (an:(n+1)*aH.bytes≤140737488355328) (ek:n+1≤9223372036854775807)
  (h:∀ b,Ok s ((.own b,.row e sz (n+1))::R)→bc P Γ N l.toArray Q (bZ (m|||2^i)) ((d,.aA sz (xs++[v]) (.own b))::env) (aS s ((.own b,.row e sz (n+1))::R))):bc P Γ N l.toArray Q (bZ m) env (aS s L):=by
 subst az;refine bc.one aD ai ax aU av (aZ.rp aP I b3 aN bt c0 dy bJ ab ay gE (.inr de) dS (by intro y ay;simp at ay;subst ay;exact dC) an ek C (n':=xs.length+1) C cc ar (X:=fun _ _=>False)) ?_ (fun _ _ h=>h.elim);rintro r aj ⟨cM,ad,-,rfl,rfl,al⟩;obtain ⟨b,rfl⟩:=ad ba;exact h b al
end
section
variable {P:Program} {Γ:cA} {N:Nat} {ops:Array Oper} {Q:b9→Env→ao→Prop} {env:Env} {s:ao} {o:Oper} {d:Nat}
theorem aZ.weaken {K X aO nJ:ag→ao→Prop} (h:aZ P N o env s K X) (bk:∀ x aj,K x aj→∃ y eO,aQ x y∧ao.Sub eO aj∧aO y eO) (hg:∀ x aj,X x aj→∃ eO,ao.Sub eO aj∧nJ x eO):aZ P N o env s aO nJ:=by
 refine ⟨h.1,fun ro B a w p aI=>(h.2 ro B a w p aI).mono ?_⟩;rintro e w' ⟨aj,bj,U,ad,al,bf⟩;cases e with
 | returned v=>
  obtain ⟨x,aE,aD⟩:=bf;obtain ⟨y,eO,hle,ar,eH⟩:=bk x aj aE;exact ⟨eO,bj,U,ad.sub ar,al.sub ar,y,eH,hle _ _ _ aD⟩
 | panicked dJ=>
  obtain ⟨v,x,ki,aE,aD⟩:=bf;obtain ⟨eO,ar,eH⟩:=hg x aj aE;exact ⟨eO,bj,U,ad.sub ar,al.sub ar,v,x,ki,eH,aD⟩
 | outgrown=>exact bf.elim
theorem aZ.nX (aP:bQ P Γ) {t bI e:TypeId} {x y:Operand} {it cz aH:bO} {dX bY:Nat} {xs ys:List ag} {own dr:bN}
  (ai:o.op = .call { callee := .builtin .append,args := #[x,y],argTypes := #[t,bI] }) (aN:Γ.get? t=some it) (bt:it.bF = .aA e) (c0:Γ.get? bI=some cz) (dy:∀ k,cz.bF ≠ .int k)
  (bJ:Γ.get? e=some aH) (ab:aM env x=some (.aA dX xs own)) (ay:aM env y=some (.aA bY ys dr)) (gE:xs=[]∨dX=aH.size) (de:ys=[]∨bY=aH.size)
  (dS:af0 aH.zero.cells.size aH.size=true) (dC:∀ y∈ys,km aH.size y=true) (an:(xs.length+ys.length)*aH.bytes≤140737488355328) (ek:xs.length+ys.length≤9223372036854775807)
  (qn:own = .nil∨own = .clip) {X:ag→ao→Prop}:aZ P N o env s (fun r aj=>r = .aA aH.size (xs++ys) .bb∧aj=s) X:=by
 refine (aZ.append aP ai aN bt c0 dy bJ ab ay gE de dS dC an ek (.inl qn) (X:=X)).weaken ?_ (fun _ aj h=>⟨aj,ao.pr _,h⟩);rintro r aj (⟨rfl,_,rfl,rfl⟩|⟨s₁,wy,b,U,rfl,rfl⟩)
 ·exact ⟨_,_,by rw [d6];exact aQ.bb,ao.pr _,rfl,rfl⟩
 ·rcases wy with rfl|⟨aY,rfl,rfl⟩
  ·exact ⟨_,_,aQ.bb,ao.wk _ _ _ U,rfl,rfl⟩
  ·rcases qn with e|e<;>cases e
theorem aa.nX (aP:bQ P Γ) {l:List Oper} {t bI e:TypeId} {x y:Operand} {it cz aH:bO} {dX bY:Nat} {xs ys:List ag} {own dr:bN} (av:guardOf ops env o=some true) (ax:o.dst=some d) (aU:t8 d N=true)
  (ai:o.op = .call { callee := .builtin .append,args := #[x,y],argTypes := #[t,bI] }) (aN:Γ.get? t=some it) (bt:it.bF = .aA e) (c0:Γ.get? bI=some cz) (dy:∀ k,cz.bF ≠ .int k)
  (bJ:Γ.get? e=some aH) (ab:aM env x=some (.aA dX xs own)) (ay:aM env y=some (.aA bY ys dr)) (gE:xs=[]∨dX=aH.size) (de:ys=[]∨bY=aH.size)
  (dS:af0 aH.zero.cells.size aH.size=true) (dC:∀ y∈ys,km aH.size y=true) (an:(xs.length+ys.length)*aH.bytes≤140737488355328) (ek:xs.length+ys.length≤9223372036854775807)
  (qn:own = .nil∨own = .clip) (h:aa P N ops l Q ((d,.aA aH.size (xs++ys) .bb)::env) s):aa P N ops (o::l) Q env s:=
 aa.op av ax aU (aZ.nX aP ai aN bt c0 dy bJ ab ay gE de dS dC an ek qn (X:=fun _ _=>False)) (fun x aj ⟨U,ad⟩=>by subst U;subst ad;exact h) (fun _ _ h=>h.elim)
theorem bc.nX (i:Nat) (aP:bQ P Γ) {l:List Oper} {m:Nat} {t bI e:TypeId} {x y:Operand} {it cz aH:bO} {dX bY:Nat} {xs ys:List ag} {own dr:bN} (aD:iI l.toArray m i=true) (aR:l.toArray[i]? = some o) (ax:o.dst=some d) (aU:t8 d N=true)
  (av:c6 l env o)
  (ai:o.op = .call { callee := .builtin .append,args := #[x,y],argTypes := #[t,bI] }) (aN:Γ.get? t=some it) (bt:it.bF = .aA e) (c0:Γ.get? bI=some cz) (dy:∀ k,cz.bF ≠ .int k)
  (bJ:Γ.get? e=some aH) (ab:aM (b4 l env o) x=some (.aA dX xs own)) (ay:aM (b4 l env o) y=some (.aA bY ys dr)) (gE:xs=[]∨dX=aH.size) (de:ys=[]∨bY=aH.size)
  (dS:af0 aH.zero.cells.size aH.size=true) (dC:∀ y∈ys,km aH.size y=true) (an:(xs.length+ys.length)*aH.bytes≤140737488355328) (ek:xs.length+ys.length≤9223372036854775807)
  (qn:own = .nil∨own = .clip) (h:bc P Γ N l.toArray Q (bZ (m|||2^i)) ((d,.aA aH.size (xs++ys) .bb)::env) s):bc P Γ N l.toArray Q (bZ m) env s:=
 bc.calm aD aR ax aU av (fun _=>aZ.nX aP ai aN bt c0 dy bJ ab ay gE de dS dC an ek qn) h
end
def dc:List (Nat×dH)→ao→Prop
 | [],_=>True
 | e::K,s=>s e.1=some e.2∧dc K s
theorem dc.one {b:Nat} {o:dH} {s:ao} (h:s b=some o):dc [(b,o)] s:=⟨h,trivial⟩
theorem dc.two {b aY:Nat} {o o':dH} {s:ao} (h:s b=some o) (e3:s aY=some o'):dc [(b,o),(aY,o')] s:=⟨h,e3,trivial⟩
theorem dc.fst {b:Nat} {o:dH} {K:List (Nat×dH)} {s:ao} (h:dc ((b,o)::K) s):s b=some o:=h.1
theorem dc.snd {e:Nat×dH} {b:Nat} {o:dH} {K:List (Nat×dH)} {s:ao} (h:dc (e::(b,o)::K) s):s b=some o:=h.2.1
section
variable {J:ao→Prop} {P:Program} {Γ:cA} {N:Nat} {l:List Oper} {Q:b9→Env→ao→Prop} {env:Env} {s:ao} {m:Nat} {L R:a'} {o:Oper} {d:Nat}
theorem bg.ni (i:Nat) (aP:bQ P Γ) (cO:J s) {t T:TypeId} {x:Operand} {dP:bO} {b off:Nat} {cs:List ag} {v:ag} (aD:iI l.toArray m i=true) (ai:l.toArray[i]? = some o) (ax:o.dst=some d) (aU:t8 d N=true)
  (av:c6 l env o) (b3:o.op = .load t x) (aN:Γ.get? t=some dP) (ab:aM (b4 l env o) x=some (.ptr b off)) (ar:∀ s,J s→s b=some (.box T cs)) (aw:hV dP cs off=some v)
  (h:bg J P Γ N l.toArray Q (bZ (m|||2^i)) ((d,v)::env) s):bg J P Γ N l.toArray Q (bZ m) env s:=
 bg.si cO aD ai ax aU av (fun s hL=>aZ.uL aP b3 aN ab (ar s hL) aw) h
theorem bg.nX (i:Nat) (aP:bQ P Γ) (cO:J s) {t bI e:TypeId} {x y:Operand} {it cz aH:bO} {dX bY:Nat} {xs ys:List ag} {own dr:bN} (aD:iI l.toArray m i=true) (aR:l.toArray[i]? = some o) (ax:o.dst=some d) (aU:t8 d N=true)
  (av:c6 l env o)
  (ai:o.op = .call { callee := .builtin .append,args := #[x,y],argTypes := #[t,bI] }) (aN:Γ.get? t=some it) (bt:it.bF = .aA e) (c0:Γ.get? bI=some cz) (dy:∀ k,cz.bF ≠ .int k)
  (bJ:Γ.get? e=some aH) (ab:aM (b4 l env o) x=some (.aA dX xs own)) (ay:aM (b4 l env o) y=some (.aA bY ys dr)) (gE:xs=[]∨dX=aH.size) (de:ys=[]∨bY=aH.size)
  (dS:af0 aH.zero.cells.size aH.size=true) (dC:∀ y∈ys,km aH.size y=true) (an:(xs.length+ys.length)*aH.bytes≤140737488355328) (ek:xs.length+ys.length≤9223372036854775807)
  (qn:own = .nil∨own = .clip) (h:bg J P Γ N l.toArray Q (bZ (m|||2^i)) ((d,.aA aH.size (xs++ys) .bb)::env) s):bg J P Γ N l.toArray Q (bZ m) env s:=
 bg.si cO aD aR ax aU av (fun _ _=>aZ.nX aP ai aN bt c0 dy bJ ab ay gE de dS dC an ek qn) h
theorem bg.AJ {i:Nat} (cO:J s) {f:FuncId} {as:Array Operand} {da:Array TypeId} {xs:List ag} {v:ag} (aD:iI l.toArray m i=true) (ai:l.toArray[i]? = some o) (ax:o.dst=some d) (aU:t8 d N=true)
  (av:c6 l env o) (b3:o.op = .call { callee := .value (.func f),args:=as,argTypes:=da }) (a6:fX (b4 l env o) as.toList=some xs) (h:aT P f xs v)
  (k:bg J P Γ N l.toArray Q (bZ (m|||2^i)) ((d,v)::env) s):bg J P Γ N l.toArray Q (bZ m) env s:=
 bg.si cO aD ai ax aU av (fun s _=>(aZ.call b3 (fv := .func f [] []) rfl a6 (hY.fx (R:=fun o aj=>o = .ret v∧aj=s) (by simpa using h s))).mono (fun x aj h=>by cases h.1;exact ⟨rfl,h.2⟩) (fun x aj h=>by cases h.1)) k
theorem bg.cK (i:Nat) (aP:bQ P Γ) (I:Ok s L) {t T:TypeId} {x y:Operand} {dP:bO} {b off:Nat} {cs us:List ag} {v:ag} (aD:eJ l.toArray m (idxs 0 l)=[i]) (ai:l.toArray[i]? = some o) (ax:o.dst=none)
  (av:c6 l env o) (b3:o.op = .store t x y) (aN:Γ.get? t=some dP) (ab:aM (b4 l env o) x=some (.ptr b off)) (ay:aM (b4 l env o) y=some v)
  (aw:cellsOf v=some us) (hu:af0 us.length dP.size=true) (U:us.all fe=true) (ar:bo L (.own b) (.box T cs) R) (fr:ao5 (off+us.length) cs.length=true)
  (aL:Ok s ((.own b,.box T (eM off us cs))::R)→J (aS s ((.own b,.box T (eM off us cs))::R))∨kI l.toArray i=true)
  (h:Ok s ((.own b,.box T (eM off us cs))::R)→bg J P Γ N l.toArray Q (bZ (m|||2^i)) env (aS s ((.own b,.box T (eM off us cs))::R))):bg J P Γ N l.toArray Q (bZ m) env (aS s L):=
 bg.yF aD ai ax av (aZ.cK aP I b3 aN ab ay aw hu U ar fr (X:=fun _ _=>False)) (fun x aj ⟨U,ad⟩=>by subst U;exact aL ad) (fun x aj ⟨U,ad⟩=>by subst U;exact h ad) (fun _ _ h=>h.elim)
theorem bg.eb (i:Nat) (aP:bQ P Γ) (I:Ok s L) {t:TypeId} {dP:bO} {z:ag} {cs:List ag} (aD:eJ l.toArray m (idxs 0 l)=[i]) (ai:l.toArray[i]? = some o) (ax:o.dst=some d)
  (aU:t8 d N=true) (av:c6 l env o) (b3:o.op = .alloc t) (aN:Γ.get? t=some dP) (bG:hH dP.zero=some z) (aB:cellsOf z=some cs)
  (aL:∀ b,Ok s ((.own b,.box t cs)::L)→J (aS s ((.own b,.box t cs)::L))∨kI l.toArray i=true)
  (h:∀ b,Ok s ((.own b,.box t cs)::L)→bg J P Γ N l.toArray Q (bZ (m|||2^i)) ((d,.ptr b 0)::env) (aS s ((.own b,.box t cs)::L))):bg J P Γ N l.toArray Q (bZ m) env (aS s L):=
 bg.one aD ai ax aU av (aZ.eb aP I b3 aN bG aB (X:=fun _ _=>False)) (fun x aj ⟨b,U,ad,al⟩=>by subst U;subst ad;exact aL b al) (fun x aj ⟨b,U,ad,al⟩=>by subst U;subst ad;exact h b al) (fun _ _ h=>h.elim)
theorem bg.rp (i:Nat) (aP:bQ P Γ) (I:Ok s L) {t bI e:TypeId} {x y:Operand} {it cz aH:bO} {dX bY sz n n':Nat} {xs ys:List ag} {own dr:bN} (aD:eJ l.toArray m (idxs 0 l)=[i]) (ai:l.toArray[i]? = some o)
  (ax:o.dst=some d) (aU:t8 d N=true) (av:c6 l env o) (b3:o.op = .call { callee := .builtin .append,args := #[x,y],argTypes := #[t,bI] }) (aN:Γ.get? t=some it)
  (bt:it.bF = .aA e) (c0:Γ.get? bI=some cz) (dy:∀ k,cz.bF ≠ .int k) (bJ:Γ.get? e=some aH) (ab:aM (b4 l env o) x=some (.aA dX xs own)) (ay:aM (b4 l env o) y=some (.aA bY ys dr)) (gE:dX=aH.size) (de:ys=[]∨bY=aH.size)
  (dS:af0 aH.zero.cells.size aH.size=true) (dC:∀ y∈ys,km aH.size y=true) (cc:sz=aH.size) (ar:bo L own (.row e sz n) R) (az:n=xs.length) (gi:n'=xs.length+ys.length) (an:(xs.length+ys.length)*aH.bytes≤140737488355328) (ek:xs.length+ys.length≤9223372036854775807)
  (aL:∀ cM,Ok s ((cM,.row e sz n')::R)→J (aS s ((cM,.row e sz n')::R))∨kI l.toArray i=true)
  (h:∀ cM,Ok s ((cM,.row e sz n')::R)→bg J P Γ N l.toArray Q (bZ (m|||2^i)) ((d,.aA sz (xs++ys) cM)::env) (aS s ((cM,.row e sz n')::R))):bg J P Γ N l.toArray Q (bZ m) env (aS s L):=by
 refine bg.one aD ai ax aU av (aZ.rp aP I b3 aN bt c0 dy bJ ab ay gE de dS dC an ek az gi cc ar (X:=fun _ _=>False)) ?_ ?_ (fun _ _ h=>h.elim)
 ·rintro r aj ⟨cM,-,-,rfl,rfl,al⟩
  exact aL cM al
 ·rintro r aj ⟨cM,-,-,rfl,rfl,al⟩
  exact h cM al
theorem bg.fO (i:Nat) (aP:bQ P Γ) (I:Ok s L) {t bI e:TypeId} {x y:Operand} {it cz aH:bO} {dX bY sz n:Nat} {xs:List ag} {v:ag} {own dr:bN} (aD:eJ l.toArray m (idxs 0 l)=[i]) (ai:l.toArray[i]? = some o)
  (ax:o.dst=some d) (aU:t8 d N=true) (av:c6 l env o) (b3:o.op = .call { callee := .builtin .append,args := #[x,y],argTypes := #[t,bI] }) (aN:Γ.get? t=some it)
  (bt:it.bF = .aA e) (c0:Γ.get? bI=some cz) (dy:∀ k,cz.bF ≠ .int k) (bJ:Γ.get? e=some aH) (ab:aM (b4 l env o) x=some (.aA dX xs own)) (ay:aM (b4 l env o) y=some (.aA bY [v] dr)) (gE:dX=aH.size) (de:bY=aH.size)
  (dS:af0 aH.zero.cells.size aH.size=true) (dC:km aH.size v=true) (cc:sz=aH.size) (ar:bo L own (.row e sz n) R) (az:n=xs.length) (an:(n+1)*aH.bytes≤140737488355328) (ek:n+1≤9223372036854775807)
  (aL:∀ cM,Ok s ((cM,.row e sz (n+1))::R)→J (aS s ((cM,.row e sz (n+1))::R))∨kI l.toArray i=true)
  (h:∀ cM,Ok s ((cM,.row e sz (n+1))::R)→bg J P Γ N l.toArray Q (bZ (m|||2^i)) ((d,.aA sz (xs++[v]) cM)::env) (aS s ((cM,.row e sz (n+1))::R))):bg J P Γ N l.toArray Q (bZ m) env (aS s L):=by
 subst az;exact bg.rp i aP I aD ai ax aU av b3 aN bt c0 dy bJ ab ay gE (.inr de) dS (by intro y ay;simp at ay;subst ay;exact dC) cc ar C C an ek aL h
theorem bg.bX {aef:eC→a'→Prop} {K:a'} {i:Nat} {f:FuncId} {as:Array Operand} {da:Array TypeId} {xs:List ag} (aD:eJ l.toArray m (idxs 0 l)=[i]) (ai:l.toArray[i]? = some o) (ax:o.dst=some d) (aU:t8 d N=true)
  (av:c6 l env o) (b3:o.op = .call { callee := .value (.func f),args:=as,argTypes:=da }) (a6:fX (b4 l env o) as.toList=some xs) (h:bA P f xs K aef) (I:Ok s L) (ar:aG L K R)
  (aL:∀ x aO,aef (.ret x) aO→Ok s (aO++R)→J (aS s (aO++R))∨kI l.toArray i=true)
  (aE:∀ x aO,aef (.ret x) aO→Ok s (aO++R)→bg J P Γ N l.toArray Q (bZ (m|||2^i)) ((d,x)::env) (aS s (aO++R))) (ab:∀ x aO,aef (.panic x) aO→Ok s (aO++R)→Q (.panic x) [] (aS s (aO++R))):bg J P Γ N l.toArray Q (bZ m) env (aS s L):=
 bg.one aD ai ax aU av (aZ.bX b3 a6 h I ar) (fun x aj ⟨aO,U,ad,al⟩=>by subst U;exact aL x aO al ad) (fun x aj ⟨aO,U,ad,al⟩=>by subst U;exact aE x aO al ad) (fun x aj ⟨aO,U,ad,al⟩=>by subst U;exact ab x aO al ad)
theorem bg.gM {aef:eC→a'→Prop} {K:a'} {i:Nat} {g:Operand} {fv:ag} {as:Array Operand} {da:Array TypeId} {xs:List ag} (aD:eJ l.toArray m (idxs 0 l)=[i]) (ai:l.toArray[i]? = some o) (ax:o.dst=some d) (aU:t8 d N=true)
  (av:c6 l env o) (b3:o.op = .call { callee := .value g,args:=as,argTypes:=da }) (aw:aM (b4 l env o) g=some fv) (a6:fX (b4 l env o) as.toList=some xs) (h:dA P fv xs K aef) (I:Ok s L) (ar:aG L K R)
  (aL:∀ x aO,aef (.ret x) aO→Ok s (aO++R)→J (aS s (aO++R))∨kI l.toArray i=true)
  (aE:∀ x aO,aef (.ret x) aO→Ok s (aO++R)→bg J P Γ N l.toArray Q (bZ (m|||2^i)) ((d,x)::env) (aS s (aO++R))) (ab:∀ x aO,aef (.panic x) aO→Ok s (aO++R)→Q (.panic x) [] (aS s (aO++R))):bg J P Γ N l.toArray Q (bZ m) env (aS s L):=
 bg.one aD ai ax aU av (aZ.gM b3 aw a6 h I ar) (fun x aj ⟨aO,U,ad,al⟩=>by subst U;exact aL x aO al ad) (fun x aj ⟨aO,U,ad,al⟩=>by subst U;exact aE x aO al ad) (fun x aj ⟨aO,U,ad,al⟩=>by subst U;exact ab x aO al ad)
end
section
variable {J:ao→Prop} {P:Program} {Γ:cA} {N:Nat} {ops:Array Oper} {Q:b9→Env→ao→Prop} {env:Env} {s:ao} {o:Oper} {d m:Nat} {L:a'} {l:List Oper}
theorem aZ.AK (aP:bQ P Γ) (I:Ok s L) {t bI e:TypeId} {x y:Operand} {it cz aH:bO} {dX bY sz n':Nat} {ys:List ag} {dr:bN}
  (ai:o.op = .call { callee := .builtin .append,args := #[x,y],argTypes := #[t,bI] }) (aN:Γ.get? t=some it) (bt:it.bF = .aA e) (c0:Γ.get? bI=some cz) (dy:∀ k,cz.bF ≠ .int k)
  (bJ:Γ.get? e=some aH) (ab:aM env x=some (.aA dX [] .nil)) (ay:aM env y=some (.aA bY ys dr)) (de:ys=[]∨bY=aH.size)
  (dS:af0 aH.zero.cells.size aH.size=true) (dC:∀ y∈ys,km aH.size y=true) (cc:sz=aH.size) (gi:n'=ys.length) (an:n'*aH.bytes≤140737488355328) (ek:n'≤9223372036854775807) {X:ag→ao→Prop} :
  aZ P N o env (aS s L) (fun r aj=>∃ cM,r = .aA sz ys cM∧aj=aS s ((cM,.row e sz n')::L)∧Ok s ((cM,.row e sz n')::L)) X:=by
 subst cc;subst gi;refine (aZ.append aP ai aN bt c0 dy bJ ab ay (.inl C) de dS dC (by simpa using an) (by simpa using ek) (.inl (.inl C)) (X:=X)).mono ?_ (fun _ _ h=>h);rintro r aj (⟨U,-,rfl,rfl⟩|⟨s₁,wy,b,U,rfl,rfl⟩)
 ·exact ⟨.nil,by rw [U],rfl,trivial,I⟩
 ·rcases wy with rfl|⟨aY,e,-⟩
  ·exact ⟨.own b,by simp,by simp only [List.length_nil,Nat.zero_add];rfl,U,I⟩
  ·cases e
theorem aa.AK (aP:bQ P Γ) (I:Ok s L) {t bI e:TypeId} {x y:Operand} {it cz aH:bO} {dX bY sz n':Nat} {ys:List ag} {dr:bN} (av:guardOf ops env o=some true) (ax:o.dst=some d) (aU:t8 d N=true)
  (ai:o.op = .call { callee := .builtin .append,args := #[x,y],argTypes := #[t,bI] }) (aN:Γ.get? t=some it) (bt:it.bF = .aA e) (c0:Γ.get? bI=some cz) (dy:∀ k,cz.bF ≠ .int k)
  (bJ:Γ.get? e=some aH) (ab:aM env x=some (.aA dX [] .nil)) (ay:aM env y=some (.aA bY ys dr)) (de:ys=[]∨bY=aH.size)
  (dS:af0 aH.zero.cells.size aH.size=true) (dC:∀ y∈ys,km aH.size y=true) (cc:sz=aH.size) (gi:n'=ys.length) (an:n'*aH.bytes≤140737488355328) (ek:n'≤9223372036854775807)
  (h:∀ cM,Ok s ((cM,.row e sz n')::L)→aa P N ops l Q ((d,.aA sz ys cM)::env) (aS s ((cM,.row e sz n')::L))):aa P N ops (o::l) Q env (aS s L):=
 aa.op av ax aU (aZ.AK aP I ai aN bt c0 dy bJ ab ay de dS dC cc gi an ek (X:=fun _ _=>False)) (fun r aj ⟨cM,U,ad,al⟩=>by subst U;subst ad;exact h cM al) (fun _ _ h=>h.elim)
theorem bg.AK (i:Nat) (aP:bQ P Γ) (I:Ok s L) {t bI e:TypeId} {x y:Operand} {it cz aH:bO} {dX bY sz n':Nat} {ys:List ag} {dr:bN} (aD:eJ l.toArray m (idxs 0 l)=[i]) (aR:l.toArray[i]? = some o) (ax:o.dst=some d) (aU:t8 d N=true)
  (av:c6 l env o)
  (ai:o.op = .call { callee := .builtin .append,args := #[x,y],argTypes := #[t,bI] }) (aN:Γ.get? t=some it) (bt:it.bF = .aA e) (c0:Γ.get? bI=some cz) (dy:∀ k,cz.bF ≠ .int k)
  (bJ:Γ.get? e=some aH) (ab:aM (b4 l env o) x=some (.aA dX [] .nil)) (ay:aM (b4 l env o) y=some (.aA bY ys dr)) (de:ys=[]∨bY=aH.size)
  (dS:af0 aH.zero.cells.size aH.size=true) (dC:∀ y∈ys,km aH.size y=true) (cc:sz=aH.size) (gi:n'=ys.length) (an:n'*aH.bytes≤140737488355328) (ek:n'≤9223372036854775807)
  (aL:∀ cM,Ok s ((cM,.row e sz n')::L)→J (aS s ((cM,.row e sz n')::L))∨kI l.toArray i=true)
  (h:∀ cM,Ok s ((cM,.row e sz n')::L)→bg J P Γ N l.toArray Q (bZ (m|||2^i)) ((d,.aA sz ys cM)::env) (aS s ((cM,.row e sz n')::L))):bg J P Γ N l.toArray Q (bZ m) env (aS s L):=
 bg.one aD aR ax aU av (aZ.AK aP I ai aN bt c0 dy bJ ab ay de dS dC cc gi an ek (X:=fun _ _=>False)) (fun r aj ⟨cM,U,ad,al⟩=>by subst U;subst ad;exact aL cM al) (fun r aj ⟨cM,U,ad,al⟩=>by subst U;subst ad;exact h cM al) (fun _ _ h=>h.elim)
end
end Go.Proofs.YtnafpeohfbglmaaGreat
