import Derived.KernelRfl
import Derived.Test.YtnafpeohfbglmaaGreatQa
import Derived.Laws.IdiomRangeMap
set_option linter.unusedVariables false
set_option linter.unusedSimpArgs false
open List (mem_cons)
open Nat (blt_eq eq_of_beq_eq_true)
theorem Cn {p:Prop} (h:p:=by simpa [Nat.blt_eq] using aU):p:=h
theorem i' {p:Prop} (h:p:=by simp [gE,ah]):p:=h
namespace Go.cU
def Co:dC→Bool
 | .k3 _ _ _ _=>false
 | _=>true
theorem JK {w w':World} {p bj:bR} {b:Nat} {o:dC} (a6:Co o=true) (h:p6 w p b o) (hle:dc w p w' bj) (cX:w'.heap[b]? = w.heap[b]?) (aD:∀ x,bj b x→p b x):p6 w' bj b o:=by
 cases o with
 | box t c=>obtain ⟨us,g1,g2,g3⟩:=h;exact ⟨us,cX.trans g1,g2.mono hle,fun o ah=>g3 o (aD o ah)⟩
 | row t sz n=>obtain ⟨cur,g1,g2,g3,g4⟩:=h;exact ⟨cur,cX.trans g1,g2,g3,fun o=>⟨fun ah=>(g4 o).1 (aD o ah),fun ah=>hle.k2 _ _ ((g4 o).2 ah)⟩⟩
 | map es=>obtain ⟨cN,c,g1,g2,g3⟩:=h;exact ⟨cN,c,cX.trans g1,⟨g2.1.mono hle,g2.2.mono hle⟩,g3⟩
 | k3 es it l c=>cases a6
 | tick m=>obtain ⟨dW,a2,a3,g1⟩:=h;exact ⟨dW,a2,a3,cX.trans g1⟩
 | loop r env=>exact ⟨cX.trans h.1,fun t v av=>(h.2 t v av).mono hle⟩
theorem Cp {s aj:ao} {w w':World} {p bj:bR} {b:Nat} {o:dC} (aq:s b=none) (a6:Co o=true) (cc:dm w p (s.set b o)) (hle:dc w p w' bj) (aE:Kept s aj w p w' bj) (kM:dm w' bj aj) :
  aj b=none∧Kept (s.set b o) (aj.set b o) w p w' bj∧dm w' bj (aj.set b o):=by
 have ah:=cc.obj b o (ao.gk _ _ _);have au:=ah.lt;have az:=aE.kH b au aq;refine ⟨az,⟨fun aW dI ar=>?_,fun aW dI ar=>?_,fun aW x dI ar ab=>?_⟩,⟨fun aW o' dI=>?_,kM.lt⟩⟩
 ·obtain ⟨U,ad⟩:=ao.tL ar;exact aE.heap aW dI ad
 ·obtain ⟨U,ad⟩:=ao.tL ar;rw [ao.fx _ _ U];exact aE.kH aW dI ad
 ·obtain ⟨U,ad⟩:=ao.tL ar;exact aE.k2 aW x dI ad ab
 ·by_cases e:aW=b
  ·subst e
   rw [ao.gk] at dI;cases dI;exact JK a6 ah hle (aE.heap aW au aq) (fun x ab=>aE.k2 aW x au aq ab)
  ·rw [ao.fx _ _ e] at dI;exact kM.obj aW o' dI
theorem hL.frame {P:Program} {fv:af} {args:List af} {s:ao} {R:ey→ao→Prop} (b:Nat) (o:dC) (aq:s b=none) (a6:Co o=true) (h:hL P fv args s R) :
  hL P fv args (s.set b o) (fun out aj=>∃ s₁,s₁ b=none∧aj=s₁.set b o∧R out s₁):=by
 intro w p v vs cc av eH;refine (h w p v vs (cc.sub (ao.vi s b o aq)) av eH).mono ?_;rintro e w' ⟨out,aj,bj,U,ad,al,bd,bD⟩;obtain ⟨cD,dh,fa⟩:=Cp aq a6 cc al bd bD;exact ⟨out,aj.set b o,bj,U,⟨aj,cD,rfl,ad⟩,al,dh,fa⟩
theorem hd.frame {P:Program} {f:FuncId} {args:List af} {s:ao} {R:ey→ao→Prop} (b:Nat) (o:dC) (aq:s b=none) (a6:Co o=true) (h:hd P f args s R) :
  hd P f args (s.set b o) (fun out aj=>∃ s₁,s₁ b=none∧aj=s₁.set b o∧R out s₁):=by
 refine ⟨h.1,fun w p vs cc eH=>?_⟩;refine (h.2 w p vs (cc.sub (ao.vi s b o aq)) eH).mono ?_;rintro e w' ⟨out,aj,bj,U,ad,al,bd,bD⟩;obtain ⟨cD,dh,fa⟩:=Cp aq a6 cc al bd bD;exact ⟨out,aj.set b o,bj,U,⟨aj,cD,rfl,ad⟩,al,dh,fa⟩
theorem hL.drop {P:Program} {fv:af} {args:List af} {s aj:ao} {R:ey→ao→Prop} (ar:ao.Sub aj s) (h:hL P fv args aj R):hL P fv args s R:=by
 intro w p v vs cc av eH;refine (h w p v vs (cc.sub ar) av eH).mono ?_;rintro e w' ⟨out,eG,bj,U,ad,al,bd,bD⟩;exact ⟨out,eG,bj,U,ad,al,bd.xo ar,bD⟩
theorem hd.drop {P:Program} {f:FuncId} {args:List af} {s aj:ao} {R:ey→ao→Prop} (ar:ao.Sub aj s) (h:hd P f args aj R):hd P f args s R:=by
 refine ⟨h.1,fun w p vs cc eH=>(h.2 w p vs (cc.sub ar) eH).mono ?_⟩;rintro e w' ⟨out,eG,bj,U,ad,al,bd,bD⟩;exact ⟨out,eG,bj,U,ad,al,bd.xo ar,bD⟩
def lE (l:Nat):af := .hv (.func (.yield l) #[] #[])
def zB:List Tmp→List af→Env→Env
 | t::gl,v::vs,env=>zB gl vs ((t,v)::env)
 | _,_,env=>env
theorem RC {N:Nat} {B:fL} {ro:Option Nat} {s:ao} {w:World} {p:bR} {cb:List Deferred}:∀ (gl:List Tmp) (us:List Value) (vs:List af) (env:Env) (tmps:Array Value),
  gl.length=us.length→bG w p us vs→(∀ t∈gl,t<N)→dw N B ro env s { tmps:=tmps,defers:=cb } w p →
  dw N B ro (zB gl vs env) s { tmps:=(gl.zip us).foldl (fun tmps (t,a)=>tmps.setIfInBounds t a) tmps,defers:=cb } w p:=by
 intro gl
 induction gl with
 | nil=>intro us vs env tmps aB aF _ aI;exact aI
 | cons t gl a1=>
  intro us vs env tmps aB aF aU aI;cases us with
  | nil=>simp at aB
  | cons u us=>
   cases aF with
   | cons _ v _ vs hu aM=>
   simp only [zB,List.zip_cons_cons,List.foldl_cons];exact a1 us vs _ _ (by simpa using aB) aM (fun bH cV=>aU bH (List.mem_cons_of_mem _ cV)) (aI.put (aU t (List.mem_cons_self ..)) hu)
section
variable {P:Program} {Γ:cw} {N:Nat} {Q:b8→Env→ao→Prop} {env:Env} {s:ao}
def busy (r:Loop):Loop:={ r with state := .busy }
def qo (r:Loop) (j:Code):Loop:={ r with state := .done,pending:=some j }
theorem Fg {w:World} {p:bR} {s:ao} (cc:dm w p s) {l:Nat} {r r':Loop} {env:Env} (ar:s l=some (.loop r env)) (aM:r'.tmps=r.tmps) (w':World) (iL:w'={ w with heap:=w.heap.setIfInBounds l (.loop r') }) :
  dc w p w' p∧Kept s (s.set l (.loop r' env)) w p w' p∧dm w' p (s.set l (.loop r' env)):=by
 subst iL;have U:w.heap[l]? = some (.loop r):=(cc.obj _ _ ar).1;have ad:=(cc.obj _ _ ar).2;have au:l<w.heap.size:=(Array.getElem?_eq_some_iff.1 U).1;have ox:(w.heap.setIfInBounds l (.loop r'))[l]? = some (.loop r'):=by simp [Array.getElem?_setIfInBounds,au]
 have hS:∀ k,k≠l→(w.heap.setIfInBounds l (.loop r'))[k]? = w.heap[k]? := fun k aE=>by
  rw [Array.getElem?_setIfInBounds,if_neg (fun e=>aE e.symm)]
 have hle:dc w p { w with heap:=w.heap.setIfInBounds l (.loop r') } p:=by
  refine ⟨rfl,rfl,rfl,by simp,fun _ _ h=>h,fun b o aD=>?_,fun b x ab=>?_⟩
  ·by_cases e:b=l
   ·subst e;simp only [World.cell?,U,ox]
   ·exact xq (hS b e)
  ·by_cases e:b=l
   ·subst e;simp [World.kG,U] at ab
   ·rw [xp (hS b e)];exact ab
 refine ⟨hle,⟨fun b aq az=>hS b (fun e=>by rw [e,ar] at az;simp at az),fun b aq az=>?_,fun _ _ _ _ h=>h⟩,⟨fun b o aq=>?_,fun b o aD=>by simpa using cc.lt b o aD⟩⟩
 ·rw [ao.fx]
  ·exact az
  ·intro e;rw [e,ar] at az;simp at az
 ·by_cases e:b=l
  ·subst e
   rw [ao.gk] at aq;cases aq;exact ⟨ox,fun t v av=>by rw [aM];exact (ad t v av).mono hle⟩
  ·rw [ao.fx _ _ e] at aq
   have ah:=cc.obj b o aq;cases o with
   | k3 es it k9 c=>exact ah.p7 hle (hS b e) (hS it (ah.y5 U a'))
   | _=>exact JK C ah hle (hS b e) (fun _ h=>h)
def Cq (Rn:ao→Prop) (Rj:Code→ao→Prop) (Rp:af→ao→Prop):b8→Env→ao→Prop
 | .normal,_,s=>Rn s
 | .ret,_,s=>Rj .ret s
 | .exit id,_,s=>Rj (.exit id) s
 | .panic v,_,s=>Rp v s
theorem zC {w:World} {l:Nat} {r:Loop} (h:w.heap[l]? = some (.loop r)):(Instr.getLoop l).run P w = .ok r w:=by
 unfold Instr.getLoop;simp only [Sem.run_bind,xy h C,Result.andThen_ok,Sem.run_pure]
theorem Fh {w:World} {r:Nat} {o o':Obj} (h:w.heap[r]? = some o) (aC:B8 o=true):(setObj r o').run P w = .ok () { w with heap:=w.heap.setIfInBounds r o' }:=by
 cases o<;>first|(simp [B8] at aC;done)|simp [setObj,Sem.run,h]
theorem RD {l:Nat} {r:Loop} {fn:Func} {a:Act} (eU:P.funcs[r.fn]? = some fn) (RE:r.state = .ready)
  {args:List af} {s₁:ao} {Rn:ao→Prop} {Rj:Code→ao→Prop} {Rp:af→ao→Prop}
  (aF:s₁ l=some (.loop r env)) (xH:args.length=r.params.size) (b':r.tmps.size=N) (RF:∀ t∈r.params.toList,t<N)
  (sj:ae P N r.assign (b8.andThen (ae P N r.body (Cq Rn Rj Rp)) (fun _ _ _=>False)) (zB r.params.toList args env) (s₁.del l))
  (w:World) (p:bR) (vs:List Value) (cc:dm w p s₁) (eH:bG w p vs args) :
  o8 P ((do let d ← Deferred.ofValue (.func (.yield l) #[] #[]) vs.toArray;invoke d.target d.args:Sem Next).run P w)
   (vt s₁ w p fun o aj=>(o = .ret (.bool true)∧∃ dH,dH l=none∧aj=dH.set l (.loop { busy r with state := .ready,pending:=none } env)∧Rn dH) ∨
    (o = .ret (.bool false)∧∃ j dH,dH l=none∧aj=dH.set l (.loop (qo r j) env)∧Rj j dH) ∨
    (∃ v dH,o = .panic v∧dH l=none∧aj=dH.set l (.loop (busy r) env)∧Rp v dH)):=by
 have U:w.heap[l]? = some (.loop r):=(cc.obj _ _ aF).1;have Cf:=(cc.obj _ _ aF).2;have au:l<w.heap.size:=(Array.getElem?_eq_some_iff.1 U).1;have cO:(do let d ← Deferred.ofValue (.func (.yield l) #[] #[]) vs.toArray;invoke d.target d.args:Sem Next).run P w =
   .ok (.round l r.fn ((r.params.zip vs.toArray).foldl (fun tmps (t,a)=>tmps.setIfInBounds t a) r.tmps) r.assign r.body) w:=by
  have aB:vs.length=r.params.size:=by rw [eH.length,xH]
  simp only [Deferred.ofValue,Sem.run_bind,Sem.run_pure,Result.andThen_ok,invoke,Instr.yield,zC U];simp [aB]
 rw [cO];have hH:ao.Sub (s₁.del l) s₁:=fun b=>by
  by_cases e:b=l
  ·subst e;exact .inr (ao.m6 _ _)
  ·exact .inl (ao.mv _ e)
 have JL:s₁=(s₁.del l).set l (.loop r env):=by
  funext b;by_cases e:b=l
  ·subst e;rw [ao.gk];exact aF
  ·rw [ao.fx _ _ e,ao.mv _ e]
 have RG:((r.params.zip vs.toArray).foldl (fun tmps (t,a)=>tmps.setIfInBounds t a) r.tmps)=(r.params.toList.zip vs).foldl (fun tmps (t,a)=>tmps.setIfInBounds t a) r.tmps:=by
  rw [← Array.foldl_toList];simp
 have Cr:s₁.del l l=none:=ao.m6 _ _;have Fi:dw N (0,[]) (some l) env (s₁.del l) { tmps:=r.tmps,defers:=[] } w p:=
  ⟨b',Cf,cc.sub hH,⟨[],rfl,by simp,by simp⟩,fun k9 pr=>by cases pr;exact ⟨rfl,⟨r,U⟩,Cr⟩,Nat.zero_le _⟩
 have aI:=RC r.params.toList vs args env r.tmps (by rw [eH.length,xH,Array.length_toList]) eH RF Fi;rw [RG];refine P3 eU fun b h2 la=>?_
 rw [← h2] at aI;refine l0 (sj b (0,[]) _ w p (by rw [la,eU];rfl) aI) ?_;rintro EG iJ w₁ ⟨BM,oo,dH,p₁,RH,Cs,k4,Ct,Fj⟩;cases RH with
 | exit id=>exact Cs.elim
 | ret=>exact Cs.elim
 | panic v x dB kI av=>exact Cs.elim
 | normal=>
 have lz:w₁.heap[l]? = some (.loop r):=(Fj.heap l au Cr).trans U;have sK:dH l=none:=Fj.kH l au Cr;have RI:(Instr.beginRound l).run P w₁ = .ok () { w₁ with heap:=w₁.heap.setIfInBounds l (.loop (busy r)) }:=by
  unfold Instr.beginRound;simp only [Sem.run_bind,zC lz,Result.andThen_ok,Fh lz C,RE];rfl
 refine ⟨_,RI,?_⟩;obtain ⟨f1,f2,f3⟩:=Cp (s:=s₁.del l) (b:=l) (o := .loop r env) Cr rfl (by rw [← JL];exact cc) Ct Fj k4.wf;obtain ⟨g1,g2,g3⟩:=Fg (r':=busy r) f3 (ao.gk _ _ _) rfl _ rfl;rw [ao.set_set] at g2 g3;have lb:({ w₁ with heap:=w₁.heap.setIfInBounds l (.loop (busy r)) }:World).heap[l]? = some (.loop (busy r)):=(g3.obj _ _ (ao.gk _ _ _)).1;have zD:dm { w₁ with heap:=w₁.heap.setIfInBounds l (.loop (busy r)) } p₁ dH:=g3.sub (ao.vi _ _ _ sK);have vJ:dw N (0,[]) b.roundOf oo dH iJ { w₁ with heap:=w₁.heap.setIfInBounds l (.loop (busy r)) } p₁:=by
  refine ⟨k4.size,fun t v av=>(k4.env t v av).mono g1,zD,?_,fun k9 pr=>?_,Nat.zero_le _⟩
  ·obtain ⟨ax,-,-⟩:=k4.round l h2
   exact ⟨[],by simpa [marksOf] using ax,by simp,by simp⟩
  ·rw [h2] at pr;cases pr
   exact ⟨(k4.round l h2).1,⟨_,lb⟩,sK⟩
 refine l0 (Cs b (0,[]) iJ _ p₁ (by rw [la,eU];rfl) vJ) ?_;rintro e₃ a₃ iK ⟨x₃,aa4,tU,sL,RJ,Cu,JM,JN,Fk⟩;have cz:l<({ w₁ with heap:=w₁.heap.setIfInBounds l (.loop (busy r)) }:World).heap.size:=(Array.getElem?_eq_some_iff.1 lb).1;have mC:iK.heap[l]? = some (.loop (busy r)):=(Fk.heap l cz sK).trans lb;have tV:tU l=none:=Fk.kH l cz sK;obtain ⟨cD,dh,fa⟩:=Cp (b:=l) (o := .loop (busy r) env) sK rfl g3 JN Fk JM.wf;have Fl:dc w p iK sL:=(Ct.trans g1).trans JN;have JO:Kept s₁ (tU.set l (.loop (busy r) env)) w p iK sL:=by
  have cg:Kept s₁ (dH.set l (.loop r env)) w p w₁ p₁:=by rw [JL];exact f2
  exact (cg.trans Ct.size g2).trans (Ct.trans g1).size dh
 have fin:∀ (jump:Option Code),∃ lv,(Instr.endRound l jump).run P iK = .ok (.bool jump.isNone) lv ∧
   dc w p lv sL∧Kept s₁ (tU.set l (.loop { busy r with state:=if jump.isNone then .ready else .done,pending:=jump } env)) w p lv sL∧dm lv sL (tU.set l (.loop { busy r with state:=if jump.isNone then .ready else .done,pending:=jump } env)):=by
  intro jump;obtain ⟨ef,di,dL⟩:=Fg (r':={ busy r with state:=if jump.isNone then .ready else .done,pending:=jump }) fa (ao.gk _ _ _) rfl _ rfl;rw [ao.set_set] at di dL;refine ⟨_,?_,Fl.trans ef,JO.trans Fl.size di,dL⟩;unfold Instr.endRound;simp only [Sem.run_bind,zC mC,Result.andThen_ok,Fh mC C,Sem.run_pure]
 cases RJ with
 | normal=>
  obtain ⟨lv,fp,gB,hp,iW⟩:=fin none;exact ⟨_,lv,fp,.ret (.bool true),_,sL,.bool _,.inl ⟨rfl,tU,tV,rfl,Cu⟩,gB,hp,iW⟩
 | ret=>
  obtain ⟨lv,fp,gB,hp,iW⟩:=fin (some .ret);exact ⟨_,lv,fp,.ret (.bool false),_,sL,.bool _,.inr (.inl ⟨rfl,.ret,tU,tV,rfl,Cu⟩),gB,hp,iW⟩
 | exit id=>
  obtain ⟨lv,fp,gB,hp,iW⟩:=fin (some (.exit id));exact ⟨_,lv,fp,.ret (.bool false),_,sL,.bool _,.inr (.inl ⟨rfl,.exit id,tU,tV,rfl,Cu⟩),gB,hp,iW⟩
 | panic v x dB kI av=>
  refine ⟨(JM.round l h2).1,.panic x,_,sL,⟨v,kI,av⟩,.inr (.inr ⟨x,tU,rfl,tV,rfl,Cu⟩),Fl,JO,fa⟩
end
section
variable {P:Program} {Γ:cw} {N:Nat} {Q:b8→Env→ao→Prop} {env:Env} {s:ao}
theorem RK (b:Frame) (a:Act) (k:List Item) (l:Nat) (v:Value):(b.atR a (.inRangeFunc l::k)).finish v=b.atR a (.endRangeFunc l::k):=by
 simp [Frame.finish,Frame.atR]
theorem JP {b:Frame} {a:Act} {k:List Item} {cs:List Frame} {w w':World} {l:Nat} {jump:Option Code} (h:(Instr.endLoop l).run P w = .ok jump w') :
  step P (lone (b.atR a (.endRangeFunc l::k)) cs w) = .next (lone (b.atR a ((jump.map Item.code).toList++k)) cs w'):=
 step_lone_go (by simp [stepG,stepG.exec,Frame.atR,Sem.runT_eq,h,GStep.bare_after])
def Fm (g:Operand) (l:Nat):Call:={ callee := .value g,args := #[.const (.func (.yield l) #[] #[])],argTypes := #[] }
theorem RL {b:Frame} {a:Act} {k:List Item} {cs:List Frame} {w:World} {g:Operand} {ps:Array Tmp} {ha body:Code} {l:Nat} {mark:List Deferred} {w₁ hG:World} {f:FuncId} {args:Array Value}
  (he:(Instr.enterLoop b.fn a.tmps ps ha body b.roundOf).run P w = .ok (l,mark) w₁)
  (hinv:(do let d ← resolve a.eval (Fm g l) 0;invoke d.target d.args:Sem Next).run P w₁ = .ok (.enter f args) hG) :
  step P (lone (b.atR a (.code (.rangeFunc g ps ha body)::k)) cs w) =
   .next (lone (Frame.enter P f args .normal) (b.atR { a with defers:=mark++a.defers } (.inRangeFunc l::k)::cs) hG):=
 step_lone_go (by
  have pk:=Frame.eval_atR b { a with defers:=mark++a.defers } (.inRangeFunc l::k)
  simp only [Frame.atR] at pk
  have RM:(do let d ← resolve ({ tmps:=a.tmps,defers:=mark++a.defers }:Act).eval { callee := .value g,args := #[.const (.func (.yield l) #[] #[])],argTypes := #[] } 0;invoke d.target d.args:Sem Next).run P w₁ = .ok (.enter f args) hG:=hinv
  simp only [stepG,stepG.exec,Frame.atR,Sem.runT_eq,he,GStep.bare_after,stepG.apply,pk,RM,if_true,GStep.bare_go])
def RN (l:Nat) (r:Loop) (env:Env) (Rn:ao→Prop) (Rj:Code→ao→Prop) (Rp:af→ao→Prop) (o:ey) (aj:ao):Prop:=
 (o = .ret (.bool true)∧∃ dH,dH l=none∧aj=dH.set l (.loop r env)∧Rn dH) ∨
 (o = .ret (.bool false)∧∃ j dH,dH l=none∧aj=dH.set l (.loop (qo r j) env)∧Rj j dH) ∨
 (∃ v dH,o = .panic v∧dH l=none∧aj=dH.set l (.loop (busy r) env)∧Rp v dH)
def RO (P:Program) (N:Nat) (Q:b8→Env→ao→Prop) (env:Env) (l:Nat) (r:Loop) (o:ey) (aj:ao):Prop:=
 match o with
 | .ret _=>(∃ dH,dH l=none∧aj=dH.set l (.loop r env)∧Q .normal env dH)∨(∃ j dH,dH l=none∧aj=dH.set l (.loop (qo r j) env)∧ae P N j Q env dH)
 | .panic v=>∃ dH o',dH l=none∧aj=dH.set l o'∧Q (.panic v) env dH
theorem ae.JQ {g:Operand} {ps:Array Tmp} {ha body:Code} {f:FuncId} {first cap:List af} (aw:aJ env g=some (.func f first cap)) (aU:∀ t∈ps.toList,t<N)
    (h:∀ (l:Nat) (r:Loop),s l=none →
      (∀ args s₁ Rn Rj Rp,s₁ l=some (.loop r env)→args.length=ps.size →
        ae P N ha (b8.andThen (ae P N body (Cq Rn Rj Rp)) (fun _ _ _=>False)) (zB ps.toList args env) (s₁.del l) →
        hL P (lE l) args s₁ (RN l r env Rn Rj Rp)) →
      hd P f (first++([lE l]++cap)) (s.set l (.loop r env)) (RO P N Q env l r)):ae P N (.rangeFunc g ps ha body) Q env s:=by
  intro b B a w p eU aI k cs;obtain ⟨fn,RP⟩:=Option.isSome_iff_exists.1 eU;have RQ:∃ (l D:Nat) (mark:List Deferred) (w₁:World),(Instr.enterLoop b.fn a.tmps ps ha body b.roundOf).run P w = .ok (l,mark) w₁ ∧
      w₁.heap[l]? = some (.loop { state := .ready,pending:=none,fn:=b.fn,tmps:=a.tmps,params:=ps,assign:=ha,body,defers:=D })∧w.heap.size≤l∧l<w₁.heap.size ∧
      (∀ x,x<w.heap.size→w₁.heap[x]? = w.heap[x]?)∧w₁.os=w.os∧w₁.tape=w.tape∧w₁.output=w.output∧w.heap.size≤w₁.heap.size ∧
      ((mark=[]∧b.roundOf≠none)∨(b.roundOf=none∧mark=marksOf [w.heap.size]∧w₁.heap[w.heap.size]? = some (.deferred (some []))∧l≠w.heap.size)):=by
    cases tW:b.roundOf with
    | none=>
      refine ⟨w.heap.size+1,w.heap.size,_,(w.alloc (.deferred (some []))).alloc (.loop { state := .ready,pending:=none,fn:=b.fn,tmps:=a.tmps,params:=ps,assign:=ha,body,defers:=w.heap.size }),?_,?_,by omega,by simp,?_,rfl,rfl,rfl,by simp;omega,.inr ⟨rfl,rfl,?_,by omega⟩⟩
      · unfold Instr.enterLoop
        simp [World.alloc_eq,marksOf]
      · have:=tF (w.alloc (.deferred (some []))) (.loop { state := .ready,pending:=none,fn:=b.fn,tmps:=a.tmps,params:=ps,assign:=ha,body,defers:=w.heap.size })
        simpa using this
      · intro x ab;rw [l3 _ _ _ cG,l3 _ _ _ ab]
      · rw [l3 _ _ _ a'];exact tF w _
    | some RR=>
      obtain ⟨-,⟨JR,RS⟩,-⟩:=aI.round RR tW;refine ⟨w.heap.size,JR.defers,[],w.alloc (.loop { state := .ready,pending:=none,fn:=b.fn,tmps:=a.tmps,params:=ps,assign:=ha,body,defers:=JR.defers }),?_,tF w _,Nat.le_refl _,by simp,fun x ab=>l3 w _ x ab,rfl,rfl,rfl,by simp,.inl ⟨rfl,by simp⟩⟩;unfold Instr.enterLoop;simp only [Sem.run_bind,zC RS,Result.andThen_ok,Sem.run_pure,run_newObj];rfl
  obtain ⟨l,D,mark,w₁,RT,lz,df,aa5,hold,RU,rl,pt,b',JS⟩:=RQ;have xI:s l=none:=by
    cases ar:s l with
    | none=>rfl
    | some o=>exact absurd (aI.wf.obj _ _ ar).lt ag
  generalize aF:({ state := .ready,pending:=none,fn:=b.fn,tmps:=a.tmps,params:=ps,assign:=ha,body,defers:=D }:Loop)=r at lz;have vK:dc w p w₁ p:=dc.of_heap RU rl pt b' (fun _ _ h=>h) aI.wf.lt hold;have RV:dm w₁ p (s.set l (.loop r env)):=by
    have aw:=aI.wf.grow vK hold (fun _ _ _ h=>h) (fun b o aD=>by have:=aI.wf.lt b o aD;omega);refine ⟨fun aW o aq=>?_,aw.lt⟩;by_cases e:aW=l
    · subst e
      rw [ao.gk] at aq;cases aq;refine ⟨lz,fun t v av=>?_⟩;have:r.tmps=a.tmps:=by rw [← aF]
      rw [this];exact (aI.env t v av).mono vK
    · rw [ao.fx _ _ e] at aq;exact aw.obj aW o aq
  have l4:Kept s (s.set l (.loop r env)) w p w₁ p:=⟨fun x ab _=>hold x ab,fun x ab az=>by rw [ao.fx _ _ ag];exact az,fun _ _ _ _ h=>h⟩;obtain ⟨RW,cZ⟩:=h l r xI fun args s₁ Rn Rj Rp kN xH sj w' bj v vs kM av eH=>by
    have I0:v = .func (.yield l) #[] #[]:=by
      cases av with
      | hv=>rfl
    subst I0;have:=RD (a:=a) (P:=P) (N:=N) (env:=env) (r:=r) (fn:=fn) (by rw [← aF];exact RP) (by rw [← aF]) kN (by rw [← aF];exact xH) (by rw [← aF];exact aI.size)
      (by rw [← aF];exact aU) (Rn:=Rn) (Rj:=Rj) (Rp:=Rp) (by rw [← aF];exact sj) w' bj vs kM eH
    have Cv:{ busy r with state:=LoopState.ready,pending:=none }=r:=by rw [← aF];rfl
    rw [Cv] at this;exact this
  have l7:=aI.aJ aw;generalize Cw:a.eval g=acr at l7;cases l7 with
  | func _ as cs' _ _ a7 aC=>
  have hinv:(do let d ← resolve a.eval (Fm g l) 0;invoke d.target d.args:Sem Next).run P w₁ = .ok (.enter f (as ++ #[.func (.yield l) #[] #[]]++cs')) w₁:=by
    simp only [resolve,Fm,Cw,Deferred.ofValue,Sem.run_bind,Sem.run_pure,Result.andThen_ok,invoke];have:(#[Operand.const (.func (.yield l) #[] #[])].map a.eval) = #[.func (.yield l) #[] #[]]:=by simp [Act.eval]
    rw [this];exact RW _ _
  have vL:=RL (k:=k) (cs:=cs) RT hinv;have cv:=cZ w₁ p (as.toList++([.func (.yield l) #[] #[]]++cs'.toList)) RV ((a7.mono vK).append (bG.append (.cons _ _ _ _ (.hv _) .nil) (aC.mono vK)));have xH:(as.toList++([Value.func (.yield l) #[] #[]]++cs'.toList)).toArray=as ++ #[.func (.yield l) #[] #[]]++cs':=by apply Array.ext';simp
  rw [xH] at cv;obtain ⟨e,hG,hb,⟨lu,out,aj,ji,qa,dV,xB,ir,zD⟩,sh,Fo,y4⟩:=cv (b.atR { a with defers:=mark++a.defers } (.inRangeFunc l::k)::cs);have vJ:∀ dH o',dH l=none→aj=dH.set l o'→∀ iK,dc hG ji iK ji→Kept aj aj hG ji iK ji→dm iK ji dH→(∀ x,x≠l→iK.heap[x]? = hG.heap[x]?) →
      dw N B b.roundOf env dH { a with defers:=mark++a.defers } iK ji∧dc w p iK ji∧Kept s dH w p iK ji:=by
    intro dH o' az hz iK RX sw Fp RY;have bN:dc w p iK ji:=(vK.trans xB).trans RX;have tX:=(l4.trans vK.size ir).trans (vK.trans xB).size sw;have hH:ao.Sub dH aj:=by rw [hz];exact ao.vi _ _ _ az
    have bg:Kept s dH w p iK ji:=tX.sub hH;refine ⟨⟨aI.size,fun t v av=>(aI.env t v av).mono bN,Fp,?_,fun k9 pr=>?_,Nat.le_trans aI.base bN.size⟩,bN,bg⟩
    · obtain ⟨cb,d1,d2,d3⟩:=aI.defs
      rcases JS with ⟨rfl,-⟩|⟨tW,rfl,e8,JT⟩
      · refine ⟨cb,by simpa using d1,d2,fun d ax=>?_⟩
        obtain ⟨cF,mZ,kn⟩:=d3 d ax;have au:d<w.heap.size:=(Array.getElem?_eq_some_iff.1 mZ).1;exact ⟨cF,(bg.heap d au kn).trans mZ,bg.kH d au kn⟩
      · have JU:(s.set l (.loop r env)) w.heap.size=none:=by
          rw [ao.fx _ _ (Ne.symm JT)];cases ar:s w.heap.size with
          | none=>rfl
          | some o=>exact absurd (aI.wf.obj _ _ ar).lt ag
        have JV:w.heap.size<w₁.heap.size:=(Array.getElem?_eq_some_iff.1 e8).1;have RZ:iK.heap[w.heap.size]? = some (.deferred (some [])):=by
          rw [RY _ (Ne.symm JT),ir.heap _ JV JU];exact e8
        have R0:dH w.heap.size=none:=hH.none (ir.kH _ JV JU);refine ⟨w.heap.size::cb,by simp [marksOf,d1],List.nodup_cons.2 ⟨fun hm=>?_,d2⟩,fun d ax=>?_⟩
        · have:=(Array.getElem?_eq_some_iff.1 (d3 _ hm).2.1).1;omega
        · rcases mem_cons.1 ax with rfl|ax
          · exact ⟨aI.base,RZ,R0⟩
          · obtain ⟨cF,mZ,kn⟩:=d3 d ax
            have au:d<w.heap.size:=(Array.getElem?_eq_some_iff.1 mZ).1;exact ⟨cF,(bg.heap d au kn).trans mZ,bg.kH d au kn⟩
    · obtain ⟨U,⟨r',ad⟩,al⟩:=aI.round k9 pr
      have au:k9<w.heap.size:=(Array.getElem?_eq_some_iff.1 ad).1;refine ⟨?_,⟨r',(bg.heap k9 au al).trans ad⟩,bg.kH k9 au al⟩;rcases JS with ⟨rfl,-⟩|⟨tW,-⟩
      · exact U
      · rw [tW] at pr;cases pr
  have tD:∀ dH (r':Loop),dH l=none→aj=dH.set l (.loop r' env)→(r'.state == .busy)=false→∃ iK,(Instr.endLoop l).run P hG = .ok r'.pending iK ∧
      dw N B b.roundOf env dH { a with defers:=mark++a.defers } iK ji∧dc w p iK ji∧Kept s dH w p iK ji:=by
    intro dH r' az hz dI;have JW:aj l=some (.loop r' env):=by rw [hz];exact ao.gk _ _ _
    have eS:hG.heap[l]? = some (.loop r'):=(zD.obj _ _ JW).1;obtain ⟨ef,di,dL⟩:=Fg (r':={ r' with state := .exhausted }) zD JW rfl _ rfl;have sw:Kept aj aj hG ji { hG with heap:=hG.heap.setIfInBounds l (.loop { r' with state := .exhausted }) } ji:=by
      refine ⟨di.heap,fun x ab az=>az,di.k2⟩
    have Fp:dm { hG with heap:=hG.heap.setIfInBounds l (.loop { r' with state := .exhausted }) } ji dH:=by
      refine dL.sub ?_;rw [hz,ao.set_set];exact ao.vi _ _ _ az
    refine ⟨_,?_,vJ dH _ az hz _ ef sw Fp (fun x ab=>by
      show (hG.heap.setIfInBounds l _)[x]? = _
      rw [Array.getElem?_setIfInBounds,if_neg (fun e=>ab e.symm)])⟩
    unfold Instr.endLoop;simp only [Sem.run_bind,zC eS,Result.andThen_ok,dI,Bool.false_eq_true,if_false,Fh eS C,Sem.run_pure]
  cases e with
  | outgrown=>exact absurd C lu
  | returned v=>
    cases out with
    | panic x=>exact qa.elim
    | ret x=>
    have xC:Steps P (lone (b.atR a (.code (.rangeFunc g ps ha body)::k)) cs w) (lone (b.atR { a with defers:=mark++a.defers } (.endRangeFunc l::k)) cs hG):=by
      refine .head vL (Steps.trans sh (.one ?_));rw [← RK _ _ _ _ v];exact step_leave_returned y4
    rcases dV with ⟨dH,az,hz,bq⟩|⟨j,dH,az,hz,bq⟩
    · obtain ⟨iK,Cx,zE,bN,bg⟩:=tD dH r az hz (by rw [← aF];rfl)
      have aD:r.pending=none:=by rw [← aF]
      rw [aD] at Cx;exact ⟨.normal,_,iK,⟨.normal,env,dH,ji,.normal,bq,zE,bN,bg⟩,Steps.trans xC (.one (by simpa using JP (k:=k) Cx))⟩
    · obtain ⟨iK,Cx,zE,bN,bg⟩:=tD dH (qo r j) az hz rfl
      obtain ⟨e',c',lv,u3,fT⟩:=bq b B _ iK ji eU zE k cs;exact ⟨e',c',lv,kg.after bN bg u3,.of_steps (Steps.trans xC (.one (by simpa [qo] using JP (k:=k) Cx))) fT⟩
  | panicked dB=>
    cases out with
    | ret x=>exact qa.elim
    | panic x=>
    obtain ⟨v,kI,av⟩:=qa;obtain ⟨dH,o',az,hz,bq⟩:=dV;obtain ⟨zE,bN,bg⟩:=vJ dH o' az hz hG (.refl _ _) (.refl _ _ _) (zD.sub (by rw [hz];exact ao.vi _ _ _ az)) (fun _ _=>rfl);refine ⟨.panic dB,_,hG,⟨.panic x,env,dH,ji,.panic v x _ kI av,bq,zE,bN,bg⟩,.inRangeFunc l::k,.head vL (Steps.trans sh (.one ?_))⟩;rw [← Frame.raise_atR];exact step_leave_panicked y4
end
theorem lx.nil {w:World} {p:bR}:lx w p [] []:=⟨.nil,.nil⟩
theorem lx.length {w:World} {p:bR} {cN:List MapEntry} {es:List (af×af)} (h:lx w p cN es):cN.length=es.length:=by simpa using h.1.length
theorem lx.split {w:World} {p:bR}:∀ {a b:List MapEntry} {e:MapEntry} {es:List (af×af)},lx w p (a++e::b) es →
  ∃ l₁ k v l₂,es=l₁++(k,v)::l₂∧Rel w p e.key k∧Rel w p e.val v∧lx w p (a++b) (l₁++l₂):=by
 intro a
 induction a with
 | nil=>
  intro b e es h;cases es with
  | nil=>have:=h.length;simp at this
  | cons x es=>
   obtain ⟨k,v⟩:=x;obtain ⟨U,ad⟩:=h;simp only [List.nil_append,List.map_cons] at U ad;cases U with|cons _ _ _ _ cD t1=>cases ad with|cons _ _ _ _ dh t2=>
   exact ⟨[],k,v,es,rfl,cD,dh,t1,t2⟩
 | cons x a a1=>
  intro b e es h;cases es with
  | nil=>have:=h.length;simp at this
  | cons y es=>
   obtain ⟨Jr,v0⟩:=y;obtain ⟨U,ad⟩:=h;simp only [List.cons_append,List.map_cons] at U ad;cases U with|cons _ _ _ _ cD t1=>cases ad with|cons _ _ _ _ dh t2=>
   obtain ⟨l₁,k,v,l₂,rfl,cg,bY,eR,nF⟩:=a1 (b:=b) (e:=e) (es:=es) ⟨t1,t2⟩;exact ⟨(Jr,v0)::l₁,k,v,l₂,rfl,cg,bY,.cons _ _ _ _ cD eR,.cons _ _ _ _ dh nF⟩
section
variable {P:Program} {Γ:cw} {N:Nat} {env:Env} {s:ao}
end
inductive cR:List af→List af→Prop
 | nil:cR [] []
 | cons {x y:af} {xs ys:List af} (h:aS x y) (t:cR xs ys):cR (x::xs) (y::ys)
theorem cR.rel {w:World} {p:bR} {xs ys:List af} (h:cR xs ys):∀ {vs:List Value},bG w p vs xs→bG w p vs ys:=by
 induction h with
 | nil=>exact fun h=>h
 | cons h _ a1=>intro vs av;cases av with|cons _ _ _ _ U ad=>exact .cons _ _ _ _ (h _ _ _ U) (a1 ad)
theorem cR.refl:∀ xs:List af,cR xs xs
 | [] => .nil
 | _::xs => .cons (aS.refl _) (cR.refl xs)
theorem cR.length {xs ys:List af} (h:cR xs ys):xs.length=ys.length:=by
 induction h with
 | nil=>rfl
 | cons _ _ a1=>simp [a1]
theorem cR.append {a b c d:List af} (h:cR a b) (k:cR c d):cR (a++c) (b++d):=by
 induction h with
 | nil=>exact k
 | cons h _ a1=>exact .cons h a1
theorem aS.trans {x y z:af} (h:aS x y) (k:aS y z):aS x z:=fun w p v av=>k w p v (h w p v av)
theorem aS.agg {xs ys:List af} (h:cR xs ys):aS (.agg xs) (.agg ys):=fun w p v av=>by cases av with|agg cs _ aB=>exact .agg _ _ (h.rel aB)
theorem aS.cp {xs ys:List af} (h:cR xs ys):aS (.cp xs) (.cp ys):=fun w p v av=>by cases av with|cp cs _ aB=>exact .cp _ _ (h.rel aB)
theorem aS.iface {t:TypeId} {x y:af} (h:aS x y):aS (.iface t x) (.iface t y):=fun w p v av=>by cases av with|iface _ _ _ aB=>exact .iface _ _ _ (h _ _ _ aB)
theorem aS.bw {xs ys:List af} {o:Nat} (h:cR xs ys):aS (.bw xs o) (.bw ys o):=fun w p v av=>by
 cases av with|bw b base tJ off vs _ ah aC aF=>exact .bw b base tJ o vs ys ah aC (h.rel aF)
theorem aS.func {f:FuncId} {xs ys us vs:List af} (h:cR xs ys) (k:cR us vs):aS (.func f xs us) (.func f ys vs):=fun w p v av=>by
 cases av with|func _ as cs _ _ a7 aC=>exact .func _ _ _ _ _ (h.rel a7) (k.rel aC)
theorem aS.aA {sz:Nat} {xs ys:List af} {own:bL} (h:cR xs ys):aS (.aA sz xs own) (.aA sz ys .bb):=fun w p v av=>by
 cases av with
 | hR=>cases h;exact .hR _ _ a'
 | im a=>cases h;exact .im a _ _ (.inl C)
 | aA g off n cap _ vs _ _ az aB aC aF ar hm aE cv ah=>exact .aA g off n cap sz vs ys .bb a' (aB.trans h.length) aC (h.rel aF) ar hm aE a' a'
theorem aS.bb {sz:Nat} {xs:List af} {own:bL}:aS (.aA sz xs own) (.aA sz xs .bb):=aS.aA (cR.refl _)
theorem aS.nil {sz sz':Nat} {own:bL} (ah:∀ b,own ≠ .own b):aS (.aA sz [] .nil) (.aA sz' [] own):=fun w p v av=>by
 cases av with
 | hR=>exact .hR _ _ ah
 | im _ _ _ h=>rcases h with h|h<;>cases h
 | aA g off n cap _ vs _ _ az=>exact absurd C az
theorem aS.empty {sz sz':Nat} {own:bL}:aS (.aA sz [] own) (.aA sz' [] .bb):=fun w p v av=>by
 cases av with
 | hR=>exact .hR _ _ a'
 | im a=>exact .im a _ _ (.inl C)
 | aA g off n cap _ vs _ _ az aB aC aF ar hm aE cv ah=>
  have:vs=[]:=List.eq_nil_of_length_eq_zero (by rw [aF.length];rfl);subst this;exact .aA g off n cap sz' [] [] .bb a' aB aC .nil a' hm aE a' a'
theorem aS.any (x:af):aS x .any:=fun _ _ v _ => .any v
section
variable {P:Program} {Γ:cw} {N:Nat} {ops:Array Oper} {Q:b8→Env→ao→Prop} {env:Env} {s:ao} {l:List Oper} {o:Oper} {d:Nat}
theorem aa.nK {l:List Oper} (t:Nat) {v:af} (fu:af) (av:env.get? t=some v) (he:aS v fu) (h:aa P N ops l Q ((t,fu)::env) s):aa P N ops l Q env s:=by
 intro k aE ro B a w p aI
 exact h k aE ro B a w p ⟨aI.size,fun u x ab=>by
  simp only [Env.get?] at ab
  split at ab
  ·rename_i aq;have:=eq_of_beq_eq_true aq;subst this;cases ab;exact he _ _ _ (aI.env _ _ av)
  ·exact aI.env u x ab,aI.wf,aI.defs,aI.round,aI.base⟩
theorem ae.nK {c:Code} (t:Nat) {v:af} (fu:af) (av:env.get? t=some v) (he:aS v fu) (h:ae P N c Q ((t,fu)::env) s):ae P N c Q env s:=by
 intro b B a w p eU aI
 exact h b B a w p eU ⟨aI.size,fun u x ab=>by
  simp only [Env.get?] at ab
  split at ab
  ·rename_i aq;have:=eq_of_beq_eq_true aq;subst this;cases ab;exact he _ _ _ (aI.env _ _ av)
  ·exact aI.env u x ab,aI.wf,aI.defs,aI.round,aI.base⟩
theorem aa.alloc (aP:bQ P Γ) {t:TypeId} {i:bM} {z:af} {cs:List af} (aw:guardOf ops env o=some true) (ax:o.dst=some d) (aU:Nat.blt d N=true) (ah:o.op = .alloc t) (aM:Γ.get? t=some i)
  (bO:hx i.zero=some z) (aC:cellsOf z=some cs) (h:∀ b,s b=none→aa P N ops l Q ((d,.ptr b 0)::env) (s.set b (.box t cs))):aa P N ops (o::l) Q env s:=
 aa.op aw ax aU (aZ.alloc aP ah aM bO aC (X:=fun _ _=>False)) (fun x aj ⟨b,U,ad,al⟩=>by subst ad;subst al;exact h b U) (fun _ _ h=>h.elim)
theorem aa.tM (aP:bQ P Γ) {t T:TypeId} {x:Operand} {i:bM} {b off:Nat} {cs:List af} {v:af} (aw:guardOf ops env o=some true) (ax:o.dst=some d) (aU:Nat.blt d N=true) (ah:o.op = .load t x)
  (aM:Γ.get? t=some i) (ab:aJ env x=some (.ptr b off)) (ar:s b=some (.box T cs)) (av:hI i cs off=some v) (h:aa P N ops l Q ((d,v)::env) s):aa P N ops (o::l) Q env s:=
 aa.op aw ax aU (aZ.tM aP ah aM ab ar av (X:=fun _ _=>False)) (fun x aj ⟨U,ad⟩=>by subst U;subst ad;exact h) (fun _ _ h=>h.elim)
theorem aa.B5 (aP:bQ P Γ) {t T:TypeId} {x y:Operand} {i:bM} {b off:Nat} {cs us:List af} {v:af} (aw:guardOf ops env o=some true) (ax:o.dst=none) (ah:o.op = .store t x y)
  (aM:Γ.get? t=some i) (ab:aJ env x=some (.ptr b off)) (ay:aJ env y=some v) (av:cellsOf v=some us) (hu:Nat.beq us.length i.size=true) (U:us.all e7=true) (ar:s b=some (.box T cs))
  (fy:Nat.ble (off+us.length) cs.length=true) (h:aa P N ops l Q env (s.set b (.box T (eQ off us cs)))):aa P N ops (o::l) Q env s:=
 aa.u' aw ax (aZ.B5 aP ah aM ab ay av hu U ar fy (X:=fun _ _=>False)) (fun x aj U=>by subst U;exact h) (fun _ _ h=>h.elim)
theorem aa.lookup (aP:bQ P Γ) {t dQ eV:TypeId} {x y:Operand} {ok:Bool} {it gG aG:bM} {m:Nat} {es:List (af×af)} {k z:af} {r:Option af} (aw:guardOf ops env o=some true) (ax:o.dst=some d) (aU:Nat.blt d N=true)
  (ah:o.op = .lookup t x y ok) (aM:Γ.get? t=some it) (br:it.bF = .map dQ eV) (jk:Γ.get? dQ=some gG) (bI:Γ.get? eV=some aG) (ab:aJ env x=some (.map m)) (ay:aJ env y=some k) (ar:s m=some (.map es))
  (a6:j3 gG.bF k=true) (aF:iV es k=some r) (bO:hx aG.zero=some z) (h:aa P N ops l Q ((d,lB ok z r)::env) s):aa P N ops (o::l) Q env s:=
 aa.op aw ax aU (aZ.lookup aP ah aM br jk bI ab ay (.inl ⟨m,rfl,ar⟩) a6 aF bO (X:=fun _ _=>False)) (fun x aj ⟨U,ad⟩=>by subst U;subst ad;exact h) (fun _ _ h=>h.elim)
theorem aa.mapUpdate (aP:bQ P Γ) {t dQ eV:TypeId} {x y z:Operand} {it gG:bM} {b:Nat} {es du:List (af×af)} {k v:af} (aw:guardOf ops env o=some true) (ax:o.dst=none)
  (ah:o.op = .mapUpdate t x y z∨o.op = .insert t x y z) (aM:Γ.get? t=some it) (br:it.bF = .map dQ eV) (jk:Γ.get? dQ=some gG) (ab:aJ env x=some (.map b)) (ay:aJ env y=some k) (bO:aJ env z=some v)
  (ar:s b=some (.map es)) (a6:j3 gG.bF k=true) (aD:lA es k v=some du) (h:aa P N ops l Q env (s.set b (.map du))):aa P N ops (o::l) Q env s:=
 aa.u' aw ax (aZ.mapUpdate aP ah aM br jk ab ay bO ar a6 aD (X:=fun _ _=>False)) (fun x aj U=>by subst U;exact h) (fun _ _ h=>h.elim)
theorem aa.makeMap {t:TypeId} (aw:guardOf ops env o=some true) (ax:o.dst=some d) (aU:Nat.blt d N=true) (ah:o.op = .makeMap t none)
  (h:∀ b,s b=none→aa P N ops l Q ((d,.map b)::env) (s.set b (.map []))):aa P N ops (o::l) Q env s:=
 aa.op aw ax aU (aZ.makeMap ah (X:=fun _ _=>False)) (fun x aj ⟨b,U,ad,al⟩=>by subst ad;subst al;exact h b U) (fun _ _ h=>h.elim)
theorem aa.invoke {g:Operand} {name:String} {as:Array Operand} {c6:Array TypeId} {t:TypeId} {v:af} {f:FuncId} {xs:List af} {R:ey→ao→Prop} (aw:guardOf ops env o=some true) (ax:o.dst=some d) (aU:Nat.blt d N=true)
  (ah:o.op = .call { callee := .invoke g name,args:=as,argTypes:=c6 }) (av:aJ env g=some (.iface t v)) (a7:fM env as.toList=some xs) (hm:pj P t name f) (h:hd P f (v::xs) s R)
  (aE:∀ x aj,R (.ret x) aj→aa P N ops l Q ((d,x)::env) aj) (ab:∀ x aj,R (.panic x) aj→Q (.panic x) env aj):aa P N ops (o::l) Q env s:=
 aa.op aw ax aU (aZ.invoke ah av a7 hm h) aE ab
theorem aa.panic {x:Operand} {t:TypeId} {v:af} (aw:guardOf ops env o=some true) (ax:o.dst=none) (ah:o.op = .panic x) (ab:aJ env x=some (.iface t v)) (h:Q (.panic (.iface t v)) env s) :
  aa P N ops (o::l) Q env s:=
 aa.u' aw ax (aZ.panic ah ab (K:=fun _ _=>False)) (fun x aj h=>h.elim) (fun x aj ⟨U,ad⟩=>by subst U;subst ad;exact h)
end
section
variable {P:Program} {Γ:cw} {N:Nat} {l:List Oper} {Q:b8→Env→ao→Prop} {env:Env} {s:ao} {m:Nat}
theorem bm.pure {J:ao→Prop} (cy:J s) (i:Nat) {o:Oper} {d:Nat} {v:af} (aF:ix l.toArray m i=true) (ah:l.toArray[i]? = some o) (ax:o.dst=some d) (aU:Nat.blt d N=true)
  (aw:c7 l env o) (av:lD Γ o (bZ l env o) v) (h:bm J P Γ N l.toArray Q (bV (m|||2^i)) ((d,v)::env) s) :
  bm J P Γ N l.toArray Q (bV m) env s:=
 bm.still cy i o d v (sJ.1 aF) ah ax Cn (.inl ⟨aw,av⟩) (by rw [oC];exact h)
theorem bc.pure (i:Nat) {o:Oper} {d:Nat} {v:af} (aF:ix l.toArray m i=true) (ah:l.toArray[i]? = some o) (ax:o.dst=some d) (aU:Nat.blt d N=true)
  (aw:c7 l env o) (av:lD Γ o (bZ l env o) v) (h:bc P Γ N l.toArray Q (bV (m|||2^i)) ((d,v)::env) s) :
  bc P Γ N l.toArray Q (bV m) env s:=bm.pure trivial i aF ah ax aU aw av h
theorem bm.idx {J:ao→Prop} (cy:J s) (i:Nat) {o:Oper} {d:Nat} {t e:TypeId} {x y:Operand} {it aG:bM} {sz:Nat} {xs:List af} {own:bL} {k:IntKind} {n:Int} {v:af} {cs:List af} (j:Nat) (aF:ix l.toArray m i=true) (ah:l.toArray[i]? = some o)
  (ax:o.dst=some d) (aU:Nat.blt d N=true) (aw:c7 l env o) (b2:o.op = .indexAddr t x y) (aM:Γ.get? t=some it) (br:it.bF = .aA e) (bI:Γ.get? e=some aG)
  (ab:aJ (bZ l env o) x=some (.aA sz xs own)) (b':sz=aG.size) (ay:aJ (bZ l env o) y=some (.int k n)) (eK:n=(j:Int)) (aK:xs[j]? = some v) (aC:cellsOf v=some cs)
  (h:bm J P Γ N l.toArray Q (bV (m|||2^i)) ((d,.bw cs 0)::env) s):bm J P Γ N l.toArray Q (bV m) env s:=
 bm.pure cy i aF ah ax aU aw (.idx j b2 aM br bI ab b' ay eK aK aC) h
theorem bc.idx (i:Nat) {o:Oper} {d:Nat} {t e:TypeId} {x y:Operand} {it aG:bM} {sz:Nat} {xs:List af} {own:bL} {k:IntKind} {n:Int} {v:af} {cs:List af} (j:Nat) (aF:ix l.toArray m i=true) (ah:l.toArray[i]? = some o)
  (ax:o.dst=some d) (aU:Nat.blt d N=true) (aw:c7 l env o) (b2:o.op = .indexAddr t x y) (aM:Γ.get? t=some it) (br:it.bF = .aA e) (bI:Γ.get? e=some aG)
  (ab:aJ (bZ l env o) x=some (.aA sz xs own)) (b':sz=aG.size) (ay:aJ (bZ l env o) y=some (.int k n)) (eK:n=(j:Int)) (aK:xs[j]? = some v) (aC:cellsOf v=some cs)
  (h:bc P Γ N l.toArray Q (bV (m|||2^i)) ((d,.bw cs 0)::env) s):bc P Γ N l.toArray Q (bV m) env s:=
 bc.pure i aF ah ax aU aw (.idx j b2 aM br bI ab b' ay eK aK aC) h
theorem bc.slice (i:Nat) {o:Oper} {d:Nat} {t e:TypeId} {x:Operand} {gC aQ jm:Option Operand} {it aG:bM} {sz:Nat} {xs:List af} {own cQ:bL} (a b:Nat) (aF:ix l.toArray m i=true) (ah:l.toArray[i]? = some o)
  (ax:o.dst=some d) (aU:Nat.blt d N=true) (aw:c7 l env o) (b2:o.op = .slice t x gC aQ jm)
  (aM:Γ.get? t=some it) (br:it.bF = .aA e) (bI:Γ.get? e=some aG) (ab:aJ (bZ l env o) x=some (.aA sz xs own)) (b':xs=[]∨sz=aG.size)
  (iM:(gC=none∧a=0)∨∃ y k,gC=some y∧aJ (bZ l env o) y=some (.int k (a:Int))) (qe:(aQ=none∧jm=none∧b=xs.length)∨∃ y k,aQ=some y∧aJ (bZ l env o) y=some (.int k (b:Int)))
  (m':(jm=none∧cQ = .bb)∨(∃ y k,jm=some y∧aJ (bZ l env o) y=some (.int k (b:Int))∧cQ = .clip)) (aB:a≤b) (cX:b≤xs.length)
  (h:bc P Γ N l.toArray Q (bV (m|||2^i)) ((d,.aA sz ((xs.take b).drop a) cQ)::env) s):bc P Γ N l.toArray Q (bV m) env s:=
 bc.pure i aF ah ax aU aw (.slice a b b2 aM br bI ab b' iM qe m' aB cX) h
theorem bc.call {i:Nat} {o:Oper} {d:Nat} {f:FuncId} {as:Array Operand} {c6:Array TypeId} {xs:List af} {R:ey→ao→Prop} (aF:eE l.toArray m (idxs 0 l)=[i]) (ah:l.toArray[i]? = some o) (ax:o.dst=some d) (aU:Nat.blt d N=true)
  (aw:c7 l env o) (b2:o.op = .call { callee := .value (.func f),args:=as,argTypes:=c6 }) (a7:fM (bZ l env o) as.toList=some xs) (h:hd P f xs s R)
  (aE:∀ x aj,R (.ret x) aj→bc P Γ N l.toArray Q (bV (m|||2^i)) ((d,x)::env) aj) (ab:∀ x aj,R (.panic x) aj→Q (.panic x) [] aj):bc P Γ N l.toArray Q (bV m) env s:=
 bc.one aF ah ax aU aw (aZ.call b2 (fv := .func f [] []) C a7 (hL.fk fD)) aE ab
theorem bc.Jz {i:Nat} {o:Oper} {d:Nat} {f:FuncId} {as:Array Operand} {c6:Array TypeId} {xs:List af} {v:af} (aF:eE l.toArray m (idxs 0 l)=[i]) (ah:l.toArray[i]? = some o) (ax:o.dst=some d) (aU:Nat.blt d N=true)
  (aw:c7 l env o) (b2:o.op = .call { callee := .value (.func f),args:=as,argTypes:=c6 }) (a7:fM (bZ l env o) as.toList=some xs)
  (h:hd P f xs s (fun out aj=>out = .ret v∧aj=s)) (aE:bc P Γ N l.toArray Q (bV (m|||2^i)) ((d,v)::env) s):bc P Γ N l.toArray Q (bV m) env s:=
 bc.call aF ah ax aU aw b2 a7 h (fun x aj ⟨U,ad⟩=>by cases U;subst ad;exact aE) (fun x aj ⟨U,_⟩=>by cases U)
end
section
variable {P:Program} {Γ:cw} {N:Nat} {l:List Oper} {Q:b8→Env→ao→Prop} {env:Env} {s:ao} {m:Nat}
theorem bc.E8 {i:Nat} {o:Oper} {d:Nat} {g:Operand} {fv:af} {as:Array Operand} {c6:Array TypeId} {xs:List af} {R:ey→ao→Prop} (aF:eE l.toArray m (idxs 0 l)=[i]) (ah:l.toArray[i]? = some o) (ax:o.dst=some d)
  (aU:Nat.blt d N=true) (aw:c7 l env o) (b2:o.op = .call { callee := .value g,args:=as,argTypes:=c6 }) (av:aJ (bZ l env o) g=some fv)
  (a7:fM (bZ l env o) as.toList=some xs) (h:hL P fv xs s R)
  (aE:∀ x aj,R (.ret x) aj→bc P Γ N l.toArray Q (bV (m|||2^i)) ((d,x)::env) aj) (ab:∀ x aj,R (.panic x) aj→Q (.panic x) [] aj):bc P Γ N l.toArray Q (bV m) env s:=
 bc.one aF ah ax aU aw (aZ.call b2 av a7 h) aE ab
theorem bc.two {i j:Nat} {o u:Oper} {d c:Nat} {K X aO m0:af→ao→Prop} (aF:eE l.toArray m (idxs 0 l)=[i,j]) (ah:l.toArray[i]? = some o) (hu:l.toArray[j]? = some u) (ax:o.dst=some d) (aC:u.dst=some c)
  (aU:Nat.blt d N=true) (pq:Nat.blt c N=true) (cP:Nat.beq i j=false)
  (aw:c7 l env o) (nL:guardOf l.toArray (iw env (looks l.toArray u)) u=some true)
  (h:aZ P N o (bZ l env o) s K X) (eT:aZ P N u (iw env (looks l.toArray u)) s aO m0)
  (aE:∀ x aj,K x aj→bc P Γ N l.toArray Q (bV (m|||2^i)) ((d,x)::env) aj) (eC:∀ x aj,aO x aj→bc P Γ N l.toArray Q (bV (m|||2^j)) ((c,x)::env) aj)
  (ab:∀ x aj,X x aj→Q (.panic x) [] aj) (bJ:∀ x aj,m0 x aj→Q (.panic x) [] aj):bc P Γ N l.toArray Q (bV m) env s:=by
 have Fq:i≠j:=fun e=>by subst e;rw [Nat.beq_refl] at cP;cases cP
 have fl:∀ k,hf l.toArray (bV m) k→k=i∨k=j:=fun k aE=>by
  have:=zA aE (l:=idxs 0 l) (by rw [xF,List.mem_range'_1];have:=aE.1;simp at this;omega);rw [aF] at this;simpa using this
 have au:i<l.toArray.size:=(Array.getElem?_eq_some_iff.1 ah).1;have oD:bV m i=false:=by
  cases aq:bV m i with
  | false=>rfl
  | true=>
   have fW:i∈eE l.toArray m (idxs 0 l):=by rw [aF];exact List.mem_cons_self ..
   have:∀ is,i∈eE l.toArray m is→ix l.toArray m i=true:=by
    intro is
    induction is with
    | nil=>intro h;cases h
    | cons j is a1=>
     intro h;simp only [eE] at h;split at h
     ·rename_i aq
      rcases mem_cons.1 h with rfl|h
      ·exact aq
      ·exact a1 h
     ·exact a1 h
   have:=(sJ.1 (this _ fW)).2.1;rw [aq] at this;cases this
 refine bm.split (fun k=>if k=i then K else aO) (fun k=>if k=i then X else m0) ⟨i,au,oD⟩ (fun k o' kk cC=>?_) (fun _ _ _ _ _ _ _ => .inl trivial) (fun k o' c3 kk cC cl x aj bg=>?_) (fun k o' kk cC cl x aj bg=>?_) (fun k o' kk cC x aj iq=>?_)
 ·rcases fl k kk with rfl|rfl
  ·rw [ah] at cC;cases cC
   simp only [if_true];exact ⟨aw,h,fun c3 cl=>by rw [ax] at cl;cases cl;simpa [blt_eq] using aU⟩
  ·rw [hu] at cC;cases cC
   simp only [if_neg (Ne.symm Fq)];exact ⟨nL,eT,fun c3 cl=>by rw [aC] at cl;cases cl;simpa [blt_eq] using pq⟩
 ·rcases fl k kk with rfl|rfl
  ·rw [ah] at cC;cases cC
   rw [ax] at cl;cases cl;simp only [if_true] at bg;rw [oC];exact aE x aj bg
  ·rw [hu] at cC;cases cC
   rw [aC] at cl;cases cl;simp only [if_neg (Ne.symm Fq)] at bg;rw [oC];exact eC x aj bg
 ·rcases fl k kk with rfl|rfl
  ·rw [ah] at cC;cases cC
   rw [ax] at cl;cases cl
  ·rw [hu] at cC;cases cC
   rw [aC] at cl;cases cl
 ·rcases fl k kk with rfl|rfl
  ·simp only [if_true] at iq;exact ab x aj iq
  ·simp only [if_neg (Ne.symm Fq)] at iq;exact bJ x aj iq
end
theorem R1 {P:Program} {ops:Array Oper} {Q:gU→Act→World→Prop} (l₂:List Nat):∀ (l₁:List Nat) (a:Act) (w:World),
  iU P ops (gU.andThen (iU P ops Q l₂) Q) l₁ a w→iU P ops Q (l₁++l₂) a w:=by
 intro l₁
 induction l₁ with
 | nil=>intro a w h;exact h
 | cons i r a1=>
  intro a w h;simp only [List.cons_append,iU] at h ⊢;split at h
  ·exact a1 _ _ h
  ·rename_i o ah
   split at h
   ·rename_i hw
    rw [if_pos hw];refine ⟨h.1,h.2.mono ?_⟩;intro e w' he;cases e with
    | returned v=>exact a1 _ _ he
    | panicked dB=>exact he
    | outgrown=>exact he
   ·rename_i hw
    rw [if_neg hw];exact a1 _ _ h
section
variable {P:Program} {Γ:cw} {N:Nat} {ops:Array Oper} {Q:b8→Env→ao→Prop} {env:Env} {s:ao} {l:List Oper} {o:Oper} {d:Nat}
theorem aa.cut (n:Nat) (JX:Env) (vM:aa P N ops (l.take n) (fun x e aj=>x = .normal∧Env.Sub JX e∧aj=s) env s) (vN:aa P N ops (l.drop n) Q JX s):aa P N ops l Q env s:=by
 intro k aE ro B a w p aI;have hlen:l.length=(l.take n).length+(l.drop n).length:=by rw [← List.length_append,List.take_append_drop]
 rw [hlen,← List.range'_append_1];refine R1 _ _ _ _ (u9 ?_ _ _ _ (vM k (fun j x aK=>aE j x ?_) ro B a w p aI))
 ·rintro e c' w' ⟨x,eP,aj,bj,ab,⟨rfl,eJ,rfl⟩,hJ,hle,ly⟩
  cases ab;refine fE.after hle ly ?_ (hJ.sub eJ);refine vN _ (fun j x aK=>?_);rw [List.getElem?_drop] at aK;have au:=(List.getElem?_eq_some_iff.1 aK).1;rw [List.length_take,Nat.min_eq_left ag,Nat.add_assoc];exact aE _ x aK
 ·rw [List.getElem?_take] at aK
  split at aK
  ·exact aK
  ·cases aK
def JY (ops:Array Oper) (o:Oper):Option Nat:=match o.guard with
  | some (j,_)=>match ops[j]? with
    | some u=>u.dst
    | none=>none
  | none=>none
theorem aa.same (b:Bool) (aw:guardOf ops env o=some b) (h:aa P N ops (o::l) Q env s):aa P N ops (o::l) Q env s:=h
theorem aa.gV {t:Nat} {b:Bool} (ar:JY ops o=some t) (av:env.get? t=some (.bool b)) (ez:b=true→aa P N ops (o::l) Q ((t,.bool true)::env) s)
  (lF:b=false→aa P N ops (o::l) Q ((t,.bool false)::env) s):aa P N ops (o::l) Q env s:=by
 cases b with
 | true=>exact aa.Cl t av C (ez C)
 | false=>exact aa.Cl t av C (lF C)
end
def JZ (P:Program) (t:TypeId) (name:String) (f:FuncId):Bool:=
  match P.info? t,P.underlying t with
  | some i,some d=>(match i.methods.find? (·.name==name) with
    | some m=>m.path.isEmpty&&(match m.func with|some (mD,b)=>Nat.beq mD f && !b|none=>false)
    | none=>false)&&(match d with | .pointer _=>false|_=>true)&&Nat.blt 0 (P.types.size+Made.depth)
  | _,_=>false
theorem Cy {P:Program} {t:TypeId} {name:String} {f:FuncId} (h:JZ P t name f=true):pj P t name f:=by
 unfold JZ at h;split at h
 ·rename_i i d aQ ax
  simp only [Bool.and_eq_true] at h;obtain ⟨⟨U,ad⟩,al⟩:=h;split at U
  ·rename_i m hm
   simp only [Bool.and_eq_true] at U;obtain ⟨bd,bD⟩:=U;split at bD
   ·rename_i mD b a6
    simp only [Bool.and_eq_true] at bD;have cg:=eq_of_beq_eq_true bD.1;have bY:b=false:=by simpa using bD.2
    subst cg;subst bY;refine QU aQ hm (by simpa [Array.isEmpty] using bd) a6 ax (fun e he=>by subst he;cases ad) ?_;have:0<P.types.size+Made.depth:=by simpa [blt_eq] using al
    exact ⟨P.types.size+Made.depth-1,by omega⟩
   ·cases bD
  ·cases U
 ·cases h
def rowOf (s:ao) (e:TypeId) (sz n:Nat):bL→ao
 | .own b=>s.set b (.row e sz n)
 | _=>s
def qp (s:ao) (n:Nat):bL→Prop
 | .own b=>s b=none
 | .nil=>True
 | .clip=>True
 | .bb=>False
section
variable {P:Program} {Γ:cw} {N:Nat} {env:Env} {s:ao}
theorem aZ.R2 {o:Oper} {K X aO m0:af→ao→Prop} (h:aZ P N o env s K X) (bg:∀ x aj,K x aj→∃ eG,ao.Sub eG aj∧aO x eG) (iq:∀ x aj,X x aj→∃ eG,ao.Sub eG aj∧m0 x eG):aZ P N o env s aO m0:=by
 refine ⟨h.1,fun ro B a w p aI=>(h.2 ro B a w p aI).mono ?_⟩;rintro e w' ⟨aj,bj,U,ad,al,bd⟩;cases e with
 | returned v=>
  obtain ⟨x,aE,aF⟩:=bd;obtain ⟨eG,ar,eC⟩:=bg x aj aE;exact ⟨eG,bj,U,ad.sub ar,al.sub ar,x,eC,aF⟩
 | panicked dB=>
  obtain ⟨v,x,kI,aE,aF⟩:=bd;obtain ⟨eG,ar,eC⟩:=iq x aj aE;exact ⟨eG,bj,U,ad.sub ar,al.sub ar,v,x,kI,eC,aF⟩
 | outgrown=>exact bd.elim
theorem aZ.Fs (aP:bQ P Γ) {o:Oper} {t bH e:TypeId} {x y:Operand} {it ct aG:bM} {dR bU n:Nat} {xs ys:List af} {own dj:bL}
  (ah:o.op = .call { callee := .builtin .append,args := #[x,y],argTypes := #[t,bH] }) (aM:Γ.get? t=some it) (br:it.bF = .aA e) (cV:Γ.get? bH=some ct) (dn:∀ k,ct.bF ≠ .int k)
  (bI:Γ.get? e=some aG) (ab:aJ env x=some (.aA dR xs own)) (ay:aJ env y=some (.aA bU ys dj)) (hT:dR=aG.size) (c8:ys=[]∨bU=aG.size)
  (dO:Nat.beq aG.zero.cells.size aG.size=true) (dJ:∀ y∈ys,j5 aG.size y=true) (aq:(xs.length+ys.length)*aG.bytes≤140737488355328) (ei:xs.length+ys.length≤9223372036854775807)
  (az:n=xs.length) (I:qp s n own) {X:af→ao→Prop} :
  aZ P N o env (rowOf s e aG.size n own) (fun r aj=>∃ cQ,qp s (xs.length+ys.length) cQ∧(ys≠[]→∃ b,cQ = .own b)∧(∀ b,own = .own b→∃ aW,cQ = .own aW)∧r = .aA aG.size (xs++ys) cQ∧aj=rowOf s e aG.size (xs.length+ys.length) cQ) X:=by
 subst az;have jn:∀ b,own = .own b→rowOf s e aG.size xs.length own b=some (.row e aG.size xs.length):=fun b h=>by subst h;exact ao.gk _ _ _
 have pv:(own = .nil∨own = .clip)∨∃ b,own = .own b∧dR=aG.size∧rowOf s e aG.size xs.length own b=some (.row e aG.size xs.length):=by
  cases own with
  | nil=>exact .inl (.inl C)
  | clip=>exact .inl (.inr C)
  | bb=>exact I.elim
  | own b=>exact .inr ⟨b,rfl,hT,jn b C⟩
 have h:=aZ.append (P:=P) (N:=N) (X:=X) aP ah aM br cV dn bI ab ay (.inr hT) c8 dO dJ aq ei pv;refine h.R2 ?_ (fun _ aj h=>⟨aj,ao.ou _,h⟩);rintro r aj (⟨rfl,aC,rfl,rfl⟩|⟨s₁,vr,b,U,rfl,rfl⟩)
 ·refine ⟨_,ao.ou _,own,?_,fun h=>absurd C h,fun b h=>⟨b,h⟩,by rw [List.append_nil],?_⟩
  ·rcases aC with rfl|rfl<;>trivial
  ·rcases aC with rfl|rfl<;>rfl
 ·rcases vr with rfl|⟨aW,rfl,rfl⟩
  ·cases own with
   | nil=>exact ⟨_,ao.ou _,.own b,U,fun _=>⟨b,rfl⟩,fun _ h=>nA,rfl,rfl⟩
   | clip=>exact ⟨_,ao.ou _,.own b,U,fun _=>⟨b,rfl⟩,fun _ h=>nA,rfl,rfl⟩
   | bb=>exact I.elim
   | own aW=>
    obtain ⟨ef,di⟩:=ao.tL U;refine ⟨s.set b (.row e aG.size (xs.length+ys.length)),fun x=>?_,.own b,di,fun _=>⟨b,rfl⟩,fun _ _=>⟨b,rfl⟩,rfl,rfl⟩;by_cases cg:x=b
    ·subst cg;left;rw [ao.gk,ao.gk]
    ·by_cases bY:x=aW
     ·subst bY;right;rw [ao.fx _ _ cg];exact I
     ·left;rw [ao.fx _ _ cg,ao.fx _ _ cg];exact (ao.fx _ _ bY).symm
  ·have ax:(rowOf s e aG.size xs.length (.own aW)).del aW=s:=ao.zh _ _ _ I
   rw [ax] at U ⊢;exact ⟨_,ao.ou _,.own b,U,fun _=>⟨b,rfl⟩,fun _ _=>⟨b,rfl⟩,rfl,rfl⟩
end
section
variable {P:Program} {Γ:cw} {N:Nat} {ops:Array Oper} {Q:b8→Env→ao→Prop} {env:Env} {s:ao} {l:List Oper} {o:Oper} {d:Nat}
end
section
variable {Q:b8→Env→ao→Prop} {next:Env→ao→Prop} {env:Env} {s:ao}
theorem lG {id:Nat} (h:Q (.exit id) env s):b8.andThen next Q (.exit id) env s:=h
theorem fF (h:Q .ret env s):b8.andThen next Q .ret env s:=h
theorem fz {id:Nat} (h:Q .normal env s):b8.inBlock id Q .normal env s:=h
theorem hg {id:Nat} (h:Q .ret env s):b8.inBlock id Q .ret env s:=h
theorem lH {id:Nat} (h:Q .normal env s):b8.inBlock id Q (.exit id) env s:=by
 show (if Nat.beq id id then Q .normal env s else Q (.exit id) env s);rw [Nat.beq_refl];exact h
theorem ng {id kF:Nat} (az:Nat.beq kF id=false) (h:Q (.exit kF) env s):b8.inBlock id Q (.exit kF) env s:=by
 show (if Nat.beq kF id then Q .normal env s else Q (.exit kF) env s);rw [az];exact h
end
theorem aS.of_eq {x y:af} (h:x=y):aS x y:=h ▸ aS.refl x
theorem ek {n:Int} (bt : -9223372036854775808≤n) (U:n≤9223372036854775807):IntKind.wrap .i64 n=n:=by
 unfold IntKind.wrap IntKind.bits IntKind.signed;simp;omega
theorem jD {n:Nat} (h:n<9223372036854775807):IntKind.wrap .i64 ((n:Int)+1)=((n+1:Nat):Int):=by
 rw [ek ag ag];omega
def kp (l:List (List UInt8)):List (af×af):=l.map fun x=>(.str x,.bool true)
section
variable {P:Program} {Γ:cw} {N:Nat} {ops:Array Oper} {Q:b8→Env→ao→Prop} {env:Env} {s:ao} {l:List Oper} {o:Oper} {d:Nat}
theorem aa.congr (e:Env) (he:∀ t,e.get? t=env.get? t) (h:aa P N ops l Q e s):aa P N ops l Q env s:=
 fun k aE ro B a w p aI=>h k aE ro B a w p ⟨aI.size,fun t v av=>aI.env t v ((he t).symm.trans av),aI.wf,aI.defs,aI.round,aI.base⟩
theorem ae.congr {c:Code} (e:Env) (he:∀ t,e.get? t=env.get? t) (h:ae P N c Q e s):ae P N c Q env s:=
 fun b B a w p eU aI=>h b B a w p eU ⟨aI.size,fun t v av=>aI.env t v ((he t).symm.trans av),aI.wf,aI.defs,aI.round,aI.base⟩
theorem R3 (e:Env) (d:Nat) (x y:af):∀ t,Env.get? ((d,x)::e) t=Env.get? ((d,x)::(d,y)::e) t:=by
 intro t;simp only [Env.get?];split<;>rfl
theorem R4 (e:Env) {c d:Nat} (x y:af) (h:Nat.beq c d=false):∀ t,Env.get? ((d,y)::(c,x)::e) t=Env.get? ((c,x)::(d,y)::e) t:=by
 intro t;simp only [Env.get?];cases U:Nat.beq d t<;>cases ad:Nat.beq c t<;>simp
 have:=eq_of_beq_eq_true U;have:=eq_of_beq_eq_true ad;subst_vars;rw [Nat.beq_refl] at h;cases h
theorem aa.Cz (aP:bQ P Γ) {o':Oper} {t:TypeId} {i:bM} {z v:af} {aY us:List af} {y:Operand} (aw:guardOf ops env o=some true) (ax:o.dst=some d) (aU:Nat.blt d N=true) (ah:o.op = .alloc t) (aM:Γ.get? t=some i)
  (bO:hx i.zero=some z) (aC:cellsOf z=some aY) (nL:∀ b,guardOf ops ((d,.ptr b 0)::env) o'=some true) (cl:o'.dst=none) (cC:o'.op = .store t (.tmp d) y)
  (ay:∀ b,aJ ((d,.ptr b 0)::env) y=some v) (av:cellsOf v=some us) (hu:Nat.beq us.length i.size=true) (U:us.all e7=true) (fy:Nat.beq us.length aY.length=true)
  (h:aa P N ops l Q ((d,.bw us 0)::env) s):aa P N ops (o::o'::l) Q env s:=by
 refine aa.alloc aP aw ax aU ah aM bO aC (fun b aq=>?_);have aB:=eq_of_beq_eq_true fy;have R5:aJ ((d,.ptr b 0)::env) (.tmp d)=some (.ptr b 0):=by simp [aJ,Env.get?]
 refine aa.B5 aP (nL b) cl cC aM R5 (ay b) av hu U (ao.gk _ _ _) (Nat.ble_eq_true_of_le ag) ?_;rw [ao.set_set];refine aa.freeze d b (by simp [Env.get?]) (ao.gk _ _ _) ?_;rw [ao.zh _ _ _ aq];have he:eQ 0 us aY=us:=by rw [Ji _ _ _ ag];simp [List.drop_eq_nil_of_le,aB]
 rw [he];exact aa.congr _ (R3 _ _ _ _) h
end
section
variable {P:Program} {Γ:cw} {N:Nat} {l:List Oper} {Q:b8→Env→ao→Prop} {env:Env} {s:ao} {m:Nat}
theorem bc.R6 {σ:Type} (f:σ→af) (g:σ→ao) (acg:σ→Prop) {Ft:σ→Prop} (aP:bQ P Γ) {i j:Nat} {o u:Oper} {d c:Nat} {t T:TypeId} {x:Operand} {dX:bM} {b off:Nat} {cs:List af} {v:af} {aO m0:af→ao→Prop}
  (aF:eE l.toArray m (idxs 0 l)=[i,j]) (R7:eE l.toArray (m|||2^i) (idxs 0 l)=[j])
  (ah:l.toArray[i]? = some o) (hu:l.toArray[j]? = some u) (ax:o.dst=some d) (aC:u.dst=some c) (aU:Nat.blt d N=true) (pq:Nat.blt c N=true) (cP:Nat.beq i j=false)
  (b2:o.op = .load t x) (aM:Γ.get? t=some dX) (ab:aJ (bZ l env o) x=some (.ptr b off)) (ar:s b=some (.box T cs)) (av:hI dX cs off=some v)
  (aw:c7 l env o) (nL:guardOf l.toArray (iw env (looks l.toArray u)) u=some true)
  (cg:iw ((d,v)::env) (looks l.toArray u)=iw env (looks l.toArray u))
  (eT:aZ P N u (iw env (looks l.toArray u)) s aO m0)
  (bg:∀ y aj,aO y aj→∃ z,acg z∧y=f z∧aj=g z)
  (vO:∀ z,acg z→Ft z→bc P Γ N l.toArray Q (bV (m|||2^i|||2^j)) ((c,f z)::(d,v)::env) (g z))
  (cF:∀ z,acg z→Ft z→bc P Γ N l.toArray Q (bV (m|||2^j)) ((c,f z)::env) (g z))
  (aE:∀ z,acg z→Ft z) (bJ:∀ y aj,m0 y aj→Q (.panic y) [] aj):bc P Γ N l.toArray Q (bV m) env s:=by
 refine bc.two (X:=fun _ _=>False) aF ah hu ax aC aU pq cP aw nL (aZ.tM aP b2 aM ab ar av) eT ?_ ?_ (fun _ _ h=>h.elim) bJ
 ·rintro y aj ⟨rfl,rfl⟩
  refine bc.one R7 hu aC pq (by rw [← cg] at nL;exact nL) (by rw [← cg] at eT;exact eT) (fun y aj ay=>?_) bJ;obtain ⟨z,bO,rfl,rfl⟩:=bg y aj ay;exact vO z bO (aE z bO)
 ·intro y aj ay
  obtain ⟨z,bO,rfl,rfl⟩:=bg y aj ay;exact cF z bO (aE z bO)
end
theorem dm.qq {w:World} {p:bR} {s:ao} (h:dm w p s) {b:Nat} {T:TypeId} {cs cs':List af} (ar:s b=some (.box T cs)) (aC:cR cs cs'):dm w p (s.set b (.box T cs')):=by
 refine ⟨fun x o ab=>?_,h.lt⟩;by_cases e:x=b
 ·subst e
  rw [ao.gk] at ab;cases ab;obtain ⟨vs,U,ad,al⟩:=h.obj _ _ ar;exact ⟨vs,U,aC.rel ad,al⟩
 ·rw [ao.fx _ _ e] at ab;exact h.obj x o ab
theorem ao.xJ {s:ao} {b:Nat} {o o':dC} (ar:s b=some o) (x:Nat):(s.set b o') x=none↔s x=none:=by
 by_cases e:x=b
 ·subst e;rw [ao.gk,ar];simp
 ·rw [ao.fx _ _ e]
theorem dw.qq {N:Nat} {B:fL} {ro:Option Nat} {env:Env} {s:ao} {a:Act} {w:World} {p:bR} (h:dw N B ro env s a w p) {b:Nat} {T:TypeId} {cs cs':List af} (ar:s b=some (.box T cs)) (aC:cR cs cs') :
  dw N B ro env (s.set b (.box T cs')) a w p:=by
 obtain ⟨cb,U,ad,al⟩:=h.defs
 exact ⟨h.size,h.env,h.wf.qq ar aC,⟨cb,U,ad,fun d ax=>let ⟨a,b,c⟩:=al d ax;⟨a,b,(ao.xJ ar d).2 c⟩⟩,
  fun l aB=>let ⟨a,b,c⟩:=h.round l aB;⟨a,b,(ao.xJ ar l).2 c⟩,h.base⟩
theorem Kept.qq {s eG:ao} {w w':World} {p bj:bR} {b:Nat} {o o':dC} (ar:s b=some o) (h:Kept (s.set b o') eG w p w' bj):Kept s eG w p w' bj :=
 ⟨fun x ab az=>h.heap x ab ((ao.xJ ar x).2 az),fun x ab az=>h.kH x ab ((ao.xJ ar x).2 az),fun x o ab az=>h.k2 x o ab ((ao.xJ ar x).2 az)⟩
theorem ae.qq {P:Program} {N:Nat} {Q:b8→Env→ao→Prop} {env:Env} {s:ao} {c:Code} (b:Nat) {T:TypeId} {cs:List af} (cs':List af) (ar:s b=some (.box T cs)) (aC:cR cs cs')
  (h:ae P N c Q env (s.set b (.box T cs'))):ae P N c Q env s:=
 fun hb B a w p eU aI=>l0 (h hb B a w p eU (aI.qq ar aC)) fun _ _ _ ⟨x,eP,eG,bj,U,ad,al,bd,bD⟩=>⟨x,eP,eG,bj,U,ad,al,bd,bD.qq ar⟩
theorem aa.qq {P:Program} {N:Nat} {ops:Array Oper} {l:List Oper} {Q:b8→Env→ao→Prop} {env:Env} {s:ao} (b:Nat) {T:TypeId} {cs:List af} (cs':List af) (ar:s b=some (.box T cs)) (aC:cR cs cs')
  (h:aa P N ops l Q env (s.set b (.box T cs'))):aa P N ops l Q env s:=
 fun k aE ro B a w p aI=>u9 (fun _ _ _ ⟨x,eP,eG,bj,U,ad,al,bd,bD⟩=>⟨x,eP,eG,bj,U,ad,al,bd,bD.qq ar⟩) _ a w (h k aE ro B a w p (aI.qq ar aC))
theorem cR.one {x y:af} (h:aS x y):cR [x] [y] := .cons h .nil
theorem cR.last {x y:af} (h:aS x y):∀ (l:List af),cR (l++[x]) (l++[y])
 | [] => .one h
 | z::l => .cons (aS.refl z) (cR.last h l)
theorem ao.set_comm (s:ao) {b c:Nat} (o o':dC) (h:b≠c):(s.set b o).set c o'=(s.set c o').set b o:=by
 funext x;simp only [ao.set];split<;>split<;>simp_all
theorem qp.ne {s:ao} {n b:Nat} {own:bL} {o:dC} (I:qp s n own) (h:s b=some o):∀ aW,own = .own aW→aW≠b:=by
 rintro aW rfl e;subst e;simp only [qp] at I;rw [I] at h;cases h
theorem qp.set {s:ao} {n m b:Nat} {own:bL} {o o':dC} (I:qp s n own) (h:s b=some o):qp (s.set b o') m own:=by
 cases own with
 | own aW=>exact (ao.xJ h aW).2 I
 | nil=>trivial
 | clip=>trivial
 | bb=>exact I
section
variable {P:Program} {Γ:cw} {N:Nat} {l:List Oper} {Q:b8→Env→ao→Prop} {env:Env} {s:ao} {m:Nat}
end
theorem ao.R8 {s t:ao} {b:Nat} {o:dC} (h:ao.Sub s t) (aq:s b=none):ao.Sub s (t.set b o):=fun x=>by
 by_cases e:x=b
 ·subst e;exact .inr aq
 ·rw [ao.fx _ _ e];exact h x
section
variable {P:Program} {Γ:cw} {N:Nat} {l:List Oper} {Q:b8→Env→ao→Prop} {env:Env} {s:ao} {m:Nat}
theorem bm.rm {J:ao→Prop} (cy:J s) {i:Nat} {o:Oper} {d:Nat} {v:af} (aF:ix l.toArray m i=true) (ah:l.toArray[i]? = some o) (ax:o.dst=some d) (aU:Nat.blt d N=true)
  (aw:c7 l env o) (av:∀ s,J s→aZ P N o (bZ l env o) s (fun x aj=>x=v∧aj=s) (fun _ _=>False))
  (h:bm J P Γ N l.toArray Q (bV (m|||2^i)) ((d,v)::env) s):bm J P Γ N l.toArray Q (bV m) env s:=by
 have U:=sJ.1 aF;refine bm.still cy i o d v U ah ax Cn (.inr (.inr ⟨aw,av⟩)) ?_;rw [oC];exact h
theorem bc.calm {i:Nat} {o:Oper} {d:Nat} {v:af} (aF:ix l.toArray m i=true) (ah:l.toArray[i]? = some o) (ax:o.dst=some d) (aU:Nat.blt d N=true)
  (aw:c7 l env o) (av:∀ s,aZ P N o (bZ l env o) s (fun x aj=>x=v∧aj=s) (fun _ _=>False))
  (h:bc P Γ N l.toArray Q (bV (m|||2^i)) ((d,v)::env) s):bc P Γ N l.toArray Q (bV m) env s:=
 bm.rm trivial aF ah ax aU aw (fun s _=>av s) h
theorem bc.R9 {i:Nat} {o:Oper} {d:Nat} {f:FuncId} {as:Array Operand} {c6:Array TypeId} {xs:List af} {v:af} (aF:ix l.toArray m i=true) (ah:l.toArray[i]? = some o) (ax:o.dst=some d) (aU:Nat.blt d N=true)
  (aw:c7 l env o) (b2:o.op = .call { callee := .value (.func f),args:=as,argTypes:=c6 }) (a7:fM (bZ l env o) as.toList=some xs)
  (aC:∀ s,hd P f xs s (fun o aj=>o = .ret v∧aj=s))
  (h:bc P Γ N l.toArray Q (bV (m|||2^i)) ((d,v)::env) s):bc P Γ N l.toArray Q (bV m) env s:=
 bc.calm aF ah ax aU aw (fun s=>(aZ.call b2 (fv := .func f [] []) rfl a7 (hL.fk (R:=fun o aj=>o = .ret v∧aj=s) (by simpa using aC s))).mono (fun x aj h=>by cases h.1;exact ⟨rfl,h.2⟩) (fun x aj h=>by cases h.1)) h
def j8 (P:Program) (Γ:cw) (N:Nat) (l:List Oper) (Q:b8→Env→ao→Prop) (m:Nat) (env:Env) (s:ao) (i:Nat):Prop:=
 ∃ (o:Oper) (K X:af→ao→Prop),l.toArray[i]? = some o∧guardOf l.toArray (bZ l env o) o=some true∧aZ P N o (bZ l env o) s K X∧(∀ d,o.dst=some d→d<N) ∧
  (∀ d,o.dst=some d→∀ x aj,K x aj→bc P Γ N l.toArray Q (bV (m|||2^i)) ((d,x)::env) aj)∧(o.dst=none→∀ x aj,K x aj→bc P Γ N l.toArray Q (bV (m|||2^i)) env aj) ∧
  ∀ x aj,X x aj→Q (.panic x) [] aj
theorem j8.mk {i:Nat} {o:Oper} {d:Nat} {K X:af→ao→Prop} (ah:l.toArray[i]? = some o) (ax:o.dst=some d) (aU:Nat.blt d N=true) (aw:c7 l env o)
  (h:aZ P N o (bZ l env o) s K X) (aE:∀ x aj,K x aj→bc P Γ N l.toArray Q (bV (m|||2^i)) ((d,x)::env) aj) (ab:∀ x aj,X x aj→Q (.panic x) [] aj):j8 P Γ N l Q m env s i:=
 ⟨o,K,X,ah,aw,h,(fun c3 cl=>by rw [ax] at cl;cases cl;simpa [blt_eq] using aU),(fun c3 cl=>by rw [ax] at cl;cases cl;exact aE),(fun az=>by rw [ax] at az;cases az),ab⟩
theorem j8.CA {i:Nat} {o:Oper} {K X:af→ao→Prop} (ah:l.toArray[i]? = some o) (ax:o.dst=none) (aw:c7 l env o)
  (h:aZ P N o (bZ l env o) s K X) (aE:∀ x aj,K x aj→bc P Γ N l.toArray Q (bV (m|||2^i)) env aj) (ab:∀ x aj,X x aj→Q (.panic x) [] aj):j8 P Γ N l Q m env s i:=
 ⟨o,K,X,ah,aw,h,(fun c3 cl=>by rw [ax] at cl;cases cl),(fun c3 cl=>by rw [ax] at cl;cases cl),(fun _=>aE),ab⟩
def hM (P:Program) (Γ:cw) (N:Nat) (l:List Oper) (Q:b8→Env→ao→Prop) (m:Nat) (env:Env) (s:ao):List Nat→Prop
 | []=>True
 | i::is=>j8 P Γ N l Q m env s i∧hM P Γ N l Q m env s is
theorem hM.mem {i:Nat}:∀ {is:List Nat},hM P Γ N l Q m env s is→i∈is→j8 P Γ N l Q m env s i
  | j::is,h,aQ=>by
    rcases mem_cons.1 aQ with rfl|aQ
    · exact h.1
    · exact hM.mem h.2 aQ
theorem Fu {ops:Array Oper} {i:Nat}:∀ {is:List Nat},i∈eE ops m is→ix ops m i=true
  | j::is,h=>by
    simp only [eE] at h;split at h
    · rename_i aq
      rcases mem_cons.1 h with rfl|h
      · exact aq
      · exact Fu h
    · exact Fu h
theorem bc.many {i:Nat} {is:List Nat} (aF:eE l.toArray m (idxs 0 l)=i::is) (h:hM P Γ N l Q m env s (i::is)):bc P Γ N l.toArray Q (bV m) env s:=by
 have fl:∀ k,hf l.toArray (bV m) k→j8 P Γ N l Q m env s k:=fun k aE=>by
  have:=zA aE (l:=idxs 0 l) (by rw [xF,List.mem_range'_1];have:=aE.1;simp at this;omega);rw [aF] at this;exact h.mem this
 have iX:hf l.toArray (bV m) i:=sJ.1 (Fu (is:=idxs 0 l) (by rw [aF];exact List.mem_cons_self ..));refine bm.split (fun k x aj=>∃ o,l.toArray[k]? = some o∧(∀ d,o.dst=some d→bc P Γ N l.toArray Q (bV (m|||2^k)) ((d,x)::env) aj)∧(o.dst=none→bc P Γ N l.toArray Q (bV (m|||2^k)) env aj))
  (fun k x aj=>Q (.panic x) [] aj) ⟨i,iX.1,iX.2.1⟩ (fun k o aE ah=>?_) (fun _ _ _ _ _ _ _ => .inl trivial) (fun k o d aE ah ax x aj ⟨o',cC,U,ad⟩=>?_) (fun k o aE ah ax x aj ⟨o',cC,U,ad⟩=>?_) (fun k o aE ah x aj ab=>ab)
 ·obtain ⟨o',K,X,cC,aw,po,aU,U,ad,al⟩:=fl k aE
  rw [ah] at cC;cases cC;exact ⟨aw,po.mono (fun x aj bg=>⟨o,ah,fun d ax=>U d ax x aj bg,fun ax=>ad ax x aj bg⟩) (fun x aj iq=>al x aj iq),aU⟩
 ·rw [ah] at cC;cases cC
  rw [oC];exact U d ax
 ·rw [ah] at cC;cases cC
  rw [oC];exact ad ax
end
section
variable {P:Program} {Γ:cw} {N:Nat} {ops:Array Oper} {Q:b8→Env→ao→Prop} {env:Env} {s:ao} {l:List Oper} {o:Oper} {d:Nat}
theorem aZ.Fv {o:Oper} {t:TypeId} {x:Operand} {v:af} {cs:List af} (ah:o.op = .box t x) (ab:aJ env x=some v) (aC:cellsOf v=some cs) {X:af→ao→Prop} :
  aZ P N o env s (fun r aj=>∃ b,s b=none∧r = .ptr b 0∧aj=s.set b (.box t cs)) X:=by
 refine aZ.ki i' fun ro B a w p aI=>?_
 have aF:=p8 (aI.aJ ab) aC;obtain ⟨cD,dh,fa,eD⟩:=rb aI.wf (.cells (a.eval x).cells t) (.box t cs) (fun w' U ad al=>⟨(a.eval x).cells,U,al _ _ aF,fun o aD=>absurd (aI.wf.lt _ _ aD) ag⟩);refine ⟨.pointer (some ⟨w.heap.size,0,none⟩),w.alloc (.cells (a.eval x).cells t),_,p,.ptr w.heap.size 0,?_,dh,fa,eD,⟨_,cD,rfl,rfl⟩,.ptr _ _⟩;unfold execOp;rw [ah];rfl
theorem aa.Fv {t:TypeId} {x:Operand} {v:af} {cs:List af} (aw:guardOf ops env o=some true) (ax:o.dst=some d) (aU:Nat.blt d N=true) (ah:o.op = .box t x) (ab:aJ env x=some v) (aC:cellsOf v=some cs)
  (h:∀ b,s b=none→aa P N ops l Q ((d,.ptr b 0)::env) (s.set b (.box t cs))):aa P N ops (o::l) Q env s:=
 aa.op aw ax aU (aZ.Fv ah ab aC (X:=fun _ _=>False)) (fun x aj ⟨b,U,ad,al⟩=>by subst ad;subst al;exact h b U) (fun _ _ h=>h.elim)
end
abbrev a8:=List (bL×dC)
def lI (s:ao) (k:bL) (o:dC):ao:=match k with
 | .own b=>s.set b o
 | _=>s
def gone (s:ao) (k:bL):Prop:=match k with
 | .own b=>s b=none
 | .bb=>False
 | _=>True
def aT (s:ao):a8→ao
 | []=>s
 | e::L=>lI (aT s L) e.1 e.2
def Ok (s:ao):a8→Prop
 | []=>True
 | e::L=>gone (aT s L) e.1∧Ok s L
inductive bp:a8→bL→dC→a8→Prop
 | here {k:bL} {o:dC} {L:a8}:bp ((k,o)::L) k o L
 | there {e:bL×dC} {k:bL} {o:dC} {L R:a8} (h:bp L k o R):bp (e::L) k o (e::R)
inductive aH:a8→a8→a8→Prop
 | nil {L:a8}:aH L [] L
 | cons {k:bL} {o:dC} {L K R dt:a8} (h:bp L k o R) (t:aH R K dt):aH L ((k,o)::K) dt
theorem J0 (s:ao) (e:TypeId) (sz n:Nat) (k:bL):rowOf s e sz n k=lI s k (.row e sz n):=by cases k<;>rfl
theorem J1 {s:ao} {n:Nat} {k:bL}:qp s n k↔gone s k:=by cases k<;>exact Iff.rfl
theorem R' {s:ao} {k k':bL} {o o':dC} (h:gone s k) (eT:gone (lI s k o) k'):gone s k'∧gone (lI s k' o') k∧lI (lI s k o) k' o'=lI (lI s k' o') k o:=by
 cases k with
 | own b=>
  cases k' with
  | own aW=>
   obtain ⟨U,ad⟩:=ao.tL eT;exact ⟨ad,(ao.fx s o' (Ne.symm U)).trans h,ao.set_comm s o o' (Ne.symm U)⟩
  | nil=>exact ⟨trivial,h,rfl⟩
  | clip=>exact ⟨trivial,h,rfl⟩
  | bb=>exact eT.elim
 | nil=>exact ⟨eT,trivial,rfl⟩
 | clip=>exact ⟨eT,trivial,rfl⟩
 | bb=>exact h.elim
theorem bp.perm {s:ao} {L R:a8} {k:bL} {o:dC} (h:bp L k o R):Ok s L→aT s L=aT s ((k,o)::R)∧Ok s ((k,o)::R):=by
 induction h with
 | here=>exact fun h=>⟨rfl,h⟩
 | @there e k o L R h a1=>
  rintro ⟨aw,I⟩;obtain ⟨U,ad,al⟩:=a1 I;rw [U] at aw;obtain ⟨g1,g2,g3⟩:=R' (s:=aT s R) (k:=k) (o:=o) (k':=e.1) (o':=e.2) ad aw;refine ⟨?_,g2,g1,al⟩;show lI (aT s L) e.1 e.2=lI (lI (aT s R) e.1 e.2) k o;rw [U];exact g3
theorem zF (s:ao):∀ (K R:a8),aT s (K++R)=aT (aT s R) K
 | [],_=>rfl
 | e::K,R=>by show lI (aT s (K++R)) e.1 e.2=_;rw [zF s K R];rfl
theorem CB {s:ao}:∀ {K R:a8},Ok s (K++R)↔Ok (aT s R) K∧Ok s R
  | [],R=>⟨fun h=>⟨trivial,h⟩,fun h=>h.2⟩
  | e::K,R=>by
    show gone (aT s (K++R)) e.1∧Ok s (K++R)↔(gone (aT (aT s R) K) e.1∧Ok (aT s R) K)∧Ok s R;rw [zF,CB,and_assoc]
theorem aH.perm {s:ao} {L K R:a8} (h:aH L K R):Ok s L→aT s L=aT s (K++R)∧Ok s (K++R):=by
 induction h with
 | nil=>exact fun h=>⟨rfl,h⟩
 | @cons k o L K R dt h t a1=>
  intro I;obtain ⟨U,ad,al⟩:=h.perm I;obtain ⟨bd,bD⟩:=a1 al;refine ⟨?_,?_,bD⟩
  ·rw [U];show lI (aT s R) k o=lI (aT s (K++dt)) k o;rw [bd]
  ·have gj:gone (aT s R) k:=ad
   rw [bd] at gj;exact gj
theorem aH.eq {s:ao} {L K R:a8} (h:aH L K R) (I:Ok s L):aT s L=aT (aT s R) K∧Ok (aT s R) K∧Ok s R:=by
 obtain ⟨U,ad⟩:=h.perm I;rw [zF] at U;exact ⟨U,CB.1 ad⟩
theorem CC {s t:ao} {k:bL} {o:dC} (h:ao.Sub s t):ao.Sub (lI s k o) (lI t k o):=by
 cases k with
 | own b=>
  intro x;by_cases e:x=b
  ·subst e;left;show (s.set x o) x=(t.set x o) x;rw [ao.gk,ao.gk]
  ·show (s.set b o) x=(t.set b o) x∨(s.set b o) x=none
   rw [ao.fx _ _ e,ao.fx _ _ e];exact h x
 | nil=>exact h
 | clip=>exact h
 | bb=>exact h
theorem xK {s t:ao} {k:bL} {o:dC} (h:ao.Sub s t) (aw:gone s k):ao.Sub s (lI t k o):=by
 cases k with
 | own b=>exact ao.R8 h aw
 | nil=>exact h
 | clip=>exact h
 | bb=>exact h
theorem Fw {s t:ao} (h:ao.Sub s t):∀ L:a8,ao.Sub (aT s L) (aT t L)
 | []=>h
 | _::L=>CC (Fw h L)
theorem J2 {s t:ao} {k:bL} (h:ao.Sub s t) (aw:gone t k):gone s k:=by
 cases k with
 | own b=>exact h.none aw
 | nil=>trivial
 | clip=>trivial
 | bb=>exact aw
theorem Ok.sub {s:ao}:∀ {L:a8},Ok s L→ao.Sub s (aT s L)
 | [],_=>ao.ou _
 | e::L,h=>xK (Ok.sub h.2) (J2 (Ok.sub h.2) h.1)
theorem Ok.nK {s t:ao} (h:ao.Sub s t):∀ {L:a8},Ok t L→Ok s L
 | [],_=>trivial
 | e::L,I=>⟨J2 (Fw h L) I.1,Ok.nK h I.2⟩
theorem aH.sub {s:ao} {L K R:a8} (h:aH L K R) (I:Ok s L):ao.Sub (aT s K) (aT s L)∧Ok s K:=by
 obtain ⟨U,ad,al⟩:=h.eq I;rw [U];exact ⟨Fw al.sub K,ad.nK al.sub⟩
theorem bp.get {s:ao} {L R:a8} {b:Nat} {o:dC} (h:bp L (.own b) o R) (I:Ok s L):aT s L b=some o:=by
 rw [(h.perm I).1];exact ao.gk _ _ _
theorem bp.put {s:ao} {L R:a8} {b:Nat} {o:dC} (o':dC) (h:bp L (.own b) o R) (I:Ok s L):(aT s L).set b o'=aT s ((.own b,o')::R)∧Ok s ((.own b,o')::R):=by
 obtain ⟨U,ad⟩:=h.perm I;rw [U];exact ⟨ao.set_set _ _ _ _,ad⟩
theorem bp.del {s:ao} {L R:a8} {b:Nat} {o:dC} (h:bp L (.own b) o R) (I:Ok s L):(aT s L).del b=aT s R∧Ok s R:=by
 obtain ⟨U,ad⟩:=h.perm I;rw [U];exact ⟨ao.zh _ _ _ ad.1,ad.2⟩
section
variable {P:Program} {Γ:cw} {N:Nat} {ops:Array Oper} {Q:b8→Env→ao→Prop} {env:Env} {s:ao} {l:List Oper} {o:Oper} {d:Nat} {L R:a8}
theorem aZ.eB (aP:bQ P Γ) (I:Ok s L) {t T:TypeId} {x:Operand} {i:bM} {b off:Nat} {cs:List af} {v:af} (ah:o.op = .load t x) (aM:Γ.get? t=some i) (ab:aJ env x=some (.ptr b off))
  (ar:bp L (.own b) (.box T cs) R) (av:hI i cs off=some v) {X:af→ao→Prop}:aZ P N o env (aT s L) (fun x aj=>x=v∧aj=aT s L) X:=
 aZ.tM aP ah aM ab (ar.get I) av
theorem aa.eB (aP:bQ P Γ) (I:Ok s L) {t T:TypeId} {x:Operand} {i:bM} {b off:Nat} {cs:List af} {v:af} (aw:guardOf ops env o=some true) (ax:o.dst=some d) (aU:Nat.blt d N=true) (ah:o.op = .load t x)
  (aM:Γ.get? t=some i) (ab:aJ env x=some (.ptr b off)) (ar:bp L (.own b) (.box T cs) R) (av:hI i cs off=some v) (h:aa P N ops l Q ((d,v)::env) (aT s L)):aa P N ops (o::l) Q env (aT s L):=
 aa.tM aP aw ax aU ah aM ab (ar.get I) av h
theorem aZ.cT (aP:bQ P Γ) (I:Ok s L) {t T:TypeId} {x y:Operand} {i:bM} {b off:Nat} {cs us:List af} {v:af} (ah:o.op = .store t x y) (aM:Γ.get? t=some i) (ab:aJ env x=some (.ptr b off))
  (ay:aJ env y=some v) (av:cellsOf v=some us) (hu:Nat.beq us.length i.size=true) (U:us.all e7=true) (ar:bp L (.own b) (.box T cs) R) (fy:Nat.ble (off+us.length) cs.length=true) {X:af→ao→Prop} :
  aZ P N o env (aT s L) (fun _ aj=>aj=aT s ((.own b,.box T (eQ off us cs))::R)∧Ok s ((.own b,.box T (eQ off us cs))::R)) X:=by
 obtain ⟨ad,al⟩:=ar.put (.box T (eQ off us cs)) I;exact (aZ.B5 aP ah aM ab ay av hu U (ar.get I) fy (X:=X)).mono (fun _ aj h=>⟨h.trans ad,al⟩) (fun _ _ h=>h)
theorem aa.cT (aP:bQ P Γ) (I:Ok s L) {t T:TypeId} {x y:Operand} {i:bM} {b off:Nat} {cs us:List af} {v:af} (aw:guardOf ops env o=some true) (ax:o.dst=none) (ah:o.op = .store t x y)
  (aM:Γ.get? t=some i) (ab:aJ env x=some (.ptr b off)) (ay:aJ env y=some v) (av:cellsOf v=some us) (hu:Nat.beq us.length i.size=true) (U:us.all e7=true)
  (ar:bp L (.own b) (.box T cs) R) (fy:Nat.ble (off+us.length) cs.length=true) (h:Ok s ((.own b,.box T (eQ off us cs))::R)→aa P N ops l Q env (aT s ((.own b,.box T (eQ off us cs))::R))):aa P N ops (o::l) Q env (aT s L):=
 aa.u' aw ax (aZ.cT aP I ah aM ab ay av hu U ar fy (X:=fun _ _=>False)) (fun x aj ⟨ad,al⟩=>by subst ad;exact h al) (fun _ _ h=>h.elim)
theorem aZ.dY (aP:bQ P Γ) (I:Ok s L) {t:TypeId} {i:bM} {z:af} {cs:List af} (ah:o.op = .alloc t) (aM:Γ.get? t=some i) (bO:hx i.zero=some z) (aC:cellsOf z=some cs) {X:af→ao→Prop} :
  aZ P N o env (aT s L) (fun x aj=>∃ b,x = .ptr b 0∧aj=aT s ((.own b,.box t cs)::L)∧Ok s ((.own b,.box t cs)::L)) X:=
 (aZ.alloc aP ah aM bO aC (X:=X)).mono (fun x aj ⟨b,U,ad,al⟩=>⟨b,ad,al,U,I⟩) (fun _ _ h=>h)
theorem aa.dY (aP:bQ P Γ) (I:Ok s L) {t:TypeId} {i:bM} {z:af} {cs:List af} (aw:guardOf ops env o=some true) (ax:o.dst=some d) (aU:Nat.blt d N=true) (ah:o.op = .alloc t) (aM:Γ.get? t=some i)
  (bO:hx i.zero=some z) (aC:cellsOf z=some cs) (h:∀ b,Ok s ((.own b,.box t cs)::L)→aa P N ops l Q ((d,.ptr b 0)::env) (aT s ((.own b,.box t cs)::L))):aa P N ops (o::l) Q env (aT s L):=
 aa.op aw ax aU (aZ.dY aP I ah aM bO aC (X:=fun _ _=>False)) (fun x aj ⟨b,U,ad,al⟩=>by subst U;subst ad;exact h b al) (fun _ _ h=>h.elim)
theorem aZ.jR (I:Ok s L) {t:TypeId} {x:Operand} {v:af} {cs:List af} (ah:o.op = .box t x) (ab:aJ env x=some v) (aC:cellsOf v=some cs) {X:af→ao→Prop} :
  aZ P N o env (aT s L) (fun x aj=>∃ b,x = .ptr b 0∧aj=aT s ((.own b,.box t cs)::L)∧Ok s ((.own b,.box t cs)::L)) X:=
 (aZ.Fv ah ab aC (X:=X)).mono (fun x aj ⟨b,U,ad,al⟩=>⟨b,ad,al,U,I⟩) (fun _ _ h=>h)
theorem aa.jR (I:Ok s L) {t:TypeId} {x:Operand} {v:af} {cs:List af} (aw:guardOf ops env o=some true) (ax:o.dst=some d) (aU:Nat.blt d N=true) (ah:o.op = .box t x) (ab:aJ env x=some v) (aC:cellsOf v=some cs)
  (h:∀ b,Ok s ((.own b,.box t cs)::L)→aa P N ops l Q ((d,.ptr b 0)::env) (aT s ((.own b,.box t cs)::L))):aa P N ops (o::l) Q env (aT s L):=
 aa.op aw ax aU (aZ.jR I ah ab aC (X:=fun _ _=>False)) (fun x aj ⟨b,U,ad,al⟩=>by subst U;subst ad;exact h b al) (fun _ _ h=>h.elim)
theorem aZ.rn (I:Ok s L) {t:TypeId} (ah:o.op = .makeMap t none) {X:af→ao→Prop} :
  aZ P N o env (aT s L) (fun x aj=>∃ b,x = .map b∧aj=aT s ((.own b,.map [])::L)∧Ok s ((.own b,.map [])::L)) X:=
 (aZ.makeMap ah (X:=X)).mono (fun x aj ⟨b,U,ad,al⟩=>⟨b,ad,al,U,I⟩) (fun _ _ h=>h)
theorem aa.rn (I:Ok s L) {t:TypeId} (aw:guardOf ops env o=some true) (ax:o.dst=some d) (aU:Nat.blt d N=true) (ah:o.op = .makeMap t none)
  (h:∀ b,Ok s ((.own b,.map [])::L)→aa P N ops l Q ((d,.map b)::env) (aT s ((.own b,.map [])::L))):aa P N ops (o::l) Q env (aT s L):=
 aa.op aw ax aU (aZ.rn I ah (X:=fun _ _=>False)) (fun x aj ⟨b,U,ad,al⟩=>by subst U;subst ad;exact h b al) (fun _ _ h=>h.elim)
theorem aZ.jr (aP:bQ P Γ) (I:Ok s L) {t dQ eV:TypeId} {x y:Operand} {ok:Bool} {it gG aG:bM} {m:Nat} {es:List (af×af)} {k z:af} {r:Option af} (ah:o.op = .lookup t x y ok) (aM:Γ.get? t=some it)
  (br:it.bF = .map dQ eV) (jk:Γ.get? dQ=some gG) (bI:Γ.get? eV=some aG) (ab:aJ env x=some (.map m)) (ay:aJ env y=some k) (ar:bp L (.own m) (.map es) R) (a6:j3 gG.bF k=true) (aF:iV es k=some r)
  (bO:hx aG.zero=some z) {X:af→ao→Prop}:aZ P N o env (aT s L) (fun x aj=>x=lB ok z r∧aj=aT s L) X:=
 aZ.lookup aP ah aM br jk bI ab ay (.inl ⟨m,rfl,ar.get I⟩) a6 aF bO
theorem aa.jr (aP:bQ P Γ) (I:Ok s L) {t dQ eV:TypeId} {x y:Operand} {ok:Bool} {it gG aG:bM} {m:Nat} {es:List (af×af)} {k z:af} {r:Option af} (aw:guardOf ops env o=some true) (ax:o.dst=some d) (aU:Nat.blt d N=true)
  (ah:o.op = .lookup t x y ok) (aM:Γ.get? t=some it) (br:it.bF = .map dQ eV) (jk:Γ.get? dQ=some gG) (bI:Γ.get? eV=some aG) (ab:aJ env x=some (.map m)) (ay:aJ env y=some k) (ar:bp L (.own m) (.map es) R)
  (a6:j3 gG.bF k=true) (aF:iV es k=some r) (bO:hx aG.zero=some z) (h:aa P N ops l Q ((d,lB ok z r)::env) (aT s L)):aa P N ops (o::l) Q env (aT s L):=
 aa.lookup aP aw ax aU ah aM br jk bI ab ay (ar.get I) a6 aF bO h
theorem aZ.mE (aP:bQ P Γ) (I:Ok s L) {t dQ eV:TypeId} {x y z:Operand} {it gG:bM} {b:Nat} {es du:List (af×af)} {k v:af} (ah:o.op = .mapUpdate t x y z∨o.op = .insert t x y z)
  (aM:Γ.get? t=some it) (br:it.bF = .map dQ eV) (jk:Γ.get? dQ=some gG) (ab:aJ env x=some (.map b)) (ay:aJ env y=some k) (bO:aJ env z=some v) (ar:bp L (.own b) (.map es) R) (a6:j3 gG.bF k=true)
  (aD:lA es k v=some du) {X:af→ao→Prop}:aZ P N o env (aT s L) (fun _ aj=>aj=aT s ((.own b,.map du)::R)∧Ok s ((.own b,.map du)::R)) X:=by
 obtain ⟨ad,al⟩:=ar.put (.map du) I;exact (aZ.mapUpdate aP ah aM br jk ab ay bO (ar.get I) a6 aD (X:=X)).mono (fun _ aj h=>⟨h.trans ad,al⟩) (fun _ _ h=>h)
theorem aa.mE (aP:bQ P Γ) (I:Ok s L) {t dQ eV:TypeId} {x y z:Operand} {it gG:bM} {b:Nat} {es du:List (af×af)} {k v:af} (aw:guardOf ops env o=some true) (ax:o.dst=none) (ah:o.op = .mapUpdate t x y z∨o.op = .insert t x y z)
  (aM:Γ.get? t=some it) (br:it.bF = .map dQ eV) (jk:Γ.get? dQ=some gG) (ab:aJ env x=some (.map b)) (ay:aJ env y=some k) (bO:aJ env z=some v) (ar:bp L (.own b) (.map es) R) (a6:j3 gG.bF k=true)
  (aD:lA es k v=some du) (h:Ok s ((.own b,.map du)::R)→aa P N ops l Q env (aT s ((.own b,.map du)::R))):aa P N ops (o::l) Q env (aT s L):=
 aa.u' aw ax (aZ.mE aP I ah aM br jk ab ay bO ar a6 aD (X:=fun _ _=>False)) (fun x aj ⟨ad,al⟩=>by subst ad;exact h al) (fun _ _ h=>h.elim)
theorem aZ.qs (aP:bQ P Γ) (I:Ok s L) {t bH e:TypeId} {x y:Operand} {it ct aG:bM} {dR bU sz n n':Nat} {xs ys:List af} {own dj:bL}
  (ah:o.op = .call { callee := .builtin .append,args := #[x,y],argTypes := #[t,bH] }) (aM:Γ.get? t=some it) (br:it.bF = .aA e) (cV:Γ.get? bH=some ct) (dn:∀ k,ct.bF ≠ .int k)
  (bI:Γ.get? e=some aG) (ab:aJ env x=some (.aA dR xs own)) (ay:aJ env y=some (.aA bU ys dj)) (hT:dR=aG.size) (c8:ys=[]∨bU=aG.size)
  (dO:Nat.beq aG.zero.cells.size aG.size=true) (dJ:∀ y∈ys,j5 aG.size y=true) (aq:(xs.length+ys.length)*aG.bytes≤140737488355328) (ei:xs.length+ys.length≤9223372036854775807)
  (az:n=xs.length) (fX:n'=xs.length+ys.length) (b':sz=aG.size) (ar:bp L own (.row e sz n) R) {X:af→ao→Prop} :
  aZ P N o env (aT s L) (fun r aj=>∃ cQ,(ys≠[]→∃ b,cQ = .own b)∧(∀ b,own = .own b→∃ aW,cQ = .own aW)∧r = .aA sz (xs++ys) cQ∧aj=aT s ((cQ,.row e sz n')::R)∧Ok s ((cQ,.row e sz n')::R)) X:=by
 subst b';subst fX;obtain ⟨U,ad,al⟩:=ar.perm I;have bd:aT s L=rowOf (aT s R) e aG.size n own:=U.trans (J0 _ _ _ _ _).symm;rw [bd];refine (aZ.Fs aP ah aM br cV dn bI ab ay hT c8 dO dJ aq ei az (J1.2 ad) (X:=X)).mono ?_ (fun _ _ h=>h);rintro r aj ⟨cQ,g1,g2,g3,rfl,rfl⟩;exact ⟨cQ,g2,g3,rfl,J0 _ _ _ _ _,J1.1 g1,al⟩
theorem aa.gb (aP:bQ P Γ) (I:Ok s L) {t bH e:TypeId} {x y:Operand} {it ct aG:bM} {dR bU sz n:Nat} {xs:List af} {v:af} {own dj:bL} (aw:guardOf ops env o=some true) (ax:o.dst=some d) (aU:Nat.blt d N=true)
  (ah:o.op = .call { callee := .builtin .append,args := #[x,y],argTypes := #[t,bH] }) (aM:Γ.get? t=some it) (br:it.bF = .aA e) (cV:Γ.get? bH=some ct) (dn:∀ k,ct.bF ≠ .int k)
  (bI:Γ.get? e=some aG) (ab:aJ env x=some (.aA dR xs own)) (ay:aJ env y=some (.aA bU [v] dj)) (hT:dR=aG.size) (c8:bU=aG.size)
  (dO:Nat.beq aG.zero.cells.size aG.size=true) (dJ:j5 aG.size v=true) (b':sz=aG.size) (ar:bp L own (.row e sz n) R) (az:n=xs.length) (aq:(n+1)*aG.bytes≤140737488355328) (ei:n+1≤9223372036854775807)
  (h:∀ b,Ok s ((.own b,.row e sz (n+1))::R)→aa P N ops l Q ((d,.aA sz (xs++[v]) (.own b))::env) (aT s ((.own b,.row e sz (n+1))::R))):aa P N ops (o::l) Q env (aT s L):=by
 subst az;refine aa.op aw ax aU (aZ.qs aP I ah aM br cV dn bI ab ay hT (.inr c8) dO (by intro y ay;simp at ay;subst ay;exact dJ) aq ei C (n':=xs.length+1) C b' ar (X:=fun _ _=>False)) ?_ (fun _ _ h=>h.elim);rintro r aj ⟨cQ,ad,-,rfl,rfl,al⟩;obtain ⟨b,rfl⟩:=ad a';exact h b al
theorem aa.qs (aP:bQ P Γ) (I:Ok s L) {t bH e:TypeId} {x y:Operand} {it ct aG:bM} {dR bU sz n n':Nat} {xs ys:List af} {own dj:bL} (aw:guardOf ops env o=some true) (ax:o.dst=some d) (aU:Nat.blt d N=true)
  (ah:o.op = .call { callee := .builtin .append,args := #[x,y],argTypes := #[t,bH] }) (aM:Γ.get? t=some it) (br:it.bF = .aA e) (cV:Γ.get? bH=some ct) (dn:∀ k,ct.bF ≠ .int k)
  (bI:Γ.get? e=some aG) (ab:aJ env x=some (.aA dR xs own)) (ay:aJ env y=some (.aA bU ys dj)) (hT:dR=aG.size) (c8:ys=[]∨bU=aG.size)
  (dO:Nat.beq aG.zero.cells.size aG.size=true) (dJ:∀ y∈ys,j5 aG.size y=true) (b':sz=aG.size) (ar:bp L own (.row e sz n) R) (az:n=xs.length) (fX:n'=xs.length+ys.length) (aq:(xs.length+ys.length)*aG.bytes≤140737488355328) (ei:xs.length+ys.length≤9223372036854775807)
  (h:∀ cQ,Ok s ((cQ,.row e sz n')::R)→aa P N ops l Q ((d,.aA sz (xs++ys) cQ)::env) (aT s ((cQ,.row e sz n')::R))):aa P N ops (o::l) Q env (aT s L):=by
 refine aa.op aw ax aU (aZ.qs aP I ah aM br cV dn bI ab ay hT c8 dO dJ aq ei az fX b' ar (X:=fun _ _=>False)) ?_ (fun _ _ h=>h.elim);rintro r aj ⟨cQ,-,-,rfl,rfl,al⟩;exact h cQ al
theorem ae.mF {c:Code} (I:Ok s L) (t b:Nat) {T:TypeId} {cs:List af} (aM:env.get? t=some (.ptr b 0)) (ar:bp L (.own b) (.box T cs) R) (h:Ok s R→ae P N c Q ((t,.bw cs 0)::env) (aT s R)):ae P N c Q env (aT s L):=by
 obtain ⟨U,ad⟩:=ar.del I;refine ae.freeze t b aM (ar.get I) ?_;rw [U];exact h ad
theorem aa.mF (I:Ok s L) (t b:Nat) {T:TypeId} {cs:List af} (aM:env.get? t=some (.ptr b 0)) (ar:bp L (.own b) (.box T cs) R) (h:Ok s R→aa P N ops l Q ((t,.bw cs 0)::env) (aT s R)):aa P N ops l Q env (aT s L):=by
 obtain ⟨U,ad⟩:=ar.del I;refine aa.freeze t b aM (ar.get I) ?_;rw [U];exact h ad
theorem ae.vP {c:Code} (I:Ok s L) (b:Nat) {T:TypeId} {cs:List af} (cs':List af) (ar:bp L (.own b) (.box T cs) R) (aC:cR cs cs') (h:Ok s ((.own b,.box T cs')::R)→ae P N c Q env (aT s ((.own b,.box T cs')::R))):ae P N c Q env (aT s L):=by
 obtain ⟨U,ad⟩:=ar.put (.box T cs') I;refine ae.qq b cs' (ar.get I) aC ?_;rw [U];exact h ad
theorem aa.vP (I:Ok s L) (b:Nat) {T:TypeId} {cs:List af} (cs':List af) (ar:bp L (.own b) (.box T cs) R) (aC:cR cs cs') (h:Ok s ((.own b,.box T cs')::R)→aa P N ops l Q env (aT s ((.own b,.box T cs')::R))):aa P N ops l Q env (aT s L):=by
 obtain ⟨U,ad⟩:=ar.put (.box T cs') I;refine aa.qq b cs' (ar.get I) aC ?_;rw [U];exact h ad
theorem ae.l9 {c:Code} (I:Ok s L) (K:a8) (ar:aH L K R) (h:Ok s K→ae P N c Q env (aT s K)):ae P N c Q env (aT s L):=by
 obtain ⟨U,ad⟩:=ar.sub I;exact ae.drop _ U (h ad)
theorem aa.l9 (I:Ok s L) (K:a8) (ar:aH L K R) (h:Ok s K→aa P N ops l Q env (aT s K)):aa P N ops l Q env (aT s L):=by
 obtain ⟨U,ad⟩:=ar.sub I;exact aa.drop _ U (h ad)
end
def tY (s:ao) (R:ey→a8→Prop) (o:ey) (aj:ao):Prop:=∃ K,aj=aT s K∧Ok s K∧R o K
def bE (P:Program) (f:FuncId) (args:List af) (K:a8) (R:ey→a8→Prop):Prop:=∀ s,Ok s K→hd P f args (aT s K) (tY s R)
def dp (P:Program) (fv:af) (args:List af) (K:a8) (R:ey→a8→Prop):Prop:=∀ s,Ok s K→hL P fv args (aT s K) (tY s R)
def aR (P:Program) (f:FuncId) (args:List af) (v:af):Prop:=∀ s,hd P f args s (fun o aj=>o = .ret v∧aj=s)
def eA (P:Program) (fv:af) (args:List af) (v:af):Prop:=∀ s,hL P fv args s (fun o aj=>o = .ret v∧aj=s)
theorem eA.fk {P:Program} {f:FuncId} {first cap args:List af} {v:af} (h:aR P f (first++(args++cap)) v):eA P (.func f first cap) args v:=fun s=>hL.fk (h s)
section
variable {P:Program} {Γ:cw} {N:Nat} {ops:Array Oper} {Q:b8→Env→ao→Prop} {env:Env} {s:ao} {l:List Oper} {o:Oper} {d:Nat} {L R K:a8} {acs:ey→a8→Prop}
theorem aa.l' {g:Operand} {fv:af} {as:Array Operand} {c6:Array TypeId} {xs:List af} {v:af} (aw:guardOf ops env o=some true) (ax:o.dst=some d) (aU:Nat.blt d N=true)
  (b2:o.op = .call { callee := .value g,args:=as,argTypes:=c6 }) (av:aJ env g=some fv) (a7:fM env as.toList=some xs) (h:eA P fv xs v) (aE:aa P N ops l Q ((d,v)::env) s):aa P N ops (o::l) Q env s:=
 aa.E8 aw ax aU b2 av a7 (h s) (fun x aj ⟨U,ad⟩=>by cases U;subst ad;exact aE) (fun x aj ⟨U,_⟩=>by cases U)
theorem bE.mono {f:FuncId} {args:List af} {zG:ey→a8→Prop} (h:bE P f args K acs) (aF:∀ o K,acs o K→zG o K):bE P f args K zG :=
 fun s I=>(h s I).mono fun o aj ⟨aO,U,ad,al⟩=>⟨aO,U,ad,aF _ _ al⟩
theorem dp.mono {fv:af} {args:List af} {zG:ey→a8→Prop} (h:dp P fv args K acs) (aF:∀ o K,acs o K→zG o K):dp P fv args K zG :=
 fun s I=>(h s I).mono fun o aj ⟨aO,U,ad,al⟩=>⟨aO,U,ad,aF _ _ al⟩
theorem bE.at {f:FuncId} {args:List af} (h:bE P f args K acs) (I:Ok s L) (ar:aH L K R):hd P f args (aT s L) (tY s fun o M=>∃ aO,M=aO++R∧acs o aO):=by
 obtain ⟨U,ad,al⟩:=ar.eq I;rw [U];refine (h _ ad).mono ?_;rintro o aj ⟨aO,rfl,g2,g3⟩;exact ⟨aO++R,(zF _ _ _).symm,CB.2 ⟨g2,al⟩,aO,rfl,g3⟩
theorem dp.at {fv:af} {args:List af} (h:dp P fv args K acs) (I:Ok s L) (ar:aH L K R):hL P fv args (aT s L) (tY s fun o M=>∃ aO,M=aO++R∧acs o aO):=by
 obtain ⟨U,ad,al⟩:=ar.eq I;rw [U];refine (h _ ad).mono ?_;rintro o aj ⟨aO,rfl,g2,g3⟩;exact ⟨aO++R,(zF _ _ _).symm,CB.2 ⟨g2,al⟩,aO,rfl,g3⟩
theorem dp.fk {f:FuncId} {first cap args:List af} (h:bE P f (first++(args++cap)) K acs):dp P (.func f first cap) args K acs:=fun s I=>hL.fk (h s I)
theorem aZ.b3 {f:FuncId} {as:Array Operand} {c6:Array TypeId} {xs:List af} (b2:o.op = .call { callee := .value (.func f),args:=as,argTypes:=c6 }) (a7:fM env as.toList=some xs)
  (h:bE P f xs K acs) (I:Ok s L) (ar:aH L K R) :
  aZ P N o env (aT s L) (fun x aj=>∃ aO,aj=aT s (aO++R)∧Ok s (aO++R)∧acs (.ret x) aO) (fun x aj=>∃ aO,aj=aT s (aO++R)∧Ok s (aO++R)∧acs (.panic x) aO):=by
 refine (aZ.call b2 (fv := .func f [] []) C a7 (hL.fk (by simpa using h.at I ar))).mono ?_ ?_
 ·rintro x aj ⟨M,rfl,ad,aO,rfl,al⟩;exact ⟨aO,rfl,ad,al⟩
 ·rintro x aj ⟨M,rfl,ad,aO,rfl,al⟩;exact ⟨aO,rfl,ad,al⟩
theorem aZ.gH {g:Operand} {fv:af} {as:Array Operand} {c6:Array TypeId} {xs:List af} (b2:o.op = .call { callee := .value g,args:=as,argTypes:=c6 }) (av:aJ env g=some fv) (a7:fM env as.toList=some xs)
  (h:dp P fv xs K acs) (I:Ok s L) (ar:aH L K R) :
  aZ P N o env (aT s L) (fun x aj=>∃ aO,aj=aT s (aO++R)∧Ok s (aO++R)∧acs (.ret x) aO) (fun x aj=>∃ aO,aj=aT s (aO++R)∧Ok s (aO++R)∧acs (.panic x) aO):=by
 refine (aZ.call b2 av a7 (h.at I ar)).mono ?_ ?_
 ·rintro x aj ⟨M,rfl,ad,aO,rfl,al⟩;exact ⟨aO,rfl,ad,al⟩
 ·rintro x aj ⟨M,rfl,ad,aO,rfl,al⟩;exact ⟨aO,rfl,ad,al⟩
theorem aa.b3 {f:FuncId} {as:Array Operand} {c6:Array TypeId} {xs:List af} (aw:guardOf ops env o=some true) (ax:o.dst=some d) (aU:Nat.blt d N=true)
  (b2:o.op = .call { callee := .value (.func f),args:=as,argTypes:=c6 }) (a7:fM env as.toList=some xs) (h:bE P f xs K acs) (I:Ok s L) (ar:aH L K R)
  (aE:∀ x aO,acs (.ret x) aO→Ok s (aO++R)→aa P N ops l Q ((d,x)::env) (aT s (aO++R))) (ab:∀ x aO,acs (.panic x) aO→Ok s (aO++R)→Q (.panic x) env (aT s (aO++R))):aa P N ops (o::l) Q env (aT s L):=
 aa.op aw ax aU (aZ.b3 b2 a7 h I ar) (fun x aj ⟨aO,U,ad,al⟩=>by subst U;exact aE x aO al ad) (fun x aj ⟨aO,U,ad,al⟩=>by subst U;exact ab x aO al ad)
theorem aa.gH {g:Operand} {fv:af} {as:Array Operand} {c6:Array TypeId} {xs:List af} (aw:guardOf ops env o=some true) (ax:o.dst=some d) (aU:Nat.blt d N=true)
  (b2:o.op = .call { callee := .value g,args:=as,argTypes:=c6 }) (av:aJ env g=some fv) (a7:fM env as.toList=some xs) (h:dp P fv xs K acs) (I:Ok s L) (ar:aH L K R)
  (aE:∀ x aO,acs (.ret x) aO→Ok s (aO++R)→aa P N ops l Q ((d,x)::env) (aT s (aO++R))) (ab:∀ x aO,acs (.panic x) aO→Ok s (aO++R)→Q (.panic x) env (aT s (aO++R))):aa P N ops (o::l) Q env (aT s L):=
 aa.op aw ax aU (aZ.gH b2 av a7 h I ar) (fun x aj ⟨aO,U,ad,al⟩=>by subst U;exact aE x aO al ad) (fun x aj ⟨aO,U,ad,al⟩=>by subst U;exact ab x aO al ad)
theorem aa.eg {f:FuncId} {as:Array Operand} {c6:Array TypeId} {xs:List af} {v:af} (aw:guardOf ops env o=some true) (ax:o.dst=some d) (aU:Nat.blt d N=true)
  (b2:o.op = .call { callee := .value (.func f),args:=as,argTypes:=c6 }) (a7:fM env as.toList=some xs) (h:aR P f xs v) (aE:aa P N ops l Q ((d,v)::env) s):aa P N ops (o::l) Q env s:=
 aa.Jz aw ax aU b2 a7 (h s) aE
theorem bE.xA (aP:bQ P Γ) {f:FuncId} {fn:Func} {c:Code} {args:List af} (aC:sF P f) (a6:P.funcs[f]? = some fn) (aq:fn.body=some c)
  (aU:Nat.ble args.length fn.ntmps=true) (h:∀ s,Ok s K→ae P fn.ntmps c (Fin Γ fn.results.toList (tY s acs)) (rf 0 args) (aT s K)):bE P f args K acs:=
 fun s I=>hd.xA aP aC a6 aq aU (h s I)
theorem aR.xA (aP:bQ P Γ) {f:FuncId} {fn:Func} {c:Code} {args:List af} {v:af} (aC:sF P f) (a6:P.funcs[f]? = some fn) (aq:fn.body=some c)
  (aU:Nat.ble args.length fn.ntmps=true) (h:∀ s,Ok s []→ae P fn.ntmps c (Fin Γ fn.results.toList (fun o aj=>o = .ret v∧aj=s)) (rf 0 args) (aT s [])):aR P f args v:=
 fun s=>hd.xA aP aC a6 aq aU (h s trivial)
theorem bE.bh (aP:bQ P Γ) {f:FuncId} {fn:Func} {c:Code} {args:List af} (a6:P.funcs[f]? = some fn) (aq:fn.body=some c) (aU:Nat.ble args.length fn.ntmps=true) (h:∀ s,Ok s K→ae P fn.ntmps c (Fin Γ fn.results.toList (tY s acs)) (rf 0 args) (aT s K)) (az:(fn.name == "runtime.NumGoroutine")=false:=by kernel_rfl):bE P f args K acs:=bE.xA aP (zp a6 az (by rw [aq];rfl)) a6 aq aU h
theorem aR.bh (aP:bQ P Γ) {f:FuncId} {fn:Func} {c:Code} {args:List af} {v:af} (a6:P.funcs[f]? = some fn) (aq:fn.body=some c) (aU:Nat.ble args.length fn.ntmps=true) (h:∀ s,Ok s []→ae P fn.ntmps c (Fin Γ fn.results.toList (fun o aj=>o = .ret v∧aj=s)) (rf 0 args) (aT s [])) (az:(fn.name == "runtime.NumGoroutine")=false:=by kernel_rfl):aR P f args v:=aR.xA aP (zp a6 az (by rw [aq];rfl)) a6 aq aU h
theorem Fin.bu {rs:List ResultVar} {r r':af} (I:Ok s L) (aF:nJ Γ env (aT s L) rs=some r) (hle:aS r r') (ar:aH L K R) (e0:acs (.ret r') K):∃ r r' aj,nJ Γ env (aT s L) rs=some r∧aS r r'∧ao.Sub aj (aT s L)∧tY s acs (.ret r') aj:=by
 obtain ⟨U,ad⟩:=ar.sub I;exact ⟨r,r',_,aF,hle,U,K,rfl,ad,e0⟩
theorem Fin.cx {rs:List ResultVar} {r v:af} (I:Ok s L) (aF:nJ Γ env (aT s L) rs=some r) (hle:aS r v):∃ r r' aj,nJ Γ env (aT s L) rs=some r∧aS r r'∧ao.Sub aj (aT s L)∧(ey.ret r' = .ret v∧aj=s):=
 ⟨r,v,s,aF,hle,I.sub,rfl,rfl⟩
theorem Fin.e9 {v fu:af} (I:Ok s L) (hle:aS v fu) (ar:aH L K R) (e0:acs (.panic fu) K):∃ fu aj,aS v fu∧ao.Sub aj (aT s L)∧tY s acs (.panic fu) aj:=by
 obtain ⟨U,ad⟩:=ar.sub I;exact ⟨fu,_,hle,U,K,rfl,ad,e0⟩
theorem Env.Sub.append {a b env:Env} (h:Env.Sub a env) (k:Env.Sub b env):Env.Sub (a++b) env:=by
 induction a with
 | nil=>exact k
 | cons x a a1=>exact ⟨h.1,a1 h.2⟩
def vQ:List Nat→Env→Env→Env×Unit
  | [],_,acc=>(acc,())
  | t::gl,env,acc=>match env.get? t with
    | some v=>vQ gl env ((t,v)::acc)
    | none=>vQ gl env acc
theorem zH:∀ (gl:List Nat) (acc E:Env),Env.Sub acc env→vQ gl env acc=(E,())→Env.Sub E env
  | [],acc,E,h,e=>by cases e;exact h
  | t::gl,acc,E,h,e=>by
    simp only [vQ] at e;split at e
    · rename_i v av;exact zH gl ((t,v)::acc) E ⟨⟨v,av,aS.refl _⟩,h⟩ e
    · exact zH gl _ E h e
theorem ae.sM {c:Code} (gl:List Nat) {E:Env} (h:vQ gl env []=(E,())) (k:ae P N c Q E s):ae P N c Q env s:=ae.sub E (zH gl [] E trivial h) k
theorem aa.sM (gl:List Nat) {E:Env} (h:vQ gl env []=(E,())) (k:aa P N ops l Q E s):aa P N ops l Q env s:=aa.sub E (zH gl [] E trivial h) k
def bn {σ:Type} (s:ao) (E:σ→Env) (K:σ→a8) (acg:σ→Prop) (ok:σ→Prop) (eP:Env) (aj:ao):Prop:=
 ∃ y nM dt,acg y∧ok y∧Env.Sub (E y) eP∧aj=aT s nM∧Ok s nM∧aH nM (K y) dt
theorem ae.xL {σ:Type} {c:Code} (I:Ok s L) (E:σ→Env) (K:σ→a8) (acg:σ→Prop) (μ:σ→Nat) (nC:σ) {Fx:a8} (an:acg nC) (eJ:Env.Sub (E nC) env) (ch:aH L (K nC) Fx)
  (round:∀ x,acg x→Ok s (K x)→ae P N c (b8.andThen (bn s E K acg (fun y=>μ y<μ x)) Q) (E x) (aT s (K x))):ae P N (.loop c) Q env (aT s L):=by
 obtain ⟨U,ad⟩:=ch.sub I;refine ae.loop E (fun x=>aT s (K x)) (fun x=>acg x∧Ok s (K x)) μ nC ⟨an,ad⟩ eJ U ?_;rintro x ⟨ab,Sa⟩;refine (round x ab Sa).mono ?_;intro e eP aj h;cases e with
 | normal=>
  obtain ⟨y,nM,dt,g1,g2,g3,rfl,g4,g5⟩:=h;obtain ⟨cD,dh⟩:=g5.sub g4;exact ⟨y,⟨g1,dh⟩,g3,cD,g2⟩
 | exit id=>exact h
 | ret=>exact h
 | panic v=>exact h
theorem bn.mk {σ:Type} {E:σ→Env} {K:σ→a8} {acg:σ→Prop} {ok:σ→Prop} (y:σ) {dt:a8} (I:Ok s L) (an:acg y) (eJ:Env.Sub (E y) env) (ch:aH L (K y) dt) (hm:ok y):bn s E K acg ok env (aT s L):=⟨y,L,dt,an,hm,eJ,rfl,I,ch⟩
def lJ {σ:Type} (s:ao) (E:σ→Env) (K:σ→a8) (acg:σ→Prop) (e:b8) (eP:Env) (aj:ao):Prop:=
 e = .normal∧∃ y nM dt,acg y∧Env.Sub (E y) eP∧aj=aT s nM∧Ok s nM∧aH nM (K y) dt
theorem lJ.mk {σ:Type} {E:σ→Env} {K:σ→a8} {acg:σ→Prop} (y:σ) {dt:a8} (I:Ok s L) (an:acg y) (eJ:Env.Sub (E y) env) (ch:aH L (K y) dt):lJ s E K acg .normal env (aT s L):=⟨rfl,y,L,dt,an,eJ,rfl,I,ch⟩
theorem ae.xM {σ:Type} {x y:Code} {om:b8→Env→ao→Prop} (E:σ→Env) (K:σ→a8) (acg:σ→Prop) (vM:ae P N x (lJ s E K acg) env (aT s L)) (vN:∀ z,acg z→Ok s (K z)→ae P N y Q (E z) (aT s (K z))) :
  ae P N x (b8.andThen (ae P N y Q) om) env (aT s L):=by
 refine vM.mono ?_;rintro e eP aj ⟨rfl,z,nM,dt,g1,g2,rfl,g3,g4⟩;obtain ⟨cD,dh⟩:=g4.sub g3;exact ae.sub _ g2 (ae.drop _ cD (vN z g1 dh))
theorem ae.Sb {σ:Type} {x y:Code} (E:σ→Env) (K:σ→a8) (acg:σ→Prop) (vM:ae P N x (lJ s E K acg) env (aT s L)) (vN:∀ z,acg z→Ok s (K z)→ae P N y Q (E z) (aT s (K z))):ae P N (.seq x y) Q env (aT s L):=
 ae.seq (ae.xM E K acg vM vN)
end
section
variable {P:Program} {Γ:cw} {N:Nat} {l:List Oper} {Q:b8→Env→ao→Prop} {env:Env} {s:ao} {m:Nat} {L R:a8}
theorem bc.CD {i:Nat} {o:Oper} {d:Nat} {f:FuncId} {as:Array Operand} {c6:Array TypeId} {xs:List af} {v:af} (aF:ix l.toArray m i=true) (ah:l.toArray[i]? = some o) (ax:o.dst=some d) (aU:Nat.blt d N=true)
  (aw:c7 l env o) (b2:o.op = .call { callee := .value (.func f),args:=as,argTypes:=c6 }) (a7:fM (bZ l env o) as.toList=some xs) (h:aR P f xs v)
  (k:bc P Γ N l.toArray Q (bV (m|||2^i)) ((d,v)::env) s):bc P Γ N l.toArray Q (bV m) env s:=
 bc.R9 aF ah ax aU aw b2 a7 h k
theorem bc.eB (i:Nat) (aP:bQ P Γ) (I:Ok s L) {o:Oper} {d:Nat} {t T:TypeId} {x:Operand} {dX:bM} {b off:Nat} {cs:List af} {v:af} (aF:eE l.toArray m (idxs 0 l)=[i]) (ah:l.toArray[i]? = some o) (ax:o.dst=some d)
  (aU:Nat.blt d N=true) (aw:c7 l env o) (b2:o.op = .load t x) (aM:Γ.get? t=some dX) (ab:aJ (bZ l env o) x=some (.ptr b off))
  (ar:bp L (.own b) (.box T cs) R) (av:hI dX cs off=some v) (h:bc P Γ N l.toArray Q (bV (m|||2^i)) ((d,v)::env) (aT s L)):bc P Γ N l.toArray Q (bV m) env (aT s L):=
 bc.one aF ah ax aU aw (aZ.eB aP I b2 aM ab ar av (X:=fun _ _=>False)) (fun x aj ⟨U,ad⟩=>by subst U;subst ad;exact h) (fun _ _ h=>h.elim)
theorem bc.cT (i:Nat) (aP:bQ P Γ) (I:Ok s L) {o:Oper} {t T:TypeId} {x y:Operand} {dX:bM} {b off:Nat} {cs us:List af} {v:af} (aF:eE l.toArray m (idxs 0 l)=[i]) (ah:l.toArray[i]? = some o) (ax:o.dst=none)
  (aw:c7 l env o) (b2:o.op = .store t x y) (aM:Γ.get? t=some dX) (ab:aJ (bZ l env o) x=some (.ptr b off)) (ay:aJ (bZ l env o) y=some v)
  (av:cellsOf v=some us) (hu:Nat.beq us.length dX.size=true) (U:us.all e7=true) (ar:bp L (.own b) (.box T cs) R) (fy:Nat.ble (off+us.length) cs.length=true)
  (h:Ok s ((.own b,.box T (eQ off us cs))::R)→bc P Γ N l.toArray Q (bV (m|||2^i)) env (aT s ((.own b,.box T (eQ off us cs))::R))):bc P Γ N l.toArray Q (bV m) env (aT s L):=
 bc.xG aF ah ax aw (aZ.cT aP I b2 aM ab ay av hu U ar fy (X:=fun _ _=>False)) (fun x aj ⟨U,ad⟩=>by subst U;exact h ad) (fun _ _ h=>h.elim)
theorem bc.dY (i:Nat) (aP:bQ P Γ) (I:Ok s L) {o:Oper} {d:Nat} {t:TypeId} {dX:bM} {z:af} {cs:List af} (aF:eE l.toArray m (idxs 0 l)=[i]) (ah:l.toArray[i]? = some o) (ax:o.dst=some d)
  (aU:Nat.blt d N=true) (aw:c7 l env o) (b2:o.op = .alloc t) (aM:Γ.get? t=some dX) (bO:hx dX.zero=some z) (aC:cellsOf z=some cs)
  (h:∀ b,Ok s ((.own b,.box t cs)::L)→bc P Γ N l.toArray Q (bV (m|||2^i)) ((d,.ptr b 0)::env) (aT s ((.own b,.box t cs)::L))):bc P Γ N l.toArray Q (bV m) env (aT s L):=
 bc.one aF ah ax aU aw (aZ.dY aP I b2 aM bO aC (X:=fun _ _=>False)) (fun x aj ⟨b,U,ad,al⟩=>by subst U;subst ad;exact h b al) (fun _ _ h=>h.elim)
theorem bc.gb (i:Nat) (aP:bQ P Γ) (I:Ok s L) {o:Oper} {d:Nat} {t bH e:TypeId} {x y:Operand} {it ct aG:bM} {dR bU sz n:Nat} {xs:List af} {v:af} {own dj:bL} (aF:eE l.toArray m (idxs 0 l)=[i]) (ah:l.toArray[i]? = some o)
  (ax:o.dst=some d) (aU:Nat.blt d N=true) (aw:c7 l env o) (b2:o.op = .call { callee := .builtin .append,args := #[x,y],argTypes := #[t,bH] }) (aM:Γ.get? t=some it)
  (br:it.bF = .aA e) (cV:Γ.get? bH=some ct) (dn:∀ k,ct.bF ≠ .int k) (bI:Γ.get? e=some aG) (ab:aJ (bZ l env o) x=some (.aA dR xs own)) (ay:aJ (bZ l env o) y=some (.aA bU [v] dj)) (hT:dR=aG.size) (c8:bU=aG.size)
  (dO:Nat.beq aG.zero.cells.size aG.size=true) (dJ:j5 aG.size v=true) (b':sz=aG.size) (ar:bp L own (.row e sz n) R) (az:n=xs.length) (aq:(n+1)*aG.bytes≤140737488355328) (ei:n+1≤9223372036854775807)
  (h:∀ b,Ok s ((.own b,.row e sz (n+1))::R)→bc P Γ N l.toArray Q (bV (m|||2^i)) ((d,.aA sz (xs++[v]) (.own b))::env) (aT s ((.own b,.row e sz (n+1))::R))):bc P Γ N l.toArray Q (bV m) env (aT s L):=by
 subst az;refine bc.one aF ah ax aU aw (aZ.qs aP I b2 aM br cV dn bI ab ay hT (.inr c8) dO (by intro y ay;simp at ay;subst ay;exact dJ) aq ei C (n':=xs.length+1) C b' ar (X:=fun _ _=>False)) ?_ (fun _ _ h=>h.elim);rintro r aj ⟨cQ,ad,-,rfl,rfl,al⟩;obtain ⟨b,rfl⟩:=ad a';exact h b al
end
section
variable {P:Program} {Γ:cw} {N:Nat} {ops:Array Oper} {Q:b8→Env→ao→Prop} {env:Env} {s:ao} {o:Oper} {d:Nat}
theorem aZ.weaken {K X aO m0:af→ao→Prop} (h:aZ P N o env s K X) (bg:∀ x aj,K x aj→∃ y eG,aS x y∧ao.Sub eG aj∧aO y eG) (iq:∀ x aj,X x aj→∃ eG,ao.Sub eG aj∧m0 x eG):aZ P N o env s aO m0:=by
 refine ⟨h.1,fun ro B a w p aI=>(h.2 ro B a w p aI).mono ?_⟩;rintro e w' ⟨aj,bj,U,ad,al,bd⟩;cases e with
 | returned v=>
  obtain ⟨x,aE,aF⟩:=bd;obtain ⟨y,eG,hle,ar,eC⟩:=bg x aj aE;exact ⟨eG,bj,U,ad.sub ar,al.sub ar,y,eC,hle _ _ _ aF⟩
 | panicked dB=>
  obtain ⟨v,x,kI,aE,aF⟩:=bd;obtain ⟨eG,ar,eC⟩:=iq x aj aE;exact ⟨eG,bj,U,ad.sub ar,al.sub ar,v,x,kI,eC,aF⟩
 | outgrown=>exact bd.elim
theorem aZ.rp (aP:bQ P Γ) {t bH e:TypeId} {x y:Operand} {it ct aG:bM} {dR bU:Nat} {xs ys:List af} {own dj:bL}
  (ah:o.op = .call { callee := .builtin .append,args := #[x,y],argTypes := #[t,bH] }) (aM:Γ.get? t=some it) (br:it.bF = .aA e) (cV:Γ.get? bH=some ct) (dn:∀ k,ct.bF ≠ .int k)
  (bI:Γ.get? e=some aG) (ab:aJ env x=some (.aA dR xs own)) (ay:aJ env y=some (.aA bU ys dj)) (hT:xs=[]∨dR=aG.size) (c8:ys=[]∨bU=aG.size)
  (dO:Nat.beq aG.zero.cells.size aG.size=true) (dJ:∀ y∈ys,j5 aG.size y=true) (aq:(xs.length+ys.length)*aG.bytes≤140737488355328) (ei:xs.length+ys.length≤9223372036854775807)
  (pv:own = .nil∨own = .clip) {X:af→ao→Prop}:aZ P N o env s (fun r aj=>r = .aA aG.size (xs++ys) .bb∧aj=s) X:=by
 refine (aZ.append aP ah aM br cV dn bI ab ay hT c8 dO dJ aq ei (.inl pv) (X:=X)).weaken ?_ (fun _ aj h=>⟨aj,ao.ou _,h⟩);rintro r aj (⟨rfl,_,rfl,rfl⟩|⟨s₁,vr,b,U,rfl,rfl⟩)
 ·exact ⟨_,_,by rw [List.append_nil];exact aS.bb,ao.ou _,rfl,rfl⟩
 ·rcases vr with rfl|⟨aW,rfl,rfl⟩
  ·exact ⟨_,_,aS.bb,ao.vi _ _ _ U,rfl,rfl⟩
  ·rcases pv with e|e<;>cases e
theorem aa.rp (aP:bQ P Γ) {l:List Oper} {t bH e:TypeId} {x y:Operand} {it ct aG:bM} {dR bU:Nat} {xs ys:List af} {own dj:bL} (aw:guardOf ops env o=some true) (ax:o.dst=some d) (aU:Nat.blt d N=true)
  (ah:o.op = .call { callee := .builtin .append,args := #[x,y],argTypes := #[t,bH] }) (aM:Γ.get? t=some it) (br:it.bF = .aA e) (cV:Γ.get? bH=some ct) (dn:∀ k,ct.bF ≠ .int k)
  (bI:Γ.get? e=some aG) (ab:aJ env x=some (.aA dR xs own)) (ay:aJ env y=some (.aA bU ys dj)) (hT:xs=[]∨dR=aG.size) (c8:ys=[]∨bU=aG.size)
  (dO:Nat.beq aG.zero.cells.size aG.size=true) (dJ:∀ y∈ys,j5 aG.size y=true) (aq:(xs.length+ys.length)*aG.bytes≤140737488355328) (ei:xs.length+ys.length≤9223372036854775807)
  (pv:own = .nil∨own = .clip) (h:aa P N ops l Q ((d,.aA aG.size (xs++ys) .bb)::env) s):aa P N ops (o::l) Q env s:=
 aa.op aw ax aU (aZ.rp aP ah aM br cV dn bI ab ay hT c8 dO dJ aq ei pv (X:=fun _ _=>False)) (fun x aj ⟨U,ad⟩=>by subst U;subst ad;exact h) (fun _ _ h=>h.elim)
theorem bc.rp (i:Nat) (aP:bQ P Γ) {l:List Oper} {m:Nat} {t bH e:TypeId} {x y:Operand} {it ct aG:bM} {dR bU:Nat} {xs ys:List af} {own dj:bL} (aF:ix l.toArray m i=true) (aQ:l.toArray[i]? = some o) (ax:o.dst=some d) (aU:Nat.blt d N=true)
  (aw:c7 l env o)
  (ah:o.op = .call { callee := .builtin .append,args := #[x,y],argTypes := #[t,bH] }) (aM:Γ.get? t=some it) (br:it.bF = .aA e) (cV:Γ.get? bH=some ct) (dn:∀ k,ct.bF ≠ .int k)
  (bI:Γ.get? e=some aG) (ab:aJ (bZ l env o) x=some (.aA dR xs own)) (ay:aJ (bZ l env o) y=some (.aA bU ys dj)) (hT:xs=[]∨dR=aG.size) (c8:ys=[]∨bU=aG.size)
  (dO:Nat.beq aG.zero.cells.size aG.size=true) (dJ:∀ y∈ys,j5 aG.size y=true) (aq:(xs.length+ys.length)*aG.bytes≤140737488355328) (ei:xs.length+ys.length≤9223372036854775807)
  (pv:own = .nil∨own = .clip) (h:bc P Γ N l.toArray Q (bV (m|||2^i)) ((d,.aA aG.size (xs++ys) .bb)::env) s):bc P Γ N l.toArray Q (bV m) env s:=
 bc.calm aF aQ ax aU aw (fun _=>aZ.rp aP ah aM br cV dn bI ab ay hT c8 dO dJ aq ei pv) h
end
def dK:List (Nat×dC)→ao→Prop
 | [],_=>True
 | e::K,s=>s e.1=some e.2∧dK K s
theorem dK.one {b:Nat} {o:dC} {s:ao} (h:s b=some o):dK [(b,o)] s:=⟨h,trivial⟩
theorem dK.two {b aW:Nat} {o o':dC} {s:ao} (h:s b=some o) (eT:s aW=some o'):dK [(b,o),(aW,o')] s:=⟨h,eT,trivial⟩
theorem dK.fst {b:Nat} {o:dC} {K:List (Nat×dC)} {s:ao} (h:dK ((b,o)::K) s):s b=some o:=h.1
theorem dK.snd {e:Nat×dC} {b:Nat} {o:dC} {K:List (Nat×dC)} {s:ao} (h:dK (e::(b,o)::K) s):s b=some o:=h.2.1
section
variable {J:ao→Prop} {P:Program} {Γ:cw} {N:Nat} {l:List Oper} {Q:b8→Env→ao→Prop} {env:Env} {s:ao} {m:Nat} {L R:a8} {o:Oper} {d:Nat}
theorem bm.nN (i:Nat) (aP:bQ P Γ) (cy:J s) {t T:TypeId} {x:Operand} {dX:bM} {b off:Nat} {cs:List af} {v:af} (aF:ix l.toArray m i=true) (ah:l.toArray[i]? = some o) (ax:o.dst=some d) (aU:Nat.blt d N=true)
  (aw:c7 l env o) (b2:o.op = .load t x) (aM:Γ.get? t=some dX) (ab:aJ (bZ l env o) x=some (.ptr b off)) (ar:∀ s,J s→s b=some (.box T cs)) (av:hI dX cs off=some v)
  (h:bm J P Γ N l.toArray Q (bV (m|||2^i)) ((d,v)::env) s):bm J P Γ N l.toArray Q (bV m) env s:=
 bm.rm cy aF ah ax aU aw (fun s hz=>aZ.tM aP b2 aM ab (ar s hz) av) h
theorem bm.rp (i:Nat) (aP:bQ P Γ) (cy:J s) {t bH e:TypeId} {x y:Operand} {it ct aG:bM} {dR bU:Nat} {xs ys:List af} {own dj:bL} (aF:ix l.toArray m i=true) (aQ:l.toArray[i]? = some o) (ax:o.dst=some d) (aU:Nat.blt d N=true)
  (aw:c7 l env o)
  (ah:o.op = .call { callee := .builtin .append,args := #[x,y],argTypes := #[t,bH] }) (aM:Γ.get? t=some it) (br:it.bF = .aA e) (cV:Γ.get? bH=some ct) (dn:∀ k,ct.bF ≠ .int k)
  (bI:Γ.get? e=some aG) (ab:aJ (bZ l env o) x=some (.aA dR xs own)) (ay:aJ (bZ l env o) y=some (.aA bU ys dj)) (hT:xs=[]∨dR=aG.size) (c8:ys=[]∨bU=aG.size)
  (dO:Nat.beq aG.zero.cells.size aG.size=true) (dJ:∀ y∈ys,j5 aG.size y=true) (aq:(xs.length+ys.length)*aG.bytes≤140737488355328) (ei:xs.length+ys.length≤9223372036854775807)
  (pv:own = .nil∨own = .clip) (h:bm J P Γ N l.toArray Q (bV (m|||2^i)) ((d,.aA aG.size (xs++ys) .bb)::env) s):bm J P Γ N l.toArray Q (bV m) env s:=
 bm.rm cy aF aQ ax aU aw (fun _ _=>aZ.rp aP ah aM br cV dn bI ab ay hT c8 dO dJ aq ei pv) h
theorem bm.CD {i:Nat} (cy:J s) {f:FuncId} {as:Array Operand} {c6:Array TypeId} {xs:List af} {v:af} (aF:ix l.toArray m i=true) (ah:l.toArray[i]? = some o) (ax:o.dst=some d) (aU:Nat.blt d N=true)
  (aw:c7 l env o) (b2:o.op = .call { callee := .value (.func f),args:=as,argTypes:=c6 }) (a7:fM (bZ l env o) as.toList=some xs) (h:aR P f xs v)
  (k:bm J P Γ N l.toArray Q (bV (m|||2^i)) ((d,v)::env) s):bm J P Γ N l.toArray Q (bV m) env s:=
 bm.rm cy aF ah ax aU aw (fun s _=>(aZ.call b2 (fv := .func f [] []) rfl a7 (hL.fk (R:=fun o aj=>o = .ret v∧aj=s) (by simpa using h s))).mono (fun x aj h=>by cases h.1;exact ⟨rfl,h.2⟩) (fun x aj h=>by cases h.1)) k
theorem bm.cT (i:Nat) (aP:bQ P Γ) (I:Ok s L) {t T:TypeId} {x y:Operand} {dX:bM} {b off:Nat} {cs us:List af} {v:af} (aF:eE l.toArray m (idxs 0 l)=[i]) (ah:l.toArray[i]? = some o) (ax:o.dst=none)
  (aw:c7 l env o) (b2:o.op = .store t x y) (aM:Γ.get? t=some dX) (ab:aJ (bZ l env o) x=some (.ptr b off)) (ay:aJ (bZ l env o) y=some v)
  (av:cellsOf v=some us) (hu:Nat.beq us.length dX.size=true) (U:us.all e7=true) (ar:bp L (.own b) (.box T cs) R) (fy:Nat.ble (off+us.length) cs.length=true)
  (aK:Ok s ((.own b,.box T (eQ off us cs))::R)→J (aT s ((.own b,.box T (eQ off us cs))::R))∨ko l.toArray i=true)
  (h:Ok s ((.own b,.box T (eQ off us cs))::R)→bm J P Γ N l.toArray Q (bV (m|||2^i)) env (aT s ((.own b,.box T (eQ off us cs))::R))):bm J P Γ N l.toArray Q (bV m) env (aT s L):=
 bm.xG aF ah ax aw (aZ.cT aP I b2 aM ab ay av hu U ar fy (X:=fun _ _=>False)) (fun x aj ⟨U,ad⟩=>by subst U;exact aK ad) (fun x aj ⟨U,ad⟩=>by subst U;exact h ad) (fun _ _ h=>h.elim)
theorem bm.dY (i:Nat) (aP:bQ P Γ) (I:Ok s L) {t:TypeId} {dX:bM} {z:af} {cs:List af} (aF:eE l.toArray m (idxs 0 l)=[i]) (ah:l.toArray[i]? = some o) (ax:o.dst=some d)
  (aU:Nat.blt d N=true) (aw:c7 l env o) (b2:o.op = .alloc t) (aM:Γ.get? t=some dX) (bO:hx dX.zero=some z) (aC:cellsOf z=some cs)
  (aK:∀ b,Ok s ((.own b,.box t cs)::L)→J (aT s ((.own b,.box t cs)::L))∨ko l.toArray i=true)
  (h:∀ b,Ok s ((.own b,.box t cs)::L)→bm J P Γ N l.toArray Q (bV (m|||2^i)) ((d,.ptr b 0)::env) (aT s ((.own b,.box t cs)::L))):bm J P Γ N l.toArray Q (bV m) env (aT s L):=
 bm.one aF ah ax aU aw (aZ.dY aP I b2 aM bO aC (X:=fun _ _=>False)) (fun x aj ⟨b,U,ad,al⟩=>by subst U;subst ad;exact aK b al) (fun x aj ⟨b,U,ad,al⟩=>by subst U;subst ad;exact h b al) (fun _ _ h=>h.elim)
theorem bm.qs (i:Nat) (aP:bQ P Γ) (I:Ok s L) {t bH e:TypeId} {x y:Operand} {it ct aG:bM} {dR bU sz n n':Nat} {xs ys:List af} {own dj:bL} (aF:eE l.toArray m (idxs 0 l)=[i]) (ah:l.toArray[i]? = some o)
  (ax:o.dst=some d) (aU:Nat.blt d N=true) (aw:c7 l env o) (b2:o.op = .call { callee := .builtin .append,args := #[x,y],argTypes := #[t,bH] }) (aM:Γ.get? t=some it)
  (br:it.bF = .aA e) (cV:Γ.get? bH=some ct) (dn:∀ k,ct.bF ≠ .int k) (bI:Γ.get? e=some aG) (ab:aJ (bZ l env o) x=some (.aA dR xs own)) (ay:aJ (bZ l env o) y=some (.aA bU ys dj)) (hT:dR=aG.size) (c8:ys=[]∨bU=aG.size)
  (dO:Nat.beq aG.zero.cells.size aG.size=true) (dJ:∀ y∈ys,j5 aG.size y=true) (b':sz=aG.size) (ar:bp L own (.row e sz n) R) (az:n=xs.length) (fX:n'=xs.length+ys.length) (aq:(xs.length+ys.length)*aG.bytes≤140737488355328) (ei:xs.length+ys.length≤9223372036854775807)
  (aK:∀ cQ,Ok s ((cQ,.row e sz n')::R)→J (aT s ((cQ,.row e sz n')::R))∨ko l.toArray i=true)
  (h:∀ cQ,Ok s ((cQ,.row e sz n')::R)→bm J P Γ N l.toArray Q (bV (m|||2^i)) ((d,.aA sz (xs++ys) cQ)::env) (aT s ((cQ,.row e sz n')::R))):bm J P Γ N l.toArray Q (bV m) env (aT s L):=by
 refine bm.one aF ah ax aU aw (aZ.qs aP I b2 aM br cV dn bI ab ay hT c8 dO dJ aq ei az fX b' ar (X:=fun _ _=>False)) ?_ ?_ (fun _ _ h=>h.elim)
 ·rintro r aj ⟨cQ,-,-,rfl,rfl,al⟩
  exact aK cQ al
 ·rintro r aj ⟨cQ,-,-,rfl,rfl,al⟩
  exact h cQ al
theorem bm.gb (i:Nat) (aP:bQ P Γ) (I:Ok s L) {t bH e:TypeId} {x y:Operand} {it ct aG:bM} {dR bU sz n:Nat} {xs:List af} {v:af} {own dj:bL} (aF:eE l.toArray m (idxs 0 l)=[i]) (ah:l.toArray[i]? = some o)
  (ax:o.dst=some d) (aU:Nat.blt d N=true) (aw:c7 l env o) (b2:o.op = .call { callee := .builtin .append,args := #[x,y],argTypes := #[t,bH] }) (aM:Γ.get? t=some it)
  (br:it.bF = .aA e) (cV:Γ.get? bH=some ct) (dn:∀ k,ct.bF ≠ .int k) (bI:Γ.get? e=some aG) (ab:aJ (bZ l env o) x=some (.aA dR xs own)) (ay:aJ (bZ l env o) y=some (.aA bU [v] dj)) (hT:dR=aG.size) (c8:bU=aG.size)
  (dO:Nat.beq aG.zero.cells.size aG.size=true) (dJ:j5 aG.size v=true) (b':sz=aG.size) (ar:bp L own (.row e sz n) R) (az:n=xs.length) (aq:(n+1)*aG.bytes≤140737488355328) (ei:n+1≤9223372036854775807)
  (aK:∀ cQ,Ok s ((cQ,.row e sz (n+1))::R)→J (aT s ((cQ,.row e sz (n+1))::R))∨ko l.toArray i=true)
  (h:∀ cQ,Ok s ((cQ,.row e sz (n+1))::R)→bm J P Γ N l.toArray Q (bV (m|||2^i)) ((d,.aA sz (xs++[v]) cQ)::env) (aT s ((cQ,.row e sz (n+1))::R))):bm J P Γ N l.toArray Q (bV m) env (aT s L):=by
 subst az;exact bm.qs i aP I aF ah ax aU aw b2 aM br cV dn bI ab ay hT (.inr c8) dO (by intro y ay;simp at ay;subst ay;exact dJ) b' ar C C aq ei aK h
theorem bm.b3 {acs:ey→a8→Prop} {K:a8} {i:Nat} {f:FuncId} {as:Array Operand} {c6:Array TypeId} {xs:List af} (aF:eE l.toArray m (idxs 0 l)=[i]) (ah:l.toArray[i]? = some o) (ax:o.dst=some d) (aU:Nat.blt d N=true)
  (aw:c7 l env o) (b2:o.op = .call { callee := .value (.func f),args:=as,argTypes:=c6 }) (a7:fM (bZ l env o) as.toList=some xs) (h:bE P f xs K acs) (I:Ok s L) (ar:aH L K R)
  (aK:∀ x aO,acs (.ret x) aO→Ok s (aO++R)→J (aT s (aO++R))∨ko l.toArray i=true)
  (aE:∀ x aO,acs (.ret x) aO→Ok s (aO++R)→bm J P Γ N l.toArray Q (bV (m|||2^i)) ((d,x)::env) (aT s (aO++R))) (ab:∀ x aO,acs (.panic x) aO→Ok s (aO++R)→Q (.panic x) [] (aT s (aO++R))):bm J P Γ N l.toArray Q (bV m) env (aT s L):=
 bm.one aF ah ax aU aw (aZ.b3 b2 a7 h I ar) (fun x aj ⟨aO,U,ad,al⟩=>by subst U;exact aK x aO al ad) (fun x aj ⟨aO,U,ad,al⟩=>by subst U;exact aE x aO al ad) (fun x aj ⟨aO,U,ad,al⟩=>by subst U;exact ab x aO al ad)
theorem bm.gH {acs:ey→a8→Prop} {K:a8} {i:Nat} {g:Operand} {fv:af} {as:Array Operand} {c6:Array TypeId} {xs:List af} (aF:eE l.toArray m (idxs 0 l)=[i]) (ah:l.toArray[i]? = some o) (ax:o.dst=some d) (aU:Nat.blt d N=true)
  (aw:c7 l env o) (b2:o.op = .call { callee := .value g,args:=as,argTypes:=c6 }) (av:aJ (bZ l env o) g=some fv) (a7:fM (bZ l env o) as.toList=some xs) (h:dp P fv xs K acs) (I:Ok s L) (ar:aH L K R)
  (aK:∀ x aO,acs (.ret x) aO→Ok s (aO++R)→J (aT s (aO++R))∨ko l.toArray i=true)
  (aE:∀ x aO,acs (.ret x) aO→Ok s (aO++R)→bm J P Γ N l.toArray Q (bV (m|||2^i)) ((d,x)::env) (aT s (aO++R))) (ab:∀ x aO,acs (.panic x) aO→Ok s (aO++R)→Q (.panic x) [] (aT s (aO++R))):bm J P Γ N l.toArray Q (bV m) env (aT s L):=
 bm.one aF ah ax aU aw (aZ.gH b2 av a7 h I ar) (fun x aj ⟨aO,U,ad,al⟩=>by subst U;exact aK x aO al ad) (fun x aj ⟨aO,U,ad,al⟩=>by subst U;exact aE x aO al ad) (fun x aj ⟨aO,U,ad,al⟩=>by subst U;exact ab x aO al ad)
end
section
variable {J:ao→Prop} {P:Program} {Γ:cw} {N:Nat} {ops:Array Oper} {Q:b8→Env→ao→Prop} {env:Env} {s:ao} {o:Oper} {d m:Nat} {L:a8} {l:List Oper}
theorem aZ.zI (aP:bQ P Γ) (I:Ok s L) {t bH e:TypeId} {x y:Operand} {it ct aG:bM} {dR bU sz n':Nat} {ys:List af} {dj:bL}
  (ah:o.op = .call { callee := .builtin .append,args := #[x,y],argTypes := #[t,bH] }) (aM:Γ.get? t=some it) (br:it.bF = .aA e) (cV:Γ.get? bH=some ct) (dn:∀ k,ct.bF ≠ .int k)
  (bI:Γ.get? e=some aG) (ab:aJ env x=some (.aA dR [] .nil)) (ay:aJ env y=some (.aA bU ys dj)) (c8:ys=[]∨bU=aG.size)
  (dO:Nat.beq aG.zero.cells.size aG.size=true) (dJ:∀ y∈ys,j5 aG.size y=true) (b':sz=aG.size) (fX:n'=ys.length) (aq:n'*aG.bytes≤140737488355328) (ei:n'≤9223372036854775807) {X:af→ao→Prop} :
  aZ P N o env (aT s L) (fun r aj=>∃ cQ,r = .aA sz ys cQ∧aj=aT s ((cQ,.row e sz n')::L)∧Ok s ((cQ,.row e sz n')::L)) X:=by
 subst b';subst fX;refine (aZ.append aP ah aM br cV dn bI ab ay (.inl C) c8 dO dJ (by simpa using aq) (by simpa using ei) (.inl (.inl C)) (X:=X)).mono ?_ (fun _ _ h=>h);rintro r aj (⟨U,-,rfl,rfl⟩|⟨s₁,vr,b,U,rfl,rfl⟩)
 ·exact ⟨.nil,by rw [U],rfl,trivial,I⟩
 ·rcases vr with rfl|⟨aW,e,-⟩
  ·exact ⟨.own b,by simp,by simp only [List.length_nil,Nat.zero_add];rfl,U,I⟩
  ·cases e
theorem aa.zI (aP:bQ P Γ) (I:Ok s L) {t bH e:TypeId} {x y:Operand} {it ct aG:bM} {dR bU sz n':Nat} {ys:List af} {dj:bL} (aw:guardOf ops env o=some true) (ax:o.dst=some d) (aU:Nat.blt d N=true)
  (ah:o.op = .call { callee := .builtin .append,args := #[x,y],argTypes := #[t,bH] }) (aM:Γ.get? t=some it) (br:it.bF = .aA e) (cV:Γ.get? bH=some ct) (dn:∀ k,ct.bF ≠ .int k)
  (bI:Γ.get? e=some aG) (ab:aJ env x=some (.aA dR [] .nil)) (ay:aJ env y=some (.aA bU ys dj)) (c8:ys=[]∨bU=aG.size)
  (dO:Nat.beq aG.zero.cells.size aG.size=true) (dJ:∀ y∈ys,j5 aG.size y=true) (b':sz=aG.size) (fX:n'=ys.length) (aq:n'*aG.bytes≤140737488355328) (ei:n'≤9223372036854775807)
  (h:∀ cQ,Ok s ((cQ,.row e sz n')::L)→aa P N ops l Q ((d,.aA sz ys cQ)::env) (aT s ((cQ,.row e sz n')::L))):aa P N ops (o::l) Q env (aT s L):=
 aa.op aw ax aU (aZ.zI aP I ah aM br cV dn bI ab ay c8 dO dJ b' fX aq ei (X:=fun _ _=>False)) (fun r aj ⟨cQ,U,ad,al⟩=>by subst U;subst ad;exact h cQ al) (fun _ _ h=>h.elim)
theorem bm.zI (i:Nat) (aP:bQ P Γ) (I:Ok s L) {t bH e:TypeId} {x y:Operand} {it ct aG:bM} {dR bU sz n':Nat} {ys:List af} {dj:bL} (aF:eE l.toArray m (idxs 0 l)=[i]) (aQ:l.toArray[i]? = some o) (ax:o.dst=some d) (aU:Nat.blt d N=true)
  (aw:c7 l env o)
  (ah:o.op = .call { callee := .builtin .append,args := #[x,y],argTypes := #[t,bH] }) (aM:Γ.get? t=some it) (br:it.bF = .aA e) (cV:Γ.get? bH=some ct) (dn:∀ k,ct.bF ≠ .int k)
  (bI:Γ.get? e=some aG) (ab:aJ (bZ l env o) x=some (.aA dR [] .nil)) (ay:aJ (bZ l env o) y=some (.aA bU ys dj)) (c8:ys=[]∨bU=aG.size)
  (dO:Nat.beq aG.zero.cells.size aG.size=true) (dJ:∀ y∈ys,j5 aG.size y=true) (b':sz=aG.size) (fX:n'=ys.length) (aq:n'*aG.bytes≤140737488355328) (ei:n'≤9223372036854775807)
  (aK:∀ cQ,Ok s ((cQ,.row e sz n')::L)→J (aT s ((cQ,.row e sz n')::L))∨ko l.toArray i=true)
  (h:∀ cQ,Ok s ((cQ,.row e sz n')::L)→bm J P Γ N l.toArray Q (bV (m|||2^i)) ((d,.aA sz ys cQ)::env) (aT s ((cQ,.row e sz n')::L))):bm J P Γ N l.toArray Q (bV m) env (aT s L):=
 bm.one aF aQ ax aU aw (aZ.zI aP I ah aM br cV dn bI ab ay c8 dO dJ b' fX aq ei (X:=fun _ _=>False)) (fun r aj ⟨cQ,U,ad,al⟩=>by subst U;subst ad;exact aK cQ al) (fun r aj ⟨cQ,U,ad,al⟩=>by subst U;subst ad;exact h cQ al) (fun _ _ h=>h.elim)
end
end Go.cU
