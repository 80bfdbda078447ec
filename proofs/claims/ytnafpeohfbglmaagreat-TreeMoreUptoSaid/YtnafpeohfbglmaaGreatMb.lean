import Derived.KernelRfl
import Derived.Test.YtnafpeohfbglmaaGreatMa
import Derived.Laws.IdiomRangeMap
set_option linter.unusedVariables false
set_option linter.unusedSimpArgs false
open Array renaming getElem?_eq_some_iff→i8,getElem?_setIfInBounds→ae5
open Bool renaming and_eq_true→f6
open Go.IntKind renaming wrap→aa'
open List renaming append_nil→d8,cons_append→t8,map_cons→ac0,mem_cons_self→i5,mem_cons→ad4,mem_range'_1→ao1
open Nat renaming beq_refl→ar3,beq→ad0,ble→al9,blt_eq→ak9,blt→i9,eq_of_beq_eq_true→ab',zero_le→g9
open Go.Result renaming andThen_ok→g6
open Go.Sem renaming runT_eq→as0,run_bind→z2,run_pure→ac4
namespace Go.Proofs.YtnafpeohfbglmaaGreat
theorem BS {p:Prop} (h:p:=by simpa [Nat.blt_eq] using aY):p:=h
theorem iN {p:Prop} (h:p:=by simp [gm,ah]):p:=h
def BT:ds→Bool
 | .kN _ _ _ _=>false
 | _=>true
theorem Jw {w w':World} {p bg:bO} {b:Nat} {o:ds} (a1:BT o=true) (h:pK w p b o) (hle:c8 w p w' bg) (c6:w'.heap[b]? = w.heap[b]?) (aE:∀ x,bg b x→p b x):pK w' bg b o:=by
 cases o with
 | box t c=>obtain ⟨us,g1,g2,g3⟩:=h;exact ⟨us,c6.trans g1,g2.mono hle,fun o ah=>g3 o (aE o ah)⟩
 | row t sz n=>obtain ⟨cur,g1,g2,g3,g4⟩:=h;exact ⟨cur,c6.trans g1,g2,g3,fun o=>⟨fun ah=>(g4 o).1 (aE o ah),fun ah=>hle.kM _ _ ((g4 o).2 ah)⟩⟩
 | map es=>obtain ⟨cJ,c,g1,g2,g3⟩:=h;exact ⟨cJ,c,c6.trans g1,⟨g2.1.mono hle,g2.2.mono hle⟩,g3⟩
 | kN es it l c=>cases a1
 | tick m=>obtain ⟨dm,a2,a3,g1⟩:=h;exact ⟨dm,a2,a3,c6.trans g1⟩
 | loop r env=>exact ⟨c6.trans h.1,fun t v ar=>(h.2 t v ar).mono hle⟩
theorem BU {s ai:ak} {w w':World} {p bg:bO} {b:Nat} {o:ds} (an:s b=none) (a1:BT o=true) (b5:df w p (s.set b o)) (hle:c8 w p w' bg) (aD:Kept s ai w p w' bg) (ku:df w' bg ai) :
  ai b=none∧Kept (s.set b o) (ai.set b o) w p w' bg∧df w' bg (ai.set b o):=by
 have ah:=b5.obj b o (ak.fT _ _ _);have az:=ah.lt;have aA:=aD.kl b az an;refine ⟨aA,⟨fun aT dF ao=>?_,fun aT dF ao=>?_,fun aT x dF ao ab=>?_⟩,⟨fun aT o' dF=>?_,ku.lt⟩⟩
 ·obtain ⟨U,ad⟩:=ak.tq ao;exact aD.heap aT dF ad
 ·obtain ⟨U,ad⟩:=ak.tq ao;rw [ak.fk _ _ U];exact aD.kl aT dF ad
 ·obtain ⟨U,ad⟩:=ak.tq ao;exact aD.kM aT x dF ad ab
 ·by_cases e:aT=b
  ·subst e
   rw [ak.fT] at dF;cases dF;exact Jw a1 ah hle (aD.heap aT az an) (fun x ab=>aD.kM aT x az an ab)
  ·rw [ak.fk _ _ e] at dF;exact ku.obj aT o' dF
theorem hG.frame {P:Program} {fv:af} {args:List af} {s:ak} {R:eo→ak→Prop} (b:Nat) (o:ds) (an:s b=none) (a1:BT o=true) (h:hG P fv args s R) :
  hG P fv args (s.set b o) (fun out ai=>∃ s₁,s₁ b=none∧ai=s₁.set b o∧R out s₁):=by
 intro w p v vs b5 ar eB;refine (h w p v vs (b5.sub (ak.uZ s b o an)) ar eB).mono ?_;rintro e w' ⟨out,ai,bg,U,ad,al,bd,bB⟩;obtain ⟨cv,db,e8⟩:=BU an a1 b5 al bd bB;exact ⟨out,ai.set b o,bg,U,⟨ai,cv,rfl,ad⟩,al,db,e8⟩
theorem gX.frame {P:Program} {f:FuncId} {args:List af} {s:ak} {R:eo→ak→Prop} (b:Nat) (o:ds) (an:s b=none) (a1:BT o=true) (h:gX P f args s R) :
  gX P f args (s.set b o) (fun out ai=>∃ s₁,s₁ b=none∧ai=s₁.set b o∧R out s₁):=by
 refine ⟨h.1,fun w p vs b5 eB=>?_⟩;refine (h.2 w p vs (b5.sub (ak.uZ s b o an)) eB).mono ?_;rintro e w' ⟨out,ai,bg,U,ad,al,bd,bB⟩;obtain ⟨cv,db,e8⟩:=BU an a1 b5 al bd bB;exact ⟨out,ai.set b o,bg,U,⟨ai,cv,rfl,ad⟩,al,db,e8⟩
theorem hG.drop {P:Program} {fv:af} {args:List af} {s ai:ak} {R:eo→ak→Prop} (ao:ak.Sub ai s) (h:hG P fv args ai R):hG P fv args s R:=by
 intro w p v vs b5 ar eB;refine (h w p v vs (b5.sub ao) ar eB).mono ?_;rintro e w' ⟨out,eA,bg,U,ad,al,bd,bB⟩;exact ⟨out,eA,bg,U,ad,al,bd.wY ao,bB⟩
theorem gX.drop {P:Program} {f:FuncId} {args:List af} {s ai:ak} {R:eo→ak→Prop} (ao:ak.Sub ai s) (h:gX P f args ai R):gX P f args s R:=by
 refine ⟨h.1,fun w p vs b5 eB=>(h.2 w p vs (b5.sub ao) eB).mono ?_⟩;rintro e w' ⟨out,eA,bg,U,ad,al,bd,bB⟩;exact ⟨out,eA,bg,U,ad,al,bd.wY ao,bB⟩
def ld (l:Nat):af := .hl (.func (.yield l) #[] #[])
def zb:List Tmp→List af→Env→Env
 | t::fU,v::vs,env=>zb fU vs ((t,v)::env)
 | _,_,env=>env
theorem Rg {N:Nat} {B:fx} {ro:Option Nat} {s:ak} {w:World} {p:bO} {b4:List Deferred}:∀ (fU:List Tmp) (us:List Value) (vs:List af) (env:Env) (tmps:Array Value),
  fU.length=us.length→bD w p us vs→(∀ t∈fU,t<N)→dq N B ro env s { tmps:=tmps,defers:=b4 } w p →
  dq N B ro (zb fU vs env) s { tmps:=(fU.zip us).foldl (fun tmps (t,a)=>tmps.setIfInBounds t a) tmps,defers:=b4 } w p:=by
 intro fU
 induction fU with
 | nil=>intro us vs env tmps aB aC _ aI;exact aI
 | cons t fU aX=>
  intro us vs env tmps aB aC aY aI;cases us with
  | nil=>simp at aB
  | cons u us=>
   cases aC with
   | cons _ v _ vs hu aK=>
   simp only [zb,List.zip_cons_cons,List.foldl_cons];exact aX us vs _ _ (by simpa using aB) aK (fun bI c4=>aY bI (List.mem_cons_of_mem _ c4)) (aI.put (aY t (i5 ..)) hu)
section
variable {P:Program} {Γ:cj} {N:Nat} {Q:bX→Env→ak→Prop} {env:Env} {s:ak}
def busy (r:Loop):Loop:={ r with state := .busy }
def p2 (r:Loop) (j:Code):Loop:={ r with state := .done,pending:=some j }
theorem EN {w:World} {p:bO} {s:ak} (b5:df w p s) {l:Nat} {r r':Loop} {env:Env} (ao:s l=some (.loop r env)) (aK:r'.tmps=r.tmps) (w':World) (h2:w'={ w with heap:=w.heap.setIfInBounds l (.loop r') }) :
  c8 w p w' p∧Kept s (s.set l (.loop r' env)) w p w' p∧df w' p (s.set l (.loop r' env)):=by
 subst h2;have U:w.heap[l]? = some (.loop r):=(b5.obj _ _ ao).1;have ad:=(b5.obj _ _ ao).2;have az:l<w.heap.size:=(i8.1 U).1;have n9:(w.heap.setIfInBounds l (.loop r'))[l]? = some (.loop r'):=by simp [ae5,az]
 have hM:∀ k,k≠l→(w.heap.setIfInBounds l (.loop r'))[k]? = w.heap[k]? := fun k aD=>by
  rw [ae5,f0 (fun e=>aD e.symm)]
 have hle:c8 w p { w with heap:=w.heap.setIfInBounds l (.loop r') } p:=by
  refine ⟨rfl,rfl,rfl,by simp,fun _ _ h=>h,fun b o aE=>?_,fun b x ab=>?_⟩
  ·by_cases e:b=l
   ·subst e;simp only [World.cell?,U,n9]
   ·exact w0 (hM b e)
  ·by_cases e:b=l
   ·subst e;simp [World.kk,U] at ab
   ·rw [wZ (hM b e)];exact ab
 refine ⟨hle,⟨fun b an aA=>hM b (fun e=>by rw [e,ao] at aA;simp at aA),fun b an aA=>?_,fun _ _ _ _ h=>h⟩,⟨fun b o an=>?_,fun b o aE=>by simpa using b5.lt b o aE⟩⟩
 ·rw [ak.fk]
  ·exact aA
  ·intro e;rw [e,ao] at aA;simp at aA
 ·by_cases e:b=l
  ·subst e
   rw [ak.fT] at an;cases an;exact ⟨n9,fun t v ar=>by rw [aK];exact (ad t v ar).mono hle⟩
  ·rw [ak.fk _ _ e] at an
   have ah:=b5.obj b o an;cases o with
   | kN es it kT c=>exact ah.pL hle (hM b e) (hM it (ah.yG U bc))
   | _=>exact Jw C ah hle (hM b e) (fun _ h=>h)
def BV (Rn:ak→Prop) (Rj:Code→ak→Prop) (Rp:af→ak→Prop):bX→Env→ak→Prop
 | .normal,_,s=>Rn s
 | .ret,_,s=>Rj .ret s
 | .exit id,_,s=>Rj (.exit id) s
 | .panic v,_,s=>Rp v s
theorem zd {w:World} {l:Nat} {r:Loop} (h:w.heap[l]? = some (.loop r)):(Instr.getLoop l).run P w = .ok r w:=by
 unfold Instr.getLoop;simp only [z2,w6 h C,g6,ac4]
theorem EO {w:World} {r:Nat} {o o':Obj} (h:w.heap[r]? = some o) (aF:BC o=true):(setObj r o').run P w = .ok () { w with heap:=w.heap.setIfInBounds r o' }:=by
 cases o<;>first|(simp [BC] at aF;done)|simp [setObj,Sem.run,h]
theorem Rh {l:Nat} {r:Loop} {fn:Func} {a:Act} (eU:P.funcs[r.fn]? = some fn) (Ri:r.state = .ready)
  {args:List af} {s₁:ak} {Rn:ak→Prop} {Rj:Code→ak→Prop} {Rp:af→ak→Prop}
  (aC:s₁ l=some (.loop r env)) (xe:args.length=r.params.size) (b':r.tmps.size=N) (Rk:∀ t∈r.params.toList,t<N)
  (r2:ae P N r.assign (bX.andThen (ae P N r.body (BV Rn Rj Rp)) (fun _ _ _=>False)) (zb r.params.toList args env) (s₁.del l))
  (w:World) (p:bO) (vs:List Value) (b5:df w p s₁) (eB:bD w p vs args) :
  oQ P ((do let d ← Deferred.ofValue (.func (.yield l) #[] #[]) vs.toArray;invoke d.target d.args:Sem Next).run P w)
   (u7 s₁ w p fun o ai=>(o = .ret (.bool true)∧∃ dw,dw l=none∧ai=dw.set l (.loop { busy r with state := .ready,pending:=none } env)∧Rn dw) ∨
    (o = .ret (.bool false)∧∃ j dw,dw l=none∧ai=dw.set l (.loop (p2 r j) env)∧Rj j dw) ∨
    (∃ v dw,o = .panic v∧dw l=none∧ai=dw.set l (.loop (busy r) env)∧Rp v dw)):=by
 have U:w.heap[l]? = some (.loop r):=(b5.obj _ _ aC).1;have BK:=(b5.obj _ _ aC).2;have az:l<w.heap.size:=(i8.1 U).1;have cK:(do let d ← Deferred.ofValue (.func (.yield l) #[] #[]) vs.toArray;invoke d.target d.args:Sem Next).run P w =
   .ok (.round l r.fn ((r.params.zip vs.toArray).foldl (fun tmps (t,a)=>tmps.setIfInBounds t a) r.tmps) r.assign r.body) w:=by
  have aB:vs.length=r.params.size:=by rw [eB.length,xe]
  simp only [Deferred.ofValue,z2,ac4,g6,invoke,Instr.yield,zd U];simp [aB]
 rw [cK];have hC:ak.Sub (s₁.del l) s₁:=fun b=>by
  by_cases e:b=l
  ·subst e;exact .inr (ak.mR _ _)
  ·exact .inl (ak.l' _ e)
 have Jx:s₁=(s₁.del l).set l (.loop r env):=by
  funext b;by_cases e:b=l
  ·subst e;rw [ak.fT];exact aC
  ·rw [ak.fk _ _ e,ak.l' _ e]
 have Rl:((r.params.zip vs.toArray).foldl (fun tmps (t,a)=>tmps.setIfInBounds t a) r.tmps)=(r.params.toList.zip vs).foldl (fun tmps (t,a)=>tmps.setIfInBounds t a) r.tmps:=by
  rw [← Array.foldl_toList];simp
 have BW:s₁.del l l=none:=ak.mR _ _;have EP:dq N (0,[]) (some l) env (s₁.del l) { tmps:=r.tmps,defers:=[] } w p:=
  ⟨b',BK,b5.sub hC,⟨[],rfl,by simp,by simp⟩,fun kT o6=>by cases o6;exact ⟨rfl,⟨r,U⟩,BW⟩,g9 _⟩
 have aI:=Rg r.params.toList vs args env r.tmps (by rw [eB.length,xe,Array.length_toList]) eB Rk EP;rw [Rl];refine PJ eU fun b kL kU=>?_
 rw [← kL] at aI;refine lG (r2 b (0,[]) _ w p (by rw [kU,eU];rfl) aI) ?_;rintro Ea ix w₁ ⟨Bg,n4,dw,p₁,Rm,BX,kO,BY,ER⟩;cases Rm with
 | exit id=>exact BX.elim
 | ret=>exact BX.elim
 | panic v x dr km ar=>exact BX.elim
 | normal=>
 have np:w₁.heap[l]? = some (.loop r):=(ER.heap l az BW).trans U;have vm:dw l=none:=ER.kl l az BW;have Ro:(Instr.beginRound l).run P w₁ = .ok () { w₁ with heap:=w₁.heap.setIfInBounds l (.loop (busy r)) }:=by
  unfold Instr.beginRound;simp only [z2,zd np,g6,EO np C,Ri];rfl
 refine ⟨_,Ro,?_⟩;obtain ⟨f1,f2,f3⟩:=BU (s:=s₁.del l) (b:=l) (o := .loop r env) BW rfl (by rw [← Jx];exact b5) BY ER kO.wf;obtain ⟨g1,g2,g3⟩:=EN (r':=busy r) f3 (ak.fT _ _ _) rfl _ rfl;rw [ak.set_set] at g2 g3;have lf:({ w₁ with heap:=w₁.heap.setIfInBounds l (.loop (busy r)) }:World).heap[l]? = some (.loop (busy r)):=(g3.obj _ _ (ak.fT _ _ _)).1;have ze:df { w₁ with heap:=w₁.heap.setIfInBounds l (.loop (busy r)) } p₁ dw:=g3.sub (ak.uZ _ _ _ vm);have vn:dq N (0,[]) b.roundOf n4 dw ix { w₁ with heap:=w₁.heap.setIfInBounds l (.loop (busy r)) } p₁:=by
  refine ⟨kO.size,fun t v ar=>(kO.env t v ar).mono g1,ze,?_,fun kT o6=>?_,g9 _⟩
  ·obtain ⟨av,-,-⟩:=kO.round l kL
   exact ⟨[],by simpa [marksOf] using av,by simp,by simp⟩
  ·rw [kL] at o6;cases o6
   exact ⟨(kO.round l kL).1,⟨_,lf⟩,vm⟩
 refine lG (BX b (0,[]) ix _ p₁ (by rw [kU,eU];rfl) vn) ?_;rintro e₃ a₃ iy ⟨x₃,aa0,tx,ss,Rq,BZ,Jy,Jz,ES⟩;have cU:l<({ w₁ with heap:=w₁.heap.setIfInBounds l (.loop (busy r)) }:World).heap.size:=(i8.1 lf).1;have mj:iy.heap[l]? = some (.loop (busy r)):=(ES.heap l cU vm).trans lf;have tz:tx l=none:=ES.kl l cU vm;obtain ⟨cv,db,e8⟩:=BU (b:=l) (o := .loop (busy r) env) vm rfl g3 Jz ES Jy.wf;have ET:c8 w p iy ss:=(BY.trans g1).trans Jz;have JA:Kept s₁ (tx.set l (.loop (busy r) env)) w p iy ss:=by
  have b7:Kept s₁ (dw.set l (.loop r env)) w p w₁ p₁:=by rw [Jx];exact f2
  exact (b7.trans BY.size g2).trans (BY.trans g1).size db
 have fin:∀ (jump:Option Code),∃ k6,(Instr.endRound l jump).run P iy = .ok (.bool jump.isNone) k6 ∧
   c8 w p k6 ss∧Kept s₁ (tx.set l (.loop { busy r with state:=if jump.isNone then .ready else .done,pending:=jump } env)) w p k6 ss∧df k6 ss (tx.set l (.loop { busy r with state:=if jump.isNone then .ready else .done,pending:=jump } env)):=by
  intro jump;obtain ⟨dV,dg,dB⟩:=EN (r':={ busy r with state:=if jump.isNone then .ready else .done,pending:=jump }) e8 (ak.fT _ _ _) rfl _ rfl;rw [ak.set_set] at dg dB;refine ⟨_,?_,ET.trans dV,JA.trans ET.size dg,dB⟩;unfold Instr.endRound;simp only [z2,zd mj,g6,EO mj C,ac4]
 cases Rq with
 | normal=>
  obtain ⟨k6,fg,gf,hg,iL⟩:=fin none;exact ⟨_,k6,fg,.ret (.bool true),_,ss,.bool _,.inl ⟨rfl,tx,tz,rfl,BZ⟩,gf,hg,iL⟩
 | ret=>
  obtain ⟨k6,fg,gf,hg,iL⟩:=fin (some .ret);exact ⟨_,k6,fg,.ret (.bool false),_,ss,.bool _,.inr (.inl ⟨rfl,.ret,tx,tz,rfl,BZ⟩),gf,hg,iL⟩
 | exit id=>
  obtain ⟨k6,fg,gf,hg,iL⟩:=fin (some (.exit id));exact ⟨_,k6,fg,.ret (.bool false),_,ss,.bool _,.inr (.inl ⟨rfl,.exit id,tx,tz,rfl,BZ⟩),gf,hg,iL⟩
 | panic v x dr km ar=>
  refine ⟨(Jy.round l kL).1,.panic x,_,ss,⟨v,km,ar⟩,.inr (.inr ⟨x,tx,rfl,tz,rfl,BZ⟩),ET,JA,e8⟩
end
section
variable {P:Program} {Γ:cj} {N:Nat} {Q:bX→Env→ak→Prop} {env:Env} {s:ak}
theorem Rr (b:Frame) (a:Act) (k:List Item) (l:Nat) (v:Value):(b.atR a (.inRangeFunc l::k)).finish v=b.atR a (.endRangeFunc l::k):=by
 simp [Frame.finish,Frame.atR]
theorem JB {b:Frame} {a:Act} {k:List Item} {cs:List Frame} {w w':World} {l:Nat} {jump:Option Code} (h:(Instr.endLoop l).run P w = .ok jump w') :
  step P (lone (b.atR a (.endRangeFunc l::k)) cs w) = .next (lone (b.atR a ((jump.map Item.code).toList++k)) cs w'):=
 step_lone_go (by simp [stepG,stepG.exec,Frame.atR,as0,h,GStep.bare_after])
def EU (g:Operand) (l:Nat):Call:={ callee := .value g,args := #[.const (.func (.yield l) #[] #[])],argTypes := #[] }
theorem Rs {b:Frame} {a:Act} {k:List Item} {cs:List Frame} {w:World} {g:Operand} {ps:Array Tmp} {gU body:Code} {l:Nat} {mark:List Deferred} {w₁ hB:World} {f:FuncId} {args:Array Value}
  (he:(Instr.enterLoop b.fn a.tmps ps gU body b.roundOf).run P w = .ok (l,mark) w₁)
  (hinv:(do let d ← resolve a.eval (EU g l) 0;invoke d.target d.args:Sem Next).run P w₁ = .ok (.enter f args) hB) :
  step P (lone (b.atR a (.code (.rangeFunc g ps gU body)::k)) cs w) =
   .next (lone (Frame.enter P f args .normal) (b.atR { a with defers:=mark++a.defers } (.inRangeFunc l::k)::cs) hB):=
 step_lone_go (by
  have o3:=Frame.eval_atR b { a with defers:=mark++a.defers } (.inRangeFunc l::k)
  simp only [Frame.atR] at o3
  have Rt:(do let d ← resolve ({ tmps:=a.tmps,defers:=mark++a.defers }:Act).eval { callee := .value g,args := #[.const (.func (.yield l) #[] #[])],argTypes := #[] } 0;invoke d.target d.args:Sem Next).run P w₁ = .ok (.enter f args) hB:=hinv
  simp only [stepG,stepG.exec,Frame.atR,as0,he,GStep.bare_after,stepG.apply,o3,Rt,ae2,GStep.bare_go])
def Ru (l:Nat) (r:Loop) (env:Env) (Rn:ak→Prop) (Rj:Code→ak→Prop) (Rp:af→ak→Prop) (o:eo) (ai:ak):Prop:=
 (o = .ret (.bool true)∧∃ dw,dw l=none∧ai=dw.set l (.loop r env)∧Rn dw) ∨
 (o = .ret (.bool false)∧∃ j dw,dw l=none∧ai=dw.set l (.loop (p2 r j) env)∧Rj j dw) ∨
 (∃ v dw,o = .panic v∧dw l=none∧ai=dw.set l (.loop (busy r) env)∧Rp v dw)
def Rv (P:Program) (N:Nat) (Q:bX→Env→ak→Prop) (env:Env) (l:Nat) (r:Loop) (o:eo) (ai:ak):Prop:=
 match o with
 | .ret _=>(∃ dw,dw l=none∧ai=dw.set l (.loop r env)∧Q .normal env dw)∨(∃ j dw,dw l=none∧ai=dw.set l (.loop (p2 r j) env)∧ae P N j Q env dw)
 | .panic v=>∃ dw o',dw l=none∧ai=dw.set l o'∧Q (.panic v) env dw
theorem ae.JC {g:Operand} {ps:Array Tmp} {gU body:Code} {f:FuncId} {first cap:List af} (au:aJ env g=some (.func f first cap)) (aY:∀ t∈ps.toList,t<N)
    (h:∀ (l:Nat) (r:Loop),s l=none →
      (∀ args s₁ Rn Rj Rp,s₁ l=some (.loop r env)→args.length=ps.size →
        ae P N gU (bX.andThen (ae P N body (BV Rn Rj Rp)) (fun _ _ _=>False)) (zb ps.toList args env) (s₁.del l) →
        hG P (ld l) args s₁ (Ru l r env Rn Rj Rp)) →
      gX P f (first++([ld l]++cap)) (s.set l (.loop r env)) (Rv P N Q env l r)):ae P N (.rangeFunc g ps gU body) Q env s:=by
  intro b B a w p eU aI k cs;obtain ⟨fn,Rw⟩:=Option.isSome_iff_exists.1 eU;have Rx:∃ (l D:Nat) (mark:List Deferred) (w₁:World),(Instr.enterLoop b.fn a.tmps ps gU body b.roundOf).run P w = .ok (l,mark) w₁ ∧
      w₁.heap[l]? = some (.loop { state := .ready,pending:=none,fn:=b.fn,tmps:=a.tmps,params:=ps,assign:=gU,body,defers:=D })∧w.heap.size≤l∧l<w₁.heap.size ∧
      (∀ x,x<w.heap.size→w₁.heap[x]? = w.heap[x]?)∧w₁.os=w.os∧w₁.tape=w.tape∧w₁.output=w.output∧w.heap.size≤w₁.heap.size ∧
      ((mark=[]∧b.roundOf≠none)∨(b.roundOf=none∧mark=marksOf [w.heap.size]∧w₁.heap[w.heap.size]? = some (.deferred (some []))∧l≠w.heap.size)):=by
    cases tA:b.roundOf with
    | none=>
      refine ⟨w.heap.size+1,w.heap.size,_,(w.alloc (.deferred (some []))).alloc (.loop { state := .ready,pending:=none,fn:=b.fn,tmps:=a.tmps,params:=ps,assign:=gU,body,defers:=w.heap.size }),?_,?_,by omega,by simp,?_,rfl,rfl,rfl,by simp;omega,.inr ⟨rfl,rfl,?_,by omega⟩⟩
      · unfold Instr.enterLoop
        simp [World.alloc_eq,marksOf]
      · have:=tj (w.alloc (.deferred (some []))) (.loop { state := .ready,pending:=none,fn:=b.fn,tmps:=a.tmps,params:=ps,assign:=gU,body,defers:=w.heap.size })
        simpa using this
      · intro x ab;rw [lJ _ _ _ cO,lJ _ _ _ ab]
      · rw [lJ _ _ _ bc];exact tj w _
    | some Ry=>
      obtain ⟨-,⟨JD,Rz⟩,-⟩:=aI.round Ry tA;refine ⟨w.heap.size,JD.defers,[],w.alloc (.loop { state := .ready,pending:=none,fn:=b.fn,tmps:=a.tmps,params:=ps,assign:=gU,body,defers:=JD.defers }),?_,tj w _,Nat.le_refl _,by simp,fun x ab=>lJ w _ x ab,rfl,rfl,rfl,by simp,.inl ⟨rfl,by simp⟩⟩;unfold Instr.enterLoop;simp only [z2,zd Rz,g6,ac4,run_newObj];rfl
  obtain ⟨l,D,mark,w₁,RA,np,dj,aa1,hold,RB,q0,o7,b',JE⟩:=Rx;have xf:s l=none:=by
    cases ao:s l with
    | none=>rfl
    | some o=>exact absurd (aI.wf.obj _ _ ao).lt ag
  generalize aC:({ state := .ready,pending:=none,fn:=b.fn,tmps:=a.tmps,params:=ps,assign:=gU,body,defers:=D }:Loop)=r at np;have vo:c8 w p w₁ p:=c8.of_heap RB q0 o7 b' (fun _ _ h=>h) aI.wf.lt hold;have RC:df w₁ p (s.set l (.loop r env)):=by
    have au:=aI.wf.grow vo hold (fun _ _ _ h=>h) (fun b o aE=>by have:=aI.wf.lt b o aE;omega);refine ⟨fun aT o an=>?_,au.lt⟩;by_cases e:aT=l
    · subst e
      rw [ak.fT] at an;cases an;refine ⟨np,fun t v ar=>?_⟩;have:r.tmps=a.tmps:=by rw [← aC]
      rw [this];exact (aI.env t v ar).mono vo
    · rw [ak.fk _ _ e] at an;exact au.obj aT o an
  have lK:Kept s (s.set l (.loop r env)) w p w₁ p:=⟨fun x ab _=>hold x ab,fun x ab aA=>by rw [ak.fk _ _ ag];exact aA,fun _ _ _ _ h=>h⟩;obtain ⟨RD,cS⟩:=h l r xf fun args s₁ Rn Rj Rp kv xe r2 w' bg v vs ku ar eB=>by
    have IK:v = .func (.yield l) #[] #[]:=by
      cases ar with
      | hl=>rfl
    subst IK;have:=Rh (a:=a) (P:=P) (N:=N) (env:=env) (r:=r) (fn:=fn) (by rw [← aC];exact Rw) (by rw [← aC]) kv (by rw [← aC];exact xe) (by rw [← aC];exact aI.size)
      (by rw [← aC];exact aY) (Rn:=Rn) (Rj:=Rj) (Rp:=Rp) (by rw [← aC];exact r2) w' bg vs ku eB
    have B0:{ busy r with state:=LoopState.ready,pending:=none }=r:=by rw [← aC];rfl
    rw [B0] at this;exact this
  have lO:=aI.aJ au;generalize B1:a.eval g=abW at lO;cases lO with
  | func _ as cs' _ _ a8 aF=>
  have hinv:(do let d ← resolve a.eval (EU g l) 0;invoke d.target d.args:Sem Next).run P w₁ = .ok (.enter f (as ++ #[.func (.yield l) #[] #[]]++cs')) w₁:=by
    simp only [resolve,EU,B1,Deferred.ofValue,z2,ac4,g6,invoke];have:(#[Operand.const (.func (.yield l) #[] #[])].map a.eval) = #[.func (.yield l) #[] #[]]:=by simp [Act.eval]
    rw [this];exact RD _ _
  have vp:=Rs (k:=k) (cs:=cs) RA hinv;have cu:=cS w₁ p (as.toList++([.func (.yield l) #[] #[]]++cs'.toList)) RC ((a8.mono vo).append (bD.append (.cons _ _ _ _ (.hl _) .nil) (aF.mono vo)));have xe:(as.toList++([Value.func (.yield l) #[] #[]]++cs'.toList)).toArray=as ++ #[.func (.yield l) #[] #[]]++cs':=by apply Array.ext';simp
  rw [xe] at cu;obtain ⟨e,hB,gV,⟨mK,out,ai,iV,pP,dQ,w9,ie,ze⟩,r0,EV,yF⟩:=cu (b.atR { a with defers:=mark++a.defers } (.inRangeFunc l::k)::cs);have vn:∀ dw o',dw l=none→ai=dw.set l o'→∀ iy,c8 hB iV iy iV→Kept ai ai hB iV iy iV→df iy iV dw→(∀ x,x≠l→iy.heap[x]? = hB.heap[x]?) →
      dq N B b.roundOf env dw { a with defers:=mark++a.defers } iy iV∧c8 w p iy iV∧Kept s dw w p iy iV:=by
    intro dw o' aA gY iy RE sd EW RF;have bY:c8 w p iy iV:=(vo.trans w9).trans RE;have tB:=(lK.trans vo.size ie).trans (vo.trans w9).size sd;have hC:ak.Sub dw ai:=by rw [gY];exact ak.uZ _ _ _ aA
    have bm:Kept s dw w p iy iV:=tB.sub hC;refine ⟨⟨aI.size,fun t v ar=>(aI.env t v ar).mono bY,EW,?_,fun kT o6=>?_,Nat.le_trans aI.base bY.size⟩,bY,bm⟩
    · obtain ⟨b4,d1,d2,d3⟩:=aI.defs
      rcases JE with ⟨rfl,-⟩|⟨tA,rfl,e5,JF⟩
      · refine ⟨b4,by simpa using d1,d2,fun d av=>?_⟩
        obtain ⟨cB,mL,j3⟩:=d3 d av;have az:d<w.heap.size:=(i8.1 mL).1;exact ⟨cB,(bm.heap d az j3).trans mL,bm.kl d az j3⟩
      · have JG:(s.set l (.loop r env)) w.heap.size=none:=by
          rw [ak.fk _ _ (Ne.symm JF)];cases ao:s w.heap.size with
          | none=>rfl
          | some o=>exact absurd (aI.wf.obj _ _ ao).lt ag
        have JH:w.heap.size<w₁.heap.size:=(i8.1 e5).1;have RG:iy.heap[w.heap.size]? = some (.deferred (some [])):=by
          rw [RF _ (Ne.symm JF),ie.heap _ JH JG];exact e5
        have RH:dw w.heap.size=none:=hC.none (ie.kl _ JH JG);refine ⟨w.heap.size::b4,by simp [marksOf,d1],List.nodup_cons.2 ⟨fun hm=>?_,d2⟩,fun d av=>?_⟩
        · have:=(i8.1 (d3 _ hm).2.1).1;omega
        · rcases ad4.1 av with rfl|av
          · exact ⟨aI.base,RG,RH⟩
          · obtain ⟨cB,mL,j3⟩:=d3 d av
            have az:d<w.heap.size:=(i8.1 mL).1;exact ⟨cB,(bm.heap d az j3).trans mL,bm.kl d az j3⟩
    · obtain ⟨U,⟨r',ad⟩,al⟩:=aI.round kT o6
      have az:kT<w.heap.size:=(i8.1 ad).1;refine ⟨?_,⟨r',(bm.heap kT az al).trans ad⟩,bm.kl kT az al⟩;rcases JE with ⟨rfl,-⟩|⟨tA,-⟩
      · exact U
      · rw [tA] at o6;cases o6
  have th:∀ dw (r':Loop),dw l=none→ai=dw.set l (.loop r' env)→(r'.state == .busy)=false→∃ iy,(Instr.endLoop l).run P hB = .ok r'.pending iy ∧
      dq N B b.roundOf env dw { a with defers:=mark++a.defers } iy iV∧c8 w p iy iV∧Kept s dw w p iy iV:=by
    intro dw r' aA gY dF;have JI:ai l=some (.loop r' env):=by rw [gY];exact ak.fT _ _ _
    have eZ:hB.heap[l]? = some (.loop r'):=(ze.obj _ _ JI).1;obtain ⟨dV,dg,dB⟩:=EN (r':={ r' with state := .exhausted }) ze JI rfl _ rfl;have sd:Kept ai ai hB iV { hB with heap:=hB.heap.setIfInBounds l (.loop { r' with state := .exhausted }) } iV:=by
      refine ⟨dg.heap,fun x ab aA=>aA,dg.kM⟩
    have EW:df { hB with heap:=hB.heap.setIfInBounds l (.loop { r' with state := .exhausted }) } iV dw:=by
      refine dB.sub ?_;rw [gY,ak.set_set];exact ak.uZ _ _ _ aA
    refine ⟨_,?_,vn dw _ aA gY _ dV sd EW (fun x ab=>by
      show (hB.heap.setIfInBounds l _)[x]? = _
      rw [ae5,f0 (fun e=>ab e.symm)])⟩
    unfold Instr.endLoop;simp only [z2,zd eZ,g6,dF,Bool.false_eq_true,af5,EO eZ C,ac4]
  cases e with
  | outgrown=>exact absurd C mK
  | returned v=>
    cases out with
    | panic x=>exact pP.elim
    | ret x=>
    have xa:Steps P (lone (b.atR a (.code (.rangeFunc g ps gU body)::k)) cs w) (lone (b.atR { a with defers:=mark++a.defers } (.endRangeFunc l::k)) cs hB):=by
      refine .head vp (Steps.trans r0 (.one ?_));rw [← Rr _ _ _ _ v];exact step_leave_returned yF
    rcases dQ with ⟨dw,aA,gY,bp⟩|⟨j,dw,aA,gY,bp⟩
    · obtain ⟨iy,B2,zf,bY,bm⟩:=th dw r aA gY (by rw [← aC];rfl)
      have aE:r.pending=none:=by rw [← aC]
      rw [aE] at B2;exact ⟨.normal,_,iy,⟨.normal,env,dw,iV,.normal,bp,zf,bY,bm⟩,Steps.trans xa (.one (by simpa using JB (k:=k) B2))⟩
    · obtain ⟨iy,B2,zf,bY,bm⟩:=th dw (p2 r j) aA gY rfl
      obtain ⟨e',c3,k6,uK,fI⟩:=bp b B _ iy iV eU zf k cs;exact ⟨e',c3,k6,jW.after bY bm uK,.of_steps (Steps.trans xa (.one (by simpa [p2] using JB (k:=k) B2))) fI⟩
  | panicked dr=>
    cases out with
    | ret x=>exact pP.elim
    | panic x=>
    obtain ⟨v,km,ar⟩:=pP;obtain ⟨dw,o',aA,gY,bp⟩:=dQ;obtain ⟨zf,bY,bm⟩:=vn dw o' aA gY hB (.refl _ _) (.refl _ _ _) (ze.sub (by rw [gY];exact ak.uZ _ _ _ aA)) (fun _ _=>rfl);refine ⟨.panic dr,_,hB,⟨.panic x,env,dw,iV,.panic v x _ km ar,bp,zf,bY,bm⟩,.inRangeFunc l::k,.head vp (Steps.trans r0 (.one ?_))⟩;rw [← Frame.raise_atR];exact step_leave_panicked yF
end
theorem k7.nil {w:World} {p:bO}:k7 w p [] []:=⟨.nil,.nil⟩
theorem k7.length {w:World} {p:bO} {cJ:List MapEntry} {es:List (af×af)} (h:k7 w p cJ es):cJ.length=es.length:=by simpa using h.1.length
theorem k7.split {w:World} {p:bO}:∀ {a b:List MapEntry} {e:MapEntry} {es:List (af×af)},k7 w p (a++e::b) es →
  ∃ l₁ k v l₂,es=l₁++(k,v)::l₂∧Rel w p e.key k∧Rel w p e.val v∧k7 w p (a++b) (l₁++l₂):=by
 intro a
 induction a with
 | nil=>
  intro b e es h;cases es with
  | nil=>have:=h.length;simp at this
  | cons x es=>
   obtain ⟨k,v⟩:=x;obtain ⟨U,ad⟩:=h;simp only [List.nil_append,ac0] at U ad;cases U with|cons _ _ _ _ cv t1=>cases ad with|cons _ _ _ _ db t2=>
   exact ⟨[],k,v,es,rfl,cv,db,t1,t2⟩
 | cons x a aX=>
  intro b e es h;cases es with
  | nil=>have:=h.length;simp at this
  | cons y es=>
   obtain ⟨Jd,v0⟩:=y;obtain ⟨U,ad⟩:=h;simp only [t8,ac0] at U ad;cases U with|cons _ _ _ _ cv t1=>cases ad with|cons _ _ _ _ db t2=>
   obtain ⟨l₁,k,v,l₂,rfl,b7,bR,eE,ko⟩:=aX (b:=b) (e:=e) (es:=es) ⟨t1,t2⟩;exact ⟨(Jd,v0)::l₁,k,v,l₂,rfl,b7,bR,.cons _ _ _ _ cv eE,.cons _ _ _ _ db ko⟩
section
variable {P:Program} {Γ:cj} {N:Nat} {env:Env} {s:ak}
end
inductive cM:List af→List af→Prop
 | nil:cM [] []
 | cons {x y:af} {xs ys:List af} (h:aR x y) (t:cM xs ys):cM (x::xs) (y::ys)
theorem cM.rel {w:World} {p:bO} {xs ys:List af} (h:cM xs ys):∀ {vs:List Value},bD w p vs xs→bD w p vs ys:=by
 induction h with
 | nil=>exact fun h=>h
 | cons h _ aX=>intro vs ar;cases ar with|cons _ _ _ _ U ad=>exact .cons _ _ _ _ (h _ _ _ U) (aX ad)
theorem cM.refl:∀ xs:List af,cM xs xs
 | [] => .nil
 | _::xs => .cons (aR.refl _) (cM.refl xs)
theorem cM.length {xs ys:List af} (h:cM xs ys):xs.length=ys.length:=by
 induction h with
 | nil=>rfl
 | cons _ _ aX=>simp [aX]
theorem cM.append {a b c d:List af} (h:cM a b) (k:cM c d):cM (a++c) (b++d):=by
 induction h with
 | nil=>exact k
 | cons h _ aX=>exact .cons h aX
theorem aR.trans {x y z:af} (h:aR x y) (k:aR y z):aR x z:=fun w p v ar=>k w p v (h w p v ar)
theorem aR.agg {xs ys:List af} (h:cM xs ys):aR (.agg xs) (.agg ys):=fun w p v ar=>by cases ar with|agg cs _ aB=>exact .agg _ _ (h.rel aB)
theorem aR.cg {xs ys:List af} (h:cM xs ys):aR (.cg xs) (.cg ys):=fun w p v ar=>by cases ar with|cg cs _ aB=>exact .cg _ _ (h.rel aB)
theorem aR.iface {t:TypeId} {x y:af} (h:aR x y):aR (.iface t x) (.iface t y):=fun w p v ar=>by cases ar with|iface _ _ _ aB=>exact .iface _ _ _ (h _ _ _ aB)
theorem aR.bs {xs ys:List af} {o:Nat} (h:cM xs ys):aR (.bs xs o) (.bs ys o):=fun w p v ar=>by
 cases ar with|bs b base tn off vs _ ah aF aC=>exact .bs b base tn o vs ys ah aF (h.rel aC)
theorem aR.func {f:FuncId} {xs ys us vs:List af} (h:cM xs ys) (k:cM us vs):aR (.func f xs us) (.func f ys vs):=fun w p v ar=>by
 cases ar with|func _ as cs _ _ a8 aF=>exact .func _ _ _ _ _ (h.rel a8) (k.rel aF)
theorem aR.ay {sz:Nat} {xs ys:List af} {own:bN} (h:cM xs ys):aR (.ay sz xs own) (.ay sz ys .aZ):=fun w p v ar=>by
 cases ar with
 | hL=>cases h;exact .hL _ _ bc
 | ib a=>cases h;exact .ib a _ _ (.inl C)
 | ay g off n cap _ vs _ _ aA aB aF aC ao hm aD cu ah=>exact .ay g off n cap sz vs ys .aZ bc (aB.trans h.length) aF (h.rel aC) ao hm aD bc bc
theorem aR.aZ {sz:Nat} {xs:List af} {own:bN}:aR (.ay sz xs own) (.ay sz xs .aZ):=aR.ay (cM.refl _)
theorem aR.nil {sz sz':Nat} {own:bN} (ah:∀ b,own ≠ .own b):aR (.ay sz [] .nil) (.ay sz' [] own):=fun w p v ar=>by
 cases ar with
 | hL=>exact .hL _ _ ah
 | ib _ _ _ h=>rcases h with h|h<;>cases h
 | ay g off n cap _ vs _ _ aA=>exact absurd C aA
theorem aR.empty {sz sz':Nat} {own:bN}:aR (.ay sz [] own) (.ay sz' [] .aZ):=fun w p v ar=>by
 cases ar with
 | hL=>exact .hL _ _ bc
 | ib a=>exact .ib a _ _ (.inl C)
 | ay g off n cap _ vs _ _ aA aB aF aC ao hm aD cu ah=>
  have:vs=[]:=List.eq_nil_of_length_eq_zero (by rw [aC.length];rfl);subst this;exact .ay g off n cap sz' [] [] .aZ bc aB aF .nil bc hm aD bc bc
theorem aR.any (x:af):aR x .any:=fun _ _ v _ => .any v
section
variable {P:Program} {Γ:cj} {N:Nat} {ops:Array Oper} {Q:bX→Env→ak→Prop} {env:Env} {s:ak} {l:List Oper} {o:Oper} {d:Nat}
theorem aa.mZ {l:List Oper} (t:Nat) {v:af} (fj:af) (ar:env.get? t=some v) (he:aR v fj) (h:aa P N ops l Q ((t,fj)::env) s):aa P N ops l Q env s:=by
 intro k aD ro B a w p aI
 exact h k aD ro B a w p ⟨aI.size,fun u x ab=>by
  simp only [Env.get?] at ab
  split at ab
  ·rename_i an;have:=ab' an;subst this;cases ab;exact he _ _ _ (aI.env _ _ ar)
  ·exact aI.env u x ab,aI.wf,aI.defs,aI.round,aI.base⟩
theorem ae.mZ {c:Code} (t:Nat) {v:af} (fj:af) (ar:env.get? t=some v) (he:aR v fj) (h:ae P N c Q ((t,fj)::env) s):ae P N c Q env s:=by
 intro b B a w p eU aI
 exact h b B a w p eU ⟨aI.size,fun u x ab=>by
  simp only [Env.get?] at ab
  split at ab
  ·rename_i an;have:=ab' an;subst this;cases ab;exact he _ _ _ (aI.env _ _ ar)
  ·exact aI.env u x ab,aI.wf,aI.defs,aI.round,aI.base⟩
theorem aa.alloc (aP:bM P Γ) {t:TypeId} {i:bL} {z:af} {cs:List af} (au:guardOf ops env o=some true) (av:o.dst=some d) (aY:i9 d N=true) (ah:o.op = .alloc t) (aK:Γ.get? t=some i)
  (bP:ho i.zero=some z) (aF:cellsOf z=some cs) (h:∀ b,s b=none→aa P N ops l Q ((d,.ptr b 0)::env) (s.set b (.box t cs))):aa P N ops (o::l) Q env s:=
 aa.op au av aY (aW.alloc aP ah aK bP aF (X:=fun _ _=>False)) (fun x ai ⟨b,U,ad,al⟩=>by subst ad;subst al;exact h b U) (fun _ _ h=>h.elim)
theorem aa.tr (aP:bM P Γ) {t T:TypeId} {x:Operand} {i:bL} {b off:Nat} {cs:List af} {v:af} (au:guardOf ops env o=some true) (av:o.dst=some d) (aY:i9 d N=true) (ah:o.op = .load t x)
  (aK:Γ.get? t=some i) (ab:aJ env x=some (.ptr b off)) (ao:s b=some (.box T cs)) (ar:hD i cs off=some v) (h:aa P N ops l Q ((d,v)::env) s):aa P N ops (o::l) Q env s:=
 aa.op au av aY (aW.tr aP ah aK ab ao ar (X:=fun _ _=>False)) (fun x ai ⟨U,ad⟩=>by subst U;subst ad;exact h) (fun _ _ h=>h.elim)
theorem aa.Bz (aP:bM P Γ) {t T:TypeId} {x y:Operand} {i:bL} {b off:Nat} {cs us:List af} {v:af} (au:guardOf ops env o=some true) (av:o.dst=none) (ah:o.op = .store t x y)
  (aK:Γ.get? t=some i) (ab:aJ env x=some (.ptr b off)) (ax:aJ env y=some v) (ar:cellsOf v=some us) (hu:ad0 us.length i.size=true) (U:us.all e4=true) (ao:s b=some (.box T cs))
  (fl:al9 (off+us.length) cs.length=true) (h:aa P N ops l Q env (s.set b (.box T (eO off us cs)))):aa P N ops (o::l) Q env s:=
 aa.uQ au av (aW.Bz aP ah aK ab ax ar hu U ao fl (X:=fun _ _=>False)) (fun x ai U=>by subst U;exact h) (fun _ _ h=>h.elim)
theorem aa.lookup (aP:bM P Γ) {t dH eW:TypeId} {x y:Operand} {ok:Bool} {it gp aG:bL} {m:Nat} {es:List (af×af)} {k z:af} {r:Option af} (au:guardOf ops env o=some true) (av:o.dst=some d) (aY:i9 d N=true)
  (ah:o.op = .lookup t x y ok) (aK:Γ.get? t=some it) (br:it.bE = .map dH eW) (iX:Γ.get? dH=some gp) (bH:Γ.get? eW=some aG) (ab:aJ env x=some (.map m)) (ax:aJ env y=some k) (ao:s m=some (.map es))
  (a1:jO gp.bE k=true) (aC:iJ es k=some r) (bP:ho aG.zero=some z) (h:aa P N ops l Q ((d,la ok z r)::env) s):aa P N ops (o::l) Q env s:=
 aa.op au av aY (aW.lookup aP ah aK br iX bH ab ax (.inl ⟨m,rfl,ao⟩) a1 aC bP (X:=fun _ _=>False)) (fun x ai ⟨U,ad⟩=>by subst U;subst ad;exact h) (fun _ _ h=>h.elim)
theorem aa.mapUpdate (aP:bM P Γ) {t dH eW:TypeId} {x y z:Operand} {it gp:bL} {b:Nat} {es dn:List (af×af)} {k v:af} (au:guardOf ops env o=some true) (av:o.dst=none)
  (ah:o.op = .mapUpdate t x y z∨o.op = .insert t x y z) (aK:Γ.get? t=some it) (br:it.bE = .map dH eW) (iX:Γ.get? dH=some gp) (ab:aJ env x=some (.map b)) (ax:aJ env y=some k) (bP:aJ env z=some v)
  (ao:s b=some (.map es)) (a1:jO gp.bE k=true) (aE:k9 es k v=some dn) (h:aa P N ops l Q env (s.set b (.map dn))):aa P N ops (o::l) Q env s:=
 aa.uQ au av (aW.mapUpdate aP ah aK br iX ab ax bP ao a1 aE (X:=fun _ _=>False)) (fun x ai U=>by subst U;exact h) (fun _ _ h=>h.elim)
theorem aa.makeMap {t:TypeId} (au:guardOf ops env o=some true) (av:o.dst=some d) (aY:i9 d N=true) (ah:o.op = .makeMap t none)
  (h:∀ b,s b=none→aa P N ops l Q ((d,.map b)::env) (s.set b (.map []))):aa P N ops (o::l) Q env s:=
 aa.op au av aY (aW.makeMap ah (X:=fun _ _=>False)) (fun x ai ⟨b,U,ad,al⟩=>by subst ad;subst al;exact h b U) (fun _ _ h=>h.elim)
theorem aa.invoke {g:Operand} {name:String} {as:Array Operand} {c0:Array TypeId} {t:TypeId} {v:af} {f:FuncId} {xs:List af} {R:eo→ak→Prop} (au:guardOf ops env o=some true) (av:o.dst=some d) (aY:i9 d N=true)
  (ah:o.op = .call { callee := .invoke g name,args:=as,argTypes:=c0 }) (ar:aJ env g=some (.iface t v)) (a8:fy env as.toList=some xs) (hm:o2 P t name f) (h:gX P f (v::xs) s R)
  (aD:∀ x ai,R (.ret x) ai→aa P N ops l Q ((d,x)::env) ai) (ab:∀ x ai,R (.panic x) ai→Q (.panic x) env ai):aa P N ops (o::l) Q env s:=
 aa.op au av aY (aW.invoke ah ar a8 hm h) aD ab
theorem aa.panic {x:Operand} {t:TypeId} {v:af} (au:guardOf ops env o=some true) (av:o.dst=none) (ah:o.op = .panic x) (ab:aJ env x=some (.iface t v)) (h:Q (.panic (.iface t v)) env s) :
  aa P N ops (o::l) Q env s:=
 aa.uQ au av (aW.panic ah ab (K:=fun _ _=>False)) (fun x ai h=>h.elim) (fun x ai ⟨U,ad⟩=>by subst U;subst ad;exact h)
end
section
variable {P:Program} {Γ:cj} {N:Nat} {l:List Oper} {Q:bX→Env→ak→Prop} {env:Env} {s:ak} {m:Nat}
theorem bh.pure {J:ak→Prop} (cZ:J s) (i:Nat) {o:Oper} {d:Nat} {v:af} (aC:h6 l.toArray m i=true) (ah:l.toArray[i]? = some o) (av:o.dst=some d) (aY:i9 d N=true)
  (au:cY l env o) (ar:lb Γ o (bU l env o) v) (h:bh J P Γ N l.toArray Q (bQ (m|||2^i)) ((d,v)::env) s) :
  bh J P Γ N l.toArray Q (bQ m) env s:=
 bh.still cZ i o d v (sr.1 aC) ah av BS (.inl ⟨au,ar⟩) (by rw [oe];exact h)
theorem ba.pure (i:Nat) {o:Oper} {d:Nat} {v:af} (aC:h6 l.toArray m i=true) (ah:l.toArray[i]? = some o) (av:o.dst=some d) (aY:i9 d N=true)
  (au:cY l env o) (ar:lb Γ o (bU l env o) v) (h:ba P Γ N l.toArray Q (bQ (m|||2^i)) ((d,v)::env) s) :
  ba P Γ N l.toArray Q (bQ m) env s:=bh.pure trivial i aC ah av aY au ar h
theorem bh.idx {J:ak→Prop} (cZ:J s) (i:Nat) {o:Oper} {d:Nat} {t e:TypeId} {x y:Operand} {it aG:bL} {sz:Nat} {xs:List af} {own:bN} {k:IntKind} {n:Int} {v:af} {cs:List af} (j:Nat) (aC:h6 l.toArray m i=true) (ah:l.toArray[i]? = some o)
  (av:o.dst=some d) (aY:i9 d N=true) (au:cY l env o) (bV:o.op = .indexAddr t x y) (aK:Γ.get? t=some it) (br:it.bE = .ay e) (bH:Γ.get? e=some aG)
  (ab:aJ (bU l env o) x=some (.ay sz xs own)) (b':sz=aG.size) (ax:aJ (bU l env o) y=some (.int k n)) (eF:n=(j:Int)) (aO:xs[j]? = some v) (aF:cellsOf v=some cs)
  (h:bh J P Γ N l.toArray Q (bQ (m|||2^i)) ((d,.bs cs 0)::env) s):bh J P Γ N l.toArray Q (bQ m) env s:=
 bh.pure cZ i aC ah av aY au (.idx j bV aK br bH ab b' ax eF aO aF) h
theorem ba.idx (i:Nat) {o:Oper} {d:Nat} {t e:TypeId} {x y:Operand} {it aG:bL} {sz:Nat} {xs:List af} {own:bN} {k:IntKind} {n:Int} {v:af} {cs:List af} (j:Nat) (aC:h6 l.toArray m i=true) (ah:l.toArray[i]? = some o)
  (av:o.dst=some d) (aY:i9 d N=true) (au:cY l env o) (bV:o.op = .indexAddr t x y) (aK:Γ.get? t=some it) (br:it.bE = .ay e) (bH:Γ.get? e=some aG)
  (ab:aJ (bU l env o) x=some (.ay sz xs own)) (b':sz=aG.size) (ax:aJ (bU l env o) y=some (.int k n)) (eF:n=(j:Int)) (aO:xs[j]? = some v) (aF:cellsOf v=some cs)
  (h:ba P Γ N l.toArray Q (bQ (m|||2^i)) ((d,.bs cs 0)::env) s):ba P Γ N l.toArray Q (bQ m) env s:=
 ba.pure i aC ah av aY au (.idx j bV aK br bH ab b' ax eF aO aF) h
theorem ba.slice (i:Nat) {o:Oper} {d:Nat} {t e:TypeId} {x:Operand} {gD aS iZ:Option Operand} {it aG:bL} {sz:Nat} {xs:List af} {own c5:bN} (a b:Nat) (aC:h6 l.toArray m i=true) (ah:l.toArray[i]? = some o)
  (av:o.dst=some d) (aY:i9 d N=true) (au:cY l env o) (bV:o.op = .slice t x gD aS iZ)
  (aK:Γ.get? t=some it) (br:it.bE = .ay e) (bH:Γ.get? e=some aG) (ab:aJ (bU l env o) x=some (.ay sz xs own)) (b':xs=[]∨sz=aG.size)
  (iz:(gD=none∧a=0)∨∃ y k,gD=some y∧aJ (bU l env o) y=some (.int k (a:Int))) (pT:(aS=none∧iZ=none∧b=xs.length)∨∃ y k,aS=some y∧aJ (bU l env o) y=some (.int k (b:Int)))
  (mV:(iZ=none∧c5 = .aZ)∨(∃ y k,iZ=some y∧aJ (bU l env o) y=some (.int k (b:Int))∧c5 = .clip)) (aB:a≤b) (c6:b≤xs.length)
  (h:ba P Γ N l.toArray Q (bQ (m|||2^i)) ((d,.ay sz ((xs.take b).drop a) c5)::env) s):ba P Γ N l.toArray Q (bQ m) env s:=
 ba.pure i aC ah av aY au (.slice a b bV aK br bH ab b' iz pT mV aB c6) h
theorem ba.call {i:Nat} {o:Oper} {d:Nat} {f:FuncId} {as:Array Operand} {c0:Array TypeId} {xs:List af} {R:eo→ak→Prop} (aC:eD l.toArray m (idxs 0 l)=[i]) (ah:l.toArray[i]? = some o) (av:o.dst=some d) (aY:i9 d N=true)
  (au:cY l env o) (bV:o.op = .call { callee := .value (.func f),args:=as,argTypes:=c0 }) (a8:fy (bU l env o) as.toList=some xs) (h:gX P f xs s R)
  (aD:∀ x ai,R (.ret x) ai→ba P Γ N l.toArray Q (bQ (m|||2^i)) ((d,x)::env) ai) (ab:∀ x ai,R (.panic x) ai→Q (.panic x) [] ai):ba P Γ N l.toArray Q (bQ m) env s:=
 ba.one aC ah av aY au (aW.call bV (fv := .func f [] []) C a8 (hG.fa gT)) aD ab
theorem ba.Jl {i:Nat} {o:Oper} {d:Nat} {f:FuncId} {as:Array Operand} {c0:Array TypeId} {xs:List af} {v:af} (aC:eD l.toArray m (idxs 0 l)=[i]) (ah:l.toArray[i]? = some o) (av:o.dst=some d) (aY:i9 d N=true)
  (au:cY l env o) (bV:o.op = .call { callee := .value (.func f),args:=as,argTypes:=c0 }) (a8:fy (bU l env o) as.toList=some xs)
  (h:gX P f xs s (fun out ai=>out = .ret v∧ai=s)) (aD:ba P Γ N l.toArray Q (bQ (m|||2^i)) ((d,v)::env) s):ba P Γ N l.toArray Q (bQ m) env s:=
 ba.call aC ah av aY au bV a8 h (fun x ai ⟨U,ad⟩=>by cases U;subst ad;exact aD) (fun x ai ⟨U,_⟩=>by cases U)
end
section
variable {P:Program} {Γ:cj} {N:Nat} {l:List Oper} {Q:bX→Env→ak→Prop} {env:Env} {s:ak} {m:Nat}
theorem ba.ED {i:Nat} {o:Oper} {d:Nat} {g:Operand} {fv:af} {as:Array Operand} {c0:Array TypeId} {xs:List af} {R:eo→ak→Prop} (aC:eD l.toArray m (idxs 0 l)=[i]) (ah:l.toArray[i]? = some o) (av:o.dst=some d)
  (aY:i9 d N=true) (au:cY l env o) (bV:o.op = .call { callee := .value g,args:=as,argTypes:=c0 }) (ar:aJ (bU l env o) g=some fv)
  (a8:fy (bU l env o) as.toList=some xs) (h:hG P fv xs s R)
  (aD:∀ x ai,R (.ret x) ai→ba P Γ N l.toArray Q (bQ (m|||2^i)) ((d,x)::env) ai) (ab:∀ x ai,R (.panic x) ai→Q (.panic x) [] ai):ba P Γ N l.toArray Q (bQ m) env s:=
 ba.one aC ah av aY au (aW.call bV ar a8 h) aD ab
theorem ba.two {i j:Nat} {o u:Oper} {d c:Nat} {K X aN mM:af→ak→Prop} (aC:eD l.toArray m (idxs 0 l)=[i,j]) (ah:l.toArray[i]? = some o) (hu:l.toArray[j]? = some u) (av:o.dst=some d) (aF:u.dst=some c)
  (aY:i9 d N=true) (o5:i9 c N=true) (cp:ad0 i j=false)
  (au:cY l env o) (nv:guardOf l.toArray (ij env (looks l.toArray u)) u=some true)
  (h:aW P N o (bU l env o) s K X) (eT:aW P N u (ij env (looks l.toArray u)) s aN mM)
  (aD:∀ x ai,K x ai→ba P Γ N l.toArray Q (bQ (m|||2^i)) ((d,x)::env) ai) (eu:∀ x ai,aN x ai→ba P Γ N l.toArray Q (bQ (m|||2^j)) ((c,x)::env) ai)
  (ab:∀ x ai,X x ai→Q (.panic x) [] ai) (ct:∀ x ai,mM x ai→Q (.panic x) [] ai):ba P Γ N l.toArray Q (bQ m) env s:=by
 have EX:i≠j:=fun e=>by subst e;rw [ar3] at cp;cases cp
 have ff:∀ k,gZ l.toArray (bQ m) k→k=i∨k=j:=fun k aD=>by
  have:=za aD (l:=idxs 0 l) (by rw [xc,ao1];have:=aD.1;simp at this;omega);rw [aC] at this;simpa using this
 have az:i<l.toArray.size:=(i8.1 ah).1;have og:bQ m i=false:=by
  cases an:bQ m i with
  | false=>rfl
  | true=>
   have fV:i∈eD l.toArray m (idxs 0 l):=by rw [aC];exact i5 ..
   have:∀ is,i∈eD l.toArray m is→h6 l.toArray m i=true:=by
    intro is
    induction is with
    | nil=>intro h;cases h
    | cons j is aX=>
     intro h;simp only [eD] at h;split at h
     ·rename_i an
      rcases ad4.1 h with rfl|h
      ·exact an
      ·exact aX h
     ·exact aX h
   have:=(sr.1 (this _ fV)).2.1;rw [an] at this;cases this
 refine bh.split (fun k=>if k=i then K else aN) (fun k=>if k=i then X else mM) ⟨i,az,og⟩ (fun k o' j0 cr=>?_) (fun _ _ _ _ _ _ _ => .inl trivial) (fun k o' cX j0 cr cc x ai bm=>?_) (fun k o' j0 cr cc x ai bm=>?_) (fun k o' j0 cr x ai ic=>?_)
 ·rcases ff k j0 with rfl|rfl
  ·rw [ah] at cr;cases cr
   simp only [ae2];exact ⟨au,h,fun cX cc=>by rw [av] at cc;cases cc;simpa [ak9] using aY⟩
  ·rw [hu] at cr;cases cr
   simp only [f0 (Ne.symm EX)];exact ⟨nv,eT,fun cX cc=>by rw [aF] at cc;cases cc;simpa [ak9] using o5⟩
 ·rcases ff k j0 with rfl|rfl
  ·rw [ah] at cr;cases cr
   rw [av] at cc;cases cc;simp only [ae2] at bm;rw [oe];exact aD x ai bm
  ·rw [hu] at cr;cases cr
   rw [aF] at cc;cases cc;simp only [f0 (Ne.symm EX)] at bm;rw [oe];exact eu x ai bm
 ·rcases ff k j0 with rfl|rfl
  ·rw [ah] at cr;cases cr
   rw [av] at cc;cases cc
  ·rw [hu] at cr;cases cr
   rw [aF] at cc;cases cc
 ·rcases ff k j0 with rfl|rfl
  ·simp only [ae2] at ic;exact ab x ai ic
  ·simp only [f0 (Ne.symm EX)] at ic;exact ct x ai ic
end
theorem RI {P:Program} {ops:Array Oper} {Q:gM→Act→World→Prop} (l₂:List Nat):∀ (l₁:List Nat) (a:Act) (w:World),
  iI P ops (gM.andThen (iI P ops Q l₂) Q) l₁ a w→iI P ops Q (l₁++l₂) a w:=by
 intro l₁
 induction l₁ with
 | nil=>intro a w h;exact h
 | cons i r aX=>
  intro a w h;simp only [t8,iI] at h ⊢;split at h
  ·exact aX _ _ h
  ·rename_i o ah
   split at h
   ·rename_i hw
    rw [f9 hw];refine ⟨h.1,h.2.mono ?_⟩;intro e w' he;cases e with
    | returned v=>exact aX _ _ he
    | panicked dr=>exact he
    | outgrown=>exact he
   ·rename_i hw
    rw [f0 hw];exact aX _ _ h
section
variable {P:Program} {Γ:cj} {N:Nat} {ops:Array Oper} {Q:bX→Env→ak→Prop} {env:Env} {s:ak} {l:List Oper} {o:Oper} {d:Nat}
theorem aa.cut (n:Nat) (JJ:Env) (vq:aa P N ops (l.take n) (fun x e ai=>x = .normal∧Env.Sub JJ e∧ai=s) env s) (vr:aa P N ops (l.drop n) Q JJ s):aa P N ops l Q env s:=by
 intro k aD ro B a w p aI;have hlen:l.length=(l.take n).length+(l.drop n).length:=by rw [← List.length_append,List.take_append_drop]
 rw [hlen,← List.range'_append_1];refine RI _ _ _ _ (uP ?_ _ _ _ (vq k (fun j x aO=>aD j x ?_) ro B a w p aI))
 ·rintro e c3 w' ⟨x,eN,ai,bg,ab,⟨rfl,eV,rfl⟩,hE,hle,k8⟩
  cases ab;refine fp.after hle k8 ?_ (hE.sub eV);refine vr _ (fun j x aO=>?_);rw [List.getElem?_drop] at aO;have az:=(List.getElem?_eq_some_iff.1 aO).1;rw [List.length_take,Nat.min_eq_left ag,Nat.add_assoc];exact aD _ x aO
 ·rw [List.getElem?_take] at aO
  split at aO
  ·exact aO
  ·cases aO
def JK (ops:Array Oper) (o:Oper):Option Nat:=match o.guard with
  | some (j,_)=>match ops[j]? with
    | some u=>u.dst
    | none=>none
  | none=>none
theorem aa.same (b:Bool) (au:guardOf ops env o=some b) (h:aa P N ops (o::l) Q env s):aa P N ops (o::l) Q env s:=h
theorem aa.hq {t:Nat} {b:Bool} (ao:JK ops o=some t) (ar:env.get? t=some (.bool b)) (ep:b=true→aa P N ops (o::l) Q ((t,.bool true)::env) s)
  (oh:b=false→aa P N ops (o::l) Q ((t,.bool false)::env) s):aa P N ops (o::l) Q env s:=by
 cases b with
 | true=>exact aa.BQ t ar C (ep C)
 | false=>exact aa.BQ t ar C (oh C)
end
def JL (P:Program) (t:TypeId) (name:String) (f:FuncId):Bool:=
  match P.info? t,P.underlying t with
  | some i,some d=>(match i.methods.find? (·.name==name) with
    | some m=>m.path.isEmpty&&(match m.func with|some (ml,b)=>ad0 ml f && !b|none=>false)
    | none=>false)&&(match d with | .pointer _=>false|_=>true)&&i9 0 (P.types.size+Made.depth)
  | _,_=>false
theorem B3 {P:Program} {t:TypeId} {name:String} {f:FuncId} (h:JL P t name f=true):o2 P t name f:=by
 unfold JL at h;split at h
 ·rename_i i d aS av
  simp only [f6] at h;obtain ⟨⟨U,ad⟩,al⟩:=h;split at U
  ·rename_i m hm
   simp only [f6] at U;obtain ⟨bd,bB⟩:=U;split at bB
   ·rename_i ml b a1
    simp only [f6] at bB;have b7:=ab' bB.1;have bR:b=false:=by simpa using bB.2
    subst b7;subst bR;refine QB aS hm (by simpa [Array.isEmpty] using bd) a1 av (fun e he=>by subst he;cases ad) ?_;have:0<P.types.size+Made.depth:=by simpa [ak9] using al
    exact ⟨P.types.size+Made.depth-1,by omega⟩
   ·cases bB
  ·cases U
 ·cases h
def rowOf (s:ak) (e:TypeId) (sz n:Nat):bN→ak
 | .own b=>s.set b (.row e sz n)
 | _=>s
def p3 (s:ak) (n:Nat):bN→Prop
 | .own b=>s b=none
 | .nil=>True
 | .clip=>True
 | .aZ=>False
section
variable {P:Program} {Γ:cj} {N:Nat} {env:Env} {s:ak}
theorem aW.RJ {o:Oper} {K X aN mM:af→ak→Prop} (h:aW P N o env s K X) (bm:∀ x ai,K x ai→∃ eA,ak.Sub eA ai∧aN x eA) (ic:∀ x ai,X x ai→∃ eA,ak.Sub eA ai∧mM x eA):aW P N o env s aN mM:=by
 refine ⟨h.1,fun ro B a w p aI=>(h.2 ro B a w p aI).mono ?_⟩;rintro e w' ⟨ai,bg,U,ad,al,bd⟩;cases e with
 | returned v=>
  obtain ⟨x,aD,aC⟩:=bd;obtain ⟨eA,ao,eu⟩:=bm x ai aD;exact ⟨eA,bg,U,ad.sub ao,al.sub ao,x,eu,aC⟩
 | panicked dr=>
  obtain ⟨v,x,km,aD,aC⟩:=bd;obtain ⟨eA,ao,eu⟩:=ic x ai aD;exact ⟨eA,bg,U,ad.sub ao,al.sub ao,v,x,km,eu,aC⟩
 | outgrown=>exact bd.elim
theorem aW.EY (aP:bM P Γ) {o:Oper} {t bI e:TypeId} {x y:Operand} {it cz aG:bL} {ed bW n:Nat} {xs ys:List af} {own dx:bN}
  (ah:o.op = .call { callee := .builtin .append,args := #[x,y],argTypes := #[t,bI] }) (aK:Γ.get? t=some it) (br:it.bE = .ay e) (c4:Γ.get? bI=some cz) (dC:∀ k,cz.bE ≠ .int k)
  (bH:Γ.get? e=some aG) (ab:aJ env x=some (.ay ed xs own)) (ax:aJ env y=some (.ay bW ys dx)) (hO:ed=aG.size) (c':ys=[]∨bW=aG.size)
  (d':ad0 aG.zero.cells.size aG.size=true) (dS:∀ y∈ys,iK aG.size y=true) (an:(xs.length+ys.length)*aG.bytes≤140737488355328) (en:xs.length+ys.length≤9223372036854775807)
  (aA:n=xs.length) (I:p3 s n own) {X:af→ak→Prop} :
  aW P N o env (rowOf s e aG.size n own) (fun r ai=>∃ c5,p3 s (xs.length+ys.length) c5∧(ys≠[]→∃ b,c5 = .own b)∧(∀ b,own = .own b→∃ aT,c5 = .own aT)∧r = .ay aG.size (xs++ys) c5∧ai=rowOf s e aG.size (xs.length+ys.length) c5) X:=by
 subst aA;have i':∀ b,own = .own b→rowOf s e aG.size xs.length own b=some (.row e aG.size xs.length):=fun b h=>by subst h;exact ak.fT _ _ _
 have o8:(own = .nil∨own = .clip)∨∃ b,own = .own b∧ed=aG.size∧rowOf s e aG.size xs.length own b=some (.row e aG.size xs.length):=by
  cases own with
  | nil=>exact .inl (.inl C)
  | clip=>exact .inl (.inr C)
  | aZ=>exact I.elim
  | own b=>exact .inr ⟨b,rfl,hO,i' b C⟩
 have h:=aW.append (P:=P) (N:=N) (X:=X) aP ah aK br c4 dC bH ab ax (.inr hO) c' d' dS an en o8;refine h.RJ ?_ (fun _ ai h=>⟨ai,ak.n7 _,h⟩);rintro r ai (⟨rfl,aF,rfl,rfl⟩|⟨s₁,yZ,b,U,rfl,rfl⟩)
 ·refine ⟨_,ak.n7 _,own,?_,fun h=>absurd C h,fun b h=>⟨b,h⟩,by rw [d8],?_⟩
  ·rcases aF with rfl|rfl<;>trivial
  ·rcases aF with rfl|rfl<;>rfl
 ·rcases yZ with rfl|⟨aT,rfl,rfl⟩
  ·cases own with
   | nil=>exact ⟨_,ak.n7 _,.own b,U,fun _=>⟨b,rfl⟩,fun _ h=>ng,rfl,rfl⟩
   | clip=>exact ⟨_,ak.n7 _,.own b,U,fun _=>⟨b,rfl⟩,fun _ h=>ng,rfl,rfl⟩
   | aZ=>exact I.elim
   | own aT=>
    obtain ⟨dV,dg⟩:=ak.tq U;refine ⟨s.set b (.row e aG.size (xs.length+ys.length)),fun x=>?_,.own b,dg,fun _=>⟨b,rfl⟩,fun _ _=>⟨b,rfl⟩,rfl,rfl⟩;by_cases b7:x=b
    ·subst b7;left;rw [ak.fT,ak.fT]
    ·by_cases bR:x=aT
     ·subst bR;right;rw [ak.fk _ _ b7];exact I
     ·left;rw [ak.fk _ _ b7,ak.fk _ _ b7];exact (ak.fk _ _ bR).symm
  ·have av:(rowOf s e aG.size xs.length (.own aT)).del aT=s:=ak.yS _ _ _ I
   rw [av] at U ⊢;exact ⟨_,ak.n7 _,.own b,U,fun _=>⟨b,rfl⟩,fun _ _=>⟨b,rfl⟩,rfl,rfl⟩
end
section
variable {P:Program} {Γ:cj} {N:Nat} {ops:Array Oper} {Q:bX→Env→ak→Prop} {env:Env} {s:ak} {l:List Oper} {o:Oper} {d:Nat}
end
section
variable {Q:bX→Env→ak→Prop} {next:Env→ak→Prop} {env:Env} {s:ak}
theorem lg {id:Nat} (h:Q (.exit id) env s):bX.andThen next Q (.exit id) env s:=h
theorem fW (h:Q .ret env s):bX.andThen next Q .ret env s:=h
theorem fz {id:Nat} (h:Q .normal env s):bX.inBlock id Q .normal env s:=h
theorem hr {id:Nat} (h:Q .ret env s):bX.inBlock id Q .ret env s:=h
theorem lh {id:Nat} (h:Q .normal env s):bX.inBlock id Q (.exit id) env s:=by
 show (if ad0 id id then Q .normal env s else Q (.exit id) env s);rw [ar3];exact h
theorem m0 {id ki:Nat} (aA:ad0 ki id=false) (h:Q (.exit ki) env s):bX.inBlock id Q (.exit ki) env s:=by
 show (if ad0 ki id then Q .normal env s else Q (.exit ki) env s);rw [aA];exact h
end
theorem aR.of_eq {x y:af} (h:x=y):aR x y:=h ▸ aR.refl x
theorem er {n:Int} (bo : -9223372036854775808≤n) (U:n≤9223372036854775807):aa' .i64 n=n:=by
 unfold aa' IntKind.bits IntKind.signed;simp;omega
theorem kV {n:Nat} (h:n<9223372036854775807):aa' .i64 ((n:Int)+1)=((n+1:Nat):Int):=by
 rw [er ag ag];omega
section
variable {P:Program} {Γ:cj} {N:Nat} {ops:Array Oper} {Q:bX→Env→ak→Prop} {env:Env} {s:ak} {l:List Oper} {o:Oper} {d:Nat}
theorem aa.congr (e:Env) (he:∀ t,e.get? t=env.get? t) (h:aa P N ops l Q e s):aa P N ops l Q env s:=
 fun k aD ro B a w p aI=>h k aD ro B a w p ⟨aI.size,fun t v ar=>aI.env t v ((he t).symm.trans ar),aI.wf,aI.defs,aI.round,aI.base⟩
theorem ae.congr {c:Code} (e:Env) (he:∀ t,e.get? t=env.get? t) (h:ae P N c Q e s):ae P N c Q env s:=
 fun b B a w p eU aI=>h b B a w p eU ⟨aI.size,fun t v ar=>aI.env t v ((he t).symm.trans ar),aI.wf,aI.defs,aI.round,aI.base⟩
theorem RK (e:Env) (d:Nat) (x y:af):∀ t,Env.get? ((d,x)::e) t=Env.get? ((d,x)::(d,y)::e) t:=by
 intro t;simp only [Env.get?];split<;>rfl
theorem RL (e:Env) {c d:Nat} (x y:af) (h:ad0 c d=false):∀ t,Env.get? ((d,y)::(c,x)::e) t=Env.get? ((c,x)::(d,y)::e) t:=by
 intro t;simp only [Env.get?];cases U:ad0 d t<;>cases ad:ad0 c t<;>simp
 have:=ab' U;have:=ab' ad;subst_vars;rw [ar3] at h;cases h
theorem aa.B4 (aP:bM P Γ) {o':Oper} {t:TypeId} {i:bL} {z v:af} {aV us:List af} {y:Operand} (au:guardOf ops env o=some true) (av:o.dst=some d) (aY:i9 d N=true) (ah:o.op = .alloc t) (aK:Γ.get? t=some i)
  (bP:ho i.zero=some z) (aF:cellsOf z=some aV) (nv:∀ b,guardOf ops ((d,.ptr b 0)::env) o'=some true) (cc:o'.dst=none) (cr:o'.op = .store t (.tmp d) y)
  (ax:∀ b,aJ ((d,.ptr b 0)::env) y=some v) (ar:cellsOf v=some us) (hu:ad0 us.length i.size=true) (U:us.all e4=true) (fl:ad0 us.length aV.length=true)
  (h:aa P N ops l Q ((d,.bs us 0)::env) s):aa P N ops (o::o'::l) Q env s:=by
 refine aa.alloc aP au av aY ah aK bP aF (fun b an=>?_);have aB:=ab' fl;have RM:aJ ((d,.ptr b 0)::env) (.tmp d)=some (.ptr b 0):=by simp [aJ,Env.get?]
 refine aa.Bz aP (nv b) cc cr aK RM (ax b) ar hu U (ak.fT _ _ _) (Nat.ble_eq_true_of_le ag) ?_;rw [ak.set_set];refine aa.freeze d b (by simp [Env.get?]) (ak.fT _ _ _) ?_;rw [ak.yS _ _ _ an];have he:eO 0 us aV=us:=by rw [I5 _ _ _ ag];simp [List.drop_eq_nil_of_le,aB]
 rw [he];exact aa.congr _ (RK _ _ _ _) h
end
section
variable {P:Program} {Γ:cj} {N:Nat} {l:List Oper} {Q:bX→Env→ak→Prop} {env:Env} {s:ak} {m:Nat}
theorem ba.RN {σ:Type} (f:σ→af) (g:σ→ak) (acv:σ→Prop) {EZ:σ→Prop} (aP:bM P Γ) {i j:Nat} {o u:Oper} {d c:Nat} {t T:TypeId} {x:Operand} {dM:bL} {b off:Nat} {cs:List af} {v:af} {aN mM:af→ak→Prop}
  (aC:eD l.toArray m (idxs 0 l)=[i,j]) (RO:eD l.toArray (m|||2^i) (idxs 0 l)=[j])
  (ah:l.toArray[i]? = some o) (hu:l.toArray[j]? = some u) (av:o.dst=some d) (aF:u.dst=some c) (aY:i9 d N=true) (o5:i9 c N=true) (cp:ad0 i j=false)
  (bV:o.op = .load t x) (aK:Γ.get? t=some dM) (ab:aJ (bU l env o) x=some (.ptr b off)) (ao:s b=some (.box T cs)) (ar:hD dM cs off=some v)
  (au:cY l env o) (nv:guardOf l.toArray (ij env (looks l.toArray u)) u=some true)
  (b7:ij ((d,v)::env) (looks l.toArray u)=ij env (looks l.toArray u))
  (eT:aW P N u (ij env (looks l.toArray u)) s aN mM)
  (bm:∀ y ai,aN y ai→∃ z,acv z∧y=f z∧ai=g z)
  (lj:∀ z,acv z→EZ z→ba P Γ N l.toArray Q (bQ (m|||2^i|||2^j)) ((c,f z)::(d,v)::env) (g z))
  (cB:∀ z,acv z→EZ z→ba P Γ N l.toArray Q (bQ (m|||2^j)) ((c,f z)::env) (g z))
  (aD:∀ z,acv z→EZ z) (ct:∀ y ai,mM y ai→Q (.panic y) [] ai):ba P Γ N l.toArray Q (bQ m) env s:=by
 refine ba.two (X:=fun _ _=>False) aC ah hu av aF aY o5 cp au nv (aW.tr aP bV aK ab ao ar) eT ?_ ?_ (fun _ _ h=>h.elim) ct
 ·rintro y ai ⟨rfl,rfl⟩
  refine ba.one RO hu aF o5 (by rw [← b7] at nv;exact nv) (by rw [← b7] at eT;exact eT) (fun y ai ax=>?_) ct;obtain ⟨z,bP,rfl,rfl⟩:=bm y ai ax;exact lj z bP (aD z bP)
 ·intro y ai ax
  obtain ⟨z,bP,rfl,rfl⟩:=bm y ai ax;exact cB z bP (aD z bP)
end
theorem df.p4 {w:World} {p:bO} {s:ak} (h:df w p s) {b:Nat} {T:TypeId} {cs cs':List af} (ao:s b=some (.box T cs)) (aF:cM cs cs'):df w p (s.set b (.box T cs')):=by
 refine ⟨fun x o ab=>?_,h.lt⟩;by_cases e:x=b
 ·subst e
  rw [ak.fT] at ab;cases ab;obtain ⟨vs,U,ad,al⟩:=h.obj _ _ ao;exact ⟨vs,U,aF.rel ad,al⟩
 ·rw [ak.fk _ _ e] at ab;exact h.obj x o ab
theorem ak.xg {s:ak} {b:Nat} {o o':ds} (ao:s b=some o) (x:Nat):(s.set b o') x=none↔s x=none:=by
 by_cases e:x=b
 ·subst e;rw [ak.fT,ao];simp
 ·rw [ak.fk _ _ e]
theorem dq.p4 {N:Nat} {B:fx} {ro:Option Nat} {env:Env} {s:ak} {a:Act} {w:World} {p:bO} (h:dq N B ro env s a w p) {b:Nat} {T:TypeId} {cs cs':List af} (ao:s b=some (.box T cs)) (aF:cM cs cs') :
  dq N B ro env (s.set b (.box T cs')) a w p:=by
 obtain ⟨b4,U,ad,al⟩:=h.defs
 exact ⟨h.size,h.env,h.wf.p4 ao aF,⟨b4,U,ad,fun d av=>let ⟨a,b,c⟩:=al d av;⟨a,b,(ak.xg ao d).2 c⟩⟩,
  fun l aB=>let ⟨a,b,c⟩:=h.round l aB;⟨a,b,(ak.xg ao l).2 c⟩,h.base⟩
theorem Kept.p4 {s eA:ak} {w w':World} {p bg:bO} {b:Nat} {o o':ds} (ao:s b=some o) (h:Kept (s.set b o') eA w p w' bg):Kept s eA w p w' bg :=
 ⟨fun x ab aA=>h.heap x ab ((ak.xg ao x).2 aA),fun x ab aA=>h.kl x ab ((ak.xg ao x).2 aA),fun x o ab aA=>h.kM x o ab ((ak.xg ao x).2 aA)⟩
theorem ae.p4 {P:Program} {N:Nat} {Q:bX→Env→ak→Prop} {env:Env} {s:ak} {c:Code} (b:Nat) {T:TypeId} {cs:List af} (cs':List af) (ao:s b=some (.box T cs)) (aF:cM cs cs')
  (h:ae P N c Q env (s.set b (.box T cs'))):ae P N c Q env s:=
 fun gV B a w p eU aI=>lG (h gV B a w p eU (aI.p4 ao aF)) fun _ _ _ ⟨x,eN,eA,bg,U,ad,al,bd,bB⟩=>⟨x,eN,eA,bg,U,ad,al,bd,bB.p4 ao⟩
theorem aa.p4 {P:Program} {N:Nat} {ops:Array Oper} {l:List Oper} {Q:bX→Env→ak→Prop} {env:Env} {s:ak} (b:Nat) {T:TypeId} {cs:List af} (cs':List af) (ao:s b=some (.box T cs)) (aF:cM cs cs')
  (h:aa P N ops l Q env (s.set b (.box T cs'))):aa P N ops l Q env s:=
 fun k aD ro B a w p aI=>uP (fun _ _ _ ⟨x,eN,eA,bg,U,ad,al,bd,bB⟩=>⟨x,eN,eA,bg,U,ad,al,bd,bB.p4 ao⟩) _ a w (h k aD ro B a w p (aI.p4 ao aF))
theorem cM.one {x y:af} (h:aR x y):cM [x] [y] := .cons h .nil
theorem cM.last {x y:af} (h:aR x y):∀ (l:List af),cM (l++[x]) (l++[y])
 | [] => .one h
 | z::l => .cons (aR.refl z) (cM.last h l)
theorem ak.set_comm (s:ak) {b c:Nat} (o o':ds) (h:b≠c):(s.set b o).set c o'=(s.set c o').set b o:=by
 funext x;simp only [ak.set];split<;>split<;>simp_all
theorem p3.ne {s:ak} {n b:Nat} {own:bN} {o:ds} (I:p3 s n own) (h:s b=some o):∀ aT,own = .own aT→aT≠b:=by
 rintro aT rfl e;subst e;simp only [p3] at I;rw [I] at h;cases h
theorem p3.set {s:ak} {n m b:Nat} {own:bN} {o o':ds} (I:p3 s n own) (h:s b=some o):p3 (s.set b o') m own:=by
 cases own with
 | own aT=>exact (ak.xg h aT).2 I
 | nil=>trivial
 | clip=>trivial
 | aZ=>exact I
section
variable {P:Program} {Γ:cj} {N:Nat} {l:List Oper} {Q:bX→Env→ak→Prop} {env:Env} {s:ak} {m:Nat}
end
theorem ak.RP {s t:ak} {b:Nat} {o:ds} (h:ak.Sub s t) (an:s b=none):ak.Sub s (t.set b o):=fun x=>by
 by_cases e:x=b
 ·subst e;exact .inr an
 ·rw [ak.fk _ _ e];exact h x
section
variable {P:Program} {Γ:cj} {N:Nat} {l:List Oper} {Q:bX→Env→ak→Prop} {env:Env} {s:ak} {m:Nat}
theorem bh.p5 {J:ak→Prop} (cZ:J s) {i:Nat} {o:Oper} {d:Nat} {v:af} (aC:h6 l.toArray m i=true) (ah:l.toArray[i]? = some o) (av:o.dst=some d) (aY:i9 d N=true)
  (au:cY l env o) (ar:∀ s,J s→aW P N o (bU l env o) s (fun x ai=>x=v∧ai=s) (fun _ _=>False))
  (h:bh J P Γ N l.toArray Q (bQ (m|||2^i)) ((d,v)::env) s):bh J P Γ N l.toArray Q (bQ m) env s:=by
 have U:=sr.1 aC;refine bh.still cZ i o d v U ah av BS (.inr (.inr ⟨au,ar⟩)) ?_;rw [oe];exact h
theorem ba.calm {i:Nat} {o:Oper} {d:Nat} {v:af} (aC:h6 l.toArray m i=true) (ah:l.toArray[i]? = some o) (av:o.dst=some d) (aY:i9 d N=true)
  (au:cY l env o) (ar:∀ s,aW P N o (bU l env o) s (fun x ai=>x=v∧ai=s) (fun _ _=>False))
  (h:ba P Γ N l.toArray Q (bQ (m|||2^i)) ((d,v)::env) s):ba P Γ N l.toArray Q (bQ m) env s:=
 bh.p5 trivial aC ah av aY au (fun s _=>ar s) h
theorem ba.RQ {i:Nat} {o:Oper} {d:Nat} {f:FuncId} {as:Array Operand} {c0:Array TypeId} {xs:List af} {v:af} (aC:h6 l.toArray m i=true) (ah:l.toArray[i]? = some o) (av:o.dst=some d) (aY:i9 d N=true)
  (au:cY l env o) (bV:o.op = .call { callee := .value (.func f),args:=as,argTypes:=c0 }) (a8:fy (bU l env o) as.toList=some xs)
  (aF:∀ s,gX P f xs s (fun o ai=>o = .ret v∧ai=s))
  (h:ba P Γ N l.toArray Q (bQ (m|||2^i)) ((d,v)::env) s):ba P Γ N l.toArray Q (bQ m) env s:=
 ba.calm aC ah av aY au (fun s=>(aW.call bV (fv := .func f [] []) rfl a8 (hG.fa (R:=fun o ai=>o = .ret v∧ai=s) (by simpa using aF s))).mono (fun x ai h=>by cases h.1;exact ⟨rfl,h.2⟩) (fun x ai h=>by cases h.1)) h
def jR (P:Program) (Γ:cj) (N:Nat) (l:List Oper) (Q:bX→Env→ak→Prop) (m:Nat) (env:Env) (s:ak) (i:Nat):Prop:=
 ∃ (o:Oper) (K X:af→ak→Prop),l.toArray[i]? = some o∧guardOf l.toArray (bU l env o) o=some true∧aW P N o (bU l env o) s K X∧(∀ d,o.dst=some d→d<N) ∧
  (∀ d,o.dst=some d→∀ x ai,K x ai→ba P Γ N l.toArray Q (bQ (m|||2^i)) ((d,x)::env) ai)∧(o.dst=none→∀ x ai,K x ai→ba P Γ N l.toArray Q (bQ (m|||2^i)) env ai) ∧
  ∀ x ai,X x ai→Q (.panic x) [] ai
theorem jR.mk {i:Nat} {o:Oper} {d:Nat} {K X:af→ak→Prop} (ah:l.toArray[i]? = some o) (av:o.dst=some d) (aY:i9 d N=true) (au:cY l env o)
  (h:aW P N o (bU l env o) s K X) (aD:∀ x ai,K x ai→ba P Γ N l.toArray Q (bQ (m|||2^i)) ((d,x)::env) ai) (ab:∀ x ai,X x ai→Q (.panic x) [] ai):jR P Γ N l Q m env s i:=
 ⟨o,K,X,ah,au,h,(fun cX cc=>by rw [av] at cc;cases cc;simpa [ak9] using aY),(fun cX cc=>by rw [av] at cc;cases cc;exact aD),(fun aA=>by rw [av] at aA;cases aA),ab⟩
theorem jR.B5 {i:Nat} {o:Oper} {K X:af→ak→Prop} (ah:l.toArray[i]? = some o) (av:o.dst=none) (au:cY l env o)
  (h:aW P N o (bU l env o) s K X) (aD:∀ x ai,K x ai→ba P Γ N l.toArray Q (bQ (m|||2^i)) env ai) (ab:∀ x ai,X x ai→Q (.panic x) [] ai):jR P Γ N l Q m env s i:=
 ⟨o,K,X,ah,au,h,(fun cX cc=>by rw [av] at cc;cases cc),(fun cX cc=>by rw [av] at cc;cases cc),(fun _=>aD),ab⟩
def hH (P:Program) (Γ:cj) (N:Nat) (l:List Oper) (Q:bX→Env→ak→Prop) (m:Nat) (env:Env) (s:ak):List Nat→Prop
 | []=>True
 | i::is=>jR P Γ N l Q m env s i∧hH P Γ N l Q m env s is
theorem hH.mem {i:Nat}:∀ {is:List Nat},hH P Γ N l Q m env s is→i∈is→jR P Γ N l Q m env s i
  | j::is,h,aS=>by
    rcases ad4.1 aS with rfl|aS
    · exact h.1
    · exact hH.mem h.2 aS
theorem E0 {ops:Array Oper} {i:Nat}:∀ {is:List Nat},i∈eD ops m is→h6 ops m i=true
  | j::is,h=>by
    simp only [eD] at h;split at h
    · rename_i an
      rcases ad4.1 h with rfl|h
      · exact an
      · exact E0 h
    · exact E0 h
theorem ba.many {i:Nat} {is:List Nat} (aC:eD l.toArray m (idxs 0 l)=i::is) (h:hH P Γ N l Q m env s (i::is)):ba P Γ N l.toArray Q (bQ m) env s:=by
 have ff:∀ k,gZ l.toArray (bQ m) k→jR P Γ N l Q m env s k:=fun k aD=>by
  have:=za aD (l:=idxs 0 l) (by rw [xc,ao1];have:=aD.1;simp at this;omega);rw [aC] at this;exact h.mem this
 have iM:gZ l.toArray (bQ m) i:=sr.1 (E0 (is:=idxs 0 l) (by rw [aC];exact i5 ..));refine bh.split (fun k x ai=>∃ o,l.toArray[k]? = some o∧(∀ d,o.dst=some d→ba P Γ N l.toArray Q (bQ (m|||2^k)) ((d,x)::env) ai)∧(o.dst=none→ba P Γ N l.toArray Q (bQ (m|||2^k)) env ai))
  (fun k x ai=>Q (.panic x) [] ai) ⟨i,iM.1,iM.2.1⟩ (fun k o aD ah=>?_) (fun _ _ _ _ _ _ _ => .inl trivial) (fun k o d aD ah av x ai ⟨o',cr,U,ad⟩=>?_) (fun k o aD ah av x ai ⟨o',cr,U,ad⟩=>?_) (fun k o aD ah x ai ab=>ab)
 ·obtain ⟨o',K,X,cr,au,pZ,aY,U,ad,al⟩:=ff k aD
  rw [ah] at cr;cases cr;exact ⟨au,pZ.mono (fun x ai bm=>⟨o,ah,fun d av=>U d av x ai bm,fun av=>ad av x ai bm⟩) (fun x ai ic=>al x ai ic),aY⟩
 ·rw [ah] at cr;cases cr
  rw [oe];exact U d av
 ·rw [ah] at cr;cases cr
  rw [oe];exact ad av
end
section
variable {P:Program} {Γ:cj} {N:Nat} {ops:Array Oper} {Q:bX→Env→ak→Prop} {env:Env} {s:ak} {l:List Oper} {o:Oper} {d:Nat}
theorem aW.E1 {o:Oper} {t:TypeId} {x:Operand} {v:af} {cs:List af} (ah:o.op = .box t x) (ab:aJ env x=some v) (aF:cellsOf v=some cs) {X:af→ak→Prop} :
  aW P N o env s (fun r ai=>∃ b,s b=none∧r = .ptr b 0∧ai=s.set b (.box t cs)) X:=by
 refine aW.jY iN fun ro B a w p aI=>?_
 have aC:=pM (aI.aJ ab) aF;obtain ⟨cv,db,e8,ew⟩:=qR aI.wf (.cells (a.eval x).cells t) (.box t cs) (fun w' U ad al=>⟨(a.eval x).cells,U,al _ _ aC,fun o aE=>absurd (aI.wf.lt _ _ aE) ag⟩);refine ⟨.pointer (some ⟨w.heap.size,0,none⟩),w.alloc (.cells (a.eval x).cells t),_,p,.ptr w.heap.size 0,?_,db,e8,ew,⟨_,cv,rfl,rfl⟩,.ptr _ _⟩;unfold execOp;rw [ah];rfl
theorem aa.E1 {t:TypeId} {x:Operand} {v:af} {cs:List af} (au:guardOf ops env o=some true) (av:o.dst=some d) (aY:i9 d N=true) (ah:o.op = .box t x) (ab:aJ env x=some v) (aF:cellsOf v=some cs)
  (h:∀ b,s b=none→aa P N ops l Q ((d,.ptr b 0)::env) (s.set b (.box t cs))):aa P N ops (o::l) Q env s:=
 aa.op au av aY (aW.E1 ah ab aF (X:=fun _ _=>False)) (fun x ai ⟨b,U,ad,al⟩=>by subst ad;subst al;exact h b U) (fun _ _ h=>h.elim)
end
abbrev a6:=List (bN×ds)
def lk (s:ak) (k:bN) (o:ds):ak:=match k with
 | .own b=>s.set b o
 | _=>s
def gone (s:ak) (k:bN):Prop:=match k with
 | .own b=>s b=none
 | .aZ=>False
 | _=>True
def aQ (s:ak):a6→ak
 | []=>s
 | e::L=>lk (aQ s L) e.1 e.2
def Ok (s:ak):a6→Prop
 | []=>True
 | e::L=>gone (aQ s L) e.1∧Ok s L
inductive bl:a6→bN→ds→a6→Prop
 | here {k:bN} {o:ds} {L:a6}:bl ((k,o)::L) k o L
 | there {e:bN×ds} {k:bN} {o:ds} {L R:a6} (h:bl L k o R):bl (e::L) k o (e::R)
inductive aH:a6→a6→a6→Prop
 | nil {L:a6}:aH L [] L
 | cons {k:bN} {o:ds} {L K R dk:a6} (h:bl L k o R) (t:aH R K dk):aH L ((k,o)::K) dk
theorem JM (s:ak) (e:TypeId) (sz n:Nat) (k:bN):rowOf s e sz n k=lk s k (.row e sz n):=by cases k<;>rfl
theorem JN {s:ak} {n:Nat} {k:bN}:p3 s n k↔gone s k:=by cases k<;>exact Iff.rfl
theorem RR {s:ak} {k k':bN} {o o':ds} (h:gone s k) (eT:gone (lk s k o) k'):gone s k'∧gone (lk s k' o') k∧lk (lk s k o) k' o'=lk (lk s k' o') k o:=by
 cases k with
 | own b=>
  cases k' with
  | own aT=>
   obtain ⟨U,ad⟩:=ak.tq eT;exact ⟨ad,(ak.fk s o' (Ne.symm U)).trans h,ak.set_comm s o o' (Ne.symm U)⟩
  | nil=>exact ⟨trivial,h,rfl⟩
  | clip=>exact ⟨trivial,h,rfl⟩
  | aZ=>exact eT.elim
 | nil=>exact ⟨eT,trivial,rfl⟩
 | clip=>exact ⟨eT,trivial,rfl⟩
 | aZ=>exact h.elim
theorem bl.perm {s:ak} {L R:a6} {k:bN} {o:ds} (h:bl L k o R):Ok s L→aQ s L=aQ s ((k,o)::R)∧Ok s ((k,o)::R):=by
 induction h with
 | here=>exact fun h=>⟨rfl,h⟩
 | @there e k o L R h aX=>
  rintro ⟨au,I⟩;obtain ⟨U,ad,al⟩:=aX I;rw [U] at au;obtain ⟨g1,g2,g3⟩:=RR (s:=aQ s R) (k:=k) (o:=o) (k':=e.1) (o':=e.2) ad au;refine ⟨?_,g2,g1,al⟩;show lk (aQ s L) e.1 e.2=lk (lk (aQ s R) e.1 e.2) k o;rw [U];exact g3
theorem zg (s:ak):∀ (K R:a6),aQ s (K++R)=aQ (aQ s R) K
 | [],_=>rfl
 | e::K,R=>by show lk (aQ s (K++R)) e.1 e.2=_;rw [zg s K R];rfl
theorem B6 {s:ak}:∀ {K R:a6},Ok s (K++R)↔Ok (aQ s R) K∧Ok s R
  | [],R=>⟨fun h=>⟨trivial,h⟩,fun h=>h.2⟩
  | e::K,R=>by
    show gone (aQ s (K++R)) e.1∧Ok s (K++R)↔(gone (aQ (aQ s R) K) e.1∧Ok (aQ s R) K)∧Ok s R;rw [zg,B6,and_assoc]
theorem aH.perm {s:ak} {L K R:a6} (h:aH L K R):Ok s L→aQ s L=aQ s (K++R)∧Ok s (K++R):=by
 induction h with
 | nil=>exact fun h=>⟨rfl,h⟩
 | @cons k o L K R dk h t aX=>
  intro I;obtain ⟨U,ad,al⟩:=h.perm I;obtain ⟨bd,bB⟩:=aX al;refine ⟨?_,?_,bB⟩
  ·rw [U];show lk (aQ s R) k o=lk (aQ s (K++dk)) k o;rw [bd]
  ·have gN:gone (aQ s R) k:=ad
   rw [bd] at gN;exact gN
theorem aH.eq {s:ak} {L K R:a6} (h:aH L K R) (I:Ok s L):aQ s L=aQ (aQ s R) K∧Ok (aQ s R) K∧Ok s R:=by
 obtain ⟨U,ad⟩:=h.perm I;rw [zg] at U;exact ⟨U,B6.1 ad⟩
theorem B7 {s t:ak} {k:bN} {o:ds} (h:ak.Sub s t):ak.Sub (lk s k o) (lk t k o):=by
 cases k with
 | own b=>
  intro x;by_cases e:x=b
  ·subst e;left;show (s.set x o) x=(t.set x o) x;rw [ak.fT,ak.fT]
  ·show (s.set b o) x=(t.set b o) x∨(s.set b o) x=none
   rw [ak.fk _ _ e,ak.fk _ _ e];exact h x
 | nil=>exact h
 | clip=>exact h
 | aZ=>exact h
theorem xh {s t:ak} {k:bN} {o:ds} (h:ak.Sub s t) (au:gone s k):ak.Sub s (lk t k o):=by
 cases k with
 | own b=>exact ak.RP h au
 | nil=>exact h
 | clip=>exact h
 | aZ=>exact h
theorem E2 {s t:ak} (h:ak.Sub s t):∀ L:a6,ak.Sub (aQ s L) (aQ t L)
 | []=>h
 | _::L=>B7 (E2 h L)
theorem JO {s t:ak} {k:bN} (h:ak.Sub s t) (au:gone t k):gone s k:=by
 cases k with
 | own b=>exact h.none au
 | nil=>trivial
 | clip=>trivial
 | aZ=>exact au
theorem Ok.sub {s:ak}:∀ {L:a6},Ok s L→ak.Sub s (aQ s L)
 | [],_=>ak.n7 _
 | e::L,h=>xh (Ok.sub h.2) (JO (Ok.sub h.2) h.1)
theorem Ok.mZ {s t:ak} (h:ak.Sub s t):∀ {L:a6},Ok t L→Ok s L
 | [],_=>trivial
 | e::L,I=>⟨JO (E2 h L) I.1,Ok.mZ h I.2⟩
theorem aH.sub {s:ak} {L K R:a6} (h:aH L K R) (I:Ok s L):ak.Sub (aQ s K) (aQ s L)∧Ok s K:=by
 obtain ⟨U,ad,al⟩:=h.eq I;rw [U];exact ⟨E2 al.sub K,ad.mZ al.sub⟩
theorem bl.get {s:ak} {L R:a6} {b:Nat} {o:ds} (h:bl L (.own b) o R) (I:Ok s L):aQ s L b=some o:=by
 rw [(h.perm I).1];exact ak.fT _ _ _
theorem bl.put {s:ak} {L R:a6} {b:Nat} {o:ds} (o':ds) (h:bl L (.own b) o R) (I:Ok s L):(aQ s L).set b o'=aQ s ((.own b,o')::R)∧Ok s ((.own b,o')::R):=by
 obtain ⟨U,ad⟩:=h.perm I;rw [U];exact ⟨ak.set_set _ _ _ _,ad⟩
theorem bl.del {s:ak} {L R:a6} {b:Nat} {o:ds} (h:bl L (.own b) o R) (I:Ok s L):(aQ s L).del b=aQ s R∧Ok s R:=by
 obtain ⟨U,ad⟩:=h.perm I;rw [U];exact ⟨ak.yS _ _ _ ad.1,ad.2⟩
section
variable {P:Program} {Γ:cj} {N:Nat} {ops:Array Oper} {Q:bX→Env→ak→Prop} {env:Env} {s:ak} {l:List Oper} {o:Oper} {d:Nat} {L R:a6}
theorem aW.ey (aP:bM P Γ) (I:Ok s L) {t T:TypeId} {x:Operand} {i:bL} {b off:Nat} {cs:List af} {v:af} (ah:o.op = .load t x) (aK:Γ.get? t=some i) (ab:aJ env x=some (.ptr b off))
  (ao:bl L (.own b) (.box T cs) R) (ar:hD i cs off=some v) {X:af→ak→Prop}:aW P N o env (aQ s L) (fun x ai=>x=v∧ai=aQ s L) X:=
 aW.tr aP ah aK ab (ao.get I) ar
theorem aa.ey (aP:bM P Γ) (I:Ok s L) {t T:TypeId} {x:Operand} {i:bL} {b off:Nat} {cs:List af} {v:af} (au:guardOf ops env o=some true) (av:o.dst=some d) (aY:i9 d N=true) (ah:o.op = .load t x)
  (aK:Γ.get? t=some i) (ab:aJ env x=some (.ptr b off)) (ao:bl L (.own b) (.box T cs) R) (ar:hD i cs off=some v) (h:aa P N ops l Q ((d,v)::env) (aQ s L)):aa P N ops (o::l) Q env (aQ s L):=
 aa.tr aP au av aY ah aK ab (ao.get I) ar h
theorem aW.cN (aP:bM P Γ) (I:Ok s L) {t T:TypeId} {x y:Operand} {i:bL} {b off:Nat} {cs us:List af} {v:af} (ah:o.op = .store t x y) (aK:Γ.get? t=some i) (ab:aJ env x=some (.ptr b off))
  (ax:aJ env y=some v) (ar:cellsOf v=some us) (hu:ad0 us.length i.size=true) (U:us.all e4=true) (ao:bl L (.own b) (.box T cs) R) (fl:al9 (off+us.length) cs.length=true) {X:af→ak→Prop} :
  aW P N o env (aQ s L) (fun _ ai=>ai=aQ s ((.own b,.box T (eO off us cs))::R)∧Ok s ((.own b,.box T (eO off us cs))::R)) X:=by
 obtain ⟨ad,al⟩:=ao.put (.box T (eO off us cs)) I;exact (aW.Bz aP ah aK ab ax ar hu U (ao.get I) fl (X:=X)).mono (fun _ ai h=>⟨h.trans ad,al⟩) (fun _ _ h=>h)
theorem aa.cN (aP:bM P Γ) (I:Ok s L) {t T:TypeId} {x y:Operand} {i:bL} {b off:Nat} {cs us:List af} {v:af} (au:guardOf ops env o=some true) (av:o.dst=none) (ah:o.op = .store t x y)
  (aK:Γ.get? t=some i) (ab:aJ env x=some (.ptr b off)) (ax:aJ env y=some v) (ar:cellsOf v=some us) (hu:ad0 us.length i.size=true) (U:us.all e4=true)
  (ao:bl L (.own b) (.box T cs) R) (fl:al9 (off+us.length) cs.length=true) (h:Ok s ((.own b,.box T (eO off us cs))::R)→aa P N ops l Q env (aQ s ((.own b,.box T (eO off us cs))::R))):aa P N ops (o::l) Q env (aQ s L):=
 aa.uQ au av (aW.cN aP I ah aK ab ax ar hu U ao fl (X:=fun _ _=>False)) (fun x ai ⟨ad,al⟩=>by subst ad;exact h al) (fun _ _ h=>h.elim)
theorem aW.dO (aP:bM P Γ) (I:Ok s L) {t:TypeId} {i:bL} {z:af} {cs:List af} (ah:o.op = .alloc t) (aK:Γ.get? t=some i) (bP:ho i.zero=some z) (aF:cellsOf z=some cs) {X:af→ak→Prop} :
  aW P N o env (aQ s L) (fun x ai=>∃ b,x = .ptr b 0∧ai=aQ s ((.own b,.box t cs)::L)∧Ok s ((.own b,.box t cs)::L)) X:=
 (aW.alloc aP ah aK bP aF (X:=X)).mono (fun x ai ⟨b,U,ad,al⟩=>⟨b,ad,al,U,I⟩) (fun _ _ h=>h)
theorem aa.dO (aP:bM P Γ) (I:Ok s L) {t:TypeId} {i:bL} {z:af} {cs:List af} (au:guardOf ops env o=some true) (av:o.dst=some d) (aY:i9 d N=true) (ah:o.op = .alloc t) (aK:Γ.get? t=some i)
  (bP:ho i.zero=some z) (aF:cellsOf z=some cs) (h:∀ b,Ok s ((.own b,.box t cs)::L)→aa P N ops l Q ((d,.ptr b 0)::env) (aQ s ((.own b,.box t cs)::L))):aa P N ops (o::l) Q env (aQ s L):=
 aa.op au av aY (aW.dO aP I ah aK bP aF (X:=fun _ _=>False)) (fun x ai ⟨b,U,ad,al⟩=>by subst U;subst ad;exact h b al) (fun _ _ h=>h.elim)
theorem aW.jE (I:Ok s L) {t:TypeId} {x:Operand} {v:af} {cs:List af} (ah:o.op = .box t x) (ab:aJ env x=some v) (aF:cellsOf v=some cs) {X:af→ak→Prop} :
  aW P N o env (aQ s L) (fun x ai=>∃ b,x = .ptr b 0∧ai=aQ s ((.own b,.box t cs)::L)∧Ok s ((.own b,.box t cs)::L)) X:=
 (aW.E1 ah ab aF (X:=X)).mono (fun x ai ⟨b,U,ad,al⟩=>⟨b,ad,al,U,I⟩) (fun _ _ h=>h)
theorem aa.jE (I:Ok s L) {t:TypeId} {x:Operand} {v:af} {cs:List af} (au:guardOf ops env o=some true) (av:o.dst=some d) (aY:i9 d N=true) (ah:o.op = .box t x) (ab:aJ env x=some v) (aF:cellsOf v=some cs)
  (h:∀ b,Ok s ((.own b,.box t cs)::L)→aa P N ops l Q ((d,.ptr b 0)::env) (aQ s ((.own b,.box t cs)::L))):aa P N ops (o::l) Q env (aQ s L):=
 aa.op au av aY (aW.jE I ah ab aF (X:=fun _ _=>False)) (fun x ai ⟨b,U,ad,al⟩=>by subst U;subst ad;exact h b al) (fun _ _ h=>h.elim)
theorem aW.q1 (I:Ok s L) {t:TypeId} (ah:o.op = .makeMap t none) {X:af→ak→Prop} :
  aW P N o env (aQ s L) (fun x ai=>∃ b,x = .map b∧ai=aQ s ((.own b,.map [])::L)∧Ok s ((.own b,.map [])::L)) X:=
 (aW.makeMap ah (X:=X)).mono (fun x ai ⟨b,U,ad,al⟩=>⟨b,ad,al,U,I⟩) (fun _ _ h=>h)
theorem aa.q1 (I:Ok s L) {t:TypeId} (au:guardOf ops env o=some true) (av:o.dst=some d) (aY:i9 d N=true) (ah:o.op = .makeMap t none)
  (h:∀ b,Ok s ((.own b,.map [])::L)→aa P N ops l Q ((d,.map b)::env) (aQ s ((.own b,.map [])::L))):aa P N ops (o::l) Q env (aQ s L):=
 aa.op au av aY (aW.q1 I ah (X:=fun _ _=>False)) (fun x ai ⟨b,U,ad,al⟩=>by subst U;subst ad;exact h b al) (fun _ _ h=>h.elim)
theorem aW.jc (aP:bM P Γ) (I:Ok s L) {t dH eW:TypeId} {x y:Operand} {ok:Bool} {it gp aG:bL} {m:Nat} {es:List (af×af)} {k z:af} {r:Option af} (ah:o.op = .lookup t x y ok) (aK:Γ.get? t=some it)
  (br:it.bE = .map dH eW) (iX:Γ.get? dH=some gp) (bH:Γ.get? eW=some aG) (ab:aJ env x=some (.map m)) (ax:aJ env y=some k) (ao:bl L (.own m) (.map es) R) (a1:jO gp.bE k=true) (aC:iJ es k=some r)
  (bP:ho aG.zero=some z) {X:af→ak→Prop}:aW P N o env (aQ s L) (fun x ai=>x=la ok z r∧ai=aQ s L) X:=
 aW.lookup aP ah aK br iX bH ab ax (.inl ⟨m,rfl,ao.get I⟩) a1 aC bP
theorem aa.jc (aP:bM P Γ) (I:Ok s L) {t dH eW:TypeId} {x y:Operand} {ok:Bool} {it gp aG:bL} {m:Nat} {es:List (af×af)} {k z:af} {r:Option af} (au:guardOf ops env o=some true) (av:o.dst=some d) (aY:i9 d N=true)
  (ah:o.op = .lookup t x y ok) (aK:Γ.get? t=some it) (br:it.bE = .map dH eW) (iX:Γ.get? dH=some gp) (bH:Γ.get? eW=some aG) (ab:aJ env x=some (.map m)) (ax:aJ env y=some k) (ao:bl L (.own m) (.map es) R)
  (a1:jO gp.bE k=true) (aC:iJ es k=some r) (bP:ho aG.zero=some z) (h:aa P N ops l Q ((d,la ok z r)::env) (aQ s L)):aa P N ops (o::l) Q env (aQ s L):=
 aa.lookup aP au av aY ah aK br iX bH ab ax (ao.get I) a1 aC bP h
theorem aW.mm (aP:bM P Γ) (I:Ok s L) {t dH eW:TypeId} {x y z:Operand} {it gp:bL} {b:Nat} {es dn:List (af×af)} {k v:af} (ah:o.op = .mapUpdate t x y z∨o.op = .insert t x y z)
  (aK:Γ.get? t=some it) (br:it.bE = .map dH eW) (iX:Γ.get? dH=some gp) (ab:aJ env x=some (.map b)) (ax:aJ env y=some k) (bP:aJ env z=some v) (ao:bl L (.own b) (.map es) R) (a1:jO gp.bE k=true)
  (aE:k9 es k v=some dn) {X:af→ak→Prop}:aW P N o env (aQ s L) (fun _ ai=>ai=aQ s ((.own b,.map dn)::R)∧Ok s ((.own b,.map dn)::R)) X:=by
 obtain ⟨ad,al⟩:=ao.put (.map dn) I;exact (aW.mapUpdate aP ah aK br iX ab ax bP (ao.get I) a1 aE (X:=X)).mono (fun _ ai h=>⟨h.trans ad,al⟩) (fun _ _ h=>h)
theorem aa.mm (aP:bM P Γ) (I:Ok s L) {t dH eW:TypeId} {x y z:Operand} {it gp:bL} {b:Nat} {es dn:List (af×af)} {k v:af} (au:guardOf ops env o=some true) (av:o.dst=none) (ah:o.op = .mapUpdate t x y z∨o.op = .insert t x y z)
  (aK:Γ.get? t=some it) (br:it.bE = .map dH eW) (iX:Γ.get? dH=some gp) (ab:aJ env x=some (.map b)) (ax:aJ env y=some k) (bP:aJ env z=some v) (ao:bl L (.own b) (.map es) R) (a1:jO gp.bE k=true)
  (aE:k9 es k v=some dn) (h:Ok s ((.own b,.map dn)::R)→aa P N ops l Q env (aQ s ((.own b,.map dn)::R))):aa P N ops (o::l) Q env (aQ s L):=
 aa.uQ au av (aW.mm aP I ah aK br iX ab ax bP ao a1 aE (X:=fun _ _=>False)) (fun x ai ⟨ad,al⟩=>by subst ad;exact h al) (fun _ _ h=>h.elim)
theorem aW.m1 (aP:bM P Γ) (I:Ok s L) {t bI e:TypeId} {x y:Operand} {it cz aG:bL} {ed bW sz n n':Nat} {xs ys:List af} {own dx:bN}
  (ah:o.op = .call { callee := .builtin .append,args := #[x,y],argTypes := #[t,bI] }) (aK:Γ.get? t=some it) (br:it.bE = .ay e) (c4:Γ.get? bI=some cz) (dC:∀ k,cz.bE ≠ .int k)
  (bH:Γ.get? e=some aG) (ab:aJ env x=some (.ay ed xs own)) (ax:aJ env y=some (.ay bW ys dx)) (hO:ed=aG.size) (c':ys=[]∨bW=aG.size)
  (d':ad0 aG.zero.cells.size aG.size=true) (dS:∀ y∈ys,iK aG.size y=true) (an:(xs.length+ys.length)*aG.bytes≤140737488355328) (en:xs.length+ys.length≤9223372036854775807)
  (aA:n=xs.length) (gF:n'=xs.length+ys.length) (b':sz=aG.size) (ao:bl L own (.row e sz n) R) {X:af→ak→Prop} :
  aW P N o env (aQ s L) (fun r ai=>∃ c5,(ys≠[]→∃ b,c5 = .own b)∧(∀ b,own = .own b→∃ aT,c5 = .own aT)∧r = .ay sz (xs++ys) c5∧ai=aQ s ((c5,.row e sz n')::R)∧Ok s ((c5,.row e sz n')::R)) X:=by
 subst b';subst gF;obtain ⟨U,ad,al⟩:=ao.perm I;have bd:aQ s L=rowOf (aQ s R) e aG.size n own:=U.trans (JM _ _ _ _ _).symm;rw [bd];refine (aW.EY aP ah aK br c4 dC bH ab ax hO c' d' dS an en aA (JN.2 ad) (X:=X)).mono ?_ (fun _ _ h=>h);rintro r ai ⟨c5,g1,g2,g3,rfl,rfl⟩;exact ⟨c5,g2,g3,rfl,JM _ _ _ _ _,JN.1 g1,al⟩
theorem aa.gq (aP:bM P Γ) (I:Ok s L) {t bI e:TypeId} {x y:Operand} {it cz aG:bL} {ed bW sz n:Nat} {xs:List af} {v:af} {own dx:bN} (au:guardOf ops env o=some true) (av:o.dst=some d) (aY:i9 d N=true)
  (ah:o.op = .call { callee := .builtin .append,args := #[x,y],argTypes := #[t,bI] }) (aK:Γ.get? t=some it) (br:it.bE = .ay e) (c4:Γ.get? bI=some cz) (dC:∀ k,cz.bE ≠ .int k)
  (bH:Γ.get? e=some aG) (ab:aJ env x=some (.ay ed xs own)) (ax:aJ env y=some (.ay bW [v] dx)) (hO:ed=aG.size) (c':bW=aG.size)
  (d':ad0 aG.zero.cells.size aG.size=true) (dS:iK aG.size v=true) (b':sz=aG.size) (ao:bl L own (.row e sz n) R) (aA:n=xs.length) (an:(n+1)*aG.bytes≤140737488355328) (en:n+1≤9223372036854775807)
  (h:∀ b,Ok s ((.own b,.row e sz (n+1))::R)→aa P N ops l Q ((d,.ay sz (xs++[v]) (.own b))::env) (aQ s ((.own b,.row e sz (n+1))::R))):aa P N ops (o::l) Q env (aQ s L):=by
 subst aA;refine aa.op au av aY (aW.m1 aP I ah aK br c4 dC bH ab ax hO (.inr c') d' (by intro y ax;simp at ax;subst ax;exact dS) an en C (n':=xs.length+1) C b' ao (X:=fun _ _=>False)) ?_ (fun _ _ h=>h.elim);rintro r ai ⟨c5,ad,-,rfl,rfl,al⟩;obtain ⟨b,rfl⟩:=ad bc;exact h b al
theorem aa.m1 (aP:bM P Γ) (I:Ok s L) {t bI e:TypeId} {x y:Operand} {it cz aG:bL} {ed bW sz n n':Nat} {xs ys:List af} {own dx:bN} (au:guardOf ops env o=some true) (av:o.dst=some d) (aY:i9 d N=true)
  (ah:o.op = .call { callee := .builtin .append,args := #[x,y],argTypes := #[t,bI] }) (aK:Γ.get? t=some it) (br:it.bE = .ay e) (c4:Γ.get? bI=some cz) (dC:∀ k,cz.bE ≠ .int k)
  (bH:Γ.get? e=some aG) (ab:aJ env x=some (.ay ed xs own)) (ax:aJ env y=some (.ay bW ys dx)) (hO:ed=aG.size) (c':ys=[]∨bW=aG.size)
  (d':ad0 aG.zero.cells.size aG.size=true) (dS:∀ y∈ys,iK aG.size y=true) (b':sz=aG.size) (ao:bl L own (.row e sz n) R) (aA:n=xs.length) (gF:n'=xs.length+ys.length) (an:(xs.length+ys.length)*aG.bytes≤140737488355328) (en:xs.length+ys.length≤9223372036854775807)
  (h:∀ c5,Ok s ((c5,.row e sz n')::R)→aa P N ops l Q ((d,.ay sz (xs++ys) c5)::env) (aQ s ((c5,.row e sz n')::R))):aa P N ops (o::l) Q env (aQ s L):=by
 refine aa.op au av aY (aW.m1 aP I ah aK br c4 dC bH ab ax hO c' d' dS an en aA gF b' ao (X:=fun _ _=>False)) ?_ (fun _ _ h=>h.elim);rintro r ai ⟨c5,-,-,rfl,rfl,al⟩;exact h c5 al
theorem ae.mn {c:Code} (I:Ok s L) (t b:Nat) {T:TypeId} {cs:List af} (aK:env.get? t=some (.ptr b 0)) (ao:bl L (.own b) (.box T cs) R) (h:Ok s R→ae P N c Q ((t,.bs cs 0)::env) (aQ s R)):ae P N c Q env (aQ s L):=by
 obtain ⟨U,ad⟩:=ao.del I;refine ae.freeze t b aK (ao.get I) ?_;rw [U];exact h ad
theorem aa.mn (I:Ok s L) (t b:Nat) {T:TypeId} {cs:List af} (aK:env.get? t=some (.ptr b 0)) (ao:bl L (.own b) (.box T cs) R) (h:Ok s R→aa P N ops l Q ((t,.bs cs 0)::env) (aQ s R)):aa P N ops l Q env (aQ s L):=by
 obtain ⟨U,ad⟩:=ao.del I;refine aa.freeze t b aK (ao.get I) ?_;rw [U];exact h ad
theorem ae.vt {c:Code} (I:Ok s L) (b:Nat) {T:TypeId} {cs:List af} (cs':List af) (ao:bl L (.own b) (.box T cs) R) (aF:cM cs cs') (h:Ok s ((.own b,.box T cs')::R)→ae P N c Q env (aQ s ((.own b,.box T cs')::R))):ae P N c Q env (aQ s L):=by
 obtain ⟨U,ad⟩:=ao.put (.box T cs') I;refine ae.p4 b cs' (ao.get I) aF ?_;rw [U];exact h ad
theorem aa.vt (I:Ok s L) (b:Nat) {T:TypeId} {cs:List af} (cs':List af) (ao:bl L (.own b) (.box T cs) R) (aF:cM cs cs') (h:Ok s ((.own b,.box T cs')::R)→aa P N ops l Q env (aQ s ((.own b,.box T cs')::R))):aa P N ops l Q env (aQ s L):=by
 obtain ⟨U,ad⟩:=ao.put (.box T cs') I;refine aa.p4 b cs' (ao.get I) aF ?_;rw [U];exact h ad
theorem ae.lQ {c:Code} (I:Ok s L) (K:a6) (ao:aH L K R) (h:Ok s K→ae P N c Q env (aQ s K)):ae P N c Q env (aQ s L):=by
 obtain ⟨U,ad⟩:=ao.sub I;exact ae.drop _ U (h ad)
theorem aa.lQ (I:Ok s L) (K:a6) (ao:aH L K R) (h:Ok s K→aa P N ops l Q env (aQ s K)):aa P N ops l Q env (aQ s L):=by
 obtain ⟨U,ad⟩:=ao.sub I;exact aa.drop _ U (h ad)
end
def tC (s:ak) (R:eo→a6→Prop) (o:eo) (ai:ak):Prop:=∃ K,ai=aQ s K∧Ok s K∧R o K
def bz (P:Program) (f:FuncId) (args:List af) (K:a6) (R:eo→a6→Prop):Prop:=∀ s,Ok s K→gX P f args (aQ s K) (tC s R)
def dh (P:Program) (fv:af) (args:List af) (K:a6) (R:eo→a6→Prop):Prop:=∀ s,Ok s K→hG P fv args (aQ s K) (tC s R)
def aU (P:Program) (f:FuncId) (args:List af) (v:af):Prop:=∀ s,gX P f args s (fun o ai=>o = .ret v∧ai=s)
def ee (P:Program) (fv:af) (args:List af) (v:af):Prop:=∀ s,hG P fv args s (fun o ai=>o = .ret v∧ai=s)
theorem ee.fa {P:Program} {f:FuncId} {first cap args:List af} {v:af} (h:aU P f (first++(args++cap)) v):ee P (.func f first cap) args v:=fun s=>hG.fa (h s)
section
variable {P:Program} {Γ:cj} {N:Nat} {ops:Array Oper} {Q:bX→Env→ak→Prop} {env:Env} {s:ak} {l:List Oper} {o:Oper} {d:Nat} {L R K:a6} {ace:eo→a6→Prop}
theorem aa.ll {g:Operand} {fv:af} {as:Array Operand} {c0:Array TypeId} {xs:List af} {v:af} (au:guardOf ops env o=some true) (av:o.dst=some d) (aY:i9 d N=true)
  (bV:o.op = .call { callee := .value g,args:=as,argTypes:=c0 }) (ar:aJ env g=some fv) (a8:fy env as.toList=some xs) (h:ee P fv xs v) (aD:aa P N ops l Q ((d,v)::env) s):aa P N ops (o::l) Q env s:=
 aa.ED au av aY bV ar a8 (h s) (fun x ai ⟨U,ad⟩=>by cases U;subst ad;exact aD) (fun x ai ⟨U,_⟩=>by cases U)
theorem bz.mono {f:FuncId} {args:List af} {zh:eo→a6→Prop} (h:bz P f args K ace) (aC:∀ o K,ace o K→zh o K):bz P f args K zh :=
 fun s I=>(h s I).mono fun o ai ⟨aN,U,ad,al⟩=>⟨aN,U,ad,aC _ _ al⟩
theorem dh.mono {fv:af} {args:List af} {zh:eo→a6→Prop} (h:dh P fv args K ace) (aC:∀ o K,ace o K→zh o K):dh P fv args K zh :=
 fun s I=>(h s I).mono fun o ai ⟨aN,U,ad,al⟩=>⟨aN,U,ad,aC _ _ al⟩
theorem bz.at {f:FuncId} {args:List af} (h:bz P f args K ace) (I:Ok s L) (ao:aH L K R):gX P f args (aQ s L) (tC s fun o M=>∃ aN,M=aN++R∧ace o aN):=by
 obtain ⟨U,ad,al⟩:=ao.eq I;rw [U];refine (h _ ad).mono ?_;rintro o ai ⟨aN,rfl,g2,g3⟩;exact ⟨aN++R,(zg _ _ _).symm,B6.2 ⟨g2,al⟩,aN,rfl,g3⟩
theorem dh.at {fv:af} {args:List af} (h:dh P fv args K ace) (I:Ok s L) (ao:aH L K R):hG P fv args (aQ s L) (tC s fun o M=>∃ aN,M=aN++R∧ace o aN):=by
 obtain ⟨U,ad,al⟩:=ao.eq I;rw [U];refine (h _ ad).mono ?_;rintro o ai ⟨aN,rfl,g2,g3⟩;exact ⟨aN++R,(zg _ _ _).symm,B6.2 ⟨g2,al⟩,aN,rfl,g3⟩
theorem dh.fa {f:FuncId} {first cap args:List af} (h:bz P f (first++(args++cap)) K ace):dh P (.func f first cap) args K ace:=fun s I=>hG.fa (h s I)
theorem aW.bZ {f:FuncId} {as:Array Operand} {c0:Array TypeId} {xs:List af} (bV:o.op = .call { callee := .value (.func f),args:=as,argTypes:=c0 }) (a8:fy env as.toList=some xs)
  (h:bz P f xs K ace) (I:Ok s L) (ao:aH L K R) :
  aW P N o env (aQ s L) (fun x ai=>∃ aN,ai=aQ s (aN++R)∧Ok s (aN++R)∧ace (.ret x) aN) (fun x ai=>∃ aN,ai=aQ s (aN++R)∧Ok s (aN++R)∧ace (.panic x) aN):=by
 refine (aW.call bV (fv := .func f [] []) C a8 (hG.fa (by simpa using h.at I ao))).mono ?_ ?_
 ·rintro x ai ⟨M,rfl,ad,aN,rfl,al⟩;exact ⟨aN,rfl,ad,al⟩
 ·rintro x ai ⟨M,rfl,ad,aN,rfl,al⟩;exact ⟨aN,rfl,ad,al⟩
theorem aW.gr {g:Operand} {fv:af} {as:Array Operand} {c0:Array TypeId} {xs:List af} (bV:o.op = .call { callee := .value g,args:=as,argTypes:=c0 }) (ar:aJ env g=some fv) (a8:fy env as.toList=some xs)
  (h:dh P fv xs K ace) (I:Ok s L) (ao:aH L K R) :
  aW P N o env (aQ s L) (fun x ai=>∃ aN,ai=aQ s (aN++R)∧Ok s (aN++R)∧ace (.ret x) aN) (fun x ai=>∃ aN,ai=aQ s (aN++R)∧Ok s (aN++R)∧ace (.panic x) aN):=by
 refine (aW.call bV ar a8 (h.at I ao)).mono ?_ ?_
 ·rintro x ai ⟨M,rfl,ad,aN,rfl,al⟩;exact ⟨aN,rfl,ad,al⟩
 ·rintro x ai ⟨M,rfl,ad,aN,rfl,al⟩;exact ⟨aN,rfl,ad,al⟩
theorem aa.bZ {f:FuncId} {as:Array Operand} {c0:Array TypeId} {xs:List af} (au:guardOf ops env o=some true) (av:o.dst=some d) (aY:i9 d N=true)
  (bV:o.op = .call { callee := .value (.func f),args:=as,argTypes:=c0 }) (a8:fy env as.toList=some xs) (h:bz P f xs K ace) (I:Ok s L) (ao:aH L K R)
  (aD:∀ x aN,ace (.ret x) aN→Ok s (aN++R)→aa P N ops l Q ((d,x)::env) (aQ s (aN++R))) (ab:∀ x aN,ace (.panic x) aN→Ok s (aN++R)→Q (.panic x) env (aQ s (aN++R))):aa P N ops (o::l) Q env (aQ s L):=
 aa.op au av aY (aW.bZ bV a8 h I ao) (fun x ai ⟨aN,U,ad,al⟩=>by subst U;exact aD x aN al ad) (fun x ai ⟨aN,U,ad,al⟩=>by subst U;exact ab x aN al ad)
theorem aa.gr {g:Operand} {fv:af} {as:Array Operand} {c0:Array TypeId} {xs:List af} (au:guardOf ops env o=some true) (av:o.dst=some d) (aY:i9 d N=true)
  (bV:o.op = .call { callee := .value g,args:=as,argTypes:=c0 }) (ar:aJ env g=some fv) (a8:fy env as.toList=some xs) (h:dh P fv xs K ace) (I:Ok s L) (ao:aH L K R)
  (aD:∀ x aN,ace (.ret x) aN→Ok s (aN++R)→aa P N ops l Q ((d,x)::env) (aQ s (aN++R))) (ab:∀ x aN,ace (.panic x) aN→Ok s (aN++R)→Q (.panic x) env (aQ s (aN++R))):aa P N ops (o::l) Q env (aQ s L):=
 aa.op au av aY (aW.gr bV ar a8 h I ao) (fun x ai ⟨aN,U,ad,al⟩=>by subst U;exact aD x aN al ad) (fun x ai ⟨aN,U,ad,al⟩=>by subst U;exact ab x aN al ad)
theorem aa.dX {f:FuncId} {as:Array Operand} {c0:Array TypeId} {xs:List af} {v:af} (au:guardOf ops env o=some true) (av:o.dst=some d) (aY:i9 d N=true)
  (bV:o.op = .call { callee := .value (.func f),args:=as,argTypes:=c0 }) (a8:fy env as.toList=some xs) (h:aU P f xs v) (aD:aa P N ops l Q ((d,v)::env) s):aa P N ops (o::l) Q env s:=
 aa.Jl au av aY bV a8 (h s) aD
theorem bz.w8 (aP:bM P Γ) {f:FuncId} {fn:Func} {c:Code} {args:List af} (aF:sm P f) (a1:P.funcs[f]? = some fn) (an:fn.body=some c)
  (aY:al9 args.length fn.ntmps=true) (h:∀ s,Ok s K→ae P fn.ntmps c (Fin Γ fn.results.toList (tC s ace)) (qU 0 args) (aQ s K)):bz P f args K ace:=
 fun s I=>gX.w8 aP aF a1 an aY (h s I)
theorem aU.w8 (aP:bM P Γ) {f:FuncId} {fn:Func} {c:Code} {args:List af} {v:af} (aF:sm P f) (a1:P.funcs[f]? = some fn) (an:fn.body=some c)
  (aY:al9 args.length fn.ntmps=true) (h:∀ s,Ok s []→ae P fn.ntmps c (Fin Γ fn.results.toList (fun o ai=>o = .ret v∧ai=s)) (qU 0 args) (aQ s [])):aU P f args v:=
 fun s=>gX.w8 aP aF a1 an aY (h s trivial)
theorem bz.bn (aP:bM P Γ) {f:FuncId} {fn:Func} {c:Code} {args:List af} (a1:P.funcs[f]? = some fn) (an:fn.body=some c) (aY:Nat.ble args.length fn.ntmps=true) (h:∀ s,Ok s K→ae P fn.ntmps c (Fin Γ fn.results.toList (tC s ace)) (qU 0 args) (aQ s K)) (aA:(fn.name == "runtime.NumGoroutine")=false:=by kernel_rfl):bz P f args K ace:=bz.w8 aP (y0 a1 aA (by rw [an];rfl)) a1 an aY h
theorem aU.bn (aP:bM P Γ) {f:FuncId} {fn:Func} {c:Code} {args:List af} {v:af} (a1:P.funcs[f]? = some fn) (an:fn.body=some c) (aY:Nat.ble args.length fn.ntmps=true) (h:∀ s,Ok s []→ae P fn.ntmps c (Fin Γ fn.results.toList (fun o ai=>o = .ret v∧ai=s)) (qU 0 args) (aQ s [])) (aA:(fn.name == "runtime.NumGoroutine")=false:=by kernel_rfl):aU P f args v:=aU.w8 aP (y0 a1 aA (by rw [an];rfl)) a1 an aY h
theorem Fin.bu {rs:List ResultVar} {r r':af} (I:Ok s L) (aC:nt Γ env (aQ s L) rs=some r) (hle:aR r r') (ao:aH L K R) (fO:ace (.ret r') K):∃ r r' ai,nt Γ env (aQ s L) rs=some r∧aR r r'∧ak.Sub ai (aQ s L)∧tC s ace (.ret r') ai:=by
 obtain ⟨U,ad⟩:=ao.sub I;exact ⟨r,r',_,aC,hle,U,K,rfl,ad,fO⟩
theorem Fin.cL {rs:List ResultVar} {r v:af} (I:Ok s L) (aC:nt Γ env (aQ s L) rs=some r) (hle:aR r v):∃ r r' ai,nt Γ env (aQ s L) rs=some r∧aR r r'∧ak.Sub ai (aQ s L)∧(eo.ret r' = .ret v∧ai=s):=
 ⟨r,v,s,aC,hle,I.sub,rfl,rfl⟩
theorem Fin.e6 {v fj:af} (I:Ok s L) (hle:aR v fj) (ao:aH L K R) (fO:ace (.panic fj) K):∃ fj ai,aR v fj∧ak.Sub ai (aQ s L)∧tC s ace (.panic fj) ai:=by
 obtain ⟨U,ad⟩:=ao.sub I;exact ⟨fj,_,hle,U,K,rfl,ad,fO⟩
theorem Env.Sub.append {a b env:Env} (h:Env.Sub a env) (k:Env.Sub b env):Env.Sub (a++b) env:=by
 induction a with
 | nil=>exact k
 | cons x a aX=>exact ⟨h.1,aX h.2⟩
def vu:List Nat→Env→Env→Env×Unit
  | [],_,acc=>(acc,())
  | t::fU,env,acc=>match env.get? t with
    | some v=>vu fU env ((t,v)::acc)
    | none=>vu fU env acc
theorem zi:∀ (fU:List Nat) (acc E:Env),Env.Sub acc env→vu fU env acc=(E,())→Env.Sub E env
  | [],acc,E,h,e=>by cases e;exact h
  | t::fU,acc,E,h,e=>by
    simp only [vu] at e;split at e
    · rename_i v ar;exact zi fU ((t,v)::acc) E ⟨⟨v,ar,aR.refl _⟩,h⟩ e
    · exact zi fU _ E h e
theorem ae.su {c:Code} (fU:List Nat) {E:Env} (h:vu fU env []=(E,())) (k:ae P N c Q E s):ae P N c Q env s:=ae.sub E (zi fU [] E trivial h) k
theorem aa.su (fU:List Nat) {E:Env} (h:vu fU env []=(E,())) (k:aa P N ops l Q E s):aa P N ops l Q env s:=aa.sub E (zi fU [] E trivial h) k
def bF {σ:Type} (s:ak) (E:σ→Env) (K:σ→a6) (acv:σ→Prop) (ok:σ→Prop) (eN:Env) (ai:ak):Prop:=
 ∃ y nw dk,acv y∧ok y∧Env.Sub (E y) eN∧ai=aQ s nw∧Ok s nw∧aH nw (K y) dk
theorem ae.xi {σ:Type} {c:Code} (I:Ok s L) (E:σ→Env) (K:σ→a6) (acv:σ→Prop) (μ:σ→Nat) (ni:σ) {E3:a6} (aw:acv ni) (eV:Env.Sub (E ni) env) (b6:aH L (K ni) E3)
  (round:∀ x,acv x→Ok s (K x)→ae P N c (bX.andThen (bF s E K acv (fun y=>μ y<μ x)) Q) (E x) (aQ s (K x))):ae P N (.loop c) Q env (aQ s L):=by
 obtain ⟨U,ad⟩:=b6.sub I;refine ae.loop E (fun x=>aQ s (K x)) (fun x=>acv x∧Ok s (K x)) μ ni ⟨aw,ad⟩ eV U ?_;rintro x ⟨ab,RS⟩;refine (round x ab RS).mono ?_;intro e eN ai h;cases e with
 | normal=>
  obtain ⟨y,nw,dk,g1,g2,g3,rfl,g4,g5⟩:=h;obtain ⟨cv,db⟩:=g5.sub g4;exact ⟨y,⟨g1,db⟩,g3,cv,g2⟩
 | exit id=>exact h
 | ret=>exact h
 | panic v=>exact h
theorem bF.mk {σ:Type} {E:σ→Env} {K:σ→a6} {acv:σ→Prop} {ok:σ→Prop} (y:σ) {dk:a6} (I:Ok s L) (aw:acv y) (eV:Env.Sub (E y) env) (b6:aH L (K y) dk) (hm:ok y):bF s E K acv ok env (aQ s L):=⟨y,L,dk,aw,hm,eV,rfl,I,b6⟩
def j4 {σ:Type} (s:ak) (E:σ→Env) (K:σ→a6) (acv:σ→Prop) (e:bX) (eN:Env) (ai:ak):Prop:=
 e = .normal∧∃ y nw dk,acv y∧Env.Sub (E y) eN∧ai=aQ s nw∧Ok s nw∧aH nw (K y) dk
theorem j4.mk {σ:Type} {E:σ→Env} {K:σ→a6} {acv:σ→Prop} (y:σ) {dk:a6} (I:Ok s L) (aw:acv y) (eV:Env.Sub (E y) env) (b6:aH L (K y) dk):j4 s E K acv .normal env (aQ s L):=⟨rfl,y,L,dk,aw,eV,rfl,I,b6⟩
theorem ae.vw {σ:Type} {x y:Code} {n3:bX→Env→ak→Prop} (E:σ→Env) (K:σ→a6) (acv:σ→Prop) (vq:ae P N x (j4 s E K acv) env (aQ s L)) (vr:∀ z,acv z→Ok s (K z)→ae P N y Q (E z) (aQ s (K z))) :
  ae P N x (bX.andThen (ae P N y Q) n3) env (aQ s L):=by
 refine vq.mono ?_;rintro e eN ai ⟨rfl,z,nw,dk,g1,g2,rfl,g3,g4⟩;obtain ⟨cv,db⟩:=g4.sub g3;exact ae.sub _ g2 (ae.drop _ cv (vr z g1 db))
theorem ae.RT {σ:Type} {x y:Code} (E:σ→Env) (K:σ→a6) (acv:σ→Prop) (vq:ae P N x (j4 s E K acv) env (aQ s L)) (vr:∀ z,acv z→Ok s (K z)→ae P N y Q (E z) (aQ s (K z))):ae P N (.seq x y) Q env (aQ s L):=
 ae.seq (ae.vw E K acv vq vr)
end
section
variable {P:Program} {Γ:cj} {N:Nat} {l:List Oper} {Q:bX→Env→ak→Prop} {env:Env} {s:ak} {m:Nat} {L R:a6}
theorem ba.zj {i:Nat} {o:Oper} {d:Nat} {f:FuncId} {as:Array Operand} {c0:Array TypeId} {xs:List af} {v:af} (aC:h6 l.toArray m i=true) (ah:l.toArray[i]? = some o) (av:o.dst=some d) (aY:i9 d N=true)
  (au:cY l env o) (bV:o.op = .call { callee := .value (.func f),args:=as,argTypes:=c0 }) (a8:fy (bU l env o) as.toList=some xs) (h:aU P f xs v)
  (k:ba P Γ N l.toArray Q (bQ (m|||2^i)) ((d,v)::env) s):ba P Γ N l.toArray Q (bQ m) env s:=
 ba.RQ aC ah av aY au bV a8 h k
theorem ba.ey (i:Nat) (aP:bM P Γ) (I:Ok s L) {o:Oper} {d:Nat} {t T:TypeId} {x:Operand} {dM:bL} {b off:Nat} {cs:List af} {v:af} (aC:eD l.toArray m (idxs 0 l)=[i]) (ah:l.toArray[i]? = some o) (av:o.dst=some d)
  (aY:i9 d N=true) (au:cY l env o) (bV:o.op = .load t x) (aK:Γ.get? t=some dM) (ab:aJ (bU l env o) x=some (.ptr b off))
  (ao:bl L (.own b) (.box T cs) R) (ar:hD dM cs off=some v) (h:ba P Γ N l.toArray Q (bQ (m|||2^i)) ((d,v)::env) (aQ s L)):ba P Γ N l.toArray Q (bQ m) env (aQ s L):=
 ba.one aC ah av aY au (aW.ey aP I bV aK ab ao ar (X:=fun _ _=>False)) (fun x ai ⟨U,ad⟩=>by subst U;subst ad;exact h) (fun _ _ h=>h.elim)
theorem ba.cN (i:Nat) (aP:bM P Γ) (I:Ok s L) {o:Oper} {t T:TypeId} {x y:Operand} {dM:bL} {b off:Nat} {cs us:List af} {v:af} (aC:eD l.toArray m (idxs 0 l)=[i]) (ah:l.toArray[i]? = some o) (av:o.dst=none)
  (au:cY l env o) (bV:o.op = .store t x y) (aK:Γ.get? t=some dM) (ab:aJ (bU l env o) x=some (.ptr b off)) (ax:aJ (bU l env o) y=some v)
  (ar:cellsOf v=some us) (hu:ad0 us.length dM.size=true) (U:us.all e4=true) (ao:bl L (.own b) (.box T cs) R) (fl:al9 (off+us.length) cs.length=true)
  (h:Ok s ((.own b,.box T (eO off us cs))::R)→ba P Γ N l.toArray Q (bQ (m|||2^i)) env (aQ s ((.own b,.box T (eO off us cs))::R))):ba P Γ N l.toArray Q (bQ m) env (aQ s L):=
 ba.xd aC ah av au (aW.cN aP I bV aK ab ax ar hu U ao fl (X:=fun _ _=>False)) (fun x ai ⟨U,ad⟩=>by subst U;exact h ad) (fun _ _ h=>h.elim)
theorem ba.dO (i:Nat) (aP:bM P Γ) (I:Ok s L) {o:Oper} {d:Nat} {t:TypeId} {dM:bL} {z:af} {cs:List af} (aC:eD l.toArray m (idxs 0 l)=[i]) (ah:l.toArray[i]? = some o) (av:o.dst=some d)
  (aY:i9 d N=true) (au:cY l env o) (bV:o.op = .alloc t) (aK:Γ.get? t=some dM) (bP:ho dM.zero=some z) (aF:cellsOf z=some cs)
  (h:∀ b,Ok s ((.own b,.box t cs)::L)→ba P Γ N l.toArray Q (bQ (m|||2^i)) ((d,.ptr b 0)::env) (aQ s ((.own b,.box t cs)::L))):ba P Γ N l.toArray Q (bQ m) env (aQ s L):=
 ba.one aC ah av aY au (aW.dO aP I bV aK bP aF (X:=fun _ _=>False)) (fun x ai ⟨b,U,ad,al⟩=>by subst U;subst ad;exact h b al) (fun _ _ h=>h.elim)
theorem ba.gq (i:Nat) (aP:bM P Γ) (I:Ok s L) {o:Oper} {d:Nat} {t bI e:TypeId} {x y:Operand} {it cz aG:bL} {ed bW sz n:Nat} {xs:List af} {v:af} {own dx:bN} (aC:eD l.toArray m (idxs 0 l)=[i]) (ah:l.toArray[i]? = some o)
  (av:o.dst=some d) (aY:i9 d N=true) (au:cY l env o) (bV:o.op = .call { callee := .builtin .append,args := #[x,y],argTypes := #[t,bI] }) (aK:Γ.get? t=some it)
  (br:it.bE = .ay e) (c4:Γ.get? bI=some cz) (dC:∀ k,cz.bE ≠ .int k) (bH:Γ.get? e=some aG) (ab:aJ (bU l env o) x=some (.ay ed xs own)) (ax:aJ (bU l env o) y=some (.ay bW [v] dx)) (hO:ed=aG.size) (c':bW=aG.size)
  (d':ad0 aG.zero.cells.size aG.size=true) (dS:iK aG.size v=true) (b':sz=aG.size) (ao:bl L own (.row e sz n) R) (aA:n=xs.length) (an:(n+1)*aG.bytes≤140737488355328) (en:n+1≤9223372036854775807)
  (h:∀ b,Ok s ((.own b,.row e sz (n+1))::R)→ba P Γ N l.toArray Q (bQ (m|||2^i)) ((d,.ay sz (xs++[v]) (.own b))::env) (aQ s ((.own b,.row e sz (n+1))::R))):ba P Γ N l.toArray Q (bQ m) env (aQ s L):=by
 subst aA;refine ba.one aC ah av aY au (aW.m1 aP I bV aK br c4 dC bH ab ax hO (.inr c') d' (by intro y ax;simp at ax;subst ax;exact dS) an en C (n':=xs.length+1) C b' ao (X:=fun _ _=>False)) ?_ (fun _ _ h=>h.elim);rintro r ai ⟨c5,ad,-,rfl,rfl,al⟩;obtain ⟨b,rfl⟩:=ad bc;exact h b al
end
section
variable {P:Program} {Γ:cj} {N:Nat} {ops:Array Oper} {Q:bX→Env→ak→Prop} {env:Env} {s:ak} {o:Oper} {d:Nat}
theorem aW.weaken {K X aN mM:af→ak→Prop} (h:aW P N o env s K X) (bm:∀ x ai,K x ai→∃ y eA,aR x y∧ak.Sub eA ai∧aN y eA) (ic:∀ x ai,X x ai→∃ eA,ak.Sub eA ai∧mM x eA):aW P N o env s aN mM:=by
 refine ⟨h.1,fun ro B a w p aI=>(h.2 ro B a w p aI).mono ?_⟩;rintro e w' ⟨ai,bg,U,ad,al,bd⟩;cases e with
 | returned v=>
  obtain ⟨x,aD,aC⟩:=bd;obtain ⟨y,eA,hle,ao,eu⟩:=bm x ai aD;exact ⟨eA,bg,U,ad.sub ao,al.sub ao,y,eu,hle _ _ _ aC⟩
 | panicked dr=>
  obtain ⟨v,x,km,aD,aC⟩:=bd;obtain ⟨eA,ao,eu⟩:=ic x ai aD;exact ⟨eA,bg,U,ad.sub ao,al.sub ao,v,x,km,eu,aC⟩
 | outgrown=>exact bd.elim
theorem aW.q2 (aP:bM P Γ) {t bI e:TypeId} {x y:Operand} {it cz aG:bL} {ed bW:Nat} {xs ys:List af} {own dx:bN}
  (ah:o.op = .call { callee := .builtin .append,args := #[x,y],argTypes := #[t,bI] }) (aK:Γ.get? t=some it) (br:it.bE = .ay e) (c4:Γ.get? bI=some cz) (dC:∀ k,cz.bE ≠ .int k)
  (bH:Γ.get? e=some aG) (ab:aJ env x=some (.ay ed xs own)) (ax:aJ env y=some (.ay bW ys dx)) (hO:xs=[]∨ed=aG.size) (c':ys=[]∨bW=aG.size)
  (d':ad0 aG.zero.cells.size aG.size=true) (dS:∀ y∈ys,iK aG.size y=true) (an:(xs.length+ys.length)*aG.bytes≤140737488355328) (en:xs.length+ys.length≤9223372036854775807)
  (o8:own = .nil∨own = .clip) {X:af→ak→Prop}:aW P N o env s (fun r ai=>r = .ay aG.size (xs++ys) .aZ∧ai=s) X:=by
 refine (aW.append aP ah aK br c4 dC bH ab ax hO c' d' dS an en (.inl o8) (X:=X)).weaken ?_ (fun _ ai h=>⟨ai,ak.n7 _,h⟩);rintro r ai (⟨rfl,_,rfl,rfl⟩|⟨s₁,yZ,b,U,rfl,rfl⟩)
 ·exact ⟨_,_,by rw [d8];exact aR.aZ,ak.n7 _,rfl,rfl⟩
 ·rcases yZ with rfl|⟨aT,rfl,rfl⟩
  ·exact ⟨_,_,aR.aZ,ak.uZ _ _ _ U,rfl,rfl⟩
  ·rcases o8 with e|e<;>cases e
theorem aa.q2 (aP:bM P Γ) {l:List Oper} {t bI e:TypeId} {x y:Operand} {it cz aG:bL} {ed bW:Nat} {xs ys:List af} {own dx:bN} (au:guardOf ops env o=some true) (av:o.dst=some d) (aY:i9 d N=true)
  (ah:o.op = .call { callee := .builtin .append,args := #[x,y],argTypes := #[t,bI] }) (aK:Γ.get? t=some it) (br:it.bE = .ay e) (c4:Γ.get? bI=some cz) (dC:∀ k,cz.bE ≠ .int k)
  (bH:Γ.get? e=some aG) (ab:aJ env x=some (.ay ed xs own)) (ax:aJ env y=some (.ay bW ys dx)) (hO:xs=[]∨ed=aG.size) (c':ys=[]∨bW=aG.size)
  (d':ad0 aG.zero.cells.size aG.size=true) (dS:∀ y∈ys,iK aG.size y=true) (an:(xs.length+ys.length)*aG.bytes≤140737488355328) (en:xs.length+ys.length≤9223372036854775807)
  (o8:own = .nil∨own = .clip) (h:aa P N ops l Q ((d,.ay aG.size (xs++ys) .aZ)::env) s):aa P N ops (o::l) Q env s:=
 aa.op au av aY (aW.q2 aP ah aK br c4 dC bH ab ax hO c' d' dS an en o8 (X:=fun _ _=>False)) (fun x ai ⟨U,ad⟩=>by subst U;subst ad;exact h) (fun _ _ h=>h.elim)
theorem ba.q2 (i:Nat) (aP:bM P Γ) {l:List Oper} {m:Nat} {t bI e:TypeId} {x y:Operand} {it cz aG:bL} {ed bW:Nat} {xs ys:List af} {own dx:bN} (aC:h6 l.toArray m i=true) (aS:l.toArray[i]? = some o) (av:o.dst=some d) (aY:i9 d N=true)
  (au:cY l env o)
  (ah:o.op = .call { callee := .builtin .append,args := #[x,y],argTypes := #[t,bI] }) (aK:Γ.get? t=some it) (br:it.bE = .ay e) (c4:Γ.get? bI=some cz) (dC:∀ k,cz.bE ≠ .int k)
  (bH:Γ.get? e=some aG) (ab:aJ (bU l env o) x=some (.ay ed xs own)) (ax:aJ (bU l env o) y=some (.ay bW ys dx)) (hO:xs=[]∨ed=aG.size) (c':ys=[]∨bW=aG.size)
  (d':ad0 aG.zero.cells.size aG.size=true) (dS:∀ y∈ys,iK aG.size y=true) (an:(xs.length+ys.length)*aG.bytes≤140737488355328) (en:xs.length+ys.length≤9223372036854775807)
  (o8:own = .nil∨own = .clip) (h:ba P Γ N l.toArray Q (bQ (m|||2^i)) ((d,.ay aG.size (xs++ys) .aZ)::env) s):ba P Γ N l.toArray Q (bQ m) env s:=
 ba.calm aC aS av aY au (fun _=>aW.q2 aP ah aK br c4 dC bH ab ax hO c' d' dS an en o8) h
end
def cQ:List (Nat×ds)→ak→Prop
 | [],_=>True
 | e::K,s=>s e.1=some e.2∧cQ K s
theorem cQ.one {b:Nat} {o:ds} {s:ak} (h:s b=some o):cQ [(b,o)] s:=⟨h,trivial⟩
theorem cQ.two {b aT:Nat} {o o':ds} {s:ak} (h:s b=some o) (eT:s aT=some o'):cQ [(b,o),(aT,o')] s:=⟨h,eT,trivial⟩
theorem cQ.fst {b:Nat} {o:ds} {K:List (Nat×ds)} {s:ak} (h:cQ ((b,o)::K) s):s b=some o:=h.1
theorem cQ.snd {e:Nat×ds} {b:Nat} {o:ds} {K:List (Nat×ds)} {s:ak} (h:cQ (e::(b,o)::K) s):s b=some o:=h.2.1
section
variable {J:ak→Prop} {P:Program} {Γ:cj} {N:Nat} {l:List Oper} {Q:bX→Env→ak→Prop} {env:Env} {s:ak} {m:Nat} {L R:a6} {o:Oper} {d:Nat}
theorem bh.mo (i:Nat) (aP:bM P Γ) (cZ:J s) {t T:TypeId} {x:Operand} {dM:bL} {b off:Nat} {cs:List af} {v:af} (aC:h6 l.toArray m i=true) (ah:l.toArray[i]? = some o) (av:o.dst=some d) (aY:i9 d N=true)
  (au:cY l env o) (bV:o.op = .load t x) (aK:Γ.get? t=some dM) (ab:aJ (bU l env o) x=some (.ptr b off)) (ao:∀ s,J s→s b=some (.box T cs)) (ar:hD dM cs off=some v)
  (h:bh J P Γ N l.toArray Q (bQ (m|||2^i)) ((d,v)::env) s):bh J P Γ N l.toArray Q (bQ m) env s:=
 bh.p5 cZ aC ah av aY au (fun s gY=>aW.tr aP bV aK ab (ao s gY) ar) h
theorem bh.q2 (i:Nat) (aP:bM P Γ) (cZ:J s) {t bI e:TypeId} {x y:Operand} {it cz aG:bL} {ed bW:Nat} {xs ys:List af} {own dx:bN} (aC:h6 l.toArray m i=true) (aS:l.toArray[i]? = some o) (av:o.dst=some d) (aY:i9 d N=true)
  (au:cY l env o)
  (ah:o.op = .call { callee := .builtin .append,args := #[x,y],argTypes := #[t,bI] }) (aK:Γ.get? t=some it) (br:it.bE = .ay e) (c4:Γ.get? bI=some cz) (dC:∀ k,cz.bE ≠ .int k)
  (bH:Γ.get? e=some aG) (ab:aJ (bU l env o) x=some (.ay ed xs own)) (ax:aJ (bU l env o) y=some (.ay bW ys dx)) (hO:xs=[]∨ed=aG.size) (c':ys=[]∨bW=aG.size)
  (d':ad0 aG.zero.cells.size aG.size=true) (dS:∀ y∈ys,iK aG.size y=true) (an:(xs.length+ys.length)*aG.bytes≤140737488355328) (en:xs.length+ys.length≤9223372036854775807)
  (o8:own = .nil∨own = .clip) (h:bh J P Γ N l.toArray Q (bQ (m|||2^i)) ((d,.ay aG.size (xs++ys) .aZ)::env) s):bh J P Γ N l.toArray Q (bQ m) env s:=
 bh.p5 cZ aC aS av aY au (fun _ _=>aW.q2 aP ah aK br c4 dC bH ab ax hO c' d' dS an en o8) h
theorem bh.zj {i:Nat} (cZ:J s) {f:FuncId} {as:Array Operand} {c0:Array TypeId} {xs:List af} {v:af} (aC:h6 l.toArray m i=true) (ah:l.toArray[i]? = some o) (av:o.dst=some d) (aY:i9 d N=true)
  (au:cY l env o) (bV:o.op = .call { callee := .value (.func f),args:=as,argTypes:=c0 }) (a8:fy (bU l env o) as.toList=some xs) (h:aU P f xs v)
  (k:bh J P Γ N l.toArray Q (bQ (m|||2^i)) ((d,v)::env) s):bh J P Γ N l.toArray Q (bQ m) env s:=
 bh.p5 cZ aC ah av aY au (fun s _=>(aW.call bV (fv := .func f [] []) rfl a8 (hG.fa (R:=fun o ai=>o = .ret v∧ai=s) (by simpa using h s))).mono (fun x ai h=>by cases h.1;exact ⟨rfl,h.2⟩) (fun x ai h=>by cases h.1)) k
theorem bh.cN (i:Nat) (aP:bM P Γ) (I:Ok s L) {t T:TypeId} {x y:Operand} {dM:bL} {b off:Nat} {cs us:List af} {v:af} (aC:eD l.toArray m (idxs 0 l)=[i]) (ah:l.toArray[i]? = some o) (av:o.dst=none)
  (au:cY l env o) (bV:o.op = .store t x y) (aK:Γ.get? t=some dM) (ab:aJ (bU l env o) x=some (.ptr b off)) (ax:aJ (bU l env o) y=some v)
  (ar:cellsOf v=some us) (hu:ad0 us.length dM.size=true) (U:us.all e4=true) (ao:bl L (.own b) (.box T cs) R) (fl:al9 (off+us.length) cs.length=true)
  (aO:Ok s ((.own b,.box T (eO off us cs))::R)→J (aQ s ((.own b,.box T (eO off us cs))::R))∨kt l.toArray i=true)
  (h:Ok s ((.own b,.box T (eO off us cs))::R)→bh J P Γ N l.toArray Q (bQ (m|||2^i)) env (aQ s ((.own b,.box T (eO off us cs))::R))):bh J P Γ N l.toArray Q (bQ m) env (aQ s L):=
 bh.xd aC ah av au (aW.cN aP I bV aK ab ax ar hu U ao fl (X:=fun _ _=>False)) (fun x ai ⟨U,ad⟩=>by subst U;exact aO ad) (fun x ai ⟨U,ad⟩=>by subst U;exact h ad) (fun _ _ h=>h.elim)
theorem bh.dO (i:Nat) (aP:bM P Γ) (I:Ok s L) {t:TypeId} {dM:bL} {z:af} {cs:List af} (aC:eD l.toArray m (idxs 0 l)=[i]) (ah:l.toArray[i]? = some o) (av:o.dst=some d)
  (aY:i9 d N=true) (au:cY l env o) (bV:o.op = .alloc t) (aK:Γ.get? t=some dM) (bP:ho dM.zero=some z) (aF:cellsOf z=some cs)
  (aO:∀ b,Ok s ((.own b,.box t cs)::L)→J (aQ s ((.own b,.box t cs)::L))∨kt l.toArray i=true)
  (h:∀ b,Ok s ((.own b,.box t cs)::L)→bh J P Γ N l.toArray Q (bQ (m|||2^i)) ((d,.ptr b 0)::env) (aQ s ((.own b,.box t cs)::L))):bh J P Γ N l.toArray Q (bQ m) env (aQ s L):=
 bh.one aC ah av aY au (aW.dO aP I bV aK bP aF (X:=fun _ _=>False)) (fun x ai ⟨b,U,ad,al⟩=>by subst U;subst ad;exact aO b al) (fun x ai ⟨b,U,ad,al⟩=>by subst U;subst ad;exact h b al) (fun _ _ h=>h.elim)
theorem bh.m1 (i:Nat) (aP:bM P Γ) (I:Ok s L) {t bI e:TypeId} {x y:Operand} {it cz aG:bL} {ed bW sz n n':Nat} {xs ys:List af} {own dx:bN} (aC:eD l.toArray m (idxs 0 l)=[i]) (ah:l.toArray[i]? = some o)
  (av:o.dst=some d) (aY:i9 d N=true) (au:cY l env o) (bV:o.op = .call { callee := .builtin .append,args := #[x,y],argTypes := #[t,bI] }) (aK:Γ.get? t=some it)
  (br:it.bE = .ay e) (c4:Γ.get? bI=some cz) (dC:∀ k,cz.bE ≠ .int k) (bH:Γ.get? e=some aG) (ab:aJ (bU l env o) x=some (.ay ed xs own)) (ax:aJ (bU l env o) y=some (.ay bW ys dx)) (hO:ed=aG.size) (c':ys=[]∨bW=aG.size)
  (d':ad0 aG.zero.cells.size aG.size=true) (dS:∀ y∈ys,iK aG.size y=true) (b':sz=aG.size) (ao:bl L own (.row e sz n) R) (aA:n=xs.length) (gF:n'=xs.length+ys.length) (an:(xs.length+ys.length)*aG.bytes≤140737488355328) (en:xs.length+ys.length≤9223372036854775807)
  (aO:∀ c5,Ok s ((c5,.row e sz n')::R)→J (aQ s ((c5,.row e sz n')::R))∨kt l.toArray i=true)
  (h:∀ c5,Ok s ((c5,.row e sz n')::R)→bh J P Γ N l.toArray Q (bQ (m|||2^i)) ((d,.ay sz (xs++ys) c5)::env) (aQ s ((c5,.row e sz n')::R))):bh J P Γ N l.toArray Q (bQ m) env (aQ s L):=by
 refine bh.one aC ah av aY au (aW.m1 aP I bV aK br c4 dC bH ab ax hO c' d' dS an en aA gF b' ao (X:=fun _ _=>False)) ?_ ?_ (fun _ _ h=>h.elim)
 ·rintro r ai ⟨c5,-,-,rfl,rfl,al⟩
  exact aO c5 al
 ·rintro r ai ⟨c5,-,-,rfl,rfl,al⟩
  exact h c5 al
theorem bh.gq (i:Nat) (aP:bM P Γ) (I:Ok s L) {t bI e:TypeId} {x y:Operand} {it cz aG:bL} {ed bW sz n:Nat} {xs:List af} {v:af} {own dx:bN} (aC:eD l.toArray m (idxs 0 l)=[i]) (ah:l.toArray[i]? = some o)
  (av:o.dst=some d) (aY:i9 d N=true) (au:cY l env o) (bV:o.op = .call { callee := .builtin .append,args := #[x,y],argTypes := #[t,bI] }) (aK:Γ.get? t=some it)
  (br:it.bE = .ay e) (c4:Γ.get? bI=some cz) (dC:∀ k,cz.bE ≠ .int k) (bH:Γ.get? e=some aG) (ab:aJ (bU l env o) x=some (.ay ed xs own)) (ax:aJ (bU l env o) y=some (.ay bW [v] dx)) (hO:ed=aG.size) (c':bW=aG.size)
  (d':ad0 aG.zero.cells.size aG.size=true) (dS:iK aG.size v=true) (b':sz=aG.size) (ao:bl L own (.row e sz n) R) (aA:n=xs.length) (an:(n+1)*aG.bytes≤140737488355328) (en:n+1≤9223372036854775807)
  (aO:∀ c5,Ok s ((c5,.row e sz (n+1))::R)→J (aQ s ((c5,.row e sz (n+1))::R))∨kt l.toArray i=true)
  (h:∀ c5,Ok s ((c5,.row e sz (n+1))::R)→bh J P Γ N l.toArray Q (bQ (m|||2^i)) ((d,.ay sz (xs++[v]) c5)::env) (aQ s ((c5,.row e sz (n+1))::R))):bh J P Γ N l.toArray Q (bQ m) env (aQ s L):=by
 subst aA;exact bh.m1 i aP I aC ah av aY au bV aK br c4 dC bH ab ax hO (.inr c') d' (by intro y ax;simp at ax;subst ax;exact dS) b' ao C C an en aO h
theorem bh.bZ {ace:eo→a6→Prop} {K:a6} {i:Nat} {f:FuncId} {as:Array Operand} {c0:Array TypeId} {xs:List af} (aC:eD l.toArray m (idxs 0 l)=[i]) (ah:l.toArray[i]? = some o) (av:o.dst=some d) (aY:i9 d N=true)
  (au:cY l env o) (bV:o.op = .call { callee := .value (.func f),args:=as,argTypes:=c0 }) (a8:fy (bU l env o) as.toList=some xs) (h:bz P f xs K ace) (I:Ok s L) (ao:aH L K R)
  (aO:∀ x aN,ace (.ret x) aN→Ok s (aN++R)→J (aQ s (aN++R))∨kt l.toArray i=true)
  (aD:∀ x aN,ace (.ret x) aN→Ok s (aN++R)→bh J P Γ N l.toArray Q (bQ (m|||2^i)) ((d,x)::env) (aQ s (aN++R))) (ab:∀ x aN,ace (.panic x) aN→Ok s (aN++R)→Q (.panic x) [] (aQ s (aN++R))):bh J P Γ N l.toArray Q (bQ m) env (aQ s L):=
 bh.one aC ah av aY au (aW.bZ bV a8 h I ao) (fun x ai ⟨aN,U,ad,al⟩=>by subst U;exact aO x aN al ad) (fun x ai ⟨aN,U,ad,al⟩=>by subst U;exact aD x aN al ad) (fun x ai ⟨aN,U,ad,al⟩=>by subst U;exact ab x aN al ad)
theorem bh.gr {ace:eo→a6→Prop} {K:a6} {i:Nat} {g:Operand} {fv:af} {as:Array Operand} {c0:Array TypeId} {xs:List af} (aC:eD l.toArray m (idxs 0 l)=[i]) (ah:l.toArray[i]? = some o) (av:o.dst=some d) (aY:i9 d N=true)
  (au:cY l env o) (bV:o.op = .call { callee := .value g,args:=as,argTypes:=c0 }) (ar:aJ (bU l env o) g=some fv) (a8:fy (bU l env o) as.toList=some xs) (h:dh P fv xs K ace) (I:Ok s L) (ao:aH L K R)
  (aO:∀ x aN,ace (.ret x) aN→Ok s (aN++R)→J (aQ s (aN++R))∨kt l.toArray i=true)
  (aD:∀ x aN,ace (.ret x) aN→Ok s (aN++R)→bh J P Γ N l.toArray Q (bQ (m|||2^i)) ((d,x)::env) (aQ s (aN++R))) (ab:∀ x aN,ace (.panic x) aN→Ok s (aN++R)→Q (.panic x) [] (aQ s (aN++R))):bh J P Γ N l.toArray Q (bQ m) env (aQ s L):=
 bh.one aC ah av aY au (aW.gr bV ar a8 h I ao) (fun x ai ⟨aN,U,ad,al⟩=>by subst U;exact aO x aN al ad) (fun x ai ⟨aN,U,ad,al⟩=>by subst U;exact aD x aN al ad) (fun x ai ⟨aN,U,ad,al⟩=>by subst U;exact ab x aN al ad)
end
section
variable {J:ak→Prop} {P:Program} {Γ:cj} {N:Nat} {ops:Array Oper} {Q:bX→Env→ak→Prop} {env:Env} {s:ak} {o:Oper} {d m:Nat} {L:a6} {l:List Oper}
end
end Go.Proofs.YtnafpeohfbglmaaGreat
