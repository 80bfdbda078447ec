import Derived.KernelRfl
import Derived.Test.YtnafpeohfbglmaaGreatTa
import Derived.Laws.IdiomRangeMap
set_option linter.unusedVariables false
set_option linter.unusedSimpArgs false
open Array renaming getElem?_eq_some_iff→t8,getElem?_setIfInBounds→ag6
open Bool renaming and_eq_true→f4
open Go.IntKind renaming wrap→ac'
open List renaming append_nil→d9,cons_append→ab',map_cons→ae0,mem_cons_self→i6,mem_cons→ae8,mem_range'_1→aq9
open Nat renaming beq_refl→at7,beq→af2,ble→ao6,blt_eq→an7,blt→z2,eq_of_beq_eq_true→ad',zero_le→g9
open Go.Result renaming andThen_ok→i7
open Go.Sem renaming runT_eq→au5,run_bind→aa',run_pure→ae3
namespace Go.Proofs.YtnafpeohfbglmaaGreat
theorem C1 {p:Prop} (h:p:=by simpa [Nat.blt_eq] using a1):p:=h
theorem jd {p:Prop} (h:p:=by simp [gH,ai]):p:=h
def C2:dy→Bool
 | .lp _ _ _ _=>false
 | _=>true
theorem KK {w w':World} {p bh:bU} {b:Nat} {o:dy} (aX:C2 o=true) (h:qC w p b o) (hle:de w p w' bh) (cN:w'.heap[b]? = w.heap[b]?) (aF:∀ x,bh b x→p b x):qC w' bh b o:=by
 cases o with
 | box t c=>obtain ⟨us,g1,g2,g3⟩:=h;exact ⟨us,cN.trans g1,g2.mono hle,fun o ai=>g3 o (aF o ai)⟩
 | row t sz n=>obtain ⟨cur,g1,g2,g3,g4⟩:=h;exact ⟨cur,cN.trans g1,g2,g3,fun o=>⟨fun ai=>(g4 o).1 (aF o ai),fun ai=>hle.lo _ _ ((g4 o).2 ai)⟩⟩
 | map es=>obtain ⟨cQ,c,g1,g2,g3⟩:=h;exact ⟨cQ,c,cN.trans g1,⟨g2.1.mono hle,g2.2.mono hle⟩,g3⟩
 | lp es it l c=>cases aX
 | tick m=>obtain ⟨df,a2,a3,g1⟩:=h;exact ⟨df,a2,a3,cN.trans g1⟩
 | loop r env=>exact ⟨cN.trans h.1,fun t v ar=>(h.2 t v ar).mono hle⟩
theorem C3 {s ak:ao} {w w':World} {p bh:bU} {b:Nat} {o:dy} (an:s b=none) (aX:C2 o=true) (ca:dq w p (s.set b o)) (hle:de w p w' bh) (aA:Kept s ak w p w' bh) (k3:dq w' bh ak) :
  ak b=none∧Kept (s.set b o) (ak.set b o) w p w' bh∧dq w' bh (ak.set b o):=by
 have ai:=ca.obj b o (ao.gr _ _ _);have az:=ai.lt;have aB:=aA.kV b az an;refine ⟨aB,⟨fun aY dU au=>?_,fun aY dU au=>?_,fun aY x dU au ab=>?_⟩,⟨fun aY o' dU=>?_,k3.lt⟩⟩
 ·obtain ⟨aa,ad⟩:=ao.uG au;exact aA.heap aY dU ad
 ·obtain ⟨aa,ad⟩:=ao.uG au;rw [ao.fA _ _ aa];exact aA.kV aY dU ad
 ·obtain ⟨aa,ad⟩:=ao.uG au;exact aA.lo aY x dU ad ab
 ·by_cases e:aY=b
  ·subst e
   rw [ao.gr] at dU;cases dU;exact KK aX ai hle (aA.heap aY az an) (fun x ab=>aA.lo aY x az an ab)
  ·rw [ao.fA _ _ e] at dU;exact k3.obj aY o' dU
theorem hT.frame {P:Program} {fv:ah} {args:List ah} {s:ao} {R:eB→ao→Prop} (b:Nat) (o:dy) (an:s b=none) (aX:C2 o=true) (h:hT P fv args s R) :
  hT P fv args (s.set b o) (fun out ak=>∃ s₁,s₁ b=none∧ak=s₁.set b o∧R out s₁):=by
 intro w p v vs ca ar eM;refine (h w p v vs (ca.sub (ao.wc s b o an)) ar eM).mono ?_;rintro e w' ⟨out,ak,bh,aa,ad,aj,a8,bB⟩;obtain ⟨cu,c2,fg⟩:=C3 an aX ca aj a8 bB;exact ⟨out,ak.set b o,bh,aa,⟨ak,cu,rfl,ad⟩,aj,c2,fg⟩
theorem hl.frame {P:Program} {f:FuncId} {args:List ah} {s:ao} {R:eB→ao→Prop} (b:Nat) (o:dy) (an:s b=none) (aX:C2 o=true) (h:hl P f args s R) :
  hl P f args (s.set b o) (fun out ak=>∃ s₁,s₁ b=none∧ak=s₁.set b o∧R out s₁):=by
 refine ⟨h.1,fun w p vs ca eM=>?_⟩;refine (h.2 w p vs (ca.sub (ao.wc s b o an)) eM).mono ?_;rintro e w' ⟨out,ak,bh,aa,ad,aj,a8,bB⟩;obtain ⟨cu,c2,fg⟩:=C3 an aX ca aj a8 bB;exact ⟨out,ak.set b o,bh,aa,⟨ak,cu,rfl,ad⟩,aj,c2,fg⟩
theorem hT.drop {P:Program} {fv:ah} {args:List ah} {s ak:ao} {R:eB→ao→Prop} (au:ao.Sub ak s) (h:hT P fv args ak R):hT P fv args s R:=by
 intro w p v vs ca ar eM;refine (h w p v vs (ca.sub au) ar eM).mono ?_;rintro e w' ⟨out,eL,bh,aa,ad,aj,a8,bB⟩;exact ⟨out,eL,bh,aa,ad,aj,a8.x4 au,bB⟩
theorem hl.drop {P:Program} {f:FuncId} {args:List ah} {s ak:ao} {R:eB→ao→Prop} (au:ao.Sub ak s) (h:hl P f args ak R):hl P f args s R:=by
 refine ⟨h.1,fun w p vs ca eM=>(h.2 w p vs (ca.sub au) eM).mono ?_⟩;rintro e w' ⟨out,eL,bh,aa,ad,aj,a8,bB⟩;exact ⟨out,eL,bh,aa,ad,aj,a8.x4 au,bB⟩
def lY (l:Nat):ah := .hE (.func (.yield l) #[] #[])
def Af:List Tmp→List ah→Env→Env
 | t::gu,v::vs,env=>Af gu vs ((t,v)::env)
 | _,_,env=>env
theorem S9 {N:Nat} {B:fQ} {ro:Option Nat} {s:ao} {w:World} {p:bU} {b':List Deferred}:∀ (gu:List Tmp) (us:List Value) (vs:List ah) (env:Env) (tmps:Array Value),
  gu.length=us.length→bH w p us vs→(∀ t∈gu,t<N)→dw N B ro env s { tmps:=tmps,defers:=b' } w p →
  dw N B ro (Af gu vs env) s { tmps:=(gu.zip us).foldl (fun tmps (t,a)=>tmps.setIfInBounds t a) tmps,defers:=b' } w p:=by
 intro gu
 induction gu with
 | nil=>intro us vs env tmps aC aE _ aK;exact aK
 | cons t gu aW=>
  intro us vs env tmps aC aE a1 aK;cases us with
  | nil=>simp at aC
  | cons u us=>
   cases aE with
   | cons _ v _ vs hu aM=>
   simp only [Af,List.zip_cons_cons,List.foldl_cons];exact aW us vs _ _ (by simpa using aC) aM (fun bP c7=>a1 bP (List.mem_cons_of_mem _ c7)) (aK.put (a1 t (i6 ..)) hu)
section
variable {P:Program} {Γ:cw} {N:Nat} {Q:b3→Env→ao→Prop} {env:Env} {s:ao}
def busy (r:Loop):Loop:={ r with state := .busy }
def qW (r:Loop) (j:Code):Loop:={ r with state := .done,pending:=some j }
theorem F0 {w:World} {p:bU} {s:ao} (ca:dq w p s) {l:Nat} {r r':Loop} {env:Env} (au:s l=some (.loop r env)) (aM:r'.tmps=r.tmps) (w':World) (iO:w'={ w with heap:=w.heap.setIfInBounds l (.loop r') }) :
  de w p w' p∧Kept s (s.set l (.loop r' env)) w p w' p∧dq w' p (s.set l (.loop r' env)):=by
 subst iO;have aa:w.heap[l]? = some (.loop r):=(ca.obj _ _ au).1;have ad:=(ca.obj _ _ au).2;have az:l<w.heap.size:=(t8.1 aa).1;have o3:(w.heap.setIfInBounds l (.loop r'))[l]? = some (.loop r'):=by simp [ag6,az]
 have h0:∀ k,k≠l→(w.heap.setIfInBounds l (.loop r'))[k]? = w.heap[k]? := fun k aA=>by
  rw [ag6,d7 (fun e=>aA e.symm)]
 have hle:de w p { w with heap:=w.heap.setIfInBounds l (.loop r') } p:=by
  refine ⟨rfl,rfl,rfl,by simp,fun _ _ h=>h,fun b o aF=>?_,fun b x ab=>?_⟩
  ·by_cases e:b=l
   ·subst e;simp only [World.cell?,aa,o3]
   ·exact x6 (h0 b e)
  ·by_cases e:b=l
   ·subst e;simp [World.kU,aa] at ab
   ·rw [x5 (h0 b e)];exact ab
 refine ⟨hle,⟨fun b an aB=>h0 b (fun e=>by rw [e,au] at aB;simp at aB),fun b an aB=>?_,fun _ _ _ _ h=>h⟩,⟨fun b o an=>?_,fun b o aF=>by simpa using ca.lt b o aF⟩⟩
 ·rw [ao.fA]
  ·exact aB
  ·intro e;rw [e,au] at aB;simp at aB
 ·by_cases e:b=l
  ·subst e
   rw [ao.gr] at an;cases an;exact ⟨o3,fun t v ar=>by rw [aM];exact (ad t v ar).mono hle⟩
  ·rw [ao.fA _ _ e] at an
   have ai:=ca.obj b o an;cases o with
   | lp es it lA c=>exact ai.qD hle (h0 b e) (h0 it (ai.zF aa bc))
   | _=>exact KK C ai hle (h0 b e) (fun _ h=>h)
def C4 (Rn:ao→Prop) (Rj:Code→ao→Prop) (Rp:ah→ao→Prop):b3→Env→ao→Prop
 | .normal,_,s=>Rn s
 | .ret,_,s=>Rj .ret s
 | .exit id,_,s=>Rj (.exit id) s
 | .panic v,_,s=>Rp v s
theorem Ag {w:World} {l:Nat} {r:Loop} (h:w.heap[l]? = some (.loop r)):(Instr.getLoop l).run P w = .ok r w:=by
 unfold Instr.getLoop;simp only [aa',yb h C,i7,ae3]
theorem F1 {w:World} {r:Nat} {o o':Obj} (h:w.heap[r]? = some o) (aD:CM o=true):(setObj r o').run P w = .ok () { w with heap:=w.heap.setIfInBounds r o' }:=by
 cases o<;>first|(simp [CM] at aD;done)|simp [setObj,Sem.run,h]
theorem S' {l:Nat} {r:Loop} {fn:Func} {a:Act} (eZ:P.funcs[r.fn]? = some fn) (Ta:r.state = .ready)
  {args:List ah} {s₁:ao} {Rn:ao→Prop} {Rj:Code→ao→Prop} {Rp:ah→ao→Prop}
  (aE:s₁ l=some (.loop r env)) (yl:args.length=r.params.size) (cc:r.tmps.size=N) (Tb:∀ t∈r.params.toList,t<N)
  (tc:af P N r.assign (b3.andThen (af P N r.body (C4 Rn Rj Rp)) (fun _ _ _=>False)) (Af r.params.toList args env) (s₁.del l))
  (w:World) (p:bU) (vs:List Value) (ca:dq w p s₁) (eM:bH w p vs args) :
  pK P ((do let d ← Deferred.ofValue (.func (.yield l) #[] #[]) vs.toArray;invoke d.target d.args:Sem Next).run P w)
   (wo s₁ w p fun o ak=>(o = .ret (.bool true)∧∃ dC,dC l=none∧ak=dC.set l (.loop { busy r with state := .ready,pending:=none } env)∧Rn dC) ∨
    (o = .ret (.bool false)∧∃ j dC,dC l=none∧ak=dC.set l (.loop (qW r j) env)∧Rj j dC) ∨
    (∃ v dC,o = .panic v∧dC l=none∧ak=dC.set l (.loop (busy r) env)∧Rp v dC)):=by
 have aa:w.heap[l]? = some (.loop r):=(ca.obj _ _ aE).1;have CT:=(ca.obj _ _ aE).2;have az:l<w.heap.size:=(t8.1 aa).1;have cR:(do let d ← Deferred.ofValue (.func (.yield l) #[] #[]) vs.toArray;invoke d.target d.args:Sem Next).run P w =
   .ok (.round l r.fn ((r.params.zip vs.toArray).foldl (fun tmps (t,a)=>tmps.setIfInBounds t a) r.tmps) r.assign r.body) w:=by
  have aC:vs.length=r.params.size:=by rw [eM.length,yl]
  simp only [Deferred.ofValue,aa',ae3,i7,invoke,Instr.yield,Ag aa];simp [aC]
 rw [cR];have fR:ao.Sub (s₁.del l) s₁:=fun b=>by
  by_cases e:b=l
  ·subst e;exact .inr (ao.nL _ _)
  ·exact .inl (ao.m3 _ e)
 have KL:s₁=(s₁.del l).set l (.loop r env):=by
  funext b;by_cases e:b=l
  ·subst e;rw [ao.gr];exact aE
  ·rw [ao.fA _ _ e,ao.m3 _ e]
 have Tc:((r.params.zip vs.toArray).foldl (fun tmps (t,a)=>tmps.setIfInBounds t a) r.tmps)=(r.params.toList.zip vs).foldl (fun tmps (t,a)=>tmps.setIfInBounds t a) r.tmps:=by
  rw [← Array.foldl_toList];simp
 have C5:s₁.del l l=none:=ao.nL _ _;have F2:dw N (0,[]) (some l) env (s₁.del l) { tmps:=r.tmps,defers:=[] } w p:=
  ⟨cc,CT,ca.sub fR,⟨[],rfl,by simp,by simp⟩,fun lA pX=>by cases pX;exact ⟨rfl,⟨r,aa⟩,C5⟩,g9 _⟩
 have aK:=S9 r.params.toList vs args env r.tmps (by rw [eM.length,yl,Array.length_toList]) eM Tb F2;rw [Tc];refine RB eZ fun b kd je=>?_
 rw [← kd] at aK;refine mq (tc b (0,[]) _ w p (by rw [je,eZ];rfl) aK) ?_;rintro Fm iM w₁ ⟨Cr,oY,dC,p₁,Td,C6,lq,C7,F3⟩;cases Td with
 | exit id=>exact C6.elim
 | ret=>exact C6.elim
 | panic v x dx kW ar=>exact C6.elim
 | normal=>
 have oh:w₁.heap[l]? = some (.loop r):=(F3.heap l az C5).trans aa;have wG:dC l=none:=F3.kV l az C5;have Te:(Instr.beginRound l).run P w₁ = .ok () { w₁ with heap:=w₁.heap.setIfInBounds l (.loop (busy r)) }:=by
  unfold Instr.beginRound;simp only [aa',Ag oh,i7,F1 oh C,Ta];rfl
 refine ⟨_,Te,?_⟩;obtain ⟨f1,f2,f3⟩:=C3 (s:=s₁.del l) (b:=l) (o := .loop r env) C5 rfl (by rw [← KL];exact ca) C7 F3 lq.wf;obtain ⟨g1,g2,g3⟩:=F0 (r':=busy r) f3 (ao.gr _ _ _) rfl _ rfl;rw [ao.set_set] at g2 g3;have mD:({ w₁ with heap:=w₁.heap.setIfInBounds l (.loop (busy r)) }:World).heap[l]? = some (.loop (busy r)):=(g3.obj _ _ (ao.gr _ _ _)).1;have Ah:dq { w₁ with heap:=w₁.heap.setIfInBounds l (.loop (busy r)) } p₁ dC:=g3.sub (ao.wc _ _ _ wG);have wH:dw N (0,[]) b.roundOf oY dC iM { w₁ with heap:=w₁.heap.setIfInBounds l (.loop (busy r)) } p₁:=by
  refine ⟨lq.size,fun t v ar=>(lq.env t v ar).mono g1,Ah,?_,fun lA pX=>?_,g9 _⟩
  ·obtain ⟨ay,-,-⟩:=lq.round l kd
   exact ⟨[],by simpa [marksOf] using ay,by simp,by simp⟩
  ·rw [kd] at pX;cases pX
   exact ⟨(lq.round l kd).1,⟨_,mD⟩,wG⟩
 refine mq (C6 b (0,[]) iM _ p₁ (by rw [je,eZ];rfl) wH) ?_;rintro e₃ a₃ iN ⟨x₃,acK,uO,tz,Tf,C8,KM,KN,F4⟩;have cT:l<({ w₁ with heap:=w₁.heap.setIfInBounds l (.loop (busy r)) }:World).heap.size:=(t8.1 mD).1;have na:iN.heap[l]? = some (.loop (busy r)):=(F4.heap l cT wG).trans mD;have uP:uO l=none:=F4.kV l cT wG;obtain ⟨cu,c2,fg⟩:=C3 (b:=l) (o := .loop (busy r) env) wG rfl g3 KN F4 KM.wf;have F5:de w p iN tz:=(C7.trans g1).trans KN;have KO:Kept s₁ (uO.set l (.loop (busy r) env)) w p iN tz:=by
  have b6:Kept s₁ (dC.set l (.loop r env)) w p w₁ p₁:=by rw [KL];exact f2
  exact (b6.trans C7.size g2).trans (C7.trans g1).size c2
 have fin:∀ (jump:Option Code),∃ lQ,(Instr.endRound l jump).run P iN = .ok (.bool jump.isNone) lQ ∧
   de w p lQ tz∧Kept s₁ (uO.set l (.loop { busy r with state:=if jump.isNone then .ready else .done,pending:=jump } env)) w p lQ tz∧dq lQ tz (uO.set l (.loop { busy r with state:=if jump.isNone then .ready else .done,pending:=jump } env)):=by
  intro jump;obtain ⟨ea,dr,dG⟩:=F0 (r':={ busy r with state:=if jump.isNone then .ready else .done,pending:=jump }) fg (ao.gr _ _ _) rfl _ rfl;rw [ao.set_set] at dr dG;refine ⟨_,?_,F5.trans ea,KO.trans F5.size dr,dG⟩;unfold Instr.endRound;simp only [aa',Ag na,i7,F1 na C,ae3]
 cases Tf with
 | normal=>
  obtain ⟨lQ,fr,gD,hB,ja⟩:=fin none;exact ⟨_,lQ,fr,.ret (.bool true),_,tz,.bool _,.inl ⟨rfl,uO,uP,rfl,C8⟩,gD,hB,ja⟩
 | ret=>
  obtain ⟨lQ,fr,gD,hB,ja⟩:=fin (some .ret);exact ⟨_,lQ,fr,.ret (.bool false),_,tz,.bool _,.inr (.inl ⟨rfl,.ret,uO,uP,rfl,C8⟩),gD,hB,ja⟩
 | exit id=>
  obtain ⟨lQ,fr,gD,hB,ja⟩:=fin (some (.exit id));exact ⟨_,lQ,fr,.ret (.bool false),_,tz,.bool _,.inr (.inl ⟨rfl,.exit id,uO,uP,rfl,C8⟩),gD,hB,ja⟩
 | panic v x dx kW ar=>
  refine ⟨(KM.round l kd).1,.panic x,_,tz,⟨v,kW,ar⟩,.inr (.inr ⟨x,uO,rfl,uP,rfl,C8⟩),F5,KO,fg⟩
end
section
variable {P:Program} {Γ:cw} {N:Nat} {Q:b3→Env→ao→Prop} {env:Env} {s:ao}
theorem Tg (b:Frame) (a:Act) (k:List Item) (l:Nat) (v:Value):(b.atR a (.inRangeFunc l::k)).finish v=b.atR a (.endRangeFunc l::k):=by
 simp [Frame.finish,Frame.atR]
theorem KP {b:Frame} {a:Act} {k:List Item} {cs:List Frame} {w w':World} {l:Nat} {jump:Option Code} (h:(Instr.endLoop l).run P w = .ok jump w') :
  step P (lone (b.atR a (.endRangeFunc l::k)) cs w) = .next (lone (b.atR a ((jump.map Item.code).toList++k)) cs w'):=
 step_lone_go (by simp [stepG,stepG.exec,Frame.atR,au5,h,GStep.bare_after])
def F6 (g:Operand) (l:Nat):Call:={ callee := .value g,args := #[.const (.func (.yield l) #[] #[])],argTypes := #[] }
theorem Th {b:Frame} {a:Act} {k:List Item} {cs:List Frame} {w:World} {g:Operand} {ps:Array Tmp} {hi body:Code} {l:Nat} {mark:List Deferred} {w₁ hO:World} {f:FuncId} {args:Array Value}
  (he:(Instr.enterLoop b.fn a.tmps ps hi body b.roundOf).run P w = .ok (l,mark) w₁)
  (hinv:(do let d ← resolve a.eval (F6 g l) 0;invoke d.target d.args:Sem Next).run P w₁ = .ok (.enter f args) hO) :
  step P (lone (b.atR a (.code (.rangeFunc g ps hi body)::k)) cs w) =
   .next (lone (Frame.enter P f args .normal) (b.atR { a with defers:=mark++a.defers } (.inRangeFunc l::k)::cs) hO):=
 step_lone_go (by
  have oj:=Frame.eval_atR b { a with defers:=mark++a.defers } (.inRangeFunc l::k)
  simp only [Frame.atR] at oj
  have Ti:(do let d ← resolve ({ tmps:=a.tmps,defers:=mark++a.defers }:Act).eval { callee := .value g,args := #[.const (.func (.yield l) #[] #[])],argTypes := #[] } 0;invoke d.target d.args:Sem Next).run P w₁ = .ok (.enter f args) hO:=hinv
  simp only [stepG,stepG.exec,Frame.atR,au5,he,GStep.bare_after,stepG.apply,oj,Ti,ag5,GStep.bare_go])
def Tj (l:Nat) (r:Loop) (env:Env) (Rn:ao→Prop) (Rj:Code→ao→Prop) (Rp:ah→ao→Prop) (o:eB) (ak:ao):Prop:=
 (o = .ret (.bool true)∧∃ dC,dC l=none∧ak=dC.set l (.loop r env)∧Rn dC) ∨
 (o = .ret (.bool false)∧∃ j dC,dC l=none∧ak=dC.set l (.loop (qW r j) env)∧Rj j dC) ∨
 (∃ v dC,o = .panic v∧dC l=none∧ak=dC.set l (.loop (busy r) env)∧Rp v dC)
def Tk (P:Program) (N:Nat) (Q:b3→Env→ao→Prop) (env:Env) (l:Nat) (r:Loop) (o:eB) (ak:ao):Prop:=
 match o with
 | .ret _=>(∃ dC,dC l=none∧ak=dC.set l (.loop r env)∧Q .normal env dC)∨(∃ j dC,dC l=none∧ak=dC.set l (.loop (qW r j) env)∧af P N j Q env dC)
 | .panic v=>∃ dC o',dC l=none∧ak=dC.set l o'∧Q (.panic v) env dC
theorem af.KQ {g:Operand} {ps:Array Tmp} {hi body:Code} {f:FuncId} {first cap:List ah} (aq:aN env g=some (.func f first cap)) (a1:∀ t∈ps.toList,t<N)
    (h:∀ (l:Nat) (r:Loop),s l=none →
      (∀ args s₁ Rn Rj Rp,s₁ l=some (.loop r env)→args.length=ps.size →
        af P N hi (b3.andThen (af P N body (C4 Rn Rj Rp)) (fun _ _ _=>False)) (Af ps.toList args env) (s₁.del l) →
        hT P (lY l) args s₁ (Tj l r env Rn Rj Rp)) →
      hl P f (first++([lY l]++cap)) (s.set l (.loop r env)) (Tk P N Q env l r)):af P N (.rangeFunc g ps hi body) Q env s:=by
  intro b B a w p eZ aK k cs;obtain ⟨fn,Tl⟩:=Option.isSome_iff_exists.1 eZ;have Tm:∃ (l D:Nat) (mark:List Deferred) (w₁:World),(Instr.enterLoop b.fn a.tmps ps hi body b.roundOf).run P w = .ok (l,mark) w₁ ∧
      w₁.heap[l]? = some (.loop { state := .ready,pending:=none,fn:=b.fn,tmps:=a.tmps,params:=ps,assign:=hi,body,defers:=D })∧w.heap.size≤l∧l<w₁.heap.size ∧
      (∀ x,x<w.heap.size→w₁.heap[x]? = w.heap[x]?)∧w₁.os=w.os∧w₁.tape=w.tape∧w₁.output=w.output∧w.heap.size≤w₁.heap.size ∧
      ((mark=[]∧b.roundOf≠none)∨(b.roundOf=none∧mark=marksOf [w.heap.size]∧w₁.heap[w.heap.size]? = some (.deferred (some []))∧l≠w.heap.size)):=by
    cases uQ:b.roundOf with
    | none=>
      refine ⟨w.heap.size+1,w.heap.size,_,(w.alloc (.deferred (some []))).alloc (.loop { state := .ready,pending:=none,fn:=b.fn,tmps:=a.tmps,params:=ps,assign:=hi,body,defers:=w.heap.size }),?_,?_,by omega,by simp,?_,rfl,rfl,rfl,by simp;omega,.inr ⟨rfl,rfl,?_,by omega⟩⟩
      · unfold Instr.enterLoop
        simp [World.alloc_eq,marksOf]
      · have:=uA (w.alloc (.deferred (some []))) (.loop { state := .ready,pending:=none,fn:=b.fn,tmps:=a.tmps,params:=ps,assign:=hi,body,defers:=w.heap.size })
        simpa using this
      · intro x ab;rw [mv _ _ _ cL,mv _ _ _ ab]
      · rw [mv _ _ _ bc];exact uA w _
    | some Tn=>
      obtain ⟨-,⟨KR,To⟩,-⟩:=aK.round Tn uQ;refine ⟨w.heap.size,KR.defers,[],w.alloc (.loop { state := .ready,pending:=none,fn:=b.fn,tmps:=a.tmps,params:=ps,assign:=hi,body,defers:=KR.defers }),?_,uA w _,Nat.le_refl _,by simp,fun x ab=>mv w _ x ab,rfl,rfl,rfl,by simp,.inl ⟨rfl,by simp⟩⟩;unfold Instr.enterLoop;simp only [aa',Ag To,i7,ae3,run_newObj];rfl
  obtain ⟨l,D,mark,w₁,Tp,oh,db,acL,hold,Tq,nR,pY,cc,KS⟩:=Tm;have ym:s l=none:=by
    cases au:s l with
    | none=>rfl
    | some o=>exact absurd (aK.wf.obj _ _ au).lt ag
  generalize aE:({ state := .ready,pending:=none,fn:=b.fn,tmps:=a.tmps,params:=ps,assign:=hi,body,defers:=D }:Loop)=r at oh;have wI:de w p w₁ p:=de.of_heap Tq nR pY cc (fun _ _ h=>h) aK.wf.lt hold;have Tr:dq w₁ p (s.set l (.loop r env)):=by
    have aq:=aK.wf.grow wI hold (fun _ _ _ h=>h) (fun b o aF=>by have:=aK.wf.lt b o aF;omega);refine ⟨fun aY o an=>?_,aq.lt⟩;by_cases e:aY=l
    · subst e
      rw [ao.gr] at an;cases an;refine ⟨oh,fun t v ar=>?_⟩;have:r.tmps=a.tmps:=by rw [← aE]
      rw [this];exact (aK.env t v ar).mono wI
    · rw [ao.fA _ _ e] at an;exact aq.obj aY o an
  have ky:Kept s (s.set l (.loop r env)) w p w₁ p:=⟨fun x ab _=>hold x ab,fun x ab aB=>by rw [ao.fA _ _ ag];exact aB,fun _ _ _ _ h=>h⟩;obtain ⟨Ts,c0⟩:=h l r ym fun args s₁ Rn Rj Rp k4 yl tc w' bh v vs k3 ar eM=>by
    have J0:v = .func (.yield l) #[] #[]:=by
      cases ar with
      | hE=>rfl
    subst J0;have:=S' (a:=a) (P:=P) (N:=N) (env:=env) (r:=r) (fn:=fn) (by rw [← aE];exact Tl) (by rw [← aE]) k4 (by rw [← aE];exact yl) (by rw [← aE];exact aK.size)
      (by rw [← aE];exact a1) (Rn:=Rn) (Rj:=Rj) (Rp:=Rp) (by rw [← aE];exact tc) w' bh vs k3 eM
    have C9:{ busy r with state:=LoopState.ready,pending:=none }=r:=by rw [← aE];rfl
    rw [C9] at this;exact this
  have mA:=aK.aN aq;generalize C':a.eval g=adM at mA;cases mA with
  | func _ as cs' _ _ aO aD=>
  have hinv:(do let d ← resolve a.eval (F6 g l) 0;invoke d.target d.args:Sem Next).run P w₁ = .ok (.enter f (as ++ #[.func (.yield l) #[] #[]]++cs')) w₁:=by
    simp only [resolve,F6,C',Deferred.ofValue,aa',ae3,i7,invoke];have:(#[Operand.const (.func (.yield l) #[] #[])].map a.eval) = #[.func (.yield l) #[] #[]]:=by simp [Act.eval]
    rw [this];exact Ts _ _
  have wJ:=Th (k:=k) (cs:=cs) Tp hinv;have b9:=c0 w₁ p (as.toList++([.func (.yield l) #[] #[]]++cs'.toList)) Tr ((aO.mono wI).append (bH.append (.cons _ _ _ _ (.hE _) .nil) (aD.mono wI)));have yl:(as.toList++([Value.func (.yield l) #[] #[]]++cs'.toList)).toArray=as ++ #[.func (.yield l) #[] #[]]++cs':=by apply Array.ext';simp
  rw [yl] at b9;obtain ⟨e,hO,hj,⟨h',out,ak,jn,qI,dW,yg,hQ,Ah⟩,ta,F7,zE⟩:=b9 (b.atR { a with defers:=mark++a.defers } (.inRangeFunc l::k)::cs);have wH:∀ dC o',dC l=none→ak=dC.set l o'→∀ iN,de hO jn iN jn→Kept ak ak hO jn iN jn→dq iN jn dC→(∀ x,x≠l→iN.heap[x]? = hO.heap[x]?) →
      dw N B b.roundOf env dC { a with defers:=mark++a.defers } iN jn∧de w p iN jn∧Kept s dC w p iN jn:=by
    intro dC o' aB hK iN Tt tl F8 Tu;have bM:de w p iN jn:=(wI.trans yg).trans Tt;have uR:=(ky.trans wI.size hQ).trans (wI.trans yg).size tl;have fR:ao.Sub dC ak:=by rw [hK];exact ao.wc _ _ _ aB
    have bk:Kept s dC w p iN jn:=uR.sub fR;refine ⟨⟨aK.size,fun t v ar=>(aK.env t v ar).mono bM,F8,?_,fun lA pX=>?_,Nat.le_trans aK.base bM.size⟩,bM,bk⟩
    · obtain ⟨b',d1,d2,d3⟩:=aK.defs
      rcases KS with ⟨rfl,-⟩|⟨uQ,rfl,dk,KT⟩
      · refine ⟨b',by simpa using d1,d2,fun d ay=>?_⟩
        obtain ⟨cM,nE,jX⟩:=d3 d ay;have az:d<w.heap.size:=(t8.1 nE).1;exact ⟨cM,(bk.heap d az jX).trans nE,bk.kV d az jX⟩
      · have KU:(s.set l (.loop r env)) w.heap.size=none:=by
          rw [ao.fA _ _ (Ne.symm KT)];cases au:s w.heap.size with
          | none=>rfl
          | some o=>exact absurd (aK.wf.obj _ _ au).lt ag
        have KV:w.heap.size<w₁.heap.size:=(t8.1 dk).1;have Tv:iN.heap[w.heap.size]? = some (.deferred (some [])):=by
          rw [Tu _ (Ne.symm KT),hQ.heap _ KV KU];exact dk
        have Tw:dC w.heap.size=none:=fR.none (hQ.kV _ KV KU);refine ⟨w.heap.size::b',by simp [marksOf,d1],List.nodup_cons.2 ⟨fun hm=>?_,d2⟩,fun d ay=>?_⟩
        · have:=(t8.1 (d3 _ hm).2.1).1;omega
        · rcases ae8.1 ay with rfl|ay
          · exact ⟨aK.base,Tv,Tw⟩
          · obtain ⟨cM,nE,jX⟩:=d3 d ay
            have az:d<w.heap.size:=(t8.1 nE).1;exact ⟨cM,(bk.heap d az jX).trans nE,bk.kV d az jX⟩
    · obtain ⟨aa,⟨r',ad⟩,aj⟩:=aK.round lA pX
      have az:lA<w.heap.size:=(t8.1 ad).1;refine ⟨?_,⟨r',(bk.heap lA az aj).trans ad⟩,bk.kV lA az aj⟩;rcases KS with ⟨rfl,-⟩|⟨uQ,-⟩
      · exact aa
      · rw [uQ] at pX;cases pX
  have uy:∀ dC (r':Loop),dC l=none→ak=dC.set l (.loop r' env)→(r'.state == .busy)=false→∃ iN,(Instr.endLoop l).run P hO = .ok r'.pending iN ∧
      dw N B b.roundOf env dC { a with defers:=mark++a.defers } iN jn∧de w p iN jn∧Kept s dC w p iN jn:=by
    intro dC r' aB hK dU;have KW:ak l=some (.loop r' env):=by rw [hK];exact ao.gr _ _ _
    have eQ:hO.heap[l]? = some (.loop r'):=(Ah.obj _ _ KW).1;obtain ⟨ea,dr,dG⟩:=F0 (r':={ r' with state := .exhausted }) Ah KW rfl _ rfl;have tl:Kept ak ak hO jn { hO with heap:=hO.heap.setIfInBounds l (.loop { r' with state := .exhausted }) } jn:=by
      refine ⟨dr.heap,fun x ab aB=>aB,dr.lo⟩
    have F8:dq { hO with heap:=hO.heap.setIfInBounds l (.loop { r' with state := .exhausted }) } jn dC:=by
      refine dG.sub ?_;rw [hK,ao.set_set];exact ao.wc _ _ _ aB
    refine ⟨_,?_,wH dC _ aB hK _ ea tl F8 (fun x ab=>by
      show (hO.heap.setIfInBounds l _)[x]? = _
      rw [ag6,d7 (fun e=>ab e.symm)])⟩
    unfold Instr.endLoop;simp only [aa',Ag eQ,i7,dU,Bool.false_eq_true,ah9,F1 eQ C,ae3]
  cases e with
  | outgrown=>exact absurd C h'
  | returned v=>
    cases out with
    | panic x=>exact qI.elim
    | ret x=>
    have yh:Steps P (lone (b.atR a (.code (.rangeFunc g ps hi body)::k)) cs w) (lone (b.atR { a with defers:=mark++a.defers } (.endRangeFunc l::k)) cs hO):=by
      refine .head wJ (Steps.trans ta (.one ?_));rw [← Tg _ _ _ _ v];exact step_leave_returned zE
    rcases dW with ⟨dC,aB,hK,bn⟩|⟨j,dC,aB,hK,bn⟩
    · obtain ⟨iN,Da,Ai,bM,bk⟩:=uy dC r aB hK (by rw [← aE];rfl)
      have aF:r.pending=none:=by rw [← aE]
      rw [aF] at Da;exact ⟨.normal,_,iN,⟨.normal,env,dC,jn,.normal,bn,Ai,bM,bk⟩,Steps.trans yh (.one (by simpa using KP (k:=k) Da))⟩
    · obtain ⟨iN,Da,Ai,bM,bk⟩:=uy dC (qW r j) aB hK rfl
      obtain ⟨e',c1,lQ,qz,ga⟩:=bn b B _ iN jn eZ Ai k cs;exact ⟨e',c1,lQ,kx.after bM bk qz,.of_steps (Steps.trans yh (.one (by simpa [qW] using KP (k:=k) Da))) ga⟩
  | panicked dx=>
    cases out with
    | ret x=>exact qI.elim
    | panic x=>
    obtain ⟨v,kW,ar⟩:=qI;obtain ⟨dC,o',aB,hK,bn⟩:=dW;obtain ⟨Ai,bM,bk⟩:=wH dC o' aB hK hO (.refl _ _) (.refl _ _ _) (Ah.sub (by rw [hK];exact ao.wc _ _ _ aB)) (fun _ _=>rfl);refine ⟨.panic dx,_,hO,⟨.panic x,env,dC,jn,.panic v x _ kW ar,bn,Ai,bM,bk⟩,.inRangeFunc l::k,.head wJ (Steps.trans ta (.one ?_))⟩;rw [← Frame.raise_atR];exact step_leave_panicked zE
end
theorem lR.nil {w:World} {p:bU}:lR w p [] []:=⟨.nil,.nil⟩
theorem lR.length {w:World} {p:bU} {cQ:List MapEntry} {es:List (ah×ah)} (h:lR w p cQ es):cQ.length=es.length:=by simpa using h.1.length
theorem lR.split {w:World} {p:bU}:∀ {a b:List MapEntry} {e:MapEntry} {es:List (ah×ah)},lR w p (a++e::b) es →
  ∃ l₁ k v l₂,es=l₁++(k,v)::l₂∧Rel w p e.key k∧Rel w p e.val v∧lR w p (a++b) (l₁++l₂):=by
 intro a
 induction a with
 | nil=>
  intro b e es h;cases es with
  | nil=>have:=h.length;simp at this
  | cons x es=>
   obtain ⟨k,v⟩:=x;obtain ⟨aa,ad⟩:=h;simp only [List.nil_append,ae0] at aa ad;cases aa with|cons _ _ _ _ cu t1=>cases ad with|cons _ _ _ _ c2 t2=>
   exact ⟨[],k,v,es,rfl,cu,c2,t1,t2⟩
 | cons x a aW=>
  intro b e es h;cases es with
  | nil=>have:=h.length;simp at this
  | cons y es=>
   obtain ⟨Kr,v0⟩:=y;obtain ⟨aa,ad⟩:=h;simp only [ab',ae0] at aa ad;cases aa with|cons _ _ _ _ cu t1=>cases ad with|cons _ _ _ _ c2 t2=>
   obtain ⟨l₁,k,v,l₂,rfl,b6,bW,eN,m2⟩:=aW (b:=b) (e:=e) (es:=es) ⟨t1,t2⟩;exact ⟨(Kr,v0)::l₁,k,v,l₂,rfl,b6,bW,.cons _ _ _ _ cu eN,.cons _ _ _ _ c2 m2⟩
section
variable {P:Program} {Γ:cw} {N:Nat} {env:Env} {s:ao}
end
inductive cS:List ah→List ah→Prop
 | nil:cS [] []
 | cons {x y:ah} {xs ys:List ah} (h:aZ x y) (t:cS xs ys):cS (x::xs) (y::ys)
theorem cS.rel {w:World} {p:bU} {xs ys:List ah} (h:cS xs ys):∀ {vs:List Value},bH w p vs xs→bH w p vs ys:=by
 induction h with
 | nil=>exact fun h=>h
 | cons h _ aW=>intro vs ar;cases ar with|cons _ _ _ _ aa ad=>exact .cons _ _ _ _ (h _ _ _ aa) (aW ad)
theorem cS.refl:∀ xs:List ah,cS xs xs
 | [] => .nil
 | _::xs => .cons (aZ.refl _) (cS.refl xs)
theorem cS.length {xs ys:List ah} (h:cS xs ys):xs.length=ys.length:=by
 induction h with
 | nil=>rfl
 | cons _ _ aW=>simp [aW]
theorem cS.append {a b c d:List ah} (h:cS a b) (k:cS c d):cS (a++c) (b++d):=by
 induction h with
 | nil=>exact k
 | cons h _ aW=>exact .cons h aW
theorem aZ.trans {x y z:ah} (h:aZ x y) (k:aZ y z):aZ x z:=fun w p v ar=>k w p v (h w p v ar)
theorem aZ.agg {xs ys:List ah} (h:cS xs ys):aZ (.agg xs) (.agg ys):=fun w p v ar=>by cases ar with|agg cs _ aC=>exact .agg _ _ (h.rel aC)
theorem aZ.cr {xs ys:List ah} (h:cS xs ys):aZ (.cr xs) (.cr ys):=fun w p v ar=>by cases ar with|cr cs _ aC=>exact .cr _ _ (h.rel aC)
theorem aZ.iface {t:TypeId} {x y:ah} (h:aZ x y):aZ (.iface t x) (.iface t y):=fun w p v ar=>by cases ar with|iface _ _ _ aC=>exact .iface _ _ _ (h _ _ _ aC)
theorem aZ.bA {xs ys:List ah} {o:Nat} (h:cS xs ys):aZ (.bA xs o) (.bA ys o):=fun w p v ar=>by
 cases ar with|bA b base uE off vs _ ai aD aE=>exact .bA b base uE o vs ys ai aD (h.rel aE)
theorem aZ.func {f:FuncId} {xs ys us vs:List ah} (h:cS xs ys) (k:cS us vs):aZ (.func f xs us) (.func f ys vs):=fun w p v ar=>by
 cases ar with|func _ as cs _ _ aO aD=>exact .func _ _ _ _ _ (h.rel aO) (k.rel aD)
theorem aZ.aG {sz:Nat} {xs ys:List ah} {own:bV} (h:cS xs ys):aZ (.aG sz xs own) (.aG sz ys .bd):=fun w p v ar=>by
 cases ar with
 | hY=>cases h;exact .hY _ _ bc
 | iA a=>cases h;exact .iA a _ _ (.inl C)
 | aG g off n cap _ vs _ _ aB aC aD aE au hm aA b9 ai=>exact .aG g off n cap sz vs ys .bd bc (aC.trans h.length) aD (h.rel aE) au hm aA bc bc
theorem aZ.bd {sz:Nat} {xs:List ah} {own:bV}:aZ (.aG sz xs own) (.aG sz xs .bd):=aZ.aG (cS.refl _)
theorem aZ.nil {sz sz':Nat} {own:bV} (ai:∀ b,own ≠ .own b):aZ (.aG sz [] .nil) (.aG sz' [] own):=fun w p v ar=>by
 cases ar with
 | hY=>exact .hY _ _ ai
 | iA _ _ _ h=>rcases h with h|h<;>cases h
 | aG g off n cap _ vs _ _ aB=>exact absurd C aB
theorem aZ.empty {sz sz':Nat} {own:bV}:aZ (.aG sz [] own) (.aG sz' [] .bd):=fun w p v ar=>by
 cases ar with
 | hY=>exact .hY _ _ bc
 | iA a=>exact .iA a _ _ (.inl C)
 | aG g off n cap _ vs _ _ aB aC aD aE au hm aA b9 ai=>
  have:vs=[]:=List.eq_nil_of_length_eq_zero (by rw [aE.length];rfl);subst this;exact .aG g off n cap sz' [] [] .bd bc aC aD .nil bc hm aA bc bc
theorem aZ.any (x:ah):aZ x .any:=fun _ _ v _ => .any v
section
variable {P:Program} {Γ:cw} {N:Nat} {ops:Array Oper} {Q:b3→Env→ao→Prop} {env:Env} {s:ao} {l:List Oper} {o:Oper} {d:Nat}
theorem ae.ot {l:List Oper} (t:Nat) {v:ah} (fy:ah) (ar:env.get? t=some v) (he:aZ v fy) (h:ae P N ops l Q ((t,fy)::env) s):ae P N ops l Q env s:=by
 intro k aA ro B a w p aK
 exact h k aA ro B a w p ⟨aK.size,fun u x ab=>by
  simp only [Env.get?] at ab
  split at ab
  ·rename_i an;have:=ad' an;subst this;cases ab;exact he _ _ _ (aK.env _ _ ar)
  ·exact aK.env u x ab,aK.wf,aK.defs,aK.round,aK.base⟩
theorem af.ot {c:Code} (t:Nat) {v:ah} (fy:ah) (ar:env.get? t=some v) (he:aZ v fy) (h:af P N c Q ((t,fy)::env) s):af P N c Q env s:=by
 intro b B a w p eZ aK
 exact h b B a w p eZ ⟨aK.size,fun u x ab=>by
  simp only [Env.get?] at ab
  split at ab
  ·rename_i an;have:=ad' an;subst this;cases ab;exact he _ _ _ (aK.env _ _ ar)
  ·exact aK.env u x ab,aK.wf,aK.defs,aK.round,aK.base⟩
theorem ae.alloc (aR:bR P Γ) {t:TypeId} {i:bQ} {z:ah} {cs:List ah} (aq:guardOf ops env o=some true) (ay:o.dst=some d) (a1:z2 d N=true) (ai:o.op = .alloc t) (aM:Γ.get? t=some i)
  (bG:hF i.zero=some z) (aD:cellsOf z=some cs) (h:∀ b,s b=none→ae P N ops l Q ((d,.ptr b 0)::env) (s.set b (.box t cs))):ae P N ops (o::l) Q env s:=
 ae.op aq ay a1 (a6.alloc aR ai aM bG aD (X:=fun _ _=>False)) (fun x ak ⟨b,aa,ad,aj⟩=>by subst ad;subst aj;exact h b aa) (fun _ _ h=>h.elim)
theorem ae.uH (aR:bR P Γ) {t T:TypeId} {x:Operand} {i:bQ} {b off:Nat} {cs:List ah} {v:ah} (aq:guardOf ops env o=some true) (ay:o.dst=some d) (a1:z2 d N=true) (ai:o.op = .load t x)
  (aM:Γ.get? t=some i) (ab:aN env x=some (.ptr b off)) (au:s b=some (.box T cs)) (ar:hP i cs off=some v) (h:ae P N ops l Q ((d,v)::env) s):ae P N ops (o::l) Q env s:=
 ae.op aq ay a1 (a6.uH aR ai aM ab au ar (X:=fun _ _=>False)) (fun x ak ⟨aa,ad⟩=>by subst aa;subst ad;exact h) (fun _ _ h=>h.elim)
theorem ae.CJ (aR:bR P Γ) {t T:TypeId} {x y:Operand} {i:bQ} {b off:Nat} {cs us:List ah} {v:ah} (aq:guardOf ops env o=some true) (ay:o.dst=none) (ai:o.op = .store t x y)
  (aM:Γ.get? t=some i) (ab:aN env x=some (.ptr b off)) (ax:aN env y=some v) (ar:cellsOf v=some us) (hu:af2 us.length i.size=true) (aa:us.all fb=true) (au:s b=some (.box T cs))
  (fB:ao6 (off+us.length) cs.length=true) (h:ae P N ops l Q env (s.set b (.box T (eV off us cs)))):ae P N ops (o::l) Q env s:=
 ae.vV aq ay (a6.CJ aR ai aM ab ax ar hu aa au fB (X:=fun _ _=>False)) (fun x ak aa=>by subst aa;exact h) (fun _ _ h=>h.elim)
theorem ae.lookup (aR:bR P Γ) {t dO e1:TypeId} {x y:Operand} {ok:Bool} {it gK aH:bQ} {m:Nat} {es:List (ah×ah)} {k z:ah} {r:Option ah} (aq:guardOf ops env o=some true) (ay:o.dst=some d) (a1:z2 d N=true)
  (ai:o.op = .lookup t x y ok) (aM:Γ.get? t=some it) (bw:it.bL = .map dO e1) (h1:Γ.get? dO=some gK) (bO:Γ.get? e1=some aH) (ab:aN env x=some (.map m)) (ax:aN env y=some k) (au:s m=some (.map es))
  (aX:kf gK.bL k=true) (aE:i' es k=some r) (bG:hF aH.zero=some z) (h:ae P N ops l Q ((d,lU ok z r)::env) s):ae P N ops (o::l) Q env s:=
 ae.op aq ay a1 (a6.lookup aR ai aM bw h1 bO ab ax (.inl ⟨m,rfl,au⟩) aX aE bG (X:=fun _ _=>False)) (fun x ak ⟨aa,ad⟩=>by subst aa;subst ad;exact h) (fun _ _ h=>h.elim)
theorem ae.mapUpdate (aR:bR P Γ) {t dO e1:TypeId} {x y z:Operand} {it gK:bQ} {b:Nat} {es dv:List (ah×ah)} {k v:ah} (aq:guardOf ops env o=some true) (ay:o.dst=none)
  (ai:o.op = .mapUpdate t x y z∨o.op = .insert t x y z) (aM:Γ.get? t=some it) (bw:it.bL = .map dO e1) (h1:Γ.get? dO=some gK) (ab:aN env x=some (.map b)) (ax:aN env y=some k) (bG:aN env z=some v)
  (au:s b=some (.map es)) (aX:kf gK.bL k=true) (aF:lT es k v=some dv) (h:ae P N ops l Q env (s.set b (.map dv))):ae P N ops (o::l) Q env s:=
 ae.vV aq ay (a6.mapUpdate aR ai aM bw h1 ab ax bG au aX aF (X:=fun _ _=>False)) (fun x ak aa=>by subst aa;exact h) (fun _ _ h=>h.elim)
theorem ae.makeMap {t:TypeId} (aq:guardOf ops env o=some true) (ay:o.dst=some d) (a1:z2 d N=true) (ai:o.op = .makeMap t none)
  (h:∀ b,s b=none→ae P N ops l Q ((d,.map b)::env) (s.set b (.map []))):ae P N ops (o::l) Q env s:=
 ae.op aq ay a1 (a6.makeMap ai (X:=fun _ _=>False)) (fun x ak ⟨b,aa,ad,aj⟩=>by subst ad;subst aj;exact h b aa) (fun _ _ h=>h.elim)
theorem ae.invoke {g:Operand} {name:String} {as:Array Operand} {cZ:Array TypeId} {t:TypeId} {v:ah} {f:FuncId} {xs:List ah} {R:eB→ao→Prop} (aq:guardOf ops env o=some true) (ay:o.dst=some d) (a1:z2 d N=true)
  (ai:o.op = .call { callee := .invoke g name,args:=as,argTypes:=cZ }) (ar:aN env g=some (.iface t v)) (aO:fS env as.toList=some xs) (hm:pU P t name f) (h:hl P f (v::xs) s R)
  (aA:∀ x ak,R (.ret x) ak→ae P N ops l Q ((d,x)::env) ak) (ab:∀ x ak,R (.panic x) ak→Q (.panic x) env ak):ae P N ops (o::l) Q env s:=
 ae.op aq ay a1 (a6.invoke ai ar aO hm h) aA ab
theorem ae.panic {x:Operand} {t:TypeId} {v:ah} (aq:guardOf ops env o=some true) (ay:o.dst=none) (ai:o.op = .panic x) (ab:aN env x=some (.iface t v)) (h:Q (.panic (.iface t v)) env s) :
  ae P N ops (o::l) Q env s:=
 ae.vV aq ay (a6.panic ai ab (K:=fun _ _=>False)) (fun x ak h=>h.elim) (fun x ak ⟨aa,ad⟩=>by subst aa;subst ad;exact h)
end
section
variable {P:Program} {Γ:cw} {N:Nat} {l:List Oper} {Q:b3→Env→ao→Prop} {env:Env} {s:ao} {m:Nat}
theorem bq.pure {J:ao→Prop} (c9:J s) (i:Nat) {o:Oper} {d:Nat} {v:ah} (aE:iG l.toArray m i=true) (ai:l.toArray[i]? = some o) (ay:o.dst=some d) (a1:z2 d N=true)
  (aq:c8 l env o) (ar:lW Γ o (b2 l env o) v) (h:bq J P Γ N l.toArray Q (bX (m|||2^i)) ((d,v)::env) s) :
  bq J P Γ N l.toArray Q (bX m) env s:=
 bq.still c9 i o d v (tx.1 aE) ai ay C1 (.inl ⟨aq,ar⟩) (by rw [pa];exact h)
theorem bf.pure (i:Nat) {o:Oper} {d:Nat} {v:ah} (aE:iG l.toArray m i=true) (ai:l.toArray[i]? = some o) (ay:o.dst=some d) (a1:z2 d N=true)
  (aq:c8 l env o) (ar:lW Γ o (b2 l env o) v) (h:bf P Γ N l.toArray Q (bX (m|||2^i)) ((d,v)::env) s) :
  bf P Γ N l.toArray Q (bX m) env s:=bq.pure trivial i aE ai ay a1 aq ar h
theorem bq.idx {J:ao→Prop} (c9:J s) (i:Nat) {o:Oper} {d:Nat} {t e:TypeId} {x y:Operand} {it aH:bQ} {sz:Nat} {xs:List ah} {own:bV} {k:IntKind} {n:Int} {v:ah} {cs:List ah} (j:Nat) (aE:iG l.toArray m i=true) (ai:l.toArray[i]? = some o)
  (ay:o.dst=some d) (a1:z2 d N=true) (aq:c8 l env o) (b1:o.op = .indexAddr t x y) (aM:Γ.get? t=some it) (bw:it.bL = .aG e) (bO:Γ.get? e=some aH)
  (ab:aN (b2 l env o) x=some (.aG sz xs own)) (cc:sz=aH.size) (ax:aN (b2 l env o) y=some (.int k n)) (eJ:n=(j:Int)) (aI:xs[j]? = some v) (aD:cellsOf v=some cs)
  (h:bq J P Γ N l.toArray Q (bX (m|||2^i)) ((d,.bA cs 0)::env) s):bq J P Γ N l.toArray Q (bX m) env s:=
 bq.pure c9 i aE ai ay a1 aq (.idx j b1 aM bw bO ab cc ax eJ aI aD) h
theorem bf.idx (i:Nat) {o:Oper} {d:Nat} {t e:TypeId} {x y:Operand} {it aH:bQ} {sz:Nat} {xs:List ah} {own:bV} {k:IntKind} {n:Int} {v:ah} {cs:List ah} (j:Nat) (aE:iG l.toArray m i=true) (ai:l.toArray[i]? = some o)
  (ay:o.dst=some d) (a1:z2 d N=true) (aq:c8 l env o) (b1:o.op = .indexAddr t x y) (aM:Γ.get? t=some it) (bw:it.bL = .aG e) (bO:Γ.get? e=some aH)
  (ab:aN (b2 l env o) x=some (.aG sz xs own)) (cc:sz=aH.size) (ax:aN (b2 l env o) y=some (.int k n)) (eJ:n=(j:Int)) (aI:xs[j]? = some v) (aD:cellsOf v=some cs)
  (h:bf P Γ N l.toArray Q (bX (m|||2^i)) ((d,.bA cs 0)::env) s):bf P Γ N l.toArray Q (bX m) env s:=
 bf.pure i aE ai ay a1 aq (.idx j b1 aM bw bO ab cc ax eJ aI aD) h
theorem bf.slice (i:Nat) {o:Oper} {d:Nat} {t e:TypeId} {x:Operand} {fT aS jr:Option Operand} {it aH:bQ} {sz:Nat} {xs:List ah} {own dz:bV} (a b:Nat) (aE:iG l.toArray m i=true) (ai:l.toArray[i]? = some o)
  (ay:o.dst=some d) (a1:z2 d N=true) (aq:c8 l env o) (b1:o.op = .slice t x fT aS jr)
  (aM:Γ.get? t=some it) (bw:it.bL = .aG e) (bO:Γ.get? e=some aH) (ab:aN (b2 l env o) x=some (.aG sz xs own)) (cc:xs=[]∨sz=aH.size)
  (hJ:(fT=none∧a=0)∨∃ y k,fT=some y∧aN (b2 l env o) y=some (.int k (a:Int))) (qM:(aS=none∧jr=none∧b=xs.length)∨∃ y k,aS=some y∧aN (b2 l env o) y=some (.int k (b:Int)))
  (nN:(jr=none∧dz = .bd)∨(∃ y k,jr=some y∧aN (b2 l env o) y=some (.int k (b:Int))∧dz = .clip)) (aC:a≤b) (cN:b≤xs.length)
  (h:bf P Γ N l.toArray Q (bX (m|||2^i)) ((d,.aG sz ((xs.take b).drop a) dz)::env) s):bf P Γ N l.toArray Q (bX m) env s:=
 bf.pure i aE ai ay a1 aq (.slice a b b1 aM bw bO ab cc hJ qM nN aC cN) h
theorem bf.call {i:Nat} {o:Oper} {d:Nat} {f:FuncId} {as:Array Operand} {cZ:Array TypeId} {xs:List ah} {R:eB→ao→Prop} (aE:eP l.toArray m (idxs 0 l)=[i]) (ai:l.toArray[i]? = some o) (ay:o.dst=some d) (a1:z2 d N=true)
  (aq:c8 l env o) (b1:o.op = .call { callee := .value (.func f),args:=as,argTypes:=cZ }) (aO:fS (b2 l env o) as.toList=some xs) (h:hl P f xs s R)
  (aA:∀ x ak,R (.ret x) ak→bf P Γ N l.toArray Q (bX (m|||2^i)) ((d,x)::env) ak) (ab:∀ x ak,R (.panic x) ak→Q (.panic x) [] ak):bf P Γ N l.toArray Q (bX m) env s:=
 bf.one aE ai ay a1 aq (a6.call b1 (fv := .func f [] []) C aO (hT.fm hx)) aA ab
theorem bf.Kz {i:Nat} {o:Oper} {d:Nat} {f:FuncId} {as:Array Operand} {cZ:Array TypeId} {xs:List ah} {v:ah} (aE:eP l.toArray m (idxs 0 l)=[i]) (ai:l.toArray[i]? = some o) (ay:o.dst=some d) (a1:z2 d N=true)
  (aq:c8 l env o) (b1:o.op = .call { callee := .value (.func f),args:=as,argTypes:=cZ }) (aO:fS (b2 l env o) as.toList=some xs)
  (h:hl P f xs s (fun out ak=>out = .ret v∧ak=s)) (aA:bf P Γ N l.toArray Q (bX (m|||2^i)) ((d,v)::env) s):bf P Γ N l.toArray Q (bX m) env s:=
 bf.call aE ai ay a1 aq b1 aO h (fun x ak ⟨aa,ad⟩=>by cases aa;subst ad;exact aA) (fun x ak ⟨aa,_⟩=>by cases aa)
end
section
variable {P:Program} {Γ:cw} {N:Nat} {l:List Oper} {Q:b3→Env→ao→Prop} {env:Env} {s:ao} {m:Nat}
theorem bf.FP {i:Nat} {o:Oper} {d:Nat} {g:Operand} {fv:ah} {as:Array Operand} {cZ:Array TypeId} {xs:List ah} {R:eB→ao→Prop} (aE:eP l.toArray m (idxs 0 l)=[i]) (ai:l.toArray[i]? = some o) (ay:o.dst=some d)
  (a1:z2 d N=true) (aq:c8 l env o) (b1:o.op = .call { callee := .value g,args:=as,argTypes:=cZ }) (ar:aN (b2 l env o) g=some fv)
  (aO:fS (b2 l env o) as.toList=some xs) (h:hT P fv xs s R)
  (aA:∀ x ak,R (.ret x) ak→bf P Γ N l.toArray Q (bX (m|||2^i)) ((d,x)::env) ak) (ab:∀ x ak,R (.panic x) ak→Q (.panic x) [] ak):bf P Γ N l.toArray Q (bX m) env s:=
 bf.one aE ai ay a1 aq (a6.call b1 ar aO h) aA ab
theorem bf.two {i j:Nat} {o u:Oper} {d c:Nat} {K X aQ nF:ah→ao→Prop} (aE:eP l.toArray m (idxs 0 l)=[i,j]) (ai:l.toArray[i]? = some o) (hu:l.toArray[j]? = some u) (ay:o.dst=some d) (aD:u.dst=some c)
  (a1:z2 d N=true) (pW:z2 c N=true) (cP:af2 i j=false)
  (aq:c8 l env o) (nb:guardOf l.toArray (iF env (looks l.toArray u)) u=some true)
  (h:a6 P N o (b2 l env o) s K X) (eY:a6 P N u (iF env (looks l.toArray u)) s aQ nF)
  (aA:∀ x ak,K x ak→bf P Γ N l.toArray Q (bX (m|||2^i)) ((d,x)::env) ak) (eF:∀ x ak,aQ x ak→bf P Γ N l.toArray Q (bX (m|||2^j)) ((c,x)::env) ak)
  (ab:∀ x ak,X x ak→Q (.panic x) [] ak) (ch:∀ x ak,nF x ak→Q (.panic x) [] ak):bf P Γ N l.toArray Q (bX m) env s:=by
 have F9:i≠j:=fun e=>by subst e;rw [at7] at cP;cases cP
 have fo:∀ k,hn l.toArray (bX m) k→k=i∨k=j:=fun k aA=>by
  have:=Ae aA (l:=idxs 0 l) (by rw [yj,aq9];have:=aA.1;simp at this;omega);rw [aE] at this;simpa using this
 have az:i<l.toArray.size:=(t8.1 ai).1;have pb:bX m i=false:=by
  cases an:bX m i with
  | false=>rfl
  | true=>
   have fs:i∈eP l.toArray m (idxs 0 l):=by rw [aE];exact i6 ..
   have:∀ is,i∈eP l.toArray m is→iG l.toArray m i=true:=by
    intro is
    induction is with
    | nil=>intro h;cases h
    | cons j is aW=>
     intro h;simp only [eP] at h;split at h
     ·rename_i an
      rcases ae8.1 h with rfl|h
      ·exact an
      ·exact aW h
     ·exact aW h
   have:=(tx.1 (this _ fs)).2.1;rw [an] at this;cases this
 refine bq.split (fun k=>if k=i then K else aQ) (fun k=>if k=i then X else nF) ⟨i,az,pb⟩ (fun k o' kC cz=>?_) (fun _ _ _ _ _ _ _ => .inl trivial) (fun k o' c4 kC cz cg x ak bk=>?_) (fun k o' kC cz cg x ak bk=>?_) (fun k o' kC cz x ak iB=>?_)
 ·rcases fo k kC with rfl|rfl
  ·rw [ai] at cz;cases cz
   simp only [ag5];exact ⟨aq,h,fun c4 cg=>by rw [ay] at cg;cases cg;simpa [an7] using a1⟩
  ·rw [hu] at cz;cases cz
   simp only [d7 (Ne.symm F9)];exact ⟨nb,eY,fun c4 cg=>by rw [aD] at cg;cases cg;simpa [an7] using pW⟩
 ·rcases fo k kC with rfl|rfl
  ·rw [ai] at cz;cases cz
   rw [ay] at cg;cases cg;simp only [ag5] at bk;rw [pa];exact aA x ak bk
  ·rw [hu] at cz;cases cz
   rw [aD] at cg;cases cg;simp only [d7 (Ne.symm F9)] at bk;rw [pa];exact eF x ak bk
 ·rcases fo k kC with rfl|rfl
  ·rw [ai] at cz;cases cz
   rw [ay] at cg;cases cg
  ·rw [hu] at cz;cases cz
   rw [aD] at cg;cases cg
 ·rcases fo k kC with rfl|rfl
  ·simp only [ag5] at iB;exact ab x ak iB
  ·simp only [d7 (Ne.symm F9)] at iB;exact ch x ak iB
end
theorem Tx {P:Program} {ops:Array Oper} {Q:hg→Act→World→Prop} (l₂:List Nat):∀ (l₁:List Nat) (a:Act) (w:World),
  iZ P ops (hg.andThen (iZ P ops Q l₂) Q) l₁ a w→iZ P ops Q (l₁++l₂) a w:=by
 intro l₁
 induction l₁ with
 | nil=>intro a w h;exact h
 | cons i r aW=>
  intro a w h;simp only [ab',iZ] at h ⊢;split at h
  ·exact aW _ _ h
  ·rename_i o ai
   split at h
   ·rename_i hw
    rw [f7 hw];refine ⟨h.1,h.2.mono ?_⟩;intro e w' he;cases e with
    | returned v=>exact aW _ _ he
    | panicked dx=>exact he
    | outgrown=>exact he
   ·rename_i hw
    rw [d7 hw];exact aW _ _ h
section
variable {P:Program} {Γ:cw} {N:Nat} {ops:Array Oper} {Q:b3→Env→ao→Prop} {env:Env} {s:ao} {l:List Oper} {o:Oper} {d:Nat}
theorem ae.cut (n:Nat) (KX:Env) (wK:ae P N ops (l.take n) (fun x e ak=>x = .normal∧Env.Sub KX e∧ak=s) env s) (wL:ae P N ops (l.drop n) Q KX s):ae P N ops l Q env s:=by
 intro k aA ro B a w p aK;have hlen:l.length=(l.take n).length+(l.drop n).length:=by rw [← List.length_append,List.take_append_drop]
 rw [hlen,← List.range'_append_1];refine Tx _ _ _ _ (vU ?_ _ _ _ (wK k (fun j x aI=>aA j x ?_) ro B a w p aK))
 ·rintro e c1 w' ⟨x,eU,ak,bh,ab,⟨rfl,e0,rfl⟩,hR,hle,lS⟩
  cases ab;refine fI.after hle lS ?_ (hR.sub e0);refine wL _ (fun j x aI=>?_);rw [List.getElem?_drop] at aI;have az:=(List.getElem?_eq_some_iff.1 aI).1;rw [List.length_take,Nat.min_eq_left ag,Nat.add_assoc];exact aA _ x aI
 ·rw [List.getElem?_take] at aI
  split at aI
  ·exact aI
  ·cases aI
def KY (ops:Array Oper) (o:Oper):Option Nat:=match o.guard with
  | some (j,_)=>match ops[j]? with
    | some u=>u.dst
    | none=>none
  | none=>none
theorem ae.same (b:Bool) (aq:guardOf ops env o=some b) (h:ae P N ops (o::l) Q env s):ae P N ops (o::l) Q env s:=h
theorem ae.gY {t:Nat} {b:Bool} (au:KY ops o=some t) (ar:env.get? t=some (.bool b)) (di:b=true→ae P N ops (o::l) Q ((t,.bool true)::env) s)
  (pc:b=false→ae P N ops (o::l) Q ((t,.bool false)::env) s):ae P N ops (o::l) Q env s:=by
 cases b with
 | true=>exact ae.CZ t ar C (di C)
 | false=>exact ae.CZ t ar C (pc C)
end
def KZ (P:Program) (t:TypeId) (name:String) (f:FuncId):Bool:=
  match P.info? t,P.underlying t with
  | some i,some d=>(match i.methods.find? (·.name==name) with
    | some m=>m.path.isEmpty&&(match m.func with|some (nc,b)=>af2 nc f && !b|none=>false)
    | none=>false)&&(match d with | .pointer _=>false|_=>true)&&z2 0 (P.types.size+Made.depth)
  | _,_=>false
theorem Db {P:Program} {t:TypeId} {name:String} {f:FuncId} (h:KZ P t name f=true):pU P t name f:=by
 unfold KZ at h;split at h
 ·rename_i i d aS ay
  simp only [f4] at h;obtain ⟨⟨aa,ad⟩,aj⟩:=h;split at aa
  ·rename_i m hm
   simp only [f4] at aa;obtain ⟨a8,bB⟩:=aa;split at bB
   ·rename_i nc b aX
    simp only [f4] at bB;have b6:=ad' bB.1;have bW:b=false:=by simpa using bB.2
    subst b6;subst bW;refine St aS hm (by simpa [Array.isEmpty] using a8) aX ay (fun e he=>by subst he;cases ad) ?_;have:0<P.types.size+Made.depth:=by simpa [an7] using aj
    exact ⟨P.types.size+Made.depth-1,by omega⟩
   ·cases bB
  ·cases aa
 ·cases h
def rowOf (s:ao) (e:TypeId) (sz n:Nat):bV→ao
 | .own b=>s.set b (.row e sz n)
 | _=>s
def qX (s:ao) (n:Nat):bV→Prop
 | .own b=>s b=none
 | .nil=>True
 | .clip=>True
 | .bd=>False
section
variable {P:Program} {Γ:cw} {N:Nat} {env:Env} {s:ao}
theorem a6.Ty {o:Oper} {K X aQ nF:ah→ao→Prop} (h:a6 P N o env s K X) (bk:∀ x ak,K x ak→∃ eL,ao.Sub eL ak∧aQ x eL) (iB:∀ x ak,X x ak→∃ eL,ao.Sub eL ak∧nF x eL):a6 P N o env s aQ nF:=by
 refine ⟨h.1,fun ro B a w p aK=>(h.2 ro B a w p aK).mono ?_⟩;rintro e w' ⟨ak,bh,aa,ad,aj,a8⟩;cases e with
 | returned v=>
  obtain ⟨x,aA,aE⟩:=a8;obtain ⟨eL,au,eF⟩:=bk x ak aA;exact ⟨eL,bh,aa,ad.sub au,aj.sub au,x,eF,aE⟩
 | panicked dx=>
  obtain ⟨v,x,kW,aA,aE⟩:=a8;obtain ⟨eL,au,eF⟩:=iB x ak aA;exact ⟨eL,bh,aa,ad.sub au,aj.sub au,v,x,kW,eF,aE⟩
 | outgrown=>exact a8.elim
theorem a6.F' (aR:bR P Γ) {o:Oper} {t bP e:TypeId} {x y:Operand} {it cJ aH:bQ} {eg bZ n:Nat} {xs ys:List ah} {own dD:bV}
  (ai:o.op = .call { callee := .builtin .append,args := #[x,y],argTypes := #[t,bP] }) (aM:Γ.get? t=some it) (bw:it.bL = .aG e) (c7:Γ.get? bP=some cJ) (dH:∀ k,cJ.bL ≠ .int k)
  (bO:Γ.get? e=some aH) (ab:aN env x=some (.aG eg xs own)) (ax:aN env y=some (.aG bZ ys dD)) (hI:eg=aH.size) (dg:ys=[]∨bZ=aH.size)
  (ed:af2 aH.zero.cells.size aH.size=true) (dY:∀ y∈ys,lu aH.size y=true) (an:(xs.length+ys.length)*aH.bytes≤140737488355328) (eA:xs.length+ys.length≤9223372036854775807)
  (aB:n=xs.length) (I:qX s n own) {X:ah→ao→Prop} :
  a6 P N o env (rowOf s e aH.size n own) (fun r ak=>∃ dz,qX s (xs.length+ys.length) dz∧(ys≠[]→∃ b,dz = .own b)∧(∀ b,own = .own b→∃ aY,dz = .own aY)∧r = .aG aH.size (xs++ys) dz∧ak=rowOf s e aH.size (xs.length+ys.length) dz) X:=by
 subst aB;have js:∀ b,own = .own b→rowOf s e aH.size xs.length own b=some (.row e aH.size xs.length):=fun b h=>by subst h;exact ao.gr _ _ _
 have pZ:(own = .nil∨own = .clip)∨∃ b,own = .own b∧eg=aH.size∧rowOf s e aH.size xs.length own b=some (.row e aH.size xs.length):=by
  cases own with
  | nil=>exact .inl (.inl C)
  | clip=>exact .inl (.inr C)
  | bd=>exact I.elim
  | own b=>exact .inr ⟨b,rfl,hI,js b C⟩
 have h:=a6.append (P:=P) (N:=N) (X:=X) aR ai aM bw c7 dH bO ab ax (.inr hI) dg ed dY an eA pZ;refine h.Ty ?_ (fun _ ak h=>⟨ak,ao.o1 _,h⟩);rintro r ak (⟨rfl,aD,rfl,rfl⟩|⟨s₁,zY,b,aa,rfl,rfl⟩)
 ·refine ⟨_,ao.o1 _,own,?_,fun h=>absurd C h,fun b h=>⟨b,h⟩,by rw [d9],?_⟩
  ·rcases aD with rfl|rfl<;>trivial
  ·rcases aD with rfl|rfl<;>rfl
 ·rcases zY with rfl|⟨aY,rfl,rfl⟩
  ·cases own with
   | nil=>exact ⟨_,ao.o1 _,.own b,aa,fun _=>⟨b,rfl⟩,fun _ h=>oa,rfl,rfl⟩
   | clip=>exact ⟨_,ao.o1 _,.own b,aa,fun _=>⟨b,rfl⟩,fun _ h=>oa,rfl,rfl⟩
   | bd=>exact I.elim
   | own aY=>
    obtain ⟨ea,dr⟩:=ao.uG aa;refine ⟨s.set b (.row e aH.size (xs.length+ys.length)),fun x=>?_,.own b,dr,fun _=>⟨b,rfl⟩,fun _ _=>⟨b,rfl⟩,rfl,rfl⟩;by_cases b6:x=b
    ·subst b6;left;rw [ao.gr,ao.gr]
    ·by_cases bW:x=aY
     ·subst bW;right;rw [ao.fA _ _ b6];exact I
     ·left;rw [ao.fA _ _ b6,ao.fA _ _ b6];exact (ao.fA _ _ bW).symm
  ·have ay:(rowOf s e aH.size xs.length (.own aY)).del aY=s:=ao.zQ _ _ _ I
   rw [ay] at aa ⊢;exact ⟨_,ao.o1 _,.own b,aa,fun _=>⟨b,rfl⟩,fun _ _=>⟨b,rfl⟩,rfl,rfl⟩
end
section
variable {P:Program} {Γ:cw} {N:Nat} {ops:Array Oper} {Q:b3→Env→ao→Prop} {env:Env} {s:ao} {l:List Oper} {o:Oper} {d:Nat}
end
section
variable {Q:b3→Env→ao→Prop} {next:Env→ao→Prop} {env:Env} {s:ao}
theorem lZ {id:Nat} (h:Q (.exit id) env s):b3.andThen next Q (.exit id) env s:=h
theorem fU (h:Q .ret env s):b3.andThen next Q .ret env s:=h
theorem fp {id:Nat} (h:Q .normal env s):b3.inBlock id Q .normal env s:=h
theorem gZ {id:Nat} (h:Q .ret env s):b3.inBlock id Q .ret env s:=h
theorem l0 {id:Nat} (h:Q .normal env s):b3.inBlock id Q (.exit id) env s:=by
 show (if af2 id id then Q .normal env s else Q (.exit id) env s);rw [at7];exact h
theorem nS {id kS:Nat} (aB:af2 kS id=false) (h:Q (.exit kS) env s):b3.inBlock id Q (.exit kS) env s:=by
 show (if af2 kS id then Q .normal env s else Q (.exit kS) env s);rw [aB];exact h
end
theorem aZ.of_eq {x y:ah} (h:x=y):aZ x y:=h ▸ aZ.refl x
theorem ev {n:Int} (bo : -9223372036854775808≤n) (aa:n≤9223372036854775807):ac' .i64 n=n:=by
 unfold ac' IntKind.bits IntKind.signed;simp;omega
theorem kF {n:Nat} (h:n<9223372036854775807):ac' .i64 ((n:Int)+1)=((n+1:Nat):Int):=by
 rw [ev ag ag];omega
section
variable {P:Program} {Γ:cw} {N:Nat} {ops:Array Oper} {Q:b3→Env→ao→Prop} {env:Env} {s:ao} {l:List Oper} {o:Oper} {d:Nat}
theorem ae.congr (e:Env) (he:∀ t,e.get? t=env.get? t) (h:ae P N ops l Q e s):ae P N ops l Q env s:=
 fun k aA ro B a w p aK=>h k aA ro B a w p ⟨aK.size,fun t v ar=>aK.env t v ((he t).symm.trans ar),aK.wf,aK.defs,aK.round,aK.base⟩
theorem af.congr {c:Code} (e:Env) (he:∀ t,e.get? t=env.get? t) (h:af P N c Q e s):af P N c Q env s:=
 fun b B a w p eZ aK=>h b B a w p eZ ⟨aK.size,fun t v ar=>aK.env t v ((he t).symm.trans ar),aK.wf,aK.defs,aK.round,aK.base⟩
theorem Tz (e:Env) (d:Nat) (x y:ah):∀ t,Env.get? ((d,x)::e) t=Env.get? ((d,x)::(d,y)::e) t:=by
 intro t;simp only [Env.get?];split<;>rfl
theorem TA (e:Env) {c d:Nat} (x y:ah) (h:af2 c d=false):∀ t,Env.get? ((d,y)::(c,x)::e) t=Env.get? ((c,x)::(d,y)::e) t:=by
 intro t;simp only [Env.get?];cases aa:af2 d t<;>cases ad:af2 c t<;>simp
 have:=ad' aa;have:=ad' ad;subst_vars;rw [at7] at h;cases h
theorem ae.Dc (aR:bR P Γ) {o':Oper} {t:TypeId} {i:bQ} {z v:ah} {a' us:List ah} {y:Operand} (aq:guardOf ops env o=some true) (ay:o.dst=some d) (a1:z2 d N=true) (ai:o.op = .alloc t) (aM:Γ.get? t=some i)
  (bG:hF i.zero=some z) (aD:cellsOf z=some a') (nb:∀ b,guardOf ops ((d,.ptr b 0)::env) o'=some true) (cg:o'.dst=none) (cz:o'.op = .store t (.tmp d) y)
  (ax:∀ b,aN ((d,.ptr b 0)::env) y=some v) (ar:cellsOf v=some us) (hu:af2 us.length i.size=true) (aa:us.all fb=true) (fB:af2 us.length a'.length=true)
  (h:ae P N ops l Q ((d,.bA us 0)::env) s):ae P N ops (o::o'::l) Q env s:=by
 refine ae.alloc aR aq ay a1 ai aM bG aD (fun b an=>?_);have aC:=ad' fB;have TB:aN ((d,.ptr b 0)::env) (.tmp d)=some (.ptr b 0):=by simp [aN,Env.get?]
 refine ae.CJ aR (nb b) cg cz aM TB (ax b) ar hu aa (ao.gr _ _ _) (Nat.ble_eq_true_of_le ag) ?_;rw [ao.set_set];refine ae.freeze d b (by simp [Env.get?]) (ao.gr _ _ _) ?_;rw [ao.zQ _ _ _ an];have he:eV 0 us a'=us:=by rw [Ki _ _ _ ag];simp [List.drop_eq_nil_of_le,aC]
 rw [he];exact ae.congr _ (Tz _ _ _ _) h
end
section
variable {P:Program} {Γ:cw} {N:Nat} {l:List Oper} {Q:b3→Env→ao→Prop} {env:Env} {s:ao} {m:Nat}
theorem bf.TC {σ:Type} (f:σ→ah) (g:σ→ao) (aeo:σ→Prop) {Ga:σ→Prop} (aR:bR P Γ) {i j:Nat} {o u:Oper} {d c:Nat} {t T:TypeId} {x:Operand} {dR:bQ} {b off:Nat} {cs:List ah} {v:ah} {aQ nF:ah→ao→Prop}
  (aE:eP l.toArray m (idxs 0 l)=[i,j]) (TD:eP l.toArray (m|||2^i) (idxs 0 l)=[j])
  (ai:l.toArray[i]? = some o) (hu:l.toArray[j]? = some u) (ay:o.dst=some d) (aD:u.dst=some c) (a1:z2 d N=true) (pW:z2 c N=true) (cP:af2 i j=false)
  (b1:o.op = .load t x) (aM:Γ.get? t=some dR) (ab:aN (b2 l env o) x=some (.ptr b off)) (au:s b=some (.box T cs)) (ar:hP dR cs off=some v)
  (aq:c8 l env o) (nb:guardOf l.toArray (iF env (looks l.toArray u)) u=some true)
  (b6:iF ((d,v)::env) (looks l.toArray u)=iF env (looks l.toArray u))
  (eY:a6 P N u (iF env (looks l.toArray u)) s aQ nF)
  (bk:∀ y ak,aQ y ak→∃ z,aeo z∧y=f z∧ak=g z)
  (lB:∀ z,aeo z→Ga z→bf P Γ N l.toArray Q (bX (m|||2^i|||2^j)) ((c,f z)::(d,v)::env) (g z))
  (cM:∀ z,aeo z→Ga z→bf P Γ N l.toArray Q (bX (m|||2^j)) ((c,f z)::env) (g z))
  (aA:∀ z,aeo z→Ga z) (ch:∀ y ak,nF y ak→Q (.panic y) [] ak):bf P Γ N l.toArray Q (bX m) env s:=by
 refine bf.two (X:=fun _ _=>False) aE ai hu ay aD a1 pW cP aq nb (a6.uH aR b1 aM ab au ar) eY ?_ ?_ (fun _ _ h=>h.elim) ch
 ·rintro y ak ⟨rfl,rfl⟩
  refine bf.one TD hu aD pW (by rw [← b6] at nb;exact nb) (by rw [← b6] at eY;exact eY) (fun y ak ax=>?_) ch;obtain ⟨z,bG,rfl,rfl⟩:=bk y ak ax;exact lB z bG (aA z bG)
 ·intro y ak ax
  obtain ⟨z,bG,rfl,rfl⟩:=bk y ak ax;exact cM z bG (aA z bG)
end
theorem dq.qY {w:World} {p:bU} {s:ao} (h:dq w p s) {b:Nat} {T:TypeId} {cs cs':List ah} (au:s b=some (.box T cs)) (aD:cS cs cs'):dq w p (s.set b (.box T cs')):=by
 refine ⟨fun x o ab=>?_,h.lt⟩;by_cases e:x=b
 ·subst e
  rw [ao.gr] at ab;cases ab;obtain ⟨vs,aa,ad,aj⟩:=h.obj _ _ au;exact ⟨vs,aa,aD.rel ad,aj⟩
 ·rw [ao.fA _ _ e] at ab;exact h.obj x o ab
theorem ao.yn {s:ao} {b:Nat} {o o':dy} (au:s b=some o) (x:Nat):(s.set b o') x=none↔s x=none:=by
 by_cases e:x=b
 ·subst e;rw [ao.gr,au];simp
 ·rw [ao.fA _ _ e]
theorem dw.qY {N:Nat} {B:fQ} {ro:Option Nat} {env:Env} {s:ao} {a:Act} {w:World} {p:bU} (h:dw N B ro env s a w p) {b:Nat} {T:TypeId} {cs cs':List ah} (au:s b=some (.box T cs)) (aD:cS cs cs') :
  dw N B ro env (s.set b (.box T cs')) a w p:=by
 obtain ⟨b',aa,ad,aj⟩:=h.defs
 exact ⟨h.size,h.env,h.wf.qY au aD,⟨b',aa,ad,fun d ay=>let ⟨a,b,c⟩:=aj d ay;⟨a,b,(ao.yn au d).2 c⟩⟩,
  fun l aC=>let ⟨a,b,c⟩:=h.round l aC;⟨a,b,(ao.yn au l).2 c⟩,h.base⟩
theorem Kept.qY {s eL:ao} {w w':World} {p bh:bU} {b:Nat} {o o':dy} (au:s b=some o) (h:Kept (s.set b o') eL w p w' bh):Kept s eL w p w' bh :=
 ⟨fun x ab aB=>h.heap x ab ((ao.yn au x).2 aB),fun x ab aB=>h.kV x ab ((ao.yn au x).2 aB),fun x o ab aB=>h.lo x o ab ((ao.yn au x).2 aB)⟩
theorem af.qY {P:Program} {N:Nat} {Q:b3→Env→ao→Prop} {env:Env} {s:ao} {c:Code} (b:Nat) {T:TypeId} {cs:List ah} (cs':List ah) (au:s b=some (.box T cs)) (aD:cS cs cs')
  (h:af P N c Q env (s.set b (.box T cs'))):af P N c Q env s:=
 fun hj B a w p eZ aK=>mq (h hj B a w p eZ (aK.qY au aD)) fun _ _ _ ⟨x,eU,eL,bh,aa,ad,aj,a8,bB⟩=>⟨x,eU,eL,bh,aa,ad,aj,a8,bB.qY au⟩
theorem ae.qY {P:Program} {N:Nat} {ops:Array Oper} {l:List Oper} {Q:b3→Env→ao→Prop} {env:Env} {s:ao} (b:Nat) {T:TypeId} {cs:List ah} (cs':List ah) (au:s b=some (.box T cs)) (aD:cS cs cs')
  (h:ae P N ops l Q env (s.set b (.box T cs'))):ae P N ops l Q env s:=
 fun k aA ro B a w p aK=>vU (fun _ _ _ ⟨x,eU,eL,bh,aa,ad,aj,a8,bB⟩=>⟨x,eU,eL,bh,aa,ad,aj,a8,bB.qY au⟩) _ a w (h k aA ro B a w p (aK.qY au aD))
theorem cS.one {x y:ah} (h:aZ x y):cS [x] [y] := .cons h .nil
theorem cS.last {x y:ah} (h:aZ x y):∀ (l:List ah),cS (l++[x]) (l++[y])
 | [] => .one h
 | z::l => .cons (aZ.refl z) (cS.last h l)
theorem ao.set_comm (s:ao) {b c:Nat} (o o':dy) (h:b≠c):(s.set b o).set c o'=(s.set c o').set b o:=by
 funext x;simp only [ao.set];split<;>split<;>simp_all
theorem qX.ne {s:ao} {n b:Nat} {own:bV} {o:dy} (I:qX s n own) (h:s b=some o):∀ aY,own = .own aY→aY≠b:=by
 rintro aY rfl e;subst e;simp only [qX] at I;rw [I] at h;cases h
theorem qX.set {s:ao} {n m b:Nat} {own:bV} {o o':dy} (I:qX s n own) (h:s b=some o):qX (s.set b o') m own:=by
 cases own with
 | own aY=>exact (ao.yn h aY).2 I
 | nil=>trivial
 | clip=>trivial
 | bd=>exact I
section
variable {P:Program} {Γ:cw} {N:Nat} {l:List Oper} {Q:b3→Env→ao→Prop} {env:Env} {s:ao} {m:Nat}
end
theorem ao.TE {s t:ao} {b:Nat} {o:dy} (h:ao.Sub s t) (an:s b=none):ao.Sub s (t.set b o):=fun x=>by
 by_cases e:x=b
 ·subst e;exact .inr an
 ·rw [ao.fA _ _ e];exact h x
section
variable {P:Program} {Γ:cw} {N:Nat} {l:List Oper} {Q:b3→Env→ao→Prop} {env:Env} {s:ao} {m:Nat}
theorem bq.r7 {J:ao→Prop} (c9:J s) {i:Nat} {o:Oper} {d:Nat} {v:ah} (aE:iG l.toArray m i=true) (ai:l.toArray[i]? = some o) (ay:o.dst=some d) (a1:z2 d N=true)
  (aq:c8 l env o) (ar:∀ s,J s→a6 P N o (b2 l env o) s (fun x ak=>x=v∧ak=s) (fun _ _=>False))
  (h:bq J P Γ N l.toArray Q (bX (m|||2^i)) ((d,v)::env) s):bq J P Γ N l.toArray Q (bX m) env s:=by
 have aa:=tx.1 aE;refine bq.still c9 i o d v aa ai ay C1 (.inr (.inr ⟨aq,ar⟩)) ?_;rw [pa];exact h
theorem bf.calm {i:Nat} {o:Oper} {d:Nat} {v:ah} (aE:iG l.toArray m i=true) (ai:l.toArray[i]? = some o) (ay:o.dst=some d) (a1:z2 d N=true)
  (aq:c8 l env o) (ar:∀ s,a6 P N o (b2 l env o) s (fun x ak=>x=v∧ak=s) (fun _ _=>False))
  (h:bf P Γ N l.toArray Q (bX (m|||2^i)) ((d,v)::env) s):bf P Γ N l.toArray Q (bX m) env s:=
 bq.r7 trivial aE ai ay a1 aq (fun s _=>ar s) h
theorem bf.TF {i:Nat} {o:Oper} {d:Nat} {f:FuncId} {as:Array Operand} {cZ:Array TypeId} {xs:List ah} {v:ah} (aE:iG l.toArray m i=true) (ai:l.toArray[i]? = some o) (ay:o.dst=some d) (a1:z2 d N=true)
  (aq:c8 l env o) (b1:o.op = .call { callee := .value (.func f),args:=as,argTypes:=cZ }) (aO:fS (b2 l env o) as.toList=some xs)
  (aD:∀ s,hl P f xs s (fun o ak=>o = .ret v∧ak=s))
  (h:bf P Γ N l.toArray Q (bX (m|||2^i)) ((d,v)::env) s):bf P Γ N l.toArray Q (bX m) env s:=
 bf.calm aE ai ay a1 aq (fun s=>(a6.call b1 (fv := .func f [] []) rfl aO (hT.fm (R:=fun o ak=>o = .ret v∧ak=s) (by simpa using aD s))).mono (fun x ak h=>by cases h.1;exact ⟨rfl,h.2⟩) (fun x ak h=>by cases h.1)) h
def kh (P:Program) (Γ:cw) (N:Nat) (l:List Oper) (Q:b3→Env→ao→Prop) (m:Nat) (env:Env) (s:ao) (i:Nat):Prop:=
 ∃ (o:Oper) (K X:ah→ao→Prop),l.toArray[i]? = some o∧guardOf l.toArray (b2 l env o) o=some true∧a6 P N o (b2 l env o) s K X∧(∀ d,o.dst=some d→d<N) ∧
  (∀ d,o.dst=some d→∀ x ak,K x ak→bf P Γ N l.toArray Q (bX (m|||2^i)) ((d,x)::env) ak)∧(o.dst=none→∀ x ak,K x ak→bf P Γ N l.toArray Q (bX (m|||2^i)) env ak) ∧
  ∀ x ak,X x ak→Q (.panic x) [] ak
theorem kh.mk {i:Nat} {o:Oper} {d:Nat} {K X:ah→ao→Prop} (ai:l.toArray[i]? = some o) (ay:o.dst=some d) (a1:z2 d N=true) (aq:c8 l env o)
  (h:a6 P N o (b2 l env o) s K X) (aA:∀ x ak,K x ak→bf P Γ N l.toArray Q (bX (m|||2^i)) ((d,x)::env) ak) (ab:∀ x ak,X x ak→Q (.panic x) [] ak):kh P Γ N l Q m env s i:=
 ⟨o,K,X,ai,aq,h,(fun c4 cg=>by rw [ay] at cg;cases cg;simpa [an7] using a1),(fun c4 cg=>by rw [ay] at cg;cases cg;exact aA),(fun aB=>by rw [ay] at aB;cases aB),ab⟩
theorem kh.Dd {i:Nat} {o:Oper} {K X:ah→ao→Prop} (ai:l.toArray[i]? = some o) (ay:o.dst=none) (aq:c8 l env o)
  (h:a6 P N o (b2 l env o) s K X) (aA:∀ x ak,K x ak→bf P Γ N l.toArray Q (bX (m|||2^i)) env ak) (ab:∀ x ak,X x ak→Q (.panic x) [] ak):kh P Γ N l Q m env s i:=
 ⟨o,K,X,ai,aq,h,(fun c4 cg=>by rw [ay] at cg;cases cg),(fun c4 cg=>by rw [ay] at cg;cases cg),(fun _=>aA),ab⟩
def hU (P:Program) (Γ:cw) (N:Nat) (l:List Oper) (Q:b3→Env→ao→Prop) (m:Nat) (env:Env) (s:ao):List Nat→Prop
 | []=>True
 | i::is=>kh P Γ N l Q m env s i∧hU P Γ N l Q m env s is
theorem hU.mem {i:Nat}:∀ {is:List Nat},hU P Γ N l Q m env s is→i∈is→kh P Γ N l Q m env s i
  | j::is,h,aS=>by
    rcases ae8.1 aS with rfl|aS
    · exact h.1
    · exact hU.mem h.2 aS
theorem Gb {ops:Array Oper} {i:Nat}:∀ {is:List Nat},i∈eP ops m is→iG ops m i=true
  | j::is,h=>by
    simp only [eP] at h;split at h
    · rename_i an
      rcases ae8.1 h with rfl|h
      · exact an
      · exact Gb h
    · exact Gb h
theorem bf.many {i:Nat} {is:List Nat} (aE:eP l.toArray m (idxs 0 l)=i::is) (h:hU P Γ N l Q m env s (i::is)):bf P Γ N l.toArray Q (bX m) env s:=by
 have fo:∀ k,hn l.toArray (bX m) k→kh P Γ N l Q m env s k:=fun k aA=>by
  have:=Ae aA (l:=idxs 0 l) (by rw [yj,aq9];have:=aA.1;simp at this;omega);rw [aE] at this;exact h.mem this
 have jb:hn l.toArray (bX m) i:=tx.1 (Gb (is:=idxs 0 l) (by rw [aE];exact i6 ..));refine bq.split (fun k x ak=>∃ o,l.toArray[k]? = some o∧(∀ d,o.dst=some d→bf P Γ N l.toArray Q (bX (m|||2^k)) ((d,x)::env) ak)∧(o.dst=none→bf P Γ N l.toArray Q (bX (m|||2^k)) env ak))
  (fun k x ak=>Q (.panic x) [] ak) ⟨i,jb.1,jb.2.1⟩ (fun k o aA ai=>?_) (fun _ _ _ _ _ _ _ => .inl trivial) (fun k o d aA ai ay x ak ⟨o',cz,aa,ad⟩=>?_) (fun k o aA ai ay x ak ⟨o',cz,aa,ad⟩=>?_) (fun k o aA ai x ak ab=>ab)
 ·obtain ⟨o',K,X,cz,aq,m',a1,aa,ad,aj⟩:=fo k aA
  rw [ai] at cz;cases cz;exact ⟨aq,m'.mono (fun x ak bk=>⟨o,ai,fun d ay=>aa d ay x ak bk,fun ay=>ad ay x ak bk⟩) (fun x ak iB=>aj x ak iB),a1⟩
 ·rw [ai] at cz;cases cz
  rw [pa];exact aa d ay
 ·rw [ai] at cz;cases cz
  rw [pa];exact ad ay
end
section
variable {P:Program} {Γ:cw} {N:Nat} {ops:Array Oper} {Q:b3→Env→ao→Prop} {env:Env} {s:ao} {l:List Oper} {o:Oper} {d:Nat}
theorem a6.Gc {o:Oper} {t:TypeId} {x:Operand} {v:ah} {cs:List ah} (ai:o.op = .box t x) (ab:aN env x=some v) (aD:cellsOf v=some cs) {X:ah→ao→Prop} :
  a6 P N o env s (fun r ak=>∃ b,s b=none∧r = .ptr b 0∧ak=s.set b (.box t cs)) X:=by
 refine a6.kA jd fun ro B a w p aK=>?_
 have aE:=qF (aK.aN ab) aD;obtain ⟨cu,c2,fg,eG⟩:=rY aK.wf (.cells (a.eval x).cells t) (.box t cs) (fun w' aa ad aj=>⟨(a.eval x).cells,aa,aj _ _ aE,fun o aF=>absurd (aK.wf.lt _ _ aF) ag⟩);refine ⟨.pointer (some ⟨w.heap.size,0,none⟩),w.alloc (.cells (a.eval x).cells t),_,p,.ptr w.heap.size 0,?_,c2,fg,eG,⟨_,cu,rfl,rfl⟩,.ptr _ _⟩;unfold execOp;rw [ai];rfl
theorem ae.Gc {t:TypeId} {x:Operand} {v:ah} {cs:List ah} (aq:guardOf ops env o=some true) (ay:o.dst=some d) (a1:z2 d N=true) (ai:o.op = .box t x) (ab:aN env x=some v) (aD:cellsOf v=some cs)
  (h:∀ b,s b=none→ae P N ops l Q ((d,.ptr b 0)::env) (s.set b (.box t cs))):ae P N ops (o::l) Q env s:=
 ae.op aq ay a1 (a6.Gc ai ab aD (X:=fun _ _=>False)) (fun x ak ⟨b,aa,ad,aj⟩=>by subst ad;subst aj;exact h b aa) (fun _ _ h=>h.elim)
end
abbrev bb:=List (bV×dy)
def l1 (s:ao) (k:bV) (o:dy):ao:=match k with
 | .own b=>s.set b o
 | _=>s
def gone (s:ao) (k:bV):Prop:=match k with
 | .own b=>s b=none
 | .bd=>False
 | _=>True
def aU (s:ao):bb→ao
 | []=>s
 | e::L=>l1 (aU s L) e.1 e.2
def Ok (s:ao):bb→Prop
 | []=>True
 | e::L=>gone (aU s L) e.1∧Ok s L
inductive bp:bb→bV→dy→bb→Prop
 | here {k:bV} {o:dy} {L:bb}:bp ((k,o)::L) k o L
 | there {e:bV×dy} {k:bV} {o:dy} {L R:bb} (h:bp L k o R):bp (e::L) k o (e::R)
inductive aJ:bb→bb→bb→Prop
 | nil {L:bb}:aJ L [] L
 | cons {k:bV} {o:dy} {L K R du:bb} (h:bp L k o R) (t:aJ R K du):aJ L ((k,o)::K) du
theorem K0 (s:ao) (e:TypeId) (sz n:Nat) (k:bV):rowOf s e sz n k=l1 s k (.row e sz n):=by cases k<;>rfl
theorem K1 {s:ao} {n:Nat} {k:bV}:qX s n k↔gone s k:=by cases k<;>exact Iff.rfl
theorem TG {s:ao} {k k':bV} {o o':dy} (h:gone s k) (eY:gone (l1 s k o) k'):gone s k'∧gone (l1 s k' o') k∧l1 (l1 s k o) k' o'=l1 (l1 s k' o') k o:=by
 cases k with
 | own b=>
  cases k' with
  | own aY=>
   obtain ⟨aa,ad⟩:=ao.uG eY;exact ⟨ad,(ao.fA s o' (Ne.symm aa)).trans h,ao.set_comm s o o' (Ne.symm aa)⟩
  | nil=>exact ⟨trivial,h,rfl⟩
  | clip=>exact ⟨trivial,h,rfl⟩
  | bd=>exact eY.elim
 | nil=>exact ⟨eY,trivial,rfl⟩
 | clip=>exact ⟨eY,trivial,rfl⟩
 | bd=>exact h.elim
theorem bp.perm {s:ao} {L R:bb} {k:bV} {o:dy} (h:bp L k o R):Ok s L→aU s L=aU s ((k,o)::R)∧Ok s ((k,o)::R):=by
 induction h with
 | here=>exact fun h=>⟨rfl,h⟩
 | @there e k o L R h aW=>
  rintro ⟨aq,I⟩;obtain ⟨aa,ad,aj⟩:=aW I;rw [aa] at aq;obtain ⟨g1,g2,g3⟩:=TG (s:=aU s R) (k:=k) (o:=o) (k':=e.1) (o':=e.2) ad aq;refine ⟨?_,g2,g1,aj⟩;show l1 (aU s L) e.1 e.2=l1 (l1 (aU s R) e.1 e.2) k o;rw [aa];exact g3
theorem Aj (s:ao):∀ (K R:bb),aU s (K++R)=aU (aU s R) K
 | [],_=>rfl
 | e::K,R=>by show l1 (aU s (K++R)) e.1 e.2=_;rw [Aj s K R];rfl
theorem De {s:ao}:∀ {K R:bb},Ok s (K++R)↔Ok (aU s R) K∧Ok s R
  | [],R=>⟨fun h=>⟨trivial,h⟩,fun h=>h.2⟩
  | e::K,R=>by
    show gone (aU s (K++R)) e.1∧Ok s (K++R)↔(gone (aU (aU s R) K) e.1∧Ok (aU s R) K)∧Ok s R;rw [Aj,De,and_assoc]
theorem aJ.perm {s:ao} {L K R:bb} (h:aJ L K R):Ok s L→aU s L=aU s (K++R)∧Ok s (K++R):=by
 induction h with
 | nil=>exact fun h=>⟨rfl,h⟩
 | @cons k o L K R du h t aW=>
  intro I;obtain ⟨aa,ad,aj⟩:=h.perm I;obtain ⟨a8,bB⟩:=aW aj;refine ⟨?_,?_,bB⟩
  ·rw [aa];show l1 (aU s R) k o=l1 (aU s (K++du)) k o;rw [a8]
  ·have gp:gone (aU s R) k:=ad
   rw [a8] at gp;exact gp
theorem aJ.eq {s:ao} {L K R:bb} (h:aJ L K R) (I:Ok s L):aU s L=aU (aU s R) K∧Ok (aU s R) K∧Ok s R:=by
 obtain ⟨aa,ad⟩:=h.perm I;rw [Aj] at aa;exact ⟨aa,De.1 ad⟩
theorem Df {s t:ao} {k:bV} {o:dy} (h:ao.Sub s t):ao.Sub (l1 s k o) (l1 t k o):=by
 cases k with
 | own b=>
  intro x;by_cases e:x=b
  ·subst e;left;show (s.set x o) x=(t.set x o) x;rw [ao.gr,ao.gr]
  ·show (s.set b o) x=(t.set b o) x∨(s.set b o) x=none
   rw [ao.fA _ _ e,ao.fA _ _ e];exact h x
 | nil=>exact h
 | clip=>exact h
 | bd=>exact h
theorem yo {s t:ao} {k:bV} {o:dy} (h:ao.Sub s t) (aq:gone s k):ao.Sub s (l1 t k o):=by
 cases k with
 | own b=>exact ao.TE h aq
 | nil=>exact h
 | clip=>exact h
 | bd=>exact h
theorem Gd {s t:ao} (h:ao.Sub s t):∀ L:bb,ao.Sub (aU s L) (aU t L)
 | []=>h
 | _::L=>Df (Gd h L)
theorem K2 {s t:ao} {k:bV} (h:ao.Sub s t) (aq:gone t k):gone s k:=by
 cases k with
 | own b=>exact h.none aq
 | nil=>trivial
 | clip=>trivial
 | bd=>exact aq
theorem Ok.sub {s:ao}:∀ {L:bb},Ok s L→ao.Sub s (aU s L)
 | [],_=>ao.o1 _
 | e::L,h=>yo (Ok.sub h.2) (K2 (Ok.sub h.2) h.1)
theorem Ok.ot {s t:ao} (h:ao.Sub s t):∀ {L:bb},Ok t L→Ok s L
 | [],_=>trivial
 | e::L,I=>⟨K2 (Gd h L) I.1,Ok.ot h I.2⟩
theorem aJ.sub {s:ao} {L K R:bb} (h:aJ L K R) (I:Ok s L):ao.Sub (aU s K) (aU s L)∧Ok s K:=by
 obtain ⟨aa,ad,aj⟩:=h.eq I;rw [aa];exact ⟨Gd aj.sub K,ad.ot aj.sub⟩
theorem bp.get {s:ao} {L R:bb} {b:Nat} {o:dy} (h:bp L (.own b) o R) (I:Ok s L):aU s L b=some o:=by
 rw [(h.perm I).1];exact ao.gr _ _ _
theorem bp.put {s:ao} {L R:bb} {b:Nat} {o:dy} (o':dy) (h:bp L (.own b) o R) (I:Ok s L):(aU s L).set b o'=aU s ((.own b,o')::R)∧Ok s ((.own b,o')::R):=by
 obtain ⟨aa,ad⟩:=h.perm I;rw [aa];exact ⟨ao.set_set _ _ _ _,ad⟩
theorem bp.del {s:ao} {L R:bb} {b:Nat} {o:dy} (h:bp L (.own b) o R) (I:Ok s L):(aU s L).del b=aU s R∧Ok s R:=by
 obtain ⟨aa,ad⟩:=h.perm I;rw [aa];exact ⟨ao.zQ _ _ _ ad.1,ad.2⟩
section
variable {P:Program} {Γ:cw} {N:Nat} {ops:Array Oper} {Q:b3→Env→ao→Prop} {env:Env} {s:ao} {l:List Oper} {o:Oper} {d:Nat} {L R:bb}
theorem a6.eC (aR:bR P Γ) (I:Ok s L) {t T:TypeId} {x:Operand} {i:bQ} {b off:Nat} {cs:List ah} {v:ah} (ai:o.op = .load t x) (aM:Γ.get? t=some i) (ab:aN env x=some (.ptr b off))
  (au:bp L (.own b) (.box T cs) R) (ar:hP i cs off=some v) {X:ah→ao→Prop}:a6 P N o env (aU s L) (fun x ak=>x=v∧ak=aU s L) X:=
 a6.uH aR ai aM ab (au.get I) ar
theorem ae.eC (aR:bR P Γ) (I:Ok s L) {t T:TypeId} {x:Operand} {i:bQ} {b off:Nat} {cs:List ah} {v:ah} (aq:guardOf ops env o=some true) (ay:o.dst=some d) (a1:z2 d N=true) (ai:o.op = .load t x)
  (aM:Γ.get? t=some i) (ab:aN env x=some (.ptr b off)) (au:bp L (.own b) (.box T cs) R) (ar:hP i cs off=some v) (h:ae P N ops l Q ((d,v)::env) (aU s L)):ae P N ops (o::l) Q env (aU s L):=
 ae.uH aR aq ay a1 ai aM ab (au.get I) ar h
theorem a6.cX (aR:bR P Γ) (I:Ok s L) {t T:TypeId} {x y:Operand} {i:bQ} {b off:Nat} {cs us:List ah} {v:ah} (ai:o.op = .store t x y) (aM:Γ.get? t=some i) (ab:aN env x=some (.ptr b off))
  (ax:aN env y=some v) (ar:cellsOf v=some us) (hu:af2 us.length i.size=true) (aa:us.all fb=true) (au:bp L (.own b) (.box T cs) R) (fB:ao6 (off+us.length) cs.length=true) {X:ah→ao→Prop} :
  a6 P N o env (aU s L) (fun _ ak=>ak=aU s ((.own b,.box T (eV off us cs))::R)∧Ok s ((.own b,.box T (eV off us cs))::R)) X:=by
 obtain ⟨ad,aj⟩:=au.put (.box T (eV off us cs)) I;exact (a6.CJ aR ai aM ab ax ar hu aa (au.get I) fB (X:=X)).mono (fun _ ak h=>⟨h.trans ad,aj⟩) (fun _ _ h=>h)
theorem ae.cX (aR:bR P Γ) (I:Ok s L) {t T:TypeId} {x y:Operand} {i:bQ} {b off:Nat} {cs us:List ah} {v:ah} (aq:guardOf ops env o=some true) (ay:o.dst=none) (ai:o.op = .store t x y)
  (aM:Γ.get? t=some i) (ab:aN env x=some (.ptr b off)) (ax:aN env y=some v) (ar:cellsOf v=some us) (hu:af2 us.length i.size=true) (aa:us.all fb=true)
  (au:bp L (.own b) (.box T cs) R) (fB:ao6 (off+us.length) cs.length=true) (h:Ok s ((.own b,.box T (eV off us cs))::R)→ae P N ops l Q env (aU s ((.own b,.box T (eV off us cs))::R))):ae P N ops (o::l) Q env (aU s L):=
 ae.vV aq ay (a6.cX aR I ai aM ab ax ar hu aa au fB (X:=fun _ _=>False)) (fun x ak ⟨ad,aj⟩=>by subst ad;exact h aj) (fun _ _ h=>h.elim)
theorem a6.dZ (aR:bR P Γ) (I:Ok s L) {t:TypeId} {i:bQ} {z:ah} {cs:List ah} (ai:o.op = .alloc t) (aM:Γ.get? t=some i) (bG:hF i.zero=some z) (aD:cellsOf z=some cs) {X:ah→ao→Prop} :
  a6 P N o env (aU s L) (fun x ak=>∃ b,x = .ptr b 0∧ak=aU s ((.own b,.box t cs)::L)∧Ok s ((.own b,.box t cs)::L)) X:=
 (a6.alloc aR ai aM bG aD (X:=X)).mono (fun x ak ⟨b,aa,ad,aj⟩=>⟨b,ad,aj,aa,I⟩) (fun _ _ h=>h)
theorem ae.dZ (aR:bR P Γ) (I:Ok s L) {t:TypeId} {i:bQ} {z:ah} {cs:List ah} (aq:guardOf ops env o=some true) (ay:o.dst=some d) (a1:z2 d N=true) (ai:o.op = .alloc t) (aM:Γ.get? t=some i)
  (bG:hF i.zero=some z) (aD:cellsOf z=some cs) (h:∀ b,Ok s ((.own b,.box t cs)::L)→ae P N ops l Q ((d,.ptr b 0)::env) (aU s ((.own b,.box t cs)::L))):ae P N ops (o::l) Q env (aU s L):=
 ae.op aq ay a1 (a6.dZ aR I ai aM bG aD (X:=fun _ _=>False)) (fun x ak ⟨b,aa,ad,aj⟩=>by subst aa;subst ad;exact h b aj) (fun _ _ h=>h.elim)
theorem a6.jJ (I:Ok s L) {t:TypeId} {x:Operand} {v:ah} {cs:List ah} (ai:o.op = .box t x) (ab:aN env x=some v) (aD:cellsOf v=some cs) {X:ah→ao→Prop} :
  a6 P N o env (aU s L) (fun x ak=>∃ b,x = .ptr b 0∧ak=aU s ((.own b,.box t cs)::L)∧Ok s ((.own b,.box t cs)::L)) X:=
 (a6.Gc ai ab aD (X:=X)).mono (fun x ak ⟨b,aa,ad,aj⟩=>⟨b,ad,aj,aa,I⟩) (fun _ _ h=>h)
theorem ae.jJ (I:Ok s L) {t:TypeId} {x:Operand} {v:ah} {cs:List ah} (aq:guardOf ops env o=some true) (ay:o.dst=some d) (a1:z2 d N=true) (ai:o.op = .box t x) (ab:aN env x=some v) (aD:cellsOf v=some cs)
  (h:∀ b,Ok s ((.own b,.box t cs)::L)→ae P N ops l Q ((d,.ptr b 0)::env) (aU s ((.own b,.box t cs)::L))):ae P N ops (o::l) Q env (aU s L):=
 ae.op aq ay a1 (a6.jJ I ai ab aD (X:=fun _ _=>False)) (fun x ak ⟨b,aa,ad,aj⟩=>by subst aa;subst ad;exact h b aj) (fun _ _ h=>h.elim)
theorem a6.r8 (I:Ok s L) {t:TypeId} (ai:o.op = .makeMap t none) {X:ah→ao→Prop} :
  a6 P N o env (aU s L) (fun x ak=>∃ b,x = .map b∧ak=aU s ((.own b,.map [])::L)∧Ok s ((.own b,.map [])::L)) X:=
 (a6.makeMap ai (X:=X)).mono (fun x ak ⟨b,aa,ad,aj⟩=>⟨b,ad,aj,aa,I⟩) (fun _ _ h=>h)
theorem ae.r8 (I:Ok s L) {t:TypeId} (aq:guardOf ops env o=some true) (ay:o.dst=some d) (a1:z2 d N=true) (ai:o.op = .makeMap t none)
  (h:∀ b,Ok s ((.own b,.map [])::L)→ae P N ops l Q ((d,.map b)::env) (aU s ((.own b,.map [])::L))):ae P N ops (o::l) Q env (aU s L):=
 ae.op aq ay a1 (a6.r8 I ai (X:=fun _ _=>False)) (fun x ak ⟨b,aa,ad,aj⟩=>by subst aa;subst ad;exact h b aj) (fun _ _ h=>h.elim)
theorem a6.jv (aR:bR P Γ) (I:Ok s L) {t dO e1:TypeId} {x y:Operand} {ok:Bool} {it gK aH:bQ} {m:Nat} {es:List (ah×ah)} {k z:ah} {r:Option ah} (ai:o.op = .lookup t x y ok) (aM:Γ.get? t=some it)
  (bw:it.bL = .map dO e1) (h1:Γ.get? dO=some gK) (bO:Γ.get? e1=some aH) (ab:aN env x=some (.map m)) (ax:aN env y=some k) (au:bp L (.own m) (.map es) R) (aX:kf gK.bL k=true) (aE:i' es k=some r)
  (bG:hF aH.zero=some z) {X:ah→ao→Prop}:a6 P N o env (aU s L) (fun x ak=>x=lU ok z r∧ak=aU s L) X:=
 a6.lookup aR ai aM bw h1 bO ab ax (.inl ⟨m,rfl,au.get I⟩) aX aE bG
theorem ae.jv (aR:bR P Γ) (I:Ok s L) {t dO e1:TypeId} {x y:Operand} {ok:Bool} {it gK aH:bQ} {m:Nat} {es:List (ah×ah)} {k z:ah} {r:Option ah} (aq:guardOf ops env o=some true) (ay:o.dst=some d) (a1:z2 d N=true)
  (ai:o.op = .lookup t x y ok) (aM:Γ.get? t=some it) (bw:it.bL = .map dO e1) (h1:Γ.get? dO=some gK) (bO:Γ.get? e1=some aH) (ab:aN env x=some (.map m)) (ax:aN env y=some k) (au:bp L (.own m) (.map es) R)
  (aX:kf gK.bL k=true) (aE:i' es k=some r) (bG:hF aH.zero=some z) (h:ae P N ops l Q ((d,lU ok z r)::env) (aU s L)):ae P N ops (o::l) Q env (aU s L):=
 ae.lookup aR aq ay a1 ai aM bw h1 bO ab ax (au.get I) aX aE bG h
theorem a6.nd (aR:bR P Γ) (I:Ok s L) {t dO e1:TypeId} {x y z:Operand} {it gK:bQ} {b:Nat} {es dv:List (ah×ah)} {k v:ah} (ai:o.op = .mapUpdate t x y z∨o.op = .insert t x y z)
  (aM:Γ.get? t=some it) (bw:it.bL = .map dO e1) (h1:Γ.get? dO=some gK) (ab:aN env x=some (.map b)) (ax:aN env y=some k) (bG:aN env z=some v) (au:bp L (.own b) (.map es) R) (aX:kf gK.bL k=true)
  (aF:lT es k v=some dv) {X:ah→ao→Prop}:a6 P N o env (aU s L) (fun _ ak=>ak=aU s ((.own b,.map dv)::R)∧Ok s ((.own b,.map dv)::R)) X:=by
 obtain ⟨ad,aj⟩:=au.put (.map dv) I;exact (a6.mapUpdate aR ai aM bw h1 ab ax bG (au.get I) aX aF (X:=X)).mono (fun _ ak h=>⟨h.trans ad,aj⟩) (fun _ _ h=>h)
theorem ae.nd (aR:bR P Γ) (I:Ok s L) {t dO e1:TypeId} {x y z:Operand} {it gK:bQ} {b:Nat} {es dv:List (ah×ah)} {k v:ah} (aq:guardOf ops env o=some true) (ay:o.dst=none) (ai:o.op = .mapUpdate t x y z∨o.op = .insert t x y z)
  (aM:Γ.get? t=some it) (bw:it.bL = .map dO e1) (h1:Γ.get? dO=some gK) (ab:aN env x=some (.map b)) (ax:aN env y=some k) (bG:aN env z=some v) (au:bp L (.own b) (.map es) R) (aX:kf gK.bL k=true)
  (aF:lT es k v=some dv) (h:Ok s ((.own b,.map dv)::R)→ae P N ops l Q env (aU s ((.own b,.map dv)::R))):ae P N ops (o::l) Q env (aU s L):=
 ae.vV aq ay (a6.nd aR I ai aM bw h1 ab ax bG au aX aF (X:=fun _ _=>False)) (fun x ak ⟨ad,aj⟩=>by subst ad;exact h aj) (fun _ _ h=>h.elim)
theorem a6.qZ (aR:bR P Γ) (I:Ok s L) {t bP e:TypeId} {x y:Operand} {it cJ aH:bQ} {eg bZ sz n n':Nat} {xs ys:List ah} {own dD:bV}
  (ai:o.op = .call { callee := .builtin .append,args := #[x,y],argTypes := #[t,bP] }) (aM:Γ.get? t=some it) (bw:it.bL = .aG e) (c7:Γ.get? bP=some cJ) (dH:∀ k,cJ.bL ≠ .int k)
  (bO:Γ.get? e=some aH) (ab:aN env x=some (.aG eg xs own)) (ax:aN env y=some (.aG bZ ys dD)) (hI:eg=aH.size) (dg:ys=[]∨bZ=aH.size)
  (ed:af2 aH.zero.cells.size aH.size=true) (dY:∀ y∈ys,lu aH.size y=true) (an:(xs.length+ys.length)*aH.bytes≤140737488355328) (eA:xs.length+ys.length≤9223372036854775807)
  (aB:n=xs.length) (gL:n'=xs.length+ys.length) (cc:sz=aH.size) (au:bp L own (.row e sz n) R) {X:ah→ao→Prop} :
  a6 P N o env (aU s L) (fun r ak=>∃ dz,(ys≠[]→∃ b,dz = .own b)∧(∀ b,own = .own b→∃ aY,dz = .own aY)∧r = .aG sz (xs++ys) dz∧ak=aU s ((dz,.row e sz n')::R)∧Ok s ((dz,.row e sz n')::R)) X:=by
 subst cc;subst gL;obtain ⟨aa,ad,aj⟩:=au.perm I;have a8:aU s L=rowOf (aU s R) e aH.size n own:=aa.trans (K0 _ _ _ _ _).symm;rw [a8];refine (a6.F' aR ai aM bw c7 dH bO ab ax hI dg ed dY an eA aB (K1.2 ad) (X:=X)).mono ?_ (fun _ _ h=>h);rintro r ak ⟨dz,g1,g2,g3,rfl,rfl⟩;exact ⟨dz,g2,g3,rfl,K0 _ _ _ _ _,K1.1 g1,aj⟩
theorem ae.ho (aR:bR P Γ) (I:Ok s L) {t bP e:TypeId} {x y:Operand} {it cJ aH:bQ} {eg bZ sz n:Nat} {xs:List ah} {v:ah} {own dD:bV} (aq:guardOf ops env o=some true) (ay:o.dst=some d) (a1:z2 d N=true)
  (ai:o.op = .call { callee := .builtin .append,args := #[x,y],argTypes := #[t,bP] }) (aM:Γ.get? t=some it) (bw:it.bL = .aG e) (c7:Γ.get? bP=some cJ) (dH:∀ k,cJ.bL ≠ .int k)
  (bO:Γ.get? e=some aH) (ab:aN env x=some (.aG eg xs own)) (ax:aN env y=some (.aG bZ [v] dD)) (hI:eg=aH.size) (dg:bZ=aH.size)
  (ed:af2 aH.zero.cells.size aH.size=true) (dY:lu aH.size v=true) (cc:sz=aH.size) (au:bp L own (.row e sz n) R) (aB:n=xs.length) (an:(n+1)*aH.bytes≤140737488355328) (eA:n+1≤9223372036854775807)
  (h:∀ b,Ok s ((.own b,.row e sz (n+1))::R)→ae P N ops l Q ((d,.aG sz (xs++[v]) (.own b))::env) (aU s ((.own b,.row e sz (n+1))::R))):ae P N ops (o::l) Q env (aU s L):=by
 subst aB;refine ae.op aq ay a1 (a6.qZ aR I ai aM bw c7 dH bO ab ax hI (.inr dg) ed (by intro y ax;simp at ax;subst ax;exact dY) an eA C (n':=xs.length+1) C cc au (X:=fun _ _=>False)) ?_ (fun _ _ h=>h.elim);rintro r ak ⟨dz,ad,-,rfl,rfl,aj⟩;obtain ⟨b,rfl⟩:=ad bc;exact h b aj
theorem ae.qZ (aR:bR P Γ) (I:Ok s L) {t bP e:TypeId} {x y:Operand} {it cJ aH:bQ} {eg bZ sz n n':Nat} {xs ys:List ah} {own dD:bV} (aq:guardOf ops env o=some true) (ay:o.dst=some d) (a1:z2 d N=true)
  (ai:o.op = .call { callee := .builtin .append,args := #[x,y],argTypes := #[t,bP] }) (aM:Γ.get? t=some it) (bw:it.bL = .aG e) (c7:Γ.get? bP=some cJ) (dH:∀ k,cJ.bL ≠ .int k)
  (bO:Γ.get? e=some aH) (ab:aN env x=some (.aG eg xs own)) (ax:aN env y=some (.aG bZ ys dD)) (hI:eg=aH.size) (dg:ys=[]∨bZ=aH.size)
  (ed:af2 aH.zero.cells.size aH.size=true) (dY:∀ y∈ys,lu aH.size y=true) (cc:sz=aH.size) (au:bp L own (.row e sz n) R) (aB:n=xs.length) (gL:n'=xs.length+ys.length) (an:(xs.length+ys.length)*aH.bytes≤140737488355328) (eA:xs.length+ys.length≤9223372036854775807)
  (h:∀ dz,Ok s ((dz,.row e sz n')::R)→ae P N ops l Q ((d,.aG sz (xs++ys) dz)::env) (aU s ((dz,.row e sz n')::R))):ae P N ops (o::l) Q env (aU s L):=by
 refine ae.op aq ay a1 (a6.qZ aR I ai aM bw c7 dH bO ab ax hI dg ed dY an eA aB gL cc au (X:=fun _ _=>False)) ?_ (fun _ _ h=>h.elim);rintro r ak ⟨dz,-,-,rfl,rfl,aj⟩;exact h dz aj
theorem af.mE {c:Code} (I:Ok s L) (t b:Nat) {T:TypeId} {cs:List ah} (aM:env.get? t=some (.ptr b 0)) (au:bp L (.own b) (.box T cs) R) (h:Ok s R→af P N c Q ((t,.bA cs 0)::env) (aU s R)):af P N c Q env (aU s L):=by
 obtain ⟨aa,ad⟩:=au.del I;refine af.freeze t b aM (au.get I) ?_;rw [aa];exact h ad
theorem ae.mE (I:Ok s L) (t b:Nat) {T:TypeId} {cs:List ah} (aM:env.get? t=some (.ptr b 0)) (au:bp L (.own b) (.box T cs) R) (h:Ok s R→ae P N ops l Q ((t,.bA cs 0)::env) (aU s R)):ae P N ops l Q env (aU s L):=by
 obtain ⟨aa,ad⟩:=au.del I;refine ae.freeze t b aM (au.get I) ?_;rw [aa];exact h ad
theorem af.wM {c:Code} (I:Ok s L) (b:Nat) {T:TypeId} {cs:List ah} (cs':List ah) (au:bp L (.own b) (.box T cs) R) (aD:cS cs cs') (h:Ok s ((.own b,.box T cs')::R)→af P N c Q env (aU s ((.own b,.box T cs')::R))):af P N c Q env (aU s L):=by
 obtain ⟨aa,ad⟩:=au.put (.box T cs') I;refine af.qY b cs' (au.get I) aD ?_;rw [aa];exact h ad
theorem ae.wM (I:Ok s L) (b:Nat) {T:TypeId} {cs:List ah} (cs':List ah) (au:bp L (.own b) (.box T cs) R) (aD:cS cs cs') (h:Ok s ((.own b,.box T cs')::R)→ae P N ops l Q env (aU s ((.own b,.box T cs')::R))):ae P N ops l Q env (aU s L):=by
 obtain ⟨aa,ad⟩:=au.put (.box T cs') I;refine ae.qY b cs' (au.get I) aD ?_;rw [aa];exact h ad
theorem af.mF {c:Code} (I:Ok s L) (K:bb) (au:aJ L K R) (h:Ok s K→af P N c Q env (aU s K)):af P N c Q env (aU s L):=by
 obtain ⟨aa,ad⟩:=au.sub I;exact af.drop _ aa (h ad)
theorem ae.mF (I:Ok s L) (K:bb) (au:aJ L K R) (h:Ok s K→ae P N ops l Q env (aU s K)):ae P N ops l Q env (aU s L):=by
 obtain ⟨aa,ad⟩:=au.sub I;exact ae.drop _ aa (h ad)
end
def uS (s:ao) (R:eB→bb→Prop) (o:eB) (ak:ao):Prop:=∃ K,ak=aU s K∧Ok s K∧R o K
def bI (P:Program) (f:FuncId) (args:List ah) (K:bb) (R:eB→bb→Prop):Prop:=∀ s,Ok s K→hl P f args (aU s K) (uS s R)
def ds (P:Program) (fv:ah) (args:List ah) (K:bb) (R:eB→bb→Prop):Prop:=∀ s,Ok s K→hT P fv args (aU s K) (uS s R)
def aV (P:Program) (f:FuncId) (args:List ah) (v:ah):Prop:=∀ s,hl P f args s (fun o ak=>o = .ret v∧ak=s)
def ej (P:Program) (fv:ah) (args:List ah) (v:ah):Prop:=∀ s,hT P fv args s (fun o ak=>o = .ret v∧ak=s)
theorem ej.fm {P:Program} {f:FuncId} {first cap args:List ah} {v:ah} (h:aV P f (first++(args++cap)) v):ej P (.func f first cap) args v:=fun s=>hT.fm (h s)
section
variable {P:Program} {Γ:cw} {N:Nat} {ops:Array Oper} {Q:b3→Env→ao→Prop} {env:Env} {s:ao} {l:List Oper} {o:Oper} {d:Nat} {L R K:bb} {aeb:eB→bb→Prop}
theorem ae.l2 {g:Operand} {fv:ah} {as:Array Operand} {cZ:Array TypeId} {xs:List ah} {v:ah} (aq:guardOf ops env o=some true) (ay:o.dst=some d) (a1:z2 d N=true)
  (b1:o.op = .call { callee := .value g,args:=as,argTypes:=cZ }) (ar:aN env g=some fv) (aO:fS env as.toList=some xs) (h:ej P fv xs v) (aA:ae P N ops l Q ((d,v)::env) s):ae P N ops (o::l) Q env s:=
 ae.FP aq ay a1 b1 ar aO (h s) (fun x ak ⟨aa,ad⟩=>by cases aa;subst ad;exact aA) (fun x ak ⟨aa,_⟩=>by cases aa)
theorem bI.mono {f:FuncId} {args:List ah} {Ak:eB→bb→Prop} (h:bI P f args K aeb) (aE:∀ o K,aeb o K→Ak o K):bI P f args K Ak :=
 fun s I=>(h s I).mono fun o ak ⟨aQ,aa,ad,aj⟩=>⟨aQ,aa,ad,aE _ _ aj⟩
theorem ds.mono {fv:ah} {args:List ah} {Ak:eB→bb→Prop} (h:ds P fv args K aeb) (aE:∀ o K,aeb o K→Ak o K):ds P fv args K Ak :=
 fun s I=>(h s I).mono fun o ak ⟨aQ,aa,ad,aj⟩=>⟨aQ,aa,ad,aE _ _ aj⟩
theorem bI.at {f:FuncId} {args:List ah} (h:bI P f args K aeb) (I:Ok s L) (au:aJ L K R):hl P f args (aU s L) (uS s fun o M=>∃ aQ,M=aQ++R∧aeb o aQ):=by
 obtain ⟨aa,ad,aj⟩:=au.eq I;rw [aa];refine (h _ ad).mono ?_;rintro o ak ⟨aQ,rfl,g2,g3⟩;exact ⟨aQ++R,(Aj _ _ _).symm,De.2 ⟨g2,aj⟩,aQ,rfl,g3⟩
theorem ds.at {fv:ah} {args:List ah} (h:ds P fv args K aeb) (I:Ok s L) (au:aJ L K R):hT P fv args (aU s L) (uS s fun o M=>∃ aQ,M=aQ++R∧aeb o aQ):=by
 obtain ⟨aa,ad,aj⟩:=au.eq I;rw [aa];refine (h _ ad).mono ?_;rintro o ak ⟨aQ,rfl,g2,g3⟩;exact ⟨aQ++R,(Aj _ _ _).symm,De.2 ⟨g2,aj⟩,aQ,rfl,g3⟩
theorem ds.fm {f:FuncId} {first cap args:List ah} (h:bI P f (first++(args++cap)) K aeb):ds P (.func f first cap) args K aeb:=fun s I=>hT.fm (h s I)
theorem a6.b4 {f:FuncId} {as:Array Operand} {cZ:Array TypeId} {xs:List ah} (b1:o.op = .call { callee := .value (.func f),args:=as,argTypes:=cZ }) (aO:fS env as.toList=some xs)
  (h:bI P f xs K aeb) (I:Ok s L) (au:aJ L K R) :
  a6 P N o env (aU s L) (fun x ak=>∃ aQ,ak=aU s (aQ++R)∧Ok s (aQ++R)∧aeb (.ret x) aQ) (fun x ak=>∃ aQ,ak=aU s (aQ++R)∧Ok s (aQ++R)∧aeb (.panic x) aQ):=by
 refine (a6.call b1 (fv := .func f [] []) C aO (hT.fm (by simpa using h.at I au))).mono ?_ ?_
 ·rintro x ak ⟨M,rfl,ad,aQ,rfl,aj⟩;exact ⟨aQ,rfl,ad,aj⟩
 ·rintro x ak ⟨M,rfl,ad,aQ,rfl,aj⟩;exact ⟨aQ,rfl,ad,aj⟩
theorem a6.gM {g:Operand} {fv:ah} {as:Array Operand} {cZ:Array TypeId} {xs:List ah} (b1:o.op = .call { callee := .value g,args:=as,argTypes:=cZ }) (ar:aN env g=some fv) (aO:fS env as.toList=some xs)
  (h:ds P fv xs K aeb) (I:Ok s L) (au:aJ L K R) :
  a6 P N o env (aU s L) (fun x ak=>∃ aQ,ak=aU s (aQ++R)∧Ok s (aQ++R)∧aeb (.ret x) aQ) (fun x ak=>∃ aQ,ak=aU s (aQ++R)∧Ok s (aQ++R)∧aeb (.panic x) aQ):=by
 refine (a6.call b1 ar aO (h.at I au)).mono ?_ ?_
 ·rintro x ak ⟨M,rfl,ad,aQ,rfl,aj⟩;exact ⟨aQ,rfl,ad,aj⟩
 ·rintro x ak ⟨M,rfl,ad,aQ,rfl,aj⟩;exact ⟨aQ,rfl,ad,aj⟩
theorem ae.b4 {f:FuncId} {as:Array Operand} {cZ:Array TypeId} {xs:List ah} (aq:guardOf ops env o=some true) (ay:o.dst=some d) (a1:z2 d N=true)
  (b1:o.op = .call { callee := .value (.func f),args:=as,argTypes:=cZ }) (aO:fS env as.toList=some xs) (h:bI P f xs K aeb) (I:Ok s L) (au:aJ L K R)
  (aA:∀ x aQ,aeb (.ret x) aQ→Ok s (aQ++R)→ae P N ops l Q ((d,x)::env) (aU s (aQ++R))) (ab:∀ x aQ,aeb (.panic x) aQ→Ok s (aQ++R)→Q (.panic x) env (aU s (aQ++R))):ae P N ops (o::l) Q env (aU s L):=
 ae.op aq ay a1 (a6.b4 b1 aO h I au) (fun x ak ⟨aQ,aa,ad,aj⟩=>by subst aa;exact aA x aQ aj ad) (fun x ak ⟨aQ,aa,ad,aj⟩=>by subst aa;exact ab x aQ aj ad)
theorem ae.gM {g:Operand} {fv:ah} {as:Array Operand} {cZ:Array TypeId} {xs:List ah} (aq:guardOf ops env o=some true) (ay:o.dst=some d) (a1:z2 d N=true)
  (b1:o.op = .call { callee := .value g,args:=as,argTypes:=cZ }) (ar:aN env g=some fv) (aO:fS env as.toList=some xs) (h:ds P fv xs K aeb) (I:Ok s L) (au:aJ L K R)
  (aA:∀ x aQ,aeb (.ret x) aQ→Ok s (aQ++R)→ae P N ops l Q ((d,x)::env) (aU s (aQ++R))) (ab:∀ x aQ,aeb (.panic x) aQ→Ok s (aQ++R)→Q (.panic x) env (aU s (aQ++R))):ae P N ops (o::l) Q env (aU s L):=
 ae.op aq ay a1 (a6.gM b1 ar aO h I au) (fun x ak ⟨aQ,aa,ad,aj⟩=>by subst aa;exact aA x aQ aj ad) (fun x ak ⟨aQ,aa,ad,aj⟩=>by subst aa;exact ab x aQ aj ad)
theorem ae.dL {f:FuncId} {as:Array Operand} {cZ:Array TypeId} {xs:List ah} {v:ah} (aq:guardOf ops env o=some true) (ay:o.dst=some d) (a1:z2 d N=true)
  (b1:o.op = .call { callee := .value (.func f),args:=as,argTypes:=cZ }) (aO:fS env as.toList=some xs) (h:aV P f xs v) (aA:ae P N ops l Q ((d,v)::env) s):ae P N ops (o::l) Q env s:=
 ae.Kz aq ay a1 b1 aO (h s) aA
theorem bI.yf (aR:bR P Γ) {f:FuncId} {fn:Func} {c:Code} {args:List ah} (aD:tu P f) (aX:P.funcs[f]? = some fn) (an:fn.body=some c)
  (a1:ao6 args.length fn.ntmps=true) (h:∀ s,Ok s K→af P fn.ntmps c (Fin Γ fn.results.toList (uS s aeb)) (r0 0 args) (aU s K)):bI P f args K aeb:=
 fun s I=>hl.yf aR aD aX an a1 (h s I)
theorem aV.yf (aR:bR P Γ) {f:FuncId} {fn:Func} {c:Code} {args:List ah} {v:ah} (aD:tu P f) (aX:P.funcs[f]? = some fn) (an:fn.body=some c)
  (a1:ao6 args.length fn.ntmps=true) (h:∀ s,Ok s []→af P fn.ntmps c (Fin Γ fn.results.toList (fun o ak=>o = .ret v∧ak=s)) (r0 0 args) (aU s [])):aV P f args v:=
 fun s=>hl.yf aR aD aX an a1 (h s trivial)
theorem bI.bl (aR:bR P Γ) {f:FuncId} {fn:Func} {c:Code} {args:List ah} (aX:P.funcs[f]? = some fn) (an:fn.body=some c) (a1:Nat.ble args.length fn.ntmps=true) (h:∀ s,Ok s K→af P fn.ntmps c (Fin Γ fn.results.toList (uS s aeb)) (r0 0 args) (aU s K)) (aB:(fn.name == "runtime.NumGoroutine")=false:=by kernel_rfl):bI P f args K aeb:=bI.yf aR (zZ aX aB (by rw [an];rfl)) aX an a1 h
theorem aV.bl (aR:bR P Γ) {f:FuncId} {fn:Func} {c:Code} {args:List ah} {v:ah} (aX:P.funcs[f]? = some fn) (an:fn.body=some c) (a1:Nat.ble args.length fn.ntmps=true) (h:∀ s,Ok s []→af P fn.ntmps c (Fin Γ fn.results.toList (fun o ak=>o = .ret v∧ak=s)) (r0 0 args) (aU s [])) (aB:(fn.name == "runtime.NumGoroutine")=false:=by kernel_rfl):aV P f args v:=aV.yf aR (zZ aX aB (by rw [an];rfl)) aX an a1 h
theorem Fin.bC {rs:List ResultVar} {r r':ah} (I:Ok s L) (aE:oq Γ env (aU s L) rs=some r) (hle:aZ r r') (au:aJ L K R) (gi:aeb (.ret r') K):∃ r r' ak,oq Γ env (aU s L) rs=some r∧aZ r r'∧ao.Sub ak (aU s L)∧uS s aeb (.ret r') ak:=by
 obtain ⟨aa,ad⟩:=au.sub I;exact ⟨r,r',_,aE,hle,aa,K,rfl,ad,gi⟩
theorem Fin.cE {rs:List ResultVar} {r v:ah} (I:Ok s L) (aE:oq Γ env (aU s L) rs=some r) (hle:aZ r v):∃ r r' ak,oq Γ env (aU s L) rs=some r∧aZ r r'∧ao.Sub ak (aU s L)∧(eB.ret r' = .ret v∧ak=s):=
 ⟨r,v,s,aE,hle,I.sub,rfl,rfl⟩
theorem Fin.fc {v fy:ah} (I:Ok s L) (hle:aZ v fy) (au:aJ L K R) (gi:aeb (.panic fy) K):∃ fy ak,aZ v fy∧ao.Sub ak (aU s L)∧uS s aeb (.panic fy) ak:=by
 obtain ⟨aa,ad⟩:=au.sub I;exact ⟨fy,_,hle,aa,K,rfl,ad,gi⟩
theorem Env.Sub.append {a b env:Env} (h:Env.Sub a env) (k:Env.Sub b env):Env.Sub (a++b) env:=by
 induction a with
 | nil=>exact k
 | cons x a aW=>exact ⟨h.1,aW h.2⟩
def wN:List Nat→Env→Env→Env×Unit
  | [],_,acc=>(acc,())
  | t::gu,env,acc=>match env.get? t with
    | some v=>wN gu env ((t,v)::acc)
    | none=>wN gu env acc
theorem Al:∀ (gu:List Nat) (acc E:Env),Env.Sub acc env→wN gu env acc=(E,())→Env.Sub E env
  | [],acc,E,h,e=>by cases e;exact h
  | t::gu,acc,E,h,e=>by
    simp only [wN] at e;split at e
    · rename_i v ar;exact Al gu ((t,v)::acc) E ⟨⟨v,ar,aZ.refl _⟩,h⟩ e
    · exact Al gu _ E h e
theorem af.tA {c:Code} (gu:List Nat) {E:Env} (h:wN gu env []=(E,())) (k:af P N c Q E s):af P N c Q env s:=af.sub E (Al gu [] E trivial h) k
theorem ae.tA (gu:List Nat) {E:Env} (h:wN gu env []=(E,())) (k:ae P N ops l Q E s):ae P N ops l Q env s:=ae.sub E (Al gu [] E trivial h) k
def bD {σ:Type} (s:ao) (E:σ→Env) (K:σ→bb) (aeo:σ→Prop) (ok:σ→Prop) (eU:Env) (ak:ao):Prop:=
 ∃ y ou du,aeo y∧ok y∧Env.Sub (E y) eU∧ak=aU s ou∧Ok s ou∧aJ ou (K y) du
theorem af.yp {σ:Type} {c:Code} (I:Ok s L) (E:σ→Env) (K:σ→bb) (aeo:σ→Prop) (μ:σ→Nat) (oc:σ) {Ge:bb} (aw:aeo oc) (e0:Env.Sub (E oc) env) (b8:aJ L (K oc) Ge)
  (round:∀ x,aeo x→Ok s (K x)→af P N c (b3.andThen (bD s E K aeo (fun y=>μ y<μ x)) Q) (E x) (aU s (K x))):af P N (.loop c) Q env (aU s L):=by
 obtain ⟨aa,ad⟩:=b8.sub I;refine af.loop E (fun x=>aU s (K x)) (fun x=>aeo x∧Ok s (K x)) μ oc ⟨aw,ad⟩ e0 aa ?_;rintro x ⟨ab,TH⟩;refine (round x ab TH).mono ?_;intro e eU ak h;cases e with
 | normal=>
  obtain ⟨y,ou,du,g1,g2,g3,rfl,g4,g5⟩:=h;obtain ⟨cu,c2⟩:=g5.sub g4;exact ⟨y,⟨g1,c2⟩,g3,cu,g2⟩
 | exit id=>exact h
 | ret=>exact h
 | panic v=>exact h
theorem bD.mk {σ:Type} {E:σ→Env} {K:σ→bb} {aeo:σ→Prop} {ok:σ→Prop} (y:σ) {du:bb} (I:Ok s L) (aw:aeo y) (e0:Env.Sub (E y) env) (b8:aJ L (K y) du) (hm:ok y):bD s E K aeo ok env (aU s L):=⟨y,L,du,aw,hm,e0,rfl,I,b8⟩
def l3 {σ:Type} (s:ao) (E:σ→Env) (K:σ→bb) (aeo:σ→Prop) (e:b3) (eU:Env) (ak:ao):Prop:=
 e = .normal∧∃ y ou du,aeo y∧Env.Sub (E y) eU∧ak=aU s ou∧Ok s ou∧aJ ou (K y) du
theorem l3.mk {σ:Type} {E:σ→Env} {K:σ→bb} {aeo:σ→Prop} (y:σ) {du:bb} (I:Ok s L) (aw:aeo y) (e0:Env.Sub (E y) env) (b8:aJ L (K y) du):l3 s E K aeo .normal env (aU s L):=⟨rfl,y,L,du,aw,e0,rfl,I,b8⟩
theorem af.yq {σ:Type} {x y:Code} {oW:b3→Env→ao→Prop} (E:σ→Env) (K:σ→bb) (aeo:σ→Prop) (wK:af P N x (l3 s E K aeo) env (aU s L)) (wL:∀ z,aeo z→Ok s (K z)→af P N y Q (E z) (aU s (K z))) :
  af P N x (b3.andThen (af P N y Q) oW) env (aU s L):=by
 refine wK.mono ?_;rintro e eU ak ⟨rfl,z,ou,du,g1,g2,rfl,g3,g4⟩;obtain ⟨cu,c2⟩:=g4.sub g3;exact af.sub _ g2 (af.drop _ cu (wL z g1 c2))
theorem af.TI {σ:Type} {x y:Code} (E:σ→Env) (K:σ→bb) (aeo:σ→Prop) (wK:af P N x (l3 s E K aeo) env (aU s L)) (wL:∀ z,aeo z→Ok s (K z)→af P N y Q (E z) (aU s (K z))):af P N (.seq x y) Q env (aU s L):=
 af.seq (af.yq E K aeo wK wL)
end
section
variable {P:Program} {Γ:cw} {N:Nat} {l:List Oper} {Q:b3→Env→ao→Prop} {env:Env} {s:ao} {m:Nat} {L R:bb}
theorem bf.Dg {i:Nat} {o:Oper} {d:Nat} {f:FuncId} {as:Array Operand} {cZ:Array TypeId} {xs:List ah} {v:ah} (aE:iG l.toArray m i=true) (ai:l.toArray[i]? = some o) (ay:o.dst=some d) (a1:z2 d N=true)
  (aq:c8 l env o) (b1:o.op = .call { callee := .value (.func f),args:=as,argTypes:=cZ }) (aO:fS (b2 l env o) as.toList=some xs) (h:aV P f xs v)
  (k:bf P Γ N l.toArray Q (bX (m|||2^i)) ((d,v)::env) s):bf P Γ N l.toArray Q (bX m) env s:=
 bf.TF aE ai ay a1 aq b1 aO h k
theorem bf.eC (i:Nat) (aR:bR P Γ) (I:Ok s L) {o:Oper} {d:Nat} {t T:TypeId} {x:Operand} {dR:bQ} {b off:Nat} {cs:List ah} {v:ah} (aE:eP l.toArray m (idxs 0 l)=[i]) (ai:l.toArray[i]? = some o) (ay:o.dst=some d)
  (a1:z2 d N=true) (aq:c8 l env o) (b1:o.op = .load t x) (aM:Γ.get? t=some dR) (ab:aN (b2 l env o) x=some (.ptr b off))
  (au:bp L (.own b) (.box T cs) R) (ar:hP dR cs off=some v) (h:bf P Γ N l.toArray Q (bX (m|||2^i)) ((d,v)::env) (aU s L)):bf P Γ N l.toArray Q (bX m) env (aU s L):=
 bf.one aE ai ay a1 aq (a6.eC aR I b1 aM ab au ar (X:=fun _ _=>False)) (fun x ak ⟨aa,ad⟩=>by subst aa;subst ad;exact h) (fun _ _ h=>h.elim)
theorem bf.cX (i:Nat) (aR:bR P Γ) (I:Ok s L) {o:Oper} {t T:TypeId} {x y:Operand} {dR:bQ} {b off:Nat} {cs us:List ah} {v:ah} (aE:eP l.toArray m (idxs 0 l)=[i]) (ai:l.toArray[i]? = some o) (ay:o.dst=none)
  (aq:c8 l env o) (b1:o.op = .store t x y) (aM:Γ.get? t=some dR) (ab:aN (b2 l env o) x=some (.ptr b off)) (ax:aN (b2 l env o) y=some v)
  (ar:cellsOf v=some us) (hu:af2 us.length dR.size=true) (aa:us.all fb=true) (au:bp L (.own b) (.box T cs) R) (fB:ao6 (off+us.length) cs.length=true)
  (h:Ok s ((.own b,.box T (eV off us cs))::R)→bf P Γ N l.toArray Q (bX (m|||2^i)) env (aU s ((.own b,.box T (eV off us cs))::R))):bf P Γ N l.toArray Q (bX m) env (aU s L):=
 bf.yk aE ai ay aq (a6.cX aR I b1 aM ab ax ar hu aa au fB (X:=fun _ _=>False)) (fun x ak ⟨aa,ad⟩=>by subst aa;exact h ad) (fun _ _ h=>h.elim)
theorem bf.dZ (i:Nat) (aR:bR P Γ) (I:Ok s L) {o:Oper} {d:Nat} {t:TypeId} {dR:bQ} {z:ah} {cs:List ah} (aE:eP l.toArray m (idxs 0 l)=[i]) (ai:l.toArray[i]? = some o) (ay:o.dst=some d)
  (a1:z2 d N=true) (aq:c8 l env o) (b1:o.op = .alloc t) (aM:Γ.get? t=some dR) (bG:hF dR.zero=some z) (aD:cellsOf z=some cs)
  (h:∀ b,Ok s ((.own b,.box t cs)::L)→bf P Γ N l.toArray Q (bX (m|||2^i)) ((d,.ptr b 0)::env) (aU s ((.own b,.box t cs)::L))):bf P Γ N l.toArray Q (bX m) env (aU s L):=
 bf.one aE ai ay a1 aq (a6.dZ aR I b1 aM bG aD (X:=fun _ _=>False)) (fun x ak ⟨b,aa,ad,aj⟩=>by subst aa;subst ad;exact h b aj) (fun _ _ h=>h.elim)
theorem bf.ho (i:Nat) (aR:bR P Γ) (I:Ok s L) {o:Oper} {d:Nat} {t bP e:TypeId} {x y:Operand} {it cJ aH:bQ} {eg bZ sz n:Nat} {xs:List ah} {v:ah} {own dD:bV} (aE:eP l.toArray m (idxs 0 l)=[i]) (ai:l.toArray[i]? = some o)
  (ay:o.dst=some d) (a1:z2 d N=true) (aq:c8 l env o) (b1:o.op = .call { callee := .builtin .append,args := #[x,y],argTypes := #[t,bP] }) (aM:Γ.get? t=some it)
  (bw:it.bL = .aG e) (c7:Γ.get? bP=some cJ) (dH:∀ k,cJ.bL ≠ .int k) (bO:Γ.get? e=some aH) (ab:aN (b2 l env o) x=some (.aG eg xs own)) (ax:aN (b2 l env o) y=some (.aG bZ [v] dD)) (hI:eg=aH.size) (dg:bZ=aH.size)
  (ed:af2 aH.zero.cells.size aH.size=true) (dY:lu aH.size v=true) (cc:sz=aH.size) (au:bp L own (.row e sz n) R) (aB:n=xs.length) (an:(n+1)*aH.bytes≤140737488355328) (eA:n+1≤9223372036854775807)
  (h:∀ b,Ok s ((.own b,.row e sz (n+1))::R)→bf P Γ N l.toArray Q (bX (m|||2^i)) ((d,.aG sz (xs++[v]) (.own b))::env) (aU s ((.own b,.row e sz (n+1))::R))):bf P Γ N l.toArray Q (bX m) env (aU s L):=by
 subst aB;refine bf.one aE ai ay a1 aq (a6.qZ aR I b1 aM bw c7 dH bO ab ax hI (.inr dg) ed (by intro y ax;simp at ax;subst ax;exact dY) an eA C (n':=xs.length+1) C cc au (X:=fun _ _=>False)) ?_ (fun _ _ h=>h.elim);rintro r ak ⟨dz,ad,-,rfl,rfl,aj⟩;obtain ⟨b,rfl⟩:=ad bc;exact h b aj
end
section
variable {P:Program} {Γ:cw} {N:Nat} {ops:Array Oper} {Q:b3→Env→ao→Prop} {env:Env} {s:ao} {o:Oper} {d:Nat}
theorem a6.weaken {K X aQ nF:ah→ao→Prop} (h:a6 P N o env s K X) (bk:∀ x ak,K x ak→∃ y eL,aZ x y∧ao.Sub eL ak∧aQ y eL) (iB:∀ x ak,X x ak→∃ eL,ao.Sub eL ak∧nF x eL):a6 P N o env s aQ nF:=by
 refine ⟨h.1,fun ro B a w p aK=>(h.2 ro B a w p aK).mono ?_⟩;rintro e w' ⟨ak,bh,aa,ad,aj,a8⟩;cases e with
 | returned v=>
  obtain ⟨x,aA,aE⟩:=a8;obtain ⟨y,eL,hle,au,eF⟩:=bk x ak aA;exact ⟨eL,bh,aa,ad.sub au,aj.sub au,y,eF,hle _ _ _ aE⟩
 | panicked dx=>
  obtain ⟨v,x,kW,aA,aE⟩:=a8;obtain ⟨eL,au,eF⟩:=iB x ak aA;exact ⟨eL,bh,aa,ad.sub au,aj.sub au,v,x,kW,eF,aE⟩
 | outgrown=>exact a8.elim
theorem a6.q0 (aR:bR P Γ) {t bP e:TypeId} {x y:Operand} {it cJ aH:bQ} {eg bZ:Nat} {xs ys:List ah} {own dD:bV}
  (ai:o.op = .call { callee := .builtin .append,args := #[x,y],argTypes := #[t,bP] }) (aM:Γ.get? t=some it) (bw:it.bL = .aG e) (c7:Γ.get? bP=some cJ) (dH:∀ k,cJ.bL ≠ .int k)
  (bO:Γ.get? e=some aH) (ab:aN env x=some (.aG eg xs own)) (ax:aN env y=some (.aG bZ ys dD)) (hI:xs=[]∨eg=aH.size) (dg:ys=[]∨bZ=aH.size)
  (ed:af2 aH.zero.cells.size aH.size=true) (dY:∀ y∈ys,lu aH.size y=true) (an:(xs.length+ys.length)*aH.bytes≤140737488355328) (eA:xs.length+ys.length≤9223372036854775807)
  (pZ:own = .nil∨own = .clip) {X:ah→ao→Prop}:a6 P N o env s (fun r ak=>r = .aG aH.size (xs++ys) .bd∧ak=s) X:=by
 refine (a6.append aR ai aM bw c7 dH bO ab ax hI dg ed dY an eA (.inl pZ) (X:=X)).weaken ?_ (fun _ ak h=>⟨ak,ao.o1 _,h⟩);rintro r ak (⟨rfl,_,rfl,rfl⟩|⟨s₁,zY,b,aa,rfl,rfl⟩)
 ·exact ⟨_,_,by rw [d9];exact aZ.bd,ao.o1 _,rfl,rfl⟩
 ·rcases zY with rfl|⟨aY,rfl,rfl⟩
  ·exact ⟨_,_,aZ.bd,ao.wc _ _ _ aa,rfl,rfl⟩
  ·rcases pZ with e|e<;>cases e
theorem ae.q0 (aR:bR P Γ) {l:List Oper} {t bP e:TypeId} {x y:Operand} {it cJ aH:bQ} {eg bZ:Nat} {xs ys:List ah} {own dD:bV} (aq:guardOf ops env o=some true) (ay:o.dst=some d) (a1:z2 d N=true)
  (ai:o.op = .call { callee := .builtin .append,args := #[x,y],argTypes := #[t,bP] }) (aM:Γ.get? t=some it) (bw:it.bL = .aG e) (c7:Γ.get? bP=some cJ) (dH:∀ k,cJ.bL ≠ .int k)
  (bO:Γ.get? e=some aH) (ab:aN env x=some (.aG eg xs own)) (ax:aN env y=some (.aG bZ ys dD)) (hI:xs=[]∨eg=aH.size) (dg:ys=[]∨bZ=aH.size)
  (ed:af2 aH.zero.cells.size aH.size=true) (dY:∀ y∈ys,lu aH.size y=true) (an:(xs.length+ys.length)*aH.bytes≤140737488355328) (eA:xs.length+ys.length≤9223372036854775807)
  (pZ:own = .nil∨own = .clip) (h:ae P N ops l Q ((d,.aG aH.size (xs++ys) .bd)::env) s):ae P N ops (o::l) Q env s:=
 ae.op aq ay a1 (a6.q0 aR ai aM bw c7 dH bO ab ax hI dg ed dY an eA pZ (X:=fun _ _=>False)) (fun x ak ⟨aa,ad⟩=>by subst aa;subst ad;exact h) (fun _ _ h=>h.elim)
theorem bf.q0 (i:Nat) (aR:bR P Γ) {l:List Oper} {m:Nat} {t bP e:TypeId} {x y:Operand} {it cJ aH:bQ} {eg bZ:Nat} {xs ys:List ah} {own dD:bV} (aE:iG l.toArray m i=true) (aS:l.toArray[i]? = some o) (ay:o.dst=some d) (a1:z2 d N=true)
  (aq:c8 l env o)
  (ai:o.op = .call { callee := .builtin .append,args := #[x,y],argTypes := #[t,bP] }) (aM:Γ.get? t=some it) (bw:it.bL = .aG e) (c7:Γ.get? bP=some cJ) (dH:∀ k,cJ.bL ≠ .int k)
  (bO:Γ.get? e=some aH) (ab:aN (b2 l env o) x=some (.aG eg xs own)) (ax:aN (b2 l env o) y=some (.aG bZ ys dD)) (hI:xs=[]∨eg=aH.size) (dg:ys=[]∨bZ=aH.size)
  (ed:af2 aH.zero.cells.size aH.size=true) (dY:∀ y∈ys,lu aH.size y=true) (an:(xs.length+ys.length)*aH.bytes≤140737488355328) (eA:xs.length+ys.length≤9223372036854775807)
  (pZ:own = .nil∨own = .clip) (h:bf P Γ N l.toArray Q (bX (m|||2^i)) ((d,.aG aH.size (xs++ys) .bd)::env) s):bf P Γ N l.toArray Q (bX m) env s:=
 bf.calm aE aS ay a1 aq (fun _=>a6.q0 aR ai aM bw c7 dH bO ab ax hI dg ed dY an eA pZ) h
end
def dE:List (Nat×dy)→ao→Prop
 | [],_=>True
 | e::K,s=>s e.1=some e.2∧dE K s
theorem dE.one {b:Nat} {o:dy} {s:ao} (h:s b=some o):dE [(b,o)] s:=⟨h,trivial⟩
theorem dE.two {b aY:Nat} {o o':dy} {s:ao} (h:s b=some o) (eY:s aY=some o'):dE [(b,o),(aY,o')] s:=⟨h,eY,trivial⟩
theorem dE.fst {b:Nat} {o:dy} {K:List (Nat×dy)} {s:ao} (h:dE ((b,o)::K) s):s b=some o:=h.1
theorem dE.snd {e:Nat×dy} {b:Nat} {o:dy} {K:List (Nat×dy)} {s:ao} (h:dE (e::(b,o)::K) s):s b=some o:=h.2.1
section
variable {J:ao→Prop} {P:Program} {Γ:cw} {N:Nat} {l:List Oper} {Q:b3→Env→ao→Prop} {env:Env} {s:ao} {m:Nat} {L R:bb} {o:Oper} {d:Nat}
theorem bq.ov (i:Nat) (aR:bR P Γ) (c9:J s) {t T:TypeId} {x:Operand} {dR:bQ} {b off:Nat} {cs:List ah} {v:ah} (aE:iG l.toArray m i=true) (ai:l.toArray[i]? = some o) (ay:o.dst=some d) (a1:z2 d N=true)
  (aq:c8 l env o) (b1:o.op = .load t x) (aM:Γ.get? t=some dR) (ab:aN (b2 l env o) x=some (.ptr b off)) (au:∀ s,J s→s b=some (.box T cs)) (ar:hP dR cs off=some v)
  (h:bq J P Γ N l.toArray Q (bX (m|||2^i)) ((d,v)::env) s):bq J P Γ N l.toArray Q (bX m) env s:=
 bq.r7 c9 aE ai ay a1 aq (fun s hK=>a6.uH aR b1 aM ab (au s hK) ar) h
theorem bq.q0 (i:Nat) (aR:bR P Γ) (c9:J s) {t bP e:TypeId} {x y:Operand} {it cJ aH:bQ} {eg bZ:Nat} {xs ys:List ah} {own dD:bV} (aE:iG l.toArray m i=true) (aS:l.toArray[i]? = some o) (ay:o.dst=some d) (a1:z2 d N=true)
  (aq:c8 l env o)
  (ai:o.op = .call { callee := .builtin .append,args := #[x,y],argTypes := #[t,bP] }) (aM:Γ.get? t=some it) (bw:it.bL = .aG e) (c7:Γ.get? bP=some cJ) (dH:∀ k,cJ.bL ≠ .int k)
  (bO:Γ.get? e=some aH) (ab:aN (b2 l env o) x=some (.aG eg xs own)) (ax:aN (b2 l env o) y=some (.aG bZ ys dD)) (hI:xs=[]∨eg=aH.size) (dg:ys=[]∨bZ=aH.size)
  (ed:af2 aH.zero.cells.size aH.size=true) (dY:∀ y∈ys,lu aH.size y=true) (an:(xs.length+ys.length)*aH.bytes≤140737488355328) (eA:xs.length+ys.length≤9223372036854775807)
  (pZ:own = .nil∨own = .clip) (h:bq J P Γ N l.toArray Q (bX (m|||2^i)) ((d,.aG aH.size (xs++ys) .bd)::env) s):bq J P Γ N l.toArray Q (bX m) env s:=
 bq.r7 c9 aE aS ay a1 aq (fun _ _=>a6.q0 aR ai aM bw c7 dH bO ab ax hI dg ed dY an eA pZ) h
theorem bq.Dg {i:Nat} (c9:J s) {f:FuncId} {as:Array Operand} {cZ:Array TypeId} {xs:List ah} {v:ah} (aE:iG l.toArray m i=true) (ai:l.toArray[i]? = some o) (ay:o.dst=some d) (a1:z2 d N=true)
  (aq:c8 l env o) (b1:o.op = .call { callee := .value (.func f),args:=as,argTypes:=cZ }) (aO:fS (b2 l env o) as.toList=some xs) (h:aV P f xs v)
  (k:bq J P Γ N l.toArray Q (bX (m|||2^i)) ((d,v)::env) s):bq J P Γ N l.toArray Q (bX m) env s:=
 bq.r7 c9 aE ai ay a1 aq (fun s _=>(a6.call b1 (fv := .func f [] []) rfl aO (hT.fm (R:=fun o ak=>o = .ret v∧ak=s) (by simpa using h s))).mono (fun x ak h=>by cases h.1;exact ⟨rfl,h.2⟩) (fun x ak h=>by cases h.1)) k
theorem bq.cX (i:Nat) (aR:bR P Γ) (I:Ok s L) {t T:TypeId} {x y:Operand} {dR:bQ} {b off:Nat} {cs us:List ah} {v:ah} (aE:eP l.toArray m (idxs 0 l)=[i]) (ai:l.toArray[i]? = some o) (ay:o.dst=none)
  (aq:c8 l env o) (b1:o.op = .store t x y) (aM:Γ.get? t=some dR) (ab:aN (b2 l env o) x=some (.ptr b off)) (ax:aN (b2 l env o) y=some v)
  (ar:cellsOf v=some us) (hu:af2 us.length dR.size=true) (aa:us.all fb=true) (au:bp L (.own b) (.box T cs) R) (fB:ao6 (off+us.length) cs.length=true)
  (aI:Ok s ((.own b,.box T (eV off us cs))::R)→J (aU s ((.own b,.box T (eV off us cs))::R))∨k2 l.toArray i=true)
  (h:Ok s ((.own b,.box T (eV off us cs))::R)→bq J P Γ N l.toArray Q (bX (m|||2^i)) env (aU s ((.own b,.box T (eV off us cs))::R))):bq J P Γ N l.toArray Q (bX m) env (aU s L):=
 bq.yk aE ai ay aq (a6.cX aR I b1 aM ab ax ar hu aa au fB (X:=fun _ _=>False)) (fun x ak ⟨aa,ad⟩=>by subst aa;exact aI ad) (fun x ak ⟨aa,ad⟩=>by subst aa;exact h ad) (fun _ _ h=>h.elim)
theorem bq.dZ (i:Nat) (aR:bR P Γ) (I:Ok s L) {t:TypeId} {dR:bQ} {z:ah} {cs:List ah} (aE:eP l.toArray m (idxs 0 l)=[i]) (ai:l.toArray[i]? = some o) (ay:o.dst=some d)
  (a1:z2 d N=true) (aq:c8 l env o) (b1:o.op = .alloc t) (aM:Γ.get? t=some dR) (bG:hF dR.zero=some z) (aD:cellsOf z=some cs)
  (aI:∀ b,Ok s ((.own b,.box t cs)::L)→J (aU s ((.own b,.box t cs)::L))∨k2 l.toArray i=true)
  (h:∀ b,Ok s ((.own b,.box t cs)::L)→bq J P Γ N l.toArray Q (bX (m|||2^i)) ((d,.ptr b 0)::env) (aU s ((.own b,.box t cs)::L))):bq J P Γ N l.toArray Q (bX m) env (aU s L):=
 bq.one aE ai ay a1 aq (a6.dZ aR I b1 aM bG aD (X:=fun _ _=>False)) (fun x ak ⟨b,aa,ad,aj⟩=>by subst aa;subst ad;exact aI b aj) (fun x ak ⟨b,aa,ad,aj⟩=>by subst aa;subst ad;exact h b aj) (fun _ _ h=>h.elim)
theorem bq.qZ (i:Nat) (aR:bR P Γ) (I:Ok s L) {t bP e:TypeId} {x y:Operand} {it cJ aH:bQ} {eg bZ sz n n':Nat} {xs ys:List ah} {own dD:bV} (aE:eP l.toArray m (idxs 0 l)=[i]) (ai:l.toArray[i]? = some o)
  (ay:o.dst=some d) (a1:z2 d N=true) (aq:c8 l env o) (b1:o.op = .call { callee := .builtin .append,args := #[x,y],argTypes := #[t,bP] }) (aM:Γ.get? t=some it)
  (bw:it.bL = .aG e) (c7:Γ.get? bP=some cJ) (dH:∀ k,cJ.bL ≠ .int k) (bO:Γ.get? e=some aH) (ab:aN (b2 l env o) x=some (.aG eg xs own)) (ax:aN (b2 l env o) y=some (.aG bZ ys dD)) (hI:eg=aH.size) (dg:ys=[]∨bZ=aH.size)
  (ed:af2 aH.zero.cells.size aH.size=true) (dY:∀ y∈ys,lu aH.size y=true) (cc:sz=aH.size) (au:bp L own (.row e sz n) R) (aB:n=xs.length) (gL:n'=xs.length+ys.length) (an:(xs.length+ys.length)*aH.bytes≤140737488355328) (eA:xs.length+ys.length≤9223372036854775807)
  (aI:∀ dz,Ok s ((dz,.row e sz n')::R)→J (aU s ((dz,.row e sz n')::R))∨k2 l.toArray i=true)
  (h:∀ dz,Ok s ((dz,.row e sz n')::R)→bq J P Γ N l.toArray Q (bX (m|||2^i)) ((d,.aG sz (xs++ys) dz)::env) (aU s ((dz,.row e sz n')::R))):bq J P Γ N l.toArray Q (bX m) env (aU s L):=by
 refine bq.one aE ai ay a1 aq (a6.qZ aR I b1 aM bw c7 dH bO ab ax hI dg ed dY an eA aB gL cc au (X:=fun _ _=>False)) ?_ ?_ (fun _ _ h=>h.elim)
 ·rintro r ak ⟨dz,-,-,rfl,rfl,aj⟩
  exact aI dz aj
 ·rintro r ak ⟨dz,-,-,rfl,rfl,aj⟩
  exact h dz aj
theorem bq.ho (i:Nat) (aR:bR P Γ) (I:Ok s L) {t bP e:TypeId} {x y:Operand} {it cJ aH:bQ} {eg bZ sz n:Nat} {xs:List ah} {v:ah} {own dD:bV} (aE:eP l.toArray m (idxs 0 l)=[i]) (ai:l.toArray[i]? = some o)
  (ay:o.dst=some d) (a1:z2 d N=true) (aq:c8 l env o) (b1:o.op = .call { callee := .builtin .append,args := #[x,y],argTypes := #[t,bP] }) (aM:Γ.get? t=some it)
  (bw:it.bL = .aG e) (c7:Γ.get? bP=some cJ) (dH:∀ k,cJ.bL ≠ .int k) (bO:Γ.get? e=some aH) (ab:aN (b2 l env o) x=some (.aG eg xs own)) (ax:aN (b2 l env o) y=some (.aG bZ [v] dD)) (hI:eg=aH.size) (dg:bZ=aH.size)
  (ed:af2 aH.zero.cells.size aH.size=true) (dY:lu aH.size v=true) (cc:sz=aH.size) (au:bp L own (.row e sz n) R) (aB:n=xs.length) (an:(n+1)*aH.bytes≤140737488355328) (eA:n+1≤9223372036854775807)
  (aI:∀ dz,Ok s ((dz,.row e sz (n+1))::R)→J (aU s ((dz,.row e sz (n+1))::R))∨k2 l.toArray i=true)
  (h:∀ dz,Ok s ((dz,.row e sz (n+1))::R)→bq J P Γ N l.toArray Q (bX (m|||2^i)) ((d,.aG sz (xs++[v]) dz)::env) (aU s ((dz,.row e sz (n+1))::R))):bq J P Γ N l.toArray Q (bX m) env (aU s L):=by
 subst aB;exact bq.qZ i aR I aE ai ay a1 aq b1 aM bw c7 dH bO ab ax hI (.inr dg) ed (by intro y ax;simp at ax;subst ax;exact dY) cc au C C an eA aI h
theorem bq.b4 {aeb:eB→bb→Prop} {K:bb} {i:Nat} {f:FuncId} {as:Array Operand} {cZ:Array TypeId} {xs:List ah} (aE:eP l.toArray m (idxs 0 l)=[i]) (ai:l.toArray[i]? = some o) (ay:o.dst=some d) (a1:z2 d N=true)
  (aq:c8 l env o) (b1:o.op = .call { callee := .value (.func f),args:=as,argTypes:=cZ }) (aO:fS (b2 l env o) as.toList=some xs) (h:bI P f xs K aeb) (I:Ok s L) (au:aJ L K R)
  (aI:∀ x aQ,aeb (.ret x) aQ→Ok s (aQ++R)→J (aU s (aQ++R))∨k2 l.toArray i=true)
  (aA:∀ x aQ,aeb (.ret x) aQ→Ok s (aQ++R)→bq J P Γ N l.toArray Q (bX (m|||2^i)) ((d,x)::env) (aU s (aQ++R))) (ab:∀ x aQ,aeb (.panic x) aQ→Ok s (aQ++R)→Q (.panic x) [] (aU s (aQ++R))):bq J P Γ N l.toArray Q (bX m) env (aU s L):=
 bq.one aE ai ay a1 aq (a6.b4 b1 aO h I au) (fun x ak ⟨aQ,aa,ad,aj⟩=>by subst aa;exact aI x aQ aj ad) (fun x ak ⟨aQ,aa,ad,aj⟩=>by subst aa;exact aA x aQ aj ad) (fun x ak ⟨aQ,aa,ad,aj⟩=>by subst aa;exact ab x aQ aj ad)
theorem bq.gM {aeb:eB→bb→Prop} {K:bb} {i:Nat} {g:Operand} {fv:ah} {as:Array Operand} {cZ:Array TypeId} {xs:List ah} (aE:eP l.toArray m (idxs 0 l)=[i]) (ai:l.toArray[i]? = some o) (ay:o.dst=some d) (a1:z2 d N=true)
  (aq:c8 l env o) (b1:o.op = .call { callee := .value g,args:=as,argTypes:=cZ }) (ar:aN (b2 l env o) g=some fv) (aO:fS (b2 l env o) as.toList=some xs) (h:ds P fv xs K aeb) (I:Ok s L) (au:aJ L K R)
  (aI:∀ x aQ,aeb (.ret x) aQ→Ok s (aQ++R)→J (aU s (aQ++R))∨k2 l.toArray i=true)
  (aA:∀ x aQ,aeb (.ret x) aQ→Ok s (aQ++R)→bq J P Γ N l.toArray Q (bX (m|||2^i)) ((d,x)::env) (aU s (aQ++R))) (ab:∀ x aQ,aeb (.panic x) aQ→Ok s (aQ++R)→Q (.panic x) [] (aU s (aQ++R))):bq J P Γ N l.toArray Q (bX m) env (aU s L):=
 bq.one aE ai ay a1 aq (a6.gM b1 ar aO h I au) (fun x ak ⟨aQ,aa,ad,aj⟩=>by subst aa;exact aI x aQ aj ad) (fun x ak ⟨aQ,aa,ad,aj⟩=>by subst aa;exact aA x aQ aj ad) (fun x ak ⟨aQ,aa,ad,aj⟩=>by subst aa;exact ab x aQ aj ad)
end
section
variable {J:ao→Prop} {P:Program} {Γ:cw} {N:Nat} {ops:Array Oper} {Q:b3→Env→ao→Prop} {env:Env} {s:ao} {o:Oper} {d m:Nat} {L:bb} {l:List Oper}
end
end Go.Proofs.YtnafpeohfbglmaaGreat
