import Derived.KernelRfl
import Derived.Test.YtnafpeohfbglmaaGreatRa
import Derived.Laws.IdiomRangeMap
set_option linter.unusedVariables false
set_option linter.unusedSimpArgs false
open Array renaming getElem?_eq_some_iff→i9,getElem?_setIfInBounds→ae3
open Bool renaming and_eq_true→f7
open Go.IntKind renaming wrap→H1
open List renaming append_nil→d7,cons_append→ab',map_cons→ac4,mem_cons_self→i7,mem_cons→ad1,mem_range'_1→an9
open Nat renaming beq_refl→aq',beq→ac',ble→al5,blt_eq→ak8,blt→t6,eq_of_beq_eq_true→ac1,zero_le→g7
open Go.Result renaming andThen_ok→g9
open Go.Sem renaming runT_eq→ar9,run_bind→aa',run_pure→ac5
theorem CB {p:Prop} (h:p:=by simpa [Nat.blt_eq] using aW):p:=h
theorem jf {p:Prop} (h:p:=by simp [gJ,ah]):p:=h
namespace Go.cW
def CC:dG→Bool
 | .ll _ _ _ _=>false
 | _=>true
theorem JY {w w':World} {p bk:bT} {b:Nat} {o:dG} (aZ:CC o=true) (h:ql w p b o) (hle:de w p w' bk) (cP:w'.heap[b]? = w.heap[b]?) (aE:∀ x,bk b x→p b x):ql w' bk b o:=by
 cases o with
 | box t c=>obtain ⟨us,g1,g2,g3⟩:=h;exact ⟨us,cP.trans g1,g2.mono hle,fun o ah=>g3 o (aE o ah)⟩
 | row t sz n=>obtain ⟨cur,g1,g2,g3,g4⟩:=h;exact ⟨cur,cP.trans g1,g2,g3,fun o=>⟨fun ah=>(g4 o).1 (aE o ah),fun ah=>hle.lk _ _ ((g4 o).2 ah)⟩⟩
 | map es=>obtain ⟨cM,c,g1,g2,g3⟩:=h;exact ⟨cM,c,cP.trans g1,⟨g2.1.mono hle,g2.2.mono hle⟩,g3⟩
 | ll es it l c=>cases aZ
 | tick m=>obtain ⟨di,a2,a3,g1⟩:=h;exact ⟨di,a2,a3,cP.trans g1⟩
 | loop r env=>exact ⟨cP.trans h.1,fun t v av=>(h.2 t v av).mono hle⟩
theorem CD {s al:ao} {w w':World} {p bk:bT} {b:Nat} {o:dG} (aq:s b=none) (aZ:CC o=true) (cd:dq w p (s.set b o)) (hle:de w p w' bk) (aD:Kept s al w p w' bk) (k0:dq w' bk al) :
  al b=none∧Kept (s.set b o) (al.set b o) w p w' bk∧dq w' bk (al.set b o):=by
 have ah:=cd.obj b o (ao.gu _ _ _);have ar:=ah.lt;have az:=aD.kV b ar aq;refine ⟨az,⟨fun aX dO au=>?_,fun aX dO au=>?_,fun aX x dO au ab=>?_⟩,⟨fun aX o' dO=>?_,k0.lt⟩⟩
 ·obtain ⟨U,ae⟩:=ao.uk au;exact aD.heap aX dO ae
 ·obtain ⟨U,ae⟩:=ao.uk au;rw [ao.fA _ _ U];exact aD.kV aX dO ae
 ·obtain ⟨U,ae⟩:=ao.uk au;exact aD.lk aX x dO ae ab
 ·by_cases e:aX=b
  ·subst e
   rw [ao.gu] at dO;cases dO;exact JY aZ ah hle (aD.heap aX ar aq) (fun x ab=>aD.lk aX x ar aq ab)
  ·rw [ao.fA _ _ e] at dO;exact k0.obj aX o' dO
theorem hT.frame {P:Program} {fv:af} {args:List af} {s:ao} {R:eB→ao→Prop} (b:Nat) (o:dG) (aq:s b=none) (aZ:CC o=true) (h:hT P fv args s R) :
  hT P fv args (s.set b o) (fun out al=>∃ s₁,s₁ b=none∧al=s₁.set b o∧R out s₁):=by
 intro w p v vs cd av eL;refine (h w p v vs (cd.sub (ao.vL s b o aq)) av eL).mono ?_;rintro e w' ⟨out,al,bk,U,ae,an,bd,bD⟩;obtain ⟨cA,db,fe⟩:=CD aq aZ cd an bd bD;exact ⟨out,al.set b o,bk,U,⟨al,cA,rfl,ae⟩,an,db,fe⟩
theorem hi.frame {P:Program} {f:FuncId} {args:List af} {s:ao} {R:eB→ao→Prop} (b:Nat) (o:dG) (aq:s b=none) (aZ:CC o=true) (h:hi P f args s R) :
  hi P f args (s.set b o) (fun out al=>∃ s₁,s₁ b=none∧al=s₁.set b o∧R out s₁):=by
 refine ⟨h.1,fun w p vs cd eL=>?_⟩;refine (h.2 w p vs (cd.sub (ao.vL s b o aq)) eL).mono ?_;rintro e w' ⟨out,al,bk,U,ae,an,bd,bD⟩;obtain ⟨cA,db,fe⟩:=CD aq aZ cd an bd bD;exact ⟨out,al.set b o,bk,U,⟨al,cA,rfl,ae⟩,an,db,fe⟩
theorem hT.drop {P:Program} {fv:af} {args:List af} {s al:ao} {R:eB→ao→Prop} (au:ao.Sub al s) (h:hT P fv args al R):hT P fv args s R:=by
 intro w p v vs cd av eL;refine (h w p v vs (cd.sub au) av eL).mono ?_;rintro e w' ⟨out,eK,bk,U,ae,an,bd,bD⟩;exact ⟨out,eK,bk,U,ae,an,bd.xM au,bD⟩
theorem hi.drop {P:Program} {f:FuncId} {args:List af} {s al:ao} {R:eB→ao→Prop} (au:ao.Sub al s) (h:hi P f args al R):hi P f args s R:=by
 refine ⟨h.1,fun w p vs cd eL=>(h.2 w p vs (cd.sub au) eL).mono ?_⟩;rintro e w' ⟨out,eK,bk,U,ae,an,bd,bD⟩;exact ⟨out,eK,bk,U,ae,an,bd.xM au,bD⟩
def lR (l:Nat):af := .hB (.func (.yield l) #[] #[])
def zQ:List Tmp→List af→Env→Env
 | t::gv,v::vs,env=>zQ gv vs ((t,v)::env)
 | _,_,env=>env
theorem RU {N:Nat} {B:fP} {ro:Option Nat} {s:ao} {w:World} {p:bT} {cc:List Deferred}:∀ (gv:List Tmp) (us:List Value) (vs:List af) (env:Env) (tmps:Array Value),
  gv.length=us.length→bF w p us vs→(∀ t∈gv,t<N)→dz N B ro env s { tmps:=tmps,defers:=cc } w p →
  dz N B ro (zQ gv vs env) s { tmps:=(gv.zip us).foldl (fun tmps (t,a)=>tmps.setIfInBounds t a) tmps,defers:=cc } w p:=by
 intro gv
 induction gv with
 | nil=>intro us vs env tmps aB aF _ aI;exact aI
 | cons t gv a6=>
  intro us vs env tmps aB aF aW aI;cases us with
  | nil=>simp at aB
  | cons u us=>
   cases aF with
   | cons _ v _ vs hu aN=>
   simp only [zQ,List.zip_cons_cons,List.foldl_cons];exact a6 us vs _ _ (by simpa using aB) aN (fun bH cZ=>aW bH (List.mem_cons_of_mem _ cZ)) (aI.put (aW t (i7 ..)) hu)
section
variable {P:Program} {Γ:cz} {N:Nat} {Q:b8→Env→ao→Prop} {env:Env} {s:ao}
def busy (r:Loop):Loop:={ r with state := .busy }
def qE (r:Loop) (j:Code):Loop:={ r with state := .done,pending:=some j }
theorem Fo {w:World} {p:bT} {s:ao} (cd:dq w p s) {l:Nat} {r r':Loop} {env:Env} (au:s l=some (.loop r env)) (aN:r'.tmps=r.tmps) (w':World) (iO:w'={ w with heap:=w.heap.setIfInBounds l (.loop r') }) :
  de w p w' p∧Kept s (s.set l (.loop r' env)) w p w' p∧dq w' p (s.set l (.loop r' env)):=by
 subst iO;have U:w.heap[l]? = some (.loop r):=(cd.obj _ _ au).1;have ae:=(cd.obj _ _ au).2;have ar:l<w.heap.size:=(i9.1 U).1;have oP:(w.heap.setIfInBounds l (.loop r'))[l]? = some (.loop r'):=by simp [ae3,ar]
 have hZ:∀ k,k≠l→(w.heap.setIfInBounds l (.loop r'))[k]? = w.heap[k]? := fun k aD=>by
  rw [ae3,d9 (fun e=>aD e.symm)]
 have hle:de w p { w with heap:=w.heap.setIfInBounds l (.loop r') } p:=by
  refine ⟨rfl,rfl,rfl,by simp,fun _ _ h=>h,fun b o aE=>?_,fun b x ab=>?_⟩
  ·by_cases e:b=l
   ·subst e;simp only [World.cell?,U,oP]
   ·exact xO (hZ b e)
  ·by_cases e:b=l
   ·subst e;simp [World.kU,U] at ab
   ·rw [xN (hZ b e)];exact ab
 refine ⟨hle,⟨fun b aq az=>hZ b (fun e=>by rw [e,au] at az;simp at az),fun b aq az=>?_,fun _ _ _ _ h=>h⟩,⟨fun b o aq=>?_,fun b o aE=>by simpa using cd.lt b o aE⟩⟩
 ·rw [ao.fA]
  ·exact az
  ·intro e;rw [e,au] at az;simp at az
 ·by_cases e:b=l
  ·subst e
   rw [ao.gu] at aq;cases aq;exact ⟨oP,fun t v av=>by rw [aN];exact (ae t v av).mono hle⟩
  ·rw [ao.fA _ _ e] at aq
   have ah:=cd.obj b o aq;cases o with
   | ll es it lv c=>exact ah.qm hle (hZ b e) (hZ it (ah.zm U ba))
   | _=>exact JY C ah hle (hZ b e) (fun _ h=>h)
def CE (Rn:ao→Prop) (Rj:Code→ao→Prop) (Rp:af→ao→Prop):b8→Env→ao→Prop
 | .normal,_,s=>Rn s
 | .ret,_,s=>Rj .ret s
 | .exit id,_,s=>Rj (.exit id) s
 | .panic v,_,s=>Rp v s
theorem zR {w:World} {l:Nat} {r:Loop} (h:w.heap[l]? = some (.loop r)):(Instr.getLoop l).run P w = .ok r w:=by
 unfold Instr.getLoop;simp only [aa',xT h C,g9,ac5]
theorem Fp {w:World} {r:Nat} {o o':Obj} (h:w.heap[r]? = some o) (aA:Cl o=true):(setObj r o').run P w = .ok () { w with heap:=w.heap.setIfInBounds r o' }:=by
 cases o<;>first|(simp [Cl] at aA;done)|simp [setObj,Sem.run,h]
theorem RV {l:Nat} {r:Loop} {fn:Func} {a:Act} (eZ:P.funcs[r.fn]? = some fn) (RW:r.state = .ready)
  {args:List af} {s₁:ao} {Rn:ao→Prop} {Rj:Code→ao→Prop} {Rp:af→ao→Prop}
  (aF:s₁ l=some (.loop r env)) (x2:args.length=r.params.size) (ca:r.tmps.size=N) (RX:∀ t∈r.params.toList,t<N)
  (sM:ad P N r.assign (b8.andThen (ad P N r.body (CE Rn Rj Rp)) (fun _ _ _=>False)) (zQ r.params.toList args env) (s₁.del l))
  (w:World) (p:bT) (vs:List Value) (cd:dq w p s₁) (eL:bF w p vs args) :
  pv P ((do let d ← Deferred.ofValue (.func (.yield l) #[] #[]) vs.toArray;invoke d.target d.args:Sem Next).run P w)
   (vU s₁ w p fun o al=>(o = .ret (.bool true)∧∃ dN,dN l=none∧al=dN.set l (.loop { busy r with state := .ready,pending:=none } env)∧Rn dN) ∨
    (o = .ret (.bool false)∧∃ j dN,dN l=none∧al=dN.set l (.loop (qE r j) env)∧Rj j dN) ∨
    (∃ v dN,o = .panic v∧dN l=none∧al=dN.set l (.loop (busy r) env)∧Rp v dN)):=by
 have U:w.heap[l]? = some (.loop r):=(cd.obj _ _ aF).1;have Ct:=(cd.obj _ _ aF).2;have ar:l<w.heap.size:=(i9.1 U).1;have cN:(do let d ← Deferred.ofValue (.func (.yield l) #[] #[]) vs.toArray;invoke d.target d.args:Sem Next).run P w =
   .ok (.round l r.fn ((r.params.zip vs.toArray).foldl (fun tmps (t,a)=>tmps.setIfInBounds t a) r.tmps) r.assign r.body) w:=by
  have aB:vs.length=r.params.size:=by rw [eL.length,x2]
  simp only [Deferred.ofValue,aa',ac5,g9,invoke,Instr.yield,zR U];simp [aB]
 rw [cN];have hN:ao.Sub (s₁.del l) s₁:=fun b=>by
  by_cases e:b=l
  ·subst e;exact .inr (ao.nr _ _)
  ·exact .inl (ao.mN _ e)
 have JZ:s₁=(s₁.del l).set l (.loop r env):=by
  funext b;by_cases e:b=l
  ·subst e;rw [ao.gu];exact aF
  ·rw [ao.fA _ _ e,ao.mN _ e]
 have RY:((r.params.zip vs.toArray).foldl (fun tmps (t,a)=>tmps.setIfInBounds t a) r.tmps)=(r.params.toList.zip vs).foldl (fun tmps (t,a)=>tmps.setIfInBounds t a) r.tmps:=by
  rw [← Array.foldl_toList];simp
 have CF:s₁.del l l=none:=ao.nr _ _;have Fq:dz N (0,[]) (some l) env (s₁.del l) { tmps:=r.tmps,defers:=[] } w p:=
  ⟨ca,Ct,cd.sub hN,⟨[],rfl,by simp,by simp⟩,fun lv pJ=>by cases pJ;exact ⟨rfl,⟨r,U⟩,CF⟩,g7 _⟩
 have aI:=RU r.params.toList vs args env r.tmps (by rw [eL.length,x2,Array.length_toList]) eL RX Fq;rw [RY];refine Qk eZ fun b h7 kF=>?_
 rw [← h7] at aI;refine mc (sM b (0,[]) _ w p (by rw [kF,eZ];rfl) aI) ?_;rintro EM iM w₁ ⟨B0,oK,dN,p₁,RZ,CG,ln,CH,Fs⟩;cases RZ with
 | exit id=>exact CG.elim
 | ret=>exact CG.elim
 | panic v x dF kW av=>exact CG.elim
 | normal=>
 have lN:w₁.heap[l]? = some (.loop r):=(Fs.heap l ar CF).trans U;have ta:dN l=none:=Fs.kV l ar CF;have R0:(Instr.beginRound l).run P w₁ = .ok () { w₁ with heap:=w₁.heap.setIfInBounds l (.loop (busy r)) }:=by
  unfold Instr.beginRound;simp only [aa',zR lN,g9,Fp lN C,RW];rfl
 refine ⟨_,R0,?_⟩;obtain ⟨f1,f2,f3⟩:=CD (s:=s₁.del l) (b:=l) (o := .loop r env) CF rfl (by rw [← JZ];exact cd) CH Fs ln.wf;obtain ⟨g1,g2,g3⟩:=Fo (r':=busy r) f3 (ao.gu _ _ _) rfl _ rfl;rw [ao.set_set] at g2 g3;have lx:({ w₁ with heap:=w₁.heap.setIfInBounds l (.loop (busy r)) }:World).heap[l]? = some (.loop (busy r)):=(g3.obj _ _ (ao.gu _ _ _)).1;have zS:dq { w₁ with heap:=w₁.heap.setIfInBounds l (.loop (busy r)) } p₁ dN:=g3.sub (ao.vL _ _ _ ta);have wj:dz N (0,[]) b.roundOf oK dN iM { w₁ with heap:=w₁.heap.setIfInBounds l (.loop (busy r)) } p₁:=by
  refine ⟨ln.size,fun t v av=>(ln.env t v av).mono g1,zS,?_,fun lv pJ=>?_,g7 _⟩
  ·obtain ⟨ax,-,-⟩:=ln.round l h7
   exact ⟨[],by simpa [marksOf] using ax,by simp,by simp⟩
  ·rw [h7] at pJ;cases pJ
   exact ⟨(ln.round l h7).1,⟨_,lx⟩,ta⟩
 refine mc (CG b (0,[]) iM _ p₁ (by rw [kF,eZ];rfl) wj) ?_;rintro e₃ a₃ iN ⟨x₃,abz,uy,tb,R1,CI,J0,J1,Ft⟩;have cC:l<({ w₁ with heap:=w₁.heap.setIfInBounds l (.loop (busy r)) }:World).heap.size:=(i9.1 lx).1;have mU:iN.heap[l]? = some (.loop (busy r)):=(Ft.heap l cC ta).trans lx;have uz:uy l=none:=Ft.kV l cC ta;obtain ⟨cA,db,fe⟩:=CD (b:=l) (o := .loop (busy r) env) ta rfl g3 J1 Ft J0.wf;have Fu:de w p iN tb:=(CH.trans g1).trans J1;have J2:Kept s₁ (uy.set l (.loop (busy r) env)) w p iN tb:=by
  have cb:Kept s₁ (dN.set l (.loop r env)) w p w₁ p₁:=by rw [JZ];exact f2
  exact (cb.trans CH.size g2).trans (CH.trans g1).size db
 have fin:∀ (jump:Option Code),∃ lK,(Instr.endRound l jump).run P iN = .ok (.bool jump.isNone) lK ∧
   de w p lK tb∧Kept s₁ (uy.set l (.loop { busy r with state:=if jump.isNone then .ready else .done,pending:=jump } env)) w p lK tb∧dq lK tb (uy.set l (.loop { busy r with state:=if jump.isNone then .ready else .done,pending:=jump } env)):=by
  intro jump;obtain ⟨ek,dj,dT⟩:=Fo (r':={ busy r with state:=if jump.isNone then .ready else .done,pending:=jump }) fe (ao.gu _ _ _) rfl _ rfl;rw [ao.set_set] at dj dT;refine ⟨_,?_,Fu.trans ek,J2.trans Fu.size dj,dT⟩;unfold Instr.endRound;simp only [aa',zR mU,g9,Fp mU C,ac5]
 cases R1 with
 | normal=>
  obtain ⟨lK,fs,gD,hs,jc⟩:=fin none;exact ⟨_,lK,fs,.ret (.bool true),_,tb,.bool _,.inl ⟨rfl,uy,uz,rfl,CI⟩,gD,hs,jc⟩
 | ret=>
  obtain ⟨lK,fs,gD,hs,jc⟩:=fin (some .ret);exact ⟨_,lK,fs,.ret (.bool false),_,tb,.bool _,.inr (.inl ⟨rfl,.ret,uy,uz,rfl,CI⟩),gD,hs,jc⟩
 | exit id=>
  obtain ⟨lK,fs,gD,hs,jc⟩:=fin (some (.exit id));exact ⟨_,lK,fs,.ret (.bool false),_,tb,.bool _,.inr (.inl ⟨rfl,.exit id,uy,uz,rfl,CI⟩),gD,hs,jc⟩
 | panic v x dF kW av=>
  refine ⟨(J0.round l h7).1,.panic x,_,tb,⟨v,kW,av⟩,.inr (.inr ⟨x,uy,rfl,uz,rfl,CI⟩),Fu,J2,fe⟩
end
section
variable {P:Program} {Γ:cz} {N:Nat} {Q:b8→Env→ao→Prop} {env:Env} {s:ao}
theorem R2 (b:Frame) (a:Act) (k:List Item) (l:Nat) (v:Value):(b.atR a (.inRangeFunc l::k)).finish v=b.atR a (.endRangeFunc l::k):=by
 simp [Frame.finish,Frame.atR]
theorem J3 {b:Frame} {a:Act} {k:List Item} {cs:List Frame} {w w':World} {l:Nat} {jump:Option Code} (h:(Instr.endLoop l).run P w = .ok jump w') :
  step P (lone (b.atR a (.endRangeFunc l::k)) cs w) = .next (lone (b.atR a ((jump.map Item.code).toList++k)) cs w'):=
 step_lone_go (by simp [stepG,stepG.exec,Frame.atR,ar9,h,GStep.bare_after])
def Fv (g:Operand) (l:Nat):Call:={ callee := .value g,args := #[.const (.func (.yield l) #[] #[])],argTypes := #[] }
theorem R3 {b:Frame} {a:Act} {k:List Item} {cs:List Frame} {w:World} {g:Operand} {ps:Array Tmp} {hf body:Code} {l:Nat} {mark:List Deferred} {w₁ hM:World} {f:FuncId} {args:Array Value}
  (he:(Instr.enterLoop b.fn a.tmps ps hf body b.roundOf).run P w = .ok (l,mark) w₁)
  (hinv:(do let d ← resolve a.eval (Fv g l) 0;invoke d.target d.args:Sem Next).run P w₁ = .ok (.enter f args) hM) :
  step P (lone (b.atR a (.code (.rangeFunc g ps hf body)::k)) cs w) =
   .next (lone (Frame.enter P f args .normal) (b.atR { a with defers:=mark++a.defers } (.inRangeFunc l::k)::cs) hM):=
 step_lone_go (by
  have pG:=Frame.eval_atR b { a with defers:=mark++a.defers } (.inRangeFunc l::k)
  simp only [Frame.atR] at pG
  have R4:(do let d ← resolve ({ tmps:=a.tmps,defers:=mark++a.defers }:Act).eval { callee := .value g,args := #[.const (.func (.yield l) #[] #[])],argTypes := #[] } 0;invoke d.target d.args:Sem Next).run P w₁ = .ok (.enter f args) hM:=hinv
  simp only [stepG,stepG.exec,Frame.atR,ar9,he,GStep.bare_after,stepG.apply,pG,R4,if_true,GStep.bare_go])
def R5 (l:Nat) (r:Loop) (env:Env) (Rn:ao→Prop) (Rj:Code→ao→Prop) (Rp:af→ao→Prop) (o:eB) (al:ao):Prop:=
 (o = .ret (.bool true)∧∃ dN,dN l=none∧al=dN.set l (.loop r env)∧Rn dN) ∨
 (o = .ret (.bool false)∧∃ j dN,dN l=none∧al=dN.set l (.loop (qE r j) env)∧Rj j dN) ∨
 (∃ v dN,o = .panic v∧dN l=none∧al=dN.set l (.loop (busy r) env)∧Rp v dN)
def R6 (P:Program) (N:Nat) (Q:b8→Env→ao→Prop) (env:Env) (l:Nat) (r:Loop) (o:eB) (al:ao):Prop:=
 match o with
 | .ret _=>(∃ dN,dN l=none∧al=dN.set l (.loop r env)∧Q .normal env dN)∨(∃ j dN,dN l=none∧al=dN.set l (.loop (qE r j) env)∧ad P N j Q env dN)
 | .panic v=>∃ dN o',dN l=none∧al=dN.set l o'∧Q (.panic v) env dN
theorem ad.J4 {g:Operand} {ps:Array Tmp} {hf body:Code} {f:FuncId} {first cap:List af} (aw:aL env g=some (.func f first cap)) (aW:∀ t∈ps.toList,t<N)
    (h:∀ (l:Nat) (r:Loop),s l=none →
      (∀ args s₁ Rn Rj Rp,s₁ l=some (.loop r env)→args.length=ps.size →
        ad P N hf (b8.andThen (ad P N body (CE Rn Rj Rp)) (fun _ _ _=>False)) (zQ ps.toList args env) (s₁.del l) →
        hT P (lR l) args s₁ (R5 l r env Rn Rj Rp)) →
      hi P f (first++([lR l]++cap)) (s.set l (.loop r env)) (R6 P N Q env l r)):ad P N (.rangeFunc g ps hf body) Q env s:=by
  intro b B a w p eZ aI k cs;obtain ⟨fn,R7⟩:=Option.isSome_iff_exists.1 eZ;have R8:∃ (l D:Nat) (mark:List Deferred) (w₁:World),(Instr.enterLoop b.fn a.tmps ps hf body b.roundOf).run P w = .ok (l,mark) w₁ ∧
      w₁.heap[l]? = some (.loop { state := .ready,pending:=none,fn:=b.fn,tmps:=a.tmps,params:=ps,assign:=hf,body,defers:=D })∧w.heap.size≤l∧l<w₁.heap.size ∧
      (∀ x,x<w.heap.size→w₁.heap[x]? = w.heap[x]?)∧w₁.os=w.os∧w₁.tape=w.tape∧w₁.output=w.output∧w.heap.size≤w₁.heap.size ∧
      ((mark=[]∧b.roundOf≠none)∨(b.roundOf=none∧mark=marksOf [w.heap.size]∧w₁.heap[w.heap.size]? = some (.deferred (some []))∧l≠w.heap.size)):=by
    cases uA:b.roundOf with
    | none=>
      refine ⟨w.heap.size+1,w.heap.size,_,(w.alloc (.deferred (some []))).alloc (.loop { state := .ready,pending:=none,fn:=b.fn,tmps:=a.tmps,params:=ps,assign:=hf,body,defers:=w.heap.size }),?_,?_,by omega,by simp,?_,rfl,rfl,rfl,by simp;omega,.inr ⟨rfl,rfl,?_,by omega⟩⟩
      · unfold Instr.enterLoop
        simp [World.alloc_eq,marksOf]
      · have:=ue (w.alloc (.deferred (some []))) (.loop { state := .ready,pending:=none,fn:=b.fn,tmps:=a.tmps,params:=ps,assign:=hf,body,defers:=w.heap.size })
        simpa using this
      · intro x ab;rw [mg _ _ _ cE,mg _ _ _ ab]
      · rw [mg _ _ _ ba];exact ue w _
    | some R9=>
      obtain ⟨-,⟨J5,R'⟩,-⟩:=aI.round R9 uA;refine ⟨w.heap.size,J5.defers,[],w.alloc (.loop { state := .ready,pending:=none,fn:=b.fn,tmps:=a.tmps,params:=ps,assign:=hf,body,defers:=J5.defers }),?_,ue w _,Nat.le_refl _,by simp,fun x ab=>mg w _ x ab,rfl,rfl,rfl,by simp,.inl ⟨rfl,by simp⟩⟩;unfold Instr.enterLoop;simp only [aa',zR R',g9,ac5,run_newObj];rfl
  obtain ⟨l,D,mark,w₁,Sa,lN,dd,abA,hold,Sb,rL,pK,ca,J6⟩:=R8;have x3:s l=none:=by
    cases au:s l with
    | none=>rfl
    | some o=>exact absurd (aI.wf.obj _ _ au).lt ag
  generalize aF:({ state := .ready,pending:=none,fn:=b.fn,tmps:=a.tmps,params:=ps,assign:=hf,body,defers:=D }:Loop)=r at lN;have wk:de w p w₁ p:=de.of_heap Sb rL pK ca (fun _ _ h=>h) aI.wf.lt hold;have Sc:dq w₁ p (s.set l (.loop r env)):=by
    have aw:=aI.wf.grow wk hold (fun _ _ _ h=>h) (fun b o aE=>by have:=aI.wf.lt b o aE;omega);refine ⟨fun aX o aq=>?_,aw.lt⟩;by_cases e:aX=l
    · subst e
      rw [ao.gu] at aq;cases aq;refine ⟨lN,fun t v av=>?_⟩;have:r.tmps=a.tmps:=by rw [← aF]
      rw [this];exact (aI.env t v av).mono wk
    · rw [ao.fA _ _ e] at aq;exact aw.obj aX o aq
  have kv:Kept s (s.set l (.loop r env)) w p w₁ p:=⟨fun x ab _=>hold x ab,fun x ab az=>by rw [ao.fA _ _ ag];exact az,fun _ _ _ _ h=>h⟩;obtain ⟨Sd,c1⟩:=h l r x3 fun args s₁ Rn Rj Rp k1 x2 sM w' bk v vs k0 av eL=>by
    have Jd:v = .func (.yield l) #[] #[]:=by
      cases av with
      | hB=>rfl
    subst Jd;have:=RV (a:=a) (P:=P) (N:=N) (env:=env) (r:=r) (fn:=fn) (by rw [← aF];exact R7) (by rw [← aF]) k1 (by rw [← aF];exact x2) (by rw [← aF];exact aI.size)
      (by rw [← aF];exact aW) (Rn:=Rn) (Rj:=Rj) (Rp:=Rp) (by rw [← aF];exact sM) w' bk vs k0 eL
    have tc:{ busy r with state:=LoopState.ready,pending:=none }=r:=by rw [← aF];rfl
    rw [tc] at this;exact this
  have mj:=aI.aL aw;generalize CJ:a.eval g=acr at mj;cases mj with
  | func _ as cs' _ _ a8 aA=>
  have hinv:(do let d ← resolve a.eval (Fv g l) 0;invoke d.target d.args:Sem Next).run P w₁ = .ok (.enter f (as ++ #[.func (.yield l) #[] #[]]++cs')) w₁:=by
    simp only [resolve,Fv,CJ,Deferred.ofValue,aa',ac5,g9,invoke];have:(#[Operand.const (.func (.yield l) #[] #[])].map a.eval) = #[.func (.yield l) #[] #[]]:=by simp [Act.eval]
    rw [this];exact Sd _ _
  have wm:=R3 (k:=k) (cs:=cs) Sa hinv;have ct:=c1 w₁ p (as.toList++([.func (.yield l) #[] #[]]++cs'.toList)) Sc ((a8.mono wk).append (bF.append (.cons _ _ _ _ (.hB _) .nil) (aA.mono wk)));have x2:(as.toList++([Value.func (.yield l) #[] #[]]++cs'.toList)).toArray=as ++ #[.func (.yield l) #[] #[]]++cs':=by apply Array.ext';simp
  rw [x2] at ct;obtain ⟨e,hM,hg,⟨lJ,out,al,jo,qq,ed,xW,ik,zS⟩,sK,Fw,zl⟩:=ct (b.atR { a with defers:=mark++a.defers } (.inRangeFunc l::k)::cs);have wj:∀ dN o',dN l=none→al=dN.set l o'→∀ iN,de hM jo iN jo→Kept al al hM jo iN jo→dq iN jo dN→(∀ x,x≠l→iN.heap[x]? = hM.heap[x]?) →
      dz N B b.roundOf env dN { a with defers:=mark++a.defers } iN jo∧de w p iN jo∧Kept s dN w p iN jo:=by
    intro dN o' az hG iN Se sW Fx Sf;have bK:de w p iN jo:=(wk.trans xW).trans Se;have uB:=(kv.trans wk.size ik).trans (wk.trans xW).size sW;have hN:ao.Sub dN al:=by rw [hG];exact ao.vL _ _ _ az
    have bh:Kept s dN w p iN jo:=uB.sub hN;refine ⟨⟨aI.size,fun t v av=>(aI.env t v av).mono bK,Fx,?_,fun lv pJ=>?_,Nat.le_trans aI.base bK.size⟩,bK,bh⟩
    · obtain ⟨cc,d1,d2,d3⟩:=aI.defs
      rcases J6 with ⟨rfl,-⟩|⟨uA,rfl,fb,J7⟩
      · refine ⟨cc,by simpa using d1,d2,fun d ax=>?_⟩
        obtain ⟨cH,ni,jY⟩:=d3 d ax;have ar:d<w.heap.size:=(i9.1 ni).1;exact ⟨cH,(bh.heap d ar jY).trans ni,bh.kV d ar jY⟩
      · have J8:(s.set l (.loop r env)) w.heap.size=none:=by
          rw [ao.fA _ _ (Ne.symm J7)];cases au:s w.heap.size with
          | none=>rfl
          | some o=>exact absurd (aI.wf.obj _ _ au).lt ag
        have J9:w.heap.size<w₁.heap.size:=(i9.1 fb).1;have Sg:iN.heap[w.heap.size]? = some (.deferred (some [])):=by
          rw [Sf _ (Ne.symm J7),ik.heap _ J9 J8];exact fb
        have Sh:dN w.heap.size=none:=hN.none (ik.kV _ J9 J8);refine ⟨w.heap.size::cc,by simp [marksOf,d1],List.nodup_cons.2 ⟨fun hm=>?_,d2⟩,fun d ax=>?_⟩
        · have:=(i9.1 (d3 _ hm).2.1).1;omega
        · rcases ad1.1 ax with rfl|ax
          · exact ⟨aI.base,Sg,Sh⟩
          · obtain ⟨cH,ni,jY⟩:=d3 d ax
            have ar:d<w.heap.size:=(i9.1 ni).1;exact ⟨cH,(bh.heap d ar jY).trans ni,bh.kV d ar jY⟩
    · obtain ⟨U,⟨r',ae⟩,an⟩:=aI.round lv pJ
      have ar:lv<w.heap.size:=(i9.1 ae).1;refine ⟨?_,⟨r',(bh.heap lv ar an).trans ae⟩,bh.kV lv ar an⟩;rcases J6 with ⟨rfl,-⟩|⟨uA,-⟩
      · exact U
      · rw [uA] at pJ;cases pJ
  have uc:∀ dN (r':Loop),dN l=none→al=dN.set l (.loop r' env)→(r'.state == .busy)=false→∃ iN,(Instr.endLoop l).run P hM = .ok r'.pending iN ∧
      dz N B b.roundOf env dN { a with defers:=mark++a.defers } iN jo∧de w p iN jo∧Kept s dN w p iN jo:=by
    intro dN r' az hG dO;have J':al l=some (.loop r' env):=by rw [hG];exact ao.gu _ _ _
    have eW:hM.heap[l]? = some (.loop r'):=(zS.obj _ _ J').1;obtain ⟨ek,dj,dT⟩:=Fo (r':={ r' with state := .exhausted }) zS J' rfl _ rfl;have sW:Kept al al hM jo { hM with heap:=hM.heap.setIfInBounds l (.loop { r' with state := .exhausted }) } jo:=by
      refine ⟨dj.heap,fun x ab az=>az,dj.lk⟩
    have Fx:dq { hM with heap:=hM.heap.setIfInBounds l (.loop { r' with state := .exhausted }) } jo dN:=by
      refine dT.sub ?_;rw [hG,ao.set_set];exact ao.vL _ _ _ az
    refine ⟨_,?_,wj dN _ az hG _ ek sW Fx (fun x ab=>by
      show (hM.heap.setIfInBounds l _)[x]? = _
      rw [ae3,d9 (fun e=>ab e.symm)])⟩
    unfold Instr.endLoop;simp only [aa',zR eW,g9,dO,Bool.false_eq_true,if_false,Fp eW C,ac5]
  cases e with
  | outgrown=>exact absurd C lJ
  | returned v=>
    cases out with
    | panic x=>exact qq.elim
    | ret x=>
    have xX:Steps P (lone (b.atR a (.code (.rangeFunc g ps hf body)::k)) cs w) (lone (b.atR { a with defers:=mark++a.defers } (.endRangeFunc l::k)) cs hM):=by
      refine .head wm (Steps.trans sK (.one ?_));rw [← R2 _ _ _ _ v];exact step_leave_returned zl
    rcases ed with ⟨dN,az,hG,bq⟩|⟨j,dN,az,hG,bq⟩
    · obtain ⟨iN,CK,zT,bK,bh⟩:=uc dN r az hG (by rw [← aF];rfl)
      have aE:r.pending=none:=by rw [← aF]
      rw [aE] at CK;exact ⟨.normal,_,iN,⟨.normal,env,dN,jo,.normal,bq,zT,bK,bh⟩,Steps.trans xX (.one (by simpa using J3 (k:=k) CK))⟩
    · obtain ⟨iN,CK,zT,bK,bh⟩:=uc dN (qE r j) az hG rfl
      obtain ⟨e',da,lK,qi,f'⟩:=bq b B _ iN jo eZ zT k cs;exact ⟨e',da,lK,ku.after bK bh qi,.of_steps (Steps.trans xX (.one (by simpa [qE] using J3 (k:=k) CK))) f'⟩
  | panicked dF=>
    cases out with
    | ret x=>exact qq.elim
    | panic x=>
    obtain ⟨v,kW,av⟩:=qq;obtain ⟨dN,o',az,hG,bq⟩:=ed;obtain ⟨zT,bK,bh⟩:=wj dN o' az hG hM (.refl _ _) (.refl _ _ _) (zS.sub (by rw [hG];exact ao.vL _ _ _ az)) (fun _ _=>rfl);refine ⟨.panic dF,_,hM,⟨.panic x,env,dN,jo,.panic v x _ kW av,bq,zT,bK,bh⟩,.inRangeFunc l::k,.head wm (Steps.trans sK (.one ?_))⟩;rw [← Frame.raise_atR];exact step_leave_panicked zl
end
theorem lL.nil {w:World} {p:bT}:lL w p [] []:=⟨.nil,.nil⟩
theorem lL.length {w:World} {p:bT} {cM:List MapEntry} {es:List (af×af)} (h:lL w p cM es):cM.length=es.length:=by simpa using h.1.length
theorem lL.split {w:World} {p:bT}:∀ {a b:List MapEntry} {e:MapEntry} {es:List (af×af)},lL w p (a++e::b) es →
  ∃ l₁ k v l₂,es=l₁++(k,v)::l₂∧Rel w p e.key k∧Rel w p e.val v∧lL w p (a++b) (l₁++l₂):=by
 intro a
 induction a with
 | nil=>
  intro b e es h;cases es with
  | nil=>have:=h.length;simp at this
  | cons x es=>
   obtain ⟨k,v⟩:=x;obtain ⟨U,ae⟩:=h;simp only [List.nil_append,ac4] at U ae;cases U with|cons _ _ _ _ cA t1=>cases ae with|cons _ _ _ _ db t2=>
   exact ⟨[],k,v,es,rfl,cA,db,t1,t2⟩
 | cons x a a6=>
  intro b e es h;cases es with
  | nil=>have:=h.length;simp at this
  | cons y es=>
   obtain ⟨JF,v0⟩:=y;obtain ⟨U,ae⟩:=h;simp only [ab',ac4] at U ae;cases U with|cons _ _ _ _ cA t1=>cases ae with|cons _ _ _ _ db t2=>
   obtain ⟨l₁,k,v,l₂,rfl,cb,b1,eV,nV⟩:=a6 (b:=b) (e:=e) (es:=es) ⟨t1,t2⟩;exact ⟨(JF,v0)::l₁,k,v,l₂,rfl,cb,b1,.cons _ _ _ _ cA eV,.cons _ _ _ _ db nV⟩
section
variable {P:Program} {Γ:cz} {N:Nat} {env:Env} {s:ao}
end
inductive cR:List af→List af→Prop
 | nil:cR [] []
 | cons {x y:af} {xs ys:List af} (h:aS x y) (t:cR xs ys):cR (x::xs) (y::ys)
theorem cR.rel {w:World} {p:bT} {xs ys:List af} (h:cR xs ys):∀ {vs:List Value},bF w p vs xs→bF w p vs ys:=by
 induction h with
 | nil=>exact fun h=>h
 | cons h _ a6=>intro vs av;cases av with|cons _ _ _ _ U ae=>exact .cons _ _ _ _ (h _ _ _ U) (a6 ae)
theorem cR.refl:∀ xs:List af,cR xs xs
 | [] => .nil
 | _::xs => .cons (aS.refl _) (cR.refl xs)
theorem cR.length {xs ys:List af} (h:cR xs ys):xs.length=ys.length:=by
 induction h with
 | nil=>rfl
 | cons _ _ a6=>simp [a6]
theorem cR.append {a b c d:List af} (h:cR a b) (k:cR c d):cR (a++c) (b++d):=by
 induction h with
 | nil=>exact k
 | cons h _ a6=>exact .cons h a6
theorem aS.trans {x y z:af} (h:aS x y) (k:aS y z):aS x z:=fun w p v av=>k w p v (h w p v av)
theorem aS.agg {xs ys:List af} (h:cR xs ys):aS (.agg xs) (.agg ys):=fun w p v av=>by cases av with|agg cs _ aB=>exact .agg _ _ (h.rel aB)
theorem aS.cu {xs ys:List af} (h:cR xs ys):aS (.cu xs) (.cu ys):=fun w p v av=>by cases av with|cu cs _ aB=>exact .cu _ _ (h.rel aB)
theorem aS.iface {t:TypeId} {x y:af} (h:aS x y):aS (.iface t x) (.iface t y):=fun w p v av=>by cases av with|iface _ _ _ aB=>exact .iface _ _ _ (h _ _ _ aB)
theorem aS.bA {xs ys:List af} {o:Nat} (h:cR xs ys):aS (.bA xs o) (.bA ys o):=fun w p v av=>by
 cases av with|bA b base ui off vs _ ah aA aF=>exact .bA b base ui o vs ys ah aA (h.rel aF)
theorem aS.func {f:FuncId} {xs ys us vs:List af} (h:cR xs ys) (k:cR us vs):aS (.func f xs us) (.func f ys vs):=fun w p v av=>by
 cases av with|func _ as cs _ _ a8 aA=>exact .func _ _ _ _ _ (h.rel a8) (k.rel aA)
theorem aS.aC {sz:Nat} {xs ys:List af} {own:bM} (h:cR xs ys):aS (.aC sz xs own) (.aC sz ys .bc):=fun w p v av=>by
 cases av with
 | hY=>cases h;exact .hY _ _ ba
 | iA a=>cases h;exact .iA a _ _ (.inl C)
 | aC g off n cap _ vs _ _ az aB aA aF au hm aD ct ah=>exact .aC g off n cap sz vs ys .bc ba (aB.trans h.length) aA (h.rel aF) au hm aD ba ba
theorem aS.bc {sz:Nat} {xs:List af} {own:bM}:aS (.aC sz xs own) (.aC sz xs .bc):=aS.aC (cR.refl _)
theorem aS.nil {sz sz':Nat} {own:bM} (ah:∀ b,own ≠ .own b):aS (.aC sz [] .nil) (.aC sz' [] own):=fun w p v av=>by
 cases av with
 | hY=>exact .hY _ _ ah
 | iA _ _ _ h=>rcases h with h|h<;>cases h
 | aC g off n cap _ vs _ _ az=>exact absurd C az
theorem aS.empty {sz sz':Nat} {own:bM}:aS (.aC sz [] own) (.aC sz' [] .bc):=fun w p v av=>by
 cases av with
 | hY=>exact .hY _ _ ba
 | iA a=>exact .iA a _ _ (.inl C)
 | aC g off n cap _ vs _ _ az aB aA aF au hm aD ct ah=>
  have:vs=[]:=List.eq_nil_of_length_eq_zero (by rw [aF.length];rfl);subst this;exact .aC g off n cap sz' [] [] .bc ba aB aA .nil ba hm aD ba ba
theorem aS.any (x:af):aS x .any:=fun _ _ v _ => .any v
section
variable {P:Program} {Γ:cz} {N:Nat} {ops:Array Oper} {Q:b8→Env→ao→Prop} {env:Env} {s:ao} {l:List Oper} {o:Oper} {d:Nat}
theorem aa.n0 {l:List Oper} (t:Nat) {v:af} (fz:af) (av:env.get? t=some v) (he:aS v fz) (h:aa P N ops l Q ((t,fz)::env) s):aa P N ops l Q env s:=by
 intro k aD ro B a w p aI
 exact h k aD ro B a w p ⟨aI.size,fun u x ab=>by
  simp only [Env.get?] at ab
  split at ab
  ·rename_i aq;have:=ac1 aq;subst this;cases ab;exact he _ _ _ (aI.env _ _ av)
  ·exact aI.env u x ab,aI.wf,aI.defs,aI.round,aI.base⟩
theorem ad.n0 {c:Code} (t:Nat) {v:af} (fz:af) (av:env.get? t=some v) (he:aS v fz) (h:ad P N c Q ((t,fz)::env) s):ad P N c Q env s:=by
 intro b B a w p eZ aI
 exact h b B a w p eZ ⟨aI.size,fun u x ab=>by
  simp only [Env.get?] at ab
  split at ab
  ·rename_i aq;have:=ac1 aq;subst this;cases ab;exact he _ _ _ (aI.env _ _ av)
  ·exact aI.env u x ab,aI.wf,aI.defs,aI.round,aI.base⟩
theorem aa.alloc (aP:bQ P Γ) {t:TypeId} {i:bN} {z:af} {cs:List af} (aw:guardOf ops env o=some true) (ax:o.dst=some d) (aW:t6 d N=true) (ah:o.op = .alloc t) (aN:Γ.get? t=some i)
  (bO:hC i.zero=some z) (aA:cellsOf z=some cs) (h:∀ b,s b=none→aa P N ops l Q ((d,.ptr b 0)::env) (s.set b (.box t cs))):aa P N ops (o::l) Q env s:=
 aa.op aw ax aW (a7.alloc aP ah aN bO aA (X:=fun _ _=>False)) (fun x al ⟨b,U,ae,an⟩=>by subst ae;subst an;exact h b U) (fun _ _ h=>h.elim)
theorem aa.um (aP:bQ P Γ) {t T:TypeId} {x:Operand} {i:bN} {b off:Nat} {cs:List af} {v:af} (aw:guardOf ops env o=some true) (ax:o.dst=some d) (aW:t6 d N=true) (ah:o.op = .load t x)
  (aN:Γ.get? t=some i) (ab:aL env x=some (.ptr b off)) (au:s b=some (.box T cs)) (av:hO i cs off=some v) (h:aa P N ops l Q ((d,v)::env) s):aa P N ops (o::l) Q env s:=
 aa.op aw ax aW (a7.um aP ah aN ab au av (X:=fun _ _=>False)) (fun x al ⟨U,ae⟩=>by subst U;subst ae;exact h) (fun _ _ h=>h.elim)
theorem aa.Ci (aP:bQ P Γ) {t T:TypeId} {x y:Operand} {i:bN} {b off:Nat} {cs us:List af} {v:af} (aw:guardOf ops env o=some true) (ax:o.dst=none) (ah:o.op = .store t x y)
  (aN:Γ.get? t=some i) (ab:aL env x=some (.ptr b off)) (ay:aL env y=some v) (av:cellsOf v=some us) (hu:ac' us.length i.size=true) (U:us.all fa=true) (au:s b=some (.box T cs))
  (fB:al5 (off+us.length) cs.length=true) (h:aa P N ops l Q env (s.set b (.box T (eU off us cs)))):aa P N ops (o::l) Q env s:=
 aa.vC aw ax (a7.Ci aP ah aN ab ay av hu U au fB (X:=fun _ _=>False)) (fun x al U=>by subst U;exact h) (fun _ _ h=>h.elim)
theorem aa.lookup (aP:bQ P Γ) {t dY e0:TypeId} {x y:Operand} {ok:Bool} {it gL aG:bN} {m:Nat} {es:List (af×af)} {k z:af} {r:Option af} (aw:guardOf ops env o=some true) (ax:o.dst=some d) (aW:t6 d N=true)
  (ah:o.op = .lookup t x y ok) (aN:Γ.get? t=some it) (bs:it.bG = .map dY e0) (h0:Γ.get? dY=some gL) (bI:Γ.get? e0=some aG) (ab:aL env x=some (.map m)) (ay:aL env y=some k) (au:s m=some (.map es))
  (aZ:kf gL.bG k=true) (aF:jb es k=some r) (bO:hC aG.zero=some z) (h:aa P N ops l Q ((d,lP ok z r)::env) s):aa P N ops (o::l) Q env s:=
 aa.op aw ax aW (a7.lookup aP ah aN bs h0 bI ab ay (.inl ⟨m,rfl,au⟩) aZ aF bO (X:=fun _ _=>False)) (fun x al ⟨U,ae⟩=>by subst U;subst ae;exact h) (fun _ _ h=>h.elim)
theorem aa.mapUpdate (aP:bQ P Γ) {t dY e0:TypeId} {x y z:Operand} {it gL:bN} {b:Nat} {es dy:List (af×af)} {k v:af} (aw:guardOf ops env o=some true) (ax:o.dst=none)
  (ah:o.op = .mapUpdate t x y z∨o.op = .insert t x y z) (aN:Γ.get? t=some it) (bs:it.bG = .map dY e0) (h0:Γ.get? dY=some gL) (ab:aL env x=some (.map b)) (ay:aL env y=some k) (bO:aL env z=some v)
  (au:s b=some (.map es)) (aZ:kf gL.bG k=true) (aE:lO es k v=some dy) (h:aa P N ops l Q env (s.set b (.map dy))):aa P N ops (o::l) Q env s:=
 aa.vC aw ax (a7.mapUpdate aP ah aN bs h0 ab ay bO au aZ aE (X:=fun _ _=>False)) (fun x al U=>by subst U;exact h) (fun _ _ h=>h.elim)
theorem aa.makeMap {t:TypeId} (aw:guardOf ops env o=some true) (ax:o.dst=some d) (aW:t6 d N=true) (ah:o.op = .makeMap t none)
  (h:∀ b,s b=none→aa P N ops l Q ((d,.map b)::env) (s.set b (.map []))):aa P N ops (o::l) Q env s:=
 aa.op aw ax aW (a7.makeMap ah (X:=fun _ _=>False)) (fun x al ⟨b,U,ae,an⟩=>by subst ae;subst an;exact h b U) (fun _ _ h=>h.elim)
theorem aa.invoke {g:Operand} {name:String} {as:Array Operand} {c0:Array TypeId} {t:TypeId} {v:af} {f:FuncId} {xs:List af} {R:eB→ao→Prop} (aw:guardOf ops env o=some true) (ax:o.dst=some d) (aW:t6 d N=true)
  (ah:o.op = .call { callee := .invoke g name,args:=as,argTypes:=c0 }) (av:aL env g=some (.iface t v)) (a8:fQ env as.toList=some xs) (hm:pF P t name f) (h:hi P f (v::xs) s R)
  (aD:∀ x al,R (.ret x) al→aa P N ops l Q ((d,x)::env) al) (ab:∀ x al,R (.panic x) al→Q (.panic x) env al):aa P N ops (o::l) Q env s:=
 aa.op aw ax aW (a7.invoke ah av a8 hm h) aD ab
theorem aa.panic {x:Operand} {t:TypeId} {v:af} (aw:guardOf ops env o=some true) (ax:o.dst=none) (ah:o.op = .panic x) (ab:aL env x=some (.iface t v)) (h:Q (.panic (.iface t v)) env s) :
  aa P N ops (o::l) Q env s:=
 aa.vC aw ax (a7.panic ah ab (K:=fun _ _=>False)) (fun x al h=>h.elim) (fun x al ⟨U,ae⟩=>by subst U;subst ae;exact h)
end
section
variable {P:Program} {Γ:cz} {N:Nat} {l:List Oper} {Q:b8→Env→ao→Prop} {env:Env} {s:ao} {m:Nat}
theorem bo.pure {J:ao→Prop} (cD:J s) (i:Nat) {o:Oper} {d:Nat} {v:af} (aF:iF l.toArray m i=true) (ah:l.toArray[i]? = some o) (ax:o.dst=some d) (aW:t6 d N=true)
  (aw:c9 l env o) (av:lQ Γ o (b4 l env o) v) (h:bo J P Γ N l.toArray Q (bX (m|||2^i)) ((d,v)::env) s) :
  bo J P Γ N l.toArray Q (bX m) env s:=
 bo.still cD i o d v (s'.1 aF) ah ax CB (.inl ⟨aw,av⟩) (by rw [oV];exact h)
theorem bf.pure (i:Nat) {o:Oper} {d:Nat} {v:af} (aF:iF l.toArray m i=true) (ah:l.toArray[i]? = some o) (ax:o.dst=some d) (aW:t6 d N=true)
  (aw:c9 l env o) (av:lQ Γ o (b4 l env o) v) (h:bf P Γ N l.toArray Q (bX (m|||2^i)) ((d,v)::env) s) :
  bf P Γ N l.toArray Q (bX m) env s:=bo.pure trivial i aF ah ax aW aw av h
theorem bo.idx {J:ao→Prop} (cD:J s) (i:Nat) {o:Oper} {d:Nat} {t e:TypeId} {x y:Operand} {it aG:bN} {sz:Nat} {xs:List af} {own:bM} {k:IntKind} {n:Int} {v:af} {cs:List af} (j:Nat) (aF:iF l.toArray m i=true) (ah:l.toArray[i]? = some o)
  (ax:o.dst=some d) (aW:t6 d N=true) (aw:c9 l env o) (b5:o.op = .indexAddr t x y) (aN:Γ.get? t=some it) (bs:it.bG = .aC e) (bI:Γ.get? e=some aG)
  (ab:aL (b4 l env o) x=some (.aC sz xs own)) (ca:sz=aG.size) (ay:aL (b4 l env o) y=some (.int k n)) (eN:n=(j:Int)) (aK:xs[j]? = some v) (aA:cellsOf v=some cs)
  (h:bo J P Γ N l.toArray Q (bX (m|||2^i)) ((d,.bA cs 0)::env) s):bo J P Γ N l.toArray Q (bX m) env s:=
 bo.pure cD i aF ah ax aW aw (.idx j b5 aN bs bI ab ca ay eN aK aA) h
theorem bf.idx (i:Nat) {o:Oper} {d:Nat} {t e:TypeId} {x y:Operand} {it aG:bN} {sz:Nat} {xs:List af} {own:bM} {k:IntKind} {n:Int} {v:af} {cs:List af} (j:Nat) (aF:iF l.toArray m i=true) (ah:l.toArray[i]? = some o)
  (ax:o.dst=some d) (aW:t6 d N=true) (aw:c9 l env o) (b5:o.op = .indexAddr t x y) (aN:Γ.get? t=some it) (bs:it.bG = .aC e) (bI:Γ.get? e=some aG)
  (ab:aL (b4 l env o) x=some (.aC sz xs own)) (ca:sz=aG.size) (ay:aL (b4 l env o) y=some (.int k n)) (eN:n=(j:Int)) (aK:xs[j]? = some v) (aA:cellsOf v=some cs)
  (h:bf P Γ N l.toArray Q (bX (m|||2^i)) ((d,.bA cs 0)::env) s):bf P Γ N l.toArray Q (bX m) env s:=
 bf.pure i aF ah ax aW aw (.idx j b5 aN bs bI ab ca ay eN aK aA) h
theorem bf.slice (i:Nat) {o:Oper} {d:Nat} {t e:TypeId} {x:Operand} {gE aQ jt:Option Operand} {it aG:bN} {sz:Nat} {xs:List af} {own cQ:bM} (a b:Nat) (aF:iF l.toArray m i=true) (ah:l.toArray[i]? = some o)
  (ax:o.dst=some d) (aW:t6 d N=true) (aw:c9 l env o) (b5:o.op = .slice t x gE aQ jt)
  (aN:Γ.get? t=some it) (bs:it.bG = .aC e) (bI:Γ.get? e=some aG) (ab:aL (b4 l env o) x=some (.aC sz xs own)) (ca:xs=[]∨sz=aG.size)
  (hF:(gE=none∧a=0)∨∃ y k,gE=some y∧aL (b4 l env o) y=some (.int k (a:Int))) (qv:(aQ=none∧jt=none∧b=xs.length)∨∃ y k,aQ=some y∧aL (b4 l env o) y=some (.int k (b:Int)))
  (nv:(jt=none∧cQ = .bc)∨(∃ y k,jt=some y∧aL (b4 l env o) y=some (.int k (b:Int))∧cQ = .clip)) (aB:a≤b) (cP:b≤xs.length)
  (h:bf P Γ N l.toArray Q (bX (m|||2^i)) ((d,.aC sz ((xs.take b).drop a) cQ)::env) s):bf P Γ N l.toArray Q (bX m) env s:=
 bf.pure i aF ah ax aW aw (.slice a b b5 aN bs bI ab ca hF qv nv aB cP) h
theorem bf.call {i:Nat} {o:Oper} {d:Nat} {f:FuncId} {as:Array Operand} {c0:Array TypeId} {xs:List af} {R:eB→ao→Prop} (aF:eI l.toArray m (idxs 0 l)=[i]) (ah:l.toArray[i]? = some o) (ax:o.dst=some d) (aW:t6 d N=true)
  (aw:c9 l env o) (b5:o.op = .call { callee := .value (.func f),args:=as,argTypes:=c0 }) (a8:fQ (b4 l env o) as.toList=some xs) (h:hi P f xs s R)
  (aD:∀ x al,R (.ret x) al→bf P Γ N l.toArray Q (bX (m|||2^i)) ((d,x)::env) al) (ab:∀ x al,R (.panic x) al→Q (.panic x) [] al):bf P Γ N l.toArray Q (bX m) env s:=
 bf.one aF ah ax aW aw (a7.call b5 (fv := .func f [] []) C a8 (hT.fp fZ)) aD ab
theorem bf.JN {i:Nat} {o:Oper} {d:Nat} {f:FuncId} {as:Array Operand} {c0:Array TypeId} {xs:List af} {v:af} (aF:eI l.toArray m (idxs 0 l)=[i]) (ah:l.toArray[i]? = some o) (ax:o.dst=some d) (aW:t6 d N=true)
  (aw:c9 l env o) (b5:o.op = .call { callee := .value (.func f),args:=as,argTypes:=c0 }) (a8:fQ (b4 l env o) as.toList=some xs)
  (h:hi P f xs s (fun out al=>out = .ret v∧al=s)) (aD:bf P Γ N l.toArray Q (bX (m|||2^i)) ((d,v)::env) s):bf P Γ N l.toArray Q (bX m) env s:=
 bf.call aF ah ax aW aw b5 a8 h (fun x al ⟨U,ae⟩=>by cases U;subst ae;exact aD) (fun x al ⟨U,_⟩=>by cases U)
end
section
variable {P:Program} {Γ:cz} {N:Nat} {l:List Oper} {Q:b8→Env→ao→Prop} {env:Env} {s:ao} {m:Nat}
theorem bf.Ff {i:Nat} {o:Oper} {d:Nat} {g:Operand} {fv:af} {as:Array Operand} {c0:Array TypeId} {xs:List af} {R:eB→ao→Prop} (aF:eI l.toArray m (idxs 0 l)=[i]) (ah:l.toArray[i]? = some o) (ax:o.dst=some d)
  (aW:t6 d N=true) (aw:c9 l env o) (b5:o.op = .call { callee := .value g,args:=as,argTypes:=c0 }) (av:aL (b4 l env o) g=some fv)
  (a8:fQ (b4 l env o) as.toList=some xs) (h:hT P fv xs s R)
  (aD:∀ x al,R (.ret x) al→bf P Γ N l.toArray Q (bX (m|||2^i)) ((d,x)::env) al) (ab:∀ x al,R (.panic x) al→Q (.panic x) [] al):bf P Γ N l.toArray Q (bX m) env s:=
 bf.one aF ah ax aW aw (a7.call b5 av a8 h) aD ab
theorem bf.two {i j:Nat} {o u:Oper} {d c:Nat} {K X aO nj:af→ao→Prop} (aF:eI l.toArray m (idxs 0 l)=[i,j]) (ah:l.toArray[i]? = some o) (hu:l.toArray[j]? = some u) (ax:o.dst=some d) (aA:u.dst=some c)
  (aW:t6 d N=true) (pI:t6 c N=true) (cO:ac' i j=false)
  (aw:c9 l env o) (n1:guardOf l.toArray (iE env (looks l.toArray u)) u=some true)
  (h:a7 P N o (b4 l env o) s K X) (eX:a7 P N u (iE env (looks l.toArray u)) s aO nj)
  (aD:∀ x al,K x al→bf P Γ N l.toArray Q (bX (m|||2^i)) ((d,x)::env) al) (eG:∀ x al,aO x al→bf P Γ N l.toArray Q (bX (m|||2^j)) ((c,x)::env) al)
  (ab:∀ x al,X x al→Q (.panic x) [] al) (bL:∀ x al,nj x al→Q (.panic x) [] al):bf P Γ N l.toArray Q (bX m) env s:=by
 have Fy:i≠j:=fun e=>by subst e;rw [aq'] at cO;cases cO
 have fq:∀ k,hj l.toArray (bX m) k→k=i∨k=j:=fun k aD=>by
  have:=zP aD (l:=idxs 0 l) (by rw [x0,an9];have:=aD.1;simp at this;omega);rw [aF] at this;simpa using this
 have ar:i<l.toArray.size:=(i9.1 ah).1;have oW:bX m i=false:=by
  cases aq:bX m i with
  | false=>rfl
  | true=>
   have gb:i∈eI l.toArray m (idxs 0 l):=by rw [aF];exact i7 ..
   have:∀ is,i∈eI l.toArray m is→iF l.toArray m i=true:=by
    intro is
    induction is with
    | nil=>intro h;cases h
    | cons j is a6=>
     intro h;simp only [eI] at h;split at h
     ·rename_i aq
      rcases ad1.1 h with rfl|h
      ·exact aq
      ·exact a6 h
     ·exact a6 h
   have:=(s'.1 (this _ gb)).2.1;rw [aq] at this;cases this
 refine bo.split (fun k=>if k=i then K else aO) (fun k=>if k=i then X else nj) ⟨i,ar,oW⟩ (fun k o' kB cF=>?_) (fun _ _ _ _ _ _ _ => .inl trivial) (fun k o' c6 kB cF cm x al bh=>?_) (fun k o' kB cF cm x al bh=>?_) (fun k o' kB cF x al iB=>?_)
 ·rcases fq k kB with rfl|rfl
  ·rw [ah] at cF;cases cF
   simp only [if_true];exact ⟨aw,h,fun c6 cm=>by rw [ax] at cm;cases cm;simpa [ak8] using aW⟩
  ·rw [hu] at cF;cases cF
   simp only [d9 (Ne.symm Fy)];exact ⟨n1,eX,fun c6 cm=>by rw [aA] at cm;cases cm;simpa [ak8] using pI⟩
 ·rcases fq k kB with rfl|rfl
  ·rw [ah] at cF;cases cF
   rw [ax] at cm;cases cm;simp only [if_true] at bh;rw [oV];exact aD x al bh
  ·rw [hu] at cF;cases cF
   rw [aA] at cm;cases cm;simp only [d9 (Ne.symm Fy)] at bh;rw [oV];exact eG x al bh
 ·rcases fq k kB with rfl|rfl
  ·rw [ah] at cF;cases cF
   rw [ax] at cm;cases cm
  ·rw [hu] at cF;cases cF
   rw [aA] at cm;cases cm
 ·rcases fq k kB with rfl|rfl
  ·simp only [if_true] at iB;exact ab x al iB
  ·simp only [d9 (Ne.symm Fy)] at iB;exact bL x al iB
end
theorem Si {P:Program} {ops:Array Oper} {Q:hb→Act→World→Prop} (l₂:List Nat):∀ (l₁:List Nat) (a:Act) (w:World),
  ja P ops (hb.andThen (ja P ops Q l₂) Q) l₁ a w→ja P ops Q (l₁++l₂) a w:=by
 intro l₁
 induction l₁ with
 | nil=>intro a w h;exact h
 | cons i r a6=>
  intro a w h;simp only [ab',ja] at h ⊢;split at h
  ·exact a6 _ _ h
  ·rename_i o ah
   split at h
   ·rename_i hw
    rw [f9 hw];refine ⟨h.1,h.2.mono ?_⟩;intro e w' he;cases e with
    | returned v=>exact a6 _ _ he
    | panicked dF=>exact he
    | outgrown=>exact he
   ·rename_i hw
    rw [d9 hw];exact a6 _ _ h
section
variable {P:Program} {Γ:cz} {N:Nat} {ops:Array Oper} {Q:b8→Env→ao→Prop} {env:Env} {s:ao} {l:List Oper} {o:Oper} {d:Nat}
theorem aa.cut (n:Nat) (Ka:Env) (wo:aa P N ops (l.take n) (fun x e al=>x = .normal∧Env.Sub Ka e∧al=s) env s) (wq:aa P N ops (l.drop n) Q Ka s):aa P N ops l Q env s:=by
 intro k aD ro B a w p aI;have hlen:l.length=(l.take n).length+(l.drop n).length:=by rw [← List.length_append,List.take_append_drop]
 rw [hlen,← List.range'_append_1];refine Si _ _ _ _ (vB ?_ _ _ _ (wo k (fun j x aK=>aD j x ?_) ro B a w p aI))
 ·rintro e da w' ⟨x,eT,al,bk,ab,⟨rfl,dH,rfl⟩,hR,hle,lM⟩
  cases ab;refine fH.after hle lM ?_ (hR.sub dH);refine wq _ (fun j x aK=>?_);rw [List.getElem?_drop] at aK;have ar:=(List.getElem?_eq_some_iff.1 aK).1;rw [List.length_take,Nat.min_eq_left ag,Nat.add_assoc];exact aD _ x aK
 ·rw [List.getElem?_take] at aK
  split at aK
  ·exact aK
  ·cases aK
def Kb (ops:Array Oper) (o:Oper):Option Nat:=match o.guard with
  | some (j,_)=>match ops[j]? with
    | some u=>u.dst
    | none=>none
  | none=>none
theorem aa.same (b:Bool) (aw:guardOf ops env o=some b) (h:aa P N ops (o::l) Q env s):aa P N ops (o::l) Q env s:=h
theorem aa.gA {t:Nat} {b:Bool} (au:Kb ops o=some t) (av:env.get? t=some (.bool b)) (en:b=true→aa P N ops (o::l) Q ((t,.bool true)::env) s)
  (lS:b=false→aa P N ops (o::l) Q ((t,.bool false)::env) s):aa P N ops (o::l) Q env s:=by
 cases b with
 | true=>exact aa.Cz t av C (en C)
 | false=>exact aa.Cz t av C (lS C)
end
def Kc (P:Program) (t:TypeId) (name:String) (f:FuncId):Bool:=
  match P.info? t,P.underlying t with
  | some i,some d=>(match i.methods.find? (·.name==name) with
    | some m=>m.path.isEmpty&&(match m.func with|some (mV,b)=>ac' mV f && !b|none=>false)
    | none=>false)&&(match d with | .pointer _=>false|_=>true)&&t6 0 (P.types.size+Made.depth)
  | _,_=>false
theorem CL {P:Program} {t:TypeId} {name:String} {f:FuncId} (h:Kc P t name f=true):pF P t name f:=by
 unfold Kc at h;split at h
 ·rename_i i d aQ ax
  simp only [f7] at h;obtain ⟨⟨U,ae⟩,an⟩:=h;split at U
  ·rename_i m hm
   simp only [f7] at U;obtain ⟨bd,bD⟩:=U;split at bD
   ·rename_i mV b aZ
    simp only [f7] at bD;have cb:=ac1 bD.1;have b1:b=false:=by simpa using bD.2
    subst cb;subst b1;refine Rb aQ hm (by simpa [Array.isEmpty] using bd) aZ ax (fun e he=>by subst he;cases ae) ?_;have:0<P.types.size+Made.depth:=by simpa [ak8] using an
    exact ⟨P.types.size+Made.depth-1,by omega⟩
   ·cases bD
  ·cases U
 ·cases h
def rowOf (s:ao) (e:TypeId) (sz n:Nat):bM→ao
 | .own b=>s.set b (.row e sz n)
 | _=>s
def qF (s:ao) (n:Nat):bM→Prop
 | .own b=>s b=none
 | .nil=>True
 | .clip=>True
 | .bc=>False
section
variable {P:Program} {Γ:cz} {N:Nat} {env:Env} {s:ao}
theorem a7.Sj {o:Oper} {K X aO nj:af→ao→Prop} (h:a7 P N o env s K X) (bh:∀ x al,K x al→∃ eK,ao.Sub eK al∧aO x eK) (iB:∀ x al,X x al→∃ eK,ao.Sub eK al∧nj x eK):a7 P N o env s aO nj:=by
 refine ⟨h.1,fun ro B a w p aI=>(h.2 ro B a w p aI).mono ?_⟩;rintro e w' ⟨al,bk,U,ae,an,bd⟩;cases e with
 | returned v=>
  obtain ⟨x,aD,aF⟩:=bd;obtain ⟨eK,au,eG⟩:=bh x al aD;exact ⟨eK,bk,U,ae.sub au,an.sub au,x,eG,aF⟩
 | panicked dF=>
  obtain ⟨v,x,kW,aD,aF⟩:=bd;obtain ⟨eK,au,eG⟩:=iB x al aD;exact ⟨eK,bk,U,ae.sub au,an.sub au,v,x,kW,eG,aF⟩
 | outgrown=>exact bd.elim
theorem a7.Fz (aP:bQ P Γ) {o:Oper} {t bH e:TypeId} {x y:Operand} {it cw aG:bN} {dZ bU n:Nat} {xs ys:List af} {own dk:bM}
  (ah:o.op = .call { callee := .builtin .append,args := #[x,y],argTypes := #[t,bH] }) (aN:Γ.get? t=some it) (bs:it.bG = .aC e) (cZ:Γ.get? bH=some cw) (dr:∀ k,cw.bG ≠ .int k)
  (bI:Γ.get? e=some aG) (ab:aL env x=some (.aC dZ xs own)) (ay:aL env y=some (.aC bU ys dk)) (hE:dZ=aG.size) (c8:ys=[]∨bU=aG.size)
  (dV:ac' aG.zero.cells.size aG.size=true) (dP:∀ y∈ys,kh aG.size y=true) (aq:(xs.length+ys.length)*aG.bytes≤140737488355328) (er:xs.length+ys.length≤9223372036854775807)
  (az:n=xs.length) (I:qF s n own) {X:af→ao→Prop} :
  a7 P N o env (rowOf s e aG.size n own) (fun r al=>∃ cQ,qF s (xs.length+ys.length) cQ∧(ys≠[]→∃ b,cQ = .own b)∧(∀ b,own = .own b→∃ aX,cQ = .own aX)∧r = .aC aG.size (xs++ys) cQ∧al=rowOf s e aG.size (xs.length+ys.length) cQ) X:=by
 subst az;have ju:∀ b,own = .own b→rowOf s e aG.size xs.length own b=some (.row e aG.size xs.length):=fun b h=>by subst h;exact ao.gu _ _ _
 have pL:(own = .nil∨own = .clip)∨∃ b,own = .own b∧dZ=aG.size∧rowOf s e aG.size xs.length own b=some (.row e aG.size xs.length):=by
  cases own with
  | nil=>exact .inl (.inl C)
  | clip=>exact .inl (.inr C)
  | bc=>exact I.elim
  | own b=>exact .inr ⟨b,rfl,hE,ju b C⟩
 have h:=a7.append (P:=P) (N:=N) (X:=X) aP ah aN bs cZ dr bI ab ay (.inr hE) c8 dV dP aq er pL;refine h.Sj ?_ (fun _ al h=>⟨al,ao.oN _,h⟩);rintro r al (⟨rfl,aA,rfl,rfl⟩|⟨s₁,vT,b,U,rfl,rfl⟩)
 ·refine ⟨_,ao.oN _,own,?_,fun h=>absurd C h,fun b h=>⟨b,h⟩,by rw [d7],?_⟩
  ·rcases aA with rfl|rfl<;>trivial
  ·rcases aA with rfl|rfl<;>rfl
 ·rcases vT with rfl|⟨aX,rfl,rfl⟩
  ·cases own with
   | nil=>exact ⟨_,ao.oN _,.own b,U,fun _=>⟨b,rfl⟩,fun _ h=>nQ,rfl,rfl⟩
   | clip=>exact ⟨_,ao.oN _,.own b,U,fun _=>⟨b,rfl⟩,fun _ h=>nQ,rfl,rfl⟩
   | bc=>exact I.elim
   | own aX=>
    obtain ⟨ek,dj⟩:=ao.uk U;refine ⟨s.set b (.row e aG.size (xs.length+ys.length)),fun x=>?_,.own b,dj,fun _=>⟨b,rfl⟩,fun _ _=>⟨b,rfl⟩,rfl,rfl⟩;by_cases cb:x=b
    ·subst cb;left;rw [ao.gu,ao.gu]
    ·by_cases b1:x=aX
     ·subst b1;right;rw [ao.fA _ _ cb];exact I
     ·left;rw [ao.fA _ _ cb,ao.fA _ _ cb];exact (ao.fA _ _ b1).symm
  ·have ax:(rowOf s e aG.size xs.length (.own aX)).del aX=s:=ao.zy _ _ _ I
   rw [ax] at U ⊢;exact ⟨_,ao.oN _,.own b,U,fun _=>⟨b,rfl⟩,fun _ _=>⟨b,rfl⟩,rfl,rfl⟩
end
section
variable {P:Program} {Γ:cz} {N:Nat} {ops:Array Oper} {Q:b8→Env→ao→Prop} {env:Env} {s:ao} {l:List Oper} {o:Oper} {d:Nat}
end
section
variable {Q:b8→Env→ao→Prop} {next:Env→ao→Prop} {env:Env} {s:ao}
theorem lT {id:Nat} (h:Q (.exit id) env s):b8.andThen next Q (.exit id) env s:=h
theorem fm (h:Q .ret env s):b8.andThen next Q .ret env s:=h
theorem fg {id:Nat} (h:Q .normal env s):b8.inBlock id Q .normal env s:=h
theorem gG {id:Nat} (h:Q .ret env s):b8.inBlock id Q .ret env s:=h
theorem lU {id:Nat} (h:Q .normal env s):b8.inBlock id Q (.exit id) env s:=by
 show (if ac' id id then Q .normal env s else Q (.exit id) env s);rw [aq'];exact h
theorem nA {id kT:Nat} (az:ac' kT id=false) (h:Q (.exit kT) env s):b8.inBlock id Q (.exit kT) env s:=by
 show (if ac' kT id then Q .normal env s else Q (.exit kT) env s);rw [az];exact h
end
theorem aS.of_eq {x y:af} (h:x=y):aS x y:=h ▸ aS.refl x
theorem eo {n:Int} (br : -9223372036854775808≤n) (U:n≤9223372036854775807):H1 .i64 n=n:=by
 unfold H1 IntKind.bits IntKind.signed;simp;omega
theorem jv {n:Nat} (h:n<9223372036854775807):H1 .i64 ((n:Int)+1)=((n+1:Nat):Int):=by
 rw [eo ag ag];omega
def kG (l:List (List UInt8)):List (af×af):=l.map fun x=>(.str x,.bool true)
section
variable {P:Program} {Γ:cz} {N:Nat} {ops:Array Oper} {Q:b8→Env→ao→Prop} {env:Env} {s:ao} {l:List Oper} {o:Oper} {d:Nat}
theorem aa.congr (e:Env) (he:∀ t,e.get? t=env.get? t) (h:aa P N ops l Q e s):aa P N ops l Q env s:=
 fun k aD ro B a w p aI=>h k aD ro B a w p ⟨aI.size,fun t v av=>aI.env t v ((he t).symm.trans av),aI.wf,aI.defs,aI.round,aI.base⟩
theorem ad.congr {c:Code} (e:Env) (he:∀ t,e.get? t=env.get? t) (h:ad P N c Q e s):ad P N c Q env s:=
 fun b B a w p eZ aI=>h b B a w p eZ ⟨aI.size,fun t v av=>aI.env t v ((he t).symm.trans av),aI.wf,aI.defs,aI.round,aI.base⟩
theorem Sk (e:Env) (d:Nat) (x y:af):∀ t,Env.get? ((d,x)::e) t=Env.get? ((d,x)::(d,y)::e) t:=by
 intro t;simp only [Env.get?];split<;>rfl
theorem Sl (e:Env) {c d:Nat} (x y:af) (h:ac' c d=false):∀ t,Env.get? ((d,y)::(c,x)::e) t=Env.get? ((c,x)::(d,y)::e) t:=by
 intro t;simp only [Env.get?];cases U:ac' d t<;>cases ae:ac' c t<;>simp
 have:=ac1 U;have:=ac1 ae;subst_vars;rw [aq'] at h;cases h
theorem aa.CM (aP:bQ P Γ) {o':Oper} {t:TypeId} {i:bN} {z v:af} {a1 us:List af} {y:Operand} (aw:guardOf ops env o=some true) (ax:o.dst=some d) (aW:t6 d N=true) (ah:o.op = .alloc t) (aN:Γ.get? t=some i)
  (bO:hC i.zero=some z) (aA:cellsOf z=some a1) (n1:∀ b,guardOf ops ((d,.ptr b 0)::env) o'=some true) (cm:o'.dst=none) (cF:o'.op = .store t (.tmp d) y)
  (ay:∀ b,aL ((d,.ptr b 0)::env) y=some v) (av:cellsOf v=some us) (hu:ac' us.length i.size=true) (U:us.all fa=true) (fB:ac' us.length a1.length=true)
  (h:aa P N ops l Q ((d,.bA us 0)::env) s):aa P N ops (o::o'::l) Q env s:=by
 refine aa.alloc aP aw ax aW ah aN bO aA (fun b aq=>?_);have aB:=ac1 fB;have Sm:aL ((d,.ptr b 0)::env) (.tmp d)=some (.ptr b 0):=by simp [aL,Env.get?]
 refine aa.Ci aP (n1 b) cm cF aN Sm (ay b) av hu U (ao.gu _ _ _) (Nat.ble_eq_true_of_le ag) ?_;rw [ao.set_set];refine aa.freeze d b (by simp [Env.get?]) (ao.gu _ _ _) ?_;rw [ao.zy _ _ _ aq];have he:eU 0 us a1=us:=by rw [Jw _ _ _ ag];simp [List.drop_eq_nil_of_le,aB]
 rw [he];exact aa.congr _ (Sk _ _ _ _) h
end
section
variable {P:Program} {Γ:cz} {N:Nat} {l:List Oper} {Q:b8→Env→ao→Prop} {env:Env} {s:ao} {m:Nat}
theorem bf.Sn {σ:Type} (f:σ→af) (g:σ→ao) (acW:σ→Prop) {FA:σ→Prop} (aP:bQ P Γ) {i j:Nat} {o u:Oper} {d c:Nat} {t T:TypeId} {x:Operand} {ee:bN} {b off:Nat} {cs:List af} {v:af} {aO nj:af→ao→Prop}
  (aF:eI l.toArray m (idxs 0 l)=[i,j]) (Sp:eI l.toArray (m|||2^i) (idxs 0 l)=[j])
  (ah:l.toArray[i]? = some o) (hu:l.toArray[j]? = some u) (ax:o.dst=some d) (aA:u.dst=some c) (aW:t6 d N=true) (pI:t6 c N=true) (cO:ac' i j=false)
  (b5:o.op = .load t x) (aN:Γ.get? t=some ee) (ab:aL (b4 l env o) x=some (.ptr b off)) (au:s b=some (.box T cs)) (av:hO ee cs off=some v)
  (aw:c9 l env o) (n1:guardOf l.toArray (iE env (looks l.toArray u)) u=some true)
  (cb:iE ((d,v)::env) (looks l.toArray u)=iE env (looks l.toArray u))
  (eX:a7 P N u (iE env (looks l.toArray u)) s aO nj)
  (bh:∀ y al,aO y al→∃ z,acW z∧y=f z∧al=g z)
  (wu:∀ z,acW z→FA z→bf P Γ N l.toArray Q (bX (m|||2^i|||2^j)) ((c,f z)::(d,v)::env) (g z))
  (cH:∀ z,acW z→FA z→bf P Γ N l.toArray Q (bX (m|||2^j)) ((c,f z)::env) (g z))
  (aD:∀ z,acW z→FA z) (bL:∀ y al,nj y al→Q (.panic y) [] al):bf P Γ N l.toArray Q (bX m) env s:=by
 refine bf.two (X:=fun _ _=>False) aF ah hu ax aA aW pI cO aw n1 (a7.um aP b5 aN ab au av) eX ?_ ?_ (fun _ _ h=>h.elim) bL
 ·rintro y al ⟨rfl,rfl⟩
  refine bf.one Sp hu aA pI (by rw [← cb] at n1;exact n1) (by rw [← cb] at eX;exact eX) (fun y al ay=>?_) bL;obtain ⟨z,bO,rfl,rfl⟩:=bh y al ay;exact wu z bO (aD z bO)
 ·intro y al ay
  obtain ⟨z,bO,rfl,rfl⟩:=bh y al ay;exact cH z bO (aD z bO)
end
theorem dq.qG {w:World} {p:bT} {s:ao} (h:dq w p s) {b:Nat} {T:TypeId} {cs cs':List af} (au:s b=some (.box T cs)) (aA:cR cs cs'):dq w p (s.set b (.box T cs')):=by
 refine ⟨fun x o ab=>?_,h.lt⟩;by_cases e:x=b
 ·subst e
  rw [ao.gu] at ab;cases ab;obtain ⟨vs,U,ae,an⟩:=h.obj _ _ au;exact ⟨vs,U,aA.rel ae,an⟩
 ·rw [ao.fA _ _ e] at ab;exact h.obj x o ab
theorem ao.x4 {s:ao} {b:Nat} {o o':dG} (au:s b=some o) (x:Nat):(s.set b o') x=none↔s x=none:=by
 by_cases e:x=b
 ·subst e;rw [ao.gu,au];simp
 ·rw [ao.fA _ _ e]
theorem dz.qG {N:Nat} {B:fP} {ro:Option Nat} {env:Env} {s:ao} {a:Act} {w:World} {p:bT} (h:dz N B ro env s a w p) {b:Nat} {T:TypeId} {cs cs':List af} (au:s b=some (.box T cs)) (aA:cR cs cs') :
  dz N B ro env (s.set b (.box T cs')) a w p:=by
 obtain ⟨cc,U,ae,an⟩:=h.defs
 exact ⟨h.size,h.env,h.wf.qG au aA,⟨cc,U,ae,fun d ax=>let ⟨a,b,c⟩:=an d ax;⟨a,b,(ao.x4 au d).2 c⟩⟩,
  fun l aB=>let ⟨a,b,c⟩:=h.round l aB;⟨a,b,(ao.x4 au l).2 c⟩,h.base⟩
theorem Kept.qG {s eK:ao} {w w':World} {p bk:bT} {b:Nat} {o o':dG} (au:s b=some o) (h:Kept (s.set b o') eK w p w' bk):Kept s eK w p w' bk :=
 ⟨fun x ab az=>h.heap x ab ((ao.x4 au x).2 az),fun x ab az=>h.kV x ab ((ao.x4 au x).2 az),fun x o ab az=>h.lk x o ab ((ao.x4 au x).2 az)⟩
theorem ad.qG {P:Program} {N:Nat} {Q:b8→Env→ao→Prop} {env:Env} {s:ao} {c:Code} (b:Nat) {T:TypeId} {cs:List af} (cs':List af) (au:s b=some (.box T cs)) (aA:cR cs cs')
  (h:ad P N c Q env (s.set b (.box T cs'))):ad P N c Q env s:=
 fun hg B a w p eZ aI=>mc (h hg B a w p eZ (aI.qG au aA)) fun _ _ _ ⟨x,eT,eK,bk,U,ae,an,bd,bD⟩=>⟨x,eT,eK,bk,U,ae,an,bd,bD.qG au⟩
theorem aa.qG {P:Program} {N:Nat} {ops:Array Oper} {l:List Oper} {Q:b8→Env→ao→Prop} {env:Env} {s:ao} (b:Nat) {T:TypeId} {cs:List af} (cs':List af) (au:s b=some (.box T cs)) (aA:cR cs cs')
  (h:aa P N ops l Q env (s.set b (.box T cs'))):aa P N ops l Q env s:=
 fun k aD ro B a w p aI=>vB (fun _ _ _ ⟨x,eT,eK,bk,U,ae,an,bd,bD⟩=>⟨x,eT,eK,bk,U,ae,an,bd,bD.qG au⟩) _ a w (h k aD ro B a w p (aI.qG au aA))
theorem cR.one {x y:af} (h:aS x y):cR [x] [y] := .cons h .nil
theorem cR.last {x y:af} (h:aS x y):∀ (l:List af),cR (l++[x]) (l++[y])
 | [] => .one h
 | z::l => .cons (aS.refl z) (cR.last h l)
theorem ao.set_comm (s:ao) {b c:Nat} (o o':dG) (h:b≠c):(s.set b o).set c o'=(s.set c o').set b o:=by
 funext x;simp only [ao.set];split<;>split<;>simp_all
theorem qF.ne {s:ao} {n b:Nat} {own:bM} {o:dG} (I:qF s n own) (h:s b=some o):∀ aX,own = .own aX→aX≠b:=by
 rintro aX rfl e;subst e;simp only [qF] at I;rw [I] at h;cases h
theorem qF.set {s:ao} {n m b:Nat} {own:bM} {o o':dG} (I:qF s n own) (h:s b=some o):qF (s.set b o') m own:=by
 cases own with
 | own aX=>exact (ao.x4 h aX).2 I
 | nil=>trivial
 | clip=>trivial
 | bc=>exact I
section
variable {P:Program} {Γ:cz} {N:Nat} {l:List Oper} {Q:b8→Env→ao→Prop} {env:Env} {s:ao} {m:Nat}
end
theorem ao.Sq {s t:ao} {b:Nat} {o:dG} (h:ao.Sub s t) (aq:s b=none):ao.Sub s (t.set b o):=fun x=>by
 by_cases e:x=b
 ·subst e;exact .inr aq
 ·rw [ao.fA _ _ e];exact h x
section
variable {P:Program} {Γ:cz} {N:Nat} {l:List Oper} {Q:b8→Env→ao→Prop} {env:Env} {s:ao} {m:Nat}
theorem bo.rM {J:ao→Prop} (cD:J s) {i:Nat} {o:Oper} {d:Nat} {v:af} (aF:iF l.toArray m i=true) (ah:l.toArray[i]? = some o) (ax:o.dst=some d) (aW:t6 d N=true)
  (aw:c9 l env o) (av:∀ s,J s→a7 P N o (b4 l env o) s (fun x al=>x=v∧al=s) (fun _ _=>False))
  (h:bo J P Γ N l.toArray Q (bX (m|||2^i)) ((d,v)::env) s):bo J P Γ N l.toArray Q (bX m) env s:=by
 have U:=s'.1 aF;refine bo.still cD i o d v U ah ax CB (.inr (.inr ⟨aw,av⟩)) ?_;rw [oV];exact h
theorem bf.calm {i:Nat} {o:Oper} {d:Nat} {v:af} (aF:iF l.toArray m i=true) (ah:l.toArray[i]? = some o) (ax:o.dst=some d) (aW:t6 d N=true)
  (aw:c9 l env o) (av:∀ s,a7 P N o (b4 l env o) s (fun x al=>x=v∧al=s) (fun _ _=>False))
  (h:bf P Γ N l.toArray Q (bX (m|||2^i)) ((d,v)::env) s):bf P Γ N l.toArray Q (bX m) env s:=
 bo.rM trivial aF ah ax aW aw (fun s _=>av s) h
theorem bf.Sr {i:Nat} {o:Oper} {d:Nat} {f:FuncId} {as:Array Operand} {c0:Array TypeId} {xs:List af} {v:af} (aF:iF l.toArray m i=true) (ah:l.toArray[i]? = some o) (ax:o.dst=some d) (aW:t6 d N=true)
  (aw:c9 l env o) (b5:o.op = .call { callee := .value (.func f),args:=as,argTypes:=c0 }) (a8:fQ (b4 l env o) as.toList=some xs)
  (aA:∀ s,hi P f xs s (fun o al=>o = .ret v∧al=s))
  (h:bf P Γ N l.toArray Q (bX (m|||2^i)) ((d,v)::env) s):bf P Γ N l.toArray Q (bX m) env s:=
 bf.calm aF ah ax aW aw (fun s=>(a7.call b5 (fv := .func f [] []) rfl a8 (hT.fp (R:=fun o al=>o = .ret v∧al=s) (by simpa using aA s))).mono (fun x al h=>by cases h.1;exact ⟨rfl,h.2⟩) (fun x al h=>by cases h.1)) h
def kk (P:Program) (Γ:cz) (N:Nat) (l:List Oper) (Q:b8→Env→ao→Prop) (m:Nat) (env:Env) (s:ao) (i:Nat):Prop:=
 ∃ (o:Oper) (K X:af→ao→Prop),l.toArray[i]? = some o∧guardOf l.toArray (b4 l env o) o=some true∧a7 P N o (b4 l env o) s K X∧(∀ d,o.dst=some d→d<N) ∧
  (∀ d,o.dst=some d→∀ x al,K x al→bf P Γ N l.toArray Q (bX (m|||2^i)) ((d,x)::env) al)∧(o.dst=none→∀ x al,K x al→bf P Γ N l.toArray Q (bX (m|||2^i)) env al) ∧
  ∀ x al,X x al→Q (.panic x) [] al
theorem kk.mk {i:Nat} {o:Oper} {d:Nat} {K X:af→ao→Prop} (ah:l.toArray[i]? = some o) (ax:o.dst=some d) (aW:t6 d N=true) (aw:c9 l env o)
  (h:a7 P N o (b4 l env o) s K X) (aD:∀ x al,K x al→bf P Γ N l.toArray Q (bX (m|||2^i)) ((d,x)::env) al) (ab:∀ x al,X x al→Q (.panic x) [] al):kk P Γ N l Q m env s i:=
 ⟨o,K,X,ah,aw,h,(fun c6 cm=>by rw [ax] at cm;cases cm;simpa [ak8] using aW),(fun c6 cm=>by rw [ax] at cm;cases cm;exact aD),(fun az=>by rw [ax] at az;cases az),ab⟩
theorem kk.CN {i:Nat} {o:Oper} {K X:af→ao→Prop} (ah:l.toArray[i]? = some o) (ax:o.dst=none) (aw:c9 l env o)
  (h:a7 P N o (b4 l env o) s K X) (aD:∀ x al,K x al→bf P Γ N l.toArray Q (bX (m|||2^i)) env al) (ab:∀ x al,X x al→Q (.panic x) [] al):kk P Γ N l Q m env s i:=
 ⟨o,K,X,ah,aw,h,(fun c6 cm=>by rw [ax] at cm;cases cm),(fun c6 cm=>by rw [ax] at cm;cases cm),(fun _=>aD),ab⟩
def hU (P:Program) (Γ:cz) (N:Nat) (l:List Oper) (Q:b8→Env→ao→Prop) (m:Nat) (env:Env) (s:ao):List Nat→Prop
 | []=>True
 | i::is=>kk P Γ N l Q m env s i∧hU P Γ N l Q m env s is
theorem hU.mem {i:Nat}:∀ {is:List Nat},hU P Γ N l Q m env s is→i∈is→kk P Γ N l Q m env s i
  | j::is,h,aQ=>by
    rcases ad1.1 aQ with rfl|aQ
    · exact h.1
    · exact hU.mem h.2 aQ
theorem FB {ops:Array Oper} {i:Nat}:∀ {is:List Nat},i∈eI ops m is→iF ops m i=true
  | j::is,h=>by
    simp only [eI] at h;split at h
    · rename_i aq
      rcases ad1.1 h with rfl|h
      · exact aq
      · exact FB h
    · exact FB h
theorem bf.many {i:Nat} {is:List Nat} (aF:eI l.toArray m (idxs 0 l)=i::is) (h:hU P Γ N l Q m env s (i::is)):bf P Γ N l.toArray Q (bX m) env s:=by
 have fq:∀ k,hj l.toArray (bX m) k→kk P Γ N l Q m env s k:=fun k aD=>by
  have:=zP aD (l:=idxs 0 l) (by rw [x0,an9];have:=aD.1;simp at this;omega);rw [aF] at this;exact h.mem this
 have jd:hj l.toArray (bX m) i:=s'.1 (FB (is:=idxs 0 l) (by rw [aF];exact i7 ..));refine bo.split (fun k x al=>∃ o,l.toArray[k]? = some o∧(∀ d,o.dst=some d→bf P Γ N l.toArray Q (bX (m|||2^k)) ((d,x)::env) al)∧(o.dst=none→bf P Γ N l.toArray Q (bX (m|||2^k)) env al))
  (fun k x al=>Q (.panic x) [] al) ⟨i,jd.1,jd.2.1⟩ (fun k o aD ah=>?_) (fun _ _ _ _ _ _ _ => .inl trivial) (fun k o d aD ah ax x al ⟨o',cF,U,ae⟩=>?_) (fun k o aD ah ax x al ⟨o',cF,U,ae⟩=>?_) (fun k o aD ah x al ab=>ab)
 ·obtain ⟨o',K,X,cF,aw,mn,aW,U,ae,an⟩:=fq k aD
  rw [ah] at cF;cases cF;exact ⟨aw,mn.mono (fun x al bh=>⟨o,ah,fun d ax=>U d ax x al bh,fun ax=>ae ax x al bh⟩) (fun x al iB=>an x al iB),aW⟩
 ·rw [ah] at cF;cases cF
  rw [oV];exact U d ax
 ·rw [ah] at cF;cases cF
  rw [oV];exact ae ax
end
section
variable {P:Program} {Γ:cz} {N:Nat} {ops:Array Oper} {Q:b8→Env→ao→Prop} {env:Env} {s:ao} {l:List Oper} {o:Oper} {d:Nat}
theorem a7.FC {o:Oper} {t:TypeId} {x:Operand} {v:af} {cs:List af} (ah:o.op = .box t x) (ab:aL env x=some v) (aA:cellsOf v=some cs) {X:af→ao→Prop} :
  a7 P N o env s (fun r al=>∃ b,s b=none∧r = .ptr b 0∧al=s.set b (.box t cs)) X:=by
 refine a7.ky jf fun ro B a w p aI=>?_
 have aF:=qn (aI.aL ab) aA;obtain ⟨cA,db,fe,eH⟩:=rD aI.wf (.cells (a.eval x).cells t) (.box t cs) (fun w' U ae an=>⟨(a.eval x).cells,U,an _ _ aF,fun o aE=>absurd (aI.wf.lt _ _ aE) ag⟩);refine ⟨.pointer (some ⟨w.heap.size,0,none⟩),w.alloc (.cells (a.eval x).cells t),_,p,.ptr w.heap.size 0,?_,db,fe,eH,⟨_,cA,rfl,rfl⟩,.ptr _ _⟩;unfold execOp;rw [ah];rfl
theorem aa.FC {t:TypeId} {x:Operand} {v:af} {cs:List af} (aw:guardOf ops env o=some true) (ax:o.dst=some d) (aW:t6 d N=true) (ah:o.op = .box t x) (ab:aL env x=some v) (aA:cellsOf v=some cs)
  (h:∀ b,s b=none→aa P N ops l Q ((d,.ptr b 0)::env) (s.set b (.box t cs))):aa P N ops (o::l) Q env s:=
 aa.op aw ax aW (a7.FC ah ab aA (X:=fun _ _=>False)) (fun x al ⟨b,U,ae,an⟩=>by subst ae;subst an;exact h b U) (fun _ _ h=>h.elim)
end
abbrev a':=List (bM×dG)
def lV (s:ao) (k:bM) (o:dG):ao:=match k with
 | .own b=>s.set b o
 | _=>s
def gone (s:ao) (k:bM):Prop:=match k with
 | .own b=>s b=none
 | .bc=>False
 | _=>True
def aT (s:ao):a'→ao
 | []=>s
 | e::L=>lV (aT s L) e.1 e.2
def Ok (s:ao):a'→Prop
 | []=>True
 | e::L=>gone (aT s L) e.1∧Ok s L
inductive bp:a'→bM→dG→a'→Prop
 | here {k:bM} {o:dG} {L:a'}:bp ((k,o)::L) k o L
 | there {e:bM×dG} {k:bM} {o:dG} {L R:a'} (h:bp L k o R):bp (e::L) k o (e::R)
inductive aH:a'→a'→a'→Prop
 | nil {L:a'}:aH L [] L
 | cons {k:bM} {o:dG} {L K R dx:a'} (h:bp L k o R) (t:aH R K dx):aH L ((k,o)::K) dx
theorem Kd (s:ao) (e:TypeId) (sz n:Nat) (k:bM):rowOf s e sz n k=lV s k (.row e sz n):=by cases k<;>rfl
theorem Ke {s:ao} {n:Nat} {k:bM}:qF s n k↔gone s k:=by cases k<;>exact Iff.rfl
theorem Ss {s:ao} {k k':bM} {o o':dG} (h:gone s k) (eX:gone (lV s k o) k'):gone s k'∧gone (lV s k' o') k∧lV (lV s k o) k' o'=lV (lV s k' o') k o:=by
 cases k with
 | own b=>
  cases k' with
  | own aX=>
   obtain ⟨U,ae⟩:=ao.uk eX;exact ⟨ae,(ao.fA s o' (Ne.symm U)).trans h,ao.set_comm s o o' (Ne.symm U)⟩
  | nil=>exact ⟨trivial,h,rfl⟩
  | clip=>exact ⟨trivial,h,rfl⟩
  | bc=>exact eX.elim
 | nil=>exact ⟨eX,trivial,rfl⟩
 | clip=>exact ⟨eX,trivial,rfl⟩
 | bc=>exact h.elim
theorem bp.perm {s:ao} {L R:a'} {k:bM} {o:dG} (h:bp L k o R):Ok s L→aT s L=aT s ((k,o)::R)∧Ok s ((k,o)::R):=by
 induction h with
 | here=>exact fun h=>⟨rfl,h⟩
 | @there e k o L R h a6=>
  rintro ⟨aw,I⟩;obtain ⟨U,ae,an⟩:=a6 I;rw [U] at aw;obtain ⟨g1,g2,g3⟩:=Ss (s:=aT s R) (k:=k) (o:=o) (k':=e.1) (o':=e.2) ae aw;refine ⟨?_,g2,g1,an⟩;show lV (aT s L) e.1 e.2=lV (lV (aT s R) e.1 e.2) k o;rw [U];exact g3
theorem zU (s:ao):∀ (K R:a'),aT s (K++R)=aT (aT s R) K
 | [],_=>rfl
 | e::K,R=>by show lV (aT s (K++R)) e.1 e.2=_;rw [zU s K R];rfl
theorem CO {s:ao}:∀ {K R:a'},Ok s (K++R)↔Ok (aT s R) K∧Ok s R
  | [],R=>⟨fun h=>⟨trivial,h⟩,fun h=>h.2⟩
  | e::K,R=>by
    show gone (aT s (K++R)) e.1∧Ok s (K++R)↔(gone (aT (aT s R) K) e.1∧Ok (aT s R) K)∧Ok s R;rw [zU,CO,and_assoc]
theorem aH.perm {s:ao} {L K R:a'} (h:aH L K R):Ok s L→aT s L=aT s (K++R)∧Ok s (K++R):=by
 induction h with
 | nil=>exact fun h=>⟨rfl,h⟩
 | @cons k o L K R dx h t a6=>
  intro I;obtain ⟨U,ae,an⟩:=h.perm I;obtain ⟨bd,bD⟩:=a6 an;refine ⟨?_,?_,bD⟩
  ·rw [U];show lV (aT s R) k o=lV (aT s (K++dx)) k o;rw [bd]
  ·have fk:gone (aT s R) k:=ae
   rw [bd] at fk;exact fk
theorem aH.eq {s:ao} {L K R:a'} (h:aH L K R) (I:Ok s L):aT s L=aT (aT s R) K∧Ok (aT s R) K∧Ok s R:=by
 obtain ⟨U,ae⟩:=h.perm I;rw [zU] at U;exact ⟨U,CO.1 ae⟩
theorem CP {s t:ao} {k:bM} {o:dG} (h:ao.Sub s t):ao.Sub (lV s k o) (lV t k o):=by
 cases k with
 | own b=>
  intro x;by_cases e:x=b
  ·subst e;left;show (s.set x o) x=(t.set x o) x;rw [ao.gu,ao.gu]
  ·show (s.set b o) x=(t.set b o) x∨(s.set b o) x=none
   rw [ao.fA _ _ e,ao.fA _ _ e];exact h x
 | nil=>exact h
 | clip=>exact h
 | bc=>exact h
theorem x5 {s t:ao} {k:bM} {o:dG} (h:ao.Sub s t) (aw:gone s k):ao.Sub s (lV t k o):=by
 cases k with
 | own b=>exact ao.Sq h aw
 | nil=>exact h
 | clip=>exact h
 | bc=>exact h
theorem FD {s t:ao} (h:ao.Sub s t):∀ L:a',ao.Sub (aT s L) (aT t L)
 | []=>h
 | _::L=>CP (FD h L)
theorem Kf {s t:ao} {k:bM} (h:ao.Sub s t) (aw:gone t k):gone s k:=by
 cases k with
 | own b=>exact h.none aw
 | nil=>trivial
 | clip=>trivial
 | bc=>exact aw
theorem Ok.sub {s:ao}:∀ {L:a'},Ok s L→ao.Sub s (aT s L)
 | [],_=>ao.oN _
 | e::L,h=>x5 (Ok.sub h.2) (Kf (Ok.sub h.2) h.1)
theorem Ok.n0 {s t:ao} (h:ao.Sub s t):∀ {L:a'},Ok t L→Ok s L
 | [],_=>trivial
 | e::L,I=>⟨Kf (FD h L) I.1,Ok.n0 h I.2⟩
theorem aH.sub {s:ao} {L K R:a'} (h:aH L K R) (I:Ok s L):ao.Sub (aT s K) (aT s L)∧Ok s K:=by
 obtain ⟨U,ae,an⟩:=h.eq I;rw [U];exact ⟨FD an.sub K,ae.n0 an.sub⟩
theorem bp.get {s:ao} {L R:a'} {b:Nat} {o:dG} (h:bp L (.own b) o R) (I:Ok s L):aT s L b=some o:=by
 rw [(h.perm I).1];exact ao.gu _ _ _
theorem bp.put {s:ao} {L R:a'} {b:Nat} {o:dG} (o':dG) (h:bp L (.own b) o R) (I:Ok s L):(aT s L).set b o'=aT s ((.own b,o')::R)∧Ok s ((.own b,o')::R):=by
 obtain ⟨U,ae⟩:=h.perm I;rw [U];exact ⟨ao.set_set _ _ _ _,ae⟩
theorem bp.del {s:ao} {L R:a'} {b:Nat} {o:dG} (h:bp L (.own b) o R) (I:Ok s L):(aT s L).del b=aT s R∧Ok s R:=by
 obtain ⟨U,ae⟩:=h.perm I;rw [U];exact ⟨ao.zy _ _ _ ae.1,ae.2⟩
section
variable {P:Program} {Γ:cz} {N:Nat} {ops:Array Oper} {Q:b8→Env→ao→Prop} {env:Env} {s:ao} {l:List Oper} {o:Oper} {d:Nat} {L R:a'}
theorem a7.eC (aP:bQ P Γ) (I:Ok s L) {t T:TypeId} {x:Operand} {i:bN} {b off:Nat} {cs:List af} {v:af} (ah:o.op = .load t x) (aN:Γ.get? t=some i) (ab:aL env x=some (.ptr b off))
  (au:bp L (.own b) (.box T cs) R) (av:hO i cs off=some v) {X:af→ao→Prop}:a7 P N o env (aT s L) (fun x al=>x=v∧al=aT s L) X:=
 a7.um aP ah aN ab (au.get I) av
theorem aa.eC (aP:bQ P Γ) (I:Ok s L) {t T:TypeId} {x:Operand} {i:bN} {b off:Nat} {cs:List af} {v:af} (aw:guardOf ops env o=some true) (ax:o.dst=some d) (aW:t6 d N=true) (ah:o.op = .load t x)
  (aN:Γ.get? t=some i) (ab:aL env x=some (.ptr b off)) (au:bp L (.own b) (.box T cs) R) (av:hO i cs off=some v) (h:aa P N ops l Q ((d,v)::env) (aT s L)):aa P N ops (o::l) Q env (aT s L):=
 aa.um aP aw ax aW ah aN ab (au.get I) av h
theorem a7.cS (aP:bQ P Γ) (I:Ok s L) {t T:TypeId} {x y:Operand} {i:bN} {b off:Nat} {cs us:List af} {v:af} (ah:o.op = .store t x y) (aN:Γ.get? t=some i) (ab:aL env x=some (.ptr b off))
  (ay:aL env y=some v) (av:cellsOf v=some us) (hu:ac' us.length i.size=true) (U:us.all fa=true) (au:bp L (.own b) (.box T cs) R) (fB:al5 (off+us.length) cs.length=true) {X:af→ao→Prop} :
  a7 P N o env (aT s L) (fun _ al=>al=aT s ((.own b,.box T (eU off us cs))::R)∧Ok s ((.own b,.box T (eU off us cs))::R)) X:=by
 obtain ⟨ae,an⟩:=au.put (.box T (eU off us cs)) I;exact (a7.Ci aP ah aN ab ay av hu U (au.get I) fB (X:=X)).mono (fun _ al h=>⟨h.trans ae,an⟩) (fun _ _ h=>h)
theorem aa.cS (aP:bQ P Γ) (I:Ok s L) {t T:TypeId} {x y:Operand} {i:bN} {b off:Nat} {cs us:List af} {v:af} (aw:guardOf ops env o=some true) (ax:o.dst=none) (ah:o.op = .store t x y)
  (aN:Γ.get? t=some i) (ab:aL env x=some (.ptr b off)) (ay:aL env y=some v) (av:cellsOf v=some us) (hu:ac' us.length i.size=true) (U:us.all fa=true)
  (au:bp L (.own b) (.box T cs) R) (fB:al5 (off+us.length) cs.length=true) (h:Ok s ((.own b,.box T (eU off us cs))::R)→aa P N ops l Q env (aT s ((.own b,.box T (eU off us cs))::R))):aa P N ops (o::l) Q env (aT s L):=
 aa.vC aw ax (a7.cS aP I ah aN ab ay av hu U au fB (X:=fun _ _=>False)) (fun x al ⟨ae,an⟩=>by subst ae;exact h an) (fun _ _ h=>h.elim)
theorem a7.d' (aP:bQ P Γ) (I:Ok s L) {t:TypeId} {i:bN} {z:af} {cs:List af} (ah:o.op = .alloc t) (aN:Γ.get? t=some i) (bO:hC i.zero=some z) (aA:cellsOf z=some cs) {X:af→ao→Prop} :
  a7 P N o env (aT s L) (fun x al=>∃ b,x = .ptr b 0∧al=aT s ((.own b,.box t cs)::L)∧Ok s ((.own b,.box t cs)::L)) X:=
 (a7.alloc aP ah aN bO aA (X:=X)).mono (fun x al ⟨b,U,ae,an⟩=>⟨b,ae,an,U,I⟩) (fun _ _ h=>h)
theorem aa.d' (aP:bQ P Γ) (I:Ok s L) {t:TypeId} {i:bN} {z:af} {cs:List af} (aw:guardOf ops env o=some true) (ax:o.dst=some d) (aW:t6 d N=true) (ah:o.op = .alloc t) (aN:Γ.get? t=some i)
  (bO:hC i.zero=some z) (aA:cellsOf z=some cs) (h:∀ b,Ok s ((.own b,.box t cs)::L)→aa P N ops l Q ((d,.ptr b 0)::env) (aT s ((.own b,.box t cs)::L))):aa P N ops (o::l) Q env (aT s L):=
 aa.op aw ax aW (a7.d' aP I ah aN bO aA (X:=fun _ _=>False)) (fun x al ⟨b,U,ae,an⟩=>by subst U;subst ae;exact h b an) (fun _ _ h=>h.elim)
theorem a7.jL (I:Ok s L) {t:TypeId} {x:Operand} {v:af} {cs:List af} (ah:o.op = .box t x) (ab:aL env x=some v) (aA:cellsOf v=some cs) {X:af→ao→Prop} :
  a7 P N o env (aT s L) (fun x al=>∃ b,x = .ptr b 0∧al=aT s ((.own b,.box t cs)::L)∧Ok s ((.own b,.box t cs)::L)) X:=
 (a7.FC ah ab aA (X:=X)).mono (fun x al ⟨b,U,ae,an⟩=>⟨b,ae,an,U,I⟩) (fun _ _ h=>h)
theorem aa.jL (I:Ok s L) {t:TypeId} {x:Operand} {v:af} {cs:List af} (aw:guardOf ops env o=some true) (ax:o.dst=some d) (aW:t6 d N=true) (ah:o.op = .box t x) (ab:aL env x=some v) (aA:cellsOf v=some cs)
  (h:∀ b,Ok s ((.own b,.box t cs)::L)→aa P N ops l Q ((d,.ptr b 0)::env) (aT s ((.own b,.box t cs)::L))):aa P N ops (o::l) Q env (aT s L):=
 aa.op aw ax aW (a7.jL I ah ab aA (X:=fun _ _=>False)) (fun x al ⟨b,U,ae,an⟩=>by subst U;subst ae;exact h b an) (fun _ _ h=>h.elim)
theorem a7.rN (I:Ok s L) {t:TypeId} (ah:o.op = .makeMap t none) {X:af→ao→Prop} :
  a7 P N o env (aT s L) (fun x al=>∃ b,x = .map b∧al=aT s ((.own b,.map [])::L)∧Ok s ((.own b,.map [])::L)) X:=
 (a7.makeMap ah (X:=X)).mono (fun x al ⟨b,U,ae,an⟩=>⟨b,ae,an,U,I⟩) (fun _ _ h=>h)
theorem aa.rN (I:Ok s L) {t:TypeId} (aw:guardOf ops env o=some true) (ax:o.dst=some d) (aW:t6 d N=true) (ah:o.op = .makeMap t none)
  (h:∀ b,Ok s ((.own b,.map [])::L)→aa P N ops l Q ((d,.map b)::env) (aT s ((.own b,.map [])::L))):aa P N ops (o::l) Q env (aT s L):=
 aa.op aw ax aW (a7.rN I ah (X:=fun _ _=>False)) (fun x al ⟨b,U,ae,an⟩=>by subst U;subst ae;exact h b an) (fun _ _ h=>h.elim)
theorem a7.jw (aP:bQ P Γ) (I:Ok s L) {t dY e0:TypeId} {x y:Operand} {ok:Bool} {it gL aG:bN} {m:Nat} {es:List (af×af)} {k z:af} {r:Option af} (ah:o.op = .lookup t x y ok) (aN:Γ.get? t=some it)
  (bs:it.bG = .map dY e0) (h0:Γ.get? dY=some gL) (bI:Γ.get? e0=some aG) (ab:aL env x=some (.map m)) (ay:aL env y=some k) (au:bp L (.own m) (.map es) R) (aZ:kf gL.bG k=true) (aF:jb es k=some r)
  (bO:hC aG.zero=some z) {X:af→ao→Prop}:a7 P N o env (aT s L) (fun x al=>x=lP ok z r∧al=aT s L) X:=
 a7.lookup aP ah aN bs h0 bI ab ay (.inl ⟨m,rfl,au.get I⟩) aZ aF bO
theorem aa.jw (aP:bQ P Γ) (I:Ok s L) {t dY e0:TypeId} {x y:Operand} {ok:Bool} {it gL aG:bN} {m:Nat} {es:List (af×af)} {k z:af} {r:Option af} (aw:guardOf ops env o=some true) (ax:o.dst=some d) (aW:t6 d N=true)
  (ah:o.op = .lookup t x y ok) (aN:Γ.get? t=some it) (bs:it.bG = .map dY e0) (h0:Γ.get? dY=some gL) (bI:Γ.get? e0=some aG) (ab:aL env x=some (.map m)) (ay:aL env y=some k) (au:bp L (.own m) (.map es) R)
  (aZ:kf gL.bG k=true) (aF:jb es k=some r) (bO:hC aG.zero=some z) (h:aa P N ops l Q ((d,lP ok z r)::env) (aT s L)):aa P N ops (o::l) Q env (aT s L):=
 aa.lookup aP aw ax aW ah aN bs h0 bI ab ay (au.get I) aZ aF bO h
theorem a7.mW (aP:bQ P Γ) (I:Ok s L) {t dY e0:TypeId} {x y z:Operand} {it gL:bN} {b:Nat} {es dy:List (af×af)} {k v:af} (ah:o.op = .mapUpdate t x y z∨o.op = .insert t x y z)
  (aN:Γ.get? t=some it) (bs:it.bG = .map dY e0) (h0:Γ.get? dY=some gL) (ab:aL env x=some (.map b)) (ay:aL env y=some k) (bO:aL env z=some v) (au:bp L (.own b) (.map es) R) (aZ:kf gL.bG k=true)
  (aE:lO es k v=some dy) {X:af→ao→Prop}:a7 P N o env (aT s L) (fun _ al=>al=aT s ((.own b,.map dy)::R)∧Ok s ((.own b,.map dy)::R)) X:=by
 obtain ⟨ae,an⟩:=au.put (.map dy) I;exact (a7.mapUpdate aP ah aN bs h0 ab ay bO (au.get I) aZ aE (X:=X)).mono (fun _ al h=>⟨h.trans ae,an⟩) (fun _ _ h=>h)
theorem aa.mW (aP:bQ P Γ) (I:Ok s L) {t dY e0:TypeId} {x y z:Operand} {it gL:bN} {b:Nat} {es dy:List (af×af)} {k v:af} (aw:guardOf ops env o=some true) (ax:o.dst=none) (ah:o.op = .mapUpdate t x y z∨o.op = .insert t x y z)
  (aN:Γ.get? t=some it) (bs:it.bG = .map dY e0) (h0:Γ.get? dY=some gL) (ab:aL env x=some (.map b)) (ay:aL env y=some k) (bO:aL env z=some v) (au:bp L (.own b) (.map es) R) (aZ:kf gL.bG k=true)
  (aE:lO es k v=some dy) (h:Ok s ((.own b,.map dy)::R)→aa P N ops l Q env (aT s ((.own b,.map dy)::R))):aa P N ops (o::l) Q env (aT s L):=
 aa.vC aw ax (a7.mW aP I ah aN bs h0 ab ay bO au aZ aE (X:=fun _ _=>False)) (fun x al ⟨ae,an⟩=>by subst ae;exact h an) (fun _ _ h=>h.elim)
theorem a7.qH (aP:bQ P Γ) (I:Ok s L) {t bH e:TypeId} {x y:Operand} {it cw aG:bN} {dZ bU sz n n':Nat} {xs ys:List af} {own dk:bM}
  (ah:o.op = .call { callee := .builtin .append,args := #[x,y],argTypes := #[t,bH] }) (aN:Γ.get? t=some it) (bs:it.bG = .aC e) (cZ:Γ.get? bH=some cw) (dr:∀ k,cw.bG ≠ .int k)
  (bI:Γ.get? e=some aG) (ab:aL env x=some (.aC dZ xs own)) (ay:aL env y=some (.aC bU ys dk)) (hE:dZ=aG.size) (c8:ys=[]∨bU=aG.size)
  (dV:ac' aG.zero.cells.size aG.size=true) (dP:∀ y∈ys,kh aG.size y=true) (aq:(xs.length+ys.length)*aG.bytes≤140737488355328) (er:xs.length+ys.length≤9223372036854775807)
  (az:n=xs.length) (gd:n'=xs.length+ys.length) (ca:sz=aG.size) (au:bp L own (.row e sz n) R) {X:af→ao→Prop} :
  a7 P N o env (aT s L) (fun r al=>∃ cQ,(ys≠[]→∃ b,cQ = .own b)∧(∀ b,own = .own b→∃ aX,cQ = .own aX)∧r = .aC sz (xs++ys) cQ∧al=aT s ((cQ,.row e sz n')::R)∧Ok s ((cQ,.row e sz n')::R)) X:=by
 subst ca;subst gd;obtain ⟨U,ae,an⟩:=au.perm I;have bd:aT s L=rowOf (aT s R) e aG.size n own:=U.trans (Kd _ _ _ _ _).symm;rw [bd];refine (a7.Fz aP ah aN bs cZ dr bI ab ay hE c8 dV dP aq er az (Ke.2 ae) (X:=X)).mono ?_ (fun _ _ h=>h);rintro r al ⟨cQ,g1,g2,g3,rfl,rfl⟩;exact ⟨cQ,g2,g3,rfl,Kd _ _ _ _ _,Ke.1 g1,an⟩
theorem aa.gf (aP:bQ P Γ) (I:Ok s L) {t bH e:TypeId} {x y:Operand} {it cw aG:bN} {dZ bU sz n:Nat} {xs:List af} {v:af} {own dk:bM} (aw:guardOf ops env o=some true) (ax:o.dst=some d) (aW:t6 d N=true)
  (ah:o.op = .call { callee := .builtin .append,args := #[x,y],argTypes := #[t,bH] }) (aN:Γ.get? t=some it) (bs:it.bG = .aC e) (cZ:Γ.get? bH=some cw) (dr:∀ k,cw.bG ≠ .int k)
  (bI:Γ.get? e=some aG) (ab:aL env x=some (.aC dZ xs own)) (ay:aL env y=some (.aC bU [v] dk)) (hE:dZ=aG.size) (c8:bU=aG.size)
  (dV:ac' aG.zero.cells.size aG.size=true) (dP:kh aG.size v=true) (ca:sz=aG.size) (au:bp L own (.row e sz n) R) (az:n=xs.length) (aq:(n+1)*aG.bytes≤140737488355328) (er:n+1≤9223372036854775807)
  (h:∀ b,Ok s ((.own b,.row e sz (n+1))::R)→aa P N ops l Q ((d,.aC sz (xs++[v]) (.own b))::env) (aT s ((.own b,.row e sz (n+1))::R))):aa P N ops (o::l) Q env (aT s L):=by
 subst az;refine aa.op aw ax aW (a7.qH aP I ah aN bs cZ dr bI ab ay hE (.inr c8) dV (by intro y ay;simp at ay;subst ay;exact dP) aq er C (n':=xs.length+1) C ca au (X:=fun _ _=>False)) ?_ (fun _ _ h=>h.elim);rintro r al ⟨cQ,ae,-,rfl,rfl,an⟩;obtain ⟨b,rfl⟩:=ae ba;exact h b an
theorem aa.qH (aP:bQ P Γ) (I:Ok s L) {t bH e:TypeId} {x y:Operand} {it cw aG:bN} {dZ bU sz n n':Nat} {xs ys:List af} {own dk:bM} (aw:guardOf ops env o=some true) (ax:o.dst=some d) (aW:t6 d N=true)
  (ah:o.op = .call { callee := .builtin .append,args := #[x,y],argTypes := #[t,bH] }) (aN:Γ.get? t=some it) (bs:it.bG = .aC e) (cZ:Γ.get? bH=some cw) (dr:∀ k,cw.bG ≠ .int k)
  (bI:Γ.get? e=some aG) (ab:aL env x=some (.aC dZ xs own)) (ay:aL env y=some (.aC bU ys dk)) (hE:dZ=aG.size) (c8:ys=[]∨bU=aG.size)
  (dV:ac' aG.zero.cells.size aG.size=true) (dP:∀ y∈ys,kh aG.size y=true) (ca:sz=aG.size) (au:bp L own (.row e sz n) R) (az:n=xs.length) (gd:n'=xs.length+ys.length) (aq:(xs.length+ys.length)*aG.bytes≤140737488355328) (er:xs.length+ys.length≤9223372036854775807)
  (h:∀ cQ,Ok s ((cQ,.row e sz n')::R)→aa P N ops l Q ((d,.aC sz (xs++ys) cQ)::env) (aT s ((cQ,.row e sz n')::R))):aa P N ops (o::l) Q env (aT s L):=by
 refine aa.op aw ax aW (a7.qH aP I ah aN bs cZ dr bI ab ay hE c8 dV dP aq er az gd ca au (X:=fun _ _=>False)) ?_ (fun _ _ h=>h.elim);rintro r al ⟨cQ,-,-,rfl,rfl,an⟩;exact h cQ an
theorem ad.mo {c:Code} (I:Ok s L) (t b:Nat) {T:TypeId} {cs:List af} (aN:env.get? t=some (.ptr b 0)) (au:bp L (.own b) (.box T cs) R) (h:Ok s R→ad P N c Q ((t,.bA cs 0)::env) (aT s R)):ad P N c Q env (aT s L):=by
 obtain ⟨U,ae⟩:=au.del I;refine ad.freeze t b aN (au.get I) ?_;rw [U];exact h ae
theorem aa.mo (I:Ok s L) (t b:Nat) {T:TypeId} {cs:List af} (aN:env.get? t=some (.ptr b 0)) (au:bp L (.own b) (.box T cs) R) (h:Ok s R→aa P N ops l Q ((t,.bA cs 0)::env) (aT s R)):aa P N ops l Q env (aT s L):=by
 obtain ⟨U,ae⟩:=au.del I;refine aa.freeze t b aN (au.get I) ?_;rw [U];exact h ae
theorem ad.wv {c:Code} (I:Ok s L) (b:Nat) {T:TypeId} {cs:List af} (cs':List af) (au:bp L (.own b) (.box T cs) R) (aA:cR cs cs') (h:Ok s ((.own b,.box T cs')::R)→ad P N c Q env (aT s ((.own b,.box T cs')::R))):ad P N c Q env (aT s L):=by
 obtain ⟨U,ae⟩:=au.put (.box T cs') I;refine ad.qG b cs' (au.get I) aA ?_;rw [U];exact h ae
theorem aa.wv (I:Ok s L) (b:Nat) {T:TypeId} {cs:List af} (cs':List af) (au:bp L (.own b) (.box T cs) R) (aA:cR cs cs') (h:Ok s ((.own b,.box T cs')::R)→aa P N ops l Q env (aT s ((.own b,.box T cs')::R))):aa P N ops l Q env (aT s L):=by
 obtain ⟨U,ae⟩:=au.put (.box T cs') I;refine aa.qG b cs' (au.get I) aA ?_;rw [U];exact h ae
theorem ad.mq {c:Code} (I:Ok s L) (K:a') (au:aH L K R) (h:Ok s K→ad P N c Q env (aT s K)):ad P N c Q env (aT s L):=by
 obtain ⟨U,ae⟩:=au.sub I;exact ad.drop _ U (h ae)
theorem aa.mq (I:Ok s L) (K:a') (au:aH L K R) (h:Ok s K→aa P N ops l Q env (aT s K)):aa P N ops l Q env (aT s L):=by
 obtain ⟨U,ae⟩:=au.sub I;exact aa.drop _ U (h ae)
end
def uC (s:ao) (R:eB→a'→Prop) (o:eB) (al:ao):Prop:=∃ K,al=aT s K∧Ok s K∧R o K
def bE (P:Program) (f:FuncId) (args:List af) (K:a') (R:eB→a'→Prop):Prop:=∀ s,Ok s K→hi P f args (aT s K) (uC s R)
def dt (P:Program) (fv:af) (args:List af) (K:a') (R:eB→a'→Prop):Prop:=∀ s,Ok s K→hT P fv args (aT s K) (uC s R)
def aR (P:Program) (f:FuncId) (args:List af) (v:af):Prop:=∀ s,hi P f args s (fun o al=>o = .ret v∧al=s)
def eE (P:Program) (fv:af) (args:List af) (v:af):Prop:=∀ s,hT P fv args s (fun o al=>o = .ret v∧al=s)
theorem eE.fp {P:Program} {f:FuncId} {first cap args:List af} {v:af} (h:aR P f (first++(args++cap)) v):eE P (.func f first cap) args v:=fun s=>hT.fp (h s)
section
variable {P:Program} {Γ:cz} {N:Nat} {ops:Array Oper} {Q:b8→Env→ao→Prop} {env:Env} {s:ao} {l:List Oper} {o:Oper} {d:Nat} {L R K:a'} {acv:eB→a'→Prop}
theorem aa.mr {g:Operand} {fv:af} {as:Array Operand} {c0:Array TypeId} {xs:List af} {v:af} (aw:guardOf ops env o=some true) (ax:o.dst=some d) (aW:t6 d N=true)
  (b5:o.op = .call { callee := .value g,args:=as,argTypes:=c0 }) (av:aL env g=some fv) (a8:fQ env as.toList=some xs) (h:eE P fv xs v) (aD:aa P N ops l Q ((d,v)::env) s):aa P N ops (o::l) Q env s:=
 aa.Ff aw ax aW b5 av a8 (h s) (fun x al ⟨U,ae⟩=>by cases U;subst ae;exact aD) (fun x al ⟨U,_⟩=>by cases U)
theorem bE.mono {f:FuncId} {args:List af} {zV:eB→a'→Prop} (h:bE P f args K acv) (aF:∀ o K,acv o K→zV o K):bE P f args K zV :=
 fun s I=>(h s I).mono fun o al ⟨aO,U,ae,an⟩=>⟨aO,U,ae,aF _ _ an⟩
theorem dt.mono {fv:af} {args:List af} {zV:eB→a'→Prop} (h:dt P fv args K acv) (aF:∀ o K,acv o K→zV o K):dt P fv args K zV :=
 fun s I=>(h s I).mono fun o al ⟨aO,U,ae,an⟩=>⟨aO,U,ae,aF _ _ an⟩
theorem bE.at {f:FuncId} {args:List af} (h:bE P f args K acv) (I:Ok s L) (au:aH L K R):hi P f args (aT s L) (uC s fun o M=>∃ aO,M=aO++R∧acv o aO):=by
 obtain ⟨U,ae,an⟩:=au.eq I;rw [U];refine (h _ ae).mono ?_;rintro o al ⟨aO,rfl,g2,g3⟩;exact ⟨aO++R,(zU _ _ _).symm,CO.2 ⟨g2,an⟩,aO,rfl,g3⟩
theorem dt.at {fv:af} {args:List af} (h:dt P fv args K acv) (I:Ok s L) (au:aH L K R):hT P fv args (aT s L) (uC s fun o M=>∃ aO,M=aO++R∧acv o aO):=by
 obtain ⟨U,ae,an⟩:=au.eq I;rw [U];refine (h _ ae).mono ?_;rintro o al ⟨aO,rfl,g2,g3⟩;exact ⟨aO++R,(zU _ _ _).symm,CO.2 ⟨g2,an⟩,aO,rfl,g3⟩
theorem dt.fp {f:FuncId} {first cap args:List af} (h:bE P f (first++(args++cap)) K acv):dt P (.func f first cap) args K acv:=fun s I=>hT.fp (h s I)
theorem a7.b9 {f:FuncId} {as:Array Operand} {c0:Array TypeId} {xs:List af} (b5:o.op = .call { callee := .value (.func f),args:=as,argTypes:=c0 }) (a8:fQ env as.toList=some xs)
  (h:bE P f xs K acv) (I:Ok s L) (au:aH L K R) :
  a7 P N o env (aT s L) (fun x al=>∃ aO,al=aT s (aO++R)∧Ok s (aO++R)∧acv (.ret x) aO) (fun x al=>∃ aO,al=aT s (aO++R)∧Ok s (aO++R)∧acv (.panic x) aO):=by
 refine (a7.call b5 (fv := .func f [] []) C a8 (hT.fp (by simpa using h.at I au))).mono ?_ ?_
 ·rintro x al ⟨M,rfl,ae,aO,rfl,an⟩;exact ⟨aO,rfl,ae,an⟩
 ·rintro x al ⟨M,rfl,ae,aO,rfl,an⟩;exact ⟨aO,rfl,ae,an⟩
theorem a7.gM {g:Operand} {fv:af} {as:Array Operand} {c0:Array TypeId} {xs:List af} (b5:o.op = .call { callee := .value g,args:=as,argTypes:=c0 }) (av:aL env g=some fv) (a8:fQ env as.toList=some xs)
  (h:dt P fv xs K acv) (I:Ok s L) (au:aH L K R) :
  a7 P N o env (aT s L) (fun x al=>∃ aO,al=aT s (aO++R)∧Ok s (aO++R)∧acv (.ret x) aO) (fun x al=>∃ aO,al=aT s (aO++R)∧Ok s (aO++R)∧acv (.panic x) aO):=by
 refine (a7.call b5 av a8 (h.at I au)).mono ?_ ?_
 ·rintro x al ⟨M,rfl,ae,aO,rfl,an⟩;exact ⟨aO,rfl,ae,an⟩
 ·rintro x al ⟨M,rfl,ae,aO,rfl,an⟩;exact ⟨aO,rfl,ae,an⟩
theorem aa.b9 {f:FuncId} {as:Array Operand} {c0:Array TypeId} {xs:List af} (aw:guardOf ops env o=some true) (ax:o.dst=some d) (aW:t6 d N=true)
  (b5:o.op = .call { callee := .value (.func f),args:=as,argTypes:=c0 }) (a8:fQ env as.toList=some xs) (h:bE P f xs K acv) (I:Ok s L) (au:aH L K R)
  (aD:∀ x aO,acv (.ret x) aO→Ok s (aO++R)→aa P N ops l Q ((d,x)::env) (aT s (aO++R))) (ab:∀ x aO,acv (.panic x) aO→Ok s (aO++R)→Q (.panic x) env (aT s (aO++R))):aa P N ops (o::l) Q env (aT s L):=
 aa.op aw ax aW (a7.b9 b5 a8 h I au) (fun x al ⟨aO,U,ae,an⟩=>by subst U;exact aD x aO an ae) (fun x al ⟨aO,U,ae,an⟩=>by subst U;exact ab x aO an ae)
theorem aa.gM {g:Operand} {fv:af} {as:Array Operand} {c0:Array TypeId} {xs:List af} (aw:guardOf ops env o=some true) (ax:o.dst=some d) (aW:t6 d N=true)
  (b5:o.op = .call { callee := .value g,args:=as,argTypes:=c0 }) (av:aL env g=some fv) (a8:fQ env as.toList=some xs) (h:dt P fv xs K acv) (I:Ok s L) (au:aH L K R)
  (aD:∀ x aO,acv (.ret x) aO→Ok s (aO++R)→aa P N ops l Q ((d,x)::env) (aT s (aO++R))) (ab:∀ x aO,acv (.panic x) aO→Ok s (aO++R)→Q (.panic x) env (aT s (aO++R))):aa P N ops (o::l) Q env (aT s L):=
 aa.op aw ax aW (a7.gM b5 av a8 h I au) (fun x al ⟨aO,U,ae,an⟩=>by subst U;exact aD x aO an ae) (fun x al ⟨aO,U,ae,an⟩=>by subst U;exact ab x aO an ae)
theorem aa.dQ {f:FuncId} {as:Array Operand} {c0:Array TypeId} {xs:List af} {v:af} (aw:guardOf ops env o=some true) (ax:o.dst=some d) (aW:t6 d N=true)
  (b5:o.op = .call { callee := .value (.func f),args:=as,argTypes:=c0 }) (a8:fQ env as.toList=some xs) (h:aR P f xs v) (aD:aa P N ops l Q ((d,v)::env) s):aa P N ops (o::l) Q env s:=
 aa.JN aw ax aW b5 a8 (h s) aD
theorem bE.xV (aP:bQ P Γ) {f:FuncId} {fn:Func} {c:Code} {args:List af} (aA:s6 P f) (aZ:P.funcs[f]? = some fn) (aq:fn.body=some c)
  (aW:al5 args.length fn.ntmps=true) (h:∀ s,Ok s K→ad P fn.ntmps c (Fin Γ fn.results.toList (uC s acv)) (rG 0 args) (aT s K)):bE P f args K acv:=
 fun s I=>hi.xV aP aA aZ aq aW (h s I)
theorem aR.xV (aP:bQ P Γ) {f:FuncId} {fn:Func} {c:Code} {args:List af} {v:af} (aA:s6 P f) (aZ:P.funcs[f]? = some fn) (aq:fn.body=some c)
  (aW:al5 args.length fn.ntmps=true) (h:∀ s,Ok s []→ad P fn.ntmps c (Fin Γ fn.results.toList (fun o al=>o = .ret v∧al=s)) (rG 0 args) (aT s [])):aR P f args v:=
 fun s=>hi.xV aP aA aZ aq aW (h s trivial)
theorem bE.bj (aP:bQ P Γ) {f:FuncId} {fn:Func} {c:Code} {args:List af} (aZ:P.funcs[f]? = some fn) (aq:fn.body=some c) (aW:Nat.ble args.length fn.ntmps=true) (h:∀ s,Ok s K→ad P fn.ntmps c (Fin Γ fn.results.toList (uC s acv)) (rG 0 args) (aT s K)) (az:(fn.name == "runtime.NumGoroutine")=false:=by kernel_rfl):bE P f args K acv:=bE.xV aP (zF aZ az (by rw [aq];rfl)) aZ aq aW h
theorem aR.bj (aP:bQ P Γ) {f:FuncId} {fn:Func} {c:Code} {args:List af} {v:af} (aZ:P.funcs[f]? = some fn) (aq:fn.body=some c) (aW:Nat.ble args.length fn.ntmps=true) (h:∀ s,Ok s []→ad P fn.ntmps c (Fin Γ fn.results.toList (fun o al=>o = .ret v∧al=s)) (rG 0 args) (aT s [])) (az:(fn.name == "runtime.NumGoroutine")=false:=by kernel_rfl):aR P f args v:=aR.xV aP (zF aZ az (by rw [aq];rfl)) aZ aq aW h
theorem Fin.bz {rs:List ResultVar} {r r':af} (I:Ok s L) (aF:nZ Γ env (aT s L) rs=some r) (hle:aS r r') (au:aH L K R) (e4:acv (.ret r') K):∃ r r' al,nZ Γ env (aT s L) rs=some r∧aS r r'∧ao.Sub al (aT s L)∧uC s acv (.ret r') al:=by
 obtain ⟨U,ae⟩:=au.sub I;exact ⟨r,r',_,aF,hle,U,K,rfl,ae,e4⟩
theorem Fin.cp {rs:List ResultVar} {r v:af} (I:Ok s L) (aF:nZ Γ env (aT s L) rs=some r) (hle:aS r v):∃ r r' al,nZ Γ env (aT s L) rs=some r∧aS r r'∧ao.Sub al (aT s L)∧(eB.ret r' = .ret v∧al=s):=
 ⟨r,v,s,aF,hle,I.sub,rfl,rfl⟩
theorem Fin.fc {v fz:af} (I:Ok s L) (hle:aS v fz) (au:aH L K R) (e4:acv (.panic fz) K):∃ fz al,aS v fz∧ao.Sub al (aT s L)∧uC s acv (.panic fz) al:=by
 obtain ⟨U,ae⟩:=au.sub I;exact ⟨fz,_,hle,U,K,rfl,ae,e4⟩
theorem Env.Sub.append {a b env:Env} (h:Env.Sub a env) (k:Env.Sub b env):Env.Sub (a++b) env:=by
 induction a with
 | nil=>exact k
 | cons x a a6=>exact ⟨h.1,a6 h.2⟩
def wx:List Nat→Env→Env→Env×Unit
  | [],_,acc=>(acc,())
  | t::gv,env,acc=>match env.get? t with
    | some v=>wx gv env ((t,v)::acc)
    | none=>wx gv env acc
theorem zW:∀ (gv:List Nat) (acc E:Env),Env.Sub acc env→wx gv env acc=(E,())→Env.Sub E env
  | [],acc,E,h,e=>by cases e;exact h
  | t::gv,acc,E,h,e=>by
    simp only [wx] at e;split at e
    · rename_i v av;exact zW gv ((t,v)::acc) E ⟨⟨v,av,aS.refl _⟩,h⟩ e
    · exact zW gv _ E h e
theorem ad.td {c:Code} (gv:List Nat) {E:Env} (h:wx gv env []=(E,())) (k:ad P N c Q E s):ad P N c Q env s:=ad.sub E (zW gv [] E trivial h) k
theorem aa.td (gv:List Nat) {E:Env} (h:wx gv env []=(E,())) (k:aa P N ops l Q E s):aa P N ops l Q env s:=aa.sub E (zW gv [] E trivial h) k
def bn {σ:Type} (s:ao) (E:σ→Env) (K:σ→a') (acW:σ→Prop) (ok:σ→Prop) (eT:Env) (al:ao):Prop:=
 ∃ y n2 dx,acW y∧ok y∧Env.Sub (E y) eT∧al=aT s n2∧Ok s n2∧aH n2 (K y) dx
theorem ad.x6 {σ:Type} {c:Code} (I:Ok s L) (E:σ→Env) (K:σ→a') (acW:σ→Prop) (μ:σ→Nat) (nS:σ) {FE:a'} (ak:acW nS) (dH:Env.Sub (E nS) env) (cj:aH L (K nS) FE)
  (round:∀ x,acW x→Ok s (K x)→ad P N c (b8.andThen (bn s E K acW (fun y=>μ y<μ x)) Q) (E x) (aT s (K x))):ad P N (.loop c) Q env (aT s L):=by
 obtain ⟨U,ae⟩:=cj.sub I;refine ad.loop E (fun x=>aT s (K x)) (fun x=>acW x∧Ok s (K x)) μ nS ⟨ak,ae⟩ dH U ?_;rintro x ⟨ab,St⟩;refine (round x ab St).mono ?_;intro e eT al h;cases e with
 | normal=>
  obtain ⟨y,n2,dx,g1,g2,g3,rfl,g4,g5⟩:=h;obtain ⟨cA,db⟩:=g5.sub g4;exact ⟨y,⟨g1,db⟩,g3,cA,g2⟩
 | exit id=>exact h
 | ret=>exact h
 | panic v=>exact h
theorem bn.mk {σ:Type} {E:σ→Env} {K:σ→a'} {acW:σ→Prop} {ok:σ→Prop} (y:σ) {dx:a'} (I:Ok s L) (ak:acW y) (dH:Env.Sub (E y) env) (cj:aH L (K y) dx) (hm:ok y):bn s E K acW ok env (aT s L):=⟨y,L,dx,ak,hm,dH,rfl,I,cj⟩
def lW {σ:Type} (s:ao) (E:σ→Env) (K:σ→a') (acW:σ→Prop) (e:b8) (eT:Env) (al:ao):Prop:=
 e = .normal∧∃ y n2 dx,acW y∧Env.Sub (E y) eT∧al=aT s n2∧Ok s n2∧aH n2 (K y) dx
theorem lW.mk {σ:Type} {E:σ→Env} {K:σ→a'} {acW:σ→Prop} (y:σ) {dx:a'} (I:Ok s L) (ak:acW y) (dH:Env.Sub (E y) env) (cj:aH L (K y) dx):lW s E K acW .normal env (aT s L):=⟨rfl,y,L,dx,ak,dH,rfl,I,cj⟩
theorem ad.x7 {σ:Type} {x y:Code} {oJ:b8→Env→ao→Prop} (E:σ→Env) (K:σ→a') (acW:σ→Prop) (wo:ad P N x (lW s E K acW) env (aT s L)) (wq:∀ z,acW z→Ok s (K z)→ad P N y Q (E z) (aT s (K z))) :
  ad P N x (b8.andThen (ad P N y Q) oJ) env (aT s L):=by
 refine wo.mono ?_;rintro e eT al ⟨rfl,z,n2,dx,g1,g2,rfl,g3,g4⟩;obtain ⟨cA,db⟩:=g4.sub g3;exact ad.sub _ g2 (ad.drop _ cA (wq z g1 db))
theorem ad.Su {σ:Type} {x y:Code} (E:σ→Env) (K:σ→a') (acW:σ→Prop) (wo:ad P N x (lW s E K acW) env (aT s L)) (wq:∀ z,acW z→Ok s (K z)→ad P N y Q (E z) (aT s (K z))):ad P N (.seq x y) Q env (aT s L):=
 ad.seq (ad.x7 E K acW wo wq)
end
section
variable {P:Program} {Γ:cz} {N:Nat} {l:List Oper} {Q:b8→Env→ao→Prop} {env:Env} {s:ao} {m:Nat} {L R:a'}
theorem bf.CQ {i:Nat} {o:Oper} {d:Nat} {f:FuncId} {as:Array Operand} {c0:Array TypeId} {xs:List af} {v:af} (aF:iF l.toArray m i=true) (ah:l.toArray[i]? = some o) (ax:o.dst=some d) (aW:t6 d N=true)
  (aw:c9 l env o) (b5:o.op = .call { callee := .value (.func f),args:=as,argTypes:=c0 }) (a8:fQ (b4 l env o) as.toList=some xs) (h:aR P f xs v)
  (k:bf P Γ N l.toArray Q (bX (m|||2^i)) ((d,v)::env) s):bf P Γ N l.toArray Q (bX m) env s:=
 bf.Sr aF ah ax aW aw b5 a8 h k
theorem bf.eC (i:Nat) (aP:bQ P Γ) (I:Ok s L) {o:Oper} {d:Nat} {t T:TypeId} {x:Operand} {ee:bN} {b off:Nat} {cs:List af} {v:af} (aF:eI l.toArray m (idxs 0 l)=[i]) (ah:l.toArray[i]? = some o) (ax:o.dst=some d)
  (aW:t6 d N=true) (aw:c9 l env o) (b5:o.op = .load t x) (aN:Γ.get? t=some ee) (ab:aL (b4 l env o) x=some (.ptr b off))
  (au:bp L (.own b) (.box T cs) R) (av:hO ee cs off=some v) (h:bf P Γ N l.toArray Q (bX (m|||2^i)) ((d,v)::env) (aT s L)):bf P Γ N l.toArray Q (bX m) env (aT s L):=
 bf.one aF ah ax aW aw (a7.eC aP I b5 aN ab au av (X:=fun _ _=>False)) (fun x al ⟨U,ae⟩=>by subst U;subst ae;exact h) (fun _ _ h=>h.elim)
theorem bf.cS (i:Nat) (aP:bQ P Γ) (I:Ok s L) {o:Oper} {t T:TypeId} {x y:Operand} {ee:bN} {b off:Nat} {cs us:List af} {v:af} (aF:eI l.toArray m (idxs 0 l)=[i]) (ah:l.toArray[i]? = some o) (ax:o.dst=none)
  (aw:c9 l env o) (b5:o.op = .store t x y) (aN:Γ.get? t=some ee) (ab:aL (b4 l env o) x=some (.ptr b off)) (ay:aL (b4 l env o) y=some v)
  (av:cellsOf v=some us) (hu:ac' us.length ee.size=true) (U:us.all fa=true) (au:bp L (.own b) (.box T cs) R) (fB:al5 (off+us.length) cs.length=true)
  (h:Ok s ((.own b,.box T (eU off us cs))::R)→bf P Γ N l.toArray Q (bX (m|||2^i)) env (aT s ((.own b,.box T (eU off us cs))::R))):bf P Γ N l.toArray Q (bX m) env (aT s L):=
 bf.x1 aF ah ax aw (a7.cS aP I b5 aN ab ay av hu U au fB (X:=fun _ _=>False)) (fun x al ⟨U,ae⟩=>by subst U;exact h ae) (fun _ _ h=>h.elim)
theorem bf.d' (i:Nat) (aP:bQ P Γ) (I:Ok s L) {o:Oper} {d:Nat} {t:TypeId} {ee:bN} {z:af} {cs:List af} (aF:eI l.toArray m (idxs 0 l)=[i]) (ah:l.toArray[i]? = some o) (ax:o.dst=some d)
  (aW:t6 d N=true) (aw:c9 l env o) (b5:o.op = .alloc t) (aN:Γ.get? t=some ee) (bO:hC ee.zero=some z) (aA:cellsOf z=some cs)
  (h:∀ b,Ok s ((.own b,.box t cs)::L)→bf P Γ N l.toArray Q (bX (m|||2^i)) ((d,.ptr b 0)::env) (aT s ((.own b,.box t cs)::L))):bf P Γ N l.toArray Q (bX m) env (aT s L):=
 bf.one aF ah ax aW aw (a7.d' aP I b5 aN bO aA (X:=fun _ _=>False)) (fun x al ⟨b,U,ae,an⟩=>by subst U;subst ae;exact h b an) (fun _ _ h=>h.elim)
theorem bf.gf (i:Nat) (aP:bQ P Γ) (I:Ok s L) {o:Oper} {d:Nat} {t bH e:TypeId} {x y:Operand} {it cw aG:bN} {dZ bU sz n:Nat} {xs:List af} {v:af} {own dk:bM} (aF:eI l.toArray m (idxs 0 l)=[i]) (ah:l.toArray[i]? = some o)
  (ax:o.dst=some d) (aW:t6 d N=true) (aw:c9 l env o) (b5:o.op = .call { callee := .builtin .append,args := #[x,y],argTypes := #[t,bH] }) (aN:Γ.get? t=some it)
  (bs:it.bG = .aC e) (cZ:Γ.get? bH=some cw) (dr:∀ k,cw.bG ≠ .int k) (bI:Γ.get? e=some aG) (ab:aL (b4 l env o) x=some (.aC dZ xs own)) (ay:aL (b4 l env o) y=some (.aC bU [v] dk)) (hE:dZ=aG.size) (c8:bU=aG.size)
  (dV:ac' aG.zero.cells.size aG.size=true) (dP:kh aG.size v=true) (ca:sz=aG.size) (au:bp L own (.row e sz n) R) (az:n=xs.length) (aq:(n+1)*aG.bytes≤140737488355328) (er:n+1≤9223372036854775807)
  (h:∀ b,Ok s ((.own b,.row e sz (n+1))::R)→bf P Γ N l.toArray Q (bX (m|||2^i)) ((d,.aC sz (xs++[v]) (.own b))::env) (aT s ((.own b,.row e sz (n+1))::R))):bf P Γ N l.toArray Q (bX m) env (aT s L):=by
 subst az;refine bf.one aF ah ax aW aw (a7.qH aP I b5 aN bs cZ dr bI ab ay hE (.inr c8) dV (by intro y ay;simp at ay;subst ay;exact dP) aq er C (n':=xs.length+1) C ca au (X:=fun _ _=>False)) ?_ (fun _ _ h=>h.elim);rintro r al ⟨cQ,ae,-,rfl,rfl,an⟩;obtain ⟨b,rfl⟩:=ae ba;exact h b an
end
section
variable {P:Program} {Γ:cz} {N:Nat} {ops:Array Oper} {Q:b8→Env→ao→Prop} {env:Env} {s:ao} {o:Oper} {d:Nat}
theorem a7.weaken {K X aO nj:af→ao→Prop} (h:a7 P N o env s K X) (bh:∀ x al,K x al→∃ y eK,aS x y∧ao.Sub eK al∧aO y eK) (iB:∀ x al,X x al→∃ eK,ao.Sub eK al∧nj x eK):a7 P N o env s aO nj:=by
 refine ⟨h.1,fun ro B a w p aI=>(h.2 ro B a w p aI).mono ?_⟩;rintro e w' ⟨al,bk,U,ae,an,bd⟩;cases e with
 | returned v=>
  obtain ⟨x,aD,aF⟩:=bd;obtain ⟨y,eK,hle,au,eG⟩:=bh x al aD;exact ⟨eK,bk,U,ae.sub au,an.sub au,y,eG,hle _ _ _ aF⟩
 | panicked dF=>
  obtain ⟨v,x,kW,aD,aF⟩:=bd;obtain ⟨eK,au,eG⟩:=iB x al aD;exact ⟨eK,bk,U,ae.sub au,an.sub au,v,x,kW,eG,aF⟩
 | outgrown=>exact bd.elim
theorem a7.rO (aP:bQ P Γ) {t bH e:TypeId} {x y:Operand} {it cw aG:bN} {dZ bU:Nat} {xs ys:List af} {own dk:bM}
  (ah:o.op = .call { callee := .builtin .append,args := #[x,y],argTypes := #[t,bH] }) (aN:Γ.get? t=some it) (bs:it.bG = .aC e) (cZ:Γ.get? bH=some cw) (dr:∀ k,cw.bG ≠ .int k)
  (bI:Γ.get? e=some aG) (ab:aL env x=some (.aC dZ xs own)) (ay:aL env y=some (.aC bU ys dk)) (hE:xs=[]∨dZ=aG.size) (c8:ys=[]∨bU=aG.size)
  (dV:ac' aG.zero.cells.size aG.size=true) (dP:∀ y∈ys,kh aG.size y=true) (aq:(xs.length+ys.length)*aG.bytes≤140737488355328) (er:xs.length+ys.length≤9223372036854775807)
  (pL:own = .nil∨own = .clip) {X:af→ao→Prop}:a7 P N o env s (fun r al=>r = .aC aG.size (xs++ys) .bc∧al=s) X:=by
 refine (a7.append aP ah aN bs cZ dr bI ab ay hE c8 dV dP aq er (.inl pL) (X:=X)).weaken ?_ (fun _ al h=>⟨al,ao.oN _,h⟩);rintro r al (⟨rfl,_,rfl,rfl⟩|⟨s₁,vT,b,U,rfl,rfl⟩)
 ·exact ⟨_,_,by rw [d7];exact aS.bc,ao.oN _,rfl,rfl⟩
 ·rcases vT with rfl|⟨aX,rfl,rfl⟩
  ·exact ⟨_,_,aS.bc,ao.vL _ _ _ U,rfl,rfl⟩
  ·rcases pL with e|e<;>cases e
theorem aa.rO (aP:bQ P Γ) {l:List Oper} {t bH e:TypeId} {x y:Operand} {it cw aG:bN} {dZ bU:Nat} {xs ys:List af} {own dk:bM} (aw:guardOf ops env o=some true) (ax:o.dst=some d) (aW:t6 d N=true)
  (ah:o.op = .call { callee := .builtin .append,args := #[x,y],argTypes := #[t,bH] }) (aN:Γ.get? t=some it) (bs:it.bG = .aC e) (cZ:Γ.get? bH=some cw) (dr:∀ k,cw.bG ≠ .int k)
  (bI:Γ.get? e=some aG) (ab:aL env x=some (.aC dZ xs own)) (ay:aL env y=some (.aC bU ys dk)) (hE:xs=[]∨dZ=aG.size) (c8:ys=[]∨bU=aG.size)
  (dV:ac' aG.zero.cells.size aG.size=true) (dP:∀ y∈ys,kh aG.size y=true) (aq:(xs.length+ys.length)*aG.bytes≤140737488355328) (er:xs.length+ys.length≤9223372036854775807)
  (pL:own = .nil∨own = .clip) (h:aa P N ops l Q ((d,.aC aG.size (xs++ys) .bc)::env) s):aa P N ops (o::l) Q env s:=
 aa.op aw ax aW (a7.rO aP ah aN bs cZ dr bI ab ay hE c8 dV dP aq er pL (X:=fun _ _=>False)) (fun x al ⟨U,ae⟩=>by subst U;subst ae;exact h) (fun _ _ h=>h.elim)
theorem bf.rO (i:Nat) (aP:bQ P Γ) {l:List Oper} {m:Nat} {t bH e:TypeId} {x y:Operand} {it cw aG:bN} {dZ bU:Nat} {xs ys:List af} {own dk:bM} (aF:iF l.toArray m i=true) (aQ:l.toArray[i]? = some o) (ax:o.dst=some d) (aW:t6 d N=true)
  (aw:c9 l env o)
  (ah:o.op = .call { callee := .builtin .append,args := #[x,y],argTypes := #[t,bH] }) (aN:Γ.get? t=some it) (bs:it.bG = .aC e) (cZ:Γ.get? bH=some cw) (dr:∀ k,cw.bG ≠ .int k)
  (bI:Γ.get? e=some aG) (ab:aL (b4 l env o) x=some (.aC dZ xs own)) (ay:aL (b4 l env o) y=some (.aC bU ys dk)) (hE:xs=[]∨dZ=aG.size) (c8:ys=[]∨bU=aG.size)
  (dV:ac' aG.zero.cells.size aG.size=true) (dP:∀ y∈ys,kh aG.size y=true) (aq:(xs.length+ys.length)*aG.bytes≤140737488355328) (er:xs.length+ys.length≤9223372036854775807)
  (pL:own = .nil∨own = .clip) (h:bf P Γ N l.toArray Q (bX (m|||2^i)) ((d,.aC aG.size (xs++ys) .bc)::env) s):bf P Γ N l.toArray Q (bX m) env s:=
 bf.calm aF aQ ax aW aw (fun _=>a7.rO aP ah aN bs cZ dr bI ab ay hE c8 dV dP aq er pL) h
end
def dR:List (Nat×dG)→ao→Prop
 | [],_=>True
 | e::K,s=>s e.1=some e.2∧dR K s
theorem dR.one {b:Nat} {o:dG} {s:ao} (h:s b=some o):dR [(b,o)] s:=⟨h,trivial⟩
theorem dR.two {b aX:Nat} {o o':dG} {s:ao} (h:s b=some o) (eX:s aX=some o'):dR [(b,o),(aX,o')] s:=⟨h,eX,trivial⟩
theorem dR.fst {b:Nat} {o:dG} {K:List (Nat×dG)} {s:ao} (h:dR ((b,o)::K) s):s b=some o:=h.1
theorem dR.snd {e:Nat×dG} {b:Nat} {o:dG} {K:List (Nat×dG)} {s:ao} (h:dR (e::(b,o)::K) s):s b=some o:=h.2.1
section
variable {J:ao→Prop} {P:Program} {Γ:cz} {N:Nat} {l:List Oper} {Q:b8→Env→ao→Prop} {env:Env} {s:ao} {m:Nat} {L R:a'} {o:Oper} {d:Nat}
theorem bo.n3 (i:Nat) (aP:bQ P Γ) (cD:J s) {t T:TypeId} {x:Operand} {ee:bN} {b off:Nat} {cs:List af} {v:af} (aF:iF l.toArray m i=true) (ah:l.toArray[i]? = some o) (ax:o.dst=some d) (aW:t6 d N=true)
  (aw:c9 l env o) (b5:o.op = .load t x) (aN:Γ.get? t=some ee) (ab:aL (b4 l env o) x=some (.ptr b off)) (au:∀ s,J s→s b=some (.box T cs)) (av:hO ee cs off=some v)
  (h:bo J P Γ N l.toArray Q (bX (m|||2^i)) ((d,v)::env) s):bo J P Γ N l.toArray Q (bX m) env s:=
 bo.rM cD aF ah ax aW aw (fun s hG=>a7.um aP b5 aN ab (au s hG) av) h
theorem bo.rO (i:Nat) (aP:bQ P Γ) (cD:J s) {t bH e:TypeId} {x y:Operand} {it cw aG:bN} {dZ bU:Nat} {xs ys:List af} {own dk:bM} (aF:iF l.toArray m i=true) (aQ:l.toArray[i]? = some o) (ax:o.dst=some d) (aW:t6 d N=true)
  (aw:c9 l env o)
  (ah:o.op = .call { callee := .builtin .append,args := #[x,y],argTypes := #[t,bH] }) (aN:Γ.get? t=some it) (bs:it.bG = .aC e) (cZ:Γ.get? bH=some cw) (dr:∀ k,cw.bG ≠ .int k)
  (bI:Γ.get? e=some aG) (ab:aL (b4 l env o) x=some (.aC dZ xs own)) (ay:aL (b4 l env o) y=some (.aC bU ys dk)) (hE:xs=[]∨dZ=aG.size) (c8:ys=[]∨bU=aG.size)
  (dV:ac' aG.zero.cells.size aG.size=true) (dP:∀ y∈ys,kh aG.size y=true) (aq:(xs.length+ys.length)*aG.bytes≤140737488355328) (er:xs.length+ys.length≤9223372036854775807)
  (pL:own = .nil∨own = .clip) (h:bo J P Γ N l.toArray Q (bX (m|||2^i)) ((d,.aC aG.size (xs++ys) .bc)::env) s):bo J P Γ N l.toArray Q (bX m) env s:=
 bo.rM cD aF aQ ax aW aw (fun _ _=>a7.rO aP ah aN bs cZ dr bI ab ay hE c8 dV dP aq er pL) h
theorem bo.CQ {i:Nat} (cD:J s) {f:FuncId} {as:Array Operand} {c0:Array TypeId} {xs:List af} {v:af} (aF:iF l.toArray m i=true) (ah:l.toArray[i]? = some o) (ax:o.dst=some d) (aW:t6 d N=true)
  (aw:c9 l env o) (b5:o.op = .call { callee := .value (.func f),args:=as,argTypes:=c0 }) (a8:fQ (b4 l env o) as.toList=some xs) (h:aR P f xs v)
  (k:bo J P Γ N l.toArray Q (bX (m|||2^i)) ((d,v)::env) s):bo J P Γ N l.toArray Q (bX m) env s:=
 bo.rM cD aF ah ax aW aw (fun s _=>(a7.call b5 (fv := .func f [] []) rfl a8 (hT.fp (R:=fun o al=>o = .ret v∧al=s) (by simpa using h s))).mono (fun x al h=>by cases h.1;exact ⟨rfl,h.2⟩) (fun x al h=>by cases h.1)) k
theorem bo.cS (i:Nat) (aP:bQ P Γ) (I:Ok s L) {t T:TypeId} {x y:Operand} {ee:bN} {b off:Nat} {cs us:List af} {v:af} (aF:eI l.toArray m (idxs 0 l)=[i]) (ah:l.toArray[i]? = some o) (ax:o.dst=none)
  (aw:c9 l env o) (b5:o.op = .store t x y) (aN:Γ.get? t=some ee) (ab:aL (b4 l env o) x=some (.ptr b off)) (ay:aL (b4 l env o) y=some v)
  (av:cellsOf v=some us) (hu:ac' us.length ee.size=true) (U:us.all fa=true) (au:bp L (.own b) (.box T cs) R) (fB:al5 (off+us.length) cs.length=true)
  (aK:Ok s ((.own b,.box T (eU off us cs))::R)→J (aT s ((.own b,.box T (eU off us cs))::R))∨kE l.toArray i=true)
  (h:Ok s ((.own b,.box T (eU off us cs))::R)→bo J P Γ N l.toArray Q (bX (m|||2^i)) env (aT s ((.own b,.box T (eU off us cs))::R))):bo J P Γ N l.toArray Q (bX m) env (aT s L):=
 bo.x1 aF ah ax aw (a7.cS aP I b5 aN ab ay av hu U au fB (X:=fun _ _=>False)) (fun x al ⟨U,ae⟩=>by subst U;exact aK ae) (fun x al ⟨U,ae⟩=>by subst U;exact h ae) (fun _ _ h=>h.elim)
theorem bo.d' (i:Nat) (aP:bQ P Γ) (I:Ok s L) {t:TypeId} {ee:bN} {z:af} {cs:List af} (aF:eI l.toArray m (idxs 0 l)=[i]) (ah:l.toArray[i]? = some o) (ax:o.dst=some d)
  (aW:t6 d N=true) (aw:c9 l env o) (b5:o.op = .alloc t) (aN:Γ.get? t=some ee) (bO:hC ee.zero=some z) (aA:cellsOf z=some cs)
  (aK:∀ b,Ok s ((.own b,.box t cs)::L)→J (aT s ((.own b,.box t cs)::L))∨kE l.toArray i=true)
  (h:∀ b,Ok s ((.own b,.box t cs)::L)→bo J P Γ N l.toArray Q (bX (m|||2^i)) ((d,.ptr b 0)::env) (aT s ((.own b,.box t cs)::L))):bo J P Γ N l.toArray Q (bX m) env (aT s L):=
 bo.one aF ah ax aW aw (a7.d' aP I b5 aN bO aA (X:=fun _ _=>False)) (fun x al ⟨b,U,ae,an⟩=>by subst U;subst ae;exact aK b an) (fun x al ⟨b,U,ae,an⟩=>by subst U;subst ae;exact h b an) (fun _ _ h=>h.elim)
theorem bo.qH (i:Nat) (aP:bQ P Γ) (I:Ok s L) {t bH e:TypeId} {x y:Operand} {it cw aG:bN} {dZ bU sz n n':Nat} {xs ys:List af} {own dk:bM} (aF:eI l.toArray m (idxs 0 l)=[i]) (ah:l.toArray[i]? = some o)
  (ax:o.dst=some d) (aW:t6 d N=true) (aw:c9 l env o) (b5:o.op = .call { callee := .builtin .append,args := #[x,y],argTypes := #[t,bH] }) (aN:Γ.get? t=some it)
  (bs:it.bG = .aC e) (cZ:Γ.get? bH=some cw) (dr:∀ k,cw.bG ≠ .int k) (bI:Γ.get? e=some aG) (ab:aL (b4 l env o) x=some (.aC dZ xs own)) (ay:aL (b4 l env o) y=some (.aC bU ys dk)) (hE:dZ=aG.size) (c8:ys=[]∨bU=aG.size)
  (dV:ac' aG.zero.cells.size aG.size=true) (dP:∀ y∈ys,kh aG.size y=true) (ca:sz=aG.size) (au:bp L own (.row e sz n) R) (az:n=xs.length) (gd:n'=xs.length+ys.length) (aq:(xs.length+ys.length)*aG.bytes≤140737488355328) (er:xs.length+ys.length≤9223372036854775807)
  (aK:∀ cQ,Ok s ((cQ,.row e sz n')::R)→J (aT s ((cQ,.row e sz n')::R))∨kE l.toArray i=true)
  (h:∀ cQ,Ok s ((cQ,.row e sz n')::R)→bo J P Γ N l.toArray Q (bX (m|||2^i)) ((d,.aC sz (xs++ys) cQ)::env) (aT s ((cQ,.row e sz n')::R))):bo J P Γ N l.toArray Q (bX m) env (aT s L):=by
 refine bo.one aF ah ax aW aw (a7.qH aP I b5 aN bs cZ dr bI ab ay hE c8 dV dP aq er az gd ca au (X:=fun _ _=>False)) ?_ ?_ (fun _ _ h=>h.elim)
 ·rintro r al ⟨cQ,-,-,rfl,rfl,an⟩
  exact aK cQ an
 ·rintro r al ⟨cQ,-,-,rfl,rfl,an⟩
  exact h cQ an
theorem bo.gf (i:Nat) (aP:bQ P Γ) (I:Ok s L) {t bH e:TypeId} {x y:Operand} {it cw aG:bN} {dZ bU sz n:Nat} {xs:List af} {v:af} {own dk:bM} (aF:eI l.toArray m (idxs 0 l)=[i]) (ah:l.toArray[i]? = some o)
  (ax:o.dst=some d) (aW:t6 d N=true) (aw:c9 l env o) (b5:o.op = .call { callee := .builtin .append,args := #[x,y],argTypes := #[t,bH] }) (aN:Γ.get? t=some it)
  (bs:it.bG = .aC e) (cZ:Γ.get? bH=some cw) (dr:∀ k,cw.bG ≠ .int k) (bI:Γ.get? e=some aG) (ab:aL (b4 l env o) x=some (.aC dZ xs own)) (ay:aL (b4 l env o) y=some (.aC bU [v] dk)) (hE:dZ=aG.size) (c8:bU=aG.size)
  (dV:ac' aG.zero.cells.size aG.size=true) (dP:kh aG.size v=true) (ca:sz=aG.size) (au:bp L own (.row e sz n) R) (az:n=xs.length) (aq:(n+1)*aG.bytes≤140737488355328) (er:n+1≤9223372036854775807)
  (aK:∀ cQ,Ok s ((cQ,.row e sz (n+1))::R)→J (aT s ((cQ,.row e sz (n+1))::R))∨kE l.toArray i=true)
  (h:∀ cQ,Ok s ((cQ,.row e sz (n+1))::R)→bo J P Γ N l.toArray Q (bX (m|||2^i)) ((d,.aC sz (xs++[v]) cQ)::env) (aT s ((cQ,.row e sz (n+1))::R))):bo J P Γ N l.toArray Q (bX m) env (aT s L):=by
 subst az;exact bo.qH i aP I aF ah ax aW aw b5 aN bs cZ dr bI ab ay hE (.inr c8) dV (by intro y ay;simp at ay;subst ay;exact dP) ca au C C aq er aK h
theorem bo.b9 {acv:eB→a'→Prop} {K:a'} {i:Nat} {f:FuncId} {as:Array Operand} {c0:Array TypeId} {xs:List af} (aF:eI l.toArray m (idxs 0 l)=[i]) (ah:l.toArray[i]? = some o) (ax:o.dst=some d) (aW:t6 d N=true)
  (aw:c9 l env o) (b5:o.op = .call { callee := .value (.func f),args:=as,argTypes:=c0 }) (a8:fQ (b4 l env o) as.toList=some xs) (h:bE P f xs K acv) (I:Ok s L) (au:aH L K R)
  (aK:∀ x aO,acv (.ret x) aO→Ok s (aO++R)→J (aT s (aO++R))∨kE l.toArray i=true)
  (aD:∀ x aO,acv (.ret x) aO→Ok s (aO++R)→bo J P Γ N l.toArray Q (bX (m|||2^i)) ((d,x)::env) (aT s (aO++R))) (ab:∀ x aO,acv (.panic x) aO→Ok s (aO++R)→Q (.panic x) [] (aT s (aO++R))):bo J P Γ N l.toArray Q (bX m) env (aT s L):=
 bo.one aF ah ax aW aw (a7.b9 b5 a8 h I au) (fun x al ⟨aO,U,ae,an⟩=>by subst U;exact aK x aO an ae) (fun x al ⟨aO,U,ae,an⟩=>by subst U;exact aD x aO an ae) (fun x al ⟨aO,U,ae,an⟩=>by subst U;exact ab x aO an ae)
theorem bo.gM {acv:eB→a'→Prop} {K:a'} {i:Nat} {g:Operand} {fv:af} {as:Array Operand} {c0:Array TypeId} {xs:List af} (aF:eI l.toArray m (idxs 0 l)=[i]) (ah:l.toArray[i]? = some o) (ax:o.dst=some d) (aW:t6 d N=true)
  (aw:c9 l env o) (b5:o.op = .call { callee := .value g,args:=as,argTypes:=c0 }) (av:aL (b4 l env o) g=some fv) (a8:fQ (b4 l env o) as.toList=some xs) (h:dt P fv xs K acv) (I:Ok s L) (au:aH L K R)
  (aK:∀ x aO,acv (.ret x) aO→Ok s (aO++R)→J (aT s (aO++R))∨kE l.toArray i=true)
  (aD:∀ x aO,acv (.ret x) aO→Ok s (aO++R)→bo J P Γ N l.toArray Q (bX (m|||2^i)) ((d,x)::env) (aT s (aO++R))) (ab:∀ x aO,acv (.panic x) aO→Ok s (aO++R)→Q (.panic x) [] (aT s (aO++R))):bo J P Γ N l.toArray Q (bX m) env (aT s L):=
 bo.one aF ah ax aW aw (a7.gM b5 av a8 h I au) (fun x al ⟨aO,U,ae,an⟩=>by subst U;exact aK x aO an ae) (fun x al ⟨aO,U,ae,an⟩=>by subst U;exact aD x aO an ae) (fun x al ⟨aO,U,ae,an⟩=>by subst U;exact ab x aO an ae)
end
section
variable {J:ao→Prop} {P:Program} {Γ:cz} {N:Nat} {ops:Array Oper} {Q:b8→Env→ao→Prop} {env:Env} {s:ao} {o:Oper} {d m:Nat} {L:a'} {l:List Oper}
theorem a7.zX (aP:bQ P Γ) (I:Ok s L) {t bH e:TypeId} {x y:Operand} {it cw aG:bN} {dZ bU sz n':Nat} {ys:List af} {dk:bM}
  (ah:o.op = .call { callee := .builtin .append,args := #[x,y],argTypes := #[t,bH] }) (aN:Γ.get? t=some it) (bs:it.bG = .aC e) (cZ:Γ.get? bH=some cw) (dr:∀ k,cw.bG ≠ .int k)
  (bI:Γ.get? e=some aG) (ab:aL env x=some (.aC dZ [] .nil)) (ay:aL env y=some (.aC bU ys dk)) (c8:ys=[]∨bU=aG.size)
  (dV:ac' aG.zero.cells.size aG.size=true) (dP:∀ y∈ys,kh aG.size y=true) (ca:sz=aG.size) (gd:n'=ys.length) (aq:n'*aG.bytes≤140737488355328) (er:n'≤9223372036854775807) {X:af→ao→Prop} :
  a7 P N o env (aT s L) (fun r al=>∃ cQ,r = .aC sz ys cQ∧al=aT s ((cQ,.row e sz n')::L)∧Ok s ((cQ,.row e sz n')::L)) X:=by
 subst ca;subst gd;refine (a7.append aP ah aN bs cZ dr bI ab ay (.inl C) c8 dV dP (by simpa using aq) (by simpa using er) (.inl (.inl C)) (X:=X)).mono ?_ (fun _ _ h=>h);rintro r al (⟨U,-,rfl,rfl⟩|⟨s₁,vT,b,U,rfl,rfl⟩)
 ·exact ⟨.nil,by rw [U],rfl,trivial,I⟩
 ·rcases vT with rfl|⟨aX,e,-⟩
  ·exact ⟨.own b,by simp,by simp only [List.length_nil,Nat.zero_add];rfl,U,I⟩
  ·cases e
theorem aa.zX (aP:bQ P Γ) (I:Ok s L) {t bH e:TypeId} {x y:Operand} {it cw aG:bN} {dZ bU sz n':Nat} {ys:List af} {dk:bM} (aw:guardOf ops env o=some true) (ax:o.dst=some d) (aW:t6 d N=true)
  (ah:o.op = .call { callee := .builtin .append,args := #[x,y],argTypes := #[t,bH] }) (aN:Γ.get? t=some it) (bs:it.bG = .aC e) (cZ:Γ.get? bH=some cw) (dr:∀ k,cw.bG ≠ .int k)
  (bI:Γ.get? e=some aG) (ab:aL env x=some (.aC dZ [] .nil)) (ay:aL env y=some (.aC bU ys dk)) (c8:ys=[]∨bU=aG.size)
  (dV:ac' aG.zero.cells.size aG.size=true) (dP:∀ y∈ys,kh aG.size y=true) (ca:sz=aG.size) (gd:n'=ys.length) (aq:n'*aG.bytes≤140737488355328) (er:n'≤9223372036854775807)
  (h:∀ cQ,Ok s ((cQ,.row e sz n')::L)→aa P N ops l Q ((d,.aC sz ys cQ)::env) (aT s ((cQ,.row e sz n')::L))):aa P N ops (o::l) Q env (aT s L):=
 aa.op aw ax aW (a7.zX aP I ah aN bs cZ dr bI ab ay c8 dV dP ca gd aq er (X:=fun _ _=>False)) (fun r al ⟨cQ,U,ae,an⟩=>by subst U;subst ae;exact h cQ an) (fun _ _ h=>h.elim)
theorem bo.zX (i:Nat) (aP:bQ P Γ) (I:Ok s L) {t bH e:TypeId} {x y:Operand} {it cw aG:bN} {dZ bU sz n':Nat} {ys:List af} {dk:bM} (aF:eI l.toArray m (idxs 0 l)=[i]) (aQ:l.toArray[i]? = some o) (ax:o.dst=some d) (aW:t6 d N=true)
  (aw:c9 l env o)
  (ah:o.op = .call { callee := .builtin .append,args := #[x,y],argTypes := #[t,bH] }) (aN:Γ.get? t=some it) (bs:it.bG = .aC e) (cZ:Γ.get? bH=some cw) (dr:∀ k,cw.bG ≠ .int k)
  (bI:Γ.get? e=some aG) (ab:aL (b4 l env o) x=some (.aC dZ [] .nil)) (ay:aL (b4 l env o) y=some (.aC bU ys dk)) (c8:ys=[]∨bU=aG.size)
  (dV:ac' aG.zero.cells.size aG.size=true) (dP:∀ y∈ys,kh aG.size y=true) (ca:sz=aG.size) (gd:n'=ys.length) (aq:n'*aG.bytes≤140737488355328) (er:n'≤9223372036854775807)
  (aK:∀ cQ,Ok s ((cQ,.row e sz n')::L)→J (aT s ((cQ,.row e sz n')::L))∨kE l.toArray i=true)
  (h:∀ cQ,Ok s ((cQ,.row e sz n')::L)→bo J P Γ N l.toArray Q (bX (m|||2^i)) ((d,.aC sz ys cQ)::env) (aT s ((cQ,.row e sz n')::L))):bo J P Γ N l.toArray Q (bX m) env (aT s L):=
 bo.one aF aQ ax aW aw (a7.zX aP I ah aN bs cZ dr bI ab ay c8 dV dP ca gd aq er (X:=fun _ _=>False)) (fun r al ⟨cQ,U,ae,an⟩=>by subst U;subst ae;exact aK cQ an) (fun r al ⟨cQ,U,ae,an⟩=>by subst U;subst ae;exact h cQ an) (fun _ _ h=>h.elim)
end
end Go.cW
