import Derived.KernelRfl
import Derived.Test.YtimbpjfhekcofaaGreatKa
import Derived.Laws.IdiomRangeMap
set_option linter.unusedVariables false
set_option linter.unusedSimpArgs false
open Array renaming getElem?_eq_some_iff→t6,getElem?_setIfInBounds→aj9,isEmpty→aH9
open Bool renaming and_eq_true→d6,false_eq_true→aj2
open Go.IntKind renaming wrap→ai'
open List renaming append_nil→d7,eq_nil_of_length_eq_zero→ak7,filter_eq_self→aw8,map_cons→ai2,mem_cons_self→g8,mem_cons→ai1,mem_map_of_mem→av0,mem_range'_1→aw1,nodup_cons→ar3
open Nat renaming beq_refl→ay',beq→aj4,ble→ar4,blt_eq→as4,blt→af',eq_of_beq_eq_true→ai3,le_refl→t7,zero_le→g9
open Go.Result renaming andThen_ok→i0
open Go.Sem renaming runT_eq→ay6,run_bind→H1,run_pure→ai5,run→ay0
namespace Go.Proofs.YtimbpjfhekcofaaGreat
theorem DE {p:Prop} (h:p:=by simpa [Nat.blt_eq] using a1):p:=h
theorem hZ {p:Prop} (h:p:=by simp [gS,ai]):p:=h
def DF:ds→Bool
 | .hz _ _ _ _=>false
 | _=>true
theorem G7 {w w':World} {p bg:bV} {b:Nat} {o:ds} (aZ:DF o=true) (h:rl w p b o) (hle:c2 w p w' bg) (c4:w'.heap[b]? = w.heap[b]?) (aB:∀ x,bg b x→p b x):rl w' bg b o:=by
 cases o with
 | box t c=>obtain ⟨us,g1,g2,g3⟩:=h;exact ⟨us,c4.trans g1,g2.mono hle,fun o ai=>g3 o (aB o ai)⟩
 | row t sz n=>obtain ⟨cur,g1,g2,g3,g4⟩:=h;exact ⟨cur,c4.trans g1,g2,g3,fun o=>⟨fun ai=>(g4 o).1 (aB o ai),fun ai=>hle.lG _ _ ((g4 o).2 ai)⟩⟩
 | map es=>obtain ⟨cr,c,g1,g2,g3⟩:=h;exact ⟨cr,c,c4.trans g1,⟨g2.1.mono hle,g2.2.mono hle⟩,g3⟩
 | hz es it l c=>cases aZ
 | tick m=>obtain ⟨fg,a2,a3,g1⟩:=h;exact ⟨fg,a2,a3,c4.trans g1⟩
 | loop r env=>exact ⟨c4.trans h.1,fun t v aD=>(h.2 t v aD).mono hle⟩
theorem DG {s an:ao} {w w':World} {p bg:bV} {b:Nat} {o:ds} (aq:s b=none) (aZ:DF o=true) (ca:dn w p (s.set b o)) (hle:c2 w p w' bg) (ax:Kept s an w p w' bg) (ln:dn w' bg an) :
  an b=none∧Kept (s.set b o) (an.set b o) w p w' bg∧dn w' bg (an.set b o):=by
 have ai:=ca.obj b o (ao.fH _ _ _);have au:=ai.lt;have av:=ax.la b au aq;refine ⟨av,⟨fun aW dH al=>?_,fun aW dH al=>?_,fun aW x dH al aa=>?_⟩,⟨fun aW o' dH=>?_,ln.lt⟩⟩
 ·obtain ⟨U,ad⟩:=ao.u7 al;exact ax.heap aW dH ad
 ·obtain ⟨U,ad⟩:=ao.u7 al;rw [ao.eQ _ _ U];exact ax.la aW dH ad
 ·obtain ⟨U,ad⟩:=ao.u7 al;exact ax.lG aW x dH ad aa
 ·by_cases e:aW=b
  ·subst e
   rw [ao.fH] at dH;cases dH;exact G7 aZ ai hle (ax.heap aW au aq) (fun x aa=>ax.lG aW x au aq aa)
  ·rw [ao.eQ _ _ e] at dH;exact ln.obj aW o' dH
theorem iN.frame {P:Program} {fv:ag} {args:List ag} {s:ao} {R:eS→ao→Prop} (b:Nat) (o:ds) (aq:s b=none) (aZ:DF o=true) (h:iN P fv args s R) :
  iN P fv args (s.set b o) (fun out an=>∃ s₁,s₁ b=none∧an=s₁.set b o∧R out s₁):=by
 intro w p v vs ca aD gE;refine (h w p v vs (ca.sub (ao.wT s b o aq)) aD gE).mono ?_;rintro e w' ⟨out,an,bg,U,ad,aj,bk,bF⟩;obtain ⟨ck,cL,ev⟩:=DG aq aZ ca aj bk bF;exact ⟨out,an.set b o,bg,U,⟨an,ck,rfl,ad⟩,aj,cL,ev⟩
theorem hX.frame {P:Program} {f:FuncId} {args:List ag} {s:ao} {R:eS→ao→Prop} (b:Nat) (o:ds) (aq:s b=none) (aZ:DF o=true) (h:hX P f args s R) :
  hX P f args (s.set b o) (fun out an=>∃ s₁,s₁ b=none∧an=s₁.set b o∧R out s₁):=by
 refine ⟨h.1,fun w p vs ca gE=>?_⟩;refine (h.2 w p vs (ca.sub (ao.wT s b o aq)) gE).mono ?_;rintro e w' ⟨out,an,bg,U,ad,aj,bk,bF⟩;obtain ⟨ck,cL,ev⟩:=DG aq aZ ca aj bk bF;exact ⟨out,an.set b o,bg,U,⟨an,ck,rfl,ad⟩,aj,cL,ev⟩
theorem iN.drop {P:Program} {fv:ag} {args:List ag} {s an:ao} {R:eS→ao→Prop} (al:ao.Sub an s) (h:iN P fv args an R):iN P fv args s R:=by
 intro w p v vs ca aD gE;refine (h w p v vs (ca.sub al) aD gE).mono ?_;rintro e w' ⟨out,eM,bg,U,ad,aj,bk,bF⟩;exact ⟨out,eM,bg,U,ad,aj,bk.yI al,bF⟩
theorem hX.drop {P:Program} {f:FuncId} {args:List ag} {s an:ao} {R:eS→ao→Prop} (al:ao.Sub an s) (h:hX P f args an R):hX P f args s R:=by
 refine ⟨h.1,fun w p vs ca gE=>(h.2 w p vs (ca.sub al) gE).mono ?_⟩;rintro e w' ⟨out,eM,bg,U,ad,aj,bk,bF⟩;exact ⟨out,eM,bg,U,ad,aj,bk.yI al,bF⟩
def ml (l:Nat):ag := .ho (.func (.yield l) #[] #[])
def A1:List Tmp→List ag→Env→Env
 | t::hr,v::vs,env=>A1 hr vs ((t,v)::env)
 | _,_,env=>env
theorem VX {N:Nat} {B:fP} {ro:Option Nat} {s:ao} {w:World} {p:bV} {cb:List Deferred}:∀ (hr:List Tmp) (us:List Value) (vs:List ag) (env:Env) (tmps:Array Value),
  hr.length=us.length→b4 w p us vs→(∀ t∈hr,t<N)→dx N B ro env s { tmps:=tmps,defers:=cb } w p →
  dx N B ro (A1 hr vs env) s { tmps:=(hr.zip us).foldl (fun tmps (t,a)=>tmps.setIfInBounds t a) tmps,defers:=cb } w p:=by
 intro hr
 induction hr with
 | nil=>intro us vs env tmps aE aC _ aI;exact aI
 | cons t hr a8=>
  intro us vs env tmps aE aC a1 aI;cases us with
  | nil=>simp at aE
  | cons u us=>
   cases aC with
   | cons _ v _ vs hu aN=>
   simp only [A1,List.zip_cons_cons,List.foldl_cons];exact a8 us vs _ _ (by simpa using aE) aN (fun bR dp=>a1 bR (List.mem_cons_of_mem _ dp)) (aI.put (a1 t (g8 ..)) hu)
section
variable {P:Program} {Γ:cz} {N:Nat} {Q:b8→Env→ao→Prop} {env:Env} {s:ao}
def busy (r:Loop):Loop:={ r with state := .busy }
def rF (r:Loop) (j:Code):Loop:={ r with state := .done,pending:=some j }
theorem G8 {w:World} {p:bV} {s:ao} (ca:dn w p s) {l:Nat} {r r':Loop} {env:Env} (al:s l=some (.loop r env)) (aN:r'.tmps=r.tmps) (w':World) (jc:w'={ w with heap:=w.heap.setIfInBounds l (.loop r') }) :
  c2 w p w' p∧Kept s (s.set l (.loop r' env)) w p w' p∧dn w' p (s.set l (.loop r' env)):=by
 subst jc;have U:w.heap[l]? = some (.loop r):=(ca.obj _ _ al).1;have ad:=(ca.obj _ _ al).2;have au:l<w.heap.size:=(t6.1 U).1;have mU:(w.heap.setIfInBounds l (.loop r'))[l]? = some (.loop r'):=by simp [aj9,au]
 have gM:∀ k,k≠l→(w.heap.setIfInBounds l (.loop r'))[k]? = w.heap[k]? := fun k ax=>by
  rw [aj9,f4 (fun e=>ax e.symm)]
 have hle:c2 w p { w with heap:=w.heap.setIfInBounds l (.loop r') } p:=by
  refine ⟨rfl,rfl,rfl,by simp,fun _ _ h=>h,fun b o aB=>?_,fun b x aa=>?_⟩
  ·by_cases e:b=l
   ·subst e;simp only [World.cell?,U,mU]
   ·exact wJ (gM b e)
  ·by_cases e:b=l
   ·subst e;simp [World.kM,U] at aa
   ·rw [wI (gM b e)];exact aa
 refine ⟨hle,⟨fun b aq av=>gM b (fun e=>by rw [e,al] at av;simp at av),fun b aq av=>?_,fun _ _ _ _ h=>h⟩,⟨fun b o aq=>?_,fun b o aB=>by simpa using ca.lt b o aB⟩⟩
 ·rw [ao.eQ]
  ·exact av
  ·intro e;rw [e,al] at av;simp at av
 ·by_cases e:b=l
  ·subst e
   rw [ao.fH] at aq;cases aq;exact ⟨mU,fun t v aD=>by rw [aN];exact (ad t v aD).mono hle⟩
  ·rw [ao.eQ _ _ e] at aq
   have ai:=ca.obj b o aq;cases o with
   | hz es it kg c=>exact ai.qt hle (gM b e) (gM it (ai.AB U bc))
   | _=>exact G7 C ai hle (gM b e) (fun _ h=>h)
def DH (Rn:ao→Prop) (Rj:Code→ao→Prop) (Rp:ag→ao→Prop):b8→Env→ao→Prop
 | .normal,_,s=>Rn s
 | .ret,_,s=>Rj .ret s
 | .exit id,_,s=>Rj (.exit id) s
 | .panic v,_,s=>Rp v s
theorem A2 {w:World} {l:Nat} {r:Loop} (h:w.heap[l]? = some (.loop r)):(Instr.getLoop l).run P w = .ok r w:=by
 unfold Instr.getLoop;simp only [H1,qw h C,i0,ai5]
theorem DI {w:World} {r:Nat} {o o':Obj} (h:w.heap[r]? = some o) (aw:Dl o=true):(setObj r o').run P w = .ok () { w with heap:=w.heap.setIfInBounds r o' }:=by
 cases o<;>first|(simp [Dl] at aw;done)|simp [setObj,ay0,h]
theorem VY {l:Nat} {r:Loop} {fn:Func} {a:Act} (eL:P.funcs[r.fn]? = some fn) (VZ:r.state = .ready)
  {args:List ag} {s₁:ao} {Rn:ao→Prop} {Rj:Code→ao→Prop} {Rp:ag→ao→Prop}
  (aC:s₁ l=some (.loop r env)) (y4:args.length=r.params.size) (b6:r.tmps.size=N) (V0:∀ t∈r.params.toList,t<N)
  (tA:af P N r.assign (b8.andThen (af P N r.body (DH Rn Rj Rp)) (fun _ _ _=>False)) (A1 r.params.toList args env) (s₁.del l))
  (w:World) (p:bV) (vs:List Value) (ca:dn w p s₁) (gE:b4 w p vs args) :
  qs P ((do let d ← Deferred.ofValue (.func (.yield l) #[] #[]) vs.toArray;invoke d.target d.args:Sem Next).run P w)
   (wZ s₁ w p fun o an=>(o = .ret (.bool true)∧∃ dD,dD l=none∧an=dD.set l (.loop { busy r with state := .ready,pending:=none } env)∧Rn dD) ∨
    (o = .ret (.bool false)∧∃ j dD,dD l=none∧an=dD.set l (.loop (rF r j) env)∧Rj j dD) ∨
    (∃ v dD,o = .panic v∧dD l=none∧an=dD.set l (.loop (busy r) env)∧Rp v dD)):=by
 have U:w.heap[l]? = some (.loop r):=(ca.obj _ _ aC).1;have Dw:=(ca.obj _ _ aC).2;have au:l<w.heap.size:=(t6.1 U).1;have cI:(do let d ← Deferred.ofValue (.func (.yield l) #[] #[]) vs.toArray;invoke d.target d.args:Sem Next).run P w =
   .ok (.round l r.fn ((r.params.zip vs.toArray).foldl (fun tmps (t,a)=>tmps.setIfInBounds t a) r.tmps) r.assign r.body) w:=by
  have aE:vs.length=r.params.size:=by rw [gE.length,y4]
  simp only [Deferred.ofValue,H1,ai5,i0,invoke,Instr.yield,A2 U];simp [aE]
 rw [cI];have gC:ao.Sub (s₁.del l) s₁:=fun b=>by
  by_cases e:b=l
  ·subst e;exact .inr (ao.ob _ _)
  ·exact .inl (ao.nE _ e)
 have L':s₁=(s₁.del l).set l (.loop r env):=by
  funext b;by_cases e:b=l
  ·subst e;rw [ao.fH];exact aC
  ·rw [ao.eQ _ _ e,ao.nE _ e]
 have V1:((r.params.zip vs.toArray).foldl (fun tmps (t,a)=>tmps.setIfInBounds t a) r.tmps)=(r.params.toList.zip vs).foldl (fun tmps (t,a)=>tmps.setIfInBounds t a) r.tmps:=by
  rw [← Array.foldl_toList];simp
 have DJ:s₁.del l l=none:=ao.ob _ _;have Ma:dx N (0,[]) (some l) env (s₁.del l) { tmps:=r.tmps,defers:=[] } w p:=
  ⟨b6,Dw,ca.sub gC,⟨[],rfl,by simp,by simp⟩,fun kg tR=>by cases tR;exact ⟨rfl,⟨r,U⟩,DJ⟩,g9 _⟩
 have aI:=VX r.params.toList vs args env r.tmps (by rw [gE.length,y4,Array.length_toList]) gE V0 Ma;rw [V1];refine Um eL fun b kv Mb=>?_
 rw [← kv] at aI;refine mN (tA b (0,[]) _ w p (by rw [Mb,eL];rfl) aI) ?_;rintro Gu i' w₁ ⟨C1,pN,dD,p₁,V2,DK,lH,DL,G9⟩;cases V2 with
 | exit id=>exact DK.elim
 | ret=>exact DK.elim
 | panic v x dC jr aD=>exact DK.elim
 | normal=>
 have oc:w₁.heap[l]? = some (.loop r):=(G9.heap l au DJ).trans U;have vf:dD l=none:=G9.la l au DJ;have V3:(Instr.beginRound l).run P w₁ = .ok () { w₁ with heap:=w₁.heap.setIfInBounds l (.loop (busy r)) }:=by
  unfold Instr.beginRound;simp only [H1,A2 oc,i0,DI oc C,VZ];rfl
 refine ⟨_,V3,?_⟩;obtain ⟨f1,f2,f3⟩:=DG (s:=s₁.del l) (b:=l) (o := .loop r env) DJ rfl (by rw [← L'];exact ca) DL G9 lH.wf;obtain ⟨g1,g2,g3⟩:=G8 (r':=busy r) f3 (ao.fH _ _ _) rfl _ rfl;rw [ao.set_set] at g2 g3;have oX:({ w₁ with heap:=w₁.heap.setIfInBounds l (.loop (busy r)) }:World).heap[l]? = some (.loop (busy r)):=(g3.obj _ _ (ao.fH _ _ _)).1;have A3:dn { w₁ with heap:=w₁.heap.setIfInBounds l (.loop (busy r)) } p₁ dD:=g3.sub (ao.wT _ _ _ vf);have sL:dx N (0,[]) b.roundOf pN dD i' { w₁ with heap:=w₁.heap.setIfInBounds l (.loop (busy r)) } p₁:=by
  refine ⟨lH.size,fun t v aD=>(lH.env t v aD).mono g1,A3,?_,fun kg tR=>?_,g9 _⟩
  ·obtain ⟨aA,-,-⟩:=lH.round l kv
   exact ⟨[],by simpa [marksOf] using aA,by simp,by simp⟩
  ·rw [kv] at tR;cases tR
   exact ⟨(lH.round l kv).1,⟨_,oX⟩,vf⟩
 refine mN (DK b (0,[]) i' _ p₁ (by rw [Mb,eL];rfl) sL) ?_;rintro e₃ a₃ ja ⟨x₃,agA,vg,tS,V4,DM,Mc,Md,G'⟩;have dA:l<({ w₁ with heap:=w₁.heap.setIfInBounds l (.loop (busy r)) }:World).heap.size:=(t6.1 oX).1;have nL:ja.heap[l]? = some (.loop (busy r)):=(G'.heap l dA vf).trans oX;have DN:vg l=none:=G'.la l dA vf;obtain ⟨ck,cL,ev⟩:=DG (b:=l) (o := .loop (busy r) env) vf rfl g3 Md G' Mc.wf;have Ha:c2 w p ja tS:=(DL.trans g1).trans Md;have Me:Kept s₁ (vg.set l (.loop (busy r) env)) w p ja tS:=by
  have bT:Kept s₁ (dD.set l (.loop r env)) w p w₁ p₁:=by rw [L'];exact f2
  exact (bT.trans DL.size g2).trans (DL.trans g1).size cL
 have fin:∀ (jump:Option Code),∃ l5,(Instr.endRound l jump).run P ja = .ok (.bool jump.isNone) l5 ∧
   c2 w p l5 tS∧Kept s₁ (vg.set l (.loop { busy r with state:=if jump.isNone then .ready else .done,pending:=jump } env)) w p l5 tS∧dn l5 tS (vg.set l (.loop { busy r with state:=if jump.isNone then .ready else .done,pending:=jump } env)):=by
  intro jump;obtain ⟨dF,c8,du⟩:=G8 (r':={ busy r with state:=if jump.isNone then .ready else .done,pending:=jump }) ev (ao.fH _ _ _) rfl _ rfl;rw [ao.set_set] at c8 du;refine ⟨_,?_,Ha.trans dF,Me.trans Ha.size c8,du⟩;unfold Instr.endRound;simp only [H1,A2 nL,i0,DI nL C,ai5]
 cases V4 with
 | normal=>
  obtain ⟨l5,eD,fh,gv,jx⟩:=fin none;exact ⟨_,l5,eD,.ret (.bool true),_,tS,.bool _,.inl ⟨rfl,vg,DN,rfl,DM⟩,fh,gv,jx⟩
 | ret=>
  obtain ⟨l5,eD,fh,gv,jx⟩:=fin (some .ret);exact ⟨_,l5,eD,.ret (.bool false),_,tS,.bool _,.inr (.inl ⟨rfl,.ret,vg,DN,rfl,DM⟩),fh,gv,jx⟩
 | exit id=>
  obtain ⟨l5,eD,fh,gv,jx⟩:=fin (some (.exit id));exact ⟨_,l5,eD,.ret (.bool false),_,tS,.bool _,.inr (.inl ⟨rfl,.exit id,vg,DN,rfl,DM⟩),fh,gv,jx⟩
 | panic v x dC jr aD=>
  refine ⟨(Mc.round l kv).1,.panic x,_,tS,⟨v,jr,aD⟩,.inr (.inr ⟨x,vg,rfl,DN,rfl,DM⟩),Ha,Me,ev⟩
end
section
variable {P:Program} {Γ:cz} {N:Nat} {Q:b8→Env→ao→Prop} {env:Env} {s:ao}
theorem V5 (b:Frame) (a:Act) (k:List Item) (l:Nat) (v:Value):(b.atR a (.inRangeFunc l::k)).finish v=b.atR a (.endRangeFunc l::k):=by
 simp [Frame.finish,Frame.atR]
theorem Mf {b:Frame} {a:Act} {k:List Item} {cs:List Frame} {w w':World} {l:Nat} {jump:Option Code} (h:(Instr.endLoop l).run P w = .ok jump w') :
  step P (lone (b.atR a (.endRangeFunc l::k)) cs w) = .next (lone (b.atR a ((jump.map Item.code).toList++k)) cs w'):=
 step_lone_go (by simp [stepG,stepG.exec,Frame.atR,ay6,h,GStep.bare_after])
def Hb (g:Operand) (l:Nat):Call:={ callee := .value g,args := #[.const (.func (.yield l) #[] #[])],argTypes := #[] }
theorem V6 {b:Frame} {a:Act} {k:List Item} {cs:List Frame} {w:World} {g:Operand} {ps:Array Tmp} {hl body:Code} {l:Nat} {mark:List Deferred} {w₁ hU:World} {f:FuncId} {args:Array Value}
  (he:(Instr.enterLoop b.fn a.tmps ps hl body b.roundOf).run P w = .ok (l,mark) w₁)
  (hinv:(do let d ← resolve a.eval (Hb g l) 0;invoke d.target d.args:Sem Next).run P w₁ = .ok (.enter f args) hU) :
  step P (lone (b.atR a (.code (.rangeFunc g ps hl body)::k)) cs w) =
   .next (lone (Frame.enter P f args .normal) (b.atR { a with defers:=mark++a.defers } (.inRangeFunc l::k)::cs) hU):=
 step_lone_go (by
  have qB:=Frame.eval_atR b { a with defers:=mark++a.defers } (.inRangeFunc l::k)
  simp only [Frame.atR] at qB
  have V7:(do let d ← resolve ({ tmps:=a.tmps,defers:=mark++a.defers }:Act).eval { callee := .value g,args := #[.const (.func (.yield l) #[] #[])],argTypes := #[] } 0;invoke d.target d.args:Sem Next).run P w₁ = .ok (.enter f args) hU:=hinv
  simp only [stepG,stepG.exec,Frame.atR,ay6,he,GStep.bare_after,stepG.apply,qB,V7,ak2,GStep.bare_go])
def V8 (l:Nat) (r:Loop) (env:Env) (Rn:ao→Prop) (Rj:Code→ao→Prop) (Rp:ag→ao→Prop) (o:eS) (an:ao):Prop:=
 (o = .ret (.bool true)∧∃ dD,dD l=none∧an=dD.set l (.loop r env)∧Rn dD) ∨
 (o = .ret (.bool false)∧∃ j dD,dD l=none∧an=dD.set l (.loop (rF r j) env)∧Rj j dD) ∨
 (∃ v dD,o = .panic v∧dD l=none∧an=dD.set l (.loop (busy r) env)∧Rp v dD)
def V9 (P:Program) (N:Nat) (Q:b8→Env→ao→Prop) (env:Env) (l:Nat) (r:Loop) (o:eS) (an:ao):Prop:=
 match o with
 | .ret _=>(∃ dD,dD l=none∧an=dD.set l (.loop r env)∧Q .normal env dD)∨(∃ j dD,dD l=none∧an=dD.set l (.loop (rF r j) env)∧af P N j Q env dD)
 | .panic v=>∃ dD o',dD l=none∧an=dD.set l o'∧Q (.panic v) env dD
theorem af.Mg {g:Operand} {ps:Array Tmp} {hl body:Code} {f:FuncId} {first cap:List ag} (ay:aL env g=some (.func f first cap)) (a1:∀ t∈ps.toList,t<N)
    (h:∀ (l:Nat) (r:Loop),s l=none →
      (∀ args s₁ Rn Rj Rp,s₁ l=some (.loop r env)→args.length=ps.size →
        af P N hl (b8.andThen (af P N body (DH Rn Rj Rp)) (fun _ _ _=>False)) (A1 ps.toList args env) (s₁.del l) →
        iN P (ml l) args s₁ (V8 l r env Rn Rj Rp)) →
      hX P f (first++([ml l]++cap)) (s.set l (.loop r env)) (V9 P N Q env l r)):af P N (.rangeFunc g ps hl body) Q env s:=by
  intro b B a w p eL aI k cs;obtain ⟨fn,V'⟩:=Option.isSome_iff_exists.1 eL;have cw:∃ (l D:Nat) (mark:List Deferred) (w₁:World),(Instr.enterLoop b.fn a.tmps ps hl body b.roundOf).run P w = .ok (l,mark) w₁ ∧
      w₁.heap[l]? = some (.loop { state := .ready,pending:=none,fn:=b.fn,tmps:=a.tmps,params:=ps,assign:=hl,body,defers:=D })∧w.heap.size≤l∧l<w₁.heap.size ∧
      (∀ x,x<w.heap.size→w₁.heap[x]? = w.heap[x]?)∧w₁.os=w.os∧w₁.tape=w.tape∧w₁.output=w.output∧w.heap.size≤w₁.heap.size ∧
      ((mark=[]∧b.roundOf≠none)∨(b.roundOf=none∧mark=marksOf [w.heap.size]∧w₁.heap[w.heap.size]? = some (.deferred (some []))∧l≠w.heap.size)):=by
    cases vh:b.roundOf with
    | none=>
      refine ⟨w.heap.size+1,w.heap.size,_,(w.alloc (.deferred (some []))).alloc (.loop { state := .ready,pending:=none,fn:=b.fn,tmps:=a.tmps,params:=ps,assign:=hl,body,defers:=w.heap.size }),?_,?_,by omega,by simp,?_,rfl,rfl,rfl,by simp;omega,.inr ⟨rfl,rfl,?_,by omega⟩⟩
      · unfold Instr.enterLoop
        simp [World.alloc_eq,marksOf]
      · have:=ss (w.alloc (.deferred (some []))) (.loop { state := .ready,pending:=none,fn:=b.fn,tmps:=a.tmps,params:=ps,assign:=hl,body,defers:=w.heap.size })
        simpa using this
      · intro x aa;rw [l9 _ _ _ ez,l9 _ _ _ aa]
      · rw [l9 _ _ _ bc];exact ss w _
    | some iO=>
      obtain ⟨-,⟨Mh,Wa⟩,-⟩:=aI.round iO vh;refine ⟨w.heap.size,Mh.defers,[],w.alloc (.loop { state := .ready,pending:=none,fn:=b.fn,tmps:=a.tmps,params:=ps,assign:=hl,body,defers:=Mh.defers }),?_,ss w _,t7 _,by simp,fun x aa=>l9 w _ x aa,rfl,rfl,rfl,by simp,.inl ⟨rfl,by simp⟩⟩;unfold Instr.enterLoop;simp only [H1,A2 Wa,i0,ai5,run_newObj];rfl
  obtain ⟨l,D,mark,w₁,Wb,oc,dt,agB,hold,Wc,Wd,We,b6,Mi⟩:=cw;have rG:s l=none:=by
    cases al:s l with
    | none=>rfl
    | some o=>exact absurd (aI.wf.obj _ _ al).lt ak
  generalize aC:({ state := .ready,pending:=none,fn:=b.fn,tmps:=a.tmps,params:=ps,assign:=hl,body,defers:=D }:Loop)=r at oc;have xf:c2 w p w₁ p:=c2.of_heap Wc Wd We b6 (fun _ _ h=>h) aI.wf.lt hold;have Wf:dn w₁ p (s.set l (.loop r env)):=by
    have ay:=aI.wf.grow xf hold (fun _ _ _ h=>h) (fun b o aB=>by have:=aI.wf.lt b o aB;omega);refine ⟨fun aW o aq=>?_,ay.lt⟩;by_cases e:aW=l
    · subst e
      rw [ao.fH] at aq;cases aq;refine ⟨oc,fun t v aD=>?_⟩;have:r.tmps=a.tmps:=by rw [← aC]
      rw [this];exact (aI.env t v aD).mono xf
    · rw [ao.eQ _ _ e] at aq;exact ay.obj aW o aq
  have ma:Kept s (s.set l (.loop r env)) w p w₁ p:=⟨fun x aa _=>hold x aa,fun x aa av=>by rw [ao.eQ _ _ ak];exact av,fun _ _ _ _ h=>h⟩;obtain ⟨Wg,iF⟩:=h l r rG fun args s₁ Rn Rj Rp oY y4 tA w' bg v vs ln aD gE=>by
    have Lr:v = .func (.yield l) #[] #[]:=by
      cases aD with
      | ho=>rfl
    subst Lr;have:=VY (a:=a) (P:=P) (N:=N) (env:=env) (r:=r) (fn:=fn) (by rw [← aC];exact V') (by rw [← aC]) oY (by rw [← aC];exact y4) (by rw [← aC];exact aI.size)
      (by rw [← aC];exact a1) (Rn:=Rn) (Rj:=Rj) (Rp:=Rp) (by rw [← aC];exact tA) w' bg vs ln gE
    have Hc:{ busy r with state:=LoopState.ready,pending:=none }=r:=by rw [← aC];rfl
    rw [Hc] at this;exact this
  have kd:=aI.aL ay;generalize xg:a.eval g=xh at kd;cases kd with
  | func _ as cs' _ _ bp aw=>
  have hinv:(do let d ← resolve a.eval (Hb g l) 0;invoke d.target d.args:Sem Next).run P w₁ = .ok (.enter f (as ++ #[.func (.yield l) #[] #[]]++cs')) w₁:=by
    simp only [resolve,Hb,xg,Deferred.ofValue,H1,ai5,i0,invoke];have:(#[Operand.const (.func (.yield l) #[] #[])].map a.eval) = #[.func (.yield l) #[] #[]]:=by simp [Act.eval]
    rw [this];exact Wg _ _
  have xi:=V6 (k:=k) (cs:=cs) Wb hinv;have cm:=iF w₁ p (as.toList++([.func (.yield l) #[] #[]]++cs'.toList)) Wf ((bp.mono xf).append (b4.append (.cons _ _ _ _ (.ho _) .nil) (aw.mono xf)));have y4:(as.toList++([Value.func (.yield l) #[] #[]]++cs'.toList)).toArray=as ++ #[.func (.yield l) #[] #[]]++cs':=by apply Array.ext';simp
  rw [y4] at cm;obtain ⟨e,hU,hn,⟨mP,out,an,jM,rp,e4,yY,iB,A3⟩,tx,agC,AA⟩:=cm (b.atR { a with defers:=mark++a.defers } (.inRangeFunc l::k)::cs);have sL:∀ dD o',dD l=none→an=dD.set l o'→∀ ja,c2 hU jM ja jM→Kept an an hU jM ja jM→dn ja jM dD→(∀ x,x≠l→ja.heap[x]? = hU.heap[x]?) →
      dx N B b.roundOf env dD { a with defers:=mark++a.defers } ja jM∧c2 w p ja jM∧Kept s dD w p ja jM:=by
    intro dD o' av gU ja Wh tH Hd Wi;have bE:c2 w p ja jM:=(xf.trans yY).trans Wh;have vi:=(ma.trans xf.size iB).trans (xf.trans yY).size tH;have gC:ao.Sub dD an:=by rw [gU];exact ao.wT _ _ _ av
    have bC:Kept s dD w p ja jM:=vi.sub gC;refine ⟨⟨aI.size,fun t v aD=>(aI.env t v aD).mono bE,Hd,?_,fun kg tR=>?_,Nat.le_trans aI.base bE.size⟩,bE,bC⟩
    · obtain ⟨cb,d1,d2,d3⟩:=aI.defs
      rcases Mi with ⟨rfl,-⟩|⟨vh,rfl,fI,Mj⟩
      · refine ⟨cb,by simpa using d1,d2,fun d aA=>?_⟩
        obtain ⟨cO,n7,oh⟩:=d3 d aA;have au:d<w.heap.size:=(t6.1 n7).1;exact ⟨cO,(bC.heap d au oh).trans n7,bC.la d au oh⟩
      · have Mk:(s.set l (.loop r env)) w.heap.size=none:=by
          rw [ao.eQ _ _ (Ne.symm Mj)];cases al:s w.heap.size with
          | none=>rfl
          | some o=>exact absurd (aI.wf.obj _ _ al).lt ak
        have Ml:w.heap.size<w₁.heap.size:=(t6.1 fI).1;have Wj:ja.heap[w.heap.size]? = some (.deferred (some [])):=by
          rw [Wi _ (Ne.symm Mj),iB.heap _ Ml Mk];exact fI
        have Wk:dD w.heap.size=none:=gC.none (iB.la _ Ml Mk);refine ⟨w.heap.size::cb,by simp [marksOf,d1],ar3.2 ⟨fun hm=>?_,d2⟩,fun d aA=>?_⟩
        · have:=(t6.1 (d3 _ hm).2.1).1;omega
        · rcases ai1.1 aA with rfl|aA
          · exact ⟨aI.base,Wj,Wk⟩
          · obtain ⟨cO,n7,oh⟩:=d3 d aA
            have au:d<w.heap.size:=(t6.1 n7).1;exact ⟨cO,(bC.heap d au oh).trans n7,bC.la d au oh⟩
    · obtain ⟨U,⟨r',ad⟩,aj⟩:=aI.round kg tR
      have au:kg<w.heap.size:=(t6.1 ad).1;refine ⟨?_,⟨r',(bC.heap kg au aj).trans ad⟩,bC.la kg au aj⟩;rcases Mi with ⟨rfl,-⟩|⟨vh,-⟩
      · exact U
      · rw [vh] at tR;cases tR
  have so:∀ dD (r':Loop),dD l=none→an=dD.set l (.loop r' env)→(r'.state == .busy)=false→∃ ja,(Instr.endLoop l).run P hU = .ok r'.pending ja ∧
      dx N B b.roundOf env dD { a with defers:=mark++a.defers } ja jM∧c2 w p ja jM∧Kept s dD w p ja jM:=by
    intro dD r' av gU dH;have Mm:an l=some (.loop r' env):=by rw [gU];exact ao.fH _ _ _
    have cV:hU.heap[l]? = some (.loop r'):=(A3.obj _ _ Mm).1;obtain ⟨dF,c8,du⟩:=G8 (r':={ r' with state := .exhausted }) A3 Mm rfl _ rfl;have tH:Kept an an hU jM { hU with heap:=hU.heap.setIfInBounds l (.loop { r' with state := .exhausted }) } jM:=by
      refine ⟨c8.heap,fun x aa av=>av,c8.lG⟩
    have Hd:dn { hU with heap:=hU.heap.setIfInBounds l (.loop { r' with state := .exhausted }) } jM dD:=by
      refine du.sub ?_;rw [gU,ao.set_set];exact ao.wT _ _ _ av
    refine ⟨_,?_,sL dD _ av gU _ dF tH Hd (fun x aa=>by
      show (hU.heap.setIfInBounds l _)[x]? = _
      rw [aj9,f4 (fun e=>aa e.symm)])⟩
    unfold Instr.endLoop;simp only [H1,A2 cV,i0,dH,aj2,al0,DI cV C,ai5]
  cases e with
  | outgrown=>exact absurd C mP
  | returned v=>
    cases out with
    | panic x=>exact rp.elim
    | ret x=>
    have yZ:Steps P (lone (b.atR a (.code (.rangeFunc g ps hl body)::k)) cs w) (lone (b.atR { a with defers:=mark++a.defers } (.endRangeFunc l::k)) cs hU):=by
      refine .head xi (Steps.trans tx (.one ?_));rw [← V5 _ _ _ _ v];exact step_leave_returned AA
    rcases e4 with ⟨dD,av,gU,bf⟩|⟨j,dD,av,gU,bf⟩
    · obtain ⟨ja,DO,A4,bE,bC⟩:=so dD r av gU (by rw [← aC];rfl)
      have aB:r.pending=none:=by rw [← aC]
      rw [aB] at DO;exact ⟨.normal,_,ja,⟨.normal,env,dD,jM,.normal,bf,A4,bE,bC⟩,Steps.trans yZ (.one (by simpa using Mf (k:=k) DO))⟩
    · obtain ⟨ja,DO,A4,bE,bC⟩:=so dD (rF r j) av gU rfl
      obtain ⟨e',dm,l5,Ay,fW⟩:=bf b B _ ja jM eL A4 k cs;exact ⟨e',dm,l5,kx.after bE bC Ay,.of_steps (Steps.trans yZ (.one (by simpa [rF] using Mf (k:=k) DO))) fW⟩
  | panicked dC=>
    cases out with
    | ret x=>exact rp.elim
    | panic x=>
    obtain ⟨v,jr,aD⟩:=rp;obtain ⟨dD,o',av,gU,bf⟩:=e4;obtain ⟨A4,bE,bC⟩:=sL dD o' av gU hU (.refl _ _) (.refl _ _ _) (A3.sub (by rw [gU];exact ao.wT _ _ _ av)) (fun _ _=>rfl);refine ⟨.panic dC,_,hU,⟨.panic x,env,dD,jM,.panic v x _ jr aD,bf,A4,bE,bC⟩,.inRangeFunc l::k,.head xi (Steps.trans tx (.one ?_))⟩;rw [← Frame.raise_atR];exact step_leave_panicked AA
end
theorem l6.nil {w:World} {p:bV}:l6 w p [] []:=⟨.nil,.nil⟩
theorem l6.length {w:World} {p:bV} {cr:List MapEntry} {es:List (ag×ag)} (h:l6 w p cr es):cr.length=es.length:=by simpa using h.1.length
theorem l6.split {w:World} {p:bV}:∀ {a b:List MapEntry} {e:MapEntry} {es:List (ag×ag)},l6 w p (a++e::b) es →
  ∃ l₁ k v l₂,es=l₁++(k,v)::l₂∧Rel w p e.key k∧Rel w p e.val v∧l6 w p (a++b) (l₁++l₂):=by
 intro a
 induction a with
 | nil=>
  intro b e es h;cases es with
  | nil=>have:=h.length;simp at this
  | cons x es=>
   obtain ⟨k,v⟩:=x;obtain ⟨U,ad⟩:=h;simp only [List.nil_append,ai2] at U ad;cases U with|cons _ _ _ _ ck t1=>cases ad with|cons _ _ _ _ cL t2=>
   exact ⟨[],k,v,es,rfl,ck,cL,t1,t2⟩
 | cons x a a8=>
  intro b e es h;cases es with
  | nil=>have:=h.length;simp at this
  | cons y es=>
   obtain ⟨G0,v0⟩:=y;obtain ⟨U,ad⟩:=h;simp only [List.cons_append,ai2] at U ad;cases U with|cons _ _ _ _ ck t1=>cases ad with|cons _ _ _ _ cL t2=>
   obtain ⟨l₁,k,v,l₂,rfl,bT,bI,eh,mc⟩:=a8 (b:=b) (e:=e) (es:=es) ⟨t1,t2⟩;exact ⟨(G0,v0)::l₁,k,v,l₂,rfl,bT,bI,.cons _ _ _ _ ck eh,.cons _ _ _ _ cL mc⟩
section
variable {P:Program} {Γ:cz} {N:Nat} {env:Env} {s:ao}
theorem aX.Wl (aP:bX P Γ) {o:Oper} {t ei fy:TypeId} {x:Operand} {it:bQ} {m:Nat} {es:List (ag×ag)} (ai:o.op = .range t x) (aN:Γ.get? t=some it) (bw:it.bN = .map ei fy)
  (aa:aL env x=some (.map m)) (al:s m=some (.map es)) {X:ag→ao→Prop} :
  aX P N o env s (fun r an=>∃ i,s i=none∧i≠m∧r = .ptr i 0∧an=(s.set m (.hz es i es none)).set i (.tick m)) X:=by
 refine aX.jZ hZ fun ro B a w p aI=>?_
 obtain ⟨info,d,U,ad,aj,-⟩:=aP.parts aN;have aA:d = .map ei fy:=by rw [bw] at aj;cases d<;>simp [ec] at aj;rw [aj.1,aj.2]
 subst aA;have aC:=aI.aL aa;generalize dM:a.eval x=dy at aC;cases aC;obtain ⟨cr,clock,g1,g2,g3,g4⟩:=aI.wf.obj _ _ al;have au:m<w.heap.size:=(t6.1 g1).1;have rG:s w.heap.size=none:=by
  cases b6:s w.heap.size with
  | none=>rfl
  | some o=>exact absurd (aI.wf.obj _ _ b6).lt ak
 have hold:∀ b,b<w.heap.size→(w.alloc (.mapIter (some m) clock #[] clock)).heap[b]? = w.heap[b]? := fun b aq=>l9 w _ b aq
 have hle:c2 w p (w.alloc (.mapIter (some m) clock #[] clock)) p:=c2.of_heap C C C bc (fun _ _ h=>h) aI.wf.lt hold;have ay:=aI.wf.grow hle hold (fun _ _ _ h=>h) (fun b o aB=>by have:=aI.wf.lt b o aB;simp;omega);have cN:m≠w.heap.size:=by omega
 refine ⟨.pointer (some ⟨w.heap.size,0,none⟩),_,_,p,.ptr w.heap.size 0,?_,hle,⟨fun b aq _=>hold b aq,fun b aq av=>?_,fun _ _ _ _ h=>h⟩,⟨fun b o aq=>?_,ay.lt⟩,⟨w.heap.size,rG,by omega,rfl,rfl⟩,.ptr _ _⟩
 ·unfold execOp
  rw [ai];simp only [dM];exact gb (run_range_map w t ei fy m cr clock ad g1)
 ·rw [ao.eQ _ _ ak,ao.eQ]
  ·exact av
  ·intro e;subst e;rw [al] at av;cases av
 ·by_cases e:b=w.heap.size
  ·subst e
   rw [ao.fH] at aq;cases aq;exact ⟨_,_,_,ss w _⟩
  ·rw [ao.eQ _ _ e] at aq
   by_cases e':b=m
   ·subst e'
    rw [ao.fH] at aq;cases aq;refine ⟨cr,clock,#[],(hold b au).trans g1,ss w _,⟨g2.1.mono hle,g2.2.mono hle⟩,g3,g4,?_,by simp⟩;have:(cr.toList.filter fun e => !(#[]:Array Nat).contains e.born)=cr.toList:=by
     rw [aw8];simp
    rw [this];exact ⟨g2.1.mono hle,g2.2.mono hle⟩
   ·rw [ao.eQ _ _ e'] at aq
    exact ay.obj b o aq
theorem filter_push {cr:List MapEntry} {seen:Array Nat} {a b:List MapEntry} {e:MapEntry} (av:(cr.map (·.born)).Nodup) (h:(cr.filter fun x => !seen.contains x.born)=a++e::b) :
  (cr.filter fun x => !(seen.push e.born).contains x.born)=a++b:=by
 have U:(cr.filter fun x => !(seen.push e.born).contains x.born)=(cr.filter fun x => !seen.contains x.born).filter fun x => !(x.born==e.born):=by
  rw [List.filter_filter];congr 1;funext x;simp only [Array.contains_push,Bool.not_or];rw [Bool.and_comm]
 rw [U,h];have eO:((a++e::b).map (·.born)).Nodup:=by
  rw [← h];exact av.sublist (List.Sublist.map _ List.filter_sublist)
 simp only [List.map_append,ai2] at eO;obtain ⟨l',ld,oj⟩:=List.nodup_append.1 eO;obtain ⟨om,aij⟩:=ar3.1 ld;rw [List.filter_append,List.filter_cons_of_neg bc];congr 1
 ·rw [aw8]
  intro x aa;have:=oj x.born (av0 aa) e.born (g8 ..);simpa using this
 ·rw [aw8]
  intro x aa;have:x.born≠e.born:=fun e'=>om (by rw [← e'];exact av0 aa)
  simpa using this
theorem aX.Wm {o:Oper} {x:Operand} {m i:Nat} {es left:List (ag×ag)} {cur:Option (ag×ag)} (ai:o.op = .next x false) (aa:aL env x=some (.ptr i 0)) (al:s m=some (.hz es i left cur)) (aQ:s i=some (.tick m)) {X:ag→ao→Prop} :
    aX P N o env s (fun r an=>(left=[]∧r = .bW [.bool false]∧an=s) ∨
      ∃ l₁ k v l₂,left=l₁++(k,v)::l₂∧r = .bW [.bool true,k,v]∧an=s.set m (.hz es i (l₁++l₂) (some (k,v)))) X:=by
  refine aX.jZ hZ fun ro B a w p aI=>?_
  have aC:=aI.aL aa;generalize dM:a.eval x=dy at aC;cases aC;obtain ⟨cr,clock,seen,g1,g2,g3,g4,g5,g6,g7⟩:=aI.wf.obj _ _ al;have agD:m<w.heap.size:=(t6.1 g1).1;have Wn:i<w.heap.size:=(t6.1 g2).1;have cN:m≠i:=fun e=>by subst e;rw [g1] at g2;cases g2
  have Mn:=next_test_false seen cr clock clock g4 (t7 _);have ef:∀ val w',(Instr.next (.pointer (some ⟨i,0,none⟩)) false o.type).run P w = .ok val w'→(execOp a.eval o).run P w = .ok (.value val) w':=by
    intro val w' h;unfold execOp;rw [ai];simp only [dM];exact gb h
  have gV:∀ x∈(cr.filter fun e => !seen.contains e.born).toList,x.born<clock:=fun x aa=>g4 x (by simp at aa ⊢;exact aa.1)
  have bE:(cr.filter fun e => !seen.contains e.born).toList=cr.toList.filter fun e => !seen.contains e.born:=by simp
  generalize Mo:(cr.filter fun e => !seen.contains e.born)=L at gV bE;have bT:L.filter (fun x=>decide (x.born<clock))=L:=Array.filter_eq_self.2 (fun x aa=>by simpa using gV x uY);have bI:L.filter (fun x=>decide (x.born≥clock)) = #[]:=by
    rw [Array.filter_eq_empty_iff];intro x aa;have:=gV x uY;simp;omega
  rw [← bE] at g6;by_cases bn:L.size=0
  · have Wo:L = #[]:=Array.eq_empty_of_size_eq_zero bn
    subst Wo;have qF:left=[]:=ak7 (by have:=g6.length;simpa using this.symm);refine ⟨.tuple #[.bool false],w,s,p,.bW [.bool false],ef _ _ ?_,.refl w p,.refl s w p,aI.wf,.inl ⟨qF,rfl,rfl⟩,.bW _ _ (.cons _ _ _ _ (.bool _) .nil)⟩;simp only [Instr.next,H1,qw g2 C,qw g1 C,i0,Mn,aj2,al0,Mo];simp [choose,ay0,Question.forced]
  · have Wp:L.isEmpty=false:=by simp [aH9,bn]
    have jr:∃ (j:Nat) (dq:World),j<L.size∧(dq=w∨dq=w.drew)∧(choose (Question.mapNext L.size)).run P w = .ok j dq:=by
      by_cases aZ:L.size≤1
      · exact ⟨0,w,by omega,.inl C,by simp [choose,ay0,Question.forced,aZ]⟩
      · exact ⟨_,w.drew,Nat.mod_lt _ ak,.inr C,by
          simp only [choose,ay0,Question.forced,f5,aZ,al0,Question.cut]
          rfl⟩
    obtain ⟨j,dq,aK,oZ,cI⟩:=jr;have o0:dq.heap=w.heap:=by rcases oZ with rfl|rfl<;>rfl
    have Mp:L.toList=L.toList.take j++L[j]::L.toList.drop (j+1):=by
      have:L.toList.drop j=L[j]::L.toList.drop (j+1):=by
        rw [List.drop_eq_getElem_cons (by simpa using aK)];simp
      rw [← this,List.take_append_drop]
    have ht:=Mp;rw [bE] at ht;rw [Mp] at g6;obtain ⟨l₁,k,v,l₂,aE,ax,aD,y5⟩:=g6.split;have dc:L[j]∈cr.toList:=by
      have:L[j]∈L.toList:=by simp
      rw [bE] at this;exact (List.mem_filter.1 this).1
    have mU:(w.heap.setIfInBounds i (.mapIter (some m) clock (seen.push L[j].born) clock))[i]? = some (.mapIter (some m) clock (seen.push L[j].born) clock):=by simp [aj9,Wn]
    have gM:∀ b,b≠i→(w.heap.setIfInBounds i (.mapIter (some m) clock (seen.push L[j].born) clock))[b]? = w.heap[b]? := fun b aq=>by
      rw [aj9,f4 (fun e=>aq e.symm)]
    have hle:c2 w p { dq with heap:=dq.heap.setIfInBounds i (.mapIter (some m) clock (seen.push L[j].born) clock) } p:=by
      refine ⟨by rcases oZ with rfl|rfl<;>rfl,by rcases oZ with rfl|rfl<;>rfl,by rcases oZ with rfl|rfl<;>rfl,by simp [o0],fun _ _ h=>h,fun b o aB=>?_,fun b x aa=>?_⟩
      · by_cases e:b=i
        · subst e;simp only [World.cell?,o0,g2,mU]
        · exact wJ (w:=w) (by rw [← gM b e,o0])
      · by_cases e:b=i
        · exfalso;rw [e] at aa;unfold World.kM at aa;rw [g2] at aa;cases aa
        · rw [wI (w:=w) (by rw [← gM b e,o0])];exact aa
    refine ⟨.tuple #[.bool true,L[j].key,L[j].val],_,_,p,.bW [.bool true,k,v],ef _ _ ?_,hle,⟨fun b aq av=>?_,fun b aq av=>?_,fun _ _ _ _ h=>h⟩,⟨fun b o aq=>?_,fun b o aB=>by simpa [o0] using aI.wf.lt b o aB⟩,
      .inr ⟨l₁,k,v,l₂,aE,rfl,rfl⟩,.bW _ _ (.cons _ _ _ _ (.bool _) (.cons _ _ _ _ (ax.mono hle) (.cons _ _ _ _ (aD.mono hle) .nil)))⟩
    · have Wq:dq.heap[i]? = some (.mapIter (some m) clock seen clock):=by rw [o0];exact g2
      simp only [Instr.next,H1,qw g2 C,qw g1 C,i0,Mn,aj2,al0,Mo,bT,bI,Array.append_empty,Wp,Array.empty_append,Array.size_map,cI,
        Array.getElem?_map,Array.getElem?_eq_getElem aK,Option.map_some,DI Wq C,ai5]
    · rw [o0];exact gM b (fun e=>by subst e;rw [aQ] at av;cases av)
    · rw [ao.eQ]
      · exact av
      · intro e;subst e;rw [al] at av;cases av
    · by_cases e:b=m
      · subst e
        rw [ao.fH] at aq;cases aq;refine ⟨cr,clock,seen.push L[j].born,by rw [o0];exact (gM b cN).trans g1,by rw [o0];exact mU,⟨g3.1.mono hle,g3.2.mono hle⟩,g4,g5,?_,fun k' ga aw=>?_⟩
        · rw [filter_push g5 ht,← bE];exact ⟨y5.1.mono hle,y5.2.mono hle⟩
        · cases aw
          refine ⟨_,L[j],Array.back?_push,?_,ax.mono hle,aD.mono hle⟩;rw [← Array.find?_toList];exact find_born _ _ g5 dc
      · rw [ao.eQ _ _ e] at aq
        have He:=aI.wf.obj b o aq;by_cases e':b=i
        · subst e'
          rw [aQ] at aq;cases aq;exact ⟨_,_,_,by rw [o0];exact mU⟩
        · have c4:({ dq with heap:=dq.heap.setIfInBounds i (.mapIter (some m) clock (seen.push L[j].born) clock) }:World).heap[b]? = w.heap[b]? := by rw [o0];exact gM b e'
          cases o with
          | hz dE cT kg pX=>
            refine He.qt hle c4 ?_;rw [o0];refine gM cT (fun GU=>?_);subst GU;obtain ⟨_,_,_,_,q,-⟩:=He;rw [g2] at q;cases q;exact e C
          | _=>exact G7 C He hle c4 (fun _ h=>h)
theorem aX.Wr {o:Oper} {x:Operand} {m i:Nat} {es left:List (ag×ag)} {k v:ag} (ai:o.op = .entry x) (aa:aL env x=some (.ptr i 0)) (al:s m=some (.hz es i left (some (k,v)))) {X:ag→ao→Prop} :
  aX P N o env s (fun r an=>r = .bW [k,v]∧an=s) X:=by
 refine aX.jZ hZ fun ro B a w p aI=>?_
 have aC:=aI.aL aa;generalize dM:a.eval x=dy at aC;cases aC;obtain ⟨cr,clock,seen,g1,g2,g3,g4,g5,g6,g7⟩:=aI.wf.obj _ _ al;obtain ⟨Gq,e,dF,c8,du,lh⟩:=g7 k v rfl;refine ⟨.tuple #[e.key,e.val],w,s,p,_,?_,.refl w p,.refl s w p,aI.wf,⟨rfl,rfl⟩,.bW _ _ (.cons _ _ _ _ du (.cons _ _ _ _ lh .nil))⟩;unfold execOp;rw [ai];simp only [dM];refine gb ?_;simp only [Instr.entry,H1,qw g2 C,qw g1 C,i0,dF,c8,bne_self_eq_false,aj2,al0,ai5]
end
inductive b5:List ag→List ag→Prop
 | nil:b5 [] []
 | cons {x y:ag} {xs ys:List ag} (h:aR x y) (t:b5 xs ys):b5 (x::xs) (y::ys)
theorem b5.rel {w:World} {p:bV} {xs ys:List ag} (h:b5 xs ys):∀ {vs:List Value},b4 w p vs xs→b4 w p vs ys:=by
 induction h with
 | nil=>exact fun h=>h
 | cons h _ a8=>intro vs aD;cases aD with|cons _ _ _ _ U ad=>exact .cons _ _ _ _ (h _ _ _ U) (a8 ad)
theorem b5.refl:∀ xs:List ag,b5 xs xs
 | [] => .nil
 | _::xs => .cons (aR.refl _) (b5.refl xs)
theorem b5.length {xs ys:List ag} (h:b5 xs ys):xs.length=ys.length:=by
 induction h with
 | nil=>rfl
 | cons _ _ a8=>simp [a8]
theorem b5.append {a b c d:List ag} (h:b5 a b) (k:b5 c d):b5 (a++c) (b++d):=by
 induction h with
 | nil=>exact k
 | cons h _ a8=>exact .cons h a8
theorem aR.trans {x y z:ag} (h:aR x y) (k:aR y z):aR x z:=fun w p v aD=>k w p v (h w p v aD)
theorem aR.agg {xs ys:List ag} (h:b5 xs ys):aR (.agg xs) (.agg ys):=fun w p v aD=>by cases aD with|agg cs _ aE=>exact .agg _ _ (h.rel aE)
theorem aR.bW {xs ys:List ag} (h:b5 xs ys):aR (.bW xs) (.bW ys):=fun w p v aD=>by cases aD with|bW cs _ aE=>exact .bW _ _ (h.rel aE)
theorem aR.iface {t:TypeId} {x y:ag} (h:aR x y):aR (.iface t x) (.iface t y):=fun w p v aD=>by cases aD with|iface _ _ _ aE=>exact .iface _ _ _ (h _ _ _ aE)
theorem aR.bl {xs ys:List ag} {o:Nat} (h:b5 xs ys):aR (.bl xs o) (.bl ys o):=fun w p v aD=>by
 cases aD with|bl b base yN off vs _ ai aw aC=>exact .bl b base yN o vs ys ai aw (h.rel aC)
theorem aR.func {f:FuncId} {xs ys us vs:List ag} (h:b5 xs ys) (k:b5 us vs):aR (.func f xs us) (.func f ys vs):=fun w p v aD=>by
 cases aD with|func _ as cs _ _ bp aw=>exact .func _ _ _ _ _ (h.rel bp) (k.rel aw)
theorem aR.aF {sz:Nat} {xs ys:List ag} {own:bM} (h:b5 xs ys):aR (.aF sz xs own) (.aF sz ys .a7):=fun w p v aD=>by
 cases aD with
 | iA=>cases h;exact .iA _ _ bc
 | jo a=>cases h;exact .jo a _ _ (.inl C)
 | aF g off n cap _ vs _ _ av aE aw aC al hm ax cm ai=>exact .aF g off n cap sz vs ys .a7 bc (aE.trans h.length) aw (h.rel aC) al hm ax bc bc
theorem aR.a7 {sz:Nat} {xs:List ag} {own:bM}:aR (.aF sz xs own) (.aF sz xs .a7):=aR.aF (b5.refl _)
theorem aR.nil {sz sz':Nat} {own:bM} (ai:∀ b,own ≠ .own b):aR (.aF sz [] .nil) (.aF sz' [] own):=fun w p v aD=>by
 cases aD with
 | iA=>exact .iA _ _ ai
 | jo _ _ _ h=>rcases h with h|h<;>cases h
 | aF g off n cap _ vs _ _ av=>exact absurd C av
theorem aR.empty {sz sz':Nat} {own:bM}:aR (.aF sz [] own) (.aF sz' [] .a7):=fun w p v aD=>by
 cases aD with
 | iA=>exact .iA _ _ bc
 | jo a=>exact .jo a _ _ (.inl C)
 | aF g off n cap _ vs _ _ av aE aw aC al hm ax cm ai=>
  have:vs=[]:=ak7 (by rw [aC.length];rfl);subst this;exact .aF g off n cap sz' [] [] .a7 bc aE aw .nil bc hm ax bc bc
theorem aR.any (x:ag):aR x .any:=fun _ _ v _ => .any v
section
variable {P:Program} {Γ:cz} {N:Nat} {ops:Array Oper} {Q:b8→Env→ao→Prop} {env:Env} {s:ao} {l:List Oper} {o:Oper} {d:Nat}
theorem ab.rH {l:List Oper} (t:Nat) {v:ag} (ga:ag) (aD:env.get? t=some v) (he:aR v ga) (h:ab P N ops l Q ((t,ga)::env) s):ab P N ops l Q env s:=by
 intro k ax ro B a w p aI
 exact h k ax ro B a w p ⟨aI.size,fun u x aa=>by
  simp only [Env.get?] at aa
  split at aa
  ·rename_i aq;have:=ai3 aq;subst this;cases aa;exact he _ _ _ (aI.env _ _ aD)
  ·exact aI.env u x aa,aI.wf,aI.defs,aI.round,aI.base⟩
theorem ab.alloc (aP:bX P Γ) {t:TypeId} {i:bQ} {z:ag} {cs:List ag} (ay:guardOf ops env o=some true) (aA:o.dst=some d) (a1:af' d N=true) (ai:o.op = .alloc t) (aN:Γ.get? t=some i)
  (bO:ij i.zero=some z) (aw:cellsOf z=some cs) (h:∀ b,s b=none→ab P N ops l Q ((d,.ptr b 0)::env) (s.set b (.box t cs))):ab P N ops (o::l) Q env s:=
 ab.op ay aA a1 (aX.alloc aP ai aN bO aw (X:=fun _ _=>False)) (fun x an ⟨b,U,ad,aj⟩=>by subst ad;subst aj;exact h b U) (fun _ _ h=>h.elim)
theorem ab.u9 (aP:bX P Γ) {t T:TypeId} {x:Operand} {i:bQ} {b off:Nat} {cs:List ag} {v:ag} (ay:guardOf ops env o=some true) (aA:o.dst=some d) (a1:af' d N=true) (ai:o.op = .load t x)
  (aN:Γ.get? t=some i) (aa:aL env x=some (.ptr b off)) (al:s b=some (.box T cs)) (aD:hB i cs off=some v) (h:ab P N ops l Q ((d,v)::env) s):ab P N ops (o::l) Q env s:=
 ab.op ay aA a1 (aX.u9 aP ai aN aa al aD (X:=fun _ _=>False)) (fun x an ⟨U,ad⟩=>by subst U;subst ad;exact h) (fun _ _ h=>h.elim)
theorem ab.Di (aP:bX P Γ) {t T:TypeId} {x y:Operand} {i:bQ} {b off:Nat} {cs us:List ag} {v:ag} (ay:guardOf ops env o=some true) (aA:o.dst=none) (ai:o.op = .store t x y)
  (aN:Γ.get? t=some i) (aa:aL env x=some (.ptr b off)) (ar:aL env y=some v) (aD:cellsOf v=some us) (hu:aj4 us.length i.size=true) (U:us.all eZ=true) (al:s b=some (.box T cs))
  (er:ar4 (off+us.length) cs.length=true) (h:ab P N ops l Q env (s.set b (.box T (c5 off us cs)))):ab P N ops (o::l) Q env s:=
 ab.yJ ay aA (aX.Di aP ai aN aa ar aD hu U al er (X:=fun _ _=>False)) (fun x an U=>by subst U;exact h) (fun _ _ h=>h.elim)
theorem ab.lookup (aP:bX P Γ) {t ei fy:TypeId} {x y:Operand} {ok:Bool} {it ju aJ:bQ} {m:Nat} {es:List (ag×ag)} {k z:ag} {r:Option ag} (ay:guardOf ops env o=some true) (aA:o.dst=some d) (a1:af' d N=true)
  (ai:o.op = .lookup t x y ok) (aN:Γ.get? t=some it) (bw:it.bN = .map ei fy) (mT:Γ.get? ei=some ju) (bP:Γ.get? fy=some aJ) (aa:aL env x=some (.map m)) (ar:aL env y=some k) (al:s m=some (.map es))
  (aZ:me ju.bN k=true) (aC:kc es k=some r) (bO:ij aJ.zero=some z) (h:ab P N ops l Q ((d,oS ok z r)::env) s):ab P N ops (o::l) Q env s:=
 ab.op ay aA a1 (aX.lookup aP ai aN bw mT bP aa ar (.inl ⟨m,rfl,al⟩) aZ aC bO (X:=fun _ _=>False)) (fun x an ⟨U,ad⟩=>by subst U;subst ad;exact h) (fun _ _ h=>h.elim)
theorem ab.panic {x:Operand} {t:TypeId} {v:ag} (ay:guardOf ops env o=some true) (aA:o.dst=none) (ai:o.op = .panic x) (aa:aL env x=some (.iface t v)) (h:Q (.panic (.iface t v)) env s) :
  ab P N ops (o::l) Q env s:=
 ab.yJ ay aA (aX.panic ai aa (K:=fun _ _=>False)) (fun x an h=>h.elim) (fun x an ⟨U,ad⟩=>by subst U;subst ad;exact h)
end
section
variable {P:Program} {Γ:cz} {N:Nat} {l:List Oper} {Q:b8→Env→ao→Prop} {env:Env} {s:ao} {m:Nat}
theorem bH.pure {J:ao→Prop} (cU:J s) (i:Nat) {o:Oper} {d:Nat} {v:ag} (aC:kR l.toArray m i=true) (ai:l.toArray[i]? = some o) (aA:o.dst=some d) (a1:af' d N=true)
  (ay:dO l env o) (aD:mi Γ o (cF l env o) v) (h:bH J P Γ N l.toArray Q (cA (m|||2^i)) ((d,v)::env) s) :
  bH J P Γ N l.toArray Q (cA m) env s:=
 bH.still cU i o d v (ve.1 aC) ai aA DE (.inl ⟨ay,aD⟩) (by rw [rD];exact h)
theorem bb.pure (i:Nat) {o:Oper} {d:Nat} {v:ag} (aC:kR l.toArray m i=true) (ai:l.toArray[i]? = some o) (aA:o.dst=some d) (a1:af' d N=true)
  (ay:dO l env o) (aD:mi Γ o (cF l env o) v) (h:bb P Γ N l.toArray Q (cA (m|||2^i)) ((d,v)::env) s) :
  bb P Γ N l.toArray Q (cA m) env s:=bH.pure trivial i aC ai aA a1 ay aD h
theorem bb.idx (i:Nat) {o:Oper} {d:Nat} {t e:TypeId} {x y:Operand} {it aJ:bQ} {sz:Nat} {xs:List ag} {own:bM} {k:IntKind} {n:Int} {v:ag} {cs:List ag} (j:Nat) (aC:kR l.toArray m i=true) (ai:l.toArray[i]? = some o)
  (aA:o.dst=some d) (a1:af' d N=true) (ay:dO l env o) (cG:o.op = .indexAddr t x y) (aN:Γ.get? t=some it) (bw:it.bN = .aF e) (bP:Γ.get? e=some aJ)
  (aa:aL (cF l env o) x=some (.aF sz xs own)) (b6:sz=aJ.size) (ar:aL (cF l env o) y=some (.int k n)) (ft:n=(j:Int)) (aK:xs[j]? = some v) (aw:cellsOf v=some cs)
  (h:bb P Γ N l.toArray Q (cA (m|||2^i)) ((d,.bl cs 0)::env) s):bb P Γ N l.toArray Q (cA m) env s:=
 bb.pure i aC ai aA a1 ay (.idx j cG aN bw bP aa b6 ar ft aK aw) h
end
section
variable {P:Program} {Γ:cz} {N:Nat} {l:List Oper} {Q:b8→Env→ao→Prop} {env:Env} {s:ao} {m:Nat}
theorem bb.two {i j:Nat} {o u:Oper} {d c:Nat} {K X aM n8:ag→ao→Prop} (aC:fA l.toArray m (idxs 0 l)=[i,j]) (ai:l.toArray[i]? = some o) (hu:l.toArray[j]? = some u) (aA:o.dst=some d) (aw:u.dst=some c)
  (a1:af' d N=true) (qG:af' c N=true) (cN:aj4 i j=false)
  (ay:dO l env o) (m2:guardOf l.toArray (j3 env (looks l.toArray u)) u=some true)
  (h:aX P N o (cF l env o) s K X) (eA:aX P N u (j3 env (looks l.toArray u)) s aM n8)
  (ax:∀ x an,K x an→bb P Γ N l.toArray Q (cA (m|||2^i)) ((d,x)::env) an) (fa:∀ x an,aM x an→bb P Γ N l.toArray Q (cA (m|||2^j)) ((c,x)::env) an)
  (aa:∀ x an,X x an→Q (.panic x) [] an) (bY:∀ x an,n8 x an→Q (.panic x) [] an):bb P Γ N l.toArray Q (cA m) env s:=by
 have Hf:i≠j:=fun e=>by subst e;rw [ay'] at cN;cases cN
 have dc:∀ k,hJ l.toArray (cA m) k→k=i∨k=j:=fun k ax=>by
  have:=DC ax (l:=idxs 0 l) (by rw [A0,aw1];have:=ax.1;simp at this;omega);rw [aC] at this;simpa using this
 have au:i<l.toArray.size:=(t6.1 ai).1;have sJ:cA m i=false:=by
  cases aq:cA m i with
  | false=>rfl
  | true=>
   have gV:i∈fA l.toArray m (idxs 0 l):=by rw [aC];exact g8 ..
   have:∀ is,i∈fA l.toArray m is→kR l.toArray m i=true:=by
    intro is
    induction is with
    | nil=>intro h;cases h
    | cons j is a8=>
     intro h;simp only [fA] at h;split at h
     ·rename_i aq
      rcases ai1.1 h with rfl|h
      ·exact aq
      ·exact a8 h
     ·exact a8 h
   have:=(ve.1 (this _ gV)).2.1;rw [aq] at this;cases this
 refine bH.split (fun k=>if k=i then K else aM) (fun k=>if k=i then X else n8) ⟨i,au,sJ⟩ (fun k o' kO cW=>?_) (fun _ _ _ _ _ _ _ => .inl trivial) (fun k o' db kO cW cH x an bC=>?_) (fun k o' kO cW cH x an bC=>?_) (fun k o' kO cW x an jq=>?_)
 ·rcases dc k kO with rfl|rfl
  ·rw [ai] at cW;cases cW
   simp only [ak2];exact ⟨ay,h,fun db cH=>by rw [aA] at cH;cases cH;simpa [as4] using a1⟩
  ·rw [hu] at cW;cases cW
   simp only [f4 (Ne.symm Hf)];exact ⟨m2,eA,fun db cH=>by rw [aw] at cH;cases cH;simpa [as4] using qG⟩
 ·rcases dc k kO with rfl|rfl
  ·rw [ai] at cW;cases cW
   rw [aA] at cH;cases cH;simp only [ak2] at bC;rw [rD];exact ax x an bC
  ·rw [hu] at cW;cases cW
   rw [aw] at cH;cases cH;simp only [f4 (Ne.symm Hf)] at bC;rw [rD];exact fa x an bC
 ·rcases dc k kO with rfl|rfl
  ·rw [ai] at cW;cases cW
   rw [aA] at cH;cases cH
  ·rw [hu] at cW;cases cW
   rw [aw] at cH;cases cH
 ·rcases dc k kO with rfl|rfl
  ·simp only [ak2] at jq;exact aa x an jq
  ·simp only [f4 (Ne.symm Hf)] at jq;exact bY x an jq
end
section
variable {P:Program} {Γ:cz} {N:Nat} {ops:Array Oper} {Q:b8→Env→ao→Prop} {env:Env} {s:ao} {l:List Oper} {o:Oper} {d:Nat}
def Mq (ops:Array Oper) (o:Oper):Option Nat:=match o.guard with
  | some (j,_)=>match ops[j]? with
    | some u=>u.dst
    | none=>none
  | none=>none
theorem ab.same (b:Bool) (ay:guardOf ops env o=some b) (h:ab P N ops (o::l) Q env s):ab P N ops (o::l) Q env s:=h
theorem ab.m3 {t:Nat} {b:Bool} (al:Mq ops o=some t) (aD:env.get? t=some (.bool b)) (dR:b=true→ab P N ops (o::l) Q ((t,.bool true)::env) s)
  (j5:b=false→ab P N ops (o::l) Q ((t,.bool false)::env) s):ab P N ops (o::l) Q env s:=by
 cases b with
 | true=>exact ab.DB t aD C (dR C)
 | false=>exact ab.DB t aD C (j5 C)
end
def Mr (P:Program) (t:TypeId) (name:String) (f:FuncId):Bool:=
  match P.info? t,P.underlying t with
  | some i,some d=>(match i.methods.find? (·.name==name) with
    | some m=>m.path.isEmpty&&(match m.func with|some (j6,b)=>aj4 j6 f && !b|none=>false)
    | none=>false)&&(match d with | .pointer _=>false|_=>true)&&af' 0 (P.types.size+Made.depth)
  | _,_=>false
theorem Ms {P:Program} {t:TypeId} {name:String} {f:FuncId} (h:Mr P t name f=true):yT P t name f:=by
 unfold Mr at h;split at h
 ·rename_i i d aQ aA
  simp only [d6] at h;obtain ⟨⟨U,ad⟩,aj⟩:=h;split at U
  ·rename_i m hm
   simp only [d6] at U;obtain ⟨bk,bF⟩:=U;split at bF
   ·rename_i j6 b aZ
    simp only [d6] at bF;have bT:=ai3 bF.1;have bI:b=false:=by simpa using bF.2
    subst bT;subst bI;refine Vd aQ hm (by simpa [aH9] using bk) aZ aA (fun e he=>by subst he;cases ad) ?_;have:0<P.types.size+Made.depth:=by simpa [as4] using aj
    exact ⟨P.types.size+Made.depth-1,by omega⟩
   ·cases bF
  ·cases U
 ·cases h
def rowOf (s:ao) (e:TypeId) (sz n:Nat):bM→ao
 | .own b=>s.set b (.row e sz n)
 | _=>s
def y6 (s:ao) (n:Nat):bM→Prop
 | .own b=>s b=none
 | .nil=>True
 | .clip=>True
 | .a7=>False
section
variable {P:Program} {Γ:cz} {N:Nat} {env:Env} {s:ao}
theorem aX.Ws {o:Oper} {K X aM n8:ag→ao→Prop} (h:aX P N o env s K X) (bC:∀ x an,K x an→∃ eM,ao.Sub eM an∧aM x eM) (jq:∀ x an,X x an→∃ eM,ao.Sub eM an∧n8 x eM):aX P N o env s aM n8:=by
 refine ⟨h.1,fun ro B a w p aI=>(h.2 ro B a w p aI).mono ?_⟩;rintro e w' ⟨an,bg,U,ad,aj,bk⟩;cases e with
 | returned v=>
  obtain ⟨x,ax,aC⟩:=bk;obtain ⟨eM,al,fa⟩:=bC x an ax;exact ⟨eM,bg,U,ad.sub al,aj.sub al,x,fa,aC⟩
 | panicked dC=>
  obtain ⟨v,x,jr,ax,aC⟩:=bk;obtain ⟨eM,al,fa⟩:=jq x an ax;exact ⟨eM,bg,U,ad.sub al,aj.sub al,v,x,jr,fa,aC⟩
 | outgrown=>exact bk.elim
theorem aX.Wt (aP:bX P Γ) {o:Oper} {t bR e:TypeId} {x y:Operand} {it cT aJ:bQ} {eI b9 n:Nat} {xs ys:List ag} {own dW:bM}
  (ai:o.op = .call { callee := .builtin .append,args := #[x,y],argTypes := #[t,bR] }) (aN:Γ.get? t=some it) (bw:it.bN = .aF e) (dp:Γ.get? bR=some cT) (ed:∀ k,cT.bN ≠ .int k)
  (bP:Γ.get? e=some aJ) (aa:aL env x=some (.aF eI xs own)) (ar:aL env y=some (.aF b9 ys dW)) (jO:eI=aJ.size) (dN:ys=[]∨b9=aJ.size)
  (eE:aj4 aJ.zero.cells.size aJ.size=true) (ew:∀ y∈ys,mf aJ.size y=true) (aq:(xs.length+ys.length)*aJ.bytes≤140737488355328) (eR:xs.length+ys.length≤9223372036854775807)
  (av:n=xs.length) (I:y6 s n own) {X:ag→ao→Prop} :
  aX P N o env (rowOf s e aJ.size n own) (fun r an=>∃ dZ,y6 s (xs.length+ys.length) dZ∧(ys≠[]→∃ b,dZ = .own b)∧(∀ b,own = .own b→∃ aW,dZ = .own aW)∧r = .aF aJ.size (xs++ys) dZ∧an=rowOf s e aJ.size (xs.length+ys.length) dZ) X:=by
 subst av;have Dv:∀ b,own = .own b→rowOf s e aJ.size xs.length own b=some (.row e aJ.size xs.length):=fun b h=>by subst h;exact ao.fH _ _ _
 have qH:(own = .nil∨own = .clip)∨∃ b,own = .own b∧eI=aJ.size∧rowOf s e aJ.size xs.length own b=some (.row e aJ.size xs.length):=by
  cases own with
  | nil=>exact .inl (.inl C)
  | clip=>exact .inl (.inr C)
  | a7=>exact I.elim
  | own b=>exact .inr ⟨b,rfl,jO,Dv b C⟩
 have h:=aX.append (P:=P) (N:=N) (X:=X) aP ai aN bw dp ed bP aa ar (.inr jO) dN eE ew aq eR qH;refine h.Ws ?_ (fun _ an h=>⟨an,ao.pR _,h⟩);rintro r an (⟨rfl,aw,rfl,rfl⟩|⟨s₁,AT,b,U,rfl,rfl⟩)
 ·refine ⟨_,ao.pR _,own,?_,fun h=>absurd C h,fun b h=>⟨b,h⟩,by rw [d7],?_⟩
  ·rcases aw with rfl|rfl<;>trivial
  ·rcases aw with rfl|rfl<;>rfl
 ·rcases AT with rfl|⟨aW,rfl,rfl⟩
  ·cases own with
   | nil=>exact ⟨_,ao.pR _,.own b,U,fun _=>⟨b,rfl⟩,fun _ h=>nA,rfl,rfl⟩
   | clip=>exact ⟨_,ao.pR _,.own b,U,fun _=>⟨b,rfl⟩,fun _ h=>nA,rfl,rfl⟩
   | a7=>exact I.elim
   | own aW=>
    obtain ⟨dF,c8⟩:=ao.u7 U;refine ⟨s.set b (.row e aJ.size (xs.length+ys.length)),fun x=>?_,.own b,c8,fun _=>⟨b,rfl⟩,fun _ _=>⟨b,rfl⟩,rfl,rfl⟩;by_cases bT:x=b
    ·subst bT;left;rw [ao.fH,ao.fH]
    ·by_cases bI:x=aW
     ·subst bI;right;rw [ao.eQ _ _ bT];exact I
     ·left;rw [ao.eQ _ _ bT,ao.eQ _ _ bT];exact (ao.eQ _ _ bI).symm
  ·have aA:(rowOf s e aJ.size xs.length (.own aW)).del aW=s:=ao.AM _ _ _ I
   rw [aA] at U ⊢;exact ⟨_,ao.pR _,.own b,U,fun _=>⟨b,rfl⟩,fun _ _=>⟨b,rfl⟩,rfl,rfl⟩
end
section
variable {P:Program} {Γ:cz} {N:Nat} {ops:Array Oper} {Q:b8→Env→ao→Prop} {env:Env} {s:ao} {l:List Oper} {o:Oper} {d:Nat}
end
section
variable {Q:b8→Env→ao→Prop} {next:Env→ao→Prop} {env:Env} {s:ao}
theorem kS {id:Nat} (h:Q (.exit id) env s):b8.andThen next Q (.exit id) env s:=h
theorem jA (h:Q .ret env s):b8.andThen next Q .ret env s:=h
theorem oo {v:ag} (h:Q (.panic v) env s):b8.andThen next Q (.panic v) env s:=h
theorem iP {id:Nat} (h:Q .normal env s):b8.inBlock id Q .normal env s:=h
theorem mm {id:Nat} (h:Q .ret env s):b8.inBlock id Q .ret env s:=h
theorem oq {id:Nat} {v:ag} (h:Q (.panic v) env s):b8.inBlock id Q (.panic v) env s:=h
theorem kT {id:Nat} (h:Q .normal env s):b8.inBlock id Q (.exit id) env s:=by
 show (if aj4 id id then Q .normal env s else Q (.exit id) env s);rw [ay'];exact h
theorem ot {id k9:Nat} (av:aj4 k9 id=false) (h:Q (.exit k9) env s):b8.inBlock id Q (.exit k9) env s:=by
 show (if aj4 k9 id then Q .normal env s else Q (.exit k9) env s);rw [av];exact h
end
theorem aR.of_eq {x y:ag} (h:x=y):aR x y:=h ▸ aR.refl x
theorem hf {n:Int} (bn : -9223372036854775808≤n) (U:n≤9223372036854775807):ai' .i64 n=n:=by
 unfold ai' IntKind.bits IntKind.signed;simp;omega
theorem lo {n:Nat} (h:n<9223372036854775807):ai' .i64 ((n:Int)+1)=((n+1:Nat):Int):=by
 rw [hf ak ak];omega
section
variable {P:Program} {Γ:cz} {N:Nat} {ops:Array Oper} {Q:b8→Env→ao→Prop} {env:Env} {s:ao} {l:List Oper} {o:Oper} {d:Nat}
theorem ab.congr (e:Env) (he:∀ t,e.get? t=env.get? t) (h:ab P N ops l Q e s):ab P N ops l Q env s:=
 fun k ax ro B a w p aI=>h k ax ro B a w p ⟨aI.size,fun t v aD=>aI.env t v ((he t).symm.trans aD),aI.wf,aI.defs,aI.round,aI.base⟩
theorem Wu (e:Env) (d:Nat) (x y:ag):∀ t,Env.get? ((d,x)::e) t=Env.get? ((d,x)::(d,y)::e) t:=by
 intro t;simp only [Env.get?];split<;>rfl
theorem Wv (e:Env) {c d:Nat} (x y:ag) (h:aj4 c d=false):∀ t,Env.get? ((d,y)::(c,x)::e) t=Env.get? ((c,x)::(d,y)::e) t:=by
 intro t;simp only [Env.get?];cases U:aj4 d t<;>cases ad:aj4 c t<;>simp
 have:=ai3 U;have:=ai3 ad;subst_vars;rw [ay'] at h;cases h
theorem ab.vj (aP:bX P Γ) {o':Oper} {t:TypeId} {i:bQ} {z v:ag} {aO us:List ag} {y:Operand} (ay:guardOf ops env o=some true) (aA:o.dst=some d) (a1:af' d N=true) (ai:o.op = .alloc t) (aN:Γ.get? t=some i)
  (bO:ij i.zero=some z) (aw:cellsOf z=some aO) (m2:∀ b,guardOf ops ((d,.ptr b 0)::env) o'=some true) (cH:o'.dst=none) (cW:o'.op = .store t (.tmp d) y)
  (ar:∀ b,aL ((d,.ptr b 0)::env) y=some v) (aD:cellsOf v=some us) (hu:aj4 us.length i.size=true) (U:us.all eZ=true) (er:aj4 us.length aO.length=true)
  (h:ab P N ops l Q ((d,.bl us 0)::env) s):ab P N ops (o::o'::l) Q env s:=by
 refine ab.alloc aP ay aA a1 ai aN bO aw (fun b aq=>?_);have aE:=ai3 er;have Hg:aL ((d,.ptr b 0)::env) (.tmp d)=some (.ptr b 0):=by simp [aL,Env.get?]
 refine ab.Di aP (m2 b) cH cW aN Hg (ar b) aD hu U (ao.fH _ _ _) (Nat.ble_eq_true_of_le ak) ?_;rw [ao.set_set];refine ab.freeze d b (by simp [Env.get?]) (ao.fH _ _ _) ?_;rw [ao.AM _ _ _ aq];have he:c5 0 us aO=us:=by rw [LK _ _ _ ak];simp [List.drop_eq_nil_of_le,aE]
 rw [he];exact ab.congr _ (Wu _ _ _ _) h
end
section
variable {P:Program} {Γ:cz} {N:Nat} {l:List Oper} {Q:b8→Env→ao→Prop} {env:Env} {s:ao} {m:Nat}
theorem bb.Ww {σ:Type} (f:σ→ag) (g:σ→ao) (aid:σ→Prop) {Hh:σ→Prop} (aP:bX P Γ) {i j:Nat} {o u:Oper} {d c:Nat} {t T:TypeId} {x:Operand} {eu:bQ} {b off:Nat} {cs:List ag} {v:ag} {aM n8:ag→ao→Prop}
  (aC:fA l.toArray m (idxs 0 l)=[i,j]) (Wx:fA l.toArray (m|||2^i) (idxs 0 l)=[j])
  (ai:l.toArray[i]? = some o) (hu:l.toArray[j]? = some u) (aA:o.dst=some d) (aw:u.dst=some c) (a1:af' d N=true) (qG:af' c N=true) (cN:aj4 i j=false)
  (cG:o.op = .load t x) (aN:Γ.get? t=some eu) (aa:aL (cF l env o) x=some (.ptr b off)) (al:s b=some (.box T cs)) (aD:hB eu cs off=some v)
  (ay:dO l env o) (m2:guardOf l.toArray (j3 env (looks l.toArray u)) u=some true)
  (bT:j3 ((d,v)::env) (looks l.toArray u)=j3 env (looks l.toArray u))
  (eA:aX P N u (j3 env (looks l.toArray u)) s aM n8)
  (bC:∀ y an,aM y an→∃ z,aid z∧y=f z∧an=g z)
  (vk:∀ z,aid z→Hh z→bb P Γ N l.toArray Q (cA (m|||2^i|||2^j)) ((c,f z)::(d,v)::env) (g z))
  (cO:∀ z,aid z→Hh z→bb P Γ N l.toArray Q (cA (m|||2^j)) ((c,f z)::env) (g z))
  (ax:∀ z,aid z→Hh z) (bY:∀ y an,n8 y an→Q (.panic y) [] an):bb P Γ N l.toArray Q (cA m) env s:=by
 refine bb.two (X:=fun _ _=>False) aC ai hu aA aw a1 qG cN ay m2 (aX.u9 aP cG aN aa al aD) eA ?_ ?_ (fun _ _ h=>h.elim) bY
 ·rintro y an ⟨rfl,rfl⟩
  refine bb.one Wx hu aw qG (by rw [← bT] at m2;exact m2) (by rw [← bT] at eA;exact eA) (fun y an ar=>?_) bY;obtain ⟨z,bO,rfl,rfl⟩:=bC y an ar;exact vk z bO (ax z bO)
 ·intro y an ar
  obtain ⟨z,bO,rfl,rfl⟩:=bC y an ar;exact cO z bO (ax z bO)
end
theorem dn.xj {w:World} {p:bV} {s:ao} (h:dn w p s) {b:Nat} {T:TypeId} {cs cs':List ag} (al:s b=some (.box T cs)) (aw:b5 cs cs'):dn w p (s.set b (.box T cs')):=by
 refine ⟨fun x o aa=>?_,h.lt⟩;by_cases e:x=b
 ·subst e
  rw [ao.fH] at aa;cases aa;obtain ⟨vs,U,ad,aj⟩:=h.obj _ _ al;exact ⟨vs,U,aw.rel ad,aj⟩
 ·rw [ao.eQ _ _ e] at aa;exact h.obj x o aa
theorem ao.y7 {s:ao} {b:Nat} {o o':ds} (al:s b=some o) (x:Nat):(s.set b o') x=none↔s x=none:=by
 by_cases e:x=b
 ·subst e;rw [ao.fH,al];simp
 ·rw [ao.eQ _ _ e]
theorem dx.xj {N:Nat} {B:fP} {ro:Option Nat} {env:Env} {s:ao} {a:Act} {w:World} {p:bV} (h:dx N B ro env s a w p) {b:Nat} {T:TypeId} {cs cs':List ag} (al:s b=some (.box T cs)) (aw:b5 cs cs') :
  dx N B ro env (s.set b (.box T cs')) a w p:=by
 obtain ⟨cb,U,ad,aj⟩:=h.defs
 exact ⟨h.size,h.env,h.wf.xj al aw,⟨cb,U,ad,fun d aA=>let ⟨a,b,c⟩:=aj d aA;⟨a,b,(ao.y7 al d).2 c⟩⟩,
  fun l aE=>let ⟨a,b,c⟩:=h.round l aE;⟨a,b,(ao.y7 al l).2 c⟩,h.base⟩
theorem Kept.xj {s eM:ao} {w w':World} {p bg:bV} {b:Nat} {o o':ds} (al:s b=some o) (h:Kept (s.set b o') eM w p w' bg):Kept s eM w p w' bg :=
 ⟨fun x aa av=>h.heap x aa ((ao.y7 al x).2 av),fun x aa av=>h.la x aa ((ao.y7 al x).2 av),fun x o aa av=>h.lG x o aa ((ao.y7 al x).2 av)⟩
theorem af.xj {P:Program} {N:Nat} {Q:b8→Env→ao→Prop} {env:Env} {s:ao} {c:Code} (b:Nat) {T:TypeId} {cs:List ag} (cs':List ag) (al:s b=some (.box T cs)) (aw:b5 cs cs')
  (h:af P N c Q env (s.set b (.box T cs'))):af P N c Q env s:=
 fun hn B a w p eL aI=>mN (h hn B a w p eL (aI.xj al aw)) fun _ _ _ ⟨x,e5,eM,bg,U,ad,aj,bk,bF⟩=>⟨x,e5,eM,bg,U,ad,aj,bk,bF.xj al⟩
theorem b5.one {x y:ag} (h:aR x y):b5 [x] [y] := .cons h .nil
theorem b5.last {x y:ag} (h:aR x y):∀ (l:List ag),b5 (l++[x]) (l++[y])
 | [] => .one h
 | z::l => .cons (aR.refl z) (b5.last h l)
theorem ao.set_comm (s:ao) {b c:Nat} (o o':ds) (h:b≠c):(s.set b o).set c o'=(s.set c o').set b o:=by
 funext x;simp only [ao.set];split<;>split<;>simp_all
theorem y6.set {s:ao} {n m b:Nat} {own:bM} {o o':ds} (I:y6 s n own) (h:s b=some o):y6 (s.set b o') m own:=by
 cases own with
 | own aW=>exact (ao.y7 h aW).2 I
 | nil=>trivial
 | clip=>trivial
 | a7=>exact I
section
variable {P:Program} {Γ:cz} {N:Nat} {l:List Oper} {Q:b8→Env→ao→Prop} {env:Env} {s:ao} {m:Nat}
end
theorem ao.Wy {s t:ao} {b:Nat} {o:ds} (h:ao.Sub s t) (aq:s b=none):ao.Sub s (t.set b o):=fun x=>by
 by_cases e:x=b
 ·subst e;exact .inr aq
 ·rw [ao.eQ _ _ e];exact h x
section
variable {P:Program} {Γ:cz} {N:Nat} {l:List Oper} {Q:b8→Env→ao→Prop} {env:Env} {s:ao} {m:Nat}
theorem bH.xk {J:ao→Prop} (cU:J s) {i:Nat} {o:Oper} {d:Nat} {v:ag} (aC:kR l.toArray m i=true) (ai:l.toArray[i]? = some o) (aA:o.dst=some d) (a1:af' d N=true)
  (ay:dO l env o) (aD:∀ s,J s→aX P N o (cF l env o) s (fun x an=>x=v∧an=s) (fun _ _=>False))
  (h:bH J P Γ N l.toArray Q (cA (m|||2^i)) ((d,v)::env) s):bH J P Γ N l.toArray Q (cA m) env s:=by
 have U:=ve.1 aC;refine bH.still cU i o d v U ai aA DE (.inr (.inr ⟨ay,aD⟩)) ?_;rw [rD];exact h
theorem bb.calm {i:Nat} {o:Oper} {d:Nat} {v:ag} (aC:kR l.toArray m i=true) (ai:l.toArray[i]? = some o) (aA:o.dst=some d) (a1:af' d N=true)
  (ay:dO l env o) (aD:∀ s,aX P N o (cF l env o) s (fun x an=>x=v∧an=s) (fun _ _=>False))
  (h:bb P Γ N l.toArray Q (cA (m|||2^i)) ((d,v)::env) s):bb P Γ N l.toArray Q (cA m) env s:=
 bH.xk trivial aC ai aA a1 ay (fun s _=>aD s) h
theorem bb.Wz {i:Nat} {o:Oper} {d:Nat} {f:FuncId} {as:Array Operand} {cP:Array TypeId} {xs:List ag} {v:ag} (aC:kR l.toArray m i=true) (ai:l.toArray[i]? = some o) (aA:o.dst=some d) (a1:af' d N=true)
  (ay:dO l env o) (cG:o.op = .call { callee := .value (.func f),args:=as,argTypes:=cP }) (bp:gu (cF l env o) as.toList=some xs)
  (aw:∀ s,hX P f xs s (fun o an=>o = .ret v∧an=s))
  (h:bb P Γ N l.toArray Q (cA (m|||2^i)) ((d,v)::env) s):bb P Γ N l.toArray Q (cA m) env s:=
 bb.calm aC ai aA a1 ay (fun s=>(aX.call cG (fv := .func f [] []) rfl bp (iN.ey (R:=fun o an=>o = .ret v∧an=s) (by simpa using aw s))).mono (fun x an h=>by cases h.1;exact ⟨rfl,h.2⟩) (fun x an h=>by cases h.1)) h
def fq (P:Program) (Γ:cz) (N:Nat) (l:List Oper) (Q:b8→Env→ao→Prop) (m:Nat) (env:Env) (s:ao) (i:Nat):Prop:=
 ∃ (o:Oper) (K X:ag→ao→Prop),l.toArray[i]? = some o∧guardOf l.toArray (cF l env o) o=some true∧aX P N o (cF l env o) s K X∧(∀ d,o.dst=some d→d<N) ∧
  (∀ d,o.dst=some d→∀ x an,K x an→bb P Γ N l.toArray Q (cA (m|||2^i)) ((d,x)::env) an)∧(o.dst=none→∀ x an,K x an→bb P Γ N l.toArray Q (cA (m|||2^i)) env an) ∧
  ∀ x an,X x an→Q (.panic x) [] an
theorem fq.mk {i:Nat} {o:Oper} {d:Nat} {K X:ag→ao→Prop} (ai:l.toArray[i]? = some o) (aA:o.dst=some d) (a1:af' d N=true) (ay:dO l env o)
  (h:aX P N o (cF l env o) s K X) (ax:∀ x an,K x an→bb P Γ N l.toArray Q (cA (m|||2^i)) ((d,x)::env) an) (aa:∀ x an,X x an→Q (.panic x) [] an):fq P Γ N l Q m env s i:=
 ⟨o,K,X,ai,ay,h,(fun db cH=>by rw [aA] at cH;cases cH;simpa [as4] using a1),(fun db cH=>by rw [aA] at cH;cases cH;exact ax),(fun av=>by rw [aA] at av;cases av),aa⟩
theorem fq.jP {i:Nat} {o:Oper} {K X:ag→ao→Prop} (ai:l.toArray[i]? = some o) (aA:o.dst=none) (ay:dO l env o)
  (h:aX P N o (cF l env o) s K X) (ax:∀ x an,K x an→bb P Γ N l.toArray Q (cA (m|||2^i)) env an) (aa:∀ x an,X x an→Q (.panic x) [] an):fq P Γ N l Q m env s i:=
 ⟨o,K,X,ai,ay,h,(fun db cH=>by rw [aA] at cH;cases cH),(fun db cH=>by rw [aA] at cH;cases cH),(fun _=>ax),aa⟩
def de (P:Program) (Γ:cz) (N:Nat) (l:List Oper) (Q:b8→Env→ao→Prop) (m:Nat) (env:Env) (s:ao):List Nat→Prop
 | []=>True
 | i::is=>fq P Γ N l Q m env s i∧de P Γ N l Q m env s is
theorem de.mem {i:Nat}:∀ {is:List Nat},de P Γ N l Q m env s is→i∈is→fq P Γ N l Q m env s i
  | j::is,h,aQ=>by
    rcases ai1.1 aQ with rfl|aQ
    · exact h.1
    · exact de.mem h.2 aQ
theorem Hi {ops:Array Oper} {i:Nat}:∀ {is:List Nat},i∈fA ops m is→kR ops m i=true
  | j::is,h=>by
    simp only [fA] at h;split at h
    · rename_i aq
      rcases ai1.1 h with rfl|h
      · exact aq
      · exact Hi h
    · exact Hi h
theorem bb.many {i:Nat} {is:List Nat} (aC:fA l.toArray m (idxs 0 l)=i::is) (h:de P Γ N l Q m env s (i::is)):bb P Γ N l.toArray Q (cA m) env s:=by
 have dc:∀ k,hJ l.toArray (cA m) k→fq P Γ N l Q m env s k:=fun k ax=>by
  have:=DC ax (l:=idxs 0 l) (by rw [A0,aw1];have:=ax.1;simp at this;omega);rw [aC] at this;exact h.mem this
 have lk:hJ l.toArray (cA m) i:=ve.1 (Hi (is:=idxs 0 l) (by rw [aC];exact g8 ..));refine bH.split (fun k x an=>∃ o,l.toArray[k]? = some o∧(∀ d,o.dst=some d→bb P Γ N l.toArray Q (cA (m|||2^k)) ((d,x)::env) an)∧(o.dst=none→bb P Γ N l.toArray Q (cA (m|||2^k)) env an))
  (fun k x an=>Q (.panic x) [] an) ⟨i,lk.1,lk.2.1⟩ (fun k o ax ai=>?_) (fun _ _ _ _ _ _ _ => .inl trivial) (fun k o d ax ai aA x an ⟨o',cW,U,ad⟩=>?_) (fun k o ax ai aA x an ⟨o',cW,U,ad⟩=>?_) (fun k o ax ai x an aa=>aa)
 ·obtain ⟨o',K,X,cW,ay,rA,a1,U,ad,aj⟩:=dc k ax
  rw [ai] at cW;cases cW;exact ⟨ay,rA.mono (fun x an bC=>⟨o,ai,fun d aA=>U d aA x an bC,fun aA=>ad aA x an bC⟩) (fun x an jq=>aj x an jq),a1⟩
 ·rw [ai] at cW;cases cW
  rw [rD];exact U d aA
 ·rw [ai] at cW;cases cW
  rw [rD];exact ad aA
end
section
variable {P:Program} {Γ:cz} {N:Nat} {ops:Array Oper} {Q:b8→Env→ao→Prop} {env:Env} {s:ao} {l:List Oper} {o:Oper} {d:Nat}
theorem aX.WA {o:Oper} {t:TypeId} {x:Operand} {v:ag} {cs:List ag} (ai:o.op = .box t x) (aa:aL env x=some v) (aw:cellsOf v=some cs) {X:ag→ao→Prop} :
  aX P N o env s (fun r an=>∃ b,s b=none∧r = .ptr b 0∧an=s.set b (.box t cs)) X:=by
 refine aX.jZ hZ fun ro B a w p aI=>?_
 have aC:=su (aI.aL aa) aw;obtain ⟨ck,cL,ev,ee⟩:=sx aI.wf (.cells (a.eval x).cells t) (.box t cs) (fun w' U ad aj=>⟨(a.eval x).cells,U,aj _ _ aC,fun o aB=>absurd (aI.wf.lt _ _ aB) ak⟩);refine ⟨.pointer (some ⟨w.heap.size,0,none⟩),w.alloc (.cells (a.eval x).cells t),_,p,.ptr w.heap.size 0,?_,cL,ev,ee,⟨_,ck,rfl,rfl⟩,.ptr _ _⟩;unfold execOp;rw [ai];rfl
end
abbrev a6:=List (bM×ds)
def mn (s:ao) (k:bM) (o:ds):ao:=match k with
 | .own b=>s.set b o
 | _=>s
def gone (s:ao) (k:bM):Prop:=match k with
 | .own b=>s b=none
 | .a7=>False
 | _=>True
def aT (s:ao):a6→ao
 | []=>s
 | e::L=>mn (aT s L) e.1 e.2
def Ok (s:ao):a6→Prop
 | []=>True
 | e::L=>gone (aT s L) e.1∧Ok s L
inductive bm:a6→bM→ds→a6→Prop
 | here {k:bM} {o:ds} {L:a6}:bm ((k,o)::L) k o L
 | there {e:bM×ds} {k:bM} {o:ds} {L R:a6} (h:bm L k o R):bm (e::L) k o (e::R)
inductive az:a6→a6→a6→Prop
 | nil {L:a6}:az L [] L
 | cons {k:bM} {o:ds} {L K R c':a6} (h:bm L k o R) (t:az R K c'):az L ((k,o)::K) c'
theorem Mt (s:ao) (e:TypeId) (sz n:Nat) (k:bM):rowOf s e sz n k=mn s k (.row e sz n):=by cases k<;>rfl
theorem Mu {s:ao} {n:Nat} {k:bM}:y6 s n k↔gone s k:=by cases k<;>exact Iff.rfl
theorem WB {s:ao} {k k':bM} {o o':ds} (h:gone s k) (eA:gone (mn s k o) k'):gone s k'∧gone (mn s k' o') k∧mn (mn s k o) k' o'=mn (mn s k' o') k o:=by
 cases k with
 | own b=>
  cases k' with
  | own aW=>
   obtain ⟨U,ad⟩:=ao.u7 eA;exact ⟨ad,(ao.eQ s o' (Ne.symm U)).trans h,ao.set_comm s o o' (Ne.symm U)⟩
  | nil=>exact ⟨trivial,h,rfl⟩
  | clip=>exact ⟨trivial,h,rfl⟩
  | a7=>exact eA.elim
 | nil=>exact ⟨eA,trivial,rfl⟩
 | clip=>exact ⟨eA,trivial,rfl⟩
 | a7=>exact h.elim
theorem bm.perm {s:ao} {L R:a6} {k:bM} {o:ds} (h:bm L k o R):Ok s L→aT s L=aT s ((k,o)::R)∧Ok s ((k,o)::R):=by
 induction h with
 | here=>exact fun h=>⟨rfl,h⟩
 | @there e k o L R h a8=>
  rintro ⟨ay,I⟩;obtain ⟨U,ad,aj⟩:=a8 I;rw [U] at ay;obtain ⟨g1,g2,g3⟩:=WB (s:=aT s R) (k:=k) (o:=o) (k':=e.1) (o':=e.2) ad ay;refine ⟨?_,g2,g1,aj⟩;show mn (aT s L) e.1 e.2=mn (mn (aT s R) e.1 e.2) k o;rw [U];exact g3
theorem A5 (s:ao):∀ (K R:a6),aT s (K++R)=aT (aT s R) K
 | [],_=>rfl
 | e::K,R=>by show mn (aT s (K++R)) e.1 e.2=_;rw [A5 s K R];rfl
theorem DP {s:ao}:∀ {K R:a6},Ok s (K++R)↔Ok (aT s R) K∧Ok s R
  | [],R=>⟨fun h=>⟨trivial,h⟩,fun h=>h.2⟩
  | e::K,R=>by
    show gone (aT s (K++R)) e.1∧Ok s (K++R)↔(gone (aT (aT s R) K) e.1∧Ok (aT s R) K)∧Ok s R;rw [A5,DP,and_assoc]
theorem az.perm {s:ao} {L K R:a6} (h:az L K R):Ok s L→aT s L=aT s (K++R)∧Ok s (K++R):=by
 induction h with
 | nil=>exact fun h=>⟨rfl,h⟩
 | @cons k o L K R c' h t a8=>
  intro I;obtain ⟨U,ad,aj⟩:=h.perm I;obtain ⟨bk,bF⟩:=a8 aj;refine ⟨?_,?_,bF⟩
  ·rw [U];show mn (aT s R) k o=mn (aT s (K++c')) k o;rw [bk]
  ·have fx:gone (aT s R) k:=ad
   rw [bk] at fx;exact fx
theorem az.eq {s:ao} {L K R:a6} (h:az L K R) (I:Ok s L):aT s L=aT (aT s R) K∧Ok (aT s R) K∧Ok s R:=by
 obtain ⟨U,ad⟩:=h.perm I;rw [A5] at U;exact ⟨U,DP.1 ad⟩
theorem DQ {s t:ao} {k:bM} {o:ds} (h:ao.Sub s t):ao.Sub (mn s k o) (mn t k o):=by
 cases k with
 | own b=>
  intro x;by_cases e:x=b
  ·subst e;left;show (s.set x o) x=(t.set x o) x;rw [ao.fH,ao.fH]
  ·show (s.set b o) x=(t.set b o) x∨(s.set b o) x=none
   rw [ao.eQ _ _ e,ao.eQ _ _ e];exact h x
 | nil=>exact h
 | clip=>exact h
 | a7=>exact h
theorem y8 {s t:ao} {k:bM} {o:ds} (h:ao.Sub s t) (ay:gone s k):ao.Sub s (mn t k o):=by
 cases k with
 | own b=>exact ao.Wy h ay
 | nil=>exact h
 | clip=>exact h
 | a7=>exact h
theorem Hj {s t:ao} (h:ao.Sub s t):∀ L:a6,ao.Sub (aT s L) (aT t L)
 | []=>h
 | _::L=>DQ (Hj h L)
theorem Mv {s t:ao} {k:bM} (h:ao.Sub s t) (ay:gone t k):gone s k:=by
 cases k with
 | own b=>exact h.none ay
 | nil=>trivial
 | clip=>trivial
 | a7=>exact ay
theorem Ok.sub {s:ao}:∀ {L:a6},Ok s L→ao.Sub s (aT s L)
 | [],_=>ao.pR _
 | e::L,h=>y8 (Ok.sub h.2) (Mv (Ok.sub h.2) h.1)
theorem Ok.rH {s t:ao} (h:ao.Sub s t):∀ {L:a6},Ok t L→Ok s L
 | [],_=>trivial
 | e::L,I=>⟨Mv (Hj h L) I.1,Ok.rH h I.2⟩
theorem az.sub {s:ao} {L K R:a6} (h:az L K R) (I:Ok s L):ao.Sub (aT s K) (aT s L)∧Ok s K:=by
 obtain ⟨U,ad,aj⟩:=h.eq I;rw [U];exact ⟨Hj aj.sub K,ad.rH aj.sub⟩
theorem bm.get {s:ao} {L R:a6} {b:Nat} {o:ds} (h:bm L (.own b) o R) (I:Ok s L):aT s L b=some o:=by
 rw [(h.perm I).1];exact ao.fH _ _ _
theorem bm.put {s:ao} {L R:a6} {b:Nat} {o:ds} (o':ds) (h:bm L (.own b) o R) (I:Ok s L):(aT s L).set b o'=aT s ((.own b,o')::R)∧Ok s ((.own b,o')::R):=by
 obtain ⟨U,ad⟩:=h.perm I;rw [U];exact ⟨ao.set_set _ _ _ _,ad⟩
theorem bm.del {s:ao} {L R:a6} {b:Nat} {o:ds} (h:bm L (.own b) o R) (I:Ok s L):(aT s L).del b=aT s R∧Ok s R:=by
 obtain ⟨U,ad⟩:=h.perm I;rw [U];exact ⟨ao.AM _ _ _ ad.1,ad.2⟩
section
variable {P:Program} {Γ:cz} {N:Nat} {ops:Array Oper} {Q:b8→Env→ao→Prop} {env:Env} {s:ao} {l:List Oper} {o:Oper} {d:Nat} {L R:a6}
theorem aX.dY (aP:bX P Γ) (I:Ok s L) {t T:TypeId} {x:Operand} {i:bQ} {b off:Nat} {cs:List ag} {v:ag} (ai:o.op = .load t x) (aN:Γ.get? t=some i) (aa:aL env x=some (.ptr b off))
  (al:bm L (.own b) (.box T cs) R) (aD:hB i cs off=some v) {X:ag→ao→Prop}:aX P N o env (aT s L) (fun x an=>x=v∧an=aT s L) X:=
 aX.u9 aP ai aN aa (al.get I) aD
theorem ab.dY (aP:bX P Γ) (I:Ok s L) {t T:TypeId} {x:Operand} {i:bQ} {b off:Nat} {cs:List ag} {v:ag} (ay:guardOf ops env o=some true) (aA:o.dst=some d) (a1:af' d N=true) (ai:o.op = .load t x)
  (aN:Γ.get? t=some i) (aa:aL env x=some (.ptr b off)) (al:bm L (.own b) (.box T cs) R) (aD:hB i cs off=some v) (h:ab P N ops l Q ((d,v)::env) (aT s L)):ab P N ops (o::l) Q env (aT s L):=
 ab.u9 aP ay aA a1 ai aN aa (al.get I) aD h
theorem aX.cC (aP:bX P Γ) (I:Ok s L) {t T:TypeId} {x y:Operand} {i:bQ} {b off:Nat} {cs us:List ag} {v:ag} (ai:o.op = .store t x y) (aN:Γ.get? t=some i) (aa:aL env x=some (.ptr b off))
  (ar:aL env y=some v) (aD:cellsOf v=some us) (hu:aj4 us.length i.size=true) (U:us.all eZ=true) (al:bm L (.own b) (.box T cs) R) (er:ar4 (off+us.length) cs.length=true) {X:ag→ao→Prop} :
  aX P N o env (aT s L) (fun _ an=>an=aT s ((.own b,.box T (c5 off us cs))::R)∧Ok s ((.own b,.box T (c5 off us cs))::R)) X:=by
 obtain ⟨ad,aj⟩:=al.put (.box T (c5 off us cs)) I;exact (aX.Di aP ai aN aa ar aD hu U (al.get I) er (X:=X)).mono (fun _ an h=>⟨h.trans ad,aj⟩) (fun _ _ h=>h)
theorem ab.cC (aP:bX P Γ) (I:Ok s L) {t T:TypeId} {x y:Operand} {i:bQ} {b off:Nat} {cs us:List ag} {v:ag} (ay:guardOf ops env o=some true) (aA:o.dst=none) (ai:o.op = .store t x y)
  (aN:Γ.get? t=some i) (aa:aL env x=some (.ptr b off)) (ar:aL env y=some v) (aD:cellsOf v=some us) (hu:aj4 us.length i.size=true) (U:us.all eZ=true)
  (al:bm L (.own b) (.box T cs) R) (er:ar4 (off+us.length) cs.length=true) (h:Ok s ((.own b,.box T (c5 off us cs))::R)→ab P N ops l Q env (aT s ((.own b,.box T (c5 off us cs))::R))):ab P N ops (o::l) Q env (aT s L):=
 ab.yJ ay aA (aX.cC aP I ai aN aa ar aD hu U al er (X:=fun _ _=>False)) (fun x an ⟨ad,aj⟩=>by subst ad;exact h aj) (fun _ _ h=>h.elim)
theorem aX.c3 (aP:bX P Γ) (I:Ok s L) {t:TypeId} {i:bQ} {z:ag} {cs:List ag} (ai:o.op = .alloc t) (aN:Γ.get? t=some i) (bO:ij i.zero=some z) (aw:cellsOf z=some cs) {X:ag→ao→Prop} :
  aX P N o env (aT s L) (fun x an=>∃ b,x = .ptr b 0∧an=aT s ((.own b,.box t cs)::L)∧Ok s ((.own b,.box t cs)::L)) X:=
 (aX.alloc aP ai aN bO aw (X:=X)).mono (fun x an ⟨b,U,ad,aj⟩=>⟨b,ad,aj,U,I⟩) (fun _ _ h=>h)
theorem ab.c3 (aP:bX P Γ) (I:Ok s L) {t:TypeId} {i:bQ} {z:ag} {cs:List ag} (ay:guardOf ops env o=some true) (aA:o.dst=some d) (a1:af' d N=true) (ai:o.op = .alloc t) (aN:Γ.get? t=some i)
  (bO:ij i.zero=some z) (aw:cellsOf z=some cs) (h:∀ b,Ok s ((.own b,.box t cs)::L)→ab P N ops l Q ((d,.ptr b 0)::env) (aT s ((.own b,.box t cs)::L))):ab P N ops (o::l) Q env (aT s L):=
 ab.op ay aA a1 (aX.c3 aP I ai aN bO aw (X:=fun _ _=>False)) (fun x an ⟨b,U,ad,aj⟩=>by subst U;subst ad;exact h b aj) (fun _ _ h=>h.elim)
theorem aX.h0 (I:Ok s L) {t:TypeId} {x:Operand} {v:ag} {cs:List ag} (ai:o.op = .box t x) (aa:aL env x=some v) (aw:cellsOf v=some cs) {X:ag→ao→Prop} :
  aX P N o env (aT s L) (fun x an=>∃ b,x = .ptr b 0∧an=aT s ((.own b,.box t cs)::L)∧Ok s ((.own b,.box t cs)::L)) X:=
 (aX.WA ai aa aw (X:=X)).mono (fun x an ⟨b,U,ad,aj⟩=>⟨b,ad,aj,U,I⟩) (fun _ _ h=>h)
theorem ab.h0 (I:Ok s L) {t:TypeId} {x:Operand} {v:ag} {cs:List ag} (ay:guardOf ops env o=some true) (aA:o.dst=some d) (a1:af' d N=true) (ai:o.op = .box t x) (aa:aL env x=some v) (aw:cellsOf v=some cs)
  (h:∀ b,Ok s ((.own b,.box t cs)::L)→ab P N ops l Q ((d,.ptr b 0)::env) (aT s ((.own b,.box t cs)::L))):ab P N ops (o::l) Q env (aT s L):=
 ab.op ay aA a1 (aX.h0 I ai aa aw (X:=fun _ _=>False)) (fun x an ⟨b,U,ad,aj⟩=>by subst U;subst ad;exact h b aj) (fun _ _ h=>h.elim)
theorem aX.ou (I:Ok s L) {t:TypeId} (ai:o.op = .makeMap t none) {X:ag→ao→Prop} :
  aX P N o env (aT s L) (fun x an=>∃ b,x = .map b∧an=aT s ((.own b,.map [])::L)∧Ok s ((.own b,.map [])::L)) X:=
 (aX.makeMap ai (X:=X)).mono (fun x an ⟨b,U,ad,aj⟩=>⟨b,ad,aj,U,I⟩) (fun _ _ h=>h)
theorem ab.ou (I:Ok s L) {t:TypeId} (ay:guardOf ops env o=some true) (aA:o.dst=some d) (a1:af' d N=true) (ai:o.op = .makeMap t none)
  (h:∀ b,Ok s ((.own b,.map [])::L)→ab P N ops l Q ((d,.map b)::env) (aT s ((.own b,.map [])::L))):ab P N ops (o::l) Q env (aT s L):=
 ab.op ay aA a1 (aX.ou I ai (X:=fun _ _=>False)) (fun x an ⟨b,U,ad,aj⟩=>by subst U;subst ad;exact h b aj) (fun _ _ h=>h.elim)
theorem aX.j7 (aP:bX P Γ) (I:Ok s L) {t ei fy:TypeId} {x y:Operand} {ok:Bool} {it ju aJ:bQ} {m:Nat} {es:List (ag×ag)} {k z:ag} {r:Option ag} (ai:o.op = .lookup t x y ok) (aN:Γ.get? t=some it)
  (bw:it.bN = .map ei fy) (mT:Γ.get? ei=some ju) (bP:Γ.get? fy=some aJ) (aa:aL env x=some (.map m)) (ar:aL env y=some k) (al:bm L (.own m) (.map es) R) (aZ:me ju.bN k=true) (aC:kc es k=some r)
  (bO:ij aJ.zero=some z) {X:ag→ao→Prop}:aX P N o env (aT s L) (fun x an=>x=oS ok z r∧an=aT s L) X:=
 aX.lookup aP ai aN bw mT bP aa ar (.inl ⟨m,rfl,al.get I⟩) aZ aC bO
theorem ab.j7 (aP:bX P Γ) (I:Ok s L) {t ei fy:TypeId} {x y:Operand} {ok:Bool} {it ju aJ:bQ} {m:Nat} {es:List (ag×ag)} {k z:ag} {r:Option ag} (ay:guardOf ops env o=some true) (aA:o.dst=some d) (a1:af' d N=true)
  (ai:o.op = .lookup t x y ok) (aN:Γ.get? t=some it) (bw:it.bN = .map ei fy) (mT:Γ.get? ei=some ju) (bP:Γ.get? fy=some aJ) (aa:aL env x=some (.map m)) (ar:aL env y=some k) (al:bm L (.own m) (.map es) R)
  (aZ:me ju.bN k=true) (aC:kc es k=some r) (bO:ij aJ.zero=some z) (h:ab P N ops l Q ((d,oS ok z r)::env) (aT s L)):ab P N ops (o::l) Q env (aT s L):=
 ab.lookup aP ay aA a1 ai aN bw mT bP aa ar (al.get I) aZ aC bO h
theorem aX.kz (aP:bX P Γ) (I:Ok s L) {t ei fy:TypeId} {x y z:Operand} {it ju:bQ} {b:Nat} {es dE:List (ag×ag)} {k v:ag} (ai:o.op = .mapUpdate t x y z∨o.op = .insert t x y z)
  (aN:Γ.get? t=some it) (bw:it.bN = .map ei fy) (mT:Γ.get? ei=some ju) (aa:aL env x=some (.map b)) (ar:aL env y=some k) (bO:aL env z=some v) (al:bm L (.own b) (.map es) R) (aZ:me ju.bN k=true)
  (aB:od es k v=some dE) {X:ag→ao→Prop}:aX P N o env (aT s L) (fun _ an=>an=aT s ((.own b,.map dE)::R)∧Ok s ((.own b,.map dE)::R)) X:=by
 obtain ⟨ad,aj⟩:=al.put (.map dE) I;exact (aX.mapUpdate aP ai aN bw mT aa ar bO (al.get I) aZ aB (X:=X)).mono (fun _ an h=>⟨h.trans ad,aj⟩) (fun _ _ h=>h)
theorem ab.kz (aP:bX P Γ) (I:Ok s L) {t ei fy:TypeId} {x y z:Operand} {it ju:bQ} {b:Nat} {es dE:List (ag×ag)} {k v:ag} (ay:guardOf ops env o=some true) (aA:o.dst=none) (ai:o.op = .mapUpdate t x y z∨o.op = .insert t x y z)
  (aN:Γ.get? t=some it) (bw:it.bN = .map ei fy) (mT:Γ.get? ei=some ju) (aa:aL env x=some (.map b)) (ar:aL env y=some k) (bO:aL env z=some v) (al:bm L (.own b) (.map es) R) (aZ:me ju.bN k=true)
  (aB:od es k v=some dE) (h:Ok s ((.own b,.map dE)::R)→ab P N ops l Q env (aT s ((.own b,.map dE)::R))):ab P N ops (o::l) Q env (aT s L):=
 ab.yJ ay aA (aX.kz aP I ai aN bw mT aa ar bO al aZ aB (X:=fun _ _=>False)) (fun x an ⟨ad,aj⟩=>by subst ad;exact h aj) (fun _ _ h=>h.elim)
theorem aX.lN (aP:bX P Γ) (I:Ok s L) {t bR e:TypeId} {x y:Operand} {it cT aJ:bQ} {eI b9 sz n n':Nat} {xs ys:List ag} {own dW:bM}
  (ai:o.op = .call { callee := .builtin .append,args := #[x,y],argTypes := #[t,bR] }) (aN:Γ.get? t=some it) (bw:it.bN = .aF e) (dp:Γ.get? bR=some cT) (ed:∀ k,cT.bN ≠ .int k)
  (bP:Γ.get? e=some aJ) (aa:aL env x=some (.aF eI xs own)) (ar:aL env y=some (.aF b9 ys dW)) (jO:eI=aJ.size) (dN:ys=[]∨b9=aJ.size)
  (eE:aj4 aJ.zero.cells.size aJ.size=true) (ew:∀ y∈ys,mf aJ.size y=true) (aq:(xs.length+ys.length)*aJ.bytes≤140737488355328) (eR:xs.length+ys.length≤9223372036854775807)
  (av:n=xs.length) (eO:n'=xs.length+ys.length) (b6:sz=aJ.size) (al:bm L own (.row e sz n) R) {X:ag→ao→Prop} :
  aX P N o env (aT s L) (fun r an=>∃ dZ,(ys≠[]→∃ b,dZ = .own b)∧(∀ b,own = .own b→∃ aW,dZ = .own aW)∧r = .aF sz (xs++ys) dZ∧an=aT s ((dZ,.row e sz n')::R)∧Ok s ((dZ,.row e sz n')::R)) X:=by
 subst b6;subst eO;obtain ⟨U,ad,aj⟩:=al.perm I;have bk:aT s L=rowOf (aT s R) e aJ.size n own:=U.trans (Mt _ _ _ _ _).symm;rw [bk];refine (aX.Wt aP ai aN bw dp ed bP aa ar jO dN eE ew aq eR av (Mu.2 ad) (X:=X)).mono ?_ (fun _ _ h=>h);rintro r an ⟨dZ,g1,g2,g3,rfl,rfl⟩;exact ⟨dZ,g2,g3,rfl,Mt _ _ _ _ _,Mu.1 g1,aj⟩
theorem ab.gn (aP:bX P Γ) (I:Ok s L) {t bR e:TypeId} {x y:Operand} {it cT aJ:bQ} {eI b9 sz n:Nat} {xs:List ag} {v:ag} {own dW:bM} (ay:guardOf ops env o=some true) (aA:o.dst=some d) (a1:af' d N=true)
  (ai:o.op = .call { callee := .builtin .append,args := #[x,y],argTypes := #[t,bR] }) (aN:Γ.get? t=some it) (bw:it.bN = .aF e) (dp:Γ.get? bR=some cT) (ed:∀ k,cT.bN ≠ .int k)
  (bP:Γ.get? e=some aJ) (aa:aL env x=some (.aF eI xs own)) (ar:aL env y=some (.aF b9 [v] dW)) (jO:eI=aJ.size) (dN:b9=aJ.size)
  (eE:aj4 aJ.zero.cells.size aJ.size=true) (ew:mf aJ.size v=true) (b6:sz=aJ.size) (al:bm L own (.row e sz n) R) (av:n=xs.length) (aq:(n+1)*aJ.bytes≤140737488355328) (eR:n+1≤9223372036854775807)
  (h:∀ b,Ok s ((.own b,.row e sz (n+1))::R)→ab P N ops l Q ((d,.aF sz (xs++[v]) (.own b))::env) (aT s ((.own b,.row e sz (n+1))::R))):ab P N ops (o::l) Q env (aT s L):=by
 subst av;refine ab.op ay aA a1 (aX.lN aP I ai aN bw dp ed bP aa ar jO (.inr dN) eE (by intro y ar;simp at ar;subst ar;exact ew) aq eR C (n':=xs.length+1) C b6 al (X:=fun _ _=>False)) ?_ (fun _ _ h=>h.elim);rintro r an ⟨dZ,ad,-,rfl,rfl,aj⟩;obtain ⟨b,rfl⟩:=ad bc;exact h b aj
theorem ab.lN (aP:bX P Γ) (I:Ok s L) {t bR e:TypeId} {x y:Operand} {it cT aJ:bQ} {eI b9 sz n n':Nat} {xs ys:List ag} {own dW:bM} (ay:guardOf ops env o=some true) (aA:o.dst=some d) (a1:af' d N=true)
  (ai:o.op = .call { callee := .builtin .append,args := #[x,y],argTypes := #[t,bR] }) (aN:Γ.get? t=some it) (bw:it.bN = .aF e) (dp:Γ.get? bR=some cT) (ed:∀ k,cT.bN ≠ .int k)
  (bP:Γ.get? e=some aJ) (aa:aL env x=some (.aF eI xs own)) (ar:aL env y=some (.aF b9 ys dW)) (jO:eI=aJ.size) (dN:ys=[]∨b9=aJ.size)
  (eE:aj4 aJ.zero.cells.size aJ.size=true) (ew:∀ y∈ys,mf aJ.size y=true) (b6:sz=aJ.size) (al:bm L own (.row e sz n) R) (av:n=xs.length) (eO:n'=xs.length+ys.length) (aq:(xs.length+ys.length)*aJ.bytes≤140737488355328) (eR:xs.length+ys.length≤9223372036854775807)
  (h:∀ dZ,Ok s ((dZ,.row e sz n')::R)→ab P N ops l Q ((d,.aF sz (xs++ys) dZ)::env) (aT s ((dZ,.row e sz n')::R))):ab P N ops (o::l) Q env (aT s L):=by
 refine ab.op ay aA a1 (aX.lN aP I ai aN bw dp ed bP aa ar jO dN eE ew aq eR av eO b6 al (X:=fun _ _=>False)) ?_ (fun _ _ h=>h.elim);rintro r an ⟨dZ,-,-,rfl,rfl,aj⟩;exact h dZ aj
theorem af.im {c:Code} (I:Ok s L) (t b:Nat) {T:TypeId} {cs:List ag} (aN:env.get? t=some (.ptr b 0)) (al:bm L (.own b) (.box T cs) R) (h:Ok s R→af P N c Q ((t,.bl cs 0)::env) (aT s R)):af P N c Q env (aT s L):=by
 obtain ⟨U,ad⟩:=al.del I;refine af.freeze t b aN (al.get I) ?_;rw [U];exact h ad
theorem ab.im (I:Ok s L) (t b:Nat) {T:TypeId} {cs:List ag} (aN:env.get? t=some (.ptr b 0)) (al:bm L (.own b) (.box T cs) R) (h:Ok s R→ab P N ops l Q ((t,.bl cs 0)::env) (aT s R)):ab P N ops l Q env (aT s L):=by
 obtain ⟨U,ad⟩:=al.del I;refine ab.freeze t b aN (al.get I) ?_;rw [U];exact h ad
theorem af.A6 {c:Code} (I:Ok s L) (b:Nat) {T:TypeId} {cs:List ag} (cs':List ag) (al:bm L (.own b) (.box T cs) R) (aw:b5 cs cs') (h:Ok s ((.own b,.box T cs')::R)→af P N c Q env (aT s ((.own b,.box T cs')::R))):af P N c Q env (aT s L):=by
 obtain ⟨U,ad⟩:=al.put (.box T cs') I;refine af.xj b cs' (al.get I) aw ?_;rw [U];exact h ad
theorem af.m4 {c:Code} (I:Ok s L) (K:a6) (al:az L K R) (h:Ok s K→af P N c Q env (aT s K)):af P N c Q env (aT s L):=by
 obtain ⟨U,ad⟩:=al.sub I;exact af.drop _ U (h ad)
theorem ab.m4 (I:Ok s L) (K:a6) (al:az L K R) (h:Ok s K→ab P N ops l Q env (aT s K)):ab P N ops l Q env (aT s L):=by
 obtain ⟨U,ad⟩:=al.sub I;exact ab.drop _ U (h ad)
end
def vl (s:ao) (R:eS→a6→Prop) (o:eS) (an:ao):Prop:=∃ K,an=aT s K∧Ok s K∧R o K
def bs (P:Program) (f:FuncId) (args:List ag) (K:a6) (R:eS→a6→Prop):Prop:=∀ s,Ok s K→hX P f args (aT s K) (vl s R)
def df (P:Program) (fv:ag) (args:List ag) (K:a6) (R:eS→a6→Prop):Prop:=∀ s,Ok s K→iN P fv args (aT s K) (vl s R)
def aY (P:Program) (f:FuncId) (args:List ag) (v:ag):Prop:=∀ s,hX P f args s (fun o an=>o = .ret v∧an=s)
def cY (P:Program) (fv:ag) (args:List ag) (v:ag):Prop:=∀ s,iN P fv args s (fun o an=>o = .ret v∧an=s)
theorem cY.ey {P:Program} {f:FuncId} {first cap args:List ag} {v:ag} (h:aY P f (first++(args++cap)) v):cY P (.func f first cap) args v:=fun s=>iN.ey (h s)
section
variable {P:Program} {Γ:cz} {N:Nat} {ops:Array Oper} {Q:b8→Env→ao→Prop} {env:Env} {s:ao} {l:List Oper} {o:Oper} {d:Nat} {L R K:a6} {aik:eS→a6→Prop}
theorem ab.o1 {g:Operand} {fv:ag} {as:Array Operand} {cP:Array TypeId} {xs:List ag} {v:ag} (ay:guardOf ops env o=some true) (aA:o.dst=some d) (a1:af' d N=true)
  (cG:o.op = .call { callee := .value g,args:=as,argTypes:=cP }) (aD:aL env g=some fv) (bp:gu env as.toList=some xs) (h:cY P fv xs v) (ax:ab P N ops l Q ((d,v)::env) s):ab P N ops (o::l) Q env s:=
 ab.VI ay aA a1 cG aD bp (h s) (fun x an ⟨U,ad⟩=>by cases U;subst ad;exact ax) (fun x an ⟨U,_⟩=>by cases U)
theorem bs.mono {f:FuncId} {args:List ag} {A7:eS→a6→Prop} (h:bs P f args K aik) (aC:∀ o K,aik o K→A7 o K):bs P f args K A7 :=
 fun s I=>(h s I).mono fun o an ⟨aM,U,ad,aj⟩=>⟨aM,U,ad,aC _ _ aj⟩
theorem df.mono {fv:ag} {args:List ag} {A7:eS→a6→Prop} (h:df P fv args K aik) (aC:∀ o K,aik o K→A7 o K):df P fv args K A7 :=
 fun s I=>(h s I).mono fun o an ⟨aM,U,ad,aj⟩=>⟨aM,U,ad,aC _ _ aj⟩
theorem bs.at {f:FuncId} {args:List ag} (h:bs P f args K aik) (I:Ok s L) (al:az L K R):hX P f args (aT s L) (vl s fun o M=>∃ aM,M=aM++R∧aik o aM):=by
 obtain ⟨U,ad,aj⟩:=al.eq I;rw [U];refine (h _ ad).mono ?_;rintro o an ⟨aM,rfl,g2,g3⟩;exact ⟨aM++R,(A5 _ _ _).symm,DP.2 ⟨g2,aj⟩,aM,rfl,g3⟩
theorem df.at {fv:ag} {args:List ag} (h:df P fv args K aik) (I:Ok s L) (al:az L K R):iN P fv args (aT s L) (vl s fun o M=>∃ aM,M=aM++R∧aik o aM):=by
 obtain ⟨U,ad,aj⟩:=al.eq I;rw [U];refine (h _ ad).mono ?_;rintro o an ⟨aM,rfl,g2,g3⟩;exact ⟨aM++R,(A5 _ _ _).symm,DP.2 ⟨g2,aj⟩,aM,rfl,g3⟩
theorem df.ey {f:FuncId} {first cap args:List ag} (h:bs P f (first++(args++cap)) K aik):df P (.func f first cap) args K aik:=fun s I=>iN.ey (h s I)
theorem aX.bL {f:FuncId} {as:Array Operand} {cP:Array TypeId} {xs:List ag} (cG:o.op = .call { callee := .value (.func f),args:=as,argTypes:=cP }) (bp:gu env as.toList=some xs)
  (h:bs P f xs K aik) (I:Ok s L) (al:az L K R) :
  aX P N o env (aT s L) (fun x an=>∃ aM,an=aT s (aM++R)∧Ok s (aM++R)∧aik (.ret x) aM) (fun x an=>∃ aM,an=aT s (aM++R)∧Ok s (aM++R)∧aik (.panic x) aM):=by
 refine (aX.call cG (fv := .func f [] []) C bp (iN.ey (by simpa using h.at I al))).mono ?_ ?_
 ·rintro x an ⟨M,rfl,ad,aM,rfl,aj⟩;exact ⟨aM,rfl,ad,aj⟩
 ·rintro x an ⟨M,rfl,ad,aM,rfl,aj⟩;exact ⟨aM,rfl,ad,aj⟩
theorem aX.e0 {g:Operand} {fv:ag} {as:Array Operand} {cP:Array TypeId} {xs:List ag} (cG:o.op = .call { callee := .value g,args:=as,argTypes:=cP }) (aD:aL env g=some fv) (bp:gu env as.toList=some xs)
  (h:df P fv xs K aik) (I:Ok s L) (al:az L K R) :
  aX P N o env (aT s L) (fun x an=>∃ aM,an=aT s (aM++R)∧Ok s (aM++R)∧aik (.ret x) aM) (fun x an=>∃ aM,an=aT s (aM++R)∧Ok s (aM++R)∧aik (.panic x) aM):=by
 refine (aX.call cG aD bp (h.at I al)).mono ?_ ?_
 ·rintro x an ⟨M,rfl,ad,aM,rfl,aj⟩;exact ⟨aM,rfl,ad,aj⟩
 ·rintro x an ⟨M,rfl,ad,aM,rfl,aj⟩;exact ⟨aM,rfl,ad,aj⟩
theorem ab.bL {f:FuncId} {as:Array Operand} {cP:Array TypeId} {xs:List ag} (ay:guardOf ops env o=some true) (aA:o.dst=some d) (a1:af' d N=true)
  (cG:o.op = .call { callee := .value (.func f),args:=as,argTypes:=cP }) (bp:gu env as.toList=some xs) (h:bs P f xs K aik) (I:Ok s L) (al:az L K R)
  (ax:∀ x aM,aik (.ret x) aM→Ok s (aM++R)→ab P N ops l Q ((d,x)::env) (aT s (aM++R))) (aa:∀ x aM,aik (.panic x) aM→Ok s (aM++R)→Q (.panic x) env (aT s (aM++R))):ab P N ops (o::l) Q env (aT s L):=
 ab.op ay aA a1 (aX.bL cG bp h I al) (fun x an ⟨aM,U,ad,aj⟩=>by subst U;exact ax x aM aj ad) (fun x an ⟨aM,U,ad,aj⟩=>by subst U;exact aa x aM aj ad)
theorem ab.e0 {g:Operand} {fv:ag} {as:Array Operand} {cP:Array TypeId} {xs:List ag} (ay:guardOf ops env o=some true) (aA:o.dst=some d) (a1:af' d N=true)
  (cG:o.op = .call { callee := .value g,args:=as,argTypes:=cP }) (aD:aL env g=some fv) (bp:gu env as.toList=some xs) (h:df P fv xs K aik) (I:Ok s L) (al:az L K R)
  (ax:∀ x aM,aik (.ret x) aM→Ok s (aM++R)→ab P N ops l Q ((d,x)::env) (aT s (aM++R))) (aa:∀ x aM,aik (.panic x) aM→Ok s (aM++R)→Q (.panic x) env (aT s (aM++R))):ab P N ops (o::l) Q env (aT s L):=
 ab.op ay aA a1 (aX.e0 cG aD bp h I al) (fun x an ⟨aM,U,ad,aj⟩=>by subst U;exact ax x aM aj ad) (fun x an ⟨aM,U,ad,aj⟩=>by subst U;exact aa x aM aj ad)
theorem ab.DR {f:FuncId} {as:Array Operand} {cP:Array TypeId} {xs:List ag} {v:ag} {aM:a6} (ay:guardOf ops env o=some true) (aA:o.dst=some d) (a1:af' d N=true)
  (cG:o.op = .call { callee := .value (.func f),args:=as,argTypes:=cP }) (bp:gu env as.toList=some xs) (h:bs P f xs K (fun o M=>o = .ret v∧M=aM)) (I:Ok s L) (al:az L K R)
  (ax:Ok s (aM++R)→ab P N ops l Q ((d,v)::env) (aT s (aM++R))):ab P N ops (o::l) Q env (aT s L):=
 ab.bL ay aA a1 cG bp h I al (fun x M ⟨U,ad⟩ vm=>by cases U;subst ad;exact ax vm) (fun x M ⟨U,_⟩ _=>by cases U)
theorem ab.eT {f:FuncId} {as:Array Operand} {cP:Array TypeId} {xs:List ag} {v:ag} (ay:guardOf ops env o=some true) (aA:o.dst=some d) (a1:af' d N=true)
  (cG:o.op = .call { callee := .value (.func f),args:=as,argTypes:=cP }) (bp:gu env as.toList=some xs) (h:aY P f xs v) (ax:ab P N ops l Q ((d,v)::env) s):ab P N ops (o::l) Q env s:=
 ab.VH ay aA a1 cG bp (h s) ax
theorem bs.yX (aP:bX P Γ) {f:FuncId} {fn:Func} {c:Code} {args:List ag} (aw:rr P f) (aZ:P.funcs[f]? = some fn) (aq:fn.body=some c)
  (a1:ar4 args.length fn.ntmps=true) (h:∀ s,Ok s K→af P fn.ntmps c (Fin Γ fn.results.toList (vl s aik)) (sF 0 args) (aT s K)):bs P f args K aik:=
 fun s I=>hX.yX aP aw aZ aq a1 (h s I)
theorem aY.yX (aP:bX P Γ) {f:FuncId} {fn:Func} {c:Code} {args:List ag} {v:ag} (aw:rr P f) (aZ:P.funcs[f]? = some fn) (aq:fn.body=some c)
  (a1:ar4 args.length fn.ntmps=true) (h:∀ s,Ok s []→af P fn.ntmps c (Fin Γ fn.results.toList (fun o an=>o = .ret v∧an=s)) (sF 0 args) (aT s [])):aY P f args v:=
 fun s=>hX.yX aP aw aZ aq a1 (h s trivial)
theorem bs.bj (aP:bX P Γ) {f:FuncId} {fn:Func} {c:Code} {args:List ag} (aZ:P.funcs[f]? = some fn) (aq:fn.body=some c) (a1:Nat.ble args.length fn.ntmps=true) (h:∀ s,Ok s K→af P fn.ntmps c (Fin Γ fn.results.toList (vl s aik)) (sF 0 args) (aT s K)) (av:(fn.name == "runtime.NumGoroutine")=false:=by kernel_rfl):bs P f args K aik:=bs.yX aP (yS aZ av (by rw [aq];rfl)) aZ aq a1 h
theorem aY.bj (aP:bX P Γ) {f:FuncId} {fn:Func} {c:Code} {args:List ag} {v:ag} (aZ:P.funcs[f]? = some fn) (aq:fn.body=some c) (a1:Nat.ble args.length fn.ntmps=true) (h:∀ s,Ok s []→af P fn.ntmps c (Fin Γ fn.results.toList (fun o an=>o = .ret v∧an=s)) (sF 0 args) (aT s [])) (av:(fn.name == "runtime.NumGoroutine")=false:=by kernel_rfl):aY P f args v:=aY.yX aP (yS aZ av (by rw [aq];rfl)) aZ aq a1 h
theorem Fin.bz {rs:List ResultVar} {r r':ag} (I:Ok s L) (aC:nI Γ env (aT s L) rs=some r) (hle:aR r r') (al:az L K R) (iq:aik (.ret r') K):∃ r r' an,nI Γ env (aT s L) rs=some r∧aR r r'∧ao.Sub an (aT s L)∧vl s aik (.ret r') an:=by
 obtain ⟨U,ad⟩:=al.sub I;exact ⟨r,r',_,aC,hle,U,K,rfl,ad,iq⟩
theorem Fin.cZ {rs:List ResultVar} {r v:ag} (I:Ok s L) (aC:nI Γ env (aT s L) rs=some r) (hle:aR r v):∃ r r' an,nI Γ env (aT s L) rs=some r∧aR r r'∧ao.Sub an (aT s L)∧(eS.ret r' = .ret v∧an=s):=
 ⟨r,v,s,aC,hle,I.sub,rfl,rfl⟩
theorem Fin.e1 {v ga:ag} (I:Ok s L) (hle:aR v ga) (al:az L K R) (iq:aik (.panic ga) K):∃ ga an,aR v ga∧ao.Sub an (aT s L)∧vl s aik (.panic ga) an:=by
 obtain ⟨U,ad⟩:=al.sub I;exact ⟨ga,_,hle,U,K,rfl,ad,iq⟩
theorem Env.Sub.append {a b env:Env} (h:Env.Sub a env) (k:Env.Sub b env):Env.Sub (a++b) env:=by
 induction a with
 | nil=>exact k
 | cons x a a8=>exact ⟨h.1,a8 h.2⟩
def A8:List Nat→Env→Env→Env×Unit
  | [],_,acc=>(acc,())
  | t::hr,env,acc=>match env.get? t with
    | some v=>A8 hr env ((t,v)::acc)
    | none=>A8 hr env acc
theorem Hk:∀ (hr:List Nat) (acc E:Env),Env.Sub acc env→A8 hr env acc=(E,())→Env.Sub E env
  | [],acc,E,h,e=>by cases e;exact h
  | t::hr,acc,E,h,e=>by
    simp only [A8] at e;split at e
    · rename_i v aD;exact Hk hr ((t,v)::acc) E ⟨⟨v,aD,aR.refl _⟩,h⟩ e
    · exact Hk hr _ E h e
def bA {σ:Type} (s:ao) (E:σ→Env) (K:σ→a6) (aid:σ→Prop) (ok:σ→Prop) (e5:Env) (an:ao):Prop:=
 ∃ y o2 c',aid y∧ok y∧Env.Sub (E y) e5∧an=aT s o2∧Ok s o2∧az o2 (K y) c'
theorem af.A9 {σ:Type} {c:Code} (I:Ok s L) (E:σ→Env) (K:σ→a6) (aid:σ→Prop) (μ:σ→Nat) (oO:σ) {Hl:a6} (aG:aid oO) (gB:Env.Sub (E oO) env) (cK:az L (K oO) Hl)
  (round:∀ x,aid x→Ok s (K x)→af P N c (b8.andThen (bA s E K aid (fun y=>μ y<μ x)) Q) (E x) (aT s (K x))):af P N (.loop c) Q env (aT s L):=by
 obtain ⟨U,ad⟩:=cK.sub I;refine af.loop E (fun x=>aT s (K x)) (fun x=>aid x∧Ok s (K x)) μ oO ⟨aG,ad⟩ gB U ?_;rintro x ⟨aa,WC⟩;refine (round x aa WC).mono ?_;intro e e5 an h;cases e with
 | normal=>
  obtain ⟨y,o2,c',g1,g2,g3,rfl,g4,g5⟩:=h;obtain ⟨ck,cL⟩:=g5.sub g4;exact ⟨y,⟨g1,cL⟩,g3,ck,g2⟩
 | exit id=>exact h
 | ret=>exact h
 | panic v=>exact h
theorem bA.mk {σ:Type} {E:σ→Env} {K:σ→a6} {aid:σ→Prop} {ok:σ→Prop} (y:σ) {c':a6} (I:Ok s L) (aG:aid y) (gB:Env.Sub (E y) env) (cK:az L (K y) c') (hm:ok y):bA s E K aid ok env (aT s L):=⟨y,L,c',aG,hm,gB,rfl,I,cK⟩
def vn {σ:Type} (s:ao) (E:σ→Env) (K:σ→a6) (aid:σ→Prop) (e:b8) (e5:Env) (an:ao):Prop:=
 e = .normal∧∃ y o2 c',aid y∧Env.Sub (E y) e5∧an=aT s o2∧Ok s o2∧az o2 (K y) c'
theorem vn.mk {σ:Type} {E:σ→Env} {K:σ→a6} {aid:σ→Prop} (y:σ) {c':a6} (I:Ok s L) (aG:aid y) (gB:Env.Sub (E y) env) (cK:az L (K y) c'):vn s E K aid .normal env (aT s L):=⟨rfl,y,L,c',aG,gB,rfl,I,cK⟩
theorem af.Mw {σ:Type} {x y:Code} {pK:b8→Env→ao→Prop} (E:σ→Env) (K:σ→a6) (aid:σ→Prop) (A':af P N x (vn s E K aid) env (aT s L)) (Ba:∀ z,aid z→Ok s (K z)→af P N y Q (E z) (aT s (K z))) :
  af P N x (b8.andThen (af P N y Q) pK) env (aT s L):=by
 refine A'.mono ?_;rintro e e5 an ⟨rfl,z,o2,c',g1,g2,rfl,g3,g4⟩;obtain ⟨ck,cL⟩:=g4.sub g3;exact af.sub _ g2 (af.drop _ ck (Ba z g1 cL))
theorem af.WD {σ:Type} {x y:Code} (E:σ→Env) (K:σ→a6) (aid:σ→Prop) (A':af P N x (vn s E K aid) env (aT s L)) (Ba:∀ z,aid z→Ok s (K z)→af P N y Q (E z) (aT s (K z))):af P N (.seq x y) Q env (aT s L):=
 af.seq (af.Mw E K aid A' Ba)
end
section
variable {P:Program} {Γ:cz} {N:Nat} {l:List Oper} {Q:b8→Env→ao→Prop} {env:Env} {s:ao} {m:Nat} {L R:a6}
theorem bb.WE {i:Nat} {o:Oper} {d:Nat} {f:FuncId} {as:Array Operand} {cP:Array TypeId} {xs:List ag} {v:ag} (aC:kR l.toArray m i=true) (ai:l.toArray[i]? = some o) (aA:o.dst=some d) (a1:af' d N=true)
  (ay:dO l env o) (cG:o.op = .call { callee := .value (.func f),args:=as,argTypes:=cP }) (bp:gu (cF l env o) as.toList=some xs) (h:aY P f xs v)
  (k:bb P Γ N l.toArray Q (cA (m|||2^i)) ((d,v)::env) s):bb P Γ N l.toArray Q (cA m) env s:=
 bb.Wz aC ai aA a1 ay cG bp h k
theorem bb.dY (i:Nat) (aP:bX P Γ) (I:Ok s L) {o:Oper} {d:Nat} {t T:TypeId} {x:Operand} {eu:bQ} {b off:Nat} {cs:List ag} {v:ag} (aC:fA l.toArray m (idxs 0 l)=[i]) (ai:l.toArray[i]? = some o) (aA:o.dst=some d)
  (a1:af' d N=true) (ay:dO l env o) (cG:o.op = .load t x) (aN:Γ.get? t=some eu) (aa:aL (cF l env o) x=some (.ptr b off))
  (al:bm L (.own b) (.box T cs) R) (aD:hB eu cs off=some v) (h:bb P Γ N l.toArray Q (cA (m|||2^i)) ((d,v)::env) (aT s L)):bb P Γ N l.toArray Q (cA m) env (aT s L):=
 bb.one aC ai aA a1 ay (aX.dY aP I cG aN aa al aD (X:=fun _ _=>False)) (fun x an ⟨U,ad⟩=>by subst U;subst ad;exact h) (fun _ _ h=>h.elim)
theorem bb.cC (i:Nat) (aP:bX P Γ) (I:Ok s L) {o:Oper} {t T:TypeId} {x y:Operand} {eu:bQ} {b off:Nat} {cs us:List ag} {v:ag} (aC:fA l.toArray m (idxs 0 l)=[i]) (ai:l.toArray[i]? = some o) (aA:o.dst=none)
  (ay:dO l env o) (cG:o.op = .store t x y) (aN:Γ.get? t=some eu) (aa:aL (cF l env o) x=some (.ptr b off)) (ar:aL (cF l env o) y=some v)
  (aD:cellsOf v=some us) (hu:aj4 us.length eu.size=true) (U:us.all eZ=true) (al:bm L (.own b) (.box T cs) R) (er:ar4 (off+us.length) cs.length=true)
  (h:Ok s ((.own b,.box T (c5 off us cs))::R)→bb P Γ N l.toArray Q (cA (m|||2^i)) env (aT s ((.own b,.box T (c5 off us cs))::R))):bb P Γ N l.toArray Q (cA m) env (aT s L):=
 bb.y3 aC ai aA ay (aX.cC aP I cG aN aa ar aD hu U al er (X:=fun _ _=>False)) (fun x an ⟨U,ad⟩=>by subst U;exact h ad) (fun _ _ h=>h.elim)
theorem bb.c3 (i:Nat) (aP:bX P Γ) (I:Ok s L) {o:Oper} {d:Nat} {t:TypeId} {eu:bQ} {z:ag} {cs:List ag} (aC:fA l.toArray m (idxs 0 l)=[i]) (ai:l.toArray[i]? = some o) (aA:o.dst=some d)
  (a1:af' d N=true) (ay:dO l env o) (cG:o.op = .alloc t) (aN:Γ.get? t=some eu) (bO:ij eu.zero=some z) (aw:cellsOf z=some cs)
  (h:∀ b,Ok s ((.own b,.box t cs)::L)→bb P Γ N l.toArray Q (cA (m|||2^i)) ((d,.ptr b 0)::env) (aT s ((.own b,.box t cs)::L))):bb P Γ N l.toArray Q (cA m) env (aT s L):=
 bb.one aC ai aA a1 ay (aX.c3 aP I cG aN bO aw (X:=fun _ _=>False)) (fun x an ⟨b,U,ad,aj⟩=>by subst U;subst ad;exact h b aj) (fun _ _ h=>h.elim)
theorem bb.gn (i:Nat) (aP:bX P Γ) (I:Ok s L) {o:Oper} {d:Nat} {t bR e:TypeId} {x y:Operand} {it cT aJ:bQ} {eI b9 sz n:Nat} {xs:List ag} {v:ag} {own dW:bM} (aC:fA l.toArray m (idxs 0 l)=[i]) (ai:l.toArray[i]? = some o)
  (aA:o.dst=some d) (a1:af' d N=true) (ay:dO l env o) (cG:o.op = .call { callee := .builtin .append,args := #[x,y],argTypes := #[t,bR] }) (aN:Γ.get? t=some it)
  (bw:it.bN = .aF e) (dp:Γ.get? bR=some cT) (ed:∀ k,cT.bN ≠ .int k) (bP:Γ.get? e=some aJ) (aa:aL (cF l env o) x=some (.aF eI xs own)) (ar:aL (cF l env o) y=some (.aF b9 [v] dW)) (jO:eI=aJ.size) (dN:b9=aJ.size)
  (eE:aj4 aJ.zero.cells.size aJ.size=true) (ew:mf aJ.size v=true) (b6:sz=aJ.size) (al:bm L own (.row e sz n) R) (av:n=xs.length) (aq:(n+1)*aJ.bytes≤140737488355328) (eR:n+1≤9223372036854775807)
  (h:∀ b,Ok s ((.own b,.row e sz (n+1))::R)→bb P Γ N l.toArray Q (cA (m|||2^i)) ((d,.aF sz (xs++[v]) (.own b))::env) (aT s ((.own b,.row e sz (n+1))::R))):bb P Γ N l.toArray Q (cA m) env (aT s L):=by
 subst av;refine bb.one aC ai aA a1 ay (aX.lN aP I cG aN bw dp ed bP aa ar jO (.inr dN) eE (by intro y ar;simp at ar;subst ar;exact ew) aq eR C (n':=xs.length+1) C b6 al (X:=fun _ _=>False)) ?_ (fun _ _ h=>h.elim);rintro r an ⟨dZ,ad,-,rfl,rfl,aj⟩;obtain ⟨b,rfl⟩:=ad bc;exact h b aj
end
section
variable {P:Program} {Γ:cz} {N:Nat} {ops:Array Oper} {Q:b8→Env→ao→Prop} {env:Env} {s:ao} {o:Oper} {d:Nat}
theorem aX.weaken {K X aM n8:ag→ao→Prop} (h:aX P N o env s K X) (bC:∀ x an,K x an→∃ y eM,aR x y∧ao.Sub eM an∧aM y eM) (jq:∀ x an,X x an→∃ eM,ao.Sub eM an∧n8 x eM):aX P N o env s aM n8:=by
 refine ⟨h.1,fun ro B a w p aI=>(h.2 ro B a w p aI).mono ?_⟩;rintro e w' ⟨an,bg,U,ad,aj,bk⟩;cases e with
 | returned v=>
  obtain ⟨x,ax,aC⟩:=bk;obtain ⟨y,eM,hle,al,fa⟩:=bC x an ax;exact ⟨eM,bg,U,ad.sub al,aj.sub al,y,fa,hle _ _ _ aC⟩
 | panicked dC=>
  obtain ⟨v,x,jr,ax,aC⟩:=bk;obtain ⟨eM,al,fa⟩:=jq x an ax;exact ⟨eM,bg,U,ad.sub al,aj.sub al,v,x,jr,fa,aC⟩
 | outgrown=>exact bk.elim
theorem aX.y9 (aP:bX P Γ) {t bR e:TypeId} {x y:Operand} {it cT aJ:bQ} {eI b9:Nat} {xs ys:List ag} {own dW:bM}
  (ai:o.op = .call { callee := .builtin .append,args := #[x,y],argTypes := #[t,bR] }) (aN:Γ.get? t=some it) (bw:it.bN = .aF e) (dp:Γ.get? bR=some cT) (ed:∀ k,cT.bN ≠ .int k)
  (bP:Γ.get? e=some aJ) (aa:aL env x=some (.aF eI xs own)) (ar:aL env y=some (.aF b9 ys dW)) (jO:xs=[]∨eI=aJ.size) (dN:ys=[]∨b9=aJ.size)
  (eE:aj4 aJ.zero.cells.size aJ.size=true) (ew:∀ y∈ys,mf aJ.size y=true) (aq:(xs.length+ys.length)*aJ.bytes≤140737488355328) (eR:xs.length+ys.length≤9223372036854775807)
  (qH:own = .nil∨own = .clip) {X:ag→ao→Prop}:aX P N o env s (fun r an=>r = .aF aJ.size (xs++ys) .a7∧an=s) X:=by
 refine (aX.append aP ai aN bw dp ed bP aa ar jO dN eE ew aq eR (.inl qH) (X:=X)).weaken ?_ (fun _ an h=>⟨an,ao.pR _,h⟩);rintro r an (⟨rfl,_,rfl,rfl⟩|⟨s₁,AT,b,U,rfl,rfl⟩)
 ·exact ⟨_,_,by rw [d7];exact aR.a7,ao.pR _,rfl,rfl⟩
 ·rcases AT with rfl|⟨aW,rfl,rfl⟩
  ·exact ⟨_,_,aR.a7,ao.wT _ _ _ U,rfl,rfl⟩
  ·rcases qH with e|e<;>cases e
theorem ab.y9 (aP:bX P Γ) {l:List Oper} {t bR e:TypeId} {x y:Operand} {it cT aJ:bQ} {eI b9:Nat} {xs ys:List ag} {own dW:bM} (ay:guardOf ops env o=some true) (aA:o.dst=some d) (a1:af' d N=true)
  (ai:o.op = .call { callee := .builtin .append,args := #[x,y],argTypes := #[t,bR] }) (aN:Γ.get? t=some it) (bw:it.bN = .aF e) (dp:Γ.get? bR=some cT) (ed:∀ k,cT.bN ≠ .int k)
  (bP:Γ.get? e=some aJ) (aa:aL env x=some (.aF eI xs own)) (ar:aL env y=some (.aF b9 ys dW)) (jO:xs=[]∨eI=aJ.size) (dN:ys=[]∨b9=aJ.size)
  (eE:aj4 aJ.zero.cells.size aJ.size=true) (ew:∀ y∈ys,mf aJ.size y=true) (aq:(xs.length+ys.length)*aJ.bytes≤140737488355328) (eR:xs.length+ys.length≤9223372036854775807)
  (qH:own = .nil∨own = .clip) (h:ab P N ops l Q ((d,.aF aJ.size (xs++ys) .a7)::env) s):ab P N ops (o::l) Q env s:=
 ab.op ay aA a1 (aX.y9 aP ai aN bw dp ed bP aa ar jO dN eE ew aq eR qH (X:=fun _ _=>False)) (fun x an ⟨U,ad⟩=>by subst U;subst ad;exact h) (fun _ _ h=>h.elim)
end
def e6:List (Nat×ds)→ao→Prop
 | [],_=>True
 | e::K,s=>s e.1=some e.2∧e6 K s
theorem e6.one {b:Nat} {o:ds} {s:ao} (h:s b=some o):e6 [(b,o)] s:=⟨h,trivial⟩
theorem e6.two {b aW:Nat} {o o':ds} {s:ao} (h:s b=some o) (eA:s aW=some o'):e6 [(b,o),(aW,o')] s:=⟨h,eA,trivial⟩
theorem e6.fst {b:Nat} {o:ds} {K:List (Nat×ds)} {s:ao} (h:e6 ((b,o)::K) s):s b=some o:=h.1
theorem e6.snd {e:Nat×ds} {b:Nat} {o:ds} {K:List (Nat×ds)} {s:ao} (h:e6 (e::(b,o)::K) s):s b=some o:=h.2.1
section
variable {J:ao→Prop} {P:Program} {Γ:cz} {N:Nat} {l:List Oper} {Q:b8→Env→ao→Prop} {env:Env} {s:ao} {m:Nat} {L R:a6} {o:Oper} {d:Nat}
theorem bH.vo (i:Nat) (aP:bX P Γ) (cU:J s) {t T:TypeId} {x:Operand} {eu:bQ} {b off:Nat} {cs:List ag} {v:ag} (aC:kR l.toArray m i=true) (ai:l.toArray[i]? = some o) (aA:o.dst=some d) (a1:af' d N=true)
  (ay:dO l env o) (cG:o.op = .load t x) (aN:Γ.get? t=some eu) (aa:aL (cF l env o) x=some (.ptr b off)) (al:∀ s,J s→s b=some (.box T cs)) (aD:hB eu cs off=some v)
  (h:bH J P Γ N l.toArray Q (cA (m|||2^i)) ((d,v)::env) s):bH J P Γ N l.toArray Q (cA m) env s:=
 bH.xk cU aC ai aA a1 ay (fun s gU=>aX.u9 aP cG aN aa (al s gU) aD) h
theorem bH.cC (i:Nat) (aP:bX P Γ) (I:Ok s L) {t T:TypeId} {x y:Operand} {eu:bQ} {b off:Nat} {cs us:List ag} {v:ag} (aC:fA l.toArray m (idxs 0 l)=[i]) (ai:l.toArray[i]? = some o) (aA:o.dst=none)
  (ay:dO l env o) (cG:o.op = .store t x y) (aN:Γ.get? t=some eu) (aa:aL (cF l env o) x=some (.ptr b off)) (ar:aL (cF l env o) y=some v)
  (aD:cellsOf v=some us) (hu:aj4 us.length eu.size=true) (U:us.all eZ=true) (al:bm L (.own b) (.box T cs) R) (er:ar4 (off+us.length) cs.length=true)
  (aK:Ok s ((.own b,.box T (c5 off us cs))::R)→J (aT s ((.own b,.box T (c5 off us cs))::R))∨m1 l.toArray i=true)
  (h:Ok s ((.own b,.box T (c5 off us cs))::R)→bH J P Γ N l.toArray Q (cA (m|||2^i)) env (aT s ((.own b,.box T (c5 off us cs))::R))):bH J P Γ N l.toArray Q (cA m) env (aT s L):=
 bH.y3 aC ai aA ay (aX.cC aP I cG aN aa ar aD hu U al er (X:=fun _ _=>False)) (fun x an ⟨U,ad⟩=>by subst U;exact aK ad) (fun x an ⟨U,ad⟩=>by subst U;exact h ad) (fun _ _ h=>h.elim)
theorem bH.lN (i:Nat) (aP:bX P Γ) (I:Ok s L) {t bR e:TypeId} {x y:Operand} {it cT aJ:bQ} {eI b9 sz n n':Nat} {xs ys:List ag} {own dW:bM} (aC:fA l.toArray m (idxs 0 l)=[i]) (ai:l.toArray[i]? = some o)
  (aA:o.dst=some d) (a1:af' d N=true) (ay:dO l env o) (cG:o.op = .call { callee := .builtin .append,args := #[x,y],argTypes := #[t,bR] }) (aN:Γ.get? t=some it)
  (bw:it.bN = .aF e) (dp:Γ.get? bR=some cT) (ed:∀ k,cT.bN ≠ .int k) (bP:Γ.get? e=some aJ) (aa:aL (cF l env o) x=some (.aF eI xs own)) (ar:aL (cF l env o) y=some (.aF b9 ys dW)) (jO:eI=aJ.size) (dN:ys=[]∨b9=aJ.size)
  (eE:aj4 aJ.zero.cells.size aJ.size=true) (ew:∀ y∈ys,mf aJ.size y=true) (b6:sz=aJ.size) (al:bm L own (.row e sz n) R) (av:n=xs.length) (eO:n'=xs.length+ys.length) (aq:(xs.length+ys.length)*aJ.bytes≤140737488355328) (eR:xs.length+ys.length≤9223372036854775807)
  (aK:∀ dZ,Ok s ((dZ,.row e sz n')::R)→J (aT s ((dZ,.row e sz n')::R))∨m1 l.toArray i=true)
  (h:∀ dZ,Ok s ((dZ,.row e sz n')::R)→bH J P Γ N l.toArray Q (cA (m|||2^i)) ((d,.aF sz (xs++ys) dZ)::env) (aT s ((dZ,.row e sz n')::R))):bH J P Γ N l.toArray Q (cA m) env (aT s L):=by
 refine bH.one aC ai aA a1 ay (aX.lN aP I cG aN bw dp ed bP aa ar jO dN eE ew aq eR av eO b6 al (X:=fun _ _=>False)) ?_ ?_ (fun _ _ h=>h.elim)
 ·rintro r an ⟨dZ,-,-,rfl,rfl,aj⟩
  exact aK dZ aj
 ·rintro r an ⟨dZ,-,-,rfl,rfl,aj⟩
  exact h dZ aj
theorem bH.gn (i:Nat) (aP:bX P Γ) (I:Ok s L) {t bR e:TypeId} {x y:Operand} {it cT aJ:bQ} {eI b9 sz n:Nat} {xs:List ag} {v:ag} {own dW:bM} (aC:fA l.toArray m (idxs 0 l)=[i]) (ai:l.toArray[i]? = some o)
  (aA:o.dst=some d) (a1:af' d N=true) (ay:dO l env o) (cG:o.op = .call { callee := .builtin .append,args := #[x,y],argTypes := #[t,bR] }) (aN:Γ.get? t=some it)
  (bw:it.bN = .aF e) (dp:Γ.get? bR=some cT) (ed:∀ k,cT.bN ≠ .int k) (bP:Γ.get? e=some aJ) (aa:aL (cF l env o) x=some (.aF eI xs own)) (ar:aL (cF l env o) y=some (.aF b9 [v] dW)) (jO:eI=aJ.size) (dN:b9=aJ.size)
  (eE:aj4 aJ.zero.cells.size aJ.size=true) (ew:mf aJ.size v=true) (b6:sz=aJ.size) (al:bm L own (.row e sz n) R) (av:n=xs.length) (aq:(n+1)*aJ.bytes≤140737488355328) (eR:n+1≤9223372036854775807)
  (aK:∀ dZ,Ok s ((dZ,.row e sz (n+1))::R)→J (aT s ((dZ,.row e sz (n+1))::R))∨m1 l.toArray i=true)
  (h:∀ dZ,Ok s ((dZ,.row e sz (n+1))::R)→bH J P Γ N l.toArray Q (cA (m|||2^i)) ((d,.aF sz (xs++[v]) dZ)::env) (aT s ((dZ,.row e sz (n+1))::R))):bH J P Γ N l.toArray Q (cA m) env (aT s L):=by
 subst av;exact bH.lN i aP I aC ai aA a1 ay cG aN bw dp ed bP aa ar jO (.inr dN) eE (by intro y ar;simp at ar;subst ar;exact ew) b6 al C C aq eR aK h
theorem bH.bL {aik:eS→a6→Prop} {K:a6} {i:Nat} {f:FuncId} {as:Array Operand} {cP:Array TypeId} {xs:List ag} (aC:fA l.toArray m (idxs 0 l)=[i]) (ai:l.toArray[i]? = some o) (aA:o.dst=some d) (a1:af' d N=true)
  (ay:dO l env o) (cG:o.op = .call { callee := .value (.func f),args:=as,argTypes:=cP }) (bp:gu (cF l env o) as.toList=some xs) (h:bs P f xs K aik) (I:Ok s L) (al:az L K R)
  (aK:∀ x aM,aik (.ret x) aM→Ok s (aM++R)→J (aT s (aM++R))∨m1 l.toArray i=true)
  (ax:∀ x aM,aik (.ret x) aM→Ok s (aM++R)→bH J P Γ N l.toArray Q (cA (m|||2^i)) ((d,x)::env) (aT s (aM++R))) (aa:∀ x aM,aik (.panic x) aM→Ok s (aM++R)→Q (.panic x) [] (aT s (aM++R))):bH J P Γ N l.toArray Q (cA m) env (aT s L):=
 bH.one aC ai aA a1 ay (aX.bL cG bp h I al) (fun x an ⟨aM,U,ad,aj⟩=>by subst U;exact aK x aM aj ad) (fun x an ⟨aM,U,ad,aj⟩=>by subst U;exact ax x aM aj ad) (fun x an ⟨aM,U,ad,aj⟩=>by subst U;exact aa x aM aj ad)
end
section
variable {J:ao→Prop} {P:Program} {Γ:cz} {N:Nat} {ops:Array Oper} {Q:b8→Env→ao→Prop} {env:Env} {s:ao} {o:Oper} {d m:Nat} {L:a6} {l:List Oper}
end
end Go.Proofs.YtimbpjfhekcofaaGreat
