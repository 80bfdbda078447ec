import Derived.Test.YtnafpeohfbglmaaGreatPa
import Derived.Laws.IdiomRangeMap
set_option linter.unusedVariables false
set_option linter.unusedSimpArgs false
theorem Aj {p:Prop} (h:p:=by simpa [Nat.blt_eq] using aX):p:=h
theorem h6 {p:Prop} (h:p:=by simp [fM,ag]):p:=h
namespace Go.bj
def Ak:db→Bool
 | .j2 _ _ _ _=>false
 | _=>true
theorem G' {w w':World} {p bb:bN} {b:Nat} {o:db} (ba:Ak o=true) (h:oN w p b o) (hle:cV w p w' bb) (c':w'.heap[b]? = w.heap[b]?) (aN:∀ x,bb b x→p b x):oN w' bb b o:=by
 cases o with
 | box t c=>obtain ⟨us,g1,g2,g3⟩:=h;exact ⟨us,c'.trans g1,g2.mono hle,fun o ag=>g3 o (aN o ag)⟩
 | row t sz n=>obtain ⟨cur,g1,g2,g3,g4⟩:=h;exact ⟨cur,c'.trans g1,g2,g3,fun o=>⟨fun ag=>(g4 o).1 (aN o ag),fun ag=>hle.j1 _ _ ((g4 o).2 ag)⟩⟩
 | map es=>obtain ⟨cw,c,g1,g2,g3⟩:=h;exact ⟨cw,c,c'.trans g1,⟨g2.1.mono hle,g2.2.mono hle⟩,g3⟩
 | j2 es it l c=>cases ba
 | tick m=>obtain ⟨eJ,a2,a3,g1⟩:=h;exact ⟨eJ,a2,a3,c'.trans g1⟩
 | loop r env=>exact ⟨c'.trans h.1,fun t v av=>(h.2 t v av).mono hle⟩
theorem Al {s ah:aj} {w w':World} {p bb:bN} {b:Nat} {o:db} (an:s b=none) (ba:Ak o=true) (b6:c0 w p (s.set b o)) (hle:cV w p w' bb) (aD:Kept s ah w p w' bb) (jM:c0 w' bb ah) :
  ah b=none∧Kept (s.set b o) (ah.set b o) w p w' bb∧c0 w' bb (ah.set b o):=by
 have ag:=b6.obj b o (aj.fu _ _ _);have aG:=ag.lt;have aC:=aD.jG b aG an;refine ⟨aC,⟨fun aT dz aw=>?_,fun aT dz aw=>?_,fun aT x dz aw ab=>?_⟩,⟨fun aT o' dz=>?_,jM.lt⟩⟩
 ·obtain ⟨U,ae⟩:=aj.r7 aw;exact aD.heap aT dz ae
 ·obtain ⟨U,ae⟩:=aj.r7 aw;rw [aj.e5 _ _ U];exact aD.jG aT dz ae
 ·obtain ⟨U,ae⟩:=aj.r7 aw;exact aD.j1 aT x dz ae ab
 ·by_cases e:aT=b
  ·subst e
   rw [aj.fu] at dz;cases dz;exact G' ba ag hle (aD.heap aT aG an) (fun x ab=>aD.j1 aT x aG an ab)
  ·rw [aj.e5 _ _ e] at dz;exact jM.obj aT o' dz
theorem gM.frame {P:Program} {fv:ad} {args:List ad} {s:aj} {R:eb→aj→Prop} (b:Nat) (o:db) (an:s b=none) (ba:Ak o=true) (h:gM P fv args s R) :
  gM P fv args (s.set b o) (fun out ah=>∃ s₁,s₁ b=none∧ah=s₁.set b o∧R out s₁):=by
 intro w p v vs b6 av eh;refine (h w p v vs (b6.sub (aj.ts s b o an)) av eh).mono ?_;rintro e w' ⟨out,ah,bb,U,ae,al,bl,bD⟩;obtain ⟨cz,dj,ft⟩:=Al an ba b6 al bl bD;exact ⟨out,ah.set b o,bb,U,⟨ah,cz,rfl,ae⟩,al,dj,ft⟩
theorem gg.frame {P:Program} {f:FuncId} {args:List ad} {s:aj} {R:eb→aj→Prop} (b:Nat) (o:db) (an:s b=none) (ba:Ak o=true) (h:gg P f args s R) :
  gg P f args (s.set b o) (fun out ah=>∃ s₁,s₁ b=none∧ah=s₁.set b o∧R out s₁):=by
 refine ⟨h.1,fun w p vs b6 eh=>?_⟩;refine (h.2 w p vs (b6.sub (aj.ts s b o an)) eh).mono ?_;rintro e w' ⟨out,ah,bb,U,ae,al,bl,bD⟩;obtain ⟨cz,dj,ft⟩:=Al an ba b6 al bl bD;exact ⟨out,ah.set b o,bb,U,⟨ah,cz,rfl,ae⟩,al,dj,ft⟩
theorem gM.drop {P:Program} {fv:ad} {args:List ad} {s ah:aj} {R:eb→aj→Prop} (aw:aj.Sub ah s) (h:gM P fv args ah R):gM P fv args s R:=by
 intro w p v vs b6 av eh;refine (h w p v vs (b6.sub aw) av eh).mono ?_;rintro e w' ⟨out,ef,bb,U,ae,al,bl,bD⟩;exact ⟨out,ef,bb,U,ae,al,bl.vl aw,bD⟩
theorem gg.drop {P:Program} {f:FuncId} {args:List ad} {s ah:aj} {R:eb→aj→Prop} (aw:aj.Sub ah s) (h:gg P f args ah R):gg P f args s R:=by
 refine ⟨h.1,fun w p vs b6 eh=>(h.2 w p vs (b6.sub aw) eh).mono ?_⟩;rintro e w' ⟨out,ef,bb,U,ae,al,bl,bD⟩;exact ⟨out,ef,bb,U,ae,al,bl.vl aw,bD⟩
def kr (l:Nat):ad := .gx (.func (.yield l) #[] #[])
def xH:List Tmp→List ad→Env→Env
 | t::fz,v::vs,env=>xH fz vs ((t,v)::env)
 | _,_,env=>env
theorem N4 {N:Nat} {B:ff} {ro:Option Nat} {s:aj} {w:World} {p:bN} {b5:List Deferred}:∀ (fz:List Tmp) (us:List Value) (vs:List ad) (env:Env) (tmps:Array Value),
  fz.length=us.length→bO w p us vs→(∀ t∈fz,t<N)→c9 N B ro env s { tmps:=tmps,defers:=b5 } w p →
  c9 N B ro (xH fz vs env) s { tmps:=(fz.zip us).foldl (fun tmps (t,a)=>tmps.setIfInBounds t a) tmps,defers:=b5 } w p:=by
 intro fz
 induction fz with
 | nil=>intro us vs env tmps aI az _ aF;exact aF
 | cons t fz a'=>
  intro us vs env tmps aI az aX aF;cases us with
  | nil=>simp at aI
  | cons u us=>
   cases az with
   | cons _ v _ vs hu aK=>
   simp only [xH,List.zip_cons_cons,List.foldl_cons];exact a' us vs _ _ (by simpa using aI) aK (fun bG cS=>aX bG (List.mem_cons_of_mem _ cS)) (aF.put (aX t (List.mem_cons_self ..)) hu)
section
variable {P:Program} {Γ:cg} {N:Nat} {Q:b2→Env→aj→Prop} {env:Env} {s:aj}
def busy (r:Loop):Loop:={ r with state := .busy }
def o4 (r:Loop) (j:Code):Loop:={ r with state := .done,pending:=some j }
theorem C2 {w:World} {p:bN} {s:aj} (b6:c0 w p s) {l:Nat} {r r':Loop} {env:Env} (aw:s l=some (.loop r env)) (aK:r'.tmps=r.tmps) (w':World) (hS:w'={ w with heap:=w.heap.setIfInBounds l (.loop r') }) :
  cV w p w' p∧Kept s (s.set l (.loop r' env)) w p w' p∧c0 w' p (s.set l (.loop r' env)):=by
 subst hS;have U:w.heap[l]? = some (.loop r):=(b6.obj _ _ aw).1;have ae:=(b6.obj _ _ aw).2;have aG:l<w.heap.size:=(Array.getElem?_eq_some_iff.1 U).1;have nh:(w.heap.setIfInBounds l (.loop r'))[l]? = some (.loop r'):=by simp [Array.getElem?_setIfInBounds,aG]
 have gX:∀ k,k≠l→(w.heap.setIfInBounds l (.loop r'))[k]? = w.heap[k]? := fun k aD=>by
  rw [Array.getElem?_setIfInBounds,if_neg (fun e=>aD e.symm)]
 have hle:cV w p { w with heap:=w.heap.setIfInBounds l (.loop r') } p:=by
  refine ⟨rfl,rfl,rfl,by simp,fun _ _ h=>h,fun b o aN=>?_,fun b x ab=>?_⟩
  ·by_cases e:b=l
   ·subst e;simp only [World.cell?,U,nh]
   ·exact vn (gX b e)
  ·by_cases e:b=l
   ·subst e;simp [World.jF,U] at ab
   ·rw [vm (gX b e)];exact ab
 refine ⟨hle,⟨fun b an aC=>gX b (fun e=>by rw [e,aw] at aC;simp at aC),fun b an aC=>?_,fun _ _ _ _ h=>h⟩,⟨fun b o an=>?_,fun b o aN=>by simpa using b6.lt b o aN⟩⟩
 ·rw [aj.e5]
  ·exact aC
  ·intro e;rw [e,aw] at aC;simp at aC
 ·by_cases e:b=l
  ·subst e
   rw [aj.fu] at an;cases an;exact ⟨nh,fun t v av=>by rw [aK];exact (ae t v av).mono hle⟩
  ·rw [aj.e5 _ _ e] at an
   have ag:=b6.obj b o an;cases o with
   | j2 es it lB c=>exact ag.oO hle (gX b e) (gX it (ag.xd U bn))
   | _=>exact G' C ag hle (gX b e) (fun _ h=>h)
def Am (Rn:aj→Prop) (Rj:Code→aj→Prop) (Rp:ad→aj→Prop):b2→Env→aj→Prop
 | .normal,_,s=>Rn s
 | .ret,_,s=>Rj .ret s
 | .exit id,_,s=>Rj (.exit id) s
 | .panic v,_,s=>Rp v s
theorem xI {w:World} {l:Nat} {r:Loop} (h:w.heap[l]? = some (.loop r)):(Instr.getLoop l).run P w = .ok r w:=by
 unfold Instr.getLoop;simp only [Sem.run_bind,vx h C,Result.andThen_ok,Sem.run_pure]
theorem C3 {w:World} {r:Nat} {o o':Obj} (h:w.heap[r]? = some o) (aE:zZ o=true):(setObj r o').run P w = .ok () { w with heap:=w.heap.setIfInBounds r o' }:=by
 cases o<;>first|(simp [zZ] at aE;done)|simp [setObj,Sem.run,h]
theorem N5 {l:Nat} {r:Loop} {fn:Func} {a:Act} (et:P.funcs[r.fn]? = some fn) (N6:r.state = .ready)
  {args:List ad} {s₁:aj} {Rn:aj→Prop} {Rj:Code→aj→Prop} {Rp:ad→aj→Prop}
  (az:s₁ l=some (.loop r env)) (vF:args.length=r.params.size) (b7:r.tmps.size=N) (N7:∀ t∈r.params.toList,t<N)
  (qN:af P N r.assign (b2.andThen (af P N r.body (Am Rn Rj Rp)) (fun _ _ _=>False)) (xH r.params.toList args env) (s₁.del l))
  (w:World) (p:bN) (vs:List Value) (b6:c0 w p s₁) (eh:bO w p vs args) :
  nQ P ((do let d ← Deferred.ofValue (.func (.yield l) #[] #[]) vs.toArray;invoke d.target d.args:Sem Next).run P w)
   (tB s₁ w p fun o ah=>(o = .ret (.bool true)∧∃ dg,dg l=none∧ah=dg.set l (.loop { busy r with state := .ready,pending:=none } env)∧Rn dg) ∨
    (o = .ret (.bool false)∧∃ j dg,dg l=none∧ah=dg.set l (.loop (o4 r j) env)∧Rj j dg) ∨
    (∃ v dg,o = .panic v∧dg l=none∧ah=dg.set l (.loop (busy r) env)∧Rp v dg)):=by
 have U:w.heap[l]? = some (.loop r):=(b6.obj _ _ az).1;have Ac:=(b6.obj _ _ az).2;have aG:l<w.heap.size:=(Array.getElem?_eq_some_iff.1 U).1;have cx:(do let d ← Deferred.ofValue (.func (.yield l) #[] #[]) vs.toArray;invoke d.target d.args:Sem Next).run P w =
   .ok (.round l r.fn ((r.params.zip vs.toArray).foldl (fun tmps (t,a)=>tmps.setIfInBounds t a) r.tmps) r.assign r.body) w:=by
  have aI:vs.length=r.params.size:=by rw [eh.length,vF]
  simp only [Deferred.ofValue,Sem.run_bind,Sem.run_pure,Result.andThen_ok,invoke,Instr.yield,xI U];simp [aI]
 rw [cx];have gH:aj.Sub (s₁.del l) s₁:=fun b=>by
  by_cases e:b=l
  ·subst e;exact .inr (aj.l5 _ _)
  ·exact .inl (aj.lp _ e)
 have Ha:s₁=(s₁.del l).set l (.loop r env):=by
  funext b;by_cases e:b=l
  ·subst e;rw [aj.fu];exact az
  ·rw [aj.e5 _ _ e,aj.lp _ e]
 have N8:((r.params.zip vs.toArray).foldl (fun tmps (t,a)=>tmps.setIfInBounds t a) r.tmps)=(r.params.toList.zip vs).foldl (fun tmps (t,a)=>tmps.setIfInBounds t a) r.tmps:=by
  rw [← Array.foldl_toList];simp
 have An:s₁.del l l=none:=aj.l5 _ _;have C4:c9 N (0,[]) (some l) env (s₁.del l) { tmps:=r.tmps,defers:=[] } w p:=
  ⟨b7,Ac,b6.sub gH,⟨[],rfl,by simp,by simp⟩,fun lB rf=>by cases rf;exact ⟨rfl,⟨r,U⟩,An⟩,Nat.zero_le _⟩
 have aF:=N4 r.params.toList vs args env r.tmps (by rw [eh.length,vF,Array.length_toList]) eh N7 C4;rw [N8];refine Mr et fun b j0 j9=>?_
 rw [← j0] at aF;refine kR (qN b (0,[]) _ w p (by rw [j9,et];rfl) aF) ?_;rintro Cp hP w₁ ⟨zF,na,dg,p₁,N9,Ao,j3,Ap,C5⟩;cases N9 with
 | exit id=>exact Ao.elim
 | ret=>exact Ao.elim
 | panic v x da iX av=>exact Ao.elim
 | normal=>
 have l6:w₁.heap[l]? = some (.loop r):=(C5.heap l aG An).trans U;have tP:dg l=none:=C5.jG l aG An;have N':(Instr.beginRound l).run P w₁ = .ok () { w₁ with heap:=w₁.heap.setIfInBounds l (.loop (busy r)) }:=by
  unfold Instr.beginRound;simp only [Sem.run_bind,xI l6,Result.andThen_ok,C3 l6 C,N6];rfl
 refine ⟨_,N',?_⟩;obtain ⟨f1,f2,f3⟩:=Al (s:=s₁.del l) (b:=l) (o := .loop r env) An rfl (by rw [← Ha];exact b6) Ap C5 j3.wf;obtain ⟨g1,g2,g3⟩:=C2 (r':=busy r) f3 (aj.fu _ _ _) rfl _ rfl;rw [aj.set_set] at g2 g3;have lC:({ w₁ with heap:=w₁.heap.setIfInBounds l (.loop (busy r)) }:World).heap[l]? = some (.loop (busy r)):=(g3.obj _ _ (aj.fu _ _ _)).1;have xJ:c0 { w₁ with heap:=w₁.heap.setIfInBounds l (.loop (busy r)) } p₁ dg:=g3.sub (aj.ts _ _ _ tP);have tQ:c9 N (0,[]) b.roundOf na dg hP { w₁ with heap:=w₁.heap.setIfInBounds l (.loop (busy r)) } p₁:=by
  refine ⟨j3.size,fun t v av=>(j3.env t v av).mono g1,xJ,?_,fun lB rf=>?_,Nat.zero_le _⟩
  ·obtain ⟨ar,-,-⟩:=j3.round l j0
   exact ⟨[],by simpa [marksOf] using ar,by simp,by simp⟩
  ·rw [j0] at rf;cases rf
   exact ⟨(j3.round l j0).1,⟨_,lC⟩,tP⟩
 refine kR (Ao b (0,[]) hP _ p₁ (by rw [j9,et];rfl) tQ) ?_;rintro WY WZ hQ ⟨W0,W1,se,rh,Oa,Aq,Hb,Hc,C6⟩;have c6:l<({ w₁ with heap:=w₁.heap.setIfInBounds l (.loop (busy r)) }:World).heap.size:=(Array.getElem?_eq_some_iff.1 lC).1;have k1:hQ.heap[l]? = some (.loop (busy r)):=(C6.heap l c6 tP).trans lC;have sf:se l=none:=C6.jG l c6 tP;obtain ⟨cz,dj,ft⟩:=Al (b:=l) (o := .loop (busy r) env) tP rfl g3 Hc C6 Hb.wf;have C7:cV w p hQ rh:=(Ap.trans g1).trans Hc;have Hd:Kept s₁ (se.set l (.loop (busy r) env)) w p hQ rh:=by
  have b8:Kept s₁ (dg.set l (.loop r env)) w p w₁ p₁:=by rw [Ha];exact f2
  exact (b8.trans Ap.size g2).trans (Ap.trans g1).size dj
 have fin:∀ (jump:Option Code),∃ kk,(Instr.endRound l jump).run P hQ = .ok (.bool jump.isNone) kk ∧
   cV w p kk rh∧Kept s₁ (se.set l (.loop { busy r with state:=if jump.isNone then .ready else .done,pending:=jump } env)) w p kk rh∧c0 kk rh (se.set l (.loop { busy r with state:=if jump.isNone then .ready else .done,pending:=jump } env)):=by
  intro jump;obtain ⟨dD,c1,dn⟩:=C2 (r':={ busy r with state:=if jump.isNone then .ready else .done,pending:=jump }) ft (aj.fu _ _ _) rfl _ rfl;rw [aj.set_set] at c1 dn;refine ⟨_,?_,C7.trans dD,Hd.trans C7.size c1,dn⟩;unfold Instr.endRound;simp only [Sem.run_bind,xI k1,Result.andThen_ok,C3 k1 C,Sem.run_pure]
 cases Oa with
 | normal=>
  obtain ⟨kk,eE,e9,fH,h2⟩:=fin none;exact ⟨_,kk,eE,.ret (.bool true),_,rh,.bool _,.inl ⟨rfl,se,sf,rfl,Aq⟩,e9,fH,h2⟩
 | ret=>
  obtain ⟨kk,eE,e9,fH,h2⟩:=fin (some .ret);exact ⟨_,kk,eE,.ret (.bool false),_,rh,.bool _,.inr (.inl ⟨rfl,.ret,se,sf,rfl,Aq⟩),e9,fH,h2⟩
 | exit id=>
  obtain ⟨kk,eE,e9,fH,h2⟩:=fin (some (.exit id));exact ⟨_,kk,eE,.ret (.bool false),_,rh,.bool _,.inr (.inl ⟨rfl,.exit id,se,sf,rfl,Aq⟩),e9,fH,h2⟩
 | panic v x da iX av=>
  refine ⟨(Hb.round l j0).1,.panic x,_,rh,⟨v,iX,av⟩,.inr (.inr ⟨x,se,rfl,sf,rfl,Aq⟩),C7,Hd,ft⟩
end
end Go.bj
namespace Go.bj
section
variable {P:Program} {Γ:cg} {N:Nat} {Q:b2→Env→aj→Prop} {env:Env} {s:aj}
theorem Ob (b:Frame) (a:Act) (k:List Item) (l:Nat) (v:Value):(b.atR a (.inRangeFunc l::k)).finish v=b.atR a (.endRangeFunc l::k):=by
 simp [Frame.finish,Frame.atR]
theorem He {b:Frame} {a:Act} {k:List Item} {cs:List Frame} {w w':World} {l:Nat} {jump:Option Code} (h:(Instr.endLoop l).run P w = .ok jump w') :
  step P (lone (b.atR a (.endRangeFunc l::k)) cs w) = .next (lone (b.atR a ((jump.map Item.code).toList++k)) cs w'):=
 step_lone_go (by simp [stepG,stepG.exec,Frame.atR,Sem.runT_eq,h,GStep.bare_after])
def C8 (g:Operand) (l:Nat):Call:={ callee := .value g,args := #[.const (.func (.yield l) #[] #[])],argTypes := #[] }
theorem Oc {b:Frame} {a:Act} {k:List Item} {cs:List Frame} {w:World} {g:Operand} {bK:Array Tmp} {gd body:Code} {l:Nat} {mark:List Deferred} {w₁ gG:World} {f:FuncId} {args:Array Value}
  (he:(Instr.enterLoop b.fn a.tmps bK gd body b.roundOf).run P w = .ok (l,mark) w₁)
  (hinv:(do let d ← resolve a.eval (C8 g l) 0;invoke d.target d.args:Sem Next).run P w₁ = .ok (.enter f args) gG) :
  step P (lone (b.atR a (.code (.rangeFunc g bK gd body)::k)) cs w) =
   .next (lone (Frame.enter P f args .normal) (b.atR { a with defers:=mark++a.defers } (.inRangeFunc l::k)::cs) gG):=
 step_lone_go (by
  have n3:=Frame.eval_atR b { a with defers:=mark++a.defers } (.inRangeFunc l::k)
  simp only [Frame.atR] at n3
  have Od:(do let d ← resolve ({ tmps:=a.tmps,defers:=mark++a.defers }:Act).eval { callee := .value g,args := #[.const (.func (.yield l) #[] #[])],argTypes := #[] } 0;invoke d.target d.args:Sem Next).run P w₁ = .ok (.enter f args) gG:=hinv
  simp only [stepG,stepG.exec,Frame.atR,Sem.runT_eq,he,GStep.bare_after,stepG.apply,n3,Od,if_true,GStep.bare_go])
def Oe (l:Nat) (r:Loop) (env:Env) (Rn:aj→Prop) (Rj:Code→aj→Prop) (Rp:ad→aj→Prop) (o:eb) (ah:aj):Prop:=
 (o = .ret (.bool true)∧∃ dg,dg l=none∧ah=dg.set l (.loop r env)∧Rn dg) ∨
 (o = .ret (.bool false)∧∃ j dg,dg l=none∧ah=dg.set l (.loop (o4 r j) env)∧Rj j dg) ∨
 (∃ v dg,o = .panic v∧dg l=none∧ah=dg.set l (.loop (busy r) env)∧Rp v dg)
def Of (P:Program) (N:Nat) (Q:b2→Env→aj→Prop) (env:Env) (l:Nat) (r:Loop) (o:eb) (ah:aj):Prop:=
 match o with
 | .ret _=>(∃ dg,dg l=none∧ah=dg.set l (.loop r env)∧Q .normal env dg)∨(∃ j dg,dg l=none∧ah=dg.set l (.loop (o4 r j) env)∧af P N j Q env dg)
 | .panic v=>∃ dg o',dg l=none∧ah=dg.set l o'∧Q (.panic v) env dg
theorem af.Hf {g:Operand} {bK:Array Tmp} {gd body:Code} {f:FuncId} {first cap:List ad} (ao:aJ env g=some (.func f first cap)) (aX:∀ t∈bK.toList,t<N)
    (h:∀ (l:Nat) (r:Loop),s l=none →
      (∀ args s₁ Rn Rj Rp,s₁ l=some (.loop r env)→args.length=bK.size →
        af P N gd (b2.andThen (af P N body (Am Rn Rj Rp)) (fun _ _ _=>False)) (xH bK.toList args env) (s₁.del l) →
        gM P (kr l) args s₁ (Oe l r env Rn Rj Rp)) →
      gg P f (first++([kr l]++cap)) (s.set l (.loop r env)) (Of P N Q env l r)):af P N (.rangeFunc g bK gd body) Q env s:=by
  intro b B a w p et aF k cs;obtain ⟨fn,Og⟩:=Option.isSome_iff_exists.1 et;have Oh:∃ (l D:Nat) (mark:List Deferred) (w₁:World),(Instr.enterLoop b.fn a.tmps bK gd body b.roundOf).run P w = .ok (l,mark) w₁ ∧
      w₁.heap[l]? = some (.loop { state := .ready,pending:=none,fn:=b.fn,tmps:=a.tmps,params:=bK,assign:=gd,body,defers:=D })∧w.heap.size≤l∧l<w₁.heap.size ∧
      (∀ x,x<w.heap.size→w₁.heap[x]? = w.heap[x]?)∧w₁.os=w.os∧w₁.tape=w.tape∧w₁.output=w.output∧w.heap.size≤w₁.heap.size ∧
      ((mark=[]∧b.roundOf≠none)∨(b.roundOf=none∧mark=marksOf [w.heap.size]∧w₁.heap[w.heap.size]? = some (.deferred (some []))∧l≠w.heap.size)):=by
    cases sg:b.roundOf with
    | none=>
      refine ⟨w.heap.size+1,w.heap.size,_,(w.alloc (.deferred (some []))).alloc (.loop { state := .ready,pending:=none,fn:=b.fn,tmps:=a.tmps,params:=bK,assign:=gd,body,defers:=w.heap.size }),?_,?_,by omega,by simp,?_,rfl,rfl,rfl,by simp;omega,.inr ⟨rfl,rfl,?_,by omega⟩⟩
      · unfold Instr.enterLoop
        simp [World.alloc_eq,marksOf]
      · have:=r2 (w.alloc (.deferred (some []))) (.loop { state := .ready,pending:=none,fn:=b.fn,tmps:=a.tmps,params:=bK,assign:=gd,body,defers:=w.heap.size })
        simpa using this
      · intro x ab;rw [kU _ _ _ dq,kU _ _ _ ab]
      · rw [kU _ _ _ bn];exact r2 w _
    | some Oi=>
      obtain ⟨-,⟨Hg,Oj⟩,-⟩:=aF.round Oi sg;refine ⟨w.heap.size,Hg.defers,[],w.alloc (.loop { state := .ready,pending:=none,fn:=b.fn,tmps:=a.tmps,params:=bK,assign:=gd,body,defers:=Hg.defers }),?_,r2 w _,Nat.le_refl _,by simp,fun x ab=>kU w _ x ab,rfl,rfl,rfl,by simp,.inl ⟨rfl,by simp⟩⟩;unfold Instr.enterLoop;simp only [Sem.run_bind,xI Oj,Result.andThen_ok,Sem.run_pure,run_newObj];rfl
  obtain ⟨l,D,mark,w₁,Ol,l6,dy,W2,hold,Om,On,Oo,b7,Hh⟩:=Oh;have ri:s l=none:=by
    cases aw:s l with
    | none=>rfl
    | some o=>exact absurd (aF.wf.obj _ _ aw).lt ai
  generalize az:({ state := .ready,pending:=none,fn:=b.fn,tmps:=a.tmps,params:=bK,assign:=gd,body,defers:=D }:Loop)=r at l6;have tR:cV w p w₁ p:=cV.of_heap Om On Oo b7 (fun _ _ h=>h) aF.wf.lt hold;have Oq:c0 w₁ p (s.set l (.loop r env)):=by
    have ao:=aF.wf.grow tR hold (fun _ _ _ h=>h) (fun b o aN=>by have:=aF.wf.lt b o aN;omega);refine ⟨fun aT o an=>?_,ao.lt⟩;by_cases e:aT=l
    · subst e
      rw [aj.fu] at an;cases an;refine ⟨l6,fun t v av=>?_⟩;have:r.tmps=a.tmps:=by rw [← az]
      rw [this];exact (aF.env t v av).mono tR
    · rw [aj.e5 _ _ e] at an;exact ao.obj aT o an
  have kV:Kept s (s.set l (.loop r env)) w p w₁ p:=⟨fun x ab _=>hold x ab,fun x ab aC=>by rw [aj.e5 _ _ ai];exact aC,fun _ _ _ _ h=>h⟩;obtain ⟨Ot,h7⟩:=h l r ri fun args s₁ Rn Rj Rp lD vF qN w' bb v vs jM av eh=>by
    have Gl:v = .func (.yield l) #[] #[]:=by
      cases av with
      | gx=>rfl
    subst Gl;have:=N5 (a:=a) (P:=P) (N:=N) (env:=env) (r:=r) (fn:=fn) (by rw [← az];exact Og) (by rw [← az]) lD (by rw [← az];exact vF) (by rw [← az];exact aF.size)
      (by rw [← az];exact aX) (Rn:=Rn) (Rj:=Rj) (Rp:=Rp) (by rw [← az];exact qN) w' bb vs jM eh
    have Ar:{ busy r with state:=LoopState.ready,pending:=none }=r:=by rw [← az];rfl
    rw [Ar] at this;exact this
  have l8:=aF.aJ ao;generalize As:a.eval g=W3 at l8;cases l8 with
  | func _ as cs' _ _ aV aE=>
  have hinv:(do let d ← resolve a.eval (C8 g l) 0;invoke d.target d.args:Sem Next).run P w₁ = .ok (.enter f (as ++ #[.func (.yield l) #[] #[]]++cs')) w₁:=by
    simp only [resolve,C8,As,Deferred.ofValue,Sem.run_bind,Sem.run_pure,Result.andThen_ok,invoke];have:(#[Operand.const (.func (.yield l) #[] #[])].map a.eval) = #[.func (.yield l) #[] #[]]:=by simp [Act.eval]
    rw [this];exact Ot _ _
  have tS:=Oc (k:=k) (cs:=cs) Ol hinv;have cE:=h7 w₁ p (as.toList++([.func (.yield l) #[] #[]]++cs'.toList)) Oq ((aV.mono tR).append (bO.append (.cons _ _ _ _ (.gx _) .nil) (aE.mono tR)));have vF:(as.toList++([Value.func (.yield l) #[] #[]]++cs'.toList)).toArray=as ++ #[.func (.yield l) #[] #[]]++cs':=by apply Array.ext';simp
  rw [vF] at cE;obtain ⟨e,gG,gf,⟨jZ,out,ah,ib,oS,dV,vz,hG,xJ⟩,qL,W4,xc⟩:=cE (b.atR { a with defers:=mark++a.defers } (.inRangeFunc l::k)::cs);have tQ:∀ dg o',dg l=none→ah=dg.set l o'→∀ hQ,cV gG ib hQ ib→Kept ah ah gG ib hQ ib→c0 hQ ib dg→(∀ x,x≠l→hQ.heap[x]? = gG.heap[x]?) →
      c9 N B b.roundOf env dg { a with defers:=mark++a.defers } hQ ib∧cV w p hQ ib∧Kept s dg w p hQ ib:=by
    intro dg o' aC gY hQ Ou tv C9 Ov;have eG:cV w p hQ ib:=(tR.trans vz).trans Ou;have sh:=(kV.trans tR.size hG).trans (tR.trans vz).size tv;have gH:aj.Sub dg ah:=by rw [gY];exact aj.ts _ _ _ aC
    have br:Kept s dg w p hQ ib:=sh.sub gH;refine ⟨⟨aF.size,fun t v av=>(aF.env t v av).mono eG,C9,?_,fun lB rf=>?_,Nat.le_trans aF.base eG.size⟩,eG,br⟩
    · obtain ⟨b5,d1,d2,d3⟩:=aF.defs
      rcases Hh with ⟨rfl,-⟩|⟨sg,rfl,dZ,Hi⟩
      · refine ⟨b5,by simpa using d1,d2,fun d ar=>?_⟩
        obtain ⟨cW,lY,jw⟩:=d3 d ar;have aG:d<w.heap.size:=(Array.getElem?_eq_some_iff.1 lY).1;exact ⟨cW,(br.heap d aG jw).trans lY,br.jG d aG jw⟩
      · have Hj:(s.set l (.loop r env)) w.heap.size=none:=by
          rw [aj.e5 _ _ (Ne.symm Hi)];cases aw:s w.heap.size with
          | none=>rfl
          | some o=>exact absurd (aF.wf.obj _ _ aw).lt ai
        have Hk:w.heap.size<w₁.heap.size:=(Array.getElem?_eq_some_iff.1 dZ).1;have Ow:hQ.heap[w.heap.size]? = some (.deferred (some [])):=by
          rw [Ov _ (Ne.symm Hi),hG.heap _ Hk Hj];exact dZ
        have Ox:dg w.heap.size=none:=gH.none (hG.jG _ Hk Hj);refine ⟨w.heap.size::b5,by simp [marksOf,d1],List.nodup_cons.2 ⟨fun hm=>?_,d2⟩,fun d ar=>?_⟩
        · have:=(Array.getElem?_eq_some_iff.1 (d3 _ hm).2.1).1;omega
        · rcases List.mem_cons.1 ar with rfl|ar
          · exact ⟨aF.base,Ow,Ox⟩
          · obtain ⟨cW,lY,jw⟩:=d3 d ar
            have aG:d<w.heap.size:=(Array.getElem?_eq_some_iff.1 lY).1;exact ⟨cW,(br.heap d aG jw).trans lY,br.jG d aG jw⟩
    · obtain ⟨U,⟨r',ae⟩,al⟩:=aF.round lB rf
      have aG:lB<w.heap.size:=(Array.getElem?_eq_some_iff.1 ae).1;refine ⟨?_,⟨r',(br.heap lB aG al).trans ae⟩,br.jG lB aG al⟩;rcases Hh with ⟨rfl,-⟩|⟨sg,-⟩
      · exact U
      · rw [sg] at rf;cases rf
  have r0:∀ dg (r':Loop),dg l=none→ah=dg.set l (.loop r' env)→(r'.state == .busy)=false→∃ hQ,(Instr.endLoop l).run P gG = .ok r'.pending hQ ∧
      c9 N B b.roundOf env dg { a with defers:=mark++a.defers } hQ ib∧cV w p hQ ib∧Kept s dg w p hQ ib:=by
    intro dg r' aC gY dz;have Hl:ah l=some (.loop r' env):=by rw [gY];exact aj.fu _ _ _
    have ev:gG.heap[l]? = some (.loop r'):=(xJ.obj _ _ Hl).1;obtain ⟨dD,c1,dn⟩:=C2 (r':={ r' with state := .exhausted }) xJ Hl rfl _ rfl;have tv:Kept ah ah gG ib { gG with heap:=gG.heap.setIfInBounds l (.loop { r' with state := .exhausted }) } ib:=by
      refine ⟨c1.heap,fun x ab aC=>aC,c1.j1⟩
    have C9:c0 { gG with heap:=gG.heap.setIfInBounds l (.loop { r' with state := .exhausted }) } ib dg:=by
      refine dn.sub ?_;rw [gY,aj.set_set];exact aj.ts _ _ _ aC
    refine ⟨_,?_,tQ dg _ aC gY _ dD tv C9 (fun x ab=>by
      show (gG.heap.setIfInBounds l _)[x]? = _
      rw [Array.getElem?_setIfInBounds,if_neg (fun e=>ab e.symm)])⟩
    unfold Instr.endLoop;simp only [Sem.run_bind,xI ev,Result.andThen_ok,dz,Bool.false_eq_true,if_false,C3 ev C,Sem.run_pure]
  cases e with
  | outgrown=>exact absurd C jZ
  | returned v=>
    cases out with
    | panic x=>exact oS.elim
    | ret x=>
    have vA:Steps P (lone (b.atR a (.code (.rangeFunc g bK gd body)::k)) cs w) (lone (b.atR { a with defers:=mark++a.defers } (.endRangeFunc l::k)) cs gG):=by
      refine .head tS (Steps.trans qL (.one ?_));rw [← Ob _ _ _ _ v];exact step_leave_returned xc
    rcases dV with ⟨dg,aC,gY,bs⟩|⟨j,dg,aC,gY,bs⟩
    · obtain ⟨hQ,Au,xK,eG,br⟩:=r0 dg r aC gY (by rw [← az];rfl)
      have aN:r.pending=none:=by rw [← az]
      rw [aN] at Au;exact ⟨.normal,_,hQ,⟨.normal,env,dg,ib,.normal,bs,xK,eG,br⟩,Steps.trans vA (.one (by simpa using He (k:=k) Au))⟩
    · obtain ⟨hQ,Au,xK,eG,br⟩:=r0 dg (o4 r j) aC gY rfl
      obtain ⟨e',cR,kk,tb,fo⟩:=bs b B _ hQ ib et xK k cs;exact ⟨e',cR,kk,jl.after eG br tb,.of_steps (Steps.trans vA (.one (by simpa [o4] using He (k:=k) Au))) fo⟩
  | panicked da=>
    cases out with
    | ret x=>exact oS.elim
    | panic x=>
    obtain ⟨v,iX,av⟩:=oS;obtain ⟨dg,o',aC,gY,bs⟩:=dV;obtain ⟨xK,eG,br⟩:=tQ dg o' aC gY gG (.refl _ _) (.refl _ _ _) (xJ.sub (by rw [gY];exact aj.ts _ _ _ aC)) (fun _ _=>rfl);refine ⟨.panic da,_,gG,⟨.panic x,env,dg,ib,.panic v x _ iX av,bs,xK,eG,br⟩,.inRangeFunc l::k,.head tS (Steps.trans qL (.one ?_))⟩;rw [← Frame.raise_atR];exact step_leave_panicked xc
end
end Go.bj
namespace Go.bj
theorem kl.nil {w:World} {p:bN}:kl w p [] []:=⟨.nil,.nil⟩
theorem kl.length {w:World} {p:bN} {cw:List MapEntry} {es:List (ad×ad)} (h:kl w p cw es):cw.length=es.length:=by simpa using h.1.length
theorem kl.split {w:World} {p:bN}:∀ {a b:List MapEntry} {e:MapEntry} {es:List (ad×ad)},kl w p (a++e::b) es →
  ∃ l₁ k v l₂,es=l₁++(k,v)::l₂∧Rel w p e.key k∧Rel w p e.val v∧kl w p (a++b) (l₁++l₂):=by
 intro a
 induction a with
 | nil=>
  intro b e es h;cases es with
  | nil=>have:=h.length;simp at this
  | cons x es=>
   obtain ⟨k,v⟩:=x;obtain ⟨U,ae⟩:=h;simp only [List.nil_append,List.map_cons] at U ae;cases U with|cons _ _ _ _ cz t1=>cases ae with|cons _ _ _ _ dj t2=>
   exact ⟨[],k,v,es,rfl,cz,dj,t1,t2⟩
 | cons x a a'=>
  intro b e es h;cases es with
  | nil=>have:=h.length;simp at this
  | cons y es=>
   obtain ⟨GQ,v0⟩:=y;obtain ⟨U,ae⟩:=h;simp only [List.cons_append,List.map_cons] at U ae;cases U with|cons _ _ _ _ cz t1=>cases ae with|cons _ _ _ _ dj t2=>
   obtain ⟨l₁,k,v,l₂,rfl,b8,bZ,eF,mC⟩:=a' (b:=b) (e:=e) (es:=es) ⟨t1,t2⟩;exact ⟨(GQ,v0)::l₁,k,v,l₂,rfl,b8,bZ,.cons _ _ _ _ cz eF,.cons _ _ _ _ dj mC⟩
section
variable {P:Program} {Γ:cg} {N:Nat} {env:Env} {s:aj}
end
end Go.bj
namespace Go.bj
inductive cA:List ad→List ad→Prop
 | nil:cA [] []
 | cons {x y:ad} {xs ys:List ad} (h:a8 x y) (t:cA xs ys):cA (x::xs) (y::ys)
theorem cA.rel {w:World} {p:bN} {xs ys:List ad} (h:cA xs ys):∀ {vs:List Value},bO w p vs xs→bO w p vs ys:=by
 induction h with
 | nil=>exact fun h=>h
 | cons h _ a'=>intro vs av;cases av with|cons _ _ _ _ U ae=>exact .cons _ _ _ _ (h _ _ _ U) (a' ae)
theorem cA.refl:∀ xs:List ad,cA xs xs
 | [] => .nil
 | _::xs => .cons (a8.refl _) (cA.refl xs)
theorem cA.length {xs ys:List ad} (h:cA xs ys):xs.length=ys.length:=by
 induction h with
 | nil=>rfl
 | cons _ _ a'=>simp [a']
theorem cA.append {a b c d:List ad} (h:cA a b) (k:cA c d):cA (a++c) (b++d):=by
 induction h with
 | nil=>exact k
 | cons h _ a'=>exact .cons h a'
theorem a8.trans {x y z:ad} (h:a8 x y) (k:a8 y z):a8 x z:=fun w p v av=>k w p v (h w p v av)
theorem a8.agg {xs ys:List ad} (h:cA xs ys):a8 (.agg xs) (.agg ys):=fun w p v av=>by cases av with|agg cs _ aI=>exact .agg _ _ (h.rel aI)
theorem a8.cl {xs ys:List ad} (h:cA xs ys):a8 (.cl xs) (.cl ys):=fun w p v av=>by cases av with|cl cs _ aI=>exact .cl _ _ (h.rel aI)
theorem a8.iface {t:TypeId} {x y:ad} (h:a8 x y):a8 (.iface t x) (.iface t y):=fun w p v av=>by cases av with|iface _ _ _ aI=>exact .iface _ _ _ (h _ _ _ aI)
theorem a8.bq {xs ys:List ad} {o:Nat} (h:cA xs ys):a8 (.bq xs o) (.bq ys o):=fun w p v av=>by
 cases av with|bq b base vu off vs _ ag aE az=>exact .bq b base vu o vs ys ag aE (h.rel az)
theorem a8.func {f:FuncId} {xs ys us vs:List ad} (h:cA xs ys) (k:cA us vs):a8 (.func f xs us) (.func f ys vs):=fun w p v av=>by
 cases av with|func _ as cs _ _ aV aE=>exact .func _ _ _ _ _ (h.rel aV) (k.rel aE)
theorem a8.aA {sz:Nat} {xs ys:List ad} {own:bU} (h:cA xs ys):a8 (.aA sz xs own) (.aA sz ys .bd):=fun w p v av=>by
 cases av with
 | gU=>cases h;exact .gU _ _ bn
 | hE a=>cases h;exact .hE a _ _ (.inl C)
 | aA g off n cap _ vs _ _ aC aI aE az aw hm aD cE ag=>exact .aA g off n cap sz vs ys .bd bn (aI.trans h.length) aE (h.rel az) aw hm aD bn bn
theorem a8.bd {sz:Nat} {xs:List ad} {own:bU}:a8 (.aA sz xs own) (.aA sz xs .bd):=a8.aA (cA.refl _)
theorem a8.nil {sz sz':Nat} {own:bU} (ag:∀ b,own ≠ .own b):a8 (.aA sz [] .nil) (.aA sz' [] own):=fun w p v av=>by
 cases av with
 | gU=>exact .gU _ _ ag
 | hE _ _ _ h=>rcases h with h|h<;>cases h
 | aA g off n cap _ vs _ _ aC=>exact absurd C aC
theorem a8.empty {sz sz':Nat} {own:bU}:a8 (.aA sz [] own) (.aA sz' [] .bd):=fun w p v av=>by
 cases av with
 | gU=>exact .gU _ _ bn
 | hE a=>exact .hE a _ _ (.inl C)
 | aA g off n cap _ vs _ _ aC aI aE az aw hm aD cE ag=>
  have:vs=[]:=List.eq_nil_of_length_eq_zero (by rw [az.length];rfl);subst this;exact .aA g off n cap sz' [] [] .bd bn aI aE .nil bn hm aD bn bn
theorem a8.any (x:ad):a8 x .any:=fun _ _ v _ => .any v
section
variable {P:Program} {Γ:cg} {N:Nat} {ops:Array Oper} {Q:b2→Env→aj→Prop} {env:Env} {s:aj} {l:List Oper} {o:Oper} {d:Nat}
theorem aa.mf {l:List Oper} (t:Nat) {v:ad} (eK:ad) (av:env.get? t=some v) (he:a8 v eK) (h:aa P N ops l Q ((t,eK)::env) s):aa P N ops l Q env s:=by
 intro k aD ro B a w p aF
 exact h k aD ro B a w p ⟨aF.size,fun u x ab=>by
  simp only [Env.get?] at ab
  split at ab
  ·rename_i an;have:=Nat.eq_of_beq_eq_true an;subst this;cases ab;exact he _ _ _ (aF.env _ _ av)
  ·exact aF.env u x ab,aF.wf,aF.defs,aF.round,aF.base⟩
theorem af.mf {c:Code} (t:Nat) {v:ad} (eK:ad) (av:env.get? t=some v) (he:a8 v eK) (h:af P N c Q ((t,eK)::env) s):af P N c Q env s:=by
 intro b B a w p et aF
 exact h b B a w p et ⟨aF.size,fun u x ab=>by
  simp only [Env.get?] at ab
  split at ab
  ·rename_i an;have:=Nat.eq_of_beq_eq_true an;subst this;cases ab;exact he _ _ _ (aF.env _ _ av)
  ·exact aF.env u x ab,aF.wf,aF.defs,aF.round,aF.base⟩
theorem aa.alloc (aO:bL P Γ) {t:TypeId} {i:bJ} {z:ad} {cs:List ad} (ao:guardOf ops env o=some true) (ar:o.dst=some d) (aX:Nat.blt d N=true) (ag:o.op = .alloc t) (aK:Γ.get? t=some i)
  (bE:gy i.zero=some z) (aE:cellsOf z=some cs) (h:∀ b,s b=none→aa P N ops l Q ((d,.ptr b 0)::env) (s.set b (.box t cs))):aa P N ops (o::l) Q env s:=
 aa.op ao ar aX (aU.alloc aO ag aK bE aE (X:=fun _ _=>False)) (fun x ah ⟨b,U,ae,al⟩=>by subst ae;subst al;exact h b U) (fun _ _ h=>h.elim)
theorem aa.r8 (aO:bL P Γ) {t T:TypeId} {x:Operand} {i:bJ} {b off:Nat} {cs:List ad} {v:ad} (ao:guardOf ops env o=some true) (ar:o.dst=some d) (aX:Nat.blt d N=true) (ag:o.op = .load t x)
  (aK:Γ.get? t=some i) (ab:aJ env x=some (.ptr b off)) (aw:s b=some (.box T cs)) (av:gI i cs off=some v) (h:aa P N ops l Q ((d,v)::env) s):aa P N ops (o::l) Q env s:=
 aa.op ao ar aX (aU.r8 aO ag aK ab aw av (X:=fun _ _=>False)) (fun x ah ⟨U,ae⟩=>by subst U;subst ae;exact h) (fun _ _ h=>h.elim)
theorem aa.zW (aO:bL P Γ) {t T:TypeId} {x y:Operand} {i:bJ} {b off:Nat} {cs us:List ad} {v:ad} (ao:guardOf ops env o=some true) (ar:o.dst=none) (ag:o.op = .store t x y)
  (aK:Γ.get? t=some i) (ab:aJ env x=some (.ptr b off)) (ay:aJ env y=some v) (av:cellsOf v=some us) (hu:Nat.beq us.length i.size=true) (U:us.all eN=true) (aw:s b=some (.box T cs))
  (eU:Nat.ble (off+us.length) cs.length=true) (h:aa P N ops l Q env (s.set b (.box T (eg off us cs)))):aa P N ops (o::l) Q env s:=
 aa.th ao ar (aU.zW aO ag aK ab ay av hu U aw eU (X:=fun _ _=>False)) (fun x ah U=>by subst U;exact h) (fun _ _ h=>h.elim)
theorem aa.lookup (aO:bL P Γ) {t ds ew:TypeId} {x y:Operand} {ok:Bool} {it fN aB:bJ} {m:Nat} {es:List (ad×ad)} {k z:ad} {r:Option ad} (ao:guardOf ops env o=some true) (ar:o.dst=some d) (aX:Nat.blt d N=true)
  (ag:o.op = .lookup t x y ok) (aK:Γ.get? t=some it) (bo:it.bz = .map ds ew) (ie:Γ.get? ds=some fN) (bF:Γ.get? ew=some aB) (ab:aJ env x=some (.map m)) (ay:aJ env y=some k) (aw:s m=some (.map es))
  (ba:iZ fN.bz k=true) (az:h1 es k=some r) (bE:gy aB.zero=some z) (h:aa P N ops l Q ((d,ko ok z r)::env) s):aa P N ops (o::l) Q env s:=
 aa.op ao ar aX (aU.lookup aO ag aK bo ie bF ab ay (.inl ⟨m,rfl,aw⟩) ba az bE (X:=fun _ _=>False)) (fun x ah ⟨U,ae⟩=>by subst U;subst ae;exact h) (fun _ _ h=>h.elim)
theorem aa.mapUpdate (aO:bL P Γ) {t ds ew:TypeId} {x y z:Operand} {it fN:bJ} {b:Nat} {es c5:List (ad×ad)} {k v:ad} (ao:guardOf ops env o=some true) (ar:o.dst=none)
  (ag:o.op = .mapUpdate t x y z∨o.op = .insert t x y z) (aK:Γ.get? t=some it) (bo:it.bz = .map ds ew) (ie:Γ.get? ds=some fN) (ab:aJ env x=some (.map b)) (ay:aJ env y=some k) (bE:aJ env z=some v)
  (aw:s b=some (.map es)) (ba:iZ fN.bz k=true) (aN:kn es k v=some c5) (h:aa P N ops l Q env (s.set b (.map c5))):aa P N ops (o::l) Q env s:=
 aa.th ao ar (aU.mapUpdate aO ag aK bo ie ab ay bE aw ba aN (X:=fun _ _=>False)) (fun x ah U=>by subst U;exact h) (fun _ _ h=>h.elim)
theorem aa.makeMap {t:TypeId} (ao:guardOf ops env o=some true) (ar:o.dst=some d) (aX:Nat.blt d N=true) (ag:o.op = .makeMap t none)
  (h:∀ b,s b=none→aa P N ops l Q ((d,.map b)::env) (s.set b (.map []))):aa P N ops (o::l) Q env s:=
 aa.op ao ar aX (aU.makeMap ag (X:=fun _ _=>False)) (fun x ah ⟨b,U,ae,al⟩=>by subst ae;subst al;exact h b U) (fun _ _ h=>h.elim)
theorem aa.invoke {g:Operand} {name:String} {as:Array Operand} {cP:Array TypeId} {t:TypeId} {v:ad} {f:FuncId} {xs:List ad} {R:eb→aj→Prop} (ao:guardOf ops env o=some true) (ar:o.dst=some d) (aX:Nat.blt d N=true)
  (ag:o.op = .call { callee := .invoke g name,args:=as,argTypes:=cP }) (av:aJ env g=some (.iface t v)) (aV:fg env as.toList=some xs) (hm:n1 P t name f) (h:gg P f (v::xs) s R)
  (aD:∀ x ah,R (.ret x) ah→aa P N ops l Q ((d,x)::env) ah) (ab:∀ x ah,R (.panic x) ah→Q (.panic x) env ah):aa P N ops (o::l) Q env s:=
 aa.op ao ar aX (aU.invoke ag av aV hm h) aD ab
theorem aa.panic {x:Operand} {t:TypeId} {v:ad} (ao:guardOf ops env o=some true) (ar:o.dst=none) (ag:o.op = .panic x) (ab:aJ env x=some (.iface t v)) (h:Q (.panic (.iface t v)) env s) :
  aa P N ops (o::l) Q env s:=
 aa.th ao ar (aU.panic ag ab (K:=fun _ _=>False)) (fun x ah h=>h.elim) (fun x ah ⟨U,ae⟩=>by subst U;subst ae;exact h)
end
section
variable {P:Program} {Γ:cg} {N:Nat} {l:List Oper} {Q:b2→Env→aj→Prop} {env:Env} {s:aj} {m:Nat}
theorem bm.pure {J:aj→Prop} (dX:J s) (i:Nat) {o:Oper} {d:Nat} {v:ad} (az:hJ l.toArray m i=true) (ag:l.toArray[i]? = some o) (ar:o.dst=some d) (aX:Nat.blt d N=true)
  (ao:guardOf l.toArray (bc env (looks l.toArray o)) o=some true) (av:kq Γ o (bc env (looks l.toArray o)) v) (h:bm J P Γ N l.toArray Q (bR (m|||2^i)) ((d,v)::env) s) :
  bm J P Γ N l.toArray Q (bR m) env s:=
 bm.still dX i o d v (rb.1 az) ag ar Aj (.inl ⟨ao,av⟩) (by rw [np];exact h)
theorem bf.pure (i:Nat) {o:Oper} {d:Nat} {v:ad} (az:hJ l.toArray m i=true) (ag:l.toArray[i]? = some o) (ar:o.dst=some d) (aX:Nat.blt d N=true)
  (ao:guardOf l.toArray (bc env (looks l.toArray o)) o=some true) (av:kq Γ o (bc env (looks l.toArray o)) v) (h:bf P Γ N l.toArray Q (bR (m|||2^i)) ((d,v)::env) s) :
  bf P Γ N l.toArray Q (bR m) env s:=bm.pure trivial i az ag ar aX ao av h
theorem bm.idx {J:aj→Prop} (dX:J s) (i:Nat) {o:Oper} {d:Nat} {t e:TypeId} {x y:Operand} {it aB:bJ} {sz:Nat} {xs:List ad} {own:bU} {k:IntKind} {n:Int} {v:ad} {cs:List ad} (j:Nat) (az:hJ l.toArray m i=true) (ag:l.toArray[i]? = some o)
  (ar:o.dst=some d) (aX:Nat.blt d N=true) (ao:guardOf l.toArray (bc env (looks l.toArray o)) o=some true) (bW:o.op = .indexAddr t x y) (aK:Γ.get? t=some it) (bo:it.bz = .aA e) (bF:Γ.get? e=some aB)
  (ab:aJ (bc env (looks l.toArray o)) x=some (.aA sz xs own)) (b7:sz=aB.size) (ay:aJ (bc env (looks l.toArray o)) y=some (.int k n)) (ek:n=(j:Int)) (aS:xs[j]? = some v) (aE:cellsOf v=some cs)
  (h:bm J P Γ N l.toArray Q (bR (m|||2^i)) ((d,.bq cs 0)::env) s):bm J P Γ N l.toArray Q (bR m) env s:=
 bm.pure dX i az ag ar aX ao (.idx j bW aK bo bF ab b7 ay ek aS aE) h
theorem bf.idx (i:Nat) {o:Oper} {d:Nat} {t e:TypeId} {x y:Operand} {it aB:bJ} {sz:Nat} {xs:List ad} {own:bU} {k:IntKind} {n:Int} {v:ad} {cs:List ad} (j:Nat) (az:hJ l.toArray m i=true) (ag:l.toArray[i]? = some o)
  (ar:o.dst=some d) (aX:Nat.blt d N=true) (ao:guardOf l.toArray (bc env (looks l.toArray o)) o=some true) (bW:o.op = .indexAddr t x y) (aK:Γ.get? t=some it) (bo:it.bz = .aA e) (bF:Γ.get? e=some aB)
  (ab:aJ (bc env (looks l.toArray o)) x=some (.aA sz xs own)) (b7:sz=aB.size) (ay:aJ (bc env (looks l.toArray o)) y=some (.int k n)) (ek:n=(j:Int)) (aS:xs[j]? = some v) (aE:cellsOf v=some cs)
  (h:bf P Γ N l.toArray Q (bR (m|||2^i)) ((d,.bq cs 0)::env) s):bf P Γ N l.toArray Q (bR m) env s:=
 bf.pure i az ag ar aX ao (.idx j bW aK bo bF ab b7 ay ek aS aE) h
theorem bf.slice (i:Nat) {o:Oper} {d:Nat} {t e:TypeId} {x:Operand} {jJ aY ig:Option Operand} {it aB:bJ} {sz:Nat} {xs:List ad} {own cZ:bU} (a b:Nat) (az:hJ l.toArray m i=true) (ag:l.toArray[i]? = some o)
  (ar:o.dst=some d) (aX:Nat.blt d N=true) (ao:guardOf l.toArray (bc env (looks l.toArray o)) o=some true) (bW:o.op = .slice t x jJ aY ig)
  (aK:Γ.get? t=some it) (bo:it.bz = .aA e) (bF:Γ.get? e=some aB) (ab:aJ (bc env (looks l.toArray o)) x=some (.aA sz xs own)) (b7:xs=[]∨sz=aB.size)
  (hH:(jJ=none∧a=0)∨∃ y k,jJ=some y∧aJ (bc env (looks l.toArray o)) y=some (.int k (a:Int))) (oW:(aY=none∧ig=none∧b=xs.length)∨∃ y k,aY=some y∧aJ (bc env (looks l.toArray o)) y=some (.int k (b:Int)))
  (l9:(ig=none∧cZ = .bd)∨(∃ y k,ig=some y∧aJ (bc env (looks l.toArray o)) y=some (.int k (b:Int))∧cZ = .clip)) (aI:a≤b) (c':b≤xs.length)
  (h:bf P Γ N l.toArray Q (bR (m|||2^i)) ((d,.aA sz ((xs.take b).drop a) cZ)::env) s):bf P Γ N l.toArray Q (bR m) env s:=
 bf.pure i az ag ar aX ao (.slice a b bW aK bo bF ab b7 hH oW l9 aI c') h
theorem bf.call {i:Nat} {o:Oper} {d:Nat} {f:FuncId} {as:Array Operand} {cP:Array TypeId} {xs:List ad} {R:eb→aj→Prop} (az:ed l.toArray m (idxs 0 l)=[i]) (ag:l.toArray[i]? = some o) (ar:o.dst=some d) (aX:Nat.blt d N=true)
  (ao:guardOf l.toArray (bc env (looks l.toArray o)) o=some true) (bW:o.op = .call { callee := .value (.func f),args:=as,argTypes:=cP }) (aV:fg (bc env (looks l.toArray o)) as.toList=some xs) (h:gg P f xs s R)
  (aD:∀ x ah,R (.ret x) ah→bf P Γ N l.toArray Q (bR (m|||2^i)) ((d,x)::env) ah) (ab:∀ x ah,R (.panic x) ah→Q (.panic x) [] ah):bf P Γ N l.toArray Q (bR m) env s:=
 bf.one az ag ar aX ao (aU.call bW (fv := .func f [] []) C aV (gM.eP gn)) aD ab
theorem bf.GZ {i:Nat} {o:Oper} {d:Nat} {f:FuncId} {as:Array Operand} {cP:Array TypeId} {xs:List ad} {v:ad} (az:ed l.toArray m (idxs 0 l)=[i]) (ag:l.toArray[i]? = some o) (ar:o.dst=some d) (aX:Nat.blt d N=true)
  (ao:guardOf l.toArray (bc env (looks l.toArray o)) o=some true) (bW:o.op = .call { callee := .value (.func f),args:=as,argTypes:=cP }) (aV:fg (bc env (looks l.toArray o)) as.toList=some xs)
  (h:gg P f xs s (fun out ah=>out = .ret v∧ah=s)) (aD:bf P Γ N l.toArray Q (bR (m|||2^i)) ((d,v)::env) s):bf P Γ N l.toArray Q (bR m) env s:=
 bf.call az ag ar aX ao bW aV h (fun x ah ⟨U,ae⟩=>by cases U;subst ae;exact aD) (fun x ah ⟨U,_⟩=>by cases U)
end
section
variable {P:Program} {Γ:cg} {N:Nat} {l:List Oper} {Q:b2→Env→aj→Prop} {env:Env} {s:aj} {m:Nat}
theorem bf.CS {i:Nat} {o:Oper} {d:Nat} {g:Operand} {fv:ad} {as:Array Operand} {cP:Array TypeId} {xs:List ad} {R:eb→aj→Prop} (az:ed l.toArray m (idxs 0 l)=[i]) (ag:l.toArray[i]? = some o) (ar:o.dst=some d)
  (aX:Nat.blt d N=true) (ao:guardOf l.toArray (bc env (looks l.toArray o)) o=some true) (bW:o.op = .call { callee := .value g,args:=as,argTypes:=cP }) (av:aJ (bc env (looks l.toArray o)) g=some fv)
  (aV:fg (bc env (looks l.toArray o)) as.toList=some xs) (h:gM P fv xs s R)
  (aD:∀ x ah,R (.ret x) ah→bf P Γ N l.toArray Q (bR (m|||2^i)) ((d,x)::env) ah) (ab:∀ x ah,R (.panic x) ah→Q (.panic x) [] ah):bf P Γ N l.toArray Q (bR m) env s:=
 bf.one az ag ar aX ao (aU.call bW av aV h) aD ab
theorem bf.two {i j:Nat} {o u:Oper} {d c:Nat} {K X aL lZ:ad→aj→Prop} (az:ed l.toArray m (idxs 0 l)=[i,j]) (ag:l.toArray[i]? = some o) (hu:l.toArray[j]? = some u) (ar:o.dst=some d) (aE:u.dst=some c)
  (aX:Nat.blt d N=true) (n5:Nat.blt c N=true) (cB:Nat.beq i j=false)
  (ao:guardOf l.toArray (bc env (looks l.toArray o)) o=some true) (nr:guardOf l.toArray (bc env (looks l.toArray u)) u=some true)
  (h:aU P N o (bc env (looks l.toArray o)) s K X) (fs:aU P N u (bc env (looks l.toArray u)) s aL lZ)
  (aD:∀ x ah,K x ah→bf P Γ N l.toArray Q (bR (m|||2^i)) ((d,x)::env) ah) (eL:∀ x ah,aL x ah→bf P Γ N l.toArray Q (bR (m|||2^j)) ((c,x)::env) ah)
  (ab:∀ x ah,X x ah→Q (.panic x) [] ah) (ch:∀ x ah,lZ x ah→Q (.panic x) [] ah):bf P Γ N l.toArray Q (bR m) env s:=by
 have C':i≠j:=fun e=>by subst e;rw [Nat.beq_refl] at cB;cases cB
 have fq:∀ k,gh l.toArray (bR m) k→k=i∨k=j:=fun k aD=>by
  have:=xG aD (l:=idxs 0 l) (by rw [vD,List.mem_range'_1];have:=aD.1;simp at this;omega);rw [az] at this;simpa using this
 have aG:i<l.toArray.size:=(Array.getElem?_eq_some_iff.1 ag).1;have nq:bR m i=false:=by
  cases an:bR m i with
  | false=>rfl
  | true=>
   have gA:i∈ed l.toArray m (idxs 0 l):=by rw [az];exact List.mem_cons_self ..
   have:∀ is,i∈ed l.toArray m is→hJ l.toArray m i=true:=by
    intro is
    induction is with
    | nil=>intro h;cases h
    | cons j is a'=>
     intro h;simp only [ed] at h;split at h
     ·rename_i an
      rcases List.mem_cons.1 h with rfl|h
      ·exact an
      ·exact a' h
     ·exact a' h
   have:=(rb.1 (this _ gA)).2.1;rw [an] at this;cases this
 refine bm.split (fun k=>if k=i then K else aL) (fun k=>if k=i then X else lZ) ⟨i,aG,nq⟩ (fun k o' jr ck=>?_) (fun _ _ _ _ _ _ _ => .inl trivial) (fun k o' cM jr ck cb x ah br=>?_) (fun k o' jr ck cb x ah br=>?_) (fun k o' jr ck x ah fZ=>?_)
 ·rcases fq k jr with rfl|rfl
  ·rw [ag] at ck;cases ck
   simp only [if_true];exact ⟨ao,h,fun cM cb=>by rw [ar] at cb;cases cb;simpa [Nat.blt_eq] using aX⟩
  ·rw [hu] at ck;cases ck
   simp only [if_neg (Ne.symm C')];exact ⟨nr,fs,fun cM cb=>by rw [aE] at cb;cases cb;simpa [Nat.blt_eq] using n5⟩
 ·rcases fq k jr with rfl|rfl
  ·rw [ag] at ck;cases ck
   rw [ar] at cb;cases cb;simp only [if_true] at br;rw [np];exact aD x ah br
  ·rw [hu] at ck;cases ck
   rw [aE] at cb;cases cb;simp only [if_neg (Ne.symm C')] at br;rw [np];exact eL x ah br
 ·rcases fq k jr with rfl|rfl
  ·rw [ag] at ck;cases ck
   rw [ar] at cb;cases cb
  ·rw [hu] at ck;cases ck
   rw [aE] at cb;cases cb
 ·rcases fq k jr with rfl|rfl
  ·simp only [if_true] at fZ;exact ab x ah fZ
  ·simp only [if_neg (Ne.symm C')] at fZ;exact ch x ah fZ
end
theorem Oy {P:Program} {ops:Array Oper} {Q:fY→Act→World→Prop} (l₂:List Nat):∀ (l₁:List Nat) (a:Act) (w:World),
  hZ P ops (fY.andThen (hZ P ops Q l₂) Q) l₁ a w→hZ P ops Q (l₁++l₂) a w:=by
 intro l₁
 induction l₁ with
 | nil=>intro a w h;exact h
 | cons i r a'=>
  intro a w h;simp only [List.cons_append,hZ] at h ⊢;split at h
  ·exact a' _ _ h
  ·rename_i o ag
   split at h
   ·rename_i hw
    rw [if_pos hw];refine ⟨h.1,h.2.mono ?_⟩;intro e w' he;cases e with
    | returned v=>exact a' _ _ he
    | panicked da=>exact he
    | outgrown=>exact he
   ·rename_i hw
    rw [if_neg hw];exact a' _ _ h
section
variable {P:Program} {Γ:cg} {N:Nat} {ops:Array Oper} {Q:b2→Env→aj→Prop} {env:Env} {s:aj} {l:List Oper} {o:Oper} {d:Nat}
theorem aa.cut (n:Nat) (Hm:Env) (xL:aa P N ops (l.take n) (fun x e ah=>x = .normal∧Env.Sub Hm e∧ah=s) env s) (xM:aa P N ops (l.drop n) Q Hm s):aa P N ops l Q env s:=by
 intro k aD ro B a w p aF;have hlen:l.length=(l.take n).length+(l.drop n).length:=by rw [← List.length_append,List.take_append_drop]
 rw [hlen,← List.range'_append_1];refine Oy _ _ _ _ (tg ?_ _ _ _ (xL k (fun j x aS=>aD j x ?_) ro B a w p aF))
 ·rintro e cR w' ⟨x,er,ah,bb,ab,⟨rfl,eu,rfl⟩,gK,hle,km⟩
  cases ab;refine e8.after hle km ?_ (gK.sub eu);refine xM _ (fun j x aS=>?_);rw [List.getElem?_drop] at aS;have aG:=(List.getElem?_eq_some_iff.1 aS).1;rw [List.length_take,Nat.min_eq_left ai,Nat.add_assoc];exact aD _ x aS
 ·rw [List.getElem?_take] at aS
  split at aS
  ·exact aS
  ·cases aS
def Hn (ops:Array Oper) (o:Oper):Option Nat:=match o.guard with
  | some (j,_)=>match ops[j]? with
    | some u=>u.dst
    | none=>none
  | none=>none
theorem aa.same (b:Bool) (ao:guardOf ops env o=some b) (h:aa P N ops (o::l) Q env s):aa P N ops (o::l) Q env s:=h
theorem aa.iB {t:Nat} {b:Bool} (aw:Hn ops o=some t) (av:env.get? t=some (.bool b)) (dN:b=true→aa P N ops (o::l) Q ((t,.bool true)::env) s)
  (ns:b=false→aa P N ops (o::l) Q ((t,.bool false)::env) s):aa P N ops (o::l) Q env s:=by
 cases b with
 | true=>exact aa.Ah t av C (dN C)
 | false=>exact aa.Ah t av C (ns C)
end
def Ho (P:Program) (t:TypeId) (name:String) (f:FuncId):Bool:=
  match P.info? t,P.underlying t with
  | some i,some d=>(match i.methods.find? (·.name==name) with
    | some m=>m.path.isEmpty&&(match m.func with|some (lE,b)=>Nat.beq lE f && !b|none=>false)
    | none=>false)&&(match d with | .pointer _=>false|_=>true)&&Nat.blt 0 (P.types.size+Made.depth)
  | _,_=>false
theorem Av {P:Program} {t:TypeId} {name:String} {f:FuncId} (h:Ho P t name f=true):n1 P t name f:=by
 unfold Ho at h;split at h
 ·rename_i i d aY ar
  simp only [Bool.and_eq_true] at h;obtain ⟨⟨U,ae⟩,al⟩:=h;split at U
  ·rename_i m hm
   simp only [Bool.and_eq_true] at U;obtain ⟨bl,bD⟩:=U;split at bD
   ·rename_i lE b ba
    simp only [Bool.and_eq_true] at bD;have b8:=Nat.eq_of_beq_eq_true bD.1;have bZ:b=false:=by simpa using bD.2
    subst b8;subst bZ;refine Nl aY hm (by simpa [Array.isEmpty] using bl) ba ar (fun e he=>by subst he;cases ae) ?_;have:0<P.types.size+Made.depth:=by simpa [Nat.blt_eq] using al
    exact ⟨P.types.size+Made.depth-1,by omega⟩
   ·cases bD
  ·cases U
 ·cases h
def rowOf (s:aj) (e:TypeId) (sz n:Nat):bU→aj
 | .own b=>s.set b (.row e sz n)
 | _=>s
def si (s:aj) (n:Nat):bU→Prop
 | .own b=>s b=none
 | .nil=>True
 | .clip=>True
 | .bd=>False
section
variable {P:Program} {Γ:cg} {N:Nat} {env:Env} {s:aj}
theorem aU.Oz {o:Oper} {K X aL lZ:ad→aj→Prop} (h:aU P N o env s K X) (br:∀ x ah,K x ah→∃ ef,aj.Sub ef ah∧aL x ef) (fZ:∀ x ah,X x ah→∃ ef,aj.Sub ef ah∧lZ x ef):aU P N o env s aL lZ:=by
 refine ⟨h.1,fun ro B a w p aF=>(h.2 ro B a w p aF).mono ?_⟩;rintro e w' ⟨ah,bb,U,ae,al,bl⟩;cases e with
 | returned v=>
  obtain ⟨x,aD,az⟩:=bl;obtain ⟨ef,aw,eL⟩:=br x ah aD;exact ⟨ef,bb,U,ae.sub aw,al.sub aw,x,eL,az⟩
 | panicked da=>
  obtain ⟨v,x,iX,aD,az⟩:=bl;obtain ⟨ef,aw,eL⟩:=fZ x ah aD;exact ⟨ef,bb,U,ae.sub aw,al.sub aw,v,x,iX,eL,az⟩
 | outgrown=>exact bl.elim
theorem aU.Da (aO:bL P Γ) {o:Oper} {t bG e:TypeId} {x y:Operand} {it cp aB:bJ} {dL bV n:Nat} {xs ys:List ad} {own dh:bU}
  (ag:o.op = .call { callee := .builtin .append,args := #[x,y],argTypes := #[t,bG] }) (aK:Γ.get? t=some it) (bo:it.bz = .aA e) (cS:Γ.get? bG=some cp) (dp:∀ k,cp.bz ≠ .int k)
  (bF:Γ.get? e=some aB) (ab:aJ env x=some (.aA dL xs own)) (ay:aJ env y=some (.aA bV ys dh)) (fI:dL=aB.size) (cY:ys=[]∨bV=aB.size)
  (dJ:Nat.beq aB.zero.cells.size aB.size=true) (dB:∀ y∈ys,jv aB.size y=true) (an:(xs.length+ys.length)*aB.bytes≤140737488355328) (dY:xs.length+ys.length≤9223372036854775807)
  (aC:n=xs.length) (I:si s n own) {X:ad→aj→Prop} :
  aU P N o env (rowOf s e aB.size n own) (fun r ah=>∃ cZ,si s (xs.length+ys.length) cZ∧(ys≠[]→∃ b,cZ = .own b)∧(∀ b,own = .own b→∃ aT,cZ = .own aT)∧r = .aA aB.size (xs++ys) cZ∧ah=rowOf s e aB.size (xs.length+ys.length) cZ) X:=by
 subst aC;have ht:∀ b,own = .own b→rowOf s e aB.size xs.length own b=some (.row e aB.size xs.length):=fun b h=>by subst h;exact aj.fu _ _ _
 have n6:(own = .nil∨own = .clip)∨∃ b,own = .own b∧dL=aB.size∧rowOf s e aB.size xs.length own b=some (.row e aB.size xs.length):=by
  cases own with
  | nil=>exact .inl (.inl C)
  | clip=>exact .inl (.inr C)
  | bd=>exact I.elim
  | own b=>exact .inr ⟨b,rfl,fI,ht b C⟩
 have h:=aU.append (P:=P) (N:=N) (X:=X) aO ag aK bo cS dp bF ab ay (.inr fI) cY dJ dB an dY n6;refine h.Oz ?_ (fun _ ah h=>⟨ah,aj.nf _,h⟩);rintro r ah (⟨rfl,aE,rfl,rfl⟩|⟨s₁,xx,b,U,rfl,rfl⟩)
 ·refine ⟨_,aj.nf _,own,?_,fun h=>absurd C h,fun b h=>⟨b,h⟩,by rw [List.append_nil],?_⟩
  ·rcases aE with rfl|rfl<;>trivial
  ·rcases aE with rfl|rfl<;>rfl
 ·rcases xx with rfl|⟨aT,rfl,rfl⟩
  ·cases own with
   | nil=>exact ⟨_,aj.nf _,.own b,U,fun _=>⟨b,rfl⟩,fun _ h=>(by cases h),rfl,rfl⟩
   | clip=>exact ⟨_,aj.nf _,.own b,U,fun _=>⟨b,rfl⟩,fun _ h=>(by cases h),rfl,rfl⟩
   | bd=>exact I.elim
   | own aT=>
    obtain ⟨dD,c1⟩:=aj.r7 U;refine ⟨s.set b (.row e aB.size (xs.length+ys.length)),fun x=>?_,.own b,c1,fun _=>⟨b,rfl⟩,fun _ _=>⟨b,rfl⟩,rfl,rfl⟩;by_cases b8:x=b
    ·subst b8;left;rw [aj.fu,aj.fu]
    ·by_cases bZ:x=aT
     ·subst bZ;right;rw [aj.e5 _ _ b8];exact I
     ·left;rw [aj.e5 _ _ b8,aj.e5 _ _ b8];exact (aj.e5 _ _ bZ).symm
  ·have ar:(rowOf s e aB.size xs.length (.own aT)).del aT=s:=aj.xo _ _ _ I
   rw [ar] at U ⊢;exact ⟨_,aj.nf _,.own b,U,fun _=>⟨b,rfl⟩,fun _ _=>⟨b,rfl⟩,rfl,rfl⟩
end
section
variable {P:Program} {Γ:cg} {N:Nat} {ops:Array Oper} {Q:b2→Env→aj→Prop} {env:Env} {s:aj} {l:List Oper} {o:Oper} {d:Nat}
end
section
variable {Q:b2→Env→aj→Prop} {next:Env→aj→Prop} {env:Env} {s:aj}
theorem kt {id:Nat} (h:Q (.exit id) env s):b2.andThen next Q (.exit id) env s:=h
theorem hb (h:Q .ret env s):b2.andThen next Q .ret env s:=h
theorem ga {id:Nat} (h:Q .normal env s):b2.inBlock id Q .normal env s:=h
theorem ih {id:Nat} (h:Q .ret env s):b2.inBlock id Q .ret env s:=h
theorem ku {id:Nat} (h:Q .normal env s):b2.inBlock id Q (.exit id) env s:=by
 show (if Nat.beq id id then Q .normal env s else Q (.exit id) env s);rw [Nat.beq_refl];exact h
theorem mg {id jD:Nat} (aC:Nat.beq jD id=false) (h:Q (.exit jD) env s):b2.inBlock id Q (.exit jD) env s:=by
 show (if Nat.beq jD id then Q .normal env s else Q (.exit jD) env s);rw [aC];exact h
end
theorem a8.of_eq {x y:ad} (h:x=y):a8 x y:=h ▸ a8.refl x
theorem e0 {n:Int} (bB : -9223372036854775808≤n) (U:n≤9223372036854775807):IntKind.wrap .i64 n=n:=by
 unfold IntKind.wrap IntKind.bits IntKind.signed;simp;omega
theorem nt {n:Nat} (h:n<9223372036854775807):IntKind.wrap .i64 ((n:Int)+1)=((n+1:Nat):Int):=by
 rw [e0 ai ai];omega
def jx (l:List (List UInt8)):List (ad×ad):=l.map fun x=>(.str x,.bool true)
end Go.bj
namespace Go.bj
section
variable {P:Program} {Γ:cg} {N:Nat} {ops:Array Oper} {Q:b2→Env→aj→Prop} {env:Env} {s:aj} {l:List Oper} {o:Oper} {d:Nat}
theorem aa.congr (e:Env) (he:∀ t,e.get? t=env.get? t) (h:aa P N ops l Q e s):aa P N ops l Q env s:=
 fun k aD ro B a w p aF=>h k aD ro B a w p ⟨aF.size,fun t v av=>aF.env t v ((he t).symm.trans av),aF.wf,aF.defs,aF.round,aF.base⟩
theorem af.congr {c:Code} (e:Env) (he:∀ t,e.get? t=env.get? t) (h:af P N c Q e s):af P N c Q env s:=
 fun b B a w p et aF=>h b B a w p et ⟨aF.size,fun t v av=>aF.env t v ((he t).symm.trans av),aF.wf,aF.defs,aF.round,aF.base⟩
theorem OA (e:Env) (d:Nat) (x y:ad):∀ t,Env.get? ((d,x)::e) t=Env.get? ((d,x)::(d,y)::e) t:=by
 intro t;simp only [Env.get?];split<;>rfl
theorem OB (e:Env) {c d:Nat} (x y:ad) (h:Nat.beq c d=false):∀ t,Env.get? ((d,y)::(c,x)::e) t=Env.get? ((c,x)::(d,y)::e) t:=by
 intro t;simp only [Env.get?];cases U:Nat.beq d t<;>cases ae:Nat.beq c t<;>simp
 have:=Nat.eq_of_beq_eq_true U;have:=Nat.eq_of_beq_eq_true ae;subst_vars;rw [Nat.beq_refl] at h;cases h
theorem aa.Aw (aO:bL P Γ) {o':Oper} {t:TypeId} {i:bJ} {z v:ad} {a1 us:List ad} {y:Operand} (ao:guardOf ops env o=some true) (ar:o.dst=some d) (aX:Nat.blt d N=true) (ag:o.op = .alloc t) (aK:Γ.get? t=some i)
  (bE:gy i.zero=some z) (aE:cellsOf z=some a1) (nr:∀ b,guardOf ops ((d,.ptr b 0)::env) o'=some true) (cb:o'.dst=none) (ck:o'.op = .store t (.tmp d) y)
  (ay:∀ b,aJ ((d,.ptr b 0)::env) y=some v) (av:cellsOf v=some us) (hu:Nat.beq us.length i.size=true) (U:us.all eN=true) (eU:Nat.beq us.length a1.length=true)
  (h:aa P N ops l Q ((d,.bq us 0)::env) s):aa P N ops (o::o'::l) Q env s:=by
 refine aa.alloc aO ao ar aX ag aK bE aE (fun b an=>?_);have aI:=Nat.eq_of_beq_eq_true eU;have OC:aJ ((d,.ptr b 0)::env) (.tmp d)=some (.ptr b 0):=by simp [aJ,Env.get?]
 refine aa.zW aO (nr b) cb ck aK OC (ay b) av hu U (aj.fu _ _ _) (Nat.ble_eq_true_of_le ai) ?_;rw [aj.set_set];refine aa.freeze d b (by simp [Env.get?]) (aj.fu _ _ _) ?_;rw [aj.xo _ _ _ an];have he:eg 0 us a1=us:=by rw [GH _ _ _ ai];simp [List.drop_eq_nil_of_le,aI]
 rw [he];exact aa.congr _ (OA _ _ _ _) h
end
section
variable {P:Program} {Γ:cg} {N:Nat} {l:List Oper} {Q:b2→Env→aj→Prop} {env:Env} {s:aj} {m:Nat}
theorem bf.OD {σ:Type} (f:σ→ad) (g:σ→aj) (X4:σ→Prop) {Db:σ→Prop} (aO:bL P Γ) {i j:Nat} {o u:Oper} {d c:Nat} {t T:TypeId} {x:Operand} {dm:bJ} {b off:Nat} {cs:List ad} {v:ad} {aL lZ:ad→aj→Prop}
  (az:ed l.toArray m (idxs 0 l)=[i,j]) (OE:ed l.toArray (m|||2^i) (idxs 0 l)=[j])
  (ag:l.toArray[i]? = some o) (hu:l.toArray[j]? = some u) (ar:o.dst=some d) (aE:u.dst=some c) (aX:Nat.blt d N=true) (n5:Nat.blt c N=true) (cB:Nat.beq i j=false)
  (bW:o.op = .load t x) (aK:Γ.get? t=some dm) (ab:aJ (bc env (looks l.toArray o)) x=some (.ptr b off)) (aw:s b=some (.box T cs)) (av:gI dm cs off=some v)
  (ao:guardOf l.toArray (bc env (looks l.toArray o)) o=some true) (nr:guardOf l.toArray (bc env (looks l.toArray u)) u=some true)
  (b8:bc ((d,v)::env) (looks l.toArray u)=bc env (looks l.toArray u))
  (fs:aU P N u (bc env (looks l.toArray u)) s aL lZ)
  (br:∀ y ah,aL y ah→∃ z,X4 z∧y=f z∧ah=g z)
  (vG:∀ z,X4 z→Db z→bf P Γ N l.toArray Q (bR (m|||2^i|||2^j)) ((c,f z)::(d,v)::env) (g z))
  (cW:∀ z,X4 z→Db z→bf P Γ N l.toArray Q (bR (m|||2^j)) ((c,f z)::env) (g z))
  (aD:∀ z,X4 z→Db z) (ch:∀ y ah,lZ y ah→Q (.panic y) [] ah):bf P Γ N l.toArray Q (bR m) env s:=by
 refine bf.two (X:=fun _ _=>False) az ag hu ar aE aX n5 cB ao nr (aU.r8 aO bW aK ab aw av) fs ?_ ?_ (fun _ _ h=>h.elim) ch
 ·rintro y ah ⟨rfl,rfl⟩
  refine bf.one OE hu aE n5 (by rw [b8];exact nr) (by rw [b8];exact fs) (fun y ah ay=>?_) ch;obtain ⟨z,bE,rfl,rfl⟩:=br y ah ay;exact vG z bE (aD z bE)
 ·intro y ah ay
  obtain ⟨z,bE,rfl,rfl⟩:=br y ah ay;exact cW z bE (aD z bE)
end
theorem c0.o5 {w:World} {p:bN} {s:aj} (h:c0 w p s) {b:Nat} {T:TypeId} {cs cs':List ad} (aw:s b=some (.box T cs)) (aE:cA cs cs'):c0 w p (s.set b (.box T cs')):=by
 refine ⟨fun x o ab=>?_,h.lt⟩;by_cases e:x=b
 ·subst e
  rw [aj.fu] at ab;cases ab;obtain ⟨vs,U,ae,al⟩:=h.obj _ _ aw;exact ⟨vs,U,aE.rel ae,al⟩
 ·rw [aj.e5 _ _ e] at ab;exact h.obj x o ab
theorem aj.vH {s:aj} {b:Nat} {o o':db} (aw:s b=some o) (x:Nat):(s.set b o') x=none↔s x=none:=by
 by_cases e:x=b
 ·subst e;rw [aj.fu,aw];simp
 ·rw [aj.e5 _ _ e]
theorem c9.o5 {N:Nat} {B:ff} {ro:Option Nat} {env:Env} {s:aj} {a:Act} {w:World} {p:bN} (h:c9 N B ro env s a w p) {b:Nat} {T:TypeId} {cs cs':List ad} (aw:s b=some (.box T cs)) (aE:cA cs cs') :
  c9 N B ro env (s.set b (.box T cs')) a w p:=by
 obtain ⟨b5,U,ae,al⟩:=h.defs
 exact ⟨h.size,h.env,h.wf.o5 aw aE,⟨b5,U,ae,fun d ar=>let ⟨a,b,c⟩:=al d ar;⟨a,b,(aj.vH aw d).2 c⟩⟩,
  fun l aI=>let ⟨a,b,c⟩:=h.round l aI;⟨a,b,(aj.vH aw l).2 c⟩,h.base⟩
theorem Kept.o5 {s ef:aj} {w w':World} {p bb:bN} {b:Nat} {o o':db} (aw:s b=some o) (h:Kept (s.set b o') ef w p w' bb):Kept s ef w p w' bb :=
 ⟨fun x ab aC=>h.heap x ab ((aj.vH aw x).2 aC),fun x ab aC=>h.jG x ab ((aj.vH aw x).2 aC),fun x o ab aC=>h.j1 x o ab ((aj.vH aw x).2 aC)⟩
theorem af.o5 {P:Program} {N:Nat} {Q:b2→Env→aj→Prop} {env:Env} {s:aj} {c:Code} (b:Nat) {T:TypeId} {cs:List ad} (cs':List ad) (aw:s b=some (.box T cs)) (aE:cA cs cs')
  (h:af P N c Q env (s.set b (.box T cs'))):af P N c Q env s:=
 fun gf B a w p et aF=>kR (h gf B a w p et (aF.o5 aw aE)) fun _ _ _ ⟨x,er,ef,bb,U,ae,al,bl,bD⟩=>⟨x,er,ef,bb,U,ae,al,bl,bD.o5 aw⟩
theorem aa.o5 {P:Program} {N:Nat} {ops:Array Oper} {l:List Oper} {Q:b2→Env→aj→Prop} {env:Env} {s:aj} (b:Nat) {T:TypeId} {cs:List ad} (cs':List ad) (aw:s b=some (.box T cs)) (aE:cA cs cs')
  (h:aa P N ops l Q env (s.set b (.box T cs'))):aa P N ops l Q env s:=
 fun k aD ro B a w p aF=>tg (fun _ _ _ ⟨x,er,ef,bb,U,ae,al,bl,bD⟩=>⟨x,er,ef,bb,U,ae,al,bl,bD.o5 aw⟩) _ a w (h k aD ro B a w p (aF.o5 aw aE))
theorem cA.one {x y:ad} (h:a8 x y):cA [x] [y] := .cons h .nil
theorem cA.last {x y:ad} (h:a8 x y):∀ (l:List ad),cA (l++[x]) (l++[y])
 | [] => .one h
 | z::l => .cons (a8.refl z) (cA.last h l)
theorem aj.set_comm (s:aj) {b c:Nat} (o o':db) (h:b≠c):(s.set b o).set c o'=(s.set c o').set b o:=by
 funext x;simp only [aj.set];split<;>split<;>simp_all
theorem si.set {s:aj} {n m b:Nat} {own:bU} {o o':db} (I:si s n own) (h:s b=some o):si (s.set b o') m own:=by
 cases own with
 | own aT=>exact (aj.vH h aT).2 I
 | nil=>trivial
 | clip=>trivial
 | bd=>exact I
section
variable {P:Program} {Γ:cg} {N:Nat} {l:List Oper} {Q:b2→Env→aj→Prop} {env:Env} {s:aj} {m:Nat}
end
end Go.bj
namespace Go.bj
theorem aj.OF {s t:aj} {b:Nat} {o:db} (h:aj.Sub s t) (an:s b=none):aj.Sub s (t.set b o):=fun x=>by
 by_cases e:x=b
 ·subst e;exact .inr an
 ·rw [aj.e5 _ _ e];exact h x
end Go.bj
namespace Go.bj
section
variable {P:Program} {Γ:cg} {N:Nat} {l:List Oper} {Q:b2→Env→aj→Prop} {env:Env} {s:aj} {m:Nat}
theorem bm.pY {J:aj→Prop} (dX:J s) {i:Nat} {o:Oper} {d:Nat} {v:ad} (az:hJ l.toArray m i=true) (ag:l.toArray[i]? = some o) (ar:o.dst=some d) (aX:Nat.blt d N=true)
  (ao:guardOf l.toArray (bc env (looks l.toArray o)) o=some true) (av:∀ s,J s→aU P N o (bc env (looks l.toArray o)) s (fun x ah=>x=v∧ah=s) (fun _ _=>False))
  (h:bm J P Γ N l.toArray Q (bR (m|||2^i)) ((d,v)::env) s):bm J P Γ N l.toArray Q (bR m) env s:=by
 have U:=rb.1 az;refine bm.still dX i o d v U ag ar Aj (.inr (.inr ⟨ao,av⟩)) ?_;rw [np];exact h
theorem bf.calm {i:Nat} {o:Oper} {d:Nat} {v:ad} (az:hJ l.toArray m i=true) (ag:l.toArray[i]? = some o) (ar:o.dst=some d) (aX:Nat.blt d N=true)
  (ao:guardOf l.toArray (bc env (looks l.toArray o)) o=some true) (av:∀ s,aU P N o (bc env (looks l.toArray o)) s (fun x ah=>x=v∧ah=s) (fun _ _=>False))
  (h:bf P Γ N l.toArray Q (bR (m|||2^i)) ((d,v)::env) s):bf P Γ N l.toArray Q (bR m) env s:=
 bm.pY trivial az ag ar aX ao (fun s _=>av s) h
theorem bf.OG {i:Nat} {o:Oper} {d:Nat} {f:FuncId} {as:Array Operand} {cP:Array TypeId} {xs:List ad} {v:ad} (az:hJ l.toArray m i=true) (ag:l.toArray[i]? = some o) (ar:o.dst=some d) (aX:Nat.blt d N=true)
  (ao:guardOf l.toArray (bc env (looks l.toArray o)) o=some true) (bW:o.op = .call { callee := .value (.func f),args:=as,argTypes:=cP }) (aV:fg (bc env (looks l.toArray o)) as.toList=some xs)
  (aE:∀ s,gg P f xs s (fun o ah=>o = .ret v∧ah=s))
  (h:bf P Γ N l.toArray Q (bR (m|||2^i)) ((d,v)::env) s):bf P Γ N l.toArray Q (bR m) env s:=
 bf.calm az ag ar aX ao (fun s=>(aU.call bW (fv := .func f [] []) rfl aV (gM.eP (R:=fun o ah=>o = .ret v∧ah=s) (by simpa using aE s))).mono (fun x ah h=>by cases h.1;exact ⟨rfl,h.2⟩) (fun x ah h=>by cases h.1)) h
def ja (P:Program) (Γ:cg) (N:Nat) (l:List Oper) (Q:b2→Env→aj→Prop) (m:Nat) (env:Env) (s:aj) (i:Nat):Prop:=
 ∃ (o:Oper) (K X:ad→aj→Prop),l.toArray[i]? = some o∧guardOf l.toArray (bc env (looks l.toArray o)) o=some true∧aU P N o (bc env (looks l.toArray o)) s K X∧(∀ d,o.dst=some d→d<N) ∧
  (∀ d,o.dst=some d→∀ x ah,K x ah→bf P Γ N l.toArray Q (bR (m|||2^i)) ((d,x)::env) ah)∧(o.dst=none→∀ x ah,K x ah→bf P Γ N l.toArray Q (bR (m|||2^i)) env ah) ∧
  ∀ x ah,X x ah→Q (.panic x) [] ah
theorem ja.mk {i:Nat} {o:Oper} {d:Nat} {K X:ad→aj→Prop} (ag:l.toArray[i]? = some o) (ar:o.dst=some d) (aX:Nat.blt d N=true) (ao:guardOf l.toArray (bc env (looks l.toArray o)) o=some true)
  (h:aU P N o (bc env (looks l.toArray o)) s K X) (aD:∀ x ah,K x ah→bf P Γ N l.toArray Q (bR (m|||2^i)) ((d,x)::env) ah) (ab:∀ x ah,X x ah→Q (.panic x) [] ah):ja P Γ N l Q m env s i:=
 ⟨o,K,X,ag,ao,h,(fun cM cb=>by rw [ar] at cb;cases cb;simpa [Nat.blt_eq] using aX),(fun cM cb=>by rw [ar] at cb;cases cb;exact aD),(fun aC=>by rw [ar] at aC;cases aC),ab⟩
theorem ja.Ax {i:Nat} {o:Oper} {K X:ad→aj→Prop} (ag:l.toArray[i]? = some o) (ar:o.dst=none) (ao:guardOf l.toArray (bc env (looks l.toArray o)) o=some true)
  (h:aU P N o (bc env (looks l.toArray o)) s K X) (aD:∀ x ah,K x ah→bf P Γ N l.toArray Q (bR (m|||2^i)) env ah) (ab:∀ x ah,X x ah→Q (.panic x) [] ah):ja P Γ N l Q m env s i:=
 ⟨o,K,X,ag,ao,h,(fun cM cb=>by rw [ar] at cb;cases cb),(fun cM cb=>by rw [ar] at cb;cases cb),(fun _=>aD),ab⟩
def gO (P:Program) (Γ:cg) (N:Nat) (l:List Oper) (Q:b2→Env→aj→Prop) (m:Nat) (env:Env) (s:aj):List Nat→Prop
 | []=>True
 | i::is=>ja P Γ N l Q m env s i∧gO P Γ N l Q m env s is
theorem gO.mem {i:Nat}:∀ {is:List Nat},gO P Γ N l Q m env s is→i∈is→ja P Γ N l Q m env s i
  | j::is,h,aY=>by
    rcases List.mem_cons.1 aY with rfl|aY
    · exact h.1
    · exact gO.mem h.2 aY
theorem Dc {ops:Array Oper} {i:Nat}:∀ {is:List Nat},i∈ed ops m is→hJ ops m i=true
  | j::is,h=>by
    simp only [ed] at h;split at h
    · rename_i an
      rcases List.mem_cons.1 h with rfl|h
      · exact an
      · exact Dc h
    · exact Dc h
theorem bf.many {i:Nat} {is:List Nat} (az:ed l.toArray m (idxs 0 l)=i::is) (h:gO P Γ N l Q m env s (i::is)):bf P Γ N l.toArray Q (bR m) env s:=by
 have fq:∀ k,gh l.toArray (bR m) k→ja P Γ N l Q m env s k:=fun k aD=>by
  have:=xG aD (l:=idxs 0 l) (by rw [vD,List.mem_range'_1];have:=aD.1;simp at this;omega);rw [az] at this;exact h.mem this
 have h3:gh l.toArray (bR m) i:=rb.1 (Dc (is:=idxs 0 l) (by rw [az];exact List.mem_cons_self ..));refine bm.split (fun k x ah=>∃ o,l.toArray[k]? = some o∧(∀ d,o.dst=some d→bf P Γ N l.toArray Q (bR (m|||2^k)) ((d,x)::env) ah)∧(o.dst=none→bf P Γ N l.toArray Q (bR (m|||2^k)) env ah))
  (fun k x ah=>Q (.panic x) [] ah) ⟨i,h3.1,h3.2.1⟩ (fun k o aD ag=>?_) (fun _ _ _ _ _ _ _ => .inl trivial) (fun k o d aD ag ar x ah ⟨o',ck,U,ae⟩=>?_) (fun k o aD ag ar x ah ⟨o',ck,U,ae⟩=>?_) (fun k o aD ag x ah ab=>ab)
 ·obtain ⟨o',K,X,ck,ao,ra,aX,U,ae,al⟩:=fq k aD
  rw [ag] at ck;cases ck;exact ⟨ao,ra.mono (fun x ah br=>⟨o,ag,fun d ar=>U d ar x ah br,fun ar=>ae ar x ah br⟩) (fun x ah fZ=>al x ah fZ),aX⟩
 ·rw [ag] at ck;cases ck
  rw [np];exact U d ar
 ·rw [ag] at ck;cases ck
  rw [np];exact ae ar
end
section
variable {P:Program} {Γ:cg} {N:Nat} {ops:Array Oper} {Q:b2→Env→aj→Prop} {env:Env} {s:aj} {l:List Oper} {o:Oper} {d:Nat}
theorem aU.Dd {o:Oper} {t:TypeId} {x:Operand} {v:ad} {cs:List ad} (ag:o.op = .box t x) (ab:aJ env x=some v) (aE:cellsOf v=some cs) {X:ad→aj→Prop} :
  aU P N o env s (fun r ah=>∃ b,s b=none∧r = .ptr b 0∧ah=s.set b (.box t cs)) X:=by
 refine aU.jo h6 fun ro B a w p aF=>?_
 have az:=oP (aF.aJ ab) aE;obtain ⟨cz,dj,ft,ej⟩:=pP aF.wf (.cells (a.eval x).cells t) (.box t cs) (fun w' U ae al=>⟨(a.eval x).cells,U,al _ _ az,fun o aN=>absurd (aF.wf.lt _ _ aN) ai⟩);refine ⟨.pointer (some ⟨w.heap.size,0,none⟩),w.alloc (.cells (a.eval x).cells t),_,p,.ptr w.heap.size 0,?_,dj,ft,ej,⟨_,cz,rfl,rfl⟩,.ptr _ _⟩;unfold execOp;rw [ag];rfl
theorem aa.Dd {t:TypeId} {x:Operand} {v:ad} {cs:List ad} (ao:guardOf ops env o=some true) (ar:o.dst=some d) (aX:Nat.blt d N=true) (ag:o.op = .box t x) (ab:aJ env x=some v) (aE:cellsOf v=some cs)
  (h:∀ b,s b=none→aa P N ops l Q ((d,.ptr b 0)::env) (s.set b (.box t cs))):aa P N ops (o::l) Q env s:=
 aa.op ao ar aX (aU.Dd ag ab aE (X:=fun _ _=>False)) (fun x ah ⟨b,U,ae,al⟩=>by subst ae;subst al;exact h b U) (fun _ _ h=>h.elim)
end
end Go.bj
namespace Go.bj
abbrev a6:=List (bU×db)
def kv (s:aj) (k:bU) (o:db):aj:=match k with
 | .own b=>s.set b o
 | _=>s
def gone (s:aj) (k:bU):Prop:=match k with
 | .own b=>s b=none
 | .bd=>False
 | _=>True
def aQ (s:aj):a6→aj
 | []=>s
 | e::L=>kv (aQ s L) e.1 e.2
def Ok (s:aj):a6→Prop
 | []=>True
 | e::L=>gone (aQ s L) e.1∧Ok s L
inductive aP:a6→bU→db→a6→Prop
 | here {k:bU} {o:db} {L:a6}:aP ((k,o)::L) k o L
 | there {e:bU×db} {k:bU} {o:db} {L R:a6} (h:aP L k o R):aP (e::L) k o (e::R)
inductive au:a6→a6→a6→Prop
 | nil {L:a6}:au L [] L
 | cons {k:bU} {o:db} {L K R c4:a6} (h:aP L k o R) (t:au R K c4):au L ((k,o)::K) c4
theorem Hp (s:aj) (e:TypeId) (sz n:Nat) (k:bU):rowOf s e sz n k=kv s k (.row e sz n):=by cases k<;>rfl
theorem Hq {s:aj} {n:Nat} {k:bU}:si s n k↔gone s k:=by cases k<;>exact Iff.rfl
theorem OH {s:aj} {k k':bU} {o o':db} (h:gone s k) (fs:gone (kv s k o) k'):gone s k'∧gone (kv s k' o') k∧kv (kv s k o) k' o'=kv (kv s k' o') k o:=by
 cases k with
 | own b=>
  cases k' with
  | own aT=>
   obtain ⟨U,ae⟩:=aj.r7 fs;exact ⟨ae,(aj.e5 s o' (Ne.symm U)).trans h,aj.set_comm s o o' (Ne.symm U)⟩
  | nil=>exact ⟨trivial,h,rfl⟩
  | clip=>exact ⟨trivial,h,rfl⟩
  | bd=>exact fs.elim
 | nil=>exact ⟨fs,trivial,rfl⟩
 | clip=>exact ⟨fs,trivial,rfl⟩
 | bd=>exact h.elim
theorem aP.perm {s:aj} {L R:a6} {k:bU} {o:db} (h:aP L k o R):Ok s L→aQ s L=aQ s ((k,o)::R)∧Ok s ((k,o)::R):=by
 induction h with
 | here=>exact fun h=>⟨rfl,h⟩
 | @there e k o L R h a'=>
  rintro ⟨ao,I⟩;obtain ⟨U,ae,al⟩:=a' I;rw [U] at ao;obtain ⟨g1,g2,g3⟩:=OH (s:=aQ s R) (k:=k) (o:=o) (k':=e.1) (o':=e.2) ae ao;refine ⟨?_,g2,g1,al⟩;show kv (aQ s L) e.1 e.2=kv (kv (aQ s R) e.1 e.2) k o;rw [U];exact g3
theorem xN (s:aj):∀ (K R:a6),aQ s (K++R)=aQ (aQ s R) K
 | [],_=>rfl
 | e::K,R=>by show kv (aQ s (K++R)) e.1 e.2=_;rw [xN s K R];rfl
theorem Ay {s:aj}:∀ {K R:a6},Ok s (K++R)↔Ok (aQ s R) K∧Ok s R
  | [],R=>⟨fun h=>⟨trivial,h⟩,fun h=>h.2⟩
  | e::K,R=>by
    show gone (aQ s (K++R)) e.1∧Ok s (K++R)↔(gone (aQ (aQ s R) K) e.1∧Ok (aQ s R) K)∧Ok s R;rw [xN,Ay,and_assoc]
theorem au.perm {s:aj} {L K R:a6} (h:au L K R):Ok s L→aQ s L=aQ s (K++R)∧Ok s (K++R):=by
 induction h with
 | nil=>exact fun h=>⟨rfl,h⟩
 | @cons k o L K R c4 h t a'=>
  intro I;obtain ⟨U,ae,al⟩:=h.perm I;obtain ⟨bl,bD⟩:=a' al;refine ⟨?_,?_,bD⟩
  ·rw [U];show kv (aQ s R) k o=kv (aQ s (K++c4)) k o;rw [bl]
  ·have fG:gone (aQ s R) k:=ae
   rw [bl] at fG;exact fG
theorem au.eq {s:aj} {L K R:a6} (h:au L K R) (I:Ok s L):aQ s L=aQ (aQ s R) K∧Ok (aQ s R) K∧Ok s R:=by
 obtain ⟨U,ae⟩:=h.perm I;rw [xN] at U;exact ⟨U,Ay.1 ae⟩
theorem Az {s t:aj} {k:bU} {o:db} (h:aj.Sub s t):aj.Sub (kv s k o) (kv t k o):=by
 cases k with
 | own b=>
  intro x;by_cases e:x=b
  ·subst e;left;show (s.set x o) x=(t.set x o) x;rw [aj.fu,aj.fu]
  ·show (s.set b o) x=(t.set b o) x∨(s.set b o) x=none
   rw [aj.e5 _ _ e,aj.e5 _ _ e];exact h x
 | nil=>exact h
 | clip=>exact h
 | bd=>exact h
theorem vI {s t:aj} {k:bU} {o:db} (h:aj.Sub s t) (ao:gone s k):aj.Sub s (kv t k o):=by
 cases k with
 | own b=>exact aj.OF h ao
 | nil=>exact h
 | clip=>exact h
 | bd=>exact h
theorem De {s t:aj} (h:aj.Sub s t):∀ L:a6,aj.Sub (aQ s L) (aQ t L)
 | []=>h
 | _::L=>Az (De h L)
theorem Hr {s t:aj} {k:bU} (h:aj.Sub s t) (ao:gone t k):gone s k:=by
 cases k with
 | own b=>exact h.none ao
 | nil=>trivial
 | clip=>trivial
 | bd=>exact ao
theorem Ok.sub {s:aj}:∀ {L:a6},Ok s L→aj.Sub s (aQ s L)
 | [],_=>aj.nf _
 | e::L,h=>vI (Ok.sub h.2) (Hr (Ok.sub h.2) h.1)
theorem Ok.mf {s t:aj} (h:aj.Sub s t):∀ {L:a6},Ok t L→Ok s L
 | [],_=>trivial
 | e::L,I=>⟨Hr (De h L) I.1,Ok.mf h I.2⟩
theorem au.sub {s:aj} {L K R:a6} (h:au L K R) (I:Ok s L):aj.Sub (aQ s K) (aQ s L)∧Ok s K:=by
 obtain ⟨U,ae,al⟩:=h.eq I;rw [U];exact ⟨De al.sub K,ae.mf al.sub⟩
theorem aP.get {s:aj} {L R:a6} {b:Nat} {o:db} (h:aP L (.own b) o R) (I:Ok s L):aQ s L b=some o:=by
 rw [(h.perm I).1];exact aj.fu _ _ _
theorem aP.put {s:aj} {L R:a6} {b:Nat} {o:db} (o':db) (h:aP L (.own b) o R) (I:Ok s L):(aQ s L).set b o'=aQ s ((.own b,o')::R)∧Ok s ((.own b,o')::R):=by
 obtain ⟨U,ae⟩:=h.perm I;rw [U];exact ⟨aj.set_set _ _ _ _,ae⟩
theorem aP.del {s:aj} {L R:a6} {b:Nat} {o:db} (h:aP L (.own b) o R) (I:Ok s L):(aQ s L).del b=aQ s R∧Ok s R:=by
 obtain ⟨U,ae⟩:=h.perm I;rw [U];exact ⟨aj.xo _ _ _ ae.1,ae.2⟩
section
variable {P:Program} {Γ:cg} {N:Nat} {ops:Array Oper} {Q:b2→Env→aj→Prop} {env:Env} {s:aj} {l:List Oper} {o:Oper} {d:Nat} {L R:a6}
theorem aU.dS (aO:bL P Γ) (I:Ok s L) {t T:TypeId} {x:Operand} {i:bJ} {b off:Nat} {cs:List ad} {v:ad} (ag:o.op = .load t x) (aK:Γ.get? t=some i) (ab:aJ env x=some (.ptr b off))
  (aw:aP L (.own b) (.box T cs) R) (av:gI i cs off=some v) {X:ad→aj→Prop}:aU P N o env (aQ s L) (fun x ah=>x=v∧ah=aQ s L) X:=
 aU.r8 aO ag aK ab (aw.get I) av
theorem aa.dS (aO:bL P Γ) (I:Ok s L) {t T:TypeId} {x:Operand} {i:bJ} {b off:Nat} {cs:List ad} {v:ad} (ao:guardOf ops env o=some true) (ar:o.dst=some d) (aX:Nat.blt d N=true) (ag:o.op = .load t x)
  (aK:Γ.get? t=some i) (ab:aJ env x=some (.ptr b off)) (aw:aP L (.own b) (.box T cs) R) (av:gI i cs off=some v) (h:aa P N ops l Q ((d,v)::env) (aQ s L)):aa P N ops (o::l) Q env (aQ s L):=
 aa.r8 aO ao ar aX ag aK ab (aw.get I) av h
theorem aU.cF (aO:bL P Γ) (I:Ok s L) {t T:TypeId} {x y:Operand} {i:bJ} {b off:Nat} {cs us:List ad} {v:ad} (ag:o.op = .store t x y) (aK:Γ.get? t=some i) (ab:aJ env x=some (.ptr b off))
  (ay:aJ env y=some v) (av:cellsOf v=some us) (hu:Nat.beq us.length i.size=true) (U:us.all eN=true) (aw:aP L (.own b) (.box T cs) R) (eU:Nat.ble (off+us.length) cs.length=true) {X:ad→aj→Prop} :
  aU P N o env (aQ s L) (fun _ ah=>ah=aQ s ((.own b,.box T (eg off us cs))::R)∧Ok s ((.own b,.box T (eg off us cs))::R)) X:=by
 obtain ⟨ae,al⟩:=aw.put (.box T (eg off us cs)) I;exact (aU.zW aO ag aK ab ay av hu U (aw.get I) eU (X:=X)).mono (fun _ ah h=>⟨h.trans ae,al⟩) (fun _ _ h=>h)
theorem aa.cF (aO:bL P Γ) (I:Ok s L) {t T:TypeId} {x y:Operand} {i:bJ} {b off:Nat} {cs us:List ad} {v:ad} (ao:guardOf ops env o=some true) (ar:o.dst=none) (ag:o.op = .store t x y)
  (aK:Γ.get? t=some i) (ab:aJ env x=some (.ptr b off)) (ay:aJ env y=some v) (av:cellsOf v=some us) (hu:Nat.beq us.length i.size=true) (U:us.all eN=true)
  (aw:aP L (.own b) (.box T cs) R) (eU:Nat.ble (off+us.length) cs.length=true) (h:Ok s ((.own b,.box T (eg off us cs))::R)→aa P N ops l Q env (aQ s ((.own b,.box T (eg off us cs))::R))):aa P N ops (o::l) Q env (aQ s L):=
 aa.th ao ar (aU.cF aO I ag aK ab ay av hu U aw eU (X:=fun _ _=>False)) (fun x ah ⟨ae,al⟩=>by subst ae;exact h al) (fun _ _ h=>h.elim)
theorem aU.dE (aO:bL P Γ) (I:Ok s L) {t:TypeId} {i:bJ} {z:ad} {cs:List ad} (ag:o.op = .alloc t) (aK:Γ.get? t=some i) (bE:gy i.zero=some z) (aE:cellsOf z=some cs) {X:ad→aj→Prop} :
  aU P N o env (aQ s L) (fun x ah=>∃ b,x = .ptr b 0∧ah=aQ s ((.own b,.box t cs)::L)∧Ok s ((.own b,.box t cs)::L)) X:=
 (aU.alloc aO ag aK bE aE (X:=X)).mono (fun x ah ⟨b,U,ae,al⟩=>⟨b,ae,al,U,I⟩) (fun _ _ h=>h)
theorem aa.dE (aO:bL P Γ) (I:Ok s L) {t:TypeId} {i:bJ} {z:ad} {cs:List ad} (ao:guardOf ops env o=some true) (ar:o.dst=some d) (aX:Nat.blt d N=true) (ag:o.op = .alloc t) (aK:Γ.get? t=some i)
  (bE:gy i.zero=some z) (aE:cellsOf z=some cs) (h:∀ b,Ok s ((.own b,.box t cs)::L)→aa P N ops l Q ((d,.ptr b 0)::env) (aQ s ((.own b,.box t cs)::L))):aa P N ops (o::l) Q env (aQ s L):=
 aa.op ao ar aX (aU.dE aO I ag aK bE aE (X:=fun _ _=>False)) (fun x ah ⟨b,U,ae,al⟩=>by subst U;subst ae;exact h b al) (fun _ _ h=>h.elim)
theorem aU.iM (I:Ok s L) {t:TypeId} {x:Operand} {v:ad} {cs:List ad} (ag:o.op = .box t x) (ab:aJ env x=some v) (aE:cellsOf v=some cs) {X:ad→aj→Prop} :
  aU P N o env (aQ s L) (fun x ah=>∃ b,x = .ptr b 0∧ah=aQ s ((.own b,.box t cs)::L)∧Ok s ((.own b,.box t cs)::L)) X:=
 (aU.Dd ag ab aE (X:=X)).mono (fun x ah ⟨b,U,ae,al⟩=>⟨b,ae,al,U,I⟩) (fun _ _ h=>h)
theorem aa.iM (I:Ok s L) {t:TypeId} {x:Operand} {v:ad} {cs:List ad} (ao:guardOf ops env o=some true) (ar:o.dst=some d) (aX:Nat.blt d N=true) (ag:o.op = .box t x) (ab:aJ env x=some v) (aE:cellsOf v=some cs)
  (h:∀ b,Ok s ((.own b,.box t cs)::L)→aa P N ops l Q ((d,.ptr b 0)::env) (aQ s ((.own b,.box t cs)::L))):aa P N ops (o::l) Q env (aQ s L):=
 aa.op ao ar aX (aU.iM I ag ab aE (X:=fun _ _=>False)) (fun x ah ⟨b,U,ae,al⟩=>by subst U;subst ae;exact h b al) (fun _ _ h=>h.elim)
theorem aU.pZ (I:Ok s L) {t:TypeId} (ag:o.op = .makeMap t none) {X:ad→aj→Prop} :
  aU P N o env (aQ s L) (fun x ah=>∃ b,x = .map b∧ah=aQ s ((.own b,.map [])::L)∧Ok s ((.own b,.map [])::L)) X:=
 (aU.makeMap ag (X:=X)).mono (fun x ah ⟨b,U,ae,al⟩=>⟨b,ae,al,U,I⟩) (fun _ _ h=>h)
theorem aa.pZ (I:Ok s L) {t:TypeId} (ao:guardOf ops env o=some true) (ar:o.dst=some d) (aX:Nat.blt d N=true) (ag:o.op = .makeMap t none)
  (h:∀ b,Ok s ((.own b,.map [])::L)→aa P N ops l Q ((d,.map b)::env) (aQ s ((.own b,.map [])::L))):aa P N ops (o::l) Q env (aQ s L):=
 aa.op ao ar aX (aU.pZ I ag (X:=fun _ _=>False)) (fun x ah ⟨b,U,ae,al⟩=>by subst U;subst ae;exact h b al) (fun _ _ h=>h.elim)
theorem aU.ij (aO:bL P Γ) (I:Ok s L) {t ds ew:TypeId} {x y:Operand} {ok:Bool} {it fN aB:bJ} {m:Nat} {es:List (ad×ad)} {k z:ad} {r:Option ad} (ag:o.op = .lookup t x y ok) (aK:Γ.get? t=some it)
  (bo:it.bz = .map ds ew) (ie:Γ.get? ds=some fN) (bF:Γ.get? ew=some aB) (ab:aJ env x=some (.map m)) (ay:aJ env y=some k) (aw:aP L (.own m) (.map es) R) (ba:iZ fN.bz k=true) (az:h1 es k=some r)
  (bE:gy aB.zero=some z) {X:ad→aj→Prop}:aU P N o env (aQ s L) (fun x ah=>x=ko ok z r∧ah=aQ s L) X:=
 aU.lookup aO ag aK bo ie bF ab ay (.inl ⟨m,rfl,aw.get I⟩) ba az bE
theorem aa.ij (aO:bL P Γ) (I:Ok s L) {t ds ew:TypeId} {x y:Operand} {ok:Bool} {it fN aB:bJ} {m:Nat} {es:List (ad×ad)} {k z:ad} {r:Option ad} (ao:guardOf ops env o=some true) (ar:o.dst=some d) (aX:Nat.blt d N=true)
  (ag:o.op = .lookup t x y ok) (aK:Γ.get? t=some it) (bo:it.bz = .map ds ew) (ie:Γ.get? ds=some fN) (bF:Γ.get? ew=some aB) (ab:aJ env x=some (.map m)) (ay:aJ env y=some k) (aw:aP L (.own m) (.map es) R)
  (ba:iZ fN.bz k=true) (az:h1 es k=some r) (bE:gy aB.zero=some z) (h:aa P N ops l Q ((d,ko ok z r)::env) (aQ s L)):aa P N ops (o::l) Q env (aQ s L):=
 aa.lookup aO ao ar aX ag aK bo ie bF ab ay (aw.get I) ba az bE h
theorem aU.lF (aO:bL P Γ) (I:Ok s L) {t ds ew:TypeId} {x y z:Operand} {it fN:bJ} {b:Nat} {es c5:List (ad×ad)} {k v:ad} (ag:o.op = .mapUpdate t x y z∨o.op = .insert t x y z)
  (aK:Γ.get? t=some it) (bo:it.bz = .map ds ew) (ie:Γ.get? ds=some fN) (ab:aJ env x=some (.map b)) (ay:aJ env y=some k) (bE:aJ env z=some v) (aw:aP L (.own b) (.map es) R) (ba:iZ fN.bz k=true)
  (aN:kn es k v=some c5) {X:ad→aj→Prop}:aU P N o env (aQ s L) (fun _ ah=>ah=aQ s ((.own b,.map c5)::R)∧Ok s ((.own b,.map c5)::R)) X:=by
 obtain ⟨ae,al⟩:=aw.put (.map c5) I;exact (aU.mapUpdate aO ag aK bo ie ab ay bE (aw.get I) ba aN (X:=X)).mono (fun _ ah h=>⟨h.trans ae,al⟩) (fun _ _ h=>h)
theorem aa.lF (aO:bL P Γ) (I:Ok s L) {t ds ew:TypeId} {x y z:Operand} {it fN:bJ} {b:Nat} {es c5:List (ad×ad)} {k v:ad} (ao:guardOf ops env o=some true) (ar:o.dst=none) (ag:o.op = .mapUpdate t x y z∨o.op = .insert t x y z)
  (aK:Γ.get? t=some it) (bo:it.bz = .map ds ew) (ie:Γ.get? ds=some fN) (ab:aJ env x=some (.map b)) (ay:aJ env y=some k) (bE:aJ env z=some v) (aw:aP L (.own b) (.map es) R) (ba:iZ fN.bz k=true)
  (aN:kn es k v=some c5) (h:Ok s ((.own b,.map c5)::R)→aa P N ops l Q env (aQ s ((.own b,.map c5)::R))):aa P N ops (o::l) Q env (aQ s L):=
 aa.th ao ar (aU.lF aO I ag aK bo ie ab ay bE aw ba aN (X:=fun _ _=>False)) (fun x ah ⟨ae,al⟩=>by subst ae;exact h al) (fun _ _ h=>h.elim)
theorem aU.o6 (aO:bL P Γ) (I:Ok s L) {t bG e:TypeId} {x y:Operand} {it cp aB:bJ} {dL bV sz n n':Nat} {xs ys:List ad} {own dh:bU}
  (ag:o.op = .call { callee := .builtin .append,args := #[x,y],argTypes := #[t,bG] }) (aK:Γ.get? t=some it) (bo:it.bz = .aA e) (cS:Γ.get? bG=some cp) (dp:∀ k,cp.bz ≠ .int k)
  (bF:Γ.get? e=some aB) (ab:aJ env x=some (.aA dL xs own)) (ay:aJ env y=some (.aA bV ys dh)) (fI:dL=aB.size) (cY:ys=[]∨bV=aB.size)
  (dJ:Nat.beq aB.zero.cells.size aB.size=true) (dB:∀ y∈ys,jv aB.size y=true) (an:(xs.length+ys.length)*aB.bytes≤140737488355328) (dY:xs.length+ys.length≤9223372036854775807)
  (aC:n=xs.length) (gZ:n'=xs.length+ys.length) (b7:sz=aB.size) (aw:aP L own (.row e sz n) R) {X:ad→aj→Prop} :
  aU P N o env (aQ s L) (fun r ah=>∃ cZ,(ys≠[]→∃ b,cZ = .own b)∧(∀ b,own = .own b→∃ aT,cZ = .own aT)∧r = .aA sz (xs++ys) cZ∧ah=aQ s ((cZ,.row e sz n')::R)∧Ok s ((cZ,.row e sz n')::R)) X:=by
 subst b7;subst gZ;obtain ⟨U,ae,al⟩:=aw.perm I;have bl:aQ s L=rowOf (aQ s R) e aB.size n own:=U.trans (Hp _ _ _ _ _).symm;rw [bl];refine (aU.Da aO ag aK bo cS dp bF ab ay fI cY dJ dB an dY aC (Hq.2 ae) (X:=X)).mono ?_ (fun _ _ h=>h);rintro r ah ⟨cZ,g1,g2,g3,rfl,rfl⟩;exact ⟨cZ,g2,g3,rfl,Hp _ _ _ _ _,Hq.1 g1,al⟩
theorem aa.iN (aO:bL P Γ) (I:Ok s L) {t bG e:TypeId} {x y:Operand} {it cp aB:bJ} {dL bV sz n:Nat} {xs:List ad} {v:ad} {own dh:bU} (ao:guardOf ops env o=some true) (ar:o.dst=some d) (aX:Nat.blt d N=true)
  (ag:o.op = .call { callee := .builtin .append,args := #[x,y],argTypes := #[t,bG] }) (aK:Γ.get? t=some it) (bo:it.bz = .aA e) (cS:Γ.get? bG=some cp) (dp:∀ k,cp.bz ≠ .int k)
  (bF:Γ.get? e=some aB) (ab:aJ env x=some (.aA dL xs own)) (ay:aJ env y=some (.aA bV [v] dh)) (fI:dL=aB.size) (cY:bV=aB.size)
  (dJ:Nat.beq aB.zero.cells.size aB.size=true) (dB:jv aB.size v=true) (b7:sz=aB.size) (aw:aP L own (.row e sz n) R) (aC:n=xs.length) (an:(n+1)*aB.bytes≤140737488355328) (dY:n+1≤9223372036854775807)
  (h:∀ b,Ok s ((.own b,.row e sz (n+1))::R)→aa P N ops l Q ((d,.aA sz (xs++[v]) (.own b))::env) (aQ s ((.own b,.row e sz (n+1))::R))):aa P N ops (o::l) Q env (aQ s L):=by
 subst aC;refine aa.op ao ar aX (aU.o6 aO I ag aK bo cS dp bF ab ay fI (.inr cY) dJ (by intro y ay;simp at ay;subst ay;exact dB) an dY C (n':=xs.length+1) C b7 aw (X:=fun _ _=>False)) ?_ (fun _ _ h=>h.elim);rintro r ah ⟨cZ,ae,-,rfl,rfl,al⟩;obtain ⟨b,rfl⟩:=ae bn;exact h b al
theorem aa.o6 (aO:bL P Γ) (I:Ok s L) {t bG e:TypeId} {x y:Operand} {it cp aB:bJ} {dL bV sz n n':Nat} {xs ys:List ad} {own dh:bU} (ao:guardOf ops env o=some true) (ar:o.dst=some d) (aX:Nat.blt d N=true)
  (ag:o.op = .call { callee := .builtin .append,args := #[x,y],argTypes := #[t,bG] }) (aK:Γ.get? t=some it) (bo:it.bz = .aA e) (cS:Γ.get? bG=some cp) (dp:∀ k,cp.bz ≠ .int k)
  (bF:Γ.get? e=some aB) (ab:aJ env x=some (.aA dL xs own)) (ay:aJ env y=some (.aA bV ys dh)) (fI:dL=aB.size) (cY:ys=[]∨bV=aB.size)
  (dJ:Nat.beq aB.zero.cells.size aB.size=true) (dB:∀ y∈ys,jv aB.size y=true) (b7:sz=aB.size) (aw:aP L own (.row e sz n) R) (aC:n=xs.length) (gZ:n'=xs.length+ys.length) (an:(xs.length+ys.length)*aB.bytes≤140737488355328) (dY:xs.length+ys.length≤9223372036854775807)
  (h:∀ cZ,Ok s ((cZ,.row e sz n')::R)→aa P N ops l Q ((d,.aA sz (xs++ys) cZ)::env) (aQ s ((cZ,.row e sz n')::R))):aa P N ops (o::l) Q env (aQ s L):=by
 refine aa.op ao ar aX (aU.o6 aO I ag aK bo cS dp bF ab ay fI cY dJ dB an dY aC gZ b7 aw (X:=fun _ _=>False)) ?_ (fun _ _ h=>h.elim);rintro r ah ⟨cZ,-,-,rfl,rfl,al⟩;exact h cZ al
theorem af.lG {c:Code} (I:Ok s L) (t b:Nat) {T:TypeId} {cs:List ad} (aK:env.get? t=some (.ptr b 0)) (aw:aP L (.own b) (.box T cs) R) (h:Ok s R→af P N c Q ((t,.bq cs 0)::env) (aQ s R)):af P N c Q env (aQ s L):=by
 obtain ⟨U,ae⟩:=aw.del I;refine af.freeze t b aK (aw.get I) ?_;rw [U];exact h ae
theorem aa.lG (I:Ok s L) (t b:Nat) {T:TypeId} {cs:List ad} (aK:env.get? t=some (.ptr b 0)) (aw:aP L (.own b) (.box T cs) R) (h:Ok s R→aa P N ops l Q ((t,.bq cs 0)::env) (aQ s R)):aa P N ops l Q env (aQ s L):=by
 obtain ⟨U,ae⟩:=aw.del I;refine aa.freeze t b aK (aw.get I) ?_;rw [U];exact h ae
theorem af.vJ {c:Code} (I:Ok s L) (b:Nat) {T:TypeId} {cs:List ad} (cs':List ad) (aw:aP L (.own b) (.box T cs) R) (aE:cA cs cs') (h:Ok s ((.own b,.box T cs')::R)→af P N c Q env (aQ s ((.own b,.box T cs')::R))):af P N c Q env (aQ s L):=by
 obtain ⟨U,ae⟩:=aw.put (.box T cs') I;refine af.o5 b cs' (aw.get I) aE ?_;rw [U];exact h ae
theorem aa.vJ (I:Ok s L) (b:Nat) {T:TypeId} {cs:List ad} (cs':List ad) (aw:aP L (.own b) (.box T cs) R) (aE:cA cs cs') (h:Ok s ((.own b,.box T cs')::R)→aa P N ops l Q env (aQ s ((.own b,.box T cs')::R))):aa P N ops l Q env (aQ s L):=by
 obtain ⟨U,ae⟩:=aw.put (.box T cs') I;refine aa.o5 b cs' (aw.get I) aE ?_;rw [U];exact h ae
theorem af.k2 {c:Code} (I:Ok s L) (K:a6) (aw:au L K R) (h:Ok s K→af P N c Q env (aQ s K)):af P N c Q env (aQ s L):=by
 obtain ⟨U,ae⟩:=aw.sub I;exact af.drop _ U (h ae)
theorem aa.k2 (I:Ok s L) (K:a6) (aw:au L K R) (h:Ok s K→aa P N ops l Q env (aQ s K)):aa P N ops l Q env (aQ s L):=by
 obtain ⟨U,ae⟩:=aw.sub I;exact aa.drop _ U (h ae)
end
def tT (s:aj) (R:eb→a6→Prop) (o:eb) (ah:aj):Prop:=∃ K,ah=aQ s K∧Ok s K∧R o K
def bu (P:Program) (f:FuncId) (args:List ad) (K:a6) (R:eb→a6→Prop):Prop:=∀ s,Ok s K→gg P f args (aQ s K) (tT s R)
def c2 (P:Program) (fv:ad) (args:List ad) (K:a6) (R:eb→a6→Prop):Prop:=∀ s,Ok s K→gM P fv args (aQ s K) (tT s R)
def a7 (P:Program) (f:FuncId) (args:List ad) (v:ad):Prop:=∀ s,gg P f args s (fun o ah=>o = .ret v∧ah=s)
def dM (P:Program) (fv:ad) (args:List ad) (v:ad):Prop:=∀ s,gM P fv args s (fun o ah=>o = .ret v∧ah=s)
theorem dM.eP {P:Program} {f:FuncId} {first cap args:List ad} {v:ad} (h:a7 P f (first++(args++cap)) v):dM P (.func f first cap) args v:=fun s=>gM.eP (h s)
section
variable {P:Program} {Γ:cg} {N:Nat} {ops:Array Oper} {Q:b2→Env→aj→Prop} {env:Env} {s:aj} {l:List Oper} {o:Oper} {d:Nat} {L R K:a6} {X3:eb→a6→Prop}
theorem aa.kx {g:Operand} {fv:ad} {as:Array Operand} {cP:Array TypeId} {xs:List ad} {v:ad} (ao:guardOf ops env o=some true) (ar:o.dst=some d) (aX:Nat.blt d N=true)
  (bW:o.op = .call { callee := .value g,args:=as,argTypes:=cP }) (av:aJ env g=some fv) (aV:fg env as.toList=some xs) (h:dM P fv xs v) (aD:aa P N ops l Q ((d,v)::env) s):aa P N ops (o::l) Q env s:=
 aa.CS ao ar aX bW av aV (h s) (fun x ah ⟨U,ae⟩=>by cases U;subst ae;exact aD) (fun x ah ⟨U,_⟩=>by cases U)
theorem bu.mono {f:FuncId} {args:List ad} {xO:eb→a6→Prop} (h:bu P f args K X3) (az:∀ o K,X3 o K→xO o K):bu P f args K xO :=
 fun s I=>(h s I).mono fun o ah ⟨aL,U,ae,al⟩=>⟨aL,U,ae,az _ _ al⟩
theorem c2.mono {fv:ad} {args:List ad} {xO:eb→a6→Prop} (h:c2 P fv args K X3) (az:∀ o K,X3 o K→xO o K):c2 P fv args K xO :=
 fun s I=>(h s I).mono fun o ah ⟨aL,U,ae,al⟩=>⟨aL,U,ae,az _ _ al⟩
theorem bu.at {f:FuncId} {args:List ad} (h:bu P f args K X3) (I:Ok s L) (aw:au L K R):gg P f args (aQ s L) (tT s fun o M=>∃ aL,M=aL++R∧X3 o aL):=by
 obtain ⟨U,ae,al⟩:=aw.eq I;rw [U];refine (h _ ae).mono ?_;rintro o ah ⟨aL,rfl,g2,g3⟩;exact ⟨aL++R,(xN _ _ _).symm,Ay.2 ⟨g2,al⟩,aL,rfl,g3⟩
theorem c2.at {fv:ad} {args:List ad} (h:c2 P fv args K X3) (I:Ok s L) (aw:au L K R):gM P fv args (aQ s L) (tT s fun o M=>∃ aL,M=aL++R∧X3 o aL):=by
 obtain ⟨U,ae,al⟩:=aw.eq I;rw [U];refine (h _ ae).mono ?_;rintro o ah ⟨aL,rfl,g2,g3⟩;exact ⟨aL++R,(xN _ _ _).symm,Ay.2 ⟨g2,al⟩,aL,rfl,g3⟩
theorem c2.eP {f:FuncId} {first cap args:List ad} (h:bu P f (first++(args++cap)) K X3):c2 P (.func f first cap) args K X3:=fun s I=>gM.eP (h s I)
theorem aU.b0 {f:FuncId} {as:Array Operand} {cP:Array TypeId} {xs:List ad} (bW:o.op = .call { callee := .value (.func f),args:=as,argTypes:=cP }) (aV:fg env as.toList=some xs)
  (h:bu P f xs K X3) (I:Ok s L) (aw:au L K R) :
  aU P N o env (aQ s L) (fun x ah=>∃ aL,ah=aQ s (aL++R)∧Ok s (aL++R)∧X3 (.ret x) aL) (fun x ah=>∃ aL,ah=aQ s (aL++R)∧Ok s (aL++R)∧X3 (.panic x) aL):=by
 refine (aU.call bW (fv := .func f [] []) C aV (gM.eP (by simpa using h.at I aw))).mono ?_ ?_
 ·rintro x ah ⟨M,rfl,ae,aL,rfl,al⟩;exact ⟨aL,rfl,ae,al⟩
 ·rintro x ah ⟨M,rfl,ae,aL,rfl,al⟩;exact ⟨aL,rfl,ae,al⟩
theorem aU.fO {g:Operand} {fv:ad} {as:Array Operand} {cP:Array TypeId} {xs:List ad} (bW:o.op = .call { callee := .value g,args:=as,argTypes:=cP }) (av:aJ env g=some fv) (aV:fg env as.toList=some xs)
  (h:c2 P fv xs K X3) (I:Ok s L) (aw:au L K R) :
  aU P N o env (aQ s L) (fun x ah=>∃ aL,ah=aQ s (aL++R)∧Ok s (aL++R)∧X3 (.ret x) aL) (fun x ah=>∃ aL,ah=aQ s (aL++R)∧Ok s (aL++R)∧X3 (.panic x) aL):=by
 refine (aU.call bW av aV (h.at I aw)).mono ?_ ?_
 ·rintro x ah ⟨M,rfl,ae,aL,rfl,al⟩;exact ⟨aL,rfl,ae,al⟩
 ·rintro x ah ⟨M,rfl,ae,aL,rfl,al⟩;exact ⟨aL,rfl,ae,al⟩
theorem aa.b0 {f:FuncId} {as:Array Operand} {cP:Array TypeId} {xs:List ad} (ao:guardOf ops env o=some true) (ar:o.dst=some d) (aX:Nat.blt d N=true)
  (bW:o.op = .call { callee := .value (.func f),args:=as,argTypes:=cP }) (aV:fg env as.toList=some xs) (h:bu P f xs K X3) (I:Ok s L) (aw:au L K R)
  (aD:∀ x aL,X3 (.ret x) aL→Ok s (aL++R)→aa P N ops l Q ((d,x)::env) (aQ s (aL++R))) (ab:∀ x aL,X3 (.panic x) aL→Ok s (aL++R)→Q (.panic x) env (aQ s (aL++R))):aa P N ops (o::l) Q env (aQ s L):=
 aa.op ao ar aX (aU.b0 bW aV h I aw) (fun x ah ⟨aL,U,ae,al⟩=>by subst U;exact aD x aL al ae) (fun x ah ⟨aL,U,ae,al⟩=>by subst U;exact ab x aL al ae)
theorem aa.fO {g:Operand} {fv:ad} {as:Array Operand} {cP:Array TypeId} {xs:List ad} (ao:guardOf ops env o=some true) (ar:o.dst=some d) (aX:Nat.blt d N=true)
  (bW:o.op = .call { callee := .value g,args:=as,argTypes:=cP }) (av:aJ env g=some fv) (aV:fg env as.toList=some xs) (h:c2 P fv xs K X3) (I:Ok s L) (aw:au L K R)
  (aD:∀ x aL,X3 (.ret x) aL→Ok s (aL++R)→aa P N ops l Q ((d,x)::env) (aQ s (aL++R))) (ab:∀ x aL,X3 (.panic x) aL→Ok s (aL++R)→Q (.panic x) env (aQ s (aL++R))):aa P N ops (o::l) Q env (aQ s L):=
 aa.op ao ar aX (aU.fO bW av aV h I aw) (fun x ah ⟨aL,U,ae,al⟩=>by subst U;exact aD x aL al ae) (fun x ah ⟨aL,U,ae,al⟩=>by subst U;exact ab x aL al ae)
theorem aa.eB {f:FuncId} {as:Array Operand} {cP:Array TypeId} {xs:List ad} {v:ad} (ao:guardOf ops env o=some true) (ar:o.dst=some d) (aX:Nat.blt d N=true)
  (bW:o.op = .call { callee := .value (.func f),args:=as,argTypes:=cP }) (aV:fg env as.toList=some xs) (h:a7 P f xs v) (aD:aa P N ops l Q ((d,v)::env) s):aa P N ops (o::l) Q env s:=
 aa.GZ ao ar aX bW aV (h s) aD
theorem bu.bp (aO:bL P Γ) {f:FuncId} {fn:Func} {c:Code} {args:List ad} (aE:aW P f) (ba:P.funcs[f]? = some fn) (an:fn.body=some c)
  (aX:Nat.ble args.length fn.ntmps=true) (h:∀ s,Ok s K→af P fn.ntmps c (Fin Γ fn.results.toList (tT s X3)) (sb 0 args) (aQ s K)):bu P f args K X3:=
 fun s I=>gg.bp aO aE ba an aX (h s I)
theorem a7.bp (aO:bL P Γ) {f:FuncId} {fn:Func} {c:Code} {args:List ad} {v:ad} (aE:aW P f) (ba:P.funcs[f]? = some fn) (an:fn.body=some c)
  (aX:Nat.ble args.length fn.ntmps=true) (h:∀ s,Ok s []→af P fn.ntmps c (Fin Γ fn.results.toList (fun o ah=>o = .ret v∧ah=s)) (sb 0 args) (aQ s [])):a7 P f args v:=
 fun s=>gg.bp aO aE ba an aX (h s trivial)
theorem Fin.bH {rs:List ResultVar} {r r':ad} (I:Ok s L) (az:mH Γ env (aQ s L) rs=some r) (hle:a8 r r') (aw:au L K R) (tU:X3 (.ret r') K):∃ r r' ah,mH Γ env (aQ s L) rs=some r∧a8 r r'∧aj.Sub ah (aQ s L)∧tT s X3 (.ret r') ah:=by
 obtain ⟨U,ae⟩:=aw.sub I;exact ⟨r,r',_,az,hle,U,K,rfl,ae,tU⟩
theorem Fin.dT {rs:List ResultVar} {r v:ad} (I:Ok s L) (az:mH Γ env (aQ s L) rs=some r) (hle:a8 r v):∃ r r' ah,mH Γ env (aQ s L) rs=some r∧a8 r r'∧aj.Sub ah (aQ s L)∧(eb.ret r' = .ret v∧ah=s):=
 ⟨r,v,s,az,hle,I.sub,rfl,rfl⟩
theorem Fin.eM {v eK:ad} (I:Ok s L) (hle:a8 v eK) (aw:au L K R) (tU:X3 (.panic eK) K):∃ eK ah,a8 v eK∧aj.Sub ah (aQ s L)∧tT s X3 (.panic eK) ah:=by
 obtain ⟨U,ae⟩:=aw.sub I;exact ⟨eK,_,hle,U,K,rfl,ae,tU⟩
theorem Env.Sub.append {a b env:Env} (h:Env.Sub a env) (k:Env.Sub b env):Env.Sub (a++b) env:=by
 induction a with
 | nil=>exact k
 | cons x a a'=>exact ⟨h.1,a' h.2⟩
def tV:List Nat→Env→Env→Env×Unit
  | [],_,acc=>(acc,())
  | t::fz,env,acc=>match env.get? t with
    | some v=>tV fz env ((t,v)::acc)
    | none=>tV fz env acc
theorem xP:∀ (fz:List Nat) (acc E:Env),Env.Sub acc env→tV fz env acc=(E,())→Env.Sub E env
  | [],acc,E,h,e=>by cases e;exact h
  | t::fz,acc,E,h,e=>by
    simp only [tV] at e;split at e
    · rename_i v av;exact xP fz ((t,v)::acc) E ⟨⟨v,av,a8.refl _⟩,h⟩ e
    · exact xP fz _ E h e
theorem af.keep {c:Code} (fz:List Nat) {E:Env} (h:tV fz env []=(E,())) (k:af P N c Q E s):af P N c Q env s:=af.sub E (xP fz [] E trivial h) k
theorem aa.keep (fz:List Nat) {E:Env} (h:tV fz env []=(E,())) (k:aa P N ops l Q E s):aa P N ops l Q env s:=aa.sub E (xP fz [] E trivial h) k
def bX {σ:Type} (s:aj) (E:σ→Env) (K:σ→a6) (X4:σ→Prop) (ok:σ→Prop) (er:Env) (ah:aj):Prop:=
 ∃ y nu c4,X4 y∧ok y∧Env.Sub (E y) er∧ah=aQ s nu∧Ok s nu∧au nu (K y) c4
theorem af.vK {σ:Type} {c:Code} (I:Ok s L) (E:σ→Env) (K:σ→a6) (X4:σ→Prop) (μ:σ→Nat) (mA:σ) {Df:a6} (aH:X4 mA) (eu:Env.Sub (E mA) env) (cX:au L (K mA) Df)
  (round:∀ x,X4 x→Ok s (K x)→af P N c (b2.andThen (bX s E K X4 (fun y=>μ y<μ x)) Q) (E x) (aQ s (K x))):af P N (.loop c) Q env (aQ s L):=by
 obtain ⟨U,ae⟩:=cX.sub I;refine af.loop E (fun x=>aQ s (K x)) (fun x=>X4 x∧Ok s (K x)) μ mA ⟨aH,ae⟩ eu U ?_;rintro x ⟨ab,OI⟩;refine (round x ab OI).mono ?_;intro e er ah h;cases e with
 | normal=>
  obtain ⟨y,nu,c4,g1,g2,g3,rfl,g4,g5⟩:=h;obtain ⟨cz,dj⟩:=g5.sub g4;exact ⟨y,⟨g1,dj⟩,g3,cz,g2⟩
 | exit id=>exact h
 | ret=>exact h
 | panic v=>exact h
theorem bX.mk {σ:Type} {E:σ→Env} {K:σ→a6} {X4:σ→Prop} {ok:σ→Prop} (y:σ) {c4:a6} (I:Ok s L) (aH:X4 y) (eu:Env.Sub (E y) env) (cX:au L (K y) c4) (hm:ok y):bX s E K X4 ok env (aQ s L):=⟨y,L,c4,aH,hm,eu,rfl,I,cX⟩
def jN {σ:Type} (s:aj) (E:σ→Env) (K:σ→a6) (X4:σ→Prop) (e:b2) (er:Env) (ah:aj):Prop:=
 e = .normal∧∃ y nu c4,X4 y∧Env.Sub (E y) er∧ah=aQ s nu∧Ok s nu∧au nu (K y) c4
theorem jN.mk {σ:Type} {E:σ→Env} {K:σ→a6} {X4:σ→Prop} (y:σ) {c4:a6} (I:Ok s L) (aH:X4 y) (eu:Env.Sub (E y) env) (cX:au L (K y) c4):jN s E K X4 .normal env (aQ s L):=⟨rfl,y,L,c4,aH,eu,rfl,I,cX⟩
theorem af.tW {σ:Type} {x y:Code} {pM:b2→Env→aj→Prop} (E:σ→Env) (K:σ→a6) (X4:σ→Prop) (xL:af P N x (jN s E K X4) env (aQ s L)) (xM:∀ z,X4 z→Ok s (K z)→af P N y Q (E z) (aQ s (K z))) :
  af P N x (b2.andThen (af P N y Q) pM) env (aQ s L):=by
 refine xL.mono ?_;rintro e er ah ⟨rfl,z,nu,c4,g1,g2,rfl,g3,g4⟩;obtain ⟨cz,dj⟩:=g4.sub g3;exact af.sub _ g2 (af.drop _ cz (xM z g1 dj))
theorem af.OJ {σ:Type} {x y:Code} (E:σ→Env) (K:σ→a6) (X4:σ→Prop) (xL:af P N x (jN s E K X4) env (aQ s L)) (xM:∀ z,X4 z→Ok s (K z)→af P N y Q (E z) (aQ s (K z))):af P N (.seq x y) Q env (aQ s L):=
 af.seq (af.tW E K X4 xL xM)
end
section
variable {P:Program} {Γ:cg} {N:Nat} {l:List Oper} {Q:b2→Env→aj→Prop} {env:Env} {s:aj} {m:Nat} {L R:a6}
theorem bf.Dg {i:Nat} {o:Oper} {d:Nat} {f:FuncId} {as:Array Operand} {cP:Array TypeId} {xs:List ad} {v:ad} (az:hJ l.toArray m i=true) (ag:l.toArray[i]? = some o) (ar:o.dst=some d) (aX:Nat.blt d N=true)
  (ao:guardOf l.toArray (bc env (looks l.toArray o)) o=some true) (bW:o.op = .call { callee := .value (.func f),args:=as,argTypes:=cP }) (aV:fg (bc env (looks l.toArray o)) as.toList=some xs) (h:a7 P f xs v)
  (k:bf P Γ N l.toArray Q (bR (m|||2^i)) ((d,v)::env) s):bf P Γ N l.toArray Q (bR m) env s:=
 bf.OG az ag ar aX ao bW aV h k
theorem bf.dS (i:Nat) (aO:bL P Γ) (I:Ok s L) {o:Oper} {d:Nat} {t T:TypeId} {x:Operand} {dm:bJ} {b off:Nat} {cs:List ad} {v:ad} (az:ed l.toArray m (idxs 0 l)=[i]) (ag:l.toArray[i]? = some o) (ar:o.dst=some d)
  (aX:Nat.blt d N=true) (ao:guardOf l.toArray (bc env (looks l.toArray o)) o=some true) (bW:o.op = .load t x) (aK:Γ.get? t=some dm) (ab:aJ (bc env (looks l.toArray o)) x=some (.ptr b off))
  (aw:aP L (.own b) (.box T cs) R) (av:gI dm cs off=some v) (h:bf P Γ N l.toArray Q (bR (m|||2^i)) ((d,v)::env) (aQ s L)):bf P Γ N l.toArray Q (bR m) env (aQ s L):=
 bf.one az ag ar aX ao (aU.dS aO I bW aK ab aw av (X:=fun _ _=>False)) (fun x ah ⟨U,ae⟩=>by subst U;subst ae;exact h) (fun _ _ h=>h.elim)
theorem bf.cF (i:Nat) (aO:bL P Γ) (I:Ok s L) {o:Oper} {t T:TypeId} {x y:Operand} {dm:bJ} {b off:Nat} {cs us:List ad} {v:ad} (az:ed l.toArray m (idxs 0 l)=[i]) (ag:l.toArray[i]? = some o) (ar:o.dst=none)
  (ao:guardOf l.toArray (bc env (looks l.toArray o)) o=some true) (bW:o.op = .store t x y) (aK:Γ.get? t=some dm) (ab:aJ (bc env (looks l.toArray o)) x=some (.ptr b off)) (ay:aJ (bc env (looks l.toArray o)) y=some v)
  (av:cellsOf v=some us) (hu:Nat.beq us.length dm.size=true) (U:us.all eN=true) (aw:aP L (.own b) (.box T cs) R) (eU:Nat.ble (off+us.length) cs.length=true)
  (h:Ok s ((.own b,.box T (eg off us cs))::R)→bf P Γ N l.toArray Q (bR (m|||2^i)) env (aQ s ((.own b,.box T (eg off us cs))::R))):bf P Γ N l.toArray Q (bR m) env (aQ s L):=
 bf.vE az ag ar ao (aU.cF aO I bW aK ab ay av hu U aw eU (X:=fun _ _=>False)) (fun x ah ⟨U,ae⟩=>by subst U;exact h ae) (fun _ _ h=>h.elim)
theorem bf.dE (i:Nat) (aO:bL P Γ) (I:Ok s L) {o:Oper} {d:Nat} {t:TypeId} {dm:bJ} {z:ad} {cs:List ad} (az:ed l.toArray m (idxs 0 l)=[i]) (ag:l.toArray[i]? = some o) (ar:o.dst=some d)
  (aX:Nat.blt d N=true) (ao:guardOf l.toArray (bc env (looks l.toArray o)) o=some true) (bW:o.op = .alloc t) (aK:Γ.get? t=some dm) (bE:gy dm.zero=some z) (aE:cellsOf z=some cs)
  (h:∀ b,Ok s ((.own b,.box t cs)::L)→bf P Γ N l.toArray Q (bR (m|||2^i)) ((d,.ptr b 0)::env) (aQ s ((.own b,.box t cs)::L))):bf P Γ N l.toArray Q (bR m) env (aQ s L):=
 bf.one az ag ar aX ao (aU.dE aO I bW aK bE aE (X:=fun _ _=>False)) (fun x ah ⟨b,U,ae,al⟩=>by subst U;subst ae;exact h b al) (fun _ _ h=>h.elim)
theorem bf.iN (i:Nat) (aO:bL P Γ) (I:Ok s L) {o:Oper} {d:Nat} {t bG e:TypeId} {x y:Operand} {it cp aB:bJ} {dL bV sz n:Nat} {xs:List ad} {v:ad} {own dh:bU} (az:ed l.toArray m (idxs 0 l)=[i]) (ag:l.toArray[i]? = some o)
  (ar:o.dst=some d) (aX:Nat.blt d N=true) (ao:guardOf l.toArray (bc env (looks l.toArray o)) o=some true) (bW:o.op = .call { callee := .builtin .append,args := #[x,y],argTypes := #[t,bG] }) (aK:Γ.get? t=some it)
  (bo:it.bz = .aA e) (cS:Γ.get? bG=some cp) (dp:∀ k,cp.bz ≠ .int k) (bF:Γ.get? e=some aB) (ab:aJ (bc env (looks l.toArray o)) x=some (.aA dL xs own)) (ay:aJ (bc env (looks l.toArray o)) y=some (.aA bV [v] dh)) (fI:dL=aB.size) (cY:bV=aB.size)
  (dJ:Nat.beq aB.zero.cells.size aB.size=true) (dB:jv aB.size v=true) (b7:sz=aB.size) (aw:aP L own (.row e sz n) R) (aC:n=xs.length) (an:(n+1)*aB.bytes≤140737488355328) (dY:n+1≤9223372036854775807)
  (h:∀ b,Ok s ((.own b,.row e sz (n+1))::R)→bf P Γ N l.toArray Q (bR (m|||2^i)) ((d,.aA sz (xs++[v]) (.own b))::env) (aQ s ((.own b,.row e sz (n+1))::R))):bf P Γ N l.toArray Q (bR m) env (aQ s L):=by
 subst aC;refine bf.one az ag ar aX ao (aU.o6 aO I bW aK bo cS dp bF ab ay fI (.inr cY) dJ (by intro y ay;simp at ay;subst ay;exact dB) an dY C (n':=xs.length+1) C b7 aw (X:=fun _ _=>False)) ?_ (fun _ _ h=>h.elim);rintro r ah ⟨cZ,ae,-,rfl,rfl,al⟩;obtain ⟨b,rfl⟩:=ae bn;exact h b al
end
section
variable {P:Program} {Γ:cg} {N:Nat} {ops:Array Oper} {Q:b2→Env→aj→Prop} {env:Env} {s:aj} {o:Oper} {d:Nat}
theorem aU.weaken {K X aL lZ:ad→aj→Prop} (h:aU P N o env s K X) (br:∀ x ah,K x ah→∃ y ef,a8 x y∧aj.Sub ef ah∧aL y ef) (fZ:∀ x ah,X x ah→∃ ef,aj.Sub ef ah∧lZ x ef):aU P N o env s aL lZ:=by
 refine ⟨h.1,fun ro B a w p aF=>(h.2 ro B a w p aF).mono ?_⟩;rintro e w' ⟨ah,bb,U,ae,al,bl⟩;cases e with
 | returned v=>
  obtain ⟨x,aD,az⟩:=bl;obtain ⟨y,ef,hle,aw,eL⟩:=br x ah aD;exact ⟨ef,bb,U,ae.sub aw,al.sub aw,y,eL,hle _ _ _ az⟩
 | panicked da=>
  obtain ⟨v,x,iX,aD,az⟩:=bl;obtain ⟨ef,aw,eL⟩:=fZ x ah aD;exact ⟨ef,bb,U,ae.sub aw,al.sub aw,v,x,iX,eL,az⟩
 | outgrown=>exact bl.elim
theorem aU.p0 (aO:bL P Γ) {t bG e:TypeId} {x y:Operand} {it cp aB:bJ} {dL bV:Nat} {xs ys:List ad} {own dh:bU}
  (ag:o.op = .call { callee := .builtin .append,args := #[x,y],argTypes := #[t,bG] }) (aK:Γ.get? t=some it) (bo:it.bz = .aA e) (cS:Γ.get? bG=some cp) (dp:∀ k,cp.bz ≠ .int k)
  (bF:Γ.get? e=some aB) (ab:aJ env x=some (.aA dL xs own)) (ay:aJ env y=some (.aA bV ys dh)) (fI:xs=[]∨dL=aB.size) (cY:ys=[]∨bV=aB.size)
  (dJ:Nat.beq aB.zero.cells.size aB.size=true) (dB:∀ y∈ys,jv aB.size y=true) (an:(xs.length+ys.length)*aB.bytes≤140737488355328) (dY:xs.length+ys.length≤9223372036854775807)
  (n6:own = .nil∨own = .clip) {X:ad→aj→Prop}:aU P N o env s (fun r ah=>r = .aA aB.size (xs++ys) .bd∧ah=s) X:=by
 refine (aU.append aO ag aK bo cS dp bF ab ay fI cY dJ dB an dY (.inl n6) (X:=X)).weaken ?_ (fun _ ah h=>⟨ah,aj.nf _,h⟩);rintro r ah (⟨rfl,_,rfl,rfl⟩|⟨s₁,xx,b,U,rfl,rfl⟩)
 ·exact ⟨_,_,by rw [List.append_nil];exact a8.bd,aj.nf _,rfl,rfl⟩
 ·rcases xx with rfl|⟨aT,rfl,rfl⟩
  ·exact ⟨_,_,a8.bd,aj.ts _ _ _ U,rfl,rfl⟩
  ·rcases n6 with e|e<;>cases e
theorem aa.p0 (aO:bL P Γ) {l:List Oper} {t bG e:TypeId} {x y:Operand} {it cp aB:bJ} {dL bV:Nat} {xs ys:List ad} {own dh:bU} (ao:guardOf ops env o=some true) (ar:o.dst=some d) (aX:Nat.blt d N=true)
  (ag:o.op = .call { callee := .builtin .append,args := #[x,y],argTypes := #[t,bG] }) (aK:Γ.get? t=some it) (bo:it.bz = .aA e) (cS:Γ.get? bG=some cp) (dp:∀ k,cp.bz ≠ .int k)
  (bF:Γ.get? e=some aB) (ab:aJ env x=some (.aA dL xs own)) (ay:aJ env y=some (.aA bV ys dh)) (fI:xs=[]∨dL=aB.size) (cY:ys=[]∨bV=aB.size)
  (dJ:Nat.beq aB.zero.cells.size aB.size=true) (dB:∀ y∈ys,jv aB.size y=true) (an:(xs.length+ys.length)*aB.bytes≤140737488355328) (dY:xs.length+ys.length≤9223372036854775807)
  (n6:own = .nil∨own = .clip) (h:aa P N ops l Q ((d,.aA aB.size (xs++ys) .bd)::env) s):aa P N ops (o::l) Q env s:=
 aa.op ao ar aX (aU.p0 aO ag aK bo cS dp bF ab ay fI cY dJ dB an dY n6 (X:=fun _ _=>False)) (fun x ah ⟨U,ae⟩=>by subst U;subst ae;exact h) (fun _ _ h=>h.elim)
theorem bf.p0 (i:Nat) (aO:bL P Γ) {l:List Oper} {m:Nat} {t bG e:TypeId} {x y:Operand} {it cp aB:bJ} {dL bV:Nat} {xs ys:List ad} {own dh:bU} (az:hJ l.toArray m i=true) (aY:l.toArray[i]? = some o) (ar:o.dst=some d) (aX:Nat.blt d N=true)
  (ao:guardOf l.toArray (bc env (looks l.toArray o)) o=some true)
  (ag:o.op = .call { callee := .builtin .append,args := #[x,y],argTypes := #[t,bG] }) (aK:Γ.get? t=some it) (bo:it.bz = .aA e) (cS:Γ.get? bG=some cp) (dp:∀ k,cp.bz ≠ .int k)
  (bF:Γ.get? e=some aB) (ab:aJ (bc env (looks l.toArray o)) x=some (.aA dL xs own)) (ay:aJ (bc env (looks l.toArray o)) y=some (.aA bV ys dh)) (fI:xs=[]∨dL=aB.size) (cY:ys=[]∨bV=aB.size)
  (dJ:Nat.beq aB.zero.cells.size aB.size=true) (dB:∀ y∈ys,jv aB.size y=true) (an:(xs.length+ys.length)*aB.bytes≤140737488355328) (dY:xs.length+ys.length≤9223372036854775807)
  (n6:own = .nil∨own = .clip) (h:bf P Γ N l.toArray Q (bR (m|||2^i)) ((d,.aA aB.size (xs++ys) .bd)::env) s):bf P Γ N l.toArray Q (bR m) env s:=
 bf.calm az aY ar aX ao (fun _=>aU.p0 aO ag aK bo cS dp bF ab ay fI cY dJ dB an dY n6) h
end
def di:List (Nat×db)→aj→Prop
 | [],_=>True
 | e::K,s=>s e.1=some e.2∧di K s
theorem di.one {b:Nat} {o:db} {s:aj} (h:s b=some o):di [(b,o)] s:=⟨h,trivial⟩
theorem di.two {b aT:Nat} {o o':db} {s:aj} (h:s b=some o) (fs:s aT=some o'):di [(b,o),(aT,o')] s:=⟨h,fs,trivial⟩
theorem di.fst {b:Nat} {o:db} {K:List (Nat×db)} {s:aj} (h:di ((b,o)::K) s):s b=some o:=h.1
theorem di.snd {e:Nat×db} {b:Nat} {o:db} {K:List (Nat×db)} {s:aj} (h:di (e::(b,o)::K) s):s b=some o:=h.2.1
section
variable {J:aj→Prop} {P:Program} {Γ:cg} {N:Nat} {l:List Oper} {Q:b2→Env→aj→Prop} {env:Env} {s:aj} {m:Nat} {L R:a6} {o:Oper} {d:Nat}
theorem bm.mI (i:Nat) (aO:bL P Γ) (dX:J s) {t T:TypeId} {x:Operand} {dm:bJ} {b off:Nat} {cs:List ad} {v:ad} (az:hJ l.toArray m i=true) (ag:l.toArray[i]? = some o) (ar:o.dst=some d) (aX:Nat.blt d N=true)
  (ao:guardOf l.toArray (bc env (looks l.toArray o)) o=some true) (bW:o.op = .load t x) (aK:Γ.get? t=some dm) (ab:aJ (bc env (looks l.toArray o)) x=some (.ptr b off)) (aw:∀ s,J s→s b=some (.box T cs)) (av:gI dm cs off=some v)
  (h:bm J P Γ N l.toArray Q (bR (m|||2^i)) ((d,v)::env) s):bm J P Γ N l.toArray Q (bR m) env s:=
 bm.pY dX az ag ar aX ao (fun s gY=>aU.r8 aO bW aK ab (aw s gY) av) h
theorem bm.p0 (i:Nat) (aO:bL P Γ) (dX:J s) {t bG e:TypeId} {x y:Operand} {it cp aB:bJ} {dL bV:Nat} {xs ys:List ad} {own dh:bU} (az:hJ l.toArray m i=true) (aY:l.toArray[i]? = some o) (ar:o.dst=some d) (aX:Nat.blt d N=true)
  (ao:guardOf l.toArray (bc env (looks l.toArray o)) o=some true)
  (ag:o.op = .call { callee := .builtin .append,args := #[x,y],argTypes := #[t,bG] }) (aK:Γ.get? t=some it) (bo:it.bz = .aA e) (cS:Γ.get? bG=some cp) (dp:∀ k,cp.bz ≠ .int k)
  (bF:Γ.get? e=some aB) (ab:aJ (bc env (looks l.toArray o)) x=some (.aA dL xs own)) (ay:aJ (bc env (looks l.toArray o)) y=some (.aA bV ys dh)) (fI:xs=[]∨dL=aB.size) (cY:ys=[]∨bV=aB.size)
  (dJ:Nat.beq aB.zero.cells.size aB.size=true) (dB:∀ y∈ys,jv aB.size y=true) (an:(xs.length+ys.length)*aB.bytes≤140737488355328) (dY:xs.length+ys.length≤9223372036854775807)
  (n6:own = .nil∨own = .clip) (h:bm J P Γ N l.toArray Q (bR (m|||2^i)) ((d,.aA aB.size (xs++ys) .bd)::env) s):bm J P Γ N l.toArray Q (bR m) env s:=
 bm.pY dX az aY ar aX ao (fun _ _=>aU.p0 aO ag aK bo cS dp bF ab ay fI cY dJ dB an dY n6) h
theorem bm.Dg {i:Nat} (dX:J s) {f:FuncId} {as:Array Operand} {cP:Array TypeId} {xs:List ad} {v:ad} (az:hJ l.toArray m i=true) (ag:l.toArray[i]? = some o) (ar:o.dst=some d) (aX:Nat.blt d N=true)
  (ao:guardOf l.toArray (bc env (looks l.toArray o)) o=some true) (bW:o.op = .call { callee := .value (.func f),args:=as,argTypes:=cP }) (aV:fg (bc env (looks l.toArray o)) as.toList=some xs) (h:a7 P f xs v)
  (k:bm J P Γ N l.toArray Q (bR (m|||2^i)) ((d,v)::env) s):bm J P Γ N l.toArray Q (bR m) env s:=
 bm.pY dX az ag ar aX ao (fun s _=>(aU.call bW (fv := .func f [] []) rfl aV (gM.eP (R:=fun o ah=>o = .ret v∧ah=s) (by simpa using h s))).mono (fun x ah h=>by cases h.1;exact ⟨rfl,h.2⟩) (fun x ah h=>by cases h.1)) k
theorem bm.cF (i:Nat) (aO:bL P Γ) (I:Ok s L) {t T:TypeId} {x y:Operand} {dm:bJ} {b off:Nat} {cs us:List ad} {v:ad} (az:ed l.toArray m (idxs 0 l)=[i]) (ag:l.toArray[i]? = some o) (ar:o.dst=none)
  (ao:guardOf l.toArray (bc env (looks l.toArray o)) o=some true) (bW:o.op = .store t x y) (aK:Γ.get? t=some dm) (ab:aJ (bc env (looks l.toArray o)) x=some (.ptr b off)) (ay:aJ (bc env (looks l.toArray o)) y=some v)
  (av:cellsOf v=some us) (hu:Nat.beq us.length dm.size=true) (U:us.all eN=true) (aw:aP L (.own b) (.box T cs) R) (eU:Nat.ble (off+us.length) cs.length=true)
  (aS:Ok s ((.own b,.box T (eg off us cs))::R)→J (aQ s ((.own b,.box T (eg off us cs))::R))∨jL l.toArray i=true)
  (h:Ok s ((.own b,.box T (eg off us cs))::R)→bm J P Γ N l.toArray Q (bR (m|||2^i)) env (aQ s ((.own b,.box T (eg off us cs))::R))):bm J P Γ N l.toArray Q (bR m) env (aQ s L):=
 bm.vE az ag ar ao (aU.cF aO I bW aK ab ay av hu U aw eU (X:=fun _ _=>False)) (fun x ah ⟨U,ae⟩=>by subst U;exact aS ae) (fun x ah ⟨U,ae⟩=>by subst U;exact h ae) (fun _ _ h=>h.elim)
theorem bm.dE (i:Nat) (aO:bL P Γ) (I:Ok s L) {t:TypeId} {dm:bJ} {z:ad} {cs:List ad} (az:ed l.toArray m (idxs 0 l)=[i]) (ag:l.toArray[i]? = some o) (ar:o.dst=some d)
  (aX:Nat.blt d N=true) (ao:guardOf l.toArray (bc env (looks l.toArray o)) o=some true) (bW:o.op = .alloc t) (aK:Γ.get? t=some dm) (bE:gy dm.zero=some z) (aE:cellsOf z=some cs)
  (aS:∀ b,Ok s ((.own b,.box t cs)::L)→J (aQ s ((.own b,.box t cs)::L))∨jL l.toArray i=true)
  (h:∀ b,Ok s ((.own b,.box t cs)::L)→bm J P Γ N l.toArray Q (bR (m|||2^i)) ((d,.ptr b 0)::env) (aQ s ((.own b,.box t cs)::L))):bm J P Γ N l.toArray Q (bR m) env (aQ s L):=
 bm.one az ag ar aX ao (aU.dE aO I bW aK bE aE (X:=fun _ _=>False)) (fun x ah ⟨b,U,ae,al⟩=>by subst U;subst ae;exact aS b al) (fun x ah ⟨b,U,ae,al⟩=>by subst U;subst ae;exact h b al) (fun _ _ h=>h.elim)
theorem bm.o6 (i:Nat) (aO:bL P Γ) (I:Ok s L) {t bG e:TypeId} {x y:Operand} {it cp aB:bJ} {dL bV sz n n':Nat} {xs ys:List ad} {own dh:bU} (az:ed l.toArray m (idxs 0 l)=[i]) (ag:l.toArray[i]? = some o)
  (ar:o.dst=some d) (aX:Nat.blt d N=true) (ao:guardOf l.toArray (bc env (looks l.toArray o)) o=some true) (bW:o.op = .call { callee := .builtin .append,args := #[x,y],argTypes := #[t,bG] }) (aK:Γ.get? t=some it)
  (bo:it.bz = .aA e) (cS:Γ.get? bG=some cp) (dp:∀ k,cp.bz ≠ .int k) (bF:Γ.get? e=some aB) (ab:aJ (bc env (looks l.toArray o)) x=some (.aA dL xs own)) (ay:aJ (bc env (looks l.toArray o)) y=some (.aA bV ys dh)) (fI:dL=aB.size) (cY:ys=[]∨bV=aB.size)
  (dJ:Nat.beq aB.zero.cells.size aB.size=true) (dB:∀ y∈ys,jv aB.size y=true) (b7:sz=aB.size) (aw:aP L own (.row e sz n) R) (aC:n=xs.length) (gZ:n'=xs.length+ys.length) (an:(xs.length+ys.length)*aB.bytes≤140737488355328) (dY:xs.length+ys.length≤9223372036854775807)
  (aS:∀ cZ,Ok s ((cZ,.row e sz n')::R)→J (aQ s ((cZ,.row e sz n')::R))∨jL l.toArray i=true)
  (h:∀ cZ,Ok s ((cZ,.row e sz n')::R)→bm J P Γ N l.toArray Q (bR (m|||2^i)) ((d,.aA sz (xs++ys) cZ)::env) (aQ s ((cZ,.row e sz n')::R))):bm J P Γ N l.toArray Q (bR m) env (aQ s L):=by
 refine bm.one az ag ar aX ao (aU.o6 aO I bW aK bo cS dp bF ab ay fI cY dJ dB an dY aC gZ b7 aw (X:=fun _ _=>False)) ?_ ?_ (fun _ _ h=>h.elim)
 ·rintro r ah ⟨cZ,-,-,rfl,rfl,al⟩
  exact aS cZ al
 ·rintro r ah ⟨cZ,-,-,rfl,rfl,al⟩
  exact h cZ al
theorem bm.iN (i:Nat) (aO:bL P Γ) (I:Ok s L) {t bG e:TypeId} {x y:Operand} {it cp aB:bJ} {dL bV sz n:Nat} {xs:List ad} {v:ad} {own dh:bU} (az:ed l.toArray m (idxs 0 l)=[i]) (ag:l.toArray[i]? = some o)
  (ar:o.dst=some d) (aX:Nat.blt d N=true) (ao:guardOf l.toArray (bc env (looks l.toArray o)) o=some true) (bW:o.op = .call { callee := .builtin .append,args := #[x,y],argTypes := #[t,bG] }) (aK:Γ.get? t=some it)
  (bo:it.bz = .aA e) (cS:Γ.get? bG=some cp) (dp:∀ k,cp.bz ≠ .int k) (bF:Γ.get? e=some aB) (ab:aJ (bc env (looks l.toArray o)) x=some (.aA dL xs own)) (ay:aJ (bc env (looks l.toArray o)) y=some (.aA bV [v] dh)) (fI:dL=aB.size) (cY:bV=aB.size)
  (dJ:Nat.beq aB.zero.cells.size aB.size=true) (dB:jv aB.size v=true) (b7:sz=aB.size) (aw:aP L own (.row e sz n) R) (aC:n=xs.length) (an:(n+1)*aB.bytes≤140737488355328) (dY:n+1≤9223372036854775807)
  (aS:∀ cZ,Ok s ((cZ,.row e sz (n+1))::R)→J (aQ s ((cZ,.row e sz (n+1))::R))∨jL l.toArray i=true)
  (h:∀ cZ,Ok s ((cZ,.row e sz (n+1))::R)→bm J P Γ N l.toArray Q (bR (m|||2^i)) ((d,.aA sz (xs++[v]) cZ)::env) (aQ s ((cZ,.row e sz (n+1))::R))):bm J P Γ N l.toArray Q (bR m) env (aQ s L):=by
 subst aC;exact bm.o6 i aO I az ag ar aX ao bW aK bo cS dp bF ab ay fI (.inr cY) dJ (by intro y ay;simp at ay;subst ay;exact dB) b7 aw C C an dY aS h
theorem bm.b0 {X3:eb→a6→Prop} {K:a6} {i:Nat} {f:FuncId} {as:Array Operand} {cP:Array TypeId} {xs:List ad} (az:ed l.toArray m (idxs 0 l)=[i]) (ag:l.toArray[i]? = some o) (ar:o.dst=some d) (aX:Nat.blt d N=true)
  (ao:guardOf l.toArray (bc env (looks l.toArray o)) o=some true) (bW:o.op = .call { callee := .value (.func f),args:=as,argTypes:=cP }) (aV:fg (bc env (looks l.toArray o)) as.toList=some xs) (h:bu P f xs K X3) (I:Ok s L) (aw:au L K R)
  (aS:∀ x aL,X3 (.ret x) aL→Ok s (aL++R)→J (aQ s (aL++R))∨jL l.toArray i=true)
  (aD:∀ x aL,X3 (.ret x) aL→Ok s (aL++R)→bm J P Γ N l.toArray Q (bR (m|||2^i)) ((d,x)::env) (aQ s (aL++R))) (ab:∀ x aL,X3 (.panic x) aL→Ok s (aL++R)→Q (.panic x) [] (aQ s (aL++R))):bm J P Γ N l.toArray Q (bR m) env (aQ s L):=
 bm.one az ag ar aX ao (aU.b0 bW aV h I aw) (fun x ah ⟨aL,U,ae,al⟩=>by subst U;exact aS x aL al ae) (fun x ah ⟨aL,U,ae,al⟩=>by subst U;exact aD x aL al ae) (fun x ah ⟨aL,U,ae,al⟩=>by subst U;exact ab x aL al ae)
theorem bm.fO {X3:eb→a6→Prop} {K:a6} {i:Nat} {g:Operand} {fv:ad} {as:Array Operand} {cP:Array TypeId} {xs:List ad} (az:ed l.toArray m (idxs 0 l)=[i]) (ag:l.toArray[i]? = some o) (ar:o.dst=some d) (aX:Nat.blt d N=true)
  (ao:guardOf l.toArray (bc env (looks l.toArray o)) o=some true) (bW:o.op = .call { callee := .value g,args:=as,argTypes:=cP }) (av:aJ (bc env (looks l.toArray o)) g=some fv) (aV:fg (bc env (looks l.toArray o)) as.toList=some xs) (h:c2 P fv xs K X3) (I:Ok s L) (aw:au L K R)
  (aS:∀ x aL,X3 (.ret x) aL→Ok s (aL++R)→J (aQ s (aL++R))∨jL l.toArray i=true)
  (aD:∀ x aL,X3 (.ret x) aL→Ok s (aL++R)→bm J P Γ N l.toArray Q (bR (m|||2^i)) ((d,x)::env) (aQ s (aL++R))) (ab:∀ x aL,X3 (.panic x) aL→Ok s (aL++R)→Q (.panic x) [] (aQ s (aL++R))):bm J P Γ N l.toArray Q (bR m) env (aQ s L):=
 bm.one az ag ar aX ao (aU.fO bW av aV h I aw) (fun x ah ⟨aL,U,ae,al⟩=>by subst U;exact aS x aL al ae) (fun x ah ⟨aL,U,ae,al⟩=>by subst U;exact aD x aL al ae) (fun x ah ⟨aL,U,ae,al⟩=>by subst U;exact ab x aL al ae)
end
section
variable {J:aj→Prop} {P:Program} {Γ:cg} {N:Nat} {ops:Array Oper} {Q:b2→Env→aj→Prop} {env:Env} {s:aj} {o:Oper} {d m:Nat} {L:a6} {l:List Oper}
end
end Go.bj
