import Derived.KernelRfl
import Derived.Test.YtnafpeohfbglmaaGreatVa
import Derived.Laws.IdiomRangeMap
set_option linter.unusedVariables false
set_option linter.unusedSimpArgs false
open Array renaming getElem?_eq_some_iff→t8,getElem?_setIfInBounds→ag9
open Bool renaming and_eq_true→f9
open Go.IntKind renaming wrap→ad5
open List renaming append_nil→d7,cons_append→ad',map_cons→ae2,mem_cons_self→i8,mem_cons→af1,mem_range'_1→ar1
open Nat renaming beq_refl→au2,beq→af2,ble→ao5,blt_eq→an4,blt→aa',eq_of_beq_eq_true→ae0,zero_le→g8
open Go.Result renaming andThen_ok→i5
open Go.Sem renaming runT_eq→au',run_bind→ac',run_pure→ae5
namespace Go.Proofs.YtnafpeohfbglmaaGreat
theorem C5 {p:Prop} (h:p:=by simpa [Nat.blt_eq] using aT):p:=h
theorem ja {p:Prop} (h:p:=by simp [gE,ah]):p:=h
def C6:dC→Bool
 | .ll _ _ _ _=>false
 | _=>true
theorem K8 {w w':World} {p bj:bU} {b:Nat} {o:dC} (a7:C6 o=true) (h:qy w p b o) (hle:dc w p w' bj) (cY:w'.heap[b]? = w.heap[b]?) (aD:∀ x,bj b x→p b x):qy w' bj b o:=by
 cases o with
 | box t c=>obtain ⟨us,g1,g2,g3⟩:=h;exact ⟨us,cY.trans g1,g2.mono hle,fun o ah=>g3 o (aD o ah)⟩
 | row t sz n=>obtain ⟨cur,g1,g2,g3,g4⟩:=h;exact ⟨cur,cY.trans g1,g2,g3,fun o=>⟨fun ah=>(g4 o).1 (aD o ah),fun ah=>hle.lk _ _ ((g4 o).2 ah)⟩⟩
 | map es=>obtain ⟨cN,c,g1,g2,g3⟩:=h;exact ⟨cN,c,cY.trans g1,⟨g2.1.mono hle,g2.2.mono hle⟩,g3⟩
 | ll es it l c=>cases a7
 | tick m=>obtain ⟨dN,a2,a3,g1⟩:=h;exact ⟨dN,a2,a3,cY.trans g1⟩
 | loop r env=>exact ⟨cY.trans h.1,fun t v au=>(h.2 t v au).mono hle⟩
theorem C7 {s ak:al} {w w':World} {p bj:bU} {b:Nat} {o:dC} (an:s b=none) (a7:C6 o=true) (cg:dq w p (s.set b o)) (hle:dc w p w' bj) (aA:Kept s ak w p w' bj) (kZ:dq w' bj ak) :
  ak b=none∧Kept (s.set b o) (ak.set b o) w p w' bj∧dq w' bj (ak.set b o):=by
 have ah:=cg.obj b o (al.gk _ _ _);have aw:=ah.lt;have az:=aA.kR b aw an;refine ⟨az,⟨fun aW dR ar=>?_,fun aW dR ar=>?_,fun aW x dR ar ab=>?_⟩,⟨fun aW o' dR=>?_,kZ.lt⟩⟩
 ·obtain ⟨U,ad⟩:=al.uA ar;exact aA.heap aW dR ad
 ·obtain ⟨U,ad⟩:=al.uA ar;rw [al.fy _ _ U];exact aA.kR aW dR ad
 ·obtain ⟨U,ad⟩:=al.uA ar;exact aA.lk aW x dR ad ab
 ·by_cases e:aW=b
  ·subst e
   rw [al.gk] at dR;cases dR;exact K8 a7 ah hle (aA.heap aW aw an) (fun x ab=>aA.lk aW x aw an ab)
  ·rw [al.fy _ _ e] at dR;exact kZ.obj aW o' dR
theorem hO.frame {P:Program} {fv:af} {args:List af} {s:al} {R:ey→al→Prop} (b:Nat) (o:dC) (an:s b=none) (a7:C6 o=true) (h:hO P fv args s R) :
  hO P fv args (s.set b o) (fun out ak=>∃ s₁,s₁ b=none∧ak=s₁.set b o∧R out s₁):=by
 intro w p v vs cg au eO;refine (h w p v vs (cg.sub (al.vX s b o an)) au eO).mono ?_;rintro e w' ⟨out,ak,bj,U,ad,aj,a',bz⟩;obtain ⟨cF,dj,fe⟩:=C7 an a7 cg aj a' bz;exact ⟨out,ak.set b o,bj,U,⟨ak,cF,rfl,ad⟩,aj,dj,fe⟩
theorem hh.frame {P:Program} {f:FuncId} {args:List af} {s:al} {R:ey→al→Prop} (b:Nat) (o:dC) (an:s b=none) (a7:C6 o=true) (h:hh P f args s R) :
  hh P f args (s.set b o) (fun out ak=>∃ s₁,s₁ b=none∧ak=s₁.set b o∧R out s₁):=by
 refine ⟨h.1,fun w p vs cg eO=>?_⟩;refine (h.2 w p vs (cg.sub (al.vX s b o an)) eO).mono ?_;rintro e w' ⟨out,ak,bj,U,ad,aj,a',bz⟩;obtain ⟨cF,dj,fe⟩:=C7 an a7 cg aj a' bz;exact ⟨out,ak.set b o,bj,U,⟨ak,cF,rfl,ad⟩,aj,dj,fe⟩
theorem hO.drop {P:Program} {fv:af} {args:List af} {s ak:al} {R:ey→al→Prop} (ar:al.Sub ak s) (h:hO P fv args ak R):hO P fv args s R:=by
 intro w p v vs cg au eO;refine (h w p v vs (cg.sub ar) au eO).mono ?_;rintro e w' ⟨out,eN,bj,U,ad,aj,a',bz⟩;exact ⟨out,eN,bj,U,ad,aj,a'.x5 ar,bz⟩
theorem hh.drop {P:Program} {f:FuncId} {args:List af} {s ak:al} {R:ey→al→Prop} (ar:al.Sub ak s) (h:hh P f args ak R):hh P f args s R:=by
 refine ⟨h.1,fun w p vs cg eO=>(h.2 w p vs (cg.sub ar) eO).mono ?_⟩;rintro e w' ⟨out,eN,bj,U,ad,aj,a',bz⟩;exact ⟨out,eN,bj,U,ad,aj,a'.x5 ar,bz⟩
def lU (l:Nat):af := .hC (.func (.yield l) #[] #[])
def Ak:List Tmp→List af→Env→Env
 | t::gl,v::vs,env=>Ak gl vs ((t,v)::env)
 | _,_,env=>env
theorem Tp {N:Nat} {B:fO} {ro:Option Nat} {s:al} {w:World} {p:bU} {cf:List Deferred}:∀ (gl:List Tmp) (us:List Value) (vs:List af) (env:Env) (tmps:Array Value),
  gl.length=us.length→bJ w p us vs→(∀ t∈gl,t<N)→dx N B ro env s { tmps:=tmps,defers:=cf } w p →
  dx N B ro (Ak gl vs env) s { tmps:=(gl.zip us).foldl (fun tmps (t,a)=>tmps.setIfInBounds t a) tmps,defers:=cf } w p:=by
 intro gl
 induction gl with
 | nil=>intro us vs env tmps aE aC _ aJ;exact aJ
 | cons t gl aX=>
  intro us vs env tmps aE aC aT aJ;cases us with
  | nil=>simp at aE
  | cons u us=>
   cases aC with
   | cons _ v _ vs hu aL=>
   simp only [Ak,List.zip_cons_cons,List.foldl_cons];exact aX us vs _ _ (by simpa using aE) aL (fun bK cW=>aT bK (List.mem_cons_of_mem _ cW)) (aJ.put (aT t (i8 ..)) hu)
section
variable {P:Program} {Γ:cy} {N:Nat} {Q:b6→Env→al→Prop} {env:Env} {s:al}
def busy (r:Loop):Loop:={ r with state := .busy }
def qU (r:Loop) (j:Code):Loop:={ r with state := .done,pending:=some j }
theorem Ge {w:World} {p:bU} {s:al} (cg:dq w p s) {l:Nat} {r r':Loop} {env:Env} (ar:s l=some (.loop r env)) (aL:r'.tmps=r.tmps) (w':World) (iK:w'={ w with heap:=w.heap.setIfInBounds l (.loop r') }) :
  dc w p w' p∧Kept s (s.set l (.loop r' env)) w p w' p∧dq w' p (s.set l (.loop r' env)):=by
 subst iK;have U:w.heap[l]? = some (.loop r):=(cg.obj _ _ ar).1;have ad:=(cg.obj _ _ ar).2;have aw:l<w.heap.size:=(t8.1 U).1;have oX:(w.heap.setIfInBounds l (.loop r'))[l]? = some (.loop r'):=by simp [ag9,aw]
 have hW:∀ k,k≠l→(w.heap.setIfInBounds l (.loop r'))[k]? = w.heap[k]? := fun k aA=>by
  rw [ag9,d9 (fun e=>aA e.symm)]
 have hle:dc w p { w with heap:=w.heap.setIfInBounds l (.loop r') } p:=by
  refine ⟨rfl,rfl,rfl,by simp,fun _ _ h=>h,fun b o aD=>?_,fun b x ab=>?_⟩
  ·by_cases e:b=l
   ·subst e;simp only [World.cell?,U,oX]
   ·exact x7 (hW b e)
  ·by_cases e:b=l
   ·subst e;simp [World.kQ,U] at ab
   ·rw [x6 (hW b e)];exact ab
 refine ⟨hle,⟨fun b an az=>hW b (fun e=>by rw [e,ar] at az;simp at az),fun b an az=>?_,fun _ _ _ _ h=>h⟩,⟨fun b o an=>?_,fun b o aD=>by simpa using cg.lt b o aD⟩⟩
 ·rw [al.fy]
  ·exact az
  ·intro e;rw [e,ar] at az;simp at az
 ·by_cases e:b=l
  ·subst e
   rw [al.gk] at an;cases an;exact ⟨oX,fun t v au=>by rw [aL];exact (ad t v au).mono hle⟩
  ·rw [al.fy _ _ e] at an
   have ah:=cg.obj b o an;cases o with
   | ll es it lv c=>exact ah.qz hle (hW b e) (hW it (ah.zJ U ba))
   | _=>exact K8 C ah hle (hW b e) (fun _ h=>h)
def C8 (Rn:al→Prop) (Rj:Code→al→Prop) (Rp:af→al→Prop):b6→Env→al→Prop
 | .normal,_,s=>Rn s
 | .ret,_,s=>Rj .ret s
 | .exit id,_,s=>Rj (.exit id) s
 | .panic v,_,s=>Rp v s
theorem Al {w:World} {l:Nat} {r:Loop} (h:w.heap[l]? = some (.loop r)):(Instr.getLoop l).run P w = .ok r w:=by
 unfold Instr.getLoop;simp only [ac',yb h C,i5,ae5]
theorem Gf {w:World} {r:Nat} {o o':Obj} (h:w.heap[r]? = some o) (aF:CO o=true):(setObj r o').run P w = .ok () { w with heap:=w.heap.setIfInBounds r o' }:=by
 cases o<;>first|(simp [CO] at aF;done)|simp [setObj,Sem.run,h]
theorem Tq {l:Nat} {r:Loop} {fn:Func} {a:Act} (eZ:P.funcs[r.fn]? = some fn) (Tr:r.state = .ready)
  {args:List af} {s₁:al} {Rn:al→Prop} {Rj:Code→al→Prop} {Rp:af→al→Prop}
  (aC:s₁ l=some (.loop r env)) (yj:args.length=r.params.size) (b':r.tmps.size=N) (Ts:∀ t∈r.params.toList,t<N)
  (sU:ae P N r.assign (b6.andThen (ae P N r.body (C8 Rn Rj Rp)) (fun _ _ _=>False)) (Ak r.params.toList args env) (s₁.del l))
  (w:World) (p:bU) (vs:List Value) (cg:dq w p s₁) (eO:bJ w p vs args) :
  pJ P ((do let d ← Deferred.ofValue (.func (.yield l) #[] #[]) vs.toArray;invoke d.target d.args:Sem Next).run P w)
   (we s₁ w p fun o ak=>(o = .ret (.bool true)∧∃ dG,dG l=none∧ak=dG.set l (.loop { busy r with state := .ready,pending:=none } env)∧Rn dG) ∨
    (o = .ret (.bool false)∧∃ j dG,dG l=none∧ak=dG.set l (.loop (qU r j) env)∧Rj j dG) ∨
    (∃ v dG,o = .panic v∧dG l=none∧ak=dG.set l (.loop (busy r) env)∧Rp v dG)):=by
 have U:w.heap[l]? = some (.loop r):=(cg.obj _ _ aC).1;have CX:=(cg.obj _ _ aC).2;have aw:l<w.heap.size:=(t8.1 U).1;have cO:(do let d ← Deferred.ofValue (.func (.yield l) #[] #[]) vs.toArray;invoke d.target d.args:Sem Next).run P w =
   .ok (.round l r.fn ((r.params.zip vs.toArray).foldl (fun tmps (t,a)=>tmps.setIfInBounds t a) r.tmps) r.assign r.body) w:=by
  have aE:vs.length=r.params.size:=by rw [eO.length,yj]
  simp only [Deferred.ofValue,ac',ae5,i5,invoke,Instr.yield,Al U];simp [aE]
 rw [cO];have fX:al.Sub (s₁.del l) s₁:=fun b=>by
  by_cases e:b=l
  ·subst e;exact .inr (al.nw _ _)
  ·exact .inl (al.mO _ e)
 have K9:s₁=(s₁.del l).set l (.loop r env):=by
  funext b;by_cases e:b=l
  ·subst e;rw [al.gk];exact aC
  ·rw [al.fy _ _ e,al.mO _ e]
 have Tt:((r.params.zip vs.toArray).foldl (fun tmps (t,a)=>tmps.setIfInBounds t a) r.tmps)=(r.params.toList.zip vs).foldl (fun tmps (t,a)=>tmps.setIfInBounds t a) r.tmps:=by
  rw [← Array.foldl_toList];simp
 have C9:s₁.del l l=none:=al.nw _ _;have Gg:dx N (0,[]) (some l) env (s₁.del l) { tmps:=r.tmps,defers:=[] } w p:=
  ⟨b',CX,cg.sub fX,⟨[],rfl,by simp,by simp⟩,fun lv pW=>by cases pW;exact ⟨rfl,⟨r,U⟩,C9⟩,g8 _⟩
 have aJ:=Tp r.params.toList vs args env r.tmps (by rw [eO.length,yj,Array.length_toList]) eO Ts Gg;rw [Tt];refine RT eZ fun b h5 iM=>?_
 rw [← h5] at aJ;refine mh (sU b (0,[]) _ w p (by rw [iM,eZ];rfl) aJ) ?_;rintro FD iI w₁ ⟨Cs,oQ,dG,p₁,Tu,C',ln,Da,Gh⟩;cases Tu with
 | exit id=>exact C'.elim
 | ret=>exact C'.elim
 | panic v x dA kT au=>exact C'.elim
 | normal=>
 have lQ:w₁.heap[l]? = some (.loop r):=(Gh.heap l aw C9).trans U;have tj:dG l=none:=Gh.kR l aw C9;have Tv:(Instr.beginRound l).run P w₁ = .ok () { w₁ with heap:=w₁.heap.setIfInBounds l (.loop (busy r)) }:=by
  unfold Instr.beginRound;simp only [ac',Al lQ,i5,Gf lQ C,Tr];rfl
 refine ⟨_,Tv,?_⟩;obtain ⟨f1,f2,f3⟩:=C7 (s:=s₁.del l) (b:=l) (o := .loop r env) C9 rfl (by rw [← K9];exact cg) Da Gh ln.wf;obtain ⟨g1,g2,g3⟩:=Ge (r':=busy r) f3 (al.gk _ _ _) rfl _ rfl;rw [al.set_set] at g2 g3;have kf:({ w₁ with heap:=w₁.heap.setIfInBounds l (.loop (busy r)) }:World).heap[l]? = some (.loop (busy r)):=(g3.obj _ _ (al.gk _ _ _)).1;have Am:dq { w₁ with heap:=w₁.heap.setIfInBounds l (.loop (busy r)) } p₁ dG:=g3.sub (al.vX _ _ _ tj);have wz:dx N (0,[]) b.roundOf oQ dG iI { w₁ with heap:=w₁.heap.setIfInBounds l (.loop (busy r)) } p₁:=by
  refine ⟨ln.size,fun t v au=>(ln.env t v au).mono g1,Am,?_,fun lv pW=>?_,g8 _⟩
  ·obtain ⟨ay,-,-⟩:=ln.round l h5
   exact ⟨[],by simpa [marksOf] using ay,by simp,by simp⟩
  ·rw [h5] at pW;cases pW
   exact ⟨(ln.round l h5).1,⟨_,kf⟩,tj⟩
 refine mh (C' b (0,[]) iI _ p₁ (by rw [iM,eZ];rfl) wz) ?_;rintro e₃ a₃ iJ ⟨x₃,adb,uJ,tk,Tw,Db,K',La,Gi⟩;have cl:l<({ w₁ with heap:=w₁.heap.setIfInBounds l (.loop (busy r)) }:World).heap.size:=(t8.1 kf).1;have mV:iJ.heap[l]? = some (.loop (busy r)):=(Gi.heap l cl tj).trans kf;have uK:uJ l=none:=Gi.kR l cl tj;obtain ⟨cF,dj,fe⟩:=C7 (b:=l) (o := .loop (busy r) env) tj rfl g3 La Gi K'.wf;have Gj:dc w p iJ tk:=(Da.trans g1).trans La;have Lb:Kept s₁ (uJ.set l (.loop (busy r) env)) w p iJ tk:=by
  have cd:Kept s₁ (dG.set l (.loop r env)) w p w₁ p₁:=by rw [K9];exact f2
  exact (cd.trans Da.size g2).trans (Da.trans g1).size dj
 have fin:∀ (jump:Option Code),∃ lL,(Instr.endRound l jump).run P iJ = .ok (.bool jump.isNone) lL ∧
   dc w p lL tk∧Kept s₁ (uJ.set l (.loop { busy r with state:=if jump.isNone then .ready else .done,pending:=jump } env)) w p lL tk∧dq lL tk (uJ.set l (.loop { busy r with state:=if jump.isNone then .ready else .done,pending:=jump } env)):=by
  intro jump;obtain ⟨dT,dh,dJ⟩:=Ge (r':={ busy r with state:=if jump.isNone then .ready else .done,pending:=jump }) fe (al.gk _ _ _) rfl _ rfl;rw [al.set_set] at dh dJ;refine ⟨_,?_,Gj.trans dT,Lb.trans Gj.size dh,dJ⟩;unfold Instr.endRound;simp only [ac',Al mV,i5,Gf mV C,ae5]
 cases Tw with
 | normal=>
  obtain ⟨lL,fr,gx,hv,iY⟩:=fin none;exact ⟨_,lL,fr,.ret (.bool true),_,tk,.bool _,.inl ⟨rfl,uJ,uK,rfl,Db⟩,gx,hv,iY⟩
 | ret=>
  obtain ⟨lL,fr,gx,hv,iY⟩:=fin (some .ret);exact ⟨_,lL,fr,.ret (.bool false),_,tk,.bool _,.inr (.inl ⟨rfl,.ret,uJ,uK,rfl,Db⟩),gx,hv,iY⟩
 | exit id=>
  obtain ⟨lL,fr,gx,hv,iY⟩:=fin (some (.exit id));exact ⟨_,lL,fr,.ret (.bool false),_,tk,.bool _,.inr (.inl ⟨rfl,.exit id,uJ,uK,rfl,Db⟩),gx,hv,iY⟩
 | panic v x dA kT au=>
  refine ⟨(K'.round l h5).1,.panic x,_,tk,⟨v,kT,au⟩,.inr (.inr ⟨x,uJ,rfl,uK,rfl,Db⟩),Gj,Lb,fe⟩
end
section
variable {P:Program} {Γ:cy} {N:Nat} {Q:b6→Env→al→Prop} {env:Env} {s:al}
theorem Tx (b:Frame) (a:Act) (k:List Item) (l:Nat) (v:Value):(b.atR a (.inRangeFunc l::k)).finish v=b.atR a (.endRangeFunc l::k):=by
 simp [Frame.finish,Frame.atR]
theorem Lc {b:Frame} {a:Act} {k:List Item} {cs:List Frame} {w w':World} {l:Nat} {jump:Option Code} (h:(Instr.endLoop l).run P w = .ok jump w') :
  step P (lone (b.atR a (.endRangeFunc l::k)) cs w) = .next (lone (b.atR a ((jump.map Item.code).toList++k)) cs w'):=
 step_lone_go (by simp [stepG,stepG.exec,Frame.atR,au',h,GStep.bare_after])
def Gk (g:Operand) (l:Nat):Call:={ callee := .value g,args := #[.const (.func (.yield l) #[] #[])],argTypes := #[] }
theorem Ty {b:Frame} {a:Act} {k:List Item} {cs:List Frame} {w:World} {g:Operand} {ps:Array Tmp} {hd body:Code} {l:Nat} {mark:List Deferred} {w₁ hJ:World} {f:FuncId} {args:Array Value}
  (he:(Instr.enterLoop b.fn a.tmps ps hd body b.roundOf).run P w = .ok (l,mark) w₁)
  (hinv:(do let d ← resolve a.eval (Gk g l) 0;invoke d.target d.args:Sem Next).run P w₁ = .ok (.enter f args) hJ) :
  step P (lone (b.atR a (.code (.rangeFunc g ps hd body)::k)) cs w) =
   .next (lone (Frame.enter P f args .normal) (b.atR { a with defers:=mark++a.defers } (.inRangeFunc l::k)::cs) hJ):=
 step_lone_go (by
  have n4:=Frame.eval_atR b { a with defers:=mark++a.defers } (.inRangeFunc l::k)
  simp only [Frame.atR] at n4
  have Tz:(do let d ← resolve ({ tmps:=a.tmps,defers:=mark++a.defers }:Act).eval { callee := .value g,args := #[.const (.func (.yield l) #[] #[])],argTypes := #[] } 0;invoke d.target d.args:Sem Next).run P w₁ = .ok (.enter f args) hJ:=hinv
  simp only [stepG,stepG.exec,Frame.atR,au',he,GStep.bare_after,stepG.apply,n4,Tz,ag7,GStep.bare_go])
def TA (l:Nat) (r:Loop) (env:Env) (Rn:al→Prop) (Rj:Code→al→Prop) (Rp:af→al→Prop) (o:ey) (ak:al):Prop:=
 (o = .ret (.bool true)∧∃ dG,dG l=none∧ak=dG.set l (.loop r env)∧Rn dG) ∨
 (o = .ret (.bool false)∧∃ j dG,dG l=none∧ak=dG.set l (.loop (qU r j) env)∧Rj j dG) ∨
 (∃ v dG,o = .panic v∧dG l=none∧ak=dG.set l (.loop (busy r) env)∧Rp v dG)
def TB (P:Program) (N:Nat) (Q:b6→Env→al→Prop) (env:Env) (l:Nat) (r:Loop) (o:ey) (ak:al):Prop:=
 match o with
 | .ret _=>(∃ dG,dG l=none∧ak=dG.set l (.loop r env)∧Q .normal env dG)∨(∃ j dG,dG l=none∧ak=dG.set l (.loop (qU r j) env)∧ae P N j Q env dG)
 | .panic v=>∃ dG o',dG l=none∧ak=dG.set l o'∧Q (.panic v) env dG
theorem ae.Ld {g:Operand} {ps:Array Tmp} {hd body:Code} {f:FuncId} {first cap:List af} (av:aK env g=some (.func f first cap)) (aT:∀ t∈ps.toList,t<N)
    (h:∀ (l:Nat) (r:Loop),s l=none →
      (∀ args s₁ Rn Rj Rp,s₁ l=some (.loop r env)→args.length=ps.size →
        ae P N hd (b6.andThen (ae P N body (C8 Rn Rj Rp)) (fun _ _ _=>False)) (Ak ps.toList args env) (s₁.del l) →
        hO P (lU l) args s₁ (TA l r env Rn Rj Rp)) →
      hh P f (first++([lU l]++cap)) (s.set l (.loop r env)) (TB P N Q env l r)):ae P N (.rangeFunc g ps hd body) Q env s:=by
  intro b B a w p eZ aJ k cs;obtain ⟨fn,TC⟩:=Option.isSome_iff_exists.1 eZ;have TD:∃ (l D:Nat) (mark:List Deferred) (w₁:World),(Instr.enterLoop b.fn a.tmps ps hd body b.roundOf).run P w = .ok (l,mark) w₁ ∧
      w₁.heap[l]? = some (.loop { state := .ready,pending:=none,fn:=b.fn,tmps:=a.tmps,params:=ps,assign:=hd,body,defers:=D })∧w.heap.size≤l∧l<w₁.heap.size ∧
      (∀ x,x<w.heap.size→w₁.heap[x]? = w.heap[x]?)∧w₁.os=w.os∧w₁.tape=w.tape∧w₁.output=w.output∧w.heap.size≤w₁.heap.size ∧
      ((mark=[]∧b.roundOf≠none)∨(b.roundOf=none∧mark=marksOf [w.heap.size]∧w₁.heap[w.heap.size]? = some (.deferred (some []))∧l≠w.heap.size)):=by
    cases uL:b.roundOf with
    | none=>
      refine ⟨w.heap.size+1,w.heap.size,_,(w.alloc (.deferred (some []))).alloc (.loop { state := .ready,pending:=none,fn:=b.fn,tmps:=a.tmps,params:=ps,assign:=hd,body,defers:=w.heap.size }),?_,?_,by omega,by simp,?_,rfl,rfl,rfl,by simp;omega,.inr ⟨rfl,rfl,?_,by omega⟩⟩
      · unfold Instr.enterLoop
        simp [World.alloc_eq,marksOf]
      · have:=uu (w.alloc (.deferred (some []))) (.loop { state := .ready,pending:=none,fn:=b.fn,tmps:=a.tmps,params:=ps,assign:=hd,body,defers:=w.heap.size })
        simpa using this
      · intro x ab;rw [ml _ _ _ cP,ml _ _ _ ab]
      · rw [ml _ _ _ ba];exact uu w _
    | some TE=>
      obtain ⟨-,⟨Le,TF⟩,-⟩:=aJ.round TE uL;refine ⟨w.heap.size,Le.defers,[],w.alloc (.loop { state := .ready,pending:=none,fn:=b.fn,tmps:=a.tmps,params:=ps,assign:=hd,body,defers:=Le.defers }),?_,uu w _,Nat.le_refl _,by simp,fun x ab=>ml w _ x ab,rfl,rfl,rfl,by simp,.inl ⟨rfl,by simp⟩⟩;unfold Instr.enterLoop;simp only [ac',Al TF,i5,ae5,run_newObj];rfl
  obtain ⟨l,D,mark,w₁,TG,lQ,df,ade,hold,TH,rX,pX,b',Lf⟩:=TD;have yk:s l=none:=by
    cases ar:s l with
    | none=>rfl
    | some o=>exact absurd (aJ.wf.obj _ _ ar).lt ag
  generalize aC:({ state := .ready,pending:=none,fn:=b.fn,tmps:=a.tmps,params:=ps,assign:=hd,body,defers:=D }:Loop)=r at lQ;have wA:dc w p w₁ p:=dc.of_heap TH rX pX b' (fun _ _ h=>h) aJ.wf.lt hold;have TI:dq w₁ p (s.set l (.loop r env)):=by
    have av:=aJ.wf.grow wA hold (fun _ _ _ h=>h) (fun b o aD=>by have:=aJ.wf.lt b o aD;omega);refine ⟨fun aW o an=>?_,av.lt⟩;by_cases e:aW=l
    · subst e
      rw [al.gk] at an;cases an;refine ⟨lQ,fun t v au=>?_⟩;have:r.tmps=a.tmps:=by rw [← aC]
      rw [this];exact (aJ.env t v au).mono wA
    · rw [al.fy _ _ e] at an;exact av.obj aW o an
  have lO:Kept s (s.set l (.loop r env)) w p w₁ p:=⟨fun x ab _=>hold x ab,fun x ab az=>by rw [al.fy _ _ ag];exact az,fun _ _ _ _ h=>h⟩;obtain ⟨TJ,cX⟩:=h l r yk fun args s₁ Rn Rj Rp k0 yj sU w' bj v vs kZ au eO=>by
    have Ko:v = .func (.yield l) #[] #[]:=by
      cases au with
      | hC=>rfl
    subst Ko;have:=Tq (a:=a) (P:=P) (N:=N) (env:=env) (r:=r) (fn:=fn) (by rw [← aC];exact TC) (by rw [← aC]) k0 (by rw [← aC];exact yj) (by rw [← aC];exact aJ.size)
      (by rw [← aC];exact aT) (Rn:=Rn) (Rj:=Rj) (Rp:=Rp) (by rw [← aC];exact sU) w' bj vs kZ eO
    have Dc:{ busy r with state:=LoopState.ready,pending:=none }=r:=by rw [← aC];rfl
    rw [Dc] at this;exact this
  have mq:=aJ.aK av;generalize Dd:a.eval g=aec at mq;cases mq with
  | func _ as cs' _ _ aR aF=>
  have hinv:(do let d ← resolve a.eval (Gk g l) 0;invoke d.target d.args:Sem Next).run P w₁ = .ok (.enter f (as ++ #[.func (.yield l) #[] #[]]++cs')) w₁:=by
    simp only [resolve,Gk,Dd,Deferred.ofValue,ac',ae5,i5,invoke];have:(#[Operand.const (.func (.yield l) #[] #[])].map a.eval) = #[.func (.yield l) #[] #[]]:=by simp [Act.eval]
    rw [this];exact TJ _ _
  have wB:=Ty (k:=k) (cs:=cs) TG hinv;have cj:=cX w₁ p (as.toList++([.func (.yield l) #[] #[]]++cs'.toList)) TI ((aR.mono wA).append (bJ.append (.cons _ _ _ _ (.hC _) .nil) (aF.mono wA)));have yj:(as.toList++([Value.func (.yield l) #[] #[]]++cs'.toList)).toArray=as ++ #[.func (.yield l) #[] #[]]++cs':=by apply Array.ext';simp
  rw [yj] at cj;obtain ⟨e,hJ,hf,⟨h4,out,ak,ji,qD,dB,ye,hL,Am⟩,sS,Gl,zI⟩:=cj (b.atR { a with defers:=mark++a.defers } (.inRangeFunc l::k)::cs);have wz:∀ dG o',dG l=none→ak=dG.set l o'→∀ iJ,dc hJ ji iJ ji→Kept ak ak hJ ji iJ ji→dq iJ ji dG→(∀ x,x≠l→iJ.heap[x]? = hJ.heap[x]?) →
      dx N B b.roundOf env dG { a with defers:=mark++a.defers } iJ ji∧dc w p iJ ji∧Kept s dG w p iJ ji:=by
    intro dG o' az hF iJ TK s6 Gm TL;have bM:dc w p iJ ji:=(wA.trans ye).trans TK;have qV:=(lO.trans wA.size hL).trans (wA.trans ye).size s6;have fX:al.Sub dG ak:=by rw [hF];exact al.vX _ _ _ az
    have bf:Kept s dG w p iJ ji:=qV.sub fX;refine ⟨⟨aJ.size,fun t v au=>(aJ.env t v au).mono bM,Gm,?_,fun lv pW=>?_,Nat.le_trans aJ.base bM.size⟩,bM,bf⟩
    · obtain ⟨cf,d1,d2,d3⟩:=aJ.defs
      rcases Lf with ⟨rfl,-⟩|⟨uL,rfl,dP,Lg⟩
      · refine ⟨cf,by simpa using d1,d2,fun d ay=>?_⟩
        obtain ⟨cI,nn,kz⟩:=d3 d ay;have aw:d<w.heap.size:=(t8.1 nn).1;exact ⟨cI,(bf.heap d aw kz).trans nn,bf.kR d aw kz⟩
      · have Lh:(s.set l (.loop r env)) w.heap.size=none:=by
          rw [al.fy _ _ (Ne.symm Lg)];cases ar:s w.heap.size with
          | none=>rfl
          | some o=>exact absurd (aJ.wf.obj _ _ ar).lt ag
        have Li:w.heap.size<w₁.heap.size:=(t8.1 dP).1;have TM:iJ.heap[w.heap.size]? = some (.deferred (some [])):=by
          rw [TL _ (Ne.symm Lg),hL.heap _ Li Lh];exact dP
        have TN:dG w.heap.size=none:=fX.none (hL.kR _ Li Lh);refine ⟨w.heap.size::cf,by simp [marksOf,d1],List.nodup_cons.2 ⟨fun hm=>?_,d2⟩,fun d ay=>?_⟩
        · have:=(t8.1 (d3 _ hm).2.1).1;omega
        · rcases af1.1 ay with rfl|ay
          · exact ⟨aJ.base,TM,TN⟩
          · obtain ⟨cI,nn,kz⟩:=d3 d ay
            have aw:d<w.heap.size:=(t8.1 nn).1;exact ⟨cI,(bf.heap d aw kz).trans nn,bf.kR d aw kz⟩
    · obtain ⟨U,⟨r',ad⟩,aj⟩:=aJ.round lv pW
      have aw:lv<w.heap.size:=(t8.1 ad).1;refine ⟨?_,⟨r',(bf.heap lv aw aj).trans ad⟩,bf.kR lv aw aj⟩;rcases Lf with ⟨rfl,-⟩|⟨uL,-⟩
      · exact U
      · rw [uL] at pW;cases pW
  have uq:∀ dG (r':Loop),dG l=none→ak=dG.set l (.loop r' env)→(r'.state == .busy)=false→∃ iJ,(Instr.endLoop l).run P hJ = .ok r'.pending iJ ∧
      dx N B b.roundOf env dG { a with defers:=mark++a.defers } iJ ji∧dc w p iJ ji∧Kept s dG w p iJ ji:=by
    intro dG r' az hF dR;have Lj:ak l=some (.loop r' env):=by rw [hF];exact al.gk _ _ _
    have eY:hJ.heap[l]? = some (.loop r'):=(Am.obj _ _ Lj).1;obtain ⟨dT,dh,dJ⟩:=Ge (r':={ r' with state := .exhausted }) Am Lj rfl _ rfl;have s6:Kept ak ak hJ ji { hJ with heap:=hJ.heap.setIfInBounds l (.loop { r' with state := .exhausted }) } ji:=by
      refine ⟨dh.heap,fun x ab az=>az,dh.lk⟩
    have Gm:dq { hJ with heap:=hJ.heap.setIfInBounds l (.loop { r' with state := .exhausted }) } ji dG:=by
      refine dJ.sub ?_;rw [hF,al.set_set];exact al.vX _ _ _ az
    refine ⟨_,?_,wz dG _ az hF _ dT s6 Gm (fun x ab=>by
      show (hJ.heap.setIfInBounds l _)[x]? = _
      rw [ag9,d9 (fun e=>ab e.symm)])⟩
    unfold Instr.endLoop;simp only [ac',Al eY,i5,dR,Bool.false_eq_true,ah9,Gf eY C,ae5]
  cases e with
  | outgrown=>exact absurd C h4
  | returned v=>
    cases out with
    | panic x=>exact qD.elim
    | ret x=>
    have yf:Steps P (lone (b.atR a (.code (.rangeFunc g ps hd body)::k)) cs w) (lone (b.atR { a with defers:=mark++a.defers } (.endRangeFunc l::k)) cs hJ):=by
      refine .head wB (Steps.trans sS (.one ?_));rw [← Tx _ _ _ _ v];exact step_leave_returned zI
    rcases dB with ⟨dG,az,hF,bk⟩|⟨j,dG,az,hF,bk⟩
    · obtain ⟨iJ,De,An,bM,bf⟩:=uq dG r az hF (by rw [← aC];rfl)
      have aD:r.pending=none:=by rw [← aC]
      rw [aD] at De;exact ⟨.normal,_,iJ,⟨.normal,env,dG,ji,.normal,bk,An,bM,bf⟩,Steps.trans yf (.one (by simpa using Lc (k:=k) De))⟩
    · obtain ⟨iJ,De,An,bM,bf⟩:=uq dG (qU r j) az hF rfl
      obtain ⟨e',c8,lL,uo,fW⟩:=bk b B _ iJ ji eZ An k cs;exact ⟨e',c8,lL,kr.after bM bf uo,.of_steps (Steps.trans yf (.one (by simpa [qU] using Lc (k:=k) De))) fW⟩
  | panicked dA=>
    cases out with
    | ret x=>exact qD.elim
    | panic x=>
    obtain ⟨v,kT,au⟩:=qD;obtain ⟨dG,o',az,hF,bk⟩:=dB;obtain ⟨An,bM,bf⟩:=wz dG o' az hF hJ (.refl _ _) (.refl _ _ _) (Am.sub (by rw [hF];exact al.vX _ _ _ az)) (fun _ _=>rfl);refine ⟨.panic dA,_,hJ,⟨.panic x,env,dG,ji,.panic v x _ kT au,bk,An,bM,bf⟩,.inRangeFunc l::k,.head wB (Steps.trans sS (.one ?_))⟩;rw [← Frame.raise_atR];exact step_leave_panicked zI
end
theorem lM.nil {w:World} {p:bU}:lM w p [] []:=⟨.nil,.nil⟩
theorem lM.length {w:World} {p:bU} {cN:List MapEntry} {es:List (af×af)} (h:lM w p cN es):cN.length=es.length:=by simpa using h.1.length
theorem lM.split {w:World} {p:bU}:∀ {a b:List MapEntry} {e:MapEntry} {es:List (af×af)},lM w p (a++e::b) es →
  ∃ l₁ k v l₂,es=l₁++(k,v)::l₂∧Rel w p e.key k∧Rel w p e.val v∧lM w p (a++b) (l₁++l₂):=by
 intro a
 induction a with
 | nil=>
  intro b e es h;cases es with
  | nil=>have:=h.length;simp at this
  | cons x es=>
   obtain ⟨k,v⟩:=x;obtain ⟨U,ad⟩:=h;simp only [List.nil_append,ae2] at U ad;cases U with|cons _ _ _ _ cF t1=>cases ad with|cons _ _ _ _ dj t2=>
   exact ⟨[],k,v,es,rfl,cF,dj,t1,t2⟩
 | cons x a aX=>
  intro b e es h;cases es with
  | nil=>have:=h.length;simp at this
  | cons y es=>
   obtain ⟨KQ,v0⟩:=y;obtain ⟨U,ad⟩:=h;simp only [ad',ae2] at U ad;cases U with|cons _ _ _ _ cF t1=>cases ad with|cons _ _ _ _ dj t2=>
   obtain ⟨l₁,k,v,l₂,rfl,cd,b1,ek,j8⟩:=aX (b:=b) (e:=e) (es:=es) ⟨t1,t2⟩;exact ⟨(KQ,v0)::l₁,k,v,l₂,rfl,cd,b1,.cons _ _ _ _ cF ek,.cons _ _ _ _ dj j8⟩
section
variable {P:Program} {Γ:cy} {N:Nat} {env:Env} {s:al}
end
inductive cR:List af→List af→Prop
 | nil:cR [] []
 | cons {x y:af} {xs ys:List af} (h:aU x y) (t:cR xs ys):cR (x::xs) (y::ys)
theorem cR.rel {w:World} {p:bU} {xs ys:List af} (h:cR xs ys):∀ {vs:List Value},bJ w p vs xs→bJ w p vs ys:=by
 induction h with
 | nil=>exact fun h=>h
 | cons h _ aX=>intro vs au;cases au with|cons _ _ _ _ U ad=>exact .cons _ _ _ _ (h _ _ _ U) (aX ad)
theorem cR.refl:∀ xs:List af,cR xs xs
 | [] => .nil
 | _::xs => .cons (aU.refl _) (cR.refl xs)
theorem cR.length {xs ys:List af} (h:cR xs ys):xs.length=ys.length:=by
 induction h with
 | nil=>rfl
 | cons _ _ aX=>simp [aX]
theorem cR.append {a b c d:List af} (h:cR a b) (k:cR c d):cR (a++c) (b++d):=by
 induction h with
 | nil=>exact k
 | cons h _ aX=>exact .cons h aX
theorem aU.trans {x y z:af} (h:aU x y) (k:aU y z):aU x z:=fun w p v au=>k w p v (h w p v au)
theorem aU.agg {xs ys:List af} (h:cR xs ys):aU (.agg xs) (.agg ys):=fun w p v au=>by cases au with|agg cs _ aE=>exact .agg _ _ (h.rel aE)
theorem aU.cu {xs ys:List af} (h:cR xs ys):aU (.cu xs) (.cu ys):=fun w p v au=>by cases au with|cu cs _ aE=>exact .cu _ _ (h.rel aE)
theorem aU.iface {t:TypeId} {x y:af} (h:aU x y):aU (.iface t x) (.iface t y):=fun w p v au=>by cases au with|iface _ _ _ aE=>exact .iface _ _ _ (h _ _ _ aE)
theorem aU.br {xs ys:List af} {o:Nat} (h:cR xs ys):aU (.br xs o) (.br ys o):=fun w p v au=>by
 cases au with|br b base uy off vs _ ah aF aC=>exact .br b base uy o vs ys ah aF (h.rel aC)
theorem aU.func {f:FuncId} {xs ys us vs:List af} (h:cR xs ys) (k:cR us vs):aU (.func f xs us) (.func f ys vs):=fun w p v au=>by
 cases au with|func _ as cs _ _ aR aF=>exact .func _ _ _ _ _ (h.rel aR) (k.rel aF)
theorem aU.aB {sz:Nat} {xs ys:List af} {own:bQ} (h:cR xs ys):aU (.aB sz xs own) (.aB sz ys .bc):=fun w p v au=>by
 cases au with
 | hV=>cases h;exact .hV _ _ ba
 | ir a=>cases h;exact .ir a _ _ (.inl C)
 | aB g off n cap _ vs _ _ az aE aF aC ar hm aA cj ah=>exact .aB g off n cap sz vs ys .bc ba (aE.trans h.length) aF (h.rel aC) ar hm aA ba ba
theorem aU.bc {sz:Nat} {xs:List af} {own:bQ}:aU (.aB sz xs own) (.aB sz xs .bc):=aU.aB (cR.refl _)
theorem aU.nil {sz sz':Nat} {own:bQ} (ah:∀ b,own ≠ .own b):aU (.aB sz [] .nil) (.aB sz' [] own):=fun w p v au=>by
 cases au with
 | hV=>exact .hV _ _ ah
 | ir _ _ _ h=>rcases h with h|h<;>cases h
 | aB g off n cap _ vs _ _ az=>exact absurd C az
theorem aU.empty {sz sz':Nat} {own:bQ}:aU (.aB sz [] own) (.aB sz' [] .bc):=fun w p v au=>by
 cases au with
 | hV=>exact .hV _ _ ba
 | ir a=>exact .ir a _ _ (.inl C)
 | aB g off n cap _ vs _ _ az aE aF aC ar hm aA cj ah=>
  have:vs=[]:=List.eq_nil_of_length_eq_zero (by rw [aC.length];rfl);subst this;exact .aB g off n cap sz' [] [] .bc ba aE aF .nil ba hm aA ba ba
theorem aU.any (x:af):aU x .any:=fun _ _ v _ => .any v
section
variable {P:Program} {Γ:cy} {N:Nat} {ops:Array Oper} {Q:b6→Env→al→Prop} {env:Env} {s:al} {l:List Oper} {o:Oper} {d:Nat}
theorem aa.nD {l:List Oper} (t:Nat) {v:af} (fx:af) (au:env.get? t=some v) (he:aU v fx) (h:aa P N ops l Q ((t,fx)::env) s):aa P N ops l Q env s:=by
 intro k aA ro B a w p aJ
 exact h k aA ro B a w p ⟨aJ.size,fun u x ab=>by
  simp only [Env.get?] at ab
  split at ab
  ·rename_i an;have:=ae0 an;subst this;cases ab;exact he _ _ _ (aJ.env _ _ au)
  ·exact aJ.env u x ab,aJ.wf,aJ.defs,aJ.round,aJ.base⟩
theorem ae.nD {c:Code} (t:Nat) {v:af} (fx:af) (au:env.get? t=some v) (he:aU v fx) (h:ae P N c Q ((t,fx)::env) s):ae P N c Q env s:=by
 intro b B a w p eZ aJ
 exact h b B a w p eZ ⟨aJ.size,fun u x ab=>by
  simp only [Env.get?] at ab
  split at ab
  ·rename_i an;have:=ae0 an;subst this;cases ab;exact he _ _ _ (aJ.env _ _ au)
  ·exact aJ.env u x ab,aJ.wf,aJ.defs,aJ.round,aJ.base⟩
theorem aa.alloc (aQ:bO P Γ) {t:TypeId} {i:bN} {z:af} {cs:List af} (av:guardOf ops env o=some true) (ay:o.dst=some d) (aT:aa' d N=true) (ah:o.op = .alloc t) (aL:Γ.get? t=some i)
  (bE:hD i.zero=some z) (aF:cellsOf z=some cs) (h:∀ b,s b=none→aa P N ops l Q ((d,.ptr b 0)::env) (s.set b (.box t cs))):aa P N ops (o::l) Q env s:=
 aa.op av ay aT (a6.alloc aQ ah aL bE aF (X:=fun _ _=>False)) (fun x ak ⟨b,U,ad,aj⟩=>by subst ad;subst aj;exact h b U) (fun _ _ h=>h.elim)
theorem aa.uB (aQ:bO P Γ) {t T:TypeId} {x:Operand} {i:bN} {b off:Nat} {cs:List af} {v:af} (av:guardOf ops env o=some true) (ay:o.dst=some d) (aT:aa' d N=true) (ah:o.op = .load t x)
  (aL:Γ.get? t=some i) (ab:aK env x=some (.ptr b off)) (ar:s b=some (.box T cs)) (au:hK i cs off=some v) (h:aa P N ops l Q ((d,v)::env) s):aa P N ops (o::l) Q env s:=
 aa.op av ay aT (a6.uB aQ ah aL ab ar au (X:=fun _ _=>False)) (fun x ak ⟨U,ad⟩=>by subst U;subst ad;exact h) (fun _ _ h=>h.elim)
theorem aa.CL (aQ:bO P Γ) {t T:TypeId} {x y:Operand} {i:bN} {b off:Nat} {cs us:List af} {v:af} (av:guardOf ops env o=some true) (ay:o.dst=none) (ah:o.op = .store t x y)
  (aL:Γ.get? t=some i) (ab:aK env x=some (.ptr b off)) (ax:aK env y=some v) (au:cellsOf v=some us) (hu:af2 us.length i.size=true) (U:us.all e7=true) (ar:s b=some (.box T cs))
  (fz:ao5 (off+us.length) cs.length=true) (h:aa P N ops l Q env (s.set b (.box T (eS off us cs)))):aa P N ops (o::l) Q env s:=
 aa.vP av ay (a6.CL aQ ah aL ab ax au hu U ar fz (X:=fun _ _=>False)) (fun x ak U=>by subst U;exact h) (fun _ _ h=>h.elim)
theorem aa.lookup (aQ:bO P Γ) {t dS e0:TypeId} {x y:Operand} {ok:Bool} {it gI aG:bN} {m:Nat} {es:List (af×af)} {k z:af} {r:Option af} (av:guardOf ops env o=some true) (ay:o.dst=some d) (aT:aa' d N=true)
  (ah:o.op = .lookup t x y ok) (aL:Γ.get? t=some it) (bq:it.bH = .map dS e0) (jk:Γ.get? dS=some gI) (bL:Γ.get? e0=some aG) (ab:aK env x=some (.map m)) (ax:aK env y=some k) (ar:s m=some (.map es))
  (a7:j' gI.bH k=true) (aC:iX es k=some r) (bE:hD aG.zero=some z) (h:aa P N ops l Q ((d,lS ok z r)::env) s):aa P N ops (o::l) Q env s:=
 aa.op av ay aT (a6.lookup aQ ah aL bq jk bL ab ax (.inl ⟨m,rfl,ar⟩) a7 aC bE (X:=fun _ _=>False)) (fun x ak ⟨U,ad⟩=>by subst U;subst ad;exact h) (fun _ _ h=>h.elim)
theorem aa.mapUpdate (aQ:bO P Γ) {t dS e0:TypeId} {x y z:Operand} {it gI:bN} {b:Nat} {es du:List (af×af)} {k v:af} (av:guardOf ops env o=some true) (ay:o.dst=none)
  (ah:o.op = .mapUpdate t x y z∨o.op = .insert t x y z) (aL:Γ.get? t=some it) (bq:it.bH = .map dS e0) (jk:Γ.get? dS=some gI) (ab:aK env x=some (.map b)) (ax:aK env y=some k) (bE:aK env z=some v)
  (ar:s b=some (.map es)) (a7:j' gI.bH k=true) (aD:lR es k v=some du) (h:aa P N ops l Q env (s.set b (.map du))):aa P N ops (o::l) Q env s:=
 aa.vP av ay (a6.mapUpdate aQ ah aL bq jk ab ax bE ar a7 aD (X:=fun _ _=>False)) (fun x ak U=>by subst U;exact h) (fun _ _ h=>h.elim)
theorem aa.makeMap {t:TypeId} (av:guardOf ops env o=some true) (ay:o.dst=some d) (aT:aa' d N=true) (ah:o.op = .makeMap t none)
  (h:∀ b,s b=none→aa P N ops l Q ((d,.map b)::env) (s.set b (.map []))):aa P N ops (o::l) Q env s:=
 aa.op av ay aT (a6.makeMap ah (X:=fun _ _=>False)) (fun x ak ⟨b,U,ad,aj⟩=>by subst ad;subst aj;exact h b U) (fun _ _ h=>h.elim)
theorem aa.invoke {g:Operand} {name:String} {as:Array Operand} {c3:Array TypeId} {t:TypeId} {v:af} {f:FuncId} {xs:List af} {R:ey→al→Prop} (av:guardOf ops env o=some true) (ay:o.dst=some d) (aT:aa' d N=true)
  (ah:o.op = .call { callee := .invoke g name,args:=as,argTypes:=c3 }) (au:aK env g=some (.iface t v)) (aR:fP env as.toList=some xs) (hm:pS P t name f) (h:hh P f (v::xs) s R)
  (aA:∀ x ak,R (.ret x) ak→aa P N ops l Q ((d,x)::env) ak) (ab:∀ x ak,R (.panic x) ak→Q (.panic x) env ak):aa P N ops (o::l) Q env s:=
 aa.op av ay aT (a6.invoke ah au aR hm h) aA ab
theorem aa.panic {x:Operand} {t:TypeId} {v:af} (av:guardOf ops env o=some true) (ay:o.dst=none) (ah:o.op = .panic x) (ab:aK env x=some (.iface t v)) (h:Q (.panic (.iface t v)) env s) :
  aa P N ops (o::l) Q env s:=
 aa.vP av ay (a6.panic ah ab (K:=fun _ _=>False)) (fun x ak h=>h.elim) (fun x ak ⟨U,ad⟩=>by subst U;subst ad;exact h)
end
section
variable {P:Program} {Γ:cy} {N:Nat} {l:List Oper} {Q:b6→Env→al→Prop} {env:Env} {s:al} {m:Nat}
theorem bm.pure {J:al→Prop} (cL:J s) (i:Nat) {o:Oper} {d:Nat} {v:af} (aC:iy l.toArray m i=true) (ah:l.toArray[i]? = some o) (ay:o.dst=some d) (aT:aa' d N=true)
  (av:c4 l env o) (au:lT Γ o (b2 l env o) v) (h:bm J P Γ N l.toArray Q (bX (m|||2^i)) ((d,v)::env) s) :
  bm J P Γ N l.toArray Q (bX m) env s:=
 bm.still cL i o d v (ti.1 aC) ah ay C5 (.inl ⟨av,au⟩) (by rw [o2];exact h)
theorem bd.pure (i:Nat) {o:Oper} {d:Nat} {v:af} (aC:iy l.toArray m i=true) (ah:l.toArray[i]? = some o) (ay:o.dst=some d) (aT:aa' d N=true)
  (av:c4 l env o) (au:lT Γ o (b2 l env o) v) (h:bd P Γ N l.toArray Q (bX (m|||2^i)) ((d,v)::env) s) :
  bd P Γ N l.toArray Q (bX m) env s:=bm.pure trivial i aC ah ay aT av au h
theorem bm.idx {J:al→Prop} (cL:J s) (i:Nat) {o:Oper} {d:Nat} {t e:TypeId} {x y:Operand} {it aG:bN} {sz:Nat} {xs:List af} {own:bQ} {k:IntKind} {n:Int} {v:af} {cs:List af} (j:Nat) (aC:iy l.toArray m i=true) (ah:l.toArray[i]? = some o)
  (ay:o.dst=some d) (aT:aa' d N=true) (av:c4 l env o) (bY:o.op = .indexAddr t x y) (aL:Γ.get? t=some it) (bq:it.bH = .aB e) (bL:Γ.get? e=some aG)
  (ab:aK (b2 l env o) x=some (.aB sz xs own)) (b':sz=aG.size) (ax:aK (b2 l env o) y=some (.int k n)) (eR:n=(j:Int)) (aH:xs[j]? = some v) (aF:cellsOf v=some cs)
  (h:bm J P Γ N l.toArray Q (bX (m|||2^i)) ((d,.br cs 0)::env) s):bm J P Γ N l.toArray Q (bX m) env s:=
 bm.pure cL i aC ah ay aT av (.idx j bY aL bq bL ab b' ax eR aH aF) h
theorem bd.idx (i:Nat) {o:Oper} {d:Nat} {t e:TypeId} {x y:Operand} {it aG:bN} {sz:Nat} {xs:List af} {own:bQ} {k:IntKind} {n:Int} {v:af} {cs:List af} (j:Nat) (aC:iy l.toArray m i=true) (ah:l.toArray[i]? = some o)
  (ay:o.dst=some d) (aT:aa' d N=true) (av:c4 l env o) (bY:o.op = .indexAddr t x y) (aL:Γ.get? t=some it) (bq:it.bH = .aB e) (bL:Γ.get? e=some aG)
  (ab:aK (b2 l env o) x=some (.aB sz xs own)) (b':sz=aG.size) (ax:aK (b2 l env o) y=some (.int k n)) (eR:n=(j:Int)) (aH:xs[j]? = some v) (aF:cellsOf v=some cs)
  (h:bd P Γ N l.toArray Q (bX (m|||2^i)) ((d,.br cs 0)::env) s):bd P Γ N l.toArray Q (bX m) env s:=
 bd.pure i aC ah ay aT av (.idx j bY aL bq bL ab b' ax eR aH aF) h
theorem bd.slice (i:Nat) {o:Oper} {d:Nat} {t e:TypeId} {x:Operand} {en aN jm:Option Operand} {it aG:bN} {sz:Nat} {xs:List af} {own cS:bQ} (a b:Nat) (aC:iy l.toArray m i=true) (ah:l.toArray[i]? = some o)
  (ay:o.dst=some d) (aT:aa' d N=true) (av:c4 l env o) (bY:o.op = .slice t x en aN jm)
  (aL:Γ.get? t=some it) (bq:it.bH = .aB e) (bL:Γ.get? e=some aG) (ab:aK (b2 l env o) x=some (.aB sz xs own)) (b':xs=[]∨sz=aG.size)
  (iL:(en=none∧a=0)∨∃ y k,en=some y∧aK (b2 l env o) y=some (.int k (a:Int))) (qK:(aN=none∧jm=none∧b=xs.length)∨∃ y k,aN=some y∧aK (b2 l env o) y=some (.int k (b:Int)))
  (nz:(jm=none∧cS = .bc)∨(∃ y k,jm=some y∧aK (b2 l env o) y=some (.int k (b:Int))∧cS = .clip)) (aE:a≤b) (cY:b≤xs.length)
  (h:bd P Γ N l.toArray Q (bX (m|||2^i)) ((d,.aB sz ((xs.take b).drop a) cS)::env) s):bd P Γ N l.toArray Q (bX m) env s:=
 bd.pure i aC ah ay aT av (.slice a b bY aL bq bL ab b' iL qK nz aE cY) h
theorem bd.call {i:Nat} {o:Oper} {d:Nat} {f:FuncId} {as:Array Operand} {c3:Array TypeId} {xs:List af} {R:ey→al→Prop} (aC:eK l.toArray m (idxs 0 l)=[i]) (ah:l.toArray[i]? = some o) (ay:o.dst=some d) (aT:aa' d N=true)
  (av:c4 l env o) (bY:o.op = .call { callee := .value (.func f),args:=as,argTypes:=c3 }) (aR:fP (b2 l env o) as.toList=some xs) (h:hh P f xs s R)
  (aA:∀ x ak,R (.ret x) ak→bd P Γ N l.toArray Q (bX (m|||2^i)) ((d,x)::env) ak) (ab:∀ x ak,R (.panic x) ak→Q (.panic x) [] ak):bd P Γ N l.toArray Q (bX m) env s:=
 bd.one aC ah ay aT av (a6.call bY (fv := .func f [] []) C aR (hO.fk fV)) aA ab
theorem bd.KX {i:Nat} {o:Oper} {d:Nat} {f:FuncId} {as:Array Operand} {c3:Array TypeId} {xs:List af} {v:af} (aC:eK l.toArray m (idxs 0 l)=[i]) (ah:l.toArray[i]? = some o) (ay:o.dst=some d) (aT:aa' d N=true)
  (av:c4 l env o) (bY:o.op = .call { callee := .value (.func f),args:=as,argTypes:=c3 }) (aR:fP (b2 l env o) as.toList=some xs)
  (h:hh P f xs s (fun out ak=>out = .ret v∧ak=s)) (aA:bd P Γ N l.toArray Q (bX (m|||2^i)) ((d,v)::env) s):bd P Γ N l.toArray Q (bX m) env s:=
 bd.call aC ah ay aT av bY aR h (fun x ak ⟨U,ad⟩=>by cases U;subst ad;exact aA) (fun x ak ⟨U,_⟩=>by cases U)
end
section
variable {P:Program} {Γ:cy} {N:Nat} {l:List Oper} {Q:b6→Env→al→Prop} {env:Env} {s:al} {m:Nat}
theorem bd.F6 {i:Nat} {o:Oper} {d:Nat} {g:Operand} {fv:af} {as:Array Operand} {c3:Array TypeId} {xs:List af} {R:ey→al→Prop} (aC:eK l.toArray m (idxs 0 l)=[i]) (ah:l.toArray[i]? = some o) (ay:o.dst=some d)
  (aT:aa' d N=true) (av:c4 l env o) (bY:o.op = .call { callee := .value g,args:=as,argTypes:=c3 }) (au:aK (b2 l env o) g=some fv)
  (aR:fP (b2 l env o) as.toList=some xs) (h:hO P fv xs s R)
  (aA:∀ x ak,R (.ret x) ak→bd P Γ N l.toArray Q (bX (m|||2^i)) ((d,x)::env) ak) (ab:∀ x ak,R (.panic x) ak→Q (.panic x) [] ak):bd P Γ N l.toArray Q (bX m) env s:=
 bd.one aC ah ay aT av (a6.call bY au aR h) aA ab
theorem bd.two {i j:Nat} {o u:Oper} {d c:Nat} {K X aP np:af→al→Prop} (aC:eK l.toArray m (idxs 0 l)=[i,j]) (ah:l.toArray[i]? = some o) (hu:l.toArray[j]? = some u) (ay:o.dst=some d) (aF:u.dst=some c)
  (aT:aa' d N=true) (pV:aa' c N=true) (cE:af2 i j=false)
  (av:c4 l env o) (n8:guardOf l.toArray (ix env (looks l.toArray u)) u=some true)
  (h:a6 P N o (b2 l env o) s K X) (eL:a6 P N u (ix env (looks l.toArray u)) s aP np)
  (aA:∀ x ak,K x ak→bd P Γ N l.toArray Q (bX (m|||2^i)) ((d,x)::env) ak) (eF:∀ x ak,aP x ak→bd P Γ N l.toArray Q (bX (m|||2^j)) ((c,x)::env) ak)
  (ab:∀ x ak,X x ak→Q (.panic x) [] ak) (bP:∀ x ak,np x ak→Q (.panic x) [] ak):bd P Γ N l.toArray Q (bX m) env s:=by
 have Gn:i≠j:=fun e=>by subst e;rw [au2] at cE;cases cE
 have fo:∀ k,hi l.toArray (bX m) k→k=i∨k=j:=fun k aA=>by
  have:=Aj aA (l:=idxs 0 l) (by rw [yh,ar1];have:=aA.1;simp at this;omega);rw [aC] at this;simpa using this
 have aw:i<l.toArray.size:=(t8.1 ah).1;have o3:bX m i=false:=by
  cases an:bX m i with
  | false=>rfl
  | true=>
   have gm:i∈eK l.toArray m (idxs 0 l):=by rw [aC];exact i8 ..
   have:∀ is,i∈eK l.toArray m is→iy l.toArray m i=true:=by
    intro is
    induction is with
    | nil=>intro h;cases h
    | cons j is aX=>
     intro h;simp only [eK] at h;split at h
     ·rename_i an
      rcases af1.1 h with rfl|h
      ·exact an
      ·exact aX h
     ·exact aX h
   have:=(ti.1 (this _ gm)).2.1;rw [an] at this;cases this
 refine bm.split (fun k=>if k=i then K else aP) (fun k=>if k=i then X else np) ⟨i,aw,o3⟩ (fun k o' kx cC=>?_) (fun _ _ _ _ _ _ _ => .inl trivial) (fun k o' c2 kx cC cq x ak bf=>?_) (fun k o' kx cC cq x ak bf=>?_) (fun k o' kx cC x ak iu=>?_)
 ·rcases fo k kx with rfl|rfl
  ·rw [ah] at cC;cases cC
   simp only [ag7];exact ⟨av,h,fun c2 cq=>by rw [ay] at cq;cases cq;simpa [an4] using aT⟩
  ·rw [hu] at cC;cases cC
   simp only [d9 (Ne.symm Gn)];exact ⟨n8,eL,fun c2 cq=>by rw [aF] at cq;cases cq;simpa [an4] using pV⟩
 ·rcases fo k kx with rfl|rfl
  ·rw [ah] at cC;cases cC
   rw [ay] at cq;cases cq;simp only [ag7] at bf;rw [o2];exact aA x ak bf
  ·rw [hu] at cC;cases cC
   rw [aF] at cq;cases cq;simp only [d9 (Ne.symm Gn)] at bf;rw [o2];exact eF x ak bf
 ·rcases fo k kx with rfl|rfl
  ·rw [ah] at cC;cases cC
   rw [ay] at cq;cases cq
  ·rw [hu] at cC;cases cC
   rw [aF] at cq;cases cq
 ·rcases fo k kx with rfl|rfl
  ·simp only [ag7] at iu;exact ab x ak iu
  ·simp only [d9 (Ne.symm Gn)] at iu;exact bP x ak iu
end
theorem TO {P:Program} {ops:Array Oper} {Q:gZ→Act→World→Prop} (l₂:List Nat):∀ (l₁:List Nat) (a:Act) (w:World),
  iW P ops (gZ.andThen (iW P ops Q l₂) Q) l₁ a w→iW P ops Q (l₁++l₂) a w:=by
 intro l₁
 induction l₁ with
 | nil=>intro a w h;exact h
 | cons i r aX=>
  intro a w h;simp only [ad',iW] at h ⊢;split at h
  ·exact aX _ _ h
  ·rename_i o ah
   split at h
   ·rename_i hw
    rw [g6 hw];refine ⟨h.1,h.2.mono ?_⟩;intro e w' he;cases e with
    | returned v=>exact aX _ _ he
    | panicked dA=>exact he
    | outgrown=>exact he
   ·rename_i hw
    rw [d9 hw];exact aX _ _ h
section
variable {P:Program} {Γ:cy} {N:Nat} {ops:Array Oper} {Q:b6→Env→al→Prop} {env:Env} {s:al} {l:List Oper} {o:Oper} {d:Nat}
theorem aa.cut (n:Nat) (Lk:Env) (wC:aa P N ops (l.take n) (fun x e ak=>x = .normal∧Env.Sub Lk e∧ak=s) env s) (wD:aa P N ops (l.drop n) Q Lk s):aa P N ops l Q env s:=by
 intro k aA ro B a w p aJ;have hlen:l.length=(l.take n).length+(l.drop n).length:=by rw [← List.length_append,List.take_append_drop]
 rw [hlen,← List.range'_append_1];refine TO _ _ _ _ (vO ?_ _ _ _ (wC k (fun j x aH=>aA j x ?_) ro B a w p aJ))
 ·rintro e c8 w' ⟨x,eX,ak,bj,ab,⟨rfl,eB,rfl⟩,hM,hle,lN⟩
  cases ab;refine fI.after hle lN ?_ (hM.sub eB);refine wD _ (fun j x aH=>?_);rw [List.getElem?_drop] at aH;have aw:=(List.getElem?_eq_some_iff.1 aH).1;rw [List.length_take,Nat.min_eq_left ag,Nat.add_assoc];exact aA _ x aH
 ·rw [List.getElem?_take] at aH
  split at aH
  ·exact aH
  ·cases aH
def Ll (ops:Array Oper) (o:Oper):Option Nat:=match o.guard with
  | some (j,_)=>match ops[j]? with
    | some u=>u.dst
    | none=>none
  | none=>none
theorem aa.same (b:Bool) (av:guardOf ops env o=some b) (h:aa P N ops (o::l) Q env s):aa P N ops (o::l) Q env s:=h
theorem aa.hG {t:Nat} {b:Bool} (ar:Ll ops o=some t) (au:env.get? t=some (.bool b)) (eo:b=true→aa P N ops (o::l) Q ((t,.bool true)::env) s)
  (k1:b=false→aa P N ops (o::l) Q ((t,.bool false)::env) s):aa P N ops (o::l) Q env s:=by
 cases b with
 | true=>exact aa.C3 t au C (eo C)
 | false=>exact aa.C3 t au C (k1 C)
end
def Lm (P:Program) (t:TypeId) (name:String) (f:FuncId):Bool:=
  match P.info? t,P.underlying t with
  | some i,some d=>(match i.methods.find? (·.name==name) with
    | some m=>m.path.isEmpty&&(match m.func with|some (mW,b)=>af2 mW f && !b|none=>false)
    | none=>false)&&(match d with | .pointer _=>false|_=>true)&&aa' 0 (P.types.size+Made.depth)
  | _,_=>false
theorem Df {P:Program} {t:TypeId} {name:String} {f:FuncId} (h:Lm P t name f=true):pS P t name f:=by
 unfold Lm at h;split at h
 ·rename_i i d aN ay
  simp only [f9] at h;obtain ⟨⟨U,ad⟩,aj⟩:=h;split at U
  ·rename_i m hm
   simp only [f9] at U;obtain ⟨a',bz⟩:=U;split at bz
   ·rename_i mW b a7
    simp only [f9] at bz;have cd:=ae0 bz.1;have b1:b=false:=by simpa using bz.2
    subst cd;subst b1;refine SL aN hm (by simpa [Array.isEmpty] using a') a7 ay (fun e he=>by subst he;cases ad) ?_;have:0<P.types.size+Made.depth:=by simpa [an4] using aj
    exact ⟨P.types.size+Made.depth-1,by omega⟩
   ·cases bz
  ·cases U
 ·cases h
def rowOf (s:al) (e:TypeId) (sz n:Nat):bQ→al
 | .own b=>s.set b (.row e sz n)
 | _=>s
def qW (s:al) (n:Nat):bQ→Prop
 | .own b=>s b=none
 | .nil=>True
 | .clip=>True
 | .bc=>False
section
variable {P:Program} {Γ:cy} {N:Nat} {env:Env} {s:al}
theorem a6.TP {o:Oper} {K X aP np:af→al→Prop} (h:a6 P N o env s K X) (bf:∀ x ak,K x ak→∃ eN,al.Sub eN ak∧aP x eN) (iu:∀ x ak,X x ak→∃ eN,al.Sub eN ak∧np x eN):a6 P N o env s aP np:=by
 refine ⟨h.1,fun ro B a w p aJ=>(h.2 ro B a w p aJ).mono ?_⟩;rintro e w' ⟨ak,bj,U,ad,aj,a'⟩;cases e with
 | returned v=>
  obtain ⟨x,aA,aC⟩:=a';obtain ⟨eN,ar,eF⟩:=bf x ak aA;exact ⟨eN,bj,U,ad.sub ar,aj.sub ar,x,eF,aC⟩
 | panicked dA=>
  obtain ⟨v,x,kT,aA,aC⟩:=a';obtain ⟨eN,ar,eF⟩:=iu x ak aA;exact ⟨eN,bj,U,ad.sub ar,aj.sub ar,v,x,kT,eF,aC⟩
 | outgrown=>exact a'.elim
theorem a6.Gp (aQ:bO P Γ) {o:Oper} {t bK e:TypeId} {x y:Operand} {it cx aG:bN} {dU bV n:Nat} {xs ys:List af} {own dm:bQ}
  (ah:o.op = .call { callee := .builtin .append,args := #[x,y],argTypes := #[t,bK] }) (aL:Γ.get? t=some it) (bq:it.bH = .aB e) (cW:Γ.get? bK=some cx) (dr:∀ k,cx.bH ≠ .int k)
  (bL:Γ.get? e=some aG) (ab:aK env x=some (.aB dU xs own)) (ax:aK env y=some (.aB bV ys dm)) (hX:dU=aG.size) (c6:ys=[]∨bV=aG.size)
  (dO:af2 aG.zero.cells.size aG.size=true) (dH:∀ y∈ys,kd aG.size y=true) (an:(xs.length+ys.length)*aG.bytes≤140737488355328) (ed:xs.length+ys.length≤9223372036854775807)
  (az:n=xs.length) (I:qW s n own) {X:af→al→Prop} :
  a6 P N o env (rowOf s e aG.size n own) (fun r ak=>∃ cS,qW s (xs.length+ys.length) cS∧(ys≠[]→∃ b,cS = .own b)∧(∀ b,own = .own b→∃ aW,cS = .own aW)∧r = .aB aG.size (xs++ys) cS∧ak=rowOf s e aG.size (xs.length+ys.length) cS) X:=by
 subst az;have jn:∀ b,own = .own b→rowOf s e aG.size xs.length own b=some (.row e aG.size xs.length):=fun b h=>by subst h;exact al.gk _ _ _
 have pY:(own = .nil∨own = .clip)∨∃ b,own = .own b∧dU=aG.size∧rowOf s e aG.size xs.length own b=some (.row e aG.size xs.length):=by
  cases own with
  | nil=>exact .inl (.inl C)
  | clip=>exact .inl (.inr C)
  | bc=>exact I.elim
  | own b=>exact .inr ⟨b,rfl,hX,jn b C⟩
 have h:=a6.append (P:=P) (N:=N) (X:=X) aQ ah aL bq cW dr bL ab ax (.inr hX) c6 dO dH an ed pY;refine h.TP ?_ (fun _ ak h=>⟨ak,al.oU _,h⟩);rintro r ak (⟨rfl,aF,rfl,rfl⟩|⟨s₁,wc,b,U,rfl,rfl⟩)
 ·refine ⟨_,al.oU _,own,?_,fun h=>absurd C h,fun b h=>⟨b,h⟩,by rw [d7],?_⟩
  ·rcases aF with rfl|rfl<;>trivial
  ·rcases aF with rfl|rfl<;>rfl
 ·rcases wc with rfl|⟨aW,rfl,rfl⟩
  ·cases own with
   | nil=>exact ⟨_,al.oU _,.own b,U,fun _=>⟨b,rfl⟩,fun _ h=>nX,rfl,rfl⟩
   | clip=>exact ⟨_,al.oU _,.own b,U,fun _=>⟨b,rfl⟩,fun _ h=>nX,rfl,rfl⟩
   | bc=>exact I.elim
   | own aW=>
    obtain ⟨dT,dh⟩:=al.uA U;refine ⟨s.set b (.row e aG.size (xs.length+ys.length)),fun x=>?_,.own b,dh,fun _=>⟨b,rfl⟩,fun _ _=>⟨b,rfl⟩,rfl,rfl⟩;by_cases cd:x=b
    ·subst cd;left;rw [al.gk,al.gk]
    ·by_cases b1:x=aW
     ·subst b1;right;rw [al.fy _ _ cd];exact I
     ·left;rw [al.fy _ _ cd,al.fy _ _ cd];exact (al.fy _ _ b1).symm
  ·have ay:(rowOf s e aG.size xs.length (.own aW)).del aW=s:=al.zV _ _ _ I
   rw [ay] at U ⊢;exact ⟨_,al.oU _,.own b,U,fun _=>⟨b,rfl⟩,fun _ _=>⟨b,rfl⟩,rfl,rfl⟩
end
section
variable {P:Program} {Γ:cy} {N:Nat} {ops:Array Oper} {Q:b6→Env→al→Prop} {env:Env} {s:al} {l:List Oper} {o:Oper} {d:Nat}
end
section
variable {Q:b6→Env→al→Prop} {next:Env→al→Prop} {env:Env} {s:al}
theorem lV {id:Nat} (h:Q (.exit id) env s):b6.andThen next Q (.exit id) env s:=h
theorem fQ (h:Q .ret env s):b6.andThen next Q .ret env s:=h
theorem fA {id:Nat} (h:Q .normal env s):b6.inBlock id Q .normal env s:=h
theorem hj {id:Nat} (h:Q .ret env s):b6.inBlock id Q .ret env s:=h
theorem lW {id:Nat} (h:Q .normal env s):b6.inBlock id Q (.exit id) env s:=by
 show (if af2 id id then Q .normal env s else Q (.exit id) env s);rw [au2];exact h
theorem nE {id kO:Nat} (az:af2 kO id=false) (h:Q (.exit kO) env s):b6.inBlock id Q (.exit kO) env s:=by
 show (if af2 kO id then Q .normal env s else Q (.exit kO) env s);rw [az];exact h
end
theorem aU.of_eq {x y:af} (h:x=y):aU x y:=h ▸ aU.refl x
theorem ee {n:Int} (bu : -9223372036854775808≤n) (U:n≤9223372036854775807):ad5 .i64 n=n:=by
 unfold ad5 IntKind.bits IntKind.signed;simp;omega
theorem iN {n:Nat} (h:n<9223372036854775807):ad5 .i64 ((n:Int)+1)=((n+1:Nat):Int):=by
 rw [ee ag ag];omega
section
variable {P:Program} {Γ:cy} {N:Nat} {ops:Array Oper} {Q:b6→Env→al→Prop} {env:Env} {s:al} {l:List Oper} {o:Oper} {d:Nat}
theorem aa.congr (e:Env) (he:∀ t,e.get? t=env.get? t) (h:aa P N ops l Q e s):aa P N ops l Q env s:=
 fun k aA ro B a w p aJ=>h k aA ro B a w p ⟨aJ.size,fun t v au=>aJ.env t v ((he t).symm.trans au),aJ.wf,aJ.defs,aJ.round,aJ.base⟩
theorem ae.congr {c:Code} (e:Env) (he:∀ t,e.get? t=env.get? t) (h:ae P N c Q e s):ae P N c Q env s:=
 fun b B a w p eZ aJ=>h b B a w p eZ ⟨aJ.size,fun t v au=>aJ.env t v ((he t).symm.trans au),aJ.wf,aJ.defs,aJ.round,aJ.base⟩
theorem TQ (e:Env) (d:Nat) (x y:af):∀ t,Env.get? ((d,x)::e) t=Env.get? ((d,x)::(d,y)::e) t:=by
 intro t;simp only [Env.get?];split<;>rfl
theorem TR (e:Env) {c d:Nat} (x y:af) (h:af2 c d=false):∀ t,Env.get? ((d,y)::(c,x)::e) t=Env.get? ((c,x)::(d,y)::e) t:=by
 intro t;simp only [Env.get?];cases U:af2 d t<;>cases ad:af2 c t<;>simp
 have:=ae0 U;have:=ae0 ad;subst_vars;rw [au2] at h;cases h
theorem aa.yl (aQ:bO P Γ) {o':Oper} {t:TypeId} {i:bN} {z v:af} {aZ us:List af} {y:Operand} (av:guardOf ops env o=some true) (ay:o.dst=some d) (aT:aa' d N=true) (ah:o.op = .alloc t) (aL:Γ.get? t=some i)
  (bE:hD i.zero=some z) (aF:cellsOf z=some aZ) (n8:∀ b,guardOf ops ((d,.ptr b 0)::env) o'=some true) (cq:o'.dst=none) (cC:o'.op = .store t (.tmp d) y)
  (ax:∀ b,aK ((d,.ptr b 0)::env) y=some v) (au:cellsOf v=some us) (hu:af2 us.length i.size=true) (U:us.all e7=true) (fz:af2 us.length aZ.length=true)
  (h:aa P N ops l Q ((d,.br us 0)::env) s):aa P N ops (o::o'::l) Q env s:=by
 refine aa.alloc aQ av ay aT ah aL bE aF (fun b an=>?_);have aE:=ae0 fz;have TS:aK ((d,.ptr b 0)::env) (.tmp d)=some (.ptr b 0):=by simp [aK,Env.get?]
 refine aa.CL aQ (n8 b) cq cC aL TS (ax b) au hu U (al.gk _ _ _) (Nat.ble_eq_true_of_le ag) ?_;rw [al.set_set];refine aa.freeze d b (by simp [Env.get?]) (al.gk _ _ _) ?_;rw [al.zV _ _ _ an];have he:eS 0 us aZ=us:=by rw [KH _ _ _ ag];simp [List.drop_eq_nil_of_le,aE]
 rw [he];exact aa.congr _ (TQ _ _ _ _) h
end
section
variable {P:Program} {Γ:cy} {N:Nat} {l:List Oper} {Q:b6→Env→al→Prop} {env:Env} {s:al} {m:Nat}
theorem bd.TT {σ:Type} (f:σ→af) (g:σ→al) (aen:σ→Prop) {Gq:σ→Prop} (aQ:bO P Γ) {i j:Nat} {o u:Oper} {d c:Nat} {t T:TypeId} {x:Operand} {dX:bN} {b off:Nat} {cs:List af} {v:af} {aP np:af→al→Prop}
  (aC:eK l.toArray m (idxs 0 l)=[i,j]) (TU:eK l.toArray (m|||2^i) (idxs 0 l)=[j])
  (ah:l.toArray[i]? = some o) (hu:l.toArray[j]? = some u) (ay:o.dst=some d) (aF:u.dst=some c) (aT:aa' d N=true) (pV:aa' c N=true) (cE:af2 i j=false)
  (bY:o.op = .load t x) (aL:Γ.get? t=some dX) (ab:aK (b2 l env o) x=some (.ptr b off)) (ar:s b=some (.box T cs)) (au:hK dX cs off=some v)
  (av:c4 l env o) (n8:guardOf l.toArray (ix env (looks l.toArray u)) u=some true)
  (cd:ix ((d,v)::env) (looks l.toArray u)=ix env (looks l.toArray u))
  (eL:a6 P N u (ix env (looks l.toArray u)) s aP np)
  (bf:∀ y ak,aP y ak→∃ z,aen z∧y=f z∧ak=g z)
  (h7:∀ z,aen z→Gq z→bd P Γ N l.toArray Q (bX (m|||2^i|||2^j)) ((c,f z)::(d,v)::env) (g z))
  (cI:∀ z,aen z→Gq z→bd P Γ N l.toArray Q (bX (m|||2^j)) ((c,f z)::env) (g z))
  (aA:∀ z,aen z→Gq z) (bP:∀ y ak,np y ak→Q (.panic y) [] ak):bd P Γ N l.toArray Q (bX m) env s:=by
 refine bd.two (X:=fun _ _=>False) aC ah hu ay aF aT pV cE av n8 (a6.uB aQ bY aL ab ar au) eL ?_ ?_ (fun _ _ h=>h.elim) bP
 ·rintro y ak ⟨rfl,rfl⟩
  refine bd.one TU hu aF pV (by rw [← cd] at n8;exact n8) (by rw [← cd] at eL;exact eL) (fun y ak ax=>?_) bP;obtain ⟨z,bE,rfl,rfl⟩:=bf y ak ax;exact h7 z bE (aA z bE)
 ·intro y ak ax
  obtain ⟨z,bE,rfl,rfl⟩:=bf y ak ax;exact cI z bE (aA z bE)
end
theorem dq.qX {w:World} {p:bU} {s:al} (h:dq w p s) {b:Nat} {T:TypeId} {cs cs':List af} (ar:s b=some (.box T cs)) (aF:cR cs cs'):dq w p (s.set b (.box T cs')):=by
 refine ⟨fun x o ab=>?_,h.lt⟩;by_cases e:x=b
 ·subst e
  rw [al.gk] at ab;cases ab;obtain ⟨vs,U,ad,aj⟩:=h.obj _ _ ar;exact ⟨vs,U,aF.rel ad,aj⟩
 ·rw [al.fy _ _ e] at ab;exact h.obj x o ab
theorem al.ym {s:al} {b:Nat} {o o':dC} (ar:s b=some o) (x:Nat):(s.set b o') x=none↔s x=none:=by
 by_cases e:x=b
 ·subst e;rw [al.gk,ar];simp
 ·rw [al.fy _ _ e]
theorem dx.qX {N:Nat} {B:fO} {ro:Option Nat} {env:Env} {s:al} {a:Act} {w:World} {p:bU} (h:dx N B ro env s a w p) {b:Nat} {T:TypeId} {cs cs':List af} (ar:s b=some (.box T cs)) (aF:cR cs cs') :
  dx N B ro env (s.set b (.box T cs')) a w p:=by
 obtain ⟨cf,U,ad,aj⟩:=h.defs
 exact ⟨h.size,h.env,h.wf.qX ar aF,⟨cf,U,ad,fun d ay=>let ⟨a,b,c⟩:=aj d ay;⟨a,b,(al.ym ar d).2 c⟩⟩,
  fun l aE=>let ⟨a,b,c⟩:=h.round l aE;⟨a,b,(al.ym ar l).2 c⟩,h.base⟩
theorem Kept.qX {s eN:al} {w w':World} {p bj:bU} {b:Nat} {o o':dC} (ar:s b=some o) (h:Kept (s.set b o') eN w p w' bj):Kept s eN w p w' bj :=
 ⟨fun x ab az=>h.heap x ab ((al.ym ar x).2 az),fun x ab az=>h.kR x ab ((al.ym ar x).2 az),fun x o ab az=>h.lk x o ab ((al.ym ar x).2 az)⟩
theorem ae.qX {P:Program} {N:Nat} {Q:b6→Env→al→Prop} {env:Env} {s:al} {c:Code} (b:Nat) {T:TypeId} {cs:List af} (cs':List af) (ar:s b=some (.box T cs)) (aF:cR cs cs')
  (h:ae P N c Q env (s.set b (.box T cs'))):ae P N c Q env s:=
 fun hf B a w p eZ aJ=>mh (h hf B a w p eZ (aJ.qX ar aF)) fun _ _ _ ⟨x,eX,eN,bj,U,ad,aj,a',bz⟩=>⟨x,eX,eN,bj,U,ad,aj,a',bz.qX ar⟩
theorem aa.qX {P:Program} {N:Nat} {ops:Array Oper} {l:List Oper} {Q:b6→Env→al→Prop} {env:Env} {s:al} (b:Nat) {T:TypeId} {cs:List af} (cs':List af) (ar:s b=some (.box T cs)) (aF:cR cs cs')
  (h:aa P N ops l Q env (s.set b (.box T cs'))):aa P N ops l Q env s:=
 fun k aA ro B a w p aJ=>vO (fun _ _ _ ⟨x,eX,eN,bj,U,ad,aj,a',bz⟩=>⟨x,eX,eN,bj,U,ad,aj,a',bz.qX ar⟩) _ a w (h k aA ro B a w p (aJ.qX ar aF))
theorem cR.one {x y:af} (h:aU x y):cR [x] [y] := .cons h .nil
theorem cR.last {x y:af} (h:aU x y):∀ (l:List af),cR (l++[x]) (l++[y])
 | [] => .one h
 | z::l => .cons (aU.refl z) (cR.last h l)
theorem al.set_comm (s:al) {b c:Nat} (o o':dC) (h:b≠c):(s.set b o).set c o'=(s.set c o').set b o:=by
 funext x;simp only [al.set];split<;>split<;>simp_all
theorem qW.ne {s:al} {n b:Nat} {own:bQ} {o:dC} (I:qW s n own) (h:s b=some o):∀ aW,own = .own aW→aW≠b:=by
 rintro aW rfl e;subst e;simp only [qW] at I;rw [I] at h;cases h
theorem qW.set {s:al} {n m b:Nat} {own:bQ} {o o':dC} (I:qW s n own) (h:s b=some o):qW (s.set b o') m own:=by
 cases own with
 | own aW=>exact (al.ym h aW).2 I
 | nil=>trivial
 | clip=>trivial
 | bc=>exact I
section
variable {P:Program} {Γ:cy} {N:Nat} {l:List Oper} {Q:b6→Env→al→Prop} {env:Env} {s:al} {m:Nat}
end
theorem al.TV {s t:al} {b:Nat} {o:dC} (h:al.Sub s t) (an:s b=none):al.Sub s (t.set b o):=fun x=>by
 by_cases e:x=b
 ·subst e;exact .inr an
 ·rw [al.fy _ _ e];exact h x
section
variable {P:Program} {Γ:cy} {N:Nat} {l:List Oper} {Q:b6→Env→al→Prop} {env:Env} {s:al} {m:Nat}
theorem bm.rY {J:al→Prop} (cL:J s) {i:Nat} {o:Oper} {d:Nat} {v:af} (aC:iy l.toArray m i=true) (ah:l.toArray[i]? = some o) (ay:o.dst=some d) (aT:aa' d N=true)
  (av:c4 l env o) (au:∀ s,J s→a6 P N o (b2 l env o) s (fun x ak=>x=v∧ak=s) (fun _ _=>False))
  (h:bm J P Γ N l.toArray Q (bX (m|||2^i)) ((d,v)::env) s):bm J P Γ N l.toArray Q (bX m) env s:=by
 have U:=ti.1 aC;refine bm.still cL i o d v U ah ay C5 (.inr (.inr ⟨av,au⟩)) ?_;rw [o2];exact h
theorem bd.calm {i:Nat} {o:Oper} {d:Nat} {v:af} (aC:iy l.toArray m i=true) (ah:l.toArray[i]? = some o) (ay:o.dst=some d) (aT:aa' d N=true)
  (av:c4 l env o) (au:∀ s,a6 P N o (b2 l env o) s (fun x ak=>x=v∧ak=s) (fun _ _=>False))
  (h:bd P Γ N l.toArray Q (bX (m|||2^i)) ((d,v)::env) s):bd P Γ N l.toArray Q (bX m) env s:=
 bm.rY trivial aC ah ay aT av (fun s _=>au s) h
theorem bd.TW {i:Nat} {o:Oper} {d:Nat} {f:FuncId} {as:Array Operand} {c3:Array TypeId} {xs:List af} {v:af} (aC:iy l.toArray m i=true) (ah:l.toArray[i]? = some o) (ay:o.dst=some d) (aT:aa' d N=true)
  (av:c4 l env o) (bY:o.op = .call { callee := .value (.func f),args:=as,argTypes:=c3 }) (aR:fP (b2 l env o) as.toList=some xs)
  (aF:∀ s,hh P f xs s (fun o ak=>o = .ret v∧ak=s))
  (h:bd P Γ N l.toArray Q (bX (m|||2^i)) ((d,v)::env) s):bd P Γ N l.toArray Q (bX m) env s:=
 bd.calm aC ah ay aT av (fun s=>(a6.call bY (fv := .func f [] []) rfl aR (hO.fk (R:=fun o ak=>o = .ret v∧ak=s) (by simpa using aF s))).mono (fun x ak h=>by cases h.1;exact ⟨rfl,h.2⟩) (fun x ak h=>by cases h.1)) h
def kg (P:Program) (Γ:cy) (N:Nat) (l:List Oper) (Q:b6→Env→al→Prop) (m:Nat) (env:Env) (s:al) (i:Nat):Prop:=
 ∃ (o:Oper) (K X:af→al→Prop),l.toArray[i]? = some o∧guardOf l.toArray (b2 l env o) o=some true∧a6 P N o (b2 l env o) s K X∧(∀ d,o.dst=some d→d<N) ∧
  (∀ d,o.dst=some d→∀ x ak,K x ak→bd P Γ N l.toArray Q (bX (m|||2^i)) ((d,x)::env) ak)∧(o.dst=none→∀ x ak,K x ak→bd P Γ N l.toArray Q (bX (m|||2^i)) env ak) ∧
  ∀ x ak,X x ak→Q (.panic x) [] ak
theorem kg.mk {i:Nat} {o:Oper} {d:Nat} {K X:af→al→Prop} (ah:l.toArray[i]? = some o) (ay:o.dst=some d) (aT:aa' d N=true) (av:c4 l env o)
  (h:a6 P N o (b2 l env o) s K X) (aA:∀ x ak,K x ak→bd P Γ N l.toArray Q (bX (m|||2^i)) ((d,x)::env) ak) (ab:∀ x ak,X x ak→Q (.panic x) [] ak):kg P Γ N l Q m env s i:=
 ⟨o,K,X,ah,av,h,(fun c2 cq=>by rw [ay] at cq;cases cq;simpa [an4] using aT),(fun c2 cq=>by rw [ay] at cq;cases cq;exact aA),(fun az=>by rw [ay] at az;cases az),ab⟩
theorem kg.Dg {i:Nat} {o:Oper} {K X:af→al→Prop} (ah:l.toArray[i]? = some o) (ay:o.dst=none) (av:c4 l env o)
  (h:a6 P N o (b2 l env o) s K X) (aA:∀ x ak,K x ak→bd P Γ N l.toArray Q (bX (m|||2^i)) env ak) (ab:∀ x ak,X x ak→Q (.panic x) [] ak):kg P Γ N l Q m env s i:=
 ⟨o,K,X,ah,av,h,(fun c2 cq=>by rw [ay] at cq;cases cq),(fun c2 cq=>by rw [ay] at cq;cases cq),(fun _=>aA),ab⟩
def hQ (P:Program) (Γ:cy) (N:Nat) (l:List Oper) (Q:b6→Env→al→Prop) (m:Nat) (env:Env) (s:al):List Nat→Prop
 | []=>True
 | i::is=>kg P Γ N l Q m env s i∧hQ P Γ N l Q m env s is
theorem hQ.mem {i:Nat}:∀ {is:List Nat},hQ P Γ N l Q m env s is→i∈is→kg P Γ N l Q m env s i
  | j::is,h,aN=>by
    rcases af1.1 aN with rfl|aN
    · exact h.1
    · exact hQ.mem h.2 aN
theorem Gr {ops:Array Oper} {i:Nat}:∀ {is:List Nat},i∈eK ops m is→iy ops m i=true
  | j::is,h=>by
    simp only [eK] at h;split at h
    · rename_i an
      rcases af1.1 h with rfl|h
      · exact an
      · exact Gr h
    · exact Gr h
theorem bd.many {i:Nat} {is:List Nat} (aC:eK l.toArray m (idxs 0 l)=i::is) (h:hQ P Γ N l Q m env s (i::is)):bd P Γ N l.toArray Q (bX m) env s:=by
 have fo:∀ k,hi l.toArray (bX m) k→kg P Γ N l Q m env s k:=fun k aA=>by
  have:=Aj aA (l:=idxs 0 l) (by rw [yh,ar1];have:=aA.1;simp at this;omega);rw [aC] at this;exact h.mem this
 have iZ:hi l.toArray (bX m) i:=ti.1 (Gr (is:=idxs 0 l) (by rw [aC];exact i8 ..));refine bm.split (fun k x ak=>∃ o,l.toArray[k]? = some o∧(∀ d,o.dst=some d→bd P Γ N l.toArray Q (bX (m|||2^k)) ((d,x)::env) ak)∧(o.dst=none→bd P Γ N l.toArray Q (bX (m|||2^k)) env ak))
  (fun k x ak=>Q (.panic x) [] ak) ⟨i,iZ.1,iZ.2.1⟩ (fun k o aA ah=>?_) (fun _ _ _ _ _ _ _ => .inl trivial) (fun k o d aA ah ay x ak ⟨o',cC,U,ad⟩=>?_) (fun k o aA ah ay x ak ⟨o',cC,U,ad⟩=>?_) (fun k o aA ah x ak ab=>ab)
 ·obtain ⟨o',K,X,cC,av,pU,aT,U,ad,aj⟩:=fo k aA
  rw [ah] at cC;cases cC;exact ⟨av,pU.mono (fun x ak bf=>⟨o,ah,fun d ay=>U d ay x ak bf,fun ay=>ad ay x ak bf⟩) (fun x ak iu=>aj x ak iu),aT⟩
 ·rw [ah] at cC;cases cC
  rw [o2];exact U d ay
 ·rw [ah] at cC;cases cC
  rw [o2];exact ad ay
end
section
variable {P:Program} {Γ:cy} {N:Nat} {ops:Array Oper} {Q:b6→Env→al→Prop} {env:Env} {s:al} {l:List Oper} {o:Oper} {d:Nat}
theorem a6.Gs {o:Oper} {t:TypeId} {x:Operand} {v:af} {cs:List af} (ah:o.op = .box t x) (ab:aK env x=some v) (aF:cellsOf v=some cs) {X:af→al→Prop} :
  a6 P N o env s (fun r ak=>∃ b,s b=none∧r = .ptr b 0∧ak=s.set b (.box t cs)) X:=by
 refine a6.ku ja fun ro B a w p aJ=>?_
 have aC:=qA (aJ.aK ab) aF;obtain ⟨cF,dj,fe,eI⟩:=rQ aJ.wf (.cells (a.eval x).cells t) (.box t cs) (fun w' U ad aj=>⟨(a.eval x).cells,U,aj _ _ aC,fun o aD=>absurd (aJ.wf.lt _ _ aD) ag⟩);refine ⟨.pointer (some ⟨w.heap.size,0,none⟩),w.alloc (.cells (a.eval x).cells t),_,p,.ptr w.heap.size 0,?_,dj,fe,eI,⟨_,cF,rfl,rfl⟩,.ptr _ _⟩;unfold execOp;rw [ah];rfl
theorem aa.Gs {t:TypeId} {x:Operand} {v:af} {cs:List af} (av:guardOf ops env o=some true) (ay:o.dst=some d) (aT:aa' d N=true) (ah:o.op = .box t x) (ab:aK env x=some v) (aF:cellsOf v=some cs)
  (h:∀ b,s b=none→aa P N ops l Q ((d,.ptr b 0)::env) (s.set b (.box t cs))):aa P N ops (o::l) Q env s:=
 aa.op av ay aT (a6.Gs ah ab aF (X:=fun _ _=>False)) (fun x ak ⟨b,U,ad,aj⟩=>by subst ad;subst aj;exact h b U) (fun _ _ h=>h.elim)
end
abbrev a8:=List (bQ×dC)
def lX (s:al) (k:bQ) (o:dC):al:=match k with
 | .own b=>s.set b o
 | _=>s
def gone (s:al) (k:bQ):Prop:=match k with
 | .own b=>s b=none
 | .bc=>False
 | _=>True
def aS (s:al):a8→al
 | []=>s
 | e::L=>lX (aS s L) e.1 e.2
def Ok (s:al):a8→Prop
 | []=>True
 | e::L=>gone (aS s L) e.1∧Ok s L
inductive bo:a8→bQ→dC→a8→Prop
 | here {k:bQ} {o:dC} {L:a8}:bo ((k,o)::L) k o L
 | there {e:bQ×dC} {k:bQ} {o:dC} {L R:a8} (h:bo L k o R):bo (e::L) k o (e::R)
inductive aI:a8→a8→a8→Prop
 | nil {L:a8}:aI L [] L
 | cons {k:bQ} {o:dC} {L K R dt:a8} (h:bo L k o R) (t:aI R K dt):aI L ((k,o)::K) dt
theorem Ln (s:al) (e:TypeId) (sz n:Nat) (k:bQ):rowOf s e sz n k=lX s k (.row e sz n):=by cases k<;>rfl
theorem Lo {s:al} {n:Nat} {k:bQ}:qW s n k↔gone s k:=by cases k<;>exact Iff.rfl
theorem TX {s:al} {k k':bQ} {o o':dC} (h:gone s k) (eL:gone (lX s k o) k'):gone s k'∧gone (lX s k' o') k∧lX (lX s k o) k' o'=lX (lX s k' o') k o:=by
 cases k with
 | own b=>
  cases k' with
  | own aW=>
   obtain ⟨U,ad⟩:=al.uA eL;exact ⟨ad,(al.fy s o' (Ne.symm U)).trans h,al.set_comm s o o' (Ne.symm U)⟩
  | nil=>exact ⟨trivial,h,rfl⟩
  | clip=>exact ⟨trivial,h,rfl⟩
  | bc=>exact eL.elim
 | nil=>exact ⟨eL,trivial,rfl⟩
 | clip=>exact ⟨eL,trivial,rfl⟩
 | bc=>exact h.elim
theorem bo.perm {s:al} {L R:a8} {k:bQ} {o:dC} (h:bo L k o R):Ok s L→aS s L=aS s ((k,o)::R)∧Ok s ((k,o)::R):=by
 induction h with
 | here=>exact fun h=>⟨rfl,h⟩
 | @there e k o L R h aX=>
  rintro ⟨av,I⟩;obtain ⟨U,ad,aj⟩:=aX I;rw [U] at av;obtain ⟨g1,g2,g3⟩:=TX (s:=aS s R) (k:=k) (o:=o) (k':=e.1) (o':=e.2) ad av;refine ⟨?_,g2,g1,aj⟩;show lX (aS s L) e.1 e.2=lX (lX (aS s R) e.1 e.2) k o;rw [U];exact g3
theorem Ao (s:al):∀ (K R:a8),aS s (K++R)=aS (aS s R) K
 | [],_=>rfl
 | e::K,R=>by show lX (aS s (K++R)) e.1 e.2=_;rw [Ao s K R];rfl
theorem Dh {s:al}:∀ {K R:a8},Ok s (K++R)↔Ok (aS s R) K∧Ok s R
  | [],R=>⟨fun h=>⟨trivial,h⟩,fun h=>h.2⟩
  | e::K,R=>by
    show gone (aS s (K++R)) e.1∧Ok s (K++R)↔(gone (aS (aS s R) K) e.1∧Ok (aS s R) K)∧Ok s R;rw [Ao,Dh,and_assoc]
theorem aI.perm {s:al} {L K R:a8} (h:aI L K R):Ok s L→aS s L=aS s (K++R)∧Ok s (K++R):=by
 induction h with
 | nil=>exact fun h=>⟨rfl,h⟩
 | @cons k o L K R dt h t aX=>
  intro I;obtain ⟨U,ad,aj⟩:=h.perm I;obtain ⟨a',bz⟩:=aX aj;refine ⟨?_,?_,bz⟩
  ·rw [U];show lX (aS s R) k o=lX (aS s (K++dt)) k o;rw [a']
  ·have fG:gone (aS s R) k:=ad
   rw [a'] at fG;exact fG
theorem aI.eq {s:al} {L K R:a8} (h:aI L K R) (I:Ok s L):aS s L=aS (aS s R) K∧Ok (aS s R) K∧Ok s R:=by
 obtain ⟨U,ad⟩:=h.perm I;rw [Ao] at U;exact ⟨U,Dh.1 ad⟩
theorem Di {s t:al} {k:bQ} {o:dC} (h:al.Sub s t):al.Sub (lX s k o) (lX t k o):=by
 cases k with
 | own b=>
  intro x;by_cases e:x=b
  ·subst e;left;show (s.set x o) x=(t.set x o) x;rw [al.gk,al.gk]
  ·show (s.set b o) x=(t.set b o) x∨(s.set b o) x=none
   rw [al.fy _ _ e,al.fy _ _ e];exact h x
 | nil=>exact h
 | clip=>exact h
 | bc=>exact h
theorem yn {s t:al} {k:bQ} {o:dC} (h:al.Sub s t) (av:gone s k):al.Sub s (lX t k o):=by
 cases k with
 | own b=>exact al.TV h av
 | nil=>exact h
 | clip=>exact h
 | bc=>exact h
theorem Gt {s t:al} (h:al.Sub s t):∀ L:a8,al.Sub (aS s L) (aS t L)
 | []=>h
 | _::L=>Di (Gt h L)
theorem Lp {s t:al} {k:bQ} (h:al.Sub s t) (av:gone t k):gone s k:=by
 cases k with
 | own b=>exact h.none av
 | nil=>trivial
 | clip=>trivial
 | bc=>exact av
theorem Ok.sub {s:al}:∀ {L:a8},Ok s L→al.Sub s (aS s L)
 | [],_=>al.oU _
 | e::L,h=>yn (Ok.sub h.2) (Lp (Ok.sub h.2) h.1)
theorem Ok.nD {s t:al} (h:al.Sub s t):∀ {L:a8},Ok t L→Ok s L
 | [],_=>trivial
 | e::L,I=>⟨Lp (Gt h L) I.1,Ok.nD h I.2⟩
theorem aI.sub {s:al} {L K R:a8} (h:aI L K R) (I:Ok s L):al.Sub (aS s K) (aS s L)∧Ok s K:=by
 obtain ⟨U,ad,aj⟩:=h.eq I;rw [U];exact ⟨Gt aj.sub K,ad.nD aj.sub⟩
theorem bo.get {s:al} {L R:a8} {b:Nat} {o:dC} (h:bo L (.own b) o R) (I:Ok s L):aS s L b=some o:=by
 rw [(h.perm I).1];exact al.gk _ _ _
theorem bo.put {s:al} {L R:a8} {b:Nat} {o:dC} (o':dC) (h:bo L (.own b) o R) (I:Ok s L):(aS s L).set b o'=aS s ((.own b,o')::R)∧Ok s ((.own b,o')::R):=by
 obtain ⟨U,ad⟩:=h.perm I;rw [U];exact ⟨al.set_set _ _ _ _,ad⟩
theorem bo.del {s:al} {L R:a8} {b:Nat} {o:dC} (h:bo L (.own b) o R) (I:Ok s L):(aS s L).del b=aS s R∧Ok s R:=by
 obtain ⟨U,ad⟩:=h.perm I;rw [U];exact ⟨al.zV _ _ _ ad.1,ad.2⟩
section
variable {P:Program} {Γ:cy} {N:Nat} {ops:Array Oper} {Q:b6→Env→al→Prop} {env:Env} {s:al} {l:List Oper} {o:Oper} {d:Nat} {L R:a8}
theorem a6.ez (aQ:bO P Γ) (I:Ok s L) {t T:TypeId} {x:Operand} {i:bN} {b off:Nat} {cs:List af} {v:af} (ah:o.op = .load t x) (aL:Γ.get? t=some i) (ab:aK env x=some (.ptr b off))
  (ar:bo L (.own b) (.box T cs) R) (au:hK i cs off=some v) {X:af→al→Prop}:a6 P N o env (aS s L) (fun x ak=>x=v∧ak=aS s L) X:=
 a6.uB aQ ah aL ab (ar.get I) au
theorem aa.ez (aQ:bO P Γ) (I:Ok s L) {t T:TypeId} {x:Operand} {i:bN} {b off:Nat} {cs:List af} {v:af} (av:guardOf ops env o=some true) (ay:o.dst=some d) (aT:aa' d N=true) (ah:o.op = .load t x)
  (aL:Γ.get? t=some i) (ab:aK env x=some (.ptr b off)) (ar:bo L (.own b) (.box T cs) R) (au:hK i cs off=some v) (h:aa P N ops l Q ((d,v)::env) (aS s L)):aa P N ops (o::l) Q env (aS s L):=
 aa.uB aQ av ay aT ah aL ab (ar.get I) au h
theorem a6.cM (aQ:bO P Γ) (I:Ok s L) {t T:TypeId} {x y:Operand} {i:bN} {b off:Nat} {cs us:List af} {v:af} (ah:o.op = .store t x y) (aL:Γ.get? t=some i) (ab:aK env x=some (.ptr b off))
  (ax:aK env y=some v) (au:cellsOf v=some us) (hu:af2 us.length i.size=true) (U:us.all e7=true) (ar:bo L (.own b) (.box T cs) R) (fz:ao5 (off+us.length) cs.length=true) {X:af→al→Prop} :
  a6 P N o env (aS s L) (fun _ ak=>ak=aS s ((.own b,.box T (eS off us cs))::R)∧Ok s ((.own b,.box T (eS off us cs))::R)) X:=by
 obtain ⟨ad,aj⟩:=ar.put (.box T (eS off us cs)) I;exact (a6.CL aQ ah aL ab ax au hu U (ar.get I) fz (X:=X)).mono (fun _ ak h=>⟨h.trans ad,aj⟩) (fun _ _ h=>h)
theorem aa.cM (aQ:bO P Γ) (I:Ok s L) {t T:TypeId} {x y:Operand} {i:bN} {b off:Nat} {cs us:List af} {v:af} (av:guardOf ops env o=some true) (ay:o.dst=none) (ah:o.op = .store t x y)
  (aL:Γ.get? t=some i) (ab:aK env x=some (.ptr b off)) (ax:aK env y=some v) (au:cellsOf v=some us) (hu:af2 us.length i.size=true) (U:us.all e7=true)
  (ar:bo L (.own b) (.box T cs) R) (fz:ao5 (off+us.length) cs.length=true) (h:Ok s ((.own b,.box T (eS off us cs))::R)→aa P N ops l Q env (aS s ((.own b,.box T (eS off us cs))::R))):aa P N ops (o::l) Q env (aS s L):=
 aa.vP av ay (a6.cM aQ I ah aL ab ax au hu U ar fz (X:=fun _ _=>False)) (fun x ak ⟨ad,aj⟩=>by subst ad;exact h aj) (fun _ _ h=>h.elim)
theorem a6.dK (aQ:bO P Γ) (I:Ok s L) {t:TypeId} {i:bN} {z:af} {cs:List af} (ah:o.op = .alloc t) (aL:Γ.get? t=some i) (bE:hD i.zero=some z) (aF:cellsOf z=some cs) {X:af→al→Prop} :
  a6 P N o env (aS s L) (fun x ak=>∃ b,x = .ptr b 0∧ak=aS s ((.own b,.box t cs)::L)∧Ok s ((.own b,.box t cs)::L)) X:=
 (a6.alloc aQ ah aL bE aF (X:=X)).mono (fun x ak ⟨b,U,ad,aj⟩=>⟨b,ad,aj,U,I⟩) (fun _ _ h=>h)
theorem aa.dK (aQ:bO P Γ) (I:Ok s L) {t:TypeId} {i:bN} {z:af} {cs:List af} (av:guardOf ops env o=some true) (ay:o.dst=some d) (aT:aa' d N=true) (ah:o.op = .alloc t) (aL:Γ.get? t=some i)
  (bE:hD i.zero=some z) (aF:cellsOf z=some cs) (h:∀ b,Ok s ((.own b,.box t cs)::L)→aa P N ops l Q ((d,.ptr b 0)::env) (aS s ((.own b,.box t cs)::L))):aa P N ops (o::l) Q env (aS s L):=
 aa.op av ay aT (a6.dK aQ I ah aL bE aF (X:=fun _ _=>False)) (fun x ak ⟨b,U,ad,aj⟩=>by subst U;subst ad;exact h b aj) (fun _ _ h=>h.elim)
theorem a6.jV (I:Ok s L) {t:TypeId} {x:Operand} {v:af} {cs:List af} (ah:o.op = .box t x) (ab:aK env x=some v) (aF:cellsOf v=some cs) {X:af→al→Prop} :
  a6 P N o env (aS s L) (fun x ak=>∃ b,x = .ptr b 0∧ak=aS s ((.own b,.box t cs)::L)∧Ok s ((.own b,.box t cs)::L)) X:=
 (a6.Gs ah ab aF (X:=X)).mono (fun x ak ⟨b,U,ad,aj⟩=>⟨b,ad,aj,U,I⟩) (fun _ _ h=>h)
theorem aa.jV (I:Ok s L) {t:TypeId} {x:Operand} {v:af} {cs:List af} (av:guardOf ops env o=some true) (ay:o.dst=some d) (aT:aa' d N=true) (ah:o.op = .box t x) (ab:aK env x=some v) (aF:cellsOf v=some cs)
  (h:∀ b,Ok s ((.own b,.box t cs)::L)→aa P N ops l Q ((d,.ptr b 0)::env) (aS s ((.own b,.box t cs)::L))):aa P N ops (o::l) Q env (aS s L):=
 aa.op av ay aT (a6.jV I ah ab aF (X:=fun _ _=>False)) (fun x ak ⟨b,U,ad,aj⟩=>by subst U;subst ad;exact h b aj) (fun _ _ h=>h.elim)
theorem a6.rZ (I:Ok s L) {t:TypeId} (ah:o.op = .makeMap t none) {X:af→al→Prop} :
  a6 P N o env (aS s L) (fun x ak=>∃ b,x = .map b∧ak=aS s ((.own b,.map [])::L)∧Ok s ((.own b,.map [])::L)) X:=
 (a6.makeMap ah (X:=X)).mono (fun x ak ⟨b,U,ad,aj⟩=>⟨b,ad,aj,U,I⟩) (fun _ _ h=>h)
theorem aa.rZ (I:Ok s L) {t:TypeId} (av:guardOf ops env o=some true) (ay:o.dst=some d) (aT:aa' d N=true) (ah:o.op = .makeMap t none)
  (h:∀ b,Ok s ((.own b,.map [])::L)→aa P N ops l Q ((d,.map b)::env) (aS s ((.own b,.map [])::L))):aa P N ops (o::l) Q env (aS s L):=
 aa.op av ay aT (a6.rZ I ah (X:=fun _ _=>False)) (fun x ak ⟨b,U,ad,aj⟩=>by subst U;subst ad;exact h b aj) (fun _ _ h=>h.elim)
theorem a6.jr (aQ:bO P Γ) (I:Ok s L) {t dS e0:TypeId} {x y:Operand} {ok:Bool} {it gI aG:bN} {m:Nat} {es:List (af×af)} {k z:af} {r:Option af} (ah:o.op = .lookup t x y ok) (aL:Γ.get? t=some it)
  (bq:it.bH = .map dS e0) (jk:Γ.get? dS=some gI) (bL:Γ.get? e0=some aG) (ab:aK env x=some (.map m)) (ax:aK env y=some k) (ar:bo L (.own m) (.map es) R) (a7:j' gI.bH k=true) (aC:iX es k=some r)
  (bE:hD aG.zero=some z) {X:af→al→Prop}:a6 P N o env (aS s L) (fun x ak=>x=lS ok z r∧ak=aS s L) X:=
 a6.lookup aQ ah aL bq jk bL ab ax (.inl ⟨m,rfl,ar.get I⟩) a7 aC bE
theorem aa.jr (aQ:bO P Γ) (I:Ok s L) {t dS e0:TypeId} {x y:Operand} {ok:Bool} {it gI aG:bN} {m:Nat} {es:List (af×af)} {k z:af} {r:Option af} (av:guardOf ops env o=some true) (ay:o.dst=some d) (aT:aa' d N=true)
  (ah:o.op = .lookup t x y ok) (aL:Γ.get? t=some it) (bq:it.bH = .map dS e0) (jk:Γ.get? dS=some gI) (bL:Γ.get? e0=some aG) (ab:aK env x=some (.map m)) (ax:aK env y=some k) (ar:bo L (.own m) (.map es) R)
  (a7:j' gI.bH k=true) (aC:iX es k=some r) (bE:hD aG.zero=some z) (h:aa P N ops l Q ((d,lS ok z r)::env) (aS s L)):aa P N ops (o::l) Q env (aS s L):=
 aa.lookup aQ av ay aT ah aL bq jk bL ab ax (ar.get I) a7 aC bE h
theorem a6.mX (aQ:bO P Γ) (I:Ok s L) {t dS e0:TypeId} {x y z:Operand} {it gI:bN} {b:Nat} {es du:List (af×af)} {k v:af} (ah:o.op = .mapUpdate t x y z∨o.op = .insert t x y z)
  (aL:Γ.get? t=some it) (bq:it.bH = .map dS e0) (jk:Γ.get? dS=some gI) (ab:aK env x=some (.map b)) (ax:aK env y=some k) (bE:aK env z=some v) (ar:bo L (.own b) (.map es) R) (a7:j' gI.bH k=true)
  (aD:lR es k v=some du) {X:af→al→Prop}:a6 P N o env (aS s L) (fun _ ak=>ak=aS s ((.own b,.map du)::R)∧Ok s ((.own b,.map du)::R)) X:=by
 obtain ⟨ad,aj⟩:=ar.put (.map du) I;exact (a6.mapUpdate aQ ah aL bq jk ab ax bE (ar.get I) a7 aD (X:=X)).mono (fun _ ak h=>⟨h.trans ad,aj⟩) (fun _ _ h=>h)
theorem aa.mX (aQ:bO P Γ) (I:Ok s L) {t dS e0:TypeId} {x y z:Operand} {it gI:bN} {b:Nat} {es du:List (af×af)} {k v:af} (av:guardOf ops env o=some true) (ay:o.dst=none) (ah:o.op = .mapUpdate t x y z∨o.op = .insert t x y z)
  (aL:Γ.get? t=some it) (bq:it.bH = .map dS e0) (jk:Γ.get? dS=some gI) (ab:aK env x=some (.map b)) (ax:aK env y=some k) (bE:aK env z=some v) (ar:bo L (.own b) (.map es) R) (a7:j' gI.bH k=true)
  (aD:lR es k v=some du) (h:Ok s ((.own b,.map du)::R)→aa P N ops l Q env (aS s ((.own b,.map du)::R))):aa P N ops (o::l) Q env (aS s L):=
 aa.vP av ay (a6.mX aQ I ah aL bq jk ab ax bE ar a7 aD (X:=fun _ _=>False)) (fun x ak ⟨ad,aj⟩=>by subst ad;exact h aj) (fun _ _ h=>h.elim)
theorem a6.qY (aQ:bO P Γ) (I:Ok s L) {t bK e:TypeId} {x y:Operand} {it cx aG:bN} {dU bV sz n n':Nat} {xs ys:List af} {own dm:bQ}
  (ah:o.op = .call { callee := .builtin .append,args := #[x,y],argTypes := #[t,bK] }) (aL:Γ.get? t=some it) (bq:it.bH = .aB e) (cW:Γ.get? bK=some cx) (dr:∀ k,cx.bH ≠ .int k)
  (bL:Γ.get? e=some aG) (ab:aK env x=some (.aB dU xs own)) (ax:aK env y=some (.aB bV ys dm)) (hX:dU=aG.size) (c6:ys=[]∨bV=aG.size)
  (dO:af2 aG.zero.cells.size aG.size=true) (dH:∀ y∈ys,kd aG.size y=true) (an:(xs.length+ys.length)*aG.bytes≤140737488355328) (ed:xs.length+ys.length≤9223372036854775807)
  (az:n=xs.length) (fZ:n'=xs.length+ys.length) (b':sz=aG.size) (ar:bo L own (.row e sz n) R) {X:af→al→Prop} :
  a6 P N o env (aS s L) (fun r ak=>∃ cS,(ys≠[]→∃ b,cS = .own b)∧(∀ b,own = .own b→∃ aW,cS = .own aW)∧r = .aB sz (xs++ys) cS∧ak=aS s ((cS,.row e sz n')::R)∧Ok s ((cS,.row e sz n')::R)) X:=by
 subst b';subst fZ;obtain ⟨U,ad,aj⟩:=ar.perm I;have a':aS s L=rowOf (aS s R) e aG.size n own:=U.trans (Ln _ _ _ _ _).symm;rw [a'];refine (a6.Gp aQ ah aL bq cW dr bL ab ax hX c6 dO dH an ed az (Lo.2 ad) (X:=X)).mono ?_ (fun _ _ h=>h);rintro r ak ⟨cS,g1,g2,g3,rfl,rfl⟩;exact ⟨cS,g2,g3,rfl,Ln _ _ _ _ _,Lo.1 g1,aj⟩
theorem aa.gn (aQ:bO P Γ) (I:Ok s L) {t bK e:TypeId} {x y:Operand} {it cx aG:bN} {dU bV sz n:Nat} {xs:List af} {v:af} {own dm:bQ} (av:guardOf ops env o=some true) (ay:o.dst=some d) (aT:aa' d N=true)
  (ah:o.op = .call { callee := .builtin .append,args := #[x,y],argTypes := #[t,bK] }) (aL:Γ.get? t=some it) (bq:it.bH = .aB e) (cW:Γ.get? bK=some cx) (dr:∀ k,cx.bH ≠ .int k)
  (bL:Γ.get? e=some aG) (ab:aK env x=some (.aB dU xs own)) (ax:aK env y=some (.aB bV [v] dm)) (hX:dU=aG.size) (c6:bV=aG.size)
  (dO:af2 aG.zero.cells.size aG.size=true) (dH:kd aG.size v=true) (b':sz=aG.size) (ar:bo L own (.row e sz n) R) (az:n=xs.length) (an:(n+1)*aG.bytes≤140737488355328) (ed:n+1≤9223372036854775807)
  (h:∀ b,Ok s ((.own b,.row e sz (n+1))::R)→aa P N ops l Q ((d,.aB sz (xs++[v]) (.own b))::env) (aS s ((.own b,.row e sz (n+1))::R))):aa P N ops (o::l) Q env (aS s L):=by
 subst az;refine aa.op av ay aT (a6.qY aQ I ah aL bq cW dr bL ab ax hX (.inr c6) dO (by intro y ax;simp at ax;subst ax;exact dH) an ed C (n':=xs.length+1) C b' ar (X:=fun _ _=>False)) ?_ (fun _ _ h=>h.elim);rintro r ak ⟨cS,ad,-,rfl,rfl,aj⟩;obtain ⟨b,rfl⟩:=ad ba;exact h b aj
theorem aa.qY (aQ:bO P Γ) (I:Ok s L) {t bK e:TypeId} {x y:Operand} {it cx aG:bN} {dU bV sz n n':Nat} {xs ys:List af} {own dm:bQ} (av:guardOf ops env o=some true) (ay:o.dst=some d) (aT:aa' d N=true)
  (ah:o.op = .call { callee := .builtin .append,args := #[x,y],argTypes := #[t,bK] }) (aL:Γ.get? t=some it) (bq:it.bH = .aB e) (cW:Γ.get? bK=some cx) (dr:∀ k,cx.bH ≠ .int k)
  (bL:Γ.get? e=some aG) (ab:aK env x=some (.aB dU xs own)) (ax:aK env y=some (.aB bV ys dm)) (hX:dU=aG.size) (c6:ys=[]∨bV=aG.size)
  (dO:af2 aG.zero.cells.size aG.size=true) (dH:∀ y∈ys,kd aG.size y=true) (b':sz=aG.size) (ar:bo L own (.row e sz n) R) (az:n=xs.length) (fZ:n'=xs.length+ys.length) (an:(xs.length+ys.length)*aG.bytes≤140737488355328) (ed:xs.length+ys.length≤9223372036854775807)
  (h:∀ cS,Ok s ((cS,.row e sz n')::R)→aa P N ops l Q ((d,.aB sz (xs++ys) cS)::env) (aS s ((cS,.row e sz n')::R))):aa P N ops (o::l) Q env (aS s L):=by
 refine aa.op av ay aT (a6.qY aQ I ah aL bq cW dr bL ab ax hX c6 dO dH an ed az fZ b' ar (X:=fun _ _=>False)) ?_ (fun _ _ h=>h.elim);rintro r ak ⟨cS,-,-,rfl,rfl,aj⟩;exact h cS aj
theorem ae.mu {c:Code} (I:Ok s L) (t b:Nat) {T:TypeId} {cs:List af} (aL:env.get? t=some (.ptr b 0)) (ar:bo L (.own b) (.box T cs) R) (h:Ok s R→ae P N c Q ((t,.br cs 0)::env) (aS s R)):ae P N c Q env (aS s L):=by
 obtain ⟨U,ad⟩:=ar.del I;refine ae.freeze t b aL (ar.get I) ?_;rw [U];exact h ad
theorem aa.mu (I:Ok s L) (t b:Nat) {T:TypeId} {cs:List af} (aL:env.get? t=some (.ptr b 0)) (ar:bo L (.own b) (.box T cs) R) (h:Ok s R→aa P N ops l Q ((t,.br cs 0)::env) (aS s R)):aa P N ops l Q env (aS s L):=by
 obtain ⟨U,ad⟩:=ar.del I;refine aa.freeze t b aL (ar.get I) ?_;rw [U];exact h ad
theorem ae.wE {c:Code} (I:Ok s L) (b:Nat) {T:TypeId} {cs:List af} (cs':List af) (ar:bo L (.own b) (.box T cs) R) (aF:cR cs cs') (h:Ok s ((.own b,.box T cs')::R)→ae P N c Q env (aS s ((.own b,.box T cs')::R))):ae P N c Q env (aS s L):=by
 obtain ⟨U,ad⟩:=ar.put (.box T cs') I;refine ae.qX b cs' (ar.get I) aF ?_;rw [U];exact h ad
theorem aa.wE (I:Ok s L) (b:Nat) {T:TypeId} {cs:List af} (cs':List af) (ar:bo L (.own b) (.box T cs) R) (aF:cR cs cs') (h:Ok s ((.own b,.box T cs')::R)→aa P N ops l Q env (aS s ((.own b,.box T cs')::R))):aa P N ops l Q env (aS s L):=by
 obtain ⟨U,ad⟩:=ar.put (.box T cs') I;refine aa.qX b cs' (ar.get I) aF ?_;rw [U];exact h ad
theorem ae.mv {c:Code} (I:Ok s L) (K:a8) (ar:aI L K R) (h:Ok s K→ae P N c Q env (aS s K)):ae P N c Q env (aS s L):=by
 obtain ⟨U,ad⟩:=ar.sub I;exact ae.drop _ U (h ad)
theorem aa.mv (I:Ok s L) (K:a8) (ar:aI L K R) (h:Ok s K→aa P N ops l Q env (aS s K)):aa P N ops l Q env (aS s L):=by
 obtain ⟨U,ad⟩:=ar.sub I;exact aa.drop _ U (h ad)
end
def uM (s:al) (R:ey→a8→Prop) (o:ey) (ak:al):Prop:=∃ K,ak=aS s K∧Ok s K∧R o K
def bF (P:Program) (f:FuncId) (args:List af) (K:a8) (R:ey→a8→Prop):Prop:=∀ s,Ok s K→hh P f args (aS s K) (uM s R)
def di (P:Program) (fv:af) (args:List af) (K:a8) (R:ey→a8→Prop):Prop:=∀ s,Ok s K→hO P fv args (aS s K) (uM s R)
def aV (P:Program) (f:FuncId) (args:List af) (v:af):Prop:=∀ s,hh P f args s (fun o ak=>o = .ret v∧ak=s)
def eC (P:Program) (fv:af) (args:List af) (v:af):Prop:=∀ s,hO P fv args s (fun o ak=>o = .ret v∧ak=s)
theorem eC.fk {P:Program} {f:FuncId} {first cap args:List af} {v:af} (h:aV P f (first++(args++cap)) v):eC P (.func f first cap) args v:=fun s=>hO.fk (h s)
section
variable {P:Program} {Γ:cy} {N:Nat} {ops:Array Oper} {Q:b6→Env→al→Prop} {env:Env} {s:al} {l:List Oper} {o:Oper} {d:Nat} {L R K:a8} {aem:ey→a8→Prop}
theorem aa.mw {g:Operand} {fv:af} {as:Array Operand} {c3:Array TypeId} {xs:List af} {v:af} (av:guardOf ops env o=some true) (ay:o.dst=some d) (aT:aa' d N=true)
  (bY:o.op = .call { callee := .value g,args:=as,argTypes:=c3 }) (au:aK env g=some fv) (aR:fP env as.toList=some xs) (h:eC P fv xs v) (aA:aa P N ops l Q ((d,v)::env) s):aa P N ops (o::l) Q env s:=
 aa.F6 av ay aT bY au aR (h s) (fun x ak ⟨U,ad⟩=>by cases U;subst ad;exact aA) (fun x ak ⟨U,_⟩=>by cases U)
theorem bF.mono {f:FuncId} {args:List af} {Ap:ey→a8→Prop} (h:bF P f args K aem) (aC:∀ o K,aem o K→Ap o K):bF P f args K Ap :=
 fun s I=>(h s I).mono fun o ak ⟨aP,U,ad,aj⟩=>⟨aP,U,ad,aC _ _ aj⟩
theorem di.mono {fv:af} {args:List af} {Ap:ey→a8→Prop} (h:di P fv args K aem) (aC:∀ o K,aem o K→Ap o K):di P fv args K Ap :=
 fun s I=>(h s I).mono fun o ak ⟨aP,U,ad,aj⟩=>⟨aP,U,ad,aC _ _ aj⟩
theorem bF.at {f:FuncId} {args:List af} (h:bF P f args K aem) (I:Ok s L) (ar:aI L K R):hh P f args (aS s L) (uM s fun o M=>∃ aP,M=aP++R∧aem o aP):=by
 obtain ⟨U,ad,aj⟩:=ar.eq I;rw [U];refine (h _ ad).mono ?_;rintro o ak ⟨aP,rfl,g2,g3⟩;exact ⟨aP++R,(Ao _ _ _).symm,Dh.2 ⟨g2,aj⟩,aP,rfl,g3⟩
theorem di.at {fv:af} {args:List af} (h:di P fv args K aem) (I:Ok s L) (ar:aI L K R):hO P fv args (aS s L) (uM s fun o M=>∃ aP,M=aP++R∧aem o aP):=by
 obtain ⟨U,ad,aj⟩:=ar.eq I;rw [U];refine (h _ ad).mono ?_;rintro o ak ⟨aP,rfl,g2,g3⟩;exact ⟨aP++R,(Ao _ _ _).symm,Dh.2 ⟨g2,aj⟩,aP,rfl,g3⟩
theorem di.fk {f:FuncId} {first cap args:List af} (h:bF P f (first++(args++cap)) K aem):di P (.func f first cap) args K aem:=fun s I=>hO.fk (h s I)
theorem a6.b7 {f:FuncId} {as:Array Operand} {c3:Array TypeId} {xs:List af} (bY:o.op = .call { callee := .value (.func f),args:=as,argTypes:=c3 }) (aR:fP env as.toList=some xs)
  (h:bF P f xs K aem) (I:Ok s L) (ar:aI L K R) :
  a6 P N o env (aS s L) (fun x ak=>∃ aP,ak=aS s (aP++R)∧Ok s (aP++R)∧aem (.ret x) aP) (fun x ak=>∃ aP,ak=aS s (aP++R)∧Ok s (aP++R)∧aem (.panic x) aP):=by
 refine (a6.call bY (fv := .func f [] []) C aR (hO.fk (by simpa using h.at I ar))).mono ?_ ?_
 ·rintro x ak ⟨M,rfl,ad,aP,rfl,aj⟩;exact ⟨aP,rfl,ad,aj⟩
 ·rintro x ak ⟨M,rfl,ad,aP,rfl,aj⟩;exact ⟨aP,rfl,ad,aj⟩
theorem a6.gJ {g:Operand} {fv:af} {as:Array Operand} {c3:Array TypeId} {xs:List af} (bY:o.op = .call { callee := .value g,args:=as,argTypes:=c3 }) (au:aK env g=some fv) (aR:fP env as.toList=some xs)
  (h:di P fv xs K aem) (I:Ok s L) (ar:aI L K R) :
  a6 P N o env (aS s L) (fun x ak=>∃ aP,ak=aS s (aP++R)∧Ok s (aP++R)∧aem (.ret x) aP) (fun x ak=>∃ aP,ak=aS s (aP++R)∧Ok s (aP++R)∧aem (.panic x) aP):=by
 refine (a6.call bY au aR (h.at I ar)).mono ?_ ?_
 ·rintro x ak ⟨M,rfl,ad,aP,rfl,aj⟩;exact ⟨aP,rfl,ad,aj⟩
 ·rintro x ak ⟨M,rfl,ad,aP,rfl,aj⟩;exact ⟨aP,rfl,ad,aj⟩
theorem aa.b7 {f:FuncId} {as:Array Operand} {c3:Array TypeId} {xs:List af} (av:guardOf ops env o=some true) (ay:o.dst=some d) (aT:aa' d N=true)
  (bY:o.op = .call { callee := .value (.func f),args:=as,argTypes:=c3 }) (aR:fP env as.toList=some xs) (h:bF P f xs K aem) (I:Ok s L) (ar:aI L K R)
  (aA:∀ x aP,aem (.ret x) aP→Ok s (aP++R)→aa P N ops l Q ((d,x)::env) (aS s (aP++R))) (ab:∀ x aP,aem (.panic x) aP→Ok s (aP++R)→Q (.panic x) env (aS s (aP++R))):aa P N ops (o::l) Q env (aS s L):=
 aa.op av ay aT (a6.b7 bY aR h I ar) (fun x ak ⟨aP,U,ad,aj⟩=>by subst U;exact aA x aP aj ad) (fun x ak ⟨aP,U,ad,aj⟩=>by subst U;exact ab x aP aj ad)
theorem aa.gJ {g:Operand} {fv:af} {as:Array Operand} {c3:Array TypeId} {xs:List af} (av:guardOf ops env o=some true) (ay:o.dst=some d) (aT:aa' d N=true)
  (bY:o.op = .call { callee := .value g,args:=as,argTypes:=c3 }) (au:aK env g=some fv) (aR:fP env as.toList=some xs) (h:di P fv xs K aem) (I:Ok s L) (ar:aI L K R)
  (aA:∀ x aP,aem (.ret x) aP→Ok s (aP++R)→aa P N ops l Q ((d,x)::env) (aS s (aP++R))) (ab:∀ x aP,aem (.panic x) aP→Ok s (aP++R)→Q (.panic x) env (aS s (aP++R))):aa P N ops (o::l) Q env (aS s L):=
 aa.op av ay aT (a6.gJ bY au aR h I ar) (fun x ak ⟨aP,U,ad,aj⟩=>by subst U;exact aA x aP aj ad) (fun x ak ⟨aP,U,ad,aj⟩=>by subst U;exact ab x aP aj ad)
theorem aa.eb {f:FuncId} {as:Array Operand} {c3:Array TypeId} {xs:List af} {v:af} (av:guardOf ops env o=some true) (ay:o.dst=some d) (aT:aa' d N=true)
  (bY:o.op = .call { callee := .value (.func f),args:=as,argTypes:=c3 }) (aR:fP env as.toList=some xs) (h:aV P f xs v) (aA:aa P N ops l Q ((d,v)::env) s):aa P N ops (o::l) Q env s:=
 aa.KX av ay aT bY aR (h s) aA
theorem bF.yd (aQ:bO P Γ) {f:FuncId} {fn:Func} {c:Code} {args:List af} (aF:te P f) (a7:P.funcs[f]? = some fn) (an:fn.body=some c)
  (aT:ao5 args.length fn.ntmps=true) (h:∀ s,Ok s K→ae P fn.ntmps c (Fin Γ fn.results.toList (uM s aem)) (rS 0 args) (aS s K)):bF P f args K aem:=
 fun s I=>hh.yd aQ aF a7 an aT (h s I)
theorem aV.yd (aQ:bO P Γ) {f:FuncId} {fn:Func} {c:Code} {args:List af} {v:af} (aF:te P f) (a7:P.funcs[f]? = some fn) (an:fn.body=some c)
  (aT:ao5 args.length fn.ntmps=true) (h:∀ s,Ok s []→ae P fn.ntmps c (Fin Γ fn.results.toList (fun o ak=>o = .ret v∧ak=s)) (rS 0 args) (aS s [])):aV P f args v:=
 fun s=>hh.yd aQ aF a7 an aT (h s trivial)
theorem bF.bl (aQ:bO P Γ) {f:FuncId} {fn:Func} {c:Code} {args:List af} (a7:P.funcs[f]? = some fn) (an:fn.body=some c) (aT:Nat.ble args.length fn.ntmps=true) (h:∀ s,Ok s K→ae P fn.ntmps c (Fin Γ fn.results.toList (uM s aem)) (rS 0 args) (aS s K)) (az:(fn.name == "runtime.NumGoroutine")=false:=by kernel_rfl):bF P f args K aem:=bF.yd aQ (z7 a7 az (by rw [an];rfl)) a7 an aT h
theorem aV.bl (aQ:bO P Γ) {f:FuncId} {fn:Func} {c:Code} {args:List af} {v:af} (a7:P.funcs[f]? = some fn) (an:fn.body=some c) (aT:Nat.ble args.length fn.ntmps=true) (h:∀ s,Ok s []→ae P fn.ntmps c (Fin Γ fn.results.toList (fun o ak=>o = .ret v∧ak=s)) (rS 0 args) (aS s [])) (az:(fn.name == "runtime.NumGoroutine")=false:=by kernel_rfl):aV P f args v:=aV.yd aQ (z7 a7 az (by rw [an];rfl)) a7 an aT h
theorem Fin.bt {rs:List ResultVar} {r r':af} (I:Ok s L) (aC:n7 Γ env (aS s L) rs=some r) (hle:aU r r') (ar:aI L K R) (e4:aem (.ret r') K):∃ r r' ak,n7 Γ env (aS s L) rs=some r∧aU r r'∧al.Sub ak (aS s L)∧uM s aem (.ret r') ak:=by
 obtain ⟨U,ad⟩:=ar.sub I;exact ⟨r,r',_,aC,hle,U,K,rfl,ad,e4⟩
theorem Fin.cG {rs:List ResultVar} {r v:af} (I:Ok s L) (aC:n7 Γ env (aS s L) rs=some r) (hle:aU r v):∃ r r' ak,n7 Γ env (aS s L) rs=some r∧aU r r'∧al.Sub ak (aS s L)∧(ey.ret r' = .ret v∧ak=s):=
 ⟨r,v,s,aC,hle,I.sub,rfl,rfl⟩
theorem Fin.fb {v fx:af} (I:Ok s L) (hle:aU v fx) (ar:aI L K R) (e4:aem (.panic fx) K):∃ fx ak,aU v fx∧al.Sub ak (aS s L)∧uM s aem (.panic fx) ak:=by
 obtain ⟨U,ad⟩:=ar.sub I;exact ⟨fx,_,hle,U,K,rfl,ad,e4⟩
theorem Env.Sub.append {a b env:Env} (h:Env.Sub a env) (k:Env.Sub b env):Env.Sub (a++b) env:=by
 induction a with
 | nil=>exact k
 | cons x a aX=>exact ⟨h.1,aX h.2⟩
def wF:List Nat→Env→Env→Env×Unit
  | [],_,acc=>(acc,())
  | t::gl,env,acc=>match env.get? t with
    | some v=>wF gl env ((t,v)::acc)
    | none=>wF gl env acc
theorem Aq:∀ (gl:List Nat) (acc E:Env),Env.Sub acc env→wF gl env acc=(E,())→Env.Sub E env
  | [],acc,E,h,e=>by cases e;exact h
  | t::gl,acc,E,h,e=>by
    simp only [wF] at e;split at e
    · rename_i v au;exact Aq gl ((t,v)::acc) E ⟨⟨v,au,aU.refl _⟩,h⟩ e
    · exact Aq gl _ E h e
theorem ae.tl {c:Code} (gl:List Nat) {E:Env} (h:wF gl env []=(E,())) (k:ae P N c Q E s):ae P N c Q env s:=ae.sub E (Aq gl [] E trivial h) k
theorem aa.tl (gl:List Nat) {E:Env} (h:wF gl env []=(E,())) (k:aa P N ops l Q E s):aa P N ops l Q env s:=aa.sub E (Aq gl [] E trivial h) k
def bp {σ:Type} (s:al) (E:σ→Env) (K:σ→a8) (aen:σ→Prop) (ok:σ→Prop) (eX:Env) (ak:al):Prop:=
 ∃ y n9 dt,aen y∧ok y∧Env.Sub (E y) eX∧ak=aS s n9∧Ok s n9∧aI n9 (K y) dt
theorem ae.yo {σ:Type} {c:Code} (I:Ok s L) (E:σ→Env) (K:σ→a8) (aen:σ→Prop) (μ:σ→Nat) (nZ:σ) {Gu:a8} (aq:aen nZ) (eB:Env.Sub (E nZ) env) (cc:aI L (K nZ) Gu)
  (round:∀ x,aen x→Ok s (K x)→ae P N c (b6.andThen (bp s E K aen (fun y=>μ y<μ x)) Q) (E x) (aS s (K x))):ae P N (.loop c) Q env (aS s L):=by
 obtain ⟨U,ad⟩:=cc.sub I;refine ae.loop E (fun x=>aS s (K x)) (fun x=>aen x∧Ok s (K x)) μ nZ ⟨aq,ad⟩ eB U ?_;rintro x ⟨ab,TY⟩;refine (round x ab TY).mono ?_;intro e eX ak h;cases e with
 | normal=>
  obtain ⟨y,n9,dt,g1,g2,g3,rfl,g4,g5⟩:=h;obtain ⟨cF,dj⟩:=g5.sub g4;exact ⟨y,⟨g1,dj⟩,g3,cF,g2⟩
 | exit id=>exact h
 | ret=>exact h
 | panic v=>exact h
theorem bp.mk {σ:Type} {E:σ→Env} {K:σ→a8} {aen:σ→Prop} {ok:σ→Prop} (y:σ) {dt:a8} (I:Ok s L) (aq:aen y) (eB:Env.Sub (E y) env) (cc:aI L (K y) dt) (hm:ok y):bp s E K aen ok env (aS s L):=⟨y,L,dt,aq,hm,eB,rfl,I,cc⟩
def lY {σ:Type} (s:al) (E:σ→Env) (K:σ→a8) (aen:σ→Prop) (e:b6) (eX:Env) (ak:al):Prop:=
 e = .normal∧∃ y n9 dt,aen y∧Env.Sub (E y) eX∧ak=aS s n9∧Ok s n9∧aI n9 (K y) dt
theorem lY.mk {σ:Type} {E:σ→Env} {K:σ→a8} {aen:σ→Prop} (y:σ) {dt:a8} (I:Ok s L) (aq:aen y) (eB:Env.Sub (E y) env) (cc:aI L (K y) dt):lY s E K aen .normal env (aS s L):=⟨rfl,y,L,dt,aq,eB,rfl,I,cc⟩
theorem ae.yp {σ:Type} {x y:Code} {oP:b6→Env→al→Prop} (E:σ→Env) (K:σ→a8) (aen:σ→Prop) (wC:ae P N x (lY s E K aen) env (aS s L)) (wD:∀ z,aen z→Ok s (K z)→ae P N y Q (E z) (aS s (K z))) :
  ae P N x (b6.andThen (ae P N y Q) oP) env (aS s L):=by
 refine wC.mono ?_;rintro e eX ak ⟨rfl,z,n9,dt,g1,g2,rfl,g3,g4⟩;obtain ⟨cF,dj⟩:=g4.sub g3;exact ae.sub _ g2 (ae.drop _ cF (wD z g1 dj))
theorem ae.TZ {σ:Type} {x y:Code} (E:σ→Env) (K:σ→a8) (aen:σ→Prop) (wC:ae P N x (lY s E K aen) env (aS s L)) (wD:∀ z,aen z→Ok s (K z)→ae P N y Q (E z) (aS s (K z))):ae P N (.seq x y) Q env (aS s L):=
 ae.seq (ae.yp E K aen wC wD)
end
section
variable {P:Program} {Γ:cy} {N:Nat} {l:List Oper} {Q:b6→Env→al→Prop} {env:Env} {s:al} {m:Nat} {L R:a8}
theorem bd.Dj {i:Nat} {o:Oper} {d:Nat} {f:FuncId} {as:Array Operand} {c3:Array TypeId} {xs:List af} {v:af} (aC:iy l.toArray m i=true) (ah:l.toArray[i]? = some o) (ay:o.dst=some d) (aT:aa' d N=true)
  (av:c4 l env o) (bY:o.op = .call { callee := .value (.func f),args:=as,argTypes:=c3 }) (aR:fP (b2 l env o) as.toList=some xs) (h:aV P f xs v)
  (k:bd P Γ N l.toArray Q (bX (m|||2^i)) ((d,v)::env) s):bd P Γ N l.toArray Q (bX m) env s:=
 bd.TW aC ah ay aT av bY aR h k
theorem bd.ez (i:Nat) (aQ:bO P Γ) (I:Ok s L) {o:Oper} {d:Nat} {t T:TypeId} {x:Operand} {dX:bN} {b off:Nat} {cs:List af} {v:af} (aC:eK l.toArray m (idxs 0 l)=[i]) (ah:l.toArray[i]? = some o) (ay:o.dst=some d)
  (aT:aa' d N=true) (av:c4 l env o) (bY:o.op = .load t x) (aL:Γ.get? t=some dX) (ab:aK (b2 l env o) x=some (.ptr b off))
  (ar:bo L (.own b) (.box T cs) R) (au:hK dX cs off=some v) (h:bd P Γ N l.toArray Q (bX (m|||2^i)) ((d,v)::env) (aS s L)):bd P Γ N l.toArray Q (bX m) env (aS s L):=
 bd.one aC ah ay aT av (a6.ez aQ I bY aL ab ar au (X:=fun _ _=>False)) (fun x ak ⟨U,ad⟩=>by subst U;subst ad;exact h) (fun _ _ h=>h.elim)
theorem bd.cM (i:Nat) (aQ:bO P Γ) (I:Ok s L) {o:Oper} {t T:TypeId} {x y:Operand} {dX:bN} {b off:Nat} {cs us:List af} {v:af} (aC:eK l.toArray m (idxs 0 l)=[i]) (ah:l.toArray[i]? = some o) (ay:o.dst=none)
  (av:c4 l env o) (bY:o.op = .store t x y) (aL:Γ.get? t=some dX) (ab:aK (b2 l env o) x=some (.ptr b off)) (ax:aK (b2 l env o) y=some v)
  (au:cellsOf v=some us) (hu:af2 us.length dX.size=true) (U:us.all e7=true) (ar:bo L (.own b) (.box T cs) R) (fz:ao5 (off+us.length) cs.length=true)
  (h:Ok s ((.own b,.box T (eS off us cs))::R)→bd P Γ N l.toArray Q (bX (m|||2^i)) env (aS s ((.own b,.box T (eS off us cs))::R))):bd P Γ N l.toArray Q (bX m) env (aS s L):=
 bd.yi aC ah ay av (a6.cM aQ I bY aL ab ax au hu U ar fz (X:=fun _ _=>False)) (fun x ak ⟨U,ad⟩=>by subst U;exact h ad) (fun _ _ h=>h.elim)
theorem bd.dK (i:Nat) (aQ:bO P Γ) (I:Ok s L) {o:Oper} {d:Nat} {t:TypeId} {dX:bN} {z:af} {cs:List af} (aC:eK l.toArray m (idxs 0 l)=[i]) (ah:l.toArray[i]? = some o) (ay:o.dst=some d)
  (aT:aa' d N=true) (av:c4 l env o) (bY:o.op = .alloc t) (aL:Γ.get? t=some dX) (bE:hD dX.zero=some z) (aF:cellsOf z=some cs)
  (h:∀ b,Ok s ((.own b,.box t cs)::L)→bd P Γ N l.toArray Q (bX (m|||2^i)) ((d,.ptr b 0)::env) (aS s ((.own b,.box t cs)::L))):bd P Γ N l.toArray Q (bX m) env (aS s L):=
 bd.one aC ah ay aT av (a6.dK aQ I bY aL bE aF (X:=fun _ _=>False)) (fun x ak ⟨b,U,ad,aj⟩=>by subst U;subst ad;exact h b aj) (fun _ _ h=>h.elim)
theorem bd.gn (i:Nat) (aQ:bO P Γ) (I:Ok s L) {o:Oper} {d:Nat} {t bK e:TypeId} {x y:Operand} {it cx aG:bN} {dU bV sz n:Nat} {xs:List af} {v:af} {own dm:bQ} (aC:eK l.toArray m (idxs 0 l)=[i]) (ah:l.toArray[i]? = some o)
  (ay:o.dst=some d) (aT:aa' d N=true) (av:c4 l env o) (bY:o.op = .call { callee := .builtin .append,args := #[x,y],argTypes := #[t,bK] }) (aL:Γ.get? t=some it)
  (bq:it.bH = .aB e) (cW:Γ.get? bK=some cx) (dr:∀ k,cx.bH ≠ .int k) (bL:Γ.get? e=some aG) (ab:aK (b2 l env o) x=some (.aB dU xs own)) (ax:aK (b2 l env o) y=some (.aB bV [v] dm)) (hX:dU=aG.size) (c6:bV=aG.size)
  (dO:af2 aG.zero.cells.size aG.size=true) (dH:kd aG.size v=true) (b':sz=aG.size) (ar:bo L own (.row e sz n) R) (az:n=xs.length) (an:(n+1)*aG.bytes≤140737488355328) (ed:n+1≤9223372036854775807)
  (h:∀ b,Ok s ((.own b,.row e sz (n+1))::R)→bd P Γ N l.toArray Q (bX (m|||2^i)) ((d,.aB sz (xs++[v]) (.own b))::env) (aS s ((.own b,.row e sz (n+1))::R))):bd P Γ N l.toArray Q (bX m) env (aS s L):=by
 subst az;refine bd.one aC ah ay aT av (a6.qY aQ I bY aL bq cW dr bL ab ax hX (.inr c6) dO (by intro y ax;simp at ax;subst ax;exact dH) an ed C (n':=xs.length+1) C b' ar (X:=fun _ _=>False)) ?_ (fun _ _ h=>h.elim);rintro r ak ⟨cS,ad,-,rfl,rfl,aj⟩;obtain ⟨b,rfl⟩:=ad ba;exact h b aj
end
section
variable {P:Program} {Γ:cy} {N:Nat} {ops:Array Oper} {Q:b6→Env→al→Prop} {env:Env} {s:al} {o:Oper} {d:Nat}
theorem a6.weaken {K X aP np:af→al→Prop} (h:a6 P N o env s K X) (bf:∀ x ak,K x ak→∃ y eN,aU x y∧al.Sub eN ak∧aP y eN) (iu:∀ x ak,X x ak→∃ eN,al.Sub eN ak∧np x eN):a6 P N o env s aP np:=by
 refine ⟨h.1,fun ro B a w p aJ=>(h.2 ro B a w p aJ).mono ?_⟩;rintro e w' ⟨ak,bj,U,ad,aj,a'⟩;cases e with
 | returned v=>
  obtain ⟨x,aA,aC⟩:=a';obtain ⟨y,eN,hle,ar,eF⟩:=bf x ak aA;exact ⟨eN,bj,U,ad.sub ar,aj.sub ar,y,eF,hle _ _ _ aC⟩
 | panicked dA=>
  obtain ⟨v,x,kT,aA,aC⟩:=a';obtain ⟨eN,ar,eF⟩:=iu x ak aA;exact ⟨eN,bj,U,ad.sub ar,aj.sub ar,v,x,kT,eF,aC⟩
 | outgrown=>exact a'.elim
theorem a6.r0 (aQ:bO P Γ) {t bK e:TypeId} {x y:Operand} {it cx aG:bN} {dU bV:Nat} {xs ys:List af} {own dm:bQ}
  (ah:o.op = .call { callee := .builtin .append,args := #[x,y],argTypes := #[t,bK] }) (aL:Γ.get? t=some it) (bq:it.bH = .aB e) (cW:Γ.get? bK=some cx) (dr:∀ k,cx.bH ≠ .int k)
  (bL:Γ.get? e=some aG) (ab:aK env x=some (.aB dU xs own)) (ax:aK env y=some (.aB bV ys dm)) (hX:xs=[]∨dU=aG.size) (c6:ys=[]∨bV=aG.size)
  (dO:af2 aG.zero.cells.size aG.size=true) (dH:∀ y∈ys,kd aG.size y=true) (an:(xs.length+ys.length)*aG.bytes≤140737488355328) (ed:xs.length+ys.length≤9223372036854775807)
  (pY:own = .nil∨own = .clip) {X:af→al→Prop}:a6 P N o env s (fun r ak=>r = .aB aG.size (xs++ys) .bc∧ak=s) X:=by
 refine (a6.append aQ ah aL bq cW dr bL ab ax hX c6 dO dH an ed (.inl pY) (X:=X)).weaken ?_ (fun _ ak h=>⟨ak,al.oU _,h⟩);rintro r ak (⟨rfl,_,rfl,rfl⟩|⟨s₁,wc,b,U,rfl,rfl⟩)
 ·exact ⟨_,_,by rw [d7];exact aU.bc,al.oU _,rfl,rfl⟩
 ·rcases wc with rfl|⟨aW,rfl,rfl⟩
  ·exact ⟨_,_,aU.bc,al.vX _ _ _ U,rfl,rfl⟩
  ·rcases pY with e|e<;>cases e
theorem aa.r0 (aQ:bO P Γ) {l:List Oper} {t bK e:TypeId} {x y:Operand} {it cx aG:bN} {dU bV:Nat} {xs ys:List af} {own dm:bQ} (av:guardOf ops env o=some true) (ay:o.dst=some d) (aT:aa' d N=true)
  (ah:o.op = .call { callee := .builtin .append,args := #[x,y],argTypes := #[t,bK] }) (aL:Γ.get? t=some it) (bq:it.bH = .aB e) (cW:Γ.get? bK=some cx) (dr:∀ k,cx.bH ≠ .int k)
  (bL:Γ.get? e=some aG) (ab:aK env x=some (.aB dU xs own)) (ax:aK env y=some (.aB bV ys dm)) (hX:xs=[]∨dU=aG.size) (c6:ys=[]∨bV=aG.size)
  (dO:af2 aG.zero.cells.size aG.size=true) (dH:∀ y∈ys,kd aG.size y=true) (an:(xs.length+ys.length)*aG.bytes≤140737488355328) (ed:xs.length+ys.length≤9223372036854775807)
  (pY:own = .nil∨own = .clip) (h:aa P N ops l Q ((d,.aB aG.size (xs++ys) .bc)::env) s):aa P N ops (o::l) Q env s:=
 aa.op av ay aT (a6.r0 aQ ah aL bq cW dr bL ab ax hX c6 dO dH an ed pY (X:=fun _ _=>False)) (fun x ak ⟨U,ad⟩=>by subst U;subst ad;exact h) (fun _ _ h=>h.elim)
theorem bd.r0 (i:Nat) (aQ:bO P Γ) {l:List Oper} {m:Nat} {t bK e:TypeId} {x y:Operand} {it cx aG:bN} {dU bV:Nat} {xs ys:List af} {own dm:bQ} (aC:iy l.toArray m i=true) (aN:l.toArray[i]? = some o) (ay:o.dst=some d) (aT:aa' d N=true)
  (av:c4 l env o)
  (ah:o.op = .call { callee := .builtin .append,args := #[x,y],argTypes := #[t,bK] }) (aL:Γ.get? t=some it) (bq:it.bH = .aB e) (cW:Γ.get? bK=some cx) (dr:∀ k,cx.bH ≠ .int k)
  (bL:Γ.get? e=some aG) (ab:aK (b2 l env o) x=some (.aB dU xs own)) (ax:aK (b2 l env o) y=some (.aB bV ys dm)) (hX:xs=[]∨dU=aG.size) (c6:ys=[]∨bV=aG.size)
  (dO:af2 aG.zero.cells.size aG.size=true) (dH:∀ y∈ys,kd aG.size y=true) (an:(xs.length+ys.length)*aG.bytes≤140737488355328) (ed:xs.length+ys.length≤9223372036854775807)
  (pY:own = .nil∨own = .clip) (h:bd P Γ N l.toArray Q (bX (m|||2^i)) ((d,.aB aG.size (xs++ys) .bc)::env) s):bd P Γ N l.toArray Q (bX m) env s:=
 bd.calm aC aN ay aT av (fun _=>a6.r0 aQ ah aL bq cW dr bL ab ax hX c6 dO dH an ed pY) h
end
def dI:List (Nat×dC)→al→Prop
 | [],_=>True
 | e::K,s=>s e.1=some e.2∧dI K s
theorem dI.one {b:Nat} {o:dC} {s:al} (h:s b=some o):dI [(b,o)] s:=⟨h,trivial⟩
theorem dI.two {b aW:Nat} {o o':dC} {s:al} (h:s b=some o) (eL:s aW=some o'):dI [(b,o),(aW,o')] s:=⟨h,eL,trivial⟩
theorem dI.fst {b:Nat} {o:dC} {K:List (Nat×dC)} {s:al} (h:dI ((b,o)::K) s):s b=some o:=h.1
theorem dI.snd {e:Nat×dC} {b:Nat} {o:dC} {K:List (Nat×dC)} {s:al} (h:dI (e::(b,o)::K) s):s b=some o:=h.2.1
section
variable {J:al→Prop} {P:Program} {Γ:cy} {N:Nat} {l:List Oper} {Q:b6→Env→al→Prop} {env:Env} {s:al} {m:Nat} {L R:a8} {o:Oper} {d:Nat}
theorem bm.oa (i:Nat) (aQ:bO P Γ) (cL:J s) {t T:TypeId} {x:Operand} {dX:bN} {b off:Nat} {cs:List af} {v:af} (aC:iy l.toArray m i=true) (ah:l.toArray[i]? = some o) (ay:o.dst=some d) (aT:aa' d N=true)
  (av:c4 l env o) (bY:o.op = .load t x) (aL:Γ.get? t=some dX) (ab:aK (b2 l env o) x=some (.ptr b off)) (ar:∀ s,J s→s b=some (.box T cs)) (au:hK dX cs off=some v)
  (h:bm J P Γ N l.toArray Q (bX (m|||2^i)) ((d,v)::env) s):bm J P Γ N l.toArray Q (bX m) env s:=
 bm.rY cL aC ah ay aT av (fun s hF=>a6.uB aQ bY aL ab (ar s hF) au) h
theorem bm.r0 (i:Nat) (aQ:bO P Γ) (cL:J s) {t bK e:TypeId} {x y:Operand} {it cx aG:bN} {dU bV:Nat} {xs ys:List af} {own dm:bQ} (aC:iy l.toArray m i=true) (aN:l.toArray[i]? = some o) (ay:o.dst=some d) (aT:aa' d N=true)
  (av:c4 l env o)
  (ah:o.op = .call { callee := .builtin .append,args := #[x,y],argTypes := #[t,bK] }) (aL:Γ.get? t=some it) (bq:it.bH = .aB e) (cW:Γ.get? bK=some cx) (dr:∀ k,cx.bH ≠ .int k)
  (bL:Γ.get? e=some aG) (ab:aK (b2 l env o) x=some (.aB dU xs own)) (ax:aK (b2 l env o) y=some (.aB bV ys dm)) (hX:xs=[]∨dU=aG.size) (c6:ys=[]∨bV=aG.size)
  (dO:af2 aG.zero.cells.size aG.size=true) (dH:∀ y∈ys,kd aG.size y=true) (an:(xs.length+ys.length)*aG.bytes≤140737488355328) (ed:xs.length+ys.length≤9223372036854775807)
  (pY:own = .nil∨own = .clip) (h:bm J P Γ N l.toArray Q (bX (m|||2^i)) ((d,.aB aG.size (xs++ys) .bc)::env) s):bm J P Γ N l.toArray Q (bX m) env s:=
 bm.rY cL aC aN ay aT av (fun _ _=>a6.r0 aQ ah aL bq cW dr bL ab ax hX c6 dO dH an ed pY) h
theorem bm.Dj {i:Nat} (cL:J s) {f:FuncId} {as:Array Operand} {c3:Array TypeId} {xs:List af} {v:af} (aC:iy l.toArray m i=true) (ah:l.toArray[i]? = some o) (ay:o.dst=some d) (aT:aa' d N=true)
  (av:c4 l env o) (bY:o.op = .call { callee := .value (.func f),args:=as,argTypes:=c3 }) (aR:fP (b2 l env o) as.toList=some xs) (h:aV P f xs v)
  (k:bm J P Γ N l.toArray Q (bX (m|||2^i)) ((d,v)::env) s):bm J P Γ N l.toArray Q (bX m) env s:=
 bm.rY cL aC ah ay aT av (fun s _=>(a6.call bY (fv := .func f [] []) rfl aR (hO.fk (R:=fun o ak=>o = .ret v∧ak=s) (by simpa using h s))).mono (fun x ak h=>by cases h.1;exact ⟨rfl,h.2⟩) (fun x ak h=>by cases h.1)) k
theorem bm.cM (i:Nat) (aQ:bO P Γ) (I:Ok s L) {t T:TypeId} {x y:Operand} {dX:bN} {b off:Nat} {cs us:List af} {v:af} (aC:eK l.toArray m (idxs 0 l)=[i]) (ah:l.toArray[i]? = some o) (ay:o.dst=none)
  (av:c4 l env o) (bY:o.op = .store t x y) (aL:Γ.get? t=some dX) (ab:aK (b2 l env o) x=some (.ptr b off)) (ax:aK (b2 l env o) y=some v)
  (au:cellsOf v=some us) (hu:af2 us.length dX.size=true) (U:us.all e7=true) (ar:bo L (.own b) (.box T cs) R) (fz:ao5 (off+us.length) cs.length=true)
  (aH:Ok s ((.own b,.box T (eS off us cs))::R)→J (aS s ((.own b,.box T (eS off us cs))::R))∨kA l.toArray i=true)
  (h:Ok s ((.own b,.box T (eS off us cs))::R)→bm J P Γ N l.toArray Q (bX (m|||2^i)) env (aS s ((.own b,.box T (eS off us cs))::R))):bm J P Γ N l.toArray Q (bX m) env (aS s L):=
 bm.yi aC ah ay av (a6.cM aQ I bY aL ab ax au hu U ar fz (X:=fun _ _=>False)) (fun x ak ⟨U,ad⟩=>by subst U;exact aH ad) (fun x ak ⟨U,ad⟩=>by subst U;exact h ad) (fun _ _ h=>h.elim)
theorem bm.dK (i:Nat) (aQ:bO P Γ) (I:Ok s L) {t:TypeId} {dX:bN} {z:af} {cs:List af} (aC:eK l.toArray m (idxs 0 l)=[i]) (ah:l.toArray[i]? = some o) (ay:o.dst=some d)
  (aT:aa' d N=true) (av:c4 l env o) (bY:o.op = .alloc t) (aL:Γ.get? t=some dX) (bE:hD dX.zero=some z) (aF:cellsOf z=some cs)
  (aH:∀ b,Ok s ((.own b,.box t cs)::L)→J (aS s ((.own b,.box t cs)::L))∨kA l.toArray i=true)
  (h:∀ b,Ok s ((.own b,.box t cs)::L)→bm J P Γ N l.toArray Q (bX (m|||2^i)) ((d,.ptr b 0)::env) (aS s ((.own b,.box t cs)::L))):bm J P Γ N l.toArray Q (bX m) env (aS s L):=
 bm.one aC ah ay aT av (a6.dK aQ I bY aL bE aF (X:=fun _ _=>False)) (fun x ak ⟨b,U,ad,aj⟩=>by subst U;subst ad;exact aH b aj) (fun x ak ⟨b,U,ad,aj⟩=>by subst U;subst ad;exact h b aj) (fun _ _ h=>h.elim)
theorem bm.qY (i:Nat) (aQ:bO P Γ) (I:Ok s L) {t bK e:TypeId} {x y:Operand} {it cx aG:bN} {dU bV sz n n':Nat} {xs ys:List af} {own dm:bQ} (aC:eK l.toArray m (idxs 0 l)=[i]) (ah:l.toArray[i]? = some o)
  (ay:o.dst=some d) (aT:aa' d N=true) (av:c4 l env o) (bY:o.op = .call { callee := .builtin .append,args := #[x,y],argTypes := #[t,bK] }) (aL:Γ.get? t=some it)
  (bq:it.bH = .aB e) (cW:Γ.get? bK=some cx) (dr:∀ k,cx.bH ≠ .int k) (bL:Γ.get? e=some aG) (ab:aK (b2 l env o) x=some (.aB dU xs own)) (ax:aK (b2 l env o) y=some (.aB bV ys dm)) (hX:dU=aG.size) (c6:ys=[]∨bV=aG.size)
  (dO:af2 aG.zero.cells.size aG.size=true) (dH:∀ y∈ys,kd aG.size y=true) (b':sz=aG.size) (ar:bo L own (.row e sz n) R) (az:n=xs.length) (fZ:n'=xs.length+ys.length) (an:(xs.length+ys.length)*aG.bytes≤140737488355328) (ed:xs.length+ys.length≤9223372036854775807)
  (aH:∀ cS,Ok s ((cS,.row e sz n')::R)→J (aS s ((cS,.row e sz n')::R))∨kA l.toArray i=true)
  (h:∀ cS,Ok s ((cS,.row e sz n')::R)→bm J P Γ N l.toArray Q (bX (m|||2^i)) ((d,.aB sz (xs++ys) cS)::env) (aS s ((cS,.row e sz n')::R))):bm J P Γ N l.toArray Q (bX m) env (aS s L):=by
 refine bm.one aC ah ay aT av (a6.qY aQ I bY aL bq cW dr bL ab ax hX c6 dO dH an ed az fZ b' ar (X:=fun _ _=>False)) ?_ ?_ (fun _ _ h=>h.elim)
 ·rintro r ak ⟨cS,-,-,rfl,rfl,aj⟩
  exact aH cS aj
 ·rintro r ak ⟨cS,-,-,rfl,rfl,aj⟩
  exact h cS aj
theorem bm.gn (i:Nat) (aQ:bO P Γ) (I:Ok s L) {t bK e:TypeId} {x y:Operand} {it cx aG:bN} {dU bV sz n:Nat} {xs:List af} {v:af} {own dm:bQ} (aC:eK l.toArray m (idxs 0 l)=[i]) (ah:l.toArray[i]? = some o)
  (ay:o.dst=some d) (aT:aa' d N=true) (av:c4 l env o) (bY:o.op = .call { callee := .builtin .append,args := #[x,y],argTypes := #[t,bK] }) (aL:Γ.get? t=some it)
  (bq:it.bH = .aB e) (cW:Γ.get? bK=some cx) (dr:∀ k,cx.bH ≠ .int k) (bL:Γ.get? e=some aG) (ab:aK (b2 l env o) x=some (.aB dU xs own)) (ax:aK (b2 l env o) y=some (.aB bV [v] dm)) (hX:dU=aG.size) (c6:bV=aG.size)
  (dO:af2 aG.zero.cells.size aG.size=true) (dH:kd aG.size v=true) (b':sz=aG.size) (ar:bo L own (.row e sz n) R) (az:n=xs.length) (an:(n+1)*aG.bytes≤140737488355328) (ed:n+1≤9223372036854775807)
  (aH:∀ cS,Ok s ((cS,.row e sz (n+1))::R)→J (aS s ((cS,.row e sz (n+1))::R))∨kA l.toArray i=true)
  (h:∀ cS,Ok s ((cS,.row e sz (n+1))::R)→bm J P Γ N l.toArray Q (bX (m|||2^i)) ((d,.aB sz (xs++[v]) cS)::env) (aS s ((cS,.row e sz (n+1))::R))):bm J P Γ N l.toArray Q (bX m) env (aS s L):=by
 subst az;exact bm.qY i aQ I aC ah ay aT av bY aL bq cW dr bL ab ax hX (.inr c6) dO (by intro y ax;simp at ax;subst ax;exact dH) b' ar C C an ed aH h
theorem bm.b7 {aem:ey→a8→Prop} {K:a8} {i:Nat} {f:FuncId} {as:Array Operand} {c3:Array TypeId} {xs:List af} (aC:eK l.toArray m (idxs 0 l)=[i]) (ah:l.toArray[i]? = some o) (ay:o.dst=some d) (aT:aa' d N=true)
  (av:c4 l env o) (bY:o.op = .call { callee := .value (.func f),args:=as,argTypes:=c3 }) (aR:fP (b2 l env o) as.toList=some xs) (h:bF P f xs K aem) (I:Ok s L) (ar:aI L K R)
  (aH:∀ x aP,aem (.ret x) aP→Ok s (aP++R)→J (aS s (aP++R))∨kA l.toArray i=true)
  (aA:∀ x aP,aem (.ret x) aP→Ok s (aP++R)→bm J P Γ N l.toArray Q (bX (m|||2^i)) ((d,x)::env) (aS s (aP++R))) (ab:∀ x aP,aem (.panic x) aP→Ok s (aP++R)→Q (.panic x) [] (aS s (aP++R))):bm J P Γ N l.toArray Q (bX m) env (aS s L):=
 bm.one aC ah ay aT av (a6.b7 bY aR h I ar) (fun x ak ⟨aP,U,ad,aj⟩=>by subst U;exact aH x aP aj ad) (fun x ak ⟨aP,U,ad,aj⟩=>by subst U;exact aA x aP aj ad) (fun x ak ⟨aP,U,ad,aj⟩=>by subst U;exact ab x aP aj ad)
theorem bm.gJ {aem:ey→a8→Prop} {K:a8} {i:Nat} {g:Operand} {fv:af} {as:Array Operand} {c3:Array TypeId} {xs:List af} (aC:eK l.toArray m (idxs 0 l)=[i]) (ah:l.toArray[i]? = some o) (ay:o.dst=some d) (aT:aa' d N=true)
  (av:c4 l env o) (bY:o.op = .call { callee := .value g,args:=as,argTypes:=c3 }) (au:aK (b2 l env o) g=some fv) (aR:fP (b2 l env o) as.toList=some xs) (h:di P fv xs K aem) (I:Ok s L) (ar:aI L K R)
  (aH:∀ x aP,aem (.ret x) aP→Ok s (aP++R)→J (aS s (aP++R))∨kA l.toArray i=true)
  (aA:∀ x aP,aem (.ret x) aP→Ok s (aP++R)→bm J P Γ N l.toArray Q (bX (m|||2^i)) ((d,x)::env) (aS s (aP++R))) (ab:∀ x aP,aem (.panic x) aP→Ok s (aP++R)→Q (.panic x) [] (aS s (aP++R))):bm J P Γ N l.toArray Q (bX m) env (aS s L):=
 bm.one aC ah ay aT av (a6.gJ bY au aR h I ar) (fun x ak ⟨aP,U,ad,aj⟩=>by subst U;exact aH x aP aj ad) (fun x ak ⟨aP,U,ad,aj⟩=>by subst U;exact aA x aP aj ad) (fun x ak ⟨aP,U,ad,aj⟩=>by subst U;exact ab x aP aj ad)
end
section
variable {J:al→Prop} {P:Program} {Γ:cy} {N:Nat} {ops:Array Oper} {Q:b6→Env→al→Prop} {env:Env} {s:al} {o:Oper} {d m:Nat} {L:a8} {l:List Oper}
theorem a6.Ar (aQ:bO P Γ) (I:Ok s L) {t bK e:TypeId} {x y:Operand} {it cx aG:bN} {dU bV sz n':Nat} {ys:List af} {dm:bQ}
  (ah:o.op = .call { callee := .builtin .append,args := #[x,y],argTypes := #[t,bK] }) (aL:Γ.get? t=some it) (bq:it.bH = .aB e) (cW:Γ.get? bK=some cx) (dr:∀ k,cx.bH ≠ .int k)
  (bL:Γ.get? e=some aG) (ab:aK env x=some (.aB dU [] .nil)) (ax:aK env y=some (.aB bV ys dm)) (c6:ys=[]∨bV=aG.size)
  (dO:af2 aG.zero.cells.size aG.size=true) (dH:∀ y∈ys,kd aG.size y=true) (b':sz=aG.size) (fZ:n'=ys.length) (an:n'*aG.bytes≤140737488355328) (ed:n'≤9223372036854775807) {X:af→al→Prop} :
  a6 P N o env (aS s L) (fun r ak=>∃ cS,r = .aB sz ys cS∧ak=aS s ((cS,.row e sz n')::L)∧Ok s ((cS,.row e sz n')::L)) X:=by
 subst b';subst fZ;refine (a6.append aQ ah aL bq cW dr bL ab ax (.inl C) c6 dO dH (by simpa using an) (by simpa using ed) (.inl (.inl C)) (X:=X)).mono ?_ (fun _ _ h=>h);rintro r ak (⟨U,-,rfl,rfl⟩|⟨s₁,wc,b,U,rfl,rfl⟩)
 ·exact ⟨.nil,by rw [U],rfl,trivial,I⟩
 ·rcases wc with rfl|⟨aW,e,-⟩
  ·exact ⟨.own b,by simp,by simp only [List.length_nil,Nat.zero_add];rfl,U,I⟩
  ·cases e
theorem aa.Ar (aQ:bO P Γ) (I:Ok s L) {t bK e:TypeId} {x y:Operand} {it cx aG:bN} {dU bV sz n':Nat} {ys:List af} {dm:bQ} (av:guardOf ops env o=some true) (ay:o.dst=some d) (aT:aa' d N=true)
  (ah:o.op = .call { callee := .builtin .append,args := #[x,y],argTypes := #[t,bK] }) (aL:Γ.get? t=some it) (bq:it.bH = .aB e) (cW:Γ.get? bK=some cx) (dr:∀ k,cx.bH ≠ .int k)
  (bL:Γ.get? e=some aG) (ab:aK env x=some (.aB dU [] .nil)) (ax:aK env y=some (.aB bV ys dm)) (c6:ys=[]∨bV=aG.size)
  (dO:af2 aG.zero.cells.size aG.size=true) (dH:∀ y∈ys,kd aG.size y=true) (b':sz=aG.size) (fZ:n'=ys.length) (an:n'*aG.bytes≤140737488355328) (ed:n'≤9223372036854775807)
  (h:∀ cS,Ok s ((cS,.row e sz n')::L)→aa P N ops l Q ((d,.aB sz ys cS)::env) (aS s ((cS,.row e sz n')::L))):aa P N ops (o::l) Q env (aS s L):=
 aa.op av ay aT (a6.Ar aQ I ah aL bq cW dr bL ab ax c6 dO dH b' fZ an ed (X:=fun _ _=>False)) (fun r ak ⟨cS,U,ad,aj⟩=>by subst U;subst ad;exact h cS aj) (fun _ _ h=>h.elim)
theorem bm.Ar (i:Nat) (aQ:bO P Γ) (I:Ok s L) {t bK e:TypeId} {x y:Operand} {it cx aG:bN} {dU bV sz n':Nat} {ys:List af} {dm:bQ} (aC:eK l.toArray m (idxs 0 l)=[i]) (aN:l.toArray[i]? = some o) (ay:o.dst=some d) (aT:aa' d N=true)
  (av:c4 l env o)
  (ah:o.op = .call { callee := .builtin .append,args := #[x,y],argTypes := #[t,bK] }) (aL:Γ.get? t=some it) (bq:it.bH = .aB e) (cW:Γ.get? bK=some cx) (dr:∀ k,cx.bH ≠ .int k)
  (bL:Γ.get? e=some aG) (ab:aK (b2 l env o) x=some (.aB dU [] .nil)) (ax:aK (b2 l env o) y=some (.aB bV ys dm)) (c6:ys=[]∨bV=aG.size)
  (dO:af2 aG.zero.cells.size aG.size=true) (dH:∀ y∈ys,kd aG.size y=true) (b':sz=aG.size) (fZ:n'=ys.length) (an:n'*aG.bytes≤140737488355328) (ed:n'≤9223372036854775807)
  (aH:∀ cS,Ok s ((cS,.row e sz n')::L)→J (aS s ((cS,.row e sz n')::L))∨kA l.toArray i=true)
  (h:∀ cS,Ok s ((cS,.row e sz n')::L)→bm J P Γ N l.toArray Q (bX (m|||2^i)) ((d,.aB sz ys cS)::env) (aS s ((cS,.row e sz n')::L))):bm J P Γ N l.toArray Q (bX m) env (aS s L):=
 bm.one aC aN ay aT av (a6.Ar aQ I ah aL bq cW dr bL ab ax c6 dO dH b' fZ an ed (X:=fun _ _=>False)) (fun r ak ⟨cS,U,ad,aj⟩=>by subst U;subst ad;exact aH cS aj) (fun r ak ⟨cS,U,ad,aj⟩=>by subst U;subst ad;exact h cS aj) (fun _ _ h=>h.elim)
end
end Go.Proofs.YtnafpeohfbglmaaGreat
